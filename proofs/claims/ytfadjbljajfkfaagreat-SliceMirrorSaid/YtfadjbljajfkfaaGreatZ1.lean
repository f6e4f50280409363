/- sliceMirror.proved: for every input the law returns true. No condition. Part 1 of 7. -/
import Derived.Calls
import Derived.IntWalk
import Derived.KernelRfl
import Derived.Laws.AppendOwn
import Derived.Laws.CopyRow
import Derived.Laws.Entries
import Derived.Laws.Sem
import Derived.Laws.Strings
import Derived.MapKept
import Derived.Maps.RangeRun
import Derived.Orders
import Derived.OrdersHeld
import Derived.StillTail
import Derived.Test.YtfadjbljajfkfaaGreatProg
set_option maxRecDepth 1000000
set_option maxHeartbeats 8000000
set_option linter.unusedVariables false
set_option linter.unusedSimpArgs false
set_option linter.unnecessarySimpa false
set_option linter.defProp false
namespace Go.Proofs.YtfadjbljajfkfaaGreat
open Go Tryz
def dN0:=@Array.getElem?_eq_some_iff
def dO8:=@Bool.and_eq_true
def dS7:=@Bool.false_eq_true
def dX4:=@Bool.or_eq_true
def dW0:=@List.all_eq_true
def dW6:=@List.getElem?_drop
def dP4:=@List.length_cons
def dX9:=@List.mem_of_mem_drop
def dW3:=@Nat.add_assoc
def dO0:=@Nat.le_refl
def dQ7:=@Nat.lt_or_ge
def dQ3:=@decide_eq_true_eq
def dU1:=@if_false
def dS6:=@if_true
abbrev Fr:=Nat->Value
def ad9(a:Act):Fr:=λi=>a.tmps.getD i undef
def p8(f:Fr)(d:Nat)(v:Value):Fr:=λi=>if i=d then v else f i
theorem dK1{f:Fr}{d:Nat}{v:Value}{i:Nat}:p8 f d v i=if i=d then v else f i:=rfl
def C4(f:Fr):Option Nat->Value->Fr
 | some d,v=>p8 f d v
 | none,_=>f
def okd(n:Nat):Option Nat->Bool
 | some d=>decide (d<n)
 | none=>true
def ev(f:Fr):Operand->Value
 | .tmp t=>f t
 | .const v=>v
 | .global g=>.pointer (some ⟨g,0,none⟩)
 | .func g=>.func (.func g) #[] #[]
theorem bL2(a:Act):a.eval=ev (ad9 a):=by
 funext x;cases x<;>rfl
def aX6(a:Act)(d:Option Nat)(v:Value):(a.put d v).tmps.size=a.tmps.size:=by
 cases d<;>simp[Act.put]
def aD1(a:Act)(d:Option Nat)(v:Value):(a.put d v).defers=a.defers:=by
 cases d<;>simp[Act.put]
def aU9(a:Act)(d:Option Nat)(v:Value)(h:okd a.tmps.size d=true):ad9 (a.put d v)=C4 (ad9 a) d v:=by
 cases d with
 | none=>rfl
 | some d=>
  have b:d<a.tmps.size:=by simpa[okd]using h
  funext i
  simp only[ad9,Act.put,C4,p8,Array.getD_eq_getD_getElem?,Array.getElem?_setIfInBounds];by_cases hi:i=d
  ·subst hi;simp[b]
  ·have:¬d=i:=λe=>hi e.symm;simp[hi,this]
def aO3(ops:Array Oper)(f:Fr)(j:Nat):Option Bool:=
 match(ops[j]?).bind (·.dst)with
 | some d=>match f d with
   | .bool b=>some b
   | _=>none
 | none=>none
theorem ap3(ops:Array Oper)(a:Act):yielded ops a.tmps=aO3 ops (ad9 a):=by
 funext j
 unfold yielded aO3;cases h:(ops[j]?).bind (·.dst)with
 | none=>simp
 | some d=>
  simp only[Option.bind_some,ad9,Array.getD_eq_getD_getElem?];cases h2:a.tmps[d]? with
  | none=>simp[undef]
  | some v=>cases v<;>rfl
def P9(P:Program)(o:Oper)(K:Fr->World->Prop)(f:Fr)(w:World):Prop:=
 match(execOp (ev f) o).run P w with
 | .ok (.value v) w'=>K (C4 f o.dst v) w'
 | .ok .skip w'=>K (C4 f o.dst undef) w'
 | .ok (.enter g args) w'=>Calls P g args w' λe a=>∃v,e = .returned v/\K (C4 f o.dst v) a
 | _=>False
def aj7{P:Program}{o:Oper}{K b:Fr->World->Prop}{f:Fr}{w:World}(h:∀f w,K f w->b f w)(a:P9 P o K f w):P9 P o b f w:=by
 unfold P9 at *;generalize(execOp (ev f) o).run P w=r at *;cases r with
 | halt x i=>exact a
 | ok n i=>
  cases n
  case value v=>exact h _ _ a
  case skip=>exact h _ _ a
  case enter g args=>exact Calls.mono a λe j ⟨v,c,d⟩=>⟨v,c,h _ _ d⟩
  all_goals exact a
def bx5(P:Program)(S:World->Prop)(o:Oper)(f:Fr)(v:Value):Prop:=
 ∀w,S w->(execOp (ev f) o).run P w = .ok (.value v) w
def lft(n:Nat)(Q:Exit->Fr->World->Prop):Exit->Act->World->Prop:=λe a w=>
 a.tmps.size=n/\a.defers=[]/\Q e (ad9 a) w
def bl6{P:Program}{o:Oper}{K:Fr->World->Prop}{a:Act}{w:World}{n:Nat}{Q:Exit->Act->World->Prop}
  {i:Act->World->Prop} (hn:a.tmps.size=n) (k:a.defers=[]) (p:okd n o.dst=true)
  (j:∀f b,f.tmps.size=n->f.defers=[]->K (ad9 f) b->i f b) (d:P9 P o K (ad9 a) w):o.wp P a w i Q:=by
 unfold P9 at d;unfold Oper.wp;rw[bL2];generalize(execOp (ev (ad9 a)) o).run P w=r at *;have c:∀v b,K (C4 (ad9 a) o.dst v) b->i (a.put o.dst v) b:=λv b h=>
  j _ _ (by rw[aX6];exact hn) (by rw[aD1];exact k) (by rw[aU9 _ _ _ (by rw[hn];exact p)];exact h)
 cases r with
 | halt x b=>exact d.elim
 | ok n b=>
  cases n
  case value v=>exact c _ _ d
  case skip=>exact c _ _ d
  case enter g args=>exact Calls.mono d λe q ⟨v,l,m⟩=>by subst l;exact c _ _ m
  all_goals exact d.elim
def Run(P:Program)(ops:Array Oper):List Oper->(Fr->World->Prop)->Fr->World->Prop
 | [],K,f,w=>K f w
 | o::l,K,f,w=>if Region.wanted o (aO3 ops f)then P9 P o (Run P ops l K) f w else Run P ops l K (C4 f o.dst undef) w
def cK1(n:Nat)(ops:Array Oper):Bool:=ops.all λo=>okd n o.dst
def aw7{P:Program}{ops:Array Oper}{n:Nat}{Q:Exit->Fr->World->Prop}:∀(l:List Oper) (a:Act) (w:World),(∀o∈l,okd n o.dst=true) ->
  a.tmps.size=n->a.defers=[]->Run P ops l (Q .normal) (ad9 a) w->wpList P ops (lft n Q) l a w
 | [],a,w,_,hn,hd,h=>⟨hn,hd,h⟩
 | o::l,a,w,ho,hn,hd,h=>by
  unfold Run at h;unfold wpList;rw[ap3];split
  ·rename_i e;rw[if_pos e]at h;exact .inl (bl6 hn hd (ho o (by simp)) (λg j d c i=>aw7 l g j (λf b=>ho f (by simp[b])) d c i) h)
  ·rename_i e;rw[if_neg e]at h;exact aw7 l _ _ (λf b=>ho f (by simp[b])) (by rw[aX6];exact hn) (by rw[aD1];exact hd)
    (by rw[aU9 _ _ _ (by rw[hn];exact ho o (by simp))];exact h)
def flt:Op->Bool
 | .move _ | .assign _ | .pick .. | .load .. | .nilCheck _ | .binOp .. | .unOp .. | .convert .. | .makeFunc .. | .slice .. | .fieldAddr .. | .field .. | .indexAddr .. | .index .. | .lookup .. | .extract ..=>true
 | .call {callee:=.builtin b,..}=>match b with
   | .len | .cap | .min | .max=>true
   | _=>false
 | _=>false
inductive aG5 where
 | nil
 | op (i:Nat) (r:aG5)
 | fork (rs:List Nat) (k:Nat->aG5)
def au4(P:Program)(ops:Array Oper)(S:World->Prop):aG5->(Fr->World->Prop)->Fr->World->Prop
 | .nil,K,f,w=>K f w
 | .op i l,K,f,w=>
  match ops[i]? with
  | none=>False
  | some o=>
   if Region.wanted o (aO3 ops f)then
    if flt o.op then ∃v,bx5 P S o f v/\au4 P ops S l K (C4 f o.dst v) w
    else P9 P o (λb a=>S a/\au4 P ops S l K b a) f w
   else au4 P ops S l K (C4 f o.dst undef) w
 | .fork rs k,K,f,w=>∀i∈rs,
   match ops[i]? with
   | none=>False
   | some o=>
    if Region.wanted o (aO3 ops f)then P9 P o (λb a=>S a/\au4 P ops S (k i) K b a) f w
    else au4 P ops S (k i) K (C4 f o.dst undef) w
def aW9(ops:Array Oper)(n:Nat):Nat->aG5->Array Bool->Bool
 | 0,.nil,listed=>Region.seqB .any ops (ops.size-n) n listed
 | m+1,.op i l,listed=>decide (i<n)&&(match ops[i]? with
   | none=>false
   | some o=>(if flt o.op then(Region.ready .any ops listed).contains i&&Region.free .any ops listed i else decide (Region.ready .any ops listed=[i]))) &&
  aW9 ops n m l (listed.setIfInBounds i true)
 | m+1,.fork rs k,listed=>decide (Region.ready .any ops listed=rs) && !rs.isEmpty&&rs.all λi=>decide (i<n)&&aW9 ops n m (k i) (listed.setIfInBounds i true)
 | _,_,_=>false
def bZ1(ops:Array Oper)(n:Nat)(a:aG5):Bool:=
 Region.noSelect ops&&(decide (n=ops.size)||(decide (n<ops.size)&&Region.sinkB .any ops n&&Region.chainB .any ops n)) &&
 aW9 ops n n a (Array.replicate ops.size false)
section
variable {P:Program} {ops:Array Oper} {Q:Exit->Act->World->Prop} {S:World->Prop}
def aT3(P:Program)(ops:Array Oper)(Q:Exit->Act->World->Prop)(S:World->Prop)(n:Nat):Nat->Array Bool->Act->World->Prop
 | 0,listed,a,w=>Region.ready .any ops listed=[]/\Q .normal a w
 | fuel+1,listed,a,w=>
  (Region.ready .any ops listed=[]->Q .normal a w) /\
  ∀i∈Region.ready .any ops listed,wpOp P ops Q i (λc b=>(i<n->S b)/\aT3 P ops Q S n fuel (listed.setIfInBounds i true) c b) a w
def by7{n:Nat}:∀(b:Nat) (c:Array Bool) (a:Act) (w:World),aT3 P ops Q S n b c a w->wpAny P .any ops Q b c a w
 | 0,_,_,_,h=>h
 | b+1,_,_,_,h=>⟨h.1,λi f=>wpOp_mono (λd g e=>by7 b _ d g e.2) (h.2 i f)⟩
def bP9{n i:Nat}{u:Oper}{v:Value}(M:ops[i]?=some u)(q:∀(j:Nat) (o:Oper) z b,ops[j]?=some o->o.op ≠ .select z b)
  (V:∀c a w,Q (.panic c) (a.put u.dst v) w->Q (.panic c) a w) (Y:i<n)
  (R:∀d,HeadInv .any ops n d->d.getD i true=false->∀t,n<=t->t∉Region.ready .any ops d) :
  ∀(f:Nat) (d:Array Bool) (a:Act) (w:World),HeadInv .any ops n d ->
   (∀j x,ops[j]?=some x->j≠i->d.getD j true=false->(∀e∈x.after,Region.binds .any e=true->e.on≠i)->u.apart ops x=true) ->
   i∈Region.ready .any ops d->YieldsIf P ops S u v a->S w ->
   aT3 P ops Q S n f (d.setIfInBounds i true) (a.put u.dst v) w->aT3 P ops Q S n (f+1) d a w:=by
 intro f
 induction f with
 | zero=>
  intro d a w _ _ s K A H;refine⟨λh=>(by rw[h]at s;cases s),λj y=>?_⟩;by_cases hji:j=i
  ·subst hji;exact K.wpOp M A ⟨λ_=>A,H⟩
  ·have:=ready_mono y hji;rw[H.1]at this;cases this
 | succ f ih=>
  intro d a w F g s K A H;refine⟨λh=>(by rw[h]at s;cases s),λj y=>?_⟩;by_cases hji:j=i
  ·subst hji;exact K.wpOp M A ⟨λ_=>A,H⟩
  ·have I:=H.2 j (ready_mono y hji);obtain⟨p,x,r,B⟩:=mem_ready.1 y;have m:=(mem_ready.1 s).1;have C:j<n:=by
    rcases dQ7 j n with h|h
    ·exact h
    ·exact absurd y (R d F m j h)
   have D:∀e∈x.after,Region.binds .any e=true->e.on≠i:=λe X W L=>by
    have I:=B e X W;rw[L,getD_both m]at I;cases I
   have U:=wpOp_putIf r (g j x r hji p D) (λz b=>q i u z b M) (λz b=>q j x z b r) V K I;have l:∀k G,ops[k]?=some G->k≠i->(d.setIfInBounds j true).getD k true=false ->
     (∀e∈G.after,Region.binds .any e=true->e.on≠i)->u.apart ops G=true:=λk G Z N E O=>by
    refine g k G Z N ?_ O;by_cases hjk:j=k
    ·subst hjk;exact p
    ·rw[getD_set_ne true hjk]at E;exact E
   refine wpOp_mono (λT w' J=>⟨J.2.1,ih (d.setIfInBounds j true) T w' (F.set y C) l (ready_mono s (Ne.symm hji)) J.1 (J.2.1 C) ?_⟩) U;rw[Array.setIfInBounds_comm _ _ hji];exact J.2.2
def aw8{o:Oper}{i n:Nat}{K:Fr->World->Prop}{a:Act}{w:World}{d:Act->World->Prop}(k:ops[i]?=some o)
  (hn:a.tmps.size=n) (f:a.defers=[]) (g:okd n o.dst=true) (e:∀b j,b.tmps.size=n->b.defers=[]->K (ad9 b) j->d b j)
  (h:if Region.wanted o (aO3 ops (ad9 a))then P9 P o K (ad9 a) w else K (C4 (ad9 a) o.dst undef) w):wpOp P ops Q i d a w:=by
 unfold wpOp;simp only[k];rw[ap3];split
 ·rename_i c;rw[if_pos c]at h;exact .inl (bl6 hn f g e h)
 ·rename_i c;rw[if_neg c]at h;exact e _ _ (by rw[aX6];exact hn) (by rw[aD1];exact f) (by rw[aU9 _ _ _ (by rw[hn];exact g)];exact h)
def aP6{n N:Nat}{Q:Exit->Fr->World->Prop}:∀(l:List Oper) (k:Nat) (b:Array Bool) (a:Act) (w:World),(∀j,l[j]?=ops[k+j]?)->n<=k ->
  (∀o∈l,okd N o.dst=true)->a.tmps.size=N->a.defers=[] ->
  Region.seqB .any ops l.length k b=true->Run P ops l (Q .normal) (ad9 a) w->aT3 P ops (lft N Q) S n l.length b a w
 | [],_,_,_,_,_,_,_,hn,hd,hB,h=>⟨by simpa[Region.seqB]using hB,hn,hd,h⟩
 | o::l,k,b,a,w,hl,hk,ho,hn,hd,hB,h=>by
  have r:ops[k]?=some o:=by simpa using(hl 0).symm
  simp only[dP4,Region.seqB,dO8,dQ3]at hB;refine⟨λg=>(by rw[hB.1]at g;cases g),λi m=>?_⟩;rw[hB.1]at m;have e:i=k:=by simpa using m
  subst e;refine aw8 r hn hd (ho o (by simp)) (K:=Run P ops l (Q .normal)) (λp t f d q=>⟨λh=>by omega,?_⟩) (by unfold Run at h;exact h);exact aP6 l (i+1) _ p t (λj=>by have:=hl (j+1);simpa[dW3,Nat.add_comm 1 j]using this) (by omega) (λs c=>ho s (by simp[c])) f d hB.2 q
def by6{n N:Nat}{Q:Exit->Fr->World->Prop}(hQ:∀c f w,¬Q (.panic c) f w)(hs:Region.noSelect ops=true)
  (Y:∀i,i<n->∀b,HeadInv .any ops n b->b.getD i true=false->∀t,n<=t->t∉Region.ready .any ops b) (u:∀o∈ops.toList,okd N o.dst=true) :
  ∀(m:Nat) (l:aG5) (b:Array Bool) (a:Act) (w:World),HeadInv .any ops n b->a.tmps.size=N->a.defers=[]->S w->aW9 ops n m l b=true ->
   au4 P ops S l (Run P ops (ops.toList.drop n) (Q .normal)) (ad9 a) w->aT3 P ops (lft N Q) S n (m+(ops.size-n)) b a w:=by
 have x:∀{i:Nat} {o:Oper},ops[i]?=some o->okd N o.dst=true:=by
  intro i o X;have:=Array.mem_of_getElem? X;exact u o (by simpa using this)
 intro m
 induction m with
 | zero=>
  intro l b a w p D G _ s h;cases l
  case nil=>
   have:=aP6 (S:=S) (n:=n) (N:=N) (Q:=Q) (P:=P) (ops:=ops) (ops.toList.drop n) n b a w (λj=>by simp[dW6]) (dO0 _)
    (λo X=>u o (dX9 X)) D G (by simpa[aW9]using s) h
   simpa using this
  all_goals (simp[aW9]at s)
 | succ m ih=>
  intro l b a w p D G L s h;have e1:m+1+(ops.size-n)=(m+(ops.size-n))+1:=by omega
  rw[e1];cases l
  case nil=>simp[aW9]at s
  case op i l=>
   simp only[aW9,dO8,dQ3]at s;obtain⟨⟨e,d⟩,r⟩:=s;simp only[au4]at h;cases hoi:ops[i]? with
   | none=>simp[hoi]at h
   | some o=>
    simp only[hoi]at h d;have I:=x hoi;by_cases hf:flt o.op=true
    ·simp only[hf,dS6,dO8]at h d;have M:i∈Region.ready .any ops b:=by simpa using d.1
     have y:∀v,YieldsIf P ops S o v a->au4 P ops S l (Run P ops (ops.toList.drop n) (Q .normal)) (C4 (ad9 a) o.dst v) w ->
       aT3 P ops (lft N Q) S n ((m+(ops.size-n))+1) b a w:=λv hy T=>
      bP9 hoi (Region.noSelect_spec hs) (λc a w hh=>absurd hh.2.2 (hQ _ _ _)) e (Y i e) _ b a w p (Region.free_spec hoi d.2) M hy L
       (ih l _ _ w (p.set M e) (by rw[aX6];exact D) (by rw[aD1];exact G) L r (by rw[aU9 _ _ _ (by rw[D];exact I)];exact T))
     by_cases g:Region.wanted o (aO3 ops (ad9 a))=true
     ·rw[if_pos g]at h;obtain⟨v,hv,T⟩:=h;refine y v (.inl ⟨by rw[ap3];exact g,λq Z=>?_⟩) T;rw[bL2];exact hv q Z
     ·rw[if_neg g]at h;exact y undef (.inr ⟨by rw[ap3];simpa using g,rfl⟩) h
    ·simp only[hf,dS7,dU1,dQ3]at h d;have M:i∈Region.ready .any ops b:=by rw[d];simp
     refine⟨λE=>(by rw[d]at E;cases E),λj hj=>?_⟩;rw[d]at hj;have V:j=i:=by simpa using hj
     subst V;refine aw8 hoi D G I (K:=λR q=>S q/\au4 P ops S l (Run P ops (ops.toList.drop n) (Q .normal)) R q) (λO q A B z=>⟨λ_=>z.1,?_⟩) ?_
     ·exact ih l _ O q (p.set M e) A B z.1 r z.2
     ·split
      ·rename_i g;rw[if_pos g]at h;exact h
      ·rename_i g;rw[if_neg g]at h;exact⟨L,h⟩
  case fork rs k=>
   simp only[aW9,dO8,dQ3,dW0]at s;obtain⟨⟨J,W⟩,F⟩:=s;simp only[au4]at h;refine⟨λE=>(by rw[J]at E;subst E;simp at W),λi U=>?_⟩;have H:i∈rs:=by rw[J]at U;exact U
   have C:=h i H;obtain⟨e,r⟩:=F i H;cases hoi:ops[i]? with
   | none=>simp[hoi]at C
   | some o=>
    simp only[hoi]at C;refine aw8 hoi D G (x hoi) (K:=λR q=>S q/\au4 P ops S (k i) (Run P ops (ops.toList.drop n) (Q .normal)) R q) (λO q A B z=>⟨λ_=>z.1,?_⟩) ?_
    ·exact ih (k i) _ O q (p.set U e) A B z.1 r z.2
    ·split
     ·rename_i g;rw[if_pos g]at C;exact C
     ·rename_i g;rw[if_neg g]at C;exact⟨L,C⟩
def by8{id n N:Nat}{e:aG5}{Q:Exit->Fr->World->Prop}{a:Act}{w:World}(hm:P.follows .mixedOrders=true)(C:∀c f w,¬Q (.panic c) f w)
  (k:bZ1 ops n e=true) (g:cK1 N ops=true) (D:a.tmps.size=N) (E:a.defers=[]) (hS:S w.drew)
  (h:au4 P ops S e (Run P ops (ops.toList.drop n) (Q .normal)) (ad9 a) w.drew):(Code.region id ops true).wp P (lft N Q) a w:=by
 simp only[bZ1,dO8]at k;obtain⟨⟨H,d⟩,l⟩:=k;have I:n<=ops.size:=by
  simp only[dX4,dQ3,dO8]at d;omega
 have m:HeadInv .any ops n (Array.replicate ops.size false):=
  ⟨by simp,λj J _ y=>(by rw[getD_replicate_false]at y;cases y),λt _ r=>getD_in (by simpa using r) (getD_replicate_false _ _)⟩
 have s:∀i,i<n->∀b,HeadInv .any ops n b->b.getD i true=false->∀t,n<=t->t∉Region.ready .any ops b:=by
  intro i F b v u t r z;simp only[dX4,dQ3,dO8]at d;rcases d with x|⟨⟨x,A⟩,B⟩
  ·obtain⟨_,K,q,_⟩:=mem_ready.1 z;have:=(dN0.1 q).1;omega
  ·exact tail_waits A B x v _ i rfl F u t r z
 refine wp_region_any hm (by7 (S:=S) (n:=n) _ _ _ _ ?_);have p:∀o∈ops.toList,okd N o.dst=true:=by
  intro o G;have:=Array.all_eq_true'.1 g o (by simpa using G);exact this
 have:=by6 (S:=S) C H s p n e _ a w.drew m D E hS l h
 rwa [show n+(ops.size-n)=ops.size by omega]at this
end
def dV0:=@List.getElem?_eq_none
def dQ8:=@List.map_cons
def dS1:=@Option.isSome_iff_exists
def dS5:=@Option.map_some
def dO3:=@Option.some.inj
def dX0:=@Option.some.injEq
def dO1:=@Result.andThen_ok
def dO9:=@Sem.run_bind
def dQ4:=@Sem.run_pure
def M0(P:Program)(t:TypeId):Option TypeId:=match P.underlying t with
 | some (.slice e)=>some e
 | _=>none
def bO4(P:Program)(t:TypeId):Bool:=match P.underlying t with
 | some .string=>true
 | _=>false
def bJ2(P:Program)(t:TypeId):Option (Nat×TypeId):=match P.underlying t with
 | some (.array n e)=>some (n,e)
 | _=>none
def L9(P:Program)(t:TypeId):Nat:=((P.info? t).map (·.size)).getD 0
def G8(P:Program)(t:TypeId):Option Value:=(P.info? t).bind (·.zero)
def cJ1(P:Program)(t:TypeId):Nat:=((P.info? t).map (·.bytes)).getD 0
def I7(P:Program)(t:TypeId):Bool:=match P.underlying t with
 | some (.struct _)=>true
 | some (.array _ _)=>true
 | none=>true
 | _=>false
def C1(P:Program)(s:TypeId)(i:Nat):Option (Nat×TypeId):=match P.underlying s with
 | some (.struct fs)=>match fs[i]? with
   | some a=>if L9 P a.type=0 then none else some (a.offset,a.type)
   | none=>none
 | _=>none
def eqT(P:Program)(t:TypeId):Nat:=match P.underlying t with
 | some .bool=>1
 | some (.pointer _)=>2
 | some (.slice _)=>3
 | some (.map _ _)=>4
 | some (.func _ _ _)=>5
 | some (.interface _)=>6
 | _=>0
def db5(P:Program)(t:TypeId):Option IntKind:=match P.underlying t with
 | some (.int k)=>some k
 | _=>none
def P3(P:Program)(t:TypeId):Option (Array Value×List (Nat×Nat)):=match(P.info? t).bind (·.zero),P.underlying t with
 | some z,some (.struct fs)=>if fs.toList.all (λa=>(P.info? a.type).isSome)then some (z.cells,fs.toList.map λa=>(a.offset,L9 P a.type))else none
 | some z,some (.array n e)=>if(P.info? e).isSome then some (z.cells,(List.range n).map λi=>(i*L9 P e,L9 P e))else none
 | _,_=>none
def isS:Value->Bool
 | .slice _ _ _=>true
 | _=>false
def vlen:Value->Nat
 | .slice _ n _=>n
 | _=>0
def bX4:Value->Bool
 | .slice none _ _=>true
 | _=>false
def vcap:Value->Nat
 | .slice _ _ c=>c
 | _=>0
def inS:Value->Nat->Bool
 | .slice (some _) n _,k=>decide (k<n)
 | _,_=>false
def G4:Value->Nat->Addr
 | .slice (some a) _ _,k=>a.add k
 | _,_=>default
def reS(v:Value)(l h sz:Nat):Value:=match v with
 | .slice a _ cap=>.slice (if cap=l then a else a.map (·.add (l*sz))) (h-l) (cap-l)
 | _=>undef
def E5(op:BinOp)(k:IntKind)(a b:Int):Option Value:=match op with
 | .add=>some (.int k (k.wrap (a+b)))
 | .sub=>some (.int k (k.wrap (a-b)))
 | .mul=>some (.int k (k.wrap (a*b)))
 | .quo=>if b=0 then none else some (.int k (k.wrap (a.tdiv b)))
 | .rem=>if b=0 then none else some (.int k (a.tmod b))
 | .eql=>some (.bool (a==b))
 | .neq=>some (.bool (a != b))
 | .lss=>some (.bool (a<b))
 | .leq=>some (.bool (a<=b))
 | .gtr=>some (.bool (a>b))
 | .geq=>some (.bool (a≥b))
 | .and=>some (.int k (k.wrap (BitVec.ofInt k.bits a &&& BitVec.ofInt k.bits b).toNat))
 | .or=>some (.int k (k.wrap (BitVec.ofInt k.bits a ||| BitVec.ofInt k.bits b).toNat))
 | .xor=>some (.int k (k.wrap (BitVec.ofInt k.bits a ^^^ BitVec.ofInt k.bits b).toNat))
 | .andNot=>some (.int k (k.wrap (BitVec.ofInt k.bits a &&& ~~~BitVec.ofInt k.bits b).toNat))
 | _=>none
def B4(P:Program)(op:BinOp)(t:TypeId):Value->Value->Option Value
 | .int k a,.int k' b=>match op with
   | .shl=>if b<0 then none else some (.int k (k.wrap (a*2 ^ (min b.toNat k.bits))))
   | .shr=>if b<0 then none else some (.int k (a.fdiv (2 ^ (min b.toNat k.bits))))
   | _=>if k=k' then E5 op k a b else none
 | .string a,.string b=>match op with
   | .eql=>some (.bool (a.toList==b.toList))
   | .neq=>some (.bool !(a.toList==b.toList))
   | .lss=>some (.bool (Op.bytesLess a.toList b.toList))
   | .leq=>some (.bool (Op.bytesLess a.toList b.toList||a.toList==b.toList))
   | .gtr=>some (.bool !(Op.bytesLess a.toList b.toList||a.toList==b.toList))
   | .geq=>some (.bool !(Op.bytesLess a.toList b.toList))
   | .add=>if((a.size+b.size:Nat):Int)>IntKind.i64.max then none else some (.string (a++b))
   | _=>none
 | .bool a,.bool b=>match op with
   | .eql=>if eqT P t=1 then some (.bool (a==b))else none
   | .neq=>if eqT P t=1 then some (.bool !(a==b))else none
   | _=>none
 | .pointer a,.pointer none=>match op with
   | .eql=>if eqT P t=2 then some (.bool a.isNone)else none
   | .neq=>if eqT P t=2 then some (.bool !a.isNone)else none
   | _=>none
 | a,.slice none 0 0=>match op with
   | .eql=>if isS a&&eqT P t==3 then some (.bool (bX4 a))else none
   | .neq=>if isS a&&eqT P t==3 then some (.bool !(bX4 a))else none
   | _=>none
 | _,_=>none
def unV(op:UnOp):Value->Option Value
 | .bool b=>match op with
   | .not=>some (.bool !b)
   | _=>none
 | .int k n=>match op with
   | .neg=>some (.int k (k.wrap (0-n)))
   | _=>none
 | _=>none
def bL3(P:Program)(s:TypeId)(i:Nat):Value->Option Value
 | .pointer (some a)=>match C1 P s i with
   | some (o,_)=>some (.pointer (some (a.add o)))
   | none=>none
 | _=>none
def bY5(P:Program)(t:TypeId)(cs:Array Value)(o:Nat):Option Value:=
 if I7 P t then(if(P.info? t).isSome&&(P.underlying t).isSome then some (.agg (cs.extract o (o+L9 P t)))else none)else cs[o]?
def al5(P:Program)(s:TypeId)(i:Nat):Value->Option Value
 | .agg cs=>match C1 P s i with
   | some (o,t)=>bY5 P t cs o
   | none=>none
 | _=>none
def y0(P:Program)(t:TypeId)(x:Value):Value->Option Value
 | .int _ n=>match M0 P t with
   | some e=>if(P.info? e).isSome&&decide (0<=n)&&inS x n.toNat then some (.pointer (some (G4 x (n.toNat*L9 P e))))else none
   | none=>match bJ2 P t,x with
     | some (len,e),.pointer (some a)=>if(P.info? e).isSome&&decide (0<=n)&&decide (n<len)then some (.pointer (some (a.add (n.toNat*L9 P e))))else none
     | _,_=>none
 | _=>none
def M9(P:Program)(t:TypeId)(x:Value):Value->Option Value
 | .int _ n=>match bJ2 P t,x with
   | some (len,e),.agg cs=>if(P.info? e).isSome&&decide (0<=n)&&decide (n<len)then bY5 P e cs (n.toNat*L9 P e)else none
   | none,.string s=>if bO4 P t&&decide (0<=n)then(s[n.toNat]?).map λb=>.int .u8 b.toNat else none
   | _,_=>none
 | _=>none
def F8(P:Program)(t:TypeId)(x:Value)(b a:Option Value):Option Value:=
 match(match b with|none=>some 0|some (.int _ n)=>some n|_=>none:Option Int),
  (match a with|none=>some ((if isS x then vlen x else match x with | .string s=>s.size|_=>0:Nat):Int)|some (.int _ n)=>some n|_=>none:Option Int)with
 | some l,some h=>match M0 P t with
   | some e=>if(P.info? e).isSome&&isS x&&decide (0<=l)&&decide (l<=h)&&decide (h<=vcap x)then some (reS x l.toNat h.toNat (L9 P e))else none
   | none=>match x with
     | .string s=>if bO4 P t&&decide (0<=l)&&decide (l<=h)&&decide (h<=s.size)then some (.string (s.extract l.toNat h.toNat))else none
     | _=>none
 | _,_=>none
def N7(P:Program)(t:TypeId)(x:Value):Option Value:=
 if(M0 P t).isSome then(if isS x then some (.int .i64 (vlen x))else none)
 else match x with
  | .string s=>if bO4 P t then some (.int .i64 s.size)else none
  | _=>match bJ2 P t with
    | some (n,_)=>some (.int .i64 n)
    | none=>none
def cZ3(P:Program)(t:TypeId)(x:Value):Option Value:=
 if(M0 P t).isSome&&isS x then some (.int .i64 (vcap x))else none
def bg9(P:Program)(s d:TypeId):Value->Option Value
 | .int _ n=>match db5 P d with
   | some k=>if(P.underlying s).isSome then some (.int k (k.wrap n))else none
   | none=>none
 | _=>none
def K8(a:List (Nat×Nat))(cs:Array Value)(parts:List (Nat×Value)):Option (Array Value):=Instr.fill (λi=>a[i]?) cs parts
def B8(P:Program)(t:TypeId)(parts:List (Nat×Value)):Option Value:=
 match P3 P t with
 | some (z,pl)=>(K8 pl z parts).map .agg
 | none=>none
def cO4:Value->Value->Option Value
 | .int k x,.int _ y=>some (.int k (if y<x then y else x))
 | _,_=>none
def cO2:Value->Value->Option Value
 | .int k x,.int _ y=>some (.int k (if y>x then y else x))
 | _,_=>none
def av3(P:Program)(f:Fr):Op->Option Value
 | .move x=>some (ev f x)
 | .assign x=>some (ev f x)
 | .pick c a b=>match ev f c with
   | .bool t=>some (if t then ev f a else ev f b)
   | _=>none
 | .binOp op t x y _=>B4 P op t (ev f x) (ev f y)
 | .unOp op _ x=>unV op (ev f x)
 | .fieldAddr s x i=>bL3 P s i (ev f x)
 | .field s x i=>al5 P s i (ev f x)
 | .indexAddr t x i=>y0 P t (ev f x) (ev f i)
 | .index t x i=>M9 P t (ev f x) (ev f i)
 | .slice t x lo hi none=>F8 P t (ev f x) (lo.map (ev f)) (hi.map (ev f))
 | .extract x i=>match ev f x with
   | .tuple vs=>vs[i]?
   | _=>none
 | .convert s d x=>bg9 P s d (ev f x)
 | .nilCheck x=>match ev f x with
   | .pointer (some a)=>some (.pointer (some a))
   | _=>none
 | .makeFunc fn first cap=>some (.func fn (first.map (ev f)) (cap.map (ev f)))
 | .build t parts=>B8 P t (parts.toList.map λp=>(p.1,ev f p.2))
 | .call c=>match c.callee with
   | .builtin .len=>match c.args.toList,c.argTypes.toList with
     | [x],[t]=>N7 P t (ev f x)
     | _,_=>none
   | .builtin .cap=>match c.args.toList,c.argTypes.toList with
     | [x],[t]=>cZ3 P t (ev f x)
     | _,_=>none
   | .builtin .min=>match c.args.toList with
     | [x,y]=>cO4 (ev f x) (ev f y)
     | _=>none
   | .builtin .max=>match c.args.toList with
     | [x,y]=>cO2 (ev f x) (ev f y)
     | _=>none
   | _=>none
 | _=>none
section
variable {P:Program}
theorem G6(t:TypeId)(w:World):(underlying t).run P w=match P.underlying t with
  | some d=>.ok d w
  | none=>.halt (.stuck "no such type") w:=by
 simp only[underlying,program,dO9,Sem.run,dO1];cases P.underlying t<;>rfl
theorem M5(t:TypeId)(w:World):(typeInfo t).run P w=match P.info? t with
  | some d=>.ok d w
  | none=>.halt (.stuck "no such type") w:=by
 simp only[typeInfo,program,dO9,Sem.run,dO1];cases P.info? t<;>rfl
def P8{t:TypeId}(h:(P.info? t).isSome=true)(w:World):(sizeOf t).run P w = .ok (L9 P t) w:=by
 obtain⟨i,a⟩:=dS1.1 h;simp[sizeOf,M5,a,L9]
theorem aa4(t:TypeId)(h:(P.underlying t).isSome=true)(w:World):(isAgg t).run P w = .ok (I7 P t) w:=by
 obtain⟨i,a⟩:=dS1.1 h;unfold isAgg I7;rw[dO9,G6,a];cases i<;>rfl
theorem aZ9{t:TypeId}(h:I7 P t=false):(P.underlying t).isSome=true:=by
 unfold I7 at h;cases hu:P.underlying t with
 | none=>simp[hu]at h
 | some d=>rfl
def bv9{t:TypeId}{cs:Array Value}{o:Nat}{v:Value}(h:bY5 P t cs o=some v)(w:World):(part t cs o).run P w = .ok v w:=by
 unfold bY5 at h;unfold part;by_cases ha:I7 P t=true
 ·rw[if_pos ha]at h;by_cases hi:((P.info? t).isSome&&(P.underlying t).isSome)=true
  ·rw[if_pos hi]at h;simp only[dO8]at hi;obtain rfl:=dO3 h;simp only[dO9,aa4 t hi.2,dO1,ha,Sem.run_ite,dS6,P8 hi.1,dQ4]
  ·rw[if_neg hi]at h;cases h
 ·have a:I7 P t=false:=by simpa using ha
  rw[if_neg ha]at h;simp only[dO9,aa4 t (aZ9 a),dO1,a,dS7,dU1,h,dQ4]
def bd9{op:BinOp}{t:TypeId}{x y:Operand}{a b:Value}(d:a ≠ .nilIface)(e:∀c,a ≠ .agg c)(w:World):
  (eqGuard op t x y a b).run P w = .ok () w:=by
 unfold eqGuard;cases op<;>first|rfl|(cases a<;>first|rfl|exact absurd rfl d|exact absurd rfl (e _))
def cd8{op:BinOp}{t:TypeId}{x y:Operand}{a b v:Value}(h:B4 P op t a b=some v)(w:World):
  (do eqGuard op t x y a b;binOp op t a b:Sem Value).run P w = .ok v w:=by
 have k:(eqGuard op t x y a b).run P w = .ok () w:=by
  apply bd9
  ·rintro rfl;unfold B4 at h;split at h<;>first
    | (simp_all;done)
    | (split at h<;>simp_all [isS])
  ·rintro m rfl;unfold B4 at h;split at h<;>first
    | (simp_all;done)
    | (split at h<;>simp_all [isS])
 rw[dO9,k,dO1];unfold B4 at h;split at h
 ·split at h
  ·split at h
   ·cases h
   ·rename_i g;obtain rfl:=dO3 h;simp[binOp,Op.shift,g]
  ·split at h
   ·cases h
   ·rename_i g;obtain rfl:=dO3 h;simp[binOp,Op.shift,g]
  ·rename_i o r;split at h
   ·rename_i l;subst l;unfold E5 at h;cases op<;>simp only[dX0]at h <;>
     first
     | (subst h;simp[binOp,Op.intArith,Op.intCmp,Op.intBits])
     | (split at h<;>first|(rename_i g;obtain rfl:=dO3 h;simp[binOp,Op.intDiv,g];done)|(cases h;done))
     | (exact absurd rfl (by assumption))
     | cases h
   ·cases h
 ·split at h<;>first
   | (obtain rfl:=dO3 h;simp[binOp,Op.stringOp])
   | (split at h<;>first|(rename_i g;obtain rfl:=dO3 h;simp only[binOp,Op.stringOp];rw[if_neg g];rfl)|(cases h;done))
   | cases h
 ·have f:∀{p q:Bool},eqT P t=1->(Op.equal t (.bool p) (.bool q)).run P w = .ok (p==q) w:=by
   intro p q e;unfold eqT at e;unfold Op.equal Op.maxDepth Op.equalIn;rw[dO9,G6];cases hu:P.underlying t with
   | none=>simp[hu]at e
   | some d=>cases d<;>simp[hu]at e ⊢
  split at h<;>first
   | (split at h
      ·rename_i e;obtain rfl:=dO3 h;simp[binOp,f e]
      ·cases h)
   | cases h
 ·have f:∀{p:Option Addr},eqT P t=2->(Op.equal t (.pointer p) (.pointer none)).run P w = .ok p.isNone w:=by
   intro p e;unfold eqT at e;unfold Op.equal Op.maxDepth Op.equalIn;rw[dO9,G6];cases hu:P.underlying t with
   | none=>simp[hu]at e
   | some d=>cases d<;>simp[hu]at e ⊢<;> (cases p<;>rfl)
  split at h<;>first
   | (split at h
      ·rename_i e;obtain rfl:=dO3 h;simp[binOp,f e]
      ·cases h)
   | cases h
 ·have f:isS a=true->eqT P t=3->(Op.equal t a (.slice none 0 0)).run P w = .ok (bX4 a) w:=by
   intro j e;cases a
   case slice p n c=>
    unfold eqT at e;unfold Op.equal Op.maxDepth Op.equalIn;rw[dO9,G6];cases hu:P.underlying t with
    | none=>simp[hu]at e
    | some d=>cases d<;>simp[hu]at e ⊢<;> (cases p<;>rfl)
   all_goals (simp[isS]at j)
  have i:isS a=true->binOp .eql t a (.slice none 0 0)=(do pure (.bool (<-Op.equal t a (.slice none 0 0))))/\binOp .neq t a (.slice none 0 0)=(do pure (.bool (!(<-Op.equal t a (.slice none 0 0))))):=by
   intro j;cases a
   case slice p n c=>exact⟨rfl,rfl⟩
   all_goals (simp[isS]at j)
  split at h<;>first
   | (split at h
      ·rename_i e;simp only[dO8,beq_iff_eq]at e;obtain rfl:=dO3 h
       first|rw[(i e.1).1]|rw[(i e.1).2]
       simp[f e.1 e.2]
      ·cases h)
   | cases h
 ·cases h
theorem N4{t e:TypeId}(h:M0 P t=some e):P.underlying t=some (.slice e):=by
 unfold M0 at h;cases hu:P.underlying t with
 | none=>simp[hu]at h
 | some d=>cases d<;>simp[hu]at h;subst h;rfl
theorem bb3{t e:TypeId}{n:Nat}(h:bJ2 P t=some (n,e)):P.underlying t=some (.array n e):=by
 unfold bJ2 at h;cases hu:P.underlying t with
 | none=>simp[hu]at h
 | some d=>cases d<;>simp[hu]at h;obtain⟨rfl,rfl⟩:=h;rfl
theorem aN5{t:TypeId}(h:bO4 P t=true):P.underlying t=some .string:=by
 unfold bO4 at h;cases hu:P.underlying t with
 | none=>simp[hu]at h
 | some d=>cases d<;>simp[hu]at h;rfl
theorem cl1{t:TypeId}(h:¬L9 P t=0):(P.info? t).isSome=true:=by
 unfold L9 at h;cases hi:P.info? t with
 | none=>simp[hi]at h
 | some i=>rfl
def bh3{s:TypeId}{i o t:Nat}(h:C1 P s i=some (o,t)):∃b a,P.underlying s=some (.struct b)/\b[i]?=some a/\¬L9 P t=0/\a.offset=o/\a.type=t:=by
 unfold C1 at h;cases hu:P.underlying s with
 | none=>simp[hu]at h
 | some d=>
  cases d
  case struct b=>
   simp only[hu]at h;cases hf:b[i]? with
   | none=>simp[hf]at h
   | some a=>
    simp only[hf]at h;split at h
    ·cases h
    ·rename_i c;simp only[dX0,Prod.mk.injEq]at h;obtain⟨rfl,rfl⟩:=h;exact⟨b,a,rfl,hf,c,rfl,rfl⟩
  all_goals simp[hu]at h
def bL4{s i:Nat}{x v:Value}(h:bL3 P s i x=some v)(w:World):(Instr.fieldAt s x i).run P w = .ok v w:=by
 unfold bL3 at h;split at h
 ·split at h
  ·rename_i a o t g;obtain⟨k,j,c,d,b,e,f⟩:=bh3 g;obtain rfl:=dO3 h;subst e f;unfold Instr.fieldAt;rw[dO9,G6,c];simp only[dO1,d,dO9,Instr.sureAddr,dQ4,Go.fieldPlace,P8 (cl1 b),Sem.run_ite];rw[if_neg b];rfl
  ·cases h
 ·cases h
def cf5{s i:Nat}{x v:Value}(h:al5 P s i x=some v)(w:World):(Instr.field s x i).run P w = .ok v w:=by
 unfold al5 at h;split at h
 ·split at h
  ·rename_i f o t e;obtain⟨j,g,a,b,k,c,d⟩:=bh3 e;subst c d;unfold Instr.field;rw[dO9,G6,a];simp only[dO1,b,dO9,asAgg,dQ4,bv9 h]
  ·cases h
 ·cases h
def cM7{x:Value}{k:Nat}(h:inS x k=true):∃a n c,x = .slice (some a) n c/\k<n:=by
 unfold inS at h;split at h
 ·exact⟨_,_,_,rfl,by simpa using h⟩
 ·cases h
def ch2{t:Nat}{x i v:Value}(h:y0 P t x i=some v)(w:World):(Instr.indexAt t x i).run P w = .ok v w:=by
 unfold y0 at h;split at h
 ·rename_i k n;split at h
  ·rename_i e d;split at h
   ·rename_i b;simp only[dO8,dQ3]at b;obtain⟨⟨f,o⟩,g⟩:=b;obtain⟨a,m,c,rfl,j⟩:=cM7 g;obtain rfl:=dO3 h;unfold Instr.indexAt;simp only[asIntOf,dO9,dQ4,dO1,G6,N4 d];have:0<=n/\n<(m:Int):=by omega
    simp only[this,and_self,dS6,dO9,P8 f,dO1,dQ4,G4]
   ·cases h
  ·split at h
   ·rename_i l e a d;split at h
    ·rename_i b;simp only[dO8,dQ3]at b;obtain⟨⟨f,o⟩,j⟩:=b;obtain rfl:=dO3 h;unfold Instr.indexAt;simp only[asIntOf,dO9,dQ4,dO1,G6,bb3 d,Instr.sureAddr];have:0<=n/\n<(l:Int):=by omega
     simp only[this,and_self,dS6,dO9,P8 f,dO1,dQ4]
    ·cases h
   ·cases h
 ·cases h
def bL8{t:Nat}{x i v:Value}(h:M9 P t x i=some v)(w:World):(Instr.index t x i).run P w = .ok v w:=by
 unfold M9 at h;split at h
 ·rename_i k n;split at h
  ·rename_i c e m f;split at h
   ·rename_i a;simp only[dO8,dQ3]at a;obtain⟨⟨g,d⟩,j⟩:=a;unfold Instr.index;simp only[asIntOf,dO9,dQ4,dO1,G6,bb3 f];have:0<=n/\n<(c:Int):=by omega
    simp only[this,and_self,dS6,dO9,P8 g,dO1,bv9 h]
   ·cases h
  ·rename_i s f;split at h
   ·rename_i a;simp only[dO8,dQ3]at a;obtain⟨l,d⟩:=a;unfold Instr.index;simp only[asIntOf,dO9,dQ4,dO1,G6,aN5 l,d,dS6];cases hb:s[n.toNat]? with
    | none=>simp[hb]at h
    | some b=>
     simp only[hb,dS5,dX0]at h;subst h;rfl
   ·cases h
  ·cases h
 ·cases h
def ch5{t:TypeId}{x v:Value}{ty:TypeId}(h:N7 P t x=some v)(w:World):(Builtin.len_ #[t] ty #[x]).run P w = .ok v w:=by
 unfold N7 at h;split at h
 ·rename_i b;obtain⟨e,b⟩:=dS1.1 b;split at h
  ·rename_i d;obtain rfl:=dO3 h;cases x
   case slice a n c=>simp[Builtin.len_,G6,N4 b,vlen,goInt]
   all_goals simp[isS]at d
  ·cases h
 ·split at h
  ·rename_i s;split at h
   ·rename_i d;obtain rfl:=dO3 h;simp[Builtin.len_,G6,aN5 d,goInt]
   ·cases h
  ·rename_i f;split at h
   ·rename_i n e b;obtain rfl:=dO3 h;cases x<;>simp[Builtin.len_,G6,bb3 b,goInt]
   ·cases h
def ce3{t:TypeId}{x v:Value}{ty:TypeId}(h:cZ3 P t x=some v)(w:World):(Builtin.cap_ #[t] ty #[x]).run P w = .ok v w:=by
 unfold cZ3 at h;split at h
 ·rename_i b;simp only[dO8]at b;obtain⟨e,d⟩:=dS1.1 b.1;obtain rfl:=dO3 h;cases x
  case slice a n c=>simp[Builtin.cap_,G6,N4 d,vcap,goInt]
  all_goals (simp[isS]at b)
 ·cases h
def bS3{s d:TypeId}{x v:Value}(h:bg9 P s d x=some v)(w:World):(convert s d x).run P w = .ok v w:=by
 unfold bg9 at h;split at h
 ·split at h
  ·rename_i k a;split at h
   ·rename_i f;obtain rfl:=dO3 h;obtain⟨g,b⟩:=dS1.1 f;have e:P.underlying d=some (.int k):=by
     unfold db5 at a;cases hu:P.underlying d with
     | none=>simp[hu]at a
     | some c=>cases c<;>simp[hu]at a;subst a;rfl
    unfold convert;simp only[dO9,G6,b,e,dO1,Conv.intToInt,dQ4]
   ·cases h
  ·cases h
 ·cases h
def bJ8{t:TypeId}{parts:List (Nat×Value)}{v:Value}(h:B8 P t parts=some v)(w:World):(Instr.build t parts.toArray).run P w = .ok v w:=by
 unfold B8 at h;cases hb:P3 P t with
 | none=>simp[hb]at h
 | some B=>
  obtain⟨z,C⟩:=B;simp only[hb]at h;unfold P3 at hb;have l:∀(g:List Field),(g.all λk=>(P.info? k.type).isSome)=true ->
    (g.mapM (m:=Sem) λf=>do pure (f.offset,<-sizeOf f.type)).run P w = .ok (g.map λk=>(k.offset,L9 P k.type)) w:=by
   intro g
   induction g with
   | nil=>intro _;simp
   | cons f g s=>
    intro a;simp only[List.all_cons,dO8]at a;simp only[List.mapM_cons,dO9,P8 a.1,dO1,dQ4,s a.2,dQ8]
  unfold Instr.build zeroValue;cases hi:P.info? t with
  | none=>simp[hi]at hb
  | some i=>
   cases hz:i.zero with
   | none=>simp[hi,hz]at hb
   | some x=>
    simp only[hi,Option.bind_some,hz]at hb;simp only[dO9,M5,hi,dO1,hz,dQ4,G6];cases hu:P.underlying t with
    | none=>simp[hu]at hb
    | some d=>
     cases d
     case struct g=>
      simp only[hu]at hb;split at hb
      ·rename_i a;simp only[dX0,Prod.mk.injEq]at hb;obtain⟨rfl,rfl⟩:=hb;simp only[dO1];rw[Array.mapM_eq_mapM_toList];simp only[dO9,Sem.run_map]
       erw [l _ a]
       simp only[dO1];unfold K8 at h;simp only[List.getElem?_toArray];cases hf:Instr.fill (λi=>(g.toList.map λk=>(k.offset,L9 P k.type))[i]?) x.cells parts with
       | none=>rw[hf]at h;cases h
       | some j=>
        simp only[hf,dS5,dX0]at h;subst h;rfl
      ·cases hb
     case array n e=>
      simp only[hu]at hb;split at hb
      ·rename_i A;simp only[dX0,Prod.mk.injEq]at hb;obtain⟨rfl,rfl⟩:=hb;simp only[dO1,dO9,P8 A];unfold K8 at h;have B5:∀(o:List (Nat×Value)) (p c:Array Value),Instr.fill (λi=>((List.range n).map λi=>(i*L9 P e,L9 P e))[i]?) p o=some c ->
         Instr.fill (λi=>some (i*L9 P e,L9 P e)) p o=some c:=by
        intro o
        induction o with
        | nil=>intro p c b;exact b
        | cons q o s=>
         intro p c b;obtain⟨u,D⟩:=q;unfold Instr.fill at b ⊢;by_cases hq:u<n
         ·have r:((List.range n).map λi=>(i*L9 P e,L9 P e))[u]?=some (u*L9 P e,L9 P e):=by simp[hq]
          rw[r]at b;simp only at b ⊢;split at b
          ·cases b
          ·rename_i y;rw[if_neg y];exact s _ _ b
         ·rw[dV0 (by simpa using hq)]at b;cases b
       cases hf:Instr.fill (λi=>((List.range n).map λi=>(i*L9 P e,L9 P e))[i]?) x.cells parts with
       | none=>rw[hf]at h;cases h
       | some j=>
        simp only[hf,dS5,dX0]at h;subst h;simp only[B5 _ _ _ hf];rfl
      ·cases hb
     all_goals simp[hu]at hb
def bO0{t:TypeId}{x v:Value}{m g:Option Value}(h:F8 P t x m g=some v)(w:World):(Instr.sliceAt t x m g none).run P w = .ok v w:=by
 unfold F8 at h;split at h
 ·rename_i l j f b;have i:(∃k,m=some (.int k l))\/m=none/\l=0:=by
   split at f
   ·exact .inr ⟨rfl,(dO3 f).symm⟩
   ·obtain rfl:=dO3 f;exact .inl ⟨_,rfl⟩
   ·cases f
  split at h
  ·rename_i e y;split at h
   ·rename_i o;simp only[dO8,dQ3]at o;obtain⟨⟨⟨⟨r,p⟩,z⟩,A⟩,u⟩:=o;obtain rfl:=dO3 h;have d:(∃k,g=some (.int k j))\/g=none/\j=vlen x:=by
     split at b
     ·rw[p,if_pos rfl]at b;exact .inr ⟨rfl,(dO3 b).symm⟩
     ·obtain rfl:=dO3 b;exact .inl ⟨_,rfl⟩
     ·cases b
    cases x
    case slice a n c=>
     simp only[vcap]at u;simp only[vlen]at d;have q:(Instr.sliceBounds true n c m g none).run P w = .ok (l.toNat,j.toNat,c) w:=by
      rcases i with⟨k,rfl⟩|⟨rfl,rfl⟩<;>rcases d with⟨B,rfl⟩|⟨rfl,rfl⟩ <;>
       simp only[Instr.sliceBounds,Instr.sliceBound,asIntOf,dO9,dQ4,dO1]
      ·rw[if_pos (by omega)];simp only[dQ4,dO1];rw[if_pos (by omega)];rfl
      ·rw[if_pos (by omega)];rfl
      ·rw[if_pos (by omega)];rfl
      ·rfl
     unfold Instr.sliceAt;simp only[dO9,G6,N4 y,dO1];unfold Instr.slice;simp only[dO9,G6,N4 y,dO1,q,P8 r,dQ4,reS]
    all_goals simp[isS]at p
   ·cases h
  ·split at h
   ·rename_i s;split at h
    ·rename_i o;simp only[dO8,dQ3]at o;obtain⟨⟨⟨p,z⟩,A⟩,u⟩:=o;obtain rfl:=dO3 h;have d:(∃k,g=some (.int k j))\/g=none/\j=s.size:=by
      split at b
      ·simp only[isS,dS7,dU1]at b;exact .inr ⟨rfl,(dO3 b).symm⟩
      ·obtain rfl:=dO3 b;exact .inl ⟨_,rfl⟩
      ·cases b
     have q:(Instr.sliceBounds false s.size s.size m g none).run P w = .ok (l.toNat,j.toNat,s.size) w:=by
      rcases i with⟨k,rfl⟩|⟨rfl,rfl⟩<;>rcases d with⟨B,rfl⟩|⟨rfl,rfl⟩ <;>
       simp only[Instr.sliceBounds,Instr.sliceBound,asIntOf,dO9,dQ4,dO1]
      ·rw[if_pos (by omega)];simp only[dQ4,dO1];rw[if_pos (by omega)];rfl
      ·rw[if_pos (by omega)];rfl
      ·rw[if_pos (by omega)];rfl
      ·rfl
     unfold Instr.sliceAt;simp only[dO9,G6,aN5 p,dO1];unfold Instr.slice;simp only[dO9,G6,aN5 p,dO1,q,dQ4,Option.isSome_none,dS7,dU1]
    ·cases h
   ·cases h
 ·cases h
def aJ9{f:Fr}{o:Oper}{v:Value}(h:av3 P f o.op=some v)(w:World):(execOp (ev f) o).run P w = .ok (.value v) w:=by
 have g:∀{s:Sem Value},s.run P w = .ok v w->(do pure (.value (<-s)):Sem Next).run P w = .ok (.value v) w:=λE=>by
  rw[dO9,E];rfl
 obtain⟨d,op,ty,H,C,I⟩:=o;unfold av3 at h;simp only at h;cases op<;>try simp only at h
 case move x=>obtain rfl:=dO3 h;rfl
 case assign x=>obtain rfl:=dO3 h;rfl
 case pick c a b=>
  split at h
  ·rename_i t r;obtain rfl:=dO3 h;simp only[execOp,r,asBool,dO9,dQ4,dO1]
  ·cases h
 case binOp op t x y t2=>exact g (cd8 h w)
 case unOp op t x=>
  refine g ?_;unfold unV at h;split at h
  ·rename_i b A;split at h
   ·obtain rfl:=dO3 h;simp[A,Op.unary]
   ·cases h
  ·rename_i k n A;split at h
   ·obtain rfl:=dO3 h;simp[A,Op.unary,Op.intArith]
   ·cases h
  ·cases h
 case fieldAddr s x i=>exact g (bL4 h w)
 case field s x i=>exact g (cf5 h w)
 case indexAddr t x i=>exact g (ch2 h w)
 case index t x i=>exact g (bL8 h w)
 case slice t x lo hi mx=>
  cases mx
  case none=>exact g (bO0 h w)
  case some m=>cases h
 case extract x i=>
  refine g ?_;split at h
  ·rename_i J F;unfold Instr.extract;simp only[F,h];rfl
  ·cases h
 case nilCheck x=>
  split at h
  ·rename_i a D;obtain rfl:=dO3 h;simp only[execOp,D,dQ4]
  ·cases h
 case convert s d' x=>exact g (bS3 h w)
 case makeFunc fn first cap=>obtain rfl:=dO3 h;rfl
 case build t parts=>
  refine g ?_;have:=bJ8 h w;have e:(parts.toList.map λp=>(p.1,ev f p.2)).toArray=parts.map λp=>(p.1,ev f p.2):=by
   apply Array.ext';simp
  rw[e]at this;exact this
 case call c=>
  obtain⟨z,args,u⟩:=c;simp only at h;cases z
  case builtin b=>
   cases b<;>try simp only at h
   case len=>
    split at h
    ·rename_i x t l r;have j:args=#[x]:=by apply Array.ext';simpa using l
     have q:u=#[t]:=by apply Array.ext';simpa using r
     subst j q;have:=ch5 (ty:=ty) h w;simp only[execOp,resolve,invoke,builtin,dO9,dQ4,dO1];simp only[List.map_toArray,dQ8,List.map_nil,this,dO1]
    ·cases h
   case cap=>
    split at h
    ·rename_i x t l r;have j:args=#[x]:=by apply Array.ext';simpa using l
     have q:u=#[t]:=by apply Array.ext';simpa using r
     subst j q;have:=ce3 (ty:=ty) h w;simp only[execOp,resolve,invoke,builtin,dO9,dQ4,dO1];simp only[List.map_toArray,dQ8,List.map_nil,this,dO1]
    ·cases h
   case min=>
    split at h
    ·rename_i x y l;have j:args=#[x,y]:=by apply Array.ext';simpa using l
     subst j;unfold cO4 at h;split at h
     ·rename_i k a G b l B;obtain rfl:=dO3 h;simp[execOp,resolve,invoke,builtin,Builtin.min_,Builtin.min2,l,B]
     ·cases h
    ·cases h
   case max=>
    split at h
    ·rename_i x y l;have j:args=#[x,y]:=by apply Array.ext';simpa using l
     subst j;unfold cO2 at h;split at h
     ·rename_i k a G b l B;obtain rfl:=dO3 h;simp[execOp,resolve,invoke,builtin,Builtin.max_,Builtin.max2,l,B]
     ·cases h
    ·cases h
   all_goals cases h
  all_goals cases h
 all_goals cases h
end
def dQ2:=@Nat.zero_add
def bl8(f:Fr)(o:Oper):Option (Sem Value):=match o.op with
 | .load t a=>some (Instr.loadAt t (ev f a))
 | .buildSlice t n parts=>some (Instr.buildSlice t n (parts.map λp=>(p.1,ev f p.2)))
 | .alloc e=>some (Instr.alloc e true (.tuple #[]))
 | .box e x=>some (Instr.box e (ev f x))
 | .makeSlice t l c=>some (Instr.makeSlice t (ev f l) (ev f c))
 | .binOp op t x y _=>some (do eqGuard op t x y (ev f x) (ev f y);binOp op t (ev f x) (ev f y))
 | .convert s d x=>some (convert s d (ev f x))
 | .makeMap t r=>some (Instr.makeMap t (r.map (ev f)))
 | .lookup t x i ok=>some (Instr.lookup t (ev f x) (ev f i) ok)
 | .makeInterface t x=>some (Instr.makeInterface t (ev f x))
 | .call c=>match c.callee with
   | .builtin .append=>some (Builtin.append_ c.argTypes o.type (c.args.map (ev f)))
   | .builtin .copy=>some (Builtin.copy_ c.argTypes o.type (c.args.map (ev f)))
   | .builtin .clear=>some (Builtin.clear_ c.argTypes o.type (c.args.map (ev f)))
   | .builtin .len=>some (Builtin.len_ c.argTypes o.type (c.args.map (ev f)))
   | .builtin .delete=>some (Builtin.delete_ c.argTypes o.type (c.args.map (ev f)))
   | _=>none
 | _=>none
def ah2(r:Result Value)(K:Fr->World->Prop)(f:Fr)(d:Option Nat):Prop:=match r with
 | .ok v w=>K (C4 f d v) w
 | _=>False
def bd5(r:Result Unit)(K:Fr->World->Prop)(f:Fr)(d:Option Nat):Prop:=match r with
 | .ok _ w=>K (C4 f d undef) w
 | _=>False
def F3(P:Program)(S:World->Prop)(s:Sem Value)(K:Fr->World->Prop)(f:Fr)(d:Option Nat)(w:World):Prop:=
 ∃v,(∀a,S a->s.run P a = .ok v a)/\K (C4 f d v) w
def E8(S:World->Prop)(K:Fr->World->Prop):Fr->World->Prop:=λf w=>S w/\K f w
def bo5(P:Program)(S:Option (World->Prop))(a:Bool)(s:Sem Value)(K:Fr->World->Prop)(f:Fr)(d:Option Nat)(w:World):Prop:=
 match S with
 | none=>ah2 (s.run P w) K f d
 | some S=>if a then F3 P S s K f d w else ah2 (s.run P w) (E8 S K) f d
def aO9(S:Option (World->Prop))(K:Fr->World->Prop):Fr->World->Prop:=
 match S with
 | none=>K
 | some S=>E8 S K
def ak6(P:Program)(k:Nat):Bool:=match P.funcs[k]? with
 | some fn=>fn.name != "runtime.NumGoroutine" && fn.body.isSome
 | none=>false
def ax0(P:Program)(k:Nat)(args:List Value)(w:World)(K:Fr->World->Prop)(f:Fr)(d:Option Nat):Prop:=
 (ak6 P k=true/\Calls P k args.toArray w λe a=>∃v,e = .returned v/\K (C4 f d v) a)\/∃v a,(callFunc k args.toArray).run P w = .ok (.value v) a/\K (C4 f d v) a
def ab9(P:Program)(S:Option (World->Prop))(o:Oper)(K:Fr->World->Prop)(f:Fr)(w:World):Prop:=
 match bl8 f o with
 | some s=>bo5 P S (flt o.op) s K f o.dst w
 | none=>match o.op with
   | .store t a x=>bd5 ((Instr.storeAt t (ev f a) (ev f x)).run P w) (aO9 S K) f o.dst
   | .mapUpdate t m k x=>bd5 ((Instr.mapUpdate t (ev f m) (ev f k) (ev f x)).run P w) (aO9 S K) f o.dst
   | .insert t m k x=>bd5 ((Instr.mapUpdate t (ev f m) (ev f k) (ev f x)).run P w) (aO9 S K) f o.dst
   | .call c=>match c.callee with
     | .value g=>match ev f g with
       | .func (.func k) first cap=>ax0 P k (first.toList++c.args.toList.map (ev f)++cap.toList) w (aO9 S K) f o.dst
       | _=>False
     | _=>False
   | _=>match S with
     | none=>P9 P o K f w
     | some S=>if flt o.op then ∃v,bx5 P S o f v/\K (C4 f o.dst v) w else P9 P o (λd b=>S b/\K d b) f w
def B1(P:Program)(S:Option (World->Prop))(o:Oper)(K:Fr->World->Prop)(f:Fr)(w:World):Prop:=
 match av3 P f o.op with
 | some v=>K (C4 f o.dst v) w
 | none=>ab9 P S o K f w
def Rn(P:Program)(ops:Array Oper):List Oper->(Fr->World->Prop)->Fr->World->Prop
 | [],K,f,w=>K f w
 | o::l,K,f,w=>match o.guard with
   | none=>B1 P none o (Rn P ops l K) f w
   | some (j,b)=>if aO3 ops f j=some b then B1 P none o (Rn P ops l K) f w else Rn P ops l K (C4 f o.dst undef) w
def RnF(P:Program)(ops:Array Oper)(S:World->Prop):aG5->(Fr->World->Prop)->Fr->World->Prop
 | .nil,K,f,w=>K f w
 | .op i l,K,f,w=>
  match ops[i]? with
  | none=>False
  | some o=>match o.guard with
    | none=>B1 P (some S) o (RnF P ops S l K) f w
    | some (j,b)=>if aO3 ops f j=some b then B1 P (some S) o (RnF P ops S l K) f w else RnF P ops S l K (C4 f o.dst undef) w
 | .fork rs k,K,f,w=>∀i∈rs,
   match ops[i]? with
   | none=>False
   | some o=>match o.guard with
     | none=>B1 P (some S) o (RnF P ops S (k i) K) f w/\flt o.op=false
     | some (j,b)=>if aO3 ops f j=some b then B1 P (some S) o (RnF P ops S (k i) K) f w/\flt o.op=false else RnF P ops S (k i) K (C4 f o.dst undef) w
section
variable {P:Program}
def cx6{k:Nat}{args:List Value}{w:World}{K:Fr->World->Prop}{f:Fr}{d:Option Nat}(h:ax0 P k args w K f d):
  match(callFunc k args.toArray).run P w with
  | .ok (.value v) w'=>K (C4 f d v) w'
  | .ok (.enter g asz) w'=>Calls P g asz w' λe w''=>∃v,e = .returned v/\K (C4 f d v) w''
  | _=>False:=by
 rcases h with⟨hb,h⟩|⟨v,w',hr,h⟩
 ·unfold ak6 at hb;cases hf:P.funcs[k]? with
  | none=>simp[hf]at hb
  | some fn=>
   simp only[hf,dO8,bne_iff_ne,ne_eq]at hb;obtain⟨hn,hbd⟩:=hb;have hbn:fn.body.isNone=false:=by cases hx:fn.body<;>simp[hx]at hbd ⊢
   have hne:(fn.name == "runtime.NumGoroutine")=false:=by simpa using hn
   simp only[callFunc,program,dO9,Sem.run,dO1,hf,hne,hbn,dS7,dU1];exact h
 ·rw[hr];exact h
def bB8{d:Option Nat}{g:Operand}{args:Array Operand}{c:Array TypeId}{ty:TypeId}{b:String}{a:Array Edge}{j:Option (Nat×Bool)}{K:Fr->World->Prop}{f:Fr}{w:World}
  (h:match ev f g with
    | .func (.func k) first cap=>ax0 P k (first.toList++args.toList.map (ev f)++cap.toList) w K f d
    | _=>False):P9 P ⟨d,.call ⟨.value g,args,c⟩,ty,b,a,j⟩ K f w:=by
 cases hg:ev f g
 case func fn first cap=>
  cases fn
  case func k=>
   simp only[hg]at h;have i:=cx6 h;unfold P9;have e:(execOp (ev f) ⟨d,.call ⟨.value g,args,c⟩,ty,b,a,j⟩).run P w=(callFunc k (first.toList++args.toList.map (ev f)++cap.toList).toArray).run P w:=by
    simp only[execOp,resolve,hg,Deferred.ofValue,invoke,dO9,dQ4,dO1]
    congr 2
    apply Array.ext';simp
   rw[e];generalize(callFunc k (first.toList++args.toList.map (ev f)++cap.toList).toArray).run P w=r at *;cases r with
   | halt x l=>exact i
   | ok n l=>
    cases n
    case value v=>exact i
    case enter g asz=>exact i
    all_goals exact i.elim
  all_goals (simp only[hg]at h)
 all_goals (simp only[hg]at h)
def aq5{o:Oper}{s:Sem Unit}{K:Fr->World->Prop}{f:Fr}{w:World}(a:execOp (ev f) o=(do s;pure .skip:Sem Next))(h:bd5 (s.run P w) K f o.dst):P9 P o K f w:=by
 unfold P9;rw[a,dO9];unfold bd5 at h;cases hr:s.run P w with
 | ok u b=>rw[hr]at h;exact h
 | halt x b=>rw[hr]at h;exact h.elim
def ae6{o:Oper}{s:Sem Value}{K:Fr->World->Prop}{f:Fr}{w:World}(a:execOp (ev f) o=(do pure (.value (<-s)):Sem Next))(h:ah2 (s.run P w) K f o.dst):P9 P o K f w:=by
 unfold P9;rw[a,dO9];unfold ah2 at h;cases hr:s.run P w with
 | ok u b=>rw[hr]at h;exact h
 | halt x b=>rw[hr]at h;exact h.elim
def aZ4{o:Oper}{K:Fr->World->Prop}{f:Fr}{w:World}(h:B1 P none o K f w):P9 P o K f w:=by
 unfold B1 at h;cases hp:av3 P f o.op with
 | some v=>
  simp only[hp]at h;unfold P9;rw[aJ9 hp];exact h
 | none=>
  simp only[hp]at h;obtain⟨d,op,p,j,i,n⟩:=o;unfold ab9 bl8 at h;cases op
  case call c=>
   obtain⟨e,args,l⟩:=c;cases e
   case builtin b=>
    cases b
    case append=>exact ae6 rfl h
    case copy=>exact ae6 rfl h
    case clear=>exact ae6 rfl h
    case len=>exact ae6 rfl h
    case delete=>exact ae6 rfl h
    all_goals exact h.elim
   case value g=>exact bB8 h
   case invoke r m=>exact h.elim
  case store t a x=>exact aq5 rfl h
  case mapUpdate t m k x=>exact aq5 rfl h
  case insert t m k x=>exact aq5 rfl h
  all_goals first
   | exact ae6 rfl h
   | exact h
def aZ3{S:World->Prop}{o:Oper}{K:Fr->World->Prop}{f:Fr}{w:World}(h:B1 P (some S) o K f w)(hS:S w):
  if flt o.op then ∃v,bx5 P S o f v/\K (C4 f o.dst v) w else P9 P o (λq i=>S i/\K q i) f w:=by
 unfold B1 at h;cases hp:av3 P f o.op with
 | some v=>
  simp only[hp]at h;split
  ·exact⟨v,λi _=>aJ9 hp i,h⟩
  ·unfold P9;rw[aJ9 hp];exact⟨hS,h⟩
 | none=>
  simp only[hp]at h;obtain⟨d,op,z,l,j,u⟩:=o;have e:∀{s:Sem Value},(execOp (ev f) ⟨d,op,z,l,j,u⟩)=(do pure (.value (<-s)):Sem Next)->bo5 P (some S) (flt op) s K f d w ->
    if flt op then ∃v,bx5 P S ⟨d,op,z,l,j,u⟩ f v/\K (C4 f d v) w else P9 P ⟨d,op,z,l,j,u⟩ (λq i=>S i/\K q i) f w:=by
   intro s A n;unfold bo5 at n;cases hfl:flt op with
   | true=>
    simp only[hfl,dS6]at n;obtain⟨v,C,B⟩:=n;rw[if_pos rfl];refine⟨v,λi y=>?_,B⟩;rw[A,dO9,C i y];rfl
   | false=>
    simp only[hfl,dS7,dU1]at n;rw[if_neg (by simp)];exact ae6 A n
  unfold ab9 bl8 at h;cases op
  case call c=>
   obtain⟨p,args,D⟩:=c;cases p
   case builtin b=>
    cases b
    case append=>exact e rfl h
    case copy=>exact e rfl h
    case clear=>exact e rfl h
    case len=>exact e rfl h
    case delete=>exact e rfl h
    all_goals exact h.elim
   case value g=>exact bB8 (K:=E8 S K) h
   case invoke r m=>exact h.elim
  case store t a x=>exact aq5 (K:=E8 S K) rfl h
  case mapUpdate t m k x=>exact aq5 (K:=E8 S K) rfl h
  case insert t m k x=>exact aq5 (K:=E8 S K) rfl h
  all_goals first
   | exact e rfl h
   | exact h
def ax2{ops:Array Oper}{K:Fr->World->Prop}:∀(l:List Oper) (f:Fr) (w:World),Rn P ops l K f w->Run P ops l K f w
 | [],f,w,h=>h
 | o::l,f,w,h=>by
  unfold Rn at h;unfold Run Region.wanted;cases hg:o.guard with
  | none=>
   simp only[hg]at h;simp only[dS6];exact aj7 (ax2 l) (aZ4 h)
  | some c=>
   obtain⟨j,b⟩:=c;simp only[hg]at h;simp only[beq_iff_eq];split
   ·rename_i a;rw[if_pos a]at h;exact aj7 (ax2 l) (aZ4 h)
   ·rename_i a;rw[if_neg a]at h;exact ax2 l _ _ h
def ap5{ops:Array Oper}{S:World->Prop}{K e:Fr->World->Prop}(b:∀f w,K f w->e f w):∀(l:aG5) (f:Fr) (w:World),au4 P ops S l K f w->au4 P ops S l e f w
 | .nil,f,w,h=>b _ _ h
 | .op i l,f,w,h=>by
  unfold au4 at *;cases ho:ops[i]? with
  | none=>simp[ho]at h
  | some o=>
   simp only[ho]at h ⊢;split
   ·rename_i a;rw[if_pos a]at h;split
    ·rename_i d;rw[if_pos d]at h;obtain⟨v,g,j⟩:=h;exact⟨v,g,ap5 b l _ _ j⟩
    ·rename_i d;rw[if_neg d]at h;exact aj7 (λf w c=>⟨c.1,ap5 b l _ _ c.2⟩) h
   ·rename_i a;rw[if_neg a]at h;exact ap5 b l _ _ h
 | .fork rs k,f,w,h=>by
  unfold au4 at *;intro i m;have h:=h i m;cases ho:ops[i]? with
  | none=>simp[ho]at h
  | some o=>
   simp only[ho]at h ⊢;split
   ·rename_i a;rw[if_pos a]at h;exact aj7 (λf w c=>⟨c.1,ap5 b (k i) _ _ c.2⟩) h
   ·rename_i a;rw[if_neg a]at h;exact ap5 b (k i) _ _ h
def ae9{ops:Array Oper}{S:World->Prop}{K:Fr->World->Prop}:∀(l:aG5) (f:Fr) (w:World),S w->RnF P ops S l K f w->au4 P ops S l K f w
 | .nil,f,w,_,h=>h
 | .op i l,f,w,hS,h=>by
  unfold RnF at h;unfold au4 Region.wanted;cases ho:ops[i]? with
  | none=>simp[ho]at h
  | some o=>
   simp only[ho]at h ⊢;have a:B1 P (some S) o (RnF P ops S l K) f w->(if flt o.op then ∃v,bx5 P S o f v/\au4 P ops S l K (C4 f o.dst v) w else P9 P o (λn m=>S m/\au4 P ops S l K n m) f w):=by
    intro p;have c:=aZ3 p hS;split
    ·rename_i g;rw[if_pos g]at c;obtain⟨v,r,s⟩:=c;exact⟨v,r,ae9 l _ _ hS s⟩
    ·rename_i g;rw[if_neg g]at c;exact aj7 (λf w e=>⟨e.1,ae9 l _ _ e.1 e.2⟩) c
   cases hg:o.guard with
   | none=>
    simp only[hg]at h;simp only[dS6];exact a h
   | some q=>
    obtain⟨j,b⟩:=q;simp only[hg]at h;simp only[beq_iff_eq];split
    ·rename_i d;rw[if_pos d]at h;exact a h
    ·rename_i d;rw[if_neg d]at h;exact ae9 l _ _ hS h
 | .fork rs k,f,w,hS,h=>by
  unfold RnF at h;unfold au4 Region.wanted;intro i t;have h:=h i t;cases ho:ops[i]? with
  | none=>simp[ho]at h
  | some o=>
   simp only[ho]at h ⊢;have a:B1 P (some S) o (RnF P ops S (k i) K) f w/\flt o.op=false->P9 P o (λn m=>S m/\au4 P ops S (k i) K n m) f w:=by
    rintro⟨p,g⟩;have c:=aZ3 p hS;rw[if_neg (by simp[g])]at c;exact aj7 (λf w e=>⟨e.1,ae9 (k i) _ _ e.1 e.2⟩) c
   cases hg:o.guard with
   | none=>
    simp only[hg]at h;simp only[dS6];exact a h
   | some q=>
    obtain⟨j,b⟩:=q;simp only[hg]at h;simp only[beq_iff_eq];split
    ·rename_i d;rw[if_pos d]at h;exact a h
    ·rename_i d;rw[if_neg d]at h;exact ae9 (k i) _ _ hS h
end
def af8(K:Fr->World->Prop)(Q:Exit->Fr->World->Prop):Exit->Fr->World->Prop
 | .normal,f,w=>K f w
 | e,f,w=>Q e f w
def ab3(id:Nat)(Q:Exit->Fr->World->Prop):Exit->Fr->World->Prop
 | .exit id',f,w=>if id'=id then Q .normal f w else Q (.exit id') f w
 | e,f,w=>Q e f w
def aO5(v:Value)(A B:Fr->World->Prop)(f:Fr)(w:World):Prop:=
 match v with
 | .bool true=>A f w
 | .bool false=>B f w
 | _=>False
def cn6(B:(Exit->Fr->World->Prop)->Fr->World->Prop)(Q:Exit->Fr->World->Prop)(f:Fr)(w:World):Prop:=
 ∃(c:Type) (I:c->Fr->World->Prop) (m:c->Nat) (h:c),I h f w /\
  ∀s d g,I s d g->B (af8 (λa b=>∃e,m e<m s/\I e a b) Q) d g
def cG1(P:Program)(ops:Array Oper)(K:Fr->World->Prop)(f:Fr)(w:World):Prop:=
 ∃(S:World->Prop) (n:Nat) (a:aG5),bZ1 ops n a=true/\S w.drew/\RnF P ops S a (Rn P ops (ops.toList.drop n) K) f w.drew
def CW(P:Program):Code->(Exit->Fr->World->Prop)->Fr->World->Prop
 | .skip,Q,f,w=>Q .normal f w
 | .seq a b,Q,f,w=>CW P a (af8 (CW P b Q) Q) f w
 | .cond c a b,Q,f,w=>aO5 (ev f c) (CW P a Q) (CW P b Q) f w
 | .block id a,Q,f,w=>CW P a (ab3 id Q) f w
 | .loop a,Q,f,w=>cn6 (CW P a) Q f w
 | .region _ ops d,Q,f,w=>if d then cG1 P ops (Q .normal) f w else Rn P ops ops.toList (Q .normal) f w
 | .exit id,Q,f,w=>Q (.exit id) f w
 | .label _,Q,f,w=>Q .normal f w
 | .ret,Q,f,w=>Q .ret f w
 | _,_,_,_=>False
def ar6(N:Nat):Code->Bool
 | .seq a b=>ar6 N a&&ar6 N b
 | .cond _ a b=>ar6 N a&&ar6 N b
 | .block _ a=>ar6 N a
 | .loop a=>ar6 N a
 | .region _ ops _=>cK1 N ops
 | _=>true
def cJ5(Q:Exit->Fr->World->Prop):Prop:=∀c f w,¬Q (.panic c) f w
def bC0{K:Fr->World->Prop}{Q:Exit->Fr->World->Prop}(h:cJ5 Q):cJ5 (af8 K Q):=λc f w=>h c f w
def ce2{id:Nat}{Q:Exit->Fr->World->Prop}(h:cJ5 Q):cJ5 (ab3 id Q):=λc f w=>h c f w
def cn4{P:Program}{Q:Exit->Act->World->Prop}{a:Act}{w:World}{c:Code}{σ:Type}(I:σ->Act->World->Prop)(m:σ->Nat)(D:σ)(v:I D a w)
  (p:∀s a w,I s a w->c.wp P (Exit.then (λq r=>∃y,m y<m s/\I y q r) Q) a w):(Code.loop c).wp P Q a w:=by
 intro b k A;have C:∀n s a w,m s=n->I s a w ->
   ∃e q r,Q e q r/\Arrives P (lone (b.at a (.code c :: .inLoop c::k)) A w) b k A e q r:=by
  intro n
  induction n using Nat.strongRecOn with
  | _ n G=>
   intro s a w F E;obtain⟨e,f,g,i,d⟩:=p s a w E b (.inLoop c::k) A;cases e with
   | normal=>
    obtain⟨y,B,j⟩:=i;obtain⟨u,t,z,o,h⟩:=G (m y) (F ▸ B) y f g rfl j;exact⟨u,t,z,o,.of_steps (Steps.trans d (.one step_inLoop)) h⟩
   | exit id=>exact⟨_,f,g,i,.pass (x:=.inLoop c) rfl (λ_ _=>.inl (by simp)) d⟩
   | goto l=>exact⟨_,f,g,i,.pass (x:=.inLoop c) rfl (λ_ _=>.inl (by simp)) d⟩
   | ret=>exact⟨_,f,g,i,.pass (x:=.inLoop c) rfl (λ_ _=>.inl (by simp)) d⟩
   | panic H=>exact⟨_,f,g,i,.pass (x:=.inLoop c) rfl (λ_ _=>.inl (by simp)) d⟩
   | outgrown=>exact⟨_,f,g,i,.pass (x:=.inLoop c) rfl (λ_ _=>.inl (by simp)) d⟩
 obtain⟨e,q,r,i,d⟩:=C _ D a w rfl v;exact⟨e,q,r,i,.of_steps (.one step_loop) d⟩
def cF7{P:Program}{N:Nat}(hm:P.follows .mixedOrders=true):∀(c:Code) (Q:Exit->Fr->World->Prop) (a:Act) (w:World),cJ5 Q->ar6 N c=true ->
  a.tmps.size=N->a.defers=[]->CW P c Q (ad9 a) w->c.wp P (lft N Q) a w:=by
 intro c
 induction c with
 | skip=>intro Q a w _ _ i g h;exact wp_skip ⟨i,g,h⟩
 | seq x y q r=>
  intro Q a w k b i g h;simp only[ar6,dO8]at b;refine wp_seq (wp_mono (q _ a w (bC0 k) b.1 i g h) ?_);intro e A z j;cases e
  case normal=>exact r _ A z k b.2 j.1 j.2.1 j.2.2
  all_goals exact j
 | cond v x y q r=>
  intro Q a w k b i g h;simp only[ar6,dO8]at b;simp only[CW]at h;unfold aO5 at h;have H:a.eval v=ev (ad9 a) v:=by rw[bL2]
  generalize J:ev (ad9 a) v=u at h;cases u
  case bool t=>
   cases t
   case true=>exact wp_cond_true (by rw[H,J]) (q _ a w k b.1 i g h)
   case false=>exact wp_cond_false (by rw[H,J]) (r _ a w k b.2 i g h)
  all_goals exact h.elim
 | block id x G=>
  intro Q a w k b i g h;refine wp_block (wp_mono (G _ a w (ce2 k) b i g h) ?_);intro e A z j;cases e
  case exit id'=>
   simp only[Exit.inBlock];simp only[lft,ab3]at j;split
   ·rename_i p;rw[if_pos p]at j;exact j
   ·rename_i p;rw[if_neg p]at j;exact j
  all_goals exact j
 | loop x G=>
  intro Q a w k b i g h;obtain⟨σ,I,m,Y,L,U⟩:=h;refine cn4 (λs a w=>a.tmps.size=N/\a.defers=[]/\I s (ad9 a) w) m Y ⟨i,g,L⟩ ?_;rintro s A z ⟨F,E,O⟩;refine wp_mono (G _ A z (bC0 k) b F E (U s _ z O)) ?_;intro e K Z j;cases e
  case normal=>
   obtain⟨C,M,X,B,D⟩:=j;exact⟨X,B,C,M,D⟩
  all_goals exact j
 | region id V d=>
  intro Q a w k b i g h;cases d
  case false=>
   simp only[CW,dS7,dU1]at h;exact wp_region_list (aw7 _ a w (λo T=>Array.all_eq_true'.1 b o (by simpa using T)) i g (ax2 _ _ _ h))
  case true=>
   simp only[CW,dS6]at h;obtain⟨S,n,W,C,B,D⟩:=h;exact by8 hm k C b i g B (ap5 (λf w R=>ax2 _ f w R) _ _ _ (ae9 _ _ _ B D))
 | exit id=>intro Q a w _ _ i g h;exact wp_exit ⟨i,g,h⟩
 | label l=>intro Q a w _ _ i g h;exact wp_label ⟨i,g,h⟩
 | ret=>intro Q a w _ _ i g h;exact wp_ret ⟨i,g,h⟩
 | _=>intro Q a w _ _ _ _ h;exact h.elim
def dk8(args:List Value):Fr:=λi=>args.getD i undef
def bQ9:Nat->List Value->Fr
 | _,[]=>λ_=>undef
 | k,v::vs=>p8 (bQ9 (k+1) vs) k v
def co1:∀(a:List Value) (k i:Nat),bQ9 k a (k+i)=a.getD i undef
 | [],_,_=>by simp[bQ9]
 | v::a,k,0=>by simp[bQ9,p8]
 | v::a,k,i+1=>by
  have:=co1 a (k+1) i;simp only[bQ9,p8];rw[if_neg (by omega),show k+(i+1)=k+1+i by omega,this];simp
theorem dk9(args:List Value):dk8 args=bQ9 0 args:=by
 funext i
 have:=co1 args 0 i;simp only[dQ2]at this;rw[this];rfl
def cj4(P:Program)(w:World)(f:Fr):ResultVar->Value->Prop
 | .tmp t,v=>v=f t
 | .cell a ty,v=>(do loadVar ty (<-asAddr (f a)):Sem Value).run P w = .ok v w
def bv2(P:Program)(w:World)(f:Fr):List ResultVar->List Value->Prop
 | [],[]=>True
 | r::rs,v::vs=>cj4 P w f r v/\bv2 P w f rs vs
 | _,_=>False
def be8:List Value->Value
 | [v]=>v
 | vs=>.tuple vs.toArray
def bz0(P:Program)(b:Func)(R:Value->World->Prop):Exit->Fr->World->Prop
 | .normal,f,w=>∃a,bv2 P w f b.results.toList a/\R (be8 a) w
 | .ret,f,w=>∃a,bv2 P w f b.results.toList a/\R (be8 a) w
 | _,_,_=>False
def bv3{P:Program}{w:World}{a:Act}:∀(c:List ResultVar) (d:List Value),bv2 P w (ad9 a) c d ->
  (c.mapM (m:=Sem) fun
   | .tmp t=>pure (a.tmps.getD t undef)
   | .cell x t=>do loadVar t (<-asAddr (a.tmps.getD x undef))).run P w = .ok d w
 | [],[],_=>by simp
 | [],_::_,h=>h.elim
 | _::_,[],h=>h.elim
 | r::c,v::d,h=>by
  have e:=bv3 c d h.2;have b:=h.1;cases r with
  | tmp t=>
   simp only[cj4,ad9]at b;subst b;simp only[List.mapM_cons,dO9,dQ4,dO1,e]
  | cell x t=>
   simp only[cj4,ad9]at b;simp only[List.mapM_cons];rw[dO9,b];simp only[dO9,dQ4,dO1,e]
def bj8{P:Program}{b:Func}{w:World}{a:Act}{vs:List Value}(h:bv2 P w (ad9 a) b.results.toList vs):
  (results b a.tmps).run P w = .ok (be8 vs) w:=by
 have c:=bv3 _ _ h;unfold results;rw[Array.mapM_eq_mapM_toList];simp only[dO9,Sem.run_map]
 erw [c]
 simp only[dO1,dQ4]
 congr 1
 match vs with
 | []=>simp[be8]
 | [v]=>simp[be8]
 | v::u::vs=>simp[be8]
def bg7{P:Program}{k:FuncId}{a:Func}{c:Code}{args:List Value}{w:World}{R:Value->World->Prop}(hm:P.follows .mixedOrders=true)
  (p:P.funcs[k]?=some a) (hb:a.body=some c) (l:ar6 a.ntmps c=true) (d:args.length<=a.ntmps)
  (h:CW P c (bz0 P a R) (bQ9 0 args) w):Calls P k args.toArray w (λe o=>∃v,e = .returned v/\R v o):=by
 rw[<-dk9]at h;refine calls_of_wp p hb ?_;have j:ad9 {tmps:=args.toArray++Array.replicate (a.ntmps-args.toArray.size) undef,defers:=[]}=dk8 args:=by
  funext i
  simp only[ad9,dk8,Array.getD_eq_getD_getElem?,List.getD_eq_getElem?_getD];by_cases hi:i<args.length
  ·rw[Array.getElem?_append_left (by simpa using hi)];simp
  ·rw[Array.getElem?_append_right (by simp;omega)];rw[dV0 (by omega)];by_cases h2:i-args.length<a.ntmps-args.length
   ·simp[h2]
   ·simp[h2]
 have:=cF7 (N:=a.ntmps) hm c (bz0 P a R) {tmps:=args.toArray++Array.replicate (a.ntmps-args.toArray.size) undef,defers:=[]} w
  (λc f w q=>q) l (by simp;omega) rfl (by rw[j];exact h)
 refine wp_mono this ?_;intro e s o m;cases e
 case normal=>
  obtain⟨_,g,r,n,b⟩:=m;exact⟨g,_,bj8 n,_,rfl,b⟩
 case ret=>
  obtain⟨_,g,r,n,b⟩:=m;exact⟨g,_,bj8 n,_,rfl,b⟩
 all_goals exact m.2.2.elim
abbrev p7(P:Program)(k:FuncId)(args:Array Value)(w:World)(Q:Value->World->Prop):Prop:=Calls P k args w λe a=>∃v,e = .returned v/\Q v a
def p9{P:Program}{k:FuncId}{a:Func}{c:Code}{w:World}{R:Value->World->Prop}(args:List Value)(d:P.funcs[k]?=some a)(hb:a.body=some c)(h:CW P c (bz0 P a R) (bQ9 0 args) w)
  (b:ar6 a.ntmps c=true:=by kernel_rfl) (e:Nat.ble args.length a.ntmps=true:=by kernel_rfl) (hm:P.follows .mixedOrders=true:=by kernel_rfl):p7 P k args.toArray w R:=
 bg7 hm d hb b (Nat.le_of_ble_eq_true e) h
def o8{P:Program}{a:Func}{R:Value->World->Prop}{f:Fr}{w:World}{t:Nat}(h:a.results=#[.tmp t])(b:R (f t) w):bz0 P a R .ret f w:=
 ⟨[f t],by rw[h];exact⟨rfl,trivial⟩,b⟩
def T3{P:Program}{a:Func}{R:Value->World->Prop}{f:Fr}{w:World}{t u:Nat}(h:a.results=#[.tmp t,.tmp u])(b:R (.tuple #[f t,f u]) w):bz0 P a R .ret f w:=
 ⟨[f t,f u],by rw[h];exact⟨rfl,rfl,trivial⟩,b⟩
def bG3{P:Program}{a:Func}{R:Value->World->Prop}{f:Fr}{w:World}(h:a.results=#[])(b:R (.tuple #[]) w):bz0 P a R .normal f w:=
 ⟨[],by rw[h];exact trivial,b⟩
section
variable {P:Program} {Q:Exit->Fr->World->Prop} {f:Fr} {w:World} {K:Fr->World->Prop} {ops:Array Oper} {l:List Oper}
theorem dC4:CW P .skip Q f w=Q .normal f w:=rfl
theorem bn7{a b:Code}:CW P (.seq a b) Q f w=CW P a (af8 (CW P b Q) Q) f w:=rfl
theorem dB7{c:Operand}{a b:Code}:CW P (.cond c a b) Q f w=aO5 (ev f c) (CW P a Q) (CW P b Q) f w:=rfl
theorem ds5{id:Nat}{a:Code}:CW P (.block id a) Q f w=CW P a (ab3 id Q) f w:=rfl
theorem dC0{a:Code}:CW P (.loop a) Q f w=cn6 (CW P a) Q f w:=rfl
theorem dF9{id:Nat}:CW P (.region id ops false) Q f w=Rn P ops ops.toList (Q .normal) f w:=rfl
theorem dB8{id:Nat}:CW P (.region id ops true) Q f w=cG1 P ops (Q .normal) f w:=rfl
theorem dB9{id:Nat}:CW P (.exit id) Q f w=Q (.exit id) f w:=rfl
theorem dG0:CW P .ret Q f w=Q .ret f w:=rfl
theorem dF6:af8 K Q .normal f w=K f w:=rfl
theorem dz6:af8 K Q .normal=K:=rfl
theorem dF7:af8 K Q .ret f w=Q .ret f w:=rfl
theorem dF8{i:Nat}:af8 K Q (.exit i) f w=Q (.exit i) f w:=rfl
theorem dt6{i:Nat}:ab3 i Q .normal f w=Q .normal f w:=rfl
theorem dq9{i:Nat}:ab3 i Q .normal=Q .normal:=rfl
theorem dt7{i:Nat}:ab3 i Q .ret f w=Q .ret f w:=rfl
theorem dt8{i j:Nat}:ab3 i Q (.exit j) f w=if j=i then Q .normal f w else Q (.exit j) f w:=rfl
theorem dE3{A B:Fr->World->Prop}:aO5 (.bool true) A B f w=A f w:=rfl
theorem dE2{A B:Fr->World->Prop}:aO5 (.bool false) A B f w=B f w:=rfl
theorem n7{A B:Fr->World->Prop}{b:Bool}(a:b=true->A f w)(c:b=false->B f w):aO5 (.bool b) A B f w:=by
 cases b
 ·exact c rfl
 ·exact a rfl
theorem dG3:Rn P ops [] K f w=K f w:=rfl
theorem dK3{d:Option Nat}{op:Op}{ty:TypeId}{b:String}{a:Array Edge}:
  Rn P ops (⟨d,op,ty,b,a,none⟩::l) K f w=B1 P none ⟨d,op,ty,b,a,none⟩ (Rn P ops l K) f w:=rfl
theorem dK8{d:Option Nat}{op:Op}{ty:TypeId}{c:String}{a:Array Edge}{j:Nat}{b:Bool}:
  Rn P ops (⟨d,op,ty,c,a,some (j,b)⟩::l) K f w =
   if aO3 ops f j=some b then B1 P none ⟨d,op,ty,c,a,none⟩ (Rn P ops l K) f w else Rn P ops l K (C4 f d undef) w:=rfl
theorem ds3{S:Option (World->Prop)}{d:Option Nat}{op:Op}{ty:TypeId}{b:String}{a:Array Edge}{g:Nat×Bool}:
  B1 P S ⟨d,op,ty,b,a,some g⟩ K f w=B1 P S ⟨d,op,ty,b,a,none⟩ K f w:=rfl
def cL6(ops:Array Oper)(j:Nat):Option Nat:=(ops[j]?).bind (·.dst)
theorem dr5{j:Nat}:aO3 ops f j=match cL6 ops j with|some d=>(match f d with | .bool b=>some b|_=>none)|none=>none:=rfl
section
variable {S:World->Prop} {n i:Nat} {r:aG5}
theorem dC5:RnF P ops S .nil K f w=K f w:=rfl
theorem dG1:RnF P ops S (.op i r) K f w =
  match ops[i]? with
  | none=>False
  | some o=>match o.guard with
    | none=>B1 P (some S) o (RnF P ops S r K) f w
    | some (j,b)=>if aO3 ops f j=some b then B1 P (some S) o (RnF P ops S r K) f w else RnF P ops S r K (C4 f o.dst undef) w:=rfl
end
section
variable {S:Option (World->Prop)} {d:Option Nat} {ty:TypeId} {pos:String} {aft:Array Edge}
theorem dF2{x:Operand}:B1 P S ⟨d,.move x,ty,pos,aft,none⟩ K f w=K (C4 f d (ev f x)) w:=rfl
theorem ds4{x:Operand}:B1 P S ⟨d,.assign x,ty,pos,aft,none⟩ K f w=K (C4 f d (ev f x)) w:=rfl
def aD0(v:Option Value)(K:Fr->World->Prop)(f:Fr)(d:Option Nat)(w:World)(D:Prop):Prop:=match v with
 | some v=>K (C4 f d v) w
 | none=>D
theorem dI3{v:Value}{D:Prop}:aD0 (some v) K f d w D=K (C4 f d v) w:=rfl
theorem dF4{v:Value}:ah2 (.ok v w) K f d=K (C4 f d v) w:=rfl
theorem dF5{v:Unit}:bd5 (.ok v w) K f d=K (C4 f d undef) w:=rfl
theorem dF3{c a b:Operand}:B1 P S ⟨d,.pick c a b,ty,pos,aft,none⟩ K f w =
  aD0 (match ev f c with | .bool t=>some (if t then ev f a else ev f b)|_=>none) K f d w (ab9 P S ⟨d,.pick c a b,ty,pos,aft,none⟩ K f w):=rfl
theorem dI5{op:BinOp}{t a:TypeId}{x y:Operand}:B1 P S ⟨d,.binOp op t x y a,ty,pos,aft,none⟩ K f w =
  aD0 (B4 P op t (ev f x) (ev f y)) K f d w (ab9 P S ⟨d,.binOp op t x y a,ty,pos,aft,none⟩ K f w):=rfl
theorem dK7{op:UnOp}{t:TypeId}{x:Operand}:B1 P S ⟨d,.unOp op t x,ty,pos,aft,none⟩ K f w =
  aD0 (unV op (ev f x)) K f d w (ab9 P S ⟨d,.unOp op t x,ty,pos,aft,none⟩ K f w):=rfl
theorem dd0{s:TypeId}{x:Operand}{i:Nat}:B1 P S ⟨d,.fieldAddr s x i,ty,pos,aft,none⟩ K f w =
  aD0 (bL3 P s i (ev f x)) K f d w (ab9 P S ⟨d,.fieldAddr s x i,ty,pos,aft,none⟩ K f w):=rfl
theorem dx8{s:TypeId}{x:Operand}{i:Nat}:B1 P S ⟨d,.field s x i,ty,pos,aft,none⟩ K f w =
  aD0 (al5 P s i (ev f x)) K f d w (ab9 P S ⟨d,.field s x i,ty,pos,aft,none⟩ K f w):=rfl
theorem dd1{t:TypeId}{x i:Operand}:B1 P S ⟨d,.indexAddr t x i,ty,pos,aft,none⟩ K f w =
  aD0 (y0 P t (ev f x) (ev f i)) K f d w (ab9 P S ⟨d,.indexAddr t x i,ty,pos,aft,none⟩ K f w):=rfl
theorem dx9{t:TypeId}{x i:Operand}:B1 P S ⟨d,.index t x i,ty,pos,aft,none⟩ K f w =
  aD0 (M9 P t (ev f x) (ev f i)) K f d w (ab9 P S ⟨d,.index t x i,ty,pos,aft,none⟩ K f w):=rfl
theorem dy0{t:TypeId}{x:Operand}{b a:Option Operand}:B1 P S ⟨d,.slice t x b a none,ty,pos,aft,none⟩ K f w =
  aD0 (F8 P t (ev f x) (b.map (ev f)) (a.map (ev f))) K f d w (ab9 P S ⟨d,.slice t x b a none,ty,pos,aft,none⟩ K f w):=rfl
theorem dn8{x:Operand}{i:Nat}:B1 P S ⟨d,.extract x i,ty,pos,aft,none⟩ K f w =
  aD0 (match ev f x with | .tuple vs=>vs[i]?|_=>none) K f d w (ab9 P S ⟨d,.extract x i,ty,pos,aft,none⟩ K f w):=rfl
theorem di4{x:Operand}:B1 P S ⟨d,.nilCheck x,ty,pos,aft,none⟩ K f w =
  aD0 (match ev f x with | .pointer (some a)=>some (.pointer (some a))|_=>none) K f d w (ab9 P S ⟨d,.nilCheck x,ty,pos,aft,none⟩ K f w):=rfl
theorem di3{b:Fn}{first a:Array Operand}:B1 P S ⟨d,.makeFunc b first a,ty,pos,aft,none⟩ K f w=K (C4 f d (.func b (first.map (ev f)) (a.map (ev f)))) w:=rfl
theorem dx7{t:TypeId}{parts:Array (Nat×Operand)}:B1 P S ⟨d,.build t parts,ty,pos,aft,none⟩ K f w =
  aD0 (B8 P t (parts.toList.map λp=>(p.1,ev f p.2))) K f d w (ab9 P S ⟨d,.build t parts,ty,pos,aft,none⟩ K f w):=rfl
theorem dI7{x:Operand}{t:TypeId}:B1 P S ⟨d,.call {callee:=.builtin .len,args:=#[x],argTypes:=#[t]},ty,pos,aft,none⟩ K f w =
  aD0 (N7 P t (ev f x)) K f d w (ab9 P S ⟨d,.call {callee:=.builtin .len,args:=#[x],argTypes:=#[t]},ty,pos,aft,none⟩ K f w):=rfl
theorem dI6{x:Operand}{t:TypeId}:B1 P S ⟨d,.call {callee:=.builtin .cap,args:=#[x],argTypes:=#[t]},ty,pos,aft,none⟩ K f w =
  aD0 (cZ3 P t (ev f x)) K f d w (ab9 P S ⟨d,.call {callee:=.builtin .cap,args:=#[x],argTypes:=#[t]},ty,pos,aft,none⟩ K f w):=rfl
theorem dn7{s t:Nat}{x:Operand}:B1 P S ⟨d,.convert s t x,ty,pos,aft,none⟩ K f w =
  aD0 (bg9 P s t (ev f x)) K f d w (ab9 P S ⟨d,.convert s t x,ty,pos,aft,none⟩ K f w):=rfl
theorem dI1{D:Prop}:aD0 none K f d w D=D:=rfl
theorem dI9{x y:Operand}{a:Array TypeId}:B1 P S ⟨d,.call {callee:=.builtin .min,args:=#[x,y],argTypes:=a},ty,pos,aft,none⟩ K f w =
  aD0 (cO4 (ev f x) (ev f y)) K f d w (ab9 P S ⟨d,.call {callee:=.builtin .min,args:=#[x,y],argTypes:=a},ty,pos,aft,none⟩ K f w):=rfl
theorem dI8{x y:Operand}{a:Array TypeId}:B1 P S ⟨d,.call {callee:=.builtin .max,args:=#[x,y],argTypes:=a},ty,pos,aft,none⟩ K f w =
  aD0 (cO2 (ev f x) (ev f y)) K f d w (ab9 P S ⟨d,.call {callee:=.builtin .max,args:=#[x,y],argTypes:=a},ty,pos,aft,none⟩ K f w):=rfl
end
section
variable {d:Option Nat} {ty:TypeId} {pos:String} {aft:Array Edge} {S:World->Prop}
theorem dF0{t:TypeId}{a:Operand}:B1 P none ⟨d,.load t a,ty,pos,aft,none⟩ K f w=ah2 ((Instr.loadAt t (ev f a)).run P w) K f d:=rfl
theorem cW7{t n:Nat}{a:Array (Nat×Operand)}:B1 P none ⟨d,.buildSlice t n a,ty,pos,aft,none⟩ K f w=ah2 ((Instr.buildSlice t n (a.map λp=>(p.1,ev f p.2))).run P w) K f d:=rfl
theorem dw9{t:Nat}:B1 P none ⟨d,.alloc t,ty,pos,aft,none⟩ K f w=ah2 ((Instr.alloc t true (.tuple #[])).run P w) K f d:=rfl
theorem dI0{t:Nat}{x:Operand}:B1 P none ⟨d,.box t x,ty,pos,aft,none⟩ K f w=ah2 ((Instr.box t (ev f x)).run P w) K f d:=rfl
theorem dc8{t:Nat}{x y:Operand}:B1 P none ⟨d,.makeSlice t x y,ty,pos,aft,none⟩ K f w=ah2 ((Instr.makeSlice t (ev f x) (ev f y)).run P w) K f d:=rfl
theorem aC8{t:Nat}{r:Option Operand}:B1 P none ⟨d,.makeMap t r,ty,pos,aft,none⟩ K f w=ah2 ((Instr.makeMap t (r.map (ev f))).run P w) K f d:=rfl
theorem dr9{t:Nat}{x i:Operand}{a:Bool}:B1 P none ⟨d,.lookup t x i a,ty,pos,aft,none⟩ K f w=ah2 ((Instr.lookup t (ev f x) (ev f i) a).run P w) K f d:=rfl
theorem dn3{s t:Nat}{x:Operand}:ab9 P none ⟨d,.convert s t x,ty,pos,aft,none⟩ K f w=ah2 ((convert s t (ev f x)).run P w) K f d:=rfl
theorem dH5{op:BinOp}{t a:TypeId}{x y:Operand}:ab9 P none ⟨d,.binOp op t x y a,ty,pos,aft,none⟩ K f w=ah2 ((do eqGuard op t x y (ev f x) (ev f y);binOp op t (ev f x) (ev f y):Sem Value).run P w) K f d:=rfl
def dr8{x y:Operand}{a:Array TypeId}:B1 P none ⟨d,.call {callee:=.builtin .append,args:=#[x,y],argTypes:=a},ty,pos,aft,none⟩ K f w=ah2 ((Builtin.append_ a ty #[ev f x,ev f y]).run P w) K f d:=by
 simp[B1,av3,ab9,bl8,bo5]
def dE9{x y:Operand}{a:Array TypeId}:B1 P none ⟨d,.call {callee:=.builtin .copy,args:=#[x,y],argTypes:=a},ty,pos,aft,none⟩ K f w=ah2 ((Builtin.copy_ a ty #[ev f x,ev f y]).run P w) K f d:=by
 simp[B1,av3,ab9,bl8,bo5]
theorem dx1{t:Nat}{a x:Operand}:B1 P none ⟨d,.store t a x,ty,pos,aft,none⟩ K f w=bd5 ((Instr.storeAt t (ev f a) (ev f x)).run P w) K f d:=rfl
theorem aC9{t:Nat}{m k x:Operand}:B1 P none ⟨d,.mapUpdate t m k x,ty,pos,aft,none⟩ K f w=bd5 ((Instr.mapUpdate t (ev f m) (ev f k) (ev f x)).run P w) K f d:=rfl
def dE8{k:Nat}{a:Array Operand}{b:Array TypeId}:B1 P none ⟨d,.call {callee:=.value (.func k),args:=a,argTypes:=b},ty,pos,aft,none⟩ K f w=ax0 P k (a.toList.map (ev f)) w K f d:=by
 simp[B1,av3,ab9,bl8,ev,aO9]
theorem dE7{t:TypeId}{a:Operand}:B1 P (some S) ⟨d,.load t a,ty,pos,aft,none⟩ K f w=F3 P S (Instr.loadAt t (ev f a)) K f d w:=rfl
theorem dr7{t:Nat}{x i:Operand}{a:Bool}:B1 P (some S) ⟨d,.lookup t x i a,ty,pos,aft,none⟩ K f w=F3 P S (Instr.lookup t (ev f x) (ev f i) a) K f d w:=rfl
theorem dn2{s t:Nat}{x:Operand}:ab9 P (some S) ⟨d,.convert s t x,ty,pos,aft,none⟩ K f w=F3 P S (convert s t (ev f x)) K f d w:=rfl
theorem dH4{op:BinOp}{t a:TypeId}{x y:Operand}:ab9 P (some S) ⟨d,.binOp op t x y a,ty,pos,aft,none⟩ K f w=F3 P S (do eqGuard op t x y (ev f x) (ev f y);binOp op t (ev f x) (ev f y)) K f d w:=rfl
theorem cW5{t n:Nat}{a:Array (Nat×Operand)}:B1 P (some S) ⟨d,.buildSlice t n a,ty,pos,aft,none⟩ K f w=ah2 ((Instr.buildSlice t n (a.map λp=>(p.1,ev f p.2))).run P w) (E8 S K) f d:=rfl
theorem dw6{t:Nat}:B1 P (some S) ⟨d,.alloc t,ty,pos,aft,none⟩ K f w=ah2 ((Instr.alloc t true (.tuple #[])).run P w) (E8 S K) f d:=rfl
theorem dH9{t:Nat}{x:Operand}:B1 P (some S) ⟨d,.box t x,ty,pos,aft,none⟩ K f w=ah2 ((Instr.box t (ev f x)).run P w) (E8 S K) f d:=rfl
theorem dc6{t:Nat}{x y:Operand}:B1 P (some S) ⟨d,.makeSlice t x y,ty,pos,aft,none⟩ K f w=ah2 ((Instr.makeSlice t (ev f x) (ev f y)).run P w) (E8 S K) f d:=rfl
def dr6{x y:Operand}{a:Array TypeId}:B1 P (some S) ⟨d,.call {callee:=.builtin .append,args:=#[x,y],argTypes:=a},ty,pos,aft,none⟩ K f w=ah2 ((Builtin.append_ a ty #[ev f x,ev f y]).run P w) (E8 S K) f d:=by
 simp[B1,av3,ab9,bl8,bo5,flt]
def dE6{x y:Operand}{a:Array TypeId}:B1 P (some S) ⟨d,.call {callee:=.builtin .copy,args:=#[x,y],argTypes:=a},ty,pos,aft,none⟩ K f w=ah2 ((Builtin.copy_ a ty #[ev f x,ev f y]).run P w) (E8 S K) f d:=by
 simp[B1,av3,ab9,bl8,bo5,flt]
theorem dw8{t:Nat}{a x:Operand}:B1 P (some S) ⟨d,.store t a x,ty,pos,aft,none⟩ K f w=bd5 ((Instr.storeAt t (ev f a) (ev f x)).run P w) (E8 S K) f d:=rfl
def dE5{k:Nat}{a:Array Operand}{b:Array TypeId}:B1 P (some S) ⟨d,.call {callee:=.value (.func k),args:=a,argTypes:=b},ty,pos,aft,none⟩ K f w=ax0 P k (a.toList.map (ev f)) w (E8 S K) f d:=by
 simp[B1,av3,ab9,bl8,ev,aO9]
end
end
def dP5:=@List.append_assoc
def dR1:=@List.drop_eq_getElem_cons
def dR6:=@List.getElem?_append_left
def dR4:=@List.getElem?_append_right
def dM4:=@List.getElem?_eq_getElem
def dM9:=@List.getElem?_eq_some_iff
def dM7:=@List.length_append
def dN9:=@List.length_take
def dN7:=@List.mem_append
def dR8:=@List.take_append_drop
def dW1:=@List.take_left
def dY1:=@Nat.add_mul
def dN1:=@Nat.le_trans
def dS9:=@Nat.lt_of_lt_of_le
def dT1:=@Nat.min_eq_left
def dT8:=@Nat.mul_one
abbrev Hp:=Nat->Option Obj
def i4(w:World):Hp:=λb=>w.heap[b]?
def B5(h k:Hp):Prop:=∀b o,h b=some o->k b=some o
def i5(h:Hp):B5 h h:=λ_ _ e=>e
def t8{a b c:Hp}(h:B5 a b)(k:B5 b c):B5 a c:=λx o e=>k x o (h x o e)
def L3(h:Hp)(a:Addr):Option Value:=match h a.block with
 | some (.cells c _ _)=>if a.spot.isSome then none else c[a.off]?
 | _=>none
theorem ak4(w:World)(a:Addr):w.cell? a=L3 (i4 w) a:=rfl
def H2{h k:Hp}(b:B5 h k){a:Addr}{v:Value}(e:L3 h a=some v):L3 k a=some v:=by
 unfold L3 at *;cases hb:h a.block with
 | none=>simp[hb]at e
 | some o=>rw[b _ _ hb];rw[hb]at e;exact e
structure o9 (M:Nat->Prop) (w w':World):Prop where
 os:w'.os=w.os
 tape:w'.tape=w.tape
 output:w'.output=w.output
 size:w.heap.size<=w'.heap.size
 block:∀k,k<w.heap.size->¬M k->w'.heap[k]?=w.heap[k]?
abbrev o7(w a:World):Prop:=o9 (λ_=>False) w a
def o9.refl{M:Nat->Prop}(w:World):o9 M w w:=⟨rfl,rfl,rfl,dO0 _,λ_ _ _=>rfl⟩
def o9.trans{M:Nat->Prop}{a b c:World}(h:o9 M a b)(k:o9 M b c):o9 M a c:=
 ⟨k.os.trans h.os,k.tape.trans h.tape,k.output.trans h.output,dN1 h.size k.size,λi d hm=>(k.block i (dS9 d h.size) hm).trans (h.block i d hm)⟩
def o9.weaken{M N:Nat->Prop}{w c:World}(h:o9 M w c)(a:∀k,k<w.heap.size->M k->N k):o9 N w c:=⟨h.os,h.tape,h.output,h.size,λk b d=>h.block k b λhm=>d (a k b hm)⟩
def o7.drew(w:World):o7 w w.drew:=⟨rfl,rfl,rfl,dO0 _,λ_ _ _=>rfl⟩
def o7.alloc(w:World)(o:Obj):o7 w (w.alloc o):=⟨rfl,rfl,rfl,by simp,λk a _=>by
 show(w.heap.push o)[k]?=_;rw[Array.getElem?_push,if_neg (by omega)]⟩
def o9.ext_of{M:Nat->Prop}{w c d:World}(h:o7 w c)(k:o9 M c d)(e:∀b,M b->w.heap.size<=b):o7 w d:=
 ⟨k.os.trans h.os,k.tape.trans h.tape,k.output.trans h.output,dN1 h.size k.size,λi a _=>(k.block i (dS9 a h.size) (λhm=>by have:=e i hm;omega)).trans (h.block i a id)⟩
def o9.setCell{M:Nat->Prop}(w:World)(a:Addr)(v:Value)(h:M a.block):o9 M w (w.setCell a v):=
 ⟨rfl,rfl,rfl,by simp[World.setCell],λk _ hm=>by
  simp only[World.setCell,Array.getElem?_modify];rw[if_neg (λe:a.block=k=>hm (e ▸ h))]⟩
def o9.setRow{M:Nat->Prop}(w:World)(g:Nat)(cs:Array Value)(h:M g):o9 M w (w.setRow g cs):=
 ⟨rfl,rfl,rfl,by simp,λk _ hm=>setRow_other w g k cs (λe=>hm (e ▸ h))⟩
def b7{w a:World}(h:o7 w a):B5 (i4 w) (i4 a):=λb o e=>by
 have c:b<w.heap.size:=(dN0.1 (show w.heap[b]?=some o from e)).1;exact(h.block b c id).trans e
def H5{h:Hp}{M:Nat->Prop}{w c:World}(hw:B5 h (i4 w))(hm:o9 M w c)(d:∀b,M b->h b=none):B5 h (i4 c):=λb o e=>by
 have a:=hw b o e;have f:b<w.heap.size:=(dN0.1 (show w.heap[b]?=some o from a)).1;exact(hm.block b f (λg=>by rw[d b g]at e;cases e)).trans a
def aB8{h:Hp}{w:World}(hw:B5 h (i4 w)){b:Nat}(hb:w.heap.size<=b):h b=none:=by
 cases e:h b with
 | none=>rfl
 | some o=>
  have:=(dN0.1 (show w.heap[b]?=some o from hw b o e)).1;omega
class A4 (α:Type) where
 sz:Nat
 pos:0<sz
 enc:Hp->List Value->α->Prop
 len:∀{h cs x},enc h cs x->cs.length=sz
 mono:∀{h k cs x},B5 h k->enc h cs x->enc k cs x
 one:∀{h cs x},enc h cs x->∀v∈cs,v.oneCell'=true
class I4 (α:Type) where
 val:α->Value
 one:∀x,(val x).oneCell'=true
instance {α:Type} [I4 α]:A4 α where
 sz:=1
 pos:=by omega
 enc _ cs x:=cs=[I4.val x]
 len h:=by simp[h]
 mono _ h:=h
 one h:=by
  intro v hv;rw[h]at hv;simp at hv;subst hv;exact I4.one _
instance:I4 Int:=⟨λn=>.int .i64 n,λ_=>rfl⟩
instance:I4 Bool:=⟨λb=>.bool b,λ_=>rfl⟩
instance:I4 ByteArray:=⟨λs=>.string s,λ_=>rfl⟩
instance:I4 Nat:=⟨λn=>.int .u64 n,λ_=>rfl⟩
instance {α β:Type} [A4 α] [A4 β]:A4 (α×β) where
 sz:=A4.sz α+A4.sz β
 pos:=by have:=A4.pos (α:=α);omega
 enc h cs x:=∃c1 c2,cs=c1++c2/\A4.enc h c1 x.1/\A4.enc h c2 x.2
 len:=by rintro h cs x ⟨c1,c2,rfl,h1,h2⟩;simp[A4.len h1,A4.len h2]
 mono:=by rintro h k cs x hk ⟨c1,c2,rfl,h1,h2⟩;exact⟨c1,c2,rfl,A4.mono hk h1,A4.mono hk h2⟩
 one:=by
  rintro h cs x ⟨c1,c2,rfl,h1,h2⟩ v hv;rcases dN7.1 hv with hv|hv
  ·exact A4.one h1 v hv
  ·exact A4.one h2 v hv
section
variable {α:Type} [A4 α]
def O3(h:Hp):List Value->List α->Prop
 | cs,[]=>cs=[]
 | cs,x::xs=>∃a b,cs=a++b/\A4.enc h a x/\O3 h b xs
def M2{h:Hp}:∀{b:List α} {a:List Value},O3 h a b->a.length=b.length*A4.sz α
 | [],a,e=>by simp[O3]at e;simp[e]
 | x::b,a,e=>by
  obtain⟨f,g,rfl,c,d⟩:=e;simp only[dM7,dP4,A4.len c,M2 d,dY1];omega
def aL4{h k:Hp}(b:B5 h k):∀{c:List α} {a:List Value},O3 h a c->O3 k a c
 | [],_,e=>e
 | _::_,_,⟨c1,c2,e,h1,h2⟩=>⟨c1,c2,e,A4.mono b h1,aL4 b h2⟩
def bT1{h:Hp}:∀{c:List α} {b:List Value},O3 h b c->∀v∈b,v.oneCell'=true
 | [],b,e,v,a=>by simp[O3]at e;subst e;cases a
 | x::c,b,⟨c1,c2,e,h1,h2⟩,v,a=>by
  subst e;rcases dN7.1 a with a|a
  ·exact A4.one h1 v a
  ·exact bT1 h2 v a
def al4{h:Hp}:∀{d:List α} {b a:List Value} {c:List α},O3 h b d->O3 h a c->O3 h (b++a) (d++c)
 | [],b,a,c,e1,e2=>by simp[O3]at e1;subst e1;exact e2
 | x::d,b,a,c,⟨c1,c2,e,h1,h2⟩,e2=>⟨c1,c2++a,by rw[e,dP5],h1,al4 h2 e2⟩
def aH5{h:Hp}{a:List Value}{x:α}(b:A4.enc h a x):O3 h a [x]:=⟨a,[],by simp,b,rfl⟩
def ad7{h:Hp}:∀(d c:List α) {b:List Value},O3 h b (d++c)->∃a f,b=a++f/\O3 h a d/\O3 h f c
 | [],c,b,e=>⟨[],b,rfl,rfl,e⟩
 | x::d,c,b,⟨a,f,e,h1,h2⟩=>by
  obtain⟨g,i,j,k,l⟩:=ad7 d c h2;exact⟨a++g,i,by rw[e,j,dP5],⟨a,g,rfl,h1,k⟩,l⟩
def bT0{h:Hp}{xs:List α}{cs:List Value}(e:O3 h cs xs){k:Nat}{x:α}(d:xs[k]?=some x):
  ∃b,A4.enc h b x/\∀j,j<A4.sz α->cs[k*A4.sz α+j]?=b[j]?:=by
 have a:k<xs.length:=(dM9.1 d).1;have m:xs=xs.take k++x::xs.drop (k+1):=by
  have c:xs[k]=x:=(dM9.1 d).2;have:=dR8 k xs;rw[dR1 a,c]at this;exact this.symm
 rw[m]at e;obtain⟨f,n,rfl,g,⟨b,o,rfl,c,p⟩⟩:=ad7 _ _ e;refine⟨b,c,λj i=>?_⟩;have l:f.length=k*A4.sz α:=by rw[M2 g,dN9,dT1 (Nat.le_of_lt a)]
 rw[dR4 (by omega),l,Nat.add_sub_cancel_left,dR6 (by rw[A4.len c];exact i)]
def cK4{h:Hp}{xs:List α}{cs:List Value}(e:O3 h cs xs){k:Nat}(g:k<xs.length){y:α}{d:List Value}(q:A4.enc h d y):
  O3 h (cs.take (k*A4.sz α)++d++cs.drop (k*A4.sz α+A4.sz α)) (xs.set k y):=by
 have r:xs=xs.take k++xs[k]::xs.drop (k+1):=by
  have:=dR8 k xs;rw[dR1 g]at this;exact this.symm
 rw[r]at e;obtain⟨b,s,rfl,j,⟨f,c,rfl,o,p⟩⟩:=ad7 _ _ e;have l:b.length=k*A4.sz α:=by rw[M2 j,dN9,dT1 (Nat.le_of_lt g)]
 have i:f.length=A4.sz α:=A4.len o;have m:(b++(f++c)).take (k*A4.sz α)=b:=by rw[<-l];exact dW1
 have n:(b++(f++c)).drop (k*A4.sz α+A4.sz α)=c:=by
  rw[<-l,<-i,<-dP5,<-dM7];exact List.drop_left
 rw[m,n];have a:xs.set k y=xs.take k++y::xs.drop (k+1):=List.set_eq_take_append_cons_drop.trans (by rw[if_pos g]);rw[a,dP5];exact al4 j ⟨d,c,rfl,q,p⟩
instance:A4 (List α) where
 sz:=1
 pos:=by omega
 enc h cs xs:=∃a n c,cs=[.slice a n c]/\n=xs.length/\n<=c/\∃es,O3 h es xs/\∀j v,es[j]?=some v->∃ad,a=some ad/\L3 h (ad.add j)=some v
 len:=by rintro h cs x ⟨a,n,c,rfl,_⟩;rfl
 mono:=by
  rintro h k cs x hk ⟨a,n,c,e,h1,h2,es,h3,h4⟩;refine⟨a,n,c,e,h1,h2,es,aL4 hk h3,λj v hv=>?_⟩;obtain⟨ad,e1,e2⟩:=h4 j v hv;exact⟨ad,e1,H2 hk e2⟩
 one:=by
  rintro h cs x ⟨a,n,c,rfl,_⟩ v hv;simp at hv;subst hv;rfl
end
abbrev R{α:Type}[A4 α](h:Hp)(v:Value)(x:α):Prop:=A4.enc h [v] x
def Addr.add_add'(a:Addr)(x y:Nat):(a.add x).add y=a.add (x+y):=by
 unfold Addr.add;by_cases hx:x=0
 ·subst hx;simp
 ·by_cases hy:y=0
  ·subst hy;simp[hx]
  ·simp[hx,hy,dW3]
section
variable {α:Type} [A4 α] {h:Hp} {v:Value} {xs:List α}
theorem R.isS(b:R h v xs):isS v=true:=by
 obtain⟨a,n,c,e,_⟩:=b;simp at e;subst e;rfl
def R.vlen(d:R h v xs):vlen v=xs.length:=by
 obtain⟨a,n,c,e,b,_⟩:=d;simp at e;subst e;exact b
def R.vcap(f:R h v xs):xs.length<=vcap v:=by
 obtain⟨a,n,c,e,b,d,_⟩:=f;simp at e;subst e;rw[<-b];exact d
def R.get(A:R h v xs){k:Nat}{x:α}(p:xs[k]?=some x):
  inS v k=true/\∃i,A4.enc h i x/\∀j u,i[j]?=some u->L3 h ((G4 v (k*A4.sz α)).add j)=some u:=by
 obtain⟨a,n,c,e,D,E,i,t,m⟩:=A;simp at e;subst e;obtain⟨g,b,d⟩:=bT0 t p;have z:k<xs.length:=(dM9.1 p).1;have F:=A4.len b;have f:=A4.pos (α:=α);have s:∃u,g[0]?=some u:=by
  rw[dM4 (by omega)];exact⟨_,rfl⟩
 obtain⟨B,l⟩:=s;obtain⟨C,rfl,_⟩:=m (k*A4.sz α+0) B (by rw[d 0 f];exact l);refine⟨by simp[inS];omega,g,b,λj u o=>?_⟩;have y:j<g.length:=(dM9.1 o).1;obtain⟨q,r,w⟩:=m (k*A4.sz α+j) u (by rw[d j (by omega)];exact o);obtain rfl:=dO3 r;simp only[G4];rw[Addr.add_add'];exact w
def R.inS(b:R h v xs){k:Nat}(a:k<xs.length):inS v k=true:=(b.get (dM4 a)).1
end
def L7(a:Addr):a.add 0=a:=by simp[Addr.add]
section
variable {P:Program} {t:TypeId} {w:World} {h:Hp}
def S3{a:Addr}{u:Value}(b:I7 P t=false)(c:w.cell? a=some u):(Instr.loadAt t (.pointer (some a))).run P w = .ok u w:=by
 unfold Instr.loadAt loadVar;simp only[Instr.sureAddr,dO9,dQ4,dO1,aa4 t (aZ9 b),b,dS7,dU1,run_load,c]
def bt5{a:Addr}{cs:List Value}(e:I7 P t=true)(f:(P.underlying t).isSome=true)(c:(P.info? t).isSome=true)(d:L9 P t=cs.length)
  (b:∀j u,cs[j]?=some u->w.cell? (a.add j)=some u):(Instr.loadAt t (.pointer (some a))).run P w = .ok (.agg cs.toArray) w:=by
 unfold Instr.loadAt loadVar;simp only[Instr.sureAddr,dO9,dQ4,dO1,aa4 t f,e,dS6,P8 c,d,run_loadCells_list w a cs b]
def M4{α:Type}[I4 α]{v:Value}{xs:List α}(g:R h v xs)(hw:B5 h (i4 w)){k:Nat}{x:α}(f:xs[k]?=some x)(i:I7 P t=false):
  (Instr.loadAt t (.pointer (some (G4 v k)))).run P w = .ok (I4.val x) w:=by
 obtain⟨_,b,e,d⟩:=g.get f;have a:b=[I4.val x]:=e;have:=d 0 (I4.val x) (by rw[a];rfl);rw[L7]at this;have c:(k*A4.sz α)=k:=dT8 k;rw[c]at this;exact S3 i (H2 hw this)
end
def dV8:=@Array.getElem?_eq_getElem
def dZ7:=@Array.length_toList
def dP8:=@List.append_nil
def dV1:=@List.getElem?_take
def dU8:=@List.length_drop
def dT9:=@List.length_nil
def dU0:=@List.length_set
def dX5:=@List.nil_append
def dW4:=@List.size_toArray
def dQ9:=@List.take_of_length_le
def dN3:=@List.take_succ_eq_append_getElem
def dX3:=@List.take_zero
def dV6:=@Nat.mul_le_mul_right
def dY2:=@World.cell?_alloc_new
def dU3:=@cell_of_row
def dQ5:=@heap_alloc_new
def A8{α:Type}[A4 α](h:Hp)(w:World)(T:TypeId)(v:Value)(xs:List α):Prop:=
 (v = .slice none 0 0/\xs=[]) \/
 ∃b c a,v = .slice (some ⟨b,0,none⟩) xs.length c/\h b=none/\w.heap[b]?=some (.cells a T (0,0))/\xs.length<=c/\c<=maxLen/\a.size=c*A4.sz α /\
  O3 h (a.toList.take (xs.length*A4.sz α)) xs
def A3(v:Value)(b:Nat):Prop:=v.ownBlock=some b
def D1{b:Nat}{n c:Nat}:¬A3 (.slice none n c) b:=by simp[A3,Value.ownBlock]
def F0(w:World)(v a:Value):Prop:=∀b,A3 a b->A3 v b\/w.heap.size<=b
section
variable {α:Type} [A4 α] {h:Hp} {w:World} {T:TypeId} {v:Value} {xs:List α}
def A8.nil(h:Hp)(w:World)(T:TypeId):A8 h w T (.slice none 0 0) ([]:List α):=.inl ⟨rfl,rfl⟩
def A8.free(e:A8 h w T v xs){b:Nat}(hb:A3 v b):h b=none:=by
 rcases e with⟨rfl,_⟩|⟨f,c,a,rfl,d,_⟩
 ·exact absurd hb D1
 ·simp[A3,Value.ownBlock]at hb;subst hb;exact d
def A8.lt(e:A8 h w T v xs){b:Nat}(hb:A3 v b):b<w.heap.size:=by
 rcases e with⟨rfl,_⟩|⟨f,c,a,rfl,g,d,_⟩
 ·exact absurd hb D1
 ·simp[A3,Value.ownBlock]at hb;subst hb;exact(dN0.1 d).1
theorem A8.isS(b:A8 h w T v xs):isS v=true:=by
 rcases b with⟨rfl,_⟩|⟨d,c,a,rfl,_⟩<;>rfl
theorem A8.vlen(b:A8 h w T v xs):vlen v=xs.length:=by
 rcases b with⟨rfl,rfl⟩|⟨d,c,a,rfl,_⟩<;>rfl
def A8.vcap(d:A8 h w T v xs):xs.length<=vcap v:=by
 rcases d with⟨rfl,rfl⟩|⟨e,c,a,rfl,_,_,b,_⟩
 ·simp
 ·exact b
def A8.inS(d:A8 h w T v xs){k:Nat}(a:k<xs.length):inS v k=true:=by
 rcases d with⟨rfl,rfl⟩|⟨e,c,b,rfl,_⟩
 ·simp at a
 ·simp[Go.Proofs.YtfadjbljajfkfaaGreat.inS,a]
def A8.mod{M:Nat->Prop}{f:World}(k:A8 h w T v xs)(hm:o9 M w f)(i:∀b,A3 v b->¬M b):A8 h f T v xs:=by
 rcases k with j|⟨b,c,d,rfl,g,e,a⟩
 ·exact .inl j
 ·exact .inr ⟨b,c,d,rfl,g,(hm.block b (dN0.1 e).1 (i b rfl)).trans e,a⟩
def A8.ext{a:World}(b:A8 h w T v xs)(hm:o7 w a):A8 h a T v xs:=b.mod hm λ_ _=>id
def A8.up{k:Hp}(m:A8 h w T v xs)(j:B5 h k)(hb:∀b,A3 v b->k b=none):A8 k w T v xs:=by
 rcases m with l|⟨b,c,a,rfl,n,d,e,f,g,i⟩
 ·exact .inl l
 ·exact .inr ⟨b,c,a,rfl,hb b rfl,d,e,f,g,aL4 j i⟩
def A8.ro(o:A8 h w T v xs){k:Hp}(m:B5 h k)(hb:∀b,A3 v b->k b=w.heap[b]?):R k v xs:=by
 rcases o with⟨rfl,rfl⟩|⟨b,c,a,rfl,q,e,f,r,s,g⟩
 ·exact⟨_,_,_,rfl,rfl,dO0 _,[],rfl,λj v p=>by simp at p⟩
 ·refine⟨_,_,_,rfl,rfl,f,_,aL4 m g,λj u d=>⟨_,rfl,?_⟩⟩;have n:j<a.size:=by
   have:=(dM9.1 d).1;simp at this;omega
  have l:a[j]?=some u:=by
   rw[dV1]at d;split at d
   ·simpa using d
   ·cases d
  have i:(⟨b,0,.none⟩:Addr).add j=⟨b,j,.none⟩:=by unfold Addr.add;split<;>simp_all
  rw[i];simp only[L3,hb b rfl,e,Option.isSome_none,dS7,dU1,l]
theorem A8.rw_(a:A8 h w T v xs)(hw:B5 h (i4 w)):R (i4 w) v xs:=a.ro hw λ_ _=>rfl
def A8.get(p:A8 h w T v xs){k:Nat}{x:α}(i:xs[k]?=some x):
  ∃a,A4.enc h a x/\∀j u,a[j]?=some u->w.cell? ((G4 v (k*A4.sz α)).add j)=some u:=by
 rcases p with⟨rfl,rfl⟩|⟨b,c,d,rfl,q,l,r,s,t,m⟩
 ·simp at i
 ·obtain⟨a,f,o⟩:=bT0 m i;refine⟨a,f,λj u g=>?_⟩;have e:j<A4.sz α:=by have:=(dM9.1 g).1;rw[A4.len f]at this;exact this
  have:=o j e;rw[g,dV1]at this;split at this
  ·simp only[G4];rw[Addr.add_add'];have n:(⟨b,0,.none⟩:Addr).add (k*A4.sz α+j)=⟨b,k*A4.sz α+j,.none⟩:=by unfold Addr.add;split<;>simp_all
   rw[n,dU3 w b _ d T (0,0) l];simpa using this
  ·cases this
end
section
variable {α:Type} [A4 α] {h:Hp} {P:Program} {w:World} {t T:TypeId} {v:Value}
def D3{α:Type}[I4 α]{xs:List α}(g:A8 h w T v xs){k:Nat}{x:α}(f:xs[k]?=some x)(i:I7 P t=false):
  (Instr.loadAt t (.pointer (some (G4 v k)))).run P w = .ok (I4.val x) w:=by
 obtain⟨b,e,d⟩:=g.get f;have a:b=[I4.val x]:=e;have:=d 0 (I4.val x) (by rw[a];rfl);rw[L7]at this;have c:(k*A4.sz α)=k:=dT8 k;rw[c]at this;exact S3 i this
def bj0{xs:List (List α)}(g:A8 h w T v xs){k:Nat}{x:List α}(e:xs[k]?=some x)(i:I7 P t=false):
  ∃u,R h u x/\(Instr.loadAt t (.pointer (some (G4 v k)))).run P w = .ok u w:=by
 obtain⟨a,b,d⟩:=g.get e;have f:a.length=1:=A4.len b
 match a,f with
 | [u],_=>
  have:=d 0 u rfl;rw[L7]at this;have c:(k*A4.sz (List α))=k:=dT8 k;rw[c]at this;exact⟨u,b,S3 i this⟩
theorem aP2{a:Addr}{u x:Value}{i:TypeInfo}(f:P.info? t=some i)(g:i.size=1)(h:x.cells=#[x])(c:x.oneCell'=true)(d:w.cell? a=some u)(e:w.frozen? a=false):
  (Instr.storeAt t (.pointer (some a)) x).run P w = .ok () (w.setCell a x):=by
 have b:(store (a.add 0) x).run P w = .ok () (w.setCell a x):=by
  rw[L7];cases x<;>simp[Value.oneCell']at c<;>simp[store,Sem.run,d,e]
 unfold Instr.storeAt storeVar;simp only[Instr.sureAddr,dO9,dQ4,dO1,sizeOf,M5,f,g,h,Sem.run_ite];simp only[dW4,dP4,dT9,storeCells,dO9,b,dO1,dQ4];rfl
def E4{xs:List α}(r:A8 h w T v xs)(q:A4.sz α=1){k:Nat}(j:k<xs.length){x:Value}{y:α}(s:A4.enc h [x] y)(I:x.cells=#[x])
  {i:TypeInfo} (F:P.info? t=some i) (H:i.size=1) :
  ∃l,(Instr.storeAt t (.pointer (some (G4 v k))) x).run P w = .ok () l/\A8 h l T v (xs.set k y)/\o9 (A3 v) w l/\l.heap.size=w.heap.size:=by
 obtain⟨J,L,K⟩:=r.get (dM4 j);have f:x.oneCell'=true:=A4.one s x (by simp);rcases r with⟨rfl,rfl⟩|⟨b,c,a,rfl,z,m,A,B,n,C⟩
 ·simp at j
 ·have E:(⟨b,0,.none⟩:Addr).add k=⟨b,k,.none⟩:=by unfold Addr.add;split<;>simp_all
  have e:k<a.size:=by rw[n,q];omega
  have d:w.cell? ⟨b,k,.none⟩=some a[k]:=by rw[dU3 w b k a T (0,0) m,dV8 e]
  have o:w.frozen? ⟨b,k,.none⟩=false:=frozen_of_row w b k a T m;have g:=aP2 (P:=P) (t:=t) F H I f d o;simp only[G4,E];refine⟨_,g,?_,o9.setCell _ _ _ (by simp[A3,Value.ownBlock]),by simp⟩;right;refine⟨b,c,a.setIfInBounds k x,by simp,z,heap_setCell_same w b k a T x m,by simpa using A,B,by simpa using n,?_⟩;have p:=cK4 C j s;have G:(a.toList.take xs.length).length=xs.length:=by
   rw[q]at n;have D:a.toList.length=a.size:=by simp
   rw[dN9,D];omega
  have u:(a.setIfInBounds k x).toList.take ((xs.set k y).length*A4.sz α) =
    (a.toList.take (xs.length*A4.sz α)).take (k*A4.sz α)++[x]++(a.toList.take (xs.length*A4.sz α)).drop (k*A4.sz α+A4.sz α):=by
   rw[q];simp only[Array.toList_setIfInBounds,dU0,dT8];rw[List.take_set];rw[List.set_eq_take_append_cons_drop,if_pos (by rw[G];exact j)];simp
  rw[u];exact p
def aR7{e:TypeId}{i:TypeInfo}{z:Value}(S:P.underlying t=some (.slice T))(R:P.info? T=some i)(Z:i.zero=some z)(a:i.size=A4.sz α)(U:z.cells.size=i.size)
  {xs ys:List α} (ho:A8 h w T v xs) {ad:Addr} {m c:Nat} {d:List Value} (hm:m=ys.length) (hn:O3 h d ys) (k:∀j u,d[j]?=some u->w.cell? (ad.add j)=some u)
  (hy:ys≠[]) (x:xs.length+ys.length<=maxLen) (l:(xs.length+ys.length)*i.bytes<=140737488355328) (hw:B5 h (i4 w)) :
  ∃V W,(Builtin.append_ #[t,t] e #[v,.slice (some ad) m c]).run P w = .ok V W/\A8 h W T V (xs++ys)/\o9 (A3 v) w W/\F0 w v V:=by
 have D:=M2 hn;have G:=bT1 hn;have I:0<ys.length:=List.length_pos_iff.2 hy;have q:∀(p:Nat) (g:List Value),O3 h g (xs++ys)->p<xs.length+ys.length ->
   A8 h (w.drew.alloc (.cells (g.toArray++Builtin.zeroCells z.cells (grownCap w (xs.length+ys.length) p T-(xs.length+ys.length))) T)) T
    (.slice (some ⟨w.heap.size,0,.none⟩) (xs.length+ys.length) (grownCap w (xs.length+ys.length) p T)) (xs++ys):=by
  intro p g Y ah;have Q:=grownCap_ge w (xs.length+ys.length) p T;have N:=grownCap_le_maxLen w (xs.length+ys.length) p T x;have B:=M2 Y;right;refine⟨w.heap.size,_,_,by rw[dM7],aB8 hw (dO0 _),dQ5 w.drew _,by rw[dM7];exact Q,N,?_,?_⟩
  ·simp only[Array.size_append,dW4,size_zeroCells,U,a,B,dM7,<-dY1]
   congr 1
   omega
  ·simp only[Array.toList_append];rw[<-B,dW1];exact Y
 have r:∀(o:Obj),o9 (A3 v) w (w.drew.alloc o):=λo=>
  o9.trans ((o7.drew w).weaken (λ_ _ h=>h.elim)) ((o7.alloc w.drew o).weaken (λ_ _ h=>h.elim))
 have F:∀n c,F0 w v (.slice (some ⟨w.heap.size,0,.none⟩) n c):=λn c b X=>by
  simp[A3,Value.ownBlock]at X;subst X;exact .inr (dO0 _)
 subst hm;rcases ho with⟨rfl,rfl⟩|⟨b,A,f,rfl,h1,L,h3,h4,h5,J⟩
 ·have H:=run_append_nil (P:=P) w t e T i z S R Z ad ys.length c d (by rw[D,a]) k I (by simp only[maxLen,dT9,dQ2]at x;omega) (by simp only[dT9,dQ2]at l;omega);have C:=q 0 d (by simpa using hn) (by simp;exact I);simp only[dT9,dQ2,dX5]at C ⊢;exact⟨_,_,H,C,r _,F _ _⟩
 ·by_cases hroom:xs.length+ys.length<=A
  ·have s:xs.length*i.size+d.length<=f.size:=by rw[D,a,h5,<-dY1];exact dV6 _ hroom
   have H:=run_append_room (P:=P) w t e T i S R b xs.length A f L ad ys.length c d (by rw[D,a]) k G hroom s;refine⟨_,_,H,?_,o9.setRow _ _ _ (by simp[A3,Value.ownBlock]),λb' M=>.inl M⟩;right;refine⟨b,A,_,by rw[dM7],h1,setRow_heap w b f _ T _ L,by rw[dM7];exact hroom,h4,?_,?_⟩
   ·simp only[dW4,dM7,dN9,dU8,dZ7];rw[a]at s ⊢;have:xs.length*A4.sz α<=f.size:=by omega
    omega
   ·rw[a];have E:(f.toList.take (xs.length*A4.sz α)++d).length=(xs++ys).length*A4.sz α:=by
     rw[dM7,D,M2 J,dM7,dY1]
    rw[<-E,dW1];exact al4 J hn
  ·have O:(f.toList.take (xs.length*A4.sz α)).length=xs.length*i.size:=by rw[M2 J,a]
   have y:∀j u,(f.toList.take (xs.length*A4.sz α))[j]?=some u->w.cell? ((⟨b,0,.none⟩:Addr).add j)=some u:=by
    intro j u K;have ha:(⟨b,0,.none⟩:Addr).add j=⟨b,j,.none⟩:=by unfold Addr.add;split<;>simp_all
    rw[ha,dU3 w b j f T (0,0) L];rw[dV1]at K;split at K
    ·simpa using K
    ·cases K
   have H:=run_append_grow (P:=P) w t e T i z S R Z ⟨b,0,.none⟩ xs.length A (f.toList.take (xs.length*A4.sz α)) O y ad ys.length c d (by rw[D,a]) k (by omega)
    (by simp only[maxLen]at x;omega) (growslice_fits (by omega) l)
   have C:=q A (f.toList.take (xs.length*A4.sz α)++d) (al4 J hn) (by omega);have e1:((f.toList.take (xs.length*A4.sz α)++d).toArray:Array Value)=(f.toList.take (xs.length*A4.sz α)).toArray++d.toArray:=by simp
   rw[e1]at C;exact⟨_,_,H,C,r _,F _ _⟩
def bD1(a:Nat):∀(l:List Value) (k:Nat) (b:Array Value),a+k+l.length<=b.size ->
  ((l.zipIdx k).foldl (λb (p:Value×Nat)=>b.setIfInBounds (a+p.2) p.1) b).toList=b.toList.take (a+k)++l++b.toList.drop (a+k+l.length)
 | [],k,b,_=>by simp
 | v::l,k,b,hl=>by
  simp only[dP4]at hl;rw[List.zipIdx_cons,List.foldl_cons,bD1 a l (k+1) _ (by simp;omega)];have c:b.toList.length=b.size:=by simp
  simp only[Array.toList_setIfInBounds,dP4];rw[show a+(k+1)=a+k+1 by omega,List.take_set,dN3 (by omega),List.set_append_right (h:=by simp;omega)];have d:a+k-(b.toList.take (a+k)).length=0:=by simp;omega
  rw[d,List.drop_set_of_lt (by omega)];simp[dP5,dW3,Nat.add_comm 1]
def cK7{a:Nat->Option (Nat×Nat)}{b sz i:Nat}{x:Value}{cs:Array Value}{c:List (Nat×Value)}(e:a i=some (b,sz))(d:x.cells.size=sz)(f:b+sz<=cs.size):
  Instr.fill a cs ((i,x)::c)=Instr.fill a (cs.toList.take b++x.cells.toList++cs.toList.drop (b+sz)).toArray c:=by
 conv=>lhs;unfold Instr.fill
 simp only[e];rw[if_neg (by simp[d];omega)]
 congr 1
 apply Array.ext';have:=bD1 b x.cells.toList 0 cs (by simp;omega);simp only[Nat.add_zero,dZ7,d]at this;rw[<-this,<-Array.foldl_toList];simp[Array.toList_zipIdx]
def bT3(sz:Nat):∀(b:List Value) (k:Nat) (a:Array Value),(∀x∈b,x.cells.size=sz)->a.size=(k+b.length)*sz ->
  Instr.fill (λi=>some (i*sz,sz)) a ((b.zipIdx k).map λp=>(p.2,p.1))=some (a.toList.take (k*sz)++b.flatMap (·.cells.toList)).toArray
 | [],k,a,_,hc=>by
  simp only[dT9,Nat.add_zero]at hc;simp only[List.zipIdx_nil,List.map_nil,Instr.fill,List.flatMap_nil,dP8]
  congr 1
  apply Array.ext';rw[<-hc,dQ9 (by simp)]
 | x::b,k,a,hx,hc=>by
  simp only[dP4]at hc;have f:a.size=k*sz+sz+b.length*sz:=by rw[hc,dY1,dY1];omega
  have c:=hx x (by simp);have d:a.toList.length=a.size:=by simp
  rw[List.zipIdx_cons,dQ8];show Instr.fill _ a ((k,x)::_)=_;rw[cK7 rfl c (by omega)];have g:(List.take (k*sz) a.toList++x.cells.toList++List.drop (k*sz+sz) a.toList).toArray.size=(k+1+b.length)*sz:=by
   simp[c];rw[dY1,dY1];omega
  rw[bT3 sz b (k+1) _ (λy h=>hx y (by simp[h])) g]
  congr 2
  have e:(k+1)*sz=(List.take (k*sz) a.toList++x.cells.toList).length:=by
   simp[c,dY1];omega
  rw[e,dW1];simp
theorem as9{e:TypeId}{z:Value}(k:M0 P t=some e)(f:(P.info? e).isSome=true)(m:G8 P e=some z)(xs:List Value)(l:∀x∈xs,x.cells.size=L9 P e)(hn:xs≠[])
  (b:0<L9 P e) (j:xs.length*L9 P e<=16777216) {parts:Array (Nat×Value)} (h:parts.toList=(xs.zipIdx 0).map λp=>(p.2,p.1)) {n:Nat} (c:n=xs.length) :
  (Instr.buildSlice t n parts).run P w = .ok (.slice (some ⟨w.heap.size,0,none⟩) n n) (w.alloc (.cells (xs.flatMap (·.cells.toList)).toArray e)):=by
 subst c;obtain⟨i,a⟩:=dS1.1 f;have d:i.zero=some z:=by simpa[G8,a]using m
 have g:¬(xs.length*L9 P e=0):=by
  have:0<xs.length:=List.length_pos_iff.2 hn;exact Nat.ne_of_gt (Nat.mul_pos this b)
 unfold Instr.buildSlice zeroValue;simp only[dO9,G6,N4 k,dO1,P8 f,Sem.run_ite,M5,a,d,dQ4];rw[if_neg (by omega)];simp only[g,dU1];rw[h,bT3 (L9 P e) xs 0 _ l (by simp)];simp only[Nat.zero_mul,dX3,dX5];rfl
def D9{i:TypeInfo}(a:P.info? t=some i):L9 P t=i.size:=by simp[L9,a]
def ax7{i:TypeInfo}(a:P.info? t=some i):cJ1 P t=i.bytes:=by simp[cJ1,a]
def z7{z:Value}(a:G8 P t=some z):∃i,P.info? t=some i/\i.zero=some z:=by
 unfold G8 at a;cases hi:P.info? t with
 | none=>simp[hi]at a
 | some i=>exact⟨i,rfl,by simpa[hi]using a⟩
def cQ2{e:TypeId}{z:Value}(G:M0 P t=some T)(I:G8 P T=some z)(a:L9 P T=A4.sz α)(p:z.cells.size=A4.sz α)
  {xs:List α} (F:A8 h w T v xs) {x:Value} {y:α} (H:A4.enc h x.cells.toList y) (B:xs.length+1<=1000000000000) (d:(xs.length+1)*cJ1 P T<=140737488355328) (hw:B5 h (i4 w)) :
  ∃g k,(Builtin.append_ #[t,t] e #[v,.slice (some ⟨w.heap.size,0,none⟩) 1 1]).run P (w.alloc (.cells x.cells T)) = .ok g k/\A8 h k T g (xs++[y])/\o9 (A3 v) w k/\F0 w v g:=by
 obtain⟨i,l,n⟩:=z7 I;rw[D9 l]at a;rw[ax7 l]at d;have o:B5 h (i4 (w.alloc (.cells x.cells T))):=t8 hw (b7 (o7.alloc w _));have f:∀j u,x.cells.toList[j]?=some u->(w.alloc (.cells x.cells T)).cell? ((⟨w.heap.size,0,none⟩:Addr).add j)=some u:=by
  intro j u E;have C:(⟨w.heap.size,0,none⟩:Addr).add j=⟨w.heap.size,j,none⟩:=by unfold Addr.add;split<;>simp_all
  rw[C,dY2];simpa using E
 obtain⟨g,k,q,r,s,A⟩:=aR7 (P:=P) (e:=e) (N4 G) l n a (by rw[p,a]) (F.ext (o7.alloc w (.cells x.cells T))) (c:=1) (m:=1) (ad:=⟨w.heap.size,0,none⟩) rfl (aH5 H) f (by simp)
  (by simp[maxLen];omega) (by simpa using d) o
 refine⟨g,k,q,r,?_,λb D=>?_⟩
 ·exact o9.trans ((o7.alloc w (.cells x.cells T)).weaken (λ_ _ h=>h.elim)) s
 ·rcases A b D with h|h
  ·exact .inl h
  ·simp at h;exact .inr (by omega)
def an0{e:TypeId}{z:Value}(g:M0 P t=some e)(c:G8 P e=some z)(a:0<L9 P e)(b:L9 P e<=16777216){x:Value}(h:x.cells.size=L9 P e):
  (Instr.buildSlice t 1 #[(0,x)]).run P w = .ok (.slice (some ⟨w.heap.size,0,none⟩) 1 1) (w.alloc (.cells x.cells e)):=by
 obtain⟨i,d,f⟩:=z7 c;have:=as9 (w:=w) g (by rw[d];rfl) c [x] (by simpa using h) (by simp) a (by simpa using b) (parts:=#[(0,x)]) rfl (n:=1) rfl;simpa using this
end
def dS2:=@List.mem_cons_of_mem
def da0(ops:Array Oper):List Nat:=ops.toList.filterMap (·.dst)
def wrC:Code->List Nat
 | .seq a b=>wrC a++wrC b
 | .cond _ a b=>wrC a++wrC b
 | .block _ a=>wrC a
 | .loop a=>wrC a
 | .region _ ops _=>da0 ops
 | _=>[]
section
variable {P:Program}
def bG2{r:Result Value}{K a:Fr->World->Prop}{f:Fr}{d:Option Nat}(h:∀v w,K (C4 f d v) w->a (C4 f d v) w)(b:ah2 r K f d):ah2 r a f d:=by
 cases r with
 | ok v w=>exact h _ _ b
 | halt x w=>exact b.elim
def bd6{r:Result Unit}{K a:Fr->World->Prop}{f:Fr}{d:Option Nat}(h:∀v w,K (C4 f d v) w->a (C4 f d v) w)(b:bd5 r K f d):bd5 r a f d:=by
 cases r with
 | ok v w=>exact h _ _ b
 | halt x w=>exact b.elim
def cd0{k:Nat}{args:List Value}{w:World}{K a:Fr->World->Prop}{f:Fr}{d:Option Nat}(h:∀v w,K (C4 f d v) w->a (C4 f d v) w)(n:ax0 P k args w K f d):ax0 P k args w a f d:=by
 rcases n with⟨i,j⟩|⟨v,b,c,g⟩
 ·exact .inl ⟨i,j.mono λe b ⟨v,l,m⟩=>⟨v,l,h _ _ m⟩⟩
 ·exact .inr ⟨v,b,c,h _ _ g⟩
def bk5{o:Oper}{K b:Fr->World->Prop}{f:Fr}{w:World}(h:∀v w,K (C4 f o.dst v) w->b (C4 f o.dst v) w)(a:P9 P o K f w):P9 P o b f w:=by
 unfold P9 at *;generalize(execOp (ev f) o).run P w=r at *;cases r with
 | halt x i=>exact a
 | ok n i=>
  cases n
  case value v=>exact h _ _ a
  case skip=>exact h _ _ a
  case enter g args=>exact Calls.mono a λe j ⟨v,c,d⟩=>⟨v,c,h _ _ d⟩
  all_goals exact a
def aB9{S:Option (World->Prop)}{K b:Fr->World->Prop}{f:Fr}{d:Option Nat}(h:∀v w,K (C4 f d v) w->b (C4 f d v) w):∀v w,aO9 S K (C4 f d v) w->aO9 S b (C4 f d v) w:=by
 intro v w a;cases S with
 | none=>exact h _ _ a
 | some S=>exact⟨a.1,h _ _ a.2⟩
def cw7{S:Option (World->Prop)}{b:Bool}{s:Sem Value}{K c:Fr->World->Prop}{f:Fr}{d:Option Nat}{w:World}(h:∀v w,K (C4 f d v) w->c (C4 f d v) w)(a:bo5 P S b s K f d w):bo5 P S b s c f d w:=by
 unfold bo5 at *;cases S with
 | none=>exact bG2 h a
 | some S=>
  cases b with
  | true=>
   simp only[dS6]at a ⊢;obtain⟨v,g,i⟩:=a;exact⟨v,g,h _ _ i⟩
  | false=>
   simp only[dS7,dU1]at a ⊢;exact bG2 (λv w e=>⟨e.1,h _ _ e.2⟩) a
def aa3{S:Option (World->Prop)}{o:Oper}{K l:Fr->World->Prop}{f:Fr}{w:World}(h:∀v w,K (C4 f o.dst v) w->l (C4 f o.dst v) w)(a:B1 P S o K f w):B1 P S o l f w:=by
 unfold B1 at *;split
 ·rename_i v j;simp only[j]at a;exact h _ _ a
 ·rename_i j;simp only[j]at a;unfold ab9 at *;split
  ·rename_i s b;simp only[b]at a;exact cw7 h a
  ·rename_i b;simp only[b]at a;obtain⟨d,op,x,r,n,u⟩:=o;cases op
   case store=>exact bd6 (aB9 h) a
   case mapUpdate=>exact bd6 (aB9 h) a
   case insert=>exact bd6 (aB9 h) a
   case call c=>
    obtain⟨e,args,t⟩:=c;cases e
    case value g=>
     simp only at a ⊢;cases hg:ev f g
     case func fn first cap=>
      cases fn
      case func k=>simp only[hg]at a ⊢;exact cd0 (aB9 h) a
      all_goals (simp only[hg]at a)
     all_goals (simp only[hg]at a)
    all_goals exact a
   all_goals
    cases S with
    | none=>exact bk5 h a
    | some S=>
     simp only at a ⊢;split
     ·rename_i i;rw[if_pos i]at a;obtain⟨v,p,q⟩:=a;exact⟨v,p,h _ _ q⟩
     ·rename_i i;rw[if_neg i]at a;exact bk5 (λv w m=>⟨m.1,h _ _ m.2⟩) a
def aT2{f:Fr}{d:Option Nat}{v:Value}{i:Nat}(h:∀k,d=some k->i≠k):C4 f d v i=f i:=by
 cases d with
 | none=>rfl
 | some k=>simp[C4,p8,h k rfl]
def cG6{ops:Array Oper}{K m:Fr->World->Prop}:∀(l:List Oper) (f:Fr) (w:World),(∀g d,(∀i,i∉l.filterMap (·.dst)->g i=f i)->K g d->m g d)->Rn P ops l K f w->Rn P ops l m f w
 | [],f,w,h,hr=>h _ _ (λ_ _=>rfl) hr
 | o::l,f,w,h,hr=>by
  have c:∀v d,Rn P ops l K (C4 f o.dst v) d->Rn P ops l m (C4 f o.dst v) d:=λv d q=>
   cG6 l _ _ (λg x u r=>h _ _ (λi s=>by
    have t:i∉l.filterMap (·.dst):=λhm=>s (List.mem_filterMap.2 (let⟨a,ha,hd⟩:=List.mem_filterMap.1 hm;⟨a,dS2 _ ha,hd⟩));rw[u i t];exact aT2 λk q e=>s (by subst e;exact List.mem_filterMap.2 ⟨o,by simp,q⟩)) r) q
  unfold Rn at hr ⊢;split
  ·rename_i p;simp only[p]at hr;exact aa3 c hr
  ·rename_i j b p;simp only[p]at hr;split
   ·rename_i n;rw[if_pos n]at hr;exact aa3 c hr
   ·rename_i n;rw[if_neg n]at hr;exact c _ _ hr
def bW6{ops:Array Oper}{i:Nat}{o:Oper}{k:Nat}(b:ops[i]?=some o)(a:o.dst=some k):k∈da0 ops:=
 List.mem_filterMap.2 ⟨o,by have:=Array.mem_of_getElem? b;simpa using this,a⟩
def bI9{ops:Array Oper}{S:World->Prop}{K s:Fr->World->Prop}:∀(l:aG5) (f:Fr) (w:World),(∀q d,(∀i,i∉da0 ops->q i=f i)->K q d->s q d)->RnF P ops S l K f w->RnF P ops S l s f w
 | .nil,f,w,h,a=>h _ _ (λ_ _=>rfl) a
 | .op i l,f,w,h,a=>by
  unfold RnF at a ⊢;cases ho:ops[i]? with
  | none=>simp[ho]at a
  | some o=>
   simp only[ho]at a ⊢;have c:∀v d,RnF P ops S l K (C4 f o.dst v) d->RnF P ops S l s (C4 f o.dst v) d:=λv d n=>
    bI9 l _ _ (λq u t p=>h _ _ (λj r=>by
     rw[t j r];exact aT2 λk n e=>r (by subst e;exact bW6 ho n)) p) n
   split
   ·rename_i m;simp only[m]at a;exact aa3 c a
   ·rename_i j b m;simp only[m]at a;split
    ·rename_i g;rw[if_pos g]at a;exact aa3 c a
    ·rename_i g;rw[if_neg g]at a;exact c _ _ a
 | .fork rs k,f,w,h,a=>by
  unfold RnF at a ⊢;intro i x;have a:=a i x;cases ho:ops[i]? with
  | none=>simp[ho]at a
  | some o=>
   simp only[ho]at a ⊢;have c:∀v d,RnF P ops S (k i) K (C4 f o.dst v) d->RnF P ops S (k i) s (C4 f o.dst v) d:=λv d n=>
    bI9 (k i) _ _ (λq u t p=>h _ _ (λj r=>by
     rw[t j r];exact aT2 λk n e=>r (by subst e;exact bW6 ho n)) p) n
   split
   ·rename_i m;simp only[m]at a;exact⟨aa3 c a.1,a.2⟩
   ·rename_i j b m;simp only[m]at a;split
    ·rename_i g;rw[if_pos g]at a;exact⟨aa3 c a.1,a.2⟩
    ·rename_i g;rw[if_neg g]at a;exact c _ _ a
def cF6:∀(c:Code) (Q t:Exit->Fr->World->Prop) (f:Fr) (w:World),(∀e p u,(∀i,i∉wrC c->p i=f i)->Q e p u->t e p u)->CW P c Q f w->CW P c t f w:=by
 intro c
 induction c with
 | skip=>intro Q t f w h g;exact h _ _ _ (λ_ _=>rfl) g
 | seq a b A B=>
  intro Q t f w h g;refine A _ _ _ _ ?_ g;intro e p u q k;cases e
  case normal=>
   refine B _ _ _ _ ?_ k;intro Y H J r y;exact h _ _ _ (λi j=>by
    simp only[wrC,dN7,not_or]at j;rw[r i j.2,q i j.1]) y
  all_goals exact h _ _ _ (λi j=>by
    simp only[wrC,dN7,not_or]at j;exact q i j.1) k
 | cond v a b A B=>
  intro Q t f w h g;simp only[CW]at g ⊢;unfold aO5 at *;split
  ·rename_i z;simp only[z]at g;exact A _ _ _ _ (λe p u q k=>h _ _ _ (λi j=>by simp only[wrC,dN7,not_or]at j;exact q i j.1) k) g
  ·rename_i z;simp only[z]at g;exact B _ _ _ _ (λe p u q k=>h _ _ _ (λi j=>by simp only[wrC,dN7,not_or]at j;exact q i j.2) k) g
  ·rename_i C F;split at g
   ·rename_i z;exact absurd z C
   ·rename_i z;exact absurd z F
   ·exact g
 | block id a G=>
  intro Q t f w h g;refine G _ _ _ _ ?_ g;intro e p u q k;cases e
  case exit id'=>
   simp only[ab3]at k ⊢;split
   ·rename_i x;rw[if_pos x]at k;exact h _ _ _ q k
   ·rename_i x;rw[if_neg x]at k;exact h _ _ _ q k
  all_goals exact h _ _ _ q k
 | loop a G=>
  intro Q t f w h g;obtain⟨X,I,m,W,K,T⟩:=g;refine⟨X,λs p u=>I s p u/\∀i,i∉wrC a->p i=f i,m,W,⟨K,λ_ _=>rfl⟩,?_⟩;rintro s p u ⟨N,D⟩;refine G _ _ _ _ ?_ (T s p u N);intro e H J r k;cases e
  case normal=>
   obtain⟨V,C,F⟩:=k;exact⟨V,C,F,λi j=>by rw[r i j,D i j]⟩
  all_goals exact h _ _ _ (λi j=>by rw[r i j,D i j]) k
 | region id U d=>
  intro Q t f w h g;cases d
  case false=>exact cG6 _ _ _ (λp u q k=>h _ _ _ q k) g
  case true=>
   obtain⟨S,n,E,C,L,M⟩:=g;refine⟨S,n,E,C,L,?_⟩;refine bI9 E _ _ ?_ M;intro p u q k;refine cG6 _ _ _ ?_ k;intro H J r y;exact h _ _ _ (λi j=>by
    rw[r i,q i j];intro hm;obtain⟨o,R,O⟩:=List.mem_filterMap.1 hm;exact j (List.mem_filterMap.2 ⟨o,dX9 R,O⟩)) y
 | exit id=>intro Q t f w h g;exact h _ _ _ (λ_ _=>rfl) g
 | label l=>intro Q t f w h g;exact h _ _ _ (λ_ _=>rfl) g
 | ret=>intro Q t f w h g;exact h _ _ _ (λ_ _=>rfl) g
 | _=>intro Q t f w _ g;exact g
def n9{c:Code}{Q:Exit->Fr->World->Prop}{f:Fr}{w:World}{σ:Type}(a:List Nat)(I:σ->Fr->World->Prop)(m:σ->Nat)(q:σ)
  (r:I q f w)
  (y:∀s b d,(∀i∈a,b i=f i)->I s b d->CW P c (af8 (λk o=>∃j,m j<m s/\I j k o) Q) b d) (x:a.all (λi=>!(wrC c).contains i)=true:=by decide +kernel):cn6 (CW P c) Q f w:=by
 have n:∀i∈a,i∉wrC c:=by
  intro i h hm;have:=dW0.1 x i h;simp[hm]at this
 refine⟨σ,λs b d=>I s b d/\∀i∈a,b i=f i,m,q,⟨r,λ_ _=>rfl⟩,?_⟩;rintro s b d ⟨v,g⟩;refine cF6 c _ _ _ _ ?_ (y s b d g v);intro e z A l p;cases e
 case normal=>
  obtain⟨j,t,u⟩:=p;exact⟨j,t,u,λi h=>by rw[l i (n i h),g i h]⟩
 all_goals exact p
def y5{k:Nat}{args:List Value}{w:World}{K:Fr->World->Prop}{f:Fr}{d:Option Nat}{R:Value->World->Prop}
  (h:Calls P k args.toArray w λe a=>∃v,e = .returned v/\R v a) (c:∀v a,R v a->K (C4 f d v) a) (hb:ak6 P k=true:=by kernel_rfl):ax0 P k args w K f d:=
 .inl ⟨hb,h.mono λ_ _ ⟨v,b,g⟩=>⟨v,b,c _ _ g⟩⟩
def C0{ops:Array Oper}{K:Fr->World->Prop}{f:Fr}{w:World}(S:World->Prop)(n:Nat)(a:aG5)
  (h:RnF P ops S a (Rn P ops (ops.toList.drop n) K) f w.drew) (b:bZ1 ops n a=true:=by decide +kernel) (hS:S w.drew:=by first|exact o9.refl _|exact rfl):cG1 P ops K f w:=⟨S,n,a,b,hS,h⟩
def bS7{ops:Array Oper}{K:Fr->World->Prop}{f:Fr}{w:World}(b:List Nat)(S:World->Prop)(n:Nat)(a:aG5)(I:Fr->World->Prop)(j:bZ1 ops n a=true)(g:b.all (λi=>!(da0 ops).contains i)=true)(hS:S w.drew)
  (h:RnF P ops S a I f w.drew) (m:∀c d,(∀i∈b,c i=f i)->I c d->Rn P ops (ops.toList.drop n) K c d):cG1 P ops K f w:=by
 refine⟨S,n,a,j,hS,bI9 a _ _ (λc d k l=>m c d (λi e=>k i ?_) l) h⟩;have:=dW0.1 g i e;intro hm;simp[hm]at this
def ah3{ops:Array Oper}{S:World->Prop}{K:Fr->World->Prop}{f:Fr}{w:World}{e:List Nat}{k:Nat->aG5}(m:e.all (λi=>match ops[i]? with|some o=>!flt o.op|none=>false)=true)
  (h:∀i∈e,RnF P ops S (.op i (k i)) K f w):RnF P ops S (.fork e k) K f w:=by
 unfold RnF;intro i l;have a:=h i l;have c:=dW0.1 m i l;unfold RnF at a;cases ho:ops[i]? with
 | none=>simp[ho]at c
 | some o=>
  simp only[ho]at a c ⊢;have g:flt o.op=false:=by simpa using c
  cases hg:o.guard with
  | none=>simp only[hg]at a ⊢;exact⟨a,g⟩
  | some n=>
   obtain⟨j,b⟩:=n;simp only[hg]at a ⊢;split
   ·rename_i d;rw[if_pos d]at a;exact⟨a,g⟩
   ·rename_i d;rw[if_neg d]at a;exact a
def A5:List Nat->aG5
 | []=>.nil
 | i::l=>.op i (A5 l)
end
def dP0:=@Int.toNat_natCast
def dS8:=@List.ext_getElem
def dN4:=@List.length_map
def dR3:=@List.length_range
def dR7:=@List.length_replicate
def dP6:=@List.map_append
def dV3:=@List.mem_iff_getElem?
def dO4:=@List.mem_of_getElem?
def dN8:=@List.take_length
def dW8:=@decide_eq_false
def M3(n:Int)(h : -9223372036854775808<=n/\n<=9223372036854775807):IntKind.i64.wrap n=n:=IntWalk.i64_in n h
theorem B0(k:Nat)(h:k<4000000000000000000):IntKind.i64.wrap ((k:Int)+1)=((k+1:Nat):Int):=by
 rw[M3 _ (by omega)];rfl
def dG9(k:Nat)(h:k<4000000000000000000):IntKind.i64.wrap (k:Int)=(k:Int):=M3 _ (by omega)
def dH2(k:Nat):decide ((0:Int)<=(k:Int))=true:=by simp
def F4(P:Program)(t T sz a:Nat):Bool:=
 (M0 P t==some T)&&(match G8 P T with|some z=>z.cells.size==sz|none=>false)&&(L9 P T==sz)&&(cJ1 P T==a)&&decide (0<sz)&&decide (sz<=1000000)
def S5{P:Program}{t T sz a:Nat}(h:F4 P t T sz a=true):
  M0 P t=some T/\(∃z,G8 P T=some z/\z.cells.size=sz)/\L9 P T=sz/\cJ1 P T=a/\0<sz/\sz<=1000000:=by
 simp only[F4,dO8,beq_iff_eq,dQ3]at h;obtain⟨⟨⟨⟨⟨c,b⟩,d⟩,e⟩,f⟩,g⟩:=h;refine⟨c,?_,d,e,f,g⟩;cases hz:G8 P T with
 | none=>simp[hz]at b
 | some z=>exact⟨z,rfl,by simpa[hz]using b⟩
section
variable {P:Program} {w:World} {h:Hp} {t T sz by_:Nat} {v:Value}
def push{α:Type}[A4 α]{e:TypeId}(n:F4 P t T sz by_=true)(a:A4.sz α=sz){xs:List α}(m:A8 h w T v xs){x:Value}{y:α}(i:A4.enc h x.cells.toList y)
  (l:xs.length+1<=1000000000000) (hb:(xs.length+1)*by_<=140737488355328) (hw:B5 h (i4 w)) :
  (Instr.buildSlice t 1 #[(0,x)]).run P w = .ok (.slice (some ⟨w.heap.size,0,none⟩) 1 1) (w.alloc (.cells x.cells T)) /\
  ∃c d,(Builtin.append_ #[t,t] e #[v,.slice (some ⟨w.heap.size,0,none⟩) 1 1]).run P (w.alloc (.cells x.cells T)) = .ok c d/\A8 h d T c (xs++[y])/\o9 (A3 v) w d/\F0 w v c:=by
 obtain⟨f,⟨z,j,b⟩,g,k,p,q⟩:=S5 n;have o:x.cells.size=sz:=by have:=A4.len i;simpa[a]using this
 exact⟨an0 f j (by omega) (by omega) (by rw[o,g]),cQ2 f j (by rw[g,a]) (by rw[b,a]) m i l (by rw[k];exact hb) hw⟩
def lit{α:Type}[A4 α](s:F4 P t T sz by_=true){xs:List Value}{ys:List α}{parts:Array (Nat×Value)}{n:Nat}(q:parts.toList=(xs.zipIdx 0).map λp=>(p.2,p.1))
  (c:O3 h (xs.flatMap (·.cells.toList)) ys) (u:∀x∈xs,x.cells.size=sz) (hn:n=xs.length) (a:ys.length=xs.length) (e:xs≠[]) (d:xs.length<=16) (hw:B5 h (i4 w)) :
  ∃v f,(Instr.buildSlice t n parts).run P w = .ok v f/\A8 h f T v ys/\o7 w f/\(∀b,A3 v b->w.heap.size<=b):=by
 obtain⟨j,⟨z,g,y⟩,k,A,B,C⟩:=S5 s;obtain⟨i,m,o⟩:=z7 g;have r:=as9 (w:=w) j (by rw[m];rfl) g xs (by rw[k];exact u) e (by omega) (dN1 (Nat.mul_le_mul d (show L9 P T<=1000000 by omega)) (by omega)) q hn;refine⟨_,_,r,.inr ⟨w.heap.size,n,_,by rw[hn,a],aB8 hw (dO0 _),dQ5 w _,by omega,by rw[hn];simp only[maxLen];omega,?_,?_⟩,o7.alloc _ _,λb l=>by simp[A3,Value.ownBlock]at l;omega⟩
 ·have:=M2 c;simp only[dW4,this,a,hn]
 ·rw[<-M2 c];simp only[dN8];exact c
def cq1{α:Type}[A4 α]{c:List Value}{y:α}(a:A4.enc h c y):∀n:Nat,O3 h (List.replicate n c).flatten (List.replicate n y)
 | 0=>rfl
 | n+1=>⟨c,(List.replicate n c).flatten,by simp[List.replicate_succ],a,cq1 a n⟩
def bT7(z:Array Value)(c:0<z.size):∀n:Nat,((Array.range (n*z.size)).map λi=>z[i % z.size]!).toList=(List.replicate n z.toList).flatten
 | 0=>by simp
 | n+1=>by
  have b:=bT7 z c n;simp only[Array.toList_map,Array.toList_range]at b ⊢;rw[dY1,Nat.one_mul,List.range_add,dP6,b,List.replicate_succ',List.flatten_append]
  congr 1
  simp only[List.map_map,List.flatten_cons,List.flatten_nil,dP8];apply dS8
  ·simp
  ·intro i a d;simp only[dN4,dR3]at a;have:(n*z.size+i) % z.size=i:=by rw[Nat.add_comm,Nat.add_mul_mod_self_right];exact Nat.mod_eq_of_lt a
   simp[this,a]
def mk{α:Type}[A4 α](E:F4 P t T sz by_=true){z:Value}(x:G8 P T=some z){y:α}(u:A4.enc h z.cells.toList y){n:Nat}(hb:by_*n<=281474976710656)(hn:n<=1000000000000)(hw:B5 h (i4 w)):
  ∃v k,(Instr.makeSlice t (.int .i64 n) (.int .i64 n)).run P w = .ok v k/\A8 h k T v (List.replicate n y)/\o7 w k/\(∀b,A3 v b->w.heap.size<=b)/\k.heap.size=w.heap.size+1:=by
 obtain⟨A,⟨G,r,d⟩,s,B,H,I⟩:=S5 E;obtain rfl:z=G:=dO3 (x.symm.trans r);obtain⟨i,e,o⟩:=z7 x;have m:i.bytes=by_:=by rw[<-B,ax7 e]
 have F:i.size=sz:=by rw[<-s,D9 e]
 have D:=A4.len u;have a:A4.sz α=sz:=by rw[<-D];simpa using d
 have q:IntKind.i64.wrap (n:Int)=n:=dG9 n (by omega);have p:¬((by_:Int)*(n:Int)>281474976710656):=by
  have:=Int.ofNat_le.2 hb;rw[Int.natCast_mul]at this;omega
 have j:(2:Int) ^ 48=281474976710656:=by decide +kernel
 have c:∀b w,(askRoom b).run P w = .ok () w:=by
  intro b w;unfold askRoom;split
  ·rfl
  ·rfl
 refine⟨.slice (some ⟨w.heap.size,0,none⟩) n n,w.alloc (.cells ((Array.range (n*sz)).map λi=>z.cells[i % z.cells.size]!) T),?_,?_,o7.alloc _ _,λb l=>by simp[A3,Value.ownBlock]at l;omega,by simp⟩
 ·unfold Instr.makeSlice;simp only[dO9,G6,N4 A,dO1,asInt,asIntOf,dQ4,M5,e,m,q,j];have C:((decide ((n:Int)<0)||decide ((by_:Int)*(n:Int)>281474976710656))||decide ((n:Int)<0)||decide ((n:Int)>(n:Int)))=false:=by
   rw[dW8 (show ¬((n:Int)<0) by omega),dW8 p,dW8 (show ¬((n:Int)>(n:Int)) by omega)];rfl
  simp only[C,dS7,dU1,dO9,c,dO1,dP0,P8 (show(P.info? T).isSome=true by rw[e];rfl),s];by_cases h0:n*sz=0
  ·have e0:∀(g:Nat->Value),(Array.range 0).map g=#[]:=λg=>by simp
   simp only[h0,dS6,e0];simp only[dO9,dQ4,dO1];rfl
  ·simp only[h0,dU1,dO9,zeroValue,M5,e,dO1,o,dQ4];rfl
 ·right;refine⟨w.heap.size,n,_,by simp,aB8 hw (dO0 _),dQ5 w _,by simp,by simp only[maxLen];omega,by simp[a],?_⟩;have:=bT7 z.cells (by omega) n;rw[d]at this ⊢;rw[this,dR7,a];have f:(List.replicate n z.cells.toList).flatten.length=n*sz:=by simp[d]
  rw[<-f,dN8];exact cq1 u n
end
structure Ptr (α:Type) where
 to:α
instance {α:Type} [A4 α]:A4 (Ptr α) where
 sz:=1
 pos:=by omega
 enc h cs x:=∃a es,cs=[.pointer (some a)]/\A4.enc h es x.to/\∀j v,es[j]?=some v->L3 h (a.add j)=some v
 len:=by rintro h cs x ⟨a,es,rfl,_⟩;rfl
 mono:=by
  rintro h k cs x hk ⟨a,es,e,h1,h2⟩;exact⟨a,es,e,A4.mono hk h1,λj v hv=>H2 hk (h2 j v hv)⟩
 one:=by
  rintro h cs x ⟨a,es,rfl,_⟩ v hv;simp at hv;subst hv;rfl
structure U1 where
 v:Value
instance:A4 U1 where
 sz:=1
 pos:=by omega
 enc _ cs x:=cs=[x.v]/\x.v.oneCell'=true
 len h:=by simp[h.1]
 mono _ h:=h
 one h:=by
  intro v hv;rw[h.1]at hv;simp at hv;subst hv;exact h.2
structure I6 {α:Type} [A4 α] (h:Hp) (w:World) (T T':TypeId) (v:Value) (us:List U1) (xss:List (List α)):Prop where
 outer:A8 h w T v us
 len:us.length=xss.length
 row:∀(i:Nat) (u:U1) (xs:List α),us[i]?=some u->xss[i]?=some xs->A8 h w T' u.v xs
 apart:∀(i j:Nat) (u u':U1),i≠j->us[i]?=some u->us[j]?=some u'->∀b,A3 u.v b->¬A3 u'.v b
 off:∀(i:Nat) (u:U1),us[i]?=some u->∀b,A3 u.v b->¬A3 v b
def L6(v:Value)(us:List U1)(b:Nat):Prop:=A3 v b\/∃u∈us,A3 u.v b
section
variable {α:Type} [A4 α] {h:Hp} {w:World} {T T':TypeId} {v:Value} {us:List U1} {xss:List (List α)}
def I6.free(c:I6 h w T T' v us xss){b:Nat}(hb:L6 v us b):h b=none:=by
 rcases hb with hb|⟨u,e,hb⟩
 ·exact c.outer.free hb
 ·obtain⟨i,d⟩:=dV3.1 e;have a:i<xss.length:=by rw[<-c.len];exact(dM9.1 d).1
  exact(c.row i u _ d (dM4 a)).free hb
def I6.lt(c:I6 h w T T' v us xss){b:Nat}(hb:L6 v us b):b<w.heap.size:=by
 rcases hb with hb|⟨u,e,hb⟩
 ·exact c.outer.lt hb
 ·obtain⟨i,d⟩:=dV3.1 e;have a:i<xss.length:=by rw[<-c.len];exact(dM9.1 d).1
  exact(c.row i u _ d (dM4 a)).lt hb
def I6.mod{M:Nat->Prop}{f:World}(a:I6 h w T T' v us xss)(hm:o9 M w f)(d:∀b,L6 v us b->¬M b):I6 h f T T' v us xss:=
 ⟨a.outer.mod hm λb c=>d b (.inl c),a.len,λi u j e g=>(a.row i u j e g).mod hm λb c=>d b (.inr ⟨u,dO4 e,c⟩),a.apart,a.off⟩
def I6.ext{a:World}(b:I6 h w T T' v us xss)(hm:o7 w a):I6 h a T T' v us xss:=b.mod hm λ_ _=>id
def I6.set{F q:World}(n:I6 h w T T' v us xss){i:Nat}{u:U1}(A:us[i]?=some u){u':Value}{xs:List α}
  (hm:o9 (A3 u.v) w F) (H:A8 h F T' u' xs) (hv:F0 w u.v u')
  (z:o9 (A3 v) F q) (E:A8 h q T v (us.set i ⟨u'⟩)):I6 h q T T' v (us.set i ⟨u'⟩) (xss.set i xs):=by
 have r:i<us.length:=(dM9.1 A).1;have p:∀b,A3 u' b->¬A3 v b:=λb f c=>by
  rcases hv b f with o|o
  ·exact n.off i u A b o c
  ·have:=n.outer.lt c;omega
 have l:∀(j:Nat) (x:U1),(us.set i ⟨u'⟩)[j]?=some x->(j=i/\x=⟨u'⟩)\/(j≠i/\us[j]?=some x):=by
  intro j x g;rw[List.getElem?_set]at g;by_cases a:i=j
  ·subst a;simp only[dS6,if_pos r]at g;exact .inl ⟨rfl,(dO3 g).symm⟩
  ·rw[if_neg a]at g;exact .inr ⟨λe=>a e.symm,g⟩
 have m:∀(j:Nat) (x:U1),j≠i->us[j]?=some x->∀b,A3 x.v b->¬A3 u' b:=by
  intro j x a g b f c;rcases hv b c with o|o
  ·exact n.apart j i x u a g A b f o
  ·have D:j<xss.length:=by rw[<-n.len];exact(dM9.1 g).1
   have:=(n.row j x _ g (dM4 D)).lt f;omega
 refine⟨E,by simp[n.len],?_,?_,?_⟩
 ·intro j x I g B;rcases l j x g with⟨rfl,rfl⟩|⟨a,d⟩
  ·rw[List.getElem?_set,if_pos rfl,if_pos (by rw[<-n.len];exact r)]at B;obtain rfl:=dO3 B;exact H.mod z p
  ·rw[List.getElem?_set,if_neg (λe=>a e.symm)]at B;refine((n.row j x I d B).mod hm λb f c=>n.apart j i x u a d A b f c).mod z λb f=>n.off j x d b f
 ·intro j k x y s g G b f c;rcases l j x g with⟨rfl,rfl⟩|⟨a,d⟩<;>rcases l k y G with⟨rfl,rfl⟩|⟨C,t⟩
  ·exact s rfl
  ·exact m k y C t b c f
  ·exact m j x a d b f c
  ·exact n.apart j k x y s d t b f c
 ·intro j x g b f;rcases l j x g with⟨rfl,rfl⟩|⟨a,d⟩
  ·exact p b f
  ·exact n.off j x d b f
def I6.ro(g:I6 h w T T' v us xss)(hw:B5 h (i4 w)):R (i4 w) v xss:=by
 have B:=g.outer.rw_ hw;obtain⟨a,n,c,e,r,s,b,t,x⟩:=B;refine⟨a,n,c,e,by rw[r,g.len],s,b,?_,x⟩;have o:∀(us:List U1) (xss:List (List α)) (b:List Value),us.length=xss.length->O3 (i4 w) b us ->
   (∀(i:Nat) (u:U1) (d:List α),us[i]?=some u->xss[i]?=some d->R (i4 w) u.v d)->O3 (i4 w) b xss:=by
  intro us
  induction us with
  | nil=>
   intro xss b f m _;have:xss=[]:=List.eq_nil_of_length_eq_zero f.symm;subst this;exact m
  | cons u us C=>
   intro xss b f m j;cases xss with
   | nil=>simp at f
   | cons d xss=>
    obtain⟨E,q,rfl,⟨k,_⟩,l⟩:=m;subst k;exact⟨[u.v],q,rfl,j 0 u d rfl rfl,C xss q (by simpa using f) l λi D p y z=>j (i+1) D p (by simpa using y) (by simpa using z)⟩
 exact o us xss b g.len t λi u d A j=>(g.row i u d A j).rw_ hw
end
section
variable {P:Program} {w:World} {h:Hp} {t T:TypeId} {v:Value}
def bN9(w:World)(z cs:Array Value)(T:TypeId):(w.alloc (.cells z T)).setRow w.heap.size cs=w.alloc (.cells cs T):=by
 unfold World.setRow World.alloc
 congr 1
 apply Array.ext
 ·simp
 ·intro i b a;simp only[Array.getElem_modify];by_cases hi:w.heap.size=i
  ·subst hi;simp
  ·rw[if_neg hi];have:i<w.heap.size:=by simp at a;omega
   simp[Array.getElem_push,this]
def aJ0{z:Value}(g:G8 P T=some z)(f:z.cells.size=L9 P T){cs:Array Value}(b:cs.size=L9 P T)(e:∀u∈cs.toList,u.oneCell'=true):
  (Instr.alloc T true (.tuple #[])).run P w = .ok (.pointer (some ⟨w.heap.size,0,none⟩)) (w.alloc (.cells z.cells T)) /\
  (Instr.storeAt T (.pointer (some ⟨w.heap.size,0,none⟩)) (.agg cs)).run P (w.alloc (.cells z.cells T)) = .ok () (w.alloc (.cells cs T)):=by
 obtain⟨i,c,d⟩:=z7 g;constructor
 ·unfold Instr.alloc zeroValue;simp only[dO9,M5,c,d,dQ4,dO1];rfl
 ·have a:=run_storeCells_from (P:=P) w.heap.size T cs.toList 0 z.cells (w.alloc (.cells z.cells T)) (dQ5 w _) (by simp[b,f]) e;simp only[dX3,dX5,Array.toArray_toList]at a;unfold Instr.storeAt storeVar;simp only[Instr.sureAddr,dO9,dQ4,dO1,sizeOf,M5,c,Value.cells];rw[D9 c]at b;simp only[b,ne_eq,not_true_eq_false,dU1];rw[<-bN9 w z.cells cs T];exact a
def cJ6{cs:Array Value}{i:Nat}{u:Value}(a:cs[i]?=some u):(w.alloc (.cells cs T)).cell? ⟨w.heap.size,i,none⟩=some u:=by
 rw[dY2];exact a
def cN8{cs:Array Value}{i:Nat}{u:Value}(b:cs[i]?=some u)(a:I7 P t=false):(Instr.loadAt t (.pointer (some ⟨w.heap.size,i,none⟩))).run P (w.alloc (.cells cs T)) = .ok u (w.alloc (.cells cs T)):=
 S3 a (cJ6 b)
def bM1{xs:List (Int×Int)}(o:R h v xs)(hw:B5 h (i4 w)){k:Nat}{x:Int×Int}(n:xs[k]?=some x)(q:I7 P t=true)(r:(P.underlying t).isSome=true)(l:(P.info? t).isSome=true)(p:L9 P t=2):
  (Instr.loadAt t (.pointer (some (G4 v (k*2))))).run P w = .ok (.agg #[.int .i64 x.1,.int .i64 x.2]) w:=by
 obtain⟨_,s,i,g⟩:=o.get n;obtain⟨c,d,rfl,e,f⟩:=i;have a:c=[.int .i64 x.1]:=e;have b:d=[.int .i64 x.2]:=f;subst a b;exact bt5 (cs:=[.int .i64 x.1,.int .i64 x.2]) q r l p λj u m=>H2 hw (g j u m)
def add_lit(b o k:Nat):(⟨b,o,none⟩:Addr).add k=⟨b,o+k,none⟩:=by unfold Addr.add;split<;>simp_all
def R.row{α:Type}[A4 α]{a:List (List α)}(i:R h v a){k:Nat}{x:List α}(f:a[k]?=some x):∃u,R h u x/\L3 h (G4 v k)=some u:=by
 obtain⟨_,b,c,e⟩:=i.get f;have g:b.length=1:=A4.len c
 match b,g with
 | [u],_=>
  have:=e 0 u rfl;rw[L7]at this;have d:(k*A4.sz (List α))=k:=dT8 k;rw[d]at this;exact⟨u,c,this⟩
def H7{a:Addr}{u:Value}(b:L3 h a=some u)(hw:B5 h (i4 w))(c:I7 P t=false):(Instr.loadAt t (.pointer (some a))).run P w = .ok u w:=
 S3 c (H2 hw b)
def A8.ext2{α:Type}[A4 α]{w0 d:World}{xs:List α}(f:A8 (i4 w0) w T v xs)(g:o7 w0 w)(hm:o9 (A3 v) w d):o7 w0 d:=
 o9.ext_of g hm λb e=>by
  rcases dQ7 b w0.heap.size with c|a
  ·have:=f.free e;simp[i4,c]at this
  ·exact a
def bc2{α:Type}[I4 α]{k:Hp}:∀{b:List α} {a:List Value},O3 k a b->O3 h a b
 | [],_,e=>e
 | _::_,_,⟨c1,c2,e,h1,h2⟩=>⟨c1,c2,e,h1,bc2 h2⟩
def A8.down{α:Type}[I4 α]{k:Hp}{xs:List α}(p:A8 k w T v xs)(m:B5 h k):A8 h w T v xs:=by
 rcases p with n|⟨b,c,a,rfl,d,f,g,i,j,l⟩
 ·exact .inl n
 ·refine .inr ⟨b,c,a,rfl,?_,f,g,i,j,bc2 l⟩;cases e:h b with
  | none=>rfl
  | some o=>rw[m b o e]at d;cases d
def A8.back{α:Type}[I4 α]{w0 a:World}{xs:List α}(b:A8 (i4 a) w T v xs)(c:o7 w0 a):A8 (i4 w0) w T v xs:=b.down (b7 c)
end
open Classical in
noncomputable def aO7 (w:World) (v:Value):Hp:=λb=>if A3 v b then none else w.heap[b]?
def bD5{w:World}{v:Value}{b:Nat}(h:A3 v b):aO7 w v b=none:=by unfold aO7;rw[if_pos h]
def aL7{w:World}{v:Value}{b:Nat}(h:¬A3 v b):aO7 w v b=w.heap[b]?:=by unfold aO7;rw[if_neg h]
def cM4(w:World)(v:Value):B5 (aO7 w v) (i4 w):=λb o e=>by
 by_cases h:A3 v b
 ·rw[bD5 h]at e;cases e
 ·rw[aL7 h]at e;exact e
section
variable {α:Type} [A4 α] {h:Hp} {w:World} {T:TypeId} {v:Value} {xs:List α}
def A8.rebase(c:A8 h w T v xs)(hw:B5 h (i4 w)):A8 (aO7 w v) w T v xs:=by
 refine c.up (λb o e=>?_) λb a=>bD5 a;have d:¬A3 v b:=λa=>by rw[c.free a]at e;cases e
 rw[aL7 d];exact hw b o e
def A8.beside{β:Type}[A4 β]{k:Hp}{T':TypeId}{u:Value}{ys:List β}(e:A8 k w T' u ys)(d:B5 k (aO7 w v))(c:∀b,A3 u b->¬A3 v b):R (aO7 w v) u ys:=
 e.ro d λb a=>aL7 (c b a)
end
def I6.write{α:Type}[A4 α]{h:Hp}{w l:World}{T T':TypeId}{v:Value}{us:List U1}{c:List (List α)}(k:I6 h w T T' v us c){i:Nat}{u:U1}(g:us[i]?=some u){xs:List α}
  (hm:o9 (A3 u.v) w l) (n:A8 h l T' u.v xs):I6 h l T T' v us (c.set i xs):=by
 have a:us.set i ⟨u.v⟩=us:=by
  obtain⟨q,e⟩:=dM9.1 g;apply dS8 (by simp);intro j o p;rw[List.getElem_set];split
  ·rename_i m;subst m;exact e.symm
  ·rfl
 have:=k.set (u':=u.v) (xs:=xs) g hm n (λb d=>.inl d) (o9.refl _) (by
  rw[a];exact k.outer.mod hm λb d f=>k.off i u g b f d)
 rw[a]at this;exact this
open Classical in
noncomputable def B6 (w:World) (N:Nat->Prop):Hp:=λb=>if N b then none else w.heap[b]?
def F2{w:World}{N:Nat->Prop}{b:Nat}(h:N b):B6 w N b=none:=by unfold B6;rw[if_pos h]
def D8{w:World}{N:Nat->Prop}{b:Nat}(h:¬N b):B6 w N b=w.heap[b]?:=by unfold B6;rw[if_neg h]
def B2(w:World)(N:Nat->Prop):B5 (B6 w N) (i4 w):=λb o e=>by
 by_cases h:N b
 ·rw[F2 h]at e;cases e
 ·rw[D8 h]at e;exact e
def I9{w c:World}{N N' M:Nat->Prop}(hm:o9 M w c)(f:∀b,M b->N b)(hN:∀b,N' b->N b\/w.heap.size<=b):B5 (B6 w N) (B6 c N'):=λb o e=>by
 by_cases h:N b
 ·rw[F2 h]at e;cases e
 ·rw[D8 h]at e;have g:b<w.heap.size:=(dN0.1 e).1;have d:¬N' b:=λa=>by
   rcases hN b a with k|k
   ·exact h k
   ·omega
  rw[D8 d,hm.block b g λi=>h (f b i)];exact e
def aL8{w0 w:World}{N:Nat->Prop}(c:o7 w0 w)(hN:∀b,N b->w0.heap.size<=b):B5 (i4 w0) (B6 w N):=λb o e=>by
 have d:b<w0.heap.size:=(dN0.1 (show w0.heap[b]?=some o from e)).1;have a:¬N b:=λh=>by have:=hN b h;omega
 rw[D8 a];exact b7 c b o e
section
variable {α:Type} [A4 α] {h:Hp} {w:World} {T:TypeId} {v:Value} {xs:List α} {N:Nat->Prop}
def A8.noMod{a:World}{N' M:Nat->Prop}(f:A8 (B6 w N) w T v xs)(hm:o9 M w a)(c:∀b,M b->N b)(e:∀b,A3 v b->¬M b)(hN:∀b,N' b->N b\/w.heap.size<=b)(hv:∀b,A3 v b->N' b):A8 (B6 a N') a T v xs:=
 (f.mod hm e).up (I9 hm c hN) λb d=>F2 (hv b d)
def A8.roNo{k:Hp}(e:A8 k w T v xs)(d:B5 k (B6 w N))(c:∀b,A3 v b->¬N b):R (B6 w N) v xs:=e.ro d λb a=>D8 (c b a)
def A8.reNo(d:A8 h w T v xs)(c:B5 h (B6 w N))(hv:∀b,A3 v b->N b):A8 (B6 w N) w T v xs:=d.up c λb a=>F2 (hv b a)
end
def dY0:=@Bool.eq_iff_iff
def dU5:=@Iff.rfl
def dZ3:=@List.cons.injEq
def dX6:=@List.cons_append
def dO6:=@List.mem_cons
def dR2:=@List.not_mem_nil
def dX1:=@or_false
structure A6 where
 b:List UInt8
 deriving DecidableEq
instance:Inhabited A6:=⟨⟨[]⟩⟩
def ofA(b:Array UInt8):A6:=⟨b.toList⟩
abbrev e0:A6:=ofA #[]
def p6(s:A6):Value:=.string ⟨s.b.toArray⟩
instance:I4 A6:=⟨p6,λ_=>rfl⟩
def aq4(l:List UInt8):(⟨l.toArray⟩:ByteArray).toList=l:=by
 rw[ByteArray.toList_eq]
def ltS(a b:A6):Bool:=Op.bytesLess a.b b.b
def bn5(a b:A6):(a.b==b.b)=decide (a=b):=by
 refine dY0.2 ?_;rw[beq_iff_eq,decide_eq_true_iff];cases a;cases b;simp
section
variable {P:Program} {t:TypeId}
def co4{a b:A6}:B4 P .eql t (p6 a) (p6 b)=some (.bool (decide (a=b))):=by
 simp only[p6,B4,aq4,bn5]
def cY4{a b:A6}:B4 P .neq t (p6 a) (p6 b)=some (.bool (!decide (a=b))):=by
 simp only[p6,B4,aq4,bn5]
def dD5{a b:A6}:B4 P .lss t (p6 a) (p6 b)=some (.bool (ltS a b)):=by
 simp only[p6,B4,aq4,ltS]
def cY3{a b:A6}:B4 P .gtr t (p6 a) (p6 b)=some (.bool !(ltS a b||decide (a=b))):=by
 simp only[p6,B4,aq4,ltS,bn5]
theorem dv5{s:A6}(h:bO4 P t=true)(a:M0 P t=none):N7 P t (p6 s)=some (.int .i64 (s.b.length:Nat)):=by
 simp only[N7,a,Option.isSome_none,dS7,dU1,p6,h,dS6];rfl
end
def bw8(h:Hp)(v:Value)(n:Nat)(E:List Value->Prop):Prop:=∃a m c d,v = .slice a m c/\m=n/\m<=c/\E d/\∀j u,d[j]?=some u->∃b,a=some b/\L3 h (b.add j)=some u
def aS2{h k:Hp}(s:B5 h k){v:Value}{n:Nat}{E F:List Value->Prop}(q:∀b,E b->F b):bw8 h v n E->bw8 k v n F:=by
 rintro⟨a,m,c,b,e,f,g,i,l⟩;refine⟨a,m,c,b,e,f,g,q _ i,λj u r=>?_⟩;obtain⟨d,o,p⟩:=l j u r;exact⟨d,o,H2 s p⟩
theorem be3{h:Hp}{v:Value}{n:Nat}{E:List Value->Prop}:bw8 h v n E->v.oneCell'=true:=by
 rintro⟨a,m,c,b,rfl,_⟩;rfl
def cn9{α:Type}[A4 α]{h:Hp}{v:Value}{xs:List α}:R h v xs↔bw8 h v xs.length (λb=>O3 h b xs):=by
 constructor
 ·rintro⟨a,n,c,e,d,f,b,g,i⟩;simp only[dZ3,and_true]at e;exact⟨a,n,c,b,e,d,f,g,i⟩
 ·rintro⟨a,n,c,b,rfl,d,f,g,i⟩;exact⟨a,n,c,rfl,d,f,b,g,i⟩
structure bo0 (α:Type) where
 n:Nat
 pos:0<n
 cells:α->List Value
 len:∀x,(cells x).length=n
 one:∀x,∀v∈cells x,v.oneCell'=true
abbrev bo0.rep{α:Type}(F:bo0 α):A4 α where
 sz:=F.n
 pos:=F.pos
 enc _ cs x:=cs=F.cells x
 len h:=by rw[h];exact F.len _
 mono _ h:=h
 one h:=by intro v a;rw[h]at a;exact F.one _ v a
structure Pa where
 name:A6
 ref:Bool
 deriving DecidableEq
def Pa.cells(p:Pa):List Value:=[p6 p.name,.bool p.ref]
instance:A4 Pa:=bo0.rep ⟨2,by omega,Pa.cells,λ_=>rfl,λx v hv=>by simp[Pa.cells]at hv;rcases hv with rfl|rfl<;>rfl⟩
structure Sp where
 src:Int
 dst:Int
 kind:Int
 deriving DecidableEq
def Sp.cells(p:Sp):List Value:=[.int .i64 p.src,.int .i64 p.dst,.int .i64 p.kind]
instance:A4 Sp:=bo0.rep ⟨3,by omega,Sp.cells,λ_=>rfl,λx v hv=>by simp[Sp.cells]at hv;rcases hv with rfl|rfl|rfl<;>rfl⟩
structure Fw where
 src:Int
 dst:Int
 var:A6
 deriving DecidableEq
def Fw.cells(p:Fw):List Value:=[.int .i64 p.src,.int .i64 p.dst,p6 p.var]
instance:A4 Fw:=bo0.rep ⟨3,by omega,Fw.cells,λ_=>rfl,λx v hv=>by simp[Fw.cells]at hv;rcases hv with rfl|rfl|rfl<;>rfl⟩
structure Vx where
 proc:A6
 kind:Int
 id:Int
 slot:A6
 deriving DecidableEq
def Vx.cells(p:Vx):List Value:=[p6 p.proc,.int .i64 p.kind,.int .i64 p.id,p6 p.slot]
instance:A4 Vx:=bo0.rep ⟨4,by omega,Vx.cells,λ_=>rfl,λx v hv=>by simp[Vx.cells]at hv;rcases hv with rfl|rfl|rfl|rfl<;>rfl⟩
structure Eg where
 src:Vx
 dst:Vx
 kind:Int
 deriving DecidableEq
def Eg.cells(p:Eg):List Value:=p.src.cells++p.dst.cells++[.int .i64 p.kind]
instance:A4 Eg:=bo0.rep ⟨9,by omega,Eg.cells,λ_=>rfl,λx v hv=>by simp[Eg.cells,Vx.cells]at hv;rcases hv with rfl|rfl|rfl|rfl|rfl|rfl|rfl|rfl|rfl<;>rfl⟩
inductive Ex where
 | mk (op n:Int) (name:A6) (kids:List Ex)
namespace Ex
def op:Ex->Int | .mk a _ _ _=>a
def n:Ex->Int | .mk _ a _ _=>a
def name:Ex->A6 | .mk _ _ a _=>a
def kids:Ex->List Ex | .mk _ _ _ a=>a
end Ex
mutual
def aU3(h:Hp):Ex->List Value->Prop
 | .mk op n name kids,cs=>∃a,cs=[.int .i64 op,.int .i64 n,p6 name,a]/\bw8 h a kids.length (aw3 h kids)
def aw3(h:Hp):List Ex->List Value->Prop
 | [],cs=>cs=[]
 | x::xs,cs=>∃a b,cs=a++b/\aU3 h x a/\aw3 h xs b
end
mutual
def bq4{h k:Hp}(b:B5 h k):∀(x:Ex) (a:List Value),aU3 h x a->aU3 k x a
 | .mk op n name kids,a,e=>by
  simp only[aU3]at *;obtain⟨g,c,d⟩:=e;exact⟨g,c,aS2 b (λf=>bh1 b kids f) d⟩
def bh1{h k:Hp}(d:B5 h k):∀(x:List Ex) (a:List Value),aw3 h x a->aw3 k x a
 | [],a,e=>by simpa only[aw3]using e
 | x::xs,a,e=>by
  simp only[aw3]at *;obtain⟨b,c,f,g,i⟩:=e;exact⟨b,c,f,bq4 d x b g,bh1 d xs c i⟩
end
instance:A4 Ex where
 sz:=4
 pos:=by omega
 enc h cs x:=aU3 h x cs
 len:=by
  rintro h cs ⟨op,n,name,kids⟩ e;simp only[aU3]at e;obtain⟨vk,rfl,_⟩:=e;rfl
 mono hk:=bq4 hk _ _
 one:=by
  rintro h cs ⟨op,n,name,kids⟩ e v hv;simp only[aU3]at e;obtain⟨vk,rfl,h2⟩:=e;simp only[dO6,dR2,dX1]at hv;rcases hv with rfl|rfl|rfl|rfl
  ·rfl
  ·rfl
  ·rfl
  ·exact be3 h2
def bq5{h:Hp}:∀(b:List Ex) (a:List Value),aw3 h b a↔O3 h a b
 | [],a=>by simp only[aw3,O3]
 | x::b,a=>by
  simp only[aw3,O3,bq5 b];exact dU5
def bK9{h:Hp}{cs:List Value}{x:Ex}:A4.enc h cs x↔∃b,cs=[.int .i64 x.op,.int .i64 x.n,p6 x.name,b]/\R h b x.kids:=by
 obtain⟨op,n,name,kids⟩:=x;show aU3 h _ cs↔_;simp only[aU3,cn9,Ex.op,Ex.n,Ex.name,Ex.kids];have:aw3 h kids=λa=>O3 h a kids:=by funext a;exact propext (bq5 kids a)
 rw[this]
structure Ar where
 ref:Bool
 name:A6
 x:Ex
instance:A4 Ar where
 sz:=6
 pos:=by omega
 enc h cs a:=∃c,cs = .bool a.ref::p6 a.name::c/\A4.enc h c a.x
 len:=by rintro h cs a ⟨c,rfl,h2⟩;have:=A4.len h2;simp[this];rfl
 mono:=by rintro h k cs a hk ⟨c,rfl,h2⟩;exact⟨c,rfl,A4.mono hk h2⟩
 one:=by
  rintro h cs a ⟨c,rfl,h2⟩ v hv;simp only[dO6]at hv;rcases hv with rfl|rfl|hv
  ·rfl
  ·rfl
  ·exact A4.one h2 v hv
inductive St where
 | mk (id kind:Int) (labels:List A6) (name proc:A6) (x:Ex) (has:Bool) (args:List Ar) (thn els:List St)
namespace St
def id:St->Int | .mk a _ _ _ _ _ _ _ _ _=>a
def kind:St->Int | .mk _ a _ _ _ _ _ _ _ _=>a
def labels:St->List A6 | .mk _ _ a _ _ _ _ _ _ _=>a
def name:St->A6 | .mk _ _ _ a _ _ _ _ _ _=>a
def proc:St->A6 | .mk _ _ _ _ a _ _ _ _ _=>a
def x:St->Ex | .mk _ _ _ _ _ a _ _ _ _=>a
def has:St->Bool | .mk _ _ _ _ _ _ a _ _ _=>a
def args:St->List Ar | .mk _ _ _ _ _ _ _ a _ _=>a
def thn:St->List St | .mk _ _ _ _ _ _ _ _ a _=>a
def els:St->List St | .mk _ _ _ _ _ _ _ _ _ a=>a
end St
mutual
def aU4(h:Hp):St->List Value->Prop
 | .mk id kind labels name proc x has args thn els,cs=>∃d a b e c,cs = .int .i64 id :: .int .i64 kind::d::p6 name::p6 proc::a++[.bool has,b,e,c] /\
   R h d labels/\A4.enc h a x/\R h b args/\bw8 h e thn.length (am8 h thn)/\bw8 h c els.length (am8 h els)
def am8(h:Hp):List St->List Value->Prop
 | [],cs=>cs=[]
 | x::xs,cs=>∃a b,cs=a++b/\aU4 h x a/\am8 h xs b
end
mutual
def bq6{h k:Hp}(a:B5 h k):∀(x:St) (b:List Value),aU4 h x b->aU4 k x b
 | .mk id kind labels name proc x has args thn els,b,e=>by
  simp only[aU4]at *;obtain⟨p,d,n,q,o,f,g,i,j,l,m⟩:=e;exact⟨p,d,n,q,o,f,A4.mono a g,A4.mono a i,A4.mono a j,aS2 a (λc=>aH4 a thn c) l,aS2 a (λc=>aH4 a els c) m⟩
def aH4{h k:Hp}(d:B5 h k):∀(x:List St) (a:List Value),am8 h x a->am8 k x a
 | [],a,e=>by simpa only[am8]using e
 | x::xs,a,e=>by
  simp only[am8]at *;obtain⟨b,c,f,g,i⟩:=e;exact⟨b,c,f,bq6 d x b g,aH4 d xs c i⟩
end
def aa9{α:Type}[A4 α]{h:Hp}{v:Value}{xs:α}(a:R h v xs):v.oneCell'=true:=A4.one a v (by simp)
instance:A4 St where
 sz:=13
 pos:=by omega
 enc h cs x:=aU4 h x cs
 len:=by
  rintro h cs ⟨id,kind,labels,name,proc,x,has,args,thn,els⟩ e;simp only[aU4]at e;obtain⟨vl,cx,va,vt,ve,rfl,h2,h3,_⟩:=e;have h4:cx.length=4:=A4.len h3;simp[h4]
 mono hk:=bq6 hk _ _
 one:=by
  rintro h cs ⟨id,kind,labels,name,proc,x,has,args,thn,els⟩ e v hv;simp only[aU4]at e;obtain⟨vl,cx,va,vt,ve,rfl,h2,h3,h4,h5,h6⟩:=e;simp only[dX6,dO6,dN7,dR2,dX1]at hv;rcases hv with rfl|rfl|rfl|rfl|rfl|hv|rfl|rfl|rfl|rfl
  ·rfl
  ·rfl
  ·exact aa9 h2
  ·rfl
  ·rfl
  ·exact A4.one h3 v hv
  ·rfl
  ·exact aa9 h4
  ·exact be3 h5
  ·exact be3 h6
def aQ9{h:Hp}:∀(b:List St) (a:List Value),am8 h b a↔O3 h a b
 | [],a=>by simp only[am8,O3]
 | x::b,a=>by
  simp only[am8,O3,aQ9 b];exact dU5
def bL0{h:Hp}{cs:List Value}{s:St}:A4.enc h cs s↔∃e b c f d,cs = .int .i64 s.id :: .int .i64 s.kind::e::p6 s.name::p6 s.proc::b++[.bool s.has,c,f,d] /\
   R h e s.labels/\A4.enc h b s.x/\R h c s.args/\R h f s.thn/\R h d s.els:=by
 obtain⟨id,kind,labels,name,proc,x,has,args,thn,els⟩:=s;show aU4 h _ cs↔_;have g:am8 h thn=λa=>O3 h a thn:=by funext a;exact propext (aQ9 thn a)
 have i:am8 h els=λa=>O3 h a els:=by funext a;exact propext (aQ9 els a)
 simp only[aU4,cn9,g,i,St.id,St.kind,St.labels,St.name,St.proc,St.x,St.has,St.args,St.thn,St.els]
structure Pr where
 name:A6
 params:List Pa
 vars:List A6
 body:List St
 fin:List A6
instance:A4 Pr where
 sz:=5
 pos:=by omega
 enc h cs p:=∃v1 v2 v3 v4,cs=[p6 p.name,v1,v2,v3,v4]/\R h v1 p.params/\R h v2 p.vars/\R h v3 p.body/\R h v4 p.fin
 len:=by rintro h cs a ⟨v1,v2,v3,v4,rfl,_⟩;rfl
 mono:=by rintro h k cs a hk ⟨v1,v2,v3,v4,rfl,h1,h2,h3,h4⟩;exact⟨v1,v2,v3,v4,rfl,A4.mono hk h1,A4.mono hk h2,A4.mono hk h3,A4.mono hk h4⟩
 one:=by
  rintro h cs a ⟨v1,v2,v3,v4,rfl,h1,h2,h3,h4⟩ v hv;simp only[dO6,dR2,dX1]at hv;rcases hv with rfl|rfl|rfl|rfl|rfl
  ·rfl
  ·exact aa9 h1
  ·exact aa9 h2
  ·exact aa9 h3
  ·exact aa9 h4
structure Pg where
 globals:List A6
 procs:List Pr
instance:A4 Pg where
 sz:=2
 pos:=by omega
 enc h cs p:=∃v1 v2,cs=[v1,v2]/\R h v1 p.globals/\R h v2 p.procs
 len:=by rintro h cs a ⟨v1,v2,rfl,_⟩;rfl
 mono:=by rintro h k cs a hk ⟨v1,v2,rfl,h1,h2⟩;exact⟨v1,v2,rfl,A4.mono hk h1,A4.mono hk h2⟩
 one:=by
  rintro h cs a ⟨v1,v2,rfl,h1,h2⟩ v hv;simp only[dO6,dR2,dX1]at hv;rcases hv with rfl|rfl
  ·exact aa9 h1
  ·exact aa9 h2
structure It where
 s:St
 proc:Int
 up:Int
 next:Int
 loop:Int
instance:A4 It where
 sz:=17
 pos:=by omega
 enc h cs p:=∃c,cs=c++[.int .i64 p.proc,.int .i64 p.up,.int .i64 p.next,.int .i64 p.loop]/\A4.enc h c p.s
 len:=by rintro h cs a ⟨c,rfl,h1⟩;have h4:c.length=13:=A4.len h1;simp[h4]
 mono:=by rintro h k cs a hk ⟨c,rfl,h1⟩;exact⟨c,rfl,A4.mono hk h1⟩
 one:=by
  rintro h cs a ⟨c,rfl,h1⟩ v hv;simp only[dN7,dO6,dR2,dX1]at hv;rcases hv with hv|rfl|rfl|rfl|rfl
  ·exact A4.one h1 v hv
  all_goals rfl
structure Sh where
 p:Pg
 l:List It
 lo:List Int
 hi:List Int
instance:A4 Sh where
 sz:=5
 pos:=by omega
 enc h cs p:=∃c v1 v2 v3,cs=c++[v1,v2,v3]/\A4.enc h c p.p/\R h v1 p.l/\R h v2 p.lo/\R h v3 p.hi
 len:=by rintro h cs a ⟨c,v1,v2,v3,rfl,h1,_⟩;have h4:c.length=2:=A4.len h1;simp[h4]
 mono:=by rintro h k cs a hk ⟨c,v1,v2,v3,rfl,h0,h1,h2,h3⟩;exact⟨c,v1,v2,v3,rfl,A4.mono hk h0,A4.mono hk h1,A4.mono hk h2,A4.mono hk h3⟩
 one:=by
  rintro h cs a ⟨c,v1,v2,v3,rfl,h0,h1,h2,h3⟩ v hv;simp only[dN7,dO6,dR2,dX1]at hv;rcases hv with hv|rfl|rfl|rfl
  ·exact A4.one h0 v hv
  ·exact aa9 h1
  ·exact aa9 h2
  ·exact aa9 h3
def SV{α:Type}[A4 α](h:Hp)(v:Value)(x:α):Prop:=∃a,v = .agg (List.toArray a)/\A4.enc h a x
section
variable {α:Type} [A4 α] {h k:Hp} {v:Value} {x:α} {P:Program} {t T:TypeId} {w:World}
def SV.mono(c:B5 h k):SV h v x->SV k v x:=λ⟨a,e,b⟩=>⟨a,e,A4.mono c b⟩
def SV.enc:SV h v x->A4.enc h v.cells.toList x:=by
 rintro⟨b,rfl,a⟩;simpa[Value.cells]using a
def F9{xs:List α}(l:R h v xs)(hw:B5 h (i4 w)){k:Nat}(i:xs[k]?=some x)(m:I7 P t=true)(n:(P.underlying t).isSome=true)(f:(P.info? t).isSome=true)(c:L9 P t=A4.sz α):
  ∃d,SV h d x/\(Instr.loadAt t (.pointer (some (G4 v (k*L9 P t))))).run P w = .ok d w:=by
 obtain⟨_,a,b,e⟩:=l.get i;refine⟨.agg (List.toArray a),⟨a,rfl,b⟩,?_⟩;rw[c];exact bt5 (cs:=a) m n f (by rw[c,A4.len b]) λj u g=>H2 hw (e j u g)
end
abbrev Q0(P:Program)(w:World)(t:TypeId)(a:Addr)(v:Value):Prop:=(Instr.loadAt t (.pointer (some a))).run P w = .ok v w
abbrev Q4(P:Program)(S:World->Prop)(t:TypeId)(a:Addr)(v:Value):Prop:=∀K f d w,F3 P S (Instr.loadAt t (.pointer (some a))) K f d w=K (C4 f d v) w
def At{α:Type}[A4 α](h:Hp)(a:Addr)(x:α):Prop:=∃b,A4.enc h b x/\∀j u,b[j]?=some u->L3 h (a.add j)=some u
section
variable {α:Type} [A4 α] {h k:Hp} {v:Value} {x:α} {P:Program} {t T:TypeId} {w:World} {a:Addr}
def At.mono(b:B5 h k):At h a x->At k a x:=λ⟨c,d,e⟩=>⟨c,A4.mono b d,λj u f=>H2 b (e j u f)⟩
def R.at_{xs:List α}(b:R h v xs){i:Nat}(a:xs[i]?=some x):At h (G4 v (i*A4.sz α)) x:=(b.get a).2
def Ptr.at_{p:Ptr α}(f:R h v p):∃a,v = .pointer (some a)/\At h a p.to:=by
 obtain⟨a,b,e,c,d⟩:=f;simp only[dZ3,and_true]at e;exact⟨a,e,b,c,d⟩
def At.ptr(e:At h a x):R h (.pointer (some a)) (⟨x⟩:Ptr α):=by
 obtain⟨b,c,d⟩:=e;exact⟨a,b,rfl,c,d⟩
def At.sv(e:At h a x)(l:I7 P t=true)(m:(P.underlying t).isSome=true)(g:(P.info? t).isSome=true)(k:L9 P t=A4.sz α):
  ∃d,SV h d x/\∀w,B5 h (i4 w)->(Instr.loadAt t (.pointer (some a))).run P w = .ok d w:=by
 obtain⟨b,c,f⟩:=e;exact⟨.agg (List.toArray b),⟨b,rfl,c⟩,λw n=>bt5 (cs:=b) l m g (by rw[k,A4.len c]) λj u i=>H2 n (f j u i)⟩
def z6{b:List Value}(c:∀j u,b[j]?=some u->L3 h (a.add j)=some u){o:Nat}{u:Value}(d:b[o]?=some u)(e:I7 P t=false):
  ∀w,B5 h (i4 w)->(Instr.loadAt t (.pointer (some (a.add o)))).run P w = .ok u w:=λw f=>S3 e (H2 f (c o u d))
def bm4{β:Type}[A4 β]{y:β}{b c:List Value}(d:∀j u,b[j]?=some u->L3 h (a.add j)=some u){o:Nat}(g:A4.enc h c y)(f:∀j u,c[j]?=some u->b[o+j]?=some u):At h (a.add o) y:=
 ⟨c,g,λj u e=>by rw[Addr.add_add'];exact d _ _ (f j u e)⟩
def E7{b:List Value}(c:∀j u,b[j]?=some u->L3 h (a.add j)=some u){u:Value}(d:b[0]?=some u)(e:I7 P t=false):
  ∀w,B5 h (i4 w)->(Instr.loadAt t (.pointer (some a))).run P w = .ok u w:=λw f=>by
 have:=z6 (P:=P) (t:=t) c d e w f
 rwa [L7]at this
def bo9{β:Type}[A4 β]{y:β}{b c:List Value}(d:∀j u,b[j]?=some u->L3 h (a.add j)=some u)(f:A4.enc h c y)(e:∀j u,c[j]?=some u->b[0+j]?=some u):At h a y:=by
 have:=bm4 d f e
 rwa [L7]at this
def B7{S:World->Prop}{s:Sem Value}{u:Value}{K:Fr->World->Prop}{f:Fr}{d:Option Nat}{w0:World}(hS:S w0)(h:∀b,S b->s.run P b = .ok u b):F3 P S s K f d w=K (C4 f d u) w:=by
 refine propext ⟨?_,λa=>⟨u,h,a⟩⟩;rintro⟨v,c,a⟩;have:=(c w0 hS).symm.trans (h w0 hS);simp only[Result.ok.injEq,and_true]at this;rw[<-this];exact a
def T7{S:World->Prop}{t:TypeId}{a:Addr}{v:Value}{w0:World}(hS:S w0)(h:∀b,S b->Q0 P b t a v):Q4 P S t a v:=λ_ _ _ _=>B7 hS h
def At.sv2(l:At h a x)(o:I7 P t=true)(p:(P.underlying t).isSome=true)(m:(P.info? t).isSome=true)(n:L9 P t=A4.sz α):
  ∃b,SV h b x/\(∀w,B5 h (i4 w)->(Instr.loadAt t (.pointer (some a))).run P w = .ok b w)/\(∀(S:World->Prop) (i:World),S i->(∀w,S w->B5 h (i4 w))->∀K f d w,F3 P S (Instr.loadAt t (.pointer (some a))) K f d w=K (C4 f d b) w):=by
 obtain⟨b,j,e⟩:=l.sv (P:=P) (t:=t) o p m n;exact⟨b,j,e,λS i k q K f d w=>B7 k λg c=>e g (q g c)⟩
def bJ5(hv:SV h v x)(hw:B5 h (i4 w)):∃a c,(Instr.box T v).run P w = .ok (.pointer (some a)) c/\o7 w c/\At (i4 c) a x:=by
 obtain⟨b,rfl,e⟩:=hv;have d:=o7.alloc w (.cells (List.toArray b) T);refine⟨⟨w.heap.size,0,none⟩,w.alloc (.cells (List.toArray b) T),rfl,d,b,A4.mono (t8 hw (b7 d)) e,λj u f=>?_⟩;rw[<-ak4,add_lit,dQ2,dY2];simpa using f
def bA6(hv:SV h v x)(hw:B5 h (i4 w)){z:Value}(m:G8 P T=some z)(c:z.cells.size=L9 P T)(l:L9 P T=A4.sz α):
  ∃a f d,(Instr.alloc T true (.tuple #[])).run P w = .ok (.pointer (some a)) f/\(Instr.storeAt T (.pointer (some a)) v).run P f = .ok () d/\o7 w d/\At (i4 d) a x:=by
 obtain⟨cs,rfl,b⟩:=hv;obtain⟨g,i⟩:=aJ0 (P:=P) (w:=w) (T:=T) m c (cs:=List.toArray cs) (by simpa[l]using A4.len b) (by simpa using A4.one b);have e:=o7.alloc w (.cells (List.toArray cs) T);refine⟨_,_,_,g,i,e,cs,A4.mono (t8 hw (b7 e)) b,λj u k=>?_⟩;rw[<-ak4,add_lit,dQ2,dY2];simpa using k
end
def dV4:=@Classical.byContradiction
def dZ8:=@List.any_eq_true
def dW9:=@List.getElem?_replicate
def dU7:=@List.getElem?_set_ne
def dT0:=@List.mem_iff_getElem
def dR9:=@Option.getD_some
def dO2:=@congrArg
abbrev W:=BitVec 64
instance:I4 W:=⟨λx=>.int .u64 (x.toNat:Nat),λ_=>rfl⟩
section
variable {P:Program} {t:TypeId}
def by4(n:Nat)(h:n<18446744073709551616):IntKind.u64.wrap (n:Int)=(n:Int):=by
 have:IntKind.u64.wrap (n:Int)=IntKind.u64.wrap (n:Int):=rfl;unfold IntKind.wrap;simp[IntKind.bits,IntKind.signed];omega
def bM7(x:W):BitVec.ofInt IntKind.u64.bits ((x.toNat:Nat):Int)=x:=by
 show BitVec.ofInt 64 ((x.toNat:Nat):Int)=x;rw[BitVec.ofInt_natCast,BitVec.ofNat_toNat];simp
def bK0(f:Nat)(b:f<1000000000000):B4 P .quo t (.int .i64 f) (.int .i64 64)=some (.int .i64 ((f / 64:Nat):Int)):=by
 have a:(f:Int).tdiv 64=((f / 64:Nat):Int):=by rfl
 simp only[B4,E5,dS6,a];rw[if_neg (by decide),IntWalk.i64_in _ (by omega)]
def cI9(f:Nat):B4 P .rem t (.int .i64 f) (.int .i64 64)=some (.int .i64 ((f % 64:Nat):Int)):=by
 have a:(f:Int).tmod 64=((f % 64:Nat):Int):=by rfl
 simp only[B4,E5,dS6,a];rw[if_neg (by decide)]
def cJ0(x:W)(k:Nat)(c:k<64):B4 P .shr t (.int .u64 ((x.toNat:Nat):Int)) (.int .i64 k)=some (.int .u64 (((x >>> k).toNat:Nat):Int)):=by
 simp only[B4];rw[if_neg (by omega)];have a:min ((k:Int).toNat) IntKind.u64.bits=k:=by
  show min ((k:Int).toNat) 64=k;omega
 rw[a,BitVec.toNat_ushiftRight,Nat.shiftRight_eq_div_pow];have b:((x.toNat:Nat):Int).fdiv (2 ^ k)=((x.toNat / 2 ^ k:Nat):Int):=by
  rw[Int.fdiv_eq_ediv_of_nonneg _ (by exact Int.le_of_lt (Int.pow_pos (by decide)))];simp
 rw[b]
theorem cI7(x:W)(k:Nat):B4 P .and t (.int .u64 (((x >>> k).toNat:Nat):Int)) (.int .u64 1)=some (.int .u64 (if x.getLsbD k then 1 else 0)):=by
 have a:BitVec.ofInt IntKind.u64.bits 1=(1#64:W):=rfl;simp only[B4,E5,dS6,bM7,a];have b:((x >>> k) &&& 1#64:W)=if x.getLsbD k then 1#64 else 0#64:=by
  apply BitVec.eq_of_getLsbD_eq;intro i c;rw[BitVec.getLsbD_and,BitVec.getLsbD_ushiftRight];by_cases h0:i=0
  ·subst h0;cases hx:x.getLsbD k<;>simp[]
  ·have:(1#64:W).getLsbD i=false:=by
    rw[BitVec.getLsbD_one];simp[h0]
   rw[this,Bool.and_false];split
   ·exact this.symm
   ·simp
 show some (Value.int .u64 (IntKind.u64.wrap ((((x >>> k) &&& 1#64:W).toNat:Nat):Int)))=_;rw[b];cases x.getLsbD k<;>rfl
theorem dl4(b:Bool):B4 P .eql t (.int .u64 (if b then 1 else 0)) (.int .u64 0)=some (.bool (!b)):=by
 cases b<;>rfl
theorem dl5(b:Bool):B4 P .eql t (.int .u64 (if b then 1 else 0)) (.int .u64 1)=some (.bool b):=by
 cases b<;>rfl
def dl7(k:Nat)(a:k<64):B4 P .shl t (.int .u64 1) (.int .i64 k)=some (.int .u64 (((1#64 <<< k:W).toNat:Nat):Int)):=by
 simp only[B4];rw[if_neg (by omega)];have b:min ((k:Int).toNat) IntKind.u64.bits=k:=by
  show min ((k:Int).toNat) 64=k;omega
 rw[b];have c:(1:Int)*2 ^ k=((2 ^ k:Nat):Int):=by simp
 have d:2 ^ k<18446744073709551616:=by
  have:(2:Nat) ^ k<2 ^ 64:=Nat.pow_lt_pow_right (by decide) a;simpa using this
 have e:(1#64 <<< k:W).toNat=2 ^ k:=by
  rw[BitVec.toNat_shiftLeft,Nat.shiftLeft_eq];show(1*2 ^ k) % 2 ^ 64=2 ^ k;rw[Nat.one_mul];exact Nat.mod_eq_of_lt (Nat.pow_lt_pow_right (by decide) a)
 rw[c,by4 _ d,e]
theorem cI8(x y:W):B4 P .or t (.int .u64 ((x.toNat:Nat):Int)) (.int .u64 ((y.toNat:Nat):Int))=some (.int .u64 (((x ||| y).toNat:Nat):Int)):=by
 simp only[B4,E5,dS6,bM7];rw[by4 _ (by exact(x ||| y).isLt)];rfl
theorem bB7(x y:W):B4 P .andNot t (.int .u64 ((x.toNat:Nat):Int)) (.int .u64 ((y.toNat:Nat):Int))=some (.int .u64 (((x &&& ~~~y).toNat:Nat):Int)):=by
 simp only[B4,E5,dS6,bM7];rw[by4 _ (by exact(x &&& ~~~y).isLt)];rfl
def dl6(x:W):B4 P .neq t (.int .u64 ((x.toNat:Nat):Int)) (.int .u64 0)=some (.bool (x != 0#64)):=by
 simp only[B4,E5,dS6]
 congr 2
 rw[dY0];simp only[bne_iff_ne,ne_eq];constructor
 ·intro h e;subst e;exact h rfl
 ·intro h e;apply h;apply BitVec.eq_of_toNat_eq;simpa using e
end
def dI2{K:Fr->World->Prop}{f:Fr}{d:Option Nat}{w:World}{v:Value}{D:Prop}:aD0 (some v) K f d w D=K (C4 f d v) w:=propext dU5
def Q8(a:List W)(f:Nat):Bool:=(a.getD (f / 64) 0#64).getLsbD (f % 64)
def cD1(a:List W)(f:Nat):List W:=a.set (f / 64) (a.getD (f / 64) 0#64 ||| (1#64 <<< (f % 64)))
def cM1{a:List W}{f:Nat}(h:f / 64<a.length)(g:Nat):Q8 (cD1 a f) g=(decide (g=f)||Q8 a g):=by
 unfold Q8 cD1;by_cases hd:g / 64=f / 64
 ·have b:(a.set (f / 64) (a.getD (f / 64) 0#64 ||| (1#64 <<< (f % 64)))).getD (g / 64) 0#64=a.getD (f / 64) 0#64 ||| (1#64 <<< (f % 64)):=by
   rw[hd];simp[List.getD,h]
  rw[b,BitVec.getLsbD_or,hd];have c:(1#64 <<< (f % 64):W).getLsbD (g % 64)=decide (g=f):=by
   rw[BitVec.getLsbD_shiftLeft,BitVec.getLsbD_one];rw[dY0];simp;omega
  rw[c,Bool.or_comm]
 ·have b:(a.set (f / 64) (a.getD (f / 64) 0#64 ||| (1#64 <<< (f % 64)))).getD (g / 64) 0#64=a.getD (g / 64) 0#64:=by
   simp only[List.getD];rw[dU7 (λe=>hd e.symm)]
  have d:g≠f:=λe=>hd (by rw[e]);rw[b];simp[d]
def bU9{n f:Nat}:Q8 (List.replicate n 0#64) f=false:=by
 unfold Q8;have:(List.replicate n (0#64:W)).getD (f / 64) 0#64=0#64:=by
  simp only[List.getD,dW9];split<;>rfl
 rw[this];simp
def cQ6(a:List W)(f:Nat):(cD1 a f).length=a.length:=by simp[cD1]
def orB(b c:List W):List W:=List.zipWith (· ||| ·) b c
def ai6(b c:List W):Bool:=(List.zipWith (λx y=>(y &&& ~~~x:W) != 0#64) b c).any id
def cL0{α:Type}(g:W->W->α)(d:α)(a:g 0#64 0#64=d){b c:List W}(e:b.length=c.length)(i:Nat):(List.zipWith g b c).getD i d=g (b.getD i 0#64) (c.getD i 0#64):=by
 simp only[List.getD,List.getElem?_zipWith];by_cases hi:i<b.length
 ·rw[dM4 hi,dM4 (by omega)];rfl
 ·rw[dV0 (by omega),dV0 (by omega)];simp[a]
def aB7{b c:List W}(a:b.length=c.length)(f:Nat):Q8 (orB b c) f=(Q8 b f||Q8 c f):=by
 unfold Q8 orB;rw[cL0 (· ||| ·) 0#64 (by simp) a,BitVec.getLsbD_or]
def bF1{b c:List W}(r:b.length=c.length):ai6 b c=true↔∃f,Q8 c f=true/\Q8 b f=false:=by
 unfold ai6;rw[dZ8];constructor
 ·rintro⟨x,q,m⟩;simp only[id]at m;subst m;obtain⟨i,n,e⟩:=dT0.1 q;rw[List.getElem_zipWith]at e;simp only[List.length_zipWith]at n;have o:(c[i]'(by omega) &&& ~~~b[i]'(by omega):W)≠0#64:=by simpa using e
  have:∃k,k<64/\(c[i]'(by omega) &&& ~~~b[i]'(by omega):W).getLsbD k=true:=by
   refine dV4 λl=>o ?_;apply BitVec.eq_of_getLsbD_eq;intro k p;have a:¬(c[i]'(by omega) &&& ~~~b[i]'(by omega):W).getLsbD k=true:=λg=>l ⟨k,p,g⟩;simp only[Bool.not_eq_true]at a;rw[a];simp
  obtain⟨k,p,d⟩:=this;rw[BitVec.getLsbD_and,BitVec.getLsbD_not]at d;have h:(i*64+k) / 64=i:=by omega
  have j:(i*64+k) % 64=k:=by omega
  simp only[dO8,dQ3,Bool.not_eq_true']at d;refine⟨i*64+k,?_,?_⟩
  ·unfold Q8;rw[h,j];simp only[List.getD,dM4 (show i<c.length by omega),dR9];exact d.1
  ·unfold Q8;rw[h,j];simp only[List.getD,dM4 (show i<b.length by omega),dR9];exact d.2.2
 ·rintro⟨f,a,g⟩;have n:f / 64<c.length:=by
   refine dV4 λl=>?_;unfold Q8 at a;simp only[List.getD,dV0 (show c.length<=f / 64 by omega),Option.getD_none]at a;simp at a
  refine⟨true,?_,rfl⟩;refine dT0.2 ⟨f / 64,by simp;omega,?_⟩;rw[List.getElem_zipWith];simp only[bne_iff_ne,ne_eq];intro e;unfold Q8 at a g;simp only[List.getD,dM4 n,dM4 (show f / 64<b.length by omega),dR9]at a g;have:=dO2 (λx:W=>x.getLsbD (f % 64)) e;simp only[BitVec.getLsbD_and,BitVec.getLsbD_not,a,g]at this;simp at this;omega
def bN1{b c:List W}(a:b.length=c.length):(orB b c).length=b.length:=by simp[orB,a]
def dT7:=@Bool.true_and
def bR4:Value->Option Bool
 | .bool b=>some b
 | _=>none
theorem dD9{b:Bool}:bR4 (.bool b)=some b:=rfl
theorem dE0:bR4 undef=none:=rfl
theorem dm1{ops:Array Oper}{f:Fr}{j:Nat}:aO3 ops f j=match cL6 ops j with|some d=>bR4 (f d)|none=>none:=by
 unfold aO3 cL6;cases(ops[j]?).bind (·.dst)with
 | none=>rfl
 | some d=>
  show(match f d with | .bool b=>some b|_=>none)=bR4 (f d);unfold bR4;cases f d<;>rfl
def dK2{P:Program}{ops:Array Oper}{l:List Oper}{K:Fr->World->Prop}{f:Fr}{w:World}{d:Option Nat}{op:Op}{ty:TypeId}{c:String}{a:Array Edge}{j:Nat}{b:Bool}:
  Rn P ops (⟨d,op,ty,c,a,some (j,b)⟩::l) K f w =
   if aO3 ops f j=some b then B1 P none ⟨d,op,ty,c,a,none⟩ (Rn P ops l K) f w else Rn P ops l K (C4 f d undef) w:=propext dU5
def dC1{P:Program}{Q:Exit->Fr->World->Prop}{f:Fr}{w:World}{id:Nat}{ops:Array Oper}:CW P (.region id ops false) Q f w=Rn P ops ops.toList (Q .normal) f w:=propext dU5
def dC6{P:Program}{ops:Array Oper}{K:Fr->World->Prop}{f:Fr}{w:World}:Rn P ops [] K f w=K f w:=propext dU5
def dG2{P:Program}{ops:Array Oper}{l:List Oper}{K:Fr->World->Prop}{f:Fr}{w:World}{d:Option Nat}{op:Op}{ty:TypeId}{b:String}{a:Array Edge}:
  Rn P ops (⟨d,op,ty,b,a,none⟩::l) K f w=B1 P none ⟨d,op,ty,b,a,none⟩ (Rn P ops l K) f w:=propext dU5
def dJ1{K:Fr->World->Prop}{f:Fr}{d:Option Nat}{w:World}{v:Value}:ah2 (.ok v w) K f d=K (C4 f d v) w:=propext dU5
def dJ2{K:Fr->World->Prop}{f:Fr}{d:Option Nat}{w:World}{v:Unit}:bd5 (.ok v w) K f d=K (C4 f d undef) w:=propext dU5
def bd1(h:Hp){α:Type}[A4 α]:R h (.slice none 0 0) ([]:List α):=⟨none,0,0,rfl,rfl,dO0 _,[],rfl,λj u a=>by simp at a⟩
section
variable {P:Program} {t:TypeId}
def bx7(b:Array UInt8):(.string ⟨b⟩:Value)=p6 (ofA b):=by
 simp[p6,ofA]
def dC9{a:A6}{b:Array UInt8}:B4 P .eql t (p6 a) (.string ⟨b⟩)=some (.bool (decide (a=ofA b))):=by
 rw[bx7,co4]
def dD6{a:A6}{b:Array UInt8}:B4 P .neq t (p6 a) (.string ⟨b⟩)=some (.bool (!decide (a=ofA b))):=by
 rw[bx7,cY4]
def chr(s:A6)(i:Nat):Option UInt8:=s.b[i]?
def dl1(l:List UInt8)(i:Nat):(⟨l.toArray⟩:ByteArray)[i]?=l[i]?:=by
 by_cases h:i<l.length
 ·rw[getElem?_pos (⟨l.toArray⟩:ByteArray) i (by show i<l.toArray.size;simpa using h),ByteArray.getElem_eq_getElem_data];simp[h]
 ·rw[getElem?_neg (⟨l.toArray⟩:ByteArray) i (by show ¬i<l.toArray.size;simpa using h)];simp[h]
def dh4{s:A6}{k:IntKind}{i:Nat}{c:UInt8}(h:bO4 P t=true)(b:bJ2 P t=none)(d:chr s i=some c):M9 P t (p6 s) (.int k (i:Int))=some (.int .u8 (c.toNat:Int)):=by
 have a:(⟨s.b.toArray⟩:ByteArray)[i]?=some c:=(dl1 s.b i).trans d;simp only[M9,b,p6,h,dT7,dP0,a,dS5,dH2,dS6]
def dH3{v:Value}(a:(M0 P t).isSome=true)(b:isS v=true):N7 P t v=some (.int .i64 (vlen v:Nat)):=by
 simp only[N7,a,b,dS6]
def dD4{a b:Int}:B4 P .lss t (.int .i64 a) (.int .i64 b)=some (.bool (decide (a<b))):=by simp[B4,E5]
def dD3{a b:Int}:B4 P .leq t (.int .i64 a) (.int .i64 b)=some (.bool (decide (a<=b))):=by simp[B4,E5]
def dD2{a b:Int}:B4 P .gtr t (.int .i64 a) (.int .i64 b)=some (.bool (decide (b<a))):=by simp[B4,E5]
def dD1{a b:Int}:B4 P .geq t (.int .i64 a) (.int .i64 b)=some (.bool (decide (b<=a))):=by simp[B4,E5]
theorem dD0{a b:Int}:B4 P .eql t (.int .i64 a) (.int .i64 b)=some (.bool (decide (a=b))):=by simp[B4,E5];rfl
theorem dD7{a b:Int}:B4 P .neq t (.int .i64 a) (.int .i64 b)=some (.bool (!decide (a=b))):=by simp[B4,E5];rfl
def dC8{a b:Int}:B4 P .add t (.int .i64 a) (.int .i64 b)=some (.int .i64 (IntKind.i64.wrap (a+b))):=by simp[B4,E5]
def dD8{a b:Int}:B4 P .sub t (.int .i64 a) (.int .i64 b)=some (.int .i64 (IntKind.i64.wrap (a-b))):=by simp[B4,E5]
def dt5{a b:Int}:B4 P .leq t (.int .u8 a) (.int .u8 b)=some (.bool (decide (a<=b))):=by simp[B4,E5]
def dt4{a b:Int}:B4 P .geq t (.int .u8 a) (.int .u8 b)=some (.bool (decide (b<=a))):=by simp[B4,E5]
def dK0{b:Bool}:unV .not (.bool b)=some (.bool (!b)):=by simp[unV]
def aU1{a:Option Addr}{op:BinOp}(b:op = .eql)(h:eqT P t=2):B4 P op t (.pointer a) (.pointer none)=some (.bool a.isNone):=by
 subst b;simp[B4,h]
end
def dZ9:=@Nat.le_of_not_lt
def aV5{w:World}{b:Nat}(h:w.heap.size<=b):i4 w b=none:=by
 show w.heap[b]?=none;simp[h]
def D0{w:World}{b:Nat}(h:i4 w b=none):w.heap.size<=b:=dZ9 λa=>by simp[i4,a]at h
theorem X8{v:Value}(h:isS v=true):v.oneCell'=true:=by
 cases v<;>simp[isS]at h;rfl
theorem E3{v:Value}(h:isS v=true):v.cells=#[v]:=by
 cases v<;>simp[isS]at h;rfl
section
variable {P:Program} {h:Hp} {w:World} {t T:TypeId} {v:Value}
def E2{a i:Nat}{cs:Array Value}{u:Value}(b:w.heap[a]?=some (.cells cs T (0,0)))(d:cs[i]?=some u)(c:I7 P t=false):(Instr.loadAt t (.pointer (some ⟨a,i,none⟩))).run P w = .ok u w:=
 S3 c (by rw[dU3 w a i cs T (0,0) b];exact d)
def ag5{a i:Nat}{cs:Array Value}{x:Value}(g:w.heap[a]?=some (.cells cs T (0,0)))(k:i<cs.size)(m:x.cells=#[x])(j:x.oneCell'=true){e:TypeInfo}(d:P.info? t=some e)(l:e.size=1):
  ∃h,(Instr.storeAt t (.pointer (some ⟨a,i,none⟩)) x).run P w = .ok () h/\h.heap[a]?=some (.cells (cs.setIfInBounds i x) T (0,0))/\o9 (λb=>b=a) w h:=by
 have c:w.cell? ⟨a,i,.none⟩=some cs[i]:=by rw[dU3 w a i cs T (0,0) g,dV8 k]
 have f:w.frozen? ⟨a,i,.none⟩=false:=frozen_of_row w a i cs T g;exact⟨_,aP2 (P:=P) (t:=t) d l m j c f,heap_setCell_same w a i cs T x g,o9.setCell _ _ _ rfl⟩
def ak3{c:Nat}{a cs:Array Value}(h:w.heap[c]?=some (.cells a T (0,0))){z:Value}(m:G8 P T=some z)(d:a.size=L9 P T)(f:cs.size=L9 P T)(k:∀u∈cs.toList,u.oneCell'=true):
  ∃g,(Instr.storeAt T (.pointer (some ⟨c,0,none⟩)) (.agg cs)).run P w = .ok () g/\g.heap[c]?=some (.cells cs T (0,0))/\o9 (λb=>b=c) w g:=by
 obtain⟨i,j,l⟩:=z7 m;have e:=run_storeCells_from (P:=P) c T cs.toList 0 a w h (by simp[f,d]) k;simp only[dX3,dX5,Array.toArray_toList]at e;refine⟨_,?_,setRow_heap w c a cs T (0,0) h,o9.setRow _ _ _ rfl⟩;unfold Instr.storeAt storeVar;simp only[Instr.sureAddr,dO9,dQ4,dO1,sizeOf,M5,j,Value.cells];rw[D9 j]at f;simp only[f,ne_eq,not_true_eq_false,dU1];exact e
def ag4{b:Nat}{cs:Array Value}(d:w.heap[b]?=some (.cells cs T (0,0)))(h:I7 P T=true)(i:(P.underlying T).isSome=true)(e:(P.info? T).isSome=true)(g:L9 P T=cs.size):
  (Instr.loadAt T (.pointer (some ⟨b,0,none⟩))).run P w = .ok (.agg cs) w:=by
 have:=bt5 (P:=P) (w:=w) (a:=⟨b,0,none⟩) (cs:=cs.toList) h i e (by simpa using g) λj u f=>by
  have c:(⟨b,0,.none⟩:Addr).add j=⟨b,j,.none⟩:=by unfold Addr.add;split<;>simp_all
  rw[c,dU3 w b j cs T (0,0) d];simpa using f
 simpa using this
def M7{b:Func}{R:Value->World->Prop}{f:Fr}{a:Nat}{ty:TypeId}{ad:Addr}(h:b.results=#[.cell a ty])(d:f a = .pointer (some ad))(e:(Instr.loadAt ty (.pointer (some ad))).run P w = .ok v w)(c:R v w):bz0 P b R .ret f w:=by
 refine⟨[v],?_,c⟩;rw[h];refine⟨?_,trivial⟩;show(do loadVar ty (<-asAddr (f a)):Sem Value).run P w = .ok v w;rw[d];exact e
def cM3{h:Hp}{w:World}{N:Nat->Prop}(hw:B5 h (i4 w))(hN:∀b,N b->h b=none):B5 h (B6 w N):=λb o e=>by
 have c:¬N b:=λa=>by rw[hN b a]at e;cases e
 rw[D8 c];exact hw b o e
def E1{w a:World}{N:Nat->Prop}(hm:o9 N w a):B5 (B6 w N) (i4 a):=H5 (B2 w N) hm λb c=>F2 c
def bV0{w a:World}{N:Nat->Prop}(hm:o9 N w a)(hN:∀b,N b->b<w.heap.size):B5 (B6 w N) (B6 a N):=I9 hm (λb h=>h) λb h=>.inl h
section
variable {α:Type} [A4 α] {x:α} {N:Nat->Prop}
def dB2(hv:SV h v x)(hw:B5 h (B6 w N))(hN:∀b,N b->b<w.heap.size){z:Value}(p:G8 P T=some z)(d:z.cells.size=L9 P T)(o:L9 P T=A4.sz α):
  ∃a g e,(Instr.alloc T true (.tuple #[])).run P w = .ok (.pointer (some a)) g/\(Instr.storeAt T (.pointer (some a)) v).run P g = .ok () e/\o7 w e/\At (B6 e N) a x:=by
 obtain⟨cs,rfl,c⟩:=hv;obtain⟨i,k⟩:=aJ0 (P:=P) (w:=w) (T:=T) p d (cs:=List.toArray cs) (by simpa[o]using A4.len c) (by simpa using A4.one c);have f:=o7.alloc w (.cells (List.toArray cs) T);refine⟨_,_,_,i,k,f,cs,A4.mono (t8 hw (bV0 (f.weaken λ_ _ h=>h.elim) hN)) c,λj u m=>?_⟩;have n:¬N w.heap.size:=λl=>by have:=hN _ l;omega
 have:L3 (i4 (w.alloc (.cells (List.toArray cs) T))) ((⟨w.heap.size,0,none⟩:Addr).add j)=some u:=by
  rw[<-ak4,add_lit,dQ2,dY2];simpa using m
 rw[add_lit]at this ⊢;unfold L3 at *;simp only at *;rw[D8 n];exact this
end
end
section
variable {P:Program}
def E0{k:Nat}{args:List Value}{w:World}{K:Fr->World->Prop}{f:Fr}{d:Option Nat}{v:Value}
  (h:Calls P k args.toArray w λe a=>∃u,e = .returned u/\(u=v/\a=w)) (b:K (C4 f d v) w) (hb:ak6 P k=true:=by kernel_rfl):ax0 P k args w K f d:=
 y5 h (λu a ⟨c,g⟩=>by rw[c,g];exact b) hb
def B9{k:Nat}{args:List Value}{w:World}{K:Fr->World->Prop}{f:Fr}{d:Option Nat}{v:Value}
  (h:Calls P k args.toArray w λe a=>∃u,e = .returned u/\(u=v/\o7 w a)) (b:∀a,o7 w a->K (C4 f d v) a) (hb:ak6 P k=true:=by kernel_rfl):ax0 P k args w K f d:=
 y5 h (λu a ⟨c,g⟩=>by rw[c];exact b a g) hb
end
section
variable {P:Program} {t T:TypeId}
def bx4(g o:Nat):∀(f:List Value) (i:Nat) (a:Array Value) (w:World),w.heap[g]?=some (.cells a T (0,0))->o+i+f.length<=a.size->(∀v∈f,v.oneCell'=true) ->
  ∃j,(storeCells ⟨g,o,none⟩ f i).run P w = .ok () j/\j.heap[g]?=some (.cells (a.toList.take (o+i)++f++a.toList.drop (o+i+f.length)).toArray T (0,0))/\o9 (λb=>b=g) w j
 | [],i,a,w,hg,hl,_=>by
  refine⟨w,rfl,?_,o9.refl _⟩;simp only[dP8,dT9,Nat.add_zero,dR8,Array.toArray_toList];exact hg
 | v::rest,i,a,w,hg,hl,h1=>by
  simp only[dP4]at hl;have r:o+i<a.size:=by omega
  have d:(⟨g,o,none⟩:Addr).add i=⟨g,o+i,none⟩:=add_lit g o i;have c:w.cell? ⟨g,o+i,none⟩=some a[o+i]:=by rw[dU3 w g (o+i) a T (0,0) hg,dV8 r]
  have e:w.frozen? ⟨g,o+i,none⟩=false:=frozen_of_row w g (o+i) a T hg;have k:(store ((⟨g,o,none⟩:Addr).add i) v).run P w = .ok () (w.setCell ⟨g,o+i,none⟩ v):=by
   rw[d,run_store P w _ v _ (h1 v (by simp)),c];simp[e]
  obtain⟨j,n,p,q⟩:=bx4 g o rest (i+1) (a.setIfInBounds (o+i) v) (w.setCell ⟨g,o+i,none⟩ v) (heap_setCell_same w g (o+i) a T v hg) (by simp;omega) (λx s=>h1 x (by simp[s]));refine⟨j,?_,?_,(o9.setCell (M:=λb=>b=g) w ⟨g,o+i,none⟩ v rfl).trans q⟩
  ·simp only[storeCells,dO9,k,dO1,n]
  ·rw[p]
   congr 3
   have l:a.toList.length=a.size:=by simp
   simp only[Array.toList_setIfInBounds,dP4];rw[show o+(i+1)=o+i+1 by omega,List.take_set,dN3 (by omega),List.set_append_right (h:=by simp;omega)];have m:o+i-(a.toList.take (o+i)).length=0:=by simp;omega
   rw[m,List.drop_set_of_lt (by omega)];simp[dP5,dW3,Nat.add_comm 1]
def co5{w:World}{c o:Nat}{a:Array Value}{cs:List Value}(l:w.heap[c]?=some (.cells a T (0,0)))(p:o+cs.length<=a.size)(g:∀u∈cs,u.oneCell'=true)(m:(P.info? t).isSome=true)(n:L9 P t=cs.length):
  ∃e,(Instr.storeAt t (.pointer (some ⟨c,o,none⟩)) (.agg (List.toArray cs))).run P w = .ok () e/\e.heap[c]?=some (.cells (a.toList.take o++cs++a.toList.drop (o+cs.length)).toArray T (0,0))/\o9 (λb=>b=c) w e:=by
 obtain⟨e,h,j,k⟩:=bx4 (P:=P) c o cs 0 a w l (by omega) g;refine⟨e,?_,j,k⟩;obtain⟨i,d⟩:=dS1.1 m;have f:i.size=cs.length:=by rw[<-n,D9 d]
 unfold Instr.storeAt storeVar;simp only[Instr.sureAddr,dO9,dQ4,dO1,sizeOf,M5,d,Value.cells,f];simp only[dW4,ne_eq,not_true_eq_false,dU1];exact h
end
def K7(k:Hp)(a:Addr)(v:Value):Prop:=∃b,v = .agg (List.toArray b)/\∀j u,b[j]?=some u->L3 k (a.add j)=some u
def ag2{c d:List Value}(h:(Value.agg (List.toArray c)) = .agg (List.toArray d)):d=c:=by
 simp only[Value.agg.injEq]at h;have:=dO2 Array.toList h;simpa using this.symm
section
variable {α:Type} [A4 α] {h k:Hp} {v:Value} {x:α} {P:Program} {t T:TypeId} {w:World} {a:Addr} {N:Nat->Prop}
def K7.mono{b:Hp}(g:B5 k b):K7 k a v->K7 b a v:=λ⟨c,e,d⟩=>⟨c,e,λj u f=>H2 g (d j u f)⟩
def aT9{b c:List Value}(d:∀j u,b[j]?=some u->L3 k (a.add j)=some u){o:Nat}(f:∀j u,c[j]?=some u->b[o+j]?=some u):K7 k (a.add o) (.agg (List.toArray c)):=
 ⟨c,rfl,λj u e=>by rw[Addr.add_add'];exact d _ _ (f j u e)⟩
def bB4{b c:List Value}(d:∀j u,b[j]?=some u->L3 k (a.add j)=some u)(e:∀j u,c[j]?=some u->b[0+j]?=some u):K7 k a (.agg (List.toArray c)):=by
 have:=aT9 d e
 rwa [L7]at this
def K7.whole(o:K7 k a v)(hv:SV h v x)(z:I7 P t=true)(A:(P.underlying t).isSome=true)(r:(P.info? t).isSome=true)(y:L9 P t=A4.sz α):
  (∀w,B5 k (i4 w)->(Instr.loadAt t (.pointer (some a))).run P w = .ok v w)/\(∀(S:World->Prop) (m:World),S m->(∀w,S w->B5 k (i4 w))->∀K f d w,F3 P S (Instr.loadAt t (.pointer (some a))) K f d w=K (C4 f d v) w):=by
 obtain⟨B,rfl,p⟩:=o;obtain⟨b,e,q⟩:=hv;obtain rfl:=ag2 e;have i:∀w,B5 k (i4 w)->(Instr.loadAt t (.pointer (some a))).run P w = .ok (.agg (List.toArray b)) w:=λw c=>bt5 z A r (by rw[y,A4.len q]) λj u s=>H2 c (p j u s);exact⟨i,λS m n c K f d w=>B7 n λl g=>i l (c l g)⟩
def bJ3{w:World}{cs:List Value}(hN:∀b,N b->b<w.heap.size):K7 (B6 (w.alloc (.cells (List.toArray cs) T)) N) ⟨w.heap.size,0,none⟩ (.agg (List.toArray cs)):=by
 refine⟨cs,rfl,λj u c=>?_⟩;have d:¬N w.heap.size:=λa=>by have:=hN _ a;omega
 have:L3 (i4 (w.alloc (.cells (List.toArray cs) T))) ((⟨w.heap.size,0,none⟩:Addr).add j)=some u:=by
  rw[<-ak4,add_lit,dQ2,dY2];simpa using c
 rw[add_lit]at this ⊢;unfold L3 at *;simp only at *;rw[D8 d];exact this
def cd9(hv:SV h v x)(hN:∀b,N b->b<w.heap.size):∃a c,(Instr.box T v).run P w = .ok (.pointer (some a)) c/\o7 w c/\K7 (B6 c N) a v:=by
 obtain⟨d,rfl,e⟩:=hv;exact⟨⟨w.heap.size,0,none⟩,w.alloc (.cells (List.toArray d) T),rfl,o7.alloc w _,bJ3 hN⟩
def cm7(hv:SV h v x)(hN:∀b,N b->b<w.heap.size){z:Value}(k:G8 P T=some z)(c:z.cells.size=L9 P T)(j:L9 P T=A4.sz α):
  ∃a f d,(Instr.alloc T true (.tuple #[])).run P w = .ok (.pointer (some a)) f/\(Instr.storeAt T (.pointer (some a)) v).run P f = .ok () d/\o7 w d/\K7 (B6 d N) a v:=by
 obtain⟨cs,rfl,e⟩:=hv;obtain⟨g,i⟩:=aJ0 (P:=P) (w:=w) (T:=T) k c (cs:=List.toArray cs) (by simpa[j]using A4.len e) (by simpa using A4.one e);exact⟨_,_,_,g,i,o7.alloc w _,bJ3 hN⟩
end
def o9.chain{M N:Nat->Prop}{a b c:World}(h:o9 M a b)(k:o9 N b c)(hN:∀i,i<a.heap.size->N i->M i):o9 M a c:=
 ⟨k.os.trans h.os,k.tape.trans h.tape,k.output.trans h.output,dN1 h.size k.size,λi d hm=>(k.block i (dS9 d h.size) λe=>hm (hN i d e)).trans (h.block i d hm)⟩
def o9.up{M:Nat->Prop}{a b:World}(h:o7 a b):o9 M a b:=h.weaken λ_ _ h=>h.elim
section
variable {P:Program} {w:World} {h:Hp} {t T sz by_:Nat} {v:Value}
def ae4{α:Type}[A4 α]{e:TypeId}(U:F4 P t T sz by_=true)(s:A4.sz α=sz){xs ys:List α}(r:A8 h w T v xs){u:Value}(V:R h u ys)
  (hl:xs.length+ys.length<=1000000000000) (hb:(xs.length+ys.length)*by_<=140737488355328) (hw:B5 h (i4 w)) :
  ∃C D,(Builtin.append_ #[t,t] e #[v,u]).run P w = .ok C D/\A8 h D T C (xs++ys)/\o9 (A3 v) w D/\F0 w v C:=by
 obtain⟨K,⟨z,W,B⟩,L,M,Z,h6⟩:=S5 U;obtain⟨i,g,o⟩:=z7 W;have m:i.bytes=by_:=by rw[<-M,ax7 g]
 have k:i.size=sz:=by rw[<-L,D9 g]
 obtain⟨a,n,c,F,G,Q,l,f,d⟩:=V;simp at F;subst F;have y:=N4 K;by_cases hy:ys=[]
 ·subst hy;refine⟨v,w,?_,by simpa using r,o9.refl _,λb hb=>.inl hb⟩;have p:n=0:=by simpa using G
  subst p;rcases r with⟨rfl,rfl⟩|⟨b,Y,I,rfl,k1,k2,X,k4,k5,k6⟩
  ·cases a<;>simp[Builtin.append_,run_underlying y,sizeOf,typeInfo,g,Builtin.lenOf,Builtin.firstCells,loadCells,loadCellsFrom]
  ·cases a<;>simp[Builtin.append_,run_underlying y,sizeOf,typeInfo,g,Builtin.lenOf,Builtin.firstCells,loadCells,loadCellsFrom,X,storeCells]
 ·have q:l≠[]:=by
   intro e;have:=M2 f;rw[e]at this;have S:0<ys.length:=List.length_pos_iff.2 hy;have:=A4.pos (α:=α);have:=Nat.mul_pos S this;simp at *;omega
  obtain⟨E,A⟩:∃E,l[0]?=some E:=by
   cases l with
   | nil=>exact absurd rfl q
   | cons x _=>exact⟨x,rfl⟩
  obtain⟨ad,rfl,_⟩:=d 0 E A;exact aR7 (e:=e) y g o (by rw[k,s]) (by rw[B,k]) r (ad:=ad) G f (λj u O=>by
   obtain⟨H,J,N⟩:=d j u O;obtain rfl:=dO3 J;exact H2 hw N) hy (by simp only[maxLen];omega) (by rw[m];exact hb) hw
theorem dv7{α:Type}[A4 α](j:F4 P t T sz by_=true)(hw:B5 h (i4 w)):
  ∃v a,(Instr.buildSlice t 0 #[]).run P w = .ok v a/\A8 h a T v ([]:List α)/\o7 w a/\(∀b,A3 v b->w.heap.size<=b):=by
 obtain⟨c,⟨z,k,l⟩,m,n,o,p⟩:=S5 j;obtain⟨i,e,f⟩:=z7 k;refine⟨.slice (some ⟨w.heap.size,0,none⟩) 0 0,w.alloc (.cells #[] T),?_,.inr ⟨w.heap.size,0,#[],rfl,aB8 hw (dO0 _),dQ5 w _,by simp,by simp,by simp,by simp[O3]⟩,o7.alloc _ _,λb d=>by simp[A3,Value.ownBlock]at d;omega⟩;unfold Instr.buildSlice;simp only[dO9,G6,N4 c,dO1,P8 (show(P.info? T).isSome=true by rw[e];rfl),Sem.run_ite,Nat.zero_mul,dQ4];rw[if_neg (by decide),if_pos trivial];have e0:∀(g:Nat->Value),(Array.range 0).map g=#[]:=λg=>by simp
 simp only[e0,Instr.fill];rfl
end
section
variable {P:Program} {h k:Hp} {w:World} {t T sz by_:Nat} {v u:Value}
def am3{α:Type}[I4 α]{e:TypeId}(I:F4 P t T 1 by_=true){xs ys:List α}(H:A8 h w T v xs)(J:R k u ys)(U:B5 k (i4 w))(o:xs.length+ys.length<=1000000000000)(hb:(xs.length+ys.length)*by_<=140737488355328)(hw:B5 h (i4 w)):
  ∃E F,(Builtin.append_ #[t,t] e #[v,u]).run P w = .ok E F/\A8 h F T E (xs++ys)/\o9 (A3 v) w F/\F0 w v E:=by
 obtain⟨M,⟨z,V,D⟩,N,O,W,X⟩:=S5 I;obtain⟨i,q,r⟩:=z7 V;have p:i.bytes=by_:=by rw[<-O,ax7 q]
 have g:i.size=1:=by rw[<-N,D9 q]
 by_cases hy:ys=[]
 ·subst hy;obtain⟨a,n,c,m,y,f,l,d,b⟩:=J;have B:R h u ([]:List α):=⟨a,n,c,m,y,f,[],rfl,λj u s=>by simp at s⟩;exact ae4 I rfl H B o hb hw
 ·obtain⟨a,n,c,m,y,f,l,d,b⟩:=J;simp at m;subst m;have A:l≠[]:=by
   intro e;have:=M2 d;rw[e]at this;have Y:0<ys.length:=List.length_pos_iff.2 hy;have Q:(A4.sz α)=1:=rfl;rw[Q]at this;simp at this;omega
  obtain⟨G,C⟩:∃G,l[0]?=some G:=by
   cases l with
   | nil=>exact absurd rfl A
   | cons x _=>exact⟨x,rfl⟩
  obtain⟨ad,rfl,_⟩:=b 0 G C;exact aR7 (e:=e) (N4 M) q r (by rw[g];rfl) (by rw[D,g]) H (ad:=ad) y (bc2 d) (λj u s=>by
   obtain⟨K,L,S⟩:=b j u s;obtain rfl:=dO3 L;exact H2 U S) hy (by simp only[maxLen];omega) (by rw[p];exact hb) hw
end
section
variable {P:Program} {K:Fr->World->Prop} {f:Fr} {w:World} {d:Option Nat} {ty:TypeId} {pos:String} {aft:Array Edge} {S:World->Prop}
def bp4(P:Program)(g:Value)(args:List Value)(w:World)(K:Fr->World->Prop)(f:Fr)(d:Option Nat):Prop:=match g with
 | .func (.func k) first cap=>ax0 P k (first.toList++args++cap.toList) w K f d
 | _=>False
def du6{k:Nat}{first a:Array Value}{args:List Value}:bp4 P (.func (.func k) first a) args w K f d=ax0 P k (first.toList++args++a.toList) w K f d:=propext dU5
def dx0{j:Nat}{a:Array Operand}{b:Array TypeId}:B1 P none ⟨d,.call {callee:=.value (.tmp j),args:=a,argTypes:=b},ty,pos,aft,none⟩ K f w=bp4 P (f j) (a.toList.map (ev f)) w K f d:=by
 simp only[B1,av3,ab9,bl8,ev,aO9,bp4]
 all_goals (generalize f j=g;cases g<;>try rfl)
def dw7{j:Nat}{a:Array Operand}{b:Array TypeId}:B1 P (some S) ⟨d,.call {callee:=.value (.tmp j),args:=a,argTypes:=b},ty,pos,aft,none⟩ K f w=bp4 P (f j) (a.toList.map (ev f)) w (E8 S K) f d:=by
 simp only[B1,av3,ab9,bl8,ev,aO9,bp4]
 all_goals (generalize f j=g;cases g<;>try rfl)
end
def du9{P:Program}{b d:Code}{Q:Exit->Fr->World->Prop}{f:Fr}{w:World}(a:List Nat)(I:Fr->World->Prop)(k:a.all (λi=>!(wrC b).contains i)=true)
  (l:CW P b (af8 I Q) f w) (m:∀c g,(∀i∈a,c i=f i)->I c g->CW P d Q c g):CW P (.seq b d) Q f w:=by
 rw[bn7];refine cF6 b (af8 I Q) _ f w (λe c g n h=>?_) l;have j:∀i∈a,c i=f i:=λi o=>n i λhm=>by
  have:=dW0.1 k i o;simp[hm]at this
 cases e
 case normal=>exact m c g j h
 all_goals exact h
def dY3:=@Array.getElem?_toList
def dX7:=@Bool.eq_false_iff
def dZ4:=@Bool.false_or
def dZ5:=@List.ext_getElem?
def dW5:=@List.find?_eq_none
def dP9:=@List.getElem?_map
def dT4:=@List.getElem_map
def dN5:=@List.getElem_mem
def dO7:=@List.mem_map
def dP1:=@List.mem_singleton
def dR0:=@List.nodup_append
def dT5:=@List.pairwise_iff_getElem
def N1(kv:List (A6×Value))(k:A6):Option Value:=(kv.find? λp=>decide (p.1=k)).map (·.2)
def aK0(kv:List (A6×Value))(k:A6)(v:Value):List (A6×Value):=if kv.any λp=>decide (p.1=k)then kv.map λp=>if p.1=k then(p.1,v)else p else kv++[(k,v)]
def aO2(w:World)(r:Nat)(kv:List (A6×Value)):Prop:=∃b a,w.heap[r]?=some (.map b a)/\b.toList.map (λe=>(e.key,e.val))=kv.map (λp=>(p6 p.1,p.2))/\(kv.map (·.1)).Nodup/\(∀x∈b.toList,x.born<a)/\(b.toList.map (·.born)).Nodup
def cS0{a b:A6}(h:p6 a=p6 b):a=b:=by
 unfold p6 at h;simp only[Value.string.injEq,ByteArray.mk.injEq]at h;have:=dO2 Array.toList h;cases a;cases b;simpa using this
section
variable {P:Program} {w:World} {t k e:TypeId} {r:Nat} {kv:List (A6×Value)}
def aO2.lt(hm:aO2 w r kv):r<w.heap.size:=by
 obtain⟨a,c,h,_⟩:=hm;exact(dN0.1 h).1
def aO2.mod{M:Nat->Prop}{b:World}(hm:aO2 w r kv)(h:o9 M w b)(g:¬M r):aO2 b r kv:=by
 have a:=hm.lt;obtain⟨d,c,e,f⟩:=hm;exact⟨d,c,(h.block r a g).trans e,f⟩
theorem aO2.new(w:World)(t:TypeId):(Instr.makeMap t none).run P w = .ok (.map (some w.heap.size)) (w.alloc (.map #[] 0))/\aO2 (w.alloc (.map #[] 0)) w.heap.size []/\o7 w (w.alloc (.map #[] 0)):=by
 refine⟨?_,⟨#[],0,dQ5 w _,rfl,by simp,by simp,by simp⟩,o7.alloc _ _⟩;unfold Instr.makeMap;rfl
def aI0{d:TypeDesc}(o:d = .string)(s:A6):∀(l:List MapEntry) (kv:List (A6×Value)) (i:Nat),l.map (λe=>(e.key,e.val))=kv.map (λp=>(p6 p.1,p.2)) ->
  (N1 kv s=none/\(kv.any λp=>decide (p.1=s))=false/\Instr.findNow d (p6 s) l i=some none) \/
  ∃j v,kv[j]?  = some (s,v)/\N1 kv s=some v/\(kv.any λp=>decide (p.1=s))=true/\Instr.findNow d (p6 s) l i=some (some (i+j,v))
 | [],kv,i,h=>by
  have:kv=[]:=by simpa using h.symm
  subst this;exact .inl ⟨rfl,rfl,rfl⟩
 | e::l,[],i,h=>by simp at h
 | e::l,p::kv,i,h=>by
  obtain⟨b,t⟩:=p;obtain⟨r,ev,q⟩:=e;simp only[dQ8,dZ3,Prod.mk.injEq]at h;obtain⟨⟨rfl,rfl⟩,m⟩:=h;subst o;have k:Instr.sameNow .string (p6 s) (p6 b)=some (decide (b=s)):=by
   have:=MapKept.bytes_beq ⟨s.b.toArray⟩ ⟨b.b.toArray⟩;simp only[Instr.sameNow,p6]
   congr 1
   rw[dY0,this,decide_eq_true_iff];constructor
   ·intro e;exact(cS0 (by unfold p6;rw[e])).symm
   ·rintro rfl;rfl
  by_cases hp:b=s
  ·subst hp;refine .inr ⟨0,ev,by simp,by simp[N1],by simp,?_⟩;simp only[Instr.findNow,k,decide_true];rfl
  ·have a:decide (b=s)=false:=by simp[hp]
   rcases aI0 rfl s l kv (i+1) m with⟨c,f,g⟩|⟨j,v,c,f,g,n⟩
   ·refine .inl ⟨by unfold N1 at *;rw[List.find?_cons,a];exact c,by rw[List.any_cons,a,f];rfl,?_⟩;simp only[Instr.findNow,k,a];exact g
   ·refine .inr ⟨j+1,v,by simpa using c,by unfold N1 at *;rw[List.find?_cons,a];exact f,by rw[List.any_cons,g];simp,?_⟩;simp only[Instr.findNow,k,a,n]
    congr 3;omega
theorem aO2.lookup(hm:aO2 w r kv)(p:P.underlying t=some (.map k e))(f:P.underlying k=some .string){z:Value}(y:G8 P e=some z)(s:A6):
  (Instr.lookup t (.map (some r)) (p6 s) false).run P w = .ok ((N1 kv s).getD z) w:=by
 obtain⟨h,c,l,q,A,_⟩:=hm;obtain⟨i,x,d⟩:=z7 y;have a:=MapKept.run_checkKey (P:=P) (w:=w) (k:=p6 s) f (show MapKept.IsKey .string (p6 s)from trivial) h.isEmpty 9999;have g:(zeroValue e).run P w = .ok z w:=by
  unfold zeroValue;simp[M5,x,d]
 rcases aI0 rfl s h.toList kv 0 q with⟨m,n,o⟩|⟨j,v,m,n,o,u⟩
 ·have b:=MapKept.run_findKey (P:=P) (w:=w) f o;unfold Instr.lookup;simp only[dO9,run_underlying p,dO1,MapKept.run_getObj_map l,dQ4,a,b,g,m,Option.getD_none];rfl
 ·have b:=MapKept.run_findKey (P:=P) (w:=w) f u;unfold Instr.lookup;simp only[dO9,run_underlying p,dO1,MapKept.run_getObj_map l,dQ4,a,b,n,dR9];rfl
def bn4(w:World)(r:Nat)(o:Obj):o9 (λb=>b=r) w {w with heap:=w.heap.setIfInBounds r o}:=
 ⟨rfl,rfl,rfl,by simp,λb c a=>by rw[Array.getElem?_setIfInBounds_ne (λe=>a e.symm)]⟩
def aO2.update(hm:aO2 w r kv)(W:P.underlying t=some (.map k e))(O:P.underlying k=some .string)(s:A6)(v:Value):
  ∃T,(Instr.mapUpdate t (.map (some r)) (p6 s) v).run P w = .ok () T/\aO2 T r (aK0 kv s v)/\o9 (λb=>b=r) w T:=by
 obtain⟨f,c,m,E,K,F,V⟩:=hm;have u:=MapKept.run_checkKey (P:=P) (w:=w) (k:=p6 s) O (show MapKept.IsKey .string (p6 s)from trivial) false 9999;have B:=(dN0.1 m).1;rcases aI0 rfl s f.toList kv 0 E with⟨G,H,I⟩|⟨j,v0,G,H,I,X⟩
 ·have J:=MapKept.run_findKey (P:=P) (w:=w) O I;refine⟨{w with heap:=w.heap.setIfInBounds r (.map (f.push ⟨p6 s,v,c⟩) (c+1))},?_,⟨f.push ⟨p6 s,v,c⟩,c+1,by simp[B],?_,?_,?_,?_⟩,bn4 w r _⟩
  ·unfold Instr.mapUpdate;simp only[dO9,run_underlying W,dO1,MapKept.run_getObj_map m,u,J];exact MapKept.run_setObj_map _ m
  ·rw[aK0,if_neg (by rw[H];simp),Array.toList_push,dP6,dP6,E];rfl
  ·rw[aK0,if_neg (by rw[H];simp),dP6,dR0];refine⟨K,by simp,λa L b q=>?_⟩;simp only[dQ8,List.map_nil,dP1]at q;subst q;rintro rfl;obtain⟨p,Y,S⟩:=dO7.1 L;have:=List.any_eq_false.1 H p Y;simp[S]at this
  ·intro x l;rw[Array.toList_push]at l;rcases dN7.1 l with h|h
   ·have:=F x h;omega
   ·simp only[dP1]at h;subst h;exact Nat.lt_succ_self _
  ·rw[Array.toList_push,dP6,dR0];refine⟨V,by simp,λa L b q=>?_⟩;simp only[dQ8,List.map_nil,dP1]at q;subst q;rintro rfl;obtain⟨x,l,Z⟩:=dO7.1 L;have:=F x l;omega
 ·have J:=MapKept.run_findKey (P:=P) (w:=w) O X;rw[dQ2]at J;have M:∃e0,f[j]?=some e0/\e0.key=p6 s:=by
   have:=dO2 (λz=>z[j]?) E;simp only[dP9,G,dS5]at this;cases hq:f.toList[j]? with
   | none=>rw[hq]at this;cases this
   | some e0=>
    rw[hq]at this;simp only[dS5,dX0,Prod.mk.injEq]at this;exact⟨e0,by rw[<-dY3];exact hq,this.1⟩
  obtain⟨e0,y,N⟩:=M;have Q:(Instr.keyThatStays (p6 s) (p6 s)).run P w = .ok (p6 s) w:=MapKept.run_keyThatStays (d:=.string) trivial;have g:(f.modify j λe=>{e with key:=p6 s,val:=v}).toList=f.toList.modify j (λe=>{e with key:=p6 s,val:=v}):=by simp
  refine⟨{w with heap:=w.heap.setIfInBounds r (.map (f.modify j λe=>{e with key:=p6 s,val:=v}) c)},?_,⟨f.modify j λe=>{e with key:=p6 s,val:=v},c,by simp[B],?_,?_,?_,?_⟩,bn4 w r _⟩
  ·unfold Instr.mapUpdate;simp only[dO9,run_underlying W,dO1,MapKept.run_getObj_map m,u,J,y,dS5,dR9,N,Q];exact MapKept.run_setObj_map _ m
  ·rw[aK0,if_pos I,g];apply dZ5;intro n;have i:=dO2 (λz=>z[n]?) E;simp only[dP9]at i ⊢;rw[List.getElem?_modify];have A:=dM9.1 G;by_cases hnj:j=n
   ·subst hnj;rw[dY3,y,G];simp
   ·simp only[hnj,dU1,Option.map_map];cases hkn:kv[n]? with
    | none=>rw[hkn]at i;simpa using i
    | some p=>
     rw[hkn]at i;have R:p.1≠s:=λe=>by
      have D:=dM9.1 hkn;have U:(kv.map (·.1))[j]'(by simpa using A.1)=(kv.map (·.1))[n]'(by simpa using D.1):=by
       simp only[dT4,A.2,D.2,e]
      have o:=dT5.1 K;rcases Nat.lt_trichotomy j n with h|h|h
      ·exact o j n _ _ h U
      ·exact hnj h
      ·exact o n j _ _ h U.symm
     cases he:f.toList[n]? with
     | none=>rw[he]at i;simp at i
     | some x=>
      rw[he]at i;simp only[dS5,dX0]at i ⊢;simp only[Function.comp,R,dU1];show some _=some _;exact dO2 some i
  ·rw[aK0,if_pos I,List.map_map];have:((λx:A6×Value=>x.1) ∘ λp=>if p.1=s then(p.1,v)else p)=λx=>x.1:=by
    funext p;simp only[Function.comp];split<;>rfl
   rw[this];exact K
  ·intro x l;rw[g]at l;obtain⟨n,i,rfl⟩:=dT0.1 l;rw[List.getElem_modify];have C:n<f.toList.length:=by simpa using i
   split
   ·show f.toList[n].born<c;exact F f.toList[n] (dN5 C)
   ·exact F _ (dN5 C)
  ·rw[g];have:(f.toList.modify j (λe=>{e with key:=p6 s,val:=v})).map (·.born)=f.toList.map (·.born):=by
    apply dZ5;intro n;simp only[dP9,List.getElem?_modify];by_cases hjn:j=n<;>simp only[hjn,dS6,dU1]<;>(cases f.toList[n]?<;>rfl)
   rw[this];exact V
end
def aq0(kv:List (A6×Value))(k:A6)(v:Value)(j:A6):N1 (aK0 kv k v) j=if j=k then some v else N1 kv j:=by
 have c:∀l:List (A6×Value),N1 (l.map λp=>if p.1=k then(p.1,v)else p) j=if j=k then(if l.any λp=>decide (p.1=k)then some v else none)else N1 l j:=by
  intro l
  induction l with
  | nil=>simp[N1]
  | cons p l a=>
   unfold N1 at *;rw[dQ8,List.find?_cons,List.find?_cons,List.any_cons];by_cases h1:p.1=k
   ·by_cases h2:j=k
    ·subst h2;simp[h1]
    ·simp only[h1,dS6,h2,dU1]at a ⊢;have f:decide (k=j)=false:=by simp;exact λe=>h2 e.symm
     rw[f];exact a
   ·by_cases h2:j=k
    ·subst h2;simp only[h1,dU1,decide_false,dZ4,dS6]at a ⊢;exact a
    ·by_cases b:p.1=j
     ·simp only[dU1,h2,b,decide_true]
     ·simp only[h1,dU1,h2,b,decide_false]at a ⊢;exact a
 unfold aK0;split
 ·next h=>rw[c kv];simp only[h,dS6]
 ·next h=>
  have d:=dX7.2 h;unfold N1;rw[List.find?_append];by_cases h2:j=k
  ·subst h2;have:kv.find? (λp=>decide (p.1=j))=none:=dW5.2 λp g=>List.any_eq_false.1 d p g;rw[this];simp
  ·rw[if_neg h2];have b:¬k=j:=λe=>h2 e.symm;simp[b]
theorem bM8{P:Program}{S:World->Prop}{K:Fr->World->Prop}{f:Fr}{w:World}{d:Option Nat}{ty:TypeId}{b:String}{a:Array Edge}{t:Nat}{m k x:Operand}:B1 P (some S) ⟨d,.mapUpdate t m k x,ty,b,a,none⟩ K f w=bd5 ((Instr.mapUpdate t (ev f m) (ev f k) (ev f x)).run P w) (E8 S K) f d:=rfl
def de8:I7 prog 2=false:=by kernel_rfl
def aZ7:L9 prog 3=1:=by kernel_rfl
def aw5:G8 prog 3=some (.int .i64 0):=by kernel_rfl
def G3:I7 prog 3=false:=by kernel_rfl
def aE1:L9 prog 4=1:=by kernel_rfl
def T5:G8 prog 4=some (.bool false):=by kernel_rfl
def am6:I7 prog 4=false:=by kernel_rfl
def dA8:L9 prog 9=1:=by kernel_rfl
def dB1:G8 prog 9=some (.string ⟨#[]⟩):=by kernel_rfl
def V4:I7 prog 9=false:=by kernel_rfl
def dA0:bJ2 prog 9=none:=by kernel_rfl
def dp8:bO4 prog 9=true:=by kernel_rfl
def dj8:L9 prog 22=1:=by kernel_rfl
def dk2:G8 prog 22=some (.slice none 0 0):=by kernel_rfl
def af9:I7 prog 22=false:=by kernel_rfl
def bl2:L9 prog 24=1:=by kernel_rfl
def ai0:G8 prog 24=some (.slice none 0 0):=by kernel_rfl
def ad0:I7 prog 24=false:=by kernel_rfl
def cS5:M0 prog 24=some 3:=by kernel_rfl
def dA5:eqT prog 24=3:=by kernel_rfl
def an8:(prog.info? 26).isSome=true:=by kernel_rfl
def O9:L9 prog 26=4:=by kernel_rfl
def bl3:G8 prog 26=some (.agg #[.string ⟨#[]⟩,.int .i64 0,.int .i64 0,.string ⟨#[]⟩]):=by kernel_rfl
def at6:I7 prog 26=true:=by kernel_rfl
def at9:(prog.underlying 26).isSome=true:=by kernel_rfl
def bH4:P3 prog 26=some (#[.string ⟨#[]⟩,.int .i64 0,.int .i64 0,.string ⟨#[]⟩],[(0,1),(1,1),(2,1),(3,1)]):=by kernel_rfl
def cT7:L9 prog 31=1:=by kernel_rfl
def cc0:G8 prog 31=some (.slice none 0 0):=by kernel_rfl
def O0:I7 prog 31=false:=by kernel_rfl
def dA6:eqT prog 31=3:=by kernel_rfl
def cb7:I7 prog 32=false:=by kernel_rfl
def cT0:(prog.info? 34).isSome=true:=by kernel_rfl
def cb9:L9 prog 34=2:=by kernel_rfl
def dk3:G8 prog 34=some (.agg #[.slice none 0 0,.slice none 0 0]):=by kernel_rfl
def cS8:I7 prog 34=true:=by kernel_rfl
def cU0:(prog.underlying 34).isSome=true:=by kernel_rfl
def dA2:P3 prog 34=some (#[.slice none 0 0,.slice none 0 0],[(0,1),(1,1)]):=by kernel_rfl
def dA1:I7 prog 40=false:=by kernel_rfl
def dj9:L9 prog 55=1:=by kernel_rfl
def dk4:G8 prog 55=some (.slice none 0 0):=by kernel_rfl
def bk9:I7 prog 55=false:=by kernel_rfl
def bH3:(prog.info? 67).isSome=true:=by kernel_rfl
def aZ8:L9 prog 67=9:=by kernel_rfl
def cU7:G8 prog 67=some (.agg #[.string ⟨#[]⟩,.int .i64 0,.int .i64 0,.string ⟨#[]⟩,.string ⟨#[]⟩,.int .i64 0,.int .i64 0,.string ⟨#[]⟩,.int .i64 0]):=by kernel_rfl
def ct9:I7 prog 67=true:=by kernel_rfl
def cu2:(prog.underlying 67).isSome=true:=by kernel_rfl
def dA3:P3 prog 67=some (#[.string ⟨#[]⟩,.int .i64 0,.int .i64 0,.string ⟨#[]⟩,.string ⟨#[]⟩,.int .i64 0,.int .i64 0,.string ⟨#[]⟩,.int .i64 0],[(0,4),(4,4),(8,1)]):=by kernel_rfl
def cu0:I7 prog 72=false:=by kernel_rfl
def aF4:I7 prog 73=false:=by kernel_rfl
def at7:(prog.info? 75).isSome=true:=by kernel_rfl
def R2:L9 prog 75=5:=by kernel_rfl
def cU8:G8 prog 75=some (.agg #[.string ⟨#[]⟩,.slice none 0 0,.slice none 0 0,.slice none 0 0,.slice none 0 0]):=by kernel_rfl
def av8:I7 prog 75=true:=by kernel_rfl
def av9:(prog.underlying 75).isSome=true:=by kernel_rfl
def dj7:P3 prog 75=some (#[.string ⟨#[]⟩,.slice none 0 0,.slice none 0 0,.slice none 0 0,.slice none 0 0],[(0,1),(1,1),(2,1),(3,1),(4,1)]):=by kernel_rfl
def bl1:(prog.info? 78).isSome=true:=by kernel_rfl
def at8:L9 prog 78=2:=by kernel_rfl
def dA9:G8 prog 78=some (.agg #[.string ⟨#[]⟩,.bool false]):=by kernel_rfl
def bx9:I7 prog 78=true:=by kernel_rfl
def by3:(prog.underlying 78).isSome=true:=by kernel_rfl
def cT3:P3 prog 78=some (#[.string ⟨#[]⟩,.bool false],[(0,1),(1,1)]):=by kernel_rfl
def dj6:(prog.info? 81).isSome=true:=by kernel_rfl
def dk0:L9 prog 81=2:=by kernel_rfl
def cU9:G8 prog 81=some (.agg #[.int .i64 0,.int .i64 0]):=by kernel_rfl
def dj5:I7 prog 81=true:=by kernel_rfl
def dk1:(prog.underlying 81).isSome=true:=by kernel_rfl
def cT4:P3 prog 81=some (#[.int .i64 0,.int .i64 0],[(0,1),(1,1)]):=by kernel_rfl
def aA1:I7 prog 87=false:=by kernel_rfl
def cb8:I7 prog 88=false:=by kernel_rfl
def dA7:L9 prog 89=1:=by kernel_rfl
def dB0:G8 prog 89=some (.slice none 0 0):=by kernel_rfl
def bl0:I7 prog 89=false:=by kernel_rfl
def dA4:P3 prog 91=some (#[.pointer none,.slice none 0 0,.slice none 0 0,.slice none 0 0,.slice none 0 0,.map none,.slice none 0 0,.slice none 0 0],[(0,1),(1,1),(2,1),(3,1),(4,1),(5,1),(6,1),(7,1)]):=by kernel_rfl
def cu1:L9 prog 95=1:=by kernel_rfl
def bH5:G8 prog 95=some (.slice none 0 0):=by kernel_rfl
def aF5:I7 prog 95=false:=by kernel_rfl
def bO8:I7 prog 104=false:=by kernel_rfl
def aS9:(prog.info? 106).isSome=true:=by kernel_rfl
def ae5:L9 prog 106=4:=by kernel_rfl
def cm4:G8 prog 106=some (.agg #[.int .i64 0,.int .i64 0,.string ⟨#[]⟩,.slice none 0 0]):=by kernel_rfl
def bf0:I7 prog 106=true:=by kernel_rfl
def bf4:(prog.underlying 106).isSome=true:=by kernel_rfl
def cm1:P3 prog 106=some (#[.int .i64 0,.int .i64 0,.string ⟨#[]⟩,.slice none 0 0],[(0,1),(1,1),(2,1),(3,1)]):=by kernel_rfl
def bO9:I7 prog 107=false:=by kernel_rfl
def aD9:(prog.info? 109).isSome=true:=by kernel_rfl
def Z7:L9 prog 109=13:=by kernel_rfl
def cm5:G8 prog 109=some (.agg #[.int .i64 0,.int .i64 0,.slice none 0 0,.string ⟨#[]⟩,.string ⟨#[]⟩,.int .i64 0,.int .i64 0,.string ⟨#[]⟩,.slice none 0 0,.bool false,.slice none 0 0,.slice none 0 0,.slice none 0 0]):=by kernel_rfl
def aS7:I7 prog 109=true:=by kernel_rfl
def aT1:(prog.underlying 109).isSome=true:=by kernel_rfl
def bf3:P3 prog 109=some (#[.int .i64 0,.int .i64 0,.slice none 0 0,.string ⟨#[]⟩,.string ⟨#[]⟩,.int .i64 0,.int .i64 0,.string ⟨#[]⟩,.slice none 0 0,.bool false,.slice none 0 0,.slice none 0 0,.slice none 0 0],[(0,1),(1,1),(2,1),(3,1),(4,1),(5,4),(9,1),(10,1),(11,1),(12,1)]):=by kernel_rfl
def an1:I7 prog 114=false:=by kernel_rfl
def aS8:I7 prog 116=false:=by kernel_rfl
def cl6:I7 prog 117=false:=by kernel_rfl
def do3:P3 prog 119=some (#[.pointer none,.int .i64 0,.int .i64 0,.slice none 0 0,.slice none 0 0],[(0,1),(1,1),(2,1),(3,1),(4,1)]):=by kernel_rfl
def aE0:(prog.info? 124).isSome=true:=by kernel_rfl
def X1:L9 prog 124=6:=by kernel_rfl
def cU1:G8 prog 124=some (.agg #[.bool false,.string ⟨#[]⟩,.int .i64 0,.int .i64 0,.string ⟨#[]⟩,.slice none 0 0]):=by kernel_rfl
def aK3:I7 prog 124=true:=by kernel_rfl
def aK4:(prog.underlying 124).isSome=true:=by kernel_rfl
def cT1:P3 prog 124=some (#[.bool false,.string ⟨#[]⟩,.int .i64 0,.int .i64 0,.string ⟨#[]⟩,.slice none 0 0],[(0,1),(1,1),(2,4)]):=by kernel_rfl
def dp4:L9 prog 134=1:=by kernel_rfl
def dq0:G8 prog 134=some (.slice none 0 0):=by kernel_rfl
def cl7:I7 prog 134=false:=by kernel_rfl
def dp5:L9 prog 135=1:=by kernel_rfl
def dq1:G8 prog 135=some (.slice none 0 0):=by kernel_rfl
def ac2:I7 prog 135=false:=by kernel_rfl
def do4:P3 prog 137=some (#[.pointer none,.slice none 0 0,.slice none 0 0,.slice none 0 0,.slice none 0 0,.slice none 0 0],[(0,1),(1,1),(2,1),(3,1),(4,1),(5,1)]):=by kernel_rfl
def V5:(prog.info? 150).isSome=true:=by kernel_rfl
def H9:L9 prog 150=17:=by kernel_rfl
def cm6:G8 prog 150=some (.agg #[.int .i64 0,.int .i64 0,.slice none 0 0,.string ⟨#[]⟩,.string ⟨#[]⟩,.int .i64 0,.int .i64 0,.string ⟨#[]⟩,.slice none 0 0,.bool false,.slice none 0 0,.slice none 0 0,.slice none 0 0,.int .i64 0,.int .i64 0,.int .i64 0,.int .i64 0]):=by kernel_rfl
def X0:I7 prog 150=true:=by kernel_rfl
def X2:(prog.underlying 150).isSome=true:=by kernel_rfl
def cT2:P3 prog 150=some (#[.int .i64 0,.int .i64 0,.slice none 0 0,.string ⟨#[]⟩,.string ⟨#[]⟩,.int .i64 0,.int .i64 0,.string ⟨#[]⟩,.slice none 0 0,.bool false,.slice none 0 0,.slice none 0 0,.slice none 0 0,.int .i64 0,.int .i64 0,.int .i64 0,.int .i64 0],[(0,13),(13,1),(14,1),(15,1),(16,1)]):=by kernel_rfl
def dp6:L9 prog 151=1:=by kernel_rfl
def cU2:G8 prog 151=some (.slice none 0 0):=by kernel_rfl
def bf1:I7 prog 151=false:=by kernel_rfl
def do5:P3 prog 153=some (#[.slice none 0 0,.slice none 0 0,.slice none 0 0,.slice none 0 0,.slice none 0 0],[(0,2),(2,1),(3,1),(4,1)]):=by kernel_rfl
def bP3:L9 prog 167=1:=by kernel_rfl
def aE2:G8 prog 167=some (.int .u64 0):=by kernel_rfl
def an2:I7 prog 167=false:=by kernel_rfl
def do6:P3 prog 171=some (#[.int .i64 0],[(0,1)]):=by kernel_rfl
def do7:P3 prog 195=some (#[.pointer none,.int .i64 0,.string ⟨#[]⟩,.slice none 0 0,.slice none 0 0,.slice none 0 0,.slice none 0 0,.slice none 0 0,.slice none 0 0],[(0,1),(1,1),(2,5),(7,1),(8,1)]):=by kernel_rfl
def cl9:(prog.info? 205).isSome=true:=by kernel_rfl
def by1:L9 prog 205=2:=by kernel_rfl
def cU3:G8 prog 205=some (.agg #[.int .i64 0,.int .i64 0]):=by kernel_rfl
def cS6:I7 prog 205=true:=by kernel_rfl
def cT8:(prog.underlying 205).isSome=true:=by kernel_rfl
def do8:P3 prog 205=some (#[.int .i64 0,.int .i64 0],[(0,1),(1,1)]):=by kernel_rfl
def cm0:(prog.info? 210).isSome=true:=by kernel_rfl
def by2:L9 prog 210=3:=by kernel_rfl
def dq2:G8 prog 210=some (.agg #[.int .i64 0,.int .i64 0,.string ⟨#[]⟩]):=by kernel_rfl
def cS7:I7 prog 210=true:=by kernel_rfl
def cT9:(prog.underlying 210).isSome=true:=by kernel_rfl
def do9:P3 prog 210=some (#[.int .i64 0,.int .i64 0,.string ⟨#[]⟩],[(0,1),(1,1),(2,1)]):=by kernel_rfl
def cT5:L9 prog 216=1:=by kernel_rfl
def cU4:G8 prog 216=some (.slice none 0 0):=by kernel_rfl
def bP0:I7 prog 216=false:=by kernel_rfl
def cS9:(prog.info? 218).isSome=true:=by kernel_rfl
def cT6:L9 prog 218=2:=by kernel_rfl
def dq3:G8 prog 218=some (.agg #[.int .i64 0,.int .i64 0]):=by kernel_rfl
def do2:I7 prog 218=true:=by kernel_rfl
def dp9:(prog.underlying 218).isSome=true:=by kernel_rfl
def dp0:P3 prog 218=some (#[.int .i64 0,.int .i64 0],[(0,1),(1,1)]):=by kernel_rfl
def dp7:L9 prog 242=1:=by kernel_rfl
def cU5:G8 prog 242=some (.slice none 0 0):=by kernel_rfl
def V3:I7 prog 242=false:=by kernel_rfl
def by0:(prog.info? 263).isSome=true:=by kernel_rfl
def aT0:L9 prog 263=3:=by kernel_rfl
def cU6:G8 prog 263=some (.agg #[.int .i64 0,.int .i64 0,.int .i64 0]):=by kernel_rfl
def cl8:I7 prog 263=true:=by kernel_rfl
def cm3:(prog.underlying 263).isSome=true:=by kernel_rfl
def dp1:P3 prog 263=some (#[.int .i64 0,.int .i64 0,.int .i64 0],[(0,1),(1,1),(2,1)]):=by kernel_rfl
def dp2:P3 prog 268=some (#[.slice none 0 0,.slice none 0 0],[(0,1),(1,1)]):=by kernel_rfl
def bP2:(prog.info? 295).isSome=true:=by kernel_rfl
def ah9:L9 prog 295=2:=by kernel_rfl
def bf5:G8 prog 295=some (.agg #[.slice none 0 0,.int .i64 0]):=by kernel_rfl
def bP1:I7 prog 295=true:=by kernel_rfl
def bP4:(prog.underlying 295).isSome=true:=by kernel_rfl
def dp3:P3 prog 295=some (#[.slice none 0 0,.int .i64 0],[(0,1),(1,1)]):=by kernel_rfl
def cm2:L9 prog 332=1:=by kernel_rfl
def bf6:G8 prog 332=some (.slice none 0 0):=by kernel_rfl
def bf2:I7 prog 332=false:=by kernel_rfl
def hm:prog.follows .mixedOrders=true:=by kernel_rfl

def TY:(prog.info? 3).isSome=true/\L9 prog 3=1/\(prog.info? 4).isSome=true/\L9 prog 4=1/\(prog.info? 9).isSome=true/\L9 prog 9=1/\M0 prog 9=none/\bO4 prog 9=true/\M0 prog 22=some 26/\(prog.info? 24).isSome=true/\L9 prog 24=1/\M0 prog 24=some 3/\(prog.info? 26).isSome=true/\L9 prog 26=4/\C1 prog 26 0=some (0,9)/\C1 prog 26 1=some (1,3)/\C1 prog 26 2=some (2,3)/\C1 prog 26 3=some (3,9)/\(prog.info? 31).isSome=true/\L9 prog 31=1/\M0 prog 31=some 9/\M0 prog 32=some 75/\C1 prog 34 0=some (0,31)/\C1 prog 34 1=some (1,32)/\M0 prog 55=some 67/\(prog.info? 67).isSome=true/\L9 prog 67=9/\C1 prog 67 0=some (0,26)/\C1 prog 67 1=some (4,26)/\C1 prog 67 2=some (8,3)/\M0 prog 72=some 78/\M0 prog 73=some 109/\(prog.info? 75).isSome=true/\L9 prog 75=5/\C1 prog 75 0=some (0,9)/\C1 prog 75 1=some (1,72)/\C1 prog 75 2=some (2,31)/\C1 prog 75 3=some (3,73)/\C1 prog 75 4=some (4,31)/\(prog.info? 78).isSome=true/\L9 prog 78=2/\C1 prog 78 0=some (0,9)/\C1 prog 78 1=some (1,4)/\C1 prog 81 0=some (0,40)/\M0 prog 89=some 216/\C1 prog 91 0=some (0,87)/\C1 prog 91 1=some (1,31)/\C1 prog 91 2=some (2,22)/\C1 prog 91 3=some (3,55)/\C1 prog 91 4=some (4,55)/\C1 prog 91 5=some (5,88)/\C1 prog 91 6=some (6,89)/\C1 prog 91 7=some (7,89)/\(prog.info? 95).isSome=true/\L9 prog 95=1/\M0 prog 95=some 4/\M0 prog 104=some 106/\(prog.info? 106).isSome=true/\L9 prog 106=4/\C1 prog 106 0=some (0,3)/\C1 prog 106 1=some (1,2)/\C1 prog 106 2=some (2,9)/\C1 prog 106 3=some (3,104)/\M0 prog 107=some 124/\(prog.info? 109).isSome=true/\L9 prog 109=13/\C1 prog 109 0=some (0,3)/\C1 prog 109 1=some (1,3)/\C1 prog 109 2=some (2,31)/\C1 prog 109 3=some (3,9)/\C1 prog 109 4=some (4,9)/\C1 prog 109 5=some (5,106)/\C1 prog 109 6=some (9,4)/\C1 prog 109 7=some (10,107)/\C1 prog 109 8=some (11,73)/\C1 prog 109 9=some (12,73)/\(prog.info? 114).isSome=true/\L9 prog 114=1/\M0 prog 117=some 263/\C1 prog 119 0=some (0,116)/\C1 prog 119 1=some (1,3)/\C1 prog 119 2=some (2,3)/\C1 prog 119 3=some (3,117)/\C1 prog 119 4=some (4,95)/\(prog.info? 124).isSome=true/\L9 prog 124=6/\C1 prog 124 0=some (0,4)/\C1 prog 124 1=some (1,9)/\C1 prog 124 2=some (2,106)/\M0 prog 134=some 114/\M0 prog 135=some 31/\C1 prog 137 0=some (0,116)/\C1 prog 137 1=some (1,134)/\C1 prog 137 2=some (2,135)/\C1 prog 137 3=some (3,135)/\C1 prog 137 4=some (4,135)/\C1 prog 137 5=some (5,135)/\(prog.info? 150).isSome=true/\L9 prog 150=17/\C1 prog 150 0=some (0,109)/\C1 prog 150 1=some (13,3)/\C1 prog 150 3=some (15,3)/\C1 prog 150 4=some (16,3)/\M0 prog 151=some 150/\C1 prog 153 0=some (0,34)/\C1 prog 153 1=some (2,151)/\C1 prog 153 2=some (3,24)/\C1 prog 153 3=some (4,24)/\(prog.info? 167).isSome=true/\L9 prog 167=1/\C1 prog 171 0=some (0,3)/\C1 prog 195 0=some (0,87)/\C1 prog 195 2=some (2,75)/\C1 prog 195 3=some (7,22)/\C1 prog 195 4=some (8,55)/\M0 prog 203=some 205/\(prog.info? 205).isSome=true/\L9 prog 205=2/\M0 prog 205=none/\bJ2 prog 205=some (2,3)/\M0 prog 207=some 210/\(prog.info? 210).isSome=true/\L9 prog 210=3/\C1 prog 210 0=some (0,3)/\C1 prog 210 1=some (1,3)/\C1 prog 210 2=some (2,9)/\(prog.info? 216).isSome=true/\L9 prog 216=1/\M0 prog 216=some 218/\(prog.info? 218).isSome=true/\L9 prog 218=2/\C1 prog 218 0=some (0,3)/\C1 prog 218 1=some (1,3)/\M0 prog 219=none/\bJ2 prog 219=some (7,4)/\eqT prog 222=2/\M0 prog 242=some 24/\M0 prog 249=some 95/\(prog.info? 263).isSome=true/\L9 prog 263=3/\C1 prog 263 0=some (0,3)/\C1 prog 263 1=some (1,3)/\C1 prog 263 2=some (2,3)/\C1 prog 268 0=some (0,242)/\C1 prog 268 1=some (1,242)/\C1 prog 295 0=some (0,242)/\C1 prog 295 1=some (1,3)/\M0 prog 314=some 332/\(prog.info? 332).isSome=true/\L9 prog 332=1/\M0 prog 332=some 167:=⟨by kernel_rfl,aZ7,by kernel_rfl,aE1,by kernel_rfl,dA8,by kernel_rfl,dp8,by kernel_rfl,by kernel_rfl,bl2,cS5,an8,O9,by kernel_rfl,by kernel_rfl,by kernel_rfl,by kernel_rfl,by kernel_rfl,cT7,by kernel_rfl,by kernel_rfl,by kernel_rfl,by kernel_rfl,by kernel_rfl,bH3,aZ8,by kernel_rfl,by kernel_rfl,by kernel_rfl,by kernel_rfl,by kernel_rfl,at7,R2,by kernel_rfl,by kernel_rfl,by kernel_rfl,by kernel_rfl,by kernel_rfl,bl1,at8,by kernel_rfl,by kernel_rfl,by kernel_rfl,by kernel_rfl,by kernel_rfl,by kernel_rfl,by kernel_rfl,by kernel_rfl,by kernel_rfl,by kernel_rfl,by kernel_rfl,by kernel_rfl,by kernel_rfl,cu1,by kernel_rfl,by kernel_rfl,aS9,ae5,by kernel_rfl,by kernel_rfl,by kernel_rfl,by kernel_rfl,by kernel_rfl,aD9,Z7,by kernel_rfl,by kernel_rfl,by kernel_rfl,by kernel_rfl,by kernel_rfl,by kernel_rfl,by kernel_rfl,by kernel_rfl,by kernel_rfl,by kernel_rfl,by kernel_rfl,by kernel_rfl,by kernel_rfl,by kernel_rfl,by kernel_rfl,by kernel_rfl,by kernel_rfl,by kernel_rfl,aE0,X1,by kernel_rfl,by kernel_rfl,by kernel_rfl,by kernel_rfl,by kernel_rfl,by kernel_rfl,by kernel_rfl,by kernel_rfl,by kernel_rfl,by kernel_rfl,by kernel_rfl,V5,H9,by kernel_rfl,by kernel_rfl,by kernel_rfl,by kernel_rfl,by kernel_rfl,by kernel_rfl,by kernel_rfl,by kernel_rfl,by kernel_rfl,by kernel_rfl,bP3,by kernel_rfl,by kernel_rfl,by kernel_rfl,by kernel_rfl,by kernel_rfl,by kernel_rfl,cl9,by1,by kernel_rfl,by kernel_rfl,by kernel_rfl,cm0,by2,by kernel_rfl,by kernel_rfl,by kernel_rfl,by kernel_rfl,cT5,by kernel_rfl,cS9,cT6,by kernel_rfl,by kernel_rfl,by kernel_rfl,by kernel_rfl,by kernel_rfl,by kernel_rfl,by kernel_rfl,by0,aT0,by kernel_rfl,by kernel_rfl,by kernel_rfl,by kernel_rfl,by kernel_rfl,by kernel_rfl,by kernel_rfl,by kernel_rfl,by kernel_rfl,cm2,by kernel_rfl⟩
def dv6{l:List Value}(h:l.length=2):∃a b,l=[a,b]:=by
 match l,h with
 | [a,b],_=>exact⟨a,b,rfl⟩
def bi7{l:List Value}(h:l.length=4):∃a b c d,l=[a,b,c,d]:=by
 match l,h with
 | [a,b,c,d],_=>exact⟨a,b,c,d,rfl⟩
def bt7{l:List Value}(h:l.length=13):∃a b c d e f g i j k m n o,l=[a,b,c,d,e,f,g,i,j,k,m,n,o]:=by
 match l,h with
 | [a,b,c,d,e,f,g,i,j,k,m,n,o],_=>exact⟨a,b,c,d,e,f,g,i,j,k,m,n,o,rfl⟩
def da3{h:Hp}{cs:List Value}{x:Pa}:A4.enc h cs x->cs=([p6 x.name]:List Value)++([.bool x.ref]:List Value):=by
 intro a;exact a
def At.pa{h:Hp}{a:Addr}{x:Pa}(i:At h a x):(∀w,B5 h (i4 w)->Q0 prog w 9 a (p6 x.name)/\Q0 prog w 4 (a.add 1) (.bool x.ref))/\(∀(S:World->Prop) (g:World),S g->(∀w,S w->B5 h (i4 w))->Q4 prog S 9 a (p6 x.name)/\Q4 prog S 4 (a.add 1) (.bool x.ref)):=by
 obtain⟨k,j,e⟩:=i;obtain rfl:=da3 j;exact⟨λw c=>⟨E7 e rfl V4 w c,z6 e (o:=1) rfl am6 w c⟩,λS g f c=>⟨T7 f λd b=>E7 e rfl V4 d (c d b),T7 f λd b=>z6 e (o:=1) rfl am6 d (c d b)⟩⟩
def At.pa_v{h:Hp}{a:Addr}{x:Pa}(c:At h a x):∃b,SV h b x/\(∀w,B5 h (i4 w)->Q0 prog w 78 a b)/\(∀(S:World->Prop) (d:World),S d->(∀w,S w->B5 h (i4 w))->Q4 prog S 78 a b):=c.sv2 bx9 by3 bl1 at8
def co7{h:Hp}{v:Value}{x:Pa}{w:World}(hv:SV h v x)(hw:B5 h (i4 w)):∃a b,(Instr.box 78 v).run prog w = .ok (.pointer (some a)) b/\o7 w b/\At (i4 b) a x:=bJ5 hv hw
def aN6{h:Hp}{v:Value}{x:Pa}{w:World}(hv:SV h v x)(hw:B5 h (i4 w)):∃a c b,(Instr.alloc 78 true (.tuple #[])).run prog w = .ok (.pointer (some a)) c/\(Instr.storeAt 78 (.pointer (some a)) v).run prog c = .ok () b/\o7 w b/\At (i4 b) a x:=bA6 hv hw dA9 rfl at8
def da5{h:Hp}{cs:List Value}{x:Sp}:A4.enc h cs x->cs=([.int .i64 x.src]:List Value)++([.int .i64 x.dst]:List Value)++([.int .i64 x.kind]:List Value):=by
 intro a;exact a
def At.sp{h:Hp}{a:Addr}{x:Sp}(i:At h a x):(∀w,B5 h (i4 w)->Q0 prog w 3 a (.int .i64 x.src)/\Q0 prog w 3 (a.add 1) (.int .i64 x.dst)/\Q0 prog w 3 (a.add 2) (.int .i64 x.kind))/\(∀(S:World->Prop) (g:World),S g->(∀w,S w->B5 h (i4 w))->Q4 prog S 3 a (.int .i64 x.src)/\Q4 prog S 3 (a.add 1) (.int .i64 x.dst)/\Q4 prog S 3 (a.add 2) (.int .i64 x.kind)):=by
 obtain⟨k,j,e⟩:=i;obtain rfl:=da5 j;exact⟨λw d=>⟨E7 e rfl G3 w d,z6 e (o:=1) rfl G3 w d,z6 e (o:=2) rfl G3 w d⟩,λS g f d=>⟨T7 f λc b=>E7 e rfl G3 c (d c b),T7 f λc b=>z6 e (o:=1) rfl G3 c (d c b),T7 f λc b=>z6 e (o:=2) rfl G3 c (d c b)⟩⟩
def At.sp_v{h:Hp}{a:Addr}{x:Sp}(c:At h a x):∃b,SV h b x/\(∀w,B5 h (i4 w)->Q0 prog w 263 a b)/\(∀(S:World->Prop) (d:World),S d->(∀w,S w->B5 h (i4 w))->Q4 prog S 263 a b):=c.sv2 cl8 cm3 by0 aT0
def co8{h:Hp}{v:Value}{x:Sp}{w:World}(hv:SV h v x)(hw:B5 h (i4 w)):∃a b,(Instr.box 263 v).run prog w = .ok (.pointer (some a)) b/\o7 w b/\At (i4 b) a x:=bJ5 hv hw
def df2{h:Hp}{v:Value}{x:Sp}{w:World}(hv:SV h v x)(hw:B5 h (i4 w)):∃a c b,(Instr.alloc 263 true (.tuple #[])).run prog w = .ok (.pointer (some a)) c/\(Instr.storeAt 263 (.pointer (some a)) v).run prog c = .ok () b/\o7 w b/\At (i4 b) a x:=bA6 hv hw cU6 rfl aT0
def da2{h:Hp}{cs:List Value}{x:Fw}:A4.enc h cs x->cs=([.int .i64 x.src]:List Value)++([.int .i64 x.dst]:List Value)++([p6 x.var]:List Value):=by
 intro a;exact a
def At.fw{h:Hp}{a:Addr}{x:Fw}(i:At h a x):(∀w,B5 h (i4 w)->Q0 prog w 3 a (.int .i64 x.src)/\Q0 prog w 3 (a.add 1) (.int .i64 x.dst)/\Q0 prog w 9 (a.add 2) (p6 x.var))/\(∀(S:World->Prop) (g:World),S g->(∀w,S w->B5 h (i4 w))->Q4 prog S 3 a (.int .i64 x.src)/\Q4 prog S 3 (a.add 1) (.int .i64 x.dst)/\Q4 prog S 9 (a.add 2) (p6 x.var)):=by
 obtain⟨k,j,e⟩:=i;obtain rfl:=da2 j;exact⟨λw d=>⟨E7 e rfl G3 w d,z6 e (o:=1) rfl G3 w d,z6 e (o:=2) rfl V4 w d⟩,λS g f d=>⟨T7 f λc b=>E7 e rfl G3 c (d c b),T7 f λc b=>z6 e (o:=1) rfl G3 c (d c b),T7 f λc b=>z6 e (o:=2) rfl V4 c (d c b)⟩⟩
def df0{h:Hp}{v:Value}{x:Fw}{w:World}(hv:SV h v x)(hw:B5 h (i4 w)):∃a c b,(Instr.alloc 210 true (.tuple #[])).run prog w = .ok (.pointer (some a)) c/\(Instr.storeAt 210 (.pointer (some a)) v).run prog c = .ok () b/\o7 w b/\At (i4 b) a x:=bA6 hv hw dq2 rfl by2
def cq0{h:Hp}{cs:List Value}{x:Vx}:A4.enc h cs x->cs=([p6 x.proc]:List Value)++([.int .i64 x.kind]:List Value)++([.int .i64 x.id]:List Value)++([p6 x.slot]:List Value):=by
 intro a;exact a
def At.vx{h:Hp}{a:Addr}{x:Vx}(i:At h a x):(∀w,B5 h (i4 w)->Q0 prog w 9 a (p6 x.proc)/\Q0 prog w 3 (a.add 1) (.int .i64 x.kind)/\Q0 prog w 3 (a.add 2) (.int .i64 x.id)/\Q0 prog w 9 (a.add 3) (p6 x.slot))/\(∀(S:World->Prop) (g:World),S g->(∀w,S w->B5 h (i4 w))->Q4 prog S 9 a (p6 x.proc)/\Q4 prog S 3 (a.add 1) (.int .i64 x.kind)/\Q4 prog S 3 (a.add 2) (.int .i64 x.id)/\Q4 prog S 9 (a.add 3) (p6 x.slot)):=by
 obtain⟨k,j,e⟩:=i;obtain rfl:=cq0 j;exact⟨λw d=>⟨E7 e rfl V4 w d,z6 e (o:=1) rfl G3 w d,z6 e (o:=2) rfl G3 w d,z6 e (o:=3) rfl V4 w d⟩,λS g f d=>⟨T7 f λc b=>E7 e rfl V4 c (d c b),T7 f λc b=>z6 e (o:=1) rfl G3 c (d c b),T7 f λc b=>z6 e (o:=2) rfl G3 c (d c b),T7 f λc b=>z6 e (o:=3) rfl V4 c (d c b)⟩⟩
def K7.vx{h k:Hp}{a:Addr}{v:Value}{x:Vx}(hv:SV h v x)(l:K7 k a v):(∀w,B5 k (i4 w)->Q0 prog w 9 a (p6 x.proc)/\Q0 prog w 3 (a.add 1) (.int .i64 x.kind)/\Q0 prog w 3 (a.add 2) (.int .i64 x.id)/\Q0 prog w 9 (a.add 3) (p6 x.slot))/\(∀(S:World->Prop) (g:World),S g->(∀w,S w->B5 k (i4 w))->Q4 prog S 9 a (p6 x.proc)/\Q4 prog S 3 (a.add 1) (.int .i64 x.kind)/\Q4 prog S 3 (a.add 2) (.int .i64 x.id)/\Q4 prog S 9 (a.add 3) (p6 x.slot)):=by
 obtain⟨n,rfl,m⟩:=hv;obtain⟨i,j,e⟩:=l;obtain rfl:=ag2 j;obtain rfl:=cq0 m;exact⟨λw d=>⟨E7 e rfl V4 w d,z6 e (o:=1) rfl G3 w d,z6 e (o:=2) rfl G3 w d,z6 e (o:=3) rfl V4 w d⟩,λS g f d=>⟨T7 f λc b=>E7 e rfl V4 c (d c b),T7 f λc b=>z6 e (o:=1) rfl G3 c (d c b),T7 f λc b=>z6 e (o:=2) rfl G3 c (d c b),T7 f λc b=>z6 e (o:=3) rfl V4 c (d c b)⟩⟩
def K7.vx_v{h k:Hp}{a:Addr}{v:Value}{x:Vx}(hv:SV h v x)(b:K7 k a v):(∀w,B5 k (i4 w)->Q0 prog w 26 a v)/\(∀(S:World->Prop) (c:World),S c->(∀w,S w->B5 k (i4 w))->Q4 prog S 26 a v):=b.whole hv at6 at9 an8 O9
def bJ7{h:Hp}{v:Value}{x:Vx}{w:World}(N:Nat->Prop)(hv:SV h v x)(hN:∀b,N b->b<w.heap.size):∃a c,(Instr.box 26 v).run prog w = .ok (.pointer (some a)) c/\o7 w c/\K7 (B6 c N) a v:=cd9 hv hN
def aw0{h:Hp}{v:Value}{x:Vx}{w:World}(N:Nat->Prop)(hv:SV h v x)(hN:∀b,N b->b<w.heap.size):∃a d c,(Instr.alloc 26 true (.tuple #[])).run prog w = .ok (.pointer (some a)) d/\(Instr.storeAt 26 (.pointer (some a)) v).run prog d = .ok () c/\o7 w c/\K7 (B6 c N) a v:=cm7 hv hN bl3 rfl O9
def At.vx_v{h:Hp}{a:Addr}{x:Vx}(c:At h a x):∃b,SV h b x/\(∀w,B5 h (i4 w)->Q0 prog w 26 a b)/\(∀(S:World->Prop) (d:World),S d->(∀w,S w->B5 h (i4 w))->Q4 prog S 26 a b):=c.sv2 at6 at9 an8 O9
def bJ6{h:Hp}{v:Value}{x:Vx}{w:World}(hv:SV h v x)(hw:B5 h (i4 w)):∃a b,(Instr.box 26 v).run prog w = .ok (.pointer (some a)) b/\o7 w b/\At (i4 b) a x:=bJ5 hv hw
def cu4{h:Hp}{v:Value}{x:Vx}{w:World}(hv:SV h v x)(hw:B5 h (i4 w)):∃a c b,(Instr.alloc 26 true (.tuple #[])).run prog w = .ok (.pointer (some a)) c/\(Instr.storeAt 26 (.pointer (some a)) v).run prog c = .ok () b/\o7 w b/\At (i4 b) a x:=bA6 hv hw bl3 rfl O9
def cp6{h:Hp}{cs:List Value}{x:Eg}:A4.enc h cs x->∃b a,cs=b++a++([.int .i64 x.kind]:List Value)/\A4.enc h b x.src/\A4.enc h a x.dst:=by
 intro c;exact⟨x.src.cells,x.dst.cells,c,rfl,rfl⟩
def At.eg{h:Hp}{a:Addr}{x:Eg}(B:At h a x):At h a x.src/\At h (a.add 4) x.dst/\(∀w,B5 h (i4 w)->Q0 prog w 3 (a.add 8) (.int .i64 x.kind))/\(∀(S:World->Prop) (z:World),S z->(∀w,S w->B5 h (i4 w))->Q4 prog S 3 (a.add 8) (.int .i64 x.kind)):=by
 obtain⟨D,C,q⟩:=B;obtain⟨s,r,rfl,d,c⟩:=cp6 C;obtain⟨k,l,n,p,rfl⟩:=bi7 (A4.len d);obtain⟨e,f,g,i,rfl⟩:=bi7 (A4.len c);exact⟨bo9 q d (λj u b=>by
  match j,b with
  | 0,b=>exact b
  | 1,b=>exact b
  | 2,b=>exact b
  | 3,b=>exact b
  | m+4,b=>simp at b),bm4 q c (λj u b=>by
  match j,b with
  | 0,b=>exact b
  | 1,b=>exact b
  | 2,b=>exact b
  | 3,b=>exact b
  | m+4,b=>simp at b),λw t=>z6 q (o:=8) rfl G3 w t,λS z A t=>T7 A λy v=>z6 q (o:=8) rfl G3 y (t y v)⟩
def K7.eg{h k:Hp}{a:Addr}{v:Value}{x:Eg}(hv:SV h v x)(H:K7 k a v):∃f e,SV h f x.src/\K7 k a f/\SV h e x.dst/\K7 k (a.add 4) e/\(∀w,B5 k (i4 w)->Q0 prog w 3 (a.add 8) (.int .i64 x.kind))/\(∀(S:World->Prop) (D:World),S D->(∀w,S w->B5 k (i4 w))->Q4 prog S 3 (a.add 8) (.int .i64 x.kind)):=by
 obtain⟨J,rfl,I⟩:=hv;obtain⟨E,F,t⟩:=H;obtain rfl:=ag2 F;obtain⟨z,y,rfl,d,c⟩:=cp6 I;obtain⟨p,q,r,s,rfl⟩:=bi7 (A4.len d);obtain⟨g,i,l,n,rfl⟩:=bi7 (A4.len c);exact⟨_,_,⟨_,rfl,d⟩,bB4 t (λj u b=>by
  match j,b with
  | 0,b=>exact b
  | 1,b=>exact b
  | 2,b=>exact b
  | 3,b=>exact b
  | m+4,b=>simp at b),⟨_,rfl,c⟩,aT9 t (λj u b=>by
  match j,b with
  | 0,b=>exact b
  | 1,b=>exact b
  | 2,b=>exact b
  | 3,b=>exact b
  | m+4,b=>simp at b),λw A=>z6 t (o:=8) rfl G3 w A,λS D G A=>T7 G λC B=>z6 t (o:=8) rfl G3 C (A C B)⟩
def K7.eg_v{h k:Hp}{a:Addr}{v:Value}{x:Eg}(hv:SV h v x)(b:K7 k a v):(∀w,B5 k (i4 w)->Q0 prog w 67 a v)/\(∀(S:World->Prop) (c:World),S c->(∀w,S w->B5 k (i4 w))->Q4 prog S 67 a v):=b.whole hv ct9 cu2 bH3 aZ8
def cY6{h:Hp}{v:Value}{x:Eg}{w:World}(N:Nat->Prop)(hv:SV h v x)(hN:∀b,N b->b<w.heap.size):∃a c,(Instr.box 67 v).run prog w = .ok (.pointer (some a)) c/\o7 w c/\K7 (B6 c N) a v:=cd9 hv hN
def df3{h:Hp}{v:Value}{x:Eg}{w:World}(N:Nat->Prop)(hv:SV h v x)(hN:∀b,N b->b<w.heap.size):∃a d c,(Instr.alloc 67 true (.tuple #[])).run prog w = .ok (.pointer (some a)) d/\(Instr.storeAt 67 (.pointer (some a)) v).run prog d = .ok () c/\o7 w c/\K7 (B6 c N) a v:=cm7 hv hN cU7 rfl aZ8
def At.eg_v{h:Hp}{a:Addr}{x:Eg}(c:At h a x):∃b,SV h b x/\(∀w,B5 h (i4 w)->Q0 prog w 67 a b)/\(∀(S:World->Prop) (d:World),S d->(∀w,S w->B5 h (i4 w))->Q4 prog S 67 a b):=c.sv2 ct9 cu2 bH3 aZ8
def cp7{h:Hp}{cs:List Value}{x:Ex}:A4.enc h cs x->∃a,cs=([.int .i64 x.op]:List Value)++([.int .i64 x.n]:List Value)++([p6 x.name]:List Value)++([a]:List Value)/\R h a x.kids:=by
 intro c;obtain⟨d,rfl,b⟩:=bK9.1 c;exact⟨d,rfl,b⟩
def At.ex{h:Hp}{a:Addr}{x:Ex}(k:At h a x):∃b,R h b x.kids/\(∀w,B5 h (i4 w)->Q0 prog w 3 a (.int .i64 x.op)/\Q0 prog w 2 (a.add 1) (.int .i64 x.n)/\Q0 prog w 9 (a.add 2) (p6 x.name)/\Q0 prog w 104 (a.add 3) b)/\(∀(S:World->Prop) (j:World),S j->(∀w,S w->B5 h (i4 w))->Q4 prog S 3 a (.int .i64 x.op)/\Q4 prog S 2 (a.add 1) (.int .i64 x.n)/\Q4 prog S 9 (a.add 2) (p6 x.name)/\Q4 prog S 104 (a.add 3) b):=by
 obtain⟨m,l,g⟩:=k;obtain⟨b,rfl,e⟩:=cp7 l;exact⟨_,e,λw f=>⟨E7 g rfl G3 w f,z6 g (o:=1) rfl de8 w f,z6 g (o:=2) rfl V4 w f,z6 g (o:=3) rfl bO8 w f⟩,λS j i f=>⟨T7 i λd c=>E7 g rfl G3 d (f d c),T7 i λd c=>z6 g (o:=1) rfl de8 d (f d c),T7 i λd c=>z6 g (o:=2) rfl V4 d (f d c),T7 i λd c=>z6 g (o:=3) rfl bO8 d (f d c)⟩⟩
def K7.ex{h k:Hp}{a:Addr}{v:Value}{x:Ex}(hv:SV h v x)(n:K7 k a v):∃b,R h b x.kids/\(∀w,B5 k (i4 w)->Q0 prog w 3 a (.int .i64 x.op)/\Q0 prog w 2 (a.add 1) (.int .i64 x.n)/\Q0 prog w 9 (a.add 2) (p6 x.name)/\Q0 prog w 104 (a.add 3) b)/\(∀(S:World->Prop) (j:World),S j->(∀w,S w->B5 k (i4 w))->Q4 prog S 3 a (.int .i64 x.op)/\Q4 prog S 2 (a.add 1) (.int .i64 x.n)/\Q4 prog S 9 (a.add 2) (p6 x.name)/\Q4 prog S 104 (a.add 3) b):=by
 obtain⟨q,rfl,p⟩:=hv;obtain⟨l,m,g⟩:=n;obtain rfl:=ag2 m;obtain⟨b,rfl,e⟩:=cp7 p;exact⟨_,e,λw f=>⟨E7 g rfl G3 w f,z6 g (o:=1) rfl de8 w f,z6 g (o:=2) rfl V4 w f,z6 g (o:=3) rfl bO8 w f⟩,λS j i f=>⟨T7 i λd c=>E7 g rfl G3 d (f d c),T7 i λd c=>z6 g (o:=1) rfl de8 d (f d c),T7 i λd c=>z6 g (o:=2) rfl V4 d (f d c),T7 i λd c=>z6 g (o:=3) rfl bO8 d (f d c)⟩⟩
def K7.ex_v{h k:Hp}{a:Addr}{v:Value}{x:Ex}(hv:SV h v x)(b:K7 k a v):(∀w,B5 k (i4 w)->Q0 prog w 106 a v)/\(∀(S:World->Prop) (c:World),S c->(∀w,S w->B5 k (i4 w))->Q4 prog S 106 a v):=b.whole hv bf0 bf4 aS9 ae5
def bm7{h:Hp}{v:Value}{x:Ex}{w:World}(N:Nat->Prop)(hv:SV h v x)(hN:∀b,N b->b<w.heap.size):∃a c,(Instr.box 106 v).run prog w = .ok (.pointer (some a)) c/\o7 w c/\K7 (B6 c N) a v:=cd9 hv hN
def df4{h:Hp}{v:Value}{x:Ex}{w:World}(N:Nat->Prop)(hv:SV h v x)(hN:∀b,N b->b<w.heap.size):∃a d c,(Instr.alloc 106 true (.tuple #[])).run prog w = .ok (.pointer (some a)) d/\(Instr.storeAt 106 (.pointer (some a)) v).run prog d = .ok () c/\o7 w c/\K7 (B6 c N) a v:=cm7 hv hN cm4 rfl ae5
def At.ex_v{h:Hp}{a:Addr}{x:Ex}(c:At h a x):∃b,SV h b x/\(∀w,B5 h (i4 w)->Q0 prog w 106 a b)/\(∀(S:World->Prop) (d:World),S d->(∀w,S w->B5 h (i4 w))->Q4 prog S 106 a b):=c.sv2 bf0 bf4 aS9 ae5
def aL0{h:Hp}{v:Value}{x:Ex}{w:World}(hv:SV h v x)(hw:B5 h (i4 w)):∃a b,(Instr.box 106 v).run prog w = .ok (.pointer (some a)) b/\o7 w b/\At (i4 b) a x:=bJ5 hv hw
def de9{h:Hp}{v:Value}{x:Ex}{w:World}(hv:SV h v x)(hw:B5 h (i4 w)):∃a c b,(Instr.alloc 106 true (.tuple #[])).run prog w = .ok (.pointer (some a)) c/\(Instr.storeAt 106 (.pointer (some a)) v).run prog c = .ok () b/\o7 w b/\At (i4 b) a x:=bA6 hv hw cm4 rfl ae5
def cp5{h:Hp}{cs:List Value}{x:Ar}:A4.enc h cs x->∃a,cs=([.bool x.ref]:List Value)++([p6 x.name]:List Value)++a/\A4.enc h a x.x:=by
 rintro⟨c,rfl,b⟩;exact⟨c,rfl,b⟩
def At.ar{h:Hp}{a:Addr}{x:Ar}(s:At h a x):At h (a.add 2) x.x/\(∀w,B5 h (i4 w)->Q0 prog w 4 a (.bool x.ref)/\Q0 prog w 9 (a.add 1) (p6 x.name))/\(∀(S:World->Prop) (q:World),S q->(∀w,S w->B5 h (i4 w))->Q4 prog S 4 a (.bool x.ref)/\Q4 prog S 9 (a.add 1) (p6 x.name)):=by
 obtain⟨v,t,e⟩:=s;obtain⟨r,rfl,d⟩:=cp5 t;obtain⟨i,k,l,n,rfl⟩:=bi7 (A4.len d);exact⟨bm4 e d (λj u b=>by
  match j,b with
  | 0,b=>exact b
  | 1,b=>exact b
  | 2,b=>exact b
  | 3,b=>exact b
  | m+4,b=>simp at b),λw f=>⟨E7 e rfl am6 w f,z6 e (o:=1) rfl V4 w f⟩,λS q p f=>⟨T7 p λg c=>E7 e rfl am6 g (f g c),T7 p λg c=>z6 e (o:=1) rfl V4 g (f g c)⟩⟩
def K7.ar{h k:Hp}{a:Addr}{v:Value}{x:Ar}(hv:SV h v x)(A:K7 k a v):∃g,SV h g x.x/\K7 k (a.add 2) g/\(∀w,B5 k (i4 w)->Q0 prog w 4 a (.bool x.ref)/\Q0 prog w 9 (a.add 1) (p6 x.name))/\(∀(S:World->Prop) (s:World),S s->(∀w,S w->B5 k (i4 w))->Q4 prog S 4 a (.bool x.ref)/\Q4 prog S 9 (a.add 1) (p6 x.name)):=by
 obtain⟨C,rfl,B⟩:=hv;obtain⟨y,z,e⟩:=A;obtain rfl:=ag2 z;obtain⟨t,rfl,d⟩:=cp5 B;obtain⟨l,n,p,q,rfl⟩:=bi7 (A4.len d);exact⟨_,⟨_,rfl,d⟩,aT9 e (λj u b=>by
  match j,b with
  | 0,b=>exact b
  | 1,b=>exact b
  | 2,b=>exact b
  | 3,b=>exact b
  | m+4,b=>simp at b),λw f=>⟨E7 e rfl am6 w f,z6 e (o:=1) rfl V4 w f⟩,λS s r f=>⟨T7 r λi c=>E7 e rfl am6 i (f i c),T7 r λi c=>z6 e (o:=1) rfl V4 i (f i c)⟩⟩
def cu5{h:Hp}{v:Value}{x:Ar}{w:World}(N:Nat->Prop)(hv:SV h v x)(hN:∀b,N b->b<w.heap.size):∃a d c,(Instr.alloc 124 true (.tuple #[])).run prog w = .ok (.pointer (some a)) d/\(Instr.storeAt 124 (.pointer (some a)) v).run prog d = .ok () c/\o7 w c/\K7 (B6 c N) a v:=cm7 hv hN cU1 rfl X1
def At.ar_v{h:Hp}{a:Addr}{x:Ar}(c:At h a x):∃b,SV h b x/\(∀w,B5 h (i4 w)->Q0 prog w 124 a b)/\(∀(S:World->Prop) (d:World),S d->(∀w,S w->B5 h (i4 w))->Q4 prog S 124 a b):=c.sv2 aK3 aK4 aE0 X1
def cY5{h:Hp}{v:Value}{x:Ar}{w:World}(hv:SV h v x)(hw:B5 h (i4 w)):∃a b,(Instr.box 124 v).run prog w = .ok (.pointer (some a)) b/\o7 w b/\At (i4 b) a x:=bJ5 hv hw
def ba0{h:Hp}{v:Value}{x:Ar}{w:World}(hv:SV h v x)(hw:B5 h (i4 w)):∃a c b,(Instr.alloc 124 true (.tuple #[])).run prog w = .ok (.pointer (some a)) c/\(Instr.storeAt 124 (.pointer (some a)) v).run prog c = .ok () b/\o7 w b/\At (i4 b) a x:=bA6 hv hw cU1 rfl X1
def cp9{h:Hp}{cs:List Value}{x:St}:A4.enc h cs x->∃a e b d c,cs=([.int .i64 x.id]:List Value)++([.int .i64 x.kind]:List Value)++([a]:List Value)++([p6 x.name]:List Value)++([p6 x.proc]:List Value)++e++([.bool x.has]:List Value)++([b]:List Value)++([d]:List Value)++([c]:List Value)/\R h a x.labels/\A4.enc h e x.x/\R h b x.args/\R h d x.thn/\R h c x.els:=by
 intro m;obtain⟨p,f,n,q,o,rfl,g,i,j,k,l⟩:=bL0.1 m;exact⟨p,f,n,q,o,by simp,g,i,j,k,l⟩
def At.st{h:Hp}{a:Addr}{x:St}(D:At h a x):∃c e k i,R h c x.labels/\R h e x.args/\R h k x.thn/\R h i x.els/\At h (a.add 5) x.x/\(∀w,B5 h (i4 w)->Q0 prog w 3 a (.int .i64 x.id)/\Q0 prog w 3 (a.add 1) (.int .i64 x.kind)/\Q0 prog w 31 (a.add 2) c/\Q0 prog w 9 (a.add 3) (p6 x.name)/\Q0 prog w 9 (a.add 4) (p6 x.proc)/\Q0 prog w 4 (a.add 9) (.bool x.has)/\Q0 prog w 107 (a.add 10) e/\Q0 prog w 73 (a.add 11) k/\Q0 prog w 73 (a.add 12) i)/\(∀(S:World->Prop) (B:World),S B->(∀w,S w->B5 h (i4 w))->Q4 prog S 3 a (.int .i64 x.id)/\Q4 prog S 3 (a.add 1) (.int .i64 x.kind)/\Q4 prog S 31 (a.add 2) c/\Q4 prog S 9 (a.add 3) (p6 x.name)/\Q4 prog S 9 (a.add 4) (p6 x.proc)/\Q4 prog S 4 (a.add 9) (.bool x.has)/\Q4 prog S 107 (a.add 10) e/\Q4 prog S 73 (a.add 11) k/\Q4 prog S 73 (a.add 12) i):=by
 obtain⟨F,E,f⟩:=D;obtain⟨c,C,e,k,i,rfl,l,t,q,s,r⟩:=cp9 E;obtain⟨v,y,z,A,rfl⟩:=bi7 (A4.len t);exact⟨_,_,_,_,l,q,s,r,bm4 f t (λj u n=>by
  match j,n with
  | 0,n=>exact n
  | 1,n=>exact n
  | 2,n=>exact n
  | 3,n=>exact n
  | m+4,n=>simp at n),λw g=>⟨E7 f rfl G3 w g,z6 f (o:=1) rfl G3 w g,z6 f (o:=2) rfl O0 w g,z6 f (o:=3) rfl V4 w g,z6 f (o:=4) rfl V4 w g,z6 f (o:=9) rfl am6 w g,z6 f (o:=10) rfl bO9 w g,z6 f (o:=11) rfl aF4 w g,z6 f (o:=12) rfl aF4 w g⟩,λS B p g=>⟨T7 p λd b=>E7 f rfl G3 d (g d b),T7 p λd b=>z6 f (o:=1) rfl G3 d (g d b),T7 p λd b=>z6 f (o:=2) rfl O0 d (g d b),T7 p λd b=>z6 f (o:=3) rfl V4 d (g d b),T7 p λd b=>z6 f (o:=4) rfl V4 d (g d b),T7 p λd b=>z6 f (o:=9) rfl am6 d (g d b),T7 p λd b=>z6 f (o:=10) rfl bO9 d (g d b),T7 p λd b=>z6 f (o:=11) rfl aF4 d (g d b),T7 p λd b=>z6 f (o:=12) rfl aF4 d (g d b)⟩⟩
def K7.st{h k:Hp}{a:Addr}{v:Value}{x:St}(hv:SV h v x)(I:K7 k a v):∃c z e l i,R h c x.labels/\SV h z x.x/\K7 k (a.add 5) z/\R h e x.args/\R h l x.thn/\R h i x.els/\(∀w,B5 k (i4 w)->Q0 prog w 3 a (.int .i64 x.id)/\Q0 prog w 3 (a.add 1) (.int .i64 x.kind)/\Q0 prog w 31 (a.add 2) c/\Q0 prog w 9 (a.add 3) (p6 x.name)/\Q0 prog w 9 (a.add 4) (p6 x.proc)/\Q0 prog w 4 (a.add 9) (.bool x.has)/\Q0 prog w 107 (a.add 10) e/\Q0 prog w 73 (a.add 11) l/\Q0 prog w 73 (a.add 12) i)/\(∀(S:World->Prop) (E:World),S E->(∀w,S w->B5 k (i4 w))->Q4 prog S 3 a (.int .i64 x.id)/\Q4 prog S 3 (a.add 1) (.int .i64 x.kind)/\Q4 prog S 31 (a.add 2) c/\Q4 prog S 9 (a.add 3) (p6 x.name)/\Q4 prog S 9 (a.add 4) (p6 x.proc)/\Q4 prog S 4 (a.add 9) (.bool x.has)/\Q4 prog S 107 (a.add 10) e/\Q4 prog S 73 (a.add 11) l/\Q4 prog S 73 (a.add 12) i):=by
 obtain⟨K,rfl,J⟩:=hv;obtain⟨G,H,f⟩:=I;obtain rfl:=ag2 H;obtain⟨c,F,e,l,i,rfl,n,y,r,t,s⟩:=cp9 J;obtain⟨A,B,C,D,rfl⟩:=bi7 (A4.len y);exact⟨_,_,_,_,_,n,⟨_,rfl,y⟩,aT9 f (λj u p=>by
  match j,p with
  | 0,p=>exact p
  | 1,p=>exact p
  | 2,p=>exact p
  | 3,p=>exact p
  | m+4,p=>simp at p),r,t,s,λw g=>⟨E7 f rfl G3 w g,z6 f (o:=1) rfl G3 w g,z6 f (o:=2) rfl O0 w g,z6 f (o:=3) rfl V4 w g,z6 f (o:=4) rfl V4 w g,z6 f (o:=9) rfl am6 w g,z6 f (o:=10) rfl bO9 w g,z6 f (o:=11) rfl aF4 w g,z6 f (o:=12) rfl aF4 w g⟩,λS E q g=>⟨T7 q λd b=>E7 f rfl G3 d (g d b),T7 q λd b=>z6 f (o:=1) rfl G3 d (g d b),T7 q λd b=>z6 f (o:=2) rfl O0 d (g d b),T7 q λd b=>z6 f (o:=3) rfl V4 d (g d b),T7 q λd b=>z6 f (o:=4) rfl V4 d (g d b),T7 q λd b=>z6 f (o:=9) rfl am6 d (g d b),T7 q λd b=>z6 f (o:=10) rfl bO9 d (g d b),T7 q λd b=>z6 f (o:=11) rfl aF4 d (g d b),T7 q λd b=>z6 f (o:=12) rfl aF4 d (g d b)⟩⟩
def K7.st_v{h k:Hp}{a:Addr}{v:Value}{x:St}(hv:SV h v x)(b:K7 k a v):(∀w,B5 k (i4 w)->Q0 prog w 109 a v)/\(∀(S:World->Prop) (c:World),S c->(∀w,S w->B5 k (i4 w))->Q4 prog S 109 a v):=b.whole hv aS7 aT1 aD9 Z7
def co9{h:Hp}{v:Value}{x:St}{w:World}(N:Nat->Prop)(hv:SV h v x)(hN:∀b,N b->b<w.heap.size):∃a c,(Instr.box 109 v).run prog w = .ok (.pointer (some a)) c/\o7 w c/\K7 (B6 c N) a v:=cd9 hv hN
def df5{h:Hp}{v:Value}{x:St}{w:World}(N:Nat->Prop)(hv:SV h v x)(hN:∀b,N b->b<w.heap.size):∃a d c,(Instr.alloc 109 true (.tuple #[])).run prog w = .ok (.pointer (some a)) d/\(Instr.storeAt 109 (.pointer (some a)) v).run prog d = .ok () c/\o7 w c/\K7 (B6 c N) a v:=cm7 hv hN cm5 rfl Z7
def At.st_v{h:Hp}{a:Addr}{x:St}(c:At h a x):∃b,SV h b x/\(∀w,B5 h (i4 w)->Q0 prog w 109 a b)/\(∀(S:World->Prop) (d:World),S d->(∀w,S w->B5 h (i4 w))->Q4 prog S 109 a b):=c.sv2 aS7 aT1 aD9 Z7
def ao2{h:Hp}{v:Value}{x:St}{w:World}(hv:SV h v x)(hw:B5 h (i4 w)):∃a b,(Instr.box 109 v).run prog w = .ok (.pointer (some a)) b/\o7 w b/\At (i4 b) a x:=bJ5 hv hw
def ba3{h:Hp}{v:Value}{x:St}{w:World}(hv:SV h v x)(hw:B5 h (i4 w)):∃a c b,(Instr.alloc 109 true (.tuple #[])).run prog w = .ok (.pointer (some a)) c/\(Instr.storeAt 109 (.pointer (some a)) v).run prog c = .ok () b/\o7 w b/\At (i4 b) a x:=bA6 hv hw cm5 rfl Z7
def cp8{h:Hp}{cs:List Value}{x:Pr}:A4.enc h cs x->∃a c b d,cs=([p6 x.name]:List Value)++([a]:List Value)++([c]:List Value)++([b]:List Value)++([d]:List Value)/\R h a x.params/\R h c x.vars/\R h b x.body/\R h d x.fin:=by
 rintro⟨j,k,l,m,rfl,e,f,g,i⟩;exact⟨j,k,l,m,rfl,e,f,g,i⟩
def At.pr{h:Hp}{a:Addr}{x:Pr}(r:At h a x):∃b d c f,R h b x.params/\R h d x.vars/\R h c x.body/\R h f x.fin/\(∀w,B5 h (i4 w)->Q0 prog w 9 a (p6 x.name)/\Q0 prog w 72 (a.add 1) b/\Q0 prog w 31 (a.add 2) d/\Q0 prog w 73 (a.add 3) c/\Q0 prog w 31 (a.add 4) f)/\(∀(S:World->Prop) (q:World),S q->(∀w,S w->B5 h (i4 w))->Q4 prog S 9 a (p6 x.name)/\Q4 prog S 72 (a.add 1) b/\Q4 prog S 31 (a.add 2) d/\Q4 prog S 73 (a.add 3) c/\Q4 prog S 31 (a.add 4) f):=by
 obtain⟨t,s,k⟩:=r;obtain⟨b,d,c,f,rfl,i,m,l,n⟩:=cp8 s;exact⟨_,_,_,_,i,m,l,n,λw j=>⟨E7 k rfl V4 w j,z6 k (o:=1) rfl cu0 w j,z6 k (o:=2) rfl O0 w j,z6 k (o:=3) rfl aF4 w j,z6 k (o:=4) rfl O0 w j⟩,λS q p j=>⟨T7 p λg e=>E7 k rfl V4 g (j g e),T7 p λg e=>z6 k (o:=1) rfl cu0 g (j g e),T7 p λg e=>z6 k (o:=2) rfl O0 g (j g e),T7 p λg e=>z6 k (o:=3) rfl aF4 g (j g e),T7 p λg e=>z6 k (o:=4) rfl O0 g (j g e)⟩⟩
def K7.pr{h k:Hp}{a:Addr}{v:Value}{x:Pr}(hv:SV h v x)(u:K7 k a v):∃b d c f,R h b x.params/\R h d x.vars/\R h c x.body/\R h f x.fin/\(∀w,B5 k (i4 w)->Q0 prog w 9 a (p6 x.name)/\Q0 prog w 72 (a.add 1) b/\Q0 prog w 31 (a.add 2) d/\Q0 prog w 73 (a.add 3) c/\Q0 prog w 31 (a.add 4) f)/\(∀(S:World->Prop) (r:World),S r->(∀w,S w->B5 k (i4 w))->Q4 prog S 9 a (p6 x.name)/\Q4 prog S 72 (a.add 1) b/\Q4 prog S 31 (a.add 2) d/\Q4 prog S 73 (a.add 3) c/\Q4 prog S 31 (a.add 4) f):=by
 obtain⟨z,rfl,y⟩:=hv;obtain⟨s,t,l⟩:=u;obtain rfl:=ag2 t;obtain⟨b,d,c,f,rfl,i,n,m,p⟩:=cp8 y;exact⟨_,_,_,_,i,n,m,p,λw j=>⟨E7 l rfl V4 w j,z6 l (o:=1) rfl cu0 w j,z6 l (o:=2) rfl O0 w j,z6 l (o:=3) rfl aF4 w j,z6 l (o:=4) rfl O0 w j⟩,λS r q j=>⟨T7 q λg e=>E7 l rfl V4 g (j g e),T7 q λg e=>z6 l (o:=1) rfl cu0 g (j g e),T7 q λg e=>z6 l (o:=2) rfl O0 g (j g e),T7 q λg e=>z6 l (o:=3) rfl aF4 g (j g e),T7 q λg e=>z6 l (o:=4) rfl O0 g (j g e)⟩⟩
def K7.pr_v{h k:Hp}{a:Addr}{v:Value}{x:Pr}(hv:SV h v x)(b:K7 k a v):(∀w,B5 k (i4 w)->Q0 prog w 75 a v)/\(∀(S:World->Prop) (c:World),S c->(∀w,S w->B5 k (i4 w))->Q4 prog S 75 a v):=b.whole hv av8 av9 at7 R2
def cY8{h:Hp}{v:Value}{x:Pr}{w:World}(N:Nat->Prop)(hv:SV h v x)(hN:∀b,N b->b<w.heap.size):∃a c,(Instr.box 75 v).run prog w = .ok (.pointer (some a)) c/\o7 w c/\K7 (B6 c N) a v:=cd9 hv hN
def ba4{h:Hp}{v:Value}{x:Pr}{w:World}(N:Nat->Prop)(hv:SV h v x)(hN:∀b,N b->b<w.heap.size):∃a d c,(Instr.alloc 75 true (.tuple #[])).run prog w = .ok (.pointer (some a)) d/\(Instr.storeAt 75 (.pointer (some a)) v).run prog d = .ok () c/\o7 w c/\K7 (B6 c N) a v:=cm7 hv hN cU8 rfl R2
def bm6{h:Hp}{v:Value}{x:Pr}{w:World}(hv:SV h v x)(hw:B5 h (i4 w)):∃a b,(Instr.box 75 v).run prog w = .ok (.pointer (some a)) b/\o7 w b/\At (i4 b) a x:=bJ5 hv hw
def aN7{h:Hp}{v:Value}{x:Pr}{w:World}(hv:SV h v x)(hw:B5 h (i4 w)):∃a c b,(Instr.alloc 75 true (.tuple #[])).run prog w = .ok (.pointer (some a)) c/\(Instr.storeAt 75 (.pointer (some a)) v).run prog c = .ok () b/\o7 w b/\At (i4 b) a x:=bA6 hv hw cU8 rfl R2
def bK8{h:Hp}{cs:List Value}{x:Pg}:A4.enc h cs x->∃a b,cs=([a]:List Value)++([b]:List Value)/\R h a x.globals/\R h b x.procs:=by
 rintro⟨e,f,rfl,c,d⟩;exact⟨e,f,rfl,c,d⟩
def At.pg{h:Hp}{a:Addr}{x:Pg}(m:At h a x):∃b c,R h b x.globals/\R h c x.procs/\(∀w,B5 h (i4 w)->Q0 prog w 31 a b/\Q0 prog w 32 (a.add 1) c)/\(∀(S:World->Prop) (l:World),S l->(∀w,S w->B5 h (i4 w))->Q4 prog S 31 a b/\Q4 prog S 32 (a.add 1) c):=by
 obtain⟨p,n,j⟩:=m;obtain⟨b,c,rfl,d,e⟩:=bK8 n;exact⟨_,_,d,e,λw g=>⟨E7 j rfl O0 w g,z6 j (o:=1) rfl cb7 w g⟩,λS l k g=>⟨T7 k λi f=>E7 j rfl O0 i (g i f),T7 k λi f=>z6 j (o:=1) rfl cb7 i (g i f)⟩⟩
def K7.pg{h k:Hp}{a:Addr}{v:Value}{x:Pg}(hv:SV h v x)(q:K7 k a v):∃b c,R h b x.globals/\R h c x.procs/\(∀w,B5 k (i4 w)->Q0 prog w 31 a b/\Q0 prog w 32 (a.add 1) c)/\(∀(S:World->Prop) (m:World),S m->(∀w,S w->B5 k (i4 w))->Q4 prog S 31 a b/\Q4 prog S 32 (a.add 1) c):=by
 obtain⟨s,rfl,r⟩:=hv;obtain⟨n,p,j⟩:=q;obtain rfl:=ag2 p;obtain⟨b,c,rfl,d,e⟩:=bK8 r;exact⟨_,_,d,e,λw g=>⟨E7 j rfl O0 w g,z6 j (o:=1) rfl cb7 w g⟩,λS m l g=>⟨T7 l λi f=>E7 j rfl O0 i (g i f),T7 l λi f=>z6 j (o:=1) rfl cb7 i (g i f)⟩⟩
def K7.pg_v{h k:Hp}{a:Addr}{v:Value}{x:Pg}(hv:SV h v x)(b:K7 k a v):(∀w,B5 k (i4 w)->Q0 prog w 34 a v)/\(∀(S:World->Prop) (c:World),S c->(∀w,S w->B5 k (i4 w))->Q4 prog S 34 a v):=b.whole hv cS8 cU0 cT0 cb9
def ag6{h:Hp}{v:Value}{x:Pg}{w:World}(N:Nat->Prop)(hv:SV h v x)(hN:∀b,N b->b<w.heap.size):∃a c,(Instr.box 34 v).run prog w = .ok (.pointer (some a)) c/\o7 w c/\K7 (B6 c N) a v:=cd9 hv hN
def At.pg_v{h:Hp}{a:Addr}{x:Pg}(c:At h a x):∃b,SV h b x/\(∀w,B5 h (i4 w)->Q0 prog w 34 a b)/\(∀(S:World->Prop) (d:World),S d->(∀w,S w->B5 h (i4 w))->Q4 prog S 34 a b):=c.sv2 cS8 cU0 cT0 cb9
def X5{h:Hp}{v:Value}{x:Pg}{w:World}(hv:SV h v x)(hw:B5 h (i4 w)):∃a b,(Instr.box 34 v).run prog w = .ok (.pointer (some a)) b/\o7 w b/\At (i4 b) a x:=bJ5 hv hw
def df1{h:Hp}{v:Value}{x:Pg}{w:World}(hv:SV h v x)(hw:B5 h (i4 w)):∃a c b,(Instr.alloc 34 true (.tuple #[])).run prog w = .ok (.pointer (some a)) c/\(Instr.storeAt 34 (.pointer (some a)) v).run prog c = .ok () b/\o7 w b/\At (i4 b) a x:=bA6 hv hw dk3 rfl cb9
def aL3{h:Hp}{cs:List Value}{x:It}:A4.enc h cs x->∃a,cs=a++([.int .i64 x.proc]:List Value)++([.int .i64 x.up]:List Value)++([.int .i64 x.next]:List Value)++([.int .i64 x.loop]:List Value)/\A4.enc h a x.s:=by
 rintro⟨c,rfl,b⟩;exact⟨c,by simp,b⟩
def At.it{h:Hp}{a:Addr}{x:It}(E:At h a x):At h a x.s/\(∀w,B5 h (i4 w)->Q0 prog w 3 (a.add 13) (.int .i64 x.proc)/\Q0 prog w 3 (a.add 14) (.int .i64 x.up)/\Q0 prog w 3 (a.add 15) (.int .i64 x.next)/\Q0 prog w 3 (a.add 16) (.int .i64 x.loop))/\(∀(S:World->Prop) (C:World),S C->(∀w,S w->B5 h (i4 w))->Q4 prog S 3 (a.add 13) (.int .i64 x.proc)/\Q4 prog S 3 (a.add 14) (.int .i64 x.up)/\Q4 prog S 3 (a.add 15) (.int .i64 x.next)/\Q4 prog S 3 (a.add 16) (.int .i64 x.loop)):=by
 obtain⟨G,F,e⟩:=E;obtain⟨D,rfl,g⟩:=aL3 F;obtain⟨p,q,r,s,t,v,y,z,A,B,k,l,n,rfl⟩:=bt7 (A4.len g);exact⟨bo9 e g (λj u b=>by
  match j,b with
  | 0,b=>exact b
  | 1,b=>exact b
  | 2,b=>exact b
  | 3,b=>exact b
  | 4,b=>exact b
  | 5,b=>exact b
  | 6,b=>exact b
  | 7,b=>exact b
  | 8,b=>exact b
  | 9,b=>exact b
  | 10,b=>exact b
  | 11,b=>exact b
  | 12,b=>exact b
  | m+13,b=>simp at b),λw f=>⟨z6 e (o:=13) rfl G3 w f,z6 e (o:=14) rfl G3 w f,z6 e (o:=15) rfl G3 w f,z6 e (o:=16) rfl G3 w f⟩,λS C i f=>⟨T7 i λd c=>z6 e (o:=13) rfl G3 d (f d c),T7 i λd c=>z6 e (o:=14) rfl G3 d (f d c),T7 i λd c=>z6 e (o:=15) rfl G3 d (f d c),T7 i λd c=>z6 e (o:=16) rfl G3 d (f d c)⟩⟩
def K7.it{h k:Hp}{a:Addr}{v:Value}{x:It}(hv:SV h v x)(J:K7 k a v):∃i,SV h i x.s/\K7 k a i/\(∀w,B5 k (i4 w)->Q0 prog w 3 (a.add 13) (.int .i64 x.proc)/\Q0 prog w 3 (a.add 14) (.int .i64 x.up)/\Q0 prog w 3 (a.add 15) (.int .i64 x.next)/\Q0 prog w 3 (a.add 16) (.int .i64 x.loop))/\(∀(S:World->Prop) (F:World),S F->(∀w,S w->B5 k (i4 w))->Q4 prog S 3 (a.add 13) (.int .i64 x.proc)/\Q4 prog S 3 (a.add 14) (.int .i64 x.up)/\Q4 prog S 3 (a.add 15) (.int .i64 x.next)/\Q4 prog S 3 (a.add 16) (.int .i64 x.loop)):=by
 obtain⟨L,rfl,K⟩:=hv;obtain⟨H,I,e⟩:=J;obtain rfl:=ag2 I;obtain⟨G,rfl,g⟩:=aL3 K;obtain⟨r,s,t,y,z,A,B,C,D,E,n,p,q,rfl⟩:=bt7 (A4.len g);exact⟨_,⟨_,rfl,g⟩,bB4 e (λj u b=>by
  match j,b with
  | 0,b=>exact b
  | 1,b=>exact b
  | 2,b=>exact b
  | 3,b=>exact b
  | 4,b=>exact b
  | 5,b=>exact b
  | 6,b=>exact b
  | 7,b=>exact b
  | 8,b=>exact b
  | 9,b=>exact b
  | 10,b=>exact b
  | 11,b=>exact b
  | 12,b=>exact b
  | m+13,b=>simp at b),λw f=>⟨z6 e (o:=13) rfl G3 w f,z6 e (o:=14) rfl G3 w f,z6 e (o:=15) rfl G3 w f,z6 e (o:=16) rfl G3 w f⟩,λS F l f=>⟨T7 l λd c=>z6 e (o:=13) rfl G3 d (f d c),T7 l λd c=>z6 e (o:=14) rfl G3 d (f d c),T7 l λd c=>z6 e (o:=15) rfl G3 d (f d c),T7 l λd c=>z6 e (o:=16) rfl G3 d (f d c)⟩⟩
def K7.it_v{h k:Hp}{a:Addr}{v:Value}{x:It}(hv:SV h v x)(b:K7 k a v):(∀w,B5 k (i4 w)->Q0 prog w 150 a v)/\(∀(S:World->Prop) (c:World),S c->(∀w,S w->B5 k (i4 w))->Q4 prog S 150 a v):=b.whole hv X0 X2 V5 H9
def cY7{h:Hp}{v:Value}{x:It}{w:World}(N:Nat->Prop)(hv:SV h v x)(hN:∀b,N b->b<w.heap.size):∃a c,(Instr.box 150 v).run prog w = .ok (.pointer (some a)) c/\o7 w c/\K7 (B6 c N) a v:=cd9 hv hN
def aN8{h:Hp}{v:Value}{x:It}{w:World}(N:Nat->Prop)(hv:SV h v x)(hN:∀b,N b->b<w.heap.size):∃a d c,(Instr.alloc 150 true (.tuple #[])).run prog w = .ok (.pointer (some a)) d/\(Instr.storeAt 150 (.pointer (some a)) v).run prog d = .ok () c/\o7 w c/\K7 (B6 c N) a v:=cm7 hv hN cm6 rfl H9
def co6{h:Hp}{v:Value}{x:It}{w:World}(hv:SV h v x)(hw:B5 h (i4 w)):∃a b,(Instr.box 150 v).run prog w = .ok (.pointer (some a)) b/\o7 w b/\At (i4 b) a x:=bJ5 hv hw
def ak8{h:Hp}{v:Value}{x:It}{w:World}(hv:SV h v x)(hw:B5 h (i4 w)):∃a c b,(Instr.alloc 150 true (.tuple #[])).run prog w = .ok (.pointer (some a)) c/\(Instr.storeAt 150 (.pointer (some a)) v).run prog c = .ok () b/\o7 w b/\At (i4 b) a x:=bA6 hv hw cm6 rfl H9
def da4{h:Hp}{cs:List Value}{x:Sh}:A4.enc h cs x->∃d e b a,cs=d++([e]:List Value)++([b]:List Value)++([a]:List Value)/\A4.enc h d x.p/\R h e x.l/\R h b x.lo/\R h a x.hi:=by
 rintro⟨c,k,l,m,rfl,f,g,i,j⟩;exact⟨c,k,l,m,by simp,f,g,i,j⟩
def At.sh{h:Hp}{a:Addr}{x:Sh}(z:At h a x):∃e c b,R h e x.l/\R h c x.lo/\R h b x.hi/\At h a x.p/\(∀w,B5 h (i4 w)->Q0 prog w 151 (a.add 2) e/\Q0 prog w 24 (a.add 3) c/\Q0 prog w 24 (a.add 4) b)/\(∀(S:World->Prop) (v:World),S v->(∀w,S w->B5 h (i4 w))->Q4 prog S 151 (a.add 2) e/\Q4 prog S 24 (a.add 3) c/\Q4 prog S 24 (a.add 4) b):=by
 obtain⟨B,A,g⟩:=z;obtain⟨y,e,c,b,rfl,p,r,n,l⟩:=da4 A;obtain⟨s,t,rfl⟩:=dv6 (A4.len p);exact⟨_,_,_,r,n,l,bo9 g p (λj u i=>by
  match j,i with
  | 0,i=>exact i
  | 1,i=>exact i
  | m+2,i=>simp at i),λw k=>⟨z6 g (o:=2) rfl bf1 w k,z6 g (o:=3) rfl ad0 w k,z6 g (o:=4) rfl ad0 w k⟩,λS v q k=>⟨T7 q λf d=>z6 g (o:=2) rfl bf1 f (k f d),T7 q λf d=>z6 g (o:=3) rfl ad0 f (k f d),T7 q λf d=>z6 g (o:=4) rfl ad0 f (k f d)⟩⟩
def aC1(c:UInt8):Bool:=decide (97<=c.toNat)&&decide (c.toNat<=122)
def bK6(c:UInt8):Bool:=decide (48<=c.toNat)&&decide (c.toNat<=57)
def ad5(c:UInt8):Bool:=aC1 c||bK6 c
def cn3:List A6:=[ofA #[103,108,111,98,97,108],ofA #[112,114,111,99],ofA #[118,97,114],ofA #[114,101,102],ofA #[105,102],ofA #[101,108,115,101],ofA #[119,104,105,108,101],ofA #[98,114,101,97,107],ofA #[99,111,110,116,105,110,117,101],ofA #[114,101,116,117,114,110],ofA #[103,111,116,111],ofA #[114,101,97,100],ofA #[112,114,105,110,116]]
def cc4(s:A6):Bool:=cn3.contains s
def R0(s:A6):Bool:=match s.b with
 | []=>false
 | c::l=>decide (l.length<8)&&aC1 c&&l.all ad5 && !cc4 s
def ae1(l:List A6):Bool:=l.all R0
def ay4(op:Int):Int:=if op=1\/op=2 then 0 else if op=3\/op=4 then 1 else if 5<=op/\op<=17 then 2 else -1
def ab0:Nat->Ex->Bool
 | 0,_=>false
 | n+1,x=>if(x.kids.length:Int)≠ay4 x.op then false
   else if x.op=1 then decide (0<=x.n)&&decide (x.name=e0)
   else if x.op=2 then decide (x.n=0)&&R0 x.name
   else if x.n≠0\/x.name≠e0 then false
   else x.kids.all (ab0 n)
def cP1(x:Ex):Bool:=decide (x.op=0)&&decide (x.n=0)&&decide (x.name=e0)&&decide (x.kids.length=0)
def Z3(s:A6)(b:Bool):Bool:=(b&&R0 s)||(!b&&decide (s=e0))
def ak0(x:Ex)(b:Bool):Bool:=(b&&ab0 20 x)||(!b&&cP1 x)
def aL6(l:List Ar):Bool:=l.all λa=>Z3 a.name a.ref&&ak0 a.x (!a.ref)
structure Fl where
 name:Bool
 proc:Bool
 x:Bool
 has:Bool
 thn:Bool
 els:Bool
def X6(s:St):Option Fl:=
 if s.kind=1 then some ⟨true,false,true,s.has,false,false⟩
 else if s.kind=2\/s.kind=10 then some ⟨true,false,false,s.has,false,false⟩
 else if s.kind=3 then some ⟨false,false,true,s.has,false,false⟩
 else if s.kind=4 then some ⟨decide (s.name≠e0),true,false,s.has,false,false⟩
 else if s.kind=5 then some ⟨false,false,true,s.has,true,true⟩
 else if s.kind=6 then some ⟨false,false,true,s.has,true,false⟩
 else if s.kind=9 then some ⟨false,false,s.has,false,false,false⟩
 else if s.kind=7\/s.kind=8 then some ⟨false,false,false,s.has,false,false⟩
 else none
def U9(s:St):Bool:=match X6 s with
 | none=>false
 | some k=>!(k.has||(!k.thn&&decide (0<s.thn.length))||(!k.els&&decide (0<s.els.length))||(!decide (s.kind=4)&&decide (0<s.args.length))) &&
   Z3 s.name k.name&&Z3 s.proc k.proc&&ak0 s.x k.x&&aL6 s.args
def K5:Nat->List St->Int->Option Int
 | 0,l,n=>if l.length=0 then some n else none
 | d+1,l,n=>l.foldlM (λn s=>if n+1>200\/s.id≠n+1\/ae1 s.labels=false\/U9 s=false then none else(K5 d s.thn (n+1)).bind λm=>K5 d s.els m) n
def V8(f:Pr)(n:Int):Option Int:=
 if f.params.length>8\/f.vars.length>16\/R0 f.name=false\/ae1 f.vars=false\/ae1 f.fin=false\/(f.params.all λa=>R0 a.name)=false then none else K5 12 f.body n
def N2(p:Pg):Bool:=decide (p.globals.length<=16)&&decide (p.procs.length<=16)&&ae1 p.globals&&(p.procs.foldlM (λn f=>V8 f n) 0).isSome
mutual
def ak5:Ex->List A6->List A6
 | .mk op _ name kids,out=>ao5 kids (if op=2/\out.contains name=false then out++[name]else out)
def ao5:List Ex->List A6->List A6
 | [],out=>out
 | x::xs,out=>ao5 xs (ak5 x out)
end
def ae2(x:Ex):List A6:=if ab0 20 x then ak5 x []else[]
mutual
def ac9:St->Nat
 | .mk _ _ _ _ _ _ _ _ thn els=>1+A9 thn+A9 els
def A9:List St->Nat
 | []=>0
 | t::l=>ac9 t+A9 l
end
def az6(t:St):ac9 t=1+A9 t.thn+A9 t.els:=by
 cases t;simp only[ac9,St.thn,St.els]
def bG7(t:St):0<ac9 t:=by rw[az6];omega
def cf0:∀{l:List St} {t:St},t∈l->ac9 t<=A9 l
 | s::l,t,h=>by
  rw[A9];rcases dO6.1 h with rfl|h
  ·omega
  ·have:=cf0 h;omega
def aQ7:∀(l m:List St),A9 (l++m)=A9 l+A9 m
 | [],m=>by simp[A9]
 | s::l,m=>by rw[dX6,A9,A9,aQ7 l m];omega
def U7:∀(l:List St),l.length<=A9 l
 | []=>by simp
 | s::l=>by have:=U7 l;have:=bG7 s;rw[A9,dP4];omega
def wtT(s:A6):Nat:=1+s.b.length
def aA3:List A6->Nat
 | []=>0
 | s::l=>wtT s+aA3 l
mutual
def U3:Ex->Nat
 | .mk _ _ name kids=>wtT name+au1 kids
def au1:List Ex->Nat
 | []=>0
 | x::l=>U3 x+au1 l
end
def an3(a:Ar):Nat:=U3 a.x+wtT a.name
def ad1:List Ar->Nat
 | []=>0
 | a::l=>an3 a+ad1 l
mutual
def R4:St->Nat
 | .mk _ _ labels name proc x _ args thn els=>U3 x+aA3 labels+wtT name+wtT proc+ad1 args+I1 thn+I1 els
def I1:List St->Nat
 | []=>0
 | x::l=>R4 x+I1 l
end
def by9:List Pa->Nat
 | []=>0
 | a::l=>wtT a.name+by9 l
def X3(f:Pr):Nat:=wtT f.name+aA3 f.vars+aA3 f.fin+by9 f.params+I1 f.body
def aF6:List Pr->Nat
 | []=>0
 | f::l=>X3 f+aF6 l
def C5(p:Pg):Nat:=aA3 p.globals+aF6 p.procs
def W0:∀(l:List A6),l.length<=aA3 l
 | []=>by simp[aA3]
 | s::l=>by have:=W0 l;simp only[aA3,wtT,dP4];omega
def aK6(x:Ex):1<=U3 x:=by cases x;simp only[U3,wtT];omega
def bI0:∀(l:List Ex),l.length<=au1 l
 | []=>by simp[au1]
 | s::l=>by have:=bI0 l;have:=aK6 s;simp only[au1,dP4];omega
def bg0:∀{l:List Ex} {s:Ex},s∈l->U3 s<=au1 l
 | t::l,s,h=>by
  simp only[au1];rcases dO6.1 h with rfl|h
  ·omega
  ·have:=bg0 h;omega
def bQ0(x:Ex):U3 x=wtT x.name+au1 x.kids:=by cases x;simp only[U3,Ex.name,Ex.kids]
def aq6:∀(l:List Ar),l.length<=ad1 l
 | []=>by simp[ad1]
 | s::l=>by have:=aq6 l;have:=aK6 s.x;simp only[ad1,an3,dP4];omega
def aO0:∀{l:List Ar} {s:Ar},s∈l->an3 s<=ad1 l
 | t::l,s,h=>by
  simp only[ad1];rcases dO6.1 h with rfl|h
  ·omega
  ·have:=aO0 h;omega
def S8(s:St):R4 s=U3 s.x+aA3 s.labels+wtT s.name+wtT s.proc+ad1 s.args+I1 s.thn+I1 s.els:=by
 cases s;simp only[R4,St.x,St.labels,St.name,St.proc,St.args,St.thn,St.els]
def cc5(s:St):3<=R4 s:=by rw[S8];have:=aK6 s.x;simp only[wtT];omega
def bI5:∀(l:List St),3*l.length<=I1 l
 | []=>by simp[I1]
 | s::l=>by have:=bI5 l;have:=cc5 s;simp only[I1,dP4];omega
def ak2:∀{l:List St} {s:St},s∈l->R4 s<=I1 l
 | t::l,s,h=>by
  simp only[I1];rcases dO6.1 h with rfl|h
  ·omega
  ·have:=ak2 h;omega
def ak1:∀(l:List Pa),l.length<=by9 l
 | []=>by simp[by9]
 | s::l=>by have:=ak1 l;simp only[by9,wtT,dP4];omega
def ag0:∀(l:List Pr),l.length<=aF6 l
 | []=>by simp[aF6]
 | s::l=>by have:=ag0 l;simp only[aF6,X3,wtT,dP4];omega
def aq7:∀{l:List Pr} {s:Pr},s∈l->X3 s<=aF6 l
 | t::l,s,h=>by
  simp only[aF6];rcases dO6.1 h with rfl|h
  ·omega
  ·have:=aq7 h;omega
mutual
def bI4:∀(s:St),3*ac9 s<=R4 s
 | .mk _ _ labels name proc x _ args thn els=>by
  have a:=au2 thn;have b:=au2 els;have c:=aK6 x;simp only[ac9,R4,wtT];omega
def au2:∀(l:List St),3*A9 l<=I1 l
 | []=>by simp[A9,I1]
 | s::l=>by
  have a:=bI4 s;have b:=au2 l;simp only[A9,I1];omega
end
def dY5:=@Bool.or_true
def dY4:=@Bool.true_or
def dM6:=@List.forall_mem_cons
def dN6:=@Nat.zero_le
def dR5:=@decide_eq_decide
def zJ{a b:Prop}(x:a)(y:b):a/\b:=⟨x,y⟩
def n8:=zJ (zJ (zJ (zJ (zJ (zJ @bn7 @dC4) (zJ @dB7 (zJ @ds5 @dC0))) (zJ (zJ @dC1 @dB8) (zJ @dB9 (zJ @dG0 @dF6)))) (zJ (zJ (zJ @dz6 @dF7) (zJ @dF8 (zJ @dt6 @dq9))) (zJ (zJ @dt7 @dt8) (zJ @dE3 (zJ @dE2 @dC6))))) (zJ (zJ (zJ (zJ @dG2 @dK2) (zJ @ds3 (zJ @dF2 @ds4))) (zJ (zJ @dF3 @dI5) (zJ @dK7 (zJ @dd0 @dx8)))) (zJ (zJ (zJ @dd1 @dx9) (zJ @dy0 (zJ @dn8 @di4))) (zJ (zJ @di3 @dx7) (zJ @dI7 (zJ @dI6 @dn7)))))) (zJ (zJ (zJ (zJ (zJ @dI9 @dI8) (zJ @dF0 (zJ @cW7 @dw9))) (zJ (zJ @dI0 @dc8) (zJ @dr9 (zJ @dn3 @dH5)))) (zJ (zJ (zJ @dI1 @dr8) (zJ @dE9 (zJ @dx1 @dE8))) (zJ (zJ @ev.eq_1 @ev.eq_2) (zJ @ev.eq_3 (zJ @ev.eq_4 @C4.eq_1))))) (zJ (zJ (zJ (zJ @C4.eq_2 @dK1) (zJ @dI2 (zJ @dJ1 @dJ2))) (zJ (zJ @List.map_cons.{0,0} @List.map_nil.{0,0}) (zJ @List.map_toArray.{0,0} (zJ @bQ9.eq_1 @bQ9.eq_2)))) (zJ (zJ (zJ @dm1 @dD9) (zJ @dE0 (zJ @cL6.eq_1 @List.getElem?_toArray.{0}))) (zJ (zJ @List.getElem?_cons_zero.{0} (zJ @List.getElem?_cons_succ.{0} @Option.bind_some.{0,0})) (zJ @Option.some.injEq.{0} (zJ @dS7 @Bool.true_eq_false))))))
def o6:=zJ (zJ (zJ (zJ (zJ @dx0 (zJ @dw7 @du6)) (zJ @Option.map_some.{0,0} (zJ @Option.map_none.{0,0} @Int.toNat_zero))) (zJ (zJ @Option.isNone_none.{0} (zJ @Option.isNone_some.{0} @L7)) (zJ @bL3.eq_1 (zJ @bL3.eq_2 @cZ3.eq_1)))) (zJ (zJ (zJ @bg9.eq_1 (zJ @bg9.eq_2 @cO4.eq_1)) (zJ @cO2.eq_1 (zJ @TY @Option.isSome_some.{0}))) (zJ (zJ @dT7 (zJ @Bool.and_true @dT8)) (zJ @dP0 (zJ @dH2 @Int.cast_ofNat_Int))))) (zJ (zJ (zJ (zJ @decide_true (zJ @add_lit @dQ2)) (zJ @Nat.zero_mul (zJ @Nat.one_mul @Bool.not_true))) (zJ (zJ @Bool.not_false (zJ @dH3 @dv5)) (zJ @dD4 (zJ @dD3 @dD2)))) (zJ (zJ (zJ @dD1 (zJ @dD0 @dD7)) (zJ @dC8 (zJ @dD8 @dt5))) (zJ (zJ @dt4 (zJ @dC9 @dD6)) (zJ (zJ @co4 @cY4) (zJ @dD5 @dK0)))))
def bt6(c:UInt8)(w:World):p7 prog 157 #[.int .u8 c.toNat] w λu d=>(u = .bool (aC1 c)/\d=w):=by
 refine p9 [.int .u8 c.toNat] func157 rfl ?_;unfold aC1;have a:decide ((97:Int)<=(c.toNat:Int))=decide (97<=c.toNat):=dR5.2 (by omega);have b:decide ((c.toNat:Int)<=(122:Int))=decide (c.toNat<=122):=dR5.2 (by omega);cases hb:decide (97<=c.toNat)
 ·simp only[n8,o6,simprocAttr,a,hb];exact o8 results157 ⟨rfl,by trivial⟩
 ·simp only[n8,o6,simprocAttr,a,b,hb];refine o8 results157 ?_;simp only[p8,simprocAttr];exact⟨by simp,by trivial⟩
def cy5(c:UInt8)(w:World):p7 prog 204 #[.int .u8 c.toNat] w λu d=>(u = .bool (bK6 c)/\d=w):=by
 refine p9 [.int .u8 c.toNat] func204 rfl ?_;unfold bK6;have a:decide ((48:Int)<=(c.toNat:Int))=decide (48<=c.toNat):=dR5.2 (by omega);have b:decide ((c.toNat:Int)<=(57:Int))=decide (c.toNat<=57):=dR5.2 (by omega);cases hb:decide (48<=c.toNat)
 ·simp only[n8,o6,simprocAttr,a,hb];exact o8 results204 ⟨rfl,by trivial⟩
 ·simp only[n8,o6,simprocAttr,a,b,hb];refine o8 results204 ?_;simp only[p8,simprocAttr];exact⟨by simp,by trivial⟩
def cH0(s:A6)(w:World):p7 prog 159 #[p6 s] w λu o=>(u = .bool (cc4 s)/\o=w):=by
 refine p9 [p6 s] func159 rfl ?_;have a:cc4 s=cn3.any λx=>decide (s=x):=by
  unfold cc4;rw[<-List.any_beq]
  congr 1
 simp only[cn3,List.any_cons,List.any_nil]at a;simp only[n8,o6,simprocAttr];refine n7 (λf=>?_) (λf=>?_)
 ·simp only[n8,simprocAttr,f];refine o8 results159 ?_;simp only[p8,simprocAttr];exact⟨by rw[a];simp only[f,dY4],by trivial⟩
 simp only[n8,o6,simprocAttr];refine n7 (λg=>?_) (λg=>?_)
 ·simp only[n8,simprocAttr,g];refine o8 results159 ?_;simp only[p8,simprocAttr];exact⟨by rw[a];simp only[g,dY4,dY5],by trivial⟩
 simp only[n8,o6,simprocAttr];refine n7 (λh=>?_) (λh=>?_)
 ·simp only[n8,simprocAttr,h];refine o8 results159 ?_;simp only[p8,simprocAttr];exact⟨by rw[a];simp only[h,dY4,dY5],by trivial⟩
 simp only[n8,o6,simprocAttr];refine n7 (λi=>?_) (λi=>?_)
 ·simp only[n8,simprocAttr,i];refine o8 results159 ?_;simp only[p8,simprocAttr];exact⟨by rw[a];simp only[i,dY4,dY5],by trivial⟩
 simp only[n8,o6,simprocAttr];refine n7 (λj=>?_) (λj=>?_)
 ·simp only[n8,simprocAttr,j];refine o8 results159 ?_;simp only[p8,simprocAttr];exact⟨by rw[a];simp only[j,dY4,dY5],by trivial⟩
 simp only[n8,o6,simprocAttr];refine n7 (λk=>?_) (λk=>?_)
 ·simp only[n8,simprocAttr,k];refine o8 results159 ?_;simp only[p8,simprocAttr];exact⟨by rw[a];simp only[k,dY4,dY5],by trivial⟩
 simp only[n8,o6,simprocAttr];refine n7 (λl=>?_) (λl=>?_)
 ·simp only[n8,simprocAttr,l];refine o8 results159 ?_;simp only[p8,simprocAttr];exact⟨by rw[a];simp only[l,dY4,dY5],by trivial⟩
 simp only[n8,o6,simprocAttr];refine n7 (λm=>?_) (λm=>?_)
 ·simp only[n8,simprocAttr,m];refine o8 results159 ?_;simp only[p8,simprocAttr];exact⟨by rw[a];simp only[m,dY4,dY5],by trivial⟩
 simp only[n8,o6,simprocAttr];refine n7 (λn=>?_) (λn=>?_)
 ·simp only[n8,simprocAttr,n];refine o8 results159 ?_;simp only[p8,simprocAttr];exact⟨by rw[a];simp only[n,dY4,dY5],by trivial⟩
 simp only[n8,o6,simprocAttr];refine n7 (λb=>?_) (λb=>?_)
 ·simp only[n8,simprocAttr,b];refine o8 results159 ?_;simp only[p8,simprocAttr];exact⟨by rw[a];simp only[b,dY4,dY5],by trivial⟩
 simp only[n8,o6,simprocAttr];refine n7 (λc=>?_) (λc=>?_)
 ·simp only[n8,simprocAttr,c];refine o8 results159 ?_;simp only[p8,simprocAttr];exact⟨by rw[a];simp only[c,dY4,dY5],by trivial⟩
 simp only[n8,o6,simprocAttr];refine n7 (λd=>?_) (λd=>?_)
 ·simp only[n8,simprocAttr,d];refine o8 results159 ?_;simp only[p8,simprocAttr];exact⟨by rw[a];simp only[d,dY4,dY5],by trivial⟩
 simp only[n8,o6,simprocAttr];refine n7 (λe=>?_) (λe=>?_)
 ·simp only[n8,simprocAttr];refine o8 results159 ?_;simp only[p8,simprocAttr];exact⟨by rw[a];simp only[e,dY4,dY5],by trivial⟩
 ·simp only[n8,simprocAttr];refine o8 results159 ?_;simp only[p8,simprocAttr];exact⟨by rw[a];simp only[f,g,h,i,j,k,l,m,n,b,c,d,e,Bool.or_false],by trivial⟩
def cZ4{s:A6}{k:Nat}(a:k<s.b.length):∃c,chr s k=some c/\s.b.take (k+1)=s.b.take k++[c]/\c∈s.b:=
 ⟨_,dM4 a,dN3 a,dN5 a⟩
def dd8(s:A6)(w:World)(r:s.b.length<=1000000):p7 prog 158 #[p6 s,.int .i64 0] w λu h=>(∃k:Nat,u = .int .i64 k/\decide (k=s.b.length)=s.b.all ad5/\h=w):=by
 refine p9 [p6 s,.int .i64 0] func158 rfl ?_;simp only[n8,o6,simprocAttr];refine n9 [0] (σ:=Nat) (λk f h=>f 1 = .int .i64 k/\k<=s.b.length/\(s.b.take k).all ad5=true/\h=w) (λk=>s.b.length-k) 0 ?_ ?_
 ·simp only[p8,simprocAttr];exact⟨by trivial,dN6 _,by simp,by trivial⟩
 ·rintro k f h m ⟨b,q,a,rfl⟩;simp only[dM6,p8,simprocAttr]at m;obtain⟨i,_⟩:=m;by_cases hlt:k<s.b.length
  ·have j:decide ((k:Int)<(s.b.length:Nat))=true:=by simpa using hlt
   obtain⟨c,p,g,e⟩:=cZ4 hlt;have d:=dh4 (P:=prog) (t:=9) (k:=.i64) dp8 dA0 p;simp only[n8,o6,simprocAttr,i,b,j,d];refine y5 (bt6 c _) ?_;rintro u v ⟨rfl,rfl⟩;cases hlet:aC1 c
   ·simp only[n8,simprocAttr,i,b,d];refine y5 (cy5 c _) ?_;rintro u x ⟨rfl,rfl⟩;cases hdig:bK6 c
    ·simp only[n8,simprocAttr,b];refine o8 results158 ?_;simp only[p8,simprocAttr];refine⟨k,by trivial,?_,by trivial⟩;have n:s.b.all ad5=false:=by
      rw[dX7];intro o;have:=dW0.1 o c e;simp[ad5,hlet,hdig]at this
     rw[n];simp;omega
    ·simp only[n8,o6,simprocAttr,b];refine⟨k+1,by omega,dO2 _ (B0 k (by omega)),by omega,?_,by trivial⟩;rw[g,List.all_append,a];simp[ad5,hdig]
   ·simp only[n8,o6,simprocAttr,b];refine⟨k+1,by omega,dO2 _ (B0 k (by omega)),by omega,?_,by trivial⟩;rw[g,List.all_append,a];simp[ad5,hlet]
  ·have j:decide ((k:Int)<(s.b.length:Nat))=false:=by simpa using hlt
   have l:k=s.b.length:=by omega
   simp only[n8,o6,simprocAttr,i,b,j];refine o8 results158 ?_;simp only[p8,simprocAttr];refine⟨k,by trivial,?_,by trivial⟩;subst l;rw[dN8]at a;rw[a];simp
def aG4(s:A6)(w:World):p7 prog 104 #[p6 s] w λu n=>(u = .bool (R0 s)/\n=w):=by
 refine p9 [p6 s] func104 rfl ?_;cases hs:s.b with
 | nil=>
  have g:s.b.length=0:=by rw[hs];rfl
  have e:decide (((s.b.length:Nat):Int)<1)=true:=by rw[g];rfl
  simp only[n8,o6,simprocAttr,e];refine o8 results104 ?_;simp only[p8,simprocAttr];exact⟨by rw[R0,hs],by trivial⟩
 | cons c l=>
  have g:s.b.length=l.length+1:=by rw[hs];rfl
  have b:R0 s=(decide (l.length<8)&&aC1 c&&l.all ad5 && !cc4 s):=by rw[R0,hs]
  have d:s.b.all ad5=(ad5 c&&l.all ad5):=by rw[hs];rfl
  have e:decide (((s.b.length:Nat):Int)<1)=false:=by rw[g];simp;omega
  have m:chr s 0=some c:=by unfold chr;rw[hs];rfl
  have f:M9 prog 9 (p6 s) (.int .i64 0)=some (.int .u8 (c.toNat:Int)):=dh4 (k:=.i64) (i:=0) dp8 dA0 m;cases h2:decide ((8:Int)<((s.b.length:Nat):Int))
  ·have h:l.length<8:=by simp at h2;omega
   simp only[n8,o6,simprocAttr,e,h2,f];refine y5 (bt6 c _) ?_;rintro u o ⟨rfl,rfl⟩;cases hlet:aC1 c
   ·simp only[n8,o6,simprocAttr];refine o8 results104 ?_;simp only[p8,simprocAttr];exact⟨by rw[b,hlet];simp,by trivial⟩
   ·simp only[n8,o6,simprocAttr];refine y5 (dd8 s _ (by omega)) ?_;rintro u p ⟨k,rfl,j,rfl⟩;have a:decide ((k:Int)=((s.b.length:Nat):Int))=l.all ad5:=by
     rw[d,show ad5 c=true by simp[ad5,hlet],dT7]at j;rw[<-j];exact dR5.2 (by omega)
    cases ha:l.all ad5
    ·rw[ha]at a;simp only[n8,o6,simprocAttr,a];refine o8 results104 ?_;simp only[p8,simprocAttr];exact⟨by rw[b,ha];simp,by trivial⟩
    ·rw[ha]at a;simp only[n8,o6,simprocAttr,a];refine y5 (cH0 s _) ?_;rintro u q ⟨rfl,rfl⟩;simp only[n8,o6,simprocAttr];refine o8 results104 ?_;simp only[p8,simprocAttr];exact⟨by rw[b,ha,hlet];simp[h],by trivial⟩
  ·simp only[n8,o6,simprocAttr,e,h2];refine o8 results104 ?_;simp only[p8,simprocAttr];exact⟨by rw[b,show decide (l.length<8)=false by simp at h2 ⊢;omega];rfl,by trivial⟩
def dX8:=@List.sum_cons
def D6:=zJ (zJ (zJ (zJ @dC5 @dG1) (zJ @dE7 @dr7)) (zJ (zJ @dn2 @dH4) (zJ @cW5 @dw6))) (zJ (zJ (zJ @dH9 @dc6) (zJ @dr6 @dE6)) (zJ (zJ @dw8 @dE5) (zJ @List.drop_succ_cons.{0} @List.drop_zero.{0})))
def aH3(l:List St){k:Nat}(a:k<l.length):A9 (l.take (k+1))=A9 (l.take k)+ac9 l[k]:=by
 rw[dN3 a,aQ7];simp[A9]
def ar8(l:List St)(k:Nat):A9 (l.take k)<=A9 l:=by
 have:=aQ7 (l.take k) (l.drop k);rw[dR8]at this;omega
def bw7:∀(m:Nat) (t:St) (v:Value) (w:World),ac9 t<=m->SV (i4 w) v t->R4 t<=1000000->p7 prog 195 #[v] w λu F=>(u = .int .i64 (ac9 t:Nat)/\o7 w F)
 | 0,t,v,w,hsm,_,_=>absurd (bG7 t) (by omega)
 | m+1,t,v,w,hsm,hv,hwt=>by
  refine p9 [v] func195 rfl ?_;obtain⟨a,W,O,hx,ha⟩:=ao2 hv (i5 _);obtain⟨vl,va,vt,ve,hl,af,I,H,Y,Z,sd⟩:=ha.st;have l1:=Z W (i5 _);have M:=I.isS;have S:=I.vlen;have N:=H.isS;have T:=H.vlen;have ag:=bI4 t;have Q:=az6 t;have ah:=S8 t;have ad:=U7 t.thn;have ae:=U7 t.els;simp only[n8,o6,simprocAttr,O,l1,M,S];refine n9 [1,9,10] (σ:=Nat) (λk f F=>f 11 = .int .i64 k/\k<=t.thn.length/\f 3 = .int .i64 ((1+A9 (t.thn.take k):Nat):Int)/\o7 W F) (λk=>t.thn.length-k) 0 ?_ ?_
  ·simp only[p8,simprocAttr];exact⟨by trivial,dN6 _,by simp[A9],o9.refl _⟩
  ·rintro k f w2 D ⟨h,R,j,c⟩;simp only[dM6,p8,simprocAttr]at D;obtain⟨X,e9,J,_⟩:=D;simp only[n8,o6,simprocAttr,h,J];refine n7 (λo=>?_) (λo=>?_)
   ·have d:k<t.thn.length:=by simpa using o
    have q:=I.inS d;obtain⟨sv,g,e⟩:=F9 (P:=prog) (t:=109) I (b7 c) (dM4 d) aS7 aT1 aD9 Z7;rw[Z7]at e;have y:=aH3 t.thn d;have E:=ar8 t.thn (k+1);have z:=ak2 (dN5 d);generalize t.thn[k]=s at g y z;obtain⟨b,wz,G,l,x,A,n⟩:=ba3 (g.mono (b7 c)) (i5 _);obtain⟨V,r,C,_⟩:=n.st_v;have U:=C G (i5 _);simp only[n8,o6,y0,simprocAttr,h,e9,q,e,l,x,U,j];refine B9 (bw7 m s V G (by omega) r (by omega)) (λw4 B=>?_);simp only[n8,o6,simprocAttr,h];exact⟨k+1,by omega,dO2 _ (B0 k (by omega)),by omega,by rw[M3 _ (by omega)];congr 1;omega,c.trans (A.trans B)⟩
   ·have p:k=t.thn.length:=by simp at o;omega
    subst p;rw[dN8]at j;have l2:=Z w2 (b7 c);simp only[n8,o6,simprocAttr,X,l2,N,T];refine n9 [1,21,22] (σ:=Nat) (λk f F=>f 23 = .int .i64 k/\k<=t.els.length/\f 3 = .int .i64 ((1+A9 t.thn+A9 (t.els.take k):Nat):Int)/\o7 W F) (λk=>t.els.length-k) 0 ?_ ?_
    ·simp only[p8,simprocAttr];exact⟨by trivial,dN6 _,by simp[A9,j],c⟩
    ·rintro k f w2 D ⟨i,R,j,c⟩;simp only[dM6,p8,simprocAttr]at D;obtain⟨X,K,L,_⟩:=D;simp only[n8,o6,simprocAttr,i,L];refine n7 (λo=>?_) (λo=>?_)
     ·have d:k<t.els.length:=by simpa using o
      have q:=H.inS d;obtain⟨sv,g,e⟩:=F9 (P:=prog) (t:=109) H (b7 c) (dM4 d) aS7 aT1 aD9 Z7;rw[Z7]at e;have y:=aH3 t.els d;have E:=ar8 t.els (k+1);have z:=ak2 (dN5 d);generalize t.els[k]=s at g y z;obtain⟨b,wz,G,l,x,A,n⟩:=ba3 (g.mono (b7 c)) (i5 _);obtain⟨V,r,C,_⟩:=n.st_v;have U:=C G (i5 _);simp only[n8,o6,y0,simprocAttr,i,K,q,e,l,x,U,j];refine B9 (bw7 m s V G (by omega) r (by omega)) (λw4 B=>?_);simp only[n8,o6,simprocAttr,i];exact⟨k+1,by omega,dO2 _ (B0 k (by omega)),by omega,by rw[M3 _ (by omega)];congr 1;omega,c.trans (A.trans B)⟩
     ·have p:k=t.els.length:=by simp at o;omega
      subst p;rw[dN8]at j;simp only[n8,simprocAttr,j];refine o8 results195 ?_;simp only[p8,simprocAttr];exact⟨by rw[Q],hx.trans c⟩
def cy3:∀(m:Nat) (l:List St) (v:Value) (w:World),A9 l<=m->R (i4 w) v l->I1 l<=1000000->p7 prog 86 #[v] w λu a=>(u = .int .i64 (A9 l:Nat)/\o7 w a):=by
 intro m
 induction m with
 | zero=>
  intro l v w E e J;have o:l.length=0:=by have:=U7 l;omega
  refine p9 [v] func86 rfl ?_;have x:=e.isS;have D:=e.vlen;simp only[n8,o6,simprocAttr,x,D];refine n9 [7,8] (σ:=Nat) (λk f a=>f 9 = .int .i64 0/\f 3 = .int .i64 ((l.length:Nat):Int)/\a=w) (λk=>0) 0 ?_ ?_
  ·simp only[p8,simprocAttr];exact⟨by trivial,by trivial,by trivial⟩
  ·rintro k f r n ⟨i,g,rfl⟩;simp only[dM6,p8,simprocAttr]at n;obtain⟨Q,s,_⟩:=n;have P:decide ((0:Int)<((l.length:Nat):Int))=false:=by rw[o];decide
   simp only[n8,o6,simprocAttr,i,s,P,g];refine o8 results86 ?_;simp only[p8,simprocAttr];exact⟨by rw[List.eq_nil_of_length_eq_zero o];rfl,o9.refl _⟩
 | succ m N=>
  intro l v w E e J;refine p9 [v] func86 rfl ?_;have x:=e.isS;have D:=e.vlen;have M:=au2 l;have S:=U7 l;simp only[n8,o6,simprocAttr,x,D];refine n9 [0,7,8] (σ:=Nat) (λk f a=>f 9 = .int .i64 k/\k<=l.length/\f 3 = .int .i64 ((l.length+A9 (l.take k)-k:Nat):Int)/\o7 w a) (λk=>l.length-k) 0 ?_ ?_
  ·simp only[p8,simprocAttr];exact⟨by trivial,dN6 _,by simp[A9],o9.refl _⟩
  ·rintro k f r n ⟨i,B,g,p⟩;simp only[dM6,p8,simprocAttr]at n;obtain⟨e0,Q,s,_⟩:=n;have C:=U7 (l.take k);rw[dN9,dT1 B]at C;simp only[n8,o6,simprocAttr,i,s];refine n7 (λy=>?_) (λy=>?_)
   ·have b:k<l.length:=by simpa using y
    have A:=e.inS b;have j:=(e.at_ (dM4 b));have F:=aH3 l b;have L:=ar8 l (k+1);have I:=ak2 (dN5 b);generalize l[k]=t at j F I;have U:=az6 t;have Y:=S8 t;obtain⟨vl,va,vt,ve,V,W,X,T,K,ld,sd⟩:=j.st;have d:=p.trans (o7.drew r);have O:=sd (λa=>o7 r.drew a) r.drew (o9.refl _) (λa h=>b7 (d.trans h));have Z:A4.sz St=13:=rfl;rw[Z]at O;simp only[n8,simprocAttr,i];refine C0 (λa=>o7 r.drew a) 16 (A5 [0,1,2,3,4,5,7,8,9,10,11,6,12,13,14,15]) ?_;simp only[D6,A5,n8,o6,y0,simprocAttr,e0,g,A,O];refine B9 (N t.thn vt _ (by omega) (A4.mono (b7 d) X) (by omega)) (λw3 c=>?_);simp only[D6,n8,simprocAttr,E8];refine⟨c,?_⟩;refine B9 (N t.els ve _ (by omega) (A4.mono (b7 (d.trans c)) T) (by omega)) (λw4 q=>?_);have G:IntKind.i64.wrap (((A9 t.thn:Nat):Int)+((A9 t.els:Nat):Int))=((A9 t.thn+A9 t.els:Nat):Int):=by rw[M3 _ (by omega)];omega
    have H:IntKind.i64.wrap (((l.length+A9 (l.take k)-k:Nat):Int)+((A9 t.thn+A9 t.els:Nat):Int))=((l.length+A9 (l.take (k+1))-(k+1):Nat):Int):=by rw[M3 _ (by omega)];omega
    simp only[D6,n8,o6,simprocAttr,E8,G,H,i];refine⟨c.trans q,?_⟩;exact⟨k+1,by omega,dO2 _ (B0 k (by omega)),by omega,by trivial,d.trans (c.trans q)⟩
   ·have z:k=l.length:=by simp at y;omega
    subst z;rw[dN8]at g;simp only[n8,simprocAttr,g];refine o8 results86 ?_;simp only[p8,simprocAttr];exact⟨by congr 1;congr 1;omega,p⟩
def bS1(p:Pg):Nat:=(p.procs.map λf=>A9 f.body).sum
def bm8:∀(l:List Pr),3*(l.map λf=>A9 f.body).sum<=aF6 l
 | []=>by simp[aF6]
 | f::l=>by
  have a:=bm8 l;have b:=au2 f.body;simp only[dQ8,dX8,aF6,X3];omega
def cv8(v:Value)(p:Pg)(w:World)(hv:SV (i4 w) v p)(B:C5 p<=1000000):p7 prog 54 #[v] w λu F=>(u = .int .i64 (bS1 p:Nat)/\o7 w F):=by
 refine p9 [v] func54 rfl ?_;obtain⟨a,I,o,T,N⟩:=X5 hv (i5 _);obtain⟨vg,vp,Z,i,W,sd⟩:=N.pg;have U:=W I (i5 _);have M:=i.isS;have R:=i.vlen;have S:=ag0 p.procs;have O:=bm8 p.procs;unfold C5 at B;simp only[n8,o6,simprocAttr,o,U,M,R];refine n9 [1,7,8] (σ:=Nat) (λk f F=>f 9 = .int .i64 k/\k<=p.procs.length/\f 3 = .int .i64 ((((p.procs.take k).map λf=>A9 f.body).sum:Nat):Int)/\o7 I F) (λk=>p.procs.length-k) 0 ?_ ?_
 ·simp only[p8,simprocAttr];exact⟨by trivial,dN6 _,by simp,o9.refl _⟩
 ·rintro k f w2 G ⟨l,Q,j,d⟩;simp only[dM6,p8,simprocAttr]at G;obtain⟨Y,K,L,_⟩:=G;simp only[n8,o6,simprocAttr,l,L];refine n7 (λr=>?_) (λr=>?_)
  ·have c:k<p.procs.length:=by simpa using r
   have x:=i.inS c;obtain⟨sv,g,e⟩:=F9 (P:=prog) (t:=75) i (b7 d) (dM4 c) av8 av9 at7 R2;rw[R2]at e;have A:((p.procs.take (k+1)).map λf=>A9 f.body).sum=((p.procs.take k).map λf=>A9 f.body).sum+A9 p.procs[k].body:=by
    rw[dN3 c,dP6,List.sum_append];simp
   have H:((p.procs.take (k+1)).map λf=>A9 f.body).sum<=(p.procs.map λf=>A9 f.body).sum:=by
    conv=>rhs;rw[<-dR8 (k+1) p.procs,dP6,List.sum_append]
    omega
   have h:=aq7 (dN5 c);generalize p.procs[k]=q at g A h;obtain⟨b,wz,J,m,z,C,n⟩:=aN7 (g.mono (b7 d)) (i5 _);obtain⟨_,_,X,_,_,_,y,_,E,_⟩:=n.pr;have V:=E J (i5 _);simp only[n8,o6,y0,simprocAttr,l,K,x,e,m,z,V,j];refine B9 (cy3 _ q.body X J (dO0 _) y (by unfold X3 at h;omega)) (λw4 D=>?_);simp only[n8,o6,simprocAttr,l];exact⟨k+1,by omega,dO2 _ (B0 k (by omega)),by omega,by rw[M3 _ (by omega)];congr 1;omega,d.trans (C.trans D)⟩
  ·have s:k=p.procs.length:=by simp at r;omega
   subst s;rw[dN8]at j;simp only[n8,simprocAttr,j];exact o8 results54 ⟨rfl,T.trans d⟩
def bV5(x:A6):List A6->List A6
 | []=>[x]
 | y::l=>if ltS y x then y::bV5 x l else x::y::l
def T4:List A6->List A6
 | []=>[]
 | x::l=>bV5 x (T4 l)
def G7{α:Type}[DecidableEq α]:List α->List α
 | []=>[]
 | [x]=>[x]
 | x::y::l=>if x=y then G7 (y::l)else x::G7 (y::l)
def D7(l:List A6):List A6:=G7 (T4 l)
mutual
def Y9:St->Nat->Int->Int->Int->Int->List It
 | .mk id kind labels name proc x has args thn els,k,pr,up,nx,lp=>
  let me:Int:=k+1
  let nx':=if kind=6 then me else nx
  let lp':=if kind=6 then me else lp
  let a:=D2 thn (k+1) pr me nx' lp'
  ⟨.mk id kind labels name proc x has args thn els,pr,up,nx,lp⟩::(a++D2 els (k+1+a.length) pr me nx' lp')
def D2:List St->Nat->Int->Int->Int->Int->List It
 | [],_,_,_,_,_=>[]
 | t::l,k,pr,up,nx,lp=>
  let a:=Y9 t k pr up (if l.length=0 then nx else k+1+ac9 t) lp
  a++D2 l (k+a.length) pr up nx lp
end
def F7(s:Sh)(i:Nat)(f:Pr):Sh:=
 let a:=D2 f.body s.l.length i 0 (-1) 0
 ⟨s.p,s.l++a,s.lo++[(s.l.length:Int)+1],s.hi++[(s.l.length:Int)+a.length+1]⟩
def H6(s:Sh):Nat->List Pr->Sh
 | _,[]=>s
 | i,f::l=>H6 (F7 s i f) (i+1) l
def b9(p:Pg):Sh:=H6 ⟨p,[],[],[]⟩ 0 p.procs
def Y4(l:List Int)(i:Int):Int:=l.getD i.toNat 0
def Sh.of(s:Sh)(i:Int):List It:=(s.l.take (Y4 s.hi i-1).toNat).drop (Y4 s.lo i-1).toNat
def aa1{α:Type}(p:α->Bool):Nat->List α->Int
 | _,[]=>-1
 | i,x::l=>if p x then i else aa1 p (i+1) l
def ac4(a:List Pr)(n:A6):Int:=aa1 (λf=>decide (f.name=n)) 0 a
def Sh.pr(s:Sh)(n:A6):Int:=ac4 s.p.procs n
def cC6:St:=.mk 0 0 [] e0 e0 (.mk 0 0 e0 []) false [] [] []
def dH7:It:=⟨cC6,0,0,0,0⟩
def bM5:Pr:=⟨e0,[],[],[],[]⟩
def Sh.it(s:Sh)(id:Int):It:=s.l.getD (id-1).toNat dH7
def Sh.fn(s:Sh)(i:Int):Pr:=s.p.procs.getD i.toNat bM5
def Sh.first(s:Sh)(i:Int):Int:=if Y4 s.lo i<Y4 s.hi i then Y4 s.lo i else -1
def Sh.at(s:Sh)(i:Int)(a:A6):Option Int:=match(s.of i).find? λit=>it.s.labels.contains a with
 | some it=>some it.s.id
 | none=>if(s.fn i).fin.contains a then some (-1)else none
def L0(a:Ar):List A6:=(if a.ref then[a.name]else[])++ae2 a.x
def K1(t:St):List A6:=(if t.kind≠10/\t.name≠e0 then[t.name]else[])++ae2 t.x++t.args.flatMap L0
def aE9(p:Pg)(f:Pr)(n:A6):Int:=match f.params.find? λa=>decide (a.name=n)with
 | some a=>if a.ref then 3 else 2
 | none=>if f.vars.contains n then 4 else if p.globals.contains n then 1 else 0
def bm0(f:Pr):List A6:=f.params.map (·.name)++f.vars
def ac1(l:List A6):Bool:=!decide l.Nodup
def J8:A6:=ofA #[109,97,105,110]
def ae0(p:Pg)(f:Pr)(a:List A6)(t:St):Bool:=(K1 t).all (λn=>!decide (aE9 p f n=0))&&(!decide (t.kind=4)||(!decide (t.proc=J8)&&a.contains t.proc))
def aa5(p:Pg)(a:List A6)(f:Pr)(l:List It):Option (Int×Int):=
 if ac1 (bm0 f)||(bm0 f).any (λn=>p.globals.contains n)then some (5,0)
 else match l.find? λit=>!ae0 p f a it.s with
  | some it=>some (5,it.s.id)
  | none=>none
def N9(p:Pg)(s:Sh)(a:List A6):Nat->List Pr->Option (Int×Int)
 | _,[]=>none
 | i,f::l=>match aa5 p a f (s.of i)with
   | some e=>some e
   | none=>N9 p s a (i+1) l
def N8(p:Pg):Int×Int:=
 if N2 p=false then(1,0)
 else let procs:=p.procs.map (·.name);let first:=ac4 p.procs J8
  if ac1 p.globals||ac1 procs||decide (first<0)||decide (0<(p.procs.getD first.toNat bM5).params.length)then(5,0)
  else(N9 p (b9 p) procs 0 p.procs).getD (0,0)
def bw0(l:List Pa)(a:List Ar):Bool:=decide (l.length=a.length)&&(l.zip a).all λx=>x.1.ref==x.2.ref
def ag9(p:Pg)(s:St):Bool:=decide (s.kind=4)&&(match p.procs.find? λf=>decide (f.name=s.proc)with
 | some f=>bw0 f.params s.args
 | none=>false)
def ab2(p:Pg):Int×Int:=if(N8 p).1≠0 then(1,0)else match(b9 p).l.find? λit=>decide (it.s.kind=4) && !ag9 p it.s with
 | some it=>(6,it.s.id)
 | none=>(0,0)
def as2:List A6->List A6->Option (List A6)
 | seen,[]=>some seen
 | seen,n::l=>if seen.contains n then none else as2 (seen++[n]) l
def as4(s:Sh)(it:It):Bool:=if it.s.kind=7\/it.s.kind=8 then !decide (it.loop=0)else if it.s.kind=10 then(s.at it.proc it.s.name).isSome else true
def av0(s:Sh):List A6->List It->List A6 ⊕ Int
 | seen,[]=>.inl seen
 | seen,it::l=>match as2 seen it.s.labels with
   | none=>.inr it.s.id
   | some a=>if as4 s it then av0 s a l else .inr it.s.id
def as3(s:Sh)(f:Pr)(l:List It):Option (Int×Int):=match av0 s [] l with
 | .inr id=>some (7,id)
 | .inl seen=>match as2 seen f.fin with
   | none=>some (7,0)
   | some _=>none
def R9(s:Sh):Nat->List Pr->Option (Int×Int)
 | _,[]=>none
 | i,f::l=>match as3 s f (s.of i)with
   | some e=>some e
   | none=>R9 s (i+1) l
def aE8(p:Pg):Int×Int:=if(N8 p).1≠0 then(1,0)else(R9 (b9 p) 0 p.procs).getD (0,0)
def ag7(s:Sh)(n:A6):List A6:=D7 (((s.of (s.pr n)).filter λit=>decide (it.s.kind=4)).map (·.s.proc))
def R6(a:List A6):List A6->List A6
 | []=>a
 | n::l=>R6 (if a.contains n then a else a++[n]) l
def P4(g:A6->List A6):Nat->Nat->List A6->List A6
 | 0,_,out=>out
 | m+1,i,out=>match out[i]? with
   | none=>out
   | some n=>P4 g m (i+1) (R6 out (g n))
def ax3(s:Sh)(n:A6):List A6:=T4 (P4 (ag7 s) (s.p.procs.length+1) 0 [n])
def aI8(p:Pg)(n:A6):Bool:=decide ((N8 p).1=0)&&p.procs.any λf=>decide (f.name=n)
def P5(p:Pg)(n:A6):List A6:=if aI8 p n then
  let s:=b9 p
  D7 ((ax3 s n).flatMap λm=>(s.of (s.pr m)).flatMap λit=>(K1 it.s).filter λv=>p.globals.contains v)
 else[]
def ah7(name:A6)(b:List A6):List A6->List Ar->Bool
 | _,[]=>true
 | seen,a::l=>if a.ref then(if seen.contains a.name||decide (a.name=name)||b.contains a.name then false else ah7 name b (seen++[a.name]) l)else ah7 name b seen l
def ah6(s:St)(a:List A6):Bool:=ah7 s.name a [] s.args
def aG8(p:Pg):Int×Int:=if(ab2 p).1≠0 then(1,0)else match(b9 p).l.find? λit=>decide (it.s.kind=4) && !ah6 it.s (P5 p it.s.proc)with
 | some it=>(8,it.s.id)
 | none=>(0,0)
def aH1(p:Pg):Int×Int:=
 if N2 p=false then(1,0)
 else if(N8 p).1≠0 then N8 p
 else if(ab2 p).1≠0 then ab2 p
 else if(aE8 p).1≠0 then aE8 p
 else aG8 p
def I5(p:Pg):Bool:=decide ((aH1 p).1=0)
def as1{α:Type}(p:α->Bool):∀(l:List α) (i k:Nat) (a:k<l.length),(∀j (d:j<k),p (l[j]'(by omega))=false)->p l[k]=true->aa1 p i l=(i+k:Nat)
 | [],i,k,a,_,_=>by simp at a
 | x::l,i,0,a,h1,h2=>by
  have b:p x=true:=h2;rw[aa1,if_pos b];rfl
 | x::l,i,k+1,a,h1,h2=>by
  have c:p x=false:=h1 0 (by omega);rw[aa1,if_neg (by rw[c];simp),as1 p l (i+1) k (by simpa using a) (λj d=>h1 (j+1) (by omega)) h2]
  congr 1;omega
def ay3{α:Type}(p:α->Bool):∀(l:List α) (i:Nat),(∀x∈l,p x=false)->aa1 p i l = -1
 | [],i,_=>rfl
 | x::l,i,h=>by
  rw[aa1,if_neg (by rw[h x (by simp)];simp)];exact ay3 p l (i+1) λy a=>h y (dS2 _ a)
def ay2{α:Type}(p:α->Bool):∀(l:List α) (i:Nat),decide (0<=aa1 p i l)=l.any p
 | [],i=>rfl
 | x::l,i=>by
  rw[aa1,List.any_cons];cases hp:p x
  ·rw[if_neg (by simp),ay2 p l];rfl
  ·rw[if_pos rfl];simp
def aI5{α:Type}(p:α->Bool):∀(l:List α) (i:Nat),0<=aa1 p i l->∃k,aa1 p i l=(i+k:Nat)/\∃x,l[k]?=some x/\p x=true
 | [],i,h=>by simp[aa1]at h
 | x::l,i,h=>by
  rw[aa1]at h ⊢;cases hp:p x
  ·rw[hp,if_neg (by simp)]at h;rw[if_neg (by simp)];obtain⟨k,a,y,b,c⟩:=aI5 p l (i+1) h;exact⟨k+1,by rw[a];congr 1;omega,y,by simpa using b,c⟩
  ·rw[if_pos rfl];exact⟨0,by simp,x,rfl,hp⟩
def dy9:F4 prog 151 150 17 240=true:=by kernel_rfl
def dj1:F4 prog 24 3 1 8=true:=by kernel_rfl
structure ShS (h:Hp) (w:World) (gb:Nat) (vg vp vL vLo vHi:Value) (L:List It) (lo hi:List Int):Prop where
 free:h gb=none
 cell:w.heap[gb]?=some (.cells #[vg,vp,vL,vLo,vHi] 153 (0,0))
 oL:A8 h w 150 vL L
 oLo:A8 h w 3 vLo lo
 oHi:A8 h w 3 vHi hi
 d1:∀b,A3 vL b->b≠gb/\¬A3 vLo b/\¬A3 vHi b
 d2:∀b,A3 vLo b->b≠gb/\¬A3 vHi b
 d3:∀b,A3 vHi b->b≠gb
section
variable {h:Hp} {w:World} {gb:Nat} {vg vp vL vLo vHi:Value} {L:List It} {lo hi:List Int}
def ShS.lt(s:ShS h w gb vg vp vL vLo vHi L lo hi):gb<w.heap.size:=(dN0.1 s.cell).1
def ShS.mod{M:Nat->Prop}{a:World}(s:ShS h w gb vg vp vL vLo vHi L lo hi)(hm:o9 M w a)(c:¬M gb)(d:∀b,A3 vL b->¬M b)(e:∀b,A3 vLo b->¬M b)(f:∀b,A3 vHi b->¬M b):ShS h a gb vg vp vL vLo vHi L lo hi:=
 ⟨s.free,(hm.block gb s.lt c).trans s.cell,s.oL.mod hm d,s.oLo.mod hm e,s.oHi.mod hm f,s.d1,s.d2,s.d3⟩
def ShS.ext{a:World}(s:ShS h w gb vg vp vL vLo vHi L lo hi)(b:o7 w a):ShS h a gb vg vp vL vLo vHi L lo hi:=
 s.mod b id (λ_ _=>id) (λ_ _=>id) (λ_ _=>id)
def ShS.setL{i j:World}{c:Value}{l:List It}(s:ShS h w gb vg vp vL vLo vHi L lo hi)(m:o9 (A3 vL) w i)(o:A8 h i 150 c l)(hv:F0 w vL c)
  (g:o9 (λb=>b=gb) i j) (n:j.heap[gb]?=some (.cells #[vg,vp,c,vLo,vHi] 153 (0,0))):ShS h j gb vg vp c vLo vHi l lo hi:=by
 have f:∀b,A3 c b->b≠gb/\¬A3 vLo b/\¬A3 vHi b:=λb a=>by
  rcases hv b a with k|k
  ·exact s.d1 b k
  ·exact⟨λe=>by have:=s.lt;omega,λe=>by have:=s.oLo.lt e;omega,λe=>by have:=s.oHi.lt e;omega⟩
 refine⟨s.free,n,o.mod g λb a=>(f b a).1,(s.oLo.mod m λb a d=>(s.d1 b d).2.1 a).mod g λb a=>(s.d2 b a).1,(s.oHi.mod m λb a d=>(s.d1 b d).2.2 a).mod g λb a=>s.d3 b a,f,s.d2,s.d3⟩
def ShS.setLo{j l:World}{g:Value}{f:List Int}(s:ShS h w gb vg vp vL vLo vHi L lo hi)(m:o9 (A3 vLo) w j)(o:A8 h j 3 g f)(hv:F0 w vLo g)
  (i:o9 (λb=>b=gb) j l) (n:l.heap[gb]?=some (.cells #[vg,vp,vL,g,vHi] 153 (0,0))):ShS h l gb vg vp vL g vHi L f hi:=by
 have c:∀b,A3 g b->b≠gb/\¬A3 vL b/\¬A3 vHi b:=λb a=>by
  rcases hv b a with k|k
  ·exact⟨(s.d2 b k).1,λe=>(s.d1 b e).2.1 k,(s.d2 b k).2⟩
  ·exact⟨λe=>by have:=s.lt;omega,λe=>by have:=s.oL.lt e;omega,λe=>by have:=s.oHi.lt e;omega⟩
 refine⟨s.free,n,(s.oL.mod m λb a d=>(s.d1 b a).2.1 d).mod i λb a=>(s.d1 b a).1,o.mod i λb a=>(c b a).1,(s.oHi.mod m λb a d=>(s.d2 b d).2 a).mod i λb a=>s.d3 b a,λb a=>⟨(s.d1 b a).1,λe=>(c b e).2.1 a,(s.d1 b a).2.2⟩,λb a=>⟨(c b a).1,(c b a).2.2⟩,s.d3⟩
def ShS.setHi{j l:World}{g:Value}{f:List Int}(s:ShS h w gb vg vp vL vLo vHi L lo hi)(m:o9 (A3 vHi) w j)(o:A8 h j 3 g f)(hv:F0 w vHi g)
  (i:o9 (λb=>b=gb) j l) (n:l.heap[gb]?=some (.cells #[vg,vp,vL,vLo,g] 153 (0,0))):ShS h l gb vg vp vL vLo g L lo f:=by
 have c:∀b,A3 g b->b≠gb/\¬A3 vL b/\¬A3 vLo b:=λb a=>by
  rcases hv b a with k|k
  ·exact⟨s.d3 b k,λe=>(s.d1 b e).2.2 k,λe=>(s.d2 b e).2 k⟩
  ·exact⟨λe=>by have:=s.lt;omega,λe=>by have:=s.oL.lt e;omega,λe=>by have:=s.oLo.lt e;omega⟩
 refine⟨s.free,n,(s.oL.mod m λb a d=>(s.d1 b a).2.2 d).mod i λb a=>(s.d1 b a).1,(s.oLo.mod m λb a d=>(s.d2 b a).2 d).mod i λb a=>(s.d2 b a).1,o.mod i λb a=>(c b a).1,λb a=>⟨(s.d1 b a).1,(s.d1 b a).2.1,λe=>(c b e).2.1 a⟩,λb a=>⟨(s.d2 b a).1,λe=>(c b e).2.2 a⟩,λb a=>(c b a).1⟩
end
def X4(h:Hp)(w:World)(b:Nat)(x:It):Prop:=∃a:List Value,w.heap[b]?=some (.cells (List.toArray a) 150 (0,0))/\A4.enc h a x
section
variable {h:Hp} {w:World} {tb:Nat} {x:It}
def X4.mod{M:Nat->Prop}{b:World}(f:X4 h w tb x)(hm:o9 M w b)(d:¬M tb):X4 h b tb x:=by
 obtain⟨c,a,e⟩:=f;exact⟨c,(hm.block tb (dN0.1 a).1 d).trans a,e⟩
def X4.lt(b:X4 h w tb x):tb<w.heap.size:=by
 obtain⟨c,a,d⟩:=b;exact(dN0.1 a).1
def X4.new{v:Value}(hv:SV h v x):∃tb c b,(Instr.alloc 150 true (.tuple #[])).run prog w = .ok (.pointer (some ⟨tb,0,none⟩)) c/\(Instr.storeAt 150 (.pointer (some ⟨tb,0,none⟩)) v).run prog c = .ok () b/\o7 w b/\w.heap.size<=tb/\X4 h b tb x:=by
 obtain⟨cs,rfl,a⟩:=hv;obtain⟨d,e⟩:=aJ0 (P:=prog) (w:=w) (T:=150) cm6 rfl (cs:=List.toArray cs) (by rw[H9];simpa using(show cs.length=17 from A4.len a)) (by simpa using A4.one a);exact⟨w.heap.size,_,_,d,e,o7.alloc _ _,dO0 _,cs,dQ5 w _,a⟩
def X4.ld(m:X4 h w tb x):∃v,SV h v x/\(∀a,a.heap[tb]?=w.heap[tb]?->(Instr.loadAt 150 (.pointer (some ⟨tb,0,none⟩))).run prog a = .ok v a/\(Instr.loadAt 3 (.pointer (some ⟨tb,15,none⟩))).run prog a = .ok (.int .i64 x.next) a):=by
 obtain⟨b,e,d⟩:=m;refine⟨.agg (List.toArray b),⟨b,rfl,d⟩,λa f=>⟨?_,?_⟩⟩
 ·exact ag4 (f.trans e) X0 X2 V5 (by rw[H9];simpa using(show b.length=17 from A4.len d).symm)
 ·obtain⟨c,rfl,l⟩:=aL3 d;obtain⟨n,o,p,q,r,s,t,u,y,g,i,j,k,rfl⟩:=bt7 (A4.len l);exact E2 (f.trans e) rfl G3
def X4.setS{v:Value}{s:St}(m:X4 h w tb x)(l:SV h v s):∃d,(Instr.storeAt 109 (.pointer (some ⟨tb,0,none⟩)) v).run prog w = .ok () d/\X4 h d tb ⟨s,x.proc,x.up,x.next,x.loop⟩/\o9 (λb=>b=tb) w d:=by
 obtain⟨cs,i,j⟩:=m;obtain⟨e,rfl,f⟩:=l;obtain⟨c,rfl,k⟩:=aL3 j;have g:c.length=13:=A4.len k;have a:e.length=13:=A4.len f;obtain⟨d,n,p,q⟩:=co5 (P:=prog) (t:=109) (o:=0) (cs:=e) i (by simp[g,a]) (A4.one f) aD9 (by rw[Z7,a]);refine⟨d,n,⟨_,p,?_⟩,q⟩;refine⟨e,?_,f⟩;simp only[dX3,dX5,dQ2,a]
 congr 1
 simp only[dP5];rw[<-g,List.drop_left];simp
def X4.setN(n:Int)(m:X4 h w tb x):∃a,(Instr.storeAt 3 (.pointer (some ⟨tb,15,none⟩)) (.int .i64 n)).run prog w = .ok () a/\X4 h a tb ⟨x.s,x.proc,x.up,n,x.loop⟩/\o9 (λb=>b=tb) w a:=by
 obtain⟨D,k,l⟩:=m;obtain⟨c,rfl,d⟩:=aL3 l;obtain⟨r,s,u,v,y,z,A,B,C,e,f,g,j,rfl⟩:=bt7 (A4.len d);obtain⟨a,o,p,q⟩:=ag5 (P:=prog) (t:=3) (i:=15) (x:=.int .i64 n) k (by simp) rfl rfl (z7 aw5).choose_spec.1 (by rw[<-D9 (z7 aw5).choose_spec.1];exact aZ7);exact⟨a,o,⟨_,p,_,rfl,d⟩,q⟩
def X4.setLp(n:Int)(m:X4 h w tb x):∃a,(Instr.storeAt 3 (.pointer (some ⟨tb,16,none⟩)) (.int .i64 n)).run prog w = .ok () a/\X4 h a tb ⟨x.s,x.proc,x.up,x.next,n⟩/\o9 (λb=>b=tb) w a:=by
 obtain⟨D,k,l⟩:=m;obtain⟨c,rfl,d⟩:=aL3 l;obtain⟨r,s,u,v,y,z,A,B,C,e,f,g,j,rfl⟩:=bt7 (A4.len d);obtain⟨a,o,p,q⟩:=ag5 (P:=prog) (t:=3) (i:=16) (x:=.int .i64 n) k (by simp) rfl rfl (z7 aw5).choose_spec.1 (by rw[<-D9 (z7 aw5).choose_spec.1];exact aZ7);exact⟨a,o,⟨_,p,_,rfl,d⟩,q⟩
end
def bS9(h:Hp):A4.enc h [.int .i64 0,.int .i64 0,.slice none 0 0,p6 e0,p6 e0,.int .i64 0,.int .i64 0,p6 e0,.slice none 0 0,.bool false,.slice none 0 0,.slice none 0 0,.slice none 0 0] cC6:=by
 refine bL0.2 ⟨.slice none 0 0,[.int .i64 0,.int .i64 0,p6 e0,.slice none 0 0],.slice none 0 0,.slice none 0 0,.slice none 0 0,rfl,bd1 h,bK9.2 ⟨.slice none 0 0,rfl,bd1 h⟩,bd1 h,bd1 h,bd1 h⟩
def cx1(h:Hp)(a b c d:Int):∃v,B8 prog 150 [(1,.int .i64 a),(2,.int .i64 b),(3,.int .i64 c),(4,.int .i64 d)]=some v/\SV h v (⟨cC6,a,b,c,d⟩:It):=by
 refine⟨_,by simp[B8,cT2,K8,Instr.fill,Value.cells];rfl,_,rfl,_,rfl,bS9 h⟩
def cx0(h:Hp)(a c:Int):∃v,B8 prog 150 [(1,.int .i64 a),(3,.int .i64 c)]=some v/\SV h v (⟨cC6,a,0,c,0⟩:It):=by
 refine⟨_,by simp[B8,cT2,K8,Instr.fill,Value.cells];rfl,_,rfl,_,rfl,bS9 h⟩
end Go.Proofs.YtfadjbljajfkfaaGreat

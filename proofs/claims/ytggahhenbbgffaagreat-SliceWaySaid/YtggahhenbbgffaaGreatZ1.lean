/- What the functions of the program do, for every input; plain facts. No condition, no statement of its own. Part 1. -/
import Derived.Calls
import Derived.IntWalk
import Derived.KernelRfl
import Derived.Laws.AppendOwn
import Derived.Laws.CopyRow
import Derived.Laws.Entries
import Derived.Laws.Sem
import Derived.Laws.Strings
import Derived.MapKept
import Derived.Maps.RangeRun
import Derived.Orders
import Derived.OrdersHeld
import Derived.StillTail
import Derived.Test.YtggahhenbbgffaaGreatProg
set_option maxRecDepth 1000000
set_option maxHeartbeats 8000000
set_option linter.unusedVariables false
set_option linter.unusedSimpArgs false
set_option linter.unnecessarySimpa false
set_option linter.defProp false
namespace Go.Proofs.YtggahhenbbgffaaGreat
open Go Tryz
def ef5:=@Array.getElem?_eq_some_iff
def eh5:=@Bool.and_eq_true
def em5:=@Bool.false_eq_true
def eq6:=@Bool.or_eq_true
def en8:=@List.all_eq_true
def eo3:=@List.getElem?_drop
def ei2:=@List.length_cons
def er4:=@List.mem_of_mem_drop
def ep8:=@Nat.add_assoc
def eg6:=@Nat.le_refl
def ej6:=@Nat.lt_or_ge
def ei8:=@decide_eq_true_eq
def en5:=@if_false
def em4:=@if_true
abbrev Fr:=Nat->Value
def ai2(a:Act):Fr:=λi=>a.tmps.getD i undef
def B3(f:Fr)(d:Nat)(v:Value):Fr:=λi=>if i=d then v else f i
theorem ec8{f:Fr}{d:Nat}{v:Value}{i:Nat}:B3 f d v i=if i=d then v else f i:=rfl
def C9(f:Fr):Option Nat->Value->Fr
 | some d,v=>B3 f d v
 | none,_=>f
def okd(n:Nat):Option Nat->Bool
 | some d=>decide (d<n)
 | none=>true
def ev(f:Fr):Operand->Value
 | .tmp t=>f t
 | .const v=>v
 | .global g=>.pointer (some ⟨g,0,none⟩)
 | .func g=>.func (.func g) #[] #[]
def bX3(a:Act):a.eval=ev (ai2 a):=by
 funext x;cases x<;>rfl
def bh4(a:Act)(d:Option Nat)(v:Value):(a.put d v).tmps.size=a.tmps.size:=by
 cases d<;>simp[Act.put]
def aK0(a:Act)(d:Option Nat)(v:Value):(a.put d v).defers=a.defers:=by
 cases d<;>simp[Act.put]
def be4(a:Act)(d:Option Nat)(v:Value)(h:okd a.tmps.size d=true):ai2 (a.put d v)=C9 (ai2 a) d v:=by
 cases d with
 | none=>rfl
 | some d=>
  have b:d<a.tmps.size:=by simpa[okd]using h
  funext i
  simp only[ai2,Act.put,C9,B3,Array.getD_eq_getD_getElem?,Array.getElem?_setIfInBounds];by_cases hi:i=d
  .subst hi;simp[b]
  .have:¬d=i:=λe=>hi e.symm;simp[hi,this]
def aW5(ops:Array Oper)(f:Fr)(j:Nat):Option Bool:=
 match(ops[j]?).bind (·.dst)with
 | some d=>match f d with
   | .bool b=>some b
   | _=>none
 | none=>none
def av1(ops:Array Oper)(a:Act):yielded ops a.tmps=aW5 ops (ai2 a):=by
 funext j
 unfold yielded aW5;cases h:(ops[j]?).bind (·.dst)with
 | none=>simp
 | some d=>
  simp only[Option.bind_some,ai2,Array.getD_eq_getD_getElem?];cases h2:a.tmps[d]? with
  | none=>simp[undef]
  | some v=>cases v<;>rfl
def S4(P:Program)(o:Oper)(K:Fr->World->Prop)(f:Fr)(w:World):Prop:=
 match(execOp (ev f) o).run P w with
 | .ok (.value v) w'=>K (C9 f o.dst v) w'
 | .ok .skip w'=>K (C9 f o.dst undef) w'
 | .ok (.enter g args) w'=>Calls P g args w' λe a=>∃v,e = .returned v/\K (C9 f o.dst v) a
 | _=>False
def ao4{P:Program}{o:Oper}{K b:Fr->World->Prop}{f:Fr}{w:World}(h:∀f w,K f w->b f w)(a:S4 P o K f w):S4 P o b f w:=by
 unfold S4 at *;generalize(execOp (ev f) o).run P w=r at *;cases r with
 | halt x i=>exact a
 | ok n i=>
  cases n
  case value v=>exact h _ _ a
  case skip=>exact h _ _ a
  case enter g args=>exact Calls.mono a λe j ⟨v,c,d⟩=>⟨v,c,h _ _ d⟩
  all_goals exact a
def bI6(P:Program)(S:World->Prop)(o:Oper)(f:Fr)(v:Value):Prop:=
 ∀w,S w->(execOp (ev f) o).run P w = .ok (.value v) w
def lft(n:Nat)(Q:Exit->Fr->World->Prop):Exit->Act->World->Prop:=λe a w=>
 a.tmps.size=n/\a.defers=[]/\Q e (ai2 a) w
def bw1{P:Program}{o:Oper}{K:Fr->World->Prop}{a:Act}{w:World}{n:Nat}{Q:Exit->Act->World->Prop}
  {i:Act->World->Prop} (hn:a.tmps.size=n) (k:a.defers=[]) (p:okd n o.dst=true)
  (j:∀f b,f.tmps.size=n->f.defers=[]->K (ai2 f) b->i f b) (d:S4 P o K (ai2 a) w):o.wp P a w i Q:=by
 unfold S4 at d;unfold Oper.wp;rw[bX3];generalize(execOp (ev (ai2 a)) o).run P w=r at *;have c:∀v b,K (C9 (ai2 a) o.dst v) b->i (a.put o.dst v) b:=λv b h=>
  j _ _ (by rw[bh4];exact hn) (by rw[aK0];exact k) (by rw[be4 _ _ _ (by rw[hn];exact p)];exact h)
 cases r with
 | halt x b=>exact d.elim
 | ok n b=>
  cases n
  case value v=>exact c _ _ d
  case skip=>exact c _ _ d
  case enter g args=>exact Calls.mono d λe q ⟨v,l,m⟩=>by subst l;exact c _ _ m
  all_goals exact d.elim
def Run(P:Program)(ops:Array Oper):List Oper->(Fr->World->Prop)->Fr->World->Prop
 | [],K,f,w=>K f w
 | o::l,K,f,w=>if Region.wanted o (aW5 ops f)then S4 P o (Run P ops l K) f w else Run P ops l K (C9 f o.dst undef) w
def db1(n:Nat)(ops:Array Oper):Bool:=ops.all λo=>okd n o.dst
def aC7{P:Program}{ops:Array Oper}{n:Nat}{Q:Exit->Fr->World->Prop}:∀(l:List Oper) (a:Act) (w:World),(∀o∈l,okd n o.dst=true) ->
  a.tmps.size=n->a.defers=[]->Run P ops l (Q .normal) (ai2 a) w->wpList P ops (lft n Q) l a w
 | [],a,w,_,hn,hd,h=>⟨hn,hd,h⟩
 | o::l,a,w,ho,hn,hd,h=>by
  unfold Run at h;unfold wpList;rw[av1];split
  .rename_i e;rw[if_pos e]at h;exact .inl (bw1 hn hd (ho o (by simp)) (λg j d c i=>aC7 l g j (λf b=>ho f (by simp[b])) d c i) h)
  .rename_i e;rw[if_neg e]at h;exact aC7 l _ _ (λf b=>ho f (by simp[b])) (by rw[bh4];exact hn) (by rw[aK0];exact hd)
    (by rw[be4 _ _ _ (by rw[hn];exact ho o (by simp))];exact h)
def flt:Op->Bool
 | .move _ | .assign _ | .pick .. | .load .. | .nilCheck _ | .binOp .. | .unOp .. | .convert .. | .makeFunc .. | .slice .. | .fieldAddr .. | .field .. | .indexAddr .. | .index .. | .lookup .. | .extract ..=>true
 | .call {callee:=.builtin b,..}=>match b with
   | .len | .cap | .min | .max=>true
   | _=>false
 | _=>false
inductive aO1 where
 | nil
 | op (i:Nat) (r:aO1)
 | fork (rs:List Nat) (k:Nat->aO1)
def aA4(P:Program)(ops:Array Oper)(S:World->Prop):aO1->(Fr->World->Prop)->Fr->World->Prop
 | .nil,K,f,w=>K f w
 | .op i l,K,f,w=>
  match ops[i]? with
  | none=>False
  | some o=>
   if Region.wanted o (aW5 ops f)then
    if flt o.op then ∃v,bI6 P S o f v/\aA4 P ops S l K (C9 f o.dst v) w
    else S4 P o (λb a=>S a/\aA4 P ops S l K b a) f w
   else aA4 P ops S l K (C9 f o.dst undef) w
 | .fork rs k,K,f,w=>∀i∈rs,
   match ops[i]? with
   | none=>False
   | some o=>
    if Region.wanted o (aW5 ops f)then S4 P o (λb a=>S a/\aA4 P ops S (k i) K b a) f w
    else aA4 P ops S (k i) K (C9 f o.dst undef) w
def bg3(ops:Array Oper)(n:Nat):Nat->aO1->Array Bool->Bool
 | 0,.nil,listed=>Region.seqB .any ops (ops.size-n) n listed
 | m+1,.op i l,listed=>decide (i<n)&&(match ops[i]? with
   | none=>false
   | some o=>(if flt o.op then(Region.ready .any ops listed).contains i&&Region.free .any ops listed i else decide (Region.ready .any ops listed=[i]))) &&
  bg3 ops n m l (listed.setIfInBounds i true)
 | m+1,.fork rs k,listed=>decide (Region.ready .any ops listed=rs) && !rs.isEmpty&&rs.all λi=>decide (i<n)&&bg3 ops n m (k i) (listed.setIfInBounds i true)
 | _,_,_=>false
def cm8(ops:Array Oper)(n:Nat)(a:aO1):Bool:=
 Region.noSelect ops&&(decide (n=ops.size)||(decide (n<ops.size)&&Region.sinkB .any ops n&&Region.chainB .any ops n)) &&
 bg3 ops n n a (Array.replicate ops.size false)
section
variable {P:Program} {ops:Array Oper} {Q:Exit->Act->World->Prop} {S:World->Prop}
def bc6(P:Program)(ops:Array Oper)(Q:Exit->Act->World->Prop)(S:World->Prop)(n:Nat):Nat->Array Bool->Act->World->Prop
 | 0,listed,a,w=>Region.ready .any ops listed=[]/\Q .normal a w
 | fuel+1,listed,a,w=>
  (Region.ready .any ops listed=[]->Q .normal a w) /\
  ∀i∈Region.ready .any ops listed,wpOp P ops Q i (λc b=>(i<n->S b)/\bc6 P ops Q S n fuel (listed.setIfInBounds i true) c b) a w
def bK4{n:Nat}:∀(b:Nat) (c:Array Bool) (a:Act) (w:World),bc6 P ops Q S n b c a w->wpAny P .any ops Q b c a w
 | 0,_,_,_,h=>h
 | b+1,_,_,_,h=>⟨h.1,λi f=>wpOp_mono (λd g e=>bK4 b _ d g e.2) (h.2 i f)⟩
def cc8{n i:Nat}{u:Oper}{v:Value}(M:ops[i]?=some u)(q:∀(j:Nat) (o:Oper) z b,ops[j]?=some o->o.op ≠ .select z b)
  (V:∀c a w,Q (.panic c) (a.put u.dst v) w->Q (.panic c) a w) (Y:i<n)
  (R:∀d,HeadInv .any ops n d->d.getD i true=false->∀t,n<=t->t∉Region.ready .any ops d) :
  ∀(f:Nat) (d:Array Bool) (a:Act) (w:World),HeadInv .any ops n d ->
   (∀j x,ops[j]?=some x->j≠i->d.getD j true=false->(∀e∈x.after,Region.binds .any e=true->e.on≠i)->u.apart ops x=true) ->
   i∈Region.ready .any ops d->YieldsIf P ops S u v a->S w ->
   bc6 P ops Q S n f (d.setIfInBounds i true) (a.put u.dst v) w->bc6 P ops Q S n (f+1) d a w:=by
 intro f
 induction f with
 | zero=>
  intro d a w _ _ s K A H;refine⟨λh=>(by rw[h]at s;cases s),λj y=>?_⟩;by_cases hji:j=i
  .subst hji;exact K.wpOp M A ⟨λ_=>A,H⟩
  .have:=ready_mono y hji;rw[H.1]at this;cases this
 | succ f ih=>
  intro d a w F g s K A H;refine⟨λh=>(by rw[h]at s;cases s),λj y=>?_⟩;by_cases hji:j=i
  .subst hji;exact K.wpOp M A ⟨λ_=>A,H⟩
  .have I:=H.2 j (ready_mono y hji);obtain⟨p,x,r,B⟩:=mem_ready.1 y;have m:=(mem_ready.1 s).1;have C:j<n:=by
    rcases ej6 j n with h|h
    .exact h
    .exact absurd y (R d F m j h)
   have D:∀e∈x.after,Region.binds .any e=true->e.on≠i:=λe X W L=>by
    have I:=B e X W;rw[L,getD_both m]at I;cases I
   have U:=wpOp_putIf r (g j x r hji p D) (λz b=>q i u z b M) (λz b=>q j x z b r) V K I;have l:∀k G,ops[k]?=some G->k≠i->(d.setIfInBounds j true).getD k true=false ->
     (∀e∈G.after,Region.binds .any e=true->e.on≠i)->u.apart ops G=true:=λk G Z N E O=>by
    refine g k G Z N ?_ O;by_cases hjk:j=k
    .subst hjk;exact p
    .rw[getD_set_ne true hjk]at E;exact E
   refine wpOp_mono (λT w' J=>⟨J.2.1,ih (d.setIfInBounds j true) T w' (F.set y C) l (ready_mono s (Ne.symm hji)) J.1 (J.2.1 C) ?_⟩) U;rw[Array.setIfInBounds_comm _ _ hji];exact J.2.2
def aC8{o:Oper}{i n:Nat}{K:Fr->World->Prop}{a:Act}{w:World}{d:Act->World->Prop}(k:ops[i]?=some o)
  (hn:a.tmps.size=n) (f:a.defers=[]) (g:okd n o.dst=true) (e:∀b j,b.tmps.size=n->b.defers=[]->K (ai2 b) j->d b j)
  (h:if Region.wanted o (aW5 ops (ai2 a))then S4 P o K (ai2 a) w else K (C9 (ai2 a) o.dst undef) w):wpOp P ops Q i d a w:=by
 unfold wpOp;simp only[k];rw[av1];split
 .rename_i c;rw[if_pos c]at h;exact .inl (bw1 hn f g e h)
 .rename_i c;rw[if_neg c]at h;exact e _ _ (by rw[bh4];exact hn) (by rw[aK0];exact f) (by rw[be4 _ _ _ (by rw[hn];exact g)];exact h)
def aY3{n N:Nat}{Q:Exit->Fr->World->Prop}:∀(l:List Oper) (k:Nat) (b:Array Bool) (a:Act) (w:World),(∀j,l[j]?=ops[k+j]?)->n<=k ->
  (∀o∈l,okd N o.dst=true)->a.tmps.size=N->a.defers=[] ->
  Region.seqB .any ops l.length k b=true->Run P ops l (Q .normal) (ai2 a) w->bc6 P ops (lft N Q) S n l.length b a w
 | [],_,_,_,_,_,_,_,hn,hd,hB,h=>⟨by simpa[Region.seqB]using hB,hn,hd,h⟩
 | o::l,k,b,a,w,hl,hk,ho,hn,hd,hB,h=>by
  have r:ops[k]?=some o:=by simpa using(hl 0).symm
  simp only[ei2,Region.seqB,eh5,ei8]at hB;refine⟨λg=>(by rw[hB.1]at g;cases g),λi m=>?_⟩;rw[hB.1]at m;have e:i=k:=by simpa using m
  subst e;refine aC8 r hn hd (ho o (by simp)) (K:=Run P ops l (Q .normal)) (λp t f d q=>⟨λh=>by omega,?_⟩) (by unfold Run at h;exact h);exact aY3 l (i+1) _ p t (λj=>by have:=hl (j+1);simpa[ep8,Nat.add_comm 1 j]using this) (by omega) (λs c=>ho s (by simp[c])) f d hB.2 q
def bK3{n N:Nat}{Q:Exit->Fr->World->Prop}(hQ:∀c f w,¬Q (.panic c) f w)(hs:Region.noSelect ops=true)
  (Y:∀i,i<n->∀b,HeadInv .any ops n b->b.getD i true=false->∀t,n<=t->t∉Region.ready .any ops b) (u:∀o∈ops.toList,okd N o.dst=true) :
  ∀(m:Nat) (l:aO1) (b:Array Bool) (a:Act) (w:World),HeadInv .any ops n b->a.tmps.size=N->a.defers=[]->S w->bg3 ops n m l b=true ->
   aA4 P ops S l (Run P ops (ops.toList.drop n) (Q .normal)) (ai2 a) w->bc6 P ops (lft N Q) S n (m+(ops.size-n)) b a w:=by
 have x:∀{i:Nat} {o:Oper},ops[i]?=some o->okd N o.dst=true:=by
  intro i o X;have:=Array.mem_of_getElem? X;exact u o (by simpa using this)
 intro m
 induction m with
 | zero=>
  intro l b a w p D G _ s h;cases l
  case nil=>
   have:=aY3 (S:=S) (n:=n) (N:=N) (Q:=Q) (P:=P) (ops:=ops) (ops.toList.drop n) n b a w (λj=>by simp[eo3]) (eg6 _)
    (λo X=>u o (er4 X)) D G (by simpa[bg3]using s) h
   simpa using this
  all_goals (simp[bg3]at s)
 | succ m ih=>
  intro l b a w p D G L s h;have e1:m+1+(ops.size-n)=(m+(ops.size-n))+1:=by omega
  rw[e1];cases l
  case nil=>simp[bg3]at s
  case op i l=>
   simp only[bg3,eh5,ei8]at s;obtain⟨⟨e,d⟩,r⟩:=s;simp only[aA4]at h;cases hoi:ops[i]? with
   | none=>simp[hoi]at h
   | some o=>
    simp only[hoi]at h d;have I:=x hoi;by_cases hf:flt o.op=true
    .simp only[hf,em4,eh5]at h d;have M:i∈Region.ready .any ops b:=by simpa using d.1
     have y:∀v,YieldsIf P ops S o v a->aA4 P ops S l (Run P ops (ops.toList.drop n) (Q .normal)) (C9 (ai2 a) o.dst v) w ->
       bc6 P ops (lft N Q) S n ((m+(ops.size-n))+1) b a w:=λv hy T=>
      cc8 hoi (Region.noSelect_spec hs) (λc a w hh=>absurd hh.2.2 (hQ _ _ _)) e (Y i e) _ b a w p (Region.free_spec hoi d.2) M hy L
       (ih l _ _ w (p.set M e) (by rw[bh4];exact D) (by rw[aK0];exact G) L r (by rw[be4 _ _ _ (by rw[D];exact I)];exact T))
     by_cases g:Region.wanted o (aW5 ops (ai2 a))=true
     .rw[if_pos g]at h;obtain⟨v,hv,T⟩:=h;refine y v (.inl ⟨by rw[av1];exact g,λq Z=>?_⟩) T;rw[bX3];exact hv q Z
     .rw[if_neg g]at h;exact y undef (.inr ⟨by rw[av1];simpa using g,rfl⟩) h
    .simp only[hf,em5,en5,ei8]at h d;have M:i∈Region.ready .any ops b:=by rw[d];simp
     refine⟨λE=>(by rw[d]at E;cases E),λj hj=>?_⟩;rw[d]at hj;have V:j=i:=by simpa using hj
     subst V;refine aC8 hoi D G I (K:=λR q=>S q/\aA4 P ops S l (Run P ops (ops.toList.drop n) (Q .normal)) R q) (λO q A B z=>⟨λ_=>z.1,?_⟩) ?_
     .exact ih l _ O q (p.set M e) A B z.1 r z.2
     .split
      .rename_i g;rw[if_pos g]at h;exact h
      .rename_i g;rw[if_neg g]at h;exact⟨L,h⟩
  case fork rs k=>
   simp only[bg3,eh5,ei8,en8]at s;obtain⟨⟨J,W⟩,F⟩:=s;simp only[aA4]at h;refine⟨λE=>(by rw[J]at E;subst E;simp at W),λi U=>?_⟩;have H:i∈rs:=by rw[J]at U;exact U
   have C:=h i H;obtain⟨e,r⟩:=F i H;cases hoi:ops[i]? with
   | none=>simp[hoi]at C
   | some o=>
    simp only[hoi]at C;refine aC8 hoi D G (x hoi) (K:=λR q=>S q/\aA4 P ops S (k i) (Run P ops (ops.toList.drop n) (Q .normal)) R q) (λO q A B z=>⟨λ_=>z.1,?_⟩) ?_
    .exact ih (k i) _ O q (p.set U e) A B z.1 r z.2
    .split
     .rename_i g;rw[if_pos g]at C;exact C
     .rename_i g;rw[if_neg g]at C;exact⟨L,C⟩
def bK5{id n N:Nat}{e:aO1}{Q:Exit->Fr->World->Prop}{a:Act}{w:World}(hm:P.follows .mixedOrders=true)(C:∀c f w,¬Q (.panic c) f w)
  (k:cm8 ops n e=true) (g:db1 N ops=true) (D:a.tmps.size=N) (E:a.defers=[]) (hS:S w.drew)
  (h:aA4 P ops S e (Run P ops (ops.toList.drop n) (Q .normal)) (ai2 a) w.drew):(Code.region id ops true).wp P (lft N Q) a w:=by
 simp only[cm8,eh5]at k;obtain⟨⟨H,d⟩,l⟩:=k;have I:n<=ops.size:=by
  simp only[eq6,ei8,eh5]at d;omega
 have m:HeadInv .any ops n (Array.replicate ops.size false):=
  ⟨by simp,λj J _ y=>(by rw[getD_replicate_false]at y;cases y),λt _ r=>getD_in (by simpa using r) (getD_replicate_false _ _)⟩
 have s:∀i,i<n->∀b,HeadInv .any ops n b->b.getD i true=false->∀t,n<=t->t∉Region.ready .any ops b:=by
  intro i F b v u t r z;simp only[eq6,ei8,eh5]at d;rcases d with x|⟨⟨x,A⟩,B⟩
  .obtain⟨_,K,q,_⟩:=mem_ready.1 z;have:=(ef5.1 q).1;omega
  .exact tail_waits A B x v _ i rfl F u t r z
 refine wp_region_any hm (bK4 (S:=S) (n:=n) _ _ _ _ ?_);have p:∀o∈ops.toList,okd N o.dst=true:=by
  intro o G;have:=Array.all_eq_true'.1 g o (by simpa using G);exact this
 have:=bK3 (S:=S) C H s p n e _ a w.drew m D E hS l h
 rwa [show n+(ops.size-n)=ops.size by omega]at this
end
def eo4:=@List.getElem?_eq_none
def ej9:=@List.map_cons
def el1:=@Option.isSome_iff_exists
def el5:=@Option.map_some
def eh1:=@Option.some.inj
def eq4:=@Option.some.injEq
def eg9:=@Result.andThen_ok
def eh7:=@Sem.run_bind
def ej3:=@Sem.run_pure
def M9(P:Program)(t:TypeId):Option TypeId:=match P.underlying t with
 | some (.slice e)=>some e
 | _=>none
def cb0(P:Program)(t:TypeId):Bool:=match P.underlying t with
 | some .string=>true
 | _=>false
def bV7(P:Program)(t:TypeId):Option (Nat×TypeId):=match P.underlying t with
 | some (.array n e)=>some (n,e)
 | _=>none
def N0(P:Program)(t:TypeId):Nat:=((P.info? t).map (·.size)).getD 0
def H3(P:Program)(t:TypeId):Option Value:=(P.info? t).bind (·.zero)
def da2(P:Program)(t:TypeId):Nat:=((P.info? t).map (·.bytes)).getD 0
def J5(P:Program)(t:TypeId):Bool:=match P.underlying t with
 | some (.struct _)=>true
 | some (.array _ _)=>true
 | none=>true
 | _=>false
def C5(P:Program)(s:TypeId)(i:Nat):Option (Nat×TypeId):=match P.underlying s with
 | some (.struct fs)=>match fs[i]? with
   | some a=>if N0 P a.type=0 then none else some (a.offset,a.type)
   | none=>none
 | _=>none
def eqT(P:Program)(t:TypeId):Nat:=match P.underlying t with
 | some .bool=>1
 | some (.pointer _)=>2
 | some (.slice _)=>3
 | some (.map _ _)=>4
 | some (.func _ _ _)=>5
 | some (.interface _)=>6
 | _=>0
def dt7(P:Program)(t:TypeId):Option IntKind:=match P.underlying t with
 | some (.int k)=>some k
 | _=>none
def P2(P:Program)(t:TypeId):Option (Array Value×List (Nat×Nat)):=match(P.info? t).bind (·.zero),P.underlying t with
 | some z,some (.struct fs)=>if fs.toList.all (λa=>(P.info? a.type).isSome)then some (z.cells,fs.toList.map λa=>(a.offset,N0 P a.type))else none
 | some z,some (.array n e)=>if(P.info? e).isSome then some (z.cells,(List.range n).map λi=>(i*N0 P e,N0 P e))else none
 | _,_=>none
def isS:Value->Bool
 | .slice _ _ _=>true
 | _=>false
def vlen:Value->Nat
 | .slice _ n _=>n
 | _=>0
def cl2:Value->Bool
 | .slice none _ _=>true
 | _=>false
def vcap:Value->Nat
 | .slice _ _ c=>c
 | _=>0
def inS:Value->Nat->Bool
 | .slice (some _) n _,k=>decide (k<n)
 | _,_=>false
def G9:Value->Nat->Addr
 | .slice (some a) _ _,k=>a.add k
 | _,_=>default
def reS(v:Value)(l h sz:Nat):Value:=match v with
 | .slice a _ cap=>.slice (if cap=l then a else a.map (·.add (l*sz))) (h-l) (cap-l)
 | _=>undef
def F6(op:BinOp)(k:IntKind)(a b:Int):Option Value:=match op with
 | .add=>some (.int k (k.wrap (a+b)))
 | .sub=>some (.int k (k.wrap (a-b)))
 | .mul=>some (.int k (k.wrap (a*b)))
 | .quo=>if b=0 then none else some (.int k (k.wrap (a.tdiv b)))
 | .rem=>if b=0 then none else some (.int k (a.tmod b))
 | .eql=>some (.bool (a==b))
 | .neq=>some (.bool (a != b))
 | .lss=>some (.bool (a<b))
 | .leq=>some (.bool (a<=b))
 | .gtr=>some (.bool (a>b))
 | .geq=>some (.bool (a≥b))
 | .and=>some (.int k (k.wrap (BitVec.ofInt k.bits a &&& BitVec.ofInt k.bits b).toNat))
 | .or=>some (.int k (k.wrap (BitVec.ofInt k.bits a ||| BitVec.ofInt k.bits b).toNat))
 | .xor=>some (.int k (k.wrap (BitVec.ofInt k.bits a ^^^ BitVec.ofInt k.bits b).toNat))
 | .andNot=>some (.int k (k.wrap (BitVec.ofInt k.bits a &&& ~~~BitVec.ofInt k.bits b).toNat))
 | _=>none
def C4(P:Program)(op:BinOp)(t:TypeId):Value->Value->Option Value
 | .int k a,.int k' b=>match op with
   | .shl=>if b<0 then none else some (.int k (k.wrap (a*2 ^ (min b.toNat k.bits))))
   | .shr=>if b<0 then none else some (.int k (a.fdiv (2 ^ (min b.toNat k.bits))))
   | _=>if k=k' then F6 op k a b else none
 | .string a,.string b=>match op with
   | .eql=>some (.bool (a.toList==b.toList))
   | .neq=>some (.bool !(a.toList==b.toList))
   | .lss=>some (.bool (Op.bytesLess a.toList b.toList))
   | .leq=>some (.bool (Op.bytesLess a.toList b.toList||a.toList==b.toList))
   | .gtr=>some (.bool !(Op.bytesLess a.toList b.toList||a.toList==b.toList))
   | .geq=>some (.bool !(Op.bytesLess a.toList b.toList))
   | .add=>if((a.size+b.size:Nat):Int)>IntKind.i64.max then none else some (.string (a++b))
   | _=>none
 | .bool a,.bool b=>match op with
   | .eql=>if eqT P t=1 then some (.bool (a==b))else none
   | .neq=>if eqT P t=1 then some (.bool !(a==b))else none
   | _=>none
 | .pointer a,.pointer none=>match op with
   | .eql=>if eqT P t=2 then some (.bool a.isNone)else none
   | .neq=>if eqT P t=2 then some (.bool !a.isNone)else none
   | _=>none
 | a,.slice none 0 0=>match op with
   | .eql=>if isS a&&eqT P t==3 then some (.bool (cl2 a))else none
   | .neq=>if isS a&&eqT P t==3 then some (.bool !(cl2 a))else none
   | _=>none
 | _,_=>none
def unV(op:UnOp):Value->Option Value
 | .bool b=>match op with
   | .not=>some (.bool !b)
   | _=>none
 | .int k n=>match op with
   | .neg=>some (.int k (k.wrap (0-n)))
   | _=>none
 | _=>none
def bX4(P:Program)(s:TypeId)(i:Nat):Value->Option Value
 | .pointer (some a)=>match C5 P s i with
   | some (o,_)=>some (.pointer (some (a.add o)))
   | none=>none
 | _=>none
def cm2(P:Program)(t:TypeId)(cs:Array Value)(o:Nat):Option Value:=
 if J5 P t then(if(P.info? t).isSome&&(P.underlying t).isSome then some (.agg (cs.extract o (o+N0 P t)))else none)else cs[o]?
def aZ6(P:Program)(s:TypeId)(i:Nat):Value->Option Value
 | .agg cs=>match C5 P s i with
   | some (o,t)=>cm2 P t cs o
   | none=>none
 | _=>none
def y4(P:Program)(t:TypeId)(x:Value):Value->Option Value
 | .int _ n=>match M9 P t with
   | some e=>if(P.info? e).isSome&&decide (0<=n)&&inS x n.toNat then some (.pointer (some (G9 x (n.toNat*N0 P e))))else none
   | none=>match bV7 P t,x with
     | some (len,e),.pointer (some a)=>if(P.info? e).isSome&&decide (0<=n)&&decide (n<len)then some (.pointer (some (a.add (n.toNat*N0 P e))))else none
     | _,_=>none
 | _=>none
def ac6(P:Program)(t:TypeId)(x:Value):Value->Option Value
 | .int _ n=>match bV7 P t,x with
   | some (len,e),.agg cs=>if(P.info? e).isSome&&decide (0<=n)&&decide (n<len)then cm2 P e cs (n.toNat*N0 P e)else none
   | none,.string s=>if cb0 P t&&decide (0<=n)then(s[n.toNat]?).map λb=>.int .u8 b.toNat else none
   | _,_=>none
 | _=>none
def J0(P:Program)(t:TypeId)(x:Value)(b a:Option Value):Option Value:=
 match(match b with|none=>some 0|some (.int _ n)=>some n|_=>none:Option Int),
  (match a with|none=>some ((if isS x then vlen x else match x with | .string s=>s.size|_=>0:Nat):Int)|some (.int _ n)=>some n|_=>none:Option Int)with
 | some l,some h=>match M9 P t with
   | some e=>if(P.info? e).isSome&&isS x&&decide (0<=l)&&decide (l<=h)&&decide (h<=vcap x)then some (reS x l.toNat h.toNat (N0 P e))else none
   | none=>match x with
     | .string s=>if cb0 P t&&decide (0<=l)&&decide (l<=h)&&decide (h<=s.size)then some (.string (s.extract l.toNat h.toNat))else none
     | _=>none
 | _,_=>none
def T6(P:Program)(t:TypeId)(x:Value):Option Value:=
 if(M9 P t).isSome then(if isS x then some (.int .i64 (vlen x))else none)
 else match x with
  | .string s=>if cb0 P t then some (.int .i64 s.size)else none
  | _=>match bV7 P t with
    | some (n,_)=>some (.int .i64 n)
    | none=>none
def dq9(P:Program)(t:TypeId)(x:Value):Option Value:=
 if(M9 P t).isSome&&isS x then some (.int .i64 (vcap x))else none
def bq9(P:Program)(s d:TypeId):Value->Option Value
 | .int _ n=>match dt7 P d with
   | some k=>if(P.underlying s).isSome then some (.int k (k.wrap n))else none
   | none=>none
 | _=>none
def J9(a:List (Nat×Nat))(cs:Array Value)(parts:List (Nat×Value)):Option (Array Value):=Instr.fill (λi=>a[i]?) cs parts
def B6(P:Program)(t:TypeId)(parts:List (Nat×Value)):Option Value:=
 match P2 P t with
 | some (z,pl)=>(J9 pl z parts).map .agg
 | none=>none
def dg0:Value->Value->Option Value
 | .int k x,.int _ y=>some (.int k (if y<x then y else x))
 | _,_=>none
def df7:Value->Value->Option Value
 | .int k x,.int _ y=>some (.int k (if y>x then y else x))
 | _,_=>none
def ay9(P:Program)(f:Fr):Op->Option Value
 | .move x=>some (ev f x)
 | .assign x=>some (ev f x)
 | .pick c a b=>match ev f c with
   | .bool t=>some (if t then ev f a else ev f b)
   | _=>none
 | .binOp op t x y _=>C4 P op t (ev f x) (ev f y)
 | .unOp op _ x=>unV op (ev f x)
 | .fieldAddr s x i=>bX4 P s i (ev f x)
 | .field s x i=>aZ6 P s i (ev f x)
 | .indexAddr t x i=>y4 P t (ev f x) (ev f i)
 | .index t x i=>ac6 P t (ev f x) (ev f i)
 | .slice t x lo hi none=>J0 P t (ev f x) (lo.map (ev f)) (hi.map (ev f))
 | .extract x i=>match ev f x with
   | .tuple vs=>vs[i]?
   | _=>none
 | .convert s d x=>bq9 P s d (ev f x)
 | .nilCheck x=>match ev f x with
   | .pointer (some a)=>some (.pointer (some a))
   | _=>none
 | .makeFunc fn first cap=>some (.func fn (first.map (ev f)) (cap.map (ev f)))
 | .build t parts=>B6 P t (parts.toList.map λp=>(p.1,ev f p.2))
 | .call c=>match c.callee with
   | .builtin .len=>match c.args.toList,c.argTypes.toList with
     | [x],[t]=>T6 P t (ev f x)
     | _,_=>none
   | .builtin .cap=>match c.args.toList,c.argTypes.toList with
     | [x],[t]=>dq9 P t (ev f x)
     | _,_=>none
   | .builtin .min=>match c.args.toList with
     | [x,y]=>dg0 (ev f x) (ev f y)
     | _=>none
   | .builtin .max=>match c.args.toList with
     | [x,y]=>df7 (ev f x) (ev f y)
     | _=>none
   | _=>none
 | _=>none
section
variable {P:Program}
def H4(t:TypeId)(w:World):(underlying t).run P w=match P.underlying t with
  | some d=>.ok d w
  | none=>.halt (.stuck "no such type") w:=by
 simp only[underlying,program,eh7,Sem.run,eg9];cases P.underlying t<;>rfl
def N3(t:TypeId)(w:World):(typeInfo t).run P w=match P.info? t with
  | some d=>.ok d w
  | none=>.halt (.stuck "no such type") w:=by
 simp only[typeInfo,program,eh7,Sem.run,eg9];cases P.info? t<;>rfl
def S3{t:TypeId}(h:(P.info? t).isSome=true)(w:World):(sizeOf t).run P w = .ok (N0 P t) w:=by
 obtain⟨i,a⟩:=el1.1 h;simp[sizeOf,N3,a,N0]
def ae2(t:TypeId)(h:(P.underlying t).isSome=true)(w:World):(isAgg t).run P w = .ok (J5 P t) w:=by
 obtain⟨i,a⟩:=el1.1 h;unfold isAgg J5;rw[eh7,H4,a];cases i<;>rfl
def bj7{t:TypeId}(h:J5 P t=false):(P.underlying t).isSome=true:=by
 unfold J5 at h;cases hu:P.underlying t with
 | none=>simp[hu]at h
 | some d=>rfl
def bG9{t:TypeId}{cs:Array Value}{o:Nat}{v:Value}(h:cm2 P t cs o=some v)(w:World):(part t cs o).run P w = .ok v w:=by
 unfold cm2 at h;unfold part;by_cases ha:J5 P t=true
 .rw[if_pos ha]at h;by_cases hi:((P.info? t).isSome&&(P.underlying t).isSome)=true
  .rw[if_pos hi]at h;simp only[eh5]at hi;obtain rfl:=eh1 h;simp only[eh7,ae2 t hi.2,eg9,ha,Sem.run_ite,em4,S3 hi.1,ej3]
  .rw[if_neg hi]at h;cases h
 .have a:J5 P t=false:=by simpa using ha
  rw[if_neg ha]at h;simp only[eh7,ae2 t (bj7 a),eg9,a,em5,en5,h,ej3]
def bn4{op:BinOp}{t:TypeId}{x y:Operand}{a b:Value}(d:a ≠ .nilIface)(e:∀c,a ≠ .agg c)(w:World):
  (eqGuard op t x y a b).run P w = .ok () w:=by
 unfold eqGuard;cases op<;>first|rfl|(cases a<;>first|rfl|exact absurd rfl d|exact absurd rfl (e _))
def cs3{op:BinOp}{t:TypeId}{x y:Operand}{a b v:Value}(h:C4 P op t a b=some v)(w:World):
  (do eqGuard op t x y a b;binOp op t a b:Sem Value).run P w = .ok v w:=by
 have k:(eqGuard op t x y a b).run P w = .ok () w:=by
  apply bn4
  .rintro rfl;unfold C4 at h;split at h<;>first
    | (simp_all;done)
    | (split at h<;>simp_all [isS])
  .rintro m rfl;unfold C4 at h;split at h<;>first
    | (simp_all;done)
    | (split at h<;>simp_all [isS])
 rw[eh7,k,eg9];unfold C4 at h;split at h
 .split at h
  .split at h
   .cases h
   .rename_i g;obtain rfl:=eh1 h;simp[binOp,Op.shift,g]
  .split at h
   .cases h
   .rename_i g;obtain rfl:=eh1 h;simp[binOp,Op.shift,g]
  .rename_i o r;split at h
   .rename_i l;subst l;unfold F6 at h;cases op<;>simp only[eq4]at h <;>
     first
     | (subst h;simp[binOp,Op.intArith,Op.intCmp,Op.intBits])
     | (split at h<;>first|(rename_i g;obtain rfl:=eh1 h;simp[binOp,Op.intDiv,g];done)|(cases h;done))
     | (exact absurd rfl (by assumption))
     | cases h
   .cases h
 .split at h<;>first
   | (obtain rfl:=eh1 h;simp[binOp,Op.stringOp])
   | (split at h<;>first|(rename_i g;obtain rfl:=eh1 h;simp only[binOp,Op.stringOp];rw[if_neg g];rfl)|(cases h;done))
   | cases h
 .have f:∀{p q:Bool},eqT P t=1->(Op.equal t (.bool p) (.bool q)).run P w = .ok (p==q) w:=by
   intro p q e;unfold eqT at e;unfold Op.equal Op.maxDepth Op.equalIn;rw[eh7,H4];cases hu:P.underlying t with
   | none=>simp[hu]at e
   | some d=>cases d<;>simp[hu]at e ⊢
  split at h<;>first
   | (split at h
      .rename_i e;obtain rfl:=eh1 h;simp[binOp,f e]
      .cases h)
   | cases h
 .have f:∀{p:Option Addr},eqT P t=2->(Op.equal t (.pointer p) (.pointer none)).run P w = .ok p.isNone w:=by
   intro p e;unfold eqT at e;unfold Op.equal Op.maxDepth Op.equalIn;rw[eh7,H4];cases hu:P.underlying t with
   | none=>simp[hu]at e
   | some d=>cases d<;>simp[hu]at e ⊢<;> (cases p<;>rfl)
  split at h<;>first
   | (split at h
      .rename_i e;obtain rfl:=eh1 h;simp[binOp,f e]
      .cases h)
   | cases h
 .have f:isS a=true->eqT P t=3->(Op.equal t a (.slice none 0 0)).run P w = .ok (cl2 a) w:=by
   intro j e;cases a
   case slice p n c=>
    unfold eqT at e;unfold Op.equal Op.maxDepth Op.equalIn;rw[eh7,H4];cases hu:P.underlying t with
    | none=>simp[hu]at e
    | some d=>cases d<;>simp[hu]at e ⊢<;> (cases p<;>rfl)
   all_goals (simp[isS]at j)
  have i:isS a=true->binOp .eql t a (.slice none 0 0)=(do pure (.bool (<-Op.equal t a (.slice none 0 0))))/\binOp .neq t a (.slice none 0 0)=(do pure (.bool (!(<-Op.equal t a (.slice none 0 0))))):=by
   intro j;cases a
   case slice p n c=>exact⟨rfl,rfl⟩
   all_goals (simp[isS]at j)
  split at h<;>first
   | (split at h
      .rename_i e;simp only[eh5,beq_iff_eq]at e;obtain rfl:=eh1 h
       first|rw[(i e.1).1]|rw[(i e.1).2]
       simp[f e.1 e.2]
      .cases h)
   | cases h
 .cases h
def O4{t e:TypeId}(h:M9 P t=some e):P.underlying t=some (.slice e):=by
 unfold M9 at h;cases hu:P.underlying t with
 | none=>simp[hu]at h
 | some d=>cases d<;>simp[hu]at h;subst h;rfl
def bk8{t e:TypeId}{n:Nat}(h:bV7 P t=some (n,e)):P.underlying t=some (.array n e):=by
 unfold bV7 at h;cases hu:P.underlying t with
 | none=>simp[hu]at h
 | some d=>cases d<;>simp[hu]at h;obtain⟨rfl,rfl⟩:=h;rfl
def aV5{t:TypeId}(h:cb0 P t=true):P.underlying t=some .string:=by
 unfold cb0 at h;cases hu:P.underlying t with
 | none=>simp[hu]at h
 | some d=>cases d<;>simp[hu]at h;rfl
def cA6{t:TypeId}(h:¬N0 P t=0):(P.info? t).isSome=true:=by
 unfold N0 at h;cases hi:P.info? t with
 | none=>simp[hi]at h
 | some i=>rfl
def br3{s:TypeId}{i o t:Nat}(h:C5 P s i=some (o,t)):∃b a,P.underlying s=some (.struct b)/\b[i]?=some a/\¬N0 P t=0/\a.offset=o/\a.type=t:=by
 unfold C5 at h;cases hu:P.underlying s with
 | none=>simp[hu]at h
 | some d=>
  cases d
  case struct b=>
   simp only[hu]at h;cases hf:b[i]? with
   | none=>simp[hf]at h
   | some a=>
    simp only[hf]at h;split at h
    .cases h
    .rename_i c;simp only[eq4,Prod.mk.injEq]at h;obtain⟨rfl,rfl⟩:=h;exact⟨b,a,rfl,hf,c,rfl,rfl⟩
  all_goals simp[hu]at h
def bX5{s i:Nat}{x v:Value}(h:bX4 P s i x=some v)(w:World):(Instr.fieldAt s x i).run P w = .ok v w:=by
 unfold bX4 at h;split at h
 .split at h
  .rename_i a o t g;obtain⟨k,j,c,d,b,e,f⟩:=br3 g;obtain rfl:=eh1 h;subst e f;unfold Instr.fieldAt;rw[eh7,H4,c];simp only[eg9,d,eh7,Instr.sureAddr,ej3,Go.fieldPlace,S3 (cA6 b),Sem.run_ite];rw[if_neg b];rfl
  .cases h
 .cases h
def cu1{s i:Nat}{x v:Value}(h:aZ6 P s i x=some v)(w:World):(Instr.field s x i).run P w = .ok v w:=by
 unfold aZ6 at h;split at h
 .split at h
  .rename_i f o t e;obtain⟨j,g,a,b,k,c,d⟩:=br3 e;subst c d;unfold Instr.field;rw[eh7,H4,a];simp only[eg9,b,eh7,asAgg,ej3,bG9 h]
  .cases h
 .cases h
def de2{x:Value}{k:Nat}(h:inS x k=true):∃a n c,x = .slice (some a) n c/\k<n:=by
 unfold inS at h;split at h
 .exact⟨_,_,_,rfl,by simpa using h⟩
 .cases h
def cw6{t:Nat}{x i v:Value}(h:y4 P t x i=some v)(w:World):(Instr.indexAt t x i).run P w = .ok v w:=by
 unfold y4 at h;split at h
 .rename_i k n;split at h
  .rename_i e d;split at h
   .rename_i b;simp only[eh5,ei8]at b;obtain⟨⟨f,o⟩,g⟩:=b;obtain⟨a,m,c,rfl,j⟩:=de2 g;obtain rfl:=eh1 h;unfold Instr.indexAt;simp only[asIntOf,eh7,ej3,eg9,H4,O4 d];have:0<=n/\n<(m:Int):=by omega
    simp only[this,and_self,em4,eh7,S3 f,eg9,ej3,G9]
   .cases h
  .split at h
   .rename_i l e a d;split at h
    .rename_i b;simp only[eh5,ei8]at b;obtain⟨⟨f,o⟩,j⟩:=b;obtain rfl:=eh1 h;unfold Instr.indexAt;simp only[asIntOf,eh7,ej3,eg9,H4,bk8 d,Instr.sureAddr];have:0<=n/\n<(l:Int):=by omega
     simp only[this,and_self,em4,eh7,S3 f,eg9,ej3]
    .cases h
   .cases h
 .cases h
def bY0{t:Nat}{x i v:Value}(h:ac6 P t x i=some v)(w:World):(Instr.index t x i).run P w = .ok v w:=by
 unfold ac6 at h;split at h
 .rename_i k n;split at h
  .rename_i c e m f;split at h
   .rename_i a;simp only[eh5,ei8]at a;obtain⟨⟨g,d⟩,j⟩:=a;unfold Instr.index;simp only[asIntOf,eh7,ej3,eg9,H4,bk8 f];have:0<=n/\n<(c:Int):=by omega
    simp only[this,and_self,em4,eh7,S3 g,eg9,bG9 h]
   .cases h
  .rename_i s f;split at h
   .rename_i a;simp only[eh5,ei8]at a;obtain⟨l,d⟩:=a;unfold Instr.index;simp only[asIntOf,eh7,ej3,eg9,H4,aV5 l,d,em4];cases hb:s[n.toNat]? with
    | none=>simp[hb]at h
    | some b=>
     simp only[hb,el5,eq4]at h;subst h;rfl
   .cases h
  .cases h
 .cases h
def cx2{t:TypeId}{x v:Value}{ty:TypeId}(h:T6 P t x=some v)(w:World):(Builtin.len_ #[t] ty #[x]).run P w = .ok v w:=by
 unfold T6 at h;split at h
 .rename_i b;obtain⟨e,b⟩:=el1.1 b;split at h
  .rename_i d;obtain rfl:=eh1 h;cases x
   case slice a n c=>simp[Builtin.len_,H4,O4 b,vlen,goInt]
   all_goals simp[isS]at d
  .cases h
 .split at h
  .rename_i s;split at h
   .rename_i d;obtain rfl:=eh1 h;simp[Builtin.len_,H4,aV5 d,goInt]
   .cases h
  .rename_i f;split at h
   .rename_i n e b;obtain rfl:=eh1 h;cases x<;>simp[Builtin.len_,H4,bk8 b,goInt]
   .cases h
def ct0{t:TypeId}{x v:Value}{ty:TypeId}(h:dq9 P t x=some v)(w:World):(Builtin.cap_ #[t] ty #[x]).run P w = .ok v w:=by
 unfold dq9 at h;split at h
 .rename_i b;simp only[eh5]at b;obtain⟨e,d⟩:=el1.1 b.1;obtain rfl:=eh1 h;cases x
  case slice a n c=>simp[Builtin.cap_,H4,O4 d,vcap,goInt]
  all_goals (simp[isS]at b)
 .cases h
def cf5{s d:TypeId}{x v:Value}(h:bq9 P s d x=some v)(w:World):(convert s d x).run P w = .ok v w:=by
 unfold bq9 at h;split at h
 .split at h
  .rename_i k a;split at h
   .rename_i f;obtain rfl:=eh1 h;obtain⟨g,b⟩:=el1.1 f;have e:P.underlying d=some (.int k):=by
     unfold dt7 at a;cases hu:P.underlying d with
     | none=>simp[hu]at a
     | some c=>cases c<;>simp[hu]at a;subst a;rfl
    unfold convert;simp only[eh7,H4,b,e,eg9,Conv.intToInt,ej3]
   .cases h
  .cases h
 .cases h
def bW1{t:TypeId}{parts:List (Nat×Value)}{v:Value}(h:B6 P t parts=some v)(w:World):(Instr.build t parts.toArray).run P w = .ok v w:=by
 unfold B6 at h;cases hb:P2 P t with
 | none=>simp[hb]at h
 | some B=>
  obtain⟨z,C⟩:=B;simp only[hb]at h;unfold P2 at hb;have l:∀(g:List Field),(g.all λk=>(P.info? k.type).isSome)=true ->
    (g.mapM (m:=Sem) λf=>do pure (f.offset,<-sizeOf f.type)).run P w = .ok (g.map λk=>(k.offset,N0 P k.type)) w:=by
   intro g
   induction g with
   | nil=>intro _;simp
   | cons f g s=>
    intro a;simp only[List.all_cons,eh5]at a;simp only[List.mapM_cons,eh7,S3 a.1,eg9,ej3,s a.2,ej9]
  unfold Instr.build zeroValue;cases hi:P.info? t with
  | none=>simp[hi]at hb
  | some i=>
   cases hz:i.zero with
   | none=>simp[hi,hz]at hb
   | some x=>
    simp only[hi,Option.bind_some,hz]at hb;simp only[eh7,N3,hi,eg9,hz,ej3,H4];cases hu:P.underlying t with
    | none=>simp[hu]at hb
    | some d=>
     cases d
     case struct g=>
      simp only[hu]at hb;split at hb
      .rename_i a;simp only[eq4,Prod.mk.injEq]at hb;obtain⟨rfl,rfl⟩:=hb;simp only[eg9];rw[Array.mapM_eq_mapM_toList];simp only[eh7,Sem.run_map]
       erw [l _ a]
       simp only[eg9];unfold J9 at h;simp only[List.getElem?_toArray];cases hf:Instr.fill (λi=>(g.toList.map λk=>(k.offset,N0 P k.type))[i]?) x.cells parts with
       | none=>rw[hf]at h;cases h
       | some j=>
        simp only[hf,el5,eq4]at h;subst h;rfl
      .cases hb
     case array n e=>
      simp only[hu]at hb;split at hb
      .rename_i A;simp only[eq4,Prod.mk.injEq]at hb;obtain⟨rfl,rfl⟩:=hb;simp only[eg9,eh7,S3 A];unfold J9 at h;have B8:∀(o:List (Nat×Value)) (p c:Array Value),Instr.fill (λi=>((List.range n).map λi=>(i*N0 P e,N0 P e))[i]?) p o=some c ->
         Instr.fill (λi=>some (i*N0 P e,N0 P e)) p o=some c:=by
        intro o
        induction o with
        | nil=>intro p c b;exact b
        | cons q o s=>
         intro p c b;obtain⟨u,D⟩:=q;unfold Instr.fill at b ⊢;by_cases hq:u<n
         .have r:((List.range n).map λi=>(i*N0 P e,N0 P e))[u]?=some (u*N0 P e,N0 P e):=by simp[hq]
          rw[r]at b;simp only at b ⊢;split at b
          .cases b
          .rename_i y;rw[if_neg y];exact s _ _ b
         .rw[eo4 (by simpa using hq)]at b;cases b
       cases hf:Instr.fill (λi=>((List.range n).map λi=>(i*N0 P e,N0 P e))[i]?) x.cells parts with
       | none=>rw[hf]at h;cases h
       | some j=>
        simp only[hf,el5,eq4]at h;subst h;simp only[B8 _ _ _ hf];rfl
      .cases hb
     all_goals simp[hu]at hb
def ca6{t:TypeId}{x v:Value}{m g:Option Value}(h:J0 P t x m g=some v)(w:World):(Instr.sliceAt t x m g none).run P w = .ok v w:=by
 unfold J0 at h;split at h
 .rename_i l j f b;have i:(∃k,m=some (.int k l))\/m=none/\l=0:=by
   split at f
   .exact .inr ⟨rfl,(eh1 f).symm⟩
   .obtain rfl:=eh1 f;exact .inl ⟨_,rfl⟩
   .cases f
  split at h
  .rename_i e y;split at h
   .rename_i o;simp only[eh5,ei8]at o;obtain⟨⟨⟨⟨r,p⟩,z⟩,A⟩,u⟩:=o;obtain rfl:=eh1 h;have d:(∃k,g=some (.int k j))\/g=none/\j=vlen x:=by
     split at b
     .rw[p,if_pos rfl]at b;exact .inr ⟨rfl,(eh1 b).symm⟩
     .obtain rfl:=eh1 b;exact .inl ⟨_,rfl⟩
     .cases b
    cases x
    case slice a n c=>
     simp only[vcap]at u;simp only[vlen]at d;have q:(Instr.sliceBounds true n c m g none).run P w = .ok (l.toNat,j.toNat,c) w:=by
      rcases i with⟨k,rfl⟩|⟨rfl,rfl⟩<;>rcases d with⟨B,rfl⟩|⟨rfl,rfl⟩ <;>
       simp only[Instr.sliceBounds,Instr.sliceBound,asIntOf,eh7,ej3,eg9]
      .rw[if_pos (by omega)];simp only[ej3,eg9];rw[if_pos (by omega)];rfl
      .rw[if_pos (by omega)];rfl
      .rw[if_pos (by omega)];rfl
      .rfl
     unfold Instr.sliceAt;simp only[eh7,H4,O4 y,eg9];unfold Instr.slice;simp only[eh7,H4,O4 y,eg9,q,S3 r,ej3,reS]
    all_goals simp[isS]at p
   .cases h
  .split at h
   .rename_i s;split at h
    .rename_i o;simp only[eh5,ei8]at o;obtain⟨⟨⟨p,z⟩,A⟩,u⟩:=o;obtain rfl:=eh1 h;have d:(∃k,g=some (.int k j))\/g=none/\j=s.size:=by
      split at b
      .simp only[isS,em5,en5]at b;exact .inr ⟨rfl,(eh1 b).symm⟩
      .obtain rfl:=eh1 b;exact .inl ⟨_,rfl⟩
      .cases b
     have q:(Instr.sliceBounds false s.size s.size m g none).run P w = .ok (l.toNat,j.toNat,s.size) w:=by
      rcases i with⟨k,rfl⟩|⟨rfl,rfl⟩<;>rcases d with⟨B,rfl⟩|⟨rfl,rfl⟩ <;>
       simp only[Instr.sliceBounds,Instr.sliceBound,asIntOf,eh7,ej3,eg9]
      .rw[if_pos (by omega)];simp only[ej3,eg9];rw[if_pos (by omega)];rfl
      .rw[if_pos (by omega)];rfl
      .rw[if_pos (by omega)];rfl
      .rfl
     unfold Instr.sliceAt;simp only[eh7,H4,aV5 p,eg9];unfold Instr.slice;simp only[eh7,H4,aV5 p,eg9,q,ej3,Option.isSome_none,em5,en5]
    .cases h
   .cases h
 .cases h
def aR5{f:Fr}{o:Oper}{v:Value}(h:ay9 P f o.op=some v)(w:World):(execOp (ev f) o).run P w = .ok (.value v) w:=by
 have g:∀{s:Sem Value},s.run P w = .ok v w->(do pure (.value (<-s)):Sem Next).run P w = .ok (.value v) w:=λE=>by
  rw[eh7,E];rfl
 obtain⟨d,op,ty,H,C,I⟩:=o;unfold ay9 at h;simp only at h;cases op<;>try simp only at h
 case move x=>obtain rfl:=eh1 h;rfl
 case assign x=>obtain rfl:=eh1 h;rfl
 case pick c a b=>
  split at h
  .rename_i t r;obtain rfl:=eh1 h;simp only[execOp,r,asBool,eh7,ej3,eg9]
  .cases h
 case binOp op t x y t2=>exact g (cs3 h w)
 case unOp op t x=>
  refine g ?_;unfold unV at h;split at h
  .rename_i b A;split at h
   .obtain rfl:=eh1 h;simp[A,Op.unary]
   .cases h
  .rename_i k n A;split at h
   .obtain rfl:=eh1 h;simp[A,Op.unary,Op.intArith]
   .cases h
  .cases h
 case fieldAddr s x i=>exact g (bX5 h w)
 case field s x i=>exact g (cu1 h w)
 case indexAddr t x i=>exact g (cw6 h w)
 case index t x i=>exact g (bY0 h w)
 case slice t x lo hi mx=>
  cases mx
  case none=>exact g (ca6 h w)
  case some m=>cases h
 case extract x i=>
  refine g ?_;split at h
  .rename_i J F;unfold Instr.extract;simp only[F,h];rfl
  .cases h
 case nilCheck x=>
  split at h
  .rename_i a D;obtain rfl:=eh1 h;simp only[execOp,D,ej3]
  .cases h
 case convert s d' x=>exact g (cf5 h w)
 case makeFunc fn first cap=>obtain rfl:=eh1 h;rfl
 case build t parts=>
  refine g ?_;have:=bW1 h w;have e:(parts.toList.map λp=>(p.1,ev f p.2)).toArray=parts.map λp=>(p.1,ev f p.2):=by
   apply Array.ext';simp
  rw[e]at this;exact this
 case call c=>
  obtain⟨z,args,u⟩:=c;simp only at h;cases z
  case builtin b=>
   cases b<;>try simp only at h
   case len=>
    split at h
    .rename_i x t l r;have j:args=#[x]:=by apply Array.ext';simpa using l
     have q:u=#[t]:=by apply Array.ext';simpa using r
     subst j q;have:=cx2 (ty:=ty) h w;simp only[execOp,resolve,invoke,builtin,eh7,ej3,eg9];simp only[List.map_toArray,ej9,List.map_nil,this,eg9]
    .cases h
   case cap=>
    split at h
    .rename_i x t l r;have j:args=#[x]:=by apply Array.ext';simpa using l
     have q:u=#[t]:=by apply Array.ext';simpa using r
     subst j q;have:=ct0 (ty:=ty) h w;simp only[execOp,resolve,invoke,builtin,eh7,ej3,eg9];simp only[List.map_toArray,ej9,List.map_nil,this,eg9]
    .cases h
   case min=>
    split at h
    .rename_i x y l;have j:args=#[x,y]:=by apply Array.ext';simpa using l
     subst j;unfold dg0 at h;split at h
     .rename_i k a G b l B;obtain rfl:=eh1 h;simp[execOp,resolve,invoke,builtin,Builtin.min_,Builtin.min2,l,B]
     .cases h
    .cases h
   case max=>
    split at h
    .rename_i x y l;have j:args=#[x,y]:=by apply Array.ext';simpa using l
     subst j;unfold df7 at h;split at h
     .rename_i k a G b l B;obtain rfl:=eh1 h;simp[execOp,resolve,invoke,builtin,Builtin.max_,Builtin.max2,l,B]
     .cases h
    .cases h
   all_goals cases h
  all_goals cases h
 all_goals cases h
end
def ej1:=@Nat.zero_add
def bk6(f:Fr)(o:Oper):Option (Sem Value):=match o.op with
 | .load t a=>some (Instr.loadAt t (ev f a))
 | .buildSlice t n parts=>some (Instr.buildSlice t n (parts.map λp=>(p.1,ev f p.2)))
 | .alloc e=>some (Instr.alloc e true (.tuple #[]))
 | .box e x=>some (Instr.box e (ev f x))
 | .makeSlice t l c=>some (Instr.makeSlice t (ev f l) (ev f c))
 | .binOp op t x y _=>some (do eqGuard op t x y (ev f x) (ev f y);binOp op t (ev f x) (ev f y))
 | .convert s d x=>some (convert s d (ev f x))
 | .makeMap t r=>some (Instr.makeMap t (r.map (ev f)))
 | .lookup t x i ok=>some (Instr.lookup t (ev f x) (ev f i) ok)
 | .makeInterface t x=>some (Instr.makeInterface t (ev f x))
 | .call c=>match c.callee with
   | .builtin .append=>some (Builtin.append_ c.argTypes o.type (c.args.map (ev f)))
   | .builtin .copy=>some (Builtin.copy_ c.argTypes o.type (c.args.map (ev f)))
   | .builtin .clear=>some (Builtin.clear_ c.argTypes o.type (c.args.map (ev f)))
   | .builtin .len=>some (Builtin.len_ c.argTypes o.type (c.args.map (ev f)))
   | .builtin .delete=>some (Builtin.delete_ c.argTypes o.type (c.args.map (ev f)))
   | _=>none
 | _=>none
def ak7(r:Result Value)(K:Fr->World->Prop)(f:Fr)(d:Option Nat):Prop:=match r with
 | .ok v w=>K (C9 f d v) w
 | _=>False
def bn1(r:Result Unit)(K:Fr->World->Prop)(f:Fr)(d:Option Nat):Prop:=match r with
 | .ok _ w=>K (C9 f d undef) w
 | _=>False
def F7(P:Program)(S:World->Prop)(s:Sem Value)(K:Fr->World->Prop)(f:Fr)(d:Option Nat)(w:World):Prop:=
 ∃v,(∀a,S a->s.run P a = .ok v a)/\K (C9 f d v) w
def F2(S:World->Prop)(K:Fr->World->Prop):Fr->World->Prop:=λf w=>S w/\K f w
def bw4(P:Program)(S:Option (World->Prop))(a:Bool)(s:Sem Value)(K:Fr->World->Prop)(f:Fr)(d:Option Nat)(w:World):Prop:=
 match S with
 | none=>ak7 (s.run P w) K f d
 | some S=>if a then F7 P S s K f d w else ak7 (s.run P w) (F2 S K) f d
def aX4(S:Option (World->Prop))(K:Fr->World->Prop):Fr->World->Prop:=
 match S with
 | none=>K
 | some S=>F2 S K
def ap4(P:Program)(k:Nat):Bool:=match P.funcs[k]? with
 | some fn=>fn.name != "runtime.NumGoroutine" && fn.body.isSome
 | none=>false
def aC9(P:Program)(k:Nat)(args:List Value)(w:World)(K:Fr->World->Prop)(f:Fr)(d:Option Nat):Prop:=
 (ap4 P k=true/\Calls P k args.toArray w λe a=>∃v,e = .returned v/\K (C9 f d v) a)\/∃v a,(callFunc k args.toArray).run P w = .ok (.value v) a/\K (C9 f d v) a
def ad7(P:Program)(S:Option (World->Prop))(o:Oper)(K:Fr->World->Prop)(f:Fr)(w:World):Prop:=
 match bk6 f o with
 | some s=>bw4 P S (flt o.op) s K f o.dst w
 | none=>match o.op with
   | .store t a x=>bn1 ((Instr.storeAt t (ev f a) (ev f x)).run P w) (aX4 S K) f o.dst
   | .mapUpdate t m k x=>bn1 ((Instr.mapUpdate t (ev f m) (ev f k) (ev f x)).run P w) (aX4 S K) f o.dst
   | .insert t m k x=>bn1 ((Instr.mapUpdate t (ev f m) (ev f k) (ev f x)).run P w) (aX4 S K) f o.dst
   | .call c=>match c.callee with
     | .value g=>match ev f g with
       | .func (.func k) first cap=>aC9 P k (first.toList++c.args.toList.map (ev f)++cap.toList) w (aX4 S K) f o.dst
       | _=>False
     | _=>False
   | _=>match S with
     | none=>S4 P o K f w
     | some S=>if flt o.op then ∃v,bI6 P S o f v/\K (C9 f o.dst v) w else S4 P o (λd b=>S b/\K d b) f w
def B5(P:Program)(S:Option (World->Prop))(o:Oper)(K:Fr->World->Prop)(f:Fr)(w:World):Prop:=
 match ay9 P f o.op with
 | some v=>K (C9 f o.dst v) w
 | none=>ad7 P S o K f w
def Rn(P:Program)(ops:Array Oper):List Oper->(Fr->World->Prop)->Fr->World->Prop
 | [],K,f,w=>K f w
 | o::l,K,f,w=>match o.guard with
   | none=>B5 P none o (Rn P ops l K) f w
   | some (j,b)=>if aW5 ops f j=some b then B5 P none o (Rn P ops l K) f w else Rn P ops l K (C9 f o.dst undef) w
def RnF(P:Program)(ops:Array Oper)(S:World->Prop):aO1->(Fr->World->Prop)->Fr->World->Prop
 | .nil,K,f,w=>K f w
 | .op i l,K,f,w=>
  match ops[i]? with
  | none=>False
  | some o=>match o.guard with
    | none=>B5 P (some S) o (RnF P ops S l K) f w
    | some (j,b)=>if aW5 ops f j=some b then B5 P (some S) o (RnF P ops S l K) f w else RnF P ops S l K (C9 f o.dst undef) w
 | .fork rs k,K,f,w=>∀i∈rs,
   match ops[i]? with
   | none=>False
   | some o=>match o.guard with
     | none=>B5 P (some S) o (RnF P ops S (k i) K) f w/\flt o.op=false
     | some (j,b)=>if aW5 ops f j=some b then B5 P (some S) o (RnF P ops S (k i) K) f w/\flt o.op=false else RnF P ops S (k i) K (C9 f o.dst undef) w
section
variable {P:Program}
def cN6{k:Nat}{args:List Value}{w:World}{K:Fr->World->Prop}{f:Fr}{d:Option Nat}(h:aC9 P k args w K f d):
  match(callFunc k args.toArray).run P w with
  | .ok (.value v) w'=>K (C9 f d v) w'
  | .ok (.enter g asz) w'=>Calls P g asz w' λe w''=>∃v,e = .returned v/\K (C9 f d v) w''
  | _=>False:=by
 rcases h with⟨hb,h⟩|⟨v,w',hr,h⟩
 .unfold ap4 at hb;cases hf:P.funcs[k]? with
  | none=>simp[hf]at hb
  | some fn=>
   simp only[hf,eh5,bne_iff_ne,ne_eq]at hb;obtain⟨hn,hbd⟩:=hb;have hbn:fn.body.isNone=false:=by cases hx:fn.body<;>simp[hx]at hbd ⊢
   have hne:(fn.name == "runtime.NumGoroutine")=false:=by simpa using hn
   simp only[callFunc,program,eh7,Sem.run,eg9,hf,hne,hbn,em5,en5];exact h
 .rw[hr];exact h
def bN7{d:Option Nat}{g:Operand}{args:Array Operand}{c:Array TypeId}{ty:TypeId}{b:String}{a:Array Edge}{j:Option (Nat×Bool)}{K:Fr->World->Prop}{f:Fr}{w:World}
  (h:match ev f g with
    | .func (.func k) first cap=>aC9 P k (first.toList++args.toList.map (ev f)++cap.toList) w K f d
    | _=>False):S4 P ⟨d,.call ⟨.value g,args,c⟩,ty,b,a,j⟩ K f w:=by
 cases hg:ev f g
 case func fn first cap=>
  cases fn
  case func k=>
   simp only[hg]at h;have i:=cN6 h;unfold S4;have e:(execOp (ev f) ⟨d,.call ⟨.value g,args,c⟩,ty,b,a,j⟩).run P w=(callFunc k (first.toList++args.toList.map (ev f)++cap.toList).toArray).run P w:=by
    simp only[execOp,resolve,hg,Deferred.ofValue,invoke,eh7,ej3,eg9]
    congr 2
    apply Array.ext';simp
   rw[e];generalize(callFunc k (first.toList++args.toList.map (ev f)++cap.toList).toArray).run P w=r at *;cases r with
   | halt x l=>exact i
   | ok n l=>
    cases n
    case value v=>exact i
    case enter g asz=>exact i
    all_goals exact i.elim
  all_goals (simp only[hg]at h)
 all_goals (simp only[hg]at h)
def aw6{o:Oper}{s:Sem Unit}{K:Fr->World->Prop}{f:Fr}{w:World}(a:execOp (ev f) o=(do s;pure .skip:Sem Next))(h:bn1 (s.run P w) K f o.dst):S4 P o K f w:=by
 unfold S4;rw[a,eh7];unfold bn1 at h;cases hr:s.run P w with
 | ok u b=>rw[hr]at h;exact h
 | halt x b=>rw[hr]at h;exact h.elim
def aj0{o:Oper}{s:Sem Value}{K:Fr->World->Prop}{f:Fr}{w:World}(a:execOp (ev f) o=(do pure (.value (<-s)):Sem Next))(h:ak7 (s.run P w) K f o.dst):S4 P o K f w:=by
 unfold S4;rw[a,eh7];unfold ak7 at h;cases hr:s.run P w with
 | ok u b=>rw[hr]at h;exact h
 | halt x b=>rw[hr]at h;exact h.elim
def bj1{o:Oper}{K:Fr->World->Prop}{f:Fr}{w:World}(h:B5 P none o K f w):S4 P o K f w:=by
 unfold B5 at h;cases hp:ay9 P f o.op with
 | some v=>
  simp only[hp]at h;unfold S4;rw[aR5 hp];exact h
 | none=>
  simp only[hp]at h;obtain⟨d,op,p,j,i,n⟩:=o;unfold ad7 bk6 at h;cases op
  case call c=>
   obtain⟨e,args,l⟩:=c;cases e
   case builtin b=>
    cases b
    case append=>exact aj0 rfl h
    case copy=>exact aj0 rfl h
    case clear=>exact aj0 rfl h
    case len=>exact aj0 rfl h
    case delete=>exact aj0 rfl h
    all_goals exact h.elim
   case value g=>exact bN7 h
   case invoke r m=>exact h.elim
  case store t a x=>exact aw6 rfl h
  case mapUpdate t m k x=>exact aw6 rfl h
  case insert t m k x=>exact aw6 rfl h
  all_goals first
   | exact aj0 rfl h
   | exact h
def bj0{S:World->Prop}{o:Oper}{K:Fr->World->Prop}{f:Fr}{w:World}(h:B5 P (some S) o K f w)(hS:S w):
  if flt o.op then ∃v,bI6 P S o f v/\K (C9 f o.dst v) w else S4 P o (λq i=>S i/\K q i) f w:=by
 unfold B5 at h;cases hp:ay9 P f o.op with
 | some v=>
  simp only[hp]at h;split
  .exact⟨v,λi _=>aR5 hp i,h⟩
  .unfold S4;rw[aR5 hp];exact⟨hS,h⟩
 | none=>
  simp only[hp]at h;obtain⟨d,op,z,l,j,u⟩:=o;have e:∀{s:Sem Value},(execOp (ev f) ⟨d,op,z,l,j,u⟩)=(do pure (.value (<-s)):Sem Next)->bw4 P (some S) (flt op) s K f d w ->
    if flt op then ∃v,bI6 P S ⟨d,op,z,l,j,u⟩ f v/\K (C9 f d v) w else S4 P ⟨d,op,z,l,j,u⟩ (λq i=>S i/\K q i) f w:=by
   intro s A n;unfold bw4 at n;cases hfl:flt op with
   | true=>
    simp only[hfl,em4]at n;obtain⟨v,C,B⟩:=n;rw[if_pos rfl];refine⟨v,λi y=>?_,B⟩;rw[A,eh7,C i y];rfl
   | false=>
    simp only[hfl,em5,en5]at n;rw[if_neg (by simp)];exact aj0 A n
  unfold ad7 bk6 at h;cases op
  case call c=>
   obtain⟨p,args,D⟩:=c;cases p
   case builtin b=>
    cases b
    case append=>exact e rfl h
    case copy=>exact e rfl h
    case clear=>exact e rfl h
    case len=>exact e rfl h
    case delete=>exact e rfl h
    all_goals exact h.elim
   case value g=>exact bN7 (K:=F2 S K) h
   case invoke r m=>exact h.elim
  case store t a x=>exact aw6 (K:=F2 S K) rfl h
  case mapUpdate t m k x=>exact aw6 (K:=F2 S K) rfl h
  case insert t m k x=>exact aw6 (K:=F2 S K) rfl h
  all_goals first
   | exact e rfl h
   | exact h
def aD1{ops:Array Oper}{K:Fr->World->Prop}:∀(l:List Oper) (f:Fr) (w:World),Rn P ops l K f w->Run P ops l K f w
 | [],f,w,h=>h
 | o::l,f,w,h=>by
  unfold Rn at h;unfold Run Region.wanted;cases hg:o.guard with
  | none=>
   simp only[hg]at h;simp only[em4];exact ao4 (aD1 l) (bj1 h)
  | some c=>
   obtain⟨j,b⟩:=c;simp only[hg]at h;simp only[beq_iff_eq];split
   .rename_i a;rw[if_pos a]at h;exact ao4 (aD1 l) (bj1 h)
   .rename_i a;rw[if_neg a]at h;exact aD1 l _ _ h
def av3{ops:Array Oper}{S:World->Prop}{K e:Fr->World->Prop}(b:∀f w,K f w->e f w):∀(l:aO1) (f:Fr) (w:World),aA4 P ops S l K f w->aA4 P ops S l e f w
 | .nil,f,w,h=>b _ _ h
 | .op i l,f,w,h=>by
  unfold aA4 at *;cases ho:ops[i]? with
  | none=>simp[ho]at h
  | some o=>
   simp only[ho]at h ⊢;split
   .rename_i a;rw[if_pos a]at h;split
    .rename_i d;rw[if_pos d]at h;obtain⟨v,g,j⟩:=h;exact⟨v,g,av3 b l _ _ j⟩
    .rename_i d;rw[if_neg d]at h;exact ao4 (λf w c=>⟨c.1,av3 b l _ _ c.2⟩) h
   .rename_i a;rw[if_neg a]at h;exact av3 b l _ _ h
 | .fork rs k,f,w,h=>by
  unfold aA4 at *;intro i m;have h:=h i m;cases ho:ops[i]? with
  | none=>simp[ho]at h
  | some o=>
   simp only[ho]at h ⊢;split
   .rename_i a;rw[if_pos a]at h;exact ao4 (λf w c=>⟨c.1,av3 b (k i) _ _ c.2⟩) h
   .rename_i a;rw[if_neg a]at h;exact av3 b (k i) _ _ h
def aj3{ops:Array Oper}{S:World->Prop}{K:Fr->World->Prop}:∀(l:aO1) (f:Fr) (w:World),S w->RnF P ops S l K f w->aA4 P ops S l K f w
 | .nil,f,w,_,h=>h
 | .op i l,f,w,hS,h=>by
  unfold RnF at h;unfold aA4 Region.wanted;cases ho:ops[i]? with
  | none=>simp[ho]at h
  | some o=>
   simp only[ho]at h ⊢;have a:B5 P (some S) o (RnF P ops S l K) f w->(if flt o.op then ∃v,bI6 P S o f v/\aA4 P ops S l K (C9 f o.dst v) w else S4 P o (λn m=>S m/\aA4 P ops S l K n m) f w):=by
    intro p;have c:=bj0 p hS;split
    .rename_i g;rw[if_pos g]at c;obtain⟨v,r,s⟩:=c;exact⟨v,r,aj3 l _ _ hS s⟩
    .rename_i g;rw[if_neg g]at c;exact ao4 (λf w e=>⟨e.1,aj3 l _ _ e.1 e.2⟩) c
   cases hg:o.guard with
   | none=>
    simp only[hg]at h;simp only[em4];exact a h
   | some q=>
    obtain⟨j,b⟩:=q;simp only[hg]at h;simp only[beq_iff_eq];split
    .rename_i d;rw[if_pos d]at h;exact a h
    .rename_i d;rw[if_neg d]at h;exact aj3 l _ _ hS h
 | .fork rs k,f,w,hS,h=>by
  unfold RnF at h;unfold aA4 Region.wanted;intro i t;have h:=h i t;cases ho:ops[i]? with
  | none=>simp[ho]at h
  | some o=>
   simp only[ho]at h ⊢;have a:B5 P (some S) o (RnF P ops S (k i) K) f w/\flt o.op=false->S4 P o (λn m=>S m/\aA4 P ops S (k i) K n m) f w:=by
    rintro⟨p,g⟩;have c:=bj0 p hS;rw[if_neg (by simp[g])]at c;exact ao4 (λf w e=>⟨e.1,aj3 (k i) _ _ e.1 e.2⟩) c
   cases hg:o.guard with
   | none=>
    simp only[hg]at h;simp only[em4];exact a h
   | some q=>
    obtain⟨j,b⟩:=q;simp only[hg]at h;simp only[beq_iff_eq];split
    .rename_i d;rw[if_pos d]at h;exact a h
    .rename_i d;rw[if_neg d]at h;exact aj3 (k i) _ _ hS h
end
def ad0(K:Fr->World->Prop)(Q:Exit->Fr->World->Prop):Exit->Fr->World->Prop
 | .normal,f,w=>K f w
 | e,f,w=>Q e f w
def aa5(id:Nat)(Q:Exit->Fr->World->Prop):Exit->Fr->World->Prop
 | .exit id',f,w=>if id'=id then Q .normal f w else Q (.exit id') f w
 | e,f,w=>Q e f w
def aO9(v:Value)(A B:Fr->World->Prop)(f:Fr)(w:World):Prop:=
 match v with
 | .bool true=>A f w
 | .bool false=>B f w
 | _=>False
def ce0(B:(Exit->Fr->World->Prop)->Fr->World->Prop)(Q:Exit->Fr->World->Prop)(f:Fr)(w:World):Prop:=
 ∃(c:Type) (I:c->Fr->World->Prop) (m:c->Nat) (h:c),I h f w /\
  ∀s d g,I s d g->B (ad0 (λa b=>∃e,m e<m s/\I e a b) Q) d g
def cX1(P:Program)(ops:Array Oper)(K:Fr->World->Prop)(f:Fr)(w:World):Prop:=
 ∃(S:World->Prop) (n:Nat) (a:aO1),cm8 ops n a=true/\S w.drew/\RnF P ops S a (Rn P ops (ops.toList.drop n) K) f w.drew
def CW(P:Program):Code->(Exit->Fr->World->Prop)->Fr->World->Prop
 | .skip,Q,f,w=>Q .normal f w
 | .seq a b,Q,f,w=>CW P a (ad0 (CW P b Q) Q) f w
 | .cond c a b,Q,f,w=>aO9 (ev f c) (CW P a Q) (CW P b Q) f w
 | .block id a,Q,f,w=>CW P a (aa5 id Q) f w
 | .loop a,Q,f,w=>ce0 (CW P a) Q f w
 | .region _ ops d,Q,f,w=>if d then cX1 P ops (Q .normal) f w else Rn P ops ops.toList (Q .normal) f w
 | .exit id,Q,f,w=>Q (.exit id) f w
 | .label _,Q,f,w=>Q .normal f w
 | .ret,Q,f,w=>Q .ret f w
 | _,_,_,_=>False
def ax5(N:Nat):Code->Bool
 | .seq a b=>ax5 N a&&ax5 N b
 | .cond _ a b=>ax5 N a&&ax5 N b
 | .block _ a=>ax5 N a
 | .loop a=>ax5 N a
 | .region _ ops _=>db1 N ops
 | _=>true
def da6(Q:Exit->Fr->World->Prop):Prop:=∀c f w,¬Q (.panic c) f w
def bN9{K:Fr->World->Prop}{Q:Exit->Fr->World->Prop}(h:da6 Q):da6 (ad0 K Q):=λc f w=>h c f w
def cs9{id:Nat}{Q:Exit->Fr->World->Prop}(h:da6 Q):da6 (aa5 id Q):=λc f w=>h c f w
def cC7{P:Program}{Q:Exit->Act->World->Prop}{a:Act}{w:World}{c:Code}{σ:Type}(I:σ->Act->World->Prop)(m:σ->Nat)(D:σ)(v:I D a w)
  (p:∀s a w,I s a w->c.wp P (Exit.then (λq r=>∃y,m y<m s/\I y q r) Q) a w):(Code.loop c).wp P Q a w:=by
 intro b k A;have C:∀n s a w,m s=n->I s a w ->
   ∃e q r,Q e q r/\Arrives P (lone (b.at a (.code c :: .inLoop c::k)) A w) b k A e q r:=by
  intro n
  induction n using Nat.strongRecOn with
  | _ n G=>
   intro s a w F E;obtain⟨e,f,g,i,d⟩:=p s a w E b (.inLoop c::k) A;cases e with
   | normal=>
    obtain⟨y,B,j⟩:=i;obtain⟨u,t,z,o,h⟩:=G (m y) (F ▸ B) y f g rfl j;exact⟨u,t,z,o,.of_steps (Steps.trans d (.one step_inLoop)) h⟩
   | exit id=>exact⟨_,f,g,i,.pass (x:=.inLoop c) rfl (λ_ _=>.inl (by simp)) d⟩
   | goto l=>exact⟨_,f,g,i,.pass (x:=.inLoop c) rfl (λ_ _=>.inl (by simp)) d⟩
   | ret=>exact⟨_,f,g,i,.pass (x:=.inLoop c) rfl (λ_ _=>.inl (by simp)) d⟩
   | panic H=>exact⟨_,f,g,i,.pass (x:=.inLoop c) rfl (λ_ _=>.inl (by simp)) d⟩
   | outgrown=>exact⟨_,f,g,i,.pass (x:=.inLoop c) rfl (λ_ _=>.inl (by simp)) d⟩
 obtain⟨e,q,r,i,d⟩:=C _ D a w rfl v;exact⟨e,q,r,i,.of_steps (.one step_loop) d⟩
def cW8{P:Program}{N:Nat}(hm:P.follows .mixedOrders=true):∀(c:Code) (Q:Exit->Fr->World->Prop) (a:Act) (w:World),da6 Q->ax5 N c=true ->
  a.tmps.size=N->a.defers=[]->CW P c Q (ai2 a) w->c.wp P (lft N Q) a w:=by
 intro c
 induction c with
 | skip=>intro Q a w _ _ i g h;exact wp_skip ⟨i,g,h⟩
 | seq x y q r=>
  intro Q a w k b i g h;simp only[ax5,eh5]at b;refine wp_seq (wp_mono (q _ a w (bN9 k) b.1 i g h) ?_);intro e A z j;cases e
  case normal=>exact r _ A z k b.2 j.1 j.2.1 j.2.2
  all_goals exact j
 | cond v x y q r=>
  intro Q a w k b i g h;simp only[ax5,eh5]at b;simp only[CW]at h;unfold aO9 at h;have H:a.eval v=ev (ai2 a) v:=by rw[bX3]
  generalize J:ev (ai2 a) v=u at h;cases u
  case bool t=>
   cases t
   case true=>exact wp_cond_true (by rw[H,J]) (q _ a w k b.1 i g h)
   case false=>exact wp_cond_false (by rw[H,J]) (r _ a w k b.2 i g h)
  all_goals exact h.elim
 | block id x G=>
  intro Q a w k b i g h;refine wp_block (wp_mono (G _ a w (cs9 k) b i g h) ?_);intro e A z j;cases e
  case exit id'=>
   simp only[Exit.inBlock];simp only[lft,aa5]at j;split
   .rename_i p;rw[if_pos p]at j;exact j
   .rename_i p;rw[if_neg p]at j;exact j
  all_goals exact j
 | loop x G=>
  intro Q a w k b i g h;obtain⟨σ,I,m,Y,L,U⟩:=h;refine cC7 (λs a w=>a.tmps.size=N/\a.defers=[]/\I s (ai2 a) w) m Y ⟨i,g,L⟩ ?_;rintro s A z ⟨F,E,O⟩;refine wp_mono (G _ A z (bN9 k) b F E (U s _ z O)) ?_;intro e K Z j;cases e
  case normal=>
   obtain⟨C,M,X,B,D⟩:=j;exact⟨X,B,C,M,D⟩
  all_goals exact j
 | region id V d=>
  intro Q a w k b i g h;cases d
  case false=>
   simp only[CW,em5,en5]at h;exact wp_region_list (aC7 _ a w (λo T=>Array.all_eq_true'.1 b o (by simpa using T)) i g (aD1 _ _ _ h))
  case true=>
   simp only[CW,em4]at h;obtain⟨S,n,W,C,B,D⟩:=h;exact bK5 hm k C b i g B (av3 (λf w R=>aD1 _ f w R) _ _ _ (aj3 _ _ _ B D))
 | exit id=>intro Q a w _ _ i g h;exact wp_exit ⟨i,g,h⟩
 | label l=>intro Q a w _ _ i g h;exact wp_label ⟨i,g,h⟩
 | ret=>intro Q a w _ _ i g h;exact wp_ret ⟨i,g,h⟩
 | _=>intro Q a w _ _ _ _ h;exact h.elim
def dD3(args:List Value):Fr:=λi=>args.getD i undef
def ce3:Nat->List Value->Fr
 | _,[]=>λ_=>undef
 | k,v::vs=>B3 (ce3 (k+1) vs) k v
def cD4:∀(a:List Value) (k i:Nat),ce3 k a (k+i)=a.getD i undef
 | [],_,_=>by simp[ce3]
 | v::a,k,0=>by simp[ce3,B3]
 | v::a,k,i+1=>by
  have:=cD4 a (k+1) i;simp only[ce3,B3];rw[if_neg (by omega),show k+(i+1)=k+1+i by omega,this];simp
def dD4(args:List Value):dD3 args=ce3 0 args:=by
 funext i
 have:=cD4 args 0 i;simp only[ej1]at this;rw[this];rfl
def cz1(P:Program)(w:World)(f:Fr):ResultVar->Value->Prop
 | .tmp t,v=>v=f t
 | .cell a ty,v=>(do loadVar ty (<-asAddr (f a)):Sem Value).run P w = .ok v w
def bG2(P:Program)(w:World)(f:Fr):List ResultVar->List Value->Prop
 | [],[]=>True
 | r::rs,v::vs=>cz1 P w f r v/\bG2 P w f rs vs
 | _,_=>False
def bo3:List Value->Value
 | [v]=>v
 | vs=>.tuple vs.toArray
def bk5(P:Program)(b:Func)(R:Value->World->Prop):Exit->Fr->World->Prop
 | .normal,f,w=>∃a,bG2 P w f b.results.toList a/\R (bo3 a) w
 | .ret,f,w=>∃a,bG2 P w f b.results.toList a/\R (bo3 a) w
 | _,_,_=>False
def bG3{P:Program}{w:World}{a:Act}:∀(c:List ResultVar) (d:List Value),bG2 P w (ai2 a) c d ->
  (c.mapM (m:=Sem) fun
   | .tmp t=>pure (a.tmps.getD t undef)
   | .cell x t=>do loadVar t (<-asAddr (a.tmps.getD x undef))).run P w = .ok d w
 | [],[],_=>by simp
 | [],_::_,h=>h.elim
 | _::_,[],h=>h.elim
 | r::c,v::d,h=>by
  have e:=bG3 c d h.2;have b:=h.1;cases r with
  | tmp t=>
   simp only[cz1,ai2]at b;subst b;simp only[List.mapM_cons,eh7,ej3,eg9,e]
  | cell x t=>
   simp only[cz1,ai2]at b;simp only[List.mapM_cons];rw[eh7,b];simp only[eh7,ej3,eg9,e]
def bu5{P:Program}{b:Func}{w:World}{a:Act}{vs:List Value}(h:bG2 P w (ai2 a) b.results.toList vs):
  (results b a.tmps).run P w = .ok (bo3 vs) w:=by
 have c:=bG3 _ _ h;unfold results;rw[Array.mapM_eq_mapM_toList];simp only[eh7,Sem.run_map]
 erw [c]
 simp only[eg9,ej3]
 congr 1
 match vs with
 | []=>simp[bo3]
 | [v]=>simp[bo3]
 | v::u::vs=>simp[bo3]
def bq7{P:Program}{k:FuncId}{a:Func}{c:Code}{args:List Value}{w:World}{R:Value->World->Prop}(hm:P.follows .mixedOrders=true)
  (p:P.funcs[k]?=some a) (hb:a.body=some c) (l:ax5 a.ntmps c=true) (d:args.length<=a.ntmps)
  (h:CW P c (bk5 P a R) (ce3 0 args) w):Calls P k args.toArray w (λe o=>∃v,e = .returned v/\R v o):=by
 rw[<-dD4]at h;refine calls_of_wp p hb ?_;have j:ai2 {tmps:=args.toArray++Array.replicate (a.ntmps-args.toArray.size) undef,defers:=[]}=dD3 args:=by
  funext i
  simp only[ai2,dD3,Array.getD_eq_getD_getElem?,List.getD_eq_getElem?_getD];by_cases hi:i<args.length
  .rw[Array.getElem?_append_left (by simpa using hi)];simp
  .rw[Array.getElem?_append_right (by simp;omega)];rw[eo4 (by omega)];by_cases h2:i-args.length<a.ntmps-args.length
   .simp[h2]
   .simp[h2]
 have:=cW8 (N:=a.ntmps) hm c (bk5 P a R) {tmps:=args.toArray++Array.replicate (a.ntmps-args.toArray.size) undef,defers:=[]} w
  (λc f w q=>q) l (by simp;omega) rfl (by rw[j];exact h)
 refine wp_mono this ?_;intro e s o m;cases e
 case normal=>
  obtain⟨_,g,r,n,b⟩:=m;exact⟨g,_,bu5 n,_,rfl,b⟩
 case ret=>
  obtain⟨_,g,r,n,b⟩:=m;exact⟨g,_,bu5 n,_,rfl,b⟩
 all_goals exact m.2.2.elim
abbrev o9(P:Program)(k:FuncId)(args:Array Value)(w:World)(Q:Value->World->Prop):Prop:=Calls P k args w λe a=>∃v,e = .returned v/\Q v a
def p9{P:Program}{k:FuncId}{a:Func}{c:Code}{w:World}{R:Value->World->Prop}(args:List Value)(d:P.funcs[k]?=some a)(hb:a.body=some c)(h:CW P c (bk5 P a R) (ce3 0 args) w)
  (b:ax5 a.ntmps c=true:=by kernel_rfl) (e:Nat.ble args.length a.ntmps=true:=by kernel_rfl) (hm:P.follows .mixedOrders=true:=by kernel_rfl):o9 P k args.toArray w R:=
 bq7 hm d hb b (Nat.le_of_ble_eq_true e) h
def o7{P:Program}{a:Func}{R:Value->World->Prop}{f:Fr}{w:World}{t:Nat}(h:a.results=#[.tmp t])(b:R (f t) w):bk5 P a R .ret f w:=
 ⟨[f t],by rw[h];exact⟨rfl,trivial⟩,b⟩
def W7{P:Program}{a:Func}{R:Value->World->Prop}{f:Fr}{w:World}{t u:Nat}(h:a.results=#[.tmp t,.tmp u])(b:R (.tuple #[f t,f u]) w):bk5 P a R .ret f w:=
 ⟨[f t,f u],by rw[h];exact⟨rfl,rfl,trivial⟩,b⟩
def bS5{P:Program}{a:Func}{R:Value->World->Prop}{f:Fr}{w:World}(h:a.results=#[])(b:R (.tuple #[]) w):bk5 P a R .normal f w:=
 ⟨[],by rw[h];exact trivial,b⟩
section
variable {P:Program} {Q:Exit->Fr->World->Prop} {f:Fr} {w:World} {K:Fr->World->Prop} {ops:Array Oper} {l:List Oper}
theorem dV2:CW P .skip Q f w=Q .normal f w:=rfl
theorem by6{a b:Code}:CW P (.seq a b) Q f w=CW P a (ad0 (CW P b Q) Q) f w:=rfl
theorem dU5{c:Operand}{a b:Code}:CW P (.cond c a b) Q f w=aO9 (ev f c) (CW P a Q) (CW P b Q) f w:=rfl
theorem dK9{id:Nat}{a:Code}:CW P (.block id a) Q f w=CW P a (aa5 id Q) f w:=rfl
theorem dU8{a:Code}:CW P (.loop a) Q f w=ce0 (CW P a) Q f w:=rfl
theorem dY6{id:Nat}:CW P (.region id ops false) Q f w=Rn P ops ops.toList (Q .normal) f w:=rfl
theorem dU6{id:Nat}:CW P (.region id ops true) Q f w=cX1 P ops (Q .normal) f w:=rfl
theorem dU7{id:Nat}:CW P (.exit id) Q f w=Q (.exit id) f w:=rfl
theorem dY7:CW P .ret Q f w=Q .ret f w:=rfl
theorem dY3:ad0 K Q .normal f w=K f w:=rfl
theorem dS4:ad0 K Q .normal=K:=rfl
theorem dY4:ad0 K Q .ret f w=Q .ret f w:=rfl
theorem dY5{i:Nat}:ad0 K Q (.exit i) f w=Q (.exit i) f w:=rfl
theorem dM1{i:Nat}:aa5 i Q .normal f w=Q .normal f w:=rfl
theorem dJ6{i:Nat}:aa5 i Q .normal=Q .normal:=rfl
theorem dM2{i:Nat}:aa5 i Q .ret f w=Q .ret f w:=rfl
theorem dM3{i j:Nat}:aa5 i Q (.exit j) f w=if j=i then Q .normal f w else Q (.exit j) f w:=rfl
theorem dX0{A B:Fr->World->Prop}:aO9 (.bool true) A B f w=A f w:=rfl
theorem dW9{A B:Fr->World->Prop}:aO9 (.bool false) A B f w=B f w:=rfl
def A4{A B:Fr->World->Prop}{b:Bool}(a:b=true->A f w)(c:b=false->B f w):aO9 (.bool b) A B f w:=by
 cases b
 .exact c rfl
 .exact a rfl
def y5{A B:Fr->World->Prop}{k n:Nat}(a:k<n->A f w)(b:k=n->B f w)(B8:k<=n:=by first|assumption|omega):aO9 (.bool (decide ((k:Int)<(n:Int)))) A B f w:=
 A4 (λh=>a (by simpa using h)) (λh=>b (by simp at h;omega))
theorem dZ0:Rn P ops [] K f w=K f w:=rfl
theorem ed0{d:Option Nat}{op:Op}{ty:TypeId}{b:String}{a:Array Edge}:
  Rn P ops (⟨d,op,ty,b,a,none⟩::l) K f w=B5 P none ⟨d,op,ty,b,a,none⟩ (Rn P ops l K) f w:=rfl
theorem ed5{d:Option Nat}{op:Op}{ty:TypeId}{c:String}{a:Array Edge}{j:Nat}{b:Bool}:
  Rn P ops (⟨d,op,ty,c,a,some (j,b)⟩::l) K f w =
   if aW5 ops f j=some b then B5 P none ⟨d,op,ty,c,a,none⟩ (Rn P ops l K) f w else Rn P ops l K (C9 f d undef) w:=rfl
theorem dK7{S:Option (World->Prop)}{d:Option Nat}{op:Op}{ty:TypeId}{b:String}{a:Array Edge}{g:Nat×Bool}:
  B5 P S ⟨d,op,ty,b,a,some g⟩ K f w=B5 P S ⟨d,op,ty,b,a,none⟩ K f w:=rfl
def dc9(ops:Array Oper)(j:Nat):Option Nat:=(ops[j]?).bind (·.dst)
theorem dK2{j:Nat}:aW5 ops f j=match dc9 ops j with|some d=>(match f d with | .bool b=>some b|_=>none)|none=>none:=rfl
section
variable {S:World->Prop} {n i:Nat} {r:aO1}
theorem dV3:RnF P ops S .nil K f w=K f w:=rfl
theorem dY8:RnF P ops S (.op i r) K f w =
  match ops[i]? with
  | none=>False
  | some o=>match o.guard with
    | none=>B5 P (some S) o (RnF P ops S r K) f w
    | some (j,b)=>if aW5 ops f j=some b then B5 P (some S) o (RnF P ops S r K) f w else RnF P ops S r K (C9 f o.dst undef) w:=rfl
end
section
variable {S:Option (World->Prop)} {d:Option Nat} {ty:TypeId} {pos:String} {aft:Array Edge}
theorem dX9{x:Operand}:B5 P S ⟨d,.move x,ty,pos,aft,none⟩ K f w=K (C9 f d (ev f x)) w:=rfl
theorem dK8{x:Operand}:B5 P S ⟨d,.assign x,ty,pos,aft,none⟩ K f w=K (C9 f d (ev f x)) w:=rfl
def aJ9(v:Option Value)(K:Fr->World->Prop)(f:Fr)(d:Option Nat)(w:World)(D:Prop):Prop:=match v with
 | some v=>K (C9 f d v) w
 | none=>D
theorem eb2{v:Value}{D:Prop}:aJ9 (some v) K f d w D=K (C9 f d v) w:=rfl
theorem dY1{v:Value}:ak7 (.ok v w) K f d=K (C9 f d v) w:=rfl
theorem dY2{v:Unit}:bn1 (.ok v w) K f d=K (C9 f d undef) w:=rfl
theorem dY0{c a b:Operand}:B5 P S ⟨d,.pick c a b,ty,pos,aft,none⟩ K f w =
  aJ9 (match ev f c with | .bool t=>some (if t then ev f a else ev f b)|_=>none) K f d w (ad7 P S ⟨d,.pick c a b,ty,pos,aft,none⟩ K f w):=rfl
theorem eb4{op:BinOp}{t a:TypeId}{x y:Operand}:B5 P S ⟨d,.binOp op t x y a,ty,pos,aft,none⟩ K f w =
  aJ9 (C4 P op t (ev f x) (ev f y)) K f d w (ad7 P S ⟨d,.binOp op t x y a,ty,pos,aft,none⟩ K f w):=rfl
theorem ed4{op:UnOp}{t:TypeId}{x:Operand}:B5 P S ⟨d,.unOp op t x,ty,pos,aft,none⟩ K f w =
  aJ9 (unV op (ev f x)) K f d w (ad7 P S ⟨d,.unOp op t x,ty,pos,aft,none⟩ K f w):=rfl
theorem dv3{s:TypeId}{x:Operand}{i:Nat}:B5 P S ⟨d,.fieldAddr s x i,ty,pos,aft,none⟩ K f w =
  aJ9 (bX4 P s i (ev f x)) K f d w (ad7 P S ⟨d,.fieldAddr s x i,ty,pos,aft,none⟩ K f w):=rfl
theorem dQ4{s:TypeId}{x:Operand}{i:Nat}:B5 P S ⟨d,.field s x i,ty,pos,aft,none⟩ K f w =
  aJ9 (aZ6 P s i (ev f x)) K f d w (ad7 P S ⟨d,.field s x i,ty,pos,aft,none⟩ K f w):=rfl
theorem dv4{t:TypeId}{x i:Operand}:B5 P S ⟨d,.indexAddr t x i,ty,pos,aft,none⟩ K f w =
  aJ9 (y4 P t (ev f x) (ev f i)) K f d w (ad7 P S ⟨d,.indexAddr t x i,ty,pos,aft,none⟩ K f w):=rfl
theorem dQ5{t:TypeId}{x i:Operand}:B5 P S ⟨d,.index t x i,ty,pos,aft,none⟩ K f w =
  aJ9 (ac6 P t (ev f x) (ev f i)) K f d w (ad7 P S ⟨d,.index t x i,ty,pos,aft,none⟩ K f w):=rfl
theorem dQ6{t:TypeId}{x:Operand}{b a:Option Operand}:B5 P S ⟨d,.slice t x b a none,ty,pos,aft,none⟩ K f w =
  aJ9 (J0 P t (ev f x) (b.map (ev f)) (a.map (ev f))) K f d w (ad7 P S ⟨d,.slice t x b a none,ty,pos,aft,none⟩ K f w):=rfl
theorem dG4{x:Operand}{i:Nat}:B5 P S ⟨d,.extract x i,ty,pos,aft,none⟩ K f w =
  aJ9 (match ev f x with | .tuple vs=>vs[i]?|_=>none) K f d w (ad7 P S ⟨d,.extract x i,ty,pos,aft,none⟩ K f w):=rfl
theorem dA9{x:Operand}:B5 P S ⟨d,.nilCheck x,ty,pos,aft,none⟩ K f w =
  aJ9 (match ev f x with | .pointer (some a)=>some (.pointer (some a))|_=>none) K f d w (ad7 P S ⟨d,.nilCheck x,ty,pos,aft,none⟩ K f w):=rfl
theorem dA8{b:Fn}{first a:Array Operand}:B5 P S ⟨d,.makeFunc b first a,ty,pos,aft,none⟩ K f w=K (C9 f d (.func b (first.map (ev f)) (a.map (ev f)))) w:=rfl
theorem dQ3{t:TypeId}{parts:Array (Nat×Operand)}:B5 P S ⟨d,.build t parts,ty,pos,aft,none⟩ K f w =
  aJ9 (B6 P t (parts.toList.map λp=>(p.1,ev f p.2))) K f d w (ad7 P S ⟨d,.build t parts,ty,pos,aft,none⟩ K f w):=rfl
theorem eb6{x:Operand}{t:TypeId}:B5 P S ⟨d,.call {callee:=.builtin .len,args:=#[x],argTypes:=#[t]},ty,pos,aft,none⟩ K f w =
  aJ9 (T6 P t (ev f x)) K f d w (ad7 P S ⟨d,.call {callee:=.builtin .len,args:=#[x],argTypes:=#[t]},ty,pos,aft,none⟩ K f w):=rfl
theorem eb5{x:Operand}{t:TypeId}:B5 P S ⟨d,.call {callee:=.builtin .cap,args:=#[x],argTypes:=#[t]},ty,pos,aft,none⟩ K f w =
  aJ9 (dq9 P t (ev f x)) K f d w (ad7 P S ⟨d,.call {callee:=.builtin .cap,args:=#[x],argTypes:=#[t]},ty,pos,aft,none⟩ K f w):=rfl
theorem dG3{s t:Nat}{x:Operand}:B5 P S ⟨d,.convert s t x,ty,pos,aft,none⟩ K f w =
  aJ9 (bq9 P s t (ev f x)) K f d w (ad7 P S ⟨d,.convert s t x,ty,pos,aft,none⟩ K f w):=rfl
theorem eb0{D:Prop}:aJ9 none K f d w D=D:=rfl
theorem eb8{x y:Operand}{a:Array TypeId}:B5 P S ⟨d,.call {callee:=.builtin .min,args:=#[x,y],argTypes:=a},ty,pos,aft,none⟩ K f w =
  aJ9 (dg0 (ev f x) (ev f y)) K f d w (ad7 P S ⟨d,.call {callee:=.builtin .min,args:=#[x,y],argTypes:=a},ty,pos,aft,none⟩ K f w):=rfl
theorem eb7{x y:Operand}{a:Array TypeId}:B5 P S ⟨d,.call {callee:=.builtin .max,args:=#[x,y],argTypes:=a},ty,pos,aft,none⟩ K f w =
  aJ9 (df7 (ev f x) (ev f y)) K f d w (ad7 P S ⟨d,.call {callee:=.builtin .max,args:=#[x,y],argTypes:=a},ty,pos,aft,none⟩ K f w):=rfl
end
section
variable {d:Option Nat} {ty:TypeId} {pos:String} {aft:Array Edge} {S:World->Prop}
theorem dX7{t:TypeId}{a:Operand}:B5 P none ⟨d,.load t a,ty,pos,aft,none⟩ K f w=ak7 ((Instr.loadAt t (ev f a)).run P w) K f d:=rfl
theorem do5{t n:Nat}{a:Array (Nat×Operand)}:B5 P none ⟨d,.buildSlice t n a,ty,pos,aft,none⟩ K f w=ak7 ((Instr.buildSlice t n (a.map λp=>(p.1,ev f p.2))).run P w) K f d:=rfl
theorem dP3{t:Nat}:B5 P none ⟨d,.alloc t,ty,pos,aft,none⟩ K f w=ak7 ((Instr.alloc t true (.tuple #[])).run P w) K f d:=rfl
theorem ea9{t:Nat}{x:Operand}:B5 P none ⟨d,.box t x,ty,pos,aft,none⟩ K f w=ak7 ((Instr.box t (ev f x)).run P w) K f d:=rfl
theorem dv0{t:Nat}{x y:Operand}:B5 P none ⟨d,.makeSlice t x y,ty,pos,aft,none⟩ K f w=ak7 ((Instr.makeSlice t (ev f x) (ev f y)).run P w) K f d:=rfl
theorem aJ6{t:Nat}{r:Option Operand}:B5 P none ⟨d,.makeMap t r,ty,pos,aft,none⟩ K f w=ak7 ((Instr.makeMap t (r.map (ev f))).run P w) K f d:=rfl
theorem dK6{t:Nat}{x i:Operand}{a:Bool}:B5 P none ⟨d,.lookup t x i a,ty,pos,aft,none⟩ K f w=ak7 ((Instr.lookup t (ev f x) (ev f i) a).run P w) K f d:=rfl
theorem dF8{s t:Nat}{x:Operand}:ad7 P none ⟨d,.convert s t x,ty,pos,aft,none⟩ K f w=ak7 ((convert s t (ev f x)).run P w) K f d:=rfl
theorem ea3{op:BinOp}{t a:TypeId}{x y:Operand}:ad7 P none ⟨d,.binOp op t x y a,ty,pos,aft,none⟩ K f w=ak7 ((do eqGuard op t x y (ev f x) (ev f y);binOp op t (ev f x) (ev f y):Sem Value).run P w) K f d:=rfl
def dK5{x y:Operand}{a:Array TypeId}:B5 P none ⟨d,.call {callee:=.builtin .append,args:=#[x,y],argTypes:=a},ty,pos,aft,none⟩ K f w=ak7 ((Builtin.append_ a ty #[ev f x,ev f y]).run P w) K f d:=by
 simp[B5,ay9,ad7,bk6,bw4]
def dX6{x y:Operand}{a:Array TypeId}:B5 P none ⟨d,.call {callee:=.builtin .copy,args:=#[x,y],argTypes:=a},ty,pos,aft,none⟩ K f w=ak7 ((Builtin.copy_ a ty #[ev f x,ev f y]).run P w) K f d:=by
 simp[B5,ay9,ad7,bk6,bw4]
theorem dP6{t:Nat}{a x:Operand}:B5 P none ⟨d,.store t a x,ty,pos,aft,none⟩ K f w=bn1 ((Instr.storeAt t (ev f a) (ev f x)).run P w) K f d:=rfl
theorem aJ7{t:Nat}{m k x:Operand}:B5 P none ⟨d,.mapUpdate t m k x,ty,pos,aft,none⟩ K f w=bn1 ((Instr.mapUpdate t (ev f m) (ev f k) (ev f x)).run P w) K f d:=rfl
def dX5{k:Nat}{a:Array Operand}{b:Array TypeId}:B5 P none ⟨d,.call {callee:=.value (.func k),args:=a,argTypes:=b},ty,pos,aft,none⟩ K f w=aC9 P k (a.toList.map (ev f)) w K f d:=by
 simp[B5,ay9,ad7,bk6,ev,aX4]
theorem dX4{t:TypeId}{a:Operand}:B5 P (some S) ⟨d,.load t a,ty,pos,aft,none⟩ K f w=F7 P S (Instr.loadAt t (ev f a)) K f d w:=rfl
theorem dK4{t:Nat}{x i:Operand}{a:Bool}:B5 P (some S) ⟨d,.lookup t x i a,ty,pos,aft,none⟩ K f w=F7 P S (Instr.lookup t (ev f x) (ev f i) a) K f d w:=rfl
theorem dF7{s t:Nat}{x:Operand}:ad7 P (some S) ⟨d,.convert s t x,ty,pos,aft,none⟩ K f w=F7 P S (convert s t (ev f x)) K f d w:=rfl
theorem ea2{op:BinOp}{t a:TypeId}{x y:Operand}:ad7 P (some S) ⟨d,.binOp op t x y a,ty,pos,aft,none⟩ K f w=F7 P S (do eqGuard op t x y (ev f x) (ev f y);binOp op t (ev f x) (ev f y)) K f d w:=rfl
theorem do3{t n:Nat}{a:Array (Nat×Operand)}:B5 P (some S) ⟨d,.buildSlice t n a,ty,pos,aft,none⟩ K f w=ak7 ((Instr.buildSlice t n (a.map λp=>(p.1,ev f p.2))).run P w) (F2 S K) f d:=rfl
theorem dP0{t:Nat}:B5 P (some S) ⟨d,.alloc t,ty,pos,aft,none⟩ K f w=ak7 ((Instr.alloc t true (.tuple #[])).run P w) (F2 S K) f d:=rfl
theorem ea8{t:Nat}{x:Operand}:B5 P (some S) ⟨d,.box t x,ty,pos,aft,none⟩ K f w=ak7 ((Instr.box t (ev f x)).run P w) (F2 S K) f d:=rfl
theorem du8{t:Nat}{x y:Operand}:B5 P (some S) ⟨d,.makeSlice t x y,ty,pos,aft,none⟩ K f w=ak7 ((Instr.makeSlice t (ev f x) (ev f y)).run P w) (F2 S K) f d:=rfl
def dK3{x y:Operand}{a:Array TypeId}:B5 P (some S) ⟨d,.call {callee:=.builtin .append,args:=#[x,y],argTypes:=a},ty,pos,aft,none⟩ K f w=ak7 ((Builtin.append_ a ty #[ev f x,ev f y]).run P w) (F2 S K) f d:=by
 simp[B5,ay9,ad7,bk6,bw4,flt]
def dX3{x y:Operand}{a:Array TypeId}:B5 P (some S) ⟨d,.call {callee:=.builtin .copy,args:=#[x,y],argTypes:=a},ty,pos,aft,none⟩ K f w=ak7 ((Builtin.copy_ a ty #[ev f x,ev f y]).run P w) (F2 S K) f d:=by
 simp[B5,ay9,ad7,bk6,bw4,flt]
theorem dP2{t:Nat}{a x:Operand}:B5 P (some S) ⟨d,.store t a x,ty,pos,aft,none⟩ K f w=bn1 ((Instr.storeAt t (ev f a) (ev f x)).run P w) (F2 S K) f d:=rfl
def dX2{k:Nat}{a:Array Operand}{b:Array TypeId}:B5 P (some S) ⟨d,.call {callee:=.value (.func k),args:=a,argTypes:=b},ty,pos,aft,none⟩ K f w=aC9 P k (a.toList.map (ev f)) w (F2 S K) f d:=by
 simp[B5,ay9,ad7,bk6,ev,aX4]
end
end
def ei0:=@List.append_assoc
def ej8:=@List.drop_eq_getElem_cons
def ek3:=@List.getElem?_append_left
def ek7:=@List.getElem?_append_right
def ef1:=@List.getElem?_eq_getElem
def ef6:=@List.getElem?_eq_some_iff
def ef4:=@List.length_append
def eg0:=@List.length_take
def eg1:=@List.mem_append
def ej2:=@List.take_append_drop
def eo6:=@List.take_left
def er2:=@Nat.add_mul
def ef9:=@Nat.le_trans
def el8:=@Nat.lt_of_lt_of_le
def el2:=@Nat.min_eq_left
def en3:=@Nat.mul_one
abbrev Hp:=Nat->Option Obj
def m8(w:World):Hp:=λb=>w.heap[b]?
def B8(h k:Hp):Prop:=∀b o,h b=some o->k b=some o
def n7(h:Hp):B8 h h:=λ_ _ e=>e
def p7{a b c:Hp}(h:B8 a b)(k:B8 b c):B8 a c:=λx o e=>k x o (h x o e)
def M7(h:Hp)(a:Addr):Option Value:=match h a.block with
 | some (.cells c _ _)=>if a.spot.isSome then none else c[a.off]?
 | _=>none
theorem al0(w:World)(a:Addr):w.cell? a=M7 (m8 w) a:=rfl
def I7{h k:Hp}(b:B8 h k){a:Addr}{v:Value}(e:M7 h a=some v):M7 k a=some v:=by
 unfold M7 at *;cases hb:h a.block with
 | none=>simp[hb]at e
 | some o=>rw[b _ _ hb];rw[hb]at e;exact e
structure o8 (M:Nat->Prop) (w w':World):Prop where
 os:w'.os=w.os
 tape:w'.tape=w.tape
 output:w'.output=w.output
 size:w.heap.size<=w'.heap.size
 block:∀k,k<w.heap.size->¬M k->w'.heap[k]?=w.heap[k]?
abbrev o6(w a:World):Prop:=o8 (λ_=>False) w a
def o8.refl{M:Nat->Prop}(w:World):o8 M w w:=⟨rfl,rfl,rfl,eg6 _,λ_ _ _=>rfl⟩
def o8.trans{M:Nat->Prop}{a b c:World}(h:o8 M a b)(k:o8 M b c):o8 M a c:=
 ⟨k.os.trans h.os,k.tape.trans h.tape,k.output.trans h.output,ef9 h.size k.size,λi d hm=>(k.block i (el8 d h.size) hm).trans (h.block i d hm)⟩
def o8.weaken{M N:Nat->Prop}{w c:World}(h:o8 M w c)(a:∀k,k<w.heap.size->M k->N k):o8 N w c:=⟨h.os,h.tape,h.output,h.size,λk b d=>h.block k b λhm=>d (a k b hm)⟩
def o6.drew(w:World):o6 w w.drew:=⟨rfl,rfl,rfl,eg6 _,λ_ _ _=>rfl⟩
def o6.alloc(w:World)(o:Obj):o6 w (w.alloc o):=⟨rfl,rfl,rfl,by simp,λk a _=>by
 show(w.heap.push o)[k]?=_;rw[Array.getElem?_push,if_neg (by omega)]⟩
def o8.ext_of{M:Nat->Prop}{w c d:World}(h:o6 w c)(k:o8 M c d)(e:∀b,M b->w.heap.size<=b):o6 w d:=
 ⟨k.os.trans h.os,k.tape.trans h.tape,k.output.trans h.output,ef9 h.size k.size,λi a _=>(k.block i (el8 a h.size) (λhm=>by have:=e i hm;omega)).trans (h.block i a id)⟩
def o8.setCell{M:Nat->Prop}(w:World)(a:Addr)(v:Value)(h:M a.block):o8 M w (w.setCell a v):=
 ⟨rfl,rfl,rfl,by simp[World.setCell],λk _ hm=>by
  simp only[World.setCell,Array.getElem?_modify];rw[if_neg (λe:a.block=k=>hm (e ▸ h))]⟩
def o8.setRow{M:Nat->Prop}(w:World)(g:Nat)(cs:Array Value)(h:M g):o8 M w (w.setRow g cs):=
 ⟨rfl,rfl,rfl,by simp,λk _ hm=>setRow_other w g k cs (λe=>hm (e ▸ h))⟩
def b7{w a:World}(h:o6 w a):B8 (m8 w) (m8 a):=λb o e=>by
 have c:b<w.heap.size:=(ef5.1 (show w.heap[b]?=some o from e)).1;exact(h.block b c id).trans e
def H2{h:Hp}{M:Nat->Prop}{w c:World}(hw:B8 h (m8 w))(hm:o8 M w c)(d:∀b,M b->h b=none):B8 h (m8 c):=λb o e=>by
 have a:=hw b o e;have f:b<w.heap.size:=(ef5.1 (show w.heap[b]?=some o from a)).1;exact(hm.block b f (λg=>by rw[d b g]at e;cases e)).trans a
def aI3{h:Hp}{w:World}(hw:B8 h (m8 w)){b:Nat}(hb:w.heap.size<=b):h b=none:=by
 cases e:h b with
 | none=>rfl
 | some o=>
  have:=(ef5.1 (show w.heap[b]?=some o from hw b o e)).1;omega
class A3 (α:Type) where
 sz:Nat
 pos:0<sz
 enc:Hp->List Value->α->Prop
 len:∀{h cs x},enc h cs x->cs.length=sz
 mono:∀{h k cs x},B8 h k->enc h cs x->enc k cs x
 one:∀{h cs x},enc h cs x->∀v∈cs,v.oneCell'=true
class M5 (α:Type) where
 val:α->Value
 one:∀x,(val x).oneCell'=true
instance {α:Type} [M5 α]:A3 α where
 sz:=1
 pos:=by omega
 enc _ cs x:=cs=[M5.val x]
 len h:=by simp[h]
 mono _ h:=h
 one h:=by
  intro v hv;rw[h]at hv;simp at hv;subst hv;exact M5.one _
instance:M5 Int:=⟨λn=>.int .i64 n,λ_=>rfl⟩
instance:M5 Bool:=⟨λb=>.bool b,λ_=>rfl⟩
instance:M5 ByteArray:=⟨λs=>.string s,λ_=>rfl⟩
instance:M5 Nat:=⟨λn=>.int .u64 n,λ_=>rfl⟩
instance {α β:Type} [A3 α] [A3 β]:A3 (α×β) where
 sz:=A3.sz α+A3.sz β
 pos:=by have:=A3.pos (α:=α);omega
 enc h cs x:=∃c1 c2,cs=c1++c2/\A3.enc h c1 x.1/\A3.enc h c2 x.2
 len:=by rintro h cs x ⟨c1,c2,rfl,h1,h2⟩;simp[A3.len h1,A3.len h2]
 mono:=by rintro h k cs x hk ⟨c1,c2,rfl,h1,h2⟩;exact⟨c1,c2,rfl,A3.mono hk h1,A3.mono hk h2⟩
 one:=by
  rintro h cs x ⟨c1,c2,rfl,h1,h2⟩ v hv;rcases eg1.1 hv with hv|hv
  .exact A3.one h1 v hv
  .exact A3.one h2 v hv
section
variable {α:Type} [A3 α]
def Q8(h:Hp):List Value->List α->Prop
 | cs,[]=>cs=[]
 | cs,x::xs=>∃a b,cs=a++b/\A3.enc h a x/\Q8 h b xs
def O5{h:Hp}:∀{b:List α} {a:List Value},Q8 h a b->a.length=b.length*A3.sz α
 | [],a,e=>by simp[Q8]at e;simp[e]
 | x::b,a,e=>by
  obtain⟨f,g,rfl,c,d⟩:=e;simp only[ef4,ei2,A3.len c,O5 d,er2];omega
def aT2{h k:Hp}(b:B8 h k):∀{c:List α} {a:List Value},Q8 h a c->Q8 k a c
 | [],_,e=>e
 | _::_,_,⟨c1,c2,e,h1,h2⟩=>⟨c1,c2,e,A3.mono b h1,aT2 b h2⟩
def cg5{h:Hp}:∀{c:List α} {b:List Value},Q8 h b c->∀v∈b,v.oneCell'=true
 | [],b,e,v,a=>by simp[Q8]at e;subst e;cases a
 | x::c,b,⟨c1,c2,e,h1,h2⟩,v,a=>by
  subst e;rcases eg1.1 a with a|a
  .exact A3.one h1 v a
  .exact cg5 h2 v a
def aj6{h:Hp}:∀{d:List α} {b a:List Value} {c:List α},Q8 h b d->Q8 h a c->Q8 h (b++a) (d++c)
 | [],b,a,c,e1,e2=>by simp[Q8]at e1;subst e1;exact e2
 | x::d,b,a,c,⟨c1,c2,e,h1,h2⟩,e2=>⟨c1,c2++a,by rw[e,ei0],h1,aj6 h2 e2⟩
def aj7{h:Hp}{a:List Value}{x:α}(b:A3.enc h a x):Q8 h a [x]:=⟨a,[],by simp,b,rfl⟩
def ac3{h:Hp}:∀(d c:List α) {b:List Value},Q8 h b (d++c)->∃a f,b=a++f/\Q8 h a d/\Q8 h f c
 | [],c,b,e=>⟨[],b,rfl,rfl,e⟩
 | x::d,c,b,⟨a,f,e,h1,h2⟩=>by
  obtain⟨g,i,j,k,l⟩:=ac3 d c h2;exact⟨a++g,i,by rw[e,j,ei0],⟨a,g,rfl,h1,k⟩,l⟩
def cg4{h:Hp}{xs:List α}{cs:List Value}(e:Q8 h cs xs){k:Nat}{x:α}(d:xs[k]?=some x):
  ∃b,A3.enc h b x/\∀j,j<A3.sz α->cs[k*A3.sz α+j]?=b[j]?:=by
 have a:k<xs.length:=(ef6.1 d).1;have m:xs=xs.take k++x::xs.drop (k+1):=by
  have c:xs[k]=x:=(ef6.1 d).2;have:=ej2 k xs;rw[ej8 a,c]at this;exact this.symm
 rw[m]at e;obtain⟨f,n,rfl,g,⟨b,o,rfl,c,p⟩⟩:=ac3 _ _ e;refine⟨b,c,λj i=>?_⟩;have l:f.length=k*A3.sz α:=by rw[O5 g,eg0,el2 (Nat.le_of_lt a)]
 rw[ek7 (by omega),l,Nat.add_sub_cancel_left,ek3 (by rw[A3.len c];exact i)]
def db4{h:Hp}{xs:List α}{cs:List Value}(e:Q8 h cs xs){k:Nat}(g:k<xs.length){y:α}{d:List Value}(q:A3.enc h d y):
  Q8 h (cs.take (k*A3.sz α)++d++cs.drop (k*A3.sz α+A3.sz α)) (xs.set k y):=by
 have r:xs=xs.take k++xs[k]::xs.drop (k+1):=by
  have:=ej2 k xs;rw[ej8 g]at this;exact this.symm
 rw[r]at e;obtain⟨b,s,rfl,j,⟨f,c,rfl,o,p⟩⟩:=ac3 _ _ e;have l:b.length=k*A3.sz α:=by rw[O5 j,eg0,el2 (Nat.le_of_lt g)]
 have i:f.length=A3.sz α:=A3.len o;have m:(b++(f++c)).take (k*A3.sz α)=b:=by rw[<-l];exact eo6
 have n:(b++(f++c)).drop (k*A3.sz α+A3.sz α)=c:=by
  rw[<-l,<-i,<-ei0,<-ef4];exact List.drop_left
 rw[m,n];have a:xs.set k y=xs.take k++y::xs.drop (k+1):=List.set_eq_take_append_cons_drop.trans (by rw[if_pos g]);rw[a,ei0];exact aj6 j ⟨d,c,rfl,q,p⟩
instance:A3 (List α) where
 sz:=1
 pos:=by omega
 enc h cs xs:=∃a n c,cs=[.slice a n c]/\n=xs.length/\n<=c/\∃es,Q8 h es xs/\∀j v,es[j]?=some v->∃ad,a=some ad/\M7 h (ad.add j)=some v
 len:=by rintro h cs x ⟨a,n,c,rfl,_⟩;rfl
 mono:=by
  rintro h k cs x hk ⟨a,n,c,e,h1,h2,es,h3,h4⟩;refine⟨a,n,c,e,h1,h2,es,aT2 hk h3,λj v hv=>?_⟩;obtain⟨ad,e1,e2⟩:=h4 j v hv;exact⟨ad,e1,I7 hk e2⟩
 one:=by
  rintro h cs x ⟨a,n,c,rfl,_⟩ v hv;simp at hv;subst hv;rfl
end
abbrev R{α:Type}[A3 α](h:Hp)(v:Value)(x:α):Prop:=A3.enc h [v] x
def Addr.add_add'(a:Addr)(x y:Nat):(a.add x).add y=a.add (x+y):=by
 unfold Addr.add;by_cases hx:x=0
 .subst hx;simp
 .by_cases hy:y=0
  .subst hy;simp[hx]
  .simp[hx,hy,ep8]
section
variable {α:Type} [A3 α] {h:Hp} {v:Value} {xs:List α}
def R.isS(b:R h v xs):isS v=true:=by
 obtain⟨a,n,c,e,_⟩:=b;simp at e;subst e;rfl
def R.vlen(d:R h v xs):vlen v=xs.length:=by
 obtain⟨a,n,c,e,b,_⟩:=d;simp at e;subst e;exact b
def R.vcap(f:R h v xs):xs.length<=vcap v:=by
 obtain⟨a,n,c,e,b,d,_⟩:=f;simp at e;subst e;rw[<-b];exact d
def R.get(A:R h v xs){k:Nat}{x:α}(p:xs[k]?=some x):
  inS v k=true/\∃i,A3.enc h i x/\∀j u,i[j]?=some u->M7 h ((G9 v (k*A3.sz α)).add j)=some u:=by
 obtain⟨a,n,c,e,D,E,i,t,m⟩:=A;simp at e;subst e;obtain⟨g,b,d⟩:=cg4 t p;have z:k<xs.length:=(ef6.1 p).1;have F:=A3.len b;have f:=A3.pos (α:=α);have s:∃u,g[0]?=some u:=by
  rw[ef1 (by omega)];exact⟨_,rfl⟩
 obtain⟨B,l⟩:=s;obtain⟨C,rfl,_⟩:=m (k*A3.sz α+0) B (by rw[d 0 f];exact l);refine⟨by simp[inS];omega,g,b,λj u o=>?_⟩;have y:j<g.length:=(ef6.1 o).1;obtain⟨q,r,w⟩:=m (k*A3.sz α+j) u (by rw[d j (by omega)];exact o);obtain rfl:=eh1 r;simp only[G9];rw[Addr.add_add'];exact w
def R.inS(b:R h v xs){k:Nat}(a:k<xs.length):inS v k=true:=(b.get (ef1 a)).1
end
def M4(a:Addr):a.add 0=a:=by simp[Addr.add]
section
variable {P:Program} {t:TypeId} {w:World} {h:Hp}
def U9{a:Addr}{u:Value}(b:J5 P t=false)(c:w.cell? a=some u):(Instr.loadAt t (.pointer (some a))).run P w = .ok u w:=by
 unfold Instr.loadAt loadVar;simp only[Instr.sureAddr,eh7,ej3,eg9,ae2 t (bj7 b),b,em5,en5,run_load,c]
def bE3{a:Addr}{cs:List Value}(e:J5 P t=true)(f:(P.underlying t).isSome=true)(c:(P.info? t).isSome=true)(d:N0 P t=cs.length)
  (b:∀j u,cs[j]?=some u->w.cell? (a.add j)=some u):(Instr.loadAt t (.pointer (some a))).run P w = .ok (.agg cs.toArray) w:=by
 unfold Instr.loadAt loadVar;simp only[Instr.sureAddr,eh7,ej3,eg9,ae2 t f,e,em4,S3 c,d,run_loadCells_list w a cs b]
def N7{α:Type}[M5 α]{v:Value}{xs:List α}(g:R h v xs)(hw:B8 h (m8 w)){k:Nat}{x:α}(f:xs[k]?=some x)(i:J5 P t=false):
  (Instr.loadAt t (.pointer (some (G9 v k)))).run P w = .ok (M5.val x) w:=by
 obtain⟨_,b,e,d⟩:=g.get f;have a:b=[M5.val x]:=e;have:=d 0 (M5.val x) (by rw[a];rfl);rw[M4]at this;have c:(k*A3.sz α)=k:=en3 k;rw[c]at this;exact U9 i (I7 hw this)
end
def ep5:=@Array.getElem?_eq_getElem
def es4:=@Array.length_toList
def ei5:=@List.append_nil
def en1:=@List.getElem?_take
def el6:=@List.length_drop
def em2:=@List.length_nil
def en4:=@List.length_set
def ep1:=@List.nil_append
def ep3:=@List.size_toArray
def ej5:=@List.take_of_length_le
def ef8:=@List.take_succ_eq_append_getElem
def ep6:=@List.take_zero
def eo2:=@Nat.mul_le_mul_right
def er7:=@World.cell?_alloc_new
def en2:=@cell_of_row
def ej0:=@heap_alloc_new
def B0{α:Type}[A3 α](h:Hp)(w:World)(T:TypeId)(v:Value)(xs:List α):Prop:=
 (v = .slice none 0 0/\xs=[]) \/
 ∃b c a,v = .slice (some ⟨b,0,none⟩) xs.length c/\h b=none/\w.heap[b]?=some (.cells a T (0,0))/\xs.length<=c/\c<=maxLen/\a.size=c*A3.sz α /\
  Q8 h (a.toList.take (xs.length*A3.sz α)) xs
def A0(v:Value)(b:Nat):Prop:=v.ownBlock=some b
def D5{b:Nat}{n c:Nat}:¬A0 (.slice none n c) b:=by simp[A0,Value.ownBlock]
def E9(w:World)(v a:Value):Prop:=∀b,A0 a b->A0 v b\/w.heap.size<=b
section
variable {α:Type} [A3 α] {h:Hp} {w:World} {T:TypeId} {v:Value} {xs:List α}
def B0.nil(h:Hp)(w:World)(T:TypeId):B0 h w T (.slice none 0 0) ([]:List α):=.inl ⟨rfl,rfl⟩
def B0.free(e:B0 h w T v xs){b:Nat}(hb:A0 v b):h b=none:=by
 rcases e with⟨rfl,_⟩|⟨f,c,a,rfl,d,_⟩
 .exact absurd hb D5
 .simp[A0,Value.ownBlock]at hb;subst hb;exact d
def B0.lt(e:B0 h w T v xs){b:Nat}(hb:A0 v b):b<w.heap.size:=by
 rcases e with⟨rfl,_⟩|⟨f,c,a,rfl,g,d,_⟩
 .exact absurd hb D5
 .simp[A0,Value.ownBlock]at hb;subst hb;exact(ef5.1 d).1
def B0.isS(b:B0 h w T v xs):isS v=true:=by
 rcases b with⟨rfl,_⟩|⟨d,c,a,rfl,_⟩<;>rfl
def B0.vlen(b:B0 h w T v xs):vlen v=xs.length:=by
 rcases b with⟨rfl,rfl⟩|⟨d,c,a,rfl,_⟩<;>rfl
def B0.vcap(d:B0 h w T v xs):xs.length<=vcap v:=by
 rcases d with⟨rfl,rfl⟩|⟨e,c,a,rfl,_,_,b,_⟩
 .simp
 .exact b
def B0.inS(d:B0 h w T v xs){k:Nat}(a:k<xs.length):inS v k=true:=by
 rcases d with⟨rfl,rfl⟩|⟨e,c,b,rfl,_⟩
 .simp at a
 .simp[Go.Proofs.YtggahhenbbgffaaGreat.inS,a]
def B0.mod{M:Nat->Prop}{f:World}(k:B0 h w T v xs)(hm:o8 M w f)(i:∀b,A0 v b->¬M b):B0 h f T v xs:=by
 rcases k with j|⟨b,c,d,rfl,g,e,a⟩
 .exact .inl j
 .exact .inr ⟨b,c,d,rfl,g,(hm.block b (ef5.1 e).1 (i b rfl)).trans e,a⟩
def B0.ext{a:World}(b:B0 h w T v xs)(hm:o6 w a):B0 h a T v xs:=b.mod hm λ_ _=>id
def B0.up{k:Hp}(m:B0 h w T v xs)(j:B8 h k)(hb:∀b,A0 v b->k b=none):B0 k w T v xs:=by
 rcases m with l|⟨b,c,a,rfl,n,d,e,f,g,i⟩
 .exact .inl l
 .exact .inr ⟨b,c,a,rfl,hb b rfl,d,e,f,g,aT2 j i⟩
def B0.ro(o:B0 h w T v xs){k:Hp}(m:B8 h k)(hb:∀b,A0 v b->k b=w.heap[b]?):R k v xs:=by
 rcases o with⟨rfl,rfl⟩|⟨b,c,a,rfl,q,e,f,r,s,g⟩
 .exact⟨_,_,_,rfl,rfl,eg6 _,[],rfl,λj v p=>by simp at p⟩
 .refine⟨_,_,_,rfl,rfl,f,_,aT2 m g,λj u d=>⟨_,rfl,?_⟩⟩;have n:j<a.size:=by
   have:=(ef6.1 d).1;simp at this;omega
  have l:a[j]?=some u:=by
   rw[en1]at d;split at d
   .simpa using d
   .cases d
  have i:(⟨b,0,.none⟩:Addr).add j=⟨b,j,.none⟩:=by unfold Addr.add;split<;>simp_all
  rw[i];simp only[M7,hb b rfl,e,Option.isSome_none,em5,en5,l]
theorem B0.rw_(a:B0 h w T v xs)(hw:B8 h (m8 w)):R (m8 w) v xs:=a.ro hw λ_ _=>rfl
def B0.get(p:B0 h w T v xs){k:Nat}{x:α}(i:xs[k]?=some x):
  ∃a,A3.enc h a x/\∀j u,a[j]?=some u->w.cell? ((G9 v (k*A3.sz α)).add j)=some u:=by
 rcases p with⟨rfl,rfl⟩|⟨b,c,d,rfl,q,l,r,s,t,m⟩
 .simp at i
 .obtain⟨a,f,o⟩:=cg4 m i;refine⟨a,f,λj u g=>?_⟩;have e:j<A3.sz α:=by have:=(ef6.1 g).1;rw[A3.len f]at this;exact this
  have:=o j e;rw[g,en1]at this;split at this
  .simp only[G9];rw[Addr.add_add'];have n:(⟨b,0,.none⟩:Addr).add (k*A3.sz α+j)=⟨b,k*A3.sz α+j,.none⟩:=by unfold Addr.add;split<;>simp_all
   rw[n,en2 w b _ d T (0,0) l];simpa using this
  .cases this
end
section
variable {α:Type} [A3 α] {h:Hp} {P:Program} {w:World} {t T:TypeId} {v:Value}
def D6{α:Type}[M5 α]{xs:List α}(g:B0 h w T v xs){k:Nat}{x:α}(f:xs[k]?=some x)(i:J5 P t=false):
  (Instr.loadAt t (.pointer (some (G9 v k)))).run P w = .ok (M5.val x) w:=by
 obtain⟨b,e,d⟩:=g.get f;have a:b=[M5.val x]:=e;have:=d 0 (M5.val x) (by rw[a];rfl);rw[M4]at this;have c:(k*A3.sz α)=k:=en3 k;rw[c]at this;exact U9 i this
def bt7{xs:List (List α)}(g:B0 h w T v xs){k:Nat}{x:List α}(e:xs[k]?=some x)(i:J5 P t=false):
  ∃u,R h u x/\(Instr.loadAt t (.pointer (some (G9 v k)))).run P w = .ok u w:=by
 obtain⟨a,b,d⟩:=g.get e;have f:a.length=1:=A3.len b
 match a,f with
 | [u],_=>
  have:=d 0 u rfl;rw[M4]at this;have c:(k*A3.sz (List α))=k:=en3 k;rw[c]at this;exact⟨u,b,U9 i this⟩
def aX8{a:Addr}{u x:Value}{i:TypeInfo}(f:P.info? t=some i)(g:i.size=1)(h:x.cells=#[x])(c:x.oneCell'=true)(d:w.cell? a=some u)(e:w.frozen? a=false):
  (Instr.storeAt t (.pointer (some a)) x).run P w = .ok () (w.setCell a x):=by
 have b:(store (a.add 0) x).run P w = .ok () (w.setCell a x):=by
  rw[M4];cases x<;>simp[Value.oneCell']at c<;>simp[store,Sem.run,d,e]
 unfold Instr.storeAt storeVar;simp only[Instr.sureAddr,eh7,ej3,eg9,sizeOf,N3,f,g,h,Sem.run_ite];simp only[ep3,ei2,em2,storeCells,eh7,b,eg9,ej3];rfl
def F1{xs:List α}(q:B0 h w T v xs)(p:A3.sz α=1){k:Nat}(g:k<xs.length){x:Value}{y:α}(r:A3.enc h [x] y)(H:x.cells=#[x])
  {i:TypeInfo} (E:P.info? t=some i) (G:i.size=1) :
  ∃j,(Instr.storeAt t (.pointer (some (G9 v k))) x).run P w = .ok () j/\B0 h j T v (xs.set k y)/\o8 (A0 v) w j/\j.heap.size=w.heap.size:=by
 obtain⟨I,K,J⟩:=q.get (ef1 g);have f:x.oneCell'=true:=A3.one r x (by simp);rcases q with⟨rfl,rfl⟩|⟨b,c,a,rfl,u,l,z,A,m,B⟩
 .simp at g
 .have D:(⟨b,0,.none⟩:Addr).add k=⟨b,k,.none⟩:=by unfold Addr.add;split<;>simp_all
  have e:k<a.size:=by rw[m,p];omega
  have d:w.cell? ⟨b,k,.none⟩=some a[k]:=by rw[en2 w b k a T (0,0) l,ep5 e]
  have n:w.frozen? ⟨b,k,.none⟩=false:=frozen_of_row w b k a T l;simp only[G9,D];refine⟨_,aX8 (P:=P) (t:=t) E G H f d n,?_,o8.setCell _ _ _ (by simp[A0,Value.ownBlock]),by simp⟩;right;refine⟨b,c,a.setIfInBounds k x,by simp,u,heap_setCell_same w b k a T x l,by simpa using z,A,by simpa using m,?_⟩;have o:=db4 B g r;have F:(a.toList.take xs.length).length=xs.length:=by
   rw[p]at m;have C:a.toList.length=a.size:=by simp
   rw[eg0,C];omega
  have s:(a.setIfInBounds k x).toList.take ((xs.set k y).length*A3.sz α) =
    (a.toList.take (xs.length*A3.sz α)).take (k*A3.sz α)++[x]++(a.toList.take (xs.length*A3.sz α)).drop (k*A3.sz α+A3.sz α):=by
   rw[p];simp only[Array.toList_setIfInBounds,en4,en3];rw[List.take_set];rw[List.set_eq_take_append_cons_drop,if_pos (by rw[F];exact g)];simp
  rw[s];exact o
def bb0{e:TypeId}{i:TypeInfo}{z:Value}(S:P.underlying t=some (.slice T))(R:P.info? T=some i)(Z:i.zero=some z)(a:i.size=A3.sz α)(U:z.cells.size=i.size)
  {xs ys:List α} (ho:B0 h w T v xs) {ad:Addr} {m c:Nat} {d:List Value} (hm:m=ys.length) (hn:Q8 h d ys) (k:∀j u,d[j]?=some u->w.cell? (ad.add j)=some u)
  (hy:ys≠[]) (x:xs.length+ys.length<=maxLen) (l:(xs.length+ys.length)*i.bytes<=140737488355328) (hw:B8 h (m8 w)) :
  ∃V W,(Builtin.append_ #[t,t] e #[v,.slice (some ad) m c]).run P w = .ok V W/\B0 h W T V (xs++ys)/\o8 (A0 v) w W/\E9 w v V:=by
 have D:=O5 hn;have G:=cg5 hn;have I:0<ys.length:=List.length_pos_iff.2 hy;have q:∀(p:Nat) (g:List Value),Q8 h g (xs++ys)->p<xs.length+ys.length ->
   B0 h (w.drew.alloc (.cells (g.toArray++Builtin.zeroCells z.cells (grownCap w (xs.length+ys.length) p T-(xs.length+ys.length))) T)) T
    (.slice (some ⟨w.heap.size,0,.none⟩) (xs.length+ys.length) (grownCap w (xs.length+ys.length) p T)) (xs++ys):=by
  intro p g Y ah;have Q:=grownCap_ge w (xs.length+ys.length) p T;have N:=grownCap_le_maxLen w (xs.length+ys.length) p T x;have B:=O5 Y;right;refine⟨w.heap.size,_,_,by rw[ef4],aI3 hw (eg6 _),ej0 w.drew _,by rw[ef4];exact Q,N,?_,?_⟩
  .simp only[Array.size_append,ep3,size_zeroCells,U,a,B,ef4,<-er2]
   congr 1
   omega
  .simp only[Array.toList_append];rw[<-B,eo6];exact Y
 have r:∀(o:Obj),o8 (A0 v) w (w.drew.alloc o):=λo=>
  o8.trans ((o6.drew w).weaken (λ_ _ h=>h.elim)) ((o6.alloc w.drew o).weaken (λ_ _ h=>h.elim))
 have F:∀n c,E9 w v (.slice (some ⟨w.heap.size,0,.none⟩) n c):=λn c b X=>by
  simp[A0,Value.ownBlock]at X;subst X;exact .inr (eg6 _)
 subst hm;rcases ho with⟨rfl,rfl⟩|⟨b,A,f,rfl,h1,L,h3,h4,h5,J⟩
 .have H:=run_append_nil (P:=P) w t e T i z S R Z ad ys.length c d (by rw[D,a]) k I (by simp only[maxLen,em2,ej1]at x;omega) (by simp only[em2,ej1]at l;omega);have C:=q 0 d (by simpa using hn) (by simp;exact I);simp only[em2,ej1,ep1]at C ⊢;exact⟨_,_,H,C,r _,F _ _⟩
 .by_cases hroom:xs.length+ys.length<=A
  .have s:xs.length*i.size+d.length<=f.size:=by rw[D,a,h5,<-er2];exact eo2 _ hroom
   have H:=run_append_room (P:=P) w t e T i S R b xs.length A f L ad ys.length c d (by rw[D,a]) k G hroom s;refine⟨_,_,H,?_,o8.setRow _ _ _ (by simp[A0,Value.ownBlock]),λb' M=>.inl M⟩;right;refine⟨b,A,_,by rw[ef4],h1,setRow_heap w b f _ T _ L,by rw[ef4];exact hroom,h4,?_,?_⟩
   .simp only[ep3,ef4,eg0,el6,es4];rw[a]at s ⊢;have:xs.length*A3.sz α<=f.size:=by omega
    omega
   .rw[a];have E:(f.toList.take (xs.length*A3.sz α)++d).length=(xs++ys).length*A3.sz α:=by
     rw[ef4,D,O5 J,ef4,er2]
    rw[<-E,eo6];exact aj6 J hn
  .have O:(f.toList.take (xs.length*A3.sz α)).length=xs.length*i.size:=by rw[O5 J,a]
   have y:∀j u,(f.toList.take (xs.length*A3.sz α))[j]?=some u->w.cell? ((⟨b,0,.none⟩:Addr).add j)=some u:=by
    intro j u K;have ha:(⟨b,0,.none⟩:Addr).add j=⟨b,j,.none⟩:=by unfold Addr.add;split<;>simp_all
    rw[ha,en2 w b j f T (0,0) L];rw[en1]at K;split at K
    .simpa using K
    .cases K
   have H:=run_append_grow (P:=P) w t e T i z S R Z ⟨b,0,.none⟩ xs.length A (f.toList.take (xs.length*A3.sz α)) O y ad ys.length c d (by rw[D,a]) k (by omega)
    (by simp only[maxLen]at x;omega) (growslice_fits (by omega) l)
   have C:=q A (f.toList.take (xs.length*A3.sz α)++d) (aj6 J hn) (by omega);have e1:((f.toList.take (xs.length*A3.sz α)++d).toArray:Array Value)=(f.toList.take (xs.length*A3.sz α)).toArray++d.toArray:=by simp
   rw[e1]at C;exact⟨_,_,H,C,r _,F _ _⟩
def bP2(a:Nat):∀(l:List Value) (k:Nat) (b:Array Value),a+k+l.length<=b.size ->
  ((l.zipIdx k).foldl (λb (p:Value×Nat)=>b.setIfInBounds (a+p.2) p.1) b).toList=b.toList.take (a+k)++l++b.toList.drop (a+k+l.length)
 | [],k,b,_=>by simp
 | v::l,k,b,hl=>by
  simp only[ei2]at hl;rw[List.zipIdx_cons,List.foldl_cons,bP2 a l (k+1) _ (by simp;omega)];have c:b.toList.length=b.size:=by simp
  simp only[Array.toList_setIfInBounds,ei2];rw[show a+(k+1)=a+k+1 by omega,List.take_set,ef8 (by omega),List.set_append_right (h:=by simp;omega)];have d:a+k-(b.toList.take (a+k)).length=0:=by simp;omega
  rw[d,List.drop_set_of_lt (by omega)];simp[ei0,ep8,Nat.add_comm 1]
def db8{a:Nat->Option (Nat×Nat)}{b sz i:Nat}{x:Value}{cs:Array Value}{c:List (Nat×Value)}(e:a i=some (b,sz))(d:x.cells.size=sz)(f:b+sz<=cs.size):
  Instr.fill a cs ((i,x)::c)=Instr.fill a (cs.toList.take b++x.cells.toList++cs.toList.drop (b+sz)).toArray c:=by
 conv=>lhs;unfold Instr.fill
 simp only[e];rw[if_neg (by simp[d];omega)]
 congr 1
 apply Array.ext';have:=bP2 b x.cells.toList 0 cs (by simp;omega);simp only[Nat.add_zero,es4,d]at this;rw[<-this,<-Array.foldl_toList];simp[Array.toList_zipIdx]
def cg8(sz:Nat):∀(b:List Value) (k:Nat) (a:Array Value),(∀x∈b,x.cells.size=sz)->a.size=(k+b.length)*sz ->
  Instr.fill (λi=>some (i*sz,sz)) a ((b.zipIdx k).map λp=>(p.2,p.1))=some (a.toList.take (k*sz)++b.flatMap (·.cells.toList)).toArray
 | [],k,a,_,hc=>by
  simp only[em2,Nat.add_zero]at hc;simp only[List.zipIdx_nil,List.map_nil,Instr.fill,List.flatMap_nil,ei5]
  congr 1
  apply Array.ext';rw[<-hc,ej5 (by simp)]
 | x::b,k,a,hx,hc=>by
  simp only[ei2]at hc;have f:a.size=k*sz+sz+b.length*sz:=by rw[hc,er2,er2];omega
  have c:=hx x (by simp);have d:a.toList.length=a.size:=by simp
  rw[List.zipIdx_cons,ej9];show Instr.fill _ a ((k,x)::_)=_;rw[db8 rfl c (by omega)];have g:(List.take (k*sz) a.toList++x.cells.toList++List.drop (k*sz+sz) a.toList).toArray.size=(k+1+b.length)*sz:=by
   simp[c];rw[er2,er2];omega
  rw[cg8 sz b (k+1) _ (λy h=>hx y (by simp[h])) g]
  congr 2
  have e:(k+1)*sz=(List.take (k*sz) a.toList++x.cells.toList).length:=by
   simp[c,er2];omega
  rw[e,eo6];simp
def az2{e:TypeId}{z:Value}(k:M9 P t=some e)(f:(P.info? e).isSome=true)(m:H3 P e=some z)(xs:List Value)(l:∀x∈xs,x.cells.size=N0 P e)(hn:xs≠[])
  (b:0<N0 P e) (j:xs.length*N0 P e<=16777216) {parts:Array (Nat×Value)} (h:parts.toList=(xs.zipIdx 0).map λp=>(p.2,p.1)) {n:Nat} (c:n=xs.length) :
  (Instr.buildSlice t n parts).run P w = .ok (.slice (some ⟨w.heap.size,0,none⟩) n n) (w.alloc (.cells (xs.flatMap (·.cells.toList)).toArray e)):=by
 subst c;obtain⟨i,a⟩:=el1.1 f;have d:i.zero=some z:=by simpa[H3,a]using m
 have g:¬(xs.length*N0 P e=0):=by
  have:0<xs.length:=List.length_pos_iff.2 hn;exact Nat.ne_of_gt (Nat.mul_pos this b)
 unfold Instr.buildSlice zeroValue;simp only[eh7,H4,O4 k,eg9,S3 f,Sem.run_ite,N3,a,d,ej3];rw[if_neg (by omega)];simp only[g,en5];rw[h,cg8 (N0 P e) xs 0 _ l (by simp)];simp only[Nat.zero_mul,ep6,ep1];rfl
def E1{i:TypeInfo}(a:P.info? t=some i):N0 P t=i.size:=by simp[N0,a]
def aD6{i:TypeInfo}(a:P.info? t=some i):da2 P t=i.bytes:=by simp[da2,a]
def z7{z:Value}(a:H3 P t=some z):∃i,P.info? t=some i/\i.zero=some z:=by
 unfold H3 at a;cases hi:P.info? t with
 | none=>simp[hi]at a
 | some i=>exact⟨i,rfl,by simpa[hi]using a⟩
def dh8{e:TypeId}{z:Value}(G:M9 P t=some T)(I:H3 P T=some z)(a:N0 P T=A3.sz α)(p:z.cells.size=A3.sz α)
  {xs:List α} (F:B0 h w T v xs) {x:Value} {y:α} (H:A3.enc h x.cells.toList y) (B:xs.length+1<=1000000000000) (d:(xs.length+1)*da2 P T<=140737488355328) (hw:B8 h (m8 w)) :
  ∃g k,(Builtin.append_ #[t,t] e #[v,.slice (some ⟨w.heap.size,0,none⟩) 1 1]).run P (w.alloc (.cells x.cells T)) = .ok g k/\B0 h k T g (xs++[y])/\o8 (A0 v) w k/\E9 w v g:=by
 obtain⟨i,l,n⟩:=z7 I;rw[E1 l]at a;rw[aD6 l]at d;have o:B8 h (m8 (w.alloc (.cells x.cells T))):=p7 hw (b7 (o6.alloc w _));have f:∀j u,x.cells.toList[j]?=some u->(w.alloc (.cells x.cells T)).cell? ((⟨w.heap.size,0,none⟩:Addr).add j)=some u:=by
  intro j u E;have C:(⟨w.heap.size,0,none⟩:Addr).add j=⟨w.heap.size,j,none⟩:=by unfold Addr.add;split<;>simp_all
  rw[C,er7];simpa using E
 obtain⟨g,k,q,r,s,A⟩:=bb0 (P:=P) (e:=e) (O4 G) l n a (by rw[p,a]) (F.ext (o6.alloc w (.cells x.cells T))) (c:=1) (m:=1) (ad:=⟨w.heap.size,0,none⟩) rfl (aj7 H) f (by simp)
  (by simp[maxLen];omega) (by simpa using d) o
 refine⟨g,k,q,r,?_,λb D=>?_⟩
 .exact o8.trans ((o6.alloc w (.cells x.cells T)).weaken (λ_ _ h=>h.elim)) s
 .rcases A b D with h|h
  .exact .inl h
  .simp at h;exact .inr (by omega)
def as6{e:TypeId}{z:Value}(g:M9 P t=some e)(c:H3 P e=some z)(a:0<N0 P e)(b:N0 P e<=16777216){x:Value}(h:x.cells.size=N0 P e):
  (Instr.buildSlice t 1 #[(0,x)]).run P w = .ok (.slice (some ⟨w.heap.size,0,none⟩) 1 1) (w.alloc (.cells x.cells e)):=by
 obtain⟨i,d,f⟩:=z7 c;have:=az2 (w:=w) g (by rw[d];rfl) c [x] (by simpa using h) (by simp) a (by simpa using b) (parts:=#[(0,x)]) rfl (n:=1) rfl;simpa using this
end
def ek0:=@List.mem_cons_of_mem
def dr8(ops:Array Oper):List Nat:=ops.toList.filterMap (·.dst)
def wrC:Code->List Nat
 | .seq a b=>wrC a++wrC b
 | .cond _ a b=>wrC a++wrC b
 | .block _ a=>wrC a
 | .loop a=>wrC a
 | .region _ ops _=>dr8 ops
 | _=>[]
section
variable {P:Program}
def bS4{r:Result Value}{K a:Fr->World->Prop}{f:Fr}{d:Option Nat}(h:∀v w,K (C9 f d v) w->a (C9 f d v) w)(b:ak7 r K f d):ak7 r a f d:=by
 cases r with
 | ok v w=>exact h _ _ b
 | halt x w=>exact b.elim
def bn2{r:Result Unit}{K a:Fr->World->Prop}{f:Fr}{d:Option Nat}(h:∀v w,K (C9 f d v) w->a (C9 f d v) w)(b:bn1 r K f d):bn1 r a f d:=by
 cases r with
 | ok v w=>exact h _ _ b
 | halt x w=>exact b.elim
def cr0{k:Nat}{args:List Value}{w:World}{K a:Fr->World->Prop}{f:Fr}{d:Option Nat}(h:∀v w,K (C9 f d v) w->a (C9 f d v) w)(n:aC9 P k args w K f d):aC9 P k args w a f d:=by
 rcases n with⟨i,j⟩|⟨v,b,c,g⟩
 .exact .inl ⟨i,j.mono λe b ⟨v,l,m⟩=>⟨v,l,h _ _ m⟩⟩
 .exact .inr ⟨v,b,c,h _ _ g⟩
def bv2{o:Oper}{K b:Fr->World->Prop}{f:Fr}{w:World}(h:∀v w,K (C9 f o.dst v) w->b (C9 f o.dst v) w)(a:S4 P o K f w):S4 P o b f w:=by
 unfold S4 at *;generalize(execOp (ev f) o).run P w=r at *;cases r with
 | halt x i=>exact a
 | ok n i=>
  cases n
  case value v=>exact h _ _ a
  case skip=>exact h _ _ a
  case enter g args=>exact Calls.mono a λe j ⟨v,c,d⟩=>⟨v,c,h _ _ d⟩
  all_goals exact a
def aI5{S:Option (World->Prop)}{K b:Fr->World->Prop}{f:Fr}{d:Option Nat}(h:∀v w,K (C9 f d v) w->b (C9 f d v) w):∀v w,aX4 S K (C9 f d v) w->aX4 S b (C9 f d v) w:=by
 intro v w a;cases S with
 | none=>exact h _ _ a
 | some S=>exact⟨a.1,h _ _ a.2⟩
def cM4{S:Option (World->Prop)}{b:Bool}{s:Sem Value}{K c:Fr->World->Prop}{f:Fr}{d:Option Nat}{w:World}(h:∀v w,K (C9 f d v) w->c (C9 f d v) w)(a:bw4 P S b s K f d w):bw4 P S b s c f d w:=by
 unfold bw4 at *;cases S with
 | none=>exact bS4 h a
 | some S=>
  cases b with
  | true=>
   simp only[em4]at a ⊢;obtain⟨v,g,i⟩:=a;exact⟨v,g,h _ _ i⟩
  | false=>
   simp only[em5,en5]at a ⊢;exact bS4 (λv w e=>⟨e.1,h _ _ e.2⟩) a
def ae0{S:Option (World->Prop)}{o:Oper}{K l:Fr->World->Prop}{f:Fr}{w:World}(h:∀v w,K (C9 f o.dst v) w->l (C9 f o.dst v) w)(a:B5 P S o K f w):B5 P S o l f w:=by
 unfold B5 at *;split
 .rename_i v j;simp only[j]at a;exact h _ _ a
 .rename_i j;simp only[j]at a;unfold ad7 at *;split
  .rename_i s b;simp only[b]at a;exact cM4 h a
  .rename_i b;simp only[b]at a;obtain⟨d,op,x,r,n,u⟩:=o;cases op
   case store=>exact bn2 (aI5 h) a
   case mapUpdate=>exact bn2 (aI5 h) a
   case insert=>exact bn2 (aI5 h) a
   case call c=>
    obtain⟨e,args,t⟩:=c;cases e
    case value g=>
     simp only at a ⊢;cases hg:ev f g
     case func fn first cap=>
      cases fn
      case func k=>simp only[hg]at a ⊢;exact cr0 (aI5 h) a
      all_goals (simp only[hg]at a)
     all_goals (simp only[hg]at a)
    all_goals exact a
   all_goals
    cases S with
    | none=>exact bv2 h a
    | some S=>
     simp only at a ⊢;split
     .rename_i i;rw[if_pos i]at a;obtain⟨v,p,q⟩:=a;exact⟨v,p,h _ _ q⟩
     .rename_i i;rw[if_neg i]at a;exact bv2 (λv w m=>⟨m.1,h _ _ m.2⟩) a
def bc5{f:Fr}{d:Option Nat}{v:Value}{i:Nat}(h:∀k,d=some k->i≠k):C9 f d v i=f i:=by
 cases d with
 | none=>rfl
 | some k=>simp[C9,B3,h k rfl]
def cX5{ops:Array Oper}{K m:Fr->World->Prop}:∀(l:List Oper) (f:Fr) (w:World),(∀g d,(∀i,i∉l.filterMap (·.dst)->g i=f i)->K g d->m g d)->Rn P ops l K f w->Rn P ops l m f w
 | [],f,w,h,hr=>h _ _ (λ_ _=>rfl) hr
 | o::l,f,w,h,hr=>by
  have c:∀v d,Rn P ops l K (C9 f o.dst v) d->Rn P ops l m (C9 f o.dst v) d:=λv d q=>
   cX5 l _ _ (λg x u r=>h _ _ (λi s=>by
    have t:i∉l.filterMap (·.dst):=λhm=>s (List.mem_filterMap.2 (let⟨a,ha,hd⟩:=List.mem_filterMap.1 hm;⟨a,ek0 _ ha,hd⟩));rw[u i t];exact bc5 λk q e=>s (by subst e;exact List.mem_filterMap.2 ⟨o,by simp,q⟩)) r) q
  unfold Rn at hr ⊢;split
  .rename_i p;simp only[p]at hr;exact ae0 c hr
  .rename_i j b p;simp only[p]at hr;split
   .rename_i n;rw[if_pos n]at hr;exact ae0 c hr
   .rename_i n;rw[if_neg n]at hr;exact c _ _ hr
def ck5{ops:Array Oper}{i:Nat}{o:Oper}{k:Nat}(b:ops[i]?=some o)(a:o.dst=some k):k∈dr8 ops:=
 List.mem_filterMap.2 ⟨o,by have:=Array.mem_of_getElem? b;simpa using this,a⟩
def bV3{ops:Array Oper}{S:World->Prop}{K s:Fr->World->Prop}:∀(l:aO1) (f:Fr) (w:World),(∀q d,(∀i,i∉dr8 ops->q i=f i)->K q d->s q d)->RnF P ops S l K f w->RnF P ops S l s f w
 | .nil,f,w,h,a=>h _ _ (λ_ _=>rfl) a
 | .op i l,f,w,h,a=>by
  unfold RnF at a ⊢;cases ho:ops[i]? with
  | none=>simp[ho]at a
  | some o=>
   simp only[ho]at a ⊢;have c:∀v d,RnF P ops S l K (C9 f o.dst v) d->RnF P ops S l s (C9 f o.dst v) d:=λv d n=>
    bV3 l _ _ (λq u t p=>h _ _ (λj r=>by
     rw[t j r];exact bc5 λk n e=>r (by subst e;exact ck5 ho n)) p) n
   split
   .rename_i m;simp only[m]at a;exact ae0 c a
   .rename_i j b m;simp only[m]at a;split
    .rename_i g;rw[if_pos g]at a;exact ae0 c a
    .rename_i g;rw[if_neg g]at a;exact c _ _ a
 | .fork rs k,f,w,h,a=>by
  unfold RnF at a ⊢;intro i x;have a:=a i x;cases ho:ops[i]? with
  | none=>simp[ho]at a
  | some o=>
   simp only[ho]at a ⊢;have c:∀v d,RnF P ops S (k i) K (C9 f o.dst v) d->RnF P ops S (k i) s (C9 f o.dst v) d:=λv d n=>
    bV3 (k i) _ _ (λq u t p=>h _ _ (λj r=>by
     rw[t j r];exact bc5 λk n e=>r (by subst e;exact ck5 ho n)) p) n
   split
   .rename_i m;simp only[m]at a;exact⟨ae0 c a.1,a.2⟩
   .rename_i j b m;simp only[m]at a;split
    .rename_i g;rw[if_pos g]at a;exact⟨ae0 c a.1,a.2⟩
    .rename_i g;rw[if_neg g]at a;exact c _ _ a
def cW7:∀(c:Code) (Q t:Exit->Fr->World->Prop) (f:Fr) (w:World),(∀e p u,(∀i,i∉wrC c->p i=f i)->Q e p u->t e p u)->CW P c Q f w->CW P c t f w:=by
 intro c
 induction c with
 | skip=>intro Q t f w h g;exact h _ _ _ (λ_ _=>rfl) g
 | seq a b A B=>
  intro Q t f w h g;refine A _ _ _ _ ?_ g;intro e p u q k;cases e
  case normal=>
   refine B _ _ _ _ ?_ k;intro Y H J r y;exact h _ _ _ (λi j=>by
    simp only[wrC,eg1,not_or]at j;rw[r i j.2,q i j.1]) y
  all_goals exact h _ _ _ (λi j=>by
    simp only[wrC,eg1,not_or]at j;exact q i j.1) k
 | cond v a b A B=>
  intro Q t f w h g;simp only[CW]at g ⊢;unfold aO9 at *;split
  .rename_i z;simp only[z]at g;exact A _ _ _ _ (λe p u q k=>h _ _ _ (λi j=>by simp only[wrC,eg1,not_or]at j;exact q i j.1) k) g
  .rename_i z;simp only[z]at g;exact B _ _ _ _ (λe p u q k=>h _ _ _ (λi j=>by simp only[wrC,eg1,not_or]at j;exact q i j.2) k) g
  .rename_i C F;split at g
   .rename_i z;exact absurd z C
   .rename_i z;exact absurd z F
   .exact g
 | block id a G=>
  intro Q t f w h g;refine G _ _ _ _ ?_ g;intro e p u q k;cases e
  case exit id'=>
   simp only[aa5]at k ⊢;split
   .rename_i x;rw[if_pos x]at k;exact h _ _ _ q k
   .rename_i x;rw[if_neg x]at k;exact h _ _ _ q k
  all_goals exact h _ _ _ q k
 | loop a G=>
  intro Q t f w h g;obtain⟨X,I,m,W,K,T⟩:=g;refine⟨X,λs p u=>I s p u/\∀i,i∉wrC a->p i=f i,m,W,⟨K,λ_ _=>rfl⟩,?_⟩;rintro s p u ⟨N,D⟩;refine G _ _ _ _ ?_ (T s p u N);intro e H J r k;cases e
  case normal=>
   obtain⟨V,C,F⟩:=k;exact⟨V,C,F,λi j=>by rw[r i j,D i j]⟩
  all_goals exact h _ _ _ (λi j=>by rw[r i j,D i j]) k
 | region id U d=>
  intro Q t f w h g;cases d
  case false=>exact cX5 _ _ _ (λp u q k=>h _ _ _ q k) g
  case true=>
   obtain⟨S,n,E,C,L,M⟩:=g;refine⟨S,n,E,C,L,?_⟩;refine bV3 E _ _ ?_ M;intro p u q k;refine cX5 _ _ _ ?_ k;intro H J r y;exact h _ _ _ (λi j=>by
    rw[r i,q i j];intro hm;obtain⟨o,R,O⟩:=List.mem_filterMap.1 hm;exact j (List.mem_filterMap.2 ⟨o,er4 R,O⟩)) y
 | exit id=>intro Q t f w h g;exact h _ _ _ (λ_ _=>rfl) g
 | label l=>intro Q t f w h g;exact h _ _ _ (λ_ _=>rfl) g
 | ret=>intro Q t f w h g;exact h _ _ _ (λ_ _=>rfl) g
 | _=>intro Q t f w _ g;exact g
def D9{c:Code}{Q:Exit->Fr->World->Prop}{f:Fr}{w:World}{σ:Type}(a:List Nat)(I:σ->Fr->World->Prop)(m:σ->Nat)(q:σ)
  (r:I q f w)
  (y:∀s b d,(∀i∈a,b i=f i)->I s b d->CW P c (ad0 (λk o=>∃j,m j<m s/\I j k o) Q) b d) (x:a.all (λi=>!(wrC c).contains i)=true:=by decide +kernel):ce0 (CW P c) Q f w:=by
 have n:∀i∈a,i∉wrC c:=by
  intro i h hm;have:=en8.1 x i h;simp[hm]at this
 refine⟨σ,λs b d=>I s b d/\∀i∈a,b i=f i,m,q,⟨r,λ_ _=>rfl⟩,?_⟩;rintro s b d ⟨v,g⟩;refine cW7 c _ _ _ _ ?_ (y s b d g v);intro e z A l p;cases e
 case normal=>
  obtain⟨j,t,u⟩:=p;exact⟨j,t,u,λi h=>by rw[l i (n i h),g i h]⟩
 all_goals exact p
def agr:List Nat->List Value->Fr->Prop
 | i::l,v::vs,f=>f i=v/\agr l vs f
 | _,_,_=>True
def cY0{f g:Fr}:∀(l:List Nat) (a:List Value),l.map g=a->(∀i∈l,f i=g i)->agr l a f
 | [],_,_,_=>trivial
 | i::l,_,rfl,h=>⟨h i (by simp),cY0 l _ rfl λj b=>h j (ek0 _ b)⟩
def A6{c:Code}{Q:Exit->Fr->World->Prop}{f:Fr}{w:World}{σ:Type}{vs:List Value}(a:List Nat)(I:σ->Fr->World->Prop)(m:σ->Nat)(j:σ)
  (k:I j f w)
  (p:∀s b d,agr a vs b->I s b d->CW P c (ad0 (λe g=>∃h,m h<m s/\I h e g) Q) b d)
  (hv:a.map f=vs:=by(simp only[ej9,List.map_nil,B3,↓reduceIte,Nat.reduceEqDiff];exact rfl)) (o:a.all (λi=>!(wrC c).contains i)=true:=by decide +kernel):ce0 (CW P c) Q f w:=
 D9 a I m j k (λs b d l n=>p s b d (cY0 _ _ hv l) n) o
def t8{k:Nat}{args:List Value}{w:World}{K:Fr->World->Prop}{f:Fr}{d:Option Nat}{R:Value->World->Prop}
  (h:Calls P k args.toArray w λe a=>∃v,e = .returned v/\R v a) (c:∀v a,R v a->K (C9 f d v) a) (hb:ap4 P k=true:=by kernel_rfl):aC9 P k args w K f d:=
 .inl ⟨hb,h.mono λ_ _ ⟨v,b,g⟩=>⟨v,b,c _ _ g⟩⟩
def B9{ops:Array Oper}{K:Fr->World->Prop}{f:Fr}{w:World}(S:World->Prop)(n:Nat)(a:aO1)
  (h:RnF P ops S a (Rn P ops (ops.toList.drop n) K) f w.drew) (b:cm8 ops n a=true:=by decide +kernel) (hS:S w.drew:=by first|exact o8.refl _|exact rfl):cX1 P ops K f w:=⟨S,n,a,b,hS,h⟩
def bB5{ops:Array Oper}{K:Fr->World->Prop}{f:Fr}{w:World}(b:List Nat)(S:World->Prop)(n:Nat)(a:aO1)(I:Fr->World->Prop)(j:cm8 ops n a=true)(g:b.all (λi=>!(dr8 ops).contains i)=true)(hS:S w.drew)
  (h:RnF P ops S a I f w.drew) (m:∀c d,(∀i∈b,c i=f i)->I c d->Rn P ops (ops.toList.drop n) K c d):cX1 P ops K f w:=by
 refine⟨S,n,a,j,hS,bV3 a _ _ (λc d k l=>m c d (λi e=>k i ?_) l) h⟩;have:=en8.1 g i e;intro hm;simp[hm]at this
def V1{ops:Array Oper}{S:World->Prop}{K:Fr->World->Prop}{f:Fr}{w:World}{e:List Nat}{k:Nat->aO1}(m:e.all (λi=>match ops[i]? with|some o=>!flt o.op|none=>false)=true)
  (h:∀i∈e,RnF P ops S (.op i (k i)) K f w):RnF P ops S (.fork e k) K f w:=by
 unfold RnF;intro i l;have a:=h i l;have c:=en8.1 m i l;unfold RnF at a;cases ho:ops[i]? with
 | none=>simp[ho]at c
 | some o=>
  simp only[ho]at a c ⊢;have g:flt o.op=false:=by simpa using c
  cases hg:o.guard with
  | none=>simp only[hg]at a ⊢;exact⟨a,g⟩
  | some n=>
   obtain⟨j,b⟩:=n;simp only[hg]at a ⊢;split
   .rename_i d;rw[if_pos d]at a;exact⟨a,g⟩
   .rename_i d;rw[if_neg d]at a;exact a
def A5:List Nat->aO1
 | []=>.nil
 | i::l=>.op i (A5 l)
end
def eh6:=@Int.toNat_natCast
def em6:=@List.ext_getElem
def eg5:=@List.length_map
def ek6:=@List.length_range
def ek9:=@List.length_replicate
def ei4:=@List.map_append
def eo5:=@List.mem_iff_getElem?
def eh3:=@List.mem_of_getElem?
def eg4:=@List.take_length
def el3:=@decide_eq_false
def M2(n:Int)(h : -9223372036854775808<=n/\n<=9223372036854775807):IntKind.i64.wrap n=n:=IntWalk.i64_in n h
def H8(k:Nat)(h:k<4000000000000000000:=by omega):IntKind.i64.wrap ((k:Int)+1)=((k+1:Nat):Int):=by
 rw[M2 _ (by omega)];rfl
def nx2{σ:Type}{A B Z:σ->Prop}(s:σ)(z:Z s)(a:A s:=by first|exact True.intro|omega|(simp only[];first|omega|rw[H8 _]|rfl)|rw[H8 _]|rfl)(b:B s:=by first|exact True.intro|omega|(simp only[];first|omega|rw[H8 _]|rfl)|rw[H8 _]|rfl):∃s,A s/\B s/\Z s:=⟨s,a,b,z⟩
def T4{σ:Type}{A B C Z:σ->Prop}(s:σ)(z:Z s)(a:A s:=by first|exact True.intro|omega|(simp only[];first|omega|rw[H8 _]|rfl)|rw[H8 _]|rfl)(b:B s:=by first|exact True.intro|omega|(simp only[];first|omega|rw[H8 _]|rfl)|rw[H8 _]|rfl)(c:C s:=by first|exact True.intro|omega|(simp only[];first|omega|rw[H8 _]|rfl)|rw[H8 _]|rfl):∃s,A s/\B s/\C s/\Z s:=⟨s,a,b,c,z⟩
def nx4{σ:Type}{A B C D Z:σ->Prop}(s:σ)(z:Z s)(a:A s:=by first|exact True.intro|omega|(simp only[];first|omega|rw[H8 _]|rfl)|rw[H8 _]|rfl)(b:B s:=by first|exact True.intro|omega|(simp only[];first|omega|rw[H8 _]|rfl)|rw[H8 _]|rfl)(c:C s:=by first|exact True.intro|omega|(simp only[];first|omega|rw[H8 _]|rfl)|rw[H8 _]|rfl)(d:D s:=by first|exact True.intro|omega|(simp only[];first|omega|rw[H8 _]|rfl)|rw[H8 _]|rfl):∃s,A s/\B s/\C s/\D s/\Z s:=⟨s,a,b,c,d,z⟩
def nx5{σ:Type}{A B C D E Z:σ->Prop}(s:σ)(z:Z s)(a:A s:=by first|exact True.intro|omega|(simp only[];first|omega|rw[H8 _]|rfl)|rw[H8 _]|rfl)(b:B s:=by first|exact True.intro|omega|(simp only[];first|omega|rw[H8 _]|rfl)|rw[H8 _]|rfl)(c:C s:=by first|exact True.intro|omega|(simp only[];first|omega|rw[H8 _]|rfl)|rw[H8 _]|rfl)(d:D s:=by first|exact True.intro|omega|(simp only[];first|omega|rw[H8 _]|rfl)|rw[H8 _]|rfl)(e:E s:=by first|exact True.intro|omega|(simp only[];first|omega|rw[H8 _]|rfl)|rw[H8 _]|rfl):∃s,A s/\B s/\C s/\D s/\E s/\Z s:=⟨s,a,b,c,d,e,z⟩
def dZ8(k:Nat)(h:k<4000000000000000000):IntKind.i64.wrap (k:Int)=(k:Int):=M2 _ (by omega)
def ea0(k:Nat):decide ((0:Int)<=(k:Int))=true:=by simp
def G0(P:Program)(t T sz by_:Nat):Bool:=
 (M9 P t==some T)&&(match H3 P T with|some z=>z.cells.size==sz|none=>false)&&(N0 P T==sz)&&(da2 P T==by_)&&decide (0<sz)&&decide (sz<=1000000)
def V3{P:Program}{t T sz by_:Nat}(h:G0 P t T sz by_=true):
  M9 P t=some T/\(∃z,H3 P T=some z/\z.cells.size=sz)/\N0 P T=sz/\da2 P T=by_/\0<sz/\sz<=1000000:=by
 simp only[G0,eh5,beq_iff_eq,ei8]at h;obtain⟨⟨⟨⟨⟨b,a⟩,c⟩,d⟩,e⟩,f⟩:=h;refine⟨b,?_,c,d,e,f⟩;cases hz:H3 P T with
 | none=>simp[hz]at a
 | some z=>exact⟨z,rfl,by simpa[hz]using a⟩
section
variable {P:Program} {w:World} {h:Hp} {t T sz by_:Nat} {v:Value}
def push{α:Type}[A3 α]{e:TypeId}(n:G0 P t T sz by_=true)(a:A3.sz α=sz){xs:List α}(m:B0 h w T v xs){x:Value}{y:α}(i:A3.enc h x.cells.toList y)
  (l:xs.length+1<=1000000000000) (hb:(xs.length+1)*by_<=140737488355328) (hw:B8 h (m8 w)) :
  (Instr.buildSlice t 1 #[(0,x)]).run P w = .ok (.slice (some ⟨w.heap.size,0,none⟩) 1 1) (w.alloc (.cells x.cells T)) /\
  ∃c d,(Builtin.append_ #[t,t] e #[v,.slice (some ⟨w.heap.size,0,none⟩) 1 1]).run P (w.alloc (.cells x.cells T)) = .ok c d/\B0 h d T c (xs++[y])/\o8 (A0 v) w d/\E9 w v c:=by
 obtain⟨f,⟨z,j,b⟩,g,k,p,q⟩:=V3 n;have o:x.cells.size=sz:=by have:=A3.len i;simpa[a]using this
 exact⟨as6 f j (by omega) (by omega) (by rw[o,g]),dh8 f j (by rw[g,a]) (by rw[b,a]) m i l (by rw[k];exact hb) hw⟩
def lit{α:Type}[A3 α](s:G0 P t T sz by_=true){xs:List Value}{ys:List α}{parts:Array (Nat×Value)}{n:Nat}(q:parts.toList=(xs.zipIdx 0).map λp=>(p.2,p.1))
  (c:Q8 h (xs.flatMap (·.cells.toList)) ys) (u:∀x∈xs,x.cells.size=sz) (hn:n=xs.length) (a:ys.length=xs.length) (e:xs≠[]) (d:xs.length<=16) (hw:B8 h (m8 w)) :
  ∃v f,(Instr.buildSlice t n parts).run P w = .ok v f/\B0 h f T v ys/\o6 w f/\(∀b,A0 v b->w.heap.size<=b):=by
 obtain⟨j,⟨z,g,y⟩,k,A,B,C⟩:=V3 s;obtain⟨i,m,o⟩:=z7 g;have r:=az2 (w:=w) j (by rw[m];rfl) g xs (by rw[k];exact u) e (by omega) (ef9 (Nat.mul_le_mul d (show N0 P T<=1000000 by omega)) (by omega)) q hn;refine⟨_,_,r,.inr ⟨w.heap.size,n,_,by rw[hn,a],aI3 hw (eg6 _),ej0 w _,by omega,by rw[hn];simp only[maxLen];omega,?_,?_⟩,o6.alloc _ _,λb l=>by simp[A0,Value.ownBlock]at l;omega⟩
 .have:=O5 c;simp only[ep3,this,a,hn]
 .rw[<-O5 c];simp only[eg4];exact c
def cF5{α:Type}[A3 α]{c:List Value}{y:α}(a:A3.enc h c y):∀n:Nat,Q8 h (List.replicate n c).flatten (List.replicate n y)
 | 0=>rfl
 | n+1=>⟨c,(List.replicate n c).flatten,by simp[List.replicate_succ],a,cF5 a n⟩
def ch3(z:Array Value)(c:0<z.size):∀n:Nat,((Array.range (n*z.size)).map λi=>z[i % z.size]!).toList=(List.replicate n z.toList).flatten
 | 0=>by simp
 | n+1=>by
  have b:=ch3 z c n;simp only[Array.toList_map,Array.toList_range]at b ⊢;rw[er2,Nat.one_mul,List.range_add,ei4,b,List.replicate_succ',List.flatten_append]
  congr 1
  simp only[List.map_map,List.flatten_cons,List.flatten_nil,ei5];apply em6
  .simp
  .intro i a d;simp only[eg5,ek6]at a;have:(n*z.size+i) % z.size=i:=by rw[Nat.add_comm,Nat.add_mul_mod_self_right];exact Nat.mod_eq_of_lt a
   simp[this,a]
def mk{α:Type}[A3 α](E:G0 P t T sz by_=true){z:Value}(x:H3 P T=some z){y:α}(u:A3.enc h z.cells.toList y){n:Nat}(hb:by_*n<=281474976710656)(hn:n<=1000000000000)(hw:B8 h (m8 w)):
  ∃v k,(Instr.makeSlice t (.int .i64 n) (.int .i64 n)).run P w = .ok v k/\B0 h k T v (List.replicate n y)/\o6 w k/\(∀b,A0 v b->w.heap.size<=b)/\k.heap.size=w.heap.size+1:=by
 obtain⟨A,⟨G,r,d⟩,s,B,H,I⟩:=V3 E;obtain rfl:z=G:=eh1 (x.symm.trans r);obtain⟨i,e,o⟩:=z7 x;have m:i.bytes=by_:=by rw[<-B,aD6 e]
 have F:i.size=sz:=by rw[<-s,E1 e]
 have D:=A3.len u;have a:A3.sz α=sz:=by rw[<-D];simpa using d
 have q:IntKind.i64.wrap (n:Int)=n:=dZ8 n (by omega);have p:¬((by_:Int)*(n:Int)>281474976710656):=by
  have:=Int.ofNat_le.2 hb;rw[Int.natCast_mul]at this;omega
 have j:(2:Int) ^ 48=281474976710656:=by decide +kernel
 have c:∀b w,(askRoom b).run P w = .ok () w:=by
  intro b w;unfold askRoom;split
  .rfl
  .rfl
 refine⟨.slice (some ⟨w.heap.size,0,none⟩) n n,w.alloc (.cells ((Array.range (n*sz)).map λi=>z.cells[i % z.cells.size]!) T),?_,?_,o6.alloc _ _,λb l=>by simp[A0,Value.ownBlock]at l;omega,by simp⟩
 .unfold Instr.makeSlice;simp only[eh7,H4,O4 A,eg9,asInt,asIntOf,ej3,N3,e,m,q,j];have C:((decide ((n:Int)<0)||decide ((by_:Int)*(n:Int)>281474976710656))||decide ((n:Int)<0)||decide ((n:Int)>(n:Int)))=false:=by
   rw[el3 (show ¬((n:Int)<0) by omega),el3 p,el3 (show ¬((n:Int)>(n:Int)) by omega)];rfl
  simp only[C,em5,en5,eh7,c,eg9,eh6,S3 (show(P.info? T).isSome=true by rw[e];rfl),s];by_cases h0:n*sz=0
  .have e0:∀(g:Nat->Value),(Array.range 0).map g=#[]:=λg=>by simp
   simp only[h0,em4,e0];simp only[eh7,ej3,eg9];rfl
  .simp only[h0,en5,eh7,zeroValue,N3,e,eg9,o,ej3];rfl
 .right;refine⟨w.heap.size,n,_,by simp,aI3 hw (eg6 _),ej0 w _,by simp,by simp only[maxLen];omega,by simp[a],?_⟩;have:=ch3 z.cells (by omega) n;rw[d]at this ⊢;rw[this,ek9,a];have f:(List.replicate n z.cells.toList).flatten.length=n*sz:=by simp[d]
  rw[<-f,eg4];exact cF5 u n
end
structure Ptr (α:Type) where
 to:α
instance {α:Type} [A3 α]:A3 (Ptr α) where
 sz:=1
 pos:=by omega
 enc h cs x:=∃a es,cs=[.pointer (some a)]/\A3.enc h es x.to/\∀j v,es[j]?=some v->M7 h (a.add j)=some v
 len:=by rintro h cs x ⟨a,es,rfl,_⟩;rfl
 mono:=by
  rintro h k cs x hk ⟨a,es,e,h1,h2⟩;exact⟨a,es,e,A3.mono hk h1,λj v hv=>I7 hk (h2 j v hv)⟩
 one:=by
  rintro h cs x ⟨a,es,rfl,_⟩ v hv;simp at hv;subst hv;rfl
structure X9 where
 v:Value
instance:A3 X9 where
 sz:=1
 pos:=by omega
 enc _ cs x:=cs=[x.v]/\x.v.oneCell'=true
 len h:=by simp[h.1]
 mono _ h:=h
 one h:=by
  intro v hv;rw[h.1]at hv;simp at hv;subst hv;exact h.2
structure E2 {α:Type} [A3 α] (h:Hp) (w:World) (T T':TypeId) (v:Value) (us:List X9) (xss:List (List α)):Prop where
 outer:B0 h w T v us
 len:us.length=xss.length
 row:∀(i:Nat) (u:X9) (xs:List α),us[i]?=some u->xss[i]?=some xs->B0 h w T' u.v xs
 apart:∀(i j:Nat) (u u':X9),i≠j->us[i]?=some u->us[j]?=some u'->∀b,A0 u.v b->¬A0 u'.v b
 off:∀(i:Nat) (u:X9),us[i]?=some u->∀b,A0 u.v b->¬A0 v b
def N2(v:Value)(us:List X9)(b:Nat):Prop:=A0 v b\/∃u∈us,A0 u.v b
section
variable {α:Type} [A3 α] {h:Hp} {w:World} {T T':TypeId} {v:Value} {us:List X9} {xss:List (List α)}
def E2.free(c:E2 h w T T' v us xss){b:Nat}(hb:N2 v us b):h b=none:=by
 rcases hb with hb|⟨u,e,hb⟩
 .exact c.outer.free hb
 .obtain⟨i,d⟩:=eo5.1 e;have a:i<xss.length:=by rw[<-c.len];exact(ef6.1 d).1
  exact(c.row i u _ d (ef1 a)).free hb
def E2.lt(c:E2 h w T T' v us xss){b:Nat}(hb:N2 v us b):b<w.heap.size:=by
 rcases hb with hb|⟨u,e,hb⟩
 .exact c.outer.lt hb
 .obtain⟨i,d⟩:=eo5.1 e;have a:i<xss.length:=by rw[<-c.len];exact(ef6.1 d).1
  exact(c.row i u _ d (ef1 a)).lt hb
def E2.mod{M:Nat->Prop}{f:World}(a:E2 h w T T' v us xss)(hm:o8 M w f)(d:∀b,N2 v us b->¬M b):E2 h f T T' v us xss:=
 ⟨a.outer.mod hm λb c=>d b (.inl c),a.len,λi u j e g=>(a.row i u j e g).mod hm λb c=>d b (.inr ⟨u,eh3 e,c⟩),a.apart,a.off⟩
def E2.ext{a:World}(b:E2 h w T T' v us xss)(hm:o6 w a):E2 h a T T' v us xss:=b.mod hm λ_ _=>id
def E2.set{F q:World}(n:E2 h w T T' v us xss){i:Nat}{u:X9}(A:us[i]?=some u){u':Value}{xs:List α}
  (hm:o8 (A0 u.v) w F) (H:B0 h F T' u' xs) (hv:E9 w u.v u')
  (z:o8 (A0 v) F q) (E:B0 h q T v (us.set i ⟨u'⟩)):E2 h q T T' v (us.set i ⟨u'⟩) (xss.set i xs):=by
 have r:i<us.length:=(ef6.1 A).1;have p:∀b,A0 u' b->¬A0 v b:=λb f c=>by
  rcases hv b f with o|o
  .exact n.off i u A b o c
  .have:=n.outer.lt c;omega
 have l:∀(j:Nat) (x:X9),(us.set i ⟨u'⟩)[j]?=some x->(j=i/\x=⟨u'⟩)\/(j≠i/\us[j]?=some x):=by
  intro j x g;rw[List.getElem?_set]at g;by_cases a:i=j
  .subst a;simp only[em4,if_pos r]at g;exact .inl ⟨rfl,(eh1 g).symm⟩
  .rw[if_neg a]at g;exact .inr ⟨λe=>a e.symm,g⟩
 have m:∀(j:Nat) (x:X9),j≠i->us[j]?=some x->∀b,A0 x.v b->¬A0 u' b:=by
  intro j x a g b f c;rcases hv b c with o|o
  .exact n.apart j i x u a g A b f o
  .have D:j<xss.length:=by rw[<-n.len];exact(ef6.1 g).1
   have:=(n.row j x _ g (ef1 D)).lt f;omega
 refine⟨E,by simp[n.len],?_,?_,?_⟩
 .intro j x I g B;rcases l j x g with⟨rfl,rfl⟩|⟨a,d⟩
  .rw[List.getElem?_set,if_pos rfl,if_pos (by rw[<-n.len];exact r)]at B;obtain rfl:=eh1 B;exact H.mod z p
  .rw[List.getElem?_set,if_neg (λe=>a e.symm)]at B;refine((n.row j x I d B).mod hm λb f c=>n.apart j i x u a d A b f c).mod z λb f=>n.off j x d b f
 .intro j k x y s g G b f c;rcases l j x g with⟨rfl,rfl⟩|⟨a,d⟩<;>rcases l k y G with⟨rfl,rfl⟩|⟨C,t⟩
  .exact s rfl
  .exact m k y C t b c f
  .exact m j x a d b f c
  .exact n.apart j k x y s d t b f c
 .intro j x g b f;rcases l j x g with⟨rfl,rfl⟩|⟨a,d⟩
  .exact p b f
  .exact n.off j x d b f
def E2.ro(g:E2 h w T T' v us xss)(hw:B8 h (m8 w)):R (m8 w) v xss:=by
 obtain⟨a,n,c,e,r,s,b,t,x⟩:=(g.outer.rw_ hw);refine⟨a,n,c,e,by rw[r,g.len],s,b,?_,x⟩;have o:∀(us:List X9) (xss:List (List α)) (b:List Value),us.length=xss.length->Q8 (m8 w) b us ->
   (∀(i:Nat) (u:X9) (d:List α),us[i]?=some u->xss[i]?=some d->R (m8 w) u.v d)->Q8 (m8 w) b xss:=by
  intro us
  induction us with
  | nil=>
   intro xss b f m _;have:xss=[]:=List.eq_nil_of_length_eq_zero f.symm;subst this;exact m
  | cons u us B=>
   intro xss b f m j;cases xss with
   | nil=>simp at f
   | cons d xss=>
    obtain⟨D,q,rfl,⟨k,_⟩,l⟩:=m;subst k;exact⟨[u.v],q,rfl,j 0 u d rfl rfl,B xss q (by simpa using f) l λi C p y z=>j (i+1) C p (by simpa using y) (by simpa using z)⟩
 exact o us xss b g.len t λi u d A j=>(g.row i u d A j).rw_ hw
end
section
variable {P:Program} {w:World} {h:Hp} {t T:TypeId} {v:Value}
def ca5(w:World)(z cs:Array Value)(T:TypeId):(w.alloc (.cells z T)).setRow w.heap.size cs=w.alloc (.cells cs T):=by
 unfold World.setRow World.alloc
 congr 1
 apply Array.ext
 .simp
 .intro i b a;simp only[Array.getElem_modify];by_cases hi:w.heap.size=i
  .subst hi;simp
  .rw[if_neg hi];have:i<w.heap.size:=by simp at a;omega
   simp[Array.getElem_push,this]
def aA5{z:Value}(g:H3 P T=some z)(f:z.cells.size=N0 P T){cs:Array Value}(b:cs.size=N0 P T)(e:∀u∈cs.toList,u.oneCell'=true):
  (Instr.alloc T true (.tuple #[])).run P w = .ok (.pointer (some ⟨w.heap.size,0,none⟩)) (w.alloc (.cells z.cells T)) /\
  (Instr.storeAt T (.pointer (some ⟨w.heap.size,0,none⟩)) (.agg cs)).run P (w.alloc (.cells z.cells T)) = .ok () (w.alloc (.cells cs T)):=by
 obtain⟨i,c,d⟩:=z7 g;constructor
 .unfold Instr.alloc zeroValue;simp only[eh7,N3,c,d,ej3,eg9];rfl
 .have a:=run_storeCells_from (P:=P) w.heap.size T cs.toList 0 z.cells (w.alloc (.cells z.cells T)) (ej0 w _) (by simp[b,f]) e;simp only[ep6,ep1,Array.toArray_toList]at a;unfold Instr.storeAt storeVar;simp only[Instr.sureAddr,eh7,ej3,eg9,sizeOf,N3,c,Value.cells];rw[E1 c]at b;simp only[b,ne_eq,not_true_eq_false,en5];rw[<-ca5 w z.cells cs T];exact a
def da7{cs:Array Value}{i:Nat}{u:Value}(a:cs[i]?=some u):(w.alloc (.cells cs T)).cell? ⟨w.heap.size,i,none⟩=some u:=by
 rw[er7];exact a
def df3{cs:Array Value}{i:Nat}{u:Value}(b:cs[i]?=some u)(a:J5 P t=false):(Instr.loadAt t (.pointer (some ⟨w.heap.size,i,none⟩))).run P (w.alloc (.cells cs T)) = .ok u (w.alloc (.cells cs T)):=
 U9 a (da7 b)
def bY4{xs:List (Int×Int)}(o:R h v xs)(hw:B8 h (m8 w)){k:Nat}{x:Int×Int}(n:xs[k]?=some x)(q:J5 P t=true)(r:(P.underlying t).isSome=true)(l:(P.info? t).isSome=true)(p:N0 P t=2):
  (Instr.loadAt t (.pointer (some (G9 v (k*2))))).run P w = .ok (.agg #[.int .i64 x.1,.int .i64 x.2]) w:=by
 obtain⟨_,s,i,g⟩:=o.get n;obtain⟨c,d,rfl,e,f⟩:=i;have a:c=[.int .i64 x.1]:=e;have b:d=[.int .i64 x.2]:=f;subst a b;exact bE3 (cs:=[.int .i64 x.1,.int .i64 x.2]) q r l p λj u m=>I7 hw (g j u m)
def add_lit(b o k:Nat):(⟨b,o,none⟩:Addr).add k=⟨b,o+k,none⟩:=by unfold Addr.add;split<;>simp_all
def R.row{α:Type}[A3 α]{a:List (List α)}(i:R h v a){k:Nat}{x:List α}(f:a[k]?=some x):∃u,R h u x/\M7 h (G9 v k)=some u:=by
 obtain⟨_,b,c,e⟩:=i.get f;have g:b.length=1:=A3.len c
 match b,g with
 | [u],_=>
  have:=e 0 u rfl;rw[M4]at this;have d:(k*A3.sz (List α))=k:=en3 k;rw[d]at this;exact⟨u,c,this⟩
def J1{a:Addr}{u:Value}(b:M7 h a=some u)(hw:B8 h (m8 w))(c:J5 P t=false):(Instr.loadAt t (.pointer (some a))).run P w = .ok u w:=
 U9 c (I7 hw b)
def B0.ext2{α:Type}[A3 α]{w0 d:World}{xs:List α}(f:B0 (m8 w0) w T v xs)(g:o6 w0 w)(hm:o8 (A0 v) w d):o6 w0 d:=
 o8.ext_of g hm λb e=>by
  rcases ej6 b w0.heap.size with c|a
  .have:=f.free e;simp[m8,c]at this
  .exact a
def bl7{α:Type}[M5 α]{k:Hp}:∀{b:List α} {a:List Value},Q8 k a b->Q8 h a b
 | [],_,e=>e
 | _::_,_,⟨c1,c2,e,h1,h2⟩=>⟨c1,c2,e,h1,bl7 h2⟩
def B0.down{α:Type}[M5 α]{k:Hp}{xs:List α}(p:B0 k w T v xs)(m:B8 h k):B0 h w T v xs:=by
 rcases p with n|⟨b,c,a,rfl,d,f,g,i,j,l⟩
 .exact .inl n
 .refine .inr ⟨b,c,a,rfl,?_,f,g,i,j,bl7 l⟩;cases e:h b with
  | none=>rfl
  | some o=>rw[m b o e]at d;cases d
def B0.back{α:Type}[M5 α]{w0 a:World}{xs:List α}(b:B0 (m8 a) w T v xs)(c:o6 w0 a):B0 (m8 w0) w T v xs:=b.down (b7 c)
end
open Classical in
noncomputable def aq7 (w:World) (v:Value):Hp:=λb=>if A0 v b then none else w.heap[b]?
def aE2{w:World}{v:Value}{b:Nat}(h:A0 v b):aq7 w v b=none:=by unfold aq7;rw[if_pos h]
def ad5{w:World}{v:Value}{b:Nat}(h:¬A0 v b):aq7 w v b=w.heap[b]?:=by unfold aq7;rw[if_neg h]
def be9(w:World)(v:Value):B8 (aq7 w v) (m8 w):=λb o e=>by
 by_cases h:A0 v b
 .rw[aE2 h]at e;cases e
 .rw[ad5 h]at e;exact e
section
variable {α:Type} [A3 α] {h:Hp} {w:World} {T:TypeId} {v:Value} {xs:List α}
def B0.rebase(c:B0 h w T v xs)(hw:B8 h (m8 w)):B0 (aq7 w v) w T v xs:=by
 refine c.up (λb o e=>?_) λb a=>aE2 a;have d:¬A0 v b:=λa=>by rw[c.free a]at e;cases e
 rw[ad5 d];exact hw b o e
def B0.beside{β:Type}[A3 β]{k:Hp}{T':TypeId}{u:Value}{ys:List β}(e:B0 k w T' u ys)(d:B8 k (aq7 w v))(c:∀b,A0 u b->¬A0 v b):R (aq7 w v) u ys:=
 e.ro d λb a=>ad5 (c b a)
end
def E2.write{α:Type}[A3 α]{h:Hp}{w l:World}{T T':TypeId}{v:Value}{us:List X9}{c:List (List α)}(k:E2 h w T T' v us c){i:Nat}{u:X9}(g:us[i]?=some u){xs:List α}
  (hm:o8 (A0 u.v) w l) (n:B0 h l T' u.v xs):E2 h l T T' v us (c.set i xs):=by
 have a:us.set i ⟨u.v⟩=us:=by
  obtain⟨q,e⟩:=ef6.1 g;apply em6 (by simp);intro j o p;rw[List.getElem_set];split
  .rename_i m;subst m;exact e.symm
  .rfl
 have:=k.set (u':=u.v) (xs:=xs) g hm n (λb d=>.inl d) (o8.refl _) (by
  rw[a];exact k.outer.mod hm λb d f=>k.off i u g b f d)
 rw[a]at this;exact this
open Classical in
noncomputable def C1 (w:World) (N:Nat->Prop):Hp:=λb=>if N b then none else w.heap[b]?
def F9{w:World}{N:Nat->Prop}{b:Nat}(h:N b):C1 w N b=none:=by unfold C1;rw[if_pos h]
def E4{w:World}{N:Nat->Prop}{b:Nat}(h:¬N b):C1 w N b=w.heap[b]?:=by unfold C1;rw[if_neg h]
def A8(w:World)(N:Nat->Prop):B8 (C1 w N) (m8 w):=λb o e=>by
 by_cases h:N b
 .rw[F9 h]at e;cases e
 .rw[E4 h]at e;exact e
def K0{w c:World}{N N' M:Nat->Prop}(hm:o8 M w c)(f:∀b,M b->N b)(hN:∀b,N' b->N b\/w.heap.size<=b):B8 (C1 w N) (C1 c N'):=λb o e=>by
 by_cases h:N b
 .rw[F9 h]at e;cases e
 .rw[E4 h]at e;have g:b<w.heap.size:=(ef5.1 e).1;have d:¬N' b:=λa=>by
   rcases hN b a with k|k
   .exact h k
   .omega
  rw[E4 d,hm.block b g λi=>h (f b i)];exact e
def aT6{w0 w:World}{N:Nat->Prop}(c:o6 w0 w)(hN:∀b,N b->w0.heap.size<=b):B8 (m8 w0) (C1 w N):=λb o e=>by
 have d:b<w0.heap.size:=(ef5.1 (show w0.heap[b]?=some o from e)).1;have a:¬N b:=λh=>by have:=hN b h;omega
 rw[E4 a];exact b7 c b o e
section
variable {α:Type} [A3 α] {h:Hp} {w:World} {T:TypeId} {v:Value} {xs:List α} {N:Nat->Prop}
def B0.noMod{a:World}{N' M:Nat->Prop}(f:B0 (C1 w N) w T v xs)(hm:o8 M w a)(c:∀b,M b->N b)(e:∀b,A0 v b->¬M b)(hN:∀b,N' b->N b\/w.heap.size<=b)(hv:∀b,A0 v b->N' b):B0 (C1 a N') a T v xs:=
 (f.mod hm e).up (K0 hm c hN) λb d=>F9 (hv b d)
def B0.roNo{k:Hp}(e:B0 k w T v xs)(d:B8 k (C1 w N))(c:∀b,A0 v b->¬N b):R (C1 w N) v xs:=e.ro d λb a=>E4 (c b a)
def B0.reNo(d:B0 h w T v xs)(c:B8 h (C1 w N))(hv:∀b,A0 v b->N b):B0 (C1 w N) w T v xs:=d.up c λb a=>F9 (hv b a)
end
def eq7:=@Bool.eq_iff_iff
def en7:=@Iff.rfl
def eq9:=@List.cons.injEq
def er0:=@List.cons_append
def eh0:=@List.mem_cons
def ek1:=@List.not_mem_nil
def eq2:=@or_false
structure A9 where
 b:List UInt8
 deriving DecidableEq
instance:Inhabited A9:=⟨⟨[]⟩⟩
def ofA(b:Array UInt8):A9:=⟨b.toList⟩
abbrev e0:A9:=ofA #[]
def p6(s:A9):Value:=.string ⟨s.b.toArray⟩
instance:M5 A9:=⟨p6,λ_=>rfl⟩
def aw5(l:List UInt8):(⟨l.toArray⟩:ByteArray).toList=l:=by
 rw[ByteArray.toList_eq]
def ltS(a b:A9):Bool:=Op.bytesLess a.b b.b
def by5(a b:A9):(a.b==b.b)=decide (a=b):=by
 refine eq7.2 ?_;rw[beq_iff_eq,decide_eq_true_iff];cases a;cases b;simp
section
variable {P:Program} {t:TypeId}
def cD6{a b:A9}:C4 P .eql t (p6 a) (p6 b)=some (.bool (decide (a=b))):=by
 simp only[p6,C4,aw5,by5]
def dq2{a b:A9}:C4 P .neq t (p6 a) (p6 b)=some (.bool (!decide (a=b))):=by
 simp only[p6,C4,aw5,by5]
def dW2{a b:A9}:C4 P .lss t (p6 a) (p6 b)=some (.bool (ltS a b)):=by
 simp only[p6,C4,aw5,ltS]
def dq1{a b:A9}:C4 P .gtr t (p6 a) (p6 b)=some (.bool !(ltS a b||decide (a=b))):=by
 simp only[p6,C4,aw5,ltS,by5]
def dO0{s:A9}(h:cb0 P t=true)(a:M9 P t=none):T6 P t (p6 s)=some (.int .i64 (s.b.length:Nat)):=by
 simp only[T6,a,Option.isSome_none,em5,en5,p6,h,em4];rfl
end
def bH9(h:Hp)(v:Value)(n:Nat)(E:List Value->Prop):Prop:=∃a m c d,v = .slice a m c/\m=n/\m<=c/\E d/\∀j u,d[j]?=some u->∃b,a=some b/\M7 h (b.add j)=some u
def bb5{h k:Hp}(s:B8 h k){v:Value}{n:Nat}{E F:List Value->Prop}(q:∀b,E b->F b):bH9 h v n E->bH9 k v n F:=by
 rintro⟨a,m,c,b,e,f,g,i,l⟩;refine⟨a,m,c,b,e,f,g,q _ i,λj u r=>?_⟩;obtain⟨d,o,p⟩:=l j u r;exact⟨d,o,I7 s p⟩
def bn8{h:Hp}{v:Value}{n:Nat}{E:List Value->Prop}:bH9 h v n E->v.oneCell'=true:=by
 rintro⟨a,m,c,b,rfl,_⟩;rfl
def cD2{α:Type}[A3 α]{h:Hp}{v:Value}{xs:List α}:R h v xs↔bH9 h v xs.length (λb=>Q8 h b xs):=by
 constructor
 .rintro⟨a,n,c,e,d,f,b,g,i⟩;simp only[eq9,and_true]at e;exact⟨a,n,c,b,e,d,f,g,i⟩
 .rintro⟨a,n,c,b,rfl,d,f,g,i⟩;exact⟨a,n,c,rfl,d,f,b,g,i⟩
structure by9 (α:Type) where
 n:Nat
 pos:0<n
 cells:α->List Value
 len:∀x,(cells x).length=n
 one:∀x,∀v∈cells x,v.oneCell'=true
abbrev by9.rep{α:Type}(F:by9 α):A3 α where
 sz:=F.n
 pos:=F.pos
 enc _ cs x:=cs=F.cells x
 len h:=by rw[h];exact F.len _
 mono _ h:=h
 one h:=by intro v a;rw[h]at a;exact F.one _ v a
structure Pa where
 name:A9
 ref:Bool
 deriving DecidableEq
def Pa.cells(p:Pa):List Value:=[p6 p.name,.bool p.ref]
instance:A3 Pa:=by9.rep ⟨2,by omega,Pa.cells,λ_=>rfl,λx v hv=>by simp[Pa.cells]at hv;rcases hv with rfl|rfl<;>rfl⟩
structure Sp where
 src:Int
 dst:Int
 kind:Int
 deriving DecidableEq
def Sp.cells(p:Sp):List Value:=[.int .i64 p.src,.int .i64 p.dst,.int .i64 p.kind]
instance:A3 Sp:=by9.rep ⟨3,by omega,Sp.cells,λ_=>rfl,λx v hv=>by simp[Sp.cells]at hv;rcases hv with rfl|rfl|rfl<;>rfl⟩
structure Fw where
 src:Int
 dst:Int
 var:A9
 deriving DecidableEq
def Fw.cells(p:Fw):List Value:=[.int .i64 p.src,.int .i64 p.dst,p6 p.var]
instance:A3 Fw:=by9.rep ⟨3,by omega,Fw.cells,λ_=>rfl,λx v hv=>by simp[Fw.cells]at hv;rcases hv with rfl|rfl|rfl<;>rfl⟩
structure Vx where
 proc:A9
 kind:Int
 id:Int
 slot:A9
 deriving DecidableEq
def Vx.cells(p:Vx):List Value:=[p6 p.proc,.int .i64 p.kind,.int .i64 p.id,p6 p.slot]
instance:A3 Vx:=by9.rep ⟨4,by omega,Vx.cells,λ_=>rfl,λx v hv=>by simp[Vx.cells]at hv;rcases hv with rfl|rfl|rfl|rfl<;>rfl⟩
structure Eg where
 src:Vx
 dst:Vx
 kind:Int
 deriving DecidableEq
def Eg.cells(p:Eg):List Value:=p.src.cells++p.dst.cells++[.int .i64 p.kind]
instance:A3 Eg:=by9.rep ⟨9,by omega,Eg.cells,λ_=>rfl,λx v hv=>by simp[Eg.cells,Vx.cells]at hv;rcases hv with rfl|rfl|rfl|rfl|rfl|rfl|rfl|rfl|rfl<;>rfl⟩
inductive Ex where
 | mk (op n:Int) (name:A9) (kids:List Ex)
namespace Ex
def op:Ex->Int | .mk a _ _ _=>a
def n:Ex->Int | .mk _ a _ _=>a
def name:Ex->A9 | .mk _ _ a _=>a
def kids:Ex->List Ex | .mk _ _ _ a=>a
end Ex
mutual
def bd8(h:Hp):Ex->List Value->Prop
 | .mk op n name kids,cs=>∃a,cs=[.int .i64 op,.int .i64 n,p6 name,a]/\bH9 h a kids.length (aC2 h kids)
def aC2(h:Hp):List Ex->List Value->Prop
 | [],cs=>cs=[]
 | x::xs,cs=>∃a b,cs=a++b/\bd8 h x a/\aC2 h xs b
end
mutual
def bB7{h k:Hp}(b:B8 h k):∀(x:Ex) (a:List Value),bd8 h x a->bd8 k x a
 | .mk op n name kids,a,e=>by
  simp only[bd8]at *;obtain⟨g,c,d⟩:=e;exact⟨g,c,bb5 b (λf=>br1 b kids f) d⟩
def br1{h k:Hp}(d:B8 h k):∀(x:List Ex) (a:List Value),aC2 h x a->aC2 k x a
 | [],a,e=>by simpa only[aC2]using e
 | x::xs,a,e=>by
  simp only[aC2]at *;obtain⟨b,c,f,g,i⟩:=e;exact⟨b,c,f,bB7 d x b g,br1 d xs c i⟩
end
instance:A3 Ex where
 sz:=4
 pos:=by omega
 enc h cs x:=bd8 h x cs
 len:=by
  rintro h cs ⟨op,n,name,kids⟩ e;simp only[bd8]at e;obtain⟨vk,rfl,_⟩:=e;rfl
 mono hk:=bB7 hk _ _
 one:=by
  rintro h cs ⟨op,n,name,kids⟩ e v hv;simp only[bd8]at e;obtain⟨vk,rfl,h2⟩:=e;simp only[eh0,ek1,eq2]at hv;rcases hv with rfl|rfl|rfl|rfl
  .rfl
  .rfl
  .rfl
  .exact bn8 h2
def bB8{h:Hp}:∀(b:List Ex) (a:List Value),aC2 h b a↔Q8 h a b
 | [],a=>by simp only[aC2,Q8]
 | x::b,a=>by
  simp only[aC2,Q8,bB8 b];exact en7
def bC0{h:Hp}{cs:List Value}{x:Ex}:A3.enc h cs x↔∃b,cs=[.int .i64 x.op,.int .i64 x.n,p6 x.name,b]/\R h b x.kids:=by
 obtain⟨op,n,name,kids⟩:=x;show bd8 h _ cs↔_;simp only[bd8,cD2,Ex.op,Ex.n,Ex.name,Ex.kids];have:aC2 h kids=λa=>Q8 h a kids:=by funext a;exact propext (bB8 kids a)
 rw[this]
structure Ar where
 ref:Bool
 name:A9
 x:Ex
instance:A3 Ar where
 sz:=6
 pos:=by omega
 enc h cs a:=∃c,cs = .bool a.ref::p6 a.name::c/\A3.enc h c a.x
 len:=by rintro h cs a ⟨c,rfl,h2⟩;have:=A3.len h2;simp[this];rfl
 mono:=by rintro h k cs a hk ⟨c,rfl,h2⟩;exact⟨c,rfl,A3.mono hk h2⟩
 one:=by
  rintro h cs a ⟨c,rfl,h2⟩ v hv;simp only[eh0]at hv;rcases hv with rfl|rfl|hv
  .rfl
  .rfl
  .exact A3.one h2 v hv
inductive St where
 | mk (id kind:Int) (labels:List A9) (name proc:A9) (x:Ex) (has:Bool) (args:List Ar) (thn els:List St)
namespace St
def id:St->Int | .mk a _ _ _ _ _ _ _ _ _=>a
def kind:St->Int | .mk _ a _ _ _ _ _ _ _ _=>a
def labels:St->List A9 | .mk _ _ a _ _ _ _ _ _ _=>a
def name:St->A9 | .mk _ _ _ a _ _ _ _ _ _=>a
def proc:St->A9 | .mk _ _ _ _ a _ _ _ _ _=>a
def x:St->Ex | .mk _ _ _ _ _ a _ _ _ _=>a
def has:St->Bool | .mk _ _ _ _ _ _ a _ _ _=>a
def args:St->List Ar | .mk _ _ _ _ _ _ _ a _ _=>a
def thn:St->List St | .mk _ _ _ _ _ _ _ _ a _=>a
def els:St->List St | .mk _ _ _ _ _ _ _ _ _ a=>a
end St
mutual
def bd9(h:Hp):St->List Value->Prop
 | .mk id kind labels name proc x has args thn els,cs=>∃d a b e c,cs = .int .i64 id :: .int .i64 kind::d::p6 name::p6 proc::a++[.bool has,b,e,c] /\
   R h d labels/\A3.enc h a x/\R h b args/\bH9 h e thn.length (as3 h thn)/\bH9 h c els.length (as3 h els)
def as3(h:Hp):List St->List Value->Prop
 | [],cs=>cs=[]
 | x::xs,cs=>∃a b,cs=a++b/\bd9 h x a/\as3 h xs b
end
mutual
def bB9{h k:Hp}(a:B8 h k):∀(x:St) (b:List Value),bd9 h x b->bd9 k x b
 | .mk id kind labels name proc x has args thn els,b,e=>by
  simp only[bd9]at *;obtain⟨p,d,n,q,o,f,g,i,j,l,m⟩:=e;exact⟨p,d,n,q,o,f,A3.mono a g,A3.mono a i,A3.mono a j,bb5 a (λc=>aP1 a thn c) l,bb5 a (λc=>aP1 a els c) m⟩
def aP1{h k:Hp}(d:B8 h k):∀(x:List St) (a:List Value),as3 h x a->as3 k x a
 | [],a,e=>by simpa only[as3]using e
 | x::xs,a,e=>by
  simp only[as3]at *;obtain⟨b,c,f,g,i⟩:=e;exact⟨b,c,f,bB9 d x b g,aP1 d xs c i⟩
end
def ae7{α:Type}[A3 α]{h:Hp}{v:Value}{xs:α}(a:R h v xs):v.oneCell'=true:=A3.one a v (by simp)
instance:A3 St where
 sz:=13
 pos:=by omega
 enc h cs x:=bd9 h x cs
 len:=by
  rintro h cs ⟨id,kind,labels,name,proc,x,has,args,thn,els⟩ e;simp only[bd9]at e;obtain⟨vl,cx,va,vt,ve,rfl,h2,h3,_⟩:=e;have h4:cx.length=4:=A3.len h3;simp[h4]
 mono hk:=bB9 hk _ _
 one:=by
  rintro h cs ⟨id,kind,labels,name,proc,x,has,args,thn,els⟩ e v hv;simp only[bd9]at e;obtain⟨vl,cx,va,vt,ve,rfl,h2,h3,h4,h5,h6⟩:=e;simp only[er0,eh0,eg1,ek1,eq2]at hv;rcases hv with rfl|rfl|rfl|rfl|rfl|hv|rfl|rfl|rfl|rfl
  .rfl
  .rfl
  .exact ae7 h2
  .rfl
  .rfl
  .exact A3.one h3 v hv
  .rfl
  .exact ae7 h4
  .exact bn8 h5
  .exact bn8 h6
def aZ5{h:Hp}:∀(b:List St) (a:List Value),as3 h b a↔Q8 h a b
 | [],a=>by simp only[as3,Q8]
 | x::b,a=>by
  simp only[as3,Q8,aZ5 b];exact en7
def bC1{h:Hp}{cs:List Value}{s:St}:A3.enc h cs s↔∃e b c f d,cs = .int .i64 s.id :: .int .i64 s.kind::e::p6 s.name::p6 s.proc::b++[.bool s.has,c,f,d] /\
   R h e s.labels/\A3.enc h b s.x/\R h c s.args/\R h f s.thn/\R h d s.els:=by
 obtain⟨id,kind,labels,name,proc,x,has,args,thn,els⟩:=s;show bd9 h _ cs↔_;have g:as3 h thn=λa=>Q8 h a thn:=by funext a;exact propext (aZ5 thn a)
 have i:as3 h els=λa=>Q8 h a els:=by funext a;exact propext (aZ5 els a)
 simp only[bd9,cD2,g,i,St.id,St.kind,St.labels,St.name,St.proc,St.x,St.has,St.args,St.thn,St.els]
structure Pr where
 name:A9
 params:List Pa
 vars:List A9
 body:List St
 fin:List A9
instance:A3 Pr where
 sz:=5
 pos:=by omega
 enc h cs p:=∃v1 v2 v3 v4,cs=[p6 p.name,v1,v2,v3,v4]/\R h v1 p.params/\R h v2 p.vars/\R h v3 p.body/\R h v4 p.fin
 len:=by rintro h cs a ⟨v1,v2,v3,v4,rfl,_⟩;rfl
 mono:=by rintro h k cs a hk ⟨v1,v2,v3,v4,rfl,h1,h2,h3,h4⟩;exact⟨v1,v2,v3,v4,rfl,A3.mono hk h1,A3.mono hk h2,A3.mono hk h3,A3.mono hk h4⟩
 one:=by
  rintro h cs a ⟨v1,v2,v3,v4,rfl,h1,h2,h3,h4⟩ v hv;simp only[eh0,ek1,eq2]at hv;rcases hv with rfl|rfl|rfl|rfl|rfl
  .rfl
  .exact ae7 h1
  .exact ae7 h2
  .exact ae7 h3
  .exact ae7 h4
structure Pg where
 globals:List A9
 procs:List Pr
instance:A3 Pg where
 sz:=2
 pos:=by omega
 enc h cs p:=∃v1 v2,cs=[v1,v2]/\R h v1 p.globals/\R h v2 p.procs
 len:=by rintro h cs a ⟨v1,v2,rfl,_⟩;rfl
 mono:=by rintro h k cs a hk ⟨v1,v2,rfl,h1,h2⟩;exact⟨v1,v2,rfl,A3.mono hk h1,A3.mono hk h2⟩
 one:=by
  rintro h cs a ⟨v1,v2,rfl,h1,h2⟩ v hv;simp only[eh0,ek1,eq2]at hv;rcases hv with rfl|rfl
  .exact ae7 h1
  .exact ae7 h2
structure It where
 s:St
 proc:Int
 up:Int
 next:Int
 loop:Int
instance:A3 It where
 sz:=17
 pos:=by omega
 enc h cs p:=∃c,cs=c++[.int .i64 p.proc,.int .i64 p.up,.int .i64 p.next,.int .i64 p.loop]/\A3.enc h c p.s
 len:=by rintro h cs a ⟨c,rfl,h1⟩;have h4:c.length=13:=A3.len h1;simp[h4]
 mono:=by rintro h k cs a hk ⟨c,rfl,h1⟩;exact⟨c,rfl,A3.mono hk h1⟩
 one:=by
  rintro h cs a ⟨c,rfl,h1⟩ v hv;simp only[eg1,eh0,ek1,eq2]at hv;rcases hv with hv|rfl|rfl|rfl|rfl
  .exact A3.one h1 v hv
  all_goals rfl
structure Sh where
 p:Pg
 l:List It
 lo:List Int
 hi:List Int
instance:A3 Sh where
 sz:=5
 pos:=by omega
 enc h cs p:=∃c v1 v2 v3,cs=c++[v1,v2,v3]/\A3.enc h c p.p/\R h v1 p.l/\R h v2 p.lo/\R h v3 p.hi
 len:=by rintro h cs a ⟨c,v1,v2,v3,rfl,h1,_⟩;have h4:c.length=2:=A3.len h1;simp[h4]
 mono:=by rintro h k cs a hk ⟨c,v1,v2,v3,rfl,h0,h1,h2,h3⟩;exact⟨c,v1,v2,v3,rfl,A3.mono hk h0,A3.mono hk h1,A3.mono hk h2,A3.mono hk h3⟩
 one:=by
  rintro h cs a ⟨c,v1,v2,v3,rfl,h0,h1,h2,h3⟩ v hv;simp only[eg1,eh0,ek1,eq2]at hv;rcases hv with hv|rfl|rfl|rfl
  .exact A3.one h0 v hv
  .exact ae7 h1
  .exact ae7 h2
  .exact ae7 h3
def SV{α:Type}[A3 α](h:Hp)(v:Value)(x:α):Prop:=∃a,v = .agg (List.toArray a)/\A3.enc h a x
section
variable {α:Type} [A3 α] {h k:Hp} {v:Value} {x:α} {P:Program} {t T:TypeId} {w:World}
def SV.mono(c:B8 h k):SV h v x->SV k v x:=λ⟨a,e,b⟩=>⟨a,e,A3.mono c b⟩
def SV.enc:SV h v x->A3.enc h v.cells.toList x:=by
 rintro⟨b,rfl,a⟩;simpa[Value.cells]using a
def F5{xs:List α}(l:R h v xs)(hw:B8 h (m8 w)){k:Nat}(i:xs[k]?=some x)(m:J5 P t=true)(n:(P.underlying t).isSome=true)(f:(P.info? t).isSome=true)(c:N0 P t=A3.sz α):
  ∃d,SV h d x/\(Instr.loadAt t (.pointer (some (G9 v (k*N0 P t))))).run P w = .ok d w:=by
 obtain⟨_,a,b,e⟩:=l.get i;refine⟨.agg (List.toArray a),⟨a,rfl,b⟩,?_⟩;rw[c];exact bE3 (cs:=a) m n f (by rw[c,A3.len b]) λj u g=>I7 hw (e j u g)
end
abbrev P9(P:Program)(w:World)(t:TypeId)(a:Addr)(v:Value):Prop:=(Instr.loadAt t (.pointer (some a))).run P w = .ok v w
abbrev Q7(P:Program)(S:World->Prop)(t:TypeId)(a:Addr)(v:Value):Prop:=∀K f d w,F7 P S (Instr.loadAt t (.pointer (some a))) K f d w=K (C9 f d v) w
def At{α:Type}[A3 α](h:Hp)(a:Addr)(x:α):Prop:=∃b,A3.enc h b x/\∀j u,b[j]?=some u->M7 h (a.add j)=some u
section
variable {α:Type} [A3 α] {h k:Hp} {v:Value} {x:α} {P:Program} {t T:TypeId} {w:World} {a:Addr}
def At.mono(b:B8 h k):At h a x->At k a x:=λ⟨c,d,e⟩=>⟨c,A3.mono b d,λj u f=>I7 b (e j u f)⟩
def R.at_{xs:List α}(b:R h v xs){i:Nat}(a:xs[i]?=some x):At h (G9 v (i*A3.sz α)) x:=(b.get a).2
def Ptr.at_{p:Ptr α}(f:R h v p):∃a,v = .pointer (some a)/\At h a p.to:=by
 obtain⟨a,b,e,c,d⟩:=f;simp only[eq9,and_true]at e;exact⟨a,e,b,c,d⟩
def At.ptr(e:At h a x):R h (.pointer (some a)) (⟨x⟩:Ptr α):=by
 obtain⟨b,c,d⟩:=e;exact⟨a,b,rfl,c,d⟩
def At.sv(e:At h a x)(l:J5 P t=true)(m:(P.underlying t).isSome=true)(g:(P.info? t).isSome=true)(k:N0 P t=A3.sz α):
  ∃d,SV h d x/\∀w,B8 h (m8 w)->(Instr.loadAt t (.pointer (some a))).run P w = .ok d w:=by
 obtain⟨b,c,f⟩:=e;exact⟨.agg (List.toArray b),⟨b,rfl,c⟩,λw n=>bE3 (cs:=b) l m g (by rw[k,A3.len c]) λj u i=>I7 n (f j u i)⟩
def z6{b:List Value}(c:∀j u,b[j]?=some u->M7 h (a.add j)=some u){o:Nat}{u:Value}(d:b[o]?=some u)(e:J5 P t=false):
  ∀w,B8 h (m8 w)->(Instr.loadAt t (.pointer (some (a.add o)))).run P w = .ok u w:=λw f=>U9 e (I7 f (c o u d))
def bx2{β:Type}[A3 β]{y:β}{b c:List Value}(d:∀j u,b[j]?=some u->M7 h (a.add j)=some u){o:Nat}(g:A3.enc h c y)(f:∀j u,c[j]?=some u->b[o+j]?=some u):At h (a.add o) y:=
 ⟨c,g,λj u e=>by rw[Addr.add_add'];exact d _ _ (f j u e)⟩
def F4{b:List Value}(c:∀j u,b[j]?=some u->M7 h (a.add j)=some u){u:Value}(d:b[0]?=some u)(e:J5 P t=false):
  ∀w,B8 h (m8 w)->(Instr.loadAt t (.pointer (some a))).run P w = .ok u w:=λw f=>by
 have:=z6 (P:=P) (t:=t) c d e w f
 rwa [M4]at this
def bd5{β:Type}[A3 β]{y:β}{b c:List Value}(d:∀j u,b[j]?=some u->M7 h (a.add j)=some u)(f:A3.enc h c y)(e:∀j u,c[j]?=some u->b[0+j]?=some u):At h a y:=by
 have:=bx2 d f e
 rwa [M4]at this
def C0{S:World->Prop}{s:Sem Value}{u:Value}{K:Fr->World->Prop}{f:Fr}{d:Option Nat}{w0:World}(hS:S w0)(h:∀b,S b->s.run P b = .ok u b):F7 P S s K f d w=K (C9 f d u) w:=by
 refine propext ⟨?_,λa=>⟨u,h,a⟩⟩;rintro⟨v,c,a⟩;have:=(c w0 hS).symm.trans (h w0 hS);simp only[Result.ok.injEq,and_true]at this;rw[<-this];exact a
def U7{S:World->Prop}{t:TypeId}{a:Addr}{v:Value}{w0:World}(hS:S w0)(h:∀b,S b->P9 P b t a v):Q7 P S t a v:=λ_ _ _ _=>C0 hS h
def At.sv2(l:At h a x)(o:J5 P t=true)(p:(P.underlying t).isSome=true)(m:(P.info? t).isSome=true)(n:N0 P t=A3.sz α):
  ∃b,SV h b x/\(∀w,B8 h (m8 w)->(Instr.loadAt t (.pointer (some a))).run P w = .ok b w)/\(∀(S:World->Prop) (i:World),S i->(∀w,S w->B8 h (m8 w))->∀K f d w,F7 P S (Instr.loadAt t (.pointer (some a))) K f d w=K (C9 f d b) w):=by
 obtain⟨b,j,e⟩:=l.sv (P:=P) (t:=t) o p m n;exact⟨b,j,e,λS i k q K f d w=>C0 k λg c=>e g (q g c)⟩
def bW0(hv:SV h v x)(hw:B8 h (m8 w)):∃a c,(Instr.box T v).run P w = .ok (.pointer (some a)) c/\o6 w c/\At (m8 c) a x:=by
 obtain⟨b,rfl,e⟩:=hv;have d:=o6.alloc w (.cells (List.toArray b) T);refine⟨⟨w.heap.size,0,none⟩,w.alloc (.cells (List.toArray b) T),rfl,d,b,A3.mono (p7 hw (b7 d)) e,λj u f=>?_⟩;rw[<-al0,add_lit,ej1,er7];simpa using f
def bJ9(hv:SV h v x)(hw:B8 h (m8 w)){z:Value}(m:H3 P T=some z)(c:z.cells.size=N0 P T)(l:N0 P T=A3.sz α):
  ∃a f d,(Instr.alloc T true (.tuple #[])).run P w = .ok (.pointer (some a)) f/\(Instr.storeAt T (.pointer (some a)) v).run P f = .ok () d/\o6 w d/\At (m8 d) a x:=by
 obtain⟨cs,rfl,b⟩:=hv;obtain⟨g,i⟩:=aA5 (P:=P) (w:=w) (T:=T) m c (cs:=List.toArray cs) (by simpa[l]using A3.len b) (by simpa using A3.one b);have e:=o6.alloc w (.cells (List.toArray cs) T);refine⟨_,_,_,g,i,e,cs,A3.mono (p7 hw (b7 e)) b,λj u k=>?_⟩;rw[<-al0,add_lit,ej1,er7];simpa using k
end
def eo7:=@Classical.byContradiction
def es5:=@List.any_eq_true
def eq3:=@List.getElem?_replicate
def eo1:=@List.getElem?_set_ne
def em3:=@List.mem_iff_getElem
def ek4:=@Option.getD_some
def eg8:=@congrArg
abbrev W:=BitVec 64
instance:M5 W:=⟨λx=>.int .u64 (x.toNat:Nat),λ_=>rfl⟩
section
variable {P:Program} {t:TypeId}
def bJ8(n:Nat)(h:n<18446744073709551616):IntKind.u64.wrap (n:Int)=(n:Int):=by
 have:IntKind.u64.wrap (n:Int)=IntKind.u64.wrap (n:Int):=rfl;unfold IntKind.wrap;simp[IntKind.bits,IntKind.signed];omega
def bZ0(x:W):BitVec.ofInt IntKind.u64.bits ((x.toNat:Nat):Int)=x:=by
 show BitVec.ofInt 64 ((x.toNat:Nat):Int)=x;rw[BitVec.ofInt_natCast,BitVec.ofNat_toNat];simp
def bW3(f:Nat)(b:f<1000000000000):C4 P .quo t (.int .i64 f) (.int .i64 64)=some (.int .i64 ((f / 64:Nat):Int)):=by
 have a:(f:Int).tdiv 64=((f / 64:Nat):Int):=by rfl
 simp only[C4,F6,em4,a];rw[if_neg (by decide),IntWalk.i64_in _ (by omega)]
def da0(f:Nat):C4 P .rem t (.int .i64 f) (.int .i64 64)=some (.int .i64 ((f % 64:Nat):Int)):=by
 have a:(f:Int).tmod 64=((f % 64:Nat):Int):=by rfl
 simp only[C4,F6,em4,a];rw[if_neg (by decide)]
def da1(x:W)(k:Nat)(c:k<64):C4 P .shr t (.int .u64 ((x.toNat:Nat):Int)) (.int .i64 k)=some (.int .u64 (((x >>> k).toNat:Nat):Int)):=by
 simp only[C4];rw[if_neg (by omega)];have a:min ((k:Int).toNat) IntKind.u64.bits=k:=by
  show min ((k:Int).toNat) 64=k;omega
 rw[a,BitVec.toNat_ushiftRight,Nat.shiftRight_eq_div_pow];have b:((x.toNat:Nat):Int).fdiv (2 ^ k)=((x.toNat / 2 ^ k:Nat):Int):=by
  rw[Int.fdiv_eq_ediv_of_nonneg _ (by exact Int.le_of_lt (Int.pow_pos (by decide)))];simp
 rw[b]
def cZ8(x:W)(k:Nat):C4 P .and t (.int .u64 (((x >>> k).toNat:Nat):Int)) (.int .u64 1)=some (.int .u64 (if x.getLsbD k then 1 else 0)):=by
 have a:BitVec.ofInt IntKind.u64.bits 1=(1#64:W):=rfl;simp only[C4,F6,em4,bZ0,a];have b:((x >>> k) &&& 1#64:W)=if x.getLsbD k then 1#64 else 0#64:=by
  apply BitVec.eq_of_getLsbD_eq;intro i c;rw[BitVec.getLsbD_and,BitVec.getLsbD_ushiftRight];by_cases h0:i=0
  .subst h0;cases hx:x.getLsbD k<;>simp[]
  .have:(1#64:W).getLsbD i=false:=by
    rw[BitVec.getLsbD_one];simp[h0]
   rw[this,Bool.and_false];split
   .exact this.symm
   .simp
 show some (Value.int .u64 (IntKind.u64.wrap ((((x >>> k) &&& 1#64:W).toNat:Nat):Int)))=_;rw[b];cases x.getLsbD k<;>rfl
def dE0(b:Bool):C4 P .eql t (.int .u64 (if b then 1 else 0)) (.int .u64 0)=some (.bool (!b)):=by
 cases b<;>rfl
def dE1(b:Bool):C4 P .eql t (.int .u64 (if b then 1 else 0)) (.int .u64 1)=some (.bool b):=by
 cases b<;>rfl
def dE3(k:Nat)(a:k<64):C4 P .shl t (.int .u64 1) (.int .i64 k)=some (.int .u64 (((1#64 <<< k:W).toNat:Nat):Int)):=by
 simp only[C4];rw[if_neg (by omega)];have b:min ((k:Int).toNat) IntKind.u64.bits=k:=by
  show min ((k:Int).toNat) 64=k;omega
 rw[b];have c:(1:Int)*2 ^ k=((2 ^ k:Nat):Int):=by simp
 have d:2 ^ k<18446744073709551616:=by
  have:(2:Nat) ^ k<2 ^ 64:=Nat.pow_lt_pow_right (by decide) a;simpa using this
 have e:(1#64 <<< k:W).toNat=2 ^ k:=by
  rw[BitVec.toNat_shiftLeft,Nat.shiftLeft_eq];show(1*2 ^ k) % 2 ^ 64=2 ^ k;rw[Nat.one_mul];exact Nat.mod_eq_of_lt (Nat.pow_lt_pow_right (by decide) a)
 rw[c,bJ8 _ d,e]
def cZ9(x y:W):C4 P .or t (.int .u64 ((x.toNat:Nat):Int)) (.int .u64 ((y.toNat:Nat):Int))=some (.int .u64 (((x ||| y).toNat:Nat):Int)):=by
 simp only[C4,F6,em4,bZ0];rw[bJ8 _ (by exact(x ||| y).isLt)];rfl
def bN6(x y:W):C4 P .andNot t (.int .u64 ((x.toNat:Nat):Int)) (.int .u64 ((y.toNat:Nat):Int))=some (.int .u64 (((x &&& ~~~y).toNat:Nat):Int)):=by
 simp only[C4,F6,em4,bZ0];rw[bJ8 _ (by exact(x &&& ~~~y).isLt)];rfl
def dE2(x:W):C4 P .neq t (.int .u64 ((x.toNat:Nat):Int)) (.int .u64 0)=some (.bool (x != 0#64)):=by
 simp only[C4,F6,em4]
 congr 2
 rw[eq7];simp only[bne_iff_ne,ne_eq];constructor
 .intro h e;subst e;exact h rfl
 .intro h e;apply h;apply BitVec.eq_of_toNat_eq;simpa using e
end
def eb1{K:Fr->World->Prop}{f:Fr}{d:Option Nat}{w:World}{v:Value}{D:Prop}:aJ9 (some v) K f d w D=K (C9 f d v) w:=propext en7
def T2(a:List W)(f:Nat):Bool:=(a.getD (f / 64) 0#64).getLsbD (f % 64)
def cT6(a:List W)(f:Nat):List W:=a.set (f / 64) (a.getD (f / 64) 0#64 ||| (1#64 <<< (f % 64)))
def dd4{a:List W}{f:Nat}(h:f / 64<a.length)(g:Nat):T2 (cT6 a f) g=(decide (g=f)||T2 a g):=by
 unfold T2 cT6;by_cases hd:g / 64=f / 64
 .have b:(a.set (f / 64) (a.getD (f / 64) 0#64 ||| (1#64 <<< (f % 64)))).getD (g / 64) 0#64=a.getD (f / 64) 0#64 ||| (1#64 <<< (f % 64)):=by
   rw[hd];simp[List.getD,h]
  rw[b,BitVec.getLsbD_or,hd];have c:(1#64 <<< (f % 64):W).getLsbD (g % 64)=decide (g=f):=by
   rw[BitVec.getLsbD_shiftLeft,BitVec.getLsbD_one];rw[eq7];simp;omega
  rw[c,Bool.or_comm]
 .have b:(a.set (f / 64) (a.getD (f / 64) 0#64 ||| (1#64 <<< (f % 64)))).getD (g / 64) 0#64=a.getD (g / 64) 0#64:=by
   simp only[List.getD];rw[eo1 (λe=>hd e.symm)]
  have d:g≠f:=λe=>hd (by rw[e]);rw[b];simp[d]
def ci3{n f:Nat}:T2 (List.replicate n 0#64) f=false:=by
 unfold T2;have:(List.replicate n (0#64:W)).getD (f / 64) 0#64=0#64:=by
  simp only[List.getD,eq3];split<;>rfl
 rw[this];simp
def di2(a:List W)(f:Nat):(cT6 a f).length=a.length:=by simp[cT6]
def orB(b c:List W):List W:=List.zipWith (· ||| ·) b c
def an2(b c:List W):Bool:=(List.zipWith (λx y=>(y &&& ~~~x:W) != 0#64) b c).any id
def dc1{α:Type}(g:W->W->α)(d:α)(a:g 0#64 0#64=d){b c:List W}(e:b.length=c.length)(i:Nat):(List.zipWith g b c).getD i d=g (b.getD i 0#64) (c.getD i 0#64):=by
 simp only[List.getD,List.getElem?_zipWith];by_cases hi:i<b.length
 .rw[ef1 hi,ef1 (by omega)];rfl
 .rw[eo4 (by omega),eo4 (by omega)];simp[a]
def aI2{b c:List W}(a:b.length=c.length)(f:Nat):T2 (orB b c) f=(T2 b f||T2 c f):=by
 unfold T2 orB;rw[dc1 (· ||| ·) 0#64 (by simp) a,BitVec.getLsbD_or]
def bR1{b c:List W}(r:b.length=c.length):an2 b c=true↔∃f,T2 c f=true/\T2 b f=false:=by
 unfold an2;rw[es5];constructor
 .rintro⟨x,q,m⟩;simp only[id]at m;subst m;obtain⟨i,n,e⟩:=em3.1 q;rw[List.getElem_zipWith]at e;simp only[List.length_zipWith]at n;have o:(c[i]'(by omega) &&& ~~~b[i]'(by omega):W)≠0#64:=by simpa using e
  have:∃k,k<64/\(c[i]'(by omega) &&& ~~~b[i]'(by omega):W).getLsbD k=true:=by
   refine eo7 λl=>o ?_;apply BitVec.eq_of_getLsbD_eq;intro k p;have a:¬(c[i]'(by omega) &&& ~~~b[i]'(by omega):W).getLsbD k=true:=λg=>l ⟨k,p,g⟩;simp only[Bool.not_eq_true]at a;rw[a];simp
  obtain⟨k,p,d⟩:=this;rw[BitVec.getLsbD_and,BitVec.getLsbD_not]at d;have h:(i*64+k) / 64=i:=by omega
  have j:(i*64+k) % 64=k:=by omega
  simp only[eh5,ei8,Bool.not_eq_true']at d;refine⟨i*64+k,?_,?_⟩
  .unfold T2;rw[h,j];simp only[List.getD,ef1 (show i<c.length by omega),ek4];exact d.1
  .unfold T2;rw[h,j];simp only[List.getD,ef1 (show i<b.length by omega),ek4];exact d.2.2
 .rintro⟨f,a,g⟩;have n:f / 64<c.length:=by
   refine eo7 λl=>?_;unfold T2 at a;simp only[List.getD,eo4 (show c.length<=f / 64 by omega),Option.getD_none]at a;simp at a
  refine⟨true,?_,rfl⟩;refine em3.2 ⟨f / 64,by simp;omega,?_⟩;rw[List.getElem_zipWith];simp only[bne_iff_ne,ne_eq];intro e;unfold T2 at a g;simp only[List.getD,ef1 n,ef1 (show f / 64<b.length by omega),ek4]at a g;have:=eg8 (λx:W=>x.getLsbD (f % 64)) e;simp only[BitVec.getLsbD_and,BitVec.getLsbD_not,a,g]at this;simp at this;omega
def bZ5{b c:List W}(a:b.length=c.length):(orB b c).length=b.length:=by simp[orB,a]
def em1:=@Bool.true_and
def ce6:Value->Option Bool
 | .bool b=>some b
 | _=>none
theorem dW6{b:Bool}:ce6 (.bool b)=some b:=rfl
theorem dW7:ce6 undef=none:=rfl
def dE8{ops:Array Oper}{f:Fr}{j:Nat}:aW5 ops f j=match dc9 ops j with|some d=>ce6 (f d)|none=>none:=by
 unfold aW5 dc9;cases(ops[j]?).bind (·.dst)with
 | none=>rfl
 | some d=>
  show(match f d with | .bool b=>some b|_=>none)=ce6 (f d);unfold ce6;cases f d<;>rfl
def ec9{P:Program}{ops:Array Oper}{l:List Oper}{K:Fr->World->Prop}{f:Fr}{w:World}{d:Option Nat}{op:Op}{ty:TypeId}{c:String}{a:Array Edge}{j:Nat}{b:Bool}:
  Rn P ops (⟨d,op,ty,c,a,some (j,b)⟩::l) K f w =
   if aW5 ops f j=some b then B5 P none ⟨d,op,ty,c,a,none⟩ (Rn P ops l K) f w else Rn P ops l K (C9 f d undef) w:=propext en7
def dU9{P:Program}{Q:Exit->Fr->World->Prop}{f:Fr}{w:World}{id:Nat}{ops:Array Oper}:CW P (.region id ops false) Q f w=Rn P ops ops.toList (Q .normal) f w:=propext en7
def dV4{P:Program}{ops:Array Oper}{K:Fr->World->Prop}{f:Fr}{w:World}:Rn P ops [] K f w=K f w:=propext en7
def dY9{P:Program}{ops:Array Oper}{l:List Oper}{K:Fr->World->Prop}{f:Fr}{w:World}{d:Option Nat}{op:Op}{ty:TypeId}{b:String}{a:Array Edge}:
  Rn P ops (⟨d,op,ty,b,a,none⟩::l) K f w=B5 P none ⟨d,op,ty,b,a,none⟩ (Rn P ops l K) f w:=propext en7
def eb9{K:Fr->World->Prop}{f:Fr}{d:Option Nat}{w:World}{v:Value}:ak7 (.ok v w) K f d=K (C9 f d v) w:=propext en7
def ec0{K:Fr->World->Prop}{f:Fr}{d:Option Nat}{w:World}{v:Unit}:bn1 (.ok v w) K f d=K (C9 f d undef) w:=propext en7
def aN0(h:Hp){α:Type}[A3 α]:R h (.slice none 0 0) ([]:List α):=⟨none,0,0,rfl,rfl,eg6 _,[],rfl,λj u a=>by simp at a⟩
section
variable {P:Program} {t:TypeId}
def bI9(b:Array UInt8):(.string ⟨b⟩:Value)=p6 (ofA b):=by
 simp[p6,ofA]
def dV6{a:A9}{b:Array UInt8}:C4 P .eql t (p6 a) (.string ⟨b⟩)=some (.bool (decide (a=ofA b))):=by
 rw[bI9,cD6]
def dW3{a:A9}{b:Array UInt8}:C4 P .neq t (p6 a) (.string ⟨b⟩)=some (.bool (!decide (a=ofA b))):=by
 rw[bI9,dq2]
def chr(s:A9)(i:Nat):Option UInt8:=s.b[i]?
def dD7(l:List UInt8)(i:Nat):(⟨l.toArray⟩:ByteArray)[i]?=l[i]?:=by
 by_cases h:i<l.length
 .rw[getElem?_pos (⟨l.toArray⟩:ByteArray) i (by show i<l.toArray.size;simpa using h),ByteArray.getElem_eq_getElem_data];simp[h]
 .rw[getElem?_neg (⟨l.toArray⟩:ByteArray) i (by show ¬i<l.toArray.size;simpa using h)];simp[h]
def dz9{s:A9}{k:IntKind}{i:Nat}{c:UInt8}(h:cb0 P t=true)(b:bV7 P t=none)(d:chr s i=some c):ac6 P t (p6 s) (.int k (i:Int))=some (.int .u8 (c.toNat:Int)):=by
 have a:(⟨s.b.toArray⟩:ByteArray)[i]?=some c:=(dD7 s.b i).trans d;simp only[ac6,b,p6,h,em1,eh6,a,el5,ea0,em4]
def ea1{v:Value}(a:(M9 P t).isSome=true)(b:isS v=true):T6 P t v=some (.int .i64 (vlen v:Nat)):=by
 simp only[T6,a,b,em4]
def dW1{a b:Int}:C4 P .lss t (.int .i64 a) (.int .i64 b)=some (.bool (decide (a<b))):=by simp[C4,F6]
def dW0{a b:Int}:C4 P .leq t (.int .i64 a) (.int .i64 b)=some (.bool (decide (a<=b))):=by simp[C4,F6]
def dV9{a b:Int}:C4 P .gtr t (.int .i64 a) (.int .i64 b)=some (.bool (decide (b<a))):=by simp[C4,F6]
def dV8{a b:Int}:C4 P .geq t (.int .i64 a) (.int .i64 b)=some (.bool (decide (b<=a))):=by simp[C4,F6]
theorem dV7{a b:Int}:C4 P .eql t (.int .i64 a) (.int .i64 b)=some (.bool (decide (a=b))):=by simp[C4,F6];rfl
theorem dW4{a b:Int}:C4 P .neq t (.int .i64 a) (.int .i64 b)=some (.bool (!decide (a=b))):=by simp[C4,F6];rfl
def dV5{a b:Int}:C4 P .add t (.int .i64 a) (.int .i64 b)=some (.int .i64 (IntKind.i64.wrap (a+b))):=by simp[C4,F6]
def dW5{a b:Int}:C4 P .sub t (.int .i64 a) (.int .i64 b)=some (.int .i64 (IntKind.i64.wrap (a-b))):=by simp[C4,F6]
def dM0{a b:Int}:C4 P .leq t (.int .u8 a) (.int .u8 b)=some (.bool (decide (a<=b))):=by simp[C4,F6]
def dL9{a b:Int}:C4 P .geq t (.int .u8 a) (.int .u8 b)=some (.bool (decide (b<=a))):=by simp[C4,F6]
def ec7{b:Bool}:unV .not (.bool b)=some (.bool (!b)):=by simp[unV]
def aO5{a:Option Addr}{op:BinOp}(b:op = .eql)(h:eqT P t=2):C4 P op t (.pointer a) (.pointer none)=some (.bool a.isNone):=by
 subst b;simp[C4,h]
end
def es7:=@Nat.le_of_not_lt
def bf0{w:World}{b:Nat}(h:w.heap.size<=b):m8 w b=none:=by
 show w.heap[b]?=none;simp[h]
def D1{w:World}{b:Nat}(h:m8 w b=none):w.heap.size<=b:=es7 λa=>by simp[m8,a]at h
def X1{v:Value}(h:isS v=true):v.oneCell'=true:=by
 cases v<;>simp[isS]at h;rfl
def F0{v:Value}(h:isS v=true):v.cells=#[v]:=by
 cases v<;>simp[isS]at h;rfl
section
variable {P:Program} {h:Hp} {w:World} {t T:TypeId} {v:Value}
def E7{a i:Nat}{cs:Array Value}{u:Value}(b:w.heap[a]?=some (.cells cs T (0,0)))(d:cs[i]?=some u)(c:J5 P t=false):(Instr.loadAt t (.pointer (some ⟨a,i,none⟩))).run P w = .ok u w:=
 U9 c (by rw[en2 w a i cs T (0,0) b];exact d)
def af3{a i:Nat}{cs:Array Value}{x:Value}(g:w.heap[a]?=some (.cells cs T (0,0)))(k:i<cs.size)(m:x.cells=#[x])(j:x.oneCell'=true){e:TypeInfo}(d:P.info? t=some e)(l:e.size=1):
  ∃h,(Instr.storeAt t (.pointer (some ⟨a,i,none⟩)) x).run P w = .ok () h/\h.heap[a]?=some (.cells (cs.setIfInBounds i x) T (0,0))/\o8 (λb=>b=a) w h:=by
 have c:w.cell? ⟨a,i,.none⟩=some cs[i]:=by rw[en2 w a i cs T (0,0) g,ep5 k]
 have f:w.frozen? ⟨a,i,.none⟩=false:=frozen_of_row w a i cs T g;exact⟨_,aX8 (P:=P) (t:=t) d l m j c f,heap_setCell_same w a i cs T x g,o8.setCell _ _ _ rfl⟩
def ab4{c:Nat}{a cs:Array Value}(h:w.heap[c]?=some (.cells a T (0,0))){z:Value}(m:H3 P T=some z)(d:a.size=N0 P T)(f:cs.size=N0 P T)(k:∀u∈cs.toList,u.oneCell'=true):
  ∃g,(Instr.storeAt T (.pointer (some ⟨c,0,none⟩)) (.agg cs)).run P w = .ok () g/\g.heap[c]?=some (.cells cs T (0,0))/\o8 (λb=>b=c) w g:=by
 obtain⟨i,j,l⟩:=z7 m;have e:=run_storeCells_from (P:=P) c T cs.toList 0 a w h (by simp[f,d]) k;simp only[ep6,ep1,Array.toArray_toList]at e;refine⟨_,?_,setRow_heap w c a cs T (0,0) h,o8.setRow _ _ _ rfl⟩;unfold Instr.storeAt storeVar;simp only[Instr.sureAddr,eh7,ej3,eg9,sizeOf,N3,j,Value.cells];rw[E1 j]at f;simp only[f,ne_eq,not_true_eq_false,en5];exact e
def Y5{b:Nat}{cs:Array Value}(d:w.heap[b]?=some (.cells cs T (0,0)))(h:J5 P T=true)(i:(P.underlying T).isSome=true)(e:(P.info? T).isSome=true)(g:N0 P T=cs.size):
  (Instr.loadAt T (.pointer (some ⟨b,0,none⟩))).run P w = .ok (.agg cs) w:=by
 have:=bE3 (P:=P) (w:=w) (a:=⟨b,0,none⟩) (cs:=cs.toList) h i e (by simpa using g) λj u f=>by
  have c:(⟨b,0,.none⟩:Addr).add j=⟨b,j,.none⟩:=by unfold Addr.add;split<;>simp_all
  rw[c,en2 w b j cs T (0,0) d];simpa using f
 simpa using this
def N9{b:Func}{R:Value->World->Prop}{f:Fr}{a:Nat}{ty:TypeId}{ad:Addr}(h:b.results=#[.cell a ty])(d:f a = .pointer (some ad))(e:(Instr.loadAt ty (.pointer (some ad))).run P w = .ok v w)(c:R v w):bk5 P b R .ret f w:=by
 refine⟨[v],?_,c⟩;rw[h];refine⟨?_,trivial⟩;show(do loadVar ty (<-asAddr (f a)):Sem Value).run P w = .ok v w;rw[d];exact e
def dd7{h:Hp}{w:World}{N:Nat->Prop}(hw:B8 h (m8 w))(hN:∀b,N b->h b=none):B8 h (C1 w N):=λb o e=>by
 have c:¬N b:=λa=>by rw[hN b a]at e;cases e
 rw[E4 c];exact hw b o e
def D8{w a:World}{N:Nat->Prop}(hm:o8 N w a):B8 (C1 w N) (m8 a):=H2 (A8 w N) hm λb c=>F9 c
def ci5{w a:World}{N:Nat->Prop}(hm:o8 N w a)(hN:∀b,N b->b<w.heap.size):B8 (C1 w N) (C1 a N):=K0 hm (λb h=>h) λb h=>.inl h
section
variable {α:Type} [A3 α] {x:α} {N:Nat->Prop}
def dU1(hv:SV h v x)(hw:B8 h (C1 w N))(hN:∀b,N b->b<w.heap.size){z:Value}(p:H3 P T=some z)(d:z.cells.size=N0 P T)(o:N0 P T=A3.sz α):
  ∃a g e,(Instr.alloc T true (.tuple #[])).run P w = .ok (.pointer (some a)) g/\(Instr.storeAt T (.pointer (some a)) v).run P g = .ok () e/\o6 w e/\At (C1 e N) a x:=by
 obtain⟨cs,rfl,c⟩:=hv;obtain⟨i,k⟩:=aA5 (P:=P) (w:=w) (T:=T) p d (cs:=List.toArray cs) (by simpa[o]using A3.len c) (by simpa using A3.one c);have f:=o6.alloc w (.cells (List.toArray cs) T);refine⟨_,_,_,i,k,f,cs,A3.mono (p7 hw (ci5 (f.weaken λ_ _ h=>h.elim) hN)) c,λj u m=>?_⟩;have n:¬N w.heap.size:=λl=>by have:=hN _ l;omega
 have:M7 (m8 (w.alloc (.cells (List.toArray cs) T))) ((⟨w.heap.size,0,none⟩:Addr).add j)=some u:=by
  rw[<-al0,add_lit,ej1,er7];simpa using m
 rw[add_lit]at this ⊢;unfold M7 at *;simp only at *;rw[E4 n];exact this
end
end
section
variable {P:Program}
def E6{k:Nat}{args:List Value}{w:World}{K:Fr->World->Prop}{f:Fr}{d:Option Nat}{v:Value}
  (h:Calls P k args.toArray w λe a=>∃u,e = .returned u/\(u=v/\a=w)) (b:K (C9 f d v) w) (hb:ap4 P k=true:=by kernel_rfl):aC9 P k args w K f d:=
 t8 h (λu a ⟨c,g⟩=>by rw[c,g];exact b) hb
def B2{k:Nat}{args:List Value}{w:World}{K:Fr->World->Prop}{f:Fr}{d:Option Nat}{v:Value}
  (h:Calls P k args.toArray w λe a=>∃u,e = .returned u/\(u=v/\o6 w a)) (b:∀a,o6 w a->K (C9 f d v) a) (hb:ap4 P k=true:=by kernel_rfl):aC9 P k args w K f d:=
 t8 h (λu a ⟨c,g⟩=>by rw[c];exact b a g) hb
end
section
variable {P:Program} {t T:TypeId}
def bi9(g o:Nat):∀(f:List Value) (i:Nat) (a:Array Value) (w:World),w.heap[g]?=some (.cells a T (0,0))->o+i+f.length<=a.size->(∀v∈f,v.oneCell'=true) ->
  ∃j,(storeCells ⟨g,o,none⟩ f i).run P w = .ok () j/\j.heap[g]?=some (.cells (a.toList.take (o+i)++f++a.toList.drop (o+i+f.length)).toArray T (0,0))/\o8 (λb=>b=g) w j
 | [],i,a,w,hg,hl,_=>by
  refine⟨w,rfl,?_,o8.refl _⟩;simp only[ei5,em2,Nat.add_zero,ej2,Array.toArray_toList];exact hg
 | v::rest,i,a,w,hg,hl,h1=>by
  simp only[ei2]at hl;have r:o+i<a.size:=by omega
  have d:(⟨g,o,none⟩:Addr).add i=⟨g,o+i,none⟩:=add_lit g o i;have c:w.cell? ⟨g,o+i,none⟩=some a[o+i]:=by rw[en2 w g (o+i) a T (0,0) hg,ep5 r]
  have e:w.frozen? ⟨g,o+i,none⟩=false:=frozen_of_row w g (o+i) a T hg;have k:(store ((⟨g,o,none⟩:Addr).add i) v).run P w = .ok () (w.setCell ⟨g,o+i,none⟩ v):=by
   rw[d,run_store P w _ v _ (h1 v (by simp)),c];simp[e]
  obtain⟨j,n,p,q⟩:=bi9 g o rest (i+1) (a.setIfInBounds (o+i) v) (w.setCell ⟨g,o+i,none⟩ v) (heap_setCell_same w g (o+i) a T v hg) (by simp;omega) (λx s=>h1 x (by simp[s]));refine⟨j,?_,?_,(o8.setCell (M:=λb=>b=g) w ⟨g,o+i,none⟩ v rfl).trans q⟩
  .simp only[storeCells,eh7,k,eg9,n]
  .rw[p]
   congr 3
   have l:a.toList.length=a.size:=by simp
   simp only[Array.toList_setIfInBounds,ei2];rw[show o+(i+1)=o+i+1 by omega,List.take_set,ef8 (by omega),List.set_append_right (h:=by simp;omega)];have m:o+i-(a.toList.take (o+i)).length=0:=by simp;omega
   rw[m,List.drop_set_of_lt (by omega)];simp[ei0,ep8,Nat.add_comm 1]
def cD7{w:World}{c o:Nat}{a:Array Value}{cs:List Value}(l:w.heap[c]?=some (.cells a T (0,0)))(p:o+cs.length<=a.size)(g:∀u∈cs,u.oneCell'=true)(m:(P.info? t).isSome=true)(n:N0 P t=cs.length):
  ∃e,(Instr.storeAt t (.pointer (some ⟨c,o,none⟩)) (.agg (List.toArray cs))).run P w = .ok () e/\e.heap[c]?=some (.cells (a.toList.take o++cs++a.toList.drop (o+cs.length)).toArray T (0,0))/\o8 (λb=>b=c) w e:=by
 obtain⟨e,h,j,k⟩:=bi9 (P:=P) c o cs 0 a w l (by omega) g;refine⟨e,?_,j,k⟩;obtain⟨i,d⟩:=el1.1 m;have f:i.size=cs.length:=by rw[<-n,E1 d]
 unfold Instr.storeAt storeVar;simp only[Instr.sureAddr,eh7,ej3,eg9,sizeOf,N3,d,Value.cells,f];simp only[ep3,ne_eq,not_true_eq_false,en5];exact h
end
def I6(k:Hp)(a:Addr)(v:Value):Prop:=∃b,v = .agg (List.toArray b)/\∀j u,b[j]?=some u->M7 k (a.add j)=some u
def ah6{c d:List Value}(h:(Value.agg (List.toArray c)) = .agg (List.toArray d)):d=c:=by
 simp only[Value.agg.injEq]at h;have:=eg8 Array.toList h;simpa using this.symm
section
variable {α:Type} [A3 α] {h k:Hp} {v:Value} {x:α} {P:Program} {t T:TypeId} {w:World} {a:Addr} {N:Nat->Prop}
def I6.mono{b:Hp}(g:B8 k b):I6 k a v->I6 b a v:=λ⟨c,e,d⟩=>⟨c,e,λj u f=>I7 g (d j u f)⟩
def bd3{b c:List Value}(d:∀j u,b[j]?=some u->M7 k (a.add j)=some u){o:Nat}(f:∀j u,c[j]?=some u->b[o+j]?=some u):I6 k (a.add o) (.agg (List.toArray c)):=
 ⟨c,rfl,λj u e=>by rw[Addr.add_add'];exact d _ _ (f j u e)⟩
def bl0{b c:List Value}(d:∀j u,b[j]?=some u->M7 k (a.add j)=some u)(e:∀j u,c[j]?=some u->b[0+j]?=some u):I6 k a (.agg (List.toArray c)):=by
 have:=bd3 d e
 rwa [M4]at this
def I6.whole(o:I6 k a v)(hv:SV h v x)(z:J5 P t=true)(A:(P.underlying t).isSome=true)(r:(P.info? t).isSome=true)(y:N0 P t=A3.sz α):
  (∀w,B8 k (m8 w)->(Instr.loadAt t (.pointer (some a))).run P w = .ok v w)/\(∀(S:World->Prop) (m:World),S m->(∀w,S w->B8 k (m8 w))->∀K f d w,F7 P S (Instr.loadAt t (.pointer (some a))) K f d w=K (C9 f d v) w):=by
 obtain⟨B,rfl,p⟩:=o;obtain⟨b,e,q⟩:=hv;obtain rfl:=ah6 e;have i:∀w,B8 k (m8 w)->(Instr.loadAt t (.pointer (some a))).run P w = .ok (.agg (List.toArray b)) w:=λw c=>bE3 z A r (by rw[y,A3.len q]) λj u s=>I7 c (p j u s);exact⟨i,λS m n c K f d w=>C0 n λl g=>i l (c l g)⟩
def bV8{w:World}{cs:List Value}(hN:∀b,N b->b<w.heap.size):I6 (C1 (w.alloc (.cells (List.toArray cs) T)) N) ⟨w.heap.size,0,none⟩ (.agg (List.toArray cs)):=by
 refine⟨cs,rfl,λj u c=>?_⟩;have d:¬N w.heap.size:=λa=>by have:=hN _ a;omega
 have:M7 (m8 (w.alloc (.cells (List.toArray cs) T))) ((⟨w.heap.size,0,none⟩:Addr).add j)=some u:=by
  rw[<-al0,add_lit,ej1,er7];simpa using c
 rw[add_lit]at this ⊢;unfold M7 at *;simp only at *;rw[E4 d];exact this
def cs4(hv:SV h v x)(hN:∀b,N b->b<w.heap.size):∃a c,(Instr.box T v).run P w = .ok (.pointer (some a)) c/\o6 w c/\I6 (C1 c N) a v:=by
 obtain⟨d,rfl,e⟩:=hv;exact⟨⟨w.heap.size,0,none⟩,w.alloc (.cells (List.toArray d) T),rfl,o6.alloc w _,bV8 hN⟩
def cp8(hv:SV h v x)(hN:∀b,N b->b<w.heap.size){z:Value}(k:H3 P T=some z)(c:z.cells.size=N0 P T)(j:N0 P T=A3.sz α):
  ∃a f d,(Instr.alloc T true (.tuple #[])).run P w = .ok (.pointer (some a)) f/\(Instr.storeAt T (.pointer (some a)) v).run P f = .ok () d/\o6 w d/\I6 (C1 d N) a v:=by
 obtain⟨cs,rfl,e⟩:=hv;obtain⟨g,i⟩:=aA5 (P:=P) (w:=w) (T:=T) k c (cs:=List.toArray cs) (by simpa[j]using A3.len e) (by simpa using A3.one e);exact⟨_,_,_,g,i,o6.alloc w _,bV8 hN⟩
end
def o8.chain{M N:Nat->Prop}{a b c:World}(h:o8 M a b)(k:o8 N b c)(hN:∀i,i<a.heap.size->N i->M i):o8 M a c:=
 ⟨k.os.trans h.os,k.tape.trans h.tape,k.output.trans h.output,ef9 h.size k.size,λi d hm=>(k.block i (el8 d h.size) λe=>hm (hN i d e)).trans (h.block i d hm)⟩
def o8.up{M:Nat->Prop}{a b:World}(h:o6 a b):o8 M a b:=h.weaken λ_ _ h=>h.elim
section
variable {P:Program} {w:World} {h:Hp} {t T sz by_:Nat} {v:Value}
def W2{α:Type}[A3 α]{e:TypeId}(U:G0 P t T sz by_=true)(s:A3.sz α=sz){xs ys:List α}(r:B0 h w T v xs){u:Value}(V:R h u ys)
  (hl:xs.length+ys.length<=1000000000000) (hb:(xs.length+ys.length)*by_<=140737488355328) (hw:B8 h (m8 w)) :
  ∃C D,(Builtin.append_ #[t,t] e #[v,u]).run P w = .ok C D/\B0 h D T C (xs++ys)/\o8 (A0 v) w D/\E9 w v C:=by
 obtain⟨K,⟨z,W,B⟩,L,M,Z,h6⟩:=V3 U;obtain⟨i,g,o⟩:=z7 W;have m:i.bytes=by_:=by rw[<-M,aD6 g]
 have k:i.size=sz:=by rw[<-L,E1 g]
 obtain⟨a,n,c,F,G,Q,l,f,d⟩:=V;simp at F;subst F;have y:=O4 K;by_cases hy:ys=[]
 .subst hy;refine⟨v,w,?_,by simpa using r,o8.refl _,λb hb=>.inl hb⟩;have p:n=0:=by simpa using G
  subst p;rcases r with⟨rfl,rfl⟩|⟨b,Y,I,rfl,k1,k2,X,k4,k5,k6⟩
  .cases a<;>simp[Builtin.append_,run_underlying y,sizeOf,typeInfo,g,Builtin.lenOf,Builtin.firstCells,loadCells,loadCellsFrom]
  .cases a<;>simp[Builtin.append_,run_underlying y,sizeOf,typeInfo,g,Builtin.lenOf,Builtin.firstCells,loadCells,loadCellsFrom,X,storeCells]
 .have q:l≠[]:=by
   intro e;have:=O5 f;rw[e]at this;have S:0<ys.length:=List.length_pos_iff.2 hy;have:=A3.pos (α:=α);have:=Nat.mul_pos S this;simp at *;omega
  obtain⟨E,A⟩:∃E,l[0]?=some E:=by
   cases l with
   | nil=>exact absurd rfl q
   | cons x _=>exact⟨x,rfl⟩
  obtain⟨ad,rfl,_⟩:=d 0 E A;exact bb0 (e:=e) y g o (by rw[k,s]) (by rw[B,k]) r (ad:=ad) G f (λj u O=>by
   obtain⟨H,J,N⟩:=d j u O;obtain rfl:=eh1 J;exact I7 hw N) hy (by simp only[maxLen];omega) (by rw[m];exact hb) hw
def dF5{α:Type}[A3 α](j:G0 P t T sz by_=true)(hw:B8 h (m8 w)):
  ∃v a,(Instr.buildSlice t 0 #[]).run P w = .ok v a/\B0 h a T v ([]:List α)/\o6 w a/\(∀b,A0 v b->w.heap.size<=b):=by
 obtain⟨c,⟨z,k,l⟩,m,n,o,p⟩:=V3 j;obtain⟨i,e,f⟩:=z7 k;refine⟨.slice (some ⟨w.heap.size,0,none⟩) 0 0,w.alloc (.cells #[] T),?_,.inr ⟨w.heap.size,0,#[],rfl,aI3 hw (eg6 _),ej0 w _,by simp,by simp,by simp,by simp[Q8]⟩,o6.alloc _ _,λb d=>by simp[A0,Value.ownBlock]at d;omega⟩;unfold Instr.buildSlice;simp only[eh7,H4,O4 c,eg9,S3 (show(P.info? T).isSome=true by rw[e];rfl),Sem.run_ite,Nat.zero_mul,ej3];rw[if_neg (by decide),if_pos trivial];have e0:∀(g:Nat->Value),(Array.range 0).map g=#[]:=λg=>by simp
 simp only[e0,Instr.fill];rfl
end
section
variable {P:Program} {h k:Hp} {w:World} {t T sz by_:Nat} {v u:Value}
def ar3{α:Type}[M5 α]{e:TypeId}(I:G0 P t T 1 by_=true){xs ys:List α}(H:B0 h w T v xs)(J:R k u ys)(U:B8 k (m8 w))(o:xs.length+ys.length<=1000000000000)(hb:(xs.length+ys.length)*by_<=140737488355328)(hw:B8 h (m8 w)):
  ∃E F,(Builtin.append_ #[t,t] e #[v,u]).run P w = .ok E F/\B0 h F T E (xs++ys)/\o8 (A0 v) w F/\E9 w v E:=by
 obtain⟨M,⟨z,V,D⟩,N,O,W,X⟩:=V3 I;obtain⟨i,q,r⟩:=z7 V;have p:i.bytes=by_:=by rw[<-O,aD6 q]
 have g:i.size=1:=by rw[<-N,E1 q]
 by_cases hy:ys=[]
 .subst hy;obtain⟨a,n,c,m,y,f,l,d,b⟩:=J;have B:R h u ([]:List α):=⟨a,n,c,m,y,f,[],rfl,λj u s=>by simp at s⟩;exact W2 I rfl H B o hb hw
 .obtain⟨a,n,c,m,y,f,l,d,b⟩:=J;simp at m;subst m;have A:l≠[]:=by
   intro e;have:=O5 d;rw[e]at this;have Y:0<ys.length:=List.length_pos_iff.2 hy;have Q:(A3.sz α)=1:=rfl;rw[Q]at this;simp at this;omega
  obtain⟨G,C⟩:∃G,l[0]?=some G:=by
   cases l with
   | nil=>exact absurd rfl A
   | cons x _=>exact⟨x,rfl⟩
  obtain⟨ad,rfl,_⟩:=b 0 G C;exact bb0 (e:=e) (O4 M) q r (by rw[g];rfl) (by rw[D,g]) H (ad:=ad) y (bl7 d) (λj u s=>by
   obtain⟨K,L,S⟩:=b j u s;obtain rfl:=eh1 L;exact I7 U S) hy (by simp only[maxLen];omega) (by rw[p];exact hb) hw
end
section
variable {P:Program} {K:Fr->World->Prop} {f:Fr} {w:World} {d:Option Nat} {ty:TypeId} {pos:String} {aft:Array Edge} {S:World->Prop}
def bA6(P:Program)(g:Value)(args:List Value)(w:World)(K:Fr->World->Prop)(f:Fr)(d:Option Nat):Prop:=match g with
 | .func (.func k) first cap=>aC9 P k (first.toList++args++cap.toList) w K f d
 | _=>False
def dN1{k:Nat}{first a:Array Value}{args:List Value}:bA6 P (.func (.func k) first a) args w K f d=aC9 P k (first.toList++args++a.toList) w K f d:=propext en7
def dP4{j:Nat}{a:Array Operand}{b:Array TypeId}:B5 P none ⟨d,.call {callee:=.value (.tmp j),args:=a,argTypes:=b},ty,pos,aft,none⟩ K f w=bA6 P (f j) (a.toList.map (ev f)) w K f d:=by
 simp only[B5,ay9,ad7,bk6,ev,aX4,bA6]
 all_goals (generalize f j=g;cases g<;>try rfl)
def dP1{j:Nat}{a:Array Operand}{b:Array TypeId}:B5 P (some S) ⟨d,.call {callee:=.value (.tmp j),args:=a,argTypes:=b},ty,pos,aft,none⟩ K f w=bA6 P (f j) (a.toList.map (ev f)) w (F2 S K) f d:=by
 simp only[B5,ay9,ad7,bk6,ev,aX4,bA6]
 all_goals (generalize f j=g;cases g<;>try rfl)
end
def dN4{P:Program}{b d:Code}{Q:Exit->Fr->World->Prop}{f:Fr}{w:World}(a:List Nat)(I:Fr->World->Prop)(k:a.all (λi=>!(wrC b).contains i)=true)
  (l:CW P b (ad0 I Q) f w) (m:∀c g,(∀i∈a,c i=f i)->I c g->CW P d Q c g):CW P (.seq b d) Q f w:=by
 rw[by6];refine cW7 b (ad0 I Q) _ f w (λe c g n h=>?_) l;have j:∀i∈a,c i=f i:=λi o=>n i λhm=>by
  have:=en8.1 k i o;simp[hm]at this
 cases e
 case normal=>exact m c g j h
 all_goals exact h
def er1:=@Array.getElem?_toList
def ep7:=@Bool.eq_false_iff
def er3:=@Bool.false_or
def es6:=@List.ext_getElem?
def ep4:=@List.find?_eq_none
def ei9:=@List.getElem?_map
def em7:=@List.getElem_map
def eg2:=@List.getElem_mem
def eh4:=@List.mem_map
def eh2:=@List.mem_singleton
def ek2:=@List.nodup_append
def em0:=@List.pairwise_iff_getElem
def O9(kv:List (A9×Value))(k:A9):Option Value:=(kv.find? λp=>decide (p.1=k)).map (·.2)
def aR6(kv:List (A9×Value))(k:A9)(v:Value):List (A9×Value):=if kv.any λp=>decide (p.1=k)then kv.map λp=>if p.1=k then(p.1,v)else p else kv++[(k,v)]
def aW4(w:World)(r:Nat)(kv:List (A9×Value)):Prop:=∃b a,w.heap[r]?=some (.map b a)/\b.toList.map (λe=>(e.key,e.val))=kv.map (λp=>(p6 p.1,p.2))/\(kv.map (·.1)).Nodup/\(∀x∈b.toList,x.born<a)/\(b.toList.map (·.born)).Nodup
def dj5{a b:A9}(h:p6 a=p6 b):a=b:=by
 unfold p6 at h;simp only[Value.string.injEq,ByteArray.mk.injEq]at h;have:=eg8 Array.toList h;cases a;cases b;simpa using this
section
variable {P:Program} {w:World} {t k e:TypeId} {r:Nat} {kv:List (A9×Value)}
def aW4.lt(hm:aW4 w r kv):r<w.heap.size:=by
 obtain⟨a,c,h,_⟩:=hm;exact(ef5.1 h).1
def aW4.mod{M:Nat->Prop}{b:World}(hm:aW4 w r kv)(h:o8 M w b)(g:¬M r):aW4 b r kv:=by
 have a:=hm.lt;obtain⟨d,c,e,f⟩:=hm;exact⟨d,c,(h.block r a g).trans e,f⟩
def aW4.new(w:World)(t:TypeId):(Instr.makeMap t none).run P w = .ok (.map (some w.heap.size)) (w.alloc (.map #[] 0))/\aW4 (w.alloc (.map #[] 0)) w.heap.size []/\o6 w (w.alloc (.map #[] 0)):=by
 refine⟨?_,⟨#[],0,ej0 w _,rfl,by simp,by simp,by simp⟩,o6.alloc _ _⟩;unfold Instr.makeMap;rfl
def aP6{d:TypeDesc}(o:d = .string)(s:A9):∀(l:List MapEntry) (kv:List (A9×Value)) (i:Nat),l.map (λe=>(e.key,e.val))=kv.map (λp=>(p6 p.1,p.2)) ->
  (O9 kv s=none/\(kv.any λp=>decide (p.1=s))=false/\Instr.findNow d (p6 s) l i=some none) \/
  ∃j v,kv[j]?  = some (s,v)/\O9 kv s=some v/\(kv.any λp=>decide (p.1=s))=true/\Instr.findNow d (p6 s) l i=some (some (i+j,v))
 | [],kv,i,h=>by
  have:kv=[]:=by simpa using h.symm
  subst this;exact .inl ⟨rfl,rfl,rfl⟩
 | e::l,[],i,h=>by simp at h
 | e::l,p::kv,i,h=>by
  obtain⟨b,t⟩:=p;obtain⟨r,ev,q⟩:=e;simp only[ej9,eq9,Prod.mk.injEq]at h;obtain⟨⟨rfl,rfl⟩,m⟩:=h;subst o;have k:Instr.sameNow .string (p6 s) (p6 b)=some (decide (b=s)):=by
   have:=MapKept.bytes_beq ⟨s.b.toArray⟩ ⟨b.b.toArray⟩;simp only[Instr.sameNow,p6]
   congr 1
   rw[eq7,this,decide_eq_true_iff];constructor
   .intro e;exact(dj5 (by unfold p6;rw[e])).symm
   .rintro rfl;rfl
  by_cases hp:b=s
  .subst hp;refine .inr ⟨0,ev,by simp,by simp[O9],by simp,?_⟩;simp only[Instr.findNow,k,decide_true];rfl
  .have a:decide (b=s)=false:=by simp[hp]
   rcases aP6 rfl s l kv (i+1) m with⟨c,f,g⟩|⟨j,v,c,f,g,n⟩
   .refine .inl ⟨by unfold O9 at *;rw[List.find?_cons,a];exact c,by rw[List.any_cons,a,f];rfl,?_⟩;simp only[Instr.findNow,k,a];exact g
   .refine .inr ⟨j+1,v,by simpa using c,by unfold O9 at *;rw[List.find?_cons,a];exact f,by rw[List.any_cons,g];simp,?_⟩;simp only[Instr.findNow,k,a,n]
    congr 3;omega
def aW4.lookup(hm:aW4 w r kv)(p:P.underlying t=some (.map k e))(f:P.underlying k=some .string){z:Value}(y:H3 P e=some z)(s:A9):
  (Instr.lookup t (.map (some r)) (p6 s) false).run P w = .ok ((O9 kv s).getD z) w:=by
 obtain⟨h,c,l,q,A,_⟩:=hm;obtain⟨i,x,d⟩:=z7 y;have a:=MapKept.run_checkKey (P:=P) (w:=w) (k:=p6 s) f (show MapKept.IsKey .string (p6 s)from trivial) h.isEmpty 9999;have g:(zeroValue e).run P w = .ok z w:=by
  unfold zeroValue;simp[N3,x,d]
 rcases aP6 rfl s h.toList kv 0 q with⟨m,n,o⟩|⟨j,v,m,n,o,u⟩
 .have b:=MapKept.run_findKey (P:=P) (w:=w) f o;unfold Instr.lookup;simp only[eh7,run_underlying p,eg9,MapKept.run_getObj_map l,ej3,a,b,g,m,Option.getD_none];rfl
 .have b:=MapKept.run_findKey (P:=P) (w:=w) f u;unfold Instr.lookup;simp only[eh7,run_underlying p,eg9,MapKept.run_getObj_map l,ej3,a,b,n,ek4];rfl
def by4(w:World)(r:Nat)(o:Obj):o8 (λb=>b=r) w {w with heap:=w.heap.setIfInBounds r o}:=
 ⟨rfl,rfl,rfl,by simp,λb c a=>by rw[Array.getElem?_setIfInBounds_ne (λe=>a e.symm)]⟩
def aW4.update(hm:aW4 w r kv)(W:P.underlying t=some (.map k e))(O:P.underlying k=some .string)(s:A9)(v:Value):
  ∃T,(Instr.mapUpdate t (.map (some r)) (p6 s) v).run P w = .ok () T/\aW4 T r (aR6 kv s v)/\o8 (λb=>b=r) w T:=by
 obtain⟨f,c,m,E,K,F,V⟩:=hm;have u:=MapKept.run_checkKey (P:=P) (w:=w) (k:=p6 s) O (show MapKept.IsKey .string (p6 s)from trivial) false 9999;have B:=(ef5.1 m).1;rcases aP6 rfl s f.toList kv 0 E with⟨G,H,I⟩|⟨j,v0,G,H,I,X⟩
 .have J:=MapKept.run_findKey (P:=P) (w:=w) O I;refine⟨{w with heap:=w.heap.setIfInBounds r (.map (f.push ⟨p6 s,v,c⟩) (c+1))},?_,⟨f.push ⟨p6 s,v,c⟩,c+1,by simp[B],?_,?_,?_,?_⟩,by4 w r _⟩
  .unfold Instr.mapUpdate;simp only[eh7,run_underlying W,eg9,MapKept.run_getObj_map m,u,J];exact MapKept.run_setObj_map _ m
  .rw[aR6,if_neg (by rw[H];simp),Array.toList_push,ei4,ei4,E];rfl
  .rw[aR6,if_neg (by rw[H];simp),ei4,ek2];refine⟨K,by simp,λa L b q=>?_⟩;simp only[ej9,List.map_nil,eh2]at q;subst q;rintro rfl;obtain⟨p,Y,S⟩:=eh4.1 L;have:=List.any_eq_false.1 H p Y;simp[S]at this
  .intro x l;rw[Array.toList_push]at l;rcases eg1.1 l with h|h
   .have:=F x h;omega
   .simp only[eh2]at h;subst h;exact Nat.lt_succ_self _
  .rw[Array.toList_push,ei4,ek2];refine⟨V,by simp,λa L b q=>?_⟩;simp only[ej9,List.map_nil,eh2]at q;subst q;rintro rfl;obtain⟨x,l,Z⟩:=eh4.1 L;have:=F x l;omega
 .have J:=MapKept.run_findKey (P:=P) (w:=w) O X;rw[ej1]at J;have M:∃e0,f[j]?=some e0/\e0.key=p6 s:=by
   have:=eg8 (λz=>z[j]?) E;simp only[ei9,G,el5]at this;cases hq:f.toList[j]? with
   | none=>rw[hq]at this;cases this
   | some e0=>
    rw[hq]at this;simp only[el5,eq4,Prod.mk.injEq]at this;exact⟨e0,by rw[<-er1];exact hq,this.1⟩
  obtain⟨e0,y,N⟩:=M;have Q:(Instr.keyThatStays (p6 s) (p6 s)).run P w = .ok (p6 s) w:=MapKept.run_keyThatStays (d:=.string) trivial;have g:(f.modify j λe=>{e with key:=p6 s,val:=v}).toList=f.toList.modify j (λe=>{e with key:=p6 s,val:=v}):=by simp
  refine⟨{w with heap:=w.heap.setIfInBounds r (.map (f.modify j λe=>{e with key:=p6 s,val:=v}) c)},?_,⟨f.modify j λe=>{e with key:=p6 s,val:=v},c,by simp[B],?_,?_,?_,?_⟩,by4 w r _⟩
  .unfold Instr.mapUpdate;simp only[eh7,run_underlying W,eg9,MapKept.run_getObj_map m,u,J,y,el5,ek4,N,Q];exact MapKept.run_setObj_map _ m
  .rw[aR6,if_pos I,g];apply es6;intro n;have i:=eg8 (λz=>z[n]?) E;simp only[ei9]at i ⊢;rw[List.getElem?_modify];have A:=ef6.1 G;by_cases hnj:j=n
   .subst hnj;rw[er1,y,G];simp
   .simp only[hnj,en5,Option.map_map];cases hkn:kv[n]? with
    | none=>rw[hkn]at i;simpa using i
    | some p=>
     rw[hkn]at i;have R:p.1≠s:=λe=>by
      have D:=ef6.1 hkn;have U:(kv.map (·.1))[j]'(by simpa using A.1)=(kv.map (·.1))[n]'(by simpa using D.1):=by
       simp only[em7,A.2,D.2,e]
      have o:=em0.1 K;rcases Nat.lt_trichotomy j n with h|h|h
      .exact o j n _ _ h U
      .exact hnj h
      .exact o n j _ _ h U.symm
     cases he:f.toList[n]? with
     | none=>rw[he]at i;simp at i
     | some x=>
      rw[he]at i;simp only[el5,eq4]at i ⊢;simp only[Function.comp,R,en5];show some _=some _;exact eg8 some i
  .rw[aR6,if_pos I,List.map_map];have:((λx:A9×Value=>x.1) ∘ λp=>if p.1=s then(p.1,v)else p)=λx=>x.1:=by
    funext p;simp only[Function.comp];split<;>rfl
   rw[this];exact K
  .intro x l;rw[g]at l;obtain⟨n,i,rfl⟩:=em3.1 l;rw[List.getElem_modify];have C:n<f.toList.length:=by simpa using i
   split
   .show f.toList[n].born<c;exact F f.toList[n] (eg2 C)
   .exact F _ (eg2 C)
  .rw[g];have:(f.toList.modify j (λe=>{e with key:=p6 s,val:=v})).map (·.born)=f.toList.map (·.born):=by
    apply es6;intro n;simp only[ei9,List.getElem?_modify];by_cases hjn:j=n<;>simp only[hjn,em4,en5]<;>(cases f.toList[n]?<;>rfl)
   rw[this];exact V
end
def av8(kv:List (A9×Value))(k:A9)(v:Value)(j:A9):O9 (aR6 kv k v) j=if j=k then some v else O9 kv j:=by
 have c:∀l:List (A9×Value),O9 (l.map λp=>if p.1=k then(p.1,v)else p) j=if j=k then(if l.any λp=>decide (p.1=k)then some v else none)else O9 l j:=by
  intro l
  induction l with
  | nil=>simp[O9]
  | cons p l a=>
   unfold O9 at *;rw[ej9,List.find?_cons,List.find?_cons,List.any_cons];by_cases h1:p.1=k
   .by_cases h2:j=k
    .subst h2;simp[h1]
    .simp only[h1,em4,h2,en5]at a ⊢;have f:decide (k=j)=false:=by simp;exact λe=>h2 e.symm
     rw[f];exact a
   .by_cases h2:j=k
    .subst h2;simp only[h1,en5,decide_false,er3,em4]at a ⊢;exact a
    .by_cases b:p.1=j
     .simp only[en5,h2,b,decide_true]
     .simp only[h1,en5,h2,b,decide_false]at a ⊢;exact a
 unfold aR6;split
 .next h=>rw[c kv];simp only[h,em4]
 .next h=>
  have d:=ep7.2 h;unfold O9;rw[List.find?_append];by_cases h2:j=k
  .subst h2;have:kv.find? (λp=>decide (p.1=j))=none:=ep4.2 λp g=>List.any_eq_false.1 d p g;rw[this];simp
  .rw[if_neg h2];have b:¬k=j:=λe=>h2 e.symm;simp[b]
theorem bZ1{P:Program}{S:World->Prop}{K:Fr->World->Prop}{f:Fr}{w:World}{d:Option Nat}{ty:TypeId}{b:String}{a:Array Edge}{t:Nat}{m k x:Operand}:B5 P (some S) ⟨d,.mapUpdate t m k x,ty,b,a,none⟩ K f w=bn1 ((Instr.mapUpdate t (ev f m) (ev f k) (ev f x)).run P w) (F2 S K) f d:=rfl
def dx1:J5 prog 2=false:=by kernel_rfl
def bj6:N0 prog 3=1:=by kernel_rfl
def aC6:H3 prog 3=some (.int .i64 0):=by kernel_rfl
def G3:J5 prog 3=false:=by kernel_rfl
def aG0:N0 prog 4=1:=by kernel_rfl
def W5:H3 prog 4=some (.bool false):=by kernel_rfl
def ah3:J5 prog 4=false:=by kernel_rfl
def dT6:N0 prog 9=1:=by kernel_rfl
def dU0:H3 prog 9=some (.string ⟨#[]⟩):=by kernel_rfl
def Z2:J5 prog 9=false:=by kernel_rfl
def dS8:bV7 prog 9=none:=by kernel_rfl
def dI5:cb0 prog 9=true:=by kernel_rfl
def dl4:N0 prog 22=1:=by kernel_rfl
def dm4:H3 prog 22=some (.slice none 0 0):=by kernel_rfl
def ab9:J5 prog 22=false:=by kernel_rfl
def bv7:N0 prog 24=1:=by kernel_rfl
def am6:H3 prog 24=some (.slice none 0 0):=by kernel_rfl
def ah2:J5 prog 24=false:=by kernel_rfl
def dk1:M9 prog 24=some 3:=by kernel_rfl
def dT3:eqT prog 24=3:=by kernel_rfl
def am4:(prog.info? 26).isSome=true:=by kernel_rfl
def N6:N0 prog 26=4:=by kernel_rfl
def aS3:H3 prog 26=some (.agg #[.string ⟨#[]⟩,.int .i64 0,.int .i64 0,.string ⟨#[]⟩]):=by kernel_rfl
def ar8:J5 prog 26=true:=by kernel_rfl
def as0:(prog.underlying 26).isSome=true:=by kernel_rfl
def bJ4:P2 prog 26=some (#[.string ⟨#[]⟩,.int .i64 0,.int .i64 0,.string ⟨#[]⟩],[(0,1),(1,1),(2,1),(3,1)]):=by kernel_rfl
def dl5:N0 prog 31=1:=by kernel_rfl
def cp7:H3 prog 31=some (.slice none 0 0):=by kernel_rfl
def P8:J5 prog 31=false:=by kernel_rfl
def dT4:eqT prog 31=3:=by kernel_rfl
def cp4:J5 prog 32=false:=by kernel_rfl
def dk6:(prog.info? 34).isSome=true:=by kernel_rfl
def cp6:N0 prog 34=2:=by kernel_rfl
def dC9:H3 prog 34=some (.agg #[.slice none 0 0,.slice none 0 0]):=by kernel_rfl
def dk4:J5 prog 34=true:=by kernel_rfl
def dl8:(prog.underlying 34).isSome=true:=by kernel_rfl
def dT0:P2 prog 34=some (#[.slice none 0 0,.slice none 0 0],[(0,1),(1,1)]):=by kernel_rfl
def dS9:J5 prog 40=false:=by kernel_rfl
def dC5:N0 prog 54=1:=by kernel_rfl
def dD0:H3 prog 54=some (.slice none 0 0):=by kernel_rfl
def bj4:J5 prog 54=false:=by kernel_rfl
def aY1:(prog.info? 66).isSome=true:=by kernel_rfl
def an3:N0 prog 66=9:=by kernel_rfl
def cJ6:H3 prog 66=some (.agg #[.string ⟨#[]⟩,.int .i64 0,.int .i64 0,.string ⟨#[]⟩,.string ⟨#[]⟩,.int .i64 0,.int .i64 0,.string ⟨#[]⟩,.int .i64 0]):=by kernel_rfl
def bv5:J5 prog 66=true:=by kernel_rfl
def bv8:(prog.underlying 66).isSome=true:=by kernel_rfl
def dT1:P2 prog 66=some (#[.string ⟨#[]⟩,.int .i64 0,.int .i64 0,.string ⟨#[]⟩,.string ⟨#[]⟩,.int .i64 0,.int .i64 0,.string ⟨#[]⟩,.int .i64 0],[(0,4),(4,4),(8,1)]):=by kernel_rfl
def cJ4:J5 prog 72=false:=by kernel_rfl
def aM5:J5 prog 73=false:=by kernel_rfl
def ar9:(prog.info? 75).isSome=true:=by kernel_rfl
def Q9:N0 prog 75=5:=by kernel_rfl
def dm7:H3 prog 75=some (.agg #[.string ⟨#[]⟩,.slice none 0 0,.slice none 0 0,.slice none 0 0,.slice none 0 0]):=by kernel_rfl
def at8:J5 prog 75=true:=by kernel_rfl
def at9:(prog.underlying 75).isSome=true:=by kernel_rfl
def dC4:P2 prog 75=some (#[.string ⟨#[]⟩,.slice none 0 0,.slice none 0 0,.slice none 0 0,.slice none 0 0],[(0,1),(1,1),(2,1),(3,1),(4,1)]):=by kernel_rfl
def bv6:(prog.info? 78).isSome=true:=by kernel_rfl
def az8:N0 prog 78=2:=by kernel_rfl
def dT8:H3 prog 78=some (.agg #[.string ⟨#[]⟩,.bool false]):=by kernel_rfl
def bJ1:J5 prog 78=true:=by kernel_rfl
def bJ7:(prog.underlying 78).isSome=true:=by kernel_rfl
def dl0:P2 prog 78=some (#[.string ⟨#[]⟩,.bool false],[(0,1),(1,1)]):=by kernel_rfl
def dC2:(prog.info? 81).isSome=true:=by kernel_rfl
def dC6:N0 prog 81=2:=by kernel_rfl
def dm8:H3 prog 81=some (.agg #[.int .i64 0,.int .i64 0]):=by kernel_rfl
def dC0:J5 prog 81=true:=by kernel_rfl
def dC8:(prog.underlying 81).isSome=true:=by kernel_rfl
def dl1:P2 prog 81=some (#[.int .i64 0,.int .i64 0],[(0,1),(1,1)]):=by kernel_rfl
def aF9:J5 prog 87=false:=by kernel_rfl
def cp5:J5 prog 88=false:=by kernel_rfl
def dT5:N0 prog 89=1:=by kernel_rfl
def dT9:H3 prog 89=some (.slice none 0 0):=by kernel_rfl
def bj5:J5 prog 89=false:=by kernel_rfl
def dT2:P2 prog 91=some (#[.pointer none,.slice none 0 0,.slice none 0 0,.slice none 0 0,.slice none 0 0,.map none,.slice none 0 0,.slice none 0 0],[(0,1),(1,1),(2,1),(3,1),(4,1),(5,1),(6,1),(7,1)]):=by kernel_rfl
def cJ5:N0 prog 95=1:=by kernel_rfl
def bT7:H3 prog 95=some (.slice none 0 0):=by kernel_rfl
def aM6:J5 prog 95=false:=by kernel_rfl
def cb4:J5 prog 104=false:=by kernel_rfl
def bc2:(prog.info? 106).isSome=true:=by kernel_rfl
def ai9:N0 prog 106=4:=by kernel_rfl
def cB9:H3 prog 106=some (.agg #[.int .i64 0,.int .i64 0,.string ⟨#[]⟩,.slice none 0 0]):=by kernel_rfl
def bo5:J5 prog 106=true:=by kernel_rfl
def bo9:(prog.underlying 106).isSome=true:=by kernel_rfl
def cB6:P2 prog 106=some (#[.int .i64 0,.int .i64 0,.string ⟨#[]⟩,.slice none 0 0],[(0,1),(1,1),(2,1),(3,1)]):=by kernel_rfl
def cb5:J5 prog 107=false:=by kernel_rfl
def aL0:(prog.info? 109).isSome=true:=by kernel_rfl
def ad2:N0 prog 109=13:=by kernel_rfl
def cC0:H3 prog 109=some (.agg #[.int .i64 0,.int .i64 0,.slice none 0 0,.string ⟨#[]⟩,.string ⟨#[]⟩,.int .i64 0,.int .i64 0,.string ⟨#[]⟩,.slice none 0 0,.bool false,.slice none 0 0,.slice none 0 0,.slice none 0 0]):=by kernel_rfl
def bc0:J5 prog 109=true:=by kernel_rfl
def bc4:(prog.underlying 109).isSome=true:=by kernel_rfl
def bo8:P2 prog 109=some (#[.int .i64 0,.int .i64 0,.slice none 0 0,.string ⟨#[]⟩,.string ⟨#[]⟩,.int .i64 0,.int .i64 0,.string ⟨#[]⟩,.slice none 0 0,.bool false,.slice none 0 0,.slice none 0 0,.slice none 0 0],[(0,1),(1,1),(2,1),(3,1),(4,1),(5,4),(9,1),(10,1),(11,1),(12,1)]):=by kernel_rfl
def bJ2:(prog.info? 111).isSome=true:=by kernel_rfl
def ao7:N0 prog 111=16:=by kernel_rfl
def as8:J5 prog 114=false:=by kernel_rfl
def bc1:J5 prog 116=false:=by kernel_rfl
def cB1:J5 prog 117=false:=by kernel_rfl
def dH0:P2 prog 119=some (#[.pointer none,.int .i64 0,.int .i64 0,.slice none 0 0,.slice none 0 0],[(0,1),(1,1),(2,1),(3,1),(4,1)]):=by kernel_rfl
def aL1:(prog.info? 124).isSome=true:=by kernel_rfl
def aa8:N0 prog 124=6:=by kernel_rfl
def dm0:H3 prog 124=some (.agg #[.bool false,.string ⟨#[]⟩,.int .i64 0,.int .i64 0,.string ⟨#[]⟩,.slice none 0 0]):=by kernel_rfl
def aS1:J5 prog 124=true:=by kernel_rfl
def aS2:(prog.underlying 124).isSome=true:=by kernel_rfl
def dk8:P2 prog 124=some (#[.bool false,.string ⟨#[]⟩,.int .i64 0,.int .i64 0,.string ⟨#[]⟩,.slice none 0 0],[(0,1),(1,1),(2,4)]):=by kernel_rfl
def dI1:N0 prog 134=1:=by kernel_rfl
def dI7:H3 prog 134=some (.slice none 0 0):=by kernel_rfl
def cB2:J5 prog 134=false:=by kernel_rfl
def dI2:N0 prog 135=1:=by kernel_rfl
def dI8:H3 prog 135=some (.slice none 0 0):=by kernel_rfl
def ag4:J5 prog 135=false:=by kernel_rfl
def dH1:P2 prog 137=some (#[.pointer none,.slice none 0 0,.slice none 0 0,.slice none 0 0,.slice none 0 0,.slice none 0 0],[(0,1),(1,1),(2,1),(3,1),(4,1),(5,1)]):=by kernel_rfl
def Z3:(prog.info? 150).isSome=true:=by kernel_rfl
def J3:N0 prog 150=17:=by kernel_rfl
def cC1:H3 prog 150=some (.agg #[.int .i64 0,.int .i64 0,.slice none 0 0,.string ⟨#[]⟩,.string ⟨#[]⟩,.int .i64 0,.int .i64 0,.string ⟨#[]⟩,.slice none 0 0,.bool false,.slice none 0 0,.slice none 0 0,.slice none 0 0,.int .i64 0,.int .i64 0,.int .i64 0,.int .i64 0]):=by kernel_rfl
def aa7:J5 prog 150=true:=by kernel_rfl
def aa9:(prog.underlying 150).isSome=true:=by kernel_rfl
def dk9:P2 prog 150=some (#[.int .i64 0,.int .i64 0,.slice none 0 0,.string ⟨#[]⟩,.string ⟨#[]⟩,.int .i64 0,.int .i64 0,.string ⟨#[]⟩,.slice none 0 0,.bool false,.slice none 0 0,.slice none 0 0,.slice none 0 0,.int .i64 0,.int .i64 0,.int .i64 0,.int .i64 0],[(0,13),(13,1),(14,1),(15,1),(16,1)]):=by kernel_rfl
def dI3:N0 prog 151=1:=by kernel_rfl
def dm1:H3 prog 151=some (.slice none 0 0):=by kernel_rfl
def bo6:J5 prog 151=false:=by kernel_rfl
def dH2:P2 prog 153=some (#[.slice none 0 0,.slice none 0 0,.slice none 0 0,.slice none 0 0,.slice none 0 0],[(0,2),(2,1),(3,1),(4,1)]):=by kernel_rfl
def cc0:N0 prog 167=1:=by kernel_rfl
def aL2:H3 prog 167=some (.int .u64 0):=by kernel_rfl
def as9:J5 prog 167=false:=by kernel_rfl
def dH3:P2 prog 171=some (#[.int .i64 0],[(0,1)]):=by kernel_rfl
def dH4:P2 prog 195=some (#[.pointer none,.int .i64 0,.string ⟨#[]⟩,.slice none 0 0,.slice none 0 0,.slice none 0 0,.slice none 0 0,.slice none 0 0,.slice none 0 0],[(0,1),(1,1),(2,5),(7,1),(8,1)]):=by kernel_rfl
def cB4:(prog.info? 205).isSome=true:=by kernel_rfl
def bJ5:N0 prog 205=2:=by kernel_rfl
def dm2:H3 prog 205=some (.agg #[.int .i64 0,.int .i64 0]):=by kernel_rfl
def dk2:J5 prog 205=true:=by kernel_rfl
def dl6:(prog.underlying 205).isSome=true:=by kernel_rfl
def dH5:P2 prog 205=some (#[.int .i64 0,.int .i64 0],[(0,1),(1,1)]):=by kernel_rfl
def cB5:(prog.info? 210).isSome=true:=by kernel_rfl
def bJ6:N0 prog 210=3:=by kernel_rfl
def dI9:H3 prog 210=some (.agg #[.int .i64 0,.int .i64 0,.string ⟨#[]⟩]):=by kernel_rfl
def dk3:J5 prog 210=true:=by kernel_rfl
def dl7:(prog.underlying 210).isSome=true:=by kernel_rfl
def dH6:P2 prog 210=some (#[.int .i64 0,.int .i64 0,.string ⟨#[]⟩],[(0,1),(1,1),(2,1)]):=by kernel_rfl
def dl2:N0 prog 216=1:=by kernel_rfl
def dm3:H3 prog 216=some (.slice none 0 0):=by kernel_rfl
def cb7:J5 prog 216=false:=by kernel_rfl
def dk5:(prog.info? 218).isSome=true:=by kernel_rfl
def dl3:N0 prog 218=2:=by kernel_rfl
def dJ0:H3 prog 218=some (.agg #[.int .i64 0,.int .i64 0]):=by kernel_rfl
def dG9:J5 prog 218=true:=by kernel_rfl
def dI6:(prog.underlying 218).isSome=true:=by kernel_rfl
def dH7:P2 prog 218=some (#[.int .i64 0,.int .i64 0],[(0,1),(1,1)]):=by kernel_rfl
def dI4:N0 prog 242=1:=by kernel_rfl
def dm5:H3 prog 242=some (.slice none 0 0):=by kernel_rfl
def Z1:J5 prog 242=false:=by kernel_rfl
def bJ3:(prog.info? 263).isSome=true:=by kernel_rfl
def bc3:N0 prog 263=3:=by kernel_rfl
def dm6:H3 prog 263=some (.agg #[.int .i64 0,.int .i64 0,.int .i64 0]):=by kernel_rfl
def cB3:J5 prog 263=true:=by kernel_rfl
def cB8:(prog.underlying 263).isSome=true:=by kernel_rfl
def dH8:P2 prog 263=some (#[.int .i64 0,.int .i64 0,.int .i64 0],[(0,1),(1,1),(2,1)]):=by kernel_rfl
def dH9:P2 prog 268=some (#[.slice none 0 0,.slice none 0 0],[(0,1),(1,1)]):=by kernel_rfl
def cb9:(prog.info? 295).isSome=true:=by kernel_rfl
def am5:N0 prog 295=2:=by kernel_rfl
def bp0:H3 prog 295=some (.agg #[.slice none 0 0,.int .i64 0]):=by kernel_rfl
def cb8:J5 prog 295=true:=by kernel_rfl
def cc2:(prog.underlying 295).isSome=true:=by kernel_rfl
def dI0:P2 prog 295=some (#[.slice none 0 0,.int .i64 0],[(0,1),(1,1)]):=by kernel_rfl
def cB7:N0 prog 332=1:=by kernel_rfl
def bp3:H3 prog 332=some (.slice none 0 0):=by kernel_rfl
def bo7:J5 prog 332=false:=by kernel_rfl
def hm:prog.follows .mixedOrders=true:=by kernel_rfl

def TY:(prog.info? 3).isSome=true/\N0 prog 3=1/\(prog.info? 4).isSome=true/\N0 prog 4=1/\(prog.info? 9).isSome=true/\N0 prog 9=1/\M9 prog 9=none/\cb0 prog 9=true/\M9 prog 22=some 26/\(prog.info? 24).isSome=true/\N0 prog 24=1/\M9 prog 24=some 3/\(prog.info? 26).isSome=true/\N0 prog 26=4/\C5 prog 26 0=some (0,9)/\C5 prog 26 1=some (1,3)/\C5 prog 26 2=some (2,3)/\C5 prog 26 3=some (3,9)/\(prog.info? 31).isSome=true/\N0 prog 31=1/\M9 prog 31=some 9/\M9 prog 32=some 75/\C5 prog 34 0=some (0,31)/\C5 prog 34 1=some (1,32)/\M9 prog 36=some 111/\C5 prog 52 0=some (0,22)/\C5 prog 52 1=some (1,4)/\M9 prog 54=some 66/\(prog.info? 66).isSome=true/\N0 prog 66=9/\C5 prog 66 0=some (0,26)/\C5 prog 66 1=some (4,26)/\C5 prog 66 2=some (8,3)/\M9 prog 72=some 78/\M9 prog 73=some 109/\(prog.info? 75).isSome=true/\N0 prog 75=5/\C5 prog 75 0=some (0,9)/\C5 prog 75 1=some (1,72)/\C5 prog 75 2=some (2,31)/\C5 prog 75 3=some (3,73)/\C5 prog 75 4=some (4,31)/\(prog.info? 78).isSome=true/\N0 prog 78=2/\C5 prog 78 0=some (0,9)/\C5 prog 78 1=some (1,4)/\C5 prog 81 0=some (0,40)/\M9 prog 89=some 216/\C5 prog 91 0=some (0,87)/\C5 prog 91 1=some (1,31)/\C5 prog 91 2=some (2,22)/\C5 prog 91 3=some (3,54)/\C5 prog 91 4=some (4,54)/\C5 prog 91 5=some (5,88)/\C5 prog 91 6=some (6,89)/\C5 prog 91 7=some (7,89)/\(prog.info? 95).isSome=true/\N0 prog 95=1/\M9 prog 95=some 4/\M9 prog 104=some 106/\(prog.info? 106).isSome=true/\N0 prog 106=4/\C5 prog 106 0=some (0,3)/\C5 prog 106 1=some (1,2)/\C5 prog 106 2=some (2,9)/\C5 prog 106 3=some (3,104)/\M9 prog 107=some 124/\(prog.info? 109).isSome=true/\N0 prog 109=13/\C5 prog 109 0=some (0,3)/\C5 prog 109 1=some (1,3)/\C5 prog 109 2=some (2,31)/\C5 prog 109 3=some (3,9)/\C5 prog 109 4=some (4,9)/\C5 prog 109 5=some (5,106)/\C5 prog 109 6=some (9,4)/\C5 prog 109 7=some (10,107)/\C5 prog 109 8=some (11,73)/\C5 prog 109 9=some (12,73)/\(prog.info? 111).isSome=true/\N0 prog 111=16/\C5 prog 111 0=some (0,109)/\(prog.info? 114).isSome=true/\N0 prog 114=1/\M9 prog 117=some 263/\C5 prog 119 0=some (0,116)/\C5 prog 119 1=some (1,3)/\C5 prog 119 2=some (2,3)/\C5 prog 119 3=some (3,117)/\C5 prog 119 4=some (4,95)/\(prog.info? 124).isSome=true/\N0 prog 124=6/\C5 prog 124 0=some (0,4)/\C5 prog 124 1=some (1,9)/\C5 prog 124 2=some (2,106)/\M9 prog 134=some 114/\M9 prog 135=some 31/\C5 prog 137 0=some (0,116)/\C5 prog 137 1=some (1,134)/\C5 prog 137 2=some (2,135)/\C5 prog 137 3=some (3,135)/\C5 prog 137 4=some (4,135)/\C5 prog 137 5=some (5,135)/\(prog.info? 150).isSome=true/\N0 prog 150=17/\C5 prog 150 0=some (0,109)/\C5 prog 150 1=some (13,3)/\C5 prog 150 3=some (15,3)/\C5 prog 150 4=some (16,3)/\M9 prog 151=some 150/\C5 prog 153 0=some (0,34)/\C5 prog 153 1=some (2,151)/\C5 prog 153 2=some (3,24)/\C5 prog 153 3=some (4,24)/\(prog.info? 167).isSome=true/\N0 prog 167=1/\C5 prog 171 0=some (0,3)/\C5 prog 195 0=some (0,87)/\C5 prog 195 2=some (2,75)/\C5 prog 195 3=some (7,22)/\C5 prog 195 4=some (8,54)/\M9 prog 203=some 205/\(prog.info? 205).isSome=true/\N0 prog 205=2/\M9 prog 205=none/\bV7 prog 205=some (2,3)/\M9 prog 207=some 210/\(prog.info? 210).isSome=true/\N0 prog 210=3/\C5 prog 210 0=some (0,3)/\C5 prog 210 1=some (1,3)/\C5 prog 210 2=some (2,9)/\(prog.info? 216).isSome=true/\N0 prog 216=1/\M9 prog 216=some 218/\(prog.info? 218).isSome=true/\N0 prog 218=2/\C5 prog 218 0=some (0,3)/\C5 prog 218 1=some (1,3)/\M9 prog 219=none/\bV7 prog 219=some (7,4)/\eqT prog 222=2/\M9 prog 242=some 24/\M9 prog 249=some 95/\(prog.info? 263).isSome=true/\N0 prog 263=3/\C5 prog 263 0=some (0,3)/\C5 prog 263 1=some (1,3)/\C5 prog 263 2=some (2,3)/\C5 prog 268 0=some (0,242)/\C5 prog 268 1=some (1,242)/\C5 prog 295 0=some (0,242)/\C5 prog 295 1=some (1,3)/\M9 prog 314=some 332/\(prog.info? 332).isSome=true/\N0 prog 332=1/\M9 prog 332=some 167:=⟨by kernel_rfl,bj6,by kernel_rfl,aG0,by kernel_rfl,dT6,by kernel_rfl,dI5,by kernel_rfl,by kernel_rfl,bv7,dk1,am4,N6,by kernel_rfl,by kernel_rfl,by kernel_rfl,by kernel_rfl,by kernel_rfl,dl5,by kernel_rfl,by kernel_rfl,by kernel_rfl,by kernel_rfl,by kernel_rfl,by kernel_rfl,by kernel_rfl,by kernel_rfl,aY1,an3,by kernel_rfl,by kernel_rfl,by kernel_rfl,by kernel_rfl,by kernel_rfl,ar9,Q9,by kernel_rfl,by kernel_rfl,by kernel_rfl,by kernel_rfl,by kernel_rfl,bv6,az8,by kernel_rfl,by kernel_rfl,by kernel_rfl,by kernel_rfl,by kernel_rfl,by kernel_rfl,by kernel_rfl,by kernel_rfl,by kernel_rfl,by kernel_rfl,by kernel_rfl,by kernel_rfl,by kernel_rfl,cJ5,by kernel_rfl,by kernel_rfl,bc2,ai9,by kernel_rfl,by kernel_rfl,by kernel_rfl,by kernel_rfl,by kernel_rfl,aL0,ad2,by kernel_rfl,by kernel_rfl,by kernel_rfl,by kernel_rfl,by kernel_rfl,by kernel_rfl,by kernel_rfl,by kernel_rfl,by kernel_rfl,by kernel_rfl,bJ2,ao7,by kernel_rfl,by kernel_rfl,by kernel_rfl,by kernel_rfl,by kernel_rfl,by kernel_rfl,by kernel_rfl,by kernel_rfl,by kernel_rfl,aL1,aa8,by kernel_rfl,by kernel_rfl,by kernel_rfl,by kernel_rfl,by kernel_rfl,by kernel_rfl,by kernel_rfl,by kernel_rfl,by kernel_rfl,by kernel_rfl,by kernel_rfl,Z3,J3,by kernel_rfl,by kernel_rfl,by kernel_rfl,by kernel_rfl,by kernel_rfl,by kernel_rfl,by kernel_rfl,by kernel_rfl,by kernel_rfl,by kernel_rfl,cc0,by kernel_rfl,by kernel_rfl,by kernel_rfl,by kernel_rfl,by kernel_rfl,by kernel_rfl,cB4,bJ5,by kernel_rfl,by kernel_rfl,by kernel_rfl,cB5,bJ6,by kernel_rfl,by kernel_rfl,by kernel_rfl,by kernel_rfl,dl2,by kernel_rfl,dk5,dl3,by kernel_rfl,by kernel_rfl,by kernel_rfl,by kernel_rfl,by kernel_rfl,by kernel_rfl,by kernel_rfl,bJ3,bc3,by kernel_rfl,by kernel_rfl,by kernel_rfl,by kernel_rfl,by kernel_rfl,by kernel_rfl,by kernel_rfl,by kernel_rfl,by kernel_rfl,cB7,by kernel_rfl⟩
def dO1{l:List Value}(h:l.length=2):∃a b,l=[a,b]:=by
 match l,h with
 | [a,b],_=>exact⟨a,b,rfl⟩
def bt4{l:List Value}(h:l.length=4):∃a b c d,l=[a,b,c,d]:=by
 match l,h with
 | [a,b,c,d],_=>exact⟨a,b,c,d,rfl⟩
def aR0{l:List Value}(h:l.length=13):∃a b c d e f g i j k m n o,l=[a,b,c,d,e,f,g,i,j,k,m,n,o]:=by
 match l,h with
 | [a,b,c,d,e,f,g,i,j,k,m,n,o],_=>exact⟨a,b,c,d,e,f,g,i,j,k,m,n,o,rfl⟩
def ds4{h:Hp}{cs:List Value}{x:Pa}:A3.enc h cs x->cs=([p6 x.name]:List Value)++([.bool x.ref]:List Value):=by
 intro a;exact a
def At.pa{h:Hp}{a:Addr}{x:Pa}(i:At h a x):(∀w,B8 h (m8 w)->P9 prog w 9 a (p6 x.name)/\P9 prog w 4 (a.add 1) (.bool x.ref))/\(∀(S:World->Prop) (g:World),S g->(∀w,S w->B8 h (m8 w))->Q7 prog S 9 a (p6 x.name)/\Q7 prog S 4 (a.add 1) (.bool x.ref)):=by
 obtain⟨k,j,e⟩:=i;obtain rfl:=ds4 j;exact⟨λw c=>⟨F4 e rfl Z2 w c,z6 e (o:=1) rfl ah3 w c⟩,λS g f c=>⟨U7 f λd b=>F4 e rfl Z2 d (c d b),U7 f λd b=>z6 e (o:=1) rfl ah3 d (c d b)⟩⟩
def At.pa_v{h:Hp}{a:Addr}{x:Pa}(c:At h a x):∃b,SV h b x/\(∀w,B8 h (m8 w)->P9 prog w 78 a b)/\(∀(S:World->Prop) (d:World),S d->(∀w,S w->B8 h (m8 w))->Q7 prog S 78 a b):=c.sv2 bJ1 bJ7 bv6 az8
def cD9{h:Hp}{v:Value}{x:Pa}{w:World}(hv:SV h v x)(hw:B8 h (m8 w)):∃a b,(Instr.box 78 v).run prog w = .ok (.pointer (some a)) b/\o6 w b/\At (m8 b) a x:=bW0 hv hw
def aV7{h:Hp}{v:Value}{x:Pa}{w:World}(hv:SV h v x)(hw:B8 h (m8 w)):∃a c b,(Instr.alloc 78 true (.tuple #[])).run prog w = .ok (.pointer (some a)) c/\(Instr.storeAt 78 (.pointer (some a)) v).run prog c = .ok () b/\o6 w b/\At (m8 b) a x:=bJ9 hv hw dT8 rfl az8
def ds6{h:Hp}{cs:List Value}{x:Sp}:A3.enc h cs x->cs=([.int .i64 x.src]:List Value)++([.int .i64 x.dst]:List Value)++([.int .i64 x.kind]:List Value):=by
 intro a;exact a
def At.sp{h:Hp}{a:Addr}{x:Sp}(i:At h a x):(∀w,B8 h (m8 w)->P9 prog w 3 a (.int .i64 x.src)/\P9 prog w 3 (a.add 1) (.int .i64 x.dst)/\P9 prog w 3 (a.add 2) (.int .i64 x.kind))/\(∀(S:World->Prop) (g:World),S g->(∀w,S w->B8 h (m8 w))->Q7 prog S 3 a (.int .i64 x.src)/\Q7 prog S 3 (a.add 1) (.int .i64 x.dst)/\Q7 prog S 3 (a.add 2) (.int .i64 x.kind)):=by
 obtain⟨k,j,e⟩:=i;obtain rfl:=ds6 j;exact⟨λw d=>⟨F4 e rfl G3 w d,z6 e (o:=1) rfl G3 w d,z6 e (o:=2) rfl G3 w d⟩,λS g f d=>⟨U7 f λc b=>F4 e rfl G3 c (d c b),U7 f λc b=>z6 e (o:=1) rfl G3 c (d c b),U7 f λc b=>z6 e (o:=2) rfl G3 c (d c b)⟩⟩
def At.sp_v{h:Hp}{a:Addr}{x:Sp}(c:At h a x):∃b,SV h b x/\(∀w,B8 h (m8 w)->P9 prog w 263 a b)/\(∀(S:World->Prop) (d:World),S d->(∀w,S w->B8 h (m8 w))->Q7 prog S 263 a b):=c.sv2 cB3 cB8 bJ3 bc3
def cE0{h:Hp}{v:Value}{x:Sp}{w:World}(hv:SV h v x)(hw:B8 h (m8 w)):∃a b,(Instr.box 263 v).run prog w = .ok (.pointer (some a)) b/\o6 w b/\At (m8 b) a x:=bW0 hv hw
def dx5{h:Hp}{v:Value}{x:Sp}{w:World}(hv:SV h v x)(hw:B8 h (m8 w)):∃a c b,(Instr.alloc 263 true (.tuple #[])).run prog w = .ok (.pointer (some a)) c/\(Instr.storeAt 263 (.pointer (some a)) v).run prog c = .ok () b/\o6 w b/\At (m8 b) a x:=bJ9 hv hw dm6 rfl bc3
def ds3{h:Hp}{cs:List Value}{x:Fw}:A3.enc h cs x->cs=([.int .i64 x.src]:List Value)++([.int .i64 x.dst]:List Value)++([p6 x.var]:List Value):=by
 intro a;exact a
def At.fw{h:Hp}{a:Addr}{x:Fw}(i:At h a x):(∀w,B8 h (m8 w)->P9 prog w 3 a (.int .i64 x.src)/\P9 prog w 3 (a.add 1) (.int .i64 x.dst)/\P9 prog w 9 (a.add 2) (p6 x.var))/\(∀(S:World->Prop) (g:World),S g->(∀w,S w->B8 h (m8 w))->Q7 prog S 3 a (.int .i64 x.src)/\Q7 prog S 3 (a.add 1) (.int .i64 x.dst)/\Q7 prog S 9 (a.add 2) (p6 x.var)):=by
 obtain⟨k,j,e⟩:=i;obtain rfl:=ds3 j;exact⟨λw d=>⟨F4 e rfl G3 w d,z6 e (o:=1) rfl G3 w d,z6 e (o:=2) rfl Z2 w d⟩,λS g f d=>⟨U7 f λc b=>F4 e rfl G3 c (d c b),U7 f λc b=>z6 e (o:=1) rfl G3 c (d c b),U7 f λc b=>z6 e (o:=2) rfl Z2 c (d c b)⟩⟩
def dx3{h:Hp}{v:Value}{x:Fw}{w:World}(hv:SV h v x)(hw:B8 h (m8 w)):∃a c b,(Instr.alloc 210 true (.tuple #[])).run prog w = .ok (.pointer (some a)) c/\(Instr.storeAt 210 (.pointer (some a)) v).run prog c = .ok () b/\o6 w b/\At (m8 b) a x:=bJ9 hv hw dI9 rfl bJ6
def cF4{h:Hp}{cs:List Value}{x:Vx}:A3.enc h cs x->cs=([p6 x.proc]:List Value)++([.int .i64 x.kind]:List Value)++([.int .i64 x.id]:List Value)++([p6 x.slot]:List Value):=by
 intro a;exact a
def At.vx{h:Hp}{a:Addr}{x:Vx}(i:At h a x):(∀w,B8 h (m8 w)->P9 prog w 9 a (p6 x.proc)/\P9 prog w 3 (a.add 1) (.int .i64 x.kind)/\P9 prog w 3 (a.add 2) (.int .i64 x.id)/\P9 prog w 9 (a.add 3) (p6 x.slot))/\(∀(S:World->Prop) (g:World),S g->(∀w,S w->B8 h (m8 w))->Q7 prog S 9 a (p6 x.proc)/\Q7 prog S 3 (a.add 1) (.int .i64 x.kind)/\Q7 prog S 3 (a.add 2) (.int .i64 x.id)/\Q7 prog S 9 (a.add 3) (p6 x.slot)):=by
 obtain⟨k,j,e⟩:=i;obtain rfl:=cF4 j;exact⟨λw d=>⟨F4 e rfl Z2 w d,z6 e (o:=1) rfl G3 w d,z6 e (o:=2) rfl G3 w d,z6 e (o:=3) rfl Z2 w d⟩,λS g f d=>⟨U7 f λc b=>F4 e rfl Z2 c (d c b),U7 f λc b=>z6 e (o:=1) rfl G3 c (d c b),U7 f λc b=>z6 e (o:=2) rfl G3 c (d c b),U7 f λc b=>z6 e (o:=3) rfl Z2 c (d c b)⟩⟩
def I6.vx{h k:Hp}{a:Addr}{v:Value}{x:Vx}(hv:SV h v x)(l:I6 k a v):(∀w,B8 k (m8 w)->P9 prog w 9 a (p6 x.proc)/\P9 prog w 3 (a.add 1) (.int .i64 x.kind)/\P9 prog w 3 (a.add 2) (.int .i64 x.id)/\P9 prog w 9 (a.add 3) (p6 x.slot))/\(∀(S:World->Prop) (g:World),S g->(∀w,S w->B8 k (m8 w))->Q7 prog S 9 a (p6 x.proc)/\Q7 prog S 3 (a.add 1) (.int .i64 x.kind)/\Q7 prog S 3 (a.add 2) (.int .i64 x.id)/\Q7 prog S 9 (a.add 3) (p6 x.slot)):=by
 obtain⟨n,rfl,m⟩:=hv;obtain⟨i,j,e⟩:=l;obtain rfl:=ah6 j;obtain rfl:=cF4 m;exact⟨λw d=>⟨F4 e rfl Z2 w d,z6 e (o:=1) rfl G3 w d,z6 e (o:=2) rfl G3 w d,z6 e (o:=3) rfl Z2 w d⟩,λS g f d=>⟨U7 f λc b=>F4 e rfl Z2 c (d c b),U7 f λc b=>z6 e (o:=1) rfl G3 c (d c b),U7 f λc b=>z6 e (o:=2) rfl G3 c (d c b),U7 f λc b=>z6 e (o:=3) rfl Z2 c (d c b)⟩⟩
def I6.vx_v{h k:Hp}{a:Addr}{v:Value}{x:Vx}(hv:SV h v x)(b:I6 k a v):(∀w,B8 k (m8 w)->P9 prog w 26 a v)/\(∀(S:World->Prop) (c:World),S c->(∀w,S w->B8 k (m8 w))->Q7 prog S 26 a v):=b.whole hv ar8 as0 am4 N6
def aH1{h:Hp}{v:Value}{x:Vx}{w:World}(N:Nat->Prop)(hv:SV h v x)(hN:∀b,N b->b<w.heap.size):∃a c,(Instr.box 26 v).run prog w = .ok (.pointer (some a)) c/\o6 w c/\I6 (C1 c N) a v:=cs4 hv hN
def ap9{h:Hp}{v:Value}{x:Vx}{w:World}(N:Nat->Prop)(hv:SV h v x)(hN:∀b,N b->b<w.heap.size):∃a d c,(Instr.alloc 26 true (.tuple #[])).run prog w = .ok (.pointer (some a)) d/\(Instr.storeAt 26 (.pointer (some a)) v).run prog d = .ok () c/\o6 w c/\I6 (C1 c N) a v:=cp8 hv hN aS3 rfl N6
def At.vx_v{h:Hp}{a:Addr}{x:Vx}(c:At h a x):∃b,SV h b x/\(∀w,B8 h (m8 w)->P9 prog w 26 a b)/\(∀(S:World->Prop) (d:World),S d->(∀w,S w->B8 h (m8 w))->Q7 prog S 26 a b):=c.sv2 ar8 as0 am4 N6
def aL3{h:Hp}{v:Value}{x:Vx}{w:World}(hv:SV h v x)(hw:B8 h (m8 w)):∃a c b,(Instr.alloc 26 true (.tuple #[])).run prog w = .ok (.pointer (some a)) c/\(Instr.storeAt 26 (.pointer (some a)) v).run prog c = .ok () b/\o6 w b/\At (m8 b) a x:=bJ9 hv hw aS3 rfl N6
def cE9{h:Hp}{cs:List Value}{x:Eg}:A3.enc h cs x->∃b a,cs=b++a++([.int .i64 x.kind]:List Value)/\A3.enc h b x.src/\A3.enc h a x.dst:=by
 intro c;exact⟨x.src.cells,x.dst.cells,c,rfl,rfl⟩
def At.eg{h:Hp}{a:Addr}{x:Eg}(B:At h a x):At h a x.src/\At h (a.add 4) x.dst/\(∀w,B8 h (m8 w)->P9 prog w 3 (a.add 8) (.int .i64 x.kind))/\(∀(S:World->Prop) (z:World),S z->(∀w,S w->B8 h (m8 w))->Q7 prog S 3 (a.add 8) (.int .i64 x.kind)):=by
 obtain⟨D,C,q⟩:=B;obtain⟨s,r,rfl,d,c⟩:=cE9 C;obtain⟨k,l,n,p,rfl⟩:=bt4 (A3.len d);obtain⟨e,f,g,i,rfl⟩:=bt4 (A3.len c);exact⟨bd5 q d (λj u b=>by
  match j,b with
  | 0,b=>exact b
  | 1,b=>exact b
  | 2,b=>exact b
  | 3,b=>exact b
  | m+4,b=>simp at b),bx2 q c (λj u b=>by
  match j,b with
  | 0,b=>exact b
  | 1,b=>exact b
  | 2,b=>exact b
  | 3,b=>exact b
  | m+4,b=>simp at b),λw t=>z6 q (o:=8) rfl G3 w t,λS z A t=>U7 A λy v=>z6 q (o:=8) rfl G3 y (t y v)⟩
def I6.eg{h k:Hp}{a:Addr}{v:Value}{x:Eg}(hv:SV h v x)(H:I6 k a v):∃f e,SV h f x.src/\I6 k a f/\SV h e x.dst/\I6 k (a.add 4) e/\(∀w,B8 k (m8 w)->P9 prog w 3 (a.add 8) (.int .i64 x.kind))/\(∀(S:World->Prop) (D:World),S D->(∀w,S w->B8 k (m8 w))->Q7 prog S 3 (a.add 8) (.int .i64 x.kind)):=by
 obtain⟨J,rfl,I⟩:=hv;obtain⟨E,F,t⟩:=H;obtain rfl:=ah6 F;obtain⟨z,y,rfl,d,c⟩:=cE9 I;obtain⟨p,q,r,s,rfl⟩:=bt4 (A3.len d);obtain⟨g,i,l,n,rfl⟩:=bt4 (A3.len c);exact⟨_,_,⟨_,rfl,d⟩,bl0 t (λj u b=>by
  match j,b with
  | 0,b=>exact b
  | 1,b=>exact b
  | 2,b=>exact b
  | 3,b=>exact b
  | m+4,b=>simp at b),⟨_,rfl,c⟩,bd3 t (λj u b=>by
  match j,b with
  | 0,b=>exact b
  | 1,b=>exact b
  | 2,b=>exact b
  | 3,b=>exact b
  | m+4,b=>simp at b),λw A=>z6 t (o:=8) rfl G3 w A,λS D G A=>U7 G λC B=>z6 t (o:=8) rfl G3 C (A C B)⟩
def I6.eg_v{h k:Hp}{a:Addr}{v:Value}{x:Eg}(hv:SV h v x)(b:I6 k a v):(∀w,B8 k (m8 w)->P9 prog w 66 a v)/\(∀(S:World->Prop) (c:World),S c->(∀w,S w->B8 k (m8 w))->Q7 prog S 66 a v):=b.whole hv bv5 bv8 aY1 an3
def cE1{h:Hp}{v:Value}{x:Eg}{w:World}(N:Nat->Prop)(hv:SV h v x)(hN:∀b,N b->b<w.heap.size):∃a c,(Instr.box 66 v).run prog w = .ok (.pointer (some a)) c/\o6 w c/\I6 (C1 c N) a v:=cs4 hv hN
def cc3{h:Hp}{v:Value}{x:Eg}{w:World}(N:Nat->Prop)(hv:SV h v x)(hN:∀b,N b->b<w.heap.size):∃a d c,(Instr.alloc 66 true (.tuple #[])).run prog w = .ok (.pointer (some a)) d/\(Instr.storeAt 66 (.pointer (some a)) v).run prog d = .ok () c/\o6 w c/\I6 (C1 c N) a v:=cp8 hv hN cJ6 rfl an3
def At.eg_v{h:Hp}{a:Addr}{x:Eg}(c:At h a x):∃b,SV h b x/\(∀w,B8 h (m8 w)->P9 prog w 66 a b)/\(∀(S:World->Prop) (d:World),S d->(∀w,S w->B8 h (m8 w))->Q7 prog S 66 a b):=c.sv2 bv5 bv8 aY1 an3
def cF0{h:Hp}{cs:List Value}{x:Ex}:A3.enc h cs x->∃a,cs=([.int .i64 x.op]:List Value)++([.int .i64 x.n]:List Value)++([p6 x.name]:List Value)++([a]:List Value)/\R h a x.kids:=by
 intro c;obtain⟨d,rfl,b⟩:=bC0.1 c;exact⟨d,rfl,b⟩
def At.ex{h:Hp}{a:Addr}{x:Ex}(k:At h a x):∃b,R h b x.kids/\(∀w,B8 h (m8 w)->P9 prog w 3 a (.int .i64 x.op)/\P9 prog w 2 (a.add 1) (.int .i64 x.n)/\P9 prog w 9 (a.add 2) (p6 x.name)/\P9 prog w 104 (a.add 3) b)/\(∀(S:World->Prop) (j:World),S j->(∀w,S w->B8 h (m8 w))->Q7 prog S 3 a (.int .i64 x.op)/\Q7 prog S 2 (a.add 1) (.int .i64 x.n)/\Q7 prog S 9 (a.add 2) (p6 x.name)/\Q7 prog S 104 (a.add 3) b):=by
 obtain⟨m,l,g⟩:=k;obtain⟨b,rfl,e⟩:=cF0 l;exact⟨_,e,λw f=>⟨F4 g rfl G3 w f,z6 g (o:=1) rfl dx1 w f,z6 g (o:=2) rfl Z2 w f,z6 g (o:=3) rfl cb4 w f⟩,λS j i f=>⟨U7 i λd c=>F4 g rfl G3 d (f d c),U7 i λd c=>z6 g (o:=1) rfl dx1 d (f d c),U7 i λd c=>z6 g (o:=2) rfl Z2 d (f d c),U7 i λd c=>z6 g (o:=3) rfl cb4 d (f d c)⟩⟩
def I6.ex{h k:Hp}{a:Addr}{v:Value}{x:Ex}(hv:SV h v x)(n:I6 k a v):∃b,R h b x.kids/\(∀w,B8 k (m8 w)->P9 prog w 3 a (.int .i64 x.op)/\P9 prog w 2 (a.add 1) (.int .i64 x.n)/\P9 prog w 9 (a.add 2) (p6 x.name)/\P9 prog w 104 (a.add 3) b)/\(∀(S:World->Prop) (j:World),S j->(∀w,S w->B8 k (m8 w))->Q7 prog S 3 a (.int .i64 x.op)/\Q7 prog S 2 (a.add 1) (.int .i64 x.n)/\Q7 prog S 9 (a.add 2) (p6 x.name)/\Q7 prog S 104 (a.add 3) b):=by
 obtain⟨q,rfl,p⟩:=hv;obtain⟨l,m,g⟩:=n;obtain rfl:=ah6 m;obtain⟨b,rfl,e⟩:=cF0 p;exact⟨_,e,λw f=>⟨F4 g rfl G3 w f,z6 g (o:=1) rfl dx1 w f,z6 g (o:=2) rfl Z2 w f,z6 g (o:=3) rfl cb4 w f⟩,λS j i f=>⟨U7 i λd c=>F4 g rfl G3 d (f d c),U7 i λd c=>z6 g (o:=1) rfl dx1 d (f d c),U7 i λd c=>z6 g (o:=2) rfl Z2 d (f d c),U7 i λd c=>z6 g (o:=3) rfl cb4 d (f d c)⟩⟩
def I6.ex_v{h k:Hp}{a:Addr}{v:Value}{x:Ex}(hv:SV h v x)(b:I6 k a v):(∀w,B8 k (m8 w)->P9 prog w 106 a v)/\(∀(S:World->Prop) (c:World),S c->(∀w,S w->B8 k (m8 w))->Q7 prog S 106 a v):=b.whole hv bo5 bo9 bc2 ai9
def bx7{h:Hp}{v:Value}{x:Ex}{w:World}(N:Nat->Prop)(hv:SV h v x)(hN:∀b,N b->b<w.heap.size):∃a c,(Instr.box 106 v).run prog w = .ok (.pointer (some a)) c/\o6 w c/\I6 (C1 c N) a v:=cs4 hv hN
def dx6{h:Hp}{v:Value}{x:Ex}{w:World}(N:Nat->Prop)(hv:SV h v x)(hN:∀b,N b->b<w.heap.size):∃a d c,(Instr.alloc 106 true (.tuple #[])).run prog w = .ok (.pointer (some a)) d/\(Instr.storeAt 106 (.pointer (some a)) v).run prog d = .ok () c/\o6 w c/\I6 (C1 c N) a v:=cp8 hv hN cB9 rfl ai9
def At.ex_v{h:Hp}{a:Addr}{x:Ex}(c:At h a x):∃b,SV h b x/\(∀w,B8 h (m8 w)->P9 prog w 106 a b)/\(∀(S:World->Prop) (d:World),S d->(∀w,S w->B8 h (m8 w))->Q7 prog S 106 a b):=c.sv2 bo5 bo9 bc2 ai9
def aS8{h:Hp}{v:Value}{x:Ex}{w:World}(hv:SV h v x)(hw:B8 h (m8 w)):∃a b,(Instr.box 106 v).run prog w = .ok (.pointer (some a)) b/\o6 w b/\At (m8 b) a x:=bW0 hv hw
def dx2{h:Hp}{v:Value}{x:Ex}{w:World}(hv:SV h v x)(hw:B8 h (m8 w)):∃a c b,(Instr.alloc 106 true (.tuple #[])).run prog w = .ok (.pointer (some a)) c/\(Instr.storeAt 106 (.pointer (some a)) v).run prog c = .ok () b/\o6 w b/\At (m8 b) a x:=bJ9 hv hw cB9 rfl ai9
def cE8{h:Hp}{cs:List Value}{x:Ar}:A3.enc h cs x->∃a,cs=([.bool x.ref]:List Value)++([p6 x.name]:List Value)++a/\A3.enc h a x.x:=by
 rintro⟨c,rfl,b⟩;exact⟨c,rfl,b⟩
def At.ar{h:Hp}{a:Addr}{x:Ar}(s:At h a x):At h (a.add 2) x.x/\(∀w,B8 h (m8 w)->P9 prog w 4 a (.bool x.ref)/\P9 prog w 9 (a.add 1) (p6 x.name))/\(∀(S:World->Prop) (q:World),S q->(∀w,S w->B8 h (m8 w))->Q7 prog S 4 a (.bool x.ref)/\Q7 prog S 9 (a.add 1) (p6 x.name)):=by
 obtain⟨v,t,e⟩:=s;obtain⟨r,rfl,d⟩:=cE8 t;obtain⟨i,k,l,n,rfl⟩:=bt4 (A3.len d);exact⟨bx2 e d (λj u b=>by
  match j,b with
  | 0,b=>exact b
  | 1,b=>exact b
  | 2,b=>exact b
  | 3,b=>exact b
  | m+4,b=>simp at b),λw f=>⟨F4 e rfl ah3 w f,z6 e (o:=1) rfl Z2 w f⟩,λS q p f=>⟨U7 p λg c=>F4 e rfl ah3 g (f g c),U7 p λg c=>z6 e (o:=1) rfl Z2 g (f g c)⟩⟩
def I6.ar{h k:Hp}{a:Addr}{v:Value}{x:Ar}(hv:SV h v x)(A:I6 k a v):∃g,SV h g x.x/\I6 k (a.add 2) g/\(∀w,B8 k (m8 w)->P9 prog w 4 a (.bool x.ref)/\P9 prog w 9 (a.add 1) (p6 x.name))/\(∀(S:World->Prop) (s:World),S s->(∀w,S w->B8 k (m8 w))->Q7 prog S 4 a (.bool x.ref)/\Q7 prog S 9 (a.add 1) (p6 x.name)):=by
 obtain⟨C,rfl,B⟩:=hv;obtain⟨y,z,e⟩:=A;obtain rfl:=ah6 z;obtain⟨t,rfl,d⟩:=cE8 B;obtain⟨l,n,p,q,rfl⟩:=bt4 (A3.len d);exact⟨_,⟨_,rfl,d⟩,bd3 e (λj u b=>by
  match j,b with
  | 0,b=>exact b
  | 1,b=>exact b
  | 2,b=>exact b
  | 3,b=>exact b
  | m+4,b=>simp at b),λw f=>⟨F4 e rfl ah3 w f,z6 e (o:=1) rfl Z2 w f⟩,λS s r f=>⟨U7 r λi c=>F4 e rfl ah3 i (f i c),U7 r λi c=>z6 e (o:=1) rfl Z2 i (f i c)⟩⟩
def cJ9{h:Hp}{v:Value}{x:Ar}{w:World}(N:Nat->Prop)(hv:SV h v x)(hN:∀b,N b->b<w.heap.size):∃a d c,(Instr.alloc 124 true (.tuple #[])).run prog w = .ok (.pointer (some a)) d/\(Instr.storeAt 124 (.pointer (some a)) v).run prog d = .ok () c/\o6 w c/\I6 (C1 c N) a v:=cp8 hv hN dm0 rfl aa8
def At.ar_v{h:Hp}{a:Addr}{x:Ar}(c:At h a x):∃b,SV h b x/\(∀w,B8 h (m8 w)->P9 prog w 124 a b)/\(∀(S:World->Prop) (d:World),S d->(∀w,S w->B8 h (m8 w))->Q7 prog S 124 a b):=c.sv2 aS1 aS2 aL1 aa8
def dq3{h:Hp}{v:Value}{x:Ar}{w:World}(hv:SV h v x)(hw:B8 h (m8 w)):∃a b,(Instr.box 124 v).run prog w = .ok (.pointer (some a)) b/\o6 w b/\At (m8 b) a x:=bW0 hv hw
def bj8{h:Hp}{v:Value}{x:Ar}{w:World}(hv:SV h v x)(hw:B8 h (m8 w)):∃a c b,(Instr.alloc 124 true (.tuple #[])).run prog w = .ok (.pointer (some a)) c/\(Instr.storeAt 124 (.pointer (some a)) v).run prog c = .ok () b/\o6 w b/\At (m8 b) a x:=bJ9 hv hw dm0 rfl aa8
def cF3{h:Hp}{cs:List Value}{x:St}:A3.enc h cs x->∃a e b d c,cs=([.int .i64 x.id]:List Value)++([.int .i64 x.kind]:List Value)++([a]:List Value)++([p6 x.name]:List Value)++([p6 x.proc]:List Value)++e++([.bool x.has]:List Value)++([b]:List Value)++([d]:List Value)++([c]:List Value)/\R h a x.labels/\A3.enc h e x.x/\R h b x.args/\R h d x.thn/\R h c x.els:=by
 intro m;obtain⟨p,f,n,q,o,rfl,g,i,j,k,l⟩:=bC1.1 m;exact⟨p,f,n,q,o,by simp,g,i,j,k,l⟩
def At.st{h:Hp}{a:Addr}{x:St}(D:At h a x):∃c e k i,R h c x.labels/\R h e x.args/\R h k x.thn/\R h i x.els/\At h (a.add 5) x.x/\(∀w,B8 h (m8 w)->P9 prog w 3 a (.int .i64 x.id)/\P9 prog w 3 (a.add 1) (.int .i64 x.kind)/\P9 prog w 31 (a.add 2) c/\P9 prog w 9 (a.add 3) (p6 x.name)/\P9 prog w 9 (a.add 4) (p6 x.proc)/\P9 prog w 4 (a.add 9) (.bool x.has)/\P9 prog w 107 (a.add 10) e/\P9 prog w 73 (a.add 11) k/\P9 prog w 73 (a.add 12) i)/\(∀(S:World->Prop) (B:World),S B->(∀w,S w->B8 h (m8 w))->Q7 prog S 3 a (.int .i64 x.id)/\Q7 prog S 3 (a.add 1) (.int .i64 x.kind)/\Q7 prog S 31 (a.add 2) c/\Q7 prog S 9 (a.add 3) (p6 x.name)/\Q7 prog S 9 (a.add 4) (p6 x.proc)/\Q7 prog S 4 (a.add 9) (.bool x.has)/\Q7 prog S 107 (a.add 10) e/\Q7 prog S 73 (a.add 11) k/\Q7 prog S 73 (a.add 12) i):=by
 obtain⟨F,E,f⟩:=D;obtain⟨c,C,e,k,i,rfl,l,t,q,s,r⟩:=cF3 E;obtain⟨v,y,z,A,rfl⟩:=bt4 (A3.len t);exact⟨_,_,_,_,l,q,s,r,bx2 f t (λj u n=>by
  match j,n with
  | 0,n=>exact n
  | 1,n=>exact n
  | 2,n=>exact n
  | 3,n=>exact n
  | m+4,n=>simp at n),λw g=>⟨F4 f rfl G3 w g,z6 f (o:=1) rfl G3 w g,z6 f (o:=2) rfl P8 w g,z6 f (o:=3) rfl Z2 w g,z6 f (o:=4) rfl Z2 w g,z6 f (o:=9) rfl ah3 w g,z6 f (o:=10) rfl cb5 w g,z6 f (o:=11) rfl aM5 w g,z6 f (o:=12) rfl aM5 w g⟩,λS B p g=>⟨U7 p λd b=>F4 f rfl G3 d (g d b),U7 p λd b=>z6 f (o:=1) rfl G3 d (g d b),U7 p λd b=>z6 f (o:=2) rfl P8 d (g d b),U7 p λd b=>z6 f (o:=3) rfl Z2 d (g d b),U7 p λd b=>z6 f (o:=4) rfl Z2 d (g d b),U7 p λd b=>z6 f (o:=9) rfl ah3 d (g d b),U7 p λd b=>z6 f (o:=10) rfl cb5 d (g d b),U7 p λd b=>z6 f (o:=11) rfl aM5 d (g d b),U7 p λd b=>z6 f (o:=12) rfl aM5 d (g d b)⟩⟩
def I6.st{h k:Hp}{a:Addr}{v:Value}{x:St}(hv:SV h v x)(I:I6 k a v):∃c z e l i,R h c x.labels/\SV h z x.x/\I6 k (a.add 5) z/\R h e x.args/\R h l x.thn/\R h i x.els/\(∀w,B8 k (m8 w)->P9 prog w 3 a (.int .i64 x.id)/\P9 prog w 3 (a.add 1) (.int .i64 x.kind)/\P9 prog w 31 (a.add 2) c/\P9 prog w 9 (a.add 3) (p6 x.name)/\P9 prog w 9 (a.add 4) (p6 x.proc)/\P9 prog w 4 (a.add 9) (.bool x.has)/\P9 prog w 107 (a.add 10) e/\P9 prog w 73 (a.add 11) l/\P9 prog w 73 (a.add 12) i)/\(∀(S:World->Prop) (E:World),S E->(∀w,S w->B8 k (m8 w))->Q7 prog S 3 a (.int .i64 x.id)/\Q7 prog S 3 (a.add 1) (.int .i64 x.kind)/\Q7 prog S 31 (a.add 2) c/\Q7 prog S 9 (a.add 3) (p6 x.name)/\Q7 prog S 9 (a.add 4) (p6 x.proc)/\Q7 prog S 4 (a.add 9) (.bool x.has)/\Q7 prog S 107 (a.add 10) e/\Q7 prog S 73 (a.add 11) l/\Q7 prog S 73 (a.add 12) i):=by
 obtain⟨K,rfl,J⟩:=hv;obtain⟨G,H,f⟩:=I;obtain rfl:=ah6 H;obtain⟨c,F,e,l,i,rfl,n,y,r,t,s⟩:=cF3 J;obtain⟨A,B,C,D,rfl⟩:=bt4 (A3.len y);exact⟨_,_,_,_,_,n,⟨_,rfl,y⟩,bd3 f (λj u p=>by
  match j,p with
  | 0,p=>exact p
  | 1,p=>exact p
  | 2,p=>exact p
  | 3,p=>exact p
  | m+4,p=>simp at p),r,t,s,λw g=>⟨F4 f rfl G3 w g,z6 f (o:=1) rfl G3 w g,z6 f (o:=2) rfl P8 w g,z6 f (o:=3) rfl Z2 w g,z6 f (o:=4) rfl Z2 w g,z6 f (o:=9) rfl ah3 w g,z6 f (o:=10) rfl cb5 w g,z6 f (o:=11) rfl aM5 w g,z6 f (o:=12) rfl aM5 w g⟩,λS E q g=>⟨U7 q λd b=>F4 f rfl G3 d (g d b),U7 q λd b=>z6 f (o:=1) rfl G3 d (g d b),U7 q λd b=>z6 f (o:=2) rfl P8 d (g d b),U7 q λd b=>z6 f (o:=3) rfl Z2 d (g d b),U7 q λd b=>z6 f (o:=4) rfl Z2 d (g d b),U7 q λd b=>z6 f (o:=9) rfl ah3 d (g d b),U7 q λd b=>z6 f (o:=10) rfl cb5 d (g d b),U7 q λd b=>z6 f (o:=11) rfl aM5 d (g d b),U7 q λd b=>z6 f (o:=12) rfl aM5 d (g d b)⟩⟩
def I6.st_v{h k:Hp}{a:Addr}{v:Value}{x:St}(hv:SV h v x)(b:I6 k a v):(∀w,B8 k (m8 w)->P9 prog w 109 a v)/\(∀(S:World->Prop) (c:World),S c->(∀w,S w->B8 k (m8 w))->Q7 prog S 109 a v):=b.whole hv bc0 bc4 aL0 ad2
def cE3{h:Hp}{v:Value}{x:St}{w:World}(N:Nat->Prop)(hv:SV h v x)(hN:∀b,N b->b<w.heap.size):∃a c,(Instr.box 109 v).run prog w = .ok (.pointer (some a)) c/\o6 w c/\I6 (C1 c N) a v:=cs4 hv hN
def dx7{h:Hp}{v:Value}{x:St}{w:World}(N:Nat->Prop)(hv:SV h v x)(hN:∀b,N b->b<w.heap.size):∃a d c,(Instr.alloc 109 true (.tuple #[])).run prog w = .ok (.pointer (some a)) d/\(Instr.storeAt 109 (.pointer (some a)) v).run prog d = .ok () c/\o6 w c/\I6 (C1 c N) a v:=cp8 hv hN cC0 rfl ad2
def At.st_v{h:Hp}{a:Addr}{x:St}(c:At h a x):∃b,SV h b x/\(∀w,B8 h (m8 w)->P9 prog w 109 a b)/\(∀(S:World->Prop) (d:World),S d->(∀w,S w->B8 h (m8 w))->Q7 prog S 109 a b):=c.sv2 bc0 bc4 aL0 ad2
def au2{h:Hp}{v:Value}{x:St}{w:World}(hv:SV h v x)(hw:B8 h (m8 w)):∃a b,(Instr.box 109 v).run prog w = .ok (.pointer (some a)) b/\o6 w b/\At (m8 b) a x:=bW0 hv hw
def bj9{h:Hp}{v:Value}{x:St}{w:World}(hv:SV h v x)(hw:B8 h (m8 w)):∃a c b,(Instr.alloc 109 true (.tuple #[])).run prog w = .ok (.pointer (some a)) c/\(Instr.storeAt 109 (.pointer (some a)) v).run prog c = .ok () b/\o6 w b/\At (m8 b) a x:=bJ9 hv hw cC0 rfl ad2
def cF2{h:Hp}{cs:List Value}{x:Pr}:A3.enc h cs x->∃a c b d,cs=([p6 x.name]:List Value)++([a]:List Value)++([c]:List Value)++([b]:List Value)++([d]:List Value)/\R h a x.params/\R h c x.vars/\R h b x.body/\R h d x.fin:=by
 rintro⟨j,k,l,m,rfl,e,f,g,i⟩;exact⟨j,k,l,m,rfl,e,f,g,i⟩
def At.pr{h:Hp}{a:Addr}{x:Pr}(r:At h a x):∃b d c f,R h b x.params/\R h d x.vars/\R h c x.body/\R h f x.fin/\(∀w,B8 h (m8 w)->P9 prog w 9 a (p6 x.name)/\P9 prog w 72 (a.add 1) b/\P9 prog w 31 (a.add 2) d/\P9 prog w 73 (a.add 3) c/\P9 prog w 31 (a.add 4) f)/\(∀(S:World->Prop) (q:World),S q->(∀w,S w->B8 h (m8 w))->Q7 prog S 9 a (p6 x.name)/\Q7 prog S 72 (a.add 1) b/\Q7 prog S 31 (a.add 2) d/\Q7 prog S 73 (a.add 3) c/\Q7 prog S 31 (a.add 4) f):=by
 obtain⟨t,s,k⟩:=r;obtain⟨b,d,c,f,rfl,i,m,l,n⟩:=cF2 s;exact⟨_,_,_,_,i,m,l,n,λw j=>⟨F4 k rfl Z2 w j,z6 k (o:=1) rfl cJ4 w j,z6 k (o:=2) rfl P8 w j,z6 k (o:=3) rfl aM5 w j,z6 k (o:=4) rfl P8 w j⟩,λS q p j=>⟨U7 p λg e=>F4 k rfl Z2 g (j g e),U7 p λg e=>z6 k (o:=1) rfl cJ4 g (j g e),U7 p λg e=>z6 k (o:=2) rfl P8 g (j g e),U7 p λg e=>z6 k (o:=3) rfl aM5 g (j g e),U7 p λg e=>z6 k (o:=4) rfl P8 g (j g e)⟩⟩
def I6.pr{h k:Hp}{a:Addr}{v:Value}{x:Pr}(hv:SV h v x)(u:I6 k a v):∃b d c f,R h b x.params/\R h d x.vars/\R h c x.body/\R h f x.fin/\(∀w,B8 k (m8 w)->P9 prog w 9 a (p6 x.name)/\P9 prog w 72 (a.add 1) b/\P9 prog w 31 (a.add 2) d/\P9 prog w 73 (a.add 3) c/\P9 prog w 31 (a.add 4) f)/\(∀(S:World->Prop) (r:World),S r->(∀w,S w->B8 k (m8 w))->Q7 prog S 9 a (p6 x.name)/\Q7 prog S 72 (a.add 1) b/\Q7 prog S 31 (a.add 2) d/\Q7 prog S 73 (a.add 3) c/\Q7 prog S 31 (a.add 4) f):=by
 obtain⟨z,rfl,y⟩:=hv;obtain⟨s,t,l⟩:=u;obtain rfl:=ah6 t;obtain⟨b,d,c,f,rfl,i,n,m,p⟩:=cF2 y;exact⟨_,_,_,_,i,n,m,p,λw j=>⟨F4 l rfl Z2 w j,z6 l (o:=1) rfl cJ4 w j,z6 l (o:=2) rfl P8 w j,z6 l (o:=3) rfl aM5 w j,z6 l (o:=4) rfl P8 w j⟩,λS r q j=>⟨U7 q λg e=>F4 l rfl Z2 g (j g e),U7 q λg e=>z6 l (o:=1) rfl cJ4 g (j g e),U7 q λg e=>z6 l (o:=2) rfl P8 g (j g e),U7 q λg e=>z6 l (o:=3) rfl aM5 g (j g e),U7 q λg e=>z6 l (o:=4) rfl P8 g (j g e)⟩⟩
def I6.pr_v{h k:Hp}{a:Addr}{v:Value}{x:Pr}(hv:SV h v x)(b:I6 k a v):(∀w,B8 k (m8 w)->P9 prog w 75 a v)/\(∀(S:World->Prop) (c:World),S c->(∀w,S w->B8 k (m8 w))->Q7 prog S 75 a v):=b.whole hv at8 at9 ar9 Q9
def cE2{h:Hp}{v:Value}{x:Pr}{w:World}(N:Nat->Prop)(hv:SV h v x)(hN:∀b,N b->b<w.heap.size):∃a c,(Instr.box 75 v).run prog w = .ok (.pointer (some a)) c/\o6 w c/\I6 (C1 c N) a v:=cs4 hv hN
def aL4{h:Hp}{v:Value}{x:Pr}{w:World}(N:Nat->Prop)(hv:SV h v x)(hN:∀b,N b->b<w.heap.size):∃a d c,(Instr.alloc 75 true (.tuple #[])).run prog w = .ok (.pointer (some a)) d/\(Instr.storeAt 75 (.pointer (some a)) v).run prog d = .ok () c/\o6 w c/\I6 (C1 c N) a v:=cp8 hv hN dm7 rfl Q9
def bx6{h:Hp}{v:Value}{x:Pr}{w:World}(hv:SV h v x)(hw:B8 h (m8 w)):∃a b,(Instr.box 75 v).run prog w = .ok (.pointer (some a)) b/\o6 w b/\At (m8 b) a x:=bW0 hv hw
def aV8{h:Hp}{v:Value}{x:Pr}{w:World}(hv:SV h v x)(hw:B8 h (m8 w)):∃a c b,(Instr.alloc 75 true (.tuple #[])).run prog w = .ok (.pointer (some a)) c/\(Instr.storeAt 75 (.pointer (some a)) v).run prog c = .ok () b/\o6 w b/\At (m8 b) a x:=bJ9 hv hw dm7 rfl Q9
def bX1{h:Hp}{cs:List Value}{x:Pg}:A3.enc h cs x->∃a b,cs=([a]:List Value)++([b]:List Value)/\R h a x.globals/\R h b x.procs:=by
 rintro⟨e,f,rfl,c,d⟩;exact⟨e,f,rfl,c,d⟩
def At.pg{h:Hp}{a:Addr}{x:Pg}(m:At h a x):∃b c,R h b x.globals/\R h c x.procs/\(∀w,B8 h (m8 w)->P9 prog w 31 a b/\P9 prog w 32 (a.add 1) c)/\(∀(S:World->Prop) (l:World),S l->(∀w,S w->B8 h (m8 w))->Q7 prog S 31 a b/\Q7 prog S 32 (a.add 1) c):=by
 obtain⟨p,n,j⟩:=m;obtain⟨b,c,rfl,d,e⟩:=bX1 n;exact⟨_,_,d,e,λw g=>⟨F4 j rfl P8 w g,z6 j (o:=1) rfl cp4 w g⟩,λS l k g=>⟨U7 k λi f=>F4 j rfl P8 i (g i f),U7 k λi f=>z6 j (o:=1) rfl cp4 i (g i f)⟩⟩
def I6.pg{h k:Hp}{a:Addr}{v:Value}{x:Pg}(hv:SV h v x)(q:I6 k a v):∃b c,R h b x.globals/\R h c x.procs/\(∀w,B8 k (m8 w)->P9 prog w 31 a b/\P9 prog w 32 (a.add 1) c)/\(∀(S:World->Prop) (m:World),S m->(∀w,S w->B8 k (m8 w))->Q7 prog S 31 a b/\Q7 prog S 32 (a.add 1) c):=by
 obtain⟨s,rfl,r⟩:=hv;obtain⟨n,p,j⟩:=q;obtain rfl:=ah6 p;obtain⟨b,c,rfl,d,e⟩:=bX1 r;exact⟨_,_,d,e,λw g=>⟨F4 j rfl P8 w g,z6 j (o:=1) rfl cp4 w g⟩,λS m l g=>⟨U7 l λi f=>F4 j rfl P8 i (g i f),U7 l λi f=>z6 j (o:=1) rfl cp4 i (g i f)⟩⟩
def I6.pg_v{h k:Hp}{a:Addr}{v:Value}{x:Pg}(hv:SV h v x)(b:I6 k a v):(∀w,B8 k (m8 w)->P9 prog w 34 a v)/\(∀(S:World->Prop) (c:World),S c->(∀w,S w->B8 k (m8 w))->Q7 prog S 34 a v):=b.whole hv dk4 dl8 dk6 cp6
def W9{h:Hp}{v:Value}{x:Pg}{w:World}(N:Nat->Prop)(hv:SV h v x)(hN:∀b,N b->b<w.heap.size):∃a c,(Instr.box 34 v).run prog w = .ok (.pointer (some a)) c/\o6 w c/\I6 (C1 c N) a v:=cs4 hv hN
def At.pg_v{h:Hp}{a:Addr}{x:Pg}(c:At h a x):∃b,SV h b x/\(∀w,B8 h (m8 w)->P9 prog w 34 a b)/\(∀(S:World->Prop) (d:World),S d->(∀w,S w->B8 h (m8 w))->Q7 prog S 34 a b):=c.sv2 dk4 dl8 dk6 cp6
def Q4{h:Hp}{v:Value}{x:Pg}{w:World}(hv:SV h v x)(hw:B8 h (m8 w)):∃a b,(Instr.box 34 v).run prog w = .ok (.pointer (some a)) b/\o6 w b/\At (m8 b) a x:=bW0 hv hw
def dx4{h:Hp}{v:Value}{x:Pg}{w:World}(hv:SV h v x)(hw:B8 h (m8 w)):∃a c b,(Instr.alloc 34 true (.tuple #[])).run prog w = .ok (.pointer (some a)) c/\(Instr.storeAt 34 (.pointer (some a)) v).run prog c = .ok () b/\o6 w b/\At (m8 b) a x:=bJ9 hv hw dC9 rfl cp6
def aT1{h:Hp}{cs:List Value}{x:It}:A3.enc h cs x->∃a,cs=a++([.int .i64 x.proc]:List Value)++([.int .i64 x.up]:List Value)++([.int .i64 x.next]:List Value)++([.int .i64 x.loop]:List Value)/\A3.enc h a x.s:=by
 rintro⟨c,rfl,b⟩;exact⟨c,by simp,b⟩
def At.it{h:Hp}{a:Addr}{x:It}(E:At h a x):At h a x.s/\(∀w,B8 h (m8 w)->P9 prog w 3 (a.add 13) (.int .i64 x.proc)/\P9 prog w 3 (a.add 14) (.int .i64 x.up)/\P9 prog w 3 (a.add 15) (.int .i64 x.next)/\P9 prog w 3 (a.add 16) (.int .i64 x.loop))/\(∀(S:World->Prop) (C:World),S C->(∀w,S w->B8 h (m8 w))->Q7 prog S 3 (a.add 13) (.int .i64 x.proc)/\Q7 prog S 3 (a.add 14) (.int .i64 x.up)/\Q7 prog S 3 (a.add 15) (.int .i64 x.next)/\Q7 prog S 3 (a.add 16) (.int .i64 x.loop)):=by
 obtain⟨G,F,e⟩:=E;obtain⟨D,rfl,g⟩:=aT1 F;obtain⟨p,q,r,s,t,v,y,z,A,B,k,l,n,rfl⟩:=aR0 (A3.len g);exact⟨bd5 e g (λj u b=>by
  match j,b with
  | 0,b=>exact b
  | 1,b=>exact b
  | 2,b=>exact b
  | 3,b=>exact b
  | 4,b=>exact b
  | 5,b=>exact b
  | 6,b=>exact b
  | 7,b=>exact b
  | 8,b=>exact b
  | 9,b=>exact b
  | 10,b=>exact b
  | 11,b=>exact b
  | 12,b=>exact b
  | m+13,b=>simp at b),λw f=>⟨z6 e (o:=13) rfl G3 w f,z6 e (o:=14) rfl G3 w f,z6 e (o:=15) rfl G3 w f,z6 e (o:=16) rfl G3 w f⟩,λS C i f=>⟨U7 i λd c=>z6 e (o:=13) rfl G3 d (f d c),U7 i λd c=>z6 e (o:=14) rfl G3 d (f d c),U7 i λd c=>z6 e (o:=15) rfl G3 d (f d c),U7 i λd c=>z6 e (o:=16) rfl G3 d (f d c)⟩⟩
def I6.it{h k:Hp}{a:Addr}{v:Value}{x:It}(hv:SV h v x)(J:I6 k a v):∃i,SV h i x.s/\I6 k a i/\(∀w,B8 k (m8 w)->P9 prog w 3 (a.add 13) (.int .i64 x.proc)/\P9 prog w 3 (a.add 14) (.int .i64 x.up)/\P9 prog w 3 (a.add 15) (.int .i64 x.next)/\P9 prog w 3 (a.add 16) (.int .i64 x.loop))/\(∀(S:World->Prop) (F:World),S F->(∀w,S w->B8 k (m8 w))->Q7 prog S 3 (a.add 13) (.int .i64 x.proc)/\Q7 prog S 3 (a.add 14) (.int .i64 x.up)/\Q7 prog S 3 (a.add 15) (.int .i64 x.next)/\Q7 prog S 3 (a.add 16) (.int .i64 x.loop)):=by
 obtain⟨L,rfl,K⟩:=hv;obtain⟨H,I,e⟩:=J;obtain rfl:=ah6 I;obtain⟨G,rfl,g⟩:=aT1 K;obtain⟨r,s,t,y,z,A,B,C,D,E,n,p,q,rfl⟩:=aR0 (A3.len g);exact⟨_,⟨_,rfl,g⟩,bl0 e (λj u b=>by
  match j,b with
  | 0,b=>exact b
  | 1,b=>exact b
  | 2,b=>exact b
  | 3,b=>exact b
  | 4,b=>exact b
  | 5,b=>exact b
  | 6,b=>exact b
  | 7,b=>exact b
  | 8,b=>exact b
  | 9,b=>exact b
  | 10,b=>exact b
  | 11,b=>exact b
  | 12,b=>exact b
  | m+13,b=>simp at b),λw f=>⟨z6 e (o:=13) rfl G3 w f,z6 e (o:=14) rfl G3 w f,z6 e (o:=15) rfl G3 w f,z6 e (o:=16) rfl G3 w f⟩,λS F l f=>⟨U7 l λd c=>z6 e (o:=13) rfl G3 d (f d c),U7 l λd c=>z6 e (o:=14) rfl G3 d (f d c),U7 l λd c=>z6 e (o:=15) rfl G3 d (f d c),U7 l λd c=>z6 e (o:=16) rfl G3 d (f d c)⟩⟩
def I6.it_v{h k:Hp}{a:Addr}{v:Value}{x:It}(hv:SV h v x)(b:I6 k a v):(∀w,B8 k (m8 w)->P9 prog w 150 a v)/\(∀(S:World->Prop) (c:World),S c->(∀w,S w->B8 k (m8 w))->Q7 prog S 150 a v):=b.whole hv aa7 aa9 Z3 J3
def dq4{h:Hp}{v:Value}{x:It}{w:World}(N:Nat->Prop)(hv:SV h v x)(hN:∀b,N b->b<w.heap.size):∃a c,(Instr.box 150 v).run prog w = .ok (.pointer (some a)) c/\o6 w c/\I6 (C1 c N) a v:=cs4 hv hN
def aV9{h:Hp}{v:Value}{x:It}{w:World}(N:Nat->Prop)(hv:SV h v x)(hN:∀b,N b->b<w.heap.size):∃a d c,(Instr.alloc 150 true (.tuple #[])).run prog w = .ok (.pointer (some a)) d/\(Instr.storeAt 150 (.pointer (some a)) v).run prog d = .ok () c/\o6 w c/\I6 (C1 c N) a v:=cp8 hv hN cC1 rfl J3
def cD8{h:Hp}{v:Value}{x:It}{w:World}(hv:SV h v x)(hw:B8 h (m8 w)):∃a b,(Instr.box 150 v).run prog w = .ok (.pointer (some a)) b/\o6 w b/\At (m8 b) a x:=bW0 hv hw
def ap8{h:Hp}{v:Value}{x:It}{w:World}(hv:SV h v x)(hw:B8 h (m8 w)):∃a c b,(Instr.alloc 150 true (.tuple #[])).run prog w = .ok (.pointer (some a)) c/\(Instr.storeAt 150 (.pointer (some a)) v).run prog c = .ok () b/\o6 w b/\At (m8 b) a x:=bJ9 hv hw cC1 rfl J3
def ds5{h:Hp}{cs:List Value}{x:Sh}:A3.enc h cs x->∃d e b a,cs=d++([e]:List Value)++([b]:List Value)++([a]:List Value)/\A3.enc h d x.p/\R h e x.l/\R h b x.lo/\R h a x.hi:=by
 rintro⟨c,k,l,m,rfl,f,g,i,j⟩;exact⟨c,k,l,m,by simp,f,g,i,j⟩
def At.sh{h:Hp}{a:Addr}{x:Sh}(z:At h a x):∃e c b,R h e x.l/\R h c x.lo/\R h b x.hi/\At h a x.p/\(∀w,B8 h (m8 w)->P9 prog w 151 (a.add 2) e/\P9 prog w 24 (a.add 3) c/\P9 prog w 24 (a.add 4) b)/\(∀(S:World->Prop) (v:World),S v->(∀w,S w->B8 h (m8 w))->Q7 prog S 151 (a.add 2) e/\Q7 prog S 24 (a.add 3) c/\Q7 prog S 24 (a.add 4) b):=by
 obtain⟨B,A,g⟩:=z;obtain⟨y,e,c,b,rfl,p,r,n,l⟩:=ds5 A;obtain⟨s,t,rfl⟩:=dO1 (A3.len p);exact⟨_,_,_,r,n,l,bd5 g p (λj u i=>by
  match j,i with
  | 0,i=>exact i
  | 1,i=>exact i
  | m+2,i=>simp at i),λw k=>⟨z6 g (o:=2) rfl bo6 w k,z6 g (o:=3) rfl ah2 w k,z6 g (o:=4) rfl ah2 w k⟩,λS v q k=>⟨U7 q λf d=>z6 g (o:=2) rfl bo6 f (k f d),U7 q λf d=>z6 g (o:=3) rfl ah2 f (k f d),U7 q λf d=>z6 g (o:=4) rfl ah2 f (k f d)⟩⟩
def aI7(c:UInt8):Bool:=decide (97<=c.toNat)&&decide (c.toNat<=122)
def bW9(c:UInt8):Bool:=decide (48<=c.toNat)&&decide (c.toNat<=57)
def ah9(c:UInt8):Bool:=aI7 c||bW9 c
def cC6:List A9:=[ofA #[103,108,111,98,97,108],ofA #[112,114,111,99],ofA #[118,97,114],ofA #[114,101,102],ofA #[105,102],ofA #[101,108,115,101],ofA #[119,104,105,108,101],ofA #[98,114,101,97,107],ofA #[99,111,110,116,105,110,117,101],ofA #[114,101,116,117,114,110],ofA #[103,111,116,111],ofA #[114,101,97,100],ofA #[112,114,105,110,116]]
def cq4(s:A9):Bool:=cC6.contains s
def T8(s:A9):Bool:=match s.b with
 | []=>false
 | c::l=>decide (l.length<8)&&aI7 c&&l.all ah9 && !cq4 s
def ai4(l:List A9):Bool:=l.all T8
def aE5(op:Int):Int:=if op=1\/op=2 then 0 else if op=3\/op=4 then 1 else if 5<=op/\op<=17 then 2 else -1
def ae8:Nat->Ex->Bool
 | 0,_=>false
 | n+1,x=>if(x.kids.length:Int)≠aE5 x.op then false
   else if x.op=1 then decide (0<=x.n)&&decide (x.name=e0)
   else if x.op=2 then decide (x.n=0)&&T8 x.name
   else if x.n≠0\/x.name≠e0 then false
   else x.kids.all (ae8 n)
def dg7(x:Ex):Bool:=decide (x.op=0)&&decide (x.n=0)&&decide (x.name=e0)&&decide (x.kids.length=0)
def ac9(s:A9)(b:Bool):Bool:=(b&&T8 s)||(!b&&decide (s=e0))
def ao8(x:Ex)(b:Bool):Bool:=(b&&ae8 20 x)||(!b&&dg7 x)
def aT5(l:List Ar):Bool:=l.all λa=>ac9 a.name a.ref&&ao8 a.x (!a.ref)
structure Fl where
 name:Bool
 proc:Bool
 x:Bool
 has:Bool
 thn:Bool
 els:Bool
def X0(s:St):Option Fl:=
 if s.kind=1 then some ⟨true,false,true,s.has,false,false⟩
 else if s.kind=2\/s.kind=10 then some ⟨true,false,false,s.has,false,false⟩
 else if s.kind=3 then some ⟨false,false,true,s.has,false,false⟩
 else if s.kind=4 then some ⟨decide (s.name≠e0),true,false,s.has,false,false⟩
 else if s.kind=5 then some ⟨false,false,true,s.has,true,true⟩
 else if s.kind=6 then some ⟨false,false,true,s.has,true,false⟩
 else if s.kind=9 then some ⟨false,false,s.has,false,false,false⟩
 else if s.kind=7\/s.kind=8 then some ⟨false,false,false,s.has,false,false⟩
 else none
def R3(s:St):Bool:=match X0 s with
 | none=>false
 | some k=>!(k.has||(!k.thn&&decide (0<s.thn.length))||(!k.els&&decide (0<s.els.length))||(!decide (s.kind=4)&&decide (0<s.args.length))) &&
   ac9 s.name k.name&&ac9 s.proc k.proc&&ao8 s.x k.x&&aT5 s.args
def I4:Nat->List St->Int->Option Int
 | 0,l,n=>if l.length=0 then some n else none
 | d+1,l,n=>l.foldlM (λn s=>if n+1>200\/s.id≠n+1\/ai4 s.labels=false\/R3 s=false then none else(I4 d s.thn (n+1)).bind λm=>I4 d s.els m) n
def X6(f:Pr)(n:Int):Option Int:=
 if f.params.length>8\/f.vars.length>16\/T8 f.name=false\/ai4 f.vars=false\/ai4 f.fin=false\/(f.params.all λa=>T8 a.name)=false then none else I4 12 f.body n
def M8(p:Pg):Bool:=decide (p.globals.length<=16)&&decide (p.procs.length<=16)&&ai4 p.globals&&(p.procs.foldlM (λn f=>X6 f n) 0).isSome
mutual
def ap3:Ex->List A9->List A9
 | .mk op _ name kids,out=>au5 kids (if op=2/\out.contains name=false then out++[name]else out)
def au5:List Ex->List A9->List A9
 | [],out=>out
 | x::xs,out=>au5 xs (ap3 x out)
end
def ai5(x:Ex):List A9:=if ae8 20 x then ap3 x []else[]
mutual
def X7:St->Nat
 | .mk _ _ _ _ _ _ _ _ thn els=>1+A7 thn+A7 els
def A7:List St->Nat
 | []=>0
 | t::l=>X7 t+A7 l
end
def az4(t:St):X7 t=1+A7 t.thn+A7 t.els:=by
 cases t;simp only[X7,St.thn,St.els]
def bS9(t:St):0<X7 t:=by rw[az4];omega
def aZ4:∀(l m:List St),A7 (l++m)=A7 l+A7 m
 | [],m=>by simp[A7]
 | s::l,m=>by rw[er0,A7,A7,aZ4 l m];omega
def V9:∀(l:List St),l.length<=A7 l
 | []=>by simp
 | s::l=>by have:=V9 l;have:=bS9 s;rw[A7,ei2];omega
def wtT(s:A9):Nat:=1+s.b.length
def aG4:List A9->Nat
 | []=>0
 | s::l=>wtT s+aG4 l
mutual
def Y0:Ex->Nat
 | .mk _ _ name kids=>wtT name+aA0 kids
def aA0:List Ex->Nat
 | []=>0
 | x::l=>Y0 x+aA0 l
end
def at0(a:Ar):Nat:=Y0 a.x+wtT a.name
def ah4:List Ar->Nat
 | []=>0
 | a::l=>at0 a+ah4 l
mutual
def U1:St->Nat
 | .mk _ _ labels name proc x _ args thn els=>Y0 x+aG4 labels+wtT name+wtT proc+ah4 args+J4 thn+J4 els
def J4:List St->Nat
 | []=>0
 | x::l=>U1 x+J4 l
end
def bK6:List Pa->Nat
 | []=>0
 | a::l=>wtT a.name+bK6 l
def ab0(f:Pr):Nat:=wtT f.name+aG4 f.vars+aG4 f.fin+bK6 f.params+J4 f.body
def aM8:List Pr->Nat
 | []=>0
 | f::l=>ab0 f+aM8 l
def B7(p:Pg):Nat:=aG4 p.globals+aM8 p.procs
def Z7:∀(l:List A9),l.length<=aG4 l
 | []=>by simp[aG4]
 | s::l=>by have:=Z7 l;simp only[aG4,wtT,ei2];omega
def aS5(x:Ex):1<=Y0 x:=by cases x;simp only[Y0,wtT];omega
def bU2:∀(l:List Ex),l.length<=aA0 l
 | []=>by simp[aA0]
 | s::l=>by have:=bU2 l;have:=aS5 s;simp only[aA0,ei2];omega
def bp8:∀{l:List Ex} {s:Ex},s∈l->Y0 s<=aA0 l
 | t::l,s,h=>by
  simp only[aA0];rcases eh0.1 h with rfl|h
  .omega
  .have:=bp8 h;omega
def cc9(x:Ex):Y0 x=wtT x.name+aA0 x.kids:=by cases x;simp only[Y0,Ex.name,Ex.kids]
def aw7:∀(l:List Ar),l.length<=ah4 l
 | []=>by simp[ah4]
 | s::l=>by have:=aw7 l;have:=aS5 s.x;simp only[ah4,at0,ei2];omega
def aW2:∀{l:List Ar} {s:Ar},s∈l->at0 s<=ah4 l
 | t::l,s,h=>by
  simp only[ah4];rcases eh0.1 h with rfl|h
  .omega
  .have:=aW2 h;omega
def V7(s:St):U1 s=Y0 s.x+aG4 s.labels+wtT s.name+wtT s.proc+ah4 s.args+J4 s.thn+J4 s.els:=by
 cases s;simp only[U1,St.x,St.labels,St.name,St.proc,St.args,St.thn,St.els]
def cq6(s:St):3<=U1 s:=by rw[V7];have:=aS5 s.x;simp only[wtT];omega
def bU7:∀(l:List St),3*l.length<=J4 l
 | []=>by simp[J4]
 | s::l=>by have:=bU7 l;have:=cq6 s;simp only[J4,ei2];omega
def ap0:∀{l:List St} {s:St},s∈l->U1 s<=J4 l
 | t::l,s,h=>by
  simp only[J4];rcases eh0.1 h with rfl|h
  .omega
  .have:=ap0 h;omega
def ao9:∀(l:List Pa),l.length<=bK6 l
 | []=>by simp[bK6]
 | s::l=>by have:=ao9 l;simp only[bK6,wtT,ei2];omega
def ak3:∀(l:List Pr),l.length<=aM8 l
 | []=>by simp[aM8]
 | s::l=>by have:=ak3 l;simp only[aM8,ab0,wtT,ei2];omega
def aw8:∀{l:List Pr} {s:Pr},s∈l->ab0 s<=aM8 l
 | t::l,s,h=>by
  simp only[aM8];rcases eh0.1 h with rfl|h
  .omega
  .have:=aw8 h;omega
mutual
def bU6:∀(s:St),3*X7 s<=U1 s
 | .mk _ _ labels name proc x _ args thn els=>by
  have a:=aA1 thn;have b:=aA1 els;have c:=aS5 x;simp only[X7,U1,wtT];omega
def aA1:∀(l:List St),3*A7 l<=J4 l
 | []=>by simp[A7,J4]
 | s::l=>by
  have a:=bU6 s;have b:=aA1 l;simp only[A7,J4];omega
end
def er9:=@Bool.or_true
def er8:=@Bool.true_or
def eg3:=@Nat.zero_le
def ek8:=@decide_eq_decide
def zJ{a b:Prop}(x:a)(y:b):a/\b:=⟨x,y⟩
def n8:=zJ (zJ (zJ (zJ (zJ (zJ @by6 @dV2) (zJ @dU5 (zJ @dK9 @dU8))) (zJ (zJ @dU9 @dU6) (zJ @dU7 (zJ @dY7 @dY3)))) (zJ (zJ (zJ @dS4 @dY4) (zJ @dY5 (zJ @dM1 @dJ6))) (zJ (zJ @dM2 @dM3) (zJ @dX0 (zJ @dW9 @dV4))))) (zJ (zJ (zJ (zJ @dY9 @ec9) (zJ @dK7 (zJ @dX9 @dK8))) (zJ (zJ @dY0 @eb4) (zJ @ed4 (zJ @dv3 @dQ4)))) (zJ (zJ (zJ @dv4 @dQ5) (zJ @dQ6 (zJ @dG4 @dA9))) (zJ (zJ @dA8 @dQ3) (zJ @eb6 (zJ @eb5 @dG3)))))) (zJ (zJ (zJ (zJ (zJ @eb8 @eb7) (zJ @dX7 (zJ @do5 @dP3))) (zJ (zJ @ea9 @dv0) (zJ @dK6 (zJ @dF8 @ea3)))) (zJ (zJ (zJ @eb0 @dK5) (zJ @dX6 (zJ @dP6 @dX5))) (zJ (zJ @ev.eq_1 @ev.eq_2) (zJ @ev.eq_3 (zJ @ev.eq_4 @C9.eq_1))))) (zJ (zJ (zJ (zJ @C9.eq_2 @ec8) (zJ @eb1 (zJ @eb9 @ec0))) (zJ (zJ @List.map_cons.{0,0} @List.map_nil.{0,0}) (zJ @List.map_toArray.{0,0} (zJ @ce3.eq_1 @ce3.eq_2)))) (zJ (zJ (zJ @dE8 @dW6) (zJ @dW7 (zJ @dc9.eq_1 @List.getElem?_toArray.{0}))) (zJ (zJ @List.getElem?_cons_zero.{0} (zJ @List.getElem?_cons_succ.{0} @Option.bind_some.{0,0})) (zJ @Option.some.injEq.{0} (zJ @em5 @Bool.true_eq_false))))))
def n9:=zJ (zJ (zJ (zJ (zJ @dP4 (zJ @dP1 @dN1)) (zJ @Option.map_some.{0,0} (zJ @Option.map_none.{0,0} @Int.toNat_zero))) (zJ (zJ @Option.isNone_none.{0} (zJ @Option.isNone_some.{0} @M4)) (zJ @bX4.eq_1 (zJ @bX4.eq_2 @dq9.eq_1)))) (zJ (zJ (zJ @bq9.eq_1 (zJ @bq9.eq_2 @dg0.eq_1)) (zJ @df7.eq_1 (zJ @TY @Option.isSome_some.{0}))) (zJ (zJ @em1 (zJ @Bool.and_true @en3)) (zJ @eh6 (zJ @ea0 @Int.cast_ofNat_Int))))) (zJ (zJ (zJ (zJ @decide_true (zJ @add_lit @ej1)) (zJ @Nat.zero_mul (zJ @Nat.one_mul @Bool.not_true))) (zJ (zJ @Bool.not_false (zJ @ea1 @dO0)) (zJ @dW1 (zJ @dW0 @dV9)))) (zJ (zJ (zJ @dV8 (zJ @dV7 @dW4)) (zJ @dV5 (zJ @dW5 @dM0))) (zJ (zJ @dL9 (zJ @dV6 @dW3)) (zJ (zJ @cD6 @dq2) (zJ @dW2 @ec7)))))
def bE4(c:UInt8)(w:World):o9 prog 156 #[.int .u8 c.toNat] w λu d=>(u = .bool (aI7 c)/\d=w):=by
 refine p9 [.int .u8 c.toNat] func156 rfl ?_;unfold aI7;have a:decide ((97:Int)<=(c.toNat:Int))=decide (97<=c.toNat):=ek8.2 (by omega);have b:decide ((c.toNat:Int)<=(122:Int))=decide (c.toNat<=122):=ek8.2 (by omega);cases hb:decide (97<=c.toNat)
 .simp only[n8,n9,simprocAttr,a,hb];exact o7 results156 ⟨rfl,rfl⟩
 .simp only[n8,n9,simprocAttr,a,b,hb];refine o7 results156 ?_;simp only[B3,simprocAttr];exact⟨by simp,by trivial⟩
def cO5(c:UInt8)(w:World):o9 prog 203 #[.int .u8 c.toNat] w λu d=>(u = .bool (bW9 c)/\d=w):=by
 refine p9 [.int .u8 c.toNat] func203 rfl ?_;unfold bW9;have a:decide ((48:Int)<=(c.toNat:Int))=decide (48<=c.toNat):=ek8.2 (by omega);have b:decide ((c.toNat:Int)<=(57:Int))=decide (c.toNat<=57):=ek8.2 (by omega);cases hb:decide (48<=c.toNat)
 .simp only[n8,n9,simprocAttr,a,hb];exact o7 results203 ⟨rfl,rfl⟩
 .simp only[n8,n9,simprocAttr,a,b,hb];refine o7 results203 ?_;simp only[B3,simprocAttr];exact⟨by simp,by trivial⟩
def cX9(s:A9)(w:World):o9 prog 158 #[p6 s] w λu o=>(u = .bool (cq4 s)/\o=w):=by
 refine p9 [p6 s] func158 rfl ?_;have a:cq4 s=cC6.any λx=>decide (s=x):=by
  unfold cq4;rw[<-List.any_beq]
  congr 1
 simp only[cC6,List.any_cons,List.any_nil]at a;simp only[n8,n9,simprocAttr];refine A4 (λf=>?_) (λf=>?_)
 .simp only[n8,simprocAttr,f];refine o7 results158 ?_;simp only[B3,simprocAttr];exact⟨by rw[a];simp only[f,er8],by trivial⟩
 simp only[n8,n9,simprocAttr];refine A4 (λg=>?_) (λg=>?_)
 .simp only[n8,simprocAttr,g];refine o7 results158 ?_;simp only[B3,simprocAttr];exact⟨by rw[a];simp only[g,er8,er9],by trivial⟩
 simp only[n8,n9,simprocAttr];refine A4 (λh=>?_) (λh=>?_)
 .simp only[n8,simprocAttr,h];refine o7 results158 ?_;simp only[B3,simprocAttr];exact⟨by rw[a];simp only[h,er8,er9],by trivial⟩
 simp only[n8,n9,simprocAttr];refine A4 (λi=>?_) (λi=>?_)
 .simp only[n8,simprocAttr,i];refine o7 results158 ?_;simp only[B3,simprocAttr];exact⟨by rw[a];simp only[i,er8,er9],by trivial⟩
 simp only[n8,n9,simprocAttr];refine A4 (λj=>?_) (λj=>?_)
 .simp only[n8,simprocAttr,j];refine o7 results158 ?_;simp only[B3,simprocAttr];exact⟨by rw[a];simp only[j,er8,er9],by trivial⟩
 simp only[n8,n9,simprocAttr];refine A4 (λk=>?_) (λk=>?_)
 .simp only[n8,simprocAttr,k];refine o7 results158 ?_;simp only[B3,simprocAttr];exact⟨by rw[a];simp only[k,er8,er9],by trivial⟩
 simp only[n8,n9,simprocAttr];refine A4 (λl=>?_) (λl=>?_)
 .simp only[n8,simprocAttr,l];refine o7 results158 ?_;simp only[B3,simprocAttr];exact⟨by rw[a];simp only[l,er8,er9],by trivial⟩
 simp only[n8,n9,simprocAttr];refine A4 (λm=>?_) (λm=>?_)
 .simp only[n8,simprocAttr,m];refine o7 results158 ?_;simp only[B3,simprocAttr];exact⟨by rw[a];simp only[m,er8,er9],by trivial⟩
 simp only[n8,n9,simprocAttr];refine A4 (λn=>?_) (λn=>?_)
 .simp only[n8,simprocAttr,n];refine o7 results158 ?_;simp only[B3,simprocAttr];exact⟨by rw[a];simp only[n,er8,er9],by trivial⟩
 simp only[n8,n9,simprocAttr];refine A4 (λb=>?_) (λb=>?_)
 .simp only[n8,simprocAttr,b];refine o7 results158 ?_;simp only[B3,simprocAttr];exact⟨by rw[a];simp only[b,er8,er9],by trivial⟩
 simp only[n8,n9,simprocAttr];refine A4 (λc=>?_) (λc=>?_)
 .simp only[n8,simprocAttr,c];refine o7 results158 ?_;simp only[B3,simprocAttr];exact⟨by rw[a];simp only[c,er8,er9],by trivial⟩
 simp only[n8,n9,simprocAttr];refine A4 (λd=>?_) (λd=>?_)
 .simp only[n8,simprocAttr,d];refine o7 results158 ?_;simp only[B3,simprocAttr];exact⟨by rw[a];simp only[d,er8,er9],by trivial⟩
 simp only[n8,n9,simprocAttr];refine A4 (λe=>?_) (λe=>?_)
 .simp only[n8,simprocAttr];refine o7 results158 ?_;simp only[B3,simprocAttr];exact⟨by rw[a];simp only[e,er8,er9],by trivial⟩
 .simp only[n8,simprocAttr];refine o7 results158 ?_;simp only[B3,simprocAttr];exact⟨by rw[a];simp only[f,g,h,i,j,k,l,m,n,b,c,d,e,Bool.or_false],by trivial⟩
def dr0{s:A9}{k:Nat}(a:k<s.b.length):∃c,chr s k=some c/\s.b.take (k+1)=s.b.take k++[c]/\c∈s.b:=
 ⟨_,ef1 a,ef8 a,eg2 a⟩
def dw2(s:A9)(w:World)(q:s.b.length<=1000000):o9 prog 157 #[p6 s,.int .i64 0] w λu h=>(∃k:Nat,u = .int .i64 k/\decide (k=s.b.length)=s.b.all ah9/\h=w):=by
 refine p9 [p6 s,.int .i64 0] func157 rfl ?_;simp only[n8,n9,simprocAttr];refine A6 [0] (σ:=Nat) (λk f h=>f 1 = .int .i64 k/\k<=s.b.length/\(s.b.take k).all ah9=true/\h=w) (λk=>s.b.length-k) 0 ?_ ?_
 .exact⟨rfl,eg3 _,by simp,rfl⟩
 .rintro k f h ⟨i,_⟩ ⟨b,p,a,rfl⟩;by_cases hlt:k<s.b.length
  .have j:decide ((k:Int)<(s.b.length:Nat))=true:=by simpa using hlt
   obtain⟨c,o,g,e⟩:=dr0 hlt;have d:=dz9 (P:=prog) (t:=9) (k:=.i64) dI5 dS8 o;simp only[n8,n9,simprocAttr,i,b,j,d];refine t8 (bE4 c _) ?_;rintro u r ⟨rfl,rfl⟩;cases hlet:aI7 c
   .simp only[n8,simprocAttr,i,b,d];refine t8 (cO5 c _) ?_;rintro u v ⟨rfl,rfl⟩;cases hdig:bW9 c
    .simp only[n8,simprocAttr,b];refine o7 results157 ⟨k,rfl,?_,rfl⟩;have m:s.b.all ah9=false:=by
      rw[ep7];intro n;have:=en8.1 n c e;simp[ah9,hlet,hdig]at this
     rw[m];simp;omega
    .simp only[n8,n9,simprocAttr,b];refine T4 (k+1) ⟨?_,by trivial⟩;rw[g,List.all_append,a];simp[ah9,hdig]
   .simp only[n8,n9,simprocAttr,b];refine T4 (k+1) ⟨?_,by trivial⟩;rw[g,List.all_append,a];simp[ah9,hlet]
  .have j:decide ((k:Int)<(s.b.length:Nat))=false:=by simpa using hlt
   have l:k=s.b.length:=by omega
   simp only[n8,n9,simprocAttr,i,b,j];refine o7 results157 ⟨k,rfl,?_,rfl⟩;subst l;rw[eg4]at a;rw[a];simp
def aO0(s:A9)(w:World):o9 prog 103 #[p6 s] w λu n=>(u = .bool (T8 s)/\n=w):=by
 refine p9 [p6 s] func103 rfl ?_;cases hs:s.b with
 | nil=>
  have g:s.b.length=0:=by rw[hs];rfl
  have e:decide (((s.b.length:Nat):Int)<1)=true:=by rw[g];rfl
  simp only[n8,n9,simprocAttr,e];refine o7 results103 ?_;simp only[B3,simprocAttr];exact⟨by rw[T8,hs],by trivial⟩
 | cons c l=>
  have g:s.b.length=l.length+1:=by rw[hs];rfl
  have b:T8 s=(decide (l.length<8)&&aI7 c&&l.all ah9 && !cq4 s):=by rw[T8,hs]
  have d:s.b.all ah9=(ah9 c&&l.all ah9):=by rw[hs];rfl
  have e:decide (((s.b.length:Nat):Int)<1)=false:=by rw[g];simp;omega
  have m:chr s 0=some c:=by unfold chr;rw[hs];rfl
  have f:ac6 prog 9 (p6 s) (.int .i64 0)=some (.int .u8 (c.toNat:Int)):=dz9 (k:=.i64) (i:=0) dI5 dS8 m;cases h2:decide ((8:Int)<((s.b.length:Nat):Int))
  .have h:l.length<8:=by simp at h2;omega
   simp only[n8,n9,simprocAttr,e,h2,f];refine t8 (bE4 c _) ?_;rintro u o ⟨rfl,rfl⟩;cases hlet:aI7 c
   .simp only[n8,n9,simprocAttr];refine o7 results103 ?_;simp only[B3,simprocAttr];exact⟨by rw[b,hlet];simp,by trivial⟩
   .simp only[n8,n9,simprocAttr];refine t8 (dw2 s _ (by omega)) ?_;rintro u p ⟨k,rfl,j,rfl⟩;have a:decide ((k:Int)=((s.b.length:Nat):Int))=l.all ah9:=by
     rw[d,show ah9 c=true by simp[ah9,hlet],em1]at j;rw[<-j];exact ek8.2 (by omega)
    cases ha:l.all ah9
    .rw[ha]at a;simp only[n8,n9,simprocAttr,a];refine o7 results103 ?_;simp only[B3,simprocAttr];exact⟨by rw[b,ha];simp,by trivial⟩
    .rw[ha]at a;simp only[n8,n9,simprocAttr,a];refine t8 (cX9 s _) ?_;rintro u q ⟨rfl,rfl⟩;simp only[n8,n9,simprocAttr];refine o7 results103 ?_;simp only[B3,simprocAttr];exact⟨by rw[b,ha,hlet];simp[h],by trivial⟩
  .simp only[n8,n9,simprocAttr,e,h2];refine o7 results103 ?_;simp only[B3,simprocAttr];exact⟨by rw[b,show decide (l.length<8)=false by simp at h2 ⊢;omega];rfl,by trivial⟩
def eq8:=@List.sum_cons
def D0:=zJ (zJ (zJ (zJ @dV3 @dY8) (zJ @dX4 @dK4)) (zJ (zJ @dF7 @ea2) (zJ @do3 @dP0))) (zJ (zJ (zJ @ea8 @du8) (zJ @dK3 @dX3)) (zJ (zJ @dP2 @dX2) (zJ @List.drop_succ_cons.{0} @List.drop_zero.{0})))
def aP0(l:List St){k:Nat}(a:k<l.length):A7 (l.take (k+1))=A7 (l.take k)+X7 l[k]:=by
 rw[ef8 a,aZ4];simp[A7]
def ax7(l:List St)(k:Nat):A7 (l.take k)<=A7 l:=by
 have:=aZ4 (l.take k) (l.drop k);rw[ej2]at this;omega
def bH8:∀(m:Nat) (t:St) (v:Value) (w:World),X7 t<=m->SV (m8 w) v t->U1 t<=1000000->o9 prog 194 #[v] w λu C=>(u = .int .i64 (X7 t:Nat)/\o6 w C)
 | 0,t,v,w,hsm,_,_=>absurd (bS9 t) (by omega)
 | m+1,t,v,w,hsm,hv,hwt=>by
  refine p9 [v] func194 rfl ?_;obtain⟨a,Q,K,hx,W⟩:=au2 hv (n7 _);obtain⟨vl,va,vt,ve,hl,Z,F,E,S,T,sd⟩:=W.st;have J:=E.isS;have N:=E.vlen;have aa:=bU6 t;have L:=az4 t;have ab:=V7 t;have X:=V9 t.thn;have Y:=V9 t.els;simp only[n8,n9,simprocAttr,K,T Q (n7 _),F.isS,F.vlen];refine A6 [1,9,10] (σ:=Nat) (λk f C=>f 11 = .int .i64 k/\k<=t.thn.length/\f 3 = .int .i64 ((1+A7 (t.thn.take k):Nat):Int)/\o6 Q C) (λk=>t.thn.length-k) 0 ?_ ?_
  .simp only[B3,simprocAttr];exact⟨by trivial,eg3 _,by simp[A7],o8.refl _⟩
  .rintro k f U ⟨R,V,G,_⟩ ⟨h,M,j,c⟩;simp only[n8,n9,simprocAttr,h,G];refine y5 (λd=>?_) ?_
   .have o:=F.inS d;obtain⟨sv,g,e⟩:=F5 (P:=prog) (t:=109) F (b7 c) (ef1 d) bc0 bc4 aL0 ad2;rw[ad2]at e;have r:=aP0 t.thn d;have B:=ax7 t.thn (k+1);have x:=ap0 (eg2 d);generalize t.thn[k]=s at g r x;obtain⟨b,wz,D,l,q,y,n⟩:=bj9 (g.mono (b7 c)) (n7 _);obtain⟨O,p,A,_⟩:=n.st_v;simp only[n8,n9,y4,simprocAttr,h,V,o,e,l,q,A D (n7 _),j];refine B2 (bH8 m s O D (by omega) p (by omega)) (λw4 z=>?_);simp only[n8,n9,simprocAttr,h];exact T4 (k+1) ⟨by rw[M2 _ (by omega)];congr 1;omega,c.trans (y.trans z)⟩
   .rintro rfl;rw[eg4]at j;simp only[n8,n9,simprocAttr,R,T U (b7 c),J,N];refine A6 [1,21,22] (σ:=Nat) (λk f C=>f 23 = .int .i64 k/\k<=t.els.length/\f 3 = .int .i64 ((1+A7 t.thn+A7 (t.els.take k):Nat):Int)/\o6 Q C) (λk=>t.els.length-k) 0 ?_ ?_
    .simp only[B3,simprocAttr];exact⟨by trivial,eg3 _,by simp[A7,j],c⟩
    .rintro k f U ⟨R,H,I,_⟩ ⟨i,M,j,c⟩;simp only[n8,n9,simprocAttr,i,I];refine y5 (λd=>?_) ?_
     .have o:=E.inS d;obtain⟨sv,g,e⟩:=F5 (P:=prog) (t:=109) E (b7 c) (ef1 d) bc0 bc4 aL0 ad2;rw[ad2]at e;have r:=aP0 t.els d;have B:=ax7 t.els (k+1);have x:=ap0 (eg2 d);generalize t.els[k]=s at g r x;obtain⟨b,wz,D,l,q,y,n⟩:=bj9 (g.mono (b7 c)) (n7 _);obtain⟨O,p,A,_⟩:=n.st_v;simp only[n8,n9,y4,simprocAttr,i,H,o,e,l,q,A D (n7 _),j];refine B2 (bH8 m s O D (by omega) p (by omega)) (λw4 z=>?_);simp only[n8,n9,simprocAttr,i];exact T4 (k+1) ⟨by rw[M2 _ (by omega)];congr 1;omega,c.trans (y.trans z)⟩
     .rintro rfl;rw[eg4]at j;simp only[n8,simprocAttr,j];refine o7 results194 ?_;simp only[B3,simprocAttr];exact⟨by rw[L],hx.trans c⟩
def bB0(p:Pg):Nat:=(p.procs.map λf=>A7 f.body).sum
def bx9:∀(l:List Pr),3*(l.map λf=>A7 f.body).sum<=aM8 l
 | []=>by simp[aM8]
 | f::l=>by
  have a:=bx9 l;have b:=aA1 f.body;simp only[ej9,eq8,aM8,ab0];omega
def cj2(x:A9):List A9->List A9
 | []=>[x]
 | y::l=>if ltS y x then y::cj2 x l else x::y::l
def W8:List A9->List A9
 | []=>[]
 | x::l=>cj2 x (W8 l)
def I0{α:Type}[DecidableEq α]:List α->List α
 | []=>[]
 | [x]=>[x]
 | x::y::l=>if x=y then I0 (y::l)else x::I0 (y::l)
def E3(l:List A9):List A9:=I0 (W8 l)
mutual
def W0:St->Nat->Int->Int->Int->Int->List It
 | .mk id kind labels name proc x has args thn els,k,pr,up,nx,lp=>
  let me:Int:=k+1
  let nx':=if kind=6 then me else nx
  let lp':=if kind=6 then me else lp
  let a:=C8 thn (k+1) pr me nx' lp'
  ⟨.mk id kind labels name proc x has args thn els,pr,up,nx,lp⟩::(a++C8 els (k+1+a.length) pr me nx' lp')
def C8:List St->Nat->Int->Int->Int->Int->List It
 | [],_,_,_,_,_=>[]
 | t::l,k,pr,up,nx,lp=>
  let a:=W0 t k pr up (if l.length=0 then nx else k+1+X7 t) lp
  a++C8 l (k+a.length) pr up nx lp
end
def G5(s:Sh)(i:Nat)(f:Pr):Sh:=
 let a:=C8 f.body s.l.length i 0 (-1) 0
 ⟨s.p,s.l++a,s.lo++[(s.l.length:Int)+1],s.hi++[(s.l.length:Int)+a.length+1]⟩
def H9(s:Sh):Nat->List Pr->Sh
 | _,[]=>s
 | i,f::l=>H9 (G5 s i f) (i+1) l
def d9(p:Pg):Sh:=H9 ⟨p,[],[],[]⟩ 0 p.procs
def atI(l:List Int)(i:Int):Int:=l.getD i.toNat 0
def Sh.of(s:Sh)(i:Int):List It:=(s.l.take (atI s.hi i-1).toNat).drop (atI s.lo i-1).toNat
def ad6{α:Type}(p:α->Bool):Nat->List α->Int
 | _,[]=>-1
 | i,x::l=>if p x then i else ad6 p (i+1) l
def af8(a:List Pr)(n:A9):Int:=ad6 (λf=>decide (f.name=n)) 0 a
def Sh.pr(s:Sh)(n:A9):Int:=af8 s.p.procs n
def cT0:St:=.mk 0 0 [] e0 e0 (.mk 0 0 e0 []) false [] [] []
def ea5:It:=⟨cT0,0,0,0,0⟩
def bY8:Pr:=⟨e0,[],[],[],[]⟩
def Sh.it(s:Sh)(id:Int):It:=s.l.getD (id-1).toNat ea5
def Sh.fn(s:Sh)(i:Int):Pr:=s.p.procs.getD i.toNat bY8
def Sh.first(s:Sh)(i:Int):Int:=if atI s.lo i<atI s.hi i then atI s.lo i else -1
def Sh.at(s:Sh)(i:Int)(a:A9):Option Int:=match(s.of i).find? λit=>it.s.labels.contains a with
 | some it=>some it.s.id
 | none=>if(s.fn i).fin.contains a then some (-1)else none
def M6(a:Ar):List A9:=(if a.ref then[a.name]else[])++ai5 a.x
def L6(t:St):List A9:=(if t.kind≠10/\t.name≠e0 then[t.name]else[])++ai5 t.x++t.args.flatMap M6
def aM0(p:Pg)(f:Pr)(n:A9):Int:=match f.params.find? λa=>decide (a.name=n)with
 | some a=>if a.ref then 3 else 2
 | none=>if f.vars.contains n then 4 else if p.globals.contains n then 1 else 0
def bw7(f:Pr):List A9:=f.params.map (·.name)++f.vars
def ag3(l:List A9):Bool:=!decide l.Nodup
def L5:A9:=ofA #[109,97,105,110]
def ai3(p:Pg)(f:Pr)(a:List A9)(t:St):Bool:=(L6 t).all (λn=>!decide (aM0 p f n=0))&&(!decide (t.kind=4)||(!decide (t.proc=L5)&&a.contains t.proc))
def ae3(p:Pg)(a:List A9)(f:Pr)(l:List It):Option (Int×Int):=
 if ag3 (bw7 f)||(bw7 f).any (λn=>p.globals.contains n)then some (5,0)
 else match l.find? λit=>!ai3 p f a it.s with
  | some it=>some (5,it.s.id)
  | none=>none
def P7(p:Pg)(s:Sh)(a:List A9):Nat->List Pr->Option (Int×Int)
 | _,[]=>none
 | i,f::l=>match ae3 p a f (s.of i)with
   | some e=>some e
   | none=>P7 p s a (i+1) l
def P6(p:Pg):Int×Int:=
 if M8 p=false then(1,0)
 else let procs:=p.procs.map (·.name);let first:=af8 p.procs L5
  if ag3 p.globals||ag3 procs||decide (first<0)||decide (0<(p.procs.getD first.toNat bY8).params.length)then(5,0)
  else(P7 p (d9 p) procs 0 p.procs).getD (0,0)
def bH0(l:List Pa)(a:List Ar):Bool:=decide (l.length=a.length)&&(l.zip a).all λx=>x.1.ref==x.2.ref
def al4(p:Pg)(s:St):Bool:=decide (s.kind=4)&&(match p.procs.find? λf=>decide (f.name=s.proc)with
 | some f=>bH0 f.params s.args
 | none=>false)
def af2(p:Pg):Int×Int:=if(P6 p).1≠0 then(1,0)else match(d9 p).l.find? λit=>decide (it.s.kind=4) && !al4 p it.s with
 | some it=>(6,it.s.id)
 | none=>(0,0)
def ay1:List A9->List A9->Option (List A9)
 | seen,[]=>some seen
 | seen,n::l=>if seen.contains n then none else ay1 (seen++[n]) l
def ay3(s:Sh)(it:It):Bool:=if it.s.kind=7\/it.s.kind=8 then !decide (it.loop=0)else if it.s.kind=10 then(s.at it.proc it.s.name).isSome else true
def aB0(s:Sh):List A9->List It->List A9 ⊕ Int
 | seen,[]=>.inl seen
 | seen,it::l=>match ay1 seen it.s.labels with
   | none=>.inr it.s.id
   | some a=>if ay3 s it then aB0 s a l else .inr it.s.id
def ay2(s:Sh)(f:Pr)(l:List It):Option (Int×Int):=match aB0 s [] l with
 | .inr id=>some (7,id)
 | .inl seen=>match ay1 seen f.fin with
   | none=>some (7,0)
   | some _=>none
def U6(s:Sh):Nat->List Pr->Option (Int×Int)
 | _,[]=>none
 | i,f::l=>match ay2 s f (s.of i)with
   | some e=>some e
   | none=>U6 s (i+1) l
def aL9(p:Pg):Int×Int:=if(P6 p).1≠0 then(1,0)else(U6 (d9 p) 0 p.procs).getD (0,0)
def ak9(s:Sh)(n:A9):List A9:=E3 (((s.of (s.pr n)).filter λit=>decide (it.s.kind=4)).map (·.s.proc))
def U3(a:List A9):List A9->List A9
 | []=>a
 | n::l=>U3 (if a.contains n then a else a++[n]) l
def R5(g:A9->List A9):Nat->Nat->List A9->List A9
 | 0,_,out=>out
 | m+1,i,out=>match out[i]? with
   | none=>out
   | some n=>R5 g m (i+1) (U3 out (g n))
def aD2(s:Sh)(n:A9):List A9:=W8 (R5 (ak9 s) (s.p.procs.length+1) 0 [n])
def aQ6(p:Pg)(n:A9):Bool:=decide ((P6 p).1=0)&&p.procs.any λf=>decide (f.name=n)
def R8(p:Pg)(n:A9):List A9:=if aQ6 p n then
  let s:=d9 p
  E3 ((aD2 s n).flatMap λm=>(s.of (s.pr m)).flatMap λit=>(L6 it.s).filter λv=>p.globals.contains v)
 else[]
def am2(name:A9)(b:List A9):List A9->List Ar->Bool
 | _,[]=>true
 | seen,a::l=>if a.ref then(if seen.contains a.name||decide (a.name=name)||b.contains a.name then false else am2 name b (seen++[a.name]) l)else am2 name b seen l
def am1(s:St)(a:List A9):Bool:=am2 s.name a [] s.args
def aO3(p:Pg):Int×Int:=if(af2 p).1≠0 then(1,0)else match(d9 p).l.find? λit=>decide (it.s.kind=4) && !am1 it.s (R8 p it.s.proc)with
 | some it=>(8,it.s.id)
 | none=>(0,0)
def aO7(p:Pg):Int×Int:=
 if M8 p=false then(1,0)
 else if(P6 p).1≠0 then P6 p
 else if(af2 p).1≠0 then af2 p
 else if(aL9 p).1≠0 then aL9 p
 else aO3 p
def E0(p:Pg):Bool:=decide ((aO7 p).1=0)
def ay0{α:Type}(p:α->Bool):∀(l:List α) (i k:Nat) (a:k<l.length),(∀j (d:j<k),p (l[j]'(by omega))=false)->p l[k]=true->ad6 p i l=(i+k:Nat)
 | [],i,k,a,_,_=>by simp at a
 | x::l,i,0,a,h1,h2=>by
  have b:p x=true:=h2;rw[ad6,if_pos b];rfl
 | x::l,i,k+1,a,h1,h2=>by
  have c:p x=false:=h1 0 (by omega);rw[ad6,if_neg (by rw[c];simp),ay0 p l (i+1) k (by simpa using a) (λj d=>h1 (j+1) (by omega)) h2]
  congr 1;omega
def aE4{α:Type}(p:α->Bool):∀(l:List α) (i:Nat),(∀x∈l,p x=false)->ad6 p i l = -1
 | [],i,_=>rfl
 | x::l,i,h=>by
  rw[ad6,if_neg (by rw[h x (by simp)];simp)];exact aE4 p l (i+1) λy a=>h y (ek0 _ a)
def aE3{α:Type}(p:α->Bool):∀(l:List α) (i:Nat),decide (0<=ad6 p i l)=l.any p
 | [],i=>rfl
 | x::l,i=>by
  rw[ad6,List.any_cons];cases hp:p x
  .rw[if_neg (by simp),aE3 p l];rfl
  .rw[if_pos rfl];simp
def aQ3{α:Type}(p:α->Bool):∀(l:List α) (i:Nat),0<=ad6 p i l->∃k,ad6 p i l=(i+k:Nat)/\∃x,l[k]?=some x/\p x=true
 | [],i,h=>by simp[ad6]at h
 | x::l,i,h=>by
  rw[ad6]at h ⊢;cases hp:p x
  .rw[hp,if_neg (by simp)]at h;rw[if_neg (by simp)];obtain⟨k,a,y,b,c⟩:=aQ3 p l (i+1) h;exact⟨k+1,by rw[a];congr 1;omega,y,by simpa using b,c⟩
  .rw[if_pos rfl];exact⟨0,by simp,x,rfl,hp⟩
def dR6:G0 prog 151 150 17 240=true:=by kernel_rfl
def dB4:G0 prog 24 3 1 8=true:=by kernel_rfl
structure ShS (h:Hp) (w:World) (gb:Nat) (vg vp vL vLo vHi:Value) (L:List It) (lo hi:List Int):Prop where
 free:h gb=none
 cell:w.heap[gb]?=some (.cells #[vg,vp,vL,vLo,vHi] 153 (0,0))
 oL:B0 h w 150 vL L
 oLo:B0 h w 3 vLo lo
 oHi:B0 h w 3 vHi hi
 d1:∀b,A0 vL b->b≠gb/\¬A0 vLo b/\¬A0 vHi b
 d2:∀b,A0 vLo b->b≠gb/\¬A0 vHi b
 d3:∀b,A0 vHi b->b≠gb
section
variable {h:Hp} {w:World} {gb:Nat} {vg vp vL vLo vHi:Value} {L:List It} {lo hi:List Int}
def ShS.lt(s:ShS h w gb vg vp vL vLo vHi L lo hi):gb<w.heap.size:=(ef5.1 s.cell).1
def ShS.mod{M:Nat->Prop}{a:World}(s:ShS h w gb vg vp vL vLo vHi L lo hi)(hm:o8 M w a)(c:¬M gb)(d:∀b,A0 vL b->¬M b)(e:∀b,A0 vLo b->¬M b)(f:∀b,A0 vHi b->¬M b):ShS h a gb vg vp vL vLo vHi L lo hi:=
 ⟨s.free,(hm.block gb s.lt c).trans s.cell,s.oL.mod hm d,s.oLo.mod hm e,s.oHi.mod hm f,s.d1,s.d2,s.d3⟩
def ShS.ext{a:World}(s:ShS h w gb vg vp vL vLo vHi L lo hi)(b:o6 w a):ShS h a gb vg vp vL vLo vHi L lo hi:=
 s.mod b id (λ_ _=>id) (λ_ _=>id) (λ_ _=>id)
def ShS.setL{i j:World}{c:Value}{l:List It}(s:ShS h w gb vg vp vL vLo vHi L lo hi)(m:o8 (A0 vL) w i)(o:B0 h i 150 c l)(hv:E9 w vL c)
  (g:o8 (λb=>b=gb) i j) (n:j.heap[gb]?=some (.cells #[vg,vp,c,vLo,vHi] 153 (0,0))):ShS h j gb vg vp c vLo vHi l lo hi:=by
 have f:∀b,A0 c b->b≠gb/\¬A0 vLo b/\¬A0 vHi b:=λb a=>by
  rcases hv b a with k|k
  .exact s.d1 b k
  .exact⟨λe=>by have:=s.lt;omega,λe=>by have:=s.oLo.lt e;omega,λe=>by have:=s.oHi.lt e;omega⟩
 refine⟨s.free,n,o.mod g λb a=>(f b a).1,(s.oLo.mod m λb a d=>(s.d1 b d).2.1 a).mod g λb a=>(s.d2 b a).1,(s.oHi.mod m λb a d=>(s.d1 b d).2.2 a).mod g λb a=>s.d3 b a,f,s.d2,s.d3⟩
def ShS.setLo{j l:World}{g:Value}{f:List Int}(s:ShS h w gb vg vp vL vLo vHi L lo hi)(m:o8 (A0 vLo) w j)(o:B0 h j 3 g f)(hv:E9 w vLo g)
  (i:o8 (λb=>b=gb) j l) (n:l.heap[gb]?=some (.cells #[vg,vp,vL,g,vHi] 153 (0,0))):ShS h l gb vg vp vL g vHi L f hi:=by
 have c:∀b,A0 g b->b≠gb/\¬A0 vL b/\¬A0 vHi b:=λb a=>by
  rcases hv b a with k|k
  .exact⟨(s.d2 b k).1,λe=>(s.d1 b e).2.1 k,(s.d2 b k).2⟩
  .exact⟨λe=>by have:=s.lt;omega,λe=>by have:=s.oL.lt e;omega,λe=>by have:=s.oHi.lt e;omega⟩
 refine⟨s.free,n,(s.oL.mod m λb a d=>(s.d1 b a).2.1 d).mod i λb a=>(s.d1 b a).1,o.mod i λb a=>(c b a).1,(s.oHi.mod m λb a d=>(s.d2 b d).2 a).mod i λb a=>s.d3 b a,λb a=>⟨(s.d1 b a).1,λe=>(c b e).2.1 a,(s.d1 b a).2.2⟩,λb a=>⟨(c b a).1,(c b a).2.2⟩,s.d3⟩
def ShS.setHi{j l:World}{g:Value}{f:List Int}(s:ShS h w gb vg vp vL vLo vHi L lo hi)(m:o8 (A0 vHi) w j)(o:B0 h j 3 g f)(hv:E9 w vHi g)
  (i:o8 (λb=>b=gb) j l) (n:l.heap[gb]?=some (.cells #[vg,vp,vL,vLo,g] 153 (0,0))):ShS h l gb vg vp vL vLo g L lo f:=by
 have c:∀b,A0 g b->b≠gb/\¬A0 vL b/\¬A0 vLo b:=λb a=>by
  rcases hv b a with k|k
  .exact⟨s.d3 b k,λe=>(s.d1 b e).2.2 k,λe=>(s.d2 b e).2 k⟩
  .exact⟨λe=>by have:=s.lt;omega,λe=>by have:=s.oL.lt e;omega,λe=>by have:=s.oLo.lt e;omega⟩
 refine⟨s.free,n,(s.oL.mod m λb a d=>(s.d1 b a).2.2 d).mod i λb a=>(s.d1 b a).1,(s.oLo.mod m λb a d=>(s.d2 b a).2 d).mod i λb a=>(s.d2 b a).1,o.mod i λb a=>(c b a).1,λb a=>⟨(s.d1 b a).1,(s.d1 b a).2.1,λe=>(c b e).2.1 a⟩,λb a=>⟨(s.d2 b a).1,λe=>(c b e).2.2 a⟩,λb a=>(c b a).1⟩
end
def ab1(h:Hp)(w:World)(b:Nat)(x:It):Prop:=∃a:List Value,w.heap[b]?=some (.cells (List.toArray a) 150 (0,0))/\A3.enc h a x
section
variable {h:Hp} {w:World} {tb:Nat} {x:It}
def ab1.mod{M:Nat->Prop}{b:World}(f:ab1 h w tb x)(hm:o8 M w b)(d:¬M tb):ab1 h b tb x:=by
 obtain⟨c,a,e⟩:=f;exact⟨c,(hm.block tb (ef5.1 a).1 d).trans a,e⟩
def ab1.lt(b:ab1 h w tb x):tb<w.heap.size:=by
 obtain⟨c,a,d⟩:=b;exact(ef5.1 a).1
def ab1.new{v:Value}(hv:SV h v x):∃tb c b,(Instr.alloc 150 true (.tuple #[])).run prog w = .ok (.pointer (some ⟨tb,0,none⟩)) c/\(Instr.storeAt 150 (.pointer (some ⟨tb,0,none⟩)) v).run prog c = .ok () b/\o6 w b/\w.heap.size<=tb/\ab1 h b tb x:=by
 obtain⟨cs,rfl,a⟩:=hv;obtain⟨d,e⟩:=aA5 (P:=prog) (w:=w) (T:=150) cC1 rfl (cs:=List.toArray cs) (by rw[J3];simpa using(show cs.length=17 from A3.len a)) (by simpa using A3.one a);exact⟨w.heap.size,_,_,d,e,o6.alloc _ _,eg6 _,cs,ej0 w _,a⟩
def ab1.ld(m:ab1 h w tb x):∃v,SV h v x/\(∀a,a.heap[tb]?=w.heap[tb]?->(Instr.loadAt 150 (.pointer (some ⟨tb,0,none⟩))).run prog a = .ok v a/\(Instr.loadAt 3 (.pointer (some ⟨tb,15,none⟩))).run prog a = .ok (.int .i64 x.next) a):=by
 obtain⟨b,e,d⟩:=m;refine⟨.agg (List.toArray b),⟨b,rfl,d⟩,λa f=>⟨?_,?_⟩⟩
 .exact Y5 (f.trans e) aa7 aa9 Z3 (by rw[J3];simpa using(show b.length=17 from A3.len d).symm)
 .obtain⟨c,rfl,l⟩:=aT1 d;obtain⟨n,o,p,q,r,s,t,u,y,g,i,j,k,rfl⟩:=aR0 (A3.len l);exact E7 (f.trans e) rfl G3
def ab1.setS{v:Value}{s:St}(m:ab1 h w tb x)(l:SV h v s):∃d,(Instr.storeAt 109 (.pointer (some ⟨tb,0,none⟩)) v).run prog w = .ok () d/\ab1 h d tb ⟨s,x.proc,x.up,x.next,x.loop⟩/\o8 (λb=>b=tb) w d:=by
 obtain⟨cs,i,j⟩:=m;obtain⟨e,rfl,f⟩:=l;obtain⟨c,rfl,k⟩:=aT1 j;have g:c.length=13:=A3.len k;have a:e.length=13:=A3.len f;obtain⟨d,n,p,q⟩:=cD7 (P:=prog) (t:=109) (o:=0) (cs:=e) i (by simp[g,a]) (A3.one f) aL0 (by rw[ad2,a]);refine⟨d,n,⟨_,p,?_⟩,q⟩;refine⟨e,?_,f⟩;simp only[ep6,ep1,ej1,a]
 congr 1
 simp only[ei0];rw[<-g,List.drop_left];simp
def ab1.setN(n:Int)(m:ab1 h w tb x):∃a,(Instr.storeAt 3 (.pointer (some ⟨tb,15,none⟩)) (.int .i64 n)).run prog w = .ok () a/\ab1 h a tb ⟨x.s,x.proc,x.up,n,x.loop⟩/\o8 (λb=>b=tb) w a:=by
 obtain⟨D,k,l⟩:=m;obtain⟨c,rfl,d⟩:=aT1 l;obtain⟨r,s,u,v,y,z,A,B,C,e,f,g,j,rfl⟩:=aR0 (A3.len d);obtain⟨a,o,p,q⟩:=af3 (P:=prog) (t:=3) (i:=15) (x:=.int .i64 n) k (by simp) rfl rfl (z7 aC6).choose_spec.1 (by rw[<-E1 (z7 aC6).choose_spec.1];exact bj6);exact⟨a,o,⟨_,p,_,rfl,d⟩,q⟩
def ab1.setLp(n:Int)(m:ab1 h w tb x):∃a,(Instr.storeAt 3 (.pointer (some ⟨tb,16,none⟩)) (.int .i64 n)).run prog w = .ok () a/\ab1 h a tb ⟨x.s,x.proc,x.up,x.next,n⟩/\o8 (λb=>b=tb) w a:=by
 obtain⟨D,k,l⟩:=m;obtain⟨c,rfl,d⟩:=aT1 l;obtain⟨r,s,u,v,y,z,A,B,C,e,f,g,j,rfl⟩:=aR0 (A3.len d);obtain⟨a,o,p,q⟩:=af3 (P:=prog) (t:=3) (i:=16) (x:=.int .i64 n) k (by simp) rfl rfl (z7 aC6).choose_spec.1 (by rw[<-E1 (z7 aC6).choose_spec.1];exact bj6);exact⟨a,o,⟨_,p,_,rfl,d⟩,q⟩
end
def cg3(h:Hp):A3.enc h [.int .i64 0,.int .i64 0,.slice none 0 0,p6 e0,p6 e0,.int .i64 0,.int .i64 0,p6 e0,.slice none 0 0,.bool false,.slice none 0 0,.slice none 0 0,.slice none 0 0] cT0:=by
 refine bC1.2 ⟨.slice none 0 0,[.int .i64 0,.int .i64 0,p6 e0,.slice none 0 0],.slice none 0 0,.slice none 0 0,.slice none 0 0,rfl,aN0 h,bC0.2 ⟨.slice none 0 0,rfl,aN0 h⟩,aN0 h,aN0 h,aN0 h⟩
def cN1(h:Hp)(a b c d:Int):∃v,B6 prog 150 [(1,.int .i64 a),(2,.int .i64 b),(3,.int .i64 c),(4,.int .i64 d)]=some v/\SV h v (⟨cT0,a,b,c,d⟩:It):=by
 refine⟨_,by simp[B6,dk9,J9,Instr.fill,Value.cells];rfl,_,rfl,_,rfl,cg3 h⟩
def cN0(h:Hp)(a c:Int):∃v,B6 prog 150 [(1,.int .i64 a),(3,.int .i64 c)]=some v/\SV h v (⟨cT0,a,0,c,0⟩:It):=by
 refine⟨_,by simp[B6,dk9,J9,Instr.fill,Value.cells];rfl,_,rfl,_,rfl,cg3 h⟩
end Go.Proofs.YtggahhenbbgffaaGreat

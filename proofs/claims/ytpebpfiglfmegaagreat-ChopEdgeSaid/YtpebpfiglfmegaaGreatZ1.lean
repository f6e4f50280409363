/- What the functions of the program do, for every input; plain facts. No condition, no statement of its own. Part 1. -/
import Derived.Calls
import Derived.IntWalk
import Derived.KernelRfl
import Derived.Laws.AppendOwn
import Derived.Laws.CopyRow
import Derived.Laws.Entries
import Derived.Laws.Sem
import Derived.Laws.Strings
import Derived.MapKept
import Derived.Maps.RangeRun
import Derived.Orders
import Derived.OrdersHeld
import Derived.StillTail
import Derived.Test.YtpebpfiglfmegaaGreatProg
set_option maxRecDepth 1000000
set_option maxHeartbeats 8000000
set_option linter.unusedVariables false
set_option linter.unusedSimpArgs false
set_option linter.unnecessarySimpa false
set_option linter.defProp false
namespace Go.Proofs.YtpebpfiglfmegaaGreat
open Go Tryz
theorem _root_.Go.Proofs.kr{α:Sort _}{a b:α}(h:a=b:=by kernel_rfl):a=b:=h
theorem _root_.Go.Proofs.tT{α:Type _}{o:Option α}{a b:α}(h:o=some a)(e:a=b:=by kernel_rfl):o=some b:=h.trans (congrArg some e)
theorem _root_.Go.Proofs.om{p:Prop}(h:p:=by omega):p:=h
theorem _root_.Go.Proofs.tt{p:Prop}(h:p:=by trivial):p:=h
theorem _root_.Go.Proofs.dP{p:Prop}(h:p:=by simp):p:=h
theorem _root_.Go.Proofs.dQ{p:Prop}(h:p:=by decide):p:=h
theorem _root_.Go.Proofs.so{p:Prop}(h:p:=by simp only[];omega):p:=h
def ej4:=@Array.getElem?_eq_some_iff
def el3:=@Bool.and_eq_true
def ep8:=@Bool.false_eq_true
def eu2:=@Bool.or_eq_true
def eq9:=@List.all_eq_true
def et5:=@List.getElem?_drop
def em1:=@List.length_cons
def ev1:=@List.mem_of_mem_drop
def et9:=@Nat.add_assoc
def ek6:=@Nat.le_refl
def en2:=@Nat.lt_or_ge
def em7:=@decide_eq_true_eq
def er8:=@if_false
def ep4:=@if_true
abbrev Fr:=Nat->Value
def ak1(a:Act):Fr:=λi=>a.tmps.getD i undef
def B8(f:Fr)(d:Nat)(v:Value):Fr:=λi=>if i=d then v else f i
theorem eg9{f:Fr}{d:Nat}{v:Value}{i:Nat}:B8 f d v i=if i=d then v else f i:=rfl
def C5(f:Fr):Option Nat->Value->Fr
 | some d,v=>B8 f d v
 | none,_=>f
def okd(n:Nat):Option Nat->Bool
 | some d=>decide (d<n)
 | none=>true
def ev(f:Fr):Operand->Value
 | .tmp t=>f t
 | .const v=>v
 | .global g=>.pointer (some ⟨g,0,none⟩)
 | .func g=>.func (.func g) #[] #[]
def ca4(a:Act):a.eval=ev (ak1 a):=by
 funext x;cases x<;>rfl
def bk1(a:Act)(d:Option Nat)(v:Value):(a.put d v).tmps.size=a.tmps.size:=by
 cases d<;>simp[Act.put]
def aN3(a:Act)(d:Option Nat)(v:Value):(a.put d v).defers=a.defers:=by
 cases d<;>simp[Act.put]
def bh2(a:Act)(d:Option Nat)(v:Value)(h:okd a.tmps.size d=true):ak1 (a.put d v)=C5 (ak1 a) d v:=by
 cases d with
 | none=>rfl
 | some d=>
  have b:d<a.tmps.size:=by simpa[okd]using h
  funext i
  simp only[ak1,Act.put,C5,B8,Array.getD_eq_getD_getElem?,Array.getElem?_setIfInBounds];by_cases hi:i=d
  .subst hi;simp[b]
  .have:¬d=i:=λe=>hi e.symm;simp[hi,this]
def aZ1(ops:Array Oper)(f:Fr)(j:Nat):Option Bool:=
 match(ops[j]?).bind (·.dst)with
 | some d=>match f d with
   | .bool b=>some b
   | _=>none
 | none=>none
def ay1(ops:Array Oper)(a:Act):yielded ops a.tmps=aZ1 ops (ak1 a):=by
 funext j
 unfold yielded aZ1;cases h:(ops[j]?).bind (·.dst)with
 | none=>simp
 | some d=>
  simp only[Option.bind_some,ak1,Array.getD_eq_getD_getElem?];cases h2:a.tmps[d]? with
  | none=>simp[undef]
  | some v=>cases v<;>rfl
def T9(P:Program)(o:Oper)(K:Fr->World->Prop)(f:Fr)(w:World):Prop:=
 match(execOp (ev f) o).run P w with
 | .ok (.value v) w'=>K (C5 f o.dst v) w'
 | .ok .skip w'=>K (C5 f o.dst undef) w'
 | .ok (.enter g args) w'=>Calls P g args w' λe a=>∃v,e = .returned v/\K (C5 f o.dst v) a
 | _=>False
def ar0{P:Program}{o:Oper}{K b:Fr->World->Prop}{f:Fr}{w:World}(h:∀f w,K f w->b f w)(a:T9 P o K f w):T9 P o b f w:=by
 unfold T9 at *;generalize(execOp (ev f) o).run P w=r at *;cases r with
 | halt x i=>exact a
 | ok n i=>
  cases n
  case value v=>exact h _ _ a
  case skip=>exact h _ _ a
  case enter g args=>exact Calls.mono a λe j ⟨v,c,d⟩=>⟨v,c,h _ _ d⟩
  all_goals exact a
def bK6(P:Program)(S:World->Prop)(o:Oper)(f:Fr)(v:Value):Prop:=
 ∀w,S w->(execOp (ev f) o).run P w = .ok (.value v) w
def lft(n:Nat)(Q:Exit->Fr->World->Prop):Exit->Act->World->Prop:=λe a w=>
 a.tmps.size=n/\a.defers=[]/\Q e (ak1 a) w
def bz5{P:Program}{o:Oper}{K:Fr->World->Prop}{a:Act}{w:World}{n:Nat}{Q:Exit->Act->World->Prop}
  {i:Act->World->Prop} (hn:a.tmps.size=n) (k:a.defers=[]) (p:okd n o.dst=true)
  (j:∀f b,f.tmps.size=n->f.defers=[]->K (ak1 f) b->i f b) (d:T9 P o K (ak1 a) w):o.wp P a w i Q:=by
 unfold T9 at d;unfold Oper.wp;rw[ca4];generalize(execOp (ev (ak1 a)) o).run P w=r at *;have c:∀v b,K (C5 (ak1 a) o.dst v) b->i (a.put o.dst v) b:=λv b h=>
  j _ _ (by rw[bk1];exact hn) (by rw[aN3];exact k) (by rw[bh2 _ _ _ (by rw[hn];exact p)];exact h)
 cases r with
 | halt x b=>exact d.elim
 | ok n b=>
  cases n
  case value v=>exact c _ _ d
  case skip=>exact c _ _ d
  case enter g args=>exact Calls.mono d λe q ⟨v,l,m⟩=>by subst l;exact c _ _ m
  all_goals exact d.elim
def Run(P:Program)(ops:Array Oper):List Oper->(Fr->World->Prop)->Fr->World->Prop
 | [],K,f,w=>K f w
 | o::l,K,f,w=>if Region.wanted o (aZ1 ops f)then T9 P o (Run P ops l K) f w else Run P ops l K (C5 f o.dst undef) w
def de1(n:Nat)(ops:Array Oper):Bool:=ops.all λo=>okd n o.dst
def aG6{P:Program}{ops:Array Oper}{n:Nat}{Q:Exit->Fr->World->Prop}:∀(l:List Oper) (a:Act) (w:World),(∀o∈l,okd n o.dst=true) ->
  a.tmps.size=n->a.defers=[]->Run P ops l (Q .normal) (ak1 a) w->wpList P ops (lft n Q) l a w
 | [],a,w,_,hn,hd,h=>⟨hn,hd,h⟩
 | o::l,a,w,ho,hn,hd,h=>by
  unfold Run at h;unfold wpList;rw[ay1];split
  .rename_i e;rw[if_pos e]at h;exact .inl (bz5 hn hd (ho o dP) (λg j d c i=>aG6 l g j (λf b=>ho f (by simp[b])) d c i) h)
  .rename_i e;rw[if_neg e]at h;exact aG6 l _ _ (λf b=>ho f (by simp[b])) (by rw[bk1];exact hn) (by rw[aN3];exact hd)
    (by rw[bh2 _ _ _ (by rw[hn];exact ho o dP)];exact h)
def flt:Op->Bool
 | .move _ | .assign _ | .pick .. | .load .. | .nilCheck _ | .binOp .. | .unOp .. | .convert .. | .makeFunc .. | .slice .. | .fieldAddr .. | .field .. | .indexAddr .. | .index .. | .lookup .. | .extract ..=>true
 | .call {callee:=.builtin b,..}=>match b with
   | .len | .cap | .min | .max=>true
   | _=>false
 | _=>false
inductive aR4 where
 | nil
 | op (i:Nat) (r:aR4)
 | fork (rs:List Nat) (k:Nat->aR4)
def aD9(P:Program)(ops:Array Oper)(S:World->Prop):aR4->(Fr->World->Prop)->Fr->World->Prop
 | .nil,K,f,w=>K f w
 | .op i l,K,f,w=>
  match ops[i]? with
  | none=>False
  | some o=>
   if Region.wanted o (aZ1 ops f)then
    if flt o.op then ∃v,bK6 P S o f v/\aD9 P ops S l K (C5 f o.dst v) w
    else T9 P o (λb a=>S a/\aD9 P ops S l K b a) f w
   else aD9 P ops S l K (C5 f o.dst undef) w
 | .fork rs k,K,f,w=>∀i∈rs,
   match ops[i]? with
   | none=>False
   | some o=>
    if Region.wanted o (aZ1 ops f)then T9 P o (λb a=>S a/\aD9 P ops S (k i) K b a) f w
    else aD9 P ops S (k i) K (C5 f o.dst undef) w
def bj4(ops:Array Oper)(n:Nat):Nat->aR4->Array Bool->Bool
 | 0,.nil,listed=>Region.seqB .any ops (ops.size-n) n listed
 | m+1,.op i l,listed=>decide (i<n)&&(match ops[i]? with
   | none=>false
   | some o=>(if flt o.op then(Region.ready .any ops listed).contains i&&Region.free .any ops listed i else decide (Region.ready .any ops listed=[i]))) &&
  bj4 ops n m l (listed.setIfInBounds i true)
 | m+1,.fork rs k,listed=>decide (Region.ready .any ops listed=rs) && !rs.isEmpty&&rs.all λi=>decide (i<n)&&bj4 ops n m (k i) (listed.setIfInBounds i true)
 | _,_,_=>false
def cq7(ops:Array Oper)(n:Nat)(a:aR4):Bool:=
 Region.noSelect ops&&(decide (n=ops.size)||(decide (n<ops.size)&&Region.sinkB .any ops n&&Region.chainB .any ops n)) &&
 bj4 ops n n a (Array.replicate ops.size false)
section
variable {P:Program} {ops:Array Oper} {Q:Exit->Act->World->Prop} {S:World->Prop}
def be9(P:Program)(ops:Array Oper)(Q:Exit->Act->World->Prop)(S:World->Prop)(n:Nat):Nat->Array Bool->Act->World->Prop
 | 0,listed,a,w=>Region.ready .any ops listed=[]/\Q .normal a w
 | fuel+1,listed,a,w=>
  (Region.ready .any ops listed=[]->Q .normal a w) /\
  ∀i∈Region.ready .any ops listed,wpOp P ops Q i (λc b=>(i<n->S b)/\be9 P ops Q S n fuel (listed.setIfInBounds i true) c b) a w
def bM2{n:Nat}:∀(b:Nat) (c:Array Bool) (a:Act) (w:World),be9 P ops Q S n b c a w->wpAny P .any ops Q b c a w
 | 0,_,_,_,h=>h
 | b+1,_,_,_,h=>⟨h.1,λi f=>wpOp_mono (λd g e=>bM2 b _ d g e.2) (h.2 i f)⟩
def cf8{n i:Nat}{u:Oper}{v:Value}(M:ops[i]?=some u)(q:∀(j:Nat) (o:Oper) z b,ops[j]?=some o->o.op ≠ .select z b)
  (V:∀c a w,Q (.panic c) (a.put u.dst v) w->Q (.panic c) a w) (Y:i<n)
  (R:∀d,HeadInv .any ops n d->d.getD i true=false->∀t,n<=t->t∉Region.ready .any ops d) :
  ∀(f:Nat) (d:Array Bool) (a:Act) (w:World),HeadInv .any ops n d ->
   (∀j x,ops[j]?=some x->j≠i->d.getD j true=false->(∀e∈x.after,Region.binds .any e=true->e.on≠i)->u.apart ops x=true) ->
   i∈Region.ready .any ops d->YieldsIf P ops S u v a->S w ->
   be9 P ops Q S n f (d.setIfInBounds i true) (a.put u.dst v) w->be9 P ops Q S n (f+1) d a w:=by
 intro f
 induction f with
 | zero=>
  intro d a w _ _ s K A H;refine⟨λh=>(by rw[h]at s;cases s),λj y=>?_⟩;by_cases hji:j=i
  .subst hji;exact K.wpOp M A ⟨λ_=>A,H⟩
  .have:=ready_mono y hji;rw[H.1]at this;cases this
 | succ f ih=>
  intro d a w F g s K A H;refine⟨λh=>(by rw[h]at s;cases s),λj y=>?_⟩;by_cases hji:j=i
  .subst hji;exact K.wpOp M A ⟨λ_=>A,H⟩
  .have I:=H.2 j (ready_mono y hji);obtain⟨p,x,r,B⟩:=mem_ready.1 y;have m:=(mem_ready.1 s).1;have C:j<n:=by
    rcases en2 j n with h|h
    .exact h
    .exact absurd y (R d F m j h)
   have D:∀e∈x.after,Region.binds .any e=true->e.on≠i:=λe X W L=>by
    have I:=B e X W;rw[L,getD_both m]at I;cases I
   have U:=wpOp_putIf r (g j x r hji p D) (λz b=>q i u z b M) (λz b=>q j x z b r) V K I;have l:∀k G,ops[k]?=some G->k≠i->(d.setIfInBounds j true).getD k true=false ->
     (∀e∈G.after,Region.binds .any e=true->e.on≠i)->u.apart ops G=true:=λk G Z N E O=>by
    refine g k G Z N ?_ O;by_cases hjk:j=k
    .subst hjk;exact p
    .rw[getD_set_ne true hjk]at E;exact E
   refine wpOp_mono (λT w' J=>⟨J.2.1,ih (d.setIfInBounds j true) T w' (F.set y C) l (ready_mono s (Ne.symm hji)) J.1 (J.2.1 C) ?_⟩) U;rw[Array.setIfInBounds_comm _ _ hji];exact J.2.2
def aG7{o:Oper}{i n:Nat}{K:Fr->World->Prop}{a:Act}{w:World}{d:Act->World->Prop}(k:ops[i]?=some o)
  (hn:a.tmps.size=n) (f:a.defers=[]) (g:okd n o.dst=true) (e:∀b j,b.tmps.size=n->b.defers=[]->K (ak1 b) j->d b j)
  (h:if Region.wanted o (aZ1 ops (ak1 a))then T9 P o K (ak1 a) w else K (C5 (ak1 a) o.dst undef) w):wpOp P ops Q i d a w:=by
 unfold wpOp;simp only[k];rw[ay1];split
 .rename_i c;rw[if_pos c]at h;exact .inl (bz5 hn f g e h)
 .rename_i c;rw[if_neg c]at h;exact e _ _ (by rw[bk1];exact hn) (by rw[aN3];exact f) (by rw[bh2 _ _ _ (by rw[hn];exact g)];exact h)
def bb4{n N:Nat}{Q:Exit->Fr->World->Prop}:∀(l:List Oper) (k:Nat) (b:Array Bool) (a:Act) (w:World),(∀j,l[j]?=ops[k+j]?)->n<=k ->
  (∀o∈l,okd N o.dst=true)->a.tmps.size=N->a.defers=[] ->
  Region.seqB .any ops l.length k b=true->Run P ops l (Q .normal) (ak1 a) w->be9 P ops (lft N Q) S n l.length b a w
 | [],_,_,_,_,_,_,_,hn,hd,hB,h=>⟨by simpa[Region.seqB]using hB,hn,hd,h⟩
 | o::l,k,b,a,w,hl,hk,ho,hn,hd,hB,h=>by
  have r:ops[k]?=some o:=by simpa using(hl 0).symm
  simp only[em1,Region.seqB,el3,em7]at hB;refine⟨λg=>(by rw[hB.1]at g;cases g),λi m=>?_⟩;rw[hB.1]at m;have e:i=k:=by simpa using m
  subst e;refine aG7 r hn hd (ho o dP) (K:=Run P ops l (Q .normal)) (λp t f d q=>⟨λh=>om,?_⟩) (by unfold Run at h;exact h);exact bb4 l (i+1) _ p t (λj=>by have:=hl (j+1);simpa[et9,Nat.add_comm 1 j]using this) om (λs c=>ho s (by simp[c])) f d hB.2 q
def bM1{n N:Nat}{Q:Exit->Fr->World->Prop}(hQ:∀c f w,¬Q (.panic c) f w)(hs:Region.noSelect ops=true)
  (Y:∀i,i<n->∀b,HeadInv .any ops n b->b.getD i true=false->∀t,n<=t->t∉Region.ready .any ops b) (u:∀o∈ops.toList,okd N o.dst=true) :
  ∀(m:Nat) (l:aR4) (b:Array Bool) (a:Act) (w:World),HeadInv .any ops n b->a.tmps.size=N->a.defers=[]->S w->bj4 ops n m l b=true ->
   aD9 P ops S l (Run P ops (ops.toList.drop n) (Q .normal)) (ak1 a) w->be9 P ops (lft N Q) S n (m+(ops.size-n)) b a w:=by
 have x:∀{i:Nat} {o:Oper},ops[i]?=some o->okd N o.dst=true:=by
  intro i o X;have:=Array.mem_of_getElem? X;exact u o (by simpa using this)
 intro m
 induction m with
 | zero=>
  intro l b a w p D G _ s h;cases l
  case nil=>
   have:=bb4 (S:=S) (n:=n) (N:=N) (Q:=Q) (P:=P) (ops:=ops) (ops.toList.drop n) n b a w (λj=>by simp[et5]) (ek6 _)
    (λo X=>u o (ev1 X)) D G (by simpa[bj4]using s) h
   simpa using this
  all_goals (simp[bj4]at s)
 | succ m ih=>
  intro l b a w p D G L s h;have e1:m+1+(ops.size-n)=(m+(ops.size-n))+1:=om
  rw[e1];cases l
  case nil=>simp[bj4]at s
  case op i l=>
   simp only[bj4,el3,em7]at s;obtain⟨⟨e,d⟩,r⟩:=s;simp only[aD9]at h;cases hoi:ops[i]? with
   | none=>simp[hoi]at h
   | some o=>
    simp only[hoi]at h d;have I:=x hoi;by_cases hf:flt o.op=true
    .simp only[hf,ep4,el3]at h d;have M:i∈Region.ready .any ops b:=by simpa using d.1
     have y:∀v,YieldsIf P ops S o v a->aD9 P ops S l (Run P ops (ops.toList.drop n) (Q .normal)) (C5 (ak1 a) o.dst v) w ->
       be9 P ops (lft N Q) S n ((m+(ops.size-n))+1) b a w:=λv hy T=>
      cf8 hoi (Region.noSelect_spec hs) (λc a w hh=>absurd hh.2.2 (hQ _ _ _)) e (Y i e) _ b a w p (Region.free_spec hoi d.2) M hy L
       (ih l _ _ w (p.set M e) (by rw[bk1];exact D) (by rw[aN3];exact G) L r (by rw[bh2 _ _ _ (by rw[D];exact I)];exact T))
     by_cases g:Region.wanted o (aZ1 ops (ak1 a))=true
     .rw[if_pos g]at h;obtain⟨v,hv,T⟩:=h;refine y v (.inl ⟨by rw[ay1];exact g,λq Z=>?_⟩) T;rw[ca4];exact hv q Z
     .rw[if_neg g]at h;exact y undef (.inr ⟨by rw[ay1];simpa using g,rfl⟩) h
    .simp only[hf,ep8,er8,em7]at h d;have M:i∈Region.ready .any ops b:=by rw[d];simp
     refine⟨λE=>(by rw[d]at E;cases E),λj hj=>?_⟩;rw[d]at hj;have V:j=i:=by simpa using hj
     subst V;refine aG7 hoi D G I (K:=λR q=>S q/\aD9 P ops S l (Run P ops (ops.toList.drop n) (Q .normal)) R q) (λO q A B z=>⟨λ_=>z.1,?_⟩) ?_
     .exact ih l _ O q (p.set M e) A B z.1 r z.2
     .split
      .rename_i g;rw[if_pos g]at h;exact h
      .rename_i g;rw[if_neg g]at h;exact⟨L,h⟩
  case fork rs k=>
   simp only[bj4,el3,em7,eq9]at s;obtain⟨⟨J,W⟩,F⟩:=s;simp only[aD9]at h;refine⟨λE=>(by rw[J]at E;subst E;simp at W),λi U=>?_⟩;have H:i∈rs:=by rw[J]at U;exact U
   have C:=h i H;obtain⟨e,r⟩:=F i H;cases hoi:ops[i]? with
   | none=>simp[hoi]at C
   | some o=>
    simp only[hoi]at C;refine aG7 hoi D G (x hoi) (K:=λR q=>S q/\aD9 P ops S (k i) (Run P ops (ops.toList.drop n) (Q .normal)) R q) (λO q A B z=>⟨λ_=>z.1,?_⟩) ?_
    .exact ih (k i) _ O q (p.set U e) A B z.1 r z.2
    .split
     .rename_i g;rw[if_pos g]at C;exact C
     .rename_i g;rw[if_neg g]at C;exact⟨L,C⟩
def bM3{id n N:Nat}{e:aR4}{Q:Exit->Fr->World->Prop}{a:Act}{w:World}(hm:P.follows .mixedOrders=true)(C:∀c f w,¬Q (.panic c) f w)
  (k:cq7 ops n e=true) (g:de1 N ops=true) (D:a.tmps.size=N) (E:a.defers=[]) (hS:S w.drew)
  (h:aD9 P ops S e (Run P ops (ops.toList.drop n) (Q .normal)) (ak1 a) w.drew):(Code.region id ops true).wp P (lft N Q) a w:=by
 simp only[cq7,el3]at k;obtain⟨⟨H,d⟩,l⟩:=k;have I:n<=ops.size:=by
  simp only[eu2,em7,el3]at d;omega
 have m:HeadInv .any ops n (Array.replicate ops.size false):=
  ⟨dP,λj J _ y=>(by rw[getD_replicate_false]at y;cases y),λt _ r=>getD_in (by simpa using r) (getD_replicate_false _ _)⟩
 have s:∀i,i<n->∀b,HeadInv .any ops n b->b.getD i true=false->∀t,n<=t->t∉Region.ready .any ops b:=by
  intro i F b v u t r z;simp only[eu2,em7,el3]at d;rcases d with x|⟨⟨x,A⟩,B⟩
  .obtain⟨_,K,q,_⟩:=mem_ready.1 z;have:=(ej4.1 q).1;omega
  .exact tail_waits A B x v _ i rfl F u t r z
 refine wp_region_any hm (bM2 (S:=S) (n:=n) _ _ _ _ ?_);have p:∀o∈ops.toList,okd N o.dst=true:=by
  intro o G;have:=Array.all_eq_true'.1 g o (by simpa using G);exact this
 have:=bM1 (S:=S) C H s p n e _ a w.drew m D E hS l h
 rwa [show n+(ops.size-n)=ops.size by omega]at this
end
def er3:=@List.getElem?_eq_none
def en8:=@List.map_cons
def eo6:=@Option.isSome_iff_exists
def ep0:=@Option.map_some
def el4:=@Option.some.inj
def eu0:=@Option.some.injEq
def ek8:=@Result.andThen_ok
def el7:=@Sem.run_bind
def en1:=@Sem.run_pure
def N5(P:Program)(t:TypeId):Option TypeId:=match P.underlying t with
 | some (.slice e)=>some e
 | _=>none
def ce2(P:Program)(t:TypeId):Bool:=match P.underlying t with
 | some .string=>true
 | _=>false
def bY6(P:Program)(t:TypeId):Option (Nat×TypeId):=match P.underlying t with
 | some (.array n e)=>some (n,e)
 | _=>none
def N6(P:Program)(t:TypeId):Nat:=((P.info? t).map (·.size)).getD 0
def I4(P:Program)(t:TypeId):Option Value:=(P.info? t).bind (·.zero)
def dd1(P:Program)(t:TypeId):Nat:=((P.info? t).map (·.bytes)).getD 0
def J4(P:Program)(t:TypeId):Bool:=match P.underlying t with
 | some (.struct _)=>true
 | some (.array _ _)=>true
 | none=>true
 | _=>false
def C8(P:Program)(s:TypeId)(i:Nat):Option (Nat×TypeId):=match P.underlying s with
 | some (.struct fs)=>match fs[i]? with
   | some a=>if N6 P a.type=0 then none else some (a.offset,a.type)
   | none=>none
 | _=>none
def eqT(P:Program)(t:TypeId):Nat:=match P.underlying t with
 | some .bool=>1
 | some (.pointer _)=>2
 | some (.slice _)=>3
 | some (.map _ _)=>4
 | some (.func _ _ _)=>5
 | some (.interface _)=>6
 | _=>0
def dx4(P:Program)(t:TypeId):Option IntKind:=match P.underlying t with
 | some (.int k)=>some k
 | _=>none
def P2(P:Program)(t:TypeId):Option (Array Value×List (Nat×Nat)):=match(P.info? t).bind (·.zero),P.underlying t with
 | some z,some (.struct fs)=>if fs.toList.all (λa=>(P.info? a.type).isSome)then some (z.cells,fs.toList.map λa=>(a.offset,N6 P a.type))else none
 | some z,some (.array n e)=>if(P.info? e).isSome then some (z.cells,(List.range n).map λi=>(i*N6 P e,N6 P e))else none
 | _,_=>none
def isS:Value->Bool
 | .slice _ _ _=>true
 | _=>false
def vlen:Value->Nat
 | .slice _ n _=>n
 | _=>0
def co8:Value->Bool
 | .slice none _ _=>true
 | _=>false
def vcap:Value->Nat
 | .slice _ _ c=>c
 | _=>0
def inS:Value->Nat->Bool
 | .slice (some _) n _,k=>decide (k<n)
 | _,_=>false
def G8:Value->Nat->Addr
 | .slice (some a) _ _,k=>a.add k
 | _,_=>default
def reS(v:Value)(l h sz:Nat):Value:=match v with
 | .slice a _ cap=>.slice (if cap=l then a else a.map (·.add (l*sz))) (h-l) (cap-l)
 | _=>undef
def I1(op:BinOp)(k:IntKind)(a b:Int):Option Value:=match op with
 | .add=>some (.int k (k.wrap (a+b)))
 | .sub=>some (.int k (k.wrap (a-b)))
 | .mul=>some (.int k (k.wrap (a*b)))
 | .quo=>if b=0 then none else some (.int k (k.wrap (a.tdiv b)))
 | .rem=>if b=0 then none else some (.int k (a.tmod b))
 | .eql=>some (.bool (a==b))
 | .neq=>some (.bool (a != b))
 | .lss=>some (.bool (a<b))
 | .leq=>some (.bool (a<=b))
 | .gtr=>some (.bool (a>b))
 | .geq=>some (.bool (a≥b))
 | .and=>some (.int k (k.wrap (BitVec.ofInt k.bits a &&& BitVec.ofInt k.bits b).toNat))
 | .or=>some (.int k (k.wrap (BitVec.ofInt k.bits a ||| BitVec.ofInt k.bits b).toNat))
 | .xor=>some (.int k (k.wrap (BitVec.ofInt k.bits a ^^^ BitVec.ofInt k.bits b).toNat))
 | .andNot=>some (.int k (k.wrap (BitVec.ofInt k.bits a &&& ~~~BitVec.ofInt k.bits b).toNat))
 | _=>none
def D1(P:Program)(op:BinOp)(t:TypeId):Value->Value->Option Value
 | .int k a,.int k' b=>match op with
   | .shl=>if b<0 then none else some (.int k (k.wrap (a*2 ^ (min b.toNat k.bits))))
   | .shr=>if b<0 then none else some (.int k (a.fdiv (2 ^ (min b.toNat k.bits))))
   | _=>if k=k' then I1 op k a b else none
 | .string a,.string b=>match op with
   | .eql=>some (.bool (a.toList==b.toList))
   | .neq=>some (.bool !(a.toList==b.toList))
   | .lss=>some (.bool (Op.bytesLess a.toList b.toList))
   | .leq=>some (.bool (Op.bytesLess a.toList b.toList||a.toList==b.toList))
   | .gtr=>some (.bool !(Op.bytesLess a.toList b.toList||a.toList==b.toList))
   | .geq=>some (.bool !(Op.bytesLess a.toList b.toList))
   | .add=>if((a.size+b.size:Nat):Int)>IntKind.i64.max then none else some (.string (a++b))
   | _=>none
 | .bool a,.bool b=>match op with
   | .eql=>if eqT P t=1 then some (.bool (a==b))else none
   | .neq=>if eqT P t=1 then some (.bool !(a==b))else none
   | _=>none
 | .pointer a,.pointer none=>match op with
   | .eql=>if eqT P t=2 then some (.bool a.isNone)else none
   | .neq=>if eqT P t=2 then some (.bool !a.isNone)else none
   | _=>none
 | a,.slice none 0 0=>match op with
   | .eql=>if isS a&&eqT P t==3 then some (.bool (co8 a))else none
   | .neq=>if isS a&&eqT P t==3 then some (.bool !(co8 a))else none
   | _=>none
 | _,_=>none
def unV(op:UnOp):Value->Option Value
 | .bool b=>match op with
   | .not=>some (.bool !b)
   | _=>none
 | .int k n=>match op with
   | .neg=>some (.int k (k.wrap (0-n)))
   | _=>none
 | _=>none
def ca6(P:Program)(s:TypeId)(i:Nat):Value->Option Value
 | .pointer (some a)=>match C8 P s i with
   | some (o,_)=>some (.pointer (some (a.add o)))
   | none=>none
 | _=>none
def cp8(P:Program)(t:TypeId)(cs:Array Value)(o:Nat):Option Value:=
 if J4 P t then(if(P.info? t).isSome&&(P.underlying t).isSome then some (.agg (cs.extract o (o+N6 P t)))else none)else cs[o]?
def ca5(P:Program)(s:TypeId)(i:Nat):Value->Option Value
 | .agg cs=>match C8 P s i with
   | some (o,t)=>cp8 P t cs o
   | none=>none
 | _=>none
def A0(P:Program)(t:TypeId)(x:Value):Value->Option Value
 | .int _ n=>match N5 P t with
   | some e=>if(P.info? e).isSome&&decide (0<=n)&&inS x n.toNat then some (.pointer (some (G8 x (n.toNat*N6 P e))))else none
   | none=>match bY6 P t,x with
     | some (len,e),.pointer (some a)=>if(P.info? e).isSome&&decide (0<=n)&&decide (n<len)then some (.pointer (some (a.add (n.toNat*N6 P e))))else none
     | _,_=>none
 | _=>none
def aB1(P:Program)(t:TypeId)(x:Value):Value->Option Value
 | .int _ n=>match bY6 P t,x with
   | some (len,e),.agg cs=>if(P.info? e).isSome&&decide (0<=n)&&decide (n<len)then cp8 P e cs (n.toNat*N6 P e)else none
   | none,.string s=>if ce2 P t&&decide (0<=n)then(s[n.toNat]?).map λb=>.int .u8 b.toNat else none
   | _,_=>none
 | _=>none
def M4(P:Program)(t:TypeId)(x:Value)(b a:Option Value):Option Value:=
 match(match b with|none=>some 0|some (.int _ n)=>some n|_=>none:Option Int),
  (match a with|none=>some ((if isS x then vlen x else match x with | .string s=>s.size|_=>0:Nat):Int)|some (.int _ n)=>some n|_=>none:Option Int)with
 | some l,some h=>match N5 P t with
   | some e=>if(P.info? e).isSome&&isS x&&decide (0<=l)&&decide (l<=h)&&decide (h<=vcap x)then some (reS x l.toNat h.toNat (N6 P e))else none
   | none=>match x with
     | .string s=>if ce2 P t&&decide (0<=l)&&decide (l<=h)&&decide (h<=s.size)then some (.string (s.extract l.toNat h.toNat))else none
     | _=>none
 | _,_=>none
def ab0(P:Program)(t:TypeId)(x:Value):Option Value:=
 if(N5 P t).isSome then(if isS x then some (.int .i64 (vlen x))else none)
 else match x with
  | .string s=>if ce2 P t then some (.int .i64 s.size)else none
  | _=>match bY6 P t with
    | some (n,_)=>some (.int .i64 n)
    | none=>none
def dv2(P:Program)(t:TypeId)(x:Value):Option Value:=
 if(N5 P t).isSome&&isS x then some (.int .i64 (vcap x))else none
def bv1(P:Program)(s d:TypeId):Value->Option Value
 | .int _ n=>match dx4 P d with
   | some k=>if(P.underlying s).isSome then some (.int k (k.wrap n))else none
   | none=>none
 | _=>none
def K7(a:List (Nat×Nat))(cs:Array Value)(parts:List (Nat×Value)):Option (Array Value):=Instr.fill (λi=>a[i]?) cs parts
def C1(P:Program)(t:TypeId)(parts:List (Nat×Value)):Option Value:=
 match P2 P t with
 | some (z,pl)=>(K7 pl z parts).map .agg
 | none=>none
def dj0:Value->Value->Option Value
 | .int k x,.int _ y=>some (.int k (if y<x then y else x))
 | _,_=>none
def di7:Value->Value->Option Value
 | .int k x,.int _ y=>some (.int k (if y>x then y else x))
 | _,_=>none
def aC1(P:Program)(f:Fr):Op->Option Value
 | .move x=>some (ev f x)
 | .assign x=>some (ev f x)
 | .pick c a b=>match ev f c with
   | .bool t=>some (if t then ev f a else ev f b)
   | _=>none
 | .binOp op t x y _=>D1 P op t (ev f x) (ev f y)
 | .unOp op _ x=>unV op (ev f x)
 | .fieldAddr s x i=>ca6 P s i (ev f x)
 | .field s x i=>ca5 P s i (ev f x)
 | .indexAddr t x i=>A0 P t (ev f x) (ev f i)
 | .index t x i=>aB1 P t (ev f x) (ev f i)
 | .slice t x lo hi none=>M4 P t (ev f x) (lo.map (ev f)) (hi.map (ev f))
 | .extract x i=>match ev f x with
   | .tuple vs=>vs[i]?
   | _=>none
 | .convert s d x=>bv1 P s d (ev f x)
 | .nilCheck x=>match ev f x with
   | .pointer (some a)=>some (.pointer (some a))
   | _=>none
 | .makeFunc fn first cap=>some (.func fn (first.map (ev f)) (cap.map (ev f)))
 | .build t parts=>C1 P t (parts.toList.map λp=>(p.1,ev f p.2))
 | .call c=>match c.callee with
   | .builtin .len=>match c.args.toList,c.argTypes.toList with
     | [x],[t]=>ab0 P t (ev f x)
     | _,_=>none
   | .builtin .cap=>match c.args.toList,c.argTypes.toList with
     | [x],[t]=>dv2 P t (ev f x)
     | _,_=>none
   | .builtin .min=>match c.args.toList with
     | [x,y]=>dj0 (ev f x) (ev f y)
     | _=>none
   | .builtin .max=>match c.args.toList with
     | [x,y]=>di7 (ev f x) (ev f y)
     | _=>none
   | _=>none
 | _=>none
section
variable {P:Program}
def I6(t:TypeId)(w:World):(underlying t).run P w=match P.underlying t with
  | some d=>.ok d w
  | none=>.halt (.stuck "no such type") w:=by
 simp only[underlying,program,el7,Sem.run,ek8];cases P.underlying t<;>rfl
def O0(t:TypeId)(w:World):(typeInfo t).run P w=match P.info? t with
  | some d=>.ok d w
  | none=>.halt (.stuck "no such type") w:=by
 simp only[typeInfo,program,el7,Sem.run,ek8];cases P.info? t<;>rfl
def T8{t:TypeId}(h:(P.info? t).isSome=true)(w:World):(sizeOf t).run P w = .ok (N6 P t) w:=by
 obtain⟨i,a⟩:=eo6.1 h;simp[sizeOf,O0,a,N6]
def ag7(t:TypeId)(h:(P.underlying t).isSome=true)(w:World):(isAgg t).run P w = .ok (J4 P t) w:=by
 obtain⟨i,a⟩:=eo6.1 h;unfold isAgg J4;rw[el7,I6,a];cases i<;>rfl
def bm6{t:TypeId}(h:J4 P t=false):(P.underlying t).isSome=true:=by
 unfold J4 at h;cases hu:P.underlying t with
 | none=>simp[hu]at h
 | some d=>rfl
def bJ2{t:TypeId}{cs:Array Value}{o:Nat}{v:Value}(h:cp8 P t cs o=some v)(w:World):(part t cs o).run P w = .ok v w:=by
 unfold cp8 at h;unfold part;by_cases ha:J4 P t=true
 .rw[if_pos ha]at h;by_cases hi:((P.info? t).isSome&&(P.underlying t).isSome)=true
  .rw[if_pos hi]at h;simp only[el3]at hi;obtain rfl:=el4 h;simp only[el7,ag7 t hi.2,ek8,ha,Sem.run_ite,ep4,T8 hi.1,en1]
  .rw[if_neg hi]at h;cases h
 .have a:J4 P t=false:=by simpa using ha
  rw[if_neg ha]at h;simp only[el7,ag7 t (bm6 a),ek8,a,ep8,er8,h,en1]
def br5{op:BinOp}{t:TypeId}{x y:Operand}{a b:Value}(d:a ≠ .nilIface)(e:∀c,a ≠ .agg c)(w:World):
  (eqGuard op t x y a b).run P w = .ok () w:=by
 unfold eqGuard;cases op<;>first|rfl|(cases a<;>first|rfl|exact absurd rfl d|exact absurd rfl (e _))
def cw2{op:BinOp}{t:TypeId}{x y:Operand}{a b v:Value}(h:D1 P op t a b=some v)(w:World):
  (do eqGuard op t x y a b;binOp op t a b:Sem Value).run P w = .ok v w:=by
 have k:(eqGuard op t x y a b).run P w = .ok () w:=by
  apply br5
  .rintro rfl;unfold D1 at h;split at h<;>first
    | (simp_all;done)
    | (split at h<;>simp_all [isS])
  .rintro m rfl;unfold D1 at h;split at h<;>first
    | (simp_all;done)
    | (split at h<;>simp_all [isS])
 rw[el7,k,ek8];unfold D1 at h;split at h
 .split at h
  .split at h
   .cases h
   .rename_i g;obtain rfl:=el4 h;simp[binOp,Op.shift,g]
  .split at h
   .cases h
   .rename_i g;obtain rfl:=el4 h;simp[binOp,Op.shift,g]
  .rename_i o r;split at h
   .rename_i l;subst l;unfold I1 at h;cases op<;>simp only[eu0]at h <;>
     first
     | (subst h;simp[binOp,Op.intArith,Op.intCmp,Op.intBits])
     | (split at h<;>first|(rename_i g;obtain rfl:=el4 h;simp[binOp,Op.intDiv,g];done)|(cases h;done))
     | (exact absurd rfl (by assumption))
     | cases h
   .cases h
 .split at h<;>first
   | (obtain rfl:=el4 h;simp[binOp,Op.stringOp])
   | (split at h<;>first|(rename_i g;obtain rfl:=el4 h;simp only[binOp,Op.stringOp];rw[if_neg g];rfl)|(cases h;done))
   | cases h
 .have f:∀{p q:Bool},eqT P t=1->(Op.equal t (.bool p) (.bool q)).run P w = .ok (p==q) w:=by
   intro p q e;unfold eqT at e;unfold Op.equal Op.maxDepth Op.equalIn;rw[el7,I6];cases hu:P.underlying t with
   | none=>simp[hu]at e
   | some d=>cases d<;>simp[hu]at e ⊢
  split at h<;>first
   | (split at h
      .rename_i e;obtain rfl:=el4 h;simp[binOp,f e]
      .cases h)
   | cases h
 .have f:∀{p:Option Addr},eqT P t=2->(Op.equal t (.pointer p) (.pointer none)).run P w = .ok p.isNone w:=by
   intro p e;unfold eqT at e;unfold Op.equal Op.maxDepth Op.equalIn;rw[el7,I6];cases hu:P.underlying t with
   | none=>simp[hu]at e
   | some d=>cases d<;>simp[hu]at e ⊢<;> (cases p<;>rfl)
  split at h<;>first
   | (split at h
      .rename_i e;obtain rfl:=el4 h;simp[binOp,f e]
      .cases h)
   | cases h
 .have f:isS a=true->eqT P t=3->(Op.equal t a (.slice none 0 0)).run P w = .ok (co8 a) w:=by
   intro j e;cases a
   case slice p n c=>
    unfold eqT at e;unfold Op.equal Op.maxDepth Op.equalIn;rw[el7,I6];cases hu:P.underlying t with
    | none=>simp[hu]at e
    | some d=>cases d<;>simp[hu]at e ⊢<;> (cases p<;>rfl)
   all_goals (simp[isS]at j)
  have i:isS a=true->binOp .eql t a (.slice none 0 0)=(do pure (.bool (<-Op.equal t a (.slice none 0 0))))/\binOp .neq t a (.slice none 0 0)=(do pure (.bool (!(<-Op.equal t a (.slice none 0 0))))):=by
   intro j;cases a
   case slice p n c=>exact⟨rfl,rfl⟩
   all_goals (simp[isS]at j)
  split at h<;>first
   | (split at h
      .rename_i e;simp only[el3,beq_iff_eq]at e;obtain rfl:=el4 h
       first|rw[(i e.1).1]|rw[(i e.1).2]
       simp[f e.1 e.2]
      .cases h)
   | cases h
 .cases h
def P4{t e:TypeId}(h:N5 P t=some e):P.underlying t=some (.slice e):=by
 unfold N5 at h;cases hu:P.underlying t with
 | none=>simp[hu]at h
 | some d=>cases d<;>simp[hu]at h;subst h;rfl
def bo5{t e:TypeId}{n:Nat}(h:bY6 P t=some (n,e)):P.underlying t=some (.array n e):=by
 unfold bY6 at h;cases hu:P.underlying t with
 | none=>simp[hu]at h
 | some d=>cases d<;>simp[hu]at h;obtain⟨rfl,rfl⟩:=h;rfl
def aY1{t:TypeId}(h:ce2 P t=true):P.underlying t=some .string:=by
 unfold ce2 at h;cases hu:P.underlying t with
 | none=>simp[hu]at h
 | some d=>cases d<;>simp[hu]at h;rfl
def cD4{t:TypeId}(h:¬N6 P t=0):(P.info? t).isSome=true:=by
 unfold N6 at h;cases hi:P.info? t with
 | none=>simp[hi]at h
 | some i=>rfl
def bv5{s:TypeId}{i o t:Nat}(h:C8 P s i=some (o,t)):∃b a,P.underlying s=some (.struct b)/\b[i]?=some a/\¬N6 P t=0/\a.offset=o/\a.type=t:=by
 unfold C8 at h;cases hu:P.underlying s with
 | none=>simp[hu]at h
 | some d=>
  cases d
  case struct b=>
   simp only[hu]at h;cases hf:b[i]? with
   | none=>simp[hf]at h
   | some a=>
    simp only[hf]at h;split at h
    .cases h
    .rename_i c;simp only[eu0,Prod.mk.injEq]at h;obtain⟨rfl,rfl⟩:=h;exact⟨b,a,rfl,hf,c,rfl,rfl⟩
  all_goals simp[hu]at h
def ca7{s i:Nat}{x v:Value}(h:ca6 P s i x=some v)(w:World):(Instr.fieldAt s x i).run P w = .ok v w:=by
 unfold ca6 at h;split at h
 .split at h
  .rename_i a o t g;obtain⟨k,j,c,d,b,e,f⟩:=bv5 g;obtain rfl:=el4 h;subst e f;unfold Instr.fieldAt;rw[el7,I6,c];simp only[ek8,d,el7,Instr.sureAddr,en1,Go.fieldPlace,T8 (cD4 b),Sem.run_ite];rw[if_neg b];rfl
  .cases h
 .cases h
def cy1{s i:Nat}{x v:Value}(h:ca5 P s i x=some v)(w:World):(Instr.field s x i).run P w = .ok v w:=by
 unfold ca5 at h;split at h
 .split at h
  .rename_i f o t e;obtain⟨j,g,a,b,k,c,d⟩:=bv5 e;subst c d;unfold Instr.field;rw[el7,I6,a];simp only[ek8,b,el7,asAgg,en1,bJ2 h]
  .cases h
 .cases h
def dh0{x:Value}{k:Nat}(h:inS x k=true):∃a n c,x = .slice (some a) n c/\k<n:=by
 unfold inS at h;split at h
 .exact⟨_,_,_,rfl,by simpa using h⟩
 .cases h
def cz6{t:Nat}{x i v:Value}(h:A0 P t x i=some v)(w:World):(Instr.indexAt t x i).run P w = .ok v w:=by
 unfold A0 at h;split at h
 .rename_i k n;split at h
  .rename_i e d;split at h
   .rename_i b;simp only[el3,em7]at b;obtain⟨⟨f,o⟩,g⟩:=b;obtain⟨a,m,c,rfl,j⟩:=dh0 g;obtain rfl:=el4 h;unfold Instr.indexAt;simp only[asIntOf,el7,en1,ek8,I6,P4 d];have:0<=n/\n<(m:Int):=om
    simp only[this,and_self,ep4,el7,T8 f,ek8,en1,G8]
   .cases h
  .split at h
   .rename_i l e a d;split at h
    .rename_i b;simp only[el3,em7]at b;obtain⟨⟨f,o⟩,j⟩:=b;obtain rfl:=el4 h;unfold Instr.indexAt;simp only[asIntOf,el7,en1,ek8,I6,bo5 d,Instr.sureAddr];have:0<=n/\n<(l:Int):=om
     simp only[this,and_self,ep4,el7,T8 f,ek8,en1]
    .cases h
   .cases h
 .cases h
def cb4{t:Nat}{x i v:Value}(h:aB1 P t x i=some v)(w:World):(Instr.index t x i).run P w = .ok v w:=by
 unfold aB1 at h;split at h
 .rename_i k n;split at h
  .rename_i c e m f;split at h
   .rename_i a;simp only[el3,em7]at a;obtain⟨⟨g,d⟩,j⟩:=a;unfold Instr.index;simp only[asIntOf,el7,en1,ek8,I6,bo5 f];have:0<=n/\n<(c:Int):=om
    simp only[this,and_self,ep4,el7,T8 g,ek8,bJ2 h]
   .cases h
  .rename_i s f;split at h
   .rename_i a;simp only[el3,em7]at a;obtain⟨l,d⟩:=a;unfold Instr.index;simp only[asIntOf,el7,en1,ek8,I6,aY1 l,d,ep4];cases hb:s[n.toNat]? with
    | none=>simp[hb]at h
    | some b=>
     simp only[hb,ep0,eu0]at h;subst h;rfl
   .cases h
  .cases h
 .cases h
def cA0{t:TypeId}{x v:Value}{ty:TypeId}(h:ab0 P t x=some v)(w:World):(Builtin.len_ #[t] ty #[x]).run P w = .ok v w:=by
 unfold ab0 at h;split at h
 .rename_i b;obtain⟨e,b⟩:=eo6.1 b;split at h
  .rename_i d;obtain rfl:=el4 h;cases x
   case slice a n c=>simp[Builtin.len_,I6,P4 b,vlen,goInt]
   all_goals simp[isS]at d
  .cases h
 .split at h
  .rename_i s;split at h
   .rename_i d;obtain rfl:=el4 h;simp[Builtin.len_,I6,aY1 d,goInt]
   .cases h
  .rename_i f;split at h
   .rename_i n e b;obtain rfl:=el4 h;cases x<;>simp[Builtin.len_,I6,bo5 b,goInt]
   .cases h
def cw9{t:TypeId}{x v:Value}{ty:TypeId}(h:dv2 P t x=some v)(w:World):(Builtin.cap_ #[t] ty #[x]).run P w = .ok v w:=by
 unfold dv2 at h;split at h
 .rename_i b;simp only[el3]at b;obtain⟨e,d⟩:=eo6.1 b.1;obtain rfl:=el4 h;cases x
  case slice a n c=>simp[Builtin.cap_,I6,P4 d,vcap,goInt]
  all_goals (simp[isS]at b)
 .cases h
def cj1{s d:TypeId}{x v:Value}(h:bv1 P s d x=some v)(w:World):(convert s d x).run P w = .ok v w:=by
 unfold bv1 at h;split at h
 .split at h
  .rename_i k a;split at h
   .rename_i f;obtain rfl:=el4 h;obtain⟨g,b⟩:=eo6.1 f;have e:P.underlying d=some (.int k):=by
     unfold dx4 at a;cases hu:P.underlying d with
     | none=>simp[hu]at a
     | some c=>cases c<;>simp[hu]at a;subst a;rfl
    unfold convert;simp only[el7,I6,b,e,ek8,Conv.intToInt,en1]
   .cases h
  .cases h
 .cases h
def bY9{t:TypeId}{parts:List (Nat×Value)}{v:Value}(h:C1 P t parts=some v)(w:World):(Instr.build t parts.toArray).run P w = .ok v w:=by
 unfold C1 at h;cases hb:P2 P t with
 | none=>simp[hb]at h
 | some B=>
  obtain⟨z,C⟩:=B;simp only[hb]at h;unfold P2 at hb;have l:∀(g:List Field),(g.all λk=>(P.info? k.type).isSome)=true ->
    (g.mapM (m:=Sem) λf=>do pure (f.offset,<-sizeOf f.type)).run P w = .ok (g.map λk=>(k.offset,N6 P k.type)) w:=by
   intro g
   induction g with
   | nil=>intro _;simp
   | cons f g s=>
    intro a;simp only[List.all_cons,el3]at a;simp only[List.mapM_cons,el7,T8 a.1,ek8,en1,s a.2,en8]
  unfold Instr.build zeroValue;cases hi:P.info? t with
  | none=>simp[hi]at hb
  | some i=>
   cases hz:i.zero with
   | none=>simp[hi,hz]at hb
   | some x=>
    simp only[hi,Option.bind_some,hz]at hb;simp only[el7,O0,hi,ek8,hz,en1,I6];cases hu:P.underlying t with
    | none=>simp[hu]at hb
    | some d=>
     cases d
     case struct g=>
      simp only[hu]at hb;split at hb
      .rename_i a;simp only[eu0,Prod.mk.injEq]at hb;obtain⟨rfl,rfl⟩:=hb;simp only[ek8];rw[Array.mapM_eq_mapM_toList];simp only[el7,Sem.run_map]
       erw [l _ a]
       simp only[ek8];unfold K7 at h;simp only[List.getElem?_toArray];cases hf:Instr.fill (λi=>(g.toList.map λk=>(k.offset,N6 P k.type))[i]?) x.cells parts with
       | none=>rw[hf]at h;cases h
       | some j=>
        simp only[hf,ep0,eu0]at h;subst h;rfl
      .cases hb
     case array n e=>
      simp only[hu]at hb;split at hb
      .rename_i A;simp only[eu0,Prod.mk.injEq]at hb;obtain⟨rfl,rfl⟩:=hb;simp only[ek8,el7,T8 A];unfold K7 at h;have E2:∀(o:List (Nat×Value)) (p c:Array Value),Instr.fill (λi=>((List.range n).map λi=>(i*N6 P e,N6 P e))[i]?) p o=some c ->
         Instr.fill (λi=>some (i*N6 P e,N6 P e)) p o=some c:=by
        intro o
        induction o with
        | nil=>intro p c b;exact b
        | cons q o s=>
         intro p c b;obtain⟨u,D⟩:=q;unfold Instr.fill at b ⊢;by_cases hq:u<n
         .have r:((List.range n).map λi=>(i*N6 P e,N6 P e))[u]?=some (u*N6 P e,N6 P e):=by simp[hq]
          rw[r]at b;simp only at b ⊢;split at b
          .cases b
          .rename_i y;rw[if_neg y];exact s _ _ b
         .rw[er3 (by simpa using hq)]at b;cases b
       cases hf:Instr.fill (λi=>((List.range n).map λi=>(i*N6 P e,N6 P e))[i]?) x.cells parts with
       | none=>rw[hf]at h;cases h
       | some j=>
        simp only[hf,ep0,eu0]at h;subst h;simp only[E2 _ _ _ hf];rfl
      .cases hb
     all_goals simp[hu]at hb
def ce1{t:TypeId}{x v:Value}{m g:Option Value}(h:M4 P t x m g=some v)(w:World):(Instr.sliceAt t x m g none).run P w = .ok v w:=by
 unfold M4 at h;split at h
 .rename_i l j f b;have i:(∃k,m=some (.int k l))\/m=none/\l=0:=by
   split at f
   .exact .inr ⟨rfl,(el4 f).symm⟩
   .obtain rfl:=el4 f;exact .inl ⟨_,rfl⟩
   .cases f
  split at h
  .rename_i e y;split at h
   .rename_i o;simp only[el3,em7]at o;obtain⟨⟨⟨⟨r,p⟩,z⟩,A⟩,u⟩:=o;obtain rfl:=el4 h;have d:(∃k,g=some (.int k j))\/g=none/\j=vlen x:=by
     split at b
     .rw[p,if_pos rfl]at b;exact .inr ⟨rfl,(el4 b).symm⟩
     .obtain rfl:=el4 b;exact .inl ⟨_,rfl⟩
     .cases b
    cases x
    case slice a n c=>
     simp only[vcap]at u;simp only[vlen]at d;have q:(Instr.sliceBounds true n c m g none).run P w = .ok (l.toNat,j.toNat,c) w:=by
      rcases i with⟨k,rfl⟩|⟨rfl,rfl⟩<;>rcases d with⟨B,rfl⟩|⟨rfl,rfl⟩ <;>
       simp only[Instr.sliceBounds,Instr.sliceBound,asIntOf,el7,en1,ek8]
      .rw[if_pos om];simp only[en1,ek8];rw[if_pos om];rfl
      .rw[if_pos om];rfl
      .rw[if_pos om];rfl
      .rfl
     unfold Instr.sliceAt;simp only[el7,I6,P4 y,ek8];unfold Instr.slice;simp only[el7,I6,P4 y,ek8,q,T8 r,en1,reS]
    all_goals simp[isS]at p
   .cases h
  .split at h
   .rename_i s;split at h
    .rename_i o;simp only[el3,em7]at o;obtain⟨⟨⟨p,z⟩,A⟩,u⟩:=o;obtain rfl:=el4 h;have d:(∃k,g=some (.int k j))\/g=none/\j=s.size:=by
      split at b
      .simp only[isS,ep8,er8]at b;exact .inr ⟨rfl,(el4 b).symm⟩
      .obtain rfl:=el4 b;exact .inl ⟨_,rfl⟩
      .cases b
     have q:(Instr.sliceBounds false s.size s.size m g none).run P w = .ok (l.toNat,j.toNat,s.size) w:=by
      rcases i with⟨k,rfl⟩|⟨rfl,rfl⟩<;>rcases d with⟨B,rfl⟩|⟨rfl,rfl⟩ <;>
       simp only[Instr.sliceBounds,Instr.sliceBound,asIntOf,el7,en1,ek8]
      .rw[if_pos om];simp only[en1,ek8];rw[if_pos om];rfl
      .rw[if_pos om];rfl
      .rw[if_pos om];rfl
      .rfl
     unfold Instr.sliceAt;simp only[el7,I6,aY1 p,ek8];unfold Instr.slice;simp only[el7,I6,aY1 p,ek8,q,en1,Option.isSome_none,ep8,er8]
    .cases h
   .cases h
 .cases h
def aU4{f:Fr}{o:Oper}{v:Value}(h:aC1 P f o.op=some v)(w:World):(execOp (ev f) o).run P w = .ok (.value v) w:=by
 have g:∀{s:Sem Value},s.run P w = .ok v w->(do pure (.value (<-s)):Sem Next).run P w = .ok (.value v) w:=λE=>by
  rw[el7,E];rfl
 obtain⟨d,op,ty,H,C,I⟩:=o;unfold aC1 at h;simp only at h;cases op<;>try simp only at h
 case move x=>obtain rfl:=el4 h;rfl
 case assign x=>obtain rfl:=el4 h;rfl
 case pick c a b=>
  split at h
  .rename_i t r;obtain rfl:=el4 h;simp only[execOp,r,asBool,el7,en1,ek8]
  .cases h
 case binOp op t x y t2=>exact g (cw2 h w)
 case unOp op t x=>
  refine g ?_;unfold unV at h;split at h
  .rename_i b A;split at h
   .obtain rfl:=el4 h;simp[A,Op.unary]
   .cases h
  .rename_i k n A;split at h
   .obtain rfl:=el4 h;simp[A,Op.unary,Op.intArith]
   .cases h
  .cases h
 case fieldAddr s x i=>exact g (ca7 h w)
 case field s x i=>exact g (cy1 h w)
 case indexAddr t x i=>exact g (cz6 h w)
 case index t x i=>exact g (cb4 h w)
 case slice t x lo hi mx=>
  cases mx
  case none=>exact g (ce1 h w)
  case some m=>cases h
 case extract x i=>
  refine g ?_;split at h
  .rename_i J F;unfold Instr.extract;simp only[F,h];rfl
  .cases h
 case nilCheck x=>
  split at h
  .rename_i a D;obtain rfl:=el4 h;simp only[execOp,D,en1]
  .cases h
 case convert s d' x=>exact g (cj1 h w)
 case makeFunc fn first cap=>obtain rfl:=el4 h;rfl
 case build t parts=>
  refine g ?_;have:=bY9 h w;have e:(parts.toList.map λp=>(p.1,ev f p.2)).toArray=parts.map λp=>(p.1,ev f p.2):=by
   apply Array.ext';simp
  rw[e]at this;exact this
 case call c=>
  obtain⟨z,args,u⟩:=c;simp only at h;cases z
  case builtin b=>
   cases b<;>try simp only at h
   case len=>
    split at h
    .rename_i x t l r;have j:args=#[x]:=by apply Array.ext';simpa using l
     have q:u=#[t]:=by apply Array.ext';simpa using r
     subst j q;have:=cA0 (ty:=ty) h w;simp only[execOp,resolve,invoke,builtin,el7,en1,ek8];simp only[List.map_toArray,en8,List.map_nil,this,ek8]
    .cases h
   case cap=>
    split at h
    .rename_i x t l r;have j:args=#[x]:=by apply Array.ext';simpa using l
     have q:u=#[t]:=by apply Array.ext';simpa using r
     subst j q;have:=cw9 (ty:=ty) h w;simp only[execOp,resolve,invoke,builtin,el7,en1,ek8];simp only[List.map_toArray,en8,List.map_nil,this,ek8]
    .cases h
   case min=>
    split at h
    .rename_i x y l;have j:args=#[x,y]:=by apply Array.ext';simpa using l
     subst j;unfold dj0 at h;split at h
     .rename_i k a G b l B;obtain rfl:=el4 h;simp[execOp,resolve,invoke,builtin,Builtin.min_,Builtin.min2,l,B]
     .cases h
    .cases h
   case max=>
    split at h
    .rename_i x y l;have j:args=#[x,y]:=by apply Array.ext';simpa using l
     subst j;unfold di7 at h;split at h
     .rename_i k a G b l B;obtain rfl:=el4 h;simp[execOp,resolve,invoke,builtin,Builtin.max_,Builtin.max2,l,B]
     .cases h
    .cases h
   all_goals cases h
  all_goals cases h
 all_goals cases h
end
def en0:=@Nat.zero_add
def bo2(f:Fr)(o:Oper):Option (Sem Value):=match o.op with
 | .load t a=>some (Instr.loadAt t (ev f a))
 | .buildSlice t n parts=>some (Instr.buildSlice t n (parts.map λp=>(p.1,ev f p.2)))
 | .alloc e=>some (Instr.alloc e true (.tuple #[]))
 | .box e x=>some (Instr.box e (ev f x))
 | .makeSlice t l c=>some (Instr.makeSlice t (ev f l) (ev f c))
 | .binOp op t x y _=>some (do eqGuard op t x y (ev f x) (ev f y);binOp op t (ev f x) (ev f y))
 | .convert s d x=>some (convert s d (ev f x))
 | .makeMap t r=>some (Instr.makeMap t (r.map (ev f)))
 | .lookup t x i ok=>some (Instr.lookup t (ev f x) (ev f i) ok)
 | .makeInterface t x=>some (Instr.makeInterface t (ev f x))
 | .call c=>match c.callee with
   | .builtin .append=>some (Builtin.append_ c.argTypes o.type (c.args.map (ev f)))
   | .builtin .copy=>some (Builtin.copy_ c.argTypes o.type (c.args.map (ev f)))
   | .builtin .clear=>some (Builtin.clear_ c.argTypes o.type (c.args.map (ev f)))
   | .builtin .len=>some (Builtin.len_ c.argTypes o.type (c.args.map (ev f)))
   | .builtin .delete=>some (Builtin.delete_ c.argTypes o.type (c.args.map (ev f)))
   | _=>none
 | _=>none
def am8(r:Result Value)(K:Fr->World->Prop)(f:Fr)(d:Option Nat):Prop:=match r with
 | .ok v w=>K (C5 f d v) w
 | _=>False
def br1(r:Result Unit)(K:Fr->World->Prop)(f:Fr)(d:Option Nat):Prop:=match r with
 | .ok _ w=>K (C5 f d undef) w
 | _=>False
def F8(P:Program)(S:World->Prop)(s:Sem Value)(K:Fr->World->Prop)(f:Fr)(d:Option Nat)(w:World):Prop:=
 ∃v,(∀a,S a->s.run P a = .ok v a)/\K (C5 f d v) w
def G0(S:World->Prop)(K:Fr->World->Prop):Fr->World->Prop:=λf w=>S w/\K f w
def bz7(P:Program)(S:Option (World->Prop))(a:Bool)(s:Sem Value)(K:Fr->World->Prop)(f:Fr)(d:Option Nat)(w:World):Prop:=
 match S with
 | none=>am8 (s.run P w) K f d
 | some S=>if a then F8 P S s K f d w else am8 (s.run P w) (G0 S K) f d
def aZ8(S:Option (World->Prop))(K:Fr->World->Prop):Fr->World->Prop:=
 match S with
 | none=>K
 | some S=>G0 S K
def ar7(P:Program)(k:Nat):Bool:=match P.funcs[k]? with
 | some fn=>fn.name != "runtime.NumGoroutine" && fn.body.isSome
 | none=>false
def aG8(P:Program)(k:Nat)(args:List Value)(w:World)(K:Fr->World->Prop)(f:Fr)(d:Option Nat):Prop:=
 (ar7 P k=true/\Calls P k args.toArray w λe a=>∃v,e = .returned v/\K (C5 f d v) a)\/∃v a,(callFunc k args.toArray).run P w = .ok (.value v) a/\K (C5 f d v) a
def ag4(P:Program)(S:Option (World->Prop))(o:Oper)(K:Fr->World->Prop)(f:Fr)(w:World):Prop:=
 match bo2 f o with
 | some s=>bz7 P S (flt o.op) s K f o.dst w
 | none=>match o.op with
   | .store t a x=>br1 ((Instr.storeAt t (ev f a) (ev f x)).run P w) (aZ8 S K) f o.dst
   | .mapUpdate t m k x=>br1 ((Instr.mapUpdate t (ev f m) (ev f k) (ev f x)).run P w) (aZ8 S K) f o.dst
   | .insert t m k x=>br1 ((Instr.mapUpdate t (ev f m) (ev f k) (ev f x)).run P w) (aZ8 S K) f o.dst
   | .call c=>match c.callee with
     | .value g=>match ev f g with
       | .func (.func k) first cap=>aG8 P k (first.toList++c.args.toList.map (ev f)++cap.toList) w (aZ8 S K) f o.dst
       | _=>False
     | _=>False
   | _=>match S with
     | none=>T9 P o K f w
     | some S=>if flt o.op then ∃v,bK6 P S o f v/\K (C5 f o.dst v) w else T9 P o (λd b=>S b/\K d b) f w
def B9(P:Program)(S:Option (World->Prop))(o:Oper)(K:Fr->World->Prop)(f:Fr)(w:World):Prop:=
 match aC1 P f o.op with
 | some v=>K (C5 f o.dst v) w
 | none=>ag4 P S o K f w
def Rn(P:Program)(ops:Array Oper):List Oper->(Fr->World->Prop)->Fr->World->Prop
 | [],K,f,w=>K f w
 | o::l,K,f,w=>match o.guard with
   | none=>B9 P none o (Rn P ops l K) f w
   | some (j,b)=>if aZ1 ops f j=some b then B9 P none o (Rn P ops l K) f w else Rn P ops l K (C5 f o.dst undef) w
def RnF(P:Program)(ops:Array Oper)(S:World->Prop):aR4->(Fr->World->Prop)->Fr->World->Prop
 | .nil,K,f,w=>K f w
 | .op i l,K,f,w=>
  match ops[i]? with
  | none=>False
  | some o=>match o.guard with
    | none=>B9 P (some S) o (RnF P ops S l K) f w
    | some (j,b)=>if aZ1 ops f j=some b then B9 P (some S) o (RnF P ops S l K) f w else RnF P ops S l K (C5 f o.dst undef) w
 | .fork rs k,K,f,w=>∀i∈rs,
   match ops[i]? with
   | none=>False
   | some o=>match o.guard with
     | none=>B9 P (some S) o (RnF P ops S (k i) K) f w/\flt o.op=false
     | some (j,b)=>if aZ1 ops f j=some b then B9 P (some S) o (RnF P ops S (k i) K) f w/\flt o.op=false else RnF P ops S (k i) K (C5 f o.dst undef) w
section
variable {P:Program}
def cP8{k:Nat}{args:List Value}{w:World}{K:Fr->World->Prop}{f:Fr}{d:Option Nat}(h:aG8 P k args w K f d):
  match(callFunc k args.toArray).run P w with
  | .ok (.value v) w'=>K (C5 f d v) w'
  | .ok (.enter g asz) w'=>Calls P g asz w' λe w''=>∃v,e = .returned v/\K (C5 f d v) w''
  | _=>False:=by
 rcases h with⟨hb,h⟩|⟨v,w',hr,h⟩
 .unfold ar7 at hb;cases hf:P.funcs[k]? with
  | none=>simp[hf]at hb
  | some fn=>
   simp only[hf,el3,bne_iff_ne,ne_eq]at hb;obtain⟨hn,hbd⟩:=hb;have hbn:fn.body.isNone=false:=by cases hx:fn.body<;>simp[hx]at hbd ⊢
   have hne:(fn.name == "runtime.NumGoroutine")=false:=by simpa using hn
   simp only[callFunc,program,el7,Sem.run,ek8,hf,hne,hbn,ep8,er8];exact h
 .rw[hr];exact h
def bQ3{d:Option Nat}{g:Operand}{args:Array Operand}{c:Array TypeId}{ty:TypeId}{b:String}{a:Array Edge}{j:Option (Nat×Bool)}{K:Fr->World->Prop}{f:Fr}{w:World}
  (h:match ev f g with
    | .func (.func k) first cap=>aG8 P k (first.toList++args.toList.map (ev f)++cap.toList) w K f d
    | _=>False):T9 P ⟨d,.call ⟨.value g,args,c⟩,ty,b,a,j⟩ K f w:=by
 cases hg:ev f g
 case func fn first cap=>
  cases fn
  case func k=>
   simp only[hg]at h;have i:=cP8 h;unfold T9;have e:(execOp (ev f) ⟨d,.call ⟨.value g,args,c⟩,ty,b,a,j⟩).run P w=(callFunc k (first.toList++args.toList.map (ev f)++cap.toList).toArray).run P w:=by
    simp only[execOp,resolve,hg,Deferred.ofValue,invoke,el7,en1,ek8]
    congr 2
    apply Array.ext';simp
   rw[e];generalize(callFunc k (first.toList++args.toList.map (ev f)++cap.toList).toArray).run P w=r at *;cases r with
   | halt x l=>exact i
   | ok n l=>
    cases n
    case value v=>exact i
    case enter g asz=>exact i
    all_goals exact i.elim
  all_goals (simp only[hg]at h)
 all_goals (simp only[hg]at h)
def az2{o:Oper}{s:Sem Unit}{K:Fr->World->Prop}{f:Fr}{w:World}(a:execOp (ev f) o=(do s;pure .skip:Sem Next))(h:br1 (s.run P w) K f o.dst):T9 P o K f w:=by
 unfold T9;rw[a,el7];unfold br1 at h;cases hr:s.run P w with
 | ok u b=>rw[hr]at h;exact h
 | halt x b=>rw[hr]at h;exact h.elim
def ak7{o:Oper}{s:Sem Value}{K:Fr->World->Prop}{f:Fr}{w:World}(a:execOp (ev f) o=(do pure (.value (<-s)):Sem Next))(h:am8 (s.run P w) K f o.dst):T9 P o K f w:=by
 unfold T9;rw[a,el7];unfold am8 at h;cases hr:s.run P w with
 | ok u b=>rw[hr]at h;exact h
 | halt x b=>rw[hr]at h;exact h.elim
def bm0{o:Oper}{K:Fr->World->Prop}{f:Fr}{w:World}(h:B9 P none o K f w):T9 P o K f w:=by
 unfold B9 at h;cases hp:aC1 P f o.op with
 | some v=>
  simp only[hp]at h;unfold T9;rw[aU4 hp];exact h
 | none=>
  simp only[hp]at h;obtain⟨d,op,p,j,i,n⟩:=o;unfold ag4 bo2 at h;cases op
  case call c=>
   obtain⟨e,args,l⟩:=c;cases e
   case builtin b=>
    cases b
    case append=>exact ak7 rfl h
    case copy=>exact ak7 rfl h
    case clear=>exact ak7 rfl h
    case len=>exact ak7 rfl h
    case delete=>exact ak7 rfl h
    all_goals exact h.elim
   case value g=>exact bQ3 h
   case invoke r m=>exact h.elim
  case store t a x=>exact az2 rfl h
  case mapUpdate t m k x=>exact az2 rfl h
  case insert t m k x=>exact az2 rfl h
  all_goals first
   | exact ak7 rfl h
   | exact h
def bl9{S:World->Prop}{o:Oper}{K:Fr->World->Prop}{f:Fr}{w:World}(h:B9 P (some S) o K f w)(hS:S w):
  if flt o.op then ∃v,bK6 P S o f v/\K (C5 f o.dst v) w else T9 P o (λq i=>S i/\K q i) f w:=by
 unfold B9 at h;cases hp:aC1 P f o.op with
 | some v=>
  simp only[hp]at h;split
  .exact⟨v,λi _=>aU4 hp i,h⟩
  .unfold T9;rw[aU4 hp];exact⟨hS,h⟩
 | none=>
  simp only[hp]at h;obtain⟨d,op,z,l,j,u⟩:=o;have e:∀{s:Sem Value},(execOp (ev f) ⟨d,op,z,l,j,u⟩)=(do pure (.value (<-s)):Sem Next)->bz7 P (some S) (flt op) s K f d w ->
    if flt op then ∃v,bK6 P S ⟨d,op,z,l,j,u⟩ f v/\K (C5 f d v) w else T9 P ⟨d,op,z,l,j,u⟩ (λq i=>S i/\K q i) f w:=by
   intro s A n;unfold bz7 at n;cases hfl:flt op with
   | true=>
    simp only[hfl,ep4]at n;obtain⟨v,C,B⟩:=n;rw[if_pos rfl];refine⟨v,λi y=>?_,B⟩;rw[A,el7,C i y];rfl
   | false=>
    simp only[hfl,ep8,er8]at n;rw[if_neg dP];exact ak7 A n
  unfold ag4 bo2 at h;cases op
  case call c=>
   obtain⟨p,args,D⟩:=c;cases p
   case builtin b=>
    cases b
    case append=>exact e rfl h
    case copy=>exact e rfl h
    case clear=>exact e rfl h
    case len=>exact e rfl h
    case delete=>exact e rfl h
    all_goals exact h.elim
   case value g=>exact bQ3 (K:=G0 S K) h
   case invoke r m=>exact h.elim
  case store t a x=>exact az2 (K:=G0 S K) rfl h
  case mapUpdate t m k x=>exact az2 (K:=G0 S K) rfl h
  case insert t m k x=>exact az2 (K:=G0 S K) rfl h
  all_goals first
   | exact e rfl h
   | exact h
def aH0{ops:Array Oper}{K:Fr->World->Prop}:∀(l:List Oper) (f:Fr) (w:World),Rn P ops l K f w->Run P ops l K f w
 | [],f,w,h=>h
 | o::l,f,w,h=>by
  unfold Rn at h;unfold Run Region.wanted;cases hg:o.guard with
  | none=>
   simp only[hg]at h;simp only[ep4];exact ar0 (aH0 l) (bm0 h)
  | some c=>
   obtain⟨j,b⟩:=c;simp only[hg]at h;simp only[beq_iff_eq];split
   .rename_i a;rw[if_pos a]at h;exact ar0 (aH0 l) (bm0 h)
   .rename_i a;rw[if_neg a]at h;exact aH0 l _ _ h
def ay3{ops:Array Oper}{S:World->Prop}{K e:Fr->World->Prop}(b:∀f w,K f w->e f w):∀(l:aR4) (f:Fr) (w:World),aD9 P ops S l K f w->aD9 P ops S l e f w
 | .nil,f,w,h=>b _ _ h
 | .op i l,f,w,h=>by
  unfold aD9 at *;cases ho:ops[i]? with
  | none=>simp[ho]at h
  | some o=>
   simp only[ho]at h ⊢;split
   .rename_i a;rw[if_pos a]at h;split
    .rename_i d;rw[if_pos d]at h;obtain⟨v,g,j⟩:=h;exact⟨v,g,ay3 b l _ _ j⟩
    .rename_i d;rw[if_neg d]at h;exact ar0 (λf w c=>⟨c.1,ay3 b l _ _ c.2⟩) h
   .rename_i a;rw[if_neg a]at h;exact ay3 b l _ _ h
 | .fork rs k,f,w,h=>by
  unfold aD9 at *;intro i m;have h:=h i m;cases ho:ops[i]? with
  | none=>simp[ho]at h
  | some o=>
   simp only[ho]at h ⊢;split
   .rename_i a;rw[if_pos a]at h;exact ar0 (λf w c=>⟨c.1,ay3 b (k i) _ _ c.2⟩) h
   .rename_i a;rw[if_neg a]at h;exact ay3 b (k i) _ _ h
def al0{ops:Array Oper}{S:World->Prop}{K:Fr->World->Prop}:∀(l:aR4) (f:Fr) (w:World),S w->RnF P ops S l K f w->aD9 P ops S l K f w
 | .nil,f,w,_,h=>h
 | .op i l,f,w,hS,h=>by
  unfold RnF at h;unfold aD9 Region.wanted;cases ho:ops[i]? with
  | none=>simp[ho]at h
  | some o=>
   simp only[ho]at h ⊢;have a:B9 P (some S) o (RnF P ops S l K) f w->(if flt o.op then ∃v,bK6 P S o f v/\aD9 P ops S l K (C5 f o.dst v) w else T9 P o (λn m=>S m/\aD9 P ops S l K n m) f w):=by
    intro p;have c:=bl9 p hS;split
    .rename_i g;rw[if_pos g]at c;obtain⟨v,r,s⟩:=c;exact⟨v,r,al0 l _ _ hS s⟩
    .rename_i g;rw[if_neg g]at c;exact ar0 (λf w e=>⟨e.1,al0 l _ _ e.1 e.2⟩) c
   cases hg:o.guard with
   | none=>
    simp only[hg]at h;simp only[ep4];exact a h
   | some q=>
    obtain⟨j,b⟩:=q;simp only[hg]at h;simp only[beq_iff_eq];split
    .rename_i d;rw[if_pos d]at h;exact a h
    .rename_i d;rw[if_neg d]at h;exact al0 l _ _ hS h
 | .fork rs k,f,w,hS,h=>by
  unfold RnF at h;unfold aD9 Region.wanted;intro i t;have h:=h i t;cases ho:ops[i]? with
  | none=>simp[ho]at h
  | some o=>
   simp only[ho]at h ⊢;have a:B9 P (some S) o (RnF P ops S (k i) K) f w/\flt o.op=false->T9 P o (λn m=>S m/\aD9 P ops S (k i) K n m) f w:=by
    rintro⟨p,g⟩;have c:=bl9 p hS;rw[if_neg (by simp[g])]at c;exact ar0 (λf w e=>⟨e.1,al0 (k i) _ _ e.1 e.2⟩) c
   cases hg:o.guard with
   | none=>
    simp only[hg]at h;simp only[ep4];exact a h
   | some q=>
    obtain⟨j,b⟩:=q;simp only[hg]at h;simp only[beq_iff_eq];split
    .rename_i d;rw[if_pos d]at h;exact a h
    .rename_i d;rw[if_neg d]at h;exact al0 (k i) _ _ hS h
end
def ae9(K:Fr->World->Prop)(Q:Exit->Fr->World->Prop):Exit->Fr->World->Prop
 | .normal,f,w=>K f w
 | e,f,w=>Q e f w
def ac6(id:Nat)(Q:Exit->Fr->World->Prop):Exit->Fr->World->Prop
 | .exit id',f,w=>if id'=id then Q .normal f w else Q (.exit id') f w
 | e,f,w=>Q e f w
def aS3(v:Value)(A B:Fr->World->Prop)(f:Fr)(w:World):Prop:=
 match v with
 | .bool true=>A f w
 | .bool false=>B f w
 | _=>False
def ch1(B:(Exit->Fr->World->Prop)->Fr->World->Prop)(Q:Exit->Fr->World->Prop)(f:Fr)(w:World):Prop:=
 ∃(c:Type) (I:c->Fr->World->Prop) (m:c->Nat) (h:c),I h f w /\
  ∀s d g,I s d g->B (ae9 (λa b=>∃e,m e<m s/\I e a b) Q) d g
def cZ6(P:Program)(ops:Array Oper)(K:Fr->World->Prop)(f:Fr)(w:World):Prop:=
 ∃(S:World->Prop) (n:Nat) (a:aR4),cq7 ops n a=true/\S w.drew/\RnF P ops S a (Rn P ops (ops.toList.drop n) K) f w.drew
def CW(P:Program):Code->(Exit->Fr->World->Prop)->Fr->World->Prop
 | .skip,Q,f,w=>Q .normal f w
 | .seq a b,Q,f,w=>CW P a (ae9 (CW P b Q) Q) f w
 | .cond c a b,Q,f,w=>aS3 (ev f c) (CW P a Q) (CW P b Q) f w
 | .block id a,Q,f,w=>CW P a (ac6 id Q) f w
 | .loop a,Q,f,w=>ch1 (CW P a) Q f w
 | .region _ ops d,Q,f,w=>if d then cZ6 P ops (Q .normal) f w else Rn P ops ops.toList (Q .normal) f w
 | .exit id,Q,f,w=>Q (.exit id) f w
 | .label _,Q,f,w=>Q .normal f w
 | .ret,Q,f,w=>Q .ret f w
 | _,_,_,_=>False
def aA4(N:Nat):Code->Bool
 | .seq a b=>aA4 N a&&aA4 N b
 | .cond _ a b=>aA4 N a&&aA4 N b
 | .block _ a=>aA4 N a
 | .loop a=>aA4 N a
 | .region _ ops _=>de1 N ops
 | _=>true
def dd4(Q:Exit->Fr->World->Prop):Prop:=∀c f w,¬Q (.panic c) f w
def bQ5{K:Fr->World->Prop}{Q:Exit->Fr->World->Prop}(h:dd4 Q):dd4 (ae9 K Q):=λc f w=>h c f w
def cw8{id:Nat}{Q:Exit->Fr->World->Prop}(h:dd4 Q):dd4 (ac6 id Q):=λc f w=>h c f w
def cF5{P:Program}{Q:Exit->Act->World->Prop}{a:Act}{w:World}{c:Code}{σ:Type}(I:σ->Act->World->Prop)(m:σ->Nat)(D:σ)(v:I D a w)
  (p:∀s a w,I s a w->c.wp P (Exit.then (λq r=>∃y,m y<m s/\I y q r) Q) a w):(Code.loop c).wp P Q a w:=by
 intro b k A;have C:∀n s a w,m s=n->I s a w ->
   ∃e q r,Q e q r/\Arrives P (lone (b.at a (.code c :: .inLoop c::k)) A w) b k A e q r:=by
  intro n
  induction n using Nat.strongRecOn with
  | _ n G=>
   intro s a w F E;obtain⟨e,f,g,i,d⟩:=p s a w E b (.inLoop c::k) A;cases e with
   | normal=>
    obtain⟨y,B,j⟩:=i;obtain⟨u,t,z,o,h⟩:=G (m y) (F ▸ B) y f g rfl j;exact⟨u,t,z,o,.of_steps (Steps.trans d (.one step_inLoop)) h⟩
   | exit id=>exact⟨_,f,g,i,.pass (x:=.inLoop c) rfl (λ_ _=>.inl dP) d⟩
   | goto l=>exact⟨_,f,g,i,.pass (x:=.inLoop c) rfl (λ_ _=>.inl dP) d⟩
   | ret=>exact⟨_,f,g,i,.pass (x:=.inLoop c) rfl (λ_ _=>.inl dP) d⟩
   | panic H=>exact⟨_,f,g,i,.pass (x:=.inLoop c) rfl (λ_ _=>.inl dP) d⟩
   | outgrown=>exact⟨_,f,g,i,.pass (x:=.inLoop c) rfl (λ_ _=>.inl dP) d⟩
 obtain⟨e,q,r,i,d⟩:=C _ D a w rfl v;exact⟨e,q,r,i,.of_steps (.one step_loop) d⟩
def cZ2{P:Program}{N:Nat}(hm:P.follows .mixedOrders=true):∀(c:Code) (Q:Exit->Fr->World->Prop) (a:Act) (w:World),dd4 Q->aA4 N c=true ->
  a.tmps.size=N->a.defers=[]->CW P c Q (ak1 a) w->c.wp P (lft N Q) a w:=by
 intro c
 induction c with
 | skip=>intro Q a w _ _ i g h;exact wp_skip ⟨i,g,h⟩
 | seq x y q r=>
  intro Q a w k b i g h;simp only[aA4,el3]at b;refine wp_seq (wp_mono (q _ a w (bQ5 k) b.1 i g h) ?_);intro e A z j;cases e
  case normal=>exact r _ A z k b.2 j.1 j.2.1 j.2.2
  all_goals exact j
 | cond v x y q r=>
  intro Q a w k b i g h;simp only[aA4,el3]at b;simp only[CW]at h;unfold aS3 at h;have H:a.eval v=ev (ak1 a) v:=by rw[ca4]
  generalize J:ev (ak1 a) v=u at h;cases u
  case bool t=>
   cases t
   case true=>exact wp_cond_true (by rw[H,J]) (q _ a w k b.1 i g h)
   case false=>exact wp_cond_false (by rw[H,J]) (r _ a w k b.2 i g h)
  all_goals exact h.elim
 | block id x G=>
  intro Q a w k b i g h;refine wp_block (wp_mono (G _ a w (cw8 k) b i g h) ?_);intro e A z j;cases e
  case exit id'=>
   simp only[Exit.inBlock];simp only[lft,ac6]at j;split
   .rename_i p;rw[if_pos p]at j;exact j
   .rename_i p;rw[if_neg p]at j;exact j
  all_goals exact j
 | loop x G=>
  intro Q a w k b i g h;obtain⟨σ,I,m,Y,L,U⟩:=h;refine cF5 (λs a w=>a.tmps.size=N/\a.defers=[]/\I s (ak1 a) w) m Y ⟨i,g,L⟩ ?_;rintro s A z ⟨F,E,O⟩;refine wp_mono (G _ A z (bQ5 k) b F E (U s _ z O)) ?_;intro e K Z j;cases e
  case normal=>
   obtain⟨C,M,X,B,D⟩:=j;exact⟨X,B,C,M,D⟩
  all_goals exact j
 | region id V d=>
  intro Q a w k b i g h;cases d
  case false=>
   simp only[CW,ep8,er8]at h;exact wp_region_list (aG6 _ a w (λo T=>Array.all_eq_true'.1 b o (by simpa using T)) i g (aH0 _ _ _ h))
  case true=>
   simp only[CW,ep4]at h;obtain⟨S,n,W,C,B,D⟩:=h;exact bM3 hm k C b i g B (ay3 (λf w R=>aH0 _ f w R) _ _ _ (al0 _ _ _ B D))
 | exit id=>intro Q a w _ _ i g h;exact wp_exit ⟨i,g,h⟩
 | label l=>intro Q a w _ _ i g h;exact wp_label ⟨i,g,h⟩
 | ret=>intro Q a w _ _ i g h;exact wp_ret ⟨i,g,h⟩
 | _=>intro Q a w _ _ _ _ h;exact h.elim
def dG8(args:List Value):Fr:=λi=>args.getD i undef
def ch4:Nat->List Value->Fr
 | _,[]=>λ_=>undef
 | k,v::vs=>B8 (ch4 (k+1) vs) k v
def cG2:∀(a:List Value) (k i:Nat),ch4 k a (k+i)=a.getD i undef
 | [],_,_=>by simp[ch4]
 | v::a,k,0=>by simp[ch4,B8]
 | v::a,k,i+1=>by
  have:=cG2 a (k+1) i;simp only[ch4,B8];rw[if_neg om,show k+(i+1)=k+1+i by omega,this];simp
def dG9(args:List Value):dG8 args=ch4 0 args:=by
 funext i
 have:=cG2 args 0 i;simp only[en0]at this;rw[this];rfl
def cB9(P:Program)(w:World)(f:Fr):ResultVar->Value->Prop
 | .tmp t,v=>v=f t
 | .cell a ty,v=>(do loadVar ty (<-asAddr (f a)):Sem Value).run P w = .ok v w
def bI5(P:Program)(w:World)(f:Fr):List ResultVar->List Value->Prop
 | [],[]=>True
 | r::rs,v::vs=>cB9 P w f r v/\bI5 P w f rs vs
 | _,_=>False
def bt0:List Value->Value
 | [v]=>v
 | vs=>.tuple vs.toArray
def bz6(P:Program)(b:Func)(R:Value->World->Prop):Exit->Fr->World->Prop
 | .normal,f,w=>∃a,bI5 P w f b.results.toList a/\R (bt0 a) w
 | .ret,f,w=>∃a,bI5 P w f b.results.toList a/\R (bt0 a) w
 | _,_,_=>False
def bI6{P:Program}{w:World}{a:Act}:∀(c:List ResultVar) (d:List Value),bI5 P w (ak1 a) c d ->
  (c.mapM (m:=Sem) fun
   | .tmp t=>pure (a.tmps.getD t undef)
   | .cell x t=>do loadVar t (<-asAddr (a.tmps.getD x undef))).run P w = .ok d w
 | [],[],_=>dP
 | [],_::_,h=>h.elim
 | _::_,[],h=>h.elim
 | r::c,v::d,h=>by
  have e:=bI6 c d h.2;have b:=h.1;cases r with
  | tmp t=>
   simp only[cB9,ak1]at b;subst b;simp only[List.mapM_cons,el7,en1,ek8,e]
  | cell x t=>
   simp only[cB9,ak1]at b;simp only[List.mapM_cons];rw[el7,b];simp only[el7,en1,ek8,e]
def by0{P:Program}{b:Func}{w:World}{a:Act}{vs:List Value}(h:bI5 P w (ak1 a) b.results.toList vs):
  (results b a.tmps).run P w = .ok (bt0 vs) w:=by
 have c:=bI6 _ _ h;unfold results;rw[Array.mapM_eq_mapM_toList];simp only[el7,Sem.run_map]
 erw [c]
 simp only[ek8,en1]
 congr 1
 match vs with
 | []=>simp[bt0]
 | [v]=>simp[bt0]
 | v::u::vs=>simp[bt0]
def bu9{P:Program}{k:FuncId}{a:Func}{c:Code}{args:List Value}{w:World}{R:Value->World->Prop}(hm:P.follows .mixedOrders=true)
  (p:P.funcs[k]?=some a) (hb:a.body=some c) (l:aA4 a.ntmps c=true) (d:args.length<=a.ntmps)
  (h:CW P c (bz6 P a R) (ch4 0 args) w):Calls P k args.toArray w (λe o=>∃v,e = .returned v/\R v o):=by
 rw[<-dG9]at h;refine calls_of_wp p hb ?_;have j:ak1 {tmps:=args.toArray++Array.replicate (a.ntmps-args.toArray.size) undef,defers:=[]}=dG8 args:=by
  funext i
  simp only[ak1,dG8,Array.getD_eq_getD_getElem?,List.getD_eq_getElem?_getD];by_cases hi:i<args.length
  .rw[Array.getElem?_append_left (by simpa using hi)];simp
  .rw[Array.getElem?_append_right (by simp;omega)];rw[er3 om];by_cases h2:i-args.length<a.ntmps-args.length
   .simp[h2]
   .simp[h2]
 have:=cZ2 (N:=a.ntmps) hm c (bz6 P a R) {tmps:=args.toArray++Array.replicate (a.ntmps-args.toArray.size) undef,defers:=[]} w
  (λc f w q=>q) l (by simp;omega) rfl (by rw[j];exact h)
 refine wp_mono this ?_;intro e s o m;cases e
 case normal=>
  obtain⟨_,g,r,n,b⟩:=m;exact⟨g,_,by0 n,_,rfl,b⟩
 case ret=>
  obtain⟨_,g,r,n,b⟩:=m;exact⟨g,_,by0 n,_,rfl,b⟩
 all_goals exact m.2.2.elim
abbrev y5(P:Program)(k:FuncId)(args:Array Value)(w:World)(Q:Value->World->Prop):Prop:=Calls P k args w λe a=>∃v,e = .returned v/\Q v a
def z6{P:Program}{k:FuncId}{a:Func}{c:Code}{w:World}{R:Value->World->Prop}(args:List Value)(d:P.funcs[k]?=some a)(hb:a.body=some c)(h:CW P c (bz6 P a R) (ch4 0 args) w)
  (b:aA4 a.ntmps c=true:=by kernel_rfl) (e:Nat.ble args.length a.ntmps=true:=by kernel_rfl) (hm:P.follows .mixedOrders=true:=by kernel_rfl):y5 P k args.toArray w R:=
 bu9 hm d hb b (Nat.le_of_ble_eq_true e) h
def o8{P:Program}{a:Func}{R:Value->World->Prop}{f:Fr}{w:World}{t:Nat}(h:a.results=#[.tmp t])(b:R (f t) w):bz6 P a R .ret f w:=
 ⟨[f t],by rw[h];exact⟨rfl,trivial⟩,b⟩
def U5{P:Program}{a:Func}{R:Value->World->Prop}{f:Fr}{w:World}{t u:Nat}(h:a.results=#[.tmp t,.tmp u])(b:R (.tuple #[f t,f u]) w):bz6 P a R .ret f w:=
 ⟨[f t,f u],by rw[h];exact⟨rfl,rfl,trivial⟩,b⟩
def cL2{P:Program}{a:Func}{R:Value->World->Prop}{f:Fr}{w:World}(h:a.results=#[])(b:R (.tuple #[]) w):bz6 P a R .ret f w:=
 ⟨[],by rw[h];exact trivial,b⟩
def bk5{P:Program}{a:Func}{R:Value->World->Prop}{f:Fr}{w:World}(h:a.results=#[])(b:R (.tuple #[]) w):bz6 P a R .normal f w:=
 ⟨[],by rw[h];exact trivial,b⟩
section
variable {P:Program} {Q:Exit->Fr->World->Prop} {f:Fr} {w:World} {K:Fr->World->Prop} {ops:Array Oper} {l:List Oper}
theorem dZ2:CW P .skip Q f w=Q .normal f w:=rfl
theorem bB8{a b:Code}:CW P (.seq a b) Q f w=CW P a (ae9 (CW P b Q) Q) f w:=rfl
theorem dY5{c:Operand}{a b:Code}:CW P (.cond c a b) Q f w=aS3 (ev f c) (CW P a Q) (CW P b Q) f w:=rfl
theorem dO7{id:Nat}{a:Code}:CW P (.block id a) Q f w=CW P a (ac6 id Q) f w:=rfl
theorem dY8{a:Code}:CW P (.loop a) Q f w=ch1 (CW P a) Q f w:=rfl
theorem ec6{id:Nat}:CW P (.region id ops false) Q f w=Rn P ops ops.toList (Q .normal) f w:=rfl
theorem dY6{id:Nat}:CW P (.region id ops true) Q f w=cZ6 P ops (Q .normal) f w:=rfl
theorem dY7{id:Nat}:CW P (.exit id) Q f w=Q (.exit id) f w:=rfl
theorem ec7:CW P .ret Q f w=Q .ret f w:=rfl
theorem ec3:ae9 K Q .normal f w=K f w:=rfl
theorem dW3:ae9 K Q .normal=K:=rfl
theorem ec4:ae9 K Q .ret f w=Q .ret f w:=rfl
theorem ec5{i:Nat}:ae9 K Q (.exit i) f w=Q (.exit i) f w:=rfl
theorem dP9{i:Nat}:ac6 i Q .normal f w=Q .normal f w:=rfl
theorem dN4{i:Nat}:ac6 i Q .normal=Q .normal:=rfl
theorem dQ0{i:Nat}:ac6 i Q .ret f w=Q .ret f w:=rfl
theorem dQ1{i j:Nat}:ac6 i Q (.exit j) f w=if j=i then Q .normal f w else Q (.exit j) f w:=rfl
theorem eb0{A B:Fr->World->Prop}:aS3 (.bool true) A B f w=A f w:=rfl
theorem ea9{A B:Fr->World->Prop}:aS3 (.bool false) A B f w=B f w:=rfl
def A8{A B:Fr->World->Prop}{b:Bool}(a:b=true->A f w)(c:b=false->B f w):aS3 (.bool b) A B f w:=by
 cases b
 .exact c rfl
 .exact a rfl
def A3{A B:Fr->World->Prop}{k n:Nat}(a:k<n->A f w)(b:k=n->B f w)(E2:k<=n:=by first|assumption|omega):aS3 (.bool (decide ((k:Int)<(n:Int)))) A B f w:=
 A8 (λh=>a (by simpa using h)) (λh=>b (by simp at h;omega))
theorem ed1:Rn P ops [] K f w=K f w:=rfl
theorem eh1{d:Option Nat}{op:Op}{ty:TypeId}{b:String}{a:Array Edge}:
  Rn P ops (⟨d,op,ty,b,a,none⟩::l) K f w=B9 P none ⟨d,op,ty,b,a,none⟩ (Rn P ops l K) f w:=rfl
theorem eh5{d:Option Nat}{op:Op}{ty:TypeId}{c:String}{a:Array Edge}{j:Nat}{b:Bool}:
  Rn P ops (⟨d,op,ty,c,a,some (j,b)⟩::l) K f w =
   if aZ1 ops f j=some b then B9 P none ⟨d,op,ty,c,a,none⟩ (Rn P ops l K) f w else Rn P ops l K (C5 f d undef) w:=rfl
theorem dO5{S:Option (World->Prop)}{d:Option Nat}{op:Op}{ty:TypeId}{b:String}{a:Array Edge}{g:Nat×Bool}:
  B9 P S ⟨d,op,ty,b,a,some g⟩ K f w=B9 P S ⟨d,op,ty,b,a,none⟩ K f w:=rfl
def df7(ops:Array Oper)(j:Nat):Option Nat:=(ops[j]?).bind (·.dst)
theorem dO0{j:Nat}:aZ1 ops f j=match df7 ops j with|some d=>(match f d with | .bool b=>some b|_=>none)|none=>none:=rfl
section
variable {S:World->Prop} {n i:Nat} {r:aR4}
theorem dZ3:RnF P ops S .nil K f w=K f w:=rfl
theorem ec9:RnF P ops S (.op i r) K f w =
  match ops[i]? with
  | none=>False
  | some o=>match o.guard with
    | none=>B9 P (some S) o (RnF P ops S r K) f w
    | some (j,b)=>if aZ1 ops f j=some b then B9 P (some S) o (RnF P ops S r K) f w else RnF P ops S r K (C5 f o.dst undef) w:=rfl
end
section
variable {S:Option (World->Prop)} {d:Option Nat} {ty:TypeId} {pos:String} {aft:Array Edge}
theorem eb9{x:Operand}:B9 P S ⟨d,.move x,ty,pos,aft,none⟩ K f w=K (C5 f d (ev f x)) w:=rfl
theorem dO6{x:Operand}:B9 P S ⟨d,.assign x,ty,pos,aft,none⟩ K f w=K (C5 f d (ev f x)) w:=rfl
def aN2(v:Option Value)(K:Fr->World->Prop)(f:Fr)(d:Option Nat)(w:World)(D:Prop):Prop:=match v with
 | some v=>K (C5 f d v) w
 | none=>D
theorem ef3{v:Value}{D:Prop}:aN2 (some v) K f d w D=K (C5 f d v) w:=rfl
theorem ec1{v:Value}:am8 (.ok v w) K f d=K (C5 f d v) w:=rfl
theorem ec2{v:Unit}:br1 (.ok v w) K f d=K (C5 f d undef) w:=rfl
theorem ec0{c a b:Operand}:B9 P S ⟨d,.pick c a b,ty,pos,aft,none⟩ K f w =
  aN2 (match ev f c with | .bool t=>some (if t then ev f a else ev f b)|_=>none) K f d w (ag4 P S ⟨d,.pick c a b,ty,pos,aft,none⟩ K f w):=rfl
theorem ef5{op:BinOp}{t a:TypeId}{x y:Operand}:B9 P S ⟨d,.binOp op t x y a,ty,pos,aft,none⟩ K f w =
  aN2 (D1 P op t (ev f x) (ev f y)) K f d w (ag4 P S ⟨d,.binOp op t x y a,ty,pos,aft,none⟩ K f w):=rfl
theorem eh4{op:UnOp}{t:TypeId}{x:Operand}:B9 P S ⟨d,.unOp op t x,ty,pos,aft,none⟩ K f w =
  aN2 (unV op (ev f x)) K f d w (ag4 P S ⟨d,.unOp op t x,ty,pos,aft,none⟩ K f w):=rfl
theorem dy8{s:TypeId}{x:Operand}{i:Nat}:B9 P S ⟨d,.fieldAddr s x i,ty,pos,aft,none⟩ K f w =
  aN2 (ca6 P s i (ev f x)) K f d w (ag4 P S ⟨d,.fieldAddr s x i,ty,pos,aft,none⟩ K f w):=rfl
theorem dU2{s:TypeId}{x:Operand}{i:Nat}:B9 P S ⟨d,.field s x i,ty,pos,aft,none⟩ K f w =
  aN2 (ca5 P s i (ev f x)) K f d w (ag4 P S ⟨d,.field s x i,ty,pos,aft,none⟩ K f w):=rfl
theorem dy9{t:TypeId}{x i:Operand}:B9 P S ⟨d,.indexAddr t x i,ty,pos,aft,none⟩ K f w =
  aN2 (A0 P t (ev f x) (ev f i)) K f d w (ag4 P S ⟨d,.indexAddr t x i,ty,pos,aft,none⟩ K f w):=rfl
theorem dU3{t:TypeId}{x i:Operand}:B9 P S ⟨d,.index t x i,ty,pos,aft,none⟩ K f w =
  aN2 (aB1 P t (ev f x) (ev f i)) K f d w (ag4 P S ⟨d,.index t x i,ty,pos,aft,none⟩ K f w):=rfl
theorem dU4{t:TypeId}{x:Operand}{b a:Option Operand}:B9 P S ⟨d,.slice t x b a none,ty,pos,aft,none⟩ K f w =
  aN2 (M4 P t (ev f x) (b.map (ev f)) (a.map (ev f))) K f d w (ag4 P S ⟨d,.slice t x b a none,ty,pos,aft,none⟩ K f w):=rfl
theorem dK1{x:Operand}{i:Nat}:B9 P S ⟨d,.extract x i,ty,pos,aft,none⟩ K f w =
  aN2 (match ev f x with | .tuple vs=>vs[i]?|_=>none) K f d w (ag4 P S ⟨d,.extract x i,ty,pos,aft,none⟩ K f w):=rfl
theorem dE0{x:Operand}:B9 P S ⟨d,.nilCheck x,ty,pos,aft,none⟩ K f w =
  aN2 (match ev f x with | .pointer (some a)=>some (.pointer (some a))|_=>none) K f d w (ag4 P S ⟨d,.nilCheck x,ty,pos,aft,none⟩ K f w):=rfl
theorem dD9{b:Fn}{first a:Array Operand}:B9 P S ⟨d,.makeFunc b first a,ty,pos,aft,none⟩ K f w=K (C5 f d (.func b (first.map (ev f)) (a.map (ev f)))) w:=rfl
theorem dU1{t:TypeId}{parts:Array (Nat×Operand)}:B9 P S ⟨d,.build t parts,ty,pos,aft,none⟩ K f w =
  aN2 (C1 P t (parts.toList.map λp=>(p.1,ev f p.2))) K f d w (ag4 P S ⟨d,.build t parts,ty,pos,aft,none⟩ K f w):=rfl
theorem ef7{x:Operand}{t:TypeId}:B9 P S ⟨d,.call {callee:=.builtin .len,args:=#[x],argTypes:=#[t]},ty,pos,aft,none⟩ K f w =
  aN2 (ab0 P t (ev f x)) K f d w (ag4 P S ⟨d,.call {callee:=.builtin .len,args:=#[x],argTypes:=#[t]},ty,pos,aft,none⟩ K f w):=rfl
theorem ef6{x:Operand}{t:TypeId}:B9 P S ⟨d,.call {callee:=.builtin .cap,args:=#[x],argTypes:=#[t]},ty,pos,aft,none⟩ K f w =
  aN2 (dv2 P t (ev f x)) K f d w (ag4 P S ⟨d,.call {callee:=.builtin .cap,args:=#[x],argTypes:=#[t]},ty,pos,aft,none⟩ K f w):=rfl
theorem dK0{s t:Nat}{x:Operand}:B9 P S ⟨d,.convert s t x,ty,pos,aft,none⟩ K f w =
  aN2 (bv1 P s t (ev f x)) K f d w (ag4 P S ⟨d,.convert s t x,ty,pos,aft,none⟩ K f w):=rfl
theorem ef1{D:Prop}:aN2 none K f d w D=D:=rfl
theorem ef9{x y:Operand}{a:Array TypeId}:B9 P S ⟨d,.call {callee:=.builtin .min,args:=#[x,y],argTypes:=a},ty,pos,aft,none⟩ K f w =
  aN2 (dj0 (ev f x) (ev f y)) K f d w (ag4 P S ⟨d,.call {callee:=.builtin .min,args:=#[x,y],argTypes:=a},ty,pos,aft,none⟩ K f w):=rfl
theorem ef8{x y:Operand}{a:Array TypeId}:B9 P S ⟨d,.call {callee:=.builtin .max,args:=#[x,y],argTypes:=a},ty,pos,aft,none⟩ K f w =
  aN2 (di7 (ev f x) (ev f y)) K f d w (ag4 P S ⟨d,.call {callee:=.builtin .max,args:=#[x,y],argTypes:=a},ty,pos,aft,none⟩ K f w):=rfl
end
section
variable {d:Option Nat} {ty:TypeId} {pos:String} {aft:Array Edge} {S:World->Prop}
theorem eb7{t:TypeId}{a:Operand}:B9 P none ⟨d,.load t a,ty,pos,aft,none⟩ K f w=am8 ((Instr.loadAt t (ev f a)).run P w) K f d:=rfl
theorem ds9{t n:Nat}{a:Array (Nat×Operand)}:B9 P none ⟨d,.buildSlice t n a,ty,pos,aft,none⟩ K f w=am8 ((Instr.buildSlice t n (a.map λp=>(p.1,ev f p.2))).run P w) K f d:=rfl
theorem dT1{t:Nat}:B9 P none ⟨d,.alloc t,ty,pos,aft,none⟩ K f w=am8 ((Instr.alloc t true (.tuple #[])).run P w) K f d:=rfl
theorem ef0{t:Nat}{x:Operand}:B9 P none ⟨d,.box t x,ty,pos,aft,none⟩ K f w=am8 ((Instr.box t (ev f x)).run P w) K f d:=rfl
theorem dy5{t:Nat}{x y:Operand}:B9 P none ⟨d,.makeSlice t x y,ty,pos,aft,none⟩ K f w=am8 ((Instr.makeSlice t (ev f x) (ev f y)).run P w) K f d:=rfl
theorem aB8{t:Nat}{r:Option Operand}:B9 P none ⟨d,.makeMap t r,ty,pos,aft,none⟩ K f w=am8 ((Instr.makeMap t (r.map (ev f))).run P w) K f d:=rfl
theorem dO4{t:Nat}{x i:Operand}{a:Bool}:B9 P none ⟨d,.lookup t x i a,ty,pos,aft,none⟩ K f w=am8 ((Instr.lookup t (ev f x) (ev f i) a).run P w) K f d:=rfl
theorem dJ6{s t:Nat}{x:Operand}:ag4 P none ⟨d,.convert s t x,ty,pos,aft,none⟩ K f w=am8 ((convert s t (ev f x)).run P w) K f d:=rfl
theorem ee4{op:BinOp}{t a:TypeId}{x y:Operand}:ag4 P none ⟨d,.binOp op t x y a,ty,pos,aft,none⟩ K f w=am8 ((do eqGuard op t x y (ev f x) (ev f y);binOp op t (ev f x) (ev f y):Sem Value).run P w) K f d:=rfl
def dO3{x y:Operand}{a:Array TypeId}:B9 P none ⟨d,.call {callee:=.builtin .append,args:=#[x,y],argTypes:=a},ty,pos,aft,none⟩ K f w=am8 ((Builtin.append_ a ty #[ev f x,ev f y]).run P w) K f d:=by
 simp[B9,aC1,ag4,bo2,bz7]
def eb6{x y:Operand}{a:Array TypeId}:B9 P none ⟨d,.call {callee:=.builtin .copy,args:=#[x,y],argTypes:=a},ty,pos,aft,none⟩ K f w=am8 ((Builtin.copy_ a ty #[ev f x,ev f y]).run P w) K f d:=by
 simp[B9,aC1,ag4,bo2,bz7]
theorem dT4{t:Nat}{a x:Operand}:B9 P none ⟨d,.store t a x,ty,pos,aft,none⟩ K f w=br1 ((Instr.storeAt t (ev f a) (ev f x)).run P w) K f d:=rfl
theorem ax6{t:Nat}{m k x:Operand}:B9 P none ⟨d,.mapUpdate t m k x,ty,pos,aft,none⟩ K f w=br1 ((Instr.mapUpdate t (ev f m) (ev f k) (ev f x)).run P w) K f d:=rfl
def eb5{k:Nat}{a:Array Operand}{b:Array TypeId}:B9 P none ⟨d,.call {callee:=.value (.func k),args:=a,argTypes:=b},ty,pos,aft,none⟩ K f w=aG8 P k (a.toList.map (ev f)) w K f d:=by
 simp[B9,aC1,ag4,bo2,ev,aZ8]
theorem eb4{t:TypeId}{a:Operand}:B9 P (some S) ⟨d,.load t a,ty,pos,aft,none⟩ K f w=F8 P S (Instr.loadAt t (ev f a)) K f d w:=rfl
theorem dO2{t:Nat}{x i:Operand}{a:Bool}:B9 P (some S) ⟨d,.lookup t x i a,ty,pos,aft,none⟩ K f w=F8 P S (Instr.lookup t (ev f x) (ev f i) a) K f d w:=rfl
theorem dJ4{s t:Nat}{x:Operand}:ag4 P (some S) ⟨d,.convert s t x,ty,pos,aft,none⟩ K f w=F8 P S (convert s t (ev f x)) K f d w:=rfl
theorem ee3{op:BinOp}{t a:TypeId}{x y:Operand}:ag4 P (some S) ⟨d,.binOp op t x y a,ty,pos,aft,none⟩ K f w=F8 P S (do eqGuard op t x y (ev f x) (ev f y);binOp op t (ev f x) (ev f y)) K f d w:=rfl
theorem ds7{t n:Nat}{a:Array (Nat×Operand)}:B9 P (some S) ⟨d,.buildSlice t n a,ty,pos,aft,none⟩ K f w=am8 ((Instr.buildSlice t n (a.map λp=>(p.1,ev f p.2))).run P w) (G0 S K) f d:=rfl
theorem dS8{t:Nat}:B9 P (some S) ⟨d,.alloc t,ty,pos,aft,none⟩ K f w=am8 ((Instr.alloc t true (.tuple #[])).run P w) (G0 S K) f d:=rfl
theorem ee9{t:Nat}{x:Operand}:B9 P (some S) ⟨d,.box t x,ty,pos,aft,none⟩ K f w=am8 ((Instr.box t (ev f x)).run P w) (G0 S K) f d:=rfl
theorem dy3{t:Nat}{x y:Operand}:B9 P (some S) ⟨d,.makeSlice t x y,ty,pos,aft,none⟩ K f w=am8 ((Instr.makeSlice t (ev f x) (ev f y)).run P w) (G0 S K) f d:=rfl
def dO1{x y:Operand}{a:Array TypeId}:B9 P (some S) ⟨d,.call {callee:=.builtin .append,args:=#[x,y],argTypes:=a},ty,pos,aft,none⟩ K f w=am8 ((Builtin.append_ a ty #[ev f x,ev f y]).run P w) (G0 S K) f d:=by
 simp[B9,aC1,ag4,bo2,bz7,flt]
def eb3{x y:Operand}{a:Array TypeId}:B9 P (some S) ⟨d,.call {callee:=.builtin .copy,args:=#[x,y],argTypes:=a},ty,pos,aft,none⟩ K f w=am8 ((Builtin.copy_ a ty #[ev f x,ev f y]).run P w) (G0 S K) f d:=by
 simp[B9,aC1,ag4,bo2,bz7,flt]
theorem dT0{t:Nat}{a x:Operand}:B9 P (some S) ⟨d,.store t a x,ty,pos,aft,none⟩ K f w=br1 ((Instr.storeAt t (ev f a) (ev f x)).run P w) (G0 S K) f d:=rfl
def eb2{k:Nat}{a:Array Operand}{b:Array TypeId}:B9 P (some S) ⟨d,.call {callee:=.value (.func k),args:=a,argTypes:=b},ty,pos,aft,none⟩ K f w=aG8 P k (a.toList.map (ev f)) w (G0 S K) f d:=by
 simp[B9,aC1,ag4,bo2,ev,aZ8]
end
end
def el9:=@List.append_assoc
def eo1:=@List.drop_eq_getElem_cons
def eo2:=@List.getElem?_append_left
def eo3:=@List.getElem?_append_right
def ej0:=@List.getElem?_eq_getElem
def ej5:=@List.getElem?_eq_some_iff
def ej2:=@List.length_append
def ek3:=@List.length_take
def ej9:=@List.mem_append
def en4:=@List.take_append_drop
def es9:=@List.take_left
def ev0:=@Nat.add_mul
def ej7:=@Nat.le_trans
def eq5:=@Nat.lt_of_lt_of_le
def eo8:=@Nat.min_eq_left
def es6:=@Nat.mul_one
abbrev Hp:=Nat->Option Obj
def i5(w:World):Hp:=λb=>w.heap[b]?
def E2(h k:Hp):Prop:=∀b o,h b=some o->k b=some o
def n7(h:Hp):E2 h h:=λ_ _ e=>e
def p7{a b c:Hp}(h:E2 a b)(k:E2 b c):E2 a c:=λx o e=>k x o (h x o e)
def N2(h:Hp)(a:Addr):Option Value:=match h a.block with
 | some (.cells c _ _)=>if a.spot.isSome then none else c[a.off]?
 | _=>none
theorem an1(w:World)(a:Addr):w.cell? a=N2 (i5 w) a:=rfl
def J5{h k:Hp}(b:E2 h k){a:Addr}{v:Value}(e:N2 h a=some v):N2 k a=some v:=by
 unfold N2 at *;cases hb:h a.block with
 | none=>simp[hb]at e
 | some o=>rw[b _ _ hb];rw[hb]at e;exact e
structure p6 (M:Nat->Prop) (w w':World):Prop where
 os:w'.os=w.os
 tape:w'.tape=w.tape
 output:w'.output=w.output
 size:w.heap.size<=w'.heap.size
 block:∀k,k<w.heap.size->¬M k->w'.heap[k]?=w.heap[k]?
abbrev o6(w a:World):Prop:=p6 (λ_=>False) w a
def p6.refl{M:Nat->Prop}(w:World):p6 M w w:=⟨rfl,rfl,rfl,ek6 _,λ_ _ _=>rfl⟩
def p6.trans{M:Nat->Prop}{a b c:World}(h:p6 M a b)(k:p6 M b c):p6 M a c:=
 ⟨k.os.trans h.os,k.tape.trans h.tape,k.output.trans h.output,ej7 h.size k.size,λi d hm=>(k.block i (eq5 d h.size) hm).trans (h.block i d hm)⟩
def p6.weaken{M N:Nat->Prop}{w c:World}(h:p6 M w c)(a:∀k,k<w.heap.size->M k->N k):p6 N w c:=⟨h.os,h.tape,h.output,h.size,λk b d=>h.block k b λhm=>d (a k b hm)⟩
def o6.drew(w:World):o6 w w.drew:=⟨rfl,rfl,rfl,ek6 _,λ_ _ _=>rfl⟩
def o6.alloc(w:World)(o:Obj):o6 w (w.alloc o):=⟨rfl,rfl,rfl,dP,λk a _=>by
 show(w.heap.push o)[k]?=_;rw[Array.getElem?_push,if_neg om]⟩
def p6.ext_of{M:Nat->Prop}{w c d:World}(h:o6 w c)(k:p6 M c d)(e:∀b,M b->w.heap.size<=b):o6 w d:=
 ⟨k.os.trans h.os,k.tape.trans h.tape,k.output.trans h.output,ej7 h.size k.size,λi a _=>(k.block i (eq5 a h.size) (λhm=>by have:=e i hm;omega)).trans (h.block i a id)⟩
def p6.setCell{M:Nat->Prop}(w:World)(a:Addr)(v:Value)(h:M a.block):p6 M w (w.setCell a v):=
 ⟨rfl,rfl,rfl,by simp[World.setCell],λk _ hm=>by
  simp only[World.setCell,Array.getElem?_modify];rw[if_neg (λe:a.block=k=>hm (e ▸ h))]⟩
def p6.setRow{M:Nat->Prop}(w:World)(g:Nat)(cs:Array Value)(h:M g):p6 M w (w.setRow g cs):=
 ⟨rfl,rfl,rfl,dP,λk _ hm=>setRow_other w g k cs (λe=>hm (e ▸ h))⟩
def b7{w a:World}(h:o6 w a):E2 (i5 w) (i5 a):=λb o e=>by
 have c:b<w.heap.size:=(ej4.1 (show w.heap[b]?=some o from e)).1;exact(h.block b c id).trans e
def G4{h:Hp}{M:Nat->Prop}{w c:World}(hw:E2 h (i5 w))(hm:p6 M w c)(d:∀b,M b->h b=none):E2 h (i5 c):=λb o e=>by
 have a:=hw b o e;have f:b<w.heap.size:=(ej4.1 (show w.heap[b]?=some o from a)).1;exact(hm.block b f (λg=>by rw[d b g]at e;cases e)).trans a
def aM1{h:Hp}{w:World}(hw:E2 h (i5 w)){b:Nat}(hb:w.heap.size<=b):h b=none:=by
 cases e:h b with
 | none=>rfl
 | some o=>
  have:=(ej4.1 (show w.heap[b]?=some o from hw b o e)).1;omega
class A6 (α:Type) where
 sz:Nat
 pos:0<sz
 enc:Hp->List Value->α->Prop
 len:∀{h cs x},enc h cs x->cs.length=sz
 mono:∀{h k cs x},E2 h k->enc h cs x->enc k cs x
 one:∀{h cs x},enc h cs x->∀v∈cs,v.oneCell'=true
class O8 (α:Type) where
 val:α->Value
 one:∀x,(val x).oneCell'=true
instance {α:Type} [O8 α]:A6 α where
 sz:=1
 pos:=om
 enc _ cs x:=cs=[O8.val x]
 len h:=by simp[h]
 mono _ h:=h
 one h:=by
  intro v hv;rw[h]at hv;simp at hv;subst hv;exact O8.one _
instance:O8 Int:=⟨λn=>.int .i64 n,λ_=>rfl⟩
instance:O8 Bool:=⟨λb=>.bool b,λ_=>rfl⟩
instance:O8 ByteArray:=⟨λs=>.string s,λ_=>rfl⟩
instance:O8 Nat:=⟨λn=>.int .u64 n,λ_=>rfl⟩
instance {α β:Type} [A6 α] [A6 β]:A6 (α×β) where
 sz:=A6.sz α+A6.sz β
 pos:=by have:=A6.pos (α:=α);omega
 enc h cs x:=∃c1 c2,cs=c1++c2/\A6.enc h c1 x.1/\A6.enc h c2 x.2
 len:=by rintro h cs x ⟨c1,c2,rfl,h1,h2⟩;simp[A6.len h1,A6.len h2]
 mono:=by rintro h k cs x hk ⟨c1,c2,rfl,h1,h2⟩;exact⟨c1,c2,rfl,A6.mono hk h1,A6.mono hk h2⟩
 one:=by
  rintro h cs x ⟨c1,c2,rfl,h1,h2⟩ v hv;rcases ej9.1 hv with hv|hv
  .exact A6.one h1 v hv
  .exact A6.one h2 v hv
section
variable {α:Type} [A6 α]
def Q9(h:Hp):List Value->List α->Prop
 | cs,[]=>cs=[]
 | cs,x::xs=>∃a b,cs=a++b/\A6.enc h a x/\Q9 h b xs
def O2{h:Hp}:∀{b:List α} {a:List Value},Q9 h a b->a.length=b.length*A6.sz α
 | [],a,e=>by simp[Q9]at e;simp[e]
 | x::b,a,e=>by
  obtain⟨f,g,rfl,c,d⟩:=e;simp only[ej2,em1,A6.len c,O2 d,ev0];omega
def aW1{h k:Hp}(b:E2 h k):∀{c:List α} {a:List Value},Q9 h a c->Q9 k a c
 | [],_,e=>e
 | _::_,_,⟨c1,c2,e,h1,h2⟩=>⟨c1,c2,e,A6.mono b h1,aW1 b h2⟩
def cj9{h:Hp}:∀{c:List α} {b:List Value},Q9 h b c->∀v∈b,v.oneCell'=true
 | [],b,e,v,a=>by simp[Q9]at e;subst e;cases a
 | x::c,b,⟨c1,c2,e,h1,h2⟩,v,a=>by
  subst e;rcases ej9.1 a with a|a
  .exact A6.one h1 v a
  .exact cj9 h2 v a
def al5{h:Hp}:∀{d:List α} {b a:List Value} {c:List α},Q9 h b d->Q9 h a c->Q9 h (b++a) (d++c)
 | [],b,a,c,e1,e2=>by simp[Q9]at e1;subst e1;exact e2
 | x::d,b,a,c,⟨c1,c2,e,h1,h2⟩,e2=>⟨c1,c2++a,by rw[e,el9],h1,al5 h2 e2⟩
def al6{h:Hp}{a:List Value}{x:α}(b:A6.enc h a x):Q9 h a [x]:=⟨a,[],dP,b,rfl⟩
def aa6{h:Hp}:∀(d c:List α) {b:List Value},Q9 h b (d++c)->∃a f,b=a++f/\Q9 h a d/\Q9 h f c
 | [],c,b,e=>⟨[],b,rfl,rfl,e⟩
 | x::d,c,b,⟨a,f,e,h1,h2⟩=>by
  obtain⟨g,i,j,k,l⟩:=aa6 d c h2;exact⟨a++g,i,by rw[e,j,el9],⟨a,g,rfl,h1,k⟩,l⟩
def cj8{h:Hp}{xs:List α}{cs:List Value}(e:Q9 h cs xs){k:Nat}{x:α}(d:xs[k]?=some x):
  ∃b,A6.enc h b x/\∀j,j<A6.sz α->cs[k*A6.sz α+j]?=b[j]?:=by
 have a:k<xs.length:=(ej5.1 d).1;have m:xs=xs.take k++x::xs.drop (k+1):=by
  have c:xs[k]=x:=(ej5.1 d).2;have:=en4 k xs;rw[eo1 a,c]at this;exact this.symm
 rw[m]at e;obtain⟨f,n,rfl,g,⟨b,o,rfl,c,p⟩⟩:=aa6 _ _ e;refine⟨b,c,λj i=>?_⟩;have l:f.length=k*A6.sz α:=by rw[O2 g,ek3,eo8 (Nat.le_of_lt a)]
 rw[eo3 om,l,Nat.add_sub_cancel_left,eo2 (by rw[A6.len c];exact i)]
def de5{h:Hp}{xs:List α}{cs:List Value}(e:Q9 h cs xs){k:Nat}(g:k<xs.length){y:α}{d:List Value}(q:A6.enc h d y):
  Q9 h (cs.take (k*A6.sz α)++d++cs.drop (k*A6.sz α+A6.sz α)) (xs.set k y):=by
 have r:xs=xs.take k++xs[k]::xs.drop (k+1):=by
  have:=en4 k xs;rw[eo1 g]at this;exact this.symm
 rw[r]at e;obtain⟨b,s,rfl,j,⟨f,c,rfl,o,p⟩⟩:=aa6 _ _ e;have l:b.length=k*A6.sz α:=by rw[O2 j,ek3,eo8 (Nat.le_of_lt g)]
 have i:f.length=A6.sz α:=A6.len o;have m:(b++(f++c)).take (k*A6.sz α)=b:=by rw[<-l];exact es9
 have n:(b++(f++c)).drop (k*A6.sz α+A6.sz α)=c:=by
  rw[<-l,<-i,<-el9,<-ej2];exact List.drop_left
 rw[m,n];have a:xs.set k y=xs.take k++y::xs.drop (k+1):=List.set_eq_take_append_cons_drop.trans (by rw[if_pos g]);rw[a,el9];exact al5 j ⟨d,c,rfl,q,p⟩
instance:A6 (List α) where
 sz:=1
 pos:=om
 enc h cs xs:=∃a n c,cs=[.slice a n c]/\n=xs.length/\n<=c/\∃es,Q9 h es xs/\∀j v,es[j]?=some v->∃ad,a=some ad/\N2 h (ad.add j)=some v
 len:=by rintro h cs x ⟨a,n,c,rfl,_⟩;rfl
 mono:=by
  rintro h k cs x hk ⟨a,n,c,e,h1,h2,es,h3,h4⟩;refine⟨a,n,c,e,h1,h2,es,aW1 hk h3,λj v hv=>?_⟩;obtain⟨ad,e1,e2⟩:=h4 j v hv;exact⟨ad,e1,J5 hk e2⟩
 one:=by
  rintro h cs x ⟨a,n,c,rfl,_⟩ v hv;simp at hv;subst hv;rfl
end
abbrev R{α:Type}[A6 α](h:Hp)(v:Value)(x:α):Prop:=A6.enc h [v] x
def Addr.add_add'(a:Addr)(x y:Nat):(a.add x).add y=a.add (x+y):=by
 unfold Addr.add;by_cases hx:x=0
 .subst hx;simp
 .by_cases hy:y=0
  .subst hy;simp[hx]
  .simp[hx,hy,et9]
section
variable {α:Type} [A6 α] {h:Hp} {v:Value} {xs:List α}
def R.isS(b:R h v xs):isS v=true:=by
 obtain⟨a,n,c,e,_⟩:=b;simp at e;subst e;rfl
def R.vlen(d:R h v xs):vlen v=xs.length:=by
 obtain⟨a,n,c,e,b,_⟩:=d;simp at e;subst e;exact b
def R.vcap(f:R h v xs):xs.length<=vcap v:=by
 obtain⟨a,n,c,e,b,d,_⟩:=f;simp at e;subst e;rw[<-b];exact d
def R.get(A:R h v xs){k:Nat}{x:α}(p:xs[k]?=some x):
  inS v k=true/\∃i,A6.enc h i x/\∀j u,i[j]?=some u->N2 h ((G8 v (k*A6.sz α)).add j)=some u:=by
 obtain⟨a,n,c,e,D,E,i,t,m⟩:=A;simp at e;subst e;obtain⟨g,b,d⟩:=cj8 t p;have z:k<xs.length:=(ej5.1 p).1;have F:=A6.len b;have f:=A6.pos (α:=α);have s:∃u,g[0]?=some u:=by
  rw[ej0 om];exact⟨_,rfl⟩
 obtain⟨B,l⟩:=s;obtain⟨C,rfl,_⟩:=m (k*A6.sz α+0) B (by rw[d 0 f];exact l);refine⟨by simp[inS];omega,g,b,λj u o=>?_⟩;have y:j<g.length:=(ej5.1 o).1;obtain⟨q,r,w⟩:=m (k*A6.sz α+j) u (by rw[d j om];exact o);obtain rfl:=el4 r;simp only[G8];rw[Addr.add_add'];exact w
def R.inS(b:R h v xs){k:Nat}(a:k<xs.length):inS v k=true:=(b.get (ej0 a)).1
end
def M8(a:Addr):a.add 0=a:=by simp[Addr.add]
section
variable {P:Program} {t:TypeId} {w:World} {h:Hp}
def W9{a:Addr}{u:Value}(b:J4 P t=false)(c:w.cell? a=some u):(Instr.loadAt t (.pointer (some a))).run P w = .ok u w:=by
 unfold Instr.loadAt loadVar;simp only[Instr.sureAddr,el7,en1,ek8,ag7 t (bm6 b),b,ep8,er8,run_load,c]
def bH3{a:Addr}{cs:List Value}(e:J4 P t=true)(f:(P.underlying t).isSome=true)(c:(P.info? t).isSome=true)(d:N6 P t=cs.length)
  (b:∀j u,cs[j]?=some u->w.cell? (a.add j)=some u):(Instr.loadAt t (.pointer (some a))).run P w = .ok (.agg cs.toArray) w:=by
 unfold Instr.loadAt loadVar;simp only[Instr.sureAddr,el7,en1,ek8,ag7 t f,e,ep4,T8 c,d,run_loadCells_list w a cs b]
def O4{α:Type}[O8 α]{v:Value}{xs:List α}(g:R h v xs)(hw:E2 h (i5 w)){k:Nat}{x:α}(f:xs[k]?=some x)(i:J4 P t=false):
  (Instr.loadAt t (.pointer (some (G8 v k)))).run P w = .ok (O8.val x) w:=by
 obtain⟨_,b,e,d⟩:=g.get f;have a:b=[O8.val x]:=e;have:=d 0 (O8.val x) (by rw[a];rfl);rw[M8]at this;have c:(k*A6.sz α)=k:=es6 k;rw[c]at this;exact W9 i (J5 hw this)
end
def et7:=@Array.getElem?_eq_getElem
def ew1:=@Array.length_toList
def em5:=@List.append_nil
def et6:=@List.getElem?_take
def eo9:=@List.length_drop
def ep7:=@List.length_nil
def eq3:=@List.length_set
def er6:=@List.nil_append
def et4:=@List.size_toArray
def en6:=@List.take_of_length_le
def ej8:=@List.take_succ_eq_append_getElem
def et3:=@List.take_zero
def es3:=@Nat.mul_le_mul_right
def ev4:=@World.cell?_alloc_new
def er9:=@cell_of_row
def em9:=@heap_alloc_new
def B0{α:Type}[A6 α](h:Hp)(w:World)(T:TypeId)(v:Value)(xs:List α):Prop:=
 (v = .slice none 0 0/\xs=[]) \/
 ∃b c a,v = .slice (some ⟨b,0,none⟩) xs.length c/\h b=none/\w.heap[b]?=some (.cells a T (0,0))/\xs.length<=c/\c<=maxLen/\a.size=c*A6.sz α /\
  Q9 h (a.toList.take (xs.length*A6.sz α)) xs
def A5(v:Value)(b:Nat):Prop:=v.ownBlock=some b
def D8{b:Nat}{n c:Nat}:¬A5 (.slice none n c) b:=by simp[A5,Value.ownBlock]
def E7(w:World)(v a:Value):Prop:=∀b,A5 a b->A5 v b\/w.heap.size<=b
section
variable {α:Type} [A6 α] {h:Hp} {w:World} {T:TypeId} {v:Value} {xs:List α}
def B0.nil(h:Hp)(w:World)(T:TypeId):B0 h w T (.slice none 0 0) ([]:List α):=.inl ⟨rfl,rfl⟩
def B0.free(e:B0 h w T v xs){b:Nat}(hb:A5 v b):h b=none:=by
 rcases e with⟨rfl,_⟩|⟨f,c,a,rfl,d,_⟩
 .exact absurd hb D8
 .simp[A5,Value.ownBlock]at hb;subst hb;exact d
def B0.lt(e:B0 h w T v xs){b:Nat}(hb:A5 v b):b<w.heap.size:=by
 rcases e with⟨rfl,_⟩|⟨f,c,a,rfl,g,d,_⟩
 .exact absurd hb D8
 .simp[A5,Value.ownBlock]at hb;subst hb;exact(ej4.1 d).1
def B0.isS(b:B0 h w T v xs):isS v=true:=by
 rcases b with⟨rfl,_⟩|⟨d,c,a,rfl,_⟩<;>rfl
def B0.vlen(b:B0 h w T v xs):vlen v=xs.length:=by
 rcases b with⟨rfl,rfl⟩|⟨d,c,a,rfl,_⟩<;>rfl
def B0.vcap(d:B0 h w T v xs):xs.length<=vcap v:=by
 rcases d with⟨rfl,rfl⟩|⟨e,c,a,rfl,_,_,b,_⟩
 .simp
 .exact b
def B0.inS(d:B0 h w T v xs){k:Nat}(a:k<xs.length):inS v k=true:=by
 rcases d with⟨rfl,rfl⟩|⟨e,c,b,rfl,_⟩
 .simp at a
 .simp[Go.Proofs.YtpebpfiglfmegaaGreat.inS,a]
def B0.mod{M:Nat->Prop}{f:World}(k:B0 h w T v xs)(hm:p6 M w f)(i:∀b,A5 v b->¬M b):B0 h f T v xs:=by
 rcases k with j|⟨b,c,d,rfl,g,e,a⟩
 .exact .inl j
 .exact .inr ⟨b,c,d,rfl,g,(hm.block b (ej4.1 e).1 (i b rfl)).trans e,a⟩
def B0.ext{a:World}(b:B0 h w T v xs)(hm:o6 w a):B0 h a T v xs:=b.mod hm λ_ _=>id
def B0.up{k:Hp}(m:B0 h w T v xs)(j:E2 h k)(hb:∀b,A5 v b->k b=none):B0 k w T v xs:=by
 rcases m with l|⟨b,c,a,rfl,n,d,e,f,g,i⟩
 .exact .inl l
 .exact .inr ⟨b,c,a,rfl,hb b rfl,d,e,f,g,aW1 j i⟩
def B0.ro(o:B0 h w T v xs){k:Hp}(m:E2 h k)(hb:∀b,A5 v b->k b=w.heap[b]?):R k v xs:=by
 rcases o with⟨rfl,rfl⟩|⟨b,c,a,rfl,q,e,f,r,s,g⟩
 .exact⟨_,_,_,rfl,rfl,ek6 _,[],rfl,λj v p=>by simp at p⟩
 .refine⟨_,_,_,rfl,rfl,f,_,aW1 m g,λj u d=>⟨_,rfl,?_⟩⟩;have n:j<a.size:=by
   have:=(ej5.1 d).1;simp at this;omega
  have l:a[j]?=some u:=by
   rw[et6]at d;split at d
   .simpa using d
   .cases d
  have i:(⟨b,0,.none⟩:Addr).add j=⟨b,j,.none⟩:=by unfold Addr.add;split<;>simp_all
  rw[i];simp only[N2,hb b rfl,e,Option.isSome_none,ep8,er8,l]
theorem B0.rw_(a:B0 h w T v xs)(hw:E2 h (i5 w)):R (i5 w) v xs:=a.ro hw λ_ _=>rfl
def B0.get(p:B0 h w T v xs){k:Nat}{x:α}(i:xs[k]?=some x):
  ∃a,A6.enc h a x/\∀j u,a[j]?=some u->w.cell? ((G8 v (k*A6.sz α)).add j)=some u:=by
 rcases p with⟨rfl,rfl⟩|⟨b,c,d,rfl,q,l,r,s,t,m⟩
 .simp at i
 .obtain⟨a,f,o⟩:=cj8 m i;refine⟨a,f,λj u g=>?_⟩;have e:j<A6.sz α:=by have:=(ej5.1 g).1;rw[A6.len f]at this;exact this
  have:=o j e;rw[g,et6]at this;split at this
  .simp only[G8];rw[Addr.add_add'];have n:(⟨b,0,.none⟩:Addr).add (k*A6.sz α+j)=⟨b,k*A6.sz α+j,.none⟩:=by unfold Addr.add;split<;>simp_all
   rw[n,er9 w b _ d T (0,0) l];simpa using this
  .cases this
end
section
variable {α:Type} [A6 α] {h:Hp} {P:Program} {w:World} {t T:TypeId} {v:Value}
def E1{α:Type}[O8 α]{xs:List α}(g:B0 h w T v xs){k:Nat}{x:α}(f:xs[k]?=some x)(i:J4 P t=false):
  (Instr.loadAt t (.pointer (some (G8 v k)))).run P w = .ok (O8.val x) w:=by
 obtain⟨b,e,d⟩:=g.get f;have a:b=[O8.val x]:=e;have:=d 0 (O8.val x) (by rw[a];rfl);rw[M8]at this;have c:(k*A6.sz α)=k:=es6 k;rw[c]at this;exact W9 i this
def bx4{xs:List (List α)}(g:B0 h w T v xs){k:Nat}{x:List α}(e:xs[k]?=some x)(i:J4 P t=false):
  ∃u,R h u x/\(Instr.loadAt t (.pointer (some (G8 v k)))).run P w = .ok u w:=by
 obtain⟨a,b,d⟩:=g.get e;have f:a.length=1:=A6.len b
 match a,f with
 | [u],_=>
  have:=d 0 u rfl;rw[M8]at this;have c:(k*A6.sz (List α))=k:=es6 k;rw[c]at this;exact⟨u,b,W9 i this⟩
def ba4{a:Addr}{u x:Value}{i:TypeInfo}(f:P.info? t=some i)(g:i.size=1)(h:x.cells=#[x])(c:x.oneCell'=true)(d:w.cell? a=some u)(e:w.frozen? a=false):
  (Instr.storeAt t (.pointer (some a)) x).run P w = .ok () (w.setCell a x):=by
 have b:(store (a.add 0) x).run P w = .ok () (w.setCell a x):=by
  rw[M8];cases x<;>simp[Value.oneCell']at c<;>simp[store,Sem.run,d,e]
 unfold Instr.storeAt storeVar;simp only[Instr.sureAddr,el7,en1,ek8,sizeOf,O0,f,g,h,Sem.run_ite];simp only[et4,em1,ep7,storeCells,el7,b,ek8,en1];rfl
def F9{xs:List α}(q:B0 h w T v xs)(p:A6.sz α=1){k:Nat}(g:k<xs.length){x:Value}{y:α}(r:A6.enc h [x] y)(H:x.cells=#[x])
  {i:TypeInfo} (E:P.info? t=some i) (G:i.size=1) :
  ∃j,(Instr.storeAt t (.pointer (some (G8 v k))) x).run P w = .ok () j/\B0 h j T v (xs.set k y)/\p6 (A5 v) w j/\j.heap.size=w.heap.size:=by
 obtain⟨I,K,J⟩:=q.get (ej0 g);have f:x.oneCell'=true:=A6.one r x dP;rcases q with⟨rfl,rfl⟩|⟨b,c,a,rfl,u,l,z,A,m,B⟩
 .simp at g
 .have D:(⟨b,0,.none⟩:Addr).add k=⟨b,k,.none⟩:=by unfold Addr.add;split<;>simp_all
  have e:k<a.size:=by rw[m,p];omega
  have d:w.cell? ⟨b,k,.none⟩=some a[k]:=by rw[er9 w b k a T (0,0) l,et7 e]
  have n:w.frozen? ⟨b,k,.none⟩=false:=frozen_of_row w b k a T l;simp only[G8,D];refine⟨_,ba4 (P:=P) (t:=t) E G H f d n,?_,p6.setCell _ _ _ (by simp[A5,Value.ownBlock]),dP⟩;right;refine⟨b,c,a.setIfInBounds k x,dP,u,heap_setCell_same w b k a T x l,by simpa using z,A,by simpa using m,?_⟩;have o:=de5 B g r;have F:(a.toList.take xs.length).length=xs.length:=by
   rw[p]at m;have C:a.toList.length=a.size:=dP
   rw[ek3,C];omega
  have s:(a.setIfInBounds k x).toList.take ((xs.set k y).length*A6.sz α) =
    (a.toList.take (xs.length*A6.sz α)).take (k*A6.sz α)++[x]++(a.toList.take (xs.length*A6.sz α)).drop (k*A6.sz α+A6.sz α):=by
   rw[p];simp only[Array.toList_setIfInBounds,eq3,es6];rw[List.take_set];rw[List.set_eq_take_append_cons_drop,if_pos (by rw[F];exact g)];simp
  rw[s];exact o
def bd3{e:TypeId}{i:TypeInfo}{z:Value}(S:P.underlying t=some (.slice T))(R:P.info? T=some i)(Z:i.zero=some z)(a:i.size=A6.sz α)(U:z.cells.size=i.size)
  {xs ys:List α} (ho:B0 h w T v xs) {ad:Addr} {m c:Nat} {d:List Value} (hm:m=ys.length) (hn:Q9 h d ys) (k:∀j u,d[j]?=some u->w.cell? (ad.add j)=some u)
  (hy:ys≠[]) (x:xs.length+ys.length<=maxLen) (l:(xs.length+ys.length)*i.bytes<=140737488355328) (hw:E2 h (i5 w)) :
  ∃V W,(Builtin.append_ #[t,t] e #[v,.slice (some ad) m c]).run P w = .ok V W/\B0 h W T V (xs++ys)/\p6 (A5 v) w W/\E7 w v V:=by
 have D:=O2 hn;have G:=cj9 hn;have I:0<ys.length:=List.length_pos_iff.2 hy;have q:∀(p:Nat) (g:List Value),Q9 h g (xs++ys)->p<xs.length+ys.length ->
   B0 h (w.drew.alloc (.cells (g.toArray++Builtin.zeroCells z.cells (grownCap w (xs.length+ys.length) p T-(xs.length+ys.length))) T)) T
    (.slice (some ⟨w.heap.size,0,.none⟩) (xs.length+ys.length) (grownCap w (xs.length+ys.length) p T)) (xs++ys):=by
  intro p g Y ah;have Q:=grownCap_ge w (xs.length+ys.length) p T;have N:=grownCap_le_maxLen w (xs.length+ys.length) p T x;have B:=O2 Y;right;refine⟨w.heap.size,_,_,by rw[ej2],aM1 hw (ek6 _),em9 w.drew _,by rw[ej2];exact Q,N,?_,?_⟩
  .simp only[Array.size_append,et4,size_zeroCells,U,a,B,ej2,<-ev0]
   congr 1
   omega
  .simp only[Array.toList_append];rw[<-B,es9];exact Y
 have r:∀(o:Obj),p6 (A5 v) w (w.drew.alloc o):=λo=>
  p6.trans ((o6.drew w).weaken (λ_ _ h=>h.elim)) ((o6.alloc w.drew o).weaken (λ_ _ h=>h.elim))
 have F:∀n c,E7 w v (.slice (some ⟨w.heap.size,0,.none⟩) n c):=λn c b X=>by
  simp[A5,Value.ownBlock]at X;subst X;exact .inr (ek6 _)
 subst hm;rcases ho with⟨rfl,rfl⟩|⟨b,A,f,rfl,h1,L,h3,h4,h5,J⟩
 .have H:=run_append_nil (P:=P) w t e T i z S R Z ad ys.length c d (by rw[D,a]) k I (by simp only[maxLen,ep7,en0]at x;omega) (by simp only[ep7,en0]at l;omega);have C:=q 0 d (by simpa using hn) (by simp;exact I);simp only[ep7,en0,er6]at C ⊢;exact⟨_,_,H,C,r _,F _ _⟩
 .by_cases hroom:xs.length+ys.length<=A
  .have s:xs.length*i.size+d.length<=f.size:=by rw[D,a,h5,<-ev0];exact es3 _ hroom
   have H:=run_append_room (P:=P) w t e T i S R b xs.length A f L ad ys.length c d (by rw[D,a]) k G hroom s;refine⟨_,_,H,?_,p6.setRow _ _ _ (by simp[A5,Value.ownBlock]),λb' M=>.inl M⟩;right;refine⟨b,A,_,by rw[ej2],h1,setRow_heap w b f _ T _ L,by rw[ej2];exact hroom,h4,?_,?_⟩
   .simp only[et4,ej2,ek3,eo9,ew1];rw[a]at s ⊢;have:xs.length*A6.sz α<=f.size:=om
    omega
   .rw[a];have E:(f.toList.take (xs.length*A6.sz α)++d).length=(xs++ys).length*A6.sz α:=by
     rw[ej2,D,O2 J,ej2,ev0]
    rw[<-E,es9];exact al5 J hn
  .have O:(f.toList.take (xs.length*A6.sz α)).length=xs.length*i.size:=by rw[O2 J,a]
   have y:∀j u,(f.toList.take (xs.length*A6.sz α))[j]?=some u->w.cell? ((⟨b,0,.none⟩:Addr).add j)=some u:=by
    intro j u K;have ha:(⟨b,0,.none⟩:Addr).add j=⟨b,j,.none⟩:=by unfold Addr.add;split<;>simp_all
    rw[ha,er9 w b j f T (0,0) L];rw[et6]at K;split at K
    .simpa using K
    .cases K
   have H:=run_append_grow (P:=P) w t e T i z S R Z ⟨b,0,.none⟩ xs.length A (f.toList.take (xs.length*A6.sz α)) O y ad ys.length c d (by rw[D,a]) k om
    (by simp only[maxLen]at x;omega) (growslice_fits om l)
   have C:=q A (f.toList.take (xs.length*A6.sz α)++d) (al5 J hn) om;have e1:((f.toList.take (xs.length*A6.sz α)++d).toArray:Array Value)=(f.toList.take (xs.length*A6.sz α)).toArray++d.toArray:=dP
   rw[e1]at C;exact⟨_,_,H,C,r _,F _ _⟩
def bR9(a:Nat):∀(l:List Value) (k:Nat) (b:Array Value),a+k+l.length<=b.size ->
  ((l.zipIdx k).foldl (λb (p:Value×Nat)=>b.setIfInBounds (a+p.2) p.1) b).toList=b.toList.take (a+k)++l++b.toList.drop (a+k+l.length)
 | [],k,b,_=>dP
 | v::l,k,b,hl=>by
  simp only[em1]at hl;rw[List.zipIdx_cons,List.foldl_cons,bR9 a l (k+1) _ (by simp;omega)];have c:b.toList.length=b.size:=dP
  simp only[Array.toList_setIfInBounds,em1];rw[show a+(k+1)=a+k+1 by omega,List.take_set,ej8 om,List.set_append_right (h:=by simp;omega)];have d:a+k-(b.toList.take (a+k)).length=0:=by simp;omega
  rw[d,List.drop_set_of_lt om];simp[el9,et9,Nat.add_comm 1]
def de7{a:Nat->Option (Nat×Nat)}{b sz i:Nat}{x:Value}{cs:Array Value}{c:List (Nat×Value)}(e:a i=some (b,sz))(d:x.cells.size=sz)(f:b+sz<=cs.size):
  Instr.fill a cs ((i,x)::c)=Instr.fill a (cs.toList.take b++x.cells.toList++cs.toList.drop (b+sz)).toArray c:=by
 conv=>lhs;unfold Instr.fill
 simp only[e];rw[if_neg (by simp[d];omega)]
 congr 1
 apply Array.ext';have:=bR9 b x.cells.toList 0 cs (by simp;omega);simp only[Nat.add_zero,ew1,d]at this;rw[<-this,<-Array.foldl_toList];simp[Array.toList_zipIdx]
def ck1(sz:Nat):∀(b:List Value) (k:Nat) (a:Array Value),(∀x∈b,x.cells.size=sz)->a.size=(k+b.length)*sz ->
  Instr.fill (λi=>some (i*sz,sz)) a ((b.zipIdx k).map λp=>(p.2,p.1))=some (a.toList.take (k*sz)++b.flatMap (·.cells.toList)).toArray
 | [],k,a,_,hc=>by
  simp only[ep7,Nat.add_zero]at hc;simp only[List.zipIdx_nil,List.map_nil,Instr.fill,List.flatMap_nil,em5]
  congr 1
  apply Array.ext';rw[<-hc,en6 dP]
 | x::b,k,a,hx,hc=>by
  simp only[em1]at hc;have f:a.size=k*sz+sz+b.length*sz:=by rw[hc,ev0,ev0];omega
  have c:=hx x dP;have d:a.toList.length=a.size:=dP
  rw[List.zipIdx_cons,en8];show Instr.fill _ a ((k,x)::_)=_;rw[de7 rfl c om];have g:(List.take (k*sz) a.toList++x.cells.toList++List.drop (k*sz+sz) a.toList).toArray.size=(k+1+b.length)*sz:=by
   simp[c];rw[ev0,ev0];omega
  rw[ck1 sz b (k+1) _ (λy h=>hx y (by simp[h])) g]
  congr 2
  have e:(k+1)*sz=(List.take (k*sz) a.toList++x.cells.toList).length:=by
   simp[c,ev0];omega
  rw[e,es9];simp
def aC4{e:TypeId}{z:Value}(k:N5 P t=some e)(f:(P.info? e).isSome=true)(m:I4 P e=some z)(xs:List Value)(l:∀x∈xs,x.cells.size=N6 P e)(hn:xs≠[])
  (b:0<N6 P e) (j:xs.length*N6 P e<=16777216) {parts:Array (Nat×Value)} (h:parts.toList=(xs.zipIdx 0).map λp=>(p.2,p.1)) {n:Nat} (c:n=xs.length) :
  (Instr.buildSlice t n parts).run P w = .ok (.slice (some ⟨w.heap.size,0,none⟩) n n) (w.alloc (.cells (xs.flatMap (·.cells.toList)).toArray e)):=by
 subst c;obtain⟨i,a⟩:=eo6.1 f;have d:i.zero=some z:=by simpa[I4,a]using m
 have g:¬(xs.length*N6 P e=0):=by
  have:0<xs.length:=List.length_pos_iff.2 hn;exact Nat.ne_of_gt (Nat.mul_pos this b)
 unfold Instr.buildSlice zeroValue;simp only[el7,I6,P4 k,ek8,T8 f,Sem.run_ite,O0,a,d,en1];rw[if_neg om];simp only[g,er8];rw[h,ck1 (N6 P e) xs 0 _ l dP];simp only[Nat.zero_mul,et3,er6];rfl
def F0{i:TypeInfo}(a:P.info? t=some i):N6 P t=i.size:=by simp[N6,a]
def aH5{i:TypeInfo}(a:P.info? t=some i):dd1 P t=i.bytes:=by simp[dd1,a]
def A4{z:Value}(a:I4 P t=some z):∃i,P.info? t=some i/\i.zero=some z:=by
 unfold I4 at a;cases hi:P.info? t with
 | none=>simp[hi]at a
 | some i=>exact⟨i,rfl,by simpa[hi]using a⟩
def dk9{e:TypeId}{z:Value}(G:N5 P t=some T)(I:I4 P T=some z)(a:N6 P T=A6.sz α)(p:z.cells.size=A6.sz α)
  {xs:List α} (F:B0 h w T v xs) {x:Value} {y:α} (H:A6.enc h x.cells.toList y) (B:xs.length+1<=1000000000000) (d:(xs.length+1)*dd1 P T<=140737488355328) (hw:E2 h (i5 w)) :
  ∃g k,(Builtin.append_ #[t,t] e #[v,.slice (some ⟨w.heap.size,0,none⟩) 1 1]).run P (w.alloc (.cells x.cells T)) = .ok g k/\B0 h k T g (xs++[y])/\p6 (A5 v) w k/\E7 w v g:=by
 obtain⟨i,l,n⟩:=A4 I;rw[F0 l]at a;rw[aH5 l]at d;have o:E2 h (i5 (w.alloc (.cells x.cells T))):=p7 hw (b7 (o6.alloc w _));have f:∀j u,x.cells.toList[j]?=some u->(w.alloc (.cells x.cells T)).cell? ((⟨w.heap.size,0,none⟩:Addr).add j)=some u:=by
  intro j u E;have C:(⟨w.heap.size,0,none⟩:Addr).add j=⟨w.heap.size,j,none⟩:=by unfold Addr.add;split<;>simp_all
  rw[C,ev4];simpa using E
 obtain⟨g,k,q,r,s,A⟩:=bd3 (P:=P) (e:=e) (P4 G) l n a (by rw[p,a]) (F.ext (o6.alloc w (.cells x.cells T))) (c:=1) (m:=1) (ad:=⟨w.heap.size,0,none⟩) rfl (al6 H) f dP
  (by simp[maxLen];omega) (by simpa using d) o
 refine⟨g,k,q,r,?_,λb D=>?_⟩
 .exact p6.trans ((o6.alloc w (.cells x.cells T)).weaken (λ_ _ h=>h.elim)) s
 .rcases A b D with h|h
  .exact .inl h
  .simp at h;exact .inr om
def av1{e:TypeId}{z:Value}(g:N5 P t=some e)(c:I4 P e=some z)(a:0<N6 P e)(b:N6 P e<=16777216){x:Value}(h:x.cells.size=N6 P e):
  (Instr.buildSlice t 1 #[(0,x)]).run P w = .ok (.slice (some ⟨w.heap.size,0,none⟩) 1 1) (w.alloc (.cells x.cells e)):=by
 obtain⟨i,d,f⟩:=A4 c;have:=aC4 (w:=w) g (by rw[d];rfl) c [x] (by simpa using h) dP a (by simpa using b) (parts:=#[(0,x)]) rfl (n:=1) rfl;simpa using this
end
def ep3:=@List.mem_cons_of_mem
def dv9(ops:Array Oper):List Nat:=ops.toList.filterMap (·.dst)
def wrC:Code->List Nat
 | .seq a b=>wrC a++wrC b
 | .cond _ a b=>wrC a++wrC b
 | .block _ a=>wrC a
 | .loop a=>wrC a
 | .region _ ops _=>dv9 ops
 | _=>[]
section
variable {P:Program}
def bV1{r:Result Value}{K a:Fr->World->Prop}{f:Fr}{d:Option Nat}(h:∀v w,K (C5 f d v) w->a (C5 f d v) w)(b:am8 r K f d):am8 r a f d:=by
 cases r with
 | ok v w=>exact h _ _ b
 | halt x w=>exact b.elim
def br2{r:Result Unit}{K a:Fr->World->Prop}{f:Fr}{d:Option Nat}(h:∀v w,K (C5 f d v) w->a (C5 f d v) w)(b:br1 r K f d):br1 r a f d:=by
 cases r with
 | ok v w=>exact h _ _ b
 | halt x w=>exact b.elim
def cu9{k:Nat}{args:List Value}{w:World}{K a:Fr->World->Prop}{f:Fr}{d:Option Nat}(h:∀v w,K (C5 f d v) w->a (C5 f d v) w)(n:aG8 P k args w K f d):aG8 P k args w a f d:=by
 rcases n with⟨i,j⟩|⟨v,b,c,g⟩
 .exact .inl ⟨i,j.mono λe b ⟨v,l,m⟩=>⟨v,l,h _ _ m⟩⟩
 .exact .inr ⟨v,b,c,h _ _ g⟩
def by7{o:Oper}{K b:Fr->World->Prop}{f:Fr}{w:World}(h:∀v w,K (C5 f o.dst v) w->b (C5 f o.dst v) w)(a:T9 P o K f w):T9 P o b f w:=by
 unfold T9 at *;generalize(execOp (ev f) o).run P w=r at *;cases r with
 | halt x i=>exact a
 | ok n i=>
  cases n
  case value v=>exact h _ _ a
  case skip=>exact h _ _ a
  case enter g args=>exact Calls.mono a λe j ⟨v,c,d⟩=>⟨v,c,h _ _ d⟩
  all_goals exact a
def aM2{S:Option (World->Prop)}{K b:Fr->World->Prop}{f:Fr}{d:Option Nat}(h:∀v w,K (C5 f d v) w->b (C5 f d v) w):∀v w,aZ8 S K (C5 f d v) w->aZ8 S b (C5 f d v) w:=by
 intro v w a;cases S with
 | none=>exact h _ _ a
 | some S=>exact⟨a.1,h _ _ a.2⟩
def cO6{S:Option (World->Prop)}{b:Bool}{s:Sem Value}{K c:Fr->World->Prop}{f:Fr}{d:Option Nat}{w:World}(h:∀v w,K (C5 f d v) w->c (C5 f d v) w)(a:bz7 P S b s K f d w):bz7 P S b s c f d w:=by
 unfold bz7 at *;cases S with
 | none=>exact bV1 h a
 | some S=>
  cases b with
  | true=>
   simp only[ep4]at a ⊢;obtain⟨v,g,i⟩:=a;exact⟨v,g,h _ _ i⟩
  | false=>
   simp only[ep8,er8]at a ⊢;exact bV1 (λv w e=>⟨e.1,h _ _ e.2⟩) a
def ag6{S:Option (World->Prop)}{o:Oper}{K l:Fr->World->Prop}{f:Fr}{w:World}(h:∀v w,K (C5 f o.dst v) w->l (C5 f o.dst v) w)(a:B9 P S o K f w):B9 P S o l f w:=by
 unfold B9 at *;split
 .rename_i v j;simp only[j]at a;exact h _ _ a
 .rename_i j;simp only[j]at a;unfold ag4 at *;split
  .rename_i s b;simp only[b]at a;exact cO6 h a
  .rename_i b;simp only[b]at a;obtain⟨d,op,x,r,n,u⟩:=o;cases op
   case store=>exact br2 (aM2 h) a
   case mapUpdate=>exact br2 (aM2 h) a
   case insert=>exact br2 (aM2 h) a
   case call c=>
    obtain⟨e,args,t⟩:=c;cases e
    case value g=>
     simp only at a ⊢;cases hg:ev f g
     case func fn first cap=>
      cases fn
      case func k=>simp only[hg]at a ⊢;exact cu9 (aM2 h) a
      all_goals (simp only[hg]at a)
     all_goals (simp only[hg]at a)
    all_goals exact a
   all_goals
    cases S with
    | none=>exact by7 h a
    | some S=>
     simp only at a ⊢;split
     .rename_i i;rw[if_pos i]at a;obtain⟨v,p,q⟩:=a;exact⟨v,p,h _ _ q⟩
     .rename_i i;rw[if_neg i]at a;exact by7 (λv w m=>⟨m.1,h _ _ m.2⟩) a
def be8{f:Fr}{d:Option Nat}{v:Value}{i:Nat}(h:∀k,d=some k->i≠k):C5 f d v i=f i:=by
 cases d with
 | none=>rfl
 | some k=>simp[C5,B8,h k rfl]
def da0{ops:Array Oper}{K m:Fr->World->Prop}:∀(l:List Oper) (f:Fr) (w:World),(∀g d,(∀i,i∉l.filterMap (·.dst)->g i=f i)->K g d->m g d)->Rn P ops l K f w->Rn P ops l m f w
 | [],f,w,h,hr=>h _ _ (λ_ _=>rfl) hr
 | o::l,f,w,h,hr=>by
  have c:∀v d,Rn P ops l K (C5 f o.dst v) d->Rn P ops l m (C5 f o.dst v) d:=λv d q=>
   da0 l _ _ (λg x u r=>h _ _ (λi s=>by
    have t:i∉l.filterMap (·.dst):=λhm=>s (List.mem_filterMap.2 (let⟨a,ha,hd⟩:=List.mem_filterMap.1 hm;⟨a,ep3 _ ha,hd⟩));rw[u i t];exact be8 λk q e=>s (by subst e;exact List.mem_filterMap.2 ⟨o,dP,q⟩)) r) q
  unfold Rn at hr ⊢;split
  .rename_i p;simp only[p]at hr;exact ag6 c hr
  .rename_i j b p;simp only[p]at hr;split
   .rename_i n;rw[if_pos n]at hr;exact ag6 c hr
   .rename_i n;rw[if_neg n]at hr;exact c _ _ hr
def cn9{ops:Array Oper}{i:Nat}{o:Oper}{k:Nat}(b:ops[i]?=some o)(a:o.dst=some k):k∈dv9 ops:=
 List.mem_filterMap.2 ⟨o,by have:=Array.mem_of_getElem? b;simpa using this,a⟩
def bY3{ops:Array Oper}{S:World->Prop}{K s:Fr->World->Prop}:∀(l:aR4) (f:Fr) (w:World),(∀q d,(∀i,i∉dv9 ops->q i=f i)->K q d->s q d)->RnF P ops S l K f w->RnF P ops S l s f w
 | .nil,f,w,h,a=>h _ _ (λ_ _=>rfl) a
 | .op i l,f,w,h,a=>by
  unfold RnF at a ⊢;cases ho:ops[i]? with
  | none=>simp[ho]at a
  | some o=>
   simp only[ho]at a ⊢;have c:∀v d,RnF P ops S l K (C5 f o.dst v) d->RnF P ops S l s (C5 f o.dst v) d:=λv d n=>
    bY3 l _ _ (λq u t p=>h _ _ (λj r=>by
     rw[t j r];exact be8 λk n e=>r (by subst e;exact cn9 ho n)) p) n
   split
   .rename_i m;simp only[m]at a;exact ag6 c a
   .rename_i j b m;simp only[m]at a;split
    .rename_i g;rw[if_pos g]at a;exact ag6 c a
    .rename_i g;rw[if_neg g]at a;exact c _ _ a
 | .fork rs k,f,w,h,a=>by
  unfold RnF at a ⊢;intro i x;have a:=a i x;cases ho:ops[i]? with
  | none=>simp[ho]at a
  | some o=>
   simp only[ho]at a ⊢;have c:∀v d,RnF P ops S (k i) K (C5 f o.dst v) d->RnF P ops S (k i) s (C5 f o.dst v) d:=λv d n=>
    bY3 (k i) _ _ (λq u t p=>h _ _ (λj r=>by
     rw[t j r];exact be8 λk n e=>r (by subst e;exact cn9 ho n)) p) n
   split
   .rename_i m;simp only[m]at a;exact⟨ag6 c a.1,a.2⟩
   .rename_i j b m;simp only[m]at a;split
    .rename_i g;rw[if_pos g]at a;exact⟨ag6 c a.1,a.2⟩
    .rename_i g;rw[if_neg g]at a;exact c _ _ a
def cZ1:∀(c:Code) (Q t:Exit->Fr->World->Prop) (f:Fr) (w:World),(∀e p u,(∀i,i∉wrC c->p i=f i)->Q e p u->t e p u)->CW P c Q f w->CW P c t f w:=by
 intro c
 induction c with
 | skip=>intro Q t f w h g;exact h _ _ _ (λ_ _=>rfl) g
 | seq a b A B=>
  intro Q t f w h g;refine A _ _ _ _ ?_ g;intro e p u q k;cases e
  case normal=>
   refine B _ _ _ _ ?_ k;intro Y H J r y;exact h _ _ _ (λi j=>by
    simp only[wrC,ej9,not_or]at j;rw[r i j.2,q i j.1]) y
  all_goals exact h _ _ _ (λi j=>by
    simp only[wrC,ej9,not_or]at j;exact q i j.1) k
 | cond v a b A B=>
  intro Q t f w h g;simp only[CW]at g ⊢;unfold aS3 at *;split
  .rename_i z;simp only[z]at g;exact A _ _ _ _ (λe p u q k=>h _ _ _ (λi j=>by simp only[wrC,ej9,not_or]at j;exact q i j.1) k) g
  .rename_i z;simp only[z]at g;exact B _ _ _ _ (λe p u q k=>h _ _ _ (λi j=>by simp only[wrC,ej9,not_or]at j;exact q i j.2) k) g
  .rename_i C F;split at g
   .rename_i z;exact absurd z C
   .rename_i z;exact absurd z F
   .exact g
 | block id a G=>
  intro Q t f w h g;refine G _ _ _ _ ?_ g;intro e p u q k;cases e
  case exit id'=>
   simp only[ac6]at k ⊢;split
   .rename_i x;rw[if_pos x]at k;exact h _ _ _ q k
   .rename_i x;rw[if_neg x]at k;exact h _ _ _ q k
  all_goals exact h _ _ _ q k
 | loop a G=>
  intro Q t f w h g;obtain⟨X,I,m,W,K,T⟩:=g;refine⟨X,λs p u=>I s p u/\∀i,i∉wrC a->p i=f i,m,W,⟨K,λ_ _=>rfl⟩,?_⟩;rintro s p u ⟨N,D⟩;refine G _ _ _ _ ?_ (T s p u N);intro e H J r k;cases e
  case normal=>
   obtain⟨V,C,F⟩:=k;exact⟨V,C,F,λi j=>by rw[r i j,D i j]⟩
  all_goals exact h _ _ _ (λi j=>by rw[r i j,D i j]) k
 | region id U d=>
  intro Q t f w h g;cases d
  case false=>exact da0 _ _ _ (λp u q k=>h _ _ _ q k) g
  case true=>
   obtain⟨S,n,E,C,L,M⟩:=g;refine⟨S,n,E,C,L,?_⟩;refine bY3 E _ _ ?_ M;intro p u q k;refine da0 _ _ _ ?_ k;intro H J r y;exact h _ _ _ (λi j=>by
    rw[r i,q i j];intro hm;obtain⟨o,R,O⟩:=List.mem_filterMap.1 hm;exact j (List.mem_filterMap.2 ⟨o,ev1 R,O⟩)) y
 | exit id=>intro Q t f w h g;exact h _ _ _ (λ_ _=>rfl) g
 | label l=>intro Q t f w h g;exact h _ _ _ (λ_ _=>rfl) g
 | ret=>intro Q t f w h g;exact h _ _ _ (λ_ _=>rfl) g
 | _=>intro Q t f w _ g;exact g
def E8{c:Code}{Q:Exit->Fr->World->Prop}{f:Fr}{w:World}{σ:Type}(a:List Nat)(I:σ->Fr->World->Prop)(m:σ->Nat)(q:σ)
  (r:I q f w)
  (y:∀s b d,(∀i∈a,b i=f i)->I s b d->CW P c (ae9 (λk o=>∃j,m j<m s/\I j k o) Q) b d) (x:a.all (λi=>!(wrC c).contains i)=true:=by decide +kernel):ch1 (CW P c) Q f w:=by
 have n:∀i∈a,i∉wrC c:=by
  intro i h hm;have:=eq9.1 x i h;simp[hm]at this
 refine⟨σ,λs b d=>I s b d/\∀i∈a,b i=f i,m,q,⟨r,λ_ _=>rfl⟩,?_⟩;rintro s b d ⟨v,g⟩;refine cZ1 c _ _ _ _ ?_ (y s b d g v);intro e z A l p;cases e
 case normal=>
  obtain⟨j,t,u⟩:=p;exact⟨j,t,u,λi h=>by rw[l i (n i h),g i h]⟩
 all_goals exact p
def agr:List Nat->List Value->Fr->Prop
 | i::l,v::vs,f=>f i=v/\agr l vs f
 | _,_,_=>True
def da6{f g:Fr}:∀(l:List Nat) (a:List Value),l.map g=a->(∀i∈l,f i=g i)->agr l a f
 | [],_,_,_=>trivial
 | i::l,_,rfl,h=>⟨h i dP,da6 l _ rfl λj b=>h j (ep3 _ b)⟩
def A9{c:Code}{Q:Exit->Fr->World->Prop}{f:Fr}{w:World}{σ:Type}{vs:List Value}(a:List Nat)(I:σ->Fr->World->Prop)(m:σ->Nat)(j:σ)
  (k:I j f w)
  (p:∀s b d,agr a vs b->I s b d->CW P c (ae9 (λe g=>∃h,m h<m s/\I h e g) Q) b d)
  (hv:a.map f=vs:=by(simp only[en8,List.map_nil,B8,↓reduceIte,Nat.reduceEqDiff];exact rfl)) (o:a.all (λi=>!(wrC c).contains i)=true:=by decide +kernel):ch1 (CW P c) Q f w:=
 E8 a I m j k (λs b d l n=>p s b d (da6 _ _ hv l) n) o
def y4{k:Nat}{args:List Value}{w:World}{K:Fr->World->Prop}{f:Fr}{d:Option Nat}{R:Value->World->Prop}
  (h:Calls P k args.toArray w λe a=>∃v,e = .returned v/\R v a) (c:∀v a,R v a->K (C5 f d v) a) (hb:ar7 P k=true:=by kernel_rfl):aG8 P k args w K f d:=
 .inl ⟨hb,h.mono λ_ _ ⟨v,b,g⟩=>⟨v,b,c _ _ g⟩⟩
def C0{ops:Array Oper}{K:Fr->World->Prop}{f:Fr}{w:World}(S:World->Prop)(n:Nat)(a:aR4)
  (h:RnF P ops S a (Rn P ops (ops.toList.drop n) K) f w.drew) (b:cq7 ops n a=true:=by decide +kernel) (hS:S w.drew:=by first|exact p6.refl _|exact rfl):cZ6 P ops K f w:=⟨S,n,a,b,hS,h⟩
def bg5{ops:Array Oper}{K:Fr->World->Prop}{f:Fr}{w:World}(b:List Nat)(S:World->Prop)(n:Nat)(a:aR4)(I:Fr->World->Prop)(j:cq7 ops n a=true)(g:b.all (λi=>!(dv9 ops).contains i)=true)(hS:S w.drew)
  (h:RnF P ops S a I f w.drew) (m:∀c d,(∀i∈b,c i=f i)->I c d->Rn P ops (ops.toList.drop n) K c d):cZ6 P ops K f w:=by
 refine⟨S,n,a,j,hS,bY3 a _ _ (λc d k l=>m c d (λi e=>k i ?_) l) h⟩;have:=eq9.1 g i e;intro hm;simp[hm]at this
def V3{ops:Array Oper}{S:World->Prop}{K:Fr->World->Prop}{f:Fr}{w:World}{e:List Nat}{k:Nat->aR4}(m:e.all (λi=>match ops[i]? with|some o=>!flt o.op|none=>false)=true)
  (h:∀i∈e,RnF P ops S (.op i (k i)) K f w):RnF P ops S (.fork e k) K f w:=by
 unfold RnF;intro i l;have a:=h i l;have c:=eq9.1 m i l;unfold RnF at a;cases ho:ops[i]? with
 | none=>simp[ho]at c
 | some o=>
  simp only[ho]at a c ⊢;have g:flt o.op=false:=by simpa using c
  cases hg:o.guard with
  | none=>simp only[hg]at a ⊢;exact⟨a,g⟩
  | some n=>
   obtain⟨j,b⟩:=n;simp only[hg]at a ⊢;split
   .rename_i d;rw[if_pos d]at a;exact⟨a,g⟩
   .rename_i d;rw[if_neg d]at a;exact a
def A7:List Nat->aR4
 | []=>.nil
 | i::l=>.op i (A7 l)
end
def el5:=@Int.toNat_natCast
def eq2:=@List.ext_getElem
def ek2:=@List.length_map
def en9:=@List.length_range
def eo7:=@List.length_replicate
def em6:=@List.map_append
def es8:=@List.mem_iff_getElem?
def el0:=@List.mem_of_getElem?
def ek4:=@List.take_length
def er7:=@decide_eq_false
def M7(n:Int)(h : -9223372036854775808<=n/\n<=9223372036854775807):IntKind.i64.wrap n=n:=IntWalk.i64_in n h
def J2(k:Nat)(h:k<4000000000000000000:=by omega):IntKind.i64.wrap ((k:Int)+1)=((k+1:Nat):Int):=by
 rw[M7 _ om];rfl
def nx2{σ:Type}{A B Z:σ->Prop}(s:σ)(z:Z s)(a:A s:=by first|exact True.intro|omega|(simp only[];first|omega|rw[J2 _]|rfl)|rw[J2 _]|rfl)(b:B s:=by first|exact True.intro|omega|(simp only[];first|omega|rw[J2 _]|rfl)|rw[J2 _]|rfl):∃s,A s/\B s/\Z s:=⟨s,a,b,z⟩
def V1{σ:Type}{A B C Z:σ->Prop}(s:σ)(z:Z s)(a:A s:=by first|exact True.intro|omega|(simp only[];first|omega|rw[J2 _]|rfl)|rw[J2 _]|rfl)(b:B s:=by first|exact True.intro|omega|(simp only[];first|omega|rw[J2 _]|rfl)|rw[J2 _]|rfl)(c:C s:=by first|exact True.intro|omega|(simp only[];first|omega|rw[J2 _]|rfl)|rw[J2 _]|rfl):∃s,A s/\B s/\C s/\Z s:=⟨s,a,b,c,z⟩
def nx4{σ:Type}{A B C D Z:σ->Prop}(s:σ)(z:Z s)(a:A s:=by first|exact True.intro|omega|(simp only[];first|omega|rw[J2 _]|rfl)|rw[J2 _]|rfl)(b:B s:=by first|exact True.intro|omega|(simp only[];first|omega|rw[J2 _]|rfl)|rw[J2 _]|rfl)(c:C s:=by first|exact True.intro|omega|(simp only[];first|omega|rw[J2 _]|rfl)|rw[J2 _]|rfl)(d:D s:=by first|exact True.intro|omega|(simp only[];first|omega|rw[J2 _]|rfl)|rw[J2 _]|rfl):∃s,A s/\B s/\C s/\D s/\Z s:=⟨s,a,b,c,d,z⟩
def nx5{σ:Type}{A B C D E Z:σ->Prop}(s:σ)(z:Z s)(a:A s:=by first|exact True.intro|omega|(simp only[];first|omega|rw[J2 _]|rfl)|rw[J2 _]|rfl)(b:B s:=by first|exact True.intro|omega|(simp only[];first|omega|rw[J2 _]|rfl)|rw[J2 _]|rfl)(c:C s:=by first|exact True.intro|omega|(simp only[];first|omega|rw[J2 _]|rfl)|rw[J2 _]|rfl)(d:D s:=by first|exact True.intro|omega|(simp only[];first|omega|rw[J2 _]|rfl)|rw[J2 _]|rfl)(e:E s:=by first|exact True.intro|omega|(simp only[];first|omega|rw[J2 _]|rfl)|rw[J2 _]|rfl):∃s,A s/\B s/\C s/\D s/\E s/\Z s:=⟨s,a,b,c,d,e,z⟩
def ed9(k:Nat)(h:k<4000000000000000000):IntKind.i64.wrap (k:Int)=(k:Int):=M7 _ om
def ee1(k:Nat):decide ((0:Int)<=(k:Int))=true:=dP
def G7(P:Program)(t T sz a:Nat):Bool:=
 (N5 P t==some T)&&(match I4 P T with|some z=>z.cells.size==sz|none=>false)&&(N6 P T==sz)&&(dd1 P T==a)&&decide (0<sz)&&decide (sz<=1000000)
def X0{P:Program}{t T sz a:Nat}(h:G7 P t T sz a=true):
  N5 P t=some T/\(∃z,I4 P T=some z/\z.cells.size=sz)/\N6 P T=sz/\dd1 P T=a/\0<sz/\sz<=1000000:=by
 simp only[G7,el3,beq_iff_eq,em7]at h;obtain⟨⟨⟨⟨⟨c,b⟩,d⟩,e⟩,f⟩,g⟩:=h;refine⟨c,?_,d,e,f,g⟩;cases hz:I4 P T with
 | none=>simp[hz]at b
 | some z=>exact⟨z,rfl,by simpa[hz]using b⟩
section
variable {P:Program} {w:World} {h:Hp} {t T sz by_:Nat} {v:Value}
def push{α:Type}[A6 α]{e:TypeId}(n:G7 P t T sz by_=true)(a:A6.sz α=sz){xs:List α}(m:B0 h w T v xs){x:Value}{y:α}(i:A6.enc h x.cells.toList y)
  (l:xs.length+1<=1000000000000) (hb:(xs.length+1)*by_<=140737488355328) (hw:E2 h (i5 w)) :
  (Instr.buildSlice t 1 #[(0,x)]).run P w = .ok (.slice (some ⟨w.heap.size,0,none⟩) 1 1) (w.alloc (.cells x.cells T)) /\
  ∃c d,(Builtin.append_ #[t,t] e #[v,.slice (some ⟨w.heap.size,0,none⟩) 1 1]).run P (w.alloc (.cells x.cells T)) = .ok c d/\B0 h d T c (xs++[y])/\p6 (A5 v) w d/\E7 w v c:=by
 obtain⟨f,⟨z,j,b⟩,g,k,p,q⟩:=X0 n;have o:x.cells.size=sz:=by have:=A6.len i;simpa[a]using this
 exact⟨av1 f j om om (by rw[o,g]),dk9 f j (by rw[g,a]) (by rw[b,a]) m i l (by rw[k];exact hb) hw⟩
def lit{α:Type}[A6 α](s:G7 P t T sz by_=true){xs:List Value}{ys:List α}{parts:Array (Nat×Value)}{n:Nat}(q:parts.toList=(xs.zipIdx 0).map λp=>(p.2,p.1))
  (c:Q9 h (xs.flatMap (·.cells.toList)) ys) (u:∀x∈xs,x.cells.size=sz) (hn:n=xs.length) (a:ys.length=xs.length) (e:xs≠[]) (d:xs.length<=16) (hw:E2 h (i5 w)) :
  ∃v f,(Instr.buildSlice t n parts).run P w = .ok v f/\B0 h f T v ys/\o6 w f/\(∀b,A5 v b->w.heap.size<=b):=by
 obtain⟨j,⟨z,g,y⟩,k,A,B,C⟩:=X0 s;obtain⟨i,m,o⟩:=A4 g;have r:=aC4 (w:=w) j (by rw[m];rfl) g xs (by rw[k];exact u) e om (ej7 (Nat.mul_le_mul d (show N6 P T<=1000000 by omega)) om) q hn;refine⟨_,_,r,.inr ⟨w.heap.size,n,_,by rw[hn,a],aM1 hw (ek6 _),em9 w _,om,by rw[hn];simp only[maxLen];omega,?_,?_⟩,o6.alloc _ _,λb l=>by simp[A5,Value.ownBlock]at l;omega⟩
 .have:=O2 c;simp only[et4,this,a,hn]
 .rw[<-O2 c];simp only[ek4];exact c
def cI5{α:Type}[A6 α]{c:List Value}{y:α}(a:A6.enc h c y):∀n:Nat,Q9 h (List.replicate n c).flatten (List.replicate n y)
 | 0=>rfl
 | n+1=>⟨c,(List.replicate n c).flatten,by simp[List.replicate_succ],a,cI5 a n⟩
def ck6(z:Array Value)(c:0<z.size):∀n:Nat,((Array.range (n*z.size)).map λi=>z[i % z.size]!).toList=(List.replicate n z.toList).flatten
 | 0=>dP
 | n+1=>by
  have b:=ck6 z c n;simp only[Array.toList_map,Array.toList_range]at b ⊢;rw[ev0,Nat.one_mul,List.range_add,em6,b,List.replicate_succ',List.flatten_append]
  congr 1
  simp only[List.map_map,List.flatten_cons,List.flatten_nil,em5];apply eq2
  .simp
  .intro i a d;simp only[ek2,en9]at a;have:(n*z.size+i) % z.size=i:=by rw[Nat.add_comm,Nat.add_mul_mod_self_right];exact Nat.mod_eq_of_lt a
   simp[this,a]
def mk{α:Type}[A6 α](E:G7 P t T sz by_=true){z:Value}(x:I4 P T=some z){y:α}(u:A6.enc h z.cells.toList y){n:Nat}(hb:by_*n<=281474976710656)(hn:n<=1000000000000)(hw:E2 h (i5 w)):
  ∃v k,(Instr.makeSlice t (.int .i64 n) (.int .i64 n)).run P w = .ok v k/\B0 h k T v (List.replicate n y)/\o6 w k/\(∀b,A5 v b->w.heap.size<=b)/\k.heap.size=w.heap.size+1:=by
 obtain⟨A,⟨G,r,d⟩,s,B,H,I⟩:=X0 E;obtain rfl:z=G:=el4 (x.symm.trans r);obtain⟨i,e,o⟩:=A4 x;have m:i.bytes=by_:=by rw[<-B,aH5 e]
 have F:i.size=sz:=by rw[<-s,F0 e]
 have D:=A6.len u;have a:A6.sz α=sz:=by rw[<-D];simpa using d
 have q:IntKind.i64.wrap (n:Int)=n:=ed9 n om;have p:¬((by_:Int)*(n:Int)>281474976710656):=by
  have:=Int.ofNat_le.2 hb;rw[Int.natCast_mul]at this;omega
 have j:(2:Int) ^ 48=281474976710656:=by decide +kernel
 have c:∀b w,(askRoom b).run P w = .ok () w:=by
  intro b w;unfold askRoom;split
  .rfl
  .rfl
 refine⟨.slice (some ⟨w.heap.size,0,none⟩) n n,w.alloc (.cells ((Array.range (n*sz)).map λi=>z.cells[i % z.cells.size]!) T),?_,?_,o6.alloc _ _,λb l=>by simp[A5,Value.ownBlock]at l;omega,dP⟩
 .unfold Instr.makeSlice;simp only[el7,I6,P4 A,ek8,asInt,asIntOf,en1,O0,e,m,q,j];have C:((decide ((n:Int)<0)||decide ((by_:Int)*(n:Int)>281474976710656))||decide ((n:Int)<0)||decide ((n:Int)>(n:Int)))=false:=by
   rw[er7 (show ¬((n:Int)<0) by omega),er7 p,er7 (show ¬((n:Int)>(n:Int)) by omega)];rfl
  simp only[C,ep8,er8,el7,c,ek8,el5,T8 (show(P.info? T).isSome=true by rw[e];rfl),s];by_cases h0:n*sz=0
  .have e0:∀(g:Nat->Value),(Array.range 0).map g=#[]:=λg=>dP
   simp only[h0,ep4,e0];simp only[el7,en1,ek8];rfl
  .simp only[h0,er8,el7,zeroValue,O0,e,ek8,o,en1];rfl
 .right;refine⟨w.heap.size,n,_,dP,aM1 hw (ek6 _),em9 w _,dP,by simp only[maxLen];omega,by simp[a],?_⟩;have:=ck6 z.cells om n;rw[d]at this ⊢;rw[this,eo7,a];have f:(List.replicate n z.cells.toList).flatten.length=n*sz:=by simp[d]
  rw[<-f,ek4];exact cI5 u n
end
structure Ptr (α:Type) where
 to:α
instance {α:Type} [A6 α]:A6 (Ptr α) where
 sz:=1
 pos:=om
 enc h cs x:=∃a es,cs=[.pointer (some a)]/\A6.enc h es x.to/\∀j v,es[j]?=some v->N2 h (a.add j)=some v
 len:=by rintro h cs x ⟨a,es,rfl,_⟩;rfl
 mono:=by
  rintro h k cs x hk ⟨a,es,e,h1,h2⟩;exact⟨a,es,e,A6.mono hk h1,λj v hv=>J5 hk (h2 j v hv)⟩
 one:=by
  rintro h cs x ⟨a,es,rfl,_⟩ v hv;simp at hv;subst hv;rfl
structure Raw where
 v:Value
instance:A6 Raw where
 sz:=1
 pos:=om
 enc _ cs x:=cs=[x.v]/\x.v.oneCell'=true
 len h:=by simp[h.1]
 mono _ h:=h
 one h:=by
  intro v hv;rw[h.1]at hv;simp at hv;subst hv;exact h.2
structure F1 {α:Type} [A6 α] (h:Hp) (w:World) (T T':TypeId) (v:Value) (us:List Raw) (xss:List (List α)):Prop where
 outer:B0 h w T v us
 len:us.length=xss.length
 row:∀(i:Nat) (u:Raw) (xs:List α),us[i]?=some u->xss[i]?=some xs->B0 h w T' u.v xs
 apart:∀(i j:Nat) (u u':Raw),i≠j->us[i]?=some u->us[j]?=some u'->∀b,A5 u.v b->¬A5 u'.v b
 off:∀(i:Nat) (u:Raw),us[i]?=some u->∀b,A5 u.v b->¬A5 v b
def N9(v:Value)(us:List Raw)(b:Nat):Prop:=A5 v b\/∃u∈us,A5 u.v b
section
variable {α:Type} [A6 α] {h:Hp} {w:World} {T T':TypeId} {v:Value} {us:List Raw} {xss:List (List α)}
def F1.free(c:F1 h w T T' v us xss){b:Nat}(hb:N9 v us b):h b=none:=by
 rcases hb with hb|⟨u,e,hb⟩
 .exact c.outer.free hb
 .obtain⟨i,d⟩:=es8.1 e;have a:i<xss.length:=by rw[<-c.len];exact(ej5.1 d).1
  exact(c.row i u _ d (ej0 a)).free hb
def F1.lt(c:F1 h w T T' v us xss){b:Nat}(hb:N9 v us b):b<w.heap.size:=by
 rcases hb with hb|⟨u,e,hb⟩
 .exact c.outer.lt hb
 .obtain⟨i,d⟩:=es8.1 e;have a:i<xss.length:=by rw[<-c.len];exact(ej5.1 d).1
  exact(c.row i u _ d (ej0 a)).lt hb
def F1.mod{M:Nat->Prop}{f:World}(a:F1 h w T T' v us xss)(hm:p6 M w f)(d:∀b,N9 v us b->¬M b):F1 h f T T' v us xss:=
 ⟨a.outer.mod hm λb c=>d b (.inl c),a.len,λi u j e g=>(a.row i u j e g).mod hm λb c=>d b (.inr ⟨u,el0 e,c⟩),a.apart,a.off⟩
def F1.ext{a:World}(b:F1 h w T T' v us xss)(hm:o6 w a):F1 h a T T' v us xss:=b.mod hm λ_ _=>id
def F1.set{F q:World}(n:F1 h w T T' v us xss){i:Nat}{u:Raw}(A:us[i]?=some u){u':Value}{xs:List α}
  (hm:p6 (A5 u.v) w F) (H:B0 h F T' u' xs) (hv:E7 w u.v u')
  (z:p6 (A5 v) F q) (E:B0 h q T v (us.set i ⟨u'⟩)):F1 h q T T' v (us.set i ⟨u'⟩) (xss.set i xs):=by
 have r:i<us.length:=(ej5.1 A).1;have p:∀b,A5 u' b->¬A5 v b:=λb f c=>by
  rcases hv b f with o|o
  .exact n.off i u A b o c
  .have:=n.outer.lt c;omega
 have l:∀(j:Nat) (x:Raw),(us.set i ⟨u'⟩)[j]?=some x->(j=i/\x=⟨u'⟩)\/(j≠i/\us[j]?=some x):=by
  intro j x g;rw[List.getElem?_set]at g;by_cases a:i=j
  .subst a;simp only[ep4,if_pos r]at g;exact .inl ⟨rfl,(el4 g).symm⟩
  .rw[if_neg a]at g;exact .inr ⟨λe=>a e.symm,g⟩
 have m:∀(j:Nat) (x:Raw),j≠i->us[j]?=some x->∀b,A5 x.v b->¬A5 u' b:=by
  intro j x a g b f c;rcases hv b c with o|o
  .exact n.apart j i x u a g A b f o
  .have D:j<xss.length:=by rw[<-n.len];exact(ej5.1 g).1
   have:=(n.row j x _ g (ej0 D)).lt f;omega
 refine⟨E,by simp[n.len],?_,?_,?_⟩
 .intro j x I g B;rcases l j x g with⟨rfl,rfl⟩|⟨a,d⟩
  .rw[List.getElem?_set,if_pos rfl,if_pos (by rw[<-n.len];exact r)]at B;obtain rfl:=el4 B;exact H.mod z p
  .rw[List.getElem?_set,if_neg (λe=>a e.symm)]at B;refine((n.row j x I d B).mod hm λb f c=>n.apart j i x u a d A b f c).mod z λb f=>n.off j x d b f
 .intro j k x y s g G b f c;rcases l j x g with⟨rfl,rfl⟩|⟨a,d⟩<;>rcases l k y G with⟨rfl,rfl⟩|⟨C,t⟩
  .exact s rfl
  .exact m k y C t b c f
  .exact m j x a d b f c
  .exact n.apart j k x y s d t b f c
 .intro j x g b f;rcases l j x g with⟨rfl,rfl⟩|⟨a,d⟩
  .exact p b f
  .exact n.off j x d b f
def F1.ro(g:F1 h w T T' v us xss)(hw:E2 h (i5 w)):R (i5 w) v xss:=by
 obtain⟨a,n,c,e,r,s,b,t,x⟩:=(g.outer.rw_ hw);refine⟨a,n,c,e,by rw[r,g.len],s,b,?_,x⟩;have o:∀(us:List Raw) (xss:List (List α)) (b:List Value),us.length=xss.length->Q9 (i5 w) b us ->
   (∀(i:Nat) (u:Raw) (d:List α),us[i]?=some u->xss[i]?=some d->R (i5 w) u.v d)->Q9 (i5 w) b xss:=by
  intro us
  induction us with
  | nil=>
   intro xss b f m _;have:xss=[]:=List.eq_nil_of_length_eq_zero f.symm;subst this;exact m
  | cons u us B=>
   intro xss b f m j;cases xss with
   | nil=>simp at f
   | cons d xss=>
    obtain⟨D,q,rfl,⟨k,_⟩,l⟩:=m;subst k;exact⟨[u.v],q,rfl,j 0 u d rfl rfl,B xss q (by simpa using f) l λi C p y z=>j (i+1) C p (by simpa using y) (by simpa using z)⟩
 exact o us xss b g.len t λi u d A j=>(g.row i u d A j).rw_ hw
end
section
variable {P:Program} {w:World} {h:Hp} {t T:TypeId} {v:Value}
def ce0(w:World)(z cs:Array Value)(T:TypeId):(w.alloc (.cells z T)).setRow w.heap.size cs=w.alloc (.cells cs T):=by
 unfold World.setRow World.alloc
 congr 1
 apply Array.ext
 .simp
 .intro i b a;simp only[Array.getElem_modify];by_cases hi:w.heap.size=i
  .subst hi;simp
  .rw[if_neg hi];have:i<w.heap.size:=by simp at a;omega
   simp[Array.getElem_push,this]
def aI8{z:Value}(g:I4 P T=some z)(f:z.cells.size=N6 P T){cs:Array Value}(b:cs.size=N6 P T)(e:∀u∈cs.toList,u.oneCell'=true):
  (Instr.alloc T true (.tuple #[])).run P w = .ok (.pointer (some ⟨w.heap.size,0,none⟩)) (w.alloc (.cells z.cells T)) /\
  (Instr.storeAt T (.pointer (some ⟨w.heap.size,0,none⟩)) (.agg cs)).run P (w.alloc (.cells z.cells T)) = .ok () (w.alloc (.cells cs T)):=by
 obtain⟨i,c,d⟩:=A4 g;constructor
 .unfold Instr.alloc zeroValue;simp only[el7,O0,c,d,en1,ek8];rfl
 .have a:=run_storeCells_from (P:=P) w.heap.size T cs.toList 0 z.cells (w.alloc (.cells z.cells T)) (em9 w _) (by simp[b,f]) e;simp only[et3,er6,Array.toArray_toList]at a;unfold Instr.storeAt storeVar;simp only[Instr.sureAddr,el7,en1,ek8,sizeOf,O0,c,Value.cells];rw[F0 c]at b;simp only[b,ne_eq,not_true_eq_false,er8];rw[<-ce0 w z.cells cs T];exact a
def dd5{cs:Array Value}{i:Nat}{u:Value}(a:cs[i]?=some u):(w.alloc (.cells cs T)).cell? ⟨w.heap.size,i,none⟩=some u:=by
 rw[ev4];exact a
def di2{cs:Array Value}{i:Nat}{u:Value}(b:cs[i]?=some u)(a:J4 P t=false):(Instr.loadAt t (.pointer (some ⟨w.heap.size,i,none⟩))).run P (w.alloc (.cells cs T)) = .ok u (w.alloc (.cells cs T)):=
 W9 a (dd5 b)
def cc0{xs:List (Int×Int)}(o:R h v xs)(hw:E2 h (i5 w)){k:Nat}{x:Int×Int}(n:xs[k]?=some x)(q:J4 P t=true)(r:(P.underlying t).isSome=true)(l:(P.info? t).isSome=true)(p:N6 P t=2):
  (Instr.loadAt t (.pointer (some (G8 v (k*2))))).run P w = .ok (.agg #[.int .i64 x.1,.int .i64 x.2]) w:=by
 obtain⟨_,s,i,g⟩:=o.get n;obtain⟨c,d,rfl,e,f⟩:=i;have a:c=[.int .i64 x.1]:=e;have b:d=[.int .i64 x.2]:=f;subst a b;exact bH3 (cs:=[.int .i64 x.1,.int .i64 x.2]) q r l p λj u m=>J5 hw (g j u m)
def add_lit(b o k:Nat):(⟨b,o,none⟩:Addr).add k=⟨b,o+k,none⟩:=by unfold Addr.add;split<;>simp_all
def R.row{α:Type}[A6 α]{a:List (List α)}(i:R h v a){k:Nat}{x:List α}(f:a[k]?=some x):∃u,R h u x/\N2 h (G8 v k)=some u:=by
 obtain⟨_,b,c,e⟩:=i.get f;have g:b.length=1:=A6.len c
 match b,g with
 | [u],_=>
  have:=e 0 u rfl;rw[M8]at this;have d:(k*A6.sz (List α))=k:=es6 k;rw[d]at this;exact⟨u,c,this⟩
def J7{a:Addr}{u:Value}(b:N2 h a=some u)(hw:E2 h (i5 w))(c:J4 P t=false):(Instr.loadAt t (.pointer (some a))).run P w = .ok u w:=
 W9 c (J5 hw b)
def B0.ext2{α:Type}[A6 α]{w0 d:World}{xs:List α}(f:B0 (i5 w0) w T v xs)(g:o6 w0 w)(hm:p6 (A5 v) w d):o6 w0 d:=
 p6.ext_of g hm λb e=>by
  rcases en2 b w0.heap.size with c|a
  .have:=f.free e;simp[i5,c]at this
  .exact a
def bp4{α:Type}[O8 α]{k:Hp}:∀{b:List α} {a:List Value},Q9 k a b->Q9 h a b
 | [],_,e=>e
 | _::_,_,⟨c1,c2,e,h1,h2⟩=>⟨c1,c2,e,h1,bp4 h2⟩
def B0.down{α:Type}[O8 α]{k:Hp}{xs:List α}(p:B0 k w T v xs)(m:E2 h k):B0 h w T v xs:=by
 rcases p with n|⟨b,c,a,rfl,d,f,g,i,j,l⟩
 .exact .inl n
 .refine .inr ⟨b,c,a,rfl,?_,f,g,i,j,bp4 l⟩;cases e:h b with
  | none=>rfl
  | some o=>rw[m b o e]at d;cases d
def B0.back{α:Type}[O8 α]{w0 a:World}{xs:List α}(b:B0 (i5 a) w T v xs)(c:o6 w0 a):B0 (i5 w0) w T v xs:=b.down (b7 c)
end
open Classical in
noncomputable def at1 (w:World) (v:Value):Hp:=λb=>if A5 v b then none else w.heap[b]?
def aI2{w:World}{v:Value}{b:Nat}(h:A5 v b):at1 w v b=none:=by unfold at1;rw[if_pos h]
def ag2{w:World}{v:Value}{b:Nat}(h:¬A5 v b):at1 w v b=w.heap[b]?:=by unfold at1;rw[if_neg h]
def bh9(w:World)(v:Value):E2 (at1 w v) (i5 w):=λb o e=>by
 by_cases h:A5 v b
 .rw[aI2 h]at e;cases e
 .rw[ag2 h]at e;exact e
section
variable {α:Type} [A6 α] {h:Hp} {w:World} {T:TypeId} {v:Value} {xs:List α}
def B0.rebase(c:B0 h w T v xs)(hw:E2 h (i5 w)):B0 (at1 w v) w T v xs:=by
 refine c.up (λb o e=>?_) λb a=>aI2 a;have d:¬A5 v b:=λa=>by rw[c.free a]at e;cases e
 rw[ag2 d];exact hw b o e
def B0.beside{β:Type}[A6 β]{k:Hp}{T':TypeId}{u:Value}{ys:List β}(e:B0 k w T' u ys)(d:E2 k (at1 w v))(c:∀b,A5 u b->¬A5 v b):R (at1 w v) u ys:=
 e.ro d λb a=>ag2 (c b a)
end
def F1.write{α:Type}[A6 α]{h:Hp}{w l:World}{T T':TypeId}{v:Value}{us:List Raw}{c:List (List α)}(k:F1 h w T T' v us c){i:Nat}{u:Raw}(g:us[i]?=some u){xs:List α}
  (hm:p6 (A5 u.v) w l) (n:B0 h l T' u.v xs):F1 h l T T' v us (c.set i xs):=by
 have a:us.set i ⟨u.v⟩=us:=by
  obtain⟨q,e⟩:=ej5.1 g;apply eq2 dP;intro j o p;rw[List.getElem_set];split
  .rename_i m;subst m;exact e.symm
  .rfl
 have:=k.set (u':=u.v) (xs:=xs) g hm n (λb d=>.inl d) (p6.refl _) (by
  rw[a];exact k.outer.mod hm λb d f=>k.off i u g b f d)
 rw[a]at this;exact this
open Classical in
noncomputable def D0 (w:World) (N:Nat->Prop):Hp:=λb=>if N b then none else w.heap[b]?
def G1{w:World}{N:Nat->Prop}{b:Nat}(h:N b):D0 w N b=none:=by unfold D0;rw[if_pos h]
def E4{w:World}{N:Nat->Prop}{b:Nat}(h:¬N b):D0 w N b=w.heap[b]?:=by unfold D0;rw[if_neg h]
def B4(w:World)(N:Nat->Prop):E2 (D0 w N) (i5 w):=λb o e=>by
 by_cases h:N b
 .rw[G1 h]at e;cases e
 .rw[E4 h]at e;exact e
def K8{w c:World}{N N' M:Nat->Prop}(hm:p6 M w c)(f:∀b,M b->N b)(hN:∀b,N' b->N b\/w.heap.size<=b):E2 (D0 w N) (D0 c N'):=λb o e=>by
 by_cases h:N b
 .rw[G1 h]at e;cases e
 .rw[E4 h]at e;have g:b<w.heap.size:=(ej4.1 e).1;have d:¬N' b:=λa=>by
   rcases hN b a with k|k
   .exact h k
   .omega
  rw[E4 d,hm.block b g λi=>h (f b i)];exact e
def aW4{w0 w:World}{N:Nat->Prop}(c:o6 w0 w)(hN:∀b,N b->w0.heap.size<=b):E2 (i5 w0) (D0 w N):=λb o e=>by
 have d:b<w0.heap.size:=(ej4.1 (show w0.heap[b]?=some o from e)).1;have a:¬N b:=λh=>by have:=hN b h;omega
 rw[E4 a];exact b7 c b o e
section
variable {α:Type} [A6 α] {h:Hp} {w:World} {T:TypeId} {v:Value} {xs:List α} {N:Nat->Prop}
def B0.noMod{a:World}{N' M:Nat->Prop}(f:B0 (D0 w N) w T v xs)(hm:p6 M w a)(c:∀b,M b->N b)(e:∀b,A5 v b->¬M b)(hN:∀b,N' b->N b\/w.heap.size<=b)(hv:∀b,A5 v b->N' b):B0 (D0 a N') a T v xs:=
 (f.mod hm e).up (K8 hm c hN) λb d=>G1 (hv b d)
def B0.roNo{k:Hp}(e:B0 k w T v xs)(d:E2 k (D0 w N))(c:∀b,A5 v b->¬N b):R (D0 w N) v xs:=e.ro d λb a=>E4 (c b a)
def B0.reNo(d:B0 h w T v xs)(c:E2 h (D0 w N))(hv:∀b,A5 v b->N b):B0 (D0 w N) w T v xs:=d.up c λb a=>G1 (hv b a)
end
def eu4:=@Bool.eq_iff_iff
def er4:=@Iff.rfl
def eu7:=@List.cons.injEq
def eu8:=@List.cons_append
def ek9:=@List.mem_cons
def en5:=@List.not_mem_nil
def es4:=@or_false
structure B3 where
 b:List UInt8
 deriving DecidableEq
instance:Inhabited B3:=⟨⟨[]⟩⟩
def ofA(b:Array UInt8):B3:=⟨b.toList⟩
abbrev e0:B3:=ofA #[]
def t8(s:B3):Value:=.string ⟨s.b.toArray⟩
instance:O8 B3:=⟨t8,λ_=>rfl⟩
def az1(l:List UInt8):(⟨l.toArray⟩:ByteArray).toList=l:=by
 rw[ByteArray.toList_eq]
def ltS(a b:B3):Bool:=Op.bytesLess a.b b.b
def bB6(a b:B3):(a.b==b.b)=decide (a=b):=by
 refine eu4.2 ?_;rw[beq_iff_eq,decide_eq_true_iff];cases a;cases b;simp
section
variable {P:Program} {t:TypeId}
def cG6{a b:B3}:D1 P .eql t (t8 a) (t8 b)=some (.bool (decide (a=b))):=by
 simp only[t8,D1,az1,bB6]
def du5{a b:B3}:D1 P .neq t (t8 a) (t8 b)=some (.bool (!decide (a=b))):=by
 simp only[t8,D1,az1,bB6]
def ea2{a b:B3}:D1 P .lss t (t8 a) (t8 b)=some (.bool (ltS a b)):=by
 simp only[t8,D1,az1,ltS]
def du4{a b:B3}:D1 P .gtr t (t8 a) (t8 b)=some (.bool !(ltS a b||decide (a=b))):=by
 simp only[t8,D1,az1,ltS,bB6]
def dS0{s:B3}(h:ce2 P t=true)(a:N5 P t=none):ab0 P t (t8 s)=some (.int .i64 (s.b.length:Nat)):=by
 simp only[ab0,a,Option.isSome_none,ep8,er8,t8,h,ep4];rfl
end
def bK1(h:Hp)(v:Value)(n:Nat)(E:List Value->Prop):Prop:=∃a m c d,v = .slice a m c/\m=n/\m<=c/\E d/\∀j u,d[j]?=some u->∃b,a=some b/\N2 h (b.add j)=some u
def bd8{h k:Hp}(s:E2 h k){v:Value}{n:Nat}{E F:List Value->Prop}(q:∀b,E b->F b):bK1 h v n E->bK1 k v n F:=by
 rintro⟨a,m,c,b,e,f,g,i,l⟩;refine⟨a,m,c,b,e,f,g,q _ i,λj u r=>?_⟩;obtain⟨d,o,p⟩:=l j u r;exact⟨d,o,J5 s p⟩
def br9{h:Hp}{v:Value}{n:Nat}{E:List Value->Prop}:bK1 h v n E->v.oneCell'=true:=by
 rintro⟨a,m,c,b,rfl,_⟩;rfl
def cG0{α:Type}[A6 α]{h:Hp}{v:Value}{xs:List α}:R h v xs↔bK1 h v xs.length (λb=>Q9 h b xs):=by
 constructor
 .rintro⟨a,n,c,e,d,f,b,g,i⟩;simp only[eu7,and_true]at e;exact⟨a,n,c,b,e,d,f,g,i⟩
 .rintro⟨a,n,c,b,rfl,d,f,g,i⟩;exact⟨a,n,c,rfl,d,f,b,g,i⟩
structure bC1 (α:Type) where
 n:Nat
 pos:0<n
 cells:α->List Value
 len:∀x,(cells x).length=n
 one:∀x,∀v∈cells x,v.oneCell'=true
abbrev bC1.rep{α:Type}(F:bC1 α):A6 α where
 sz:=F.n
 pos:=F.pos
 enc _ cs x:=cs=F.cells x
 len h:=by rw[h];exact F.len _
 mono _ h:=h
 one h:=by intro v a;rw[h]at a;exact F.one _ v a
structure Pa where
 name:B3
 ref:Bool
 deriving DecidableEq
def Pa.cells(p:Pa):List Value:=[t8 p.name,.bool p.ref]
instance:A6 Pa:=bC1.rep ⟨2,om,Pa.cells,λ_=>rfl,λx v hv=>by simp[Pa.cells]at hv;rcases hv with rfl|rfl<;>rfl⟩
structure Sp where
 src:Int
 dst:Int
 kind:Int
 deriving DecidableEq
def Sp.cells(p:Sp):List Value:=[.int .i64 p.src,.int .i64 p.dst,.int .i64 p.kind]
instance:A6 Sp:=bC1.rep ⟨3,om,Sp.cells,λ_=>rfl,λx v hv=>by simp[Sp.cells]at hv;rcases hv with rfl|rfl|rfl<;>rfl⟩
structure Fw where
 src:Int
 dst:Int
 var:B3
 deriving DecidableEq
def Fw.cells(p:Fw):List Value:=[.int .i64 p.src,.int .i64 p.dst,t8 p.var]
instance:A6 Fw:=bC1.rep ⟨3,om,Fw.cells,λ_=>rfl,λx v hv=>by simp[Fw.cells]at hv;rcases hv with rfl|rfl|rfl<;>rfl⟩
structure Vx where
 proc:B3
 kind:Int
 id:Int
 slot:B3
 deriving DecidableEq
def Vx.cells(p:Vx):List Value:=[t8 p.proc,.int .i64 p.kind,.int .i64 p.id,t8 p.slot]
instance:A6 Vx:=bC1.rep ⟨4,om,Vx.cells,λ_=>rfl,λx v hv=>by simp[Vx.cells]at hv;rcases hv with rfl|rfl|rfl|rfl<;>rfl⟩
structure Eg where
 src:Vx
 dst:Vx
 kind:Int
 deriving DecidableEq
def Eg.cells(p:Eg):List Value:=p.src.cells++p.dst.cells++[.int .i64 p.kind]
instance:A6 Eg:=bC1.rep ⟨9,om,Eg.cells,λ_=>rfl,λx v hv=>by simp[Eg.cells,Vx.cells]at hv;rcases hv with rfl|rfl|rfl|rfl|rfl|rfl|rfl|rfl|rfl<;>rfl⟩
inductive Ex where
 | mk (op n:Int) (name:B3) (kids:List Ex)
namespace Ex
def op:Ex->Int | .mk a _ _ _=>a
def n:Ex->Int | .mk _ a _ _=>a
def name:Ex->B3 | .mk _ _ a _=>a
def kids:Ex->List Ex | .mk _ _ _ a=>a
end Ex
mutual
def bg6(h:Hp):Ex->List Value->Prop
 | .mk op n name kids,cs=>∃a,cs=[.int .i64 op,.int .i64 n,t8 name,a]/\bK1 h a kids.length (aG0 h kids)
def aG0(h:Hp):List Ex->List Value->Prop
 | [],cs=>cs=[]
 | x::xs,cs=>∃a b,cs=a++b/\bg6 h x a/\aG0 h xs b
end
mutual
def bE6{h k:Hp}(b:E2 h k):∀(x:Ex) (a:List Value),bg6 h x a->bg6 k x a
 | .mk op n name kids,a,e=>by
  simp only[bg6]at *;obtain⟨g,c,d⟩:=e;exact⟨g,c,bd8 b (λf=>bv3 b kids f) d⟩
def bv3{h k:Hp}(d:E2 h k):∀(x:List Ex) (a:List Value),aG0 h x a->aG0 k x a
 | [],a,e=>by simpa only[aG0]using e
 | x::xs,a,e=>by
  simp only[aG0]at *;obtain⟨b,c,f,g,i⟩:=e;exact⟨b,c,f,bE6 d x b g,bv3 d xs c i⟩
end
instance:A6 Ex where
 sz:=4
 pos:=om
 enc h cs x:=bg6 h x cs
 len:=by
  rintro h cs ⟨op,n,name,kids⟩ e;simp only[bg6]at e;obtain⟨vk,rfl,_⟩:=e;rfl
 mono hk:=bE6 hk _ _
 one:=by
  rintro h cs ⟨op,n,name,kids⟩ e v hv;simp only[bg6]at e;obtain⟨vk,rfl,h2⟩:=e;simp only[ek9,en5,es4]at hv;rcases hv with rfl|rfl|rfl|rfl
  .rfl
  .rfl
  .rfl
  .exact br9 h2
def bE7{h:Hp}:∀(b:List Ex) (a:List Value),aG0 h b a↔Q9 h a b
 | [],a=>by simp only[aG0,Q9]
 | x::b,a=>by
  simp only[aG0,Q9,bE7 b];exact er4
def ca1{h:Hp}{cs:List Value}{x:Ex}:A6.enc h cs x↔∃b,cs=[.int .i64 x.op,.int .i64 x.n,t8 x.name,b]/\R h b x.kids:=by
 obtain⟨op,n,name,kids⟩:=x;show bg6 h _ cs↔_;simp only[bg6,cG0,Ex.op,Ex.n,Ex.name,Ex.kids];have:aG0 h kids=λa=>Q9 h a kids:=by funext a;exact propext (bE7 kids a)
 rw[this]
structure Ar where
 ref:Bool
 name:B3
 x:Ex
instance:A6 Ar where
 sz:=6
 pos:=om
 enc h cs a:=∃c,cs = .bool a.ref::t8 a.name::c/\A6.enc h c a.x
 len:=by rintro h cs a ⟨c,rfl,h2⟩;have:=A6.len h2;simp[this];rfl
 mono:=by rintro h k cs a hk ⟨c,rfl,h2⟩;exact⟨c,rfl,A6.mono hk h2⟩
 one:=by
  rintro h cs a ⟨c,rfl,h2⟩ v hv;simp only[ek9]at hv;rcases hv with rfl|rfl|hv
  .rfl
  .rfl
  .exact A6.one h2 v hv
inductive St where
 | mk (id kind:Int) (labels:List B3) (name proc:B3) (x:Ex) (has:Bool) (args:List Ar) (thn els:List St)
namespace St
def id:St->Int | .mk a _ _ _ _ _ _ _ _ _=>a
def kind:St->Int | .mk _ a _ _ _ _ _ _ _ _=>a
def labels:St->List B3 | .mk _ _ a _ _ _ _ _ _ _=>a
def name:St->B3 | .mk _ _ _ a _ _ _ _ _ _=>a
def proc:St->B3 | .mk _ _ _ _ a _ _ _ _ _=>a
def x:St->Ex | .mk _ _ _ _ _ a _ _ _ _=>a
def has:St->Bool | .mk _ _ _ _ _ _ a _ _ _=>a
def args:St->List Ar | .mk _ _ _ _ _ _ _ a _ _=>a
def thn:St->List St | .mk _ _ _ _ _ _ _ _ a _=>a
def els:St->List St | .mk _ _ _ _ _ _ _ _ _ a=>a
end St
mutual
def bg7(h:Hp):St->List Value->Prop
 | .mk id kind labels name proc x has args thn els,cs=>∃d a b e c,cs = .int .i64 id :: .int .i64 kind::d::t8 name::t8 proc::a++[.bool has,b,e,c] /\
   R h d labels/\A6.enc h a x/\R h b args/\bK1 h e thn.length (au8 h thn)/\bK1 h c els.length (au8 h els)
def au8(h:Hp):List St->List Value->Prop
 | [],cs=>cs=[]
 | x::xs,cs=>∃a b,cs=a++b/\bg7 h x a/\au8 h xs b
end
mutual
def bE8{h k:Hp}(a:E2 h k):∀(x:St) (b:List Value),bg7 h x b->bg7 k x b
 | .mk id kind labels name proc x has args thn els,b,e=>by
  simp only[bg7]at *;obtain⟨p,d,n,q,o,f,g,i,j,l,m⟩:=e;exact⟨p,d,n,q,o,f,A6.mono a g,A6.mono a i,A6.mono a j,bd8 a (λc=>aS5 a thn c) l,bd8 a (λc=>aS5 a els c) m⟩
def aS5{h k:Hp}(d:E2 h k):∀(x:List St) (a:List Value),au8 h x a->au8 k x a
 | [],a,e=>by simpa only[au8]using e
 | x::xs,a,e=>by
  simp only[au8]at *;obtain⟨b,c,f,g,i⟩:=e;exact⟨b,c,f,bE8 d x b g,aS5 d xs c i⟩
end
def ah2{α:Type}[A6 α]{h:Hp}{v:Value}{xs:α}(a:R h v xs):v.oneCell'=true:=A6.one a v dP
instance:A6 St where
 sz:=13
 pos:=om
 enc h cs x:=bg7 h x cs
 len:=by
  rintro h cs ⟨id,kind,labels,name,proc,x,has,args,thn,els⟩ e;simp only[bg7]at e;obtain⟨vl,cx,va,vt,ve,rfl,h2,h3,_⟩:=e;have h4:cx.length=4:=A6.len h3;simp[h4]
 mono hk:=bE8 hk _ _
 one:=by
  rintro h cs ⟨id,kind,labels,name,proc,x,has,args,thn,els⟩ e v hv;simp only[bg7]at e;obtain⟨vl,cx,va,vt,ve,rfl,h2,h3,h4,h5,h6⟩:=e;simp only[eu8,ek9,ej9,en5,es4]at hv;rcases hv with rfl|rfl|rfl|rfl|rfl|hv|rfl|rfl|rfl|rfl
  .rfl
  .rfl
  .exact ah2 h2
  .rfl
  .rfl
  .exact A6.one h3 v hv
  .rfl
  .exact ah2 h4
  .exact br9 h5
  .exact br9 h6
def bc6{h:Hp}:∀(b:List St) (a:List Value),au8 h b a↔Q9 h a b
 | [],a=>by simp only[au8,Q9]
 | x::b,a=>by
  simp only[au8,Q9,bc6 b];exact er4
def ca2{h:Hp}{cs:List Value}{s:St}:A6.enc h cs s↔∃e b c f d,cs = .int .i64 s.id :: .int .i64 s.kind::e::t8 s.name::t8 s.proc::b++[.bool s.has,c,f,d] /\
   R h e s.labels/\A6.enc h b s.x/\R h c s.args/\R h f s.thn/\R h d s.els:=by
 obtain⟨id,kind,labels,name,proc,x,has,args,thn,els⟩:=s;show bg7 h _ cs↔_;have g:au8 h thn=λa=>Q9 h a thn:=by funext a;exact propext (bc6 thn a)
 have i:au8 h els=λa=>Q9 h a els:=by funext a;exact propext (bc6 els a)
 simp only[bg7,cG0,g,i,St.id,St.kind,St.labels,St.name,St.proc,St.x,St.has,St.args,St.thn,St.els]
structure Pr where
 name:B3
 params:List Pa
 vars:List B3
 body:List St
 fin:List B3
instance:A6 Pr where
 sz:=5
 pos:=om
 enc h cs p:=∃v1 v2 v3 v4,cs=[t8 p.name,v1,v2,v3,v4]/\R h v1 p.params/\R h v2 p.vars/\R h v3 p.body/\R h v4 p.fin
 len:=by rintro h cs a ⟨v1,v2,v3,v4,rfl,_⟩;rfl
 mono:=by rintro h k cs a hk ⟨v1,v2,v3,v4,rfl,h1,h2,h3,h4⟩;exact⟨v1,v2,v3,v4,rfl,A6.mono hk h1,A6.mono hk h2,A6.mono hk h3,A6.mono hk h4⟩
 one:=by
  rintro h cs a ⟨v1,v2,v3,v4,rfl,h1,h2,h3,h4⟩ v hv;simp only[ek9,en5,es4]at hv;rcases hv with rfl|rfl|rfl|rfl|rfl
  .rfl
  .exact ah2 h1
  .exact ah2 h2
  .exact ah2 h3
  .exact ah2 h4
structure Pg where
 globals:List B3
 procs:List Pr
instance:A6 Pg where
 sz:=2
 pos:=om
 enc h cs p:=∃v1 v2,cs=[v1,v2]/\R h v1 p.globals/\R h v2 p.procs
 len:=by rintro h cs a ⟨v1,v2,rfl,_⟩;rfl
 mono:=by rintro h k cs a hk ⟨v1,v2,rfl,h1,h2⟩;exact⟨v1,v2,rfl,A6.mono hk h1,A6.mono hk h2⟩
 one:=by
  rintro h cs a ⟨v1,v2,rfl,h1,h2⟩ v hv;simp only[ek9,en5,es4]at hv;rcases hv with rfl|rfl
  .exact ah2 h1
  .exact ah2 h2
structure It where
 s:St
 proc:Int
 up:Int
 next:Int
 loop:Int
instance:A6 It where
 sz:=17
 pos:=om
 enc h cs p:=∃c,cs=c++[.int .i64 p.proc,.int .i64 p.up,.int .i64 p.next,.int .i64 p.loop]/\A6.enc h c p.s
 len:=by rintro h cs a ⟨c,rfl,h1⟩;have h4:c.length=13:=A6.len h1;simp[h4]
 mono:=by rintro h k cs a hk ⟨c,rfl,h1⟩;exact⟨c,rfl,A6.mono hk h1⟩
 one:=by
  rintro h cs a ⟨c,rfl,h1⟩ v hv;simp only[ej9,ek9,en5,es4]at hv;rcases hv with hv|rfl|rfl|rfl|rfl
  .exact A6.one h1 v hv
  all_goals rfl
structure Sh where
 p:Pg
 l:List It
 lo:List Int
 hi:List Int
instance:A6 Sh where
 sz:=5
 pos:=om
 enc h cs p:=∃c v1 v2 v3,cs=c++[v1,v2,v3]/\A6.enc h c p.p/\R h v1 p.l/\R h v2 p.lo/\R h v3 p.hi
 len:=by rintro h cs a ⟨c,v1,v2,v3,rfl,h1,_⟩;have h4:c.length=2:=A6.len h1;simp[h4]
 mono:=by rintro h k cs a hk ⟨c,v1,v2,v3,rfl,h0,h1,h2,h3⟩;exact⟨c,v1,v2,v3,rfl,A6.mono hk h0,A6.mono hk h1,A6.mono hk h2,A6.mono hk h3⟩
 one:=by
  rintro h cs a ⟨c,v1,v2,v3,rfl,h0,h1,h2,h3⟩ v hv;simp only[ej9,ek9,en5,es4]at hv;rcases hv with hv|rfl|rfl|rfl
  .exact A6.one h0 v hv
  .exact ah2 h1
  .exact ah2 h2
  .exact ah2 h3
def SV{α:Type}[A6 α](h:Hp)(v:Value)(x:α):Prop:=∃a,v = .agg (List.toArray a)/\A6.enc h a x
section
variable {α:Type} [A6 α] {h k:Hp} {v:Value} {x:α} {P:Program} {t T:TypeId} {w:World}
def SV.mono(c:E2 h k):SV h v x->SV k v x:=λ⟨a,e,b⟩=>⟨a,e,A6.mono c b⟩
def SV.enc:SV h v x->A6.enc h v.cells.toList x:=by
 rintro⟨b,rfl,a⟩;simpa[Value.cells]using a
def H1{xs:List α}(l:R h v xs)(hw:E2 h (i5 w)){k:Nat}(i:xs[k]?=some x)(m:J4 P t=true)(n:(P.underlying t).isSome=true)(f:(P.info? t).isSome=true)(c:N6 P t=A6.sz α):
  ∃d,SV h d x/\(Instr.loadAt t (.pointer (some (G8 v (k*N6 P t))))).run P w = .ok d w:=by
 obtain⟨_,a,b,e⟩:=l.get i;refine⟨.agg (List.toArray a),⟨a,rfl,b⟩,?_⟩;rw[c];exact bH3 (cs:=a) m n f (by rw[c,A6.len b]) λj u g=>J5 hw (e j u g)
end
abbrev V6(P:Program)(w:World)(t:TypeId)(a:Addr)(v:Value):Prop:=(Instr.loadAt t (.pointer (some a))).run P w = .ok v w
abbrev X4(P:Program)(S:World->Prop)(t:TypeId)(a:Addr)(v:Value):Prop:=∀K f d w,F8 P S (Instr.loadAt t (.pointer (some a))) K f d w=K (C5 f d v) w
def At{α:Type}[A6 α](h:Hp)(a:Addr)(x:α):Prop:=∃b,A6.enc h b x/\∀j u,b[j]?=some u->N2 h (a.add j)=some u
section
variable {α:Type} [A6 α] {h k:Hp} {v:Value} {x:α} {P:Program} {t T:TypeId} {w:World} {a:Addr}
def At.mono(b:E2 h k):At h a x->At k a x:=λ⟨c,d,e⟩=>⟨c,A6.mono b d,λj u f=>J5 b (e j u f)⟩
def R.at_{xs:List α}(b:R h v xs){i:Nat}(a:xs[i]?=some x):At h (G8 v (i*A6.sz α)) x:=(b.get a).2
def Ptr.at_{p:Ptr α}(f:R h v p):∃a,v = .pointer (some a)/\At h a p.to:=by
 obtain⟨a,b,e,c,d⟩:=f;simp only[eu7,and_true]at e;exact⟨a,e,b,c,d⟩
def At.ptr(e:At h a x):R h (.pointer (some a)) (⟨x⟩:Ptr α):=by
 obtain⟨b,c,d⟩:=e;exact⟨a,b,rfl,c,d⟩
def At.sv(e:At h a x)(l:J4 P t=true)(m:(P.underlying t).isSome=true)(g:(P.info? t).isSome=true)(k:N6 P t=A6.sz α):
  ∃d,SV h d x/\∀w,E2 h (i5 w)->(Instr.loadAt t (.pointer (some a))).run P w = .ok d w:=by
 obtain⟨b,c,f⟩:=e;exact⟨.agg (List.toArray b),⟨b,rfl,c⟩,λw n=>bH3 (cs:=b) l m g (by rw[k,A6.len c]) λj u i=>J5 n (f j u i)⟩
def B1{b:List Value}(c:∀j u,b[j]?=some u->N2 h (a.add j)=some u){o:Nat}{u:Value}(d:b[o]?=some u)(e:J4 P t=false):
  ∀w,E2 h (i5 w)->(Instr.loadAt t (.pointer (some (a.add o)))).run P w = .ok u w:=λw f=>W9 e (J5 f (c o u d))
def bA5{β:Type}[A6 β]{y:β}{b c:List Value}(d:∀j u,b[j]?=some u->N2 h (a.add j)=some u){o:Nat}(g:A6.enc h c y)(f:∀j u,c[j]?=some u->b[o+j]?=some u):At h (a.add o) y:=
 ⟨c,g,λj u e=>by rw[Addr.add_add'];exact d _ _ (f j u e)⟩
def L9{b:List Value}(c:∀j u,b[j]?=some u->N2 h (a.add j)=some u){u:Value}(d:b[0]?=some u)(e:J4 P t=false):
  ∀w,E2 h (i5 w)->(Instr.loadAt t (.pointer (some a))).run P w = .ok u w:=λw f=>by
 have:=B1 (P:=P) (t:=t) c d e w f
 rwa [M8]at this
def bD0{β:Type}[A6 β]{y:β}{b c:List Value}(d:∀j u,b[j]?=some u->N2 h (a.add j)=some u)(f:A6.enc h c y)(e:∀j u,c[j]?=some u->b[0+j]?=some u):At h a y:=by
 have:=bA5 d f e
 rwa [M8]at this
def B7{S:World->Prop}{s:Sem Value}{u:Value}{K:Fr->World->Prop}{f:Fr}{d:Option Nat}{w0:World}(hS:S w0)(h:∀b,S b->s.run P b = .ok u b):F8 P S s K f d w=K (C5 f d u) w:=by
 refine propext ⟨?_,λa=>⟨u,h,a⟩⟩;rintro⟨v,c,a⟩;have:=(c w0 hS).symm.trans (h w0 hS);simp only[Result.ok.injEq,and_true]at this;rw[<-this];exact a
def sdE{S:World->Prop}{t:TypeId}{a:Addr}{v:Value}{w0:World}(hS:S w0)(h:∀b,S b->V6 P b t a v):X4 P S t a v:=λ_ _ _ _=>B7 hS h
def At.sv2(l:At h a x)(o:J4 P t=true)(p:(P.underlying t).isSome=true)(m:(P.info? t).isSome=true)(n:N6 P t=A6.sz α):
  ∃b,SV h b x/\(∀w,E2 h (i5 w)->(Instr.loadAt t (.pointer (some a))).run P w = .ok b w)/\(∀(S:World->Prop) (i:World),S i->(∀w,S w->E2 h (i5 w))->∀K f d w,F8 P S (Instr.loadAt t (.pointer (some a))) K f d w=K (C5 f d b) w):=by
 obtain⟨b,j,e⟩:=l.sv (P:=P) (t:=t) o p m n;exact⟨b,j,e,λS i k q K f d w=>B7 k λg c=>e g (q g c)⟩
def bN2(hv:SV h v x)(hw:E2 h (i5 w)):∃a c,(Instr.box T v).run P w = .ok (.pointer (some a)) c/\o6 w c/\At (i5 c) a x:=by
 obtain⟨b,rfl,e⟩:=hv;have d:=o6.alloc w (.cells (List.toArray b) T);refine⟨⟨w.heap.size,0,none⟩,w.alloc (.cells (List.toArray b) T),rfl,d,b,A6.mono (p7 hw (b7 d)) e,λj u f=>?_⟩;rw[<-an1,add_lit,en0,ev4];simpa using f
def bA2(hv:SV h v x)(hw:E2 h (i5 w)){z:Value}(m:I4 P T=some z)(c:z.cells.size=N6 P T)(l:N6 P T=A6.sz α):
  ∃a f d,(Instr.alloc T true (.tuple #[])).run P w = .ok (.pointer (some a)) f/\(Instr.storeAt T (.pointer (some a)) v).run P f = .ok () d/\o6 w d/\At (i5 d) a x:=by
 obtain⟨cs,rfl,b⟩:=hv;obtain⟨g,i⟩:=aI8 (P:=P) (w:=w) (T:=T) m c (cs:=List.toArray cs) (by simpa[l]using A6.len b) (by simpa using A6.one b);have e:=o6.alloc w (.cells (List.toArray cs) T);refine⟨_,_,_,g,i,e,cs,A6.mono (p7 hw (b7 e)) b,λj u k=>?_⟩;rw[<-an1,add_lit,en0,ev4];simpa using k
end
def er1:=@Classical.byContradiction
def ew3:=@List.any_eq_true
def eu3:=@List.getElem?_replicate
def es2:=@List.getElem?_set_ne
def ep2:=@List.mem_iff_getElem
def eo5:=@Option.getD_some
def el1:=@congrArg
abbrev W:=BitVec 64
instance:O8 W:=⟨λx=>.int .u64 (x.toNat:Nat),λ_=>rfl⟩
section
variable {P:Program} {t:TypeId}
def bL8(n:Nat)(h:n<18446744073709551616):IntKind.u64.wrap (n:Int)=(n:Int):=by
 have:IntKind.u64.wrap (n:Int)=IntKind.u64.wrap (n:Int):=rfl;unfold IntKind.wrap;simp[IntKind.bits,IntKind.signed];omega
def cc7(x:W):BitVec.ofInt IntKind.u64.bits ((x.toNat:Nat):Int)=x:=by
 show BitVec.ofInt 64 ((x.toNat:Nat):Int)=x;rw[BitVec.ofInt_natCast,BitVec.ofNat_toNat];simp
def bZ1(f:Nat)(b:f<1000000000000):D1 P .quo t (.int .i64 f) (.int .i64 64)=some (.int .i64 ((f / 64:Nat):Int)):=by
 have a:(f:Int).tdiv 64=((f / 64:Nat):Int):=by rfl
 simp only[D1,I1,ep4,a];rw[if_neg dQ,IntWalk.i64_in _ om]
def dc9(f:Nat):D1 P .rem t (.int .i64 f) (.int .i64 64)=some (.int .i64 ((f % 64:Nat):Int)):=by
 have a:(f:Int).tmod 64=((f % 64:Nat):Int):=by rfl
 simp only[D1,I1,ep4,a];rw[if_neg dQ]
def dd0(x:W)(k:Nat)(c:k<64):D1 P .shr t (.int .u64 ((x.toNat:Nat):Int)) (.int .i64 k)=some (.int .u64 (((x >>> k).toNat:Nat):Int)):=by
 simp only[D1];rw[if_neg om];have a:min ((k:Int).toNat) IntKind.u64.bits=k:=by
  show min ((k:Int).toNat) 64=k;omega
 rw[a,BitVec.toNat_ushiftRight,Nat.shiftRight_eq_div_pow];have b:((x.toNat:Nat):Int).fdiv (2 ^ k)=((x.toNat / 2 ^ k:Nat):Int):=by
  rw[Int.fdiv_eq_ediv_of_nonneg _ (by exact Int.le_of_lt (Int.pow_pos dQ))];simp
 rw[b]
def dc7(x:W)(k:Nat):D1 P .and t (.int .u64 (((x >>> k).toNat:Nat):Int)) (.int .u64 1)=some (.int .u64 (if x.getLsbD k then 1 else 0)):=by
 have a:BitVec.ofInt IntKind.u64.bits 1=(1#64:W):=rfl;simp only[D1,I1,ep4,cc7,a];have b:((x >>> k) &&& 1#64:W)=if x.getLsbD k then 1#64 else 0#64:=by
  apply BitVec.eq_of_getLsbD_eq;intro i c;rw[BitVec.getLsbD_and,BitVec.getLsbD_ushiftRight];by_cases h0:i=0
  .subst h0;cases hx:x.getLsbD k<;>simp[]
  .have:(1#64:W).getLsbD i=false:=by
    rw[BitVec.getLsbD_one];simp[h0]
   rw[this,Bool.and_false];split
   .exact this.symm
   .simp
 show some (Value.int .u64 (IntKind.u64.wrap ((((x >>> k) &&& 1#64:W).toNat:Nat):Int)))=_;rw[b];cases x.getLsbD k<;>rfl
def dH4(b:Bool):D1 P .eql t (.int .u64 (if b then 1 else 0)) (.int .u64 0)=some (.bool (!b)):=by
 cases b<;>rfl
def dH5(b:Bool):D1 P .eql t (.int .u64 (if b then 1 else 0)) (.int .u64 1)=some (.bool b):=by
 cases b<;>rfl
def dH7(k:Nat)(a:k<64):D1 P .shl t (.int .u64 1) (.int .i64 k)=some (.int .u64 (((1#64 <<< k:W).toNat:Nat):Int)):=by
 simp only[D1];rw[if_neg om];have b:min ((k:Int).toNat) IntKind.u64.bits=k:=by
  show min ((k:Int).toNat) 64=k;omega
 rw[b];have c:(1:Int)*2 ^ k=((2 ^ k:Nat):Int):=dP
 have d:2 ^ k<18446744073709551616:=by
  have:(2:Nat) ^ k<2 ^ 64:=Nat.pow_lt_pow_right dQ a;simpa using this
 have e:(1#64 <<< k:W).toNat=2 ^ k:=by
  rw[BitVec.toNat_shiftLeft,Nat.shiftLeft_eq];show(1*2 ^ k) % 2 ^ 64=2 ^ k;rw[Nat.one_mul];exact Nat.mod_eq_of_lt (Nat.pow_lt_pow_right dQ a)
 rw[c,bL8 _ d,e]
def dc8(x y:W):D1 P .or t (.int .u64 ((x.toNat:Nat):Int)) (.int .u64 ((y.toNat:Nat):Int))=some (.int .u64 (((x ||| y).toNat:Nat):Int)):=by
 simp only[D1,I1,ep4,cc7];rw[bL8 _ (by exact(x ||| y).isLt)];rfl
def bQ1(x y:W):D1 P .andNot t (.int .u64 ((x.toNat:Nat):Int)) (.int .u64 ((y.toNat:Nat):Int))=some (.int .u64 (((x &&& ~~~y).toNat:Nat):Int)):=by
 simp only[D1,I1,ep4,cc7];rw[bL8 _ (by exact(x &&& ~~~y).isLt)];rfl
def dH6(x:W):D1 P .neq t (.int .u64 ((x.toNat:Nat):Int)) (.int .u64 0)=some (.bool (x != 0#64)):=by
 simp only[D1,I1,ep4]
 congr 2
 rw[eu4];simp only[bne_iff_ne,ne_eq];constructor
 .intro h e;subst e;exact h rfl
 .intro h e;apply h;apply BitVec.eq_of_toNat_eq;simpa using e
end
def ef2{K:Fr->World->Prop}{f:Fr}{d:Option Nat}{w:World}{v:Value}{D:Prop}:aN2 (some v) K f d w D=K (C5 f d v) w:=propext er4
def U7(a:List W)(f:Nat):Bool:=(a.getD (f / 64) 0#64).getLsbD (f % 64)
def cW2(a:List W)(f:Nat):List W:=a.set (f / 64) (a.getD (f / 64) 0#64 ||| (1#64 <<< (f % 64)))
def dg2{a:List W}{f:Nat}(h:f / 64<a.length)(g:Nat):U7 (cW2 a f) g=(decide (g=f)||U7 a g):=by
 unfold U7 cW2;by_cases hd:g / 64=f / 64
 .have b:(a.set (f / 64) (a.getD (f / 64) 0#64 ||| (1#64 <<< (f % 64)))).getD (g / 64) 0#64=a.getD (f / 64) 0#64 ||| (1#64 <<< (f % 64)):=by
   rw[hd];simp[List.getD,h]
  rw[b,BitVec.getLsbD_or,hd];have c:(1#64 <<< (f % 64):W).getLsbD (g % 64)=decide (g=f):=by
   rw[BitVec.getLsbD_shiftLeft,BitVec.getLsbD_one];rw[eu4];simp;omega
  rw[c,Bool.or_comm]
 .have b:(a.set (f / 64) (a.getD (f / 64) 0#64 ||| (1#64 <<< (f % 64)))).getD (g / 64) 0#64=a.getD (g / 64) 0#64:=by
   simp only[List.getD];rw[es2 (λe=>hd e.symm)]
  have d:g≠f:=λe=>hd (by rw[e]);rw[b];simp[d]
def cl7{n f:Nat}:U7 (List.replicate n 0#64) f=false:=by
 unfold U7;have:(List.replicate n (0#64:W)).getD (f / 64) 0#64=0#64:=by
  simp only[List.getD,eu3];split<;>rfl
 rw[this];simp
def dl2(a:List W)(f:Nat):(cW2 a f).length=a.length:=by simp[cW2]
def orB(b c:List W):List W:=List.zipWith (· ||| ·) b c
def ap4(b c:List W):Bool:=(List.zipWith (λx y=>(y &&& ~~~x:W) != 0#64) b c).any id
def df0{α:Type}(g:W->W->α)(d:α)(a:g 0#64 0#64=d){b c:List W}(e:b.length=c.length)(i:Nat):(List.zipWith g b c).getD i d=g (b.getD i 0#64) (c.getD i 0#64):=by
 simp only[List.getD,List.getElem?_zipWith];by_cases hi:i<b.length
 .rw[ej0 hi,ej0 om];rfl
 .rw[er3 om,er3 om];simp[a]
def aM0{b c:List W}(a:b.length=c.length)(f:Nat):U7 (orB b c) f=(U7 b f||U7 c f):=by
 unfold U7 orB;rw[df0 (· ||| ·) 0#64 dP a,BitVec.getLsbD_or]
def bU2{b c:List W}(r:b.length=c.length):ap4 b c=true↔∃f,U7 c f=true/\U7 b f=false:=by
 unfold ap4;rw[ew3];constructor
 .rintro⟨x,q,m⟩;simp only[id]at m;subst m;obtain⟨i,n,e⟩:=ep2.1 q;rw[List.getElem_zipWith]at e;simp only[List.length_zipWith]at n;have o:(c[i]' om &&& ~~~b[i]' om:W)≠0#64:=by simpa using e
  have:∃k,k<64/\(c[i]' om &&& ~~~b[i]' om:W).getLsbD k=true:=by
   refine er1 λl=>o ?_;apply BitVec.eq_of_getLsbD_eq;intro k p;have a:¬(c[i]' om &&& ~~~b[i]' om:W).getLsbD k=true:=λg=>l ⟨k,p,g⟩;simp only[Bool.not_eq_true]at a;rw[a];simp
  obtain⟨k,p,d⟩:=this;rw[BitVec.getLsbD_and,BitVec.getLsbD_not]at d;have h:(i*64+k) / 64=i:=om
  have j:(i*64+k) % 64=k:=om
  simp only[el3,em7,Bool.not_eq_true']at d;refine⟨i*64+k,?_,?_⟩
  .unfold U7;rw[h,j];simp only[List.getD,ej0 (show i<c.length by omega),eo5];exact d.1
  .unfold U7;rw[h,j];simp only[List.getD,ej0 (show i<b.length by omega),eo5];exact d.2.2
 .rintro⟨f,a,g⟩;have n:f / 64<c.length:=by
   refine er1 λl=>?_;unfold U7 at a;simp only[List.getD,er3 (show c.length<=f / 64 by omega),Option.getD_none]at a;simp at a
  refine⟨true,?_,rfl⟩;refine ep2.2 ⟨f / 64,by simp;omega,?_⟩;rw[List.getElem_zipWith];simp only[bne_iff_ne,ne_eq];intro e;unfold U7 at a g;simp only[List.getD,ej0 n,ej0 (show f / 64<b.length by omega),eo5]at a g;have:=el1 (λx:W=>x.getLsbD (f % 64)) e;simp only[BitVec.getLsbD_and,BitVec.getLsbD_not,a,g]at this;simp at this;omega
def cd1{b c:List W}(a:b.length=c.length):(orB b c).length=b.length:=by simp[orB,a]
def eq4:=@Bool.true_and
def ci0:Value->Option Bool
 | .bool b=>some b
 | _=>none
theorem ea6{b:Bool}:ci0 (.bool b)=some b:=rfl
theorem ea7:ci0 undef=none:=rfl
def dI2{ops:Array Oper}{f:Fr}{j:Nat}:aZ1 ops f j=match df7 ops j with|some d=>ci0 (f d)|none=>none:=by
 unfold aZ1 df7;cases(ops[j]?).bind (·.dst)with
 | none=>rfl
 | some d=>
  show(match f d with | .bool b=>some b|_=>none)=ci0 (f d);unfold ci0;cases f d<;>rfl
def eh0{P:Program}{ops:Array Oper}{l:List Oper}{K:Fr->World->Prop}{f:Fr}{w:World}{d:Option Nat}{op:Op}{ty:TypeId}{c:String}{a:Array Edge}{j:Nat}{b:Bool}:
  Rn P ops (⟨d,op,ty,c,a,some (j,b)⟩::l) K f w =
   if aZ1 ops f j=some b then B9 P none ⟨d,op,ty,c,a,none⟩ (Rn P ops l K) f w else Rn P ops l K (C5 f d undef) w:=propext er4
def dY9{P:Program}{Q:Exit->Fr->World->Prop}{f:Fr}{w:World}{id:Nat}{ops:Array Oper}:CW P (.region id ops false) Q f w=Rn P ops ops.toList (Q .normal) f w:=propext er4
def dZ4{P:Program}{ops:Array Oper}{K:Fr->World->Prop}{f:Fr}{w:World}:Rn P ops [] K f w=K f w:=propext er4
def ed0{P:Program}{ops:Array Oper}{l:List Oper}{K:Fr->World->Prop}{f:Fr}{w:World}{d:Option Nat}{op:Op}{ty:TypeId}{b:String}{a:Array Edge}:
  Rn P ops (⟨d,op,ty,b,a,none⟩::l) K f w=B9 P none ⟨d,op,ty,b,a,none⟩ (Rn P ops l K) f w:=propext er4
def eg0{K:Fr->World->Prop}{f:Fr}{d:Option Nat}{w:World}{v:Value}:am8 (.ok v w) K f d=K (C5 f d v) w:=propext er4
def eg1{K:Fr->World->Prop}{f:Fr}{d:Option Nat}{w:World}{v:Unit}:br1 (.ok v w) K f d=K (C5 f d undef) w:=propext er4
def bq6(h:Hp){α:Type}[A6 α]:R h (.slice none 0 0) ([]:List α):=⟨none,0,0,rfl,rfl,ek6 _,[],rfl,λj u a=>by simp at a⟩
section
variable {P:Program} {t:TypeId}
def bK8(b:Array UInt8):(.string ⟨b⟩:Value)=t8 (ofA b):=by
 simp[t8,ofA]
def dZ6{a:B3}{b:Array UInt8}:D1 P .eql t (t8 a) (.string ⟨b⟩)=some (.bool (decide (a=ofA b))):=by
 rw[bK8,cG6]
def ea3{a:B3}{b:Array UInt8}:D1 P .neq t (t8 a) (.string ⟨b⟩)=some (.bool (!decide (a=ofA b))):=by
 rw[bK8,du5]
def chr(s:B3)(i:Nat):Option UInt8:=s.b[i]?
def dH1(l:List UInt8)(i:Nat):(⟨l.toArray⟩:ByteArray)[i]?=l[i]?:=by
 by_cases h:i<l.length
 .rw[getElem?_pos (⟨l.toArray⟩:ByteArray) i (by show i<l.toArray.size;simpa using h),ByteArray.getElem_eq_getElem_data];simp[h]
 .rw[getElem?_neg (⟨l.toArray⟩:ByteArray) i (by show ¬i<l.toArray.size;simpa using h)];simp[h]
def dD0{s:B3}{k:IntKind}{i:Nat}{c:UInt8}(h:ce2 P t=true)(b:bY6 P t=none)(d:chr s i=some c):aB1 P t (t8 s) (.int k (i:Int))=some (.int .u8 (c.toNat:Int)):=by
 have a:(⟨s.b.toArray⟩:ByteArray)[i]?=some c:=(dH1 s.b i).trans d;simp only[aB1,b,t8,h,eq4,el5,a,ep0,ee1,ep4]
def ee2{v:Value}(a:(N5 P t).isSome=true)(b:isS v=true):ab0 P t v=some (.int .i64 (vlen v:Nat)):=by
 simp only[ab0,a,b,ep4]
def ea1{a b:Int}:D1 P .lss t (.int .i64 a) (.int .i64 b)=some (.bool (decide (a<b))):=by simp[D1,I1]
def ea0{a b:Int}:D1 P .leq t (.int .i64 a) (.int .i64 b)=some (.bool (decide (a<=b))):=by simp[D1,I1]
def dZ9{a b:Int}:D1 P .gtr t (.int .i64 a) (.int .i64 b)=some (.bool (decide (b<a))):=by simp[D1,I1]
def dZ8{a b:Int}:D1 P .geq t (.int .i64 a) (.int .i64 b)=some (.bool (decide (b<=a))):=by simp[D1,I1]
theorem dZ7{a b:Int}:D1 P .eql t (.int .i64 a) (.int .i64 b)=some (.bool (decide (a=b))):=by simp[D1,I1];rfl
theorem ea4{a b:Int}:D1 P .neq t (.int .i64 a) (.int .i64 b)=some (.bool (!decide (a=b))):=by simp[D1,I1];rfl
def dZ5{a b:Int}:D1 P .add t (.int .i64 a) (.int .i64 b)=some (.int .i64 (IntKind.i64.wrap (a+b))):=by simp[D1,I1]
def ea5{a b:Int}:D1 P .sub t (.int .i64 a) (.int .i64 b)=some (.int .i64 (IntKind.i64.wrap (a-b))):=by simp[D1,I1]
def dP8{a b:Int}:D1 P .leq t (.int .u8 a) (.int .u8 b)=some (.bool (decide (a<=b))):=by simp[D1,I1]
def dP7{a b:Int}:D1 P .geq t (.int .u8 a) (.int .u8 b)=some (.bool (decide (b<=a))):=by simp[D1,I1]
def eg8{b:Bool}:unV .not (.bool b)=some (.bool (!b)):=by simp[unV]
def bg2{a:Option Addr}{op:BinOp}(b:op = .eql)(h:eqT P t=2):D1 P op t (.pointer a) (.pointer none)=some (.bool a.isNone):=by
 subst b;simp[D1,h]
end
def ew6:=@Nat.le_of_not_lt
def aW5{w:World}{b:Nat}(h:w.heap.size<=b):i5 w b=none:=by
 show w.heap[b]?=none;simp[h]
def C9{w:World}{b:Nat}(h:i5 w b=none):w.heap.size<=b:=ew6 λa=>by simp[i5,a]at h
def W8{v:Value}(h:isS v=true):v.oneCell'=true:=by
 cases v<;>simp[isS]at h;rfl
def F7{v:Value}(h:isS v=true):v.cells=#[v]:=by
 cases v<;>simp[isS]at h;rfl
section
variable {P:Program} {h:Hp} {w:World} {t T:TypeId} {v:Value}
def F4{a i:Nat}{cs:Array Value}{u:Value}(b:w.heap[a]?=some (.cells cs T (0,0)))(d:cs[i]?=some u)(c:J4 P t=false):(Instr.loadAt t (.pointer (some ⟨a,i,none⟩))).run P w = .ok u w:=
 W9 c (by rw[er9 w a i cs T (0,0) b];exact d)
def ad7{a i:Nat}{cs:Array Value}{x:Value}(g:w.heap[a]?=some (.cells cs T (0,0)))(k:i<cs.size)(m:x.cells=#[x])(j:x.oneCell'=true){e:TypeInfo}(d:P.info? t=some e)(l:e.size=1):
  ∃h,(Instr.storeAt t (.pointer (some ⟨a,i,none⟩)) x).run P w = .ok () h/\h.heap[a]?=some (.cells (cs.setIfInBounds i x) T (0,0))/\p6 (λb=>b=a) w h:=by
 have c:w.cell? ⟨a,i,.none⟩=some cs[i]:=by rw[er9 w a i cs T (0,0) g,et7 k]
 have f:w.frozen? ⟨a,i,.none⟩=false:=frozen_of_row w a i cs T g;exact⟨_,ba4 (P:=P) (t:=t) d l m j c f,heap_setCell_same w a i cs T x g,p6.setCell _ _ _ rfl⟩
def aj3{c:Nat}{a cs:Array Value}(h:w.heap[c]?=some (.cells a T (0,0))){z:Value}(m:I4 P T=some z)(d:a.size=N6 P T)(f:cs.size=N6 P T)(k:∀u∈cs.toList,u.oneCell'=true):
  ∃g,(Instr.storeAt T (.pointer (some ⟨c,0,none⟩)) (.agg cs)).run P w = .ok () g/\g.heap[c]?=some (.cells cs T (0,0))/\p6 (λb=>b=c) w g:=by
 obtain⟨i,j,l⟩:=A4 m;have e:=run_storeCells_from (P:=P) c T cs.toList 0 a w h (by simp[f,d]) k;simp only[et3,er6,Array.toArray_toList]at e;refine⟨_,?_,setRow_heap w c a cs T (0,0) h,p6.setRow _ _ _ rfl⟩;unfold Instr.storeAt storeVar;simp only[Instr.sureAddr,el7,en1,ek8,sizeOf,O0,j,Value.cells];rw[F0 j]at f;simp only[f,ne_eq,not_true_eq_false,er8];exact e
def af6{b:Nat}{cs:Array Value}(d:w.heap[b]?=some (.cells cs T (0,0)))(h:J4 P T=true)(i:(P.underlying T).isSome=true)(e:(P.info? T).isSome=true)(g:N6 P T=cs.size):
  (Instr.loadAt T (.pointer (some ⟨b,0,none⟩))).run P w = .ok (.agg cs) w:=by
 have:=bH3 (P:=P) (w:=w) (a:=⟨b,0,none⟩) (cs:=cs.toList) h i e (by simpa using g) λj u f=>by
  have c:(⟨b,0,.none⟩:Addr).add j=⟨b,j,.none⟩:=by unfold Addr.add;split<;>simp_all
  rw[c,er9 w b j cs T (0,0) d];simpa using f
 simpa using this
def O5{b:Func}{R:Value->World->Prop}{f:Fr}{a:Nat}{ty:TypeId}{ad:Addr}(h:b.results=#[.cell a ty])(d:f a = .pointer (some ad))(e:(Instr.loadAt ty (.pointer (some ad))).run P w = .ok v w)(c:R v w):bz6 P b R .ret f w:=by
 refine⟨[v],?_,c⟩;rw[h];refine⟨?_,trivial⟩;show(do loadVar ty (<-asAddr (f a)):Sem Value).run P w = .ok v w;rw[d];exact e
def dg4{h:Hp}{w:World}{N:Nat->Prop}(hw:E2 h (i5 w))(hN:∀b,N b->h b=none):E2 h (D0 w N):=λb o e=>by
 have c:¬N b:=λa=>by rw[hN b a]at e;cases e
 rw[E4 c];exact hw b o e
def F3{w a:World}{N:Nat->Prop}(hm:p6 N w a):E2 (D0 w N) (i5 a):=G4 (B4 w N) hm λb c=>G1 c
def cl8{w a:World}{N:Nat->Prop}(hm:p6 N w a)(hN:∀b,N b->b<w.heap.size):E2 (D0 w N) (D0 a N):=K8 hm (λb h=>h) λb h=>.inl h
section
variable {α:Type} [A6 α] {x:α} {N:Nat->Prop}
def dY1(hv:SV h v x)(hw:E2 h (D0 w N))(hN:∀b,N b->b<w.heap.size){z:Value}(p:I4 P T=some z)(d:z.cells.size=N6 P T)(o:N6 P T=A6.sz α):
  ∃a g e,(Instr.alloc T true (.tuple #[])).run P w = .ok (.pointer (some a)) g/\(Instr.storeAt T (.pointer (some a)) v).run P g = .ok () e/\o6 w e/\At (D0 e N) a x:=by
 obtain⟨cs,rfl,c⟩:=hv;obtain⟨i,k⟩:=aI8 (P:=P) (w:=w) (T:=T) p d (cs:=List.toArray cs) (by simpa[o]using A6.len c) (by simpa using A6.one c);have f:=o6.alloc w (.cells (List.toArray cs) T);refine⟨_,_,_,i,k,f,cs,A6.mono (p7 hw (cl8 (f.weaken λ_ _ h=>h.elim) hN)) c,λj u m=>?_⟩;have n:¬N w.heap.size:=λl=>by have:=hN _ l;omega
 have:N2 (i5 (w.alloc (.cells (List.toArray cs) T))) ((⟨w.heap.size,0,none⟩:Addr).add j)=some u:=by
  rw[<-an1,add_lit,en0,ev4];simpa using m
 rw[add_lit]at this ⊢;unfold N2 at *;simp only at *;rw[E4 n];exact this
end
end
section
variable {P:Program}
def F6{k:Nat}{args:List Value}{w:World}{K:Fr->World->Prop}{f:Fr}{d:Option Nat}{v:Value}
  (h:Calls P k args.toArray w λe a=>∃u,e = .returned u/\(u=v/\a=w)) (b:K (C5 f d v) w) (hb:ar7 P k=true:=by kernel_rfl):aG8 P k args w K f d:=
 y4 h (λu a ⟨c,g⟩=>by rw[c,g];exact b) hb
def B6{k:Nat}{args:List Value}{w:World}{K:Fr->World->Prop}{f:Fr}{d:Option Nat}{v:Value}
  (h:Calls P k args.toArray w λe a=>∃u,e = .returned u/\(u=v/\o6 w a)) (b:∀a,o6 w a->K (C5 f d v) a) (hb:ar7 P k=true:=by kernel_rfl):aG8 P k args w K f d:=
 y4 h (λu a ⟨c,g⟩=>by rw[c];exact b a g) hb
end
section
variable {P:Program} {t T:TypeId}
def bl8(g o:Nat):∀(f:List Value) (i:Nat) (a:Array Value) (w:World),w.heap[g]?=some (.cells a T (0,0))->o+i+f.length<=a.size->(∀v∈f,v.oneCell'=true) ->
  ∃j,(storeCells ⟨g,o,none⟩ f i).run P w = .ok () j/\j.heap[g]?=some (.cells (a.toList.take (o+i)++f++a.toList.drop (o+i+f.length)).toArray T (0,0))/\p6 (λb=>b=g) w j
 | [],i,a,w,hg,hl,_=>by
  refine⟨w,rfl,?_,p6.refl _⟩;simp only[em5,ep7,Nat.add_zero,en4,Array.toArray_toList];exact hg
 | v::rest,i,a,w,hg,hl,h1=>by
  simp only[em1]at hl;have r:o+i<a.size:=om
  have d:(⟨g,o,none⟩:Addr).add i=⟨g,o+i,none⟩:=add_lit g o i;have c:w.cell? ⟨g,o+i,none⟩=some a[o+i]:=by rw[er9 w g (o+i) a T (0,0) hg,et7 r]
  have e:w.frozen? ⟨g,o+i,none⟩=false:=frozen_of_row w g (o+i) a T hg;have k:(store ((⟨g,o,none⟩:Addr).add i) v).run P w = .ok () (w.setCell ⟨g,o+i,none⟩ v):=by
   rw[d,run_store P w _ v _ (h1 v dP),c];simp[e]
  obtain⟨j,n,p,q⟩:=bl8 g o rest (i+1) (a.setIfInBounds (o+i) v) (w.setCell ⟨g,o+i,none⟩ v) (heap_setCell_same w g (o+i) a T v hg) (by simp;omega) (λx s=>h1 x (by simp[s]));refine⟨j,?_,?_,(p6.setCell (M:=λb=>b=g) w ⟨g,o+i,none⟩ v rfl).trans q⟩
  .simp only[storeCells,el7,k,ek8,n]
  .rw[p]
   congr 3
   have l:a.toList.length=a.size:=dP
   simp only[Array.toList_setIfInBounds,em1];rw[show o+(i+1)=o+i+1 by omega,List.take_set,ej8 om,List.set_append_right (h:=by simp;omega)];have m:o+i-(a.toList.take (o+i)).length=0:=by simp;omega
   rw[m,List.drop_set_of_lt om];simp[el9,et9,Nat.add_comm 1]
def cG7{w:World}{c o:Nat}{a:Array Value}{cs:List Value}(l:w.heap[c]?=some (.cells a T (0,0)))(p:o+cs.length<=a.size)(g:∀u∈cs,u.oneCell'=true)(m:(P.info? t).isSome=true)(n:N6 P t=cs.length):
  ∃e,(Instr.storeAt t (.pointer (some ⟨c,o,none⟩)) (.agg (List.toArray cs))).run P w = .ok () e/\e.heap[c]?=some (.cells (a.toList.take o++cs++a.toList.drop (o+cs.length)).toArray T (0,0))/\p6 (λb=>b=c) w e:=by
 obtain⟨e,h,j,k⟩:=bl8 (P:=P) c o cs 0 a w l om g;refine⟨e,?_,j,k⟩;obtain⟨i,d⟩:=eo6.1 m;have f:i.size=cs.length:=by rw[<-n,F0 d]
 unfold Instr.storeAt storeVar;simp only[Instr.sureAddr,el7,en1,ek8,sizeOf,O0,d,Value.cells,f];simp only[et4,ne_eq,not_true_eq_false,er8];exact h
end
def L8(k:Hp)(a:Addr)(v:Value):Prop:=∃b,v = .agg (List.toArray b)/\∀j u,b[j]?=some u->N2 k (a.add j)=some u
def aj2{c d:List Value}(h:(Value.agg (List.toArray c)) = .agg (List.toArray d)):d=c:=by
 simp only[Value.agg.injEq]at h;have:=el1 Array.toList h;simpa using this.symm
section
variable {α:Type} [A6 α] {h k:Hp} {v:Value} {x:α} {P:Program} {t T:TypeId} {w:World} {a:Addr} {N:Nat->Prop}
def L8.mono{b:Hp}(g:E2 k b):L8 k a v->L8 b a v:=λ⟨c,e,d⟩=>⟨c,e,λj u f=>J5 g (d j u f)⟩
def bf9{b c:List Value}(d:∀j u,b[j]?=some u->N2 k (a.add j)=some u){o:Nat}(f:∀j u,c[j]?=some u->b[o+j]?=some u):L8 k (a.add o) (.agg (List.toArray c)):=
 ⟨c,rfl,λj u e=>by rw[Addr.add_add'];exact d _ _ (f j u e)⟩
def bP5{b c:List Value}(d:∀j u,b[j]?=some u->N2 k (a.add j)=some u)(e:∀j u,c[j]?=some u->b[0+j]?=some u):L8 k a (.agg (List.toArray c)):=by
 have:=bf9 d e
 rwa [M8]at this
def L8.whole(o:L8 k a v)(hv:SV h v x)(z:J4 P t=true)(A:(P.underlying t).isSome=true)(r:(P.info? t).isSome=true)(y:N6 P t=A6.sz α):
  (∀w,E2 k (i5 w)->(Instr.loadAt t (.pointer (some a))).run P w = .ok v w)/\(∀(S:World->Prop) (m:World),S m->(∀w,S w->E2 k (i5 w))->∀K f d w,F8 P S (Instr.loadAt t (.pointer (some a))) K f d w=K (C5 f d v) w):=by
 obtain⟨B,rfl,p⟩:=o;obtain⟨b,e,q⟩:=hv;obtain rfl:=aj2 e;have i:∀w,E2 k (i5 w)->(Instr.loadAt t (.pointer (some a))).run P w = .ok (.agg (List.toArray b)) w:=λw c=>bH3 z A r (by rw[y,A6.len q]) λj u s=>J5 c (p j u s);exact⟨i,λS m n c K f d w=>B7 n λl g=>i l (c l g)⟩
def bY7{w:World}{cs:List Value}(hN:∀b,N b->b<w.heap.size):L8 (D0 (w.alloc (.cells (List.toArray cs) T)) N) ⟨w.heap.size,0,none⟩ (.agg (List.toArray cs)):=by
 refine⟨cs,rfl,λj u c=>?_⟩;have d:¬N w.heap.size:=λa=>by have:=hN _ a;omega
 have:N2 (i5 (w.alloc (.cells (List.toArray cs) T))) ((⟨w.heap.size,0,none⟩:Addr).add j)=some u:=by
  rw[<-an1,add_lit,en0,ev4];simpa using c
 rw[add_lit]at this ⊢;unfold N2 at *;simp only at *;rw[E4 d];exact this
def cw3(hv:SV h v x)(hN:∀b,N b->b<w.heap.size):∃a c,(Instr.box T v).run P w = .ok (.pointer (some a)) c/\o6 w c/\L8 (D0 c N) a v:=by
 obtain⟨d,rfl,e⟩:=hv;exact⟨⟨w.heap.size,0,none⟩,w.alloc (.cells (List.toArray d) T),rfl,o6.alloc w _,bY7 hN⟩
def cF0(hv:SV h v x)(hN:∀b,N b->b<w.heap.size){z:Value}(k:I4 P T=some z)(c:z.cells.size=N6 P T)(j:N6 P T=A6.sz α):
  ∃a f d,(Instr.alloc T true (.tuple #[])).run P w = .ok (.pointer (some a)) f/\(Instr.storeAt T (.pointer (some a)) v).run P f = .ok () d/\o6 w d/\L8 (D0 d N) a v:=by
 obtain⟨cs,rfl,e⟩:=hv;obtain⟨g,i⟩:=aI8 (P:=P) (w:=w) (T:=T) k c (cs:=List.toArray cs) (by simpa[j]using A6.len e) (by simpa using A6.one e);exact⟨_,_,_,g,i,o6.alloc w _,bY7 hN⟩
end
def p6.chain{M N:Nat->Prop}{a b c:World}(h:p6 M a b)(k:p6 N b c)(hN:∀i,i<a.heap.size->N i->M i):p6 M a c:=
 ⟨k.os.trans h.os,k.tape.trans h.tape,k.output.trans h.output,ej7 h.size k.size,λi d hm=>(k.block i (eq5 d h.size) λe=>hm (hN i d e)).trans (h.block i d hm)⟩
def p6.up{M:Nat->Prop}{a b:World}(h:o6 a b):p6 M a b:=h.weaken λ_ _ h=>h.elim
section
variable {P:Program} {w:World} {h:Hp} {t T sz by_:Nat} {v:Value}
def X9{α:Type}[A6 α]{e:TypeId}(U:G7 P t T sz by_=true)(s:A6.sz α=sz){xs ys:List α}(r:B0 h w T v xs){u:Value}(V:R h u ys)
  (hl:xs.length+ys.length<=1000000000000) (hb:(xs.length+ys.length)*by_<=140737488355328) (hw:E2 h (i5 w)) :
  ∃C D,(Builtin.append_ #[t,t] e #[v,u]).run P w = .ok C D/\B0 h D T C (xs++ys)/\p6 (A5 v) w D/\E7 w v C:=by
 obtain⟨K,⟨z,W,B⟩,L,M,Z,h6⟩:=X0 U;obtain⟨i,g,o⟩:=A4 W;have m:i.bytes=by_:=by rw[<-M,aH5 g]
 have k:i.size=sz:=by rw[<-L,F0 g]
 obtain⟨a,n,c,F,G,Q,l,f,d⟩:=V;simp at F;subst F;have y:=P4 K;by_cases hy:ys=[]
 .subst hy;refine⟨v,w,?_,by simpa using r,p6.refl _,λb hb=>.inl hb⟩;have p:n=0:=by simpa using G
  subst p;rcases r with⟨rfl,rfl⟩|⟨b,Y,I,rfl,k1,k2,X,k4,k5,k6⟩
  .cases a<;>simp[Builtin.append_,run_underlying y,sizeOf,typeInfo,g,Builtin.lenOf,Builtin.firstCells,loadCells,loadCellsFrom]
  .cases a<;>simp[Builtin.append_,run_underlying y,sizeOf,typeInfo,g,Builtin.lenOf,Builtin.firstCells,loadCells,loadCellsFrom,X,storeCells]
 .have q:l≠[]:=by
   intro e;have:=O2 f;rw[e]at this;have S:0<ys.length:=List.length_pos_iff.2 hy;have:=A6.pos (α:=α);have:=Nat.mul_pos S this;simp at *;omega
  obtain⟨E,A⟩:∃E,l[0]?=some E:=by
   cases l with
   | nil=>exact absurd rfl q
   | cons x _=>exact⟨x,rfl⟩
  obtain⟨ad,rfl,_⟩:=d 0 E A;exact bd3 (e:=e) y g o (by rw[k,s]) (by rw[B,k]) r (ad:=ad) G f (λj u O=>by
   obtain⟨H,J,N⟩:=d j u O;obtain rfl:=el4 J;exact J5 hw N) hy (by simp only[maxLen];omega) (by rw[m];exact hb) hw
def dJ2{α:Type}[A6 α](j:G7 P t T sz by_=true)(hw:E2 h (i5 w)):
  ∃v a,(Instr.buildSlice t 0 #[]).run P w = .ok v a/\B0 h a T v ([]:List α)/\o6 w a/\(∀b,A5 v b->w.heap.size<=b):=by
 obtain⟨c,⟨z,k,l⟩,m,n,o,p⟩:=X0 j;obtain⟨i,e,f⟩:=A4 k;refine⟨.slice (some ⟨w.heap.size,0,none⟩) 0 0,w.alloc (.cells #[] T),?_,.inr ⟨w.heap.size,0,#[],rfl,aM1 hw (ek6 _),em9 w _,dP,dP,dP,by simp[Q9]⟩,o6.alloc _ _,λb d=>by simp[A5,Value.ownBlock]at d;omega⟩;unfold Instr.buildSlice;simp only[el7,I6,P4 c,ek8,T8 (show(P.info? T).isSome=true by rw[e];rfl),Sem.run_ite,Nat.zero_mul,en1];rw[if_neg dQ,if_pos trivial];have e0:∀(g:Nat->Value),(Array.range 0).map g=#[]:=λg=>dP
 simp only[e0,Instr.fill];rfl
end
section
variable {P:Program} {h k:Hp} {w:World} {t T sz by_:Nat} {v u:Value}
def ae6{α:Type}[O8 α]{e:TypeId}(I:G7 P t T 1 by_=true){xs ys:List α}(H:B0 h w T v xs)(J:R k u ys)(U:E2 k (i5 w))(o:xs.length+ys.length<=1000000000000)(hb:(xs.length+ys.length)*by_<=140737488355328)(hw:E2 h (i5 w)):
  ∃E F,(Builtin.append_ #[t,t] e #[v,u]).run P w = .ok E F/\B0 h F T E (xs++ys)/\p6 (A5 v) w F/\E7 w v E:=by
 obtain⟨M,⟨z,V,D⟩,N,O,W,X⟩:=X0 I;obtain⟨i,q,r⟩:=A4 V;have p:i.bytes=by_:=by rw[<-O,aH5 q]
 have g:i.size=1:=by rw[<-N,F0 q]
 by_cases hy:ys=[]
 .subst hy;obtain⟨a,n,c,m,y,f,l,d,b⟩:=J;have B:R h u ([]:List α):=⟨a,n,c,m,y,f,[],rfl,λj u s=>by simp at s⟩;exact X9 I rfl H B o hb hw
 .obtain⟨a,n,c,m,y,f,l,d,b⟩:=J;simp at m;subst m;have A:l≠[]:=by
   intro e;have:=O2 d;rw[e]at this;have Y:0<ys.length:=List.length_pos_iff.2 hy;have Q:(A6.sz α)=1:=rfl;rw[Q]at this;simp at this;omega
  obtain⟨G,C⟩:∃G,l[0]?=some G:=by
   cases l with
   | nil=>exact absurd rfl A
   | cons x _=>exact⟨x,rfl⟩
  obtain⟨ad,rfl,_⟩:=b 0 G C;exact bd3 (e:=e) (P4 M) q r (by rw[g];rfl) (by rw[D,g]) H (ad:=ad) y (bp4 d) (λj u s=>by
   obtain⟨K,L,S⟩:=b j u s;obtain rfl:=el4 L;exact J5 U S) hy (by simp only[maxLen];omega) (by rw[p];exact hb) hw
end
section
variable {P:Program} {K:Fr->World->Prop} {f:Fr} {w:World} {d:Option Nat} {ty:TypeId} {pos:String} {aft:Array Edge} {S:World->Prop}
def bD3(P:Program)(g:Value)(args:List Value)(w:World)(K:Fr->World->Prop)(f:Fr)(d:Option Nat):Prop:=match g with
 | .func (.func k) first cap=>aG8 P k (first.toList++args++cap.toList) w K f d
 | _=>False
def dQ9{k:Nat}{first a:Array Value}{args:List Value}:bD3 P (.func (.func k) first a) args w K f d=aG8 P k (first.toList++args++a.toList) w K f d:=propext er4
def dT2{j:Nat}{a:Array Operand}{b:Array TypeId}:B9 P none ⟨d,.call {callee:=.value (.tmp j),args:=a,argTypes:=b},ty,pos,aft,none⟩ K f w=bD3 P (f j) (a.toList.map (ev f)) w K f d:=by
 simp only[B9,aC1,ag4,bo2,ev,aZ8,bD3]
 all_goals (generalize f j=g;cases g<;>try rfl)
def dS9{j:Nat}{a:Array Operand}{b:Array TypeId}:B9 P (some S) ⟨d,.call {callee:=.value (.tmp j),args:=a,argTypes:=b},ty,pos,aft,none⟩ K f w=bD3 P (f j) (a.toList.map (ev f)) w (G0 S K) f d:=by
 simp only[B9,aC1,ag4,bo2,ev,aZ8,bD3]
 all_goals (generalize f j=g;cases g<;>try rfl)
end
def dR2{P:Program}{b d:Code}{Q:Exit->Fr->World->Prop}{f:Fr}{w:World}(a:List Nat)(I:Fr->World->Prop)(k:a.all (λi=>!(wrC b).contains i)=true)
  (l:CW P b (ae9 I Q) f w) (m:∀c g,(∀i∈a,c i=f i)->I c g->CW P d Q c g):CW P (.seq b d) Q f w:=by
 rw[bB8];refine cZ1 b (ae9 I Q) _ f w (λe c g n h=>?_) l;have j:∀i∈a,c i=f i:=λi o=>n i λhm=>by
  have:=eq9.1 k i o;simp[hm]at this
 cases e
 case normal=>exact m c g j h
 all_goals exact h
def eu9:=@Array.getElem?_toList
def et8:=@Bool.eq_false_iff
def ew4:=@Bool.false_or
def ev9:=@List.ext_getElem?
def es7:=@List.find?_eq_none
def em8:=@List.getElem?_map
def er0:=@List.getElem_map
def ek0:=@List.getElem_mem
def el2:=@List.mem_map
def ek5:=@List.mem_singleton
def eo0:=@List.nodup_append
def ep5:=@List.pairwise_iff_getElem
def P8(kv:List (B3×Value))(k:B3):Option Value:=(kv.find? λp=>decide (p.1=k)).map (·.2)
def aU5(kv:List (B3×Value))(k:B3)(v:Value):List (B3×Value):=if kv.any λp=>decide (p.1=k)then kv.map λp=>if p.1=k then(p.1,v)else p else kv++[(k,v)]
def aY9(w:World)(r:Nat)(kv:List (B3×Value)):Prop:=∃b a,w.heap[r]?=some (.map b a)/\b.toList.map (λe=>(e.key,e.val))=kv.map (λp=>(t8 p.1,p.2))/\(kv.map (·.1)).Nodup/\(∀x∈b.toList,x.born<a)/\(b.toList.map (·.born)).Nodup
def dm6{a b:B3}(h:t8 a=t8 b):a=b:=by
 unfold t8 at h;simp only[Value.string.injEq,ByteArray.mk.injEq]at h;have:=el1 Array.toList h;cases a;cases b;simpa using this
section
variable {P:Program} {w:World} {t k e:TypeId} {r:Nat} {kv:List (B3×Value)}
def aY9.lt(hm:aY9 w r kv):r<w.heap.size:=by
 obtain⟨a,c,h,_⟩:=hm;exact(ej4.1 h).1
def aY9.mod{M:Nat->Prop}{b:World}(hm:aY9 w r kv)(h:p6 M w b)(g:¬M r):aY9 b r kv:=by
 have a:=hm.lt;obtain⟨d,c,e,f⟩:=hm;exact⟨d,c,(h.block r a g).trans e,f⟩
def aY9.new(w:World)(t:TypeId):(Instr.makeMap t none).run P w = .ok (.map (some w.heap.size)) (w.alloc (.map #[] 0))/\aY9 (w.alloc (.map #[] 0)) w.heap.size []/\o6 w (w.alloc (.map #[] 0)):=by
 refine⟨?_,⟨#[],0,em9 w _,rfl,dP,dP,dP⟩,o6.alloc _ _⟩;unfold Instr.makeMap;rfl
def aS8{d:TypeDesc}(o:d = .string)(s:B3):∀(l:List MapEntry) (kv:List (B3×Value)) (i:Nat),l.map (λe=>(e.key,e.val))=kv.map (λp=>(t8 p.1,p.2)) ->
  (P8 kv s=none/\(kv.any λp=>decide (p.1=s))=false/\Instr.findNow d (t8 s) l i=some none) \/
  ∃j v,kv[j]?  = some (s,v)/\P8 kv s=some v/\(kv.any λp=>decide (p.1=s))=true/\Instr.findNow d (t8 s) l i=some (some (i+j,v))
 | [],kv,i,h=>by
  have:kv=[]:=by simpa using h.symm
  subst this;exact .inl ⟨rfl,rfl,rfl⟩
 | e::l,[],i,h=>by simp at h
 | e::l,p::kv,i,h=>by
  obtain⟨b,t⟩:=p;obtain⟨r,ev,q⟩:=e;simp only[en8,eu7,Prod.mk.injEq]at h;obtain⟨⟨rfl,rfl⟩,m⟩:=h;subst o;have k:Instr.sameNow .string (t8 s) (t8 b)=some (decide (b=s)):=by
   have:=MapKept.bytes_beq ⟨s.b.toArray⟩ ⟨b.b.toArray⟩;simp only[Instr.sameNow,t8]
   congr 1
   rw[eu4,this,decide_eq_true_iff];constructor
   .intro e;exact(dm6 (by unfold t8;rw[e])).symm
   .rintro rfl;rfl
  by_cases hp:b=s
  .subst hp;refine .inr ⟨0,ev,dP,by simp[P8],dP,?_⟩;simp only[Instr.findNow,k,decide_true];rfl
  .have a:decide (b=s)=false:=by simp[hp]
   rcases aS8 rfl s l kv (i+1) m with⟨c,f,g⟩|⟨j,v,c,f,g,n⟩
   .refine .inl ⟨by unfold P8 at *;rw[List.find?_cons,a];exact c,by rw[List.any_cons,a,f];rfl,?_⟩;simp only[Instr.findNow,k,a];exact g
   .refine .inr ⟨j+1,v,by simpa using c,by unfold P8 at *;rw[List.find?_cons,a];exact f,by rw[List.any_cons,g];simp,?_⟩;simp only[Instr.findNow,k,a,n]
    congr 3;omega
def aY9.lookup(hm:aY9 w r kv)(p:P.underlying t=some (.map k e))(f:P.underlying k=some .string){z:Value}(y:I4 P e=some z)(s:B3):
  (Instr.lookup t (.map (some r)) (t8 s) false).run P w = .ok ((P8 kv s).getD z) w:=by
 obtain⟨h,c,l,q,A,_⟩:=hm;obtain⟨i,x,d⟩:=A4 y;have a:=MapKept.run_checkKey (P:=P) (w:=w) (k:=t8 s) f (show MapKept.IsKey .string (t8 s)from trivial) h.isEmpty 9999;have g:(zeroValue e).run P w = .ok z w:=by
  unfold zeroValue;simp[O0,x,d]
 rcases aS8 rfl s h.toList kv 0 q with⟨m,n,o⟩|⟨j,v,m,n,o,u⟩
 .have b:=MapKept.run_findKey (P:=P) (w:=w) f o;unfold Instr.lookup;simp only[el7,run_underlying p,ek8,MapKept.run_getObj_map l,en1,a,b,g,m,Option.getD_none];rfl
 .have b:=MapKept.run_findKey (P:=P) (w:=w) f u;unfold Instr.lookup;simp only[el7,run_underlying p,ek8,MapKept.run_getObj_map l,en1,a,b,n,eo5];rfl
def bB5(w:World)(r:Nat)(o:Obj):p6 (λb=>b=r) w {w with heap:=w.heap.setIfInBounds r o}:=
 ⟨rfl,rfl,rfl,dP,λb c a=>by rw[Array.getElem?_setIfInBounds_ne (λe=>a e.symm)]⟩
def aY9.update(hm:aY9 w r kv)(W:P.underlying t=some (.map k e))(O:P.underlying k=some .string)(s:B3)(v:Value):
  ∃T,(Instr.mapUpdate t (.map (some r)) (t8 s) v).run P w = .ok () T/\aY9 T r (aU5 kv s v)/\p6 (λb=>b=r) w T:=by
 obtain⟨f,c,m,E,K,F,V⟩:=hm;have u:=MapKept.run_checkKey (P:=P) (w:=w) (k:=t8 s) O (show MapKept.IsKey .string (t8 s)from trivial) false 9999;have B:=(ej4.1 m).1;rcases aS8 rfl s f.toList kv 0 E with⟨G,H,I⟩|⟨j,v0,G,H,I,X⟩
 .have J:=MapKept.run_findKey (P:=P) (w:=w) O I;refine⟨{w with heap:=w.heap.setIfInBounds r (.map (f.push ⟨t8 s,v,c⟩) (c+1))},?_,⟨f.push ⟨t8 s,v,c⟩,c+1,by simp[B],?_,?_,?_,?_⟩,bB5 w r _⟩
  .unfold Instr.mapUpdate;simp only[el7,run_underlying W,ek8,MapKept.run_getObj_map m,u,J];exact MapKept.run_setObj_map _ m
  .rw[aU5,if_neg (by rw[H];simp),Array.toList_push,em6,em6,E];rfl
  .rw[aU5,if_neg (by rw[H];simp),em6,eo0];refine⟨K,dP,λa L b q=>?_⟩;simp only[en8,List.map_nil,ek5]at q;subst q;rintro rfl;obtain⟨p,Y,S⟩:=el2.1 L;have:=List.any_eq_false.1 H p Y;simp[S]at this
  .intro x l;rw[Array.toList_push]at l;rcases ej9.1 l with h|h
   .have:=F x h;omega
   .simp only[ek5]at h;subst h;exact Nat.lt_succ_self _
  .rw[Array.toList_push,em6,eo0];refine⟨V,dP,λa L b q=>?_⟩;simp only[en8,List.map_nil,ek5]at q;subst q;rintro rfl;obtain⟨x,l,Z⟩:=el2.1 L;have:=F x l;omega
 .have J:=MapKept.run_findKey (P:=P) (w:=w) O X;rw[en0]at J;have M:∃e0,f[j]?=some e0/\e0.key=t8 s:=by
   have:=el1 (λz=>z[j]?) E;simp only[em8,G,ep0]at this;cases hq:f.toList[j]? with
   | none=>rw[hq]at this;cases this
   | some e0=>
    rw[hq]at this;simp only[ep0,eu0,Prod.mk.injEq]at this;exact⟨e0,by rw[<-eu9];exact hq,this.1⟩
  obtain⟨e0,y,N⟩:=M;have Q:(Instr.keyThatStays (t8 s) (t8 s)).run P w = .ok (t8 s) w:=MapKept.run_keyThatStays (d:=.string) trivial;have g:(f.modify j λe=>{e with key:=t8 s,val:=v}).toList=f.toList.modify j (λe=>{e with key:=t8 s,val:=v}):=dP
  refine⟨{w with heap:=w.heap.setIfInBounds r (.map (f.modify j λe=>{e with key:=t8 s,val:=v}) c)},?_,⟨f.modify j λe=>{e with key:=t8 s,val:=v},c,by simp[B],?_,?_,?_,?_⟩,bB5 w r _⟩
  .unfold Instr.mapUpdate;simp only[el7,run_underlying W,ek8,MapKept.run_getObj_map m,u,J,y,ep0,eo5,N,Q];exact MapKept.run_setObj_map _ m
  .rw[aU5,if_pos I,g];apply ev9;intro n;have i:=el1 (λz=>z[n]?) E;simp only[em8]at i ⊢;rw[List.getElem?_modify];have A:=ej5.1 G;by_cases hnj:j=n
   .subst hnj;rw[eu9,y,G];simp
   .simp only[hnj,er8,Option.map_map];cases hkn:kv[n]? with
    | none=>rw[hkn]at i;simpa using i
    | some p=>
     rw[hkn]at i;have R:p.1≠s:=λe=>by
      have D:=ej5.1 hkn;have U:(kv.map (·.1))[j]'(by simpa using A.1)=(kv.map (·.1))[n]'(by simpa using D.1):=by
       simp only[er0,A.2,D.2,e]
      have o:=ep5.1 K;rcases Nat.lt_trichotomy j n with h|h|h
      .exact o j n _ _ h U
      .exact hnj h
      .exact o n j _ _ h U.symm
     cases he:f.toList[n]? with
     | none=>rw[he]at i;simp at i
     | some x=>
      rw[he]at i;simp only[ep0,eu0]at i ⊢;simp only[Function.comp,R,er8];show some _=some _;exact el1 some i
  .rw[aU5,if_pos I,List.map_map];have:((λx:B3×Value=>x.1) ∘ λp=>if p.1=s then(p.1,v)else p)=λx=>x.1:=by
    funext p;simp only[Function.comp];split<;>rfl
   rw[this];exact K
  .intro x l;rw[g]at l;obtain⟨n,i,rfl⟩:=ep2.1 l;rw[List.getElem_modify];have C:n<f.toList.length:=by simpa using i
   split
   .show f.toList[n].born<c;exact F f.toList[n] (ek0 C)
   .exact F _ (ek0 C)
  .rw[g];have:(f.toList.modify j (λe=>{e with key:=t8 s,val:=v})).map (·.born)=f.toList.map (·.born):=by
    apply ev9;intro n;simp only[em8,List.getElem?_modify];by_cases hjn:j=n<;>simp only[hjn,ep4,er8]<;>(cases f.toList[n]?<;>rfl)
   rw[this];exact V
end
def ay6(kv:List (B3×Value))(k:B3)(v:Value)(j:B3):P8 (aU5 kv k v) j=if j=k then some v else P8 kv j:=by
 have c:∀l:List (B3×Value),P8 (l.map λp=>if p.1=k then(p.1,v)else p) j=if j=k then(if l.any λp=>decide (p.1=k)then some v else none)else P8 l j:=by
  intro l
  induction l with
  | nil=>simp[P8]
  | cons p l a=>
   unfold P8 at *;rw[en8,List.find?_cons,List.find?_cons,List.any_cons];by_cases h1:p.1=k
   .by_cases h2:j=k
    .subst h2;simp[h1]
    .simp only[h1,ep4,h2,er8]at a ⊢;have f:decide (k=j)=false:=by simp;exact λe=>h2 e.symm
     rw[f];exact a
   .by_cases h2:j=k
    .subst h2;simp only[h1,er8,decide_false,ew4,ep4]at a ⊢;exact a
    .by_cases b:p.1=j
     .simp only[er8,h2,b,decide_true]
     .simp only[h1,er8,h2,b,decide_false]at a ⊢;exact a
 unfold aU5;split
 .next h=>rw[c kv];simp only[h,ep4]
 .next h=>
  have d:=et8.2 h;unfold P8;rw[List.find?_append];by_cases h2:j=k
  .subst h2;have:kv.find? (λp=>decide (p.1=j))=none:=es7.2 λp g=>List.any_eq_false.1 d p g;rw[this];simp
  .rw[if_neg h2];have b:¬k=j:=λe=>h2 e.symm;simp[b]
theorem cc8{P:Program}{S:World->Prop}{K:Fr->World->Prop}{f:Fr}{w:World}{d:Option Nat}{ty:TypeId}{b:String}{a:Array Edge}{t:Nat}{m k x:Operand}:B9 P (some S) ⟨d,.mapUpdate t m k x,ty,b,a,none⟩ K f w=br1 ((Instr.mapUpdate t (ev f m) (ev f k) (ev f x)).run P w) (G0 S K) f d:=rfl
def dW8:J4 prog 2=false:=kr
def bm5:N6 prog 3=1:=kr
def aG4:I4 prog 3=some (.int .i64 0):=kr
def K1:J4 prog 3=false:=kr
def aE0:N6 prog 4=1:=kr
def V4:I4 prog 4=some (.bool false):=kr
def ai9:J4 prog 4=false:=kr
def dX6:N6 prog 9=1:=kr
def dY0:I4 prog 9=some (.string ⟨#[]⟩):=kr
def ao5:J4 prog 9=false:=kr
def dW7:bY6 prog 9=none:=kr
def dM4:ce2 prog 9=true:=kr
def do8:N6 prog 22=1:=kr
def ct6:I4 prog 22=some (.slice none 0 0):=kr
def X2:J4 prog 22=false:=kr
def dX3:eqT prog 22=3:=kr
def do0:J4 prog 23=false:=kr
def do2:(prog.info? 25).isSome=true:=kr
def ct5:N6 prog 25=2:=kr
def dG3:I4 prog 25=some (.agg #[.slice none 0 0,.slice none 0 0]):=kr
def do1:J4 prog 25=true:=kr
def dp4:(prog.underlying 25).isSome=true:=kr
def dX0:P2 prog 25=some (#[.slice none 0 0,.slice none 0 0],[(0,1),(1,1)]):=kr
def ap5:(prog.info? 27).isSome=true:=kr
def P5:N6 prog 27=4:=kr
def aV1:I4 prog 27=some (.agg #[.string ⟨#[]⟩,.int .i64 0,.int .i64 0,.string ⟨#[]⟩]):=kr
def aw3:J4 prog 27=true:=kr
def aw6:(prog.underlying 27).isSome=true:=kr
def bW4:P2 prog 27=some (#[.string ⟨#[]⟩,.int .i64 0,.int .i64 0,.string ⟨#[]⟩],[(0,1),(1,1),(2,1),(3,1)]):=kr
def dW9:J4 prog 33=false:=kr
def do9:N6 prog 35=1:=kr
def dq3:I4 prog 35=some (.slice none 0 0):=kr
def Y6:J4 prog 35=false:=kr
def bz1:N6 prog 45=1:=kr
def ao7:I4 prog 45=some (.slice none 0 0):=kr
def aj0:J4 prog 45=false:=kr
def dn1:N5 prog 45=some 3:=kr
def dX4:eqT prog 45=3:=kr
def dF9:N6 prog 49=1:=kr
def dG4:I4 prog 49=some (.slice none 0 0):=kr
def bm3:J4 prog 49=false:=kr
def bm4:(prog.info? 54).isSome=true:=kr
def aw5:N6 prog 54=9:=kr
def cM3:I4 prog 54=some (.agg #[.string ⟨#[]⟩,.int .i64 0,.int .i64 0,.string ⟨#[]⟩,.string ⟨#[]⟩,.int .i64 0,.int .i64 0,.string ⟨#[]⟩,.int .i64 0]):=kr
def bL1:J4 prog 54=true:=kr
def bL6:(prog.underlying 54).isSome=true:=kr
def dX1:P2 prog 54=some (#[.string ⟨#[]⟩,.int .i64 0,.int .i64 0,.string ⟨#[]⟩,.string ⟨#[]⟩,.int .i64 0,.int .i64 0,.string ⟨#[]⟩,.int .i64 0],[(0,4),(4,4),(8,1)]):=kr
def dF2:J4 prog 65=false:=kr
def bb2:J4 prog 66=false:=kr
def aw4:(prog.info? 68).isSome=true:=kr
def U0:N6 prog 68=5:=kr
def dq4:I4 prog 68=some (.agg #[.string ⟨#[]⟩,.slice none 0 0,.slice none 0 0,.slice none 0 0,.slice none 0 0]):=kr
def aD3:J4 prog 68=true:=kr
def aD5:(prog.underlying 68).isSome=true:=kr
def dF8:P2 prog 68=some (#[.string ⟨#[]⟩,.slice none 0 0,.slice none 0 0,.slice none 0 0,.slice none 0 0],[(0,1),(1,1),(2,1),(3,1),(4,1)]):=kr
def bz0:(prog.info? 72).isSome=true:=kr
def aD4:N6 prog 72=2:=kr
def dX8:I4 prog 72=some (.agg #[.string ⟨#[]⟩,.bool false]):=kr
def bL2:J4 prog 72=true:=kr
def bL7:(prog.underlying 72).isSome=true:=kr
def do5:P2 prog 72=some (#[.string ⟨#[]⟩,.bool false],[(0,1),(1,1)]):=kr
def dF6:(prog.info? 80).isSome=true:=kr
def dG0:N6 prog 80=2:=kr
def dq5:I4 prog 80=some (.agg #[.int .i64 0,.int .i64 0]):=kr
def dF3:J4 prog 80=true:=kr
def dG2:(prog.underlying 80).isSome=true:=kr
def do6:P2 prog 80=some (#[.int .i64 0,.int .i64 0],[(0,1),(1,1)]):=kr
def dF4:J4 prog 83=false:=kr
def aU9:J4 prog 87=false:=kr
def bW3:J4 prog 88=false:=kr
def dX5:N6 prog 89=1:=kr
def dX9:I4 prog 89=some (.slice none 0 0):=kr
def aF5:J4 prog 89=false:=kr
def dX2:P2 prog 91=some (#[.pointer none,.slice none 0 0,.slice none 0 0,.slice none 0 0,.slice none 0 0,.map none,.slice none 0 0,.slice none 0 0],[(0,1),(1,1),(2,1),(3,1),(4,1),(5,1),(6,1),(7,1)]):=kr
def cM2:N6 prog 95=1:=kr
def bW5:I4 prog 95=some (.slice none 0 0):=kr
def aK0:J4 prog 95=false:=kr
def dn2:J4 prog 108=false:=kr
def be5:(prog.info? 110).isSome=true:=kr
def ak6:N6 prog 110=4:=kr
def cE7:I4 prog 110=some (.agg #[.int .i64 0,.int .i64 0,.string ⟨#[]⟩,.slice none 0 0]):=kr
def bt2:J4 prog 110=true:=kr
def bt7:(prog.underlying 110).isSome=true:=kr
def cE4:P2 prog 110=some (#[.int .i64 0,.int .i64 0,.string ⟨#[]⟩,.slice none 0 0],[(0,1),(1,1),(2,1),(3,1)]):=kr
def ce6:J4 prog 111=false:=kr
def aO3:(prog.info? 113).isSome=true:=kr
def af3:N6 prog 113=13:=kr
def cE8:I4 prog 113=some (.agg #[.int .i64 0,.int .i64 0,.slice none 0 0,.string ⟨#[]⟩,.string ⟨#[]⟩,.int .i64 0,.int .i64 0,.string ⟨#[]⟩,.slice none 0 0,.bool false,.slice none 0 0,.slice none 0 0,.slice none 0 0]):=kr
def be4:J4 prog 113=true:=kr
def be7:(prog.underlying 113).isSome=true:=kr
def bt5:P2 prog 113=some (#[.int .i64 0,.int .i64 0,.slice none 0 0,.string ⟨#[]⟩,.string ⟨#[]⟩,.int .i64 0,.int .i64 0,.string ⟨#[]⟩,.slice none 0 0,.bool false,.slice none 0 0,.slice none 0 0,.slice none 0 0],[(0,1),(1,1),(2,1),(3,1),(4,1),(5,4),(9,1),(10,1),(11,1),(12,1)]):=kr
def aO4:(prog.info? 125).isSome=true:=kr
def ad0:N6 prog 125=6:=kr
def dp5:I4 prog 125=some (.agg #[.bool false,.string ⟨#[]⟩,.int .i64 0,.int .i64 0,.string ⟨#[]⟩,.slice none 0 0]):=kr
def aU8:J4 prog 125=true:=kr
def aV0:(prog.underlying 125).isSome=true:=kr
def do3:P2 prog 125=some (#[.bool false,.string ⟨#[]⟩,.int .i64 0,.int .i64 0,.string ⟨#[]⟩,.slice none 0 0],[(0,1),(1,1),(2,4)]):=kr
def bK9:J4 prog 132=false:=kr
def dL9:N6 prog 133=1:=kr
def dM5:I4 prog 133=some (.slice none 0 0):=kr
def dn3:J4 prog 133=false:=kr
def dM0:N6 prog 134=1:=kr
def dM6:I4 prog 134=some (.slice none 0 0):=kr
def av4:J4 prog 134=false:=kr
def dK6:P2 prog 136=some (#[.pointer none,.slice none 0 0,.slice none 0 0,.slice none 0 0,.slice none 0 0,.slice none 0 0],[(0,1),(1,1),(2,1),(3,1),(4,1),(5,1)]):=kr
def dn4:J4 prog 144=false:=kr
def dM1:N6 prog 145=1:=kr
def dM7:I4 prog 145=some (.slice none 0 0):=kr
def ce7:J4 prog 145=false:=kr
def dK7:P2 prog 147=some (#[.pointer none,.slice none 0 0,.map none,.slice none 0 0],[(0,1),(1,1),(2,1),(3,1)]):=kr
def cE0:(prog.info? 151).isSome=true:=kr
def bt6:N6 prog 151=2:=kr
def dp6:I4 prog 151=some (.agg #[.int .i64 0,.int .i64 0]):=kr
def dn5:J4 prog 151=true:=kr
def dp0:(prog.underlying 151).isSome=true:=kr
def dK8:P2 prog 151=some (#[.int .i64 0,.int .i64 0],[(0,1),(1,1)]):=kr
def ac9:(prog.info? 156).isSome=true:=kr
def L4:N6 prog 156=17:=kr
def cE9:I4 prog 156=some (.agg #[.int .i64 0,.int .i64 0,.slice none 0 0,.string ⟨#[]⟩,.string ⟨#[]⟩,.int .i64 0,.int .i64 0,.string ⟨#[]⟩,.slice none 0 0,.bool false,.slice none 0 0,.slice none 0 0,.slice none 0 0,.int .i64 0,.int .i64 0,.int .i64 0,.int .i64 0]):=kr
def af2:J4 prog 156=true:=kr
def af4:(prog.underlying 156).isSome=true:=kr
def do4:P2 prog 156=some (#[.int .i64 0,.int .i64 0,.slice none 0 0,.string ⟨#[]⟩,.string ⟨#[]⟩,.int .i64 0,.int .i64 0,.string ⟨#[]⟩,.slice none 0 0,.bool false,.slice none 0 0,.slice none 0 0,.slice none 0 0,.int .i64 0,.int .i64 0,.int .i64 0,.int .i64 0],[(0,13),(13,1),(14,1),(15,1),(16,1)]):=kr
def dM2:N6 prog 157=1:=kr
def dp7:I4 prog 157=some (.slice none 0 0):=kr
def bt3:J4 prog 157=false:=kr
def dK9:P2 prog 159=some (#[.slice none 0 0,.slice none 0 0,.slice none 0 0,.slice none 0 0,.slice none 0 0],[(0,2),(2,1),(3,1),(4,1)]):=kr
def aD2:J4 prog 160=false:=kr
def dL0:P2 prog 176=some (#[.int .i64 0],[(0,1)]):=kr
def dL1:P2 prog 199=some (#[.pointer none,.int .i64 0,.string ⟨#[]⟩,.slice none 0 0,.slice none 0 0,.slice none 0 0,.slice none 0 0,.slice none 0 0,.slice none 0 0],[(0,1),(1,1),(2,5),(7,1),(8,1)]):=kr
def cE1:(prog.info? 208).isSome=true:=kr
def bL4:N6 prog 208=2:=kr
def dp8:I4 prog 208=some (.agg #[.int .i64 0,.int .i64 0]):=kr
def dn6:J4 prog 208=true:=kr
def dp1:(prog.underlying 208).isSome=true:=kr
def dL2:P2 prog 208=some (#[.int .i64 0,.int .i64 0],[(0,1),(1,1)]):=kr
def cE2:(prog.info? 213).isSome=true:=kr
def bL5:N6 prog 213=3:=kr
def dM8:I4 prog 213=some (.agg #[.int .i64 0,.int .i64 0,.string ⟨#[]⟩]):=kr
def dn7:J4 prog 213=true:=kr
def dp2:(prog.underlying 213).isSome=true:=kr
def dL3:P2 prog 213=some (#[.int .i64 0,.int .i64 0,.string ⟨#[]⟩],[(0,1),(1,1),(2,1)]):=kr
def do7:N6 prog 216=1:=kr
def dp9:I4 prog 216=some (.slice none 0 0):=kr
def bL0:J4 prog 216=false:=kr
def cE3:(prog.info? 218).isSome=true:=kr
def cf0:N6 prog 218=2:=kr
def dq0:I4 prog 218=some (.agg #[.int .i64 0,.int .i64 0]):=kr
def dn8:J4 prog 218=true:=kr
def dp3:(prog.underlying 218).isSome=true:=kr
def dL4:P2 prog 218=some (#[.int .i64 0,.int .i64 0],[(0,1),(1,1)]):=kr
def dn9:J4 prog 222=false:=kr
def dL5:P2 prog 224=some (#[.pointer none,.int .i64 0,.int .i64 0,.slice none 0 0,.slice none 0 0],[(0,1),(1,1),(2,1),(3,1),(4,1)]):=kr
def cf1:N6 prog 240=1:=kr
def aO5:I4 prog 240=some (.int .u64 0):=kr
def av5:J4 prog 240=false:=kr
def dM3:N6 prog 261=1:=kr
def dq1:I4 prog 261=some (.slice none 0 0):=kr
def ab6:J4 prog 261=false:=kr
def bL3:(prog.info? 302).isSome=true:=kr
def be6:N6 prog 302=3:=kr
def dq2:I4 prog 302=some (.agg #[.int .i64 0,.int .i64 0,.int .i64 0]):=kr
def cD9:J4 prog 302=true:=kr
def cE6:(prog.underlying 302).isSome=true:=kr
def dL6:P2 prog 302=some (#[.int .i64 0,.int .i64 0,.int .i64 0],[(0,1),(1,1),(2,1)]):=kr
def dL7:P2 prog 307=some (#[.slice none 0 0,.slice none 0 0],[(0,1),(1,1)]):=kr
def ce9:(prog.info? 319).isSome=true:=kr
def ao6:N6 prog 319=2:=kr
def bt8:I4 prog 319=some (.agg #[.slice none 0 0,.int .i64 0]):=kr
def ce8:J4 prog 319=true:=kr
def cf2:(prog.underlying 319).isSome=true:=kr
def dL8:P2 prog 319=some (#[.slice none 0 0,.int .i64 0],[(0,1),(1,1)]):=kr
def cE5:N6 prog 355=1:=kr
def bt9:I4 prog 355=some (.slice none 0 0):=kr
def bt4:J4 prog 355=false:=kr
def hm:prog.follows .mixedOrders=true:=kr

def TY:(prog.info? 3).isSome=true/\N6 prog 3=1/\(prog.info? 4).isSome=true/\N6 prog 4=1/\(prog.info? 9).isSome=true/\N6 prog 9=1/\N5 prog 9=none/\ce2 prog 9=true/\(prog.info? 22).isSome=true/\N6 prog 22=1/\N5 prog 22=some 9/\N5 prog 23=some 68/\C8 prog 25 0=some (0,22)/\C8 prog 25 1=some (1,23)/\(prog.info? 27).isSome=true/\N6 prog 27=4/\C8 prog 27 0=some (0,9)/\C8 prog 27 1=some (1,3)/\C8 prog 27 2=some (2,3)/\C8 prog 27 3=some (3,9)/\N5 prog 30=some 115/\N5 prog 35=some 27/\(prog.info? 45).isSome=true/\N6 prog 45=1/\N5 prog 45=some 3/\C8 prog 47 0=some (0,35)/\C8 prog 47 1=some (1,4)/\N5 prog 49=some 54/\(prog.info? 54).isSome=true/\N6 prog 54=9/\C8 prog 54 0=some (0,27)/\C8 prog 54 1=some (4,27)/\C8 prog 54 2=some (8,3)/\N5 prog 65=some 72/\N5 prog 66=some 113/\(prog.info? 68).isSome=true/\N6 prog 68=5/\C8 prog 68 0=some (0,9)/\C8 prog 68 1=some (1,65)/\C8 prog 68 2=some (2,22)/\C8 prog 68 3=some (3,66)/\C8 prog 68 4=some (4,22)/\(prog.info? 72).isSome=true/\N6 prog 72=2/\C8 prog 72 0=some (0,9)/\C8 prog 72 1=some (1,4)/\C8 prog 80 0=some (0,33)/\N5 prog 89=some 216/\C8 prog 91 0=some (0,87)/\C8 prog 91 1=some (1,22)/\C8 prog 91 2=some (2,35)/\C8 prog 91 3=some (3,49)/\C8 prog 91 4=some (4,49)/\C8 prog 91 5=some (5,88)/\C8 prog 91 6=some (6,89)/\C8 prog 91 7=some (7,89)/\(prog.info? 95).isSome=true/\N6 prog 95=1/\N5 prog 95=some 4/\N5 prog 108=some 110/\(prog.info? 110).isSome=true/\N6 prog 110=4/\C8 prog 110 0=some (0,3)/\C8 prog 110 1=some (1,2)/\C8 prog 110 2=some (2,9)/\C8 prog 110 3=some (3,108)/\N5 prog 111=some 125/\(prog.info? 113).isSome=true/\N6 prog 113=13/\C8 prog 113 0=some (0,3)/\C8 prog 113 1=some (1,3)/\C8 prog 113 2=some (2,22)/\C8 prog 113 3=some (3,9)/\C8 prog 113 4=some (4,9)/\C8 prog 113 5=some (5,110)/\C8 prog 113 6=some (9,4)/\C8 prog 113 7=some (10,111)/\C8 prog 113 8=some (11,66)/\C8 prog 113 9=some (12,66)/\(prog.info? 125).isSome=true/\N6 prog 125=6/\C8 prog 125 0=some (0,4)/\C8 prog 125 1=some (1,9)/\C8 prog 125 2=some (2,110)/\N5 prog 133=some 160/\N5 prog 134=some 22/\C8 prog 136 0=some (0,132)/\C8 prog 136 1=some (1,133)/\C8 prog 136 2=some (2,134)/\C8 prog 136 3=some (3,134)/\C8 prog 136 4=some (4,134)/\C8 prog 136 5=some (5,134)/\N5 prog 145=some 151/\C8 prog 147 0=some (0,83)/\C8 prog 147 1=some (1,95)/\C8 prog 147 2=some (2,144)/\C8 prog 147 3=some (3,145)/\(prog.info? 151).isSome=true/\N6 prog 151=2/\C8 prog 151 0=some (0,3)/\C8 prog 151 1=some (1,3)/\(prog.info? 156).isSome=true/\N6 prog 156=17/\C8 prog 156 0=some (0,113)/\C8 prog 156 1=some (13,3)/\C8 prog 156 3=some (15,3)/\C8 prog 156 4=some (16,3)/\N5 prog 157=some 156/\C8 prog 159 0=some (0,25)/\C8 prog 159 1=some (2,157)/\C8 prog 159 2=some (3,45)/\C8 prog 159 3=some (4,45)/\(prog.info? 160).isSome=true/\N6 prog 160=1/\C8 prog 176 0=some (0,3)/\C8 prog 199 0=some (0,87)/\C8 prog 199 2=some (2,68)/\C8 prog 199 3=some (7,35)/\C8 prog 199 4=some (8,49)/\N5 prog 206=some 208/\(prog.info? 208).isSome=true/\N6 prog 208=2/\N5 prog 208=none/\bY6 prog 208=some (2,3)/\N5 prog 210=some 213/\(prog.info? 213).isSome=true/\N6 prog 213=3/\C8 prog 213 0=some (0,3)/\C8 prog 213 1=some (1,3)/\C8 prog 213 2=some (2,9)/\(prog.info? 216).isSome=true/\N6 prog 216=1/\N5 prog 216=some 218/\(prog.info? 218).isSome=true/\N6 prog 218=2/\C8 prog 218 0=some (0,3)/\C8 prog 218 1=some (1,3)/\N5 prog 219=none/\bY6 prog 219=some (7,4)/\N5 prog 222=some 302/\C8 prog 224 0=some (0,132)/\C8 prog 224 1=some (1,3)/\C8 prog 224 2=some (2,3)/\C8 prog 224 3=some (3,222)/\C8 prog 224 4=some (4,95)/\(prog.info? 240).isSome=true/\N6 prog 240=1/\eqT prog 257=2/\N5 prog 261=some 45/\N5 prog 266=some 95/\(prog.info? 302).isSome=true/\N6 prog 302=3/\C8 prog 302 0=some (0,3)/\C8 prog 302 1=some (1,3)/\C8 prog 302 2=some (2,3)/\C8 prog 307 0=some (0,261)/\C8 prog 307 1=some (1,261)/\C8 prog 319 0=some (0,261)/\C8 prog 319 1=some (1,3)/\N5 prog 338=some 355/\(prog.info? 355).isSome=true/\N6 prog 355=1/\N5 prog 355=some 240:=by and_intros<;>kernel_rfl
def cu8(T:TypeId)(v:Value)(w:World)(N:Nat->Prop):Prop:=∃a b,(Instr.box T v).run prog w = .ok (.pointer (some a)) b/\o6 w b/\L8 (D0 b N) a v
def cv4(T:TypeId)(v:Value)(w:World)(N:Nat->Prop):Prop:=∃a c b,(Instr.alloc T true (.tuple #[])).run prog w = .ok (.pointer (some a)) c/\(Instr.storeAt T (.pointer (some a)) v).run prog c = .ok () b/\o6 w b/\L8 (D0 b N) a v
def bM5{α:Type}[A6 α](T:TypeId)(v:Value)(w:World)(x:α):Prop:=∃a b,(Instr.box T v).run prog w = .ok (.pointer (some a)) b/\o6 w b/\At (i5 b) a x
def bC4{α:Type}[A6 α](T:TypeId)(v:Value)(w:World)(x:α):Prop:=∃a c b,(Instr.alloc T true (.tuple #[])).run prog w = .ok (.pointer (some a)) c/\(Instr.storeAt T (.pointer (some a)) v).run prog c = .ok () b/\o6 w b/\At (i5 b) a x
abbrev LtN(N:Nat->Prop)(w:World):Prop:=∀b,N b->b<w.heap.size
abbrev LW(h:Hp)(F:World->Prop):Prop:=∀w,E2 h (i5 w)->F w
abbrev SW(h:Hp)(F:(World->Prop)->Prop):Prop:=∀(S:World->Prop) (a:World),S a->(∀w,S w->E2 h (i5 w))->F S
abbrev LdB(T:TypeId)(h:Hp)(a:Addr)(v:Value):Prop:=LW h (λw=>V6 prog w T a v)/\SW h (λS=>X4 prog S T a v)
def sw1{P:Program}{h:Hp}{t:TypeId}{a:Addr}{v:Value}(l:LW h (λw=>V6 P w t a v)):SW h (λS=>X4 P S t a v):=λS e c d=>sdE c λb h=>l b (d b h)
def sw2{P:Program}{h:Hp}{t:TypeId}{a:Addr}{v:Value}{F:World->Prop}{G:(World->Prop)->Prop}(g:LW h F->SW h G)(l:LW h (λw=>V6 P w t a v/\F w)):SW h (λS=>X4 P S t a v/\G S):=λS e b c=>⟨sdE b λd h=>(l d (c d h)).1,g (λw h=>(l w h).2) S e b c⟩
def lsw{h:Hp}{F:World->Prop}{G:(World->Prop)->Prop}(l:LW h F)(g:LW h F->SW h G):LW h F/\SW h G:=⟨l,g l⟩
def dS1{l:List Value}(h:l.length=2):∃a b,l=[a,b]:=by
 match l,h with
 | [a,b],_=>exact⟨a,b,rfl⟩
def bx1{l:List Value}(h:l.length=4):∃a b c d,l=[a,b,c,d]:=by
 match l,h with
 | [a,b,c,d],_=>exact⟨a,b,c,d,rfl⟩
def bq4{l:List Value}(h:l.length=13):∃a b c d e f g i j k m n o,l=[a,b,c,d,e,f,g,i,j,k,m,n,o]:=by
 match l,h with
 | [a,b,c,d,e,f,g,i,j,k,m,n,o],_=>exact⟨a,b,c,d,e,f,g,i,j,k,m,n,o,rfl⟩
section
variable {h k:Hp} {a:Addr} {v:Value} {w:World} {cs:List Value} (N:Nat->Prop)
def dw2{x:Pa}:A6.enc h cs x->cs=([t8 x.name]:List Value)++([.bool x.ref]:List Value):=by
 intro a;exact a
def At.pa{x:Pa}(d:At h a x):LW h (λw=>V6 prog w 9 a (t8 x.name)/\V6 prog w 4 (a.add 1) (.bool x.ref))/\SW h (λS=>X4 prog S 9 a (t8 x.name)/\X4 prog S 4 (a.add 1) (.bool x.ref)):=by
 obtain⟨cs,e,b⟩:=d;obtain rfl:=dw2 e;exact lsw (λw c=>⟨L9 b rfl ao5 w c,B1 b (o:=1) rfl ai9 w c⟩) (sw2 sw1)
def At.pa_v{x:Pa}(c:At h a x):∃b,SV h b x/\LdB 72 h a b:=c.sv2 bL2 bL7 bz0 aD4
def cG9{x:Pa}(hv:SV h v x)(hw:E2 h (i5 w)):bM5 72 v w x:=bN2 hv hw
def aY2{x:Pa}(hv:SV h v x)(hw:E2 h (i5 w)):bC4 72 v w x:=bA2 hv hw dX8 rfl aD4
def dw4{x:Sp}:A6.enc h cs x->cs=([.int .i64 x.src]:List Value)++([.int .i64 x.dst]:List Value)++([.int .i64 x.kind]:List Value):=by
 intro a;exact a
def At.sp{x:Sp}(d:At h a x):LW h (λw=>V6 prog w 3 a (.int .i64 x.src)/\V6 prog w 3 (a.add 1) (.int .i64 x.dst)/\V6 prog w 3 (a.add 2) (.int .i64 x.kind))/\SW h (λS=>X4 prog S 3 a (.int .i64 x.src)/\X4 prog S 3 (a.add 1) (.int .i64 x.dst)/\X4 prog S 3 (a.add 2) (.int .i64 x.kind)):=by
 obtain⟨cs,e,b⟩:=d;obtain rfl:=dw4 e;exact lsw (λw c=>⟨L9 b rfl K1 w c,B1 b (o:=1) rfl K1 w c,B1 b (o:=2) rfl K1 w c⟩) (sw2 (sw2 sw1))
def At.sp_v{x:Sp}(c:At h a x):∃b,SV h b x/\LdB 302 h a b:=c.sv2 cD9 cE6 bL3 be6
def cH0{x:Sp}(hv:SV h v x)(hw:E2 h (i5 w)):bM5 302 v w x:=bN2 hv hw
def dA8{x:Sp}(hv:SV h v x)(hw:E2 h (i5 w)):bC4 302 v w x:=bA2 hv hw dq2 rfl be6
def dw1{x:Fw}:A6.enc h cs x->cs=([.int .i64 x.src]:List Value)++([.int .i64 x.dst]:List Value)++([t8 x.var]:List Value):=by
 intro a;exact a
def At.fw{x:Fw}(d:At h a x):LW h (λw=>V6 prog w 3 a (.int .i64 x.src)/\V6 prog w 3 (a.add 1) (.int .i64 x.dst)/\V6 prog w 9 (a.add 2) (t8 x.var))/\SW h (λS=>X4 prog S 3 a (.int .i64 x.src)/\X4 prog S 3 (a.add 1) (.int .i64 x.dst)/\X4 prog S 9 (a.add 2) (t8 x.var)):=by
 obtain⟨cs,e,b⟩:=d;obtain rfl:=dw1 e;exact lsw (λw c=>⟨L9 b rfl K1 w c,B1 b (o:=1) rfl K1 w c,B1 b (o:=2) rfl ao5 w c⟩) (sw2 (sw2 sw1))
def dA6{x:Fw}(hv:SV h v x)(hw:E2 h (i5 w)):bC4 213 v w x:=bA2 hv hw dM8 rfl bL5
def cI4{x:Vx}:A6.enc h cs x->cs=([t8 x.proc]:List Value)++([.int .i64 x.kind]:List Value)++([.int .i64 x.id]:List Value)++([t8 x.slot]:List Value):=by
 intro a;exact a
def At.vx{x:Vx}(d:At h a x):LW h (λw=>V6 prog w 9 a (t8 x.proc)/\V6 prog w 3 (a.add 1) (.int .i64 x.kind)/\V6 prog w 3 (a.add 2) (.int .i64 x.id)/\V6 prog w 9 (a.add 3) (t8 x.slot))/\SW h (λS=>X4 prog S 9 a (t8 x.proc)/\X4 prog S 3 (a.add 1) (.int .i64 x.kind)/\X4 prog S 3 (a.add 2) (.int .i64 x.id)/\X4 prog S 9 (a.add 3) (t8 x.slot)):=by
 obtain⟨cs,e,b⟩:=d;obtain rfl:=cI4 e;exact lsw (λw c=>⟨L9 b rfl ao5 w c,B1 b (o:=1) rfl K1 w c,B1 b (o:=2) rfl K1 w c,B1 b (o:=3) rfl ao5 w c⟩) (sw2 (sw2 (sw2 sw1)))
def L8.vx{x:Vx}(hv:SV h v x)(f:L8 k a v):LW k (λw=>V6 prog w 9 a (t8 x.proc)/\V6 prog w 3 (a.add 1) (.int .i64 x.kind)/\V6 prog w 3 (a.add 2) (.int .i64 x.id)/\V6 prog w 9 (a.add 3) (t8 x.slot))/\SW k (λS=>X4 prog S 9 a (t8 x.proc)/\X4 prog S 3 (a.add 1) (.int .i64 x.kind)/\X4 prog S 3 (a.add 2) (.int .i64 x.id)/\X4 prog S 9 (a.add 3) (t8 x.slot)):=by
 obtain⟨cs,rfl,g⟩:=hv;obtain⟨d,e,b⟩:=f;obtain rfl:=aj2 e;obtain rfl:=cI4 g;exact lsw (λw c=>⟨L9 b rfl ao5 w c,B1 b (o:=1) rfl K1 w c,B1 b (o:=2) rfl K1 w c,B1 b (o:=3) rfl ao5 w c⟩) (sw2 (sw2 (sw2 sw1)))
def L8.vx_v{x:Vx}(hv:SV h v x)(b:L8 k a v):LdB 27 k a v:=b.whole hv aw3 aw6 ap5 P5
def aL2{x:Vx}(hv:SV h v x)(hN:LtN N w):cu8 27 v w N:=cw3 hv hN
def aF6{x:Vx}(hv:SV h v x)(hN:LtN N w):cv4 27 v w N:=cF0 hv hN aV1 rfl P5
def At.vx_v{x:Vx}(c:At h a x):∃b,SV h b x/\LdB 27 h a b:=c.sv2 aw3 aw6 ap5 P5
def bg3{x:Vx}(hv:SV h v x)(hw:E2 h (i5 w)):bM5 27 v w x:=bN2 hv hw
def aO6{x:Vx}(hv:SV h v x)(hw:E2 h (i5 w)):bC4 27 v w x:=bA2 hv hw aV1 rfl P5
def cI0{x:Eg}:A6.enc h cs x->∃b a,cs=b++a++([.int .i64 x.kind]:List Value)/\A6.enc h b x.src/\A6.enc h a x.dst:=by
 intro c;exact⟨x.src.cells,x.dst.cells,c,rfl,rfl⟩
def At.eg{x:Eg}(A:At h a x):At h a x.src/\At h (a.add 4) x.dst/\LW h (λw=>V6 prog w 3 (a.add 8) (.int .i64 x.kind))/\SW h (λS=>X4 prog S 3 (a.add 8) (.int .i64 x.kind)):=by
 obtain⟨cs,B,q⟩:=A;obtain⟨s,r,rfl,d,c⟩:=cI0 B;obtain⟨k,l,n,p,rfl⟩:=bx1 (A6.len d);obtain⟨e,f,g,i,rfl⟩:=bx1 (A6.len c);exact⟨bD0 q d (λj u b=>by
  match j,b with
  | 0,b=>exact b
  | 1,b=>exact b
  | 2,b=>exact b
  | 3,b=>exact b
  | m+4,b=>simp at b),bA5 q c (λj u b=>by
  match j,b with
  | 0,b=>exact b
  | 1,b=>exact b
  | 2,b=>exact b
  | 3,b=>exact b
  | m+4,b=>simp at b),λw t=>B1 q (o:=8) rfl K1 w t,λS C z t=>sdE z λy v=>B1 q (o:=8) rfl K1 y (t y v)⟩
def L8.eg{x:Eg}(hv:SV h v x)(G:L8 k a v):∃f e,SV h f x.src/\L8 k a f/\SV h e x.dst/\L8 k (a.add 4) e/\LW k (λw=>V6 prog w 3 (a.add 8) (.int .i64 x.kind))/\SW k (λS=>X4 prog S 3 (a.add 8) (.int .i64 x.kind)):=by
 obtain⟨cs,rfl,H⟩:=hv;obtain⟨D,E,t⟩:=G;obtain rfl:=aj2 E;obtain⟨z,y,rfl,d,c⟩:=cI0 H;obtain⟨p,q,r,s,rfl⟩:=bx1 (A6.len d);obtain⟨g,i,l,n,rfl⟩:=bx1 (A6.len c);exact⟨_,_,⟨_,rfl,d⟩,bP5 t (λj u b=>by
  match j,b with
  | 0,b=>exact b
  | 1,b=>exact b
  | 2,b=>exact b
  | 3,b=>exact b
  | m+4,b=>simp at b),⟨_,rfl,c⟩,bf9 t (λj u b=>by
  match j,b with
  | 0,b=>exact b
  | 1,b=>exact b
  | 2,b=>exact b
  | 3,b=>exact b
  | m+4,b=>simp at b),λw A=>B1 t (o:=8) rfl K1 w A,λS I F A=>sdE F λC B=>B1 t (o:=8) rfl K1 C (A C B)⟩
def L8.eg_v{x:Eg}(hv:SV h v x)(b:L8 k a v):LdB 54 k a v:=b.whole hv bL1 bL6 bm4 aw5
def cH1{x:Eg}(hv:SV h v x)(hN:LtN N w):cu8 54 v w N:=cw3 hv hN
def cf3{x:Eg}(hv:SV h v x)(hN:LtN N w):cv4 54 v w N:=cF0 hv hN cM3 rfl aw5
def At.eg_v{x:Eg}(c:At h a x):∃b,SV h b x/\LdB 54 h a b:=c.sv2 bL1 bL6 bm4 aw5
def cI1{x:Ex}:A6.enc h cs x->∃a,cs=([.int .i64 x.op]:List Value)++([.int .i64 x.n]:List Value)++([t8 x.name]:List Value)++([a]:List Value)/\R h a x.kids:=by
 intro c;obtain⟨d,rfl,b⟩:=ca1.1 c;exact⟨d,rfl,b⟩
def At.ex{x:Ex}(f:At h a x):∃b,R h b x.kids/\LW h (λw=>V6 prog w 3 a (.int .i64 x.op)/\V6 prog w 2 (a.add 1) (.int .i64 x.n)/\V6 prog w 9 (a.add 2) (t8 x.name)/\V6 prog w 108 (a.add 3) b)/\SW h (λS=>X4 prog S 3 a (.int .i64 x.op)/\X4 prog S 2 (a.add 1) (.int .i64 x.n)/\X4 prog S 9 (a.add 2) (t8 x.name)/\X4 prog S 108 (a.add 3) b):=by
 obtain⟨cs,g,d⟩:=f;obtain⟨b,rfl,c⟩:=cI1 g;exact⟨_,c,lsw (λw e=>⟨L9 d rfl K1 w e,B1 d (o:=1) rfl dW8 w e,B1 d (o:=2) rfl ao5 w e,B1 d (o:=3) rfl dn2 w e⟩) (sw2 (sw2 (sw2 sw1)))⟩
def L8.ex{x:Ex}(hv:SV h v x)(i:L8 k a v):∃b,R h b x.kids/\LW k (λw=>V6 prog w 3 a (.int .i64 x.op)/\V6 prog w 2 (a.add 1) (.int .i64 x.n)/\V6 prog w 9 (a.add 2) (t8 x.name)/\V6 prog w 108 (a.add 3) b)/\SW k (λS=>X4 prog S 3 a (.int .i64 x.op)/\X4 prog S 2 (a.add 1) (.int .i64 x.n)/\X4 prog S 9 (a.add 2) (t8 x.name)/\X4 prog S 108 (a.add 3) b):=by
 obtain⟨cs,rfl,j⟩:=hv;obtain⟨f,g,d⟩:=i;obtain rfl:=aj2 g;obtain⟨b,rfl,c⟩:=cI1 j;exact⟨_,c,lsw (λw e=>⟨L9 d rfl K1 w e,B1 d (o:=1) rfl dW8 w e,B1 d (o:=2) rfl ao5 w e,B1 d (o:=3) rfl dn2 w e⟩) (sw2 (sw2 (sw2 sw1)))⟩
def L8.ex_v{x:Ex}(hv:SV h v x)(b:L8 k a v):LdB 110 k a v:=b.whole hv bt2 bt7 be5 ak6
def bA8{x:Ex}(hv:SV h v x)(hN:LtN N w):cu8 110 v w N:=cw3 hv hN
def dA9{x:Ex}(hv:SV h v x)(hN:LtN N w):cv4 110 v w N:=cF0 hv hN cE7 rfl ak6
def At.ex_v{x:Ex}(c:At h a x):∃b,SV h b x/\LdB 110 h a b:=c.sv2 bt2 bt7 be5 ak6
def aV6{x:Ex}(hv:SV h v x)(hw:E2 h (i5 w)):bM5 110 v w x:=bN2 hv hw
def dA5{x:Ex}(hv:SV h v x)(hw:E2 h (i5 w)):bC4 110 v w x:=bA2 hv hw cE7 rfl ak6
def cH9{x:Ar}:A6.enc h cs x->∃a,cs=([.bool x.ref]:List Value)++([t8 x.name]:List Value)++a/\A6.enc h a x.x:=by
 rintro⟨c,rfl,b⟩;exact⟨c,rfl,b⟩
def At.ar{x:Ar}(r:At h a x):At h (a.add 2) x.x/\LW h (λw=>V6 prog w 4 a (.bool x.ref)/\V6 prog w 9 (a.add 1) (t8 x.name))/\SW h (λS=>X4 prog S 4 a (.bool x.ref)/\X4 prog S 9 (a.add 1) (t8 x.name)):=by
 obtain⟨cs,s,e⟩:=r;obtain⟨q,rfl,d⟩:=cH9 s;obtain⟨i,k,l,n,rfl⟩:=bx1 (A6.len d);exact⟨bA5 e d (λj u b=>by
  match j,b with
  | 0,b=>exact b
  | 1,b=>exact b
  | 2,b=>exact b
  | 3,b=>exact b
  | m+4,b=>simp at b),λw f=>⟨L9 e rfl ai9 w f,B1 e (o:=1) rfl ao5 w f⟩,λS t p f=>⟨sdE p λg c=>L9 e rfl ai9 g (f g c),sdE p λg c=>B1 e (o:=1) rfl ao5 g (f g c)⟩⟩
def L8.ar{x:Ar}(hv:SV h v x)(z:L8 k a v):∃g,SV h g x.x/\L8 k (a.add 2) g/\LW k (λw=>V6 prog w 4 a (.bool x.ref)/\V6 prog w 9 (a.add 1) (t8 x.name))/\SW k (λS=>X4 prog S 4 a (.bool x.ref)/\X4 prog S 9 (a.add 1) (t8 x.name)):=by
 obtain⟨cs,rfl,A⟩:=hv;obtain⟨t,y,e⟩:=z;obtain rfl:=aj2 y;obtain⟨s,rfl,d⟩:=cH9 A;obtain⟨l,n,p,q,rfl⟩:=bx1 (A6.len d);exact⟨_,⟨_,rfl,d⟩,bf9 e (λj u b=>by
  match j,b with
  | 0,b=>exact b
  | 1,b=>exact b
  | 2,b=>exact b
  | 3,b=>exact b
  | m+4,b=>simp at b),λw f=>⟨L9 e rfl ai9 w f,B1 e (o:=1) rfl ao5 w f⟩,λS B r f=>⟨sdE r λi c=>L9 e rfl ai9 i (f i c),sdE r λi c=>B1 e (o:=1) rfl ao5 i (f i c)⟩⟩
def cM5{x:Ar}(hv:SV h v x)(hN:LtN N w):cv4 125 v w N:=cF0 hv hN dp5 rfl ad0
def At.ar_v{x:Ar}(c:At h a x):∃b,SV h b x/\LdB 125 h a b:=c.sv2 aU8 aV0 aO4 ad0
def du6{x:Ar}(hv:SV h v x)(hw:E2 h (i5 w)):bM5 125 v w x:=bN2 hv hw
def bm7{x:Ar}(hv:SV h v x)(hw:E2 h (i5 w)):bC4 125 v w x:=bA2 hv hw dp5 rfl ad0
def cI3{x:St}:A6.enc h cs x->∃a e b d c,cs=([.int .i64 x.id]:List Value)++([.int .i64 x.kind]:List Value)++([a]:List Value)++([t8 x.name]:List Value)++([t8 x.proc]:List Value)++e++([.bool x.has]:List Value)++([b]:List Value)++([d]:List Value)++([c]:List Value)/\R h a x.labels/\A6.enc h e x.x/\R h b x.args/\R h d x.thn/\R h c x.els:=by
 intro m;obtain⟨p,f,n,q,o,rfl,g,i,j,k,l⟩:=ca2.1 m;exact⟨p,f,n,q,o,dP,g,i,j,k,l⟩
def At.st{x:St}(C:At h a x):∃c e k i,R h c x.labels/\R h e x.args/\R h k x.thn/\R h i x.els/\At h (a.add 5) x.x/\LW h (λw=>V6 prog w 3 a (.int .i64 x.id)/\V6 prog w 3 (a.add 1) (.int .i64 x.kind)/\V6 prog w 22 (a.add 2) c/\V6 prog w 9 (a.add 3) (t8 x.name)/\V6 prog w 9 (a.add 4) (t8 x.proc)/\V6 prog w 4 (a.add 9) (.bool x.has)/\V6 prog w 111 (a.add 10) e/\V6 prog w 66 (a.add 11) k/\V6 prog w 66 (a.add 12) i)/\SW h (λS=>X4 prog S 3 a (.int .i64 x.id)/\X4 prog S 3 (a.add 1) (.int .i64 x.kind)/\X4 prog S 22 (a.add 2) c/\X4 prog S 9 (a.add 3) (t8 x.name)/\X4 prog S 9 (a.add 4) (t8 x.proc)/\X4 prog S 4 (a.add 9) (.bool x.has)/\X4 prog S 111 (a.add 10) e/\X4 prog S 66 (a.add 11) k/\X4 prog S 66 (a.add 12) i):=by
 obtain⟨cs,D,f⟩:=C;obtain⟨c,B,e,k,i,rfl,l,t,q,s,r⟩:=cI3 D;obtain⟨v,y,z,A,rfl⟩:=bx1 (A6.len t);exact⟨_,_,_,_,l,q,s,r,bA5 f t (λj u n=>by
  match j,n with
  | 0,n=>exact n
  | 1,n=>exact n
  | 2,n=>exact n
  | 3,n=>exact n
  | m+4,n=>simp at n),λw g=>⟨L9 f rfl K1 w g,B1 f (o:=1) rfl K1 w g,B1 f (o:=2) rfl X2 w g,B1 f (o:=3) rfl ao5 w g,B1 f (o:=4) rfl ao5 w g,B1 f (o:=9) rfl ai9 w g,B1 f (o:=10) rfl ce6 w g,B1 f (o:=11) rfl bb2 w g,B1 f (o:=12) rfl bb2 w g⟩,λS E p g=>⟨sdE p λd b=>L9 f rfl K1 d (g d b),sdE p λd b=>B1 f (o:=1) rfl K1 d (g d b),sdE p λd b=>B1 f (o:=2) rfl X2 d (g d b),sdE p λd b=>B1 f (o:=3) rfl ao5 d (g d b),sdE p λd b=>B1 f (o:=4) rfl ao5 d (g d b),sdE p λd b=>B1 f (o:=9) rfl ai9 d (g d b),sdE p λd b=>B1 f (o:=10) rfl ce6 d (g d b),sdE p λd b=>B1 f (o:=11) rfl bb2 d (g d b),sdE p λd b=>B1 f (o:=12) rfl bb2 d (g d b)⟩⟩
def L8.st{x:St}(hv:SV h v x)(H:L8 k a v):∃c z e l i,R h c x.labels/\SV h z x.x/\L8 k (a.add 5) z/\R h e x.args/\R h l x.thn/\R h i x.els/\LW k (λw=>V6 prog w 3 a (.int .i64 x.id)/\V6 prog w 3 (a.add 1) (.int .i64 x.kind)/\V6 prog w 22 (a.add 2) c/\V6 prog w 9 (a.add 3) (t8 x.name)/\V6 prog w 9 (a.add 4) (t8 x.proc)/\V6 prog w 4 (a.add 9) (.bool x.has)/\V6 prog w 111 (a.add 10) e/\V6 prog w 66 (a.add 11) l/\V6 prog w 66 (a.add 12) i)/\SW k (λS=>X4 prog S 3 a (.int .i64 x.id)/\X4 prog S 3 (a.add 1) (.int .i64 x.kind)/\X4 prog S 22 (a.add 2) c/\X4 prog S 9 (a.add 3) (t8 x.name)/\X4 prog S 9 (a.add 4) (t8 x.proc)/\X4 prog S 4 (a.add 9) (.bool x.has)/\X4 prog S 111 (a.add 10) e/\X4 prog S 66 (a.add 11) l/\X4 prog S 66 (a.add 12) i):=by
 obtain⟨cs,rfl,I⟩:=hv;obtain⟨F,G,f⟩:=H;obtain rfl:=aj2 G;obtain⟨c,E,e,l,i,rfl,n,y,r,t,s⟩:=cI3 I;obtain⟨A,B,C,D,rfl⟩:=bx1 (A6.len y);exact⟨_,_,_,_,_,n,⟨_,rfl,y⟩,bf9 f (λj u p=>by
  match j,p with
  | 0,p=>exact p
  | 1,p=>exact p
  | 2,p=>exact p
  | 3,p=>exact p
  | m+4,p=>simp at p),r,t,s,λw g=>⟨L9 f rfl K1 w g,B1 f (o:=1) rfl K1 w g,B1 f (o:=2) rfl X2 w g,B1 f (o:=3) rfl ao5 w g,B1 f (o:=4) rfl ao5 w g,B1 f (o:=9) rfl ai9 w g,B1 f (o:=10) rfl ce6 w g,B1 f (o:=11) rfl bb2 w g,B1 f (o:=12) rfl bb2 w g⟩,λS J q g=>⟨sdE q λd b=>L9 f rfl K1 d (g d b),sdE q λd b=>B1 f (o:=1) rfl K1 d (g d b),sdE q λd b=>B1 f (o:=2) rfl X2 d (g d b),sdE q λd b=>B1 f (o:=3) rfl ao5 d (g d b),sdE q λd b=>B1 f (o:=4) rfl ao5 d (g d b),sdE q λd b=>B1 f (o:=9) rfl ai9 d (g d b),sdE q λd b=>B1 f (o:=10) rfl ce6 d (g d b),sdE q λd b=>B1 f (o:=11) rfl bb2 d (g d b),sdE q λd b=>B1 f (o:=12) rfl bb2 d (g d b)⟩⟩
def L8.st_v{x:St}(hv:SV h v x)(b:L8 k a v):LdB 113 k a v:=b.whole hv be4 be7 aO3 af3
def cH3{x:St}(hv:SV h v x)(hN:LtN N w):cu8 113 v w N:=cw3 hv hN
def dB0{x:St}(hv:SV h v x)(hN:LtN N w):cv4 113 v w N:=cF0 hv hN cE8 rfl af3
def At.st_v{x:St}(c:At h a x):∃b,SV h b x/\LdB 113 h a b:=c.sv2 be4 be7 aO3 af3
def ax0{x:St}(hv:SV h v x)(hw:E2 h (i5 w)):bM5 113 v w x:=bN2 hv hw
def bm8{x:St}(hv:SV h v x)(hw:E2 h (i5 w)):bC4 113 v w x:=bA2 hv hw cE8 rfl af3
def cI2{x:Pr}:A6.enc h cs x->∃a c b d,cs=([t8 x.name]:List Value)++([a]:List Value)++([c]:List Value)++([b]:List Value)++([d]:List Value)/\R h a x.params/\R h c x.vars/\R h b x.body/\R h d x.fin:=by
 rintro⟨j,k,l,m,rfl,e,f,g,i⟩;exact⟨j,k,l,m,rfl,e,f,g,i⟩
def At.pr{x:Pr}(m:At h a x):∃b d c e,R h b x.params/\R h d x.vars/\R h c x.body/\R h e x.fin/\LW h (λw=>V6 prog w 9 a (t8 x.name)/\V6 prog w 65 (a.add 1) b/\V6 prog w 22 (a.add 2) d/\V6 prog w 66 (a.add 3) c/\V6 prog w 22 (a.add 4) e)/\SW h (λS=>X4 prog S 9 a (t8 x.name)/\X4 prog S 65 (a.add 1) b/\X4 prog S 22 (a.add 2) d/\X4 prog S 66 (a.add 3) c/\X4 prog S 22 (a.add 4) e):=by
 obtain⟨cs,n,k⟩:=m;obtain⟨b,d,c,e,rfl,f,i,g,j⟩:=cI2 n;exact⟨_,_,_,_,f,i,g,j,lsw (λw l=>⟨L9 k rfl ao5 w l,B1 k (o:=1) rfl dF2 w l,B1 k (o:=2) rfl X2 w l,B1 k (o:=3) rfl bb2 w l,B1 k (o:=4) rfl X2 w l⟩) (sw2 (sw2 (sw2 (sw2 sw1))))⟩
def L8.pr{x:Pr}(hv:SV h v x)(q:L8 k a v):∃b d c e,R h b x.params/\R h d x.vars/\R h c x.body/\R h e x.fin/\LW k (λw=>V6 prog w 9 a (t8 x.name)/\V6 prog w 65 (a.add 1) b/\V6 prog w 22 (a.add 2) d/\V6 prog w 66 (a.add 3) c/\V6 prog w 22 (a.add 4) e)/\SW k (λS=>X4 prog S 9 a (t8 x.name)/\X4 prog S 65 (a.add 1) b/\X4 prog S 22 (a.add 2) d/\X4 prog S 66 (a.add 3) c/\X4 prog S 22 (a.add 4) e):=by
 obtain⟨cs,rfl,r⟩:=hv;obtain⟨n,p,l⟩:=q;obtain rfl:=aj2 p;obtain⟨b,d,c,e,rfl,f,i,g,j⟩:=cI2 r;exact⟨_,_,_,_,f,i,g,j,lsw (λw m=>⟨L9 l rfl ao5 w m,B1 l (o:=1) rfl dF2 w m,B1 l (o:=2) rfl X2 w m,B1 l (o:=3) rfl bb2 w m,B1 l (o:=4) rfl X2 w m⟩) (sw2 (sw2 (sw2 (sw2 sw1))))⟩
def L8.pr_v{x:Pr}(hv:SV h v x)(b:L8 k a v):LdB 68 k a v:=b.whole hv aD3 aD5 aw4 U0
def cH2{x:Pr}(hv:SV h v x)(hN:LtN N w):cu8 68 v w N:=cw3 hv hN
def aY5{x:Pr}(hv:SV h v x)(hN:LtN N w):cv4 68 v w N:=cF0 hv hN dq4 rfl U0
def bA7{x:Pr}(hv:SV h v x)(hw:E2 h (i5 w)):bM5 68 v w x:=bN2 hv hw
def aY3{x:Pr}(hv:SV h v x)(hw:E2 h (i5 w)):bC4 68 v w x:=bA2 hv hw dq4 rfl U0
def ca0{x:Pg}:A6.enc h cs x->∃a b,cs=([a]:List Value)++([b]:List Value)/\R h a x.globals/\R h b x.procs:=by
 rintro⟨e,f,rfl,c,d⟩;exact⟨e,f,rfl,c,d⟩
def At.pg{x:Pg}(i:At h a x):∃b c,R h b x.globals/\R h c x.procs/\LW h (λw=>V6 prog w 22 a b/\V6 prog w 23 (a.add 1) c)/\SW h (λS=>X4 prog S 22 a b/\X4 prog S 23 (a.add 1) c):=by
 obtain⟨cs,j,f⟩:=i;obtain⟨b,c,rfl,d,e⟩:=ca0 j;exact⟨_,_,d,e,lsw (λw g=>⟨L9 f rfl X2 w g,B1 f (o:=1) rfl do0 w g⟩) (sw2 sw1)⟩
def L8.pg{x:Pg}(hv:SV h v x)(l:L8 k a v):∃b c,R h b x.globals/\R h c x.procs/\LW k (λw=>V6 prog w 22 a b/\V6 prog w 23 (a.add 1) c)/\SW k (λS=>X4 prog S 22 a b/\X4 prog S 23 (a.add 1) c):=by
 obtain⟨cs,rfl,m⟩:=hv;obtain⟨i,j,f⟩:=l;obtain rfl:=aj2 j;obtain⟨b,c,rfl,d,e⟩:=ca0 m;exact⟨_,_,d,e,lsw (λw g=>⟨L9 f rfl X2 w g,B1 f (o:=1) rfl do0 w g⟩) (sw2 sw1)⟩
def L8.pg_v{x:Pg}(hv:SV h v x)(b:L8 k a v):LdB 25 k a v:=b.whole hv do1 dp4 do2 ct5
def af7{x:Pg}(hv:SV h v x)(hN:LtN N w):cu8 25 v w N:=cw3 hv hN
def At.pg_v{x:Pg}(c:At h a x):∃b,SV h b x/\LdB 25 h a b:=c.sv2 do1 dp4 do2 ct5
def U2{x:Pg}(hv:SV h v x)(hw:E2 h (i5 w)):bM5 25 v w x:=bN2 hv hw
def dA7{x:Pg}(hv:SV h v x)(hw:E2 h (i5 w)):bC4 25 v w x:=bA2 hv hw dG3 rfl ct5
def aW0{x:It}:A6.enc h cs x->∃a,cs=a++([.int .i64 x.proc]:List Value)++([.int .i64 x.up]:List Value)++([.int .i64 x.next]:List Value)++([.int .i64 x.loop]:List Value)/\A6.enc h a x.s:=by
 rintro⟨c,rfl,b⟩;exact⟨c,dP,b⟩
def At.it{x:It}(D:At h a x):At h a x.s/\LW h (λw=>V6 prog w 3 (a.add 13) (.int .i64 x.proc)/\V6 prog w 3 (a.add 14) (.int .i64 x.up)/\V6 prog w 3 (a.add 15) (.int .i64 x.next)/\V6 prog w 3 (a.add 16) (.int .i64 x.loop))/\SW h (λS=>X4 prog S 3 (a.add 13) (.int .i64 x.proc)/\X4 prog S 3 (a.add 14) (.int .i64 x.up)/\X4 prog S 3 (a.add 15) (.int .i64 x.next)/\X4 prog S 3 (a.add 16) (.int .i64 x.loop)):=by
 obtain⟨cs,E,e⟩:=D;obtain⟨C,rfl,g⟩:=aW0 E;obtain⟨p,q,r,s,t,v,y,z,A,B,k,l,n,rfl⟩:=bq4 (A6.len g);exact⟨bD0 e g (λj u b=>by
  match j,b with
  | 0,b=>exact b
  | 1,b=>exact b
  | 2,b=>exact b
  | 3,b=>exact b
  | 4,b=>exact b
  | 5,b=>exact b
  | 6,b=>exact b
  | 7,b=>exact b
  | 8,b=>exact b
  | 9,b=>exact b
  | 10,b=>exact b
  | 11,b=>exact b
  | 12,b=>exact b
  | m+13,b=>simp at b),λw f=>⟨B1 e (o:=13) rfl K1 w f,B1 e (o:=14) rfl K1 w f,B1 e (o:=15) rfl K1 w f,B1 e (o:=16) rfl K1 w f⟩,λS F i f=>⟨sdE i λd c=>B1 e (o:=13) rfl K1 d (f d c),sdE i λd c=>B1 e (o:=14) rfl K1 d (f d c),sdE i λd c=>B1 e (o:=15) rfl K1 d (f d c),sdE i λd c=>B1 e (o:=16) rfl K1 d (f d c)⟩⟩
def L8.it{x:It}(hv:SV h v x)(I:L8 k a v):∃i,SV h i x.s/\L8 k a i/\LW k (λw=>V6 prog w 3 (a.add 13) (.int .i64 x.proc)/\V6 prog w 3 (a.add 14) (.int .i64 x.up)/\V6 prog w 3 (a.add 15) (.int .i64 x.next)/\V6 prog w 3 (a.add 16) (.int .i64 x.loop))/\SW k (λS=>X4 prog S 3 (a.add 13) (.int .i64 x.proc)/\X4 prog S 3 (a.add 14) (.int .i64 x.up)/\X4 prog S 3 (a.add 15) (.int .i64 x.next)/\X4 prog S 3 (a.add 16) (.int .i64 x.loop)):=by
 obtain⟨cs,rfl,J⟩:=hv;obtain⟨G,H,e⟩:=I;obtain rfl:=aj2 H;obtain⟨F,rfl,g⟩:=aW0 J;obtain⟨r,s,t,y,z,A,B,C,D,E,n,p,q,rfl⟩:=bq4 (A6.len g);exact⟨_,⟨_,rfl,g⟩,bP5 e (λj u b=>by
  match j,b with
  | 0,b=>exact b
  | 1,b=>exact b
  | 2,b=>exact b
  | 3,b=>exact b
  | 4,b=>exact b
  | 5,b=>exact b
  | 6,b=>exact b
  | 7,b=>exact b
  | 8,b=>exact b
  | 9,b=>exact b
  | 10,b=>exact b
  | 11,b=>exact b
  | 12,b=>exact b
  | m+13,b=>simp at b),λw f=>⟨B1 e (o:=13) rfl K1 w f,B1 e (o:=14) rfl K1 w f,B1 e (o:=15) rfl K1 w f,B1 e (o:=16) rfl K1 w f⟩,λS K l f=>⟨sdE l λd c=>B1 e (o:=13) rfl K1 d (f d c),sdE l λd c=>B1 e (o:=14) rfl K1 d (f d c),sdE l λd c=>B1 e (o:=15) rfl K1 d (f d c),sdE l λd c=>B1 e (o:=16) rfl K1 d (f d c)⟩⟩
def L8.it_v{x:It}(hv:SV h v x)(b:L8 k a v):LdB 156 k a v:=b.whole hv af2 af4 ac9 L4
def du7{x:It}(hv:SV h v x)(hN:LtN N w):cu8 156 v w N:=cw3 hv hN
def aY4{x:It}(hv:SV h v x)(hN:LtN N w):cv4 156 v w N:=cF0 hv hN cE9 rfl L4
def cG8{x:It}(hv:SV h v x)(hw:E2 h (i5 w)):bM5 156 v w x:=bN2 hv hw
def ax9{x:It}(hv:SV h v x)(hw:E2 h (i5 w)):bC4 156 v w x:=bA2 hv hw cE9 rfl L4
def dw3{x:Sh}:A6.enc h cs x->∃d e b a,cs=d++([e]:List Value)++([b]:List Value)++([a]:List Value)/\A6.enc h d x.p/\R h e x.l/\R h b x.lo/\R h a x.hi:=by
 rintro⟨c,k,l,m,rfl,f,g,i,j⟩;exact⟨c,k,l,m,dP,f,g,i,j⟩
def At.sh{x:Sh}(y:At h a x):∃e c b,R h e x.l/\R h c x.lo/\R h b x.hi/\At h a x.p/\LW h (λw=>V6 prog w 157 (a.add 2) e/\V6 prog w 45 (a.add 3) c/\V6 prog w 45 (a.add 4) b)/\SW h (λS=>X4 prog S 157 (a.add 2) e/\X4 prog S 45 (a.add 3) c/\X4 prog S 45 (a.add 4) b):=by
 obtain⟨cs,z,g⟩:=y;obtain⟨v,e,c,b,rfl,p,r,n,l⟩:=dw3 z;obtain⟨s,t,rfl⟩:=dS1 (A6.len p);exact⟨_,_,_,r,n,l,bD0 g p (λj u i=>by
  match j,i with
  | 0,i=>exact i
  | 1,i=>exact i
  | m+2,i=>simp at i),λw k=>⟨B1 g (o:=2) rfl bt3 w k,B1 g (o:=3) rfl aj0 w k,B1 g (o:=4) rfl aj0 w k⟩,λS A q k=>⟨sdE q λf d=>B1 g (o:=2) rfl bt3 f (k f d),sdE q λf d=>B1 g (o:=3) rfl aj0 f (k f d),sdE q λf d=>B1 g (o:=4) rfl aj0 f (k f d)⟩⟩
end
def aM4(c:UInt8):Bool:=decide (97<=c.toNat)&&decide (c.toNat<=122)
def bZ8(c:UInt8):Bool:=decide (48<=c.toNat)&&decide (c.toNat<=57)
def aj7(c:UInt8):Bool:=aM4 c||bZ8 c
def cF4:List B3:=[ofA #[103,108,111,98,97,108],ofA #[112,114,111,99],ofA #[118,97,114],ofA #[114,101,102],ofA #[105,102],ofA #[101,108,115,101],ofA #[119,104,105,108,101],ofA #[98,114,101,97,107],ofA #[99,111,110,116,105,110,117,101],ofA #[114,101,116,117,114,110],ofA #[103,111,116,111],ofA #[114,101,97,100],ofA #[112,114,105,110,116]]
def cu1(s:B3):Bool:=cF4.contains s
def V0(s:B3):Bool:=match s.b with
 | []=>false
 | c::l=>decide (l.length<8)&&aM4 c&&l.all aj7 && !cu1 s
def ak3(l:List B3):Bool:=l.all V0
def aI6(op:Int):Int:=if op=1\/op=2 then 0 else if op=3\/op=4 then 1 else if 5<=op/\op<=17 then 2 else -1
def ah3:Nat->Ex->Bool
 | 0,_=>false
 | n+1,x=>if(x.kids.length:Int)≠aI6 x.op then false
   else if x.op=1 then decide (0<=x.n)&&decide (x.name=e0)
   else if x.op=2 then decide (x.n=0)&&V0 x.name
   else if x.n≠0\/x.name≠e0 then false
   else x.kids.all (ah3 n)
def dj9(x:Ex):Bool:=decide (x.op=0)&&decide (x.n=0)&&decide (x.name=e0)&&decide (x.kids.length=0)
def ae3(s:B3)(b:Bool):Bool:=(b&&V0 s)||(!b&&decide (s=e0))
def ar3(x:Ex)(b:Bool):Bool:=(b&&ah3 20 x)||(!b&&dj9 x)
def aW3(l:List Ar):Bool:=l.all λa=>ae3 a.name a.ref&&ar3 a.x (!a.ref)
structure Fl where
 name:Bool
 proc:Bool
 x:Bool
 has:Bool
 thn:Bool
 els:Bool
def ad3(s:St):Option Fl:=
 if s.kind=1 then some ⟨true,false,true,s.has,false,false⟩
 else if s.kind=2\/s.kind=10 then some ⟨true,false,false,s.has,false,false⟩
 else if s.kind=3 then some ⟨false,false,true,s.has,false,false⟩
 else if s.kind=4 then some ⟨decide (s.name≠e0),true,false,s.has,false,false⟩
 else if s.kind=5 then some ⟨false,false,true,s.has,true,true⟩
 else if s.kind=6 then some ⟨false,false,true,s.has,true,false⟩
 else if s.kind=9 then some ⟨false,false,s.has,false,false,false⟩
 else if s.kind=7\/s.kind=8 then some ⟨false,false,false,s.has,false,false⟩
 else none
def aa8(s:St):Bool:=match ad3 s with
 | none=>false
 | some k=>!(k.has||(!k.thn&&decide (0<s.thn.length))||(!k.els&&decide (0<s.els.length))||(!decide (s.kind=4)&&decide (0<s.args.length))) &&
   ae3 s.name k.name&&ae3 s.proc k.proc&&ar3 s.x k.x&&aW3 s.args
def L3:Nat->List St->Int->Option Int
 | 0,l,n=>if l.length=0 then some n else none
 | d+1,l,n=>l.foldlM (λn s=>if n+1>200\/s.id≠n+1\/ak3 s.labels=false\/aa8 s=false then none else(L3 d s.thn (n+1)).bind λm=>L3 d s.els m) n
def Z9(f:Pr)(n:Int):Option Int:=
 if f.params.length>8\/f.vars.length>16\/V0 f.name=false\/ak3 f.vars=false\/ak3 f.fin=false\/(f.params.all λa=>V0 a.name)=false then none else L3 12 f.body n
def O6(p:Pg):Bool:=decide (p.globals.length<=16)&&decide (p.procs.length<=16)&&ak3 p.globals&&(p.procs.foldlM (λn f=>Z9 f n) 0).isSome
mutual
def ar6:Ex->List B3->List B3
 | .mk op _ name kids,out=>ax3 kids (if op=2/\out.contains name=false then out++[name]else out)
def ax3:List Ex->List B3->List B3
 | [],out=>out
 | x::xs,out=>ax3 xs (ar6 x out)
end
def ak4(x:Ex):List B3:=if ah3 20 x then ar6 x []else[]
mutual
def ae8:St->Nat
 | .mk _ _ _ _ _ _ _ _ thn els=>1+B2 thn+B2 els
def B2:List St->Nat
 | []=>0
 | t::l=>ae8 t+B2 l
end
def aC7(t:St):ae8 t=1+B2 t.thn+B2 t.els:=by
 cases t;simp only[ae8,St.thn,St.els]
def bV8(t:St):0<ae8 t:=by rw[aC7];omega
def bc4:∀(l m:List St),B2 (l++m)=B2 l+B2 m
 | [],m=>by simp[B2]
 | s::l,m=>by rw[eu8,B2,B2,bc4 l m];omega
def X7:∀(l:List St),l.length<=B2 l
 | []=>dP
 | s::l=>by have:=X7 l;have:=bV8 s;rw[B2,em1];omega
def wtT(s:B3):Nat:=1+s.b.length
def aK3:List B3->Nat
 | []=>0
 | s::l=>wtT s+aK3 l
mutual
def aa3:Ex->Nat
 | .mk _ _ name kids=>wtT name+aD7 kids
def aD7:List Ex->Nat
 | []=>0
 | x::l=>aa3 x+aD7 l
end
def av6(a:Ar):Nat:=aa3 a.x+wtT a.name
def aj1:List Ar->Nat
 | []=>0
 | a::l=>av6 a+aj1 l
mutual
def V7:St->Nat
 | .mk _ _ labels name proc x _ args thn els=>aa3 x+aK3 labels+wtT name+wtT proc+aj1 args+K0 thn+K0 els
def K0:List St->Nat
 | []=>0
 | x::l=>V7 x+K0 l
end
def bM4:List Pa->Nat
 | []=>0
 | a::l=>wtT a.name+bM4 l
def ad1(f:Pr):Nat:=wtT f.name+aK3 f.vars+aK3 f.fin+bM4 f.params+K0 f.body
def aQ1:List Pr->Nat
 | []=>0
 | f::l=>ad1 f+aQ1 l
def C4(p:Pg):Nat:=aK3 p.globals+aQ1 p.procs
def ac0:∀(l:List B3),l.length<=aK3 l
 | []=>by simp[aK3]
 | s::l=>by have:=ac0 l;simp only[aK3,wtT,em1];omega
def aV3(x:Ex):1<=aa3 x:=by cases x;simp only[aa3,wtT];omega
def bX3:∀(l:List Ex),l.length<=aD7 l
 | []=>by simp[aD7]
 | s::l=>by have:=bX3 l;have:=aV3 s;simp only[aD7,em1];omega
def bu4:∀{l:List Ex} {s:Ex},s∈l->aa3 s<=aD7 l
 | t::l,s,h=>by
  simp only[aD7];rcases ek9.1 h with rfl|h
  .omega
  .have:=bu4 h;omega
def cf9(x:Ex):aa3 x=wtT x.name+aD7 x.kids:=by cases x;simp only[aa3,Ex.name,Ex.kids]
def az3:∀(l:List Ar),l.length<=aj1 l
 | []=>by simp[aj1]
 | s::l=>by have:=az3 l;have:=aV3 s.x;simp only[aj1,av6,em1];omega
def aY7:∀{l:List Ar} {s:Ar},s∈l->av6 s<=aj1 l
 | t::l,s,h=>by
  simp only[aj1];rcases ek9.1 h with rfl|h
  .omega
  .have:=aY7 h;omega
def X3(s:St):V7 s=aa3 s.x+aK3 s.labels+wtT s.name+wtT s.proc+aj1 s.args+K0 s.thn+K0 s.els:=by
 cases s;simp only[V7,St.x,St.labels,St.name,St.proc,St.args,St.thn,St.els]
def cu3(s:St):3<=V7 s:=by rw[X3];have:=aV3 s.x;simp only[wtT];omega
def bX8:∀(l:List St),3*l.length<=K0 l
 | []=>by simp[K0]
 | s::l=>by have:=bX8 l;have:=cu3 s;simp only[K0,em1];omega
def ar5:∀{l:List St} {s:St},s∈l->V7 s<=K0 l
 | t::l,s,h=>by
  simp only[K0];rcases ek9.1 h with rfl|h
  .omega
  .have:=ar5 h;omega
def ar4:∀(l:List Pa),l.length<=bM4 l
 | []=>by simp[bM4]
 | s::l=>by have:=ar4 l;simp only[bM4,wtT,em1];omega
def am6:∀(l:List Pr),l.length<=aQ1 l
 | []=>by simp[aQ1]
 | s::l=>by have:=am6 l;simp only[aQ1,ad1,wtT,em1];omega
def az4:∀{l:List Pr} {s:Pr},s∈l->ad1 s<=aQ1 l
 | t::l,s,h=>by
  simp only[aQ1];rcases ek9.1 h with rfl|h
  .omega
  .have:=az4 h;omega
mutual
def bX7:∀(s:St),3*ae8 s<=V7 s
 | .mk _ _ labels name proc x _ args thn els=>by
  have a:=aD8 thn;have b:=aD8 els;have c:=aV3 x;simp only[ae8,V7,wtT];omega
def aD8:∀(l:List St),3*B2 l<=K0 l
 | []=>by simp[B2,K0]
 | s::l=>by
  have a:=bX7 s;have b:=aD8 l;simp only[B2,K0];omega
end
def ev6:=@Bool.or_true
def ev5:=@Bool.true_or
def ek1:=@Nat.zero_le
def eo4:=@decide_eq_decide
def zJ{a b:Prop}(x:a)(y:b):a/\b:=⟨x,y⟩
def n8:=zJ (zJ (zJ (zJ (zJ (zJ @bB8 @dZ2) (zJ @dY5 (zJ @dO7 @dY8))) (zJ (zJ @dY9 @dY6) (zJ @dY7 (zJ @ec7 @ec3)))) (zJ (zJ (zJ @dW3 @ec4) (zJ @ec5 (zJ @dP9 @dN4))) (zJ (zJ @dQ0 @dQ1) (zJ @eb0 (zJ @ea9 @dZ4))))) (zJ (zJ (zJ (zJ @ed0 @eh0) (zJ @dO5 (zJ @eb9 @dO6))) (zJ (zJ @ec0 @ef5) (zJ @eh4 (zJ @dy8 @dU2)))) (zJ (zJ (zJ @dy9 @dU3) (zJ @dU4 (zJ @dK1 @dE0))) (zJ (zJ @dD9 @dU1) (zJ @ef7 (zJ @ef6 @dK0)))))) (zJ (zJ (zJ (zJ (zJ @ef9 @ef8) (zJ @eb7 (zJ @ds9 @dT1))) (zJ (zJ @ef0 @dy5) (zJ @dO4 (zJ @dJ6 @ee4)))) (zJ (zJ (zJ @ef1 @dO3) (zJ @eb6 (zJ @dT4 @eb5))) (zJ (zJ @ev.eq_1 @ev.eq_2) (zJ @ev.eq_3 (zJ @ev.eq_4 @C5.eq_1))))) (zJ (zJ (zJ (zJ @C5.eq_2 @eg9) (zJ @ef2 (zJ @eg0 @eg1))) (zJ (zJ @List.map_cons.{0,0} @List.map_nil.{0,0}) (zJ @List.map_toArray.{0,0} (zJ @ch4.eq_1 @ch4.eq_2)))) (zJ (zJ (zJ @dI2 @ea6) (zJ @ea7 (zJ @df7.eq_1 @List.getElem?_toArray.{0}))) (zJ (zJ @List.getElem?_cons_zero.{0} (zJ @List.getElem?_cons_succ.{0} @Option.bind_some.{0,0})) (zJ @Option.some.injEq.{0} (zJ @ep8 @Bool.true_eq_false))))))
def n9:=zJ (zJ (zJ (zJ (zJ @dT2 (zJ @dS9 @dQ9)) (zJ @Option.map_some.{0,0} (zJ @Option.map_none.{0,0} @Int.toNat_zero))) (zJ (zJ @Option.isNone_none.{0} (zJ @Option.isNone_some.{0} @M8)) (zJ @ca6.eq_1 (zJ @ca6.eq_2 @dv2.eq_1)))) (zJ (zJ (zJ @bv1.eq_1 (zJ @bv1.eq_2 @dj0.eq_1)) (zJ @di7.eq_1 (zJ @TY @Option.isSome_some.{0}))) (zJ (zJ @eq4 (zJ @Bool.and_true @es6)) (zJ @el5 (zJ @ee1 @Int.cast_ofNat_Int))))) (zJ (zJ (zJ (zJ @decide_true (zJ @add_lit @en0)) (zJ @Nat.zero_mul (zJ @Nat.one_mul @Bool.not_true))) (zJ (zJ @Bool.not_false (zJ @ee2 @dS0)) (zJ @ea1 (zJ @ea0 @dZ9)))) (zJ (zJ (zJ @dZ8 (zJ @dZ7 @ea4)) (zJ @dZ5 (zJ @ea5 @dP8))) (zJ (zJ @dP7 (zJ @dZ6 @ea3)) (zJ (zJ @cG6 @du5) (zJ @ea2 @eg8)))))
def eS:=zJ @n8 @n9
def bH4(c:UInt8)(w:World):y5 prog 183 #[.int .u8 c.toNat] w λu d=>(u = .bool (aM4 c)/\d=w):=by
 refine z6 [.int .u8 c.toNat] func183 rfl ?_;unfold aM4;have a:decide ((97:Int)<=(c.toNat:Int))=decide (97<=c.toNat):=eo4.2 om;have b:decide ((c.toNat:Int)<=(122:Int))=decide (c.toNat<=122):=eo4.2 om;cases hb:decide (97<=c.toNat)
 .simp only[eS,simprocAttr,a,hb];exact o8 results183 ⟨rfl,rfl⟩
 .simp only[eS,simprocAttr,a,b,hb];refine o8 results183 ?_;simp only[B8,simprocAttr];exact⟨dP,tt⟩
def cR0(c:UInt8)(w:World):y5 prog 246 #[.int .u8 c.toNat] w λu d=>(u = .bool (bZ8 c)/\d=w):=by
 refine z6 [.int .u8 c.toNat] func246 rfl ?_;unfold bZ8;have a:decide ((48:Int)<=(c.toNat:Int))=decide (48<=c.toNat):=eo4.2 om;have b:decide ((c.toNat:Int)<=(57:Int))=decide (c.toNat<=57):=eo4.2 om;cases hb:decide (48<=c.toNat)
 .simp only[eS,simprocAttr,a,hb];exact o8 results246 ⟨rfl,rfl⟩
 .simp only[eS,simprocAttr,a,b,hb];refine o8 results246 ?_;simp only[B8,simprocAttr];exact⟨dP,tt⟩
def da5(s:B3)(w:World):y5 prog 185 #[t8 s] w λu o=>(u = .bool (cu1 s)/\o=w):=by
 refine z6 [t8 s] func185 rfl ?_;have a:cu1 s=cF4.any λx=>decide (s=x):=by
  unfold cu1;rw[<-List.any_beq]
  congr 1
 simp only[cF4,List.any_cons,List.any_nil]at a;simp only[eS,simprocAttr];refine A8 (λf=>?_) (λf=>?_)
 .simp only[n8,simprocAttr,f];refine o8 results185 ?_;simp only[B8,simprocAttr];exact⟨by rw[a];simp only[f,ev5],tt⟩
 simp only[eS,simprocAttr];refine A8 (λg=>?_) (λg=>?_)
 .simp only[n8,simprocAttr,g];refine o8 results185 ?_;simp only[B8,simprocAttr];exact⟨by rw[a];simp only[g,ev5,ev6],tt⟩
 simp only[eS,simprocAttr];refine A8 (λh=>?_) (λh=>?_)
 .simp only[n8,simprocAttr,h];refine o8 results185 ?_;simp only[B8,simprocAttr];exact⟨by rw[a];simp only[h,ev5,ev6],tt⟩
 simp only[eS,simprocAttr];refine A8 (λi=>?_) (λi=>?_)
 .simp only[n8,simprocAttr,i];refine o8 results185 ?_;simp only[B8,simprocAttr];exact⟨by rw[a];simp only[i,ev5,ev6],tt⟩
 simp only[eS,simprocAttr];refine A8 (λj=>?_) (λj=>?_)
 .simp only[n8,simprocAttr,j];refine o8 results185 ?_;simp only[B8,simprocAttr];exact⟨by rw[a];simp only[j,ev5,ev6],tt⟩
 simp only[eS,simprocAttr];refine A8 (λk=>?_) (λk=>?_)
 .simp only[n8,simprocAttr,k];refine o8 results185 ?_;simp only[B8,simprocAttr];exact⟨by rw[a];simp only[k,ev5,ev6],tt⟩
 simp only[eS,simprocAttr];refine A8 (λl=>?_) (λl=>?_)
 .simp only[n8,simprocAttr,l];refine o8 results185 ?_;simp only[B8,simprocAttr];exact⟨by rw[a];simp only[l,ev5,ev6],tt⟩
 simp only[eS,simprocAttr];refine A8 (λm=>?_) (λm=>?_)
 .simp only[n8,simprocAttr,m];refine o8 results185 ?_;simp only[B8,simprocAttr];exact⟨by rw[a];simp only[m,ev5,ev6],tt⟩
 simp only[eS,simprocAttr];refine A8 (λn=>?_) (λn=>?_)
 .simp only[n8,simprocAttr,n];refine o8 results185 ?_;simp only[B8,simprocAttr];exact⟨by rw[a];simp only[n,ev5,ev6],tt⟩
 simp only[eS,simprocAttr];refine A8 (λb=>?_) (λb=>?_)
 .simp only[n8,simprocAttr,b];refine o8 results185 ?_;simp only[B8,simprocAttr];exact⟨by rw[a];simp only[b,ev5,ev6],tt⟩
 simp only[eS,simprocAttr];refine A8 (λc=>?_) (λc=>?_)
 .simp only[n8,simprocAttr,c];refine o8 results185 ?_;simp only[B8,simprocAttr];exact⟨by rw[a];simp only[c,ev5,ev6],tt⟩
 simp only[eS,simprocAttr];refine A8 (λd=>?_) (λd=>?_)
 .simp only[n8,simprocAttr,d];refine o8 results185 ?_;simp only[B8,simprocAttr];exact⟨by rw[a];simp only[d,ev5,ev6],tt⟩
 simp only[eS,simprocAttr];refine A8 (λe=>?_) (λe=>?_)
 .simp only[n8,simprocAttr];refine o8 results185 ?_;simp only[B8,simprocAttr];exact⟨by rw[a];simp only[e,ev5,ev6],tt⟩
 .simp only[n8,simprocAttr];refine o8 results185 ?_;simp only[B8,simprocAttr];exact⟨by rw[a];simp only[f,g,h,i,j,k,l,m,n,b,c,d,e,Bool.or_false],tt⟩
def dv3{s:B3}{k:Nat}(a:k<s.b.length):∃c,chr s k=some c/\s.b.take (k+1)=s.b.take k++[c]/\c∈s.b:=
 ⟨_,ej0 a,ej8 a,ek0 a⟩
def dz6(s:B3)(w:World)(q:s.b.length<=1000000):y5 prog 184 #[t8 s,.int .i64 0] w λu h=>(∃k:Nat,u = .int .i64 k/\decide (k=s.b.length)=s.b.all aj7/\h=w):=by
 refine z6 [t8 s,.int .i64 0] func184 rfl ?_;simp only[eS,simprocAttr];refine A9 [0] (σ:=Nat) (λk f h=>f 1 = .int .i64 k/\k<=s.b.length/\(s.b.take k).all aj7=true/\h=w) (λk=>s.b.length-k) 0 ?_ ?_
 .exact⟨rfl,ek1 _,dP,rfl⟩
 .rintro k f h ⟨i,_⟩ ⟨b,p,a,rfl⟩;by_cases hlt:k<s.b.length
  .have j:decide ((k:Int)<(s.b.length:Nat))=true:=by simpa using hlt
   obtain⟨c,o,g,e⟩:=dv3 hlt;have d:=dD0 (P:=prog) (t:=9) (k:=.i64) dM4 dW7 o;simp only[eS,simprocAttr,i,b,j,d];refine y4 (bH4 c _) ?_;rintro u r ⟨rfl,rfl⟩;cases hlet:aM4 c
   .simp only[n8,simprocAttr,i,b,d];refine y4 (cR0 c _) ?_;rintro u v ⟨rfl,rfl⟩;cases hdig:bZ8 c
    .simp only[n8,simprocAttr,b];refine o8 results184 ⟨k,rfl,?_,rfl⟩;have m:s.b.all aj7=false:=by
      rw[et8];intro n;have:=eq9.1 n c e;simp[aj7,hlet,hdig]at this
     rw[m];simp;omega
    .simp only[eS,simprocAttr,b];refine V1 (k+1) ⟨?_,tt⟩;rw[g,List.all_append,a];simp[aj7,hdig]
   .simp only[eS,simprocAttr,b];refine V1 (k+1) ⟨?_,tt⟩;rw[g,List.all_append,a];simp[aj7,hlet]
  .have j:decide ((k:Int)<(s.b.length:Nat))=false:=by simpa using hlt
   have l:k=s.b.length:=om
   simp only[eS,simprocAttr,i,b,j];refine o8 results184 ⟨k,rfl,?_,rfl⟩;subst l;rw[ek4]at a;rw[a];simp
def aR3(s:B3)(w:World):y5 prog 115 #[t8 s] w λu n=>(u = .bool (V0 s)/\n=w):=by
 refine z6 [t8 s] func115 rfl ?_;cases hs:s.b with
 | nil=>
  have g:s.b.length=0:=by rw[hs];rfl
  have e:decide (((s.b.length:Nat):Int)<1)=true:=by rw[g];rfl
  simp only[eS,simprocAttr,e];refine o8 results115 ?_;simp only[B8,simprocAttr];exact⟨by rw[V0,hs],tt⟩
 | cons c l=>
  have g:s.b.length=l.length+1:=by rw[hs];rfl
  have b:V0 s=(decide (l.length<8)&&aM4 c&&l.all aj7 && !cu1 s):=by rw[V0,hs]
  have d:s.b.all aj7=(aj7 c&&l.all aj7):=by rw[hs];rfl
  have e:decide (((s.b.length:Nat):Int)<1)=false:=by rw[g];simp;omega
  have m:chr s 0=some c:=by unfold chr;rw[hs];rfl
  have f:aB1 prog 9 (t8 s) (.int .i64 0)=some (.int .u8 (c.toNat:Int)):=dD0 (k:=.i64) (i:=0) dM4 dW7 m;cases h2:decide ((8:Int)<((s.b.length:Nat):Int))
  .have h:l.length<8:=by simp at h2;omega
   simp only[eS,simprocAttr,e,h2,f];refine y4 (bH4 c _) ?_;rintro u o ⟨rfl,rfl⟩;cases hlet:aM4 c
   .simp only[eS,simprocAttr];refine o8 results115 ?_;simp only[B8,simprocAttr];exact⟨by rw[b,hlet];simp,tt⟩
   .simp only[eS,simprocAttr];refine y4 (dz6 s _ om) ?_;rintro u p ⟨k,rfl,j,rfl⟩;have a:decide ((k:Int)=((s.b.length:Nat):Int))=l.all aj7:=by
     rw[d,show aj7 c=true by simp[aj7,hlet],eq4]at j;rw[<-j];exact eo4.2 om
    cases ha:l.all aj7
    .rw[ha]at a;simp only[eS,simprocAttr,a];refine o8 results115 ?_;simp only[B8,simprocAttr];exact⟨by rw[b,ha];simp,tt⟩
    .rw[ha]at a;simp only[eS,simprocAttr,a];refine y4 (da5 s _) ?_;rintro u q ⟨rfl,rfl⟩;simp only[eS,simprocAttr];refine o8 results115 ?_;simp only[B8,simprocAttr];exact⟨by rw[b,ha,hlet];simp[h],tt⟩
  .simp only[eS,simprocAttr,e,h2];refine o8 results115 ?_;simp only[B8,simprocAttr];exact⟨by rw[b,show decide (l.length<8)=false by simp at h2 ⊢;omega];rfl,tt⟩
def eu6:=@List.sum_cons
def D7:=zJ (zJ (zJ (zJ @dZ3 @ec9) (zJ @eb4 @dO2)) (zJ (zJ @dJ4 @ee3) (zJ @ds7 @dS8))) (zJ (zJ (zJ @ee9 @dy3) (zJ @dO1 @eb3)) (zJ (zJ @dT0 @eb2) (zJ @List.drop_succ_cons.{0} @List.drop_zero.{0})))
def fe:=zJ @D7 @n8
def aS4(l:List St){k:Nat}(a:k<l.length):B2 (l.take (k+1))=B2 (l.take k)+ae8 l[k]:=by
 rw[ej8 a,bc4];simp[B2]
def aA6(l:List St)(k:Nat):B2 (l.take k)<=B2 l:=by
 have:=bc4 (l.take k) (l.drop k);rw[en4]at this;omega
def bK0:∀(m:Nat) (t:St) (v:Value) (w:World),ae8 t<=m->SV (i5 w) v t->V7 t<=1000000->y5 prog 250 #[v] w λu C=>(u = .int .i64 (ae8 t:Nat)/\o6 w C)
 | 0,t,v,w,hsm,_,_=>absurd (bV8 t) om
 | m+1,t,v,w,hsm,hv,hwt=>by
  refine z6 [v] func250 rfl ?_;obtain⟨a,Q,K,hx,W⟩:=ax0 hv (n7 _);obtain⟨vl,va,vt,ve,hl,Z,F,E,S,T,sd⟩:=W.st;have J:=E.isS;have N:=E.vlen;have aa:=bX7 t;have L:=aC7 t;have ab:=X3 t;have X:=X7 t.thn;have Y:=X7 t.els;simp only[eS,simprocAttr,K,T Q (n7 _),F.isS,F.vlen];refine A9 [1,9,10] (σ:=Nat) (λk f C=>f 11 = .int .i64 k/\k<=t.thn.length/\f 3 = .int .i64 ((1+B2 (t.thn.take k):Nat):Int)/\o6 Q C) (λk=>t.thn.length-k) 0 ?_ ?_
  .simp only[B8,simprocAttr];exact⟨tt,ek1 _,by simp[B2],p6.refl _⟩
  .rintro k f U ⟨R,V,G,_⟩ ⟨h,M,j,c⟩;simp only[eS,simprocAttr,h,G];refine A3 (λd=>?_) ?_
   .have o:=F.inS d;obtain⟨sv,g,e⟩:=H1 (P:=prog) (t:=113) F (b7 c) (ej0 d) be4 be7 aO3 af3;rw[af3]at e;have r:=aS4 t.thn d;have B:=aA6 t.thn (k+1);have x:=ar5 (ek0 d);generalize t.thn[k]=s at g r x;obtain⟨b,wz,D,l,q,y,n⟩:=bm8 (g.mono (b7 c)) (n7 _);obtain⟨O,p,A,_⟩:=n.st_v;simp only[n8,n9,A0,simprocAttr,h,V,o,e,l,q,A D (n7 _),j];refine B6 (bK0 m s O D om p om) (λw4 z=>?_);simp only[eS,simprocAttr,h];exact V1 (k+1) ⟨by rw[M7 _ om];congr 1;omega,c.trans (y.trans z)⟩
   .rintro rfl;rw[ek4]at j;simp only[eS,simprocAttr,R,T U (b7 c),J,N];refine A9 [1,21,22] (σ:=Nat) (λk f C=>f 23 = .int .i64 k/\k<=t.els.length/\f 3 = .int .i64 ((1+B2 t.thn+B2 (t.els.take k):Nat):Int)/\o6 Q C) (λk=>t.els.length-k) 0 ?_ ?_
    .simp only[B8,simprocAttr];exact⟨tt,ek1 _,by simp[B2,j],c⟩
    .rintro k f U ⟨R,H,I,_⟩ ⟨i,M,j,c⟩;simp only[eS,simprocAttr,i,I];refine A3 (λd=>?_) ?_
     .have o:=E.inS d;obtain⟨sv,g,e⟩:=H1 (P:=prog) (t:=113) E (b7 c) (ej0 d) be4 be7 aO3 af3;rw[af3]at e;have r:=aS4 t.els d;have B:=aA6 t.els (k+1);have x:=ar5 (ek0 d);generalize t.els[k]=s at g r x;obtain⟨b,wz,D,l,q,y,n⟩:=bm8 (g.mono (b7 c)) (n7 _);obtain⟨O,p,A,_⟩:=n.st_v;simp only[n8,n9,A0,simprocAttr,i,H,o,e,l,q,A D (n7 _),j];refine B6 (bK0 m s O D om p om) (λw4 z=>?_);simp only[eS,simprocAttr,i];exact V1 (k+1) ⟨by rw[M7 _ om];congr 1;omega,c.trans (y.trans z)⟩
     .rintro rfl;rw[ek4]at j;simp only[n8,simprocAttr,j];refine o8 results250 ?_;simp only[B8,simprocAttr];exact⟨by rw[L],hx.trans c⟩
def bz8(p:Pg):Nat:=(p.procs.map λf=>B2 f.body).sum
def bA9:∀(l:List Pr),3*(l.map λf=>B2 f.body).sum<=aQ1 l
 | []=>by simp[aQ1]
 | f::l=>by
  have a:=bA9 l;have b:=aD8 f.body;simp only[en8,eu6,aQ1,ad1];omega
def cm4(x:B3):List B3->List B3
 | []=>[x]
 | y::l=>if ltS y x then y::cm4 x l else x::y::l
def Y5:List B3->List B3
 | []=>[]
 | x::l=>cm4 x (Y5 l)
def N4{α:Type}[DecidableEq α]:List α->List α
 | []=>[]
 | [x]=>[x]
 | x::y::l=>if x=y then N4 (y::l)else x::N4 (y::l)
def F2(l:List B3):List B3:=N4 (Y5 l)
mutual
def ac7:St->Nat->Int->Int->Int->Int->List It
 | .mk id kind labels name proc x has args thn els,k,pr,up,nx,lp=>
  let me:Int:=k+1
  let nx':=if kind=6 then me else nx
  let lp':=if kind=6 then me else lp
  let a:=E5 thn (k+1) pr me nx' lp'
  ⟨.mk id kind labels name proc x has args thn els,pr,up,nx,lp⟩::(a++E5 els (k+1+a.length) pr me nx' lp')
def E5:List St->Nat->Int->Int->Int->Int->List It
 | [],_,_,_,_,_=>[]
 | t::l,k,pr,up,nx,lp=>
  let a:=ac7 t k pr up (if l.length=0 then nx else k+1+ae8 t) lp
  a++E5 l (k+a.length) pr up nx lp
end
def H9(s:Sh)(i:Nat)(f:Pr):Sh:=
 let a:=E5 f.body s.l.length i 0 (-1) 0
 ⟨s.p,s.l++a,s.lo++[(s.l.length:Int)+1],s.hi++[(s.l.length:Int)+a.length+1]⟩
def J1(s:Sh):Nat->List Pr->Sh
 | _,[]=>s
 | i,f::l=>J1 (H9 s i f) (i+1) l
def d9(p:Pg):Sh:=J1 ⟨p,[],[],[]⟩ 0 p.procs
def atI(l:List Int)(i:Int):Int:=l.getD i.toNat 0
def Sh.of(s:Sh)(i:Int):List It:=(s.l.take (atI s.hi i-1).toNat).drop (atI s.lo i-1).toNat
def ag3{α:Type}(p:α->Bool):Nat->List α->Int
 | _,[]=>-1
 | i,x::l=>if p x then i else ag3 p (i+1) l
def ai5(a:List Pr)(n:B3):Int:=ag3 (λf=>decide (f.name=n)) 0 a
def Sh.pr(s:Sh)(n:B3):Int:=ai5 s.p.procs n
def cV6:St:=.mk 0 0 [] e0 e0 (.mk 0 0 e0 []) false [] [] []
def ee6:It:=⟨cV6,0,0,0,0⟩
def cc5:Pr:=⟨e0,[],[],[],[]⟩
def Sh.it(s:Sh)(id:Int):It:=s.l.getD (id-1).toNat ee6
def Sh.fn(s:Sh)(i:Int):Pr:=s.p.procs.getD i.toNat cc5
def Sh.first(s:Sh)(i:Int):Int:=if atI s.lo i<atI s.hi i then atI s.lo i else -1
def Sh.at(s:Sh)(i:Int)(a:B3):Option Int:=match(s.of i).find? λit=>it.s.labels.contains a with
 | some it=>some it.s.id
 | none=>if(s.fn i).fin.contains a then some (-1)else none
def N0(a:Ar):List B3:=(if a.ref then[a.name]else[])++ak4 a.x
def M5(t:St):List B3:=(if t.kind≠10/\t.name≠e0 then[t.name]else[])++ak4 t.x++t.args.flatMap N0
def aP5(p:Pg)(f:Pr)(n:B3):Int:=match f.params.find? λa=>decide (a.name=n)with
 | some a=>if a.ref then 3 else 2
 | none=>if f.vars.contains n then 4 else if p.globals.contains n then 1 else 0
def bA0(f:Pr):List B3:=f.params.map (·.name)++f.vars
def ai2(l:List B3):Bool:=!decide l.Nodup
def J0:B3:=ofA #[109,97,105,110]
def ak2(p:Pg)(f:Pr)(a:List B3)(t:St):Bool:=(M5 t).all (λn=>!decide (aP5 p f n=0))&&(!decide (t.kind=4)||(!decide (t.proc=J0)&&a.contains t.proc))
def ag8(p:Pg)(a:List B3)(f:Pr)(l:List It):Option (Int×Int):=
 if ai2 (bA0 f)||(bA0 f).any (λn=>p.globals.contains n)then some (5,0)
 else match l.find? λit=>!ak2 p f a it.s with
  | some it=>some (5,it.s.id)
  | none=>none
def Q6(p:Pg)(s:Sh)(a:List B3):Nat->List Pr->Option (Int×Int)
 | _,[]=>none
 | i,f::l=>match ag8 p a f (s.of i)with
   | some e=>some e
   | none=>Q6 p s a (i+1) l
def Q5(p:Pg):Int×Int:=
 if O6 p=false then(1,0)
 else let procs:=p.procs.map (·.name);let first:=ai5 p.procs J0
  if ai2 p.globals||ai2 procs||decide (first<0)||decide (0<(p.procs.getD first.toNat cc5).params.length)then(5,0)
  else(Q6 p (d9 p) procs 0 p.procs).getD (0,0)
def bJ3(l:List Pa)(a:List Ar):Bool:=decide (l.length=a.length)&&(l.zip a).all λx=>x.1.ref==x.2.ref
def an3(p:Pg)(s:St):Bool:=decide (s.kind=4)&&(match p.procs.find? λf=>decide (f.name=s.proc)with
 | some f=>bJ3 f.params s.args
 | none=>false)
def ah5(p:Pg):Int×Int:=if(Q5 p).1≠0 then(1,0)else match(d9 p).l.find? λit=>decide (it.s.kind=4) && !an3 p it.s with
 | some it=>(6,it.s.id)
 | none=>(0,0)
def aB2:List B3->List B3->Option (List B3)
 | seen,[]=>some seen
 | seen,n::l=>if seen.contains n then none else aB2 (seen++[n]) l
def aB4(s:Sh)(it:It):Bool:=if it.s.kind=7\/it.s.kind=8 then !decide (it.loop=0)else if it.s.kind=10 then(s.at it.proc it.s.name).isSome else true
def aE7(s:Sh):List B3->List It->List B3 ⊕ Int
 | seen,[]=>.inl seen
 | seen,it::l=>match aB2 seen it.s.labels with
   | none=>.inr it.s.id
   | some a=>if aB4 s it then aE7 s a l else .inr it.s.id
def aB3(s:Sh)(f:Pr)(l:List It):Option (Int×Int):=match aE7 s [] l with
 | .inr id=>some (7,id)
 | .inl seen=>match aB2 seen f.fin with
   | none=>some (7,0)
   | some _=>none
def W6(s:Sh):Nat->List Pr->Option (Int×Int)
 | _,[]=>none
 | i,f::l=>match aB3 s f (s.of i)with
   | some e=>some e
   | none=>W6 s (i+1) l
def aP4(p:Pg):Int×Int:=if(Q5 p).1≠0 then(1,0)else(W6 (d9 p) 0 p.procs).getD (0,0)
def an0(s:Sh)(n:B3):List B3:=F2 (((s.of (s.pr n)).filter λit=>decide (it.s.kind=4)).map (·.s.proc))
def W2(a:List B3):List B3->List B3
 | []=>a
 | n::l=>W2 (if a.contains n then a else a++[n]) l
def R8(g:B3->List B3):Nat->Nat->List B3->List B3
 | 0,_,out=>out
 | m+1,i,out=>match out[i]? with
   | none=>out
   | some n=>R8 g m (i+1) (W2 out (g n))
def aH1(s:Sh)(n:B3):List B3:=Y5 (R8 (an0 s) (s.p.procs.length+1) 0 [n])
def aT7(p:Pg)(n:B3):Bool:=decide ((Q5 p).1=0)&&p.procs.any λf=>decide (f.name=n)
def S1(p:Pg)(n:B3):List B3:=if aT7 p n then
  let s:=d9 p
  F2 ((aH1 s n).flatMap λm=>(s.of (s.pr m)).flatMap λit=>(M5 it.s).filter λv=>p.globals.contains v)
 else[]
def ao3(name:B3)(b:List B3):List B3->List Ar->Bool
 | _,[]=>true
 | seen,a::l=>if a.ref then(if seen.contains a.name||decide (a.name=name)||b.contains a.name then false else ao3 name b (seen++[a.name]) l)else ao3 name b seen l
def ao2(s:St)(a:List B3):Bool:=ao3 s.name a [] s.args
def aR6(p:Pg):Int×Int:=if(ah5 p).1≠0 then(1,0)else match(d9 p).l.find? λit=>decide (it.s.kind=4) && !ao2 it.s (S1 p it.s.proc)with
 | some it=>(8,it.s.id)
 | none=>(0,0)
def aS1(p:Pg):Int×Int:=
 if O6 p=false then(1,0)
 else if(Q5 p).1≠0 then Q5 p
 else if(ah5 p).1≠0 then ah5 p
 else if(aP4 p).1≠0 then aP4 p
 else aR6 p
def D4(p:Pg):Bool:=decide ((aS1 p).1=0)
def aB0{α:Type}(p:α->Bool):∀(l:List α) (i k:Nat) (a:k<l.length),(∀j (d:j<k),p (l[j]' om)=false)->p l[k]=true->ag3 p i l=(i+k:Nat)
 | [],i,k,a,_,_=>by simp at a
 | x::l,i,0,a,h1,h2=>by
  have b:p x=true:=h2;rw[ag3,if_pos b];rfl
 | x::l,i,k+1,a,h1,h2=>by
  have c:p x=false:=h1 0 om;rw[ag3,if_neg (by rw[c];simp),aB0 p l (i+1) k (by simpa using a) (λj d=>h1 (j+1) om) h2]
  congr 1;omega
def aI4{α:Type}(p:α->Bool):∀(l:List α) (i:Nat),(∀x∈l,p x=false)->ag3 p i l = -1
 | [],i,_=>rfl
 | x::l,i,h=>by
  rw[ag3,if_neg (by rw[h x dP];simp)];exact aI4 p l (i+1) λy a=>h y (ep3 _ a)
def aI3{α:Type}(p:α->Bool):∀(l:List α) (i:Nat),decide (0<=ag3 p i l)=l.any p
 | [],i=>rfl
 | x::l,i=>by
  rw[ag3,List.any_cons];cases hp:p x
  .rw[if_neg dP,aI3 p l];rfl
  .rw[if_pos rfl];simp
def aT4{α:Type}(p:α->Bool):∀(l:List α) (i:Nat),0<=ag3 p i l->∃k,ag3 p i l=(i+k:Nat)/\∃x,l[k]?=some x/\p x=true
 | [],i,h=>by simp[ag3]at h
 | x::l,i,h=>by
  rw[ag3]at h ⊢;cases hp:p x
  .rw[hp,if_neg dP]at h;rw[if_neg dP];obtain⟨k,a,y,b,c⟩:=aT4 p l (i+1) h;exact⟨k+1,by rw[a];congr 1;omega,y,by simpa using b,c⟩
  .rw[if_pos rfl];exact⟨0,dP,x,rfl,hp⟩
def dV5:G7 prog 157 156 17 240=true:=kr
def dE6:G7 prog 45 3 1 8=true:=kr
structure ShS (h:Hp) (w:World) (gb:Nat) (vg vp vL vLo vHi:Value) (L:List It) (lo hi:List Int):Prop where
 free:h gb=none
 cell:w.heap[gb]?=some (.cells #[vg,vp,vL,vLo,vHi] 159 (0,0))
 oL:B0 h w 156 vL L
 oLo:B0 h w 3 vLo lo
 oHi:B0 h w 3 vHi hi
 d1:∀b,A5 vL b->b≠gb/\¬A5 vLo b/\¬A5 vHi b
 d2:∀b,A5 vLo b->b≠gb/\¬A5 vHi b
 d3:∀b,A5 vHi b->b≠gb
section
variable {h:Hp} {w:World} {gb:Nat} {vg vp vL vLo vHi:Value} {L:List It} {lo hi:List Int}
def ShS.lt(s:ShS h w gb vg vp vL vLo vHi L lo hi):gb<w.heap.size:=(ej4.1 s.cell).1
def ShS.mod{M:Nat->Prop}{a:World}(s:ShS h w gb vg vp vL vLo vHi L lo hi)(hm:p6 M w a)(c:¬M gb)(d:∀b,A5 vL b->¬M b)(e:∀b,A5 vLo b->¬M b)(f:∀b,A5 vHi b->¬M b):ShS h a gb vg vp vL vLo vHi L lo hi:=
 ⟨s.free,(hm.block gb s.lt c).trans s.cell,s.oL.mod hm d,s.oLo.mod hm e,s.oHi.mod hm f,s.d1,s.d2,s.d3⟩
def ShS.ext{a:World}(s:ShS h w gb vg vp vL vLo vHi L lo hi)(b:o6 w a):ShS h a gb vg vp vL vLo vHi L lo hi:=
 s.mod b id (λ_ _=>id) (λ_ _=>id) (λ_ _=>id)
def ShS.setL{i j:World}{c:Value}{l:List It}(s:ShS h w gb vg vp vL vLo vHi L lo hi)(m:p6 (A5 vL) w i)(o:B0 h i 156 c l)(hv:E7 w vL c)
  (g:p6 (λb=>b=gb) i j) (n:j.heap[gb]?=some (.cells #[vg,vp,c,vLo,vHi] 159 (0,0))):ShS h j gb vg vp c vLo vHi l lo hi:=by
 have f:∀b,A5 c b->b≠gb/\¬A5 vLo b/\¬A5 vHi b:=λb a=>by
  rcases hv b a with k|k
  .exact s.d1 b k
  .exact⟨λe=>by have:=s.lt;omega,λe=>by have:=s.oLo.lt e;omega,λe=>by have:=s.oHi.lt e;omega⟩
 refine⟨s.free,n,o.mod g λb a=>(f b a).1,(s.oLo.mod m λb a d=>(s.d1 b d).2.1 a).mod g λb a=>(s.d2 b a).1,(s.oHi.mod m λb a d=>(s.d1 b d).2.2 a).mod g λb a=>s.d3 b a,f,s.d2,s.d3⟩
def ShS.setLo{j l:World}{g:Value}{f:List Int}(s:ShS h w gb vg vp vL vLo vHi L lo hi)(m:p6 (A5 vLo) w j)(o:B0 h j 3 g f)(hv:E7 w vLo g)
  (i:p6 (λb=>b=gb) j l) (n:l.heap[gb]?=some (.cells #[vg,vp,vL,g,vHi] 159 (0,0))):ShS h l gb vg vp vL g vHi L f hi:=by
 have c:∀b,A5 g b->b≠gb/\¬A5 vL b/\¬A5 vHi b:=λb a=>by
  rcases hv b a with k|k
  .exact⟨(s.d2 b k).1,λe=>(s.d1 b e).2.1 k,(s.d2 b k).2⟩
  .exact⟨λe=>by have:=s.lt;omega,λe=>by have:=s.oL.lt e;omega,λe=>by have:=s.oHi.lt e;omega⟩
 refine⟨s.free,n,(s.oL.mod m λb a d=>(s.d1 b a).2.1 d).mod i λb a=>(s.d1 b a).1,o.mod i λb a=>(c b a).1,(s.oHi.mod m λb a d=>(s.d2 b d).2 a).mod i λb a=>s.d3 b a,λb a=>⟨(s.d1 b a).1,λe=>(c b e).2.1 a,(s.d1 b a).2.2⟩,λb a=>⟨(c b a).1,(c b a).2.2⟩,s.d3⟩
def ShS.setHi{j l:World}{g:Value}{f:List Int}(s:ShS h w gb vg vp vL vLo vHi L lo hi)(m:p6 (A5 vHi) w j)(o:B0 h j 3 g f)(hv:E7 w vHi g)
  (i:p6 (λb=>b=gb) j l) (n:l.heap[gb]?=some (.cells #[vg,vp,vL,vLo,g] 159 (0,0))):ShS h l gb vg vp vL vLo g L lo f:=by
 have c:∀b,A5 g b->b≠gb/\¬A5 vL b/\¬A5 vLo b:=λb a=>by
  rcases hv b a with k|k
  .exact⟨s.d3 b k,λe=>(s.d1 b e).2.2 k,λe=>(s.d2 b e).2 k⟩
  .exact⟨λe=>by have:=s.lt;omega,λe=>by have:=s.oL.lt e;omega,λe=>by have:=s.oLo.lt e;omega⟩
 refine⟨s.free,n,(s.oL.mod m λb a d=>(s.d1 b a).2.2 d).mod i λb a=>(s.d1 b a).1,(s.oLo.mod m λb a d=>(s.d2 b a).2 d).mod i λb a=>(s.d2 b a).1,o.mod i λb a=>(c b a).1,λb a=>⟨(s.d1 b a).1,(s.d1 b a).2.1,λe=>(c b e).2.1 a⟩,λb a=>⟨(s.d2 b a).1,λe=>(c b e).2.2 a⟩,λb a=>(c b a).1⟩
end
def ad2(h:Hp)(w:World)(b:Nat)(x:It):Prop:=∃a:List Value,w.heap[b]?=some (.cells (List.toArray a) 156 (0,0))/\A6.enc h a x
section
variable {h:Hp} {w:World} {tb:Nat} {x:It}
def ad2.mod{M:Nat->Prop}{b:World}(f:ad2 h w tb x)(hm:p6 M w b)(d:¬M tb):ad2 h b tb x:=by
 obtain⟨c,a,e⟩:=f;exact⟨c,(hm.block tb (ej4.1 a).1 d).trans a,e⟩
def ad2.lt(b:ad2 h w tb x):tb<w.heap.size:=by
 obtain⟨c,a,d⟩:=b;exact(ej4.1 a).1
def ad2.new{v:Value}(hv:SV h v x):∃tb c b,(Instr.alloc 156 true (.tuple #[])).run prog w = .ok (.pointer (some ⟨tb,0,none⟩)) c/\(Instr.storeAt 156 (.pointer (some ⟨tb,0,none⟩)) v).run prog c = .ok () b/\o6 w b/\w.heap.size<=tb/\ad2 h b tb x:=by
 obtain⟨cs,rfl,a⟩:=hv;obtain⟨d,e⟩:=aI8 (P:=prog) (w:=w) (T:=156) cE9 rfl (cs:=List.toArray cs) (by rw[L4];simpa using(show cs.length=17 from A6.len a)) (by simpa using A6.one a);exact⟨w.heap.size,_,_,d,e,o6.alloc _ _,ek6 _,cs,em9 w _,a⟩
def ad2.ld(m:ad2 h w tb x):∃v,SV h v x/\(∀a,a.heap[tb]?=w.heap[tb]?->(Instr.loadAt 156 (.pointer (some ⟨tb,0,none⟩))).run prog a = .ok v a/\(Instr.loadAt 3 (.pointer (some ⟨tb,15,none⟩))).run prog a = .ok (.int .i64 x.next) a):=by
 obtain⟨b,e,d⟩:=m;refine⟨.agg (List.toArray b),⟨b,rfl,d⟩,λa f=>⟨?_,?_⟩⟩
 .exact af6 (f.trans e) af2 af4 ac9 (by rw[L4];simpa using(show b.length=17 from A6.len d).symm)
 .obtain⟨c,rfl,l⟩:=aW0 d;obtain⟨n,o,p,q,r,s,t,u,y,g,i,j,k,rfl⟩:=bq4 (A6.len l);exact F4 (f.trans e) rfl K1
def ad2.setS{v:Value}{s:St}(m:ad2 h w tb x)(l:SV h v s):∃d,(Instr.storeAt 113 (.pointer (some ⟨tb,0,none⟩)) v).run prog w = .ok () d/\ad2 h d tb ⟨s,x.proc,x.up,x.next,x.loop⟩/\p6 (λb=>b=tb) w d:=by
 obtain⟨cs,i,j⟩:=m;obtain⟨e,rfl,f⟩:=l;obtain⟨c,rfl,k⟩:=aW0 j;have g:c.length=13:=A6.len k;have a:e.length=13:=A6.len f;obtain⟨d,n,p,q⟩:=cG7 (P:=prog) (t:=113) (o:=0) (cs:=e) i (by simp[g,a]) (A6.one f) aO3 (by rw[af3,a]);refine⟨d,n,⟨_,p,?_⟩,q⟩;refine⟨e,?_,f⟩;simp only[et3,er6,en0,a]
 congr 1
 simp only[el9];rw[<-g,List.drop_left];simp
def ad2.setN(n:Int)(m:ad2 h w tb x):∃a,(Instr.storeAt 3 (.pointer (some ⟨tb,15,none⟩)) (.int .i64 n)).run prog w = .ok () a/\ad2 h a tb ⟨x.s,x.proc,x.up,n,x.loop⟩/\p6 (λb=>b=tb) w a:=by
 obtain⟨D,k,l⟩:=m;obtain⟨c,rfl,d⟩:=aW0 l;obtain⟨r,s,u,v,y,z,A,B,C,e,f,g,j,rfl⟩:=bq4 (A6.len d);obtain⟨a,o,p,q⟩:=ad7 (P:=prog) (t:=3) (i:=15) (x:=.int .i64 n) k dP rfl rfl (A4 aG4).choose_spec.1 (by rw[<-F0 (A4 aG4).choose_spec.1];exact bm5);exact⟨a,o,⟨_,p,_,rfl,d⟩,q⟩
def ad2.setLp(n:Int)(m:ad2 h w tb x):∃a,(Instr.storeAt 3 (.pointer (some ⟨tb,16,none⟩)) (.int .i64 n)).run prog w = .ok () a/\ad2 h a tb ⟨x.s,x.proc,x.up,x.next,n⟩/\p6 (λb=>b=tb) w a:=by
 obtain⟨D,k,l⟩:=m;obtain⟨c,rfl,d⟩:=aW0 l;obtain⟨r,s,u,v,y,z,A,B,C,e,f,g,j,rfl⟩:=bq4 (A6.len d);obtain⟨a,o,p,q⟩:=ad7 (P:=prog) (t:=3) (i:=16) (x:=.int .i64 n) k dP rfl rfl (A4 aG4).choose_spec.1 (by rw[<-F0 (A4 aG4).choose_spec.1];exact bm5);exact⟨a,o,⟨_,p,_,rfl,d⟩,q⟩
end
def cj7(h:Hp):A6.enc h [.int .i64 0,.int .i64 0,.slice none 0 0,t8 e0,t8 e0,.int .i64 0,.int .i64 0,t8 e0,.slice none 0 0,.bool false,.slice none 0 0,.slice none 0 0,.slice none 0 0] cV6:=by
 refine ca2.2 ⟨.slice none 0 0,[.int .i64 0,.int .i64 0,t8 e0,.slice none 0 0],.slice none 0 0,.slice none 0 0,.slice none 0 0,rfl,bq6 h,ca1.2 ⟨.slice none 0 0,rfl,bq6 h⟩,bq6 h,bq6 h,bq6 h⟩
def cP4(h:Hp)(a b c d:Int):∃v,C1 prog 156 [(1,.int .i64 a),(2,.int .i64 b),(3,.int .i64 c),(4,.int .i64 d)]=some v/\SV h v (⟨cV6,a,b,c,d⟩:It):=by
 refine⟨_,by simp[C1,do4,K7,Instr.fill,Value.cells];rfl,_,rfl,_,rfl,cj7 h⟩
def cP3(h:Hp)(a c:Int):∃v,C1 prog 156 [(1,.int .i64 a),(3,.int .i64 c)]=some v/\SV h v (⟨cV6,a,0,c,0⟩:It):=by
 refine⟨_,by simp[C1,do4,K7,Instr.fill,Value.cells];rfl,_,rfl,_,rfl,cj7 h⟩
end Go.Proofs.YtpebpfiglfmegaaGreat

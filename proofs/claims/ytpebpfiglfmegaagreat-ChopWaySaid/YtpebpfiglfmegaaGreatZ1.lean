/- What the functions of the program do, for every input; plain facts. No condition, no statement of its own. Part 1. -/
import Derived.Calls
import Derived.IntWalk
import Derived.KernelRfl
import Derived.Laws.AppendOwn
import Derived.Laws.CopyRow
import Derived.Laws.Entries
import Derived.Laws.Sem
import Derived.Laws.Strings
import Derived.MapKept
import Derived.Maps.RangeRun
import Derived.Orders
import Derived.OrdersHeld
import Derived.StillTail
import Derived.Test.YtpebpfiglfmegaaGreatProg
set_option maxRecDepth 1000000
set_option maxHeartbeats 8000000
set_option linter.unusedVariables false
set_option linter.unusedSimpArgs false
set_option linter.unnecessarySimpa false
set_option linter.defProp false
namespace Go.Proofs.YtpebpfiglfmegaaGreat
open Go Tryz List IntKind Region
def fh:=@if_neg
def fi:=@if_pos
def fj:=@absurd
theorem _root_.Go.Proofs.kr{α:Sort _}{a b:α}(h:a=b:=by kernel_rfl):a=b:=h
theorem _root_.Go.Proofs.tT{α:Type _}{o:Option α}{a b:α}(h:o=some a)(e:a=b:=by kernel_rfl):o=some b:=h.trans (congrArg some e)
theorem _root_.Go.Proofs.om{p:Prop}(h:p:=by omega):p:=h
theorem _root_.Go.Proofs.tt{p:Prop}(h:p:=by trivial):p:=h
theorem _root_.Go.Proofs.dG{p:Prop}(h:p:=by simp):p:=h
theorem _root_.Go.Proofs.dR{p:Prop}(h:p:=by decide):p:=h
theorem _root_.Go.Proofs.so{p:Prop}(h:p:=by simp only[];omega):p:=h
def eD5:=@Array.getElem?_eq_some_iff
def eF1:=@Bool.and_eq_true
def eK7:=@Bool.false_eq_true
def eN7:=@Bool.or_eq_true
def eJ1:=@all_eq_true
def eN3:=@getElem?_drop
def eG6:=@length_cons
def eP5:=@mem_of_mem_drop
def eO4:=@Nat.add_assoc
def eE8:=@Nat.le_refl
def eH4:=@Nat.lt_or_ge
def eH1:=@decide_eq_true_eq
def eM4:=@if_false
def eK2:=@if_true
instance:Coe Int Value:=⟨.int .i64⟩
instance:Coe Nat Value:=⟨λk=>.int .i64 k⟩
instance:Coe Bool Value:=⟨.bool⟩
instance:Coe Addr Value:=⟨λa=>.pointer (some a)⟩
instance:Coe Unit Value:=⟨λ_=>.slice none 0 0⟩
abbrev Fr:=Nat->Value
def ap3(a:Act):Fr:=λi=>a.tmps.getD i undef
def C9(f:Fr)(d:Nat)(v:Value):Fr:=λi=>if i=d then v else f i
theorem eA8{f d v i}:C9 f d v i=if i=d then v else f i:=rfl
def G9(f:Fr):Option Nat->Value->Fr
 | some d,v=>C9 f d v
 | none,_=>f
def okd(n:Nat):Option Nat->Bool
 | some d=>decide (d<n)
 | none=>true
def ev(f:Fr):Operand->Value
 | .tmp t=>f t
 | .const v=>v
 | .global g=>.pointer (some ⟨g,0,none⟩)
 | .func g=>.func (.func g) #[] #[]
def co7(a:Act):a.eval=ev (ap3 a):=by
 funext x;cases x<;>rfl
def bv5(a:Act)(d:Option Nat)(v):(a.put d v).tmps.size=a.tmps.size:=by
 cases d<;>simp[Act.put]
def aU6(a:Act)(d:Option Nat)(v):(a.put d v).defers=a.defers:=by
 cases d<;>simp[Act.put]
def br7(a:Act)(d:Option Nat)(v)(h:okd a.tmps.size d=true):ap3 (a.put d v)=G9 (ap3 a) d v:=by
 cases d with
 | none=>rfl
 | some d=>
  have b:d<a.tmps.size:=by simpa[okd]using h
  funext i
  simp only[ap3,Act.put,G9,C9,Array.getD_eq_getD_getElem?,Array.getElem?_setIfInBounds];by_cases hi:i=d
  .subst hi;simp[b]
  .have:¬d=i:=λe=>hi e.symm;simp[hi,this]
def bi9(ops:Array Oper)(f:Fr)(j:Nat):Option Bool:=
 match(ops[j]?).bind (·.dst)with
 | some d=>match f d with
   | .bool b=>some b
   | _=>none
 | none=>none
def aF5(ops)(a:Act):yielded ops a.tmps=bi9 ops (ap3 a):=by
 funext j
 unfold yielded bi9;cases h:(ops[j]?).bind (·.dst)with
 | none=>simp
 | some d=>
  simp only[Option.bind_some,ap3,Array.getD_eq_getD_getElem?];cases h2:a.tmps[d]? with
  | none=>simp[undef]
  | some v=>cases v<;>rfl
def X4(P:Program)(o:Oper)(K:Fr->World->Prop)(f:Fr)(w:World):Prop:=
 match(execOp (ev f) o).run P w with
 | .ok (.value v) w'=>K (G9 f o.dst v) w'
 | .ok .skip w'=>K (G9 f o.dst undef) w'
 | .ok (.enter g args) w'=>Calls P g args w' λe a=>∃v,e = .returned v/\K (G9 f o.dst v) a
 | _=>False
def ax8{P o}{K b:Fr->World->Prop}{f w}(h:∀f w,K f w->b f w)(a:X4 P o K f w):X4 P o b f w:=by
 unfold X4 at *;generalize(execOp (ev f) o).run P w=r at *;cases r with
 | halt x i=>exact a
 | ok n i=>
  cases n
  case value v=>exact h _ _ a
  case skip=>exact h _ _ a
  case enter g args=>exact Calls.mono a λe j ⟨v,c,d⟩=>⟨v,c,h _ _ d⟩
  all_goals exact a
def bX6(P:Program)(S:World->Prop)(o:Oper)(f:Fr)(v:Value):Prop:=
 ∀w,S w->(execOp (ev f) o).run P w = .ok (.value v) w
def lft(n:Nat)(Q:Exit->Fr->World->Prop):Exit->Act->World->Prop:=λe a w=>
 a.tmps.size=n/\a.defers=[]/\Q e (ap3 a) w
def bK4{P}{o:Oper}{K:Fr->World->Prop}{a:Act}{w n}{Q:Exit->Act->World->Prop}
  {i:Act->World->Prop} (hn:a.tmps.size=n) (k:a.defers=[]) (p:okd n o.dst=true)
  (j:∀f b,f.tmps.size=n->f.defers=[]->K (ap3 f) b->i f b) (d:X4 P o K (ap3 a) w):o.wp P a w i Q:=by
 unfold X4 at d;unfold Oper.wp;rw[co7];generalize(execOp (ev (ap3 a)) o).run P w=r at *;have c:∀v b,K (G9 (ap3 a) o.dst v) b->i (a.put o.dst v) b:=λv b h=>
  j _ _ (by rw[bv5];exact hn) (by rw[aU6];exact k) (by rw[br7 _ _ _ (by rw[hn];exact p)];exact h)
 cases r with
 | halt x b=>exact d.elim
 | ok n b=>
  cases n
  case value v=>exact c _ _ d
  case skip=>exact c _ _ d
  case enter g args=>exact Calls.mono d λe q ⟨v,l,m⟩=>by subst l;exact c _ _ m
  all_goals exact d.elim
def Run(P:Program)(ops:Array Oper):List Oper->(Fr->World->Prop)->Fr->World->Prop
 | [],K,f,w=>K f w
 | o::l,K,f,w=>if wanted o (bi9 ops f)then X4 P o (Run P ops l K) f w else Run P ops l K (G9 f o.dst undef) w
def dw6(n:Nat)(ops:Array Oper):Bool:=ops.all λo=>okd n o.dst
def aN2{P ops n}{Q:Exit->Fr->World->Prop}:∀(l:List Oper) (a:Act) (w:World),(∀o∈l,okd n o.dst=true) ->
  a.tmps.size=n->a.defers=[]->Run P ops l (Q .normal) (ap3 a) w->wpList P ops (lft n Q) l a w
 | [],a,w,_,hn,hd,h=>⟨hn,hd,h⟩
 | o::l,a,w,ho,hn,hd,h=>by
  unfold Run at h;unfold wpList;rw[aF5];split
  .rename_i e;rw[fi e]at h;exact .inl (bK4 hn hd (ho o dG) (λg j d c i=>aN2 l g j (λf b=>ho f (by simp[b])) d c i) h)
  .rename_i e;rw[fh e]at h;exact aN2 l _ _ (λf b=>ho f (by simp[b])) (by rw[bv5];exact hn) (by rw[aU6];exact hd)
    (by rw[br7 _ _ _ (by rw[hn];exact ho o dG)];exact h)
def flt:Op->Bool
 | .move _ | .assign _ | .pick .. | .load .. | .nilCheck _ | .binOp .. | .unOp .. | .convert .. | .makeFunc .. | .slice .. | .fieldAddr .. | .field .. | .indexAddr .. | .index .. | .lookup .. | .extract ..=>true
 | .call {callee:=.builtin b,..}=>match b with
   | .len | .cap | .min | .max=>true
   | _=>false
 | _=>false
inductive aY6 where
 | nil
 | op (i:Nat) (r:aY6)
 | fork (rs:List Nat) (k:Nat->aY6)
def aK5(P:Program)(ops:Array Oper)(S:World->Prop):aY6->(Fr->World->Prop)->Fr->World->Prop
 | .nil,K,f,w=>K f w
 | .op i l,K,f,w=>
  match ops[i]? with
  | none=>False
  | some o=>
   if wanted o (bi9 ops f)then
    if flt o.op then ∃v,bX6 P S o f v/\aK5 P ops S l K (G9 f o.dst v) w
    else X4 P o (λb a=>S a/\aK5 P ops S l K b a) f w
   else aK5 P ops S l K (G9 f o.dst undef) w
 | .fork rs k,K,f,w=>∀i∈rs,
   match ops[i]? with
   | none=>False
   | some o=>
    if wanted o (bi9 ops f)then X4 P o (λb a=>S a/\aK5 P ops S (k i) K b a) f w
    else aK5 P ops S (k i) K (G9 f o.dst undef) w
def bu5(ops:Array Oper)(n:Nat):Nat->aY6->Array Bool->Bool
 | 0,.nil,listed=>seqB .any ops (ops.size-n) n listed
 | m+1,.op i l,listed=>decide (i<n)&&(match ops[i]? with
   | none=>false
   | some o=>(if flt o.op then(ready .any ops listed).contains i&&Region.free .any ops listed i else decide (ready .any ops listed=[i]))) &&
  bu5 ops n m l (listed.setIfInBounds i true)
 | m+1,.fork rs k,listed=>decide (ready .any ops listed=rs) && !rs.isEmpty&&rs.all λi=>decide (i<n)&&bu5 ops n m (k i) (listed.setIfInBounds i true)
 | _,_,_=>false
def cG2(ops:Array Oper)(n:Nat)(a:aY6):Bool:=
 noSelect ops&&(decide (n=ops.size)||(decide (n<ops.size)&&sinkB .any ops n&&chainB .any ops n)) &&
 bu5 ops n n a (Array.replicate ops.size false)
section
variable {P:Program} {ops:Array Oper} {Q:Exit->Act->World->Prop} {S:World->Prop}
def bp0(P:Program)(ops:Array Oper)(Q:Exit->Act->World->Prop)(S:World->Prop)(n:Nat):Nat->Array Bool->Act->World->Prop
 | 0,listed,a,w=>ready .any ops listed=[]/\Q .normal a w
 | fuel+1,listed,a,w=>
  (ready .any ops listed=[]->Q .normal a w) /\
  ∀i∈ready .any ops listed,wpOp P ops Q i (λc b=>(i<n->S b)/\bp0 P ops Q S n fuel (listed.setIfInBounds i true) c b) a w
def bZ4{n}:∀(b:Nat) (c:Array Bool) (a:Act) (w:World),bp0 P ops Q S n b c a w->wpAny P .any ops Q b c a w
 | 0,_,_,_,h=>h
 | b+1,_,_,_,h=>⟨h.1,λi f=>wpOp_mono (λd g e=>bZ4 b _ d g e.2) (h.2 i f)⟩
def cu1{n i}{u:Oper}{v}(M:ops[i]?=some u)(q:∀(j:Nat) (o:Oper) z b,ops[j]?=some o->o.op ≠ .select z b)
  (V:∀c a w,Q (.panic c) (a.put u.dst v) w->Q (.panic c) a w) (Y:i<n)
  (R:∀d,HeadInv .any ops n d->d.getD i true=false->∀t,n<=t->t∉ready .any ops d) :
  ∀(f:Nat) (d:Array Bool) (a:Act) (w:World),HeadInv .any ops n d ->
   (∀j x,ops[j]?=some x->j≠i->d.getD j true=false->(∀e∈x.after,binds .any e=true->e.on≠i)->u.apart ops x=true) ->
   i∈ready .any ops d->YieldsIf P ops S u v a->S w ->
   bp0 P ops Q S n f (d.setIfInBounds i true) (a.put u.dst v) w->bp0 P ops Q S n (f+1) d a w:=by
 intro f
 induction f with
 | zero=>
  intro d a w _ _ s K A H;refine⟨λh=>(by rw[h]at s;cases s),λj y=>?_⟩;by_cases hji:j=i
  .subst hji;exact K.wpOp M A ⟨λ_=>A,H⟩
  .have:=ready_mono y hji;rw[H.1]at this;cases this
 | succ f ih=>
  intro d a w F g s K A H;refine⟨λh=>(by rw[h]at s;cases s),λj y=>?_⟩;by_cases hji:j=i
  .subst hji;exact K.wpOp M A ⟨λ_=>A,H⟩
  .have I:=H.2 j (ready_mono y hji);obtain⟨p,x,r,B⟩:=mem_ready.1 y;have m:=(mem_ready.1 s).1;have C:j<n:=by
    rcases eH4 j n with h|h
    .exact h
    .exact fj y (R d F m j h)
   have D:∀e∈x.after,binds .any e=true->e.on≠i:=λe X W L=>by
    have I:=B e X W;rw[L,getD_both m]at I;cases I
   have U:=wpOp_putIf r (g j x r hji p D) (λz b=>q i u z b M) (λz b=>q j x z b r) V K I;have l:∀k G,ops[k]?=some G->k≠i->(d.setIfInBounds j true).getD k true=false ->
     (∀e∈G.after,binds .any e=true->e.on≠i)->u.apart ops G=true:=λk G Z N E O=>by
    refine g k G Z N ?_ O;by_cases hjk:j=k
    .subst hjk;exact p
    .rw[getD_set_ne true hjk]at E;exact E
   refine wpOp_mono (λT w' J=>⟨J.2.1,ih (d.setIfInBounds j true) T w' (F.set y C) l (ready_mono s (Ne.symm hji)) J.1 (J.2.1 C) ?_⟩) U;rw[Array.setIfInBounds_comm _ _ hji];exact J.2.2
def aN3{o:Oper}{i n}{K:Fr->World->Prop}{a:Act}{w}{d:Act->World->Prop}(k:ops[i]?=some o)
  (hn:a.tmps.size=n) (f:a.defers=[]) (g:okd n o.dst=true) (e:∀b j,b.tmps.size=n->b.defers=[]->K (ap3 b) j->d b j)
  (h:if wanted o (bi9 ops (ap3 a))then X4 P o K (ap3 a) w else K (G9 (ap3 a) o.dst undef) w):wpOp P ops Q i d a w:=by
 unfold wpOp;simp only[k];rw[aF5];split
 .rename_i c;rw[fi c]at h;exact .inl (bK4 hn f g e h)
 .rename_i c;rw[fh c]at h;exact e _ _ (by rw[bv5];exact hn) (by rw[aU6];exact f) (by rw[br7 _ _ _ (by rw[hn];exact g)];exact h)
def bk9{n N}{Q:Exit->Fr->World->Prop}:∀(l:List Oper) (k:Nat) (b:Array Bool) (a:Act) (w:World),(∀j,l[j]?=ops[k+j]?)->n<=k ->
  (∀o∈l,okd N o.dst=true)->a.tmps.size=N->a.defers=[] ->
  seqB .any ops l.length k b=true->Run P ops l (Q .normal) (ap3 a) w->bp0 P ops (lft N Q) S n l.length b a w
 | [],_,_,_,_,_,_,_,hn,hd,hB,h=>⟨by simpa[seqB]using hB,hn,hd,h⟩
 | o::l,k,b,a,w,hl,hk,ho,hn,hd,hB,h=>by
  have r:ops[k]?=some o:=by simpa using(hl 0).symm
  simp only[eG6,seqB,eF1,eH1]at hB;refine⟨λg=>(by rw[hB.1]at g;cases g),λi m=>?_⟩;rw[hB.1]at m;have e:i=k:=by simpa using m
  subst e;refine aN3 r hn hd (ho o dG) (K:=Run P ops l (Q .normal)) (λp t f d q=>⟨λh=>om,?_⟩) (by unfold Run at h;exact h);exact bk9 l (i+1) _ p t (λj=>by have:=hl (j+1);simpa[eO4,Nat.add_comm 1 j]using this) om (λs c=>ho s (by simp[c])) f d hB.2 q
def bZ3{n N}{Q:Exit->Fr->World->Prop}(hQ:∀c f w,¬Q (.panic c) f w)(hs:noSelect ops=true)
  (Y:∀i,i<n->∀b,HeadInv .any ops n b->b.getD i true=false->∀t,n<=t->t∉ready .any ops b) (u:∀o∈ops.toList,okd N o.dst=true) :
  ∀(m:Nat) (l:aY6) (b:Array Bool) (a:Act) (w:World),HeadInv .any ops n b->a.tmps.size=N->a.defers=[]->S w->bu5 ops n m l b=true ->
   aK5 P ops S l (Run P ops (ops.toList.drop n) (Q .normal)) (ap3 a) w->bp0 P ops (lft N Q) S n (m+(ops.size-n)) b a w:=by
 have x:∀{i:Nat} {o:Oper},ops[i]?=some o->okd N o.dst=true:=by
  intro i o X;have:=Array.mem_of_getElem? X;exact u o (by simpa using this)
 intro m
 induction m with
 | zero=>
  intro l b a w p D G _ s h;cases l
  case nil=>
   have:=bk9 (S:=S) (n:=n) (N:=N) (Q:=Q) (P:=P) (ops:=ops) (ops.toList.drop n) n b a w (λj=>by simp[eN3]) (eE8 _)
    (λo X=>u o (eP5 X)) D G (by simpa[bu5]using s) h
   simpa using this
  all_goals (simp[bu5]at s)
 | succ m ih=>
  intro l b a w p D G L s h;have e1:m+1+(ops.size-n)=(m+(ops.size-n))+1:=om
  rw[e1];cases l
  case nil=>simp[bu5]at s
  case op i l=>
   simp only[bu5,eF1,eH1]at s;obtain⟨⟨e,d⟩,r⟩:=s;simp only[aK5]at h;cases hoi:ops[i]? with
   | none=>simp[hoi]at h
   | some o=>
    simp only[hoi]at h d;have I:=x hoi;by_cases hf:flt o.op=true
    .simp only[hf,eK2,eF1]at h d;have M:i∈ready .any ops b:=by simpa using d.1
     have y:∀v,YieldsIf P ops S o v a->aK5 P ops S l (Run P ops (ops.toList.drop n) (Q .normal)) (G9 (ap3 a) o.dst v) w ->
       bp0 P ops (lft N Q) S n ((m+(ops.size-n))+1) b a w:=λv hy T=>
      cu1 hoi (noSelect_spec hs) (λc a w hh=>fj hh.2.2 (hQ _ _ _)) e (Y i e) _ b a w p (free_spec hoi d.2) M hy L
       (ih l _ _ w (p.set M e) (by rw[bv5];exact D) (by rw[aU6];exact G) L r (by rw[br7 _ _ _ (by rw[D];exact I)];exact T))
     by_cases g:wanted o (bi9 ops (ap3 a))=true
     .rw[fi g]at h;obtain⟨v,hv,T⟩:=h;refine y v (.inl ⟨by rw[aF5];exact g,λq Z=>?_⟩) T;rw[co7];exact hv q Z
     .rw[fh g]at h;exact y undef (.inr ⟨by rw[aF5];simpa using g,rfl⟩) h
    .simp only[hf,eK7,eM4,eH1]at h d;have M:i∈ready .any ops b:=by rw[d];simp
     refine⟨λE=>(by rw[d]at E;cases E),λj hj=>?_⟩;rw[d]at hj;have V:j=i:=by simpa using hj
     subst V;refine aN3 hoi D G I (K:=λR q=>S q/\aK5 P ops S l (Run P ops (ops.toList.drop n) (Q .normal)) R q) (λO q A B z=>⟨λ_=>z.1,?_⟩) ?_
     .exact ih l _ O q (p.set M e) A B z.1 r z.2
     .split
      .rename_i g;rw[fi g]at h;exact h
      .rename_i g;rw[fh g]at h;exact⟨L,h⟩
  case fork rs k=>
   simp only[bu5,eF1,eH1,eJ1]at s;obtain⟨⟨J,W⟩,F⟩:=s;simp only[aK5]at h;refine⟨λE=>(by rw[J]at E;subst E;simp at W),λi U=>?_⟩;have H:i∈rs:=by rw[J]at U;exact U
   have C:=h i H;obtain⟨e,r⟩:=F i H;cases hoi:ops[i]? with
   | none=>simp[hoi]at C
   | some o=>
    simp only[hoi]at C;refine aN3 hoi D G (x hoi) (K:=λR q=>S q/\aK5 P ops S (k i) (Run P ops (ops.toList.drop n) (Q .normal)) R q) (λO q A B z=>⟨λ_=>z.1,?_⟩) ?_
    .exact ih (k i) _ O q (p.set U e) A B z.1 r z.2
    .split
     .rename_i g;rw[fi g]at C;exact C
     .rename_i g;rw[fh g]at C;exact⟨L,C⟩
def bZ5{id n N}{e:aY6}{Q:Exit->Fr->World->Prop}{a:Act}{w}(hm:P.follows .mixedOrders=true)(C:∀c f w,¬Q (.panic c) f w)
  (k:cG2 ops n e=true) (g:dw6 N ops=true) (D:a.tmps.size=N) (E:a.defers=[]) (hS:S w.drew)
  (h:aK5 P ops S e (Run P ops (ops.toList.drop n) (Q .normal)) (ap3 a) w.drew):(Code.region id ops true).wp P (lft N Q) a w:=by
 simp only[cG2,eF1]at k;obtain⟨⟨H,d⟩,l⟩:=k;have I:n<=ops.size:=by
  simp only[eN7,eH1,eF1]at d;omega
 have m:HeadInv .any ops n (Array.replicate ops.size false):=
  ⟨dG,λj J _ y=>(by rw[getD_replicate_false]at y;cases y),λt _ r=>getD_in (by simpa using r) (getD_replicate_false _ _)⟩
 have s:∀i,i<n->∀b,HeadInv .any ops n b->b.getD i true=false->∀t,n<=t->t∉ready .any ops b:=by
  intro i F b v u t r z;simp only[eN7,eH1,eF1]at d;rcases d with x|⟨⟨x,A⟩,B⟩
  .obtain⟨_,K,q,_⟩:=mem_ready.1 z;have:=(eD5.1 q).1;omega
  .exact tail_waits A B x v _ i rfl F u t r z
 refine wp_region_any hm (bZ4 (S:=S) (n:=n) _ _ _ _ ?_);have p:∀o∈ops.toList,okd N o.dst=true:=by
  intro o G;have:=Array.all_eq_true'.1 g o (by simpa using G);exact this
 have:=bZ3 (S:=S) C H s p n e _ a w.drew m D E hS l h
 rwa [show n+(ops.size-n)=ops.size by omega]at this
end
def eL7:=@getElem?_eq_none
def eI4:=@map_cons
def eJ0:=@Option.isSome_iff_exists
def eJ9:=@Option.map_some
def eF3:=@Option.some.inj
def eO1:=@Option.some.injEq
def eF5:=@Result.andThen_ok
def eG2:=@Sem.run_bind
def eH9:=@Sem.run_pure
def P6(P:Program)(t:TypeId):Option TypeId:=match P.underlying t with
 | some (.slice e)=>some e
 | _=>none
def cs4(P:Program)(t:TypeId):Bool:=match P.underlying t with
 | some .string=>true
 | _=>false
def cm8(P:Program)(t:TypeId):Option (Nat×TypeId):=match P.underlying t with
 | some (.array n e)=>some (n,e)
 | _=>none
def O7(P:Program)(t:TypeId):Nat:=((P.info? t).map (·.size)).getD 0
def I7(P:Program)(t:TypeId):Option Value:=(P.info? t).bind (·.zero)
def dv5(P:Program)(t:TypeId):Nat:=((P.info? t).map (·.bytes)).getD 0
def L7(P:Program)(t:TypeId):Bool:=match P.underlying t with
 | some (.struct _)=>true
 | some (.array _ _)=>true
 | none=>true
 | _=>false
def D8(P:Program)(s:TypeId)(i:Nat):Option (Nat×TypeId):=match P.underlying s with
 | some (.struct fs)=>match fs[i]? with
   | some a=>if O7 P a.type=0 then none else some (a.offset,a.type)
   | none=>none
 | _=>none
def eqT(P:Program)(t:TypeId):Nat:=match P.underlying t with
 | some .bool=>1
 | some (.pointer _)=>2
 | some (.slice _)=>3
 | some (.map _ _)=>4
 | some (.func _ _ _)=>5
 | some (.interface _)=>6
 | _=>0
def dQ2(P:Program)(t:TypeId):Option IntKind:=match P.underlying t with
 | some (.int k)=>some k
 | _=>none
def R5(P:Program)(t:TypeId):Option (Array Value×List (Nat×Nat)):=match(P.info? t).bind (·.zero),P.underlying t with
 | some z,some (.struct fs)=>if fs.toList.all (λa=>(P.info? a.type).isSome)then some (z.cells,fs.toList.map λa=>(a.offset,O7 P a.type))else none
 | some z,some (.array n e)=>if(P.info? e).isSome then some (z.cells,(range n).map λi=>(i*O7 P e,O7 P e))else none
 | _,_=>none
def isS:Value->Bool
 | .slice _ _ _=>true
 | _=>false
def vlen:Value->Nat
 | .slice _ n _=>n
 | _=>0
def cE2:Value->Bool
 | .slice none _ _=>true
 | _=>false
def vcap:Value->Nat
 | .slice _ _ c=>c
 | _=>0
def inS:Value->Nat->Bool
 | .slice (some _) n _,k=>decide (k<n)
 | _,_=>false
def I2:Value->Nat->Addr
 | .slice (some a) _ _,k=>a.add k
 | _,_=>default
def reS(v:Value)(l h sz:Nat):Value:=match v with
 | .slice a _ cap=>.slice (if cap=l then a else a.map (·.add (l*sz))) (h-l) (cap-l)
 | _=>undef
def I6(op:BinOp)(k:IntKind)(a b:Int):Option Value:=match op with
 | .add=>some (.int k (k.wrap (a+b)))
 | .sub=>some (.int k (k.wrap (a-b)))
 | .mul=>some (.int k (k.wrap (a*b)))
 | .quo=>if b=0 then none else some (.int k (k.wrap (a.tdiv b)))
 | .rem=>if b=0 then none else some (.int k (a.tmod b))
 | .eql=>some (.bool (a==b))
 | .neq=>some (.bool (a != b))
 | .lss=>some (.bool (a<b))
 | .leq=>some (.bool (a<=b))
 | .gtr=>some (.bool (a>b))
 | .geq=>some (.bool (a≥b))
 | .and=>some (.int k (k.wrap (BitVec.ofInt k.bits a &&& BitVec.ofInt k.bits b).toNat))
 | .or=>some (.int k (k.wrap (BitVec.ofInt k.bits a ||| BitVec.ofInt k.bits b).toNat))
 | .xor=>some (.int k (k.wrap (BitVec.ofInt k.bits a ^^^ BitVec.ofInt k.bits b).toNat))
 | .andNot=>some (.int k (k.wrap (BitVec.ofInt k.bits a &&& ~~~BitVec.ofInt k.bits b).toNat))
 | _=>none
def E2(P:Program)(op:BinOp)(t:TypeId):Value->Value->Option Value
 | .int k a,.int k' b=>match op with
   | .shl=>if b<0 then none else some (.int k (k.wrap (a*2 ^ (min b.toNat k.bits))))
   | .shr=>if b<0 then none else some (.int k (a.fdiv (2 ^ (min b.toNat k.bits))))
   | _=>if k=k' then I6 op k a b else none
 | .string a,.string b=>match op with
   | .eql=>some (a.toList==b.toList)
   | .neq=>some (.bool !(a.toList==b.toList))
   | .lss=>some (Op.bytesLess a.toList b.toList)
   | .leq=>some (Op.bytesLess a.toList b.toList||a.toList==b.toList)
   | .gtr=>some (.bool !(Op.bytesLess a.toList b.toList||a.toList==b.toList))
   | .geq=>some (.bool !(Op.bytesLess a.toList b.toList))
   | .add=>if((a.size+b.size:Nat):Int)>IntKind.i64.max then none else some (.string (a++b))
   | _=>none
 | .bool a,.bool b=>match op with
   | .eql=>if eqT P t=1 then some (.bool (a==b))else none
   | .neq=>if eqT P t=1 then some (.bool !(a==b))else none
   | _=>none
 | .pointer a,.pointer none=>match op with
   | .eql=>if eqT P t=2 then some a.isNone else none
   | .neq=>if eqT P t=2 then some (.bool !a.isNone)else none
   | _=>none
 | a,()=>match op with
   | .eql=>if isS a&&eqT P t==3 then some (cE2 a)else none
   | .neq=>if isS a&&eqT P t==3 then some (.bool !(cE2 a))else none
   | _=>none
 | _,_=>none
def unV(op:UnOp):Value->Option Value
 | .bool b=>match op with
   | .not=>some (.bool !b)
   | _=>none
 | .int k n=>match op with
   | .neg=>some (.int k (k.wrap (0-n)))
   | _=>none
 | _=>none
def co8(P:Program)(s:TypeId)(i:Nat):Value->Option Value
 | .pointer (some a)=>match D8 P s i with
   | some (o,_)=>some (.pointer (some (a.add o)))
   | none=>none
 | _=>none
def cF3(P:Program)(t:TypeId)(cs:Array Value)(o:Nat):Option Value:=
 if L7 P t then(if(P.info? t).isSome&&(P.underlying t).isSome then some (.agg (cs.extract o (o+O7 P t)))else none)else cs[o]?
def bA8(P:Program)(s:TypeId)(i:Nat):Value->Option Value
 | .agg cs=>match D8 P s i with
   | some (o,t)=>cF3 P t cs o
   | none=>none
 | _=>none
def A6(P:Program)(t:TypeId)(x:Value):Value->Option Value
 | .int _ n=>match P6 P t with
   | some e=>if(P.info? e).isSome&&decide (0<=n)&&inS x n.toNat then some (I2 x (n.toNat*O7 P e))else none
   | none=>match cm8 P t,x with
     | some (len,e),.pointer (some a)=>if(P.info? e).isSome&&decide (0<=n)&&decide (n<len)then some (.pointer (some (a.add (n.toNat*O7 P e))))else none
     | _,_=>none
 | _=>none
def aC3(P:Program)(t:TypeId)(x:Value):Value->Option Value
 | .int _ n=>match cm8 P t,x with
   | some (len,e),.agg cs=>if(P.info? e).isSome&&decide (0<=n)&&decide (n<len)then cF3 P e cs (n.toNat*O7 P e)else none
   | none,.string s=>if cs4 P t&&decide (0<=n)then(s[n.toNat]?).map λb=>.int .u8 b.toNat else none
   | _,_=>none
 | _=>none
def G7(P:Program)(t:TypeId)(x:Value)(b a:Option Value):Option Value:=
 match(match b with|none=>some 0|some (.int _ n)=>some n|_=>none:Option Int),
  (match a with|none=>some ((if isS x then vlen x else match x with | .string s=>s.size|_=>0:Nat):Int)|some (.int _ n)=>some n|_=>none:Option Int)with
 | some l,some h=>match P6 P t with
   | some e=>if(P.info? e).isSome&&isS x&&decide (0<=l)&&decide (l<=h)&&decide (h<=vcap x)then some (reS x l.toNat h.toNat (O7 P e))else none
   | none=>match x with
     | .string s=>if cs4 P t&&decide (0<=l)&&decide (l<=h)&&decide (h<=s.size)then some (.string (s.extract l.toNat h.toNat))else none
     | _=>none
 | _,_=>none
def ad8(P:Program)(t:TypeId)(x:Value):Option Value:=
 if(P6 P t).isSome then(if isS x then some (vlen x)else none)
 else match x with
  | .string s=>if cs4 P t then some s.size else none
  | _=>match cm8 P t with
    | some (n,_)=>some n
    | none=>none
def dN8(P:Program)(t:TypeId)(x:Value):Option Value:=
 if(P6 P t).isSome&&isS x then some (vcap x)else none
def bG1(P:Program)(s d:TypeId):Value->Option Value
 | .int _ n=>match dQ2 P d with
   | some k=>if(P.underlying s).isSome then some (.int k (k.wrap n))else none
   | none=>none
 | _=>none
def M2(a:List (Nat×Nat))(cs:Array Value)(parts:List (Nat×Value)):Option (Array Value):=Instr.fill (λi=>a[i]?) cs parts
def D0(P:Program)(t:TypeId)(parts:List (Nat×Value)):Option Value:=
 match R5 P t with
 | some (z,pl)=>(M2 pl z parts).map .agg
 | none=>none
def dC1:Value->Value->Option Value
 | .int k x,.int _ y=>some (.int k (if y<x then y else x))
 | _,_=>none
def dB8:Value->Value->Option Value
 | .int k x,.int _ y=>some (.int k (if y>x then y else x))
 | _,_=>none
def aJ2(P:Program)(f:Fr):Op->Option Value
 | .move x=>some (ev f x)
 | .assign x=>some (ev f x)
 | .pick c a b=>match ev f c with
   | .bool t=>some (if t then ev f a else ev f b)
   | _=>none
 | .binOp op t x y _=>E2 P op t (ev f x) (ev f y)
 | .unOp op _ x=>unV op (ev f x)
 | .fieldAddr s x i=>co8 P s i (ev f x)
 | .field s x i=>bA8 P s i (ev f x)
 | .indexAddr t x i=>A6 P t (ev f x) (ev f i)
 | .index t x i=>aC3 P t (ev f x) (ev f i)
 | .slice t x lo hi none=>G7 P t (ev f x) (lo.map (ev f)) (hi.map (ev f))
 | .extract x i=>match ev f x with
   | .tuple vs=>vs[i]?
   | _=>none
 | .convert s d x=>bG1 P s d (ev f x)
 | .nilCheck x=>match ev f x with
   | .pointer (some a)=>some (.pointer (some a))
   | _=>none
 | .makeFunc fn first cap=>some (.func fn (first.map (ev f)) (cap.map (ev f)))
 | .build t parts=>D0 P t (parts.toList.map λp=>(p.1,ev f p.2))
 | .call c=>match c.callee with
   | .builtin .len=>match c.args.toList,c.argTypes.toList with
     | [x],[t]=>ad8 P t (ev f x)
     | _,_=>none
   | .builtin .cap=>match c.args.toList,c.argTypes.toList with
     | [x],[t]=>dN8 P t (ev f x)
     | _,_=>none
   | .builtin .min=>match c.args.toList with
     | [x,y]=>dC1 (ev f x) (ev f y)
     | _=>none
   | .builtin .max=>match c.args.toList with
     | [x,y]=>dB8 (ev f x) (ev f y)
     | _=>none
   | _=>none
 | _=>none
section
variable {P:Program}
def J6(t w):(underlying t).run P w=match P.underlying t with
  | some d=>.ok d w
  | none=>.halt (.stuck "no such type") w:=by
 simp only[underlying,program,eG2,Sem.run,eF5];cases P.underlying t<;>rfl
def Q7(t w):(typeInfo t).run P w=match P.info? t with
  | some d=>.ok d w
  | none=>.halt (.stuck "no such type") w:=by
 simp only[typeInfo,program,eG2,Sem.run,eF5];cases P.info? t<;>rfl
def X3{t}(h:(P.info? t).isSome=true)(w):(sizeOf t).run P w = .ok (O7 P t) w:=by
 obtain⟨i,a⟩:=eJ0.1 h;simp[sizeOf,Q7,a,O7]
def al5(t)(h:(P.underlying t).isSome=true)(w):(isAgg t).run P w = .ok (L7 P t) w:=by
 obtain⟨i,a⟩:=eJ0.1 h;unfold isAgg L7;rw[eG2,J6,a];cases i<;>rfl
def bx7{t}(h:L7 P t=false):(P.underlying t).isSome=true:=by
 unfold L7 at h;cases hu:P.underlying t with
 | none=>simp[hu]at h
 | some d=>rfl
def bV9{t cs o v}(h:cF3 P t cs o=some v)(w):(part t cs o).run P w = .ok v w:=by
 unfold cF3 at h;unfold part;by_cases ha:L7 P t=true
 .rw[fi ha]at h;by_cases hi:((P.info? t).isSome&&(P.underlying t).isSome)=true
  .rw[fi hi]at h;simp only[eF1]at hi;obtain rfl:=eF3 h;simp only[eG2,al5 t hi.2,eF5,ha,Sem.run_ite,eK2,X3 hi.1,eH9]
  .rw[fh hi]at h;cases h
 .have a:L7 P t=false:=by simpa using ha
  rw[fh ha]at h;simp only[eG2,al5 t (bx7 a),eF5,a,eK7,eM4,h,eH9]
def bC8{op:BinOp}{t x y a b}(d:a ≠ .nilIface)(e:∀c,a ≠ .agg c)(w):
  (eqGuard op t x y a b).run P w = .ok () w:=by
 unfold eqGuard;cases op<;>first|rfl|(cases a<;>first|rfl|exact fj rfl d|exact fj rfl (e _))
def cL3{op:BinOp}{t x y a b v}(h:E2 P op t a b=some v)(w):
  (do eqGuard op t x y a b;binOp op t a b:Sem Value).run P w = .ok v w:=by
 have k:(eqGuard op t x y a b).run P w = .ok () w:=by
  apply bC8
  .rintro rfl;unfold E2 at h;split at h<;>first
    | (simp_all;done)
    | (split at h<;>simp_all [isS])
  .rintro m rfl;unfold E2 at h;split at h<;>first
    | (simp_all;done)
    | (split at h<;>simp_all [isS])
 rw[eG2,k,eF5];unfold E2 at h;split at h
 .split at h
  .split at h
   .cases h
   .rename_i g;obtain rfl:=eF3 h;simp[binOp,Op.shift,g]
  .split at h
   .cases h
   .rename_i g;obtain rfl:=eF3 h;simp[binOp,Op.shift,g]
  .rename_i o r;split at h
   .rename_i l;subst l;unfold I6 at h;cases op<;>simp only[eO1]at h <;>
     first
     | (subst h;simp[binOp,Op.intArith,Op.intCmp,Op.intBits])
     | (split at h<;>first|(rename_i g;obtain rfl:=eF3 h;simp[binOp,Op.intDiv,g];done)|(cases h;done))
     | (exact fj rfl (by assumption))
     | cases h
   .cases h
 .split at h<;>first
   | (obtain rfl:=eF3 h;simp[binOp,Op.stringOp])
   | (split at h<;>first|(rename_i g;obtain rfl:=eF3 h;simp only[binOp,Op.stringOp];rw[fh g];rfl)|(cases h;done))
   | cases h
 .have f:∀{p q:Bool},eqT P t=1->(Op.equal t (.bool p) (.bool q)).run P w = .ok (p==q) w:=by
   intro p q e;unfold eqT at e;unfold Op.equal Op.maxDepth Op.equalIn;rw[eG2,J6];cases hu:P.underlying t with
   | none=>simp[hu]at e
   | some d=>cases d<;>simp[hu]at e ⊢
  split at h<;>first
   | (split at h
      .rename_i e;obtain rfl:=eF3 h;simp[binOp,f e]
      .cases h)
   | cases h
 .have f:∀{p:Option Addr},eqT P t=2->(Op.equal t (.pointer p) (.pointer none)).run P w = .ok p.isNone w:=by
   intro p e;unfold eqT at e;unfold Op.equal Op.maxDepth Op.equalIn;rw[eG2,J6];cases hu:P.underlying t with
   | none=>simp[hu]at e
   | some d=>cases d<;>simp[hu]at e ⊢<;> (cases p<;>rfl)
  split at h<;>first
   | (split at h
      .rename_i e;obtain rfl:=eF3 h;simp[binOp,f e]
      .cases h)
   | cases h
 .have f:isS a=true->eqT P t=3->(Op.equal t a (.slice none 0 0)).run P w = .ok (cE2 a) w:=by
   intro j e;cases a
   case slice p n c=>
    unfold eqT at e;unfold Op.equal Op.maxDepth Op.equalIn;rw[eG2,J6];cases hu:P.underlying t with
    | none=>simp[hu]at e
    | some d=>cases d<;>simp[hu]at e ⊢<;> (cases p<;>rfl)
   all_goals (simp[isS]at j)
  have i:isS a=true->binOp .eql t a (.slice none 0 0)=(do pure (.bool (<-Op.equal t a (.slice none 0 0))))/\binOp .neq t a (.slice none 0 0)=(do pure (.bool (!(<-Op.equal t a (.slice none 0 0))))):=by
   intro j;cases a
   case slice p n c=>exact⟨rfl,rfl⟩
   all_goals (simp[isS]at j)
  split at h<;>first
   | (split at h
      .rename_i e;simp only[eF1,beq_iff_eq]at e;obtain rfl:=eF3 h
       first|rw[(i e.1).1]|rw[(i e.1).2]
       simp[f e.1 e.2]
      .cases h)
   | cases h
 .cases h
def R7{t e}(h:P6 P t=some e):P.underlying t=some (.slice e):=by
 unfold P6 at h;cases hu:P.underlying t with
 | none=>simp[hu]at h
 | some d=>cases d<;>simp[hu]at h;subst h;rfl
def bz4{t e n}(h:cm8 P t=some (n,e)):P.underlying t=some (.array n e):=by
 unfold cm8 at h;cases hu:P.underlying t with
 | none=>simp[hu]at h
 | some d=>cases d<;>simp[hu]at h;obtain⟨rfl,rfl⟩:=h;rfl
def bi0{t}(h:cs4 P t=true):P.underlying t=some .string:=by
 unfold cs4 at h;cases hu:P.underlying t with
 | none=>simp[hu]at h
 | some d=>cases d<;>simp[hu]at h;rfl
def cT7{t}(h:¬O7 P t=0):(P.info? t).isSome=true:=by
 unfold O7 at h;cases hi:P.info? t with
 | none=>simp[hi]at h
 | some i=>rfl
def bG5{s}{i o t:Nat}(h:D8 P s i=some (o,t)):∃b a,P.underlying s=some (.struct b)/\b[i]?=some a/\¬O7 P t=0/\a.offset=o/\a.type=t:=by
 unfold D8 at h;cases hu:P.underlying s with
 | none=>simp[hu]at h
 | some d=>
  cases d
  case struct b=>
   simp only[hu]at h;cases hf:b[i]? with
   | none=>simp[hf]at h
   | some a=>
    simp only[hf]at h;split at h
    .cases h
    .rename_i c;simp only[eO1,Prod.mk.injEq]at h;obtain⟨rfl,rfl⟩:=h;exact⟨b,a,rfl,hf,c,rfl,rfl⟩
  all_goals simp[hu]at h
def co9{s i:Nat}{x v:Value}(h:co8 P s i x=some v)(w):(Instr.fieldAt s x i).run P w = .ok v w:=by
 unfold co8 at h;split at h
 .split at h
  .rename_i a o t g;obtain⟨k,j,c,d,b,e,f⟩:=bG5 g;obtain rfl:=eF3 h;subst e f;unfold Instr.fieldAt;rw[eG2,J6,c];simp only[eF5,d,eG2,Instr.sureAddr,eH9,Go.fieldPlace,X3 (cT7 b),Sem.run_ite];rw[fh b];rfl
  .cases h
 .cases h
def cN5{s i:Nat}{x v:Value}(h:bA8 P s i x=some v)(w):(Instr.field s x i).run P w = .ok v w:=by
 unfold bA8 at h;split at h
 .split at h
  .rename_i f o t e;obtain⟨j,g,a,b,k,c,d⟩:=bG5 e;subst c d;unfold Instr.field;rw[eG2,J6,a];simp only[eF5,b,eG2,asAgg,eH9,bV9 h]
  .cases h
 .cases h
def dz9{x k}(h:inS x k=true):∃a n c,x = .slice (some a) n c/\k<n:=by
 unfold inS at h;split at h
 .exact⟨_,_,_,rfl,by simpa using h⟩
 .cases h
def cP7{t:Nat}{x i v:Value}(h:A6 P t x i=some v)(w):(Instr.indexAt t x i).run P w = .ok v w:=by
 unfold A6 at h;split at h
 .rename_i k n;split at h
  .rename_i e d;split at h
   .rename_i b;simp only[eF1,eH1]at b;obtain⟨⟨f,o⟩,g⟩:=b;obtain⟨a,m,c,rfl,j⟩:=dz9 g;obtain rfl:=eF3 h;unfold Instr.indexAt;simp only[asIntOf,eG2,eH9,eF5,J6,R7 d];have:0<=n/\n<(m:Int):=om
    simp only[this,and_self,eK2,eG2,X3 f,eF5,eH9,I2]
   .cases h
  .split at h
   .rename_i l e a d;split at h
    .rename_i b;simp only[eF1,eH1]at b;obtain⟨⟨f,o⟩,j⟩:=b;obtain rfl:=eF3 h;unfold Instr.indexAt;simp only[asIntOf,eG2,eH9,eF5,J6,bz4 d,Instr.sureAddr];have:0<=n/\n<(l:Int):=om
     simp only[this,and_self,eK2,eG2,X3 f,eF5,eH9]
    .cases h
   .cases h
 .cases h
def cp6{t:Nat}{x i v:Value}(h:aC3 P t x i=some v)(w):(Instr.index t x i).run P w = .ok v w:=by
 unfold aC3 at h;split at h
 .rename_i k n;split at h
  .rename_i c e m f;split at h
   .rename_i a;simp only[eF1,eH1]at a;obtain⟨⟨g,d⟩,j⟩:=a;unfold Instr.index;simp only[asIntOf,eG2,eH9,eF5,J6,bz4 f];have:0<=n/\n<(c:Int):=om
    simp only[this,and_self,eK2,eG2,X3 g,eF5,bV9 h]
   .cases h
  .rename_i s f;split at h
   .rename_i a;simp only[eF1,eH1]at a;obtain⟨l,d⟩:=a;unfold Instr.index;simp only[asIntOf,eG2,eH9,eF5,J6,bi0 l,d,eK2];cases hb:s[n.toNat]? with
    | none=>simp[hb]at h
    | some b=>
     simp only[hb,eJ9,eO1]at h;subst h;rfl
   .cases h
  .cases h
 .cases h
def cQ0{t x v ty}(h:ad8 P t x=some v)(w):(Builtin.len_ #[t] ty #[x]).run P w = .ok v w:=by
 unfold ad8 at h;split at h
 .rename_i b;obtain⟨e,b⟩:=eJ0.1 b;split at h
  .rename_i d;obtain rfl:=eF3 h;cases x
   case slice a n c=>simp[Builtin.len_,J6,R7 b,vlen,goInt]
   all_goals simp[isS]at d
  .cases h
 .split at h
  .rename_i s;split at h
   .rename_i d;obtain rfl:=eF3 h;simp[Builtin.len_,J6,bi0 d,goInt]
   .cases h
  .rename_i f;split at h
   .rename_i n e b;obtain rfl:=eF3 h;cases x<;>simp[Builtin.len_,J6,bz4 b,goInt]
   .cases h
def cM0{t x v ty}(h:dN8 P t x=some v)(w):(Builtin.cap_ #[t] ty #[x]).run P w = .ok v w:=by
 unfold dN8 at h;split at h
 .rename_i b;simp only[eF1]at b;obtain⟨e,d⟩:=eJ0.1 b.1;obtain rfl:=eF3 h;cases x
  case slice a n c=>simp[Builtin.cap_,J6,R7 d,vcap,goInt]
  all_goals (simp[isS]at b)
 .cases h
def cy1{s d x v}(h:bG1 P s d x=some v)(w):(convert s d x).run P w = .ok v w:=by
 unfold bG1 at h;split at h
 .split at h
  .rename_i k a;split at h
   .rename_i f;obtain rfl:=eF3 h;obtain⟨g,b⟩:=eJ0.1 f;have e:P.underlying d=some (.int k):=by
     unfold dQ2 at a;cases hu:P.underlying d with
     | none=>simp[hu]at a
     | some c=>cases c<;>simp[hu]at a;subst a;rfl
    unfold convert;simp only[eG2,J6,b,e,eF5,Conv.intToInt,eH9]
   .cases h
  .cases h
 .cases h
def cn3{t}{parts:List (Nat×Value)}{v}(h:D0 P t parts=some v)(w):(Instr.build t parts.toArray).run P w = .ok v w:=by
 unfold D0 at h;cases hb:R5 P t with
 | none=>simp[hb]at h
 | some B=>
  obtain⟨z,C⟩:=B;simp only[hb]at h;unfold R5 at hb;have l:∀(g:List Field),(g.all λk=>(P.info? k.type).isSome)=true ->
    (g.mapM (m:=Sem) λf=>do pure (f.offset,<-sizeOf f.type)).run P w = .ok (g.map λk=>(k.offset,O7 P k.type)) w:=by
   intro g
   induction g with
   | nil=>intro _;simp
   | cons f g s=>
    intro a;simp only[all_cons,eF1]at a;simp only[mapM_cons,eG2,X3 a.1,eF5,eH9,s a.2,eI4]
  unfold Instr.build zeroValue;cases hi:P.info? t with
  | none=>simp[hi]at hb
  | some i=>
   cases hz:i.zero with
   | none=>simp[hi,hz]at hb
   | some x=>
    simp only[hi,Option.bind_some,hz]at hb;simp only[eG2,Q7,hi,eF5,hz,eH9,J6];cases hu:P.underlying t with
    | none=>simp[hu]at hb
    | some d=>
     cases d
     case struct g=>
      simp only[hu]at hb;split at hb
      .rename_i a;simp only[eO1,Prod.mk.injEq]at hb;obtain⟨rfl,rfl⟩:=hb;simp only[eF5];rw[Array.mapM_eq_mapM_toList];simp only[eG2,Sem.run_map]
       erw [l _ a]
       simp only[eF5];unfold M2 at h;simp only[getElem?_toArray];cases hf:Instr.fill (λi=>(g.toList.map λk=>(k.offset,O7 P k.type))[i]?) x.cells parts with
       | none=>rw[hf]at h;cases h
       | some j=>
        simp only[hf,eJ9,eO1]at h;subst h;rfl
      .cases hb
     case array n e=>
      simp only[hu]at hb;split at hb
      .rename_i A;simp only[eO1,Prod.mk.injEq]at hb;obtain⟨rfl,rfl⟩:=hb;simp only[eF5,eG2,X3 A];unfold M2 at h;have E6:∀(o:List (Nat×Value)) (p c:Array Value),Instr.fill (λi=>((range n).map λi=>(i*O7 P e,O7 P e))[i]?) p o=some c ->
         Instr.fill (λi=>some (i*O7 P e,O7 P e)) p o=some c:=by
        intro o
        induction o with
        | nil=>intro p c b;exact b
        | cons q o s=>
         intro p c b;obtain⟨u,D⟩:=q;unfold Instr.fill at b ⊢;by_cases hq:u<n
         .have r:((range n).map λi=>(i*O7 P e,O7 P e))[u]?=some (u*O7 P e,O7 P e):=by simp[hq]
          rw[r]at b;simp only at b ⊢;split at b
          .cases b
          .rename_i y;rw[fh y];exact s _ _ b
         .rw[eL7 (by simpa using hq)]at b;cases b
       cases hf:Instr.fill (λi=>((range n).map λi=>(i*O7 P e,O7 P e))[i]?) x.cells parts with
       | none=>rw[hf]at h;cases h
       | some j=>
        simp only[hf,eJ9,eO1]at h;subst h;simp only[E6 _ _ _ hf];rfl
      .cases hb
     all_goals simp[hu]at hb
def cr8{t x v}{m g:Option Value}(h:G7 P t x m g=some v)(w):(Instr.sliceAt t x m g none).run P w = .ok v w:=by
 unfold G7 at h;split at h
 .rename_i l j f b;have i:(∃k,m=some (.int k l))\/m=none/\l=0:=by
   split at f
   .exact .inr ⟨rfl,(eF3 f).symm⟩
   .obtain rfl:=eF3 f;exact .inl ⟨_,rfl⟩
   .cases f
  split at h
  .rename_i e y;split at h
   .rename_i o;simp only[eF1,eH1]at o;obtain⟨⟨⟨⟨r,p⟩,z⟩,A⟩,u⟩:=o;obtain rfl:=eF3 h;have d:(∃k,g=some (.int k j))\/g=none/\j=vlen x:=by
     split at b
     .rw[p,fi rfl]at b;exact .inr ⟨rfl,(eF3 b).symm⟩
     .obtain rfl:=eF3 b;exact .inl ⟨_,rfl⟩
     .cases b
    cases x
    case slice a n c=>
     simp only[vcap]at u;simp only[vlen]at d;have q:(Instr.sliceBounds true n c m g none).run P w = .ok (l.toNat,j.toNat,c) w:=by
      rcases i with⟨k,rfl⟩|⟨rfl,rfl⟩<;>rcases d with⟨B,rfl⟩|⟨rfl,rfl⟩ <;>
       simp only[Instr.sliceBounds,Instr.sliceBound,asIntOf,eG2,eH9,eF5]
      .rw[fi om];simp only[eH9,eF5];rw[fi om];rfl
      .rw[fi om];rfl
      .rw[fi om];rfl
      .rfl
     unfold Instr.sliceAt;simp only[eG2,J6,R7 y,eF5];unfold Instr.slice;simp only[eG2,J6,R7 y,eF5,q,X3 r,eH9,reS]
    all_goals simp[isS]at p
   .cases h
  .split at h
   .rename_i s;split at h
    .rename_i o;simp only[eF1,eH1]at o;obtain⟨⟨⟨p,z⟩,A⟩,u⟩:=o;obtain rfl:=eF3 h;have d:(∃k,g=some (.int k j))\/g=none/\j=s.size:=by
      split at b
      .simp only[isS,eK7,eM4]at b;exact .inr ⟨rfl,(eF3 b).symm⟩
      .obtain rfl:=eF3 b;exact .inl ⟨_,rfl⟩
      .cases b
     have q:(Instr.sliceBounds false s.size s.size m g none).run P w = .ok (l.toNat,j.toNat,s.size) w:=by
      rcases i with⟨k,rfl⟩|⟨rfl,rfl⟩<;>rcases d with⟨B,rfl⟩|⟨rfl,rfl⟩ <;>
       simp only[Instr.sliceBounds,Instr.sliceBound,asIntOf,eG2,eH9,eF5]
      .rw[fi om];simp only[eH9,eF5];rw[fi om];rfl
      .rw[fi om];rfl
      .rw[fi om];rfl
      .rfl
     unfold Instr.sliceAt;simp only[eG2,J6,bi0 p,eF5];unfold Instr.slice;simp only[eG2,J6,bi0 p,eF5,q,eH9,Option.isSome_none,eK7,eM4]
    .cases h
   .cases h
 .cases h
def bc9{f}{o:Oper}{v}(h:aJ2 P f o.op=some v)(w):(execOp (ev f) o).run P w = .ok (.value v) w:=by
 have g:∀{s:Sem Value},s.run P w = .ok v w->(do pure (.value (<-s)):Sem Next).run P w = .ok (.value v) w:=λE=>by
  rw[eG2,E];rfl
 obtain⟨d,op,ty,H,C,I⟩:=o;unfold aJ2 at h;simp only at h;cases op<;>try simp only at h
 case move x=>obtain rfl:=eF3 h;rfl
 case assign x=>obtain rfl:=eF3 h;rfl
 case pick c a b=>
  split at h
  .rename_i t r;obtain rfl:=eF3 h;simp only[execOp,r,asBool,eG2,eH9,eF5]
  .cases h
 case binOp op t x y t2=>exact g (cL3 h w)
 case unOp op t x=>
  apply g;unfold unV at h;split at h
  .rename_i b A;split at h
   .obtain rfl:=eF3 h;simp[A,Op.unary]
   .cases h
  .rename_i k n A;split at h
   .obtain rfl:=eF3 h;simp[A,Op.unary,Op.intArith]
   .cases h
  .cases h
 case fieldAddr s x i=>exact g (co9 h w)
 case field s x i=>exact g (cN5 h w)
 case indexAddr t x i=>exact g (cP7 h w)
 case index t x i=>exact g (cp6 h w)
 case slice t x lo hi mx=>
  cases mx
  case none=>exact g (cr8 h w)
  case some m=>cases h
 case extract x i=>
  apply g;split at h
  .rename_i J F;unfold Instr.extract;simp only[F,h];rfl
  .cases h
 case nilCheck x=>
  split at h
  .rename_i a D;obtain rfl:=eF3 h;simp only[execOp,D,eH9]
  .cases h
 case convert s d' x=>exact g (cy1 h w)
 case makeFunc fn first cap=>obtain rfl:=eF3 h;rfl
 case build t parts=>
  apply g;have:=cn3 h w;have e:(parts.toList.map λp=>(p.1,ev f p.2)).toArray=parts.map λp=>(p.1,ev f p.2):=by
   apply Array.ext';simp
  rw[e]at this;exact this
 case call c=>
  obtain⟨z,args,u⟩:=c;simp only at h;cases z
  case builtin b=>
   cases b<;>try simp only at h
   case len=>
    split at h
    .rename_i x t l r;have j:args=#[x]:=by apply Array.ext';simpa using l
     have q:u=#[t]:=by apply Array.ext';simpa using r
     subst j q;have:=cQ0 (ty:=ty) h w;simp only[execOp,resolve,invoke,builtin,eG2,eH9,eF5];simp only[map_toArray,eI4,map_nil,this,eF5]
    .cases h
   case cap=>
    split at h
    .rename_i x t l r;have j:args=#[x]:=by apply Array.ext';simpa using l
     have q:u=#[t]:=by apply Array.ext';simpa using r
     subst j q;have:=cM0 (ty:=ty) h w;simp only[execOp,resolve,invoke,builtin,eG2,eH9,eF5];simp only[map_toArray,eI4,map_nil,this,eF5]
    .cases h
   case min=>
    split at h
    .rename_i x y l;have j:args=#[x,y]:=by apply Array.ext';simpa using l
     subst j;unfold dC1 at h;split at h
     .rename_i k a G b l B;obtain rfl:=eF3 h;simp[execOp,resolve,invoke,builtin,Builtin.min_,Builtin.min2,l,B]
     .cases h
    .cases h
   case max=>
    split at h
    .rename_i x y l;have j:args=#[x,y]:=by apply Array.ext';simpa using l
     subst j;unfold dB8 at h;split at h
     .rename_i k a G b l B;obtain rfl:=eF3 h;simp[execOp,resolve,invoke,builtin,Builtin.max_,Builtin.max2,l,B]
     .cases h
    .cases h
   all_goals cases h
  all_goals cases h
 all_goals cases h
end
def eH5:=@Nat.zero_add
def bz0(f:Fr)(o:Oper):Option (Sem Value):=match o.op with
 | .load t a=>some (Instr.loadAt t (ev f a))
 | .buildSlice t n parts=>some (Instr.buildSlice t n (parts.map λp=>(p.1,ev f p.2)))
 | .alloc e=>some (Instr.alloc e true (.tuple #[]))
 | .box e x=>some (Instr.box e (ev f x))
 | .makeSlice t l c=>some (Instr.makeSlice t (ev f l) (ev f c))
 | .binOp op t x y _=>some (do eqGuard op t x y (ev f x) (ev f y);binOp op t (ev f x) (ev f y))
 | .convert s d x=>some (convert s d (ev f x))
 | .makeMap t r=>some (Instr.makeMap t (r.map (ev f)))
 | .lookup t x i ok=>some (Instr.lookup t (ev f x) (ev f i) ok)
 | .makeInterface t x=>some (Instr.makeInterface t (ev f x))
 | .call c=>match c.callee with
   | .builtin .append=>some (Builtin.append_ c.argTypes o.type (c.args.map (ev f)))
   | .builtin .copy=>some (Builtin.copy_ c.argTypes o.type (c.args.map (ev f)))
   | .builtin .clear=>some (Builtin.clear_ c.argTypes o.type (c.args.map (ev f)))
   | .builtin .len=>some (Builtin.len_ c.argTypes o.type (c.args.map (ev f)))
   | .builtin .delete=>some (Builtin.delete_ c.argTypes o.type (c.args.map (ev f)))
   | _=>none
 | _=>none
def as8(r:Result Value)(K:Fr->World->Prop)(f:Fr)(d:Option Nat):Prop:=match r with
 | .ok v w=>K (G9 f d v) w
 | _=>False
def bC5(r:Result Unit)(K:Fr->World->Prop)(f:Fr)(d:Option Nat):Prop:=match r with
 | .ok _ w=>K (G9 f d undef) w
 | _=>False
def X8(P:Program)(S:World->Prop)(s:Sem Value)(K:Fr->World->Prop)(f:Fr)(d:Option Nat)(w:World):Prop:=
 ∃v,(∀a,S a->s.run P a = .ok v a)/\K (G9 f d v) w
def F2(S:World->Prop)(K:Fr->World->Prop):Fr->World->Prop:=λf w=>S w/\K f w
def bK7(P:Program)(S:Option (World->Prop))(a:Bool)(s:Sem Value)(K:Fr->World->Prop)(f:Fr)(d:Option Nat)(w:World):Prop:=
 match S with
 | none=>as8 (s.run P w) K f d
 | some S=>if a then X8 P S s K f d w else as8 (s.run P w) (F2 S K) f d
def bj7(S:Option (World->Prop))(K:Fr->World->Prop):Fr->World->Prop:=
 match S with
 | none=>K
 | some S=>F2 S K
def ao4(P:Program)(k:Nat):Bool:=match P.funcs[k]? with
 | some fn=>fn.name != "runtime.NumGoroutine" && fn.body.isSome
 | none=>false
def aN4(P:Program)(k:Nat)(args:List Value)(w:World)(K:Fr->World->Prop)(f:Fr)(d:Option Nat):Prop:=
 (ao4 P k=true/\Calls P k args.toArray w λe a=>∃v,e = .returned v/\K (G9 f d v) a)\/∃v a,(callFunc k args.toArray).run P w = .ok (.value v) a/\K (G9 f d v) a
def al2(P:Program)(S:Option (World->Prop))(o:Oper)(K:Fr->World->Prop)(f:Fr)(w:World):Prop:=
 match bz0 f o with
 | some s=>bK7 P S (flt o.op) s K f o.dst w
 | none=>match o.op with
   | .store t a x=>bC5 ((Instr.storeAt t (ev f a) (ev f x)).run P w) (bj7 S K) f o.dst
   | .mapUpdate t m k x=>bC5 ((Instr.mapUpdate t (ev f m) (ev f k) (ev f x)).run P w) (bj7 S K) f o.dst
   | .insert t m k x=>bC5 ((Instr.mapUpdate t (ev f m) (ev f k) (ev f x)).run P w) (bj7 S K) f o.dst
   | .call c=>match c.callee with
     | .value g=>match ev f g with
       | .func (.func k) first cap=>aN4 P k (first.toList++c.args.toList.map (ev f)++cap.toList) w (bj7 S K) f o.dst
       | _=>False
     | _=>False
   | _=>match S with
     | none=>X4 P o K f w
     | some S=>if flt o.op then ∃v,bX6 P S o f v/\K (G9 f o.dst v) w else X4 P o (λd b=>S b/\K d b) f w
def D1(P:Program)(S:Option (World->Prop))(o:Oper)(K:Fr->World->Prop)(f:Fr)(w:World):Prop:=
 match aJ2 P f o.op with
 | some v=>K (G9 f o.dst v) w
 | none=>al2 P S o K f w
def Rn(P:Program)(ops:Array Oper):List Oper->(Fr->World->Prop)->Fr->World->Prop
 | [],K,f,w=>K f w
 | o::l,K,f,w=>match o.guard with
   | none=>D1 P none o (Rn P ops l K) f w
   | some (j,b)=>if bi9 ops f j=some b then D1 P none o (Rn P ops l K) f w else Rn P ops l K (G9 f o.dst undef) w
def RnF(P:Program)(ops:Array Oper)(S:World->Prop):aY6->(Fr->World->Prop)->Fr->World->Prop
 | .nil,K,f,w=>K f w
 | .op i l,K,f,w=>
  match ops[i]? with
  | none=>False
  | some o=>match o.guard with
    | none=>D1 P (some S) o (RnF P ops S l K) f w
    | some (j,b)=>if bi9 ops f j=some b then D1 P (some S) o (RnF P ops S l K) f w else RnF P ops S l K (G9 f o.dst undef) w
 | .fork rs k,K,f,w=>∀i∈rs,
   match ops[i]? with
   | none=>False
   | some o=>match o.guard with
     | none=>D1 P (some S) o (RnF P ops S (k i) K) f w/\flt o.op=false
     | some (j,b)=>if bi9 ops f j=some b then D1 P (some S) o (RnF P ops S (k i) K) f w/\flt o.op=false else RnF P ops S (k i) K (G9 f o.dst undef) w
section
variable {P:Program}
def dg8{k}{args:List Value}{w}{K:Fr->World->Prop}{f}{d:Option Nat}(h:aN4 P k args w K f d):
  match(callFunc k args.toArray).run P w with
  | .ok (.value v) w'=>K (G9 f d v) w'
  | .ok (.enter g asz) w'=>Calls P g asz w' λe w''=>∃v,e = .returned v/\K (G9 f d v) w''
  | _=>False:=by
 rcases h with⟨hb,h⟩|⟨v,w',hr,h⟩
 .unfold ao4 at hb;cases hf:P.funcs[k]? with
  | none=>simp[hf]at hb
  | some fn=>
   simp only[hf,eF1,bne_iff_ne,ne_eq]at hb;obtain⟨hn,hbd⟩:=hb;have hbn:fn.body.isNone=false:=by cases hx:fn.body<;>simp[hx]at hbd ⊢
   have hne:(fn.name == "runtime.NumGoroutine")=false:=by simpa using hn
   simp only[callFunc,program,eG2,Sem.run,eF5,hf,hne,hbn,eK7,eM4];exact h
 .rw[hr];exact h
def cd3{d:Option Nat}{g}{args:Array Operand}{tys ty}{b:String}{a:Array Edge}{i:Option (Nat×Bool)}{K:Fr->World->Prop}{f w}
  (h:match ev f g with
    | .func (.func k) first cap=>aN4 P k (first.toList++args.toList.map (ev f)++cap.toList) w K f d
    | _=>False):X4 P ⟨d,.call ⟨.value g,args,tys⟩,ty,b,a,i⟩ K f w:=by
 cases hg:ev f g
 case func fn first cap=>
  cases fn
  case func k=>
   simp only[hg]at h;have c:=dg8 h;unfold X4;have e:(execOp (ev f) ⟨d,.call ⟨.value g,args,tys⟩,ty,b,a,i⟩).run P w=(callFunc k (first.toList++args.toList.map (ev f)++cap.toList).toArray).run P w:=by
    simp only[execOp,resolve,hg,Deferred.ofValue,invoke,eG2,eH9,eF5]
    congr 2
    apply Array.ext';simp
   rw[e];generalize(callFunc k (first.toList++args.toList.map (ev f)++cap.toList).toArray).run P w=r at *;cases r with
   | halt x j=>exact c
   | ok n j=>
    cases n
    case value v=>exact c
    case enter g asz=>exact c
    all_goals exact c.elim
  all_goals (simp only[hg]at h)
 all_goals (simp only[hg]at h)
def aG7{o:Oper}{s:Sem Unit}{K:Fr->World->Prop}{f w}(a:execOp (ev f) o=(do s;pure .skip:Sem Next))(h:bC5 (s.run P w) K f o.dst):X4 P o K f w:=by
 unfold X4;rw[a,eG2];unfold bC5 at h;cases hr:s.run P w with
 | ok u b=>rw[hr]at h;exact h
 | halt x b=>rw[hr]at h;exact h.elim
def ap8{o:Oper}{s:Sem Value}{K:Fr->World->Prop}{f w}(a:execOp (ev f) o=(do pure (.value (<-s)):Sem Next))(h:as8 (s.run P w) K f o.dst):X4 P o K f w:=by
 unfold X4;rw[a,eG2];unfold as8 at h;cases hr:s.run P w with
 | ok u b=>rw[hr]at h;exact h
 | halt x b=>rw[hr]at h;exact h.elim
def bx4{o}{K:Fr->World->Prop}{f w}(h:D1 P none o K f w):X4 P o K f w:=by
 unfold D1 at h;cases hp:aJ2 P f o.op with
 | some v=>
  simp only[hp]at h;unfold X4;rw[bc9 hp];exact h
 | none=>
  simp only[hp]at h;obtain⟨d,op,p,j,i,n⟩:=o;unfold al2 bz0 at h;cases op
  case call c=>
   obtain⟨e,args,l⟩:=c;cases e
   case builtin b=>
    cases b
    case append=>exact ap8 rfl h
    case copy=>exact ap8 rfl h
    case clear=>exact ap8 rfl h
    case len=>exact ap8 rfl h
    case delete=>exact ap8 rfl h
    all_goals exact h.elim
   case value g=>exact cd3 h
   case invoke r m=>exact h.elim
  case store t a x=>exact aG7 rfl h
  case mapUpdate t m k x=>exact aG7 rfl h
  case insert t m k x=>exact aG7 rfl h
  all_goals first
   | exact ap8 rfl h
   | exact h
def bx3{S:World->Prop}{o:Oper}{K:Fr->World->Prop}{f w}(h:D1 P (some S) o K f w)(hS:S w):
  if flt o.op then ∃v,bX6 P S o f v/\K (G9 f o.dst v) w else X4 P o (λq i=>S i/\K q i) f w:=by
 unfold D1 at h;cases hp:aJ2 P f o.op with
 | some v=>
  simp only[hp]at h;split
  .exact⟨v,λi _=>bc9 hp i,h⟩
  .unfold X4;rw[bc9 hp];exact⟨hS,h⟩
 | none=>
  simp only[hp]at h;obtain⟨d,op,z,l,j,u⟩:=o;have e:∀{s:Sem Value},(execOp (ev f) ⟨d,op,z,l,j,u⟩)=(do pure (.value (<-s)):Sem Next)->bK7 P (some S) (flt op) s K f d w ->
    if flt op then ∃v,bX6 P S ⟨d,op,z,l,j,u⟩ f v/\K (G9 f d v) w else X4 P ⟨d,op,z,l,j,u⟩ (λq i=>S i/\K q i) f w:=by
   intro s A n;unfold bK7 at n;cases hfl:flt op with
   | true=>
    simp only[hfl,eK2]at n;obtain⟨v,C,B⟩:=n;rw[fi rfl];refine⟨v,λi y=>?_,B⟩;rw[A,eG2,C i y];rfl
   | false=>
    simp only[hfl,eK7,eM4]at n;rw[fh dG];exact ap8 A n
  unfold al2 bz0 at h;cases op
  case call c=>
   obtain⟨p,args,D⟩:=c;cases p
   case builtin b=>
    cases b
    case append=>exact e rfl h
    case copy=>exact e rfl h
    case clear=>exact e rfl h
    case len=>exact e rfl h
    case delete=>exact e rfl h
    all_goals exact h.elim
   case value g=>exact cd3 (K:=F2 S K) h
   case invoke r m=>exact h.elim
  case store t a x=>exact aG7 (K:=F2 S K) rfl h
  case mapUpdate t m k x=>exact aG7 (K:=F2 S K) rfl h
  case insert t m k x=>exact aG7 (K:=F2 S K) rfl h
  all_goals first
   | exact e rfl h
   | exact h
def aN6{ops}{K:Fr->World->Prop}:∀(l:List Oper) (f:Fr) (w:World),Rn P ops l K f w->Run P ops l K f w
 | [],f,w,h=>h
 | o::l,f,w,h=>by
  unfold Rn at h;unfold Run wanted;cases hg:o.guard with
  | none=>
   simp only[hg]at h;simp only[eK2];exact ax8 (aN6 l) (bx4 h)
  | some c=>
   obtain⟨j,b⟩:=c;simp only[hg]at h;simp only[beq_iff_eq];split
   .rename_i a;rw[fi a]at h;exact ax8 (aN6 l) (bx4 h)
   .rename_i a;rw[fh a]at h;exact aN6 l _ _ h
def aF7{ops}{S:World->Prop}{K e:Fr->World->Prop}(b:∀f w,K f w->e f w):∀(l:aY6) (f:Fr) (w:World),aK5 P ops S l K f w->aK5 P ops S l e f w
 | .nil,f,w,h=>b _ _ h
 | .op i l,f,w,h=>by
  unfold aK5 at *;cases ho:ops[i]? with
  | none=>simp[ho]at h
  | some o=>
   simp only[ho]at h ⊢;split
   .rename_i a;rw[fi a]at h;split
    .rename_i d;rw[fi d]at h;obtain⟨v,g,j⟩:=h;exact⟨v,g,aF7 b l _ _ j⟩
    .rename_i d;rw[fh d]at h;exact ax8 (λf w c=>⟨c.1,aF7 b l _ _ c.2⟩) h
   .rename_i a;rw[fh a]at h;exact aF7 b l _ _ h
 | .fork rs k,f,w,h=>by
  unfold aK5 at *;intro i m;have h:=h i m;cases ho:ops[i]? with
  | none=>simp[ho]at h
  | some o=>
   simp only[ho]at h ⊢;split
   .rename_i a;rw[fi a]at h;exact ax8 (λf w c=>⟨c.1,aF7 b (k i) _ _ c.2⟩) h
   .rename_i a;rw[fh a]at h;exact aF7 b (k i) _ _ h
def aq1{ops}{S:World->Prop}{K:Fr->World->Prop}:∀(l:aY6) (f:Fr) (w:World),S w->RnF P ops S l K f w->aK5 P ops S l K f w
 | .nil,f,w,_,h=>h
 | .op i l,f,w,hS,h=>by
  unfold RnF at h;unfold aK5 wanted;cases ho:ops[i]? with
  | none=>simp[ho]at h
  | some o=>
   simp only[ho]at h ⊢;have a:D1 P (some S) o (RnF P ops S l K) f w->(if flt o.op then ∃v,bX6 P S o f v/\aK5 P ops S l K (G9 f o.dst v) w else X4 P o (λn m=>S m/\aK5 P ops S l K n m) f w):=by
    intro p;have c:=bx3 p hS;split
    .rename_i g;rw[fi g]at c;obtain⟨v,r,s⟩:=c;exact⟨v,r,aq1 l _ _ hS s⟩
    .rename_i g;rw[fh g]at c;exact ax8 (λf w e=>⟨e.1,aq1 l _ _ e.1 e.2⟩) c
   cases hg:o.guard with
   | none=>
    simp only[hg]at h;simp only[eK2];exact a h
   | some q=>
    obtain⟨j,b⟩:=q;simp only[hg]at h;simp only[beq_iff_eq];split
    .rename_i d;rw[fi d]at h;exact a h
    .rename_i d;rw[fh d]at h;exact aq1 l _ _ hS h
 | .fork rs k,f,w,hS,h=>by
  unfold RnF at h;unfold aK5 wanted;intro i t;have h:=h i t;cases ho:ops[i]? with
  | none=>simp[ho]at h
  | some o=>
   simp only[ho]at h ⊢;have a:D1 P (some S) o (RnF P ops S (k i) K) f w/\flt o.op=false->X4 P o (λn m=>S m/\aK5 P ops S (k i) K n m) f w:=by
    rintro⟨p,g⟩;have c:=bx3 p hS;rw[fh (by simp[g])]at c;exact ax8 (λf w e=>⟨e.1,aq1 (k i) _ _ e.1 e.2⟩) c
   cases hg:o.guard with
   | none=>
    simp only[hg]at h;simp only[eK2];exact a h
   | some q=>
    obtain⟨j,b⟩:=q;simp only[hg]at h;simp only[beq_iff_eq];split
    .rename_i d;rw[fi d]at h;exact a h
    .rename_i d;rw[fh d]at h;exact aq1 (k i) _ _ hS h
end
def aj9(K:Fr->World->Prop)(Q:Exit->Fr->World->Prop):Exit->Fr->World->Prop
 | .normal,f,w=>K f w
 | e,f,w=>Q e f w
def ai2(id:Nat)(Q:Exit->Fr->World->Prop):Exit->Fr->World->Prop
 | .exit id',f,w=>if id'=id then Q .normal f w else Q (.exit id') f w
 | e,f,w=>Q e f w
def aZ7(v:Value)(A B:Fr->World->Prop)(f:Fr)(w:World):Prop:=
 match v with
 | true=>A f w
 | false=>B f w
 | _=>False
def cv9(B:(Exit->Fr->World->Prop)->Fr->World->Prop)(Q:Exit->Fr->World->Prop)(f:Fr)(w:World):Prop:=
 ∃(c:Type) (I:c->Fr->World->Prop) (m:c->Nat) (h:c),I h f w /\
  ∀s d g,I s d g->B (aj9 (λa b=>∃e,m e<m s/\I e a b) Q) d g
def dr3(P:Program)(ops:Array Oper)(K:Fr->World->Prop)(f:Fr)(w:World):Prop:=
 ∃(S:World->Prop) (n:Nat) (a:aY6),cG2 ops n a=true/\S w.drew/\RnF P ops S a (Rn P ops (ops.toList.drop n) K) f w.drew
def CW(P:Program):Code->(Exit->Fr->World->Prop)->Fr->World->Prop
 | .skip,Q,f,w=>Q .normal f w
 | .seq a b,Q,f,w=>CW P a (aj9 (CW P b Q) Q) f w
 | .cond c a b,Q,f,w=>aZ7 (ev f c) (CW P a Q) (CW P b Q) f w
 | .block id a,Q,f,w=>CW P a (ai2 id Q) f w
 | .loop a,Q,f,w=>cv9 (CW P a) Q f w
 | .region _ ops d,Q,f,w=>if d then dr3 P ops (Q .normal) f w else Rn P ops ops.toList (Q .normal) f w
 | .exit id,Q,f,w=>Q (.exit id) f w
 | .label _,Q,f,w=>Q .normal f w
 | .ret,Q,f,w=>Q .ret f w
 | _,_,_,_=>False
def aH4(N:Nat):Code->Bool
 | .seq a b=>aH4 N a&&aH4 N b
 | .cond _ a b=>aH4 N a&&aH4 N b
 | .block _ a=>aH4 N a
 | .loop a=>aH4 N a
 | .region _ ops _=>dw6 N ops
 | _=>true
def dv8(Q:Exit->Fr->World->Prop):Prop:=∀c f w,¬Q (.panic c) f w
def cd4{K:Fr->World->Prop}{Q:Exit->Fr->World->Prop}(h:dv8 Q):dv8 (aj9 K Q):=λc f w=>h c f w
def cL9{id}{Q:Exit->Fr->World->Prop}(h:dv8 Q):dv8 (ai2 id Q):=λc f w=>h c f w
def cV7{P}{Q:Exit->Act->World->Prop}{a:Act}{w}{c:Code}{σ:Type}(I:σ->Act->World->Prop)(m:σ->Nat)(D:σ)(v:I D a w)
  (p:∀s a w,I s a w->c.wp P (Exit.then (λq r=>∃y,m y<m s/\I y q r) Q) a w):(Code.loop c).wp P Q a w:=by
 intro b k A;have C:∀n s a w,m s=n->I s a w ->
   ∃e q r,Q e q r/\Arrives P (lone (b.at a (.code c :: .inLoop c::k)) A w) b k A e q r:=by
  intro n
  induction n using Nat.strongRecOn with
  | _ n G=>
   intro s a w F E;obtain⟨e,f,g,i,d⟩:=p s a w E b (.inLoop c::k) A;cases e with
   | normal=>
    obtain⟨y,B,j⟩:=i;obtain⟨u,t,z,o,h⟩:=G (m y) (F ▸ B) y f g rfl j;exact⟨u,t,z,o,.of_steps (Steps.trans d (.one step_inLoop)) h⟩
   | exit id=>exact⟨_,f,g,i,.pass (x:=.inLoop c) rfl (λ_ _=>.inl dG) d⟩
   | goto l=>exact⟨_,f,g,i,.pass (x:=.inLoop c) rfl (λ_ _=>.inl dG) d⟩
   | ret=>exact⟨_,f,g,i,.pass (x:=.inLoop c) rfl (λ_ _=>.inl dG) d⟩
   | panic H=>exact⟨_,f,g,i,.pass (x:=.inLoop c) rfl (λ_ _=>.inl dG) d⟩
   | outgrown=>exact⟨_,f,g,i,.pass (x:=.inLoop c) rfl (λ_ _=>.inl dG) d⟩
 obtain⟨e,q,r,i,d⟩:=C _ D a w rfl v;exact⟨e,q,r,i,.of_steps (.one step_loop) d⟩
def dr0{P:Program}{N}(hm:P.follows .mixedOrders=true):∀(c:Code) (Q:Exit->Fr->World->Prop) (a:Act) (w:World),dv8 Q->aH4 N c=true ->
  a.tmps.size=N->a.defers=[]->CW P c Q (ap3 a) w->c.wp P (lft N Q) a w:=by
 intro c
 induction c with
 | skip=>intro Q a w _ _ i g h;exact wp_skip ⟨i,g,h⟩
 | seq x y q r=>
  intro Q a w k b i g h;simp only[aH4,eF1]at b;refine wp_seq (wp_mono (q _ a w (cd4 k) b.1 i g h) ?_);intro e A z j;cases e
  case normal=>exact r _ A z k b.2 j.1 j.2.1 j.2.2
  all_goals exact j
 | cond v x y q r=>
  intro Q a w k b i g h;simp only[aH4,eF1]at b;simp only[CW]at h;unfold aZ7 at h;have H:a.eval v=ev (ap3 a) v:=by rw[co7]
  generalize J:ev (ap3 a) v=u at h;cases u
  case bool t=>
   cases t
   case true=>exact wp_cond_true (by rw[H,J]) (q _ a w k b.1 i g h)
   case false=>exact wp_cond_false (by rw[H,J]) (r _ a w k b.2 i g h)
  all_goals exact h.elim
 | block id x G=>
  intro Q a w k b i g h;refine wp_block (wp_mono (G _ a w (cL9 k) b i g h) ?_);intro e A z j;cases e
  case exit id'=>
   simp only[Exit.inBlock];simp only[lft,ai2]at j;split
   .rename_i p;rw[fi p]at j;exact j
   .rename_i p;rw[fh p]at j;exact j
  all_goals exact j
 | loop x G=>
  intro Q a w k b i g h;obtain⟨σ,I,m,Y,L,U⟩:=h;refine cV7 (λs a w=>a.tmps.size=N/\a.defers=[]/\I s (ap3 a) w) m Y ⟨i,g,L⟩ ?_;rintro s A z ⟨F,E,O⟩;apply wp_mono (G _ A z (cd4 k) b F E (U s _ z O));intro e K Z j;cases e
  case normal=>
   obtain⟨C,M,X,B,D⟩:=j;exact⟨X,B,C,M,D⟩
  all_goals exact j
 | region id V d=>
  intro Q a w k b i g h;cases d
  case false=>
   simp only[CW,eK7,eM4]at h;exact wp_region_list (aN2 _ a w (λo T=>Array.all_eq_true'.1 b o (by simpa using T)) i g (aN6 _ _ _ h))
  case true=>
   simp only[CW,eK2]at h;obtain⟨S,n,W,C,B,D⟩:=h;exact bZ5 hm k C b i g B (aF7 (λf w R=>aN6 _ f w R) _ _ _ (aq1 _ _ _ B D))
 | exit id=>intro Q a w _ _ i g h;exact wp_exit ⟨i,g,h⟩
 | label l=>intro Q a w _ _ i g h;exact wp_label ⟨i,g,h⟩
 | ret=>intro Q a w _ _ i g h;exact wp_ret ⟨i,g,h⟩
 | _=>intro Q a w _ _ _ _ h;exact h.elim
def ea1(args:List Value):Fr:=λi=>args.getD i undef
def cw5:Nat->List Value->Fr
 | _,[]=>λ_=>undef
 | k,v::vs=>C9 (cw5 (k+1) vs) k v
def cW4:∀(a:List Value) (k i:Nat),cw5 k a (k+i)=a.getD i undef
 | [],_,_=>by simp[cw5]
 | v::a,k,0=>by simp[cw5,C9]
 | v::a,k,i+1=>by
  have:=cW4 a (k+1) i;simp only[cw5,C9];rw[fh om,show k+(i+1)=k+1+i by omega,this];simp
def ea2(args:List Value):ea1 args=cw5 0 args:=by
 funext i
 have:=cW4 args 0 i;simp only[eH5]at this;rw[this];rfl
def cS1(P:Program)(w:World)(f:Fr):ResultVar->Value->Prop
 | .tmp t,v=>v=f t
 | .cell a ty,v=>(do loadVar ty (<-asAddr (f a)):Sem Value).run P w = .ok v w
def bV1(P:Program)(w:World)(f:Fr):List ResultVar->List Value->Prop
 | [],[]=>True
 | r::rs,v::vs=>cS1 P w f r v/\bV1 P w f rs vs
 | _,_=>False
def bD7:List Value->Value
 | [v]=>v
 | vs=>.tuple vs.toArray
def aX4(P:Program)(b:Func)(R:Value->World->Prop):Exit->Fr->World->Prop
 | .normal,f,w=>∃a,bV1 P w f b.results.toList a/\R (bD7 a) w
 | .ret,f,w=>∃a,bV1 P w f b.results.toList a/\R (bD7 a) w
 | _,_,_=>False
def bV2{P w}{a:Act}:∀(c:List ResultVar) (d:List Value),bV1 P w (ap3 a) c d ->
  (c.mapM (m:=Sem) fun
   | .tmp t=>pure (a.tmps.getD t undef)
   | .cell x t=>do loadVar t (<-asAddr (a.tmps.getD x undef))).run P w = .ok d w
 | [],[],_=>dG
 | [],_::_,h=>h.elim
 | _::_,[],h=>h.elim
 | r::c,v::d,h=>by
  have e:=bV2 c d h.2;have b:=h.1;cases r with
  | tmp t=>
   simp only[cS1,ap3]at b;subst b;simp only[mapM_cons,eG2,eH9,eF5,e]
  | cell x t=>
   simp only[cS1,ap3]at b;simp only[mapM_cons];rw[eG2,b];simp only[eG2,eH9,eF5,e]
def bI8{P}{b:Func}{w}{a:Act}{vs:List Value}(h:bV1 P w (ap3 a) b.results.toList vs):
  (results b a.tmps).run P w = .ok (bD7 vs) w:=by
 have c:=bV2 _ _ h;unfold results;rw[Array.mapM_eq_mapM_toList];simp only[eG2,Sem.run_map]
 erw [c]
 simp only[eF5,eH9]
 congr 1
 match vs with
 | []=>simp[bD7]
 | [v]=>simp[bD7]
 | v::u::vs=>simp[bD7]
def bF8{P:Program}{k:FuncId}{a:Func}{c}{args:List Value}{w}{R:Value->World->Prop}(hm:P.follows .mixedOrders=true)
  (p:P.funcs[k]?=some a) (hb:a.body=some c) (l:aH4 a.ntmps c=true) (d:args.length<=a.ntmps)
  (h:CW P c (aX4 P a R) (cw5 0 args) w):Calls P k args.toArray w (λe o=>∃v,e = .returned v/\R v o):=by
 rw[<-ea2]at h;apply calls_of_wp p hb;have j:ap3 {tmps:=args.toArray++Array.replicate (a.ntmps-args.toArray.size) undef,defers:=[]}=ea1 args:=by
  funext i
  simp only[ap3,ea1,Array.getD_eq_getD_getElem?,getD_eq_getElem?_getD];by_cases hi:i<args.length
  .rw[Array.getElem?_append_left (by simpa using hi)];simp
  .rw[Array.getElem?_append_right (by simp;omega)];rw[eL7 om];by_cases h2:i-args.length<a.ntmps-args.length
   .simp[h2]
   .simp[h2]
 have:=dr0 (N:=a.ntmps) hm c (aX4 P a R) {tmps:=args.toArray++Array.replicate (a.ntmps-args.toArray.size) undef,defers:=[]} w
  (λc f w q=>q) l (by simp;omega) rfl (by rw[j];exact h)
 apply wp_mono this;intro e s o m;cases e
 case normal=>
  obtain⟨_,g,r,n,b⟩:=m;exact⟨g,_,bI8 n,_,rfl,b⟩
 case ret=>
  obtain⟨_,g,r,n,b⟩:=m;exact⟨g,_,bI8 n,_,rfl,b⟩
 all_goals exact m.2.2.elim
abbrev p7(P:Program)(k:FuncId)(args:Array Value)(w:World)(Q:Value->World->Prop):Prop:=Calls P k args w λe a=>∃v,e = .returned v/\Q v a
def y5{P:Program}{k:FuncId}{a:Func}{c w}{R:Value->World->Prop}(args:List Value)(d:P.funcs[k]?=some a)(hb:a.body=some c)(h:CW P c (aX4 P a R) (cw5 0 args) w)
  (b:aH4 a.ntmps c=true:=by kernel_rfl) (e:Nat.ble args.length a.ntmps=true:=by kernel_rfl) (hm:P.follows .mixedOrders=true:=by kernel_rfl):p7 P k args.toArray w R:=
 bF8 hm d hb b (Nat.le_of_ble_eq_true e) h
def o8{P}{a:Func}{R:Value->World->Prop}{f w}{t:Nat}(h:a.results=#[.tmp t])(b:R (f t) w):aX4 P a R .ret f w:=
 ⟨[f t],by rw[h];exact⟨rfl,trivial⟩,b⟩
def Q0{P}{a:Func}{R:Value->World->Prop}{f w}{t u:Nat}(h:a.results=#[.tmp t,.tmp u])(b:R (.tuple #[f t,f u]) w):aX4 P a R .ret f w:=
 ⟨[f t,f u],by rw[h];exact⟨rfl,rfl,trivial⟩,b⟩
def bw0{P}{a:Func}{R:Value->World->Prop}{f w}(h:a.results=#[])(b:R (.tuple #[]) w):aX4 P a R .normal f w:=
 ⟨[],by rw[h];exact trivial,b⟩
section
variable {P:Program} {Q:Exit->Fr->World->Prop} {f:Fr} {w:World} {K:Fr->World->Prop} {ops:Array Oper} {l:List Oper}
theorem et2:CW P .skip Q f w=Q .normal f w:=rfl
theorem bM9{a b}:CW P (.seq a b) Q f w=CW P a (aj9 (CW P b Q) Q) f w:=rfl
theorem es5{c a b}:CW P (.cond c a b) Q f w=aZ7 (ev f c) (CW P a Q) (CW P b Q) f w:=rfl
theorem ei4{id a}:CW P (.block id a) Q f w=CW P a (ai2 id Q) f w:=rfl
theorem es8{a}:CW P (.loop a) Q f w=cv9 (CW P a) Q f w:=rfl
theorem ew5{id}:CW P (.region id ops false) Q f w=Rn P ops ops.toList (Q .normal) f w:=rfl
theorem es6{id}:CW P (.region id ops true) Q f w=dr3 P ops (Q .normal) f w:=rfl
theorem es7{id}:CW P (.exit id) Q f w=Q (.exit id) f w:=rfl
theorem ew6:CW P .ret Q f w=Q .ret f w:=rfl
theorem ew2:aj9 K Q .normal f w=K f w:=rfl
theorem eq4:aj9 K Q .normal=K:=rfl
theorem ew3:aj9 K Q .ret f w=Q .ret f w:=rfl
theorem ew4{i}:aj9 K Q (.exit i) f w=Q (.exit i) f w:=rfl
theorem ej7{i}:ai2 i Q .normal f w=Q .normal f w:=rfl
theorem eh0{i}:ai2 i Q .normal=Q .normal:=rfl
theorem ej8{i}:ai2 i Q .ret f w=Q .ret f w:=rfl
theorem ej9{i j}:ai2 i Q (.exit j) f w=if j=i then Q .normal f w else Q (.exit j) f w:=rfl
theorem eu9{A B:Fr->World->Prop}:aZ7 true A B f w=A f w:=rfl
theorem eu8{A B:Fr->World->Prop}:aZ7 false A B f w=B f w:=rfl
def B2{A B:Fr->World->Prop}{b}(a:b=true->A f w)(c:b=false->B f w):aZ7 b A B f w:=by
 cases b
 .exact c rfl
 .exact a rfl
def A7{A B:Fr->World->Prop}{k n:Nat}(a:k<n->A f w)(b:k=n->B f w)(E6:k<=n:=by first|assumption|omega):aZ7 (decide ((k:Int)<(n:Int))) A B f w:=
 B2 (λh=>a (by simpa using h)) (λh=>b (by simp at h;omega))
theorem ex0:Rn P ops [] K f w=K f w:=rfl
theorem eB0{d:Option Nat}{op:Op}{ty}{b:String}{a:Array Edge}:
  Rn P ops (⟨d,op,ty,b,a,none⟩::l) K f w=D1 P none ⟨d,op,ty,b,a,none⟩ (Rn P ops l K) f w:=rfl
theorem eB5{d:Option Nat}{op:Op}{ty}{c:String}{a:Array Edge}{j b}:
  Rn P ops (⟨d,op,ty,c,a,some (j,b)⟩::l) K f w =
   if bi9 ops f j=some b then D1 P none ⟨d,op,ty,c,a,none⟩ (Rn P ops l K) f w else Rn P ops l K (G9 f d undef) w:=rfl
theorem ei2{S:Option (World->Prop)}{d:Option Nat}{op:Op}{ty}{b:String}{a:Array Edge}{g:Nat×Bool}:
  D1 P S ⟨d,op,ty,b,a,some g⟩ K f w=D1 P S ⟨d,op,ty,b,a,none⟩ K f w:=rfl
def dy3(ops:Array Oper)(j:Nat):Option Nat:=(ops[j]?).bind (·.dst)
theorem eh7{j}:bi9 ops f j=match dy3 ops j with|some d=>(match f d with | .bool b=>some b|_=>none)|none=>none:=rfl
section
variable {S:World->Prop} {n i:Nat} {r:aY6}
theorem et3:RnF P ops S .nil K f w=K f w:=rfl
theorem ew8:RnF P ops S (.op i r) K f w =
  match ops[i]? with
  | none=>False
  | some o=>match o.guard with
    | none=>D1 P (some S) o (RnF P ops S r K) f w
    | some (j,b)=>if bi9 ops f j=some b then D1 P (some S) o (RnF P ops S r K) f w else RnF P ops S r K (G9 f o.dst undef) w:=rfl
end
section
variable {S:Option (World->Prop)} {d:Option Nat} {ty:TypeId} {pos:String} {aft:Array Edge}
theorem ev8{x}:D1 P S ⟨d,.move x,ty,pos,aft,none⟩ K f w=K (G9 f d (ev f x)) w:=rfl
theorem ei3{x}:D1 P S ⟨d,.assign x,ty,pos,aft,none⟩ K f w=K (G9 f d (ev f x)) w:=rfl
def aU5(v:Option Value)(K:Fr->World->Prop)(f:Fr)(d:Option Nat)(w:World)(D:Prop):Prop:=match v with
 | some v=>K (G9 f d v) w
 | none=>D
theorem ez2{v}{D:Prop}:aU5 (some v) K f d w D=K (G9 f d v) w:=rfl
theorem ew0{v}:as8 (.ok v w) K f d=K (G9 f d v) w:=rfl
theorem ew1{v:Unit}:bC5 (.ok v w) K f d=K (G9 f d undef) w:=rfl
theorem ev9{c a b}:D1 P S ⟨d,.pick c a b,ty,pos,aft,none⟩ K f w =
  aU5 (match ev f c with | .bool t=>some (if t then ev f a else ev f b)|_=>none) K f d w (al2 P S ⟨d,.pick c a b,ty,pos,aft,none⟩ K f w):=rfl
theorem ez4{op:BinOp}{t t2 x y}:D1 P S ⟨d,.binOp op t x y t2,ty,pos,aft,none⟩ K f w =
  aU5 (E2 P op t (ev f x) (ev f y)) K f d w (al2 P S ⟨d,.binOp op t x y t2,ty,pos,aft,none⟩ K f w):=rfl
theorem eB4{op:UnOp}{t x}:D1 P S ⟨d,.unOp op t x,ty,pos,aft,none⟩ K f w =
  aU5 (unV op (ev f x)) K f d w (al2 P S ⟨d,.unOp op t x,ty,pos,aft,none⟩ K f w):=rfl
theorem dR9{s x i}:D1 P S ⟨d,.fieldAddr s x i,ty,pos,aft,none⟩ K f w =
  aU5 (co8 P s i (ev f x)) K f d w (al2 P S ⟨d,.fieldAddr s x i,ty,pos,aft,none⟩ K f w):=rfl
theorem eo2{s x i}:D1 P S ⟨d,.field s x i,ty,pos,aft,none⟩ K f w =
  aU5 (bA8 P s i (ev f x)) K f d w (al2 P S ⟨d,.field s x i,ty,pos,aft,none⟩ K f w):=rfl
theorem dS0{t x i}:D1 P S ⟨d,.indexAddr t x i,ty,pos,aft,none⟩ K f w =
  aU5 (A6 P t (ev f x) (ev f i)) K f d w (al2 P S ⟨d,.indexAddr t x i,ty,pos,aft,none⟩ K f w):=rfl
theorem eo3{t x i}:D1 P S ⟨d,.index t x i,ty,pos,aft,none⟩ K f w =
  aU5 (aC3 P t (ev f x) (ev f i)) K f d w (al2 P S ⟨d,.index t x i,ty,pos,aft,none⟩ K f w):=rfl
theorem eo4{t x}{b a:Option Operand}:D1 P S ⟨d,.slice t x b a none,ty,pos,aft,none⟩ K f w =
  aU5 (G7 P t (ev f x) (b.map (ev f)) (a.map (ev f))) K f d w (al2 P S ⟨d,.slice t x b a none,ty,pos,aft,none⟩ K f w):=rfl
theorem ed7{x i}:D1 P S ⟨d,.extract x i,ty,pos,aft,none⟩ K f w =
  aU5 (match ev f x with | .tuple vs=>vs[i]?|_=>none) K f d w (al2 P S ⟨d,.extract x i,ty,pos,aft,none⟩ K f w):=rfl
theorem dX1{x}:D1 P S ⟨d,.nilCheck x,ty,pos,aft,none⟩ K f w =
  aU5 (match ev f x with | .pointer (some a)=>some a|_=>none) K f d w (al2 P S ⟨d,.nilCheck x,ty,pos,aft,none⟩ K f w):=rfl
theorem dX0{b:Fn}{first a:Array Operand}:D1 P S ⟨d,.makeFunc b first a,ty,pos,aft,none⟩ K f w=K (G9 f d (.func b (first.map (ev f)) (a.map (ev f)))) w:=rfl
theorem eo1{t}{parts:Array (Nat×Operand)}:D1 P S ⟨d,.build t parts,ty,pos,aft,none⟩ K f w =
  aU5 (D0 P t (parts.toList.map λp=>(p.1,ev f p.2))) K f d w (al2 P S ⟨d,.build t parts,ty,pos,aft,none⟩ K f w):=rfl
theorem ez6{x:Operand}{t:TypeId}:D1 P S ⟨d,.call {callee:=.builtin .len,args:=#[x],argTypes:=#[t]},ty,pos,aft,none⟩ K f w =
  aU5 (ad8 P t (ev f x)) K f d w (al2 P S ⟨d,.call {callee:=.builtin .len,args:=#[x],argTypes:=#[t]},ty,pos,aft,none⟩ K f w):=rfl
theorem ez5{x:Operand}{t:TypeId}:D1 P S ⟨d,.call {callee:=.builtin .cap,args:=#[x],argTypes:=#[t]},ty,pos,aft,none⟩ K f w =
  aU5 (dN8 P t (ev f x)) K f d w (al2 P S ⟨d,.call {callee:=.builtin .cap,args:=#[x],argTypes:=#[t]},ty,pos,aft,none⟩ K f w):=rfl
theorem ed6{s t x}:D1 P S ⟨d,.convert s t x,ty,pos,aft,none⟩ K f w =
  aU5 (bG1 P s t (ev f x)) K f d w (al2 P S ⟨d,.convert s t x,ty,pos,aft,none⟩ K f w):=rfl
theorem ez0{D:Prop}:aU5 none K f d w D=D:=rfl
theorem ez8{x y:Operand}{a:Array TypeId}:D1 P S ⟨d,.call {callee:=.builtin .min,args:=#[x,y],argTypes:=a},ty,pos,aft,none⟩ K f w =
  aU5 (dC1 (ev f x) (ev f y)) K f d w (al2 P S ⟨d,.call {callee:=.builtin .min,args:=#[x,y],argTypes:=a},ty,pos,aft,none⟩ K f w):=rfl
theorem ez7{x y:Operand}{a:Array TypeId}:D1 P S ⟨d,.call {callee:=.builtin .max,args:=#[x,y],argTypes:=a},ty,pos,aft,none⟩ K f w =
  aU5 (dB8 (ev f x) (ev f y)) K f d w (al2 P S ⟨d,.call {callee:=.builtin .max,args:=#[x,y],argTypes:=a},ty,pos,aft,none⟩ K f w):=rfl
end
section
variable {d:Option Nat} {ty:TypeId} {pos:String} {aft:Array Edge} {S:World->Prop}
theorem ev6{t a}:D1 P none ⟨d,.load t a,ty,pos,aft,none⟩ K f w=as8 ((Instr.loadAt t (ev f a)).run P w) K f d:=rfl
theorem dL9{t n}{a:Array (Nat×Operand)}:D1 P none ⟨d,.buildSlice t n a,ty,pos,aft,none⟩ K f w=as8 ((Instr.buildSlice t n (a.map λp=>(p.1,ev f p.2))).run P w) K f d:=rfl
theorem en1{t}:D1 P none ⟨d,.alloc t,ty,pos,aft,none⟩ K f w=as8 ((Instr.alloc t true (.tuple #[])).run P w) K f d:=rfl
theorem ey9{t x}:D1 P none ⟨d,.box t x,ty,pos,aft,none⟩ K f w=as8 ((Instr.box t (ev f x)).run P w) K f d:=rfl
theorem dR6{t x y}:D1 P none ⟨d,.makeSlice t x y,ty,pos,aft,none⟩ K f w=as8 ((Instr.makeSlice t (ev f x) (ev f y)).run P w) K f d:=rfl
theorem aJ0{t}{r:Option Operand}:D1 P none ⟨d,.makeMap t r,ty,pos,aft,none⟩ K f w=as8 ((Instr.makeMap t (r.map (ev f))).run P w) K f d:=rfl
theorem ei1{t x i ok}:D1 P none ⟨d,.lookup t x i ok,ty,pos,aft,none⟩ K f w=as8 ((Instr.lookup t (ev f x) (ev f i) ok).run P w) K f d:=rfl
theorem ed0{s t x}:al2 P none ⟨d,.convert s t x,ty,pos,aft,none⟩ K f w=as8 ((convert s t (ev f x)).run P w) K f d:=rfl
theorem ey4{op:BinOp}{t t2 x y}:al2 P none ⟨d,.binOp op t x y t2,ty,pos,aft,none⟩ K f w=as8 ((do eqGuard op t x y (ev f x) (ev f y);binOp op t (ev f x) (ev f y):Sem Value).run P w) K f d:=rfl
def ei0{x y:Operand}{a:Array TypeId}:D1 P none ⟨d,.call {callee:=.builtin .append,args:=#[x,y],argTypes:=a},ty,pos,aft,none⟩ K f w=as8 ((Builtin.append_ a ty #[ev f x,ev f y]).run P w) K f d:=by
 simp[D1,aJ2,al2,bz0,bK7]
def ev5{x y:Operand}{a:Array TypeId}:D1 P none ⟨d,.call {callee:=.builtin .copy,args:=#[x,y],argTypes:=a},ty,pos,aft,none⟩ K f w=as8 ((Builtin.copy_ a ty #[ev f x,ev f y]).run P w) K f d:=by
 simp[D1,aJ2,al2,bz0,bK7]
theorem en4{t a x}:D1 P none ⟨d,.store t a x,ty,pos,aft,none⟩ K f w=bC5 ((Instr.storeAt t (ev f a) (ev f x)).run P w) K f d:=rfl
theorem aE8{t m k x}:D1 P none ⟨d,.mapUpdate t m k x,ty,pos,aft,none⟩ K f w=bC5 ((Instr.mapUpdate t (ev f m) (ev f k) (ev f x)).run P w) K f d:=rfl
def ev4{k:Nat}{a:Array Operand}{b:Array TypeId}:D1 P none ⟨d,.call {callee:=.value (.func k),args:=a,argTypes:=b},ty,pos,aft,none⟩ K f w=aN4 P k (a.toList.map (ev f)) w K f d:=by
 simp[D1,aJ2,al2,bz0,ev,bj7]
theorem ev3{t a}:D1 P (some S) ⟨d,.load t a,ty,pos,aft,none⟩ K f w=X8 P S (Instr.loadAt t (ev f a)) K f d w:=rfl
theorem eh9{t x i ok}:D1 P (some S) ⟨d,.lookup t x i ok,ty,pos,aft,none⟩ K f w=X8 P S (Instr.lookup t (ev f x) (ev f i) ok) K f d w:=rfl
theorem ec8{s t x}:al2 P (some S) ⟨d,.convert s t x,ty,pos,aft,none⟩ K f w=X8 P S (convert s t (ev f x)) K f d w:=rfl
theorem ey3{op:BinOp}{t t2 x y}:al2 P (some S) ⟨d,.binOp op t x y t2,ty,pos,aft,none⟩ K f w=X8 P S (do eqGuard op t x y (ev f x) (ev f y);binOp op t (ev f x) (ev f y)) K f d w:=rfl
theorem dL7{t n}{a:Array (Nat×Operand)}:D1 P (some S) ⟨d,.buildSlice t n a,ty,pos,aft,none⟩ K f w=as8 ((Instr.buildSlice t n (a.map λp=>(p.1,ev f p.2))).run P w) (F2 S K) f d:=rfl
theorem em8{t}:D1 P (some S) ⟨d,.alloc t,ty,pos,aft,none⟩ K f w=as8 ((Instr.alloc t true (.tuple #[])).run P w) (F2 S K) f d:=rfl
theorem ey8{t x}:D1 P (some S) ⟨d,.box t x,ty,pos,aft,none⟩ K f w=as8 ((Instr.box t (ev f x)).run P w) (F2 S K) f d:=rfl
theorem dR4{t x y}:D1 P (some S) ⟨d,.makeSlice t x y,ty,pos,aft,none⟩ K f w=as8 ((Instr.makeSlice t (ev f x) (ev f y)).run P w) (F2 S K) f d:=rfl
def eh8{x y:Operand}{a:Array TypeId}:D1 P (some S) ⟨d,.call {callee:=.builtin .append,args:=#[x,y],argTypes:=a},ty,pos,aft,none⟩ K f w=as8 ((Builtin.append_ a ty #[ev f x,ev f y]).run P w) (F2 S K) f d:=by
 simp[D1,aJ2,al2,bz0,bK7,flt]
def ev2{x y:Operand}{a:Array TypeId}:D1 P (some S) ⟨d,.call {callee:=.builtin .copy,args:=#[x,y],argTypes:=a},ty,pos,aft,none⟩ K f w=as8 ((Builtin.copy_ a ty #[ev f x,ev f y]).run P w) (F2 S K) f d:=by
 simp[D1,aJ2,al2,bz0,bK7,flt]
theorem en0{t a x}:D1 P (some S) ⟨d,.store t a x,ty,pos,aft,none⟩ K f w=bC5 ((Instr.storeAt t (ev f a) (ev f x)).run P w) (F2 S K) f d:=rfl
def ev1{k:Nat}{a:Array Operand}{b:Array TypeId}:D1 P (some S) ⟨d,.call {callee:=.value (.func k),args:=a,argTypes:=b},ty,pos,aft,none⟩ K f w=aN4 P k (a.toList.map (ev f)) w (F2 S K) f d:=by
 simp[D1,aJ2,al2,bz0,ev,bj7]
end
end
def eG4:=@append_assoc
def eI2:=@drop_eq_getElem_cons
def eI7:=@getElem?_append_left
def eI8:=@getElem?_append_right
def eD1:=@getElem?_eq_getElem
def eD8:=@List.getElem?_eq_some_iff
def eD4:=@length_append
def eE5:=@length_take
def eE0:=@mem_append
def eH8:=@take_append_drop
def eN4:=@take_left
def eP3:=@Nat.add_mul
def eD7:=@Nat.le_trans
def eK3:=@Nat.lt_of_lt_of_le
def eJ7:=@Nat.min_eq_left
def eM2:=@Nat.mul_one
abbrev Hp:=Nat->Option Obj
def n8(w:World):Hp:=λb=>w.heap[b]?
def E6(h k:Hp):Prop:=∀b o,h b=some o->k b=some o
def n7(h):E6 h h:=λ_ _ e=>e
def A3{a b c}(h:E6 a b)(k:E6 b c):E6 a c:=λx o e=>k x o (h x o e)
def P4(h:Hp)(a:Addr):Option Value:=match h a.block with
 | some (.cells c _ _)=>if a.spot.isSome then none else c[a.off]?
 | _=>none
theorem ao3(w:World)(a):w.cell? a=P4 (n8 w) a:=rfl
def K9{h k}(b:E6 h k){a v}(e:P4 h a=some v):P4 k a=some v:=by
 unfold P4 at *;cases hb:h a.block with
 | none=>simp[hb]at e
 | some o=>rw[b _ _ hb];rw[hb]at e;exact e
structure t8 (M:Nat->Prop) (w w':World):Prop where
 os:w'.os=w.os
 tape:w'.tape=w.tape
 output:w'.output=w.output
 size:w.heap.size<=w'.heap.size
 block:∀k,k<w.heap.size->¬M k->w'.heap[k]?=w.heap[k]?
abbrev o6(w a:World):Prop:=t8 (λ_=>False) w a
def t8.refl{M:Nat->Prop}(w):t8 M w w:=⟨rfl,rfl,rfl,eE8 _,λ_ _ _=>rfl⟩
def t8.trans{M:Nat->Prop}{a b c}(h:t8 M a b)(k:t8 M b c):t8 M a c:=
 ⟨k.os.trans h.os,k.tape.trans h.tape,k.output.trans h.output,eD7 h.size k.size,λi d hm=>(k.block i (eK3 d h.size) hm).trans (h.block i d hm)⟩
def t8.weaken{M N:Nat->Prop}{w w'}(h:t8 M w w')(a:∀k,k<w.heap.size->M k->N k):t8 N w w':=⟨h.os,h.tape,h.output,h.size,λk b c=>h.block k b λhm=>c (a k b hm)⟩
def o6.drew(w):o6 w w.drew:=⟨rfl,rfl,rfl,eE8 _,λ_ _ _=>rfl⟩
def o6.alloc(w)(o:Obj):o6 w (w.alloc o):=⟨rfl,rfl,rfl,dG,λk a _=>by
 show(w.heap.push o)[k]?=_;rw[Array.getElem?_push,fh om]⟩
def t8.ext_of{M:Nat->Prop}{w w1 w2}(h:o6 w w1)(k:t8 M w1 w2)(c:∀b,M b->w.heap.size<=b):o6 w w2:=
 ⟨k.os.trans h.os,k.tape.trans h.tape,k.output.trans h.output,eD7 h.size k.size,λi a _=>(k.block i (eK3 a h.size) (λhm=>by have:=c i hm;omega)).trans (h.block i a id)⟩
def t8.setCell{M:Nat->Prop}(w)(a:Addr)(v)(h:M a.block):t8 M w (w.setCell a v):=
 ⟨rfl,rfl,rfl,by simp[World.setCell],λk _ hm=>by
  simp only[World.setCell,Array.getElem?_modify];rw[fh (λe:a.block=k=>hm (e ▸ h))]⟩
def t8.setRow{M:Nat->Prop}(w g cs)(h:M g):t8 M w (w.setRow g cs):=
 ⟨rfl,rfl,rfl,dG,λk _ hm=>setRow_other w g k cs (λe=>hm (e ▸ h))⟩
def b7{w w'}(h:o6 w w'):E6 (n8 w) (n8 w'):=λb o e=>by
 have a:b<w.heap.size:=(eD5.1 (show w.heap[b]?=some o from e)).1;exact(h.block b a id).trans e
def G8{h}{M:Nat->Prop}{w w'}(hw:E6 h (n8 w))(hm:t8 M w w')(c:∀b,M b->h b=none):E6 h (n8 w'):=λb o e=>by
 have a:=hw b o e;have d:b<w.heap.size:=(eD5.1 (show w.heap[b]?=some o from a)).1;exact(hm.block b d (λf=>by rw[c b f]at e;cases e)).trans a
def aT4{h w}(hw:E6 h (n8 w)){b}(hb:w.heap.size<=b):h b=none:=by
 cases e:h b with
 | none=>rfl
 | some o=>
  have:=(eD5.1 (show w.heap[b]?=some o from hw b o e)).1;omega
class A9 (α:Type) where
 sz:Nat
 pos:0<sz
 enc:Hp->List Value->α->Prop
 len:∀{h cs x},enc h cs x->cs.length=sz
 mono:∀{h k cs x},E6 h k->enc h cs x->enc k cs x
 one:∀{h cs x},enc h cs x->∀v∈cs,v.oneCell'=true
class L6 (α:Type) where
 val:α->Value
 one:∀x,(val x).oneCell'=true
instance {α:Type} [L6 α]:A9 α where
 sz:=1
 pos:=om
 enc _ cs x:=cs=[L6.val x]
 len h:=by simp[h]
 mono _ h:=h
 one h:=by
  intro v hv;rw[h]at hv;simp at hv;subst hv;exact L6.one _
instance:L6 Int:=⟨λn=>n,λ_=>rfl⟩
instance:L6 Bool:=⟨λb=>b,λ_=>rfl⟩
instance:L6 ByteArray:=⟨λs=>.string s,λ_=>rfl⟩
instance:L6 Nat:=⟨λn=>.int .u64 n,λ_=>rfl⟩
instance {α β:Type} [A9 α] [A9 β]:A9 (α×β) where
 sz:=A9.sz α+A9.sz β
 pos:=by have:=A9.pos (α:=α);omega
 enc h cs x:=∃c1 c2,cs=c1++c2/\A9.enc h c1 x.1/\A9.enc h c2 x.2
 len:=by rintro h cs x ⟨c1,c2,rfl,h1,h2⟩;simp[A9.len h1,A9.len h2]
 mono:=by rintro h k cs x hk ⟨c1,c2,rfl,h1,h2⟩;exact⟨c1,c2,rfl,A9.mono hk h1,A9.mono hk h2⟩
 one:=by
  rintro h cs x ⟨c1,c2,rfl,h1,h2⟩ v hv;rcases eE0.1 hv with hv|hv
  .exact A9.one h1 v hv
  .exact A9.one h2 v hv
section
variable {α:Type} [A9 α]
def V4(h:Hp):List Value->List α->Prop
 | cs,[]=>cs=[]
 | cs,x::xs=>∃a b,cs=a++b/\A9.enc h a x/\V4 h b xs
def Q9{h}:∀{b:List α} {a:List Value},V4 h a b->a.length=b.length*A9.sz α
 | [],a,e=>by simp[V4]at e;simp[e]
 | x::b,a,e=>by
  obtain⟨f,g,rfl,c,d⟩:=e;simp only[eD4,eG6,A9.len c,Q9 d,eP3];omega
def bf4{h k}(b:E6 h k):∀{c:List α} {a:List Value},V4 h a c->V4 k a c
 | [],_,e=>e
 | _::_,_,⟨c1,c2,e,h1,h2⟩=>⟨c1,c2,e,A9.mono b h1,bf4 b h2⟩
def cz0{h}:∀{c:List α} {b:List Value},V4 h b c->∀v∈b,v.oneCell'=true
 | [],b,e,v,a=>by simp[V4]at e;subst e;cases a
 | x::c,b,⟨c1,c2,e,h1,h2⟩,v,a=>by
  subst e;rcases eE0.1 a with a|a
  .exact A9.one h1 v a
  .exact cz0 h2 v a
def aq6{h}:∀{d:List α} {b a:List Value} {c:List α},V4 h b d->V4 h a c->V4 h (b++a) (d++c)
 | [],b,a,c,e1,e2=>by simp[V4]at e1;subst e1;exact e2
 | x::d,b,a,c,⟨c1,c2,e,h1,h2⟩,e2=>⟨c1,c2++a,by rw[e,eG4],h1,aq6 h2 e2⟩
def aq7{h}{a:List Value}{x:α}(b:A9.enc h a x):V4 h a [x]:=⟨a,[],dG,b,rfl⟩
def af4{h}:∀(d c:List α) {b:List Value},V4 h b (d++c)->∃a f,b=a++f/\V4 h a d/\V4 h f c
 | [],c,b,e=>⟨[],b,rfl,rfl,e⟩
 | x::d,c,b,⟨a,f,e,h1,h2⟩=>by
  obtain⟨g,i,j,k,l⟩:=af4 d c h2;exact⟨a++g,i,by rw[e,j,eG4],⟨a,g,rfl,h1,k⟩,l⟩
def cy9{h}{xs:List α}{cs:List Value}(e:V4 h cs xs){k}{x:α}(d:xs[k]?=some x):
  ∃b,A9.enc h b x/\∀j,j<A9.sz α->cs[k*A9.sz α+j]?=b[j]?:=by
 have a:k<xs.length:=(eD8.1 d).1;have m:xs=xs.take k++x::xs.drop (k+1):=by
  have c:xs[k]=x:=(eD8.1 d).2;have:=eH8 k xs;rw[eI2 a,c]at this;exact this.symm
 rw[m]at e;obtain⟨f,n,rfl,g,⟨b,o,rfl,c,p⟩⟩:=af4 _ _ e;refine⟨b,c,λj i=>?_⟩;have l:f.length=k*A9.sz α:=by rw[Q9 g,eE5,eJ7 (Nat.le_of_lt a)]
 rw[eI8 om,l,Nat.add_sub_cancel_left,eI7 (by rw[A9.len c];exact i)]
def dx0{h}{xs:List α}{cs:List Value}(e:V4 h cs xs){k}(g:k<xs.length){y:α}{d:List Value}(q:A9.enc h d y):
  V4 h (cs.take (k*A9.sz α)++d++cs.drop (k*A9.sz α+A9.sz α)) (xs.set k y):=by
 have r:xs=xs.take k++xs[k]::xs.drop (k+1):=by
  have:=eH8 k xs;rw[eI2 g]at this;exact this.symm
 rw[r]at e;obtain⟨b,s,rfl,j,⟨f,c,rfl,o,p⟩⟩:=af4 _ _ e;have l:b.length=k*A9.sz α:=by rw[Q9 j,eE5,eJ7 (Nat.le_of_lt g)]
 have i:f.length=A9.sz α:=A9.len o;have m:(b++(f++c)).take (k*A9.sz α)=b:=by rw[<-l];exact eN4
 have n:(b++(f++c)).drop (k*A9.sz α+A9.sz α)=c:=by
  rw[<-l,<-i,<-eG4,<-eD4];exact drop_left
 rw[m,n];have a:xs.set k y=xs.take k++y::xs.drop (k+1):=List.set_eq_take_append_cons_drop.trans (by rw[fi g]);rw[a,eG4];exact aq6 j ⟨d,c,rfl,q,p⟩
instance:A9 (List α) where
 sz:=1
 pos:=om
 enc h cs xs:=∃a n c,cs=[.slice a n c]/\n=xs.length/\n<=c/\∃es,V4 h es xs/\∀j v,es[j]?=some v->∃ad,a=some ad/\P4 h (ad.add j)=some v
 len:=by rintro h cs x ⟨a,n,c,rfl,_⟩;rfl
 mono:=by
  rintro h k cs x hk ⟨a,n,c,e,h1,h2,es,h3,h4⟩;refine⟨a,n,c,e,h1,h2,es,bf4 hk h3,λj v hv=>?_⟩;obtain⟨ad,e1,e2⟩:=h4 j v hv;exact⟨ad,e1,K9 hk e2⟩
 one:=by
  rintro h cs x ⟨a,n,c,rfl,_⟩ v hv;simp at hv;subst hv;rfl
end
abbrev R{α:Type}[A9 α](h:Hp)(v:Value)(x:α):Prop:=A9.enc h [v] x
def Addr.add_add'(a:Addr)(x y):(a.add x).add y=a.add (x+y):=by
 unfold Addr.add;by_cases hx:x=0
 .subst hx;simp
 .by_cases hy:y=0
  .subst hy;simp[hx]
  .simp[hx,hy,eO4]
section
variable {α:Type} [A9 α] {h:Hp} {v:Value} {xs:List α}
def R.isS(b:R h v xs):isS v=true:=by
 obtain⟨a,n,c,e,_⟩:=b;simp at e;subst e;rfl
def R.vlen(d:R h v xs):vlen v=xs.length:=by
 obtain⟨a,n,c,e,b,_⟩:=d;simp at e;subst e;exact b
def R.vcap(f:R h v xs):xs.length<=vcap v:=by
 obtain⟨a,n,c,e,b,d,_⟩:=f;simp at e;subst e;rw[<-b];exact d
def R.get(A:R h v xs){k}{x:α}(p:xs[k]?=some x):
  inS v k=true/\∃i,A9.enc h i x/\∀j u,i[j]?=some u->P4 h ((I2 v (k*A9.sz α)).add j)=some u:=by
 obtain⟨a,n,c,e,D,E,i,t,m⟩:=A;simp at e;subst e;obtain⟨g,b,d⟩:=cy9 t p;have z:k<xs.length:=(eD8.1 p).1;have F:=A9.len b;have f:=A9.pos (α:=α);have s:∃u,g[0]?=some u:=by
  rw[eD1 om];exact⟨_,rfl⟩
 obtain⟨B,l⟩:=s;obtain⟨C,rfl,_⟩:=m (k*A9.sz α+0) B (by rw[d 0 f];exact l);refine⟨by simp[inS];omega,g,b,λj u o=>?_⟩;have y:j<g.length:=(eD8.1 o).1;obtain⟨q,r,w⟩:=m (k*A9.sz α+j) u (by rw[d j om];exact o);obtain rfl:=eF3 r;simp only[I2];rw[Addr.add_add'];exact w
def R.inS(b:R h v xs){k}(a:k<xs.length):inS v k=true:=(b.get (eD1 a)).1
end
def O9(a:Addr):a.add 0=a:=by simp[Addr.add]
section
variable {P:Program} {t:TypeId} {w:World} {h:Hp}
def ab0{a u}(b:L7 P t=false)(c:w.cell? a=some u):(Instr.loadAt t a).run P w = .ok u w:=by
 unfold Instr.loadAt loadVar;simp only[Instr.sureAddr,eG2,eH9,eF5,al5 t (bx7 b),b,eK7,eM4,run_load,c]
def bT3{a:Addr}{cs:List Value}(e:L7 P t=true)(f:(P.underlying t).isSome=true)(c:(P.info? t).isSome=true)(d:O7 P t=cs.length)
  (b:∀j u,cs[j]?=some u->w.cell? (a.add j)=some u):(Instr.loadAt t a).run P w = .ok (.agg cs.toArray) w:=by
 unfold Instr.loadAt loadVar;simp only[Instr.sureAddr,eG2,eH9,eF5,al5 t f,e,eK2,X3 c,d,run_loadCells_list w a cs b]
def O4{α:Type}[L6 α]{v}{xs:List α}(g:R h v xs)(hw:E6 h (n8 w)){k}{x:α}(f:xs[k]?=some x)(i:L7 P t=false):
  (Instr.loadAt t (I2 v k)).run P w = .ok (L6.val x) w:=by
 obtain⟨_,b,e,d⟩:=g.get f;have a:b=[L6.val x]:=e;have:=d 0 (L6.val x) (by rw[a];rfl);rw[O9]at this;have c:(k*A9.sz α)=k:=eM2 k;rw[c]at this;exact ab0 i (K9 hw this)
end
def eO2:=@Array.getElem?_eq_getElem
def eQ6:=@Array.length_toList
def eG5:=@append_nil
def eM1:=@getElem?_take
def eK0:=@length_drop
def eK5:=@length_nil
def eK6:=@length_set
def eL4:=@nil_append
def eO0:=@size_toArray
def eI0:=@take_of_length_le
def eD9:=@take_succ_eq_append_getElem
def eN9:=@take_zero
def eN1:=@Nat.mul_le_mul_right
def eP9:=@World.cell?_alloc_new
def eL6:=@cell_of_row
def eH3:=@heap_alloc_new
def B7{α:Type}[A9 α](h:Hp)(w:World)(T:TypeId)(v:Value)(xs:List α):Prop:=
 (v=()/\xs=[]) \/
 ∃b c a,v = .slice (some ⟨b,0,none⟩) xs.length c/\h b=none/\w.heap[b]?=some (.cells a T (0,0))/\xs.length<=c/\c<=maxLen/\a.size=c*A9.sz α /\
  V4 h (a.toList.take (xs.length*A9.sz α)) xs
def B0(v:Value)(b:Nat):Prop:=v.ownBlock=some b
def E7{b n c}:¬B0 (.slice none n c) b:=by simp[B0,Value.ownBlock]
def F4(w:World)(v a:Value):Prop:=∀b,B0 a b->B0 v b\/w.heap.size<=b
section
variable {α:Type} [A9 α] {h:Hp} {w:World} {T:TypeId} {v:Value} {xs:List α}
def B7.nil(h w T):B7 h w T () ([]:List α):=.inl ⟨rfl,rfl⟩
def B7.free(e:B7 h w T v xs){b}(hb:B0 v b):h b=none:=by
 rcases e with⟨rfl,_⟩|⟨f,c,a,rfl,d,_⟩
 .exact fj hb E7
 .simp[B0,Value.ownBlock]at hb;subst hb;exact d
def B7.lt(e:B7 h w T v xs){b}(hb:B0 v b):b<w.heap.size:=by
 rcases e with⟨rfl,_⟩|⟨f,c,a,rfl,g,d,_⟩
 .exact fj hb E7
 .simp[B0,Value.ownBlock]at hb;subst hb;exact(eD5.1 d).1
def B7.isS(b:B7 h w T v xs):isS v=true:=by
 rcases b with⟨rfl,_⟩|⟨d,c,a,rfl,_⟩<;>rfl
def B7.vlen(b:B7 h w T v xs):vlen v=xs.length:=by
 rcases b with⟨rfl,rfl⟩|⟨d,c,a,rfl,_⟩<;>rfl
def B7.vcap(d:B7 h w T v xs):xs.length<=vcap v:=by
 rcases d with⟨rfl,rfl⟩|⟨e,c,a,rfl,_,_,b,_⟩
 .simp
 .exact b
def B7.inS(d:B7 h w T v xs){k}(a:k<xs.length):inS v k=true:=by
 rcases d with⟨rfl,rfl⟩|⟨e,c,b,rfl,_⟩
 .simp at a
 .simp[Go.Proofs.YtpebpfiglfmegaaGreat.inS,a]
def B7.mod{M:Nat->Prop}{w'}(j:B7 h w T v xs)(hm:t8 M w w')(g:∀b,B0 v b->¬M b):B7 h w' T v xs:=by
 rcases j with i|⟨b,c,d,rfl,f,e,a⟩
 .exact .inl i
 .exact .inr ⟨b,c,d,rfl,f,(hm.block b (eD5.1 e).1 (g b rfl)).trans e,a⟩
def B7.ext{w'}(a:B7 h w T v xs)(hm:o6 w w'):B7 h w' T v xs:=a.mod hm λ_ _=>id
def B7.up{k}(m:B7 h w T v xs)(j:E6 h k)(hb:∀b,B0 v b->k b=none):B7 k w T v xs:=by
 rcases m with l|⟨b,c,a,rfl,n,d,e,f,g,i⟩
 .exact .inl l
 .exact .inr ⟨b,c,a,rfl,hb b rfl,d,e,f,g,bf4 j i⟩
def B7.ro(o:B7 h w T v xs){k}(m:E6 h k)(hb:∀b,B0 v b->k b=w.heap[b]?):R k v xs:=by
 rcases o with⟨rfl,rfl⟩|⟨b,c,a,rfl,q,e,f,r,s,g⟩
 .exact⟨_,_,_,rfl,rfl,eE8 _,[],rfl,λj v p=>by simp at p⟩
 .refine⟨_,_,_,rfl,rfl,f,_,bf4 m g,λj u d=>⟨_,rfl,?_⟩⟩;have n:j<a.size:=by
   have:=(eD8.1 d).1;simp at this;omega
  have l:a[j]?=some u:=by
   rw[eM1]at d;split at d
   .simpa using d
   .cases d
  have i:(⟨b,0,.none⟩:Addr).add j=⟨b,j,.none⟩:=by unfold Addr.add;split<;>simp_all
  rw[i];simp only[P4,hb b rfl,e,Option.isSome_none,eK7,eM4,l]
theorem B7.rw_(a:B7 h w T v xs)(hw:E6 h (n8 w)):R (n8 w) v xs:=a.ro hw λ_ _=>rfl
def B7.get(p:B7 h w T v xs){k}{x:α}(i:xs[k]?=some x):
  ∃a,A9.enc h a x/\∀j u,a[j]?=some u->w.cell? ((I2 v (k*A9.sz α)).add j)=some u:=by
 rcases p with⟨rfl,rfl⟩|⟨b,c,d,rfl,q,l,r,s,t,m⟩
 .simp at i
 .obtain⟨a,f,o⟩:=cy9 m i;refine⟨a,f,λj u g=>?_⟩;have e:j<A9.sz α:=by have:=(eD8.1 g).1;rw[A9.len f]at this;exact this
  have:=o j e;rw[g,eM1]at this;split at this
  .simp only[I2];rw[Addr.add_add'];have n:(⟨b,0,.none⟩:Addr).add (k*A9.sz α+j)=⟨b,k*A9.sz α+j,.none⟩:=by unfold Addr.add;split<;>simp_all
   rw[n,eL6 w b _ d T (0,0) l];simpa using this
  .cases this
end
section
variable {α:Type} [A9 α] {h:Hp} {P:Program} {w:World} {t T:TypeId} {v:Value}
def E8{α:Type}[L6 α]{xs:List α}(g:B7 h w T v xs){k}{x:α}(f:xs[k]?=some x)(i:L7 P t=false):
  (Instr.loadAt t (I2 v k)).run P w = .ok (L6.val x) w:=by
 obtain⟨b,e,d⟩:=g.get f;have a:b=[L6.val x]:=e;have:=d 0 (L6.val x) (by rw[a];rfl);rw[O9]at this;have c:(k*A9.sz α)=k:=eM2 k;rw[c]at this;exact ab0 i this
def bI2{xs:List (List α)}(g:B7 h w T v xs){k}{x:List α}(e:xs[k]?=some x)(i:L7 P t=false):
  ∃u,R h u x/\(Instr.loadAt t (I2 v k)).run P w = .ok u w:=by
 obtain⟨a,b,d⟩:=g.get e;have f:a.length=1:=A9.len b
 match a,f with
 | [u],_=>
  have:=d 0 u rfl;rw[O9]at this;have c:(k*A9.sz (List α))=k:=eM2 k;rw[c]at this;exact⟨u,b,ab0 i this⟩
def bk2{a}{u x:Value}{i:TypeInfo}(f:P.info? t=some i)(g:i.size=1)(h:x.cells=#[x])(c:x.oneCell'=true)(d:w.cell? a=some u)(e:w.frozen? a=false):
  (Instr.storeAt t a x).run P w = .ok () (w.setCell a x):=by
 have b:(store (a.add 0) x).run P w = .ok () (w.setCell a x):=by
  rw[O9];cases x<;>simp[Value.oneCell']at c<;>simp[store,Sem.run,d,e]
 unfold Instr.storeAt storeVar;simp only[Instr.sureAddr,eG2,eH9,eF5,sizeOf,Q7,f,g,h,Sem.run_ite];simp only[eO0,eG6,eK5,storeCells,eG2,b,eF5,eH9];rfl
def G4{xs:List α}(q:B7 h w T v xs)(p:A9.sz α=1){k}(g:k<xs.length){x:Value}{y:α}(r:A9.enc h [x] y)(H:x.cells=#[x])
  {i:TypeInfo} (E:P.info? t=some i) (G:i.size=1) :
  ∃j,(Instr.storeAt t (I2 v k) x).run P w = .ok () j/\B7 h j T v (xs.set k y)/\t8 (B0 v) w j/\j.heap.size=w.heap.size:=by
 obtain⟨I,K,J⟩:=q.get (eD1 g);have f:x.oneCell'=true:=A9.one r x dG;rcases q with⟨rfl,rfl⟩|⟨b,c,a,rfl,u,l,z,A,m,B⟩
 .simp at g
 .have D:(⟨b,0,.none⟩:Addr).add k=⟨b,k,.none⟩:=by unfold Addr.add;split<;>simp_all
  have e:k<a.size:=by rw[m,p];omega
  have d:w.cell? ⟨b,k,.none⟩=some a[k]:=by rw[eL6 w b k a T (0,0) l,eO2 e]
  have n:w.frozen? ⟨b,k,.none⟩=false:=frozen_of_row w b k a T l;simp only[I2,D];refine⟨_,bk2 (P:=P) (t:=t) E G H f d n,?_,t8.setCell _ _ _ (by simp[B0,Value.ownBlock]),dG⟩;right;refine⟨b,c,a.setIfInBounds k x,dG,u,heap_setCell_same w b k a T x l,by simpa using z,A,by simpa using m,?_⟩;have o:=dx0 B g r;have F:(a.toList.take xs.length).length=xs.length:=by
   rw[p]at m;have C:a.toList.length=a.size:=dG
   rw[eE5,C];omega
  have s:(a.setIfInBounds k x).toList.take ((xs.set k y).length*A9.sz α) =
    (a.toList.take (xs.length*A9.sz α)).take (k*A9.sz α)++[x]++(a.toList.take (xs.length*A9.sz α)).drop (k*A9.sz α+A9.sz α):=by
   rw[p];simp only[Array.toList_setIfInBounds,eK6,eM2];rw[take_set];rw[set_eq_take_append_cons_drop,fi (by rw[F];exact g)];simp
  rw[s];exact o
def bn3{e}{i:TypeInfo}{z:Value}(S:P.underlying t=some (.slice T))(R:P.info? T=some i)(Z:i.zero=some z)(a:i.size=A9.sz α)(U:z.cells.size=i.size)
  {xs ys:List α} (ho:B7 h w T v xs) {ad:Addr} {m c} {d:List Value} (hm:m=ys.length) (hn:V4 h d ys) (k:∀j u,d[j]?=some u->w.cell? (ad.add j)=some u)
  (hy:ys≠[]) (x:xs.length+ys.length<=maxLen) (l:(xs.length+ys.length)*i.bytes<=140737488355328) (hw:E6 h (n8 w)) :
  ∃V W,(Builtin.append_ #[t,t] e #[v,.slice (some ad) m c]).run P w = .ok V W/\B7 h W T V (xs++ys)/\t8 (B0 v) w W/\F4 w v V:=by
 have D:=Q9 hn;have G:=cz0 hn;have I:0<ys.length:=List.length_pos_iff.2 hy;have q:∀(p:Nat) (g:List Value),V4 h g (xs++ys)->p<xs.length+ys.length ->
   B7 h (w.drew.alloc (.cells (g.toArray++Builtin.zeroCells z.cells (grownCap w (xs.length+ys.length) p T-(xs.length+ys.length))) T)) T
    (.slice (some ⟨w.heap.size,0,.none⟩) (xs.length+ys.length) (grownCap w (xs.length+ys.length) p T)) (xs++ys):=by
  intro p g Y ah;have Q:=grownCap_ge w (xs.length+ys.length) p T;have N:=grownCap_le_maxLen w (xs.length+ys.length) p T x;have B:=Q9 Y;right;refine⟨w.heap.size,_,_,by rw[eD4],aT4 hw (eE8 _),eH3 w.drew _,by rw[eD4];exact Q,N,?_,?_⟩
  .simp only[Array.size_append,eO0,size_zeroCells,U,a,B,eD4,<-eP3]
   congr 1
   omega
  .simp only[Array.toList_append];rw[<-B,eN4];exact Y
 have r:∀(o:Obj),t8 (B0 v) w (w.drew.alloc o):=λo=>
  t8.trans ((o6.drew w).weaken (λ_ _ h=>h.elim)) ((o6.alloc w.drew o).weaken (λ_ _ h=>h.elim))
 have F:∀n c,F4 w v (.slice (some ⟨w.heap.size,0,.none⟩) n c):=λn c b X=>by
  simp[B0,Value.ownBlock]at X;subst X;exact .inr (eE8 _)
 subst hm;rcases ho with⟨rfl,rfl⟩|⟨b,A,f,rfl,h1,L,h3,h4,h5,J⟩
 .have H:=run_append_nil (P:=P) w t e T i z S R Z ad ys.length c d (by rw[D,a]) k I (by simp only[maxLen,eK5,eH5]at x;omega) (by simp only[eK5,eH5]at l;omega);have C:=q 0 d (by simpa using hn) (by simp;exact I);simp only[eK5,eH5,eL4]at C ⊢;exact⟨_,_,H,C,r _,F _ _⟩
 .by_cases hroom:xs.length+ys.length<=A
  .have s:xs.length*i.size+d.length<=f.size:=by rw[D,a,h5,<-eP3];exact eN1 _ hroom
   have H:=run_append_room (P:=P) w t e T i S R b xs.length A f L ad ys.length c d (by rw[D,a]) k G hroom s;refine⟨_,_,H,?_,t8.setRow _ _ _ (by simp[B0,Value.ownBlock]),λb' M=>.inl M⟩;right;refine⟨b,A,_,by rw[eD4],h1,setRow_heap w b f _ T _ L,by rw[eD4];exact hroom,h4,?_,?_⟩
   .simp only[eO0,eD4,eE5,eK0,eQ6];rw[a]at s ⊢;have:xs.length*A9.sz α<=f.size:=om
    omega
   .rw[a];have E:(f.toList.take (xs.length*A9.sz α)++d).length=(xs++ys).length*A9.sz α:=by
     rw[eD4,D,Q9 J,eD4,eP3]
    rw[<-E,eN4];exact aq6 J hn
  .have O:(f.toList.take (xs.length*A9.sz α)).length=xs.length*i.size:=by rw[Q9 J,a]
   have y:∀j u,(f.toList.take (xs.length*A9.sz α))[j]?=some u->w.cell? ((⟨b,0,.none⟩:Addr).add j)=some u:=by
    intro j u K;have ha:(⟨b,0,.none⟩:Addr).add j=⟨b,j,.none⟩:=by unfold Addr.add;split<;>simp_all
    rw[ha,eL6 w b j f T (0,0) L];rw[eM1]at K;split at K
    .simpa using K
    .cases K
   have H:=run_append_grow (P:=P) w t e T i z S R Z ⟨b,0,.none⟩ xs.length A (f.toList.take (xs.length*A9.sz α)) O y ad ys.length c d (by rw[D,a]) k om
    (by simp only[maxLen]at x;omega) (growslice_fits om l)
   have C:=q A (f.toList.take (xs.length*A9.sz α)++d) (aq6 J hn) om;have e1:((f.toList.take (xs.length*A9.sz α)++d).toArray:Array Value)=(f.toList.take (xs.length*A9.sz α)).toArray++d.toArray:=dG
   rw[e1]at C;exact⟨_,_,H,C,r _,F _ _⟩
def cf0(off):∀(l:List Value) (k:Nat) (a:Array Value),off+k+l.length<=a.size ->
  ((l.zipIdx k).foldl (λa (p:Value×Nat)=>a.setIfInBounds (off+p.2) p.1) a).toList=a.toList.take (off+k)++l++a.toList.drop (off+k+l.length)
 | [],k,a,_=>dG
 | v::l,k,a,hl=>by
  simp only[eG6]at hl;rw[zipIdx_cons,foldl_cons,cf0 off l (k+1) _ (by simp;omega)];have b:a.toList.length=a.size:=dG
  simp only[Array.toList_setIfInBounds,eG6];rw[show off+(k+1)=off+k+1 by omega,take_set,eD9 om,set_append_right (h:=by simp;omega)];have c:off+k-(a.toList.take (off+k)).length=0:=by simp;omega
  rw[c,drop_set_of_lt om];simp[eG4,eO4,Nat.add_comm 1]
def dx2{a:Nat->Option (Nat×Nat)}{off sz i}{x:Value}{cs:Array Value}{b:List (Nat×Value)}(d:a i=some (off,sz))(c:x.cells.size=sz)(e:off+sz<=cs.size):
  Instr.fill a cs ((i,x)::b)=Instr.fill a (cs.toList.take off++x.cells.toList++cs.toList.drop (off+sz)).toArray b:=by
 conv=>lhs;unfold Instr.fill
 simp only[d];rw[fh (by simp[c];omega)]
 congr 1
 apply Array.ext';have:=cf0 off x.cells.toList 0 cs (by simp;omega);simp only[Nat.add_zero,eQ6,c]at this;rw[<-this,<-Array.foldl_toList];simp[Array.toList_zipIdx]
def cz4(sz):∀(b:List Value) (k:Nat) (a:Array Value),(∀x∈b,x.cells.size=sz)->a.size=(k+b.length)*sz ->
  Instr.fill (λi=>some (i*sz,sz)) a ((b.zipIdx k).map λp=>(p.2,p.1))=some (a.toList.take (k*sz)++b.flatMap (·.cells.toList)).toArray
 | [],k,a,_,hc=>by
  simp only[eK5,Nat.add_zero]at hc;simp only[zipIdx_nil,map_nil,Instr.fill,flatMap_nil,eG5]
  congr 1
  apply Array.ext';rw[<-hc,eI0 dG]
 | x::b,k,a,hx,hc=>by
  simp only[eG6]at hc;have f:a.size=k*sz+sz+b.length*sz:=by rw[hc,eP3,eP3];omega
  have c:=hx x dG;have d:a.toList.length=a.size:=dG
  rw[zipIdx_cons,eI4];show Instr.fill _ a ((k,x)::_)=_;rw[dx2 rfl c om];have g:(take (k*sz) a.toList++x.cells.toList++drop (k*sz+sz) a.toList).toArray.size=(k+1+b.length)*sz:=by
   simp[c];rw[eP3,eP3];omega
  rw[cz4 sz b (k+1) _ (λy h=>hx y (by simp[h])) g]
  congr 2
  have e:(k+1)*sz=(take (k*sz) a.toList++x.cells.toList).length:=by
   simp[c,eP3];omega
  rw[e,eN4];simp
def aJ5{e z}(k:P6 P t=some e)(f:(P.info? e).isSome=true)(m:I7 P e=some z)(xs:List Value)(l:∀x∈xs,x.cells.size=O7 P e)(hn:xs≠[])
  (b:0<O7 P e) (j:xs.length*O7 P e<=16777216) {parts:Array (Nat×Value)} (h:parts.toList=(xs.zipIdx 0).map λp=>(p.2,p.1)) {n} (c:n=xs.length) :
  (Instr.buildSlice t n parts).run P w = .ok (.slice (some ⟨w.heap.size,0,none⟩) n n) (w.alloc (.cells (xs.flatMap (·.cells.toList)).toArray e)):=by
 subst c;obtain⟨i,a⟩:=eJ0.1 f;have d:i.zero=some z:=by simpa[I7,a]using m
 have g:¬(xs.length*O7 P e=0):=by
  have:0<xs.length:=List.length_pos_iff.2 hn;exact Nat.ne_of_gt (Nat.mul_pos this b)
 unfold Instr.buildSlice zeroValue;simp only[eG2,J6,R7 k,eF5,X3 f,Sem.run_ite,Q7,a,d,eH9];rw[fh om];simp only[g,eM4];rw[h,cz4 (O7 P e) xs 0 _ l dG];simp only[Nat.zero_mul,eN9,eL4];rfl
def F8{i:TypeInfo}(a:P.info? t=some i):O7 P t=i.size:=by simp[O7,a]
def aO5{i:TypeInfo}(a:P.info? t=some i):dv5 P t=i.bytes:=by simp[dv5,a]
def B1{z}(a:I7 P t=some z):∃i,P.info? t=some i/\i.zero=some z:=by
 unfold I7 at a;cases hi:P.info? t with
 | none=>simp[hi]at a
 | some i=>exact⟨i,rfl,by simpa[hi]using a⟩
def dD8{e}{z:Value}(G:P6 P t=some T)(I:I7 P T=some z)(a:O7 P T=A9.sz α)(p:z.cells.size=A9.sz α)
  {xs:List α} (F:B7 h w T v xs) {x:Value} {y:α} (H:A9.enc h x.cells.toList y) (B:xs.length+1<=1000000000000) (d:(xs.length+1)*dv5 P T<=140737488355328) (hw:E6 h (n8 w)) :
  ∃g k,(Builtin.append_ #[t,t] e #[v,.slice (some ⟨w.heap.size,0,none⟩) 1 1]).run P (w.alloc (.cells x.cells T)) = .ok g k/\B7 h k T g (xs++[y])/\t8 (B0 v) w k/\F4 w v g:=by
 obtain⟨i,l,n⟩:=B1 I;rw[F8 l]at a;rw[aO5 l]at d;have o:E6 h (n8 (w.alloc (.cells x.cells T))):=A3 hw (b7 (o6.alloc w _));have f:∀j u,x.cells.toList[j]?=some u->(w.alloc (.cells x.cells T)).cell? ((⟨w.heap.size,0,none⟩:Addr).add j)=some u:=by
  intro j u E;have C:(⟨w.heap.size,0,none⟩:Addr).add j=⟨w.heap.size,j,none⟩:=by unfold Addr.add;split<;>simp_all
  rw[C,eP9];simpa using E
 obtain⟨g,k,q,r,s,A⟩:=bn3 (P:=P) (e:=e) (R7 G) l n a (by rw[p,a]) (F.ext (o6.alloc w (.cells x.cells T))) (c:=1) (m:=1) (ad:=⟨w.heap.size,0,none⟩) rfl (aq7 H) f dG
  (by simp[maxLen];omega) (by simpa using d) o
 refine⟨g,k,q,r,?_,λb D=>?_⟩
 .exact t8.trans ((o6.alloc w (.cells x.cells T)).weaken (λ_ _ h=>h.elim)) s
 .rcases A b D with h|h
  .exact .inl h
  .simp at h;exact .inr om
def aC6{e z}(g:P6 P t=some e)(c:I7 P e=some z)(a:0<O7 P e)(b:O7 P e<=16777216){x:Value}(h:x.cells.size=O7 P e):
  (Instr.buildSlice t 1 #[(0,x)]).run P w = .ok (.slice (some ⟨w.heap.size,0,none⟩) 1 1) (w.alloc (.cells x.cells e)):=by
 obtain⟨i,d,f⟩:=B1 c;have:=aJ5 (w:=w) g (by rw[d];rfl) c [x] (by simpa using h) dG a (by simpa using b) (parts:=#[(0,x)]) rfl (n:=1) rfl;simpa using this
end
def eI1:=@mem_cons_of_mem
def dO5(ops:Array Oper):List Nat:=ops.toList.filterMap (·.dst)
def wrC:Code->List Nat
 | .seq a b=>wrC a++wrC b
 | .cond _ a b=>wrC a++wrC b
 | .block _ a=>wrC a
 | .loop a=>wrC a
 | .region _ ops _=>dO5 ops
 | _=>[]
section
variable {P:Program}
def cj2{r:Result Value}{K a:Fr->World->Prop}{f}{d:Option Nat}(h:∀v w,K (G9 f d v) w->a (G9 f d v) w)(b:as8 r K f d):as8 r a f d:=by
 cases r with
 | ok v w=>exact h _ _ b
 | halt x w=>exact b.elim
def bC6{r:Result Unit}{K a:Fr->World->Prop}{f}{d:Option Nat}(h:∀v w,K (G9 f d v) w->a (G9 f d v) w)(b:bC5 r K f d):bC5 r a f d:=by
 cases r with
 | ok v w=>exact h _ _ b
 | halt x w=>exact b.elim
def cJ9{k}{args:List Value}{w}{K a:Fr->World->Prop}{f}{d:Option Nat}(h:∀v w,K (G9 f d v) w->a (G9 f d v) w)(n:aN4 P k args w K f d):aN4 P k args w a f d:=by
 rcases n with⟨i,j⟩|⟨v,b,c,g⟩
 .exact .inl ⟨i,j.mono λe b ⟨v,l,m⟩=>⟨v,l,h _ _ m⟩⟩
 .exact .inr ⟨v,b,c,h _ _ g⟩
def bJ4{o:Oper}{K b:Fr->World->Prop}{f w}(h:∀v w,K (G9 f o.dst v) w->b (G9 f o.dst v) w)(a:X4 P o K f w):X4 P o b f w:=by
 unfold X4 at *;generalize(execOp (ev f) o).run P w=r at *;cases r with
 | halt x i=>exact a
 | ok n i=>
  cases n
  case value v=>exact h _ _ a
  case skip=>exact h _ _ a
  case enter g args=>exact Calls.mono a λe j ⟨v,c,d⟩=>⟨v,c,h _ _ d⟩
  all_goals exact a
def aT6{S:Option (World->Prop)}{K b:Fr->World->Prop}{f}{d:Option Nat}(h:∀v w,K (G9 f d v) w->b (G9 f d v) w):∀v w,bj7 S K (G9 f d v) w->bj7 S b (G9 f d v) w:=by
 intro v w a;cases S with
 | none=>exact h _ _ a
 | some S=>exact⟨a.1,h _ _ a.2⟩
def df6{S:Option (World->Prop)}{fl}{s:Sem Value}{K b:Fr->World->Prop}{f}{d:Option Nat}{w}(h:∀v w,K (G9 f d v) w->b (G9 f d v) w)(a:bK7 P S fl s K f d w):bK7 P S fl s b f d w:=by
 unfold bK7 at *;cases S with
 | none=>exact cj2 h a
 | some S=>
  cases fl with
  | true=>
   simp only[eK2]at a ⊢;obtain⟨v,e,g⟩:=a;exact⟨v,e,h _ _ g⟩
  | false=>
   simp only[eK7,eM4]at a ⊢;exact cj2 (λv w c=>⟨c.1,h _ _ c.2⟩) a
def al4{S:Option (World->Prop)}{o:Oper}{K l:Fr->World->Prop}{f w}(h:∀v w,K (G9 f o.dst v) w->l (G9 f o.dst v) w)(a:D1 P S o K f w):D1 P S o l f w:=by
 unfold D1 at *;split
 .rename_i v j;simp only[j]at a;exact h _ _ a
 .rename_i j;simp only[j]at a;unfold al2 at *;split
  .rename_i s b;simp only[b]at a;exact df6 h a
  .rename_i b;simp only[b]at a;obtain⟨d,op,x,r,n,u⟩:=o;cases op
   case store=>exact bC6 (aT6 h) a
   case mapUpdate=>exact bC6 (aT6 h) a
   case insert=>exact bC6 (aT6 h) a
   case call c=>
    obtain⟨e,args,t⟩:=c;cases e
    case value g=>
     simp only at a ⊢;cases hg:ev f g
     case func fn first cap=>
      cases fn
      case func k=>simp only[hg]at a ⊢;exact cJ9 (aT6 h) a
      all_goals (simp only[hg]at a)
     all_goals (simp only[hg]at a)
    all_goals exact a
   all_goals
    cases S with
    | none=>exact bJ4 h a
    | some S=>
     simp only at a ⊢;split
     .rename_i i;rw[fi i]at a;obtain⟨v,p,q⟩:=a;exact⟨v,p,h _ _ q⟩
     .rename_i i;rw[fh i]at a;exact bJ4 (λv w m=>⟨m.1,h _ _ m.2⟩) a
def bo8{f}{d:Option Nat}{v i}(h:∀k,d=some k->i≠k):G9 f d v i=f i:=by
 cases d with
 | none=>rfl
 | some k=>simp[G9,C9,h k rfl]
def dr8{ops}{K m:Fr->World->Prop}:∀(l:List Oper) (f:Fr) (w:World),(∀g d,(∀i,i∉l.filterMap (·.dst)->g i=f i)->K g d->m g d)->Rn P ops l K f w->Rn P ops l m f w
 | [],f,w,h,hr=>h _ _ (λ_ _=>rfl) hr
 | o::l,f,w,h,hr=>by
  have c:∀v d,Rn P ops l K (G9 f o.dst v) d->Rn P ops l m (G9 f o.dst v) d:=λv d q=>
   dr8 l _ _ (λg x u r=>h _ _ (λi s=>by
    have t:i∉l.filterMap (·.dst):=λhm=>s (List.mem_filterMap.2 (let⟨a,ha,hd⟩:=List.mem_filterMap.1 hm;⟨a,eI1 _ ha,hd⟩));rw[u i t];exact bo8 λk q e=>s (by subst e;exact List.mem_filterMap.2 ⟨o,dG,q⟩)) r) q
  unfold Rn at hr ⊢;split
  .rename_i p;simp only[p]at hr;exact al4 c hr
  .rename_i j b p;simp only[p]at hr;split
   .rename_i n;rw[fi n]at hr;exact al4 c hr
   .rename_i n;rw[fh n]at hr;exact c _ _ hr
def cD4{ops}{i:Nat}{o:Oper}{k:Nat}(b:ops[i]?=some o)(a:o.dst=some k):k∈dO5 ops:=
 List.mem_filterMap.2 ⟨o,by have:=Array.mem_of_getElem? b;simpa using this,a⟩
def cm4{ops:Array Oper}{S:World->Prop}{K s:Fr->World->Prop}:∀(l:aY6) (f:Fr) (w:World),(∀q d,(∀i,i∉dO5 ops->q i=f i)->K q d->s q d)->RnF P ops S l K f w->RnF P ops S l s f w
 | .nil,f,w,h,a=>h _ _ (λ_ _=>rfl) a
 | .op i l,f,w,h,a=>by
  unfold RnF at a ⊢;cases ho:ops[i]? with
  | none=>simp[ho]at a
  | some o=>
   simp only[ho]at a ⊢;have c:∀v d,RnF P ops S l K (G9 f o.dst v) d->RnF P ops S l s (G9 f o.dst v) d:=λv d n=>
    cm4 l _ _ (λq u t p=>h _ _ (λj r=>by
     rw[t j r];exact bo8 λk n e=>r (by subst e;exact cD4 ho n)) p) n
   split
   .rename_i m;simp only[m]at a;exact al4 c a
   .rename_i j b m;simp only[m]at a;split
    .rename_i g;rw[fi g]at a;exact al4 c a
    .rename_i g;rw[fh g]at a;exact c _ _ a
 | .fork rs k,f,w,h,a=>by
  unfold RnF at a ⊢;intro i x;have a:=a i x;cases ho:ops[i]? with
  | none=>simp[ho]at a
  | some o=>
   simp only[ho]at a ⊢;have c:∀v d,RnF P ops S (k i) K (G9 f o.dst v) d->RnF P ops S (k i) s (G9 f o.dst v) d:=λv d n=>
    cm4 (k i) _ _ (λq u t p=>h _ _ (λj r=>by
     rw[t j r];exact bo8 λk n e=>r (by subst e;exact cD4 ho n)) p) n
   split
   .rename_i m;simp only[m]at a;exact⟨al4 c a.1,a.2⟩
   .rename_i j b m;simp only[m]at a;split
    .rename_i g;rw[fi g]at a;exact⟨al4 c a.1,a.2⟩
    .rename_i g;rw[fh g]at a;exact c _ _ a
def dq9:∀(c:Code) (Q t:Exit->Fr->World->Prop) (f:Fr) (w:World),(∀e p u,(∀i,i∉wrC c->p i=f i)->Q e p u->t e p u)->CW P c Q f w->CW P c t f w:=by
 intro c
 induction c with
 | skip=>intro Q t f w h g;exact h _ _ _ (λ_ _=>rfl) g
 | seq a b A B=>
  intro Q t f w h g;refine A _ _ _ _ ?_ g;intro e p u q k;cases e
  case normal=>
   refine B _ _ _ _ ?_ k;intro Y H J r y;exact h _ _ _ (λi j=>by
    simp only[wrC,eE0,not_or]at j;rw[r i j.2,q i j.1]) y
  all_goals exact h _ _ _ (λi j=>by
    simp only[wrC,eE0,not_or]at j;exact q i j.1) k
 | cond v a b A B=>
  intro Q t f w h g;simp only[CW]at g ⊢;unfold aZ7 at *;split
  .rename_i z;simp only[z]at g;exact A _ _ _ _ (λe p u q k=>h _ _ _ (λi j=>by simp only[wrC,eE0,not_or]at j;exact q i j.1) k) g
  .rename_i z;simp only[z]at g;exact B _ _ _ _ (λe p u q k=>h _ _ _ (λi j=>by simp only[wrC,eE0,not_or]at j;exact q i j.2) k) g
  .rename_i C F;split at g
   .rename_i z;exact fj z C
   .rename_i z;exact fj z F
   .exact g
 | block id a G=>
  intro Q t f w h g;refine G _ _ _ _ ?_ g;intro e p u q k;cases e
  case exit id'=>
   simp only[ai2]at k ⊢;split
   .rename_i x;rw[fi x]at k;exact h _ _ _ q k
   .rename_i x;rw[fh x]at k;exact h _ _ _ q k
  all_goals exact h _ _ _ q k
 | loop a G=>
  intro Q t f w h g;obtain⟨X,I,m,W,K,T⟩:=g;refine⟨X,λs p u=>I s p u/\∀i,i∉wrC a->p i=f i,m,W,⟨K,λ_ _=>rfl⟩,?_⟩;rintro s p u ⟨N,D⟩;refine G _ _ _ _ ?_ (T s p u N);intro e H J r k;cases e
  case normal=>
   obtain⟨V,C,F⟩:=k;exact⟨V,C,F,λi j=>by rw[r i j,D i j]⟩
  all_goals exact h _ _ _ (λi j=>by rw[r i j,D i j]) k
 | region id U d=>
  intro Q t f w h g;cases d
  case false=>exact dr8 _ _ _ (λp u q k=>h _ _ _ q k) g
  case true=>
   obtain⟨S,n,E,C,L,M⟩:=g;refine⟨S,n,E,C,L,?_⟩;refine cm4 E _ _ ?_ M;intro p u q k;refine dr8 _ _ _ ?_ k;intro H J r y;exact h _ _ _ (λi j=>by
    rw[r i,q i j];intro hm;obtain⟨o,R,O⟩:=List.mem_filterMap.1 hm;exact j (List.mem_filterMap.2 ⟨o,eP5 R,O⟩)) y
 | exit id=>intro Q t f w h g;exact h _ _ _ (λ_ _=>rfl) g
 | label l=>intro Q t f w h g;exact h _ _ _ (λ_ _=>rfl) g
 | ret=>intro Q t f w h g;exact h _ _ _ (λ_ _=>rfl) g
 | _=>intro Q t f w _ g;exact g
def E4{c}{Q:Exit->Fr->World->Prop}{f w}{σ:Type}(a:List Nat)(I:σ->Fr->World->Prop)(m:σ->Nat)(q:σ)
  (r:I q f w)
  (y:∀s b d,(∀i∈a,b i=f i)->I s b d->CW P c (aj9 (λk o=>∃j,m j<m s/\I j k o) Q) b d) (x:a.all (λi=>!(wrC c).contains i)=true:=by decide +kernel):cv9 (CW P c) Q f w:=by
 have n:∀i∈a,i∉wrC c:=by
  intro i h hm;have:=eJ1.1 x i h;simp[hm]at this
 refine⟨σ,λs b d=>I s b d/\∀i∈a,b i=f i,m,q,⟨r,λ_ _=>rfl⟩,?_⟩;rintro s b d ⟨v,g⟩;refine dq9 c _ _ _ _ ?_ (y s b d g v);intro e z A l p;cases e
 case normal=>
  obtain⟨j,t,u⟩:=p;exact⟨j,t,u,λi h=>by rw[l i (n i h),g i h]⟩
 all_goals exact p
def agr:List Nat->List Value->Fr->Prop
 | i::l,v::vs,f=>f i=v/\agr l vs f
 | _,_,_=>True
def ds8{f g:Fr}:∀(l:List Nat) (a:List Value),l.map g=a->(∀i∈l,f i=g i)->agr l a f
 | [],_,_,_=>trivial
 | i::l,_,rfl,h=>⟨h i dG,ds8 l _ rfl λj b=>h j (eI1 _ b)⟩
def B4{c}{Q:Exit->Fr->World->Prop}{f w}{σ:Type}{vs:List Value}(a:List Nat)(I:σ->Fr->World->Prop)(m:σ->Nat)(j:σ)
  (k:I j f w)
  (p:∀s b d,agr a vs b->I s b d->CW P c (aj9 (λe g=>∃h,m h<m s/\I h e g) Q) b d)
  (hv:a.map f=vs:=by(simp only[eI4,map_nil,C9,↓reduceIte,Nat.reduceEqDiff];exact rfl)) (o:a.all (λi=>!(wrC c).contains i)=true:=by decide +kernel):cv9 (CW P c) Q f w:=
 E4 a I m j k (λs b d l n=>p s b d (ds8 _ _ hv l) n) o
def z6{k}{args:List Value}{w}{K:Fr->World->Prop}{f}{d:Option Nat}{R:Value->World->Prop}
  (h:Calls P k args.toArray w λe a=>∃v,e = .returned v/\R v a) (c:∀v a,R v a->K (G9 f d v) a) (hb:ao4 P k=true:=by kernel_rfl):aN4 P k args w K f d:=
 .inl ⟨hb,h.mono λ_ _ ⟨v,b,g⟩=>⟨v,b,c _ _ g⟩⟩
def C4{ops:Array Oper}{K:Fr->World->Prop}{f}{w:World}(S:World->Prop)(n)(a:aY6)
  (h:RnF P ops S a (Rn P ops (ops.toList.drop n) K) f w.drew) (b:cG2 ops n a=true:=by decide +kernel) (hS:S w.drew:=by first|exact t8.refl _|exact rfl):dr3 P ops K f w:=⟨S,n,a,b,hS,h⟩
def bj3{ops:Array Oper}{K:Fr->World->Prop}{f}{w:World}(b:List Nat)(S:World->Prop)(n)(a:aY6)(I:Fr->World->Prop)(j:cG2 ops n a=true)(g:b.all (λi=>!(dO5 ops).contains i)=true)(hS:S w.drew)
  (h:RnF P ops S a I f w.drew) (m:∀c d,(∀i∈b,c i=f i)->I c d->Rn P ops (ops.toList.drop n) K c d):dr3 P ops K f w:=by
 refine⟨S,n,a,j,hS,cm4 a _ _ (λc d k l=>m c d (λi e=>k i ?_) l) h⟩;have:=eJ1.1 g i e;intro hm;simp[hm]at this
def X2{ops:Array Oper}{S:World->Prop}{K:Fr->World->Prop}{f:Fr}{w}{e:List Nat}{k:Nat->aY6}(m:e.all (λi=>match ops[i]? with|some o=>!flt o.op|none=>false)=true)
  (h:∀i∈e,RnF P ops S (.op i (k i)) K f w):RnF P ops S (.fork e k) K f w:=by
 unfold RnF;intro i l;have a:=h i l;have c:=eJ1.1 m i l;unfold RnF at a;cases ho:ops[i]? with
 | none=>simp[ho]at c
 | some o=>
  simp only[ho]at a c ⊢;have g:flt o.op=false:=by simpa using c
  cases hg:o.guard with
  | none=>simp only[hg]at a ⊢;exact⟨a,g⟩
  | some n=>
   obtain⟨j,b⟩:=n;simp only[hg]at a ⊢;split
   .rename_i d;rw[fi d]at a;exact⟨a,g⟩
   .rename_i d;rw[fh d]at a;exact a
def A8:List Nat->aY6
 | []=>.nil
 | i::l=>.op i (A8 l)
end
def eF4:=@Int.toNat_natCast
def eK8:=@ext_getElem
def eE3:=@length_map
def eI3:=@length_range
def eJ3:=@length_replicate
def eG8:=@map_append
def eM7:=@mem_iff_getElem?
def eF7:=@mem_of_getElem?
def eE4:=@take_length
def eG7:=@decide_eq_false
def N7(n)(h : -9223372036854775808<=n/\n<=9223372036854775807):IntKind.i64.wrap n=n:=IntWalk.i64_in n h
def I9(k:Nat)(h:k<4000000000000000000:=by omega):IntKind.i64.wrap ((k:Int)+1)=((k+1:Nat):Int):=by
 rw[N7 _ om];rfl
def nx2{σ:Type}{A B Z:σ->Prop}(s:σ)(z:Z s)(a:A s:=by first|exact True.intro|omega|(simp only[];first|omega|rw[I9 _]|rfl)|rw[I9 _]|rfl)(b:B s:=by first|exact True.intro|omega|(simp only[];first|omega|rw[I9 _]|rfl)|rw[I9 _]|rfl):∃s,A s/\B s/\Z s:=⟨s,a,b,z⟩
def U5{σ:Type}{A B C Z:σ->Prop}(s:σ)(z:Z s)(a:A s:=by first|exact True.intro|omega|(simp only[];first|omega|rw[I9 _]|rfl)|rw[I9 _]|rfl)(b:B s:=by first|exact True.intro|omega|(simp only[];first|omega|rw[I9 _]|rfl)|rw[I9 _]|rfl)(c:C s:=by first|exact True.intro|omega|(simp only[];first|omega|rw[I9 _]|rfl)|rw[I9 _]|rfl):∃s,A s/\B s/\C s/\Z s:=⟨s,a,b,c,z⟩
def nx4{σ:Type}{A B C D Z:σ->Prop}(s:σ)(z:Z s)(a:A s:=by first|exact True.intro|omega|(simp only[];first|omega|rw[I9 _]|rfl)|rw[I9 _]|rfl)(b:B s:=by first|exact True.intro|omega|(simp only[];first|omega|rw[I9 _]|rfl)|rw[I9 _]|rfl)(c:C s:=by first|exact True.intro|omega|(simp only[];first|omega|rw[I9 _]|rfl)|rw[I9 _]|rfl)(d:D s:=by first|exact True.intro|omega|(simp only[];first|omega|rw[I9 _]|rfl)|rw[I9 _]|rfl):∃s,A s/\B s/\C s/\D s/\Z s:=⟨s,a,b,c,d,z⟩
def nx5{σ:Type}{A B C D E Z:σ->Prop}(s:σ)(z:Z s)(a:A s:=by first|exact True.intro|omega|(simp only[];first|omega|rw[I9 _]|rfl)|rw[I9 _]|rfl)(b:B s:=by first|exact True.intro|omega|(simp only[];first|omega|rw[I9 _]|rfl)|rw[I9 _]|rfl)(c:C s:=by first|exact True.intro|omega|(simp only[];first|omega|rw[I9 _]|rfl)|rw[I9 _]|rfl)(d:D s:=by first|exact True.intro|omega|(simp only[];first|omega|rw[I9 _]|rfl)|rw[I9 _]|rfl)(e:E s:=by first|exact True.intro|omega|(simp only[];first|omega|rw[I9 _]|rfl)|rw[I9 _]|rfl):∃s,A s/\B s/\C s/\D s/\E s/\Z s:=⟨s,a,b,c,d,e,z⟩
def ex9(k:Nat)(h:k<4000000000000000000):IntKind.i64.wrap (k:Int)=(k:Int):=N7 _ om
def ey1(k:Nat):decide ((0:Int)<=(k:Int))=true:=dG
def I4(P:Program)(t T sz a:Nat):Bool:=
 (P6 P t==some T)&&(match I7 P T with|some z=>z.cells.size==sz|none=>false)&&(O7 P T==sz)&&(dv5 P T==a)&&decide (0<sz)&&decide (sz<=1000000)
def ab3{P t T sz by_}(h:I4 P t T sz by_=true):
  P6 P t=some T/\(∃z,I7 P T=some z/\z.cells.size=sz)/\O7 P T=sz/\dv5 P T=by_/\0<sz/\sz<=1000000:=by
 simp only[I4,eF1,beq_iff_eq,eH1]at h;obtain⟨⟨⟨⟨⟨b,a⟩,c⟩,d⟩,e⟩,f⟩:=h;refine⟨b,?_,c,d,e,f⟩;cases hz:I7 P T with
 | none=>simp[hz]at a
 | some z=>exact⟨z,rfl,by simpa[hz]using a⟩
section
variable {P:Program} {w:World} {h:Hp} {t T sz by_:Nat} {v:Value}
def push{α:Type}[A9 α]{e}(n:I4 P t T sz by_=true)(a:A9.sz α=sz){xs:List α}(m:B7 h w T v xs){x:Value}{y:α}(i:A9.enc h x.cells.toList y)
  (l:xs.length+1<=1000000000000) (hb:(xs.length+1)*by_<=140737488355328) (hw:E6 h (n8 w)) :
  (Instr.buildSlice t 1 #[(0,x)]).run P w = .ok (.slice (some ⟨w.heap.size,0,none⟩) 1 1) (w.alloc (.cells x.cells T)) /\
  ∃c d,(Builtin.append_ #[t,t] e #[v,.slice (some ⟨w.heap.size,0,none⟩) 1 1]).run P (w.alloc (.cells x.cells T)) = .ok c d/\B7 h d T c (xs++[y])/\t8 (B0 v) w d/\F4 w v c:=by
 obtain⟨f,⟨z,j,b⟩,g,k,p,q⟩:=ab3 n;have o:x.cells.size=sz:=by have:=A9.len i;simpa[a]using this
 exact⟨aC6 f j om om (by rw[o,g]),dD8 f j (by rw[g,a]) (by rw[b,a]) m i l (by rw[k];exact hb) hw⟩
def lit{α:Type}[A9 α](s:I4 P t T sz by_=true){xs:List Value}{ys:List α}{parts:Array (Nat×Value)}{n}(q:parts.toList=(xs.zipIdx 0).map λp=>(p.2,p.1))
  (c:V4 h (xs.flatMap (·.cells.toList)) ys) (u:∀x∈xs,x.cells.size=sz) (hn:n=xs.length) (a:ys.length=xs.length) (e:xs≠[]) (d:xs.length<=16) (hw:E6 h (n8 w)) :
  ∃v f,(Instr.buildSlice t n parts).run P w = .ok v f/\B7 h f T v ys/\o6 w f/\(∀b,B0 v b->w.heap.size<=b):=by
 obtain⟨j,⟨z,g,y⟩,k,A,B,C⟩:=ab3 s;obtain⟨i,m,o⟩:=B1 g;have r:=aJ5 (w:=w) j (by rw[m];rfl) g xs (by rw[k];exact u) e om (eD7 (Nat.mul_le_mul d (show O7 P T<=1000000 by omega)) om) q hn;refine⟨_,_,r,.inr ⟨w.heap.size,n,_,by rw[hn,a],aT4 hw (eE8 _),eH3 w _,om,by rw[hn];simp only[maxLen];omega,?_,?_⟩,o6.alloc _ _,λb l=>by simp[B0,Value.ownBlock]at l;omega⟩
 .have:=Q9 c;simp only[eO0,this,a,hn]
 .rw[<-Q9 c];simp only[eE4];exact c
def cY8{α:Type}[A9 α]{c:List Value}{y:α}(a:A9.enc h c y):∀n:Nat,V4 h (replicate n c).flatten (replicate n y)
 | 0=>rfl
 | n+1=>⟨c,(replicate n c).flatten,by simp[replicate_succ],a,cY8 a n⟩
def cz9(z:Array Value)(c:0<z.size):∀n:Nat,((Array.range (n*z.size)).map λi=>z[i % z.size]!).toList=(replicate n z.toList).flatten
 | 0=>dG
 | n+1=>by
  have b:=cz9 z c n;simp only[Array.toList_map,Array.toList_range]at b ⊢;rw[eP3,Nat.one_mul,range_add,eG8,b,replicate_succ',flatten_append]
  congr 1
  simp only[map_map,flatten_cons,flatten_nil,eG5];apply eK8
  .simp
  .intro i a d;simp only[eE3,eI3]at a;have:(n*z.size+i) % z.size=i:=by rw[Nat.add_comm,Nat.add_mul_mod_self_right];exact Nat.mod_eq_of_lt a
   simp[this,a]
def mk{α:Type}[A9 α](E:I4 P t T sz by_=true){z:Value}(x:I7 P T=some z){y:α}(u:A9.enc h z.cells.toList y){n}(hb:by_*n<=281474976710656)(hn:n<=1000000000000)(hw:E6 h (n8 w)):
  ∃v k,(Instr.makeSlice t n n).run P w = .ok v k/\B7 h k T v (replicate n y)/\o6 w k/\(∀b,B0 v b->w.heap.size<=b)/\k.heap.size=w.heap.size+1:=by
 obtain⟨A,⟨G,r,d⟩,s,B,H,I⟩:=ab3 E;obtain rfl:z=G:=eF3 (x.symm.trans r);obtain⟨i,e,o⟩:=B1 x;have m:i.bytes=by_:=by rw[<-B,aO5 e]
 have F:i.size=sz:=by rw[<-s,F8 e]
 have D:=A9.len u;have a:A9.sz α=sz:=by rw[<-D];simpa using d
 have q:IntKind.i64.wrap (n:Int)=n:=ex9 n om;have p:¬((by_:Int)*(n:Int)>281474976710656):=by
  have:=Int.ofNat_le.2 hb;rw[Int.natCast_mul]at this;omega
 have j:(2:Int) ^ 48=281474976710656:=by decide +kernel
 have c:∀b w,(askRoom b).run P w = .ok () w:=by
  intro b w;unfold askRoom;split
  .rfl
  .rfl
 refine⟨.slice (some ⟨w.heap.size,0,none⟩) n n,w.alloc (.cells ((Array.range (n*sz)).map λi=>z.cells[i % z.cells.size]!) T),?_,?_,o6.alloc _ _,λb l=>by simp[B0,Value.ownBlock]at l;omega,dG⟩
 .unfold Instr.makeSlice;simp only[eG2,J6,R7 A,eF5,asInt,asIntOf,eH9,Q7,e,m,q,j];have C:((decide ((n:Int)<0)||decide ((by_:Int)*(n:Int)>281474976710656))||decide ((n:Int)<0)||decide ((n:Int)>(n:Int)))=false:=by
   rw[eG7 (show ¬((n:Int)<0) by omega),eG7 p,eG7 (show ¬((n:Int)>(n:Int)) by omega)];rfl
  simp only[C,eK7,eM4,eG2,c,eF5,eF4,X3 (show(P.info? T).isSome=true by rw[e];rfl),s];by_cases h0:n*sz=0
  .have e0:∀(g:Nat->Value),(Array.range 0).map g=#[]:=λg=>dG
   simp only[h0,eK2,e0];simp only[eG2,eH9,eF5];rfl
  .simp only[h0,eM4,eG2,zeroValue,Q7,e,eF5,o,eH9];rfl
 .right;refine⟨w.heap.size,n,_,dG,aT4 hw (eE8 _),eH3 w _,dG,by simp only[maxLen];omega,by simp[a],?_⟩;have:=cz9 z.cells om n;rw[d]at this ⊢;rw[this,eJ3,a];have f:(replicate n z.cells.toList).flatten.length=n*sz:=by simp[d]
  rw[<-f,eE4];exact cY8 u n
end
structure Ptr (α:Type) where
 to:α
instance {α:Type} [A9 α]:A9 (Ptr α) where
 sz:=1
 pos:=om
 enc h cs x:=∃a es,cs=[.pointer (some a)]/\A9.enc h es x.to/\∀j v,es[j]?=some v->P4 h (a.add j)=some v
 len:=by rintro h cs x ⟨a,es,rfl,_⟩;rfl
 mono:=by
  rintro h k cs x hk ⟨a,es,e,h1,h2⟩;exact⟨a,es,e,A9.mono hk h1,λj v hv=>K9 hk (h2 j v hv)⟩
 one:=by
  rintro h cs x ⟨a,es,rfl,_⟩ v hv;simp at hv;subst hv;rfl
structure Raw where
 v:Value
instance:A9 Raw where
 sz:=1
 pos:=om
 enc _ cs x:=cs=[x.v]/\x.v.oneCell'=true
 len h:=by simp[h.1]
 mono _ h:=h
 one h:=by
  intro v hv;rw[h.1]at hv;simp at hv;subst hv;exact h.2
structure E1 {α:Type} [A9 α] (h:Hp) (w:World) (T T':TypeId) (v:Value) (us:List Raw) (xss:List (List α)):Prop where
 outer:B7 h w T v us
 len:us.length=xss.length
 row:∀(i:Nat) (u:Raw) (xs:List α),us[i]?=some u->xss[i]?=some xs->B7 h w T' u.v xs
 apart:∀(i j:Nat) (u u':Raw),i≠j->us[i]?=some u->us[j]?=some u'->∀b,B0 u.v b->¬B0 u'.v b
 off:∀(i:Nat) (u:Raw),us[i]?=some u->∀b,B0 u.v b->¬B0 v b
def Q6(v:Value)(us:List Raw)(b:Nat):Prop:=B0 v b\/∃u∈us,B0 u.v b
section
variable {α:Type} [A9 α] {h:Hp} {w:World} {T T':TypeId} {v:Value} {us:List Raw} {xss:List (List α)}
def E1.free(c:E1 h w T T' v us xss){b}(hb:Q6 v us b):h b=none:=by
 rcases hb with hb|⟨u,e,hb⟩
 .exact c.outer.free hb
 .obtain⟨i,d⟩:=eM7.1 e;have a:i<xss.length:=by rw[<-c.len];exact(eD8.1 d).1
  exact(c.row i u _ d (eD1 a)).free hb
def E1.lt(c:E1 h w T T' v us xss){b}(hb:Q6 v us b):b<w.heap.size:=by
 rcases hb with hb|⟨u,e,hb⟩
 .exact c.outer.lt hb
 .obtain⟨i,d⟩:=eM7.1 e;have a:i<xss.length:=by rw[<-c.len];exact(eD8.1 d).1
  exact(c.row i u _ d (eD1 a)).lt hb
def E1.mod{M:Nat->Prop}{w'}(a:E1 h w T T' v us xss)(hm:t8 M w w')(d:∀b,Q6 v us b->¬M b):E1 h w' T T' v us xss:=
 ⟨a.outer.mod hm λb c=>d b (.inl c),a.len,λi u g e f=>(a.row i u g e f).mod hm λb c=>d b (.inr ⟨u,eF7 e,c⟩),a.apart,a.off⟩
def E1.ext{w'}(a:E1 h w T T' v us xss)(hm:o6 w w'):E1 h w' T T' v us xss:=a.mod hm λ_ _=>id
def E1.set{w' w''}(n:E1 h w T T' v us xss){i}{u:Raw}(z:us[i]?=some u){u'}{xs:List α}
  (hm:t8 (B0 u.v) w w') (F:B7 h w' T' u' xs) (hv:F4 w u.v u')
  (t:t8 (B0 v) w' w'') (D:B7 h w'' T v (us.set i ⟨u'⟩)):E1 h w'' T T' v (us.set i ⟨u'⟩) (xss.set i xs):=by
 have q:i<us.length:=(eD8.1 z).1;have p:∀b,B0 u' b->¬B0 v b:=λb f c=>by
  rcases hv b f with o|o
  .exact n.off i u z b o c
  .have:=n.outer.lt c;omega
 have l:∀(j:Nat) (x:Raw),(us.set i ⟨u'⟩)[j]?=some x->(j=i/\x=⟨u'⟩)\/(j≠i/\us[j]?=some x):=by
  intro j x g;rw[getElem?_set]at g;by_cases a:i=j
  .subst a;simp only[eK2,fi q]at g;exact .inl ⟨rfl,(eF3 g).symm⟩
  .rw[fh a]at g;exact .inr ⟨λe=>a e.symm,g⟩
 have m:∀(j:Nat) (x:Raw),j≠i->us[j]?=some x->∀b,B0 x.v b->¬B0 u' b:=by
  intro j x a g b f c;rcases hv b c with o|o
  .exact n.apart j i x u a g z b f o
  .have C:j<xss.length:=by rw[<-n.len];exact(eD8.1 g).1
   have:=(n.row j x _ g (eD1 C)).lt f;omega
 refine⟨D,by simp[n.len],?_,?_,?_⟩
 .intro j x G g A;rcases l j x g with⟨rfl,rfl⟩|⟨a,d⟩
  .rw[getElem?_set,fi rfl,fi (by rw[<-n.len];exact q)]at A;obtain rfl:=eF3 A;exact F.mod t p
  .rw[getElem?_set,fh (λe=>a e.symm)]at A;refine((n.row j x G d A).mod hm λb f c=>n.apart j i x u a d z b f c).mod t λb f=>n.off j x d b f
 .intro j k x y r g E b f c;rcases l j x g with⟨rfl,rfl⟩|⟨a,d⟩<;>rcases l k y E with⟨rfl,rfl⟩|⟨B,s⟩
  .exact r rfl
  .exact m k y B s b c f
  .exact m j x a d b f c
  .exact n.apart j k x y r d s b f c
 .intro j x g b f;rcases l j x g with⟨rfl,rfl⟩|⟨a,d⟩
  .exact p b f
  .exact n.off j x d b f
def E1.ro(g:E1 h w T T' v us xss)(hw:E6 h (n8 w)):R (n8 w) v xss:=by
 obtain⟨a,n,c,e,r,s,b,t,x⟩:=(g.outer.rw_ hw);refine⟨a,n,c,e,by rw[r,g.len],s,b,?_,x⟩;have o:∀(us:List Raw) (xss:List (List α)) (b:List Value),us.length=xss.length->V4 (n8 w) b us ->
   (∀(i:Nat) (u:Raw) (d:List α),us[i]?=some u->xss[i]?=some d->R (n8 w) u.v d)->V4 (n8 w) b xss:=by
  intro us
  induction us with
  | nil=>
   intro xss b f m _;have:xss=[]:=eq_nil_of_length_eq_zero f.symm;subst this;exact m
  | cons u us B=>
   intro xss b f m j;cases xss with
   | nil=>simp at f
   | cons d xss=>
    obtain⟨D,q,rfl,⟨k,_⟩,l⟩:=m;subst k;exact⟨[u.v],q,rfl,j 0 u d rfl rfl,B xss q (by simpa using f) l λi C p y z=>j (i+1) C p (by simpa using y) (by simpa using z)⟩
 exact o us xss b g.len t λi u d A j=>(g.row i u d A j).rw_ hw
end
section
variable {P:Program} {w:World} {h:Hp} {t T:TypeId} {v:Value}
def cr7(w:World)(z cs T):(w.alloc (.cells z T)).setRow w.heap.size cs=w.alloc (.cells cs T):=by
 unfold World.setRow World.alloc
 congr 1
 apply Array.ext
 .simp
 .intro i b a;simp only[Array.getElem_modify];by_cases hi:w.heap.size=i
  .subst hi;simp
  .rw[fh hi];have:i<w.heap.size:=by simp at a;omega
   simp[Array.getElem_push,this]
def aE6{z:Value}(g:I7 P T=some z)(f:z.cells.size=O7 P T){cs:Array Value}(b:cs.size=O7 P T)(e:∀u∈cs.toList,u.oneCell'=true):
  (Instr.alloc T true (.tuple #[])).run P w = .ok (.pointer (some ⟨w.heap.size,0,none⟩)) (w.alloc (.cells z.cells T)) /\
  (Instr.storeAt T (.pointer (some ⟨w.heap.size,0,none⟩)) (.agg cs)).run P (w.alloc (.cells z.cells T)) = .ok () (w.alloc (.cells cs T)):=by
 obtain⟨i,c,d⟩:=B1 g;constructor
 .unfold Instr.alloc zeroValue;simp only[eG2,Q7,c,d,eH9,eF5];rfl
 .have a:=run_storeCells_from (P:=P) w.heap.size T cs.toList 0 z.cells (w.alloc (.cells z.cells T)) (eH3 w _) (by simp[b,f]) e;simp only[eN9,eL4,Array.toArray_toList]at a;unfold Instr.storeAt storeVar;simp only[Instr.sureAddr,eG2,eH9,eF5,sizeOf,Q7,c,Value.cells];rw[F8 c]at b;simp only[b,ne_eq,not_true_eq_false,eM4];rw[<-cr7 w z.cells cs T];exact a
def dv9{cs i u}(a:cs[i]?=some u):(w.alloc (.cells cs T)).cell? ⟨w.heap.size,i,none⟩=some u:=by
 rw[eP9];exact a
def dB1{cs i u}(b:cs[i]?=some u)(a:L7 P t=false):(Instr.loadAt t (.pointer (some ⟨w.heap.size,i,none⟩))).run P (w.alloc (.cells cs T)) = .ok u (w.alloc (.cells cs T)):=
 ab0 a (dv9 b)
def cp9{xs:List (Int×Int)}(o:R h v xs)(hw:E6 h (n8 w)){k}{x:Int×Int}(n:xs[k]?=some x)(q:L7 P t=true)(r:(P.underlying t).isSome=true)(l:(P.info? t).isSome=true)(p:O7 P t=2):
  (Instr.loadAt t (.pointer (some (I2 v (k*2))))).run P w = .ok (.agg #[.int .i64 x.1,.int .i64 x.2]) w:=by
 obtain⟨_,s,i,g⟩:=o.get n;obtain⟨c,d,rfl,e,f⟩:=i;have a:c=[.int .i64 x.1]:=e;have b:d=[.int .i64 x.2]:=f;subst a b;exact bT3 (cs:=[.int .i64 x.1,.int .i64 x.2]) q r l p λj u m=>K9 hw (g j u m)
def add_lit(b o k):(⟨b,o,none⟩:Addr).add k=⟨b,o+k,none⟩:=by unfold Addr.add;split<;>simp_all
def R.row{α:Type}[A9 α]{a:List (List α)}(i:R h v a){k}{x:List α}(f:a[k]?=some x):∃u,R h u x/\P4 h (I2 v k)=some u:=by
 obtain⟨_,b,c,e⟩:=i.get f;have g:b.length=1:=A9.len c
 match b,g with
 | [u],_=>
  have:=e 0 u rfl;rw[O9]at this;have d:(k*A9.sz (List α))=k:=eM2 k;rw[d]at this;exact⟨u,c,this⟩
def M0{a u}(b:P4 h a=some u)(hw:E6 h (n8 w))(c:L7 P t=false):(Instr.loadAt t a).run P w = .ok u w:=
 ab0 c (K9 hw b)
def B7.ext2{α:Type}[A9 α]{w0 w2}{xs:List α}(e:B7 (n8 w0) w T v xs)(f:o6 w0 w)(hm:t8 (B0 v) w w2):o6 w0 w2:=
 t8.ext_of f hm λb d=>by
  rcases eH4 b w0.heap.size with c|a
  .have:=e.free d;simp[n8,c]at this
  .exact a
def bA6{α:Type}[L6 α]{k}:∀{b:List α} {a:List Value},V4 k a b->V4 h a b
 | [],_,e=>e
 | _::_,_,⟨c1,c2,e,h1,h2⟩=>⟨c1,c2,e,h1,bA6 h2⟩
def B7.down{α:Type}[L6 α]{k}{xs:List α}(p:B7 k w T v xs)(m:E6 h k):B7 h w T v xs:=by
 rcases p with n|⟨b,c,a,rfl,d,f,g,i,j,l⟩
 .exact .inl n
 .refine .inr ⟨b,c,a,rfl,?_,f,g,i,j,bA6 l⟩;cases e:h b with
  | none=>rfl
  | some o=>rw[m b o e]at d;cases d
def B7.back{α:Type}[L6 α]{w0 w1}{xs:List α}(a:B7 (n8 w1) w T v xs)(b:o6 w0 w1):B7 (n8 w0) w T v xs:=a.down (b7 b)
end
open Classical in
noncomputable def aA5 (w:World) (v:Value):Hp:=λb=>if B0 v b then none else w.heap[b]?
def aP2{w v b}(h:B0 v b):aA5 w v b=none:=by unfold aA5;rw[fi h]
def al1{w v b}(h:¬B0 v b):aA5 w v b=w.heap[b]?:=by unfold aA5;rw[fh h]
def bs9(w v):E6 (aA5 w v) (n8 w):=λb o e=>by
 by_cases h:B0 v b
 .rw[aP2 h]at e;cases e
 .rw[al1 h]at e;exact e
section
variable {α:Type} [A9 α] {h:Hp} {w:World} {T:TypeId} {v:Value} {xs:List α}
def B7.rebase(c:B7 h w T v xs)(hw:E6 h (n8 w)):B7 (aA5 w v) w T v xs:=by
 refine c.up (λb o e=>?_) λb a=>aP2 a;have d:¬B0 v b:=λa=>by rw[c.free a]at e;cases e
 rw[al1 d];exact hw b o e
def B7.beside{β:Type}[A9 β]{k T' u}{ys:List β}(e:B7 k w T' u ys)(d:E6 k (aA5 w v))(c:∀b,B0 u b->¬B0 v b):R (aA5 w v) u ys:=
 e.ro d λb a=>al1 (c b a)
end
def E1.write{α:Type}[A9 α]{h w w' T T' v}{us:List Raw}{c:List (List α)}(k:E1 h w T T' v us c){i}{u:Raw}(g:us[i]?=some u){xs:List α}
  (hm:t8 (B0 u.v) w w') (m:B7 h w' T' u.v xs):E1 h w' T T' v us (c.set i xs):=by
 have a:us.set i ⟨u.v⟩=us:=by
  obtain⟨p,e⟩:=eD8.1 g;apply eK8 dG;intro j n o;rw[getElem_set];split
  .rename_i l;subst l;exact e.symm
  .rfl
 have:=k.set (u':=u.v) (xs:=xs) g hm m (λb d=>.inl d) (t8.refl _) (by
  rw[a];exact k.outer.mod hm λb d f=>k.off i u g b f d)
 rw[a]at this;exact this
open Classical in
noncomputable def D9 (w:World) (N:Nat->Prop):Hp:=λb=>if N b then none else w.heap[b]?
def G2{w}{N:Nat->Prop}{b}(h:N b):D9 w N b=none:=by unfold D9;rw[fi h]
def E9{w}{N:Nat->Prop}{b}(h:¬N b):D9 w N b=w.heap[b]?:=by unfold D9;rw[fh h]
def B6(w)(N:Nat->Prop):E6 (D9 w N) (n8 w):=λb o e=>by
 by_cases h:N b
 .rw[G2 h]at e;cases e
 .rw[E9 h]at e;exact e
def M8{w w'}{N N' M:Nat->Prop}(hm:t8 M w w')(d:∀b,M b->N b)(hN:∀b,N' b->N b\/w.heap.size<=b):E6 (D9 w N) (D9 w' N'):=λb o e=>by
 by_cases h:N b
 .rw[G2 h]at e;cases e
 .rw[E9 h]at e;have f:b<w.heap.size:=(eD5.1 e).1;have c:¬N' b:=λa=>by
   rcases hN b a with k|k
   .exact h k
   .omega
  rw[E9 c,hm.block b f λg=>h (d b g)];exact e
def bf7{w0 w}{N:Nat->Prop}(c:o6 w0 w)(hN:∀b,N b->w0.heap.size<=b):E6 (n8 w0) (D9 w N):=λb o e=>by
 have d:b<w0.heap.size:=(eD5.1 (show w0.heap[b]?=some o from e)).1;have a:¬N b:=λh=>by have:=hN b h;omega
 rw[E9 a];exact b7 c b o e
section
variable {α:Type} [A9 α] {h:Hp} {w:World} {T:TypeId} {v:Value} {xs:List α} {N:Nat->Prop}
def B7.noMod{w'}{N' M:Nat->Prop}(e:B7 (D9 w N) w T v xs)(hm:t8 M w w')(a:∀b,M b->N b)(d:∀b,B0 v b->¬M b)(hN:∀b,N' b->N b\/w.heap.size<=b)(hv:∀b,B0 v b->N' b):B7 (D9 w' N') w' T v xs:=
 (e.mod hm d).up (M8 hm a hN) λb c=>G2 (hv b c)
def B7.roNo{k}(e:B7 k w T v xs)(d:E6 k (D9 w N))(c:∀b,B0 v b->¬N b):R (D9 w N) v xs:=e.ro d λb a=>E9 (c b a)
def B7.reNo(d:B7 h w T v xs)(c:E6 h (D9 w N))(hv:∀b,B0 v b->N b):B7 (D9 w N) w T v xs:=d.up c λb a=>G2 (hv b a)
end
def eO8:=@Bool.eq_iff_iff
def eL8:=@Iff.rfl
def eP0:=@List.cons.injEq
def eP1:=@cons_append
def eF0:=@mem_cons
def eH6:=@not_mem_nil
def eM0:=@or_false
structure B9 where
 b:List UInt8
 deriving DecidableEq
instance:Inhabited B9:=⟨⟨[]⟩⟩
def ofA(b:Array UInt8):B9:=⟨b.toList⟩
abbrev e0:B9:=ofA #[]
def A4(s:B9):Value:=.string ⟨s.b.toArray⟩
instance:Coe B9 Value:=⟨A4⟩
instance:L6 B9:=⟨A4,λ_=>rfl⟩
def aG6(l:List UInt8):(⟨l.toArray⟩:ByteArray).toList=l:=by
 rw[ByteArray.toList_eq]
def ltS(a b:B9):Bool:=Op.bytesLess a.b b.b
def bM7(a b:B9):(a.b==b.b)=decide (a=b):=by
 apply eO8.2;rw[beq_iff_eq,decide_eq_true_iff];cases a;cases b;simp
section
variable {P:Program} {t:TypeId}
def cW8{a b:B9}:E2 P .eql t (A4 a) (A4 b)=some (.bool (decide (a=b))):=by
 simp only[A4,E2,aG6,bM7]
def dN2{a b:B9}:E2 P .neq t (A4 a) (A4 b)=some (.bool (!decide (a=b))):=by
 simp only[A4,E2,aG6,bM7]
def eu2{a b:B9}:E2 P .lss t (A4 a) (A4 b)=some (.bool (ltS a b)):=by
 simp only[A4,E2,aG6,ltS]
def dN1{a b:B9}:E2 P .gtr t (A4 a) (A4 b)=some (.bool !(ltS a b||decide (a=b))):=by
 simp only[A4,E2,aG6,ltS,bM7]
def el8{s:B9}(h:cs4 P t=true)(a:P6 P t=none):ad8 P t (A4 s)=some (.int .i64 (s.b.length:Nat)):=by
 simp only[ad8,a,Option.isSome_none,eK7,eM4,A4,h,eK2];rfl
end
def bW9(h:Hp)(v:Value)(n:Nat)(E:List Value->Prop):Prop:=∃a m c d,v = .slice a m c/\m=n/\m<=c/\E d/\∀j u,d[j]?=some u->∃b,a=some b/\P4 h (b.add j)=some u
def bn8{h k}(s:E6 h k){v n}{E F:List Value->Prop}(q:∀b,E b->F b):bW9 h v n E->bW9 k v n F:=by
 rintro⟨a,m,c,b,e,f,g,i,l⟩;refine⟨a,m,c,b,e,f,g,q _ i,λj u r=>?_⟩;obtain⟨d,o,p⟩:=l j u r;exact⟨d,o,K9 s p⟩
def bD2{h}{v:Value}{n}{E:List Value->Prop}:bW9 h v n E->v.oneCell'=true:=by
 rintro⟨a,m,c,b,rfl,_⟩;rfl
def cW2{α:Type}[A9 α]{h v}{xs:List α}:R h v xs↔bW9 h v xs.length (λb=>V4 h b xs):=by
 constructor
 .rintro⟨a,n,c,e,d,f,b,g,i⟩;simp only[eP0,and_true]at e;exact⟨a,n,c,b,e,d,f,g,i⟩
 .rintro⟨a,n,c,b,rfl,d,f,g,i⟩;exact⟨a,n,c,rfl,d,f,b,g,i⟩
structure bN4 (α:Type) where
 n:Nat
 pos:0<n
 cells:α->List Value
 len:∀x,(cells x).length=n
 one:∀x,∀v∈cells x,v.oneCell'=true
abbrev bN4.rep{α:Type}(F:bN4 α):A9 α where
 sz:=F.n
 pos:=F.pos
 enc _ cs x:=cs=F.cells x
 len h:=by rw[h];exact F.len _
 mono _ h:=h
 one h:=by intro v a;rw[h]at a;exact F.one _ v a
structure Pa where
 name:B9
 ref:Bool
 deriving DecidableEq
def Pa.cells(p:Pa):List Value:=[A4 p.name,.bool p.ref]
instance:A9 Pa:=bN4.rep ⟨2,om,Pa.cells,λ_=>rfl,λx v hv=>by simp[Pa.cells]at hv;rcases hv with rfl|rfl<;>rfl⟩
structure Sp where
 src:Int
 dst:Int
 kind:Int
 deriving DecidableEq
def Sp.cells(p:Sp):List Value:=[.int .i64 p.src,.int .i64 p.dst,.int .i64 p.kind]
instance:A9 Sp:=bN4.rep ⟨3,om,Sp.cells,λ_=>rfl,λx v hv=>by simp[Sp.cells]at hv;rcases hv with rfl|rfl|rfl<;>rfl⟩
structure Fw where
 src:Int
 dst:Int
 var:B9
 deriving DecidableEq
def Fw.cells(p:Fw):List Value:=[.int .i64 p.src,.int .i64 p.dst,A4 p.var]
instance:A9 Fw:=bN4.rep ⟨3,om,Fw.cells,λ_=>rfl,λx v hv=>by simp[Fw.cells]at hv;rcases hv with rfl|rfl|rfl<;>rfl⟩
structure Vx where
 proc:B9
 kind:Int
 id:Int
 slot:B9
 deriving DecidableEq
def Vx.cells(p:Vx):List Value:=[A4 p.proc,.int .i64 p.kind,.int .i64 p.id,A4 p.slot]
instance:A9 Vx:=bN4.rep ⟨4,om,Vx.cells,λ_=>rfl,λx v hv=>by simp[Vx.cells]at hv;rcases hv with rfl|rfl|rfl|rfl<;>rfl⟩
structure Eg where
 src:Vx
 dst:Vx
 kind:Int
 deriving DecidableEq
def Eg.cells(p:Eg):List Value:=p.src.cells++p.dst.cells++[.int .i64 p.kind]
instance:A9 Eg:=bN4.rep ⟨9,om,Eg.cells,λ_=>rfl,λx v hv=>by simp[Eg.cells,Vx.cells]at hv;rcases hv with rfl|rfl|rfl|rfl|rfl|rfl|rfl|rfl|rfl<;>rfl⟩
inductive Ex where
 | mk (op n:Int) (name:B9) (kids:List Ex)
namespace Ex
def op:Ex->Int | .mk a _ _ _=>a
def n:Ex->Int | .mk _ a _ _=>a
def name:Ex->B9 | .mk _ _ a _=>a
def kids:Ex->List Ex | .mk _ _ _ a=>a
end Ex
mutual
def br2(h:Hp):Ex->List Value->Prop
 | .mk op n name kids,cs=>∃a,cs=[.int .i64 op,.int .i64 n,A4 name,a]/\bW9 h a kids.length (aM7 h kids)
def aM7(h:Hp):List Ex->List Value->Prop
 | [],cs=>cs=[]
 | x::xs,cs=>∃a b,cs=a++b/\br2 h x a/\aM7 h xs b
end
mutual
def bQ2{h k}(b:E6 h k):∀(x:Ex) (a:List Value),br2 h x a->br2 k x a
 | .mk op n name kids,a,e=>by
  simp only[br2]at *;obtain⟨g,c,d⟩:=e;exact⟨g,c,bn8 b (λf=>bG3 b kids f) d⟩
def bG3{h k}(d:E6 h k):∀(x:List Ex) (a:List Value),aM7 h x a->aM7 k x a
 | [],a,e=>by simpa only[aM7]using e
 | x::xs,a,e=>by
  simp only[aM7]at *;obtain⟨b,c,f,g,i⟩:=e;exact⟨b,c,f,bQ2 d x b g,bG3 d xs c i⟩
end
instance:A9 Ex where
 sz:=4
 pos:=om
 enc h cs x:=br2 h x cs
 len:=by
  rintro h cs ⟨op,n,name,kids⟩ e;simp only[br2]at e;obtain⟨vk,rfl,_⟩:=e;rfl
 mono hk:=bQ2 hk _ _
 one:=by
  rintro h cs ⟨op,n,name,kids⟩ e v hv;simp only[br2]at e;obtain⟨vk,rfl,h2⟩:=e;simp only[eF0,eH6,eM0]at hv;rcases hv with rfl|rfl|rfl|rfl
  .rfl
  .rfl
  .rfl
  .exact bD2 h2
def bQ3{h}:∀(b:List Ex) (a:List Value),aM7 h b a↔V4 h a b
 | [],a=>by simp only[aM7,V4]
 | x::b,a=>by
  simp only[aM7,V4,bQ3 b];exact eL8
def bQ5{h}{cs:List Value}{x:Ex}:A9.enc h cs x↔∃b,cs=[.int .i64 x.op,.int .i64 x.n,A4 x.name,b]/\R h b x.kids:=by
 obtain⟨op,n,name,kids⟩:=x;show br2 h _ cs↔_;simp only[br2,cW2,Ex.op,Ex.n,Ex.name,Ex.kids];have:aM7 h kids=λa=>V4 h a kids:=by funext a;exact propext (bQ3 kids a)
 rw[this]
structure Ar where
 ref:Bool
 name:B9
 x:Ex
instance:A9 Ar where
 sz:=6
 pos:=om
 enc h cs a:=∃c,cs = .bool a.ref::A4 a.name::c/\A9.enc h c a.x
 len:=by rintro h cs a ⟨c,rfl,h2⟩;have:=A9.len h2;simp[this];rfl
 mono:=by rintro h k cs a hk ⟨c,rfl,h2⟩;exact⟨c,rfl,A9.mono hk h2⟩
 one:=by
  rintro h cs a ⟨c,rfl,h2⟩ v hv;simp only[eF0]at hv;rcases hv with rfl|rfl|hv
  .rfl
  .rfl
  .exact A9.one h2 v hv
inductive St where
 | mk (id kind:Int) (labels:List B9) (name proc:B9) (x:Ex) (has:Bool) (args:List Ar) (thn els:List St)
namespace St
def id:St->Int | .mk a _ _ _ _ _ _ _ _ _=>a
def kind:St->Int | .mk _ a _ _ _ _ _ _ _ _=>a
def labels:St->List B9 | .mk _ _ a _ _ _ _ _ _ _=>a
def name:St->B9 | .mk _ _ _ a _ _ _ _ _ _=>a
def proc:St->B9 | .mk _ _ _ _ a _ _ _ _ _=>a
def x:St->Ex | .mk _ _ _ _ _ a _ _ _ _=>a
def has:St->Bool | .mk _ _ _ _ _ _ a _ _ _=>a
def args:St->List Ar | .mk _ _ _ _ _ _ _ a _ _=>a
def thn:St->List St | .mk _ _ _ _ _ _ _ _ a _=>a
def els:St->List St | .mk _ _ _ _ _ _ _ _ _ a=>a
end St
mutual
def br3(h:Hp):St->List Value->Prop
 | .mk id kind labels name proc x has args thn els,cs=>∃d a b e c,cs = .int .i64 id :: .int .i64 kind::d::A4 name::A4 proc::a++[.bool has,b,e,c] /\
   R h d labels/\A9.enc h a x/\R h b args/\bW9 h e thn.length (aC2 h thn)/\bW9 h c els.length (aC2 h els)
def aC2(h:Hp):List St->List Value->Prop
 | [],cs=>cs=[]
 | x::xs,cs=>∃a b,cs=a++b/\br3 h x a/\aC2 h xs b
end
mutual
def bQ4{h k}(a:E6 h k):∀(x:St) (b:List Value),br3 h x b->br3 k x b
 | .mk id kind labels name proc x has args thn els,b,e=>by
  simp only[br3]at *;obtain⟨p,d,n,q,o,f,g,i,j,l,m⟩:=e;exact⟨p,d,n,q,o,f,A9.mono a g,A9.mono a i,A9.mono a j,bn8 a (λc=>aZ9 a thn c) l,bn8 a (λc=>aZ9 a els c) m⟩
def aZ9{h k}(d:E6 h k):∀(x:List St) (a:List Value),aC2 h x a->aC2 k x a
 | [],a,e=>by simpa only[aC2]using e
 | x::xs,a,e=>by
  simp only[aC2]at *;obtain⟨b,c,f,g,i⟩:=e;exact⟨b,c,f,bQ4 d x b g,aZ9 d xs c i⟩
end
def am0{α:Type}[A9 α]{h}{v:Value}{xs:α}(a:R h v xs):v.oneCell'=true:=A9.one a v dG
instance:A9 St where
 sz:=13
 pos:=om
 enc h cs x:=br3 h x cs
 len:=by
  rintro h cs ⟨id,kind,labels,name,proc,x,has,args,thn,els⟩ e;simp only[br3]at e;obtain⟨vl,cx,va,vt,ve,rfl,h2,h3,_⟩:=e;have h4:cx.length=4:=A9.len h3;simp[h4]
 mono hk:=bQ4 hk _ _
 one:=by
  rintro h cs ⟨id,kind,labels,name,proc,x,has,args,thn,els⟩ e v hv;simp only[br3]at e;obtain⟨vl,cx,va,vt,ve,rfl,h2,h3,h4,h5,h6⟩:=e;simp only[eP1,eF0,eE0,eH6,eM0]at hv;rcases hv with rfl|rfl|rfl|rfl|rfl|hv|rfl|rfl|rfl|rfl
  .rfl
  .rfl
  .exact am0 h2
  .rfl
  .rfl
  .exact A9.one h3 v hv
  .rfl
  .exact am0 h4
  .exact bD2 h5
  .exact bD2 h6
def bm3{h}:∀(b:List St) (a:List Value),aC2 h b a↔V4 h a b
 | [],a=>by simp only[aC2,V4]
 | x::b,a=>by
  simp only[aC2,V4,bm3 b];exact eL8
def bQ6{h}{cs:List Value}{s:St}:A9.enc h cs s↔∃e b c f d,cs = .int .i64 s.id :: .int .i64 s.kind::e::A4 s.name::A4 s.proc::b++[.bool s.has,c,f,d] /\
   R h e s.labels/\A9.enc h b s.x/\R h c s.args/\R h f s.thn/\R h d s.els:=by
 obtain⟨id,kind,labels,name,proc,x,has,args,thn,els⟩:=s;show br3 h _ cs↔_;have g:aC2 h thn=λa=>V4 h a thn:=by funext a;exact propext (bm3 thn a)
 have i:aC2 h els=λa=>V4 h a els:=by funext a;exact propext (bm3 els a)
 simp only[br3,cW2,g,i,St.id,St.kind,St.labels,St.name,St.proc,St.x,St.has,St.args,St.thn,St.els]
structure Pr where
 name:B9
 params:List Pa
 vars:List B9
 body:List St
 fin:List B9
instance:A9 Pr where
 sz:=5
 pos:=om
 enc h cs p:=∃v1 v2 v3 v4,cs=[A4 p.name,v1,v2,v3,v4]/\R h v1 p.params/\R h v2 p.vars/\R h v3 p.body/\R h v4 p.fin
 len:=by rintro h cs a ⟨v1,v2,v3,v4,rfl,_⟩;rfl
 mono:=by rintro h k cs a hk ⟨v1,v2,v3,v4,rfl,h1,h2,h3,h4⟩;exact⟨v1,v2,v3,v4,rfl,A9.mono hk h1,A9.mono hk h2,A9.mono hk h3,A9.mono hk h4⟩
 one:=by
  rintro h cs a ⟨v1,v2,v3,v4,rfl,h1,h2,h3,h4⟩ v hv;simp only[eF0,eH6,eM0]at hv;rcases hv with rfl|rfl|rfl|rfl|rfl
  .rfl
  .exact am0 h1
  .exact am0 h2
  .exact am0 h3
  .exact am0 h4
structure Pg where
 globals:List B9
 procs:List Pr
instance:A9 Pg where
 sz:=2
 pos:=om
 enc h cs p:=∃v1 v2,cs=[v1,v2]/\R h v1 p.globals/\R h v2 p.procs
 len:=by rintro h cs a ⟨v1,v2,rfl,_⟩;rfl
 mono:=by rintro h k cs a hk ⟨v1,v2,rfl,h1,h2⟩;exact⟨v1,v2,rfl,A9.mono hk h1,A9.mono hk h2⟩
 one:=by
  rintro h cs a ⟨v1,v2,rfl,h1,h2⟩ v hv;simp only[eF0,eH6,eM0]at hv;rcases hv with rfl|rfl
  .exact am0 h1
  .exact am0 h2
structure It where
 s:St
 proc:Int
 up:Int
 next:Int
 loop:Int
instance:A9 It where
 sz:=17
 pos:=om
 enc h cs p:=∃c,cs=c++[.int .i64 p.proc,.int .i64 p.up,.int .i64 p.next,.int .i64 p.loop]/\A9.enc h c p.s
 len:=by rintro h cs a ⟨c,rfl,h1⟩;have h4:c.length=13:=A9.len h1;simp[h4]
 mono:=by rintro h k cs a hk ⟨c,rfl,h1⟩;exact⟨c,rfl,A9.mono hk h1⟩
 one:=by
  rintro h cs a ⟨c,rfl,h1⟩ v hv;simp only[eE0,eF0,eH6,eM0]at hv;rcases hv with hv|rfl|rfl|rfl|rfl
  .exact A9.one h1 v hv
  all_goals rfl
structure Sh where
 p:Pg
 l:List It
 lo:List Int
 hi:List Int
instance:A9 Sh where
 sz:=5
 pos:=om
 enc h cs p:=∃c v1 v2 v3,cs=c++[v1,v2,v3]/\A9.enc h c p.p/\R h v1 p.l/\R h v2 p.lo/\R h v3 p.hi
 len:=by rintro h cs a ⟨c,v1,v2,v3,rfl,h1,_⟩;have h4:c.length=2:=A9.len h1;simp[h4]
 mono:=by rintro h k cs a hk ⟨c,v1,v2,v3,rfl,h0,h1,h2,h3⟩;exact⟨c,v1,v2,v3,rfl,A9.mono hk h0,A9.mono hk h1,A9.mono hk h2,A9.mono hk h3⟩
 one:=by
  rintro h cs a ⟨c,v1,v2,v3,rfl,h0,h1,h2,h3⟩ v hv;simp only[eE0,eF0,eH6,eM0]at hv;rcases hv with hv|rfl|rfl|rfl
  .exact A9.one h0 v hv
  .exact am0 h1
  .exact am0 h2
  .exact am0 h3
def SV{α:Type}[A9 α](h:Hp)(v:Value)(x:α):Prop:=∃a,v = .agg (toArray a)/\A9.enc h a x
section
variable {α:Type} [A9 α] {h k:Hp} {v:Value} {x:α} {P:Program} {t T:TypeId} {w:World}
def SV.mono(c:E6 h k):SV h v x->SV k v x:=λ⟨a,e,b⟩=>⟨a,e,A9.mono c b⟩
def SV.enc:SV h v x->A9.enc h v.cells.toList x:=by
 rintro⟨b,rfl,a⟩;simpa[Value.cells]using a
def G1{xs:List α}(l:R h v xs)(hw:E6 h (n8 w)){k}(i:xs[k]?=some x)(m:L7 P t=true)(n:(P.underlying t).isSome=true)(f:(P.info? t).isSome=true)(c:O7 P t=A9.sz α):
  ∃d,SV h d x/\(Instr.loadAt t (.pointer (some (I2 v (k*O7 P t))))).run P w = .ok d w:=by
 obtain⟨_,a,b,e⟩:=l.get i;refine⟨.agg (toArray a),⟨a,rfl,b⟩,?_⟩;rw[c];exact bT3 (cs:=a) m n f (by rw[c,A9.len b]) λj u g=>K9 hw (e j u g)
end
abbrev W8(P:Program)(w:World)(t:TypeId)(a:Addr)(v:Value):Prop:=(Instr.loadAt t a).run P w = .ok v w
abbrev J4(P:Program)(S:World->Prop)(t:TypeId)(a:Addr)(v:Value):Prop:=∀K f d w,X8 P S (Instr.loadAt t a) K f d w=K (G9 f d v) w
def At{α:Type}[A9 α](h:Hp)(a:Addr)(x:α):Prop:=∃b,A9.enc h b x/\∀j u,b[j]?=some u->P4 h (a.add j)=some u
section
variable {α:Type} [A9 α] {h k:Hp} {v:Value} {x:α} {P:Program} {t T:TypeId} {w:World} {a:Addr}
def At.mono(b:E6 h k):At h a x->At k a x:=λ⟨c,d,e⟩=>⟨c,A9.mono b d,λj u f=>K9 b (e j u f)⟩
def R.at_{xs:List α}(b:R h v xs){i}(a:xs[i]?=some x):At h (I2 v (i*A9.sz α)) x:=(b.get a).2
def Ptr.at_{p:Ptr α}(f:R h v p):∃a,v = .pointer (some a)/\At h a p.to:=by
 obtain⟨a,b,e,c,d⟩:=f;simp only[eP0,and_true]at e;exact⟨a,e,b,c,d⟩
def At.ptr(e:At h a x):R h a (⟨x⟩:Ptr α):=by
 obtain⟨b,c,d⟩:=e;exact⟨a,b,rfl,c,d⟩
def At.sv(e:At h a x)(l:L7 P t=true)(m:(P.underlying t).isSome=true)(g:(P.info? t).isSome=true)(k:O7 P t=A9.sz α):
  ∃d,SV h d x/\∀w,E6 h (n8 w)->(Instr.loadAt t a).run P w = .ok d w:=by
 obtain⟨b,c,f⟩:=e;exact⟨.agg (toArray b),⟨b,rfl,c⟩,λw n=>bT3 (cs:=b) l m g (by rw[k,A9.len c]) λj u i=>K9 n (f j u i)⟩
def B5{b:List Value}(c:∀j u,b[j]?=some u->P4 h (a.add j)=some u){o u}(d:b[o]?=some u)(e:L7 P t=false):
  ∀w,E6 h (n8 w)->(Instr.loadAt t (a.add o)).run P w = .ok u w:=λw f=>ab0 e (K9 f (c o u d))
def bL3{β:Type}[A9 β]{y:β}{b c:List Value}(d:∀j u,b[j]?=some u->P4 h (a.add j)=some u){o}(g:A9.enc h c y)(f:∀j u,c[j]?=some u->b[o+j]?=some u):At h (a.add o) y:=
 ⟨c,g,λj u e=>by rw[Addr.add_add'];exact d _ _ (f j u e)⟩
def N8{b:List Value}(c:∀j u,b[j]?=some u->P4 h (a.add j)=some u){u}(d:b[0]?=some u)(e:L7 P t=false):
  ∀w,E6 h (n8 w)->(Instr.loadAt t a).run P w = .ok u w:=λw f=>by
 have:=B5 (P:=P) (t:=t) c d e w f
 rwa [O9]at this
def bq6{β:Type}[A9 β]{y:β}{b c:List Value}(d:∀j u,b[j]?=some u->P4 h (a.add j)=some u)(f:A9.enc h c y)(e:∀j u,c[j]?=some u->b[0+j]?=some u):At h a y:=by
 have:=bL3 d f e
 rwa [O9]at this
def L5{S:World->Prop}{s:Sem Value}{u}{K:Fr->World->Prop}{f}{d:Option Nat}{w0}(hS:S w0)(h:∀b,S b->s.run P b = .ok u b):X8 P S s K f d w=K (G9 f d u) w:=by
 refine propext ⟨?_,λa=>⟨u,h,a⟩⟩;rintro⟨v,c,a⟩;have:=(c w0 hS).symm.trans (h w0 hS);simp only[Result.ok.injEq,and_true]at this;rw[<-this];exact a
def sdE{S:World->Prop}{t a v w0}(hS:S w0)(h:∀b,S b->W8 P b t a v):J4 P S t a v:=λ_ _ _ _=>L5 hS h
def sdq{P w0 t a v}(h:W8 P w0 t a v):J4 P (· = w0) t a v:=sdE (w0:=w0) rfl λ_ e=>by subst e;exact h
def sdx{P}{M:Nat->Prop}{w0 t a v}(h:∀b,t8 M w0 b->W8 P b t a v):J4 P (t8 M w0) t a v:=sdE (t8.refl _) h
def At.sv2(l:At h a x)(o:L7 P t=true)(p:(P.underlying t).isSome=true)(m:(P.info? t).isSome=true)(n:O7 P t=A9.sz α):
  ∃b,SV h b x/\(∀w,E6 h (n8 w)->(Instr.loadAt t a).run P w = .ok b w)/\(∀(S:World->Prop) (i:World),S i->(∀w,S w->E6 h (n8 w))->∀K f d w,X8 P S (Instr.loadAt t a) K f d w=K (G9 f d b) w):=by
 obtain⟨b,j,e⟩:=l.sv (P:=P) (t:=t) o p m n;exact⟨b,j,e,λS i k q K f d w=>L5 k λg c=>e g (q g c)⟩
def ca6(hv:SV h v x)(hw:E6 h (n8 w)):∃a c,(Instr.box T v).run P w = .ok (.pointer (some a)) c/\o6 w c/\At (n8 c) a x:=by
 obtain⟨b,rfl,e⟩:=hv;have d:=o6.alloc w (.cells (toArray b) T);refine⟨⟨w.heap.size,0,none⟩,w.alloc (.cells (toArray b) T),rfl,d,b,A9.mono (A3 hw (b7 d)) e,λj u f=>?_⟩;rw[<-ao3,add_lit,eH5,eP9];simpa using f
def bE8(hv:SV h v x)(hw:E6 h (n8 w)){z:Value}(m:I7 P T=some z)(c:z.cells.size=O7 P T)(l:O7 P T=A9.sz α):
  ∃a f d,(Instr.alloc T true (.tuple #[])).run P w = .ok (.pointer (some a)) f/\(Instr.storeAt T (.pointer (some a)) v).run P f = .ok () d/\o6 w d/\At (n8 d) a x:=by
 obtain⟨cs,rfl,b⟩:=hv;obtain⟨g,i⟩:=aE6 (P:=P) (w:=w) (T:=T) m c (cs:=toArray cs) (by simpa[l]using A9.len b) (by simpa using A9.one b);have e:=o6.alloc w (.cells (toArray cs) T);refine⟨_,_,_,g,i,e,cs,A9.mono (A3 hw (b7 e)) b,λj u k=>?_⟩;rw[<-ao3,add_lit,eH5,eP9];simpa using k
end
def eL3:=@Classical.byContradiction
def eP6:=@any_eq_true
def eO7:=@getElem?_replicate
def eN0:=@getElem?_set_ne
def eK1:=@mem_iff_getElem
def eI9:=@Option.getD_some
def eE9:=@congrArg
abbrev W:=BitVec 64
instance:L6 W:=⟨λx=>.int .u64 (x.toNat:Nat),λ_=>rfl⟩
section
variable {P:Program} {t:TypeId}
def bY8(n:Nat)(h:n<18446744073709551616):IntKind.u64.wrap (n:Int)=(n:Int):=by
 have:IntKind.u64.wrap (n:Int)=IntKind.u64.wrap (n:Int):=rfl;unfold wrap;simp[IntKind.bits,signed];omega
def cq5(x:W):BitVec.ofInt IntKind.u64.bits ((x.toNat:Nat):Int)=x:=by
 show BitVec.ofInt 64 ((x.toNat:Nat):Int)=x;rw[BitVec.ofInt_natCast,BitVec.ofNat_toNat];simp
def cn5(f:Nat)(b:f<1000000000000):E2 P .quo t f (64:Int)=some (.int .i64 ((f / 64:Nat):Int)):=by
 have a:(f:Int).tdiv 64=((f / 64:Nat):Int):=by rfl
 simp only[E2,I6,eK2,a];rw[fh dR,IntWalk.i64_in _ om]
def dv3(f:Nat):E2 P .rem t f (64:Int)=some (.int .i64 ((f % 64:Nat):Int)):=by
 have a:(f:Int).tmod 64=((f % 64:Nat):Int):=by rfl
 simp only[E2,I6,eK2,a];rw[fh dR]
def dv4(x:W)(k:Nat)(c:k<64):E2 P .shr t (.int .u64 ((x.toNat:Nat):Int)) k=some (.int .u64 (((x >>> k).toNat:Nat):Int)):=by
 simp only[E2];rw[fh om];have a:min ((k:Int).toNat) IntKind.u64.bits=k:=by
  show min ((k:Int).toNat) 64=k;omega
 rw[a,BitVec.toNat_ushiftRight,Nat.shiftRight_eq_div_pow];have b:((x.toNat:Nat):Int).fdiv (2 ^ k)=((x.toNat / 2 ^ k:Nat):Int):=by
  rw[Int.fdiv_eq_ediv_of_nonneg _ (by exact Int.le_of_lt (Int.pow_pos dR))];simp
 rw[b]
def dv1(x:W)(k):E2 P .and t (.int .u64 (((x >>> k).toNat:Nat):Int)) (.int .u64 1)=some (.int .u64 (if x.getLsbD k then 1 else 0)):=by
 have a:BitVec.ofInt IntKind.u64.bits 1=(1#64:W):=rfl;simp only[E2,I6,eK2,cq5,a];have b:((x >>> k) &&& 1#64:W)=if x.getLsbD k then 1#64 else 0#64:=by
  apply BitVec.eq_of_getLsbD_eq;intro i c;rw[BitVec.getLsbD_and,BitVec.getLsbD_ushiftRight];by_cases h0:i=0
  .subst h0;cases hx:x.getLsbD k<;>simp[]
  .have:(1#64:W).getLsbD i=false:=by
    rw[BitVec.getLsbD_one];simp[h0]
   rw[this,Bool.and_false];split
   .exact this.symm
   .simp
 show some (Value.int .u64 (IntKind.u64.wrap ((((x >>> k) &&& 1#64:W).toNat:Nat):Int)))=_;rw[b];cases x.getLsbD k<;>rfl
def ea8(b:Bool):E2 P .eql t (.int .u64 (if b then 1 else 0)) (.int .u64 0)=some (.bool (!b)):=by
 cases b<;>rfl
def ea9(b:Bool):E2 P .eql t (.int .u64 (if b then 1 else 0)) (.int .u64 1)=some (.bool b):=by
 cases b<;>rfl
def eb1(k:Nat)(a:k<64):E2 P .shl t (.int .u64 1) k=some (.int .u64 (((1#64 <<< k:W).toNat:Nat):Int)):=by
 simp only[E2];rw[fh om];have b:min ((k:Int).toNat) IntKind.u64.bits=k:=by
  show min ((k:Int).toNat) 64=k;omega
 rw[b];have c:(1:Int)*2 ^ k=((2 ^ k:Nat):Int):=dG
 have d:2 ^ k<18446744073709551616:=by
  have:(2:Nat) ^ k<2 ^ 64:=Nat.pow_lt_pow_right dR a;simpa using this
 have e:(1#64 <<< k:W).toNat=2 ^ k:=by
  rw[BitVec.toNat_shiftLeft,Nat.shiftLeft_eq];show(1*2 ^ k) % 2 ^ 64=2 ^ k;rw[Nat.one_mul];exact Nat.mod_eq_of_lt (Nat.pow_lt_pow_right dR a)
 rw[c,bY8 _ d,e]
def dv2(x y:W):E2 P .or t (.int .u64 ((x.toNat:Nat):Int)) (.int .u64 ((y.toNat:Nat):Int))=some (.int .u64 (((x ||| y).toNat:Nat):Int)):=by
 simp only[E2,I6,eK2,cq5];rw[bY8 _ (by exact(x ||| y).isLt)];rfl
def cd2(x y:W):E2 P .andNot t (.int .u64 ((x.toNat:Nat):Int)) (.int .u64 ((y.toNat:Nat):Int))=some (.int .u64 (((x &&& ~~~y).toNat:Nat):Int)):=by
 simp only[E2,I6,eK2,cq5];rw[bY8 _ (by exact(x &&& ~~~y).isLt)];rfl
def eb0(x:W):E2 P .neq t (.int .u64 ((x.toNat:Nat):Int)) (.int .u64 0)=some (.bool (x != 0#64)):=by
 simp only[E2,I6,eK2]
 congr 2
 rw[eO8];simp only[bne_iff_ne,ne_eq];constructor
 .intro h e;subst e;exact h rfl
 .intro h e;apply h;apply BitVec.eq_of_toNat_eq;simpa using e
end
def ez1{K:Fr->World->Prop}{f}{d:Option Nat}{w v}{D:Prop}:aU5 (some v) K f d w D=K (G9 f d v) w:=propext eL8
def X9(a:List W)(f:Nat):Bool:=(a.getD (f / 64) 0#64).getLsbD (f % 64)
def dn5(a:List W)(f:Nat):List W:=a.set (f / 64) (a.getD (f / 64) 0#64 ||| (1#64 <<< (f % 64)))
def dy8{a:List W}{f}(h:f / 64<a.length)(g):X9 (dn5 a f) g=(decide (g=f)||X9 a g):=by
 unfold X9 dn5;by_cases hd:g / 64=f / 64
 .have b:(a.set (f / 64) (a.getD (f / 64) 0#64 ||| (1#64 <<< (f % 64)))).getD (g / 64) 0#64=a.getD (f / 64) 0#64 ||| (1#64 <<< (f % 64)):=by
   rw[hd];simp[getD,h]
  rw[b,BitVec.getLsbD_or,hd];have c:(1#64 <<< (f % 64):W).getLsbD (g % 64)=decide (g=f):=by
   rw[BitVec.getLsbD_shiftLeft,BitVec.getLsbD_one];rw[eO8];simp;omega
  rw[c,Bool.or_comm]
 .have b:(a.set (f / 64) (a.getD (f / 64) 0#64 ||| (1#64 <<< (f % 64)))).getD (g / 64) 0#64=a.getD (g / 64) 0#64:=by
   simp only[getD];rw[eN0 (λe=>hd e.symm)]
  have d:g≠f:=λe=>hd (by rw[e]);rw[b];simp[d]
def cB0{n f}:X9 (replicate n 0#64) f=false:=by
 unfold X9;have:(replicate n (0#64:W)).getD (f / 64) 0#64=0#64:=by
  simp only[getD,eO7];split<;>rfl
 rw[this];simp
def dE2(a:List W)(f):(dn5 a f).length=a.length:=by simp[dn5]
def orB(b c:List W):List W:=zipWith (· ||| ·) b c
def aw3(b c:List W):Bool:=(zipWith (λx y=>(y &&& ~~~x:W) != 0#64) b c).any id
def dx5{α:Type}(g:W->W->α)(d:α)(a:g 0#64 0#64=d){b c:List W}(e:b.length=c.length)(i):(zipWith g b c).getD i d=g (b.getD i 0#64) (c.getD i 0#64):=by
 simp only[getD,getElem?_zipWith];by_cases hi:i<b.length
 .rw[eD1 hi,eD1 om];rfl
 .rw[eL7 om,eL7 om];simp[a]
def aT3{b c:List W}(a:b.length=c.length)(f):X9 (orB b c) f=(X9 b f||X9 c f):=by
 unfold X9 orB;rw[dx5 (· ||| ·) 0#64 dG a,BitVec.getLsbD_or]
def ch5{b c:List W}(r:b.length=c.length):aw3 b c=true↔∃f,X9 c f=true/\X9 b f=false:=by
 unfold aw3;rw[eP6];constructor
 .rintro⟨x,q,m⟩;simp only[id]at m;subst m;obtain⟨i,n,e⟩:=eK1.1 q;rw[getElem_zipWith]at e;simp only[length_zipWith]at n;have o:(c[i]' om &&& ~~~b[i]' om:W)≠0#64:=by simpa using e
  have:∃k,k<64/\(c[i]' om &&& ~~~b[i]' om:W).getLsbD k=true:=by
   refine eL3 λl=>o ?_;apply BitVec.eq_of_getLsbD_eq;intro k p;have a:¬(c[i]' om &&& ~~~b[i]' om:W).getLsbD k=true:=λg=>l ⟨k,p,g⟩;simp only[Bool.not_eq_true]at a;rw[a];simp
  obtain⟨k,p,d⟩:=this;rw[BitVec.getLsbD_and,BitVec.getLsbD_not]at d;have h:(i*64+k) / 64=i:=om
  have j:(i*64+k) % 64=k:=om
  simp only[eF1,eH1,Bool.not_eq_true']at d;refine⟨i*64+k,?_,?_⟩
  .unfold X9;rw[h,j];simp only[getD,eD1 (show i<c.length by omega),eI9];exact d.1
  .unfold X9;rw[h,j];simp only[getD,eD1 (show i<b.length by omega),eI9];exact d.2.2
 .rintro⟨f,a,g⟩;have n:f / 64<c.length:=by
   refine eL3 λl=>?_;unfold X9 at a;simp only[getD,eL7 (show c.length<=f / 64 by omega),Option.getD_none]at a;simp at a
  refine⟨true,?_,rfl⟩;refine eK1.2 ⟨f / 64,by simp;omega,?_⟩;rw[getElem_zipWith];simp only[bne_iff_ne,ne_eq];intro e;unfold X9 at a g;simp only[getD,eD1 n,eD1 (show f / 64<b.length by omega),eI9]at a g;have:=eE9 (λx:W=>x.getLsbD (f % 64)) e;simp only[BitVec.getLsbD_and,BitVec.getLsbD_not,a,g]at this;simp at this;omega
def cq9{b c:List W}(a:b.length=c.length):(orB b c).length=b.length:=by simp[orB,a]
def eJ4:=@Bool.true_and
def cw8:Value->Option Bool
 | .bool b=>some b
 | _=>none
theorem eu6{b}:cw8 (.bool b)=some b:=rfl
theorem eu7:cw8 undef=none:=rfl
def eb7{ops f j}:bi9 ops f j=match dy3 ops j with|some d=>cw8 (f d)|none=>none:=by
 unfold bi9 dy3;cases(ops[j]?).bind (·.dst)with
 | none=>rfl
 | some d=>
  show(match f d with | .bool b=>some b|_=>none)=cw8 (f d);unfold cw8;cases f d<;>rfl
def eA9{P ops}{l:List Oper}{K:Fr->World->Prop}{f w}{d:Option Nat}{op:Op}{ty}{c:String}{a:Array Edge}{j b}:
  Rn P ops (⟨d,op,ty,c,a,some (j,b)⟩::l) K f w =
   if bi9 ops f j=some b then D1 P none ⟨d,op,ty,c,a,none⟩ (Rn P ops l K) f w else Rn P ops l K (G9 f d undef) w:=propext eL8
def es9{P}{Q:Exit->Fr->World->Prop}{f w id}{ops:Array Oper}:CW P (.region id ops false) Q f w=Rn P ops ops.toList (Q .normal) f w:=propext eL8
def et4{P ops}{K:Fr->World->Prop}{f w}:Rn P ops [] K f w=K f w:=propext eL8
def ew9{P ops}{l:List Oper}{K:Fr->World->Prop}{f w}{d:Option Nat}{op:Op}{ty}{b:String}{a:Array Edge}:
  Rn P ops (⟨d,op,ty,b,a,none⟩::l) K f w=D1 P none ⟨d,op,ty,b,a,none⟩ (Rn P ops l K) f w:=propext eL8
def ez9{K:Fr->World->Prop}{f}{d:Option Nat}{w v}:as8 (.ok v w) K f d=K (G9 f d v) w:=propext eL8
def eA0{K:Fr->World->Prop}{f}{d:Option Nat}{w}{v:Unit}:bC5 (.ok v w) K f d=K (G9 f d undef) w:=propext eL8
def aX5(h){α:Type}[A9 α]:R h () ([]:List α):=⟨none,0,0,rfl,rfl,eE8 _,[],rfl,λj u a=>by simp at a⟩
section
variable {P:Program} {t:TypeId}
def bX9(b:Array UInt8):(.string ⟨b⟩:Value)=(ofA b):=by
 simp[A4,ofA]
def et6{a:B9}{b:Array UInt8}:E2 P .eql t a (.string ⟨b⟩)=some (.bool (decide (a=ofA b))):=by
 rw[bX9,cW8]
def eu3{a:B9}{b:Array UInt8}:E2 P .neq t a (.string ⟨b⟩)=some (.bool (!decide (a=ofA b))):=by
 rw[bX9,dN2]
def chr(s:B9)(i:Nat):Option UInt8:=s.b[i]?
def ea5(l:List UInt8)(i:Nat):(⟨l.toArray⟩:ByteArray)[i]?=l[i]?:=by
 by_cases h:i<l.length
 .rw[getElem?_pos (⟨l.toArray⟩:ByteArray) i (by show i<l.toArray.size;simpa using h),ByteArray.getElem_eq_getElem_data];simp[h]
 .rw[getElem?_neg (⟨l.toArray⟩:ByteArray) i (by show ¬i<l.toArray.size;simpa using h)];simp[h]
def cZ9{s:B9}{k:IntKind}{i:Nat}{c:UInt8}(h:cs4 P t=true)(b:cm8 P t=none)(d:chr s i=some c):aC3 P t s (.int k (i:Int))=some (.int .u8 (c.toNat:Int)):=by
 have a:(⟨s.b.toArray⟩:ByteArray)[i]?=some c:=(ea5 s.b i).trans d;simp only[aC3,b,A4,h,eJ4,eF4,a,eJ9,ey1,eK2]
def ey2{v}(a:(P6 P t).isSome=true)(b:isS v=true):ad8 P t v=some (.int .i64 (vlen v:Nat)):=by
 simp only[ad8,a,b,eK2]
def eu1{a b}:E2 P .lss t (.int .i64 a) (.int .i64 b)=some (.bool (decide (a<b))):=by simp[E2,I6]
def eu0{a b}:E2 P .leq t (.int .i64 a) (.int .i64 b)=some (.bool (decide (a<=b))):=by simp[E2,I6]
def et9{a b}:E2 P .gtr t (.int .i64 a) (.int .i64 b)=some (.bool (decide (b<a))):=by simp[E2,I6]
def et8{a b}:E2 P .geq t (.int .i64 a) (.int .i64 b)=some (.bool (decide (b<=a))):=by simp[E2,I6]
theorem et7{a b}:E2 P .eql t (.int .i64 a) (.int .i64 b)=some (.bool (decide (a=b))):=by simp[E2,I6];rfl
theorem eu4{a b}:E2 P .neq t (.int .i64 a) (.int .i64 b)=some (.bool (!decide (a=b))):=by simp[E2,I6];rfl
def et5{a b}:E2 P .add t (.int .i64 a) (.int .i64 b)=some (.int .i64 (IntKind.i64.wrap (a+b))):=by simp[E2,I6]
def eu5{a b}:E2 P .sub t (.int .i64 a) (.int .i64 b)=some (.int .i64 (IntKind.i64.wrap (a-b))):=by simp[E2,I6]
def ej6{a b}:E2 P .leq t (.int .u8 a) (.int .u8 b)=some (.bool (decide (a<=b))):=by simp[E2,I6]
def ej5{a b}:E2 P .geq t (.int .u8 a) (.int .u8 b)=some (.bool (decide (b<=a))):=by simp[E2,I6]
def eA7{b}:unV .not (.bool b)=some (.bool (!b)):=by simp[unV]
def bq8{a:Option Addr}{op:BinOp}(b:op = .eql)(h:eqT P t=2):E2 P op t (.pointer a) (.pointer none)=some (.bool a.isNone):=by
 subst b;simp[E2,h]
end
def eQ7:=@Nat.le_of_not_lt
def aE5{w:World}{b}(h:w.heap.size<=b):n8 w b=none:=by
 show w.heap[b]?=none;simp[h]
def D4{w b}(h:n8 w b=none):w.heap.size<=b:=eQ7 λa=>by simp[n8,a]at h
def aa9{v:Value}(h:isS v=true):v.oneCell'=true:=by
 cases v<;>simp[isS]at h;rfl
def G3{v:Value}(h:isS v=true):v.cells=#[v]:=by
 cases v<;>simp[isS]at h;rfl
section
variable {P:Program} {h:Hp} {w:World} {t T:TypeId} {v:Value}
def F9{gb i cs u}(a:w.heap[gb]?=some (.cells cs T (0,0)))(c:cs[i]?=some u)(b:L7 P t=false):(Instr.loadAt t (.pointer (some ⟨gb,i,none⟩))).run P w = .ok u w:=
 ab0 b (by rw[eL6 w gb i cs T (0,0) a];exact c)
def ai1{gb i}{cs:Array Value}{x:Value}(f:w.heap[gb]?=some (.cells cs T (0,0)))(j:i<cs.size)(l:x.cells=#[x])(h:x.oneCell'=true){d:TypeInfo}(c:P.info? t=some d)(k:d.size=1):
  ∃g,(Instr.storeAt t (.pointer (some ⟨gb,i,none⟩)) x).run P w = .ok () g/\g.heap[gb]?=some (.cells (cs.setIfInBounds i x) T (0,0))/\t8 (λb=>b=gb) w g:=by
 have a:w.cell? ⟨gb,i,.none⟩=some cs[i]:=by rw[eL6 w gb i cs T (0,0) f,eO2 j]
 have e:w.frozen? ⟨gb,i,.none⟩=false:=frozen_of_row w gb i cs T f;exact⟨_,bk2 (P:=P) (t:=t) c k l h a e,heap_setCell_same w gb i cs T x f,t8.setCell _ _ _ rfl⟩
def ad2{gb}{a cs:Array Value}(g:w.heap[gb]?=some (.cells a T (0,0))){z}(l:I7 P T=some z)(c:a.size=O7 P T)(e:cs.size=O7 P T)(j:∀u∈cs.toList,u.oneCell'=true):
  ∃f,(Instr.storeAt T (.pointer (some ⟨gb,0,none⟩)) (.agg cs)).run P w = .ok () f/\f.heap[gb]?=some (.cells cs T (0,0))/\t8 (λb=>b=gb) w f:=by
 obtain⟨i,h,k⟩:=B1 l;have d:=run_storeCells_from (P:=P) gb T cs.toList 0 a w g (by simp[e,c]) j;simp only[eN9,eL4,Array.toArray_toList]at d;refine⟨_,?_,setRow_heap w gb a cs T (0,0) g,t8.setRow _ _ _ rfl⟩;unfold Instr.storeAt storeVar;simp only[Instr.sureAddr,eG2,eH9,eF5,sizeOf,Q7,h,Value.cells];rw[F8 h]at e;simp only[e,ne_eq,not_true_eq_false,eM4];exact d
def ad1{gb}{cs:Array Value}(c:w.heap[gb]?=some (.cells cs T (0,0)))(g:L7 P T=true)(h:(P.underlying T).isSome=true)(d:(P.info? T).isSome=true)(f:O7 P T=cs.size):
  (Instr.loadAt T (.pointer (some ⟨gb,0,none⟩))).run P w = .ok (.agg cs) w:=by
 have:=bT3 (P:=P) (w:=w) (a:=⟨gb,0,none⟩) (cs:=cs.toList) g h d (by simpa using f) λj u e=>by
  have b:(⟨gb,0,.none⟩:Addr).add j=⟨gb,j,.none⟩:=by unfold Addr.add;split<;>simp_all
  rw[b,eL6 w gb j cs T (0,0) c];simpa using e
 simpa using this
def R4{b:Func}{R:Value->World->Prop}{f}{a:Nat}{ty}{ad:Addr}(h:b.results=#[.cell a ty])(d:f a = .pointer (some ad))(e:(Instr.loadAt ty ad).run P w = .ok v w)(c:R v w):aX4 P b R .ret f w:=by
 refine⟨[v],?_,c⟩;rw[h];refine⟨?_,trivial⟩;show(do loadVar ty (<-asAddr (f a)):Sem Value).run P w = .ok v w;rw[d];exact e
def dz0{h w}{N:Nat->Prop}(hw:E6 h (n8 w))(hN:∀b,N b->h b=none):E6 h (D9 w N):=λb o e=>by
 have c:¬N b:=λa=>by rw[hN b a]at e;cases e
 rw[E9 c];exact hw b o e
def F5{w w'}{N:Nat->Prop}(hm:t8 N w w'):E6 (D9 w N) (n8 w'):=G8 (B6 w N) hm λb a=>G2 a
def cB1{w w'}{N:Nat->Prop}(hm:t8 N w w')(hN:∀b,N b->b<w.heap.size):E6 (D9 w N) (D9 w' N):=M8 hm (λb h=>h) λb h=>.inl h
section
variable {α:Type} [A9 α] {x:α} {N:Nat->Prop}
def er9(hv:SV h v x)(hw:E6 h (D9 w N))(hN:∀b,N b->b<w.heap.size){z:Value}(p:I7 P T=some z)(d:z.cells.size=O7 P T)(o:O7 P T=A9.sz α):
  ∃a g e,(Instr.alloc T true (.tuple #[])).run P w = .ok (.pointer (some a)) g/\(Instr.storeAt T (.pointer (some a)) v).run P g = .ok () e/\o6 w e/\At (D9 e N) a x:=by
 obtain⟨cs,rfl,c⟩:=hv;obtain⟨i,k⟩:=aE6 (P:=P) (w:=w) (T:=T) p d (cs:=toArray cs) (by simpa[o]using A9.len c) (by simpa using A9.one c);have f:=o6.alloc w (.cells (toArray cs) T);refine⟨_,_,_,i,k,f,cs,A9.mono (A3 hw (cB1 (f.weaken λ_ _ h=>h.elim) hN)) c,λj u m=>?_⟩;have n:¬N w.heap.size:=λl=>by have:=hN _ l;omega
 have:P4 (n8 (w.alloc (.cells (toArray cs) T))) ((⟨w.heap.size,0,none⟩:Addr).add j)=some u:=by
  rw[<-ao3,add_lit,eH5,eP9];simpa using m
 rw[add_lit]at this ⊢;unfold P4 at *;simp only at *;rw[E9 n];exact this
end
end
section
variable {P:Program}
def F6{k}{args:List Value}{w}{K:Fr->World->Prop}{f}{d:Option Nat}{v}
  (h:Calls P k args.toArray w λe a=>∃u,e = .returned u/\(u=v/\a=w)) (b:K (G9 f d v) w) (hb:ao4 P k=true:=by kernel_rfl):aN4 P k args w K f d:=
 z6 h (λu a ⟨c,g⟩=>by rw[c,g];exact b) hb
def B3{k}{args:List Value}{w}{K:Fr->World->Prop}{f}{d:Option Nat}{v}
  (h:Calls P k args.toArray w λe a=>∃u,e = .returned u/\(u=v/\o6 w a)) (b:∀a,o6 w a->K (G9 f d v) a) (hb:ao4 P k=true:=by kernel_rfl):aN4 P k args w K f d:=
 z6 h (λu a ⟨c,g⟩=>by rw[c];exact b a g) hb
end
section
variable {P:Program} {t T:TypeId}
def bx2(g o):∀(f:List Value) (i:Nat) (a:Array Value) (w:World),w.heap[g]?=some (.cells a T (0,0))->o+i+f.length<=a.size->(∀v∈f,v.oneCell'=true) ->
  ∃j,(storeCells ⟨g,o,none⟩ f i).run P w = .ok () j/\j.heap[g]?=some (.cells (a.toList.take (o+i)++f++a.toList.drop (o+i+f.length)).toArray T (0,0))/\t8 (λb=>b=g) w j
 | [],i,a,w,hg,hl,_=>by
  refine⟨w,rfl,?_,t8.refl _⟩;simp only[eG5,eK5,Nat.add_zero,eH8,Array.toArray_toList];exact hg
 | v::rest,i,a,w,hg,hl,h1=>by
  simp only[eG6]at hl;have r:o+i<a.size:=om
  have d:(⟨g,o,none⟩:Addr).add i=⟨g,o+i,none⟩:=add_lit g o i;have c:w.cell? ⟨g,o+i,none⟩=some a[o+i]:=by rw[eL6 w g (o+i) a T (0,0) hg,eO2 r]
  have e:w.frozen? ⟨g,o+i,none⟩=false:=frozen_of_row w g (o+i) a T hg;have k:(store ((⟨g,o,none⟩:Addr).add i) v).run P w = .ok () (w.setCell ⟨g,o+i,none⟩ v):=by
   rw[d,run_store P w _ v _ (h1 v dG),c];simp[e]
  obtain⟨j,n,p,q⟩:=bx2 g o rest (i+1) (a.setIfInBounds (o+i) v) (w.setCell ⟨g,o+i,none⟩ v) (heap_setCell_same w g (o+i) a T v hg) (by simp;omega) (λx s=>h1 x (by simp[s]));refine⟨j,?_,?_,(t8.setCell (M:=λb=>b=g) w ⟨g,o+i,none⟩ v rfl).trans q⟩
  .simp only[storeCells,eG2,k,eF5,n]
  .rw[p]
   congr 3
   have l:a.toList.length=a.size:=dG
   simp only[Array.toList_setIfInBounds,eG6];rw[show o+(i+1)=o+i+1 by omega,take_set,eD9 om,set_append_right (h:=by simp;omega)];have m:o+i-(a.toList.take (o+i)).length=0:=by simp;omega
   rw[m,drop_set_of_lt om];simp[eG4,eO4,Nat.add_comm 1]
def cW9{w:World}{gb o}{a:Array Value}{cs:List Value}(k:w.heap[gb]?=some (.cells a T (0,0)))(n:o+cs.length<=a.size)(f:∀u∈cs,u.oneCell'=true)(l:(P.info? t).isSome=true)(m:O7 P t=cs.length):
  ∃d,(Instr.storeAt t (.pointer (some ⟨gb,o,none⟩)) (.agg (toArray cs))).run P w = .ok () d/\d.heap[gb]?=some (.cells (a.toList.take o++cs++a.toList.drop (o+cs.length)).toArray T (0,0))/\t8 (λb=>b=gb) w d:=by
 obtain⟨d,g,h,j⟩:=bx2 (P:=P) gb o cs 0 a w k om f;refine⟨d,?_,h,j⟩;obtain⟨i,c⟩:=eJ0.1 l;have e:i.size=cs.length:=by rw[<-m,F8 c]
 unfold Instr.storeAt storeVar;simp only[Instr.sureAddr,eG2,eH9,eF5,sizeOf,Q7,c,Value.cells,e];simp only[eO0,ne_eq,not_true_eq_false,eM4];exact g
end
def L8(k:Hp)(a:Addr)(v:Value):Prop:=∃b,v = .agg (toArray b)/\∀j u,b[j]?=some u->P4 k (a.add j)=some u
def ai7{c d:List Value}(h:(Value.agg (toArray c)) = .agg (toArray d)):d=c:=by
 simp only[Value.agg.injEq]at h;have:=eE9 Array.toList h;simpa using this.symm
section
variable {α:Type} [A9 α] {h k:Hp} {v:Value} {x:α} {P:Program} {t T:TypeId} {w:World} {a:Addr} {N:Nat->Prop}
def L8.mono{k'}(f:E6 k k'):L8 k a v->L8 k' a v:=λ⟨b,e,c⟩=>⟨b,e,λj u d=>K9 f (c j u d)⟩
def bq4{b c:List Value}(d:∀j u,b[j]?=some u->P4 k (a.add j)=some u){o}(f:∀j u,c[j]?=some u->b[o+j]?=some u):L8 k (a.add o) (.agg (toArray c)):=
 ⟨c,rfl,λj u e=>by rw[Addr.add_add'];exact d _ _ (f j u e)⟩
def bz5{b c:List Value}(d:∀j u,b[j]?=some u->P4 k (a.add j)=some u)(e:∀j u,c[j]?=some u->b[0+j]?=some u):L8 k a (.agg (toArray c)):=by
 have:=bq4 d e
 rwa [O9]at this
def L8.whole(o:L8 k a v)(hv:SV h v x)(z:L7 P t=true)(A:(P.underlying t).isSome=true)(r:(P.info? t).isSome=true)(y:O7 P t=A9.sz α):
  (∀w,E6 k (n8 w)->(Instr.loadAt t a).run P w = .ok v w)/\(∀(S:World->Prop) (m:World),S m->(∀w,S w->E6 k (n8 w))->∀K f d w,X8 P S (Instr.loadAt t a) K f d w=K (G9 f d v) w):=by
 obtain⟨B,rfl,p⟩:=o;obtain⟨b,e,q⟩:=hv;obtain rfl:=ai7 e;have i:∀w,E6 k (n8 w)->(Instr.loadAt t a).run P w = .ok (.agg (toArray b)) w:=λw c=>bT3 z A r (by rw[y,A9.len q]) λj u s=>K9 c (p j u s);exact⟨i,λS m n c K f d w=>L5 n λl g=>i l (c l g)⟩
def cm9{w:World}{cs:List Value}(hN:∀b,N b->b<w.heap.size):L8 (D9 (w.alloc (.cells (toArray cs) T)) N) ⟨w.heap.size,0,none⟩ (.agg (toArray cs)):=by
 refine⟨cs,rfl,λj u c=>?_⟩;have d:¬N w.heap.size:=λa=>by have:=hN _ a;omega
 have:P4 (n8 (w.alloc (.cells (toArray cs) T))) ((⟨w.heap.size,0,none⟩:Addr).add j)=some u:=by
  rw[<-ao3,add_lit,eH5,eP9];simpa using c
 rw[add_lit]at this ⊢;unfold P4 at *;simp only at *;rw[E9 d];exact this
def cL4(hv:SV h v x)(hN:∀b,N b->b<w.heap.size):∃a c,(Instr.box T v).run P w = .ok (.pointer (some a)) c/\o6 w c/\L8 (D9 c N) a v:=by
 obtain⟨d,rfl,e⟩:=hv;exact⟨⟨w.heap.size,0,none⟩,w.alloc (.cells (toArray d) T),rfl,o6.alloc w _,cm9 hN⟩
def cI9(hv:SV h v x)(hN:∀b,N b->b<w.heap.size){z:Value}(k:I7 P T=some z)(c:z.cells.size=O7 P T)(j:O7 P T=A9.sz α):
  ∃a f d,(Instr.alloc T true (.tuple #[])).run P w = .ok (.pointer (some a)) f/\(Instr.storeAt T (.pointer (some a)) v).run P f = .ok () d/\o6 w d/\L8 (D9 d N) a v:=by
 obtain⟨cs,rfl,e⟩:=hv;obtain⟨g,i⟩:=aE6 (P:=P) (w:=w) (T:=T) k c (cs:=toArray cs) (by simpa[j]using A9.len e) (by simpa using A9.one e);exact⟨_,_,_,g,i,o6.alloc w _,cm9 hN⟩
end
def t8.chain{M N:Nat->Prop}{a b c}(h:t8 M a b)(k:t8 N b c)(hN:∀i,i<a.heap.size->N i->M i):t8 M a c:=
 ⟨k.os.trans h.os,k.tape.trans h.tape,k.output.trans h.output,eD7 h.size k.size,λi d hm=>(k.block i (eK3 d h.size) λe=>hm (hN i d e)).trans (h.block i d hm)⟩
def t8.up{M:Nat->Prop}{a b}(h:o6 a b):t8 M a b:=h.weaken λ_ _ h=>h.elim
section
variable {P:Program} {w:World} {h:Hp} {t T sz by_:Nat} {v:Value}
def W6{α:Type}[A9 α]{e}(U:I4 P t T sz by_=true)(s:A9.sz α=sz){xs ys:List α}(r:B7 h w T v xs){u}(V:R h u ys)
  (hl:xs.length+ys.length<=1000000000000) (hb:(xs.length+ys.length)*by_<=140737488355328) (hw:E6 h (n8 w)) :
  ∃C D,(Builtin.append_ #[t,t] e #[v,u]).run P w = .ok C D/\B7 h D T C (xs++ys)/\t8 (B0 v) w D/\F4 w v C:=by
 obtain⟨K,⟨z,W,B⟩,L,M,Z,h6⟩:=ab3 U;obtain⟨i,g,o⟩:=B1 W;have m:i.bytes=by_:=by rw[<-M,aO5 g]
 have k:i.size=sz:=by rw[<-L,F8 g]
 obtain⟨a,n,c,F,G,Q,l,f,d⟩:=V;simp at F;subst F;have y:=R7 K;by_cases hy:ys=[]
 .subst hy;refine⟨v,w,?_,by simpa using r,t8.refl _,λb hb=>.inl hb⟩;have p:n=0:=by simpa using G
  subst p;rcases r with⟨rfl,rfl⟩|⟨b,Y,I,rfl,k1,k2,X,k4,k5,k6⟩
  .cases a<;>simp[Builtin.append_,run_underlying y,sizeOf,typeInfo,g,Builtin.lenOf,Builtin.firstCells,loadCells,loadCellsFrom]
  .cases a<;>simp[Builtin.append_,run_underlying y,sizeOf,typeInfo,g,Builtin.lenOf,Builtin.firstCells,loadCells,loadCellsFrom,X,storeCells]
 .have q:l≠[]:=by
   intro e;have:=Q9 f;rw[e]at this;have S:0<ys.length:=List.length_pos_iff.2 hy;have:=A9.pos (α:=α);have:=Nat.mul_pos S this;simp at *;omega
  obtain⟨E,A⟩:∃E,l[0]?=some E:=by
   cases l with
   | nil=>exact fj rfl q
   | cons x _=>exact⟨x,rfl⟩
  obtain⟨ad,rfl,_⟩:=d 0 E A;exact bn3 (e:=e) y g o (by rw[k,s]) (by rw[B,k]) r (ad:=ad) G f (λj u O=>by
   obtain⟨H,J,N⟩:=d j u O;obtain rfl:=eF3 J;exact K9 hw N) hy (by simp only[maxLen];omega) (by rw[m];exact hb) hw
def ec6{α:Type}[A9 α](j:I4 P t T sz by_=true)(hw:E6 h (n8 w)):
  ∃v a,(Instr.buildSlice t 0 #[]).run P w = .ok v a/\B7 h a T v ([]:List α)/\o6 w a/\(∀b,B0 v b->w.heap.size<=b):=by
 obtain⟨c,⟨z,k,l⟩,m,n,o,p⟩:=ab3 j;obtain⟨i,e,f⟩:=B1 k;refine⟨.slice (some ⟨w.heap.size,0,none⟩) 0 0,w.alloc (.cells #[] T),?_,.inr ⟨w.heap.size,0,#[],rfl,aT4 hw (eE8 _),eH3 w _,dG,dG,dG,by simp[V4]⟩,o6.alloc _ _,λb d=>by simp[B0,Value.ownBlock]at d;omega⟩;unfold Instr.buildSlice;simp only[eG2,J6,R7 c,eF5,X3 (show(P.info? T).isSome=true by rw[e];rfl),Sem.run_ite,Nat.zero_mul,eH9];rw[fh dR,fi trivial];have e0:∀(g:Nat->Value),(Array.range 0).map g=#[]:=λg=>dG
 simp only[e0,Instr.fill];rfl
end
section
variable {P:Program} {h k:Hp} {w:World} {t T sz by_:Nat} {v u:Value}
def aj8{α:Type}[L6 α]{e}(I:I4 P t T 1 by_=true){xs ys:List α}(H:B7 h w T v xs)(J:R k u ys)(U:E6 k (n8 w))(o:xs.length+ys.length<=1000000000000)(hb:(xs.length+ys.length)*by_<=140737488355328)(hw:E6 h (n8 w)):
  ∃E F,(Builtin.append_ #[t,t] e #[v,u]).run P w = .ok E F/\B7 h F T E (xs++ys)/\t8 (B0 v) w F/\F4 w v E:=by
 obtain⟨M,⟨z,V,D⟩,N,O,W,X⟩:=ab3 I;obtain⟨i,q,r⟩:=B1 V;have p:i.bytes=by_:=by rw[<-O,aO5 q]
 have g:i.size=1:=by rw[<-N,F8 q]
 by_cases hy:ys=[]
 .subst hy;obtain⟨a,n,c,m,y,f,l,d,b⟩:=J;have B:R h u ([]:List α):=⟨a,n,c,m,y,f,[],rfl,λj u s=>by simp at s⟩;exact W6 I rfl H B o hb hw
 .obtain⟨a,n,c,m,y,f,l,d,b⟩:=J;simp at m;subst m;have A:l≠[]:=by
   intro e;have:=Q9 d;rw[e]at this;have Y:0<ys.length:=List.length_pos_iff.2 hy;have Q:(A9.sz α)=1:=rfl;rw[Q]at this;simp at this;omega
  obtain⟨G,C⟩:∃G,l[0]?=some G:=by
   cases l with
   | nil=>exact fj rfl A
   | cons x _=>exact⟨x,rfl⟩
  obtain⟨ad,rfl,_⟩:=b 0 G C;exact bn3 (e:=e) (R7 M) q r (by rw[g];rfl) (by rw[D,g]) H (ad:=ad) y (bA6 d) (λj u s=>by
   obtain⟨K,L,S⟩:=b j u s;obtain rfl:=eF3 L;exact K9 U S) hy (by simp only[maxLen];omega) (by rw[p];exact hb) hw
end
section
variable {P:Program} {K:Fr->World->Prop} {f:Fr} {w:World} {d:Option Nat} {ty:TypeId} {pos:String} {aft:Array Edge} {S:World->Prop}
def bO8(P:Program)(g:Value)(args:List Value)(w:World)(K:Fr->World->Prop)(f:Fr)(d:Option Nat):Prop:=match g with
 | .func (.func k) first cap=>aN4 P k (first.toList++args++cap.toList) w K f d
 | _=>False
def ek7{k}{first a:Array Value}{args:List Value}:bO8 P (.func (.func k) first a) args w K f d=aN4 P k (first.toList++args++a.toList) w K f d:=propext eL8
def en2{j:Nat}{a:Array Operand}{b:Array TypeId}:D1 P none ⟨d,.call {callee:=.value (.tmp j),args:=a,argTypes:=b},ty,pos,aft,none⟩ K f w=bO8 P (f j) (a.toList.map (ev f)) w K f d:=by
 simp only[D1,aJ2,al2,bz0,ev,bj7,bO8]
 all_goals (generalize f j=g;cases g<;>try rfl)
def em9{j:Nat}{a:Array Operand}{b:Array TypeId}:D1 P (some S) ⟨d,.call {callee:=.value (.tmp j),args:=a,argTypes:=b},ty,pos,aft,none⟩ K f w=bO8 P (f j) (a.toList.map (ev f)) w (F2 S K) f d:=by
 simp only[D1,aJ2,al2,bz0,ev,bj7,bO8]
 all_goals (generalize f j=g;cases g<;>try rfl)
end
def el0{P b d}{Q:Exit->Fr->World->Prop}{f w}(a:List Nat)(I:Fr->World->Prop)(k:a.all (λi=>!(wrC b).contains i)=true)
  (l:CW P b (aj9 I Q) f w) (m:∀c g,(∀i∈a,c i=f i)->I c g->CW P d Q c g):CW P (.seq b d) Q f w:=by
 rw[bM9];refine dq9 b (aj9 I Q) _ f w (λe c g n h=>?_) l;have j:∀i∈a,c i=f i:=λi o=>n i λhm=>by
  have:=eJ1.1 k i o;simp[hm]at this
 cases e
 case normal=>exact m c g j h
 all_goals exact h
def eP2:=@Array.getElem?_toList
def eN8:=@Bool.eq_false_iff
def eO3:=@Bool.false_or
def eQ4:=@ext_getElem?
def eL9:=@find?_eq_none
def eH2:=@getElem?_map
def eL1:=@getElem_map
def eE1:=@getElem_mem
def eF2:=@mem_map
def eE7:=@mem_singleton
def eI6:=@nodup_append
def eK4:=@pairwise_iff_getElem
def T9(kv:List (B9×Value))(k:B9):Option Value:=(kv.find? λp=>decide (p.1=k)).map (·.2)
def bd0(kv:List (B9×Value))(k:B9)(v:Value):List (B9×Value):=if kv.any λp=>decide (p.1=k)then kv.map λp=>if p.1=k then(p.1,v)else p else kv++[(k,v)]
def bi6(w:World)(r:Nat)(kv:List (B9×Value)):Prop:=∃b a,w.heap[r]?=some (.map b a)/\b.toList.map (λe=>(e.key,e.val))=kv.map (λp=>(A4 p.1,p.2))/\(kv.map (·.1)).Nodup/\(∀x∈b.toList,x.born<a)/\(b.toList.map (·.born)).Nodup
def dF9{a b:B9}(h:A4 a=A4 b):a=b:=by
 unfold A4 at h;simp only[Value.string.injEq,ByteArray.mk.injEq]at h;have:=eE9 Array.toList h;cases a;cases b;simpa using this
section
variable {P:Program} {w:World} {t k e:TypeId} {r:Nat} {kv:List (B9×Value)}
def bi6.lt(hm:bi6 w r kv):r<w.heap.size:=by
 obtain⟨a,c,h,_⟩:=hm;exact(eD5.1 h).1
def bi6.mod{M:Nat->Prop}{w'}(hm:bi6 w r kv)(h:t8 M w w')(f:¬M r):bi6 w' r kv:=by
 have a:=hm.lt;obtain⟨b,c,d,e⟩:=hm;exact⟨b,c,(h.block r a f).trans d,e⟩
def bi6.new(w t):(Instr.makeMap t none).run P w = .ok (.map (some w.heap.size)) (w.alloc (.map #[] 0))/\bi6 (w.alloc (.map #[] 0)) w.heap.size []/\o6 w (w.alloc (.map #[] 0)):=by
 refine⟨?_,⟨#[],0,eH3 w _,rfl,dG,dG,dG⟩,o6.alloc _ _⟩;unfold Instr.makeMap;rfl
def ba3{d:TypeDesc}(o:d = .string)(s:B9):∀(l:List MapEntry) (kv:List (B9×Value)) (i:Nat),l.map (λe=>(e.key,e.val))=kv.map (λp=>(A4 p.1,p.2)) ->
  (T9 kv s=none/\(kv.any λp=>decide (p.1=s))=false/\Instr.findNow d s l i=some none) \/
  ∃j v,kv[j]?  = some (s,v)/\T9 kv s=some v/\(kv.any λp=>decide (p.1=s))=true/\Instr.findNow d s l i=some (some (i+j,v))
 | [],kv,i,h=>by
  have:kv=[]:=by simpa using h.symm
  subst this;exact .inl ⟨rfl,rfl,rfl⟩
 | e::l,[],i,h=>by simp at h
 | e::l,p::kv,i,h=>by
  obtain⟨b,t⟩:=p;obtain⟨r,ev,q⟩:=e;simp only[eI4,eP0,Prod.mk.injEq]at h;obtain⟨⟨rfl,rfl⟩,m⟩:=h;subst o;have k:Instr.sameNow .string s b=some (decide (b=s)):=by
   have:=MapKept.bytes_beq ⟨s.b.toArray⟩ ⟨b.b.toArray⟩;simp only[Instr.sameNow,A4]
   congr 1
   rw[eO8,this,decide_eq_true_iff];constructor
   .intro e;exact(dF9 (by unfold A4;rw[e])).symm
   .rintro rfl;rfl
  by_cases hp:b=s
  .subst hp;refine .inr ⟨0,ev,dG,by simp[T9],dG,?_⟩;simp only[Instr.findNow,k,decide_true];rfl
  .have a:decide (b=s)=false:=by simp[hp]
   rcases ba3 rfl s l kv (i+1) m with⟨c,f,g⟩|⟨j,v,c,f,g,n⟩
   .refine .inl ⟨by unfold T9 at *;rw[find?_cons,a];exact c,by rw[any_cons,a,f];rfl,?_⟩;simp only[Instr.findNow,k,a];exact g
   .refine .inr ⟨j+1,v,by simpa using c,by unfold T9 at *;rw[find?_cons,a];exact f,by rw[any_cons,g];simp,?_⟩;simp only[Instr.findNow,k,a,n]
    congr 3;omega
def bi6.lookup(hm:bi6 w r kv)(p:P.underlying t=some (.map k e))(f:P.underlying k=some .string){z}(y:I7 P e=some z)(s:B9):
  (Instr.lookup t (.map (some r)) s false).run P w = .ok ((T9 kv s).getD z) w:=by
 obtain⟨h,c,l,q,A,_⟩:=hm;obtain⟨i,x,d⟩:=B1 y;have a:=MapKept.run_checkKey (P:=P) (w:=w) (k:=s) f (show MapKept.IsKey .string s from trivial) h.isEmpty 9999;have g:(zeroValue e).run P w = .ok z w:=by
  unfold zeroValue;simp[Q7,x,d]
 rcases ba3 rfl s h.toList kv 0 q with⟨m,n,o⟩|⟨j,v,m,n,o,u⟩
 .have b:=MapKept.run_findKey (P:=P) (w:=w) f o;unfold Instr.lookup;simp only[eG2,run_underlying p,eF5,MapKept.run_getObj_map l,eH9,a,b,g,m,Option.getD_none];rfl
 .have b:=MapKept.run_findKey (P:=P) (w:=w) f u;unfold Instr.lookup;simp only[eG2,run_underlying p,eF5,MapKept.run_getObj_map l,eH9,a,b,n,eI9];rfl
def bM6(w r)(o:Obj):t8 (λb=>b=r) w {w with heap:=w.heap.setIfInBounds r o}:=
 ⟨rfl,rfl,rfl,dG,λb c a=>by rw[Array.getElem?_setIfInBounds_ne (λe=>a e.symm)]⟩
def bi6.update(hm:bi6 w r kv)(W:P.underlying t=some (.map k e))(O:P.underlying k=some .string)(s:B9)(v):
  ∃T,(Instr.mapUpdate t (.map (some r)) s v).run P w = .ok () T/\bi6 T r (bd0 kv s v)/\t8 (λb=>b=r) w T:=by
 obtain⟨f,c,m,E,K,F,V⟩:=hm;have u:=MapKept.run_checkKey (P:=P) (w:=w) (k:=s) O (show MapKept.IsKey .string s from trivial) false 9999;have B:=(eD5.1 m).1;rcases ba3 rfl s f.toList kv 0 E with⟨G,H,I⟩|⟨j,v0,G,H,I,X⟩
 .have J:=MapKept.run_findKey (P:=P) (w:=w) O I;refine⟨{w with heap:=w.heap.setIfInBounds r (.map (f.push ⟨s,v,c⟩) (c+1))},?_,⟨f.push ⟨A4 s,v,c⟩,c+1,by simp[B],?_,?_,?_,?_⟩,bM6 w r _⟩
  .unfold Instr.mapUpdate;simp only[eG2,run_underlying W,eF5,MapKept.run_getObj_map m,u,J];exact MapKept.run_setObj_map _ m
  .rw[bd0,fh (by rw[H];simp),Array.toList_push,eG8,eG8,E];rfl
  .rw[bd0,fh (by rw[H];simp),eG8,eI6];refine⟨K,dG,λa L b q=>?_⟩;simp only[eI4,map_nil,eE7]at q;subst q;rintro rfl;obtain⟨p,Y,S⟩:=eF2.1 L;have:=List.any_eq_false.1 H p Y;simp[S]at this
  .intro x l;rw[Array.toList_push]at l;rcases eE0.1 l with h|h
   .have:=F x h;omega
   .simp only[eE7]at h;subst h;exact Nat.lt_succ_self _
  .rw[Array.toList_push,eG8,eI6];refine⟨V,dG,λa L b q=>?_⟩;simp only[eI4,map_nil,eE7]at q;subst q;rintro rfl;obtain⟨x,l,Z⟩:=eF2.1 L;have:=F x l;omega
 .have J:=MapKept.run_findKey (P:=P) (w:=w) O X;rw[eH5]at J;have M:∃e0,f[j]?=some e0/\e0.key=s:=by
   have:=eE9 (λz=>z[j]?) E;simp only[eH2,G,eJ9]at this;cases hq:f.toList[j]? with
   | none=>rw[hq]at this;cases this
   | some e0=>
    rw[hq]at this;simp only[eJ9,eO1,Prod.mk.injEq]at this;exact⟨e0,by rw[<-eP2];exact hq,this.1⟩
  obtain⟨e0,y,N⟩:=M;have Q:(Instr.keyThatStays s s).run P w = .ok s w:=MapKept.run_keyThatStays (d:=.string) trivial;have g:(f.modify j λe=>{e with key:=s,val:=v}).toList=f.toList.modify j (λe=>{e with key:=s,val:=v}):=dG
  refine⟨{w with heap:=w.heap.setIfInBounds r (.map (f.modify j λe=>{e with key:=s,val:=v}) c)},?_,⟨f.modify j λe=>{e with key:=s,val:=v},c,by simp[B],?_,?_,?_,?_⟩,bM6 w r _⟩
  .unfold Instr.mapUpdate;simp only[eG2,run_underlying W,eF5,MapKept.run_getObj_map m,u,J,y,eJ9,eI9,N,Q];exact MapKept.run_setObj_map _ m
  .rw[bd0,fi I,g];apply eQ4;intro n;have i:=eE9 (λz=>z[n]?) E;simp only[eH2]at i ⊢;rw[getElem?_modify];have A:=eD8.1 G;by_cases hnj:j=n
   .subst hnj;rw[eP2,y,G];simp
   .simp only[hnj,eM4,Option.map_map];cases hkn:kv[n]? with
    | none=>rw[hkn]at i;simpa using i
    | some p=>
     rw[hkn]at i;have R:p.1≠s:=λe=>by
      have D:=eD8.1 hkn;have U:(kv.map (·.1))[j]'(by simpa using A.1)=(kv.map (·.1))[n]'(by simpa using D.1):=by
       simp only[eL1,A.2,D.2,e]
      have o:=eK4.1 K;rcases Nat.lt_trichotomy j n with h|h|h
      .exact o j n _ _ h U
      .exact hnj h
      .exact o n j _ _ h U.symm
     cases he:f.toList[n]? with
     | none=>rw[he]at i;simp at i
     | some x=>
      rw[he]at i;simp only[eJ9,eO1]at i ⊢;simp only[Function.comp,R,eM4];show some _=some _;exact eE9 some i
  .rw[bd0,fi I,map_map];have:((λx:B9×Value=>x.1) ∘ λp=>if p.1=s then(p.1,v)else p)=λx=>x.1:=by
    funext p;simp only[Function.comp];split<;>rfl
   rw[this];exact K
  .intro x l;rw[g]at l;obtain⟨n,i,rfl⟩:=eK1.1 l;rw[getElem_modify];have C:n<f.toList.length:=by simpa using i
   split
   .show f.toList[n].born<c;exact F f.toList[n] (eE1 C)
   .exact F _ (eE1 C)
  .rw[g];have:(f.toList.modify j (λe=>{e with key:=s,val:=v})).map (·.born)=f.toList.map (·.born):=by
    apply eQ4;intro n;simp only[eH2,getElem?_modify];by_cases hjn:j=n<;>simp only[hjn,eK2,eM4]<;>(cases f.toList[n]?<;>rfl)
   rw[this];exact V
end
def aG0(kv:List (B9×Value))(k:B9)(v)(j:B9):T9 (bd0 kv k v) j=if j=k then some v else T9 kv j:=by
 have c:∀l:List (B9×Value),T9 (l.map λp=>if p.1=k then(p.1,v)else p) j=if j=k then(if l.any λp=>decide (p.1=k)then some v else none)else T9 l j:=by
  intro l
  induction l with
  | nil=>simp[T9]
  | cons p l a=>
   unfold T9 at *;rw[eI4,find?_cons,find?_cons,any_cons];by_cases h1:p.1=k
   .by_cases h2:j=k
    .subst h2;simp[h1]
    .simp only[h1,eK2,h2,eM4]at a ⊢;have f:decide (k=j)=false:=by simp;exact λe=>h2 e.symm
     rw[f];exact a
   .by_cases h2:j=k
    .subst h2;simp only[h1,eM4,decide_false,eO3,eK2]at a ⊢;exact a
    .by_cases b:p.1=j
     .simp only[eM4,h2,b,decide_true]
     .simp only[h1,eM4,h2,b,decide_false]at a ⊢;exact a
 unfold bd0;split
 .next h=>rw[c kv];simp only[h,eK2]
 .next h=>
  have d:=eN8.2 h;unfold T9;rw[find?_append];by_cases h2:j=k
  .subst h2;have:kv.find? (λp=>decide (p.1=j))=none:=eL9.2 λp g=>List.any_eq_false.1 d p g;rw[this];simp
  .rw[fh h2];have b:¬k=j:=λe=>h2 e.symm;simp[b]
theorem cq6{P}{S:World->Prop}{K:Fr->World->Prop}{f w}{d:Option Nat}{ty}{b:String}{a:Array Edge}{t}{m k x}:D1 P (some S) ⟨d,.mapUpdate t m k x,ty,b,a,none⟩ K f w=bC5 ((Instr.mapUpdate t (ev f m) (ev f k) (ev f x)).run P w) (F2 S K) f d:=rfl
def eq8:L7 prog 2=false:=kr
def bx6:O7 prog 3=1:=kr
def aN0:I7 prog 3=some (.int .i64 0):=kr
def K7:L7 prog 3=false:=kr
def aK1:O7 prog 4=1:=kr
def Y5:I7 prog 4=some (.bool false):=kr
def ag4:L7 prog 4=false:=kr
def dI4:O7 prog 9=1:=kr
def dT7:I7 prog 9=some (.string ⟨#[]⟩):=kr
def as9:L7 prog 9=false:=kr
def dT6:cm8 prog 9=none:=kr
def dI5:cs4 prog 9=true:=kr
def dI2:O7 prog 22=1:=kr
def cI7:I7 prog 22=some (.slice none 0 0):=kr
def ab6:L7 prog 22=false:=kr
def er3:eqT prog 22=3:=kr
def dH3:L7 prog 23=false:=kr
def dH5:(prog.info? 25).isSome=true:=kr
def cI6:O7 prog 25=2:=kr
def dZ4:I7 prog 25=some (.agg #[.slice none 0 0,.slice none 0 0]):=kr
def dH4:L7 prog 25=true:=kr
def dJ0:(prog.underlying 25).isSome=true:=kr
def er0:R5 prog 25=some (#[.slice none 0 0,.slice none 0 0],[(0,1),(1,1)]):=kr
def av4:(prog.info? 27).isSome=true:=kr
def R3:O7 prog 27=4:=kr
def be2:I7 prog 27=some (.agg #[.string ⟨#[]⟩,.int .i64 0,.int .i64 0,.string ⟨#[]⟩]):=kr
def aB7:L7 prog 27=true:=kr
def aB8:(prog.underlying 27).isSome=true:=kr
def bJ9:R5 prog 27=some (#[.string ⟨#[]⟩,.int .i64 0,.int .i64 0,.string ⟨#[]⟩],[(0,1),(1,1),(2,1),(3,1)]):=kr
def eq9:L7 prog 33=false:=kr
def dI3:O7 prog 35=1:=kr
def dJ9:I7 prog 35=some (.slice none 0 0):=kr
def Z4:L7 prog 35=false:=kr
def bK0:O7 prog 45=1:=kr
def av6:I7 prog 45=some (.slice none 0 0):=kr
def ao0:L7 prog 45=false:=kr
def dG4:P6 prog 45=some 3:=kr
def er4:eqT prog 45=3:=kr
def dZ0:O7 prog 49=1:=kr
def dZ5:I7 prog 49=some (.slice none 0 0):=kr
def bd8:L7 prog 49=false:=kr
def bk6:(prog.info? 54).isSome=true:=kr
def aw4:O7 prog 54=9:=kr
def dc9:I7 prog 54=some (.agg #[.string ⟨#[]⟩,.int .i64 0,.int .i64 0,.string ⟨#[]⟩,.string ⟨#[]⟩,.int .i64 0,.int .i64 0,.string ⟨#[]⟩,.int .i64 0]):=kr
def bJ7:L7 prog 54=true:=kr
def bK1:(prog.underlying 54).isSome=true:=kr
def er1:R5 prog 54=some (#[.string ⟨#[]⟩,.int .i64 0,.int .i64 0,.string ⟨#[]⟩,.string ⟨#[]⟩,.int .i64 0,.int .i64 0,.string ⟨#[]⟩,.int .i64 0],[(0,4),(4,4),(8,1)]):=kr
def dY3:L7 prog 65=false:=kr
def bk5:L7 prog 66=false:=kr
def ao1:(prog.info? 68).isSome=true:=kr
def N6:O7 prog 68=5:=kr
def cI8:I7 prog 68=some (.agg #[.string ⟨#[]⟩,.slice none 0 0,.slice none 0 0,.slice none 0 0,.slice none 0 0]):=kr
def as1:L7 prog 68=true:=kr
def as2:(prog.underlying 68).isSome=true:=kr
def dY9:R5 prog 68=some (#[.string ⟨#[]⟩,.slice none 0 0,.slice none 0 0,.slice none 0 0,.slice none 0 0],[(0,1),(1,1),(2,1),(3,1),(4,1)]):=kr
def aX0:(prog.info? 72).isSome=true:=kr
def ak2:O7 prog 72=2:=kr
def er7:I7 prog 72=some (.agg #[.string ⟨#[]⟩,.bool false]):=kr
def bd9:L7 prog 72=true:=kr
def be1:(prog.underlying 72).isSome=true:=kr
def dH9:R5 prog 72=some (#[.string ⟨#[]⟩,.bool false],[(0,1),(1,1)]):=kr
def dY7:(prog.info? 80).isSome=true:=kr
def dZ1:O7 prog 80=2:=kr
def dK0:I7 prog 80=some (.agg #[.int .i64 0,.int .i64 0]):=kr
def dY4:L7 prog 80=true:=kr
def dZ3:(prog.underlying 80).isSome=true:=kr
def dI0:R5 prog 80=some (#[.int .i64 0,.int .i64 0],[(0,1),(1,1)]):=kr
def av3:L7 prog 87=false:=kr
def bJ8:L7 prog 88=false:=kr
def er5:O7 prog 89=1:=kr
def er8:I7 prog 89=some (.slice none 0 0):=kr
def aJ9:L7 prog 89=false:=kr
def er2:R5 prog 91=some (#[.pointer none,.slice none 0 0,.slice none 0 0,.slice none 0 0,.slice none 0 0,.map none,.slice none 0 0,.slice none 0 0],[(0,1),(1,1),(2,1),(3,1),(4,1),(5,1),(6,1),(7,1)]):=kr
def dc8:O7 prog 95=1:=kr
def ck6:I7 prog 95=some (.slice none 0 0):=kr
def aQ5:L7 prog 95=false:=kr
def dG5:L7 prog 108=false:=kr
def aV6:(prog.info? 110).isSome=true:=kr
def ag6:O7 prog 110=4:=kr
def cV0:I7 prog 110=some (.agg #[.int .i64 0,.int .i64 0,.string ⟨#[]⟩,.slice none 0 0]):=kr
def bd7:L7 prog 110=true:=kr
def be0:(prog.underlying 110).isSome=true:=kr
def cU7:R5 prog 110=some (#[.int .i64 0,.int .i64 0,.string ⟨#[]⟩,.slice none 0 0],[(0,1),(1,1),(2,1),(3,1)]):=kr
def cs8:L7 prog 111=false:=kr
def aV7:(prog.info? 113).isSome=true:=kr
def ag7:O7 prog 113=13:=kr
def bY7:I7 prog 113=some (.agg #[.int .i64 0,.int .i64 0,.slice none 0 0,.string ⟨#[]⟩,.string ⟨#[]⟩,.int .i64 0,.int .i64 0,.string ⟨#[]⟩,.slice none 0 0,.bool false,.slice none 0 0,.slice none 0 0,.slice none 0 0]):=kr
def bo5:L7 prog 113=true:=kr
def bo7:(prog.underlying 113).isSome=true:=kr
def bE2:R5 prog 113=some (#[.int .i64 0,.int .i64 0,.slice none 0 0,.string ⟨#[]⟩,.string ⟨#[]⟩,.int .i64 0,.int .i64 0,.string ⟨#[]⟩,.slice none 0 0,.bool false,.slice none 0 0,.slice none 0 0,.slice none 0 0],[(0,1),(1,1),(2,1),(3,1),(4,1),(5,4),(9,1),(10,1),(11,1),(12,1)]):=kr
def aK0:(prog.info? 125).isSome=true:=kr
def aa3:O7 prog 125=6:=kr
def dJ1:I7 prog 125=some (.agg #[.bool false,.string ⟨#[]⟩,.int .i64 0,.int .i64 0,.string ⟨#[]⟩,.slice none 0 0]):=kr
def aM8:L7 prog 125=true:=kr
def aM9:(prog.underlying 125).isSome=true:=kr
def dH7:R5 prog 125=some (#[.bool false,.string ⟨#[]⟩,.int .i64 0,.int .i64 0,.string ⟨#[]⟩,.slice none 0 0],[(0,1),(1,1),(2,4)]):=kr
def bY1:L7 prog 132=false:=kr
def ef5:O7 prog 133=1:=kr
def eg0:I7 prog 133=some (.slice none 0 0):=kr
def dG6:L7 prog 133=false:=kr
def ef6:O7 prog 134=1:=kr
def eg1:I7 prog 134=some (.slice none 0 0):=kr
def aC8:L7 prog 134=false:=kr
def ee2:R5 prog 136=some (#[.pointer none,.slice none 0 0,.slice none 0 0,.slice none 0 0,.slice none 0 0,.slice none 0 0],[(0,1),(1,1),(2,1),(3,1),(4,1),(5,1)]):=kr
def ag5:(prog.info? 156).isSome=true:=kr
def M4:O7 prog 156=17:=kr
def cV2:I7 prog 156=some (.agg #[.int .i64 0,.int .i64 0,.slice none 0 0,.string ⟨#[]⟩,.string ⟨#[]⟩,.int .i64 0,.int .i64 0,.string ⟨#[]⟩,.slice none 0 0,.bool false,.slice none 0 0,.slice none 0 0,.slice none 0 0,.int .i64 0,.int .i64 0,.int .i64 0,.int .i64 0]):=kr
def ai4:L7 prog 156=true:=kr
def ai5:(prog.underlying 156).isSome=true:=kr
def dH8:R5 prog 156=some (#[.int .i64 0,.int .i64 0,.slice none 0 0,.string ⟨#[]⟩,.string ⟨#[]⟩,.int .i64 0,.int .i64 0,.string ⟨#[]⟩,.slice none 0 0,.bool false,.slice none 0 0,.slice none 0 0,.slice none 0 0,.int .i64 0,.int .i64 0,.int .i64 0,.int .i64 0],[(0,13),(13,1),(14,1),(15,1),(16,1)]):=kr
def ef8:O7 prog 157=1:=kr
def dJ3:I7 prog 157=some (.slice none 0 0):=kr
def bD9:L7 prog 157=false:=kr
def ee5:R5 prog 159=some (#[.slice none 0 0,.slice none 0 0,.slice none 0 0,.slice none 0 0,.slice none 0 0],[(0,2),(2,1),(3,1),(4,1)]):=kr
def aC9:L7 prog 160=false:=kr
def ee6:R5 prog 176=some (#[.int .i64 0],[(0,1)]):=kr
def ee7:R5 prog 199=some (#[.pointer none,.int .i64 0,.string ⟨#[]⟩,.slice none 0 0,.slice none 0 0,.slice none 0 0,.slice none 0 0,.slice none 0 0,.slice none 0 0],[(0,1),(1,1),(2,5),(7,1),(8,1)]):=kr
def cU4:(prog.info? 208).isSome=true:=kr
def bY4:O7 prog 208=2:=kr
def dJ4:I7 prog 208=some (.agg #[.int .i64 0,.int .i64 0]):=kr
def dG9:L7 prog 208=true:=kr
def dI7:(prog.underlying 208).isSome=true:=kr
def ee8:R5 prog 208=some (#[.int .i64 0,.int .i64 0],[(0,1),(1,1)]):=kr
def cU5:(prog.info? 213).isSome=true:=kr
def bY5:O7 prog 213=3:=kr
def eg3:I7 prog 213=some (.agg #[.int .i64 0,.int .i64 0,.string ⟨#[]⟩]):=kr
def dH0:L7 prog 213=true:=kr
def dI8:(prog.underlying 213).isSome=true:=kr
def ee9:R5 prog 213=some (#[.int .i64 0,.int .i64 0,.string ⟨#[]⟩],[(0,1),(1,1),(2,1)]):=kr
def dI1:O7 prog 216=1:=kr
def dJ5:I7 prog 216=some (.slice none 0 0):=kr
def bY2:L7 prog 216=false:=kr
def cU6:(prog.info? 218).isSome=true:=kr
def ct2:O7 prog 218=2:=kr
def dJ6:I7 prog 218=some (.agg #[.int .i64 0,.int .i64 0]):=kr
def dH1:L7 prog 218=true:=kr
def dI9:(prog.underlying 218).isSome=true:=kr
def ef0:R5 prog 218=some (#[.int .i64 0,.int .i64 0],[(0,1),(1,1)]):=kr
def dH2:L7 prog 222=false:=kr
def ef1:R5 prog 224=some (#[.pointer none,.int .i64 0,.int .i64 0,.slice none 0 0,.slice none 0 0],[(0,1),(1,1),(2,1),(3,1),(4,1)]):=kr
def ct3:O7 prog 240=1:=kr
def aV8:I7 prog 240=some (.int .u64 0):=kr
def aD0:L7 prog 240=false:=kr
def ef9:O7 prog 261=1:=kr
def dJ7:I7 prog 261=some (.slice none 0 0):=kr
def ag3:L7 prog 261=false:=kr
def bY3:(prog.info? 302).isSome=true:=kr
def bo6:O7 prog 302=3:=kr
def dJ8:I7 prog 302=some (.agg #[.int .i64 0,.int .i64 0,.int .i64 0]):=kr
def cU2:L7 prog 302=true:=kr
def cU9:(prog.underlying 302).isSome=true:=kr
def ef2:R5 prog 302=some (#[.int .i64 0,.int .i64 0,.int .i64 0],[(0,1),(1,1),(2,1)]):=kr
def ef3:R5 prog 307=some (#[.slice none 0 0,.slice none 0 0],[(0,1),(1,1)]):=kr
def ct1:(prog.info? 319).isSome=true:=kr
def av5:O7 prog 319=2:=kr
def bE4:I7 prog 319=some (.agg #[.slice none 0 0,.int .i64 0]):=kr
def ct0:L7 prog 319=true:=kr
def ct4:(prog.underlying 319).isSome=true:=kr
def ef4:R5 prog 319=some (#[.slice none 0 0,.int .i64 0],[(0,1),(1,1)]):=kr
def cU8:O7 prog 355=1:=kr
def bE5:I7 prog 355=some (.slice none 0 0):=kr
def bE0:L7 prog 355=false:=kr
def hm:prog.follows .mixedOrders=true:=kr
def TY:(prog.info? 3).isSome=true/\O7 prog 3=1/\(prog.info? 4).isSome=true/\O7 prog 4=1/\(prog.info? 9).isSome=true/\O7 prog 9=1/\P6 prog 9=none/\cs4 prog 9=true/\(prog.info? 22).isSome=true/\O7 prog 22=1/\P6 prog 22=some 9/\P6 prog 23=some 68/\D8 prog 25 0=some (0,22)/\D8 prog 25 1=some (1,23)/\(prog.info? 27).isSome=true/\O7 prog 27=4/\D8 prog 27 0=some (0,9)/\D8 prog 27 1=some (1,3)/\D8 prog 27 2=some (2,3)/\D8 prog 27 3=some (3,9)/\P6 prog 30=some 115/\P6 prog 35=some 27/\(prog.info? 45).isSome=true/\O7 prog 45=1/\P6 prog 45=some 3/\D8 prog 47 0=some (0,35)/\D8 prog 47 1=some (1,4)/\P6 prog 49=some 54/\(prog.info? 54).isSome=true/\O7 prog 54=9/\D8 prog 54 0=some (0,27)/\D8 prog 54 1=some (4,27)/\D8 prog 54 2=some (8,3)/\P6 prog 65=some 72/\P6 prog 66=some 113/\(prog.info? 68).isSome=true/\O7 prog 68=5/\D8 prog 68 0=some (0,9)/\D8 prog 68 1=some (1,65)/\D8 prog 68 2=some (2,22)/\D8 prog 68 3=some (3,66)/\D8 prog 68 4=some (4,22)/\(prog.info? 72).isSome=true/\O7 prog 72=2/\D8 prog 72 0=some (0,9)/\D8 prog 72 1=some (1,4)/\D8 prog 80 0=some (0,33)/\P6 prog 89=some 216/\D8 prog 91 0=some (0,87)/\D8 prog 91 1=some (1,22)/\D8 prog 91 2=some (2,35)/\D8 prog 91 3=some (3,49)/\D8 prog 91 4=some (4,49)/\D8 prog 91 5=some (5,88)/\D8 prog 91 6=some (6,89)/\D8 prog 91 7=some (7,89)/\(prog.info? 95).isSome=true/\O7 prog 95=1/\P6 prog 95=some 4/\P6 prog 108=some 110/\(prog.info? 110).isSome=true/\O7 prog 110=4/\D8 prog 110 0=some (0,3)/\D8 prog 110 1=some (1,2)/\D8 prog 110 2=some (2,9)/\D8 prog 110 3=some (3,108)/\P6 prog 111=some 125/\(prog.info? 113).isSome=true/\O7 prog 113=13/\D8 prog 113 0=some (0,3)/\D8 prog 113 1=some (1,3)/\D8 prog 113 2=some (2,22)/\D8 prog 113 3=some (3,9)/\D8 prog 113 4=some (4,9)/\D8 prog 113 5=some (5,110)/\D8 prog 113 6=some (9,4)/\D8 prog 113 7=some (10,111)/\D8 prog 113 8=some (11,66)/\D8 prog 113 9=some (12,66)/\(prog.info? 115).isSome=true/\O7 prog 115=16/\D8 prog 115 0=some (0,113)/\D8 prog 115 1=some (13,3)/\(prog.info? 125).isSome=true/\O7 prog 125=6/\D8 prog 125 0=some (0,4)/\D8 prog 125 1=some (1,9)/\D8 prog 125 2=some (2,110)/\P6 prog 133=some 160/\P6 prog 134=some 22/\D8 prog 136 0=some (0,132)/\D8 prog 136 1=some (1,133)/\D8 prog 136 2=some (2,134)/\D8 prog 136 3=some (3,134)/\D8 prog 136 4=some (4,134)/\D8 prog 136 5=some (5,134)/\P6 prog 145=some 151/\D8 prog 147 0=some (0,83)/\D8 prog 147 1=some (1,95)/\D8 prog 147 2=some (2,144)/\D8 prog 147 3=some (3,145)/\(prog.info? 151).isSome=true/\O7 prog 151=2/\D8 prog 151 0=some (0,3)/\D8 prog 151 1=some (1,3)/\(prog.info? 156).isSome=true/\O7 prog 156=17/\D8 prog 156 0=some (0,113)/\D8 prog 156 1=some (13,3)/\D8 prog 156 3=some (15,3)/\D8 prog 156 4=some (16,3)/\P6 prog 157=some 156/\D8 prog 159 0=some (0,25)/\D8 prog 159 1=some (2,157)/\D8 prog 159 2=some (3,45)/\D8 prog 159 3=some (4,45)/\(prog.info? 160).isSome=true/\O7 prog 160=1/\D8 prog 176 0=some (0,3)/\D8 prog 199 0=some (0,87)/\D8 prog 199 2=some (2,68)/\D8 prog 199 3=some (7,35)/\D8 prog 199 4=some (8,49)/\P6 prog 206=some 208/\(prog.info? 208).isSome=true/\O7 prog 208=2/\P6 prog 208=none/\cm8 prog 208=some (2,3)/\P6 prog 210=some 213/\(prog.info? 213).isSome=true/\O7 prog 213=3/\D8 prog 213 0=some (0,3)/\D8 prog 213 1=some (1,3)/\D8 prog 213 2=some (2,9)/\(prog.info? 216).isSome=true/\O7 prog 216=1/\P6 prog 216=some 218/\(prog.info? 218).isSome=true/\O7 prog 218=2/\D8 prog 218 0=some (0,3)/\D8 prog 218 1=some (1,3)/\P6 prog 219=none/\cm8 prog 219=some (7,4)/\P6 prog 222=some 302/\D8 prog 224 0=some (0,132)/\D8 prog 224 1=some (1,3)/\D8 prog 224 2=some (2,3)/\D8 prog 224 3=some (3,222)/\D8 prog 224 4=some (4,95)/\(prog.info? 240).isSome=true/\O7 prog 240=1/\eqT prog 257=2/\P6 prog 261=some 45/\P6 prog 266=some 95/\(prog.info? 302).isSome=true/\O7 prog 302=3/\D8 prog 302 0=some (0,3)/\D8 prog 302 1=some (1,3)/\D8 prog 302 2=some (2,3)/\D8 prog 307 0=some (0,261)/\D8 prog 307 1=some (1,261)/\D8 prog 319 0=some (0,261)/\D8 prog 319 1=some (1,3)/\P6 prog 338=some 355/\(prog.info? 355).isSome=true/\O7 prog 355=1/\P6 prog 355=some 240:=by and_intros<;>kernel_rfl
def cJ8(T:TypeId)(v:Value)(w:World)(N:Nat->Prop):Prop:=∃a b,(Instr.box T v).run prog w = .ok (.pointer (some a)) b/\o6 w b/\L8 (D9 b N) a v
def cw3(T:TypeId)(v:Value)(w:World)(N:Nat->Prop):Prop:=∃a c b,(Instr.alloc T true (.tuple #[])).run prog w = .ok (.pointer (some a)) c/\(Instr.storeAt T (.pointer (some a)) v).run prog c = .ok () b/\o6 w b/\L8 (D9 b N) a v
def bZ8{α:Type}[A9 α](T:TypeId)(v:Value)(w:World)(x:α):Prop:=∃a b,(Instr.box T v).run prog w = .ok (.pointer (some a)) b/\o6 w b/\At (n8 b) a x
def bK6{α:Type}[A9 α](T:TypeId)(v:Value)(w:World)(x:α):Prop:=∃a c b,(Instr.alloc T true (.tuple #[])).run prog w = .ok (.pointer (some a)) c/\(Instr.storeAt T (.pointer (some a)) v).run prog c = .ok () b/\o6 w b/\At (n8 b) a x
abbrev LtN(N:Nat->Prop)(w:World):Prop:=∀b,N b->b<w.heap.size
abbrev LW(h:Hp)(F:World->Prop):Prop:=∀w,E6 h (n8 w)->F w
abbrev SW(h:Hp)(F:(World->Prop)->Prop):Prop:=∀(S:World->Prop) (a:World),S a->(∀w,S w->E6 h (n8 w))->F S
abbrev LdB(T:TypeId)(h:Hp)(a:Addr)(v:Value):Prop:=LW h (λw=>W8 prog w T a v)/\SW h (λS=>J4 prog S T a v)
def sw1{P h t a v}(l:LW h (λw=>W8 P w t a v)):SW h (λS=>J4 P S t a v):=λS e c d=>sdE c λb h=>l b (d b h)
def sw2{P h t a v}{F:World->Prop}{G:(World->Prop)->Prop}(g:LW h F->SW h G)(l:LW h (λw=>W8 P w t a v/\F w)):SW h (λS=>J4 P S t a v/\G S):=λS e b c=>⟨sdE b λd h=>(l d (c d h)).1,g (λw h=>(l w h).2) S e b c⟩
def lsw{h}{F:World->Prop}{G:(World->Prop)->Prop}(l:LW h F)(g:LW h F->SW h G):LW h F/\SW h G:=⟨l,g l⟩
def el9{l:List Value}(h:l.length=2):∃a b,l=[a,b]:=by
 match l,h with
 | [a,b],_=>exact⟨a,b,rfl⟩
def bI0{l:List Value}(h:l.length=4):∃a b c d,l=[a,b,c,d]:=by
 match l,h with
 | [a,b,c,d],_=>exact⟨a,b,c,d,rfl⟩
def bc1{l:List Value}(h:l.length=13):∃a b c d e f g i j k m n o,l=[a,b,c,d,e,f,g,i,j,k,m,n,o]:=by
 match l,h with
 | [a,b,c,d,e,f,g,i,j,k,m,n,o],_=>exact⟨a,b,c,d,e,f,g,i,j,k,m,n,o,rfl⟩
section
variable {h k:Hp} {a:Addr} {v:Value} {w:World} {cs:List Value} (N:Nat->Prop)
def dO8{x:Pa}:A9.enc h cs x->cs=([x.name]:List Value)++([x.ref]:List Value):=by
 intro a;exact a
def At.pa{x:Pa}(d:At h a x):LW h (λw=>W8 prog w 9 a x.name/\W8 prog w 4 (a.add 1) x.ref)/\SW h (λS=>J4 prog S 9 a x.name/\J4 prog S 4 (a.add 1) x.ref):=by
 obtain⟨cs,e,b⟩:=d;obtain rfl:=dO8 e;exact lsw (λw c=>⟨N8 b rfl as9 w c,B5 b (o:=1) rfl ag4 w c⟩) (sw2 sw1)
def At.pa_v{x:Pa}(c:At h a x):∃b,SV h b x/\LdB 72 h a b:=c.sv2 bd9 be1 aX0 ak2
def cn2{x:Pa}(hv:SV h v x)(hw:E6 h (n8 w)):bZ8 72 v w x:=ca6 hv hw
def aF2{x:Pa}(hv:SV h v x)(hw:E6 h (n8 w)):bK6 72 v w x:=bE8 hv hw er7 rfl ak2
def dP0{x:Sp}:A9.enc h cs x->cs=([x.src]:List Value)++([x.dst]:List Value)++([x.kind]:List Value):=by
 intro a;exact a
def At.sp{x:Sp}(d:At h a x):LW h (λw=>W8 prog w 3 a x.src/\W8 prog w 3 (a.add 1) x.dst/\W8 prog w 3 (a.add 2) x.kind)/\SW h (λS=>J4 prog S 3 a x.src/\J4 prog S 3 (a.add 1) x.dst/\J4 prog S 3 (a.add 2) x.kind):=by
 obtain⟨cs,e,b⟩:=d;obtain rfl:=dP0 e;exact lsw (λw c=>⟨N8 b rfl K7 w c,B5 b (o:=1) rfl K7 w c,B5 b (o:=2) rfl K7 w c⟩) (sw2 (sw2 sw1))
def At.sp_v{x:Sp}(c:At h a x):∃b,SV h b x/\LdB 302 h a b:=c.sv2 cU2 cU9 bY3 bo6
def cX2{x:Sp}(hv:SV h v x)(hw:E6 h (n8 w)):bZ8 302 v w x:=ca6 hv hw
def dU1{x:Sp}(hv:SV h v x)(hw:E6 h (n8 w)):bK6 302 v w x:=bE8 hv hw dJ8 rfl bo6
def dO7{x:Fw}:A9.enc h cs x->cs=([x.src]:List Value)++([x.dst]:List Value)++([x.var]:List Value):=by
 intro a;exact a
def At.fw{x:Fw}(d:At h a x):LW h (λw=>W8 prog w 3 a x.src/\W8 prog w 3 (a.add 1) x.dst/\W8 prog w 9 (a.add 2) x.var)/\SW h (λS=>J4 prog S 3 a x.src/\J4 prog S 3 (a.add 1) x.dst/\J4 prog S 9 (a.add 2) x.var):=by
 obtain⟨cs,e,b⟩:=d;obtain rfl:=dO7 e;exact lsw (λw c=>⟨N8 b rfl K7 w c,B5 b (o:=1) rfl K7 w c,B5 b (o:=2) rfl as9 w c⟩) (sw2 (sw2 sw1))
def dT9{x:Fw}(hv:SV h v x)(hw:E6 h (n8 w)):bK6 213 v w x:=bE8 hv hw eg3 rfl bY5
def cY7{x:Vx}:A9.enc h cs x->cs=([x.proc]:List Value)++([x.kind]:List Value)++([x.id]:List Value)++([x.slot]:List Value):=by
 intro a;exact a
def At.vx{x:Vx}(d:At h a x):LW h (λw=>W8 prog w 9 a x.proc/\W8 prog w 3 (a.add 1) x.kind/\W8 prog w 3 (a.add 2) x.id/\W8 prog w 9 (a.add 3) x.slot)/\SW h (λS=>J4 prog S 9 a x.proc/\J4 prog S 3 (a.add 1) x.kind/\J4 prog S 3 (a.add 2) x.id/\J4 prog S 9 (a.add 3) x.slot):=by
 obtain⟨cs,e,b⟩:=d;obtain rfl:=cY7 e;exact lsw (λw c=>⟨N8 b rfl as9 w c,B5 b (o:=1) rfl K7 w c,B5 b (o:=2) rfl K7 w c,B5 b (o:=3) rfl as9 w c⟩) (sw2 (sw2 (sw2 sw1)))
def L8.vx{x:Vx}(hv:SV h v x)(f:L8 k a v):LW k (λw=>W8 prog w 9 a x.proc/\W8 prog w 3 (a.add 1) x.kind/\W8 prog w 3 (a.add 2) x.id/\W8 prog w 9 (a.add 3) x.slot)/\SW k (λS=>J4 prog S 9 a x.proc/\J4 prog S 3 (a.add 1) x.kind/\J4 prog S 3 (a.add 2) x.id/\J4 prog S 9 (a.add 3) x.slot):=by
 obtain⟨cs,rfl,g⟩:=hv;obtain⟨d,e,b⟩:=f;obtain rfl:=ai7 e;obtain rfl:=cY7 g;exact lsw (λw c=>⟨N8 b rfl as9 w c,B5 b (o:=1) rfl K7 w c,B5 b (o:=2) rfl K7 w c,B5 b (o:=3) rfl as9 w c⟩) (sw2 (sw2 (sw2 sw1)))
def L8.vx_v{x:Vx}(hv:SV h v x)(b:L8 k a v):LdB 27 k a v:=b.whole hv aB7 aB8 av4 R3
def aS1{x:Vx}(hv:SV h v x)(hN:LtN N w):cJ8 27 v w N:=cL4 hv hN
def aF4{x:Vx}(hv:SV h v x)(hN:LtN N w):cw3 27 v w N:=cI9 hv hN be2 rfl R3
def At.vx_v{x:Vx}(c:At h a x):∃b,SV h b x/\LdB 27 h a b:=c.sv2 aB7 aB8 av4 R3
def ak4{x:Vx}(hv:SV h v x)(hw:E6 h (n8 w)):bZ8 27 v w x:=ca6 hv hw
def ao6{x:Vx}(hv:SV h v x)(hw:E6 h (n8 w)):bK6 27 v w x:=bE8 hv hw be2 rfl R3
def cY2{x:Eg}:A9.enc h cs x->∃b a,cs=b++a++([x.kind]:List Value)/\A9.enc h b x.src/\A9.enc h a x.dst:=by
 intro c;exact⟨x.src.cells,x.dst.cells,c,rfl,rfl⟩
def At.eg{x:Eg}(A:At h a x):At h a x.src/\At h (a.add 4) x.dst/\LW h (λw=>W8 prog w 3 (a.add 8) x.kind)/\SW h (λS=>J4 prog S 3 (a.add 8) x.kind):=by
 obtain⟨cs,B,q⟩:=A;obtain⟨s,r,rfl,d,c⟩:=cY2 B;obtain⟨k,l,n,p,rfl⟩:=bI0 (A9.len d);obtain⟨e,f,g,i,rfl⟩:=bI0 (A9.len c);exact⟨bq6 q d (λj u b=>by
  match j,b with
  | 0,b=>exact b
  | 1,b=>exact b
  | 2,b=>exact b
  | 3,b=>exact b
  | m+4,b=>simp at b),bL3 q c (λj u b=>by
  match j,b with
  | 0,b=>exact b
  | 1,b=>exact b
  | 2,b=>exact b
  | 3,b=>exact b
  | m+4,b=>simp at b),λw t=>B5 q (o:=8) rfl K7 w t,λS C z t=>sdE z λy v=>B5 q (o:=8) rfl K7 y (t y v)⟩
def L8.eg{x:Eg}(hv:SV h v x)(G:L8 k a v):∃f e,SV h f x.src/\L8 k a f/\SV h e x.dst/\L8 k (a.add 4) e/\LW k (λw=>W8 prog w 3 (a.add 8) x.kind)/\SW k (λS=>J4 prog S 3 (a.add 8) x.kind):=by
 obtain⟨cs,rfl,H⟩:=hv;obtain⟨D,E,t⟩:=G;obtain rfl:=ai7 E;obtain⟨z,y,rfl,d,c⟩:=cY2 H;obtain⟨p,q,r,s,rfl⟩:=bI0 (A9.len d);obtain⟨g,i,l,n,rfl⟩:=bI0 (A9.len c);exact⟨_,_,⟨_,rfl,d⟩,bz5 t (λj u b=>by
  match j,b with
  | 0,b=>exact b
  | 1,b=>exact b
  | 2,b=>exact b
  | 3,b=>exact b
  | m+4,b=>simp at b),⟨_,rfl,c⟩,bq4 t (λj u b=>by
  match j,b with
  | 0,b=>exact b
  | 1,b=>exact b
  | 2,b=>exact b
  | 3,b=>exact b
  | m+4,b=>simp at b),λw A=>B5 t (o:=8) rfl K7 w A,λS I F A=>sdE F λC B=>B5 t (o:=8) rfl K7 C (A C B)⟩
def L8.eg_v{x:Eg}(hv:SV h v x)(b:L8 k a v):LdB 54 k a v:=b.whole hv bJ7 bK1 bk6 aw4
def cX3{x:Eg}(hv:SV h v x)(hN:LtN N w):cJ8 54 v w N:=cL4 hv hN
def ct6{x:Eg}(hv:SV h v x)(hN:LtN N w):cw3 54 v w N:=cI9 hv hN dc9 rfl aw4
def At.eg_v{x:Eg}(c:At h a x):∃b,SV h b x/\LdB 54 h a b:=c.sv2 bJ7 bK1 bk6 aw4
def cY3{x:Ex}:A9.enc h cs x->∃a,cs=([x.op]:List Value)++([x.n]:List Value)++([x.name]:List Value)++([a]:List Value)/\R h a x.kids:=by
 intro c;obtain⟨d,rfl,b⟩:=bQ5.1 c;exact⟨d,rfl,b⟩
def At.ex{x:Ex}(f:At h a x):∃b,R h b x.kids/\LW h (λw=>W8 prog w 3 a x.op/\W8 prog w 2 (a.add 1) x.n/\W8 prog w 9 (a.add 2) x.name/\W8 prog w 108 (a.add 3) b)/\SW h (λS=>J4 prog S 3 a x.op/\J4 prog S 2 (a.add 1) x.n/\J4 prog S 9 (a.add 2) x.name/\J4 prog S 108 (a.add 3) b):=by
 obtain⟨cs,g,d⟩:=f;obtain⟨b,rfl,c⟩:=cY3 g;exact⟨_,c,lsw (λw e=>⟨N8 d rfl K7 w e,B5 d (o:=1) rfl eq8 w e,B5 d (o:=2) rfl as9 w e,B5 d (o:=3) rfl dG5 w e⟩) (sw2 (sw2 (sw2 sw1)))⟩
def L8.ex{x:Ex}(hv:SV h v x)(i:L8 k a v):∃b,R h b x.kids/\LW k (λw=>W8 prog w 3 a x.op/\W8 prog w 2 (a.add 1) x.n/\W8 prog w 9 (a.add 2) x.name/\W8 prog w 108 (a.add 3) b)/\SW k (λS=>J4 prog S 3 a x.op/\J4 prog S 2 (a.add 1) x.n/\J4 prog S 9 (a.add 2) x.name/\J4 prog S 108 (a.add 3) b):=by
 obtain⟨cs,rfl,j⟩:=hv;obtain⟨f,g,d⟩:=i;obtain rfl:=ai7 g;obtain⟨b,rfl,c⟩:=cY3 j;exact⟨_,c,lsw (λw e=>⟨N8 d rfl K7 w e,B5 d (o:=1) rfl eq8 w e,B5 d (o:=2) rfl as9 w e,B5 d (o:=3) rfl dG5 w e⟩) (sw2 (sw2 (sw2 sw1)))⟩
def L8.ex_v{x:Ex}(hv:SV h v x)(b:L8 k a v):LdB 110 k a v:=b.whole hv bd7 be0 aV6 ag6
def bL6{x:Ex}(hv:SV h v x)(hN:LtN N w):cJ8 110 v w N:=cL4 hv hN
def dU2{x:Ex}(hv:SV h v x)(hN:LtN N w):cw3 110 v w N:=cI9 hv hN cV0 rfl ag6
def At.ex_v{x:Ex}(c:At h a x):∃b,SV h b x/\LdB 110 h a b:=c.sv2 bd7 be0 aV6 ag6
def ay7{x:Ex}(hv:SV h v x)(hw:E6 h (n8 w)):bZ8 110 v w x:=ca6 hv hw
def dT8{x:Ex}(hv:SV h v x)(hw:E6 h (n8 w)):bK6 110 v w x:=bE8 hv hw cV0 rfl ag6
def cY1{x:Ar}:A9.enc h cs x->∃a,cs=([x.ref]:List Value)++([x.name]:List Value)++a/\A9.enc h a x.x:=by
 rintro⟨c,rfl,b⟩;exact⟨c,rfl,b⟩
def At.ar{x:Ar}(r:At h a x):At h (a.add 2) x.x/\LW h (λw=>W8 prog w 4 a x.ref/\W8 prog w 9 (a.add 1) x.name)/\SW h (λS=>J4 prog S 4 a x.ref/\J4 prog S 9 (a.add 1) x.name):=by
 obtain⟨cs,s,e⟩:=r;obtain⟨q,rfl,d⟩:=cY1 s;obtain⟨i,k,l,n,rfl⟩:=bI0 (A9.len d);exact⟨bL3 e d (λj u b=>by
  match j,b with
  | 0,b=>exact b
  | 1,b=>exact b
  | 2,b=>exact b
  | 3,b=>exact b
  | m+4,b=>simp at b),λw f=>⟨N8 e rfl ag4 w f,B5 e (o:=1) rfl as9 w f⟩,λS t p f=>⟨sdE p λg c=>N8 e rfl ag4 g (f g c),sdE p λg c=>B5 e (o:=1) rfl as9 g (f g c)⟩⟩
def L8.ar{x:Ar}(hv:SV h v x)(z:L8 k a v):∃g,SV h g x.x/\L8 k (a.add 2) g/\LW k (λw=>W8 prog w 4 a x.ref/\W8 prog w 9 (a.add 1) x.name)/\SW k (λS=>J4 prog S 4 a x.ref/\J4 prog S 9 (a.add 1) x.name):=by
 obtain⟨cs,rfl,A⟩:=hv;obtain⟨t,y,e⟩:=z;obtain rfl:=ai7 y;obtain⟨s,rfl,d⟩:=cY1 A;obtain⟨l,n,p,q,rfl⟩:=bI0 (A9.len d);exact⟨_,⟨_,rfl,d⟩,bq4 e (λj u b=>by
  match j,b with
  | 0,b=>exact b
  | 1,b=>exact b
  | 2,b=>exact b
  | 3,b=>exact b
  | m+4,b=>simp at b),λw f=>⟨N8 e rfl ag4 w f,B5 e (o:=1) rfl as9 w f⟩,λS B r f=>⟨sdE r λi c=>N8 e rfl ag4 i (f i c),sdE r λi c=>B5 e (o:=1) rfl as9 i (f i c)⟩⟩
def dd3{x:Ar}(hv:SV h v x)(hN:LtN N w):cw3 125 v w N:=cI9 hv hN dJ1 rfl aa3
def At.ar_v{x:Ar}(c:At h a x):∃b,SV h b x/\LdB 125 h a b:=c.sv2 aM8 aM9 aK0 aa3
def cX0{x:Ar}(hv:SV h v x)(hw:E6 h (n8 w)):bZ8 125 v w x:=ca6 hv hw
def bi1{x:Ar}(hv:SV h v x)(hw:E6 h (n8 w)):bK6 125 v w x:=bE8 hv hw dJ1 rfl aa3
def cY6{x:St}:A9.enc h cs x->∃a e b d c,cs=([x.id]:List Value)++([x.kind]:List Value)++([a]:List Value)++([x.name]:List Value)++([x.proc]:List Value)++e++([x.has]:List Value)++([b]:List Value)++([d]:List Value)++([c]:List Value)/\R h a x.labels/\A9.enc h e x.x/\R h b x.args/\R h d x.thn/\R h c x.els:=by
 intro m;obtain⟨p,f,n,q,o,rfl,g,i,j,k,l⟩:=bQ6.1 m;exact⟨p,f,n,q,o,dG,g,i,j,k,l⟩
def At.st{x:St}(C:At h a x):∃c e k i,R h c x.labels/\R h e x.args/\R h k x.thn/\R h i x.els/\At h (a.add 5) x.x/\LW h (λw=>W8 prog w 3 a x.id/\W8 prog w 3 (a.add 1) x.kind/\W8 prog w 22 (a.add 2) c/\W8 prog w 9 (a.add 3) x.name/\W8 prog w 9 (a.add 4) x.proc/\W8 prog w 4 (a.add 9) x.has/\W8 prog w 111 (a.add 10) e/\W8 prog w 66 (a.add 11) k/\W8 prog w 66 (a.add 12) i)/\SW h (λS=>J4 prog S 3 a x.id/\J4 prog S 3 (a.add 1) x.kind/\J4 prog S 22 (a.add 2) c/\J4 prog S 9 (a.add 3) x.name/\J4 prog S 9 (a.add 4) x.proc/\J4 prog S 4 (a.add 9) x.has/\J4 prog S 111 (a.add 10) e/\J4 prog S 66 (a.add 11) k/\J4 prog S 66 (a.add 12) i):=by
 obtain⟨cs,D,f⟩:=C;obtain⟨c,B,e,k,i,rfl,l,t,q,s,r⟩:=cY6 D;obtain⟨v,y,z,A,rfl⟩:=bI0 (A9.len t);exact⟨_,_,_,_,l,q,s,r,bL3 f t (λj u n=>by
  match j,n with
  | 0,n=>exact n
  | 1,n=>exact n
  | 2,n=>exact n
  | 3,n=>exact n
  | m+4,n=>simp at n),λw g=>⟨N8 f rfl K7 w g,B5 f (o:=1) rfl K7 w g,B5 f (o:=2) rfl ab6 w g,B5 f (o:=3) rfl as9 w g,B5 f (o:=4) rfl as9 w g,B5 f (o:=9) rfl ag4 w g,B5 f (o:=10) rfl cs8 w g,B5 f (o:=11) rfl bk5 w g,B5 f (o:=12) rfl bk5 w g⟩,λS E p g=>⟨sdE p λd b=>N8 f rfl K7 d (g d b),sdE p λd b=>B5 f (o:=1) rfl K7 d (g d b),sdE p λd b=>B5 f (o:=2) rfl ab6 d (g d b),sdE p λd b=>B5 f (o:=3) rfl as9 d (g d b),sdE p λd b=>B5 f (o:=4) rfl as9 d (g d b),sdE p λd b=>B5 f (o:=9) rfl ag4 d (g d b),sdE p λd b=>B5 f (o:=10) rfl cs8 d (g d b),sdE p λd b=>B5 f (o:=11) rfl bk5 d (g d b),sdE p λd b=>B5 f (o:=12) rfl bk5 d (g d b)⟩⟩
def L8.st{x:St}(hv:SV h v x)(H:L8 k a v):∃c z e l i,R h c x.labels/\SV h z x.x/\L8 k (a.add 5) z/\R h e x.args/\R h l x.thn/\R h i x.els/\LW k (λw=>W8 prog w 3 a x.id/\W8 prog w 3 (a.add 1) x.kind/\W8 prog w 22 (a.add 2) c/\W8 prog w 9 (a.add 3) x.name/\W8 prog w 9 (a.add 4) x.proc/\W8 prog w 4 (a.add 9) x.has/\W8 prog w 111 (a.add 10) e/\W8 prog w 66 (a.add 11) l/\W8 prog w 66 (a.add 12) i)/\SW k (λS=>J4 prog S 3 a x.id/\J4 prog S 3 (a.add 1) x.kind/\J4 prog S 22 (a.add 2) c/\J4 prog S 9 (a.add 3) x.name/\J4 prog S 9 (a.add 4) x.proc/\J4 prog S 4 (a.add 9) x.has/\J4 prog S 111 (a.add 10) e/\J4 prog S 66 (a.add 11) l/\J4 prog S 66 (a.add 12) i):=by
 obtain⟨cs,rfl,I⟩:=hv;obtain⟨F,G,f⟩:=H;obtain rfl:=ai7 G;obtain⟨c,E,e,l,i,rfl,n,y,r,t,s⟩:=cY6 I;obtain⟨A,B,C,D,rfl⟩:=bI0 (A9.len y);exact⟨_,_,_,_,_,n,⟨_,rfl,y⟩,bq4 f (λj u p=>by
  match j,p with
  | 0,p=>exact p
  | 1,p=>exact p
  | 2,p=>exact p
  | 3,p=>exact p
  | m+4,p=>simp at p),r,t,s,λw g=>⟨N8 f rfl K7 w g,B5 f (o:=1) rfl K7 w g,B5 f (o:=2) rfl ab6 w g,B5 f (o:=3) rfl as9 w g,B5 f (o:=4) rfl as9 w g,B5 f (o:=9) rfl ag4 w g,B5 f (o:=10) rfl cs8 w g,B5 f (o:=11) rfl bk5 w g,B5 f (o:=12) rfl bk5 w g⟩,λS J q g=>⟨sdE q λd b=>N8 f rfl K7 d (g d b),sdE q λd b=>B5 f (o:=1) rfl K7 d (g d b),sdE q λd b=>B5 f (o:=2) rfl ab6 d (g d b),sdE q λd b=>B5 f (o:=3) rfl as9 d (g d b),sdE q λd b=>B5 f (o:=4) rfl as9 d (g d b),sdE q λd b=>B5 f (o:=9) rfl ag4 d (g d b),sdE q λd b=>B5 f (o:=10) rfl cs8 d (g d b),sdE q λd b=>B5 f (o:=11) rfl bk5 d (g d b),sdE q λd b=>B5 f (o:=12) rfl bk5 d (g d b)⟩⟩
def L8.st_v{x:St}(hv:SV h v x)(b:L8 k a v):LdB 113 k a v:=b.whole hv bo5 bo7 aV7 ag7
def cX5{x:St}(hv:SV h v x)(hN:LtN N w):cJ8 113 v w N:=cL4 hv hN
def dU3{x:St}(hv:SV h v x)(hN:LtN N w):cw3 113 v w N:=cI9 hv hN bY7 rfl ag7
def At.st_v{x:St}(c:At h a x):∃b,SV h b x/\LdB 113 h a b:=c.sv2 bo5 bo7 aV7 ag7
def ay8{x:St}(hv:SV h v x)(hw:E6 h (n8 w)):bZ8 113 v w x:=ca6 hv hw
def bx8{x:St}(hv:SV h v x)(hw:E6 h (n8 w)):bK6 113 v w x:=bE8 hv hw bY7 rfl ag7
def cY5{x:Pr}:A9.enc h cs x->∃a c b d,cs=([x.name]:List Value)++([a]:List Value)++([c]:List Value)++([b]:List Value)++([d]:List Value)/\R h a x.params/\R h c x.vars/\R h b x.body/\R h d x.fin:=by
 rintro⟨j,k,l,m,rfl,e,f,g,i⟩;exact⟨j,k,l,m,rfl,e,f,g,i⟩
def At.pr{x:Pr}(m:At h a x):∃b d c e,R h b x.params/\R h d x.vars/\R h c x.body/\R h e x.fin/\LW h (λw=>W8 prog w 9 a x.name/\W8 prog w 65 (a.add 1) b/\W8 prog w 22 (a.add 2) d/\W8 prog w 66 (a.add 3) c/\W8 prog w 22 (a.add 4) e)/\SW h (λS=>J4 prog S 9 a x.name/\J4 prog S 65 (a.add 1) b/\J4 prog S 22 (a.add 2) d/\J4 prog S 66 (a.add 3) c/\J4 prog S 22 (a.add 4) e):=by
 obtain⟨cs,n,k⟩:=m;obtain⟨b,d,c,e,rfl,f,i,g,j⟩:=cY5 n;exact⟨_,_,_,_,f,i,g,j,lsw (λw l=>⟨N8 k rfl as9 w l,B5 k (o:=1) rfl dY3 w l,B5 k (o:=2) rfl ab6 w l,B5 k (o:=3) rfl bk5 w l,B5 k (o:=4) rfl ab6 w l⟩) (sw2 (sw2 (sw2 (sw2 sw1))))⟩
def L8.pr{x:Pr}(hv:SV h v x)(q:L8 k a v):∃b d c e,R h b x.params/\R h d x.vars/\R h c x.body/\R h e x.fin/\LW k (λw=>W8 prog w 9 a x.name/\W8 prog w 65 (a.add 1) b/\W8 prog w 22 (a.add 2) d/\W8 prog w 66 (a.add 3) c/\W8 prog w 22 (a.add 4) e)/\SW k (λS=>J4 prog S 9 a x.name/\J4 prog S 65 (a.add 1) b/\J4 prog S 22 (a.add 2) d/\J4 prog S 66 (a.add 3) c/\J4 prog S 22 (a.add 4) e):=by
 obtain⟨cs,rfl,r⟩:=hv;obtain⟨n,p,l⟩:=q;obtain rfl:=ai7 p;obtain⟨b,d,c,e,rfl,f,i,g,j⟩:=cY5 r;exact⟨_,_,_,_,f,i,g,j,lsw (λw m=>⟨N8 l rfl as9 w m,B5 l (o:=1) rfl dY3 w m,B5 l (o:=2) rfl ab6 w m,B5 l (o:=3) rfl bk5 w m,B5 l (o:=4) rfl ab6 w m⟩) (sw2 (sw2 (sw2 (sw2 sw1))))⟩
def L8.pr_v{x:Pr}(hv:SV h v x)(b:L8 k a v):LdB 68 k a v:=b.whole hv as1 as2 ao1 N6
def cX4{x:Pr}(hv:SV h v x)(hN:LtN N w):cJ8 68 v w N:=cL4 hv hN
def aM3{x:Pr}(hv:SV h v x)(hN:LtN N w):cw3 68 v w N:=cI9 hv hN cI8 rfl N6
def At.pr_v{x:Pr}(c:At h a x):∃b,SV h b x/\LdB 68 h a b:=c.sv2 as1 as2 ao1 N6
def bL5{x:Pr}(hv:SV h v x)(hw:E6 h (n8 w)):bZ8 68 v w x:=ca6 hv hw
def aM2{x:Pr}(hv:SV h v x)(hw:E6 h (n8 w)):bK6 68 v w x:=bE8 hv hw cI8 rfl N6
def co5{x:Pg}:A9.enc h cs x->∃a b,cs=([a]:List Value)++([b]:List Value)/\R h a x.globals/\R h b x.procs:=by
 rintro⟨e,f,rfl,c,d⟩;exact⟨e,f,rfl,c,d⟩
def At.pg{x:Pg}(i:At h a x):∃b c,R h b x.globals/\R h c x.procs/\LW h (λw=>W8 prog w 22 a b/\W8 prog w 23 (a.add 1) c)/\SW h (λS=>J4 prog S 22 a b/\J4 prog S 23 (a.add 1) c):=by
 obtain⟨cs,j,f⟩:=i;obtain⟨b,c,rfl,d,e⟩:=co5 j;exact⟨_,_,d,e,lsw (λw g=>⟨N8 f rfl ab6 w g,B5 f (o:=1) rfl dH3 w g⟩) (sw2 sw1)⟩
def L8.pg{x:Pg}(hv:SV h v x)(l:L8 k a v):∃b c,R h b x.globals/\R h c x.procs/\LW k (λw=>W8 prog w 22 a b/\W8 prog w 23 (a.add 1) c)/\SW k (λS=>J4 prog S 22 a b/\J4 prog S 23 (a.add 1) c):=by
 obtain⟨cs,rfl,m⟩:=hv;obtain⟨i,j,f⟩:=l;obtain rfl:=ai7 j;obtain⟨b,c,rfl,d,e⟩:=co5 m;exact⟨_,_,d,e,lsw (λw g=>⟨N8 f rfl ab6 w g,B5 f (o:=1) rfl dH3 w g⟩) (sw2 sw1)⟩
def L8.pg_v{x:Pg}(hv:SV h v x)(b:L8 k a v):LdB 25 k a v:=b.whole hv dH4 dJ0 dH5 cI6
def af3{x:Pg}(hv:SV h v x)(hN:LtN N w):cJ8 25 v w N:=cL4 hv hN
def At.pg_v{x:Pg}(c:At h a x):∃b,SV h b x/\LdB 25 h a b:=c.sv2 dH4 dJ0 dH5 cI6
def L3{x:Pg}(hv:SV h v x)(hw:E6 h (n8 w)):bZ8 25 v w x:=ca6 hv hw
def dd2{x:Pg}(hv:SV h v x)(hw:E6 h (n8 w)):bK6 25 v w x:=bE8 hv hw dZ4 rfl cI6
def bf3{x:It}:A9.enc h cs x->∃a,cs=a++([x.proc]:List Value)++([x.up]:List Value)++([x.next]:List Value)++([x.loop]:List Value)/\A9.enc h a x.s:=by
 rintro⟨c,rfl,b⟩;exact⟨c,dG,b⟩
def At.it{x:It}(D:At h a x):At h a x.s/\LW h (λw=>W8 prog w 3 (a.add 13) x.proc/\W8 prog w 3 (a.add 14) x.up/\W8 prog w 3 (a.add 15) x.next/\W8 prog w 3 (a.add 16) x.loop)/\SW h (λS=>J4 prog S 3 (a.add 13) x.proc/\J4 prog S 3 (a.add 14) x.up/\J4 prog S 3 (a.add 15) x.next/\J4 prog S 3 (a.add 16) x.loop):=by
 obtain⟨cs,E,e⟩:=D;obtain⟨C,rfl,g⟩:=bf3 E;obtain⟨p,q,r,s,t,v,y,z,A,B,k,l,n,rfl⟩:=bc1 (A9.len g);exact⟨bq6 e g (λj u b=>by
  match j,b with
  | 0,b=>exact b
  | 1,b=>exact b
  | 2,b=>exact b
  | 3,b=>exact b
  | 4,b=>exact b
  | 5,b=>exact b
  | 6,b=>exact b
  | 7,b=>exact b
  | 8,b=>exact b
  | 9,b=>exact b
  | 10,b=>exact b
  | 11,b=>exact b
  | 12,b=>exact b
  | m+13,b=>simp at b),λw f=>⟨B5 e (o:=13) rfl K7 w f,B5 e (o:=14) rfl K7 w f,B5 e (o:=15) rfl K7 w f,B5 e (o:=16) rfl K7 w f⟩,λS F i f=>⟨sdE i λd c=>B5 e (o:=13) rfl K7 d (f d c),sdE i λd c=>B5 e (o:=14) rfl K7 d (f d c),sdE i λd c=>B5 e (o:=15) rfl K7 d (f d c),sdE i λd c=>B5 e (o:=16) rfl K7 d (f d c)⟩⟩
def L8.it{x:It}(hv:SV h v x)(I:L8 k a v):∃i,SV h i x.s/\L8 k a i/\LW k (λw=>W8 prog w 3 (a.add 13) x.proc/\W8 prog w 3 (a.add 14) x.up/\W8 prog w 3 (a.add 15) x.next/\W8 prog w 3 (a.add 16) x.loop)/\SW k (λS=>J4 prog S 3 (a.add 13) x.proc/\J4 prog S 3 (a.add 14) x.up/\J4 prog S 3 (a.add 15) x.next/\J4 prog S 3 (a.add 16) x.loop):=by
 obtain⟨cs,rfl,J⟩:=hv;obtain⟨G,H,e⟩:=I;obtain rfl:=ai7 H;obtain⟨F,rfl,g⟩:=bf3 J;obtain⟨r,s,t,y,z,A,B,C,D,E,n,p,q,rfl⟩:=bc1 (A9.len g);exact⟨_,⟨_,rfl,g⟩,bz5 e (λj u b=>by
  match j,b with
  | 0,b=>exact b
  | 1,b=>exact b
  | 2,b=>exact b
  | 3,b=>exact b
  | 4,b=>exact b
  | 5,b=>exact b
  | 6,b=>exact b
  | 7,b=>exact b
  | 8,b=>exact b
  | 9,b=>exact b
  | 10,b=>exact b
  | 11,b=>exact b
  | 12,b=>exact b
  | m+13,b=>simp at b),λw f=>⟨B5 e (o:=13) rfl K7 w f,B5 e (o:=14) rfl K7 w f,B5 e (o:=15) rfl K7 w f,B5 e (o:=16) rfl K7 w f⟩,λS K l f=>⟨sdE l λd c=>B5 e (o:=13) rfl K7 d (f d c),sdE l λd c=>B5 e (o:=14) rfl K7 d (f d c),sdE l λd c=>B5 e (o:=15) rfl K7 d (f d c),sdE l λd c=>B5 e (o:=16) rfl K7 d (f d c)⟩⟩
def L8.it_v{x:It}(hv:SV h v x)(b:L8 k a v):LdB 156 k a v:=b.whole hv ai4 ai5 ag5 M4
def dN3{x:It}(hv:SV h v x)(hN:LtN N w):cJ8 156 v w N:=cL4 hv hN
def bi2{x:It}(hv:SV h v x)(hN:LtN N w):cw3 156 v w N:=cI9 hv hN cV2 rfl M4
def cX1{x:It}(hv:SV h v x)(hw:E6 h (n8 w)):bZ8 156 v w x:=ca6 hv hw
def az4{x:It}(hv:SV h v x)(hw:E6 h (n8 w)):bK6 156 v w x:=bE8 hv hw cV2 rfl M4
def dO9{x:Sh}:A9.enc h cs x->∃d e b a,cs=d++([e]:List Value)++([b]:List Value)++([a]:List Value)/\A9.enc h d x.p/\R h e x.l/\R h b x.lo/\R h a x.hi:=by
 rintro⟨c,k,l,m,rfl,f,g,i,j⟩;exact⟨c,k,l,m,dG,f,g,i,j⟩
def At.sh{x:Sh}(y:At h a x):∃e c b,R h e x.l/\R h c x.lo/\R h b x.hi/\At h a x.p/\LW h (λw=>W8 prog w 157 (a.add 2) e/\W8 prog w 45 (a.add 3) c/\W8 prog w 45 (a.add 4) b)/\SW h (λS=>J4 prog S 157 (a.add 2) e/\J4 prog S 45 (a.add 3) c/\J4 prog S 45 (a.add 4) b):=by
 obtain⟨cs,z,g⟩:=y;obtain⟨v,e,c,b,rfl,p,r,n,l⟩:=dO9 z;obtain⟨s,t,rfl⟩:=el9 (A9.len p);exact⟨_,_,_,r,n,l,bq6 g p (λj u i=>by
  match j,i with
  | 0,i=>exact i
  | 1,i=>exact i
  | m+2,i=>simp at i),λw k=>⟨B5 g (o:=2) rfl bD9 w k,B5 g (o:=3) rfl ao0 w k,B5 g (o:=4) rfl ao0 w k⟩,λS A q k=>⟨sdE q λf d=>B5 g (o:=2) rfl bD9 f (k f d),sdE q λf d=>B5 g (o:=3) rfl ao0 f (k f d),sdE q λf d=>B5 g (o:=4) rfl ao0 f (k f d)⟩⟩
end
def au1(c:UInt8):Bool:=decide (97<=c.toNat)&&decide (c.toNat<=122)
def bm2(c:UInt8):Bool:=decide (48<=c.toNat)&&decide (c.toNat<=57)
def am3(c:UInt8):Bool:=au1 c||bm2 c
def aD1:List B9:=[ofA #[103,108,111,98,97,108],ofA #[112,114,111,99],ofA #[118,97,114],ofA #[114,101,102],ofA #[105,102],ofA #[101,108,115,101],ofA #[119,104,105,108,101],ofA #[98,114,101,97,107],ofA #[99,111,110,116,105,110,117,101],ofA #[114,101,116,117,114,110],ofA #[103,111,116,111],ofA #[114,101,97,100],ofA #[112,114,105,110,116]]
def bZ2(s:B9):Bool:=aD1.contains s
def R8(s:B9):Bool:=match s.b with
 | []=>false
 | c::l=>decide (l.length<8)&&au1 c&&l.all am3 && !bZ2 s
def X7(l:List B9):Bool:=l.all R8
def ar0(op:Int):Int:=if op=1\/op=2 then 0 else if op=3\/op=4 then 1 else if 5<=op/\op<=17 then 2 else -1
def aa1:Nat->Ex->Bool
 | 0,_=>false
 | n+1,x=>if(x.kids.length:Int)≠ar0 x.op then false
   else if x.op=1 then decide (0<=x.n)&&decide (x.name=e0)
   else if x.op=2 then decide (x.n=0)&&R8 x.name
   else if x.n≠0\/x.name≠e0 then false
   else x.kids.all (aa1 n)
def ch9(x:Ex):Bool:=decide (x.op=0)&&decide (x.n=0)&&decide (x.name=e0)&&decide (x.kids.length=0)
def ae2(s:B9)(b:Bool):Bool:=(b&&R8 s)||(!b&&decide (s=e0))
def an6(x:Ex)(b:Bool):Bool:=(b&&aa1 20 x)||(!b&&ch9 x)
def aT2(l:List Ar):Bool:=l.all λa=>ae2 a.name a.ref&&an6 a.x (!a.ref)
structure Fl where
 name:Bool
 proc:Bool
 x:Bool
 has:Bool
 thn:Bool
 els:Bool
def Z9(s:St):Option Fl:=
 if s.kind=1 then some ⟨true,false,true,s.has,false,false⟩
 else if s.kind=2\/s.kind=10 then some ⟨true,false,false,s.has,false,false⟩
 else if s.kind=3 then some ⟨false,false,true,s.has,false,false⟩
 else if s.kind=4 then some ⟨decide (s.name≠e0),true,false,s.has,false,false⟩
 else if s.kind=5 then some ⟨false,false,true,s.has,true,true⟩
 else if s.kind=6 then some ⟨false,false,true,s.has,true,false⟩
 else if s.kind=9 then some ⟨false,false,s.has,false,false,false⟩
 else if s.kind=7\/s.kind=8 then some ⟨false,false,false,s.has,false,false⟩
 else none
def O3(s:St):Bool:=match Z9 s with
 | none=>false
 | some k=>!(k.has||(!k.thn&&decide (0<s.thn.length))||(!k.els&&decide (0<s.els.length))||(!decide (s.kind=4)&&decide (0<s.args.length))) &&
   ae2 s.name k.name&&ae2 s.proc k.proc&&an6 s.x k.x&&aT2 s.args
def J9:Nat->List St->Int->Option Int
 | 0,l,n=>if l.length=0 then some n else none
 | d+1,l,n=>l.foldlM (λn s=>if n+1>200\/s.id≠n+1\/X7 s.labels=false\/O3 s=false then none else(J9 d s.thn (n+1)).bind λm=>J9 d s.els m) n
def ac8(f:Pr)(n:Int):Option Int:=
 if f.params.length>8\/f.vars.length>16\/R8 f.name=false\/X7 f.vars=false\/X7 f.fin=false\/(f.params.all λa=>R8 a.name)=false then none else J9 12 f.body n
def O1(p:Pg):Bool:=decide (p.globals.length<=16)&&decide (p.procs.length<=16)&&X7 p.globals&&(p.procs.foldlM (λn f=>ac8 f n) 0).isSome
mutual
def ay9:Ex->List B9->List B9
 | .mk op _ name kids,out=>aE4 kids (if op=2/\out.contains name=false then out++[name]else out)
def aE4:List Ex->List B9->List B9
 | [],out=>out
 | x::xs,out=>aE4 xs (ay9 x out)
end
def ap6(x:Ex):List B9:=if aa1 20 x then ay9 x []else[]
mutual
def ae6:St->Nat
 | .mk _ _ _ _ _ _ _ _ thn els=>1+B8 thn+B8 els
def B8:List St->Nat
 | []=>0
 | t::l=>ae6 t+B8 l
end
def aJ7(t:St):ae6 t=1+B8 t.thn+B8 t.els:=by
 cases t;simp only[ae6,St.thn,St.els]
def cj8(t:St):0<ae6 t:=by rw[aJ7];omega
def bm0:∀(l m:List St),B8 (l++m)=B8 l+B8 m
 | [],m=>by simp[B8]
 | s::l,m=>by rw[eP1,B8,B8,bm0 l m];omega
def ac0:∀(l:List St),l.length<=B8 l
 | []=>dG
 | s::l=>by have:=ac0 l;have:=cj8 s;rw[B8,eG6];omega
def wtT(s:B9):Nat:=1+s.b.length
def aQ9:List B9->Nat
 | []=>0
 | s::l=>wtT s+aQ9 l
mutual
def ae9:Ex->Nat
 | .mk _ _ name kids=>wtT name+aK3 kids
def aK3:List Ex->Nat
 | []=>0
 | x::l=>ae9 x+aK3 l
end
def aD2(a:Ar):Nat:=ae9 a.x+wtT a.name
def ao2:List Ar->Nat
 | []=>0
 | a::l=>aD2 a+ao2 l
mutual
def Z6:St->Nat
 | .mk _ _ labels name proc x _ args thn els=>ae9 x+aQ9 labels+wtT name+wtT proc+ao2 args+M5 thn+M5 els
def M5:List St->Nat
 | []=>0
 | x::l=>Z6 x+M5 l
end
def bZ6:List Pa->Nat
 | []=>0
 | a::l=>wtT a.name+bZ6 l
def ah4(f:Pr):Nat:=wtT f.name+aQ9 f.vars+aQ9 f.fin+bZ6 f.params+M5 f.body
def aX3:List Pr->Nat
 | []=>0
 | f::l=>ah4 f+aX3 l
def C1(p:Pg):Nat:=aQ9 p.globals+aX3 p.procs
def ab8:∀(l:List B9),l.length<=aQ9 l
 | []=>by simp[aQ9]
 | s::l=>by have:=ab8 l;simp only[aQ9,wtT,eG6];omega
def be5(x:Ex):1<=ae9 x:=by cases x;simp only[ae9,wtT];omega
def cl2:∀(l:List Ex),l.length<=aK3 l
 | []=>by simp[aK3]
 | s::l=>by have:=cl2 l;have:=be5 s;simp only[aK3,eG6];omega
def bF2:∀{l:List Ex} {s:Ex},s∈l->ae9 s<=aK3 l
 | t::l,s,h=>by
  simp only[aK3];rcases eF0.1 h with rfl|h
  .omega
  .have:=bF2 h;omega
def cu2(x:Ex):ae9 x=wtT x.name+aK3 x.kids:=by cases x;simp only[ae9,Ex.name,Ex.kids]
def ay2:∀(l:List Ar),l.length<=ao2 l
 | []=>by simp[ao2]
 | s::l=>by have:=ay2 l;have:=be5 s.x;simp only[ao2,aD2,eG6];omega
def bi4:∀{l:List Ar} {s:Ar},s∈l->aD2 s<=ao2 l
 | t::l,s,h=>by
  simp only[ao2];rcases eF0.1 h with rfl|h
  .omega
  .have:=bi4 h;omega
def aa0(s:St):Z6 s=ae9 s.x+aQ9 s.labels+wtT s.name+wtT s.proc+ao2 s.args+M5 s.thn+M5 s.els:=by
 cases s;simp only[Z6,St.x,St.labels,St.name,St.proc,St.args,St.thn,St.els]
def cJ5(s:St):3<=Z6 s:=by rw[aa0];have:=be5 s.x;simp only[wtT];omega
def cl7:∀(l:List St),3*l.length<=M5 l
 | []=>by simp[M5]
 | s::l=>by have:=cl7 l;have:=cJ5 s;simp only[M5,eG6];omega
def ay5:∀{l:List St} {s:St},s∈l->Z6 s<=M5 l
 | t::l,s,h=>by
  simp only[M5];rcases eF0.1 h with rfl|h
  .omega
  .have:=ay5 h;omega
def ay3:∀(l:List Pa),l.length<=bZ6 l
 | []=>by simp[bZ6]
 | s::l=>by have:=ay3 l;simp only[bZ6,wtT,eG6];omega
def as3:∀(l:List Pr),l.length<=aX3 l
 | []=>by simp[aX3]
 | s::l=>by have:=as3 l;simp only[aX3,ah4,wtT,eG6];omega
def ay4:∀{l:List Pr} {s:Pr},s∈l->ah4 s<=aX3 l
 | t::l,s,h=>by
  simp only[aX3];rcases eF0.1 h with rfl|h
  .omega
  .have:=ay4 h;omega
mutual
def cl6:∀(s:St),3*ae6 s<=Z6 s
 | .mk _ _ labels name proc x _ args thn els=>by
  have a:=aK4 thn;have b:=aK4 els;have c:=be5 x;simp only[ae6,Z6,wtT];omega
def aK4:∀(l:List St),3*B8 l<=M5 l
 | []=>by simp[B8,M5]
 | s::l=>by
  have a:=cl6 s;have b:=aK4 l;simp only[B8,M5];omega
end
def eQ1:=@Bool.or_true
def eQ0:=@Bool.true_or
def eE2:=@Nat.zero_le
def eI5:=@decide_eq_decide
def zJ{a b:Prop}(x:a)(y:b):a/\b:=⟨x,y⟩
def p6:=zJ (zJ (zJ (zJ (zJ (zJ @bM9 @et2) (zJ @es5 (zJ @ei4 @es8))) (zJ (zJ @es9 @es6) (zJ @es7 (zJ @ew6 @ew2)))) (zJ (zJ (zJ @eq4 @ew3) (zJ @ew4 (zJ @ej7 @eh0))) (zJ (zJ @ej8 @ej9) (zJ @eu9 (zJ @eu8 @et4))))) (zJ (zJ (zJ (zJ @ew9 @eA9) (zJ @ei2 (zJ @ev8 @ei3))) (zJ (zJ @ev9 @ez4) (zJ @eB4 (zJ @dR9 @eo2)))) (zJ (zJ (zJ @dS0 @eo3) (zJ @eo4 (zJ @ed7 @dX1))) (zJ (zJ @dX0 @eo1) (zJ @ez6 (zJ @ez5 @ed6)))))) (zJ (zJ (zJ (zJ (zJ @ez8 @ez7) (zJ @ev6 (zJ @dL9 @en1))) (zJ (zJ @ey9 @dR6) (zJ @ei1 (zJ @ed0 @ey4)))) (zJ (zJ (zJ @ez0 @ei0) (zJ @ev5 (zJ @en4 @ev4))) (zJ (zJ @ev.eq_1 @ev.eq_2) (zJ @ev.eq_3 (zJ @ev.eq_4 @G9.eq_1))))) (zJ (zJ (zJ (zJ @G9.eq_2 @eA8) (zJ @ez1 (zJ @ez9 @eA0))) (zJ (zJ @List.map_cons.{0,0} @List.map_nil.{0,0}) (zJ @List.map_toArray.{0,0} (zJ @cw5.eq_1 @cw5.eq_2)))) (zJ (zJ (zJ @eb7 @eu6) (zJ @eu7 (zJ @dy3.eq_1 @List.getElem?_toArray.{0}))) (zJ (zJ @List.getElem?_cons_zero.{0} (zJ @List.getElem?_cons_succ.{0} @Option.bind_some.{0,0})) (zJ @Option.some.injEq.{0} (zJ @eK7 @Bool.true_eq_false))))))
def n9:=zJ (zJ (zJ (zJ (zJ @en2 (zJ @em9 @ek7)) (zJ @Option.map_some.{0,0} (zJ @Option.map_none.{0,0} @Int.toNat_zero))) (zJ (zJ @Option.isNone_none.{0} (zJ @Option.isNone_some.{0} @O9)) (zJ @co8.eq_1 (zJ @co8.eq_2 @dN8.eq_1)))) (zJ (zJ (zJ @bG1.eq_1 (zJ @bG1.eq_2 @dC1.eq_1)) (zJ @dB8.eq_1 (zJ @TY @Option.isSome_some.{0}))) (zJ (zJ @eJ4 (zJ @Bool.and_true @eM2)) (zJ @eF4 (zJ @ey1 @Int.cast_ofNat_Int))))) (zJ (zJ (zJ (zJ @decide_true (zJ @add_lit @eH5)) (zJ @Nat.zero_mul (zJ @Nat.one_mul @Bool.not_true))) (zJ (zJ @Bool.not_false (zJ @ey2 @el8)) (zJ @eu1 (zJ @eu0 @et9)))) (zJ (zJ (zJ @et8 (zJ @et7 @eu4)) (zJ @et5 (zJ @eu5 @ej6))) (zJ (zJ @ej5 (zJ @et6 @eu3)) (zJ (zJ @cW8 @dN2) (zJ @eu2 @eA7)))))
def eQ:=zJ @p6 @n9
def bT4(c:UInt8)(w):p7 prog 183 #[.int .u8 c.toNat] w λu d=>(u=(au1 c)/\d=w):=by
 apply y5 [.int .u8 c.toNat] func183 rfl;unfold au1;have a:decide ((97:Int)<=(c.toNat:Int))=decide (97<=c.toNat):=eI5.2 om;have b:decide ((c.toNat:Int)<=(122:Int))=decide (c.toNat<=122):=eI5.2 om;cases hb:decide (97<=c.toNat)
 .simp only[eQ,simprocAttr,a,hb];exact o8 results183 ⟨rfl,rfl⟩
 .simp only[eQ,simprocAttr,a,b,hb];apply o8 results183;simp only[C9,simprocAttr];exact⟨dG,tt⟩
def di2(c:UInt8)(w):p7 prog 246 #[.int .u8 c.toNat] w λu d=>(u=(bm2 c)/\d=w):=by
 apply y5 [.int .u8 c.toNat] func246 rfl;unfold bm2;have a:decide ((48:Int)<=(c.toNat:Int))=decide (48<=c.toNat):=eI5.2 om;have b:decide ((c.toNat:Int)<=(57:Int))=decide (c.toNat<=57):=eI5.2 om;cases hb:decide (48<=c.toNat)
 .simp only[eQ,simprocAttr,a,hb];exact o8 results246 ⟨rfl,rfl⟩
 .simp only[eQ,simprocAttr,a,b,hb];apply o8 results246;simp only[C9,simprocAttr];exact⟨dG,tt⟩
def ds7(s:B9)(w):p7 prog 185 #[s] w λu o=>(u=(bZ2 s)/\o=w):=by
 refine y5 [s] func185 rfl ?_;have a:bZ2 s=aD1.any λx=>decide (s=x):=by
  unfold bZ2;rw[<-any_beq]
  congr 1
 simp only[aD1,any_cons,any_nil]at a;simp only[eQ,simprocAttr];refine B2 (λf=>?_) (λf=>?_)
 .simp only[p6,simprocAttr,f];refine o8 results185 ?_;simp only[C9,simprocAttr];exact⟨by rw[a];simp only[f,eQ0],tt⟩
 simp only[eQ,simprocAttr];refine B2 (λg=>?_) (λg=>?_)
 .simp only[p6,simprocAttr,g];refine o8 results185 ?_;simp only[C9,simprocAttr];exact⟨by rw[a];simp only[g,eQ0,eQ1],tt⟩
 simp only[eQ,simprocAttr];refine B2 (λh=>?_) (λh=>?_)
 .simp only[p6,simprocAttr,h];refine o8 results185 ?_;simp only[C9,simprocAttr];exact⟨by rw[a];simp only[h,eQ0,eQ1],tt⟩
 simp only[eQ,simprocAttr];refine B2 (λi=>?_) (λi=>?_)
 .simp only[p6,simprocAttr,i];refine o8 results185 ?_;simp only[C9,simprocAttr];exact⟨by rw[a];simp only[i,eQ0,eQ1],tt⟩
 simp only[eQ,simprocAttr];refine B2 (λj=>?_) (λj=>?_)
 .simp only[p6,simprocAttr,j];refine o8 results185 ?_;simp only[C9,simprocAttr];exact⟨by rw[a];simp only[j,eQ0,eQ1],tt⟩
 simp only[eQ,simprocAttr];refine B2 (λk=>?_) (λk=>?_)
 .simp only[p6,simprocAttr,k];refine o8 results185 ?_;simp only[C9,simprocAttr];exact⟨by rw[a];simp only[k,eQ0,eQ1],tt⟩
 simp only[eQ,simprocAttr];refine B2 (λl=>?_) (λl=>?_)
 .simp only[p6,simprocAttr,l];refine o8 results185 ?_;simp only[C9,simprocAttr];exact⟨by rw[a];simp only[l,eQ0,eQ1],tt⟩
 simp only[eQ,simprocAttr];refine B2 (λm=>?_) (λm=>?_)
 .simp only[p6,simprocAttr,m];refine o8 results185 ?_;simp only[C9,simprocAttr];exact⟨by rw[a];simp only[m,eQ0,eQ1],tt⟩
 simp only[eQ,simprocAttr];refine B2 (λn=>?_) (λn=>?_)
 .simp only[p6,simprocAttr,n];refine o8 results185 ?_;simp only[C9,simprocAttr];exact⟨by rw[a];simp only[n,eQ0,eQ1],tt⟩
 simp only[eQ,simprocAttr];refine B2 (λb=>?_) (λb=>?_)
 .simp only[p6,simprocAttr,b];refine o8 results185 ?_;simp only[C9,simprocAttr];exact⟨by rw[a];simp only[b,eQ0,eQ1],tt⟩
 simp only[eQ,simprocAttr];refine B2 (λc=>?_) (λc=>?_)
 .simp only[p6,simprocAttr,c];refine o8 results185 ?_;simp only[C9,simprocAttr];exact⟨by rw[a];simp only[c,eQ0,eQ1],tt⟩
 simp only[eQ,simprocAttr];refine B2 (λd=>?_) (λd=>?_)
 .simp only[p6,simprocAttr,d];refine o8 results185 ?_;simp only[C9,simprocAttr];exact⟨by rw[a];simp only[d,eQ0,eQ1],tt⟩
 simp only[eQ,simprocAttr];refine B2 (λe=>?_) (λe=>?_)
 .simp only[p6,simprocAttr];refine o8 results185 ?_;simp only[C9,simprocAttr];exact⟨by rw[a];simp only[e,eQ0,eQ1],tt⟩
 .simp only[p6,simprocAttr];refine o8 results185 ?_;simp only[C9,simprocAttr];exact⟨by rw[a];simp only[f,g,h,i,j,k,l,m,n,b,c,d,e,Bool.or_false],tt⟩
def cX6{s:B9}{k}(a:k<s.b.length):∃c,chr s k=some c/\s.b.take (k+1)=s.b.take k++[c]/\c∈s.b:=
 ⟨_,eD1 a,eD9 a,eE1 a⟩
def dS8(s:B9)(w)(q:s.b.length<=1000000):p7 prog 184 #[s,(0:Int)] w λu h=>(∃k:Nat,u=k/\decide (k=s.b.length)=s.b.all am3/\h=w):=by
 apply y5 [s,(0:Int)] func184 rfl;simp only[eQ,simprocAttr];refine B4 [0] (σ:=Nat) (λk f h=>f 1=k/\k<=s.b.length/\(s.b.take k).all am3=true/\h=w) (λk=>s.b.length-k) 0 ?_ ?_
 .exact⟨rfl,eE2 _,dG,rfl⟩
 .rintro k f h ⟨i,_⟩ ⟨b,p,a,rfl⟩;by_cases hlt:k<s.b.length
  .have j:decide ((k:Int)<(s.b.length:Nat))=true:=by simpa using hlt
   obtain⟨c,o,g,e⟩:=cX6 hlt;have d:=cZ9 (P:=prog) (t:=9) (k:=.i64) dI5 dT6 o;simp only[eQ,simprocAttr,i,b,j,d];apply z6 (bT4 c _);rintro u r ⟨rfl,rfl⟩;cases hlet:au1 c
   .simp only[p6,simprocAttr,i,b,d];apply z6 (di2 c _);rintro u v ⟨rfl,rfl⟩;cases hdig:bm2 c
    .simp only[p6,simprocAttr,b];refine o8 results184 ⟨k,rfl,?_,rfl⟩;have m:s.b.all am3=false:=by
      rw[eN8];intro n;have:=eJ1.1 n c e;simp[am3,hlet,hdig]at this
     rw[m];simp;omega
    .simp only[eQ,simprocAttr,b];refine U5 (k+1) ⟨?_,tt⟩;rw[g,all_append,a];simp[am3,hdig]
   .simp only[eQ,simprocAttr,b];refine U5 (k+1) ⟨?_,tt⟩;rw[g,all_append,a];simp[am3,hlet]
  .have j:decide ((k:Int)<(s.b.length:Nat))=false:=by simpa using hlt
   have l:k=s.b.length:=om
   simp only[eQ,simprocAttr,i,b,j];refine o8 results184 ⟨k,rfl,?_,rfl⟩;subst l;rw[eE4]at a;rw[a];simp
def aY5(s:B9)(w):p7 prog 115 #[s] w λu n=>(u=(R8 s)/\n=w):=by
 apply y5 [s] func115 rfl;cases hs:s.b with
 | nil=>
  have g:s.b.length=0:=by rw[hs];rfl
  have e:decide (((s.b.length:Nat):Int)<1)=true:=by rw[g];rfl
  simp only[eQ,simprocAttr,e];apply o8 results115;simp only[C9,simprocAttr];exact⟨by rw[R8,hs],tt⟩
 | cons c l=>
  have g:s.b.length=l.length+1:=by rw[hs];rfl
  have b:R8 s=(decide (l.length<8)&&au1 c&&l.all am3 && !bZ2 s):=by rw[R8,hs]
  have d:s.b.all am3=(am3 c&&l.all am3):=by rw[hs];rfl
  have e:decide (((s.b.length:Nat):Int)<1)=false:=by rw[g];simp;omega
  have m:chr s 0=some c:=by unfold chr;rw[hs];rfl
  have f:aC3 prog 9 s (0:Int)=some (.int .u8 (c.toNat:Int)):=cZ9 (k:=.i64) (i:=0) dI5 dT6 m;cases h2:decide ((8:Int)<((s.b.length:Nat):Int))
  .have h:l.length<8:=by simp at h2;omega
   simp only[eQ,simprocAttr,e,h2,f];apply z6 (bT4 c _);rintro u o ⟨rfl,rfl⟩;cases hlet:au1 c
   .simp only[eQ,simprocAttr];apply o8 results115;simp only[C9,simprocAttr];exact⟨by rw[b,hlet];simp,tt⟩
   .simp only[eQ,simprocAttr];apply z6 (dS8 s _ om);rintro u p ⟨k,rfl,j,rfl⟩;have a:decide ((k:Int)=((s.b.length:Nat):Int))=l.all am3:=by
     rw[d,show am3 c=true by simp[am3,hlet],eJ4]at j;rw[<-j];exact eI5.2 om
    cases ha:l.all am3
    .rw[ha]at a;simp only[eQ,simprocAttr,a];apply o8 results115;simp only[C9,simprocAttr];exact⟨by rw[b,ha];simp,tt⟩
    .rw[ha]at a;simp only[eQ,simprocAttr,a];apply z6 (ds7 s _);rintro u q ⟨rfl,rfl⟩;simp only[eQ,simprocAttr];apply o8 results115;simp only[C9,simprocAttr];exact⟨by rw[b,ha,hlet];simp[h],tt⟩
  .simp only[eQ,simprocAttr,e,h2];apply o8 results115;exact⟨by rw[b,show decide (l.length<8)=false by simp at h2 ⊢;omega];rfl,rfl⟩
def eO9:=@sum_cons
def D7:=zJ (zJ (zJ (zJ @et3 @ew8) (zJ @ev3 @eh9)) (zJ (zJ @ec8 @ey3) (zJ @dL7 @em8))) (zJ (zJ (zJ @ey8 @dR4) (zJ @eh8 @ev2)) (zJ (zJ @en0 @ev1) (zJ @List.drop_succ_cons.{0} @List.drop_zero.{0})))
def ff:=zJ @D7 @p6
def aZ8(l:List St){k}(a:k<l.length):B8 (l.take (k+1))=B8 (l.take k)+ae6 l[k]:=by
 rw[eD9 a,bm0];simp[B8]
def aH6(l:List St)(k):B8 (l.take k)<=B8 l:=by
 have:=bm0 (l.take k) (l.drop k);rw[eH8]at this;omega
def bW8:∀(m:Nat) (t:St) (v:Value) (w:World),ae6 t<=m->SV (n8 w) v t->Z6 t<=1000000->p7 prog 250 #[v] w λu C=>(u=(ae6 t:Nat)/\o6 w C)
 | 0,t,v,w,hsm,_,_=>fj (cj8 t) om
 | m+1,t,v,w,hsm,hv,hwt=>by
  apply y5 [v] func250 rfl;obtain⟨a,Q,K,hx,W⟩:=ay8 hv (n7 _);obtain⟨vl,va,vt,ve,hl,Z,F,E,S,T,sd⟩:=W.st;have J:=E.isS;have N:=E.vlen;have aa:=cl6 t;have L:=aJ7 t;have ab:=aa0 t;have X:=ac0 t.thn;have Y:=ac0 t.els;simp only[eQ,simprocAttr,K,T Q (n7 _),F.isS,F.vlen];refine B4 [1,9,10] (σ:=Nat) (λk f C=>f 11=k/\k<=t.thn.length/\f 3=(1+B8 (t.thn.take k):Nat)/\o6 Q C) (λk=>t.thn.length-k) 0 ?_ ?_
  .simp only[C9,simprocAttr];exact⟨tt,eE2 _,by simp[B8],t8.refl _⟩
  .rintro k f U ⟨R,V,G,_⟩ ⟨h,M,j,c⟩;simp only[eQ,simprocAttr,h,G];refine A7 (λd=>?_) ?_
   .have o:=F.inS d;obtain⟨sv,g,e⟩:=G1 (P:=prog) (t:=113) F (b7 c) (eD1 d) bo5 bo7 aV7 ag7;rw[ag7]at e;have r:=aZ8 t.thn d;have B:=aH6 t.thn (k+1);have x:=ay5 (eE1 d);generalize t.thn[k]=s at g r x;obtain⟨b,wz,D,l,q,y,n⟩:=bx8 (g.mono (b7 c)) (n7 _);obtain⟨O,p,A,_⟩:=n.st_v;simp only[p6,n9,A6,simprocAttr,h,V,o,e,l,q,A D (n7 _),j];refine B3 (bW8 m s O D om p om) (λw4 z=>?_);simp only[eQ,simprocAttr,h];exact U5 (k+1) ⟨by rw[N7 _ om];congr 1;omega,c.trans (y.trans z)⟩
   .rintro rfl;rw[eE4]at j;simp only[eQ,simprocAttr,R,T U (b7 c),J,N];refine B4 [1,21,22] (σ:=Nat) (λk f C=>f 23=k/\k<=t.els.length/\f 3=(1+B8 t.thn+B8 (t.els.take k):Nat)/\o6 Q C) (λk=>t.els.length-k) 0 ?_ ?_
    .simp only[C9,simprocAttr];exact⟨tt,eE2 _,by simp[B8,j],c⟩
    .rintro k f U ⟨R,H,I,_⟩ ⟨i,M,j,c⟩;simp only[eQ,simprocAttr,i,I];refine A7 (λd=>?_) ?_
     .have o:=E.inS d;obtain⟨sv,g,e⟩:=G1 (P:=prog) (t:=113) E (b7 c) (eD1 d) bo5 bo7 aV7 ag7;rw[ag7]at e;have r:=aZ8 t.els d;have B:=aH6 t.els (k+1);have x:=ay5 (eE1 d);generalize t.els[k]=s at g r x;obtain⟨b,wz,D,l,q,y,n⟩:=bx8 (g.mono (b7 c)) (n7 _);obtain⟨O,p,A,_⟩:=n.st_v;simp only[p6,n9,A6,simprocAttr,i,H,o,e,l,q,A D (n7 _),j];refine B3 (bW8 m s O D om p om) (λw4 z=>?_);simp only[eQ,simprocAttr,i];exact U5 (k+1) ⟨by rw[N7 _ om];congr 1;omega,c.trans (y.trans z)⟩
     .rintro rfl;rw[eE4]at j;simp only[p6,simprocAttr,j];apply o8 results250;simp only[C9,simprocAttr];exact⟨by rw[L],hx.trans c⟩
def dh9:∀(m:Nat) (l:List St) (v:Value) (w:World),B8 l<=m->R (n8 w) v l->M5 l<=1000000->p7 prog 94 #[v] w λu e=>(u=(B8 l:Nat)/\o6 w e):=by
 intro m
 induction m with
 | zero=>
  intro l v w z d E;have n:l.length=0:=by have:=ac0 l;omega
  apply y5 [v] func94 rfl;simp only[eQ,simprocAttr,d.isS,d.vlen];refine B4 [7,8] (σ:=Nat) (λk f e=>f 9=(0:Int)/\f 3=(l.length:Nat)/\e=w) (λk=>0) 0 ?_ ?_
  .exact⟨rfl,rfl,rfl⟩
  .rintro k f q ⟨L,r,_⟩ ⟨i,g,rfl⟩;have K:decide ((0:Int)<((l.length:Nat):Int))=false:=by rw[n];decide
   simp only[eQ,simprocAttr,i,r,K,g];apply o8 results94;exact⟨by rw[eq_nil_of_length_eq_zero n];rfl,t8.refl _⟩
 | succ m I=>
  intro l v w z d E;apply y5 [v] func94 rfl;have H:=aK4 l;have M:=ac0 l;simp only[eQ,simprocAttr,d.isS,d.vlen];refine B4 [0,7,8] (σ:=Nat) (λk f e=>f 9=k/\k<=l.length/\f 3=(l.length+B8 (l.take k)-k:Nat)/\o6 w e) (λk=>l.length-k) 0 ?_ ?_
  .simp only[C9,simprocAttr];exact⟨tt,eE2 _,by simp[B8],t8.refl _⟩
  .rintro k f q ⟨e0,L,r,_⟩ ⟨i,x,g,o⟩;have y:=ac0 (l.take k);rw[eE5,eJ7 x]at y;simp only[eQ,simprocAttr,i,r];refine A7 (λa=>?_) ?_
   .have s:=d.inS a;have j:=(d.at_ (eD1 a));have A:=aZ8 l a;have G:=aH6 l (k+1);have D:=ay5 (eE1 a);generalize l[k]=t at j A D;have O:=aJ7 t;have T:=aa0 t;obtain⟨vl,Z,X,W,P,Q,S,N,F,Y,V⟩:=j.st;have c:=o.trans (o6.drew q);have J:=V (o6 q.drew) q.drew (t8.refl _) (λe h=>b7 (c.trans h));have U:A9.sz St=13:=rfl;rw[U]at J;simp only[p6,simprocAttr,i];refine C4 (o6 q.drew) 16 (A8 [0,1,2,3,4,5,7,8,9,10,11,6,12,13,14,15]) ?_;simp only[D7,A8,p6,n9,A6,simprocAttr,e0,g,s,J];refine B3 (I t.thn X _ om (A9.mono (b7 c) S) om) (λw3 b=>?_);simp only[ff,simprocAttr,F2];refine⟨b,?_⟩;refine B3 (I t.els W _ om (A9.mono (b7 (c.trans b)) N) om) (λw4 p=>?_);have B:IntKind.i64.wrap (((B8 t.thn:Nat):Int)+((B8 t.els:Nat):Int))=((B8 t.thn+B8 t.els:Nat):Int):=by rw[N7 _ om];omega
    have C:IntKind.i64.wrap (((l.length+B8 (l.take k)-k:Nat):Int)+((B8 t.thn+B8 t.els:Nat):Int))=((l.length+B8 (l.take (k+1))-(k+1):Nat):Int):=by rw[N7 _ om];omega
    simp only[D7,p6,n9,simprocAttr,F2,B,C,i];refine⟨b.trans p,?_⟩;exact nx4 (k+1) (c.trans (b.trans p))
   .rintro rfl;rw[eE4]at g;simp only[p6,simprocAttr,g];apply o8 results94;simp only[C9,simprocAttr];exact⟨by congr 1;congr 1;omega,o⟩
def bi8(p:Pg):Nat:=(p.procs.map λf=>B8 f.body).sum
def bL8:∀(l:List Pr),3*(l.map λf=>B8 f.body).sum<=aX3 l
 | []=>by simp[aX3]
 | f::l=>by
  have a:=bL8 l;have b:=aK4 f.body;simp only[eI4,eO9,aX3,ah4];omega
def cc2(v p w)(hv:SV (n8 w) v p)(z:C1 p<=1000000):p7 prog 56 #[v] w λu D=>(u=(bi8 p:Nat)/\o6 w D):=by
 apply y5 [v] func56 rfl;obtain⟨a,F,o,Q,K⟩:=L3 hv (n7 _);obtain⟨Y,Z,V,i,S,W⟩:=K.pg;have R:=S F (n7 _);have J:=i.isS;have N:=i.vlen;have O:=as3 p.procs;have L:=bL8 p.procs;unfold C1 at z;simp only[eQ,simprocAttr,o,R,J,N];refine B4 [1,7,8] (σ:=Nat) (λk f D=>f 9=k/\k<=p.procs.length/\f 3 = .int .i64 ((((p.procs.take k).map λf=>B8 f.body).sum:Nat):Int)/\o6 F D) (λk=>p.procs.length-k) 0 ?_ ?_
 .simp only[C9,simprocAttr];exact⟨tt,eE2 _,dG,t8.refl _⟩
 .rintro k f w2 ⟨U,H,I,_⟩ ⟨l,M,j,d⟩;simp only[eQ,simprocAttr,l,I];refine A7 (λc=>?_) ?_
  .have r:=i.inS c;obtain⟨X,g,e⟩:=G1 (P:=prog) (t:=68) i (b7 d) (eD1 c) as1 as2 ao1 N6;rw[N6]at e;have y:((p.procs.take (k+1)).map λf=>B8 f.body).sum=((p.procs.take k).map λf=>B8 f.body).sum+B8 p.procs[k].body:=by
    rw[eD9 c,eG8,sum_append];simp
   have E:((p.procs.take (k+1)).map λf=>B8 f.body).sum<=(p.procs.map λf=>B8 f.body).sum:=by
    conv=>rhs;rw[<-eH8 (k+1) p.procs,eG8,sum_append]
    omega
   have h:=ay4 (eE1 c);generalize p.procs[k]=q at g y h;obtain⟨b,wz,G,m,x,A,n⟩:=aM2 (g.mono (b7 d)) (n7 _);obtain⟨_,_,T,_,_,_,s,_,C,_⟩:=n.pr;simp only[p6,n9,A6,simprocAttr,l,H,r,e,m,x,C G (n7 _),j];refine B3 (dh9 _ q.body T G (eE8 _) s (by unfold ah4 at h;omega)) (λw4 B=>?_);simp only[eQ,simprocAttr,l];exact U5 (k+1) ⟨by rw[N7 _ om];congr 1;omega,d.trans (A.trans B)⟩
  .rintro rfl;rw[eE4]at j;simp only[p6,simprocAttr,j];exact o8 results56 ⟨rfl,Q.trans d⟩
def cB8(x:B9):List B9->List B9
 | []=>[x]
 | y::l=>if ltS y x then y::cB8 x l else x::y::l
def ad0:List B9->List B9
 | []=>[]
 | x::l=>cB8 x (ad0 l)
def L0{α:Type}[DecidableEq α]:List α->List α
 | []=>[]
 | [x]=>[x]
 | x::y::l=>if x=y then L0 (y::l)else x::L0 (y::l)
def G0(l:List B9):List B9:=L0 (ad0 l)
mutual
def ac1:St->Nat->Int->Int->Int->Int->List It
 | .mk id kind labels name proc x has args thn els,k,pr,up,nx,lp=>
  let me:Int:=k+1
  let nx':=if kind=6 then me else nx
  let lp':=if kind=6 then me else lp
  let a:=E5 thn (k+1) pr me nx' lp'
  ⟨.mk id kind labels name proc x has args thn els,pr,up,nx,lp⟩::(a++E5 els (k+1+a.length) pr me nx' lp')
def E5:List St->Nat->Int->Int->Int->Int->List It
 | [],_,_,_,_,_=>[]
 | t::l,k,pr,up,nx,lp=>
  let a:=ac1 t k pr up (if l.length=0 then nx else k+1+ae6 t) lp
  a++E5 l (k+a.length) pr up nx lp
end
def I8(s:Sh)(i:Nat)(f:Pr):Sh:=
 let a:=E5 f.body s.l.length i 0 (-1) 0
 ⟨s.p,s.l++a,s.lo++[(s.l.length:Int)+1],s.hi++[(s.l.length:Int)+a.length+1]⟩
def K8(s:Sh):Nat->List Pr->Sh
 | _,[]=>s
 | i,f::l=>K8 (I8 s i f) (i+1) l
def i5(p:Pg):Sh:=K8 ⟨p,[],[],[]⟩ 0 p.procs
def atI(l:List Int)(i:Int):Int:=l.getD i.toNat 0
def Sh.of(s:Sh)(i:Int):List It:=(s.l.take (atI s.hi i-1).toNat).drop (atI s.lo i-1).toNat
def ai3{α:Type}(p:α->Bool):Nat->List α->Int
 | _,[]=>-1
 | i,x::l=>if p x then i else ai3 p (i+1) l
def ac3(a:List Pr)(n:B9):Int:=ai3 (λf=>decide (f.name=n)) 0 a
def Sh.pr(s:Sh)(n:B9):Int:=ac3 s.p.procs n
def dm9:St:=.mk 0 0 [] e0 e0 (.mk 0 0 e0 []) false [] [] []
def ey6:It:=⟨dm9,0,0,0,0⟩
def cq3:Pr:=⟨e0,[],[],[],[]⟩
def Sh.it(s:Sh)(id:Int):It:=s.l.getD (id-1).toNat ey6
def Sh.fn(s:Sh)(i:Int):Pr:=s.p.procs.getD i.toNat cq3
def Sh.first(s:Sh)(i:Int):Int:=if atI s.lo i<atI s.hi i then atI s.lo i else -1
def Sh.at(s:Sh)(i:Int)(a:B9):Option Int:=match(s.of i).find? λit=>it.s.labels.contains a with
 | some it=>some it.s.id
 | none=>if(s.fn i).fin.contains a then some (-1)else none
def P2(a:Ar):List B9:=(if a.ref then[a.name]else[])++ap6 a.x
def N0(t:St):List B9:=(if t.kind≠10/\t.name≠e0 then[t.name]else[])++ap6 t.x++t.args.flatMap P2
def aW5(p:Pg)(f:Pr)(n:B9):Int:=match f.params.find? λa=>decide (a.name=n)with
 | some a=>if a.ref then 3 else 2
 | none=>if f.vars.contains n then 4 else if p.globals.contains n then 1 else 0
def bK9(f:Pr):List B9:=f.params.map (·.name)++f.vars
def an4(l:List B9):Bool:=!decide l.Nodup
def H9:B9:=ofA #[109,97,105,110]
def am9(p:Pg)(f:Pr)(a:List B9)(t:St):Bool:=(N0 t).all (λn=>!decide (aW5 p f n=0))&&(!decide (t.kind=4)||(!decide (t.proc=H9)&&a.contains t.proc))
def al6(p:Pg)(a:List B9)(f:Pr)(l:List It):Option (Int×Int):=
 if an4 (bK9 f)||(bK9 f).any (λn=>p.globals.contains n)then some (5,0)
 else match l.find? λit=>!am9 p f a it.s with
  | some it=>some (5,it.s.id)
  | none=>none
def U8(p:Pg)(s:Sh)(a:List B9):Nat->List Pr->Option (Int×Int)
 | _,[]=>none
 | i,f::l=>match al6 p a f (s.of i)with
   | some e=>some e
   | none=>U8 p s a (i+1) l
def U7(p:Pg):Int×Int:=
 if O1 p=false then(1,0)
 else let procs:=p.procs.map (·.name);let first:=ac3 p.procs H9
  if an4 p.globals||an4 procs||decide (first<0)||decide (0<(p.procs.getD first.toNat cq3).params.length)then(5,0)
  else(U8 p (i5 p) procs 0 p.procs).getD (0,0)
def bW0(l:List Pa)(a:List Ar):Bool:=decide (l.length=a.length)&&(l.zip a).all λx=>x.1.ref==x.2.ref
def at9(p:Pg)(s:St):Bool:=decide (s.kind=4)&&(match p.procs.find? λf=>decide (f.name=s.proc)with
 | some f=>bW0 f.params s.args
 | none=>false)
def am4(p:Pg):Int×Int:=if(U7 p).1≠0 then(1,0)else match(i5 p).l.find? λit=>decide (it.s.kind=4) && !at9 p it.s with
 | some it=>(6,it.s.id)
 | none=>(0,0)
def aI3:List B9->List B9->Option (List B9)
 | seen,[]=>some seen
 | seen,n::l=>if seen.contains n then none else aI3 (seen++[n]) l
def aI7(s:Sh)(it:It):Bool:=if it.s.kind=7\/it.s.kind=8 then !decide (it.loop=0)else if it.s.kind=10 then(s.at it.proc it.s.name).isSome else true
def aL3(s:Sh):List B9->List It->List B9 ⊕ Int
 | seen,[]=>.inl seen
 | seen,it::l=>match aI3 seen it.s.labels with
   | none=>.inr it.s.id
   | some a=>if aI7 s it then aL3 s a l else .inr it.s.id
def aI4(s:Sh)(f:Pr)(l:List It):Option (Int×Int):=match aL3 s [] l with
 | .inr id=>some (7,id)
 | .inl seen=>match aI3 seen f.fin with
   | none=>some (7,0)
   | some _=>none
def aa6(s:Sh):Nat->List Pr->Option (Int×Int)
 | _,[]=>none
 | i,f::l=>match aI4 s f (s.of i)with
   | some e=>some e
   | none=>aa6 s (i+1) l
def aW4(p:Pg):Int×Int:=if(U7 p).1≠0 then(1,0)else(aa6 (i5 p) 0 p.procs).getD (0,0)
def at1(s:Sh)(n:B9):List B9:=G0 (((s.of (s.pr n)).filter λit=>decide (it.s.kind=4)).map (·.s.proc))
def aa2(a:List B9):List B9->List B9
 | []=>a
 | n::l=>aa2 (if a.contains n then a else a++[n]) l
def W4(g:B9->List B9):Nat->Nat->List B9->List B9
 | 0,_,out=>out
 | m+1,i,out=>match out[i]? with
   | none=>out
   | some n=>W4 g m (i+1) (aa2 out (g n))
def aO0(s:Sh)(n:B9):List B9:=ad0 (W4 (at1 s) (s.p.procs.length+1) 0 [n])
def bb8(p:Pg)(n:B9):Bool:=decide ((U7 p).1=0)&&p.procs.any λf=>decide (f.name=n)
def W7(p:Pg)(n:B9):List B9:=if bb8 p n then
  let s:=i5 p
  G0 ((aO0 s n).flatMap λm=>(s.of (s.pr m)).flatMap λit=>(N0 it.s).filter λv=>p.globals.contains v)
 else[]
def au9(name:B9)(b:List B9):List B9->List Ar->Bool
 | _,[]=>true
 | seen,a::l=>if a.ref then(if seen.contains a.name||decide (a.name=name)||b.contains a.name then false else au9 name b (seen++[a.name]) l)else au9 name b seen l
def au8(s:St)(a:List B9):Bool:=au9 s.name a [] s.args
def aY9(p:Pg):Int×Int:=if(am4 p).1≠0 then(1,0)else match(i5 p).l.find? λit=>decide (it.s.kind=4) && !au8 it.s (W7 p it.s.proc)with
 | some it=>(8,it.s.id)
 | none=>(0,0)
def aZ5(p:Pg):Int×Int:=
 if O1 p=false then(1,0)
 else if(U7 p).1≠0 then U7 p
 else if(am4 p).1≠0 then am4 p
 else if(aW4 p).1≠0 then aW4 p
 else aY9 p
def C8(p:Pg):Bool:=decide ((aZ5 p).1=0)
def ap4{α:Type}(p:α->Bool):∀(l:List α) (i k:Nat) (a:k<l.length),(∀j (d:j<k),p (l[j]' om)=false)->p l[k]=true->ai3 p i l=(i+k:Nat)
 | [],i,k,a,_,_=>by simp at a
 | x::l,i,0,a,h1,h2=>by
  have b:p x=true:=h2;rw[ai3,fi b];rfl
 | x::l,i,k+1,a,h1,h2=>by
  have c:p x=false:=h1 0 om;rw[ai3,fh (by rw[c];simp),ap4 p l (i+1) k (by simpa using a) (λj d=>h1 (j+1) om) h2]
  congr 1;omega
def aw8{α:Type}(p:α->Bool):∀(l:List α) (i:Nat),(∀x∈l,p x=false)->ai3 p i l = -1
 | [],i,_=>rfl
 | x::l,i,h=>by
  rw[ai3,fh (by rw[h x dG];simp)];exact aw8 p l (i+1) λy a=>h y (eI1 _ a)
def aI1{α:Type}(p:α->Bool):∀(l:List α) (i:Nat),decide (0<=ai3 p i l)=l.any p
 | [],i=>rfl
 | x::l,i=>by
  rw[ai3,any_cons];cases hp:p x
  .rw[fh dG,aI1 p l];rfl
  .rw[fi rfl];simp
def aI2{α:Type}(p:α->Bool):∀(l:List α) (i:Nat),0<=ai3 p i l->∃k,ai3 p i l=(i+k:Nat)/\∃x,l[k]?=some x/\p x=true
 | [],i,h=>by simp[ai3]at h
 | x::l,i,h=>by
  rw[ai3]at h ⊢;cases hp:p x
  .rw[hp,fh dG]at h;rw[fh dG];obtain⟨k,a,y,b,c⟩:=aI2 p l (i+1) h;exact⟨k+1,by rw[a];congr 1;omega,y,by simpa using b,c⟩
  .rw[fi rfl];exact⟨0,dG,x,rfl,hp⟩
def ep5:I4 prog 157 156 17 240=true:=kr
def dX7:I4 prog 45 3 1 8=true:=kr
structure ShS (h:Hp) (w:World) (gb:Nat) (vg vp vL vLo vHi:Value) (L:List It) (lo hi:List Int):Prop where
 free:h gb=none
 cell:w.heap[gb]?=some (.cells #[vg,vp,vL,vLo,vHi] 159 (0,0))
 oL:B7 h w 156 vL L
 oLo:B7 h w 3 vLo lo
 oHi:B7 h w 3 vHi hi
 d1:∀b,B0 vL b->b≠gb/\¬B0 vLo b/\¬B0 vHi b
 d2:∀b,B0 vLo b->b≠gb/\¬B0 vHi b
 d3:∀b,B0 vHi b->b≠gb
section
variable {h:Hp} {w:World} {gb:Nat} {vg vp vL vLo vHi:Value} {L:List It} {lo hi:List Int}
def ShS.lt(s:ShS h w gb vg vp vL vLo vHi L lo hi):gb<w.heap.size:=(eD5.1 s.cell).1
def ShS.mod{M:Nat->Prop}{w'}(s:ShS h w gb vg vp vL vLo vHi L lo hi)(hm:t8 M w w')(a:¬M gb)(c:∀b,B0 vL b->¬M b)(d:∀b,B0 vLo b->¬M b)(e:∀b,B0 vHi b->¬M b):ShS h w' gb vg vp vL vLo vHi L lo hi:=
 ⟨s.free,(hm.block gb s.lt a).trans s.cell,s.oL.mod hm c,s.oLo.mod hm d,s.oHi.mod hm e,s.d1,s.d2,s.d3⟩
def ShS.ext{w'}(s:ShS h w gb vg vp vL vLo vHi L lo hi)(a:o6 w w'):ShS h w' gb vg vp vL vLo vHi L lo hi:=
 s.mod a id (λ_ _=>id) (λ_ _=>id) (λ_ _=>id)
def ShS.setL{w1 w2 vL'}{g:List It}(s:ShS h w gb vg vp vL vLo vHi L lo hi)(i:t8 (B0 vL) w w1)(l:B7 h w1 156 vL' g)(hv:F4 w vL vL')
  (f:t8 (λb=>b=gb) w1 w2) (j:w2.heap[gb]?=some (.cells #[vg,vp,vL',vLo,vHi] 159 (0,0))):ShS h w2 gb vg vp vL' vLo vHi g lo hi:=by
 have d:∀b,B0 vL' b->b≠gb/\¬B0 vLo b/\¬B0 vHi b:=λb a=>by
  rcases hv b a with k|k
  .exact s.d1 b k
  .exact⟨λe=>by have:=s.lt;omega,λe=>by have:=s.oLo.lt e;omega,λe=>by have:=s.oHi.lt e;omega⟩
 refine⟨s.free,j,l.mod f λb a=>(d b a).1,(s.oLo.mod i λb a c=>(s.d1 b c).2.1 a).mod f λb a=>(s.d2 b a).1,(s.oHi.mod i λb a c=>(s.d1 b c).2.2 a).mod f λb a=>s.d3 b a,d,s.d2,s.d3⟩
def ShS.setLo{w1 w2 v'}{f:List Int}(s:ShS h w gb vg vp vL vLo vHi L lo hi)(i:t8 (B0 vLo) w w1)(l:B7 h w1 3 v' f)(hv:F4 w vLo v')
  (g:t8 (λb=>b=gb) w1 w2) (j:w2.heap[gb]?=some (.cells #[vg,vp,vL,v',vHi] 159 (0,0))):ShS h w2 gb vg vp vL v' vHi L f hi:=by
 have c:∀b,B0 v' b->b≠gb/\¬B0 vL b/\¬B0 vHi b:=λb a=>by
  rcases hv b a with k|k
  .exact⟨(s.d2 b k).1,λe=>(s.d1 b e).2.1 k,(s.d2 b k).2⟩
  .exact⟨λe=>by have:=s.lt;omega,λe=>by have:=s.oL.lt e;omega,λe=>by have:=s.oHi.lt e;omega⟩
 refine⟨s.free,j,(s.oL.mod i λb a d=>(s.d1 b a).2.1 d).mod g λb a=>(s.d1 b a).1,l.mod g λb a=>(c b a).1,(s.oHi.mod i λb a d=>(s.d2 b d).2 a).mod g λb a=>s.d3 b a,λb a=>⟨(s.d1 b a).1,λe=>(c b e).2.1 a,(s.d1 b a).2.2⟩,λb a=>⟨(c b a).1,(c b a).2.2⟩,s.d3⟩
def ShS.setHi{w1 w2 v'}{f:List Int}(s:ShS h w gb vg vp vL vLo vHi L lo hi)(i:t8 (B0 vHi) w w1)(l:B7 h w1 3 v' f)(hv:F4 w vHi v')
  (g:t8 (λb=>b=gb) w1 w2) (j:w2.heap[gb]?=some (.cells #[vg,vp,vL,vLo,v'] 159 (0,0))):ShS h w2 gb vg vp vL vLo v' L lo f:=by
 have c:∀b,B0 v' b->b≠gb/\¬B0 vL b/\¬B0 vLo b:=λb a=>by
  rcases hv b a with k|k
  .exact⟨s.d3 b k,λe=>(s.d1 b e).2.2 k,λe=>(s.d2 b e).2 k⟩
  .exact⟨λe=>by have:=s.lt;omega,λe=>by have:=s.oL.lt e;omega,λe=>by have:=s.oLo.lt e;omega⟩
 refine⟨s.free,j,(s.oL.mod i λb a d=>(s.d1 b a).2.2 d).mod g λb a=>(s.d1 b a).1,(s.oLo.mod i λb a d=>(s.d2 b a).2 d).mod g λb a=>(s.d2 b a).1,l.mod g λb a=>(c b a).1,λb a=>⟨(s.d1 b a).1,(s.d1 b a).2.1,λe=>(c b e).2.1 a⟩,λb a=>⟨(s.d2 b a).1,λe=>(c b e).2.2 a⟩,λb a=>(c b a).1⟩
end
def ai6(h:Hp)(w:World)(b:Nat)(x:It):Prop:=∃a:List Value,w.heap[b]?=some (.cells (toArray a) 156 (0,0))/\A9.enc h a x
section
variable {h:Hp} {w:World} {tb:Nat} {x:It}
def ai6.mod{M:Nat->Prop}{w'}(e:ai6 h w tb x)(hm:t8 M w w')(c:¬M tb):ai6 h w' tb x:=by
 obtain⟨b,a,d⟩:=e;exact⟨b,(hm.block tb (eD5.1 a).1 c).trans a,d⟩
def ai6.lt(b:ai6 h w tb x):tb<w.heap.size:=by
 obtain⟨c,a,d⟩:=b;exact(eD5.1 a).1
def ai6.new{v}(hv:SV h v x):∃tb c b,(Instr.alloc 156 true (.tuple #[])).run prog w = .ok (.pointer (some ⟨tb,0,none⟩)) c/\(Instr.storeAt 156 (.pointer (some ⟨tb,0,none⟩)) v).run prog c = .ok () b/\o6 w b/\w.heap.size<=tb/\ai6 h b tb x:=by
 obtain⟨cs,rfl,a⟩:=hv;obtain⟨d,e⟩:=aE6 (P:=prog) (w:=w) (T:=156) cV2 rfl (cs:=toArray cs) (by rw[M4];simpa using(show cs.length=17 from A9.len a)) (by simpa using A9.one a);exact⟨w.heap.size,_,_,d,e,o6.alloc _ _,eE8 _,cs,eH3 w _,a⟩
def ai6.ld(m:ai6 h w tb x):∃v,SV h v x/\(∀a,a.heap[tb]?=w.heap[tb]?->(Instr.loadAt 156 (.pointer (some ⟨tb,0,none⟩))).run prog a = .ok v a/\(Instr.loadAt 3 (.pointer (some ⟨tb,15,none⟩))).run prog a = .ok x.next a):=by
 obtain⟨b,e,d⟩:=m;refine⟨.agg (toArray b),⟨b,rfl,d⟩,λa f=>⟨?_,?_⟩⟩
 .exact ad1 (f.trans e) ai4 ai5 ag5 (by rw[M4];simpa using(show b.length=17 from A9.len d).symm)
 .obtain⟨c,rfl,l⟩:=bf3 d;obtain⟨n,o,p,q,r,s,t,u,y,g,i,j,k,rfl⟩:=bc1 (A9.len l);exact F9 (f.trans e) rfl K7
def ai6.setS{v}{s:St}(m:ai6 h w tb x)(l:SV h v s):∃d,(Instr.storeAt 113 (.pointer (some ⟨tb,0,none⟩)) v).run prog w = .ok () d/\ai6 h d tb ⟨s,x.proc,x.up,x.next,x.loop⟩/\t8 (λb=>b=tb) w d:=by
 obtain⟨cs,i,j⟩:=m;obtain⟨e,rfl,f⟩:=l;obtain⟨c,rfl,k⟩:=bf3 j;have g:c.length=13:=A9.len k;have a:e.length=13:=A9.len f;obtain⟨d,n,p,q⟩:=cW9 (P:=prog) (t:=113) (o:=0) (cs:=e) i (by simp[g,a]) (A9.one f) aV7 (by rw[ag7,a]);refine⟨d,n,⟨_,p,?_⟩,q⟩;refine⟨e,?_,f⟩;simp only[eN9,eL4,eH5,a]
 congr 1
 simp only[eG4];rw[<-g,drop_left];simp
def ai6.setN(n)(m:ai6 h w tb x):∃a,(Instr.storeAt 3 (.pointer (some ⟨tb,15,none⟩)) (.int .i64 n)).run prog w = .ok () a/\ai6 h a tb ⟨x.s,x.proc,x.up,n,x.loop⟩/\t8 (λb=>b=tb) w a:=by
 obtain⟨D,k,l⟩:=m;obtain⟨c,rfl,d⟩:=bf3 l;obtain⟨r,s,u,v,y,z,A,B,C,e,f,g,j,rfl⟩:=bc1 (A9.len d);obtain⟨a,o,p,q⟩:=ai1 (P:=prog) (t:=3) (i:=15) (x:=n) k dG rfl rfl (B1 aN0).choose_spec.1 (by rw[<-F8 (B1 aN0).choose_spec.1];exact bx6);exact⟨a,o,⟨_,p,_,rfl,d⟩,q⟩
def ai6.setLp(n)(m:ai6 h w tb x):∃a,(Instr.storeAt 3 (.pointer (some ⟨tb,16,none⟩)) (.int .i64 n)).run prog w = .ok () a/\ai6 h a tb ⟨x.s,x.proc,x.up,x.next,n⟩/\t8 (λb=>b=tb) w a:=by
 obtain⟨D,k,l⟩:=m;obtain⟨c,rfl,d⟩:=bf3 l;obtain⟨r,s,u,v,y,z,A,B,C,e,f,g,j,rfl⟩:=bc1 (A9.len d);obtain⟨a,o,p,q⟩:=ai1 (P:=prog) (t:=3) (i:=16) (x:=n) k dG rfl rfl (B1 aN0).choose_spec.1 (by rw[<-F8 (B1 aN0).choose_spec.1];exact bx6);exact⟨a,o,⟨_,p,_,rfl,d⟩,q⟩
end
def cy8(h):A9.enc h [(0:Int),(0:Int),(),e0,e0,(0:Int),(0:Int),e0,(),false,(),(),()] dm9:=by
 refine bQ6.2 ⟨(),[(0:Int),(0:Int),e0,()],(),(),(),rfl,aX5 h,bQ5.2 ⟨(),rfl,aX5 h⟩,aX5 h,aX5 h,aX5 h⟩
def dg5(h a b c d):∃v,D0 prog 156 [(1,.int .i64 a),(2,.int .i64 b),(3,.int .i64 c),(4,.int .i64 d)]=some v/\SV h v (⟨dm9,a,b,c,d⟩:It):=by
 refine⟨_,by simp[D0,dH8,M2,Instr.fill,Value.cells];rfl,_,rfl,_,rfl,cy8 h⟩
def dg4(h a c):∃v,D0 prog 156 [(1,.int .i64 a),(3,.int .i64 c)]=some v/\SV h v (⟨dm9,a,0,c,0⟩:It):=by
 refine⟨_,by simp[D0,dH8,M2,Instr.fill,Value.cells];rfl,_,rfl,_,rfl,cy8 h⟩
def eN6:=@drop_length
def eF8:=@forall_mem_cons
def eD6:=@of_decide_eq_false
def eD3:=@of_decide_eq_true
mutual
def aj5:∀(t:St) (k:Nat) (c d b a:Int),(ac1 t k c d b a).length=ae6 t
 | .mk id kind labels name proc x has args thn els,k,c,d,b,a=>by
  simp only[ac1,eG6,eD4,L9,ae6];omega
def L9:∀(l:List St) (k:Nat) (c d b a:Int),(E5 l k c d b a).length=B8 l
 | [],_,_,_,_,_=>by simp[E5,B8]
 | t::l,k,c,d,b,a=>by
  simp only[E5,eD4,aj5,L9,B8]
end
def U2(t:St)(k pr up nx lp):ac1 t k pr up nx lp =
  ⟨t,pr,up,nx,lp⟩::(E5 t.thn (k+1) pr ((k:Int)+1) (if t.kind=6 then(k:Int)+1 else nx) (if t.kind=6 then(k:Int)+1 else lp) ++
   E5 t.els (k+1+B8 t.thn) pr ((k:Int)+1) (if t.kind=6 then(k:Int)+1 else nx) (if t.kind=6 then(k:Int)+1 else lp)):=by
 cases t;simp only[ac1,L9,St.thn,St.els,St.kind];rfl
def dS7:∀(m:Nat) (l:List St) (o:It) (va v:Value) (h:Hp) (n:Nat) (vg vp T F E:Value) (L:List It) (lo D:List Int) (w:World),B8 l<=m->ShS h w n vg vp T F E L lo D->E6 h (n8 w)->R h v l->SV h va o->M5 l<=1000000->L.length+B8 l<=1000000 ->
  p7 prog 187 #[.pointer (some ⟨n,0,none⟩),v,va] w λu w'=>(∃bL,ShS h w' n vg vp bL F E (L++E5 l L.length o.proc o.up o.next o.loop) lo D/\t8 (λb=>b=n\/B0 T b) w w'/\F4 w T bL):=by
 intro m
 induction m using Nat.strongRecOn with
 | ind m ih=>
 intro l o va v h n vg vp T F E L lo D w df hs hh hv az di db;refine y5 [.pointer (some ⟨n,0,none⟩),v,va] func187 rfl ?_;have hS:=hv.isS;have hn:=hv.vlen;have a9:∀b,(b=n\/B0 T b)->b<w.heap.size:=λb g=>by
  rcases g with rfl|g
  .exact hs.lt
  .exact hs.oL.lt g
 obtain⟨a,w1,b4,am,ha⟩:=dN3 (w:=w) (λb=>b=n\/B0 T b) az a9;have cT:∀b,(b=n\/B0 T b)->b<w1.heap.size:=λb g=>eK3 (a9 b g) am.size;obtain⟨c5,cv,_,cC,_⟩:=L8.it az ha;obtain⟨cF,_⟩:=L8.it_v az ha;have cn:=hs.ext am;have aT:∀b,(b=n\/B0 T b)->h b=none:=λb g=>by
  rcases g with rfl|g
  .exact hs.free
  .exact hs.oL.free g
 have b8:E6 h (n8 w1):=A3 hh (b7 am);simp only[eQ,simprocAttr,b4,hS,hn];refine E4 [0,1,5,11,12] (σ:=Nat×Value×List It) (λs f w'=>f 13=s.1/\s.1<=l.length/\ShS h w' n vg vp s.2.1 F E (L++s.2.2) lo D/\t8 (λb=>b=n\/B0 T b) w1 w'/\F4 w1 T s.2.1 /\
  E5 l L.length o.proc o.up o.next o.loop=s.2.2++E5 (l.drop s.1) (L.length+s.2.2.length) o.proc o.up o.next o.loop/\s.2.2.length+B8 (l.drop s.1)=B8 l) (λs=>l.length-s.1) (0,T,[]) ?_ ?_
 .exact⟨rfl,eE2 _,by simpa using cn,t8.refl _,λb g=>.inl g,dG,dG⟩
 .rintro⟨k,B,j⟩ f w2 hk ⟨aa,ch,V,aZ,S,G,ab⟩;simp only at aa ch V S G ab;simp only[eF8,C9,simprocAttr]at hk;obtain⟨e0,e1,e5,bT,bU,_⟩:=hk;simp only[eQ,simprocAttr,aa,bU];refine A7 (λaw=>?_) ?_
  .have cc:=hv.inS aw;have av:E6 h (n8 w2):=G8 b8 aZ aT;obtain⟨sv,W,bh⟩:=G1 (P:=prog) (t:=113) hv av (eD1 aw) bo5 bo7 aV7 ag7;rw[ag7]at bh;have ac:l.drop k=l[k]::l.drop (k+1):=eI2 aw;have cy:=ay5 (eE1 aw);have cm:(l.drop (k+1)).length=l.length-(k+1):=eK0;generalize l[k]=t at W ac cy;rw[ac]at G ab;rw[B8]at ab;have dd:=aJ7 t;have dh:=aa0 t;have aW:(L++j).length=L.length+j.length:=eD4;have C:∀b,(b=n\/B0 B b)->h b=none:=λb g=>by
    rcases g with rfl|g
    .exact hs.free
    .exact V.oL.free g
   have bZ:∀b,(b=n\/B0 B b)->b<w2.heap.size:=λb g=>by
    rcases g with rfl|g
    .exact V.lt
    .exact V.oL.lt g
   obtain⟨b,wz,H,b1,cs,an,bc⟩:=dU3 (w:=w2) (λb=>b=n\/B0 B b) W bZ;obtain⟨vl,ux,dv,vt,ve,dg,_,_,c0,cx,cw,a2,dt⟩:=L8.st W bc;obtain⟨bD,_⟩:=L8.st_v W bc;have z:=V.ext an;have p:t8 (λb=>b=n\/B0 T b) w1 H:=aZ.trans (t8.up an);have ce:E6 (D9 H λb=>b=n\/B0 B b) (n8 H):=B6 _ _;have b2:E6 (D9 w1 λb=>b=n\/B0 T b) (n8 H):=F5 p;have be:=F9 (P:=prog) (t:=157) (i:=2) (u:=B) z.cell rfl bD9;have b0:=z.oL.isS;have bk:=z.oL.vlen;rw[aW]at bk;have cb:IntKind.i64.wrap (((L.length+j.length:Nat):Int)+1)=((L.length+j.length+1:Nat):Int):=I9 _;obtain⟨tb,wy,w4,ba,bo,a0,cW,bs⟩:=ai6.new (w:=H) az;have co:=z.ext a0;have cf:E6 (D9 H λb=>b=n\/B0 B b) (n8 w4):=A3 ce (b7 a0);obtain⟨w5,bp,aK,bz⟩:=bs.setS W;have J:t8 (λb=>b=n\/B0 B b) H w5:=(t8.up a0).chain bz λi D g=>om
   have cp:ShS h w5 n vg vp B F E (L++j) lo D:=co.mod bz (by have:=z.lt;omega) (λb g=>by have:=z.oL.lt g;omega) (λb g=>by have:=z.oLo.lt g;omega) (λb g=>by have:=z.oHi.lt g;omega);have aU:IntKind.i64.wrap ((k:Int)+1)=((k+1:Nat):Int):=I9 k (by have:=ac0 l;omega);have cg:E6 (D9 H λb=>b=n\/B0 B b) (n8 w5):=F5 J;have cB:=bD w5 cg;simp only[p6,n9,A6,simprocAttr,aa,e0,e1,e5,bT,cc,bh,b1,cs,be,b0,bk,cb,cF H b2,ba,bo,bD w4 cf,bp,hS,hn,aU];generalize hK:CW prog _ (ai2 1 (aj9 _ _))=K;have bC:∀(Z:Int) (f6:Fr) (I:World),Z=(if(l.drop (k+1)).length=0 then o.next else((L.length+j.length:Nat):Int)+1+(ae6 t:Nat))->ai6 h I tb ⟨t,o.proc,o.up,Z,o.loop⟩->t8 (λb=>b=tb) w5 I ->
     f6 0 = .pointer (some ⟨n,0,none⟩)->f6 5=a->f6 7=b->f6 8=(L.length+j.length+1:Nat)->f6 9 = .pointer (some ⟨tb,0,none⟩)->f6 13=k->K f6 I:=by
    intro Z f6 I ck al ao g0 g5 g7 g8 g9 a8;have cq:ShS h I n vg vp B F E (L++j) lo D:=cp.mod ao (by have:=z.lt;omega) (λb g=>by have:=z.oL.lt g;omega) (λb g=>by have:=z.oLo.lt g;omega) (λb g=>by have:=z.oHi.lt g;omega);have N:t8 (λb=>b=n\/B0 B b) H I:=J.chain ao λi D g=>om
    have A:=cq.ext (o6.drew I);obtain⟨iv,cd,cD⟩:=al.ld;have ca:E6 h (n8 I.drew):=by
     have h3:E6 h (n8 H):=A3 av (b7 an);exact A3 (G8 h3 N C) (b7 (o6.drew I))
    obtain⟨p1,ap,w7,p2,p3,p4,p5⟩:=push (e:=157) ep5 rfl A.oL (x:=iv) (y:=⟨t,o.proc,o.up,Z,o.loop⟩) cd.enc (by rw[aW];omega) (by rw[aW];omega) ca;have b5:w7.heap[n]?=some (.cells #[vg,vp,B,F,E] 159 (0,0)):=(p4.block n A.lt λg=>(A.d1 n g).1 rfl).trans A.cell;obtain⟨w8,s8,b6,a1⟩:=ai1 (P:=prog) (t:=157) (i:=2) (x:=ap) b5 dG (G3 p3.isS) (aa9 p3.isS) (B1 dJ3).choose_spec.1 (by rw[<-F8 (B1 dJ3).choose_spec.1];exact ef8);have aj:ShS h w8 n vg vp ap F E ((L++j)++[⟨t,o.proc,o.up,Z,o.loop⟩]) lo D:=A.setL p4 p3 p5 a1 (by simpa using b6);have ct:H.heap.size<=I.drew.heap.size:=(N.trans (t8.up (o6.drew I))).size;have O:t8 (λb=>b=n\/B0 B b) H w8:=((N.trans (t8.up (o6.drew I))).chain p4 λi D g=>.inr g).chain a1 λi D g=>.inl g;have ax:t8 (λb=>b=n\/B0 T b) w1 w8:=p.chain O λi D g=>by
     rcases g with g|g
     .exact .inl g
     .rcases S i g with g|g
      .exact .inr g
      .omega
    have aG:∀i,i<H.heap.size->B0 ap i->B0 B i:=λi D g=>by
     rcases p5 i g with g|g
     .exact g
     .omega
    have br:tb<I.heap.size:=al.lt;have ag:¬B0 B tb:=λg=>by have:=z.oL.lt g;omega
    have cK:∀K f d w,X8 prog (t8 (B0 B) I.drew) (Instr.loadAt 157 (.pointer (some ⟨n,2,none⟩))) K f d w=K (G9 f d B) w:=λK f d w=>L5 (w0:=I.drew) (t8.refl _) λw' aY=>F9 (i:=2) ((aY.block n A.lt λg=>(A.d1 n g).1 rfl).trans A.cell) rfl bD9;have cL:∀K f d w,X8 prog (t8 (B0 B) I.drew) (Instr.loadAt 156 (.pointer (some ⟨tb,0,none⟩))) K f d w=K (G9 f d iv) w:=λK f d w=>L5 (w0:=I.drew) (t8.refl _) λw' aY=>(cD w' (aY.block tb br ag)).1;rw[<-hK];simp only[p6,simprocAttr];refine C4 (t8 (B0 B) I.drew) 8 (A8 [0,1,2,3,4,5,6,7]) ?_;simp only[D7,A8,p6,n9,simprocAttr,g0,g9,cK,cL,p1,p2,F2];refine⟨t8.up (o6.alloc _ _),p4,?_⟩;have bt:ai6 h w8 tb ⟨t,o.proc,o.up,Z,o.loop⟩:=((al.mod (t8.up (M:=B0 B) (o6.drew I)) ag).mod p4 ag).mod a1 (by have:=z.lt;omega);obtain⟨dk,_,bE⟩:=bt.ld;obtain⟨bv,b3,bd⟩:=dg5 h o.proc ((L.length+j.length+1:Nat):Int) Z o.loop;obtain⟨ib,wq,w9,bb,bq,bA,cX,aL⟩:=ai6.new (w:=w8) bd;have cr:=aj.ext bA;have U:t8 (λb=>b=n\/B0 B b) H w9:=O.trans (t8.up bA);simp only[eQ,simprocAttr,g5,g7,g8,g9,s8,cC w8 (F5 ax),(bE w8 rfl).2,b3,bb,bq,a2 w9 (F5 U)];generalize bY:CW prog _ (ai2 1 (aj9 _ _))=K2;have ah:((L++j)++[(⟨t,o.proc,o.up,Z,o.loop⟩:It)]).length=L.length+j.length+1:=by simp[eO4]
    have aE:¬B0 ap ib:=λg=>by have:=aj.oL.lt g;omega
    have aF:ib≠n:=λe=>by have:=aj.lt;omega
    have aO:∀(aC aB:Int) (f9:Fr) (Q:World),aC=(if t.kind=6 then((L.length+j.length:Nat):Int)+1 else Z)->aB=(if t.kind=6 then((L.length+j.length:Nat):Int)+1 else o.loop)->ai6 h Q ib ⟨dm9,o.proc,((L.length+j.length+1:Nat):Int),aC,aB⟩->t8 (λb=>b=ib) w9 Q ->
      f9 0 = .pointer (some ⟨n,0,none⟩)->f9 7=b->f9 10 = .pointer (some ⟨ib,0,none⟩)->f9 13=k->K2 f9 Q:=by
     intro aC aB f9 Q bm bj ak aM q0 q7 bJ cJ;have bn:=cr.mod aM (λe=>aF e.symm) (λc g e=>by subst e;exact aE g) (λc g e=>by subst e;have:=aj.oLo.lt g;omega) (λc g e=>by subst e;have:=aj.oHi.lt g;omega);have q:t8 (λb=>b=n\/B0 B b) H Q:=U.chain aM λi D g=>by have:=O.size;omega
     obtain⟨nv,cj,cE⟩:=ak.ld;have bH:=a2 Q (F5 q);have bG:=(cE Q rfl).1;have h3:E6 h (n8 H):=A3 av (b7 an);have bf:E6 h (n8 Q):=G8 h3 q C;rw[<-bY];simp only[eQ,simprocAttr,q0,q7,bJ,bH,bG];apply z6 (ih (B8 t.thn) om t.thn _ nv vt h n vg vp ap F E _ lo D Q (eE8 _) bn bf cx cj om (by rw[ah];omega));rintro u Y ⟨bK,aI,aN,af⟩;rw[ah]at aI;have bO:=q.size;have r:t8 (λb=>b=n\/B0 B b) H Y:=q.chain aN λi D g=>g.imp id (aG i D);have ay:∀i,i<H.heap.size->B0 bK i->B0 B i:=λi D g=>by
      rcases af i g with g|g
      .exact aG i D g
      .omega
     have aX:ai6 h Y ib ⟨dm9,o.proc,((L.length+j.length+1:Nat):Int),aC,aB⟩:=ak.mod aN λg=>by
      rcases g with g|g
      .exact aF g
      .exact aE g
     obtain⟨cG,bl,bF⟩:=aX.ld;have bg:E6 h (n8 Y):=G8 h3 r C;have aH:∀X:List It,X.length=B8 t.thn->(((L++j)++[(⟨t,o.proc,o.up,Z,o.loop⟩:It)])++X).length=L.length+j.length+1+B8 t.thn:=λX hX=>by rw[eD4,ah,hX]
     simp only[eQ,simprocAttr,q0,q7,bJ,a2 Y (F5 r),(bF Y rfl).1];apply z6 (ih (B8 t.els) om t.els _ cG ve h n vg vp bK F E _ lo D Y (eE8 _) aI bg cw bl om (by rw[aH _ (L9 _ _ _ _ _ _)];omega));rintro u bM ⟨cM,aJ,bx,aV⟩;rw[aH _ (L9 _ _ _ _ _ _)]at aJ;have bP:=r.size;have ae:t8 (λb=>b=n\/B0 B b) H bM:=r.chain bx λi D g=>g.imp id (ay i D);have ad:t8 (λb=>b=n\/B0 T b) w1 bM:=p.chain ae λi D g=>by
      rcases g with g|g
      .exact .inl g
      .rcases S i g with g|g
       .exact .inr g
       .omega
     simp only[eQ,simprocAttr,cJ];refine⟨(k+1,cM,j++ac1 t (L.length+j.length) o.proc o.up Z o.loop),om,by rw[I9 k (by have:=ac0 l;omega)],om,?_,ad,?_,?_,?_⟩
     .simp only[];have e1:((L.length+j.length+1:Nat):Int)=((L.length+j.length:Nat):Int)+1:=om
      rw[U2,<-bm,<-bj,<-e1];have e2:=aJ;simp only[eG4,eP1,eL4]at e2 ⊢;exact e2
     .simp only[];intro i g;rcases aV i g with g|g
      .rcases af i g with g|g
       .rcases p5 i g with g|g
        .exact S i g
        .have:=p.size;exact .inr om
       .have:=p.size;exact .inr om
      .have:=p.size;exact .inr om
     .simp only[];rw[G,E5,<-ck];simp only[eG4,eD4,eO4]
     .simp only[];rw[eD4,aj5];omega
    refine B2 (λh6=>?_) (λh6=>?_)
    .have k6:=eD3 h6;obtain⟨wr,cl,bu,cz⟩:=aL.setN (((L.length+j.length+1:Nat):Int));obtain⟨wt,cu,bw,cA⟩:=bu.setLp (((L.length+j.length+1:Nat):Int));simp only[eQ,simprocAttr,g8,cl,cu];refine aO ((L.length+j.length+1:Nat):Int) ((L.length+j.length+1:Nat):Int) _ _ (by rw[fi k6];omega) (by rw[fi k6];omega) bw (cz.trans cA) ?_ ?_ ?_ ?_<;>simp only[C9,↓reduceIte,Nat.reduceEqDiff,g0,g7,a8]
    .have k6:=eD6 h6;simp only[p6,simprocAttr];refine aO Z o.loop _ _ (by rw[fh k6]) (by rw[fh k6]) aL (t8.refl _) ?_ ?_ ?_ ?_<;>simp only[C9,↓reduceIte,Nat.reduceEqDiff,g0,g7,a8]
   refine B2 (λh6=>?_) (λh6=>?_)
   .have ci:¬(l.drop (k+1)).length=0:=by
     have:((k+1:Nat):Int)<(l.length:Nat):=by simpa using h6
     omega
    simp only[p6,simprocAttr,cB];refine B3 (bW8 _ t sv w5 (eE8 _) (W.mono ?_) om) (λI ao=>?_)
    .exact G8 (A3 av (b7 an)) J C
    have bi:IntKind.i64.wrap (((L.length+j.length+1:Nat):Int)+((ae6 t:Nat):Int))=((L.length+j.length:Nat):Int)+1+(ae6 t:Nat):=by rw[N7 _ om];omega
    obtain⟨w7,k1,k2,k3⟩:=(aK.mod (t8.up (M:=λ_=>False) ao) id).setN (((L.length+j.length:Nat):Int)+1+(ae6 t:Nat));simp only[eQ,simprocAttr,bi,k1];refine bC _ _ _ (by rw[fh ci]) k2 ((t8.up ao).trans k3) ?_ ?_ ?_ ?_ ?_ ?_<;>simp only[C9,↓reduceIte,Nat.reduceEqDiff,e0,e5,aa]
   .have hz:(l.drop (k+1)).length=0:=by
     have:¬((k+1:Nat):Int)<(l.length:Nat):=by simpa using h6
     omega
    simp only[p6,simprocAttr];refine bC _ _ _ (by rw[fi hz]) aK (t8.refl _) ?_ ?_ ?_ ?_ ?_ ?_<;>simp only[C9,↓reduceIte,Nat.reduceEqDiff,e0,e5,aa]
  .rintro rfl;simp only[p6,simprocAttr];apply bw0 results187;rw[eN6]at G;simp only[E5,eG5]at G;rw[G];exact⟨B,V,(t8.up am).trans aZ,λb g=>(S b g).imp id λh=>eD7 am.size h⟩
end Go.Proofs.YtpebpfiglfmegaaGreat

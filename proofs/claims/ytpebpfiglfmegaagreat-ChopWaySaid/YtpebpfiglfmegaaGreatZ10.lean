/- chopWay.proved: for every input the law returns true. No condition. -/
import Derived.Test.YtpebpfiglfmegaaGreatRows
import Derived.Test.YtpebpfiglfmegaaGreatZ8
import Derived.Test.YtpebpfiglfmegaaGreatZ9
set_option maxRecDepth 1000000
set_option maxHeartbeats 8000000
set_option linter.unusedVariables false
set_option linter.unusedSimpArgs false
set_option linter.unnecessarySimpa false
set_option linter.defProp false
namespace Go.Proofs.YtpebpfiglfmegaaGreat
open Go List IntKind Region
section
open Go.ChangeShapes Go.WideShapes Go.ChangeAt Go.RowKit
section
variable {H:Type} {enc:TypeId×Value->H} {P:Program} {W:World} {v:Value} {d:DataW H} {ps:List MemPlace} {t:TypeId} {base:Nat} {sp:Nat->Bool} {held:Bool}
def dg1{e b0}(i:P.underlying t=some (.slice e))(f:Value.okWide P W .any b0 t v)(h:DataW.Trod enc P W base sp held t v d ps):
  ∃b,DataW.trod enc P W base sp held b t [v]=some (d,ps):=by
 obtain⟨a,n,c,rfl⟩:=okWide_slice i f;obtain⟨b,g⟩:=h;exact⟨b,by simpa[Value.cells]using g⟩
def dt2{e b0}(w:P.underlying t=some (.slice e))(B:P.underlying e=some (.int .i64))(A:P.cellsOf e=1)(i:Value.okWide P W .any b0 t v)(h:DataW.Trod enc P W base sp held t v d ps):
  ∃y:List Int,R (n8 W) v y/\∀n∈y,(Lit.int .i64 n).wf=true:=by
 obtain⟨n,g⟩:=dg1 w i h;rcases open_ints w B A g with⟨f,_⟩|⟨a,b,l,s,f,_,p,_,r,_,c,q⟩
 .simp only[eP0,and_true]at f;subst f;exact⟨[],⟨none,0,0,rfl,rfl,eE8 _,[],rfl,λj u k=>by simp at k⟩,λn g=>by cases g⟩
 .simp only[eP0,and_true]at f;subst f;have C:b<=s.length:=by rw[r];split<;>omega
  refine⟨s.take b,⟨some a,b,l,rfl,by rw[eE5];omega,p,(s.take b).map λn=>.int .i64 n,G6.2 rfl,λj u k=>⟨a,rfl,?_⟩⟩,λn g=>q n (eL5 g)⟩;rw[eH2]at k;obtain⟨x,m,z⟩:=Option.map_eq_some_iff.1 k;have o:=(eD8.1 m).1;rw[eE5]at o;rw[List.getElem?_take_of_lt om]at m;have:=c j om;rw[ao3]at this;rw[this,<-z];simp[List.getD,m]
end
end
def bj5(e:Eg)(v:Vx)(o:List Int):Bool:=decide (e.src=v)&&(!decide (e.kind=6)||(decide (o=[])||decide (o.getD (o.length-1) 0=e.dst.id)))
def cG0(e:Eg)(v:Vx)(uo)(o:List Int)(w)(m:R (n8 w) uo o)(Y:o.length<=1000000000):
  p7 Tryz.prog 58 #[e,v,uo] w λu g=>(u=(bj5 e v o)/\o6 w g):=by
 apply y5 [e,v,uo] Tryz.func58 rfl;obtain⟨c,C,j,N,D⟩:=cX3 (w:=w) (λ_=>False) (SV.ofN (n8 w) e) (λ_ h=>h.elim);obtain⟨X,a,i,t,p⟩:=aS1 (w:=C) (λ_=>False) (SV.ofN (n8 C) v) (λ_ h=>h.elim);obtain⟨Z,u2,s,I,L,J,_,V⟩:=L8.eg (SV.ofN (n8 w) e) D;have b:=(N.trans t).trans (o6.drew a);have l:∀g,o6 a.drew g->E6 (D9 C λ_=>False) (n8 g):=λg h=>A3 (B6 _ _) (b7 ((t.trans (o6.drew a)).trans h));have r:∀g,o6 a.drew g->E6 (D9 a λ_=>False) (n8 g):=λg h=>A3 (B6 _ _) (b7 ((o6.drew a).trans h));have z:=(L8.vx_v s I).2 (o6 a.drew) a.drew (t8.refl _) l;have A:=(L8.vx_v (SV.ofN (n8 C) v) p).2 (o6 a.drew) a.drew (t8.refl _) r;have O:=V (o6 a.drew) a.drew (t8.refl _) l;have W:=(L8.vx L J).2 (o6 a.drew) a.drew (t8.refl _) l;obtain rfl:=s.N;simp only[A0.cells]at z A;have B:=λ(x y:Operand) K f d Q=>L5 (P:=Tryz.prog) (S:=λg=>o6 a.drew g) (K:=K) (f:=f) (d:=d) (w:=Q) (w0:=a.drew) (t8.refl _) λg h=>bA7 g x y e.src v;have U:bj5 e v o=(decide (e.src=v)&&(!decide (e.kind=6)||(decide (o=[])||decide (o.getD (o.length-1) 0=e.dst.id)))):=rfl;rw[U];rcases eD2 (decide (e.src=v))with q1|q1;rotate_left
 .simp only[eF,simprocAttr,j,i];refine C4 (o6 a.drew) 27 (A8 [0,1,2,3,4,5,6,7,8,9,10,11,12,13,14,15,16,17,18,19,20,21,22,23,24,25,26]) ?_;simp only[D7,A8,i4,n9,simprocAttr,z,A,T8,B,q1];exact o8 Tryz.results58 ⟨rfl,b⟩
 rcases eD2 (decide (e.kind=6))with q2|q2;rotate_left
 .simp only[eF,simprocAttr,j,i];refine C4 (o6 a.drew) 27 (A8 [0,1,2,3,4,5,6,7,8,9,10,11,12,13,14,15,16,17,18,19,20,21,22,23,24,25,26]) ?_;simp only[D7,A8,i4,n9,simprocAttr,z,A,T8,B,q1,O,q2];exact o8 Tryz.results58 ⟨rfl,b⟩
 rcases eD2 (decide ((o.length:Int)=0))with q3|q3
 .have q:o=[]:=List.length_eq_zero_iff.1 (by have:=eD3 q3;omega);simp only[eF,simprocAttr,j,i];refine C4 (o6 a.drew) 27 (A8 [0,1,2,3,4,5,6,7,8,9,10,11,12,13,14,15,16,17,18,19,20,21,22,23,24,25,26]) ?_;simp only[D7,A8,i4,n9,simprocAttr,z,A,T8,B,q1,O,q2,m.isS,m.vlen,q3];exact o8 Tryz.results58 ⟨by rw[eG9 q];rfl,b⟩
 obtain⟨n,G⟩:∃n,o.length=n+1:=⟨o.length-1,by have:=eD6 q3;omega⟩;have k:n<o.length:=om
 have H:¬o=[]:=λh=>by rw[h]at G;cases G
 have E:o.getD (o.length-1) 0=o[n]:=by rw[G,List.getD,Nat.add_sub_cancel,eD1 k];rfl
 have M:IntKind.i64.wrap ((o.length:Int)-1)=(n:Int):=by rw[N7 _ om];omega
 have F:=m.inS k;have T:J4 Tryz.prog (λg=>o6 a.drew g) 3 (I2 uo n) (o[n]):=sdx λg h=>aI6 m (b7 (b.trans h)) k;rw[E];generalize o[n]=x at T;simp only[eF,simprocAttr,j,i];refine C4 (o6 a.drew) 27 (A8 [0,1,2,3,4,5,6,7,8,9,10,11,12,13,14,15,16,17,18,19,20,21,22,23,24,25,26]) ?_;simp only[D7,A8,i4,n9,A6,simprocAttr,z,A,T8,B,q1,O,q2,m.isS,m.vlen,q3,M,F,T,W];exact o8 Tryz.results58 ⟨by rw[eG7 H];rfl,b⟩
inductive aq2 (E:List Eg) (a:Vx) (oa:List Int):Vx->List Int->Prop
 | nil:aq2 E a oa a oa
 | flat {v:Vx} {o:List Int} {e:Eg}:aq2 E a oa v o->e∈E->e.src=v->(e.kind=1\/e.kind=2)->aq2 E a oa e.dst o
 | opn {v:Vx} {o:List Int} {e:Eg}:aq2 E a oa v o->e∈E->e.src=v->(e.kind=4\/e.kind=5)->aq2 E a oa e.dst (v.id::o)
 | up {v:Vx} {e:Eg}:aq2 E a oa v []->e∈E->e.src=v->e.kind=6->aq2 E a oa e.dst []
 | cls {v:Vx} {id:Int} {o:List Int} {e:Eg}:aq2 E a oa v (id::o)->e∈E->e.src=v->e.kind=6->e.dst.id=id->aq2 E a oa e.dst o
section
variable {p:Pg} {E:List Eg} {a v x:Vx} {o ox:List Int}
def aq3.g(h:aq3 E a v o):aq2 E a [] v o:=by
 induction h with
 | nil=>exact .nil
 | flat _ b c d e=>exact .flat e b c d
 | opn _ b c d e=>exact .opn e b c d
 | up _ b c d e=>exact .up e b c d
 | cls _ b c d f e=>exact .cls e b c d f
def aq2.s(h:aq2 E a [] v o):aq3 E a v o:=by
 induction h with
 | nil=>exact .nil
 | flat _ b c d e=>exact .flat e b c d
 | opn _ b c d e=>exact .opn e b c d
 | up _ b c d e=>exact .up e b c d
 | cls _ b c d f e=>exact .cls e b c d f
end
abbrev TWy:TypeId:=47
def cL5{u}(h:isS u=true)(b):D0 Tryz.prog TWy [(0,u),(1,.bool b)]=some (.agg #[u,.bool b]):=by
 cases u with
 | slice a n c=>first|(simp[D0,TWy,dY8,M2,Instr.fill,Value.cells];done)|(simp[D0,TWy,dY8,M2,Instr.fill,Value.cells];rfl)
 | _=>simp[isS]at h
def by0:I7 Tryz.prog TWy=some (.agg #[(),false]):=er6
theorem cq7{u}(h:isS u=true)(b):∀x∈(#[u,.bool b]:Array Value).toList,x.oneCell'=true:=λx a=>by
 rcases eF0.1 a with rfl|a
 .exact aa9 h
 .rw[eE7.1 a];rfl
structure WK (w w':World) (rb gw:Nat) (uV uo:Value) (V:List Vx) (o:List Int) (lev:Bool):Prop where
 ext:o6 w w'
 cr:w'.heap[rb]?=some (.cells #[(),false] TWy (0,0))
 cg:w'.heap[gw]?=some (.cells #[uV,lev] TWy (0,0))
 oV:B7 hZ w' TVx uV V
 oo:B7 hZ w' 3 uo o
 dV:∀b,B0 uV b->w.heap.size<=b/\b≠rb/\b≠gw/\¬B0 uo b
 dO:∀b,B0 uo b->w.heap.size<=b/\b≠rb/\b≠gw
 gn:w.heap.size<=rb/\w.heap.size<=gw/\rb≠gw
section
variable {w w':World} {rb gw:Nat} {uV uo:Value} {V:List Vx} {o:List Int} {lev:Bool}
def WK.ltr(s:WK w w' rb gw uV uo V o lev):rb<w'.heap.size:=(eD5.1 s.cr).1
def WK.ltg(s:WK w w' rb gw uV uo V o lev):gw<w'.heap.size:=(eD5.1 s.cg).1
def WK.more(s:WK w w' rb gw uV uo V o lev){w2}(a:o6 w' w2):WK w w2 rb gw uV uo V o lev:=
 ⟨s.ext.trans a,(a.block rb s.ltr id).trans s.cr,(a.block gw s.ltg id).trans s.cg,s.oV.ext a,s.oo.ext a,s.dV,s.dO,s.gn⟩
def WK.pushO(s:WK w w' rb gw uV uo V o lev)(n)(z:o.length<=1000000):
  (Instr.buildSlice 45 1 #[(0,.int .i64 n)]).run Tryz.prog w' = .ok (.slice (some ⟨w'.heap.size,0,none⟩) 1 1) (w'.alloc (.cells #[.int .i64 n] 3)) /\
  ∃f d,(Builtin.append_ #[45,45] 45 #[uo,.slice (some ⟨w'.heap.size,0,none⟩) 1 1]).run Tryz.prog (w'.alloc (.cells #[.int .i64 n] 3)) = .ok f d/\WK w d rb gw uV f V (o++[n]) lev/\t8 (B0 uo) w' d:=by
 obtain⟨g,f,d,i,v,c,j⟩:=push (P:=Tryz.prog) (t:=45) (e:=45) V8 rfl s.oo (x:=n) (y:=n) rfl om om (L4 _);simp only[Value.cells]at g i;have u:=s.ext.size;have q:=s.ltr;have r:=s.ltg;refine⟨g,f,d,i,⟨t8.ext_of s.ext c λb a=>(s.dO b a).1,(c.block rb q λh=>(s.dO rb h).2.1 rfl).trans s.cr,(c.block gw r λh=>(s.dO gw h).2.2 rfl).trans s.cg,s.oV.mod c λb a h=>(s.dV b a).2.2.2 h,v,λb a=>?_,λb a=>?_,s.gn⟩,c⟩
 .obtain⟨k,l,m,p⟩:=s.dV b a;refine⟨k,l,m,λh=>?_⟩;rcases j b h with h|h
  .exact p h
  .have:=s.oV.lt a;omega
 .rcases j b a with h|h
  .exact s.dO b h
  .exact⟨om,om,om⟩
def WK.pop(s:WK w w' rb gw uV uo V o lev){n}(hn:o.length=n+1):WK w w' rb gw uV (reS uo 0 n 1) V (o.take n) lev:=by
 obtain⟨d,c⟩:=s.oo.pre (k:=n) om om;exact⟨s.ext,s.cr,s.cg,s.oV,d,λb a=>⟨(s.dV b a).1,(s.dV b a).2.1,(s.dV b a).2.2.1,λh=>(s.dV b a).2.2.2 ((c b).1 h)⟩,λb a=>s.dO b ((c b).1 a),s.gn⟩
def WK.lev0(s:WK w w' rb gw uV uo V o lev)(b):∃e,(Instr.storeAt 4 (.pointer (some ⟨gw,1,none⟩)) (.bool b)).run Tryz.prog w' = .ok () e/\WK w e rb gw uV uo V o b/\t8 (λb=>b=gw) w' e:=by
 obtain⟨j,d,f⟩:=ay1 (P:=Tryz.prog) Y5 aK1;obtain⟨e,g,h,a⟩:=ai1 (P:=Tryz.prog) (t:=4) (i:=1) (x:=b) s.cg dG rfl rfl d f;exact⟨e,g,⟨t8.ext_of s.ext a λb c=>by rw[c];exact s.gn.2.1,(a.block rb s.ltr s.gn.2.2).trans s.cr,h,s.oV.mod a λb c=>(s.dV b c).2.2.1,s.oo.mod a λb c=>(s.dO b c).2.2,s.dV,s.dO,s.gn⟩,a⟩
def WK.pushV(s:WK w w' rb gw uV uo V o lev)(y:Vx)(E:V.length<=1000000):
  (Instr.buildSlice 35 1 #[(0,y)]).run Tryz.prog w' = .ok (.slice (some ⟨w'.heap.size,0,none⟩) 1 1) (w'.alloc (.cells (Value.agg (A0.cells y).toArray).cells TVx)) /\
  ∃c j k,(Builtin.append_ #[35,35] 35 #[uV,.slice (some ⟨w'.heap.size,0,none⟩) 1 1]).run Tryz.prog (w'.alloc (.cells (Value.agg (A0.cells y).toArray).cells TVx)) = .ok c j /\
   (Instr.storeAt 35 (.pointer (some ⟨gw,0,none⟩)) c).run Tryz.prog j = .ok () k/\WK w k rb gw c uo (V++[y]) o lev:=by
 obtain⟨B,c,j,C,m,f,D⟩:=push (P:=Tryz.prog) (t:=35) (e:=35) aD8 rfl s.oV (x:=y) (y:=y) ((A0.iff_ _ _ _).2 rfl) om om (L4 _);have v:=s.ext.size;have r:=s.ltr;have u:=s.ltg;have hm:=f.size;have l:=(f.block gw u λh=>(s.dV gw h).2.2.1 rfl).trans s.cg;obtain⟨F,d,n⟩:=ay1 (P:=Tryz.prog) dJ9 dI3;obtain⟨k,z,A,g⟩:=ai1 (P:=Tryz.prog) (t:=35) (i:=0) (x:=c) l dG (G3 m.isS) (aa9 m.isS) d n;have p:∀b,B0 c b->w.heap.size<=b/\b≠rb/\b≠gw/\¬B0 uo b:=λb a=>by
  rcases D b a with h|h
  .exact s.dV b h
  .exact⟨om,om,om,λq=>by have:=s.oo.lt q;omega⟩
 refine⟨B,c,j,k,C,z,⟨t8.ext_of (t8.ext_of s.ext f λb a=>(s.dV b a).1) g λb a=>by rw[a];exact s.gn.2.1,?_,A,m.mod g λb a=>(p b a).2.2.1,(s.oo.mod f λb a h=>(s.dV b h).2.2.2 a).mod g λb a=>(s.dO b a).2.2,p,s.dO,s.gn⟩⟩;exact(g.block rb om s.gn.2.2).trans ((f.block rb r λh=>(s.dV rb h).2.1 rfl).trans s.cr)
end
def PW(E:List Eg)(a:Vx)(V:List Vx)(o:List Int)(k:Nat):Prop:=V[0]?=some a/\(∃c v,V=c++[v]/\aq3 E a v o.reverse/\∀x∈V,∃b,aq3 E a x b/\aq2 E x b v o.reverse)/\(∀x∈V,∃b,aq3 E a x b)/\V.length<=k+1/\o.length<=k
def PW.push{E:List Eg}{a v:Vx}{c:List Vx}{o f:List Int}{k}{y:Vx}(h:PW E a (c++[v]) o k)(i:∀{x:Vx} {j:List Int},aq2 E x j v o.reverse->aq2 E x j y f.reverse)(s:f.length<=k+1):PW E a ((c++[v])++[y]) f (k+1):=by
 obtain⟨g,⟨l,w,e,t,r⟩,p,q,_⟩:=h;obtain rfl:=(List.append_inj' e rfl).1;obtain rfl:=List.singleton_inj.1 (List.append_inj' e rfl).2;have d:=(i t.g).s;refine⟨?_,⟨_,y,rfl,d,λx b=>?_⟩,λx b=>?_,by simp at q ⊢;omega,s⟩
 .rw[eI7 (eD8.1 g).1];exact g
 .rcases eE0.1 b with b|b
  .obtain⟨u,m,n⟩:=r x b;exact⟨u,m,i n⟩
  .rw[eE7.1 b];exact⟨_,d,.nil⟩
 .rcases eE0.1 b with b|b
  .exact p x b
  .rw[eE7.1 b];exact⟨_,d⟩
def aB5(ue)(E:List Eg)(a:Vx)(ub)(bs:List Int)(w)(he:R (n8 w) ue E)(hb:R (n8 w) ub bs)(hl:E.length<=1000000000)(hk:∀e∈E,(e.kind=1\/e.kind=2)\/(e.kind=4\/e.kind=5)\/e.kind=6):
  p7 Tryz.prog 23 #[ue,.agg (A0.cells a).toArray,ub] w λu w'=>(∃r l V o,u = .agg #[r,.bool l]/\(B7 hZ w' TVx r V/\∀b,B0 r b->w.heap.size<=b)/\PW E a V o 40/\o6 w w'):=by
 apply y5 [ue,.agg (A0.cells a).toArray,ub] Tryz.func23 rfl;obtain⟨c,w1,bS,bu,a9⟩:=ak4 (SV.ofN (n8 w) a) (n7 _);obtain⟨cT,bn,b6,_⟩:=a9.vx_v;obtain rfl:=bn.N;obtain⟨al,_⟩:=aE6 (P:=Tryz.prog) (w:=w1) (T:=TWy) by0 (by rw[aX1];rfl) (cs:=#[.slice none 0 0,.bool false]) (by rw[aX1];rfl) (by simp[Value.oneCell']);have aM:=o6.alloc w1 (.cells (Value.agg #[.slice none 0 0,.bool false]).cells TWy);have am:=eH3 w1 (.cells (Value.agg #[.slice none 0 0,.bool false]).cells TWy);generalize w1.alloc (.cells (Value.agg #[.slice none 0 0,.bool false]).cells TWy)=w2 at al aM am;have bp:=bu.size;have aC:w1.heap.size<w2.heap.size:=(eD5.1 am).1;generalize w1.heap.size=rb at al am bp aC;have la:=b6 w2 (b7 aM);obtain⟨r,w3,q3,o3,aN,bh⟩:=lit (P:=Tryz.prog) (t:=35) (w:=w2) (h:=hZ) (α:=Vx) (xs:=[.agg (A0.cells a).toArray]) (ys:=[a]) (parts:=#[(0,.agg (A0.cells a).toArray)]) (n:=1) aD8 rfl (aq7 ((A0.iff_ _ _ _).2 (by simp[Value.cells]))) (by simp[Value.cells];rfl) rfl rfl dG dG (L4 _);obtain⟨az,H⟩:=aE6 (P:=Tryz.prog) (w:=w3) (T:=TWy) by0 (by rw[aX1];rfl) (cs:=#[r,.bool true]) (by rw[aX1];rfl) (cq7 o3.isS _);have aq:=o6.alloc w3 (.cells #[r,.bool true] TWy);have an:=eH3 w3 (.cells #[r,.bool true] TWy);have o4:=o3.ext aq;generalize w3.alloc (.cells #[r,.bool true] TWy)=w4 at H aq an o4;have bq:=aN.size;have bd:∀b,B0 r b->b<w3.heap.size:=λb hb=>o3.lt hb;generalize w3.heap.size=gw at az H an bq bd;have s4:WK w w4 rb gw r (.slice none 0 0) [a] [] true:=⟨(bu.trans aM).trans (aN.trans aq),((aN.trans aq).block rb aC id).trans am,an,o4,B7.nil _ _ _,λb hb=>⟨by have:=bh b hb;omega,by have:=bh b hb;omega,by have:=bd b hb;omega,E7⟩,λb hb=>fj hb E7,om,om,om⟩;obtain⟨kc,uc,a1,a2,a3,ab⟩:∃(kc:Nat) (u:Value),(if(40:Int)<(bs.length:Int)then(40:Int)else(bs.length:Int))=(kc:Int)/\decide ((kc:Int)<=(vcap ub:Int))=true/\reS ub 0 kc 1=u/\R (n8 w) u (bs.take 40):=di0 hb 40;have bg:(bs.take 40).length<=40:=by rw[eE5];omega
 generalize bs.take 40=m at ab bg;simp only[i4,n9,G7,simprocAttr,bS,al,la,q3,cL5 o3.isS,az,H,hb.isS,hb.vlen,a1,a2,a3,ab.isS,ab.vlen];generalize hK:CW Tryz.prog _ (aX4 _ _ _)=K;have aF:∀(f:Fr) (w':World) (r uo:Value) (V:List Vx) (o:List Int) (l:Bool),f 6 = .pointer (some ⟨rb,0,none⟩)->f 7 = .pointer (some ⟨gw,0,none⟩)->f 8=uo->WK w w' rb gw r uo V o l->PW E a V o 40->K f w':=by
  intro f w' r uo V o l h6 h7 h8 s hp;rw[<-hK];have lg:=F9 (P:=Tryz.prog) (t:=4) (i:=1) (u:=.bool l) s.cg rfl ag4;obtain⟨w5,t1,s5,_⟩:=s.lev0 (l&&decide ((o.length:Int)=0));obtain⟨w6,r1,r2,r3⟩:=ad2 (P:=Tryz.prog) (T:=TWy) (cs:=#[r,.bool (l&&decide ((o.length:Int)=0))]) s5.cr by0 (by rw[aX1];rfl) (by rw[aX1];rfl) (cq7 s.oV.isS _);have lw:=ad1 s5.cg dY2 dZ2 dY6 (by rw[aX1];rfl);have lr:=ad1 r2 dY2 dZ2 dY6 (by rw[aX1];rfl);have aB:∃aQ lv V' o',(.agg #[r,.bool (l&&decide ((o.length:Int)=0))]:Value) = .agg #[aQ,.bool lv]/\(B7 hZ w6 TVx aQ V'/\∀b,B0 aQ b->w.heap.size<=b)/\PW E a V' o' 40/\o6 w w6:=⟨r,_,V,o,rfl,⟨s5.oV.mod r3 λb hb=>(s5.dV b hb).2.1,λb hb=>(s5.dV b hb).1⟩,hp,t8.ext_of s5.ext r3 λb hb=>by rw[hb];exact s5.gn.1⟩;cases l
  .rw[Bool.false_and]at *;simp only[eF,simprocAttr,h7,h6,lg,t1,lw,r1];refine R4 Tryz.results23 (ad:=⟨rb,0,none⟩) (by simp only[C9,simprocAttr];exact h6) lr aB
  .rw[eJ4]at *;simp only[eF,simprocAttr,h7,h6,h8,lg,s.oo.isS,s.oo.vlen,t1,lw,r1];refine R4 Tryz.results23 (ad:=⟨rb,0,none⟩) (by simp only[C9,simprocAttr];exact h6) lr aB
 refine B4 [0,6,7,23,24] (σ:=(Nat×Bool)×(Value×Value)×(List Vx×List Int)) (λt f w'=>f 25 = .int .i64 t.1.1/\f 8=t.2.1.2/\t.1.1<=m.length/\WK w w' rb gw t.2.1.1 t.2.1.2 t.2.2.1 t.2.2.2 t.1.2/\PW E a t.2.2.1 t.2.2.2 t.1.1) (λt=>m.length-t.1.1) ((0,true),(r,.slice none 0 0),([a],[])) ?_ ?_
 .exact⟨rfl,rfl,eE2 _,s4,rfl,⟨[],a,rfl,.nil,λx hx=>by rw[eE7.1 hx];exact⟨_,.nil,.nil⟩⟩,λx hx=>by rw[eE7.1 hx];exact⟨_,.nil⟩,eE8 _,eE8 _⟩
 clear s4 al H an o4;rintro⟨⟨k,l⟩,⟨r,uo⟩,V,o⟩ f w5 ⟨e0,e6,e7,aZ,a0,_⟩ ⟨ak,h8,bW,s,hp⟩;simp only at ak h8 bW s hp;have Y:PW E a V o 40:=⟨hp.1,hp.2.1,hp.2.2.1,by have:=hp.2.2.2.1;omega,by have:=hp.2.2.2.2;omega⟩;simp only[eF,simprocAttr,ak,a0];refine A7 (λbf=>?_) ?_;rotate_left
 .intro _;simp only[i4,simprocAttr];exact aF _ _ _ _ _ _ _ e6 e7 h8 s Y
 have bU:=ab.inS bf;have be:=aI6 ab (b7 s.ext) bf;generalize m[k]=n at be;obtain⟨bT,⟨p,v,rfl,bZ,hG⟩,a8,a6,bk⟩:=hp;have lg:=F9 (P:=Tryz.prog) (t:=35) (i:=0) (u:=r) s.cg rfl Z4;have bY:vlen r=p.length+1:=by rw[s.oV.vlen];simp
 have b0:IntKind.i64.wrap (((p.length+1:Nat):Int)-1)=(p.length:Int):=by rw[N7 _ (by simp at a6;omega)];omega
 have b5:=s.oV.inS (k:=p.length) dG;have b8:=bt7 (s.oV.rw_ (L4 _)) (n7 _) (k:=p.length) (y:=v) dG;obtain⟨d,wz,w6,a7,bm,b3,aA⟩:=ao6 (w:=w5) (SV.ofN (n8 w5) v) (n7 _);obtain⟨cU,bo,bA,_⟩:=aA.vx_v;obtain rfl:=bo.N;have s6:=s.more b3;simp only[i4,n9,A6,simprocAttr,ak,aZ,e7,e0,bU,be,lg,s.oV.isS,bY,b0,b5,b8,a7,bm,he.isS,he.vlen];refine B4 [0,6,7,8,10,11,23,24,25,37,38] (σ:=Nat×Value) (λt f w'=>f 39 = .int .i64 t.1/\f 12=t.2/\t.1<=E.length/\B7 (n8 w6) w' TEg t.2 ((E.take t.1).filter λe=>bj5 e v o)/\o6 w6 w') (λt=>E.length-t.1) (0,.slice none 0 0) ?_ ?_
 .exact⟨rfl,rfl,eE2 _,B7.nil _ _ _,t8.refl _⟩
 rintro⟨j,un⟩ f5 w7 ⟨g0,g6,g7,g8,bN,aH,bO,bP,J,bQ,bR,_⟩ ⟨U,S,bV,on,G⟩;simp only at U S bV on;rw[e0]at g0;rw[e6]at g6;rw[e7]at g7;rw[h8]at g8;rw[aZ]at bO;rw[a0]at bP;rw[ak]at J;have s7:=s6.more G;have bj:((E.take j).filter λe=>bj5 e v o).length<=1000000000:=eD7 (eG0 _ _) (by rw[eE5];omega);simp only[eF,simprocAttr,U,bR];refine A7 (λaK=>?_) ?_
 .obtain⟨sv,Z,g⟩:=G1 (P:=Tryz.prog) (t:=54) he (b7 s7.ext) (eD1 aK) bJ7 bK1 bk6 aw4;rw[aw4]at g;have b4:=he.inS aK;have aa:=cp0 (λe=>bj5 e v o) aK;generalize E[j]=e at Z aa;obtain rfl:=Z.N;obtain⟨d2,cg,w8,A,B,O,W⟩:=ct6 (w:=w7) (λb=>B0 un b) (SV.ofN (n8 w7) e) λb hb=>on.lt hb;have bB:=(L8.eg_v (SV.ofN (n8 w7) e) W).1;have cb:=bA w8 (b7 (G.trans O));simp only[i4,n9,A6,simprocAttr,bQ,U,b4,g,A,B,bB w8 (B6 _ _),aH,cb,g8];refine B3 (cG0 e v uo o w8 ((s7.more O).oo.rw_ (L4 _)) (by have:=Y.2.2.2.2;omega)) (λF bv=>?_);have I:=O.trans bv;have aO:=on.ext I;rcases eD2 (bj5 e v o)with hq|hq
  .rw[hq,fi rfl]at aa;obtain⟨p1,u3,wA,p2,p3,p4,p5⟩:=push (P:=Tryz.prog) (t:=49) (e:=49) cj9 rfl aO (x:=.agg (A0.cells e).toArray) (y:=e) ((A0.iff_ _ _ _).2 rfl) om om (b7 (G.trans I));have ca:=bB F (A3 (B6 _ _) (b7 bv));simp only[eF,simprocAttr,hq,S,ca,p1,p2,U];exact⟨(j+1,u3),so,by simp only[];rw[I9 j om],rfl,so,by simp only[];rw[aa];exact p3,aO.ext2 (G.trans I) p4⟩
  .rw[hq,fh dG,eG5]at aa;simp only[eF,simprocAttr,hq,S,U];exact⟨(j+1,un),so,by simp only[];rw[I9 j om],rfl,so,by simp only[];rw[aa];exact aO,G.trans I⟩
 rintro rfl;rw[eE4]at on bj;have a5:∀e∈E.filter (λe=>bj5 e v o),e∈E/\bj5 e v o=true:=λe h=>eF6.1 h;generalize E.filter (λe=>bj5 e v o)=N at on a5 bj;rcases eD2 (decide ((N.length:Int)=0))with q0|q0
 .simp only[eF,simprocAttr,S,on.isS,on.vlen,q0];exact aF _ _ _ _ _ _ _ g6 g7 g8 s7 Y
 obtain⟨M,hM,aJ⟩:=aP4 n N.length (by have:=eD6 q0;omega);have inN:=on.inS aJ;obtain⟨sv,Z,g⟩:=G1 (P:=Tryz.prog) (t:=54) (on.rw_ (b7 G)) (n7 _) (eD1 aJ) bJ7 bK1 bk6 aw4;rw[aw4]at g;obtain⟨L,ao⟩:=a5 _ (eE1 aJ);generalize N[M]=e at Z L ao;obtain rfl:=Z.N;obtain⟨d2,cg,w8,A,B,O,W⟩:=ct6 (w:=w7) (λb=>b=gw\/B0 uo b) (SV.ofN (n8 w7) e) λb hb=>by
  rcases hb with rfl|hb
  .exact s7.ltg
  .exact s7.oo.lt hb
 obtain⟨u1,u2,cH,cG,br,bX,lk,_⟩:=L8.eg (SV.ofN (n8 w7) e) W;have ae:=lk w8 (B6 _ _);have bz:=(L8.vx_v br bX).1;obtain rfl:=br.N;have s8:=s7.more O;have bC:=aA.vx.1 w8 (b7 (G.trans O));have X:PW E a (p++[v]) o k:=⟨bT,⟨p,v,rfl,bZ,hG⟩,a8,a6,bk⟩;unfold bj5 at ao;rw[eF1]at ao;obtain⟨C,bb⟩:=ao;have C:=eD3 C;have ar:∀{F:World} {Q:Value} {o2:List Int} {ac:Bool},WK w F rb gw r Q (p++[v]) o2 ac->E6 (D9 w8 λb=>b=gw\/B0 uo b) (n8 F)->∃u2 wA wB,((Instr.loadAt 35 (.pointer (some ⟨gw,0,none⟩))).run Tryz.prog F = .ok r F/\W8 Tryz.prog F 27 (d2.add 4) (.agg (A0.cells e.dst).toArray) /\
   (Instr.buildSlice 35 1 #[(0,.agg (A0.cells e.dst).toArray)]).run Tryz.prog F = .ok (.slice (some ⟨F.heap.size,0,none⟩) 1 1) (F.alloc (.cells (Value.agg (A0.cells e.dst).toArray).cells TVx)) /\
   (Builtin.append_ #[35,35] 35 #[r,.slice (some ⟨F.heap.size,0,none⟩) 1 1]).run Tryz.prog (F.alloc (.cells (Value.agg (A0.cells e.dst).toArray).cells TVx)) = .ok u2 wA /\
   (Instr.storeAt 35 (.pointer (some ⟨gw,0,none⟩)) u2).run Tryz.prog wA = .ok () wB)/\WK w wB rb gw u2 Q ((p++[v])++[e.dst]) o2 ac:=by
  intro F Q o2 ac s9 h9;obtain⟨v1,u2,wA,wB,v2,v3,sB⟩:=s9.pushV e.dst om;exact⟨u2,wA,wB,⟨F9 (P:=Tryz.prog) (t:=35) (i:=0) (u:=r) s9.cg rfl Z4,bz F h9,v1,v2,v3⟩,sB⟩
 simp only[eF,simprocAttr,S,on.isS,on.vlen,q0,bN];apply F6 (bM1 n N.length w7 om);rw[hM];rcases hk e L with hf|ho|h6
 .have k4:decide (e.kind=4)=false:=eG7 om;have k5:decide (e.kind=5)=false:=eG7 om;have k6:decide (e.kind=6)=false:=eG7 om;obtain⟨D,wA,wB,q,sB⟩:=ar s8 (B6 _ _);simp only[i4,n9,A6,simprocAttr,inN,g,A,B,ae,k4,k5,k6,g7,g8,J,q];exact⟨((k+1,l),(D,uo),((p++[v])++[e.dst],o)),so,by simp only[];rw[I9 k om],rfl,so,sB,X.push (λh=>.flat h L C hf) (Nat.le_succ_of_le bk)⟩
 .obtain⟨p1,Q,F,p2,s9,aL⟩:=s8.pushO v.id om;obtain⟨D,wA,wB,q,sB⟩:=ar s9 (F5 (aL.weaken λ_ _ h=>.inr h));have bt:∀{x:Vx} {ox:List Int},aq2 E x ox v o.reverse->aq2 E x ox e.dst (o++[v.id]).reverse:=λh=>by
   rw[List.reverse_append];exact .opn h L C ho
  rcases ho with h|h
  .have k4:decide (e.kind=4)=true:=eG9 h;simp only[i4,n9,A6,simprocAttr,inN,g,A,B,ae,k4,g7,g8,aH,bC,p1,p2,J,q];exact⟨((k+1,l),(D,Q),((p++[v])++[e.dst],o++[v.id])),so,by simp only[];rw[I9 k om],rfl,so,sB,X.push bt (by simp;omega)⟩
  .have k4:decide (e.kind=4)=false:=eG7 om;have k5:decide (e.kind=5)=true:=eG9 h;simp only[i4,n9,A6,simprocAttr,inN,g,A,B,ae,k4,k5,g7,g8,aH,bC,p1,p2,J,q];exact⟨((k+1,l),(D,Q),((p++[v])++[e.dst],o++[v.id])),so,by simp only[];rw[I9 k om],rfl,so,sB,X.push bt (by simp;omega)⟩
 .have k4:decide (e.kind=4)=false:=eG7 om;have k5:decide (e.kind=5)=false:=eG7 om;have k6:decide (e.kind=6)=true:=eG9 h6;rcases eD2 (decide ((o.length:Int)=0))with q6|q6
  .have bi:o=[]:=List.length_eq_zero_iff.1 (by have:=eD3 q6;omega);obtain⟨F,t1,s9,aL⟩:=s8.lev0 false;obtain⟨D,wA,wB,q,sB⟩:=ar s9 (F5 (aL.weaken λ_ _ h=>.inl h));simp only[i4,n9,A6,simprocAttr,inN,g,A,B,ae,k4,k5,k6,s8.oo.isS,s8.oo.vlen,q6,t1,g7,g8,J,q];subst bi;exact⟨((k+1,false),(D,uo),((p++[v])++[e.dst],[])),so,by simp only[];rw[I9 k om],rfl,so,sB,X.push (λh=>.up h L C h6) dG⟩
  .obtain⟨z,hz⟩:∃z,o.length=z+1:=⟨o.length-1,by have:=eD6 q6;omega⟩;have bw:z<o.length:=om
   have s9:=s8.pop hz;obtain⟨D,wA,wB,q,sB⟩:=ar s9 (B6 _ _);have b1:IntKind.i64.wrap ((o.length:Int)-1)=(z:Int):=by rw[N7 _ om];omega
   have ba:decide ((z:Int)<=(vcap uo:Int))=true:=by have:=s8.oo.vcap;simp;omega
   have bl:o.reverse=o[z]::(o.take z).reverse:=by
    have h1:=eD9 bw;rw[eI0 om]at h1
    conv=>lhs;rw[h1]
    simp
   rw[k6,eG7 λh=>by rw[h]at hz;cases hz]at bb;have bc:=eD3 bb;rw[hz,Nat.add_sub_cancel,List.getD,eD1 bw]at bc;simp only[i4,n9,A6,G7,simprocAttr,inN,g,A,B,ae,k4,k5,k6,s8.oo.isS,s8.oo.vlen,q6,b1,ba,g7,g8,J,q];exact⟨((k+1,l),(D,reS uo 0 z 1),((p++[v])++[e.dst],o.take z)),so,by simp only[];rw[I9 k om],rfl,so,sB,X.push (λh=>.cls (bl ▸ h) L C h6 bc.symm) (by rw[eE5];omega)⟩
section
variable {p:Pg}
def dL1(a:C8 p=true)(hw:C1 p<=1000000):∀e∈(b9 p).we,(e.kind=1\/e.kind=2)\/(e.kind=4\/e.kind=5)\/e.kind=6:=λe b=>by
 rcases av7 a hw b with⟨_,_,h⟩|⟨y,c⟩
 .exact .inl h
 .rcases c.kind with h|h|h<;>omega
end
section
variable {p:Pg} {E:List Eg} {a v x:Vx} {o ox:List Int}
def aq2.steps(h:aq2 E x ox v o):∀{b:Vx},at0 E v o b->at0 E x ox b:=by
 induction h with
 | nil=>exact id
 | flat _ c a d e=>exact λs=>e (a ▸ .flat c d s)
 | opn _ c a d e=>exact λs=>e (a ▸ .opn c d (a.symm ▸ s))
 | up _ c a d e=>exact λs=>e (a ▸ .up c d s)
 | cls _ c a d f e=>exact λs=>e (a ▸ f ▸ .cls c d s)
def dL0(c:C8 p=true)(hw:C1 p<=1000000){y:Vx}{V:List Vx}(e:a∈(b9 p).wv)(i:y∈V)(g:∀x∈V,∃f,aq3 (b9 p).we a x f/\aq2 (b9 p).we x f y o):∃L,P5 p [a] [y]=(L,0)/\∀x∈V,x∈L:=by
 have l:=D6 c;have b:∀x∈V,x∈(b9 p).wv:=λx d=>by
  obtain⟨_,h,_⟩:=g x d;exact dU9 c hw e h
 refine⟨_,bf0 c (by simpa using e) (by simpa using b y i),λx d=>(at3 l hw (b x d)).2 ?_⟩;obtain⟨f,j,k⟩:=g x d;exact dq1 c hw e (b y i) j (k.steps .done)
end
def cw4(w):(Instr.alloc TWy true (.tuple #[])).run Tryz.prog w = .ok (.pointer (some ⟨w.heap.size,0,none⟩)) (w.alloc (.cells (Value.agg #[(),false]).cells TWy))/\True:=
 ⟨(aE6 (P:=Tryz.prog) (w:=w) (T:=TWy) by0 (by rw[aX1];rfl) (cs:=#[(),false]) (by rw[aX1];rfl) (cq7 rfl _)).1,trivial⟩
def R.last{α:Type}[A9 α]{h v}{xs:List α}{x:α}(s:R h v (xs++[x])):R h (reS v xs.length (xs.length+1) (A9.sz α)) [x]:=by
 obtain⟨a,n,c,e,o,w,u,p,q⟩:=s;simp at e;subst e;obtain⟨b,f,g,i,k⟩:=af4 _ _ p;have r:b.length=xs.length*A9.sz α:=Q9 i;rw[eD4,eG3]at o;refine⟨if c=xs.length then a else a.map (·.add (xs.length*A9.sz α)),(xs.length+1)-xs.length,c-xs.length,rfl,dG,om,f,k,λj v t=>?_⟩;obtain⟨d,l,m⟩:=q (b.length+j) v (by rw[g,eI8 om];simpa using t);refine⟨d.add (xs.length*A9.sz α),?_,?_⟩
 .subst l;rw[fh om];rfl
 .rw[<-r,Addr.add_add'];exact m
def cm0(v:Value)(p:Pg)(i:Int)(vb:Value)(lb:List Int)(w:World)(hv:SV (n8 w) v p)(N:R (n8 w) vb lb):p7 Tryz.prog 5 #[v,.int .i64 i,vb] w λu C=>(u = .bool true/\o6 w C):=by
 apply y5 [v,.int .i64 i,vb] Tryz.func5 rfl;obtain⟨c,w1,bY,z,bo⟩:=L3 hv (n7 _);obtain⟨sp,r,au,av⟩:=bo.pg_v;simp only[eF,simprocAttr,bY];refine B3 (aA1 w1) (λw2 aR=>?_);simp only[eF,simprocAttr,au w2 (b7 aR)];refine B3 (az6 sp p w2 (r.mono (b7 aR))) (λw3 b5=>?_);have A:=aR.trans b5;rcases eD2 (decide (C1 p<=20000))with h1|h1;rotate_left
 .simp only[eF,simprocAttr,h1];exact o8 Tryz.results5 ⟨rfl,z.trans A⟩
 have O:C1 p<=1000000:=eD7 (eD3 h1) dR;simp only[eF,simprocAttr,h1,au w3 (b7 A)];refine B3 (aL7 sp 20 w3 (r.mono (b7 A)) O) (λw4 b6=>?_);have ap:=A.trans b6;rcases eD2 (C8 p&&decide (((bi8 p:Nat):Int)<=20))with h2|h2;rotate_left
 .simp only[eF,simprocAttr,h2];exact o8 Tryz.results5 ⟨rfl,z.trans ap⟩
 have hR:C8 p=true:=by rw[eF1]at h2;exact h2.1
 have hr:=D6 hR;have cf:=ah0 hr O;have br:=J3 hr.toKnown;have K:(b9 p).we.length<=1000000000:=eD7 (bo9 hr O) dR;have M:=dL1 hR O;have n:=ap.trans (o6.drew w4);have l:=z.trans n;generalize bs:w4.drew=D at n l;have t1:=av (o6 D) D (t8.refl _) λC h=>b7 (n.trans h);have aj:o6 D D:=t8.refl _;simp only[eF,simprocAttr,h2];refine bj3 [3] (o6 D) 9 (.op 0 (.op 2 (.op 4 (.op 6 (.fork [1,8] (λi=>if i=1 then(.fork [3,8] (λi=>if i=3 then(.fork [5,8] (λi=>if i=5 then(.fork [7,8] (λi=>if i=7 then(A8 [8])else(A8 [7])))else(A8 [5,7])))else(A8 [3,5,7])))else(A8 [1,3,5,7]))))))) (λf' C=>∃gb m q V o,f' 7 = .pointer (some ⟨gb,0,none⟩)/\f' 25 = .agg #[m,.bool q]/\C.heap[gb]?=some (.cells #[.slice none 0 0,.bool false] TWy (0,0))/\D.heap.size<=gb/\B7 hZ C TVx m V/\(∀b,B0 m b->b≠gb)/\PW (b9 p).we (ar4 (b9 p).wv i) V o 40/\o6 D C) (by decide +kernel) (by decide +kernel) (by rw[bs];exact t8.refl _) ?_ ?_
 .rw[bs];simp only[D7,A8,i4,simprocAttr,t1];refine X2 (by decide +kernel) (λj1 aL=>?_);rcases eF0.1 aL with rfl|aL
  .simp only[eY,simprocAttr];apply z6 (aV0 sp D (r.mono (b7 (n.trans aj))) O);rintro ue a1 ⟨d,cd⟩;rw[fi hR]at d;have Q:=aj.trans cd;refine⟨Q,?_⟩;refine X2 (by decide +kernel) (λj3 aM=>?_);rcases eF0.1 aM with rfl|aM
   .simp only[eY,simprocAttr];apply z6 (S8 sp a1 (r.mono (b7 (n.trans Q))) O);rintro uv a2 ⟨j,bF⟩;rw[fi hR]at j;have d:=A9.mono (b7 bF) d;have ah:=Q.trans bF;refine⟨ah,?_⟩;refine X2 (by decide +kernel) (λj5 aN=>?_);rcases eF0.1 aN with rfl|aN
    .simp only[eY,simprocAttr];refine B3 (S7 uv (b9 p).wv i a2 j om) (λa3 bG=>?_);have d:=A9.mono (b7 bG) d;have Z:=ah.trans bG;refine⟨Z,?_⟩;refine X2 (by decide +kernel) (λj7 aO=>?_);rcases eF0.1 aO with rfl|aO
     .simp only[eY,simprocAttr];apply z6 (aB5 ue (b9 p).we (ar4 (b9 p).wv i) vb lb a3 d (A9.mono (b7 (l.trans Z)) N) K M);rintro _ a4 ⟨m,q,V,o,rfl,⟨s,nV⟩,g,ce⟩;have aW:=Z.trans ce;refine⟨aW,?_⟩;obtain⟨bx,_⟩:=cw4 a4;have aZ:=o6.alloc a4 (.cells (Value.agg #[.slice none 0 0,.bool false]).cells TWy);have bl:=eH3 a4 (.cells (Value.agg #[.slice none 0 0,.bool false]).cells TWy);generalize ch:a4.alloc (.cells (Value.agg #[.slice none 0 0,.bool false]).cells TWy)=a5 at bx aZ bl;have bC:=aW.trans aZ;simp only[eY,simprocAttr,bx];exact⟨bC,_,_,_,_,_,rfl,rfl,bl,aW.size,s.ext aZ,λb J=>by have:=s.lt J;omega,g,bC⟩
     .obtain rfl:=eE7.1 aO;obtain⟨bz,_⟩:=cw4 a3;have a0:=o6.alloc a3 (.cells (Value.agg #[.slice none 0 0,.bool false]).cells TWy);have I:=eH3 a3 (.cells (Value.agg #[.slice none 0 0,.bool false]).cells TWy);generalize ci:a3.alloc (.cells (Value.agg #[.slice none 0 0,.bool false]).cells TWy)=a6 at bz a0 I;have aX:=Z.trans a0;have d:=A9.mono (b7 a0) d;have cE:=(eD5.1 I).1;simp only[eY,simprocAttr,bz];refine⟨aX,?_⟩;simp only[eY,simprocAttr];apply z6 (aB5 ue (b9 p).we (ar4 (b9 p).wv i) vb lb a6 d (A9.mono (b7 (l.trans aX)) N) K M);rintro _ a7 ⟨m,q,V,o,rfl,⟨s,nV⟩,g,bH⟩;have bD:=aX.trans bH;have bS:=(bH.block _ (eD5.1 I).1 id).trans I;refine⟨bD,?_⟩;simp only[eY,simprocAttr];exact⟨_,_,_,_,_,rfl,rfl,bS,Z.size,s,λb J h=>by subst h;have:=nV _ J;have:=(eD5.1 I).1;omega,g,bD⟩
    .obtain rfl:=eE7.1 aN;obtain⟨bA,_⟩:=cw4 a2;have ak:=o6.alloc a2 (.cells (Value.agg #[.slice none 0 0,.bool false]).cells TWy);have aI:=eH3 a2 (.cells (Value.agg #[.slice none 0 0,.bool false]).cells TWy);generalize cj:a2.alloc (.cells (Value.agg #[.slice none 0 0,.bool false]).cells TWy)=a8 at bA ak aI;have bE:=ah.trans ak;have d:=A9.mono (b7 ak) d;have j:=A9.mono (b7 ak) j;simp only[eY,simprocAttr,bA];refine⟨bE,?_⟩;simp only[eY,simprocAttr];refine B3 (S7 uv (b9 p).wv i a8 j om) (λa9 ba=>?_);have d:=A9.mono (b7 ba) d;have aY:=bE.trans ba;have aJ:=(ba.block _ (eD5.1 aI).1 id).trans aI;refine⟨aY,?_⟩;simp only[eY,simprocAttr];apply z6 (aB5 ue (b9 p).we (ar4 (b9 p).wv i) vb lb a9 d (A9.mono (b7 (l.trans aY)) N) K M);rintro _ cq ⟨m,q,V,o,rfl,⟨s,nV⟩,g,aD⟩;have ay:=aY.trans aD;have bi:=(aD.block _ (eD5.1 aJ).1 id).trans aJ;refine⟨ay,?_⟩;simp only[eY,simprocAttr];exact⟨_,_,_,_,_,rfl,rfl,bi,ah.size,s,λb J h=>by subst h;have:=nV _ J;have:=(eD5.1 aJ).1;omega,g,ay⟩
   .obtain rfl:=eE7.1 aM;obtain⟨aq,_⟩:=cw4 a1;have aa:=o6.alloc a1 (.cells (Value.agg #[.slice none 0 0,.bool false]).cells TWy);have E:=eH3 a1 (.cells (Value.agg #[.slice none 0 0,.bool false]).cells TWy);generalize bZ:a1.alloc (.cells (Value.agg #[.slice none 0 0,.bool false]).cells TWy)=bL at aq aa E;have S:=Q.trans aa;have d:=A9.mono (b7 aa) d;simp only[eY,simprocAttr,aq];refine⟨S,?_⟩;simp only[eY,simprocAttr];apply z6 (S8 sp bL (r.mono (b7 (n.trans S))) O);rintro uv bM ⟨j,ab⟩;rw[fi hR]at j;have d:=A9.mono (b7 ab) d;have az:=S.trans ab;have al:=(ab.block _ (eD5.1 E).1 id).trans E;refine⟨az,?_⟩;simp only[eY,simprocAttr];refine B3 (S7 uv (b9 p).wv i bM j om) (λbN ac=>?_);have d:=A9.mono (b7 ac) d;have U:=az.trans ac;have F:=(ac.block _ (eD5.1 al).1 id).trans al;refine⟨U,?_⟩;simp only[eY,simprocAttr];apply z6 (aB5 ue (b9 p).we (ar4 (b9 p).wv i) vb lb bN d (A9.mono (b7 (l.trans U)) N) K M);rintro _ cr ⟨m,q,V,o,rfl,⟨s,nV⟩,g,aE⟩;have aA:=U.trans aE;have bj:=(aE.block _ (eD5.1 F).1 id).trans F;refine⟨aA,?_⟩;simp only[eY,simprocAttr];exact⟨_,_,_,_,_,rfl,rfl,bj,Q.size,s,λb J h=>by subst h;have:=nV _ J;have:=(eD5.1 F).1;omega,g,aA⟩
  .obtain rfl:=eE7.1 aL;obtain⟨ar,_⟩:=cw4 D;have aF:=o6.alloc D (.cells (Value.agg #[.slice none 0 0,.bool false]).cells TWy);have G:=eH3 D (.cells (Value.agg #[.slice none 0 0,.bool false]).cells TWy);generalize b0:D.alloc (.cells (Value.agg #[.slice none 0 0,.bool false]).cells TWy)=bO at ar aF G;have W:=aj.trans aF;simp only[eY,simprocAttr,ar];refine⟨W,?_⟩;simp only[eY,simprocAttr];apply z6 (aV0 sp bO (r.mono (b7 (n.trans W))) O);rintro ue bP ⟨d,aG⟩;rw[fi hR]at d;have X:=W.trans aG;have am:=(aG.block _ (eD5.1 G).1 id).trans G;refine⟨X,?_⟩;simp only[eY,simprocAttr];apply z6 (S8 sp bP (r.mono (b7 (n.trans X))) O);rintro uv bQ ⟨j,ad⟩;rw[fi hR]at j;have d:=A9.mono (b7 ad) d;have aB:=X.trans ad;have an:=(ad.block _ (eD5.1 am).1 id).trans am;refine⟨aB,?_⟩;simp only[eY,simprocAttr];refine B3 (S7 uv (b9 p).wv i bQ j om) (λbR ae=>?_);have d:=A9.mono (b7 ae) d;have Y:=aB.trans ae;have H:=(ae.block _ (eD5.1 an).1 id).trans an;refine⟨Y,?_⟩;simp only[eY,simprocAttr];apply z6 (aB5 ue (b9 p).we (ar4 (b9 p).wv i) vb lb bR d (A9.mono (b7 (l.trans Y)) N) K M);rintro _ ct ⟨m,q,V,o,rfl,⟨s,nV⟩,g,aH⟩;have aC:=Y.trans aH;have bk:=(aH.block _ (eD5.1 H).1 id).trans H;refine⟨aC,?_⟩;simp only[eY,simprocAttr];exact⟨_,_,_,_,_,rfl,rfl,bk,aj.size,s,λb J h=>by subst h;have:=nV _ J;have:=(eD5.1 H).1;omega,g,aC⟩
 rintro f5 w5 h3 ⟨gb,m,q,V,o,h7,bU,hc,b1,s,nV,g,b8⟩;have e3:=h3 3 dG;obtain⟨w6,r1,r2,r3⟩:=ad2 (P:=Tryz.prog) (T:=TWy) (cs:=#[m,.bool q]) hc by0 (by rw[aX1];rfl) (by rw[aX1];rfl) (cq7 s.isS _);have bu:o6 D w6:=t8.ext_of b8 r3 λb J=>by rw[J];exact b1
 have cc:=s.mod r3 nV;have aT:=o6.drew w6;have B:=n.trans (bu.trans aT);have cg:w6.drew.heap[gb]?=some (.cells #[m,.bool q] TWy (0,0)):=r2;have aU:=cc.ext aT;have bq:=aB2 br i;obtain⟨aQ,⟨f,y,rfl,_,hG⟩,_,bX,_⟩:=g;obtain⟨L,eL,hL⟩:=dL0 hR O bq (eH0 f (eE7.2 rfl)) hG;generalize ar4 (b9 p).wv i=a at aQ eL;have aP:gb<w6.drew.heap.size:=(eD5.1 cg).1;have aK:=aU.rw_ (L4 _);have b3:vlen m=f.length+1:=by rw[s.vlen];simp
 have bp:=s.vcap;rw[eD4,eG3]at bp;have b4:IntKind.i64.wrap (((f.length+1:Nat):Int)-1)=(f.length:Int):=by rw[N7 _ (by simp at bX;omega)];omega
 have d1:decide ((1:Int)<=(vcap m:Int))=true:=by simp only[eH1];omega
 have d2:decide ((f.length:Int)<=((f.length+1:Nat):Int))=true:=by simp only[eH1];omega
 have d3:decide (((f.length+1:Nat):Int)<=(vcap m:Int))=true:=by simp only[eH1];omega
 have bw:A9.sz Vx=4:=rfl;have rA:R (n8 w6.drew) (reS m 0 1 4) [a]:=by
  have h:=aK.pre (k:=1) dG;have e:(f++[y]).take 1=[a]:=by
   rw[eD9 dG,eN9,eL4];rw[eD1 dG]at aQ;rw[eF3 aQ]
  rwa [e,bw]at h
 have rB:R (n8 w6.drew) (reS m f.length (f.length+1) 4) [y]:=by
  have h:=aK.last
  rwa [bw]at h
 generalize bt:w6.drew=w8 at B cg aU aP aK aT rA rB;have k1:J4 Tryz.prog (λC=>o6 w8 C) 35 ⟨gb,0,none⟩ m:=sdx λC h=>F9 (P:=Tryz.prog) (u:=m) (i:=0) ((h.block gb aP id).trans cg) rfl Z4;have t2:=av (o6 w8) w8 (t8.refl _) λC h=>b7 (B.trans h);simp only[eY,simprocAttr,h7,bU,r1];refine bj3 [7] (o6 w8) 17 (A8 [0,1,2,3,4,5,6,7,8,9,10,11,12,13,14,15,16]) (λf' C=>∃ul,f' 8=ul/\f' 9 = .int .i64 0/\R (n8 C) ul L/\L.length<=480000/\o6 w8 C) (by decide +kernel) (by decide +kernel) (by rw[bt];exact t8.refl _) ?_ ?_
 .rw[bt];simp only[D7,A8,i4,n9,G7,simprocAttr,e3,h7,t2,k1,s.isS,b3,b4,d1,d2,d3];apply z6 (ab9 sp _ _ [a] [y] w8 (r.mono (b7 B)) O rA rB dG dG);rintro _ wC ⟨ul,rfl,rl,nl,bv⟩;rw[eL]at rl nl;simp only[eL];refine⟨bv,?_⟩;simp only[eY,simprocAttr];exact⟨_,tt,tt,rl,nl,bv⟩
 rintro f9 w9 bV ⟨ul,g8,g9,rl,nl,aS⟩;have g7:=bV 7 dG;have lE:=F9 (P:=Tryz.prog) (t:=35) (u:=m) (i:=0) ((aS.block gb aP id).trans cg) rfl Z4;simp only[fe,simprocAttr,g7,h7,g8,g9,lE];refine B3 (ah8 m ul (f++[y]) L w9 ((aU.ext aS).rw_ (L4 _)) rl om om) (λwF ca=>?_);have bn:((f++[y]).all λx=>L.contains x)=true:=eJ1.2 λx hx=>eE6.2 (hL x hx);simp only[i4,simprocAttr,bn];exact o8 Tryz.results5 ⟨rfl,z.trans ((B.trans aS).trans ca)⟩
end Go.Proofs.YtpebpfiglfmegaaGreat
namespace Go.Proofs.YtpebpfiglfmegaaGreat.chopWay
open Go Go.ChangeShapes Go.WideShapes Go.ChangeAt Go.RowKit
def aI5:laidOutB Tryz.prog=true:=kr
def Z1:∀t∈Tryz.f5.params.toList,Tryz.prog.readableRec t=true/\t<Tryz.prog.types.size:=by
 rw[Tryz.params5];decide +kernel
set_option maxRecDepth 100000 in
def lifted(w:Os)(c:w.Started)(H:Type)(enc:TypeId×Value->H):
  ReturnsInHanded {} Tryz.checked w 5 .any (Rows.chopWaySpec.pre6 enc Tryz.prog Tryz.f5 Rows.chopWayRow.domain false) (Rows.chopWaySpec.post enc Tryz.prog Tryz.f5 false true false false):=by
 refine returnsInHanded_of_change (C:=Tryz.checked) own c kr Tryz.func5
  (ChangeSpec.witness6 (enc:=enc) (C:=Tryz.checked) false ⟨#[],#[.agg #[.slice none 0 0,.slice none 0 0],.int .i64 0,.slice none 0 0],[]⟩ 8 kr kr kr kr) ?_
 intro W d args A gs i b r s _;have a:∀(j:Nat) t v,Tryz.f5.params[j]?=some t->args[j]?=some v->Value.okWide Tryz.prog W .any d t v:=b;have h:=r;obtain⟨p,q,f,J,rfl,L,N⟩:=r;have k:DataW.TrodAll enc Tryz.prog W 0 (λ_=>true) true Tryz.f5.params.toList args.toList A p:=f;have g:=k;rw[Tryz.params5]at k a;obtain⟨x,S,Z,B,p0,q0,l,rfl,rfl,F,P⟩:=trodAll_cons k;obtain⟨y,T,d1,D,p1,q1,rfl,rfl,rfl,G,Q⟩:=trodAll_cons P;obtain⟨o,U,d2,E,p2,q2,rfl,rfl,rfl,I,R⟩:=trodAll_cons Q;obtain⟨rfl,rfl,rfl⟩:=trodAll_nil R;obtain rfl:args=#[x,y,o]:=by cases args;simp_all
 obtain⟨rfl,rfl⟩:=trodVars_none J;obtain⟨V,m⟩:=aZ1 F;obtain⟨z,rfl,rfl,rfl,w1⟩:=open_int Tryz.underlying3 (a 1 3 y rfl rfl) G;obtain⟨X,n,w2⟩:=dt2 Tryz.underlying45 Tryz.underlying3 kr (a 2 45 o rfl rfl) I;clear f b;simp only[List.append_nil]at h g;refine(cm0 x V z o X W m n).mono λe Y ⟨u,K,O,M⟩=>?_;subst K;subst O;exact⟨_,rfl,aB3 aI5 Z1 rfl h g rfl rfl (λ_ _ _=>(trodAll_cons_mk (shut_bool Tryz.underlying4 _) trodAll_mk0)) M⟩
def kM:mapsRowed Tryz.prog=true:=kr
def kI:(Rows.chopWayRow.inPlace==Tryz.prog.inPlace 5)=true:=kr
def kU:(Rows.chopWayRow.unfollowed==Tryz.prog.unfollowed 5)=true:=kr
def kR:(Rows.chopWayRow.recurses==Tryz.prog.recurses 5)=true:=kr
def kN:(Rows.chopWayRow.named==Tryz.prog.varsNamed 5)=true:=kr
def kS:Tryz.prog.stopsHeard=true:=kr
def kE:Tryz.prog.mayEnter=true:=kr
def kL:(Rows.chopWayRow.lifted==Tryz.prog.liftsFinal)=true:=kr
def kK:(Tryz.prog.make==some Rows.chopWayRow.make)=true:=kr
def closed:joinedFacts Tryz.prog 5 Tryz.f5 Rows.chopWaySpec Rows.chopWayRow=true:=by
 unfold joinedFacts;rw[aI5,kM,kI,kU,kR,kN,kS,kE,kL,kK]
 kernel_rfl
def bn2:Rows.chopWayRow.holds Tryz.pinned (OpenSpec.ofChange Rows.chopWaySpec):=
 OpenClaim.holds_of_wide 5 Tryz.f5 rfl rfl rfl rfl rfl rfl rfl ⟨rfl,rfl,rfl,rfl,rfl⟩ rfl rfl rfl rfl rfl kr Tryz.func5 closed
  (of_decide_eq_true kr) (by unfold Func.isWrapper;first|(rw[fi (by decide +kernel)];kernel_rfl)|(rw[fh (by decide +kernel)];exact⟨rfl,rfl⟩))
  (λc a H b _=>lifted c a H b)
theorem proved:Rows.ChopWaySaid:=bn2
end Go.Proofs.YtpebpfiglfmegaaGreat.chopWay

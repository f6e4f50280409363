/- sliceLevel.proved: for every input the law returns true. No condition. -/
import Derived.Test.YtggahhenbbgffaaGreatRows
import Derived.Test.YtggahhenbbgffaaGreatZ7
import Derived.Test.YtggahhenbbgffaaGreatZ8
set_option maxRecDepth 1000000
set_option maxHeartbeats 8000000
set_option linter.unusedVariables false
set_option linter.unusedSimpArgs false
set_option linter.unnecessarySimpa false
set_option linter.defProp false
namespace Go.Proofs.YtggahhenbbgffaaGreat
open Go 
section
variable {p:Pg} {a b:Vx} {l:List Int}
def db5(K:Known p)(hb:b∈(i4 p).wv):(⟨b.proc,1,0,e0⟩:Vx)∈(i4 p).wv:=by
 obtain⟨i,a,c,d,_⟩:=aM9 K hb;exact bU8 K a c (N4.2 (.inl (by rw[M3 a,d])))
def cR8(K:Known p)(h:bE5 p a b=true):bd2 p [1,2,3] a b:=by
 unfold bE5 at h;obtain⟨x,d,c⟩:=(R1 (aF0 (ag5 K)) (by rw[ay6,G2])).1 h;obtain⟨_,hm⟩:=ay4.1 d;simp only[eh2]at hm;subst hm;exact c
def co2(f:E0 p=true)(hw:B7 p<=1000000)(hb:b∈(i4 p).wv)(h:N8 (i4 p).wv [b]=some l):
  (aQ9 p a b=true->a∈E8 (i4 p).wv ((i4 p).backB l))/\(⟨b.proc,1,0,e0⟩:Vx)∈E8 (i4 p).wv ((i4 p).backB l) /\
  (∀e∈(i4 p).we,e.kind=4->e.dst.proc=b.proc->e.src∈E8 (i4 p).wv ((i4 p).backB l)):=by
 have c:=G6 f;have K:=c.toKnown;refine⟨λd=>?_,(ak8 c hw h).2 ⟨db5 K hb,b,by simp,bQ2 (bO9 c hw hb)⟩,λe i m g=>(ak8 c hw h).2 ⟨(cq3 f hw i).1,b,by simp,da5 c hw i m hb ?_⟩⟩
 .unfold aQ9 at d;simp only[eh5,ei8]at d;exact(ak8 c hw h).2 ⟨d.2.1,b,by simp,bQ2 (cR8 K d.2.2.2)⟩
 .rcases aG3 f hw i with⟨_,_,n⟩|⟨v,j⟩
  .omega
  .rcases j.kind with⟨_,_,_,k⟩|⟨o,_⟩|⟨q,_⟩
   .rw[k]at g ⊢;simp only at g;rw[g]
   .omega
   .omega
end
def bw2(v:Value)(p:Pg)(i k:Int)(w:World)(hv:SV (m8 w) v p):o9 Tryz.prog 8 #[v,.int .i64 i,.int .i64 k] w λu w'=>(u = .bool true/\o6 w w'):=by
 refine p9 [v,.int .i64 i,.int .i64 k] Tryz.func8 rfl ?_;obtain⟨c,w1,aO,S,ak⟩:=Q4 hv (n7 _);obtain⟨sp,m,b,_⟩:=ak.pg_v;simp only[i5,n9,simprocAttr,aO];refine B2 (az5 w1) (λw2 T=>?_);simp only[i5,n9,simprocAttr,b w2 (b7 T)];refine B2 (aN3 sp p w2 (m.mono (b7 T))) (λw3 aU=>?_);have h:=T.trans aU;rcases ef2 (decide (B7 p<=20000))with h1|h1;rotate_left
 .simp only[i5,n9,simprocAttr,h1];exact o7 Tryz.results8 ⟨rfl,S.trans h⟩
 have C:B7 p<=1000000:=ef9 (ef3 h1) (by decide);simp only[i5,n9,simprocAttr,h1,b w3 (b7 h)];refine B2 (aR9 sp 20 w3 (m.mono (b7 h)) C) (λw4 aV=>?_);have j:=h.trans aV;rcases ef2 (E0 p&&decide (((bB0 p:Nat):Int)<=20))with h2|h2;rotate_left
 .simp only[i5,n9,simprocAttr,h2];exact o7 Tryz.results8 ⟨rfl,S.trans j⟩
 have hR:E0 p=true:=by rw[eh5]at h2;exact h2.1
 have hr:=G6 hR;have a7:=at1 hr C;have F:=ag5 hr.toKnown;simp only[i5,n9,simprocAttr,h2,b w4 (b7 j)];refine t8 (R7 sp w4 (m.mono (b7 j)) C) ?_;rintro uv w5 ⟨Y,aW⟩;rw[if_pos hR]at Y;have aw:=j.trans aW;simp only[i5,simprocAttr];refine B2 (V0 uv (i4 p).wv i w5 Y (by omega)) (λw6 ax=>?_);simp only[i5,simprocAttr];refine B2 (V0 uv (i4 p).wv k w6 (A3.mono (b7 ax) Y) (by omega)) (λw7 aX=>?_);have aR:=aR2 F i;have R:=aR2 F k;generalize ab6 (i4 p).wv i=V at aR;generalize ab6 (i4 p).wv k=W at R;obtain⟨dv,dw,wz,wa,wb,w8,ag,ah,aq,ar,aY,aj,o⟩:=vx2 V W w7;obtain⟨uV,hV,aD,bq⟩:=aj.vx_v;obtain rfl:=hV.N;obtain⟨uW,hW,aE,br⟩:=o.vx_v;obtain rfl:=hW.N;have s:=((aw.trans ax).trans aX).trans aY;obtain⟨u9,w9,q9,r9,aA⟩:=bf6 W w8;obtain⟨lW,an⟩:=dh6 hr C R;have aN:=bx4 hR an;obtain⟨I,J,A⟩:=co2 (a:=V) hR C R an;have bl:=bp6 hr C;simp only[i5,simprocAttr,ag,ah,aq,ar,b w8 (b7 s),aE w8 (n7 _),q9];refine t8 (K6 sp u9 [W] w9 (m.mono (b7 (s.trans aA))) C r9 (by simp)) ?_;rintro _ wA ⟨ub,rfl,Z,N,aZ⟩;rw[aN]at Z N;simp only[]at Z N;generalize E8 (i4 p).wv ((i4 p).backB lW)=E at Z N I J A;have q:E.length<=1000000000:=by omega
 have g:=aA.trans aZ;have l:=s.trans g;simp only[i5,simprocAttr,b wA (b7 l),aD wA (b7 g),aE wA (b7 g)];refine B2 (cL7 sp V W wA (m.mono (b7 l)) C) (λwB D=>?_);have a2:=aD wB (b7 (g.trans D));generalize hK:CW Tryz.prog _ (bk5 _ _ _)=K;have L:∀(f:Fr) (w':World),o6 wA w'->f 3 = .pointer (some c)->f 9 = .pointer (some dw)->f 10=ub->K f w':=by
  intro f wC y g3 g9 aL;rw[<-hK];have G:=l.trans y;have ay:=g.trans y;simp only[i5,simprocAttr,g3,b wC (b7 G)];refine t8 (aK3 sp wC (m.mono (b7 G)) C) ?_;rintro ue wD ⟨X,aC⟩;rw[if_pos hR]at X;simp only[i5,simprocAttr];refine t8 (cT7 ue (i4 p).we 4 wD X (by omega)) ?_;rintro uf wE ⟨ao,U⟩;have hF:=ao.rw_ (b7 U);have aQ:((i4 p).we.filter λe=>decide (e.kind=4)).length<=1000000000:=ef9 (eh9 _ _) (by omega);have hm:∀e∈((i4 p).we.filter λe=>decide (e.kind=4)),e.dst.proc=W.proc->e.src∈E:=λe he=>by
   rw[eh8,ei8]at he;exact A e he.1 he.2
  generalize((i4 p).we.filter λe=>decide (e.kind=4))=L4 at hF aQ hm;clear ao X A;have az:=(ay.trans aC).trans U;have aB:=(y.trans aC).trans U;simp only[i5,n9,simprocAttr,hF.isS,hF.vlen];refine A6 [9,10,49,50] (σ:=Nat) (λk f w'=>f 51 = .int .i64 k/\k<=L4.length/\o6 wE w') (λk=>L4.length-k) 0 ?_ ?_
  .exact⟨rfl,eg3 _,o8.refl _⟩
  rintro k f wF ⟨e9,M,ac,aK,_⟩ ⟨B,bm,z⟩;rw[g9]at e9;rw[aL]at M;have H:=az.trans z;have x:=aB.trans z;simp only[i5,n9,simprocAttr,B,aK];refine A4 (λhc=>?_) (λhc=>?_)
  .have Q:k<L4.length:=by simpa using hc
   have al:=hF.inS Q;obtain⟨sv,au,O⟩:=F5 (P:=Tryz.prog) (t:=66) hF (b7 z) (ef1 Q) bv5 bv8 aY1 an3;rw[an3]at O;have am:=hm _ (eg2 Q);generalize L4[k]=e at au am;obtain rfl:=au.N;obtain⟨d,wz,wG,af,ap,n,aM⟩:=cJ8 (SV.ofN (m8 wF) e) (n7 _);obtain⟨aS,aT,_⟩:=aM.eg;have t1:=(aT.vx.1 wG (n7 _)).1;have t2:=(o.vx.1 wG (b7 (H.trans n))).1;rcases ef2 (decide (e.dst.proc=W.proc))with hp|hp;rotate_left
   .simp only[i5,n9,y4,simprocAttr,B,e9,ac,al,O,af,ap,t1,t2,hp];exact T4 (k+1) (z.trans n)
   obtain⟨sv,av,a1,_⟩:=aS.vx_v;obtain rfl:=av.N;simp only[i5,n9,y4,simprocAttr,B,e9,M,ac,al,O,af,ap,t1,t2,hp,a1 wG (n7 _)];refine B2 (ae1 ub E e.src wG (A3.mono (b7 (x.trans n)) Z) q) (λwH a0=>?_);have r:E.contains e.src=true:=eg7.2 (am (ef3 hp));simp only[i5,n9,simprocAttr,r,B];exact T4 (k+1) ((z.trans n).trans a0)
  have r:E.contains (⟨W.proc,1,0,e0⟩:Vx)=true:=eg7.2 J;simp only[i5,n9,simprocAttr,e9,M,(o.vx.1 wF (b7 H)).1,cN5 W.proc 1];refine B2 (ae1 ub E _ wF (A3.mono (b7 x) Z) q) (λwG n=>?_);simp only[i5,simprocAttr,r];exact o7 Tryz.results8 ⟨rfl,((S.trans l).trans x).trans n⟩
 rcases ef2 (aQ9 p V W)with hl|hl;rotate_left
 .simp only[i5,simprocAttr,hl];refine L _ _ D ?_ ?_ ?_<;>simp only[B3,simprocAttr]
 have r:E.contains V=true:=eg7.2 (I hl);simp only[i5,simprocAttr,hl,a2];refine B2 (ae1 ub E V wB (A3.mono (b7 D) Z) q) (λwC y=>?_);simp only[i5,n9,simprocAttr,r];refine L _ _ (D.trans y) ?_ ?_ ?_<;>simp only[B3,simprocAttr]
end Go.Proofs.YtggahhenbbgffaaGreat
namespace Go.Proofs.YtggahhenbbgffaaGreat.sliceLevel
open Go Go.ChangeShapes Go.WideShapes Go.ChangeAt Go.RowKit
def bf3:laidOutB Tryz.prog=true:=by kernel_rfl
def al8:∀t∈Tryz.f8.params.toList,Tryz.prog.readableRec t=true/\t<Tryz.prog.types.size:=by
 rw[Tryz.params8];decide +kernel
set_option maxRecDepth 100000 in
def lifted(r:Os)(c:r.Started)(H:Type)(enc:TypeId×Value->H):
  ReturnsInHanded {} Tryz.checked r 8 .any (Rows.sliceLevelSpec.pre6 enc Tryz.prog Tryz.f8 Rows.sliceLevelRow.domain false) (Rows.sliceLevelSpec.post enc Tryz.prog Tryz.f8 false true false false):=by
 refine returnsInHanded_of_change (C:=Tryz.checked) own c (by kernel_rfl) Tryz.func8
  (ChangeSpec.witness6 (enc:=enc) (C:=Tryz.checked) false ⟨#[],#[.agg #[.slice none 0 0,.slice none 0 0],.int .i64 0,.int .i64 0],[]⟩ 8 (by kernel_rfl) (by kernel_rfl) (by kernel_rfl) (by kernel_rfl)) ?_
 intro W d args A gs i b n o _;have a:∀(j:Nat) t v,Tryz.f8.params[j]?=some t->args[j]?=some v->Value.okWide Tryz.prog W .any d t v:=b;have h:=n;obtain⟨p,q,f,J,rfl,L,N⟩:=n;have k:DataW.TrodAll enc Tryz.prog W 0 (λ_=>true) true Tryz.f8.params.toList args.toList A p:=f;have g:=k;rw[Tryz.params8]at k a;obtain⟨s,S,Y,B,p0,q0,l,rfl,rfl,F,P⟩:=trodAll_cons k;obtain⟨w,T,Z,D,p1,q1,rfl,rfl,rfl,G,Q⟩:=trodAll_cons P;obtain⟨x,U,d2,E,p2,q2,rfl,rfl,rfl,I,R⟩:=trodAll_cons Q;obtain⟨rfl,rfl,rfl⟩:=trodAll_nil R;obtain rfl:args=#[s,w,x]:=by cases args;simp_all
 obtain⟨rfl,rfl⟩:=trodVars_none J;obtain⟨V,m⟩:=bA3 F;obtain⟨y,rfl,rfl,rfl,w1⟩:=open_int Tryz.underlying3 (a 1 3 w rfl rfl) G;obtain⟨z,rfl,rfl,rfl,w2⟩:=open_int Tryz.underlying3 (a 2 3 x rfl rfl) I;clear f b;simp only[List.append_nil]at h g;refine(bw2 s V y z W m).mono λe X ⟨u,K,O,M⟩=>?_;subst K;subst O;exact⟨_,rfl,aR3 bf3 al8 rfl h g rfl rfl (λ_ _ _=>(trodAll_cons_mk (shut_bool Tryz.underlying4 _) trodAll_mk0)) M⟩
def kM:mapsRowed Tryz.prog=true:=by kernel_rfl
def kI:(Rows.sliceLevelRow.inPlace==Tryz.prog.inPlace 8)=true:=by kernel_rfl
def kU:(Rows.sliceLevelRow.unfollowed==Tryz.prog.unfollowed 8)=true:=by kernel_rfl
def kR:(Rows.sliceLevelRow.recurses==Tryz.prog.recurses 8)=true:=by kernel_rfl
def kN:(Rows.sliceLevelRow.named==Tryz.prog.varsNamed 8)=true:=by kernel_rfl
def kS:Tryz.prog.stopsHeard=true:=by kernel_rfl
def kE:Tryz.prog.mayEnter=true:=by kernel_rfl
def kL:(Rows.sliceLevelRow.lifted==Tryz.prog.liftsFinal)=true:=by kernel_rfl
def kK:(Tryz.prog.make==some Rows.sliceLevelRow.make)=true:=by kernel_rfl
def closed:joinedFacts Tryz.prog 8 Tryz.f8 Rows.sliceLevelSpec Rows.sliceLevelRow=true:=by
 unfold joinedFacts;rw[bf3,kM,kI,kU,kR,kN,kS,kE,kL,kK]
 kernel_rfl
def bZ6:Rows.sliceLevelRow.holds Tryz.pinned (OpenSpec.ofChange Rows.sliceLevelSpec):=
 OpenClaim.holds_of_wide 8 Tryz.f8 rfl rfl rfl rfl rfl rfl rfl ⟨rfl,rfl,rfl,rfl,rfl⟩ rfl rfl rfl rfl rfl (by kernel_rfl) Tryz.func8 closed
  (of_decide_eq_true (by kernel_rfl)) (by unfold Func.isWrapper;first|(rw[if_pos (by decide +kernel)];kernel_rfl)|(rw[if_neg (by decide +kernel)];exact⟨rfl,rfl⟩))
  (λc a H b _=>lifted c a H b)
theorem proved:Rows.SliceLevelSaid:=bZ6
end Go.Proofs.YtggahhenbbgffaaGreat.sliceLevel

/- chopEdge.proved: for every input the law returns true. No condition. -/
import Derived.Test.YtpebpfiglfmegaaGreatRows
import Derived.Test.YtpebpfiglfmegaaGreatZ7
import Derived.Test.YtpebpfiglfmegaaGreatZ8
set_option maxRecDepth 1000000
set_option maxHeartbeats 8000000
set_option linter.unusedVariables false
set_option linter.unusedSimpArgs false
set_option linter.unnecessarySimpa false
set_option linter.defProp false
namespace Go.Proofs.YtpebpfiglfmegaaGreat
open Go 
def bM6(v:Value)(p:Pg)(n:Int)(w:World)(hv:SV (i5 w) v p):y5 Tryz.prog 6 #[v,.int .i64 n] w λu w'=>(u = .bool true/\o6 w w'):=by
 refine z6 [v,.int .i64 n] Tryz.func6 rfl ?_;obtain⟨c,w1,ap,m,M⟩:=U2 hv (n7 _);obtain⟨C,h,b,_⟩:=M.pg_v;simp only[eH,simprocAttr,ap];refine B6 (as6 w1) (λw2 y=>?_);simp only[eH,simprocAttr,b w2 (b7 y)];refine B6 (aQ8 C p w2 (h.mono (b7 y))) (λw3 ay=>?_);have f:=y.trans ay;rcases ej1 (decide (C4 p<=20000))with h1|h1;rotate_left
 .simp only[eH,simprocAttr,h1];exact o8 Tryz.results6 ⟨rfl,m.trans f⟩
 have l:C4 p<=1000000:=ej7 (ej3 h1) dQ;simp only[eH,simprocAttr,h1,b w3 (b7 f)];refine B6 (aF0 C 20 w3 (h.mono (b7 f)) l) (λw4 az=>?_);have g:=f.trans az;rcases ej1 (D4 p&&decide (((bz8 p:Nat):Int)<=20))with h2|h2;rotate_left
 .simp only[eH,simprocAttr,h2];exact o8 Tryz.results6 ⟨rfl,m.trans g⟩
 have G:D4 p=true:=by rw[el3]at h2;exact h2.1
 have hr:=E9 G;have aG:=ai3 hr l;have aZ:=bu2 hr l;have T:=O1 hr.toKnown;simp only[eH,simprocAttr,h2,b w4 (b7 g)];refine y4 (aN7 C w4 (h.mono (b7 g)) l) ?_;rintro ue w5 ⟨ag,aA⟩;rw[if_pos G]at ag;have i:=g.trans aA;simp only[i4,simprocAttr,b w5 (b7 i)];refine y4 (R9 C w5 (h.mono (b7 i)) l) ?_;rintro uv w6 ⟨ah,X⟩;rw[if_pos G]at ah;simp only[i4,simprocAttr];refine B6 (P6 uv (b9 p).wv n w6 ah om) (λw7 Y=>?_);have S:=au0 T n;generalize am0 (b9 p).wv n=V at S;obtain⟨d,wz,w8,ao,av,Z,J⟩:=aO6 (SV.ofN (i5 w7) V) (n7 _);obtain⟨uV,hV,o,_⟩:=J.vx_v;obtain rfl:=hV.N;have j:=((i.trans X).trans Y).trans Z;obtain⟨u1,w9,q1,r1,aa⟩:=ab1 V w8;obtain⟨u2,wA,q2,r2,ab⟩:=ab1 V w9;have D:=aa.trans ab;obtain⟨L,eL,mL⟩:=cQ2 G l S;simp only[i4,simprocAttr,ao,av,b w8 (b7 j),o w8 (n7 _),q1,o w9 (b7 aa),q2];refine y4 (X6 C u1 u2 [V] [V] wA (h.mono (b7 (j.trans D))) l (A6.mono (b7 ab) r1) r2 dP dP) ?_;rintro _ wB ⟨ul,rfl,rl,nl,aB⟩;rw[eL]at rl nl;simp only[]at rl nl;have r:=D.trans aB;have hc:=ek7.2 mL;simp only[i4,simprocAttr,o wB (b7 r)];refine B6 (am2 ul L V wB rl om) (λwC z=>?_);have E:=r.trans z;have q:=j.trans E;have a:=A6.mono (b7 ((((X.trans Y).trans Z).trans r).trans z)) ag;have a:R (i5 wC) ue (b9 p).we:=a;rcases ej1 (decide (((b9 p).we.length:Int)=0))with h0|h0
 .simp only[eH,simprocAttr,hc,a.isS,a.vlen,h0,o wC (b7 E)];refine B6 (am2 ul L V wC (A6.mono (b7 z) rl) om) (λwD A=>?_);simp only[i4,simprocAttr,hc];exact o8 Tryz.results6 ⟨rfl,m.trans (q.trans A)⟩
 have ar:0<(b9 p).we.length:=by have:=ej6 h0;omega
 simp only[eH,simprocAttr,hc,a.isS,a.vlen,h0];refine F6 (cc3 n ((b9 p).we.length:Int) wC om) ?_;obtain⟨K,hK,x⟩:=bi9 n _ ar;rw[hK];have N:=ej0 x;have Q:=ek0 x;have O:=a.inS x;obtain⟨se,U,af⟩:=H1 (P:=Tryz.prog) (t:=54) a (n7 _) N bL1 bL6 bm4 aw5;rw[aw5]at af;generalize(b9 p).we[K]=e at N Q U;obtain⟨dE,bp,wD,H,W,A,I⟩:=dA4 U (n7 _);obtain⟨hs,ht,_⟩:=I.eg;obtain⟨u3,aw,ldS,_⟩:=hs.vx_v;obtain rfl:=aw.N;obtain⟨u4,ax,ae,_⟩:=ht.vx_v;obtain rfl:=ax.N;obtain⟨L2,an,mS,mT⟩:=cQ0 G l Q;obtain⟨u5,wE,q5,r5,ac⟩:=ab1 e.src wD;obtain⟨u6,wF,q6,r6,ad⟩:=ab1 e.dst wE;have k:=q.trans A;have F:=ac.trans ad;simp only[i4,n9,A0,simprocAttr,O,af,H,W,b wD (b7 k),ldS wD (n7 _),q5,ae wE (b7 ac),q6];refine y4 (X6 C u5 u6 [e.src] [e.dst] wF (h.mono (b7 (k.trans F))) l (A6.mono (b7 ad) r5) r6 dP dP) ?_;rintro _ wG ⟨um,rfl,rm,nm,aC⟩;rw[an]at rm nm;simp only[]at rm nm;have s:=F.trans aC;have c1:=ek7.2 mS;have c2:=ek7.2 mT;simp only[eH,simprocAttr,ldS wG (b7 s)];refine B6 (am2 um L2 e.src wG rm om) (λwH B=>?_);simp only[eH,simprocAttr,c1,ae wH (b7 (s.trans B))];refine B6 (am2 um L2 e.dst wH (A6.mono (b7 B) rm) om) (λwI aD=>?_);simp only[i4,simprocAttr,c2];exact o8 Tryz.results6 ⟨rfl,m.trans (((k.trans s).trans B).trans aD)⟩
end Go.Proofs.YtpebpfiglfmegaaGreat
namespace Go.Proofs.YtpebpfiglfmegaaGreat.chopEdge
open Go Go.ChangeShapes Go.WideShapes Go.ChangeAt Go.RowKit
def bi3:laidOutB Tryz.prog=true:=kr
def an9:∀t∈Tryz.f6.params.toList,Tryz.prog.readableRec t=true/\t<Tryz.prog.types.size:=by
 rw[Tryz.params6];decide +kernel
set_option maxRecDepth 100000 in
def lifted(r:Os)(b:r.Started)(H:Type)(enc:TypeId×Value->H):
  ReturnsInHanded {} Tryz.checked r 6 .any (Rows.chopEdgeSpec.pre6 enc Tryz.prog Tryz.f6 Rows.chopEdgeRow.domain false) (Rows.chopEdgeSpec.post enc Tryz.prog Tryz.f6 false true false false):=by
 refine returnsInHanded_of_change (C:=Tryz.checked) own b kr Tryz.func6
  (ChangeSpec.witness6 (enc:=enc) (C:=Tryz.checked) false ⟨#[],#[.agg #[.slice none 0 0,.slice none 0 0],.int .i64 0],[]⟩ 8 kr kr kr kr) ?_
 intro W d args y T i a n o _;have c:∀(j:Nat) t v,Tryz.f6.params[j]?=some t->args[j]?=some v->Value.okWide Tryz.prog W .any d t v:=a;have h:=n;obtain⟨p,q,f,E,rfl,G,J⟩:=n;have k:DataW.TrodAll enc Tryz.prog W 0 (λ_=>true) true Tryz.f6.params.toList args.toList y p:=f;have g:=k;rw[Tryz.params6]at k c;obtain⟨s,N,R,z,U,X,l,rfl,rfl,B,L⟩:=trodAll_cons k;obtain⟨w,O,S,A,V,Y,rfl,rfl,rfl,D,M⟩:=trodAll_cons L;obtain⟨rfl,rfl,rfl⟩:=trodAll_nil M;obtain rfl:args=#[s,w]:=by cases args;simp_all
 obtain⟨rfl,rfl⟩:=trodVars_none E;obtain⟨P,m⟩:=bC9 B;obtain⟨x,rfl,rfl,rfl,Z⟩:=open_int Tryz.underlying3 (c 1 3 w rfl rfl) D;clear f a;simp only[List.append_nil]at h g;refine(bM6 s P x W m).mono λe Q ⟨u,F,K,I⟩=>?_;subst F;subst K;exact⟨_,rfl,aU2 bi3 an9 rfl h g rfl rfl (λ_ _ _=>(trodAll_cons_mk (shut_bool Tryz.underlying4 _) trodAll_mk0)) I⟩
def kM:mapsRowed Tryz.prog=true:=kr
def kI:(Rows.chopEdgeRow.inPlace==Tryz.prog.inPlace 6)=true:=kr
def kU:(Rows.chopEdgeRow.unfollowed==Tryz.prog.unfollowed 6)=true:=kr
def kR:(Rows.chopEdgeRow.recurses==Tryz.prog.recurses 6)=true:=kr
def kN:(Rows.chopEdgeRow.named==Tryz.prog.varsNamed 6)=true:=kr
def kS:Tryz.prog.stopsHeard=true:=kr
def kE:Tryz.prog.mayEnter=true:=kr
def kL:(Rows.chopEdgeRow.lifted==Tryz.prog.liftsFinal)=true:=kr
def kK:(Tryz.prog.make==some Rows.chopEdgeRow.make)=true:=kr
def closed:joinedFacts Tryz.prog 6 Tryz.f6 Rows.chopEdgeSpec Rows.chopEdgeRow=true:=by
 unfold joinedFacts;rw[bi3,kM,kI,kU,kR,kN,kS,kE,kL,kK]
 kernel_rfl
def cd2:Rows.chopEdgeRow.holds Tryz.pinned (OpenSpec.ofChange Rows.chopEdgeSpec):=
 OpenClaim.holds_of_wide 6 Tryz.f6 rfl rfl rfl rfl rfl rfl rfl ⟨rfl,rfl,rfl,rfl,rfl⟩ rfl rfl rfl rfl rfl kr Tryz.func6 closed
  (of_decide_eq_true kr) (by unfold Func.isWrapper;first|(rw[if_pos (by decide +kernel)];kernel_rfl)|(rw[if_neg (by decide +kernel)];exact⟨rfl,rfl⟩))
  (λc a H b _=>lifted c a H b)
theorem proved:Rows.ChopEdgeSaid:=cd2
end Go.Proofs.YtpebpfiglfmegaaGreat.chopEdge

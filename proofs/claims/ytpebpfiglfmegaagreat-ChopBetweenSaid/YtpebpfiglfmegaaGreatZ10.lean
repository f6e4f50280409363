/- chopBetween.proved: for every input the law returns true. No condition. -/
import Derived.Test.YtpebpfiglfmegaaGreatRows
import Derived.Test.YtpebpfiglfmegaaGreatZ8
import Derived.Test.YtpebpfiglfmegaaGreatZ9
set_option maxRecDepth 1000000
set_option maxHeartbeats 8000000
set_option linter.unusedVariables false
set_option linter.unusedSimpArgs false
set_option linter.unnecessarySimpa false
set_option linter.defProp false
namespace Go.Proofs.YtpebpfiglfmegaaGreat
open Go 
def by4(v:Value)(p:Pg)(i k:Int)(w:World)(hv:SV (n8 w) v p):p7 Tryz.prog 8 #[v,.int .i64 i,.int .i64 k] w λu w'=>(u = .bool true/\o6 w w'):=by
 apply y5 [v,.int .i64 i,.int .i64 k] Tryz.func8 rfl;obtain⟨c,w1,am,l,U⟩:=L3 hv (n7 _);obtain⟨M,f,a,_⟩:=U.pg_v;simp only[eQ,simprocAttr,am];refine B3 (aA1 w1) (λw2 H=>?_);simp only[eQ,simprocAttr,a w2 (b7 H)];refine B3 (az6 M p w2 (f.mono (b7 H))) (λw3 ar=>?_);have d:=H.trans ar;rcases eD2 (decide (C1 p<=20000))with h1|h1;rotate_left
 .simp only[eQ,simprocAttr,h1];exact o8 Tryz.results8 ⟨rfl,l.trans d⟩
 have G:C1 p<=1000000:=eD7 (eD3 h1) dR;simp only[eQ,simprocAttr,h1,a w3 (b7 d)];refine B3 (aL7 M 20 w3 (f.mono (b7 d)) G) (λw4 au=>?_);have e:=d.trans au;rcases eD2 (C8 p&&decide (((bi8 p:Nat):Int)<=20))with h2|h2;rotate_left
 .simp only[eQ,simprocAttr,h2];exact o8 Tryz.results8 ⟨rfl,l.trans e⟩
 have hR:C8 p=true:=by rw[eF1]at h2;exact h2.1
 have hr:=D6 hR;have aK:=ah0 hr G;have n:=J3 hr.toKnown;simp only[eQ,simprocAttr,h2,a w4 (b7 e)];apply z6 (S8 M w4 (f.mono (b7 e)) G);rintro uv w5 ⟨K,av⟩;rw[if_pos hR]at K;have Y:=e.trans av;simp only[i4,simprocAttr];refine B3 (S7 uv (b9 p).wv i w5 K om) (λw6 Z=>?_);simp only[i4,simprocAttr];refine B3 (S7 uv (b9 p).wv k w6 (A9.mono (b7 Z) K) om) (λw7 aw=>?_);have ha:=aB2 n i;have hb:=aB2 n k;generalize ar4 (b9 p).wv i=A at ha;generalize ar4 (b9 p).wv k=B at hb;obtain⟨da,db,wz,wa,wb,w8,P,Q,W,X,ax,S,T⟩:=vx2 A B w7;obtain⟨uA,hA,J,_⟩:=S.vx_v;obtain rfl:=hA.N;obtain⟨uB,hB,ldB,_⟩:=T.vx_v;obtain rfl:=hB.N;have b:=((Y.trans Z).trans aw).trans ax;obtain⟨L,F,C,eL,eF,eC,sF,sC,ao,V⟩:=cn9 hR G ha hb;obtain⟨u1,w9,q1,r1,aa⟩:=ad4 A w8;obtain⟨u2,wC,q2,r2,ab⟩:=ad4 B w9;have N:=aa.trans ab;simp only[i4,simprocAttr,P,Q,W,X,a w8 (b7 b),J w8 (n7 _),q1,ldB w9 (b7 aa),q2];apply z6 (ab9 M u1 u2 [A] [B] wC (f.mono (b7 (b.trans N))) G (A9.mono (b7 ab) r1) r2 dG dG);rintro _ wD ⟨ul,rfl,rl,nl,ay⟩;rw[eL]at rl nl;simp only[]at rl nl;have s:=N.trans ay;have o:=b.trans s;obtain⟨u3,wE,q3,r3,ac⟩:=ad4 A wD;simp only[i4,simprocAttr,a wD (b7 o),J wD (b7 s),q3];apply z6 (bD3 M u3 [A] wE (f.mono (b7 (o.trans ac))) G r3 dG);rintro _ wF ⟨uf,rfl,rf,nf,az⟩;rw[eF]at rf nf;simp only[]at rf nf;have O:=ac.trans az;have j:=s.trans O;have q:=b.trans j;obtain⟨u4,wG,q4,r4,ad⟩:=ad4 B wF;simp only[i4,simprocAttr,a wF (b7 q),ldB wF (b7 j),q4];apply z6 (aL6 M u4 [B] wG (f.mono (b7 (q.trans ad))) G r4 dG);rintro _ wH ⟨uc,rfl,rc,nc,aA⟩;rw[eC]at rc nc;simp only[]at rc nc;have z:=ad.trans aA;have ak:=j.trans z;simp only[i4,simprocAttr,ldB wH (b7 ak)];refine B3 (Y1 uf F B wH (A9.mono (b7 z) rf) om) (λwI ae=>?_);have D:=z.trans ae;have y:=O.trans D;have a1:(L.all λx=>F.contains x)=true:=eJ1.2 λx hx=>eE6.2 (sF x hx);have a2:(L.all λx=>C.contains x)=true:=eJ1.2 λx hx=>eE6.2 (sC x hx);simp only[i4,simprocAttr];refine B3 (ah8 ul uf L F wI (A9.mono (b7 y) rl) (A9.mono (b7 D) rf) om om) (λwJ m=>?_);simp only[i4,simprocAttr,a1];refine B3 (ah8 ul uc L C wJ (A9.mono (b7 (y.trans m)) rl) (A9.mono (b7 (ae.trans m)) rc) om om) (λwK af=>?_);have t:=((j.trans D).trans m).trans af;have g:R (n8 wK) ul L:=A9.mono (b7 ((y.trans m).trans af)) rl;have r:=b.trans t;rcases eD2 (F.contains B)with hq|hq;rotate_left
 .obtain rfl:=V λh=>by rw[eE6.2 h]at hq;cases hq
  have E:decide ((0:Int)<(([]:List Vx).length:Int))=false:=dR
  have an:((false:Bool)==false)=true:=rfl;simp only[eQ,simprocAttr,a2,hq,g.isS,g.vlen,E,an,cW7];exact o8 Tryz.results8 ⟨rfl,l.trans r⟩
 obtain⟨mA,mB⟩:=ao (eE6.1 hq);have c1:=eE6.2 mA;have c2:=eE6.2 mB;have E:decide ((0:Int)<(L.length:Int))=true:=by
  have:=List.length_pos_of_mem mA;simp only[eH1];omega
 have ap:((true:Bool)==true)=true:=rfl;simp only[eQ,simprocAttr,a2,hq,g.isS,g.vlen,E,ap,cW7,J wK (b7 t)];refine B3 (Y1 ul L A wK g om) (λwM I=>?_);simp only[i4,simprocAttr,c1,ldB wM (b7 (t.trans I))];refine B3 (Y1 ul L B wM (A9.mono (b7 I) g) om) (λwN aB=>?_);simp only[i4,simprocAttr,c2];exact o8 Tryz.results8 ⟨rfl,l.trans ((r.trans I).trans aB)⟩
end Go.Proofs.YtpebpfiglfmegaaGreat
namespace Go.Proofs.YtpebpfiglfmegaaGreat.chopBetween
open Go Go.ChangeShapes Go.WideShapes Go.ChangeAt Go.RowKit
def aI5:laidOutB Tryz.prog=true:=kr
def Z1:∀t∈Tryz.f8.params.toList,Tryz.prog.readableRec t=true/\t<Tryz.prog.types.size:=by
 rw[Tryz.params8];decide +kernel
set_option maxRecDepth 100000 in
def lifted(r:Os)(c:r.Started)(H:Type)(enc:TypeId×Value->H):
  ReturnsInHanded {} Tryz.checked r 8 .any (Rows.chopBetweenSpec.pre6 enc Tryz.prog Tryz.f8 Rows.chopBetweenRow.domain false) (Rows.chopBetweenSpec.post enc Tryz.prog Tryz.f8 false true false false):=by
 refine returnsInHanded_of_change (C:=Tryz.checked) own c kr Tryz.func8
  (ChangeSpec.witness6 (enc:=enc) (C:=Tryz.checked) false ⟨#[],#[.agg #[.slice none 0 0,.slice none 0 0],.int .i64 0,.int .i64 0],[]⟩ 8 kr kr kr kr) ?_
 intro W d args A gs i b n o _;have a:∀(j:Nat) t v,Tryz.f8.params[j]?=some t->args[j]?=some v->Value.okWide Tryz.prog W .any d t v:=b;have h:=n;obtain⟨p,q,f,J,rfl,L,N⟩:=n;have k:DataW.TrodAll enc Tryz.prog W 0 (λ_=>true) true Tryz.f8.params.toList args.toList A p:=f;have g:=k;rw[Tryz.params8]at k a;obtain⟨s,S,Y,B,p0,q0,l,rfl,rfl,F,P⟩:=trodAll_cons k;obtain⟨w,T,Z,D,p1,q1,rfl,rfl,rfl,G,Q⟩:=trodAll_cons P;obtain⟨x,U,d2,E,p2,q2,rfl,rfl,rfl,I,R⟩:=trodAll_cons Q;obtain⟨rfl,rfl,rfl⟩:=trodAll_nil R;obtain rfl:args=#[s,w,x]:=by cases args;simp_all
 obtain⟨rfl,rfl⟩:=trodVars_none J;obtain⟨V,m⟩:=aZ1 F;obtain⟨y,rfl,rfl,rfl,w1⟩:=open_int Tryz.underlying3 (a 1 3 w rfl rfl) G;obtain⟨z,rfl,rfl,rfl,w2⟩:=open_int Tryz.underlying3 (a 2 3 x rfl rfl) I;clear f b;simp only[List.append_nil]at h g;refine(by4 s V y z W m).mono λe X ⟨u,K,O,M⟩=>?_;subst K;subst O;exact⟨_,rfl,aB3 aI5 Z1 rfl h g rfl rfl (λ_ _ _=>(trodAll_cons_mk (shut_bool Tryz.underlying4 _) trodAll_mk0)) M⟩
def kM:mapsRowed Tryz.prog=true:=kr
def kI:(Rows.chopBetweenRow.inPlace==Tryz.prog.inPlace 8)=true:=kr
def kU:(Rows.chopBetweenRow.unfollowed==Tryz.prog.unfollowed 8)=true:=kr
def kR:(Rows.chopBetweenRow.recurses==Tryz.prog.recurses 8)=true:=kr
def kN:(Rows.chopBetweenRow.named==Tryz.prog.varsNamed 8)=true:=kr
def kS:Tryz.prog.stopsHeard=true:=kr
def kE:Tryz.prog.mayEnter=true:=kr
def kL:(Rows.chopBetweenRow.lifted==Tryz.prog.liftsFinal)=true:=kr
def kK:(Tryz.prog.make==some Rows.chopBetweenRow.make)=true:=kr
def closed:joinedFacts Tryz.prog 8 Tryz.f8 Rows.chopBetweenSpec Rows.chopBetweenRow=true:=by
 unfold joinedFacts;rw[aI5,kM,kI,kU,kR,kN,kS,kE,kL,kK]
 kernel_rfl
def bn2:Rows.chopBetweenRow.holds Tryz.pinned (OpenSpec.ofChange Rows.chopBetweenSpec):=
 OpenClaim.holds_of_wide 8 Tryz.f8 rfl rfl rfl rfl rfl rfl rfl ⟨rfl,rfl,rfl,rfl,rfl⟩ rfl rfl rfl rfl rfl kr Tryz.func8 closed
  (of_decide_eq_true kr) (by unfold Func.isWrapper;first|(rw[if_pos (by decide +kernel)];kernel_rfl)|(rw[if_neg (by decide +kernel)];exact⟨rfl,rfl⟩))
  (λc a H b _=>lifted c a H b)
theorem proved:Rows.ChopBetweenSaid:=bn2
end Go.Proofs.YtpebpfiglfmegaaGreat.chopBetween

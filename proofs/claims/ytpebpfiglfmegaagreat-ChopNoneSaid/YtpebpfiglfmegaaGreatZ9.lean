/- chopNone.proved: for every input the law returns true. No condition. -/
import Derived.Test.YtpebpfiglfmegaaGreatRows
import Derived.Test.YtpebpfiglfmegaaGreatZ7
import Derived.Test.YtpebpfiglfmegaaGreatZ8
set_option maxRecDepth 1000000
set_option maxHeartbeats 8000000
set_option linter.unusedVariables false
set_option linter.unusedSimpArgs false
set_option linter.unnecessarySimpa false
set_option linter.defProp false
namespace Go.Proofs.YtpebpfiglfmegaaGreat
open Go 
def bM8(v:Value)(p:Pg)(x:Vx)(i:Int)(w:World)(hv:SV (i5 w) v p):y5 Tryz.prog 3 #[v,.agg (p8.cells x).toArray,.int .i64 i] w λu N=>(u = .bool true/\o6 w N):=by
 refine z6 [v,.agg (p8.cells x).toArray,.int .i64 i] Tryz.func3 rfl ?_;obtain⟨c,w0,an,aq,T⟩:=U2 hv (n7 _);obtain⟨cx,w1,am,y,U⟩:=bg3 (w:=w0) (SV.ofN (i5 w0) x) (n7 _);have C:=aq.trans y;obtain⟨s,E,z,_⟩:=T.pg_v;have e:=E.mono (b7 y);have a:∀N,E2 (i5 w1) (i5 N)->V6 Tryz.prog N 25 c s:=λN h=>z N (p7 (b7 y) h);clear E z;obtain⟨ux,ap,r,_⟩:=U.vx_v;obtain rfl:=ap.N;simp only[eH,simprocAttr,an,am];refine B6 (as6 w1) (λw2 F=>?_);simp only[eH,simprocAttr,a w2 (b7 F)];refine B6 (aQ8 s p w2 (e.mono (b7 F))) (λw3 ar=>?_);have j:=F.trans ar;rcases ej1 (decide (C4 p<=20000))with h1|h1;rotate_left
 .simp only[eH,simprocAttr,h1];exact o8 Tryz.results3 ⟨rfl,C.trans j⟩
 have t:C4 p<=1000000:=ej7 (ej3 h1) dQ;simp only[eH,simprocAttr,h1,a w3 (b7 j)];refine B6 (am9 s p w3 (e.mono (b7 j)) t) (λw4 au=>?_);have f:=j.trans au;have l4:=a w4 (b7 f);rcases ej1 (D4 p)with hR|hR;have hr:=E9 hR;have D:(if D4 p=true then(b9 p).wv else[]).length<=1000000000:=by
  rw[if_pos hR];have:=ai3 hr t;omega
 simp only[i4,simprocAttr,hR,l4];refine y4 (dl3 s p w4 (e.mono (b7 f)) hr.may) ?_;rintro ua w5 ⟨aa,av⟩;have g:=f.trans av;have sa:=aa.isS;have na:=aa.vlen;rcases ej1 (decide ((20:Int)<((bP2 p).length:Int)))with h2|h2
 .simp only[eH,simprocAttr,sa,na,h2];exact o8 Tryz.results3 ⟨rfl,C.trans g⟩
 simp only[eH,simprocAttr,sa,na,h2,a w5 (b7 g),r w5 (b7 g)];refine B6 (bJ5 s x w5 (e.mono (b7 g)) t) (λw6 G=>?_);have b:=g.trans G;rcases ej1 (decide (x∈(b9 p).wv))with hx|hx
 .simp only[eH,simprocAttr,hR,hx];exact o8 Tryz.results3 ⟨rfl,C.trans b⟩
 have B:=ej6 hx;simp only[eH,simprocAttr,hR,hx,a w6 (b7 b)];refine B6 (am9 s p w6 (e.mono (b7 b)) t) (λw7 H=>?_);have k:=b.trans H;have c1:∀W,N3 p [W,x] [W]=([],9):=λW=>bQ6 hR (.inl ⟨x,dP,B⟩);have c2:∀W,N3 p [W] [W,x]=([],9):=λW=>bQ6 hR (.inr ⟨x,dP,B⟩);have c3:∀W,G3 p x W=([],9):=λW=>cn3 hR (.inl B);have c4:∀W,G3 p W x=([],9):=λW=>cn3 hR (.inr B);rotate_left;have D:(if D4 p=true then(b9 p).wv else[]).length<=1000000000:=by
  rw[if_neg (by rw[hR];simp)];simp
 simp only[i4,simprocAttr,hR,l4,r w4 (b7 f)];refine B6 (bJ5 s x w4 (e.mono (b7 f)) t) (λw6 G=>?_);have b:=f.trans G;simp only[i4,simprocAttr,hR,Bool.false_and,a w6 (b7 b)];refine B6 (am9 s p w6 (e.mono (b7 b)) t) (λw7 H=>?_);have k:=b.trans H;have c1:∀W,N3 p [W,x] [W]=([],1):=λW=>bD6 hR;have c2:∀W,N3 p [W] [W,x]=([],1):=λW=>bD6 hR;have c3:∀W,G3 p x W=([],1):=λW=>bT3 hR;have c4:∀W,G3 p W x=([],1):=λW=>bT3 hR
 all_goals
  simp only[eH,simprocAttr,hR,a w7 (b7 k)];refine y4 (R9 s w7 (e.mono (b7 k)) t) ?_;rintro uv w8 ⟨aC,aw⟩;simp only[i4,simprocAttr];refine B6 (P6 uv _ i w8 aC D) (λw9 ax=>?_);generalize am0 (if D4 p=true then(b9 p).wv else[]) i=W;obtain⟨d,wz,wA,al,ao,ay,S⟩:=aO6 (SV.ofN (i5 w9) W) (n7 _);obtain⟨uW,hW,q,_⟩:=S.vx_v;obtain rfl:=hW.N;have l:=((k.trans aw).trans ax).trans ay;obtain⟨u1,wB,q1,r1,V⟩:=aW8 W x wA;obtain⟨u2,wC,q2,r2,X⟩:=ab1 W wB;have O:=V.trans X;simp only[i4,simprocAttr,al,ao,a wA (b7 l),q wA (n7 _),r wA (b7 l),q1,q wB (b7 V),q2];refine y4 (X6 s u1 u2 [W,x] [W] wC (e.mono (b7 (l.trans O))) t (A6.mono (b7 X) r1) r2 dP dP) ?_;rintro _ wD ⟨a3,rfl,J,_,az⟩;rw[c1]at J;simp only[c1];have A:=O.trans az;have m:=l.trans A;obtain⟨u3,wE,q3,r3,I⟩:=ab1 W wD;obtain⟨u4,wF,q4,r4,Y⟩:=aW8 W x wE;have Q:=I.trans Y;simp only[i4,simprocAttr,a wD (b7 m),q wD (b7 A),q3,q wE (b7 (A.trans I)),r wE (b7 (m.trans I)),q4];refine y4 (X6 s u3 u4 [W] [W,x] wF (e.mono (b7 (m.trans Q))) t (A6.mono (b7 Y) r3) r4 dP dP) ?_;rintro _ wG ⟨a4,rfl,K,_,aA⟩;rw[c2]at K;simp only[c2];have R:=Q.trans aA;have n:=m.trans R;have P:=A.trans R;simp only[i4,simprocAttr,a wG (b7 n),q wG (b7 P),r wG (b7 n)];refine y4 (aF8 s x W wG (e.mono (b7 n)) t) ?_;rintro _ wH ⟨a5,rfl,L,_,Z⟩;rw[c3]at L;simp only[c3];have o:=n.trans Z;simp only[i4,simprocAttr,a wH (b7 o),q wH (b7 (P.trans Z)),r wH (b7 o)];refine y4 (aF8 s W x wH (e.mono (b7 o)) t) ?_;rintro _ wI ⟨a6,rfl,M,_,aB⟩;rw[c4]at M;simp only[c4];simp only[eH,simprocAttr,J.isS,J.vlen,K.isS,K.vlen,L.isS,L.vlen,M.isS,M.vlen,ep7];exact o8 Tryz.results3 ⟨rfl,C.trans (o.trans aB)⟩
section
open Go.ChangeShapes Go.WideShapes Go.ChangeAt Go.RowKit
section
variable {H:Type} {enc:TypeId×Value->H} {W:World} {base:Nat} {sp:Nat->Bool} {held:Bool}
def ed4:Tryz.prog.cellsOf 27=4:=kr
def dU0(n:Nat):Opn enc Tryz.prog W base sp held Vx 27 n:=λs d h=>by
 obtain⟨t,m,rfl,rfl,l,a,f⟩:=DataW.trod_struct Tryz.underlying27 h;have a:t.length=4:=a;rw[ed4]at l
 match s,l with
 | [c0,c1,c2,c3],_=>
  have g:=f 0 _ rfl;have i:=f 1 _ rfl;have j:=f 2 _ rfl;have k:=f 3 _ rfl;rw[ej0 om]at g i j k;simp only[bc0,cw5,List.getElem_toArray,ev2,eu1,es1,List.drop_succ_cons,ev3,et3]at g i j k;obtain⟨o,e0⟩:=aN1 Tryz.underlying9 m _ _ g;obtain⟨p,b⟩:=bq8 Tryz.underlying3 m _ _ i;obtain⟨q,c⟩:=bq8 Tryz.underlying3 m _ _ j;obtain⟨r,e⟩:=aN1 Tryz.underlying9 m _ _ k;have e0:[c0]=[t8 o]:=e0;have b:[c1]=[.int .i64 p]:=b;have c:[c2]=[.int .i64 q]:=c;have e:[c3]=[t8 r]:=e;simp only[eu7,and_true]at e0 b c e;subst e0;subst b;subst c;subst e;exact⟨⟨o,p,q,r⟩,rfl⟩
def dH0{v:Value}{d:DataW H}{f:List MemPlace}(h:DataW.Trod enc Tryz.prog W base sp held 27 v d f):∃x:Vx,v = .agg (p8.cells x).toArray:=by
 obtain⟨n,c⟩:=h;obtain⟨x,b⟩:=dU0 n _ _ c;have a:=A6.len b;have e:A6.sz Vx=4:=rfl;rw[e]at a;refine⟨x,SV.N (h:=i5 W) ⟨v.cells.toList,?_,b⟩⟩;cases v with
 | agg g=>simp[Value.cells]
 | _=>simp[Value.cells]at a
end
end
end Go.Proofs.YtpebpfiglfmegaaGreat
namespace Go.Proofs.YtpebpfiglfmegaaGreat.chopNone
open Go Go.ChangeShapes Go.WideShapes Go.ChangeAt Go.RowKit
def bi3:laidOutB Tryz.prog=true:=kr
def an9:∀t∈Tryz.f3.params.toList,Tryz.prog.readableRec t=true/\t<Tryz.prog.types.size:=by
 rw[Tryz.params3];decide +kernel
set_option maxRecDepth 100000 in
def lifted(r:Os)(b:r.Started)(H:Type)(enc:TypeId×Value->H):
  ReturnsInHanded {} Tryz.checked r 3 .any (Rows.chopNoneSpec.pre6 enc Tryz.prog Tryz.f3 Rows.chopNoneRow.domain false) (Rows.chopNoneSpec.post enc Tryz.prog Tryz.f3 false true false false):=by
 refine returnsInHanded_of_change (C:=Tryz.checked) own b kr Tryz.func3
  (ChangeSpec.witness6 (enc:=enc) (C:=Tryz.checked) false ⟨#[],#[.agg #[.slice none 0 0,.slice none 0 0],.agg #[.string ⟨#[]⟩,.int .i64 0,.int .i64 0,.string ⟨#[]⟩],.int .i64 0],[]⟩ 8 kr kr kr kr) ?_
 intro W d args y gs i a n o _;have c:∀(j:Nat) t v,Tryz.f3.params[j]?=some t->args[j]?=some v->Value.okWide Tryz.prog W .any d t v:=a;have h:=n;obtain⟨p,q,f,G,rfl,J,L⟩:=n;have k:DataW.TrodAll enc Tryz.prog W 0 (λ_=>true) true Tryz.f3.params.toList args.toList y p:=f;have g:=k;rw[Tryz.params3]at k c;obtain⟨s,R,Y,z,p0,q0,l,rfl,rfl,D,N⟩:=trodAll_cons k;obtain⟨Q,S,Z,A,p1,q1,rfl,rfl,rfl,E,O⟩:=trodAll_cons N;obtain⟨w,T,d2,B,p2,q2,rfl,rfl,rfl,F,P⟩:=trodAll_cons O;obtain⟨rfl,rfl,rfl⟩:=trodAll_nil P;obtain rfl:args=#[s,Q,w]:=by cases args;simp_all
 obtain⟨rfl,rfl⟩:=trodVars_none G;obtain⟨U,m⟩:=bC9 D;obtain⟨V,rfl⟩:=dH0 E;obtain⟨x,rfl,rfl,rfl,w2⟩:=open_int Tryz.underlying3 (c 2 3 w rfl rfl) F;clear f a;simp only[List.append_nil]at h g;refine(bM8 s U V x W m).mono λe X ⟨u,I,M,K⟩=>?_;subst I;subst M;exact⟨_,rfl,aU2 bi3 an9 rfl h g rfl rfl (λ_ _ _=>(trodAll_cons_mk (shut_bool Tryz.underlying4 _) trodAll_mk0)) K⟩
def kM:mapsRowed Tryz.prog=true:=kr
def kI:(Rows.chopNoneRow.inPlace==Tryz.prog.inPlace 3)=true:=kr
def kU:(Rows.chopNoneRow.unfollowed==Tryz.prog.unfollowed 3)=true:=kr
def kR:(Rows.chopNoneRow.recurses==Tryz.prog.recurses 3)=true:=kr
def kN:(Rows.chopNoneRow.named==Tryz.prog.varsNamed 3)=true:=kr
def kS:Tryz.prog.stopsHeard=true:=kr
def kE:Tryz.prog.mayEnter=true:=kr
def kL:(Rows.chopNoneRow.lifted==Tryz.prog.liftsFinal)=true:=kr
def kK:(Tryz.prog.make==some Rows.chopNoneRow.make)=true:=kr
def closed:joinedFacts Tryz.prog 3 Tryz.f3 Rows.chopNoneSpec Rows.chopNoneRow=true:=by
 unfold joinedFacts;rw[bi3,kM,kI,kU,kR,kN,kS,kE,kL,kK]
 kernel_rfl
def cd2:Rows.chopNoneRow.holds Tryz.pinned (OpenSpec.ofChange Rows.chopNoneSpec):=
 OpenClaim.holds_of_wide 3 Tryz.f3 rfl rfl rfl rfl rfl rfl rfl ⟨rfl,rfl,rfl,rfl,rfl⟩ rfl rfl rfl rfl rfl kr Tryz.func3 closed
  (of_decide_eq_true kr) (by unfold Func.isWrapper;first|(rw[if_pos (by decide +kernel)];kernel_rfl)|(rw[if_neg (by decide +kernel)];exact⟨rfl,rfl⟩))
  (λc a H b _=>lifted c a H b)
theorem proved:Rows.ChopNoneSaid:=cd2
end Go.Proofs.YtpebpfiglfmegaaGreat.chopNone

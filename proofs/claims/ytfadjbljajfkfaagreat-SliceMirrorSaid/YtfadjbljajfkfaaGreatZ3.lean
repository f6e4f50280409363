/- sliceMirror.proved: for every input the law returns true. No condition. Part 3 of 7. -/
import Derived.Ground.SlsfProg
import Derived.Shelf.SlGeneric
import Derived.Shelf.SlSortCmp.NoneTotal
import Derived.Shelf.SlSortCmp.WholeK
import Derived.Test.YtfadjbljajfkfaaGreatProg
import Derived.Test.YtfadjbljajfkfaaGreatZ2
set_option maxRecDepth 1000000
set_option maxHeartbeats 8000000
set_option linter.unusedVariables false
set_option linter.unusedSimpArgs false
set_option linter.unnecessarySimpa false
set_option linter.defProp false
namespace Go.Proofs.YtfadjbljajfkfaaGreat
open Go Tryz
def cN5(vp vq:Value)(p:Pg)(q:Pr)(n:A6)(w:World)(hp:SV (i4 w) vp p)(hq:SV (i4 w) vq q)(W:C5 p<=1000000)(X:X3 q<=1000000):
  p7 prog 163 #[vp,vq,p6 n] w λu w'=>(u = .int .i64 (aE9 p q n)/\o7 w w'):=by
 refine p9 [vp,vq,p6 n] func163 rfl ?_;obtain⟨a,w1,N,D,K⟩:=X5 hp (i5 _);obtain⟨b,w2,O,B,L⟩:=bm6 (hq.mono (b7 D)) (i5 _);obtain⟨vg,_,hg,_,Z,_⟩:=K.pg;obtain⟨va,vv,_,_,m,U,_,_,F,_⟩:=L.pr;have l2:=F w2 (i5 _);have J:=m.isS;have T:=m.vlen;have ao:=ak1 q.params;have aq:=W0 q.vars;have ak:=W0 p.globals;unfold X3 at X;unfold C5 at W;have g:=D.trans B;simp only[n8,o6,simprocAttr,N,O,l2,J,T];refine n9 [2,3,4,10,11] (σ:=Nat) (λk f w'=>f 12 = .int .i64 k/\k<=q.params.length/\(∀j (x:j<q.params.length),j<k->decide (q.params[j].name=n)=false)/\o7 w2 w') (λk=>q.params.length-k) 0 ?_ ?_
 ·simp only[p8,simprocAttr];exact⟨by trivial,dN6 _,λj _ h=>by omega,o9.refl _⟩
 ·rintro k f G hk ⟨i,am,z,d⟩;simp only[dM6,p8,simprocAttr]at hk;obtain⟨C,e3,e4,r,H,_⟩:=hk;simp only[n8,o6,simprocAttr,i,H];refine n7 (λQ=>?_) (λQ=>?_)
  ·have y:k<q.params.length:=by simpa using Q
   have v:=m.inS y;obtain⟨sv,V,l⟩:=F9 (P:=prog) (t:=78) m (b7 d) (dM4 y) bx9 by3 bl1 at8;rw[at8]at l;obtain⟨c,wz,w4,s,A,E,M⟩:=aN6 (V.mono (b7 d)) (i5 _);obtain⟨aa,_⟩:=M.pa;have Y:=aa w4 (i5 _);have o:=g.trans (d.trans E);cases hq1:decide (q.params[k].name=n)
   ·simp only[n8,o6,y0,simprocAttr,i,C,r,v,l,s,A,Y,hq1];refine⟨k+1,by omega,dO2 _ (B0 k (by omega)),by omega,λj x al=>?_,d.trans E⟩;rcases dQ7 j k with h|h
    ·exact z j x h
    ·obtain rfl:j=k:=by omega
     exact hq1
   ·have e:q.params.find? (λa=>decide (a.name=n))=some q.params[k]:=dV5.2 ⟨hq1,k,y,rfl,λj x=>by rw[z j (by omega) x];rfl⟩;cases hr:q.params[k].ref
    ·simp only[n8,o6,y0,simprocAttr,i,C,r,v,l,s,A,Y,hq1,hr];exact o8 results163 ⟨by rw[aE9,e];simp only[hr];rfl,o⟩
    ·simp only[n8,o6,y0,simprocAttr,i,C,r,v,l,s,A,Y,hq1,hr];exact o8 results163 ⟨by rw[aE9,e];simp only[hr];rfl,o⟩
  ·have R:k=q.params.length:=by simp at Q;omega
   subst R;have e:q.params.find? (λa=>decide (a.name=n))=none:=dW5.2 λit S=>by
    obtain⟨j,x,rfl⟩:=dT0.1 S;rw[z j x x];simp
   have I:aE9 p q n=if q.vars.contains n then 4 else if p.globals.contains n then 1 else 0:=by rw[aE9,e]
   have l3:=F G (b7 d);have ab:=Z G (b7 (B.trans d));simp only[n8,o6,simprocAttr,C,e4,l3];refine E0 (P6 vv q.vars n G (A4.mono (b7 d) U) (by omega)) ?_;cases h1:q.vars.contains n
   ·simp only[n8,o6,simprocAttr,C,e3,ab];refine E0 (P6 vg p.globals n G (A4.mono (b7 (B.trans d)) hg) (by omega)) ?_;cases h2:p.globals.contains n
    ·simp only[n8,simprocAttr];exact o8 results163 ⟨by rw[I,h1,h2];rfl,g.trans d⟩
    ·simp only[n8,simprocAttr];exact o8 results163 ⟨by rw[I,h1,h2];rfl,g.trans d⟩
   ·simp only[n8,simprocAttr];exact o8 results163 ⟨by rw[I,h1];rfl,g.trans d⟩
def bk4(t:St):(K1 t).length<=R4 t:=by
 rw[S8];have a:=ae3 t.x;have b:=O1 t.args;have c:1<=wtT t.name:=by simp[wtT]
 have d:(if t.kind≠10/\t.name≠e0 then[t.name]else[]).length<=1:=by split<;>simp
 unfold K1;rw[dM7,dM7];omega
def cA9(vp P O Q:Value)(p:Pg)(q:Pr)(d:List A6)(t:St)(w:World)(hp:SV (i4 w) vp p)(hq:SV (i4 w) P q)(hl:R (i4 w) O d)(N:SV (i4 w) Q t)(ag:C5 p<=1000000)(ah:X3 q<=1000000)(I:R4 t<=1000000)(ay:d.length<=1000000):
  p7 prog 113 #[vp,P,O,Q] w λu w'=>(u = .bool (ae0 p q d t)/\o7 w w'):=by
 refine p9 [vp,P,O,Q] func113 rfl ?_;obtain⟨a,w1,Y,x,W⟩:=ag6 (w:=w) (λ_=>False) hp (λ_ h=>h.elim);obtain⟨b,w2,Z,y,X⟩:=cY8 (w:=w1) (λ_=>False) (hq.mono (b7 x)) (λ_ h=>h.elim);obtain⟨c,w3,aa,z,B⟩:=co9 (w:=w2) (λ_=>False) (N.mono (b7 (x.trans y))) (λ_ h=>h.elim);obtain⟨ldP,_⟩:=K7.pg_v hp W;obtain⟨ak,_⟩:=K7.pr_v hq X;obtain⟨al,_⟩:=K7.st_v N B;obtain⟨_,_,_,_,_,_,_,_,_,_,_,am,_⟩:=K7.st N B;have r:=x.trans (y.trans z);have aj:=al w3 (B2 _ _);have D:(K1 t).length<=1000000:=dN1 (bk4 t) I;simp only[n8,o6,simprocAttr,Y,Z,aa,aj];refine y5 (bk3 Q t w3 (N.mono (b7 r)) I) ?_;rintro u w4 ⟨ho,j⟩;have H:=ho.rw_ (b7 j);have A:=H.isS;have F:=H.vlen;have J:=r.trans j;have L:(K1 t).all (λn=>!decide (aE9 p q n=0))=false->ae0 p q d t=false:=λh=>by rw[ae0,h];rfl
 have s:(K1 t).all (λn=>!decide (aE9 p q n=0))=true->ae0 p q d t=(!decide (t.kind=4)||(!decide (t.proc=J8)&&d.contains t.proc)):=λh=>by rw[ae0,h];rfl
 generalize K1 t=l at H A F D L s;simp only[n8,o6,simprocAttr,A,F];refine n9 [2,4,5,7,12,13] (σ:=Nat) (λk f w'=>f 14 = .int .i64 k/\k<=l.length/\(l.take k).all (λn=>!decide (aE9 p q n=0))=true/\o7 w4 w') (λk=>l.length-k) 0 ?_ ?_
 ·simp only[p8,simprocAttr];exact⟨by trivial,dN6 _,by simp,o9.refl _⟩
 ·rintro k f M hk ⟨v,aw,i,g⟩;simp only[dM6,p8,simprocAttr]at hk;obtain⟨e2,e4,e5,U,S,T,_⟩:=hk;have e:=J.trans g;simp only[n8,o6,simprocAttr,v,T];refine n7 (λhc=>?_) (λhc=>?_)
  ·have m:k<l.length:=by simpa using hc
   have ad:=H.inS m;have C:=ldS H (b7 g) m;have G:=aK9 (λn=>!decide (aE9 p q n=0)) l k m;have o:=dN5 m;generalize l[k]=n at C G o;have lP:=ldP M (t8 (B2 _ _) (b7 (y.trans (z.trans (j.trans g)))));have lQ:=ak M (t8 (B2 _ _) (b7 (z.trans (j.trans g))));simp only[n8,o6,y0,simprocAttr,v,e4,e5,S,ad,C,lP,lQ];refine B9 (cN5 vp P p q n M (hp.mono (b7 e)) (hq.mono (b7 e)) ag ah) (λw6 K=>?_);cases hd:decide (aE9 p q n=0)
   ·simp only[n8,o6,simprocAttr,v,hd];exact⟨k+1,by omega,dO2 _ (B0 k (by omega)),by omega,by rw[G,i,hd];rfl,g.trans K⟩
   ·simp only[n8,o6,simprocAttr,hd];refine o8 results113 ?_;simp only[p8,simprocAttr];exact⟨by rw[L (aA7 (p:=λn=>!decide (aE9 p q n=0)) o (by simp only[hd];rfl))],e.trans K⟩
  ·have ac:k=l.length:=by simp at hc;omega
   subst ac;rw[dN8]at i;have lt:=am M (t8 (B2 _ _) (b7 (j.trans g)));have V:=s i;cases h1:decide (t.kind=4)
   ·simp only[n8,o6,simprocAttr,U,lt,h1];refine o8 results113 ?_;simp only[p8,simprocAttr];exact⟨by rw[V,h1];rfl,e⟩
   have E:decide (t.proc=ofA #[109,97,105,110])=decide (t.proc=J8):=rfl;cases h2:decide (t.proc=J8)
   ·simp only[n8,o6,simprocAttr,e2,U,lt,h1,E,h2];refine E0 (P6 O d t.proc M (A4.mono (b7 e) hl) (by omega)) ?_;simp only[n8,simprocAttr];refine o8 results113 ?_;simp only[p8,simprocAttr];exact⟨by rw[V,h1,h2];rfl,e⟩
   ·simp only[n8,o6,simprocAttr,U,lt,h1,E,h2];refine o8 results113 ?_;simp only[p8,simprocAttr];exact⟨by rw[V,h1,h2];rfl,e⟩
def dG5:ak6 prog 110=true:=by kernel_rfl
def U8(e:Int×Int):Value:=.agg #[.int .i64 e.1,.int .i64 e.2]
def R7(c:Int):B8 prog 81 [(0,.int .i64 c)]=some (U8 (c,0)):=by
 simp[B8,cT4,K8,Instr.fill,Value.cells,U8]
def ax6(c a:Int):B8 prog 81 [(0,.int .i64 c),(1,.int .i64 a)]=some (U8 (c,a)):=by
 simp[B8,cT4,K8,Instr.fill,Value.cells,U8]
def aL1:B8 prog 81 []=some (U8 (0,0)):=by
 simp[B8,cT4,K8,Instr.fill,U8]
def ax4(w:World):∃a b,(Instr.alloc 81 true (.tuple #[])).run prog w = .ok (.pointer (some ⟨a,0,none⟩)) b/\o7 w b/\b.heap[a]?=some (.cells #[.int .i64 0,.int .i64 0] 81 (0,0))/\w.heap.size<=a:=by
 obtain⟨c,_⟩:=aJ0 (P:=prog) (w:=w) (T:=81) cU9 rfl (cs:=#[.int .i64 0,.int .i64 0]) rfl (by simp[Value.oneCell']);exact⟨_,_,c,o7.alloc _ _,dQ5 w _,dO0 _⟩
def ap9{w0 g j:World}{c:Nat}(h:g.heap[c]?=some (.cells #[.int .i64 0,.int .i64 0] 81 (0,0)))(i:o7 g j)(d:w0.heap.size<=c)(f:o7 w0 g)(e:Int×Int):
  ∃a,(Instr.storeAt 81 (.pointer (some ⟨c,0,none⟩)) (U8 e)).run prog j = .ok () a/\(Instr.loadAt 81 (.pointer (some ⟨c,0,none⟩))).run prog a = .ok (U8 e) a/\o7 w0 a:=by
 have k:=(i.block c (dN0.1 h).1 id).trans h;obtain⟨a,m,n,o⟩:=ak3 (P:=prog) (cs:=#[.int .i64 e.1,.int .i64 e.2]) k cU9 rfl rfl (by simp[Value.oneCell']);refine⟨a,m,?_,o9.ext_of (f.trans i) o λb l=>by subst l;exact d⟩;exact ag4 n dj5 dk1 dj6 (by rw[dk0];rfl)
def ch3(n:A6)(a:Addr)(p:Pg)(w:World)(b:At (i4 w) a p)(h:p.globals.length<=1000000):p7 prog 110 #[p6 n,.pointer (some a)] w λu g=>(u = .bool (p.globals.contains n)/\o7 w g):=by
 refine p9 [p6 n,.pointer (some a)] func110 rfl ?_;obtain⟨f,_,c,_,e,_⟩:=b.pg;have d:=e w (i5 _);simp only[n8,o6,simprocAttr,d];refine E0 (P6 f p.globals n w c (by omega)) ?_;simp only[n8,simprocAttr];exact o8 results110 ⟨rfl,o9.refl _⟩
def ah4(v:Value)(p:Pg)(w:World)(hv:SV (i4 w) v p)(hw:C5 p<=1000000):p7 prog 69 #[v] w λu o=>(u=U8 (N8 p)/\o7 w o):=by
 refine p9 [v] func69 rfl ?_;obtain⟨a,w1,bB,bg,ha⟩:=ag6 (w:=w) (λ_=>False) hv (λ_ h=>h.elim);obtain⟨vg,vp,hg,hp,ld,_⟩:=K7.pg hv ha;obtain⟨lw,_⟩:=K7.pg_v hv ha;obtain⟨rb,w2,bA,aI,a5,aY⟩:=ax4 w1;have aW:w.heap.size<=rb:=dN1 bg.size aY;have g:=bg.trans aI;have bz:∀o,o7 w2 o->At (i4 o) a p:=λo h=>by
  obtain⟨cs,e,V⟩:=ha;obtain⟨bo,X,he⟩:=hv;subst e;obtain rfl:=ag2 X;exact⟨bo,A4.mono (b7 (g.trans h)) he,λj u hj=>H2 (t8 (B2 _ _) (b7 (aI.trans h))) (V j u hj)⟩
 have C:∀o,o7 w2 o->B5 (B6 w1 λ_=>False) (i4 o):=λo h=>t8 (B2 _ _) (b7 (aI.trans h));have bU:=lw w2 (C _ (o9.refl _));have r:=λ(o:World) (h:o7 w2 o)=>ap9 a5 h aW g;simp only[n8,o6,simprocAttr,bB,bA,bU];refine B9 (cn7 v p w2 (hv.mono (b7 g)) hw) (λw3 aM=>?_);cases hmay:N2 p
 ·obtain⟨w9,L,M,N⟩:=r w3 aM (1,0);simp only[n8,o6,simprocAttr,R7,L];refine M7 results69 (by simp only[p8,simprocAttr]) M ?_;exact⟨by rw[N8,hmay];rfl,N⟩
 have l3:=ld w3 (C _ aM);have aS:=hp.isS;have a2:=hp.vlen;have bC:p.globals.length<=16/\p.procs.length<=16:=by
  simp only[N2,dO8,dQ3]at hmay;exact⟨hmay.1.1.1,hmay.1.1.2⟩
 obtain⟨b3,b4⟩:=bC;simp only[n8,o6,simprocAttr,l3,aS,a2];refine n9 [1,2,18,19] (σ:=Nat×Value) (λs f o=>f 20 = .int .i64 s.1/\f 3=s.2/\s.1<=p.procs.length/\A8 (i4 w2) o 9 s.2 ((p.procs.take s.1).map (·.name))/\o7 w2 o) (λs=>p.procs.length-s.1) (0,.slice none 0 0) ?_ ?_
 ·simp only[p8,simprocAttr];exact⟨by trivial,by trivial,dN6 _,by simpa using A8.nil _ _ _,aM⟩
 rintro⟨k,u⟩ f w4 hk ⟨aA,h3,bF,ho,B⟩;simp only at aA h3 bF ho;simp only[dM6,p8,simprocAttr]at hk;obtain⟨e1,X,bp,bq,_⟩:=hk;simp only[n8,o6,simprocAttr,aA,bq];refine n7 (λV=>?_) (λV=>?_)
 ·have F:k<p.procs.length:=by simpa using V
  have E:=hp.inS F;obtain⟨sv,J,au⟩:=F9 (P:=prog) (t:=75) hp (b7 (g.trans B)) (dM4 F) av8 av9 at7 R2;rw[R2]at au;have bb:(p.procs.take (k+1)).map (·.name)=(p.procs.take k).map (·.name)++[p.procs[k].name]:=by
   rw[dN3 F,dP6];rfl
  generalize p.procs[k]=y at J bb;obtain⟨b,wz,w5,aT,a7,af,aE⟩:=aN7 (J.mono (b7 (g.trans B))) (i5 _);obtain⟨_,_,_,_,_,_,_,_,bR,_⟩:=aE.pr;have l5:=bR w5 (i5 _);have a3:=ho.ext af;have K:=B.trans af;obtain⟨p1,u',w6,p2,p3,p4,p5⟩:=push (e:=31) at4 rfl a3 (x:=p6 y.name) (y:=y.name) rfl (by simp;omega) (by simp;omega) (b7 K);simp only[n8,o6,y0,simprocAttr,aA,h3,bp,E,au,aT,a7,l5,p1,p2];exact⟨(k+1,u'),by omega,dO2 _ (B0 k (by omega)),by trivial,by omega,by rw[bb];exact p3,a3.ext2 K p4⟩
 have aX:k=p.procs.length:=by simp at V;omega
 subst aX;rw[dN8]at ho;have bG:(p.procs.map (·.name)).length=p.procs.length:=dN4 _;have Q:aa1 (λy=>decide (J8=y)) 0 (p.procs.map (·.name))=ac4 p.procs J8:=by
  rw[bV1,ac4];exact ch1 (λx=>by rw[dR5];exact eq_comm) _ _
 have D:N8 p=if ac1 p.globals||ac1 (p.procs.map (·.name))||decide (ac4 p.procs J8<0)||decide (0<(p.procs.getD (ac4 p.procs J8).toNat bM5).params.length)then(5,0)
  else(N9 p (b9 p) (p.procs.map (·.name)) 0 p.procs).getD (0,0):=by rw[N8,if_neg (by rw[hmay];simp)]
 have hu:=ho.rw_ (b7 B);generalize p.procs.map (·.name)=d at hu bG Q D;have l4:=ld w4 (C _ B);have a9:(Value.string ⟨#[109,97,105,110]⟩)=p6 J8:=rfl;have bD:∀o,o7 w o->R (i4 o) vg p.globals:=λo h=>A4.mono (b7 h) hg;have bV:=lw w4 (C _ B);simp only[n8,simprocAttr,h3,a9];refine E0 (bo1 u d J8 w4 hu (by omega)) ?_;rw[Q];have S:=aI5 (λf=>decide (f.name=J8)) p.procs 0
 change 0<=ac4 p.procs J8->_ at S
 change 0<=ac4 p.procs J8->∃k,ac4 p.procs J8=_/\_ at S
 generalize ac4 p.procs J8=first at S D
 obtain⟨w9,L,M,N⟩:=r w4 B (5,0);simp only[n8,o6,simprocAttr,e1,l4];refine E0 (be9 vg p.globals w4 (bD w4 (g.trans B)) (by omega)) ?_;rcases dM5 (ac1 p.globals)with ht1|ht1
 ·simp only[n8,simprocAttr,ht1,X,R7,L];refine M7 results69 (by simp only[p8,simprocAttr];exact X) M ?_;exact⟨by rw[D,ht1];rfl,N⟩
 simp only[n8,simprocAttr,ht1,h3];refine E0 (be9 u d w4 hu (by omega)) ?_;rcases dM5 (ac1 d)with ht2|ht2
 ·simp only[n8,simprocAttr,ht2,X,R7,L];refine M7 results69 (by simp only[p8,simprocAttr];exact X) M ?_;exact⟨by rw[D,ht1,ht2];rfl,N⟩
 rcases dM5 (decide (first<0))with ht3|ht3
 ·simp only[n8,o6,simprocAttr,ht2,ht3,X,R7,L];refine M7 results69 (by simp only[p8,simprocAttr];exact X) M ?_;exact⟨by rw[D,ht1,ht2,ht3];rfl,N⟩
 obtain⟨k,rfl,q,hq,_⟩:=S (by simpa using ht3);rw[dQ2]at D ht3;obtain⟨va,_,_,_,bd,_,_,_,bP,_⟩:=(hp.at_ hq).pr;have cn:X3 q<=1000000:=at1 p hw q (dO4 hq);have cm:=ak1 q.params;have lq:=bP w4 (b7 (g.trans B));have hz:A4.sz Pr=5:=rfl;rw[hz]at lq;have E:=hp.inS (dM9.1 hq).1;have aR:=bd.isS;have a0:=bd.vlen;have a4:(p.procs.getD (Int.toNat (k:Nat)) bM5).params=q.params:=by rw[dP0,List.getD,hq];rfl
 rw[a4]at D;rcases dM5 (decide (0<(q.params.length:Int)))with ht4|ht4
 ·simp only[n8,o6,y0,simprocAttr,ht2,ht3,ht4,e1,l4,E,lq,aR,a0,X,R7,L];refine M7 results69 (by simp only[p8,simprocAttr];exact X) M ?_;have aH:decide (0<q.params.length)=true:=by simpa using ht4
  exact⟨by rw[D,ht1,ht2,ht3,aH];rfl,N⟩
 have aH:decide (0<q.params.length)=false:=by simpa using ht4
 have T:N8 p=(N9 p (b9 p) d 0 p.procs).getD (0,0):=by rw[D,ht1,ht2,ht3,aH];rfl
 clear D r L M N;have r:=λ(o:World) (h:o7 w2 o)=>ap9 a5 h aW g;simp only[n8,o6,y0,simprocAttr,ht2,ht3,ht4,e1,l4,E,lq,aR,a0,bV];refine y5 (al0 v p w4 (hv.mono (b7 (g.trans B))) hw) ?_;rintro us w5 ⟨sh,rfl,hsh,af⟩;have K:=B.trans af;have l5:=ld w5 (C _ K);simp only[n8,o6,simprocAttr,e1,l5,aS,a2];refine n9 [1,2,3,7,57,58] (σ:=Nat) (λk f o=>f 59 = .int .i64 k/\k<=p.procs.length/\N9 p (b9 p) d 0 p.procs=N9 p (b9 p) d k (p.procs.drop k)/\o7 w5 o) (λk=>p.procs.length-k) 0 ?_ ?_
 ·simp only[p8,simprocAttr];exact⟨by trivial,dN6 _,by rw[dV7],o9.refl _⟩
 rintro i f2 w6 hk ⟨aB,ci,z,al⟩;simp only[dM6,p8,simprocAttr]at hk;obtain⟨az,I,e3,e7,br,bs,_⟩:=hk;rw[e1]at az;rw[X]at I;rw[h3]at e3;have ad:=K.trans al;simp only[n8,o6,simprocAttr,aB,bs];refine n7 (λV=>?_) (λV=>?_);rotate_left
 ·have Z:i=p.procs.length:=by simp at V;omega
  subst Z;rw[dV9]at z;obtain⟨w9,L,M,N⟩:=r w6 ad (0,0);simp only[n8,simprocAttr,I,aL1,L];refine M7 results69 (by simp only[p8,simprocAttr];exact I) M ?_;exact⟨by rw[T,z];rfl,N⟩
 have F:i<p.procs.length:=by simpa using V
 have E:=hp.inS F;obtain⟨sv,J,C⟩:=F9 (P:=prog) (t:=75) hp (b7 (g.trans ad)) (dM4 F) av8 av9 at7 R2;rw[R2]at C;have Y:p.procs.drop i=p.procs[i]::p.procs.drop (i+1):=dR1 F;obtain⟨x,aa,_⟩:=V9 p hw i F;have ak:=at1 p hw _ (dN5 F);have bf:∀it∈(b9 p).of i,R4 it.s<=1000000:=λit h=>by
  rw[aa.of_]at h;exact ah5 p hw it (dU2 (dX9 h))
 have aZ:((b9 p).of i).length<=1000000:=by
  rw[aa.of_,dU8,dN9];have:=aa.fit;omega
 generalize p.procs[i]=y at J Y ak aa;rw[Y,N9]at z;obtain⟨b,wz,w7,aU,a8,am,aE⟩:=ba4 (w:=w6) (λ_=>False) J (λ_ h=>h.elim);obtain⟨bh,_⟩:=K7.pr_v J aE;have bM:=bh w7 (B2 _ _);have aw:=ad.trans am;simp only[n8,o6,y0,simprocAttr,aB,br,E,C,aU,a8,bM];refine y5 (dd2 sv y w7 (J.mono (b7 (g.trans aw))) ak) ?_;rintro uo w8 ⟨bH,W⟩;have bc:=bH.rw_ (b7 W);have ae:=aw.trans W;have cl:(bm0 y).length<=1000000:=by
  have h1:=ak1 y.params;have h2:=W0 y.vars;unfold X3 at ak;unfold bm0;rw[dM7,dN4];omega
 simp only[n8,simprocAttr];refine E0 (be9 uo (bm0 y) w8 bc (by omega)) ?_;obtain⟨w9,L,M,N⟩:=r w8 ae (5,0);rcases dM5 (ac1 (bm0 y))with ht6|ht6
 ·simp only[n8,simprocAttr,ht6,I,R7,L];refine M7 results69 (by simp only[p8,simprocAttr];exact I) M ?_;exact⟨by rw[T,z,aa5,ht6];rfl,N⟩
 clear L M N;simp only[n8,simprocAttr,ht6,az];refine B9 (aT6 (λn=>p.globals.contains n) 110 #[.pointer (some a)] uo (bm0 y) w8 dG5 bc (by omega) (λn o bJ _=>ch3 n a p o (bz o (ae.trans bJ)) (by omega))) (λw9 ag=>?_);have ax:=ae.trans ag;obtain⟨bi,L,M,N⟩:=r w9 ax (5,0);rcases dM5 ((bm0 y).any λn=>p.globals.contains n)with ht7|ht7
 ·simp only[n8,simprocAttr,ht7,I,R7,L];refine M7 results69 (by simp only[p8,simprocAttr];exact I) M ?_;exact⟨by rw[T,z,aa5,ht6,ht7];rfl,N⟩
 clear L M N;have a6:aa5 p d y ((b9 p).of i)=match((b9 p).of i).find? λit=>!ae0 p y d it.s with
   | some it=>some (5,it.s.id)
   | none=>none:=by rw[aa5,ht6,ht7];rfl
 rw[a6]at z;simp only[n8,simprocAttr,ht7,e7];refine y5 (aY6 sh (b9 p) i x _ w9 (hsh.mono (b7 (al.trans (am.trans (W.trans ag))))) aa) ?_;rintro ul bi ⟨ab,U⟩;have aJ:=ax.trans U;generalize(b9 p).of i=l at ab bf z aZ;have bw:=ab.isS;have a1:=ab.vlen;simp only[n8,o6,simprocAttr,bw,a1];refine n9 [1,2,3,7,9,57,58,59,76,77] (σ:=Nat) (λm f o=>f 78 = .int .i64 m/\m<=l.length/\(∀j (hj:j<l.length),j<m->ae0 p y d l[j].s=true)/\o7 bi o) (λm=>l.length-m) 0 ?_ ?_
 ·simp only[p8,simprocAttr];exact⟨by trivial,dN6 _,λj _ h=>by omega,o9.refl _⟩
 rintro m f3 cD hk ⟨aC,ck,aF,A⟩;simp only[dM6,p8,simprocAttr]at hk;obtain⟨g1,g2,g3,g7,g9,cc,cd,aP,bu,bv,_⟩:=hk;rw[az]at g1;rw[I]at g2;rw[e3]at g3;rw[e7]at g7;rw[aB]at aP;have aK:=aJ.trans A;simp only[n8,o6,simprocAttr,aC,bv];refine n7 (λV=>?_) (λV=>?_);rotate_left
 ·have Z:m=l.length:=by simp at V;omega
  subst Z;have O:l.find? (λit=>!ae0 p y d it.s)=none:=dW5.2 λit bE=>by
   obtain⟨j,hj,rfl⟩:=dT0.1 bE;rw[aF j hj hj];simp
  rw[O]at z;simp only[n8,o6,simprocAttr,aP];refine⟨i+1,by omega,dO2 _ (B0 i (by omega)),by omega,z,?_⟩;exact al.trans (am.trans (W.trans (ag.trans (U.trans A))))
 have aj:m<l.length:=by simpa using V
 clear E C;have E:=ab.inS aj;obtain⟨cA,ba,ar⟩:=F9 (P:=prog) (t:=150) ab (b7 A) (dM4 aj) X0 X2 V5 H9;rw[H9]at ar;have be:=bf _ (dN5 aj);obtain⟨c,cG,an,aD,aG,G,aV⟩:=ak8 (ba.mono (b7 A)) (i5 _);obtain⟨ap,_,_⟩:=aV.it;obtain⟨vt,bI,bO,_⟩:=ap.st_v;obtain⟨_,_,_,_,_,_,_,_,_,bQ,_⟩:=ap.st;have H:=aK.trans G;have k1:=lw an (C _ H);have k2:=bh an (t8 (B2 _ _) (b7 (W.trans (ag.trans (U.trans (A.trans G))))));have k3:=bO an (i5 _);simp only[n8,o6,y0,simprocAttr,aC,g1,g3,g9,bu,E,ar,aD,aG,k1,k2,k3];refine B9 (cA9 v sv u vt p y d l[m].s an (hv.mono (b7 (g.trans H))) (J.mono (b7 (g.trans H))) (A4.mono (b7 (af.trans (al.trans (am.trans (W.trans (ag.trans (U.trans (A.trans G)))))))) hu) bI hw ak be (by omega)) (λbj ac=>?_);have aL:=H.trans ac;rcases dM5 (ae0 p y d l[m].s)with hkn|hkn
 ·simp only[n8,o6,simprocAttr,hkn,aC];refine⟨m+1,by omega,dO2 _ (B0 m (by omega)),by omega,λj hj cj=>?_,A.trans (G.trans ac)⟩;rcases dQ7 j m with h|h
  ·exact aF j hj h
  ·obtain rfl:j=m:=by omega
   exact hkn
 ·have k4:=bQ bj (b7 ac);obtain⟨cE,L,M,N⟩:=r bj aL (5,l[m].s.id);simp only[n8,o6,simprocAttr,hkn,k4,g2,ax6,L];refine M7 results69 (by simp only[p8,simprocAttr];exact g2) M ?_;have O:l.find? (λit=>!ae0 p y d it.s)=some l[m]:=dV5.2 ⟨by rw[hkn];rfl,m,aj,rfl,λj hj=>by rw[aF j (by omega) hj];rfl⟩;rw[O]at z;exact⟨by rw[T,z];rfl,N⟩
theorem ao4(e:Int×Int):al5 prog 81 0 (U8 e)=some (.int .i64 e.1):=rfl
def bT2:eqT prog 4=1:=by kernel_rfl
def bm5{a b:Bool}:B4 prog .neq 4 (.bool a) (.bool b)=some (.bool !(a==b)):=by
 simp only[B4,bT2,dS6]
def cY2{a b:Bool}:B4 prog .eql 4 (.bool a) (.bool b)=some (.bool (a==b)):=by
 simp only[B4,bT2,dS6]
def aP8{α β:Type}(p:α×β->Bool):∀(l:List α) (m:List β) (k:Nat) (c:k<l.length) (d:k<m.length),p (l[k],m[k])=false->(l.zip m).all p=false
 | [],_,_,h,_,_=>by simp at h
 | _::_,[],_,_,h,_=>by simp at h
 | a::l,b::m,0,_,_,h=>by
  have e:p (a,b)=false:=h;simp[e]
 | a::l,b::m,k+1,c,d,h=>by
  have:=aP8 p l m k (by simpa using c) (by simpa using d) h;simp only[List.zip_cons_cons,List.all_cons,this,Bool.and_false]
def ba8{α β:Type}(p:α×β->Bool):∀(l:List α) (m:List β),(∀k (c:k<l.length) (d:k<m.length),p (l[k],m[k])=true)->(l.zip m).all p=true
 | [],_,_=>by simp
 | _::_,[],_=>by simp
 | a::l,b::m,h=>by
  have e:p (a,b)=true:=h 0 (by simp) (by simp);simp only[List.zip_cons_cons,List.all_cons,e,dT7];exact ba8 p l m λk c d=>h (k+1) (by simpa using c) (by simpa using d)
def cR5(V U:Value)(l:List Pa)(a:List Ar)(w:World)(D:R (i4 w) V l)(C:R (i4 w) U a)(h1:l.length<=1000000)(h2:a.length<=1000000):
  p7 prog 164 #[V,U] w λu e=>(u = .bool (bw0 l a)/\o7 w e):=by
 refine p9 [V,U] func164 rfl ?_;have q:=D.isS;have z:=D.vlen;have r:=C.isS;have A:=C.vlen;have s:decide ((l.length:Int)=(a.length:Int))=decide (l.length=a.length):=by rw[dR5];omega
 rcases dM5 (decide (l.length=a.length))with hlen|hlen;rotate_left
 ·simp only[n8,o6,simprocAttr,q,z,r,A,s,hlen];refine o8 results164 ?_;simp only[p8,simprocAttr];exact⟨by rw[bw0,hlen];rfl,o9.refl _⟩
 have L:l.length=a.length:=dM8 hlen;have X:bw0 l a=(l.zip a).all λx=>x.1.ref==x.2.ref:=by rw[bw0,hlen,dT7]
 simp only[n8,o6,simprocAttr,q,z,r,A,s,hlen];refine n9 [1,12,13] (σ:=Nat) (λk f e=>f 14 = .int .i64 k/\k<=l.length/\(∀j (v:j<l.length) (g:j<a.length),j<k->(l[j].ref==a[j].ref)=true)/\o7 w e) (λk=>l.length-k) 0 ?_ ?_
 ·simp only[p8,simprocAttr];exact⟨by trivial,dN6 _,λj _ _ h=>by omega,o9.refl _⟩
 ·rintro k f w3 Y ⟨o,ab,B,i⟩;simp only[dM6,p8,simprocAttr]at Y;obtain⟨W,E,F,_⟩:=Y;simp only[n8,o6,simprocAttr,o,F];refine n7 (λI=>?_) (λI=>?_)
  ·have p:k<l.length:=by simpa using I
   have b:k<a.length:=by omega
   have K:=D.inS p;obtain⟨sv,N,y⟩:=F9 (P:=prog) (t:=78) D (b7 i) (dM4 p) bx9 by3 bl1 at8;rw[at8]at y;obtain⟨c,wz,n,G,M,O,H⟩:=aN6 (N.mono (b7 i)) (i5 _);obtain⟨_,T⟩:=H.pa;have d:o7 w n.drew:=i.trans (O.trans (o7.drew n));obtain⟨_,_,S⟩:=(C.at_ (dM4 b)).ar;have Z:=T (λe=>o7 n.drew e) n.drew (o9.refl _) λe h=>b7 ((o7.drew n).trans h);have Q:=S (λe=>o7 n.drew e) n.drew (o9.refl _) λe h=>b7 (d.trans h);have hz:A4.sz Ar=6:=rfl;rw[hz]at Q;have m:=C.inS b;simp only[n8,o6,y0,simprocAttr,o,E,K,y,G,M];refine C0 (λe=>o7 n.drew e) 8 (A5 [0,1,2,3,4,5,6,7]) ?_;rcases dM5 (l[k].ref==a[k].ref)with hq|hq
   ·simp only[D6,A5,n8,o6,y0,simprocAttr,Z,Q,m,bm5,hq,o,W];refine⟨k+1,by omega,dO2 _ (B0 k (by omega)),by omega,λj v g aa=>?_,d⟩;rcases dQ7 j k with h|h
    ·exact B j v g h
    ·obtain rfl:j=k:=by omega
     exact hq
   ·simp only[D6,A5,n8,o6,y0,simprocAttr,Z,Q,m,bm5,hq,W];refine o8 results164 ?_;simp only[p8,simprocAttr];exact⟨by rw[X,aP8 _ l a k p b hq],d⟩
  ·have J:k=l.length:=by simp at I;omega
   subst J;simp only[n8,simprocAttr];refine o8 results164 ?_;simp only[p8,simprocAttr];exact⟨by rw[X,ba8 _ l a λj v g=>B j v g v],i⟩
def cK8(vp vt:Value)(p:Pg)(t:St)(w:World)(hp:SV (i4 w) vp p)(ht:SV (i4 w) vt t)(F:C5 p<=1000000)(W:R4 t<=1000000):
  p7 prog 114 #[vp,vt] w λu w'=>(u = .bool (ag9 p t)/\o7 w w'):=by
 refine p9 [vp,vt] func114 rfl ?_;obtain⟨a,w1,y,G,L⟩:=X5 hp (i5 _);obtain⟨b,w2,z,m,M⟩:=ao2 (ht.mono (b7 G)) (i5 _);obtain⟨_,aw,_,l,Y,_⟩:=L.pg;obtain⟨_,ab,_,_,_,D,_,_,_,H,_⟩:=M.st;have g:=G.trans m;have I:=H w2 (i5 _);have aa:=Y w2 (b7 m);have hS:=l.isS;have hn:=l.vlen;rw[S8]at W;have an:=aq6 t.args;have S:=ag0 p.procs;have U:=at1 p F;unfold C5 at F;rcases dM5 (decide (t.kind=4))with hk4|hk4;rotate_left
 ·simp only[n8,o6,simprocAttr,y,z,I,hk4];refine o8 results114 ?_;simp only[p8,simprocAttr];exact⟨by rw[ag9,hk4];rfl,g⟩
 have hF:ag9 p t=match p.procs.find? λf=>decide (f.name=t.proc)with
  | some f=>bw0 f.params t.args
  | none=>false:=by rw[ag9,hk4,dT7]<;>rfl
 simp only[n8,o6,simprocAttr,y,z,I,aa,hk4,hS,hn];refine n9 [3,11,12] (σ:=Nat) (λk f w'=>f 13 = .int .i64 k/\k<=p.procs.length/\(∀j (r:j<p.procs.length),j<k->decide (p.procs[j].name=t.proc)=false)/\o7 w2 w') (λk=>p.procs.length-k) 0 ?_ ?_
 ·simp only[p8,simprocAttr];exact⟨by trivial,dN6 _,λj _ h=>by omega,o9.refl _⟩
 ·rintro k f w3 hk ⟨q,ap,v,e⟩;simp only[dM6,p8,simprocAttr]at hk;obtain⟨e3,x,K,_⟩:=hk;simp only[n8,o6,simprocAttr,q,K];refine n7 (λO=>?_) (λO=>?_)
  ·have i:k<p.procs.length:=by simpa using O
   have B:=l.inS i;obtain⟨sv,T,s⟩:=F9 (P:=prog) (t:=75) l (b7 (m.trans e)) (dM4 i) av8 av9 at7 R2;rw[R2]at s;obtain⟨c,wz,w4,o,C,n,N⟩:=aN7 (T.mono (b7 (m.trans e))) (i5 _);obtain⟨ac,_,_,_,E,_,_,_,Z,_⟩:=N.pr;have l4:=Z w4 (i5 _);have J:=H w4 (b7 (e.trans n));have A:=g.trans (e.trans n);rcases dM5 (decide (p.procs[k].name=t.proc))with hq|hq
   ·have d:p.procs.find? (λf=>decide (f.name=t.proc))=some p.procs[k]:=dV5.2 ⟨hq,k,i,rfl,λj r=>by rw[v j (by omega) r];rfl⟩;have V:=U _ (dN5 i);have au:=ak1 p.procs[k].params;unfold X3 at V;simp only[n8,o6,y0,simprocAttr,q,e3,x,B,s,o,C,l4,J,hq];refine B9 (cR5 ac ab _ _ w4 E (A4.mono (b7 (e.trans n)) D) (by omega) (by omega)) (λw5 X=>?_);simp only[n8,simprocAttr];refine o8 results114 ?_;simp only[p8,simprocAttr];exact⟨by simp only[hF,d],A.trans X⟩
   ·simp only[n8,o6,y0,simprocAttr,q,e3,x,B,s,o,C,l4,J,hq];refine⟨k+1,by omega,dO2 _ (B0 k (by omega)),by omega,λj r ao=>?_,e.trans n⟩;rcases dQ7 j k with h|h
    ·exact v j r h
    ·obtain rfl:j=k:=by omega
     exact hq
  ·have Q:k=p.procs.length:=by simp at O;omega
   subst Q;have d:p.procs.find? (λf=>decide (f.name=t.proc))=none:=dW5.2 λit R=>by
    obtain⟨j,r,rfl⟩:=dT0.1 R;rw[v j r r];simp
   simp only[n8,simprocAttr];refine o8 results114 ?_;simp only[p8,simprocAttr];exact⟨by simp only[hF,d],g.trans e⟩
def aG9(v:Value)(p:Pg)(w:World)(hv:SV (i4 w) v p)(hw:C5 p<=1000000):p7 prog 70 #[v] w λu r=>(u=U8 (ab2 p)/\o7 w r):=by
 refine p9 [v] func70 rfl ?_;obtain⟨a,w1,ag,T,ha⟩:=ag6 (w:=w) (λ_=>False) hv (λ_ h=>h.elim);obtain⟨lw,_⟩:=K7.pg_v hv ha;obtain⟨rb,w2,af,U,al,N⟩:=ax4 w1;have aj:w.heap.size<=rb:=dN1 T.size N;have d:=T.trans U;have E:∀r,o7 w2 r->B5 (B6 w1 λ_=>False) (i4 r):=λr h=>t8 (B2 _ _) (b7 (U.trans h));have au:=lw w2 (E _ (o9.refl _));have e:=λ(r:World) (h:o7 w2 r)=>ap9 al h aj d;simp only[n8,o6,simprocAttr,ag,af,au];refine B9 (ah4 v p w2 (hv.mono (b7 d)) hw) (λw3 o=>?_);rcases dM5 (decide ((N8 p).1=0))with hsc|hsc;rotate_left
 ·obtain⟨w9,Z,s2,s3⟩:=e w3 o (1,0);simp only[n8,o6,simprocAttr,ao4,hsc,R7,Z];refine M7 results70 (by simp only[p8,simprocAttr]) s2 ?_;exact⟨by rw[ab2,if_pos (dN2 hsc)],s3⟩
 have K:ab2 p=match(b9 p).l.find? λit=>decide (it.s.kind=4) && !ag9 p it.s with
  | some it=>(6,it.s.id)
  | none=>(0,0):=by rw[ab2,if_neg (by simpa using hsc)]<;>rfl
 have av:=lw w3 (E _ o);simp only[n8,o6,simprocAttr,ao4,hsc,av];refine y5 (al0 v p w3 (hv.mono (b7 (d.trans o))) hw) ?_;rintro us w4 ⟨sh,rfl,hsh,hx4⟩;have V:=o.trans hx4;obtain⟨vL,aQ,aP,L,aJ,aH,aF,X,_⟩:=hsh.sh;have aq:=X w4 (i5 _);have hS:=L.isS;have hn:=L.vlen;have am:=az5 p;have aG:=bK4 p;have S:=ah5 p hw;generalize(b9 p).l=l at L hS hn am S K;simp only[n8,o6,simprocAttr,aq,hS,hn];refine n9 [1,2,14,15] (σ:=Nat) (λm f r=>f 16 = .int .i64 m/\m<=l.length/\(∀j (A:j<l.length),j<m->(decide (l[j].s.kind=4) && !ag9 p l[j].s)=false)/\o7 w4 r) (λm=>l.length-m) 0 ?_ ?_
 ·simp only[p8,simprocAttr];exact⟨by trivial,dN6 _,λj _ h=>by omega,o9.refl _⟩
 rintro m f3 w5 hk ⟨k,aK,F,q⟩;simp only[dM6,p8,simprocAttr]at hk;obtain⟨g1,g2,J,ae,_⟩:=hk;have C:=V.trans q;simp only[n8,o6,simprocAttr,k,ae];refine n7 (λhc=>?_) (λhc=>?_);rotate_left
 ·have O:m=l.length:=by simp at hc;omega
  subst O;have b:l.find? (λit=>decide (it.s.kind=4) && !ag9 p it.s)=none:=dW5.2 λit ak=>by
   obtain⟨j,A,rfl⟩:=dT0.1 ak;rw[F j A A];simp
  rw[b]at K;obtain⟨w9,Z,s2,s3⟩:=e w5 C (0,0);simp only[n8,simprocAttr,g2,aL1,Z];refine M7 results70 (by simp only[p8,simprocAttr];exact g2) s2 ?_;exact⟨by rw[K],s3⟩
 have n:m<l.length:=by simpa using hc
 have Q:=L.inS n;obtain⟨sv,an,D⟩:=F9 (P:=prog) (t:=150) L (b7 q) (dM4 n) X0 X2 V5 H9;rw[H9]at D;have R:=S _ (dN5 n);obtain⟨c,aT,I,x,B,W,M⟩:=ak8 (an.mono (b7 q)) (i5 _);obtain⟨y,_,_⟩:=M.it;obtain⟨vt,ao,ap,_⟩:=y.st_v;obtain⟨_,_,_,_,_,_,_,_,_,Y,_⟩:=y.st;have g:=C.trans W;have k1:=lw I (E _ g);have k2:=Y I (i5 _);have k3:=ap I (i5 _);have z:∀H,o7 I H->(decide (l[m].s.kind=4) && !ag9 p l[m].s)=false->∃s:Nat,l.length-s<l.length-m/\(Value.int .i64 (IntKind.i64.wrap ((m:Int)+1))) = .int .i64 s/\s<=l.length/\(∀j (A:j<l.length),j<s->(decide (l[j].s.kind=4) && !ag9 p l[j].s)=false)/\o7 w4 H:=λH i G=>by
  refine⟨m+1,by omega,dO2 _ (B0 m (by omega)),by omega,λj A aI=>?_,q.trans (W.trans i)⟩;rcases dQ7 j m with h|h
  ·exact F j A h
  ·obtain rfl:j=m:=by omega
   exact G
 rcases dM5 (decide (l[m].s.kind=4))with hk4|hk4
 ·simp only[n8,o6,y0,simprocAttr,k,g1,J,Q,D,x,B,k1,k2,k3,hk4];refine B9 (cK8 v vt p l[m].s I (hv.mono (b7 (d.trans g))) ao hw R) (λH i=>?_);rcases dM5 (ag9 p l[m].s)with G|G
  ·simp only[n8,o6,simprocAttr,G,k];exact z H i (by rw[hk4,G];rfl)
  ·have k4:=Y H (b7 i);obtain⟨w9,Z,s2,s3⟩:=e H (g.trans i) (6,l[m].s.id);simp only[n8,o6,simprocAttr,G,k4,g2,ax6,Z];refine M7 results70 (by simp only[p8,simprocAttr];exact g2) s2 ?_;have b:l.find? (λit=>decide (it.s.kind=4) && !ag9 p it.s)=some l[m]:=dV5.2 ⟨by rw[hk4,G];rfl,m,n,rfl,λj A=>by rw[F j (by omega) A];rfl⟩;rw[b]at K;exact⟨by rw[K],s3⟩
 ·simp only[n8,o6,y0,simprocAttr,k,J,Q,D,x,B,k2,hk4];exact z I (o9.refl _) (by rw[hk4];rfl)
mutual
def cz1:∀(t:St) (k:Nat) (a d c b:Int),∀it∈Y9 t k a d c b,it.proc=a
 | .mk id kind labels name proc x has args thn els,k,a,d,c,b,it,h=>by
  rw[R8]at h;rcases dO6.1 h with rfl|h
  ·rfl
  ·rcases dN7.1 h with h|h
   ·exact aB5 thn _ _ _ _ _ it h
   ·exact aB5 els _ _ _ _ _ it h
def aB5:∀(l:List St) (k:Nat) (a d c b:Int),∀it∈D2 l k a d c b,it.proc=a
 | [],_,_,_,_,_,it,h=>by simp[D2]at h
 | t::l,k,a,d,c,b,it,h=>by
  rw[D2]at h;rcases dN7.1 h with h|h
  ·exact cz1 t _ _ _ _ _ it h
  ·exact aB5 l _ _ _ _ _ it h
end
def aW8(p:Pg)(hw:C5 p<=1000000)(i:Nat)(a:i<p.procs.length):∀it∈(b9 p).of i,it.proc=(i:Int):=λit h=>by
 obtain⟨x,_,e⟩:=V9 p hw i a;rw[e]at h;exact aB5 _ _ _ _ _ _ it h
def ch4(v:Value)(p:Pg)(w:World)(hv:SV (i4 w) v p)(hw:C5 p<=1000000):p7 prog 115 #[v] w λu d=>((if(N8 p).1=0 then ∃a,u = .pointer (some a)/\At (i4 d) a (b9 p)else u = .pointer none)/\o7 w d):=by
 refine p9 [v] func115 rfl ?_;obtain⟨a,f,g,b,m⟩:=ag6 (w:=w) (λ_=>False) hv (λ_ h=>h.elim);obtain⟨k,_⟩:=K7.pg_v hv m;have e:∀d,o7 f d->B5 (B6 f λ_=>False) (i4 d):=λd h=>t8 (B2 _ _) (b7 h);have i:=k f (e _ (o9.refl _));simp only[n8,o6,simprocAttr,g,i];refine B9 (ah4 v p f (hv.mono (b7 b)) hw) (λl c=>?_);rcases dM5 (decide ((N8 p).1=0))with hsc|hsc;rotate_left
 ·simp only[n8,o6,simprocAttr,ao4,hsc];exact o8 results115 ⟨by rw[if_neg (dN2 hsc)];trivial,b.trans c⟩
 have j:=k l (e _ c);simp only[n8,o6,simprocAttr,ao4,hsc,j];refine y5 (al0 v p l (hv.mono (b7 (b.trans c))) hw) ?_;rintro us w4 ⟨sh,rfl,hsh,hx4⟩;simp only[n8,simprocAttr];exact o8 results115 ⟨by rw[if_pos (dM8 hsc)];exact⟨sh,rfl,hsh⟩,b.trans (c.trans hx4)⟩
def bD9(v I:Value)(a l:List A6)(h:Hp)(w:World)(K:A8 h w 9 v a)(B:R h I l)(Q:B5 h (i4 w))(Z:a.length+l.length<=1000000):
  p7 prog 116 #[v,I] w λu A=>((∃C L,u = .tuple #[C,.bool L]/\L=(as2 a l).isSome/\∀s,as2 a l=some s->A8 h A 9 C s/\s.length=a.length+l.length)/\o9 (A3 v) w A):=by
 refine p9 [v,I] func116 rfl ?_;have P:=B.isS;have S:=B.vlen;simp only[n8,o6,simprocAttr,P,S];refine n9 [8,9] (σ:=Nat×Value×List A6) (λs f A=>f 10 = .int .i64 s.1/\f 0=s.2.1/\s.1<=l.length/\A8 h A 9 s.2.1 s.2.2/\as2 a l=as2 s.2.2 (l.drop s.1)/\s.2.2.length=a.length+s.1/\o9 (A3 v) w A/\F0 w v s.2.1) (λs=>l.length-s.1) (0,v,a) ?_ ?_
 ·simp only[p8,simprocAttr];exact⟨by trivial,by trivial,dN6 _,K,by rw[dV7],rfl,o9.refl _,λb r=>.inl r⟩
 rintro⟨k,u,s⟩ f M J ⟨i,t,H,j,g,m,c,q⟩;simp only at i t H j g m q;simp only[dM6,p8,simprocAttr]at J;obtain⟨N,O,_⟩:=J;have o:B5 h (i4 M):=H5 Q c λb r=>K.free r;simp only[n8,o6,simprocAttr,i,O];refine n7 (λE=>?_) (λE=>?_);rotate_left
 ·have F:k=l.length:=by simp at E;omega
  subst F;rw[dV9,as2]at g;simp only[n8,simprocAttr,t];refine T3 results116 ?_;simp only[p8,simprocAttr];refine⟨⟨u,true,rfl,by rw[g];rfl,λY d=>?_⟩,c⟩;rw[g]at d;obtain rfl:=dO3 d;exact⟨j,m⟩
 have p:k<l.length:=by simpa using E
 have G:=B.inS p;have z:=ldS B o p;rw[dR1 p,as2]at g;generalize l[k]=n at z g;simp only[n8,o6,y0,simprocAttr,i,t,N,G,z];refine E0 (P6 u s n M (j.rw_ o) (by omega)) ?_;rcases dM5 (s.contains n)with hq|hq
 ·simp only[n8,simprocAttr,hq,t];refine T3 results116 ?_;simp only[p8,simprocAttr];refine⟨⟨u,false,rfl,by rw[g,if_pos hq];rfl,λY d=>?_⟩,c⟩;rw[g,if_pos hq]at d;cases d
 ·obtain⟨T,C,w3,U,V,W,X⟩:=push (e:=31) at4 rfl j (x:=p6 n) (y:=n) rfl (by omega) (by omega) o;rw[if_neg (by rw[hq];simp)]at g;simp only[n8,o6,simprocAttr,hq,t,i,T,U];refine⟨(k+1,C,s++[n]),by omega,dO2 _ (B0 k (by omega)),by trivial,by omega,V,g,by simp only[dM7,dP7];omega,c.chain W λb r D=>?_,λb r=>?_⟩
  ·rcases q b D with h|h
   ·exact h
   ·omega
  ·rcases X b r with h|h
   ·exact q b h
   ·exact .inr (dN1 c.size h)
def cB1(a:Addr)(e:Value)(s:Sh)(it:It)(i x y:Nat)(w:World)(C:At (i4 w) a s)(q:SV (i4 w) e it)(k:it.proc=(i:Int))(r:bz1 s i x y)(p:i<s.p.procs.length)(v:∀it∈s.l,R4 it.s<=1000000)(t:∀f∈s.p.procs,X3 f<=1000000):
  p7 prog 117 #[.pointer (some a),e] w λu D=>(u = .bool (as4 s it)/\o7 w D):=by
 refine p9 [.pointer (some a),e] func117 rfl ?_;obtain⟨b,B,d,c,o⟩:=co6 q (i5 _);obtain⟨j,z,_⟩:=o.it;obtain⟨_,_,_,_,_,_,_,_,_,A,_⟩:=j.st;have m:=z B (i5 _);have n:=A B (i5 _);rw[k]at m;rcases dM5 (decide (it.s.kind=7))with h7|h7
 ·simp only[n8,o6,simprocAttr,d,m,n,h7];refine o8 results117 ?_;simp only[p8,simprocAttr];exact⟨by rw[as4,if_pos (.inl (dM8 h7))],c⟩
 rcases dM5 (decide (it.s.kind=8))with h8|h8
 ·simp only[n8,o6,simprocAttr,d,m,n,h7,h8];refine o8 results117 ?_;simp only[p8,simprocAttr];exact⟨by rw[as4,if_pos (.inr (dM8 h8))],c⟩
 have g:as4 s it=if it.s.kind=10 then(s.at it.proc it.s.name).isSome else true:=by
  rw[as4,if_neg];rintro(h|h)
  ·exact dN2 h7 h
  ·exact dN2 h8 h
 rcases dM5 (decide (it.s.kind=10))with h10|h10
 ·simp only[n8,o6,simprocAttr,d,m,n,h7,h8,h10];refine B9 (ca0 a s i x y it.s.name B (C.mono (b7 c)) r p v t) (λE l=>?_);rw[if_pos (dM8 h10),k]at g;cases hq:s.at i it.s.name
  ·simp only[n8,simprocAttr,bX8];refine o8 results117 ?_;simp only[p8,simprocAttr];exact⟨by rw[g,hq];rfl,c.trans l⟩
  ·simp only[n8,simprocAttr,bX8];refine o8 results117 ?_;simp only[p8,simprocAttr];exact⟨by rw[g,hq];rfl,c.trans l⟩
 ·rw[if_neg (dN2 h10)]at g;simp only[n8,o6,simprocAttr,d,n,h7,h8,h10];refine o8 results117 ?_;simp only[p8,simprocAttr];exact⟨by rw[g],c⟩
def cK5:eqT prog 116=2:=by kernel_rfl
def bi9(p:Pg)(hw:C5 p<=1000000)(i:Nat)(b:i<p.procs.length):(∀it∈(b9 p).of i,it∈(b9 p).l)/\((b9 p).of i).length<=400000:=by
 obtain⟨x,a,_⟩:=V9 p hw i b;have c:=az5 p;have d:=bK4 p;refine⟨λit h=>?_,?_⟩
 ·rw[a.of_]at h;exact dU2 (dX9 h)
 ·rw[a.of_,dU8,dN9];omega
def aI9(l:List It):Nat:=(l.map λit=>it.s.labels.length).sum
def bW0(l m:List It):aI9 (l++m)=aI9 l+aI9 m:=by simp[aI9]
def bE1(x:It)(m:List It):aI9 (x::m)=x.s.labels.length+aI9 m:=by simp[aI9]
mutual
def db9:∀(t:St) (k:Nat) (c g f e:Int),aI9 (Y9 t k c g f e)<=R4 t
 | .mk id kind labels name proc x has args thn els,k,c,g,f,e=>by
  rw[R8,bE1,bW0,R4];have h:=λd b a=>aV9 els d c (k+1) b a;have j:=W0 labels;have i:=λd b a=>aV9 thn d c (k+1) b a;simp only[St.labels,St.thn,St.els];refine dN1 (Nat.add_le_add_left (Nat.add_le_add (i _ _ _) (h _ _ _)) _) ?_;omega
def aV9:∀(l:List St) (k:Nat) (c d b a:Int),aI9 (D2 l k c d b a)<=I1 l
 | [],_,_,_,_,_=>by simp[D2,aI9]
 | t::l,k,c,d,b,a=>by
  rw[D2,bW0,I1];exact Nat.add_le_add (db9 t _ _ _ _ _) (aV9 l _ _ _ _ _)
end
def dc5(p:Pg)(hw:C5 p<=1000000)(i:Nat)(a:i<p.procs.length):aI9 ((b9 p).of i)+p.procs[i].fin.length<=1000000:=by
 obtain⟨x,_,e⟩:=V9 p hw i a;have c:=aV9 p.procs[i].body x i 0 (-1) 0;have b:=at1 p hw _ (dN5 a);have d:=W0 p.procs[i].fin;unfold X3 at b;rw[e];omega
def cB0{l:List It}{m:Nat}(h:m<l.length):aI9 (l.drop m)=l[m].s.labels.length+aI9 (l.drop (m+1)):=by
 rw[dR1 h,bE1]
def bA2(v:Value)(p:Pg)(w:World)(hv:SV (i4 w) v p)(hw:C5 p<=1000000):p7 prog 71 #[v] w λu L=>(u=U8 (aE8 p)/\o7 w L):=by
 refine p9 [v] func71 rfl ?_;obtain⟨a,w1,a9,aS,ha⟩:=ag6 (w:=w) (λ_=>False) hv (λ_ h=>h.elim);obtain⟨vg,vp,hg,hp,ld,_⟩:=K7.pg hv ha;obtain⟨lw,_⟩:=K7.pg_v hv ha;obtain⟨rb,w2,a7,aT,bd,aB⟩:=ax4 w1;have bb:w.heap.size<=rb:=dN1 aS.size aB;have F:=aS.trans aT;have aE:∀L,o7 w2 L->B5 (B6 w1 λ_=>False) (i4 L):=λL h=>t8 (B2 _ _) (b7 (aT.trans h));have bj:=lw w2 (aE _ (o9.refl _));have z:=λ(L:World) (h:o7 w2 L)=>ap9 bd h bb F;simp only[n8,o6,simprocAttr,a9,a7,bj];refine y5 (ch4 v p w2 (hv.mono (b7 F)) hw) ?_;rintro us w3 ⟨I,hx3⟩;rcases dM5 (decide ((N8 p).1=0))with hsc|hsc;rotate_left
 ·rw[if_neg (dN2 hsc)]at I;subst I;obtain⟨w9,s1,s2,s3⟩:=z w3 hx3 (1,0);simp only[n8,o6,simprocAttr,aU1 rfl cK5,R7,s1];refine M7 results71 (by simp only[p8,simprocAttr]) s2 ?_;exact⟨by rw[aE8,if_pos (dN2 hsc)],s3⟩
 rw[if_pos (dM8 hsc)]at I;obtain⟨sh,rfl,aN⟩:=I;have hF:aE8 p=(R9 (b9 p) 0 p.procs).getD (0,0):=by rw[aE8,if_neg (by simpa using hsc)]
 have l3:=ld w3 (aE _ hx3);have hS:=hp.isS;have hn:=hp.vlen;have aK:=K9 p;have bf:=ah5 p hw;have aR:=at1 p hw;have bG:p.procs.length<=1000000:=by
  have:=ag0 p.procs;unfold C5 at hw;omega
 simp only[n8,o6,simprocAttr,aU1 rfl cK5,l3,hS,hn];refine n9 [1,2,3,16,17] (σ:=Nat) (λk f L=>f 18 = .int .i64 k/\k<=p.procs.length/\R9 (b9 p) 0 p.procs=R9 (b9 p) k (p.procs.drop k)/\o7 w3 L) (λk=>p.procs.length-k) 0 ?_ ?_
 ·simp only[p8,simprocAttr];exact⟨by trivial,dN6 _,by rw[dV7],o9.refl _⟩
 rintro i f2 w6 hk ⟨aj,bD,j,Y⟩;simp only[dM6,p8,simprocAttr]at hk;obtain⟨e1,e2,e3,a0,a1,_⟩:=hk;have H:=hx3.trans Y;simp only[n8,o6,simprocAttr,aj,a1];refine n7 (λhc=>?_) (λhc=>?_);rotate_left
 ·have N:i=p.procs.length:=by simp at hc;omega
  subst N;rw[dV9]at j;obtain⟨w9,s1,s2,s3⟩:=z w6 H (0,0);simp only[n8,simprocAttr,e2,aL1,s1];refine M7 results71 (by simp only[p8,simprocAttr];exact e2) s2 ?_;exact⟨by rw[hF,j];rfl,s3⟩
 have r:i<p.procs.length:=by simpa using hc
 have W:=hp.inS r;obtain⟨sv,aP,an⟩:=F9 (P:=prog) (t:=75) hp (b7 (F.trans H)) (dM4 r) av8 av9 at7 R2;rw[R2]at an;have M:p.procs.drop i=p.procs[i]::p.procs.drop (i+1):=dR1 r;obtain⟨x,ap,_⟩:=V9 p hw i r;have bg:=aR _ (dN5 r);obtain⟨aG,aD⟩:=bi9 p hw i r;have aL:=aW8 p hw i r;have am:=dc5 p hw i r;generalize p.procs[i]=y at aP M bg ap am;rw[M,R9,as3]at j;obtain⟨b,wz,w7,az,aO,Z,a8⟩:=aN7 (aP.mono (b7 (F.trans H))) (i5 _);obtain⟨_,_,_,vf,_,_,_,be,bi,_⟩:=a8.pr;have aU:=H.trans Z;simp only[n8,o6,y0,simprocAttr,aj,e3,a0,W,an,az,aO];refine y5 (aY6 sh (b9 p) i x _ w7 (aN.mono (b7 (Y.trans Z))) ap) ?_;rintro ul J ⟨Q,B⟩;have D:=aU.trans B;generalize bF:(b9 p).of i=l at Q aG j aD aL am;have a6:=Q.isS;have aH:=Q.vlen;simp only[n8,o6,simprocAttr,a6,aH];refine n9 [1,2,3,5,16,17,18,25,26] (σ:=Nat×Value×List A6) (λs f L=>f 27 = .int .i64 s.1/\f 6=s.2.1/\s.1<=l.length/\A8 (i4 J) L 9 s.2.1 s.2.2/\av0 (b9 p) [] l=av0 (b9 p) s.2.2 (l.drop s.1)/\s.2.2.length+aI9 (l.drop s.1)=aI9 l/\o7 J L) (λs=>l.length-s.1) (0,.slice none 0 0,[]) ?_ ?_
 ·simp only[p8,simprocAttr];exact⟨by trivial,by trivial,dN6 _,A8.nil _ _ _,by rw[dV7],by rw[dV7];simp,o9.refl _⟩
 rintro⟨m,u,g⟩ f3 ax hk ⟨V,h6,bc,ho,K,ao,q⟩;simp only at V h6 bc ho K ao;simp only[dM6,p8,simprocAttr]at hk;obtain⟨g1,g2,g3,g5,bx,bz,ay,a3,a4,_⟩:=hk;rw[e1]at g1;rw[e2]at g2;rw[e3]at g3;rw[aj]at ay;have bh:=D.trans q;simp only[n8,o6,simprocAttr,V,a4];refine n7 (λhc=>?_) (λhc=>?_);rotate_left
 ·have N:m=l.length:=by simp at hc;omega
  subst N;rw[dV9,av0]at K;rw[K]at j;rw[dV9]at ao;have br:g.length+y.fin.length<=1000000:=by simp[aI9]at ao;unfold aI9 at am;omega
  have lq:=bi ax (b7 (B.trans q));simp only[n8,o6,simprocAttr,h6,g5,lq];refine y5 (bD9 u vf g y.fin (i4 J) ax ho (A4.mono (b7 B) be) (b7 q) (by omega)) ?_;rintro _ T ⟨⟨u2,ok,rfl,d,aM⟩,aF⟩;have e:o7 J T:=ho.ext2 q aF;have au:=D.trans e;rcases dM5 ok with o|o
  ·rw[o]at d;have aq:∃s',as2 g y.fin=some s':=dS1.1 d.symm;obtain⟨s',X⟩:=aq;simp only[X]at j;simp only[n8,o6,simprocAttr,o,ay];refine⟨i+1,by omega,by rw[B0 i (by omega)],by omega,j,?_⟩;exact Y.trans (Z.trans (B.trans e))
  ·rw[o]at d;have C:as2 g y.fin=none:=by
    cases h:as2 g y.fin
    ·rfl
    ·rw[h]at d;cases d
   simp only[C]at j;obtain⟨w9,s1,s2,s3⟩:=z T au (7,0);simp only[n8,o6,simprocAttr,o,g2,R7,s1];refine M7 results71 (by simp only[p8,simprocAttr];exact g2) s2 ?_;exact⟨by rw[hF,j];rfl,s3⟩
 have O:m<l.length:=by simpa using hc
 clear W an;have W:=Q.inS O;obtain⟨bl,A,ae⟩:=F9 (P:=prog) (t:=150) Q (b7 q) (dM4 O) X0 X2 V5 H9;rw[H9]at ae;have ag:=aL _ (dN5 O);have ba:=cB0 O;rw[dR1 O,av0]at K;generalize l[m]=it at A ag K ba;obtain⟨c,bT,T,ak,ar,R,ad⟩:=aN8 (w:=ax) (A3 u) A (λb hb=>ho.lt hb);obtain⟨ldI,_⟩:=K7.it_v A ad;obtain⟨us,I,aA,_,_⟩:=K7.it A ad;obtain⟨bm,_,_,_,_,aQ,_,_,_,_,_,av,_⟩:=K7.st I aA;have af:=ho.ext R;have e:=q.trans R;have k1:=av T (B2 _ _);simp only[n8,o6,y0,simprocAttr,V,h6,a3,W,ae,ak,ar,k1];refine y5 (bD9 u bm g it.s.labels (i4 J) T af aQ (b7 e) (by omega)) ?_;rintro _ U ⟨⟨u2,ok,rfl,d,aM⟩,E⟩;have n:o7 J U:=af.ext2 e E;have S:=D.trans n;have k2:=av U (E1 E);have k3:=ldI U (E1 E);rcases dM5 ok with o|o;rotate_left
 ·rw[o]at d;have C:as2 g it.s.labels=none:=by
   cases h:as2 g it.s.labels
   ·rfl
   ·rw[h]at d;cases d
  simp only[C]at K;rw[K]at j;obtain⟨w9,s1,s2,s3⟩:=z U S (7,it.s.id);simp only[n8,o6,simprocAttr,o,k2,g2,ax6,s1];refine M7 results71 (by simp only[p8,simprocAttr];exact g2) s2 ?_;exact⟨by rw[hF,j];rfl,s3⟩
 rw[o]at d;obtain⟨s',X⟩:∃s',as2 g it.s.labels=some s':=dS1.1 d.symm;simp only[X]at K;obtain⟨aJ,bq⟩:=aM s' X;simp only[n8,o6,simprocAttr,o,g3,k3];refine B9 (cB1 sh bl (b9 p) it i x _ U (aN.mono (b7 (Y.trans (Z.trans (B.trans n))))) (A.mono (b7 n)) ag ap (by rw[aK];exact r) bf (by rw[aK];exact aR)) (λaV G=>?_);have k4:=av aV (t8 (E1 E) (b7 G));rcases dM5 (as4 (b9 p) it)with hle4|hle4
 ·rw[if_pos hle4]at K;simp only[n8,o6,simprocAttr,hle4,V];refine⟨(m+1,u2,s'),by simp only[];omega,by simp only[];rw[B0 m (by omega)],by trivial,by simp only[];omega,aJ.ext G,K,by simp only[];omega,n.trans G⟩
 ·rw[if_neg (by rw[hle4];simp)]at K;rw[K]at j;obtain⟨w9,s1,s2,s3⟩:=z aV (S.trans G) (7,it.s.id);simp only[n8,o6,simprocAttr,hle4,k4,g2,ax6,s1];refine M7 results71 (by simp only[p8,simprocAttr];exact g2) s2 ?_;exact⟨by rw[hF,j];rfl,s3⟩
def dY6:=@List.nodup_cons
def I2{α:Type}[DecidableEq α]:∀{l m:List α},l.Nodup->(∀x∈l,x∈m)->l.length<=m.length
 | [],m,_,_=>by simp
 | x::l,m,hn,hs=>by
  rw[dY6]at hn;have a:=hs x (by simp);have c:=I2 (l:=l) (m:=m.erase x) hn.2 λy b=>(List.mem_erase_of_ne (λe=>hn.1 (by rw[<-e];exact b))).2 (hs y (by simp[b]));rw[List.length_erase_of_mem a]at c;have:=List.length_pos_of_mem a;simp only[dP4];omega
def bw1{p:Pg}{a:List A6}{f:Pr}{l:List It}{e:Int×Int}(h:aa5 p a f l=some e):e.1=5:=by
 unfold aa5 at h;split at h
 ·obtain rfl:=dO3 h;rfl
 ·split at h
  ·obtain rfl:=dO3 h;rfl
  ·cases h
def aF2{p:Pg}{s:Sh}{a:List A6}:∀{l:List Pr} {i:Nat} {e:Int×Int},N9 p s a i l=some e->e.1=5
 | [],i,e,h=>by cases h
 | f::l,i,e,h=>by
  rw[N9]at h;split at h
  ·next b=>obtain rfl:=dO3 h;exact bw1 b
  ·exact aF2 h
def aF3{p:Pg}{s:Sh}{a:List A6}:∀{l:List Pr} {i:Nat},N9 p s a i l=none->∀k (b:k<l.length),aa5 p a l[k] (s.of (i+k:Nat))=none
 | [],i,_,k,b=>by simp at b
 | f::l,i,h,k,b=>by
  rw[N9]at h;split at h
  ·cases h
  ·next c=>
   cases k with
   | zero=>simpa using c
   | succ k=>
    have:=aF3 h k (by simpa using b);rw[show i+1+k=i+(k+1) by omega]at this;simpa using this
structure Known (p:Pg):Prop where
 may:N2 p=true
 globals:p.globals.Nodup
 names:(p.procs.map (·.name)).Nodup
 main:∃(i:Nat) (q:Pr),p.procs[i]?=some q/\q.name=J8/\q.params=[]
 proc:∀i (hi:i<p.procs.length),(bm0 p.procs[i]).Nodup/\(∀n∈bm0 p.procs[i],n∉p.globals)/\∀it∈(b9 p).of i,ae0 p p.procs[i] (p.procs.map (·.name)) it.s=true
def bt2{p:Pg}(h:(N8 p).1=0):Known p:=by
 unfold N8 at h;cases hmay:N2 p
 ·rw[hmay]at h;simp at h
 rw[if_neg (by rw[hmay];simp)]at h;cases hb:(ac1 p.globals||ac1 (p.procs.map (·.name))||decide (ac4 p.procs J8<0)||decide (0<(p.procs.getD (ac4 p.procs J8).toNat bM5).params.length));rotate_left
 ·simp only[hb,dS6]at h;simp at h
 simp only[hb]at h;simp only[Bool.or_eq_false_iff]at hb;obtain⟨⟨⟨o,r⟩,s⟩,j⟩:=hb;have c:0<=ac4 p.procs J8:=by simpa using s
 obtain⟨k,e,q,l,g⟩:=aI5 _ p.procs 0 c;have m:ac4 p.procs J8=(k:Int):=by unfold ac4;rw[e];simp
 rw[m,dP0,List.getD,l]at j;have f:N9 p (b9 p) (p.procs.map (·.name)) 0 p.procs=none:=by
  cases hs:N9 p (b9 p) (p.procs.map (·.name)) 0 p.procs with
  | none=>rfl
  | some e=>
   have:=aF2 hs;simp only[hs]at h;simp at h;omega
 refine⟨hmay,by simpa[ac1]using o,by simpa[ac1]using r,⟨k,q,l,dM8 g,?_⟩,λi w=>?_⟩
 ·have:q.params.length=0:=by simpa using j
  exact List.eq_nil_of_length_eq_zero this
 ·have b:=aF3 f i w;rw[dQ2]at b;unfold aa5 at b;split at b
  ·cases b
  ·next t=>
   have a:=dX7.2 t;simp only[Bool.or_eq_false_iff]at a;split at b
   ·cases b
   ·next u=>
    refine⟨by simpa[ac1]using a.1,λn x v=>?_,λit d=>?_⟩
    ·have:=List.any_eq_false.1 a.2 n x;exact this (dO5.2 v)
    ·have:=dW5.1 u it d;simpa using this
def Q9{p:Pg}{n:A6}(h:n∈p.procs.map (·.name)):∃(i:Nat) (l:i<p.procs.length),(b9 p).pr n=(i:Int)/\p.procs[i].name=n:=by
 obtain⟨q,g,rfl⟩:=dO7.1 h;have a:p.procs.any (λf=>decide (f.name=q.name))=true:=dZ8.2 ⟨q,g,by simp⟩;rw[<-ay2 (λf:Pr=>decide (f.name=q.name)) p.procs 0]at a;obtain⟨k,e,x,j,b⟩:=aI5 _ p.procs 0 (dM8 a);obtain⟨d,c⟩:=dM9.1 j;refine⟨k,d,?_,by rw[c];exact dM8 b⟩;unfold Sh.pr ac4;rw[K9,e,dQ2]
def aH0{p:Pg}(K:Known p){m x:A6}(hm:m∈p.procs.map (·.name))(b:x∈ag7 (b9 p) m):x∈p.procs.map (·.name):=by
 obtain⟨i,c,e,_⟩:=Q9 hm;unfold ag7 at b;rw[I3,e]at b;obtain⟨it,a,rfl⟩:=dO7.1 b;obtain⟨a,d⟩:=dP2.1 a;have:=(K.proc i c).2.2 it a;unfold ae0 at this;rw[d]at this;simp only[Bool.not_true,dZ4,dO8]at this;exact dO5.1 this.2.2
def ar2:∀(l a:List A6) (x:A6),x∈R6 a l↔x∈a\/x∈l
 | [],a,x=>by simp[R6]
 | n::l,a,x=>by
  rw[R6,ar2 l];split
  ·next h=>
   have:=dO5.1 h;constructor
   ·rintro(h|h)
    ·exact .inl h
    ·exact .inr (by simp[h])
   ·rintro(h|h)
    ·exact .inl h
    ·rcases dO6.1 h with rfl|h
     ·exact .inl this
     ·exact .inr h
  ·simp[or_assoc]
def aA6:∀(l c:List A6),c.Nodup->(R6 c l).Nodup
 | [],c,h=>h
 | n::l,c,h=>by
  rw[R6];refine aA6 l _ ?_;split
  ·exact h
  ·next f=>
   rw[dR0];refine⟨h,by simp,λa e b d=>?_⟩;simp only[dP1]at d;subst d;rintro rfl;exact f (dO5.2 e)
def F6{α:Type}(g:α->α):Nat->α->α
 | 0,x=>x
 | k+1,x=>F6 g k (g x)
theorem Z0{α:Type}(g:α->α):∀(k:Nat) (x:α),F6 g (k+1) x=g (F6 g k x)
 | 0,x=>rfl
 | k+1,x=>by rw[F6,Z0 g k];rfl
def bD7{α:Type}{g:α->α}{x:α}(h:g x=x):∀k,F6 g k x=x
 | 0=>rfl
 | k+1=>by rw[F6,h,bD7 h k]
def aB2{α:Type}[DecidableEq α]{g:α->α}:∀(k m:Nat) (x:α),k<=m->g (F6 g k x)=F6 g k x->cf7 g m x=F6 g k x
 | 0,0,x,_,_=>rfl
 | 0,m+1,x,_,h=>by
  have a:g x=x:=h;rw[cf7,if_pos a];rfl
 | k+1,0,x,hk,_=>by omega
 | k+1,m+1,x,hk,h=>by
  rw[cf7];split
  ·next b=>rw[bD7 b]
  ·exact aB2 k m (g x) (by omega) h
abbrev Rws:=List (List A6)
def leR(X Y:Rws):Prop:=∀(i:Nat),∀x∈X.getD i [],x∈Y.getD i []
structure M8 (n B:Nat) (X:Rws):Prop where
 len:X.length=n
 rise:∀r∈X,r.Pairwise λa b=>ltS a b=true
 few:∀r∈X,r.length<=B
structure aE3 (S:Rws->Rws) (n B:Nat):Prop where
 mono:∀X Y,leR X Y->leR (S X) (S Y)
 ok:∀X,M8 n B (S X)
def aA0(X:Rws):Nat:=(X.map (·.length)).sum
def as7{l:List A6}(h:l.Pairwise λa b=>ltS a b=true):l.Nodup:=by
 refine List.Pairwise.imp (fun{a b} hab he=>?_) h;subst he;rw[L5]at hab;cases hab
def cR2{l m:List A6}(f:l.Pairwise λa b=>ltS a b=true)(g:m.Pairwise λa b=>ltS a b=true)(h:∀x∈l,x∈m):l.length<=m.length/\(l.length=m.length->l=m):=by
 have c:=as7 f;refine⟨I2 c h,λj=>bZ4 f g λx=>⟨h x,λi=>?_⟩⟩;refine dV4 λd=>?_;have:=I2 (l:=x::l) (m:=m) (dY6.2 ⟨d,c⟩) λy e=>by
  rcases dO6.1 e with rfl|e
  ·exact i
  ·exact h y e
 simp at this;omega
def ct7:∀(X Y:Rws),X.length=Y.length->(∀r∈X,r.Pairwise λa b=>ltS a b=true)->(∀r∈Y,r.Pairwise λa b=>ltS a b=true)->leR X Y->aA0 X<=aA0 Y/\(aA0 X=aA0 Y->X=Y)
 | [],[],_,_,_,_=>by simp[aA0]
 | x::X,y::Y,hl,h1,h2,h=>by
  have f:=ct7 X Y (by simpa using hl) (λr c=>h1 r (by simp[c])) (λr c=>h2 r (by simp[c])) λi z d=>by
   have:=h (i+1) z;simp only[List.getD_cons_succ]at this;exact this d
  have e:=cR2 (h1 x (by simp)) (h2 y (by simp)) λz d=>by
   have:=h 0 z;simp only[List.getD_cons_zero]at this;exact this d
  simp only[aA0,dQ8,dX8]at *;refine⟨by omega,λg=>?_⟩;rw[e.2 (by omega),f.2 (by omega)]
def cb4{n B:Nat}:∀(X:Rws),(∀r∈X,r.length<=B)->aA0 X<=X.length*B
 | [],_=>by simp[aA0]
 | x::X,h=>by
  have b:=cb4 (n:=n) X λr a=>h r (by simp[a]);have:=h x (by simp);simp only[aA0,dQ8,dX8,dP4,dY1]at *;omega
def bv7(n B:Nat):M8 n B (List.replicate n []):=⟨by simp,λr a=>by
 rw[dT2 a];exact List.Pairwise.nil,λr a=>by rw[dT2 a];simp⟩
section
variable {S:Rws->Rws} {n B:Nat}
def aE3.iter_ok(h:aE3 S n B):∀k,M8 n B (F6 S k (List.replicate n []))
 | 0=>bv7 n B
 | k+1=>by rw[Z0];exact h.ok _
def aE3.grow(h:aE3 S n B):∀k,leR (F6 S k (List.replicate n [])) (S (F6 S k (List.replicate n [])))
 | 0=>λi x a=>by
  rw[F6,List.getD]at a;cases hi:(List.replicate n ([]:List A6))[i]? with
  | none=>rw[hi]at a;simp at a
  | some r=>
   rw[hi]at a;have:=dT2 (dO4 hi);subst this;simp at a
 | k+1=>by
  rw[Z0];exact h.mono _ _ (h.grow k)
def aE3.more(h:aE3 S n B)(k:Nat)(c:S (F6 S k (List.replicate n []))≠F6 S k (List.replicate n [])):aA0 (F6 S k (List.replicate n []))<aA0 (F6 S (k+1) (List.replicate n [])):=by
 rw[Z0];have d:=h.iter_ok k;have e:=h.ok (F6 S k (List.replicate n []));obtain⟨a,b⟩:=ct7 _ _ (by rw[d.len,e.len]) d.rise e.rise (h.grow k);rcases dQ7 (aA0 (F6 S k (List.replicate n []))) (aA0 (S (F6 S k (List.replicate n []))))with hlt|hge
 ·exact hlt
 ·exact absurd (b (by omega)).symm c
def aE3.bound(h:aE3 S n B)(k:Nat):aA0 (F6 S k (List.replicate n []))<=n*B:=by
 have a:=h.iter_ok k;have:=cb4 (n:=n) _ a.few;rw[a.len]at this;exact this
end
def dY7:=@List.getElem_range
def dQ0:=@List.mem_flatMap
def aJ3:∀(n:Nat) (l:List Int),l.length<=n->l.eraseDups.Nodup
 | _,[],_=>by simp
 | 0,x::l,h=>by simp at h
 | n+1,x::l,h=>by
  rw[List.eraseDups_cons,dY6];refine⟨λhm=>?_,aJ3 n _ (dN1 (dP3 _ _) (by simpa using h))⟩;rw[List.mem_eraseDups,dP2]at hm;simp at hm
def aF0(nx:List (List Int))(l:List Int):List Int:=((l.flatMap (C9 nx)).filter λb=>!l.contains b).eraseDups
def al8{nx:List (List Int)}{l:List Int}{b:Int}:b∈aF0 nx l↔(∃a∈l,b∈C9 nx a)/\b∉l:=by
 unfold aF0;rw[List.mem_eraseDups,dP2,dQ0];simp
def aD8{nx:List (List Int)}{a:Int}:∀(m:Nat) (l:List Int),(∀b∈l,Y5 nx a b)->∀b∈O2 nx m l,Y5 nx a b
 | 0,l,h,b,hb=>h b hb
 | m+1,l,h,b,hb=>by
  rw[O2]at hb;refine aD8 m _ (λc e=>?_) b hb;rcases dN7.1 e with e|e
  ·exact h c e
  ·obtain⟨⟨d,f,e⟩,_⟩:=al8.1 e;exact .step (h d f) e
def aN3{nx:List (List Int)}:∀(m:Nat) (l:List Int),∀b∈l,b∈O2 nx m l
 | 0,l,b,hb=>hb
 | m+1,l,b,hb=>by
  rw[O2];exact aN3 m _ b (dQ1 _ hb)
def aP4{n:Nat}{nx:List (List Int)}(o:E6 n nx):∀(m:Nat) (l:List Int),l.Nodup->(∀b∈l,H1 n b=true)->n<=l.length+m->∀a∈O2 nx m l,∀b∈C9 nx a,b∈O2 nx m l
 | 0,l,hn,hk,hl,a,ha,b,hb=>by
  rw[O2]at ha ⊢;refine dV4 λq=>?_;have u:(b::l).Nodup:=dY6.2 ⟨q,hn⟩;have v:=I2 (m:=(List.range n).map λ(i:Nat)=>(i:Int)) u λc f=>by
   have p:H1 n c=true:=by
    rcases dO6.1 f with rfl|f
    ·exact(o.row _).2 _ hb
    ·exact hk c f
   have:=B3.1 p;exact dO7.2 ⟨c.toNat,dQ6.2 (by omega),by omega⟩
  simp only[dP4,dN4,dR3]at v;omega
 | m+1,l,hn,hk,hl,a,ha,b,hb=>by
  rw[O2]at ha ⊢;by_cases he:aF0 nx l=[]
  ·have e:l++((l.flatMap (C9 nx)).filter λb=>!l.contains b).eraseDups=l:=by
    show l++aF0 nx l=l;rw[he,dP8]
   rw[e]at ha ⊢;have g:∀c∈l,∀d∈C9 nx c,d∈l:=λc f d j=>dV4 λr=>by
    have:d∈aF0 nx l:=al8.2 ⟨⟨c,f,j⟩,r⟩;rw[he]at this;simp at this
   have s:∀(k:Nat),O2 nx k l=l:=by
    intro k
    induction k with
    | zero=>rfl
    | succ k w=>rw[O2,e,w]
   rw[s]at ha ⊢;exact g a ha b hb
  ·have t:0<(aF0 nx l).length:=List.length_pos_iff.2 he;refine aP4 o m (l++aF0 nx l) ?_ (λc f=>?_) (by rw[dM7];omega) a ha b hb
   ·rw[dR0];refine⟨hn,aJ3 _ _ (dO0 _),λc f d j e=>?_⟩;subst e;exact(al8.1 j).2 f
   ·rcases dN7.1 f with h|h
    ·exact hk c h
    ·obtain⟨⟨d,_,f⟩,_⟩:=al8.1 h;exact(o.row _).2 _ f
def az0{nx:List (List Int)}(f:E6 nx.length nx){a b:Int}(e:H1 nx.length a=true):V0 nx a b=true↔Y5 nx a b:=by
 unfold V0;rw[e,dT7,dO5];constructor
 ·exact λh=>aD8 nx.length [a] (λc d=>by simp at d;subst d;exact .refl) b h
 ·intro h
  induction h with
  | refl=>exact aN3 _ _ _ (by simp)
  | step _ d g=>exact aP4 f nx.length [a] (by simp) (λc d=>by simp at d;subst d;exact e) (by simp) _ g _ d
def dd5{nx:List (List Int)}{a b:Int}(f:H1 nx.length a=true):Rch nx [a] b↔Y5 nx a b:=by
 constructor
 ·intro h
  induction h with
  | base e g=>simp at e;subst e;exact .refl
  | step _ c d=>exact .step d c
 ·intro h
  induction h with
  | refl=>exact .base (by simp) f
  | step _ c d=>exact .step d c
def dc1{nx:List (List Int)}(c:E6 nx.length nx)(a:H1 nx.length 0=true){r:List Int}(d:dg5 r (Rch nx [0])):bE4 nx=(List.range nx.length).map λ(b:Nat)=>r.contains (b:Int):=by
 unfold bE4;refine List.map_congr_left λb _=>?_;rw[dY0,az0 c a,<-dd5 a,<-d.mem,dO5]
def dd3{nx:List (List Int)}(d:E6 nx.length nx){q:List Int}(o:q.length=nx.length)(s:∀b,H1 nx.length b=true->aG3 nx b (ai q b)):q=ah1 nx:=by
 apply dS8
 ·simp[ah1,o]
 intro k m t;have f:H1 nx.length (k:Int)=true:=B3.2 ⟨by omega,by omega⟩;have c:=s k f;have g:ai q (k:Int)=q[k]:=by
  unfold ai;rw[dP0,List.getD,dM4 m];rfl
 rw[g]at c;refine c.uniq ?_;have i:=cn0 d c.1.1 f;obtain⟨p,r⟩:=B3.1 i;have e:q[k]=((q[k].toNat:Nat):Int):=by omega
 have l:(ah1 nx)[k]=((((List.range nx.length).find? λb=>V0 nx (k:Nat) (b:Nat)&&V0 nx (b:Nat) (k:Nat)).getD 0:Nat):Int):=by
  simp only[ah1,dT4,dY7]
 rw[l];have a:(List.range nx.length).find? (λb=>V0 nx (k:Nat) (b:Nat)&&V0 nx (b:Nat) (k:Nat))=some q[k].toNat:=by
  rw[dV5];refine⟨?_,q[k].toNat,by simp;omega,by simp,λj u=>?_⟩
  ·rw[dO8,az0 d f,az0 d (B3.2 ⟨by omega,by omega⟩),<-e];exact c.1
  ·have n:j<nx.length:=by omega
   have h:H1 nx.length (j:Int)=true:=B3.2 ⟨by omega,by omega⟩;cases hz:(V0 nx (k:Nat) ((List.range nx.length)[j]'(by simp;omega):Nat)&&V0 nx ((List.range nx.length)[j]'(by simp;omega):Nat) (k:Nat))
   ·rfl
   ·exfalso
    simp only[dY7]at hz;rw[dO8,az0 d f,az0 d h]at hz;have:=c.2 j hz;omega
 rw[a];simp only[dR9];rw[<-e];exact c
def zVC:=zJ (zJ (zJ (zJ (zJ @dx0 @dw7) (zJ @du6 (zJ @Option.map_some.{0,0} @Option.map_none.{0,0}))) (zJ (zJ @Int.toNat_zero (zJ @Option.isNone_none.{0} @Option.isNone_some.{0})) (zJ @L7 (zJ @bL3.eq_1 @bL3.eq_2)))) (zJ (zJ (zJ @cZ3.eq_1 (zJ @cO4.eq_1 @cO2.eq_1)) (zJ @TY (zJ @Option.isSome_some.{0} @dT7))) (zJ (zJ @Bool.and_true (zJ @dT8 @dP0)) (zJ @dH2 (zJ @Int.cast_ofNat_Int @decide_true))))) (zJ (zJ (zJ (zJ @add_lit (zJ @dQ2 @Nat.zero_mul)) (zJ @Nat.one_mul (zJ @Bool.not_true @Bool.not_false))) (zJ (zJ @dH3 (zJ @dv5 @dD4)) (zJ @dD3 (zJ @dD2 @dD1)))) (zJ (zJ (zJ @dD0 (zJ @dD7 @dC8)) (zJ @dD8 (zJ @dt5 @dt4))) (zJ (zJ @dC9 (zJ @dD6 @co4)) (zJ @cY4 (zJ @dD5 @dK0)))))
def ldB{h:Hp}{v:Value}{l:List Bool}{w:World}(hv:R h v l)(hw:B5 h (i4 w)){k:Nat}(a:k<l.length):(Instr.loadAt 4 (.pointer (some (G4 v k)))).run prog w = .ok (.bool l[k]) w:=
 M4 (P:=prog) (t:=4) hv hw (dM4 a) am6
def ar5(v:Value)(l:List A6)(w:World)(hv:R (i4 w) v l)(D:l.length<=1000000000):
  p7 prog 175 #[v] w λu s=>(A8 (i4 w) s 9 u l/\o7 w s):=by
 refine p9 [v] func175 rfl ?_;have C:=hv.isS;have r:B4 prog .eql 31 v (.slice none 0 0)=some (.bool (bX4 v)):=by
  obtain⟨a,n,c,b,_⟩:=hv;simp at b;subst b;simp[B4,Go.Proofs.YtfadjbljajfkfaaGreat.isS,dA6]
 obtain⟨F,H,i,f,g,y⟩:=dv7 (P:=prog) (w:=w) (h:=i4 w) (α:=A6) at4 (i5 _);obtain⟨G,I,t,p,o,A⟩:=ae4 (P:=prog) (e:=31) at4 rfl f hv (by simp;omega) (by simp;omega) (b7 g);rcases dM5 (bX4 v)with hc|hc
 ·simp only[n8,o6,simprocAttr,r,hc];refine o8 results175 ?_;simp only[p8,simprocAttr];obtain⟨a,n,c,b,E,z,q,k,j⟩:=hv;simp at b;subst b;cases a with
  | some a=>simp[bX4]at hc
  | none=>
   have d:q=[]:=by
    cases q with
    | nil=>rfl
    | cons x _=>obtain⟨B,e,_⟩:=j 0 x rfl;cases e
   subst d;have:=M2 k;have m:l=[]:=by
    cases l with
    | nil=>rfl
    | cons _ _=>simp[A4.sz]at this
   subst m;exact⟨A8.nil _ _ _,o9.refl _⟩
 ·simp only[n8,o6,simprocAttr,r,hc,i,t];refine o8 results175 ?_;simp only[p8,simprocAttr];exact⟨by simpa using p,f.ext2 g o⟩
def bt8{α:Type}:∀{l m:List α},l.length=m.length->(∀j (a:j<l.length) (b:j<m.length),l[j]=m[j])->l=m:=fun{l m} a b=>dS8 a λj c d=>b j c d
def bq8(C D:Value)(a b:List A6)(w:World)(B:R (i4 w) C a)(hb:R (i4 w) D b)(F:a.length<=1000000000)(J:b.length<=1000000000):
  p7 prog 123 #[C,D] w λu c=>(u = .bool (decide (a=b))/\o7 w c):=by
 refine p9 [C,D] func123 rfl ?_;have p:=B.isS;have x:=B.vlen;have q:=hb.isS;have y:=hb.vlen;have r:decide ((a.length:Int)=(b.length:Int))=decide (a.length=b.length):=by rw[dR5];omega
 rcases dM5 (decide (a.length=b.length))with hlen|hlen;rotate_left
 ·simp only[n8,o6,simprocAttr,p,x,q,y,r,hlen];refine o8 results123 ?_;simp only[p8,simprocAttr];have:a≠b:=λe=>dN2 hlen (dO2 List.length e);exact⟨by simp[this],o9.refl _⟩
 have n:a.length=b.length:=dM8 hlen;simp only[n8,o6,simprocAttr,p,x,q,y,r,hlen];refine n9 [0,1,11,12] (σ:=Nat) (λk f c=>f 13 = .int .i64 k/\k<=a.length/\(∀j (L:j<a.length) (t:j<b.length),j<k->a[j]=b[j])/\o7 w c) (λk=>a.length-k) 0 ?_ ?_
 ·simp only[p8,simprocAttr];exact⟨by trivial,dN6 _,λj _ _ h=>by omega,o9.refl _⟩
 rintro k f o M ⟨m,T,z,g⟩;simp only[dM6,p8,simprocAttr]at M;obtain⟨e0,I,P,E,_⟩:=M;simp only[n8,o6,simprocAttr,m,E];refine n7 (λG=>?_) (λG=>?_);rotate_left
 ·have H:k=a.length:=by simp at G;omega
  subst H;simp only[n8,simprocAttr];refine o8 results123 ?_;simp only[p8,simprocAttr];have:a=b:=bt8 n λj F J=>z j F J F;exact⟨by simp[this],g⟩
 have v:k<a.length:=by simpa using G
 have l:k<b.length:=by omega
 have s:=B.inS v;have i:=hb.inS l;have A:∀c,o7 o.drew c->B5 (i4 w) (i4 c):=λc h=>b7 (g.trans ((o7.drew o).trans h));have N:∀K f d w0,F3 prog (λc=>o7 o.drew c) (Instr.loadAt 9 (.pointer (some (G4 C k)))) K f d w0=K (C4 f d (p6 a[k])) w0:=λK f d w0=>B7 (w0:=o.drew) (o9.refl _) λc h=>ldS B (A c h) v;have O:∀K f d w0,F3 prog (λc=>o7 o.drew c) (Instr.loadAt 9 (.pointer (some (G4 D k)))) K f d w0=K (C4 f d (p6 b[k])) w0:=λK f d w0=>B7 (w0:=o.drew) (o9.refl _) λc h=>ldS hb (A c h) l;have Q:(a[k]==b[k])=decide (a[k]=b[k]):=rfl;simp only[n8,simprocAttr,m];refine C0 (λc=>o7 o.drew c) 9 (A5 [0,1,2,3,4,5,6,7,8]) ?_;rcases dM5 (decide (a[k]=b[k]))with hq|hq
 ·simp only[D6,A5,n8,o6,y0,simprocAttr,e0,I,s,i,N,O,hq,m];refine⟨k+1,by omega,dO2 _ (B0 k (by omega)),by omega,λj L t S=>?_,g.trans (o7.drew _)⟩;rcases dQ7 j k with h|h
  ·exact z j L t h
  ·obtain rfl:j=k:=by omega
   exact dM8 hq
 ·simp only[D6,A5,n8,o6,y0,simprocAttr,e0,I,s,i,N,O,hq];refine o8 results123 ?_;simp only[p8,simprocAttr];have:a≠b:=λe=>dN2 hq (by subst e;rfl);exact⟨by simp[this],g.trans (o7.drew _)⟩
def cf4(D E:Value)(a b:List Bool)(w:World)(C:R (i4 w) D a)(hb:R (i4 w) E b)(G:a.length<=1000000000)(L:b.length<=1000000000):
  p7 prog 233 #[D,E] w λu c=>(u = .bool (decide (a=b))/\o7 w c):=by
 refine p9 [D,E] func233 rfl ?_;have p:=C.isS;have y:=C.vlen;have q:=hb.isS;have z:=hb.vlen;have s:decide ((a.length:Int)=(b.length:Int))=decide (a.length=b.length):=by rw[dR5];omega
 rcases dM5 (decide (a.length=b.length))with hlen|hlen;rotate_left
 ·simp only[n8,o6,simprocAttr,p,y,q,z,s,hlen];refine o8 results233 ?_;simp only[p8,simprocAttr];have:a≠b:=λe=>dN2 hlen (dO2 List.length e);exact⟨by simp[this],o9.refl _⟩
 have n:a.length=b.length:=dM8 hlen;simp only[n8,o6,simprocAttr,p,y,q,z,s,hlen];refine n9 [0,1,11,12] (σ:=Nat) (λk f c=>f 13 = .int .i64 k/\k<=a.length/\(∀j (M:j<a.length) (v:j<b.length),j<k->a[j]=b[j])/\o7 w c) (λk=>a.length-k) 0 ?_ ?_
 ·simp only[p8,simprocAttr];exact⟨by trivial,dN6 _,λj _ _ h=>by omega,o9.refl _⟩
 rintro k f o N ⟨m,T,A,g⟩;simp only[dM6,p8,simprocAttr]at N;obtain⟨e0,J,Q,F,_⟩:=N;simp only[n8,o6,simprocAttr,m,F];refine n7 (λH=>?_) (λH=>?_);rotate_left
 ·have I:k=a.length:=by simp at H;omega
  subst I;simp only[n8,simprocAttr];refine o8 results233 ?_;simp only[p8,simprocAttr];have:a=b:=bt8 n λj G L=>A j G L G;exact⟨by simp[this],g⟩
 have x:k<a.length:=by simpa using H
 have l:k<b.length:=by omega
 have t:=C.inS x;have i:=hb.inS l;have B:∀c,o7 o.drew c->B5 (i4 w) (i4 c):=λc h=>b7 (g.trans ((o7.drew o).trans h));have O:∀K f d w0,F3 prog (λc=>o7 o.drew c) (Instr.loadAt 4 (.pointer (some (G4 D k)))) K f d w0=K (C4 f d (.bool a[k])) w0:=λK f d w0=>B7 (w0:=o.drew) (o9.refl _) λc h=>ldB C (B c h) x;have P:∀K f d w0,F3 prog (λc=>o7 o.drew c) (Instr.loadAt 4 (.pointer (some (G4 E k)))) K f d w0=K (C4 f d (.bool b[k])) w0:=λK f d w0=>B7 (w0:=o.drew) (o9.refl _) λc h=>ldB hb (B c h) l;have r:(a[k]==b[k])=decide (a[k]=b[k]):=rfl;simp only[n8,simprocAttr,m];refine C0 (λc=>o7 o.drew c) 9 (A5 [0,1,2,3,4,5,6,7,8]) ?_;rcases dM5 (decide (a[k]=b[k]))with hq|hq
 ·simp only[D6,A5,n8,o6,y0,simprocAttr,e0,J,t,i,O,P,bm5,r,hq,m];refine⟨k+1,by omega,dO2 _ (B0 k (by omega)),by omega,λj M v S=>?_,g.trans (o7.drew _)⟩;rcases dQ7 j k with h|h
  ·exact A j M v h
  ·obtain rfl:j=k:=by omega
   exact dM8 hq
 ·simp only[D6,A5,n8,o6,y0,simprocAttr,e0,J,t,i,O,P,bm5,r,hq];refine o8 results233 ?_;simp only[p8,simprocAttr];have:a≠b:=λe=>dN2 hq (by subst e;rfl);exact⟨by simp[this],g.trans (o7.drew _)⟩
def bu5(s:A6)(w:World):p7 prog 231 #[p6 s] w λu a=>(u = .bool false/\a=w):=by
 refine p9 [p6 s] func231 rfl ?_;have b:decide (s=s)=true:=by simp
 simp only[n8,o6,simprocAttr];exact o8 results231 ⟨rfl,by trivial⟩
def cC2(s:A6)(w:World):p7 prog 264 #[p6 s] w λu a=>(u = .bool false/\a=w):=by
 refine p9 [p6 s] func264 rfl ?_;have b:decide (s=s)=true:=by simp
 simp only[n8,o6,simprocAttr];exact o8 results264 ⟨rfl,by trivial⟩
def cB3(a b:A6)(w:World):p7 prog 220 #[p6 a,p6 b] w λu c=>(u = .bool (ltS a b)/\c=w):=by
 refine p9 [p6 a,p6 b] func220 rfl ?_;simp only[n8,o6,simprocAttr];refine E0 (bu5 a w) ?_;simp only[n8,o6,simprocAttr];exact o8 results220 ⟨rfl,by trivial⟩
def cZ7{n:Nat}(h:n<4000000000000000000):bg9 prog 3 129 (.int .i64 n)=some (.int .u64 n):=by
 have a:db5 prog 129=some .u64:=by kernel_rfl
 have b:(prog.underlying 3).isSome=true:=by kernel_rfl
 simp only[bg9,a,b,dS6]
 congr 2
 have:(n:Int) % 18446744073709551616=n:=by omega
 simp[IntKind.wrap,IntKind.bits,IntKind.signed];omega
def cZ8{n:Nat}(h:n<4000000000000000000):bg9 prog 129 3 (.int .u64 n)=some (.int .i64 n):=by
 have a:db5 prog 3=some .i64:=by kernel_rfl
 have b:(prog.underlying 129).isSome=true:=by kernel_rfl
 simp only[bg9,a,b,dS6]
 congr 2
 exact M3 _ (by omega)
def dy3{P:Program}{t:TypeId}{n:Nat}:B4 P .shr t (.int .u64 n) (.int .u64 1)=some (.int .u64 (n / 2:Nat)):=by
 simp only[B4];rw[if_neg (by decide)]
 congr 2
 have:min (Int.toNat 1) IntKind.u64.bits=1:=by decide
 rw[this,Int.fdiv_eq_ediv_of_nonneg _ (by decide)]
 norm_cast
def bZ7(v:Value)(l:List A6)(x:A6)(w:World)(hv:R (i4 w) v l)(V:l.length<=1000000000)(U:l.Pairwise (λa b=>ltS a b=true)):
  p7 prog 237 #[v,p6 x] w λu M=>(∃i:Int,u = .tuple #[.int .i64 i,.bool (l.contains x)]/\M=w):=by
 refine p9 [v,p6 x] func237 rfl ?_;have S:=hv.isS;have T:=hv.vlen;have z:=dT5.1 U;simp only[n8,o6,simprocAttr,S,T];refine n9 [0,1,6] (σ:=Nat×Nat) (λs f M=>f 7 = .int .i64 s.1/\f 8 = .int .i64 s.2/\s.1<=s.2/\s.2<=l.length/\(∀j (O:j<l.length),j<s.1->ltS l[j] x=true)/\(∀j (O:j<l.length),s.2<=j->ltS l[j] x=false)/\M=w) (λs=>s.2-s.1) (0,l.length) ?_ ?_
 ·simp only[p8,simprocAttr];exact⟨by trivial,by trivial,dN6 _,dO0 _,λj _ h=>by omega,λj O h=>by omega,by trivial⟩
 rintro⟨i,j⟩ f P o ⟨r,C,I,J,q,t,rfl⟩;simp only at r C I J q t;simp only[dM6,p8,simprocAttr]at o;obtain⟨e0,E,F,_⟩:=o;simp only[n8,o6,simprocAttr,r,C];refine n7 (λG=>?_) (λG=>?_)
 ·have c:i<j:=by simpa using G
  have L:IntKind.i64.wrap ((i:Int)+(j:Int))=((i+j:Nat):Int):=by rw[M3 _ (by omega)];omega
  have hm:(i+j) / 2<l.length:=by omega
  have g:=hv.inS hm;have p:=ldS hv (i5 _) hm;have D:=cZ7 (n:=i+j) (by omega);have A:=cZ8 (n:=(i+j) / 2) (by omega);generalize Q:(i+j) / 2=m at hm g p A;have K:B4 prog .shr 129 (.int .u64 ((i+j:Nat):Int)) (.int .u64 1)=some (.int .u64 (m:Nat)):=by rw[dy3,Q]
  simp only[n8,zVC,y0,simprocAttr,r,C,L,D,K,A,e0,E,g,p];refine E0 (cB3 l[m] x P) ?_;rcases dM5 (ltS l[m] x)with hq|hq
  ·simp only[n8,o6,simprocAttr,hq,C];refine⟨(m+1,j),by omega,dO2 _ (B0 m (by omega)),by trivial,by omega,by omega,λk o y=>?_,t,by trivial⟩;simp only at y;rcases dQ7 k m with h|h
   ·exact aq1 (z k m o hm h) hq
   ·obtain rfl:k=m:=by omega
    exact hq
  ·simp only[n8,simprocAttr,hq,r];refine⟨(i,m),by omega,by trivial,by trivial,by omega,by omega,q,λk o y=>?_,by trivial⟩;simp only at y;rcases dQ7 m k with h|h
   ·cases hz:ltS l[k] x
    ·rfl
    ·have:=aq1 (z m k hm o h) hz;rw[hq]at this;cases this
   ·obtain rfl:k=m:=by omega
    exact hq
 ·have H:i=j:=by simp at G;omega
  subst H;rcases dM5 (decide ((i:Int)<(l.length:Int)))with c|c
  ·have B:i<l.length:=by simpa using c
   have g:=hv.inS B;have p:=ldS hv (i5 _) B;rcases dM5 (decide (l[i]=x))with hq|hq
   ·have d:l.contains x=true:=dO5.2 (by rw[<-dM8 hq];exact dN5 B);simp only[n8,o6,y0,simprocAttr,r,e0,E,F,c,g,p,hq];refine T3 results237 ?_;simp only[p8,simprocAttr];exact⟨i,by rw[d],by trivial⟩
   ·have d:l.contains x=false:=by
     cases hz:l.contains x
     ·rfl
     ·obtain⟨k,o,e⟩:=dT0.1 (dO5.1 hz);rcases Nat.lt_trichotomy k i with h|h|h
      ·have:=q k o h;rw[e,L5]at this;cases this
      ·subst h;exact absurd e (dN2 hq)
      ·have N:=z i k B o h;rw[e,t i B (dO0 _)]at N;cases N
    simp only[n8,o6,y0,simprocAttr,r,e0,E,F,c,g,p,hq];refine E0 (cC2 l[i] P) ?_;simp only[n8,simprocAttr];refine T3 results237 ?_;simp only[p8,simprocAttr];exact⟨i,by rw[d],by trivial⟩
  ·have d:l.contains x=false:=by
    cases hz:l.contains x
    ·rfl
    ·obtain⟨k,o,e⟩:=dT0.1 (dO5.1 hz);have:=q k o (by simp at c;omega);rw[e,L5]at this;cases this
   simp only[n8,o6,simprocAttr,r,F,c];refine T3 results237 ?_;simp only[p8,simprocAttr];exact⟨i,by rw[d],by trivial⟩
def af2(v:Value)(l:List A6)(x:A6)(w:World)(hv:R (i4 w) v l)(c:l.length<=1000000000)(d:l.Pairwise (λa b=>ltS a b=true)):
  p7 prog 189 #[v,p6 x] w λu e=>(u = .bool (l.contains x)/\e=w):=by
 refine p9 [v,p6 x] func189 rfl ?_;simp only[n8,o6,simprocAttr];refine y5 (bZ7 v l x w hv c d) ?_;rintro u f ⟨i,rfl,rfl⟩;simp only[n8,simprocAttr];exact o8 results189 ⟨rfl,by trivial⟩
def dG8:ak6 prog 209=true:=by kernel_rfl
def A8.flatR{α:Type}[I4 α]{h k:Hp}{w:World}{T:TypeId}{v:Value}{xs:List α}(a:A8 h w T v xs)(hb:∀b,A3 v b->k b=w.heap[b]?):R k v xs:=
 (a.down (h:=λ_=>none) (λb o e=>nomatch e)).ro (λb o e=>nomatch e) hb
def aj5{h:Hp}{w:World}{v:Value}{l:List A6}(f:A8 h w 9 v l)(d:l.length<=1000000000):
  p7 prog 126 #[v] w λu a=>(A8 h a 9 v (T4 l)/\o9 (A3 v) w a):=(cE0 f d).mono λe a ⟨b,c⟩=>⟨_,b,c⟩
def cb3(d:Value)(q:Pr)(n:A6)(a:Addr)(w:World)(hv:SV (i4 w) d q)(i:∀c,o7 w c->(Instr.loadAt 9 (.pointer (some a))).run prog c = .ok (p6 n) c):
  p7 prog 209 #[d,.pointer (some a)] w λu c=>(u = .bool (decide (q.name=n))/\o7 w c):=by
 refine p9 [d,.pointer (some a)] func209 rfl ?_;obtain⟨b,f,h,e,g⟩:=bm6 hv (i5 _);obtain⟨_,_,_,_,_,_,_,_,l,_⟩:=g.pr;have j:=l f (i5 _);have k:=i f e;simp only[n8,o6,simprocAttr,h,j,k];exact o8 results209 ⟨rfl,e⟩
def cl4(v:Value)(p:Pg)(n:A6)(w:World)(hv:SV (i4 w) v p)(hw:C5 p<=1000000):p7 prog 166 #[v,p6 n] w λu g=>(u = .bool (aI8 p n)/\o7 w g):=by
 refine p9 [v,p6 n] func166 rfl ?_;obtain⟨a,z,o,d,A⟩:=ag6 (w:=w) (λ_=>False) hv (λ_ h=>h.elim);obtain⟨L,J,K,D,G,_⟩:=K7.pg hv A;obtain⟨H,_⟩:=K7.pg_v hv A;obtain⟨b,B,m,e,i⟩:=dg8 n z;have j:∀g,o7 z g->B5 (B6 z λ_=>False) (i4 g):=λg h=>t8 (B2 _ _) (b7 h);have t:=H B (j _ e);have E:p.procs.length<=1000000:=by
  have:=ag0 p.procs;unfold C5 at hw;omega
 simp only[n8,o6,simprocAttr,o,m,t];refine B9 (ah4 v p B (hv.mono (b7 (d.trans e))) hw) (λC l=>?_);have c:=e.trans l;have F:=G C (j _ c);rcases dM5 (decide ((N8 p).1=0))with hsc|hsc
 ·simp only[n8,o6,simprocAttr,ao4,hsc,F];refine B9 (aT5 (λf=>decide (f.name=n)) 209 #[.pointer (some b)] J p.procs C dG8 (A4.mono (b7 (d.trans c)) D) (by omega)
   (λI x g r _ q=>cb3 I x n b g q λy k=>i y (l.trans (r.trans k)))) (λM s=>?_)
  simp only[n8,simprocAttr];refine o8 results166 ?_;simp only[p8,simprocAttr];exact⟨by rw[aI8,hsc,dT7],d.trans (c.trans s)⟩
 ·simp only[n8,o6,simprocAttr,ao4,hsc];refine o8 results166 ?_;simp only[p8,simprocAttr];exact⟨by rw[aI8,hsc];rfl,d.trans c⟩
def cx7(a:Addr)(p:Pg)(n:A6)(w:World)(hs:At (i4 w) a (b9 p))(hw:C5 p<=1000000)(hn:n∈p.procs.map (·.name)):
  p7 prog 210 #[.pointer (some a),p6 n] w λu O=>(A8 (i4 w) O 9 u (ag7 (b9 p) n)/\o7 w O):=by
 refine p9 [.pointer (some a),p6 n] func210 rfl ?_;obtain⟨i,hi,I,_⟩:=Q9 hn;obtain⟨x,Z,_⟩:=V9 p hw i hi;obtain⟨af,G⟩:=bi9 p hw i hi;have al:(b9 p).p.procs.length<=1000000:=by
  rw[K9];have:=ag0 p.procs;unfold C5 at hw;omega
 simp only[n8,o6,simprocAttr];refine B9 (at0 a (b9 p) n w hs (by omega)) (λw1 L=>?_);rw[I];simp only[n8,simprocAttr];refine y5 (aY6 a (b9 p) i x _ w1 (hs.mono (b7 L)) Z) ?_;rintro ul w2 ⟨g,aa⟩;have o:=L.trans aa;have hF:ag7 (b9 p) n=G7 (T4 ((((b9 p).of i).filter λit=>decide (it.s.kind=4)).map (·.s.proc))):=by rw[ag7,I];rfl
 generalize(b9 p).of i=l at g G hF;have R:=g.isS;have X:=g.vlen;simp only[n8,o6,simprocAttr,R,X];refine n9 [12,13] (σ:=Nat×Value) (λs f O=>f 14 = .int .i64 s.1/\f 5=s.2/\s.1<=l.length/\A8 (i4 w2) O 9 s.2 (((l.take s.1).filter λit=>decide (it.s.kind=4)).map (·.s.proc))/\o7 w2 O) (λs=>l.length-s.1) (0,.slice none 0 0) ?_ ?_
 ·simp only[p8,simprocAttr];exact⟨by trivial,by trivial,dN6 _,by simpa using A8.nil _ _ _,o9.refl _⟩
 rintro⟨k,u⟩ f w3 hk ⟨j,A,U,H,m⟩;simp only at j A U H;simp only[dM6,p8,simprocAttr]at hk;obtain⟨z,Q,_⟩:=hk;have E:((l.take k).filter λit=>decide (it.s.kind=4)).length<=k:=dN1 (dP3 _ _) (by rw[dN9];omega);simp only[n8,o6,simprocAttr,j,Q];refine n7 (λS=>?_) (λS=>?_);rotate_left
 ·have T:k=l.length:=by simp at S;omega
  subst T;rw[dN8]at H E;simp only[n8,simprocAttr,A];refine y5 (aj5 H (by rw[dN4];omega)) ?_;rintro _ w4 ⟨d,V⟩;have b:=H.ext2 m V;simp only[n8,simprocAttr,A];refine y5 (bc1 d (by rw[U0,dN4];omega)) ?_;rintro u5 w5 ⟨Y,W,_⟩;have M:=d.ext2 b W;simp only[n8,simprocAttr];exact o8 results210 ⟨by rw[hF];exact Y.back o,o.trans M⟩
 have r:k<l.length:=by simpa using S
 have F:=g.inS r;obtain⟨sv,K,q⟩:=F9 (P:=prog) (t:=150) g (b7 m) (dM4 r) X0 X2 V5 H9;rw[H9]at q;have v:((l.take (k+1)).filter λit=>decide (it.s.kind=4)).map (·.s.proc)=((l.take k).filter λit=>decide (it.s.kind=4)).map (·.s.proc)++if l[k].s.kind=4 then[l[k].s.proc]else[]:=by
  rw[dN3 r,dS4,dP6]
  congr 1
  by_cases h:l[k].s.kind=4<;>simp[h]
 generalize l[k]=it at K v;obtain⟨c,av,w4,B,J,N,C⟩:=ak8 (K.mono (b7 m)) (i5 _);obtain⟨D,_,_⟩:=C.it;obtain⟨_,_,_,_,_,_,_,_,_,ab,_⟩:=D.st;have l4:=ab w4 (i5 _);have d:=H.ext N;have b:=m.trans N;rcases dM5 (decide (it.s.kind=4))with hq|hq
 ·obtain⟨p1,u',w5,p2,p3,p4,p5⟩:=push (e:=31) at4 rfl d (x:=p6 it.s.proc) (y:=it.s.proc) rfl (by rw[dN4];omega) (by rw[dN4];omega) (b7 b);simp only[n8,o6,y0,simprocAttr,j,A,z,F,q,B,J,l4,hq,p1,p2];refine⟨(k+1,u'),by omega,dO2 _ (B0 k (by omega)),by trivial,by omega,?_,d.ext2 b p4⟩;simp only[];rw[v,if_pos (dM8 hq)];exact p3
 ·simp only[n8,o6,y0,simprocAttr,j,A,z,F,q,B,J,l4,hq];refine⟨(k+1,u),by omega,dO2 _ (B0 k (by omega)),by trivial,by omega,?_,b⟩;simp only[];rw[v,if_neg (dN2 hq),dP8];exact d
def bp5(g:A6->List A6)(m i:Nat)(a:List A6)(h:a.length<=i):P4 g m i a=a:=by
 cases m with
 | zero=>rfl
 | succ m=>rw[P4,dV0 h]
def bC1(g:A6->List A6)(m i:Nat)(a:List A6)(h:i<a.length):P4 g (m+1) i a=P4 g m (i+1) (R6 a (g a[i])):=by
 rw[P4,dM4 h]
def ce1{p:Pg}(hw:C5 p<=1000000){n:A6}(hn:n∈p.procs.map (·.name)):(ag7 (b9 p) n).length<=400000:=by
 obtain⟨i,c,b,_⟩:=Q9 hn;obtain⟨_,a⟩:=bi9 p hw i c;unfold ag7;rw[b];refine dN1 (av5 _) ?_;rw[dN4];exact dN1 (dP3 _ _) a
def cX9(a:Addr)(p:Pg)(n:A6)(w:World)(hs:At (i4 w) a (b9 p))(hw:C5 p<=1000000)(K:Known p)(hn:n∈p.procs.map (·.name)):
  p7 prog 167 #[.pointer (some a),p6 n] w λu O=>(A8 (i4 w) O 9 u (ax3 (b9 p) n)/\o7 w O):=by
 refine p9 [.pointer (some a),p6 n] func167 rfl ?_;have aK:p.procs.length<=1000000:=by
  have:=ag0 p.procs;unfold C5 at hw;omega
 have hF:ax3 (b9 p) n=T4 (P4 (ag7 (b9 p)) (p.procs.length+1) 0 [n]):=by rw[ax3,K9]
 have hg:=λm (hm:m∈p.procs.map (·.name))=>cx7 (p:=p) (n:=m) (a:=a) (hw:=hw) (hn:=hm);have V:=λm x (hm:m∈p.procs.map (·.name)) hx=>aH0 K (m:=m) (x:=x) hm hx;have W:=λm (hm:m∈p.procs.map (·.name))=>ce1 hw hm;have Y:(p.procs.map (·.name)).length=p.procs.length:=dN4 _;generalize ag7 (b9 p)=g at hF hg V W;generalize p.procs.map (·.name)=F at hn hg V W Y;obtain⟨u1,w1,ah,az,aB,_⟩:=lit (P:=prog) (w:=w) (h:=i4 w) (α:=A6) (xs:=[p6 n]) (ys:=[n]) (parts:=#[(0,p6 n)]) (n:=1) at4 rfl (ay0.2 rfl) (by simp[p6,Value.cells]) rfl rfl (by simp) (by simp) (i5 _);simp only[n8,o6,simprocAttr,ah];refine n9 [0] (σ:=Nat×Value×List A6) (λs f O=>f 6 = .int .i64 s.1/\f 5=s.2.1/\s.1<=s.2.2.length/\A8 (i4 w) O 9 s.2.1 s.2.2/\s.2.2.Nodup/\(∀x∈s.2.2,x∈F)/\P4 g (p.procs.length+1) 0 [n]=P4 g (p.procs.length+1-s.1) s.1 s.2.2/\o7 w O) (λs=>p.procs.length+1-s.1) (0,u1,[n]) ?_ ?_
 ·simp only[p8,simprocAttr];exact⟨by trivial,by trivial,dN6 _,az,by simp,by simpa using hn,by simp,aB⟩
 rintro⟨i,u,t⟩ f w2 hk ⟨h6,h5,au,G,X,A,j,L⟩;simp only at h6 h5 au G X A j;simp only[dM6,p8,simprocAttr]at hk;obtain⟨e0,_⟩:=hk;have aJ:t.length<=p.procs.length:=by rw[<-Y];exact I2 X A
 have aq:=G.isS;have ay:=G.vlen;simp only[n8,o6,simprocAttr,h6,h5,aq,ay];refine n7 (λT=>?_) (λT=>?_);rotate_left
 ·have U:i=t.length:=by simp at T;omega
  subst U;rw[bp5 g _ _ _ (dO0 _)]at j;simp only[n8,simprocAttr,h5];refine y5 (aj5 G (by omega)) ?_;rintro _ w4 ⟨r,q⟩;simp only[n8,simprocAttr,h5];exact o8 results167 ⟨by rw[hF,j];exact r,G.ext2 L q⟩
 have I:i<t.length:=by simpa using T
 have av:=G.inS I;have ag:=ldS (G.rw_ (b7 L)) (i5 _) I;have J:=A _ (dN5 I);rw[show p.procs.length+1-i=(p.procs.length-i)+1 by omega,bC1 g _ _ _ I]at j;generalize t[i]=m at ag J j;simp only[n8,o6,y0,simprocAttr,h6,h5,e0,av,ag];refine y5 (hg m J w2 (hs.mono (b7 L))) ?_;rintro uc w3 ⟨Z,aa⟩;have D:R (B6 w3 (A3 u)) uc (g m):=Z.flatR λb H=>D8 λS=>by
  have h1:=G.lt S;have h2:=D0 (Z.free H);omega
 have ak:=L.trans aa;have aA:=G.ext aa;have ad:=W m J;have ac:=λx=>V m x J;generalize g m=Q at Z D ad j ac;have ap:=D.isS;have ax:=D.vlen;simp only[n8,o6,simprocAttr,ap,ax];refine n9 [0,6,22,23] (σ:=Nat×Value×List A6) (λs f O=>f 24 = .int .i64 s.1/\f 5=s.2.1/\s.1<=Q.length/\A8 (i4 w) O 9 s.2.1 s.2.2/\s.2.2.Nodup/\(∀x∈s.2.2,x∈F)/\R6 t Q=R6 s.2.2 (Q.drop s.1)/\t.length<=s.2.2.length/\o9 (A3 u) w3 O/\F0 w3 u s.2.1) (λs=>Q.length-s.1) (0,u,t) ?_ ?_
 ·simp only[p8,simprocAttr];exact⟨by trivial,h5,dN6 _,G.ext aa,X,A,by rw[dV7],dO0 _,o9.refl _,λb H=>.inl H⟩
 rintro⟨k,u4,o⟩ f4 w4 hk ⟨B,C,aw,r,l,d,c,aj,q,z⟩;simp only at B C aw r l d c aj z;simp only[dM6,p8,simprocAttr]at hk;obtain⟨g0,g6,an,ao,_⟩:=hk;have E:=aA.ext2 ak q;have aF:o.length<=p.procs.length:=by rw[<-Y];exact I2 l d
 simp only[n8,o6,simprocAttr,B,ao];refine n7 (λT=>?_) (λT=>?_);rotate_left
 ·have U:k=Q.length:=by simp at T;omega
  subst U;rw[dV9,R6]at c;rw[c]at j;simp only[n8,o6,simprocAttr,g6,h6];refine⟨(i+1,u4,o),by simp only[];omega,by simp only[];rw[B0 i (by omega)],C,by simp only[];omega,r,l,d,?_,E⟩;simp only[];rw[j]
  congr 1
  omega
 have v:k<Q.length:=by simpa using T
 have ae:=D.inS v;have N:=ldS D (E1 q) v;rw[dR1 v,R6]at c;have M:=ac _ (dN5 v);generalize Q[k]=y at N c M;simp only[n8,o6,y0,simprocAttr,B,C,an,ae,N];refine E0 (P6 u4 o y w4 (r.rw_ (b7 E)) (by omega)) ?_;rcases dM5 (o.contains y)with hq|hq
 ·rw[if_pos hq]at c;simp only[n8,o6,simprocAttr,hq,B];refine⟨(k+1,u4,o),by simp only[];omega,by simp only[];rw[B0 k (by omega)],C,by simp only[];omega,r,l,d,c,aj,q,z⟩
 ·obtain⟨p1,u5,w5,p2,p3,p4,p5⟩:=push (e:=31) at4 rfl r (x:=p6 y) (y:=y) rfl (by omega) (by omega) (b7 E);rw[if_neg (by rw[hq];simp)]at c;simp only[n8,o6,simprocAttr,hq,B,C,p1,p2];refine⟨(k+1,u5,o++[y]),by simp only[];omega,by simp only[];rw[B0 k (by omega)],by trivial,by simp only[];omega,p3,?_,?_,c,by simp only[dM7];omega,q.chain p4 λb H S=>?_,λb H=>?_⟩
  ·rw[dR0];refine⟨l,by simp,λa ha b H=>?_⟩;simp only[dP1]at H;subst H;rintro rfl;rw[dO5.2 ha]at hq;cases hq
  ·intro x hx;simp only at hx;rcases dN7.1 hx with h|h
   ·exact d x h
   ·simp only[dP1]at h;subst h;exact M
  ·rcases z b S with h|h
   ·exact h
   ·omega
  ·rcases p5 b H with h|h
   ·exact z b h
   ·exact .inr (dN1 q.size h)
def N5{α β:Type}(f:α->List β)(B:Nat):∀(l:List α),(∀x∈l,(f x).length<=B)->(l.flatMap f).length<=l.length*B
 | [],_=>by simp
 | x::l,h=>by
  have b:=N5 f B l λy a=>h y (by simp[a]);have c:=h x (by simp);rw[dW2,dM7,dP4,Nat.succ_mul];omega
def cq4{α β:Type}(f:α->List β)(l:List α)(k:Nat):((l.take k).flatMap f).length<=(l.flatMap f).length:=by
 conv=>rhs;rw[<-dR8 k l,dZ6,dM7]
 omega
def be6(g:St->Nat)(l:List It):Nat:=(l.map λit=>g it.s).sum
def cb2(g:St->Nat)(l m:List It):be6 g (l++m)=be6 g l+be6 g m:=by simp[be6]
def bH0(g:St->Nat)(x:It)(m:List It):be6 g (x::m)=g x.s+be6 g m:=by simp[be6]
mutual
def de3(g:St->Nat)(d:∀t:St,g t+I1 t.thn+I1 t.els<=R4 t):∀(t:St) (k:Nat) (c i h f:Int),be6 g (Y9 t k c i h f)<=R4 t
 | .mk id kind labels name proc x has args thn els,k,c,i,h,f=>by
  rw[R8,bH0,cb2];have j:=λe b a=>aZ5 g d els e c (k+1) b a;have l:=λe b a=>aZ5 g d thn e c (k+1) b a;have m:=d (.mk id kind labels name proc x has args thn els);simp only[St.thn,St.els]at m ⊢;refine dN1 (Nat.add_le_add_left (Nat.add_le_add (l _ _ _) (j _ _ _)) _) ?_;omega
def aZ5(g:St->Nat)(a:∀t:St,g t+I1 t.thn+I1 t.els<=R4 t):∀(l:List St) (k:Nat) (d e c b:Int),be6 g (D2 l k d e c b)<=I1 l
 | [],_,_,_,_,_=>by simp[D2,be6]
 | t::l,k,d,e,c,b=>by
  rw[D2,cb2,I1];exact Nat.add_le_add (de3 g a t _ _ _ _ _) (aZ5 g a l _ _ _ _ _)
end
def dc7(g:St->Nat)(c:∀t:St,g t+I1 t.thn+I1 t.els<=R4 t)(p:Pg)(hw:C5 p<=1000000)(i:Nat)(a:i<p.procs.length):be6 g ((b9 p).of i)<=1000000:=by
 obtain⟨x,_,e⟩:=V9 p hw i a;have d:=aZ5 g c p.procs[i].body x i 0 (-1) 0;have b:=at1 p hw _ (dN5 a);unfold X3 at b;rw[e];omega
def cb1(t:St):(K1 t).length+I1 t.thn+I1 t.els<=R4 t:=by
 rw[S8];have a:=ae3 t.x;have b:=O1 t.args;have c:1<=wtT t.name:=by simp[wtT]
 have d:(if t.kind≠10/\t.name≠e0 then[t.name]else[]).length<=1:=by split<;>simp
 unfold K1;rw[dM7,dM7];omega
def bh7(f:It->List A6)(g:St->Nat)(h:∀it,(f it).length<=g it.s):∀l:List It,(l.flatMap f).length<=be6 g l
 | []=>by simp[be6]
 | x::l=>by
  have:=bh7 f g h l;have:=h x;rw[dW2,dM7,bH0];omega
def aB1{g:A6->List A6}{names:List A6}(b:∀m∈names,∀x∈g m,x∈names):∀(m i:Nat) (a:List A6),a.Nodup->(∀x∈a,x∈names)->(P4 g m i a).Nodup/\∀x∈P4 g m i a,x∈names
 | 0,i,a,h1,h2=>⟨h1,h2⟩
 | m+1,i,a,h1,h2=>by
  rw[P4];split
  ·exact⟨h1,h2⟩
  ·next n c=>
   refine aB1 b m (i+1) _ (aA6 _ _ h1) λx d=>?_;rcases(ar2 _ _ _).1 d with h|h
   ·exact h2 x h
   ·exact b n (h2 n (dO4 c)) x h
def cH1{p:Pg}(K:Known p){n:A6}(hn:n∈p.procs.map (·.name)):(ax3 (b9 p) n).length<=p.procs.length/\∀x∈ax3 (b9 p) n,x∈p.procs.map (·.name):=by
 obtain⟨d,b⟩:=aB1 (g:=ag7 (b9 p)) (names:=p.procs.map (·.name)) (λm hm x a=>aH0 K hm a) ((b9 p).p.procs.length+1) 0 [n] (by simp) (by simpa using hn);have c:=I2 d b;rw[dN4]at c;unfold ax3;exact⟨by rw[U0];exact c,λx a=>b x ((T0 _).mem_iff.1 a)⟩
def bN4{p:Pg}(K:Known p):p.procs.length<=16/\p.globals.length<=16:=by
 have:=K.may;simp only[N2,dO8,dQ3]at this;exact⟨this.1.1.2,this.1.1.1⟩
def az3(h:Hp)(a:Addr)(s:Sh)(i x y:Nat)(w:World)(D:At h a s)(C:B5 h (i4 w))(b:bz1 s i x y):p7 prog 112 #[.pointer (some a),.int .i64 i] w λu c=>(R h u (s.of i)/\o7 w c):=by
 refine p9 [.pointer (some a),.int .i64 i] func112 rfl ?_;obtain⟨I,q,p,l,k,g,B,L,H⟩:=D.sh;have e:∀c,o7 w.drew c->B5 h (i4 c):=λc h=>t8 C (b7 ((o7.drew w).trans h));have G:=H (λc=>o7 w.drew c) w.drew (o9.refl _) e;have n:=k.inS (dM9.1 b.lo).1;have o:=g.inS (dM9.1 b.hi).1;have E:∀K f d w0,F3 prog (λc=>o7 w.drew c) (Instr.loadAt 3 (.pointer (some (G4 q i)))) K f d w0=K (C4 f d (.int .i64 ((x:Int)+1))) w0:=λK f d w0=>B7 (w0:=w.drew) (o9.refl _) λc h=>ldI k (e c h) b.lo;have F:∀K f d w0,F3 prog (λc=>o7 w.drew c) (Instr.loadAt 3 (.pointer (some (G4 p i)))) K f d w0=K (C4 f d (.int .i64 ((y:Int)+1))) w0:=λK f d w0=>B7 (w0:=w.drew) (o9.refl _) λc h=>ldI g (e c h) b.hi;have B5:=b.le;have j:=b.len;have r:=b.fit;have z:IntKind.i64.wrap ((x:Int)+1-1)=(x:Int):=by rw[M3 _ (by omega)];omega
 have A:IntKind.i64.wrap ((y:Int)+1-1)=(y:Int):=by rw[M3 _ (by omega)];omega
 have m:=l.isS;have J:=l.vcap;have t:decide ((x:Int)<=(y:Int))=true:=by simp;omega
 have v:decide ((y:Int)<=(vcap I:Int))=true:=by simp;omega
 simp only[n8,o6,simprocAttr];refine C0 (λc=>o7 w.drew c) 22 (A5 [0,1,2,3,4,5,6,7,8,9,10,11,12,13,14,15,16,17,18,19,20,21]) ?_;simp only[D6,A5,n8,o6,y0,F8,simprocAttr,G,n,o,E,F,z,A,m,t,v];refine o8 results112 ?_;simp only[p8,simprocAttr];refine⟨?_,o7.drew w⟩;rw[b.of_];exact bQ7 l B5 j
def bQ4(v:Value)(p:Pg)(n:A6)(w:World)(hv:SV (i4 w) v p)(hw:C5 p<=1000000):p7 prog 118 #[v,p6 n] w λu G=>(A8 (i4 w) G 9 u (P5 p n)/\o7 w G):=by
 refine p9 [v,p6 n] func118 rfl ?_;obtain⟨a,w1,bh,L,ha⟩:=ag6 (w:=w) (λ_=>False) hv (λ_ h=>h.elim);obtain⟨vg,vp,hg,hp,ld,_⟩:=K7.pg hv ha;obtain⟨lw,_⟩:=K7.pg_v hv ha;have az:∀G,o7 w1 G->B5 (B6 w1 λ_=>False) (i4 G):=λG h=>t8 (B2 _ _) (b7 h);have bz:=lw w1 (az _ (o9.refl _));simp only[n8,o6,simprocAttr,bh,bz];refine B9 (cl4 v p n w1 (hv.mono (b7 L)) hw) (λw2 al=>?_);rcases dM5 (aI8 p n)with hkn|hkn;rotate_left
 ·simp only[n8,o6,simprocAttr,hkn];exact o8 results118 ⟨by rw[P5,if_neg (by rw[hkn];simp)];exact A8.nil _ _ _,L.trans al⟩
 have hF:P5 p n=G7 (T4 ((ax3 (b9 p) n).flatMap λm=>((b9 p).of ((b9 p).pr m)).flatMap λit=>(K1 it.s).filter λv=>p.globals.contains v)):=by rw[P5,if_pos hkn];rfl
 have S:=hkn;rw[aI8,dO8]at S;have K:=bt2 (dM8 S.1);have hn:n∈p.procs.map (·.name):=by
  obtain⟨q,hq,e⟩:=dZ8.1 S.2;exact dO7.2 ⟨q,hq,dM8 e⟩
 have bA:=lw w2 (az _ al);simp only[n8,o6,simprocAttr,hkn,bA];refine y5 (al0 v p w2 (hv.mono (b7 (L.trans al))) hw) ?_;rintro us w3 ⟨sh,rfl,hsh,hx3⟩;have aU:=al.trans hx3;simp only[n8,simprocAttr];refine y5 (cX9 sh p n w3 hsh hw K hn) ?_;rintro ul w5 ⟨bs,Z⟩;have X:=bs.rw_ (b7 Z);have J:=aU.trans Z;obtain⟨bl,U⟩:=cH1 K hn;obtain⟨bJ,bH⟩:=bN4 K;have bt:=K9 p;have bw:=ah5 p hw;generalize ax3 (b9 p) n=l1 at X bl U hF;have hA:∀m∈p.procs.map (·.name),(((b9 p).of ((b9 p).pr m)).flatMap λit=>(K1 it.s).filter λv=>p.globals.contains v).length<=1000000:=λm hm=>by
  obtain⟨i,hi,ak,_⟩:=Q9 hm;rw[ak];refine dN1 (bh7 _ (λt=>(K1 t).length) (λit=>dP3 _ _) _) ?_;exact dc7 _ cb1 p hw i hi
 have bd:=X.isS;have bo:=X.vlen;generalize aI:(λm=>((b9 p).of ((b9 p).pr m)).flatMap λit=>(K1 it.s).filter λv=>p.globals.contains v)=A at hF;have aH:∀m∈p.procs.map (·.name),(A m).length<=1000000:=λm hm=>by rw[<-aI];exact hA m hm
 have aS:(l1.flatMap A).length<=16000000:=by
  refine dN1 (N5 A 1000000 l1 λx hx=>aH x (U x hx)) ?_;omega
 simp only[n8,o6,simprocAttr,bd,bo];refine n9 [2,5,21,22] (σ:=Nat×Value) (λs f G=>f 23 = .int .i64 s.1/\f 6=s.2/\s.1<=l1.length/\A8 (i4 w5) G 9 s.2 ((l1.take s.1).flatMap A)/\o7 w5 G) (λs=>l1.length-s.1) (0,.slice none 0 0) ?_ ?_
 ·simp only[p8,simprocAttr];exact⟨by trivial,by trivial,dN6 _,by simpa using A8.nil _ _ _,o9.refl _⟩
 rintro⟨i,u⟩ f w6 hk ⟨ad,h6,bi,ho,am⟩;simp only at ad h6 bi ho;simp only[dM6,p8,simprocAttr]at hk;obtain⟨e2,e5,a4,a5,_⟩:=hk;have aQ:=dN1 (cq4 A l1 i) aS;simp only[n8,o6,simprocAttr,ad,a5];refine n7 (λO=>?_) (λO=>?_);rotate_left
 ·have Q:i=l1.length:=by simp at O;omega
  subst Q;rw[dN8]at ho;simp only[n8,simprocAttr,h6];refine y5 (aj5 ho (by omega)) ?_;rintro _ w7 ⟨aO,bm⟩;have aV:=ho.ext2 am bm;simp only[n8,simprocAttr,h6];refine y5 (bc1 aO (by rw[U0];omega)) ?_;rintro u8 w8 ⟨ah,bn,_⟩;have aa:=aO.ext2 aV bn;have aT:=L.trans (J.trans aa);simp only[n8,simprocAttr];exact o8 results118 ⟨by rw[hF];exact ah.back (L.trans J),aT⟩
 have ag:i<l1.length:=by simpa using O
 have D:=X.inS ag;have d:=ldS X (b7 am) ag;have aC:=H4 A l1 ag;have aA:=U _ (dN5 ag);have aJ:=aH _ aA;generalize l1[i]=m at d aC aA aJ;obtain⟨q,hq,ak,_⟩:=Q9 aA;obtain⟨x,br,_⟩:=V9 p hw q hq;obtain⟨aq,aM⟩:=bi9 p hw q hq;have aw:o7 w3 w6:=Z.trans am;simp only[n8,o6,y0,simprocAttr,ad,e5,a4,D,d];refine B9 (at0 sh (b9 p) m w6 (hsh.mono (b7 aw)) (by rw[bt];omega)) (λw7 aE=>?_);rw[ak];simp only[n8,simprocAttr];refine y5 (az3 (i4 w3) sh (b9 p) q x _ w7 hsh (b7 (aw.trans aE)) br) ?_;rintro ui w8 ⟨W,aW⟩;have af:A m=((b9 p).of q).flatMap λit=>(K1 it.s).filter λv=>p.globals.contains v:=by
  rw[<-aI];simp only[ak]
 generalize(b9 p).of q=l at W aq aM af;have be:=W.isS;have bp:=W.vlen;have ah:=ho.ext (aE.trans aW);have aa:=am.trans (aE.trans aW);generalize a9:(λit:It=>(K1 it.s).filter λv=>p.globals.contains v)=B at af;have ba:(l.flatMap B).length<=1000000:=by rw[<-af];exact aJ
 generalize(l1.take i).flatMap A=pre at ah aQ aC;simp only[n8,o6,simprocAttr,be,bp];refine n9 [2,5,21,22,23,31,32] (σ:=Nat×Value) (λs f G=>f 33 = .int .i64 s.1/\f 6=s.2/\s.1<=l.length/\A8 (i4 w5) G 9 s.2 (pre++(l.take s.1).flatMap B)/\o7 w5 G) (λs=>l.length-s.1) (0,u) ?_ ?_
 ·simp only[p8,simprocAttr];exact⟨by trivial,h6,dN6 _,by simpa using ah,aa⟩
 rintro⟨j,u9⟩ f9 w9 hk ⟨ae,ax,bj,aj,an⟩;simp only at ae ax bj aj;simp only[dM6,p8,simprocAttr]at hk;obtain⟨g2,g5,bS,bT,a6,a7,a8,_⟩:=hk;have aB:=dN1 (cq4 B l j) ba;simp only[n8,o6,simprocAttr,ae,a8];refine n7 (λO=>?_) (λO=>?_);rotate_left
 ·have Q:j=l.length:=by simp at O;omega
  subst Q;rw[dN8,<-af]at aj;simp only[n8,o6,simprocAttr,a6,ad];refine⟨(i+1,u9),by omega,dO2 _ (B0 i (by omega)),ax,by omega,?_,an⟩;simp only[];rw[aC];exact aj
 have I:j<l.length:=by simpa using O
 clear D d;have D:=W.inS I;obtain⟨sv,aR,d⟩:=F9 (P:=prog) (t:=150) W (b7 (Z.trans an)) (dM4 I) X0 X2 V5 H9;rw[H9]at d;have V:=H4 B l I;have Y:=bw _ (aq _ (dN5 I));generalize l[j]=it at aR V Y;obtain⟨c,cj,aZ,bg,bu,au,aK⟩:=ak8 (aR.mono (b7 (Z.trans an))) (i5 _);obtain⟨aL,_,_⟩:=aK.it;obtain⟨vt,bv,bx,_⟩:=aL.st_v;have k3:=bx aZ (i5 _);have ao:B it=(K1 it.s).filter λv=>p.globals.contains v:=by rw[<-a9]
 simp only[n8,o6,y0,simprocAttr,ae,a7,D,d,bg,bu,k3];refine y5 (bk3 vt it.s aZ bv Y) ?_;rintro uN aF ⟨aP,av⟩;have ar:=aj.ext au;have C:R (B6 aF (A3 u9)) uN (K1 it.s):=aP.flatR λb hb=>D8 λay=>by
  have h1:=ar.lt ay;have h2:=D0 (aP.free hb);omega
 have T:=ar.ext av;have aD:=an.trans (au.trans av);have bc:=dN1 (bk4 it.s) Y;generalize K1 it.s=M at C ao bc;generalize(l.take j).flatMap B=pre2 at T aB V;have bf:=C.isS;have bq:=C.vlen;simp only[n8,o6,simprocAttr,bf,bq];refine n9 [2,5,21,22,23,31,32,33,39,40] (σ:=Nat×Value) (λs f G=>f 41 = .int .i64 s.1/\f 6=s.2/\s.1<=M.length/\A8 (i4 w5) G 9 s.2 (pre++pre2++(M.take s.1).filter λv=>p.globals.contains v)/\o9 (A3 u9) aF G/\F0 aF u9 s.2) (λs=>M.length-s.1) (0,u9) ?_ ?_
 ·simp only[p8,simprocAttr];exact⟨by trivial,ax,dN6 _,by simpa using T,o9.refl _,λb hb=>.inl hb⟩
 rintro⟨k,aX⟩ bQ a0 hk ⟨N,H,bk,z,r,g⟩;simp only at N H bk z g;simp only[dM6,p8,simprocAttr]at hk;obtain⟨q2,q5,b8,ca,cb,cc,cd,bB,bC,bD,_⟩:=hk;have o:=T.ext2 aD r;have bG:((M.take k).filter λv=>p.globals.contains v).length<=k:=dN1 (dP3 _ _) (by rw[dN9];omega);simp only[n8,o6,simprocAttr,N,bD];refine n7 (λO=>?_) (λO=>?_);rotate_left
 ·have Q:k=M.length:=by simp at O;omega
  subst Q;rw[dN8,<-ao]at z;simp only[n8,o6,simprocAttr,bB,ae];refine⟨(j+1,aX),by omega,dO2 _ (B0 j (by omega)),H,by omega,?_,o⟩;simp only[];rw[V,<-dP5];exact z
 have E:k<M.length:=by simpa using O
 clear D d;have D:=C.inS E;have d:=ldS C (E1 r) E;have F:((M.take (k+1)).filter λv=>p.globals.contains v)=((M.take k).filter λv=>p.globals.contains v)++if p.globals.contains M[k]then[M[k]]else[]:=by
  rw[dN3 E,dS4]
  congr 1
  by_cases h:p.globals.contains M[k]=true<;>simp[List.filter_cons]
 generalize M[k]=y at d F;have lg:=ld a0 (az _ (J.trans o));simp only[n8,o6,y0,simprocAttr,N,q2,g2,e2,bC,D,d,lg];refine E0 (P6 vg p.globals y a0 (A4.mono (b7 (L.trans (J.trans o))) hg) (by omega)) ?_;rcases dM5 (p.globals.contains y)with hq|hq
 ·obtain⟨p1,bE,ch,p2,p3,p4,p5⟩:=push (e:=31) at4 rfl z (x:=p6 y) (y:=y) rfl (by simp only[dM7];omega) (by simp only[dM7];omega) (b7 o);simp only[n8,o6,simprocAttr,hq,N,H,p1,p2];refine⟨(k+1,bE),by omega,dO2 _ (B0 k (by omega)),by trivial,by omega,?_,r.chain p4 λb hb ay=>?_,λb hb=>?_⟩
  ·simp only[];rw[F,if_pos hq,<-dP5];exact p3
  ·rcases g b ay with h|h
   ·exact h
   ·omega
  ·rcases p5 b hb with h|h
   ·exact g b h
   ·exact .inr (dN1 r.size h)
 ·simp only[n8,o6,simprocAttr,hq,N];refine⟨(k+1,aX),by omega,dO2 _ (B0 k (by omega)),H,by omega,?_,r,g⟩;simp only[];rw[F,if_neg (by rw[hq];simp),dP8];exact z
def dZ2:=@Decidable.byContradiction
def cr4:prog.underlying 183=some (.map 9 31):=by kernel_rfl
def cu3:prog.underlying 9=some .string:=by kernel_rfl
def cj9(X H:Value)(t:St)(l:List A6)(w:World)(ht:SV (i4 w) X t)(hl:R (i4 w) H l)(U:R4 t<=1000000)(ah:l.length<=1000000000):
  p7 prog 119 #[X,H] w λu I=>(u = .bool (ah6 t l)/\o7 w I):=by
 refine p9 [X,H] func119 rfl ?_;obtain⟨b,Y,N,j,L⟩:=ao2 ht (i5 _);obtain⟨_,aq,_,_,_,g,_,_,_,D,_⟩:=L.st;have W:=D Y (i5 _);have hS:=g.isS;have hn:=g.vlen;rw[S8]at U;have af:=aq6 t.args;have G:ah6 t l=ah7 t.name l [] t.args:=rfl;simp only[n8,o6,simprocAttr,N,W,hS,hn];refine n9 [1,2,9,10] (σ:=Nat×Value×List A6) (λs f I=>f 11 = .int .i64 s.1/\f 5=s.2.1/\s.1<=t.args.length/\A8 (i4 Y) I 9 s.2.1 s.2.2/\ah7 t.name l [] t.args=ah7 t.name l s.2.2 (t.args.drop s.1)/\s.2.2.length<=s.1/\o7 Y I) (λs=>t.args.length-s.1) (0,.slice none 0 0,[]) ?_ ?_
 ·simp only[p8,simprocAttr];exact⟨by trivial,by trivial,dN6 _,A8.nil _ _ _,by rw[dV7],dO0 _,o9.refl _⟩
 rintro⟨k,u,h⟩ f w2 hk ⟨i,F,S,ho,d,T,n⟩;simp only at i F S ho d T;simp only[dM6,p8,simprocAttr]at hk;obtain⟨e1,Z,e9,K,_⟩:=hk;simp only[n8,o6,simprocAttr,i,K];refine n7 (λO=>?_) (λO=>?_);rotate_left
 ·have Q:k=t.args.length:=by simp at O;omega
  subst Q;rw[dV9,ah7]at d;simp only[n8,simprocAttr];refine o8 results119 ?_;simp only[p8,simprocAttr];exact⟨by rw[G,d],j.trans n⟩
 have q:k<t.args.length:=by simpa using O
 have r:=g.inS q;obtain⟨sv,A,p⟩:=F9 (P:=prog) (t:=124) g (b7 n) (dM4 q) aK3 aK4 aE0 X1;rw[X1]at p;rw[dR1 q,ah7]at d;generalize t.args[k]=y at A d;obtain⟨c,wz,J,o,z,B,M⟩:=ba0 (A.mono (b7 n)) (i5 _);obtain⟨_,V,_⟩:=M.ar;have C:=V J (i5 _);have a:=n.trans B;have m:=ho.ext B;have E:=D J (b7 a);rcases dM5 y.ref with v|v;rotate_left
 ·rw[if_neg (by rw[v];simp)]at d;simp only[n8,o6,y0,simprocAttr,i,e9,r,p,o,z,C,v];exact⟨(k+1,u,h),by simp only[];omega,by simp only[];rw[B0 k (by omega)],F,by simp only[];omega,m,d,by simp only[];omega,a⟩
 rw[if_pos v]at d;simp only[n8,o6,y0,simprocAttr,i,F,e9,r,p,o,z,C,v];refine E0 (P6 u h y.name J (m.rw_ (b7 a)) (by omega)) ?_;rcases dM5 (h.contains y.name)with q1|q1
 ·simp only[n8,simprocAttr,q1];refine o8 results119 ?_;simp only[p8,simprocAttr];exact⟨by rw[G,d,q1];rfl,j.trans a⟩
 rcases dM5 (decide (y.name=t.name))with q2|q2
 ·simp only[n8,o6,simprocAttr,q1,q2,Z,C,E];refine o8 results119 ?_;simp only[p8,simprocAttr];exact⟨by rw[G,d,q1,q2];rfl,j.trans a⟩
 simp only[n8,o6,simprocAttr,q1,q2,e1,Z,C,E];refine E0 (P6 H l y.name J (A4.mono (b7 (j.trans a)) hl) (by omega)) ?_;rcases dM5 (l.contains y.name)with q3|q3
 ·simp only[n8,simprocAttr,q3];refine o8 results119 ?_;simp only[p8,simprocAttr];exact⟨by rw[G,d,q1,q2,q3];rfl,j.trans a⟩
 rw[q1,q2,q3]at d;obtain⟨p1,u',w4,p2,p3,p4,p5⟩:=push (e:=31) at4 rfl m (x:=p6 y.name) (y:=y.name) rfl (by omega) (by omega) (b7 a);simp only[n8,o6,simprocAttr,q3,i,F,C,p1,p2];exact⟨(k+1,u',h++[y.name]),by simp only[];omega,by simp only[];rw[B0 k (by omega)],by trivial,by simp only[];omega,p3,d,by simp only[dM7,dP7];omega,m.ext2 a p4⟩
def be1:∀(l:List Pr) (s:Sh) (i:Nat) (it:It),it∈(H6 s i l).l->it∈s.l\/∃(k:Nat) (a:k<l.length),∃x,it∈D2 l[k].body x (i+k:Nat) 0 (-1) 0
 | [],s,i,it,h=>.inl h
 | f::l,s,i,it,h=>by
  rw[H6]at h;rcases be1 l _ _ it h with h|⟨k,a,x,h⟩
  ·simp only[F7]at h;rcases dN7.1 h with h|h
   ·exact .inl h
   ·exact .inr ⟨0,by simp,s.l.length,by simpa using h⟩
  ·exact .inr ⟨k+1,by simpa using a,x,by rw[show i+(k+1)=i+1+k by omega];simpa using h⟩
mutual
def bT6:∀(t:St) (k e:Nat) (h i g f c d b a:Int),(Y9 t k h i g f).map (·.s)=(Y9 t e c d b a).map (·.s)
 | .mk id kind labels name proc x has args thn els,k,e,h,i,g,f,c,d,b,a=>by
  rw[R8,R8];simp only[dQ8,dP6]
  congr 2
  ·exact ah0 _ _ _ _ _ _ _ _ _ _ _
  ·exact ah0 _ _ _ _ _ _ _ _ _ _ _
def ah0:∀(l:List St) (k e:Nat) (h i g f c d b a:Int),(D2 l k h i g f).map (·.s)=(D2 l e c d b a).map (·.s)
 | [],_,_,_,_,_,_,_,_,_,_=>by simp[D2]
 | t::l,k,e,h,i,g,f,c,d,b,a=>by
  rw[D2,D2];simp only[dP6]
  congr 1
  ·exact bT6 _ _ _ _ _ _ _ _ _ _ _
  ·exact ah0 _ _ _ _ _ _ _ _ _ _ _
end
def aA9{p:Pg}(K:Known p)(hw:C5 p<=1000000){it:It}(b:it∈(b9 p).l)(i:it.s.kind=4):it.s.proc∈p.procs.map (·.name):=by
 rcases be1 _ _ _ it b with h|⟨k,d,x,h⟩
 ·cases h
 ·obtain⟨j,_,e⟩:=V9 p hw k d;have f:it.s∈(D2 p.procs[k].body x (0+k:Nat) 0 (-1) 0).map (·.s):=dO7.2 ⟨it,h,rfl⟩;rw[ah0 _ _ j _ _ _ _ k 0 (-1) 0,<-e]at f;obtain⟨c,a,g⟩:=dO7.1 f;have:=(K.proc k d).2.2 c a;rw[g]at this;unfold ae0 at this;rw[dV2 i]at this;simp only[Bool.not_true,dZ4,dO8]at this;exact dO5.1 this.2.2
def cl5{p:Pg}(K:Known p)(n:A6):(P5 p n).length<=1000000000:=by
 unfold P5;split
 ·next h=>
  have d:=I2 (l:=D7 ((ax3 (b9 p) n).flatMap λm=>((b9 p).of ((b9 p).pr m)).flatMap λit=>(K1 it.s).filter λv=>p.globals.contains v)) (m:=p.globals) ?_ ?_
  ·have:=(bN4 K).2;exact dN1 d (by omega)
  ·exact(S6 _).imp fun{a b} hab=>by rintro rfl;rw[L5]at hab;cases hab
  ·intro x c;rw[I3]at c;obtain⟨m,_,c⟩:=dQ0.1 c;obtain⟨it,_,c⟩:=dQ0.1 c;exact dO5.1 (dP2.1 c).2
 ·simp
def bR0{p:Pg}(h:(ab2 p).1=0):(N8 p).1=0:=by
 unfold ab2 at h;split at h
 ·simp at h
 ·next a=>exact dZ2 a
def bo7(v:Value)(p:Pg)(w:World)(hv:SV (i4 w) v p)(hw:C5 p<=1000000):p7 prog 72 #[v] w λu d=>(u=U8 (aG8 p)/\o7 w d):=by
 refine p9 [v] func72 rfl ?_;obtain⟨a,w1,a9,aX,ha⟩:=ag6 (w:=w) (λ_=>False) hv (λ_ h=>h.elim);obtain⟨vg,vp,hg,hp,ld,_⟩:=K7.pg hv ha;obtain⟨lw,bq⟩:=K7.pg_v hv ha;obtain⟨rb,w2,a7,ao,bg,aG⟩:=ax4 w1;have ba:w.heap.size<=rb:=dN1 aX.size aG;have k:=aX.trans ao;have U:∀d,o7 w2 d->B5 (B6 w1 λ_=>False) (i4 d):=λd h=>t8 (B2 _ _) (b7 (ao.trans h));have bn:=lw w2 (U _ (o9.refl _));have H:=λ(d:World) (h:o7 w2 d)=>ap9 bg h ba k;simp only[n8,o6,simprocAttr,a9,a7,bn];refine B9 (aG9 v p w2 (hv.mono (b7 k)) hw) (λw3 M=>?_);rcases dM5 (decide ((ab2 p).1=0))with hsc|hsc;rotate_left
 ·obtain⟨w9,s1,s2,s3⟩:=H w3 M (1,0);simp only[n8,o6,simprocAttr,ao4,hsc,R7,s1];refine M7 results72 (by simp only[p8,simprocAttr]) s2 ?_;exact⟨by rw[aG8,if_pos (dN2 hsc)],s3⟩
 have K:=bt2 (bR0 (dM8 hsc));obtain⟨bx,bw⟩:=bN4 K;have hF:aG8 p=match(b9 p).l.find? λit=>decide (it.s.kind=4) && !ah6 it.s (P5 p it.s.proc)with
  | some it=>(8,it.s.id)
  | none=>(0,0):=by rw[aG8,if_neg (by simpa using hsc)]<;>rfl
 obtain⟨ak,ah,aY⟩:=aO2.new (P:=prog) w3 183;have J:=M.trans aY;have l4:=ld _ (U _ J);have hS:=hp.isS;have hn:=hp.vlen;have be:w1.heap.size<=w3.heap.size:=(ao.trans M).size;have bf:w2.heap.size<=w3.heap.size:=M.size;have bd:w.heap.size<=w3.heap.size:=(k.trans M).size;generalize bQ:w3.alloc (.map #[] 0)=w4 at ak ah aY J l4;generalize w3.heap.size=r at ak ah be bf bd;simp only[n8,o6,simprocAttr,ao4,hsc,aC8,ak,l4,hS,hn];refine n9 [1,2,3,15,16] (σ:=Nat×List (A6×Value)) (λs f d=>f 17 = .int .i64 s.1/\s.1<=p.procs.length/\aO2 d r s.2/\(∀j (D:j<p.procs.length),j<s.1->∃u,N1 s.2 p.procs[j].name=some u/\R (B6 d λb=>b=r) u (P5 p p.procs[j].name))/\o7 w2 d) (λs=>p.procs.length-s.1) (0,[]) ?_ ?_
 ·simp only[p8,simprocAttr];exact⟨by trivial,dN6 _,ah,λj _ h=>by omega,J⟩
 rintro⟨i,kv⟩ f w5 hk ⟨Q,bb,G,ag,O⟩;simp only at Q bb G ag;simp only[dM6,p8,simprocAttr]at hk;obtain⟨e1,e2,e3,a4,a5,_⟩:=hk;simp only[n8,o6,simprocAttr,Q,a5];refine n7 (λhc=>?_) (λhc=>?_)
 ·have n:i<p.procs.length:=by simpa using hc
  have T:=hp.inS n;obtain⟨sv,I,F⟩:=F9 (P:=prog) (t:=75) hp (b7 (k.trans O)) (dM4 n) av8 av9 at7 R2;rw[R2]at F;have aN:∀j (D:j<p.procs.length),j<i->p.procs[j].name≠p.procs[i].name:=λj D af e=>by
   have h3:=dT5.1 K.names;exact h3 j i (by simpa using D) (by simpa using n) af (by simpa using e)
  generalize hy:p.procs[i]=y at I aN;obtain⟨c,wz,x,aC,aR,E,a8⟩:=ba4 (w:=w5) (λb=>b=r) I (λb B=>by subst B;exact G.lt);obtain⟨_,_,_,_,_,_,_,_,_,bp⟩:=K7.pr I a8;have aM:=(G.mod E id).mod (o7.drew x) id;have A:o7 w2 x.drew:=O.trans (E.trans (o7.drew x));have aT:∀d,o9 (λb=>b=r) x.drew d->B5 (B6 x λb=>b=r) (i4 d):=λd h=>E1 (o9.chain (o9.up (o7.drew x)) h λ_ _ B=>B);have aS:∀d,o9 (λb=>b=r) x.drew d->B5 (B6 w1 λ_=>False) (i4 d):=λd h=>H5 (U _ A) h λb B=>by
   subst B;by_cases hq:B6 w1 (λ_=>False) b=none
   ·exact hq
   ·exfalso
    have:i4 w1 b≠none:=λe=>hq (by rw[D8 (λh=>h)];exact e);have:=Nat.lt_of_not_le λh=>this (aV5 h);omega
  have s1:=bp (λd=>o9 (λb=>b=r) x.drew d) x.drew (o9.refl _) aT;have s2:=bq (λd=>o9 (λb=>b=r) x.drew d) x.drew (o9.refl _) aS;simp only[n8,o6,y0,simprocAttr,Q,a4,T,F,aC,aR];refine C0 (λd=>o9 (λb=>b=r) x.drew d) 8 (A5 [0,1,2,3,4,5,6,7]) ?_;simp only[D6,A5,n8,o6,simprocAttr,e1,e3,s1,s2];refine y5 (bQ4 v p y.name x.drew (hv.mono (b7 (k.trans A))) hw) ?_;rintro u w7 ⟨am,g⟩;obtain⟨w8,bi,aj,o⟩:=(aM.mod g id).update (P:=prog) cr4 cu3 y.name u;refine⟨o9.up g,?_⟩;simp only[D6,n8,simprocAttr,bM8,bi,E8];refine⟨(o9.up g).chain o λ_ _ B=>B,?_⟩;simp only[n8,o6,simprocAttr,Q];have L:o7 w2 w8:=o9.ext_of (A.trans g) o λb B=>by subst B;omega
  refine⟨(i+1,aK0 kv y.name u),by omega,dO2 _ (B0 i (by omega)),by omega,aj,λj D af=>?_,L⟩;simp only at af ⊢;rw[aq0];rcases dQ7 j i with h|h
  ·obtain⟨u2,V,aQ⟩:=ag j D h;have aO:=aN j D h;exact⟨u2,by rw[if_neg aO];exact V,A4.mono (bV0 (o9.chain (o9.up (E.trans ((o7.drew x).trans g))) o λ_ _ B=>B) (λb B=>by subst B;exact G.lt)) aQ⟩
  ·obtain rfl:j=i:=by omega
   refine⟨u,by rw[hy,if_pos rfl],?_⟩;rw[hy];refine am.flatR λb B=>?_;have aE:b≠r:=λe=>by
    subst e;have h1:=aM.lt;have h2:=D0 (am.free B);omega
   rw[D8 (N:=λb=>b=r) aE];exact o.block b (am.lt B) aE
 have aF:i=p.procs.length:=by simp at hc;omega
 subst aF;have bo:=lw w5 (U _ O);simp only[n8,simprocAttr,e1,bo];refine y5 (al0 v p w5 (hv.mono (b7 (k.trans O))) hw) ?_;rintro us x ⟨sh,rfl,hsh,E⟩;have A:=O.trans E;obtain⟨vL,bZ,bY,hL,bM,bK,bI,aZ,_⟩:=hsh.sh;have bm:=aZ x (i5 _);have aB:=hL.isS;have aP:=hL.vlen;have bh:=az5 p;have bJ:=bK4 p;have aW:=ah5 p hw;have aJ:∀it∈(b9 p).l,it.s.kind=4->it.s.proc∈p.procs.map (·.name):=λit ae h4=>aA9 K hw ae h4;generalize(b9 p).l=l at hL aB aP bh aW hF aJ;simp only[n8,o6,simprocAttr,bm,aB,aP];refine n9 [1,2,3,33,34] (σ:=Nat) (λm f d=>f 35 = .int .i64 m/\m<=l.length/\(∀j (D:j<l.length),j<m->(decide (l[j].s.kind=4) && !ah6 l[j].s (P5 p l[j].s.proc))=false)/\o7 x d) (λm=>l.length-m) 0 ?_ ?_
 ·simp only[p8,simprocAttr];exact⟨by trivial,dN6 _,λj _ h=>by omega,o9.refl _⟩
 rintro m f3 w7 hk ⟨S,bN,al,g⟩;simp only[dM6,p8,simprocAttr]at hk;obtain⟨g1,g2,g3,ay,a6,_⟩:=hk;rw[e2]at g2;rw[e3]at g3;have ab:=A.trans g;simp only[n8,o6,simprocAttr,S,a6];refine n7 (λhc=>?_) (λhc=>?_);rotate_left
 ·have aH:m=l.length:=by simp at hc;omega
  subst aH;have C:l.find? (λit=>decide (it.s.kind=4) && !ah6 it.s (P5 p it.s.proc))=none:=dW5.2 λit ae=>by
   obtain⟨j,D,rfl⟩:=dT0.1 ae;rw[al j D D];simp
  rw[C]at hF;obtain⟨w9,s1,s2,s3⟩:=H w7 ab (0,0);simp only[n8,simprocAttr,g2,aL1,s1];refine M7 results72 (by simp only[p8,simprocAttr];exact g2) s2 ?_;exact⟨by rw[hF],s3⟩
 have n:m<l.length:=by simpa using hc
 have T:=hL.inS n;obtain⟨sv,I,F⟩:=F9 (P:=prog) (t:=150) hL (b7 g) (dM4 n) X0 X2 V5 H9;rw[H9]at F;have aV:=aW _ (dN5 n);have aK:=aJ _ (dN5 n);obtain⟨c,b2,w8,X,aa,W,aD⟩:=ak8 (I.mono (b7 g)) (i5 _);obtain⟨Y,_,_⟩:=aD.it;obtain⟨vt,bj,bl,_⟩:=Y.st_v;obtain⟨_,_,_,_,_,_,_,_,_,a0,_⟩:=Y.st;have L:=ab.trans W;have k2:=a0 w8 (i5 _);have k3:=bl w8 (i5 _);have aj:=((G.mod E id).mod g id).mod W id;have Z:∀d,o7 w8 d->(decide (l[m].s.kind=4) && !ah6 l[m].s (P5 p l[m].s.proc))=false->∃s:Nat,l.length-s<l.length-m/\(Value.int .i64 (IntKind.i64.wrap ((m:Int)+1))) = .int .i64 s/\s<=l.length/\(∀j (D:j<l.length),j<s->(decide (l[j].s.kind=4) && !ah6 l[j].s (P5 p l[j].s.proc))=false)/\o7 x d:=λd bk hq=>by
  refine⟨m+1,by omega,dO2 _ (B0 m (by omega)),by omega,λj D bL=>?_,g.trans (W.trans bk)⟩;rcases dQ7 j m with h|h
  ·exact al j D h
  ·obtain rfl:j=m:=by omega
   exact hq
 rcases dM5 (decide (l[m].s.kind=4))with hk4|hk4;rotate_left
 ·simp only[n8,o6,y0,simprocAttr,S,ay,T,F,X,aa,k2,hk4];exact Z w8 (o9.refl _) (by rw[hk4];rfl)
 obtain⟨q,hq,bP,bc⟩:=Q9 (aK (dM8 hk4));obtain⟨u,aU,V⟩:=ag q hq hq;rw[bc]at aU V;have aL:=aj.lookup (P:=prog) cr4 cu3 (z:=.slice none 0 0) cc0 l[m].s.proc;rw[aU,dR9]at aL;simp only[n8,o6,y0,simprocAttr,S,g3,ay,T,F,X,aa,k2,k3,hk4,aL];refine B9 (cj9 vt u l[m].s (P5 p l[m].s.proc) w8 bj (A4.mono (t8 (B2 _ _) (b7 (E.trans (g.trans W)))) V) aV (cl5 K _)) (λw9 ap=>?_);rcases dM5 (ah6 l[m].s (P5 p l[m].s.proc))with hsg|hsg
 ·simp only[n8,o6,simprocAttr,hsg,S];exact Z w9 ap (by rw[hk4,hsg];rfl)
 ·have k4:=a0 w9 (b7 ap);obtain⟨b1,s1,s2,s3⟩:=H w9 (L.trans ap) (8,l[m].s.id);simp only[n8,o6,simprocAttr,hsg,k4,g2,ax6,s1];refine M7 results72 (by simp only[p8,simprocAttr];exact g2) s2 ?_;have C:l.find? (λit=>decide (it.s.kind=4) && !ah6 it.s (P5 p it.s.proc))=some l[m]:=dV5.2 ⟨by rw[hk4,hsg];rfl,m,n,rfl,λj D=>by rw[al j (by omega) D];rfl⟩;rw[C]at hF;exact⟨by rw[hF],s3⟩
def dU9:=@Option.bind_eq_some_iff
mutual
def cz0:∀(t:St) (k:Nat) (g j d c:Int),∀it∈Y9 t k g j d c,(it.next=d\/((k:Int)<it.next/\it.next<=(k:Int)+(ac9 t:Nat)))/\(it.loop=c\/((k:Int)<it.loop/\it.loop<=(k:Int)+(ac9 t:Nat)))
 | .mk id kind labels name proc x has args thn els,k,g,j,d,c,it,h=>by
  rw[R8]at h;rw[az6];rcases dO6.1 h with rfl|h
  ·exact⟨.inl rfl,.inl rfl⟩
  ·have f:∀(l:List St) (b:Nat) (o:k<b) (i:b+A9 l<=k+(1+A9 thn+A9 els)),it∈D2 l b g (k+1) (if kind=6 then((k:Int)+1)else d) (if kind=6 then((k:Int)+1)else c)->(∀it∈D2 l b g (k+1) (if kind=6 then((k:Int)+1)else d) (if kind=6 then((k:Int)+1)else c),(it.next=(if kind=6 then((k:Int)+1)else d)\/((b:Int)<it.next/\it.next<=(b:Int)+(A9 l:Nat)))/\(it.loop=(if kind=6 then((k:Int)+1)else c)\/((b:Int)<it.loop/\it.loop<=(b:Int)+(A9 l:Nat)))) ->
     (it.next=d\/((k:Int)<it.next/\it.next<=(k:Int)+((1+A9 thn+A9 els:Nat):Int)))/\(it.loop=c\/((k:Int)<it.loop/\it.loop<=(k:Int)+((1+A9 thn+A9 els:Nat):Int))):=by
    intro l b o i hm e;obtain⟨a,m⟩:=e it hm;constructor
    ·rcases a with a|⟨a,n⟩
     ·split at a
      ·right;omega
      ·exact .inl a
     ·right;omega
    ·rcases m with a|⟨a,n⟩
     ·split at a
      ·right;omega
      ·exact .inl a
     ·right;omega
   simp only[St.thn,St.els];rcases dN7.1 h with h|h
   ·exact f thn (k+1) (by omega) (by omega) h (aB4 thn _ _ _ _ _)
   ·refine f els _ ?_ ?_ h (aB4 els _ _ _ _ _)
    ·omega
    ·simp only[St.thn];omega
def aB4:∀(l:List St) (k:Nat) (e f d c:Int),∀it∈D2 l k e f d c,(it.next=d\/((k:Int)<it.next/\it.next<=(k:Int)+(A9 l:Nat)))/\(it.loop=c\/((k:Int)<it.loop/\it.loop<=(k:Int)+(A9 l:Nat)))
 | [],_,_,_,_,_,it,h=>by simp[D2]at h
 | t::l,k,e,f,d,c,it,h=>by
  rw[D2]at h;rw[A9];rcases dN7.1 h with h|h
  ·obtain⟨a,b⟩:=cz0 t _ _ _ _ _ it h;constructor
   ·rcases a with a|a
    ·split at a
     ·exact .inl a
     ·next g=>
      right;have:=U7 l;omega
    ·right;omega
   ·rcases b with a|a
    ·exact .inl a
    ·right;omega
  ·obtain⟨a,b⟩:=aB4 l _ _ _ _ _ it h;rw[ai9]at a b;constructor
   ·rcases a with a|a
    ·exact .inl a
    ·right;omega
   ·rcases b with a|a
    ·exact .inl a
    ·right;omega
end
mutual
def cf8:∀(t:St) (k:Nat) (d e c b:Int),∀it∈Y9 t k d e c b,∀u,(u∈it.s.thn\/u∈it.s.els)->u∈(Y9 t k d e c b).map (·.s)
 | .mk id kind labels name proc x has args thn els,k,d,e,c,b,it,h,u,a=>by
  rw[R8]at h ⊢;simp only[dQ8,dP6,dO6,dN7];rcases dO6.1 h with rfl|h
  ·simp only[St.thn,St.els]at a;rcases a with a|a
   ·exact .inr (.inl (aI1 thn _ _ _ _ _ u a))
   ·exact .inr (.inr (aI1 els _ _ _ _ _ u a))
  ·rcases dN7.1 h with h|h
   ·exact .inr (.inl (au9 thn _ _ _ _ _ it h u a))
   ·exact .inr (.inr (au9 els _ _ _ _ _ it h u a))
def au9:∀(l:List St) (k:Nat) (c d b a:Int),∀it∈D2 l k c d b a,∀u,(u∈it.s.thn\/u∈it.s.els)->u∈(D2 l k c d b a).map (·.s)
 | [],_,_,_,_,_,it,h,_,_=>by simp[D2]at h
 | t::l,k,c,d,b,a,it,h,u,hu=>by
  rw[D2]at h ⊢;simp only[dP6,dN7];rcases dN7.1 h with h|h
  ·exact .inl (cf8 t _ _ _ _ _ it h u hu)
  ·exact .inr (au9 l _ _ _ _ _ it h u hu)
def aI1:∀(l:List St) (k:Nat) (c d b a:Int),∀u∈l,u∈(D2 l k c d b a).map (·.s)
 | [],_,_,_,_,_,u,h=>by simp at h
 | t::l,k,c,d,b,a,u,h=>by
  rw[D2];simp only[dP6,dN7];rcases dO6.1 h with rfl|h
  ·left;cases u;rw[R8];simp
  ·exact .inr (aI1 l _ _ _ _ _ u h)
end
theorem aR8(d:Nat)(t:St)(l:List St)(n:Int):K5 (d+1) (t::l) n=(if n+1>200\/t.id≠n+1\/ae1 t.labels=false\/U9 t=false then none else(K5 d t.thn (n+1)).bind λm=>K5 d t.els m).bind λm=>K5 (d+1) l m:=by
 rw[K5,List.foldlM_cons];rfl
mutual
def dm3:∀(t:St) (d:Nat) (n m:Int),t.id=n+1->((K5 d t.thn (n+1)).bind λm=>K5 d t.els m)=some m->m=n+(ac9 t:Nat)/\∀(k:Nat) (f g e b:Int) (j:Nat) (it:It),(Y9 t k f g e b)[j]?=some it->it.s.id=n+1+(j:Nat)
 | .mk id kind labels name proc x has args thn els,d,n,m,hid,h=>by
  simp only[St.id,St.thn,St.els]at hid h;obtain⟨c,i,l⟩:=dU9.1 h;obtain⟨q,o⟩:=aV6 thn d (n+1) c i;obtain⟨r,p⟩:=aV6 els d c m l;refine⟨by rw[az6];simp only[St.thn,St.els];omega,λk f g e b j it a=>?_⟩;rw[R8]at a;cases j with
  | zero=>
   rw[List.getElem?_cons_zero]at a;obtain rfl:=dO3 a;simp only[St.id];omega
  | succ j=>
   rw[List.getElem?_cons_succ]at a;rcases dQ7 j (A9 thn)with hlt|hge
   ·rw[dR6 (by rw[H3];exact hlt)]at a;have:=o _ _ _ _ _ j it a;omega
   ·rw[dR4 (by rw[H3];exact hge),H3]at a;have:=p _ _ _ _ _ _ it a;simp only[St.thn]at hge this;omega
def aV6:∀(l:List St) (d:Nat) (n m:Int),K5 d l n=some m->m=n+(A9 l:Nat)/\∀(k:Nat) (g i f e:Int) (j:Nat) (it:It),(D2 l k g i f e)[j]?=some it->it.s.id=n+1+(j:Nat)
 | [],d,n,m,h=>by
  have:m=n:=by
   cases d with
   | zero=>simp[K5]at h;exact h.symm
   | succ d=>rw[K5]at h;simp at h;exact h.symm
  subst this;exact⟨by simp[A9],λk g i f e j it a=>by simp[D2]at a⟩
 | t::l,0,n,m,h=>by simp[K5]at h
 | t::l,d+1,n,m,h=>by
  rw[aR8]at h;obtain⟨o,b,p⟩:=dU9.1 h;split at b
  ·cases b
  ·next q=>
   have c:t.id=n+1:=by
    rcases Decidable.em (t.id=n+1)with h|h
    ·exact h
    ·exact absurd (.inr (.inl h)) q
   obtain⟨u,r⟩:=dm3 t d n o c b;obtain⟨v,s⟩:=aV6 l (d+1) o m p;refine⟨by rw[A9];omega,λk g i f e j it a=>?_⟩;rw[D2]at a;rcases dQ7 j (ac9 t)with hlt|hge
   ·rw[dR6 (by rw[ai9];exact hlt)]at a;exact r _ _ _ _ _ j it a
   ·rw[dR4 (by rw[ai9];exact hge),ai9]at a;have:=s _ _ _ _ _ _ it a;omega
end
def bw5:∀(l:List Pr) (s:Sh) (i:Nat),(l.foldlM (λn f=>V8 f n) (s.l.length:Int)).isSome=true->(∀(j:Nat) (it:It),s.l[j]?=some it->it.s.id=(j:Int)+1)->∀(j:Nat) (it:It),(H6 s i l).l[j]?=some it->it.s.id=(j:Int)+1
 | [],s,i,_,h,j,it,a=>h j it a
 | f::l,s,i,hf,h,j,it,a=>by
  rw[List.foldlM_cons]at hf;obtain⟨n,e⟩:=dS1.1 hf;obtain⟨m,hm,d⟩:=dU9.1 e;unfold V8 at hm;split at hm
  ·cases hm
  ·obtain⟨k,g⟩:=aV6 f.body 12 _ _ hm;rw[H6]at a;refine bw5 l (F7 s i f) (i+1) ?_ (λj it a=>?_) j it a
   ·simp only[F7,dM7,H3];rw[show((s.l.length+A9 f.body:Nat):Int)=m by omega,d];rfl
   ·simp only[F7]at a;rcases dQ7 j s.l.length with c|b
    ·rw[dR6 c]at a;exact h j it a
    ·rw[dR4 b]at a;have:=g _ _ _ _ _ _ it a;omega
def az4{p:Pg}(hm:N2 p=true):∀(j:Nat) (it:It),(b9 p).l[j]?=some it->it.s.id=(j:Int)+1:=by
 simp only[N2,dO8]at hm;exact bw5 p.procs ⟨p,[],[],[]⟩ 0 hm.2 λj it a=>by simp at a
def Rg(x y:Nat)(a:Int):Prop:=a = -1\/((x:Int)<a/\a<=(y:Int))
structure ar1 (p:Pg) (i x y:Nat):Prop where
 ok:bz1 (b9 p) i x y
 ids:∀it∈(b9 p).of i,(x:Int)<it.s.id/\it.s.id<=(y:Int)
 next:∀it∈(b9 p).of i,Rg x y it.next
 loop:∀it∈(b9 p).of i,it.loop=0\/((x:Int)<it.loop/\it.loop<=(y:Int))
 sub:∀it∈(b9 p).of i,∀u,(u∈it.s.thn\/u∈it.s.els)->(x:Int)<u.id/\u.id<=(y:Int)
 at_:∀a:Int,(x:Int)<a->a<=(y:Int)->(b9 p).it a∈(b9 p).of i/\((b9 p).it a).s.id=a/\(b9 p).l[(a-1).toNat]?=some ((b9 p).it a)
def J5{p:Pg}(hm:N2 p=true)(hw:C5 p<=1000000)(i:Nat)(v:i<p.procs.length):∃x,ar1 p i x (x+A9 p.procs[i].body):=by
 obtain⟨x,b,q⟩:=V9 p hw i v;have d:=az4 hm;have o:∀it∈(b9 p).of i,∃j:Nat,j<A9 p.procs[i].body/\(b9 p).l[x+j]?=some it:=λit h=>by
  rw[b.of_]at h;obtain⟨j,m⟩:=List.getElem?_of_mem h;rw[dW6,dV1]at m;split at m
  ·next n=>exact⟨j,by omega,m⟩
  ·cases m
 have k:∀it∈(b9 p).of i,(x:Int)<it.s.id/\it.s.id<=((x+A9 p.procs[i].body:Nat):Int):=λit h=>by
  obtain⟨j,m,e⟩:=o it h;have:=d _ _ e;omega
 have g:=aB4 p.procs[i].body x i 0 (-1) 0;rw[<-q]at g;have f:=au9 p.procs[i].body x i 0 (-1) 0;rw[<-q]at f;refine⟨x,b,k,λit h=>?_,λit h=>?_,λit h u w=>?_,λa c y=>?_⟩
 ·rcases(g it h).1 with c|c
  ·exact .inl c
  ·exact .inr ⟨c.1,by omega⟩
 ·rcases(g it h).2 with c|c
  ·exact .inl c
  ·exact .inr ⟨c.1,by omega⟩
 ·obtain⟨s,l,rfl⟩:=dO7.1 (f it h u w);exact k s l
 ·have t:=b.len;have n:(a-1).toNat<(b9 p).l.length:=by omega
  have r:(b9 p).l[(a-1).toNat]?=some ((b9 p).it a):=by
   unfold Sh.it;rw[List.getD,dM4 n];rfl
  refine⟨?_,?_,r⟩
  ·rw[b.of_];refine dO4 (i:=(a-1).toNat-x) ?_;rw[dW6,dV1,if_pos (by omega),show x+((a-1).toNat-x)=(a-1).toNat by omega,r]
  ·have:=d _ _ r;omega
def cr1{w:World}{b:Nat}{e:Int×Int}(h:w.heap[b]?=some (.cells #[.int .i64 e.1,.int .i64 e.2] 81 (0,0))):
  (Instr.loadAt 40 (.pointer (some ⟨b,0,none⟩))).run prog w = .ok (.int .i64 e.1) w/\(Instr.loadAt 81 (.pointer (some ⟨b,0,none⟩))).run prog w = .ok (U8 e) w:=
 ⟨E2 (i:=0) h rfl dA1,ag4 h dj5 dk1 dj6 (by rw[dk0];rfl)⟩
def ct5{w:World}{b:Nat}{e:Int×Int}(h:w.heap[b]?=some (.cells #[.int .i64 e.1,.int .i64 e.2] 81 (0,0)))(a:Int×Int):
  ∃d,(Instr.storeAt 81 (.pointer (some ⟨b,0,none⟩)) (U8 a)).run prog w = .ok () d/\d.heap[b]?=some (.cells #[.int .i64 a.1,.int .i64 a.2] 81 (0,0))/\o9 (λc=>c=b) w d:=
 ak3 (P:=prog) (cs:=#[.int .i64 a.1,.int .i64 a.2]) h cU9 rfl rfl (by simp[Value.oneCell'])
def bK2(v:Value)(p:Pg)(w:World)(hv:SV (i4 w) v p)(hw:C5 p<=1000000):p7 prog 44 #[v] w λu f=>(u=U8 (aH1 p)/\o7 w f):=by
 refine p9 [v] func44 rfl ?_;obtain⟨a,w1,ad,Q,ha⟩:=ag6 (w:=w) (λ_=>False) hv (λ_ h=>h.elim);obtain⟨U,aG⟩:=K7.pg_v hv ha;obtain⟨rb,B,ac,m,ah,L⟩:=ax4 w1;have ae:w.heap.size<=rb:=dN1 Q.size L;have c:=Q.trans m;have o:∀f,o7 w1 f->B5 (B6 w1 λ_=>False) (i4 f):=λf h=>t8 (B2 _ _) (b7 h);have am:=U B (o _ m);have D:=λ(f:World) (h:o7 B f)=>ap9 ah h ae c;simp only[n8,o6,simprocAttr,ad,ac,am];refine B9 (cn7 v p B (hv.mono (b7 c)) hw) (λw3 t=>?_);rcases dM5 (N2 p)with hmay|hmay;rotate_left
 ·obtain⟨w9,x,y,z⟩:=D w3 t (1,0);simp only[n8,o6,simprocAttr,hmay,R7,x];refine M7 results44 (by simp only[p8,simprocAttr]) y ?_;exact⟨by rw[aH1,hmay];rfl,z⟩
 have g:aH1 p=if(N8 p).1≠0 then N8 p else if(ab2 p).1≠0 then ab2 p else if(aE8 p).1≠0 then aE8 p else aG8 p:=by
  rw[aH1,if_neg (by rw[hmay];simp)]
 have an:=U w3 (o _ (m.trans t));simp only[n8,o6,simprocAttr,hmay,an];refine B9 (ah4 v p w3 (hv.mono (b7 (c.trans t))) hw) (λw4 ak=>?_);have F:=t.trans ak;obtain⟨K,w5,C,al,aj,M⟩:=ax4 w4;obtain⟨w6,X,r,af⟩:=ct5 (e:=(0,0)) aj (N8 p);obtain⟨l6,aF⟩:=cr1 r;have i:B.heap.size<=K:=dN1 F.size M;have k:o7 B w6:=o9.ext_of (F.trans al) af λb H=>by subst H;exact i
 have q:∀(f:World) (e:Int×Int),o7 B f->f.heap[K]?=some (.cells #[.int .i64 e.1,.int .i64 e.2] 81 (0,0))->aH1 p=e->∃n,(Instr.loadAt 81 (.pointer (some ⟨K,0,none⟩))).run prog f = .ok (U8 e) f/\(Instr.storeAt 81 (.pointer (some ⟨rb,0,none⟩)) (U8 e)).run prog f = .ok () n/\(Instr.loadAt 81 (.pointer (some ⟨rb,0,none⟩))).run prog n = .ok (U8 e) n/\o7 w n:=λf e hx hh _=>by
  obtain⟨n,h1,h2,h3⟩:=D f hx e;exact⟨n,(cr1 hh).2,h1,h2,h3⟩
 rcases dM5 (decide ((N8 p).1=0))with d1|d1;rotate_left
 ·rw[if_pos (dN2 d1)]at g;obtain⟨w9,J,x,y,z⟩:=q w6 _ k r g;simp only[n8,o6,simprocAttr,C,X,l6,d1,J,x];refine M7 results44 (by simp only[p8,simprocAttr]) y ?_;exact⟨by rw[g],z⟩
 rw[if_neg (by simpa using d1)]at g;have ao:=U w6 (o _ (m.trans k));simp only[n8,o6,simprocAttr,C,X,l6,d1,ao];refine B9 (aG9 v p w6 (hv.mono (b7 (c.trans k))) hw) (λw7 R=>?_);obtain⟨w8,Y,s,ag⟩:=ct5 ((R.block K (dN0.1 r).1 id).trans r) (ab2 p);obtain⟨l8,_⟩:=cr1 s;have l:o7 B w8:=o9.ext_of (k.trans R) ag λb H=>by subst H;exact i
 rcases dM5 (decide ((ab2 p).1=0))with d2|d2;rotate_left
 ·rw[if_pos (dN2 d2)]at g;obtain⟨w9,J,x,y,z⟩:=q w8 _ l s g;simp only[n8,o6,simprocAttr,Y,l8,d2,J,x];refine M7 results44 (by simp only[p8,simprocAttr]) y ?_;exact⟨by rw[g],z⟩
 rw[if_neg (by simpa using d2)]at g;have ap:=U w8 (o _ (m.trans l));simp only[n8,o6,simprocAttr,Y,l8,d2,ap];refine B9 (bA2 v p w8 (hv.mono (b7 (c.trans l))) hw) (λw9 S=>?_);obtain⟨A,G,j,O⟩:=ct5 ((S.block K (dN0.1 s).1 id).trans s) (aE8 p);obtain⟨T,_⟩:=cr1 j;have d:o7 B A:=o9.ext_of (l.trans S) O λb H=>by subst H;exact i
 rcases dM5 (decide ((aE8 p).1=0))with d3|d3;rotate_left
 ·rw[if_pos (dN2 d3)]at g;obtain⟨au,J,x,y,z⟩:=q A _ d j g;simp only[n8,o6,simprocAttr,G,T,d3,J,x];refine M7 results44 (by simp only[p8,simprocAttr]) y ?_;exact⟨by rw[g],z⟩
 rw[if_neg (by simpa using d3)]at g;have V:=U A (o _ (m.trans d));simp only[n8,o6,simprocAttr,G,T,d3,V];refine B9 (bo7 v p A (hv.mono (b7 (c.trans d))) hw) (λau E=>?_);obtain⟨Z,W,N,P⟩:=ct5 ((E.block K (dN0.1 j).1 id).trans j) (aG8 p);have I:o7 B Z:=o9.ext_of (d.trans E) P λb H=>by subst H;exact i
 obtain⟨aH,J,x,y,z⟩:=q Z _ I N g;simp only[n8,simprocAttr,W,J,x];refine M7 results44 (by simp only[p8,simprocAttr]) y ?_;exact⟨by rw[g],z⟩
def aT4(v:Value)(p:Pg)(w:World)(hv:SV (i4 w) v p)(hw:C5 p<=1000000):p7 prog 15 #[v] w λu k=>(u = .bool (I5 p)/\o7 w k):=by
 refine p9 [v] func15 rfl ?_;obtain⟨a,f,c,b,g⟩:=ag6 (w:=w) (λ_=>False) hv (λ_ h=>h.elim);obtain⟨i,j⟩:=K7.pg_v hv g;have e:=i f (B2 _ _);simp only[n8,o6,simprocAttr,c,e];refine B9 (bK2 v p f (hv.mono (b7 b)) hw) (λl d=>?_);simp only[n8,o6,simprocAttr,ao4];exact o8 results15 ⟨rfl,b.trans d⟩
structure D4 (p:Pg):Prop extends Known p where
 fits:∀it∈(b9 p).l,it.s.kind=4->ag9 p it.s=true
 single:∀it∈(b9 p).l,it.s.kind=4->ah6 it.s (P5 p it.s.proc)=true
 jump:∀i (hi:i<p.procs.length),as3 (b9 p) p.procs[i] ((b9 p).of i)=none
def aI7{s:Sh}:∀{l:List Pr} {i:Nat},R9 s i l=none->∀k (a:k<l.length),as3 s l[k] (s.of (i+k:Nat))=none
 | [],i,_,k,a=>by simp at a
 | f::l,i,h,k,a=>by
  rw[R9]at h;split at h
  ·cases h
  ·next b=>
   cases k with
   | zero=>simpa using b
   | succ k=>
    have:=aI7 h k (by simpa using a);rw[show i+1+k=i+(k+1) by omega]at this;simpa using this
def bA3{s:Sh}{f:Pr}{l:List It}{e:Int×Int}(h:as3 s f l=some e):e.1=7:=by
 unfold as3 at h;split at h
 ·obtain rfl:=dO3 h;rfl
 ·split at h
  ·obtain rfl:=dO3 h;rfl
  ·cases h
def aI6{s:Sh}:∀{l:List Pr} {i:Nat} {e:Int×Int},R9 s i l=some e->e.1=7
 | [],i,e,h=>by cases h
 | f::l,i,e,h=>by
  rw[R9]at h;split at h
  ·next a=>obtain rfl:=dO3 h;exact bA3 a
  ·exact aI6 h
def N3{p:Pg}(h:I5 p=true):D4 p:=by
 have h:=dM8 h;unfold aH1 at h;split at h
 ·simp at h
 split at h
 ·next c=>exact absurd h c
 next c=>
 split at h
 ·next a=>exact absurd h a
 next a=>
 split at h
 ·next b=>exact absurd h b
 next b=>
 have c:(N8 p).1=0:=dZ2 c;have a:(ab2 p).1=0:=dZ2 a;have b:(aE8 p).1=0:=dZ2 b;refine⟨bt2 c,λit d f=>?_,λit d f=>?_,λi k=>?_⟩
 ·unfold ab2 at a;rw[if_neg (by rw[c];simp)]at a;split at a
  ·simp at a
  ·next g=>
   have:=dW5.1 g it d;rw[dV2 f]at this;simpa using this
 ·unfold aG8 at h;rw[if_neg (by rw[a];simp)]at h;split at h
  ·simp at h
  ·next g=>
   have:=dW5.1 g it d;rw[dV2 f]at this;simpa using this
 ·unfold aE8 at b;rw[if_neg (by rw[c];simp)]at b;have j:R9 (b9 p) 0 p.procs=none:=by
   cases hs:R9 (b9 p) 0 p.procs with
   | none=>rfl
   | some e=>
    rw[hs]at b;have:=aI6 hs;simp at b;omega
  have:=aI7 j i k
  rwa [dQ2]at this
def aO8{s:Sh}:∀{l:List It} {a r:List A6},av0 s a l = .inl r->∀it∈l,as4 s it=true
 | [],_,_,_,it,h=>by simp at h
 | x::l,a,r,hj,it,h=>by
  rw[av0]at hj;split at hj
  ·cases hj
  ·split at hj
   ·next b=>
    rcases dO6.1 h with rfl|h
    ·exact b
    ·exact aO8 hj it h
   ·cases hj
def D4.leads{p:Pg}(b:D4 p){i:Nat}(a:i<p.procs.length):∀it∈(b9 p).of i,as4 (b9 p) it=true:=by
 have:=b.jump i a;unfold as3 at this;split at this
 ·cases this
 ·next h=>exact aO8 h
def dt3{p:Pg}{i x y:Nat}(c:ar1 p i x y){b:A6}{a:Int}(h:(b9 p).at i b=some a):Rg x y a:=by
 unfold Sh.at at h;split at h
 ·next it hf=>
  obtain rfl:=dO3 h;exact .inr (c.ids it (List.mem_of_find?_eq_some hf))
 ·split at h
  ·obtain rfl:=dO3 h;exact .inl rfl
  ·cases h
def bL6{p:Pg}{i x y:Nat}(c:ar1 p i x y){it:It}(a:it∈(b9 p).of i){o:Int}(b:Rg x y o):Rg x y (aE6 it.s.thn o)/\Rg x y (aE6 it.s.els o):=by
 constructor
 ·cases h:it.s.thn with
  | nil=>exact b
  | cons t l=>exact .inr (c.sub it a t (.inl (by rw[h];simp)))
 ·cases h:it.s.els with
  | nil=>exact b
  | cons t l=>exact .inr (c.sub it a t (.inr (by rw[h];simp)))
def cq5{p:Pg}(n:D4 p)(hw:C5 p<=1000000){i x y:Nat}(l:i<p.procs.length)(b:ar1 p i x y):∀it∈(b9 p).of i,∀t∈(b9 p).goes it,Rg x y t:=by
 intro it hit t ht;have c:=b.next it hit;have k:Rg x y it.s.id:=.inr (b.ids it hit);have B5:=n.leads l it hit;unfold as4 at B5;unfold Sh.goes at ht;split at ht
 ·simp only[dO6,dR2,dX1]at ht;rcases ht with rfl|rfl
  ·exact(bL6 b hit c).1
  ·exact(bL6 b hit c).2
 split at ht
 ·simp only[dO6,dR2,dX1]at ht;rcases ht with rfl|rfl
  ·exact(bL6 b hit k).1
  ·exact c
 split at ht
 ·next f=>
  rw[if_pos (.inl f)]at B5;have d:it.loop≠0:=by simpa using B5
  simp only[dP1]at ht;subst ht;rcases b.loop it hit with h|h
  ·exact absurd h d
  ·exact b.next _ (b.at_ it.loop h.1 h.2).1
 split at ht
 ·next g=>
  rw[if_pos (.inr g)]at B5;have d:it.loop≠0:=by simpa using B5
  simp only[dP1]at ht;subst ht;rcases b.loop it hit with h|h
  ·exact absurd h d
  ·exact .inr h
 split at ht
 ·simp only[dP1]at ht;subst ht;exact .inl rfl
 split at ht
 ·next f g _ e=>
  have m:¬(it.s.kind=7\/it.s.kind=8):=λh=>h.elim f g;rw[if_neg m,if_pos e]at B5;simp only[dP1]at ht;subst ht;obtain⟨a,j⟩:=dS1.1 B5;rw[j];rw[aW8 p hw i l it hit]at j;exact dt3 b j
 ·simp only[dP1]at ht;subst ht;exact c
def bc0{α:Type}(a:α->α->Bool){z:α}:∀(l:List α) (p:α),z∈al3 a p l->z∈l
 | [],p,h=>by simp[al3]at h
 | x::l,p,h=>by
  rw[al3]at h;split at h
  ·exact dS2 _ (bc0 a l x h)
  ·rcases dO6.1 h with rfl|h
   ·simp
   ·exact dS2 _ (bc0 a l x h)
def cy1{α:Type}(a:α->α->Bool){z:α}:∀(l:List α),z∈ai5 a l->z∈l
 | [],h=>by simp[ai5]at h
 | x::l,h=>by
  rw[ai5]at h;rcases dO6.1 h with rfl|h
  ·simp
  ·exact dS2 _ (bc0 a l x h)
def bC6{α:Type}(a:α->α->Bool):∀(l:List α) (p:α),(al3 a p l).length<=l.length
 | [],p=>by simp[al3]
 | x::l,p=>by
  have:=bC6 a l x;rw[al3];split<;>simp only[dP4]<;>omega
def aS5{z:Sp}{l:List Sp}(h:z∈at5 l):z∈l:=(F5 _ _).mem_iff.1 (cy1 _ _ h)
def aS4(l:List Sp):(at5 l).length<=l.length:=by
 unfold at5;rw[<-(F5 de1 l).length_eq];cases Y0 de1 l with
 | nil=>simp[ai5]
 | cons x m=>simp only[ai5,dP4];have:=bC6 aZ1 m x;omega
def RgS(x y:Nat)(t:Sp):Prop:=(t.src=0\/((x:Int)<t.src/\t.src<=(y:Int)))/\Rg x y t.dst
theorem bT5{p:Pg}{i x y:Nat}(a:ar1 p i x y):Rg x y ((b9 p).first i):=by
 have b:=a.ok.lo;have c:=a.ok.hi;unfold Sh.first Y4;simp only[dP0,List.getD,b,c,dR9];split
 ·right;omega
 ·exact .inl rfl
def bx6{p:Pg}(g:D4 p)(hw:C5 p<=1000000){i x y:Nat}(f:i<p.procs.length)(d:ar1 p i x y):∀t∈(b9 p).steps i,RgS x y t:=by
 intro t b;have b:=aS5 b;rcases dO6.1 b with rfl|b
 ·exact⟨.inl rfl,bT5 d⟩
 ·obtain⟨it,c,b⟩:=dQ0.1 b;obtain⟨a,e,rfl⟩:=dO7.1 b;exact⟨.inr (d.ids it c),cq5 g hw f d it c a e⟩
def bU8(s:Sh)(it:It):(s.goes it).length<=2:=by
 unfold Sh.goes
 repeat' split
 all_goals simp
def dU6:=@List.getElem?_range
def OkR(nx:List (List Int)):Prop:=∀a,∀b∈C9 nx a,H1 nx.length b=true
def bK3{nx:List (List Int)}(n:OkR nx):∀(m:Nat) (l:List Int),l.Nodup->(∀b∈l,H1 nx.length b=true)->nx.length<=l.length+m->∀a∈O2 nx m l,∀b∈C9 nx a,b∈O2 nx m l
 | 0,l,hn,hk,hl,a,ha,b,hb=>by
  rw[O2]at ha ⊢;refine dV4 λp=>?_;have t:(b::l).Nodup:=dY6.2 ⟨p,hn⟩;have u:=I2 (m:=(List.range nx.length).map λ(i:Nat)=>(i:Int)) t λc f=>by
   have o:H1 nx.length c=true:=by
    rcases dO6.1 f with rfl|f
    ·exact n _ _ hb
    ·exact hk c f
   have:=B3.1 o;exact dO7.2 ⟨c.toNat,dQ6.2 (by omega),by omega⟩
  simp only[dP4,dN4,dR3]at u;omega
 | m+1,l,hn,hk,hl,a,ha,b,hb=>by
  rw[O2]at ha ⊢;by_cases he:aF0 nx l=[]
  ·have e:l++((l.flatMap (C9 nx)).filter λb=>!l.contains b).eraseDups=l:=by
    show l++aF0 nx l=l;rw[he,dP8]
   rw[e]at ha ⊢;have g:∀c∈l,∀d∈C9 nx c,d∈l:=λc f d j=>dV4 λq=>by
    have:d∈aF0 nx l:=al8.2 ⟨⟨c,f,j⟩,q⟩;rw[he]at this;simp at this
   have r:∀(k:Nat),O2 nx k l=l:=by
    intro k
    induction k with
    | zero=>rfl
    | succ k v=>rw[O2,e,v]
   rw[r]at ha ⊢;exact g a ha b hb
  ·have s:0<(aF0 nx l).length:=List.length_pos_iff.2 he;refine bK3 n m (l++aF0 nx l) ?_ (λc f=>?_) (by rw[dM7];omega) a ha b hb
   ·rw[dR0];refine⟨hn,aJ3 _ _ (dO0 _),λc f d j e=>?_⟩;subst e;exact(al8.1 j).2 f
   ·rcases dN7.1 f with h|h
    ·exact hk c h
    ·obtain⟨⟨d,_,f⟩,_⟩:=al8.1 h;exact n _ _ f
def bN6{nx:List (List Int)}(f:OkR nx){a b:Int}(e:H1 nx.length a=true):V0 nx a b=true↔Y5 nx a b:=by
 unfold V0;rw[e,dT7,dO5];constructor
 ·exact λh=>aD8 nx.length [a] (λc d=>by simp at d;subst d;exact .refl) b h
 ·intro h
  induction h with
  | refl=>exact aN3 _ _ _ (by simp)
  | step _ d g=>exact bK3 f nx.length [a] (by simp) (λc d=>by simp at d;subst d;exact e) (by simp) _ g _ d
def aa8(nx:List (List Int))(stop:Nat->Bool):(av6 nx stop).length=nx.length:=by simp[av6]
def aq3(nx:List (List Int))(stop:Nat->Bool)(a:Int):C9 (av6 nx stop) a=if stop a.toNat=true then[]else C9 nx a:=by
 unfold C9;rw[aa8];by_cases h:0<=a/\a<nx.length
 ·have b:a.toNat<nx.length:=by omega
  rw[if_pos h,if_pos h];unfold av6;rw[List.getD,dP9,dU6 b];simp
 ·rw[if_neg h,if_neg h];simp
def ay8{nx:List (List Int)}(h:OkR nx)(stop:Nat->Bool):OkR (av6 nx stop):=by
 intro a b c;rw[aq3]at c;rw[aa8];split at c
 ·simp at c
 ·exact h a b c
def bP7{nx:List (List Int)}(h:OkR nx){a b:Int}(c:H1 nx.length a=true)(hw:Y5 nx a b):H1 nx.length b=true:=by
 cases hw with
 | refl=>exact c
 | step _ d=>exact h _ _ d
def aY2{X Y:Rws}(h:leR X Y)(i:Int){x:A6}(a:x∈G2 X i):x∈G2 Y i:=h _ x a
def cJ8(p:Pg){X Y:Rws}(h:leR X Y)(s:St){x:A6}(a:x∈af0 p X s):x∈af0 p Y s:=by
 unfold af0 at a ⊢;split at a
 ·rename_i c;rw[if_pos c];exact a
 ·rename_i c;rw[if_neg c];split at a
  ·rename_i d;rw[if_pos d];exact a
  ·rename_i d;rw[if_neg d];split at a
   ·rename_i e;rw[if_pos e];exact a
   ·rename_i e;rw[if_neg e];split at a
    ·rename_i f;rw[if_pos f];unfold ao3 at a ⊢;rcases dN7.1 a with a|a
     ·rcases dN7.1 a with a|a
      ·exact dQ1 _ (dQ1 _ a)
      ·refine dQ1 _ (dS0 _ ?_);obtain⟨z,b,rfl⟩:=dO7.1 a;refine dO7.2 ⟨z,?_,rfl⟩;rw[dP2]at b ⊢;refine⟨b.1,?_⟩;rw[dO8,dO5]at b ⊢;exact⟨b.2.1,aY2 h _ b.2.2⟩
     ·refine dS0 _ ?_;rw[dP2]at a ⊢;exact⟨aY2 h _ a.1,a.2⟩
    ·simp at a
def cV0(p:Pg){X Y:Rws}(h:leR X Y)(s:St){x:A6}(a:x∈an9 p X s):x∈an9 p Y s:=by
 unfold an9 at a ⊢;rcases dN7.1 a with a|a
 ·exact dQ1 _ a
 ·refine dS0 _ ?_;split at a
  ·rename_i b;rw[if_pos b];rcases dN7.1 a with a|a
   ·exact dQ1 _ a
   ·exact dS0 _ (aY2 h _ a)
  ·simp at a
def bE9{l:List It}{f g:It->List A6}(h:∀it,∀x∈f it,x∈g it):leR (l.map λit=>D7 (f it)) (l.map λit=>D7 (g it)):=by
 intro i x a;rw[List.getD,dP9]at a ⊢;cases hi:l[i]? with
 | none=>rw[hi]at a;simp at a
 | some it=>
  rw[hi]at a;simp only[dS5,dR9]at a ⊢;exact I3.2 (h it x (I3.1 a))
def bj5{n:Nat}{f g:Nat->List A6}(h:∀i,i<n->∀x∈f i,x∈g i):leR ((List.range n).map λi=>D7 (f i)) ((List.range n).map λi=>D7 (g i)):=by
 intro i x a;rw[List.getD,dP9]at a ⊢;rcases dQ7 i n with b|b
 ·rw[dU6 b]at a ⊢;simp only[dS5,dR9]at a ⊢;exact I3.2 (h i b x (I3.1 a))
 ·rw[dV0 (by simpa using b)]at a;simp at a
def bj6{n B:Nat}{f:Nat->List A6}(m:Nat->List A6)(h:∀i,i<n->∀x∈f i,x∈m i)(c:∀i,i<n->(m i).length<=B):M8 n B ((List.range n).map λi=>D7 (f i)):=by
 refine⟨by simp,λr b=>?_,λr b=>?_⟩
 ·obtain⟨i,_,rfl⟩:=dO7.1 b;exact S6 _
 ·obtain⟨i,d,rfl⟩:=dO7.1 b;have a:=dQ6.1 d;exact dN1 (I2 (as7 (S6 _)) λx e=>h i a x (I3.1 e)) (c i a)
def bH2{p:Pg}{i:Nat}{n:A6}(h:Z6 p i n=true):n∈ab1::(p.globals++(p.procs.getD i bM5).params.map (·.name)):=by
 unfold Z6 O7 at h;rw[dX4,dX4,dO5,dO5]at h;rcases h with(h|h)|h
 ·rw[dM8 h];simp
 ·simp[h]
 ·exact dS2 _ (dS0 _ (dO7.2 ⟨_,h,rfl⟩))
def R1{p:Pg}(hm:N2 p=true){i:Nat}(j:i<p.procs.length):p.procs[i].params.length<=8:=by
 unfold N2 at hm;rw[dO8]at hm;have e:=hm.2;have c:∀(l:List Pr) (n:Int),(l.foldlM (λn f=>V8 f n) n).isSome=true->∀f∈l,f.params.length<=8:=by
  intro l
  induction l with
  | nil=>intro n _ f b;simp at b
  | cons g l q=>
   intro n h f b;rw[List.foldlM_cons]at h;obtain⟨k,o⟩:=dS1.1 h;obtain⟨m,a,d⟩:=dU9.1 o;rcases dO6.1 b with rfl|b
   ·unfold V8 at a;split at a
    ·cases a
    ·rename_i r;omega
   ·exact q m (by rw[d];rfl) f b
 exact c _ _ e _ (dN5 j)
def W2{p:Pg}(hm:N2 p=true):p.globals.length<=16/\p.procs.length<=16:=by
 unfold N2 at hm;simp only[dO8,dQ3]at hm;exact⟨hm.1.1.1,hm.1.1.2⟩
def cE8{p:Pg}(hm:N2 p=true){i:Nat}(a:i<p.procs.length):(ab1::(p.globals++(p.procs.getD i bM5).params.map (·.name))).length<=25:=by
 have b:=R1 hm a;have c:=(W2 hm).1;rw[List.getD,dM4 a];simp only[dP4,dM7,dN4,dR9];omega
def aX0{p:Pg}{defs:Rws}{i:Nat}{x:A6}(h:x∈ac0 p defs i):Z6 p i x=true:=by
 unfold ac0 at h;obtain⟨it,_,h⟩:=dQ0.1 h;exact(dP2.1 h).2
def aR6{p:Pg}(hm:N2 p=true):aE3 (G0 p) p.procs.length 25 where
 mono X Y h:=by
  refine bj5 λi b x a=>?_;unfold ac0 at a ⊢;obtain⟨it,c,a⟩:=dQ0.1 a;refine dQ0.2 ⟨it,c,?_⟩;rw[dP2]at a ⊢;exact⟨aY2 (bE9 λit x a=>cJ8 p h _ a) _ a.1,a.2⟩
 ok X:=bj6 _ (λi b x a=>bH2 (aX0 a)) λi b=>cE8 hm b
section
variable {wy:Wy} {outs:List A6} {uses uses' defs:Rws} {name:A6}
def bF2(b:OkR wy.net)(d:wy.net.length=wy.n.toNat)(e:0<wy.n):aC5 wy outs uses defs name=true↔∃a:Nat,a<wy.n.toNat/\ch0 wy outs uses name a=true/\Y5 (av6 wy.net (aV3 wy uses defs name)) 0 a:=by
 unfold aC5;rw[dZ8];constructor
 ·rintro⟨a,c,h⟩;rw[dO8,bN6 (ay8 b _) (by rw[aa8,d];exact B3.2 ⟨by omega,by omega⟩)]at h;exact⟨a,dQ6.1 c,h⟩
 ·rintro⟨a,c,h⟩;refine⟨a,dQ6.2 c,?_⟩;rw[dO8,bN6 (ay8 b _) (by rw[aa8,d];exact B3.2 ⟨by omega,by omega⟩)];exact h
def cO7(j:OkR wy.net)(k:wy.net.length=wy.n.toNat)(n:0<wy.n)(p:leR uses uses')(h:aC5 wy outs uses defs name=true):aC5 wy outs uses' defs name=true:=by
 rw[bF2 j k n]at h ⊢;obtain⟨a,o,f,q⟩:=h;have l:∀c,Y5 (av6 wy.net (aV3 wy uses defs name)) 0 c->Y5 (av6 wy.net (aV3 wy uses' defs name)) 0 c\/∃b:Nat,b<wy.n.toNat/\ch0 wy outs uses' name b=true/\Y5 (av6 wy.net (aV3 wy uses' defs name)) 0 b:=by
  intro c e
  induction e with
  | refl=>exact .inl .refl
  | @step b c s e d=>
   rcases d with d|d
   ·rw[aq3]at e;split at e
    ·simp at e
    ·rename_i g;cases hs':aV3 wy uses' defs name b.toNat
     ·refine .inl (.step d ?_);rw[aq3,hs',if_neg (by simp)];exact e
     ·right;have i:=bP7 (ay8 j _) (by rw[aa8,k];exact B3.2 ⟨by omega,by omega⟩) d;rw[aa8,k]at i;obtain⟨m,r⟩:=B3.1 i;refine⟨b.toNat,by omega,?_,by rw[Int.toNat_of_nonneg m];exact d⟩;unfold aV3 at g hs';unfold ch0;by_cases hN:((b.toNat:Nat):Int)=wy.n-1
      ·rw[dV2 hN]at g;simp at g
      ·rw[dW8 hN]at g hs';rw[if_neg hN];simp only[dZ4,dO8,dX4,not_and,not_or]at g hs';rw[dO8];refine⟨hs'.1,?_⟩;rcases hs'.2 with h|h
       ·exact h
       ·exact absurd h (g hs'.1).2
   ·exact .inr d
 rcases l a q with h|h
 ·refine⟨a,o,?_,h⟩;unfold ch0 at f ⊢;split at f
  ·rename_i hN;rw[if_pos hN];exact f
  ·rename_i hN;rw[if_neg hN];rw[dO8,dO5]at f ⊢;exact⟨f.1,aY2 p _ f.2⟩
 ·exact h
end
def bc7{p:Pg}(hm:N2 p=true)(outs defs:Rws)(c:∀i,i<p.procs.length->OkR (D5 (b9 p) i).net/\(D5 (b9 p) i).net.length=(D5 (b9 p) i).n.toNat/\0<(D5 (b9 p) i).n):aE3 (Q6 p outs defs) p.procs.length 25 where
 mono X Y h:=by
  refine bj5 λi b x a=>?_;unfold aE7 at a ⊢;rw[dP2]at a ⊢;obtain⟨d,e,f⟩:=c i b;exact⟨a.1,cO7 d e f (bE9 λit x a=>cV0 p h _ a) a.2⟩
 ok X:=bj6 (λ_=>p.globals++[ab1]) (λi b x a=>(dP2.1 a).1) λi b=>by
  have:=(W2 hm).1;simp only[dM7,dP7];omega
def G9{n:Nat}{l:List Int}:(U5 n l).length=n:=by simp[U5]
def ay5{n:Nat}{l:List Int}{b:Int}:A7 (U5 n l) b=true↔H1 n b=true/\b∈l:=by
 unfold A7;rw[G9,dO8];refine and_congr_right λc=>?_;have d:=B3.1 c;have a:b.toNat<n:=by omega
 have e:((b.toNat:Nat):Int)=b:=by omega
 simp[U5,List.getD_eq_getElem?_getD,dP9,dU6 a,e]
def al9{S:List Bool}{b:Int}:b∈af4 S↔A7 S b=true:=by
 unfold af4 A7;simp only[dO7,dP2,dQ6,dO8];constructor
 ·rintro⟨a,⟨d,c⟩,rfl⟩;exact⟨B3.2 ⟨by omega,by omega⟩,by simpa using c⟩
 ·rintro⟨d,c⟩;have:=B3.1 d;exact⟨b.toNat,⟨by omega,c⟩,by omega⟩
def ci8{S:List Bool}:(af4 S).Nodup:=by
 unfold af4;refine List.Pairwise.map _ (λa b h=>?_) (List.Pairwise.filter _ List.nodup_range);exact λe=>h (by omega)
def K0{nx:List (List Int)}{S:List Bool}:(J2 nx S).length=S.length:=G9
def bk2{nx:List (List Int)}:∀(m:Nat) (l:List Int),∀b∈O2 nx m l,∃a∈l,Y5 nx a b
 | 0,l,b,hb=>⟨b,hb,.refl⟩
 | m+1,l,b,hb=>by
  rw[O2]at hb;obtain⟨a,c,e⟩:=bk2 m _ b hb;rcases dN7.1 c with c|c
  ·exact⟨a,c,e⟩
  ·obtain⟨⟨d,g,f⟩,_⟩:=al8.1 c;exact⟨d,g,(Y5.one f).trans e⟩
def Q7{nx:List (List Int)}{S:List Bool}(j:OkR nx)(k:nx.length=S.length){b:Int}:
  A7 (J2 nx S) b=true↔∃a,A7 S a=true/\Y5 nx a b:=by
 unfold J2;rw[ay5];have e:∀c∈af4 S,H1 nx.length c=true:=λc i=>by rw[k];exact Y6 (al9.1 i)
 constructor
 ·rintro⟨_,h⟩;obtain⟨a,g,f⟩:=bk2 _ _ b h;exact⟨a,al9.1 g,f⟩
 ·rintro⟨a,g,f⟩;have d:=al9.2 g;refine⟨by rw[<-k];exact bP7 j (e a d) f,?_⟩
  induction f with
  | refl=>exact aN3 _ _ _ d
  | step _ i l=>exact bK3 j nx.length _ ci8 e (by omega) _ l _ i
def bp0{S T:List Bool}(f:S.length=T.length)(h:∀b,A7 S b=true↔A7 T b=true):S=T:=by
 refine dS8 f λk d e=>?_;have:=h (k:Int);unfold A7 at this;have a:H1 S.length (k:Int)=true:=B3.2 ⟨by omega,by omega⟩;have c:H1 T.length (k:Int)=true:=B3.2 ⟨by omega,by omega⟩;rw[a,c,dT7,dT7]at this;simp only[dP0,List.getD_eq_getElem?_getD,dM4 d,dM4 e,dR9]at this;exact dY0.2 this
def aU0{V:List Vx}{v:Vx}{a:Nat}(h:atV V v=some a):V[a]?=some v:=by
 unfold atV at h;obtain⟨b,c,_⟩:=List.findIdx?_eq_some_iff_getElem.1 h;rw[dM4 b];exact dO2 some (dM8 c)
def cH3{V:List Vx}{v:Vx}{a:Nat}(h:atV V v=some a):a<V.length:=(dM9.1 (aU0 h)).1
def ag3{V:List Vx}{v:Vx}:(atV V v).isSome=true↔v∈V:=by
 unfold atV;rw[List.findIdx?_isSome,dZ8];simp
def cY0{V:List Vx}(hn:V.Nodup){v:Vx}{a:Nat}(h:V[a]?=some v):atV V v=some a:=by
 have hm:v∈V:=dO4 h;obtain⟨b,e⟩:=dS1.1 (ag3.2 hm);have j:=aU0 e;obtain⟨g,c⟩:=dM9.1 h;obtain⟨i,d⟩:=dM9.1 j;have f:=dT5.1 hn;have:a=b:=by
  rcases Nat.lt_trichotomy a b with h|h|h
  ·exact absurd (c.trans d.symm) (f a b g i h)
  ·exact h
  ·exact absurd (d.trans c.symm) (f b a i g h)
 rw[e,this]
def bn1{V:List Vx}(b:0<V.length)(v:Vx):E9 V v<V.length:=by
 unfold E9;cases h:atV V v with
 | none=>exact b
 | some a=>exact cH3 h
def cs1{n:Nat}{f:Nat->List Int}{a b:Int}:b∈C9 ((List.range n).map f) a↔H1 n a=true/\b∈f a.toNat:=by
 unfold C9;rw[dN4,dR3];by_cases h:0<=a/\a<(n:Int)
 ·have c:a.toNat<n:=by omega
  rw[if_pos h,List.getD_eq_getElem?_getD,dP9,dU6 c];simp[B3.2 h]
 ·rw[if_neg h];simp only[dR2,false_iff];exact λd=>h (B3.1 d.1)
def ay7{V:List Vx}{L:List Eg}{ks:List Int}:(S4 V L ks).length=V.length:=by simp[S4]
def ac7{V:List Vx}{L:List Eg}{ks:List Int}:(X9 V L ks).length=V.length:=by simp[X9]
def aW4{V:List Vx}{L:List Eg}{ks:List Int}{a b:Int}:b∈C9 (S4 V L ks) a↔H1 V.length a=true/\∃e∈L,e.kind∈ks/\((E9 V e.src:Nat):Int)=a/\((E9 V e.dst:Nat):Int)=b:=by
 unfold S4;rw[cs1];refine and_congr_right λh=>?_;have:=B3.1 h;simp only[dO7,dP2,dO8,dO5,dQ3];constructor
 ·rintro⟨e,⟨c,d,g⟩,f⟩;exact⟨e,c,d,by omega,f⟩
 ·rintro⟨e,c,d,g,f⟩;exact⟨e,⟨c,d,by omega⟩,f⟩
def bW8{V:List Vx}{L:List Eg}{ks:List Int}{a b:Int}:b∈C9 (X9 V L ks) a↔H1 V.length a=true/\∃e∈L,e.kind∈ks/\((E9 V e.dst:Nat):Int)=a/\((E9 V e.src:Nat):Int)=b:=by
 unfold X9;rw[cs1];refine and_congr_right λh=>?_;have:=B3.1 h;simp only[dO7,dP2,dO8,dO5,dQ3];constructor
 ·rintro⟨e,⟨c,d,g⟩,f⟩;exact⟨e,c,d,by omega,f⟩
 ·rintro⟨e,c,d,g,f⟩;exact⟨e,⟨c,d,by omega⟩,f⟩
def aJ5{V:List Vx}(a:0<V.length)(v:Vx):H1 V.length ((E9 V v:Nat):Int)=true:=B3.2 ⟨by omega,by have:=bn1 a v;omega⟩
def aJ7{V:List Vx}{L:List Eg}{ks:List Int}(c:0<V.length):OkR (S4 V L ks):=λa b d=>by
 obtain⟨_,e,_,_,_,rfl⟩:=aW4.1 d;rw[ay7];exact aJ5 c _
def am1{V:List Vx}{L:List Eg}{ks:List Int}(c:0<V.length):OkR (X9 V L ks):=λa b d=>by
 obtain⟨_,e,_,_,_,rfl⟩:=bW8.1 d;rw[ac7];exact aJ5 c _
def bF5{V:List Vx}{L:List Eg}{ks:List Int}(f:0<V.length){a b:Int}:b∈C9 (S4 V L ks) a↔a∈C9 (X9 V L ks) b:=by
 rw[aW4,bW8];constructor
 ·rintro⟨_,e,c,d,rfl,rfl⟩;exact⟨aJ5 f _,e,c,d,rfl,rfl⟩
 ·rintro⟨_,e,c,d,rfl,rfl⟩;exact⟨aJ5 f _,e,c,d,rfl,rfl⟩
def T8{V:List Vx}{L:List Eg}{ks:List Int}(e:0<V.length){a b:Int}:Y5 (S4 V L ks) a b↔Y5 (X9 V L ks) b a:=by
 constructor
 ·intro h
  induction h with
  | refl=>exact .refl
  | step _ c d=>exact(Y5.one ((bF5 e).1 c)).trans d
 ·intro h
  induction h with
  | refl=>exact .refl
  | step _ c d=>exact(Y5.one ((bF5 e).2 c)).trans d
def dk7(V:List Vx)(L:List Eg)(a b:Int):Prop:=∃m,Y5 (S4 V L [1,2,3,6]) a m/\Y5 (S4 V L [1,2,3,4,5]) m b
def bR2{V:List Vx}{L:List Eg}(c:0<V.length){S:List Bool}(hS:S.length=V.length){a:Int}:
  A7 (J2 (X9 V L [1,2,3,6]) (J2 (X9 V L [1,2,3,4,5]) S)) a=true↔∃b,A7 S b=true/\dk7 V L a b:=by
 rw[Q7 (am1 c) (by rw[ac7,K0,hS])];constructor
 ·rintro⟨m,hm,f⟩;obtain⟨b,d,e⟩:=(Q7 (am1 c) (by rw[ac7,hS])).1 hm;exact⟨b,d,m,(T8 c).2 f,(T8 c).2 e⟩
 ·rintro⟨b,d,m,f,e⟩;exact⟨m,(Q7 (am1 c) (by rw[ac7,hS])).2 ⟨b,d,(T8 c).1 e⟩,(T8 c).1 f⟩
def bU2{V:List Vx}{L:List Eg}(c:0<V.length){S:List Bool}(hS:S.length=V.length){b:Int}:
  A7 (J2 (S4 V L [1,2,3,4,5]) (J2 (S4 V L [1,2,3,6]) S)) b=true↔∃a,A7 S a=true/\dk7 V L a b:=by
 rw[Q7 (aJ7 c) (by rw[ay7,K0,hS])];constructor
 ·rintro⟨m,hm,f⟩;obtain⟨a,d,e⟩:=(Q7 (aJ7 c) (by rw[ay7,hS])).1 hm;exact⟨a,d,m,e,f⟩
 ·rintro⟨a,d,m,e,f⟩;exact⟨m,(Q7 (aJ7 c) (by rw[ay7,hS])).2 ⟨a,d,e⟩,f⟩
def aW7{α:Type}[BEq α][LawfulBEq α]:∀(n:Nat) (l:List α),l.length<=n->l.eraseDups.Nodup
 | _,[],_=>by simp
 | 0,x::l,h=>by simp at h
 | n+1,x::l,h=>by
  rw[List.eraseDups_cons,dY6];refine⟨λhm=>?_,aW7 n _ (dN1 (dP3 _ _) (by simpa using h))⟩;rw[List.mem_eraseDups,dP2]at hm;simp at hm
def aJ2{V:List Vx}{b:Nat}{a:A6}{x e:Eg}:e∈as0 V b a x↔(x.kind=6/\E9 V x.src=b)/\∃v,V[E9 V x.dst]?=some v/\(⟨v.proc,5,v.id,a⟩:Vx)∈V/\e=⟨⟨v.proc,5,v.id,a⟩,v,3⟩:=by
 unfold as0;by_cases h:x.kind=(6:Int)/\E9 V x.src=b
 ·rw[if_pos h];cases hv:V[(E9 V x.dst:Nat)]? with
  | none=>simp
  | some v=>
   by_cases h2:(atV V ⟨v.proc,5,v.id,a⟩).isSome=true
   ·simp[h2,h,ag3.1 h2]
   ·have d:(⟨v.proc,5,v.id,a⟩:Vx)∉V:=λc=>h2 (ag3.2 c);simp[h2,d]
 ·rw[if_neg h];simp only[dR2,false_iff];exact λc=>h c.1
def aG0(V:List Vx)(L:List Eg)(e:Eg):Prop:=
 ∃(a:Nat) (c:Vx) (i:Int) (b:Vx),V[a]?=some c/\c.kind=4/\Y5 (S4 V L [1,2,3]) i (a:Int)/\V[i.toNat]?=some b/\b.kind=3/\∃x∈L,e∈as0 V a b.slot x
def cO3{V:List Vx}{L:List Eg}{e:Eg}:e∈bO5 V L↔aG0 V L e:=by
 unfold bO5 aG0;simp only[dQ0,dQ6];have k:∀(b:Nat),0<V.length->∀i:Int,i∈af4 (J2 (X9 V L [1,2,3]) (U5 V.length [(b:Int)]))↔H1 V.length (b:Int)=true/\Y5 (S4 V L [1,2,3]) i (b:Int):=λb f i=>by
  rw[al9,Q7 (am1 f) (by rw[ac7,G9])];constructor
  ·rintro⟨a,q,g⟩;obtain⟨j,l⟩:=ay5.1 q;simp at l;subst l;exact⟨j,(T8 f).2 g⟩
  ·rintro⟨j,g⟩;exact⟨_,ay5.2 ⟨j,by simp⟩,(T8 f).1 g⟩
 constructor
 ·rintro⟨b,d,c⟩;have f:0<V.length:=by omega
  rw[dM4 d]at c;dsimp only at c;by_cases hk:V[b].kind=(4:Int)
  ·rw[if_neg (λh=>h hk)]at c;unfold bO6 at c;obtain⟨i,r,c⟩:=dQ0.1 c;obtain⟨_,g⟩:=(k b f i).1 r;cases hvi:V[i.toNat]? with
   | none=>rw[hvi]at c;simp at c
   | some n=>
    rw[hvi]at c;dsimp only at c;by_cases hki:n.kind=(3:Int)
    ·rw[if_neg (λh=>h hki)]at c;obtain⟨x,m,c⟩:=dQ0.1 c;exact⟨b,V[b],i,n,dM4 d,hk,g,hvi,hki,x,m,c⟩
    ·rw[if_pos hki]at c;simp at c
  ·rw[if_pos hk]at c;simp at c
 ·rintro⟨b,t,i,n,j,l,g,o,p,x,m,c⟩;obtain⟨d,s⟩:=dM9.1 j;have f:0<V.length:=by omega
  refine⟨b,d,?_⟩;rw[j];dsimp only;rw[if_neg (λh=>h l)];unfold bO6;refine dQ0.2 ⟨i,(k b f i).2 ⟨B3.2 ⟨by omega,by omega⟩,g⟩,?_⟩;rw[o];dsimp only;rw[if_neg (λh=>h p)];exact dQ0.2 ⟨x,m,c⟩
def by5{V:List Vx}{L M:List Eg}{ks:List Int}(h:∀e∈L,e∈M){a b:Int}(hw:Y5 (S4 V L ks) a b):Y5 (S4 V M ks) a b:=by
 induction hw with
 | refl=>exact .refl
 | step _ i k=>
  obtain⟨c,e,j,d,f,g⟩:=aW4.1 i;exact .step k (aW4.2 ⟨c,e,h e j,d,f,g⟩)
def aG0.le{V:List Vx}{L M:List Eg}(h:∀e∈L,e∈M){e:Eg}(a:aG0 V L e):aG0 V M e:=by
 obtain⟨b,m,i,l,c,d,j,f,g,x,k,a⟩:=a;exact⟨b,m,i,l,c,d,by5 h j,f,g,x,h x k,a⟩
def bJ0(V:List Vx)(E S:List Eg):Prop:=∀e,aG0 V (E++S) e->e∈S
def bu4{V:List Vx}{E S:List Eg}{e:Eg}:e∈V2 V E S↔e∈S\/aG0 V (E++S) e:=by
 unfold V2;rw[dN7,List.mem_eraseDups,dP2,cO3];by_cases h:e∈S
 ·simp[h]
 ·simp[h]
def bt0{V:List Vx}{E C:List Eg}(c:bJ0 V E C):∀(k:Nat) (S:List Eg),(∀e∈S,e∈C)->∀e∈F6 (V2 V E) k S,e∈C
 | 0,S,h,e,he=>h e he
 | k+1,S,h,e,he=>by
  refine bt0 c k _ (λx a=>?_) e he;rcases bu4.1 a with a|a
  ·exact h x a
  ·refine c x (a.le λy b=>?_);rcases dN7.1 b with b|b
   ·exact dQ1 _ b
   ·exact dS0 _ (h y b)
def bN2(V:List Vx):List Eg:=V.flatMap λa=>V.map λb=>⟨a,b,3⟩
def cC8{V:List Vx}:(bN2 V).length=V.length*V.length:=by
 have:∀(l:List Vx),(l.flatMap λa=>V.map λb=>(⟨a,b,3⟩:Eg)).length=l.length*V.length:=λl=>by
  induction l with
  | nil=>simp
  | cons x l c=>rw[dW2,dM7,c,dN4,dP4,Nat.succ_mul];omega
 exact this V
def aG0.pair{V:List Vx}{L:List Eg}{e:Eg}(h:aG0 V L e):e∈bN2 V:=by
 obtain⟨_,_,_,_,_,_,_,_,_,x,_,a⟩:=h;obtain⟨_,v,b,hm,rfl⟩:=aJ2.1 a;exact dQ0.2 ⟨_,hm,dO7.2 ⟨v,dO4 b,rfl⟩⟩
def ck9{V:List Vx}{E S:List Eg}(h:S.Nodup):(V2 V E S).Nodup:=by
 unfold V2;rw[dR0];refine⟨h,aW7 _ _ (dO0 _),λa d b c e=>?_⟩;subst e;rw[List.mem_eraseDups,dP2]at c;simp at c;exact c.2 d
def iter_ok{V:List Vx}{E:List Eg}:∀(k:Nat) (S:List Eg),S.Nodup->(∀e∈S,e∈bN2 V)->(F6 (V2 V E) k S).Nodup/\∀e∈F6 (V2 V E) k S,e∈bN2 V
 | 0,S,h1,h2=>⟨h1,h2⟩
 | k+1,S,h1,h2=>iter_ok k _ (ck9 h1) λe a=>by
  rcases bu4.1 a with h|h
  ·exact h2 e h
  ·exact h.pair
def cE2{V:List Vx}{E S:List Eg}(h:V2 V E S≠S):S.length+1<=(V2 V E S).length:=by
 unfold V2 at h ⊢;rw[dM7];cases hz:((bO5 V (E++S)).filter λe=>!S.contains e).eraseDups with
 | nil=>rw[hz]at h;simp at h
 | cons x l=>simp
def bD8{V:List Vx}{E:List Eg}:∃k,k<=V.length*V.length+1/\V2 V E (F6 (V2 V E) k [])=F6 (V2 V E) k []:=by
 refine dV4 λc=>?_;have a:∀k,k<=V.length*V.length+1->k<=(F6 (V2 V E) k []).length:=by
  intro k
  induction k with
  | zero=>intro _;exact dN6 _
  | succ k g=>
   intro i;rw[Z0];have:=cE2 (λb=>c ⟨k,by omega,b⟩);have:=g (by omega);omega
 have h:=a _ (dO0 _);obtain⟨d,f⟩:=iter_ok (V:=V) (E:=E) (V.length*V.length+1) [] (by simp) (λe b=>by simp at b);have:=I2 d f;rw[cC8]at this;omega
def bk6{V:List Vx}{E:List Eg}:bJ0 V E (aZ6 V E):=by
 obtain⟨k,c,a⟩:=bD8 (V:=V) (E:=E);unfold aZ6;rw[aB2 k _ _ c a];intro e b;rw[<-a];exact bu4.2 (.inr b)
def bx8{V:List Vx}{E C:List Eg}(a:bJ0 V E C):∀e∈aZ6 V E,e∈C:=by
 obtain⟨k,c,d⟩:=bD8 (V:=V) (E:=E);unfold aZ6;rw[aB2 k _ _ c d];exact bt0 a k [] (λe b=>by simp at b)
def de4{V:List Vx}{E C:List Eg}(a:bJ0 V E C)(b:∀e∈C,e∈aZ6 V E):∀e,e∈C↔e∈aZ6 V E:=λe=>⟨b e,bx8 a e⟩
def cE6{V:List Vx}{E C:List Eg}(c:∀e∈C,e∈aZ6 V E){e:Eg}(b:aG0 V (E++C) e):e∈aZ6 V E:=bk6 e (b.le λy a=>by
 rcases dN7.1 a with a|a
 ·exact dQ1 _ a
 ·exact dS0 _ (c y a))
def ba7{V:List Vx}{L M:List Eg}{ks:List Int}(h:∀e,e∈L↔e∈M){a b:Int}:Y5 (S4 V L ks) a b↔Y5 (S4 V M ks) a b:=⟨by5 λe c=>(h e).1 c,by5 λe c=>(h e).2 c⟩
end Go.Proofs.YtfadjbljajfkfaaGreat
namespace Go.Proofs
open Go.Shelf
def Tryz.lySortV_ren:Go.Shelf.Ren:=⟨fun|6=>133|15=>66|14=>180|28=>101|29=>102|20=>223|21=>224|22=>225|23=>226|24=>227|25=>228|26=>229|27=>230|46=>258|47=>152|48=>153|49=>259|50=>260|57=>281|n=>n,fun|22=>22|24=>26|25=>202|3=>3|39=>129|0=>0|53=>165|55=>167|4=>4|46=>158|45=>157|50=>98|5=>5|9=>9|66=>225|70=>229|76=>271|77=>272|n=>n,fun|n=>n⟩
def Tryz.lySortV:Go.Proofs.SlLaysF0.n6 Tryz.prog Tryz.lySortV_ren:={
 mixed:=by kernel_rfl
 f6:=⟨Tryz.f133.name,by decide,Tryz.func133.trans (congrArg some (by kernel_rfl))⟩
 f14:=⟨Tryz.f180.name,by decide,Tryz.func180.trans (congrArg some (by kernel_rfl))⟩
 f15:=Tryz.func66.trans (congrArg some (by kernel_rfl))
 f20:=⟨Tryz.f223.name,by decide,Tryz.func223.trans (congrArg some (by kernel_rfl))⟩
 f21:=⟨Tryz.f224.name,by decide,Tryz.func224.trans (congrArg some (by kernel_rfl))⟩
 f22:=⟨Tryz.f225.name,by decide,Tryz.func225.trans (congrArg some (by kernel_rfl))⟩
 f23:=⟨Tryz.f226.name,by decide,Tryz.func226.trans (congrArg some (by kernel_rfl))⟩
 f24:=⟨Tryz.f227.name,by decide,Tryz.func227.trans (congrArg some (by kernel_rfl))⟩
 f25:=⟨Tryz.f228.name,by decide,Tryz.func228.trans (congrArg some (by kernel_rfl))⟩
 f26:=⟨Tryz.f229.name,by decide,Tryz.func229.trans (congrArg some (by kernel_rfl))⟩
 f27:=⟨Tryz.f230.name,by decide,Tryz.func230.trans (congrArg some (by kernel_rfl))⟩
 f28:=Tryz.func101.trans (congrArg some (by kernel_rfl))
 f29:=Tryz.func102.trans (congrArg some (by kernel_rfl))
 f46:=⟨Tryz.f258.name,by decide,Tryz.func258.trans (congrArg some (by kernel_rfl))⟩
 f47:=Tryz.func152.trans (congrArg some (by kernel_rfl))
 f48:=Tryz.func153.trans (congrArg some (by kernel_rfl))
 f49:=⟨Tryz.f259.name,by decide,Tryz.func259.trans (congrArg some (by kernel_rfl))⟩
 f50:=⟨Tryz.f260.name,by decide,Tryz.func260.trans (congrArg some (by kernel_rfl))⟩
 f57:=⟨Tryz.f281.name,by decide,Tryz.func281.trans (congrArg some (by kernel_rfl))⟩
 t0:=Tryz.underlying0
 a0:=Tryz.isAgg0
 z0:=Tryz.sizeOf0
 v0:=Tryz.zeroValue0
 t3:=Tryz.underlying3
 a3:=Tryz.isAgg3
 z3:=Tryz.sizeOf3
 v3:=Tryz.zeroValue3
 t4:=Tryz.underlying4
 a4:=Tryz.isAgg4
 z4:=Tryz.sizeOf4
 v4:=Tryz.zeroValue4
 t5:=Tryz.underlying5
 a5:=Tryz.isAgg5
 z5:=Tryz.sizeOf5
 v5:=Tryz.zeroValue5
 t9:=Tryz.underlying9
 a9:=Tryz.isAgg9
 z9:=Tryz.sizeOf9
 v9:=Tryz.zeroValue9
 t22:=Tryz.underlying22
 a22:=Tryz.isAgg22
 z22:=Tryz.sizeOf22
 v22:=Tryz.zeroValue22
 t25:=Tryz.underlying202
 a25:=Tryz.isAgg202
 z25:=Tryz.sizeOf202
 v25:=Tryz.zeroValue202
 t39:=Tryz.underlying129
 a39:=Tryz.isAgg129
 z39:=Tryz.sizeOf129
 v39:=Tryz.zeroValue129
 t45:=Tryz.underlying157
 a45:=Tryz.isAgg157
 z45:=Tryz.sizeOf157
 v45:=Tryz.zeroValue157
 t46:=Tryz.underlying158
 a46:=Tryz.isAgg158
 z46:=Tryz.sizeOf158
 v46:=Tryz.zeroValue158
 t50:=Tryz.underlying98
 a50:=Tryz.isAgg98
 z50:=Tryz.sizeOf98
 v50:=Tryz.zeroValue98
 t53:=Tryz.underlying165
 a53:=Tryz.isAgg165
 z53:=Tryz.sizeOf165
 v53:=Tryz.zeroValue165
 t55:=Tryz.underlying167
 a55:=Tryz.isAgg167
 z55:=Tryz.sizeOf167
 v55:=Tryz.zeroValue167
 t66:=Tryz.underlying225
 a66:=Tryz.isAgg225
 z66:=Tryz.sizeOf225
 v66:=Tryz.zeroValue225
 t70:=Tryz.underlying229
 a70:=Tryz.isAgg229
 z70:=Tryz.sizeOf229
 v70:=Tryz.zeroValue229
 t76:=Tryz.underlying271
 a76:=Tryz.isAgg271
 z76:=Tryz.sizeOf271
 v76:=Tryz.zeroValue271
 t77:=Tryz.underlying272
 a77:=Tryz.isAgg272
 z77:=Tryz.sizeOf272
 v77:=Tryz.zeroValue272}
def Tryz.lySortF_ren:Go.Shelf.Ren:=⟨fun|6=>190|15=>66|14=>238|28=>101|29=>102|20=>265|21=>266|22=>267|23=>268|24=>269|25=>270|26=>271|27=>272|46=>288|47=>152|48=>153|49=>289|50=>290|57=>306|n=>n,fun|22=>207|24=>210|25=>259|3=>3|39=>129|0=>0|53=>165|55=>167|4=>4|46=>158|45=>157|50=>98|5=>5|9=>9|66=>225|70=>229|76=>271|77=>272|n=>n,fun|n=>n⟩
def Tryz.lySortF:Go.Proofs.SlLaysF0.n6 Tryz.prog Tryz.lySortF_ren:={
 mixed:=by kernel_rfl
 f6:=⟨Tryz.f190.name,by decide,Tryz.func190.trans (congrArg some (by kernel_rfl))⟩
 f14:=⟨Tryz.f238.name,by decide,Tryz.func238.trans (congrArg some (by kernel_rfl))⟩
 f15:=Tryz.func66.trans (congrArg some (by kernel_rfl))
 f20:=⟨Tryz.f265.name,by decide,Tryz.func265.trans (congrArg some (by kernel_rfl))⟩
 f21:=⟨Tryz.f266.name,by decide,Tryz.func266.trans (congrArg some (by kernel_rfl))⟩
 f22:=⟨Tryz.f267.name,by decide,Tryz.func267.trans (congrArg some (by kernel_rfl))⟩
 f23:=⟨Tryz.f268.name,by decide,Tryz.func268.trans (congrArg some (by kernel_rfl))⟩
 f24:=⟨Tryz.f269.name,by decide,Tryz.func269.trans (congrArg some (by kernel_rfl))⟩
 f25:=⟨Tryz.f270.name,by decide,Tryz.func270.trans (congrArg some (by kernel_rfl))⟩
 f26:=⟨Tryz.f271.name,by decide,Tryz.func271.trans (congrArg some (by kernel_rfl))⟩
 f27:=⟨Tryz.f272.name,by decide,Tryz.func272.trans (congrArg some (by kernel_rfl))⟩
 f28:=Tryz.func101.trans (congrArg some (by kernel_rfl))
 f29:=Tryz.func102.trans (congrArg some (by kernel_rfl))
 f46:=⟨Tryz.f288.name,by decide,Tryz.func288.trans (congrArg some (by kernel_rfl))⟩
 f47:=Tryz.func152.trans (congrArg some (by kernel_rfl))
 f48:=Tryz.func153.trans (congrArg some (by kernel_rfl))
 f49:=⟨Tryz.f289.name,by decide,Tryz.func289.trans (congrArg some (by kernel_rfl))⟩
 f50:=⟨Tryz.f290.name,by decide,Tryz.func290.trans (congrArg some (by kernel_rfl))⟩
 f57:=⟨Tryz.f306.name,by decide,Tryz.func306.trans (congrArg some (by kernel_rfl))⟩
 t0:=Tryz.underlying0
 a0:=Tryz.isAgg0
 z0:=Tryz.sizeOf0
 v0:=Tryz.zeroValue0
 t3:=Tryz.underlying3
 a3:=Tryz.isAgg3
 z3:=Tryz.sizeOf3
 v3:=Tryz.zeroValue3
 t4:=Tryz.underlying4
 a4:=Tryz.isAgg4
 z4:=Tryz.sizeOf4
 v4:=Tryz.zeroValue4
 t5:=Tryz.underlying5
 a5:=Tryz.isAgg5
 z5:=Tryz.sizeOf5
 v5:=Tryz.zeroValue5
 t9:=Tryz.underlying9
 a9:=Tryz.isAgg9
 z9:=Tryz.sizeOf9
 v9:=Tryz.zeroValue9
 t22:=Tryz.underlying207
 a22:=Tryz.isAgg207
 z22:=Tryz.sizeOf207
 v22:=Tryz.zeroValue207
 t25:=Tryz.underlying259
 a25:=Tryz.isAgg259
 z25:=Tryz.sizeOf259
 v25:=Tryz.zeroValue259
 t39:=Tryz.underlying129
 a39:=Tryz.isAgg129
 z39:=Tryz.sizeOf129
 v39:=Tryz.zeroValue129
 t45:=Tryz.underlying157
 a45:=Tryz.isAgg157
 z45:=Tryz.sizeOf157
 v45:=Tryz.zeroValue157
 t46:=Tryz.underlying158
 a46:=Tryz.isAgg158
 z46:=Tryz.sizeOf158
 v46:=Tryz.zeroValue158
 t50:=Tryz.underlying98
 a50:=Tryz.isAgg98
 z50:=Tryz.sizeOf98
 v50:=Tryz.zeroValue98
 t53:=Tryz.underlying165
 a53:=Tryz.isAgg165
 z53:=Tryz.sizeOf165
 v53:=Tryz.zeroValue165
 t55:=Tryz.underlying167
 a55:=Tryz.isAgg167
 z55:=Tryz.sizeOf167
 v55:=Tryz.zeroValue167
 t66:=Tryz.underlying225
 a66:=Tryz.isAgg225
 z66:=Tryz.sizeOf225
 v66:=Tryz.zeroValue225
 t70:=Tryz.underlying229
 a70:=Tryz.isAgg229
 z70:=Tryz.sizeOf229
 v70:=Tryz.zeroValue229
 t76:=Tryz.underlying271
 a76:=Tryz.isAgg271
 z76:=Tryz.sizeOf271
 v76:=Tryz.zeroValue271
 t77:=Tryz.underlying272
 a77:=Tryz.isAgg272
 z77:=Tryz.sizeOf272
 v77:=Tryz.zeroValue272}
def Tryz.lySortE_ren:Go.Shelf.Ren:=⟨fun|6=>141|15=>66|14=>194|28=>101|29=>102|20=>239|21=>240|22=>241|23=>242|24=>243|25=>244|26=>245|27=>246|46=>273|47=>152|48=>153|49=>274|50=>275|57=>291|n=>n,fun|22=>55|24=>67|25=>215|3=>3|39=>129|0=>0|53=>165|55=>167|4=>4|46=>158|45=>157|50=>98|5=>5|9=>9|66=>225|70=>229|76=>271|77=>272|n=>n,fun|n=>n⟩
def Tryz.lySortE:Go.Proofs.SlLaysF0.n6 Tryz.prog Tryz.lySortE_ren:={
 mixed:=by kernel_rfl
 f6:=⟨Tryz.f141.name,by decide,Tryz.func141.trans (congrArg some (by kernel_rfl))⟩
 f14:=⟨Tryz.f194.name,by decide,Tryz.func194.trans (congrArg some (by kernel_rfl))⟩
 f15:=Tryz.func66.trans (congrArg some (by kernel_rfl))
 f20:=⟨Tryz.f239.name,by decide,Tryz.func239.trans (congrArg some (by kernel_rfl))⟩
 f21:=⟨Tryz.f240.name,by decide,Tryz.func240.trans (congrArg some (by kernel_rfl))⟩
 f22:=⟨Tryz.f241.name,by decide,Tryz.func241.trans (congrArg some (by kernel_rfl))⟩
 f23:=⟨Tryz.f242.name,by decide,Tryz.func242.trans (congrArg some (by kernel_rfl))⟩
 f24:=⟨Tryz.f243.name,by decide,Tryz.func243.trans (congrArg some (by kernel_rfl))⟩
 f25:=⟨Tryz.f244.name,by decide,Tryz.func244.trans (congrArg some (by kernel_rfl))⟩
 f26:=⟨Tryz.f245.name,by decide,Tryz.func245.trans (congrArg some (by kernel_rfl))⟩
 f27:=⟨Tryz.f246.name,by decide,Tryz.func246.trans (congrArg some (by kernel_rfl))⟩
 f28:=Tryz.func101.trans (congrArg some (by kernel_rfl))
 f29:=Tryz.func102.trans (congrArg some (by kernel_rfl))
 f46:=⟨Tryz.f273.name,by decide,Tryz.func273.trans (congrArg some (by kernel_rfl))⟩
 f47:=Tryz.func152.trans (congrArg some (by kernel_rfl))
 f48:=Tryz.func153.trans (congrArg some (by kernel_rfl))
 f49:=⟨Tryz.f274.name,by decide,Tryz.func274.trans (congrArg some (by kernel_rfl))⟩
 f50:=⟨Tryz.f275.name,by decide,Tryz.func275.trans (congrArg some (by kernel_rfl))⟩
 f57:=⟨Tryz.f291.name,by decide,Tryz.func291.trans (congrArg some (by kernel_rfl))⟩
 t0:=Tryz.underlying0
 a0:=Tryz.isAgg0
 z0:=Tryz.sizeOf0
 v0:=Tryz.zeroValue0
 t3:=Tryz.underlying3
 a3:=Tryz.isAgg3
 z3:=Tryz.sizeOf3
 v3:=Tryz.zeroValue3
 t4:=Tryz.underlying4
 a4:=Tryz.isAgg4
 z4:=Tryz.sizeOf4
 v4:=Tryz.zeroValue4
 t5:=Tryz.underlying5
 a5:=Tryz.isAgg5
 z5:=Tryz.sizeOf5
 v5:=Tryz.zeroValue5
 t9:=Tryz.underlying9
 a9:=Tryz.isAgg9
 z9:=Tryz.sizeOf9
 v9:=Tryz.zeroValue9
 t22:=Tryz.underlying55
 a22:=Tryz.isAgg55
 z22:=Tryz.sizeOf55
 v22:=Tryz.zeroValue55
 t25:=Tryz.underlying215
 a25:=Tryz.isAgg215
 z25:=Tryz.sizeOf215
 v25:=Tryz.zeroValue215
 t39:=Tryz.underlying129
 a39:=Tryz.isAgg129
 z39:=Tryz.sizeOf129
 v39:=Tryz.zeroValue129
 t45:=Tryz.underlying157
 a45:=Tryz.isAgg157
 z45:=Tryz.sizeOf157
 v45:=Tryz.zeroValue157
 t46:=Tryz.underlying158
 a46:=Tryz.isAgg158
 z46:=Tryz.sizeOf158
 v46:=Tryz.zeroValue158
 t50:=Tryz.underlying98
 a50:=Tryz.isAgg98
 z50:=Tryz.sizeOf98
 v50:=Tryz.zeroValue98
 t53:=Tryz.underlying165
 a53:=Tryz.isAgg165
 z53:=Tryz.sizeOf165
 v53:=Tryz.zeroValue165
 t55:=Tryz.underlying167
 a55:=Tryz.isAgg167
 z55:=Tryz.sizeOf167
 v55:=Tryz.zeroValue167
 t66:=Tryz.underlying225
 a66:=Tryz.isAgg225
 z66:=Tryz.sizeOf225
 v66:=Tryz.zeroValue225
 t70:=Tryz.underlying229
 a70:=Tryz.isAgg229
 z70:=Tryz.sizeOf229
 v70:=Tryz.zeroValue229
 t76:=Tryz.underlying271
 a76:=Tryz.isAgg271
 z76:=Tryz.sizeOf271
 v76:=Tryz.zeroValue271
 t77:=Tryz.underlying272
 a77:=Tryz.isAgg272
 z77:=Tryz.sizeOf272
 v77:=Tryz.zeroValue272}
def Tryz.lySortP_ren:Go.Shelf.Ren:=⟨fun|6=>248|15=>66|14=>276|28=>101|29=>102|20=>292|21=>293|22=>294|23=>295|24=>296|25=>297|26=>298|27=>299|46=>307|47=>152|48=>153|49=>308|50=>309|57=>311|n=>n,fun|22=>117|24=>263|25=>306|3=>3|39=>129|0=>0|53=>165|55=>167|4=>4|46=>158|45=>157|50=>98|5=>5|9=>9|66=>225|70=>229|76=>271|77=>272|n=>n,fun|n=>n⟩
def Tryz.lySortP:Go.Proofs.SlLaysF0.n6 Tryz.prog Tryz.lySortP_ren:={
 mixed:=by kernel_rfl
 f6:=⟨Tryz.f248.name,by decide,Tryz.func248.trans (congrArg some (by kernel_rfl))⟩
 f14:=⟨Tryz.f276.name,by decide,Tryz.func276.trans (congrArg some (by kernel_rfl))⟩
 f15:=Tryz.func66.trans (congrArg some (by kernel_rfl))
 f20:=⟨Tryz.f292.name,by decide,Tryz.func292.trans (congrArg some (by kernel_rfl))⟩
 f21:=⟨Tryz.f293.name,by decide,Tryz.func293.trans (congrArg some (by kernel_rfl))⟩
 f22:=⟨Tryz.f294.name,by decide,Tryz.func294.trans (congrArg some (by kernel_rfl))⟩
 f23:=⟨Tryz.f295.name,by decide,Tryz.func295.trans (congrArg some (by kernel_rfl))⟩
 f24:=⟨Tryz.f296.name,by decide,Tryz.func296.trans (congrArg some (by kernel_rfl))⟩
 f25:=⟨Tryz.f297.name,by decide,Tryz.func297.trans (congrArg some (by kernel_rfl))⟩
 f26:=⟨Tryz.f298.name,by decide,Tryz.func298.trans (congrArg some (by kernel_rfl))⟩
 f27:=⟨Tryz.f299.name,by decide,Tryz.func299.trans (congrArg some (by kernel_rfl))⟩
 f28:=Tryz.func101.trans (congrArg some (by kernel_rfl))
 f29:=Tryz.func102.trans (congrArg some (by kernel_rfl))
 f46:=⟨Tryz.f307.name,by decide,Tryz.func307.trans (congrArg some (by kernel_rfl))⟩
 f47:=Tryz.func152.trans (congrArg some (by kernel_rfl))
 f48:=Tryz.func153.trans (congrArg some (by kernel_rfl))
 f49:=⟨Tryz.f308.name,by decide,Tryz.func308.trans (congrArg some (by kernel_rfl))⟩
 f50:=⟨Tryz.f309.name,by decide,Tryz.func309.trans (congrArg some (by kernel_rfl))⟩
 f57:=⟨Tryz.f311.name,by decide,Tryz.func311.trans (congrArg some (by kernel_rfl))⟩
 t0:=Tryz.underlying0
 a0:=Tryz.isAgg0
 z0:=Tryz.sizeOf0
 v0:=Tryz.zeroValue0
 t3:=Tryz.underlying3
 a3:=Tryz.isAgg3
 z3:=Tryz.sizeOf3
 v3:=Tryz.zeroValue3
 t4:=Tryz.underlying4
 a4:=Tryz.isAgg4
 z4:=Tryz.sizeOf4
 v4:=Tryz.zeroValue4
 t5:=Tryz.underlying5
 a5:=Tryz.isAgg5
 z5:=Tryz.sizeOf5
 v5:=Tryz.zeroValue5
 t9:=Tryz.underlying9
 a9:=Tryz.isAgg9
 z9:=Tryz.sizeOf9
 v9:=Tryz.zeroValue9
 t22:=Tryz.underlying117
 a22:=Tryz.isAgg117
 z22:=Tryz.sizeOf117
 v22:=Tryz.zeroValue117
 t25:=Tryz.underlying306
 a25:=Tryz.isAgg306
 z25:=Tryz.sizeOf306
 v25:=Tryz.zeroValue306
 t39:=Tryz.underlying129
 a39:=Tryz.isAgg129
 z39:=Tryz.sizeOf129
 v39:=Tryz.zeroValue129
 t45:=Tryz.underlying157
 a45:=Tryz.isAgg157
 z45:=Tryz.sizeOf157
 v45:=Tryz.zeroValue157
 t46:=Tryz.underlying158
 a46:=Tryz.isAgg158
 z46:=Tryz.sizeOf158
 v46:=Tryz.zeroValue158
 t50:=Tryz.underlying98
 a50:=Tryz.isAgg98
 z50:=Tryz.sizeOf98
 v50:=Tryz.zeroValue98
 t53:=Tryz.underlying165
 a53:=Tryz.isAgg165
 z53:=Tryz.sizeOf165
 v53:=Tryz.zeroValue165
 t55:=Tryz.underlying167
 a55:=Tryz.isAgg167
 z55:=Tryz.sizeOf167
 v55:=Tryz.zeroValue167
 t66:=Tryz.underlying225
 a66:=Tryz.isAgg225
 z66:=Tryz.sizeOf225
 v66:=Tryz.zeroValue225
 t70:=Tryz.underlying229
 a70:=Tryz.isAgg229
 z70:=Tryz.sizeOf229
 v70:=Tryz.zeroValue229
 t76:=Tryz.underlying271
 a76:=Tryz.isAgg271
 z76:=Tryz.sizeOf271
 v76:=Tryz.zeroValue271
 t77:=Tryz.underlying272
 a77:=Tryz.isAgg272
 z77:=Tryz.sizeOf272
 v77:=Tryz.zeroValue272}
end Go.Proofs
namespace Go.Proofs.YtfadjbljajfkfaaGreat
open Go Tryz
section
variable {α:Type} [A4 α] {P:Program} {h:Hp} {w:World} {t T sz by_:Nat} {v:Value} {x:α}
def bR5(hv:SV h v x)(hw:B5 h (i4 w)):∃a c,(Instr.box T v).run P w = .ok (.pointer (some a)) c/\Gr w c/\At (i4 c) a x:=by
 obtain⟨b,rfl,d⟩:=hv;have f:=o7.alloc w (.cells (List.toArray b) T);refine⟨⟨w.heap.size,0,none⟩,w.alloc (.cells (List.toArray b) T),rfl,Gr.alloc _ _,b,A4.mono (t8 hw (b7 f)) d,λj u e=>?_⟩;rw[<-ak4,add_lit,dQ2,dY2];simpa using e
def dc0(q:F4 P t T sz by_=true){xs:List Value}{ys:List α}{parts:Array (Nat×Value)}{n:Nat}(m:parts.toList=(xs.zipIdx 0).map λp=>(p.2,p.1))
  (b:O3 h (xs.flatMap (·.cells.toList)) ys) (r:∀x∈xs,x.cells.size=sz) (hn:n=xs.length) (a:ys.length=xs.length) (d:xs≠[]) (c:xs.length<=16) (hw:B5 h (i4 w)) :
  ∃v e,(Instr.buildSlice t n parts).run P w = .ok v e/\A8 h e T v ys/\Gr w e:=by
 obtain⟨g,⟨z,f,s⟩,j,u,y,A⟩:=S5 q;obtain⟨i,k,l⟩:=z7 f;have o:=as9 (w:=w) g (by rw[k];rfl) f xs (by rw[j];exact r) d (by omega) (dN1 (Nat.mul_le_mul c (show L9 P T<=1000000 by omega)) (by omega)) m hn;refine⟨_,_,o,.inr ⟨w.heap.size,n,_,by rw[hn,a],aB8 hw (dO0 _),dQ5 w _,by omega,by rw[hn];simp only[maxLen];omega,?_,?_⟩,Gr.alloc _ _⟩
 ·have:=M2 b;simp only[dW4,this,a,hn]
 ·rw[<-M2 b];simp only[dN8];exact b
def SV.ofN[A0 α](h:Hp)(x:α):SV h (.agg (A0.cells x).toArray) x:=⟨_,rfl,(A0.iff_ _ _ _).2 rfl⟩
end
def bX1(s:Int)(w:World):p7 prog 156 #[.int .i64 s] w λu a=>(u = .bool false/\a=w):=by
 refine p9 [.int .i64 s] func156 rfl ?_;have b:decide (s=s)=true:=by simp
 simp only[n8,o6,simprocAttr];exact o8 results156 ⟨rfl,by trivial⟩
def U4(a b:Int)(w:World):p7 prog 144 #[.int .i64 a,.int .i64 b] w λu d=>(u = .int .i64 (K6 a b)/\d=w):=by
 refine p9 [.int .i64 a,.int .i64 b] func144 rfl ?_;simp only[n8,o6,simprocAttr];refine E0 (bX1 a w) ?_;simp only[n8,simprocAttr];refine E0 (bX1 b w) ?_;have c:K6 a b=if a<b then -1 else if b<a then 1 else 0:=rfl;rcases dM5 (decide (a<b))with h1|h1
 ·simp only[n8,o6,simprocAttr,h1];refine o8 results144 ?_;simp only[p8,simprocAttr];exact⟨by rw[c,if_pos (dM8 h1)],by trivial⟩
 rw[if_neg (dN2 h1)]at c;rcases dM5 (decide (b<a))with h2|h2
 ·simp only[n8,o6,simprocAttr,h1,h2];refine o8 results144 ?_;simp only[p8,simprocAttr];exact⟨by rw[c,if_pos (dM8 h2)],by trivial⟩
 ·simp only[n8,o6,simprocAttr,h1,h2];refine o8 results144 ?_;simp only[p8,simprocAttr];exact⟨by rw[c,if_neg (dN2 h2)],by trivial⟩
def aA4(a b:A6)(w:World):p7 prog 181 #[p6 a,p6 b] w λu g=>(u = .int .i64 (ab4 a b)/\g=w):=by
 refine p9 [p6 a,p6 b] func181 rfl ?_;simp only[n8,o6,simprocAttr];refine E0 (bu5 a w) ?_;simp only[n8,simprocAttr];refine E0 (bu5 b w) ?_;have f:ab4 a b=if ltS a b then -1 else if ltS b a then 1 else 0:=rfl;have c:(!(ltS a b||decide (a=b)))=(!ltS a b&&ltS b a):=by
  cases h1:ltS a b<;>cases h2:ltS b a
  ·have:=bM2 h1 h2;subst this;simp
  ·have:a≠b:=λe=>by subst e;rw[L5]at h2;cases h2
   simp[this]
  ·rfl
  ·rfl
 rcases dM5 (ltS a b)with h1|h1
 ·simp only[n8,o6,simprocAttr,h1];refine o8 results181 ?_;simp only[p8,simprocAttr];exact⟨by rw[f,if_pos h1],by trivial⟩
 rw[if_neg (by rw[h1];simp)]at f;rw[h1]at c;simp only[dZ4,Bool.not_false,dT7]at c;have d:B4 prog .gtr 9 (p6 a) (p6 b)=some (.bool (ltS b a)):=by rw[cY3,h1,dZ4,c]
 rcases dM5 (ltS b a)with h2|h2
 ·simp only[n8,o6,simprocAttr,h1,h2,d];refine o8 results181 ?_;simp only[p8,simprocAttr];exact⟨by rw[f,if_pos h2],by trivial⟩
 ·simp only[n8,o6,simprocAttr,h1,h2,d];refine o8 results181 ?_;simp only[p8,simprocAttr];exact⟨by rw[f,if_neg (by rw[h2];simp)],by trivial⟩
def aF7{h:Hp}{v:Value}{l:List Int}{w:World}(hv:R h v l)(hw:B5 h (i4 w)){k:Nat}(a:k<l.length):(Instr.loadAt 3 (.pointer (some (G4 v k)))).run prog w = .ok (.int .i64 l[k]) w:=
 M4 (P:=prog) (t:=3) hv hw (dM4 a) G3
def bI8(v:Value)(l:List Int)(w:World)(hv:R (i4 w) v l)(s:l.length<=1000000000):p7 prog 143 #[v] w λu j=>(u = .int .i64 (orF l)/\j=w):=by
 refine p9 [v] func143 rfl ?_;have p:=hv.isS;have r:=hv.vlen;simp only[n8,o6,simprocAttr,p,r];refine n9 [3,6,7] (σ:=Nat) (λk f j=>f 8 = .int .i64 k/\k<=l.length/\orF l=orF (l.drop k)/\j=w) (λk=>l.length-k) 0 ?_ ?_
 ·simp only[p8,simprocAttr];exact⟨by trivial,dN6 _,by rw[dV7],by trivial⟩
 rintro k f t n ⟨g,q,a,rfl⟩;simp only[dM6,p8,simprocAttr]at n;obtain⟨e,m,o,_⟩:=n;simp only[n8,o6,simprocAttr,g,o];refine n7 (λh=>?_) (λh=>?_);rotate_left
 ·have i:k=l.length:=by simp at h;omega
  subst i;rw[dV9,orF]at a;simp only[n8,simprocAttr,e];refine o8 results143 ?_;simp only[p8,simprocAttr];exact⟨by rw[a],by trivial⟩
 have c:k<l.length:=by simpa using h
 have d:=hv.inS c;have b:=aF7 hv (i5 _) c;rw[dR1 c,orF]at a;generalize l[k]=y at b a;rcases dM5 (decide (y=0))with hq|hq
 ·rw[if_pos (dM8 hq)]at a;simp only[n8,o6,y0,simprocAttr,g,e,m,d,b,hq];exact⟨k+1,by omega,dO2 _ (B0 k (by omega)),by omega,a,by trivial⟩
 ·rw[if_neg (dN2 hq)]at a;simp only[n8,o6,y0,simprocAttr,g,e,m,d,b,hq];refine o8 results143 ?_;simp only[p8,simprocAttr];exact⟨by rw[a],by trivial⟩
def al1(a:Int)(w:World):p7 prog 192 #[.int .i64 a] w λu b=>(u = .int .i64 (F1 a)/\b=w):=by
 refine p9 [.int .i64 a] func192 rfl ?_;rcases dM5 (decide (a = -1))with h1|h1
 ·simp only[n8,o6,simprocAttr,h1];refine o8 results192 ?_;simp only[p8,simprocAttr];exact⟨by rw[F1,if_pos (dM8 h1)],by trivial⟩
 ·simp only[n8,o6,simprocAttr,h1];refine o8 results192 ?_;simp only[p8,simprocAttr];exact⟨by rw[F1,if_neg (dN2 h1)],by trivial⟩
def cE1(x y:Sp)(w:World):p7 prog 249 #[.agg (A0.cells x).toArray,.agg (A0.cells y).toArray] w λu d=>(u = .int .i64 (spC x y)/\Gr w d):=by
 refine p9 [.agg (A0.cells x).toArray,.agg (A0.cells y).toArray] func249 rfl ?_;obtain⟨a,C,i,k,r⟩:=bR5 (P:=prog) (T:=263) (SV.ofN (i4 w) x) (i5 _);obtain⟨b,c,j,e,s⟩:=bR5 (P:=prog) (T:=263) (SV.ofN (i4 C) y) (i5 _);obtain⟨_,z⟩:=(r.mono (b7 e.ext)).sp;obtain⟨_,A⟩:=s.sp;have t:=z (λd=>Gr c.drew d) c.drew (Gr.refl _) λd h=>b7 ((Gr.drew c).trans h).ext;have v:=A (λd=>Gr c.drew d) c.drew (Gr.refl _) λd h=>b7 ((Gr.drew c).trans h).ext;simp only[n8,o6,simprocAttr,i,j];refine C0 (λd=>Gr c.drew d) 18 (A5 [0,1,3,4,7,8,10,11,14,15,16,17,2,5,6,9,12,13]) ?_ (hS:=Gr.refl _);simp only[D6,A5,n8,o6,simprocAttr,t,v];refine E0 (al1 _ _) ⟨Gr.refl _,?_⟩;simp only[D6,n8,simprocAttr];refine E0 (al1 _ _) ⟨Gr.refl _,?_⟩;simp only[D6,n8,simprocAttr];refine E0 (U4 _ _ _) ⟨Gr.refl _,?_⟩;simp only[D6,n8,simprocAttr];refine E0 (al1 _ _) ⟨Gr.refl _,?_⟩;simp only[D6,n8,simprocAttr];refine E0 (al1 _ _) ⟨Gr.refl _,?_⟩;simp only[D6,n8,simprocAttr];refine E0 (U4 _ _ _) ⟨Gr.refl _,?_⟩;simp only[D6,n8,simprocAttr];refine E0 (U4 _ _ _) ?_;generalize m:[K6 (F1 x.src) (F1 y.src),K6 (F1 x.dst) (F1 y.dst),K6 x.kind y.kind]=l;have q:spC x y=orF l:=by rw[<-m];rfl
 have p:l.length=3:=by rw[<-m];rfl
 obtain⟨B,D,g,o,f⟩:=dc0 (P:=prog) (w:=c.drew) (h:=i4 c.drew) (α:=Int) (xs:=[.int .i64 (K6 (F1 x.src) (F1 y.src)),.int .i64 (K6 (F1 x.dst) (F1 y.dst)),.int .i64 (K6 x.kind y.kind)]) (ys:=l) (parts:=#[(0,.int .i64 (K6 (F1 x.src) (F1 y.src))),(1,.int .i64 (K6 (F1 x.dst) (F1 y.dst))),(2,.int .i64 (K6 x.kind y.kind))]) (n:=3) U2 rfl (by rw[<-m];exact G5.2 rfl) (by simp[Value.cells]) rfl p (by simp) (by simp) (i5 _);simp only[n8,simprocAttr,g];refine E0 (bI8 B l D (o.rw_ (b7 f.ext)) (by omega)) ?_;simp only[n8,simprocAttr];refine o8 results249 ?_;simp only[p8,simprocAttr];exact⟨by rw[q],k.trans (e.trans ((Gr.drew c).trans f))⟩
def cb0(x y:Sp)(g h:Value)(w:World)(o:SV (i4 w) g x)(p:SV (i4 w) h y):p7 prog 251 #[g,h] w λu s=>(u = .bool (aZ1 x y)/\o7 w s):=by
 refine p9 [g,h] func251 rfl ?_;obtain⟨a,t,e,c,m⟩:=co8 o (i5 _);obtain⟨b,l,f,d,n⟩:=co8 (p.mono (b7 c)) (i5 _);obtain⟨q,_⟩:=m.sp;obtain⟨r,_⟩:=n.sp;have j:=q l (b7 d);have k:=r l (i5 _);have i:aZ1 x y=(decide (x.src=y.src)&&decide (x.dst=y.dst)):=rfl;rcases dM5 (decide (x.src=y.src))with h1|h1
 ·simp only[n8,o6,simprocAttr,e,f,j,k,h1];refine o8 results251 ?_;simp only[p8,simprocAttr];exact⟨by rw[i,h1,dT7],c.trans d⟩
 ·simp only[n8,o6,simprocAttr,e,f,j,k,h1];refine o8 results251 ?_;simp only[p8,simprocAttr];exact⟨by rw[i,h1];rfl,c.trans d⟩
def dh2:Cm spC:=by
 have h:=(aH2.key (λx:Sp=>F1 x.src)).lex ((aH2.key (λx:Sp=>F1 x.dst)).lex ((aH2.key (λx:Sp=>x.kind)).lex Cm.zero));have e:spC=λx y:Sp=>if K6 (F1 x.src) (F1 y.src)=0 then(if K6 (F1 x.dst) (F1 y.dst)=0 then(if K6 x.kind y.kind=0 then 0 else K6 x.kind y.kind)else K6 (F1 x.dst) (F1 y.dst))else K6 (F1 x.src) (F1 y.src):=by
  funext x y
  simp only[spC,orF]
 rw[e];exact h
def plc(a:Int):Prop:=a<9223372036854775807
def aX7{a b:Int}(c:plc a)(hb:plc b)(h:F1 a=F1 b):a=b:=by
 unfold F1 plc at *;split at h<;>split at h<;>omega
def de2{l:List Sp}(d:∀x∈l,plc x.src/\plc x.dst):∀a∈l,∀b∈l,decide (spC a b<=0)=true->decide (spC b a<=0)=true->a=b:=by
 intro a e b f g h;have m:=dM8 g;have n:=dM8 h;have o:=dh2.anti a b;have c:spC a b=0:=by omega
 unfold spC at c;simp only[orF]at c;by_cases q1:K6 (F1 a.src) (F1 b.src)=0
 ·rw[if_pos q1]at c;by_cases q2:K6 (F1 a.dst) (F1 b.dst)=0
  ·rw[if_pos q2]at c;by_cases q3:K6 a.kind b.kind=0
   ·have i:=aX7 (d a e).1 (d b f).1 (aa0 q1);have j:=aX7 (d a e).2 (d b f).2 (aa0 q2);have k:=aa0 q3;cases a;cases b;simp_all
   ·rw[if_neg q3]at c;exact absurd c q3
  ·rw[if_neg q2]at c;exact absurd c q2
 ·rw[if_neg q1]at c;exact absurd c q1
def cB8:(Tryz.lySortP_ren.f 6)=248:=by kernel_rfl
def bE7:(Tryz.lySortP_ren.t 24)=263:=by kernel_rfl
def bx0:F4 prog 117 263 3 24=true:=by kernel_rfl
def ca9{h:Hp}{w:World}{v:Value}{xs:List Sp}(i:A8 h w 263 v xs)(g:xs.length<=1000000000)(j:∀x∈xs,plc x.src/\plc x.dst):
  Calls prog 248 #[v,.func (.func 249) #[] #[]] w λe a=>∃u,e = .returned u/\(A8 h a 263 v (Y0 de1 xs)/\o9 (A3 v) w a):=by
 rw[<-cB8];have b:∀w,(isAgg (Tryz.lySortP_ren.t 24)).run prog w = .ok true w:=λw=>by
  rw[bE7,aa4 _ cm3,cl8]
 have k:∀w,(Go.sizeOf (Tryz.lySortP_ren.t 24)).run prog w = .ok (A4.sz Sp) w:=λw=>by
  rw[bE7,P8 by0,aT0];rfl
 exact aM7 (P:=prog) (T:=263) Tryz.lySortP b k spC dh2 249 (enters_of func249 (by kernel_rfl) rfl) (λx y w=>(cE1 x y w).mono λe a ⟨u,c,d,f⟩=>⟨by rw[c,d],f⟩) i g (de2 j)
section
variable {α:Type} [A4 α] [A0 α] {P:Program} {h:Hp} {w:World} {t T:TypeId} {v:Value} {xs:List α}
def bh6{xs:List α}{k:Nat}(a:k<xs.length)(y:α):(xs.set k y).flatMap A0.cells=(xs.flatMap A0.cells).take (k*A4.sz α)++A0.cells y++(xs.flatMap A0.cells).drop (k*A4.sz α+A4.sz α):=by
 have e:xs=xs.take k++(xs[k]::xs.drop (k+1)):=by
  have:=dR8 k xs;rw[dR1 a]at this;exact this.symm
 have f:xs.set k y=xs.take k++(y::xs.drop (k+1)):=by rw[List.set_eq_take_append_cons_drop,if_pos a]
 have b:((xs.take k).flatMap A0.cells).length=k*A4.sz α:=by rw[af1,dN9,dT1 (Nat.le_of_lt a)]
 rw[f]
 conv=>rhs;rw[e]
 simp only[dZ6,dW2];have c:((xs.take k).flatMap A0.cells++(A0.cells xs[k]++(xs.drop (k+1)).flatMap A0.cells)).take (k*A4.sz α)=(xs.take k).flatMap A0.cells:=by rw[<-b,dW1]
 have d:((xs.take k).flatMap A0.cells++(A0.cells xs[k]++(xs.drop (k+1)).flatMap A0.cells)).drop (k*A4.sz α+A4.sz α)=(xs.drop (k+1)).flatMap A0.cells:=by
  rw[<-dP5,<-b,<-ap6 xs[k],<-dM7,List.drop_left]
 rw[c,d,dP5]
def bu9(I:A8 h w T v xs)(G:(P.info? t).isSome=true)(J:L9 P t=A4.sz α){k:Nat}(m:k<xs.length)(y:α):
  ∃j,(Instr.storeAt t (.pointer (some (G4 v (k*A4.sz α)))) (.agg (A0.cells y).toArray)).run P w = .ok () j/\A8 h j T v (xs.set k y)/\o9 (A3 v) w j:=by
 rcases cQ1 I with⟨rfl,rfl⟩|⟨b,c,d,rfl,C,D,s,E,n,F⟩
 ·simp at m
 have q:k*A4.sz α+A4.sz α<=xs.length*A4.sz α:=by
  have:=dV6 (A4.sz α) (Nat.succ_le_of_lt m);rw[Nat.succ_mul]at this;exact this
 have p:xs.length*A4.sz α<=d.size:=by rw[n];exact dV6 _ s
 have f:(A0.cells y).length=A4.sz α:=ap6 y;obtain⟨j,z,A,B⟩:=co5 (P:=P) (t:=t) (cs:=A0.cells y) (o:=k*A4.sz α) D (by rw[f];omega) (W1 y) G (by rw[J,f]);have r:G4 (.slice (some ⟨b,0,none⟩) xs.length c) (k*A4.sz α)=⟨b,k*A4.sz α,none⟩:=by
  show(⟨b,0,none⟩:Addr).add _=_;rw[add_lit,dQ2]
 refine⟨j,by rw[r];exact z,?_,B.weaken λ_ _ e=>by subst e;rfl⟩;have a:(xs.set k y).length=xs.length:=by simp
 have g:d.toList=xs.flatMap A0.cells++d.toList.drop (xs.length*A4.sz α):=by rw[<-F,dR8]
 have i:=af1 xs;have:=bu8 (l:=xs.set k y) C A (by rw[a];exact s) E ?_ ?_
 ·rw[a]at this;exact this
 ·simp only[dW4,dM7,dN9,dU8,dZ7,f,n];rw[n]at p;omega
 ·rw[a,List.toList_toArray,bh6 m,f];have u:d.toList.take (k*A4.sz α)=(xs.flatMap A0.cells).take (k*A4.sz α):=by
   rw[g,dT6 (by rw[i];omega)]
  have x:d.toList.drop (k*A4.sz α+A4.sz α)=(xs.flatMap A0.cells).drop (k*A4.sz α+A4.sz α)++d.toList.drop (xs.length*A4.sz α):=by
   conv=>lhs;rw[g]
   rw[List.drop_append_of_le_length (by rw[i];exact q)]
  rw[u,x,<-dP5];have H:((xs.flatMap A0.cells).take (k*A4.sz α)++A0.cells y++(xs.flatMap A0.cells).drop (k*A4.sz α+A4.sz α)).length=xs.length*A4.sz α:=by
   rw[<-bh6 m,af1,a]
  rw[<-H,dW1]
def bd4(U:A8 h w T v xs){ty:TypeId}(V:M0 P t=some T){z:Value}(W:G8 P T=some z)(E:z.cells.size=A4.sz α)(C:∀u∈z.cells.toList,u.oneCell'=true){i:Nat}(S:i<xs.length):
  ∃n,(Builtin.clear_ #[t] ty #[reS v i xs.length (A4.sz α)]).run P w = .ok (.tuple #[]) n/\A8 h n T (reS v 0 i (A4.sz α)) (xs.take i)/\o9 (A3 v) w n/\∀b,A3 (reS v 0 i (A4.sz α)) b->A3 v b:=by
 rcases cQ1 U with⟨rfl,rfl⟩|⟨b,c,d,rfl,M,N,O,Q,p,R⟩
 ·simp at S
 obtain⟨X,g,a⟩:=z7 W;have D:(zeroValue T).run P w = .ok z w:=by
  unfold zeroValue;simp[M5,g,a]
 have I:=A4.pos (α:=α);have q:¬c=0:=by omega
 have r:¬c=i:=by omega
 have A:reS (.slice (some ⟨b,0,none⟩) xs.length c) i xs.length (A4.sz α) = .slice (some ⟨b,i*A4.sz α,none⟩) (xs.length-i) (c-i):=by
  simp only[reS,if_neg r,dS5,add_lit,dQ2]
 have j:reS (.slice (some ⟨b,0,none⟩) xs.length c) 0 i (A4.sz α) = .slice (some ⟨b,0,none⟩) i c:=by
  simp only[reS,if_neg q,dS5,Nat.zero_mul,add_lit,Nat.sub_zero]
 have k:(Builtin.zeroCells z.cells (xs.length-i)).toList.length=(xs.length-i)*A4.sz α:=by simp[Builtin.zeroCells,E]
 have H:i*A4.sz α+(xs.length-i)*A4.sz α=xs.length*A4.sz α:=by rw[<-dY1];congr 1;omega
 have s:xs.length*A4.sz α<=d.size:=by rw[p];exact dV6 _ O
 obtain⟨n,F,K,L⟩:=bx4 (P:=P) (T:=T) b (i*A4.sz α) (Builtin.zeroCells z.cells (xs.length-i)).toList 0 d w N (by rw[k];omega) (by
  intro u J;simp only[Builtin.zeroCells,Array.toList_map,dO7]at J;obtain⟨m,_,rfl⟩:=J;have hm:m % z.cells.size<z.cells.size:=Nat.mod_lt _ (by omega);rw[getElem!_pos z.cells _ hm];exact C _ (by simp))
 refine⟨n,?_,?_,L.weaken λ_ _ e=>by subst e;rfl,λY f=>by rw[j]at f;exact f⟩
 ·rw[A];unfold Builtin.clear_;have y:∃m,xs.length-i=m+1:=⟨xs.length-i-1,by omega⟩;obtain⟨m,hm⟩:=y;rw[hm]at F ⊢;simp only[List.getElem?_toArray,List.getElem?_cons_zero,dO9,G6,N4 V,dO1,D,F,dQ4]
 ·rw[j];have o:(xs.take i).length=i:=by rw[dN9];omega
  have:=bu8 (l:=xs.take i) M K (by rw[o];omega) Q ?_ ?_
  ·rw[o]at this;exact this
  ·simp only[Nat.add_zero,dW4,dM7,dN9,dU8,dZ7,k];rw[p];rw[p]at s;omega
  ·rw[o,Nat.add_zero,List.toList_toArray,dP5,dT6 (by rw[dN9,dZ7];omega),List.take_take,Nat.min_self];have:i*A4.sz α<=xs.length*A4.sz α:=dV6 _ (by omega);have G:=dO2 (List.take (i*A4.sz α)) R;rw[List.take_take,dT1 this]at G;rw[G];have B:xs.flatMap A0.cells=(xs.take i).flatMap A0.cells++(xs.drop i).flatMap A0.cells:=by rw[<-dZ6,dR8]
   have x:((xs.take i).flatMap A0.cells).length=i*A4.sz α:=by rw[af1,o]
   rw[B,<-x,dW1]
end
def bu6{P:Program}{K:Fr->World->Prop}{f:Fr}{w:World}{d:Option Nat}{ty:TypeId}{b:String}{a:Array Edge}{x:Operand}{c:Array TypeId}:B1 P none ⟨d,.call {callee:=.builtin .clear,args:=#[x],argTypes:=c},ty,b,a,none⟩ K f w=ah2 ((Builtin.clear_ c ty #[ev f x]).run P w) K f d:=by
 simp[B1,av3,ab9,bl8,bo5]
def bp8{α:Type}(a:α->α->Bool):∀(l:List α) (p y:α),al3 a p (l++[y])=if a y (l.getLast?.getD p)then al3 a p l else al3 a p l++[y]
 | [],p,y=>by
  simp[al3];rfl
 | x::l,p,y=>by
  have c:=bp8 a l x y;have b:((x::l).getLast?.getD p)=l.getLast?.getD x:=by
   cases l with
   | nil=>rfl
   | cons z l=>
    rw[List.getLast?_cons_cons];cases h:(z::l).getLast? with
    | none=>simp at h
    | some q=>rfl
  rw[dX6,al3,al3,b,c];by_cases h:a x p=true
  ·rw[if_pos h,if_pos h]
  ·rw[if_neg h,if_neg h];split<;>simp
def ar7{α:Type}(a:α->α->Bool)(xs:List α){k:Nat}(b:k<xs.length)(c:0<k):ai5 a (xs.take (k+1))=if a xs[k] xs[k-1]then ai5 a (xs.take k)else ai5 a (xs.take k)++[xs[k]]:=by
 rw[dN3 b];cases xs with
 | nil=>simp at b
 | cons x l=>
  obtain⟨m,rfl⟩:∃m,k=m+1:=⟨k-1,by omega⟩;simp only[dZ1,dX6,ai5,dX2,Nat.add_sub_cancel];rw[bp8];have hm:m<l.length:=by simpa using b
  have:(l.take m).getLast?.getD x=(x::l)[m]'(by simp;omega):=by
   cases m with
   | zero=>rfl
   | succ m=>
    rw[List.getLast?_eq_getElem?,dN9,dT1 (by omega),dV1,if_pos (by omega),dM4 (by omega)];simp
  rw[this];split<;>simp
def ad6{α:Type}(a:α->α->Bool)(xs:List α):∀k,k<=xs.length->(∀j (b:j<xs.length),1<=j->j<k->a xs[j] (xs[j-1]'(by omega))=false)->ai5 a (xs.take k)=xs.take k
 | 0,_,_=>by simp[ai5]
 | 1,h,_=>by
  cases xs with
  | nil=>simp at h
  | cons x l=>simp[ai5,al3]
 | k+2,h,hf=>by
  rw[ar7 a xs (k:=k+1) (by omega) (by omega),ad6 a xs (k+1) (by omega) λj b c d=>hf j b c (by omega)];have:=hf (k+1) (by omega) (by omega) (by omega);simp only[Nat.add_sub_cancel]at this ⊢;rw[if_neg (by rw[this];simp),dN3 (by omega:k+1<xs.length)]
def ce9{h:Hp}{w:World}{v:Value}{xs:List Sp}(p:A8 h w 263 v xs)(hl:xs.length<=1000000000)(hh:B5 h (i4 w)):
  Calls prog 250 #[v,.func (.func 251) #[] #[]] w λe a=>∃u,e = .returned u/\(A8 h a 263 u (ai5 aZ1 xs)/\o9 (A3 v) w a/\∀b,A3 u b->A3 v b):=by
 refine p9 [v,.func (.func 251) #[] #[]] func250 rfl ?_;have V:=p.isS;have hn:=p.vlen;have a9:=p.vcap;have S:A4.sz Sp=3:=rfl;rcases dM5 (decide ((xs.length:Int)<2))with G|G
 ·simp only[n8,o6,simprocAttr,V,hn,G];refine o8 results250 ?_;simp only[p8,simprocAttr];have D:xs.length<2:=by have:=dM8 G;omega
  have:=ad6 aZ1 xs xs.length (dO0 _) λj I h1 G=>by omega
  rw[dN8]at this;exact⟨by rw[this];exact p,o9.refl _,λb W=>W⟩
 have a4:2<=xs.length:=by have:=dN2 G;omega
 simp only[n8,o6,simprocAttr,V,hn,G];refine n9 [0,1] (σ:=Nat) (λi f a=>f 5 = .int .i64 i/\1<=i/\i<=xs.length/\(∀j (I:j<xs.length),1<=j->j<i->aZ1 xs[j] (xs[j-1]'(by omega))=false)/\o7 w a) (λi=>xs.length-i) 1 ?_ ?_
 ·simp only[p8,simprocAttr];exact⟨by trivial,by simp,by omega,λj _ h1 G=>by omega,o9.refl _⟩
 rintro i f o hk ⟨h5,a3,a7,Q,x⟩;simp only[dM6,p8,simprocAttr]at hk;obtain⟨e0,e1,_⟩:=hk;simp only[n8,o6,simprocAttr,h5,e0,V,hn];refine n7 (λK=>?_) (λK=>?_);rotate_left
 ·have ax:i=xs.length:=by simp at K;omega
  subst ax;simp only[n8,simprocAttr,e0];refine o8 results250 ?_;simp only[p8,simprocAttr];have:=ad6 aZ1 xs xs.length (dO0 _) Q;rw[dN8]at this;exact⟨by rw[this];exact p.ext x,o9.up x,λb W=>W⟩
 have D:i<xs.length:=by simpa using K
 have J:i-1<xs.length:=by omega
 have hR:R (i4 o) v xs:=(p.ext x).rw_ (t8 hh (b7 x));have aA:=p.inS D;have aa:=p.inS J;have aG:IntKind.i64.wrap ((i:Int)-1)=((i-1:Nat):Int):=by rw[M3 _ (by omega)];omega
 obtain⟨vx,aE,_,sx⟩:=(hR.at_ (dM4 D)).sp_v;obtain⟨vy,aF,_,sy⟩:=(hR.at_ (dM4 J)).sp_v;have s1:=sx (λa=>o7 o.drew a) o.drew (o9.refl _) λa h=>b7 ((o7.drew o).trans h);have s2:=sy (λa=>o7 o.drew a) o.drew (o9.refl _) λa h=>b7 ((o7.drew o).trans h);rw[S]at s1 s2;have aK:=x.trans (o7.drew o);simp only[n8,simprocAttr];refine C0 (λa=>o7 o.drew a) 10 (A5 [0,1,2,3,4,5,6,7,8,9]) ?_;simp only[D6,A5,n8,o6,y0,simprocAttr,h5,e0,e1,aA,aa,aG,s1,s2];refine B9 (cb0 _ _ vx vy o.drew (aE.mono (b7 (o7.drew o))) (aF.mono (b7 (o7.drew o)))) (λw3 aI=>?_);have r:=aK.trans aI;rcases dM5 (aZ1 xs[i] xs[i-1])with hq|hq;rotate_left
 ·simp only[n8,o6,simprocAttr,hq,h5];refine⟨i+1,by omega,by rw[B0 i (by omega)],by omega,by omega,λj I h1 G=>?_,r⟩;rcases dQ7 j i with h|h
  ·exact Q j I h1 h
  ·obtain rfl:j=i:=by omega
   exact hq
 have c1:decide ((i:Int)<=(xs.length:Int))=true:=by simp;omega
 have c2:decide ((xs.length:Int)<=(vcap v:Int))=true:=by simp;omega
 have hd:∀k:Nat,isS (reS v k xs.length 3)=true/\vlen (reS v k xs.length 3)=xs.length-k:=λk=>by
  rcases p with⟨rfl,rfl⟩|⟨b,c,a2,rfl,_⟩
  ·exact⟨rfl,rfl⟩
  ·exact⟨rfl,rfl⟩
 obtain⟨ar,aC⟩:=hd i;have a8:((xs.length-i:Nat):Int)=(xs.length:Int)-i:=by omega
 simp only[n8,o6,F8,simprocAttr,hq,h5,e0,V,hn,c1,c2];refine n9 [0,1,6] (σ:=Nat×Nat×List Sp) (λs f a=>f 7 = .int .i64 s.1/\f 5 = .int .i64 s.2.1/\1<=s.1/\i+s.1<=xs.length/\s.2.1+1<=i+s.1/\s.2.2.length=xs.length/\A8 h a 263 v s.2.2/\(∀j (I:j<xs.length) (M:j<s.2.2.length),i+s.1<=j+1->s.2.2[j]=xs[j])/\s.2.2.take s.2.1=ai5 aZ1 (xs.take (i+s.1))/\o9 (A3 v) w a) (λs=>xs.length-(i+s.1)) (1,i,xs) ?_ ?_
 ·simp only[p8,simprocAttr];refine⟨by trivial,by trivial,by trivial,by omega,by omega,by trivial,p.ext r,λj _ _ _=>by trivial,?_,o9.up r⟩;rw[ar7 aZ1 xs D (by omega),if_pos hq,ad6 aZ1 xs i (by omega) Q]
 rintro⟨m,c,A⟩ f4 n hk ⟨U,B,ap,az,av,z,q,l,g,N⟩;simp only at U B ap az av z q l g;simp only[dM6,p8,simprocAttr]at hk;obtain⟨g0,g1,g6,_⟩:=hk;rw[e0]at g0;rw[e1]at g1;have ay:B5 h (i4 n):=H5 hh N λb W=>p.free W;have ae:decide ((m:Int)<((xs.length-i:Nat):Int))=decide (i+m<xs.length):=by rw[dR5];omega
 simp only[n8,o6,simprocAttr,U,g6,ar,aC,ae];refine n7 (λK=>?_) (λK=>?_)
 ·have E:i+m<xs.length:=dM8 K;have aB:i+m-1<xs.length:=by omega
  have aq:R (i4 n) v A:=q.rw_ ay;have d:=bQ7 aq (show i<=xs.length by omega) (show xs.length<=A.length by omega);rw[S]at d;have aL:(A.take xs.length).drop i=A.drop i:=by rw[<-z,dN8]
  rw[aL]at d;have Y:(A.drop i)[m]?=some xs[i+m]:=by
   rw[dW6,dM4 (by omega),l (i+m) E (by omega) (by omega)]
  have Z:(A.drop i)[m-1]?=some xs[i+m-1]:=by
   rw[dW6,show i+(m-1)=i+m-1 by omega,dM4 (by omega),l (i+m-1) aB (by omega) (by omega)]
  have H:=d.inS (dM9.1 Y).1;have ab:=d.inS (dM9.1 Z).1;have aH:IntKind.i64.wrap ((m:Int)-1)=((m-1:Nat):Int):=by rw[M3 _ (by omega)];omega
  obtain⟨ux,aj,lx,tx⟩:=(d.at_ Y).sp_v;obtain⟨uy,aD,_,ty⟩:=(d.at_ Z).sp_v;have t1:=tx (λa=>o7 n.drew a) n.drew (o9.refl _) λa h=>b7 ((o7.drew n).trans h);have t2:=ty (λa=>o7 n.drew a) n.drew (o9.refl _) λa h=>b7 ((o7.drew n).trans h);rw[S]at t1 t2 lx;simp only[n8,simprocAttr];refine C0 (λa=>o7 n.drew a) 10 (A5 [0,1,2,3,4,5,6,7,8,9]) ?_;simp only[D6,A5,n8,o6,y0,simprocAttr,U,g1,g6,H,ab,aH,t1,t2];refine B9 (cb0 _ _ ux uy n.drew (aj.mono (b7 (o7.drew n))) (aD.mono (b7 (o7.drew n)))) (λw5 aJ=>?_);have y:=(o7.drew n).trans aJ;have ah:=q.ext y;have af:o9 (A3 v) w w5:=N.chain (o9.up y) λ_ _ h=>h;have C:=ar7 aZ1 xs (k:=i+m) E (by omega);rcases dM5 (aZ1 xs[i+m] xs[i+m-1])with hq4|hq4
  ·rw[if_pos hq4]at C;simp only[n8,o6,simprocAttr,hq4,U];refine⟨(m+1,c,A),by simp only[];omega,by simp only[];rw[B0 m (by omega)],B,by simp only[];omega,by simp only[];omega,by simp only[];omega,z,ah,λj I M h=>l j I M (by simp only at h;omega),?_,af⟩;simp only[];rw[g,<-C,dW3]
  ·rw[if_neg (by rw[hq4];simp)]at C;have L:c<A.length:=by omega
   have aM:=lx w5 (b7 y);have ak:ux = .agg (A0.cells xs[i+m]).toArray:=by
    obtain⟨cs,rfl,he⟩:=aj;rw[(A0.iff_ _ _ _).1 he]
   obtain⟨w6,T,F,O⟩:=bu9 (P:=prog) (t:=263) ah by0 aT0 L xs[i+m];rw[<-ak,S]at T;have ac:=q.inS L;simp only[n8,o6,y0,simprocAttr,hq4,B,g0,g6,U,H,ac,aM,T];refine⟨(m+1,c+1,A.set c xs[i+m]),by simp only[];omega,by simp only[];rw[B0 m (by omega)],by simp only[];rw[B0 c (by omega)],by simp only[];omega,by simp only[];omega,by simp only[];omega,by simp only[dU0];exact z,F,λj I M h=>?_,?_,af.chain O λ_ _ h=>h⟩
   ·simp only at h ⊢;rw[List.getElem_set_ne (by omega)];exact l j I (by omega) (by omega)
   ·simp only[];have aw:c<(A.set c xs[i+m]).length:=by simpa using L
    rw[dN3 aw,List.getElem_set_self,List.take_set_of_le (dO0 _),g,<-C,dW3]
 ·have E:i+m=xs.length:=by have:=dN2 K;omega
  rw[E,dN8]at g;have au:c<A.length:=by omega
  have c3:decide ((c:Int)<=(xs.length:Int))=true:=by simp;omega
  have c4:decide ((c:Int)<=(vcap v:Int))=true:=by simp;omega
  obtain⟨w6,T,F,O,X⟩:=bd4 (P:=prog) (t:=117) (ty:=0) q rfl cU6 rfl (by simp[Value.cells,Value.oneCell']) au;rw[z,S]at T;rw[S]at F X;simp only[n8,o6,F8,simprocAttr,bu6,B,g0,V,hn,c2,c3,c4,T];exact o8 results250 ⟨by rw[<-g];exact F,N.chain O λ_ _ h=>h,X⟩
def aB3{h:Hp}{w:World}{v:Value}{xs:List Sp}(i:A8 h w 263 v xs)(g:xs.length<=1000000000)(l:B5 h (i4 w))(m:∀x∈xs,plc x.src/\plc x.dst):
  p7 prog 198 #[v] w λu j=>(A8 h j 263 u (at5 xs)/\o9 (A3 v) w j/\∀b,A3 u b->A3 v b):=by
 refine p9 [v] func198 rfl ?_;simp only[n8,o6,simprocAttr];refine y5 (ca9 i g m) ?_;rintro _ n ⟨e,a⟩;simp only[n8,simprocAttr];refine y5 (ce9 e (by rw[(F5 _ _).length_eq];exact g) (H5 l a λb k=>i.free k)) ?_;rintro u o ⟨f,d,c⟩;simp only[n8,simprocAttr];exact o8 results198 ⟨f,a.chain d λ_ _ h=>h,c⟩
def bc4(v:Value)(l:List St)(o:Int)(w:World)(hv:R (i4 w) v l):p7 prog 247 #[v,.int .i64 o] w λu h=>(u = .int .i64 (aE6 l o)/\h=w):=by
 refine p9 [v,.int .i64 o] func247 rfl ?_;have d:=hv.isS;have e:=hv.vlen;cases l with
 | nil=>
  have a:decide ((0:Int)<(([]:List St).length:Int))=false:=by simp
  simp only[n8,o6,simprocAttr,d,e,a];exact o8 results247 ⟨rfl,by trivial⟩
 | cons t l=>
  have a:decide ((0:Int)<((t::l).length:Int))=true:=dV2 (by simp only[dP4];omega);have b:=hv.inS (k:=0) (by simp);obtain⟨_,_,_,_,_,_,_,_,_,c,_⟩:=(hv.at_ (i:=0) rfl).st;have f:=c w (i5 _);have g:A4.sz St=13:=rfl;rw[g,Nat.zero_mul]at f;simp only[n8,o6,y0,simprocAttr,d,e,a,b,f];exact o8 results247 ⟨rfl,by trivial⟩
def cL4(a:Addr)(F:Value)(p:Pg)(it:It)(i x y:Nat)(w:World)(hs:At (i4 w) a (b9 p))(Y:SV (i4 w) F it)(hr:D4 p)(hw:C5 p<=1000000)(X:i<p.procs.length)(O:ar1 p i x y)(C:it∈(b9 p).of i):
  p7 prog 197 #[.pointer (some a),F] w λu d=>(A8 (i4 w) d 3 u ((b9 p).goes it)/\o7 w d):=by
 refine p9 [.pointer (some a),F] func197 rfl ?_;obtain⟨b,e,m,f,V⟩:=co6 Y (i5 _);obtain⟨I,aa,ac⟩:=V.it;obtain⟨_,_,Q,aj,_,_,M,W,_,ab,af⟩:=I.st;have R:=aa e (i5 _);have E:=ab e (i5 _);have L:=aW8 p hw i X it C;rw[L]at R;have l:∀(t:Int) (d:World),B5 (i4 w) (i4 d)->∃v g,(Instr.buildSlice 24 1 #[(0,.int .i64 t)]).run prog d = .ok v g/\A8 (i4 w) g 3 v [t]/\o7 d g:=λt d B5=>by
  obtain⟨v,g,S,T,U,_⟩:=lit (P:=prog) (w:=d) (h:=i4 w) (α:=Int) (xs:=[.int .i64 t]) (ys:=[t]) (parts:=#[(0,.int .i64 t)]) (n:=1) U2 rfl (G5.2 rfl) (by simp[Value.cells]) rfl rfl (by simp) (by simp) B5;exact⟨v,g,S,T,U⟩
 have A:∀(t H:Int) (d:World),B5 (i4 w) (i4 d)->∃v g,(Instr.buildSlice 24 2 #[(0,.int .i64 t),(1,.int .i64 H)]).run prog d = .ok v g/\A8 (i4 w) g 3 v [t,H]/\o7 d g:=λt H d B5=>by
  obtain⟨v,g,S,T,U,_⟩:=lit (P:=prog) (w:=d) (h:=i4 w) (α:=Int) (xs:=[.int .i64 t,.int .i64 H]) (ys:=[t,H]) (parts:=#[(0,.int .i64 t),(1,.int .i64 H)]) (n:=2) U2 rfl (G5.2 rfl) (by simp[Value.cells]) rfl rfl (by simp) (by simp) B5;exact⟨v,g,S,T,U⟩
 have k:=f.trans (o7.drew e);have s:∀d,o7 e.drew d->B5 (i4 e) (i4 d):=λd h=>b7 ((o7.drew e).trans h);have si:=ac (λd=>o7 e.drew d) e.drew (o9.refl _) s;have st:=af (λd=>o7 e.drew d) e.drew (o9.refl _) s;have j:=show(b9 p).goes it=if it.s.kind=5 then[aE6 it.s.thn it.next,aE6 it.s.els it.next]else if it.s.kind=6 then[aE6 it.s.thn it.s.id,it.next]else if it.s.kind=7 then[((b9 p).it it.loop).next]else if it.s.kind=8 then[it.loop]else if it.s.kind=9 then[-1]else if it.s.kind=10 then[((b9 p).at it.proc it.s.name).getD 0]else[it.next]from rfl;rcases dM5 (decide (it.s.kind=5))with k5|k5
 ·rw[if_pos (dM8 k5)]at j;obtain⟨G,B,o,r,c⟩:=A (aE6 it.s.thn it.next) (aE6 it.s.els it.next) e.drew (b7 k);simp only[n8,o6,simprocAttr,m,E,k5];refine C0 (λd=>o7 e.drew d) 11 (A5 [0,1,2,3,4,6,7,8,9,10,5]) ?_;simp only[D6,A5,n8,o6,simprocAttr,si,st];refine E0 (bc4 Q it.s.thn it.next e.drew (A4.mono (b7 (o7.drew e)) M)) ⟨o9.refl _,?_⟩;simp only[D6,n8,simprocAttr];refine E0 (bc4 aj it.s.els it.next e.drew (A4.mono (b7 (o7.drew e)) W)) ?_;simp only[n8,simprocAttr,o];exact o8 results197 ⟨by rw[j];exact r,k.trans c⟩
 rw[if_neg (dN2 k5)]at j;rcases dM5 (decide (it.s.kind=6))with k6|k6
 ·rw[if_pos (dM8 k6)]at j;obtain⟨G,B,o,r,c⟩:=A (aE6 it.s.thn it.s.id) it.next e.drew (b7 k);simp only[n8,o6,simprocAttr,m,E,k5,k6];refine C0 (λd=>o7 e.drew d) 9 (A5 [0,1,2,3,4,5,7,8,6]) ?_;simp only[D6,A5,n8,o6,simprocAttr,si,st];refine E0 (bc4 Q it.s.thn it.s.id e.drew (A4.mono (b7 (o7.drew e)) M)) ⟨o9.refl _,?_⟩;simp only[D6,n8,simprocAttr,o];exact o8 results197 ⟨by rw[j];exact r,k.trans c⟩
 rw[if_neg (dN2 k6)]at j;have B5:=hr.leads X it C;unfold as4 at B5;rcases dM5 (decide (it.s.kind=7))with k7|k7
 ·rw[if_pos (dM8 k7)]at j;rw[if_pos (.inl (dM8 k7))]at B5;have K:(x:Int)<it.loop/\it.loop<=(y:Int):=by
   rcases O.loop it C with h|h
   ·rw[h]at B5;simp at B5
   ·exact h
  obtain⟨_,_,z⟩:=O.at_ it.loop K.1 K.2;obtain⟨G,B,o,r,c⟩:=l ((b9 p).it it.loop).next e.drew (b7 k);obtain⟨vL,av,au,hL,_,_,_,_,ae⟩:=(hs.mono (b7 f)).sh;have ss:=ae (λd=>o7 e.drew d) e.drew (o9.refl _) s;obtain⟨_,_,ad⟩:=(hL.at_ z).it;have sl:=ad (λd=>o7 e.drew d) e.drew (o9.refl _) s;have hz:A4.sz It=17:=rfl;rw[hz]at sl;have Z:=(dM9.1 z).1;have J:=hL.inS Z;have al:=O.ok.fit;have am:=O.ok.len;have N:IntKind.i64.wrap (it.loop-1)=(((it.loop-1).toNat:Nat):Int):=by rw[M3 _ (by omega)];omega
  generalize(it.loop-1).toNat=q at J sl N;simp only[n8,o6,simprocAttr,m,E,k5,k6,k7];refine C0 (λd=>o7 e.drew d) 12 (A5 [0,1,2,3,4,5,6,7,8,9,10,11]) ?_;simp only[D6,A5,n8,o6,y0,simprocAttr,si,ss,sl,J,N,o,E8];refine⟨c,?_⟩;exact o8 results197 ⟨by rw[j];exact r,k.trans c⟩
 rw[if_neg (dN2 k7)]at j;rcases dM5 (decide (it.s.kind=8))with k8|k8
 ·rw[if_pos (dM8 k8)]at j;obtain⟨G,B,o,r,c⟩:=l it.loop e (b7 f);simp only[n8,o6,simprocAttr,m,R,E,k5,k6,k7,k8,o];exact o8 results197 ⟨by rw[j];exact r,f.trans c⟩
 rw[if_neg (dN2 k8)]at j;rcases dM5 (decide (it.s.kind=9))with k9|k9
 ·rw[if_pos (dM8 k9)]at j;obtain⟨G,B,o,r,c⟩:=l (-1) e (b7 f);simp only[n8,o6,simprocAttr,m,E,k5,k6,k7,k8,k9,o];exact o8 results197 ⟨by rw[j];exact r,f.trans c⟩
 rw[if_neg (dN2 k9)]at j;rcases dM5 (decide (it.s.kind=10))with k10|k10
 ·rw[if_pos (dM8 k10),L]at j;simp only[n8,o6,simprocAttr,m,R,E,k5,k6,k7,k8,k9,k10];refine B9 (ca0 a (b9 p) i x y it.s.name e (hs.mono (b7 f)) O.ok (by rw[K9];exact X) (ah5 p hw) (by rw[K9];exact at1 p hw)) (λB c=>?_);cases hq:(b9 p).at i it.s.name with
  | none=>
   obtain⟨G,w3,o,r,D⟩:=l 0 B (b7 (f.trans c));simp only[n8,simprocAttr,bX8,o];exact o8 results197 ⟨by rw[j,hq];exact r,f.trans (c.trans D)⟩
  | some q=>
   obtain⟨G,w3,o,r,D⟩:=l q B (b7 (f.trans c));simp only[n8,simprocAttr,bX8,o];exact o8 results197 ⟨by rw[j,hq];exact r,f.trans (c.trans D)⟩
 ·rw[if_neg (dN2 k10)]at j;obtain⟨G,B,o,r,c⟩:=l it.next e (b7 f);simp only[n8,o6,simprocAttr,m,R,E,k5,k6,k7,k8,k9,k10,o];exact o8 results197 ⟨by rw[j];exact r,f.trans c⟩
def al2(a b c:Int):B8 prog 263 [(0,.int .i64 a),(1,.int .i64 b),(2,.int .i64 c)]=some (.agg (A0.cells (⟨a,b,c⟩:Sp)).toArray):=by
 simp[B8,dp1,K8,Instr.fill,Value.cells,A0.cells,Sp.cells]
def bS8{α:Type}[A4 α][A0 α]{h:Hp}(x:α):A4.enc h (Value.cells (.agg (A0.cells x).toArray)).toList x:=(A0.iff_ _ _ _).2 (by simp[Value.cells])
def cj5{x y:Nat}(b:y<=1000000){a:Int}(h:Rg x y a):plc a:=by
 unfold plc;rcases h with h|h<;>omega
def cE3{p:Pg}(h:D4 p)(hw:C5 p<=1000000){i x y:Nat}(g:i<p.procs.length)(d:ar1 p i x y):∀t∈((⟨0,(b9 p).first i,1⟩:Sp)::((b9 p).of i).flatMap λit=>((b9 p).goes it).map λt=>⟨it.s.id,t,1⟩),plc t.src/\plc t.dst:=by
 intro t c;have e:y<=1000000:=dN1 d.ok.len d.ok.fit;rcases dO6.1 c with rfl|c
 ·exact⟨by unfold plc;simp,cj5 e (bT5 d)⟩
 ·obtain⟨it,b,c⟩:=dQ0.1 c;obtain⟨a,f,rfl⟩:=dO7.1 c;have:=d.ids it b;exact⟨by unfold plc;simp only[];omega,cj5 e (cq5 h hw g d it b a f)⟩
def cw4(a:Addr)(p:Pg)(i x y:Nat)(w:World)(hs:At (i4 w) a (b9 p))(hr:D4 p)(hw:C5 p<=1000000)(hi:i<p.procs.length)(pt:ar1 p i x y):
  p7 prog 148 #[.pointer (some a),.int .i64 i] w λu m=>(A8 (i4 w) m 263 u ((b9 p).steps i)/\o7 w m):=by
 refine p9 [.pointer (some a),.int .i64 i] func148 rfl ?_;obtain⟨aX,ag⟩:=bi9 p hw i hi;have ad:=bU8 (b9 p);have hF:(b9 p).steps i=at5 (⟨0,(b9 p).first i,1⟩::((b9 p).of i).flatMap λit=>((b9 p).goes it).map λt=>⟨it.s.id,t,1⟩):=rfl;have d:=cE3 hr hw hi pt;simp only[n8,o6,simprocAttr];refine B9 (ca1 a (b9 p) i x y w hs pt.ok) (λw1 an=>?_);obtain⟨v0,w2,ah,ak,aN,_⟩:=lit (P:=prog) (w:=w1) (h:=i4 w) (α:=Sp) (xs:=[.agg (A0.cells (⟨0,(b9 p).first i,1⟩:Sp)).toArray]) (ys:=[⟨0,(b9 p).first i,1⟩]) (parts:=#[(0,.agg (A0.cells (⟨0,(b9 p).first i,1⟩:Sp)).toArray)]) (n:=1) bx0 rfl (Y8.2 (by simp[Value.cells])) (by simp[Value.cells,A0.cells,Sp.cells]) rfl rfl (by simp) (by simp) (b7 an);have O:=an.trans aN;simp only[n8,simprocAttr,al2,ah];refine y5 (az3 (i4 w) a (b9 p) i x y w2 hs (b7 O) pt.ok) ?_;rintro ui w3 ⟨A,ao⟩;have ae:=λit ar m (h1:it∈(b9 p).of i) (h2:SV (i4 m) ar it) (h3:At (i4 m) a (b9 p))=>cL4 a ar p it i x y m h3 h2 hr hw hi pt h1;generalize hl:(b9 p).of i=l at A ag hF ae d;have am:=O.trans ao;have aA:=A.isS;have aI:=A.vlen;generalize hB:(λit:It=>((b9 p).goes it).map λt=>(⟨it.s.id,t,1⟩:Sp))=B at hF d;have az:∀it,(B it).length<=2:=λit=>by rw[<-hB];simp only[dN4];exact ad it
 generalize a2:(⟨0,(b9 p).first i,1⟩:Sp)=s0 at ak hF d;have aD:∀k,((l.take k).flatMap B).length<=800000:=λk=>by
  refine dN1 (N5 B 2 _ λx _=>az x) ?_;rw[dN9];omega
 simp only[n8,o6,simprocAttr,aA,aI];refine n9 [0,17,18] (σ:=Nat×Value) (λs f m=>f 19 = .int .i64 s.1/\f 5=s.2/\s.1<=l.length/\A8 (i4 w) m 263 s.2 (s0::(l.take s.1).flatMap B)/\o7 w m) (λs=>l.length-s.1) (0,v0) ?_ ?_
 ·simp only[p8,simprocAttr];exact⟨by trivial,by trivial,dN6 _,by simpa using ak.ext ao,am⟩
 rintro⟨j,u⟩ f w5 hk ⟨D,h5,aF,ho,I⟩;simp only at D h5 aF ho;simp only[dM6,p8,simprocAttr]at hk;obtain⟨e0,aw,ax,_⟩:=hk;have M:=aD j;simp only[n8,o6,simprocAttr,D,ax];refine n7 (λV=>?_) (λV=>?_);rotate_left
 ·have W:j=l.length:=by simp at V;omega
  subst W;rw[dN8]at ho M;simp only[n8,simprocAttr,h5];refine y5 (aB3 ho (by simp only[dP4];omega) (b7 I) d) ?_;rintro u6 w6 ⟨G,aH,_⟩;simp only[n8,simprocAttr];exact o8 results148 ⟨by rw[hF];exact G,ho.ext2 I aH⟩
 have F:j<l.length:=by simpa using V
 have E:=A.inS F;obtain⟨sv,v,g⟩:=F9 (P:=prog) (t:=150) A (b7 I) (dM4 F) X0 X2 V5 H9;rw[H9]at g;have Y:=H4 B l F;have aj:=dN5 F;generalize l[j]=it at v Y aj;obtain⟨c,wz,w6,aC,aL,aq,K⟩:=aN8 (w:=w5) (A3 u) v (λb L=>ho.lt L);obtain⟨ldI,_⟩:=K7.it_v v K;obtain⟨us,aM,ab,_,_⟩:=K7.it v K;obtain⟨_,_,_,_,_,_,_,_,_,_,_,aO,_⟩:=K7.st aM ab;have k1:=ldI w6 (B2 _ _);have C:=I.trans aq;simp only[n8,o6,y0,simprocAttr,D,e0,aw,E,g,aC,aL,k1];refine y5 (ae it sv w6 aj (v.mono (b7 C)) (hs.mono (b7 C))) ?_;rintro ug w7 ⟨al,Z⟩;have G:=ho.ext aq;have z:R (B6 w7 (A3 u)) ug ((b9 p).goes it):=al.flatR λb L=>D8 λU=>by
  have h1:=G.lt U;have h2:=D0 (al.free L);omega
 have X:=G.ext Z;have ap:=C.trans Z;have J:B it=((b9 p).goes it).map λt=>(⟨it.s.id,t,1⟩:Sp):=by rw[<-hB]
 have ac:=ad it;generalize(b9 p).goes it=gl at z J ac;generalize(l.take j).flatMap B=pre at X M Y;have aB:=z.isS;have aJ:=z.vlen;simp only[n8,o6,simprocAttr,aB,aJ];refine n9 [0,7,17,18,19,25,26] (σ:=Nat×Value) (λs f m=>f 27 = .int .i64 s.1/\f 5=s.2/\s.1<=gl.length/\A8 (i4 w) m 263 s.2 (s0::(pre++(gl.take s.1).map λt=>(⟨it.s.id,t,1⟩:Sp)))/\o9 (A3 u) w7 m/\F0 w7 u s.2) (λs=>gl.length-s.1) (0,u) ?_ ?_
 ·simp only[p8,simprocAttr];exact⟨by trivial,h5,dN6 _,by simpa using X,o9.refl _,λb L=>.inl L⟩
 rintro⟨k,u8⟩ f8 w8 hk ⟨S,T,aG,H,q,r⟩;simp only at S T aG H r;simp only[dM6,p8,simprocAttr]at hk;obtain⟨q0,q7,ba,bb,aP,aQ,aR,_⟩:=hk;have Q:=X.ext2 ap q;simp only[n8,o6,simprocAttr,S,aR];refine n7 (λV=>?_) (λV=>?_);rotate_left
 ·have W:k=gl.length:=by simp at V;omega
  subst W;rw[dN8,<-J]at H;simp only[n8,o6,simprocAttr,aP,D];refine⟨(j+1,u8),by omega,dO2 _ (B0 j (by omega)),T,by omega,?_,Q⟩;simp only[];rw[Y];exact H
 have o:k<gl.length:=by simpa using V
 clear E g;have E:=z.inS o;have g:=aF7 z (E1 q) o;have N:(gl.take (k+1)).map (λt=>(⟨it.s.id,t,1⟩:Sp))=(gl.take k).map (λt=>(⟨it.s.id,t,1⟩:Sp))++[⟨it.s.id,gl[k],1⟩]:=by
  rw[dN3 o,dP6];rfl
 generalize gl[k]=y1 at g N;have k2:=aO w8 (E1 (o9.chain (o9.up Z) q λ_ _ h=>h));obtain⟨p1,u9,w9,p2,p3,p4,p5⟩:=push (e:=117) bx0 rfl H (x:=.agg (A0.cells (⟨it.s.id,y1,1⟩:Sp)).toArray) (y:=⟨it.s.id,y1,1⟩) (bS8 _) (by simp only[dP4,dM7,dN4,dN9];omega) (by simp only[dP4,dM7,dN4,dN9];omega) (b7 Q);simp only[n8,o6,y0,simprocAttr,S,T,q7,aQ,E,g,k2,al2,p1,p2];refine⟨(k+1,u9),by omega,dO2 _ (B0 k (by omega)),by trivial,by omega,?_,q.chain p4 λb L U=>?_,λb L=>?_⟩
 ·simp only[];rw[N,<-dP5,<-dX6];exact p3
 ·rcases r b U with h|h
  ·exact h
  ·omega
 ·rcases p5 b L with h|h
  ·exact r b h
  ·exact .inr (dN1 q.size h)
def da6{h:Hp}{cs:List Value}{x:Wy}:A4.enc h cs x->∃c b a,cs=([c]:List Value)++([.int .i64 x.proc]:List Value)++([.int .i64 x.n]:List Value)++([b]:List Value)++([a]:List Value)/\R h c x.sp/\R h b x.real/\R h a x.live:=by
 rintro⟨g,i,j,rfl,d,e,f⟩;exact⟨g,i,j,rfl,d,e,f⟩
def At.wy{h:Hp}{a:Addr}{x:Wy}(p:At h a x):∃e c b,R h e x.sp/\R h c x.real/\R h b x.live/\(∀w,B5 h (i4 w)->Q0 prog w 116 a e/\Q0 prog w 3 (a.add 1) (.int .i64 x.proc)/\Q0 prog w 3 (a.add 2) (.int .i64 x.n)/\Q0 prog w 117 (a.add 3) c/\Q0 prog w 95 (a.add 4) b)/\(∀(S:World->Prop) (n:World),S n->(∀w,S w->B5 h (i4 w))->Q4 prog S 116 a e/\Q4 prog S 3 (a.add 1) (.int .i64 x.proc)/\Q4 prog S 3 (a.add 2) (.int .i64 x.n)/\Q4 prog S 117 (a.add 3) c/\Q4 prog S 95 (a.add 4) b):=by
 obtain⟨r,q,i⟩:=p;obtain⟨e,c,b,rfl,m,k,j⟩:=da6 q;exact⟨_,_,_,m,k,j,λw g=>⟨E7 i rfl aS8 w g,z6 i (o:=1) rfl G3 w g,z6 i (o:=2) rfl G3 w g,z6 i (o:=3) rfl cl6 w g,z6 i (o:=4) rfl aF5 w g⟩,λS n l g=>⟨T7 l λf d=>E7 i rfl aS8 f (g f d),T7 l λf d=>z6 i (o:=1) rfl G3 f (g f d),T7 l λf d=>z6 i (o:=2) rfl G3 f (g f d),T7 l λf d=>z6 i (o:=3) rfl cl6 f (g f d),T7 l λf d=>z6 i (o:=4) rfl aF5 f (g f d)⟩⟩
def da1{h:Hp}{cs:List Value}{x:Bk}:A4.enc h cs x->∃e f a c d b,cs=([e]:List Value)++([f]:List Value)++([a]:List Value)++([c]:List Value)++([d]:List Value)++([b]:List Value)/\R h e x.sp/\R h f x.wp/\R h a x.defs/\R h c x.uses/\R h d x.ins/\R h b x.outs:=by
 rintro⟨n,o,p,q,r,s,rfl,g,i,j,k,l,m⟩;exact⟨n,o,p,q,r,s,rfl,g,i,j,k,l,m⟩
def At.bk{h:Hp}{a:Addr}{x:Bk}(v:At h a x):∃i j b d f c,R h i x.sp/\R h j x.wp/\R h b x.defs/\R h d x.uses/\R h f x.ins/\R h c x.outs/\(∀w,B5 h (i4 w)->Q0 prog w 116 a i/\Q0 prog w 134 (a.add 1) j/\Q0 prog w 135 (a.add 2) b/\Q0 prog w 135 (a.add 3) d/\Q0 prog w 135 (a.add 4) f/\Q0 prog w 135 (a.add 5) c)/\(∀(S:World->Prop) (u:World),S u->(∀w,S w->B5 h (i4 w))->Q4 prog S 116 a i/\Q4 prog S 134 (a.add 1) j/\Q4 prog S 135 (a.add 2) b/\Q4 prog S 135 (a.add 3) d/\Q4 prog S 135 (a.add 4) f/\Q4 prog S 135 (a.add 5) c):=by
 obtain⟨z,y,l⟩:=v;obtain⟨i,j,b,d,f,c,rfl,s,t,m,p,q,n⟩:=da1 y;exact⟨_,_,_,_,_,_,s,t,m,p,q,n,λw k=>⟨E7 l rfl aS8 w k,z6 l (o:=1) rfl cl7 w k,z6 l (o:=2) rfl ac2 w k,z6 l (o:=3) rfl ac2 w k,z6 l (o:=4) rfl ac2 w k,z6 l (o:=5) rfl ac2 w k⟩,λS u r k=>⟨T7 r λg e=>E7 l rfl aS8 g (k g e),T7 r λg e=>z6 l (o:=1) rfl cl7 g (k g e),T7 r λg e=>z6 l (o:=2) rfl ac2 g (k g e),T7 r λg e=>z6 l (o:=3) rfl ac2 g (k g e),T7 r λg e=>z6 l (o:=4) rfl ac2 g (k g e),T7 r λg e=>z6 l (o:=5) rfl ac2 g (k g e)⟩⟩
structure WyOk (p:Pg) (i x y:Nat) (wy:Wy):Prop where
 s:wy.s=b9 p
 proc:wy.proc=(i:Int)
 n:wy.n=(y:Int)-(x:Int)+2
 part:ar1 p i x y
def WyOk.index{p:Pg}{i x y:Nat}{wy:Wy}(h:WyOk p i x y wy)(a:Int):wy.index a=if a=0 then 0 else if a = -1 then wy.n-1 else if(x:Int)+1<=a/\a<(y:Int)+1 then a-((x:Int)+1)+1 else -1:=by
 have b:=h.part.ok.lo;have c:=h.part.ok.hi;unfold Wy.index Y4;simp only[h.s,h.proc,dP0,List.getD,b,c,dR9]
def WyOk.place{p:Pg}{i x y:Nat}{wy:Wy}(h:WyOk p i x y wy)(a:Int):wy.place a=if a=0 then 0 else if a=wy.n-1 then -1 else(x:Int)+1+a-1:=by
 have b:=h.part.ok.lo;unfold Wy.place Y4;simp only[h.s,h.proc,dP0,List.getD,b,dR9]
def ba9(a:Addr)(wy:Wy)(p:Pg)(i x y:Nat)(e:Int)(w:World)(P:At (i4 w) a wy)(c:WyOk p i x y wy)(R : -1<=e/\e<=2000000):
  p7 prog 146 #[.pointer (some a),.int .i64 e] w λu b=>(u = .int .i64 (wy.index e)/\o7 w b):=by
 refine p9 [.pointer (some a),.int .i64 e] func146 rfl ?_;obtain⟨vs,_,_,C,_,_,F,t⟩:=P.wy;obtain⟨T,rfl,has⟩:=Ptr.at_ C;have B:At (i4 w) T (b9 p):=by rw[<-c.s];exact has
 obtain⟨vL,v,H,W,m,n,Q,S,s⟩:=B.sh;have M:=F w (i5 _);rw[c.proc]at M;have j:=c.index e;have hN:=c.n;have J:=c.part.ok.le;have L:=c.part.ok.len;have I:=c.part.ok.fit;have l:∀b,o7 w.drew b->B5 (i4 w) (i4 b):=λb h=>b7 ((o7.drew w).trans h);have A:=t (λb=>o7 w.drew b) w.drew (o9.refl _) l;rw[c.proc]at A;have G:=s (λb=>o7 w.drew b) w.drew (o9.refl _) l;have k:=m.inS (dM9.1 c.part.ok.lo).1;have o:=n.inS (dM9.1 c.part.ok.hi).1;have z:∀K f d w0,F3 prog (λb=>o7 w.drew b) (Instr.loadAt 3 (.pointer (some (G4 v i)))) K f d w0=K (C4 f d (.int .i64 ((x:Int)+1))) w0:=λK f d w0=>B7 (w0:=w.drew) (o9.refl _) λb h=>ldI m (l b h) c.part.ok.lo;have E:∀K f d w0,F3 prog (λb=>o7 w.drew b) (Instr.loadAt 3 (.pointer (some (G4 H i)))) K f d w0=K (C4 f d (.int .i64 ((y:Int)+1))) w0:=λK f d w0=>B7 (w0:=w.drew) (o9.refl _) λb h=>ldI n (l b h) c.part.ok.hi;have D:IntKind.i64.wrap (wy.n-1)=wy.n-1:=M3 _ (by omega);rcases dM5 (decide (e=0))with q0|q0
 ·simp only[n8,o6,simprocAttr,q0];refine o8 results146 ?_;simp only[p8,simprocAttr];exact⟨by rw[j,if_pos (dM8 q0)],o9.refl _⟩
 rw[if_neg (dN2 q0)]at j;rcases dM5 (decide (e = -1))with q1|q1
 ·simp only[n8,o6,simprocAttr,q0,q1,M,D];refine o8 results146 ?_;simp only[p8,simprocAttr];exact⟨by rw[j,if_pos (dM8 q1)],o9.refl _⟩
 rw[if_neg (dN2 q1)]at j;have q:IntKind.i64.wrap (e-((x:Int)+1))=e-((x:Int)+1):=M3 _ (by omega);have r:IntKind.i64.wrap (e-((x:Int)+1)+1)=e-((x:Int)+1)+1:=M3 _ (by omega);generalize O:(x:Int)+1=X at z j q r;generalize Z:(y:Int)+1=Y at E j;simp only[n8,o6,simprocAttr,q0,q1];refine C0 (λb=>o7 w.drew b) 33 (A5 [0,1,2,3,4,5,6,7,8,9,10,11,12,13,14,15,16,17,18,19,20,21,22,23,24,25,26,27,28,29,30,31,32]) ?_;rcases dM5 (decide (X<=e))with q2|q2
 ·rcases dM5 (decide (e<Y))with q3|q3
  ·have g:∀b,o7 w.drew.drew b->B5 (i4 w) (i4 b):=λb h=>b7 ((o7.drew w).trans ((o7.drew w.drew).trans h));have N:=t (λb=>o7 w.drew.drew b) w.drew.drew (o9.refl _) g;rw[c.proc]at N;have U:=s (λb=>o7 w.drew.drew b) w.drew.drew (o9.refl _) g;have V:∀K f d w0,F3 prog (λb=>o7 w.drew.drew b) (Instr.loadAt 3 (.pointer (some (G4 v i)))) K f d w0=K (C4 f d (.int .i64 X)) w0:=λK f d w0=>B7 (w0:=w.drew.drew) (o9.refl _) λb h=>by rw[<-O];exact ldI m (g b h) c.part.ok.lo
   simp only[D6,A5,n8,o6,y0,simprocAttr,A,G,z,E,k,o,q2,q3];refine C0 (λb=>o7 w.drew.drew b) 17 (A5 [0,1,2,3,4,5,6,7,8,9,10,11,12,13,14,15,16]) ?_;simp only[D6,A5,n8,o6,y0,simprocAttr,N,U,V,k,q,r];refine o8 results146 ?_;simp only[p8,simprocAttr];exact⟨by rw[j,if_pos ⟨dM8 q2,dM8 q3⟩],(o7.drew w).trans (o7.drew _)⟩
  ·simp only[D6,A5,n8,o6,y0,simprocAttr,A,G,z,E,k,o,q2,q3];refine o8 results146 ?_;simp only[p8,simprocAttr];exact⟨by rw[j,if_neg (λh=>dN2 q3 h.2)],o7.drew w⟩
 ·simp only[D6,A5,n8,o6,y0,simprocAttr,A,G,z,k,q2];refine o8 results146 ?_;simp only[p8,simprocAttr];exact⟨by rw[j,if_neg (λh=>dN2 q2 h.1)],o7.drew w⟩
def ae8(a:Addr)(wy:Wy)(p:Pg)(i x y:Nat)(k:Int)(w:World)(G:At (i4 w) a wy)(b:WyOk p i x y wy)(Q:0<=k/\k<=2000000):
  p7 prog 60 #[.pointer (some a),.int .i64 k] w λu c=>(u = .int .i64 (wy.place k)/\o7 w c):=by
 refine p9 [.pointer (some a),.int .i64 k] func60 rfl ?_;obtain⟨S,_,_,r,_,_,s,v⟩:=G.wy;obtain⟨M,rfl,has⟩:=Ptr.at_ r;have q:At (i4 w) M (b9 p):=by rw[<-b.s];exact has
 obtain⟨R,z,N,O,j,I,H,J,t⟩:=q.sh;have E:=s w (i5 _);have g:=b.place k;have hN:=b.n;have B:=b.part.ok.le;have C:=b.part.ok.len;have A:=b.part.ok.fit;have e:∀c,o7 w.drew c->B5 (i4 w) (i4 c):=λc h=>b7 ((o7.drew w).trans h);have F:=v (λc=>o7 w.drew c) w.drew (o9.refl _) e;rw[b.proc]at F;have L:=t (λc=>o7 w.drew c) w.drew (o9.refl _) e;have o:=j.inS (dM9.1 b.part.ok.lo).1;have D:∀K f d w0,F3 prog (λc=>o7 w.drew c) (Instr.loadAt 3 (.pointer (some (G4 z i)))) K f d w0=K (C4 f d (.int .i64 ((x:Int)+1))) w0:=λK f d w0=>B7 (w0:=w.drew) (o9.refl _) λc h=>ldI j (e c h) b.part.ok.lo;have n:IntKind.i64.wrap (wy.n-1)=wy.n-1:=M3 _ (by omega);have l:IntKind.i64.wrap ((x:Int)+1+k)=(x:Int)+1+k:=M3 _ (by omega);have m:IntKind.i64.wrap ((x:Int)+1+k-1)=(x:Int)+1+k-1:=M3 _ (by omega);rcases dM5 (decide (k=0))with q0|q0
 ·simp only[n8,o6,simprocAttr,q0];refine o8 results60 ?_;simp only[p8,simprocAttr];exact⟨by rw[g,if_pos (dM8 q0)],o9.refl _⟩
 rw[if_neg (dN2 q0)]at g;rcases dM5 (decide (k=wy.n-1))with q1|q1
 ·simp only[n8,o6,simprocAttr,q0,q1,E,n];refine o8 results60 ?_;simp only[p8,simprocAttr];exact⟨by rw[g,if_pos (dM8 q1)],o9.refl _⟩
 rw[if_neg (dN2 q1)]at g;generalize P:(x:Int)+1=X at D g l m;simp only[n8,o6,simprocAttr,q0,q1,E,n];refine C0 (λc=>o7 w.drew c) 17 (A5 [0,1,2,3,4,5,6,7,8,9,10,11,12,13,14,15,16]) ?_;simp only[D6,A5,n8,o6,y0,simprocAttr,F,L,D,o,l,m];refine o8 results60 ?_;simp only[p8,simprocAttr];exact⟨by rw[g],o7.drew w⟩
def WyOk.index_rg{p:Pg}{i x y:Nat}{wy:Wy}(h:WyOk p i x y wy){a:Int}(b:a=0\/Rg x y a):0<=wy.index a/\wy.index a<wy.n:=by
 have c:=h.n;have d:=h.part.ok.le;rw[h.index];rcases b with b|b|b
 ·rw[if_pos b];omega
 ·rw[if_neg (by omega),if_pos b];omega
 ·rw[if_neg (by omega),if_neg (by omega),if_pos (by omega)];omega
def aK8(a:Addr)(wy:Wy)(p:Pg)(i x y:Nat)(b:Int)(w:World)(t:At (i4 w) a wy)(d:WyOk p i x y wy)(n:(x:Int)<b/\b<=(y:Int))(D:(wy.live.length:Int)=wy.n):
  p7 prog 89 #[.pointer (some a),.int .i64 b] w λu e=>(u = .bool (wy.lives b)/\o7 w e):=by
 refine p9 [.pointer (some a),.int .i64 b] func89 rfl ?_;obtain⟨_,_,E,_,_,l,B,r⟩:=t.wy;have v:=d.part.ok.fit;have z:=d.part.ok.len;have o:∀e,o7 w.drew e->B5 (i4 w) (i4 e):=λe h=>b7 ((o7.drew w).trans h);have C:=r (λe=>o7 w.drew e) w.drew (o9.refl _) o;have A:=d.index_rg (.inr (.inr n));have c:(wy.index b).toNat<wy.live.length:=by omega
 have j:=l.inS c;have g:wy.index b=(((wy.index b).toNat:Nat):Int):=by omega
 have s:wy.lives b=wy.live[(wy.index b).toNat]:=by
  unfold Wy.lives atB;rw[List.getD,dM4 c];rfl
 simp only[n8,o6,simprocAttr];refine C0 (λe=>o7 w.drew e) 7 (A5 [0,1,2,3,4,5,6]) ?_;simp only[D6,A5,n8,o6,simprocAttr,C];refine B9 (ba9 a wy p i x y b w.drew (t.mono (b7 (o7.drew w))) d (by omega)) (λF m=>⟨m,?_⟩);have f:=(o7.drew w).trans m;have k:=ldB l (b7 f) c;rw[g];generalize(wy.index b).toNat=q at c j k s;simp only[D6,n8,o6,y0,simprocAttr,j,k];refine o8 results89 ?_;simp only[p8,simprocAttr];exact⟨by rw[s],f⟩
def bJ9(a b:Int):B8 prog 205 [(0,.int .i64 a),(1,.int .i64 b)]=some (.agg #[.int .i64 a,.int .i64 b]):=by
 simp[B8,do8,K8,Instr.fill,Value.cells]
def dh3{h:Hp}(a b:Int):A4.enc h (Value.cells (.agg #[.int .i64 a,.int .i64 b])).toList ((a,b):Int×Int):=⟨[.int .i64 a],[.int .i64 b],rfl,rfl,rfl⟩
def ap4(a:Addr)(wy:Wy)(p:Pg)(i x y:Nat)(v:Value)(l:List Sp)(w:World)(U:At (i4 w) a wy)(n:WyOk p i x y wy)(hv:R (i4 w) v l)(hl:∀t∈l,RgS x y t)(ad:l.length<=10000000):
  p7 prog 183 #[.pointer (some a),v] w λu g=>(A8 (i4 w) g 205 u (wy.pairs l)/\o7 w g):=by
 refine p9 [.pointer (some a),v] func183 rfl ?_;have hS:=hv.isS;have hn:=hv.vlen;have V:=n.part.ok.fit;have X:=n.part.ok.len;have hF:wy.pairs l=l.map λt=>(wy.index t.src,wy.index t.dst):=rfl;simp only[n8,o6,simprocAttr,hS,hn];refine n9 [0,8,9] (σ:=Nat×Value) (λs f g=>f 10 = .int .i64 s.1/\f 5=s.2/\s.1<=l.length/\A8 (i4 w) g 205 s.2 ((l.take s.1).map λt=>(wy.index t.src,wy.index t.dst))/\o7 w g) (λs=>l.length-s.1) (0,.slice none 0 0) ?_ ?_
 ·simp only[p8,simprocAttr];exact⟨by trivial,by trivial,dN6 _,by simpa using A8.nil _ _ _,o9.refl _⟩
 rintro⟨k,u⟩ f w2 W ⟨j,H,Q,G,o⟩;simp only at j H Q G;simp only[dM6,p8,simprocAttr]at W;obtain⟨e0,Y,Z,_⟩:=W;simp only[n8,o6,simprocAttr,j,Z];refine n7 (λM=>?_) (λM=>?_);rotate_left
 ·have N:k=l.length:=by simp at M;omega
  subst N;rw[dN8]at G;simp only[n8,simprocAttr,H];exact o8 results183 ⟨by rw[hF];exact G,o⟩
 have m:k<l.length:=by simpa using M
 have O:=hv.inS m;obtain⟨sv,D,B⟩:=F9 (P:=prog) (t:=263) hv (b7 o) (dM4 m) cl8 cm3 by0 aT0;rw[aT0]at B;have E:(l.take (k+1)).map (λt=>(wy.index t.src,wy.index t.dst))=(l.take k).map (λt=>(wy.index t.src,wy.index t.dst))++[(wy.index l[k].src,wy.index l[k].dst)]:=by
  rw[dN3 m,dP6];rfl
 have z:=hl _ (dN5 m);generalize l[k]=s at D E z;obtain⟨c,wz,A,I,S,F,J⟩:=df2 (D.mono (b7 o)) (i5 _);obtain⟨_,T⟩:=J.sp;have s1:=T (λg=>o7 A.drew g) A.drew (o9.refl _) λg h=>b7 ((o7.drew A).trans h);have d:=o.trans (F.trans (o7.drew A));have K : -1<=s.src/\s.src<=2000000:=by
  rcases z.1 with h|h<;>omega
 have L : -1<=s.dst/\s.dst<=2000000:=by
  rcases z.2 with h|h<;>omega
 simp only[n8,o6,y0,simprocAttr,j,Y,O,B,I,S];refine C0 (λg=>o7 A.drew g) 11 (A5 [0,1,2,3,5,6,7,4,8,9,10]) ?_;simp only[D6,A5,n8,o6,simprocAttr,s1,e0];refine B9 (ba9 a wy p i x y s.src A.drew (U.mono (b7 d)) n K) (λw5 b=>⟨b,?_⟩);simp only[D6,n8,simprocAttr];refine B9 (ba9 a wy p i x y s.dst w5 (U.mono (b7 (d.trans b))) n L) (λw6 q=>⟨b.trans q,?_⟩);have r:=d.trans (b.trans q);have C:=G.ext (F.trans ((o7.drew A).trans (b.trans q)));obtain⟨p1,u7,w7,p2,p3,p4,p5⟩:=push (e:=203) dz0 rfl C (x:=.agg #[.int .i64 (wy.index s.src),.int .i64 (wy.index s.dst)]) (y:=(wy.index s.src,wy.index s.dst)) (dh3 _ _) (by simp only[dN4,dN9];omega) (by simp only[dN4,dN9];omega) (b7 r);simp only[D6,n8,simprocAttr,bJ9,p1,E8];refine⟨b.trans (q.trans (o7.alloc _ _)),?_⟩;simp only[n8,o6,simprocAttr,H,j,p2];exact⟨(k+1,u7),by omega,dO2 _ (B0 k (by omega)),by trivial,by omega,by rw[E];exact p3,C.ext2 r p4⟩
def br7(a:Addr)(wy:Wy)(p:Pg)(i x y:Nat)(v:Value)(l:List Sp)(w:World)(q:At (i4 w) a wy)(c:WyOk p i x y wy)(j:(b9 p).l.length<=200)(hv:R (i4 w) v l)(A:∀t∈l,RgS x y t)(g:l.length<=10000000):
  p7 prog 149 #[.pointer (some a),v] w λu b=>(GR (i4 b) u (am0 wy.n.toNat (wy.pairs l)).1 (am0 wy.n.toNat (wy.pairs l)).2/\o7 w b):=by
 refine p9 [.pointer (some a),v] func149 rfl ?_;obtain⟨_,_,_,_,_,_,C,o⟩:=q.wy;have n:∀b,o7 w.drew b->B5 (i4 w) (i4 b):=λb h=>b7 ((o7.drew w).trans h);have D:=o (λb=>o7 w.drew b) w.drew (o9.refl _) n;have s:=c.part.ok.len;have F:=c.n;have r:=c.part.ok.le;have k:wy.n=((wy.n.toNat:Nat):Int):=by omega
 have B:(wy.pairs l).length=l.length:=dN4 _;simp only[n8,o6,simprocAttr];refine C0 (λb=>o7 w.drew b) 7 (A5 [0,1,2,3,4,5,6]) ?_;simp only[D6,A5,n8,o6,simprocAttr,D];refine y5 (ap4 a wy p i x y v l w.drew (q.mono (b7 (o7.drew w))) c (A4.mono (b7 (o7.drew w)) hv) A g) ?_;rintro u E ⟨m,d⟩;refine⟨d,?_⟩;rw[k];simp only[D6,n8,o6,simprocAttr];refine y5 (cs3 wy.n.toNat u (wy.pairs l) E (by omega) (m.rw_ (b7 d)) (by omega)) ?_;rintro G H ⟨⟨M,z⟩,f⟩;have e:=(o7.drew w).trans d;simp only[n8,simprocAttr];exact o8 results149 ⟨z.read (b7 f),e.trans f⟩
mutual
def cN9:∀(t:St) (d:Nat) (n m:Int),n<=200->((K5 d t.thn n).bind λm=>K5 d t.els m)=some m->m<=200
 | .mk id kind labels name proc x has args thn els,d,n,m,hn,h=>by
  simp only[St.thn,St.els]at h;obtain⟨a,b,c⟩:=dU9.1 h;exact aM0 els d a m (aM0 thn d n a hn b) c
def aM0:∀(l:List St) (d:Nat) (n m:Int),n<=200->K5 d l n=some m->m<=200
 | [],d,n,m,hn,h=>by
  cases d with
  | zero=>simp[K5]at h;omega
  | succ d=>rw[K5]at h;simp at h;omega
 | t::l,0,n,m,hn,h=>by simp[K5]at h
 | t::l,d+1,n,m,hn,h=>by
  rw[aR8]at h;obtain⟨b,a,c⟩:=dU9.1 h;split at a
  ·cases a
  ·next f=>
   have e:n+1<=200:=by
    rcases Int.lt_or_le 200 (n+1)with h|h
    ·exact absurd (.inl h) f
    ·exact h
   exact aM0 l (d+1) b m (cN9 t d (n+1) b e a) c
end
def bY8:∀(l:List Pr) (n:Int),n<=200->(l.foldlM (λn f=>V8 f n) n).isSome=true->n+((l.map λf=>A9 f.body).sum:Nat)<=200
 | [],n,hn,_=>by simpa using hn
 | f::l,n,hn,h=>by
  rw[List.foldlM_cons]at h;obtain⟨k,c⟩:=dS1.1 h;obtain⟨m,hm,a⟩:=dU9.1 c;unfold V8 at hm;split at hm
  ·cases hm
  ·have e:=(aV6 f.body 12 n m hm).1;have b:=aM0 f.body 12 n m hn hm;have:=bY8 l m b (by rw[a];rfl);rw[dQ8,dX8];omega
def J1{p:Pg}(hm:N2 p=true):(b9 p).l.length<=200:=by
 rw[az5];simp only[N2,dO8]at hm;have:=bY8 p.procs 0 (by omega) hm.2;unfold bS1;omega
def dB5{w:World}{a:Nat}{b:Addr}{wy:Wy}{d c:Value}(e:w.heap[a]?=some (.cells #[.pointer (some b),.int .i64 wy.proc,.int .i64 wy.n,d,c] 119 (0,0)))(i:At (i4 w) b wy.s)(h:R (i4 w) d wy.real)(g:R (i4 w) c wy.live):At (i4 w) ⟨a,0,none⟩ wy:=by
 refine⟨[.pointer (some b),.int .i64 wy.proc,.int .i64 wy.n,d,c],⟨_,_,_,rfl,i.ptr,h,g⟩,λj u f=>?_⟩;rw[<-ak4,add_lit,dQ2,dU3 w a j _ 119 (0,0) e];simpa using f
def cI6(s v:Value)(i n:Int)(c:s.cells=#[s])(hv:v.cells=#[v]):B8 prog 119 [(0,s),(1,.int .i64 i),(2,.int .i64 n),(3,v)]=some (.agg #[s,.int .i64 i,.int .i64 n,v,.slice none 0 0]):=by
 have a:(Value.int .i64 i).cells=#[.int .i64 i]:=rfl;have b:(Value.int .i64 n).cells=#[.int .i64 n]:=rfl;simp[B8,do3,K8,Instr.fill,c,hv,a,b]
def ai4(s:Sh)(i:Nat):Wy:=⟨s,i,Y4 s.hi i-Y4 s.lo i+2,s.steps i,List.replicate (Y4 s.hi i-Y4 s.lo i+2).toNat false⟩
def df9{p:Pg}{i x y:Nat}(a:ar1 p i x y):WyOk p i x y (ai4 (b9 p) i):=by
 refine⟨rfl,rfl,?_,a⟩;unfold ai4 Y4;simp only[dP0,List.getD,a.ok.lo,a.ok.hi,dR9];omega
def cu6{p:Pg}{i x y:Nat}(a:ar1 p i x y):WyOk p i x y (D5 (b9 p) i):=by
 refine⟨rfl,rfl,?_,a⟩;unfold D5 Y4;simp only[dP0,List.getD,a.ok.lo,a.ok.hi,dR9];omega
theorem bH6(s:Sh)(i:Nat):(D5 s i).live=bE4 (am0 (ai4 s i).n.toNat ((ai4 s i).pairs (s.steps i))).1:=rfl
def bA7{p:Pg}{i x y:Nat}(a:ar1 p i x y):((D5 (b9 p) i).live.length:Int)=(D5 (b9 p) i).n:=by
 have c:=(cu6 a).n;have d:=a.ok.le;have b:(D5 (b9 p) i).n=(ai4 (b9 p) i).n:=rfl;rw[bH6,b];unfold bE4;rw[dN4,dR3,(aj1 _ _).nx.len];omega
def be4{p:Pg}(hw:C5 p<=1000000){i:Nat}(b:i<p.procs.length):((b9 p).steps i).length<=800001:=by
 obtain⟨_,a⟩:=bi9 p hw i b;refine dN1 (aS4 _) ?_;rw[dP4];have:=N5 (λit:It=>((b9 p).goes it).map λt=>(⟨it.s.id,t,1⟩:Sp)) 2 ((b9 p).of i) λit _=>by rw[dN4];exact bU8 _ _
 omega
def cm9(a:Addr)(p:Pg)(i x y:Nat)(w:World)(hs:At (i4 w) a (b9 p))(hr:D4 p)(hw:C5 p<=1000000)(hi:i<p.procs.length)(T:ar1 p i x y):p7 prog 91 #[.pointer (some a),.int .i64 i] w λu c=>(∃g G F,u = .pointer (some ⟨g,0,none⟩)/\c.heap[g]?=some (.cells #[.pointer (some a),.int .i64 i,.int .i64 (D5 (b9 p) i).n,G,F] 119 (0,0))/\w.heap.size<=g/\A8 (i4 w) c 263 G ((b9 p).steps i)/\A8 (i4 w) c 4 F (D5 (b9 p) i).live/\o7 w c):=by
 refine p9 [.pointer (some a),.int .i64 i] func91 rfl ?_;have ao:=J1 hr.may;have bp:=T.ok.len;have bo:=T.ok.le;obtain⟨vL,bl,bk,hL,aC,az,bt,bA,bj⟩:=hs.sh;have aj:∀c,o7 w.drew c->B5 (i4 w) (i4 c):=λc h=>b7 ((o7.drew w).trans h);have s2:=bj (λc=>o7 w.drew c) w.drew (o9.refl _) aj;have a7:=aC.inS (dM9.1 T.ok.lo).1;have a8:=az.inS (dM9.1 T.ok.hi).1;have k1:∀K f d w0,F3 prog (λc=>o7 w.drew c) (Instr.loadAt 3 (.pointer (some (G4 bl i)))) K f d w0=K (C4 f d (.int .i64 ((x:Int)+1))) w0:=λK f d w0=>B7 (w0:=w.drew) (o9.refl _) λc h=>ldI aC (aj c h) T.ok.lo;have k2:∀K f d w0,F3 prog (λc=>o7 w.drew c) (Instr.loadAt 3 (.pointer (some (G4 bk i)))) K f d w0=K (C4 f d (.int .i64 ((y:Int)+1))) w0:=λK f d w0=>B7 (w0:=w.drew) (o9.refl _) λc h=>ldI az (aj c h) T.ok.hi;have aG:=df9 T;have hn:=aG.n;have al:IntKind.i64.wrap ((y:Int)+1-((x:Int)+1))=(y:Int)+1-((x:Int)+1):=M3 _ (by omega);have am:IntKind.i64.wrap ((y:Int)+1-((x:Int)+1)+2)=(ai4 (b9 p) i).n:=by rw[M3 _ (by omega)];omega
 have bb:(ai4 (b9 p) i).n=(((ai4 (b9 p) i).n.toNat:Nat):Int):=by omega
 generalize hX:(x:Int)+1=X at k1 al am;generalize hY:(y:Int)+1=Y at k2 al am;simp only[n8,o6,simprocAttr];refine C0 (λc=>o7 w.drew c) 21 (A5 [0,1,2,3,4,5,6,7,8,9,10,11,12,13,14,15,16,17,18,19,20]) ?_;simp only[D6,A5,n8,o6,y0,simprocAttr,s2,k1,k2,a7,a8,al,am];refine y5 (cw4 a p i x y w.drew (hs.mono (b7 (o7.drew w))) hr hw hi T) ?_;rintro G w2 ⟨O,aM⟩;refine⟨aM,?_⟩;have M:=(o7.drew w).trans aM;have aW:=O.isS;obtain⟨g,U,au,aN,ab,W⟩:∃g U,(Instr.box 119 (.agg #[.pointer (some a),.int .i64 i,.int .i64 (ai4 (b9 p) i).n,G,.slice none 0 0])).run prog w2 = .ok (.pointer (some ⟨g,0,none⟩)) U/\o7 w2 U/\U.heap[g]?=some (.cells #[.pointer (some a),.int .i64 i,.int .i64 (ai4 (b9 p) i).n,G,.slice none 0 0] 119 (0,0))/\w2.heap.size<=g:=
  ⟨_,_,rfl,o7.alloc _ _,dQ5 w2 _,dO0 _⟩
 have aa:=M.trans aN;have ad:g<U.heap.size:=(dN0.1 ab).1;obtain⟨F,w4,aD,ah,an,aw,_⟩:=mk (P:=prog) (w:=U) (h:=i4 U) (α:=Bool) bw9 T5 (y:=false) rfl (n:=(ai4 (b9 p) i).n.toNat) (by omega) (by omega) (i5 _);rw[<-bb]at aD;have a0:w4.heap[g]?=some (.cells #[.pointer (some a),.int .i64 i,.int .i64 (ai4 (b9 p) i).n,G,.slice none 0 0] 119 (0,0)):=(an.block g ad id).trans ab;have ay:∀b,A3 F b->b≠g:=λb l e=>by have:=aw b l;omega
 obtain⟨V,s5,a1,ag⟩:=ag5 (P:=prog) (t:=95) (i:=4) (x:=F) a0 (by simp) (E3 ah.isS) (X8 ah.isS) (z7 bH5).choose_spec.1 (by rw[<-D9 (z7 bH5).choose_spec.1];exact cu1);have B:V.heap[g]?=some (.cells #[.pointer (some a),.int .i64 i,.int .i64 (ai4 (b9 p) i).n,G,F] 119 (0,0)):=by simpa using a1
 have s:o7 w V:=o9.ext_of (aa.trans an) ag λb l=>by subst l;exact dN1 M.size W
 have C:A8 (i4 w) V 4 F (List.replicate (ai4 (b9 p) i).n.toNat false):=(ah.back aa).mod ag λb l=>ay b l;have I:A8 (i4 w) V 263 G ((b9 p).steps i):=(((O.backN (o7.drew w)).ext aN).ext an).mod ag λb l e=>by
  subst e;have:=O.lt l;omega
 have bg:(Instr.loadAt 3 (.pointer (some ⟨g,2,none⟩))).run prog U = .ok (.int .i64 (ai4 (b9 p) i).n) U:=E2 (i:=2) ab rfl G3;have bh:(Instr.loadAt 117 (.pointer (some ⟨g,3,none⟩))).run prog V = .ok G V:=E2 (i:=3) B rfl cl6;have ar:At (i4 V) ⟨g,0,none⟩ (ai4 (b9 p) i):=dB5 B (hs.mono (b7 s)) (I.rw_ (b7 s)) (C.rw_ (b7 s));have aK:=bx6 hr hw hi T;have bx:=be4 hw hi;simp only[D6,n8,o6,simprocAttr,cI6 (.pointer (some a)) G i (ai4 (b9 p) i).n rfl (E3 aW),au,bg,aD,s5,bh];refine y5 (br7 ⟨g,0,none⟩ (ai4 (b9 p) i) p i x y G _ V ar aG ao (I.rw_ (b7 s)) aK (by omega)) ?_;rintro ug w6 ⟨ae,aO⟩;obtain⟨vz,w7,aB,bc,S,_⟩:=lit (P:=prog) (w:=w6) (h:=i4 w6) (α:=Int) (xs:=[.int .i64 0]) (ys:=[0]) (parts:=#[(0,.int .i64 0)]) (n:=1) U2 rfl (G5.2 rfl) (by simp[Value.cells]) rfl rfl (by simp) (by simp) (i5 _);have z:=(aj1 (ai4 (b9 p) i).n.toNat ((ai4 (b9 p) i).pairs ((b9 p).steps i))).nx;have A:(D5 (b9 p) i).live=bE4 (am0 (ai4 (b9 p) i).n.toNat ((ai4 (b9 p) i).pairs ((b9 p).steps i))).1:=bH6 _ _;generalize(am0 (ai4 (b9 p) i).n.toNat ((ai4 (b9 p) i).pairs ((b9 p).steps i))).1=nx at ae z A;generalize(am0 (ai4 (b9 p) i).n.toNat ((ai4 (b9 p) i).pairs ((b9 p).steps i))).2=pv at ae;have aE:=z.len;have o:E6 nx.length nx:=by rw[aE];exact z
 have aH:H1 nx.length 0=true:=B3.2 ⟨by omega,by omega⟩;simp only[n8,simprocAttr,aB];refine y5 (cw3 ug nx pv vz [0] w7 (ae.mono (b7 S)) o (by omega) (bc.rw_ (b7 S)) (by simp)) ?_;rintro ur w8 ⟨⟨r,E,L⟩,bf⟩;have v:=aO.trans (S.trans bf);have Z:=C.ext v;have Q:R (B6 w8 (A3 F)) ur r:=E.flatR λb l=>D8 λaY=>by
  have h1:=C.lt aY;have h2:=D0 (E.free l);have:=(aO.trans S).size;omega
 have aJ:∀b∈r,H1 nx.length b=true:=λb l=>((L.mem b).1 l).ok o;have bw:r.length<=nx.length:=by
  have:=aD6 (n:=nx.length) (m:=0) L.le (λb l=>B3.1 (aJ b l)) (by omega);omega
 have ba:=dc1 o aH L;rw[ba]at A;have aq:=Q.isS;have aF:=Q.vlen;have a2:∀c,o9 (A3 F) w8 c->c.heap[g]?=some (.cells #[.pointer (some a),.int .i64 i,.int .i64 (ai4 (b9 p) i).n,G,F] 119 (0,0)):=λc hm=>by
  have ax:g<V.heap.size:=(dN0.1 B).1;have a4:g<w8.heap.size:=dS9 ax v.size;rw[hm.block g a4 λl=>ay g l rfl,v.block g ax id,B]
 have aI:List.replicate (ai4 (b9 p) i).n.toNat false=(List.range nx.length).map λ(b:Nat)=>(([]:List Int)).contains (b:Int):=by
  rw[aE];apply dS8
  ·simp
  ·intro j h1 h2;simp
 rw[aI]at Z;simp only[n8,o6,simprocAttr,aq,aF];refine n9 [5,46,47] (σ:=Nat) (λk f c=>f 48 = .int .i64 k/\k<=r.length/\A8 (i4 w) c 4 F ((List.range nx.length).map λ(b:Nat)=>(r.take k).contains (b:Int))/\o9 (A3 F) w8 c) (λk=>r.length-k) 0 ?_ ?_
 ·simp only[p8,simprocAttr];exact⟨by trivial,dN6 _,by simpa using Z,o9.refl _⟩
 rintro k f w9 hk ⟨ap,bv,D,H⟩;simp only[dM6,p8,simprocAttr]at hk;obtain⟨e5,aS,aT,_⟩:=hk;have av:=a2 w9 H;simp only[n8,o6,simprocAttr,ap,aT];refine n7 (λhc=>?_) (λhc=>?_)
 ·have N:k<r.length:=by simpa using hc
  have a9:=Q.inS N;have af:=aF7 Q (E1 H) N;have bu:=B3.1 (aJ _ (dN5 N));have ac:r[k]=((r[k].toNat:Nat):Int):=by omega
  have ak:∀b:Int,(r.take (k+1)).contains b=((r.take k).contains b||decide (b=r[k])):=λb=>by
   rw[dN3 N,dY0,dX4,dO5,dO5,dN7,dP1,decide_eq_true_iff]
  have J:r[k].toNat<nx.length:=by omega
  rw[ac]at af ak;generalize r[k].toNat=q at af ak J;have l9:(Instr.loadAt 95 (.pointer (some ⟨g,4,none⟩))).run prog w9 = .ok F w9:=E2 (i:=4) av rfl aF5;have aA:=D.inS (k:=q) (by simpa using J);obtain⟨bH,s1,s2,s3,s4⟩:=E4 (P:=prog) (t:=4) D rfl (k:=q) (by simpa using J) (x:=.bool true) (y:=true) rfl rfl (z7 T5).choose_spec.1 (by rw[<-D9 (z7 T5).choose_spec.1];exact aE1);simp only[n8,o6,y0,simprocAttr,ap,e5,aS,a9,af,l9,aA,s1];refine⟨k+1,by omega,dO2 _ (B0 k (by omega)),by omega,?_,H.chain s3 λ_ _ h=>h⟩;have a3:((List.range nx.length).map λ(b:Nat)=>(r.take k).contains (b:Int)).set q true=(List.range nx.length).map λ(b:Nat)=>(r.take (k+1)).contains (b:Int):=by
   apply dS8
   ·simp
   ·intro j h1 h2;rw[List.getElem_set];simp only[dT4,dY7,ak];by_cases hjq:q=j
    ·subst hjq;simp
    ·rw[if_neg hjq];have:decide ((j:Int)=(q:Int))=false:=by simp;omega
     rw[this,Bool.or_false]
  rw[<-a3];exact s2
 ·have a5:k=r.length:=by simp at hc;omega
  subst a5;rw[dN8,<-A]at D;simp only[n8,simprocAttr,e5];refine o8 results91 ?_;simp only[p8,simprocAttr];have aL:o7 w w9:=o9.ext_of (s.trans v) H λb l=>D0 (C.free l);have E:A8 (i4 w) w8 263 G ((b9 p).steps i):=I.ext v;refine⟨g,G,F,by trivial,av,dN1 M.size W,E.mod H λb l aX=>?_,D,aL⟩;have h1:=aw b aX;have h2:=O.lt l;omega
instance:A0 (Int×Int):=⟨λp=>[.int .i64 p.1,.int .i64 p.2],λh cs x=>by
 constructor
 ·rintro⟨c1,c2,rfl,h1,h2⟩;have e1:c1=[Value.int .i64 x.1]:=h1;have e2:c2=[Value.int .i64 x.2]:=h2;rw[e1,e2];rfl
 ·rintro rfl;exact⟨[.int .i64 x.1],[.int .i64 x.2],rfl,rfl,rfl⟩⟩
def I6.nil{α:Type}[A4 α](h:Hp)(w:World)(T T':TypeId):I6 h w T T' (.slice none 0 0) ([]:List U1) ([]:List (List α)):=
 ⟨A8.nil _ _ _,rfl,λi u b h=>by simp at h,λi j u a _ h=>by simp at h,λi u h=>by simp at h⟩
def I6.push{α:Type}[A4 α]{h:Hp}{w C:World}{T T':TypeId}{v t:Value}{us:List U1}{l:List (List α)}(g:I6 h w T T' v us l){u':Value}{xs:List α}(E:A8 h w T' u' xs)(s:∀b,A3 u' b->¬L6 v us b)
  (B:A8 h C T t (us++[⟨u'⟩])) (hm:o9 (A3 v) w C) (A:F0 w v t):I6 h C T T' t (us++[⟨u'⟩]) (l++[xs]):=by
 have f:∀(j:Nat) (x:U1),(us++[(⟨u'⟩:U1)])[j]?=some x->(j=us.length/\x=⟨u'⟩)\/us[j]?=some x:=by
  intro j x c;rcases dQ7 j us.length with i|z
  ·rw[dR6 i]at c;exact .inr c
  ·rw[dR4 z]at c;cases hq:j-us.length with
   | zero=>rw[hq]at c;simp at c;exact .inl ⟨by omega,c.symm⟩
   | succ q=>rw[hq]at c;simp at c
 have o:∀(j:Nat) (x:U1),us[j]?=some x->∀b,A3 x.v b->b<w.heap.size/\¬A3 v b:=λj x c b e=>⟨g.lt (.inr ⟨x,dO4 c,e⟩),g.off j x c b e⟩;have p:∀b,A3 t b->A3 v b\/w.heap.size<=b:=A;refine⟨B,by simp[g.len],?_,?_,?_⟩
 ·intro j x H c r;rcases f j x c with⟨rfl,rfl⟩|d
  ·rw[g.len,dR4 (dO0 _)]at r;simp at r;subst r;exact E.mod hm λb e a=>s b e (.inl a)
  ·have i:j<l.length:=by rw[<-g.len];exact(dM9.1 d).1
   rw[dR6 i]at r;exact(g.row j x H d r).mod hm λb e=>g.off j x d b e
 ·intro j k x y m c G b e a;rcases f j x c with⟨rfl,rfl⟩|d<;>rcases f k y G with⟨rfl,rfl⟩|n
  ·exact m rfl
  ·exact s b e (.inr ⟨y,dO4 n,a⟩)
  ·exact s b a (.inr ⟨x,dO4 d,e⟩)
  ·exact g.apart j k x y m d n b e a
 ·intro j x c b e a;rcases f j x c with⟨rfl,rfl⟩|d
  ·rcases p b a with u|u
   ·exact s b e (.inl u)
   ·have:=E.lt e;omega
  ·obtain⟨u,F⟩:=o j x d b e;rcases p b a with D|D
   ·exact F D
   ·omega
def Z2(n:Nat)(l:List Int):List Bool:=(List.range n).map λ(b:Nat)=>l.contains (b:Int)
def W4(n:Nat)(l:List Int):(Z2 n l).length=n:=by simp[Z2]
def av2{n:Nat}{l m:List Int}(h:∀x,x∈l↔x∈m):Z2 n l=Z2 n m:=by
 refine List.map_congr_left λb _=>?_;rw[dY0,dO5,dO5];exact h _
def bF0(n:Nat):Z2 n []=List.replicate n false:=by
 apply dS8
 ·simp[Z2]
 ·intro j a b;simp[Z2]
def aM1{n:Nat}(l:List Int){q:Nat}(c:q<n):(Z2 n l).set q true=Z2 n ((q:Int)::l):=by
 apply dS8
 ·simp[Z2]
 ·intro j a b;rw[List.getElem_set];simp only[Z2,dT4,dY7];by_cases hjq:q=j
  ·subst hjq;simp
  ·rw[if_neg hjq,List.contains_cons];have:((j:Int)==(q:Int))=false:=by simp;omega
   rw[this,dZ4]
def cC0{n:Nat}(l:List Int){q:Nat}(a:q<n):(Z2 n l)[q]?=some (l.contains (q:Int)):=by
 simp[Z2,a]
section
variable {P:Program} {Q:Exit->Fr->World->Prop} {K:Fr->World->Prop} {f:Fr} {w:World} {ops:Array Oper}
def ds9:CW P .skip Q f w=Q .normal f w:=propext dU5
def dC3{a b:Code}:CW P (.seq a b) Q f w=CW P a (af8 (CW P b Q) Q) f w:=propext dU5
def cF5{c:Operand}{a b:Code}:CW P (.cond c a b) Q f w=aO5 (ev f c) (CW P a Q) (CW P b Q) f w:=propext dU5
def dq5{id:Nat}{a:Code}:CW P (.block id a) Q f w=CW P a (ab3 id Q) f w:=propext dU5
def ds8{a:Code}:CW P (.loop a) Q f w=cn6 (CW P a) Q f w:=propext dU5
def ds6{id:Nat}:CW P (.region id ops true) Q f w=cG1 P ops (Q .normal) f w:=propext dU5
def ds7{id:Nat}:CW P (.exit id) Q f w=Q (.exit id) f w:=propext dU5
def dC2:CW P .ret Q f w=Q .ret f w:=propext dU5
def dz7:af8 K Q .normal f w=K f w:=propext dU5
def dz8:af8 K Q .ret f w=Q .ret f w:=propext dU5
def dz9{i:Nat}:af8 K Q (.exit i) f w=Q (.exit i) f w:=propext dU5
def dr0{i:Nat}:ab3 i Q .normal f w=Q .normal f w:=propext dU5
def dr1{i:Nat}:ab3 i Q .ret f w=Q .ret f w:=propext dU5
def dr2{i j:Nat}:ab3 i Q (.exit j) f w=if j=i then Q .normal f w else Q (.exit j) f w:=propext dU5
def du8{A B:Fr->World->Prop}:aO5 (.bool true) A B f w=A f w:=propext dU5
def du7{A B:Fr->World->Prop}:aO5 (.bool false) A B f w=B f w:=propext dU5
end
def m8:=zJ (zJ (zJ (zJ (zJ (zJ @dC3 @ds9) (zJ @cF5 (zJ @dq5 @ds8))) (zJ (zJ @dC1 @ds6) (zJ @ds7 (zJ @dC2 @dz7)))) (zJ (zJ (zJ @dz6 @dz8) (zJ @dz9 (zJ @dr0 @dq9))) (zJ (zJ @dr1 @dr2) (zJ @du8 (zJ @du7 @dC6))))) (zJ (zJ (zJ (zJ @dG2 @dK2) (zJ @ds3 (zJ @dF2 @ds4))) (zJ (zJ @dF3 @dI5) (zJ @dK7 (zJ @dd0 @dx8)))) (zJ (zJ (zJ @dd1 @dx9) (zJ @dy0 (zJ @dn8 @di4))) (zJ (zJ @di3 @dx7) (zJ @dI7 (zJ @dI6 @dn7)))))) (zJ (zJ (zJ (zJ (zJ @dI9 @dI8) (zJ @dF0 (zJ @cW7 @dw9))) (zJ (zJ @dI0 @dc8) (zJ @dr9 (zJ @dn3 @dH5)))) (zJ (zJ (zJ @dI1 @dr8) (zJ @dE9 (zJ @dx1 @dE8))) (zJ (zJ @ev.eq_1 @ev.eq_2) (zJ @ev.eq_3 (zJ @ev.eq_4 @C4.eq_1))))) (zJ (zJ (zJ (zJ @C4.eq_2 @dK1) (zJ @dI2 (zJ @dJ1 @dJ2))) (zJ (zJ @List.map_cons.{0,0} @List.map_nil.{0,0}) (zJ @List.map_toArray.{0,0} (zJ @bQ9.eq_1 @bQ9.eq_2)))) (zJ (zJ (zJ @dm1 @dD9) (zJ @dE0 (zJ @cL6.eq_1 @List.getElem?_toArray.{0}))) (zJ (zJ @List.getElem?_cons_zero.{0} (zJ @List.getElem?_cons_succ.{0} @Option.bind_some.{0,0})) (zJ @Option.some.injEq.{0} (zJ @dS7 @Bool.true_eq_false))))))
structure ao1 (p:Pg) (i x y:Nat) (wy:Wy):Prop extends WyOk p i x y wy where
 real:wy.real=(b9 p).steps i
 live:(wy.live.length:Int)=wy.n
def P2{p:Pg}{i x y:Nat}(a:ar1 p i x y):ao1 p i x y (D5 (b9 p) i):=⟨cu6 a,rfl,bA7 a⟩
def aX1{p:Pg}{i x y:Nat}{wy:Wy}(h:WyOk p i x y wy){l:List Sp}(c:∀t∈l,RgS x y t):∀t∈wy.pairs l,(0<=t.1/\t.1<wy.n)/\(0<=t.2/\t.2<wy.n):=by
 intro t e;obtain⟨s,d,rfl⟩:=dO7.1 e;have b:=c s d;refine⟨h.index_rg ?_,h.index_rg (.inr b.2)⟩;rcases b.1 with a|a
 ·exact .inl a
 ·exact .inr (.inr a)
def cQ3{nx:List (List Int)}(c:E6 nx.length nx):∀k,k<nx.length->0<=Y4 (ah1 nx) (k:Nat)/\Y4 (ah1 nx) (k:Nat)<(nx.length:Int):=by
 intro k a;have:Y4 (ah1 nx) (k:Nat)=((((List.range nx.length).find? λb=>V0 nx (k:Nat) (b:Nat)&&V0 nx (b:Nat) (k:Nat)).getD 0:Nat):Int):=by
  unfold Y4;rw[dP0,List.getD,dM4 (by simp[ah1,a])];simp[ah1]
 rw[this];cases hf:(List.range nx.length).find? λb=>V0 nx (k:Nat) (b:Nat)&&V0 nx (b:Nat) (k:Nat)with
 | none=>simp;omega
 | some q=>
  have:=List.mem_of_find?_eq_some hf;rw[dQ6]at this;simp;omega
theorem aA8{l:List Int}{k:Nat}(a:k<l.length):Y4 l (k:Nat)=l[k]:=by
 unfold Y4;rw[dP0,List.getD,dM4 a];rfl
def cN6{h:Hp}{v:Value}{l:List (Int×Int)}{w:World}(hv:R h v l)(hw:B5 h (i4 w)){k:Nat}{x:Int×Int}(a:l[k]?=some x):(Instr.loadAt 205 (.pointer (some (G4 v (k*2))))).run prog w = .ok (.agg #[.int .i64 x.1,.int .i64 x.2]) w:=
 bM1 (P:=prog) (t:=205) hv hw a cS6 cT8 cl9 by1
def cV3{w:World}(a b:Int):∃c e d,(Instr.alloc 205 true (.tuple #[])).run prog w = .ok (.pointer (some ⟨c,0,none⟩)) e/\(Instr.storeAt 205 (.pointer (some ⟨c,0,none⟩)) (.agg #[.int .i64 a,.int .i64 b])).run prog e = .ok () d/\o7 w d/\d.heap[c]?=some (.cells #[.int .i64 a,.int .i64 b] 205 (0,0))/\w.heap.size<=c:=by
 obtain⟨f,g⟩:=aJ0 (P:=prog) (w:=w) (T:=205) cU3 rfl (cs:=#[.int .i64 a,.int .i64 b]) rfl (by simp[Value.oneCell']);exact⟨_,_,_,f,g,o7.alloc _ _,dQ5 w _,dO0 _⟩
def ao9{w d:World}{c:Nat}{a b:Int}(h:w.heap[c]?=some (.cells #[.int .i64 a,.int .i64 b] 205 (0,0))){M:Nat->Prop}(hm:o9 M w d)(f:¬M c):
  (Instr.loadAt 3 (.pointer (some ⟨c,0,none⟩))).run prog d = .ok (.int .i64 a) d/\(Instr.loadAt 3 (.pointer (some ⟨c,1,none⟩))).run prog d = .ok (.int .i64 b) d:=by
 have e:=(hm.block c (dN0.1 h).1 f).trans h;exact⟨E2 (i:=0) e rfl G3,E2 (i:=1) e rfl G3⟩
def as6(a:List Int)(n:Int)(b:List (Int×Int)):List Int:=Y4 a 0::Y4 a (n-1)::(b.filter λt=>!decide (Y4 a t.1=Y4 a t.2)).map λt=>Y4 a t.1
def ci9(a:List Int)(n:Int)(b:List (Int×Int))(t:Int×Int)(x:Int):x∈as6 a n (b++[t])↔x∈as6 a n b\/(decide (Y4 a t.1=Y4 a t.2)=false/\x=Y4 a t.1):=by
 unfold as6;rw[dS4,dP6];by_cases h:Y4 a t.1=Y4 a t.2
 ·simp[h]
 ·simp[h,or_assoc]
def cw6(a:Addr)(wy:Wy)(p:Pg)(i x y:Nat)(w:World)(ha:At (i4 w) a wy)(hr:D4 p)(hw:C5 p<=1000000)(hi:i<p.procs.length)(E:ao1 p i x y wy):
  p7 prog 261 #[.pointer (some a)] w λu o=>(R (i4 o) u wy.traps/\o7 w o):=by
 refine p9 [.pointer (some a)] func261 rfl ?_;obtain⟨_,vr,_,_,a9,_,bb,cA⟩:=ha.wy;have lw:=bb w (i5 _);rw[E.real]at a9;have bh:=J1 hr.may;have cO:=E.part.ok.len;have cN:=E.part.ok.le;have hn:=E.n;have ap:=bx6 hr hw hi E.part;have db:=be4 hw hi;have aP:=aX1 E.toWyOk ap;have co:(wy.pairs ((b9 p).steps i)).length=((b9 p).steps i).length:=dN4 _;have hF:wy.traps=((List.range (ah1 (am0 wy.n.toNat (wy.pairs ((b9 p).steps i))).1).length).filter λ(i':Nat)=>decide (Y4 (ah1 (am0 wy.n.toNat (wy.pairs ((b9 p).steps i))).1) (i':Int)=(i':Int)) && !(as6 (ah1 (am0 wy.n.toNat (wy.pairs ((b9 p).steps i))).1) wy.n (wy.pairs ((b9 p).steps i))).contains (i':Int)).map λ(i':Nat)=>((List.range (ah1 (am0 wy.n.toNat (wy.pairs ((b9 p).steps i))).1).length).filter λ(j:Nat)=>decide (Y4 (ah1 (am0 wy.n.toNat (wy.pairs ((b9 p).steps i))).1) (j:Int)=(i':Int))).map λ(j:Nat)=>wy.place (j:Int):=by
  unfold Wy.traps;rw[E.real];rfl
 simp only[n8,o6,simprocAttr,lw];refine y5 (br7 a wy p i x y vr _ w ha E.toWyOk bh a9 ap (by omega)) ?_;rintro ug w2 ⟨aX,cr⟩;have B:=aj1 wy.n.toNat (wy.pairs ((b9 p).steps i));generalize cp:wy.pairs ((b9 p).steps i)=N at aP co hF aX B;have ah:=B.nx.len;simp only[n8,simprocAttr];refine y5 (cw2 ug _ _ w2 aX (by rw[ah];exact B) (by omega)) ?_;rintro up w4 ⟨⟨q,bA,S,bB⟩,bH⟩;have O:E6 (am0 wy.n.toNat N).1.length (am0 wy.n.toNat N).1:=by rw[ah];exact B.nx
 have cm:=dd3 O S bB;subst cm;have F:=cQ3 O;rw[S,ah]at hF;rw[ah]at S F;generalize ah1 (am0 wy.n.toNat N).1=g at bA hF F S;clear bB O ah B aX;have V:=cr.trans bH;have C:R (i4 w4) up g:=bA.rw_ (b7 bH);have bj:=C.isS;have bw:=C.vlen;have cu:=bb w4 (b7 V);have ci:wy.n=((wy.n.toNat:Nat):Int):=by omega
 have bX:2<=wy.n.toNat:=by omega
 obtain⟨vo,w5,a5,L,bJ,_,_⟩:=mk (P:=prog) (w:=w4) (h:=i4 w4) (α:=Bool) bw9 T5 (y:=false) rfl (n:=wy.n.toNat) (by omega) (by omega) (i5 _);rw[<-ci]at a5;generalize hM:wy.n.toNat=M at a5 L hF F S bX;have c8:wy.n=(M:Int):=by omega
 rw[<-bF0]at L;have ck:=F 0 (by omega);have cl:=F (M-1) (by omega);rw[aA8 (by omega)]at ck cl;have bq:=C.inS (k:=0) (by omega);have br:=C.inS (k:=M-1) (by omega);have bx:=L.inS (k:=g[0].toNat) (by rw[W4];omega);have bz:=L.inS (k:=g[M-1].toNat) (by rw[W4];omega);have cq:IntKind.i64.wrap (wy.n-1)=((M-1:Nat):Int):=by rw[M3 _ (by omega)];omega
 have aO:=L.ext (o7.drew w5);obtain⟨w6,s1,a6,bv,_⟩:=E4 (P:=prog) (t:=4) aO rfl (k:=g[0].toNat) (by rw[W4];omega) (x:=.bool true) (y:=true) rfl rfl (z7 T5).choose_spec.1 (by rw[<-D9 (z7 T5).choose_spec.1];exact aE1);rw[aM1 _ (by omega)]at a6;obtain⟨w7,s2,al,cg,_⟩:=E4 (P:=prog) (t:=4) a6 rfl (k:=g[M-1].toNat) (by rw[W4];omega) (x:=.bool true) (y:=true) rfl rfl (z7 T5).choose_spec.1 (by rw[<-D9 (z7 T5).choose_spec.1];exact aE1);rw[aM1 _ (by omega)]at al;have ca:Z2 M [((g[M-1].toNat:Nat):Int),((g[0].toNat:Nat):Int)]=Z2 M (as6 g wy.n []):=by
  refine av2 λz=>?_;unfold as6;have e0:Y4 g 0=g[0]:=by have:=aA8 (l:=g) (k:=0) (by omega);simpa using this
  have e1:Y4 g (wy.n-1)=g[M-1]:=by rw[show wy.n-1=((M-1:Nat):Int) by omega,aA8 (by omega)]
  rw[e0,e1];simp only[List.filter_nil,List.map_nil,dO6,dR2,dX1];rw[show((g[M-1].toNat:Nat):Int)=g[M-1] by omega,show((g[0].toNat:Nat):Int)=g[0] by omega,or_comm]
 rw[ca]at al;have aL:o9 (A3 vo) w5.drew w7:=bv.chain cg λ_ _ h=>h;have a8:∀o,o9 (A3 vo) w5.drew o->B5 (i4 w4) (i4 o):=λo h=>H5 (b7 (bJ.trans (o7.drew w5))) h λb hb=>L.free hb;have k0:∀K f d w0,F3 prog (λo=>o9 (A3 vo) w5.drew o) (Instr.loadAt 3 (.pointer (some (G4 up 0)))) K f d w0=K (C4 f d (.int .i64 g[0])) w0:=λK f d w0=>B7 (w0:=w5.drew) (o9.refl _) λo h=>aF7 C (a8 o h) (k:=0) (by omega);have k1:∀K f d w0,F3 prog (λo=>o9 (A3 vo) w5.drew o) (Instr.loadAt 3 (.pointer (some (G4 up (M-1))))) K f d w0=K (C4 f d (.int .i64 g[M-1])) w0:=λK f d w0=>B7 (w0:=w5.drew) (o9.refl _) λo h=>aF7 C (a8 o h) (k:=M-1) (by omega);have cB:=cA (λo=>o9 (A3 vo) w5.drew o) w5.drew (o9.refl _) λo h=>t8 (b7 V) (a8 o h);have b6:g[0]=((g[0].toNat:Nat):Int):=by omega
 have b8:g[M-1]=((g[M-1].toNat:Nat):Int):=by omega
 rw[b6]at k0;rw[b8]at k1;generalize g[0].toNat=P0 at k0 bx s1;generalize g[M-1].toNat=P1 at k1 bz s2;simp only[n8,o6,simprocAttr,cu,a5];refine C0 (λo=>o9 (A3 vo) w5.drew o) 17 (A5 [0,1,2,3,4,5,6,7,8,9,10,11,12,13,14,15,16]) ?_;simp only[D6,A5,n8,o6,y0,simprocAttr,k0,k1,cB,bq,br,cq,bx,bz,s1,s2,E8];refine⟨bv,aL,?_⟩;have aT:o7 w4 w7:=o9.ext_of (bJ.trans (o7.drew w5)) aL λb hb=>D0 (L.free hb);have aw:=V.trans aT;have cv:=bb w7 (b7 aw);simp only[n8,simprocAttr,cv];refine y5 (ap4 a wy p i x y vr _ w7 (ha.mono (b7 aw)) E.toWyOk (A4.mono (b7 aw) a9) ap (by omega)) ?_;rw[cp];rintro uq w8 ⟨an,bK⟩;have a7:=al.ext bK;have av:R (B6 w8 (A3 vo)) uq N:=an.flatRN λb hb=>D8 λb5=>by
  have h1:=al.lt b5;have h2:=D0 (an.free hb);omega
 have bI:=aT.trans bK;have b2:=av.isS;have cj:=av.vlen;simp only[n8,o6,simprocAttr,b2,cj];refine n9 [0,3,4,43,44] (σ:=Nat) (λk f o=>f 45 = .int .i64 k/\k<=N.length/\A8 (i4 w4) o 4 vo (Z2 M (as6 g wy.n (N.take k)))/\o9 (A3 vo) w8 o) (λk=>N.length-k) 0 ?_ ?_
 ·simp only[p8,simprocAttr];exact⟨by trivial,dN6 _,by simpa using a7,o9.refl _⟩
 rintro k f w9 hk ⟨ab,c9,am,a4⟩;simp only[dM6,p8,simprocAttr]at hk;obtain⟨e0,e3,e4,be,bV,_⟩:=hk;have X:=a7.ext2 bI a4;simp only[n8,o6,simprocAttr,ab,bV];refine n7 (λhc=>?_) (λhc=>?_)
 ·have D:k<N.length:=by simpa using hc
  have bp:=av.inS D;have aE:=cN6 av (E1 a4) (dM4 D);have bF:=dN3 D;obtain⟨bC,bE⟩:=aP _ (dN5 D);generalize N[k]=t at aE bF bC bE;obtain⟨z1,z2⟩:=t;simp only at bC bE aE;obtain⟨Q1,rfl⟩:∃Q:Nat,z1=(Q:Int):=⟨z1.toNat,by omega⟩;obtain⟨Q2,rfl⟩:∃Q:Nat,z2=(Q:Int):=⟨z2.toNat,by omega⟩;obtain⟨c,wz,A,bk,aq,ax,bm,cc⟩:=cV3 (w:=w9) (Q1:Int) (Q2:Int);have T:=X.trans (ax.trans (o7.drew A));have aj:=λo (h:o7 A.drew o)=>ao9 bm (M:=λ_=>False) ((o7.drew A).trans h) id;have t0:∀K f d w0,F3 prog (λo=>o7 A.drew o) (Instr.loadAt 3 (.pointer (some ⟨c,0,none⟩))) K f d w0=K (C4 f d (.int .i64 (Q1:Int))) w0:=λK f d w0=>B7 (w0:=A.drew) (o9.refl _) λo h=>(aj o h).1;have t1:∀K f d w0,F3 prog (λo=>o7 A.drew o) (Instr.loadAt 3 (.pointer (some ⟨c,1,none⟩))) K f d w0=K (C4 f d (.int .i64 (Q2:Int))) w0:=λK f d w0=>B7 (w0:=A.drew) (o9.refl _) λo h=>(aj o h).2;have aD:Q1<g.length:=by omega
  have a0:Q2<g.length:=by omega
  have aY:=C.inS aD;have bn:=C.inS a0;have g1:=aA8 aD;have g2:=aA8 a0;have u1:∀K f d w0,F3 prog (λo=>o7 A.drew o) (Instr.loadAt 3 (.pointer (some (G4 up Q1)))) K f d w0=K (C4 f d (.int .i64 (Y4 g Q1))) w0:=λK f d w0=>B7 (w0:=A.drew) (o9.refl _) λo h=>by rw[g1];exact aF7 C (b7 (T.trans h)) aD
  have u2:∀K f d w0,F3 prog (λo=>o7 A.drew o) (Instr.loadAt 3 (.pointer (some (G4 up Q2)))) K f d w0=K (C4 f d (.int .i64 (Y4 g Q2))) w0:=λK f d w0=>B7 (w0:=A.drew) (o9.refl _) λo h=>by rw[g2];exact aF7 C (b7 (T.trans h)) a0
  have v1:(Instr.loadAt 3 (.pointer (some (G4 up Q1)))).run prog A.drew = .ok (.int .i64 (Y4 g Q1)) A.drew:=by rw[g1];exact aF7 C (b7 T) aD
  have cn:=F Q1 (by omega);have ak:=am.ext (ax.trans (o7.drew A));have cf:=(aj A.drew (o9.refl _)).1;have Z:=λz=>ci9 g wy.n (N.take k) ((Q1:Int),(Q2:Int)) z;rw[<-bF]at Z;simp only at Z;generalize Y4 g (Q1:Int)=A1 at u1 v1 cn Z;generalize Y4 g (Q2:Int)=A2 at u2 Z;obtain⟨A1,rfl⟩:∃Q:Nat,A1=(Q:Int):=⟨A1.toNat,by omega⟩;have aM:o9 (A3 vo) w8 A.drew:=a4.chain (o9.up (ax.trans (o7.drew A))) λ_ _ h=>h;rcases dM5 (decide ((A1:Int)=A2))with hq|hq
  ·simp only[n8,o6,y0,simprocAttr,ab,be,bp,aE,bk,aq];refine C0 (λo=>o7 A.drew o) 11 (A5 [0,1,2,3,4,5,6,7,8,9,10]) ?_;simp only[D6,A5,n8,o6,y0,simprocAttr,e3,t0,t1,u1,u2,aY,bn,hq,ab];refine⟨k+1,by omega,dO2 _ (B0 k (by omega)),by omega,?_,aM⟩;have:Z2 M (as6 g wy.n (N.take (k+1)))=Z2 M (as6 g wy.n (N.take k)):=av2 λz=>by rw[Z z,hq];simp
   rw[this];exact ak
  ·have bs:=ak.inS (k:=A1) (by rw[W4];omega);obtain⟨aH,s1,aN,bu,_⟩:=E4 (P:=prog) (t:=4) ak rfl (k:=A1) (by rw[W4];omega) (x:=.bool true) (y:=true) rfl rfl (z7 T5).choose_spec.1 (by rw[<-D9 (z7 T5).choose_spec.1];exact aE1);rw[aM1 _ (by omega)]at aN;simp only[n8,o6,y0,simprocAttr,ab,be,bp,aE,bk,aq];refine C0 (λo=>o7 A.drew o) 11 (A5 [0,1,2,3,4,5,6,7,8,9,10]) ?_;simp only[D6,A5,n8,o6,y0,simprocAttr,e3,t0,t1,u1,u2,aY,bn,hq];simp only[n8,o6,y0,simprocAttr,e4,ab,cf,v1,aY,bs,s1];refine⟨k+1,by omega,dO2 _ (B0 k (by omega)),by omega,?_,aM.chain bu λ_ _ h=>h⟩;have:Z2 M (as6 g wy.n (N.take (k+1)))=Z2 M ((A1:Int)::as6 g wy.n (N.take k)):=av2 λz=>by rw[Z z,hq,dO6];simp[or_comm]
   rw[this];exact aN
 have ag:k=N.length:=by simp at hc;omega
 subst ag;rw[dN8]at am;generalize da:as6 g wy.n N=op at am hF;have bG:R (i4 w9) vo (Z2 M op):=am.rw_ (b7 X);have aS:=V.trans X;have aR:R (i4 w9) up g:=A4.mono (b7 X) C;have b3:=ha.mono (b7 aS);generalize bY:(λ(i':Nat)=>decide (Y4 g (i':Int)=(i':Int)) && !op.contains (i':Int))=Pr at hF;generalize b1:(λ(i':Nat)=>((List.range M).filter λ(j:Nat)=>decide (Y4 g (j:Int)=(i':Int))).map λ(j:Nat)=>wy.place (j:Int))=Rw at hF;clear am a7 al a6 aO L av an;simp only[m8,o6,simprocAttr,e3,bj,bw];refine n9 [0,3,4,68,69] (σ:=Nat×Value×List U1) (λs f o=>f 70 = .int .i64 s.1/\f 7=s.2.1/\s.1<=M/\I6 (i4 w9) o 24 3 s.2.1 s.2.2 (((List.range s.1).filter Pr).map Rw)/\o7 w9 o) (λs=>M-s.1) (0,.slice none 0 0,[]) ?_ ?_
 ·simp only[p8,simprocAttr];exact⟨by trivial,by trivial,dN6 _,by simpa using I6.nil _ _ _ _,o9.refl _⟩
 rintro⟨m,v,us⟩ f2 aH hk ⟨Y,h7,ch,I,G⟩;simp only at Y h7 ch I;simp only[dM6,p8,simprocAttr]at hk;obtain⟨g0,g3,g4,c6,bg,_⟩:=hk;rw[e0]at g0;rw[e3]at g3;rw[e4]at g4;rw[S]at bg;have ba:=aS.trans G;have au:∀q:Nat,((List.range (q+1)).filter Pr).map Rw=((List.range q).filter Pr).map Rw++if Pr q then[Rw q]else[]:=λq=>by
  rw[dW7,dS4,dP6]
  congr 1
  by_cases h:Pr q=true<;>simp[h]
 simp only[m8,o6,simprocAttr,Y,bg];refine n7 (λhc=>?_) (λhc=>?_);rotate_left
 ·have ag:m=M:=by simp at hc;omega
  subst ag;simp only[m8,simprocAttr,h7];exact o8 results261 ⟨by rw[hF];exact I.ro (b7 G),ba⟩
 have D:m<M:=by simpa using hc
 have a2:m<g.length:=by omega
 have aZ:=C.inS a2;have aK:=λo (h:o7 w9 o)=>aF7 aR (b7 h) a2;rw[<-aA8 a2]at aK;have aG:=aK aH G;have U:Pr m=(decide (Y4 g (m:Int)=(m:Int)) && !op.contains (m:Int)):=by rw[<-bY]
 have ao:Pr m=false->∃s:Nat×Value×List U1,M-s.1<M-m/\(Value.int .i64 (IntKind.i64.wrap ((m:Int)+1))) = .int .i64 s.1/\v=s.2.1/\s.1<=M/\I6 (i4 w9) aH 24 3 s.2.1 s.2.2 (((List.range s.1).filter Pr).map Rw)/\o7 w9 aH:=λh=>by
  refine⟨(m+1,v,us),by omega,dO2 _ (B0 m (by omega)),by trivial,by omega,?_,G⟩;simp only[];rw[au,h,if_neg (by simp),dP8];exact I
 generalize c7:Y4 g (m:Int)=Am at aG U;rcases dM5 (decide (Am=(m:Int)))with q1|q1;rotate_left
 ·simp only[m8,o6,y0,simprocAttr,Y,h7,g3,aZ,aG,q1];exact ao (by rw[U,q1];rfl)
 have bt:=bG.inS (k:=m) (by rw[W4];exact D);have a3:=ldB bG (b7 G) (k:=m) (by rw[W4];exact D);have cd:(Z2 M op)[m]'(by rw[W4];exact D)=op.contains (m:Int):=by
  have:=cC0 op D;rw[dM4 (by rw[W4];exact D)]at this;exact dO3 this
 rw[cd]at a3;rcases dM5 (op.contains (m:Int))with q2|q2
 ·simp only[m8,o6,y0,simprocAttr,Y,h7,g3,g4,aZ,aG,q1,bt,a3,q2];exact ao (by rw[U,q1,q2];rfl)
 have bZ:Pr m=true:=by rw[U,q1,q2];rfl
 have b0:Rw m=((List.range M).filter λ(j:Nat)=>decide (Y4 g (j:Int)=(m:Int))).map λ(j:Nat)=>wy.place (j:Int):=by rw[<-b1]
 simp only[m8,o6,y0,simprocAttr,Y,g3,g4,aZ,aG,q1,bt,a3,q2,bj,bw];refine n9 [0,3,4,7,8,68,69,70,85,86] (σ:=Nat×Value) (λs f o=>f 87 = .int .i64 s.1/\f 9=s.2/\s.1<=M/\A8 (i4 w9) o 3 s.2 (((List.range s.1).filter λ(j:Nat)=>decide (Y4 g (j:Int)=(m:Int))).map λ(j:Nat)=>wy.place (j:Int))/\(∀b,A3 s.2 b->¬L6 v us b)/\I6 (i4 w9) o 24 3 v us (((List.range m).filter Pr).map Rw)/\o7 w9 o) (λs=>M-s.1) (0,.slice none 0 0) ?_ ?_
 ·simp only[p8,simprocAttr];exact⟨by trivial,by trivial,dN6 _,by simpa using A8.nil _ _ _,λb hb=>absurd hb D1,I,G⟩
 rintro⟨j,ul⟩ f3 cF hk ⟨ac,h9,ce,J,af,r,H⟩;simp only at ac h9 ce J af;simp only[dM6,p8,simprocAttr]at hk;obtain⟨r0,r3,r4,r7,r8,dd,de,cz,df,bM,_⟩:=hk;rw[S]at bM;rw[g0]at r0;rw[g3]at r3;rw[h7]at r7;have cL:(((List.range j).filter λ(j:Nat)=>decide (Y4 g (j:Int)=(m:Int))).map λ(j:Nat)=>wy.place (j:Int)).length<=j:=by
  rw[dN4];exact dN1 (dP3 _ _) (by simp)
 have cb:us.length<=m:=by
  rw[r.len,dN4];exact dN1 (dP3 _ _) (by simp)
 simp only[m8,o6,simprocAttr,ac,bM];refine n7 (λhc=>?_) (λhc=>?_)
 ·have cP:j<M:=by simpa using hc
  have a1:j<g.length:=by omega
  have bo:=C.inS a1;have aF:=aF7 aR (b7 H) a1;rw[<-aA8 a1]at aF;have ar:(((List.range (j+1)).filter λ(j:Nat)=>decide (Y4 g (j:Int)=(m:Int))).map λ(j:Nat)=>wy.place (j:Int))=(((List.range j).filter λ(j:Nat)=>decide (Y4 g (j:Int)=(m:Int))).map λ(j:Nat)=>wy.place (j:Int))++if decide (Y4 g (j:Int)=(m:Int))then[wy.place (j:Int)]else[]:=by
   rw[dW7,dS4,dP6]
   congr 1
   cases h:decide (Y4 g (j:Int)=(m:Int))<;>simp[h]
  generalize Y4 g (j:Int)=Aj at aF ar;rcases dM5 (decide (Aj=(m:Int)))with q3|q3
  ·simp only[m8,o6,y0,simprocAttr,ac,r0,r3,r8,bo,aF,q3];refine B9 (ae8 a wy p i x y (j:Int) cF (b3.mono (b7 H)) E.toWyOk (by omega)) (λcG W=>?_);have ay:=H.trans W;obtain⟨p1,cE,dj,p2,p3,p4,p5⟩:=push (e:=24) U2 rfl (J.ext W) (x:=.int .i64 (wy.place (j:Int))) (y:=wy.place (j:Int)) rfl (by omega) (by omega) (b7 ay);simp only[Value.cells]at p1 p2;have aQ:=r.ext W;have bD:=aQ.mod p4 λb hb b4=>af b b4 hb;simp only[m8,o6,simprocAttr,ac,h9,p1,p2];refine⟨(j+1,cE),by omega,dO2 _ (B0 j (by omega)),by trivial,by omega,?_,λb hb bl=>?_,bD,(J.ext W).ext2 ay p4⟩
   ·simp only[];rw[ar,q3,if_pos rfl];exact p3
   ·rcases p5 b hb with h|h
    ·exact af b h bl
    ·have:=aQ.lt bl;omega
  ·simp only[m8,o6,y0,simprocAttr,ac,r3,r8,bo,aF,q3];refine⟨(j+1,ul),by omega,dO2 _ (B0 j (by omega)),h9,by omega,?_,af,r,H⟩;simp only[];rw[ar,q3,if_neg (by simp),dP8];exact J
 ·have ag:j=M:=by simp at hc;omega
  subst ag;rw[<-b0]at J;obtain⟨p1,v',cG,p2,p3,p4,p5⟩:=push (e:=242) ck2 rfl r.outer (x:=ul) (y:=(⟨ul⟩:U1)) (by rw[E3 J.isS];exact⟨rfl,X8 J.isS⟩) (by omega) (by omega) (b7 H);simp only[m8,o6,simprocAttr,h9,r7,cz,Y,p1,p2];refine⟨(m+1,v',us++[⟨ul⟩]),by omega,dO2 _ (B0 m (by omega)),by trivial,by omega,?_,r.outer.ext2 H p4⟩;simp only[];rw[au,bZ,if_pos rfl];exact r.push J af p3 p4 p5
def cb5{p:Pg}{i x y:Nat}{wy:Wy}(b:ao1 p i x y wy):∃a op:List Int,wy.traps=((List.range a.length).filter λ(c:Nat)=>decide (Y4 a (c:Int)=(c:Int)) && !op.contains (c:Int)).map (λ(c:Nat)=>((List.range a.length).filter λ(j:Nat)=>decide (Y4 a (j:Int)=(c:Int))).map λ(j:Nat)=>wy.place (j:Int))/\(a.length:Int)=wy.n/\Y4 a 0∈op/\Y4 a (wy.n-1)∈op:=by
 refine⟨ah1 (am0 wy.n.toNat (wy.pairs wy.real)).1,as6 (ah1 (am0 wy.n.toNat (wy.pairs wy.real)).1) wy.n (wy.pairs wy.real),rfl,?_,?_,?_⟩
 ·have d:=(aj1 wy.n.toNat (wy.pairs wy.real)).nx.len;have e:=b.n;have f:=b.part.ok.le;unfold ah1;rw[dN4,dR3,d];omega
 ·simp[as6]
 ·simp[as6]
def cb6{p:Pg}{i x y:Nat}{wy:Wy}(a:ao1 p i x y wy):∀l∈wy.traps,∀id∈l,(x:Int)<id/\id<=(y:Int):=by
 obtain⟨m,op,e,s,n,o⟩:=cb5 a;intro l hm id hid;rw[e]at hm;obtain⟨k,g,rfl⟩:=dO7.1 hm;obtain⟨j,f,rfl⟩:=dO7.1 hid;rw[dP2,dQ6]at g f;have c:=dM8 f.2;have b:(k:Int)∉op:=by
  have:=g.2;rw[dO8]at this;intro hm;have q:=dO5.2 hm;rw[q]at this;simp at this
 have t:=a.n;have h:=a.part.ok.le;rw[a.toWyOk.place];have r:j≠0:=λe=>by
  subst e;apply b;rw[<-c];simpa using n
 have d:(j:Int)≠wy.n-1:=λe=>by
  apply b;rw[<-c,e];exact o
 rw[if_neg (by omega),if_neg d];omega
def bH1{p:Pg}{i x y:Nat}{wy:Wy}(b:ao1 p i x y wy):(wy.traps.length:Int)<=wy.n/\∀l∈wy.traps,(l.length:Int)<=wy.n:=by
 obtain⟨a,op,e,h,d,f⟩:=cb5 b;rw[e];constructor
 ·rw[dN4];have:=dP3 (λ(c:Nat)=>decide (Y4 a (c:Int)=(c:Int)) && !op.contains (c:Int)) (List.range a.length);rw[dR3]at this;omega
 ·intro l hm;obtain⟨k,g,rfl⟩:=dO7.1 hm;rw[dN4];have:=dP3 (λ(j:Nat)=>decide (Y4 a (j:Int)=(k:Int))) (List.range a.length);rw[dR3]at this;omega
def df7{p:Pg}{i x y:Nat}{wy:Wy}(b:ao1 p i x y wy):∀t∈wy.virtual,RgS x y t:=by
 intro t c;obtain⟨l,d,c⟩:=dQ0.1 c;obtain⟨id,a,rfl⟩:=dO7.1 c;exact⟨.inr (cb6 b l d id (dP2.1 a).1),.inl rfl⟩
def cV4{p:Pg}{i x y:Nat}{wy:Wy}(a:ao1 p i x y wy)(b:(b9 p).l.length<=200):wy.virtual.length<=202*202:=by
 obtain⟨f,d⟩:=bH1 a;have g:=a.n;have c:=a.part.ok.len;have:=N5 (λl:List Int=>(l.filter λid=>decide ((wy.s.it id).s.kind=10)).map λid=>(⟨id,-1,3⟩:Sp)) 202 wy.traps λl e=>by
  rw[dN4];refine dN1 (dP3 _ _) ?_;have:=d l e;omega
 refine dN1 this ?_;exact dV6 _ (by omega)
def bl5(a:Addr)(wy:Wy)(p:Pg)(i x y:Nat)(w:World)(ha:At (i4 w) a wy)(hr:D4 p)(hw:C5 p<=1000000)(hi:i<p.procs.length)(b:ao1 p i x y wy):
  p7 prog 234 #[.pointer (some a)] w λu L=>(A8 (i4 w) L 263 u wy.virtual/\o7 w L):=by
 refine p9 [.pointer (some a)] func234 rfl ?_;obtain⟨vs,_,_,ay,_,_,aB,_⟩:=ha.wy;obtain⟨sh,rfl,has⟩:=Ptr.at_ ay;have aw:At (i4 w) sh (b9 p):=by rw[<-b.s];exact has
 obtain⟨vL,_,_,hL,_,_,_,az,_⟩:=aw.sh;have aG:=J1 hr.may;have aL:=b.part.ok.len;have hn:=b.n;have aa:=cb6 b;obtain⟨ax,v⟩:=bH1 b;have hF:wy.virtual=wy.traps.flatMap λl=>(l.filter λid=>decide (((b9 p).it id).s.kind=10)).map λid=>(⟨id,-1,3⟩:Sp):=by unfold Wy.virtual;rw[b.s]
 simp only[m8,o6,simprocAttr];refine y5 (cw6 a wy p i x y w ha hr hw hi b) ?_;rintro ut w2 ⟨A,S⟩;generalize wy.traps=F at A hF aa ax v;have al:=A.isS;have av:=A.vlen;generalize hB:(λl:List Int=>(l.filter λid=>decide (((b9 p).it id).s.kind=10)).map λid=>(⟨id,-1,3⟩:Sp))=B at hF;have ah:∀l∈F,(B l).length<=202:=λl hl=>by
  rw[<-hB,dN4];refine dN1 (dP3 _ _) ?_;have:=v l hl;omega
 have am:∀k,((F.take k).flatMap B).length<=202*202:=λk=>by
  refine dN1 (N5 B 202 _ λl hl=>ah l (dU2 hl)) (dV6 _ ?_);rw[dN9];omega
 simp only[m8,o6,simprocAttr,al,av];refine n9 [0,9,10] (σ:=Nat×Value) (λs f L=>f 11 = .int .i64 s.1/\f 3=s.2/\s.1<=F.length/\A8 (i4 w2) L 263 s.2 ((F.take s.1).flatMap B)/\o7 w2 L) (λs=>F.length-s.1) (0,.slice none 0 0) ?_ ?_
 ·simp only[p8,simprocAttr];exact⟨by trivial,by trivial,dN6 _,by simpa using A8.nil _ _ _,o9.refl _⟩
 rintro⟨j,u⟩ f w5 W ⟨G,h3,ao,Y,T⟩;simp only at G h3 ao Y;simp only[dM6,p8,simprocAttr]at W;obtain⟨e0,e9,af,_⟩:=W;have Z:=am j;simp only[m8,o6,simprocAttr,G,af];refine n7 (λM=>?_) (λM=>?_);rotate_left
 ·have N:j=F.length:=by simp at M;omega
  subst N;rw[dN8]at Y;simp only[m8,simprocAttr,h3];exact o8 results234 ⟨by rw[hF];exact Y.backN S,S.trans T⟩
 have r:j<F.length:=by simpa using M
 have o:=A.inS r;obtain⟨ul,z,an⟩:=R.row A (dM4 r);have g:=H7 (P:=prog) (t:=24) an (b7 T) ad0;have Q:=H4 B F r;have K:=aa _ (dN5 r);have ar:=v _ (dN5 r);generalize F[j]=l at z Q K ar;have U:B l=(l.filter λid=>decide (((b9 p).it id).s.kind=10)).map λid=>(⟨id,-1,3⟩:Sp):=by rw[<-hB]
 generalize(F.take j).flatMap B=pre at Y Z Q;have ak:=z.isS;have au:=z.vlen;simp only[m8,o6,y0,simprocAttr,G,e9,o,g,ak,au];refine n9 [0,9,10,11,15,16] (σ:=Nat×Value) (λs f L=>f 17 = .int .i64 s.1/\f 3=s.2/\s.1<=l.length/\A8 (i4 w2) L 263 s.2 (pre++((l.take s.1).filter λid=>decide (((b9 p).it id).s.kind=10)).map λid=>(⟨id,-1,3⟩:Sp))/\o7 w2 L) (λs=>l.length-s.1) (0,u) ?_ ?_
 ·simp only[p8,simprocAttr];exact⟨by trivial,h3,dN6 _,by simpa using Y,T⟩
 rintro⟨k,u6⟩ f6 w6 W ⟨H,I,ap,m,n⟩;simp only at H I ap m;simp only[dM6,p8,simprocAttr]at W;obtain⟨q0,q9,aV,aD,ad,aE,_⟩:=W;rw[e0]at q0;have D:=S.trans n;have aK:((l.take k).filter λid=>decide (((b9 p).it id).s.kind=10)).length<=k:=dN1 (dP3 _ _) (by rw[dN9];omega);simp only[m8,o6,simprocAttr,H,aE];refine n7 (λM=>?_) (λM=>?_);rotate_left
 ·have N:k=l.length:=by simp at M;omega
  subst N;rw[dN8,<-U]at m;simp only[m8,o6,simprocAttr,aD,G];refine⟨(j+1,u6),by omega,dO2 _ (B0 j (by omega)),I,by omega,?_,n⟩;simp only[];rw[Q];exact m
 have c:k<l.length:=by simpa using M
 clear o g;have o:=z.inS c;have g:=aF7 z (b7 n) c;have O:=K _ (dN5 c);have d:((l.take (k+1)).filter λid=>decide (((b9 p).it id).s.kind=10)).map (λid=>(⟨id,-1,3⟩:Sp))=((l.take k).filter λid=>decide (((b9 p).it id).s.kind=10)).map (λid=>(⟨id,-1,3⟩:Sp))++if decide (((b9 p).it l[k]).s.kind=10)then[⟨l[k],-1,3⟩]else[]:=by
  rw[dN3 c,dS4,dP6]
  congr 1
  cases h:decide (((b9 p).it l[k]).s.kind=10)<;>simp[h]
 generalize l[k]=id at g O d;obtain⟨_,_,J⟩:=b.part.at_ id O.1 O.2;have ac:=aB w6 (b7 D);have ab:=az w6 (b7 D);obtain⟨V,_,_⟩:=(hL.at_ J).it;obtain⟨_,_,_,_,_,_,_,_,_,aA,_⟩:=V.st;have E:=aA w6 (b7 D);have hz:A4.sz It=17:=rfl;rw[hz]at E;have X:=(dM9.1 J).1;have q:=hL.inS X;have C:IntKind.i64.wrap (id-1)=(((id-1).toNat:Nat):Int):=by rw[M3 _ (by omega)];omega
 generalize(id-1).toNat=qq at E q C;generalize((b9 p).it id).s.kind=kk at E d;rcases dM5 (decide (kk=10))with hq|hq
 ·obtain⟨p1,u7,w7,p2,p3,p4,p5⟩:=push (e:=117) bx0 rfl m (x:=.agg (A0.cells (⟨id,-1,3⟩:Sp)).toArray) (y:=⟨id,-1,3⟩) (bS8 _) (by simp only[dM7,dN4];omega) (by simp only[dM7,dN4];omega) (b7 n);simp only[m8,o6,y0,simprocAttr,H,I,q0,ad,o,g,ac,ab,C,q,E,hq,al2,p1,p2];refine⟨(k+1,u7),by omega,dO2 _ (B0 k (by omega)),by trivial,by omega,?_,m.ext2 n p4⟩;simp only[];rw[d,hq,if_pos rfl,<-dP5];exact p3
 ·simp only[m8,o6,y0,simprocAttr,H,I,q0,ad,o,g,ac,ab,C,q,E,hq];refine⟨(k+1,u6),by omega,dO2 _ (B0 k (by omega)),by trivial,by omega,?_,n⟩;simp only[];rw[d,hq,if_neg (by simp),dP8];exact m
def ct1{x y:Nat}(a:y<=1000000){t:Sp}(h:RgS x y t):plc t.src/\plc t.dst:=
 ⟨by rcases h.1 with h|h<;>unfold plc<;>omega,cj5 a h.2⟩
def dv1{p:Pg}{i x y:Nat}(a:ar1 p i x y):y<=1000000:=dN1 a.ok.len a.ok.fit
def cV5{p:Pg}{i x y:Nat}{wy:Wy}(d:D4 p)(hw:C5 p<=1000000)(c:i<p.procs.length)(a:ao1 p i x y wy):∀t∈wy.virtual++wy.real,RgS x y t:=by
 intro t b;rcases dN7.1 b with b|b
 ·exact df7 a t b
 ·rw[a.real]at b;exact bx6 d hw c a.part t b
def bP5{p:Pg}{i x y:Nat}{wy:Wy}(c:D4 p)(hw:C5 p<=1000000)(b:i<p.procs.length)(a:ao1 p i x y wy):wy.virtual.length+wy.real.length<=1000000:=by
 have d:=cV4 a (J1 c.may);have e:=be4 hw b;rw[a.real];omega
def bK5{p:Pg}{i x y:Nat}{wy:Wy}(c:D4 p)(hw:C5 p<=1000000)(b:i<p.procs.length)(a:ao1 p i x y wy):∀t∈wy.data,RgS x y t:=λt d=>cV5 c hw b a t (aS5 d)
def aU2{p:Pg}{i x y:Nat}{wy:Wy}(c:D4 p)(hw:C5 p<=1000000)(b:i<p.procs.length)(a:ao1 p i x y wy):wy.data.length<=1000000:=by
 have h:=bP5 c hw b a;refine dN1 (aS4 _) ?_;rw[dM7];exact h
def bQ1(a:Addr)(wy:Wy)(p:Pg)(i x y:Nat)(w:World)(q:At (i4 w) a wy)(l:D4 p)(hw:C5 p<=1000000)(f:i<p.procs.length)(b:ao1 p i x y wy):
  p7 prog 185 #[.pointer (some a)] w λu d=>(A8 (i4 w) d 263 u wy.data/\o7 w d):=by
 refine p9 [.pointer (some a)] func185 rfl ?_;obtain⟨_,H,_,_,n,_,B,o⟩:=q.wy;obtain⟨_,_,_,D,_⟩:=o (λd=>o7 w.drew d) w.drew (o9.refl _) λd h=>b7 ((o7.drew w).trans h);have r:=bP5 l hw f b;have m:=cV5 l hw f b;have A:=dv1 b.part;simp only[m8,o6,simprocAttr];refine C0 (λd=>o7 w.drew d) 6 (A5 [0,2,3,4,5,1]) ?_;simp only[D6,A5,m8,o6,simprocAttr,D];refine y5 (bl5 a wy p i x y w.drew (q.mono (b7 (o7.drew w))) l hw f b) ?_;rintro u I ⟨j,c⟩;refine⟨c,?_⟩;obtain⟨F,J,C,s,v,E⟩:=ae4 (P:=prog) (t:=117) (e:=117) bx0 rfl j (A4.mono (b7 (o7.drew w)) n) (by omega) (by omega) (b7 c);simp only[D6,m8,simprocAttr,C];refine y5 (aB3 s (by simp only[dM7];omega) (b7 (j.ext2 c v)) λt z=>ct1 A (m t z)) ?_;rintro G K ⟨k,g,_⟩;simp only[m8,simprocAttr];exact o8 results185 ⟨k.backN (o7.drew w),(o7.drew w).trans (s.ext2 (j.ext2 c v) g)⟩
def cH5{p:Pg}{i x y:Nat}{wy:Wy}(e:D4 p)(hw:C5 p<=1000000)(d:i<p.procs.length)(b:ao1 p i x y wy):∀t∈wy.virtual++wy.real++[⟨0,-1,2⟩]++((b9 p).of i).flatMap W8,RgS x y t:=by
 intro t a;rcases dN7.1 a with a|a
 ·rcases dN7.1 a with a|a
  ·exact cV5 e hw d b t a
  ·obtain rfl:=dP1.1 a;exact⟨.inl rfl,.inl rfl⟩
 ·obtain⟨it,c,a⟩:=dQ0.1 a;unfold W8 at a;split at a
  ·obtain rfl:=dP1.1 a;exact⟨.inr (b.part.ids it c),b.part.next it c⟩
  ·simp at a
def bt1(it:It):(W8 it).length<=1:=by
 unfold W8;split<;>simp
def cn5(a:Addr)(wy:Wy)(p:Pg)(i x y:Nat)(w:World)(ha:At (i4 w) a wy)(hr:D4 p)(hw:C5 p<=1000000)(hi:i<p.procs.length)(g:ao1 p i x y wy):
  p7 prog 184 #[.pointer (some a)] w λu o=>(A8 (i4 w) o 263 u wy.aug/\o7 w o):=by
 refine p9 [.pointer (some a)] func184 rfl ?_;obtain⟨vs,vr,_,aB,aA,_,_,ae⟩:=ha.wy;obtain⟨sh,rfl,has⟩:=Ptr.at_ aB;have ay:At (i4 w) sh (b9 p):=by rw[<-g.s];exact has
 obtain⟨_,_,_,sr,_⟩:=ae (λo=>o7 w.drew o) w.drew (o9.refl _) λo h=>b7 ((o7.drew w).trans h);have aG:=bP5 hr hw hi g;have L:=cH5 hr hw hi g;have hy:=dv1 g.part;have hF:wy.aug=at5 (wy.virtual++wy.real++[⟨0,-1,2⟩]++((b9 p).of i).flatMap W8):=by unfold Wy.aug;rw[g.s,g.proc]
 simp only[m8,o6,simprocAttr];refine C0 (λo=>o7 w.drew o) 6 (A5 [0,2,3,4,5,1]) ?_;simp only[D6,A5,m8,o6,simprocAttr,sr];refine y5 (bl5 a wy p i x y w.drew (ha.mono (b7 (o7.drew w))) hr hw hi g) ?_;rintro u w2 ⟨q,N⟩;refine⟨N,?_⟩;obtain⟨u3,w3,S,Q,T,p4⟩:=ae4 (P:=prog) (t:=117) (e:=117) bx0 rfl q (A4.mono (b7 (o7.drew w)) aA) (by omega) (by omega) (b7 N);have aa:=q.ext2 N T;obtain⟨q1,u4,R,q2,q3,q4,q5⟩:=push (e:=117) bx0 rfl Q (x:=.agg (A0.cells (⟨0,-1,2⟩:Sp)).toArray) (y:=⟨0,-1,2⟩) (bS8 _) (by simp only[dM7];omega) (by simp only[dM7];omega) (b7 aa);have ab:=(o7.drew w).trans (Q.ext2 aa q4);have X:=q3.backN (o7.drew w);have J:(wy.virtual++wy.real++[(⟨0,-1,2⟩:Sp)]).length<=1000001:=by simp only[dM7,dP7];omega
 generalize wy.virtual++wy.real++[(⟨0,-1,2⟩:Sp)]=G at X hF L J;obtain⟨z1,z2,_,_,_⟩:=ae (λo=>o7 R.drew o) R.drew (o9.refl _) λo h=>b7 (ab.trans ((o7.drew R).trans h));simp only[D6,m8,simprocAttr,S,al2,q1,q2];refine C0 (λo=>o7 R.drew o) 11 (A5 [0,1,2,3,4,5,6,7,10,8,9]) ?_;simp only[D6,A5,m8,o6,simprocAttr,z1,z2];have H:=ab.trans (o7.drew R);rw[g.proc];refine y5 (az3 (i4 w) sh (b9 p) i x y R.drew ay (b7 H) g.part.ok) ?_;rintro ui w5 ⟨D,O⟩;refine⟨O,?_⟩;have al:=D.isS;have W:=D.vlen;have ap:=(bi9 p hw i hi).2;generalize hl:(b9 p).of i=l at D hF L W ap;have Z:=H.trans O;have av:=X.ext ((o7.drew R).trans O);have am:∀k,((l.take k).flatMap W8).length<=400000:=λk=>by
  refine dN1 (N5 W8 1 _ λx _=>bt1 x) ?_;rw[dN9];omega
 simp only[D6,m8,o6,simprocAttr,al,W];refine n9 [0,25,26] (σ:=Nat×Value) (λs f o=>f 27 = .int .i64 s.1/\f 3=s.2/\s.1<=l.length/\A8 (i4 w) o 263 s.2 (G++(l.take s.1).flatMap W8)/\o7 w o) (λs=>l.length-s.1) (0,u4) ?_ ?_
 ·simp only[p8,simprocAttr];exact⟨by trivial,by trivial,dN6 _,by simpa using av,Z⟩
 rintro⟨j,u⟩ f w6 hk ⟨m,I,ar,q,F⟩;simp only at m I ar q;simp only[dM6,p8,simprocAttr]at hk;obtain⟨e0,z,aj,_⟩:=hk;have Y:=am j;simp only[m8,o6,simprocAttr,m,aj];refine n7 (λhc=>?_) (λhc=>?_);rotate_left
 ·have ao:j=l.length:=by simp at hc;omega
  subst ao;rw[dN8]at q Y;simp only[m8,simprocAttr,I];refine y5 (aB3 q (by simp only[dM7];omega) (b7 F) λt ht=>ct1 hy (L t ht)) ?_;rintro u6 w7 ⟨aw,au,_⟩;simp only[m8,simprocAttr];exact o8 results184 ⟨by rw[hF];exact aw,q.ext2 F au⟩
 have K:j<l.length:=by simpa using hc
 have B:=D.inS K;obtain⟨sv,M,r⟩:=F9 (P:=prog) (t:=150) D (b7 F) (dM4 K) X0 X2 V5 H9;rw[H9]at r;have v:=H4 W8 l K;generalize l[j]=it at M v;obtain⟨c,wz,w7,A,C,n,U⟩:=aN8 (w:=w6) (A3 u) M (λb hb=>q.lt hb);obtain⟨us,az,V,ldI,_⟩:=K7.it M U;obtain⟨_,_,_,_,_,_,_,_,_,_,_,aC,_⟩:=K7.st az V;have d:=F.trans n;have k1:=aC w7 (B2 _ _);have k2:=ldI w7 (B2 _ _);have E:(it.s.kind=7\/it.s.kind=8\/it.s.kind=9\/it.s.kind=10)->W8 it=[⟨it.s.id,it.next,2⟩]:=λh=>by unfold W8;rw[if_pos h]
 have aJ:(G++(l.take j).flatMap W8).length<=2000000:=by rw[dM7];omega
 obtain⟨S,u7,w8,Q,T,p4,p5⟩:=push (e:=117) bx0 rfl (q.ext n) (x:=.agg (A0.cells (⟨it.s.id,it.next,2⟩:Sp)).toArray) (y:=⟨it.s.id,it.next,2⟩) (bS8 _) (by omega) (by omega) (b7 d);rcases dM5 (decide (it.s.kind=7))with k7|k7
 ·simp only[m8,o6,y0,simprocAttr,m,I,z,B,r,A,C,k1,k2,k7,al2,S,Q];refine⟨(j+1,u7),by omega,dO2 _ (B0 j (by omega)),by trivial,by omega,?_,(q.ext n).ext2 d p4⟩;simp only[];rw[v,E (by have:=dM8 k7;omega),<-dP5];exact T
 rcases dM5 (decide (it.s.kind=8))with k8|k8
 ·simp only[m8,o6,y0,simprocAttr,m,I,z,B,r,A,C,k1,k2,k7,k8,al2,S,Q];refine⟨(j+1,u7),by omega,dO2 _ (B0 j (by omega)),by trivial,by omega,?_,(q.ext n).ext2 d p4⟩;simp only[];rw[v,E (by have:=dM8 k8;omega),<-dP5];exact T
 rcases dM5 (decide (it.s.kind=9))with k9|k9
 ·simp only[m8,o6,y0,simprocAttr,m,I,z,B,r,A,C,k1,k2,k7,k8,k9,al2,S,Q];refine⟨(j+1,u7),by omega,dO2 _ (B0 j (by omega)),by trivial,by omega,?_,(q.ext n).ext2 d p4⟩;simp only[];rw[v,E (by have:=dM8 k9;omega),<-dP5];exact T
 rcases dM5 (decide (it.s.kind=10))with k10|k10
 ·simp only[m8,o6,y0,simprocAttr,m,I,z,B,r,A,C,k1,k2,k7,k8,k9,k10,al2,S,Q];refine⟨(j+1,u7),by omega,dO2 _ (B0 j (by omega)),by trivial,by omega,?_,(q.ext n).ext2 d p4⟩;simp only[];rw[v,E (by have:=dM8 k10;omega),<-dP5];exact T
 simp only[m8,o6,y0,simprocAttr,m,I,z,B,r,A,C,k1,k7,k8,k9,k10];refine⟨(j+1,u),by omega,dO2 _ (B0 j (by omega)),by trivial,by omega,?_,d⟩;simp only[];have aq:W8 it=[]:=by
  unfold W8;rw[if_neg];have:=dN2 k7;have:=dN2 k8;have:=dN2 k9;have:=dN2 k10;omega
 rw[v,aq,dP8];exact q.ext n
end Go.Proofs.YtfadjbljajfkfaaGreat

/- What the functions of the program do, for every input; plain facts. No condition, no statement of its own. Part 3. -/
import Derived.Ground.SlsfProg
import Derived.Shelf.SlGeneric
import Derived.Shelf.SlSortCmp.NoneTotal
import Derived.Shelf.SlSortCmp.WholeK
import Derived.Test.YtggahhenbbgffaaGreatProg
import Derived.Test.YtggahhenbbgffaaGreatZ2
set_option maxRecDepth 1000000
set_option maxHeartbeats 8000000
set_option linter.unusedVariables false
set_option linter.unusedSimpArgs false
set_option linter.unnecessarySimpa false
set_option linter.defProp false
namespace Go.Proofs.YtggahhenbbgffaaGreat
open Go Tryz
def df0(vp vq:Value)(p:Pg)(q:Pr)(n:A9)(w:World)(hp:SV (m8 w) vp p)(hq:SV (m8 w) vq q)(U:B7 p<=1000000)(V:ab0 q<=1000000):
  o9 prog 162 #[vp,vq,p6 n] w λu w'=>(u = .int .i64 (aM0 p q n)/\o6 w w'):=by
 refine p9 [vp,vq,p6 n] func162 rfl ?_;obtain⟨a,w1,N,D,K⟩:=Q4 hp (n7 _);obtain⟨b,w2,O,B,L⟩:=bx6 (hq.mono (b7 D)) (n7 _);obtain⟨vg,_,hg,_,X,_⟩:=K.pg;obtain⟨va,vv,_,_,m,S,_,_,F,_⟩:=L.pr;have l2:=F w2 (n7 _);have J:=m.isS;have R:=m.vlen;have al:=ao9 q.params;have an:=Z7 q.vars;have ag:=Z7 p.globals;unfold ab0 at V;unfold B7 at U;have g:=D.trans B;simp only[n8,n9,simprocAttr,N,O,l2,J,R];refine A6 [2,3,4,10,11] (σ:=Nat) (λk f w'=>f 12 = .int .i64 k/\k<=q.params.length/\(∀j (x:j<q.params.length),j<k->decide (q.params[j].name=n)=false)/\o6 w2 w') (λk=>q.params.length-k) 0 ?_ ?_
 .exact⟨rfl,eg3 _,λj _ h=>by omega,o8.refl _⟩
 .rintro k f G ⟨C,e3,e4,r,H,_⟩ ⟨i,aj,z,d⟩;simp only[n8,n9,simprocAttr,i,H];refine y5 (λy=>?_) ?_
  .have v:=m.inS y;obtain⟨sv,T,l⟩:=F5 (P:=prog) (t:=78) m (b7 d) (ef1 y) bJ1 bJ7 bv6 az8;rw[az8]at l;obtain⟨c,wz,w4,s,A,E,M⟩:=aV7 (T.mono (b7 d)) (n7 _);obtain⟨Y,_⟩:=M.pa;have W:=Y w4 (n7 _);have o:=g.trans (d.trans E);cases hq1:decide (q.params[k].name=n)
   .simp only[n8,n9,y4,simprocAttr,i,C,r,v,l,s,A,W,hq1];refine T4 (k+1) ⟨λj x ah=>?_,d.trans E⟩;rcases ej6 j k with h|h
    .exact z j x h
    .obtain rfl:j=k:=by omega
     exact hq1
   .have e:q.params.find? (λa=>decide (a.name=n))=some q.params[k]:=ep0.2 ⟨hq1,k,y,rfl,λj x=>by rw[z j (by omega) x];rfl⟩;cases hr:q.params[k].ref
    .simp only[n8,n9,y4,simprocAttr,i,C,r,v,l,s,A,W,hq1,hr];exact o7 results162 ⟨by rw[aM0,e];simp only[hr];rfl,o⟩
    .simp only[n8,n9,y4,simprocAttr,i,C,r,v,l,s,A,W,hq1,hr];exact o7 results162 ⟨by rw[aM0,e];simp only[hr];rfl,o⟩
  .rintro rfl;have e:q.params.find? (λa=>decide (a.name=n))=none:=ep4.2 λit Q=>by
    obtain⟨j,x,rfl⟩:=em3.1 Q;rw[z j x x];simp
   have I:aM0 p q n=if q.vars.contains n then 4 else if p.globals.contains n then 1 else 0:=by rw[aM0,e]
   have Z:=X G (b7 (B.trans d));simp only[n8,n9,simprocAttr,C,e4,F G (b7 d)];refine E6 (S1 vv q.vars n G (A3.mono (b7 d) S) (by omega)) ?_;cases h1:q.vars.contains n
   .simp only[n8,n9,simprocAttr,C,e3,Z];refine E6 (S1 vg p.globals n G (A3.mono (b7 (B.trans d)) hg) (by omega)) ?_;cases h2:p.globals.contains n
    .simp only[n8,simprocAttr];exact o7 results162 ⟨by rw[I,h1,h2];rfl,g.trans d⟩
    .simp only[n8,simprocAttr];exact o7 results162 ⟨by rw[I,h1,h2];rfl,g.trans d⟩
   .simp only[n8,simprocAttr];exact o7 results162 ⟨by rw[I,h1];rfl,g.trans d⟩
def bv1(t:St):(L6 t).length<=U1 t:=by
 rw[V7];have a:=ai6 t.x;have b:=Q0 t.args;have c:1<=wtT t.name:=by simp[wtT]
 have d:(if t.kind≠10/\t.name≠e0 then[t.name]else[]).length<=1:=by split<;>simp
 unfold L6;rw[ef4,ef4];omega
def cR2(vp P O Q:Value)(p:Pg)(q:Pr)(d:List A9)(t:St)(w:World)(hp:SV (m8 w) vp p)(hq:SV (m8 w) P q)(hl:R (m8 w) O d)(N:SV (m8 w) Q t)(ae:B7 p<=1000000)(af:ab0 q<=1000000)(I:U1 t<=1000000)(au:d.length<=1000000):
  o9 prog 112 #[vp,P,O,Q] w λu w'=>(u = .bool (ai3 p q d t)/\o6 w w'):=by
 refine p9 [vp,P,O,Q] func112 rfl ?_;obtain⟨a,w1,Y,x,W⟩:=W9 (w:=w) (λ_=>False) hp (λ_ h=>h.elim);obtain⟨b,w2,Z,y,X⟩:=cE2 (w:=w1) (λ_=>False) (hq.mono (b7 x)) (λ_ h=>h.elim);obtain⟨c,w3,aa,z,B⟩:=cE3 (w:=w2) (λ_=>False) (N.mono (b7 (x.trans y))) (λ_ h=>h.elim);obtain⟨ldP,_⟩:=I6.pg_v hp W;obtain⟨ag,_⟩:=I6.pr_v hq X;obtain⟨ah,_⟩:=I6.st_v N B;obtain⟨_,_,_,_,_,_,_,_,_,_,_,aj,_⟩:=I6.st N B;have r:=x.trans (y.trans z);have D:(L6 t).length<=1000000:=ef9 (bv1 t) I;simp only[n8,n9,simprocAttr,Y,Z,aa,ah w3 (A8 _ _)];refine t8 (bv0 Q t w3 (N.mono (b7 r)) I) ?_;rintro u w4 ⟨ho,j⟩;have H:=ho.rw_ (b7 j);have A:=H.isS;have F:=H.vlen;have J:=r.trans j;have L:(L6 t).all (λn=>!decide (aM0 p q n=0))=false->ai3 p q d t=false:=λh=>by rw[ai3,h];rfl
 have s:(L6 t).all (λn=>!decide (aM0 p q n=0))=true->ai3 p q d t=(!decide (t.kind=4)||(!decide (t.proc=L5)&&d.contains t.proc)):=λh=>by rw[ai3,h];rfl
 generalize L6 t=l at H A F D L s;simp only[n8,n9,simprocAttr,A,F];refine A6 [2,4,5,7,12,13] (σ:=Nat) (λk f w'=>f 14 = .int .i64 k/\k<=l.length/\(l.take k).all (λn=>!decide (aM0 p q n=0))=true/\o6 w4 w') (λk=>l.length-k) 0 ?_ ?_
 .exact⟨rfl,eg3 _,by simp,o8.refl _⟩
 .rintro k f M ⟨e2,e4,e5,U,S,T,_⟩ ⟨v,aq,i,g⟩;have e:=J.trans g;simp only[n8,n9,simprocAttr,v,T];refine y5 (λm=>?_) ?_
  .have ab:=H.inS m;have C:=ldS H (b7 g) m;have G:=aS7 (λn=>!decide (aM0 p q n=0)) l k m;have o:=eg2 m;generalize l[k]=n at C G o;have lP:=ldP M (p7 (A8 _ _) (b7 (y.trans (z.trans (j.trans g)))));have lQ:=ag M (p7 (A8 _ _) (b7 (z.trans (j.trans g))));simp only[n8,n9,y4,simprocAttr,v,e4,e5,S,ab,C,lP,lQ];refine B2 (df0 vp P p q n M (hp.mono (b7 e)) (hq.mono (b7 e)) ae af) (λw6 K=>?_);cases hd:decide (aM0 p q n=0)
   .simp only[n8,n9,simprocAttr,v,hd];exact T4 (k+1) ⟨by rw[G,i,hd];rfl,g.trans K⟩
   .simp only[n8,n9,simprocAttr,hd];refine o7 results112 ?_;simp only[B3,simprocAttr];exact⟨by rw[L (aG8 (p:=λn=>!decide (aM0 p q n=0)) o (by simp only[hd];rfl))],e.trans K⟩
  .rintro rfl;rw[eg4]at i;have lt:=aj M (p7 (A8 _ _) (b7 (j.trans g)));have V:=s i;cases h1:decide (t.kind=4)
   .simp only[n8,n9,simprocAttr,U,lt,h1];refine o7 results112 ?_;simp only[B3,simprocAttr];exact⟨by rw[V,h1];rfl,e⟩
   have E:decide (t.proc=ofA #[109,97,105,110])=decide (t.proc=L5):=rfl;cases h2:decide (t.proc=L5)
   .simp only[n8,n9,simprocAttr,e2,U,lt,h1,E,h2];refine E6 (S1 O d t.proc M (A3.mono (b7 e) hl) (by omega)) ?_;simp only[n8,simprocAttr];refine o7 results112 ?_;simp only[B3,simprocAttr];exact⟨by rw[V,h1,h2];rfl,e⟩
   .simp only[n8,n9,simprocAttr,U,lt,h1,E,h2];refine o7 results112 ?_;simp only[B3,simprocAttr];exact⟨by rw[V,h1,h2];rfl,e⟩
def dZ4:ap4 prog 109=true:=by kernel_rfl
def Y7(e:Int×Int):Value:=.agg #[.int .i64 e.1,.int .i64 e.2]
def U4(c:Int):B6 prog 81 [(0,.int .i64 c)]=some (Y7 (c,0)):=by
 simp[B6,dl1,J9,Instr.fill,Value.cells,Y7]
def aD5(c a:Int):B6 prog 81 [(0,.int .i64 c),(1,.int .i64 a)]=some (Y7 (c,a)):=by
 simp[B6,dl1,J9,Instr.fill,Value.cells,Y7]
def aS9:B6 prog 81 []=some (Y7 (0,0)):=by
 simp[B6,dl1,J9,Instr.fill,Y7]
def aD3(w:World):∃a b,(Instr.alloc 81 true (.tuple #[])).run prog w = .ok (.pointer (some ⟨a,0,none⟩)) b/\o6 w b/\b.heap[a]?=some (.cells #[.int .i64 0,.int .i64 0] 81 (0,0))/\w.heap.size<=a:=by
 obtain⟨c,_⟩:=aA5 (P:=prog) (w:=w) (T:=81) dm8 rfl (cs:=#[.int .i64 0,.int .i64 0]) rfl (by simp[Value.oneCell']);exact⟨_,_,c,o6.alloc _ _,ej0 w _,eg6 _⟩
def av7{w0 g j:World}{c:Nat}(h:g.heap[c]?=some (.cells #[.int .i64 0,.int .i64 0] 81 (0,0)))(i:o6 g j)(d:w0.heap.size<=c)(f:o6 w0 g)(e:Int×Int):
  ∃a,(Instr.storeAt 81 (.pointer (some ⟨c,0,none⟩)) (Y7 e)).run prog j = .ok () a/\(Instr.loadAt 81 (.pointer (some ⟨c,0,none⟩))).run prog a = .ok (Y7 e) a/\o6 w0 a:=by
 have k:=(i.block c (ef5.1 h).1 id).trans h;obtain⟨a,m,n,o⟩:=ab4 (P:=prog) (cs:=#[.int .i64 e.1,.int .i64 e.2]) k dm8 rfl rfl (by simp[Value.oneCell']);refine⟨a,m,?_,o8.ext_of (f.trans i) o λb l=>by subst l;exact d⟩;exact Y5 n dC0 dC8 dC2 (by rw[dC6];rfl)
def cw8(n:A9)(a:Addr)(p:Pg)(w:World)(b:At (m8 w) a p)(g:p.globals.length<=1000000):o9 prog 109 #[p6 n,.pointer (some a)] w λu f=>(u = .bool (p.globals.contains n)/\o6 w f):=by
 refine p9 [p6 n,.pointer (some a)] func109 rfl ?_;obtain⟨e,_,c,_,d,_⟩:=b.pg;simp only[n8,n9,simprocAttr,d w (n7 _)];refine E6 (S1 e p.globals n w c (by omega)) ?_;simp only[n8,simprocAttr];exact o7 results109 ⟨rfl,o8.refl _⟩
def al9(v:Value)(p:Pg)(w:World)(hv:SV (m8 w) v p)(hw:B7 p<=1000000):o9 prog 68 #[v] w λu o=>(u=Y7 (P6 p)/\o6 w o):=by
 refine p9 [v] func68 rfl ?_;obtain⟨a,w1,bw,bd,ha⟩:=W9 (w:=w) (λ_=>False) hv (λ_ h=>h.elim);obtain⟨vg,vp,hg,hp,ld,_⟩:=I6.pg hv ha;obtain⟨lw,_⟩:=I6.pg_v hv ha;obtain⟨rb,w2,bv,aF,a2,aW⟩:=aD3 w1;have aU:w.heap.size<=rb:=ef9 bd.size aW;have g:=bd.trans aF;have bu:∀o,o6 w2 o->At (m8 o) a p:=λo h=>by
  obtain⟨cs,e,hc⟩:=ha;obtain⟨bl,W,he⟩:=hv;subst e;obtain rfl:=ah6 W;exact⟨bl,A3.mono (b7 (g.trans h)) he,λj u hj=>I7 (p7 (A8 _ _) (b7 (aF.trans h))) (hc j u hj)⟩
 have C:∀o,o6 w2 o->B8 (C1 w1 λ_=>False) (m8 o):=λo h=>p7 (A8 _ _) (b7 (aF.trans h));have r:=λ(o:World) (h:o6 w2 o)=>av7 a2 h aU g;simp only[n8,n9,simprocAttr,bw,bv,lw w2 (C _ (o8.refl _))];refine B2 (cD0 v p w2 (hv.mono (b7 g)) hw) (λw3 aJ=>?_);cases hmay:M8 p
 .obtain⟨w9,L,M,N⟩:=r w3 aJ (1,0);simp only[n8,n9,simprocAttr,U4,L];refine N9 results68 (by simp only[B3,simprocAttr]) M ?_;exact⟨by rw[P6,hmay];rfl,N⟩
 have l3:=ld w3 (C _ aJ);have aP:=hp.isS;have aZ:=hp.vlen;have bx:p.globals.length<=16/\p.procs.length<=16:=by
  simp only[M8,eh5,ei8]at hmay;exact⟨hmay.1.1.1,hmay.1.1.2⟩
 obtain⟨bW,bX⟩:=bx;simp only[n8,n9,simprocAttr,l3,aP,aZ];refine A6 [1,2,18,19] (σ:=Nat×Value) (λs f o=>f 20 = .int .i64 s.1/\f 3=s.2/\s.1<=p.procs.length/\B0 (m8 w2) o 9 s.2 ((p.procs.take s.1).map (·.name))/\o6 w2 o) (λs=>p.procs.length-s.1) (0,.slice none 0 0) ?_ ?_
 .exact⟨rfl,rfl,eg3 _,by simpa using B0.nil _ _ _,aJ⟩
 rintro⟨k,u⟩ f w4 ⟨e1,W,bm,bn,_⟩ ⟨ax,h3,bB,ho,B⟩;simp only at ax h3 bB ho;simp only[n8,n9,simprocAttr,ax,bn];refine A4 (λhc=>?_) (λhc=>?_)
 .have F:k<p.procs.length:=by simpa using hc
  have E:=hp.inS F;obtain⟨sv,J,ap⟩:=F5 (P:=prog) (t:=75) hp (b7 (g.trans B)) (ef1 F) at8 at9 ar9 Q9;rw[Q9]at ap;have a8:(p.procs.take (k+1)).map (·.name)=(p.procs.take k).map (·.name)++[p.procs[k].name]:=by
   rw[ef8 F,ei4];rfl
  generalize p.procs[k]=y at J a8;obtain⟨b,wz,w5,aQ,a4,ad,aB⟩:=aV8 (J.mono (b7 (g.trans B))) (n7 _);obtain⟨_,_,_,_,_,_,_,_,bL,_⟩:=aB.pr;have l5:=bL w5 (n7 _);have a0:=ho.ext ad;have K:=B.trans ad;obtain⟨p1,u',w6,p2,p3,p4,p5⟩:=push (e:=31) az7 rfl a0 (x:=p6 y.name) (y:=y.name) rfl (by simp;omega) (by simp;omega) (b7 K);simp only[n8,n9,y4,simprocAttr,ax,h3,bm,E,ap,aQ,a4,l5,p1,p2];exact nx4 (k+1,u') ⟨by rw[a8];exact p3,a0.ext2 K p4⟩
 have aV:k=p.procs.length:=by simp at hc;omega
 subst aV;rw[eg4]at ho;have bC:(p.procs.map (·.name)).length=p.procs.length:=eg5 _;have Q:ad6 (λy=>decide (L5=y)) 0 (p.procs.map (·.name))=af8 p.procs L5:=by
  rw[ci7,af8];exact cw5 (λx=>by rw[ek8];exact eq_comm) _ _
 have D:P6 p=if ag3 p.globals||ag3 (p.procs.map (·.name))||decide (af8 p.procs L5<0)||decide (0<(p.procs.getD (af8 p.procs L5).toNat bY8).params.length)then(5,0)
  else(P7 p (d9 p) (p.procs.map (·.name)) 0 p.procs).getD (0,0):=by rw[P6,if_neg (by rw[hmay];simp)]
 have hu:=ho.rw_ (b7 B);generalize p.procs.map (·.name)=d at hu bC Q D;have l4:=ld w4 (C _ B);have a6:(Value.string ⟨#[109,97,105,110]⟩)=p6 L5:=rfl;have bz:∀o,o6 w o->R (m8 o) vg p.globals:=λo h=>A3.mono (b7 h) hg;have bO:=lw w4 (C _ B);simp only[n8,simprocAttr,h3,a6];refine E6 (bz0 u d L5 w4 hu (by omega)) ?_;rw[Q];have S:=aQ3 (λf=>decide (f.name=L5)) p.procs 0
 change 0<=af8 p.procs L5->_ at S
 change 0<=af8 p.procs L5->∃k,af8 p.procs L5=_/\_ at S
 generalize af8 p.procs L5=first at S D
 obtain⟨w9,L,M,N⟩:=r w4 B (5,0);simp only[n8,n9,simprocAttr,e1,l4];refine E6 (bo4 vg p.globals w4 (bz w4 (g.trans B)) (by omega)) ?_;rcases ef2 (ag3 p.globals)with ht1|ht1
 .simp only[n8,simprocAttr,ht1,W,U4,L];refine N9 results68 (by simp only[B3,simprocAttr];exact W) M ?_;exact⟨by rw[D,ht1];rfl,N⟩
 simp only[n8,simprocAttr,ht1,h3];refine E6 (bo4 u d w4 hu (by omega)) ?_;rcases ef2 (ag3 d)with ht2|ht2
 .simp only[n8,simprocAttr,ht2,W,U4,L];refine N9 results68 (by simp only[B3,simprocAttr];exact W) M ?_;exact⟨by rw[D,ht1,ht2];rfl,N⟩
 rcases ef2 (decide (first<0))with ht3|ht3
 .simp only[n8,n9,simprocAttr,ht2,ht3,W,U4,L];refine N9 results68 (by simp only[B3,simprocAttr];exact W) M ?_;exact⟨by rw[D,ht1,ht2,ht3];rfl,N⟩
 obtain⟨k,rfl,q,hq,_⟩:=S (by simpa using ht3);rw[ej1]at D ht3;obtain⟨va,_,_,_,ba,_,_,_,bJ,_⟩:=(hp.at_ hq).pr;have cf:ab0 q<=1000000:=az3 p hw q (eh3 hq);have ce:=ao9 q.params;have lq:=bJ w4 (b7 (g.trans B));have hz:A3.sz Pr=5:=rfl;rw[hz]at lq;have E:=hp.inS (ef6.1 hq).1;have aO:=ba.isS;have aY:=ba.vlen;have a1:(p.procs.getD (Int.toNat (k:Nat)) bY8).params=q.params:=by rw[eh6,List.getD,hq];rfl
 rw[a1]at D;rcases ef2 (decide (0<(q.params.length:Int)))with ht4|ht4
 .simp only[n8,n9,y4,simprocAttr,ht2,ht3,ht4,e1,l4,E,lq,aO,aY,W,U4,L];refine N9 results68 (by simp only[B3,simprocAttr];exact W) M ?_;have aE:decide (0<q.params.length)=true:=by simpa using ht4
  exact⟨by rw[D,ht1,ht2,ht3,aE];rfl,N⟩
 have aE:decide (0<q.params.length)=false:=by simpa using ht4
 have T:P6 p=(P7 p (d9 p) d 0 p.procs).getD (0,0):=by rw[D,ht1,ht2,ht3,aE];rfl
 clear D r L M N;have r:=λ(o:World) (h:o6 w2 o)=>av7 a2 h aU g;simp only[n8,n9,y4,simprocAttr,ht2,ht3,ht4,e1,l4,E,lq,aO,aY,bO];refine t8 (aj1 v p w4 (hv.mono (b7 (g.trans B))) hw) ?_;rintro us w5 ⟨sh,rfl,hsh,ad⟩;have K:=B.trans ad;simp only[n8,n9,simprocAttr,e1,ld w5 (C _ K),aP,aZ];refine A6 [1,2,3,7,57,58] (σ:=Nat) (λk f o=>f 59 = .int .i64 k/\k<=p.procs.length/\P7 p (d9 p) d 0 p.procs=P7 p (d9 p) d k (p.procs.drop k)/\o6 w5 o) (λk=>p.procs.length-k) 0 ?_ ?_
 .simp only[B3,simprocAttr];exact⟨by trivial,eg3 _,by rw[en9],o8.refl _⟩
 rintro i f2 w6 ⟨aw,I,e3,e7,bo,bp,_⟩ ⟨ay,ca,z,aj⟩;rw[e1]at aw;rw[W]at I;rw[h3]at e3;have ab:=K.trans aj;simp only[n8,n9,simprocAttr,ay,bp];refine y5 (λF=>?_) ?_;rotate_left
 .rintro rfl;rw[eo9]at z;obtain⟨w9,L,M,N⟩:=r w6 ab (0,0);simp only[n8,simprocAttr,I,aS9,L];refine N9 results68 (by simp only[B3,simprocAttr];exact I) M ?_;exact⟨by rw[T,z];rfl,N⟩
 have E:=hp.inS F;obtain⟨sv,J,C⟩:=F5 (P:=prog) (t:=75) hp (b7 (g.trans ab)) (ef1 F) at8 at9 ar9 Q9;rw[Q9]at C;have X:p.procs.drop i=p.procs[i]::p.procs.drop (i+1):=ej8 F;obtain⟨x,Y,_⟩:=V2 p hw i F;have ah:=az3 p hw _ (eg2 F);have bc:∀it∈(d9 p).of i,U1 it.s<=1000000:=λit h=>by
  rw[Y.of_]at h;exact am0 p hw it (em8 (er4 h))
 have aX:((d9 p).of i).length<=1000000:=by
  rw[Y.of_,el6,eg0];have:=Y.fit;omega
 generalize p.procs[i]=y at J X ah Y;rw[X,P7]at z;obtain⟨b,wz,w7,aR,a5,ak,aB⟩:=aL4 (w:=w6) (λ_=>False) J (λ_ h=>h.elim);obtain⟨be,_⟩:=I6.pr_v J aB;have ar:=ab.trans ak;simp only[n8,n9,y4,simprocAttr,ay,bo,E,C,aR,a5,be w7 (A8 _ _)];refine t8 (dv5 sv y w7 (J.mono (b7 (g.trans ar))) ah) ?_;rintro uo w8 ⟨bD,V⟩;have a9:=bD.rw_ (b7 V);have ac:=ar.trans V;have cd:(bw7 y).length<=1000000:=by
  have h1:=ao9 y.params;have h2:=Z7 y.vars;unfold ab0 at ah;unfold bw7;rw[ef4,eg5];omega
 simp only[n8,simprocAttr];refine E6 (bo4 uo (bw7 y) w8 a9 (by omega)) ?_;obtain⟨w9,L,M,N⟩:=r w8 ac (5,0);rcases ef2 (ag3 (bw7 y))with ht6|ht6
 .simp only[n8,simprocAttr,ht6,I,U4,L];refine N9 results68 (by simp only[B3,simprocAttr];exact I) M ?_;exact⟨by rw[T,z,ae3,ht6];rfl,N⟩
 clear L M N;simp only[n8,simprocAttr,ht6,aw];refine B2 (bc9 (λn=>p.globals.contains n) 109 #[.pointer (some a)] uo (bw7 y) w8 dZ4 a9 (by omega) (λn o bF _=>cw8 n a p o (bu o (ac.trans bF)) (by omega))) (λw9 ae=>?_);have au:=ac.trans ae;obtain⟨bf,L,M,N⟩:=r w9 au (5,0);rcases ef2 ((bw7 y).any λn=>p.globals.contains n)with ht7|ht7
 .simp only[n8,simprocAttr,ht7,I,U4,L];refine N9 results68 (by simp only[B3,simprocAttr];exact I) M ?_;exact⟨by rw[T,z,ae3,ht6,ht7];rfl,N⟩
 clear L M N;have a3:ae3 p d y ((d9 p).of i)=match((d9 p).of i).find? λit=>!ai3 p y d it.s with
   | some it=>some (5,it.s.id)
   | none=>none:=by rw[ae3,ht6,ht7];rfl
 rw[a3]at z;simp only[n8,simprocAttr,ht7,e7];refine t8 (bi3 sh (d9 p) i x _ w9 (hsh.mono (b7 (aj.trans (ak.trans (V.trans ae))))) Y) ?_;rintro ul bf ⟨Z,U⟩;have aG:=au.trans U;generalize(d9 p).of i=l at Z bc z aX;simp only[n8,n9,simprocAttr,Z.isS,Z.vlen];refine A6 [1,2,3,7,9,57,58,59,76,77] (σ:=Nat) (λm f o=>f 78 = .int .i64 m/\m<=l.length/\(∀j (hj:j<l.length),j<m->ai3 p y d l[j].s=true)/\o6 bf o) (λm=>l.length-m) 0 ?_ ?_
 .exact⟨rfl,eg3 _,λj _ h=>by omega,o8.refl _⟩
 rintro m f3 ct ⟨g1,g2,g3,g7,g9,b3,b4,aM,br,bs,_⟩ ⟨az,cc,aC,A⟩;rw[aw]at g1;rw[I]at g2;rw[e3]at g3;rw[e7]at g7;rw[ay]at aM;have aH:=aG.trans A;simp only[n8,n9,simprocAttr,az,bs];refine y5 (λag=>?_) ?_;rotate_left
 .rintro rfl;have O:l.find? (λit=>!ai3 p y d it.s)=none:=ep4.2 λit bA=>by
   obtain⟨j,hj,rfl⟩:=em3.1 bA;rw[aC j hj hj];simp
  rw[O]at z;simp only[n8,n9,simprocAttr,aM];refine T4 (i+1) ⟨z,?_⟩;exact aj.trans (ak.trans (V.trans (ae.trans (U.trans A))))
 clear E C;have E:=Z.inS ag;obtain⟨cp,a7,ao⟩:=F5 (P:=prog) (t:=150) Z (b7 A) (ef1 ag) aa7 aa9 Z3 J3;rw[J3]at ao;have bb:=bc _ (eg2 ag);obtain⟨c,cw,al,aA,aD,G,aS⟩:=ap8 (a7.mono (b7 A)) (n7 _);obtain⟨an,_,_⟩:=aS.it;obtain⟨vt,bE,bI,_⟩:=an.st_v;obtain⟨_,_,_,_,_,_,_,_,_,bK,_⟩:=an.st;have H:=aH.trans G;have k2:=be al (p7 (A8 _ _) (b7 (V.trans (ae.trans (U.trans (A.trans G))))));simp only[n8,n9,y4,simprocAttr,az,g1,g3,g9,br,E,ao,aA,aD,lw al (C _ H),k2,bI al (n7 _)];refine B2 (cR2 v sv u vt p y d l[m].s al (hv.mono (b7 (g.trans H))) (J.mono (b7 (g.trans H))) (A3.mono (b7 (ad.trans (aj.trans (ak.trans (V.trans (ae.trans (U.trans (A.trans G)))))))) hu) bE hw ah bb (by omega)) (λbg aa=>?_);have aI:=H.trans aa;rcases ef2 (ai3 p y d l[m].s)with hkn|hkn
 .simp only[n8,n9,simprocAttr,hkn,az];refine T4 (m+1) ⟨λj hj cb=>?_,A.trans (G.trans aa)⟩;rcases ej6 j m with h|h
  .exact aC j hj h
  .obtain rfl:j=m:=by omega
   exact hkn
 .obtain⟨cu,L,M,N⟩:=r bg aI (5,l[m].s.id);simp only[n8,n9,simprocAttr,hkn,bK bg (b7 aa),g2,aD5,L];refine N9 results68 (by simp only[B3,simprocAttr];exact g2) M ?_;have O:l.find? (λit=>!ai3 p y d it.s)=some l[m]:=ep0.2 ⟨by rw[hkn];rfl,m,ag,rfl,λj hj=>by rw[aC j (by omega) hj];rfl⟩;rw[O]at z;exact⟨by rw[T,z];rfl,N⟩
theorem au4(e:Int×Int):aZ6 prog 81 0 (Y7 e)=some (.int .i64 e.1):=rfl
def db6:eqT prog 4=1:=by kernel_rfl
def bx5{a b:Bool}:C4 prog .neq 4 (.bool a) (.bool b)=some (.bool !(a==b)):=by
 simp only[C4,db6,em4]
def aY4{α β:Type}(p:α×β->Bool):∀(l:List α) (m:List β) (k:Nat) (c:k<l.length) (d:k<m.length),p (l[k],m[k])=false->(l.zip m).all p=false
 | [],_,_,h,_,_=>by simp at h
 | _::_,[],_,_,h,_=>by simp at h
 | a::l,b::m,0,_,_,h=>by
  have e:p (a,b)=false:=h;simp[e]
 | a::l,b::m,k+1,c,d,h=>by
  have:=aY4 p l m k (by simpa using c) (by simpa using d) h;simp only[List.zip_cons_cons,List.all_cons,this,Bool.and_false]
def bk2{α β:Type}(p:α×β->Bool):∀(l:List α) (m:List β),(∀k (c:k<l.length) (d:k<m.length),p (l[k],m[k])=true)->(l.zip m).all p=true
 | [],_,_=>by simp
 | _::_,[],_=>by simp
 | a::l,b::m,h=>by
  have e:p (a,b)=true:=h 0 (by simp) (by simp);simp only[List.zip_cons_cons,List.all_cons,e,em1];exact bk2 p l m λk c d=>h (k+1) (by simpa using c) (by simpa using d)
def dj0(T S:Value)(l:List Pa)(a:List Ar)(w:World)(D:R (m8 w) T l)(C:R (m8 w) S a)(h1:l.length<=1000000)(h2:a.length<=1000000):
  o9 prog 163 #[T,S] w λu e=>(u = .bool (bH0 l a)/\o6 w e):=by
 refine p9 [T,S] func163 rfl ?_;have q:=D.isS;have z:=D.vlen;have r:=C.isS;have A:=C.vlen;have s:decide ((l.length:Int)=(a.length:Int))=decide (l.length=a.length):=by rw[ek8];omega
 rcases ef2 (decide (l.length=a.length))with hlen|hlen;rotate_left
 .simp only[n8,n9,simprocAttr,q,z,r,A,s,hlen];refine o7 results163 ?_;simp only[B3,simprocAttr];exact⟨by rw[bH0,hlen];rfl,o8.refl _⟩
 have J:l.length=a.length:=ef3 hlen;have V:bH0 l a=(l.zip a).all λx=>x.1.ref==x.2.ref:=by rw[bH0,hlen,em1]
 simp only[n8,n9,simprocAttr,q,z,r,A,s,hlen];refine A6 [1,12,13] (σ:=Nat) (λk f e=>f 14 = .int .i64 k/\k<=l.length/\(∀j (v:j<l.length) (g:j<a.length),j<k->(l[j].ref==a[j].ref)=true)/\o6 w e) (λk=>l.length-k) 0 ?_ ?_
 .exact⟨rfl,eg3 _,λj _ _ h=>by omega,o8.refl _⟩
 .rintro k f w3 ⟨U,E,F,_⟩ ⟨o,Y,B,i⟩;simp only[n8,n9,simprocAttr,o,F];refine y5 (λp=>?_) ?_
  .have b:k<a.length:=by omega
   have I:=D.inS p;obtain⟨sv,L,y⟩:=F5 (P:=prog) (t:=78) D (b7 i) (ef1 p) bJ1 bJ7 bv6 az8;rw[az8]at y;obtain⟨c,wz,n,G,K,M,H⟩:=aV7 (L.mono (b7 i)) (n7 _);obtain⟨_,Q⟩:=H.pa;have d:o6 w n.drew:=i.trans (M.trans (o6.drew n));obtain⟨_,_,O⟩:=(C.at_ (ef1 b)).ar;have W:=Q (λe=>o6 n.drew e) n.drew (o8.refl _) λe h=>b7 ((o6.drew n).trans h);have N:=O (λe=>o6 n.drew e) n.drew (o8.refl _) λe h=>b7 (d.trans h);have Z:A3.sz Ar=6:=rfl;rw[Z]at N;have m:=C.inS b;simp only[n8,n9,y4,simprocAttr,o,E,I,y,G,K];refine B9 (λe=>o6 n.drew e) 8 (A5 [0,1,2,3,4,5,6,7]) ?_;rcases ef2 (l[k].ref==a[k].ref)with hq|hq
   .simp only[D0,A5,n8,n9,y4,simprocAttr,W,N,m,bx5,hq,o,U];refine T4 (k+1) ⟨λj v g X=>?_,d⟩;rcases ej6 j k with h|h
    .exact B j v g h
    .obtain rfl:j=k:=by omega
     exact hq
   .simp only[D0,A5,n8,n9,y4,simprocAttr,W,N,m,bx5,hq,U];refine o7 results163 ?_;simp only[B3,simprocAttr];exact⟨by rw[V,aY4 _ l a k p b hq],d⟩
  .rintro rfl;simp only[n8,simprocAttr];refine o7 results163 ?_;simp only[B3,simprocAttr];exact⟨by rw[V,bk2 _ l a λj v g=>B j v g v],i⟩
def db9(vp vt:Value)(p:Pg)(t:St)(w:World)(hp:SV (m8 w) vp p)(ht:SV (m8 w) vt t)(F:B7 p<=1000000)(W:U1 t<=1000000):
  o9 prog 113 #[vp,vt] w λu w'=>(u = .bool (al4 p t)/\o6 w w'):=by
 refine p9 [vp,vt] func113 rfl ?_;obtain⟨a,w1,y,G,L⟩:=Q4 hp (n7 _);obtain⟨b,w2,z,m,M⟩:=au2 (ht.mono (b7 G)) (n7 _);obtain⟨_,aw,_,l,Y,_⟩:=L.pg;obtain⟨_,ab,_,_,_,D,_,_,_,H,_⟩:=M.st;have g:=G.trans m;have I:=H w2 (n7 _);have aa:=Y w2 (b7 m);have hS:=l.isS;have hn:=l.vlen;rw[V7]at W;have an:=aw7 t.args;have S:=ak3 p.procs;have U:=az3 p F;unfold B7 at F;rcases ef2 (decide (t.kind=4))with hk4|hk4;rotate_left
 .simp only[n8,n9,simprocAttr,y,z,I,hk4];refine o7 results113 ?_;simp only[B3,simprocAttr];exact⟨by rw[al4,hk4];rfl,g⟩
 have hF:al4 p t=match p.procs.find? λf=>decide (f.name=t.proc)with
  | some f=>bH0 f.params t.args
  | none=>false:=by rw[al4,hk4,em1]<;>rfl
 simp only[n8,n9,simprocAttr,y,z,I,aa,hk4,hS,hn];refine D9 [3,11,12] (σ:=Nat) (λk f w'=>f 13 = .int .i64 k/\k<=p.procs.length/\(∀j (r:j<p.procs.length),j<k->decide (p.procs[j].name=t.proc)=false)/\o6 w2 w') (λk=>p.procs.length-k) 0 ?_ ?_
 .simp only[B3,simprocAttr];exact⟨by trivial,eg3 _,λj _ h=>by omega,o8.refl _⟩
 .rintro k f w3 hk ⟨q,ap,v,e⟩;simp only[ei3,B3,simprocAttr]at hk;obtain⟨e3,x,K,_⟩:=hk;simp only[n8,n9,simprocAttr,q,K];refine A4 (λO=>?_) (λO=>?_)
  .have i:k<p.procs.length:=by simpa using O
   have B:=l.inS i;obtain⟨sv,T,s⟩:=F5 (P:=prog) (t:=75) l (b7 (m.trans e)) (ef1 i) at8 at9 ar9 Q9;rw[Q9]at s;obtain⟨c,wz,w4,o,C,n,N⟩:=aV8 (T.mono (b7 (m.trans e))) (n7 _);obtain⟨ac,_,_,_,E,_,_,_,Z,_⟩:=N.pr;have l4:=Z w4 (n7 _);have J:=H w4 (b7 (e.trans n));have A:=g.trans (e.trans n);rcases ef2 (decide (p.procs[k].name=t.proc))with hq|hq
   .have d:p.procs.find? (λf=>decide (f.name=t.proc))=some p.procs[k]:=ep0.2 ⟨hq,k,i,rfl,λj r=>by rw[v j (by omega) r];rfl⟩;have V:=U _ (eg2 i);have au:=ao9 p.procs[k].params;unfold ab0 at V;simp only[n8,n9,y4,simprocAttr,q,e3,x,B,s,o,C,l4,J,hq];refine B2 (dj0 ac ab _ _ w4 E (A3.mono (b7 (e.trans n)) D) (by omega) (by omega)) (λw5 X=>?_);simp only[n8,simprocAttr];refine o7 results113 ?_;simp only[B3,simprocAttr];exact⟨by simp only[hF,d],A.trans X⟩
   .simp only[n8,n9,y4,simprocAttr,q,e3,x,B,s,o,C,l4,J,hq];refine⟨k+1,by omega,eg8 _ (H8 k (by omega)),by omega,λj r ao=>?_,e.trans n⟩;rcases ej6 j k with h|h
    .exact v j r h
    .obtain rfl:j=k:=by omega
     exact hq
  .have Q:k=p.procs.length:=by simp at O;omega
   subst Q;have d:p.procs.find? (λf=>decide (f.name=t.proc))=none:=ep4.2 λit R=>by
    obtain⟨j,r,rfl⟩:=em3.1 R;rw[v j r r];simp
   simp only[n8,simprocAttr];refine o7 results113 ?_;simp only[B3,simprocAttr];exact⟨by simp only[hF,d],g.trans e⟩
def aO4(v:Value)(p:Pg)(w:World)(hv:SV (m8 w) v p)(hw:B7 p<=1000000):o9 prog 69 #[v] w λu r=>(u=Y7 (af2 p)/\o6 w r):=by
 refine p9 [v] func69 rfl ?_;obtain⟨a,w1,af,S,ha⟩:=W9 (w:=w) (λ_=>False) hv (λ_ h=>h.elim);obtain⟨lw,_⟩:=I6.pg_v hv ha;obtain⟨rb,w2,ae,T,aj,N⟩:=aD3 w1;have ag:w.heap.size<=rb:=ef9 S.size N;have d:=S.trans T;have E:∀r,o6 w2 r->B8 (C1 w1 λ_=>False) (m8 r):=λr h=>p7 (A8 _ _) (b7 (T.trans h));have e:=λ(r:World) (h:o6 w2 r)=>av7 aj h ag d;simp only[n8,n9,simprocAttr,af,ae,lw w2 (E _ (o8.refl _))];refine B2 (al9 v p w2 (hv.mono (b7 d)) hw) (λw3 o=>?_);rcases ef2 (decide ((P6 p).1=0))with hsc|hsc;rotate_left
 .obtain⟨w9,Y,Z,s3⟩:=e w3 o (1,0);simp only[n8,n9,simprocAttr,au4,hsc,U4,Y];refine N9 results69 (by simp only[B3,simprocAttr]) Z ?_;exact⟨by rw[af2,if_pos (ef7 hsc)],s3⟩
 have K:af2 p=match(d9 p).l.find? λit=>decide (it.s.kind=4) && !al4 p it.s with
  | some it=>(6,it.s.id)
  | none=>(0,0):=by rw[af2,if_neg (by simpa using hsc)]<;>rfl
 simp only[n8,n9,simprocAttr,au4,hsc,lw w3 (E _ o)];refine t8 (aj1 v p w3 (hv.mono (b7 (d.trans o))) hw) ?_;rintro us w4 ⟨sh,rfl,hsh,hx4⟩;have U:=o.trans hx4;obtain⟨vL,aK,aJ,L,aE,aC,aA,W,_⟩:=hsh.sh;have ao:=W w4 (n7 _);have hS:=L.isS;have hn:=L.vlen;have ak:=aw4 p;have aB:=bW7 p;have R:=am0 p hw;generalize(d9 p).l=l at L hS hn ak R K;simp only[n8,n9,simprocAttr,ao,hS,hn];refine A6 [1,2,14,15] (σ:=Nat) (λm f r=>f 16 = .int .i64 m/\m<=l.length/\(∀j (A:j<l.length),j<m->(decide (l[j].s.kind=4) && !al4 p l[j].s)=false)/\o6 w4 r) (λm=>l.length-m) 0 ?_ ?_
 .exact⟨rfl,eg3 _,λj _ h=>by omega,o8.refl _⟩
 rintro m f3 w5 ⟨g1,g2,J,ad,_⟩ ⟨k,aF,F,q⟩;have C:=U.trans q;simp only[n8,n9,simprocAttr,k,ad];refine y5 (λn=>?_) ?_;rotate_left
 .rintro rfl;have b:l.find? (λit=>decide (it.s.kind=4) && !al4 p it.s)=none:=ep4.2 λit ah=>by
   obtain⟨j,A,rfl⟩:=em3.1 ah;rw[F j A A];simp
  rw[b]at K;obtain⟨w9,Y,Z,s3⟩:=e w5 C (0,0);simp only[n8,simprocAttr,g2,aS9,Y];refine N9 results69 (by simp only[B3,simprocAttr];exact g2) Z ?_;exact⟨by rw[K],s3⟩
 have O:=L.inS n;obtain⟨sv,al,D⟩:=F5 (P:=prog) (t:=150) L (b7 q) (ef1 n) aa7 aa9 Z3 J3;rw[J3]at D;have Q:=R _ (eg2 n);obtain⟨c,aN,I,x,B,V,M⟩:=ap8 (al.mono (b7 q)) (n7 _);obtain⟨y,_,_⟩:=M.it;obtain⟨vt,am,an,_⟩:=y.st_v;obtain⟨_,_,_,_,_,_,_,_,_,X,_⟩:=y.st;have g:=C.trans V;have k1:=lw I (E _ g);have k2:=X I (n7 _);have k3:=an I (n7 _);have z:∀H,o6 I H->(decide (l[m].s.kind=4) && !al4 p l[m].s)=false->∃s:Nat,l.length-s<l.length-m/\(Value.int .i64 (IntKind.i64.wrap ((m:Int)+1))) = .int .i64 s/\s<=l.length/\(∀j (A:j<l.length),j<s->(decide (l[j].s.kind=4) && !al4 p l[j].s)=false)/\o6 w4 H:=λH i G=>by
  refine T4 (m+1) ⟨λj A aD=>?_,q.trans (V.trans i)⟩;rcases ej6 j m with h|h
  .exact F j A h
  .obtain rfl:j=m:=by omega
   exact G
 rcases ef2 (decide (l[m].s.kind=4))with hk4|hk4
 .simp only[n8,n9,y4,simprocAttr,k,g1,J,O,D,x,B,k1,k2,k3,hk4];refine B2 (db9 v vt p l[m].s I (hv.mono (b7 (d.trans g))) am hw Q) (λH i=>?_);rcases ef2 (al4 p l[m].s)with G|G
  .simp only[n8,n9,simprocAttr,G,k];exact z H i (by rw[hk4,G];rfl)
  .obtain⟨w9,Y,Z,s3⟩:=e H (g.trans i) (6,l[m].s.id);simp only[n8,n9,simprocAttr,G,X H (b7 i),g2,aD5,Y];refine N9 results69 (by simp only[B3,simprocAttr];exact g2) Z ?_;have b:l.find? (λit=>decide (it.s.kind=4) && !al4 p it.s)=some l[m]:=ep0.2 ⟨by rw[hk4,G];rfl,m,n,rfl,λj A=>by rw[F j (by omega) A];rfl⟩;rw[b]at K;exact⟨by rw[K],s3⟩
 .simp only[n8,n9,y4,simprocAttr,k,J,O,D,x,B,k2,hk4];exact z I (o8.refl _) (by rw[hk4];rfl)
mutual
def cP1:∀(t:St) (k:Nat) (a d c b:Int),∀it∈W0 t k a d c b,it.proc=a
 | .mk id kind labels name proc x has args thn els,k,a,d,c,b,it,h=>by
  rw[P3]at h;rcases eh0.1 h with rfl|h
  .rfl
  .rcases eg1.1 h with h|h
   .exact aH9 thn _ _ _ _ _ it h
   .exact aH9 els _ _ _ _ _ it h
def aH9:∀(l:List St) (k:Nat) (a d c b:Int),∀it∈C8 l k a d c b,it.proc=a
 | [],_,_,_,_,_,it,h=>by simp[C8]at h
 | t::l,k,a,d,c,b,it,h=>by
  rw[C8]at h;rcases eg1.1 h with h|h
  .exact cP1 t _ _ _ _ _ it h
  .exact aH9 l _ _ _ _ _ it h
end
def au6(p:Pg)(hw:B7 p<=1000000)(i:Nat)(a:i<p.procs.length):∀it∈(d9 p).of i,it.proc=(i:Int):=λit h=>by
 obtain⟨x,_,e⟩:=V2 p hw i a;rw[e]at h;exact aH9 _ _ _ _ _ _ it h
def cx0(v:Value)(p:Pg)(w:World)(hv:SV (m8 w) v p)(hw:B7 p<=1000000):o9 prog 114 #[v] w λu d=>((if(P6 p).1=0 then ∃a,u = .pointer (some a)/\At (m8 d) a (d9 p)else u = .pointer none)/\o6 w d):=by
 refine p9 [v] func114 rfl ?_;obtain⟨a,f,g,b,k⟩:=W9 (w:=w) (λ_=>False) hv (λ_ h=>h.elim);obtain⟨i,_⟩:=I6.pg_v hv k;have e:∀d,o6 f d->B8 (C1 f λ_=>False) (m8 d):=λd h=>p7 (A8 _ _) (b7 h);simp only[n8,n9,simprocAttr,g,i f (e _ (o8.refl _))];refine B2 (al9 v p f (hv.mono (b7 b)) hw) (λj c=>?_);rcases ef2 (decide ((P6 p).1=0))with hsc|hsc;rotate_left
 .simp only[n8,n9,simprocAttr,au4,hsc];exact o7 results114 ⟨by rw[if_neg (ef7 hsc)];trivial,b.trans c⟩
 simp only[n8,n9,simprocAttr,au4,hsc,i j (e _ c)];refine t8 (aj1 v p j (hv.mono (b7 (b.trans c))) hw) ?_;rintro us w4 ⟨sh,rfl,hsh,hx4⟩;simp only[n8,simprocAttr];exact o7 results114 ⟨by rw[if_pos (ef3 hsc)];exact⟨sh,rfl,hsh⟩,b.trans (c.trans hx4)⟩
def bP9(v G:Value)(a l:List A9)(h:Hp)(w:World)(H:B0 h w 9 v a)(B:R h G l)(M:B8 h (m8 w))(U:a.length+l.length<=1000000):
  o9 prog 115 #[v,G] w λu A=>((∃C I,u = .tuple #[C,.bool I]/\I=(ay1 a l).isSome/\∀s,ay1 a l=some s->B0 h A 9 C s/\s.length=a.length+l.length)/\o8 (A0 v) w A):=by
 refine p9 [v,G] func115 rfl ?_;simp only[n8,n9,simprocAttr,B.isS,B.vlen];refine A6 [8,9] (σ:=Nat×Value×List A9) (λs f A=>f 10 = .int .i64 s.1/\f 0=s.2.1/\s.1<=l.length/\B0 h A 9 s.2.1 s.2.2/\ay1 a l=ay1 s.2.2 (l.drop s.1)/\s.2.2.length=a.length+s.1/\o8 (A0 v) w A/\E9 w v s.2.1) (λs=>l.length-s.1) (0,v,a) ?_ ?_
 .simp only[B3,simprocAttr];exact⟨by trivial,by trivial,eg3 _,H,by rw[en9],rfl,o8.refl _,λb r=>.inl r⟩
 rintro⟨k,u,s⟩ f J ⟨K,L,_⟩ ⟨i,t,F,j,g,m,c,q⟩;simp only at i t F j g m q;have o:B8 h (m8 J):=H2 M c λb r=>H.free r;simp only[n8,n9,simprocAttr,i,L];refine y5 (λp=>?_) ?_;rotate_left
 .rintro rfl;rw[eo9,ay1]at g;simp only[n8,simprocAttr,t];refine W7 results115 ?_;simp only[B3,simprocAttr];refine⟨⟨u,true,rfl,by rw[g];rfl,λT d=>?_⟩,c⟩;rw[g]at d;obtain rfl:=eh1 d;exact⟨j,m⟩
 have E:=B.inS p;have z:=ldS B o p;rw[ej8 p,ay1]at g;generalize l[k]=n at z g;simp only[n8,n9,y4,simprocAttr,i,t,K,E,z];refine E6 (S1 u s n J (j.rw_ o) (by omega)) ?_;rcases ef2 (s.contains n)with hq|hq
 .simp only[n8,simprocAttr,hq,t];refine W7 results115 ?_;simp only[B3,simprocAttr];refine⟨⟨u,false,rfl,by rw[g,if_pos hq];rfl,λT d=>?_⟩,c⟩;rw[g,if_pos hq]at d;cases d
 .obtain⟨N,C,V,O,P,Q,S⟩:=push (e:=31) az7 rfl j (x:=p6 n) (y:=n) rfl (by omega) (by omega) o;rw[if_neg (by rw[hq];simp)]at g;simp only[n8,n9,simprocAttr,hq,t,i,N,O];refine nx4 (k+1,C,s++[n]) ⟨P,g,by simp only[ef4,ei6];omega,c.chain Q λb r D=>?_,λb r=>?_⟩
  .rcases q b D with h|h
   .exact h
   .omega
  .rcases S b r with h|h
   .exact q b h
   .exact .inr (ef9 c.size h)
def cR5(a:Addr)(e:Value)(s:Sh)(it:It)(i x y:Nat)(w:World)(C:At (m8 w) a s)(q:SV (m8 w) e it)(k:it.proc=(i:Int))(r:bK7 s i x y)(p:i<s.p.procs.length)(v:∀it∈s.l,U1 it.s<=1000000)(t:∀f∈s.p.procs,ab0 f<=1000000):
  o9 prog 116 #[.pointer (some a),e] w λu D=>(u = .bool (ay3 s it)/\o6 w D):=by
 refine p9 [.pointer (some a),e] func116 rfl ?_;obtain⟨b,B,d,c,o⟩:=cD8 q (n7 _);obtain⟨j,z,_⟩:=o.it;obtain⟨_,_,_,_,_,_,_,_,_,A,_⟩:=j.st;have m:=z B (n7 _);have n:=A B (n7 _);rw[k]at m;rcases ef2 (decide (it.s.kind=7))with h7|h7
 .simp only[n8,n9,simprocAttr,d,m,n,h7];refine o7 results116 ?_;simp only[B3,simprocAttr];exact⟨by rw[ay3,if_pos (.inl (ef3 h7))],c⟩
 rcases ef2 (decide (it.s.kind=8))with h8|h8
 .simp only[n8,n9,simprocAttr,d,m,n,h7,h8];refine o7 results116 ?_;simp only[B3,simprocAttr];exact⟨by rw[ay3,if_pos (.inr (ef3 h8))],c⟩
 have g:ay3 s it=if it.s.kind=10 then(s.at it.proc it.s.name).isSome else true:=by
  rw[ay3,if_neg];rintro(h|h)
  .exact ef7 h7 h
  .exact ef7 h8 h
 rcases ef2 (decide (it.s.kind=10))with h10|h10
 .simp only[n8,n9,simprocAttr,d,m,n,h7,h8,h10];refine B2 (cn7 a s i x y it.s.name B (C.mono (b7 c)) r p v t) (λE l=>?_);rw[if_pos (ef3 h10),k]at g;cases hq:s.at i it.s.name
  .simp only[n8,simprocAttr,cl5];refine o7 results116 ?_;simp only[B3,simprocAttr];exact⟨by rw[g,hq];rfl,c.trans l⟩
  .simp only[n8,simprocAttr,cl5];refine o7 results116 ?_;simp only[B3,simprocAttr];exact⟨by rw[g,hq];rfl,c.trans l⟩
 .rw[if_neg (ef7 h10)]at g;simp only[n8,n9,simprocAttr,d,n,h7,h8,h10];refine o7 results116 ?_;simp only[B3,simprocAttr];exact⟨by rw[g],c⟩
def db7:eqT prog 116=2:=by kernel_rfl
def bt6(p:Pg)(hw:B7 p<=1000000)(i:Nat)(b:i<p.procs.length):(∀it∈(d9 p).of i,it∈(d9 p).l)/\((d9 p).of i).length<=400000:=by
 obtain⟨x,a,_⟩:=V2 p hw i b;have c:=aw4 p;have d:=bW7 p;refine⟨λit h=>?_,?_⟩
 .rw[a.of_]at h;exact em8 (er4 h)
 .rw[a.of_,el6,eg0];omega
def aQ7(l:List It):Nat:=(l.map λit=>it.s.labels.length).sum
def cj7(l m:List It):aQ7 (l++m)=aQ7 l+aQ7 m:=by simp[aQ7]
def bQ1(x:It)(m:List It):aQ7 (x::m)=x.s.labels.length+aQ7 m:=by simp[aQ7]
mutual
def du1:∀(t:St) (k:Nat) (c g f e:Int),aQ7 (W0 t k c g f e)<=U1 t
 | .mk id kind labels name proc x has args thn els,k,c,g,f,e=>by
  rw[P3,bQ1,cj7,U1];have h:=Z7 labels;simp only[St.labels,St.thn,St.els];refine ef9 (Nat.add_le_add_left (Nat.add_le_add ((λd b a=>bf4 thn d c (k+1) b a) _ _ _) ((λd b a=>bf4 els d c (k+1) b a) _ _ _)) _) ?_;omega
def bf4:∀(l:List St) (k:Nat) (c d b a:Int),aQ7 (C8 l k c d b a)<=J4 l
 | [],_,_,_,_,_=>by simp[C8,aQ7]
 | t::l,k,c,d,b,a=>by
  rw[C8,cj7,J4];exact Nat.add_le_add (du1 t _ _ _ _ _) (bf4 l _ _ _ _ _)
end
def du7(p:Pg)(hw:B7 p<=1000000)(i:Nat)(a:i<p.procs.length):aQ7 ((d9 p).of i)+p.procs[i].fin.length<=1000000:=by
 obtain⟨x,_,e⟩:=V2 p hw i a;have c:=bf4 p.procs[i].body x i 0 (-1) 0;have b:=az3 p hw _ (eg2 a);have d:=Z7 p.procs[i].fin;unfold ab0 at b;rw[e];omega
def cR4{l:List It}{m:Nat}(h:m<l.length):aQ7 (l.drop m)=l[m].s.labels.length+aQ7 (l.drop (m+1)):=by
 rw[ej8 h,bQ1]
def bL9(v:Value)(p:Pg)(w:World)(hv:SV (m8 w) v p)(hw:B7 p<=1000000):o9 prog 70 #[v] w λu L=>(u=Y7 (aL9 p)/\o6 w L):=by
 refine p9 [v] func70 rfl ?_;obtain⟨a,w1,a3,aO,ha⟩:=W9 (w:=w) (λ_=>False) hv (λ_ h=>h.elim);obtain⟨vg,vp,hg,hp,ld,_⟩:=I6.pg hv ha;obtain⟨lw,_⟩:=I6.pg_v hv ha;obtain⟨rb,w2,a1,aP,a7,az⟩:=aD3 w1;have a5:w.heap.size<=rb:=ef9 aO.size az;have F:=aO.trans aP;have aB:∀L,o6 w2 L->B8 (C1 w1 λ_=>False) (m8 L):=λL h=>p7 (A8 _ _) (b7 (aP.trans h));have z:=λ(L:World) (h:o6 w2 L)=>av7 a7 h a5 F;simp only[n8,n9,simprocAttr,a3,a1,lw w2 (aB _ (o8.refl _))];refine t8 (cx0 v p w2 (hv.mono (b7 F)) hw) ?_;rintro us w3 ⟨I,hx3⟩;rcases ef2 (decide ((P6 p).1=0))with hsc|hsc;rotate_left
 .rw[if_neg (ef7 hsc)]at I;subst I;obtain⟨w9,Z,s2,s3⟩:=z w3 hx3 (1,0);simp only[n8,n9,simprocAttr,aO5 rfl db7,U4,Z];refine N9 results70 (by simp only[B3,simprocAttr]) s2 ?_;exact⟨by rw[aL9,if_pos (ef7 hsc)],s3⟩
 rw[if_pos (ef3 hsc)]at I;obtain⟨sh,rfl,aJ⟩:=I;have hF:aL9 p=(U6 (d9 p) 0 p.procs).getD (0,0):=by rw[aL9,if_neg (by simpa using hsc)]
 have l3:=ld w3 (aB _ hx3);have hS:=hp.isS;have hn:=hp.vlen;have aG:=K5 p;have a9:=am0 p hw;have aN:=az3 p hw;have bz:p.procs.length<=1000000:=by
  have:=ak3 p.procs;unfold B7 at hw;omega
 simp only[n8,n9,simprocAttr,aO5 rfl db7,l3,hS,hn];refine A6 [1,2,3,16,17] (σ:=Nat) (λk f L=>f 18 = .int .i64 k/\k<=p.procs.length/\U6 (d9 p) 0 p.procs=U6 (d9 p) k (p.procs.drop k)/\o6 w3 L) (λk=>p.procs.length-k) 0 ?_ ?_
 .simp only[B3,simprocAttr];exact⟨by trivial,eg3 _,by rw[en9],o8.refl _⟩
 rintro i f2 w6 ⟨e1,e2,e3,aV,aW,_⟩ ⟨ah,bv,j,X⟩;have H:=hx3.trans X;simp only[n8,n9,simprocAttr,ah,aW];refine y5 (λr=>?_) ?_;rotate_left
 .rintro rfl;rw[eo9]at j;obtain⟨w9,Z,s2,s3⟩:=z w6 H (0,0);simp only[n8,simprocAttr,e2,aS9,Z];refine N9 results70 (by simp only[B3,simprocAttr];exact e2) s2 ?_;exact⟨by rw[hF,j];rfl,s3⟩
 have V:=hp.inS r;obtain⟨sv,aL,al⟩:=F5 (P:=prog) (t:=75) hp (b7 (F.trans H)) (ef1 r) at8 at9 ar9 Q9;rw[Q9]at al;have M:p.procs.drop i=p.procs[i]::p.procs.drop (i+1):=ej8 r;obtain⟨x,an,_⟩:=V2 p hw i r;have ba:=aN _ (eg2 r);obtain⟨aD,aA⟩:=bt6 p hw i r;have aH:=au6 p hw i r;have ak:=du7 p hw i r;generalize p.procs[i]=y at aL M ba an ak;rw[M,U6,ay2]at j;obtain⟨b,wz,w7,ax,aK,Y,a2⟩:=aV8 (aL.mono (b7 (F.trans H))) (n7 _);obtain⟨_,_,_,vf,_,_,_,a8,bc,_⟩:=a2.pr;simp only[n8,n9,y4,simprocAttr,ah,e3,aV,V,al,ax,aK];refine t8 (bi3 sh (d9 p) i x _ w7 (aJ.mono (b7 (X.trans Y))) an) ?_;rintro ul J ⟨O,B⟩;have D:=(H.trans Y).trans B;generalize bx:(d9 p).of i=l at O aD j aA aH ak;simp only[n8,n9,simprocAttr,O.isS,O.vlen];refine A6 [1,2,3,5,16,17,18,25,26] (σ:=Nat×Value×List A9) (λs f L=>f 27 = .int .i64 s.1/\f 6=s.2.1/\s.1<=l.length/\B0 (m8 J) L 9 s.2.1 s.2.2/\aB0 (d9 p) [] l=aB0 (d9 p) s.2.2 (l.drop s.1)/\s.2.2.length+aQ7 (l.drop s.1)=aQ7 l/\o6 J L) (λs=>l.length-s.1) (0,.slice none 0 0,[]) ?_ ?_
 .simp only[B3,simprocAttr];exact⟨by trivial,by trivial,eg3 _,B0.nil _ _ _,by rw[en9],by rw[en9];simp,o8.refl _⟩
 rintro⟨m,u,g⟩ f3 av ⟨g1,g2,g3,g5,bq,br,aw,aY,aZ,_⟩ ⟨U,h6,a6,ho,K,am,q⟩;simp only at U h6 a6 ho K am;rw[e1]at g1;rw[e2]at g2;rw[e3]at g3;rw[ah]at aw;have bb:=D.trans q;simp only[n8,n9,simprocAttr,U,aZ];refine y5 (λN=>?_) ?_;rotate_left
 .rintro rfl;rw[eo9,aB0]at K;rw[K]at j;rw[eo9]at am;have bk:g.length+y.fin.length<=1000000:=by simp[aQ7]at am;unfold aQ7 at ak;omega
  simp only[n8,n9,simprocAttr,h6,g5,bc av (b7 (B.trans q))];refine t8 (bP9 u vf g y.fin (m8 J) av ho (A3.mono (b7 B) a8) (b7 q) (by omega)) ?_;rintro _ S ⟨⟨u2,ok,rfl,d,aI⟩,aC⟩;have e:o6 J S:=ho.ext2 q aC;have aq:=D.trans e;rcases ef2 ok with o|o
  .rw[o]at d;have ao:∃s',ay1 g y.fin=some s':=el1.1 d.symm;obtain⟨s',W⟩:=ao;simp only[W]at j;simp only[n8,n9,simprocAttr,o,aw];refine T4 (i+1) ⟨j,?_⟩;exact X.trans (Y.trans (B.trans e))
  .rw[o]at d;have C:ay1 g y.fin=none:=by
    cases h:ay1 g y.fin
    .rfl
    .rw[h]at d;cases d
   simp only[C]at j;obtain⟨w9,Z,s2,s3⟩:=z S aq (7,0);simp only[n8,n9,simprocAttr,o,g2,U4,Z];refine N9 results70 (by simp only[B3,simprocAttr];exact g2) s2 ?_;exact⟨by rw[hF,j];rfl,s3⟩
 clear V al;have V:=O.inS N;obtain⟨be,A,ad⟩:=F5 (P:=prog) (t:=150) O (b7 q) (ef1 N) aa7 aa9 Z3 J3;rw[J3]at ad;have af:=aH _ (eg2 N);have a4:=cR4 N;rw[ej8 N,aB0]at K;generalize l[m]=it at A af K a4;obtain⟨c,bK,S,aj,ap,Q,ac⟩:=aV9 (w:=av) (A0 u) A (λb hb=>ho.lt hb);obtain⟨ldI,_⟩:=I6.it_v A ac;obtain⟨us,I,ay,_,_⟩:=I6.it A ac;obtain⟨bf,_,_,_,_,aM,_,_,_,_,_,ar,_⟩:=I6.st I ay;have ae:=ho.ext Q;have e:=q.trans Q;simp only[n8,n9,y4,simprocAttr,U,h6,aY,V,ad,aj,ap,ar S (A8 _ _)];refine t8 (bP9 u bf g it.s.labels (m8 J) S ae aM (b7 e) (by omega)) ?_;rintro _ T ⟨⟨u2,ok,rfl,d,aI⟩,E⟩;have n:o6 J T:=ae.ext2 e E;have R:=D.trans n;have k2:=ar T (D8 E);have k3:=ldI T (D8 E);rcases ef2 ok with o|o;rotate_left
 .rw[o]at d;have C:ay1 g it.s.labels=none:=by
   cases h:ay1 g it.s.labels
   .rfl
   .rw[h]at d;cases d
  simp only[C]at K;rw[K]at j;obtain⟨w9,Z,s2,s3⟩:=z T R (7,it.s.id);simp only[n8,n9,simprocAttr,o,k2,g2,aD5,Z];refine N9 results70 (by simp only[B3,simprocAttr];exact g2) s2 ?_;exact⟨by rw[hF,j];rfl,s3⟩
 rw[o]at d;obtain⟨s',W⟩:∃s',ay1 g it.s.labels=some s':=el1.1 d.symm;simp only[W]at K;obtain⟨aF,bj⟩:=aI s' W;simp only[n8,n9,simprocAttr,o,g3,k3];refine B2 (cR5 sh be (d9 p) it i x _ T (aJ.mono (b7 (X.trans (Y.trans (B.trans n))))) (A.mono (b7 n)) af an (by rw[aG];exact r) a9 (by rw[aG];exact aN)) (λaQ G=>?_);have k4:=ar aQ (p7 (D8 E) (b7 G));rcases ef2 (ay3 (d9 p) it)with hle4|hle4
 .rw[if_pos hle4]at K;simp only[n8,n9,simprocAttr,hle4,U];refine nx4 (m+1,u2,s') ⟨aF.ext G,K,by simp only[];omega,n.trans G⟩
 .rw[if_neg (by rw[hle4];simp)]at K;rw[K]at j;obtain⟨w9,Z,s2,s3⟩:=z aQ (R.trans G) (7,it.s.id);simp only[n8,n9,simprocAttr,hle4,k4,g2,aD5,Z];refine N9 results70 (by simp only[B3,simprocAttr];exact g2) s2 ?_;exact⟨by rw[hF,j];rfl,s3⟩
def es0:=@List.nodup_cons
def J6{α:Type}[DecidableEq α]:∀{l m:List α},l.Nodup->(∀x∈l,x∈m)->l.length<=m.length
 | [],m,_,_=>by simp
 | x::l,m,hn,hs=>by
  rw[es0]at hn;have a:=hs x (by simp);have c:=J6 (l:=l) (m:=m.erase x) hn.2 λy b=>(List.mem_erase_of_ne (λe=>hn.1 (by rw[<-e];exact b))).2 (hs y (by simp[b]));rw[List.length_erase_of_mem a]at c;have:=List.length_pos_of_mem a;simp only[ei2];omega
def bH1{p:Pg}{a:List A9}{f:Pr}{l:List It}{e:Int×Int}(h:ae3 p a f l=some e):e.1=5:=by
 unfold ae3 at h;split at h
 .obtain rfl:=eh1 h;rfl
 .split at h
  .obtain rfl:=eh1 h;rfl
  .cases h
def aM3{p:Pg}{s:Sh}{a:List A9}:∀{l:List Pr} {i:Nat} {e:Int×Int},P7 p s a i l=some e->e.1=5
 | [],i,e,h=>by cases h
 | f::l,i,e,h=>by
  rw[P7]at h;split at h
  .next b=>obtain rfl:=eh1 h;exact bH1 b
  .exact aM3 h
def aM4{p:Pg}{s:Sh}{a:List A9}:∀{l:List Pr} {i:Nat},P7 p s a i l=none->∀k (b:k<l.length),ae3 p a l[k] (s.of (i+k:Nat))=none
 | [],i,_,k,b=>by simp at b
 | f::l,i,h,k,b=>by
  rw[P7]at h;split at h
  .cases h
  .next c=>
   cases k with
   | zero=>simpa using c
   | succ k=>
    have:=aM4 h k (by simpa using b);rw[show i+1+k=i+(k+1) by omega]at this;simpa using this
structure Known (p:Pg):Prop where
 may:M8 p=true
 globals:p.globals.Nodup
 names:(p.procs.map (·.name)).Nodup
 main:∃(i:Nat) (q:Pr),p.procs[i]?=some q/\q.name=L5/\q.params=[]
 proc:∀i (hi:i<p.procs.length),(bw7 p.procs[i]).Nodup/\(∀n∈bw7 p.procs[i],n∉p.globals)/\∀it∈(d9 p).of i,ai3 p p.procs[i] (p.procs.map (·.name)) it.s=true
def bE0{p:Pg}(h:(P6 p).1=0):Known p:=by
 unfold P6 at h;cases hmay:M8 p
 .rw[hmay]at h;simp at h
 rw[if_neg (by rw[hmay];simp)]at h;cases hb:(ag3 p.globals||ag3 (p.procs.map (·.name))||decide (af8 p.procs L5<0)||decide (0<(p.procs.getD (af8 p.procs L5).toNat bY8).params.length));rotate_left
 .simp only[hb,em4]at h;simp at h
 simp only[hb]at h;simp only[Bool.or_eq_false_iff]at hb;obtain⟨⟨⟨o,r⟩,s⟩,j⟩:=hb;have c:0<=af8 p.procs L5:=by simpa using s
 obtain⟨k,e,q,l,g⟩:=aQ3 _ p.procs 0 c;have m:af8 p.procs L5=(k:Int):=by unfold af8;rw[e];simp
 rw[m,eh6,List.getD,l]at j;have f:P7 p (d9 p) (p.procs.map (·.name)) 0 p.procs=none:=by
  cases hs:P7 p (d9 p) (p.procs.map (·.name)) 0 p.procs with
  | none=>rfl
  | some e=>
   have:=aM3 hs;simp only[hs]at h;simp at h;omega
 refine⟨hmay,by simpa[ag3]using o,by simpa[ag3]using r,⟨k,q,l,ef3 g,?_⟩,λi w=>?_⟩
 .have:q.params.length=0:=by simpa using j
  exact List.eq_nil_of_length_eq_zero this
 .have b:=aM4 f i w;rw[ej1]at b;unfold ae3 at b;split at b
  .cases b
  .next t=>
   have a:=ep7.2 t;simp only[Bool.or_eq_false_iff]at a;split at b
   .cases b
   .next u=>
    refine⟨by simpa[ag3]using a.1,λn x v=>?_,λit d=>?_⟩
    .have:=List.any_eq_false.1 a.2 n x;exact this (eg7.2 v)
    .have:=ep4.1 u it d;simpa using this
def T3{p:Pg}{n:A9}(h:n∈p.procs.map (·.name)):∃(i:Nat) (l:i<p.procs.length),(d9 p).pr n=(i:Int)/\p.procs[i].name=n:=by
 obtain⟨q,g,rfl⟩:=eh4.1 h;have a:p.procs.any (λf=>decide (f.name=q.name))=true:=es5.2 ⟨q,g,by simp⟩;rw[<-aE3 (λf:Pr=>decide (f.name=q.name)) p.procs 0]at a;obtain⟨k,e,x,j,b⟩:=aQ3 _ p.procs 0 (ef3 a);obtain⟨d,c⟩:=ef6.1 j;refine⟨k,d,?_,by rw[c];exact ef3 b⟩;unfold Sh.pr af8;rw[K5,e,ej1]
def aO6{p:Pg}(K:Known p){m x:A9}(hm:m∈p.procs.map (·.name))(b:x∈ak9 (d9 p) m):x∈p.procs.map (·.name):=by
 obtain⟨i,c,e,_⟩:=T3 hm;unfold ak9 at b;rw[J7,e]at b;obtain⟨it,a,rfl⟩:=eh4.1 b;obtain⟨a,d⟩:=eh8.1 a;have:=(K.proc i c).2.2 it a;unfold ai3 at this;rw[d]at this;simp only[Bool.not_true,er3,eh5]at this;exact eg7.1 this.2.2
def ax2:∀(l a:List A9) (x:A9),x∈U3 a l↔x∈a\/x∈l
 | [],a,x=>by simp[U3]
 | n::l,a,x=>by
  rw[U3,ax2 l];split
  .next h=>
   have:=eg7.1 h;constructor
   .rintro(h|h)
    .exact .inl h
    .exact .inr (by simp[h])
   .rintro(h|h)
    .exact .inl h
    .rcases eh0.1 h with rfl|h
     .exact .inl this
     .exact .inr h
  .simp[or_assoc]
def aG7:∀(l c:List A9),c.Nodup->(U3 c l).Nodup
 | [],c,h=>h
 | n::l,c,h=>by
  rw[U3];refine aG7 l _ ?_;split
  .exact h
  .next f=>
   rw[ek2];refine⟨h,by simp,λa e b d=>?_⟩;simp only[eh2]at d;subst d;rintro rfl;exact f (eg7.2 e)
def G7{α:Type}(g:α->α):Nat->α->α
 | 0,x=>x
 | k+1,x=>G7 g k (g x)
theorem ac7{α:Type}(g:α->α):∀(k:Nat) (x:α),G7 g (k+1) x=g (G7 g k x)
 | 0,x=>rfl
 | k+1,x=>by rw[G7,ac7 g k];rfl
def bP7{α:Type}{g:α->α}{x:α}(h:g x=x):∀k,G7 g k x=x
 | 0=>rfl
 | k+1=>by rw[G7,h,bP7 h k]
def aH6{α:Type}[DecidableEq α]{g:α->α}:∀(k m:Nat) (x:α),k<=m->g (G7 g k x)=G7 g k x->cu8 g m x=G7 g k x
 | 0,0,x,_,_=>rfl
 | 0,m+1,x,_,h=>by
  have a:g x=x:=h;rw[cu8,if_pos a];rfl
 | k+1,0,x,hk,_=>by omega
 | k+1,m+1,x,hk,h=>by
  rw[cu8];split
  .next b=>rw[bP7 b]
  .exact aH6 k m (g x) (by omega) h
abbrev Rws:=List (List A9)
def leR(X Y:Rws):Prop:=∀(i:Nat),∀x∈X.getD i [],x∈Y.getD i []
structure O7 (n B:Nat) (X:Rws):Prop where
 len:X.length=n
 rise:∀r∈X,r.Pairwise λa b=>ltS a b=true
 few:∀r∈X,r.length<=B
structure aL5 (S:Rws->Rws) (n B:Nat):Prop where
 mono:∀X Y,leR X Y->leR (S X) (S Y)
 ok:∀X,O7 n B (S X)
def aF8(X:Rws):Nat:=(X.map (·.length)).sum
def az0{l:List A9}(h:l.Pairwise λa b=>ltS a b=true):l.Nodup:=by
 refine List.Pairwise.imp (fun{a b} hab he=>?_) h;subst he;rw[N1]at hab;cases hab
def di7{l m:List A9}(f:l.Pairwise λa b=>ltS a b=true)(g:m.Pairwise λa b=>ltS a b=true)(h:∀x∈l,x∈m):l.length<=m.length/\(l.length=m.length->l=m):=by
 have c:=az0 f;refine⟨J6 c h,λj=>cn1 f g λx=>⟨h x,λi=>?_⟩⟩;refine eo7 λd=>?_;have:=J6 (l:=x::l) (m:=m) (es0.2 ⟨d,c⟩) λy e=>by
  rcases eh0.1 e with rfl|e
  .exact i
  .exact h y e
 simp at this;omega
def cJ2:∀(X Y:Rws),X.length=Y.length->(∀r∈X,r.Pairwise λa b=>ltS a b=true)->(∀r∈Y,r.Pairwise λa b=>ltS a b=true)->leR X Y->aF8 X<=aF8 Y/\(aF8 X=aF8 Y->X=Y)
 | [],[],_,_,_,_=>by simp[aF8]
 | x::X,y::Y,hl,h1,h2,h=>by
  have f:=cJ2 X Y (by simpa using hl) (λr c=>h1 r (by simp[c])) (λr c=>h2 r (by simp[c])) λi z d=>by
   have:=h (i+1) z;simp only[List.getD_cons_succ]at this;exact this d
  have e:=di7 (h1 x (by simp)) (h2 y (by simp)) λz d=>by
   have:=h 0 z;simp only[List.getD_cons_zero]at this;exact this d
  simp only[aF8,ej9,eq8]at *;refine⟨by omega,λg=>?_⟩;rw[e.2 (by omega),f.2 (by omega)]
def cp1{n B:Nat}:∀(X:Rws),(∀r∈X,r.length<=B)->aF8 X<=X.length*B
 | [],_=>by simp[aF8]
 | x::X,h=>by
  have b:=cp1 (n:=n) X λr a=>h r (by simp[a]);have:=h x (by simp);simp only[aF8,ej9,eq8,ei2,er2]at *;omega
def bG7(n B:Nat):O7 n B (List.replicate n []):=⟨by simp,λr a=>by
 rw[em9 a];exact List.Pairwise.nil,λr a=>by rw[em9 a];simp⟩
section
variable {S:Rws->Rws} {n B:Nat}
def aL5.iter_ok(h:aL5 S n B):∀k,O7 n B (G7 S k (List.replicate n []))
 | 0=>bG7 n B
 | k+1=>by rw[ac7];exact h.ok _
def aL5.grow(h:aL5 S n B):∀k,leR (G7 S k (List.replicate n [])) (S (G7 S k (List.replicate n [])))
 | 0=>λi x a=>by
  rw[G7,List.getD]at a;cases hi:(List.replicate n ([]:List A9))[i]? with
  | none=>rw[hi]at a;simp at a
  | some r=>
   rw[hi]at a;have:=em9 (eh3 hi);subst this;simp at a
 | k+1=>by
  rw[ac7];exact h.mono _ _ (h.grow k)
def aL5.more(h:aL5 S n B)(k:Nat)(c:S (G7 S k (List.replicate n []))≠G7 S k (List.replicate n [])):aF8 (G7 S k (List.replicate n []))<aF8 (G7 S (k+1) (List.replicate n [])):=by
 rw[ac7];have d:=h.iter_ok k;have e:=h.ok (G7 S k (List.replicate n []));obtain⟨a,b⟩:=cJ2 _ _ (by rw[d.len,e.len]) d.rise e.rise (h.grow k);rcases ej6 (aF8 (G7 S k (List.replicate n []))) (aF8 (S (G7 S k (List.replicate n []))))with hlt|hge
 .exact hlt
 .exact absurd (b (by omega)).symm c
def aL5.bound(h:aL5 S n B)(k:Nat):aF8 (G7 S k (List.replicate n []))<=n*B:=by
 have a:=h.iter_ok k;have:=cp1 (n:=n) _ a.few;rw[a.len]at this;exact this
end
def es1:=@List.getElem_range
def ei7:=@List.mem_flatMap
def aR1:∀(n:Nat) (l:List Int),l.length<=n->l.eraseDups.Nodup
 | _,[],_=>by simp
 | 0,x::l,h=>by simp at h
 | n+1,x::l,h=>by
  rw[List.eraseDups_cons,es0];refine⟨λhm=>?_,aR1 n _ (ef9 (eh9 _ _) (by simpa using h))⟩;rw[List.mem_eraseDups,eh8]at hm;simp at hm
def aM1(nx:List (List Int))(l:List Int):List Int:=((l.flatMap (D4 nx)).filter λb=>!l.contains b).eraseDups
def aq8{nx:List (List Int)}{l:List Int}{b:Int}:b∈aM1 nx l↔(∃a∈l,b∈D4 nx a)/\b∉l:=by
 unfold aM1;rw[List.mem_eraseDups,eh8,ei7];simp
def aK9{nx:List (List Int)}{a:Int}:∀(m:Nat) (l:List Int),(∀b∈l,Z5 nx a b)->∀b∈Q6 nx m l,Z5 nx a b
 | 0,l,h,b,hb=>h b hb
 | m+1,l,h,b,hb=>by
  rw[Q6]at hb;refine aK9 m _ (λc e=>?_) b hb;rcases eg1.1 e with e|e
  .exact h c e
  .obtain⟨⟨d,f,e⟩,_⟩:=aq8.1 e;exact .step (h d f) e
def aV3{nx:List (List Int)}:∀(m:Nat) (l:List Int),∀b∈l,b∈Q6 nx m l
 | 0,l,b,hb=>hb
 | m+1,l,b,hb=>by
  rw[Q6];exact aV3 m _ b (ei1 _ hb)
def aY0{n:Nat}{nx:List (List Int)}(o:F3 n nx):∀(m:Nat) (l:List Int),l.Nodup->(∀b∈l,I2 n b=true)->n<=l.length+m->∀a∈Q6 nx m l,∀b∈D4 nx a,b∈Q6 nx m l
 | 0,l,hn,hk,hl,a,ha,b,hb=>by
  rw[Q6]at ha ⊢;refine eo7 λq=>?_;have u:(b::l).Nodup:=es0.2 ⟨q,hn⟩;have v:=J6 (m:=(List.range n).map λ(i:Nat)=>(i:Int)) u λc f=>by
   have p:I2 n c=true:=by
    rcases eh0.1 f with rfl|f
    .exact(o.row _).2 _ hb
    .exact hk c f
   have:=B4.1 p;exact eh4.2 ⟨c.toNat,ej7.2 (by omega),by omega⟩
  simp only[ei2,eg5,ek6]at v;omega
 | m+1,l,hn,hk,hl,a,ha,b,hb=>by
  rw[Q6]at ha ⊢;by_cases he:aM1 nx l=[]
  .have e:l++((l.flatMap (D4 nx)).filter λb=>!l.contains b).eraseDups=l:=by
    show l++aM1 nx l=l;rw[he,ei5]
   rw[e]at ha ⊢;have g:∀c∈l,∀d∈D4 nx c,d∈l:=λc f d j=>eo7 λr=>by
    have:d∈aM1 nx l:=aq8.2 ⟨⟨c,f,j⟩,r⟩;rw[he]at this;simp at this
   have s:∀(k:Nat),Q6 nx k l=l:=by
    intro k
    induction k with
    | zero=>rfl
    | succ k w=>rw[Q6,e,w]
   rw[s]at ha ⊢;exact g a ha b hb
  .have t:0<(aM1 nx l).length:=List.length_pos_iff.2 he;refine aY0 o m (l++aM1 nx l) ?_ (λc f=>?_) (by rw[ef4];omega) a ha b hb
   .rw[ek2];refine⟨hn,aR1 _ _ (eg6 _),λc f d j e=>?_⟩;subst e;exact(aq8.1 j).2 f
   .rcases eg1.1 f with h|h
    .exact hk c h
    .obtain⟨⟨d,_,f⟩,_⟩:=aq8.1 h;exact(o.row _).2 _ f
def aF3{nx:List (List Int)}(f:F3 nx.length nx){a b:Int}(e:I2 nx.length a=true):Y8 nx a b=true↔Z5 nx a b:=by
 unfold Y8;rw[e,em1,eg7];constructor
 .exact λh=>aK9 nx.length [a] (λc d=>by simp at d;subst d;exact .refl) b h
 .intro h
  induction h with
  | refl=>exact aV3 _ _ _ (by simp)
  | step _ d g=>exact aY0 f nx.length [a] (by simp) (λc d=>by simp at d;subst d;exact e) (by simp) _ g _ d
def dv9{nx:List (List Int)}{a b:Int}(f:I2 nx.length a=true):Rch nx [a] b↔Z5 nx a b:=by
 constructor
 .intro h
  induction h with
  | base e g=>simp at e;subst e;exact .refl
  | step _ c d=>exact .step d c
 .intro h
  induction h with
  | refl=>exact .base (by simp) f
  | step _ c d=>exact .step d c
def du4{nx:List (List Int)}(c:F3 nx.length nx)(a:I2 nx.length 0=true){r:List Int}(d:dy9 r (Rch nx [0])):bQ4 nx=(List.range nx.length).map λ(b:Nat)=>r.contains (b:Int):=by
 unfold bQ4;refine List.map_congr_left λb _=>?_;rw[eq7,aF3 c a,<-dv9 a,<-d.mem,eg7]
def dv6{nx:List (List Int)}(d:F3 nx.length nx){q:List Int}(n:q.length=nx.length)(r:∀b,I2 nx.length b=true->aN8 nx b (ai q b)):q=al7 nx:=by
 apply em6
 .simp[al7,n]
 intro k l s;have f:I2 nx.length (k:Int)=true:=B4.2 ⟨by omega,by omega⟩;have c:=r k f;have g:ai q (k:Int)=q[k]:=by
  unfold ai;rw[eh6,List.getD,ef1 l];rfl
 rw[g]at c;refine c.uniq ?_;obtain⟨o,p⟩:=B4.1 (cC5 d c.1.1 f);have e:q[k]=((q[k].toNat:Nat):Int):=by omega
 have i:(al7 nx)[k]=((((List.range nx.length).find? λb=>Y8 nx (k:Nat) (b:Nat)&&Y8 nx (b:Nat) (k:Nat)).getD 0:Nat):Int):=by
  simp only[al7,em7,es1]
 rw[i];have a:(List.range nx.length).find? (λb=>Y8 nx (k:Nat) (b:Nat)&&Y8 nx (b:Nat) (k:Nat))=some q[k].toNat:=by
  rw[ep0];refine⟨?_,q[k].toNat,by simp;omega,by simp,λj t=>?_⟩
  .rw[eh5,aF3 d f,aF3 d (B4.2 ⟨by omega,by omega⟩),<-e];exact c.1
  .have m:j<nx.length:=by omega
   have h:I2 nx.length (j:Int)=true:=B4.2 ⟨by omega,by omega⟩;cases hz:(Y8 nx (k:Nat) ((List.range nx.length)[j]'(by simp;omega):Nat)&&Y8 nx ((List.range nx.length)[j]'(by simp;omega):Nat) (k:Nat))
   .rfl
   .exfalso
    simp only[es1]at hz;rw[eh5,aF3 d f,aF3 d h]at hz;have:=c.2 j hz;omega
 rw[a];simp only[ek4];rw[<-e];exact c
def zVC:=zJ (zJ (zJ (zJ (zJ @dP4 @dP1) (zJ @dN1 (zJ @Option.map_some.{0,0} @Option.map_none.{0,0}))) (zJ (zJ @Int.toNat_zero (zJ @Option.isNone_none.{0} @Option.isNone_some.{0})) (zJ @M4 (zJ @bX4.eq_1 @bX4.eq_2)))) (zJ (zJ (zJ @dq9.eq_1 (zJ @dg0.eq_1 @df7.eq_1)) (zJ @TY (zJ @Option.isSome_some.{0} @em1))) (zJ (zJ @Bool.and_true (zJ @en3 @eh6)) (zJ @ea0 (zJ @Int.cast_ofNat_Int @decide_true))))) (zJ (zJ (zJ (zJ @add_lit (zJ @ej1 @Nat.zero_mul)) (zJ @Nat.one_mul (zJ @Bool.not_true @Bool.not_false))) (zJ (zJ @ea1 (zJ @dO0 @dW1)) (zJ @dW0 (zJ @dV9 @dV8)))) (zJ (zJ (zJ @dV7 (zJ @dW4 @dV5)) (zJ @dW5 (zJ @dM0 @dL9))) (zJ (zJ @dV6 (zJ @dW3 @cD6)) (zJ @dq2 (zJ @dW2 @ec7)))))
def ldB{h:Hp}{v:Value}{l:List Bool}{w:World}(hv:R h v l)(hw:B8 h (m8 w)){k:Nat}(a:k<l.length):(Instr.loadAt 4 (.pointer (some (G9 v k)))).run prog w = .ok (.bool l[k]) w:=
 N7 (P:=prog) (t:=4) hv hw (ef1 a) ah3
def ax4(v:Value)(l:List A9)(w:World)(hv:R (m8 w) v l)(D:l.length<=1000000000):
  o9 prog 174 #[v] w λu s=>(B0 (m8 w) s 9 u l/\o6 w s):=by
 refine p9 [v] func174 rfl ?_;have C:=hv.isS;have r:C4 prog .eql 31 v (.slice none 0 0)=some (.bool (cl2 v)):=by
  obtain⟨a,n,c,b,_⟩:=hv;simp at b;subst b;simp[C4,Go.Proofs.YtggahhenbbgffaaGreat.isS,dT4]
 obtain⟨F,H,i,f,g,y⟩:=dF5 (P:=prog) (w:=w) (h:=m8 w) (α:=A9) az7 (n7 _);obtain⟨G,I,t,p,o,A⟩:=W2 (P:=prog) (e:=31) az7 rfl f hv (by simp;omega) (by simp;omega) (b7 g);rcases ef2 (cl2 v)with hc|hc
 .simp only[n8,n9,simprocAttr,r,hc];refine o7 results174 ?_;simp only[B3,simprocAttr];obtain⟨a,n,c,b,E,z,q,k,j⟩:=hv;simp at b;subst b;cases a with
  | some a=>simp[cl2]at hc
  | none=>
   have d:q=[]:=by
    cases q with
    | nil=>rfl
    | cons x _=>obtain⟨B,e,_⟩:=j 0 x rfl;cases e
   subst d;have:=O5 k;have m:l=[]:=by
    cases l with
    | nil=>rfl
    | cons _ _=>simp[A3.sz]at this
   subst m;exact⟨B0.nil _ _ _,o8.refl _⟩
 .simp only[n8,n9,simprocAttr,r,hc,i,t];refine o7 results174 ?_;simp only[B3,simprocAttr];exact⟨by simpa using p,f.ext2 g o⟩
def bE6{α:Type}:∀{l m:List α},l.length=m.length->(∀j (a:j<l.length) (b:j<m.length),l[j]=m[j])->l=m:=fun{l m} a b=>em6 a λj c d=>b j c d
def bC3(C D:Value)(a b:List A9)(w:World)(B:R (m8 w) C a)(hb:R (m8 w) D b)(F:a.length<=1000000000)(H:b.length<=1000000000):
  o9 prog 122 #[C,D] w λu c=>(u = .bool (decide (a=b))/\o6 w c):=by
 refine p9 [C,D] func122 rfl ?_;have p:=B.isS;have x:=B.vlen;have q:=hb.isS;have y:=hb.vlen;have r:decide ((a.length:Int)=(b.length:Int))=decide (a.length=b.length):=by rw[ek8];omega
 rcases ef2 (decide (a.length=b.length))with hlen|hlen;rotate_left
 .simp only[n8,n9,simprocAttr,p,x,q,y,r,hlen];refine o7 results122 ?_;simp only[B3,simprocAttr];have:a≠b:=λe=>ef7 hlen (eg8 List.length e);exact⟨by simp[this],o8.refl _⟩
 have n:a.length=b.length:=ef3 hlen;simp only[n8,n9,simprocAttr,p,x,q,y,r,hlen];refine A6 [0,1,11,12] (σ:=Nat) (λk f c=>f 13 = .int .i64 k/\k<=a.length/\(∀j (I:j<a.length) (t:j<b.length),j<k->a[j]=b[j])/\o6 w c) (λk=>a.length-k) 0 ?_ ?_
 .exact⟨rfl,eg3 _,λj _ _ h=>by omega,o8.refl _⟩
 rintro k f o ⟨e0,G,M,E,_⟩ ⟨m,P,z,g⟩;simp only[n8,n9,simprocAttr,m,E];refine y5 (λv=>?_) ?_;rotate_left
 .rintro rfl;simp only[n8,simprocAttr];refine o7 results122 ?_;simp only[B3,simprocAttr];have:a=b:=bE6 n λj F H=>z j F H F;exact⟨by simp[this],g⟩
 have l:k<b.length:=by omega
 have s:=B.inS v;have i:=hb.inS l;have A:∀c,o6 o.drew c->B8 (m8 w) (m8 c):=λc h=>b7 (g.trans ((o6.drew o).trans h));have J:∀K f d w0,F7 prog (λc=>o6 o.drew c) (Instr.loadAt 9 (.pointer (some (G9 C k)))) K f d w0=K (C9 f d (p6 a[k])) w0:=λK f d w0=>C0 (w0:=o.drew) (o8.refl _) λc h=>ldS B (A c h) v;have L:∀K f d w0,F7 prog (λc=>o6 o.drew c) (Instr.loadAt 9 (.pointer (some (G9 D k)))) K f d w0=K (C9 f d (p6 b[k])) w0:=λK f d w0=>C0 (w0:=o.drew) (o8.refl _) λc h=>ldS hb (A c h) l;have N:(a[k]==b[k])=decide (a[k]=b[k]):=rfl;simp only[n8,simprocAttr,m];refine B9 (λc=>o6 o.drew c) 9 (A5 [0,1,2,3,4,5,6,7,8]) ?_;rcases ef2 (decide (a[k]=b[k]))with hq|hq
 .simp only[D0,A5,n8,n9,y4,simprocAttr,e0,G,s,i,J,L,hq,m];refine T4 (k+1) ⟨λj I t O=>?_,g.trans (o6.drew _)⟩;rcases ej6 j k with h|h
  .exact z j I t h
  .obtain rfl:j=k:=by omega
   exact ef3 hq
 .simp only[D0,A5,n8,n9,y4,simprocAttr,e0,G,s,i,J,L,hq];refine o7 results122 ?_;simp only[B3,simprocAttr];have:a≠b:=λe=>ef7 hq (by subst e;rfl);exact⟨by simp[this],g.trans (o6.drew _)⟩
def cu0(D E:Value)(a b:List Bool)(w:World)(C:R (m8 w) D a)(hb:R (m8 w) E b)(G:a.length<=1000000000)(I:b.length<=1000000000):
  o9 prog 232 #[D,E] w λu c=>(u = .bool (decide (a=b))/\o6 w c):=by
 refine p9 [D,E] func232 rfl ?_;have p:=C.isS;have y:=C.vlen;have q:=hb.isS;have z:=hb.vlen;have s:decide ((a.length:Int)=(b.length:Int))=decide (a.length=b.length):=by rw[ek8];omega
 rcases ef2 (decide (a.length=b.length))with hlen|hlen;rotate_left
 .simp only[n8,n9,simprocAttr,p,y,q,z,s,hlen];refine o7 results232 ?_;simp only[B3,simprocAttr];have:a≠b:=λe=>ef7 hlen (eg8 List.length e);exact⟨by simp[this],o8.refl _⟩
 have n:a.length=b.length:=ef3 hlen;simp only[n8,n9,simprocAttr,p,y,q,z,s,hlen];refine A6 [0,1,11,12] (σ:=Nat) (λk f c=>f 13 = .int .i64 k/\k<=a.length/\(∀j (J:j<a.length) (v:j<b.length),j<k->a[j]=b[j])/\o6 w c) (λk=>a.length-k) 0 ?_ ?_
 .exact⟨rfl,eg3 _,λj _ _ h=>by omega,o8.refl _⟩
 rintro k f o ⟨e0,H,N,F,_⟩ ⟨m,P,A,g⟩;simp only[n8,n9,simprocAttr,m,F];refine y5 (λx=>?_) ?_;rotate_left
 .rintro rfl;simp only[n8,simprocAttr];refine o7 results232 ?_;simp only[B3,simprocAttr];have:a=b:=bE6 n λj G I=>A j G I G;exact⟨by simp[this],g⟩
 have l:k<b.length:=by omega
 have t:=C.inS x;have i:=hb.inS l;have B:∀c,o6 o.drew c->B8 (m8 w) (m8 c):=λc h=>b7 (g.trans ((o6.drew o).trans h));have L:∀K f d w0,F7 prog (λc=>o6 o.drew c) (Instr.loadAt 4 (.pointer (some (G9 D k)))) K f d w0=K (C9 f d (.bool a[k])) w0:=λK f d w0=>C0 (w0:=o.drew) (o8.refl _) λc h=>ldB C (B c h) x;have M:∀K f d w0,F7 prog (λc=>o6 o.drew c) (Instr.loadAt 4 (.pointer (some (G9 E k)))) K f d w0=K (C9 f d (.bool b[k])) w0:=λK f d w0=>C0 (w0:=o.drew) (o8.refl _) λc h=>ldB hb (B c h) l;have r:(a[k]==b[k])=decide (a[k]=b[k]):=rfl;simp only[n8,simprocAttr,m];refine B9 (λc=>o6 o.drew c) 9 (A5 [0,1,2,3,4,5,6,7,8]) ?_;rcases ef2 (decide (a[k]=b[k]))with hq|hq
 .simp only[D0,A5,n8,n9,y4,simprocAttr,e0,H,t,i,L,M,bx5,r,hq,m];refine T4 (k+1) ⟨λj J v O=>?_,g.trans (o6.drew _)⟩;rcases ej6 j k with h|h
  .exact A j J v h
  .obtain rfl:j=k:=by omega
   exact ef3 hq
 .simp only[D0,A5,n8,n9,y4,simprocAttr,e0,H,t,i,L,M,bx5,r,hq];refine o7 results232 ?_;simp only[B3,simprocAttr];have:a≠b:=λe=>ef7 hq (by subst e;rfl);exact⟨by simp[this],g.trans (o6.drew _)⟩
def bF4(s:A9)(w:World):o9 prog 230 #[p6 s] w λu a=>(u = .bool false/\a=w):=by
 refine p9 [p6 s] func230 rfl ?_;have b:decide (s=s)=true:=by simp
 simp only[n8,n9,simprocAttr];exact o7 results230 ⟨rfl,rfl⟩
def cS6(s:A9)(w:World):o9 prog 263 #[p6 s] w λu a=>(u = .bool false/\a=w):=by
 refine p9 [p6 s] func263 rfl ?_;have b:decide (s=s)=true:=by simp
 simp only[n8,n9,simprocAttr];exact o7 results263 ⟨rfl,rfl⟩
def cR7(a b:A9)(w:World):o9 prog 219 #[p6 a,p6 b] w λu c=>(u = .bool (ltS a b)/\c=w):=by
 refine p9 [p6 a,p6 b] func219 rfl ?_;simp only[n8,n9,simprocAttr];refine E6 (bF4 a w) ?_;simp only[n8,n9,simprocAttr];exact o7 results219 ⟨rfl,rfl⟩
def dr3{n:Nat}(h:n<4000000000000000000):bq9 prog 3 129 (.int .i64 n)=some (.int .u64 n):=by
 have a:dt7 prog 129=some .u64:=by kernel_rfl
 have b:(prog.underlying 3).isSome=true:=by kernel_rfl
 simp only[bq9,a,b,em4]
 congr 2
 have:(n:Int) % 18446744073709551616=n:=by omega
 simp[IntKind.wrap,IntKind.bits,IntKind.signed];omega
def dr4{n:Nat}(h:n<4000000000000000000):bq9 prog 129 3 (.int .u64 n)=some (.int .i64 n):=by
 have a:dt7 prog 3=some .i64:=by kernel_rfl
 have b:(prog.underlying 129).isSome=true:=by kernel_rfl
 simp only[bq9,a,b,em4]
 congr 2
 exact M2 _ (by omega)
def dR0{P:Program}{t:TypeId}{n:Nat}:C4 P .shr t (.int .u64 n) (.int .u64 1)=some (.int .u64 (n / 2:Nat)):=by
 simp only[C4];rw[if_neg (by decide)]
 congr 2
 have:min (Int.toNat 1) IntKind.u64.bits=1:=by decide
 rw[this,Int.fdiv_eq_ediv_of_nonneg _ (by decide)]
 norm_cast
def cn4(v:Value)(l:List A9)(x:A9)(w:World)(hv:R (m8 w) v l)(Q:l.length<=1000000000)(P:l.Pairwise (λa b=>ltS a b=true)):
  o9 prog 236 #[v,p6 x] w λu K=>(∃i:Int,u = .tuple #[.int .i64 i,.bool (l.contains x)]/\K=w):=by
 refine p9 [v,p6 x] func236 rfl ?_;have z:=em0.1 P;simp only[n8,n9,simprocAttr,hv.isS,hv.vlen];refine A6 [0,1,6] (σ:=Nat×Nat) (λs f K=>f 7 = .int .i64 s.1/\f 8 = .int .i64 s.2/\s.1<=s.2/\s.2<=l.length/\(∀j (M:j<l.length),j<s.1->ltS l[j] x=true)/\(∀j (M:j<l.length),s.2<=j->ltS l[j] x=false)/\K=w) (λs=>s.2-s.1) (0,l.length) ?_ ?_
 .exact⟨rfl,rfl,eg3 _,eg6 _,λj _ h=>by omega,λj M h=>by omega,rfl⟩
 rintro⟨i,j⟩ f N ⟨e0,E,F,_⟩ ⟨r,C,G,H,p,t,rfl⟩;simp only at r C G H p t;simp only[n8,n9,simprocAttr,r,C];refine y5 (λc=>?_) ?_
 .have J:IntKind.i64.wrap ((i:Int)+(j:Int))=((i+j:Nat):Int):=by rw[M2 _ (by omega)];omega
  have hm:(i+j) / 2<l.length:=by omega
  have g:=hv.inS hm;have o:=ldS hv (n7 _) hm;have D:=dr3 (n:=i+j) (by omega);have A:=dr4 (n:=(i+j) / 2) (by omega);generalize O:(i+j) / 2=m at hm g o A;have I:C4 prog .shr 129 (.int .u64 ((i+j:Nat):Int)) (.int .u64 1)=some (.int .u64 (m:Nat)):=by rw[dR0,O]
  simp only[n8,zVC,y4,simprocAttr,r,C,J,D,I,A,e0,E,g,o];refine E6 (cR7 l[m] x N) ?_;rcases ef2 (ltS l[m] x)with hq|hq
  .simp only[n8,n9,simprocAttr,hq,C];refine nx5 (m+1,j) ⟨λk q y=>?_,t,by trivial⟩;simp only at y;rcases ej6 k m with h|h
   .exact aw0 (z k m q hm h) hq
   .obtain rfl:k=m:=by omega
    exact hq
  .simp only[n8,simprocAttr,hq,r];refine nx5 (i,m) ⟨p,λk q y=>?_,by trivial⟩;simp only at y;rcases ej6 m k with h|h
   .cases hz:ltS l[k] x
    .rfl
    .have:=aw0 (z m k hm q h) hz;rw[hq]at this;cases this
   .obtain rfl:k=m:=by omega
    exact hq
 .rintro rfl;rcases ef2 (decide ((i:Int)<(l.length:Int)))with c|c
  .have B:i<l.length:=by simpa using c
   have g:=hv.inS B;have o:=ldS hv (n7 _) B;rcases ef2 (decide (l[i]=x))with hq|hq
   .have d:l.contains x=true:=eg7.2 (by rw[<-ef3 hq];exact eg2 B);simp only[n8,n9,y4,simprocAttr,r,e0,E,F,c,g,o,hq];refine W7 results236 ?_;simp only[B3,simprocAttr];exact⟨i,by rw[d],by trivial⟩
   .have d:l.contains x=false:=by
     cases hz:l.contains x
     .rfl
     .obtain⟨k,q,e⟩:=em3.1 (eg7.1 hz);rcases Nat.lt_trichotomy k i with h|h|h
      .have:=p k q h;rw[e,N1]at this;cases this
      .subst h;exact absurd e (ef7 hq)
      .have L:=z i k B q h;rw[e,t i B (eg6 _)]at L;cases L
    simp only[n8,n9,y4,simprocAttr,r,e0,E,F,c,g,o,hq];refine E6 (cS6 l[i] N) ?_;simp only[n8,simprocAttr];refine W7 results236 ?_;simp only[B3,simprocAttr];exact⟨i,by rw[d],by trivial⟩
  .have d:l.contains x=false:=by
    cases hz:l.contains x
    .rfl
    .obtain⟨k,q,e⟩:=em3.1 (eg7.1 hz);have:=p k q (by simp at c;omega);rw[e,N1]at this;cases this
   simp only[n8,n9,simprocAttr,r,F,c];refine W7 results236 ?_;simp only[B3,simprocAttr];exact⟨i,by rw[d],by trivial⟩
def aj8(v:Value)(l:List A9)(x:A9)(w:World)(hv:R (m8 w) v l)(c:l.length<=1000000000)(d:l.Pairwise (λa b=>ltS a b=true)):
  o9 prog 188 #[v,p6 x] w λu e=>(u = .bool (l.contains x)/\e=w):=by
 refine p9 [v,p6 x] func188 rfl ?_;simp only[n8,n9,simprocAttr];refine t8 (cn4 v l x w hv c d) ?_;rintro u f ⟨i,rfl,rfl⟩;simp only[n8,simprocAttr];exact o7 results188 ⟨rfl,rfl⟩
def dZ7:ap4 prog 208=true:=by kernel_rfl
def B0.flatR{α:Type}[M5 α]{h k:Hp}{w:World}{T:TypeId}{v:Value}{xs:List α}(a:B0 h w T v xs)(hb:∀b,A0 v b->k b=w.heap[b]?):R k v xs:=
 (a.down (h:=λ_=>none) (λb o e=>nomatch e)).ro (λb o e=>nomatch e) hb
def ao2{h:Hp}{w:World}{v:Value}{l:List A9}(f:B0 h w 9 v l)(d:l.length<=1000000000):
  o9 prog 125 #[v] w λu a=>(B0 h a 9 v (W8 l)/\o8 (A0 v) w a):=(cU9 f d).mono λe a ⟨b,c⟩=>⟨_,b,c⟩
def cp0(d:Value)(q:Pr)(n:A9)(a:Addr)(w:World)(hv:SV (m8 w) d q)(i:∀c,o6 w c->(Instr.loadAt 9 (.pointer (some a))).run prog c = .ok (p6 n) c):
  o9 prog 208 #[d,.pointer (some a)] w λu c=>(u = .bool (decide (q.name=n))/\o6 w c):=by
 refine p9 [d,.pointer (some a)] func208 rfl ?_;obtain⟨b,f,h,e,g⟩:=bx6 hv (n7 _);obtain⟨_,_,_,_,_,_,_,_,j,_⟩:=g.pr;simp only[n8,n9,simprocAttr,h,j f (n7 _),i f e];exact o7 results208 ⟨rfl,e⟩
def cA9(v:Value)(p:Pg)(n:A9)(w:World)(hv:SV (m8 w) v p)(hw:B7 p<=1000000):o9 prog 165 #[v,p6 n] w λu g=>(u = .bool (aQ6 p n)/\o6 w g):=by
 refine p9 [v,p6 n] func165 rfl ?_;obtain⟨a,z,o,d,A⟩:=W9 (w:=w) (λ_=>False) hv (λ_ h=>h.elim);obtain⟨K,I,J,D,F,_⟩:=I6.pg hv A;obtain⟨G,_⟩:=I6.pg_v hv A;obtain⟨b,B,m,e,i⟩:=dz3 n z;have j:∀g,o6 z g->B8 (C1 z λ_=>False) (m8 g):=λg h=>p7 (A8 _ _) (b7 h);have t:=G B (j _ e);have E:p.procs.length<=1000000:=by
  have:=ak3 p.procs;unfold B7 at hw;omega
 simp only[n8,n9,simprocAttr,o,m,t];refine B2 (al9 v p B (hv.mono (b7 (d.trans e))) hw) (λC l=>?_);have c:=e.trans l;rcases ef2 (decide ((P6 p).1=0))with hsc|hsc
 .simp only[n8,n9,simprocAttr,au4,hsc,F C (j _ c)];refine B2 (bc8 (λf=>decide (f.name=n)) 208 #[.pointer (some b)] I p.procs C dZ7 (A3.mono (b7 (d.trans c)) D) (by omega)
   (λH x g r _ q=>cp0 H x n b g q λy k=>i y (l.trans (r.trans k)))) (λL s=>?_)
  simp only[n8,simprocAttr];refine o7 results165 ?_;simp only[B3,simprocAttr];exact⟨by rw[aQ6,hsc,em1],d.trans (c.trans s)⟩
 .simp only[n8,n9,simprocAttr,au4,hsc];refine o7 results165 ?_;simp only[B3,simprocAttr];exact⟨by rw[aQ6,hsc];rfl,d.trans c⟩
def cN7(a:Addr)(p:Pg)(n:A9)(w:World)(hs:At (m8 w) a (d9 p))(hw:B7 p<=1000000)(hn:n∈p.procs.map (·.name)):
  o9 prog 209 #[.pointer (some a),p6 n] w λu O=>(B0 (m8 w) O 9 u (ak9 (d9 p) n)/\o6 w O):=by
 refine p9 [.pointer (some a),p6 n] func209 rfl ?_;obtain⟨i,Z,I,_⟩:=T3 hn;obtain⟨x,V,_⟩:=V2 p hw i Z;obtain⟨aa,G⟩:=bt6 p hw i Z;have af:(d9 p).p.procs.length<=1000000:=by
  rw[K5];have:=ak3 p.procs;unfold B7 at hw;omega
 simp only[n8,n9,simprocAttr];refine B2 (ai7 a (d9 p) n w hs (by omega)) (λw1 L=>?_);rw[I];simp only[n8,simprocAttr];refine t8 (bi3 a (d9 p) i x _ w1 (hs.mono (b7 L)) V) ?_;rintro ul w2 ⟨d,W⟩;have o:=L.trans W;have Y:ak9 (d9 p) n=I0 (W8 ((((d9 p).of i).filter λit=>decide (it.s.kind=4)).map (·.s.proc))):=by rw[ak9,I];rfl
 generalize(d9 p).of i=l at d G Y;simp only[n8,n9,simprocAttr,d.isS,d.vlen];refine A6 [12,13] (σ:=Nat×Value) (λs f O=>f 14 = .int .i64 s.1/\f 5=s.2/\s.1<=l.length/\B0 (m8 w2) O 9 s.2 (((l.take s.1).filter λit=>decide (it.s.kind=4)).map (·.s.proc))/\o6 w2 O) (λs=>l.length-s.1) (0,.slice none 0 0) ?_ ?_
 .exact⟨rfl,rfl,eg3 _,by simpa using B0.nil _ _ _,o8.refl _⟩
 rintro⟨k,u⟩ f w3 ⟨z,Q,_⟩ ⟨j,A,R,H,m⟩;simp only at j A R H;have E:((l.take k).filter λit=>decide (it.s.kind=4)).length<=k:=ef9 (eh9 _ _) (by rw[eg0];omega);simp only[n8,n9,simprocAttr,j,Q];refine y5 (λr=>?_) ?_;rotate_left
 .rintro rfl;rw[eg4]at H E;simp only[n8,simprocAttr,A];refine t8 (ao2 H (by rw[eg5];omega)) ?_;rintro _ w4 ⟨b,S⟩;simp only[n8,simprocAttr,A];refine t8 (bl6 b (by rw[X8,eg5];omega)) ?_;rintro u5 w5 ⟨U,T,_⟩;have M:=b.ext2 (H.ext2 m S) T;simp only[n8,simprocAttr];exact o7 results209 ⟨by rw[Y];exact U.back o,o.trans M⟩
 have F:=d.inS r;obtain⟨sv,K,q⟩:=F5 (P:=prog) (t:=150) d (b7 m) (ef1 r) aa7 aa9 Z3 J3;rw[J3]at q;have v:((l.take (k+1)).filter λit=>decide (it.s.kind=4)).map (·.s.proc)=((l.take k).filter λit=>decide (it.s.kind=4)).map (·.s.proc)++if l[k].s.kind=4 then[l[k].s.proc]else[]:=by
  rw[ef8 r,el7,ei4]
  congr 1
  by_cases h:l[k].s.kind=4<;>simp[h]
 generalize l[k]=it at K v;obtain⟨c,ao,w4,B,J,N,C⟩:=ap8 (K.mono (b7 m)) (n7 _);obtain⟨D,_,_⟩:=C.it;obtain⟨_,_,_,_,_,_,_,_,_,X,_⟩:=D.st;have l4:=X w4 (n7 _);have b:=H.ext N;have g:=m.trans N;rcases ef2 (decide (it.s.kind=4))with hq|hq
 .obtain⟨p1,u',w5,p2,p3,p4,p5⟩:=push (e:=31) az7 rfl b (x:=p6 it.s.proc) (y:=it.s.proc) rfl (by rw[eg5];omega) (by rw[eg5];omega) (b7 g);simp only[n8,n9,y4,simprocAttr,j,A,z,F,q,B,J,l4,hq,p1,p2];refine nx4 (k+1,u') ⟨?_,b.ext2 g p4⟩;simp only[];rw[v,if_pos (ef3 hq)];exact p3
 .simp only[n8,n9,y4,simprocAttr,j,A,z,F,q,B,J,l4,hq];refine nx4 (k+1,u) ⟨?_,g⟩;simp only[];rw[v,if_neg (ef7 hq),ei5];exact b
def bA7(g:A9->List A9)(m i:Nat)(a:List A9)(h:a.length<=i):R5 g m i a=a:=by
 cases m with
 | zero=>rfl
 | succ m=>rw[R5,eo4 h]
def bO0(g:A9->List A9)(m i:Nat)(a:List A9)(h:i<a.length):R5 g (m+1) i a=R5 g m (i+1) (U3 a (g a[i])):=by
 rw[R5,ef1 h]
def cs8{p:Pg}(hw:B7 p<=1000000){n:A9}(hn:n∈p.procs.map (·.name)):(ak9 (d9 p) n).length<=400000:=by
 obtain⟨i,c,b,_⟩:=T3 hn;obtain⟨_,a⟩:=bt6 p hw i c;unfold ak9;rw[b];refine ef9 (aB6 _) ?_;rw[eg5];exact ef9 (eh9 _ _) a
def dp9(a:Addr)(p:Pg)(n:A9)(w:World)(hs:At (m8 w) a (d9 p))(hw:B7 p<=1000000)(K:Known p)(hn:n∈p.procs.map (·.name)):
  o9 prog 166 #[.pointer (some a),p6 n] w λu O=>(B0 (m8 w) O 9 u (aD2 (d9 p) n)/\o6 w O):=by
 refine p9 [.pointer (some a),p6 n] func166 rfl ?_;have aD:p.procs.length<=1000000:=by
  have:=ak3 p.procs;unfold B7 at hw;omega
 have hF:aD2 (d9 p) n=W8 (R5 (ak9 (d9 p)) (p.procs.length+1) 0 [n]):=by rw[aD2,K5]
 have hg:=λm (hm:m∈p.procs.map (·.name))=>cN7 (p:=p) (n:=m) (a:=a) (hw:=hw) (hn:=hm);have S:=λm x (hm:m∈p.procs.map (·.name)) hx=>aO6 K (m:=m) (x:=x) hm hx;have T:=λm (hm:m∈p.procs.map (·.name))=>cs8 hw hm;have V:(p.procs.map (·.name)).length=p.procs.length:=eg5 _;generalize ak9 (d9 p)=g at hF hg S T;generalize p.procs.map (·.name)=E at hn hg S T V;obtain⟨u1,w1,ae,aq,au,_⟩:=lit (P:=prog) (w:=w) (h:=m8 w) (α:=A9) (xs:=[p6 n]) (ys:=[n]) (parts:=#[(0,p6 n)]) (n:=1) az7 rfl (aE0.2 rfl) (by simp[p6,Value.cells]) rfl rfl (by simp) (by simp) (n7 _);simp only[n8,n9,simprocAttr,ae];refine A6 [0] (σ:=Nat×Value×List A9) (λs f O=>f 6 = .int .i64 s.1/\f 5=s.2.1/\s.1<=s.2.2.length/\B0 (m8 w) O 9 s.2.1 s.2.2/\s.2.2.Nodup/\(∀x∈s.2.2,x∈E)/\R5 g (p.procs.length+1) 0 [n]=R5 g (p.procs.length+1-s.1) s.1 s.2.2/\o6 w O) (λs=>p.procs.length+1-s.1) (0,u1,[n]) ?_ ?_
 .exact⟨rfl,rfl,eg3 _,aq,by simp,by simpa using hn,by simp,au⟩
 rintro⟨i,u,F⟩ f w2 ⟨e0,_⟩ ⟨h6,Y,an,G,U,z,j,L⟩;simp only at h6 Y an G U z j;have aC:F.length<=p.procs.length:=by rw[<-V];exact J6 U z
 simp only[n8,n9,simprocAttr,h6,Y,G.isS,G.vlen];refine y5 (λI=>?_) ?_;rotate_left
 .rintro rfl;rw[bA7 g _ _ _ (eg6 _)]at j;simp only[n8,simprocAttr,Y];refine t8 (ao2 G (by omega)) ?_;rintro _ w4 ⟨r,q⟩;simp only[n8,simprocAttr,Y];exact o7 results166 ⟨by rw[hF,j];exact r,G.ext2 L q⟩
 have ao:=G.inS I;have ad:=ldS (G.rw_ (b7 L)) (n7 _) I;have J:=z _ (eg2 I);rw[show p.procs.length+1-i=(p.procs.length-i)+1 by omega,bO0 g _ _ _ I]at j;generalize F[i]=m at ad J j;simp only[n8,n9,y4,simprocAttr,h6,Y,e0,ao,ad];refine t8 (hg m J w2 (hs.mono (b7 L))) ?_;rintro uc w3 ⟨W,X⟩;have C:R (C1 w3 (A0 u)) uc (g m):=W.flatR λb H=>E4 λQ=>by
  have h1:=G.lt Q;have h2:=D1 (W.free H);omega
 have ag:=L.trans X;have ar:=G.ext X;have ab:=T m J;have aa:=λx=>S m x J;generalize g m=Z at W C ab j aa;simp only[n8,n9,simprocAttr,C.isS,C.vlen];refine A6 [0,6,22,23] (σ:=Nat×Value×List A9) (λs f O=>f 24 = .int .i64 s.1/\f 5=s.2.1/\s.1<=Z.length/\B0 (m8 w) O 9 s.2.1 s.2.2/\s.2.2.Nodup/\(∀x∈s.2.2,x∈E)/\U3 F Z=U3 s.2.2 (Z.drop s.1)/\F.length<=s.2.2.length/\o8 (A0 u) w3 O/\E9 w3 u s.2.1) (λs=>Z.length-s.1) (0,u,F) ?_ ?_
 .simp only[B3,simprocAttr];exact⟨by trivial,Y,eg3 _,G.ext X,U,z,by rw[en9],eg6 _,o8.refl _,λb H=>.inl H⟩
 rintro⟨k,u4,o⟩ f4 w4 ⟨g0,g6,ak,al,_⟩ ⟨A,B,ap,r,l,d,c,af,q,v⟩;simp only at A B ap r l d c af v;have D:=ar.ext2 ag q;have ay:o.length<=p.procs.length:=by rw[<-V];exact J6 l d
 simp only[n8,n9,simprocAttr,A,al];refine y5 (λt=>?_) ?_;rotate_left
 .rintro rfl;rw[eo9,U3]at c;rw[c]at j;simp only[n8,n9,simprocAttr,g6,h6];refine nx2 (i+1,u4,o) ⟨B,by simp only[];omega,r,l,d,?_,D⟩;simp only[];rw[j]
  congr 1
  omega
 have ac:=C.inS t;have N:=ldS C (D8 q) t;rw[ej8 t,U3]at c;have M:=aa _ (eg2 t);generalize Z[k]=y at N c M;simp only[n8,n9,y4,simprocAttr,A,B,ak,ac,N];refine E6 (S1 u4 o y w4 (r.rw_ (b7 D)) (by omega)) ?_;rcases ef2 (o.contains y)with hq|hq
 .rw[if_pos hq]at c;simp only[n8,n9,simprocAttr,hq,A];refine nx2 (k+1,u4,o) ⟨B,by simp only[];omega,r,l,d,c,af,q,v⟩
 .obtain⟨p1,u5,w5,p2,p3,p4,p5⟩:=push (e:=31) az7 rfl r (x:=p6 y) (y:=y) rfl (by omega) (by omega) (b7 D);rw[if_neg (by rw[hq];simp)]at c;simp only[n8,n9,simprocAttr,hq,A,B,p1,p2];refine nx4 (k+1,u5,o++[y]) ⟨p3,?_,?_,c,by simp only[ef4];omega,q.chain p4 λb H Q=>?_,λb H=>?_⟩
  .rw[ek2];refine⟨l,by simp,λa ha b H=>?_⟩;simp only[eh2]at H;subst H;rintro rfl;rw[eg7.2 ha]at hq;cases hq
  .intro x hx;simp only at hx;rcases eg1.1 hx with h|h
   .exact d x h
   .simp only[eh2]at h;subst h;exact M
  .rcases v b Q with h|h
   .exact h
   .omega
  .rcases p5 b H with h|h
   .exact v b h
   .exact .inr (ef9 q.size h)
def P4{α β:Type}(f:α->List β)(B:Nat):∀(l:List α),(∀x∈l,(f x).length<=B)->(l.flatMap f).length<=l.length*B
 | [],_=>by simp
 | x::l,h=>by
  have b:=P4 f B l λy a=>h y (by simp[a]);have c:=h x (by simp);rw[ep2,ef4,ei2,Nat.succ_mul];omega
def cG0{α β:Type}(f:α->List β)(l:List α)(k:Nat):((l.take k).flatMap f).length<=(l.flatMap f).length:=by
 conv=>rhs;rw[<-ej2 k l,eo8,ef4]
 omega
def bo1(g:St->Nat)(l:List It):Nat:=(l.map λit=>g it.s).sum
def co9(g:St->Nat)(l m:List It):bo1 g (l++m)=bo1 g l+bo1 g m:=by simp[bo1]
def bT4(g:St->Nat)(x:It)(m:List It):bo1 g (x::m)=g x.s+bo1 g m:=by simp[bo1]
mutual
def dw6(g:St->Nat)(d:∀t:St,g t+J4 t.thn+J4 t.els<=U1 t):∀(t:St) (k:Nat) (c i h f:Int),bo1 g (W0 t k c i h f)<=U1 t
 | .mk id kind labels name proc x has args thn els,k,c,i,h,f=>by
  rw[P3,bT4,co9];have j:=λe b a=>bj2 g d els e c (k+1) b a;have l:=λe b a=>bj2 g d thn e c (k+1) b a;have m:=d (.mk id kind labels name proc x has args thn els);simp only[St.thn,St.els]at m ⊢;refine ef9 (Nat.add_le_add_left (Nat.add_le_add (l _ _ _) (j _ _ _)) _) ?_;omega
def bj2(g:St->Nat)(a:∀t:St,g t+J4 t.thn+J4 t.els<=U1 t):∀(l:List St) (k:Nat) (d e c b:Int),bo1 g (C8 l k d e c b)<=J4 l
 | [],_,_,_,_,_=>by simp[C8,bo1]
 | t::l,k,d,e,c,b=>by
  rw[C8,co9,J4];exact Nat.add_le_add (dw6 g a t _ _ _ _ _) (bj2 g a l _ _ _ _ _)
end
def du9(g:St->Nat)(c:∀t:St,g t+J4 t.thn+J4 t.els<=U1 t)(p:Pg)(hw:B7 p<=1000000)(i:Nat)(a:i<p.procs.length):bo1 g ((d9 p).of i)<=1000000:=by
 obtain⟨x,_,e⟩:=V2 p hw i a;have d:=bj2 g c p.procs[i].body x i 0 (-1) 0;have b:=az3 p hw _ (eg2 a);unfold ab0 at b;rw[e];omega
def co8(t:St):(L6 t).length+J4 t.thn+J4 t.els<=U1 t:=by
 rw[V7];have a:=ai6 t.x;have b:=Q0 t.args;have c:1<=wtT t.name:=by simp[wtT]
 have d:(if t.kind≠10/\t.name≠e0 then[t.name]else[]).length<=1:=by split<;>simp
 unfold L6;rw[ef4,ef4];omega
def br7(f:It->List A9)(g:St->Nat)(h:∀it,(f it).length<=g it.s):∀l:List It,(l.flatMap f).length<=bo1 g l
 | []=>by simp[bo1]
 | x::l=>by
  have:=br7 f g h l;have:=h x;rw[ep2,ef4,bT4];omega
def aH4{g:A9->List A9}{names:List A9}(b:∀m∈names,∀x∈g m,x∈names):∀(m i:Nat) (a:List A9),a.Nodup->(∀x∈a,x∈names)->(R5 g m i a).Nodup/\∀x∈R5 g m i a,x∈names
 | 0,i,a,h1,h2=>⟨h1,h2⟩
 | m+1,i,a,h1,h2=>by
  rw[R5];split
  .exact⟨h1,h2⟩
  .next n c=>
   refine aH4 b m (i+1) _ (aG7 _ _ h1) λx d=>?_;rcases(ax2 _ _ _).1 d with h|h
   .exact h2 x h
   .exact b n (h2 n (eh3 c)) x h
def cY1{p:Pg}(K:Known p){n:A9}(hn:n∈p.procs.map (·.name)):(aD2 (d9 p) n).length<=p.procs.length/\∀x∈aD2 (d9 p) n,x∈p.procs.map (·.name):=by
 obtain⟨d,b⟩:=aH4 (g:=ak9 (d9 p)) (names:=p.procs.map (·.name)) (λm hm x a=>aO6 K hm a) ((d9 p).p.procs.length+1) 0 [n] (by simp) (by simpa using hn);have c:=J6 d b;rw[eg5]at c;unfold aD2;exact⟨by rw[X8];exact c,λx a=>b x ((W4 _).mem_iff.1 a)⟩
def bZ8{p:Pg}(K:Known p):p.procs.length<=16/\p.globals.length<=16:=by
 have:=K.may;simp only[M8,eh5,ei8]at this;exact⟨this.1.1.2,this.1.1.1⟩
def aF6(h:Hp)(a:Addr)(s:Sh)(i x y:Nat)(w:World)(A:At h a s)(z:B8 h (m8 w))(b:bK7 s i x y):o9 prog 111 #[.pointer (some a),.int .i64 i] w λu c=>(R h u (s.of i)/\o6 w c):=by
 refine p9 [.pointer (some a),.int .i64 i] func111 rfl ?_;obtain⟨E,n,m,l,k,g,v,G,D⟩:=A.sh;have e:∀c,o6 w.drew c->B8 h (m8 c):=λc h=>p7 z (b7 ((o6.drew w).trans h));have B:∀K f d w0,F7 prog (λc=>o6 w.drew c) (Instr.loadAt 3 (.pointer (some (G9 n i)))) K f d w0=K (C9 f d (.int .i64 ((x:Int)+1))) w0:=λK f d w0=>C0 (w0:=w.drew) (o8.refl _) λc h=>ldI k (e c h) b.lo;have C:∀K f d w0,F7 prog (λc=>o6 w.drew c) (Instr.loadAt 3 (.pointer (some (G9 m i)))) K f d w0=K (C9 f d (.int .i64 ((y:Int)+1))) w0:=λK f d w0=>C0 (w0:=w.drew) (o8.refl _) λc h=>ldI g (e c h) b.hi;have B8:=b.le;have j:=b.len;have o:=b.fit;have r:IntKind.i64.wrap ((x:Int)+1-1)=(x:Int):=by rw[M2 _ (by omega)];omega
 have t:IntKind.i64.wrap ((y:Int)+1-1)=(y:Int):=by rw[M2 _ (by omega)];omega
 have F:=l.vcap;have p:decide ((x:Int)<=(y:Int))=true:=by simp;omega
 have q:decide ((y:Int)<=(vcap E:Int))=true:=by simp;omega
 simp only[n8,n9,simprocAttr];refine B9 (λc=>o6 w.drew c) 22 (A5 [0,1,2,3,4,5,6,7,8,9,10,11,12,13,14,15,16,17,18,19,20,21]) ?_;simp only[D0,A5,n8,n9,y4,J0,simprocAttr,D (λc=>o6 w.drew c) w.drew (o8.refl _) e,k.inS (ef6.1 b.lo).1,g.inS (ef6.1 b.hi).1,B,C,r,t,l.isS,p,q];refine o7 results111 ⟨?_,o6.drew w⟩;rw[b.of_];exact ce1 l B8 j
def cd7(v:Value)(p:Pg)(n:A9)(w:World)(hv:SV (m8 w) v p)(hw:B7 p<=1000000):o9 prog 117 #[v,p6 n] w λu G=>(B0 (m8 w) G 9 u (R8 p n)/\o6 w G):=by
 refine p9 [v,p6 n] func117 rfl ?_;obtain⟨a,w1,bb,L,ha⟩:=W9 (w:=w) (λ_=>False) hv (λ_ h=>h.elim);obtain⟨vg,vp,hg,hp,ld,_⟩:=I6.pg hv ha;obtain⟨lw,_⟩:=I6.pg_v hv ha;have av:∀G,o6 w1 G->B8 (C1 w1 λ_=>False) (m8 G):=λG h=>p7 (A8 _ _) (b7 h);simp only[n8,n9,simprocAttr,bb,lw w1 (av _ (o8.refl _))];refine B2 (cA9 v p n w1 (hv.mono (b7 L)) hw) (λw2 ag=>?_);rcases ef2 (aQ6 p n)with hkn|hkn;rotate_left
 .simp only[n8,n9,simprocAttr,hkn];exact o7 results117 ⟨by rw[R8,if_neg (by rw[hkn];simp)];exact B0.nil _ _ _,L.trans ag⟩
 have hF:R8 p n=I0 (W8 ((aD2 (d9 p) n).flatMap λm=>((d9 p).of ((d9 p).pr m)).flatMap λit=>(L6 it.s).filter λv=>p.globals.contains v)):=by rw[R8,if_pos hkn];rfl
 have N:=hkn;rw[aQ6,eh5]at N;have K:=bE0 (ef3 N.1);have hn:n∈p.procs.map (·.name):=by
  obtain⟨q,X,e⟩:=es5.1 N.2;exact eh4.2 ⟨q,X,ef3 e⟩
 simp only[n8,n9,simprocAttr,hkn,lw w2 (av _ ag)];refine t8 (aj1 v p w2 (hv.mono (b7 (L.trans ag))) hw) ?_;rintro us w3 ⟨sh,rfl,hsh,hx3⟩;simp only[n8,simprocAttr];refine t8 (dp9 sh p n w3 hsh hw K hn) ?_;rintro ul w5 ⟨bl,W⟩;have U:=bl.rw_ (b7 W);have J:=(ag.trans hx3).trans W;obtain⟨bf,Q⟩:=cY1 K hn;obtain⟨bA,bx⟩:=bZ8 K;have bm:=K5 p;have bp:=am0 p hw;generalize aD2 (d9 p) n=l1 at U bf Q hF;have hA:∀m∈p.procs.map (·.name),(((d9 p).of ((d9 p).pr m)).flatMap λit=>(L6 it.s).filter λv=>p.globals.contains v).length<=1000000:=λm hm=>by
  obtain⟨i,hi,af,_⟩:=T3 hm;rw[af];refine ef9 (br7 _ (λt=>(L6 t).length) (λit=>eh9 _ _) _) ?_;exact du9 _ co8 p hw i hi
 have a8:=U.isS;have bi:=U.vlen;generalize aE:(λm=>((d9 p).of ((d9 p).pr m)).flatMap λit=>(L6 it.s).filter λv=>p.globals.contains v)=A at hF;have aD:∀m∈p.procs.map (·.name),(A m).length<=1000000:=λm hm=>by rw[<-aE];exact hA m hm
 have aO:(l1.flatMap A).length<=16000000:=by
  refine ef9 (P4 A 1000000 l1 λx hx=>aD x (Q x hx)) ?_;omega
 simp only[n8,n9,simprocAttr,a8,bi];refine A6 [2,5,21,22] (σ:=Nat×Value) (λs f G=>f 23 = .int .i64 s.1/\f 6=s.2/\s.1<=l1.length/\B0 (m8 w5) G 9 s.2 ((l1.take s.1).flatMap A)/\o6 w5 G) (λs=>l1.length-s.1) (0,.slice none 0 0) ?_ ?_
 .exact⟨rfl,rfl,eg3 _,by simpa using B0.nil _ _ _,o8.refl _⟩
 rintro⟨i,u⟩ f w6 ⟨e2,e5,aZ,a0,_⟩ ⟨Z,h6,bc,ho,ah⟩;simp only at Z h6 bc ho;have aM:=ef9 (cG0 A l1 i) aO;simp only[n8,n9,simprocAttr,Z,a0];refine y5 (λac=>?_) ?_;rotate_left
 .rintro rfl;rw[eg4]at ho;simp only[n8,simprocAttr,h6];refine t8 (ao2 ho (by omega)) ?_;rintro _ w7 ⟨aK,bg⟩;simp only[n8,simprocAttr,h6];refine t8 (bl6 aK (by rw[X8];omega)) ?_;rintro u8 w8 ⟨ad,bh,_⟩;have aP:=L.trans (J.trans (aK.ext2 (ho.ext2 ah bg) bh));simp only[n8,simprocAttr];exact o7 results117 ⟨by rw[hF];exact ad.back (L.trans J),aP⟩
 have D:=U.inS ac;have d:=ldS U (b7 ah) ac;have ay:=I9 A l1 ac;have aw:=Q _ (eg2 ac);have aF:=aD _ aw;generalize l1[i]=m at d ay aw aF;obtain⟨q,X,af,_⟩:=T3 aw;obtain⟨x,bk,_⟩:=V2 p hw q X;obtain⟨am,aI⟩:=bt6 p hw q X;have aq:o6 w3 w6:=W.trans ah;simp only[n8,n9,y4,simprocAttr,Z,e5,aZ,D,d];refine B2 (ai7 sh (d9 p) m w6 (hsh.mono (b7 aq)) (by rw[bm];omega)) (λw7 aA=>?_);rw[af];simp only[n8,simprocAttr];refine t8 (aF6 (m8 w3) sh (d9 p) q x _ w7 hsh (b7 (aq.trans aA)) bk) ?_;rintro ui w8 ⟨T,aR⟩;have ab:A m=((d9 p).of q).flatMap λit=>(L6 it.s).filter λv=>p.globals.contains v:=by
  rw[<-aE];simp only[af]
 generalize(d9 p).of q=l at T am aI ab;have a9:=T.isS;have bj:=T.vlen;have ad:=ho.ext (aA.trans aR);have aQ:=ah.trans (aA.trans aR);generalize a4:(λit:It=>(L6 it.s).filter λv=>p.globals.contains v)=B at ab;have a5:(l.flatMap B).length<=1000000:=by rw[<-ab];exact aF
 generalize(l1.take i).flatMap A=pre at ad aM ay;simp only[n8,n9,simprocAttr,a9,bj];refine A6 [2,5,21,22,23,31,32] (σ:=Nat×Value) (λs f G=>f 33 = .int .i64 s.1/\f 6=s.2/\s.1<=l.length/\B0 (m8 w5) G 9 s.2 (pre++(l.take s.1).flatMap B)/\o6 w5 G) (λs=>l.length-s.1) (0,u) ?_ ?_
 .exact⟨rfl,h6,eg3 _,by simpa using ad,aQ⟩
 rintro⟨j,u9⟩ f9 w9 ⟨g2,g5,bJ,bK,a1,a2,a3,_⟩ ⟨aa,ar,bd,ae,aj⟩;simp only at aa ar bd ae;have ax:=ef9 (cG0 B l j) a5;simp only[n8,n9,simprocAttr,aa,a3];refine y5 (λI=>?_) ?_;rotate_left
 .rintro rfl;rw[eg4,<-ab]at ae;simp only[n8,n9,simprocAttr,a1,Z];refine nx2 (i+1,u9) ⟨ar,by omega,?_,aj⟩;simp only[];rw[ay];exact ae
 clear D d;have D:=T.inS I;obtain⟨sv,aN,d⟩:=F5 (P:=prog) (t:=150) T (b7 (W.trans aj)) (ef1 I) aa7 aa9 Z3 J3;rw[J3]at d;have S:=I9 B l I;have V:=bp _ (am _ (eg2 I));generalize l[j]=it at aN S V;obtain⟨c,b6,aU,ba,bn,ao,aG⟩:=ap8 (aN.mono (b7 (W.trans aj))) (n7 _);obtain⟨aH,_,_⟩:=aG.it;obtain⟨vt,bo,bq,_⟩:=aH.st_v;have al:B it=(L6 it.s).filter λv=>p.globals.contains v:=by rw[<-a4]
 simp only[n8,n9,y4,simprocAttr,aa,a2,D,d,ba,bn,bq aU (n7 _)];refine t8 (bv0 vt it.s aU bo V) ?_;rintro uN aB ⟨aL,ap⟩;have an:=ae.ext ao;have C:R (C1 aB (A0 u9)) uN (L6 it.s):=aL.flatR λb hb=>E4 λau=>by
  have h1:=an.lt au;have h2:=D1 (aL.free hb);omega
 have O:=an.ext ap;have az:=aj.trans (ao.trans ap);have a7:=ef9 (bv1 it.s) V;generalize L6 it.s=Y at C al a7;generalize(l.take j).flatMap B=pre2 at O ax S;simp only[n8,n9,simprocAttr,C.isS,C.vlen];refine A6 [2,5,21,22,23,31,32,33,39,40] (σ:=Nat×Value) (λs f G=>f 41 = .int .i64 s.1/\f 6=s.2/\s.1<=Y.length/\B0 (m8 w5) G 9 s.2 (pre++pre2++(Y.take s.1).filter λv=>p.globals.contains v)/\o8 (A0 u9) aB G/\E9 aB u9 s.2) (λs=>Y.length-s.1) (0,u9) ?_ ?_
 .exact⟨rfl,ar,eg3 _,by simpa using O,o8.refl _,λb hb=>.inl hb⟩
 rintro⟨k,aS⟩ bH aV ⟨q2,q5,bW,bX,bY,bZ,b0,br,bs,bt,_⟩ ⟨M,H,be,z,r,g⟩;simp only at M H be z g;have o:=O.ext2 az r;have bw:((Y.take k).filter λv=>p.globals.contains v).length<=k:=ef9 (eh9 _ _) (by rw[eg0];omega);simp only[n8,n9,simprocAttr,M,bt];refine y5 (λE=>?_) ?_;rotate_left
 .rintro rfl;rw[eg4,<-al]at z;simp only[n8,n9,simprocAttr,br,aa];refine nx2 (j+1,aS) ⟨H,by omega,?_,o⟩;simp only[];rw[S,<-ei0];exact z
 clear D d;have D:=C.inS E;have d:=ldS C (D8 r) E;have F:((Y.take (k+1)).filter λv=>p.globals.contains v)=((Y.take k).filter λv=>p.globals.contains v)++if p.globals.contains Y[k]then[Y[k]]else[]:=by
  rw[ef8 E,el7]
  congr 1
  by_cases h:p.globals.contains Y[k]=true<;>simp[List.filter_cons]
 generalize Y[k]=y at d F;simp only[n8,n9,y4,simprocAttr,M,q2,g2,e2,bs,D,d,ld aV (av _ (J.trans o))];refine E6 (S1 vg p.globals y aV (A3.mono (b7 (L.trans (J.trans o))) hg) (by omega)) ?_;rcases ef2 (p.globals.contains y)with X|X
 .obtain⟨p1,bu,b4,p2,p3,p4,p5⟩:=push (e:=31) az7 rfl z (x:=p6 y) (y:=y) rfl (by simp only[ef4];omega) (by simp only[ef4];omega) (b7 o);simp only[n8,n9,simprocAttr,X,M,H,p1,p2];refine nx4 (k+1,bu) ⟨?_,r.chain p4 λb hb au=>?_,λb hb=>?_⟩
  .simp only[];rw[F,if_pos X,<-ei0];exact p3
  .rcases g b au with h|h
   .exact h
   .omega
  .rcases p5 b hb with h|h
   .exact g b h
   .exact .inr (ef9 r.size h)
 .simp only[n8,n9,simprocAttr,X,M];refine nx2 (k+1,aS) ⟨H,by omega,?_,r,g⟩;simp only[];rw[F,if_neg (by rw[X];simp),ei5];exact z
def eq5:=@Decidable.byContradiction
def cH2:prog.underlying 183=some (.map 9 31):=by kernel_rfl
def cJ7:prog.underlying 9=some .string:=by kernel_rfl
def cz7(V H:Value)(t:St)(l:List A9)(w:World)(ht:SV (m8 w) V t)(hl:R (m8 w) H l)(S:U1 t<=1000000)(ae:l.length<=1000000000):
  o9 prog 118 #[V,H] w λu I=>(u = .bool (am1 t l)/\o6 w I):=by
 refine p9 [V,H] func118 rfl ?_;obtain⟨b,W,N,j,L⟩:=au2 ht (n7 _);obtain⟨_,an,_,_,_,g,_,_,_,D,_⟩:=L.st;have U:=D W (n7 _);have hS:=g.isS;have hn:=g.vlen;rw[V7]at S;have ac:=aw7 t.args;have G:am1 t l=am2 t.name l [] t.args:=rfl;simp only[n8,n9,simprocAttr,N,U,hS,hn];refine A6 [1,2,9,10] (σ:=Nat×Value×List A9) (λs f I=>f 11 = .int .i64 s.1/\f 5=s.2.1/\s.1<=t.args.length/\B0 (m8 W) I 9 s.2.1 s.2.2/\am2 t.name l [] t.args=am2 t.name l s.2.2 (t.args.drop s.1)/\s.2.2.length<=s.1/\o6 W I) (λs=>t.args.length-s.1) (0,.slice none 0 0,[]) ?_ ?_
 .simp only[B3,simprocAttr];exact⟨by trivial,by trivial,eg3 _,B0.nil _ _ _,by rw[en9],eg6 _,o8.refl _⟩
 rintro⟨k,u,h⟩ f w2 ⟨e1,X,Y,K,_⟩ ⟨i,F,O,Z,d,Q,n⟩;simp only at i F O Z d Q;simp only[n8,n9,simprocAttr,i,K];refine y5 (λq=>?_) ?_;rotate_left
 .rintro rfl;rw[eo9,am2]at d;simp only[n8,simprocAttr];refine o7 results118 ?_;simp only[B3,simprocAttr];exact⟨by rw[G,d],j.trans n⟩
 have r:=g.inS q;obtain⟨sv,A,p⟩:=F5 (P:=prog) (t:=124) g (b7 n) (ef1 q) aS1 aS2 aL1 aa8;rw[aa8]at p;rw[ej8 q,am2]at d;generalize t.args[k]=y at A d;obtain⟨c,wz,J,o,z,B,M⟩:=bj8 (A.mono (b7 n)) (n7 _);obtain⟨_,T,_⟩:=M.ar;have C:=T J (n7 _);have a:=n.trans B;have m:=Z.ext B;have E:=D J (b7 a);rcases ef2 y.ref with v|v;rotate_left
 .rw[if_neg (by rw[v];simp)]at d;simp only[n8,n9,y4,simprocAttr,i,Y,r,p,o,z,C,v];exact nx2 (k+1,u,h) ⟨F,by simp only[];omega,m,d,by simp only[];omega,a⟩
 rw[if_pos v]at d;simp only[n8,n9,y4,simprocAttr,i,F,Y,r,p,o,z,C,v];refine E6 (S1 u h y.name J (m.rw_ (b7 a)) (by omega)) ?_;rcases ef2 (h.contains y.name)with q1|q1
 .simp only[n8,simprocAttr,q1];refine o7 results118 ?_;simp only[B3,simprocAttr];exact⟨by rw[G,d,q1];rfl,j.trans a⟩
 rcases ef2 (decide (y.name=t.name))with q2|q2
 .simp only[n8,n9,simprocAttr,q1,q2,X,C,E];refine o7 results118 ?_;simp only[B3,simprocAttr];exact⟨by rw[G,d,q1,q2];rfl,j.trans a⟩
 simp only[n8,n9,simprocAttr,q1,q2,e1,X,C,E];refine E6 (S1 H l y.name J (A3.mono (b7 (j.trans a)) hl) (by omega)) ?_;rcases ef2 (l.contains y.name)with q3|q3
 .simp only[n8,simprocAttr,q3];refine o7 results118 ?_;simp only[B3,simprocAttr];exact⟨by rw[G,d,q1,q2,q3];rfl,j.trans a⟩
 rw[q1,q2,q3]at d;obtain⟨p1,u',w4,p2,p3,p4,p5⟩:=push (e:=31) az7 rfl m (x:=p6 y.name) (y:=y.name) rfl (by omega) (by omega) (b7 a);simp only[n8,n9,simprocAttr,q3,i,F,C,p1,p2];exact nx4 (k+1,u',h++[y.name]) ⟨p3,d,by simp only[ef4,ei6];omega,m.ext2 a p4⟩
def bn6:∀(l:List Pr) (s:Sh) (i:Nat) (it:It),it∈(H9 s i l).l->it∈s.l\/∃(k:Nat) (a:k<l.length),∃x,it∈C8 l[k].body x (i+k:Nat) 0 (-1) 0
 | [],s,i,it,h=>.inl h
 | f::l,s,i,it,h=>by
  rw[H9]at h;rcases bn6 l _ _ it h with h|⟨k,a,x,h⟩
  .simp only[G5]at h;rcases eg1.1 h with h|h
   .exact .inl h
   .exact .inr ⟨0,by simp,s.l.length,by simpa using h⟩
  .exact .inr ⟨k+1,by simpa using a,x,by rw[show i+(k+1)=i+1+k by omega];simpa using h⟩
mutual
def ch2:∀(t:St) (k e:Nat) (h i g f c d b a:Int),(W0 t k h i g f).map (·.s)=(W0 t e c d b a).map (·.s)
 | .mk id kind labels name proc x has args thn els,k,e,h,i,g,f,c,d,b,a=>by
  rw[P3,P3];simp only[ej9,ei4]
  congr 2
  .exact al5 _ _ _ _ _ _ _ _ _ _ _
  .exact al5 _ _ _ _ _ _ _ _ _ _ _
def al5:∀(l:List St) (k e:Nat) (h i g f c d b a:Int),(C8 l k h i g f).map (·.s)=(C8 l e c d b a).map (·.s)
 | [],_,_,_,_,_,_,_,_,_,_=>by simp[C8]
 | t::l,k,e,h,i,g,f,c,d,b,a=>by
  rw[C8,C8];simp only[ei4]
  congr 1
  .exact ch2 _ _ _ _ _ _ _ _ _ _ _
  .exact al5 _ _ _ _ _ _ _ _ _ _ _
end
def aH2{p:Pg}(K:Known p)(hw:B7 p<=1000000){it:It}(b:it∈(d9 p).l)(i:it.s.kind=4):it.s.proc∈p.procs.map (·.name):=by
 rcases bn6 _ _ _ it b with h|⟨k,d,x,h⟩
 .cases h
 .obtain⟨j,_,e⟩:=V2 p hw k d;have f:it.s∈(C8 p.procs[k].body x (0+k:Nat) 0 (-1) 0).map (·.s):=eh4.2 ⟨it,h,rfl⟩;rw[al5 _ _ j _ _ _ _ k 0 (-1) 0,<-e]at f;obtain⟨c,a,g⟩:=eh4.1 f;have:=(K.proc k d).2.2 c a;rw[g]at this;unfold ai3 at this;rw[ek5 i]at this;simp only[Bool.not_true,er3,eh5]at this;exact eg7.1 this.2.2
def cB0{p:Pg}(K:Known p)(n:A9):(R8 p n).length<=1000000000:=by
 unfold R8;split
 .next h=>
  have d:=J6 (l:=E3 ((aD2 (d9 p) n).flatMap λm=>((d9 p).of ((d9 p).pr m)).flatMap λit=>(L6 it.s).filter λv=>p.globals.contains v)) (m:=p.globals) ?_ ?_
  .have:=(bZ8 K).2;exact ef9 d (by omega)
  .exact(V5 _).imp fun{a b} hab=>by rintro rfl;rw[N1]at hab;cases hab
  .intro x c;rw[J7]at c;obtain⟨m,_,c⟩:=ei7.1 c;obtain⟨it,_,c⟩:=ei7.1 c;exact eg7.1 (eh8.1 c).2
 .simp
def ce4{p:Pg}(h:(af2 p).1=0):(P6 p).1=0:=by
 unfold af2 at h;split at h
 .simp at h
 .next a=>exact eq5 a
def bA0(v:Value)(p:Pg)(w:World)(hv:SV (m8 w) v p)(hw:B7 p<=1000000):o9 prog 71 #[v] w λu d=>(u=Y7 (aO3 p)/\o6 w d):=by
 refine p9 [v] func71 rfl ?_;obtain⟨a,w1,a6,aU,ha⟩:=W9 (w:=w) (λ_=>False) hv (λ_ h=>h.elim);obtain⟨vg,vp,hg,hp,ld,_⟩:=I6.pg hv ha;obtain⟨lw,bm⟩:=I6.pg_v hv ha;obtain⟨rb,w2,a4,an,be,aF⟩:=aD3 w1;have a8:w.heap.size<=rb:=ef9 aU.size aF;have k:=aU.trans an;have U:∀d,o6 w2 d->B8 (C1 w1 λ_=>False) (m8 d):=λd h=>p7 (A8 _ _) (b7 (an.trans h));have H:=λ(d:World) (h:o6 w2 d)=>av7 be h a8 k;simp only[n8,n9,simprocAttr,a6,a4,lw w2 (U _ (o8.refl _))];refine B2 (aO4 v p w2 (hv.mono (b7 k)) hw) (λw3 M=>?_);rcases ef2 (decide ((af2 p).1=0))with hsc|hsc;rotate_left
 .obtain⟨w9,s1,s2,s3⟩:=H w3 M (1,0);simp only[n8,n9,simprocAttr,au4,hsc,U4,s1];refine N9 results71 (by simp only[B3,simprocAttr]) s2 ?_;exact⟨by rw[aO3,if_pos (ef7 hsc)],s3⟩
 have K:=bE0 (ce4 (ef3 hsc));obtain⟨bt,bs⟩:=bZ8 K;have hF:aO3 p=match(d9 p).l.find? λit=>decide (it.s.kind=4) && !am1 it.s (R8 p it.s.proc)with
  | some it=>(8,it.s.id)
  | none=>(0,0):=by rw[aO3,if_neg (by simpa using hsc)]<;>rfl
 obtain⟨aj,ag,aV⟩:=aW4.new (P:=prog) w3 183;have J:=M.trans aV;have l4:=ld _ (U _ J);have hS:=hp.isS;have hn:=hp.vlen;have bc:w1.heap.size<=w3.heap.size:=(an.trans M).size;have bd:w2.heap.size<=w3.heap.size:=M.size;have bb:w.heap.size<=w3.heap.size:=(k.trans M).size;generalize bM:w3.alloc (.map #[] 0)=w4 at aj ag aV J l4;generalize w3.heap.size=r at aj ag bc bd bb;simp only[n8,n9,simprocAttr,au4,hsc,aJ6,aj,l4,hS,hn];refine A6 [1,2,3,15,16] (σ:=Nat×List (A9×Value)) (λs f d=>f 17 = .int .i64 s.1/\s.1<=p.procs.length/\aW4 d r s.2/\(∀j (D:j<p.procs.length),j<s.1->∃u,O9 s.2 p.procs[j].name=some u/\R (C1 d λb=>b=r) u (R8 p p.procs[j].name))/\o6 w2 d) (λs=>p.procs.length-s.1) (0,[]) ?_ ?_
 .exact⟨rfl,eg3 _,ag,λj _ h=>by omega,J⟩
 rintro⟨i,kv⟩ f w5 ⟨e1,e2,e3,a1,a2,_⟩ ⟨Q,a9,G,af,O⟩;simp only at Q a9 G af;simp only[n8,n9,simprocAttr,Q,a2];refine A4 (λhc=>?_) (λhc=>?_)
 .have n:i<p.procs.length:=by simpa using hc
  have T:=hp.inS n;obtain⟨sv,I,F⟩:=F5 (P:=prog) (t:=75) hp (b7 (k.trans O)) (ef1 n) at8 at9 ar9 Q9;rw[Q9]at F;have aK:∀j (D:j<p.procs.length),j<i->p.procs[j].name≠p.procs[i].name:=λj D ae e=>by
   have h3:=em0.1 K.names;exact h3 j i (by simpa using D) (by simpa using n) ae (by simpa using e)
  generalize hy:p.procs[i]=y at I aK;obtain⟨c,wz,x,aB,aO,E,a5⟩:=aL4 (w:=w5) (λb=>b=r) I (λb B=>by subst B;exact G.lt);obtain⟨_,_,_,_,_,_,_,_,_,bl⟩:=I6.pr I a5;have aJ:=(G.mod E id).mod (o6.drew x) id;have A:o6 w2 x.drew:=O.trans (E.trans (o6.drew x));have aQ:∀d,o8 (λb=>b=r) x.drew d->B8 (C1 x λb=>b=r) (m8 d):=λd h=>D8 (o8.chain (o8.up (o6.drew x)) h λ_ _ B=>B);have aP:∀d,o8 (λb=>b=r) x.drew d->B8 (C1 w1 λ_=>False) (m8 d):=λd h=>H2 (U _ A) h λb B=>by
   subst B;by_cases hq:C1 w1 (λ_=>False) b=none
   .exact hq
   .exfalso
    have:m8 w1 b≠none:=λe=>hq (by rw[E4 (λh=>h)];exact e);have:=Nat.lt_of_not_le λh=>this (bf0 h);omega
  have s1:=bl (λd=>o8 (λb=>b=r) x.drew d) x.drew (o8.refl _) aQ;have s2:=bm (λd=>o8 (λb=>b=r) x.drew d) x.drew (o8.refl _) aP;simp only[n8,n9,y4,simprocAttr,Q,a1,T,F,aB,aO];refine B9 (λd=>o8 (λb=>b=r) x.drew d) 8 (A5 [0,1,2,3,4,5,6,7]) ?_;simp only[D0,A5,n8,n9,simprocAttr,e1,e3,s1,s2];refine t8 (cd7 v p y.name x.drew (hv.mono (b7 (k.trans A))) hw) ?_;rintro u w7 ⟨al,g⟩;obtain⟨w8,bg,ah,o⟩:=(aJ.mod g id).update (P:=prog) cH2 cJ7 y.name u;refine⟨o8.up g,?_⟩;simp only[D0,n8,simprocAttr,bZ1,bg,F2];refine⟨(o8.up g).chain o λ_ _ B=>B,?_⟩;simp only[n8,n9,simprocAttr,Q];have L:o6 w2 w8:=o8.ext_of (A.trans g) o λb B=>by subst B;omega
  refine T4 (i+1,aR6 kv y.name u) ⟨ah,λj D ae=>?_,L⟩;simp only at ae ⊢;rw[av8];rcases ej6 j i with h|h
  .obtain⟨u2,V,aN⟩:=af j D h;have aL:=aK j D h;exact⟨u2,by rw[if_neg aL];exact V,A3.mono (ci5 (o8.chain (o8.up (E.trans ((o6.drew x).trans g))) o λ_ _ B=>B) (λb B=>by subst B;exact G.lt)) aN⟩
  .obtain rfl:j=i:=by omega
   refine⟨u,by rw[hy,if_pos rfl],?_⟩;rw[hy];refine al.flatR λb B=>?_;have aD:b≠r:=λe=>by
    subst e;have h1:=aJ.lt;have h2:=D1 (al.free B);omega
   rw[E4 (N:=λb=>b=r) aD];exact o.block b (al.lt B) aD
 have aE:i=p.procs.length:=by simp at hc;omega
 subst aE;simp only[n8,simprocAttr,e1,lw w5 (U _ O)];refine t8 (aj1 v p w5 (hv.mono (b7 (k.trans O))) hw) ?_;rintro us x ⟨sh,rfl,hsh,E⟩;have A:=O.trans E;obtain⟨vL,bU,bT,hL,bI,bG,bE,aW,_⟩:=hsh.sh;have bk:=aW x (n7 _);have aA:=hL.isS;have aM:=hL.vlen;have bf:=aw4 p;have bF:=bW7 p;have aT:=am0 p hw;have aG:∀it∈(d9 p).l,it.s.kind=4->it.s.proc∈p.procs.map (·.name):=λit ad h4=>aH2 K hw ad h4;generalize(d9 p).l=l at hL aA aM bf aT hF aG;simp only[n8,n9,simprocAttr,bk,aA,aM];refine A6 [1,2,3,33,34] (σ:=Nat) (λm f d=>f 35 = .int .i64 m/\m<=l.length/\(∀j (D:j<l.length),j<m->(decide (l[j].s.kind=4) && !am1 l[j].s (R8 p l[j].s.proc))=false)/\o6 x d) (λm=>l.length-m) 0 ?_ ?_
 .exact⟨rfl,eg3 _,λj _ h=>by omega,o8.refl _⟩
 rintro m f3 w7 ⟨g1,g2,g3,ax,a3,_⟩ ⟨S,bJ,ak,g⟩;rw[e2]at g2;rw[e3]at g3;have ab:=A.trans g;simp only[n8,n9,simprocAttr,S,a3];refine y5 (λn=>?_) ?_;rotate_left
 .rintro rfl;have C:l.find? (λit=>decide (it.s.kind=4) && !am1 it.s (R8 p it.s.proc))=none:=ep4.2 λit ad=>by
   obtain⟨j,D,rfl⟩:=em3.1 ad;rw[ak j D D];simp
  rw[C]at hF;obtain⟨w9,s1,s2,s3⟩:=H w7 ab (0,0);simp only[n8,simprocAttr,g2,aS9,s1];refine N9 results71 (by simp only[B3,simprocAttr];exact g2) s2 ?_;exact⟨by rw[hF],s3⟩
 have T:=hL.inS n;obtain⟨sv,I,F⟩:=F5 (P:=prog) (t:=150) hL (b7 g) (ef1 n) aa7 aa9 Z3 J3;rw[J3]at F;have aS:=aT _ (eg2 n);have aH:=aG _ (eg2 n);obtain⟨c,bX,w8,X,aa,W,aC⟩:=ap8 (I.mono (b7 g)) (n7 _);obtain⟨Y,_,_⟩:=aC.it;obtain⟨vt,bh,bj,_⟩:=Y.st_v;obtain⟨_,_,_,_,_,_,_,_,_,aX,_⟩:=Y.st;have L:=ab.trans W;have k2:=aX w8 (n7 _);have k3:=bj w8 (n7 _);have ah:=((G.mod E id).mod g id).mod W id;have Z:∀d,o6 w8 d->(decide (l[m].s.kind=4) && !am1 l[m].s (R8 p l[m].s.proc))=false->∃s:Nat,l.length-s<l.length-m/\(Value.int .i64 (IntKind.i64.wrap ((m:Int)+1))) = .int .i64 s/\s<=l.length/\(∀j (D:j<l.length),j<s->(decide (l[j].s.kind=4) && !am1 l[j].s (R8 p l[j].s.proc))=false)/\o6 x d:=λd bi hq=>by
  refine T4 (m+1) ⟨λj D bH=>?_,g.trans (W.trans bi)⟩;rcases ej6 j m with h|h
  .exact ak j D h
  .obtain rfl:j=m:=by omega
   exact hq
 rcases ef2 (decide (l[m].s.kind=4))with hk4|hk4;rotate_left
 .simp only[n8,n9,y4,simprocAttr,S,ax,T,F,X,aa,k2,hk4];exact Z w8 (o8.refl _) (by rw[hk4];rfl)
 obtain⟨q,hq,bL,ba⟩:=T3 (aH (ef3 hk4));obtain⟨u,aR,V⟩:=af q hq hq;rw[ba]at aR V;have aI:=ah.lookup (P:=prog) cH2 cJ7 (z:=.slice none 0 0) cp7 l[m].s.proc;rw[aR,ek4]at aI;simp only[n8,n9,y4,simprocAttr,S,g3,ax,T,F,X,aa,k2,k3,hk4,aI];refine B2 (cz7 vt u l[m].s (R8 p l[m].s.proc) w8 bh (A3.mono (p7 (A8 _ _) (b7 (E.trans (g.trans W)))) V) aS (cB0 K _)) (λw9 ao=>?_);rcases ef2 (am1 l[m].s (R8 p l[m].s.proc))with hsg|hsg
 .simp only[n8,n9,simprocAttr,hsg,S];exact Z w9 ao (by rw[hk4,hsg];rfl)
 .obtain⟨bW,s1,s2,s3⟩:=H w9 (L.trans ao) (8,l[m].s.id);simp only[n8,n9,simprocAttr,hsg,aX w9 (b7 ao),g2,aD5,s1];refine N9 results71 (by simp only[B3,simprocAttr];exact g2) s2 ?_;have C:l.find? (λit=>decide (it.s.kind=4) && !am1 it.s (R8 p it.s.proc))=some l[m]:=ep0.2 ⟨by rw[hk4,hsg];rfl,m,n,rfl,λj D=>by rw[ak j (by omega) D];rfl⟩;rw[C]at hF;exact⟨by rw[hF],s3⟩
def el4:=@Option.bind_eq_some_iff
mutual
def cP0:∀(t:St) (k:Nat) (g j d c:Int),∀it∈W0 t k g j d c,(it.next=d\/((k:Int)<it.next/\it.next<=(k:Int)+(X7 t:Nat)))/\(it.loop=c\/((k:Int)<it.loop/\it.loop<=(k:Int)+(X7 t:Nat)))
 | .mk id kind labels name proc x has args thn els,k,g,j,d,c,it,h=>by
  rw[P3]at h;rw[az4];rcases eh0.1 h with rfl|h
  .exact⟨.inl rfl,.inl rfl⟩
  .have f:∀(l:List St) (b:Nat) (o:k<b) (i:b+A7 l<=k+(1+A7 thn+A7 els)),it∈C8 l b g (k+1) (if kind=6 then((k:Int)+1)else d) (if kind=6 then((k:Int)+1)else c)->(∀it∈C8 l b g (k+1) (if kind=6 then((k:Int)+1)else d) (if kind=6 then((k:Int)+1)else c),(it.next=(if kind=6 then((k:Int)+1)else d)\/((b:Int)<it.next/\it.next<=(b:Int)+(A7 l:Nat)))/\(it.loop=(if kind=6 then((k:Int)+1)else c)\/((b:Int)<it.loop/\it.loop<=(b:Int)+(A7 l:Nat)))) ->
     (it.next=d\/((k:Int)<it.next/\it.next<=(k:Int)+((1+A7 thn+A7 els:Nat):Int)))/\(it.loop=c\/((k:Int)<it.loop/\it.loop<=(k:Int)+((1+A7 thn+A7 els:Nat):Int))):=by
    intro l b o i hm e;obtain⟨a,m⟩:=e it hm;constructor
    .rcases a with a|⟨a,n⟩
     .split at a
      .right;omega
      .exact .inl a
     .right;omega
    .rcases m with a|⟨a,n⟩
     .split at a
      .right;omega
      .exact .inl a
     .right;omega
   simp only[St.thn,St.els];rcases eg1.1 h with h|h
   .exact f thn (k+1) (by omega) (by omega) h (aH8 thn _ _ _ _ _)
   .refine f els _ ?_ ?_ h (aH8 els _ _ _ _ _)
    .omega
    .simp only[St.thn];omega
def aH8:∀(l:List St) (k:Nat) (e f d c:Int),∀it∈C8 l k e f d c,(it.next=d\/((k:Int)<it.next/\it.next<=(k:Int)+(A7 l:Nat)))/\(it.loop=c\/((k:Int)<it.loop/\it.loop<=(k:Int)+(A7 l:Nat)))
 | [],_,_,_,_,_,it,h=>by simp[C8]at h
 | t::l,k,e,f,d,c,it,h=>by
  rw[C8]at h;rw[A7];rcases eg1.1 h with h|h
  .obtain⟨a,b⟩:=cP0 t _ _ _ _ _ it h;constructor
   .rcases a with a|a
    .split at a
     .exact .inl a
     .next g=>
      right;have:=V9 l;omega
    .right;omega
   .rcases b with a|a
    .exact .inl a
    .right;omega
  .obtain⟨a,b⟩:=aH8 l _ _ _ _ _ it h;rw[ac5]at a b;constructor
   .rcases a with a|a
    .exact .inl a
    .right;omega
   .rcases b with a|a
    .exact .inl a
    .right;omega
end
mutual
def cu9:∀(t:St) (k:Nat) (d e c b:Int),∀it∈W0 t k d e c b,∀u,(u∈it.s.thn\/u∈it.s.els)->u∈(W0 t k d e c b).map (·.s)
 | .mk id kind labels name proc x has args thn els,k,d,e,c,b,it,h,u,a=>by
  rw[P3]at h ⊢;simp only[ej9,ei4,eh0,eg1];rcases eh0.1 h with rfl|h
  .simp only[St.thn,St.els]at a;rcases a with a|a
   .exact .inr (.inl (aP7 thn _ _ _ _ _ u a))
   .exact .inr (.inr (aP7 els _ _ _ _ _ u a))
  .rcases eg1.1 h with h|h
   .exact .inr (.inl (aA9 thn _ _ _ _ _ it h u a))
   .exact .inr (.inr (aA9 els _ _ _ _ _ it h u a))
def aA9:∀(l:List St) (k:Nat) (c d b a:Int),∀it∈C8 l k c d b a,∀u,(u∈it.s.thn\/u∈it.s.els)->u∈(C8 l k c d b a).map (·.s)
 | [],_,_,_,_,_,it,h,_,_=>by simp[C8]at h
 | t::l,k,c,d,b,a,it,h,u,hu=>by
  rw[C8]at h ⊢;simp only[ei4,eg1];rcases eg1.1 h with h|h
  .exact .inl (cu9 t _ _ _ _ _ it h u hu)
  .exact .inr (aA9 l _ _ _ _ _ it h u hu)
def aP7:∀(l:List St) (k:Nat) (c d b a:Int),∀u∈l,u∈(C8 l k c d b a).map (·.s)
 | [],_,_,_,_,_,u,h=>by simp at h
 | t::l,k,c,d,b,a,u,h=>by
  rw[C8];simp only[ei4,eg1];rcases eh0.1 h with rfl|h
  .left;cases u;rw[P3];simp
  .exact .inr (aP7 l _ _ _ _ _ u h)
end
def ao1(d:Nat)(t:St)(l:List St)(n:Int):I4 (d+1) (t::l) n=(if n+1>200\/t.id≠n+1\/ai4 t.labels=false\/R3 t=false then none else(I4 d t.thn (n+1)).bind λm=>I4 d t.els m).bind λm=>I4 (d+1) l m:=by
 rw[I4,List.foldlM_cons];rfl
mutual
def dd9:∀(t:St) (d:Nat) (n m:Int),t.id=n+1->((I4 d t.thn (n+1)).bind λm=>I4 d t.els m)=some m->m=n+(X7 t:Nat)/\∀(k:Nat) (f g e b:Int) (j:Nat) (it:It),(W0 t k f g e b)[j]?=some it->it.s.id=n+1+(j:Nat)
 | .mk id kind labels name proc x has args thn els,d,n,m,hid,h=>by
  simp only[St.id,St.thn,St.els]at hid h;obtain⟨c,i,l⟩:=el4.1 h;obtain⟨q,o⟩:=aI4 thn d (n+1) c i;obtain⟨r,p⟩:=aI4 els d c m l;refine⟨by rw[az4];simp only[St.thn,St.els];omega,λk f g e b j it a=>?_⟩;rw[P3]at a;cases j with
  | zero=>
   rw[List.getElem?_cons_zero]at a;obtain rfl:=eh1 a;simp only[St.id];omega
  | succ j=>
   rw[List.getElem?_cons_succ]at a;rcases ej6 j (A7 thn)with hlt|hge
   .rw[ek3 (by rw[I8];exact hlt)]at a;have:=o _ _ _ _ _ j it a;omega
   .rw[ek7 (by rw[I8];exact hge),I8]at a;have:=p _ _ _ _ _ _ it a;simp only[St.thn]at hge this;omega
def aI4:∀(l:List St) (d:Nat) (n m:Int),I4 d l n=some m->m=n+(A7 l:Nat)/\∀(k:Nat) (g i f e:Int) (j:Nat) (it:It),(C8 l k g i f e)[j]?=some it->it.s.id=n+1+(j:Nat)
 | [],d,n,m,h=>by
  have:m=n:=by
   cases d with
   | zero=>simp[I4]at h;exact h.symm
   | succ d=>rw[I4]at h;simp at h;exact h.symm
  subst this;exact⟨by simp[A7],λk g i f e j it a=>by simp[C8]at a⟩
 | t::l,0,n,m,h=>by simp[I4]at h
 | t::l,d+1,n,m,h=>by
  rw[ao1]at h;obtain⟨o,b,p⟩:=el4.1 h;split at b
  .cases b
  .next q=>
   have c:t.id=n+1:=by
    rcases Decidable.em (t.id=n+1)with h|h
    .exact h
    .exact absurd (.inr (.inl h)) q
   obtain⟨u,r⟩:=dd9 t d n o c b;obtain⟨v,s⟩:=aI4 l (d+1) o m p;refine⟨by rw[A7];omega,λk g i f e j it a=>?_⟩;rw[C8]at a;rcases ej6 j (X7 t)with hlt|hge
   .rw[ek3 (by rw[ac5];exact hlt)]at a;exact r _ _ _ _ _ j it a
   .rw[ek7 (by rw[ac5];exact hge),ac5]at a;have:=s _ _ _ _ _ _ it a;omega
end
def bH6:∀(l:List Pr) (s:Sh) (i:Nat),(l.foldlM (λn f=>X6 f n) (s.l.length:Int)).isSome=true->(∀(j:Nat) (it:It),s.l[j]?=some it->it.s.id=(j:Int)+1)->∀(j:Nat) (it:It),(H9 s i l).l[j]?=some it->it.s.id=(j:Int)+1
 | [],s,i,_,h,j,it,a=>h j it a
 | f::l,s,i,hf,h,j,it,a=>by
  rw[List.foldlM_cons]at hf;obtain⟨n,e⟩:=el1.1 hf;obtain⟨m,hm,d⟩:=el4.1 e;unfold X6 at hm;split at hm
  .cases hm
  .obtain⟨k,g⟩:=aI4 f.body 12 _ _ hm;rw[H9]at a;refine bH6 l (G5 s i f) (i+1) ?_ (λj it a=>?_) j it a
   .simp only[G5,ef4,I8];rw[show((s.l.length+A7 f.body:Nat):Int)=m by omega,d];rfl
   .simp only[G5]at a;rcases ej6 j s.l.length with c|b
    .rw[ek3 c]at a;exact h j it a
    .rw[ek7 b]at a;have:=g _ _ _ _ _ _ it a;omega
def aw3{p:Pg}(hm:M8 p=true):∀(j:Nat) (it:It),(d9 p).l[j]?=some it->it.s.id=(j:Int)+1:=by
 simp only[M8,eh5]at hm;exact bH6 p.procs ⟨p,[],[],[]⟩ 0 hm.2 λj it a=>by simp at a
def Rg(x y:Nat)(a:Int):Prop:=a = -1\/((x:Int)<a/\a<=(y:Int))
structure as2 (p:Pg) (i x y:Nat):Prop where
 ok:bK7 (d9 p) i x y
 ids:∀it∈(d9 p).of i,(x:Int)<it.s.id/\it.s.id<=(y:Int)
 next:∀it∈(d9 p).of i,Rg x y it.next
 loop:∀it∈(d9 p).of i,it.loop=0\/((x:Int)<it.loop/\it.loop<=(y:Int))
 sub:∀it∈(d9 p).of i,∀u,(u∈it.s.thn\/u∈it.s.els)->(x:Int)<u.id/\u.id<=(y:Int)
 at_:∀a:Int,(x:Int)<a->a<=(y:Int)->(d9 p).it a∈(d9 p).of i/\((d9 p).it a).s.id=a/\(d9 p).l[(a-1).toNat]?=some ((d9 p).it a)
def I1{p:Pg}(hm:M8 p=true)(hw:B7 p<=1000000)(i:Nat)(v:i<p.procs.length):∃x,as2 p i x (x+A7 p.procs[i].body):=by
 obtain⟨x,b,q⟩:=V2 p hw i v;have d:=aw3 hm;have o:∀it∈(d9 p).of i,∃j:Nat,j<A7 p.procs[i].body/\(d9 p).l[x+j]?=some it:=λit h=>by
  rw[b.of_]at h;obtain⟨j,m⟩:=List.getElem?_of_mem h;rw[eo3,en1]at m;split at m
  .next n=>exact⟨j,by omega,m⟩
  .cases m
 have k:∀it∈(d9 p).of i,(x:Int)<it.s.id/\it.s.id<=((x+A7 p.procs[i].body:Nat):Int):=λit h=>by
  obtain⟨j,m,e⟩:=o it h;have:=d _ _ e;omega
 have g:=aH8 p.procs[i].body x i 0 (-1) 0;rw[<-q]at g;have f:=aA9 p.procs[i].body x i 0 (-1) 0;rw[<-q]at f;refine⟨x,b,k,λit h=>?_,λit h=>?_,λit h u w=>?_,λa c y=>?_⟩
 .rcases(g it h).1 with c|c
  .exact .inl c
  .exact .inr ⟨c.1,by omega⟩
 .rcases(g it h).2 with c|c
  .exact .inl c
  .exact .inr ⟨c.1,by omega⟩
 .obtain⟨s,l,rfl⟩:=eh4.1 (f it h u w);exact k s l
 .have t:=b.len;have n:(a-1).toNat<(d9 p).l.length:=by omega
  have r:(d9 p).l[(a-1).toNat]?=some ((d9 p).it a):=by
   unfold Sh.it;rw[List.getD,ef1 n];rfl
  refine⟨?_,?_,r⟩
  .rw[b.of_];refine eh3 (i:=(a-1).toNat-x) ?_;rw[eo3,en1,if_pos (by omega),show x+((a-1).toNat-x)=(a-1).toNat by omega,r]
  .have:=d _ _ r;omega
def cG9{w:World}{b:Nat}{e:Int×Int}(h:w.heap[b]?=some (.cells #[.int .i64 e.1,.int .i64 e.2] 81 (0,0))):
  (Instr.loadAt 40 (.pointer (some ⟨b,0,none⟩))).run prog w = .ok (.int .i64 e.1) w/\(Instr.loadAt 81 (.pointer (some ⟨b,0,none⟩))).run prog w = .ok (Y7 e) w:=
 ⟨E7 (i:=0) h rfl dS9,Y5 h dC0 dC8 dC2 (by rw[dC6];rfl)⟩
def cJ0{w:World}{b:Nat}{e:Int×Int}(h:w.heap[b]?=some (.cells #[.int .i64 e.1,.int .i64 e.2] 81 (0,0)))(a:Int×Int):
  ∃d,(Instr.storeAt 81 (.pointer (some ⟨b,0,none⟩)) (Y7 a)).run prog w = .ok () d/\d.heap[b]?=some (.cells #[.int .i64 a.1,.int .i64 a.2] 81 (0,0))/\o8 (λc=>c=b) w d:=
 ab4 (P:=prog) (cs:=#[.int .i64 a.1,.int .i64 a.2]) h dm8 rfl rfl (by simp[Value.oneCell'])
def bW5(v:Value)(p:Pg)(w:World)(hv:SV (m8 w) v p)(hw:B7 p<=1000000):o9 prog 43 #[v] w λu f=>(u=Y7 (aO7 p)/\o6 w f):=by
 refine p9 [v] func43 rfl ?_;obtain⟨a,w1,ac,Q,ha⟩:=W9 (w:=w) (λ_=>False) hv (λ_ h=>h.elim);obtain⟨U,aB⟩:=I6.pg_v hv ha;obtain⟨rb,B,ab,m,ag,L⟩:=aD3 w1;have ad:w.heap.size<=rb:=ef9 Q.size L;have c:=Q.trans m;have o:∀f,o6 w1 f->B8 (C1 w1 λ_=>False) (m8 f):=λf h=>p7 (A8 _ _) (b7 h);have D:=λ(f:World) (h:o6 B f)=>av7 ag h ad c;simp only[n8,n9,simprocAttr,ac,ab,U B (o _ m)];refine B2 (cD0 v p B (hv.mono (b7 c)) hw) (λw3 t=>?_);rcases ef2 (M8 p)with hmay|hmay;rotate_left
 .obtain⟨w9,x,y,z⟩:=D w3 t (1,0);simp only[n8,n9,simprocAttr,hmay,U4,x];refine N9 results43 (by simp only[B3,simprocAttr]) y ?_;exact⟨by rw[aO7,hmay];rfl,z⟩
 have g:aO7 p=if(P6 p).1≠0 then P6 p else if(af2 p).1≠0 then af2 p else if(aL9 p).1≠0 then aL9 p else aO3 p:=by
  rw[aO7,if_neg (by rw[hmay];simp)]
 simp only[n8,n9,simprocAttr,hmay,U w3 (o _ (m.trans t))];refine B2 (al9 v p w3 (hv.mono (b7 (c.trans t))) hw) (λw4 aj=>?_);have F:=t.trans aj;obtain⟨K,w5,C,ak,ah,M⟩:=aD3 w4;obtain⟨Z,W,r,ae⟩:=cJ0 (e:=(0,0)) ah (P6 p);obtain⟨l6,aA⟩:=cG9 r;have i:B.heap.size<=K:=ef9 F.size M;have k:o6 B Z:=o8.ext_of (F.trans ak) ae λb H=>by subst H;exact i
 have q:∀(f:World) (e:Int×Int),o6 B f->f.heap[K]?=some (.cells #[.int .i64 e.1,.int .i64 e.2] 81 (0,0))->aO7 p=e->∃n,(Instr.loadAt 81 (.pointer (some ⟨K,0,none⟩))).run prog f = .ok (Y7 e) f/\(Instr.storeAt 81 (.pointer (some ⟨rb,0,none⟩)) (Y7 e)).run prog f = .ok () n/\(Instr.loadAt 81 (.pointer (some ⟨rb,0,none⟩))).run prog n = .ok (Y7 e) n/\o6 w n:=λf e hx hh _=>by
  obtain⟨n,h1,h2,h3⟩:=D f hx e;exact⟨n,(cG9 hh).2,h1,h2,h3⟩
 rcases ef2 (decide ((P6 p).1=0))with d1|d1;rotate_left
 .rw[if_pos (ef7 d1)]at g;obtain⟨w9,J,x,y,z⟩:=q Z _ k r g;simp only[n8,n9,simprocAttr,C,W,l6,d1,J,x];refine N9 results43 (by simp only[B3,simprocAttr]) y ?_;exact⟨by rw[g],z⟩
 rw[if_neg (by simpa using d1)]at g;simp only[n8,n9,simprocAttr,C,W,l6,d1,U Z (o _ (m.trans k))];refine B2 (aO4 v p Z (hv.mono (b7 (c.trans k))) hw) (λw7 R=>?_);obtain⟨w8,X,s,af⟩:=cJ0 ((R.block K (ef5.1 r).1 id).trans r) (af2 p);obtain⟨l8,_⟩:=cG9 s;have l:o6 B w8:=o8.ext_of (k.trans R) af λb H=>by subst H;exact i
 rcases ef2 (decide ((af2 p).1=0))with d2|d2;rotate_left
 .rw[if_pos (ef7 d2)]at g;obtain⟨w9,J,x,y,z⟩:=q w8 _ l s g;simp only[n8,n9,simprocAttr,X,l8,d2,J,x];refine N9 results43 (by simp only[B3,simprocAttr]) y ?_;exact⟨by rw[g],z⟩
 rw[if_neg (by simpa using d2)]at g;simp only[n8,n9,simprocAttr,X,l8,d2,U w8 (o _ (m.trans l))];refine B2 (bL9 v p w8 (hv.mono (b7 (c.trans l))) hw) (λw9 S=>?_);obtain⟨A,G,j,O⟩:=cJ0 ((S.block K (ef5.1 s).1 id).trans s) (aL9 p);obtain⟨T,_⟩:=cG9 j;have d:o6 B A:=o8.ext_of (l.trans S) O λb H=>by subst H;exact i
 rcases ef2 (decide ((aL9 p).1=0))with d3|d3;rotate_left
 .rw[if_pos (ef7 d3)]at g;obtain⟨an,J,x,y,z⟩:=q A _ d j g;simp only[n8,n9,simprocAttr,G,T,d3,J,x];refine N9 results43 (by simp only[B3,simprocAttr]) y ?_;exact⟨by rw[g],z⟩
 rw[if_neg (by simpa using d3)]at g;simp only[n8,n9,simprocAttr,G,T,d3,U A (o _ (m.trans d))];refine B2 (bA0 v p A (hv.mono (b7 (c.trans d))) hw) (λan E=>?_);obtain⟨Y,V,N,P⟩:=cJ0 ((E.block K (ef5.1 j).1 id).trans j) (aO3 p);have I:o6 B Y:=o8.ext_of (d.trans E) P λb H=>by subst H;exact i
 obtain⟨aC,J,x,y,z⟩:=q Y _ I N g;simp only[n8,simprocAttr,V,J,x];refine N9 results43 (by simp only[B3,simprocAttr]) y ?_;exact⟨by rw[g],z⟩
def S5(v:Value)(p:Pg)(w:World)(hv:SV (m8 w) v p)(hw:B7 p<=1000000):o9 prog 14 #[v] w λu j=>(u = .bool (E0 p)/\o6 w j):=by
 refine p9 [v] func14 rfl ?_;obtain⟨a,e,c,b,f⟩:=W9 (w:=w) (λ_=>False) hv (λ_ h=>h.elim);obtain⟨g,i⟩:=I6.pg_v hv f;simp only[n8,n9,simprocAttr,c,g e (A8 _ _)];refine B2 (bW5 v p e (hv.mono (b7 b)) hw) (λk d=>?_);simp only[n8,n9,simprocAttr,au4];exact o7 results14 ⟨rfl,b.trans d⟩
structure D3 (p:Pg):Prop extends Known p where
 fits:∀it∈(d9 p).l,it.s.kind=4->al4 p it.s=true
 single:∀it∈(d9 p).l,it.s.kind=4->am1 it.s (R8 p it.s.proc)=true
 jump:∀i (hi:i<p.procs.length),ay2 (d9 p) p.procs[i] ((d9 p).of i)=none
def aQ5{s:Sh}:∀{l:List Pr} {i:Nat},U6 s i l=none->∀k (a:k<l.length),ay2 s l[k] (s.of (i+k:Nat))=none
 | [],i,_,k,a=>by simp at a
 | f::l,i,h,k,a=>by
  rw[U6]at h;split at h
  .cases h
  .next b=>
   cases k with
   | zero=>simpa using b
   | succ k=>
    have:=aQ5 h k (by simpa using a);rw[show i+1+k=i+(k+1) by omega]at this;simpa using this
def bM0{s:Sh}{f:Pr}{l:List It}{e:Int×Int}(h:ay2 s f l=some e):e.1=7:=by
 unfold ay2 at h;split at h
 .obtain rfl:=eh1 h;rfl
 .split at h
  .obtain rfl:=eh1 h;rfl
  .cases h
def aQ4{s:Sh}:∀{l:List Pr} {i:Nat} {e:Int×Int},U6 s i l=some e->e.1=7
 | [],i,e,h=>by cases h
 | f::l,i,e,h=>by
  rw[U6]at h;split at h
  .next a=>obtain rfl:=eh1 h;exact bM0 a
  .exact aQ4 h
def G6{p:Pg}(h:E0 p=true):D3 p:=by
 have h:=ef3 h;unfold aO7 at h;split at h
 .simp at h
 split at h
 .next c=>exact absurd h c
 next c=>
 split at h
 .next a=>exact absurd h a
 next a=>
 split at h
 .next b=>exact absurd h b
 next b=>
 have c:(P6 p).1=0:=eq5 c;have a:(af2 p).1=0:=eq5 a;have b:(aL9 p).1=0:=eq5 b;refine⟨bE0 c,λit d f=>?_,λit d f=>?_,λi k=>?_⟩
 .unfold af2 at a;rw[if_neg (by rw[c];simp)]at a;split at a
  .simp at a
  .next g=>
   have:=ep4.1 g it d;rw[ek5 f]at this;simpa using this
 .unfold aO3 at h;rw[if_neg (by rw[a];simp)]at h;split at h
  .simp at h
  .next g=>
   have:=ep4.1 g it d;rw[ek5 f]at this;simpa using this
 .unfold aL9 at b;rw[if_neg (by rw[c];simp)]at b;have j:U6 (d9 p) 0 p.procs=none:=by
   cases hs:U6 (d9 p) 0 p.procs with
   | none=>rfl
   | some e=>
    rw[hs]at b;have:=aQ4 hs;simp at b;omega
  have:=aQ5 j i k
  rwa [ej1]at this
def aX3{s:Sh}:∀{l:List It} {a r:List A9},aB0 s a l = .inl r->∀it∈l,ay3 s it=true
 | [],_,_,_,it,h=>by simp at h
 | x::l,a,r,hj,it,h=>by
  rw[aB0]at hj;split at hj
  .cases hj
  .split at hj
   .next b=>
    rcases eh0.1 h with rfl|h
    .exact b
    .exact aX3 hj it h
   .cases hj
def D3.leads{p:Pg}(b:D3 p){i:Nat}(a:i<p.procs.length):∀it∈(d9 p).of i,ay3 (d9 p) it=true:=by
 have:=b.jump i a;unfold ay2 at this;split at this
 .cases this
 .next h=>exact aX3 h
def dL8{p:Pg}{i x y:Nat}(c:as2 p i x y){b:A9}{a:Int}(h:(d9 p).at i b=some a):Rg x y a:=by
 unfold Sh.at at h;split at h
 .next it hf=>
  obtain rfl:=eh1 h;exact .inr (c.ids it (List.mem_of_find?_eq_some hf))
 .split at h
  .obtain rfl:=eh1 h;exact .inl rfl
  .cases h
def bX8{p:Pg}{i x y:Nat}(c:as2 p i x y){it:It}(a:it∈(d9 p).of i){o:Int}(b:Rg x y o):Rg x y (an1 it.s.thn o)/\Rg x y (an1 it.s.els o):=by
 constructor
 .cases h:it.s.thn with
  | nil=>exact b
  | cons t l=>exact .inr (c.sub it a t (.inl (by rw[h];simp)))
 .cases h:it.s.els with
  | nil=>exact b
  | cons t l=>exact .inr (c.sub it a t (.inr (by rw[h];simp)))
def cG1{p:Pg}(n:D3 p)(hw:B7 p<=1000000){i x y:Nat}(l:i<p.procs.length)(b:as2 p i x y):∀it∈(d9 p).of i,∀t∈(d9 p).goes it,Rg x y t:=by
 intro it hit t ht;have c:=b.next it hit;have k:Rg x y it.s.id:=.inr (b.ids it hit);have B8:=n.leads l it hit;unfold ay3 at B8;unfold Sh.goes at ht;split at ht
 .simp only[eh0,ek1,eq2]at ht;rcases ht with rfl|rfl
  .exact(bX8 b hit c).1
  .exact(bX8 b hit c).2
 split at ht
 .simp only[eh0,ek1,eq2]at ht;rcases ht with rfl|rfl
  .exact(bX8 b hit k).1
  .exact c
 split at ht
 .next f=>
  rw[if_pos (.inl f)]at B8;have d:it.loop≠0:=by simpa using B8
  simp only[eh2]at ht;subst ht;rcases b.loop it hit with h|h
  .exact absurd h d
  .exact b.next _ (b.at_ it.loop h.1 h.2).1
 split at ht
 .next g=>
  rw[if_pos (.inr g)]at B8;have d:it.loop≠0:=by simpa using B8
  simp only[eh2]at ht;subst ht;rcases b.loop it hit with h|h
  .exact absurd h d
  .exact .inr h
 split at ht
 .simp only[eh2]at ht;subst ht;exact .inl rfl
 split at ht
 .next f g _ e=>
  have m:¬(it.s.kind=7\/it.s.kind=8):=λh=>h.elim f g;rw[if_neg m,if_pos e]at B8;simp only[eh2]at ht;subst ht;obtain⟨a,j⟩:=el1.1 B8;rw[j];rw[au6 p hw i l it hit]at j;exact dL8 b j
 .simp only[eh2]at ht;subst ht;exact c
def bl4{α:Type}(a:α->α->Bool){z:α}:∀(l:List α) (p:α),z∈al2 a p l->z∈l
 | [],p,h=>by simp[al2]at h
 | x::l,p,h=>by
  rw[al2]at h;split at h
  .exact ek0 _ (bl4 a l x h)
  .rcases eh0.1 h with rfl|h
   .simp
   .exact ek0 _ (bl4 a l x h)
def cO1{α:Type}(a:α->α->Bool){z:α}:∀(l:List α),z∈al1 a l->z∈l
 | [],h=>by simp[al1]at h
 | x::l,h=>by
  rw[al1]at h;rcases eh0.1 h with rfl|h
  .simp
  .exact ek0 _ (bl4 a l x h)
def bO4{α:Type}(a:α->α->Bool):∀(l:List α) (p:α),(al2 a p l).length<=l.length
 | [],p=>by simp[al2]
 | x::l,p=>by
  have:=bO4 a l x;rw[al2];split<;>simp only[ei2]<;>omega
def bb8{z:Sp}{l:List Sp}(h:z∈ag2 l):z∈l:=(G1 _ _).mem_iff.1 (cO1 _ _ h)
def bb7(l:List Sp):(ag2 l).length<=l.length:=by
 unfold ag2;rw[<-(G1 cV1 l).length_eq];cases Y4 cV1 l with
 | nil=>simp[al1]
 | cons x m=>simp only[al1,ei2];have:=bO4 ar7 m x;omega
def RgS(x y:Nat)(t:Sp):Prop:=(t.src=0\/((x:Int)<t.src/\t.src<=(y:Int)))/\Rg x y t.dst
def ch1{p:Pg}{i x y:Nat}(a:as2 p i x y):Rg x y ((d9 p).first i):=by
 have b:=a.ok.lo;have c:=a.ok.hi;unfold Sh.first atI;simp only[eh6,List.getD,b,c,ek4];split
 .right;omega
 .exact .inl rfl
def bI8{p:Pg}(g:D3 p)(hw:B7 p<=1000000){i x y:Nat}(f:i<p.procs.length)(d:as2 p i x y):∀t∈(d9 p).steps i,RgS x y t:=by
 intro t b;have b:=bb8 b;rcases eh0.1 b with rfl|b
 .exact⟨.inl rfl,ch1 d⟩
 .obtain⟨it,c,b⟩:=ei7.1 b;obtain⟨a,e,rfl⟩:=eh4.1 b;exact⟨.inr (d.ids it c),cG1 g hw f d it c a e⟩
def ci2(s:Sh)(it:It):(s.goes it).length<=2:=by
 unfold Sh.goes
 repeat' split
 all_goals simp
def eo0:=@List.getElem?_range
def OkR(nx:List (List Int)):Prop:=∀a,∀b∈D4 nx a,I2 nx.length b=true
def bW6{nx:List (List Int)}(n:OkR nx):∀(m:Nat) (l:List Int),l.Nodup->(∀b∈l,I2 nx.length b=true)->nx.length<=l.length+m->∀a∈Q6 nx m l,∀b∈D4 nx a,b∈Q6 nx m l
 | 0,l,hn,hk,hl,a,ha,b,hb=>by
  rw[Q6]at ha ⊢;refine eo7 λp=>?_;have t:(b::l).Nodup:=es0.2 ⟨p,hn⟩;have u:=J6 (m:=(List.range nx.length).map λ(i:Nat)=>(i:Int)) t λc f=>by
   have o:I2 nx.length c=true:=by
    rcases eh0.1 f with rfl|f
    .exact n _ _ hb
    .exact hk c f
   have:=B4.1 o;exact eh4.2 ⟨c.toNat,ej7.2 (by omega),by omega⟩
  simp only[ei2,eg5,ek6]at u;omega
 | m+1,l,hn,hk,hl,a,ha,b,hb=>by
  rw[Q6]at ha ⊢;by_cases he:aM1 nx l=[]
  .have e:l++((l.flatMap (D4 nx)).filter λb=>!l.contains b).eraseDups=l:=by
    show l++aM1 nx l=l;rw[he,ei5]
   rw[e]at ha ⊢;have g:∀c∈l,∀d∈D4 nx c,d∈l:=λc f d j=>eo7 λq=>by
    have:d∈aM1 nx l:=aq8.2 ⟨⟨c,f,j⟩,q⟩;rw[he]at this;simp at this
   have r:∀(k:Nat),Q6 nx k l=l:=by
    intro k
    induction k with
    | zero=>rfl
    | succ k v=>rw[Q6,e,v]
   rw[r]at ha ⊢;exact g a ha b hb
  .have s:0<(aM1 nx l).length:=List.length_pos_iff.2 he;refine bW6 n m (l++aM1 nx l) ?_ (λc f=>?_) (by rw[ef4];omega) a ha b hb
   .rw[ek2];refine⟨hn,aR1 _ _ (eg6 _),λc f d j e=>?_⟩;subst e;exact(aq8.1 j).2 f
   .rcases eg1.1 f with h|h
    .exact hk c h
    .obtain⟨⟨d,_,f⟩,_⟩:=aq8.1 h;exact n _ _ f
def ca0{nx:List (List Int)}(f:OkR nx){a b:Int}(e:I2 nx.length a=true):Y8 nx a b=true↔Z5 nx a b:=by
 unfold Y8;rw[e,em1,eg7];constructor
 .exact λh=>aK9 nx.length [a] (λc d=>by simp at d;subst d;exact .refl) b h
 .intro h
  induction h with
  | refl=>exact aV3 _ _ _ (by simp)
  | step _ d g=>exact bW6 f nx.length [a] (by simp) (λc d=>by simp at d;subst d;exact e) (by simp) _ g _ d
def ae6(nx:List (List Int))(stop:Nat->Bool):(aB7 nx stop).length=nx.length:=by simp[aB7]
def aw2(nx:List (List Int))(stop:Nat->Bool)(a:Int):D4 (aB7 nx stop) a=if stop a.toNat=true then[]else D4 nx a:=by
 unfold D4;rw[ae6];by_cases h:0<=a/\a<nx.length
 .have b:a.toNat<nx.length:=by omega
  rw[if_pos h,if_pos h];unfold aB7;rw[List.getD,ei9,eo0 b];simp
 .rw[if_neg h,if_neg h];simp
def aF1{nx:List (List Int)}(h:OkR nx)(stop:Nat->Bool):OkR (aB7 nx stop):=by
 intro a b c;rw[aw2]at c;rw[ae6];split at c
 .simp at c
 .exact h a b c
def cc7{nx:List (List Int)}(h:OkR nx){a b:Int}(c:I2 nx.length a=true)(hw:Z5 nx a b):I2 nx.length b=true:=by
 cases hw with
 | refl=>exact c
 | step _ d=>exact h _ _ d
def bi0{X Y:Rws}(h:leR X Y)(i:Int){x:A9}(a:x∈H6 X i):x∈H6 Y i:=h _ x a
def da8(p:Pg){X Y:Rws}(h:leR X Y)(s:St){x:A9}(a:x∈aj5 p X s):x∈aj5 p Y s:=by
 unfold aj5 at a ⊢;split at a
 .rename_i c;rw[if_pos c];exact a
 .rename_i c;rw[if_neg c];split at a
  .rename_i d;rw[if_pos d];exact a
  .rename_i d;rw[if_neg d];split at a
   .rename_i e;rw[if_pos e];exact a
   .rename_i e;rw[if_neg e];split at a
    .rename_i f;rw[if_pos f];unfold au3 at a ⊢;rcases eg1.1 a with a|a
     .rcases eg1.1 a with a|a
      .exact ei1 _ (ei1 _ a)
      .refine ei1 _ (ej4 _ ?_);obtain⟨z,b,rfl⟩:=eh4.1 a;refine eh4.2 ⟨z,?_,rfl⟩;rw[eh8]at b ⊢;refine⟨b.1,?_⟩;rw[eh5,eg7]at b ⊢;exact⟨b.2.1,bi0 h _ b.2.2⟩
     .refine ej4 _ ?_;rw[eh8]at a ⊢;exact⟨bi0 h _ a.1,a.2⟩
    .simp at a
def dm9(p:Pg){X Y:Rws}(h:leR X Y)(s:St){x:A9}(a:x∈au0 p X s):x∈au0 p Y s:=by
 unfold au0 at a ⊢;rcases eg1.1 a with a|a
 .exact ei1 _ a
 .refine ej4 _ ?_;split at a
  .rename_i b;rw[if_pos b];rcases eg1.1 a with a|a
   .exact ei1 _ a
   .exact ej4 _ (bi0 h _ a)
  .simp at a
def bQ9{l:List It}{f g:It->List A9}(h:∀it,∀x∈f it,x∈g it):leR (l.map λit=>E3 (f it)) (l.map λit=>E3 (g it)):=by
 intro i x a;rw[List.getD,ei9]at a ⊢;cases hi:l[i]? with
 | none=>rw[hi]at a;simp at a
 | some it=>
  rw[hi]at a;simp only[el5,ek4]at a ⊢;exact J7.2 (h it x (J7.1 a))
def bu1{n:Nat}{f g:Nat->List A9}(h:∀i,i<n->∀x∈f i,x∈g i):leR ((List.range n).map λi=>E3 (f i)) ((List.range n).map λi=>E3 (g i)):=by
 intro i x a;rw[List.getD,ei9]at a ⊢;rcases ej6 i n with b|b
 .rw[eo0 b]at a ⊢;simp only[el5,ek4]at a ⊢;exact J7.2 (h i b x (J7.1 a))
 .rw[eo4 (by simpa using b)]at a;simp at a
def bu2{n B:Nat}{f:Nat->List A9}(m:Nat->List A9)(h:∀i,i<n->∀x∈f i,x∈m i)(c:∀i,i<n->(m i).length<=B):O7 n B ((List.range n).map λi=>E3 (f i)):=by
 refine⟨by simp,λr b=>?_,λr b=>?_⟩
 .obtain⟨i,_,rfl⟩:=eh4.1 b;exact V5 _
 .obtain⟨i,d,rfl⟩:=eh4.1 b;have a:=ej7.1 d;exact ef9 (J6 (az0 (V5 _)) λx e=>h i a x (J7.1 e)) (c i a)
def bT6{p:Pg}{i:Nat}{n:A9}(h:ad1 p i n=true):n∈af1::(p.globals++(p.procs.getD i bY8).params.map (·.name)):=by
 unfold ad1 R2 at h;rw[eq6,eq6,eg7,eg7]at h;rcases h with(h|h)|h
 .rw[ef3 h];simp
 .simp[h]
 .exact ek0 _ (ej4 _ (eh4.2 ⟨_,h,rfl⟩))
def T9{p:Pg}(hm:M8 p=true){i:Nat}(j:i<p.procs.length):p.procs[i].params.length<=8:=by
 unfold M8 at hm;rw[eh5]at hm;have e:=hm.2;have c:∀(l:List Pr) (n:Int),(l.foldlM (λn f=>X6 f n) n).isSome=true->∀f∈l,f.params.length<=8:=by
  intro l
  induction l with
  | nil=>intro n _ f b;simp at b
  | cons g l q=>
   intro n h f b;rw[List.foldlM_cons]at h;obtain⟨k,o⟩:=el1.1 h;obtain⟨m,a,d⟩:=el4.1 o;rcases eh0.1 b with rfl|b
   .unfold X6 at a;split at a
    .cases a
    .rename_i r;omega
   .exact q m (by rw[d];rfl) f b
 exact c _ _ e _ (eg2 j)
def T0{p:Pg}(hm:M8 p=true):p.globals.length<=16/\p.procs.length<=16:=by
 unfold M8 at hm;simp only[eh5,ei8]at hm;exact⟨hm.1.1.1,hm.1.1.2⟩
def cV8{p:Pg}(hm:M8 p=true){i:Nat}(a:i<p.procs.length):(af1::(p.globals++(p.procs.getD i bY8).params.map (·.name))).length<=25:=by
 have b:=T9 hm a;have c:=(T0 hm).1;rw[List.getD,ef1 a];simp only[ei2,ef4,eg5,ek4];omega
def bg4{p:Pg}{defs:Rws}{i:Nat}{x:A9}(h:x∈ag1 p defs i):ad1 p i x=true:=by
 unfold ag1 at h;obtain⟨it,_,h⟩:=ei7.1 h;exact(eh8.1 h).2
def ba4{p:Pg}(hm:M8 p=true):aL5 (G8 p) p.procs.length 25 where
 mono X Y h:=by
  refine bu1 λi b x a=>?_;unfold ag1 at a ⊢;obtain⟨it,c,a⟩:=ei7.1 a;refine ei7.2 ⟨it,c,?_⟩;rw[eh8]at a ⊢;exact⟨bi0 (bQ9 λit x a=>da8 p h _ a) _ a.1,a.2⟩
 ok X:=bu2 _ (λi b x a=>bT6 (bg4 a)) λi b=>cV8 hm b
section
variable {wy:Wy} {outs:List A9} {uses uses' defs:Rws} {name:A9}
def bR2(b:OkR wy.net)(d:wy.net.length=wy.n.toNat)(e:0<wy.n):aJ2 wy outs uses defs name=true↔∃a:Nat,a<wy.n.toNat/\cw4 wy outs uses name a=true/\Z5 (aB7 wy.net (be7 wy uses defs name)) 0 a:=by
 unfold aJ2;rw[es5];constructor
 .rintro⟨a,c,h⟩;rw[eh5,ca0 (aF1 b _) (by rw[ae6,d];exact B4.2 ⟨by omega,by omega⟩)]at h;exact⟨a,ej7.1 c,h⟩
 .rintro⟨a,c,h⟩;refine⟨a,ej7.2 c,?_⟩;rw[eh5,ca0 (aF1 b _) (by rw[ae6,d];exact B4.2 ⟨by omega,by omega⟩)];exact h
def dg3(j:OkR wy.net)(k:wy.net.length=wy.n.toNat)(n:0<wy.n)(p:leR uses uses')(h:aJ2 wy outs uses defs name=true):aJ2 wy outs uses' defs name=true:=by
 rw[bR2 j k n]at h ⊢;obtain⟨a,o,f,q⟩:=h;have l:∀c,Z5 (aB7 wy.net (be7 wy uses defs name)) 0 c->Z5 (aB7 wy.net (be7 wy uses' defs name)) 0 c\/∃b:Nat,b<wy.n.toNat/\cw4 wy outs uses' name b=true/\Z5 (aB7 wy.net (be7 wy uses' defs name)) 0 b:=by
  intro c e
  induction e with
  | refl=>exact .inl .refl
  | @step b c s e d=>
   rcases d with d|d
   .rw[aw2]at e;split at e
    .simp at e
    .rename_i g;cases hs':be7 wy uses' defs name b.toNat
     .refine .inl (.step d ?_);rw[aw2,hs',if_neg (by simp)];exact e
     .right;have i:=cc7 (aF1 j _) (by rw[ae6,k];exact B4.2 ⟨by omega,by omega⟩) d;rw[ae6,k]at i;obtain⟨m,r⟩:=B4.1 i;refine⟨b.toNat,by omega,?_,by rw[Int.toNat_of_nonneg m];exact d⟩;unfold be7 at g hs';unfold cw4;by_cases hN:((b.toNat:Nat):Int)=wy.n-1
      .rw[ek5 hN]at g;simp at g
      .rw[el3 hN]at g hs';rw[if_neg hN];simp only[er3,eh5,eq6,not_and,not_or]at g hs';rw[eh5];refine⟨hs'.1,?_⟩;rcases hs'.2 with h|h
       .exact h
       .exact absurd h (g hs'.1).2
   .exact .inr d
 rcases l a q with h|h
 .refine⟨a,o,?_,h⟩;unfold cw4 at f ⊢;split at f
  .rename_i hN;rw[if_pos hN];exact f
  .rename_i hN;rw[if_neg hN];rw[eh5,eg7]at f ⊢;exact⟨f.1,bi0 p _ f.2⟩
 .exact h
end
def bm4{p:Pg}(hm:M8 p=true)(outs defs:Rws)(c:∀i,i<p.procs.length->OkR (D7 (d9 p) i).net/\(D7 (d9 p) i).net.length=(D7 (d9 p) i).n.toNat/\0<(D7 (d9 p) i).n):aL5 (S7 p outs defs) p.procs.length 25 where
 mono X Y h:=by
  refine bu1 λi b x a=>?_;unfold aL8 at a ⊢;rw[eh8]at a ⊢;obtain⟨d,e,f⟩:=c i b;exact⟨a.1,dg3 d e f (bQ9 λit x a=>dm9 p h _ a) a.2⟩
 ok X:=bu2 (λ_=>p.globals++[af1]) (λi b x a=>(eh8.1 a).1) λi b=>by
  have:=(T0 hm).1;simp only[ef4,ei6];omega
def G2{n:Nat}{l:List Int}:(T7 n l).length=n:=by simp[T7]
def ay4{n:Nat}{l:List Int}{b:Int}:B1 (T7 n l) b=true↔I2 n b=true/\b∈l:=by
 unfold B1;rw[G2,eh5];refine and_congr_right λc=>?_;have d:=B4.1 c;have a:b.toNat<n:=by omega
 have e:((b.toNat:Nat):Int)=b:=by omega
 simp[T7,List.getD_eq_getElem?_getD,ei9,eo0 a,e]
def ag8{S:List Bool}{b:Int}:b∈af0 S↔B1 S b=true:=by
 unfold af0 B1;simp only[eh4,eh8,ej7,eh5];constructor
 .rintro⟨a,⟨d,c⟩,rfl⟩;exact⟨B4.2 ⟨by omega,by omega⟩,by simpa using c⟩
 .rintro⟨d,c⟩;have:=B4.1 d;exact⟨b.toNat,⟨by omega,c⟩,by omega⟩
def cy5{S:List Bool}:(af0 S).Nodup:=by
 unfold af0;refine List.Pairwise.map _ (λa b h=>?_) (List.Pairwise.filter _ List.nodup_range);exact λe=>h (by omega)
def K7{nx:List (List Int)}{S:List Bool}:(I3 nx S).length=S.length:=G2
def bu9{nx:List (List Int)}:∀(m:Nat) (l:List Int),∀b∈Q6 nx m l,∃a∈l,Z5 nx a b
 | 0,l,b,hb=>⟨b,hb,.refl⟩
 | m+1,l,b,hb=>by
  rw[Q6]at hb;obtain⟨a,c,e⟩:=bu9 m _ b hb;rcases eg1.1 c with c|c
  .exact⟨a,c,e⟩
  .obtain⟨⟨d,g,f⟩,_⟩:=aq8.1 c;exact⟨d,g,(Z5.one f).trans e⟩
def R1{nx:List (List Int)}{S:List Bool}(j:OkR nx)(k:nx.length=S.length){b:Int}:
  B1 (I3 nx S) b=true↔∃a,B1 S a=true/\Z5 nx a b:=by
 unfold I3;rw[ay4];have e:∀c∈af0 S,I2 nx.length c=true:=λc i=>by rw[k];exact V8 (ag8.1 i)
 constructor
 .rintro⟨_,h⟩;obtain⟨a,g,f⟩:=bu9 _ _ b h;exact⟨a,ag8.1 g,f⟩
 .rintro⟨a,g,f⟩;have d:=ag8.2 g;refine⟨by rw[<-k];exact cc7 j (e a d) f,?_⟩
  induction f with
  | refl=>exact aV3 _ _ _ d
  | step _ i l=>exact bW6 j nx.length _ cy5 e (by omega) _ l _ i
def bA4{S T:List Bool}(f:S.length=T.length)(h:∀b,B1 S b=true↔B1 T b=true):S=T:=by
 refine em6 f λk d e=>?_;have:=h (k:Int);unfold B1 at this;have a:I2 S.length (k:Int)=true:=B4.2 ⟨by omega,by omega⟩;have c:I2 T.length (k:Int)=true:=B4.2 ⟨by omega,by omega⟩;rw[a,c,em1,em1]at this;simp only[eh6,List.getD_eq_getElem?_getD,ef1 d,ef1 e,ek4]at this;exact eq7.2 this
def bd4{V:List Vx}{v:Vx}{a:Nat}(h:atV V v=some a):V[a]?=some v:=by
 unfold atV at h;obtain⟨b,c,_⟩:=List.findIdx?_eq_some_iff_getElem.1 h;rw[ef1 b];exact eg8 some (ef3 c)
def cY3{V:List Vx}{v:Vx}{a:Nat}(h:atV V v=some a):a<V.length:=(ef6.1 (bd4 h)).1
def ab2{V:List Vx}{v:Vx}:(atV V v).isSome=true↔v∈V:=by
 unfold atV;rw[List.findIdx?_isSome,es5];simp
def dq0{V:List Vx}(hn:V.Nodup){v:Vx}{a:Nat}(h:V[a]?=some v):atV V v=some a:=by
 have hm:v∈V:=eh3 h;obtain⟨b,e⟩:=el1.1 (ab2.2 hm);obtain⟨g,c⟩:=ef6.1 h;obtain⟨i,d⟩:=ef6.1 (bd4 e);have f:=em0.1 hn;have:a=b:=by
  rcases Nat.lt_trichotomy a b with h|h|h
  .exact absurd (c.trans d.symm) (f a b g i h)
  .exact h
  .exact absurd (d.trans c.symm) (f b a i g h)
 rw[e,this]
def aU4{V:List Vx}(b:0<V.length)(v:Vx):E5 V v<V.length:=by
 unfold E5;cases h:atV V v with
 | none=>exact b
 | some a=>exact cY3 h
def cH8{n:Nat}{f:Nat->List Int}{a b:Int}:b∈D4 ((List.range n).map f) a↔I2 n a=true/\b∈f a.toNat:=by
 unfold D4;rw[eg5,ek6];by_cases h:0<=a/\a<(n:Int)
 .have c:a.toNat<n:=by omega
  rw[if_pos h,List.getD_eq_getElem?_getD,ei9,eo0 c];simp[B4.2 h]
 .rw[if_neg h];simp only[ek1,false_iff];exact λd=>h (B4.1 d.1)
def ay6{V:List Vx}{L:List Eg}{ks:List Int}:(R4 V L ks).length=V.length:=by simp[R4]
def ah0{V:List Vx}{L:List Eg}{ks:List Int}:(ab7 V L ks).length=V.length:=by simp[ab7]
def ay5{V:List Vx}{L:List Eg}{ks:List Int}{a b:Int}:b∈D4 (R4 V L ks) a↔I2 V.length a=true/\∃e∈L,e.kind∈ks/\((E5 V e.src:Nat):Int)=a/\((E5 V e.dst:Nat):Int)=b:=by
 unfold R4;rw[cH8];refine and_congr_right λh=>?_;have:=B4.1 h;simp only[eh4,eh8,eh5,eg7,ei8];constructor
 .rintro⟨e,⟨c,d,g⟩,f⟩;exact⟨e,c,d,by omega,f⟩
 .rintro⟨e,c,d,g,f⟩;exact⟨e,⟨c,d,by omega⟩,f⟩
def ck7{V:List Vx}{L:List Eg}{ks:List Int}{a b:Int}:b∈D4 (ab7 V L ks) a↔I2 V.length a=true/\∃e∈L,e.kind∈ks/\((E5 V e.dst:Nat):Int)=a/\((E5 V e.src:Nat):Int)=b:=by
 unfold ab7;rw[cH8];refine and_congr_right λh=>?_;have:=B4.1 h;simp only[eh4,eh8,eh5,eg7,ei8];constructor
 .rintro⟨e,⟨c,d,g⟩,f⟩;exact⟨e,c,d,by omega,f⟩
 .rintro⟨e,c,d,g,f⟩;exact⟨e,⟨c,d,by omega⟩,f⟩
def aJ5{V:List Vx}(a:0<V.length)(v:Vx):I2 V.length ((E5 V v:Nat):Int)=true:=B4.2 ⟨by omega,by have:=aU4 a v;omega⟩
def aF0{V:List Vx}{L:List Eg}{ks:List Int}(c:0<V.length):OkR (R4 V L ks):=λa b d=>by
 obtain⟨_,e,_,_,_,rfl⟩:=ay5.1 d;rw[ay6];exact aJ5 c _
def ar1{V:List Vx}{L:List Eg}{ks:List Int}(c:0<V.length):OkR (ab7 V L ks):=λa b d=>by
 obtain⟨_,e,_,_,_,rfl⟩:=ck7.1 d;rw[ah0];exact aJ5 c _
def bR5{V:List Vx}{L:List Eg}{ks:List Int}(f:0<V.length){a b:Int}:b∈D4 (R4 V L ks) a↔a∈D4 (ab7 V L ks) b:=by
 rw[ay5,ck7];constructor
 .rintro⟨_,e,c,d,rfl,rfl⟩;exact⟨aJ5 f _,e,c,d,rfl,rfl⟩
 .rintro⟨_,e,c,d,rfl,rfl⟩;exact⟨aJ5 f _,e,c,d,rfl,rfl⟩
def X4{V:List Vx}{L:List Eg}{ks:List Int}(e:0<V.length){a b:Int}:Z5 (R4 V L ks) a b↔Z5 (ab7 V L ks) b a:=by
 constructor
 .intro h
  induction h with
  | refl=>exact .refl
  | step _ c d=>exact(Z5.one ((bR5 e).1 c)).trans d
 .intro h
  induction h with
  | refl=>exact .refl
  | step _ c d=>exact(Z5.one ((bR5 e).2 c)).trans d
def dD2(V:List Vx)(L:List Eg)(a b:Int):Prop:=∃m,Z5 (R4 V L [1,2,3,6]) a m/\Z5 (R4 V L [1,2,3,4,5]) m b
def bg2{α:Type}[BEq α][LawfulBEq α]:∀(n:Nat) (l:List α),l.length<=n->l.eraseDups.Nodup
 | _,[],_=>by simp
 | 0,x::l,h=>by simp at h
 | n+1,x::l,h=>by
  rw[List.eraseDups_cons,es0];refine⟨λhm=>?_,bg2 n _ (ef9 (eh9 _ _) (by simpa using h))⟩;rw[List.mem_eraseDups,eh8]at hm;simp at hm
def aE7{V:List Vx}{b:Nat}{a:A9}{x e:Eg}:e∈ax9 V b a x↔(x.kind=6/\E5 V x.src=b)/\∃v,V[E5 V x.dst]?=some v/\(⟨v.proc,5,v.id,a⟩:Vx)∈V/\e=⟨⟨v.proc,5,v.id,a⟩,v,3⟩:=by
 unfold ax9;by_cases h:x.kind=(6:Int)/\E5 V x.src=b
 .rw[if_pos h];cases hv:V[(E5 V x.dst:Nat)]? with
  | none=>simp
  | some v=>
   by_cases h2:(atV V ⟨v.proc,5,v.id,a⟩).isSome=true
   .simp[h2,h,ab2.1 h2]
   .have d:(⟨v.proc,5,v.id,a⟩:Vx)∉V:=λc=>h2 (ab2.2 c);simp[h2,d]
 .rw[if_neg h];simp only[ek1,false_iff];exact λc=>h c.1
def aN5(V:List Vx)(L:List Eg)(e:Eg):Prop:=
 ∃(a:Nat) (c:Vx) (i:Int) (b:Vx),V[a]?=some c/\c.kind=4/\Z5 (R4 V L [1,2,3]) i (a:Int)/\V[i.toNat]?=some b/\b.kind=3/\∃x∈L,e∈ax9 V a b.slot x
def df9{V:List Vx}{L:List Eg}{e:Eg}:e∈cb1 V L↔aN5 V L e:=by
 unfold cb1 aN5;simp only[ei7,ej7];have k:∀(b:Nat),0<V.length->∀i:Int,i∈af0 (I3 (ab7 V L [1,2,3]) (T7 V.length [(b:Int)]))↔I2 V.length (b:Int)=true/\Z5 (R4 V L [1,2,3]) i (b:Int):=λb f i=>by
  rw[ag8,R1 (ar1 f) (by rw[ah0,G2])];constructor
  .rintro⟨a,q,g⟩;obtain⟨j,l⟩:=ay4.1 q;simp at l;subst l;exact⟨j,(X4 f).2 g⟩
  .rintro⟨j,g⟩;exact⟨_,ay4.2 ⟨j,by simp⟩,(X4 f).1 g⟩
 constructor
 .rintro⟨b,d,c⟩;have f:0<V.length:=by omega
  rw[ef1 d]at c;dsimp only at c;by_cases hk:V[b].kind=(4:Int)
  .rw[if_neg (λh=>h hk)]at c;unfold cb2 at c;obtain⟨i,r,c⟩:=ei7.1 c;obtain⟨_,g⟩:=(k b f i).1 r;cases hvi:V[i.toNat]? with
   | none=>rw[hvi]at c;simp at c
   | some n=>
    rw[hvi]at c;dsimp only at c;by_cases hki:n.kind=(3:Int)
    .rw[if_neg (λh=>h hki)]at c;obtain⟨x,m,c⟩:=ei7.1 c;exact⟨b,V[b],i,n,ef1 d,hk,g,hvi,hki,x,m,c⟩
    .rw[if_pos hki]at c;simp at c
  .rw[if_pos hk]at c;simp at c
 .rintro⟨b,t,i,n,j,l,g,o,p,x,m,c⟩;obtain⟨d,s⟩:=ef6.1 j;have f:0<V.length:=by omega
  refine⟨b,d,?_⟩;rw[j];dsimp only;rw[if_neg (λh=>h l)];unfold cb2;refine ei7.2 ⟨i,(k b f i).2 ⟨B4.2 ⟨by omega,by omega⟩,g⟩,?_⟩;rw[o];dsimp only;rw[if_neg (λh=>h p)];exact ei7.2 ⟨x,m,c⟩
def bK1{V:List Vx}{L M:List Eg}{ks:List Int}(h:∀e∈L,e∈M){a b:Int}(hw:Z5 (R4 V L ks) a b):Z5 (R4 V M ks) a b:=by
 induction hw with
 | refl=>exact .refl
 | step _ i k=>
  obtain⟨c,e,j,d,f,g⟩:=ay5.1 i;exact .step k (ay5.2 ⟨c,e,h e j,d,f,g⟩)
def aN5.le{V:List Vx}{L M:List Eg}(h:∀e∈L,e∈M){e:Eg}(a:aN5 V L e):aN5 V M e:=by
 obtain⟨b,m,i,l,c,d,j,f,g,x,k,a⟩:=a;exact⟨b,m,i,l,c,d,bK1 h j,f,g,x,h x k,a⟩
def bV4(V:List Vx)(E S:List Eg):Prop:=∀e,aN5 V (E++S) e->e∈S
def bF1{V:List Vx}{E S:List Eg}{e:Eg}:e∈Z0 V E S↔e∈S\/aN5 V (E++S) e:=by
 unfold Z0;rw[eg1,List.mem_eraseDups,eh8,df9];by_cases h:e∈S
 .simp[h]
 .simp[h]
def bD8{V:List Vx}{E C:List Eg}(c:bV4 V E C):∀(k:Nat) (S:List Eg),(∀e∈S,e∈C)->∀e∈G7 (Z0 V E) k S,e∈C
 | 0,S,h,e,he=>h e he
 | k+1,S,h,e,he=>by
  refine bD8 c k _ (λx a=>?_) e he;rcases bF1.1 a with a|a
  .exact h x a
  .refine c x (a.le λy b=>?_);rcases eg1.1 b with b|b
   .exact ei1 _ b
   .exact ej4 _ (h y b)
def bZ7(V:List Vx):List Eg:=V.flatMap λa=>V.map λb=>⟨a,b,3⟩
def cT3{V:List Vx}:(bZ7 V).length=V.length*V.length:=by
 have:∀(l:List Vx),(l.flatMap λa=>V.map λb=>(⟨a,b,3⟩:Eg)).length=l.length*V.length:=λl=>by
  induction l with
  | nil=>simp
  | cons x l c=>rw[ep2,ef4,c,eg5,ei2,Nat.succ_mul];omega
 exact this V
def aN5.pair{V:List Vx}{L:List Eg}{e:Eg}(h:aN5 V L e):e∈bZ7 V:=by
 obtain⟨_,_,_,_,_,_,_,_,_,x,_,a⟩:=h;obtain⟨_,v,b,hm,rfl⟩:=aE7.1 a;exact ei7.2 ⟨_,hm,eh4.2 ⟨v,eh3 b,rfl⟩⟩
def cA4{V:List Vx}{E S:List Eg}(h:S.Nodup):(Z0 V E S).Nodup:=by
 unfold Z0;rw[ek2];refine⟨h,bg2 _ _ (eg6 _),λa d b c e=>?_⟩;subst e;rw[List.mem_eraseDups,eh8]at c;simp at c;exact c.2 d
def iter_ok{V:List Vx}{E:List Eg}:∀(k:Nat) (S:List Eg),S.Nodup->(∀e∈S,e∈bZ7 V)->(G7 (Z0 V E) k S).Nodup/\∀e∈G7 (Z0 V E) k S,e∈bZ7 V
 | 0,S,h1,h2=>⟨h1,h2⟩
 | k+1,S,h1,h2=>iter_ok k _ (cA4 h1) λe a=>by
  rcases bF1.1 a with h|h
  .exact h2 e h
  .exact h.pair
def cV2{V:List Vx}{E S:List Eg}(h:Z0 V E S≠S):S.length+1<=(Z0 V E S).length:=by
 unfold Z0 at h ⊢;rw[ef4];cases hz:((cb1 V (E++S)).filter λe=>!S.contains e).eraseDups with
 | nil=>rw[hz]at h;simp at h
 | cons x l=>simp
def bP8{V:List Vx}{E:List Eg}:∃k,k<=V.length*V.length+1/\Z0 V E (G7 (Z0 V E) k [])=G7 (Z0 V E) k []:=by
 refine eo7 λc=>?_;have a:∀k,k<=V.length*V.length+1->k<=(G7 (Z0 V E) k []).length:=by
  intro k
  induction k with
  | zero=>intro _;exact eg3 _
  | succ k g=>
   intro i;rw[ac7];have:=cV2 (λb=>c ⟨k,by omega,b⟩);have:=g (by omega);omega
 have h:=a _ (eg6 _);obtain⟨d,f⟩:=iter_ok (V:=V) (E:=E) (V.length*V.length+1) [] (by simp) (λe b=>by simp at b);have:=J6 d f;rw[cT3]at this;omega
def aS0{V:List Vx}{E:List Eg}:bV4 V E (bj3 V E):=by
 obtain⟨k,c,a⟩:=bP8 (V:=V) (E:=E);unfold bj3;rw[aH6 k _ _ c a];intro e b;rw[<-a];exact bF1.2 (.inr b)
def bJ0{V:List Vx}{E C:List Eg}(a:bV4 V E C):∀e∈bj3 V E,e∈C:=by
 obtain⟨k,c,d⟩:=bP8 (V:=V) (E:=E);unfold bj3;rw[aH6 k _ _ c d];exact bD8 a k [] (λe b=>by simp at b)
def dw7{V:List Vx}{E C:List Eg}(a:bV4 V E C)(b:∀e∈C,e∈bj3 V E):∀e,e∈C↔e∈bj3 V E:=λe=>⟨b e,bJ0 a e⟩
def cV6{V:List Vx}{E C:List Eg}(c:∀e∈C,e∈bj3 V E){e:Eg}(b:aN5 V (E++C) e):e∈bj3 V E:=aS0 e (b.le λy a=>by
 rcases eg1.1 a with a|a
 .exact ei1 _ a
 .exact ej4 _ (c y a))
def bk0{V:List Vx}{L M:List Eg}{ks:List Int}(h:∀e,e∈L↔e∈M){a b:Int}:Z5 (R4 V L ks) a b↔Z5 (R4 V M ks) a b:=⟨bK1 λe c=>(h e).1 c,bK1 λe c=>(h e).2 c⟩
end Go.Proofs.YtggahhenbbgffaaGreat
namespace Go.Proofs
open Go.Shelf
def Tryz.lySortV_ren:Go.Shelf.Ren:=⟨fun|6=>132|15=>65|14=>179|28=>100|29=>101|20=>222|21=>223|22=>224|23=>225|24=>226|25=>227|26=>228|27=>229|46=>257|47=>151|48=>152|49=>258|50=>259|57=>280|n=>n,fun|22=>22|24=>26|25=>202|3=>3|39=>129|0=>0|53=>165|55=>167|4=>4|46=>158|45=>157|50=>98|5=>5|9=>9|66=>225|70=>229|76=>271|77=>272|n=>n,fun|n=>n⟩
def Tryz.lySortV:Go.Proofs.SlLaysF0.n6 Tryz.prog Tryz.lySortV_ren:={
 mixed:=by kernel_rfl
 f6:=⟨Tryz.f132.name,by decide,Tryz.func132.trans (congrArg some (by kernel_rfl))⟩
 f14:=⟨Tryz.f179.name,by decide,Tryz.func179.trans (congrArg some (by kernel_rfl))⟩
 f15:=Tryz.func65.trans (congrArg some (by kernel_rfl))
 f20:=⟨Tryz.f222.name,by decide,Tryz.func222.trans (congrArg some (by kernel_rfl))⟩
 f21:=⟨Tryz.f223.name,by decide,Tryz.func223.trans (congrArg some (by kernel_rfl))⟩
 f22:=⟨Tryz.f224.name,by decide,Tryz.func224.trans (congrArg some (by kernel_rfl))⟩
 f23:=⟨Tryz.f225.name,by decide,Tryz.func225.trans (congrArg some (by kernel_rfl))⟩
 f24:=⟨Tryz.f226.name,by decide,Tryz.func226.trans (congrArg some (by kernel_rfl))⟩
 f25:=⟨Tryz.f227.name,by decide,Tryz.func227.trans (congrArg some (by kernel_rfl))⟩
 f26:=⟨Tryz.f228.name,by decide,Tryz.func228.trans (congrArg some (by kernel_rfl))⟩
 f27:=⟨Tryz.f229.name,by decide,Tryz.func229.trans (congrArg some (by kernel_rfl))⟩
 f28:=Tryz.func100.trans (congrArg some (by kernel_rfl))
 f29:=Tryz.func101.trans (congrArg some (by kernel_rfl))
 f46:=⟨Tryz.f257.name,by decide,Tryz.func257.trans (congrArg some (by kernel_rfl))⟩
 f47:=Tryz.func151.trans (congrArg some (by kernel_rfl))
 f48:=Tryz.func152.trans (congrArg some (by kernel_rfl))
 f49:=⟨Tryz.f258.name,by decide,Tryz.func258.trans (congrArg some (by kernel_rfl))⟩
 f50:=⟨Tryz.f259.name,by decide,Tryz.func259.trans (congrArg some (by kernel_rfl))⟩
 f57:=⟨Tryz.f280.name,by decide,Tryz.func280.trans (congrArg some (by kernel_rfl))⟩
 t0:=Tryz.underlying0
 a0:=Tryz.isAgg0
 z0:=Tryz.sizeOf0
 v0:=Tryz.zeroValue0
 t3:=Tryz.underlying3
 a3:=Tryz.isAgg3
 z3:=Tryz.sizeOf3
 v3:=Tryz.zeroValue3
 t4:=Tryz.underlying4
 a4:=Tryz.isAgg4
 z4:=Tryz.sizeOf4
 v4:=Tryz.zeroValue4
 t5:=Tryz.underlying5
 a5:=Tryz.isAgg5
 z5:=Tryz.sizeOf5
 v5:=Tryz.zeroValue5
 t9:=Tryz.underlying9
 a9:=Tryz.isAgg9
 z9:=Tryz.sizeOf9
 v9:=Tryz.zeroValue9
 t22:=Tryz.underlying22
 a22:=Tryz.isAgg22
 z22:=Tryz.sizeOf22
 v22:=Tryz.zeroValue22
 t25:=Tryz.underlying202
 a25:=Tryz.isAgg202
 z25:=Tryz.sizeOf202
 v25:=Tryz.zeroValue202
 t39:=Tryz.underlying129
 a39:=Tryz.isAgg129
 z39:=Tryz.sizeOf129
 v39:=Tryz.zeroValue129
 t45:=Tryz.underlying157
 a45:=Tryz.isAgg157
 z45:=Tryz.sizeOf157
 v45:=Tryz.zeroValue157
 t46:=Tryz.underlying158
 a46:=Tryz.isAgg158
 z46:=Tryz.sizeOf158
 v46:=Tryz.zeroValue158
 t50:=Tryz.underlying98
 a50:=Tryz.isAgg98
 z50:=Tryz.sizeOf98
 v50:=Tryz.zeroValue98
 t53:=Tryz.underlying165
 a53:=Tryz.isAgg165
 z53:=Tryz.sizeOf165
 v53:=Tryz.zeroValue165
 t55:=Tryz.underlying167
 a55:=Tryz.isAgg167
 z55:=Tryz.sizeOf167
 v55:=Tryz.zeroValue167
 t66:=Tryz.underlying225
 a66:=Tryz.isAgg225
 z66:=Tryz.sizeOf225
 v66:=Tryz.zeroValue225
 t70:=Tryz.underlying229
 a70:=Tryz.isAgg229
 z70:=Tryz.sizeOf229
 v70:=Tryz.zeroValue229
 t76:=Tryz.underlying271
 a76:=Tryz.isAgg271
 z76:=Tryz.sizeOf271
 v76:=Tryz.zeroValue271
 t77:=Tryz.underlying272
 a77:=Tryz.isAgg272
 z77:=Tryz.sizeOf272
 v77:=Tryz.zeroValue272}
def Tryz.lySortF_ren:Go.Shelf.Ren:=⟨fun|6=>189|15=>65|14=>237|28=>100|29=>101|20=>264|21=>265|22=>266|23=>267|24=>268|25=>269|26=>270|27=>271|46=>287|47=>151|48=>152|49=>288|50=>289|57=>305|n=>n,fun|22=>207|24=>210|25=>259|3=>3|39=>129|0=>0|53=>165|55=>167|4=>4|46=>158|45=>157|50=>98|5=>5|9=>9|66=>225|70=>229|76=>271|77=>272|n=>n,fun|n=>n⟩
def Tryz.lySortF:Go.Proofs.SlLaysF0.n6 Tryz.prog Tryz.lySortF_ren:={
 mixed:=by kernel_rfl
 f6:=⟨Tryz.f189.name,by decide,Tryz.func189.trans (congrArg some (by kernel_rfl))⟩
 f14:=⟨Tryz.f237.name,by decide,Tryz.func237.trans (congrArg some (by kernel_rfl))⟩
 f15:=Tryz.func65.trans (congrArg some (by kernel_rfl))
 f20:=⟨Tryz.f264.name,by decide,Tryz.func264.trans (congrArg some (by kernel_rfl))⟩
 f21:=⟨Tryz.f265.name,by decide,Tryz.func265.trans (congrArg some (by kernel_rfl))⟩
 f22:=⟨Tryz.f266.name,by decide,Tryz.func266.trans (congrArg some (by kernel_rfl))⟩
 f23:=⟨Tryz.f267.name,by decide,Tryz.func267.trans (congrArg some (by kernel_rfl))⟩
 f24:=⟨Tryz.f268.name,by decide,Tryz.func268.trans (congrArg some (by kernel_rfl))⟩
 f25:=⟨Tryz.f269.name,by decide,Tryz.func269.trans (congrArg some (by kernel_rfl))⟩
 f26:=⟨Tryz.f270.name,by decide,Tryz.func270.trans (congrArg some (by kernel_rfl))⟩
 f27:=⟨Tryz.f271.name,by decide,Tryz.func271.trans (congrArg some (by kernel_rfl))⟩
 f28:=Tryz.func100.trans (congrArg some (by kernel_rfl))
 f29:=Tryz.func101.trans (congrArg some (by kernel_rfl))
 f46:=⟨Tryz.f287.name,by decide,Tryz.func287.trans (congrArg some (by kernel_rfl))⟩
 f47:=Tryz.func151.trans (congrArg some (by kernel_rfl))
 f48:=Tryz.func152.trans (congrArg some (by kernel_rfl))
 f49:=⟨Tryz.f288.name,by decide,Tryz.func288.trans (congrArg some (by kernel_rfl))⟩
 f50:=⟨Tryz.f289.name,by decide,Tryz.func289.trans (congrArg some (by kernel_rfl))⟩
 f57:=⟨Tryz.f305.name,by decide,Tryz.func305.trans (congrArg some (by kernel_rfl))⟩
 t0:=Tryz.underlying0
 a0:=Tryz.isAgg0
 z0:=Tryz.sizeOf0
 v0:=Tryz.zeroValue0
 t3:=Tryz.underlying3
 a3:=Tryz.isAgg3
 z3:=Tryz.sizeOf3
 v3:=Tryz.zeroValue3
 t4:=Tryz.underlying4
 a4:=Tryz.isAgg4
 z4:=Tryz.sizeOf4
 v4:=Tryz.zeroValue4
 t5:=Tryz.underlying5
 a5:=Tryz.isAgg5
 z5:=Tryz.sizeOf5
 v5:=Tryz.zeroValue5
 t9:=Tryz.underlying9
 a9:=Tryz.isAgg9
 z9:=Tryz.sizeOf9
 v9:=Tryz.zeroValue9
 t22:=Tryz.underlying207
 a22:=Tryz.isAgg207
 z22:=Tryz.sizeOf207
 v22:=Tryz.zeroValue207
 t25:=Tryz.underlying259
 a25:=Tryz.isAgg259
 z25:=Tryz.sizeOf259
 v25:=Tryz.zeroValue259
 t39:=Tryz.underlying129
 a39:=Tryz.isAgg129
 z39:=Tryz.sizeOf129
 v39:=Tryz.zeroValue129
 t45:=Tryz.underlying157
 a45:=Tryz.isAgg157
 z45:=Tryz.sizeOf157
 v45:=Tryz.zeroValue157
 t46:=Tryz.underlying158
 a46:=Tryz.isAgg158
 z46:=Tryz.sizeOf158
 v46:=Tryz.zeroValue158
 t50:=Tryz.underlying98
 a50:=Tryz.isAgg98
 z50:=Tryz.sizeOf98
 v50:=Tryz.zeroValue98
 t53:=Tryz.underlying165
 a53:=Tryz.isAgg165
 z53:=Tryz.sizeOf165
 v53:=Tryz.zeroValue165
 t55:=Tryz.underlying167
 a55:=Tryz.isAgg167
 z55:=Tryz.sizeOf167
 v55:=Tryz.zeroValue167
 t66:=Tryz.underlying225
 a66:=Tryz.isAgg225
 z66:=Tryz.sizeOf225
 v66:=Tryz.zeroValue225
 t70:=Tryz.underlying229
 a70:=Tryz.isAgg229
 z70:=Tryz.sizeOf229
 v70:=Tryz.zeroValue229
 t76:=Tryz.underlying271
 a76:=Tryz.isAgg271
 z76:=Tryz.sizeOf271
 v76:=Tryz.zeroValue271
 t77:=Tryz.underlying272
 a77:=Tryz.isAgg272
 z77:=Tryz.sizeOf272
 v77:=Tryz.zeroValue272}
def Tryz.lySortE_ren:Go.Shelf.Ren:=⟨fun|6=>140|15=>65|14=>193|28=>100|29=>101|20=>238|21=>239|22=>240|23=>241|24=>242|25=>243|26=>244|27=>245|46=>272|47=>151|48=>152|49=>273|50=>274|57=>290|n=>n,fun|22=>54|24=>66|25=>215|3=>3|39=>129|0=>0|53=>165|55=>167|4=>4|46=>158|45=>157|50=>98|5=>5|9=>9|66=>225|70=>229|76=>271|77=>272|n=>n,fun|n=>n⟩
def Tryz.lySortE:Go.Proofs.SlLaysF0.n6 Tryz.prog Tryz.lySortE_ren:={
 mixed:=by kernel_rfl
 f6:=⟨Tryz.f140.name,by decide,Tryz.func140.trans (congrArg some (by kernel_rfl))⟩
 f14:=⟨Tryz.f193.name,by decide,Tryz.func193.trans (congrArg some (by kernel_rfl))⟩
 f15:=Tryz.func65.trans (congrArg some (by kernel_rfl))
 f20:=⟨Tryz.f238.name,by decide,Tryz.func238.trans (congrArg some (by kernel_rfl))⟩
 f21:=⟨Tryz.f239.name,by decide,Tryz.func239.trans (congrArg some (by kernel_rfl))⟩
 f22:=⟨Tryz.f240.name,by decide,Tryz.func240.trans (congrArg some (by kernel_rfl))⟩
 f23:=⟨Tryz.f241.name,by decide,Tryz.func241.trans (congrArg some (by kernel_rfl))⟩
 f24:=⟨Tryz.f242.name,by decide,Tryz.func242.trans (congrArg some (by kernel_rfl))⟩
 f25:=⟨Tryz.f243.name,by decide,Tryz.func243.trans (congrArg some (by kernel_rfl))⟩
 f26:=⟨Tryz.f244.name,by decide,Tryz.func244.trans (congrArg some (by kernel_rfl))⟩
 f27:=⟨Tryz.f245.name,by decide,Tryz.func245.trans (congrArg some (by kernel_rfl))⟩
 f28:=Tryz.func100.trans (congrArg some (by kernel_rfl))
 f29:=Tryz.func101.trans (congrArg some (by kernel_rfl))
 f46:=⟨Tryz.f272.name,by decide,Tryz.func272.trans (congrArg some (by kernel_rfl))⟩
 f47:=Tryz.func151.trans (congrArg some (by kernel_rfl))
 f48:=Tryz.func152.trans (congrArg some (by kernel_rfl))
 f49:=⟨Tryz.f273.name,by decide,Tryz.func273.trans (congrArg some (by kernel_rfl))⟩
 f50:=⟨Tryz.f274.name,by decide,Tryz.func274.trans (congrArg some (by kernel_rfl))⟩
 f57:=⟨Tryz.f290.name,by decide,Tryz.func290.trans (congrArg some (by kernel_rfl))⟩
 t0:=Tryz.underlying0
 a0:=Tryz.isAgg0
 z0:=Tryz.sizeOf0
 v0:=Tryz.zeroValue0
 t3:=Tryz.underlying3
 a3:=Tryz.isAgg3
 z3:=Tryz.sizeOf3
 v3:=Tryz.zeroValue3
 t4:=Tryz.underlying4
 a4:=Tryz.isAgg4
 z4:=Tryz.sizeOf4
 v4:=Tryz.zeroValue4
 t5:=Tryz.underlying5
 a5:=Tryz.isAgg5
 z5:=Tryz.sizeOf5
 v5:=Tryz.zeroValue5
 t9:=Tryz.underlying9
 a9:=Tryz.isAgg9
 z9:=Tryz.sizeOf9
 v9:=Tryz.zeroValue9
 t22:=Tryz.underlying54
 a22:=Tryz.isAgg54
 z22:=Tryz.sizeOf54
 v22:=Tryz.zeroValue54
 t25:=Tryz.underlying215
 a25:=Tryz.isAgg215
 z25:=Tryz.sizeOf215
 v25:=Tryz.zeroValue215
 t39:=Tryz.underlying129
 a39:=Tryz.isAgg129
 z39:=Tryz.sizeOf129
 v39:=Tryz.zeroValue129
 t45:=Tryz.underlying157
 a45:=Tryz.isAgg157
 z45:=Tryz.sizeOf157
 v45:=Tryz.zeroValue157
 t46:=Tryz.underlying158
 a46:=Tryz.isAgg158
 z46:=Tryz.sizeOf158
 v46:=Tryz.zeroValue158
 t50:=Tryz.underlying98
 a50:=Tryz.isAgg98
 z50:=Tryz.sizeOf98
 v50:=Tryz.zeroValue98
 t53:=Tryz.underlying165
 a53:=Tryz.isAgg165
 z53:=Tryz.sizeOf165
 v53:=Tryz.zeroValue165
 t55:=Tryz.underlying167
 a55:=Tryz.isAgg167
 z55:=Tryz.sizeOf167
 v55:=Tryz.zeroValue167
 t66:=Tryz.underlying225
 a66:=Tryz.isAgg225
 z66:=Tryz.sizeOf225
 v66:=Tryz.zeroValue225
 t70:=Tryz.underlying229
 a70:=Tryz.isAgg229
 z70:=Tryz.sizeOf229
 v70:=Tryz.zeroValue229
 t76:=Tryz.underlying271
 a76:=Tryz.isAgg271
 z76:=Tryz.sizeOf271
 v76:=Tryz.zeroValue271
 t77:=Tryz.underlying272
 a77:=Tryz.isAgg272
 z77:=Tryz.sizeOf272
 v77:=Tryz.zeroValue272}
def Tryz.lySortP_ren:Go.Shelf.Ren:=⟨fun|6=>247|15=>65|14=>275|28=>100|29=>101|20=>291|21=>292|22=>293|23=>294|24=>295|25=>296|26=>297|27=>298|46=>306|47=>151|48=>152|49=>307|50=>308|57=>310|n=>n,fun|22=>117|24=>263|25=>306|3=>3|39=>129|0=>0|53=>165|55=>167|4=>4|46=>158|45=>157|50=>98|5=>5|9=>9|66=>225|70=>229|76=>271|77=>272|n=>n,fun|n=>n⟩
def Tryz.lySortP:Go.Proofs.SlLaysF0.n6 Tryz.prog Tryz.lySortP_ren:={
 mixed:=by kernel_rfl
 f6:=⟨Tryz.f247.name,by decide,Tryz.func247.trans (congrArg some (by kernel_rfl))⟩
 f14:=⟨Tryz.f275.name,by decide,Tryz.func275.trans (congrArg some (by kernel_rfl))⟩
 f15:=Tryz.func65.trans (congrArg some (by kernel_rfl))
 f20:=⟨Tryz.f291.name,by decide,Tryz.func291.trans (congrArg some (by kernel_rfl))⟩
 f21:=⟨Tryz.f292.name,by decide,Tryz.func292.trans (congrArg some (by kernel_rfl))⟩
 f22:=⟨Tryz.f293.name,by decide,Tryz.func293.trans (congrArg some (by kernel_rfl))⟩
 f23:=⟨Tryz.f294.name,by decide,Tryz.func294.trans (congrArg some (by kernel_rfl))⟩
 f24:=⟨Tryz.f295.name,by decide,Tryz.func295.trans (congrArg some (by kernel_rfl))⟩
 f25:=⟨Tryz.f296.name,by decide,Tryz.func296.trans (congrArg some (by kernel_rfl))⟩
 f26:=⟨Tryz.f297.name,by decide,Tryz.func297.trans (congrArg some (by kernel_rfl))⟩
 f27:=⟨Tryz.f298.name,by decide,Tryz.func298.trans (congrArg some (by kernel_rfl))⟩
 f28:=Tryz.func100.trans (congrArg some (by kernel_rfl))
 f29:=Tryz.func101.trans (congrArg some (by kernel_rfl))
 f46:=⟨Tryz.f306.name,by decide,Tryz.func306.trans (congrArg some (by kernel_rfl))⟩
 f47:=Tryz.func151.trans (congrArg some (by kernel_rfl))
 f48:=Tryz.func152.trans (congrArg some (by kernel_rfl))
 f49:=⟨Tryz.f307.name,by decide,Tryz.func307.trans (congrArg some (by kernel_rfl))⟩
 f50:=⟨Tryz.f308.name,by decide,Tryz.func308.trans (congrArg some (by kernel_rfl))⟩
 f57:=⟨Tryz.f310.name,by decide,Tryz.func310.trans (congrArg some (by kernel_rfl))⟩
 t0:=Tryz.underlying0
 a0:=Tryz.isAgg0
 z0:=Tryz.sizeOf0
 v0:=Tryz.zeroValue0
 t3:=Tryz.underlying3
 a3:=Tryz.isAgg3
 z3:=Tryz.sizeOf3
 v3:=Tryz.zeroValue3
 t4:=Tryz.underlying4
 a4:=Tryz.isAgg4
 z4:=Tryz.sizeOf4
 v4:=Tryz.zeroValue4
 t5:=Tryz.underlying5
 a5:=Tryz.isAgg5
 z5:=Tryz.sizeOf5
 v5:=Tryz.zeroValue5
 t9:=Tryz.underlying9
 a9:=Tryz.isAgg9
 z9:=Tryz.sizeOf9
 v9:=Tryz.zeroValue9
 t22:=Tryz.underlying117
 a22:=Tryz.isAgg117
 z22:=Tryz.sizeOf117
 v22:=Tryz.zeroValue117
 t25:=Tryz.underlying306
 a25:=Tryz.isAgg306
 z25:=Tryz.sizeOf306
 v25:=Tryz.zeroValue306
 t39:=Tryz.underlying129
 a39:=Tryz.isAgg129
 z39:=Tryz.sizeOf129
 v39:=Tryz.zeroValue129
 t45:=Tryz.underlying157
 a45:=Tryz.isAgg157
 z45:=Tryz.sizeOf157
 v45:=Tryz.zeroValue157
 t46:=Tryz.underlying158
 a46:=Tryz.isAgg158
 z46:=Tryz.sizeOf158
 v46:=Tryz.zeroValue158
 t50:=Tryz.underlying98
 a50:=Tryz.isAgg98
 z50:=Tryz.sizeOf98
 v50:=Tryz.zeroValue98
 t53:=Tryz.underlying165
 a53:=Tryz.isAgg165
 z53:=Tryz.sizeOf165
 v53:=Tryz.zeroValue165
 t55:=Tryz.underlying167
 a55:=Tryz.isAgg167
 z55:=Tryz.sizeOf167
 v55:=Tryz.zeroValue167
 t66:=Tryz.underlying225
 a66:=Tryz.isAgg225
 z66:=Tryz.sizeOf225
 v66:=Tryz.zeroValue225
 t70:=Tryz.underlying229
 a70:=Tryz.isAgg229
 z70:=Tryz.sizeOf229
 v70:=Tryz.zeroValue229
 t76:=Tryz.underlying271
 a76:=Tryz.isAgg271
 z76:=Tryz.sizeOf271
 v76:=Tryz.zeroValue271
 t77:=Tryz.underlying272
 a77:=Tryz.isAgg272
 z77:=Tryz.sizeOf272
 v77:=Tryz.zeroValue272}
end Go.Proofs
namespace Go.Proofs.YtggahhenbbgffaaGreat
open Go Tryz
section
variable {α:Type} [A3 α] {P:Program} {h:Hp} {w:World} {t T sz by_:Nat} {v:Value} {x:α}
def ce7(hv:SV h v x)(hw:B8 h (m8 w)):∃a c,(Instr.box T v).run P w = .ok (.pointer (some a)) c/\Gr w c/\At (m8 c) a x:=by
 obtain⟨b,rfl,d⟩:=hv;refine⟨⟨w.heap.size,0,none⟩,w.alloc (.cells (List.toArray b) T),rfl,Gr.alloc _ _,b,A3.mono (p7 hw (b7 (o6.alloc w (.cells (List.toArray b) T)))) d,λj u e=>?_⟩;rw[<-al0,add_lit,ej1,er7];simpa using e
def du3(q:G0 P t T sz by_=true){xs:List Value}{ys:List α}{parts:Array (Nat×Value)}{n:Nat}(m:parts.toList=(xs.zipIdx 0).map λp=>(p.2,p.1))
  (b:Q8 h (xs.flatMap (·.cells.toList)) ys) (r:∀x∈xs,x.cells.size=sz) (hn:n=xs.length) (a:ys.length=xs.length) (d:xs≠[]) (c:xs.length<=16) (hw:B8 h (m8 w)) :
  ∃v e,(Instr.buildSlice t n parts).run P w = .ok v e/\B0 h e T v ys/\Gr w e:=by
 obtain⟨g,⟨z,f,s⟩,j,u,y,A⟩:=V3 q;obtain⟨i,k,l⟩:=z7 f;have o:=az2 (w:=w) g (by rw[k];rfl) f xs (by rw[j];exact r) d (by omega) (ef9 (Nat.mul_le_mul c (show N0 P T<=1000000 by omega)) (by omega)) m hn;refine⟨_,_,o,.inr ⟨w.heap.size,n,_,by rw[hn,a],aI3 hw (eg6 _),ej0 w _,by omega,by rw[hn];simp only[maxLen];omega,?_,?_⟩,Gr.alloc _ _⟩
 .have:=O5 b;simp only[ep3,this,a,hn]
 .rw[<-O5 b];simp only[eg4];exact b
def SV.ofN[p8 α](h:Hp)(x:α):SV h (.agg (p8.cells x).toArray) x:=⟨_,rfl,(p8.iff_ _ _ _).2 rfl⟩
end
def cl0(s:Int)(w:World):o9 prog 155 #[.int .i64 s] w λu a=>(u = .bool false/\a=w):=by
 refine p9 [.int .i64 s] func155 rfl ?_;have b:decide (s=s)=true:=by simp
 simp only[n8,n9,simprocAttr];exact o7 results155 ⟨rfl,rfl⟩
def Y1(a b:Int)(w:World):o9 prog 143 #[.int .i64 a,.int .i64 b] w λu d=>(u = .int .i64 (M1 a b)/\d=w):=by
 refine p9 [.int .i64 a,.int .i64 b] func143 rfl ?_;simp only[n8,n9,simprocAttr];refine E6 (cl0 a w) ?_;simp only[n8,simprocAttr];refine E6 (cl0 b w) ?_;have c:M1 a b=if a<b then -1 else if b<a then 1 else 0:=rfl;rcases ef2 (decide (a<b))with h1|h1
 .simp only[n8,n9,simprocAttr,h1];refine o7 results143 ?_;simp only[B3,simprocAttr];exact⟨by rw[c,if_pos (ef3 h1)],by trivial⟩
 rw[if_neg (ef7 h1)]at c;rcases ef2 (decide (b<a))with h2|h2
 .simp only[n8,n9,simprocAttr,h1,h2];refine o7 results143 ?_;simp only[B3,simprocAttr];exact⟨by rw[c,if_pos (ef3 h2)],by trivial⟩
 .simp only[n8,n9,simprocAttr,h1,h2];refine o7 results143 ?_;simp only[B3,simprocAttr];exact⟨by rw[c,if_neg (ef7 h2)],by trivial⟩
def aG5(a b:A9)(w:World):o9 prog 180 #[p6 a,p6 b] w λu g=>(u = .int .i64 (af4 a b)/\g=w):=by
 refine p9 [p6 a,p6 b] func180 rfl ?_;simp only[n8,n9,simprocAttr];refine E6 (bF4 a w) ?_;simp only[n8,simprocAttr];refine E6 (bF4 b w) ?_;have f:af4 a b=if ltS a b then -1 else if ltS b a then 1 else 0:=rfl;have c:(!(ltS a b||decide (a=b)))=(!ltS a b&&ltS b a):=by
  cases h1:ltS a b<;>cases h2:ltS b a
  .have:=bY5 h1 h2;subst this;simp
  .have:a≠b:=λe=>by subst e;rw[N1]at h2;cases h2
   simp[this]
  .rfl
  .rfl
 rcases ef2 (ltS a b)with h1|h1
 .simp only[n8,n9,simprocAttr,h1];refine o7 results180 ?_;simp only[B3,simprocAttr];exact⟨by rw[f,if_pos h1],by trivial⟩
 rw[if_neg (by rw[h1];simp)]at f;rw[h1]at c;simp only[er3,Bool.not_false,em1]at c;have d:C4 prog .gtr 9 (p6 a) (p6 b)=some (.bool (ltS b a)):=by rw[dq1,h1,er3,c]
 rcases ef2 (ltS b a)with h2|h2
 .simp only[n8,n9,simprocAttr,h1,h2,d];refine o7 results180 ?_;simp only[B3,simprocAttr];exact⟨by rw[f,if_pos h2],by trivial⟩
 .simp only[n8,n9,simprocAttr,h1,h2,d];refine o7 results180 ?_;simp only[B3,simprocAttr];exact⟨by rw[f,if_neg (by rw[h2];simp)],by trivial⟩
def aC3{h:Hp}{v:Value}{l:List Int}{w:World}(hv:R h v l)(hw:B8 h (m8 w)){k:Nat}(a:k<l.length):(Instr.loadAt 3 (.pointer (some (G9 v k)))).run prog w = .ok (.int .i64 l[k]) w:=
 N7 (P:=prog) (t:=3) hv hw (ef1 a) G3
def bV2(v:Value)(l:List Int)(w:World)(hv:R (m8 w) v l)(n:l.length<=1000000000):o9 prog 142 #[v] w λu h=>(u = .int .i64 (orF l)/\h=w):=by
 refine p9 [v] func142 rfl ?_;simp only[n8,n9,simprocAttr,hv.isS,hv.vlen];refine A6 [3,6,7] (σ:=Nat) (λk f h=>f 8 = .int .i64 k/\k<=l.length/\orF l=orF (l.drop k)/\h=w) (λk=>l.length-k) 0 ?_ ?_
 .simp only[B3,simprocAttr];exact⟨by trivial,eg3 _,by rw[en9],by trivial⟩
 rintro k f o ⟨e,i,j,_⟩ ⟨g,m,a,rfl⟩;simp only[n8,n9,simprocAttr,g,j];refine y5 (λc=>?_) ?_;rotate_left
 .rintro rfl;rw[eo9,orF]at a;simp only[n8,simprocAttr,e];refine o7 results142 ?_;simp only[B3,simprocAttr];exact⟨by rw[a],by trivial⟩
 have d:=hv.inS c;have b:=aC3 hv (n7 _) c;rw[ej8 c,orF]at a;generalize l[k]=y at b a;rcases ef2 (decide (y=0))with hq|hq
 .rw[if_pos (ef3 hq)]at a;simp only[n8,n9,y4,simprocAttr,g,e,i,d,b,hq];exact T4 (k+1) ⟨a,by trivial⟩
 .rw[if_neg (ef7 hq)]at a;simp only[n8,n9,y4,simprocAttr,g,e,i,d,b,hq];refine o7 results142 ?_;simp only[B3,simprocAttr];exact⟨by rw[a],by trivial⟩
def aq2(a:Int)(w:World):o9 prog 191 #[.int .i64 a] w λu b=>(u = .int .i64 (F8 a)/\b=w):=by
 refine p9 [.int .i64 a] func191 rfl ?_;rcases ef2 (decide (a = -1))with h1|h1
 .simp only[n8,n9,simprocAttr,h1];refine o7 results191 ?_;simp only[B3,simprocAttr];exact⟨by rw[F8,if_pos (ef3 h1)],by trivial⟩
 .simp only[n8,n9,simprocAttr,h1];refine o7 results191 ?_;simp only[B3,simprocAttr];exact⟨by rw[F8,if_neg (ef7 h1)],by trivial⟩
def cV0(x y:Sp)(w:World):o9 prog 248 #[.agg (p8.cells x).toArray,.agg (p8.cells y).toArray] w λu d=>(u = .int .i64 (spC x y)/\Gr w d):=by
 refine p9 [.agg (p8.cells x).toArray,.agg (p8.cells y).toArray] func248 rfl ?_;obtain⟨a,C,i,k,r⟩:=ce7 (P:=prog) (T:=263) (SV.ofN (m8 w) x) (n7 _);obtain⟨b,c,j,e,s⟩:=ce7 (P:=prog) (T:=263) (SV.ofN (m8 C) y) (n7 _);obtain⟨_,z⟩:=(r.mono (b7 e.ext)).sp;obtain⟨_,A⟩:=s.sp;have t:=z (λd=>Gr c.drew d) c.drew (Gr.refl _) λd h=>b7 ((Gr.drew c).trans h).ext;have v:=A (λd=>Gr c.drew d) c.drew (Gr.refl _) λd h=>b7 ((Gr.drew c).trans h).ext;simp only[n8,n9,simprocAttr,i,j];refine B9 (λd=>Gr c.drew d) 18 (A5 [0,1,3,4,7,8,10,11,14,15,16,17,2,5,6,9,12,13]) ?_ (hS:=Gr.refl _);simp only[D0,A5,n8,n9,simprocAttr,t,v];refine E6 (aq2 _ _) ⟨Gr.refl _,?_⟩;simp only[D0,n8,simprocAttr];refine E6 (aq2 _ _) ⟨Gr.refl _,?_⟩;simp only[D0,n8,simprocAttr];refine E6 (Y1 _ _ _) ⟨Gr.refl _,?_⟩;simp only[D0,n8,simprocAttr];refine E6 (aq2 _ _) ⟨Gr.refl _,?_⟩;simp only[D0,n8,simprocAttr];refine E6 (aq2 _ _) ⟨Gr.refl _,?_⟩;simp only[D0,n8,simprocAttr];refine E6 (Y1 _ _ _) ⟨Gr.refl _,?_⟩;simp only[D0,n8,simprocAttr];refine E6 (Y1 _ _ _) ?_;generalize m:[M1 (F8 x.src) (F8 y.src),M1 (F8 x.dst) (F8 y.dst),M1 x.kind y.kind]=l;have q:spC x y=orF l:=by rw[<-m];rfl
 have p:l.length=3:=by rw[<-m];rfl
 obtain⟨B,D,g,o,f⟩:=du3 (P:=prog) (w:=c.drew) (h:=m8 c.drew) (α:=Int) (xs:=[.int .i64 (M1 (F8 x.src) (F8 y.src)),.int .i64 (M1 (F8 x.dst) (F8 y.dst)),.int .i64 (M1 x.kind y.kind)]) (ys:=l) (parts:=#[(0,.int .i64 (M1 (F8 x.src) (F8 y.src))),(1,.int .i64 (M1 (F8 x.dst) (F8 y.dst))),(2,.int .i64 (M1 x.kind y.kind))]) (n:=3) V4 rfl (by rw[<-m];exact G4.2 rfl) (by simp[Value.cells]) rfl p (by simp) (by simp) (n7 _);simp only[n8,simprocAttr,g];refine E6 (bV2 B l D (o.rw_ (b7 f.ext)) (by omega)) ?_;simp only[n8,simprocAttr];refine o7 results248 ?_;simp only[B3,simprocAttr];exact⟨by rw[q],k.trans (e.trans ((Gr.drew c).trans f))⟩
def co7(x y:Sp)(g h:Value)(w:World)(o:SV (m8 w) g x)(p:SV (m8 w) h y):o9 prog 250 #[g,h] w λu s=>(u = .bool (ar7 x y)/\o6 w s):=by
 refine p9 [g,h] func250 rfl ?_;obtain⟨a,t,e,c,m⟩:=cE0 o (n7 _);obtain⟨b,l,f,d,n⟩:=cE0 (p.mono (b7 c)) (n7 _);obtain⟨q,_⟩:=m.sp;obtain⟨r,_⟩:=n.sp;have j:=q l (b7 d);have k:=r l (n7 _);have i:ar7 x y=(decide (x.src=y.src)&&decide (x.dst=y.dst)):=rfl;rcases ef2 (decide (x.src=y.src))with h1|h1
 .simp only[n8,n9,simprocAttr,e,f,j,k,h1];refine o7 results250 ?_;simp only[B3,simprocAttr];exact⟨by rw[i,h1,em1],c.trans d⟩
 .simp only[n8,n9,simprocAttr,e,f,j,k,h1];refine o7 results250 ?_;simp only[B3,simprocAttr];exact⟨by rw[i,h1];rfl,c.trans d⟩
def dz7:Cm spC:=by
 have h:=(aO8.key (λx:Sp=>F8 x.src)).lex ((aO8.key (λx:Sp=>F8 x.dst)).lex ((aO8.key (λx:Sp=>x.kind)).lex Cm.zero));have e:spC=λx y:Sp=>if M1 (F8 x.src) (F8 y.src)=0 then(if M1 (F8 x.dst) (F8 y.dst)=0 then(if M1 x.kind y.kind=0 then 0 else M1 x.kind y.kind)else M1 (F8 x.dst) (F8 y.dst))else M1 (F8 x.src) (F8 y.src):=by
  funext x y
  simp only[spC,orF]
 rw[e];exact h
def plc(a:Int):Prop:=a<9223372036854775807
def bh5{a b:Int}(c:plc a)(hb:plc b)(h:F8 a=F8 b):a=b:=by
 unfold F8 plc at *;split at h<;>split at h<;>omega
def dw4{l:List Sp}(d:∀x∈l,plc x.src/\plc x.dst):∀a∈l,∀b∈l,decide (spC a b<=0)=true->decide (spC b a<=0)=true->a=b:=by
 intro a e b f g h;have m:=ef3 g;have n:=ef3 h;have o:=dz7.anti a b;have c:spC a b=0:=by omega
 unfold spC at c;simp only[orF]at c;by_cases q1:M1 (F8 a.src) (F8 b.src)=0
 .rw[if_pos q1]at c;by_cases q2:M1 (F8 a.dst) (F8 b.dst)=0
  .rw[if_pos q2]at c;by_cases q3:M1 a.kind b.kind=0
   .have i:=bh5 (d a e).1 (d b f).1 (ad4 q1);have j:=bh5 (d a e).2 (d b f).2 (ad4 q2);have k:=ad4 q3;cases a;cases b;simp_all
   .rw[if_neg q3]at c;exact absurd c q3
  .rw[if_neg q2]at c;exact absurd c q2
 .rw[if_neg q1]at c;exact absurd c q1
def cS3:(Tryz.lySortP_ren.f 6)=247:=by kernel_rfl
def bQ7:(Tryz.lySortP_ren.t 24)=263:=by kernel_rfl
def bI2:G0 prog 117 263 3 24=true:=by kernel_rfl
def co6{h:Hp}{w:World}{v:Value}{xs:List Sp}(i:B0 h w 263 v xs)(g:xs.length<=1000000000)(j:∀x∈xs,plc x.src/\plc x.dst):
  Calls prog 247 #[v,.func (.func 248) #[] #[]] w λe a=>∃u,e = .returned u/\(B0 h a 263 v (Y4 cV1 xs)/\o8 (A0 v) w a):=by
 rw[<-cS3];have b:∀w,(isAgg (Tryz.lySortP_ren.t 24)).run prog w = .ok true w:=λw=>by
  rw[bQ7,ae2 _ cB8,cB3]
 have k:∀w,(Go.sizeOf (Tryz.lySortP_ren.t 24)).run prog w = .ok (A3.sz Sp) w:=λw=>by
  rw[bQ7,S3 bJ3,bc3];rfl
 exact aU5 (P:=prog) (T:=263) Tryz.lySortP b k spC dz7 248 (enters_of func248 (by kernel_rfl) rfl) (λx y w=>(cV0 x y w).mono λe a ⟨u,c,d,f⟩=>⟨by rw[c,d],f⟩) i g (dw4 j)
section
variable {α:Type} [A3 α] [p8 α] {P:Program} {h:Hp} {w:World} {t T:TypeId} {v:Value} {xs:List α}
def br6{xs:List α}{k:Nat}(a:k<xs.length)(y:α):(xs.set k y).flatMap p8.cells=(xs.flatMap p8.cells).take (k*A3.sz α)++p8.cells y++(xs.flatMap p8.cells).drop (k*A3.sz α+A3.sz α):=by
 have e:xs=xs.take k++(xs[k]::xs.drop (k+1)):=by
  have:=ej2 k xs;rw[ej8 a]at this;exact this.symm
 have f:xs.set k y=xs.take k++(y::xs.drop (k+1)):=by rw[List.set_eq_take_append_cons_drop,if_pos a]
 have b:((xs.take k).flatMap p8.cells).length=k*A3.sz α:=by rw[ac4,eg0,el2 (Nat.le_of_lt a)]
 rw[f]
 conv=>rhs;rw[e]
 simp only[eo8,ep2];have c:((xs.take k).flatMap p8.cells++(p8.cells xs[k]++(xs.drop (k+1)).flatMap p8.cells)).take (k*A3.sz α)=(xs.take k).flatMap p8.cells:=by rw[<-b,eo6]
 have d:((xs.take k).flatMap p8.cells++(p8.cells xs[k]++(xs.drop (k+1)).flatMap p8.cells)).drop (k*A3.sz α+A3.sz α)=(xs.drop (k+1)).flatMap p8.cells:=by
  rw[<-ei0,<-b,<-av4 xs[k],<-ef4,List.drop_left]
 rw[c,d,ei0]
def bb1(I:B0 h w T v xs)(G:(P.info? t).isSome=true)(J:N0 P t=A3.sz α){k:Nat}(m:k<xs.length)(y:α):
  ∃j,(Instr.storeAt t (.pointer (some (G9 v (k*A3.sz α)))) (.agg (p8.cells y).toArray)).run P w = .ok () j/\B0 h j T v (xs.set k y)/\o8 (A0 v) w j:=by
 rcases cI3 I with⟨rfl,rfl⟩|⟨b,c,d,rfl,C,D,s,E,n,F⟩
 .simp at m
 have q:k*A3.sz α+A3.sz α<=xs.length*A3.sz α:=by
  have:=eo2 (A3.sz α) (Nat.succ_le_of_lt m);rw[Nat.succ_mul]at this;exact this
 have p:xs.length*A3.sz α<=d.size:=by rw[n];exact eo2 _ s
 have f:(p8.cells y).length=A3.sz α:=av4 y;obtain⟨j,z,A,B⟩:=cD7 (P:=P) (t:=t) (cs:=p8.cells y) (o:=k*A3.sz α) D (by rw[f];omega) (U5 y) G (by rw[J,f]);have r:G9 (.slice (some ⟨b,0,none⟩) xs.length c) (k*A3.sz α)=⟨b,k*A3.sz α,none⟩:=by
  show(⟨b,0,none⟩:Addr).add _=_;rw[add_lit,ej1]
 refine⟨j,by rw[r];exact z,?_,B.weaken λ_ _ e=>by subst e;rfl⟩;have a:(xs.set k y).length=xs.length:=by simp
 have g:d.toList=xs.flatMap p8.cells++d.toList.drop (xs.length*A3.sz α):=by rw[<-F,ej2]
 have i:=ac4 xs;have:=bg5 (l:=xs.set k y) C A (by rw[a];exact s) E ?_ ?_
 .rw[a]at this;exact this
 .simp only[ep3,ef4,eg0,el6,es4,f,n];rw[n]at p;omega
 .rw[a,List.toList_toArray,br6 m,f];have u:d.toList.take (k*A3.sz α)=(xs.flatMap p8.cells).take (k*A3.sz α):=by
   rw[g,el9 (by rw[i];omega)]
  have x:d.toList.drop (k*A3.sz α+A3.sz α)=(xs.flatMap p8.cells).drop (k*A3.sz α+A3.sz α)++d.toList.drop (xs.length*A3.sz α):=by
   conv=>lhs;rw[g]
   rw[List.drop_append_of_le_length (by rw[i];exact q)]
  rw[u,x,<-ei0];have H:((xs.flatMap p8.cells).take (k*A3.sz α)++p8.cells y++(xs.flatMap p8.cells).drop (k*A3.sz α+A3.sz α)).length=xs.length*A3.sz α:=by
   rw[<-br6 m,ac4,a]
  rw[<-H,eo6]
def bn0(U:B0 h w T v xs){ty:TypeId}(V:M9 P t=some T){z:Value}(W:H3 P T=some z)(E:z.cells.size=A3.sz α)(C:∀u∈z.cells.toList,u.oneCell'=true){i:Nat}(S:i<xs.length):
  ∃n,(Builtin.clear_ #[t] ty #[reS v i xs.length (A3.sz α)]).run P w = .ok (.tuple #[]) n/\B0 h n T (reS v 0 i (A3.sz α)) (xs.take i)/\o8 (A0 v) w n/\∀b,A0 (reS v 0 i (A3.sz α)) b->A0 v b:=by
 rcases cI3 U with⟨rfl,rfl⟩|⟨b,c,d,rfl,M,N,O,Q,p,R⟩
 .simp at S
 obtain⟨X,g,a⟩:=z7 W;have D:(zeroValue T).run P w = .ok z w:=by
  unfold zeroValue;simp[N3,g,a]
 have I:=A3.pos (α:=α);have q:¬c=0:=by omega
 have r:¬c=i:=by omega
 have A:reS (.slice (some ⟨b,0,none⟩) xs.length c) i xs.length (A3.sz α) = .slice (some ⟨b,i*A3.sz α,none⟩) (xs.length-i) (c-i):=by
  simp only[reS,if_neg r,el5,add_lit,ej1]
 have j:reS (.slice (some ⟨b,0,none⟩) xs.length c) 0 i (A3.sz α) = .slice (some ⟨b,0,none⟩) i c:=by
  simp only[reS,if_neg q,el5,Nat.zero_mul,add_lit,Nat.sub_zero]
 have k:(Builtin.zeroCells z.cells (xs.length-i)).toList.length=(xs.length-i)*A3.sz α:=by simp[Builtin.zeroCells,E]
 have H:i*A3.sz α+(xs.length-i)*A3.sz α=xs.length*A3.sz α:=by rw[<-er2];congr 1;omega
 have s:xs.length*A3.sz α<=d.size:=by rw[p];exact eo2 _ O
 obtain⟨n,F,K,L⟩:=bi9 (P:=P) (T:=T) b (i*A3.sz α) (Builtin.zeroCells z.cells (xs.length-i)).toList 0 d w N (by rw[k];omega) (by
  intro u J;simp only[Builtin.zeroCells,Array.toList_map,eh4]at J;obtain⟨m,_,rfl⟩:=J;have hm:m % z.cells.size<z.cells.size:=Nat.mod_lt _ (by omega);rw[getElem!_pos z.cells _ hm];exact C _ (by simp))
 refine⟨n,?_,?_,L.weaken λ_ _ e=>by subst e;rfl,λY f=>by rw[j]at f;exact f⟩
 .rw[A];unfold Builtin.clear_;have y:∃m,xs.length-i=m+1:=⟨xs.length-i-1,by omega⟩;obtain⟨m,hm⟩:=y;rw[hm]at F ⊢;simp only[List.getElem?_toArray,List.getElem?_cons_zero,eh7,H4,O4 V,eg9,D,F,ej3]
 .rw[j];have o:(xs.take i).length=i:=by rw[eg0];omega
  have:=bg5 (l:=xs.take i) M K (by rw[o];omega) Q ?_ ?_
  .rw[o]at this;exact this
  .simp only[Nat.add_zero,ep3,ef4,eg0,el6,es4,k];rw[p];rw[p]at s;omega
  .rw[o,Nat.add_zero,List.toList_toArray,ei0,el9 (by rw[eg0,es4];omega),List.take_take,Nat.min_self];have:i*A3.sz α<=xs.length*A3.sz α:=eo2 _ (by omega);have G:=eg8 (List.take (i*A3.sz α)) R;rw[List.take_take,el2 this]at G;rw[G];have B:xs.flatMap p8.cells=(xs.take i).flatMap p8.cells++(xs.drop i).flatMap p8.cells:=by rw[<-eo8,ej2]
   have x:((xs.take i).flatMap p8.cells).length=i*A3.sz α:=by rw[ac4,o]
   rw[B,<-x,eo6]
end
def bF7{P:Program}{K:Fr->World->Prop}{f:Fr}{w:World}{d:Option Nat}{ty:TypeId}{b:String}{a:Array Edge}{x:Operand}{c:Array TypeId}:B5 P none ⟨d,.call {callee:=.builtin .clear,args:=#[x],argTypes:=c},ty,b,a,none⟩ K f w=ak7 ((Builtin.clear_ c ty #[ev f x]).run P w) K f d:=by
 simp[B5,ay9,ad7,bk6,bw4]
def bB1{α:Type}(a:α->α->Bool):∀(l:List α) (p y:α),al2 a p (l++[y])=if a y (l.getLast?.getD p)then al2 a p l else al2 a p l++[y]
 | [],p,y=>by
  simp[al2];rfl
 | x::l,p,y=>by
  have c:=bB1 a l x y;have b:((x::l).getLast?.getD p)=l.getLast?.getD x:=by
   cases l with
   | nil=>rfl
   | cons z l=>
    rw[List.getLast?_cons_cons];cases h:(z::l).getLast? with
    | none=>simp at h
    | some q=>rfl
  rw[er0,al2,al2,b,c];by_cases h:a x p=true
  .rw[if_pos h,if_pos h]
  .rw[if_neg h,if_neg h];split<;>simp
def ax6{α:Type}(a:α->α->Bool)(xs:List α){k:Nat}(b:k<xs.length)(c:0<k):al1 a (xs.take (k+1))=if a xs[k] xs[k-1]then al1 a (xs.take k)else al1 a (xs.take k)++[xs[k]]:=by
 rw[ef8 b];cases xs with
 | nil=>simp at b
 | cons x l=>
  obtain⟨m,rfl⟩:∃m,k=m+1:=⟨k-1,by omega⟩;simp only[er6,er0,al1,ep9,Nat.add_sub_cancel];rw[bB1];have hm:m<l.length:=by simpa using b
  have:(l.take m).getLast?.getD x=(x::l)[m]'(by simp;omega):=by
   cases m with
   | zero=>rfl
   | succ m=>
    rw[List.getLast?_eq_getElem?,eg0,el2 (by omega),en1,if_pos (by omega),ef1 (by omega)];simp
  rw[this];split<;>simp
def ai0{α:Type}(a:α->α->Bool)(xs:List α):∀k,k<=xs.length->(∀j (b:j<xs.length),1<=j->j<k->a xs[j] (xs[j-1]'(by omega))=false)->al1 a (xs.take k)=xs.take k
 | 0,_,_=>by simp[al1]
 | 1,h,_=>by
  cases xs with
  | nil=>simp at h
  | cons x l=>simp[al1,al2]
 | k+2,h,hf=>by
  rw[ax6 a xs (k:=k+1) (by omega) (by omega),ai0 a xs (k+1) (by omega) λj b c d=>hf j b c (by omega)];have:=hf (k+1) (by omega) (by omega) (by omega);simp only[Nat.add_sub_cancel]at this ⊢;rw[if_neg (by rw[this];simp),ef8 (by omega:k+1<xs.length)]
def ct6{h:Hp}{w:World}{v:Value}{xs:List Sp}(p:B0 h w 263 v xs)(hl:xs.length<=1000000000)(hh:B8 h (m8 w)):
  Calls prog 249 #[v,.func (.func 250) #[] #[]] w λe a=>∃u,e = .returned u/\(B0 h a 263 u (al1 ar7 xs)/\o8 (A0 v) w a/\∀b,A0 u b->A0 v b):=by
 refine p9 [v,.func (.func 250) #[] #[]] func249 rfl ?_;have U:=p.isS;have hn:=p.vlen;have a5:=p.vcap;have Q:A3.sz Sp=3:=rfl;rcases ef2 (decide ((xs.length:Int)<2))with G|G
 .simp only[n8,n9,simprocAttr,U,hn,G];refine o7 results249 ?_;simp only[B3,simprocAttr];have D:xs.length<2:=by have:=ef3 G;omega
  have:=ai0 ar7 xs xs.length (eg6 _) λj I h1 G=>by omega
  rw[eg4]at this;exact⟨by rw[this];exact p,o8.refl _,λb V=>V⟩
 have a0:2<=xs.length:=by have:=ef7 G;omega
 simp only[n8,n9,simprocAttr,U,hn,G];refine A6 [0,1] (σ:=Nat) (λi f a=>f 5 = .int .i64 i/\1<=i/\i<=xs.length/\(∀j (I:j<xs.length),1<=j->j<i->ar7 xs[j] (xs[j-1]'(by omega))=false)/\o6 w a) (λi=>xs.length-i) 1 ?_ ?_
 .simp only[B3,simprocAttr];exact⟨by trivial,by simp,by omega,λj _ h1 G=>by omega,o8.refl _⟩
 rintro i f o ⟨e0,e1,_⟩ ⟨h5,aZ,a3,O,x⟩;simp only[n8,n9,simprocAttr,h5,e0,U,hn];refine y5 (λD=>?_) ?_;rotate_left
 .rintro rfl;simp only[n8,simprocAttr,e0];refine o7 results249 ?_;simp only[B3,simprocAttr];have:=ai0 ar7 xs xs.length (eg6 _) O;rw[eg4]at this;exact⟨by rw[this];exact p.ext x,o8.up x,λb V=>V⟩
 have J:i-1<xs.length:=by omega
 have hR:R (m8 o) v xs:=(p.ext x).rw_ (p7 hh (b7 x));have ax:=p.inS D;have Z:=p.inS J;have aD:IntKind.i64.wrap ((i:Int)-1)=((i-1:Nat):Int):=by rw[M2 _ (by omega)];omega
 obtain⟨vx,aB,_,sx⟩:=(hR.at_ (ef1 D)).sp_v;obtain⟨vy,aC,_,sy⟩:=(hR.at_ (ef1 J)).sp_v;have s1:=sx (λa=>o6 o.drew a) o.drew (o8.refl _) λa h=>b7 ((o6.drew o).trans h);have s2:=sy (λa=>o6 o.drew a) o.drew (o8.refl _) λa h=>b7 ((o6.drew o).trans h);rw[Q]at s1 s2;simp only[n8,simprocAttr];refine B9 (λa=>o6 o.drew a) 10 (A5 [0,1,2,3,4,5,6,7,8,9]) ?_;simp only[D0,A5,n8,n9,y4,simprocAttr,h5,e0,e1,ax,Z,aD,s1,s2];refine B2 (co7 _ _ vx vy o.drew (aB.mono (b7 (o6.drew o))) (aC.mono (b7 (o6.drew o)))) (λw3 aF=>?_);have r:=(x.trans (o6.drew o)).trans aF;rcases ef2 (ar7 xs[i] xs[i-1])with hq|hq;rotate_left
 .simp only[n8,n9,simprocAttr,hq,h5];refine nx4 (i+1) ⟨λj I h1 G=>?_,r⟩;rcases ej6 j i with h|h
  .exact O j I h1 h
  .obtain rfl:j=i:=by omega
   exact hq
 have c1:decide ((i:Int)<=(xs.length:Int))=true:=by simp;omega
 have c2:decide ((xs.length:Int)<=(vcap v:Int))=true:=by simp;omega
 have hd:∀k:Nat,isS (reS v k xs.length 3)=true/\vlen (reS v k xs.length 3)=xs.length-k:=λk=>by
  rcases p with⟨rfl,rfl⟩|⟨b,c,aY,rfl,_⟩
  .exact⟨rfl,rfl⟩
  .exact⟨rfl,rfl⟩
 obtain⟨ao,az⟩:=hd i;have a4:((xs.length-i:Nat):Int)=(xs.length:Int)-i:=by omega
 simp only[n8,n9,J0,simprocAttr,hq,h5,e0,U,hn,c1,c2];refine A6 [0,1,6] (σ:=Nat×Nat×List Sp) (λs f a=>f 7 = .int .i64 s.1/\f 5 = .int .i64 s.2.1/\1<=s.1/\i+s.1<=xs.length/\s.2.1+1<=i+s.1/\s.2.2.length=xs.length/\B0 h a 263 v s.2.2/\(∀j (I:j<xs.length) (L:j<s.2.2.length),i+s.1<=j+1->s.2.2[j]=xs[j])/\s.2.2.take s.2.1=al1 ar7 (xs.take (i+s.1))/\o8 (A0 v) w a) (λs=>xs.length-(i+s.1)) (1,i,xs) ?_ ?_
 .simp only[B3,simprocAttr];refine⟨by trivial,by trivial,by trivial,by omega,by omega,by trivial,p.ext r,λj _ _ _=>by trivial,?_,o8.up r⟩;rw[ax6 ar7 xs D (by omega),if_pos hq,ai0 ar7 xs i (by omega) O]
 rintro⟨m,c,A⟩ f4 n ⟨g0,g1,g6,_⟩ ⟨T,B,am,aw,ar,z,q,l,g,M⟩;simp only at T B am aw ar z q l g;rw[e0]at g0;rw[e1]at g1;have av:B8 h (m8 n):=H2 hh M λb V=>p.free V;have ab:decide ((m:Int)<((xs.length-i:Nat):Int))=decide (i+m<xs.length):=by rw[ek8];omega
 simp only[n8,n9,simprocAttr,T,g6,ao,az,ab];refine A4 (λhc=>?_) (λhc=>?_)
 .have E:i+m<xs.length:=ef3 hc;have ay:i+m-1<xs.length:=by omega
  have an:R (m8 n) v A:=q.rw_ av;have d:=ce1 an (show i<=xs.length by omega) (show xs.length<=A.length by omega);rw[Q]at d;have aH:(A.take xs.length).drop i=A.drop i:=by rw[<-z,eg4]
  rw[aH]at d;have X:(A.drop i)[m]?=some xs[i+m]:=by
   rw[eo3,ef1 (by omega),l (i+m) E (by omega) (by omega)]
  have Y:(A.drop i)[m-1]?=some xs[i+m-1]:=by
   rw[eo3,show i+(m-1)=i+m-1 by omega,ef1 (by omega),l (i+m-1) ay (by omega) (by omega)]
  have H:=d.inS (ef6.1 X).1;have aa:=d.inS (ef6.1 Y).1;have aE:IntKind.i64.wrap ((m:Int)-1)=((m-1:Nat):Int):=by rw[M2 _ (by omega)];omega
  obtain⟨ux,af,lx,tx⟩:=(d.at_ X).sp_v;obtain⟨uy,aA,_,ty⟩:=(d.at_ Y).sp_v;have t1:=tx (λa=>o6 n.drew a) n.drew (o8.refl _) λa h=>b7 ((o6.drew n).trans h);have t2:=ty (λa=>o6 n.drew a) n.drew (o8.refl _) λa h=>b7 ((o6.drew n).trans h);rw[Q]at t1 t2 lx;simp only[n8,simprocAttr];refine B9 (λa=>o6 n.drew a) 10 (A5 [0,1,2,3,4,5,6,7,8,9]) ?_;simp only[D0,A5,n8,n9,y4,simprocAttr,T,g1,g6,H,aa,aE,t1,t2];refine B2 (co7 _ _ ux uy n.drew (af.mono (b7 (o6.drew n))) (aA.mono (b7 (o6.drew n)))) (λw5 aG=>?_);have y:=(o6.drew n).trans aG;have ae:=q.ext y;have ac:o8 (A0 v) w w5:=M.chain (o8.up y) λ_ _ h=>h;have C:=ax6 ar7 xs (k:=i+m) E (by omega);rcases ef2 (ar7 xs[i+m] xs[i+m-1])with hq4|hq4
  .rw[if_pos hq4]at C;simp only[n8,n9,simprocAttr,hq4,T];refine nx2 (m+1,c,A) ⟨B,by simp only[];omega,by simp only[];omega,by simp only[];omega,z,ae,λj I L h=>l j I L (by simp only at h;omega),?_,ac⟩;simp only[];rw[g,<-C,ep8]
  .rw[if_neg (by rw[hq4];simp)]at C;have K:c<A.length:=by omega
   have aI:=lx w5 (b7 y);have ag:ux = .agg (p8.cells xs[i+m]).toArray:=by
    obtain⟨cs,rfl,he⟩:=af;rw[(p8.iff_ _ _ _).1 he]
   obtain⟨w6,S,F,N⟩:=bb1 (P:=prog) (t:=263) ae bJ3 bc3 K xs[i+m];rw[<-ag,Q]at S;simp only[n8,n9,y4,simprocAttr,hq4,B,g0,g6,T,H,q.inS K,aI,S];refine⟨(m+1,c+1,A.set c xs[i+m]),by simp only[];omega,by simp only[];rw[H8 m],by simp only[];rw[H8 c],by simp only[];omega,by simp only[];omega,by simp only[];omega,by simp only[en4];exact z,F,λj I L h=>?_,?_,ac.chain N λ_ _ h=>h⟩
   .simp only at h ⊢;rw[List.getElem_set_ne (by omega)];exact l j I (by omega) (by omega)
   .simp only[];have au:c<(A.set c xs[i+m]).length:=by simpa using K
    rw[ef8 au,List.getElem_set_self,List.take_set_of_le (eg6 _),g,<-C,ep8]
 .have E:i+m=xs.length:=by have:=ef7 hc;omega
  rw[E,eg4]at g;have aq:c<A.length:=by omega
  have c3:decide ((c:Int)<=(xs.length:Int))=true:=by simp;omega
  have c4:decide ((c:Int)<=(vcap v:Int))=true:=by simp;omega
  obtain⟨w6,S,F,N,W⟩:=bn0 (P:=prog) (t:=117) (ty:=0) q rfl dm6 rfl (by simp[Value.cells,Value.oneCell']) aq;rw[z,Q]at S;rw[Q]at F W;simp only[n8,n9,J0,simprocAttr,bF7,B,g0,U,hn,c2,c3,c4,S];exact o7 results249 ⟨by rw[<-g];exact F,M.chain N λ_ _ h=>h,W⟩
def aH7{h:Hp}{w:World}{v:Value}{xs:List Sp}(i:B0 h w 263 v xs)(g:xs.length<=1000000000)(l:B8 h (m8 w))(m:∀x∈xs,plc x.src/\plc x.dst):
  o9 prog 197 #[v] w λu j=>(B0 h j 263 u (ag2 xs)/\o8 (A0 v) w j/\∀b,A0 u b->A0 v b):=by
 refine p9 [v] func197 rfl ?_;simp only[n8,n9,simprocAttr];refine t8 (co6 i g m) ?_;rintro _ n ⟨e,a⟩;simp only[n8,simprocAttr];refine t8 (ct6 e (by rw[(G1 _ _).length_eq];exact g) (H2 l a λb k=>i.free k)) ?_;rintro u o ⟨f,d,c⟩;simp only[n8,simprocAttr];exact o7 results197 ⟨f,a.chain d λ_ _ h=>h,c⟩
def bm0(v:Value)(l:List St)(o:Int)(w:World)(hv:R (m8 w) v l):o9 prog 246 #[v,.int .i64 o] w λu h=>(u = .int .i64 (an1 l o)/\h=w):=by
 refine p9 [v,.int .i64 o] func246 rfl ?_;have d:=hv.isS;have e:=hv.vlen;cases l with
 | nil=>
  have a:decide ((0:Int)<(([]:List St).length:Int))=false:=by simp
  simp only[n8,n9,simprocAttr,d,e,a];exact o7 results246 ⟨rfl,rfl⟩
 | cons t l=>
  have a:decide ((0:Int)<((t::l).length:Int))=true:=ek5 (by simp only[ei2];omega);have b:=hv.inS (k:=0) (by simp);obtain⟨_,_,_,_,_,_,_,_,_,c,_⟩:=(hv.at_ (i:=0) rfl).st;have f:=c w (n7 _);have g:A3.sz St=13:=rfl;rw[g,Nat.zero_mul]at f;simp only[n8,n9,y4,simprocAttr,d,e,a,b,f];exact o7 results246 ⟨rfl,rfl⟩
def dc5(a:Addr)(F:Value)(p:Pg)(it:It)(i x y:Nat)(w:World)(hs:At (m8 w) a (d9 p))(Y:SV (m8 w) F it)(hr:D3 p)(hw:B7 p<=1000000)(X:i<p.procs.length)(O:as2 p i x y)(C:it∈(d9 p).of i):
  o9 prog 196 #[.pointer (some a),F] w λu d=>(B0 (m8 w) d 3 u ((d9 p).goes it)/\o6 w d):=by
 refine p9 [.pointer (some a),F] func196 rfl ?_;obtain⟨b,e,m,f,V⟩:=cD8 Y (n7 _);obtain⟨I,Z,ab⟩:=V.it;obtain⟨_,_,Q,ah,_,_,M,W,_,aa,ae⟩:=I.st;have R:=Z e (n7 _);have E:=aa e (n7 _);have L:=au6 p hw i X it C;rw[L]at R;have l:∀(t:Int) (d:World),B8 (m8 w) (m8 d)->∃v g,(Instr.buildSlice 24 1 #[(0,.int .i64 t)]).run prog d = .ok v g/\B0 (m8 w) g 3 v [t]/\o6 d g:=λt d B8=>by
  obtain⟨v,g,S,T,U,_⟩:=lit (P:=prog) (w:=d) (h:=m8 w) (α:=Int) (xs:=[.int .i64 t]) (ys:=[t]) (parts:=#[(0,.int .i64 t)]) (n:=1) V4 rfl (G4.2 rfl) (by simp[Value.cells]) rfl rfl (by simp) (by simp) B8;exact⟨v,g,S,T,U⟩
 have A:∀(t H:Int) (d:World),B8 (m8 w) (m8 d)->∃v g,(Instr.buildSlice 24 2 #[(0,.int .i64 t),(1,.int .i64 H)]).run prog d = .ok v g/\B0 (m8 w) g 3 v [t,H]/\o6 d g:=λt H d B8=>by
  obtain⟨v,g,S,T,U,_⟩:=lit (P:=prog) (w:=d) (h:=m8 w) (α:=Int) (xs:=[.int .i64 t,.int .i64 H]) (ys:=[t,H]) (parts:=#[(0,.int .i64 t),(1,.int .i64 H)]) (n:=2) V4 rfl (G4.2 rfl) (by simp[Value.cells]) rfl rfl (by simp) (by simp) B8;exact⟨v,g,S,T,U⟩
 have k:=f.trans (o6.drew e);have s:∀d,o6 e.drew d->B8 (m8 e) (m8 d):=λd h=>b7 ((o6.drew e).trans h);have si:=ab (λd=>o6 e.drew d) e.drew (o8.refl _) s;have st:=ae (λd=>o6 e.drew d) e.drew (o8.refl _) s;have j:=show(d9 p).goes it=if it.s.kind=5 then[an1 it.s.thn it.next,an1 it.s.els it.next]else if it.s.kind=6 then[an1 it.s.thn it.s.id,it.next]else if it.s.kind=7 then[((d9 p).it it.loop).next]else if it.s.kind=8 then[it.loop]else if it.s.kind=9 then[-1]else if it.s.kind=10 then[((d9 p).at it.proc it.s.name).getD 0]else[it.next]from rfl;rcases ef2 (decide (it.s.kind=5))with k5|k5
 .rw[if_pos (ef3 k5)]at j;obtain⟨G,B,o,r,c⟩:=A (an1 it.s.thn it.next) (an1 it.s.els it.next) e.drew (b7 k);simp only[n8,n9,simprocAttr,m,E,k5];refine B9 (λd=>o6 e.drew d) 11 (A5 [0,1,2,3,4,6,7,8,9,10,5]) ?_;simp only[D0,A5,n8,n9,simprocAttr,si,st];refine E6 (bm0 Q it.s.thn it.next e.drew (A3.mono (b7 (o6.drew e)) M)) ⟨o8.refl _,?_⟩;simp only[D0,n8,simprocAttr];refine E6 (bm0 ah it.s.els it.next e.drew (A3.mono (b7 (o6.drew e)) W)) ?_;simp only[n8,simprocAttr,o];exact o7 results196 ⟨by rw[j];exact r,k.trans c⟩
 rw[if_neg (ef7 k5)]at j;rcases ef2 (decide (it.s.kind=6))with k6|k6
 .rw[if_pos (ef3 k6)]at j;obtain⟨G,B,o,r,c⟩:=A (an1 it.s.thn it.s.id) it.next e.drew (b7 k);simp only[n8,n9,simprocAttr,m,E,k5,k6];refine B9 (λd=>o6 e.drew d) 9 (A5 [0,1,2,3,4,5,7,8,6]) ?_;simp only[D0,A5,n8,n9,simprocAttr,si,st];refine E6 (bm0 Q it.s.thn it.s.id e.drew (A3.mono (b7 (o6.drew e)) M)) ⟨o8.refl _,?_⟩;simp only[D0,n8,simprocAttr,o];exact o7 results196 ⟨by rw[j];exact r,k.trans c⟩
 rw[if_neg (ef7 k6)]at j;have B8:=hr.leads X it C;unfold ay3 at B8;rcases ef2 (decide (it.s.kind=7))with k7|k7
 .rw[if_pos (ef3 k7)]at j;rw[if_pos (.inl (ef3 k7))]at B8;have K:(x:Int)<it.loop/\it.loop<=(y:Int):=by
   rcases O.loop it C with h|h
   .rw[h]at B8;simp at B8
   .exact h
  obtain⟨_,_,z⟩:=O.at_ it.loop K.1 K.2;obtain⟨G,B,o,r,c⟩:=l ((d9 p).it it.loop).next e.drew (b7 k);obtain⟨vL,au,ar,hL,_,_,_,_,ad⟩:=(hs.mono (b7 f)).sh;have ss:=ad (λd=>o6 e.drew d) e.drew (o8.refl _) s;obtain⟨_,_,ac⟩:=(hL.at_ z).it;have sl:=ac (λd=>o6 e.drew d) e.drew (o8.refl _) s;have hz:A3.sz It=17:=rfl;rw[hz]at sl;have J:=hL.inS ((ef6.1 z).1);have ak:=O.ok.fit;have al:=O.ok.len;have N:IntKind.i64.wrap (it.loop-1)=(((it.loop-1).toNat:Nat):Int):=by rw[M2 _ (by omega)];omega
  generalize(it.loop-1).toNat=q at J sl N;simp only[n8,n9,simprocAttr,m,E,k5,k6,k7];refine B9 (λd=>o6 e.drew d) 12 (A5 [0,1,2,3,4,5,6,7,8,9,10,11]) ?_;simp only[D0,A5,n8,n9,y4,simprocAttr,si,ss,sl,J,N,o,F2];refine⟨c,?_⟩;exact o7 results196 ⟨by rw[j];exact r,k.trans c⟩
 rw[if_neg (ef7 k7)]at j;rcases ef2 (decide (it.s.kind=8))with k8|k8
 .rw[if_pos (ef3 k8)]at j;obtain⟨G,B,o,r,c⟩:=l it.loop e (b7 f);simp only[n8,n9,simprocAttr,m,R,E,k5,k6,k7,k8,o];exact o7 results196 ⟨by rw[j];exact r,f.trans c⟩
 rw[if_neg (ef7 k8)]at j;rcases ef2 (decide (it.s.kind=9))with k9|k9
 .rw[if_pos (ef3 k9)]at j;obtain⟨G,B,o,r,c⟩:=l (-1) e (b7 f);simp only[n8,n9,simprocAttr,m,E,k5,k6,k7,k8,k9,o];exact o7 results196 ⟨by rw[j];exact r,f.trans c⟩
 rw[if_neg (ef7 k9)]at j;rcases ef2 (decide (it.s.kind=10))with k10|k10
 .rw[if_pos (ef3 k10),L]at j;simp only[n8,n9,simprocAttr,m,R,E,k5,k6,k7,k8,k9,k10];refine B2 (cn7 a (d9 p) i x y it.s.name e (hs.mono (b7 f)) O.ok (by rw[K5];exact X) (am0 p hw) (by rw[K5];exact az3 p hw)) (λB c=>?_);cases hq:(d9 p).at i it.s.name with
  | none=>
   obtain⟨G,w3,o,r,D⟩:=l 0 B (b7 (f.trans c));simp only[n8,simprocAttr,cl5,o];exact o7 results196 ⟨by rw[j,hq];exact r,f.trans (c.trans D)⟩
  | some q=>
   obtain⟨G,w3,o,r,D⟩:=l q B (b7 (f.trans c));simp only[n8,simprocAttr,cl5,o];exact o7 results196 ⟨by rw[j,hq];exact r,f.trans (c.trans D)⟩
 .rw[if_neg (ef7 k10)]at j;obtain⟨G,B,o,r,c⟩:=l it.next e (b7 f);simp only[n8,n9,simprocAttr,m,R,E,k5,k6,k7,k8,k9,k10,o];exact o7 results196 ⟨by rw[j];exact r,f.trans c⟩
def aq4(a b c:Int):B6 prog 263 [(0,.int .i64 a),(1,.int .i64 b),(2,.int .i64 c)]=some (.agg (p8.cells (⟨a,b,c⟩:Sp)).toArray):=by
 simp[B6,dH8,J9,Instr.fill,Value.cells,p8.cells,Sp.cells]
def cg1{α:Type}[A3 α][p8 α]{h:Hp}(x:α):A3.enc h (Value.cells (.agg (p8.cells x).toArray)).toList x:=(p8.iff_ _ _ _).2 (by simp[Value.cells])
def cz2{x y:Nat}(b:y<=1000000){a:Int}(h:Rg x y a):plc a:=by
 unfold plc;rcases h with h|h<;>omega
def cV3{p:Pg}(h:D3 p)(hw:B7 p<=1000000){i x y:Nat}(g:i<p.procs.length)(d:as2 p i x y):∀t∈((⟨0,(d9 p).first i,1⟩:Sp)::((d9 p).of i).flatMap λit=>((d9 p).goes it).map λt=>⟨it.s.id,t,1⟩),plc t.src/\plc t.dst:=by
 intro t c;have e:y<=1000000:=ef9 d.ok.len d.ok.fit;rcases eh0.1 c with rfl|c
 .exact⟨by unfold plc;simp,cz2 e (ch1 d)⟩
 .obtain⟨it,b,c⟩:=ei7.1 c;obtain⟨a,f,rfl⟩:=eh4.1 c;have:=d.ids it b;exact⟨by unfold plc;simp only[];omega,cz2 e (cG1 h hw g d it b a f)⟩
def cM1(a:Addr)(p:Pg)(i x y:Nat)(w:World)(hs:At (m8 w) a (d9 p))(hr:D3 p)(hw:B7 p<=1000000)(hi:i<p.procs.length)(pt:as2 p i x y):
  o9 prog 147 #[.pointer (some a),.int .i64 i] w λu m=>(B0 (m8 w) m 263 u ((d9 p).steps i)/\o6 w m):=by
 refine p9 [.pointer (some a),.int .i64 i] func147 rfl ?_;obtain⟨aS,ad⟩:=bt6 p hw i hi;have ab:=ci2 (d9 p);have hF:(d9 p).steps i=ag2 (⟨0,(d9 p).first i,1⟩::((d9 p).of i).flatMap λit=>((d9 p).goes it).map λt=>⟨it.s.id,t,1⟩):=rfl;have d:=cV3 hr hw hi pt;simp only[n8,n9,simprocAttr];refine B2 (cn8 a (d9 p) i x y w hs pt.ok) (λw1 ak=>?_);obtain⟨v0,w2,ae,ag,aI,_⟩:=lit (P:=prog) (w:=w1) (h:=m8 w) (α:=Sp) (xs:=[.agg (p8.cells (⟨0,(d9 p).first i,1⟩:Sp)).toArray]) (ys:=[⟨0,(d9 p).first i,1⟩]) (parts:=#[(0,.agg (p8.cells (⟨0,(d9 p).first i,1⟩:Sp)).toArray)]) (n:=1) bI2 rfl (ac2.2 (by simp[Value.cells])) (by simp[Value.cells,p8.cells,Sp.cells]) rfl rfl (by simp) (by simp) (b7 ak);have O:=ak.trans aI;simp only[n8,simprocAttr,aq4,ae];refine t8 (aF6 (m8 w) a (d9 p) i x y w2 hs (b7 O) pt.ok) ?_;rintro ui w3 ⟨A,al⟩;have ac:=λit ao m (h1:it∈(d9 p).of i) (h2:SV (m8 m) ao it) (h3:At (m8 m) a (d9 p))=>dc5 a ao p it i x y m h3 h2 hr hw hi pt h1;generalize hl:(d9 p).of i=l at A ad hF ac d;have aj:=O.trans al;have ax:=A.isS;have aE:=A.vlen;generalize hB:(λit:It=>((d9 p).goes it).map λt=>(⟨it.s.id,t,1⟩:Sp))=B at hF d;have aw:∀it,(B it).length<=2:=λit=>by rw[<-hB];simp only[eg5];exact ab it
 generalize aX:(⟨0,(d9 p).first i,1⟩:Sp)=s0 at ag hF d;have az:∀k,((l.take k).flatMap B).length<=800000:=λk=>by
  refine ef9 (P4 B 2 _ λx _=>aw x) ?_;rw[eg0];omega
 simp only[n8,n9,simprocAttr,ax,aE];refine A6 [0,17,18] (σ:=Nat×Value) (λs f m=>f 19 = .int .i64 s.1/\f 5=s.2/\s.1<=l.length/\B0 (m8 w) m 263 s.2 (s0::(l.take s.1).flatMap B)/\o6 w m) (λs=>l.length-s.1) (0,v0) ?_ ?_
 .exact⟨rfl,rfl,eg3 _,by simpa using ag.ext al,aj⟩
 rintro⟨j,u⟩ f w5 ⟨e0,ar,au,_⟩ ⟨D,h5,aB,Y,I⟩;simp only at D h5 aB Y;have M:=az j;simp only[n8,n9,simprocAttr,D,au];refine y5 (λF=>?_) ?_;rotate_left
 .rintro rfl;rw[eg4]at Y M;simp only[n8,simprocAttr,h5];refine t8 (aH7 Y (by simp only[ei2];omega) (b7 I) d) ?_;rintro u6 w6 ⟨G,aD,_⟩;simp only[n8,simprocAttr];exact o7 results147 ⟨by rw[hF];exact G,Y.ext2 I aD⟩
 have E:=A.inS F;obtain⟨sv,v,g⟩:=F5 (P:=prog) (t:=150) A (b7 I) (ef1 F) aa7 aa9 Z3 J3;rw[J3]at g;have W:=I9 B l F;have af:=eg2 F;generalize l[j]=it at v W af;obtain⟨c,wz,w6,ay,aG,an,K⟩:=aV9 (w:=w5) (A0 u) v (λb L=>Y.lt L);obtain⟨ldI,_⟩:=I6.it_v v K;obtain⟨us,aH,Z,_,_⟩:=I6.it v K;obtain⟨_,_,_,_,_,_,_,_,_,_,_,aJ,_⟩:=I6.st aH Z;have C:=I.trans an;simp only[n8,n9,y4,simprocAttr,D,e0,ar,E,g,ay,aG,ldI w6 (A8 _ _)];refine t8 (ac it sv w6 af (v.mono (b7 C)) (hs.mono (b7 C))) ?_;rintro ug w7 ⟨ah,X⟩;have G:=Y.ext an;have z:R (C1 w7 (A0 u)) ug ((d9 p).goes it):=ah.flatR λb L=>E4 λU=>by
  have h1:=G.lt U;have h2:=D1 (ah.free L);omega
 have V:=G.ext X;have am:=C.trans X;have J:B it=((d9 p).goes it).map λt=>(⟨it.s.id,t,1⟩:Sp):=by rw[<-hB]
 have aa:=ab it;generalize(d9 p).goes it=gl at z J aa;generalize(l.take j).flatMap B=pre at V M W;simp only[n8,n9,simprocAttr,z.isS,z.vlen];refine A6 [0,7,17,18,19,25,26] (σ:=Nat×Value) (λs f m=>f 27 = .int .i64 s.1/\f 5=s.2/\s.1<=gl.length/\B0 (m8 w) m 263 s.2 (s0::(pre++(gl.take s.1).map λt=>(⟨it.s.id,t,1⟩:Sp)))/\o8 (A0 u) w7 m/\E9 w7 u s.2) (λs=>gl.length-s.1) (0,u) ?_ ?_
 .exact⟨rfl,h5,eg3 _,by simpa using V,o8.refl _,λb L=>.inl L⟩
 rintro⟨k,u8⟩ f8 w8 ⟨q0,q7,a4,a5,aK,aL,aM,_⟩ ⟨S,T,aC,H,q,r⟩;simp only at S T aC H r;have Q:=V.ext2 am q;simp only[n8,n9,simprocAttr,S,aM];refine y5 (λo=>?_) ?_;rotate_left
 .rintro rfl;rw[eg4,<-J]at H;simp only[n8,n9,simprocAttr,aK,D];refine nx2 (j+1,u8) ⟨T,by omega,?_,Q⟩;simp only[];rw[W];exact H
 clear E g;have E:=z.inS o;have g:=aC3 z (D8 q) o;have N:(gl.take (k+1)).map (λt=>(⟨it.s.id,t,1⟩:Sp))=(gl.take k).map (λt=>(⟨it.s.id,t,1⟩:Sp))++[⟨it.s.id,gl[k],1⟩]:=by
  rw[ef8 o,ei4];rfl
 generalize gl[k]=y1 at g N;have k2:=aJ w8 (D8 (o8.chain (o8.up X) q λ_ _ h=>h));obtain⟨p1,u9,w9,p2,p3,p4,p5⟩:=push (e:=117) bI2 rfl H (x:=.agg (p8.cells (⟨it.s.id,y1,1⟩:Sp)).toArray) (y:=⟨it.s.id,y1,1⟩) (cg1 _) (by simp only[ei2,ef4,eg5,eg0];omega) (by simp only[ei2,ef4,eg5,eg0];omega) (b7 Q);simp only[n8,n9,y4,simprocAttr,S,T,q7,aL,E,g,k2,aq4,p1,p2];refine nx4 (k+1,u9) ⟨?_,q.chain p4 λb L U=>?_,λb L=>?_⟩
 .simp only[];rw[N,<-ei0,<-er0];exact p3
 .rcases r b U with h|h
  .exact h
  .omega
 .rcases p5 b L with h|h
  .exact r b h
  .exact .inr (ef9 q.size h)
def ds7{h:Hp}{cs:List Value}{x:Wy}:A3.enc h cs x->∃c b a,cs=([c]:List Value)++([.int .i64 x.proc]:List Value)++([.int .i64 x.n]:List Value)++([b]:List Value)++([a]:List Value)/\R h c x.sp/\R h b x.real/\R h a x.live:=by
 rintro⟨g,i,j,rfl,d,e,f⟩;exact⟨g,i,j,rfl,d,e,f⟩
def At.wy{h:Hp}{a:Addr}{x:Wy}(p:At h a x):∃e c b,R h e x.sp/\R h c x.real/\R h b x.live/\(∀w,B8 h (m8 w)->P9 prog w 116 a e/\P9 prog w 3 (a.add 1) (.int .i64 x.proc)/\P9 prog w 3 (a.add 2) (.int .i64 x.n)/\P9 prog w 117 (a.add 3) c/\P9 prog w 95 (a.add 4) b)/\(∀(S:World->Prop) (n:World),S n->(∀w,S w->B8 h (m8 w))->Q7 prog S 116 a e/\Q7 prog S 3 (a.add 1) (.int .i64 x.proc)/\Q7 prog S 3 (a.add 2) (.int .i64 x.n)/\Q7 prog S 117 (a.add 3) c/\Q7 prog S 95 (a.add 4) b):=by
 obtain⟨r,q,i⟩:=p;obtain⟨e,c,b,rfl,m,k,j⟩:=ds7 q;exact⟨_,_,_,m,k,j,λw g=>⟨F4 i rfl bc1 w g,z6 i (o:=1) rfl G3 w g,z6 i (o:=2) rfl G3 w g,z6 i (o:=3) rfl cB1 w g,z6 i (o:=4) rfl aM6 w g⟩,λS n l g=>⟨U7 l λf d=>F4 i rfl bc1 f (g f d),U7 l λf d=>z6 i (o:=1) rfl G3 f (g f d),U7 l λf d=>z6 i (o:=2) rfl G3 f (g f d),U7 l λf d=>z6 i (o:=3) rfl cB1 f (g f d),U7 l λf d=>z6 i (o:=4) rfl aM6 f (g f d)⟩⟩
def dr9{h:Hp}{cs:List Value}{x:Bk}:A3.enc h cs x->∃e f a c d b,cs=([e]:List Value)++([f]:List Value)++([a]:List Value)++([c]:List Value)++([d]:List Value)++([b]:List Value)/\R h e x.sp/\R h f x.wp/\R h a x.defs/\R h c x.uses/\R h d x.ins/\R h b x.outs:=by
 rintro⟨n,o,p,q,r,s,rfl,g,i,j,k,l,m⟩;exact⟨n,o,p,q,r,s,rfl,g,i,j,k,l,m⟩
def At.bk{h:Hp}{a:Addr}{x:Bk}(v:At h a x):∃i j b d f c,R h i x.sp/\R h j x.wp/\R h b x.defs/\R h d x.uses/\R h f x.ins/\R h c x.outs/\(∀w,B8 h (m8 w)->P9 prog w 116 a i/\P9 prog w 134 (a.add 1) j/\P9 prog w 135 (a.add 2) b/\P9 prog w 135 (a.add 3) d/\P9 prog w 135 (a.add 4) f/\P9 prog w 135 (a.add 5) c)/\(∀(S:World->Prop) (u:World),S u->(∀w,S w->B8 h (m8 w))->Q7 prog S 116 a i/\Q7 prog S 134 (a.add 1) j/\Q7 prog S 135 (a.add 2) b/\Q7 prog S 135 (a.add 3) d/\Q7 prog S 135 (a.add 4) f/\Q7 prog S 135 (a.add 5) c):=by
 obtain⟨z,y,l⟩:=v;obtain⟨i,j,b,d,f,c,rfl,s,t,m,p,q,n⟩:=dr9 y;exact⟨_,_,_,_,_,_,s,t,m,p,q,n,λw k=>⟨F4 l rfl bc1 w k,z6 l (o:=1) rfl cB2 w k,z6 l (o:=2) rfl ag4 w k,z6 l (o:=3) rfl ag4 w k,z6 l (o:=4) rfl ag4 w k,z6 l (o:=5) rfl ag4 w k⟩,λS u r k=>⟨U7 r λg e=>F4 l rfl bc1 g (k g e),U7 r λg e=>z6 l (o:=1) rfl cB2 g (k g e),U7 r λg e=>z6 l (o:=2) rfl ag4 g (k g e),U7 r λg e=>z6 l (o:=3) rfl ag4 g (k g e),U7 r λg e=>z6 l (o:=4) rfl ag4 g (k g e),U7 r λg e=>z6 l (o:=5) rfl ag4 g (k g e)⟩⟩
structure WyOk (p:Pg) (i x y:Nat) (wy:Wy):Prop where
 s:wy.s=d9 p
 proc:wy.proc=(i:Int)
 n:wy.n=(y:Int)-(x:Int)+2
 part:as2 p i x y
def WyOk.index{p:Pg}{i x y:Nat}{wy:Wy}(h:WyOk p i x y wy)(a:Int):wy.index a=if a=0 then 0 else if a = -1 then wy.n-1 else if(x:Int)+1<=a/\a<(y:Int)+1 then a-((x:Int)+1)+1 else -1:=by
 have b:=h.part.ok.lo;have c:=h.part.ok.hi;unfold Wy.index atI;simp only[h.s,h.proc,eh6,List.getD,b,c,ek4]
def WyOk.place{p:Pg}{i x y:Nat}{wy:Wy}(h:WyOk p i x y wy)(a:Int):wy.place a=if a=0 then 0 else if a=wy.n-1 then -1 else(x:Int)+1+a-1:=by
 have b:=h.part.ok.lo;unfold Wy.place atI;simp only[h.s,h.proc,eh6,List.getD,b,ek4]
def bk3(a:Addr)(wy:Wy)(p:Pg)(i x y:Nat)(e:Int)(w:World)(P:At (m8 w) a wy)(c:WyOk p i x y wy)(R : -1<=e/\e<=2000000):
  o9 prog 145 #[.pointer (some a),.int .i64 e] w λu b=>(u = .int .i64 (wy.index e)/\o6 w b):=by
 refine p9 [.pointer (some a),.int .i64 e] func145 rfl ?_;obtain⟨vs,_,_,C,_,_,F,t⟩:=P.wy;obtain⟨T,rfl,has⟩:=Ptr.at_ C;have B:At (m8 w) T (d9 p):=by rw[<-c.s];exact has
 obtain⟨vL,v,H,W,m,n,Q,S,s⟩:=B.sh;have M:=F w (n7 _);rw[c.proc]at M;have j:=c.index e;have hN:=c.n;have J:=c.part.ok.le;have L:=c.part.ok.len;have I:=c.part.ok.fit;have l:∀b,o6 w.drew b->B8 (m8 w) (m8 b):=λb h=>b7 ((o6.drew w).trans h);have A:=t (λb=>o6 w.drew b) w.drew (o8.refl _) l;rw[c.proc]at A;have G:=s (λb=>o6 w.drew b) w.drew (o8.refl _) l;have k:=m.inS (ef6.1 c.part.ok.lo).1;have o:=n.inS (ef6.1 c.part.ok.hi).1;have z:∀K f d w0,F7 prog (λb=>o6 w.drew b) (Instr.loadAt 3 (.pointer (some (G9 v i)))) K f d w0=K (C9 f d (.int .i64 ((x:Int)+1))) w0:=λK f d w0=>C0 (w0:=w.drew) (o8.refl _) λb h=>ldI m (l b h) c.part.ok.lo;have E:∀K f d w0,F7 prog (λb=>o6 w.drew b) (Instr.loadAt 3 (.pointer (some (G9 H i)))) K f d w0=K (C9 f d (.int .i64 ((y:Int)+1))) w0:=λK f d w0=>C0 (w0:=w.drew) (o8.refl _) λb h=>ldI n (l b h) c.part.ok.hi;have D:IntKind.i64.wrap (wy.n-1)=wy.n-1:=M2 _ (by omega);rcases ef2 (decide (e=0))with q0|q0
 .simp only[n8,n9,simprocAttr,q0];refine o7 results145 ?_;simp only[B3,simprocAttr];exact⟨by rw[j,if_pos (ef3 q0)],o8.refl _⟩
 rw[if_neg (ef7 q0)]at j;rcases ef2 (decide (e = -1))with q1|q1
 .simp only[n8,n9,simprocAttr,q0,q1,M,D];refine o7 results145 ?_;simp only[B3,simprocAttr];exact⟨by rw[j,if_pos (ef3 q1)],o8.refl _⟩
 rw[if_neg (ef7 q1)]at j;have q:IntKind.i64.wrap (e-((x:Int)+1))=e-((x:Int)+1):=M2 _ (by omega);have r:IntKind.i64.wrap (e-((x:Int)+1)+1)=e-((x:Int)+1)+1:=M2 _ (by omega);generalize O:(x:Int)+1=X at z j q r;generalize Z:(y:Int)+1=Y at E j;simp only[n8,n9,simprocAttr,q0,q1];refine B9 (λb=>o6 w.drew b) 33 (A5 [0,1,2,3,4,5,6,7,8,9,10,11,12,13,14,15,16,17,18,19,20,21,22,23,24,25,26,27,28,29,30,31,32]) ?_;rcases ef2 (decide (X<=e))with q2|q2
 .rcases ef2 (decide (e<Y))with q3|q3
  .have g:∀b,o6 w.drew.drew b->B8 (m8 w) (m8 b):=λb h=>b7 ((o6.drew w).trans ((o6.drew w.drew).trans h));have N:=t (λb=>o6 w.drew.drew b) w.drew.drew (o8.refl _) g;rw[c.proc]at N;have U:=s (λb=>o6 w.drew.drew b) w.drew.drew (o8.refl _) g;have V:∀K f d w0,F7 prog (λb=>o6 w.drew.drew b) (Instr.loadAt 3 (.pointer (some (G9 v i)))) K f d w0=K (C9 f d (.int .i64 X)) w0:=λK f d w0=>C0 (w0:=w.drew.drew) (o8.refl _) λb h=>by rw[<-O];exact ldI m (g b h) c.part.ok.lo
   simp only[D0,A5,n8,n9,y4,simprocAttr,A,G,z,E,k,o,q2,q3];refine B9 (λb=>o6 w.drew.drew b) 17 (A5 [0,1,2,3,4,5,6,7,8,9,10,11,12,13,14,15,16]) ?_;simp only[D0,A5,n8,n9,y4,simprocAttr,N,U,V,k,q,r];refine o7 results145 ?_;simp only[B3,simprocAttr];exact⟨by rw[j,if_pos ⟨ef3 q2,ef3 q3⟩],(o6.drew w).trans (o6.drew _)⟩
  .simp only[D0,A5,n8,n9,y4,simprocAttr,A,G,z,E,k,o,q2,q3];refine o7 results145 ?_;simp only[B3,simprocAttr];exact⟨by rw[j,if_neg (λh=>ef7 q3 h.2)],o6.drew w⟩
 .simp only[D0,A5,n8,n9,y4,simprocAttr,A,G,z,k,q2];refine o7 results145 ?_;simp only[B3,simprocAttr];exact⟨by rw[j,if_neg (λh=>ef7 q2 h.1)],o6.drew w⟩
def ad3(a:Addr)(wy:Wy)(p:Pg)(i x y:Nat)(k:Int)(w:World)(G:At (m8 w) a wy)(b:WyOk p i x y wy)(Q:0<=k/\k<=2000000):
  o9 prog 59 #[.pointer (some a),.int .i64 k] w λu c=>(u = .int .i64 (wy.place k)/\o6 w c):=by
 refine p9 [.pointer (some a),.int .i64 k] func59 rfl ?_;obtain⟨S,_,_,r,_,_,s,v⟩:=G.wy;obtain⟨M,rfl,has⟩:=Ptr.at_ r;have q:At (m8 w) M (d9 p):=by rw[<-b.s];exact has
 obtain⟨R,z,N,O,j,I,H,J,t⟩:=q.sh;have E:=s w (n7 _);have g:=b.place k;have hN:=b.n;have B:=b.part.ok.le;have C:=b.part.ok.len;have A:=b.part.ok.fit;have e:∀c,o6 w.drew c->B8 (m8 w) (m8 c):=λc h=>b7 ((o6.drew w).trans h);have F:=v (λc=>o6 w.drew c) w.drew (o8.refl _) e;rw[b.proc]at F;have L:=t (λc=>o6 w.drew c) w.drew (o8.refl _) e;have o:=j.inS (ef6.1 b.part.ok.lo).1;have D:∀K f d w0,F7 prog (λc=>o6 w.drew c) (Instr.loadAt 3 (.pointer (some (G9 z i)))) K f d w0=K (C9 f d (.int .i64 ((x:Int)+1))) w0:=λK f d w0=>C0 (w0:=w.drew) (o8.refl _) λc h=>ldI j (e c h) b.part.ok.lo;have n:IntKind.i64.wrap (wy.n-1)=wy.n-1:=M2 _ (by omega);have l:IntKind.i64.wrap ((x:Int)+1+k)=(x:Int)+1+k:=M2 _ (by omega);have m:IntKind.i64.wrap ((x:Int)+1+k-1)=(x:Int)+1+k-1:=M2 _ (by omega);rcases ef2 (decide (k=0))with q0|q0
 .simp only[n8,n9,simprocAttr,q0];refine o7 results59 ?_;simp only[B3,simprocAttr];exact⟨by rw[g,if_pos (ef3 q0)],o8.refl _⟩
 rw[if_neg (ef7 q0)]at g;rcases ef2 (decide (k=wy.n-1))with q1|q1
 .simp only[n8,n9,simprocAttr,q0,q1,E,n];refine o7 results59 ?_;simp only[B3,simprocAttr];exact⟨by rw[g,if_pos (ef3 q1)],o8.refl _⟩
 rw[if_neg (ef7 q1)]at g;generalize P:(x:Int)+1=X at D g l m;simp only[n8,n9,simprocAttr,q0,q1,E,n];refine B9 (λc=>o6 w.drew c) 17 (A5 [0,1,2,3,4,5,6,7,8,9,10,11,12,13,14,15,16]) ?_;simp only[D0,A5,n8,n9,y4,simprocAttr,F,L,D,o,l,m];refine o7 results59 ?_;simp only[B3,simprocAttr];exact⟨by rw[g],o6.drew w⟩
def WyOk.index_rg{p:Pg}{i x y:Nat}{wy:Wy}(h:WyOk p i x y wy){a:Int}(b:a=0\/Rg x y a):0<=wy.index a/\wy.index a<wy.n:=by
 have c:=h.n;have d:=h.part.ok.le;rw[h.index];rcases b with b|b|b
 .rw[if_pos b];omega
 .rw[if_neg (by omega),if_pos b];omega
 .rw[if_neg (by omega),if_neg (by omega),if_pos (by omega)];omega
def aS6(a:Addr)(wy:Wy)(p:Pg)(i x y:Nat)(b:Int)(w:World)(t:At (m8 w) a wy)(d:WyOk p i x y wy)(n:(x:Int)<b/\b<=(y:Int))(D:(wy.live.length:Int)=wy.n):
  o9 prog 88 #[.pointer (some a),.int .i64 b] w λu e=>(u = .bool (wy.lives b)/\o6 w e):=by
 refine p9 [.pointer (some a),.int .i64 b] func88 rfl ?_;obtain⟨_,_,E,_,_,l,B,r⟩:=t.wy;have v:=d.part.ok.fit;have z:=d.part.ok.len;have o:∀e,o6 w.drew e->B8 (m8 w) (m8 e):=λe h=>b7 ((o6.drew w).trans h);have C:=r (λe=>o6 w.drew e) w.drew (o8.refl _) o;have A:=d.index_rg (.inr (.inr n));have c:(wy.index b).toNat<wy.live.length:=by omega
 have j:=l.inS c;have g:wy.index b=(((wy.index b).toNat:Nat):Int):=by omega
 have s:wy.lives b=wy.live[(wy.index b).toNat]:=by
  unfold Wy.lives atB;rw[List.getD,ef1 c];rfl
 simp only[n8,n9,simprocAttr];refine B9 (λe=>o6 w.drew e) 7 (A5 [0,1,2,3,4,5,6]) ?_;simp only[D0,A5,n8,n9,simprocAttr,C];refine B2 (bk3 a wy p i x y b w.drew (t.mono (b7 (o6.drew w))) d (by omega)) (λF m=>⟨m,?_⟩);have f:=(o6.drew w).trans m;have k:=ldB l (b7 f) c;rw[g];generalize(wy.index b).toNat=q at c j k s;simp only[D0,n8,n9,y4,simprocAttr,j,k];refine o7 results88 ?_;simp only[B3,simprocAttr];exact⟨by rw[s],f⟩
def bW2(a b:Int):B6 prog 205 [(0,.int .i64 a),(1,.int .i64 b)]=some (.agg #[.int .i64 a,.int .i64 b]):=by
 simp[B6,dH5,J9,Instr.fill,Value.cells]
def dz8{h:Hp}(a b:Int):A3.enc h (Value.cells (.agg #[.int .i64 a,.int .i64 b])).toList ((a,b):Int×Int):=⟨[.int .i64 a],[.int .i64 b],rfl,rfl,rfl⟩
def av2(a:Addr)(wy:Wy)(p:Pg)(i x y:Nat)(v:Value)(l:List Sp)(w:World)(S:At (m8 w) a wy)(n:WyOk p i x y wy)(hv:R (m8 w) v l)(Y:∀t∈l,RgS x y t)(Z:l.length<=10000000):
  o9 prog 182 #[.pointer (some a),v] w λu g=>(B0 (m8 w) g 205 u (wy.pairs l)/\o6 w g):=by
 refine p9 [.pointer (some a),v] func182 rfl ?_;have T:=n.part.ok.fit;have U:=n.part.ok.len;have X:wy.pairs l=l.map λt=>(wy.index t.src,wy.index t.dst):=rfl;simp only[n8,n9,simprocAttr,hv.isS,hv.vlen];refine A6 [0,8,9] (σ:=Nat×Value) (λs f g=>f 10 = .int .i64 s.1/\f 5=s.2/\s.1<=l.length/\B0 (m8 w) g 205 s.2 ((l.take s.1).map λt=>(wy.index t.src,wy.index t.dst))/\o6 w g) (λs=>l.length-s.1) (0,.slice none 0 0) ?_ ?_
 .exact⟨rfl,rfl,eg3 _,by simpa using B0.nil _ _ _,o8.refl _⟩
 rintro⟨k,u⟩ f w2 ⟨e0,V,W,_⟩ ⟨j,H,N,G,o⟩;simp only at j H N G;simp only[n8,n9,simprocAttr,j,W];refine y5 (λm=>?_) ?_;rotate_left
 .rintro rfl;rw[eg4]at G;simp only[n8,simprocAttr,H];exact o7 results182 ⟨by rw[X];exact G,o⟩
 have M:=hv.inS m;obtain⟨sv,D,B⟩:=F5 (P:=prog) (t:=263) hv (b7 o) (ef1 m) cB3 cB8 bJ3 bc3;rw[bc3]at B;have E:(l.take (k+1)).map (λt=>(wy.index t.src,wy.index t.dst))=(l.take k).map (λt=>(wy.index t.src,wy.index t.dst))++[(wy.index l[k].src,wy.index l[k].dst)]:=by
  rw[ef8 m,ei4];rfl
 have z:=Y _ (eg2 m);generalize l[k]=s at D E z;obtain⟨c,wz,A,I,O,F,J⟩:=dx5 (D.mono (b7 o)) (n7 _);obtain⟨_,Q⟩:=J.sp;have s1:=Q (λg=>o6 A.drew g) A.drew (o8.refl _) λg h=>b7 ((o6.drew A).trans h);have d:=o.trans (F.trans (o6.drew A));have K : -1<=s.src/\s.src<=2000000:=by
  rcases z.1 with h|h<;>omega
 have L : -1<=s.dst/\s.dst<=2000000:=by
  rcases z.2 with h|h<;>omega
 simp only[n8,n9,y4,simprocAttr,j,V,M,B,I,O];refine B9 (λg=>o6 A.drew g) 11 (A5 [0,1,2,3,5,6,7,4,8,9,10]) ?_;simp only[D0,A5,n8,n9,simprocAttr,s1,e0];refine B2 (bk3 a wy p i x y s.src A.drew (S.mono (b7 d)) n K) (λw5 b=>⟨b,?_⟩);simp only[D0,n8,simprocAttr];refine B2 (bk3 a wy p i x y s.dst w5 (S.mono (b7 (d.trans b))) n L) (λw6 q=>⟨b.trans q,?_⟩);have r:=d.trans (b.trans q);have C:=G.ext (F.trans ((o6.drew A).trans (b.trans q)));obtain⟨p1,u7,w7,p2,p3,p4,p5⟩:=push (e:=203) dR7 rfl C (x:=.agg #[.int .i64 (wy.index s.src),.int .i64 (wy.index s.dst)]) (y:=(wy.index s.src,wy.index s.dst)) (dz8 _ _) (by simp only[eg5,eg0];omega) (by simp only[eg5,eg0];omega) (b7 r);simp only[D0,n8,simprocAttr,bW2,p1,F2];refine⟨b.trans (q.trans (o6.alloc _ _)),?_⟩;simp only[n8,n9,simprocAttr,H,j,p2];exact nx4 (k+1,u7) ⟨by rw[E];exact p3,C.ext2 r p4⟩
def bD1(a:Addr)(wy:Wy)(p:Pg)(i x y:Nat)(v:Value)(l:List Sp)(w:World)(o:At (m8 w) a wy)(c:WyOk p i x y wy)(g:(d9 p).l.length<=200)(hv:R (m8 w) v l)(z:∀t∈l,RgS x y t)(f:l.length<=10000000):
  o9 prog 148 #[.pointer (some a),v] w λu b=>(GR (m8 b) u (aq9 wy.n.toNat (wy.pairs l)).1 (aq9 wy.n.toNat (wy.pairs l)).2/\o6 w b):=by
 refine p9 [.pointer (some a),v] func148 rfl ?_;obtain⟨_,_,_,_,_,_,B,n⟩:=o.wy;have m:∀b,o6 w.drew b->B8 (m8 w) (m8 b):=λb h=>b7 ((o6.drew w).trans h);have r:=c.part.ok.len;have D:=c.n;have q:=c.part.ok.le;have j:wy.n=((wy.n.toNat:Nat):Int):=by omega
 have A:(wy.pairs l).length=l.length:=eg5 _;simp only[n8,n9,simprocAttr];refine B9 (λb=>o6 w.drew b) 7 (A5 [0,1,2,3,4,5,6]) ?_;simp only[D0,A5,n8,n9,simprocAttr,n (λb=>o6 w.drew b) w.drew (o8.refl _) m];refine t8 (av2 a wy p i x y v l w.drew (o.mono (b7 (o6.drew w))) c (A3.mono (b7 (o6.drew w)) hv) z f) ?_;rintro u C ⟨k,d⟩;refine⟨d,?_⟩;rw[j];simp only[D0,n8,n9,simprocAttr];refine t8 (cH9 wy.n.toNat u (wy.pairs l) C (by omega) (k.rw_ (b7 d)) (by omega)) ?_;rintro E F ⟨⟨M,s⟩,e⟩;simp only[n8,simprocAttr];exact o7 results148 ⟨s.read (b7 e),((o6.drew w).trans d).trans e⟩
mutual
def df4:∀(t:St) (d:Nat) (n m:Int),n<=200->((I4 d t.thn n).bind λm=>I4 d t.els m)=some m->m<=200
 | .mk id kind labels name proc x has args thn els,d,n,m,hn,h=>by
  simp only[St.thn,St.els]at h;obtain⟨a,b,c⟩:=el4.1 h;exact aT8 els d a m (aT8 thn d n a hn b) c
def aT8:∀(l:List St) (d:Nat) (n m:Int),n<=200->I4 d l n=some m->m<=200
 | [],d,n,m,hn,h=>by
  cases d with
  | zero=>simp[I4]at h;omega
  | succ d=>rw[I4]at h;simp at h;omega
 | t::l,0,n,m,hn,h=>by simp[I4]at h
 | t::l,d+1,n,m,hn,h=>by
  rw[ao1]at h;obtain⟨b,a,c⟩:=el4.1 h;split at a
  .cases a
  .next f=>
   have e:n+1<=200:=by
    rcases Int.lt_or_le 200 (n+1)with h|h
    .exact absurd (.inl h) f
    .exact h
   exact aT8 l (d+1) b m (df4 t d (n+1) b e a) c
end
def cm3:∀(l:List Pr) (n:Int),n<=200->(l.foldlM (λn f=>X6 f n) n).isSome=true->n+((l.map λf=>A7 f.body).sum:Nat)<=200
 | [],n,hn,_=>by simpa using hn
 | f::l,n,hn,h=>by
  rw[List.foldlM_cons]at h;obtain⟨k,c⟩:=el1.1 h;obtain⟨m,hm,a⟩:=el4.1 c;unfold X6 at hm;split at hm
  .cases hm
  .have e:=(aI4 f.body 12 n m hm).1;have b:=aT8 f.body 12 n m hn hm;have:=cm3 l m b (by rw[a];rfl);rw[ej9,eq8];omega
def H7{p:Pg}(hm:M8 p=true):(d9 p).l.length<=200:=by
 rw[aw4];simp only[M8,eh5]at hm;have:=cm3 p.procs 0 (by omega) hm.2;unfold bB0;omega
def dD1{w:World}{a:Nat}{b:Addr}{wy:Wy}{d c:Value}(e:w.heap[a]?=some (.cells #[.pointer (some b),.int .i64 wy.proc,.int .i64 wy.n,d,c] 119 (0,0)))(i:At (m8 w) b wy.s)(h:R (m8 w) d wy.real)(g:R (m8 w) c wy.live):At (m8 w) ⟨a,0,none⟩ wy:=by
 refine⟨[.pointer (some b),.int .i64 wy.proc,.int .i64 wy.n,d,c],⟨_,_,_,rfl,i.ptr,h,g⟩,λj u f=>?_⟩;rw[<-al0,add_lit,ej1,en2 w a j _ 119 (0,0) e];simpa using f
def cZ7(s v:Value)(i n:Int)(c:s.cells=#[s])(hv:v.cells=#[v]):B6 prog 119 [(0,s),(1,.int .i64 i),(2,.int .i64 n),(3,v)]=some (.agg #[s,.int .i64 i,.int .i64 n,v,.slice none 0 0]):=by
 have a:(Value.int .i64 i).cells=#[.int .i64 i]:=rfl;have b:(Value.int .i64 n).cells=#[.int .i64 n]:=rfl;simp[B6,dH0,J9,Instr.fill,c,hv,a,b]
def am9(s:Sh)(i:Nat):Wy:=⟨s,i,atI s.hi i-atI s.lo i+2,s.steps i,List.replicate (atI s.hi i-atI s.lo i+2).toNat false⟩
def dy3{p:Pg}{i x y:Nat}(a:as2 p i x y):WyOk p i x y (am9 (d9 p) i):=by
 refine⟨rfl,rfl,?_,a⟩;unfold am9 atI;simp only[eh6,List.getD,a.ok.lo,a.ok.hi,ek4];omega
def cK2{p:Pg}{i x y:Nat}(a:as2 p i x y):WyOk p i x y (D7 (d9 p) i):=by
 refine⟨rfl,rfl,?_,a⟩;unfold D7 atI;simp only[eh6,List.getD,a.ok.lo,a.ok.hi,ek4];omega
theorem bT8(s:Sh)(i:Nat):(D7 s i).live=bQ4 (aq9 (am9 s i).n.toNat ((am9 s i).pairs (s.steps i))).1:=rfl
def bM4{p:Pg}{i x y:Nat}(a:as2 p i x y):((D7 (d9 p) i).live.length:Int)=(D7 (d9 p) i).n:=by
 have c:=(cK2 a).n;have d:=a.ok.le;have b:(D7 (d9 p) i).n=(am9 (d9 p) i).n:=rfl;rw[bT8,b];unfold bQ4;rw[eg5,ek6,(an7 _ _).nx.len];omega
def bn9{p:Pg}(hw:B7 p<=1000000){i:Nat}(b:i<p.procs.length):((d9 p).steps i).length<=800001:=by
 obtain⟨_,a⟩:=bt6 p hw i b;refine ef9 (bb7 _) ?_;rw[ei2];have:=P4 (λit:It=>((d9 p).goes it).map λt=>(⟨it.s.id,t,1⟩:Sp)) 2 ((d9 p).of i) λit _=>by rw[eg5];exact ci2 _ _
 omega
def bK0(a:Addr)(p:Pg)(i x y:Nat)(w:World)(hs:At (m8 w) a (d9 p))(hr:D3 p)(hw:B7 p<=1000000)(hi:i<p.procs.length)(T:as2 p i x y):o9 prog 90 #[.pointer (some a),.int .i64 i] w λu c=>(∃g G F,u = .pointer (some ⟨g,0,none⟩)/\c.heap[g]?=some (.cells #[.pointer (some a),.int .i64 i,.int .i64 (D7 (d9 p) i).n,G,F] 119 (0,0))/\w.heap.size<=g/\B0 (m8 w) c 263 G ((d9 p).steps i)/\B0 (m8 w) c 4 F (D7 (d9 p) i).live/\o6 w c):=by
 refine p9 [.pointer (some a),.int .i64 i] func90 rfl ?_;have ao:=H7 hr.may;have bm:=T.ok.len;have bl:=T.ok.le;obtain⟨vL,bj,bi,hL,aC,az,bq,bw,bh⟩:=hs.sh;have aj:∀c,o6 w.drew c->B8 (m8 w) (m8 c):=λc h=>b7 ((o6.drew w).trans h);have s2:=bh (λc=>o6 w.drew c) w.drew (o8.refl _) aj;have a5:=aC.inS (ef6.1 T.ok.lo).1;have a6:=az.inS (ef6.1 T.ok.hi).1;have k1:∀K f d w0,F7 prog (λc=>o6 w.drew c) (Instr.loadAt 3 (.pointer (some (G9 bj i)))) K f d w0=K (C9 f d (.int .i64 ((x:Int)+1))) w0:=λK f d w0=>C0 (w0:=w.drew) (o8.refl _) λc h=>ldI aC (aj c h) T.ok.lo;have k2:∀K f d w0,F7 prog (λc=>o6 w.drew c) (Instr.loadAt 3 (.pointer (some (G9 bi i)))) K f d w0=K (C9 f d (.int .i64 ((y:Int)+1))) w0:=λK f d w0=>C0 (w0:=w.drew) (o8.refl _) λc h=>ldI az (aj c h) T.ok.hi;have aG:=dy3 T;have hn:=aG.n;have al:IntKind.i64.wrap ((y:Int)+1-((x:Int)+1))=(y:Int)+1-((x:Int)+1):=M2 _ (by omega);have am:IntKind.i64.wrap ((y:Int)+1-((x:Int)+1)+2)=(am9 (d9 p) i).n:=by rw[M2 _ (by omega)];omega
 have a9:(am9 (d9 p) i).n=(((am9 (d9 p) i).n.toNat:Nat):Int):=by omega
 generalize hX:(x:Int)+1=X at k1 al am;generalize hY:(y:Int)+1=Y at k2 al am;simp only[n8,n9,simprocAttr];refine B9 (λc=>o6 w.drew c) 21 (A5 [0,1,2,3,4,5,6,7,8,9,10,11,12,13,14,15,16,17,18,19,20]) ?_;simp only[D0,A5,n8,n9,y4,simprocAttr,s2,k1,k2,a5,a6,al,am];refine t8 (cM1 a p i x y w.drew (hs.mono (b7 (o6.drew w))) hr hw hi T) ?_;rintro G w2 ⟨O,aM⟩;refine⟨aM,?_⟩;have M:=(o6.drew w).trans aM;have aW:=O.isS;obtain⟨g,U,au,aN,ab,W⟩:∃g U,(Instr.box 119 (.agg #[.pointer (some a),.int .i64 i,.int .i64 (am9 (d9 p) i).n,G,.slice none 0 0])).run prog w2 = .ok (.pointer (some ⟨g,0,none⟩)) U/\o6 w2 U/\U.heap[g]?=some (.cells #[.pointer (some a),.int .i64 i,.int .i64 (am9 (d9 p) i).n,G,.slice none 0 0] 119 (0,0))/\w2.heap.size<=g:=
  ⟨_,_,rfl,o6.alloc _ _,ej0 w2 _,eg6 _⟩
 have aa:=M.trans aN;have ad:g<U.heap.size:=(ef5.1 ab).1;obtain⟨F,w4,aD,ah,an,aw,_⟩:=mk (P:=prog) (w:=U) (h:=m8 U) (α:=Bool) bI1 W5 (y:=false) rfl (n:=(am9 (d9 p) i).n.toNat) (by omega) (by omega) (n7 _);rw[<-a9]at aD;have aZ:w4.heap[g]?=some (.cells #[.pointer (some a),.int .i64 i,.int .i64 (am9 (d9 p) i).n,G,.slice none 0 0] 119 (0,0)):=(an.block g ad id).trans ab;have ay:∀b,A0 F b->b≠g:=λb l e=>by have:=aw b l;omega
 obtain⟨V,s5,a0,ag⟩:=af3 (P:=prog) (t:=95) (i:=4) (x:=F) aZ (by simp) (F0 ah.isS) (X1 ah.isS) (z7 bT7).choose_spec.1 (by rw[<-E1 (z7 bT7).choose_spec.1];exact cJ5);have B:V.heap[g]?=some (.cells #[.pointer (some a),.int .i64 i,.int .i64 (am9 (d9 p) i).n,G,F] 119 (0,0)):=by simpa using a0
 have s:o6 w V:=o8.ext_of (aa.trans an) ag λb l=>by subst l;exact ef9 M.size W
 have C:B0 (m8 w) V 4 F (List.replicate (am9 (d9 p) i).n.toNat false):=(ah.back aa).mod ag λb l=>ay b l;have I:B0 (m8 w) V 263 G ((d9 p).steps i):=(((O.backN (o6.drew w)).ext aN).ext an).mod ag λb l e=>by
  subst e;have:=O.lt l;omega
 have be:(Instr.loadAt 3 (.pointer (some ⟨g,2,none⟩))).run prog U = .ok (.int .i64 (am9 (d9 p) i).n) U:=E7 (i:=2) ab rfl G3;have bf:(Instr.loadAt 117 (.pointer (some ⟨g,3,none⟩))).run prog V = .ok G V:=E7 (i:=3) B rfl cB1;have ar:At (m8 V) ⟨g,0,none⟩ (am9 (d9 p) i):=dD1 B (hs.mono (b7 s)) (I.rw_ (b7 s)) (C.rw_ (b7 s));have aK:=bI8 hr hw hi T;have bu:=bn9 hw hi;simp only[D0,n8,n9,simprocAttr,cZ7 (.pointer (some a)) G i (am9 (d9 p) i).n rfl (F0 aW),au,be,aD,s5,bf];refine t8 (bD1 ⟨g,0,none⟩ (am9 (d9 p) i) p i x y G _ V ar aG ao (I.rw_ (b7 s)) aK (by omega)) ?_;rintro ug w6 ⟨ae,aO⟩;obtain⟨vz,w7,aB,ba,S,_⟩:=lit (P:=prog) (w:=w6) (h:=m8 w6) (α:=Int) (xs:=[.int .i64 0]) (ys:=[0]) (parts:=#[(0,.int .i64 0)]) (n:=1) V4 rfl (G4.2 rfl) (by simp[Value.cells]) rfl rfl (by simp) (by simp) (n7 _);have z:=(an7 (am9 (d9 p) i).n.toNat ((am9 (d9 p) i).pairs ((d9 p).steps i))).nx;have A:(D7 (d9 p) i).live=bQ4 (aq9 (am9 (d9 p) i).n.toNat ((am9 (d9 p) i).pairs ((d9 p).steps i))).1:=bT8 _ _;generalize(aq9 (am9 (d9 p) i).n.toNat ((am9 (d9 p) i).pairs ((d9 p).steps i))).1=nx at ae z A;generalize(aq9 (am9 (d9 p) i).n.toNat ((am9 (d9 p) i).pairs ((d9 p).steps i))).2=pv at ae;have aE:=z.len;have o:F3 nx.length nx:=by rw[aE];exact z
 have aH:I2 nx.length 0=true:=B4.2 ⟨by omega,by omega⟩;simp only[n8,simprocAttr,aB];refine t8 (cM0 ug nx pv vz [0] w7 (ae.mono (b7 S)) o (by omega) (ba.rw_ (b7 S)) (by simp)) ?_;rintro ur w8 ⟨⟨r,E,L⟩,bd⟩;have v:=aO.trans (S.trans bd);have Z:=C.ext v;have Q:R (C1 w8 (A0 F)) ur r:=E.flatR λb l=>E4 λaY=>by
  have h1:=C.lt aY;have h2:=D1 (E.free l);have:=(aO.trans S).size;omega
 have aJ:∀b∈r,I2 nx.length b=true:=λb l=>((L.mem b).1 l).ok o;have bt:r.length<=nx.length:=by
  have:=aK7 (n:=nx.length) (m:=0) L.le (λb l=>B4.1 (aJ b l)) (by omega);omega
 have a8:=du4 o aH L;rw[a8]at A;have aq:=Q.isS;have aF:=Q.vlen;have a1:∀c,o8 (A0 F) w8 c->c.heap[g]?=some (.cells #[.pointer (some a),.int .i64 i,.int .i64 (am9 (d9 p) i).n,G,F] 119 (0,0)):=λc hm=>by
  have ax:g<V.heap.size:=(ef5.1 B).1;have a3:g<w8.heap.size:=el8 ax v.size;rw[hm.block g a3 λl=>ay g l rfl,v.block g ax id,B]
 have aI:List.replicate (am9 (d9 p) i).n.toNat false=(List.range nx.length).map λ(b:Nat)=>(([]:List Int)).contains (b:Int):=by
  rw[aE];apply em6
  .simp
  .intro j h1 h2;simp
 rw[aI]at Z;simp only[n8,n9,simprocAttr,aq,aF];refine A6 [5,46,47] (σ:=Nat) (λk f c=>f 48 = .int .i64 k/\k<=r.length/\B0 (m8 w) c 4 F ((List.range nx.length).map λ(b:Nat)=>(r.take k).contains (b:Int))/\o8 (A0 F) w8 c) (λk=>r.length-k) 0 ?_ ?_
 .exact⟨rfl,eg3 _,by simpa using Z,o8.refl _⟩
 rintro k f w9 ⟨e5,aS,aT,_⟩ ⟨ap,bs,D,H⟩;have av:=a1 w9 H;simp only[n8,n9,simprocAttr,ap,aT];refine y5 (λN=>?_) ?_
 .have a7:=Q.inS N;have af:=aC3 Q (D8 H) N;have br:=B4.1 (aJ _ (eg2 N));have ac:r[k]=((r[k].toNat:Nat):Int):=by omega
  have ak:∀b:Int,(r.take (k+1)).contains b=((r.take k).contains b||decide (b=r[k])):=λb=>by
   rw[ef8 N,eq7,eq6,eg7,eg7,eg1,eh2,decide_eq_true_iff]
  have J:r[k].toNat<nx.length:=by omega
  rw[ac]at af ak;generalize r[k].toNat=q at af ak J;have l9:(Instr.loadAt 95 (.pointer (some ⟨g,4,none⟩))).run prog w9 = .ok F w9:=E7 (i:=4) av rfl aM6;have aA:=D.inS (k:=q) (by simpa using J);obtain⟨bE,s1,s2,s3,s4⟩:=F1 (P:=prog) (t:=4) D rfl (k:=q) (by simpa using J) (x:=.bool true) (y:=true) rfl rfl (z7 W5).choose_spec.1 (by rw[<-E1 (z7 W5).choose_spec.1];exact aG0);simp only[n8,n9,y4,simprocAttr,ap,e5,aS,a7,af,l9,aA,s1];refine T4 (k+1) ⟨?_,H.chain s3 λ_ _ h=>h⟩;have a2:((List.range nx.length).map λ(b:Nat)=>(r.take k).contains (b:Int)).set q true=(List.range nx.length).map λ(b:Nat)=>(r.take (k+1)).contains (b:Int):=by
   apply em6
   .simp
   .intro j h1 h2;rw[List.getElem_set];simp only[em7,es1,ak];by_cases hjq:q=j
    .subst hjq;simp
    .rw[if_neg hjq];have:decide ((j:Int)=(q:Int))=false:=by simp;omega
     rw[this,Bool.or_false]
  rw[<-a2];exact s2
 .rintro rfl;rw[eg4,<-A]at D;simp only[n8,simprocAttr,e5];refine o7 results90 ?_;simp only[B3,simprocAttr];have aL:o6 w w9:=o8.ext_of (s.trans v) H λb l=>D1 (C.free l);have E:B0 (m8 w) w8 263 G ((d9 p).steps i):=I.ext v;refine⟨g,G,F,by trivial,av,ef9 M.size W,E.mod H λb l aX=>?_,D,aL⟩;have h1:=aw b aX;have h2:=O.lt l;omega
instance:p8 (Int×Int):=⟨λp=>[.int .i64 p.1,.int .i64 p.2],λh cs x=>by
 constructor
 .rintro⟨c1,c2,rfl,h1,h2⟩;have e1:c1=[Value.int .i64 x.1]:=h1;have e2:c2=[Value.int .i64 x.2]:=h2;rw[e1,e2];rfl
 .rintro rfl;exact⟨[.int .i64 x.1],[.int .i64 x.2],rfl,rfl,rfl⟩⟩
def E2.nil{α:Type}[A3 α](h:Hp)(w:World)(T T':TypeId):E2 h w T T' (.slice none 0 0) ([]:List X9) ([]:List (List α)):=
 ⟨B0.nil _ _ _,rfl,λi u b h=>by simp at h,λi j u a _ h=>by simp at h,λi u h=>by simp at h⟩
def E2.push{α:Type}[A3 α]{h:Hp}{w C:World}{T T':TypeId}{v t:Value}{us:List X9}{l:List (List α)}(g:E2 h w T T' v us l){u':Value}{xs:List α}(E:B0 h w T' u' xs)(s:∀b,A0 u' b->¬N2 v us b)
  (B:B0 h C T t (us++[⟨u'⟩])) (hm:o8 (A0 v) w C) (A:E9 w v t):E2 h C T T' t (us++[⟨u'⟩]) (l++[xs]):=by
 have f:∀(j:Nat) (x:X9),(us++[(⟨u'⟩:X9)])[j]?=some x->(j=us.length/\x=⟨u'⟩)\/us[j]?=some x:=by
  intro j x c;rcases ej6 j us.length with i|z
  .rw[ek3 i]at c;exact .inr c
  .rw[ek7 z]at c;cases hq:j-us.length with
   | zero=>rw[hq]at c;simp at c;exact .inl ⟨by omega,c.symm⟩
   | succ q=>rw[hq]at c;simp at c
 have o:∀(j:Nat) (x:X9),us[j]?=some x->∀b,A0 x.v b->b<w.heap.size/\¬A0 v b:=λj x c b e=>⟨g.lt (.inr ⟨x,eh3 c,e⟩),g.off j x c b e⟩;have p:∀b,A0 t b->A0 v b\/w.heap.size<=b:=A;refine⟨B,by simp[g.len],?_,?_,?_⟩
 .intro j x H c r;rcases f j x c with⟨rfl,rfl⟩|d
  .rw[g.len,ek7 (eg6 _)]at r;simp at r;subst r;exact E.mod hm λb e a=>s b e (.inl a)
  .have i:j<l.length:=by rw[<-g.len];exact(ef6.1 d).1
   rw[ek3 i]at r;exact(g.row j x H d r).mod hm λb e=>g.off j x d b e
 .intro j k x y m c G b e a;rcases f j x c with⟨rfl,rfl⟩|d<;>rcases f k y G with⟨rfl,rfl⟩|n
  .exact m rfl
  .exact s b e (.inr ⟨y,eh3 n,a⟩)
  .exact s b a (.inr ⟨x,eh3 d,e⟩)
  .exact g.apart j k x y m d n b e a
 .intro j x c b e a;rcases f j x c with⟨rfl,rfl⟩|d
  .rcases p b a with u|u
   .exact s b e (.inl u)
   .have:=E.lt e;omega
  .obtain⟨u,F⟩:=o j x d b e;rcases p b a with D|D
   .exact F D
   .omega
def ac8(n:Nat)(l:List Int):List Bool:=(List.range n).map λ(b:Nat)=>l.contains (b:Int)
def aa1(n:Nat)(l:List Int):(ac8 n l).length=n:=by simp[ac8]
def aB1{n:Nat}{l m:List Int}(h:∀x,x∈l↔x∈m):ac8 n l=ac8 n m:=by
 refine List.map_congr_left λb _=>?_;rw[eq7,eg7,eg7];exact h _
def bR0(n:Nat):ac8 n []=List.replicate n false:=by
 apply em6
 .simp[ac8]
 .intro j a b;simp[ac8]
def aT9{n:Nat}(l:List Int){q:Nat}(c:q<n):(ac8 n l).set q true=ac8 n ((q:Int)::l):=by
 apply em6
 .simp[ac8]
 .intro j a b;rw[List.getElem_set];simp only[ac8,em7,es1];by_cases hjq:q=j
  .subst hjq;simp
  .rw[if_neg hjq,List.contains_cons];have:((j:Int)==(q:Int))=false:=by simp;omega
   rw[this,er3]
def cS5{n:Nat}(l:List Int){q:Nat}(a:q<n):(ac8 n l)[q]?=some (l.contains (q:Int)):=by
 simp[ac8,a]
section
variable {P:Program} {Q:Exit->Fr->World->Prop} {K:Fr->World->Prop} {f:Fr} {w:World} {ops:Array Oper}
def dL3:CW P .skip Q f w=Q .normal f w:=propext en7
def dV1{a b:Code}:CW P (.seq a b) Q f w=CW P a (ad0 (CW P b Q) Q) f w:=propext en7
def cW6{c:Operand}{a b:Code}:CW P (.cond c a b) Q f w=aO9 (ev f c) (CW P a Q) (CW P b Q) f w:=propext en7
def dJ2{id:Nat}{a:Code}:CW P (.block id a) Q f w=CW P a (aa5 id Q) f w:=propext en7
def dL2{a:Code}:CW P (.loop a) Q f w=ce0 (CW P a) Q f w:=propext en7
def dL0{id:Nat}:CW P (.region id ops true) Q f w=cX1 P ops (Q .normal) f w:=propext en7
def dL1{id:Nat}:CW P (.exit id) Q f w=Q (.exit id) f w:=propext en7
def dV0:CW P .ret Q f w=Q .ret f w:=propext en7
def dS5:ad0 K Q .normal f w=K f w:=propext en7
def dS6:ad0 K Q .ret f w=Q .ret f w:=propext en7
def dS7{i:Nat}:ad0 K Q (.exit i) f w=Q (.exit i) f w:=propext en7
def dJ7{i:Nat}:aa5 i Q .normal f w=Q .normal f w:=propext en7
def dJ8{i:Nat}:aa5 i Q .ret f w=Q .ret f w:=propext en7
def dJ9{i j:Nat}:aa5 i Q (.exit j) f w=if j=i then Q .normal f w else Q (.exit j) f w:=propext en7
def dN3{A B:Fr->World->Prop}:aO9 (.bool true) A B f w=A f w:=propext en7
def dN2{A B:Fr->World->Prop}:aO9 (.bool false) A B f w=B f w:=propext en7
end
def i5:=zJ (zJ (zJ (zJ (zJ (zJ @dV1 @dL3) (zJ @cW6 (zJ @dJ2 @dL2))) (zJ (zJ @dU9 @dL0) (zJ @dL1 (zJ @dV0 @dS5)))) (zJ (zJ (zJ @dS4 @dS6) (zJ @dS7 (zJ @dJ7 @dJ6))) (zJ (zJ @dJ8 @dJ9) (zJ @dN3 (zJ @dN2 @dV4))))) (zJ (zJ (zJ (zJ @dY9 @ec9) (zJ @dK7 (zJ @dX9 @dK8))) (zJ (zJ @dY0 @eb4) (zJ @ed4 (zJ @dv3 @dQ4)))) (zJ (zJ (zJ @dv4 @dQ5) (zJ @dQ6 (zJ @dG4 @dA9))) (zJ (zJ @dA8 @dQ3) (zJ @eb6 (zJ @eb5 @dG3)))))) (zJ (zJ (zJ (zJ (zJ @eb8 @eb7) (zJ @dX7 (zJ @do5 @dP3))) (zJ (zJ @ea9 @dv0) (zJ @dK6 (zJ @dF8 @ea3)))) (zJ (zJ (zJ @eb0 @dK5) (zJ @dX6 (zJ @dP6 @dX5))) (zJ (zJ @ev.eq_1 @ev.eq_2) (zJ @ev.eq_3 (zJ @ev.eq_4 @C9.eq_1))))) (zJ (zJ (zJ (zJ @C9.eq_2 @ec8) (zJ @eb1 (zJ @eb9 @ec0))) (zJ (zJ @List.map_cons.{0,0} @List.map_nil.{0,0}) (zJ @List.map_toArray.{0,0} (zJ @ce3.eq_1 @ce3.eq_2)))) (zJ (zJ (zJ @dE8 @dW6) (zJ @dW7 (zJ @dc9.eq_1 @List.getElem?_toArray.{0}))) (zJ (zJ @List.getElem?_cons_zero.{0} (zJ @List.getElem?_cons_succ.{0} @Option.bind_some.{0,0})) (zJ @Option.some.injEq.{0} (zJ @em5 @Bool.true_eq_false))))))
structure am8 (p:Pg) (i x y:Nat) (wy:Wy):Prop extends WyOk p i x y wy where
 real:wy.real=(d9 p).steps i
 live:(wy.live.length:Int)=wy.n
def O8{p:Pg}{i x y:Nat}(a:as2 p i x y):am8 p i x y (D7 (d9 p) i):=⟨cK2 a,rfl,bM4 a⟩
def bg7{p:Pg}{i x y:Nat}{wy:Wy}(h:WyOk p i x y wy){l:List Sp}(c:∀t∈l,RgS x y t):∀t∈wy.pairs l,(0<=t.1/\t.1<wy.n)/\(0<=t.2/\t.2<wy.n):=by
 intro t e;obtain⟨s,d,rfl⟩:=eh4.1 e;have b:=c s d;refine⟨h.index_rg ?_,h.index_rg (.inr b.2)⟩;rcases b.1 with a|a
 .exact .inl a
 .exact .inr (.inr a)
def dh9{nx:List (List Int)}(c:F3 nx.length nx):∀k,k<nx.length->0<=atI (al7 nx) (k:Nat)/\atI (al7 nx) (k:Nat)<(nx.length:Int):=by
 intro k a;have:atI (al7 nx) (k:Nat)=((((List.range nx.length).find? λb=>Y8 nx (k:Nat) (b:Nat)&&Y8 nx (b:Nat) (k:Nat)).getD 0:Nat):Int):=by
  unfold atI;rw[eh6,List.getD,ef1 (by simp[al7,a])];simp[al7]
 rw[this];cases hf:(List.range nx.length).find? λb=>Y8 nx (k:Nat) (b:Nat)&&Y8 nx (b:Nat) (k:Nat)with
 | none=>simp;omega
 | some q=>
  have:=List.mem_of_find?_eq_some hf;rw[ej7]at this;simp;omega
def aH0{l:List Int}{k:Nat}(a:k<l.length):atI l (k:Nat)=l[k]:=by
 unfold atI;rw[eh6,List.getD,ef1 a];rfl
def df2{h:Hp}{v:Value}{l:List (Int×Int)}{w:World}(hv:R h v l)(hw:B8 h (m8 w)){k:Nat}{x:Int×Int}(a:l[k]?=some x):(Instr.loadAt 205 (.pointer (some (G9 v (k*2))))).run prog w = .ok (.agg #[.int .i64 x.1,.int .i64 x.2]) w:=
 bY4 (P:=prog) (t:=205) hv hw a dk2 dl6 cB4 bJ5
def dn2{w:World}(a b:Int):∃c e d,(Instr.alloc 205 true (.tuple #[])).run prog w = .ok (.pointer (some ⟨c,0,none⟩)) e/\(Instr.storeAt 205 (.pointer (some ⟨c,0,none⟩)) (.agg #[.int .i64 a,.int .i64 b])).run prog e = .ok () d/\o6 w d/\d.heap[c]?=some (.cells #[.int .i64 a,.int .i64 b] 205 (0,0))/\w.heap.size<=c:=by
 obtain⟨f,g⟩:=aA5 (P:=prog) (w:=w) (T:=205) dm2 rfl (cs:=#[.int .i64 a,.int .i64 b]) rfl (by simp[Value.oneCell']);exact⟨_,_,_,f,g,o6.alloc _ _,ej0 w _,eg6 _⟩
def au9{w d:World}{c:Nat}{a b:Int}(h:w.heap[c]?=some (.cells #[.int .i64 a,.int .i64 b] 205 (0,0))){M:Nat->Prop}(hm:o8 M w d)(f:¬M c):
  (Instr.loadAt 3 (.pointer (some ⟨c,0,none⟩))).run prog d = .ok (.int .i64 a) d/\(Instr.loadAt 3 (.pointer (some ⟨c,1,none⟩))).run prog d = .ok (.int .i64 b) d:=by
 have e:=(hm.block c (ef5.1 h).1 f).trans h;exact⟨E7 (i:=0) e rfl G3,E7 (i:=1) e rfl G3⟩
def ay8(a:List Int)(n:Int)(b:List (Int×Int)):List Int:=atI a 0::atI a (n-1)::(b.filter λt=>!decide (atI a t.1=atI a t.2)).map λt=>atI a t.1
def cy6(a:List Int)(n:Int)(b:List (Int×Int))(t:Int×Int)(x:Int):x∈ay8 a n (b++[t])↔x∈ay8 a n b\/(decide (atI a t.1=atI a t.2)=false/\x=atI a t.1):=by
 unfold ay8;rw[el7,ei4];by_cases h:atI a t.1=atI a t.2
 .simp[h]
 .simp[h,or_assoc]
def cM3(a:Addr)(wy:Wy)(p:Pg)(i x y:Nat)(w:World)(ha:At (m8 w) a wy)(hr:D3 p)(hw:B7 p<=1000000)(hi:i<p.procs.length)(E:am8 p i x y wy):
  o9 prog 260 #[.pointer (some a)] w λu o=>(R (m8 o) u wy.traps/\o6 w o):=by
 refine p9 [.pointer (some a)] func260 rfl ?_;obtain⟨_,vr,_,_,a6,_,a8,cr⟩:=ha.wy;have lw:=a8 w (n7 _);rw[E.real]at a6;have be:=H7 hr.may;have cF:=E.part.ok.len;have cE:=E.part.ok.le;have hn:=E.n;have an:=bI8 hr hw hi E.part;have c2:=bn9 hw hi;have aM:=bg7 E.toWyOk an;have cg:(wy.pairs ((d9 p).steps i)).length=((d9 p).steps i).length:=eg5 _;have hF:wy.traps=((List.range (al7 (aq9 wy.n.toNat (wy.pairs ((d9 p).steps i))).1).length).filter λ(i':Nat)=>decide (atI (al7 (aq9 wy.n.toNat (wy.pairs ((d9 p).steps i))).1) (i':Int)=(i':Int)) && !(ay8 (al7 (aq9 wy.n.toNat (wy.pairs ((d9 p).steps i))).1) wy.n (wy.pairs ((d9 p).steps i))).contains (i':Int)).map λ(i':Nat)=>((List.range (al7 (aq9 wy.n.toNat (wy.pairs ((d9 p).steps i))).1).length).filter λ(j:Nat)=>decide (atI (al7 (aq9 wy.n.toNat (wy.pairs ((d9 p).steps i))).1) (j:Int)=(i':Int))).map λ(j:Nat)=>wy.place (j:Int):=by
  unfold Wy.traps;rw[E.real];rfl
 simp only[n8,n9,simprocAttr,lw];refine t8 (bD1 a wy p i x y vr _ w ha E.toWyOk be a6 an (by omega)) ?_;rintro ug w2 ⟨aU,cj⟩;have B:=an7 wy.n.toNat (wy.pairs ((d9 p).steps i));generalize ch:wy.pairs ((d9 p).steps i)=X at aM cg hF aU B;have af:=B.nx.len;simp only[n8,simprocAttr];refine t8 (cL9 ug _ _ w2 aU (by rw[af];exact B) (by omega)) ?_;rintro up w4 ⟨⟨q,bw,O,bx⟩,bD⟩;have N:F3 (aq9 wy.n.toNat X).1.length (aq9 wy.n.toNat X).1:=by rw[af];exact B.nx
 have ce:=dv6 N O bx;subst ce;have F:=dh9 N;rw[O,af]at hF;rw[af]at O F;generalize al7 (aq9 wy.n.toNat X).1=g at bw hF F O;clear bx N af B aU;have U:=cj.trans bD;have C:R (m8 w4) up g:=bw.rw_ (b7 bD);have bg:=C.isS;have bt:=C.vlen;have cm:=a8 w4 (b7 U);have cb:wy.n=((wy.n.toNat:Nat):Int):=by omega
 have bS:2<=wy.n.toNat:=by omega
 obtain⟨vo,w5,a2,L,bE,_,_⟩:=mk (P:=prog) (w:=w4) (h:=m8 w4) (α:=Bool) bI1 W5 (y:=false) rfl (n:=wy.n.toNat) (by omega) (by omega) (n7 _);rw[<-cb]at a2;generalize hM:wy.n.toNat=M at a2 L hF F O bS;have cZ:wy.n=(M:Int):=by omega
 rw[<-bR0]at L;have cc:=F 0 (by omega);have cd:=F (M-1) (by omega);rw[aH0 (by omega)]at cc cd;have bn:=C.inS (k:=0) (by omega);have bo:=C.inS (k:=M-1) (by omega);have bu:=L.inS (k:=g[0].toNat) (by rw[aa1];omega);have bv:=L.inS (k:=g[M-1].toNat) (by rw[aa1];omega);have ci:IntKind.i64.wrap (wy.n-1)=((M-1:Nat):Int):=by rw[M2 _ (by omega)];omega
 have aL:=L.ext (o6.drew w5);obtain⟨w6,s1,a3,bs,_⟩:=F1 (P:=prog) (t:=4) aL rfl (k:=g[0].toNat) (by rw[aa1];omega) (x:=.bool true) (y:=true) rfl rfl (z7 W5).choose_spec.1 (by rw[<-E1 (z7 W5).choose_spec.1];exact aG0);rw[aT9 _ (by omega)]at a3;obtain⟨w7,s2,aj,b9,_⟩:=F1 (P:=prog) (t:=4) a3 rfl (k:=g[M-1].toNat) (by rw[aa1];omega) (x:=.bool true) (y:=true) rfl rfl (z7 W5).choose_spec.1 (by rw[<-E1 (z7 W5).choose_spec.1];exact aG0);rw[aT9 _ (by omega)]at aj;have b2:ac8 M [((g[M-1].toNat:Nat):Int),((g[0].toNat:Nat):Int)]=ac8 M (ay8 g wy.n []):=by
  refine aB1 λz=>?_;unfold ay8;have e0:atI g 0=g[0]:=by have:=aH0 (l:=g) (k:=0) (by omega);simpa using this
  have e1:atI g (wy.n-1)=g[M-1]:=by rw[show wy.n-1=((M-1:Nat):Int) by omega,aH0 (by omega)]
  rw[e0,e1];simp only[List.filter_nil,List.map_nil,eh0,ek1,eq2];rw[show((g[M-1].toNat:Nat):Int)=g[M-1] by omega,show((g[0].toNat:Nat):Int)=g[0] by omega,or_comm]
 rw[b2]at aj;have aI:o8 (A0 vo) w5.drew w7:=bs.chain b9 λ_ _ h=>h;have a5:∀o,o8 (A0 vo) w5.drew o->B8 (m8 w4) (m8 o):=λo h=>H2 (b7 (bE.trans (o6.drew w5))) h λb hb=>L.free hb;have k0:∀K f d w0,F7 prog (λo=>o8 (A0 vo) w5.drew o) (Instr.loadAt 3 (.pointer (some (G9 up 0)))) K f d w0=K (C9 f d (.int .i64 g[0])) w0:=λK f d w0=>C0 (w0:=w5.drew) (o8.refl _) λo h=>aC3 C (a5 o h) (k:=0) (by omega);have k1:∀K f d w0,F7 prog (λo=>o8 (A0 vo) w5.drew o) (Instr.loadAt 3 (.pointer (some (G9 up (M-1))))) K f d w0=K (C9 f d (.int .i64 g[M-1])) w0:=λK f d w0=>C0 (w0:=w5.drew) (o8.refl _) λo h=>aC3 C (a5 o h) (k:=M-1) (by omega);have cs:=cr (λo=>o8 (A0 vo) w5.drew o) w5.drew (o8.refl _) λo h=>p7 (b7 U) (a5 o h);have b0:g[0]=((g[0].toNat:Nat):Int):=by omega
 have b1:g[M-1]=((g[M-1].toNat:Nat):Int):=by omega
 rw[b0]at k0;rw[b1]at k1;generalize g[0].toNat=P0 at k0 bu s1;generalize g[M-1].toNat=P1 at k1 bv s2;simp only[n8,n9,simprocAttr,cm,a2];refine B9 (λo=>o8 (A0 vo) w5.drew o) 17 (A5 [0,1,2,3,4,5,6,7,8,9,10,11,12,13,14,15,16]) ?_;simp only[D0,A5,n8,n9,y4,simprocAttr,k0,k1,cs,bn,bo,ci,bu,bv,s1,s2,F2];refine⟨bs,aI,?_⟩;have aQ:o6 w4 w7:=o8.ext_of (bE.trans (o6.drew w5)) aI λb hb=>D1 (L.free hb);have au:=U.trans aQ;simp only[n8,simprocAttr,a8 w7 (b7 au)];refine t8 (av2 a wy p i x y vr _ w7 (ha.mono (b7 au)) E.toWyOk (A3.mono (b7 au) a6) an (by omega)) ?_;rw[ch];rintro uq w8 ⟨al,bF⟩;have a4:=aj.ext bF;have ar:R (C1 w8 (A0 vo)) uq X:=al.flatRN λb hb=>E4 λbZ=>by
  have h1:=aj.lt bZ;have h2:=D1 (al.free hb);omega
 simp only[n8,n9,simprocAttr,ar.isS,ar.vlen];refine A6 [0,3,4,43,44] (σ:=Nat) (λk f o=>f 45 = .int .i64 k/\k<=X.length/\B0 (m8 w4) o 4 vo (ac8 M (ay8 g wy.n (X.take k)))/\o8 (A0 vo) w8 o) (λk=>X.length-k) 0 ?_ ?_
 .exact⟨rfl,eg3 _,by simpa using a4,o8.refl _⟩
 rintro k f w9 ⟨e0,e3,e4,bb,bQ,_⟩ ⟨ab,c0,ak,a1⟩;have W:=a4.ext2 (aQ.trans bF) a1;simp only[n8,n9,simprocAttr,ab,bQ];refine y5 (λD=>?_) ?_
 .have bm:=ar.inS D;have aC:=df2 ar (D8 a1) (ef1 D);have bB:=ef8 D;obtain⟨bz,bA⟩:=aM _ (eg2 D);generalize X[k]=t at aC bB bz bA;obtain⟨z1,z2⟩:=t;simp only at bz bA aC;obtain⟨Q1,rfl⟩:∃Q:Nat,z1=(Q:Int):=⟨z1.toNat,by omega⟩;obtain⟨Q2,rfl⟩:∃Q:Nat,z2=(Q:Int):=⟨z2.toNat,by omega⟩;obtain⟨c,wz,A,bh,ao,av,bj,b4⟩:=dn2 (w:=w9) (Q1:Int) (Q2:Int);have S:=W.trans (av.trans (o6.drew A));have ag:=λo (h:o6 A.drew o)=>au9 bj (M:=λ_=>False) ((o6.drew A).trans h) id;have t0:∀K f d w0,F7 prog (λo=>o6 A.drew o) (Instr.loadAt 3 (.pointer (some ⟨c,0,none⟩))) K f d w0=K (C9 f d (.int .i64 (Q1:Int))) w0:=λK f d w0=>C0 (w0:=A.drew) (o8.refl _) λo h=>(ag o h).1;have t1:∀K f d w0,F7 prog (λo=>o6 A.drew o) (Instr.loadAt 3 (.pointer (some ⟨c,1,none⟩))) K f d w0=K (C9 f d (.int .i64 (Q2:Int))) w0:=λK f d w0=>C0 (w0:=A.drew) (o8.refl _) λo h=>(ag o h).2;have aB:Q1<g.length:=by omega
  have aX:Q2<g.length:=by omega
  have aV:=C.inS aB;have bk:=C.inS aX;have g1:=aH0 aB;have g2:=aH0 aX;have u1:∀K f d w0,F7 prog (λo=>o6 A.drew o) (Instr.loadAt 3 (.pointer (some (G9 up Q1)))) K f d w0=K (C9 f d (.int .i64 (atI g Q1))) w0:=λK f d w0=>C0 (w0:=A.drew) (o8.refl _) λo h=>by rw[g1];exact aC3 C (b7 (S.trans h)) aB
  have u2:∀K f d w0,F7 prog (λo=>o6 A.drew o) (Instr.loadAt 3 (.pointer (some (G9 up Q2)))) K f d w0=K (C9 f d (.int .i64 (atI g Q2))) w0:=λK f d w0=>C0 (w0:=A.drew) (o8.refl _) λo h=>by rw[g2];exact aC3 C (b7 (S.trans h)) aX
  have v1:(Instr.loadAt 3 (.pointer (some (G9 up Q1)))).run prog A.drew = .ok (.int .i64 (atI g Q1)) A.drew:=by rw[g1];exact aC3 C (b7 S) aB
  have cf:=F Q1 (by omega);have ah:=ak.ext (av.trans (o6.drew A));have b8:=(ag A.drew (o8.refl _)).1;have Z:=λz=>cy6 g wy.n (X.take k) ((Q1:Int),(Q2:Int)) z;rw[<-bB]at Z;simp only at Z;generalize atI g (Q1:Int)=A1 at u1 v1 cf Z;generalize atI g (Q2:Int)=A2 at u2 Z;obtain⟨A1,rfl⟩:∃Q:Nat,A1=(Q:Int):=⟨A1.toNat,by omega⟩;have aJ:o8 (A0 vo) w8 A.drew:=a1.chain (o8.up (av.trans (o6.drew A))) λ_ _ h=>h;rcases ef2 (decide ((A1:Int)=A2))with hq|hq
  .simp only[n8,n9,y4,simprocAttr,ab,bb,bm,aC,bh,ao];refine B9 (λo=>o6 A.drew o) 11 (A5 [0,1,2,3,4,5,6,7,8,9,10]) ?_;simp only[D0,A5,n8,n9,y4,simprocAttr,e3,t0,t1,u1,u2,aV,bk,hq,ab];refine T4 (k+1) ⟨?_,aJ⟩;have:ac8 M (ay8 g wy.n (X.take (k+1)))=ac8 M (ay8 g wy.n (X.take k)):=aB1 λz=>by rw[Z z,hq];simp
   rw[this];exact ah
  .have bp:=ah.inS (k:=A1) (by rw[aa1];omega);obtain⟨aF,s1,aK,br,_⟩:=F1 (P:=prog) (t:=4) ah rfl (k:=A1) (by rw[aa1];omega) (x:=.bool true) (y:=true) rfl rfl (z7 W5).choose_spec.1 (by rw[<-E1 (z7 W5).choose_spec.1];exact aG0);rw[aT9 _ (by omega)]at aK;simp only[n8,n9,y4,simprocAttr,ab,bb,bm,aC,bh,ao];refine B9 (λo=>o6 A.drew o) 11 (A5 [0,1,2,3,4,5,6,7,8,9,10]) ?_;simp only[D0,A5,n8,n9,y4,simprocAttr,e3,t0,t1,u1,u2,aV,bk,hq];simp only[n8,n9,y4,simprocAttr,e4,ab,b8,v1,aV,bp,s1];refine T4 (k+1) ⟨?_,aJ.chain br λ_ _ h=>h⟩;have:ac8 M (ay8 g wy.n (X.take (k+1)))=ac8 M ((A1:Int)::ay8 g wy.n (X.take k)):=aB1 λz=>by rw[Z z,hq,eh0];simp[or_comm]
   rw[this];exact aK
 rintro rfl;rw[eg4]at ak;generalize c1:ay8 g wy.n X=op at ak hF;have bC:R (m8 w9) vo (ac8 M op):=ak.rw_ (b7 W);have aP:=U.trans W;have aO:R (m8 w9) up g:=A3.mono (b7 W) C;have bX:=ha.mono (b7 aP);generalize bT:(λ(i':Nat)=>decide (atI g (i':Int)=(i':Int)) && !op.contains (i':Int))=Pr at hF;generalize bW:(λ(i':Nat)=>((List.range M).filter λ(j:Nat)=>decide (atI g (j:Int)=(i':Int))).map λ(j:Nat)=>wy.place (j:Int))=Rw at hF;clear ak a4 aj a3 aL L ar al;simp only[i5,n9,simprocAttr,e3,bg,bt];refine A6 [0,3,4,68,69] (σ:=Nat×Value×List X9) (λs f o=>f 70 = .int .i64 s.1/\f 7=s.2.1/\s.1<=M/\E2 (m8 w9) o 24 3 s.2.1 s.2.2 (((List.range s.1).filter Pr).map Rw)/\o6 w9 o) (λs=>M-s.1) (0,.slice none 0 0,[]) ?_ ?_
 .exact⟨rfl,rfl,eg3 _,by simpa using E2.nil _ _ _ _,o8.refl _⟩
 rintro⟨m,v,us⟩ f2 aF ⟨g0,g3,g4,cX,bd,_⟩ ⟨Y,h7,ca,I,G⟩;simp only at Y h7 ca I;rw[e0]at g0;rw[e3]at g3;rw[e4]at g4;rw[O]at bd;have a7:=aP.trans G;have aq:∀q:Nat,((List.range (q+1)).filter Pr).map Rw=((List.range q).filter Pr).map Rw++if Pr q then[Rw q]else[]:=λq=>by
  rw[eq1,el7,ei4]
  congr 1
  by_cases h:Pr q=true<;>simp[h]
 simp only[i5,n9,simprocAttr,Y,bd];refine y5 (λD=>?_) ?_;rotate_left
 .rintro rfl;simp only[i5,simprocAttr,h7];exact o7 results260 ⟨by rw[hF];exact I.ro (b7 G),a7⟩
 have aZ:m<g.length:=by omega
 have aW:=C.inS aZ;have aH:=λo (h:o6 w9 o)=>aC3 aO (b7 h) aZ;rw[<-aH0 aZ]at aH;have aE:=aH aF G;have T:Pr m=(decide (atI g (m:Int)=(m:Int)) && !op.contains (m:Int)):=by rw[<-bT]
 have am:Pr m=false->∃s:Nat×Value×List X9,M-s.1<M-m/\(Value.int .i64 (IntKind.i64.wrap ((m:Int)+1))) = .int .i64 s.1/\v=s.2.1/\s.1<=M/\E2 (m8 w9) aF 24 3 s.2.1 s.2.2 (((List.range s.1).filter Pr).map Rw)/\o6 w9 aF:=λh=>by
  refine nx4 (m+1,v,us) ⟨?_,G⟩;simp only[];rw[aq,h,if_neg (by simp),ei5];exact I
 generalize cY:atI g (m:Int)=Am at aE T;rcases ef2 (decide (Am=(m:Int)))with q1|q1;rotate_left
 .simp only[i5,n9,y4,simprocAttr,Y,h7,g3,aW,aE,q1];exact am (by rw[T,q1];rfl)
 have bq:=bC.inS (k:=m) (by rw[aa1];exact D);have a0:=ldB bC (b7 G) (k:=m) (by rw[aa1];exact D);have b5:(ac8 M op)[m]'(by rw[aa1];exact D)=op.contains (m:Int):=by
  have:=cS5 op D;rw[ef1 (by rw[aa1];exact D)]at this;exact eh1 this
 rw[b5]at a0;rcases ef2 (op.contains (m:Int))with q2|q2
 .simp only[i5,n9,y4,simprocAttr,Y,h7,g3,g4,aW,aE,q1,bq,a0,q2];exact am (by rw[T,q1,q2];rfl)
 have bU:Pr m=true:=by rw[T,q1,q2];rfl
 have bV:Rw m=((List.range M).filter λ(j:Nat)=>decide (atI g (j:Int)=(m:Int))).map λ(j:Nat)=>wy.place (j:Int):=by rw[<-bW]
 simp only[i5,n9,y4,simprocAttr,Y,g3,g4,aW,aE,q1,bq,a0,q2,bg,bt];refine A6 [0,3,4,7,8,68,69,70,85,86] (σ:=Nat×Value) (λs f o=>f 87 = .int .i64 s.1/\f 9=s.2/\s.1<=M/\B0 (m8 w9) o 3 s.2 (((List.range s.1).filter λ(j:Nat)=>decide (atI g (j:Int)=(m:Int))).map λ(j:Nat)=>wy.place (j:Int))/\(∀b,A0 s.2 b->¬N2 v us b)/\E2 (m8 w9) o 24 3 v us (((List.range m).filter Pr).map Rw)/\o6 w9 o) (λs=>M-s.1) (0,.slice none 0 0) ?_ ?_
 .exact⟨rfl,rfl,eg3 _,by simpa using B0.nil _ _ _,λb hb=>absurd hb D5,I,G⟩
 rintro⟨j,ul⟩ f3 cw ⟨r0,r3,r4,r7,r8,c4,c5,cq,c6,bH,_⟩ ⟨ac,h9,b6,J,ae,r,H⟩;simp only at ac h9 b6 J ae;rw[O]at bH;rw[g0]at r0;rw[g3]at r3;rw[h7]at r7;have cC:(((List.range j).filter λ(j:Nat)=>decide (atI g (j:Int)=(m:Int))).map λ(j:Nat)=>wy.place (j:Int)).length<=j:=by
  rw[eg5];exact ef9 (eh9 _ _) (by simp)
 have b3:us.length<=m:=by
  rw[r.len,eg5];exact ef9 (eh9 _ _) (by simp)
 simp only[i5,n9,simprocAttr,ac,bH];refine y5 (λcG=>?_) ?_
 .have aY:j<g.length:=by omega
  have bl:=C.inS aY;have aD:=aC3 aO (b7 H) aY;rw[<-aH0 aY]at aD;have ap:(((List.range (j+1)).filter λ(j:Nat)=>decide (atI g (j:Int)=(m:Int))).map λ(j:Nat)=>wy.place (j:Int))=(((List.range j).filter λ(j:Nat)=>decide (atI g (j:Int)=(m:Int))).map λ(j:Nat)=>wy.place (j:Int))++if decide (atI g (j:Int)=(m:Int))then[wy.place (j:Int)]else[]:=by
   rw[eq1,el7,ei4]
   congr 1
   cases h:decide (atI g (j:Int)=(m:Int))<;>simp[h]
  generalize atI g (j:Int)=Aj at aD ap;rcases ef2 (decide (Aj=(m:Int)))with q3|q3
  .simp only[i5,n9,y4,simprocAttr,ac,r0,r3,r8,bl,aD,q3];refine B2 (ad3 a wy p i x y (j:Int) cw (bX.mono (b7 H)) E.toWyOk (by omega)) (λcx V=>?_);have aw:=H.trans V;obtain⟨p1,cv,da,p2,p3,p4,p5⟩:=push (e:=24) V4 rfl (J.ext V) (x:=.int .i64 (wy.place (j:Int))) (y:=wy.place (j:Int)) rfl (by omega) (by omega) (b7 aw);simp only[Value.cells]at p1 p2;have aN:=r.ext V;simp only[i5,n9,simprocAttr,ac,h9,p1,p2];refine nx4 (j+1,cv) ⟨?_,λb hb bi=>?_,aN.mod p4 λb hb bY=>ae b bY hb,(J.ext V).ext2 aw p4⟩
   .simp only[];rw[ap,q3,if_pos rfl];exact p3
   .rcases p5 b hb with h|h
    .exact ae b h bi
    .have:=aN.lt bi;omega
  .simp only[i5,n9,y4,simprocAttr,ac,r3,r8,bl,aD,q3];refine nx2 (j+1,ul) ⟨h9,by omega,?_,ae,r,H⟩;simp only[];rw[ap,q3,if_neg (by simp),ei5];exact J
 .rintro rfl;rw[<-bV]at J;obtain⟨p1,v',cx,p2,p3,p4,p5⟩:=push (e:=242) cz8 rfl r.outer (x:=ul) (y:=(⟨ul⟩:X9)) (by rw[F0 J.isS];exact⟨rfl,X1 J.isS⟩) (by omega) (by omega) (b7 H);simp only[i5,n9,simprocAttr,h9,r7,cq,Y,p1,p2];refine nx4 (m+1,v',us++[⟨ul⟩]) ⟨?_,r.outer.ext2 H p4⟩;simp only[];rw[aq,bU,if_pos rfl];exact r.push J ae p3 p4 p5
def cp2{p:Pg}{i x y:Nat}{wy:Wy}(b:am8 p i x y wy):∃a op:List Int,wy.traps=((List.range a.length).filter λ(c:Nat)=>decide (atI a (c:Int)=(c:Int)) && !op.contains (c:Int)).map (λ(c:Nat)=>((List.range a.length).filter λ(j:Nat)=>decide (atI a (j:Int)=(c:Int))).map λ(j:Nat)=>wy.place (j:Int))/\(a.length:Int)=wy.n/\atI a 0∈op/\atI a (wy.n-1)∈op:=by
 refine⟨al7 (aq9 wy.n.toNat (wy.pairs wy.real)).1,ay8 (al7 (aq9 wy.n.toNat (wy.pairs wy.real)).1) wy.n (wy.pairs wy.real),rfl,?_,?_,?_⟩
 .have d:=(an7 wy.n.toNat (wy.pairs wy.real)).nx.len;have e:=b.n;have f:=b.part.ok.le;unfold al7;rw[eg5,ek6,d];omega
 .simp[ay8]
 .simp[ay8]
def cp3{p:Pg}{i x y:Nat}{wy:Wy}(a:am8 p i x y wy):∀l∈wy.traps,∀id∈l,(x:Int)<id/\id<=(y:Int):=by
 obtain⟨m,op,e,s,n,o⟩:=cp2 a;intro l hm id hid;rw[e]at hm;obtain⟨k,g,rfl⟩:=eh4.1 hm;obtain⟨j,f,rfl⟩:=eh4.1 hid;rw[eh8,ej7]at g f;have c:=ef3 f.2;have b:(k:Int)∉op:=by
  have:=g.2;rw[eh5]at this;intro hm;have q:=eg7.2 hm;rw[q]at this;simp at this
 have t:=a.n;have h:=a.part.ok.le;rw[a.toWyOk.place];have r:j≠0:=λe=>by
  subst e;apply b;rw[<-c];simpa using n
 have d:(j:Int)≠wy.n-1:=λe=>by
  apply b;rw[<-c,e];exact o
 rw[if_neg (by omega),if_neg d];omega
def bT5{p:Pg}{i x y:Nat}{wy:Wy}(b:am8 p i x y wy):(wy.traps.length:Int)<=wy.n/\∀l∈wy.traps,(l.length:Int)<=wy.n:=by
 obtain⟨a,op,e,h,d,f⟩:=cp2 b;rw[e];constructor
 .rw[eg5];have:=eh9 (λ(c:Nat)=>decide (atI a (c:Int)=(c:Int)) && !op.contains (c:Int)) (List.range a.length);rw[ek6]at this;omega
 .intro l hm;obtain⟨k,g,rfl⟩:=eh4.1 hm;rw[eg5];have:=eh9 (λ(j:Nat)=>decide (atI a (j:Int)=(k:Int))) (List.range a.length);rw[ek6]at this;omega
def dx9{p:Pg}{i x y:Nat}{wy:Wy}(b:am8 p i x y wy):∀t∈wy.virtual,RgS x y t:=by
 intro t c;obtain⟨l,d,c⟩:=ei7.1 c;obtain⟨id,a,rfl⟩:=eh4.1 c;exact⟨.inr (cp3 b l d id (eh8.1 a).1),.inl rfl⟩
def dn3{p:Pg}{i x y:Nat}{wy:Wy}(a:am8 p i x y wy)(b:(d9 p).l.length<=200):wy.virtual.length<=202*202:=by
 obtain⟨f,d⟩:=bT5 a;have g:=a.n;have c:=a.part.ok.len;have:=P4 (λl:List Int=>(l.filter λid=>decide ((wy.s.it id).s.kind=10)).map λid=>(⟨id,-1,3⟩:Sp)) 202 wy.traps λl e=>by
  rw[eg5];refine ef9 (eh9 _ _) ?_;have:=d l e;omega
 refine ef9 this ?_;exact eo2 _ (by omega)
def bw0(a:Addr)(wy:Wy)(p:Pg)(i x y:Nat)(w:World)(ha:At (m8 w) a wy)(hr:D3 p)(hw:B7 p<=1000000)(hi:i<p.procs.length)(b:am8 p i x y wy):
  o9 prog 233 #[.pointer (some a)] w λu L=>(B0 (m8 w) L 263 u wy.virtual/\o6 w L):=by
 refine p9 [.pointer (some a)] func233 rfl ?_;obtain⟨vs,_,_,aq,_,_,av,_⟩:=ha.wy;obtain⟨sh,rfl,has⟩:=Ptr.at_ aq;have ao:At (m8 w) sh (d9 p):=by rw[<-b.s];exact has
 obtain⟨vL,_,_,hL,_,_,_,ar,_⟩:=ao.sh;have aA:=H7 hr.may;have aF:=b.part.ok.len;have hn:=b.n;have W:=cp3 b;obtain⟨ap,v⟩:=bT5 b;have hF:wy.virtual=wy.traps.flatMap λl=>(l.filter λid=>decide (((d9 p).it id).s.kind=10)).map λid=>(⟨id,-1,3⟩:Sp):=by unfold Wy.virtual;rw[b.s]
 simp only[i5,n9,simprocAttr];refine t8 (cM3 a wy p i x y w ha hr hw hi b) ?_;rintro ut w2 ⟨A,O⟩;generalize wy.traps=K at A hF W ap v;have af:=A.isS;have an:=A.vlen;generalize hB:(λl:List Int=>(l.filter λid=>decide (((d9 p).it id).s.kind=10)).map λid=>(⟨id,-1,3⟩:Sp))=B at hF;have ad:∀l∈K,(B l).length<=202:=λl hl=>by
  rw[<-hB,eg5];refine ef9 (eh9 _ _) ?_;have:=v l hl;omega
 have ag:∀k,((K.take k).flatMap B).length<=202*202:=λk=>by
  refine ef9 (P4 B 202 _ λl hl=>ad l (em8 hl)) (eo2 _ ?_);rw[eg0];omega
 simp only[i5,n9,simprocAttr,af,an];refine A6 [0,9,10] (σ:=Nat×Value) (λs f L=>f 11 = .int .i64 s.1/\f 3=s.2/\s.1<=K.length/\B0 (m8 w2) L 263 s.2 ((K.take s.1).flatMap B)/\o6 w2 L) (λs=>K.length-s.1) (0,.slice none 0 0) ?_ ?_
 .exact⟨rfl,rfl,eg3 _,by simpa using B0.nil _ _ _,o8.refl _⟩
 rintro⟨j,u⟩ f w5 ⟨e0,e9,ab,_⟩ ⟨F,h3,aj,U,Q⟩;simp only at F h3 aj U;have V:=ag j;simp only[i5,n9,simprocAttr,F,ab];refine y5 (λr=>?_) ?_;rotate_left
 .rintro rfl;rw[eg4]at U;simp only[i5,simprocAttr,h3];exact o7 results233 ⟨by rw[hF];exact U.backN O,O.trans Q⟩
 have o:=A.inS r;obtain⟨ul,z,ah⟩:=R.row A (ef1 r);have g:=J1 (P:=prog) (t:=24) ah (b7 Q) ah2;have N:=I9 B K r;have J:=W _ (eg2 r);have am:=v _ (eg2 r);generalize K[j]=l at z N J am;have S:B l=(l.filter λid=>decide (((d9 p).it id).s.kind=10)).map λid=>(⟨id,-1,3⟩:Sp):=by rw[<-hB]
 generalize(K.take j).flatMap B=pre at U V N;simp only[i5,n9,y4,simprocAttr,F,e9,o,g,z.isS,z.vlen];refine A6 [0,9,10,11,15,16] (σ:=Nat×Value) (λs f L=>f 17 = .int .i64 s.1/\f 3=s.2/\s.1<=l.length/\B0 (m8 w2) L 263 s.2 (pre++((l.take s.1).filter λid=>decide (((d9 p).it id).s.kind=10)).map λid=>(⟨id,-1,3⟩:Sp))/\o6 w2 L) (λs=>l.length-s.1) (0,u) ?_ ?_
 .exact⟨rfl,h3,eg3 _,by simpa using U,Q⟩
 rintro⟨k,u6⟩ f6 w6 ⟨q0,q9,aP,ax,Z,ay,_⟩ ⟨G,H,ak,m,n⟩;simp only at G H ak m;rw[e0]at q0;have D:=O.trans n;have aE:((l.take k).filter λid=>decide (((d9 p).it id).s.kind=10)).length<=k:=ef9 (eh9 _ _) (by rw[eg0];omega);simp only[i5,n9,simprocAttr,G,ay];refine y5 (λc=>?_) ?_;rotate_left
 .rintro rfl;rw[eg4,<-S]at m;simp only[i5,n9,simprocAttr,ax,F];refine nx2 (j+1,u6) ⟨H,by omega,?_,n⟩;simp only[];rw[N];exact m
 clear o g;have o:=z.inS c;have g:=aC3 z (b7 n) c;have M:=J _ (eg2 c);have d:((l.take (k+1)).filter λid=>decide (((d9 p).it id).s.kind=10)).map (λid=>(⟨id,-1,3⟩:Sp))=((l.take k).filter λid=>decide (((d9 p).it id).s.kind=10)).map (λid=>(⟨id,-1,3⟩:Sp))++if decide (((d9 p).it l[k]).s.kind=10)then[⟨l[k],-1,3⟩]else[]:=by
  rw[ef8 c,el7,ei4]
  congr 1
  cases h:decide (((d9 p).it l[k]).s.kind=10)<;>simp[h]
 generalize l[k]=id at g M d;obtain⟨_,_,I⟩:=b.part.at_ id M.1 M.2;have Y:=av w6 (b7 D);have X:=ar w6 (b7 D);obtain⟨T,_,_⟩:=(hL.at_ I).it;obtain⟨_,_,_,_,_,_,_,_,_,au,_⟩:=T.st;have E:=au w6 (b7 D);have hz:A3.sz It=17:=rfl;rw[hz]at E;have q:=hL.inS ((ef6.1 I).1);have C:IntKind.i64.wrap (id-1)=(((id-1).toNat:Nat):Int):=by rw[M2 _ (by omega)];omega
 generalize(id-1).toNat=qq at E q C;generalize((d9 p).it id).s.kind=kk at E d;rcases ef2 (decide (kk=10))with hq|hq
 .obtain⟨p1,u7,w7,p2,p3,p4,p5⟩:=push (e:=117) bI2 rfl m (x:=.agg (p8.cells (⟨id,-1,3⟩:Sp)).toArray) (y:=⟨id,-1,3⟩) (cg1 _) (by simp only[ef4,eg5];omega) (by simp only[ef4,eg5];omega) (b7 n);simp only[i5,n9,y4,simprocAttr,G,H,q0,Z,o,g,Y,X,C,q,E,hq,aq4,p1,p2];refine nx4 (k+1,u7) ⟨?_,m.ext2 n p4⟩;simp only[];rw[d,hq,if_pos rfl,<-ei0];exact p3
 .simp only[i5,n9,y4,simprocAttr,G,H,q0,Z,o,g,Y,X,C,q,E,hq];refine nx4 (k+1,u6) ⟨?_,n⟩;simp only[];rw[d,hq,if_neg (by simp),ei5];exact m
def cI7{x y:Nat}(a:y<=1000000){t:Sp}(h:RgS x y t):plc t.src/\plc t.dst:=
 ⟨by rcases h.1 with h|h<;>unfold plc<;>omega,cz2 a h.2⟩
def dN6{p:Pg}{i x y:Nat}(a:as2 p i x y):y<=1000000:=ef9 a.ok.len a.ok.fit
def dn4{p:Pg}{i x y:Nat}{wy:Wy}(d:D3 p)(hw:B7 p<=1000000)(c:i<p.procs.length)(a:am8 p i x y wy):∀t∈wy.virtual++wy.real,RgS x y t:=by
 intro t b;rcases eg1.1 b with b|b
 .exact dx9 a t b
 .rw[a.real]at b;exact bI8 d hw c a.part t b
def cc5{p:Pg}{i x y:Nat}{wy:Wy}(c:D3 p)(hw:B7 p<=1000000)(b:i<p.procs.length)(a:am8 p i x y wy):wy.virtual.length+wy.real.length<=1000000:=by
 have d:=dn3 a (H7 c.may);have e:=bn9 hw b;rw[a.real];omega
def bW8{p:Pg}{i x y:Nat}{wy:Wy}(c:D3 p)(hw:B7 p<=1000000)(b:i<p.procs.length)(a:am8 p i x y wy):∀t∈wy.data,RgS x y t:=λt d=>dn4 c hw b a t (bb8 d)
def bd7{p:Pg}{i x y:Nat}{wy:Wy}(c:D3 p)(hw:B7 p<=1000000)(b:i<p.procs.length)(a:am8 p i x y wy):wy.data.length<=1000000:=by
 have h:=cc5 c hw b a;refine ef9 (bb7 _) ?_;rw[ef4];exact h
def cd2(a:Addr)(wy:Wy)(p:Pg)(i x y:Nat)(w:World)(q:At (m8 w) a wy)(l:D3 p)(hw:B7 p<=1000000)(f:i<p.procs.length)(b:am8 p i x y wy):
  o9 prog 184 #[.pointer (some a)] w λu d=>(B0 (m8 w) d 263 u wy.data/\o6 w d):=by
 refine p9 [.pointer (some a)] func184 rfl ?_;obtain⟨_,H,_,_,n,_,B,o⟩:=q.wy;obtain⟨_,_,_,D,_⟩:=o (λd=>o6 w.drew d) w.drew (o8.refl _) λd h=>b7 ((o6.drew w).trans h);have r:=cc5 l hw f b;have m:=dn4 l hw f b;have A:=dN6 b.part;simp only[i5,n9,simprocAttr];refine B9 (λd=>o6 w.drew d) 6 (A5 [0,2,3,4,5,1]) ?_;simp only[D0,A5,i5,n9,simprocAttr,D];refine t8 (bw0 a wy p i x y w.drew (q.mono (b7 (o6.drew w))) l hw f b) ?_;rintro u I ⟨j,c⟩;refine⟨c,?_⟩;obtain⟨F,J,C,s,v,E⟩:=W2 (P:=prog) (t:=117) (e:=117) bI2 rfl j (A3.mono (b7 (o6.drew w)) n) (by omega) (by omega) (b7 c);simp only[D0,i5,simprocAttr,C];refine t8 (aH7 s (by simp only[ef4];omega) (b7 (j.ext2 c v)) λt z=>cI7 A (m t z)) ?_;rintro G K ⟨k,g,_⟩;simp only[i5,simprocAttr];exact o7 results184 ⟨k.backN (o6.drew w),(o6.drew w).trans (s.ext2 (j.ext2 c v) g)⟩
def cY5{p:Pg}{i x y:Nat}{wy:Wy}(e:D3 p)(hw:B7 p<=1000000)(d:i<p.procs.length)(b:am8 p i x y wy):∀t∈wy.virtual++wy.real++[⟨0,-1,2⟩]++((d9 p).of i).flatMap T5,RgS x y t:=by
 intro t a;rcases eg1.1 a with a|a
 .rcases eg1.1 a with a|a
  .exact dn4 e hw d b t a
  .obtain rfl:=eh2.1 a;exact⟨.inl rfl,.inl rfl⟩
 .obtain⟨it,c,a⟩:=ei7.1 a;unfold T5 at a;split at a
  .obtain rfl:=eh2.1 a;exact⟨.inr (b.part.ids it c),b.part.next it c⟩
  .simp at a
def bD9(it:It):(T5 it).length<=1:=by
 unfold T5;split<;>simp
def cC8(a:Addr)(wy:Wy)(p:Pg)(i x y:Nat)(w:World)(ha:At (m8 w) a wy)(hr:D3 p)(hw:B7 p<=1000000)(hi:i<p.procs.length)(g:am8 p i x y wy):
  o9 prog 183 #[.pointer (some a)] w λu o=>(B0 (m8 w) o 263 u wy.aug/\o6 w o):=by
 refine p9 [.pointer (some a)] func183 rfl ?_;obtain⟨vs,vr,_,az,ay,_,_,ae⟩:=ha.wy;obtain⟨sh,rfl,has⟩:=Ptr.at_ az;have aw:At (m8 w) sh (d9 p):=by rw[<-g.s];exact has
 obtain⟨_,_,_,sr,_⟩:=ae (λo=>o6 w.drew o) w.drew (o8.refl _) λo h=>b7 ((o6.drew w).trans h);have aD:=cc5 hr hw hi g;have L:=cY5 hr hw hi g;have hy:=dN6 g.part;have hF:wy.aug=ag2 (wy.virtual++wy.real++[⟨0,-1,2⟩]++((d9 p).of i).flatMap T5):=by unfold Wy.aug;rw[g.s,g.proc]
 simp only[i5,n9,simprocAttr];refine B9 (λo=>o6 w.drew o) 6 (A5 [0,2,3,4,5,1]) ?_;simp only[D0,A5,i5,n9,simprocAttr,sr];refine t8 (bw0 a wy p i x y w.drew (ha.mono (b7 (o6.drew w))) hr hw hi g) ?_;rintro u w2 ⟨q,N⟩;refine⟨N,?_⟩;obtain⟨u3,w3,S,Q,T,p4⟩:=W2 (P:=prog) (t:=117) (e:=117) bI2 rfl q (A3.mono (b7 (o6.drew w)) ay) (by omega) (by omega) (b7 N);have aa:=q.ext2 N T;obtain⟨q1,u4,R,q2,q3,q4,q5⟩:=push (e:=117) bI2 rfl Q (x:=.agg (p8.cells (⟨0,-1,2⟩:Sp)).toArray) (y:=⟨0,-1,2⟩) (cg1 _) (by simp only[ef4];omega) (by simp only[ef4];omega) (b7 aa);have ab:=(o6.drew w).trans (Q.ext2 aa q4);have X:=q3.backN (o6.drew w);have J:(wy.virtual++wy.real++[(⟨0,-1,2⟩:Sp)]).length<=1000001:=by simp only[ef4,ei6];omega
 generalize wy.virtual++wy.real++[(⟨0,-1,2⟩:Sp)]=G at X hF L J;obtain⟨z1,z2,_,_,_⟩:=ae (λo=>o6 R.drew o) R.drew (o8.refl _) λo h=>b7 (ab.trans ((o6.drew R).trans h));simp only[D0,i5,simprocAttr,S,aq4,q1,q2];refine B9 (λo=>o6 R.drew o) 11 (A5 [0,1,2,3,4,5,6,7,10,8,9]) ?_;simp only[D0,A5,i5,n9,simprocAttr,z1,z2];have H:=ab.trans (o6.drew R);rw[g.proc];refine t8 (aF6 (m8 w) sh (d9 p) i x y R.drew aw (b7 H) g.part.ok) ?_;rintro ui w5 ⟨D,O⟩;refine⟨O,?_⟩;have al:=D.isS;have W:=D.vlen;have an:=(bt6 p hw i hi).2;generalize hl:(d9 p).of i=l at D hF L W an;have Z:=H.trans O;have ar:=X.ext ((o6.drew R).trans O);have am:∀k,((l.take k).flatMap T5).length<=400000:=λk=>by
  refine ef9 (P4 T5 1 _ λx _=>bD9 x) ?_;rw[eg0];omega
 simp only[D0,i5,n9,simprocAttr,al,W];refine A6 [0,25,26] (σ:=Nat×Value) (λs f o=>f 27 = .int .i64 s.1/\f 3=s.2/\s.1<=l.length/\B0 (m8 w) o 263 s.2 (G++(l.take s.1).flatMap T5)/\o6 w o) (λs=>l.length-s.1) (0,u4) ?_ ?_
 .exact⟨rfl,rfl,eg3 _,by simpa using ar,Z⟩
 rintro⟨j,u⟩ f w6 ⟨e0,z,aj,_⟩ ⟨m,I,ap,q,F⟩;simp only at m I ap q;have Y:=am j;simp only[i5,n9,simprocAttr,m,aj];refine y5 (λK=>?_) ?_;rotate_left
 .rintro rfl;rw[eg4]at q Y;simp only[i5,simprocAttr,I];refine t8 (aH7 q (by simp only[ef4];omega) (b7 F) λt ht=>cI7 hy (L t ht)) ?_;rintro u6 w7 ⟨au,aq,_⟩;simp only[i5,simprocAttr];exact o7 results183 ⟨by rw[hF];exact au,q.ext2 F aq⟩
 have B:=D.inS K;obtain⟨sv,M,r⟩:=F5 (P:=prog) (t:=150) D (b7 F) (ef1 K) aa7 aa9 Z3 J3;rw[J3]at r;have v:=I9 T5 l K;generalize l[j]=it at M v;obtain⟨c,wz,w7,A,C,n,U⟩:=aV9 (w:=w6) (A0 u) M (λb hb=>q.lt hb);obtain⟨us,ax,V,ldI,_⟩:=I6.it M U;obtain⟨_,_,_,_,_,_,_,_,_,_,_,aA,_⟩:=I6.st ax V;have d:=F.trans n;have k1:=aA w7 (A8 _ _);have k2:=ldI w7 (A8 _ _);have E:(it.s.kind=7\/it.s.kind=8\/it.s.kind=9\/it.s.kind=10)->T5 it=[⟨it.s.id,it.next,2⟩]:=λh=>by unfold T5;rw[if_pos h]
 have aG:(G++(l.take j).flatMap T5).length<=2000000:=by rw[ef4];omega
 obtain⟨S,u7,w8,Q,T,p4,p5⟩:=push (e:=117) bI2 rfl (q.ext n) (x:=.agg (p8.cells (⟨it.s.id,it.next,2⟩:Sp)).toArray) (y:=⟨it.s.id,it.next,2⟩) (cg1 _) (by omega) (by omega) (b7 d);rcases ef2 (decide (it.s.kind=7))with k7|k7
 .simp only[i5,n9,y4,simprocAttr,m,I,z,B,r,A,C,k1,k2,k7,aq4,S,Q];refine nx4 (j+1,u7) ⟨?_,(q.ext n).ext2 d p4⟩;simp only[];rw[v,E (by have:=ef3 k7;omega),<-ei0];exact T
 rcases ef2 (decide (it.s.kind=8))with k8|k8
 .simp only[i5,n9,y4,simprocAttr,m,I,z,B,r,A,C,k1,k2,k7,k8,aq4,S,Q];refine nx4 (j+1,u7) ⟨?_,(q.ext n).ext2 d p4⟩;simp only[];rw[v,E (by have:=ef3 k8;omega),<-ei0];exact T
 rcases ef2 (decide (it.s.kind=9))with k9|k9
 .simp only[i5,n9,y4,simprocAttr,m,I,z,B,r,A,C,k1,k2,k7,k8,k9,aq4,S,Q];refine nx4 (j+1,u7) ⟨?_,(q.ext n).ext2 d p4⟩;simp only[];rw[v,E (by have:=ef3 k9;omega),<-ei0];exact T
 rcases ef2 (decide (it.s.kind=10))with k10|k10
 .simp only[i5,n9,y4,simprocAttr,m,I,z,B,r,A,C,k1,k2,k7,k8,k9,k10,aq4,S,Q];refine nx4 (j+1,u7) ⟨?_,(q.ext n).ext2 d p4⟩;simp only[];rw[v,E (by have:=ef3 k10;omega),<-ei0];exact T
 simp only[i5,n9,y4,simprocAttr,m,I,z,B,r,A,C,k1,k7,k8,k9,k10];refine nx4 (j+1,u) ⟨?_,d⟩;simp only[];have ao:T5 it=[]:=by
  unfold T5;rw[if_neg];have:=ef7 k7;have:=ef7 k8;have:=ef7 k9;have:=ef7 k10;omega
 rw[v,ao,ei5];exact q.ext n
def L3:=zJ (zJ (zJ (zJ (zJ (zJ @by6 @dV2) (zJ @dU5 @dK9)) (zJ (zJ @dU8 @dY6) (zJ @dU6 (zJ @dU7 @dY7)))) (zJ (zJ (zJ @dY3 @dS4) (zJ @dY4 (zJ @dY5 @dM1))) (zJ (zJ @dJ6 @dM2) (zJ @dM3 (zJ @dX0 @dW9))))) (zJ (zJ (zJ (zJ @dZ0 @ed0) (zJ @ed5 (zJ @dK7 @dX9))) (zJ (zJ @dK8 @dY0) (zJ @eb4 (zJ @ed4 @dv3)))) (zJ (zJ (zJ @dQ4 @dv4) (zJ @dQ5 (zJ @dQ6 @dG4))) (zJ (zJ @dA9 @dA8) (zJ @dQ3 (zJ @eb6 @eb5)))))) (zJ (zJ (zJ (zJ (zJ @dG3 @eb8) (zJ @eb7 (zJ @dX7 @do5))) (zJ (zJ @dP3 @ea9) (zJ @dv0 (zJ @dK6 @dF8)))) (zJ (zJ (zJ @ea3 @eb0) (zJ @dK5 (zJ @dX6 @dP6))) (zJ (zJ @dX5 @ev.eq_1) (zJ @ev.eq_2 (zJ @ev.eq_3 @ev.eq_4))))) (zJ (zJ (zJ (zJ @C9.eq_1 @C9.eq_2) (zJ @ec8 (zJ @eb1 @dY1))) (zJ (zJ @dY2 @List.map_cons.{0,0}) (zJ @List.map_nil.{0,0} (zJ @List.map_toArray.{0,0} @ce3.eq_1)))) (zJ (zJ (zJ @ce3.eq_2 @dK2) (zJ @dc9.eq_1 (zJ @List.getElem?_toArray.{0} @List.getElem?_cons_zero.{0}))) (zJ (zJ @List.getElem?_cons_succ.{0} @Option.bind_some.{0,0}) (zJ @Option.some.injEq.{0} (zJ @em5 @Bool.true_eq_false))))))
def zVB:=zJ (zJ (zJ (zJ @Option.map_some.{0,0} (zJ @Option.map_none.{0,0} @Int.toNat_zero)) (zJ (zJ @Option.isNone_none.{0} @Option.isNone_some.{0}) (zJ @M4 @bX4.eq_1))) (zJ (zJ @bX4.eq_2 (zJ @dq9.eq_1 @bq9.eq_1)) (zJ (zJ @bq9.eq_2 @dg0.eq_1) (zJ @df7.eq_1 @TY)))) (zJ (zJ (zJ @Option.isSome_some.{0} (zJ @em1 @Bool.and_true)) (zJ (zJ @en3 @eh6) (zJ @ea0 @Int.cast_ofNat_Int))) (zJ (zJ @decide_true (zJ @add_lit @ej1)) (zJ (zJ @Nat.zero_mul @Nat.one_mul) (zJ @Bool.not_true @Bool.not_false))))
def bp7{a:List W}{i:Nat}(h:i<a.length):a[i]?=some (a.getD i 0#64):=by simp[List.getD,h]
def dG7:G0 prog 332 167 1 8=true:=by kernel_rfl
def dv8(h:Hp)(v:Value)(a:List W)(f:Nat)(w:World)(j:B0 h w 167 v a)(l:f / 64<a.length)(m:f<1000000000000):
  o9 prog 282 #[v,.int .i64 f] w λu r=>(u = .bool (!T2 a f)/\B0 h r 167 v (cT6 a f)/\o8 (A0 v) w r):=by
 refine p9 [v,.int .i64 f] func282 rfl ?_;have b:=j.inS l;have o:=bp7 l;have d:=D6 (P:=prog) (t:=167) j o as9;simp only[M5.val]at d;have p:=bW3 (P:=prog) (t:=3) f m;have q:=da0 (P:=prog) (t:=3) f;have hm:f % 64<64:=Nat.mod_lt _ (by decide);have g:T2 a f=(a.getD (f / 64) 0#64).getLsbD (f % 64):=rfl;have n:cT6 a f=a.set (f / 64) (a.getD (f / 64) 0#64 ||| (1#64 <<< (f % 64))):=rfl;rw[g,n];generalize f / 64=i at *;generalize f % 64=k at *;generalize a.getD i 0#64=x at *;have z:=da1 (P:=prog) (t:=167) x k hm;have A:=cZ8 (P:=prog) (t:=167) x k;have B:=dE0 (P:=prog) (t:=167) (x.getLsbD k);have C:=dE3 (P:=prog) (t:=167) k hm;have D:=cZ9 (P:=prog) (t:=167) x (1#64 <<< k);have c:=o6.drew w;obtain⟨I,E,F,G,H⟩:=F1 (P:=prog) (t:=167) (j.ext c) rfl (k:=i) l (x:=.int .u64 (((x ||| 1#64 <<< k).toNat:Nat):Int)) (y:=(x ||| 1#64 <<< k)) rfl rfl (z7 aL2).choose_spec.1 (by rw[<-E1 (z7 aL2).choose_spec.1];exact cc0);simp only[L3,zVB,y4,simprocAttr,p,q,z,A,B,b,d];refine B9 (λs=>s=w.drew) 8 (A5 [0,1,2,3,4,5,6,7]) ?_;simp only[D0,A5,L3,zVB,y4,simprocAttr,p,b];refine⟨.int .u64 (x.toNat:Nat),λs e=>by subst e;exact D6 (j.ext c) o as9,?_⟩;simp only[D0,L3,zVB,y4,simprocAttr,q,C,D,b,E];exact o7 results282 ⟨rfl,F,(c.weaken λ_ _ h=>h.elim).trans G⟩
def ag7(a:List W)(k:Nat):List Int:=((List.range k).filter (T2 a)).map λ(i:Nat)=>(i:Int)
def cx4(a:List W)(k:Nat):ag7 a (k+1)=if T2 a k then ag7 a k++[(k:Int)]else ag7 a k:=by
 unfold ag7;rw[eq1,el7,ei4];cases h:T2 a k<;>simp[h]
def cR9(a:List W)(k:Nat):(ag7 a k).length<=k:=by
 unfold ag7;rw[eg5];exact ef9 (eh9 _ _) (by simp)
def df6(v:Value)(a:List W)(most:Nat)(w:World)(hv:R (m8 w) v a)(E:most<=1000000)(D:∀f,f<most->f / 64<a.length):
  o9 prog 286 #[v,.int .i64 most] w λu d=>(B0 (m8 w) d 3 u (ag7 a most)/\o6 w d):=by
 refine p9 [v,.int .i64 most] func286 rfl ?_;simp only[L7,R9,simprocAttr];refine A6 [0,1] (σ:=Nat) (λk f d=>f 6 = .int .i64 k/\k<=most/\B0 (m8 w) d 3 (f 5) (ag7 a k)/\o6 w d) (λk=>most-k) 0 ?_ ?_
 .exact⟨rfl,eg3 _,B0.nil _ _ _,o8.refl _⟩
 .rintro k f d ⟨e0,B,_⟩ ⟨m,C,n,l⟩;simp only[L7,C4,F6,simprocAttr,m,B];refine y5 (λp=>?_) ?_
  .have h:=D k p;have o:=hv.inS h;have j:=N7 (P:=prog) (t:=167) hv (b7 l) (bp7 h) as9;simp only[M5.val]at j;have H:=bW3 (P:=prog) (t:=3) k (by omega);have I:=da0 (P:=prog) (t:=3) k;have q:k % 64<64:=Nat.mod_lt _ (by decide);have g:T2 a k=(a.getD (k / 64) 0#64).getLsbD (k % 64):=rfl;have c:=cx4 a k;rw[g]at c;generalize k / 64=i at *;generalize k % 64=b at *;generalize a.getD i 0#64=x at *;have J:=da1 (P:=prog) (t:=167) x b q;have K:=cZ8 (P:=prog) (t:=167) x b;have L:=dE1 (P:=prog) (t:=167) (x.getLsbD b);have A:C4 prog .add 3 (.int .i64 k) (.int .i64 1)=some (.int .i64 ((k+1:Nat):Int)):=by
    simp only[C4,F6,em4];rw[H8 k]
   generalize x.getLsbD b=t at *;simp only[L3,zVB,y4,simprocAttr,H,I,J,K,L,o,j,e0,m];cases t
   .simp only[L3,simprocAttr,m,A];refine T4 (k+1) ⟨?_,l⟩;rw[c,if_neg (by simp)];exact n
   .have r:=cR9 a k;obtain⟨s,N,O,z,F,G,M⟩:=push (e:=24) V4 rfl n (x:=.int .i64 k) (y:=(k:Int)) rfl (by omega) (by omega) (b7 l);simp only[Value.cells]at s z;simp only[L3,simprocAttr,m,A,s,z];refine T4 (k+1) ⟨?_,n.ext2 l G⟩;rw[c,if_pos rfl];exact F
  .rintro rfl;simp only[L7,simprocAttr];exact o7 results286 ⟨n,l⟩
def aL7(b c:List W)(k:Nat):List W:=(orB b c).take k++b.drop k
def cw2(b c:List W):aL7 b c 0=b:=by simp[aL7]
def cQ2{b c:List W}(a:b.length=c.length):aL7 b c b.length=orB b c:=by
 unfold aL7;rw[eo9,ei5,ej5];rw[bZ5 a];exact eg6 _
def cQ3{b c:List W}(a:b.length=c.length)(k:Nat):(aL7 b c k).length=b.length:=by
 simp[aL7,orB,a];omega
def dd0{b c:List W}(a:b.length=c.length){k:Nat}(d:k<b.length):(aL7 b c k)[k]?=some (b.getD k 0#64):=by
 unfold aL7;rw[ek7 (by simp[orB,a];omega)];have:k-((orB b c).take k).length=0:=by simp[orB,a];omega
 rw[this,eo3];simp[List.getD,d]
def cw1{b c:List W}(g:b.length=c.length){k:Nat}(f:k<b.length):(aL7 b c k).set k (b.getD k 0#64 ||| c.getD k 0#64)=aL7 b c (k+1):=by
 have e:(orB b c).length=b.length:=bZ5 g;apply es6;intro i;rw[List.getElem?_set];unfold aL7;have a:((orB b c).take k).length=k:=by rw[eg0,e];omega
 have d:((orB b c).take (k+1)).length=k+1:=by rw[eg0,e];omega
 by_cases h1:k=i
 .subst h1;rw[if_pos rfl,if_pos (by rw[ef4,a,el6];omega),ek3 (by rw[d];omega),List.getElem?_take_of_lt (by omega),ef1 (by rw[e];exact f)];unfold orB;rw[List.getElem_zipWith];simp[List.getD,f,show k<c.length by omega]
 .rw[if_neg h1];by_cases h2:i<k
  .rw[ek3 (by rw[a];exact h2),ek3 (by rw[d];omega),List.getElem?_take_of_lt h2,List.getElem?_take_of_lt (by omega)]
  .rw[ek7 (by rw[a];omega),ek7 (by rw[d];omega),a,d,eo3,eo3]
   congr 1;omega
def cy0{b c:List W}(d:b.length=c.length){k:Nat}(a:k<b.length):an2 (b.take (k+1)) (c.take (k+1))=(an2 (b.take k) (c.take k)||((c.getD k 0#64 &&& ~~~(b.getD k 0#64):W) != 0#64)):=by
 unfold an2;rw[ef8 a,ef8 (show k<c.length by omega),List.zipWith_append (by simp;omega),List.any_append];simp[List.getD,a,show k<c.length by omega]
def de6(h:Hp)(v u:Value)(b c:List W)(w:World)(H:B0 h w 167 v b)(hw:B8 h (m8 w))(I:R h u c)(A:b.length=c.length)(O:b.length<=1000000):
  o9 prog 285 #[v,u] w λr a=>(r = .bool (an2 b c)/\B0 h a 167 v (orB b c)/\o8 (A0 v) w a):=by
 refine p9 [v,u] func285 rfl ?_;simp only[L7,R9,T6,simprocAttr,H.isS,H.vlen];refine A6 [0,1,6,7] (σ:=Nat) (λk f a=>f 8 = .int .i64 k/\k<=b.length/\f 4 = .bool (an2 (b.take k) (c.take k))/\B0 h a 167 v (aL7 b c k)/\o8 (A0 v) w a) (λk=>b.length-k) 0 ?_ ?_
 .simp only[B3,simprocAttr];exact⟨by first|rfl|trivial,eg3 _,by simp[an2],by rw[cw2];exact H,o8.refl _⟩
 .rintro k f a ⟨e0,J,e6,U,_⟩ ⟨B,Y,G,l,M⟩;simp only[L7,C4,F6,simprocAttr,B,U];refine y5 (λq=>?_) ?_
  .have X:=cQ3 A k;have g:=l.inS (k:=k) (by omega);have i:=I.inS (k:=k) (by omega);have o:=dd0 A q;have p:=bp7 (show k<c.length by omega);have s:=cw1 A q;have C:=cy0 A q;generalize b.getD k 0#64=x at *;generalize c.getD k 0#64=y at *;have L:B8 h (m8 a):=H2 hw M λb V=>H.free V;have K:=o6.drew a;have n:=o6.drew a.drew;have E:B8 h (m8 a.drew):=p7 L (b7 K);have m:B8 h (m8 a.drew.drew):=p7 E (b7 n);have D:=l.ext K;have j:=D.ext n;have q1:=bN6 (P:=prog) (t:=167) y x;have q2:=dE2 (P:=prog) (t:=167) (y &&& ~~~x);have Q:=cZ9 (P:=prog) (t:=167) x y;have S:C4 prog .add 3 (.int .i64 k) (.int .i64 1)=some (.int .i64 ((k+1:Nat):Int)):=by
    simp only[C4,F6,em4];rw[H8 k]
   generalize hz:(y &&& ~~~x != 0#64)=z at *;obtain⟨w2,T,N,s3,s4⟩:=F1 (P:=prog) (t:=167) j rfl (k:=k) (by omega) (x:=.int .u64 (((x ||| y).toNat:Nat):Int)) (y:=(x ||| y)) rfl rfl (z7 aL2).choose_spec.1 (by rw[<-E1 (z7 aL2).choose_spec.1];exact cc0);rw[s]at N;have F:o8 (A0 v) w w2:=(M.trans ((K.trans n).weaken λ_ _ h=>h.elim)).trans s3;generalize Z:an2 (b.take k) (c.take k)=m0 at *;cases m0
   .simp only[L3,simprocAttr,B];refine B9 (λd=>d=a.drew) 10 (A5 [0,1,2,3,4,5,6,7,8,9]) ?_;simp only[D0,A5,L3,zVB,y4,simprocAttr,G,J,i];refine⟨.int .u64 (y.toNat:Nat),λd e=>by subst e;exact N7 (P:=prog) (t:=167) I E p as9,?_⟩;simp only[D0,L3,zVB,y4,simprocAttr,e0,g];refine⟨.int .u64 (x.toNat:Nat),λd e=>by subst e;exact D6 D o as9,?_⟩;simp only[D0,L3,simprocAttr,q1,q2];refine B9 (λd=>d=a.drew.drew) 8 (A5 [0,1,2,3,4,5,6,7]) ?_;simp only[D0,A5,L3,zVB,y4,simprocAttr,e0,g];refine⟨.int .u64 (x.toNat:Nat),λd e=>by subst e;exact D6 j o as9,?_⟩;simp only[D0,L3,zVB,y4,simprocAttr,J,i];refine⟨.int .u64 (y.toNat:Nat),λd e=>by subst e;exact N7 (P:=prog) (t:=167) I m p as9,?_⟩;simp only[D0,L3,zVB,y4,simprocAttr,Q,g,T,B,S];exact T4 (k+1) ⟨by rw[C];simp,N,F⟩
   .simp only[L3,simprocAttr,B];refine B9 (λd=>d=a.drew) 10 (A5 [0,1,2,3,4,5,6,7,8,9]) ?_;simp only[D0,A5,L3,simprocAttr,G];refine B9 (λd=>d=a.drew.drew) 8 (A5 [0,1,2,3,4,5,6,7]) ?_;simp only[D0,A5,L3,zVB,y4,simprocAttr,e0,g];refine⟨.int .u64 (x.toNat:Nat),λd e=>by subst e;exact D6 j o as9,?_⟩;simp only[D0,L3,zVB,y4,simprocAttr,J,i];refine⟨.int .u64 (y.toNat:Nat),λd e=>by subst e;exact N7 (P:=prog) (t:=167) I m p as9,?_⟩;simp only[D0,L3,zVB,y4,simprocAttr,Q,g,T,B,S];exact T4 (k+1) ⟨by rw[C];simp,N,F⟩
  .rintro rfl;rw[cQ2 A]at l;rw[eg4,A,eg4]at G;simp only[L7,simprocAttr,G];exact o7 results285 ⟨rfl,l,M⟩
def en0:=@List.getElem?_set_self
def dB6:G0 prog 314 332 1 24=true:=by kernel_rfl
def E2.put{P:Program}{α:Type}[A3 α]{h:Hp}{w a:World}{T T' t:TypeId}{v:Value}{us:List X9}{f:List (List α)}(m:E2 h w T T' v us f){i:Nat}{u:X9}(j:us[i]?=some u){u':Value}{xs:List α}
  (hm:o8 (A0 u.v) w a) (o:B0 h a T' u' xs) (hv:E9 w u.v u') {e:TypeInfo} (d:P.info? t=some e) (r:e.size=1) :
  ∃c,(Instr.storeAt t (.pointer (some (G9 v i))) u').run P a = .ok () c/\E2 h c T T' v (us.set i ⟨u'⟩) (f.set i xs)/\o8 (A0 v) a c/\c.heap.size=a.heap.size:=by
 have n:=o.isS;have k:i<us.length:=(ef6.1 j).1;have l:B0 h a T v us:=m.outer.mod hm λb q g=>m.off i u j b g q;obtain⟨c,s,z,p,A⟩:=F1 (P:=P) (t:=t) l rfl k (x:=u') (y:=(⟨u'⟩:X9)) ⟨rfl,X1 n⟩ (F0 n) d r;exact⟨c,s,m.set j hm o hv p z,p,A⟩
def ak0{α:Type}[A3 α]{h:Hp}{w:World}{T T':TypeId}{v:Value}{n:Nat}(e:B0 h w T v (List.replicate n D2)):E2 h w T T' v (List.replicate n D2) (List.replicate n ([]:List α)):=by
 have d:∀(i:Nat) (u:X9),(List.replicate n D2)[i]?=some u->u=D2:=λi u a=>em9 (eh3 a);refine⟨e,by simp,λi u k a f=>?_,λi j u g _ a _ b c=>?_,λi u a b c=>?_⟩
 .rw[d i u a,em9 (eh3 f)];exact B0.nil _ _ _
 .rw[d i u a]at c;exact absurd c D5
 .rw[d i u a]at c;exact absurd c D5
def dL4(most:Nat)(x:List Int)(b:List W):Prop:=b.length=most / 64+1/\∀f:Nat,T2 b f=true↔(f:Int)∈x
def be1(l:List (List Int))(most:Nat):Prop:=∀x∈l,∀f∈x,0<=f/\f<most
def cX6(most:Nat)(l:List (List Int))(a:List (List W)):Prop:=a.length=l.length/\∀(i:Nat) (x:List Int),l[i]?=some x->∃b,a[i]?=some b/\dL4 most x b
def cn6(v:Value)(l:List (List Int))(most:Nat)(w:World)(hv:R (m8 w) v l)(a7:most<=1000000)(hl:l.length<=1000000)(aI:∀x∈l,x.length<=1000000000):
  o9 prog 261 #[v,.int .i64 most] w λu K=>((∃ub ok,u = .tuple #[ub,.bool ok]/\(ok=true->be1 l most/\∃m,R (m8 K) ub m/\cX6 most l m)/\(ok=false->¬be1 l most))/\o6 w K):=by
 refine p9 [v,.int .i64 most] func261 rfl ?_;have hz:A3.enc (m8 w) (Value.slice none 0 0).cells.toList D2:=⟨rfl,rfl⟩;obtain⟨u0,w0,aJ,aL,aO,a4,_⟩:=mk (P:=prog) (w:=w) (h:=m8 w) dB6 bp3 (α:=X9) (y:=D2) hz (n:=l.length) (by omega) (by omega) (n7 _);have N:E2 (m8 w) w0 332 167 u0 (List.replicate l.length D2) (List.replicate l.length ([]:List W)):=ak0 aL;simp only[L7,R9,T6,simprocAttr,hv.isS,hv.vlen,aJ];refine A6 [0,1,6,14,15] (σ:=Nat) (λi f K=>f 16 = .int .i64 i/\i<=l.length/\(∃us m,E2 (m8 w) K 332 167 u0 us m/\m.length=l.length/\(∀(j:Nat) (x:List Int),j<i->l[j]?=some x->((∃b,m[j]?=some b/\dL4 most x b)/\∀f∈x,0<=f/\f<most)))/\o6 w K) (λi=>l.length-i) 0 ?_ ?_
 .exact⟨rfl,eg3 _,⟨_,_,N,by simp,λj x L=>by omega⟩,aO⟩
 .rintro i f K ⟨e0,e1,e6,ab,ac,_⟩ ⟨V,a5,⟨us,m,d,X,B⟩,Z⟩;simp only[L7,C4,F6,simprocAttr,V,ac];refine y5 (λs=>?_) ?_
  .have aG:=hv.inS s;obtain⟨ux,H,aE⟩:=hv.row (ef1 s);have am:=J1 (P:=prog) (t:=24) aE (b7 Z) ah2;have p:l[i]∈l:=eg2 s;have U:l[i]?=some l[i]:=ef1 s;generalize l[i]=x at H p U;have a8:=aI x p;have aB:=H.isS;have aK:=H.vlen;have q1:=bW3 (P:=prog) (t:=3) most (by omega);have q2:C4 prog .add 3 (.int .i64 ((most / 64:Nat):Int)) (.int .i64 1)=some (.int .i64 ((most / 64+1:Nat):Int)):=by
    simp only[C4,F6,em4];rw[H8 _]
   obtain⟨ur,w1,ap,aM,au,aF,_⟩:=mk (P:=prog) (w:=K) (h:=m8 w) dG7 aL2 (α:=W) (y:=0#64) rfl (n:=most / 64+1) (by omega) (by omega) (b7 Z);have aZ:us.length=l.length:=by rw[d.len,X]
   have ar:us[i]?=some (us[i]'(by omega)):=ef1 _;generalize us[i]'(by omega)=u at ar;obtain⟨w2,s1,s2,s3,s4⟩:=d.put (P:=prog) (t:=332) ar (au.weaken λ_ _ h=>h.elim) aM (λb hb=>.inr (aF b hb)) (z7 bp3).choose_spec.1 (by rw[<-E1 (z7 bp3).choose_spec.1];exact cB7);have aP:o6 w w2:=o8.ext_of (Z.trans au) s3 λb hb=>by
    have:=d.outer.free hb;exact es7 λs=>by simp[m8,s]at this
   have aj:=d.outer.inS (k:=i) (by omega);have o:(us.set i ⟨ur⟩)[i]?=some (⟨ur⟩:X9):=en0 (by omega);generalize aY:us.set i ⟨ur⟩=ax at *;generalize ao:most / 64=av at *;simp only[L3,zVB,y4,T6,simprocAttr,V,ab,e6,e1,aG,am,q1,q2,ap,aj,s1,aB,aK];refine D9 [0,1,6,7,14,15,16,28,29] (σ:=Nat) (λk f K=>f 30 = .int .i64 k/\k<=x.length/\(∃g b,E2 (m8 w) K 332 167 u0 ax g/\g.length=l.length/\(∀j:Nat,j≠i->g[j]?=m[j]?)/\g[i]?=some b/\b.length=av+1/\(∀f:Nat,T2 b f=true↔(f:Int)∈x.take k)/\∀f∈x.take k,0<=f/\f<most)/\o6 w K) (λk=>x.length-k) 0 ?_ ?_
   .refine⟨rfl,eg3 _,⟨_,List.replicate (av+1) 0#64,s2,by simp[X],λj L=>eo1 (λe=>L e.symm),en0 (by omega),by simp,λf=>by rw[ci3];simp,by simp⟩,aP⟩
   .rintro k f w3 hk ⟨E,a6,⟨g,b,a,Q,S,af,A,z,G⟩,I⟩;simp only[ei3,B3,simprocAttr]at hk;simp only[e0,e1,e6,ab,ac,V]at hk;obtain⟨i0,i1,i6,i7,ba,bb,aS,aa,aT,_⟩:=hk;simp only[L7,C4,F6,simprocAttr,E,aT];refine y5 (λM=>?_) ?_
    .have F:=H.inS M;have q:=N7 (P:=prog) (t:=3) H (b7 I) (ef1 M) G3;simp only[M5.val]at q;have C:x[k]∈x:=eg2 M;have Y:x.take (k+1)=x.take k++[x[k]]:=ef8 M;generalize x[k]=J at q C Y;by_cases hlo:J<0
     .have d0:decide (J<0)=true:=by simpa using hlo
      simp only[L7,R9,C4,F6,y4,simprocAttr,E,aa,F,q,d0];exact W7 results261 ⟨⟨_,false,rfl,(λh=>(by cases h)),(λ_ D=>(by have:=D x p J C;omega))⟩,I⟩
     .have d0:decide (J<0)=false:=by simpa using hlo
      by_cases hhi:J≥most
      .have d1:decide (J≥(most:Int))=true:=by simpa using hhi
       simp only[L7,R9,C4,F6,y4,simprocAttr,E,aa,i1,F,q,d0,d1];exact W7 results261 ⟨⟨_,false,rfl,(λh=>(by cases h)),(λ_ D=>(by have:=D x p J C;omega))⟩,I⟩
      .have d1:decide (J≥(most:Int))=false:=by simpa using hhi
       obtain⟨fn,ag⟩:∃fn:Nat,J=fn:=⟨J.toNat,by omega⟩;have ak:=a.outer.inS (k:=i) (by rw[a.len];omega);have al:=aK2 (P:=prog) (t:=332) a o bo7;have aq:=a.row i ⟨ur⟩ b o af
       have ah:fn / 64<b.length:=by rw[A];have:fn<most:=by omega
                                    have:=Nat.div_le_div_right (c:=64) (Nat.le_of_lt this);omega
       have T:=dv8 (m8 w) ur b fn w3 aq ah (by omega);rw[<-ag]at T;simp only[L7,R9,C4,F6,y4,simprocAttr,E,aa,i1,i6,i7,F,q,d0,d1,ak,al];refine t8 T ?_;rintro r w4 ⟨hr,aN,an⟩;have aQ:o6 w w4:=o8.ext_of I an λb hb=>by
        have:=aq.free hb;exact es7 λs=>by simp[m8,s]at this
       have O:=a.write o an aN;simp only[L7,C4,F6,simprocAttr,E];refine T4 (k+1) ⟨⟨_,_,O,by simp[Q],λj L=>?_,en0 (by omega),by rw[di2,A],λf=>?_,λf D=>?_⟩,aQ⟩
       .rw[eo1 (λe=>L e.symm)];exact S j L
       .rw[dd4 ah,Y,eq6,z f,eg1,eh2,ei8];constructor
        .rintro(h|h)
         .exact .inr (by rw[h,ag])
         .exact .inl h
        .rintro(h|h)
         .exact .inr h
         .exact .inl (by omega)
       .rw[Y,eg1,eh2]at D;rcases D with D|D
        .exact G f D
        .subst D;exact⟨by omega,by omega⟩
    .rintro rfl;rw[eg4]at z G;simp only[L7,C4,F6,simprocAttr,aS];refine T4 (i+1) ⟨⟨ax,g,a,Q,λj y L hy=>?_⟩,I⟩;by_cases hji:j=i
     .subst hji;rw[U]at hy;obtain rfl:=eh1 hy;exact⟨⟨b,af,by rw[A,ao],z⟩,G⟩
     .obtain⟨⟨b',aC,aD⟩,h3⟩:=B j y (by omega) hy;exact⟨⟨b',by rw[S j hji];exact aC,aD⟩,h3⟩
  .rintro rfl;simp only[L7,simprocAttr,e6];refine W7 results261 ?_;simp only[B3,simprocAttr];refine⟨⟨_,true,rfl,λ_=>⟨λx Z f D=>?_,m,d.ro (b7 Z),X,λi x hi=>?_⟩,(λh=>(by cases h))⟩,Z⟩
   .obtain⟨j,L⟩:=eo5.1 Z;exact(B j x (ef6.1 L).1 L).2 f D
   .exact(B i x (ef6.1 hi).1 hi).1
end Go.Proofs.YtggahhenbbgffaaGreat

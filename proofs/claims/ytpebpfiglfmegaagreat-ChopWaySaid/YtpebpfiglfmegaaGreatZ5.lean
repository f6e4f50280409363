/- What the functions of the program do, for every input; plain facts. No condition, no statement of its own. Part 5. -/
import Derived.Laws.IdiomRangeMap
import Derived.Test.YtpebpfiglfmegaaGreatZ4
set_option maxRecDepth 1000000
set_option maxHeartbeats 8000000
set_option linter.unusedVariables false
set_option linter.unusedSimpArgs false
set_option linter.unnecessarySimpa false
set_option linter.defProp false
namespace Go.Proofs.YtpebpfiglfmegaaGreat
open Go Tryz List IntKind Region
def cc8(w):(Instr.alloc 319 true (.tuple #[])).run prog w = .ok (.pointer (some ⟨w.heap.size,0,none⟩)) (w.alloc (.cells #[(),(0:Int)] 319)):=
 (aE6 (P:=prog) (T:=319) bE4 (by rw[av5];rfl) (cs:=#[(),(0:Int)]) (by rw[av5];rfl) (by simp[Value.oneCell'])).1
def goW(g r k:List W)(i:Nat):W:=g.getD i 0#64 ||| (r.getD i 0#64 &&& ~~~(k.getD i 0#64))
def am7(g r k:List W)(m i:Nat):List W:=(range m).map λj=>if j<i then goW g r k j else 0#64
def cA7(g r k:List W)(m):am7 g r k m 0=replicate m 0#64:=by
 unfold am7;apply eK8 dG;intro i a b;simp
def aH9(g r k:List W)(m i):(am7 g r k m i).length=m:=by simp[am7]
def bR5(g r k:List W)(m i j):(am7 g r k m i)[j]?=if j<m then some (if j<i then goW g r k j else 0#64)else none:=by
 unfold am7;rw[eH2];by_cases hj:j<m
 .rw[eM3 hj,fi hj];rfl
 .rw[eL7 (by simp;omega),fh hj];rfl
def cA6(g r k:List W){m i}(a:i<m):(am7 g r k m i).set i (goW g r k i)=am7 g r k m (i+1):=by
 apply eQ4;intro j;rw[getElem?_set,bR5,bR5,aH9];by_cases e:i=j
 .subst e;rw[fi rfl,fi a,fi a,fi om]
 .rw[fh e];by_cases h3:j<i
  .rw[fi h3,fi (show j<i+1 by omega)]
  .rw[fh h3,fh (show ¬j<i+1 by omega)]
def cP0(g r k:List W){m}(c:g.length=m)(d:r.length=m)(e:k.length=m)(f):X9 (am7 g r k m m) f=(X9 g f||(X9 r f && !X9 k f)):=by
 unfold X9;by_cases hi:f / 64<m
 .have b:(am7 g r k m m).getD (f / 64) 0#64=goW g r k (f / 64):=by
   unfold am7;simp only[getD,eH2,eM3 hi,eJ9,eI9];rw[fi hi]
  rw[b];unfold goW;rw[BitVec.getLsbD_or,BitVec.getLsbD_and,BitVec.getLsbD_not];have:f % 64<64:=Nat.mod_lt _ dR;simp[this]
 .have a:∀l:List W,l.length=m->l.getD (f / 64) 0#64=0#64:=λl h=>by
   simp only[getD];rw[eL7 om];rfl
  rw[a _ (aH9 g r k m m),a g c,a r d];simp
def ST.ge'{w0 w rb gb ui uw vt}{us:List Raw}{e:List (List W)}{a:List Bool}{c:List Int}{T}(s:ST w0 w rb gb ui uw vt us e a c T){w1 b}(hb:n8 w1 b=none):w1.heap.size<=b:=
 eQ7 λd=>by simp[n8,d]at hb
def do7(pg)(nx pv:List (List Int))(vg vk)(gs ks:List (List W))(gl kl:List (List Int))(most w)
  (cq:GR (n8 w) pg nx pv) (co:aY1 nx.length (nx,pv)) (cY:R (n8 w) vg gs) (cZ:R (n8 w) vk ks) (ez:dr9 most gl gs) (eA:dr9 most kl ks) (bw:gl.length=nx.length) (cx:kl.length=nx.length) (eh:br5 gl most) (es:nx.length<=5000) (er:most<=5000) :
  p7 prog 299 #[pg,vg,vk,.int .i64 most] w λu V=>((∃vi bP T,u = .agg #[vi,.int .i64 (T:Nat)]/\R (D9 V (λb=>b<w.heap.size)) vi bP/\bP.length=nx.length/\(∀b,J2 nx.length b=true->∃f:Nat->Bool,F1 bP b=((range most).filter f).map (λ(i:Nat)=>(i:Int))/\∀i,f i=true↔aN5 nx gl kl b i)/\nx.length<=T/\T<=nx.length+nx.length*most)/\o6 w V):=by
 apply y5 [pg,vg,vk,.int .i64 most] func299 rfl;have aU:=cc8;simp only[O0,zVB,simprocAttr,aU];have c1:(w.alloc (.cells #[.slice none 0 0,.int .i64 0] 319)).heap[w.heap.size]?=some (.cells #[.slice none 0 0,.int .i64 0] 319 (0,0)):=eH3 w _;have x1:=o6.alloc w (.cells #[.slice none 0 0,.int .i64 0] 319);have gy:(w.alloc (.cells #[.slice none 0 0,.int .i64 0] 319)).heap.size=w.heap.size+1:=dG
 generalize w.alloc (.cells #[.slice none 0 0,.int .i64 0] 319)=w1 at *;have c2:(w1.alloc (.cells #[.slice none 0 0,.int .i64 0] 319)).heap[w1.heap.size]?=some (.cells #[.slice none 0 0,.int .i64 0] 319 (0,0)):=eH3 w1 _;have x2:=o6.alloc w1 (.cells #[.slice none 0 0,.int .i64 0] 319);have gz:(w1.alloc (.cells #[.slice none 0 0,.int .i64 0] 319)).heap.size=w1.heap.size+1:=dG
 generalize w1.alloc (.cells #[.slice none 0 0,.int .i64 0] 319)=w2 at *;have aR:=x1.trans x2;apply z6 (dM1 pg nx pv w2 (cq.mono (b7 aR)));rintro u bR ⟨hu,eD⟩;subst eD;subst hu;have hz:A9.enc (n8 w) (Value.slice none 0 0).cells.toList F0:=⟨rfl,rfl⟩;obtain⟨ui,w3,m1,o1,x3,f1,s1⟩:=mk (P:=prog) (w:=bR) (h:=n8 w) dX9 bE5 (α:=Raw) (y:=F0) hz (n:=nx.length) om om (b7 aR);obtain⟨ut,w4,m2,o2,x4,f2,s2⟩:=mk (P:=prog) (w:=w3) (h:=n8 w) V8 aN0 (α:=Int) (y:=0) rfl (n:=nx.length) om om (b7 (aR.trans x3));obtain⟨uw,w5,m3,o3,x5,f3,s3⟩:=mk (P:=prog) (w:=w4) (h:=n8 w) bw9 Y5 (α:=Bool) (y:=false) rfl (n:=nx.length) om om (b7 ((aR.trans x3).trans x4));have dz:=(x3.trans x4).trans x5;have l1:w.heap.size<bR.heap.size:=om
 have l2:w1.heap.size<bR.heap.size:=om
 have ec:w5.heap[w.heap.size]?=some (.cells #[.slice none 0 0,.int .i64 0] 319 (0,0)):=(dz.block _ l1 id).trans ((x2.block _ om id).trans c1);have eb:w5.heap[w1.heap.size]?=some (.cells #[.slice none 0 0,.int .i64 0] 319 (0,0)):=(dz.block _ l2 id).trans c2;have ds:ST w w5 w.heap.size w1.heap.size ui uw ut (replicate nx.length F0) (replicate nx.length []) (replicate nx.length false) (replicate nx.length 0) 0:=by
  refine⟨ar6 ((o1.ext x4).ext x5),o3,(o2.ext x5).toQ,eb,ec,λb p=>?_,λb p=>⟨λh=>?_,?_,?_⟩,λb p=>⟨?_,?_⟩,om,((aR.trans x3).trans x4).trans x5,om,eE8 _⟩
  .have cd:=an9 p;have k1:=f1 b cd;have k2:=o1.lt cd;exact⟨λh=>by have:=f2 b h;omega,λh=>by have:=f3 b h;omega,om,om⟩
  .have:=o2.lt p;have:=f3 b h;omega
  .have:=f2 b p;omega
  .have:=f2 b p;omega
  .have:=f3 b p;omega
  .have:=f3 b p;omega
 have Si:=o1.isS;have ni:=o1.vlen;rw[eJ3]at ni;have G:=co.nx;generalize ew:w.heap.size=rb at *;generalize fX:w1.heap.size=gb at *;have q1:=cn5 (P:=prog) (t:=3) most om;have q2:E2 prog .add 3 (.int .i64 ((most / 64:Nat):Int)) (.int .i64 1)=some (.int .i64 ((most / 64+1:Nat):Int)):=by
  simp only[E2,I6,eK2];rw[I9 _]
 have fl:most / 64+1<=100:=om
 obtain⟨cQ,cR⟩:=ez;obtain⟨cS,cT⟩:=eA;generalize aW:most / 64+1=m at *;generalize aV:most / 64=m6 at *;simp only[O0,Y7,ad8,simprocAttr,m1,m2,m3,Si,ni];refine B4 [0,1,2,3,8,9,10,11,12,13,29,30] (σ:=Nat) (λk f V=>f 31 = .int .i64 k/\k<=nx.length/\∃us d q z,ST w V rb gb ui uw ut us d q z 0/\d.length=nx.length/\q.length=nx.length/\z.length=nx.length/\∀j:Nat,j<k->d[j]?=some (replicate m 0#64)/\q[j]?=some true/\z[j]?=some (j:Int)) (λk=>nx.length-k) 0 ?_ ?_
 .exact⟨rfl,eE2 _,_,_,_,_,ds,dG,dG,dG,λj hj=>om⟩
 .rintro k f w6 ⟨e0,e1,e2,e3,e8,e9,dX,bY,bZ,b0,fT,dY,_⟩ ⟨b4,cv,us,d,q,z,D,li,lw,lt,O⟩;simp only[O0,E2,I6,simprocAttr,b4,dY];refine A7 (λcD=>?_) ?_
  .have q6:E2 prog .add 3 (.int .i64 k) (.int .i64 1)=some (.int .i64 ((k+1:Nat):Int)):=by
    simp only[E2,I6,eK2];rw[I9 k]
   obtain⟨ur,w7,m4,o4,x7,f4,s4⟩:=mk (P:=prog) (w:=w6) (h:=n8 w) ee0 aV8 (α:=W) (y:=0#64) rfl (n:=m) om om (b7 D.ext);have bO:us.length=nx.length:=by rw[D.rows.len,li]
   have cX:us[k]?=some (us[k]' om):=eD1 _;generalize us[k]' om=u at cX;obtain⟨w8,t1,bQ⟩:=D.put (P:=prog) (t:=355) x7 cX o4 f4 (B1 bE5).choose_spec.1 (by rw[<-F8 (B1 bE5).choose_spec.1];exact cU8);obtain⟨w9,t2,a4⟩:=bQ.qset (P:=prog) (t:=3) (k:=k) om (k:Int) (B1 aN0).choose_spec.1 (by rw[<-F8 (B1 aN0).choose_spec.1];exact bx6);obtain⟨a8,t3,M⟩:=a4.wait (P:=prog) (t:=4) (k:=k) om true (B1 Y5).choose_spec.1 (by rw[<-F8 (B1 Y5).choose_spec.1];exact aK1);have eH:=D.q.inS (k:=k) om;have eI:=D.wts.inS (k:=k) om;simp only[O0,zVB,A6,simprocAttr,b4,bY,bZ,b0,e3,q1,q2,m4,D.rows.outer.inS (k:=k) om,eH,eI,t1,t2,t3,q6];refine U5 (k+1) ⟨_,_,_,_,M,by simp[li],by simp[lw],by simp[lt],λj hj=>?_⟩;by_cases hjk:j=k
   .subst hjk;exact⟨eL0 om,eL0 om,eL0 om⟩
   .rw[eN0 (λe=>hjk e.symm),eN0 (λe=>hjk e.symm),eN0 (λe=>hjk e.symm)];exact O j om
  .rintro rfl;have bf:d=replicate nx.length (replicate m 0#64):=by
    apply eK8 (by simp[li]);intro j h1 h2;have:=(O j om).1;rw[eD1 h1]at this;simpa using this
   have bm:q=replicate nx.length true:=by
    apply eK8 (by simp[lw]);intro j h1 h2;have:=(O j om).2.1;rw[eD1 h1]at this;simpa using this
   have bI:z=(range nx.length).map λ(i:Nat)=>(i:Int):=by
    apply eK8 (by simp[lt]);intro j h1 h2;have:=(O j om).2.2;rw[eD1 h1]at this;simpa using this
   have dr:SI nx gl kl most d z q 0:=by
    refine SI.start (by rw[bf,<-aW,<-aV]) (λa=>?_) ?_ lt bm
    .rw[bI,eF2,C0];constructor
     .rintro⟨i,hi,rfl⟩;have:=eH7.1 hi;omega
     .rintro⟨h1,h2⟩;exact⟨a.toNat,eH7.2 om,om⟩
    .rw[bI];refine List.Pairwise.map _ (λa b h=>?_) (nodup_range (n:=nx.length));omega
   simp only[O0,simprocAttr];clear O bf bm bI li lw lt ds;have q3:∀T:Nat,T<=100000000->E2 prog .add 3 (.int .i64 (T:Int)) (.int .i64 1)=some (.int .i64 ((T+1:Nat):Int)):=λT hT=>by
    simp only[E2,I6,eK2];rw[I9 T]
   refine E4 [0,1,2,3,8,9,10,11,13] (σ:=List (List W)×List Int) (λs f V=>∃q T,ST w V rb gb ui uw (f 12) us s.1 q s.2 (T:Nat)/\SI nx gl kl most s.1 s.2 q T) (λs=>dW6 nx.length most s.1 s.2) (d,z) ?_ ?_
   .simp only[C9,simprocAttr];simp only[bZ];exact⟨q,0,D,dr⟩
   .clear D dr d q z;rintro⟨d,z⟩ f w7 hk ⟨q,T,D,Q⟩;simp only[eF8,C9,simprocAttr]at hk;simp only[e0,e1,e2,e3,e8,e9,dX,bY,b0]at hk;obtain⟨i0,i1,i2,i3,i8,i9,c8,bL,c9,_⟩:=hk;simp only at D Q;generalize c0:f 12=vt at *;have Sq:=D.q.isS;have nq:=D.q.vlen;have eu:=bv1 most d;rw[Q.ilen]at eu;have f6:nx.length*most<=25000000:=eD7 (Nat.mul_le_mul es er) dR;have cf:=Q.few;simp only[O0,Y7,E2,I6,ad8,simprocAttr,c0,Sq,nq];refine B2 (λhc=>?_) (λhc=>?_)
    .have cK:0<z.length:=by simpa using hc
     obtain⟨a,C,rfl⟩:∃a C,z=a::C:=by
      cases z with
      | nil=>simp at cK
      | cons a C=>exact⟨a,C,rfl⟩
     have am:J2 nx.length a=true:=Q.ok a dG;have cu:=C0.1 am;have d0:decide (0<=a)=true:=by simpa using cu.1
     have eK:=D.q.inS (k:=0) dG;have eX:=D.q.head (P:=prog) (t:=3) K7;have d1:decide ((1:Int)<=(((a::C).length:Nat):Int))=true:=by simp;omega
     have d2:decide ((((a::C).length:Nat):Int)<=(vcap vt:Int))=true:=by
      have h9:=D.q.vcap;simp only[eG6]at h9 ⊢;simp;omega
     have bQ:=D.tail;have eq:(a::C).length=C.length+1:=rfl;rw[eq]at nq d1 d2;obtain⟨w8,t2,a4⟩:=bQ.wait (P:=prog) (t:=4) (k:=a.toNat) (by rw[Q.wlen];omega) false (B1 Y5).choose_spec.1 (by rw[<-F8 (B1 Y5).choose_spec.1];exact aK1);have eL:=D.wts.inS (k:=a.toNat) (by rw[Q.wlen];omega);have eV:=F9 (P:=prog) (t:=3) (i:=1) (u:=.int .i64 (T:Int)) a4.cg rfl K7;have cc:T<=100000000:=by simp only[eG6]at cf;omega
     have qT:=q3 T cc;obtain⟨w9,t3,M⟩:=a4.times (P:=prog) (t:=3) ((T+1:Nat):Int) (B1 aN0).choose_spec.1 (by rw[<-F8 (B1 aN0).choose_spec.1];exact bx6);obtain⟨ug,a8,m4,o4,dy,f4,s4⟩:=mk (P:=prog) (w:=w9) (h:=n8 w9) ee0 aV8 (α:=W) (y:=0#64) rfl (n:=m) om om (n7 _);have gx:=M.more dy;have Sg:=o4.isS;have ng:=o4.vlen;rw[eJ3]at ng;generalize bF:C.length+1=rl at *;generalize c3:reS vt 1 rl 1=an at *;generalize bt:((T+1:Nat):Int)=T1 at *;simp only[O0,zVB,A6,G7,ad8,simprocAttr,c0,Sq,nq,eK,eX,d1,d2,c3,c9,eL,d0,t2,i9,eV,qT,t3,i3,q1,q2,m4,Sg,ng];have aU:a.toNat<nx.length:=om
     have cp:gl[a.toNat]?=some (F1 gl a):=(aE9 (nx:=gl) (by rw[bw];exact am)).1;have cw:kl[a.toNat]?=some (F1 kl a):=(aE9 (nx:=kl) (by rw[cx];exact am)).1;obtain⟨g,ek,ck,el⟩:=cR _ _ cp;obtain⟨kk,eo,ct,ep⟩:=cT _ _ cw;rw[aV,aW]at ck ct;obtain⟨xg,bJ,bc⟩:=cY.row ek;obtain⟨xk,bK,bd⟩:=cZ.row eo;have av:=az5 Q.ilen am;have cM:(wAt d a).length=m:=by rw[<-aW,<-aV];exact Q.rlen _ (eF7 av)
     have bO:us.length=nx.length:=by rw[D.rows.len,Q.ilen]
     have ae:us[a.toNat]?=some (us[a.toNat]' om):=eD1 _;generalize us[a.toNat]' om=ua at ae;have da:=cY.inS (k:=a.toNat) (by rw[cQ,bw];exact aU);have a1:=cZ.inS (k:=a.toNat) (by rw[cS,cx];exact aU);have dd:=D.rows.outer.inS (k:=a.toNat) om;have bx:=cP0 g (wAt d a) kk ck cM ct;refine E4 [0,1,2,3,8,9,10,11,12,13,15,16,68,69] (σ:=Nat) (λi f V=>f 70 = .int .i64 i/\i<=m/\B7 (n8 w9) V 240 ug (am7 g (wAt d a) kk m i)/\o6 w9 V) (λi=>m-i) 0 ?_ ?_
     .exact⟨by first|rfl|trivial,eE2 _,by rw[cA7];exact o4,dy⟩
     .rintro i f Z hk ⟨br,fZ,aX,U⟩;simp only[eF8,C9,simprocAttr]at hk;simp only[i0,i1,i2,i3,i8,i9,c8,bL,c9]at hk;obtain⟨j0,j1,j2,j3,j8,j9,de,a2,eO,eP,aL,dg,gc,eS,_⟩:=hk;simp only[O0,E2,I6,simprocAttr,br,eS];refine A7 (λbA=>?_) ?_
      .have q6:E2 prog .add 3 (.int .i64 i) (.int .i64 1)=some (.int .i64 ((i+1:Nat):Int)):=by
        simp only[E2,I6,eK2];rw[I9 i]
       have hd:=o6.drew Z;have F:=(M.more U).more hd;have cy:=M0 (P:=prog) (t:=355) bc (b7 F.ext) bE0;have cz:=M0 (P:=prog) (t:=355) bd (b7 F.ext) bE0;have cA:=aU9 (P:=prog) (t:=355) F.rows ae bE0;have ac:=F.rows.row _ _ _ ae av;have v1:=O4 (P:=prog) (t:=240) bJ (b7 F.ext) (bF1 (show i<g.length by omega)) aD0;have v2:=O4 (P:=prog) (t:=240) bK (b7 F.ext) (bF1 (show i<kk.length by omega)) aD0;have v3:=E8 (P:=prog) (t:=240) ac (bF1 (show i<(wAt d a).length by omega)) aD0;have y1:=bJ.inS (k:=i) om;have y2:=bK.inS (k:=i) om;have y3:=ac.inS (k:=i) om;have en:goW g (wAt d a) kk i=g.getD i 0#64 ||| ((wAt d a).getD i 0#64 &&& ~~~(kk.getD i 0#64)):=rfl;have cU:=cA6 g (wAt d a) kk bA;rw[en]at cU;simp only[L6.val]at v1 v2 v3;generalize g.getD i 0#64=gi at *;generalize(wAt d a).getD i 0#64=ri at *;generalize kk.getD i 0#64=ki at *;have b1:=cd2 (P:=prog) (t:=240) ri ki;have b2:=dv2 (P:=prog) (t:=240) gi (ri &&& ~~~ki);have dc:=aX.inS (k:=i) (by rw[aH9];exact bA);obtain⟨S,t4,o5,m5,_⟩:=G4 (P:=prog) (t:=240) (aX.ext hd) rfl (k:=i) (by rw[aH9];exact bA) (x:=.int .u64 (((gi ||| (ri &&& ~~~ki)).toNat:Nat):Int)) (y:=(gi ||| (ri &&& ~~~ki))) rfl rfl (B1 aV8).choose_spec.1 (by rw[<-F8 (B1 aV8).choose_spec.1];exact ct3);rw[cU]at o5;simp only[O0,simprocAttr,br];apply C4 (λw3=>w3=Z.drew) 25 (A8 [0,1,2,3,4,5,6,7,8,9,10,11,12,13,14,15,16,17,18,19,20,21,22,23,24]);simp only[D7,A8,O0,zVB,A6,simprocAttr,dg,j1,aL,d0,da];refine⟨xg,λw3 e=>by subst e;exact cy,?_⟩;simp only[D7,O0,zVB,A6,simprocAttr,y1];refine⟨.int .u64 (gi.toNat:Nat),λw3 e=>by subst e;exact v1,?_⟩;simp only[D7,O0,zVB,A6,simprocAttr,a2,aL,d0,dd];refine⟨ua.v,λw3 e=>by subst e;exact cA,?_⟩;simp only[D7,O0,zVB,A6,simprocAttr,y3];refine⟨.int .u64 (ri.toNat:Nat),λw3 e=>by subst e;exact v3,?_⟩;simp only[D7,O0,zVB,A6,simprocAttr,j2,aL,d0,a1];refine⟨xk,λw3 e=>by subst e;exact cz,?_⟩;simp only[D7,O0,zVB,A6,simprocAttr,y2];refine⟨.int .u64 (ki.toNat:Nat),λw3 e=>by subst e;exact v2,?_⟩;simp only[D7,O0,zVB,A6,simprocAttr,b1,b2,dc,t4,br,q6];exact U5 (i+1) ⟨o5,(aX.ext hd).ext2 (U.trans hd) m5⟩
      .rintro rfl;clear ae da a1 dd bJ bK bc bd;have cl:∀f,X9 (am7 g (wAt d a) kk i i) f=true↔cv4 gl kl d a f:=by
        intro f;rw[bx f,eN7,eF1,Bool.not_eq_true',el f];have h8:=ep f;unfold cv4 aA4;constructor
        .rintro(h|⟨h9,aT⟩)
         .exact .inl h
         .exact .inr ⟨h9,λd4=>by rw[h8.2 d4]at aT;cases aT⟩
        .rintro(h|⟨h9,aT⟩)
         .exact .inl h
         .refine .inr ⟨h9,?_⟩;cases e:X9 kk f
          .rfl
          .exact fj (h8.1 e) aT
       have aq:∀f,X9 (am7 g (wAt d a) kk i i) f=true->f<most/\∀b∈F1 nx a,aN5 nx gl kl b f:=by
        intro f hf;rcases(cl f).1 hf with h|⟨h1,h2⟩
        .refine⟨?_,λb p=>.gen p h⟩;have:=eh _ (aJ4 (nx:=gl) (by rw[bw];exact am)) _ h;omega
        .exact⟨Q.low a f am h1,λb p=>.step p (Q.sound a f am h1) h2⟩
       have H:(am7 g (wAt d a) kk i i).length=most / 64+1:=by rw[aH9,aV,aW]
       have e7:=Q.pop cl;have F:=M.more U;have cH:=aX.down (b7 M.ext);have bz:=cq.mono (b7 F.ext);have ej:∀b,B0 ug b->w9.heap.size<=b:=λb p=>f4 b p;generalize am7 g (wAt d a) kk i i=gw at *;simp only[O0,simprocAttr,j0,aL];apply z6 (dr5 pg nx pv a Z bz (by rw[co.pv.len]) (λx hx=>eD7 (G.row_len hx) om));rintro un S ⟨aY,bn⟩;have bp:=F.more bn;have aG:=cH.ext bn;have bi:=aY.down (b7 F.ext);have ei:∀b,B0 un b->Z.heap.size<=b:=λb p=>bp.ge' (aY.free p);have cP:(F1 nx a).length<=nx.length:=G.rowlen a;simp only[O0,Y7,ad8,simprocAttr,aY.isS,aY.vlen];refine E4 [0,1,2,3,8,9,10,11,13,15,16,102,103] (σ:=Nat) (λk f V=>f 104 = .int .i64 k/\k<=(F1 nx a).length/\∃E J A,ST w V rb gb ui uw (f 12) us E A J T1/\SJ nx gl kl most a gw k E J A (T+1)/\J.length+bc8 most d<=C.length+bc8 most E/\t8 (λb=>Q6 ui us b\/B0 uw b\/B0 an b\/S.heap.size<=b) S V/\∀b,B0 (f 12) b->B0 an b\/S.heap.size<=b) (λk=>(F1 nx a).length-k) 0 ?_ ?_
       .simp only[C9,simprocAttr];simp only[eO];exact⟨tt,eE2 _,d,C,_,bp,e7,eE8 _,t8.refl _,λb p=>.inl p⟩
       .rintro k f a9 hk ⟨ab,cv,E,J,A,af,sj,fm,aF,ar⟩;simp only[eF8,C9,simprocAttr]at hk;simp only[j0,j1,j2,j3,j8,j9,de,a2,eP,aL,dg]at hk;obtain⟨k0,k1,k2,k3,k8,k9,ge,eT,dk,gf,eU,di,dj,_⟩:=hk;generalize I:f 12=fH at *;simp only[O0,E2,I6,simprocAttr,ab,dj];refine A7 (λX=>?_) ?_
        .have b8:∀b,B0 ug b->¬(Q6 ui us b\/B0 uw b\/B0 an b\/S.heap.size<=b):=λb p N=>by
          have h1:=ej b p;rcases N with N|N|N|N
          .have:=M.rows.lt N;omega
          .have:=M.wts.lt N;omega
          .have:=M.q.lt N;omega
          .have:=aG.lt p;omega
         have d6:∀b,B0 un b->¬(Q6 ui us b\/B0 uw b\/B0 an b\/S.heap.size<=b):=λb p N=>by
          have h1:=ei b p;have h2:=U.size;rcases N with N|N|N|N
          .have:=M.rows.lt N;omega
          .have:=M.wts.lt N;omega
          .have:=M.q.lt N;omega
          .have:=bi.lt p;omega
         have bC:=aG.mod aF b8;have cO:=(bi.mod aF d6).rw_ (b7 af.ext);have ik:=cO.inS X;have bM:=O4 (P:=prog) (t:=3) cO (n7 _) (eD1 X) K7;simp only[L6.val]at bM;have ap:(F1 nx a)[k]?=some (F1 nx a)[k]:=eD1 X;have K:=(G.row a).2 _ (eE1 X);generalize(F1 nx a)[k]=b at bM ap K;have bv:=C0.1 K;have db:decide (0<=b)=true:=by simpa using bv.1
         have ce:b.toNat<nx.length:=om
         have aw:us[b.toNat]?=some (us[b.toNat]' om):=eD1 _;generalize us[b.toNat]' om=ub at aw;have eJ:=af.rows.outer.inS (k:=b.toNat) om;have eW:=aU9 (P:=prog) (t:=355) af.rows aw bE0;have bk:=az5 sj.ilen K;have ac:=af.rows.row _ _ _ aw bk;have aI:(wAt E b).length=gw.length:=by rw[H];exact sj.rlen _ (eF7 bk)
         have bg:E6 (n8 w) (aA5 a9 ub.v):=λx o e=>by
          have hn:¬B0 ub.v x:=λbu=>by rw[ac.free bu]at e;cases e
          rw[al1 hn];exact b7 af.ext x o e
         have bG:=ac.rebase (b7 af.ext);have ef:∀x,B0 ug x->¬B0 ub.v x:=λx hx eE=>b8 x hx (.inl (.inr ⟨ub,eF7 aw,eE⟩));have d7:=bC.beside (v:=ub.v) bg ef;have q6:E2 prog .add 3 (.int .i64 k) (.int .i64 1)=some (.int .i64 ((k+1:Nat):Int)):=by
          simp only[E2,I6,eK2];rw[I9 k]
         simp only[O0,Y7,A6,simprocAttr,ab,di,eT,eU,ik,bM,db,eJ,eW];apply z6 (dA3 (aA5 a9 ub.v) ub.v ug (wAt E b) gw a9 bG (bs9 a9 ub.v) d7 aI (by rw[aI,H];omega));rintro rj fc ⟨ex,cG,bh⟩;have ag:=af.row aw bh (cG.down bg);have ao:t8 (λb=>Q6 ui us b\/B0 uw b\/B0 an b\/S.heap.size<=b) S fc:=aF.trans (bh.weaken λx _ hx=>.inl (.inr ⟨ub,eF7 aw,hx⟩));obtain⟨f7,et⟩:=sj.pot H aq K;have bo:=ag.wts.inS (k:=b.toNat) (by rw[sj.wlen];exact ce);have c5:=O5 (l:=A) (b:=b) (by rw[sj.wlen];exact K);have c4:A[b.toNat]?=some (A5 A b):=by
          rw[c5.2];simp[getD,c5.1]
         have bN:=E8 (P:=prog) (t:=4) ag.wts c4 ag4;simp only[L6.val]at bN;generalize cE:aw3 (wAt E b) gw=mo at *;generalize bl:A5 A b=wb at *;subst ex;cases mo
         .have aO:=sj.old G H aq ap K (.inl cE);simp only[O0,simprocAttr,ab,q6];exact U5 (k+1) ⟨_,_,_,by simpa only[I]using ag,aO,om,ao,by simpa only[I]using ar⟩
         .cases wb
          .have aO:=sj.new G H aq ap K cE bl;obtain⟨gF,t5,dt,dm⟩:=ag.wait2 (P:=prog) (t:=4) (k:=b.toNat) (by rw[sj.wlen];exact ce) true (B1 Y5).choose_spec.1 (by rw[<-F8 (B1 Y5).choose_spec.1];exact aK1);have f8:J.length+1<=100000000:=by
            have:=sj.few;have h8:=bv1 most E;rw[sj.ilen]at h8;omega
           obtain⟨p1,v',fd,p2,du,eZ,dn⟩:=dt.push2 (P:=prog) (t:=45) (e:=45) V8 b om om;have b6:t8 (λb=>Q6 ui us b\/B0 uw b\/B0 an b\/S.heap.size<=b) S fd:=(ao.trans (dm.weaken λx _ hx=>.inr (.inl hx))).trans (eZ.weaken λx _ hx=>by
            rcases ar x hx with h|h
            .exact .inr (.inr (.inl h))
            .exact .inr (.inr (.inr h)))
           have eC:=(ao.trans (dm.weaken λx _ hx=>.inr (.inl hx))).size;have cL:∀x,B0 v' x->B0 an x\/S.heap.size<=x:=λx hx=>by
            rcases dn x hx with h|h
            .exact ar x h
            .exact .inr om
           simp only[O0,zVB,unV,A6,simprocAttr,ab,dk,db,bo,bN,q6,t5,I,p1,p2];exact U5 (k+1) ⟨_,_,_,du,aO,by simp only[eD4,eG6,eK5];have:=et rfl;omega,b6,cL⟩
          .have aO:=sj.old G H aq ap K (.inr bl);simp only[O0,zVB,unV,A6,simprocAttr,ab,dk,db,bo,bN,q6];exact U5 (k+1) ⟨_,_,_,by simpa only[I]using ag,aO,om,ao,by simpa only[I]using ar⟩
        .rintro rfl;have dq:=sj.fin rfl;simp only[O0,simprocAttr];have cJ:=bv1 most E;rw[dq.ilen]at cJ;exact⟨(E,J),by simp only[dW6,eG6];omega,A,T+1,by rw[bt];simpa only[I]using af,dq⟩
    .have cF:z=[]:=by
      cases z with
      | nil=>rfl
      | cons x C=>simp at hc
     subst cF;obtain⟨ci,bt,d9⟩:=Q.fin G;have bO:us.length=nx.length:=by rw[D.rows.len,Q.ilen]
     have ni:vlen ui=nx.length:=by rw[D.rows.outer.vlen,bO]
     have cm:rb<w7.heap.size:=D.lr;have cn:gb<w7.heap.size:=D.lg;have d8:∀b,Q6 ui us b->b<w7.heap.size:=λb p=>D.rows.lt p;have a0:=D.rows;have ed:∀b,Q6 ui us b->b≠gb/\b≠rb:=λb p=>(D.d1 b p).2.2;have ee:=D.d4;have ch:=D.fg;have cj:=D.frb;simp only[O0,Y7,ad8,simprocAttr,bL,D.rows.outer.isS,ni];refine E4 [0,1,2,3,8,9,10,11,129,130] (σ:=Nat) (λk f V=>f 131 = .int .i64 k/\k<=nx.length/\(∃B,V.heap[gb]?=some (.cells #[B,.int .i64 (T:Nat)] 319 (0,0))/\B7 (D9 V (λb=>B0 B b\/b<w7.heap.size)) V 45 B ((d.take k).map λr=>an8 r most)/\∀b,B0 B b->w7.heap.size<=b) /\
      V.heap[rb]?=some (.cells #[.slice none 0 0,.int .i64 0] 319 (0,0))/\E1 (n8 w) V 355 240 ui us d/\o6 w V/\w7.heap.size<=V.heap.size) (λk=>nx.length-k) 0 ?_ ?_
     .exact⟨rfl,eE2 _,⟨_,D.cg,B7.nil _ _ _,λb p=>fj p E7⟩,D.cr,a0,D.ext,eE8 _⟩
     .rintro k f w8 hk ⟨aD,cv,⟨B,cg,aZ,ak⟩,cr,aJ,hx,eB⟩;simp only[eF8,C9,simprocAttr]at hk;simp only[i0,i1,i2,i3,i8,i9,c8,bL]at hk;obtain⟨j0,j1,j2,j3,j8,j9,de,a2,fr,df,_⟩:=hk;simp only[O0,E2,I6,simprocAttr,aD,df];refine A7 (λX=>?_) ?_
      .have q6:E2 prog .add 3 (.int .i64 k) (.int .i64 1)=some (.int .i64 ((k+1:Nat):Int)):=by
        simp only[E2,I6,eK2];rw[I9 k]
       have ae:us[k]?=some (us[k]' om):=eD1 _;generalize us[k]' om=ua at ae;have av:d[k]?=some (d[k]'(by rw[Q.ilen];exact X)):=eD1 _;have cW:(d.take (k+1)).map (λr=>an8 r most)=(d.take k).map (λr=>an8 r most)++[an8 (d[k]'(by rw[Q.ilen];exact X)) most]:=by
        rw[eD9 (by rw[Q.ilen];exact X),eG8];rfl
       have bF:=Q.rlen _ (eF7 av);generalize d[k]'(by rw[Q.ilen];exact X)=r at av cW bF;have hd:=o6.drew w8;have bq:=(hd.block gb (eD5.1 cg).1 id).trans cg;have bX:=(hd.block rb (eD5.1 cr).1 id).trans cr;have Y:=aJ.ext hd;have c7:=hx.trans hd;have a1:=aJ.outer.inS (k:=k) om;have b3:=(eD5.1 bq).1;have e6:=(eD5.1 bX).1;have bs:=(Y.row _ _ _ ae av).rw_ (b7 c7);have bj:=aZ.noMod hd (λb h=>h.elim) (λb _ h=>h) (N':=λb=>B0 B b\/b<w7.heap.size) (λb h=>.inl h) (λb h=>.inl h);generalize c6:w8.drew=wd at *;have cV:w7.heap.size<=wd.heap.size:=eD7 eB hd.size;simp only[O0,simprocAttr,aD];refine C4 (λw2=>o6 wd w2) 9 (A8 [0,1,2,3,4,5,6,7,8]) ?_ (hS:=by rw[c6];exact t8.refl _);rw[c6];simp only[D7,A8,O0,Y7,simprocAttr,j9];refine⟨B,λw2 e=>F9 (i:=0) ((e.block gb b3 id).trans bq) rfl ag3,?_⟩;simp only[D7,O0,Y7,A6,simprocAttr,a2,a1];refine⟨ua.v,λw2 e=>aU9 (Y.ext e) ae bE0,?_⟩;simp only[D7,O0,simprocAttr,j3];apply z6 (dB4 ua.v r most wd bs om (λf hf=>by rw[bF];have:=Nat.div_le_div_right (c:=64) (Nat.le_of_lt hf);omega));rintro ul w9 ⟨bD,L⟩;have Sl:=bD.isS;have d5:∀b,B0 ul b->¬(B0 B b\/b<w7.heap.size):=λb p N=>by
        have h1:wd.heap.size<=b:=by
         have:=bD.free p;exact eQ7 λcD=>by simp[n8,cD]at this
        rcases N with N|N
        .have:=bj.lt N;omega
        .omega
       have aH:=bj.noMod L (λb h=>h.elim) (λb _ h=>h) (N':=λb=>B0 B b\/b<w7.heap.size) (λb h=>.inl h) (λb h=>.inl h);have cb:=(bD.down (h:=D9 wd (λb=>B0 B b\/b<w7.heap.size)) (B6 _ _)).roNo (M8 L (λb h=>h.elim) (N':=λb=>B0 B b\/b<w7.heap.size) λb h=>.inl h) d5;obtain⟨p1,v',a8,p2,p3,p4,p5⟩:=push (P:=prog) (t:=261) (e:=261) cS8 rfl aH (x:=ul) (y:=an8 r most) (by rw[G3 Sl];exact cb) (by simp;omega) (by simp;omega) (B6 _ _);rw[G3 Sl]at p1 p2;have em:¬B0 B gb:=λh=>by have:=ak gb h;omega
       have ey:¬B0 B rb:=λh=>by have:=ak rb h;omega
       have bV:=(L.block gb b3 id).trans bq;have aS:=(L.block rb e6 id).trans bX;have bT:=(p4.block gb (eD5.1 bV).1 em).trans bV;have bb:=(p4.block rb (eD5.1 aS).1 ey).trans aS;have Sv:=p3.isS;obtain⟨Z,t6,bU,aN⟩:=ai1 (P:=prog) (t:=261) (i:=0) (x:=v') bT dG (G3 Sv) (aa9 Sv) (B1 dJ7).choose_spec.1 (by rw[<-F8 (B1 dJ7).choose_spec.1];exact ef9);have bW:=(aN.block rb (eD5.1 bb).1 (λh=>ee h.symm)).trans bb;have be:∀b,B0 v' b->w7.heap.size<=b:=λb p=>by
        rcases p5 b p with h|h
        .exact ak b h
        .have:=L.size;omega
       have bE:B7 (D9 Z (λb=>B0 v' b\/b<w7.heap.size)) Z 45 v' ((d.take k).map (λr=>an8 r most)++[an8 r most]):=by
        have h1:B7 (D9 a8 (λb=>B0 v' b\/b<w7.heap.size)) a8 45 v' ((d.take k).map (λr=>an8 r most)++[an8 r most]):=
         p3.reNo (M8 p4 (λb h=>.inl h) λb h=>by
          rcases h with h|h
          .rcases p5 b h with h|h
           .exact .inl (.inl h)
           .exact .inr h
          .exact .inl (.inr h)) λb h=>.inl h
        exact h1.noMod aN (λb h=>.inr (by subst h;exact cn)) (λb p h=>by subst h;have:=be b p;omega) (λb h=>.inl h) (λb h=>.inl h)
       have aK:=((Y.ext L).mod p4 (λb p bu=>by have:=d8 b p;have:=ak b bu;omega)).mod aN (λb p h=>(ed b p).1 h);have U:o6 w Z:=t8.ext_of (t8.ext_of (c7.trans L) p4 λb p=>by have:=ak b p;have:=D.ext.size;omega) aN λb p=>by subst p;exact ch
       have bH:w7.heap.size<=Z.heap.size:=eD7 cV (eD7 L.size (eD7 p4.size aN.size));simp only[D7,O0,simprocAttr,F2,p1];refine⟨L,L.trans (o6.alloc w9 _),?_⟩;simp only[O0,zVB,simprocAttr,p2,j9,t6,aD,q6];refine U5 (k+1) ⟨⟨v',?_,?_,be⟩,bW,aK,U,bH⟩
       .simpa using bU
       .rw[cW];exact bE
      .rintro rfl;rw[eI0 (by rw[Q.ilen];exact eE8 _)]at aZ;have cB:=ad1 (P:=prog) cg ct0 ct4 ct1 (by rw[av5];rfl);have Sv:=aZ.isS;have cI:∀u∈(#[B,Value.int .i64 (T:Nat)]:Array Value).toList,u.oneCell'=true:=by
        intro u hu;simp at hu;rcases hu with rfl|rfl
        .exact aa9 Sv
        .rfl
       obtain⟨w9,t7,aS,m9⟩:=ad2 (P:=prog) cr bE4 (by rw[av5];rfl) (cs:=#[B,.int .i64 (T:Nat)]) (by rw[av5];rfl) cI;have aH:=aZ.noMod m9 (λb h=>.inr (by subst h;exact cm)) (λb p h=>by subst h;have:=ak b p;omega) (N':=λb=>B0 B b\/b<w7.heap.size) (λb h=>.inl h) (λb h=>.inl h);have ca:R (D9 w9 (λb=>b<w.heap.size)) B (d.map λr=>an8 r most):=aH.ro (λb o e=>by
        by_cases h:b<w7.heap.size
        .rw[G2 (.inr h)]at e;cases e
        .by_cases h2:B0 B b
         .rw[G2 (.inl h2)]at e;cases e
         .rw[E9 (λN=>N.elim h2 h)]at e;rw[E9 (by have:=D.ext.size;omega)];exact e) λb p=>E9 (by have:=ak b p;have:=D.ext.size;omega)
       have bB:=ad1 (P:=prog) aS ct0 ct4 ct1 (by rw[av5];rfl);have L:o6 w w9:=t8.ext_of hx m9 λb p=>by subst p;exact cj
       simp only[O0,simprocAttr,j8,j9,cB,t7];refine R4 results299 (ad:=⟨rb,0,none⟩) (by simp only[C9,↓reduceIte,Nat.reduceEqDiff];exact j8) bB ?_;simp only[ew]at ca;refine⟨⟨B,d.map λr=>an8 r most,T,rfl,ca,by rw[eE3,Q.ilen],λb p=>⟨X9 (wAt d b),?_,λi=>ci b i p⟩,bt,d9⟩,L⟩;have h1:=az5 Q.ilen p;have cC:(d.map λr=>an8 r most).length=nx.length:=by rw[eE3,Q.ilen]
       have h2:=(aE9 (nx:=d.map λr=>an8 r most) (a:=b) (by rw[cC];exact p)).1;rw[eH2,h1]at h2;exact(eF3 h2).symm
structure dr7 (n:Int) (steps:List (Int×Int)) (gl kl:List (List Int)) (most:Int):Prop where
 n0:0<=n
 n5:n<=5000
 m0:0<=most
 m5:most<=5000
 gn:(gl.length:Int)=n
 kn:(kl.length:Int)=n
 st:∀s∈steps,bE7 n.toNat s
 gf:br5 gl most.toNat
 kf:br5 kl most.toNat
structure ej1 (nx gl kl:List (List Int)) (most:Nat) (sol:List (List Int)) (T:Nat):Prop where
 len:sol.length=nx.length
 row:∀b,J2 nx.length b=true->∃f:Nat->Bool,F1 sol b=((range most).filter f).map (λ(i:Nat)=>(i:Int))/\∀i,f i=true↔aN5 nx gl kl b i
 lo:nx.length<=T
 hi:T<=nx.length+nx.length*most
def au6{P:Program}{b:Func}{R:Value->World->Prop}{f:Fr}{w:World}{v:Value}{a t:Nat}{ty:TypeId}{ad:Addr}(h:b.results=#[.cell a ty,.tmp t])(d:f a=ad)(e:(Instr.loadAt ty ad).run P w = .ok v w)(c:R (.tuple #[v,f t]) w):aX4 P b R .ret f w:=by
 refine⟨[v,f t],?_,c⟩;rw[h];refine⟨?_,rfl,trivial⟩;show(do loadVar ty (<-asAddr (f a)):Sem Value).run P w = .ok v w;rw[d];exact e
def dg6:D0 prog 319 []=some (.agg #[(),(0:Int)]):=by
 have h:I7 prog 319=some (.agg #[(),(0:Int)]):=bE4
 first
 | (simp[D0,ef4,M2,Instr.fill];done)
 | rfl
def dD0(n most:Int)(a d:Nat):
  (decide (n<0)=true/\n<0)\/(decide (n<0)=false/\decide (n>5000)=true/\n>5000) \/
  (decide (n<0)=false/\decide (n>5000)=false/\decide (most<0)=true/\most<0)\/(decide (n<0)=false/\decide (n>5000)=false/\decide (most<0)=false/\decide (most>5000)=true/\most>5000) \/
  (decide (n<0)=false/\decide (n>5000)=false/\decide (most<0)=false/\decide (most>5000)=false/\((a:Int) != n)=true/\(a:Int)≠n) \/
  (decide (n<0)=false/\decide (n>5000)=false/\decide (most<0)=false/\decide (most>5000)=false/\((a:Int) != n)=false/\((d:Int) != n)=true/\(d:Int)≠n) \/
  (decide (n<0)=false/\decide (n>5000)=false/\decide (most<0)=false/\decide (most>5000)=false/\((a:Int) != n)=false/\((d:Int) != n)=false/\0<=n/\n<=5000/\0<=most/\most<=5000/\(a:Int)=n/\(d:Int)=n):=by
 by_cases h1:n<0
 .exact .inl ⟨by simpa using h1,h1⟩
 .have b:decide (n<0)=false:=by simpa using h1
  by_cases h2:n>5000
  .exact .inr (.inl ⟨b,by simpa using h2,h2⟩)
  .have c:decide (n>5000)=false:=by simpa using h2
   by_cases h3:most<0
   .exact .inr (.inr (.inl ⟨b,c,by simpa using h3,h3⟩))
   .have e:decide (most<0)=false:=by simpa using h3
    by_cases h4:most>5000
    .exact .inr (.inr (.inr (.inl ⟨b,c,e,by simpa using h4,h4⟩)))
    .have f:decide (most>5000)=false:=by simpa using h4
     by_cases h5:(a:Int)=n
     .have g:((a:Int) != n)=false:=by simpa using h5
      by_cases h6:(d:Int)=n
      .exact .inr (.inr (.inr (.inr (.inr (.inr ⟨b,c,e,f,g,by simpa using h6,om,om,om,om,h5,h6⟩)))))
      .exact .inr (.inr (.inr (.inr (.inr (.inl ⟨b,c,e,f,g,by simpa using h6,h6⟩)))))
     .exact .inr (.inr (.inr (.inr (.inl ⟨b,c,e,f,by simpa using h5,h5⟩))))
def ed4(n most:Int)(v vg vk:Value)(a:List (Int×Int))(D H:List (List Int))(w:World)(hv:R (n8 w) v a)(am:R (n8 w) vg D)(an:R (n8 w) vk H)(bO:a.length<=1000000)
  (a8:∀x∈D,x.length<=1000000000) (be:∀x∈H,x.length<=1000000000) :
  p7 prog 275 #[.int .i64 n,v,vg,vk,.int .i64 most] w λu w'=>((∃vs ok,u = .tuple #[vs,.bool ok] /\
   (ok=true->dr7 n a D H most/\∃vi X T,vs = .agg #[vi,.int .i64 (T:Nat)]/\R (D9 w' (λb=>b<w.heap.size)) vi X/\ej1 (aA8 n.toNat a).1 D H most.toNat X T) /\
   (ok=false->¬dr7 n a D H most/\vs = .agg #[.slice none 0 0,.int .i64 0]))/\o6 w w'):=by
 apply y5 [n,v,vg,vk,most] func275 rfl;have a4:=cc8;have d:=dg6;have ak:=am.isS;have al:=am.vlen;have aA:=an.isS;have aH:=an.vlen;have hS:=hv.isS;have bs:=hv.vlen;have c1:(w.alloc (.cells #[(),(0:Int)] 319)).heap[w.heap.size]?=some (.cells #[(),(0:Int)] 319 (0,0)):=eH3 w _;have x1:=o6.alloc w (.cells #[(),(0:Int)] 319);generalize bt:w.alloc (.cells #[(),(0:Int)] 319)=w1 at *;have c:=a4 w;rw[bt]at c;generalize bN:w.heap.size=j at c1 c;have S:j<w1.heap.size:=(eD5.1 c1).1;have m:∀A,o6 w A->A.heap[j]?=some (.cells #[(),(0:Int)] 319 (0,0))->∃z,(Instr.storeAt 319 (.pointer (some ⟨j,0,none⟩)) (.agg #[(),(0:Int)])).run prog A = .ok () z/\o6 w z /\
   (Instr.loadAt 319 (.pointer (some ⟨j,0,none⟩))).run prog z = .ok (.agg #[(),(0:Int)]) z:=by
  intro A W a5;obtain⟨z,t1,t2,t3⟩:=ad2 (P:=prog) a5 bE4 (by rw[av5];rfl) (cs:=#[(),(0:Int)]) (by rw[av5];rfl) (by simp[Value.oneCell']);exact⟨z,t1,t8.ext_of W t3 λb i=>by subst i;omega,ad1 (P:=prog) t2 ct0 ct4 ct1 (by rw[av5];rfl)⟩
 obtain⟨z,K,L,O⟩:=m w1 x1 c1;rcases dD0 n most D.length H.length with⟨q,i⟩|⟨q,B,i⟩|⟨q,B,J,i⟩|⟨q,B,J,d4,i⟩|⟨q,B,J,d4,d5,i⟩|⟨q,B,J,d4,d5,d6,i⟩|⟨q,B,J,d4,d5,d6,bi,bj,bg,bh,a9,bf⟩
 .simp only[O0,Y7,E2,I6,simprocAttr,c,q,d,K];exact au6 results275 (ad:=⟨j,0,none⟩) (by simp only[C9,↓reduceIte,Nat.reduceEqDiff]) O ⟨⟨_,false,rfl,(λh=>(by cases h)),λ_=>⟨λh=>by have:=h.n0;omega,rfl⟩⟩,L⟩
 .simp only[O0,Y7,E2,I6,simprocAttr,c,q,B,d,K];exact au6 results275 (ad:=⟨j,0,none⟩) (by simp only[C9,↓reduceIte,Nat.reduceEqDiff]) O ⟨⟨_,false,rfl,(λh=>(by cases h)),λ_=>⟨λh=>by have:=h.n5;omega,rfl⟩⟩,L⟩
 .simp only[O0,Y7,E2,I6,simprocAttr,c,q,B,J,d,K];exact au6 results275 (ad:=⟨j,0,none⟩) (by simp only[C9,↓reduceIte,Nat.reduceEqDiff]) O ⟨⟨_,false,rfl,(λh=>(by cases h)),λ_=>⟨λh=>by have:=h.m0;omega,rfl⟩⟩,L⟩
 .simp only[O0,Y7,E2,I6,simprocAttr,c,q,B,J,d4,d,K];exact au6 results275 (ad:=⟨j,0,none⟩) (by simp only[C9,↓reduceIte,Nat.reduceEqDiff]) O ⟨⟨_,false,rfl,(λh=>(by cases h)),λ_=>⟨λh=>by have:=h.m5;omega,rfl⟩⟩,L⟩
 .simp only[O0,Y7,E2,I6,ad8,simprocAttr,c,ak,al,q,B,J,d4,d5,d,K];exact au6 results275 (ad:=⟨j,0,none⟩) (by simp only[C9,↓reduceIte,Nat.reduceEqDiff]) O ⟨⟨_,false,rfl,(λh=>(by cases h)),λ_=>⟨λh=>i h.gn,rfl⟩⟩,L⟩
 .simp only[O0,Y7,E2,I6,ad8,simprocAttr,c,ak,al,aA,aH,q,B,J,d4,d5,d6,d,K];exact au6 results275 (ad:=⟨j,0,none⟩) (by simp only[C9,↓reduceIte,Nat.reduceEqDiff]) O ⟨⟨_,false,rfl,(λh=>(by cases h)),λ_=>⟨λh=>i h.kn,rfl⟩⟩,L⟩
 .clear K L O z;simp only[O0,Y7,E2,I6,ad8,simprocAttr,c,ak,al,aA,aH,q,B,J,d4,d5,d6,hS,bs];obtain⟨N,hN⟩:∃N:Nat,n=N:=⟨n.toNat,om⟩;obtain⟨M,hM⟩:∃M:Nat,most=M:=⟨most.toNat,om⟩;have aj:n.toNat=N:=om
  have E:most.toNat=M:=om
  have Z:∀e:Int×Int,ca5 n e=false↔bE7 N e:=λe=>by rw[hN];exact cL2
  refine B4 [0,1,2,3,4,10,45,46] (σ:=Nat) (λk f w'=>f 47=k/\k<=a.length/\(∀e∈a.take k,bE7 N e)/\o6 w1 w') (λk=>a.length-k) 0 ?_ ?_
  .exact⟨rfl,eE2 _,dG,t8.refl _⟩
  .rintro k f A ⟨e0,K,L,O,e4,g,C,a0,_⟩ ⟨r,bH,o,hx⟩;simp only[O0,E2,I6,simprocAttr,r,a0];refine A7 (λQ=>?_) ?_
   .have F:=hv.inS Q;have p:=ldP hv (b7 (x1.trans hx)) (eD1 Q);have aa:a[k]∈a:=eE1 Q;have aK:a.take (k+1)=a.take k++[a[k]]:=eD9 Q;generalize a[k]=e at p aa aK;obtain⟨x,y⟩:=e;simp only at p;obtain⟨p1,p2⟩:=dX5 A x y;have q0:=dX3 A x y;have q1:=dX4 A x y;have s:=hx.trans (o6.alloc A (.cells #[x,y] 208));generalize A.alloc (.cells #[x,y] 208)=z at *;obtain⟨w4,Y,g2,g3⟩:=m z (x1.trans s) ((s.block j S id).trans c1);have bk:∀{b:Bool},ca5 n (x,y)=true->¬dr7 n a D H most:=λi h=>by
     have h2:=h.st (x,y) aa;rw[aj]at h2;have:=(Z (x,y)).2 h2;rw[i]at this;cases this
    rcases dg2 n x y with⟨I,i⟩|⟨I,r2,i⟩|⟨I,r2,r3,i⟩|⟨I,r2,r3,r4,i⟩|⟨I,r2,r3,r4,i⟩
    case' inl=>simp only[O0,Y7,E2,I6,A6,simprocAttr,r,C,F,p,p1,p2,q0,I,g,d,Y]
    case' inr.inl=>simp only[O0,Y7,E2,I6,A6,simprocAttr,r,C,e0,F,p,p1,p2,q0,I,r2,g,d,Y]
    case' inr.inr.inl=>simp only[O0,Y7,E2,I6,A6,simprocAttr,r,C,e0,F,p,p1,p2,q0,q1,I,r2,r3,g,d,Y]
    case' inr.inr.inr.inl=>simp only[O0,Y7,E2,I6,A6,simprocAttr,r,C,e0,F,p,p1,p2,q0,q1,I,r2,r3,r4,g,d,Y]
    case' inr.inr.inr.inr=>simp only[O0,Y7,E2,I6,A6,simprocAttr,r,C,e0,F,p,p1,p2,q0,q1,I,r2,r3,r4]
    case inr.inr.inr.inr=>
     refine U5 (k+1) ⟨λe he=>?_,s⟩;rw[aK,eE0,eE7]at he;rcases he with he|he
     .exact o e he
     .subst he;exact(Z _).1 i
    all_goals
     exact au6 results275 (ad:=⟨j,0,none⟩) (by simp only[C9,↓reduceIte,Nat.reduceEqDiff];exact g) g3 ⟨⟨_,false,rfl,(λh=>(by cases h)),λ_=>⟨bk (b:=true) i,rfl⟩⟩,g2⟩
   .rintro rfl;rw[eE4]at o;have W:=x1.trans hx;have aL:R (n8 A) vg D:=A9.mono (b7 W) am;have U:=cH0 vg D M A aL om om a8;rw[<-hM]at U;simp only[O0,simprocAttr,L,e4];apply z6 U;rintro I z ⟨⟨ub,bw,bn,a6,a7⟩,s⟩;subst bn;have aM:R (n8 z) vk H:=A9.mono (b7 (W.trans s)) an;have V:=cH0 vk H M z aM om om be;rw[<-hM]at V;simp only[O0,simprocAttr,O,e4];apply z6 V;rintro r2 w4 ⟨⟨uk,bx,bo,bb,bc⟩,aN⟩;subst bo;have l:=(hx.trans s).trans aN;have ae:=x1.trans l;obtain⟨w5,Y,g2,g3⟩:=m w4 ae ((l.block j S id).trans c1);cases bw
    .simp only[O0,Y7,unV,simprocAttr,g,d,Y];exact au6 results275 (ad:=⟨j,0,none⟩) (by simp only[C9,↓reduceIte,Nat.reduceEqDiff];exact g) g3 ⟨⟨_,false,rfl,(λh=>(by cases h)),λ_=>⟨λh=>a7 rfl (by have:=h.gf;rw[E]at this;exact this),rfl⟩⟩,g2⟩
    .cases bx
     .simp only[O0,Y7,unV,simprocAttr,g,d,Y];exact au6 results275 (ad:=⟨j,0,none⟩) (by simp only[C9,↓reduceIte,Nat.reduceEqDiff];exact g) g3 ⟨⟨_,false,rfl,(λh=>(by cases h)),λ_=>⟨λh=>bc rfl (by have:=h.kf;rw[E]at this;exact this),rfl⟩⟩,g2⟩
     .clear Y g2 g3 w5;obtain⟨aC,gs,a2,az⟩:=a6 rfl;obtain⟨bd,ks,a3,aB⟩:=bb rfl;have ab:=db2 N v a w4 om (A9.mono (b7 ae) hv) om;rw[<-hN]at ab;simp only[O0,Y7,unV,simprocAttr,e0,K];apply z6 ab;rintro pg w5 ⟨⟨Mb,ba⟩,t⟩;have aD:=ax2 N a;have aF:=ba.read (b7 t);have bm:dr7 n a D H most:=⟨bi,bj,bg,bh,a9,bf,by rw[aj];exact o,by rw[E];exact aC,by rw[E];exact bd⟩;rw[aj,E];generalize aA8 N a=G at *;obtain⟨nx,pv⟩:=G;simp only at aF;have bl:nx.length=N:=aD.nx.len;have aE:aY1 nx.length (nx,pv):=by rw[bl];exact aD
      have ac:=do7 pg nx pv ub uk gs ks D H M w5 aF aE (A9.mono (b7 (aN.trans t)) a2) (A9.mono (b7 t) a3) az aB om om aC om om;rw[<-hM]at ac;simp only[O0,simprocAttr,e4];apply z6 ac;rintro r3 w6 ⟨⟨vi,X,T,bp,ay,U,V,bq,br⟩,bu⟩;subst bp;have af:=(l.trans t).trans bu;have Sv:=ay.isS;have aI:∀u∈(#[vi,(T:Nat)]:Array Value).toList,u.oneCell'=true:=by
       intro u hu;simp at hu;rcases hu with rfl|rfl
       .exact aa9 Sv
       .rfl
      obtain⟨w7,t1,t2,t3⟩:=ad2 (P:=prog) ((af.block j S id).trans c1) bE4 (by rw[av5];rfl) (cs:=#[vi,(T:Nat)]) (by rw[av5];rfl) aI;have aG:=ad1 (P:=prog) t2 ct0 ct4 ct1 (by rw[av5];rfl);simp only[O0,simprocAttr,g,t1];refine au6 results275 (ad:=⟨j,0,none⟩) (by simp only[C9,↓reduceIte,Nat.reduceEqDiff];exact g) aG ?_;simp only[C9,simprocAttr];refine⟨⟨_,true,rfl,λ_=>⟨bm,vi,X,T,rfl,?_,⟨U,V,bq,br⟩⟩,(λh=>(by cases h))⟩,t8.ext_of (x1.trans af) t3 λb i=>by subst i;omega⟩;have aJ:j<w5.heap.size:=eK3 S (l.trans t).size;refine A9.mono (M8 t3 (λb i=>by subst i;exact aJ) λb i=>.inl ?_) ay;have:=(x1.trans (l.trans t)).size;omega
def em0(x w){h}(hw:E6 h (n8 w)):∃v a,(Instr.buildSlice 45 1 #[(0,.int .i64 x)]).run prog w = .ok v a/\B7 h a 3 v [x]/\o6 w a/\(∀b,B0 v b->w.heap.size<=b):=
 lit (P:=prog) (w:=w) (h:=h) (α:=Int) (xs:=[.int .i64 x]) (ys:=[x]) (parts:=#[(0,.int .i64 x)]) (n:=1) V8 rfl (G6.2 rfl) (by simp[Value.cells]) rfl rfl dG dG hw
def eq1(w){vi}(T)(b:isS vi=true):
  (Instr.alloc 319 true (.tuple #[])).run prog w = .ok (.pointer (some ⟨w.heap.size,0,none⟩)) (w.alloc (.cells #[.slice none 0 0,.int .i64 0] 319)) /\
  (Instr.storeAt 319 (.pointer (some ⟨w.heap.size,0,none⟩)) (.agg #[vi,.int .i64 T])).run prog (w.alloc (.cells #[.slice none 0 0,.int .i64 0] 319)) =
   .ok () (w.alloc (.cells #[vi,.int .i64 T] 319)):=
 aE6 (P:=prog) (T:=319) bE4 (by rw[av5];rfl) (cs:=#[vi,.int .i64 T]) (by rw[av5];rfl) (by
  intro u a;simp only[eF0,eH6,eM0]at a;rcases a with rfl|rfl
  .exact aa9 b
  .rfl)
def dS9(w:World){vi T}:
  (Instr.loadAt 261 (.pointer (some ⟨w.heap.size,0,none⟩))).run prog (w.alloc (.cells #[vi,.int .i64 T] 319)) = .ok vi (w.alloc (.cells #[vi,.int .i64 T] 319)):=
 F9 (T:=319) (cs:=#[vi,.int .i64 T]) (i:=0) (eH3 w _) rfl ag3
def dy2{nx:List (List Int)}(d:H1 nx.length nx):OkR nx:=λa b c=>(d.row _).2 _ c
def dh5(a p i v vat)(d:List Nat)(w)(ha:At (n8 w) a (b9 p))(F:E3 p)(hw:C1 p<=1000000)(hi:i<p.procs.length)(hv:R (n8 w) v ((F7 (i5 p) i).pairs (F7 (i5 p) i).data))(K:R (n8 w) vat (d.map λ(a:Nat)=>(a:Int)))(aa:d.Nodup)(a7:∀A∈d,(A:Int)<(F7 (i5 p) i).n):
  p7 prog 213 #[.pointer (some a),.int .i64 i,v,vat] w λu I=>((∃ag,R (D9 I (λb=>b<w.heap.size)) u ag/\(ag.length:Int)=(F7 (i5 p) i).n/\(∀c:Nat,(c:Int)<(F7 (i5 p) i).n->∃g:Nat->Bool,F1 ag c=((range d.length).filter g).map (λ(f:Nat)=>(f:Int))/\∀f A,d[f]?=some A->(g f=true↔bA1 ((b9 p).nx i) d A c=true)))/\o6 w I):=by
 apply y5 [.pointer (some a),.int .i64 i,v,vat] func213 rfl;obtain⟨x,pt⟩:=K1 F.may hw i hi;have ao:=V3 pt;generalize x+B8 p.procs[i].body=y at pt ao;have bY:=I3 F.may;have hn:=ao.n;have b2:=pt.ok.len;have b1:=pt.ok.le;have a1:=br0 F hw hi ao;have aQ:=bP9 F hw hi ao;have bI:((F7 (i5 p) i).pairs (F7 (i5 p) i).data).length<=1000000:=eD7 (Nat.le_of_eq (eE3 _)) a1;clear a1;have ba:(b9 p).nx (i:Int)=(aA8 (F7 (i5 p) i).n.toNat ((F7 (i5 p) i).pairs (F7 (i5 p) i).data)).1:=by
  unfold Bk.nx;rw[P3 hi]
 obtain⟨sh,vw,_,_,_,_,has,bj,_,_,_,_,bQ,_⟩:=ha.book rfl;obtain⟨aw,bB,a0⟩:=aC4 (hv:=bj) (k:=i) (p:=⟨F7 (i5 p) i⟩) (by show((M3 p).map λw=>(⟨w⟩:Ptr Wy))[i]?=_;rw[eH2,ab7 hi];rfl);simp only at a0;have a6:=bj.inS (k:=i) (by show i<((M3 p).map λw=>(⟨w⟩:Ptr Wy)).length;unfold M3;simpa using hi);obtain⟨_,_,_,_,_,_,bn,_⟩:=a0.wy;rw[ba];generalize(F7 (i5 p) i).pairs (F7 (i5 p) i).data=steps at hv aQ bI;generalize(F7 (i5 p) i).n=wn at hn a7 bn aQ;obtain⟨M,rfl⟩:∃M:Nat,wn=(M:Int):=⟨wn.toNat,om⟩;simp only[eF4];have l:∀A∈d,A<M:=λA hA=>by have:=a7 A hA;omega
 have co:d.length<=M:=by
  have:=J5 (m:=range M) aa λA hA=>eH7.2 (l A hA);simpa using this
 have bG:=M0 (P:=prog) (t:=160) bB (n7 _) aC9;have hz:A9.enc (n8 w) (Value.slice none 0 0).cells.toList ([]:List Int):=aX5 _;have bo:=λ(wa:World) (ha:o6 w wa)=>mk (P:=prog) (w:=wa) (h:=n8 w) (α:=List Int) cS8 av6 (y:=[]) hz (n:=M) om om (b7 ha);obtain⟨il,a3,ar⟩:=ay1 (P:=prog) av6 bK0;simp only[i4,n9,A6,simprocAttr,bQ w (n7 _),a6,bG,bn w (n7 _)];refine bj3 [2,3,9] (o6 w) 6 (.op 0 (.op 2 (.fork [1,3] (λi=>if i=1 then(A8 [4,3,5])else(A8 [1,4,5])))))
  (λO I=>B7 (n8 w) I 45 (O 10) (replicate M ([]:List Int))/\B7 (n8 w) I 45 (O 11) (replicate M ([]:List Int))/\(∀b,B0 (O 10) b->¬B0 (O 11) b)/\o6 w I) (by decide +kernel) (by decide +kernel) (o6.drew w) ?_ ?_
 .simp only[D7,A8,i4,simprocAttr];obtain⟨va,wA,m1,o1,xA,f1,_⟩:=bo w.drew (o6.drew w);have H:=(o6.drew w).trans xA;obtain⟨vb,wB,m2,o2,xB,f2,_⟩:=bo wA H;have G:∀b,B0 va b->¬B0 vb b:=λb Q U=>by have:=o1.lt Q;have:=f2 b U;omega
  refine X2 (by decide +kernel) (λi hi=>?_);simp only[eF0,eH6,eM0]at hi;rcases hi with rfl|rfl
  .simp only[eY,simprocAttr,m1,m2,F2];exact⟨H,H.trans xB,o1.ext xB,o2,G,H.trans xB⟩
  .simp only[eY,simprocAttr,m1,m2,F2];exact⟨H,H.trans xB,o2,o1.ext xB,λb Q U=>G b U Q,H.trans xB⟩
 rintro f w1 hk ⟨am,an,G,bL⟩;simp only[eF8,C9,simprocAttr]at hk;obtain⟨e2,e3,e9,_⟩:=hk;generalize bu:f 10=B at am G;generalize bv:f 11=C at an G;have aE:=K.isS;have ak:=K.vlen;rw[eE3]at ak;simp only[fe,simprocAttr,e3,aE,ak];refine B4 [2,3,9,10,11,33] (σ:=Nat×Value) (λs f I=>f 34 = .int .i64 s.1/\f 12=s.2/\s.1<=d.length/\B7 (n8 w1) I 3 s.2 ((range s.1).map λ(f:Nat)=>(f:Int))/\o6 w1 I) (λs=>d.length-s.1) (0,.slice none 0 0) ?_ ?_
 .simp only[C9,simprocAttr];exact⟨by first|rfl|trivial,trivial,eE2 _,B7.nil _ _ _,t8.refl _⟩
 rintro⟨k,ua⟩ f2 w2 ⟨g2,g3,g9,aW,aX,bt,_⟩ ⟨aD,aC,aK,ab,S⟩;simp only at aD aC aK ab;rw[e2]at g2;rw[e3]at g3;rw[e9]at g9;rw[bu]at aW;rw[bv]at aX;simp only[eF,simprocAttr,aD,bt];refine A7 (λE=>?_) ?_
 .obtain⟨p1,u3,w3,p2,p3,p4,p5⟩:=push (P:=prog) (t:=45) (e:=45) V8 rfl ab (x:=.int .i64 (k:Int)) (y:=(k:Int)) rfl (by rw[eE3,eI3];omega) (by rw[eE3,eI3];omega) (b7 S);simp only[Value.cells]at p1 p2;simp only[eF,simprocAttr,aD,aC,p1,p2];refine nx4 (k+1,u3) ⟨?_,ab.ext2 S p4⟩;simp only[];have e:(range (k+1)).map (λ(f:Nat)=>(f:Int))=(range k).map (λ(f:Nat)=>(f:Int))++[(k:Int)]:=by
   rw[eO6,eG8,map_singleton]
  rw[e];exact p3
 rintro rfl;have az:=bL.trans S;have J:∀b,(B0 B b\/B0 C b)->w.heap.size<=b/\b<w1.heap.size:=λb h=>by
  rcases h with h|h
  .exact⟨D4 (am.free h),am.lt h⟩
  .exact⟨D4 (an.free h),an.lt h⟩
 have aq:E6 (n8 w) (D9 w2 (λb=>B0 B b\/B0 C b)):=bf7 az λb j=>(J b j).1;have bb:=(am.ext S).reNo (N:=λb=>B0 B b\/B0 C b) aq λb j=>.inl j;have be:=(an.ext S).reNo (N:=λb=>B0 B b\/B0 C b) aq λb j=>.inr j;have bh:R (D9 w2 (λb=>B0 B b\/B0 C b)) ua ((range d.length).map λ(f:Nat)=>(f:Int)):=ab.flatR λb j=>E9 λh=>by
  have Q:=D4 (ab.free j);have:=(J b h).2;omega
 have bx:=bh.isS;simp only[eF,simprocAttr,g3,aE,ak];refine B4 [2,3,9,10,11,12,42,43] (σ:=Nat) (λk f I=>f 44 = .int .i64 k/\k<=d.length/\B7 (D9 I (λb=>B0 B b\/B0 C b)) I 45 B (ar7 d (λf=>[(f:Int)]) M k)/\B7 (D9 I (λb=>B0 B b\/B0 C b)) I 45 C (ar7 d (λ_=>(range d.length).map λ(f:Nat)=>(f:Int)) M k)/\t8 (λb=>B0 B b\/B0 C b) w2 I) (λk=>d.length-k) 0 ?_ ?_
 .exact⟨rfl,eE2 _,bb,be,t8.refl _⟩
 rintro k f4 w4 ⟨j2,j3,j9,aS,aT,bm,bO,bP,_⟩ ⟨aY,b0,ac,ad,aj⟩;rw[g2]at j2;rw[g3]at j3;rw[g9]at j9;rw[aW]at aS;rw[aX]at aT;rw[aC]at bm;have L:o6 w w4:=t8.ext_of az aj λb j=>(J b j).1;have a8:E6 (D9 w2 (λb=>B0 B b\/B0 C b)) (D9 w4 (λb=>B0 B b\/B0 C b)):=M8 aj (λ_ h=>h) λ_ h=>.inl h;simp only[eF,simprocAttr,aY,bP];refine A7 (λE=>?_) ?_
 .have bF:=K.inS (k:=k) (by rw[eE3];exact E);have aL:=aI6 K (b7 L) (k:=k) (by rw[eE3];exact E);rw[eL1]at aL;have V:=l _ (eE1 E);have aH:d.getD k 0=d[k]:=by rw[getD,eD1 E];rfl
  generalize d[k]=A at aL V aH;obtain⟨ul,w5,q1,q2,q3,q4⟩:=em0 (k:Int) w4 (n7 _);have Y:E6 (D9 w4 (λb=>B0 B b\/B0 C b)) (D9 w5 (λb=>B0 B b\/B0 C b)):=M8 q3 (λ_ h=>h.elim) λ_ h=>.inl h;have aZ:∀b,(B0 B b\/B0 C b)->b<w4.heap.size:=λb j=>eK3 (J b j).2 (eD7 S.size aj.size);have bK:R (D9 w5 (λb=>B0 B b\/B0 C b)) ul [(k:Int)]:=q2.flatR λb j=>E9 λh=>by
   have Q:=q4 b j;have:=aZ b h;omega
  have av:=(ac.ext q3).up Y λb j=>G2 (.inl j);have bf:=(ad.ext q3).up Y λb j=>G2 (.inr j);obtain⟨w6,s1,bc,aM,_⟩:=G4 (P:=prog) (t:=45) av rfl (k:=A) (by rw[ai0];exact V) (x:=ul) (y:=[(k:Int)]) bK (G3 q2.isS) a3 ar;have Z:E6 (D9 w5 (λb=>B0 B b\/B0 C b)) (D9 w6 (λb=>B0 B b\/B0 C b)):=M8 aM (λ_ h=>.inl h) λ_ h=>.inl h;have ax:=(bf.mod aM λb j aF=>G b aF j).up Z λb j=>G2 (.inr j);have bi:=A9.mono (A3 a8 (A3 Y Z)) bh;obtain⟨w7,s2,bg,aN,_⟩:=G4 (P:=prog) (t:=45) ax rfl (k:=A) (by rw[ai0];exact V) (x:=ua) (y:=(range d.length).map λ(f:Nat)=>(f:Int)) bi (G3 bx) a3 ar;have au:E6 (D9 w6 (λb=>B0 B b\/B0 C b)) (D9 w7 (λb=>B0 B b\/B0 C b)):=M8 aN (λ_ h=>.inr h) λ_ h=>.inl h;have bd:=(((bc.up Z λb j=>G2 (.inl j)).mod aN λb j aF=>G b j aF)).up au λb j=>G2 (.inl j);have aP:=bg.up au λb j=>G2 (.inr j);have a4:=av.inS (k:=A) (by rw[ai0];exact V);have a5:=ax.inS (k:=A) (by rw[ai0];exact V);simp only[i4,n9,A6,simprocAttr,aY,aS,aT,bm,bO,bF,aL,q1,a4,s1,a5,s2];refine U5 (k+1) ⟨?_,?_,?_⟩
  .rw[ar7,aH];exact bd
  .rw[ar7,aH];exact aP
  .exact(aj.trans (t8.up q3)).trans ((t8.weaken aM λb _ h=>.inl h).trans (t8.weaken aN λb _ h=>.inr h))
 rintro rfl;have ae:=cj6 (g:=λf=>[(f:Int)]) (n:=M) aa l;have af:=cj6 (g:=λ_=>(range d.length).map λ(f:Nat)=>(f:Int)) (n:=M) aa l;have aI:∀r∈ar7 d (λf=>[(f:Int)]) M d.length,r.length<=1000/\∀f∈r,0<=f/\f<(d.length:Int):=λr F=>by
  obtain⟨q,hq⟩:=eM7.1 F;rcases aQ0 aa l _ (eE8 _) q r hq with⟨f,hf,_,rfl⟩|⟨_,rfl⟩
  .exact⟨dG,λO D=>by simp at D;omega⟩
  .exact⟨dG,λO D=>by simp at D⟩
 have aJ:∀r∈ar7 d (λ_=>(range d.length).map λ(f:Nat)=>(f:Int)) M d.length,r.length<=1000/\∀f∈r,0<=f/\f<(d.length:Int):=λr F=>by
  obtain⟨q,hq⟩:=eM7.1 F;rcases aQ0 aa l _ (eE8 _) q r hq with⟨f,hf,_,rfl⟩|⟨_,rfl⟩
  .refine⟨by simp;omega,λO D=>?_⟩;obtain⟨z,hz,rfl⟩:=eF2.1 D;have:=eH7.1 hz;omega
  .exact⟨dG,λO D=>by simp at D⟩
 have bE:=ai0 d (λf=>[(f:Int)]) M d.length;have aK:=ai0 d (λ_=>(range d.length).map λ(f:Nat)=>(f:Int)) M d.length;generalize ar7 d (λf=>[(f:Int)]) M d.length=gl at ac ae aI bE;generalize ar7 d (λ_=>(range d.length).map λ(f:Nat)=>(f:Int)) M d.length=kl at ad af aJ aK;have aO:dr7 (M:Int) steps gl kl (d.length:Int):=by
  refine⟨om,om,om,om,om,om,λs hs=>?_,λr F f hf=>?_,λr F f hf=>?_⟩
  .have:=aQ s hs;rw[eF4];unfold bE7;omega
  .have:=(aI r F).2 f hf;rw[eF4];exact this
  .have:=(aJ r F).2 f hf;rw[eF4];exact this
 simp only[eF,simprocAttr,j2,j3,j9,aS,aT,aE,ak];apply z6 (ed4 (M:Int) (d.length:Int) v B C steps gl kl w4 (A9.mono (b7 L) hv) (ac.rw_ (B6 _ _)) (ad.rw_ (B6 _ _)) om (λr F=>by have:=(aI r F).1;omega) λr F=>by have:=(aJ r F).1;omega);rintro _ w5 ⟨⟨vs,bS,rfl,bl,bH⟩,bM⟩;cases bS with
 | false=>exact fj aO (bH rfl).1
 | true=>
  obtain⟨_,vi,ag,T,rfl,ay,aR⟩:=bl rfl;obtain⟨al,st⟩:=eq1 w5 (T:Int) ay.isS;simp only[eF,simprocAttr,al,st,dS9 w5 (vi:=vi) (T:=(T:Int))];apply o8 results213;simp only[C9,simprocAttr];have bk:=o6.alloc w5 (.cells #[vi,.int .i64 (T:Int)] 319);have X:=(ax2 M steps).nx;have W:=X.len;rw[eF4]at aR;refine⟨⟨ag,?_,?_,λc bA=>?_⟩,(L.trans bM).trans bk⟩
  .refine A9.mono (λb o e=>?_) ay;have a9:¬b<w4.heap.size:=λh=>by rw[G2 (N:=λb=>b<w4.heap.size) h]at e;cases e
   rw[E9 (N:=λb=>b<w4.heap.size) a9]at e;rw[E9 (N:=λb=>b<w.heap.size) (λh=>a9 (eK3 h L.size))];exact b7 bk b o e
  .rw[aR.len,W]
  .obtain⟨g,a2,bD⟩:=aR.row (c:Int) (C0.2 ⟨om,by rw[W];exact bA⟩);rw[eF4]at a2;refine⟨g,a2,λf A hf=>?_⟩;rw[bD,cM8 (dy2 (by rw[W];exact X)),dh6 ?_ ?_ hf]
   .intro a' O;rw[ae];constructor
    .rintro⟨f2,A2,Q,U,h3⟩;have:O=f2:=by simp at h3;omega
     subst this;exact⟨A2,Q,U⟩
    .rintro⟨A2,Q,U⟩;exact⟨O,A2,Q,U,dG⟩
   .intro a' O D;rw[af];constructor
    .rintro⟨f2,A2,Q,U,_⟩;exact⟨A2,eF7 Q,U⟩
    .rintro⟨A2,Q,U⟩;obtain⟨f2,bC⟩:=eM7.1 Q;exact⟨f2,A2,bC,U,eF2.2 ⟨O,eH7.2 D,rfl⟩⟩
section
section
variable {P:Program} {K:Fr->World->Prop} {f:Fr} {w:World} {d:Option Nat} {ty:TypeId} {pos:String} {aft:Array Edge}
def dD6{t x}:D1 P none ⟨d,.range t x,ty,pos,aft,none⟩ K f w=as8 ((Instr.range t (ev f x)).run P w) K f d:=by
 show X4 P _ K f w=_;unfold X4;simp only[execOp,eG2];generalize(Instr.range t (ev f x)).run P w=r;cases r<;>rfl
def db4{x s}:D1 P none ⟨d,.next x s,ty,pos,aft,none⟩ K f w=as8 ((Instr.next (ev f x) s ty).run P w) K f d:=by
 show X4 P _ K f w=_;unfold X4;simp only[execOp,eG2];generalize(Instr.next (ev f x) s ty).run P w=r;cases r<;>rfl
def dD5{x}:D1 P none ⟨d,.entry x,ty,pos,aft,none⟩ K f w=as8 ((Instr.entry (ev f x)).run P w) K f d:=by
 show X4 P _ K f w=_;unfold X4;simp only[execOp,eG2];generalize(Instr.entry (ev f x)).run P w=r;cases r<;>rfl
end
open Go.ChangeMaps (setBlock)
structure RgI (w:World) (it r:Nat) (es:Array MapEntry) (clock:Nat) (D:List Nat):Prop where
 cur:∃c0,clock<=c0/\w.heap[it]?=some (.mapIter (some r) clock (D.map λj=>(es.getD j default).born).toArray c0)
 map:w.heap[r]?=some (.map es clock)
 born:∀x∈es.toList,x.born<clock
 nd:(es.toList.map (·.born)).Nodup
 dn:D.Nodup
 dl:∀j∈D,j<es.size
def RgI.mod{w w' it r}{a:Array MapEntry}{clock}{D:List Nat}{M:Nat->Prop}(s:RgI w it r a clock D)(h:t8 M w w')(c:¬M it)(d:¬M r):RgI w' it r a clock D:=by
 obtain⟨b,f,e⟩:=s.cur;exact⟨⟨b,f,(h.block it (eD5.1 e).1 c).trans e⟩,(h.block r (eD5.1 s.map).1 d).trans s.map,s.born,s.nd,s.dn,s.dl⟩
def cr6{w it}{o:Obj}:t8 (λb=>b=it) w (setBlock w it o):=bM6 w it o
def RgI.next{P w it r}{c:Array MapEntry}{clock}{D:List Nat}(s:RgI w it r c clock D)(I:it≠r)(ty):
  ((∀j,j<c.size->j∈D)/\(Instr.next (.pointer (some ⟨it,0,none⟩)) false ty).run P w = .ok (.tuple #[false]) w) \/
  ∃(j:Nat) (e:MapEntry) (G:World),c[j]?=some e/\j∉D/\(Instr.next (.pointer (some ⟨it,0,none⟩)) false ty).run P w = .ok (.tuple #[true,e.key,e.val]) G/\RgI G it r c clock (D++[j])/\t8 (λb=>b=it) w G /\
   (∀i,t8 (λb=>b≠it/\b≠r) G i->(Instr.entry (.pointer (some ⟨it,0,none⟩))).run P i = .ok (.tuple #[e.key,e.val]) i):=by
 obtain⟨M,R,e⟩:=s.cur;have E:∀j k,j<c.size->k<c.size->(c.getD j default).born=(c.getD k default).born->j=k:=λj k d m h=>by
  have v:=eK4.1 s.nd;have F:∀j (d:j<c.size),(c.toList.map (·.born))[j]'(by simpa using d)=(c.getD j default).born:=λj d=>by
   simp[Array.getD,d]
  rcases Nat.lt_trichotomy j k with q|q|q
  .exact fj (by rw[F j d,F k m];exact h) (v j k (by simpa using d) (by simpa using m) q)
  .exact q
  .exact fj (by rw[F j d,F k m];exact h.symm) (v k j (by simpa using m) (by simpa using d) q)
 have z:∀j,j<c.size->(((D.map λj=>(c.getD j default).born).toArray.contains (c.getD j default).born)=true↔j∈D):=λj d=>by
  rw[<-Array.contains_toList,eE6,eF2];constructor
  .rintro⟨k,m,h⟩;have:=E k j (s.dl k m) d h;rw[<-this];exact m
  .exact λh=>⟨j,h,rfl⟩
 rcases run_next_at (P:=P) w ty it r clock M _ c clock e s.map s.born R with⟨q,N⟩|⟨x,L,C,J,B⟩
 .left;refine⟨λj d=>?_,N⟩;refine eL3 λn=>?_;have H:leftOf c (D.map λj=>(c.getD j default).born).toArray=#[]:=Array.eq_empty_of_size_eq_zero q;unfold leftOf at H;rw[Array.filter_eq_empty_iff]at H;have v:=H c[j] (Array.getElem_mem d);have O:c.getD j default=c[j]:=by simp[Array.getD,d]
  have K:=z j d;rw[O]at K;rw[Bool.not_eq_true',eN8]at v;exact n (K.1 (Classical.not_not.1 v))
 .right;unfold leftOf at L;have u:x∈c.toList/\(!(D.map λj=>(c.getD j default).born).toArray.contains x.born)=true:=by simpa using L
  obtain⟨j,d,rfl⟩:=eK1.1 u.1;have l:j<c.size:=by simpa using d
  have o:c.getD j default=c.toList[j]:=by simp[Array.getD,l]
  have n:j∉D:=λh=>by
   have:=(z j l).2 h;rw[o]at this;rw[this]at u;simp at u
  have y:t8 (λb=>b=it) w C:=by
   rcases J with rfl|rfl
   .exact t8.refl _
   .exact t8.up (o6.drew w)
  have A:it<C.heap.size:=eK3 (eD5.1 e).1 y.size;have t:((D.map λj=>(c.getD j default).born).toArray.push c.toList[j].born)=((D++[j]).map λj=>(c.getD j default).born).toArray:=by
   rw[eG8,<-o];simp
  have p:t8 (λb=>b=it) w (setBlock C it (.mapIter (some r) clock ((D.map λj=>(c.getD j default).born).toArray.push c.toList[j].born) clock)):=y.trans cr6;have f:=(p.block r (eD5.1 s.map).1 λh=>I h.symm).trans s.map;have g:(setBlock C it (.mapIter (some r) clock ((D.map λj=>(c.getD j default).born).toArray.push c.toList[j].born) clock)).heap[it]?=some (.mapIter (some r) clock ((D.map λj=>(c.getD j default).born).toArray.push c.toList[j].born) clock):=by
   show(C.heap.setIfInBounds it _)[it]?=_;simp[A]
  refine⟨j,c.toList[j],_,by rw[eO2 l];simp,n,B,⟨⟨clock,eE8 _,by rw[<-t];exact g⟩,f,s.born,s.nd,?_,λk m=>?_⟩,p,λi h=>?_⟩
  .rw[eI6];exact⟨s.dn,dG,λa Q b E=>by simp at E;subst E;rintro rfl;exact n Q⟩
  .rcases eE0.1 m with h|h
   .exact s.dl k h
   .simp at h;subst h;exact l
  .exact run_entry_at (P:=P) i it r clock _ c clock c.toList[j] ((h.block it (eD5.1 g).1 λh=>h.1 rfl).trans g) ((h.block r (eD5.1 f).1 λh=>h.2 rfl).trans f) (eE1 d) s.nd
end
def de6(a p i w)(ha:At (n8 w) a (b9 p))(hr:E3 p)(hw:C1 p<=1000000)(hi:i<p.procs.length):
  p7 prog 148 #[a,i] w λu U=>(B7 (n8 w) U 213 u ((b9 p).flows (i:Int))/\o6 w U):=by
 apply y5 [a,i] func148 rfl;obtain⟨x,pt⟩:=K1 hr.may hw i hi;have H:=V3 pt;generalize x+B8 p.procs[i].body=y at pt H;have aX:=I3 hr.may;have hn:=H.n;have dn:=pt.ok.len;have dm:=pt.ok.le;have bh:=br0 hr hw hi H;have b0:=co3 hr hw hi H;have aj:(F7 (i5 p) i).data.length<=10000000:=eD7 bh dR;obtain⟨M,hM⟩:∃M:Nat,(F7 (i5 p) i).n=(M:Int):=by
  generalize(F7 (i5 p) i).n=wn at hn;exact⟨wn.toNat,om⟩
 have V:M<=202:=by rw[hM]at hn;clear bh aj;omega
 have aO:(b9 p).way (i:Int)=F7 (i5 p) i:=P3 hi;have K:((b9 p).way (i:Int)).n.toNat=M:=by rw[aO,hM,eF4]
 have a0:cc4 ((b9 p).way (i:Int)):=by rw[aO];exact ed8 H.toWyOk aX
 have a1:∀a:Nat,a<((b9 p).way (i:Int)).n.toNat->plc (((b9 p).way (i:Int)).place a):=by rw[aO];exact ed9 H.toWyOk aX
 have bi:∀k:Nat,k<((b9 p).way (i:Int)).n.toNat->((b9 p).gives (i:Int) (k:Int)).Nodup/\((b9 p).gives (i:Int) (k:Int)).length<=100:=λk hk=>by
  rw[K]at hk;have h:=bm5 hr hw hi (k:=k) (by rw[hM];exact Int.ofNat_lt.2 hk);exact⟨aJ3 h.1,h.2⟩
 have b2:=λ(c:Nat) (hc:c<M)=>cT9 hr hw hi (k:=c) (by rw[hM];exact Int.ofNat_lt.2 hc);obtain⟨sh,vw,_,_,_,_,has,cb,_,_,_,_,dc,_⟩:=ha.book rfl;obtain⟨aw,cH,af⟩:=aC4 (hv:=cb) (k:=i) (p:=⟨F7 (i5 p) i⟩) (by show((M3 p).map λw=>(⟨w⟩:Ptr Wy))[i]?=_;rw[eH2,ab7 hi];rfl);simp only at af;have bQ:=cb.inS (k:=i) (by show i<((M3 p).map λw=>(⟨w⟩:Ptr Wy)).length;unfold M3;simpa using hi);obtain⟨_,_,_,_,_,_,dd,_⟩:=af.wy;have cP:=M0 (P:=prog) (t:=160) cH (n7 _) aC9;simp only[i4,n9,A6,simprocAttr,dc w (n7 _),bQ,cP];apply z6 (cu7 aw _ p i x y w af hr hw hi H);rintro vd w1 ⟨cR,aT⟩;simp only[i4,simprocAttr];apply z6 (aF6 aw _ p i x y vd _ w1 (af.mono (b7 aT)) H.toWyOk (cR.rw_ (b7 aT)) b0 aj);rintro vp w2 ⟨cS,br⟩;have c3:=cS.rw_ (b7 br);clear bh aj b0;simp only[i4,simprocAttr];apply z6 (dj7 a p i w2 (ha.mono (b7 (aT.trans br))) hr hw hi);rintro _ w3 ⟨r,kv,cn,rfl,hG⟩;have az:=aT.trans (br.trans hG.ext);have lw:=dd w3 (b7 az);simp only[hM]at lw;have hz:A9.enc (n8 w3) (Value.slice none 0 0).cells.toList ([]:List B9):=aX5 _;obtain⟨vt,w4,m1,aV,x4,f4,_⟩:=mk (P:=prog) (w:=w3) (h:=n8 w3) (α:=List B9) dc3 cI7 (y:=[]) hz (n:=M) om om (n7 _);obtain⟨il,cJ,bL⟩:=ay1 (P:=prog) cI7 dI2;have cD:=aV.isS;have bY:=aV.vlen;rw[eJ3]at bY;simp only[eF,simprocAttr,lw,m1,cD,bY];have aN:∀b,B0 vt b->w3.heap.size<=b/\b<w4.heap.size:=λb o=>⟨f4 b o,aV.lt o⟩;have a8:=aV.reNo (bf7 x4 λb o=>(aN b o).1) (λb o=>o);rw[cS5 (λc=>(b9 p).takes (i:Int) (c:Int)) M]at a8;refine B4 [0,1,5,6,7,8,10,41] (σ:=Nat) (λk f U=>f 42=k/\k<=M/\B7 (D9 U (B0 vt)) U 22 vt (aW7 (λc=>(b9 p).takes (i:Int) (c:Int)) M k)/\o6 w3 U/\w4.heap.size<=U.heap.size) (λk=>M-k) 0 ?_ ?_
 .exact⟨rfl,eE2 _,a8,x4,eE8 _⟩
 rintro k f E ⟨e0,e1,e5,e6,e7,e8,bz,cu,_⟩ ⟨bd,dK,cj,Q,cZ⟩;have C:=az.trans Q;simp only[eF,simprocAttr,bd,cu];refine B2 (λhc=>?_) (λhc=>?_)
 .have ap:k<M:=by simpa using hc
  simp only[i4,simprocAttr,bd,e0,e1,bz];apply z6 (df3 (n8 w) a p i k E ha (b7 C) hr hw hi (by rw[hM];exact Int.ofNat_lt.2 ap));rintro u w6 ⟨hu,aA⟩;have b5:R (D9 w6 (B0 vt)) u ((b9 p).takes (i:Int) (k:Int)):=A9.mono (cZ8 (b7 C) aA λb o=>⟨eK3 (aN b o).2 cZ,aE5 (eD7 az.size (aN b o).1)⟩) hu;have ck:=(cj.ext aA).up (M8 aA (λ_ h=>h.elim) λ_ h=>.inl h) λb o=>G2 o;obtain⟨w7,s1,de,bV,dO⟩:=G4 (P:=prog) (t:=22) ck rfl (k:=k) (by rw[bC7];exact ap) (x:=u) (y:=(b9 p).takes (i:Int) (k:Int)) b5 (G3 b5.isS) cJ bL;have a9:=de.up (M8 bV (λ_ h=>h) λ_ h=>.inl h) λb o=>G2 o;have cK:=ck.inS (k:=k) (by rw[bC7];exact ap);rw[do1 (T:=λc=>(b9 p).takes (i:Int) (c:Int))]at a9;have dN:=aA.size;simp only[i4,n9,A6,simprocAttr,bd,cK,s1];exact U5 (k+1) ⟨a9,t8.ext_of (Q.trans aA) bV λb o=>(aN b o).1,om⟩
 have am:M=k:=by simp at hc;omega
 subst am;have ca:=cj.rw_ (B6 _ _);have b6:=A9.mono (b7 (hG.ext.trans Q)) c3;have aL:=hG.more Q;obtain⟨es,d,aP,bS,Z,bf,bE⟩:=aL.map;have a5:=run_range_map (P:=prog) E 270 _ _ r es d Tryz.underlying270 aP;have cd:=o6.alloc E (.mapIter (some r) d #[] d);have bZ:RgI (E.alloc (.mapIter (some r) d #[] d)) E.heap.size r es d []:=⟨⟨d,eE8 _,eH3 _ _⟩,((o6.alloc _ _).block _ (eD5.1 aP).1 id).trans aP,bf,bE,nodup_nil,dG⟩;generalize E.alloc (.mapIter (some r) d #[] d)=w6 at a5 cd bZ;have dp:r<E.heap.size:=(eD5.1 aP).1;have dk:kv.length=es.size:=by
  have:=eE9 length bS;simpa using this.symm
 have Y:∀n,(b9 p).givers (i:Int) n≠[]↔n∈kv.map (·.1):=λn=>by
  have bK:dx7 p i n=((b9 p).givers (i:Int) n).map λ(a:Nat)=>(a:Int):=rfl;constructor
  .intro h;cases e:T9 kv n with
   | none=>
    have:=aL.no n e;rw[bK,map_eq_nil_iff]at this;exact fj this h
   | some v=>exact eF2.2 ⟨_,dx6 e,rfl⟩
  .intro h e;obtain⟨⟨m,v⟩,h1,rfl⟩:=eF2.1 h;have:=(aL.row m v (cA5 Z h1)).2;rw[bK]at this;simp only at e;rw[e]at this;exact this rfl
 have dl:kv.length<=M*100:=by
  have h:=dA6 (b:=b9 p) (i:=(i:Int)) Z (λn hn=>(Y n).2 hn) λa ha=>(bi a ha).2;rw[K,eE3]at h;exact h
 simp only[i4,simprocAttr,e8,dD6,a5];have bj:E.heap.size≠r:=λe=>om
 refine B4 [0,1,5,7,10,54] (σ:=List Nat×Value) (λs f U=>f 6=s.2/\RgI U E.heap.size r es d s.1/\o6 E U/\B7 (n8 E) U 213 s.2 ((s.1.map (keyN kv)).flatMap (aD5 (b9 p) (i:Int)))/\(∀b,B0 s.2 b->b≠E.heap.size)) (λs=>es.size-s.1.length) ([],()) ?_ ?_
 .exact⟨e6,bZ,cd,B7.nil _ _ _,λb o=>fj o E7⟩
 rintro⟨D,vo⟩ f7 w7 ⟨g0,g1,g5,g7,bA,bc,_⟩ ⟨h6,F,a7,aq,ay⟩;simp only at h6 F aq ay;rw[e0]at g0;rw[e1]at g1;rw[e5]at g5;rw[e7]at g7;rw[bz]at bA;have dI:D.length<=es.size:=by
  have:=J5 (m:=range es.size) F.dn λj hj=>eH7.2 (F.dl j hj)
  rwa [eI3]at this
 have a2:((D.map (keyN kv)).flatMap (aD5 (b9 p) (i:Int))).length<=824240800:=by
  have h:=bf5 (l:=D.map (keyN kv)) (f:=aD5 (b9 p) (i:Int)) (B:=M*M) λn _=>by
   have:=dj1 (b9 p) (i:Int) n
   rwa [K]at this
  rw[eE3]at h;have h1:D.length<=20200:=om
  have h2:M*M<=202*202:=Nat.mul_le_mul V V;have h3:D.length*(M*M)<=20200*(202*202):=Nat.mul_le_mul h1 h2;exact eD7 h (eD7 h3 dR)
 rcases F.next (P:=prog) bj 0 with⟨bD,aQ⟩|⟨j,e,w8,cM,dL,aQ,ar,bW,bG⟩
 .simp only[i4,simprocAttr,bc,db4,aQ,h6];refine z6 (cT0 aq om λs hs t ht h1 h2=>?_) ?_
  .obtain⟨n,_,hs⟩:=eG1.1 hs;obtain⟨m,_,ht⟩:=eG1.1 ht;exact dj2 a1 hs ht h1 h2
  rintro u9 w9 ⟨aR,cQ⟩;simp only[i4,simprocAttr,h6];apply o8 results148;simp only[C9,simprocAttr];have cO:(D.map (keyN kv)).Nodup:=by
   rw[Nodup,pairwise_map];refine List.Pairwise.imp_of_mem (fun{j q} hj hq bj e=>?_) F.dn;exact bj (dA5 Z (by have:=F.dl j hj;omega) (by have:=F.dl q hq;omega) e)
  have bm:=cO4 a0 (λa ha=>(bi a ha).1) cO λn hn=>by
   obtain⟨q,hq,cV⟩:=eK1.1 ((Y n).1 hn);refine eF2.2 ⟨q,bD q (by rw[eE3]at hq;omega),?_⟩;rw[<-cV,eL1,bt4 (eD1 (by simpa using hq))]
  rw[dx4 a0 (λa ha=>(bi a ha).1) a1 bm]at aR;exact⟨aR.backN C,t8.ext_of (C.trans a7) cQ λb o=>eD7 C.size (D4 (aq.free o))⟩
 generalize hP:(D.map (keyN kv)).flatMap (aD5 (b9 p) (i:Int))=bu at aq a2;obtain⟨⟨n,v⟩,hq,bF,bH⟩:∃q:B9×Value,kv[j]?=some q/\e.key=q.1/\e.val=q.2:=by
  have h1:=eE9 (λl=>l[j]?) bS;simp only[eH2,eP2,cM,eJ9]at h1;obtain⟨q,h2,h3⟩:=Option.map_eq_some_iff.1 h1.symm;exact⟨q,h2,(eE9 Prod.fst h3).symm,(eE9 Prod.snd h3).symm⟩
 simp only at bF bH;have bR:keyN kv j=n:=bt4 hq;obtain⟨cT,_⟩:=aL.row n v (cA5 Z (eF7 hq));have ak:=bG w8 (t8.refl _);rw[bF,bH]at ak aQ;have S:o6 E w8:=t8.ext_of a7 bW λb o=>by subst o;exact eE8 _
 have bl:=aq.mod bW λb o h=>ay b o h;have ax:R (n8 E) v (((b9 p).givers (i:Int) n).map λ(a:Nat)=>(a:Int)):=cT.rw_ (b7 (hG.ext.trans Q));have bq:R (n8 w8) v (((b9 p).givers (i:Int) n).map λ(a:Nat)=>(a:Int)):=A9.mono (b7 S) ax;have b8:=A9.mono (b7 S) b6;have dH:D.length+1<=es.size:=by
  have:=J5 (m:=range es.size) ar.dn λq hq=>eH7.2 (ar.dl q hq)
  rwa [eI3,eD4,eG3]at this
 simp only[i4,simprocAttr,bc,db4,dD5,aQ,ak,g0,g1,g7];apply z6 (dh5 a p i vp v ((b9 p).givers (i:Int) n) w8 (ha.mono (b7 (C.trans S))) hr hw hi b8 bq (br9 _ _ _) (λA hA=>by have:=aq9 _ _ _ A hA;rw[K]at this;rw[hM];exact Int.ofNat_lt.2 this));rintro vs w9 ⟨⟨cl,ad,c0,a4⟩,aU⟩;rw[hM]at c0;simp only[hM]at a4;have b1:cl.length=M:=om
 have bo:∀c:Nat,c<M->F1 cl c=(aD6 (b9 p) (i:Int) n c).map λ(f:Nat)=>(f:Int):=λc hc=>by
  obtain⟨g,h1,h2⟩:=a4 c (Int.ofNat_lt.2 hc);have e:(range ((b9 p).givers (i:Int) n).length).filter g=aD6 (b9 p) (i:Int) n c:=by
   unfold aD6;refine filter_congr λf hf=>?_;have bI:=eH7.1 hf;have h3:=h2 f _ (eD1 bI);have h4:((b9 p).givers (i:Int) n).getD f 0=((b9 p).givers (i:Int) n)[f]:=by rw[getD,eD1 bI];rfl
   rw[h4,eO8];exact h3
  rw[h1,e]
 have cC:=ad.isS;have bX:=ad.vlen;rw[b1]at bX;have aR:=bl.ext aU;have a3:=ar.mod aU (λh=>h) (λh=>h);have di:E.heap.size<w9.heap.size:=by
  obtain⟨_,_,h⟩:=a3.cur;exact(eD5.1 h).1
 simp only[eF,simprocAttr,cC,bX];refine B4 [0,1,5,7,10,12,13,54,64,65] (σ:=Nat×Value) (λs f U=>f 66=s.1/\f 6=s.2/\s.1<=M/\B7 (n8 E) U 213 s.2 (bu++(range s.1).flatMap (aW0 (b9 p) (i:Int) n))/\t8 (λb=>E.heap.size<=b/\b≠E.heap.size/\(b<w8.heap.size\/w9.heap.size<=b)) w9 U/\(∀b,B0 s.2 b->E.heap.size<=b/\b≠E.heap.size/\(b<w8.heap.size\/w9.heap.size<=b))) (λs=>M-s.1) (0,vo) ?_ ?_
 .exact⟨by first|rfl|trivial,h6,eE2 _,by rw[range_zero,flatMap_nil,eG5];exact aR,t8.refl _,λb o=>⟨D4 (bl.free o),ay b o,.inl (bl.lt o)⟩⟩
 rintro⟨c,v3⟩ f9 d9 ⟨k0,k1,k5,k7,ce,c4,c5,c6,c7,c8,_⟩ ⟨aJ,be,cE,ac,ab,X⟩;simp only at aJ be cE ac X;rw[g0]at k0;rw[g1]at k1;rw[g5]at k5;rw[g7]at k7;rw[bA]at ce;rw[bc]at c6;simp only[eF,simprocAttr,aJ,c8];refine A7 (λL=>?_) ?_;rotate_left
 .intro am;simp only[i4,simprocAttr];have bn:=a3.mod ab (λh=>h.2.1 rfl) (λh=>by have:=h.1;omega);have bs:=t8.ext_of (S.trans aU) ab λb o=>o.1;refine⟨(D++[j],v3),by simp only[eD4,eG3];omega,be,bn,bs,?_,λb o=>(X b o).2.1⟩;simp only[];rw[eG8,eN5,hP,eI4,map_nil,bR,eN2,flatMap_nil,eG5];have:aD5 (b9 p) (i:Int) n=(range c).flatMap (aW0 (b9 p) (i:Int) n):=by unfold aD5;rw[K,am]
  rw[this];exact ac
 obtain⟨ur,au,cF⟩:=R.row ad (k:=c) (dF2 om);rw[bo c L]at au;have cz:=ab.weaken (N:=λb=>b<w8.heap.size) λb o h=>by rcases h.2.2 with h|h<;>omega
 have bN:=ad.inS (k:=c) om;have bT:=M0 (P:=prog) (t:=45) cF (F5 cz) ao0;have cB:=au.isS;have bk:=au.vlen;rw[eE3]at bk;obtain⟨ut,c2,cG⟩:=R.row ca (do0 (T:=λc=>(b9 p).takes (i:Int) (c:Int)) L);have bO:=ca.inS (k:=c) (by rw[bC7];exact L);have cU:(bu++(range c).flatMap (aW0 (b9 p) (i:Int) n)).length<=824240800+202*202:=by
  rw[eD4];have h:=bR0 (b9 p) (i:Int) n c;rw[K]at h;have h2:c*M<=202*202:=Nat.mul_le_mul om V;exact Nat.add_le_add a2 (eD7 h h2)
 have aY:=cf2 (b9 p) (i:Int) n c;rw[K]at aY;have bJ:aW0 (b9 p) (i:Int) n c=(aD6 (b9 p) (i:Int) n c).flatMap (am6 (b9 p) (i:Int) n c):=rfl;have aZ:∀f∈aD6 (b9 p) (i:Int) n c,f<((b9 p).givers (i:Int) n).length:=λf hf=>by
  unfold aD6 at hf;exact eH7.1 (eF6.1 hf).1
 generalize aD6 (b9 p) (i:Int) n c=fl at au bk aY bJ aZ;generalize cA:bu++(range c).flatMap (aW0 (b9 p) (i:Int) n)=ba at ac cU;simp only[i4,n9,A6,simprocAttr,aJ,c7,bN,bT,cB,bk];refine B4 [0,1,5,7,10,12,13,14,54,64,65,66,71,72] (σ:=Nat×Value) (λs f U=>f 73=s.1/\f 6=s.2/\s.1<=fl.length/\B7 (n8 E) U 213 s.2 (ba++(fl.take s.1).flatMap (am6 (b9 p) (i:Int) n c))/\t8 (λb=>E.heap.size<=b/\b≠E.heap.size/\(b<w8.heap.size\/w9.heap.size<=b)) w9 U/\(∀b,B0 s.2 b->E.heap.size<=b/\b≠E.heap.size/\(b<w8.heap.size\/w9.heap.size<=b))) (λs=>fl.length-s.1) (0,v3) ?_ ?_
 .exact⟨by first|rfl|trivial,be,eE2 _,by rw[eN9,flatMap_nil,eG5];exact ac,ab,X⟩
 rintro⟨q,v4⟩ dD aC ⟨l0,l1,l5,l7,cf,bt,cg,ch,dU,dV,dW,ci,da,db,_⟩ ⟨ah,aK,cW,O,I,G⟩;simp only at ah aK cW O G;rw[k5]at l5;rw[ce]at cf;rw[c4]at bt;rw[c5]at cg;rw[aJ]at ci;simp only[eF,simprocAttr,ah,db];refine A7 (λaa=>?_) ?_;rotate_left
 .intro am;rw[am,eE4]at O;simp only[eF,simprocAttr,ci];refine nx2 (c+1,v4) ⟨aK,om,?_,I,G⟩;simp only[];rw[eO6,eN5,<-eG4,cA,eN2,flatMap_nil,eG5,bJ];exact O
 have z:o6 E aC:=t8.ext_of (S.trans aU) I λb o=>o.1;have bC:=I.weaken (N:=λb=>b<w8.heap.size) λb o h=>by rcases h.2.2 with h|h<;>omega
 have av:R (n8 aC) ur (fl.map λ(f:Nat)=>(f:Int)):=A9.mono (F5 bC) au;have bM:=av.inS (k:=q) (by rw[eE3];exact aa);have an:=aI6 av (n7 _) (k:=q) (by rw[eE3];exact aa);rw[eL1]at an;have bU:=M0 (P:=prog) (t:=22) cG (b7 z) ab6;have al:=aZ _ (eE1 aa);have bp:=M1 (am6 (b9 p) (i:Int) n c) fl aa;have dM:(ba++(fl.take q).flatMap (am6 (b9 p) (i:Int) n c)).length<=824240800+202*202+202:=by
  rw[eD4];have h:=bf5 (l:=fl.take q) (f:=am6 (b9 p) (i:Int) n c) (B:=1) λf _=>bR1 _ _ _ _ f;rw[eE5,eM2]at h;omega
 generalize fl[q]=f at an al bp;have ae:R (n8 aC) v (((b9 p).givers (i:Int) n).map λ(a:Nat)=>(a:Int)):=A9.mono (b7 z) ax;have bP:=ae.inS (k:=f) (by rw[eE3];exact al);have ao:=aI6 ae (n7 _) (k:=f) (by rw[eE3];exact al);rw[eL1]at ao;have cI:((b9 p).givers (i:Int) n).getD f 0=((b9 p).givers (i:Int) n)[f]:=by rw[getD,eD1 al];rfl
 have bB:=aq9 _ _ _ _ (eE1 al);rw[K]at bB;have W:am6 (b9 p) (i:Int) n c f=if((b9 p).takes (i:Int) (c:Int)).contains n then[⟨(F7 (i5 p) i).place ((((b9 p).givers (i:Int) n)[f]:Nat):Int),(F7 (i5 p) i).place (c:Int),n⟩]else[]:=by
  unfold am6;rw[cI,aO]
 generalize((b9 p).givers (i:Int) n)[f]=A at ao bB W;have b4:=(b2 c L).1;have b3:((b9 p).takes (i:Int) (c:Int)).length<=1000000000:=eD7 (b2 c L).2 dR;simp only[i4,n9,A6,simprocAttr,ah,da,bM,an,cf,ch,bO,bU,bt];apply F6 (aq8 ut _ n aC (A9.mono (b7 z) c2) b3 b4);clear b3 b4;rcases eD2 (((b9 p).takes (i:Int) (c:Int)).contains n)with h|h;rotate_left
 .rw[h,fh dG]at W;simp only[eF,simprocAttr,h,ah];refine nx2 (q+1,v4) ⟨aK,om,?_,I,G⟩;simp only[];rw[bp,W,eG5];exact O
 rw[h,fi rfl]at W;simp only[i4,n9,A6,simprocAttr,h,aK,l5,cg,bP,ao];refine z6 (aq0 aw _ p i x y (A:Int) aC (af.mono (b7 (C.trans z))) H.toWyOk ⟨om,om⟩) ?_;rintro _ df ⟨rfl,a6⟩;simp only[i4,simprocAttr,l5,ch];refine z6 (aq0 aw _ p i x y (c:Int) df (af.mono (b7 (C.trans (z.trans a6)))) H.toWyOk ⟨om,om⟩) ?_;rintro _ ea ⟨rfl,cc⟩;have J:=a6.trans cc;generalize(F7 (i5 p) i).place (A:Int)=s1 at W;generalize(F7 (i5 p) i).place (c:Int)=d1 at W;obtain⟨p1,v5,eb,p2,p3,p4,p5⟩:=push (P:=prog) (t:=210) (e:=210) ep3 rfl (O.ext J) (x:=.agg (A0.cells (⟨s1,d1,n⟩:Fw)).toArray) (y:=⟨s1,d1,n⟩) (cy7 _) om om (b7 (z.trans J));simp only[Value.cells]at p1 p2;have cy:=I.size;have cY:=J.size;simp only[eF,simprocAttr,ah,bt,du2,p1,p2];refine nx4 (q+1,v5) ⟨?_,(I.trans (t8.up J)).trans (p4.weaken λb _ o=>G b o),λb o=>?_⟩
 .simp only[];rw[bp,W,<-eG4];exact p3
 .rcases p5 b o with h|h
  .exact G b h
  .exact⟨om,om,.inr om⟩
def by9(a p i w)(ha:At (n8 w) a (b9 p))(hr:E3 p)(hw:C1 p<=1000000)(O:i<p.procs.length):
  p7 prog 141 #[a,i] w λu v=>(∃ui uo,u = .tuple #[ui,uo]/\B7 (n8 w) v 9 ui ((b9 p).slotsIn (i:Int))/\B7 (n8 w) v 9 uo ((b9 p).slotsOut (i:Int))/\(∀b,B0 ui b->¬B0 uo b)/\o6 w v):=by
 apply y5 [a,i] func141 rfl;have F:(b9 p).slotsIn (i:Int)=ad0 (J8 (am8 p) (i:Int)++p.procs[i].params.map (·.name)):=by
  unfold Bk.slotsIn;rw[O8 O];rfl
 have W:(b9 p).slotsOut (i:Int)=ad0 (J8 (N4 p) (i:Int)++[U0]):=rfl;obtain⟨sh,vw,vd,_,vi,vo,has,a7,a5,_,aj,ak,L,bd⟩:=ha.book rfl;obtain⟨_,_,_,_,_,_,af,_,_⟩:=has.sh;rw[K0]at af;obtain⟨vg,vp,a6,al,aT,be⟩:=af.pg;have lb:=L w (n7 _);have g:∀v,o6 w v->E6 (n8 w) (n8 v):=λv hx=>b7 hx;obtain⟨r,K,Y⟩:=(bf9 hr hw).row O;generalize J8 (am8 p) (i:Int)=M at r K Y F;obtain⟨ui,aM,ay⟩:=R.row aj (show(b9 p).ins[i]?=some M from r);have Z:=aj.inS (k:=i) (show i<(am8 p).length from(eD8.1 r).1);have aD:=M0 (P:=prog) (t:=22) ay (n7 _) ab6;obtain⟨m,y,G⟩:=(aP6 hr.may).row O;generalize J8 (N4 p) (i:Int)=D at m y G W;obtain⟨uo,aN,az⟩:=R.row ak (show(b9 p).outs[i]?=some D from m);have aa:=ak.inS (k:=i) (show i<(N4 p).length from(eD8.1 m).1);simp only[i4,n9,A6,G7,L6.val,simprocAttr,lb,Z,aD];apply z6 (aH3 ui M w aM om);rintro u2 Q ⟨aG,z⟩;have aQ:=L Q (g Q z);have aV:=aT Q (g Q z);have A:=al.at_ (i:=i) (x:=p.procs[i]) (eD1 O);have ab:=al.inS (k:=i) O;have aP:A9.sz Pr=5:=rfl;rw[aP]at A;obtain⟨bh,_,_,_,h,_,_,_,aU,_⟩:=A.pr;have aW:=aU Q (g Q z);have aJ:=R9 hr.may O;generalize p.procs[i].params=n at h aJ F;have au:=h.isS;have aF:=h.vlen;simp only[i4,n9,A6,G7,L6.val,simprocAttr,aQ,aV,ab,aW,au,aF];refine E4 [0,1,27,28] (σ:=Nat×Value) (λs f v=>f 29=s.1/\f 4=s.2/\s.1<=n.length/\B7 (n8 w) v 9 s.2 (M++(n.take s.1).map (·.name))/\o6 w v) (λs=>n.length-s.1) (0,u2) ?_ ?_
 .simp only[C9,simprocAttr];exact⟨by first|rfl|trivial,trivial,eE2 _,by simpa using aG,z⟩
 rintro⟨j,u⟩ f N hk ⟨E,h4,aC,I,c⟩;simp only at E h4 aC I;simp only[eF8,C9,simprocAttr]at hk;obtain⟨e0,e1,S,T,_⟩:=hk;simp only[i4,n9,A6,G7,L6.val,simprocAttr,E,S,T];refine B2 (λhc=>?_) (λhc=>?_)
 .have H:j<n.length:=by simpa using hc
  have aB:=h.inS H;obtain⟨sv,ag,ac⟩:=G1 (P:=prog) (t:=72) h (g N c) (eD1 H) bd9 be1 aX0 ak2;rw[ak2]at ac;have ah:=bc2 (λq:Pa=>q.name) n H;generalize n[j]=pa at ag ah;obtain⟨d,wz,w4,av,aL,l,aw⟩:=aF2 (ag.mono (g N c)) (n7 _);obtain⟨aS,_⟩:=aw.pa;have l4:=aS w4 (n7 _);obtain⟨p1,u5,w5,p2,p3,p4,p5⟩:=pushS (e:=22) (I.ext l) pa.name (by rw[eD4,eE3,eE5];omega) (b7 (c.trans l));simp only[i4,n9,A6,G7,L6.val,simprocAttr,E,h4,S,T,aB,ac,av,aL,l4,p1,p2];refine⟨(j+1,u5),om,eE9 _ (I9 j om),tt,om,?_,(I.ext l).ext2 (c.trans l) p4⟩;simp only[];rw[ah,<-eG4];exact p3
 have aA:j=n.length:=by simp at hc;omega
 subst aA;rw[eE4]at I;have aR:=L N (g N c);have aE:=M0 (P:=prog) (t:=22) az (g N c) ab6;simp only[i4,n9,A6,G7,L6.val,simprocAttr,e0,e1,aR,aa,aE];apply z6 (aH3 uo D N (A9.mono (g N c) aN) om);rintro u4 w4 ⟨J,l⟩;obtain⟨p1,u5,w5,p2,p3,p4,p5⟩:=pushS (e:=22) J U0 om (b7 l);have aY:(Instr.buildSlice 22 1 #[(0,.string ⟨#[36,114,101,116]⟩)]).run prog w4=_:=p1;have X:∀b,B0 u b->¬B0 u4 b:=λb U V=>by
  have:=I.lt U;have:=D4 (J.free V);omega
 have o:∀b,B0 u b->¬B0 u5 b:=λb U V=>by
  have:=I.lt U;have:=D4 (p3.free V);omega
 have B:=(I.ext l).mod p4 X;have aO:o6 w w5:=c.trans (J.ext2 l p4);simp only[i4,n9,A6,G7,L6.val,simprocAttr,aY,p2,h4];apply z6 (as0 B (by rw[eD4,eE3];omega));rintro u6 w6 ⟨aH,ad⟩;have C:=(p3.mod ad λb U V=>o b V U).back c;simp only[i4,n9,A6,G7,L6.val,simprocAttr];apply z6 (as0 C (by rw[eD4,eG3];omega));rintro u7 w7 ⟨aI,ae⟩;simp only[i4,n9,A6,G7,L6.val,simprocAttr];apply Q0 results141;simp only[C9,simprocAttr];rw[F,W];exact⟨u,u5,by rw[h4],aH.mod ae o,aI,o,C.ext2 (B.ext2 aO ad) ae⟩
def cR2(n:B9)(w):p7 prog 204 #[n] w λu e=>(u=(decide (n=U0))/\e=w):=by
 apply y5 [n] func204 rfl;have c:=λ(P:Program) (t:TypeId)=>cW8 (P:=P) (t:=t) (a:=n) (b:=U0);have d:A4 U0 = .string ⟨#[36,114,101,116]⟩:=rfl;simp only[d]at c;simp only[eF,simprocAttr,c];exact o8 results204 ⟨rfl,rfl⟩
def cx3(q:B9)(k d)(n:B9):D0 prog 27 [(0,A4 q),(1,.int .i64 k),(2,.int .i64 d),(3,A4 n)]=some (.agg (A0.cells (⟨q,k,d,n⟩:Vx)).toArray):=by
 simp[D0,bJ9,M2,Instr.fill,Value.cells,A4];rfl
def M9(a:Addr)(i:Int)(q:B9)(b c d e g f:Value):Array Value:=#[a,i,q,b,c,d,e,g,f]
def N9(gb T cs0)(q:B9)(k d)(n:B9)(w:World)(hb:w.heap[gb]?=some (.cells cs0 T (0,0)))(j:cs0[2]?=some (A4 q)):
  p7 prog 142 #[.pointer (some ⟨gb,0,none⟩),.int .i64 k,.int .i64 d,A4 n] w λu l=>(u = .agg (A0.cells (⟨q,k,d,n⟩:Vx)).toArray/\o6 w l):=by
 refine y5 [.pointer (some ⟨gb,0,none⟩),.int .i64 k,.int .i64 d,A4 n] func142 rfl ?_;have e:A0.cells (⟨q,k,d,n⟩:Vx)=[A4 q,.int .i64 k,.int .i64 d,A4 n]:=rfl;obtain⟨f,g⟩:=aE6 (P:=prog) (w:=w) (T:=27) be2 rfl (cs:=#[A4 q,.int .i64 k,.int .i64 d,A4 n]) (by rw[R3];rfl) (by simp[Value.oneCell',A4]);have a:=cx3 q k d n;rw[e]at a ⊢;have c:=λo=>((o6.alloc w o).block gb (eD5.1 hb).1 id).trans hb;have h:=λo=>F9 (P:=prog) (t:=9) (i:=2) (u:=A4 q) (c o) j as9;have b:=ad1 (P:=prog) (T:=27) (eH3 w (.cells #[A4 q,.int .i64 k,.int .i64 d,A4 n] 27)) aB7 aB8 av4 (by rw[R3];rfl);simp only[eF,simprocAttr,f,h,a,g];refine R4 results142 (ad:=⟨w.heap.size,0,none⟩) (by simp only[C9,simprocAttr]) b ?_;exact⟨rfl,o6.alloc _ _⟩
def BM.rebase{α β:Type}[A9 α][A9 β]{H H' w0 wz w}{Z:Nat->Prop}{gb TB TX TY}{a:Value->Array Value}{vx vy}{xs:List α}{ys:List β}(s:BM H w0 wz w Z gb TB TX TY a vx vy xs ys)(h:E6 H' (D9 w (nB gb vx vy Z))):BM H' w0 wz w Z gb TB TX TY a vx vy xs ys:=
 ⟨s.ext,s.ge,s.cb,s.ox,s.oy,s.dx,s.dy,s.dz,s.zk,s.sz,h⟩
abbrev PV(H:Hp)(w0 w:World)(f:Nat)(a:Addr)(i:Int)(q:B9)(b c d e g:Value)(xs:List Vx):Prop:=
 BM (α:=Vx) (β:=Int) H w0 w0 w (λ_=>False) f 199 27 3 (λv=>M9 a i q b c d e v ()) g () xs []
abbrev PE(H:Hp)(w0 w:World)(f:Nat)(a:Addr)(i:Int)(q:B9)(b c d e g:Value)(xs:List Eg):Prop:=
 BM (α:=Eg) (β:=Int) H w0 w0 w (λ_=>False) f 199 54 3 (λv=>M9 a i q b c d e () v) g () xs []
abbrev nP(a:Nat)(b:Value):Nat->Prop:=nB a b () λ_=>False
def dW4:∃a,prog.info? 35=some a/\a.size=1:=ay1 dJ9 dI3
def cB5:∃a,prog.info? 49=some a/\a.size=1:=ay1 dZ5 dZ0
def bh2(H gb a i)(q:B9)(c1 c2 c3 c4 vx)(xs:List Vx)(k d u)(c:List B9)(w0 w)(s:PV H w0 w gb a i q c1 c2 c3 c4 vx xs)(C:R (D9 w (nP gb vx)) u c)(Z:xs.length+c.length<=1000000):
  p7 prog 143 #[.pointer (some ⟨gb,0,none⟩),.int .i64 k,.int .i64 d,u] w λr b=>(∃M,PV (D9 w (nP gb vx)) w0 b gb a i q c1 c2 c3 c4 M (xs++c.map λn=>⟨q,k,d,n⟩)):=by
 refine y5 [.pointer (some ⟨gb,0,none⟩),k,d,u] func143 rfl ?_;obtain⟨il,G,o⟩:=dW4;simp only[eF,simprocAttr,C.isS,C.vlen];refine B4 [0,1,2,10,11] (σ:=Nat×Value) (λt f b=>f 12=t.1/\t.1<=c.length/\PV (D9 w (nP gb vx)) w0 b gb a i q c1 c2 c3 c4 t.2 (xs++(c.take t.1).map λn=>⟨q,k,d,n⟩)) (λt=>c.length-t.1) (0,vx) ?_ ?_
 .exact⟨rfl,eE2 _,by simpa using s.rebase (n7 _)⟩
 clear s;rintro⟨j,v⟩ f B ⟨e0,O,Q,D,E,_⟩ ⟨g,J,s⟩;simp only at g J s;simp only[eF,simprocAttr,g,E];refine A7 (λm=>?_) ?_;rotate_left
 .rintro rfl;rw[eE4]at s;simp only[i4,simprocAttr];apply bw0 results143;exact⟨v,s⟩
 have I:=C.inS m;have p:=ldS C s.hb m;have z:=bc2 (λn:B9=>(⟨q,k,d,n⟩:Vx)) c m;have K:(xs++(c.take j).map λn=>(⟨q,k,d,n⟩:Vx)).length+1<=1000000:=by rw[eD4,eE3,eE5];omega
 generalize c[j]=n at p z;generalize L:xs++(c.take j).map (λn=>(⟨q,k,d,n⟩:Vx))=ys at s K;have A:=s.more (o6.drew B);have F:∀b,t8 (B0 v) B.drew b->b.heap[gb]?=some (.cells (M9 a i q c1 c2 c3 c4 v ()) 199 (0,0)):=λb hm=>(hm.block gb (eD5.1 A.cb).1 λh=>(A.dx gb h).2.1 rfl).trans A.cb;have S:J4 prog (λb=>t8 (B0 v) B.drew b) 35 ⟨gb,7,none⟩ v:=sdx λb h=>F9 (i:=7) (u:=v) (F b h) rfl Z4;simp only[i4,n9,A6,simprocAttr,g,D,I,p];refine C4 (t8 (B0 v) B.drew) 12 (A8 [0,1,2,3,4,5,6,7,8,9,10,11]) ?_;simp only[D7,A8,i4,n9,simprocAttr,e0,O,Q,S];apply z6 (N9 gb _ _ q k d n B.drew A.cb rfl);rintro _ w3 ⟨rfl,l⟩;refine⟨t8.up l,?_⟩;have X:=A.more l;obtain⟨T,N,w4,w5,U,V,Y,W⟩:=X.push (P:=prog) (e:=35) aD8 rfl (x:=(⟨q,k,d,n⟩:Vx)) (y:=⟨q,k,d,n⟩) ((A0.iff_ _ _ _).2 rfl) om om (ix:=7) (by simp[M9]) (λv N=>by simp[M9]) G o;simp only[fe,simprocAttr,T,U,F2];refine⟨(t8.up l).trans (t8.up (o6.alloc _ _)),(t8.up l).trans W,?_⟩;simp only[eF,simprocAttr,g,V];apply U5 (j+1,N);simp only[];rw[z,<-eG4,L];exact Y
def bO7(x y:Vx)(k):D0 prog 54 [(0,.agg (A0.cells x).toArray),(1,.agg (A0.cells y).toArray),(2,.int .i64 k)]=some (.agg (A0.cells (⟨x,y,k⟩:Eg)).toArray):=by
 have a:∀x:Vx,A0.cells x=[A4 x.proc,.int .i64 x.kind,.int .i64 x.id,A4 x.slot]:=λ_=>rfl;have b:A0.cells (⟨x,y,k⟩:Eg)=[A4 x.proc,.int .i64 x.kind,.int .i64 x.id,A4 x.slot,A4 y.proc,.int .i64 y.kind,.int .i64 y.id,A4 y.slot,.int .i64 k]:=rfl;rw[a,a,b];simp[D0,er1,M2,Instr.fill,Value.cells,A4]
def ax4(H gb a i)(q:B9)(c1 c2 c3 c4 vx)(xs:List Eg)(x y:Vx)(k w0 w)(s:PE H w0 w gb a i q c1 c2 c3 c4 vx xs)(T:xs.length<=1000000000):
  p7 prog 147 #[.pointer (some ⟨gb,0,none⟩),x,y,.int .i64 k] w λr c=>(∃C,PE H w0 c gb a i q c1 c2 c3 c4 C (xs++[⟨x,y,k⟩])):=by
 refine y5 [.pointer (some ⟨gb,0,none⟩),x,y,k] func147 rfl ?_;obtain⟨U,A,j⟩:=cB5;obtain⟨R,D,o,B,f⟩:=aS1 (w:=w) (B0 vx) (SV.ofN (n8 w) x) λb n=>s.ox.lt n;have E:=s.more B;obtain⟨S,d,p,l,g⟩:=aS1 (w:=D) (B0 vx) (SV.ofN (n8 D) y) λb n=>E.ox.lt n;have m:=(E.more l).more (o6.drew d);have z:∀c,t8 (B0 vx) d.drew c->c.heap[gb]?=some (.cells (M9 a i q c1 c2 c3 c4 () vx) 199 (0,0)):=λc hm=>(hm.block gb (eD5.1 m.cb).1 λh=>(m.dx gb h).2.1 rfl).trans m.cb;have G:J4 prog (λc=>t8 (B0 vx) d.drew c) 49 ⟨gb,8,none⟩ vx:=sdx λc h=>F9 (i:=8) (u:=vx) (z c h) rfl bd8;have O:=(L8.vx_v (SV.ofN (n8 w) x) f).2 (t8 (B0 vx) d.drew) d.drew (t8.refl _) λc h=>F5 ((t8.up (M:=B0 vx) (l.trans (o6.drew d))).trans h);have Q:=(L8.vx_v (SV.ofN (n8 D) y) g).2 (t8 (B0 vx) d.drew) d.drew (t8.refl _) λc h=>F5 ((t8.up (M:=B0 vx) (o6.drew d)).trans h);have t:=bO7 x y k;obtain⟨I,F,V,W,J,K,N,L⟩:=m.push (P:=prog) (e:=49) cj9 rfl (x:=.agg (A0.cells (⟨x,y,k⟩:Eg)).toArray) (y:=⟨x,y,k⟩) ((A0.iff_ _ _ _).2 rfl) om om (ix:=8) (by simp[M9]) (λv F=>by simp[M9]) A j;simp only[eF,simprocAttr,o,p];refine C4 (t8 (B0 vx) d.drew) 11 (A8 [0,1,2,3,4,5,6,7,8,9,10]) ?_;simp only[D7,A8,i4,n9,simprocAttr,G,O,Q,t,I,J,F2];refine⟨t8.up (o6.alloc _ _),L,?_⟩;simp only[i4,simprocAttr,K];apply bw0 results147;exact⟨F,N⟩
def ex7:ao4 prog 204=true:=kr
instance:A0 B9:=⟨λs=>[s],λ_ _ _=>eL8⟩
def bS5{α:Type}(p:α->Bool):∀(l:List α) (i:Nat),ai3 p i l ≠ -1->∃k,ai3 p i l=((i+k:Nat):Int)/\(∃x,l[k]?=some x/\p x=true)/\∀j y,j<k->l[j]?=some y->p y=false
 | [],i,h=>fj rfl h
 | x::l,i,h=>by
  rw[ai3]at h ⊢;cases hp:p x
  .rw[hp,fh dG]at h;rw[fh dG];obtain⟨k,b,⟨y,c,d⟩,e⟩:=bS5 p l (i+1) h;refine⟨k+1,by rw[b];congr 1;omega,⟨y,by simpa using c,d⟩,λj z f a=>?_⟩;cases j with
   | zero=>
    obtain rfl:x=z:=by simpa using a
    exact hp
   | succ j=>exact e j z om (by simpa using a)
  .rw[fi rfl];exact⟨0,dG,⟨x,rfl,hp⟩,λj y f=>om⟩
def ba0{α:Type}(p:α->Bool):∀(l:List α),(∀(j:Nat) y,l[j]?=some y->p y=true)->l.filter p=l
 | [],_=>rfl
 | x::l,h=>by
  rw[filter_cons,fi (h 0 x rfl),ba0 p l λj y a=>h (j+1) y (by simpa using a)]
def el4:∃a,prog.info? 9=some a/\a.size=1:=ay1 dT7 dI4
def dw5{h w v}{xs:List B9}(D:B7 h w 9 v xs)(hl:xs.length<=1000000)(hh:E6 h (n8 w)):
  Calls prog 203 #[v,.func (.func 204) #[] #[]] w λe o=>∃u,e = .returned u/\(B7 h o 9 u (xs.filter λn=>!decide (n=U0))/\t8 (B0 v) w o/\∀b,B0 u b->B0 v b):=by
 refine y5 [v,.func (.func 204) #[] #[]] func203 rfl ?_;have hS:=D.isS;have hn:=D.vlen;have az:=D.vcap;obtain⟨il,X,H⟩:=el4;have a:∀(x:B9) (o:World),Calls prog 204 ([A4 x]++(#[]:Array Value).toList).toArray o λe R=>∃u,e = .returned u/\(u=(decide (x=U0))/\o6 o R):=λx o=>(cR2 x o).mono λe R ⟨u,h1,h2,h3⟩=>⟨u,h1,h2,by rw[h3];exact t8.refl _⟩;generalize hP:(λn:B9=>decide (n=U0))=pred at a;have U:∀n:B9,decide (n=U0)=pred n:=λn=>by rw[<-hP]
 simp only[U]at a ⊢;simp only[eF,simprocAttr];refine B3 (aY3 pred 204 #[] v xs w ex7 (D.rw_ hh) om λx o _ _=>a x o) (λw1 r=>?_);rcases eD2 (decide (ai3 pred 0 xs = -1))with hq|hq
 .have e:=eD3 hq;simp only[eF,simprocAttr,hq];refine o8 results203 ?_;simp only[C9,simprocAttr];have ae:xs.any pred=false:=by rw[<-aI1 pred xs 0,e];rfl
  rw[ba0 _ _ λj y C=>by
   have:=List.any_eq_false.1 ae y (eF7 C);simpa using this]
  exact⟨D.ext r,t8.up r,λb hb=>hb⟩
 obtain⟨k,q,⟨xk,ag,af⟩,G⟩:=bS5 pred xs 0 (eD6 hq);rw[eH5]at q;generalize ai3 pred 0 xs=z at hq q ⊢;obtain⟨ac,rfl⟩:=eD8.1 ag;have ab:IntKind.i64.wrap (z+1)=((k+1:Nat):Int):=by rw[q];exact I9 k
 have O:(xs.take (k+1)).filter (λn=>!pred n)=xs.take k:=by
  rw[aA3 _ xs ac,af,fh dG,eG5];refine ba0 _ _ λj y C=>?_;rw[eM1]at C;split at C
  .rename_i Z;rw[G j y Z C];rfl
  .cases C
 simp only[eF,simprocAttr,hq,ab];refine B4 [0,1] (σ:=Nat×Nat×List B9) (λs f o=>f 6=s.1/\f 5=s.2.1/\s.1<=xs.length/\s.2.1<s.1/\s.2.2.length=xs.length/\B7 h o 9 v s.2.2/\(∀m,s.1<=m->s.2.2[m]?=xs[m]?)/\s.2.2.take s.2.1=(xs.take s.1).filter (λn=>!pred n)/\t8 (B0 v) w o) (λs=>xs.length-s.1) (k+1,k,xs) ?_ ?_
 .simp only[C9,simprocAttr];exact⟨tt,by rw[q],om,om,tt,D.ext r,λ_ _=>tt,O.symm,t8.up r⟩
 rintro⟨j,c,T⟩ f w2 ⟨e0,e1,_⟩ ⟨E,S,aa,V,A,g,l,d,L⟩;simp only at E S aa V A g l d;simp only[eF,simprocAttr,E,e0,hS,hn];refine A7 (λK=>?_) ?_
 .have Q:T[j]?=some xs[j]:=by rw[l j (eE8 _),eD1 K]
  have Y:=g.inS (k:=j) om;have J:(Instr.loadAt 9 (I2 v j)).run prog w2 = .ok (xs[j]) w2:=E8 g Q as9;have p:=aA3 (λn=>!pred n) xs K;generalize xs[j]=n at J Q p;simp only[i4,n9,A6,simprocAttr,E,e0,e1,Y,J,eL4];refine B3 (a n w2) (λw3 B=>?_);have M:t8 (B0 v) w w3:=L.trans (t8.up B);rcases eD2 (pred n)with hp|hp
  .rw[hp,fh dG,eG5]at p;simp only[eF,simprocAttr,hp,E];refine nx2 (j+1,c,T) ⟨S,so,so,A,g.ext B,λm hm=>l m (by simp only at hm;omega),?_,M⟩;simp only[];rw[d,p]
  .rw[hp,fi dG]at p;have I:=g.inS (k:=c) om;obtain⟨w4,q1,q2,q3,_⟩:=G4 (P:=prog) (t:=9) (g.ext B) rfl (k:=c) om (x:=n) (y:=n) rfl rfl X H;simp only[i4,n9,A6,simprocAttr,hp,E,S,e0,I,q1];refine nx5 (j+1,c+1,T.set c n) ⟨by simp only[eK6];exact A,q2,λm hm=>?_,?_,M.trans q3⟩
   .simp only at hm ⊢;rw[eN0 om];exact l m om
   .simp only[];have W:c<(T.set c n).length:=by rw[eK6];omega
    rw[eD9 W,getElem_set_self,take_set_of_le (eE8 _),d,p]
 .rintro rfl;rw[eE4]at d;have c3:decide ((c:Int)<=(xs.length:Int))=true:=by simp;omega
  have c4:decide ((c:Int)<=(vcap v:Int))=true:=by simp;omega
  have c5:decide ((xs.length:Int)<=(vcap v:Int))=true:=by simp;omega
  obtain⟨w6,e6,N,ad,F⟩:=bC3 (P:=prog) (t:=22) (ty:=0) g rfl dT7 rfl (by simp[Value.cells,Value.oneCell']) (i:=c) om;have hz:A9.sz B9=1:=rfl;rw[A,hz]at e6;rw[hz]at N F;simp only[i4,n9,G7,simprocAttr,bU6,S,e0,hS,hn,c3,c4,c5,e6];exact o8 results203 ⟨by rw[<-d];exact N,L.trans ad,F⟩
def do6(gb T cs0 a p vs)(s:St)(c)(w:World)(hb:w.heap[gb]?=some (.cells cs0 T (0,0)))(H:cs0[0]?=some (.pointer (some a)))(P:At (n8 w) a (b9 p))(J:E3 p)(hw:C1 p<=1000000)(hv:SV (n8 w) vs s)(C:aM4 p s c):
  p7 prog 144 #[.pointer (some ⟨gb,0,none⟩),vs] w λu r=>(∃t B,u = .tuple #[t,B]/\B7 (n8 w) r 9 t ((b9 p).slotsIn (c:Int))/\B7 (n8 w) r 9 B ((b9 p).callOut s)/\(∀b,B0 t b->¬B0 B b)/\o6 w r):=by
 refine y5 [.pointer (some ⟨gb,0,none⟩),vs] func144 rfl ?_;have O:(b9 p).callOut s=if s.name=e0 then((b9 p).slotsOut (c:Int)).filter λn=>!decide (n=U0)else(b9 p).slotsOut (c:Int):=by
  have e:(b9 p).s.pr s.proc=(c:Int):=C.pr;unfold Bk.callOut;rw[e]
 have x:((b9 p).slotsOut (c:Int)).length<=1000000:=by
  have g:(b9 p).slotsOut (c:Int)=ad0 (J8 (N4 p) (c:Int)++[U0]):=rfl;have:=((aP6 J.may).row C.lt).2.2;rw[g,Y4,eD4,eG3];omega
 obtain⟨d,m,F,L,v⟩:=ay8 hv (n7 _);obtain⟨S,K,_,N⟩:=v.st_v;obtain⟨_,_,_,_,_,_,_,_,_,M,_⟩:=v.st;have j:=L.trans (o6.drew m);have R:J4 prog (λr=>o6 m.drew r) 87 ⟨gb,0,none⟩ a:=sdx λr h=>F9 (i:=0) (((j.trans h).block gb (eD5.1 hb).1 id).trans hb) H av3;have U:=N (o6 m.drew) m.drew (t8.refl _) λr h=>b7 ((o6.drew m).trans h);simp only[eF,simprocAttr,F];refine C4 (o6 m.drew) 15 (A8 [0,1,2,3,4,5,6,7,8,9,10,11,12,13,14]) ?_;simp only[D7,A8,i4,n9,simprocAttr,R,U];refine B3 (ao7 a (b9 p) p S s m.drew (P.mono (b7 j)) rfl J.may (K.mono (b7 (o6.drew m)))) (λW l=>⟨l,?_⟩);rw[C.pr];have f:=j.trans l;simp only[eY,simprocAttr];apply z6 (by9 a p c W (P.mono (b7 f)) J hw C.lt);rintro _ X ⟨t,B,rfl,z,q,o,k⟩;refine⟨l.trans k,?_⟩;have A:=f.trans k;have Q:=M X (b7 ((o6.drew m).trans (l.trans k)));rcases eD2 (decide (s.name=ofA #[]))with g|g
 .simp only[fe,simprocAttr,Q,g];have D:s.name=e0:=eD3 g;apply z6 (dw5 q x (b7 k));rintro V Y ⟨I,y,G⟩;simp only[i4,simprocAttr];apply Q0 results144;simp only[C9,simprocAttr];rw[O,fi D];exact⟨t,V,tt,(z.mod y λb g E=>o b g E).back f,I.back f,λb g E=>o b g (G b E),f.trans (q.ext2 k y)⟩
 .simp only[fe,simprocAttr,Q,g];have D:s.name≠e0:=eD6 g;apply Q0 results144;simp only[C9,simprocAttr];rw[O,fh D];exact⟨t,B,tt,z.back f,q.back f,o,A⟩
def cx2(a i)(q:B9)(c1 c2 c3 c4):D0 prog 199 [(0,.pointer (some a)),(1,.int .i64 i),(2,.agg #[A4 q,c1,c2,c3,c4])]=some (.agg (M9 a i q c1 c2 c3 c4 () ())):=by
 unfold M9;simp[D0,ee7,M2,Instr.fill,Value.cells,A4]
def PV.new{w d:World}(a i)(q:B9)(c1 c2 c3 c4)(f:o6 (w.alloc (.cells (M9 a i q c1 c2 c3 c4 () ()) 199)) d):
  PV (D9 d (nP w.heap.size ())) w d w.heap.size a i q c1 c2 c3 c4 () []/\PE (D9 d (nP w.heap.size ())) w d w.heap.size a i q c1 c2 c3 c4 () []:=by
 have c:o6 w d:=(o6.alloc _ _).trans f;have e:d.heap[w.heap.size]?=some (.cells (M9 a i q c1 c2 c3 c4 () ()) 199 (0,0)):=(f.block _ dG id).trans (eH3 w _);exact⟨⟨c,eE8 _,e,B7.nil _ _ _,B7.nil _ _ _,λb h=>fj h E7,λb h=>fj h E7,λb h=>h.elim,λb h=>h.elim,c.size,n7 _⟩,
  ⟨c,eE8 _,e,B7.nil _ _ _,B7.nil _ _ _,λb h=>fj h E7,λb h=>fj h E7,λb h=>h.elim,λb h=>h.elim,c.size,n7 _⟩⟩
def db0{w w2}(c:o6 w w2):E6 (n8 w) (D9 w2 (nP w.heap.size ())):=bf7 c λb a=>by
 rcases a with h|h|h|h
 .rw[h];exact eE8 _
 .exact fj h E7
 .exact fj h E7
 .exact h.elim
def dC4{w c d:World}(f:w.heap.size<c.heap.size){α:Type}[L6 α]{T u}{l:List α}(a:B7 (n8 c) d T u l):R (D9 d (nP w.heap.size ())) u l:=
 a.flatR λb e=>E9 λh=>by
  have:=D4 (a.free e);rcases h with h|h|h|h
  .omega
  .exact fj h E7
  .exact fj h E7
  .exact h.elim
def ar9{p}(b:E3 p)(hw:C1 p<=1000000){i}(a:i<p.procs.length):((b9 p).slotsIn (i:Int)).length<=33:=by
 have c:=((bf9 b hw).row a).2.2;have d:=R9 b.may a;unfold Bk.slotsIn;rw[O8 a,Y4,eD4,eE3];have e:(b9 p).ins=am8 p:=rfl;rw[e];omega
def aV2{p}(b:E3 p){i}(a:i<p.procs.length):((b9 p).slotsOut (i:Int)).length<=26:=by
 have c:=((aP6 b.may).row a).2.2;have e:(b9 p).slotsOut (i:Int)=ad0 (J8 (N4 p) (i:Int)++[U0]):=rfl;rw[e,Y4,eD4,eG3];omega
def bF7{p}(d:E3 p){s:St}{c}(b:aM4 p s c):((b9 p).callOut s).length<=26:=by
 have a:=aV2 d b.lt;have e:(b9 p).s.pr s.proc=(c:Int):=b.pr;unfold Bk.callOut;rw[e];split
 .exact eD7 (eG0 _ _) a
 .exact a
def ag9(p:Pg)(q:B9)(it:It):List Vx:=[⟨q,2,it.s.id,e0⟩]++if it.s.kind=4 then(((b9 p).slotsIn ((b9 p).s.pr it.s.proc)).map λn=>(⟨q,5,it.s.id,n⟩:Vx))++((b9 p).callOut it.s).map λn=>(⟨q,6,it.s.id,n⟩:Vx)else[]
def bK2{p}(d:E3 p)(hw:C1 p<=1000000)(q:B9){it:It}(b:it∈(i5 p).l):(ag9 p q it).length<=100:=by
 unfold ag9;rw[eD4,eG3];split
 .rename_i f;obtain⟨c,a⟩:=aa7 (d.fits it b f);have e:(b9 p).s.pr it.s.proc=(c:Int):=a.pr;have g:=ar9 d hw a.lt;have h:=bF7 d a;rw[e,eD4,eE3,eE3];omega
 .simp
def dD1{p i x y}(b:aH0 p i x y){it:It}(a:it∈(i5 p).of i):it∈(i5 p).l:=by
 rw[b.ok.of_]at a;exact eL5 (eP5 a)
def aR4(a p i w)(ha:At (n8 w) a (b9 p))(S:E3 p)(hw:C1 p<=1000000)(hi:i<p.procs.length):
  p7 prog 86 #[a,i] w λu m=>(B7 (n8 w) m 27 u ((b9 p).verts (i:Int))/\o6 w m):=by
 apply y5 [a,i] func86 rfl;obtain⟨il,aI,ad⟩:=dW4;obtain⟨x,pt⟩:=K1 S.may hw i hi;have bO:=I3 S.may;obtain⟨sh,vw,vd,_,vi,vo,has,b3,bZ,_,b1,b2,aY,cb⟩:=ha.book rfl;obtain⟨_,_,_,_,_,_,aN,_,_⟩:=has.sh;rw[K0]at aN;obtain⟨vg,vp,b0,aR,bz,cc⟩:=aN.pg;have lb:=aY w (n7 _);have lp:=bz w (n7 _);have hF:(b9 p).vert0 (i:Int)=([⟨p.procs[i].name,1,0,e0⟩]++((b9 p).slotsIn (i:Int)).map λn=>(⟨p.procs[i].name,3,0,n⟩:Vx))++(((b9 p).slotsOut (i:Int)).map λn=>(⟨p.procs[i].name,4,0,n⟩:Vx))++((i5 p).of i).flatMap (ag9 p p.procs[i].name):=by
  unfold Bk.vert0;rw[O8 hi];rfl
 have bW:=ar9 S hw hi;have bX:=aV2 S hi;have aj:∀it∈(i5 p).of i,(ag9 p p.procs[i].name it).length<=100:=λit al=>bK2 S hw _ (dD1 pt al);have hV:∀it,ag9 p p.procs[i].name it=[⟨p.procs[i].name,2,it.s.id,e0⟩]++if it.s.kind=4 then(((b9 p).slotsIn ((b9 p).s.pr it.s.proc)).map λn=>(⟨p.procs[i].name,5,it.s.id,n⟩:Vx))++((b9 p).callOut it.s).map λn=>(⟨p.procs[i].name,6,it.s.id,n⟩:Vx)else[]:=λit=>rfl;have H:∀it∈(i5 p).of i,it.s.kind=4->∃c,aM4 p it.s c:=λit al h4=>aa7 (S.fits it (dD1 pt al) h4);have am:((i5 p).of i).length<=200:=by
  rw[pt.ok.of_,eK0,eE5];omega
 have W:=aR.inS hi;obtain⟨sv,O,s⟩:=G1 (P:=prog) (t:=68) aR (n7 _) (eD1 hi) as1 as2 ao1 N6;rw[N6]at s;obtain⟨cs,rfl,D,E,F,G,rfl,_⟩:=O;generalize p.procs[i].name=q at hF hV aj s;have bl:(Instr.box 199 (.agg (M9 a i q D E F G () ()))).run prog w = .ok (.pointer (some ⟨w.heap.size,0,none⟩)) (w.alloc (.cells (M9 a i q D E F G () ()) 199)):=rfl;simp only[i4,n9,A6,simprocAttr,lb,lp,W,s,cx2 a (i:Int) q D E F G,bl];have aw:=o6.alloc w (.cells (M9 a i q D E F G () ()) 199);have Q:w.heap.size<(w.alloc (.cells (M9 a i q D E F G () ()) 199)).heap.size:=dG
 generalize bu:w.alloc (.cells (M9 a i q D E F G () ()) 199)=w1 at aw Q;apply z6 (by9 a p i w1 (ha.mono (b7 aw)) S hw hi);rintro _ w2 ⟨ui,uo,rfl,bq,br,bV,av⟩;have aS:=aw.trans av;rw[<-bu]at av;have s2:=(PV.new a i q D E F G av).1;have ap:=dC4 Q bq;have aq:=dC4 Q br;have g:=db0 aS;generalize bY:w.heap.size=l at s2 ap aq g;generalize bU:D9 w2 (nP l ())=H0 at s2 ap aq g;have s3:=s2.more (o6.drew w2);have aG:∀m,t8 (λ_=>False) w2.drew m->m.heap[l]?=some (.cells (M9 a i q D E F G () ()) 199 (0,0)):=λm hm=>(hm.block l (eD5.1 s3.cb).1 id).trans s3.cb;have k7:J4 prog (λm=>t8 (λ_=>False) w2.drew m) 35 ⟨l,7,none⟩ ():=sdx λm h=>F9 (i:=7) (u:=()) (aG m h) rfl Z4;simp only[i4,simprocAttr];refine C4 (t8 (λ_=>False) w2.drew) 9 (A8 [0,1,2,3,4,5,6,7,8]) ?_;have bs:Value.string {data:=#[]}=e0:=rfl;simp only[D7,A8,i4,n9,simprocAttr,k7,bs];apply z6 (N9 l _ _ q 1 0 e0 w2.drew s3.cb rfl);rintro _ w3 ⟨rfl,Y⟩;refine⟨Y,?_⟩;have s4:=s3.more Y;obtain⟨p1,v5,w4,w5,p2,p3,s5,p4⟩:=s4.push (P:=prog) (e:=35) aD8 rfl (x:=(⟨q,1,0,e0⟩:Vx)) (y:=⟨q,1,0,e0⟩) ((A0.iff_ _ _ _).2 rfl) dG dG (ix:=7) (by simp[M9]) (λv v'=>by simp[M9]) aI ad;have bE:t8 (λ_=>False) w3 w4:=p4.weaken λb _ U=>E7 U;simp only[fe,simprocAttr,p1,p2,F2];refine⟨Y.trans (o6.alloc _ _),Y.trans bE,?_⟩;simp only[i4,simprocAttr,p3];simp only[eL4]at s5;have aP:=A9.mono s5.base ap;apply z6 (bh2 H0 l a i q D E F G v5 _ 3 0 ui _ w w5 s5 aP (by rw[eG3];omega));rintro r6 w6 ⟨v6,s6⟩;have s6:=s6.rebase (A3 s5.base s6.base);have aQ:=A9.mono s6.base aq;simp only[i4,simprocAttr];apply z6 (bh2 H0 l a i q D E F G v6 _ 4 0 uo _ w w6 s6 aQ (by rw[eD4,eG3,eE3];omega));rintro r7 w7 ⟨v7,s7⟩;have s7:=s7.rebase (A3 s6.base s7.base);have aF:E6 (n8 w) (n8 w7):=A3 g s7.hb;simp only[eF,simprocAttr,aY w7 aF];apply z6 (aQ1 (n8 w) sh (i5 p) i x _ w7 has aF pt.ok);rintro ul w8 ⟨R,bv⟩;have s8:=s7.more bv;have an:(([(⟨q,1,0,e0⟩:Vx)]++((b9 p).slotsIn (i:Int)).map λn=>(⟨q,3,0,n⟩:Vx))++(((b9 p).slotsOut (i:Int)).map λn=>(⟨q,4,0,n⟩:Vx))).length<=60:=by
  rw[eD4,eD4,eG3,eE3,eE3];omega
 generalize(([(⟨q,1,0,e0⟩:Vx)]++((b9 p).slotsIn (i:Int)).map λn=>(⟨q,3,0,n⟩:Vx))++(((b9 p).slotsOut (i:Int)).map λn=>(⟨q,4,0,n⟩:Vx)))=pre at s8 hF an;generalize(i5 p).of i=L at R hF aj H am;have bh:=R.isS;have bp:=R.vlen;clear s2 s3 s4 s5 s6 s7 aG k7;simp only[eF,simprocAttr,bh,bp];refine B4 [0,1,5,53,54] (σ:=Nat×Value) (λt f m=>f 55=t.1/\t.1<=L.length/\PV H0 w m l a i q D E F G t.2 (pre++(L.take t.1).flatMap (ag9 p q))) (λt=>L.length-t.1) (0,v7) ?_ ?_
 .exact⟨rfl,eE2 _,by simpa using s8⟩
 clear s8;rintro⟨k,v⟩ f w9 ⟨bT,e1,e5,bd,be,_⟩ ⟨M,bo,C⟩;simp only at M bo C;have aO:(pre++(L.take k).flatMap (ag9 p q)).length<=30000:=by
  rw[eD4];have h1:=U3 (ag9 p q) 100 (L.take k) λz hz=>aj z (eL5 hz);rw[eE5]at h1;have h2:min k L.length<=200:=om
  omega
 have bk:E6 (n8 w) (n8 w9):=A3 g C.hb;simp only[eF,simprocAttr,M,be];refine A7 (λX=>?_) ?_;rotate_left
 .rintro rfl;rw[eE4]at C aO;have l7:(Instr.loadAt 35 (.pointer (some ⟨l,7,none⟩))).run prog w9 = .ok v w9:=F9 (i:=7) (u:=v) C.cb rfl Z4;simp only[eF,simprocAttr,e5,l7];apply z6 (cT1 C.ox om λa _ b _ h1 h2=>aQ8 (bj2.eq0 h1 h2));rintro _ j ⟨aK,ae⟩;have bx:(Instr.loadAt 35 (.pointer (some ⟨l,7,none⟩))).run prog j = .ok v j:=F9 (i:=7) (u:=v) ((ae.block l (eD5.1 C.cb).1 λh=>(C.dx l h).2.1 rfl).trans C.cb) rfl Z4;simp only[eF,simprocAttr,e5,bx];refine o8 results86 ⟨?_,t8.ext_of C.ext ae λb U=>(C.dx b U).1⟩;have e:(b9 p).verts (i:Int)=af2 dq0 (pre++L.flatMap (ag9 p q)):=by unfold Bk.verts;rw[hF]
  rw[e];exact aK.downN (A3 g C.base)
 have ao:=M1 (ag9 p q) L X;have aJ:=eE1 X;clear W s;have W:=R.inS X;obtain⟨sv,O,s⟩:=G1 (P:=prog) (t:=156) R (bk) (eD1 X) ai4 ai5 ag5 M4;rw[M4]at s;have r:=hV L[k];have aH:=H _ aJ;generalize L[k]=it at O ao r aH;generalize aV:pre++(L.take k).flatMap (ag9 p q)=ys at C aO;obtain⟨d,wz,j,bj,bt,aT,aa⟩:=bi2 (w:=w9) (nP l v) O λb U=>C.lt U;have J:=C.more aT;have T:=J.base;have J:=J.rebase (n7 _);generalize hK:D9 j (nP l v)=K at J T aa;obtain⟨us,au,ab,_,_⟩:=L8.it O aa;obtain⟨_,_,_,_,_,_,_,_,_,_,_,ax,bG⟩:=L8.st au ab;have bA:=(L8.st_v au ab).1;have B:=J.more (o6.drew j);have N:∀m,t8 (B0 v) j.drew m->m.heap[l]?=some (.cells (M9 a i q D E F G v ()) 199 (0,0)):=λm hm=>(hm.block l (eD5.1 B.cb).1 λh=>(B.dx l h).2.1 rfl).trans B.cb;have k7:J4 prog (λm=>t8 (B0 v) j.drew m) 35 ⟨l,7,none⟩ v:=sdx λm h=>F9 (i:=7) (u:=v) (N m h) rfl Z4;have t1:=bG (t8 (B0 v) j.drew) j.drew (t8.refl _) λm h=>A3 B.base (A3 (M8 h (λb U=>.inr (.inl U)) λb U=>.inl U) (B6 _ _));simp only[i4,n9,A6,simprocAttr,M,bd,W,s,bj,bt];refine C4 (t8 (B0 v) j.drew) 12 (A8 [0,1,2,3,4,5,6,7,8,9,10,11]) ?_;simp only[D7,A8,i4,n9,simprocAttr,e5,k7,t1];apply z6 (N9 l _ _ q 2 it.s.id e0 j.drew B.cb rfl);rintro _ cl ⟨rfl,I⟩;refine⟨t8.up I,?_⟩;have aZ:=B.more I;obtain⟨p1,v',cm,Z,p2,p3,o,p4⟩:=aZ.push (P:=prog) (e:=35) aD8 rfl (x:=(⟨q,2,it.s.id,e0⟩:Vx)) (y:=⟨q,2,it.s.id,e0⟩) ((A0.iff_ _ _ _).2 rfl) om om (ix:=7) (by simp[M9]) (λv v'=>by simp[M9]) aI ad;simp only[fe,simprocAttr,p1,p2,F2];refine⟨(t8.up I).trans (t8.up (o6.alloc _ _)),(t8.up I).trans p4,?_⟩;have aX:=ax Z o.hb;have ac:E6 (n8 w) (n8 Z):=A3 g (A3 T o.hb);have b4:(ys++[(⟨q,2,it.s.id,e0⟩:Vx)]).length<=30001:=by rw[eD4,eG3];omega
 clear C J B aZ k7 N t1;rcases eD2 (decide (it.s.kind=4))with h4|h4
 .have e4:=eD3 h4;obtain⟨c,V⟩:=aH e4;have bf:(b9 p).s.pr it.s.proc=(c:Int):=V.pr;have bm:=ar9 S hw V.lt;have bn:=bF7 S V;rw[fi e4,bf]at r;simp only[eF,simprocAttr,e5,p3,aX,h4,bA Z o.hb];apply z6 (do6 l _ _ a p us it.s c Z o.cb rfl (ha.mono ac) S hw (au.mono ac) V);rintro _ a3 ⟨bH,bI,rfl,aL,aM,bQ,aU⟩;have ay:=o.more aU;have af:=o.fresh aL;have ag:=o.fresh aM;have bw:=ax a3 ay.hb;generalize(b9 p).slotsIn (c:Int)=Si at r bm af;generalize(b9 p).callOut it.s=So at r bn ag;simp only[eF,simprocAttr,e5,bw];apply z6 (bh2 K l a i q D E F G v' _ 5 it.s.id bH Si w a3 ay af om);rintro _ a4 ⟨bJ,az⟩;have ar:=A9.mono az.base ag;have aE:=A3 ay.base az.base;simp only[eF,simprocAttr,e5,ax a4 (A3 aE (B6 _ _))];apply z6 (bh2 _ l a i q D E F G bJ _ 6 it.s.id bI So w a4 az ar (by rw[eD4,eE3];omega));rintro _ cn ⟨bK,a0⟩;have A:pre++(L.take (k+1)).flatMap (ag9 p q)=ys++[(⟨q,2,it.s.id,Go.Proofs.YtpebpfiglfmegaaGreat.e0⟩:Vx)]++(Si.map λn=>(⟨q,5,it.s.id,n⟩:Vx))++So.map λn=>(⟨q,6,it.s.id,n⟩:Vx):=by
   rw[ao,r,<-aV];simp only[eG4]
  simp only[eF,simprocAttr,M];apply U5 (k+1,bK);simp only[];rw[A];exact a0.rebase (A3 T (A3 aE a0.base))
 .have e4:=eD6 h4;rw[fh e4,eG5]at r;have A:pre++(L.take (k+1)).flatMap (ag9 p q)=ys++[(⟨q,2,it.s.id,Go.Proofs.YtpebpfiglfmegaaGreat.e0⟩:Vx)]:=by
   rw[ao,r,<-aV];simp only[eG4]
  simp only[eF,simprocAttr,p3,aX,h4,M];apply U5 (k+1,v');simp only[];rw[A];exact o.rebase (A3 T o.base)
section
variable {p:Pg} {i:Nat}
def Mid(p:Pg)(a:Int):Prop:=∃j:Nat,a=(j:Int)+1/\j<(i5 p).l.length
def bH0(w:E3 p)(hw:C1 p<=1000000)(r:i<p.procs.length){f:Fw}(l:f∈(b9 p).flows (i:Int)):(f.src=0\/Mid p f.src)/\(f.dst = -1\/Mid p f.dst):=by
 obtain⟨x,y⟩:=K1 w.may hw i r;have d:=V3 y;have z:=d.n;have l:f∈(b9 p).flow0 (i:Int):=(H8 _ _).mem_iff.1 l;rw[bg6]at l;obtain⟨n,l⟩:=l;rw[al3]at l;obtain⟨a,c,b,u,m,_,rfl⟩:=l;have o:=aq9 _ _ _ a b;have b:=(eF6.1 b).2;rw[eE6]at b m;unfold Bk.gives at b;unfold Bk.takes at m;simp only[P3 r]at b m o u ⊢;have e:∀k:Nat,k≠0->(k:Int)<(F7 (i5 p) i).n-1->Mid p ((F7 (i5 p) i).place (k:Int)):=λk g v=>by
  obtain⟨q,_,s,t,_⟩:=ax5 d g v;exact⟨q,t,s⟩
 constructor
 .by_cases g:(a:Int)=0
  .left;rw[d.toWyOk.place,fi g]
  .right;rw[fh g]at b;split at b
   .simp at b
   .rename_i j;have:¬(a:Int)=(F7 (i5 p) i).n-1:=λh=>j (.inl h);exact e a om om
 .by_cases g:(c:Int)=(F7 (i5 p) i).n-1
  .left;rw[d.toWyOk.place,fh om,fi g]
  .right;rw[fh g]at m;split at m
   .simp at m
   .rename_i j;have:¬(c:Int)=0:=λh=>j (.inl h);exact e c om om
def ck9(b:E3 p)(hw:C1 p<=1000000)(d:i<p.procs.length):∃M:Nat,(F7 (i5 p) i).n=(M:Int)/\M<=202:=by
 obtain⟨x,c⟩:=K1 b.may hw i d;have e:=(V3 c).n;have a:=c.ok.len;have:=I3 b.may;exact⟨(F7 (i5 p) i).n.toNat,om,om⟩
def ce9(g:E3 p)(hw:C1 p<=1000000)(d:i<p.procs.length):((b9 p).flows (i:Int)).length<=5000000:=by
 obtain⟨M,f,b⟩:=ck9 g hw d;have e:((b9 p).flows (i:Int)).length=((b9 p).flow0 (i:Int)).length:=(H8 cb5 _).length_eq;rw[e];unfold Bk.flow0;rw[P3 d,f,eF4];refine eD7 (U3 _ 20200 _ λa c=>?_) ?_
 .have c:=eH7.1 c;have h:=(bm5 g hw d (k:=a) (by rw[f];exact Int.ofNat_lt.2 c)).2;refine eD7 (U3 _ 202 _ λn j=>?_) ?_
  .rw[eE3];apply eD7 (eG0 _ _);rw[eI3];exact b
  .omega
 .rw[eI3];omega
def bo4(g:E3 p)(hw:C1 p<=1000000){q:B9}{pl}{n:B9}(d:pl = -1\/Mid p pl):((b9 p).takers q pl n).length<=9:=by
 unfold Bk.takers;split
 .simp
 .rename_i h;obtain⟨j,rfl,f⟩:=d.resolve_left h;have i:(b9 p).s=i5 p:=rfl;have a:(i5 p).it ((j:Int)+1)=(i5 p).l[j]:=by
   unfold Sh.it;rw[show((j:Int)+1-1).toNat=j by omega,getD,eD1 f];rfl
  split
  .simp
  .rename_i b;rw[i,a]at b ⊢;have b:((i5 p).l[j]).s.kind=4:=by simpa using b
   obtain⟨c,e⟩:=aa7 (g.fits _ (eE1 f) b);have l:=R9 g.may e.lt;have m:=e.len;rw[eD4,eE3];have k:((((i5 p).l[j]).s.args.zip ((b9 p).callee ((i5 p).l[j]).s).params).filter λx=>(ab5 x.1).contains n).length<=8:=by
    apply eD7 (eG0 _ _);rw[length_zip];omega
   split<;>simp only[eG3,eK5]<;>omega
def bG2(e:E3 p)(hw:C1 p<=1000000)(d:i<p.procs.length):((F7 (i5 p) i).decides).length<=41000:=by
 obtain⟨M,c,b⟩:=ck9 e hw d;rw[aS6 c];refine eD7 (U3 _ 202 _ λa f=>?_) ?_
 .rw[eE3];apply eD7 (eG0 _ _);rw[eI3];exact b
 .rw[eI3];omega
def aQ7(a:E3 p)(hw:C1 p<=1000000)(b:i<p.procs.length):((b9 p).verts (i:Int)).length<=30000:=by
 obtain⟨x,f⟩:=K1 a.may hw i b;have d:=I3 a.may;have e:((b9 p).verts (i:Int)).length=((b9 p).vert0 (i:Int)).length:=(H8 dq0 _).length_eq;have h:=ar9 a hw b;have j:=aV2 a b;have k:(((i5 p).of i).flatMap (ag9 p p.procs[i].name)).length<=((i5 p).of i).length*100:=U3 _ 100 _ λit c=>bK2 a hw _ (dD1 f c);have l:((i5 p).of i).length<=200:=by
  rw[f.ok.of_,eK0,eE5];omega
 have g:(b9 p).vert0 (i:Int)=([(⟨p.procs[i].name,1,0,e0⟩:Vx)]++((b9 p).slotsIn (i:Int)).map λn=>(⟨p.procs[i].name,3,0,n⟩:Vx))++(((b9 p).slotsOut (i:Int)).map λn=>(⟨p.procs[i].name,4,0,n⟩:Vx))++((i5 p).of i).flatMap (ag9 p p.procs[i].name):=by
  unfold Bk.vert0;rw[O8 b];rfl
 rw[e,g];simp only[eD4,eG3,eE3];omega
end
def bX5(vs)(b:Ar)(w)(hv:SV (n8 w) vs b)(o:ae9 b.x<=1000000):
  p7 prog 178 #[vs] w λu n=>(B7 (n8 w) n 9 u (ab5 b)/\o6 w n):=by
 apply y5 [vs] func178 rfl;obtain⟨d,g,e,a,h⟩:=cX0 hv (n7 _);obtain⟨c,k,_⟩:=h.ar;obtain⟨t,i,l,_⟩:=c.ex_v;have f:=k g (n7 _);have m:=l g (n7 _);unfold ab5;cases hr:b.ref
 .rw[hr]at f;simp only[eF,simprocAttr,e,f,m];apply z6 (aG9 t b.x g i o);rintro u v ⟨p,j⟩;simp only[i4,simprocAttr];exact o8 results178 ⟨p.back a,a.trans j⟩
 .rw[hr]at f;obtain⟨u,v,q,r,s,_⟩:=cD2 b.name g (b7 a);simp only[eF,simprocAttr,e,f,q];exact o8 results178 ⟨r,a.trans s⟩
def dE9(w):∃h,(Instr.alloc 27 true (.tuple #[])).run prog w = .ok (.pointer (some ⟨w.heap.size,0,none⟩)) h/\o6 w h/\∀(e:World) (y:Vx),o6 h e ->
  ∃a,(Instr.storeAt 27 (.pointer (some ⟨w.heap.size,0,none⟩)) y).run prog e = .ok () a/\(Instr.loadAt 27 (.pointer (some ⟨w.heap.size,0,none⟩))).run prog a = .ok y a/\o6 w a:=by
 obtain⟨z,j,d⟩:∃z,I7 prog 27=some z/\z.cells.size=O7 prog 27:=⟨_,be2,by rw[R3];rfl⟩;have c:∀y:Vx,(A0.cells y).toArray.size=O7 prog 27:=λy=>by rw[R3];rfl
 have n:=(aE6 (P:=prog) (w:=w) (T:=27) j d (cs:=(A0.cells (⟨e0,0,0,e0⟩:Vx)).toArray) (c _) (λu g=>ad6 _ u (by simpa using g))).1;refine⟨_,n,o6.alloc _ _,λe y i=>?_⟩;have f:e.heap[w.heap.size]?=some (.cells z.cells 27 (0,0)):=(i.block _ dG id).trans (eH3 w _);obtain⟨a,k,l,m⟩:=ad2 (P:=prog) (T:=27) f j d (c y) (λu g=>ad6 y u (by simpa using g));exact⟨a,k,ad1 l aB7 aB8 av4 (c y).symm,t8.ext_of ((o6.alloc _ _).trans i) m λb f=>by rw[f];exact eE8 _⟩
def bz9{p}{s:St}{c}(a:aM4 p s c):(b9 p).callee s=p.procs[c]'a.lt:=by
 have e:(b9 p).s.pr s.proc=(c:Int):=a.pr;unfold Bk.callee;rw[e,O8 a.lt]
def dj8(gb T cs0 a p)(q:B9)(pl)(n:B9)(w:World)(hb:w.heap[gb]?=some (.cells cs0 T (0,0)))(aA:cs0[0]?=some (.pointer (some a)))(K:cs0[2]?=some (A4 q))(ha:At (n8 w) a (b9 p))(hr:E3 p)(hw:C1 p<=1000000)
  (aZ:pl=0\/∃j:Nat,pl=(j:Int)+1/\j<(i5 p).l.length) :
  p7 prog 149 #[.pointer (some ⟨gb,0,none⟩),pl,n] w λu y=>(u=((b9 p).giver q pl n)/\o6 w y):=by
 refine y5 [.pointer (some ⟨gb,0,none⟩),pl,n] func149 rfl ?_;obtain⟨w0,U,ab,v⟩:=dE9 w;have e:∀y,o6 w y->y.heap[gb]?=some (.cells cs0 T (0,0)):=λy hx=>(hx.block gb (eD5.1 hb).1 id).trans hb;have a0:Value.string {data:=#[]}=e0:=rfl;have a1:Value.string {data:=#[36,114,101,116]}=U0:=rfl;rcases eD2 (decide (pl=0))with h0|h0
 .have aS:=eD3 h0;simp only[eF,simprocAttr,U,h0];refine B3 (N9 gb T cs0 q 3 0 n w0 (e w0 ab) K) (λw1 C=>?_);obtain⟨w2,q1,q2,g⟩:=v w1 ⟨q,3,0,n⟩ C;simp only[i4,simprocAttr,q1];refine R4 results149 (ad:=⟨w.heap.size,0,none⟩) (by simp only[C9,simprocAttr]) q2 ?_;refine⟨?_,g⟩;unfold Bk.giver;rw[fi aS]
 have aG:=eD6 h0;obtain⟨j,rfl,W⟩:∃j:Nat,pl=(j:Int)+1/\j<(i5 p).l.length:=by
  rcases aZ with h|h
  .exact fj h aG
  .exact h
 have bl:=I3 hr.may;obtain⟨sh,vw,vd,_,vi,vo,has,bz,bu,_,bw,bx,a8,bd⟩:=ha.book rfl;obtain⟨vl,_,_,aK,_,_,aH,bb,_⟩:=has.sh;rw[K0]at aH;obtain⟨vg,vp,bv,aL,bC,be⟩:=aH.pg;have E:=b7 ab;have ar:=a8 w0 E;have au:=bb w0 E;have k0:(Instr.loadAt 87 (.pointer (some ⟨gb,0,none⟩))).run prog w0 = .ok a w0:=F9 (i:=0) (e w0 ab) aA av3;have aq:IntKind.i64.wrap ((j:Int)+1-1)=(j:Int):=by rw[N7 _ om];omega
 have M:=aK.inS (k:=j) W;have I:=aK.at_ (i:=j) (x:=(i5 p).l[j]) (eD1 W);have aM:A9.sz It=17:=rfl;rw[aM]at I;have L:=hr.fits _ (eE1 W);have aC:(i5 p).it ((j:Int)+1)=(i5 p).l[j]:=by
  unfold Sh.it;rw[show((j:Int)+1-1).toNat=j by omega,getD,eD1 W];rfl
 have s:(b9 p).giver q ((j:Int)+1) n=if((i5 p).l[j]).s.kind≠4 then⟨q,2,(j:Int)+1,e0⟩else if((i5 p).l[j]).s.name=n then⟨q,6,(j:Int)+1,U0⟩
   else match(((i5 p).l[j]).s.args.zip ((b9 p).callee ((i5 p).l[j]).s).params).find? λx=>x.1.ref&&decide (x.1.name=n)with
    | some x=>⟨q,6,(j:Int)+1,x.2.name⟩
    | none=>⟨q,6,(j:Int)+1,n⟩:=by
  have hs:(b9 p).s=i5 p:=rfl;unfold Bk.giver;rw[fh aG,hs,aC];rfl
 generalize(i5 p).l[j]=it at I L s;obtain⟨az,_,_⟩:=I.it;obtain⟨sv,Z,bc,_⟩:=az.st_v;have av:=bc w0 E;obtain⟨d,wz,w1,G,N,C,ax⟩:=bx8 (Z.mono E) (n7 _);obtain⟨_,va,_,_,_,aa,_,_,_,a9,_⟩:=ax.st;obtain⟨bg,aJ,_,aO⟩:=ax.st_v;have l1:=a9 w1 (n7 _);have F:=ab.trans C;rcases eD2 (decide (it.s.kind=4))with h4|h4;rotate_left
 .have e4:=eD6 h4;simp only[i4,n9,A6,simprocAttr,U,h0,k0,ar,au,aq,M,av,G,N,l1,h4,a0];refine B3 (N9 gb T cs0 q 2 ((j:Int)+1) e0 w1 (e w1 F) K) (λw2 g=>?_);obtain⟨l,q1,q2,D⟩:=v w2 ⟨q,2,(j:Int)+1,e0⟩ (C.trans g);simp only[i4,simprocAttr,q1];refine R4 results149 (ad:=⟨w.heap.size,0,none⟩) (by simp only[C9,simprocAttr]) q2 ?_;refine⟨?_,D⟩;rw[s,fi e4]
 have e4:=eD3 h4;rw[fh (by simpa using e4)]at s;rcases eD2 (decide (it.s.name=n))with h5|h5
 .have e5:=eD3 h5;simp only[i4,n9,A6,simprocAttr,U,h0,k0,ar,au,aq,M,av,G,N,l1,h4,h5,a1];refine B3 (N9 gb T cs0 q 6 ((j:Int)+1) U0 w1 (e w1 F) K) (λw2 g=>?_);obtain⟨l,q1,q2,D⟩:=v w2 ⟨q,6,(j:Int)+1,U0⟩ (C.trans g);simp only[i4,simprocAttr,q1];refine R4 results149 (ad:=⟨w.heap.size,0,none⟩) (by simp only[C9,simprocAttr]) q2 ?_;refine⟨?_,D⟩;rw[s,fi e5]
 have e5:=eD6 h5;obtain⟨c,hc⟩:=aa7 (L e4);rw[fh e5,bz9 hc]at s;have aD:=hc.len;have aI:=R9 hr.may hc.lt;have af:=aL.at_ (i:=c) (x:=p.procs[c]'hc.lt) (eD1 hc.lt);have aB:=aL.inS (k:=c) hc.lt;have a5:A9.sz Pr=5:=rfl;rw[a5]at af;obtain⟨bI,_,_,_,Q,_,_,_,_,bf⟩:=af.pr;have aX:=hc.pr;generalize(p.procs[c]'hc.lt).params=pas at s aD aI Q;simp only[i4,n9,A6,simprocAttr,U,h0,k0,ar,au,aq,M,av,G,N,l1,h4,h5,aa.isS,aa.vlen];refine B4 [0,1,2,6,7,44,45] (σ:=Nat) (λk f y=>f 46=k/\k<=it.s.args.length/\(∀m (hm:m<it.s.args.length),m<k->(it.s.args[m].ref&&decide (it.s.args[m].name=n))=false)/\o6 w1 y) (λk=>it.s.args.length-k) 0 ?_ ?_
 .exact⟨rfl,eE2 _,λm _ h=>om,t8.refl _⟩
 rintro k f w2 ⟨g0,g1,g2,g6,g7,an,aV,_⟩ ⟨S,bq,Y,g⟩;simp only[eF,simprocAttr,S,aV];refine A7 (λaE=>?_) ?_;rotate_left
 .rintro rfl;simp only[i4,simprocAttr,g0,g1,g2];refine B3 (N9 gb T cs0 q 6 ((j:Int)+1) n w2 (e w2 (F.trans g)) K) (λl D=>?_);obtain⟨w4,q1,q2,R⟩:=v l ⟨q,6,(j:Int)+1,n⟩ (C.trans (g.trans D));simp only[i4,simprocAttr,g6,q1];refine R4 results149 (ad:=⟨w.heap.size,0,none⟩) (by simp only[C9,simprocAttr];exact g6) q2 ?_;refine⟨?_,R⟩;rw[s,eL9.2 λz hz=>?_];obtain⟨m,hm⟩:=eM7.1 hz;rw[getElem?_zip_eq_some]at hm;obtain⟨aF,aY⟩:=eD8.1 hm.1;have:=Y m aF aF;rw[aY]at this;simp[this]
 have ao:=aa.inS aE;obtain⟨sv,Z,X⟩:=G1 (P:=prog) (t:=125) aa (b7 g) (eD1 aE) aM8 aM9 aK0 aa3;rw[aa3]at X;have bn:=Y;have A:∀(b:Bool),(it.s.args[k].ref&&decide (it.s.args[k].name=n))=b->(b=false->∀m (hm:m<it.s.args.length),m<k+1->(it.s.args[m].ref&&decide (it.s.args[m].name=n))=false):=λb hb aW m hm br=>by
  rcases eH4 m k with h|h
  .exact Y m hm h
  .obtain rfl:m=k:=om
   rw[hb,aW]
 have aj:k<pas.length:=om
 have B:(it.s.args[k].ref&&decide (it.s.args[k].name=n))=true->(it.s.args.zip pas).find? (λx=>x.1.ref&&decide (x.1.name=n))=some (it.s.args[k],pas[k]):=λht=>by
  rw[eM8];refine⟨ht,k,by rw[length_zip];omega,by rw[getElem_zip],λm hm=>?_⟩;rw[getElem_zip];have:=Y m om hm;simp only[this];rfl
 have J:=Q.at_ (i:=k) (x:=pas[k]) (eD1 aj);have ap:=Q.inS (k:=k) aj;have a4:A9.sz Pa=2:=rfl;rw[a4]at J;obtain⟨_,ak⟩:=J.pa;generalize pas[k]=pa at B ak;generalize it.s.args[k]=ag at Z A B;obtain⟨d3,bK,l,H,O,D,ay⟩:=bi1 (Z.mono (b7 g)) (n7 _);obtain⟨_,ba,_⟩:=ay.ar;have l3:=ba l (n7 _);have o:=g.trans D;cases hrf:ag.ref
 .rw[hrf]at l3;simp only[i4,n9,A6,simprocAttr,S,an,ao,X,H,O,l3];exact U5 (k+1) ⟨A false (by rw[hrf];rfl) rfl,o⟩
 rw[hrf]at l3;rcases eD2 (decide (ag.name=n))with h6|h6;rotate_left
 .simp only[i4,n9,A6,simprocAttr,S,g2,an,ao,X,H,O,l3,h6];exact U5 (k+1) ⟨A false (by rw[hrf,h6];rfl) rfl,o⟩
 have r:=(F.trans o).trans (o6.drew l);have V:∀y,o6 l.drew y->E6 (n8 w) (n8 y):=λy h=>b7 (r.trans h);have t0:J4 prog (λy=>o6 l.drew y) 87 ⟨gb,0,none⟩ a:=sdx λy h=>F9 (i:=0) (e y (r.trans h)) aA av3;have t3:=bf (o6 l.drew) l.drew (t8.refl _) V;have t4:=ak (o6 l.drew) l.drew (t8.refl _) V;have t5:=aO (o6 l.drew) l.drew (t8.refl _) λy h=>b7 ((o.trans (o6.drew l)).trans h);simp only[i4,n9,A6,simprocAttr,S,g2,an,ao,X,H,O,l3,h6];refine C4 (o6 l.drew) 26 (A8 [0,1,2,3,4,5,6,7,8,9,10,11,12,13,14,15,16,17,22,18,19,20,21,23,24,25]) ?_;simp only[D7,A8,i4,n9,simprocAttr,g0,g1,g7,t0,bd (o6 l.drew) l.drew (t8.refl _) V,be (o6 l.drew) l.drew (t8.refl _) V,t5];refine B3 (ao7 a (b9 p) p bg it.s l.drew (ha.mono (b7 r)) rfl hr.may (aJ.mono (b7 (o.trans (o6.drew l))))) (λw4 R=>⟨R,?_⟩);rw[aX];simp only[D7,i4,n9,A6,simprocAttr,t3,t4,aB,ap];refine B3 (N9 gb T cs0 q 6 ((j:Int)+1) pa.name w4 (e w4 (r.trans R)) K) (λw5 a2=>?_);obtain⟨w6,q1,q2,a3⟩:=v w5 ⟨q,6,(j:Int)+1,pa.name⟩ (C.trans (((o.trans (o6.drew l)).trans R).trans a2));simp only[i4,simprocAttr,g6,q1];refine R4 results149 (ad:=⟨w.heap.size,0,none⟩) (by simp only[C9,simprocAttr];exact g6) q2 ?_;refine⟨?_,a3⟩;rw[s,B (by rw[hrf,h6];rfl)]
def dB5(y:Vx)(w){h}(hw:E6 h (n8 w)):∃v a,(Instr.buildSlice 35 1 #[(0,y)]).run prog w = .ok v a/\B7 h a 27 v [y]/\o6 w a/\(∀b,B0 v b->w.heap.size<=b):=
 lit (P:=prog) (w:=w) (h:=h) (α:=Vx) (xs:=[y]) (ys:=[y]) (parts:=#[(0,y)]) (n:=1) aD8 rfl (aj3.2 rfl) (λx c=>by rw[eE7.1 c];rfl) rfl rfl dG dG hw
def bC4{h w v}{l:List Vx}(c:B7 h w 27 v l)(y:Vx)(d:l.length<=1000000)(hw:E6 h (n8 w)){e}:
  (Instr.buildSlice 35 1 #[(0,y)]).run prog w = .ok (.slice (some ⟨w.heap.size,0,none⟩) 1 1) (w.alloc (.cells (A0.cells y).toArray 27)) /\
  ∃a b,(Builtin.append_ #[35,35] e #[v,.slice (some ⟨w.heap.size,0,none⟩) 1 1]).run prog (w.alloc (.cells (A0.cells y).toArray 27)) = .ok a b/\B7 h b 27 a (l++[y])/\t8 (B0 v) w b/\F4 w v a:=by
 have:=push (P:=prog) (e:=e) aD8 rfl c (x:=y) (y:=y) ((A0.iff_ _ _ _).2 rfl) om om hw;exact this
def cu3(s:St):∀a∈s.args,ae9 a.x<=Z6 s:=by
 cases s;intro a h;have:=bi4 h;unfold aD2 at this;simp only[St.args]at this;simp only[Z6];omega
def cT8(gb T cs0 a p)(q:B9)(pl)(n:B9)(w:World)(hb:w.heap[gb]?=some (.cells cs0 T (0,0)))(S:cs0[0]?=some (.pointer (some a)))(U:cs0[2]?=some (A4 q))(ha:At (n8 w) a (b9 p))(hr:E3 p)(hw:C1 p<=1000000)
  (be:pl = -1\/∃j:Nat,pl=(j:Int)+1/\j<(i5 p).l.length) :
  p7 prog 150 #[.pointer (some ⟨gb,0,none⟩),pl,n] w λu C=>(B7 (n8 w) C 27 u ((b9 p).takers q pl n)/\o6 w C):=by
 refine y5 [.pointer (some ⟨gb,0,none⟩),pl,n] func150 rfl ?_;have m:∀C,o6 w C->C.heap[gb]?=some (.cells cs0 T (0,0)):=λC hx=>(hx.block gb (eD5.1 hb).1 id).trans hb;have bg:Value.string {data:=#[]}=e0:=rfl;rcases eD2 (decide (pl = -1))with h0|h0
 .have a4:=eD3 h0;simp only[eF,simprocAttr,h0];refine B3 (N9 gb T cs0 q 4 0 n w hb U) (λv g=>?_);obtain⟨u,w2,q1,q2,q3,_⟩:=dB5 ⟨q,4,0,n⟩ v (b7 g);simp only[i4,simprocAttr,q1];refine o8 results150 ⟨?_,g.trans q3⟩;unfold Bk.takers;rw[fi a4];exact q2
 have aH:=eD6 h0;obtain⟨j,rfl,V⟩:∃j:Nat,pl=(j:Int)+1/\j<(i5 p).l.length:=by
  rcases be with h|h
  .exact fj h aH
  .exact h
 have bB:=I3 hr.may;obtain⟨sh,vw,vd,_,vi,vo,has,bL,bI,_,aN,bK,ap,bT⟩:=ha.book rfl;obtain⟨vl,_,_,aO,_,_,aI,bn,_⟩:=has.sh;rw[K0]at aI;obtain⟨vg,vp,bJ,aP,bl,bU⟩:=aI.pg;have aU:=ap w (n7 _);have aX:=bn w (n7 _);have k0:(Instr.loadAt 87 (.pointer (some ⟨gb,0,none⟩))).run prog w = .ok a w:=F9 (i:=0) hb S av3;have aQ:IntKind.i64.wrap ((j:Int)+1-1)=(j:Int):=by rw[N7 _ om];omega
 have ad:=aO.inS (k:=j) V;have F:=aO.at_ (i:=j) (x:=(i5 p).l[j]) (eD1 V);have aT:A9.sz It=17:=rfl;rw[aT]at F;have af:=eE1 V;have I:=hr.fits _ af;have aj:=ah2 p hw _ af;have aC:(i5 p).it ((j:Int)+1)=(i5 p).l[j]:=by
  unfold Sh.it;rw[show((j:Int)+1-1).toNat=j by omega,getD,eD1 V];rfl
 have b:(b9 p).takers q ((j:Int)+1) n=if((i5 p).l[j]).s.kind≠4 then[⟨q,2,(j:Int)+1,e0⟩]
   else(((((i5 p).l[j]).s.args.zip ((b9 p).callee ((i5 p).l[j]).s).params).filter λx=>(ab5 x.1).contains n).map λx=>(⟨q,5,(j:Int)+1,x.2.name⟩:Vx)) ++
    if(W1 p n&&(J8 (am8 p) ((i5 p).pr ((i5 p).l[j]).s.proc)).contains n)=true then[(⟨q,5,(j:Int)+1,n⟩:Vx)]else[]:=by
  have hs:(b9 p).s=i5 p:=rfl;have hi:(b9 p).ins=am8 p:=rfl;unfold Bk.takers;rw[fh aH,hs,hi,aC,K0]
 generalize(i5 p).l[j]=it at F I b aj;have aS:∀Q∈it.s.args,ae9 Q.x<=1000000:=λQ h=>eD7 (cu3 it.s Q h) aj;obtain⟨ay,_,_⟩:=F.it;obtain⟨sv,W,bo,_⟩:=ay.st_v;have aY:=bo w (n7 _);obtain⟨d,wz,v,ab,ah,g,aw⟩:=bx8 W (n7 _);obtain⟨_,va,_,_,_,X,_,_,_,aV,_⟩:=aw.st;obtain⟨bw,aM,_,aZ⟩:=aw.st_v;have l1:=aV v (n7 _);rcases eD2 (decide (it.s.kind=4))with h4|h4;rotate_left
 .have e4:=eD6 h4;simp only[i4,n9,A6,simprocAttr,h0,k0,aU,aX,aQ,ad,aY,ab,ah,l1,h4,bg];refine B3 (N9 gb T cs0 q 2 ((j:Int)+1) e0 v (m v g) U) (λw2 Y=>?_);obtain⟨u,w3,q1,q2,q3,_⟩:=dB5 ⟨q,2,(j:Int)+1,e0⟩ w2 (b7 (g.trans Y));simp only[i4,simprocAttr,q1];refine o8 results150 ⟨?_,(g.trans Y).trans q3⟩;rw[b,fi e4];exact q2
 have e4:=eD3 h4;obtain⟨c,O⟩:=aa7 (I e4);rw[fh (by simpa using e4),bz9 O,O.pr]at b;have aE:=O.len;have aJ:=R9 hr.may O.lt;have ac:=aP.at_ (i:=c) (x:=p.procs[c]'O.lt) (eD1 O.lt);have aB:=aP.inS (k:=c) O.lt;have bj:A9.sz Pr=5:=rfl;rw[bj]at ac;obtain⟨b0,_,_,_,L,_,_,_,bm,_⟩:=ac.pr;have bc:=O.pr;generalize(p.procs[c]'O.lt).params=pas at b aE aJ L;obtain⟨K,J,az⟩:=(bf9 hr hw).row O.lt;generalize J8 (am8 p) (c:Int)=aq at K J az b;obtain⟨ui,bh,a9⟩:=R.row aN (show(b9 p).ins[c]?=some aq from K);have aA:=aN.inS (k:=c) (show c<(am8 p).length from(eD8.1 K).1);have a7:=X.isS;have bd:=X.vlen;have al:=g.trans (o6.drew v);have t0:J4 prog (λC=>o6 v.drew C) 87 ⟨gb,0,none⟩ a:=sdx λC h=>F9 (i:=0) (m C (al.trans h)) S av3;have t5:=aZ (o6 v.drew) v.drew (t8.refl _) λC h=>b7 ((o6.drew v).trans h);simp only[i4,n9,A6,simprocAttr,h0,k0,aU,aX,aQ,ad,aY,ab,ah,l1,h4];refine C4 (o6 v.drew) 5 (A8 [0,1,2,3,4]) ?_;simp only[D7,A8,i4,n9,simprocAttr,t0,t5];refine B3 (ao7 a (b9 p) p bw it.s v.drew (ha.mono (b7 al)) rfl hr.may (aM.mono (b7 (o6.drew v)))) (λw2 Y=>?_);rw[bc];have ak:=(o6.drew v).trans Y;have bO:(it.s.args.zip pas).length=it.s.args.length:=by rw[length_zip];omega
 simp only[eF,simprocAttr,aV w2 (b7 ak),a7,bd];refine B4 [0,1,2,7,9,47,48] (σ:=Nat×Value) (λt f C=>f 49=t.1/\f 8=t.2/\t.1<=it.s.args.length/\B7 (n8 v) C 27 t.2 ((((it.s.args.zip pas).take t.1).filter λx=>(ab5 x.1).contains n).map λx=>(⟨q,5,(j:Int)+1,x.2.name⟩:Vx))/\o6 v C) (λt=>it.s.args.length-t.1) (0,()) ?_ ?_
 .exact⟨rfl,rfl,eE2 _,B7.nil _ _ _,ak⟩
 rintro⟨k,u⟩ f w3 ⟨g0,g1,g2,g7,g9,a5,a6,_⟩ ⟨E,h8,bb,l,D⟩;simp only at E h8 bb l;have H:((((it.s.args.zip pas).take k).filter λx=>(ab5 x.1).contains n).map λx=>(⟨q,5,(j:Int)+1,x.2.name⟩:Vx)).length<=k:=by
  rw[eE3];apply eD7 (eG0 _ _);rw[eE5];omega
 have s:=g.trans D;simp only[eF,simprocAttr,E,a6];refine A7 (λao=>?_) ?_
 .have ae:k<pas.length:=om
  have aG:k<(it.s.args.zip pas).length:=om
  have ba:=X.inS ao;obtain⟨sv,W,aD⟩:=G1 (P:=prog) (t:=125) X (b7 D) (eD1 ao) aM8 aM9 aK0 aa3;rw[aa3]at aD;have o:=at7 (λx:Ar×Pa=>(ab5 x.1).contains n) (λx=>(⟨q,5,(j:Int)+1,x.2.name⟩:Vx)) _ aG;rw[getElem_zip]at o;simp only at o;have aR:=aS _ (eE1 ao);have G:=L.at_ (i:=k) (x:=pas[k]) (eD1 ae);have an:=L.inS (k:=k) ae;have bi:A9.sz Pa=2:=rfl;rw[bi]at G;obtain⟨am,_⟩:=G.pa;generalize pas[k]=pa at o am;generalize it.s.args[k]=Q at W o aR;generalize bN:(((it.s.args.zip pas).take k).filter λx=>(ab5 x.1).contains n).map (λx=>(⟨q,5,(j:Int)+1,x.2.name⟩:Vx))=xs at l o H;obtain⟨d4,b1,w4,av,aL,r,ax⟩:=bi1 (W.mono (b7 D)) (n7 _);obtain⟨sa,bf,aW,_⟩:=ax.ar_v;have l4:=aW w4 (n7 _);have aK:(ab5 Q).length<=1000000000:=by
   unfold ab5;split
   .simp
   .have:=aj7 Q.x;omega
  simp only[i4,n9,A6,simprocAttr,E,a5,ba,aD,av,aL,l4];apply z6 (bX5 sa Q w4 bf aR);rintro us N ⟨hos,hx5⟩;have B:=(D.trans r).trans hx5;have M:=g.trans B;simp only[i4,simprocAttr,g2];apply F6 (X0 us (ab5 Q) n N (hos.rw_ (b7 hx5)) aK);rcases eD2 ((ab5 Q).contains n)with h6|h6;rotate_left
  .rw[h6,fh dG,eG5]at o;simp only[eF,simprocAttr,h6,h8,E];refine nx4 (k+1,u) ⟨?_,B⟩;simp only[];rw[o];exact(l.ext r).ext hx5
  rw[h6,fi rfl]at o;have z:=b7 M;have k5:(Instr.loadAt 87 (.pointer (some ⟨gb,0,none⟩))).run prog N = .ok a N:=F9 (i:=0) (m N M) S av3;simp only[i4,n9,A6,simprocAttr,h6,h8,g0,g1,g9,k5,ap N z,bl N z,aB,bm N z,an,am N z];refine B3 (N9 gb T cs0 q 5 ((j:Int)+1) pa.name N (m N M) U) (λw6 Z=>?_);obtain⟨p1,u7,w7,p2,p3,p4,p5⟩:=bC4 (e:=35) (((l.ext r).ext hx5).ext Z) ⟨q,5,(j:Int)+1,pa.name⟩ om (b7 (B.trans Z));simp only[eF,simprocAttr,p1,p2,E];refine nx4 (k+1,u7) ⟨?_,(((l.ext r).ext hx5).ext Z).ext2 (B.trans Z) p4⟩;simp only[];rw[o];exact p3
 rintro rfl;rw[eI0 om]at l H;generalize hA:((it.s.args.zip pas).filter λx=>(ab5 x.1).contains n).map (λx=>(⟨q,5,(j:Int)+1,x.2.name⟩:Vx))=A at b l H;have y:=b7 s;have k3:(Instr.loadAt 87 (.pointer (some ⟨gb,0,none⟩))).run prog w3 = .ok a w3:=F9 (i:=0) (m w3 s) S av3;have bk:=ap w3 y;have aF:=M0 (P:=prog) (t:=22) a9 y ab6;simp only[eF,simprocAttr,g0,g2,k3];apply F6 (bl1 a (b9 p) p n w3 (ha.mono y) rfl hr.may);rcases eD2 (W1 p n)with h7|h7;rotate_left
 .rw[h7,Bool.false_and,fh dG,eG5]at b;simp only[i4,simprocAttr,h7,h8];apply o8 results150;simp only[C9,simprocAttr];rw[b];exact⟨l.backN g,s⟩
 rw[h7,eJ4]at b;simp only[i4,n9,A6,simprocAttr,h7,g0,g2,g9,k3,bk,aA,aF];apply F6 (aq8 ui aq n w3 (A9.mono y bh) om J);rcases eD2 (aq.contains n)with h8'|h8';rotate_left
 .rw[h8',fh dG,eG5]at b;simp only[i4,simprocAttr,h8,h8'];apply o8 results150;simp only[C9,simprocAttr];rw[b];exact⟨l.backN g,s⟩
 rw[h8',fi rfl]at b;simp only[i4,simprocAttr,h8,h8',g0,g1,g2];refine B3 (N9 gb T cs0 q 5 ((j:Int)+1) n w3 (m w3 s) U) (λw4 r=>?_);obtain⟨p1,u5,N,p2,p3,p4,p5⟩:=bC4 (e:=35) (l.ext r) ⟨q,5,(j:Int)+1,n⟩ om (b7 (D.trans r));simp only[i4,simprocAttr,p1,p2];apply o8 results150;simp only[C9,simprocAttr];rw[b];exact⟨p3.backN g,g.trans ((l.ext r).ext2 (D.trans r) p4)⟩
def bG0{α:Type}[DecidableEq α]:∀(l:List α),L0 l=at5 (λa b=>decide (a=b)) l
 | []=>rfl
 | [x]=>rfl
 | x::y::l=>by
  have d:=bG0 (y::l);rw[L0,d];simp only[at5,at6];by_cases h:x=y
  .subst h;simp
  .have c:¬y=x:=λe=>h e.symm;simp[h,c]
def bK8(a b:Eg):Bool:=decide (a=b)
def cM9{h w v}{xs:List Eg}(n:B7 h w 54 v xs)(hl:xs.length<=1000000000)(hh:E6 h (n8 w)):
  p7 prog 113 #[v] w λu z=>(B7 h z 54 u (L0 xs)/\t8 (B0 v) w z/\∀b,B0 u b->B0 v b):=by
 apply y5 [v] func113 rfl;rw[bG0];have aq:(λa b:Eg=>decide (a=b))=bK8:=rfl;rw[aq];have W:=n.isS;have hn:=n.vlen;have a4:=n.vcap;have U:A9.sz Eg=9:=rfl;rcases eD2 (decide ((xs.length:Int)<2))with H|H
 .simp only[eF,simprocAttr,W,hn,H];apply o8 results113;simp only[C9,simprocAttr];have D:xs.length<2:=by have:=eD3 H;omega
  have:=ao9 bK8 xs xs.length (eE8 _) λj J h1 H=>om
  rw[eE4]at this;exact⟨by rw[this];exact n,t8.refl _,λb X=>X⟩
 have a0:2<=xs.length:=by have:=eD6 H;omega
 simp only[eF,simprocAttr,W,hn,H];refine B4 [0] (σ:=Nat) (λi f z=>f 3=i/\1<=i/\i<=xs.length/\(∀j (J:j<xs.length),1<=j->j<i->bK8 xs[j] (xs[j-1]' om)=false)/\o6 w z) (λi=>xs.length-i) 1 ?_ ?_
 .exact⟨rfl,dG,om,λj _ h1 H=>om,t8.refl _⟩
 rintro i f G ⟨e0,_⟩ ⟨h3,aZ,a2,Q,r⟩;simp only[eF,simprocAttr,h3,e0,W,hn];refine A7 (λD=>?_) ?_;rotate_left
 .rintro rfl;simp only[i4,simprocAttr,e0];apply o8 results113;simp only[C9,simprocAttr];have:=ao9 bK8 xs xs.length (eE8 _) Q;rw[eE4]at this;exact⟨by rw[this];exact n.ext r,t8.up r,λb X=>X⟩
 have K:i-1<xs.length:=om
 have hR:R (n8 G) v xs:=(n.ext r).rw_ (A3 hh (b7 r));have aB:=n.inS D;have ab:=n.inS K;have aJ:IntKind.i64.wrap ((i:Int)-1)=((i-1:Nat):Int):=by rw[N7 _ om];omega
 obtain⟨vx,aH,_,sx⟩:=(hR.at_ (eD1 D)).eg_v;obtain⟨vy,aI,_,sy⟩:=(hR.at_ (eD1 K)).eg_v;obtain rfl:=aH.N;obtain rfl:=aI.N;have s1:=sx (o6 G.drew) G.drew (t8.refl _) λz h=>b7 ((o6.drew G).trans h);have s2:=sy (o6 G.drew) G.drew (t8.refl _) λz h=>b7 ((o6.drew G).trans h);rw[U]at s1 s2;have q:=r.trans (o6.drew G);have S:=λw0 a b=>eb3 w0 a b xs[i] xs[i-1];have aE:decide (xs[i]=xs[i-1])=bK8 xs[i] xs[i-1]:=rfl;rw[aE]at S;simp only[i4,simprocAttr];refine C4 (o6 G.drew) 9 (A8 [0,1,2,3,4,5,6,7,8]) ?_;simp only[D7,A8,i4,n9,A6,simprocAttr,h3,e0,aB,ab,aJ,s1,s2];rcases eD2 (bK8 xs[i] xs[i-1])with hq|hq;rotate_left
 .simp only[eF,simprocAttr,T8,A0.cells,S,hq,h3];refine nx4 (i+1) ⟨λj J h1 H=>?_,q⟩;rcases eH4 j i with h|h
  .exact Q j J h1 h
  .obtain rfl:j=i:=om
   exact hq
 have c1:decide ((i:Int)<=(xs.length:Int))=true:=by simp;omega
 have c2:decide ((xs.length:Int)<=(vcap v:Int))=true:=by simp;omega
 have hd:∀k:Nat,isS (reS v k xs.length 9)=true/\vlen (reS v k xs.length 9)=xs.length-k:=λk=>by
  rcases n with⟨rfl,rfl⟩|⟨b,c,aY,rfl,_⟩
  .exact⟨rfl,rfl⟩
  .exact⟨rfl,rfl⟩
 obtain⟨au,aD⟩:=hd i;have a3:((xs.length-i:Nat):Int)=(xs.length:Int)-i:=om
 simp only[i4,n9,G7,simprocAttr,T8,A0.cells,S,hq,h3,e0,W,hn,c1,c2];refine B4 [0,4] (σ:=Nat×Nat×List Eg) (λs f z=>f 5=s.1/\f 3=s.2.1/\1<=s.1/\i+s.1<=xs.length/\s.2.1+1<=i+s.1/\s.2.2.length=xs.length/\B7 h z 54 v s.2.2/\(∀j (J:j<xs.length) (M:j<s.2.2.length),i+s.1<=j+1->s.2.2[j]=xs[j])/\s.2.2.take s.2.1=at5 bK8 (xs.take (i+s.1))/\t8 (B0 v) w z) (λs=>xs.length-(i+s.1)) (1,i,xs) ?_ ?_
 .simp only[C9,simprocAttr];refine⟨tt,tt,tt,om,om,tt,n.ext q,λj _ _ _=>tt,?_,t8.up q⟩;rw[aH5 bK8 xs D om,fi hq,ao9 bK8 xs i om Q]
 rintro⟨m,c,A⟩ f4 l ⟨g0,g6,_⟩ ⟨V,B,ap,aA,ax,y,o,g,e,N⟩;simp only at V B ap aA ax y o g e;rw[e0]at g0;have az:E6 h (n8 l):=G8 hh N λb X=>n.free X;have ae:decide ((m:Int)<((xs.length-i:Nat):Int))=decide (i+m<xs.length):=by rw[eI5];omega
 simp only[eF,simprocAttr,V,g6,au,aD,ae];refine B2 (λhc=>?_) (λhc=>?_)
 .have E:i+m<xs.length:=eD3 hc;have aC:i+m-1<xs.length:=om
  have ar:R (n8 l) v A:=o.rw_ az;have d:=cw0 ar (show i<=xs.length by omega) (show xs.length<=A.length by omega);rw[U]at d;have aL:(A.take xs.length).drop i=A.drop i:=by rw[<-y,eE4]
  rw[aL]at d;have Z:(A.drop i)[m]?=some xs[i+m]:=by
   rw[eN3,eD1 om,g (i+m) E om om]
  have aa:(A.drop i)[m-1]?=some xs[i+m-1]:=by
   rw[eN3,show i+(m-1)=i+m-1 by omega,eD1 om,g (i+m-1) aC om om]
  have I:=d.inS (eD8.1 Z).1;have ac:=d.inS (eD8.1 aa).1;have aK:IntKind.i64.wrap ((m:Int)-1)=((m-1:Nat):Int):=by rw[N7 _ om];omega
  obtain⟨ux,aF,lx,tx⟩:=(d.at_ Z).eg_v;obtain⟨uy,aG,_,ty⟩:=(d.at_ aa).eg_v;obtain rfl:=aF.N;obtain rfl:=aG.N;have t1:=tx (o6 l.drew) l.drew (t8.refl _) λz h=>b7 ((o6.drew l).trans h);have t2:=ty (o6 l.drew) l.drew (t8.refl _) λz h=>b7 ((o6.drew l).trans h);rw[U]at t1 t2 lx;have p:=λw0 a b=>ed1 w0 a b xs[i+m] xs[i+m-1];have aj:decide (xs[i+m]=xs[i+m-1])=bK8 xs[i+m] xs[i+m-1]:=rfl;rw[aj]at p;simp only[i4,simprocAttr];refine C4 (o6 l.drew) 9 (A8 [0,1,2,3,4,5,6,7,8]) ?_;simp only[D7,A8,i4,n9,A6,simprocAttr,V,g6,I,ac,aK,t1,t2];have x:=o6.drew l;have ah:=o.ext x;have af:t8 (B0 v) w l.drew:=N.chain (t8.up x) λ_ _ h=>h;have C:=aH5 bK8 xs (k:=i+m) E om;rcases eD2 (bK8 xs[i+m] xs[i+m-1])with hq4|hq4
  .rw[fi hq4]at C;simp only[eF,simprocAttr,T8,A0.cells,p,hq4,V];refine nx2 (m+1,c,A) ⟨B,so,so,so,y,ah,λj J M h=>g j J M (by simp only at h;omega),?_,af⟩;simp only[];rw[e,<-C,eO4]
  .rw[fh (by rw[hq4];simp)]at C;have L:c<A.length:=om
   have ak:=lx l.drew (b7 x);obtain⟨w6,T,F,O⟩:=bn4 (P:=prog) (t:=54) ah bk6 aw4 L xs[i+m];rw[U]at T;have ad:=o.inS L;simp only[A0.cells]at ak T;simp only[i4,n9,A6,simprocAttr,T8,A0.cells,p,hq4,B,g0,g6,V,I,ad,ak,T];refine⟨(m+1,c+1,A.set c xs[i+m]),so,by simp only[];rw[I9 m],by simp only[];rw[I9 c],so,so,so,by simp only[eK6];exact y,F,λj J M h=>?_,?_,af.chain O λ_ _ h=>h⟩
   .simp only at h ⊢;rw[getElem_set_ne om];exact g j J om om
   .simp only[];have ay:c<(A.set c xs[i+m]).length:=by simpa using L
    rw[eD9 ay,getElem_set_self,take_set_of_le (eE8 _),e,<-C,eO4]
 .have E:i+m=xs.length:=by have:=eD6 hc;omega
  rw[E,eE4]at e;have aw:c<A.length:=om
  have c3:decide ((c:Int)<=(xs.length:Int))=true:=by simp;omega
  have c4:decide ((c:Int)<=(vcap v:Int))=true:=by simp;omega
  obtain⟨w6,T,F,O,Y⟩:=bC3 (P:=prog) (t:=49) (ty:=0) o rfl dc9 rfl (by simp[Value.cells,Value.oneCell']) aw;rw[y,U]at T;rw[U]at F Y;simp only[i4,n9,G7,simprocAttr,bU6,B,g0,W,hn,c2,c3,c4,T];exact o8 results113 ⟨by rw[<-e];exact F,N.chain O λ_ _ h=>h,Y⟩
def aR3{h w v}{xs:List Eg}(j:B7 h w 54 v xs)(i:xs.length<=1000000000)(o:E6 h (n8 w)):
  p7 prog 72 #[v] w λu k=>(B7 h k 54 u (ac6 xs)/\t8 (B0 v) w k/\∀b,B0 u b->B0 v b):=by
 apply y5 [v] func72 rfl;simp only[eF,simprocAttr];apply z6 (cH6 j i λa _ b _ l m=>dw8 (dW0.eq0 l m));rintro _ p ⟨f,c⟩;simp only[i4,simprocAttr];apply z6 (cM9 f (by rw[(H8 _ _).length_eq];exact i) (G8 o c λb n=>j.free n));rintro u q ⟨g,e,d⟩;simp only[i4,simprocAttr];exact o8 results72 ⟨g,c.trans e,d⟩
def dR1{w c d:World}(f:w.heap.size<c.heap.size){α:Type}[A9 α][A0 α]{T u}{l:List α}(a:B7 (n8 c) d T u l):R (D9 d (nP w.heap.size ())) u l:=
 a.flatRN λb e=>E9 λh=>by
  have:=D4 (a.free e);rcases h with h|h|h|h
  .omega
  .exact fj h E7
  .exact fj h E7
  .exact h.elim
def bw8(q:B9)(v:Vx):(K6 q v).length<=1:=by
 unfold K6;split
 .simp
 .split<;>simp
def dW8(w)(y:Vx):∃a,(Instr.alloc 27 true (.tuple #[])).run prog w = .ok (.pointer (some ⟨w.heap.size,0,none⟩)) a /\
  (Instr.storeAt 27 (.pointer (some ⟨w.heap.size,0,none⟩)) y).run prog a = .ok () (w.alloc (.cells (A0.cells y).toArray 27)):=by
 have h:=aE6 (P:=prog) (w:=w) (T:=27) be2 rfl (cs:=(A0.cells y).toArray) (by rw[R3];rfl) (λu b=>ad6 y u (by simpa using b));exact⟨_,h.1,h.2⟩
def eq2{w:World}{c}{y:Vx}(d:w.heap[c]?=some (.cells (A0.cells y).toArray 27 (0,0)))(z:Vx):∃a,(Instr.storeAt 27 (.pointer (some ⟨c,0,none⟩)) z).run prog w = .ok () a/\a.heap[c]?=some (.cells (A0.cells z).toArray 27 (0,0))/\t8 (λb=>b=c) w a:=
 ad2 (P:=prog) (T:=27) d be2 (by rw[R3];rfl) (by rw[R3];rfl) (λu e=>ad6 z u (by simpa using e))
def el7{w:World}{c}{y:Vx}(a:w.heap[c]?=some (.cells (A0.cells y).toArray 27 (0,0))):(Instr.loadAt 27 (.pointer (some ⟨c,0,none⟩))).run prog w = .ok y w:=
 ad1 a aB7 aB8 av4 (by rw[R3];rfl)
def de5(a p i w)(ha:At (n8 w) a (b9 p))(hr:E3 p)(hw:C1 p<=1000000)(hi:i<p.procs.length):
  p7 prog 87 #[a,i] w λu S=>(B7 (n8 w) S 54 u ((b9 p).edges (i:Int))/\o6 w S):=by
 apply y5 [a,i] func87 rfl;obtain⟨x,pt⟩:=K1 hr.may hw i hi;have cZ:=V3 pt;obtain⟨sh,vw,vd,_,vi,vo,has,bU,dX,_,dZ,d0,cc,ec⟩:=ha.book rfl;obtain⟨_,_,_,_,_,_,bP,_,_⟩:=has.sh;rw[K0]at bP;obtain⟨vg,vp,dY,bT,db,ed⟩:=bP.pg;obtain⟨aw,bK,bH⟩:=aC4 (hv:=bU) (k:=i) (p:=⟨F7 (i5 p) i⟩) (by show((M3 p).map λw=>(⟨w⟩:Ptr Wy))[i]?=_;rw[eH2,ab7 hi];rfl);simp only at bH;have aQ:=bU.inS (k:=i) (by show i<((M3 p).map λw=>(⟨w⟩:Ptr Wy)).length;unfold M3;simpa using hi);have lb:=cc w (n7 _);have lp:=db w (n7 _);have hF:(b9 p).edge0 (i:Int)=(F7 (i5 p) i).decides.map (aj2 p.procs[i].name)++((b9 p).verts (i:Int)).flatMap (K6 p.procs[i].name)++((b9 p).flows (i:Int)).flatMap λf=>((b9 p).takers p.procs[i].name f.dst f.var).map λv=>(⟨(b9 p).giver p.procs[i].name f.src f.var,v,2⟩:Eg):=by
  unfold Bk.edge0;rw[O8 hi,P3 hi]
 have bN:=bG2 hr hw hi;have cL:=aQ7 hr hw hi;have cM:=ce9 hr hw hi;have be:∀f∈(b9 p).flows (i:Int),(f.src=0\/Mid p f.src)/\(f.dst = -1\/Mid p f.dst):=λf hf=>bH0 hr hw hi hf;have l:=bT.inS hi;obtain⟨sv,r,g⟩:=G1 (P:=prog) (t:=68) bT (n7 _) (eD1 hi) as1 as2 ao1 N6;rw[N6]at g;obtain⟨cs,rfl,H,I,J,L,rfl,_⟩:=r;generalize p.procs[i].name=q at hF g;have cF:=cx2 a (i:Int) q H I J L;have cG:(Instr.box 199 (.agg (M9 a i q H I J L () ()))).run prog w = .ok (.pointer (some ⟨w.heap.size,0,none⟩)) (w.alloc (.cells (M9 a i q H I J L () ()) 199)):=rfl;have cW:Value.string {data:=#[]}=e0:=rfl;simp only[i4,n9,A6,simprocAttr,lb,lp,l,g,cF,cG,cW];have bY:=o6.alloc w (.cells (M9 a i q H I J L () ()) 199);have aS:w.heap.size<(w.alloc (.cells (M9 a i q H I J L () ()) 199)).heap.size:=dG
 have bI:=eH3 w (.cells (M9 a i q H I J L () ()) 199);generalize cY:w.alloc (.cells (M9 a i q H I J L () ()) 199)=w1 at bY aS bI;refine B3 (N9 w.heap.size _ _ q 1 0 e0 w1 bI rfl) (λw2 bX=>?_);obtain⟨de,wz,w4,bD,bR,c0,bG⟩:=aF4 (w:=w2) (nP w.heap.size ()) (SV.ofN (n8 w2) ⟨q,1,0,e0⟩) λb hb=>by
  have:=bX.size;rcases hb with h|h|h|h
  .omega
  .exact fj h E7
  .exact fj h E7
  .exact h.elim
 have ay:=bX.trans c0;have ad:=bY.trans ay;have ca:=cc w4 (b7 ad);have bL:=M0 (P:=prog) (t:=160) bK (b7 ad) aC9;simp only[i4,n9,A6,simprocAttr,bD,bR,ca,aQ,bL];apply z6 (cu9 aw _ p i x _ w4 (bH.mono (b7 ad)) hr hw hi cZ);rintro ud w5 ⟨cS,bk⟩;have bV:=ad.trans bk;have U:=dR1 (eK3 aS ay.size) cS;have ao:=bG.mono (M8 (N':=nP w.heap.size ()) bk (λ_ h=>h.elim) λb h=>.inl h);have ae:=ay.trans bk;rw[<-cY]at ae;have s5:=(PV.new a i q H I J L ae).2;have ap:=db0 bV;generalize dW:w.heap.size=A at s5 U ao ap;generalize dS:D9 w5 (nP A ())=H0 at s5 U ao ap;obtain⟨cb,_⟩:=L8.vx_v (SV.ofN (n8 w2) (⟨q,1,0,Go.Proofs.YtpebpfiglfmegaaGreat.e0⟩:Vx)) ao;generalize(F7 (i5 p) i).decides=D at hF bN U;have cz:=U.isS;have cO:=U.vlen;clear l g;simp only[eF,simprocAttr,cz,cO];refine E4 [0,1,5,6,41,42] (σ:=Nat×Value) (λt f S=>f 43=t.1/\t.1<=D.length/\PE H0 w S A a i q H I J L t.2 ((D.take t.1).map (aj2 q))) (λt=>D.length-t.1) (0,()) ?_ ?_
 .exact⟨rfl,eE2 _,by simpa using s5⟩
 clear s5;rintro⟨k,v⟩ f w5 hk ⟨aI,bf,s5⟩;simp only at aI bf s5;simp only[eF8,C9,simprocAttr]at hk;obtain⟨bz,e1,e5,e6,ct,cu,_⟩:=hk;simp only[eF,simprocAttr,aI,cu];refine B2 (λhc=>?_) (λhc=>?_)
 .have y:k<D.length:=by simpa using hc
  have l:=U.inS y;have g:=dB0 U s5.hb (eD1 y);have O:=bc2 (aj2 q) D y;have cH:((D.take k).map (aj2 q)).length<=1000000000:=by rw[eE3,eE5];omega
  generalize D[k]=d at g O;obtain⟨c8,ei,w6,bE,bS,bl,bJ,dx⟩:=dK4 (w:=w5) d.1 d.2;have s6:=s5.more bl;have c9:=cb w6 s6.hb;obtain⟨ej,bF,aR⟩:=dW8 w6 ⟨q,1,0,Go.Proofs.YtpebpfiglfmegaaGreat.e0⟩;have az:=o6.alloc w6 (.cells (A0.cells (⟨q,1,0,Go.Proofs.YtpebpfiglfmegaaGreat.e0⟩:Vx)).toArray 27);have aK:=eH3 w6 (.cells (A0.cells (⟨q,1,0,Go.Proofs.YtpebpfiglfmegaaGreat.e0⟩:Vx)).toArray 27);generalize w6.alloc (.cells (A0.cells (⟨q,1,0,Go.Proofs.YtpebpfiglfmegaaGreat.e0⟩:Vx)).toArray 27)=w7 at aR az aK;obtain⟨l8,_⟩:=aF3 bJ az id;simp only[dq3,n9,A6,simprocAttr,aI,ct,e6,l,g,bE,bS,c9,bF,aR,l8];refine cg3 [0,1,5,6,8,9,41,42,43] (λf' S=>o6 w6 S/\S.heap[w6.heap.size]?=some (.cells (A0.cells (aj2 q d).src).toArray 27 (0,0))) ?_ ?_
  .rcases eD2 (decide (d.1=0))with h0|h0
   .simp only[eF,simprocAttr,h0];refine⟨az,?_⟩;unfold aj2;rw[fi (eD3 h0)];exact aK
   .simp only[i4,n9,A6,simprocAttr,h0,e5,l8];refine B3 (N9 A _ _ q 2 d.1 Go.Proofs.YtpebpfiglfmegaaGreat.e0 w7 (s6.more az).cb rfl) (λo F=>?_);obtain⟨w9,q1,q2,q3⟩:=eq2 (c:=w6.heap.size) ((F.block _ (eD5.1 aK).1 id).trans aK) ⟨q,2,d.1,Go.Proofs.YtpebpfiglfmegaaGreat.e0⟩;simp only[i4,simprocAttr,q1];refine⟨t8.ext_of (az.trans F) q3 λb hb=>by rw[hb];exact eE8 _,?_⟩;unfold aj2;rw[fh (eD6 h0)];exact q2
  rintro f8 o hk ⟨F,aO⟩;simp only[eF8,C9,simprocAttr]at hk;obtain⟨g0,g1,g5,g6,g8,g9,dM,dN,cw,_⟩:=hk;have R:=(s6.more F).more (o6.drew o);have t1:∀K f d' Z,X8 prog (o6 o.drew) (Instr.loadAt 27 (.pointer (some ⟨w6.heap.size,0,none⟩))) K f d' Z=K (G9 f d' (.agg (A0.cells (aj2 q d).src).toArray)) Z:=λK f d' Z=>L5 (w0:=o.drew) (t8.refl _) λS h=>el7 ((((o6.drew o).trans h).block _ (eD5.1 aO).1 id).trans aO);have t2:∀K f d' Z,X8 prog (o6 o.drew) (Instr.loadAt 3 (.pointer (some ⟨c8,1,none⟩))) K f d' Z=K (G9 f d' d.2) Z:=λK f d' Z=>L5 (w0:=o.drew) (t8.refl _) λS h=>(aF3 bJ (F.trans ((o6.drew o).trans h)) id).2;simp only[i4,simprocAttr];refine C4 (o6 o.drew) 6 (A8 [0,1,2,3,4,5]) ?_;simp only[D7,A8,i4,n9,A6,simprocAttr,g5,e5,g8,g9,t1,t2];refine B3 (N9 A _ _ q 2 d.2 Go.Proofs.YtpebpfiglfmegaaGreat.e0 o.drew R.cb rfl) (λw9 Q=>⟨Q,?_⟩);simp only[eY,simprocAttr];refine z6 (ax4 H0 A a i q H I J L v _ (aj2 q d).src ⟨q,2,d.2,Go.Proofs.YtpebpfiglfmegaaGreat.e0⟩ 1 w w9 (R.more Q) cH) ?_;rintro _ ak ⟨aD,E⟩;simp only[eF,simprocAttr,cw,aI];refine⟨(k+1,aD),om,eE9 _ (I9 k om),om,?_⟩;simp only[];rw[O];exact E
 have T:k=D.length:=by simp at hc;omega
 subst T;rw[eE4]at s5;have cD:E6 (n8 w) (n8 w5):=A3 ap s5.hb;clear bK bL lb lp ca aQ;simp only[i4,simprocAttr,bz,e1];apply z6 (aR4 a p i w5 (ha.mono cD) hr hw hi);rintro uv w6 ⟨cV,bl⟩;have s6:=s5.more bl;have ah:=s5.freshN cV;have b6:=s6.base;have s6:=s6.rebase (n7 _);generalize dT:D9 w6 (nP A v)=K2 at s6 ah b6;generalize(b9 p).verts (i:Int)=V at hF cL ah;have bB:(D.map (aj2 q)).length<=41000:=by rw[eE3];exact bN
 generalize D.map (aj2 q)=L1 at s6 hF bB;have cC:=ah.isS;have cR:=ah.vlen;clear s5;simp only[eF,simprocAttr,cC,cR];refine E4 [0,1,5,6,65,66] (σ:=Nat×Value) (λt f S=>f 67=t.1/\t.1<=V.length/\PE K2 w S A a i q H I J L t.2 (L1++(V.take t.1).flatMap (K6 q))) (λt=>V.length-t.1) (0,v) ?_ ?_
 .exact⟨rfl,eE2 _,by simpa using s6⟩
 clear s6;rintro⟨m,v2⟩ f2 w7 hk ⟨B,cK,s7⟩;simp only at B cK s7;simp only[eF8,C9,simprocAttr]at hk;obtain⟨a0,a1,a5,a6,am,cp,_⟩:=hk;rw[bz]at a0;rw[e1]at a1;rw[e5]at a5;rw[e6]at a6;have ar:(L1++(V.take m).flatMap (K6 q)).length<=80000:=by
  have h1:=U3 (K6 q) 1 (V.take m) λz _=>bw8 q z;rw[eE5]at h1;rw[eD4];have h2:min m V.length<=30000:=om
  omega
 simp only[eF,simprocAttr,B,cp];refine B2 (λhc=>?_) (λhc=>?_)
 .have y:m<V.length:=by simpa using hc
  have l:=ah.inS y;obtain⟨sv,r,g⟩:=G1 (P:=prog) (t:=27) ah (s7.hb) (eD1 y) aB7 aB8 av4 R3;rw[R3]at g;have O:=M1 (K6 q) V y;generalize V[m]=s at r O;obtain rfl:=r.N;obtain⟨d8,ek,o,M,N,F,aN⟩:=ao6 (r.mono s7.hb) (n7 _);obtain⟨dd,dh⟩:=aN.vx;obtain⟨sv,ax,df,di⟩:=aN.vx_v;obtain rfl:=ax.N;have l8:=dd o (n7 _);have ce:=df o (n7 _);have R:=s7.more F;have b4:=cb o (A3 b6 R.hb);have aC:=R.more (o6.drew o);have t1:=di (o6 o.drew) o.drew (t8.refl _) λS h=>b7 ((o6.drew o).trans h);have t2:=dh (o6 o.drew) o.drew (t8.refl _) λS h=>b7 ((o6.drew o).trans h);generalize bm:L1++(V.take m).flatMap (K6 q)=xs at s7 R aC ar;have C:L1++(V.take (m+1)).flatMap (K6 q)=xs++K6 q s:=by rw[O,<-bm,eG4]
  rcases eD2 (decide (s.kind=3))with h3|h3
  .have hs:K6 q s=[⟨⟨q,1,0,Go.Proofs.YtpebpfiglfmegaaGreat.e0⟩,s,1⟩]:=by unfold K6;rw[fi (.inl (eD3 h3))]
   simp only[i4,n9,A6,simprocAttr,B,am,l,g,M,N,l8,h3,a5,a6,b4,ce];refine z6 (ax4 K2 A a i q H I J L v2 _ ⟨q,1,0,Go.Proofs.YtpebpfiglfmegaaGreat.e0⟩ s 1 w o R om) ?_;rintro _ w9 ⟨v9,Y⟩;simp only[eF,simprocAttr,B];refine⟨(m+1,v9),om,eE9 _ (I9 m om),om,?_⟩;simp only[];rw[C,hs];exact Y
  rcases eD2 (decide (s.kind=4))with h4|h4
  .have hs:K6 q s=[⟨⟨q,1,0,Go.Proofs.YtpebpfiglfmegaaGreat.e0⟩,s,1⟩]:=by unfold K6;rw[fi (.inr (eD3 h4))]
   simp only[i4,n9,A6,simprocAttr,B,am,l,g,M,N,l8,h3,h4,a5,a6,b4,ce];refine z6 (ax4 K2 A a i q H I J L v2 _ ⟨q,1,0,Go.Proofs.YtpebpfiglfmegaaGreat.e0⟩ s 1 w o R om) ?_;rintro _ w9 ⟨v9,Y⟩;simp only[eF,simprocAttr,B];refine⟨(m+1,v9),om,eE9 _ (I9 m om),om,?_⟩;simp only[];rw[C,hs];exact Y
  have av:¬(s.kind=3\/s.kind=4):=λh=>h.elim (eD6 h3) (eD6 h4);rcases eD2 (decide (s.kind=5))with h5|h5
  .have hs:K6 q s=[⟨⟨q,2,s.id,Go.Proofs.YtpebpfiglfmegaaGreat.e0⟩,s,1⟩]:=by unfold K6;rw[fh av,fi (.inl (eD3 h5))]
   simp only[i4,n9,A6,simprocAttr,B,am,l,g,M,N,l8,h3,h4,h5];refine C4 (o6 o.drew) 6 (A8 [0,1,2,3,5,4]) ?_;simp only[D7,A8,i4,n9,simprocAttr,a5,t1,t2];refine B3 (N9 A _ _ q 2 s.id Go.Proofs.YtpebpfiglfmegaaGreat.e0 o.drew aC.cb rfl) (λw9 Q=>⟨Q,?_⟩);simp only[eY,simprocAttr];refine z6 (ax4 K2 A a i q H I J L v2 _ ⟨q,2,s.id,Go.Proofs.YtpebpfiglfmegaaGreat.e0⟩ s 1 w w9 (aC.more Q) om) ?_;rintro _ ak ⟨aD,E⟩;simp only[eF,simprocAttr,B];refine⟨(m+1,aD),om,eE9 _ (I9 m om),om,?_⟩;simp only[];rw[C,hs];exact E
  rcases eD2 (decide (s.kind=6))with h6|h6
  .have hs:K6 q s=[⟨⟨q,2,s.id,Go.Proofs.YtpebpfiglfmegaaGreat.e0⟩,s,1⟩]:=by unfold K6;rw[fh av,fi (.inr (eD3 h6))]
   simp only[i4,n9,A6,simprocAttr,B,am,l,g,M,N,l8,h3,h4,h5,h6];refine C4 (o6 o.drew) 6 (A8 [0,1,2,3,5,4]) ?_;simp only[D7,A8,i4,n9,simprocAttr,a5,t1,t2];refine B3 (N9 A _ _ q 2 s.id Go.Proofs.YtpebpfiglfmegaaGreat.e0 o.drew aC.cb rfl) (λw9 Q=>⟨Q,?_⟩);simp only[eY,simprocAttr];refine z6 (ax4 K2 A a i q H I J L v2 _ ⟨q,2,s.id,Go.Proofs.YtpebpfiglfmegaaGreat.e0⟩ s 1 w w9 (aC.more Q) om) ?_;rintro _ ak ⟨aD,E⟩;simp only[eF,simprocAttr,B];refine⟨(m+1,aD),om,eE9 _ (I9 m om),om,?_⟩;simp only[];rw[C,hs];exact E
  have hs:K6 q s=[]:=by
   unfold K6;rw[fh av,fh λh=>h.elim (eD6 h5) (eD6 h6)]
  simp only[i4,n9,A6,simprocAttr,B,am,l,g,M,N,l8,h3,h4,h5,h6];refine⟨(m+1,v2),om,eE9 _ (I9 m om),om,?_⟩;simp only[];rw[C,hs,eG5];exact R
 have T:m=V.length:=by simp at hc;omega
 subst T;rw[eE4]at s7 ar;have cE:E6 (n8 w) (n8 w7):=A3 ap (A3 b6 s7.hb);simp only[i4,simprocAttr,a0,a1];apply z6 (de6 a p i w7 (ha.mono cE) hr hw hi);rintro uf o ⟨cT,F⟩;have R:=s7.more F;have af:=s7.freshN cT;have b8:=A3 b6 R.base;have R:=R.rebase (n7 _);generalize dU:D9 o (nP A v2)=K3 at R af b8;generalize(b9 p).flows (i:Int)=Fl at hF cM be af;generalize L1++V.flatMap (K6 q)=L2 at R hF ar;generalize hG:(λf:Fw=>((b9 p).takers q f.dst f.var).map λv=>(⟨(b9 p).giver q f.src f.var,v,2⟩:Eg))=G at hF;have bA:∀f:Fw,G f=((b9 p).takers q f.dst f.var).map λv=>(⟨(b9 p).giver q f.src f.var,v,2⟩:Eg):=λf=>by rw[<-hG]
 have cy:∀f∈Fl,(G f).length<=9:=λf hf=>by
  rw[bA,eE3];exact bo4 hr hw (be f hf).2
 have cA:=af.isS;have cP:=af.vlen;clear s7 hG;simp only[eF,simprocAttr,cA,cP];refine E4 [0,1,5,6,93,94] (σ:=Nat×Value) (λt f S=>f 95=t.1/\t.1<=Fl.length/\PE K3 w S A a i q H I J L t.2 (L2++(Fl.take t.1).flatMap G)) (λt=>Fl.length-t.1) (0,v2) ?_ ?_
 .exact⟨rfl,eE2 _,by simpa using R⟩
 clear R;rintro⟨k,v3⟩ f3 w9 hk ⟨aJ,bf,Y⟩;simp only at aJ bf Y;simp only[eF8,C9,simprocAttr]at hk;obtain⟨b0,b1,b5,dH,cq,cr,_⟩:=hk;rw[a5]at b5;have aP:(L2++(Fl.take k).flatMap G).length<=50000000:=by
  have h1:=U3 G 9 (Fl.take k) λz hz=>cy z (eL5 hz);rw[eE5]at h1;rw[eD4];have h2:min k Fl.length<=5000000:=om
  omega
 have bb:E6 (n8 w) K3:=A3 ap b8;simp only[eF,simprocAttr,aJ,cr];refine B2 (λhc=>?_) (λhc=>?_);rotate_left
 .have T:k=Fl.length:=by simp at hc;omega
  subst T;rw[eE4]at Y aP;have l9:(Instr.loadAt 49 (.pointer (some ⟨A,8,none⟩))).run prog w9 = .ok v3 w9:=F9 (i:=8) (u:=v3) Y.cb rfl bd8;simp only[eF,simprocAttr,b5,l9];apply z6 (aR3 Y.ox om (B6 _ _));rintro u ak ⟨bO,bM,_⟩;simp only[i4,simprocAttr];apply o8 results87;simp only[C9,simprocAttr];refine⟨?_,t8.ext_of Y.ext bM λb hb=>(Y.dx b hb).1⟩;have e:(b9 p).edges (i:Int)=ac6 (L2++Fl.flatMap G):=by unfold Bk.edges;rw[hF]
  rw[e];exact bO.downN (A3 bb Y.base)
 have y:k<Fl.length:=by simpa using hc
 have l:=af.inS y;obtain⟨sv,r,g⟩:=G1 (P:=prog) (t:=213) af (Y.hb) (eD1 y) dH0 dI8 cU5 bY5;rw[bY5]at g;have O:=M1 G Fl y;obtain⟨bQ,bg⟩:=be _ (eE1 y);generalize Fl[k]=fl at r O bQ bg;obtain⟨dJ,dD,ak,a2,bh,bW,a7⟩:=dT9 (r.mono Y.hb) (n7 _);obtain⟨cd,_⟩:=a7.fw;have c6:=cd ak (n7 _);have E:=Y.more bW;simp only[i4,n9,A6,simprocAttr,aJ,cq,l,g,a2,bh,c6,b5];refine B3 (dj8 A _ _ a p q fl.src fl.var ak E.cb rfl rfl (ha.mono (A3 bb E.hb)) hr hw bQ) (λbp aU=>?_);have bn:=E.more aU;have aZ:=bA fl;generalize(b9 p).giver q fl.src fl.var=gv at aZ;obtain⟨dK,dE,ch,a3,bi,aV,a8⟩:=aF4 (w:=bp) (nP A v3) (SV.ofN (n8 bp) gv) λb hb=>bn.lt hb;have aA:=bn.more aV;have c7:=cd ch (b7 (aU.trans aV));simp only[eF,simprocAttr,a3,bi,c7,b5];apply z6 (cT8 A _ _ a p q fl.dst fl.var ch aA.cb rfl rfl (ha.mono (A3 bb aA.hb)) hr hw bg);rintro ut dl ⟨cU,aW⟩;have W:=aA.more aW;have ag:=aA.freshN cU;have an:=a8.mono (M8 (N':=nP A v3) aW (λ_ h=>h.elim) λb h=>.inl h);have bw:=W.base;have W:=W.rebase (n7 _);generalize dV:D9 dl (nP A v3)=K4 at W ag an bw;obtain⟨da,_⟩:=L8.vx_v (SV.ofN (n8 bp) gv) an;have cX:=bo4 hr hw (q:=q) (n:=fl.var) bg;generalize(b9 p).takers q fl.dst fl.var=Tk at aZ ag cX;generalize bm:L2++(Fl.take k).flatMap G=xs at W aP;have C:L2++(Fl.take (k+1)).flatMap G=xs++Tk.map λv=>(⟨gv,v,2⟩:Eg):=by rw[O,aZ,<-bm,eG4]
 have cB:=ag.isS;have cQ:=ag.vlen;clear Y E bn aA;simp only[eF,simprocAttr,cB,cQ];refine E4 [0,1,5,6,14,93,94,95,110,111] (σ:=Nat×Value) (λt f S=>f 112=t.1/\t.1<=Tk.length/\PE K4 w S A a i q H I J L t.2 (xs++(Tk.take t.1).map λv=>(⟨gv,v,2⟩:Eg))) (λt=>Tk.length-t.1) (0,v3) ?_ ?_
 .exact⟨rfl,eE2 _,by simpa using W⟩
 clear W;rintro⟨j,v4⟩ f4 eg hk ⟨aa,cJ,X⟩;simp only at aa cJ X;simp only[eF8,C9,simprocAttr]at hk;obtain⟨j0,j1,j5,j6,c5,d2,d3,b3,bZ,b2,_⟩:=hk;rw[b5]at j5;rw[aJ]at b3;simp only[eF,simprocAttr,aa,b2];refine B2 (λbc=>?_) (λbc=>?_);rotate_left
 .have T:j=Tk.length:=by simp at bc;omega
  subst T;rw[eE4]at X;simp only[eF,simprocAttr,b3];refine⟨(k+1,v4),om,eE9 _ (I9 k om),om,?_⟩;simp only[];rw[C];exact X.rebase (A3 bw X.base)
 have au:j<Tk.length:=by simpa using bc
 clear l g r;have l:=ag.inS au;obtain⟨sv,r,g⟩:=G1 (P:=prog) (t:=27) ag (X.hb) (eD1 au) aB7 aB8 av4 R3;rw[R3]at g;have aT:=bc2 (λv=>(⟨gv,v,2⟩:Eg)) Tk au;have bd:(xs++(Tk.take j).map λv=>(⟨gv,v,2⟩:Eg)).length<=1000000000:=by
  rw[eD4,eE3,eE5];omega
 generalize Tk[j]=tv at r aT;obtain rfl:=r.N;obtain⟨dL,dF,bq,a4,bj,ae,a9⟩:=ao6 (r.mono X.hb) (n7 _);obtain⟨sv,ax,dc,_⟩:=a9.vx_v;obtain rfl:=ax.N;have cf:=X.more ae;have lg:=da bq cf.hb;have lt:=dc bq (n7 _);simp only[i4,n9,A6,simprocAttr,aa,bZ,l,g,a4,bj,j5,c5,lg,lt];apply z6 (ax4 K4 A a i q H I J L v4 _ gv tv 2 w bq cf bd);rintro _ eh ⟨dj,dg⟩;simp only[eF,simprocAttr,aa];refine⟨(j+1,dj),om,eE9 _ (I9 j om),om,?_⟩;simp only[];rw[aT,<-eG4];exact dg
def bU5(x:Option Addr):E2 prog .eql 87 (.pointer x) (.pointer none)=some (.bool x.isNone):=bq8 rfl kr
def ce5{p i}(b:E3 p)(hw:C1 p<=1000000)(a:i<p.procs.length):((b9 p).edges (i:Int)).length<=60000000:=by
 have e:=bG2 b hw a;have g:(((b9 p).verts (i:Int)).flatMap (K6 p.procs[i].name)).length<=((b9 p).verts (i:Int)).length*1:=U3 _ 1 _ λv _=>bw8 _ v;have h:=aQ7 b hw a;have j:=ce9 b hw a;have k:(((b9 p).flows (i:Int)).flatMap λf=>((b9 p).takers p.procs[i].name f.dst f.var).map λv=>(⟨(b9 p).giver p.procs[i].name f.src f.var,v,2⟩:Eg)).length<=((b9 p).flows (i:Int)).length*9:=U3 _ 9 _ λf d=>by
  rw[eE3];exact bo4 b hw (bH0 b hw a d).2
 have c:(b9 p).edge0 (i:Int)=(F7 (i5 p) i).decides.map (aj2 p.procs[i].name)++((b9 p).verts (i:Int)).flatMap (K6 p.procs[i].name)++((b9 p).flows (i:Int)).flatMap λf=>((b9 p).takers p.procs[i].name f.dst f.var).map λv=>(⟨(b9 p).giver p.procs[i].name f.src f.var,v,2⟩:Eg):=by
  unfold Bk.edge0;rw[O8 a,P3 a]
 unfold Bk.edges ac6;apply eD7 (ak8 _);rw[(H8 cy6 _).length_eq,c];simp only[eD4,eE3]at *;omega
section
variable {p:Pg}
def aS3(K:Known p){n:B9}(hn:n∈p.procs.map (·.name)):∀x∈(b9 p).calledBy n,x∈p.procs.map (·.name):=by
 intro x c;obtain⟨i,f,e,h⟩:=Y0 hn;unfold Bk.calledBy at c;rw[eF2]at c;obtain⟨it,a,rfl⟩:=c;rw[eF6]at a;have g:(b9 p).s=i5 p:=rfl;rw[g,e]at a;have d:it.s.kind=4:=by
  have:=a.2;rw[eF1]at this;exact eD3 this.1
 have b:=(K.proc i f).2.2 it a.1;unfold am9 at b;simp only[d,decide_true,Bool.not_true,eO3,eF1,eE6]at b
 first
 | exact b.2.1.2
 | exact b.2.2
 | exact b.1.2.2
 | simp_all
def bm8(K:Known p):H9∈p.procs.map (·.name):=by
 obtain⟨i,q,b,a,_⟩:=K.main;exact eF2.2 ⟨q,eF7 b,a⟩
def bV0(K:Known p):(W4 (b9 p).calledBy 1000 0 [H9]).Nodup/\∀n∈W4 (b9 p).calledBy 1000 0 [H9],n∈p.procs.map (·.name):=
 aS4 (λm hm=>aS3 K hm) 1000 0 [H9] dG (λx a=>by simp at a;subst a;exact bm8 K)
def bu0:H9∈(b9 p).reached:=ae1.2 (bl7 _ _ _ _ _ dG)
def bv9(K:Known p){n:B9}(hn:n∈(b9 p).reached):n∈p.procs.map (·.name):=(bV0 K).2 n (ae1.1 hn)
def bk1(K:Known p):(b9 p).reached.Nodup:=(Z3 _).nodup_iff.2 (bV0 K).1
def cr5(K:Known p):(b9 p).reached.Pairwise λa b=>ltS a b=true:=by
 refine((aF1 _).and (bk1 K)).imp fun{a b} ⟨h1,h2⟩=>?_;refine eL3 λh=>h2 ?_;have c:ltS a b=false:=by simpa using h
 exact cq0 c (ah5.2 h1)
def bi3{b:Bk}{i}{v:Vx}(h:v∈b.verts i):v.proc=(b.s.fn i).name:=by
 rcases S6.1 (ar2.1 h)with rfl|⟨_,_,rfl⟩|⟨_,_,rfl⟩|⟨_,_,rfl|⟨_,⟨_,_,rfl⟩|⟨_,_,rfl⟩⟩⟩<;>rfl
def cQ7{v:Vx}:v∈(b9 p).wv↔∃n∈(b9 p).reached,v∈(b9 p).verts ((b9 p).s.pr n):=eG1
def U6(K:Known p){n:B9}(hn:n∈(b9 p).reached):∃(i:Nat) (a:i<p.procs.length),(b9 p).s.pr n=(i:Int)/\((b9 p).s.fn (i:Int)).name=n:=by
 obtain⟨i,a,e,b⟩:=Y0 (bv9 K hn);exact⟨i,a,e,by rw[O8 a,b]⟩
def aN1(K:Known p){n:B9}(hn:n∈(b9 p).reached){v:Vx}(hv:v∈(b9 p).verts ((b9 p).s.pr n)):v.proc=n:=by
 obtain⟨i,b,e,a⟩:=U6 K hn;rw[bi3 hv,e,a]
def cQ1{a b:Vx}(h:ltS a.proc b.proc=true):V6 a b=true:=by
 unfold V6;rw[fi (λe=>by rw[e,Q5]at h;cases h)];exact h
def cC7{a b:Vx}(h:V6 a b=true):a≠b:=by
 rintro rfl;rw[bc0,dK7]at h;simp at h
def dd7(c:E3 p)(hw:C1 p<=1000000):(b9 p).wv.Pairwise λu v=>V6 u v=true:=by
 have K:=c.toKnown;unfold Bk.wv;rw[pairwise_flatMap];refine⟨λn f=>?_,?_⟩
 .obtain⟨i,d,e,_⟩:=U6 K f;obtain⟨x,g⟩:=K1 c.may hw i d;rw[e];exact cV4 (cJ0 c hw d g)
 .refine List.Pairwise.imp_of_mem (fun{a b} ha hb hlt x hx y hy=>?_) (cr5 K);exact cQ1 (by rw[aN1 K ha hx,aN1 K hb hy];exact hlt)
def Z7(a:E3 p)(hw:C1 p<=1000000):(b9 p).wv.Nodup:=(dd7 a hw).imp λh=>cC7 h
def dV1(K:Known p):(⟨H9,1,0,e0⟩:Vx)∈(b9 p).wv:=by
 obtain⟨i,b,e,a⟩:=U6 K bu0;exact cQ7.2 ⟨H9,bu0,by rw[e];exact ar2.2 (S6.2 (.inl (by rw[a])))⟩
def J3(K:Known p):0<(b9 p).wv.length:=length_pos_of_mem (dV1 K)
end
def P7{V:List Vx}{v:Vx}(h:v∈V):V[C5 V v]?=some v:=by
 obtain⟨a,b⟩:=eJ0.1 (Z8.2 h);have:=bq5 b;unfold C5;rw[b];exact this
def bM2{V:List Vx}(hn:V.Nodup){v:Vx}{a}(h:V[a]?=some v):C5 V v=a:=by
 unfold C5;rw[dN0 hn h];rfl
def bT9{V:List Vx}{S:List Bool}{v:Vx}:v∈F3 V S↔∃i:Int,A5 S i=true/\V[i.toNat]?=some v:=by
 unfold F3;rw[mem_filterMap];exact⟨λ⟨i,a,b⟩=>⟨i,R1.1 a,b⟩,λ⟨i,a,b⟩=>⟨i,R1.2 a,b⟩⟩
def ap5{V:List Vx}(hn:V.Nodup){S:List Bool}{v:Vx}(hv:v∈V):v∈F3 V S↔A5 S ((C5 V v:Nat):Int)=true:=by
 rw[bT9];constructor
 .rintro⟨i,a,b⟩;have c:=bM2 hn b;have:=C0.1 (W3 a);have e:((C5 V v:Nat):Int)=i:=om
  rw[e];exact a
 .exact λh=>⟨_,h,by rw[eF4];exact P7 hv⟩
section
variable {p:Pg} {vs:List Vx} {l:List Int} {v w:Vx}
def cK0(p:Pg)(v u:Vx):Prop:=dZ7 (b9 p).wv (b9 p).all (C5 (b9 p).wv v) (C5 (b9 p).wv u)
end
section
variable {p:Pg}
def ey0(hm:O1 p=true)(hw:C1 p<=1000000){it:It}(h:it∈(i5 p).l):∃(i:Nat) (o:i<p.procs.length),it∈(i5 p).of i:=by
 have g:=h;unfold i5 at h;rcases bD0 _ _ _ _ h with h|⟨k,a,x,h⟩
 .simp at h
 obtain⟨y,j,e⟩:=ab2 p hw k a;have l:it.s∈((i5 p).of k).map (·.s):=by
  rw[e,au0 _ y x _ _ _ _ ((0+k:Nat):Int) 0 (-1) 0];exact eF2.2 ⟨it,h,rfl⟩
 obtain⟨m,c,f⟩:=eF2.1 l;obtain⟨z,n⟩:=K1 hm hw k a;have d:=(bt2 hm g).2.1;have b:=(bt2 hm (bc7 n c)).2.1;rw[f,d]at b;exact⟨k,a,by rw[b];exact c⟩
def cn0(hm:O1 p=true)(hw:C1 p<=1000000){id:Int}(e:1<=id)(f:id<=(i5 p).l.length):∃(i:Nat) (a:i<p.procs.length),(i5 p).it id∈(i5 p).of i/\((i5 p).it id).proc=(i:Int)/\((i5 p).it id).s.id=id:=by
 have c:(id-1).toNat<(i5 p).l.length:=om
 have d:(i5 p).l[(id-1).toNat]?=some ((i5 p).it id):=by
  unfold Sh.it;rw[getD_eq_getElem?_getD,eD1 c];rfl
 have b:=ax6 hm _ _ d;obtain⟨i,a,h⟩:=ey0 hm hw (eF7 d);exact⟨i,a,h,az2 p hw i a _ h,by rw[b];omega⟩
end
section
variable {p:Pg} {v:Vx} {e:Eg}
def bc4:e∈(b9 p).we↔e∈(b9 p).we0:=by
 unfold Bk.we ac6;rw[ak9,(H8 cy6 _).mem_iff]
def av9(K:Known p)(hv:v∈(b9 p).wv):∃(i:Nat) (a:i<p.procs.length),p.procs[i].name∈(b9 p).reached/\v.proc=p.procs[i].name/\v∈(b9 p).vert0 (i:Int):=by
 obtain⟨n,b,hv⟩:=cQ7.1 hv;obtain⟨i,a,e,c⟩:=U6 K b;have d:=aN1 K b hv;rw[O8 a]at c;rw[e]at hv;exact⟨i,a,by rw[c];exact b,by rw[d,c],ar2.1 hv⟩
def dk6{n:B9}{c}(b:c<p.procs.length)(h:ac3 p.procs n=(c:Int)):p.procs[c].name=n:=by
 obtain⟨k,e,x,a,d⟩:=aI2 _ p.procs 0 (by unfold ac3 at h;rw[h];omega);unfold ac3 at h;rw[h]at e;obtain rfl:c=k:=om
 rw[eD1 b]at a;obtain rfl:=eF3 a;simpa using d
def bh4(K:Known p){i}(g:i<p.procs.length):(b9 p).s.pr p.procs[i].name=(i:Int):=by
 obtain⟨k,l,e,m⟩:=Y0 (eF2.2 ⟨_,eE1 g,rfl⟩:p.procs[i].name∈p.procs.map (·.name));have f:k=i:=by
  have d:=eK4.1 K.names;have c:k<(p.procs.map (·.name)).length:=by simpa using l
  have b:i<(p.procs.map (·.name)).length:=by simpa using g
  have a:(p.procs.map (·.name))[k]=(p.procs.map (·.name))[i]:=by rw[eL1,eL1];exact m
  rcases Nat.lt_trichotomy k i with h|h|h
  .exact fj a (d k i c b h)
  .exact h
  .exact fj a.symm (d i k b c h)
 have j:(b9 p).s.pr p.procs[i].name=(k:Int):=e;rw[j,f]
def cl8(K:Known p){i}(a:i<p.procs.length)(b:p.procs[i].name∈(b9 p).reached)(h:v∈(b9 p).vert0 (i:Int)):v∈(b9 p).wv:=
 cQ7.2 ⟨_,b,by rw[bh4 K a];exact ar2.2 h⟩
structure bN8 (p:Pg) (i:Nat) (v:Vx):Prop where
 mem:(i5 p).it v.id∈(i5 p).of i
 id:((i5 p).it v.id).s.id=v.id
 st:v.kind=2->v.slot=e0
 call:v.kind≠2->((i5 p).it v.id).s.kind=4
 sin:v.kind=5->v.slot∈(b9 p).slotsIn ((b9 p).s.pr ((i5 p).it v.id).s.proc)
 out:v.kind=6->v.slot∈(b9 p).callOut ((i5 p).it v.id).s
def ag8(hm:O1 p=true)(hw:C1 p<=1000000){i}(g:i<p.procs.length)(h:v∈(b9 p).vert0 (i:Int))(b:v.kind=2\/v.kind=5\/v.kind=6):bN8 p i v:=by
 obtain⟨y,k⟩:=K1 hm hw i g;have j:(b9 p).s=i5 p:=rfl;rcases S6.1 h with rfl|⟨_,_,rfl⟩|⟨_,_,rfl⟩|⟨it,a,f⟩
 .simp at b
 .simp at b
 .simp at b
 rw[j]at a;have e:=(bt2 hm (bc7 k a)).2.1;rcases f with rfl|⟨d,⟨n,c,rfl⟩|⟨n,c,rfl⟩⟩
 .exact⟨by rw[e];exact a,by rw[e],λ_=>rfl,λh=>fj rfl h,λh=>by simp at h,λh=>by simp at h⟩
 .exact⟨by rw[e];exact a,by rw[e],λh=>by simp at h,λ_=>by rw[e];exact d,λ_=>by rw[e];exact c,λh=>by simp at h⟩
 .exact⟨by rw[e];exact a,by rw[e],λh=>by simp at h,λ_=>by rw[e];exact d,λh=>by simp at h,λ_=>by rw[e];exact c⟩
def ca8(a:E3 p){n x:B9}(hn:n∈(b9 p).reached)(d:x∈(b9 p).calledBy n):x∈(b9 p).reached:=by
 have K:=a.toKnown;refine ae1.2 (aM6 (λm hm=>aS3 K hm) 1000 0 [H9] dG (λy b=>by simp at b;subst b;exact bm8 K) ?_ (eE2 _) (λk y c=>fj c (Nat.not_lt_zero _)) n (ae1.1 hn) x d);have:=(R0 a.may).2;simp only[eE3];omega
def dN6(e:E3 p)(hw:C1 p<=1000000){i}(f:i<p.procs.length)(hn:p.procs[i].name∈(b9 p).reached)(hv:bN8 p i v)(a:(b9 p).isCall v.id=true):
  ∃(c:Nat) (a:c<p.procs.length),aM4 p ((i5 p).it v.id).s c/\((i5 p).it v.id).s.proc=p.procs[c].name/\p.procs[c].name∈(b9 p).reached/\(b9 p).s.pr ((i5 p).it v.id).s.proc=(c:Int):=by
 have j:(b9 p).s=i5 p:=rfl;obtain⟨y,k⟩:=K1 e.may hw i f;unfold Bk.isCall at a;rw[j,az2 p hw i f _ hv.mem,eF1]at a;have h:=eD3 a.1;obtain⟨c,d⟩:=aa7 (e.fits _ (bc7 k hv.mem) h);have g:(b9 p).s.pr ((i5 p).it v.id).s.proc=(c:Int):=d.pr;have b:=(dk6 d.lt d.idx).symm;refine⟨c,d.lt,d,b,?_,g⟩;rw[<-b];apply ca8 e hn;unfold Bk.calledBy;refine eF2.2 ⟨(i5 p).it v.id,eF6.2 ⟨?_,?_⟩,rfl⟩
 .rw[bh4 e.toKnown f];exact hv.mem
 .rw[bh4 e.toKnown f,hv.id,h,a.2];rfl
structure bF4 (p:Pg) (v:Vx) (e:Eg):Prop where
 mem:v∈(b9 p).wv
 src:e.src∈(b9 p).wv
 dst:e.dst∈(b9 p).wv
 kind:(e.kind=4/\e.src=v/\v.kind=2/\e.dst=⟨((i5 p).it v.id).s.proc,1,0,e0⟩)\/(e.kind=5/\e.src=v/\v.kind=5/\e.dst=⟨((i5 p).it v.id).s.proc,3,0,v.slot⟩) \/
  (e.kind=6/\e.dst=v/\v.kind=6/\e.src=⟨((i5 p).it v.id).s.proc,4,0,v.slot⟩)
def bt3(m:E3 p)(hw:C1 p<=1000000)(hv:v∈(b9 p).wv)(d:e∈(b9 p).joinOf v):bF4 p v e:=by
 have K:=m.toKnown;have u:(b9 p).s=i5 p:=rfl;unfold Bk.joinOf at d;rw[u]at d;split at d
 .simp at d
 next r=>
 have q:(b9 p).isCall v.id=true:=by
  cases h:(b9 p).isCall v.id with
  | true=>rfl
  | false=>exact fj (.inr h) r
 obtain⟨i,o,t,w,k⟩:=av9 K hv;have n:(v.kind=2\/v.kind=5\/v.kind=6)->bN8 p i v/\∃(c:Nat) (q:c<p.procs.length),aM4 p ((i5 p).it v.id).s c/\((i5 p).it v.id).s.proc=p.procs[c].name/\p.procs[c].name∈(b9 p).reached/\(b9 p).s.pr ((i5 p).it v.id).s.proc=(c:Int):=λb=>
  ⟨ag8 m.may hw o k b,dN6 m hw o t (ag8 m.may hw o k b) q⟩
 split at d
 .next b=>
  obtain⟨f,c,a,_,g,j,l⟩:=n (.inl b);obtain rfl:=eE7.1 d;refine⟨hv,hv,?_,.inl ⟨rfl,rfl,b,rfl⟩⟩;exact cl8 K a j (S6.2 (.inl (by rw[O8 a,g])))
 split at d
 .next b=>
  obtain⟨f,c,a,_,g,j,l⟩:=n (.inr (.inl b));obtain rfl:=eE7.1 d;refine⟨hv,hv,?_,.inr (.inl ⟨rfl,rfl,b,rfl⟩)⟩;have:=f.sin b;rw[l]at this;exact cl8 K a j (S6.2 (.inr (.inl ⟨v.slot,this,by rw[O8 a,g]⟩)))
 split at d
 .next b=>
  obtain⟨f,c,a,_,g,j,l⟩:=n (.inr (.inr b));obtain rfl:=eE7.1 d;refine⟨hv,?_,hv,.inr (.inr ⟨rfl,rfl,b,rfl⟩)⟩;have:=f.out b;unfold Bk.callOut at this;rw[l]at this;have s:v.slot∈(b9 p).slotsOut (c:Int):=by
   split at this
   .exact(eF6.1 this).1
   .exact this
  exact cl8 K a j (S6.2 (.inr (.inr (.inl ⟨v.slot,s,by rw[O8 a,g]⟩))))
 .simp at d
def av7(d:C8 p=true)(hw:C1 p<=1000000)(m:e∈(b9 p).we):(e.src∈(b9 p).wv/\e.dst∈(b9 p).wv/\(e.kind=1\/e.kind=2))\/∃v,bF4 p v e:=by
 have f:=D6 d;have K:=f.toKnown;rcases eE0.1 (bc4.1 m)with h|h
 .obtain⟨n,b,h⟩:=eG1.1 h;obtain⟨i,a,g,c⟩:=U6 K b;rw[g]at h;rw[O8 a]at c;obtain⟨j,k,l⟩:=br1 d hw a e (ax1.1 h);exact .inl ⟨cl8 K a (by rw[c];exact b) j,cl8 K a (by rw[c];exact b) k,l⟩
 .obtain⟨v,o,h⟩:=eG1.1 h;exact .inr ⟨v,bt3 f hw o h⟩
end
section
variable {p:Pg} {a v u:Vx} {e:Eg} {o:List Int}
def aN8(p:Pg)(ks:List Int)(v u:Vx):Prop:=Y6 (V7 (b9 p).wv (b9 p).all ks) (C5 (b9 p).wv v) (C5 (b9 p).wv u)
def W9(K:Known p){ks:List Int}(a:e∈(b9 p).all)(b:e.kind∈ks):aN8 p ks e.src e.dst:=
 .one (au2.2 ⟨an1 (J3 K) _,e,a,b,rfl,rfl⟩)
def am2(h:e∈(b9 p).we):e∈(b9 p).all:=eF9 _ h
def bF0{ks a:List Int}(h:∀k∈ks,k∈a)(hw:aN8 p ks v u):aN8 p a v u:=by
 unfold aN8 at *;generalize((C5 (b9 p).wv u:Nat):Int)=x at hw ⊢
 induction hw with
 | refl=>exact .refl
 | step _ g j=>
  obtain⟨b,e,i,c,d,f⟩:=au2.1 g;exact .step j (au2.2 ⟨b,e,i,h _ c,d,f⟩)
def by7(p:Pg)(a:Vx):List Int->Vx->Prop
 | [],v=>aN8 p [1,2,3,6] a v
 | id::o,v=>∃e,by7 p a o e.src/\e∈(b9 p).we/\(e.kind=4\/e.kind=5)/\e.src.id=id/\aN8 p [1,2,3] e.dst v
def by7.level(h:by7 p a o v)(hw:aN8 p [1,2,3] v u):by7 p a o u:=by
 cases o with
 | nil=>exact Y6.trans h (bF0 dG hw)
 | cons id o=>
  obtain⟨e,b,c,d,f,g⟩:=h;exact⟨e,b,c,d,f,g.trans hw⟩
def by7.fit(K:Known p):∀{o:List Int} {v:Vx},by7 p a o v->cK0 p a v
 | [],v,h=>⟨_,h,.refl⟩
 | id::o,v,⟨e,h1,h2,h3,h4,h5⟩=>by
  obtain⟨m,b,c⟩:=by7.fit K h1;refine⟨m,b,(Y6.trans c ?_).trans (bF0 (ks:=[1,2,3]) dG h5)⟩;exact W9 K (am2 h2) (by rcases h3 with h|h<;>simp[h])
def cj4(a:E3 p)(hw:C1 p<=1000000){x y:Vx}(j:x∈(b9 p).wv)(l:y∈(b9 p).wv)(m:x.kind=2\/x.kind=5\/x.kind=6)(n:y.kind=2\/y.kind=5\/y.kind=6)(h:x.id=y.id):x.proc=y.proc:=by
 obtain⟨i,b,_,f,o⟩:=av9 a.toKnown j;obtain⟨k,c,_,g,q⟩:=av9 a.toKnown l;have d:=az2 p hw i b _ (ag8 a.may hw b o m).mem;have e:=az2 p hw k c _ (ag8 a.may hw c q n).mem;rw[h,e]at d;obtain rfl:k=i:=om
 rw[f,g]
def aO6(g:E3 p)(hw:C1 p<=1000000){y:Vx}(k:y∈(b9 p).wv)(b:y.kind=5\/y.kind=6):(⟨⟨y.proc,2,y.id,e0⟩,y,1⟩:Eg)∈(b9 p).we:=by
 have K:=g.toKnown;obtain⟨i,a,f,e,j⟩:=av9 K k;refine bc4.2 (eF9 _ (eG1.2 ⟨_,f,ax1.2 ?_⟩));rw[bh4 K a];unfold Bk.edge0;refine eF9 _ (eH0 _ (eG1.2 ⟨y,ar2.2 j,?_⟩));unfold K6;have d:¬(y.kind=3\/y.kind=4):=by rintro(h|h)<;>rcases b with c|c<;>omega
 rw[fh d,fi b,O8 a,e];simp
def by7.cls(s:C8 p=true)(hw:C1 p<=1000000){id}(h:by7 p a (id::o) v)(z:e∈(b9 p).we)(I:e.src=v)(H:e.kind=6)(t:e.dst.id=id):by7 p a o e.dst:=by
 have m:=D6 s;have K:=m.toKnown;obtain⟨g,D,E,r,F,G⟩:=h;have L:∃y,bF4 p y e:=by
  rcases av7 s hw z with⟨_,_,h⟩|h
  .rcases h with h|h<;>omega
  .exact h
 obtain⟨y,k⟩:=L;have N:e.dst=y/\y.kind=6/\e.src=⟨((i5 p).it y.id).s.proc,4,0,y.slot⟩:=by
  rcases k.kind with h|h|h
  .omega
  .omega
  .exact h.2
 obtain⟨n,B,C⟩:=N;have J:∃x,bF4 p x g:=by
  rcases av7 s hw E with⟨_,_,h⟩|h
  .rcases h with h|h<;>rcases r with d|d<;>omega
  .exact h
 obtain⟨x,c⟩:=J;subst I;apply D.level;have j:g.src=x:=by
  rcases c.kind with h|h|h
  .exact h.2.1
  .exact h.2.1
  .rcases r with d|d<;>omega
 have w:x.kind=2\/x.kind=5:=by
  rcases c.kind with h|h|h
  .exact .inl h.2.2.1
  .exact .inr h.2.2.1
  .rcases r with d|d<;>omega
 have b:x.id=y.id:=by rw[<-j,F,<-t,n]
 have f:=cj4 m hw c.mem k.mem (w.imp_right .inl) (.inr (.inr B)) b;have u:bN8 p ((av9 K c.mem).choose) x:=ag8 m.may hw (av9 K c.mem).choose_spec.choose (av9 K c.mem).choose_spec.choose_spec.2.2 (w.imp_right .inl);rw[j,n];rcases w with A|M
 .have l:x=⟨y.proc,2,y.id,e0⟩:=by
   have:=u.st A;cases x;simp only at *;subst f b A this;rfl
  have:=W9 (ks:=[1,2,3]) K (am2 (aO6 m hw k.mem (.inr B))) dG;rw[l];exact this
 .have q:g.dst=⟨((i5 p).it x.id).s.proc,3,0,x.slot⟩:=by
   rcases c.kind with h|h|h
   .omega
   .exact h.2.2.2
   .omega
  have l:(⟨y.proc,5,y.id,x.slot⟩:Vx)=x:=by
   cases x;simp only at *;subst f b M;rfl
  have i:(⟨x,y,3⟩:Eg)∈(b9 p).sums:=by
   refine aM0 _ ⟨C5 (b9 p).wv e.src,e.src,C5 (b9 p).wv g.dst,g.dst,P7 k.src,by rw[C],G,by rw[eF4];exact P7 c.dst,by rw[q],e,eF9 _ z,?_⟩;refine aA6.2 ⟨⟨H,rfl⟩,y,by rw[n];exact P7 k.mem,?_,?_⟩
   .rw[q];show(⟨y.proc,5,y.id,x.slot⟩:Vx)∈_;rw[l];exact c.mem
   .rw[q];show(⟨x,y,3⟩:Eg)=⟨⟨y.proc,5,y.id,x.slot⟩,y,3⟩;rw[l]
  exact W9 (ks:=[1,2,3]) (e:=⟨x,y,3⟩) K (eH0 _ i) dG
end
def cp7(k:Nat)(V:List Vx):List (Vx×Value):=(V.zipIdx k).map λx=>(x.1,.int .i64 (x.2:Int))
def as6(V:List Vx):List (Vx×Value):=cp7 0 V
def cf4(v:Vx):∀(V:List Vx) (k:Nat),al0 (cp7 k V) v=(V.findIdx? λx=>decide (x=v)).map λa=>.int .i64 ((k+a:Nat):Int)
 | [],k=>rfl
 | x::V,k=>by
  have c:=cf4 v V (k+1);unfold al0 cp7 at *;rw[zipIdx_cons,eI4,find?_cons,findIdx?_cons];by_cases h:v=x
  .subst h;simp
  .have b:¬x=v:=λe=>h e.symm;simp only[h,b,decide_false,eK7,eM4];rw[c];cases V.findIdx? (λx=>decide (x=v))with
   | none=>rfl
   | some a=>
    simp only[eJ9];rw[show k+1+a=k+(a+1) by omega]
def bf6(V:List Vx)(v:Vx):al0 (as6 V) v=(atV V v).map λa=>.int .i64 (a:Int):=by
 unfold as6 atV;rw[cf4];simp
def dQ3(V:List Vx)(v:Vx):as6 (V++[v])=as6 V++[(v,.int .i64 (V.length:Int))]:=by
 unfold as6 cp7;rw[zipIdx_append,eG8];simp
def ec2{V:List Vx}{v:Vx}(h:v∉V):al0 (as6 V) v=none:=by
 rw[bf6];cases e:atV V v with
 | none=>rfl
 | some a=>exact fj (Z8.1 (by rw[e];rfl)) h
def bm6(V:List Vx)(v:Vx):(al0 (as6 V) v).getD (.int .i64 0) = .int .i64 ((C5 V v:Nat):Int):=by
 rw[bf6];unfold C5;cases atV V v<;>rfl
def bt5(V:List Vx)(v:Vx):(al0 (as6 V) v).isSome=decide (v∈V):=by
 rw[bf6,Option.isSome_map,eO8,Z8,decide_eq_true_iff]
def ae3(V:List Vx)(L:List Eg):List (List (Int×Int)):=(range V.length).map λa=>(L.filter λe=>decide (C5 V e.src=a)).map λe=>(((C5 V e.dst:Nat):Int),e.kind)
def ae5(V:List Vx)(L:List Eg):List (List (Int×Int)):=(range V.length).map λa=>(L.filter λe=>decide (C5 V e.dst=a)).map λe=>(((C5 V e.src:Nat):Int),e.kind)
def ai8(R:List (List (Int×Int)))(ks:List Int):List (List Int):=R.map λr=>(r.filter λt=>ks.contains t.2).map (·.1)
def ar3{V:List Vx}{L:List Eg}:(ae3 V L).length=V.length:=by simp[ae3]
def ah7{V:List Vx}{L:List Eg}:(ae5 V L).length=V.length:=by simp[ae5]
def cg4(V:List Vx)(L:List Eg)(ks:List Int):ai8 (ae5 V L) ks=P9 V L ks:=by
 unfold ai8 ae5 P9;rw[map_map];refine map_congr_left λa _=>?_;simp only[Function.comp,filter_map,map_map,filter_filter];rfl
def dm7(V:List Vx):ae3 V []=replicate V.length []:=by
 apply eK8
 .simp[ae3]
 .intro j a b;simp[ae3]
def dn4(V:List Vx):ae5 V []=replicate V.length []:=by
 apply eK8
 .simp[ae5]
 .intro j a b;simp[ae5]
def bg8{V:List Vx}{L:List Eg}{a}(h:a<V.length):(ae3 V L)[a]?=some ((L.filter λe=>decide (C5 V e.src=a)).map λe=>(((C5 V e.dst:Nat):Int),e.kind)):=by simp[ae3,h]
def dn3{V:List Vx}{L:List Eg}{a}(h:a<V.length):(ae5 V L)[a]?=some ((L.filter λe=>decide (C5 V e.dst=a)).map λe=>(((C5 V e.src:Nat):Int),e.kind)):=by simp[ae5,h]
def cR0{V:List Vx}(L:List Eg)(e:Eg):ae3 V (L++[e])=(ae3 V L).set (C5 V e.src) (((L.filter λx=>decide (C5 V x.src=C5 V e.src)).map λx=>(((C5 V x.dst:Nat):Int),x.kind))++[(((C5 V e.dst:Nat):Int),e.kind)]):=by
 apply eK8
 .simp[ae3]
 .intro j a b;rw[getElem_set];simp only[ae3,eL1,eQ3,eJ8,eG8];by_cases hj:C5 V e.src=j
  .subst hj;simp[]
  .rw[fh hj];simp[hj]
def cR6{V:List Vx}(L:List Eg)(e:Eg):ae5 V (L++[e])=(ae5 V L).set (C5 V e.dst) (((L.filter λx=>decide (C5 V x.dst=C5 V e.dst)).map λx=>(((C5 V x.src:Nat):Int),x.kind))++[(((C5 V e.src:Nat):Int),e.kind)]):=by
 apply eK8
 .simp[ae5]
 .intro j a b;rw[getElem_set];simp only[ae5,eL1,eQ3,eJ8,eG8];by_cases hj:C5 V e.dst=j
  .subst hj;simp[]
  .rw[fh hj];simp[hj]
def OkA(n:Nat)(R:List (List (Int×Int))):Prop:=∀r∈R,r.length<=1000000000/\∀t∈r,J2 n t.1=true/\1<=t.2/\t.2<=6
def dD3{V:List Vx}{L:List Eg}(b:0<V.length)(d:∀e∈L,1<=e.kind/\e.kind<=6)(f:L.length<=1000000000):OkA V.length (ae3 V L):=λr g=>by
 obtain⟨a,_,rfl⟩:=eF2.1 g;refine⟨by rw[eE3];exact eD7 (eG0 _ _) f,λt h=>?_⟩;obtain⟨e,c,rfl⟩:=eF2.1 h;exact⟨an1 b _,d e (eF6.1 c).1⟩
def cE5{V:List Vx}{L:List Eg}(b:0<V.length)(d:∀e∈L,1<=e.kind/\e.kind<=6)(f:L.length<=1000000000):OkA V.length (ae5 V L):=λr g=>by
 obtain⟨a,_,rfl⟩:=eF2.1 g;refine⟨by rw[eE3];exact eD7 (eG0 _ _) f,λt h=>?_⟩;obtain⟨e,c,rfl⟩:=eF2.1 h;exact⟨an1 b _,d e (eF6.1 c).1⟩
def cC4{R:List (List (Int×Int))}{ks:List Int}{a b:Int}:b∈F1 (ai8 R ks) a↔J2 R.length a=true/\∃k∈ks,(b,k)∈R.getD a.toNat []:=by
 unfold ai8;have d:∀c:Nat,(R.map λr=>(r.filter λt=>ks.contains t.2).map (·.1)).getD c []=((R.getD c []).filter λt=>ks.contains t.2).map (·.1):=λc=>by
  simp only[getD_eq_getElem?_getD,eH2];cases R[c]?<;>rfl
 unfold F1;by_cases h:J2 R.length a=true
 .rw[eE3,fi (C0.1 h),d];constructor
  .intro hm;obtain⟨t,i,rfl⟩:=eF2.1 hm;obtain⟨f,e⟩:=eF6.1 i;exact⟨h,t.2,eE6.1 e,f⟩
  .rintro⟨_,k,g,hm⟩;exact eF2.2 ⟨(b,k),eF6.2 ⟨hm,eE6.2 g⟩,rfl⟩
 .rw[eE3,fh λe=>h (C0.2 e)];simp[h]
def dD4{R:List (List (Int×Int))}{ks:List Int}(h:OkA R.length R):OkR (ai8 R ks):=λa b f=>by
 obtain⟨d,k,_,hm⟩:=cC4.1 f;have g:(ai8 R ks).length=R.length:=by simp[ai8]
 rw[g];have e:=C0.1 d;have c:a.toNat<R.length:=om
 rw[getD_eq_getElem?_getD,eD1 c]at hm;exact((h _ (eE1 c)).2 _ hm).1
structure SpJ (nx:List (List Int)) (S0:List Bool) (todo:List Int) (S:List Bool) (x:Int->Prop):Prop where
 len:S.length=S0.length
 sub:∀b,A5 S0 b=true->A5 S b=true
 via:∀b,A5 S b=true->∃a,A5 S0 a=true/\Y6 nx a b
 td:∀c∈todo,A5 S c=true
 done:∀c,A5 S c=true->c∈todo\/x c\/∀d∈F1 nx c,A5 S d=true
section
variable {nx:List (List Int)} {S0 S:List Bool} {todo:List Int} {x:Int->Prop}
def SpJ.start:SpJ nx S0 (af1 S0) S0 (λ_=>False):=
 ⟨rfl,λ_ h=>h,λb h=>⟨b,h,.refl⟩,λc a=>R1.1 a,λc a=>.inl (R1.2 a)⟩
def SpJ.pop{c}(h:SpJ nx S0 (todo++[c]) S (λ_=>False)):SpJ nx S0 todo S (λd=>d=c)/\A5 S c=true:=by
 refine⟨⟨h.len,h.sub,h.via,λd e=>h.td d (eF9 _ e),λd e=>?_⟩,h.td c dG⟩;rcases h.done d e with a|a|a
 .rcases eE0.1 a with b|b
  .exact .inl b
  .exact .inr (.inl (by simpa using b))
 .exact a.elim
 .exact .inr (.inr a)
def SpJ.close{c}(h:SpJ nx S0 todo S (λd=>d=c))(e:∀d∈F1 nx c,A5 S d=true):SpJ nx S0 todo S (λ_=>False):=by
 refine⟨h.len,h.sub,h.via,h.td,λd b=>?_⟩;rcases h.done d b with a|a|a
 .exact .inl a
 .subst a;exact .inr (.inr e)
 .exact .inr (.inr a)
def SpJ.push{c d:Int}(h:SpJ nx S0 todo S x)(n:A5 S c=true)(o:J2 S.length d=true)(hw:d∈F1 nx c):SpJ nx S0 (todo++[d]) (S.set d.toNat true) x:=by
 have j:∀e,A5 (S.set d.toNat true) e=if e=d then true else A5 S e:=λe=>O2 o;have f:∀e,A5 S e=true->A5 (S.set d.toNat true) e=true:=λe k=>by rw[j,k];simp
 refine⟨by rw[eK6,h.len],λb l=>f b (h.sub b l),λb l=>?_,λe k=>?_,λe k=>?_⟩
 .rw[j]at l;split at l
  .next e=>
   subst e;obtain⟨a,i,m⟩:=h.via c n;exact⟨a,i,.step m hw⟩
  .exact h.via b l
 .rcases eE0.1 k with i|i
  .exact f e (h.td e i)
  .simp at i;subst i;rw[j];simp
 .rw[j]at k;split at k
  .next i=>subst i;exact .inl dG
  .rcases h.done e k with i|i|i
   .exact .inl (eF9 _ i)
   .exact .inr (.inl i)
   .exact .inr (.inr λg p=>f g (i g p))
def SpJ.fin(h:SpJ nx S0 [] S (λ_=>False))(f:OkR nx)(g:nx.length=S0.length):S=I0 nx S0:=by
 refine bO6 (by rw[h.len,G5]) λb=>?_;rw[N2 f g];refine⟨h.via b,?_⟩;rintro⟨a,d,i⟩
 induction i with
 | refl=>exact h.sub a d
 | step _ e j=>
  rcases h.done _ j with c|c|c
  .simp at c
  .exact c.elim
  .exact c _ e
end
section
variable {p:Pg}
def cr3(hm:O1 p=true):p.procs.length<=16:=by
 unfold O1 at hm;simp only[eF1,eH1]at hm;exact hm.1.1.2
def bd1(a:E3 p):(b9 p).reached.length<=16:=by
 have b:=J5 (bk1 a.toKnown) (λn c=>bv9 a.toKnown c);rw[eE3]at b;have:=cr3 a.may;omega
def ah0(a:E3 p)(hw:C1 p<=1000000):(b9 p).wv.length<=480000:=by
 have d:=bd1 a;have f:=U3 (λn=>(b9 p).verts ((b9 p).s.pr n)) 30000 (b9 p).reached λn c=>by
  obtain⟨i,b,e,_⟩:=U6 a.toKnown c;simp only[e];exact aQ7 a hw b
 have e:(b9 p).wv.length=((b9 p).reached.flatMap λn=>(b9 p).verts ((b9 p).s.pr n)).length:=rfl;omega
def cC3(v:Vx):((b9 p).joinOf v).length<=1:=by
 unfold Bk.joinOf;split
 .simp
 split
 .simp
 split
 .simp
 split<;>simp
def bQ1(a:E3 p)(hw:C1 p<=1000000):((b9 p).reached.flatMap λn=>(b9 p).edges ((b9 p).s.pr n)).length<=960000000:=by
 have d:=bd1 a;have f:=U3 (λn=>(b9 p).edges ((b9 p).s.pr n)) 60000000 (b9 p).reached λn c=>by
  obtain⟨i,b,e,_⟩:=U6 a.toKnown c;simp only[e];exact ce5 a hw b
 omega
def dd6(a:E3 p)(hw:C1 p<=1000000):(b9 p).we0.length<=960480000:=by
 have b:=bQ1 a hw;have c:=U3 (b9 p).joinOf 1 (b9 p).wv λv _=>cC3 v;have d:=ah0 a hw;unfold Bk.we0;rw[eD4];omega
def bo9(b:E3 p)(hw:C1 p<=1000000):(b9 p).we.length<=960480000:=by
 have a:=dd6 b hw;unfold Bk.we ac6 at *;apply eD7 (ak8 _);rw[(H8 cy6 _).length_eq];exact a
def cu0(a:C8 p=true)(hw:C1 p<=1000000){e:Eg}(b:e∈(b9 p).we):1<=e.kind/\e.kind<=6:=by
 rcases av7 a hw b with⟨_,_,h⟩|⟨v,h⟩
 .omega
 .rcases h.kind with h|h|h<;>omega
def dG0(p:Pg):List Eg:=(b9 p).wv.flatMap λv=>((b9 p).wv.filter λu=>decide (u.proc=v.proc/\u.kind=5/\u.id=v.id)).map λu=>(⟨u,v,3⟩:Eg)
def dk1{L:List Eg}{e:Eg}(h:aK7 (b9 p).wv L e):e∈dG0 p:=by
 obtain⟨c,f,i,d,_,_,_,_,_,x,_,a⟩:=h;obtain⟨_,v,b,hm,rfl⟩:=aA6.1 a;exact eG1.2 ⟨v,eF7 b,eF2.2 ⟨_,eF6.2 ⟨hm,dG⟩,rfl⟩⟩
def dF1(e:E3 p)(hw:C1 p<=1000000)(v:Vx):((b9 p).wv.filter λu=>decide (u.proc=v.proc/\u.kind=5/\u.id=v.id)).length<=33:=by
 generalize D:((b9 p).wv.filter λu=>decide (u.proc=v.proc/\u.kind=5/\u.id=v.id))=F;have d:∀u∈F,u∈(b9 p).wv/\u.proc=v.proc/\u.kind=5/\u.id=v.id:=λu k=>by
  rw[<-D]at k;obtain⟨l,J⟩:=eF6.1 k;exact⟨l,eD3 J⟩
 have N:F.Nodup:=by rw[<-D];exact(Z7 e hw).sublist filter_sublist
 cases hFF:F with
 | nil=>simp
 | cons u S=>
  rw[<-hFF];have k:u∈F:=by rw[hFF];simp
  obtain⟨l,_,K,L⟩:=d u k;obtain⟨i,G,O,T,q⟩:=av9 e.toKnown l;have g:=ag8 e.may hw G q (.inr (.inl K));obtain⟨y,R⟩:=K1 e.may hw i G;obtain⟨c,H⟩:=aa7 (e.fits _ (bc7 R g.mem) (g.call om));have o:(b9 p).s.pr ((i5 p).it u.id).s.proc=(c:Int):=H.pr;have E:=ar9 e hw H.lt;have f:∀x∈F,x.slot∈(b9 p).slotsIn (c:Int):=λx r=>by
   obtain⟨P,_,I,Q⟩:=d x r;obtain⟨j,M,_,_,m⟩:=av9 e.toKnown P;have:=(ag8 e.may hw M m (.inr (.inl I))).sin I;rw[Q,<-L,o]at this;exact this
  have n:(F.map (·.slot)).Nodup:=by
   rw[nodup_iff_pairwise_ne,pairwise_map];refine N.imp_of_mem fun{a b} ha E hne h=>hne ?_;obtain⟨_,t,w,z⟩:=d a ha;obtain⟨_,A,B,C⟩:=d b E;cases a;cases b;simp only at t w z A B C h;rw[t,w,z,A,B,C,h]
  have:=J5 n λs h=>by
   obtain⟨x,r,rfl⟩:=eF2.1 h;exact f x r
  rw[eE3]at this;omega
def dG1(a:E3 p)(hw:C1 p<=1000000):(dG0 p).length<=15840000:=by
 have b:=ah0 a hw;have c:=U3 (λv=>((b9 p).wv.filter λu=>decide (u.proc=v.proc/\u.kind=5/\u.id=v.id)).map λu=>(⟨u,v,3⟩:Eg)) 33 (b9 p).wv λv _=>by
  rw[eE3];exact dF1 a hw v
 unfold dG0;omega
def dc5{e:Eg}(h:e∈(b9 p).sums):e∈dG0 p:=by
 have c:=bo3 (V:=(b9 p).wv) (E:=(b9 p).we) (C:=(b9 p).sums.filter λx=>(dG0 p).contains x) (λx a=>by
  have b:x∈(b9 p).sums:=aM0 x (a.le λy d=>by
   rcases eE0.1 d with h|h
   .exact eF9 _ h
   .exact eH0 _ ((eF6.1 h).1))
  exact eF6.2 ⟨b,eE6.2 (dk1 a)⟩) e h
 exact eE6.1 (eF6.1 c).2
structure bq3 (p:Pg) (C:List Eg):Prop where
 nd:C.Nodup
 le:∀e∈C,e∈(b9 p).sums
def bq3.few{C:List Eg}(h:bq3 p C)(b:E3 p)(hw:C1 p<=1000000):C.length<=15840000:=
 eD7 (J5 h.nd λe a=>dc5 (h.le e a)) (dG1 b hw)
def bq3.kind{C:List Eg}(h:bq3 p C){e:Eg}(c:e∈C):e.kind=3/\e.src∈(b9 p).wv/\e.dst∈(b9 p).wv/\e.src.kind=5:=by
 obtain⟨v,f,hm⟩:=eG1.1 (dc5 (h.le e c));obtain⟨u,d,rfl⟩:=eF2.1 hm;obtain⟨a,b⟩:=eF6.1 d;exact⟨rfl,a,f,(eD3 b).2.1⟩
def bN3(V:List Vx)(L C:List Eg)(o:Nat):Prop:=∀b,V[o]?=some b->b.kind=4->∀(i:Int) (a:Vx),Y6 (V7 V L [1,2,3]) i (o:Int)->V[i.toNat]?=some a->a.kind=3->∀x∈L,∀e∈aI0 V o a.slot x,e∈C
def dp5{C:List Eg}(h:bq3 p C)(g:∀o,o<(b9 p).wv.length->bN3 (b9 p).wv ((b9 p).we++C) C o):∀e,e∈C↔e∈(b9 p).sums:=
 dT2 (λe ⟨o,m,i,l,a,b,c,d,f,x,k,j⟩=>g o (eD8.1 a).1 m a b i l c d f x k e j) h.le
def bP5{V:List Vx}{L M:List Eg}{ks:List Int}(c:0<V.length)(h:∀e,e∈L↔e∈M){S:List Bool}(hS:S.length=V.length):I0 (P9 V L ks) S=I0 (P9 V M ks) S/\I0 (V7 V L ks) S=I0 (V7 V M ks) S:=by
 constructor
 .refine bO6 (by rw[G5,G5]) λb=>?_;rw[N2 (ae4 c) (by rw[Z0,hS]),N2 (ae4 c) (by rw[Z0,hS])];constructor
  .rintro⟨a,d,f⟩;exact⟨a,d,(U1 c).1 ((bx9 h).1 ((U1 c).2 f))⟩
  .rintro⟨a,d,f⟩;exact⟨a,d,(U1 c).1 ((bx9 h).2 ((U1 c).2 f))⟩
 .refine bO6 (by rw[G5,G5]) λb=>?_;rw[N2 (aA9 c) (by rw[au3,hS]),N2 (aA9 c) (by rw[au3,hS])];constructor
  .rintro⟨a,d,f⟩;exact⟨a,d,(bx9 h).1 f⟩
  .rintro⟨a,d,f⟩;exact⟨a,d,(bx9 h).2 f⟩
end
def bs7(V:List Vx)(C:List Eg):List ((Int×Int)×Value):=C.map λe=>((((C5 V e.src:Nat):Int),((C5 V e.dst:Nat):Int)),true)
def cZ5{V:List Vx}{C:List Eg}(l:∀e∈C,e.kind=3/\e.src∈V/\e.dst∈V){u v:Vx}(o:u∈V)(hv:v∈V):
  (al0 (bs7 V C) (((C5 V u:Nat):Int),((C5 V v:Nat):Int))).getD false=(decide ((⟨u,v,3⟩:Eg)∈C)):=by
 have c:∀{a b:Vx},a∈V->b∈V->C5 V a=C5 V b->a=b:=fun{a b} ha hb e=>by
  have d:=P7 ha;have f:=P7 hb;rw[e,f]at d;exact(eF3 d).symm
 induction C with
 | nil=>rfl
 | cons e C q=>
  have i:=q λx p=>l x (eI1 _ p);obtain⟨d,f,m⟩:=l e dG;unfold al0 bs7 at *;rw[eI4,find?_cons];by_cases h:(⟨u,v,3⟩:Eg)=e
  .subst h;simp
  .have g:¬((((C5 V u:Nat):Int),((C5 V v:Nat):Int))=(((C5 V e.src:Nat):Int),((C5 V e.dst:Nat):Int))):=λn=>by
    simp only[Prod.mk.injEq]at n;apply h;have j:=c o f om;have k:=c hv m om;cases e;simp only at d j k;rw[j,k,d]
   rw[eG7 g];simp only[eF0,h,false_or];exact i
def dy9{V:List Vx}{C:List Eg}(a:∀e∈C,e.kind=3/\e.src∈V/\e.dst∈V){u v:Vx}(b:u∈V)(hv:v∈V)(hn:(⟨u,v,3⟩:Eg)∉C):al0 (bs7 V C) (((C5 V u:Nat):Int),((C5 V v:Nat):Int))=none:=by
 have h:=cZ5 a b hv;cases he:al0 (bs7 V C) (((C5 V u:Nat):Int),((C5 V v:Nat):Int))with
 | none=>rfl
 | some x=>
  exfalso
  rw[he,eG7 hn]at h;unfold al0 at he;obtain⟨y,c,rfl⟩:=Option.map_eq_some_iff.1 he;obtain⟨e,_,rfl⟩:=eF2.1 (mem_of_find?_eq_some c);simp at h
def hZ:Hp:=λ_=>none
def L4(h):E6 hZ h:=λ_ _ e=>nomatch e
abbrev TWh:TypeId:=91
abbrev TVx:TypeId:=27
abbrev TEg:TypeId:=54
abbrev TAr:TypeId:=218
abbrev TAs:TypeId:=216
def eo9:I4 prog 216 218 2 16=true:=kr
def ep0:I4 prog 89 216 1 24=true:=kr
def dW3:∃a,prog.info? 216=some a/\a.size=1:=ay1 dJ5 dI1
structure WX where
 vV:Value
 vE:Value
 vS:Value
 vn:Value
 un:List Raw
 vp:Value
 up:List Raw
structure WC where
 V:List Vx
 E:List Eg
 S:List Eg
 kv:List (Vx×Value)
 N:List (List (Int×Int))
 P:List (List (Int×Int))
def Z5(g r:Nat)(x:WX):Nat->Nat->Prop
 | 0,b=>b=g
 | 1,b=>b=r
 | 2,b=>B0 x.vV b
 | 3,b=>B0 x.vE b
 | 4,b=>B0 x.vS b
 | 5,b=>Q6 x.vn x.un b
 | 6,b=>Q6 x.vp x.up b
 | _,_=>False
def wcs(a:Addr)(b:Value)(r:Nat)(x:WX):Array Value:=#[a,b,x.vV,x.vE,x.vS,.map (some r),x.vn,x.vp]
structure WS (w1 w:World) (g r:Nat) (ab:Addr) (vP:Value) (x:WX) (c:WC):Prop where
 ext:o6 w1 w
 cb:w.heap[g]?=some (.cells (wcs ab vP r x) TWh (0,0))
 map:aC0 Vx.enc w r c.kv
 oV:B7 hZ w TVx x.vV c.V
 oE:B7 hZ w TEg x.vE c.E
 oS:B7 hZ w TEg x.vS c.S
 rn:E1 hZ w TAs TAr x.vn x.un c.N
 rp:E1 hZ w TAs TAr x.vp x.up c.P
 new:∀i b,Z5 g r x i b->w1.heap.size<=b
 apart:∀i j b,Z5 g r x i b->Z5 g r x j b->i=j
section
variable {w1 w w':World} {g r:Nat} {ab:Addr} {vP:Value} {x:WX} {c:WC}
def WS.lt(s:WS w1 w g r ab vP x c):∀{i b:Nat},Z5 g r x i b->b<w.heap.size
 | 0,b,h=>by obtain rfl:b=g:=h;exact(eD5.1 s.cb).1
 | 1,b,h=>by obtain rfl:b=r:=h;exact s.map.lt
 | 2,b,h=>s.oV.lt h
 | 3,b,h=>s.oE.lt h
 | 4,b,h=>s.oS.lt h
 | 5,b,h=>s.rn.lt h
 | 6,b,h=>s.rp.lt h
 | _+7,_,h=>h.elim
def WS.off(s:WS w1 w g r ab vP x c){i j b}(a:i≠j)(h:Z5 g r x i b):¬Z5 g r x j b:=λd=>a (s.apart i j b h d)
def WS.mod(s:WS w1 w g r ab vP x c){M:Nat->Prop}(hm:t8 M w w')(d:∀b,M b->w1.heap.size<=b/\∀i,¬Z5 g r x i b):WS w1 w' g r ab vP x c:=
 ⟨t8.ext_of s.ext hm λb a=>(d b a).1,(hm.block g (s.lt (i:=0) rfl) λh=>(d g h).2 0 rfl).trans s.cb,s.map.mod hm λh=>(d r h).2 1 rfl,
  s.oV.mod hm λb a h=>(d b h).2 2 a,s.oE.mod hm λb a h=>(d b h).2 3 a,s.oS.mod hm λb a h=>(d b h).2 4 a,s.rn.mod hm λb a h=>(d b h).2 5 a,s.rp.mod hm λb a h=>(d b h).2 6 a,s.new,s.apart⟩
def WS.more(s:WS w1 w g r ab vP x c)(a:o6 w w'):WS w1 w' g r ab vP x c:=s.mod a λ_ h=>h.elim
def WS.base(s:WS w1 w g r ab vP x c):E6 (n8 w1) (n8 w):=b7 s.ext
theorem WS.rV(s:WS w1 w g r ab vP x c):R (n8 w) x.vV c.V:=s.oV.flatRN λ_ _=>rfl
theorem WS.rE(s:WS w1 w g r ab vP x c):R (n8 w) x.vE c.E:=s.oE.flatRN λ_ _=>rfl
def WS.ld(s:WS w1 w g r ab vP x c){i u t}(b:(wcs ab vP r x)[i]?=some u)(a:L7 prog t=false):(Instr.loadAt t (.pointer (some ⟨g,i,none⟩))).run prog w = .ok u w:=F9 s.cb b a
def WS.parts(s:WS w1 w g r ab vP x c){x'}(i)(a:∀j,j≠i->∀b,Z5 g r x' j b->Z5 g r x j b)(n:∀b,Z5 g r x' i b->Z5 g r x i b\/w.heap.size<=b):
  (∀j b,Z5 g r x' j b->w1.heap.size<=b)/\(∀j k b,Z5 g r x' j b->Z5 g r x' k b->j=k):=by
 have f:∀j b,Z5 g r x' j b->(Z5 g r x j b)\/(j=i/\w.heap.size<=b):=λj b h=>by
  by_cases hj:j=i
  .subst hj;exact(n b h).imp id λh=>⟨rfl,h⟩
  .exact .inl (a j hj b h)
 refine⟨λj b h=>?_,λj k b d e=>?_⟩
 .rcases f j b h with h|⟨_,h⟩
  .exact s.new j b h
  .exact eD7 s.ext.size h
 .rcases f j b d with d|⟨l,d⟩<;>rcases f k b e with e|⟨m,e⟩
  .exact s.apart j k b d e
  .have:=s.lt d;omega
  .have:=s.lt e;omega
  .rw[l,m]
def cJ3{k}{cs:Array Value}(d:w.heap[g]?=some (.cells cs TWh (0,0)))(e:k<cs.size){v}(hS:isS v=true){t}{c:TypeInfo}(a:prog.info? t=some c)(f:c.size=1):
  ∃w',(Instr.storeAt t (.pointer (some ⟨g,k,none⟩)) v).run prog w = .ok () w'/\w'.heap[g]?=some (.cells (cs.setIfInBounds k v) TWh (0,0))/\t8 (λb=>b=g) w w':=
 ai1 (P:=prog) d e (G3 hS) (aa9 hS) a f
def WS.putV(s:WS w1 w g r ab vP x c){v'}{l:List Vx}(hm:t8 (B0 x.vV) w w')(v:B7 hZ w' TVx v' l)(hv:F4 w x.vV v'){t}{n:TypeInfo}(m:prog.info? t=some n)(B:n.size=1):
  ∃d,(Instr.storeAt t (.pointer (some ⟨g,2,none⟩)) v').run prog w' = .ok () d/\WS w1 d g r ab vP {x with vV:=v'} {c with V:=l}/\t8 (λb=>b=g) w' d:=by
 have u:=s.parts (x':={x with vV:=v'}) 2 (λj A b h=>by match j,A,h with|0,_,h=>exact h|1,_,h=>exact h|3,_,h=>exact h|4,_,h=>exact h|5,_,h=>exact h|6,_,h=>exact h|_+7,_,h=>exact h.elim) hv;have q:=(hm.block g (s.lt (i:=0) rfl) (s.off (i:=0) (j:=2) dR rfl)).trans s.cb;obtain⟨d,z,o,f⟩:=cJ3 (k:=2) q (by decide +kernel:2<8) v.isS m B;have C:=t8.ext_of (t8.ext_of s.ext hm λb a=>s.new 2 b a) f λb a=>by subst a;exact s.new 0 _ rfl
 have e:∀{i:Nat} {b:Nat},i≠2->i≠0->Z5 g r x i b->¬B0 x.vV b/\¬b=g:=λo y h=>⟨s.off (j:=2) o h,s.off (j:=0) y h⟩;refine⟨d,z,⟨C,o,(s.map.mod hm (e (i:=1) dR dR rfl).1).mod f (e (i:=1) dR dR rfl).2,v.mod f λb a p=>?_,?_,?_,?_,?_,u.1,u.2⟩,f⟩
 .exact fj (u.2 2 0 b a p) dR
 .exact(s.oE.mod hm λb a=>(e (i:=3) dR dR a).1).mod f λb a=>(e (i:=3) dR dR a).2
 .exact(s.oS.mod hm λb a=>(e (i:=4) dR dR a).1).mod f λb a=>(e (i:=4) dR dR a).2
 .exact(s.rn.mod hm λb a=>(e (i:=5) dR dR a).1).mod f λb a=>(e (i:=5) dR dR a).2
 .exact(s.rp.mod hm λb a=>(e (i:=6) dR dR a).1).mod f λb a=>(e (i:=6) dR dR a).2
def WS.putE(s:WS w1 w g r ab vP x c){v'}{l:List Eg}(hm:t8 (B0 x.vE) w w')(v:B7 hZ w' TEg v' l)(hv:F4 w x.vE v'){t}{n:TypeInfo}(m:prog.info? t=some n)(B:n.size=1):
  ∃d,(Instr.storeAt t (.pointer (some ⟨g,3,none⟩)) v').run prog w' = .ok () d/\WS w1 d g r ab vP {x with vE:=v'} {c with E:=l}/\t8 (λb=>b=g) w' d:=by
 have u:=s.parts (x':={x with vE:=v'}) 3 (λj A b h=>by match j,A,h with|0,_,h=>exact h|1,_,h=>exact h|2,_,h=>exact h|4,_,h=>exact h|5,_,h=>exact h|6,_,h=>exact h|_+7,_,h=>exact h.elim) hv;have q:=(hm.block g (s.lt (i:=0) rfl) (s.off (i:=0) (j:=3) dR rfl)).trans s.cb;obtain⟨d,z,o,f⟩:=cJ3 (k:=3) q (by decide +kernel:3<8) v.isS m B;have C:=t8.ext_of (t8.ext_of s.ext hm λb a=>s.new 3 b a) f λb a=>by subst a;exact s.new 0 _ rfl
 have e:∀{i:Nat} {b:Nat},i≠3->i≠0->Z5 g r x i b->¬B0 x.vE b/\¬b=g:=λo y h=>⟨s.off (j:=3) o h,s.off (j:=0) y h⟩;refine⟨d,z,⟨C,o,(s.map.mod hm (e (i:=1) dR dR rfl).1).mod f (e (i:=1) dR dR rfl).2,?_,v.mod f λb a p=>?_,?_,?_,?_,u.1,u.2⟩,f⟩
 .exact(s.oV.mod hm λb a=>(e (i:=2) dR dR a).1).mod f λb a=>(e (i:=2) dR dR a).2
 .exact fj (u.2 3 0 b a p) dR
 .exact(s.oS.mod hm λb a=>(e (i:=4) dR dR a).1).mod f λb a=>(e (i:=4) dR dR a).2
 .exact(s.rn.mod hm λb a=>(e (i:=5) dR dR a).1).mod f λb a=>(e (i:=5) dR dR a).2
 .exact(s.rp.mod hm λb a=>(e (i:=6) dR dR a).1).mod f λb a=>(e (i:=6) dR dR a).2
def WS.putS(s:WS w1 w g r ab vP x c){v'}{l:List Eg}(hm:t8 (B0 x.vS) w w')(v:B7 hZ w' TEg v' l)(hv:F4 w x.vS v'){t}{n:TypeInfo}(m:prog.info? t=some n)(B:n.size=1):
  ∃d,(Instr.storeAt t (.pointer (some ⟨g,4,none⟩)) v').run prog w' = .ok () d/\WS w1 d g r ab vP {x with vS:=v'} {c with S:=l}/\t8 (λb=>b=g) w' d:=by
 have u:=s.parts (x':={x with vS:=v'}) 4 (λj A b h=>by match j,A,h with|0,_,h=>exact h|1,_,h=>exact h|2,_,h=>exact h|3,_,h=>exact h|5,_,h=>exact h|6,_,h=>exact h|_+7,_,h=>exact h.elim) hv;have q:=(hm.block g (s.lt (i:=0) rfl) (s.off (i:=0) (j:=4) dR rfl)).trans s.cb;obtain⟨d,z,o,f⟩:=cJ3 (k:=4) q (by decide +kernel:4<8) v.isS m B;have C:=t8.ext_of (t8.ext_of s.ext hm λb a=>s.new 4 b a) f λb a=>by subst a;exact s.new 0 _ rfl
 have e:∀{i:Nat} {b:Nat},i≠4->i≠0->Z5 g r x i b->¬B0 x.vS b/\¬b=g:=λo y h=>⟨s.off (j:=4) o h,s.off (j:=0) y h⟩;refine⟨d,z,⟨C,o,(s.map.mod hm (e (i:=1) dR dR rfl).1).mod f (e (i:=1) dR dR rfl).2,?_,?_,v.mod f λb a p=>?_,?_,?_,u.1,u.2⟩,f⟩
 .exact(s.oV.mod hm λb a=>(e (i:=2) dR dR a).1).mod f λb a=>(e (i:=2) dR dR a).2
 .exact(s.oE.mod hm λb a=>(e (i:=3) dR dR a).1).mod f λb a=>(e (i:=3) dR dR a).2
 .exact fj (u.2 4 0 b a p) dR
 .exact(s.rn.mod hm λb a=>(e (i:=5) dR dR a).1).mod f λb a=>(e (i:=5) dR dR a).2
 .exact(s.rp.mod hm λb a=>(e (i:=6) dR dR a).1).mod f λb a=>(e (i:=6) dR dR a).2
def WS.key(s:WS w1 w g r ab vP x c){a:Vx}(m:al0 c.kv a=none)(v):
  ∃w',(Instr.mapUpdate 88 (.map (some r)) (Vx.enc a) v).run prog w = .ok () w'/\WS w1 w' g r ab vP x {c with kv:=c.kv++[(a,v)]}:=by
 obtain⟨w',k,l,e⟩:=s.map.push (P:=prog) ec1 Tryz.underlying88 m v;have f:∀{i:Nat} {b:Nat},i≠1->Z5 g r x i b->¬b=r:=λn h=>s.off (j:=1) n h;refine⟨w',k,t8.ext_of s.ext e λb d=>by subst d;exact s.new 1 _ rfl,(e.block g (s.lt (i:=0) rfl) (f (i:=0) dR rfl)).trans s.cb,l,?_,?_,?_,?_,?_,s.new,s.apart⟩
 .exact s.oV.mod e λb d=>f (i:=2) dR d
 .exact s.oE.mod e λb d=>f (i:=3) dR d
 .exact s.oS.mod e λb d=>f (i:=4) dR d
 .exact s.rn.mod e λb d=>f (i:=5) dR d
 .exact s.rp.mod e λb d=>f (i:=6) dR d
def WS.look(s:WS w1 w g r ab vP x c)(a:Vx):(Instr.lookup 88 (.map (some r)) a false).run prog w = .ok ((al0 c.kv a).getD (0:Int)) w:=
 s.map.lookup (P:=prog) ec1 Tryz.underlying88 aN0 a
def WS.lookOk(s:WS w1 w g r ab vP x c)(a:Vx):(Instr.lookup 88 (.map (some r)) a true).run prog w = .ok (.tuple #[(al0 c.kv a).getD (0:Int),(al0 c.kv a).isSome]) w:=
 s.map.lookupOk (P:=prog) ec1 Tryz.underlying88 aN0 a
end
def dE6{P h w T t v}{us:List Raw}(e:B7 h w T v us){i}{u:Raw}(d:us[i]?=some u)(f:L7 P t=false):
  (Instr.loadAt t (I2 v i)).run P w = .ok u.v w:=by
 obtain⟨g,⟨c,_⟩,b⟩:=e.get d;have:=b 0 u.v (by rw[c];rfl);rw[O9]at this;have a:(i*A9.sz Raw)=i:=eM2 i;rw[a]at this;exact ab0 f this
def E1.roK{α:Type}[A9 α]{h k w T T' v}{us:List Raw}{d:List (List α)}(l:E1 h w T T' v us d)(hw:E6 h k)(hb:∀b,Q6 v us b->k b=w.heap[b]?):R k v d:=by
 obtain⟨a,n,c,e,y,z,f,A,B⟩:=(l.outer.ro hw λb h=>hb b (.inl h));refine⟨a,n,c,e,by rw[y,l.len],z,f,?_,B⟩;have r:∀(us:List Raw) (d:List (List α)) (f:List Value),us.length=d.length->V4 k f us ->
   (∀(i:Nat) (u:Raw) (g:List α),us[i]?=some u->d[i]?=some g->R k u.v g)->V4 k f d:=by
  intro us
  induction us with
  | nil=>
   intro d f j q _;have:d=[]:=eq_nil_of_length_eq_zero j.symm;subst this;exact q
  | cons u us E=>
   intro d f j q m;cases d with
   | nil=>simp at j
   | cons g d=>
    obtain⟨G,t,rfl,⟨o,_⟩,p⟩:=q;subst o;exact⟨[u.v],t,rfl,m 0 u g rfl rfl,E d t (by simpa using j) p λi F s C D=>m (i+1) F s (by simpa using C) (by simpa using D)⟩
 exact r us d f l.len A λi u g x m=>(l.row i u g x m).ro hw λb h=>hb b (.inr ⟨u,eF7 x,h⟩)
def bv8{v u'}{us:List Raw}{i}{u:Raw}{w}(d:us[i]?=some u)(a:F4 w u.v u'){b}(h:Q6 v (us.set i ⟨u'⟩) b):Q6 v us b\/w.heap.size<=b:=by
 rcases h with h|⟨y,c,h⟩
 .exact .inl (.inl h)
 .rcases eM5 c with c|rfl
  .exact .inl (.inr ⟨y,c,h⟩)
  .rcases a b h with h|h
   .exact .inl (.inr ⟨u,eF7 d,h⟩)
   .exact .inr h
section
variable {w1 w:World} {g r:Nat} {ab:Addr} {vP:Value} {x:WX} {c:WC}
def WS.arcN(s:WS w1 w g r ab vP x c){i}{k:List (Int×Int)}(E:c.N[i]?=some k)(t:Int×Int)(O:k.length<=1000000000){e}:∃u:Raw,x.un[i]?=some u/\inS x.vn i=true /\
  (∀f,t8 (B0 u.v) w f->(Instr.loadAt 89 (.pointer (some ⟨g,6,none⟩))).run prog f = .ok x.vn f/\(Instr.loadAt 216 (I2 x.vn i)).run prog f = .ok u.v f) /\
  (Instr.buildSlice 216 1 #[(0,.agg #[t.1,t.2])]).run prog w = .ok (.slice (some ⟨w.heap.size,0,none⟩) 1 1) (w.alloc (.cells #[t.1,t.2] 218)) /\
  ∃o f d,(Builtin.append_ #[216,216] e #[u.v,.slice (some ⟨w.heap.size,0,none⟩) 1 1]).run prog (w.alloc (.cells #[t.1,t.2] 218)) = .ok o f /\
   (Instr.storeAt 216 (I2 x.vn i) o).run prog f = .ok () d /\
   WS w1 d g r ab vP {x with un:=x.un.set i ⟨o⟩} {c with N:=c.N.set i (k++[t])}/\t8 (Z5 g r x 5) w d/\t8 (B0 u.v) w f/\(∀b,B0 u.v b->Z5 g r x 5 b)/\∀j b,Z5 g r {x with un:=x.un.set i ⟨o⟩} j b->Z5 g r x j b\/w.heap.size<=b:=by
 have p:i<x.un.length:=by rw[s.rn.len];exact(eD8.1 E).1
 obtain⟨u,l⟩:∃u,x.un[i]?=some u:=⟨_,eD1 p⟩;have v:=s.rn.row i u k l E;obtain⟨G,q,z⟩:=dW3;have n:∀b,B0 u.v b->Z5 g r x 5 b:=λb a=>.inr ⟨u,eF7 l,a⟩;obtain⟨H,o,f,I,J,B,C⟩:=push (P:=prog) (t:=216) (e:=e) eo9 rfl v (x:=.agg #[t.1,t.2]) (y:=t) ⟨[t.1],[t.2],rfl,rfl,rfl⟩ om om (L4 _);obtain⟨d,K,L,M,Q⟩:=s.rn.put (P:=prog) (t:=216) l B J C q z;have hm:t8 (Z5 g r x 5) w d:=t8.trans (B.weaken λb _ a=>n b a) (M.weaken λb _ a=>.inl a);have F:=s.parts (x':={x with un:=x.un.set i ⟨o⟩}) 5 (λj A b h=>by match j,A,h with|0,_,h=>exact h|1,_,h=>exact h|2,_,h=>exact h|3,_,h=>exact h|4,_,h=>exact h|6,_,h=>exact h|_+7,_,h=>exact h.elim) (λb a=>bv8 l C a);have m:∀{j:Nat} {b:Nat},j≠5->Z5 g r x j b->¬Z5 g r x 5 b:=λA h=>s.off (j:=5) A h;refine⟨u,l,s.rn.outer.inS p,λR D=>⟨F9 ((D.block g (s.lt (i:=0) rfl) λh=>m (j:=0) dR rfl (n g h)).trans s.cb) rfl aJ9,dE6 (s.rn.outer.mod D λb a h=>s.rn.off i u l b h a) l bY2⟩,H,o,f,d,I,K,⟨t8.ext_of s.ext hm λb a=>s.new 5 b a,(hm.block g (s.lt (i:=0) rfl) (m (j:=0) dR rfl)).trans s.cb,s.map.mod hm (m (j:=1) dR rfl),?_,?_,?_,L,?_,F.1,F.2⟩,hm,B,n,λj b h=>by match j,h with|0,h=>exact .inl h|1,h=>exact .inl h|2,h=>exact .inl h|3,h=>exact .inl h|4,h=>exact .inl h|5,h=>exact bv8 l C h|6,h=>exact .inl h|_+7,h=>exact h.elim⟩
 .exact s.oV.mod hm λb a=>m (j:=2) dR a
 .exact s.oE.mod hm λb a=>m (j:=3) dR a
 .exact s.oS.mod hm λb a=>m (j:=4) dR a
 .exact s.rp.mod hm λb a=>m (j:=6) dR a
def WS.arcP(s:WS w1 w g r ab vP x c){i}{k:List (Int×Int)}(E:c.P[i]?=some k)(t:Int×Int)(N:k.length<=1000000000){e}:∃u:Raw,x.up[i]?=some u/\inS x.vp i=true /\
  (∀f,t8 (B0 u.v) w f->(Instr.loadAt 89 (.pointer (some ⟨g,7,none⟩))).run prog f = .ok x.vp f/\(Instr.loadAt 216 (I2 x.vp i)).run prog f = .ok u.v f) /\
  (Instr.buildSlice 216 1 #[(0,.agg #[t.1,t.2])]).run prog w = .ok (.slice (some ⟨w.heap.size,0,none⟩) 1 1) (w.alloc (.cells #[t.1,t.2] 218)) /\
  ∃o f d,(Builtin.append_ #[216,216] e #[u.v,.slice (some ⟨w.heap.size,0,none⟩) 1 1]).run prog (w.alloc (.cells #[t.1,t.2] 218)) = .ok o f /\
   (Instr.storeAt 216 (I2 x.vp i) o).run prog f = .ok () d /\
   WS w1 d g r ab vP {x with up:=x.up.set i ⟨o⟩} {c with P:=c.P.set i (k++[t])}/\t8 (Z5 g r x 6) w d/\t8 (B0 u.v) w f/\(∀b,B0 u.v b->Z5 g r x 6 b)/\∀j b,Z5 g r {x with up:=x.up.set i ⟨o⟩} j b->Z5 g r x j b\/w.heap.size<=b:=by
 have p:i<x.up.length:=by rw[s.rp.len];exact(eD8.1 E).1
 obtain⟨u,l⟩:∃u,x.up[i]?=some u:=⟨_,eD1 p⟩;have v:=s.rp.row i u k l E;obtain⟨G,q,z⟩:=dW3;have n:∀b,B0 u.v b->Z5 g r x 6 b:=λb a=>.inr ⟨u,eF7 l,a⟩;obtain⟨H,o,f,I,J,B,C⟩:=push (P:=prog) (t:=216) (e:=e) eo9 rfl v (x:=.agg #[t.1,t.2]) (y:=t) ⟨[t.1],[t.2],rfl,rfl,rfl⟩ om om (L4 _);obtain⟨d,K,L,M,O⟩:=s.rp.put (P:=prog) (t:=216) l B J C q z;have hm:t8 (Z5 g r x 6) w d:=t8.trans (B.weaken λb _ a=>n b a) (M.weaken λb _ a=>.inl a);have F:=s.parts (x':={x with up:=x.up.set i ⟨o⟩}) 6 (λj A b h=>by match j,A,h with|0,_,h=>exact h|1,_,h=>exact h|2,_,h=>exact h|3,_,h=>exact h|4,_,h=>exact h|5,_,h=>exact h|_+7,_,h=>exact h.elim) (λb a=>bv8 l C a);have m:∀{j:Nat} {b:Nat},j≠6->Z5 g r x j b->¬Z5 g r x 6 b:=λA h=>s.off (j:=6) A h;refine⟨u,l,s.rp.outer.inS p,λQ D=>⟨F9 ((D.block g (s.lt (i:=0) rfl) λh=>m (j:=0) dR rfl (n g h)).trans s.cb) rfl aJ9,dE6 (s.rp.outer.mod D λb a h=>s.rp.off i u l b h a) l bY2⟩,H,o,f,d,I,K,⟨t8.ext_of s.ext hm λb a=>s.new 6 b a,(hm.block g (s.lt (i:=0) rfl) (m (j:=0) dR rfl)).trans s.cb,s.map.mod hm (m (j:=1) dR rfl),?_,?_,?_,?_,L,F.1,F.2⟩,hm,B,n,λj b h=>by match j,h with|0,h=>exact .inl h|1,h=>exact .inl h|2,h=>exact .inl h|3,h=>exact .inl h|4,h=>exact .inl h|5,h=>exact .inl h|6,h=>exact bv8 l C h|_+7,h=>exact h.elim⟩
 .exact s.oV.mod hm λb a=>m (j:=2) dR a
 .exact s.oE.mod hm λb a=>m (j:=3) dR a
 .exact s.oS.mod hm λb a=>m (j:=4) dR a
 .exact s.rn.mod hm λb a=>m (j:=5) dR a
end
section
variable {α:Type} [DecidableEq α] {c:List α->List α} {U:List α}
def bi7(c:List α->List α)(S:List α):List α:=S++((c S).filter λe=>!S.contains e).eraseDups
def bR8(c:List α->List α)(n:Nat)(S:List α):List α:=cz7 (bi7 c) n S
def bu1{S:List α}{e:α}:e∈bi7 c S↔e∈S\/e∈c S:=by
 unfold bi7;rw[eE0,mem_eraseDups,eF6];by_cases h:e∈S<;>simp[h]
def cK3{S:List α}(h:S.Nodup):(bi7 c S).Nodup:=by
 unfold bi7;rw[eI6];refine⟨h,aE7 _ _ (eE8 _),λa f b d e=>?_⟩;subst e;rw[mem_eraseDups,eF6]at d;simp at d;exact d.2 f
def df7{S:List α}(h:bi7 c S≠S):S.length+1<=(bi7 c S).length:=by
 unfold bi7 at h ⊢;rw[eD4];cases hz:((c S).filter λe=>!S.contains e).eraseDups with
 | nil=>rw[hz]at h;simp at h
 | cons x l=>simp
def cC2(a:∀S,∀e∈c S,e∈U):∀(k:Nat) (S:List α),S.Nodup->(∀e∈S,e∈U)->(I1 (bi7 c) k S).Nodup/\∀e∈I1 (bi7 c) k S,e∈U
 | 0,S,h1,h2=>⟨h1,h2⟩
 | k+1,S,h1,h2=>cC2 a k _ (cK3 h1) λe b=>by
  rcases bu1.1 b with h|h
  .exact h2 e h
  .exact a S e h
def bH9(hm:∀S T:List α,(∀e∈S,e∈T)->∀e∈c S,e∈c T){C:List α}(b:∀e∈c C,e∈C):∀(k:Nat) (S:List α),(∀e∈S,e∈C)->∀e∈I1 (bi7 c) k S,e∈C
 | 0,S,h,e,he=>h e he
 | k+1,S,h,e,he=>by
  refine bH9 hm b k _ (λx a=>?_) e he;rcases bu1.1 a with a|a
  .exact h x a
  .exact b x (hm S C h x a)
def cC1:∀(k:Nat) (S:List α),∀e∈S,e∈I1 (bi7 c) k S
 | 0,S,e,he=>he
 | k+1,S,e,he=>cC1 k _ e (bu1.2 (.inl he))
def cA9(m:∀S,∀e∈c S,e∈U){S:List α}(hn:S.Nodup)(hS:∀e∈S,e∈U):
  (∀e∈S,e∈bR8 c (U.length+1) S)/\(∀e∈c (bR8 c (U.length+1) S),e∈bR8 c (U.length+1) S) /\
  ((∀S T:List α,(∀e∈S,e∈T)->∀e∈c S,e∈c T)->∀C:List α,(∀e∈S,e∈C)->(∀e∈c C,e∈C)->∀e∈bR8 c (U.length+1) S,e∈C):=by
 have g:∃k,k<=U.length+1/\bi7 c (I1 (bi7 c) k S)=I1 (bi7 c) k S:=by
  refine eL3 λf=>?_;have a:∀k,k<=U.length+1->k<=(I1 (bi7 c) k S).length:=by
   intro k
   induction k with
   | zero=>intro _;exact eE2 _
   | succ k n=>
    intro i;rw[af6];have:=df7 (λd=>f ⟨k,om,d⟩);have:=n om;omega
  have h:=a _ (eE8 _);obtain⟨b,l⟩:=cC2 m (U.length+1) S hn hS;have:=J5 b l;omega
 obtain⟨k,i,j⟩:=g;unfold bR8;rw[aL1 k _ _ i j];refine⟨cC1 k S,λe d=>?_,λhm C h b=>bH9 hm b k S h⟩;rw[<-j];exact bu1.2 (.inr d)
end
def upK:List Int:=[1,2,3,6]
def dnK:List Int:=[1,2,3,4,5]
def lvK:List Int:=[1,2,3]
def Bk.hopOf(b:Bk)(e:Eg):List (Nat×Nat):=
 if e.dst.kind=6/\e.dst.id=e.src.id/\b.isCall e.dst.id=true then
  (if e.kind=3 then[(C5 b.wv ⟨(b.s.it e.dst.id).s.proc,3,0,e.src.slot⟩,C5 b.wv ⟨(b.s.it e.dst.id).s.proc,4,0,e.dst.slot⟩)]
   else if e.kind=1 then[(C5 b.wv ⟨(b.s.it e.dst.id).s.proc,1,0,e0⟩,C5 b.wv ⟨(b.s.it e.dst.id).s.proc,4,0,e.dst.slot⟩)]else[])
 else[]
def aP1(b:Bk)(X Y:List Bool):List (Nat×Nat):=b.all.flatMap λe=>if(A5 X ((C5 b.wv e.src:Nat):Int)&&A5 Y ((C5 b.wv e.dst:Nat):Int))=true then b.hopOf e else[]
def Bk.behind(b:Bk)(a:Nat):List Bool:=I0 (V7 b.wv b.all lvK) (W2 b.wv.length [(a:Int)])
def Bk.ahead(b:Bk)(a:Nat):List Bool:=I0 (P9 b.wv b.all lvK) (W2 b.wv.length [(a:Int)])
def dz1(b:Bk)(H:List (Nat×Nat)):List (Nat×Nat):=H.flatMap λh=>aP1 b (b.behind h.1) (b.ahead h.2)
def Bk.first(b:Bk)(l:List Int):List Bool:=I0 (V7 b.wv b.all upK) (W2 b.wv.length l)
def Bk.last(b:Bk)(l:List Int):List Bool:=I0 (P9 b.wv b.all dnK) (W2 b.wv.length l)
def Bk.thenB(b:Bk)(l:List Int):List Bool:=I0 (V7 b.wv b.all dnK) (b.first l)
def Bk.before(b:Bk)(l:List Int):List Bool:=I0 (P9 b.wv b.all upK) (b.last l)
def Bk.hops0(b:Bk)(k l:List Int):List (Nat×Nat):=(aP1 b (b.first k) (b.before l)++aP1 b (b.thenB k) (b.last l)).eraseDups
def Bk.hops(b:Bk)(k l:List Int):List (Nat×Nat):=bR8 (dz1 b) (b.wv.length*b.wv.length+1) (b.hops0 k l)
def Bk.chopB(b:Bk)(k l:List Int):List Bool:=(range b.wv.length).map λ(v:Nat)=>
 (A5 (b.first k) (v:Int)&&A5 (b.before l) (v:Int))||(A5 (b.thenB k) (v:Int)&&A5 (b.last l) (v:Int))||(b.hops k l).any λh=>A5 (b.behind h.1) (v:Int)&&A5 (b.ahead h.2) (v:Int)
section
variable {p:Pg} {k l k' l':List Int} {v a b:Int} {e:Eg}
def az9(p:Pg)(ks:List Int)(a b:Int):Prop:=Y6 (V7 (b9 p).wv (b9 p).all ks) a b
def ck8{ks c:List Int}(h:∀k∈ks,k∈c)(hw:az9 p ks a b):az9 p c a b:=by
 unfold az9 at *
 induction hw with
 | refl=>exact .refl
 | step _ j m=>
  obtain⟨d,e,l,f,g,i⟩:=au2.1 j;exact .step m (au2.2 ⟨d,e,l,h _ f,g,i⟩)
def dB7(h:az9 p lvK a b):az9 p upK a b:=ck8 (by simp[lvK,upK]) h
def dB6(h:az9 p lvK a b):az9 p dnK a b:=ck8 (by simp[lvK,dnK]) h
def aI8{X Y:List Bool}{h:Nat×Nat}:h∈aP1 (b9 p) X Y↔∃e∈(b9 p).all,(A5 X ((C5 (b9 p).wv e.src:Nat):Int)=true/\A5 Y ((C5 (b9 p).wv e.dst:Nat):Int)=true)/\h∈(b9 p).hopOf e:=by
 unfold aP1;rw[eG1];constructor
 .rintro⟨e,c,a⟩;split at a
  .next b=>exact⟨e,c,by rwa [eF1]at b,a⟩
  .simp at a
 .rintro⟨e,c,b,a⟩;exact⟨e,c,by rw[fi (by rw[eF1];exact b)];exact a⟩
def aZ0(n:Nat):List (Nat×Nat):=(range n).flatMap λa=>(range n).map λb=>(a,b)
def bz3(n):(aZ0 n).length=n*n:=by
 have:∀(l:List Nat),(l.flatMap λa=>(range n).map λb=>(a,b)).length=l.length*n:=λl=>by
  induction l with
  | nil=>simp
  | cons x l c=>rw[eN2,eD4,c,eE3,eI3,eG6,Nat.succ_mul];omega
 have h:=this (range n);rw[eI3]at h;exact h
def bg5{n}{h:Nat×Nat}:h∈aZ0 n↔h.1<n/\h.2<n:=by
 unfold aZ0;rw[eG1];constructor
 .rintro⟨a,e,g⟩;obtain⟨b,f,rfl⟩:=eF2.1 g;exact⟨eH7.1 e,eH7.1 f⟩
 .rintro⟨c,d⟩;exact⟨h.1,eH7.2 c,eF2.2 ⟨h.2,eH7.2 d,rfl⟩⟩
def bb5(K:Known p){h:Nat×Nat}(a:h∈(b9 p).hopOf e):h.1<(b9 p).wv.length/\h.2<(b9 p).wv.length:=by
 have b:=J3 K;unfold Bk.hopOf at a;split at a
 .split at a
  .obtain rfl:=eE7.1 a;exact⟨V1 b _,V1 b _⟩
  .split at a
   .obtain rfl:=eE7.1 a;exact⟨V1 b _,V1 b _⟩
   .simp at a
 .simp at a
def bS4(K:Known p)(H:List (Nat×Nat)):∀h∈dz1 (b9 p) H,h∈aZ0 (b9 p).wv.length:=λh a=>by
 obtain⟨g,_,a⟩:=eG1.1 a;obtain⟨e,_,_,b⟩:=aI8.1 a;exact bg5.2 (bb5 K b)
def ae0{h:Nat×Nat}:h∈(b9 p).hops0 k l↔∃e∈(b9 p).all,h∈(b9 p).hopOf e/\((A5 ((b9 p).first k) ((C5 (b9 p).wv e.src:Nat):Int)=true/\A5 ((b9 p).before l) ((C5 (b9 p).wv e.dst:Nat):Int)=true)\/(A5 ((b9 p).thenB k) ((C5 (b9 p).wv e.src:Nat):Int)=true/\A5 ((b9 p).last l) ((C5 (b9 p).wv e.dst:Nat):Int)=true)):=by
 unfold Bk.hops0;rw[mem_eraseDups,eE0,aI8,aI8];constructor
 .rintro(⟨e,c,a,b⟩|⟨e,c,a,b⟩)
  .exact⟨e,c,b,.inl a⟩
  .exact⟨e,c,b,.inr a⟩
 .rintro⟨e,c,b,a|a⟩
  .exact .inl ⟨e,c,a,b⟩
  .exact .inr ⟨e,c,a,b⟩
def ad3(K:Known p)(k l:List Int):(∀h∈(b9 p).hops0 k l,h∈(b9 p).hops k l) /\
  (∀g∈(b9 p).hops k l,∀h∈aP1 (b9 p) ((b9 p).behind g.1) ((b9 p).ahead g.2),h∈(b9 p).hops k l) /\
  ∀P:Nat×Nat->Prop,(∀h∈(b9 p).hops0 k l,P h)->(∀g,P g->∀h∈aP1 (b9 p) ((b9 p).behind g.1) ((b9 p).ahead g.2),P h)->∀h∈(b9 p).hops k l,P h:=by
 have c:∀h∈(b9 p).hops0 k l,h∈aZ0 (b9 p).wv.length:=λh a=>by
  obtain⟨e,_,q,_⟩:=ae0.1 a;exact bg5.2 (bb5 K q)
 obtain⟨j,m,n⟩:=cA9 (bS4 K) (S:=(b9 p).hops0 k l) (by unfold Bk.hops0;exact aE7 _ _ (eE8 _)) c;rw[bz3]at j m n;refine⟨j,λg b h a=>m h (eG1.2 ⟨g,b,a⟩),λP o r h a=>?_⟩
 classical
 have:=n (λS T d e f=>by
  obtain⟨g,b,f⟩:=eG1.1 f;exact eG1.2 ⟨g,d g b,f⟩) ((aZ0 (b9 p).wv.length).filter λh=>decide (P h)) (λh a=>eF6.2 ⟨c h a,eG9 (o h a)⟩) (λh a=>by
  obtain⟨g,b,i⟩:=eG1.1 a;exact eF6.2 ⟨bS4 K _ h a,eG9 (r g (eD3 (eF6.1 b).2) h i)⟩) h a
 exact eD3 (eF6.1 this).2
def cc9{n v}(f:Nat->Bool)(hv:v<n):A5 ((range n).map f) (v:Int)=f v:=by
 have a:J2 ((range n).map f).length (v:Int)=true:=by rw[eE3,eI3];exact C0.2 ⟨om,om⟩
 unfold A5;rw[a,eJ4,eF4,getD_eq_getElem?_getD,eH2,eM3 hv];rfl
def bP0:((b9 p).chopB k l).length=(b9 p).wv.length:=by simp[Bk.chopB]
def aa8{v}(hv:v<(b9 p).wv.length):A5 ((b9 p).chopB k l) (v:Int)=true ↔
  (A5 ((b9 p).first k) (v:Int)=true/\A5 ((b9 p).before l) (v:Int)=true)\/(A5 ((b9 p).thenB k) (v:Int)=true/\A5 ((b9 p).last l) (v:Int)=true) \/
  ∃h∈(b9 p).hops k l,A5 ((b9 p).behind h.1) (v:Int)=true/\A5 ((b9 p).ahead h.2) (v:Int)=true:=by
 unfold Bk.chopB;rw[cc9 _ hv];simp only[eN7,eP6,eF1,or_assoc]
end
section
variable {p:Pg} {a:Nat} {t:Int×Int} {h:Nat×Nat} {X Y S S0:List Bool} {H H0 T T0:List (Nat×Nat)} {C:List Eg}
def aC1(p:Pg)(a:Nat)(t:Int×Int):List (Nat×Nat):=match(b9 p).wv[a]?,(b9 p).wv[t.1.toNat]? with
 | some x,some y=>(b9 p).hopOf ⟨x,y,t.2⟩
 | _,_=>[]
def dg0(K:Known p)(b:h∈aC1 p a t):h.1<(b9 p).wv.length/\h.2<(b9 p).wv.length:=by
 unfold aC1 at b;split at b
 .exact bb5 K b
 .simp at b
def cf8(l:∀e∈(b9 p).all,e.src∈(b9 p).wv/\e.dst∈(b9 p).wv)(q:∀e,e∈C↔e∈(b9 p).sums):
  h∈aP1 (b9 p) X Y↔∃(a:Nat) (f:List (Int×Int)) (t:Int×Int),(ae3 (b9 p).wv ((b9 p).we++C))[a]?=some f/\A5 X (a:Int)=true/\t∈f/\A5 Y t.1=true/\h∈aC1 p a t:=by
 have b:∀e,e∈(b9 p).all↔e∈(b9 p).we++C:=λe=>by unfold Bk.all;rw[eE0,eE0,q]
 have i:∀e∈(b9 p).all,aC1 p (C5 (b9 p).wv e.src) (((C5 (b9 p).wv e.dst:Nat):Int),e.kind)=(b9 p).hopOf e:=λe c=>by
  unfold aC1;rw[P7 (l e c).1,eF4,P7 (l e c).2]
 rw[aI8];constructor
 .rintro⟨e,c,⟨g,k⟩,j⟩;have d:=(eD8.1 (P7 (l e c).1)).1;refine⟨_,_,_,bg8 d,g,eF2.2 ⟨e,eF6.2 ⟨(b e).1 c,dG⟩,rfl⟩,k,?_⟩;rw[i e c];exact j
 .rintro⟨a,f,t,g,k,j,o,n⟩;have d:a<(b9 p).wv.length:=by
   have:=(eD8.1 g).1
   rwa [ar3]at this
  rw[bg8 d,eO1]at g;rw[<-g]at j;obtain⟨e,c,rfl⟩:=eF2.1 j;obtain⟨hm,m⟩:=eF6.1 c;have m:=eD3 m;subst m;have hm:=(b e).2 hm;rw[i e hm]at n;exact⟨e,hm,⟨k,o⟩,n⟩
structure BwJ (p:Pg) (X Y:List Bool) (H0 T0 H T:List (Nat×Nat)) (done:Nat->Int×Int->Prop):Prop where
 new:∃D,H=H0++D/\T=T0++D
 le:∀h∈H,h∈H0\/∃a t,done a t/\A5 X (a:Int)=true/\A5 Y t.1=true/\h∈aC1 p a t
 nd:H.Nodup
 hop:∀a t,done a t->A5 X (a:Int)=true->A5 Y t.1=true->∀h∈aC1 p a t,h∈H
def BwJ.skip{done:Nat->Int×Int->Prop}(j:BwJ p X Y H0 T0 H T done){c:Nat->Int×Int->Prop}(d:∀b u,done b u->c b u)(e:∀b u,c b u->A5 X (b:Int)=true->A5 Y u.1=true->done b u):BwJ p X Y H0 T0 H T c:=
 ⟨j.new,λh g=>(j.le h g).imp id λ⟨a,t,x,y⟩=>⟨a,t,d a t x,y⟩,j.nd,λa t f x y=>j.hop a t (e a t f x y) x y⟩
def BwJ.fin(n:∀e∈(b9 p).all,e.src∈(b9 p).wv/\e.dst∈(b9 p).wv)(m:∀e,e∈C↔e∈(b9 p).sums){done:Nat->Int×Int->Prop}(o:∀a t,done a t↔∃b,(ae3 (b9 p).wv ((b9 p).we++C))[a]?=some b/\t∈b)
  (j:BwJ p X Y H0 T0 H T done):(∃D,H=H0++D/\T=T0++D)/\H.Nodup/\∀h,h∈H↔h∈H0\/h∈aP1 (b9 p) X Y:=by
 refine⟨j.new,j.nd,λh=>⟨λi=>?_,λi=>?_⟩⟩
 .rcases j.le h i with c|⟨a,t,c,d,f,g⟩
  .exact .inl c
  .obtain⟨b,k,l⟩:=(o a t).1 c;exact .inr ((cf8 n m).2 ⟨a,b,t,k,d,l,f,g⟩)
 .rcases i with c|c
  .obtain⟨D,e,_⟩:=j.new;rw[e];exact eF9 _ c
  .obtain⟨a,b,t,k,d,l,f,g⟩:=(cf8 n m).1 c;exact j.hop a t ((o a t).2 ⟨b,k,l⟩) d f h g
structure ChJ (p:Pg) (k l:List Int) (S:List Bool) (H T Q:List (Nat×Nat)):Prop where
 len:S.length=(b9 p).wv.length
 nd:H.Nodup
 hqt:∀h,h∈H↔h∈Q\/h∈T
 base:∀h∈(b9 p).hops0 k l,h∈H
 cl:∀g∈Q,∀h∈aP1 (b9 p) ((b9 p).behind g.1) ((b9 p).ahead g.2),h∈H
 le:∀h∈H,h∈(b9 p).hops k l
 set:∀v,v<(b9 p).wv.length->(A5 S (v:Int)=true↔(A5 ((b9 p).first k) (v:Int)=true/\A5 ((b9 p).before l) (v:Int)=true)\/(A5 ((b9 p).thenB k) (v:Int)=true/\A5 ((b9 p).last l) (v:Int)=true)\/∃g∈Q,A5 ((b9 p).behind g.1) (v:Int)=true/\A5 ((b9 p).ahead g.2) (v:Int)=true)
def bO5{A B:List Bool}(e:A.length=B.length)(h:∀v:Nat,v<B.length->(A5 A (v:Int)=true↔A5 B (v:Int)=true)):A=B:=by
 refine eQ4 λv=>?_;rcases eH4 v B.length with a|a
 .have b:=h v a;have c:J2 A.length (v:Int)=true:=C0.2 ⟨om,om⟩;have d:J2 B.length (v:Int)=true:=C0.2 ⟨om,om⟩;rw[(O5 c).2,(O5 d).2,eF4]at b;rw[getD,getD,eD1 om,eD1 a]at b;rw[eD1 om,eD1 a];simp only[eI9]at b;rw[eO8.2 b]
 .rw[eL7 om,eL7 a]
def ChJ.fin(K:Known p){k l:List Int}{Q:List (Nat×Nat)}(j:ChJ p k l S H [] Q):S=(b9 p).chopB k l:=by
 have d:∀h,h∈H↔h∈Q:=λh=>by rw[j.hqt];simp
 have a:∀h∈(b9 p).hops k l,h∈H:=(ad3 K k l).2.2 (λh=>h∈H) j.base λg f h i=>j.cl g ((d g).1 f) h i;refine bO5 (by rw[bP0,j.len]) λv e=>?_;rw[bP0]at e;rw[j.set v e,aa8 e];refine or_congr_right (or_congr_right ?_);exact⟨λ⟨g,b,c⟩=>⟨g,j.le g ((d g).2 b),c⟩,λ⟨g,b,c⟩=>⟨g,(d g).1 (a g b),c⟩⟩
def ChJ.step(K:Known p){k l:List Int}{Q e D:List (Nat×Nat)}{g:Nat×Nat}{f:List Bool}(j:ChJ p k l S H (T++[g]) Q)(m:e=H++D)(hn:e.Nodup)(hm:∀h,h∈e↔h∈H\/h∈aP1 (b9 p) ((b9 p).behind g.1) ((b9 p).ahead g.2))(o:f.length=S.length)
  (hS:∀v,v<(b9 p).wv.length->(A5 f (v:Int)=true↔A5 S (v:Int)=true\/(A5 ((b9 p).behind g.1) (v:Int)=true/\A5 ((b9 p).ahead g.2) (v:Int)=true))):ChJ p k l f e (T++D) (Q++[g]):=by
 have n:g∈H:=(j.hqt g).2 (.inr dG);refine⟨by rw[o,j.len],hn,λh=>?_,λh b=>(hm h).2 (.inl (j.base h b)),λx d h b=>?_,λh b=>?_,λv i=>?_⟩
 .rw[m,eE0,j.hqt];simp only[eE0,eE7];constructor
  .rintro((a|a|a)|a)
   .exact .inl (.inl a)
   .exact .inr (.inl a)
   .exact .inl (.inr a)
   .exact .inr (.inr a)
  .rintro((a|a)|a|a)
   .exact .inl (.inl a)
   .exact .inl (.inr (.inr a))
   .exact .inl (.inr (.inl a))
   .exact .inr a
 .rcases eE0.1 d with d|d
  .exact(hm h).2 (.inl (j.cl x d h b))
  .rw[eE7.1 d]at b;exact(hm h).2 (.inr b)
 .rcases(hm h).1 b with a|a
  .exact j.le h a
  .exact(ad3 K k l).2.1 g (j.le g n) h a
 .rw[hS v i,j.set v i];constructor
  .rintro((a|a|⟨x,a,c⟩)|a)
   .exact .inl a
   .exact .inr (.inl a)
   .exact .inr (.inr ⟨x,eF9 _ a,c⟩)
   .exact .inr (.inr ⟨g,dG,a⟩)
  .rintro(a|a|⟨x,a,c⟩)
   .exact .inl (.inl a)
   .exact .inl (.inr (.inl a))
   .rcases eE0.1 a with a|a
    .exact .inl (.inr (.inr ⟨x,a,c⟩))
    .rw[eE7.1 a]at c;exact .inr c
end
abbrev TCh:TypeId:=147
abbrev THp:TypeId:=151
def bB1(h:Nat×Nat):Int×Int:=((h.1:Int),(h.2:Int))
def dw9(h:Nat×Nat):Value:=.agg #[h.1,h.2]
def el5:cv7 prog THp dw9 where
 chk em a w:=by
  apply bO9 (P:=prog) (fs:=prog.fieldsOf THp) kr em 9999 _ w;have hf:(prog.fieldsOf THp).toList.map (λf=>(f.type,f.offset))=[(3,0),(3,1)]:=kr
  rw[hf];intro x hx;simp only[eF0,eH6,eM0]at hx;rcases hx with rfl|rfl
  .exact⟨a.1,X1 _ _ _ rfl w,aq4 Tryz.underlying3 (show MapKept.IsKey (.int .i64) (.int .i64 _)from rfl) em _ w⟩
  .exact⟨a.2,X1 _ _ _ rfl w,aq4 Tryz.underlying3 (show MapKept.IsKey (.int .i64) (.int .i64 _)from rfl) em _ w⟩
 find a l w:=run_findKey_eq (P:=prog) (w:=w) kr _ _
 eq a b w:=by
  obtain⟨a1,a2⟩:=a;obtain⟨b1,b2⟩:=b;unfold Op.equal;rw[show Op.maxDepth=9998+2 from rfl,dw9,dw9,run_equalIn_struct (P:=prog) w (9998+1) THp _ _ kr kr,aA2];have hf:(prog.fieldsOf THp).toList.map (λf=>(decide (f.name ≠ "_"),f.type,f.offset))=[(true,3,0),(true,3,1)]:=kr
  rw[hf,V5 w (X1 _ _ _ rfl w) (X1 _ _ _ rfl w) (aH8 w 9998 _ _) (V5 w (X1 _ _ _ rfl w) (X1 _ _ _ rfl w) (aH8 w 9998 _ _) (aL0 w))]
  congr 1
  have e1:decide ((a1:Int)=(b1:Int))=decide (a1=b1):=eI5.2 Int.ofNat_inj;have e2:decide ((a2:Int)=(b2:Int))=decide (a2=b2):=eI5.2 Int.ofNat_inj;simp only[e1,e2,Prod.mk.injEq,Bool.decide_and,Bool.and_true]
def bJ1(H:List (Nat×Nat)):List ((Nat×Nat)×Value):=H.map λh=>(h,true)
def cj5{H:List (Nat×Nat)}{h:Nat×Nat}(hn:h∉H):al0 (bJ1 H) h=none:=dj6.2 (by simpa[bJ1]using hn)
def dF4{H:List (Nat×Nat)}{h:Nat×Nat}:(al0 (bJ1 H) h).getD false=(H.contains h):=by
 by_cases hm:h∈H
 .rw[eE6.2 hm];unfold al0 bJ1;cases hf:(H.map λh=>((h,true):(Nat×Nat)×Value)).find? λp=>decide (h=p.1)with
  | none=>
   have:=eL9.1 hf (h,true) (eF2.2 ⟨h,hm,rfl⟩);simp at this
  | some x=>
   obtain⟨y,_,rfl⟩:=eF2.1 (mem_of_find?_eq_some hf);rfl
 .rw[cj5 hm];have:H.contains h=false:=eN8.2 λe=>hm (eE6.1 e);rw[this];rfl
structure CS (w0 w:World) (g gc rs:Nat) (vs vt:Value) (S:List Bool) (H T:List (Nat×Nat)):Prop where
 ext:o6 w0 w
 cb:w.heap[gc]?=some (.cells #[.pointer (some ⟨g,0,none⟩),vs,.map (some rs),vt] TCh (0,0))
 oS:B7 hZ w 4 vs S
 map:aC0 dw9 w rs (bJ1 H)
 oT:B7 hZ w THp vt (T.map bB1)
 new:w0.heap.size<=gc/\w0.heap.size<=rs/\gc≠rs
 dS:∀b,B0 vs b->w0.heap.size<=b/\b≠gc/\b≠rs/\¬B0 vt b
 dT:∀b,B0 vt b->w0.heap.size<=b/\b≠gc/\b≠rs
def cN(a c:Nat)(vs d:Value)(b:Nat):Prop:=b=a\/b=c\/B0 vs b\/B0 d b
section
variable {w0 w w':World} {g gc rs:Nat} {vs vt:Value} {S:List Bool} {H T:List (Nat×Nat)}
def CS.ltg(s:CS w0 w g gc rs vs vt S H T):gc<w.heap.size:=(eD5.1 s.cb).1
def CS.lt(s:CS w0 w g gc rs vs vt S H T){b}(h:cN gc rs vs vt b):b<w.heap.size:=by
 rcases h with rfl|rfl|h|h
 .exact s.ltg
 .exact s.map.lt
 .exact s.oS.lt h
 .exact s.oT.lt h
def CS.ge(s:CS w0 w g gc rs vs vt S H T){b}(h:cN gc rs vs vt b):w0.heap.size<=b:=by
 rcases h with rfl|rfl|h|h
 .exact s.new.1
 .exact s.new.2.1
 .exact(s.dS b h).1
 .exact(s.dT b h).1
def CS.mod(s:CS w0 w g gc rs vs vt S H T){M:Nat->Prop}(hm:t8 M w w')(a:∀b,M b->w0.heap.size<=b/\¬cN gc rs vs vt b):CS w0 w' g gc rs vs vt S H T:=
 ⟨t8.ext_of s.ext hm λb h=>(a b h).1,(hm.block gc s.ltg λh=>(a gc h).2 (.inl rfl)).trans s.cb,s.oS.mod hm λb c h=>(a b h).2 (.inr (.inr (.inl c))),s.map.mod hm λh=>(a rs h).2 (.inr (.inl rfl)),s.oT.mod hm λb c h=>(a b h).2 (.inr (.inr (.inr c))),s.new,s.dS,s.dT⟩
def CS.more(s:CS w0 w g gc rs vs vt S H T)(a:o6 w w'):CS w0 w' g gc rs vs vt S H T:=s.mod a λ_ h=>h.elim
def CS.ld(s:CS w0 w g gc rs vs vt S H T){i u t}(b:(#[.pointer (some ⟨g,0,none⟩),vs,.map (some rs),vt]:Array Value)[i]?=some u)(a:L7 prog t=false):(Instr.loadAt t (.pointer (some ⟨gc,i,none⟩))).run prog w = .ok u w:=F9 s.cb b a
def CS.setS(s:CS w0 w g gc rs vs vt S H T){a}(i:a<S.length)(x):∃w',(Instr.storeAt 4 (I2 vs a) (.bool x)).run prog w = .ok () w'/\CS w0 w' g gc rs vs vt (S.set a x) H T/\t8 (B0 vs) w w':=by
 obtain⟨l,c,f⟩:=ay1 (P:=prog) Y5 aK1;obtain⟨w',j,k,d,_⟩:=G4 (P:=prog) (t:=4) s.oS rfl i (x:=x) (y:=x) rfl rfl c f;exact⟨w',j,⟨t8.ext_of s.ext d λb e=>(s.dS b e).1,(d.block gc s.ltg λh=>(s.dS gc h).2.1 rfl).trans s.cb,k,s.map.mod d λh=>(s.dS rs h).2.2.1 rfl,s.oT.mod d λb e h=>(s.dS b h).2.2.2 e,s.new,s.dS,s.dT⟩,d⟩
def CS.look(s:CS w0 w g gc rs vs vt S H T)(h:Nat×Nat):(Instr.lookup 144 (.map (some rs)) (.agg #[h.1,h.2]) false).run prog w = .ok (H.contains h) w:=by
 have:=s.map.lookup (P:=prog) el5 Tryz.underlying144 Y5 h;rw[dF4]at this;exact this
end
def dA9{h v}{l:List (Int×Int)}{w}(hv:R h v l)(hw:E6 h (n8 w)){k}{x:Int×Int}(a:l[k]?=some x):(Instr.loadAt 218 (.pointer (some (I2 v (k*2))))).run prog w = .ok (.agg #[.int .i64 x.1,.int .i64 x.2]) w:=
 cp9 (P:=prog) (t:=218) hv hw a dH1 dI9 cU6 ct2
def dK3{w}(a b):∃c e d,(Instr.alloc 218 true (.tuple #[])).run prog w = .ok (.pointer (some ⟨c,0,none⟩)) e/\(Instr.storeAt 218 (.pointer (some ⟨c,0,none⟩)) (.agg #[.int .i64 a,.int .i64 b])).run prog e = .ok () d/\o6 w d/\d.heap[c]?=some (.cells #[.int .i64 a,.int .i64 b] 218 (0,0))/\w.heap.size<=c:=by
 obtain⟨f,g⟩:=aE6 (P:=prog) (w:=w) (T:=218) dJ6 rfl (cs:=#[.int .i64 a,.int .i64 b]) rfl (by simp[Value.oneCell']);exact⟨_,_,_,f,g,o6.alloc _ _,eH3 w _,eE8 _⟩
def aQ6{w d:World}{c a b}(h:w.heap[c]?=some (.cells #[.int .i64 a,.int .i64 b] 218 (0,0))){M:Nat->Prop}(hm:t8 M w d)(f:¬M c):
  (Instr.loadAt 3 (.pointer (some ⟨c,0,none⟩))).run prog d = .ok (.int .i64 a) d/\(Instr.loadAt 3 (.pointer (some ⟨c,1,none⟩))).run prog d = .ok (.int .i64 b) d:=by
 have e:=(hm.block c (eD5.1 h).1 f).trans h;exact⟨F9 (i:=0) e rfl K7,F9 (i:=1) e rfl K7⟩
def aX6(ks:List Int):Array Value:=#[.bool (ks.contains 0),.bool (ks.contains 1),.bool (ks.contains 2),.bool (ks.contains 3),.bool (ks.contains 4),.bool (ks.contains 5),.bool (ks.contains 6)]
def dT4{ks:List Int}{k}(c:k<7):(aX6 ks).setIfInBounds k (.bool true)=aX6 (ks++[(k:Int)]):=by
 have h:∀a b:Int,(ks++[a]).contains b=(ks.contains b||decide (b=a)):=λa b=>by
  rw[eO8,eN7,eE6,eE6,eE0,eE7,decide_eq_true_iff]
 match k,c with
 | 0,_=>simp[aX6,Array.setIfInBounds]
 | 1,_=>simp[aX6,Array.setIfInBounds]
 | 2,_=>simp[aX6,Array.setIfInBounds]
 | 3,_=>simp[aX6,Array.setIfInBounds]
 | 4,_=>simp[aX6,Array.setIfInBounds]
 | 5,_=>simp[aX6,Array.setIfInBounds]
 | 6,_=>simp[aX6,Array.setIfInBounds]
def dT3{ks:List Int}{k}(a:k<7):(aX6 ks)[k]?=some (.bool (ks.contains (k:Int))):=by
 match k,a with
 | 0,_=>rfl
 | 1,_=>rfl
 | 2,_=>rfl
 | 3,_=>rfl
 | 4,_=>rfl
 | 5,_=>rfl
 | 6,_=>rfl
def ci1(S:List Bool)(k)(b:k<S.length):(((range (k+1)).filter λa=>S.getD a false).map λ(a:Nat)=>(a:Int))=(((range k).filter λa=>S.getD a false).map λ(a:Nat)=>(a:Int))++if S[k]=true then[(k:Int)]else[]:=by
 rw[eO6,eJ8,eG8]
 congr 1
 rw[filter_cons,filter_nil,getD_eq_getElem?_getD,eD1 b,eI9];cases S[k]<;>rfl
def cT2(H va vs vk)(N:List (List (Int×Int)))(S:List Bool)(ks:List Int)(w)(hH:E6 H (n8 w))(bF:R H va N)(af:B7 H w 4 vs S)(aG:R H vk ks)(hA:OkA N.length N)(hl:N.length=S.length)
  (hn:S.length<=1000000000) (cc:∀k∈ks,1<=k/\k<=6) (cV:ks.length<=1000) :
  p7 prog 92 #[va,vs,vk] w λu E=>(B7 H E 4 vs (I0 (ai8 N ks) S)/\t8 (B0 vs) w E):=by
 apply y5 [va,vs,vk] func92 rfl;obtain⟨ib,bs,aK⟩:=ay1 (P:=prog) Y5 aK1;have be:(Instr.alloc 219 true (.tuple #[])).run prog w = .ok (.pointer (some ⟨w.heap.size,0,none⟩)) (w.alloc (.cells (aX6 []) 219)):=by rfl
 have bH:=o6.alloc w (.cells (aX6 []) 219);have aS:=eH3 w (.cells (aX6 []) 219);have aN:=λb (p:B0 vs b)=>af.lt p;have bG:(w.alloc (.cells (aX6 []) 219)).heap.size=w.heap.size+1:=dG
 generalize w.alloc (.cells (aX6 []) 219)=w1 at be bH aS bG;have b3:=af.isS;have cg:=af.vlen;simp only[eF,simprocAttr,be,aG.isS,aG.vlen];refine B4 [0,1,2,6,15,16] (σ:=Nat) (λk f E=>f 17 = .int .i64 k/\k<=ks.length/\E.heap[w.heap.size]?=some (.cells (aX6 (ks.take k)) 219 (0,0))/\t8 (λb=>b=w.heap.size) w1 E) (λk=>ks.length-k) 0 ?_ ?_
 .exact⟨rfl,eE2 _,aS,t8.refl _⟩
 rintro k f w2 ⟨e0,e1,e2,e6,bV,bW,_⟩ ⟨a9,cG,J,aV⟩;have a3:o6 w w2:=t8.ext_of bH aV λb p=>by rw[p];exact eE8 _
 simp only[eF,simprocAttr,a9,bW];refine A7 (λo=>?_) ?_
 .have ae:=aG.inS o;have L:=aI6 aG (A3 hH (b7 a3)) o;obtain⟨aD,aE⟩:=cc _ (eE1 o);have A:=eD9 o;generalize ks[k]=q at L aD aE A;obtain⟨Q,rfl⟩:∃Q:Nat,q=(Q:Int):=⟨q.toNat,om⟩;have hQ:Q<7:=om
  have ak:decide ((Q:Int)<7)=true:=by simp only[eH1];omega
  obtain⟨w3,q1,q2,q3⟩:=ai1 (P:=prog) (t:=4) (x:=.bool true) (i:=Q) J hQ rfl rfl bs aK;rw[dT4 hQ]at q2;simp only[i4,n9,A6,simprocAttr,a9,bV,e6,ae,L,ak,q1];refine U5 (k+1) ⟨?_,aV.trans q3⟩;rw[A];exact q2
 rintro rfl;rw[eE4]at J;have bA:=af.ext a3;clear aV aS;simp only[eF,simprocAttr,e1,b3,cg];refine B4 [0,1,6,24,25] (σ:=Nat×Value) (λs f E=>f 26 = .int .i64 s.1/\f 9=s.2/\s.1<=S.length/\B7 hZ E 3 s.2 (((range s.1).filter λa=>S.getD a false).map λ(a:Nat)=>(a:Int))/\(∀b,B0 s.2 b->w2.heap.size<=b)/\o6 w2 E) (λs=>S.length-s.1) (0,.slice none 0 0) ?_ ?_
 .exact⟨rfl,rfl,eE2 _,B7.nil _ _ _,λb p=>fj p E7,t8.refl _⟩
 rintro⟨k,v⟩ f3 w3 ⟨g0,g1,g6,a7,bX,_⟩ ⟨aB,h9,bu,ar,z,ab⟩;simp only at aB h9 bu ar z;rw[e0]at g0;rw[e1]at g1;rw[e6]at g6;have av:=bA.ext ab;simp only[eF,simprocAttr,aB,bX];refine A7 (λo=>?_) ?_
 .have ae:=av.inS o;have L:(Instr.loadAt 4 (.pointer (some (I2 vs k)))).run prog w3 = .ok (.bool S[k]) w3:=E8 (P:=prog) av (eD1 o) ag4;have A:=ci1 S k o;generalize S[k]=sb at L A;rcases eD2 sb with h1|h1<;>subst h1
  .simp only[eK2]at A;have cH:(((range k).filter λa=>S.getD a false).map λ(a:Nat)=>(a:Int)).length<=k:=by
    rw[eE3];apply eD7 (eG0 _ _);rw[eI3];exact eE8 _
   obtain⟨p1,u4,w4,p2,p3,p4,p5⟩:=push (P:=prog) (t:=45) (e:=45) V8 rfl ar (x:=.int .i64 (k:Int)) (y:=(k:Int)) rfl om om (L4 _);simp only[Value.cells]at p1 p2;simp only[i4,n9,A6,simprocAttr,aB,h9,a7,ae,L,p1,p2];refine nx4 (k+1,u4) ⟨?_,λb p=>?_,t8.ext_of ab p4 z⟩
   .simp only[];rw[A];exact p3
   .rcases p5 b p with h|h
    .exact z b h
    .exact eD7 ab.size h
  .simp only[eK7,eM4,eG5]at A;simp only[i4,n9,A6,simprocAttr,aB,h9,a7,ae,L];refine nx4 (k+1,v) ⟨?_,z,ab⟩;simp only[];rw[A];exact ar
 rintro rfl;have a1:(((range S.length).filter λa=>S.getD a false).map λ(a:Nat)=>(a:Int))=af1 S:=rfl;rw[a1]at ar;have bz:(ai8 N ks).length=S.length:=by simp[ai8,hl]
 have aM:OkR (ai8 N ks):=dD4 hA;have aO:=λa b=>cC4 (R:=N) (ks:=ks) (a:=a) (b:=b);generalize cX:ai8 N ks=nx at bz aM aO;have bo:=(ab.block _ (eD5.1 J).1 id).trans J;have cF:w.heap.size<w2.heap.size:=(eD5.1 J).1;have bI:=a3.trans ab;have cY:(af1 S).length<=S.length:=by
  unfold af1;rw[eE3];apply eD7 (eG0 _ _);rw[eI3];exact eE8 _
 refine B4 [0,1,6] (σ:=Value×List Int×List Bool) (λs f E=>f 9=s.1/\B7 hZ E 3 s.1 s.2.1/\B7 H E 4 vs s.2.2/\(∀b,B0 s.1 b->w2.heap.size<=b)/\E.heap[w.heap.size]?=some (.cells (aX6 ks) 219 (0,0))/\t8 (B0 vs) w E/\w2.heap.size<=E.heap.size/\SpJ nx S s.2.1 s.2.2 (λ_=>False)/\s.2.1.length+s.2.2.count false<=2*S.length) (λs=>s.2.1.length+s.2.2.count false) (v,af1 S,S) ?_ ?_
 .simp only[C9,simprocAttr];refine⟨h9,ar,av,z,bo,bI.weaken λ_ _ h=>h.elim,ab.size,SpJ.start,?_⟩;have:=count_le_length (a:=false) (l:=S);omega
 rintro⟨v4,X,sn⟩ f4 w4 ⟨r0,r1,r6,_⟩ ⟨aP,Z,aw,ap,bp,aW,bE,hJ,bg⟩;simp only at aP Z aw ap hJ bg;rw[g0]at r0;rw[g1]at r1;rw[g6]at r6;have bd:=Z.isS;have aY:=Z.vlen;have cE:=Z.vcap;simp only[eF,simprocAttr,aP,bd,aY];refine B2 (λhc=>?_) (λhc=>?_);rotate_left
 .have cl:X=[]:=by
   have:¬(0:Int)<(X.length:Int):=by simpa using hc
   exact List.length_eq_zero_iff.1 om
  subst cl;have br:=hJ.fin aM bz;simp only[i4,simprocAttr];apply bw0 results92;rw[<-br];exact⟨aw,aW⟩
 obtain⟨n,bw⟩:∃n,X.length=n+1:=⟨X.length-1,by have:(0:Int)<(X.length:Int):=by simpa using hc
                                              omega⟩
 obtain⟨td,c,rfl,cZ,cm,cn⟩:=bm7 bw;obtain⟨bb,bm⟩:=hJ.pop;have bn:=W3 bm;rw[bb.len]at bn;obtain⟨cQ,cR⟩:=C0.1 bn;obtain⟨C,rfl⟩:∃C:Nat,c=(C:Int):=⟨c.toNat,om⟩;have cp:IntKind.i64.wrap (((n+1:Nat):Int)-1)=(n:Int):=by rw[N7 _ om];omega
 rw[bw]at aY;have ae:=Z.inS (k:=n) om;have L:(Instr.loadAt 3 (.pointer (some (I2 v4 n)))).run prog w4 = .ok (.int .i64 (C:Int)) w4:=E8 (P:=prog) Z cm K7;obtain⟨ax,bh⟩:=cF2 (sz:=1) Z (i:=n) om;rw[cn]at ax;have aQ:decide ((n:Int)<=(vcap v4:Int))=true:=by simp;omega
 have aq:∀b,B0 (reS v4 0 n 1) b->w2.heap.size<=b:=λb p=>ap b ((bh b).1 p);generalize co:reS v4 0 n 1=v5 at ax aq;have aC:C<N.length:=om
 have bZ:E6 H (n8 w4):=G8 hH aW λb p=>af.free p;obtain⟨uR,az,b6⟩:=R.row bF (eD1 aC);have bt:=bF.inS aC;have cd:=M0 (P:=prog) (t:=216) b6 bZ bY2;obtain⟨ck,bD⟩:=hA _ (eE1 aC);have a2:∀b,b∈F1 nx (C:Int)↔∃k∈ks,(b,k)∈N[C]:=λb=>by
  rw[aO,eF4,getD_eq_getElem?_getD,eD1 aC,eI9];exact⟨λh=>h.2,λh=>⟨C0.2 ⟨om,om⟩,h⟩⟩
 generalize N[C]=W at az ck bD a2;have b2:=az.isS;have cf:=az.vlen;rw[eD4,eG3]at bg;simp only[i4,n9,A6,G7,simprocAttr,aP,bd,aY,cp,ae,L,aQ,co,r0,bt,cd,b2,cf];refine B4 [0,1,6,54,55] (σ:=(Nat×Value)×(List Int×List Bool)) (λs f E=>f 56 = .int .i64 s.1.1/\f 9=s.1.2/\s.1.1<=W.length/\B7 hZ E 3 s.1.2 s.2.1/\B7 H E 4 vs s.2.2/\(∀b,B0 s.1.2 b->w2.heap.size<=b)/\E.heap[w.heap.size]?=some (.cells (aX6 ks) 219 (0,0))/\t8 (B0 vs) w E/\w2.heap.size<=E.heap.size/\SpJ nx S s.2.1 s.2.2 (λd=>d=(C:Int))/\A5 s.2.2 (C:Int)=true/\(∀t∈W.take s.1.1,t.2∈ks->A5 s.2.2 t.1=true)/\s.2.1.length+s.2.2.count false<=td.length+sn.count false) (λs=>W.length-s.1.1) ((0,v5),(td,sn)) ?_ ?_
 .exact⟨rfl,rfl,eE2 _,ax,aw,aq,bp,aW,bE,bb,bm,λt ht=>by simp at ht,eE8 _⟩
 rintro⟨⟨j,v6⟩,aH,g⟩ f6 w6 ⟨j0,j1,j6,a4,cr,_⟩ ⟨ag,ah,cb,aZ,ac,m,am,aX,U,ad,I,G,Y⟩;simp only at ag ah cb aZ ac m ad I G Y;rw[r0]at j0;rw[r1]at j1;rw[r6]at j6;simp only[eF,simprocAttr,ag,cr];refine A7 (λo=>?_) ?_;rotate_left
 .rintro rfl;rw[eE4]at G;have b1:=ad.close (λd hd=>by
   obtain⟨k,hk,hm⟩:=(a2 d).1 hd;exact G _ hm hk)
  simp only[i4,simprocAttr];exact⟨(v6,aH,g),by simp only[];rw[eD4,eG3];omega,ah,aZ,ac,m,am,aX,U,b1,so⟩
 have an:=az.inS o;have ba:E6 H (n8 w6):=G8 hH aX λb p=>af.free p;have O:=dA9 az ba (eD1 o);obtain⟨aT,aD,aE⟩:=bD _ (eE1 o);have aU:W[j].2∈ks->W[j].1∈F1 nx (C:Int):=λh=>(a2 _).2 ⟨W[j].2,h,eE1 o⟩;have A:=eD9 o;generalize W[j]=t at O aT aD aE aU A;obtain⟨d,q⟩:=t;simp only at O aT aD aE aU;obtain⟨Q,rfl⟩:∃Q:Nat,q=(Q:Int):=⟨q.toNat,om⟩;obtain⟨cS,cT⟩:=C0.1 aT;obtain⟨D,rfl⟩:∃D:Nat,d=(D:Int):=⟨d.toNat,om⟩;have hQ:Q<7:=om
 have ak:decide ((Q:Int)<7)=true:=by simp only[eH1];omega
 obtain⟨ca,c9,w7,al,ay,V,bk,cD⟩:=dK3 (w:=w6) (D:Int) (Q:Int);obtain⟨bJ,a5⟩:=aQ6 bk (t8.refl (M:=λ_=>False) w7) id;have K:=(V.block _ (eD5.1 am).1 id).trans am;have T:=F9 (P:=prog) (t:=4) K (dT3 hQ) ag4;have B:=ac.ext V;have a0:=aZ.ext V;have F:t8 (B0 vs) w w7:=aX.trans (V.weaken λ_ _ h=>h.elim);have cI:=ad.len;have aj:D<g.length:=om
 have aL:=B.inS aj;have ao:(Instr.loadAt 4 (.pointer (some (I2 vs D)))).run prog w7 = .ok (.bool g[D]) w7:=E8 (P:=prog) B (eD1 aj) ag4;have au:J2 g.length (D:Int)=true:=C0.2 ⟨om,om⟩;have bf:A5 g (D:Int)=g[D]:=by
  rw[(O5 au).2,eF4,getD,eD1 aj];rfl
 have aR:=ad7 (l:=g) aj;generalize g[D]=sb at ao bf aR;have aa:∀sn:List Bool,(∀e,A5 g e=true->A5 sn e=true)->((Q:Int)∈ks->A5 sn (D:Int)=true)->∀t∈W.take (j+1),t.2∈ks->A5 sn t.1=true:=λsn hm hd t ht hk=>by
  rw[A]at ht;rcases eE0.1 ht with ht|ht
  .exact hm _ (G t ht hk)
  .simp only[eE7]at ht;subst ht;exact hd hk
 rcases eD2 (ks.contains (Q:Int))with hq|hq;rotate_left
 .rw[hq]at T;have cj:(Q:Int)∉ks:=λh=>by rw[eE6.2 h]at hq;cases hq
  simp only[i4,n9,A6,simprocAttr,ag,ah,a4,an,O,al,ay,a5,j6,ak,T];exact nx4 ((j+1,v6),(aH,g)) ⟨a0,B,m,K,F,eD7 U V.size,ad,I,aa g (λ_ h=>h) (λh=>fj h cj),Y⟩
 rw[hq]at T;have ci:=eE6.1 hq;rcases eD2 sb with h1|h1<;>subst h1
 .simp only[i4,n9,A6,simprocAttr,ag,ah,a4,j1,an,O,al,ay,bJ,a5,j6,ak,T,aL,ao];exact nx4 ((j+1,v6),(aH,g)) ⟨a0,B,m,K,F,eD7 U V.size,ad,I,aa g (λ_ h=>h) (λ_=>bf),Y⟩
 have aR:=aR rfl;obtain⟨w8,s1,bB,r,cJ⟩:=G4 (P:=prog) (t:=4) B rfl aj (x:=.bool true) (y:=true) rfl rfl bs aK;have bl:=aQ6 bk r (λh=>by have:=B.lt h;have:=ac.lt h;omega);have aJ:=(r.block _ (eD5.1 K).1 λh=>by have:=aN _ h;omega).trans K;have bv:∀b,B0 v6 b->¬B0 vs b:=λb p b4=>by
  have:=m b p;have:=aN b b4;omega
 have ch:=a0.mod r bv;obtain⟨p1,u9,w9,p2,p3,p4,p5⟩:=push (P:=prog) (t:=45) (e:=45) V8 rfl ch (x:=.int .i64 (D:Int)) (y:=(D:Int)) rfl om om (L4 _);simp only[Value.cells]at p1 p2;have bC:=bB.mod p4 λb p h=>bv b h p;have bq:=(p4.block _ (eD5.1 aJ).1 λh=>by have:=m _ h;omega).trans aJ;have bc:=ad.push I au (aU ci);rw[eF4]at bc;have bj:∀e,A5 (g.set D true) e=if e=(D:Int)then true else A5 g e:=λe=>by
  have:=O2 (l:=g) (a:=(D:Int)) (b:=e) (v:=true) au;rw[eF4]at this;exact this
 have bi:∀e,A5 g e=true->A5 (g.set D true) e=true:=λe he=>by rw[bj,he];simp
 have ce:t8 (B0 vs) w w9:=by
  refine⟨p4.os.trans (r.os.trans F.os),p4.tape.trans (r.tape.trans F.tape),p4.output.trans (r.output.trans F.output),eD7 F.size (eD7 r.size p4.size),λb p bx=>?_⟩;rw[p4.block b (eK3 p (eD7 F.size r.size)) λh=>by have:=m b h;omega,r.block b (eK3 p F.size) bx];exact F.block b p bx
 simp only[i4,n9,A6,simprocAttr,ag,ah,a4,j1,an,O,al,ay,bJ,a5,j6,ak,T,aL,ao,s1,bl.1,p1,p2];refine nx4 ((j+1,u9),(aH++[(D:Int)],g.set D true)) ⟨p3,bC,λb p=>?_,bq,ce,eD7 (eD7 U V.size) (eD7 r.size p4.size),bc,bi _ I,aa _ bi λ_=>?_,?_⟩
 .rcases p5 b p with h|h
  .exact m b h
  .exact eD7 (eD7 U V.size) (eD7 r.size h)
 .rw[bj];simp
 .simp only[eD4,eG3];omega
end Go.Proofs.YtpebpfiglfmegaaGreat

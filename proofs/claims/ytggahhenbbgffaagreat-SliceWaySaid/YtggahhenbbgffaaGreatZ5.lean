/- What the functions of the program do, for every input; plain facts. No condition, no statement of its own. Part 5. -/
import Derived.Laws.IdiomRangeMap
import Derived.Test.YtggahhenbbgffaaGreatZ4
set_option maxRecDepth 1000000
set_option maxHeartbeats 8000000
set_option linter.unusedVariables false
set_option linter.unusedSimpArgs false
set_option linter.unnecessarySimpa false
set_option linter.defProp false
namespace Go.Proofs.YtggahhenbbgffaaGreat
open Go Tryz
def bN1(w:World):(Instr.alloc 295 true (.tuple #[])).run prog w = .ok (.pointer (some ⟨w.heap.size,0,none⟩)) (w.alloc (.cells #[.slice none 0 0,.int .i64 0] 295)):=
 (aA5 (P:=prog) (T:=295) bp0 (by rw[am5];rfl) (cs:=#[.slice none 0 0,.int .i64 0]) (by rw[am5];rfl) (by simp[Value.oneCell'])).1
def goW(g r k:List W)(i:Nat):W:=g.getD i 0#64 ||| (r.getD i 0#64 &&& ~~~(k.getD i 0#64))
def af7(g r k:List W)(m i:Nat):List W:=(List.range m).map λj=>if j<i then goW g r k j else 0#64
def ci1(g r k:List W)(m:Nat):af7 g r k m 0=List.replicate m 0#64:=by
 unfold af7;apply em6 (by simp);intro i a b;simp
def ax8(g r k:List W)(m i:Nat):(af7 g r k m i).length=m:=by simp[af7]
def bC9(g r k:List W)(m i j:Nat):(af7 g r k m i)[j]?=if j<m then some (if j<i then goW g r k j else 0#64)else none:=by
 unfold af7;rw[ei9];by_cases hj:j<m
 .rw[eo0 hj,if_pos hj];rfl
 .rw[eo4 (by simp;omega),if_neg hj];rfl
def ci0(g r k:List W){m i:Nat}(a:i<m):(af7 g r k m i).set i (goW g r k i)=af7 g r k m (i+1):=by
 apply es6;intro j;rw[List.getElem?_set,bC9,bC9,ax8];by_cases e:i=j
 .subst e;rw[if_pos rfl,if_pos a,if_pos a,if_pos (by omega)]
 .rw[if_neg e];by_cases h3:j<i
  .rw[if_pos h3,if_pos (show j<i+1 by omega)]
  .rw[if_neg h3,if_neg (show ¬j<i+1 by omega)]
def cv9(g r k:List W){m:Nat}(c:g.length=m)(d:r.length=m)(e:k.length=m)(f:Nat):T2 (af7 g r k m m) f=(T2 g f||(T2 r f && !T2 k f)):=by
 unfold T2;by_cases hi:f / 64<m
 .have b:(af7 g r k m m).getD (f / 64) 0#64=goW g r k (f / 64):=by
   unfold af7;simp only[List.getD,ei9,eo0 hi,el5,ek4];rw[if_pos hi]
  rw[b];unfold goW;rw[BitVec.getLsbD_or,BitVec.getLsbD_and,BitVec.getLsbD_not];have:f % 64<64:=Nat.mod_lt _ (by decide);simp[this]
 .have a:∀l:List W,l.length=m->l.getD (f / 64) 0#64=0#64:=λl h=>by
   simp only[List.getD];rw[eo4 (by omega)];rfl
  rw[a _ (ax8 g r k m m),a g c,a r d];simp
def ST.ge'{w0 w:World}{h g:Nat}{i j k:Value}{us:List X9}{e:List (List W)}{a:List Bool}{c:List Int}{T:Int}(s:ST w0 w h g i j k us e a c T){f:World}{b:Nat}(hb:m8 f b=none):f.heap.size<=b:=
 es7 λd=>by simp[m8,d]at hb
def cU7(pg:Value)(nx pv:List (List Int))(vg vk:Value)(gs ks:List (List W))(gl kl:List (List Int))(most:Nat)(w:World)
  (cp:GR (m8 w) pg nx pv) (cn:aN4 nx.length (nx,pv)) (cW:R (m8 w) vg gs) (cX:R (m8 w) vk ks) (ez:cX6 most gl gs) (eA:cX6 most kl ks) (bw:gl.length=nx.length) (cw:kl.length=nx.length) (eh:be1 gl most) (es:nx.length<=5000) (er:most<=5000) :
  o9 prog 262 #[pg,vg,vk,.int .i64 most] w λu V=>((∃vi bP T,u = .agg #[vi,.int .i64 (T:Nat)]/\R (C1 V (λb=>b<w.heap.size)) vi bP/\bP.length=nx.length/\(∀b,I2 nx.length b=true->∃f:Nat->Bool,D4 bP b=((List.range most).filter f).map (λ(i:Nat)=>(i:Int))/\∀i,f i=true↔aD0 nx gl kl b i)/\nx.length<=T/\T<=nx.length+nx.length*most)/\o6 w V):=by
 refine p9 [pg,vg,vk,.int .i64 most] func262 rfl ?_;have aU:=bN1;simp only[L3,zVB,simprocAttr,aU];have c1:(w.alloc (.cells #[.slice none 0 0,.int .i64 0] 295)).heap[w.heap.size]?=some (.cells #[.slice none 0 0,.int .i64 0] 295 (0,0)):=ej0 w _;have x1:=o6.alloc w (.cells #[.slice none 0 0,.int .i64 0] 295);have gA:(w.alloc (.cells #[.slice none 0 0,.int .i64 0] 295)).heap.size=w.heap.size+1:=by simp
 generalize w.alloc (.cells #[.slice none 0 0,.int .i64 0] 295)=w1 at *;have c2:(w1.alloc (.cells #[.slice none 0 0,.int .i64 0] 295)).heap[w1.heap.size]?=some (.cells #[.slice none 0 0,.int .i64 0] 295 (0,0)):=ej0 w1 _;have x2:=o6.alloc w1 (.cells #[.slice none 0 0,.int .i64 0] 295);have gB:(w1.alloc (.cells #[.slice none 0 0,.int .i64 0] 295)).heap.size=w1.heap.size+1:=by simp
 generalize w1.alloc (.cells #[.slice none 0 0,.int .i64 0] 295)=w2 at *;have aR:=x1.trans x2;refine t8 (do8 pg nx pv w2 (cp.mono (b7 aR))) ?_;rintro u bR ⟨hu,eD⟩;subst eD;subst hu;have hz:A3.enc (m8 w) (Value.slice none 0 0).cells.toList D2:=⟨rfl,rfl⟩;obtain⟨ui,w3,m1,o1,x3,f1,s1⟩:=mk (P:=prog) (w:=bR) (h:=m8 w) dB6 bp3 (α:=X9) (y:=D2) hz (n:=nx.length) (by omega) (by omega) (b7 aR);obtain⟨ut,w4,m2,o2,x4,f2,s2⟩:=mk (P:=prog) (w:=w3) (h:=m8 w) V4 aC6 (α:=Int) (y:=0) rfl (n:=nx.length) (by omega) (by omega) (b7 (aR.trans x3));obtain⟨uw,w5,m3,o3,x5,f3,s3⟩:=mk (P:=prog) (w:=w4) (h:=m8 w) bI1 W5 (α:=Bool) (y:=false) rfl (n:=nx.length) (by omega) (by omega) (b7 ((aR.trans x3).trans x4));have dy:=(x3.trans x4).trans x5;have l1:w.heap.size<bR.heap.size:=by omega
 have l2:w1.heap.size<bR.heap.size:=by omega
 have ec:w5.heap[w.heap.size]?=some (.cells #[.slice none 0 0,.int .i64 0] 295 (0,0)):=(dy.block _ l1 id).trans ((x2.block _ (by omega) id).trans c1);have eb:w5.heap[w1.heap.size]?=some (.cells #[.slice none 0 0,.int .i64 0] 295 (0,0)):=(dy.block _ l2 id).trans c2;have dr:ST w w5 w.heap.size w1.heap.size ui uw ut (List.replicate nx.length D2) (List.replicate nx.length []) (List.replicate nx.length false) (List.replicate nx.length 0) 0:=by
  refine⟨ak0 ((o1.ext x4).ext x5),o3,(o2.ext x5).toQ,eb,ec,λb p=>?_,λb p=>⟨λh=>?_,?_,?_⟩,λb p=>⟨?_,?_⟩,by omega,((aR.trans x3).trans x4).trans x5,by omega,eg6 _⟩
  .have cc:=ah1 p;have k1:=f1 b cc;have k2:=o1.lt cc;exact⟨λh=>by have:=f2 b h;omega,λh=>by have:=f3 b h;omega,by omega,by omega⟩
  .have:=o2.lt p;have:=f3 b h;omega
  .have:=f2 b p;omega
  .have:=f2 b p;omega
  .have:=f3 b p;omega
  .have:=f3 b p;omega
 have Si:=o1.isS;have ni:=o1.vlen;rw[ek9]at ni;have G:=cn.nx;generalize ew:w.heap.size=rb at *;generalize fZ:w1.heap.size=gb at *;have q1:=bW3 (P:=prog) (t:=3) most (by omega);have q2:C4 prog .add 3 (.int .i64 ((most / 64:Nat):Int)) (.int .i64 1)=some (.int .i64 ((most / 64+1:Nat):Int)):=by
  simp only[C4,F6,em4];rw[H8 _]
 have fn:most / 64+1<=100:=by omega
 obtain⟨cO,cP⟩:=ez;obtain⟨cQ,cR⟩:=eA;generalize aW:most / 64+1=m at *;generalize aV:most / 64=m6 at *;simp only[L3,R9,T6,simprocAttr,m1,m2,m3,Si,ni];refine A6 [0,1,2,3,8,9,10,11,12,13,29,30] (σ:=Nat) (λk f V=>f 31 = .int .i64 k/\k<=nx.length/\∃us d q z,ST w V rb gb ui uw ut us d q z 0/\d.length=nx.length/\q.length=nx.length/\z.length=nx.length/\∀j:Nat,j<k->d[j]?=some (List.replicate m 0#64)/\q[j]?=some true/\z[j]?=some (j:Int)) (λk=>nx.length-k) 0 ?_ ?_
 .exact⟨rfl,eg3 _,_,_,_,_,dr,by simp,by simp,by simp,λj hj=>by omega⟩
 .rintro k f w6 ⟨e0,e1,e2,e3,e8,e9,dW,bY,bZ,b0,fV,dX,_⟩ ⟨b4,cu,us,d,q,z,D,li,lw,lt,O⟩;simp only[L3,C4,F6,simprocAttr,b4,dX];refine y5 (λcC=>?_) ?_
  .have q6:C4 prog .add 3 (.int .i64 k) (.int .i64 1)=some (.int .i64 ((k+1:Nat):Int)):=by
    simp only[C4,F6,em4];rw[H8 k]
   obtain⟨ur,w7,m4,o4,x7,f4,s4⟩:=mk (P:=prog) (w:=w6) (h:=m8 w) dG7 aL2 (α:=W) (y:=0#64) rfl (n:=m) (by omega) (by omega) (b7 D.ext);have bO:us.length=nx.length:=by rw[D.rows.len,li]
   have cV:us[k]?=some (us[k]'(by omega)):=ef1 _;generalize us[k]'(by omega)=u at cV;obtain⟨w8,t1,bQ⟩:=D.put (P:=prog) (t:=332) x7 cV o4 f4 (z7 bp3).choose_spec.1 (by rw[<-E1 (z7 bp3).choose_spec.1];exact cB7);obtain⟨w9,t2,a4⟩:=bQ.qset (P:=prog) (t:=3) (k:=k) (by omega) (k:Int) (z7 aC6).choose_spec.1 (by rw[<-E1 (z7 aC6).choose_spec.1];exact bj6);obtain⟨a8,t3,M⟩:=a4.wait (P:=prog) (t:=4) (k:=k) (by omega) true (z7 W5).choose_spec.1 (by rw[<-E1 (z7 W5).choose_spec.1];exact aG0);have eH:=D.q.inS (k:=k) (by omega);have eI:=D.wts.inS (k:=k) (by omega);simp only[L3,zVB,y4,simprocAttr,b4,bY,bZ,b0,e3,q1,q2,m4,D.rows.outer.inS (k:=k) (by omega),eH,eI,t1,t2,t3,q6];refine T4 (k+1) ⟨_,_,_,_,M,by simp[li],by simp[lw],by simp[lt],λj hj=>?_⟩;by_cases hjk:j=k
   .subst hjk;exact⟨en0 (by omega),en0 (by omega),en0 (by omega)⟩
   .rw[eo1 (λe=>hjk e.symm),eo1 (λe=>hjk e.symm),eo1 (λe=>hjk e.symm)];exact O j (by omega)
  .rintro rfl;have bf:d=List.replicate nx.length (List.replicate m 0#64):=by
    apply em6 (by simp[li]);intro j h1 h2;have:=(O j (by omega)).1;rw[ef1 h1]at this;simpa using this
   have bm:q=List.replicate nx.length true:=by
    apply em6 (by simp[lw]);intro j h1 h2;have:=(O j (by omega)).2.1;rw[ef1 h1]at this;simpa using this
   have bI:z=(List.range nx.length).map λ(i:Nat)=>(i:Int):=by
    apply em6 (by simp[lt]);intro j h1 h2;have:=(O j (by omega)).2.2;rw[ef1 h1]at this;simpa using this
   have dq:SI nx gl kl most d z q 0:=by
    refine SI.start (by rw[bf,<-aW,<-aV]) (λa=>?_) ?_ lt bm
    .rw[bI,eh4,B4];constructor
     .rintro⟨i,hi,rfl⟩;have:=ej7.1 hi;omega
     .rintro⟨h1,h2⟩;exact⟨a.toNat,ej7.2 (by omega),by omega⟩
    .rw[bI];refine List.Pairwise.map _ (λa b h=>?_) (List.nodup_range (n:=nx.length));omega
   simp only[L3,simprocAttr];clear O bf bm bI li lw lt dr;have q3:∀T:Nat,T<=100000000->C4 prog .add 3 (.int .i64 (T:Int)) (.int .i64 1)=some (.int .i64 ((T+1:Nat):Int)):=λT hT=>by
    simp only[C4,F6,em4];rw[H8 T]
   refine D9 [0,1,2,3,8,9,10,11,13] (σ:=List (List W)×List Int) (λs f V=>∃q T,ST w V rb gb ui uw (f 12) us s.1 q s.2 (T:Nat)/\SI nx gl kl most s.1 s.2 q T) (λs=>dA4 nx.length most s.1 s.2) (d,z) ?_ ?_
   .simp only[B3,simprocAttr];simp only[bZ];exact⟨q,0,D,dq⟩
   .clear D dq d q z;rintro⟨d,z⟩ f w7 hk ⟨q,T,D,Q⟩;simp only[ei3,B3,simprocAttr]at hk;simp only[e0,e1,e2,e3,e8,e9,dW,bY,b0]at hk;obtain⟨i0,i1,i2,i3,i8,i9,c6,bL,c7,_⟩:=hk;simp only at D Q;generalize cY:f 12=vt at *;have Sq:=D.q.isS;have nq:=D.q.vlen;have eu:=bg9 most d;rw[Q.ilen]at eu;have f8:nx.length*most<=25000000:=ef9 (Nat.mul_le_mul es er) (by decide);have ce:=Q.few;simp only[L3,R9,C4,F6,T6,simprocAttr,cY,Sq,nq];refine A4 (λhc=>?_) (λhc=>?_)
    .have cJ:0<z.length:=by simpa using hc
     obtain⟨a,C,rfl⟩:∃a C,z=a::C:=by
      cases z with
      | nil=>simp at cJ
      | cons a C=>exact⟨a,C,rfl⟩
     have am:I2 nx.length a=true:=Q.ok a (by simp);have ct:=B4.1 am;have d0:decide (0<=a)=true:=by simpa using ct.1
     have eK:=D.q.inS (k:=0) (by simp);have eX:=D.q.head (P:=prog) (t:=3) G3;have d1:decide ((1:Int)<=(((a::C).length:Nat):Int))=true:=by simp;omega
     have d2:decide ((((a::C).length:Nat):Int)<=(vcap vt:Int))=true:=by
      have h9:=D.q.vcap;simp only[ei2]at h9 ⊢;simp;omega
     have bQ:=D.tail;have eq:(a::C).length=C.length+1:=rfl;rw[eq]at nq d1 d2;obtain⟨w8,t2,a4⟩:=bQ.wait (P:=prog) (t:=4) (k:=a.toNat) (by rw[Q.wlen];omega) false (z7 W5).choose_spec.1 (by rw[<-E1 (z7 W5).choose_spec.1];exact aG0);have eL:=D.wts.inS (k:=a.toNat) (by rw[Q.wlen];omega);have eV:=E7 (P:=prog) (t:=3) (i:=1) (u:=.int .i64 (T:Int)) a4.cg rfl G3;have cb:T<=100000000:=by simp only[ei2]at ce;omega
     have qT:=q3 T cb;obtain⟨w9,t3,M⟩:=a4.times (P:=prog) (t:=3) ((T+1:Nat):Int) (z7 aC6).choose_spec.1 (by rw[<-E1 (z7 aC6).choose_spec.1];exact bj6);obtain⟨ug,a8,m4,o4,dx,f4,s4⟩:=mk (P:=prog) (w:=w9) (h:=m8 w9) dG7 aL2 (α:=W) (y:=0#64) rfl (n:=m) (by omega) (by omega) (n7 _);have gz:=M.more dx;have Sg:=o4.isS;have ng:=o4.vlen;rw[ek9]at ng;generalize bF:C.length+1=rl at *;generalize cZ:reS vt 1 rl 1=an at *;generalize bt:((T+1:Nat):Int)=T1 at *;simp only[L3,zVB,y4,J0,T6,simprocAttr,cY,Sq,nq,eK,eX,d1,d2,cZ,c7,eL,d0,t2,i9,eV,qT,t3,i3,q1,q2,m4,Sg,ng];have aU:a.toNat<nx.length:=by omega
     have co:gl[a.toNat]?=some (D4 gl a):=(au7 (nx:=gl) (by rw[bw];exact am)).1;have cv:kl[a.toNat]?=some (D4 kl a):=(au7 (nx:=kl) (by rw[cw];exact am)).1;obtain⟨g,ek,cj,el⟩:=cP _ _ co;obtain⟨kk,eo,cq,ep⟩:=cR _ _ cv;rw[aV,aW]at cj cq;obtain⟨xg,bJ,bc⟩:=cW.row ek;obtain⟨xk,bK,bd⟩:=cX.row eo;have av:=aq1 Q.ilen am;have cL:(wAt d a).length=m:=by rw[<-aW,<-aV];exact Q.rlen _ (eh3 av)
     have bO:us.length=nx.length:=by rw[D.rows.len,Q.ilen]
     have ae:us[a.toNat]?=some (us[a.toNat]'(by omega)):=ef1 _;generalize us[a.toNat]'(by omega)=ua at ae;have c8:=cW.inS (k:=a.toNat) (by rw[cO,bw];exact aU);have a1:=cX.inS (k:=a.toNat) (by rw[cQ,cw];exact aU);have da:=D.rows.outer.inS (k:=a.toNat) (by omega);have bx:=cv9 g (wAt d a) kk cj cL cq;refine D9 [0,1,2,3,8,9,10,11,12,13,15,16,68,69] (σ:=Nat) (λi f V=>f 70 = .int .i64 i/\i<=m/\B0 (m8 w9) V 167 ug (af7 g (wAt d a) kk m i)/\o6 w9 V) (λi=>m-i) 0 ?_ ?_
     .simp only[B3,simprocAttr];exact⟨by first|rfl|trivial,eg3 _,by rw[ci1];exact o4,dx⟩
     .rintro i f Z hk ⟨br,f5,aX,U⟩;simp only[ei3,B3,simprocAttr]at hk;simp only[i0,i1,i2,i3,i8,i9,c6,bL,c7]at hk;obtain⟨j0,j1,j2,j3,j8,j9,dc,a2,eO,eP,aL,de,ge,eS,_⟩:=hk;simp only[L3,C4,F6,simprocAttr,br,eS];refine y5 (λbA=>?_) ?_
      .have q6:C4 prog .add 3 (.int .i64 i) (.int .i64 1)=some (.int .i64 ((i+1:Nat):Int)):=by
        simp only[C4,F6,em4];rw[H8 i]
       have hd:=o6.drew Z;have F:=(M.more U).more hd;have cx:=J1 (P:=prog) (t:=332) bc (b7 F.ext) bo7;have cy:=J1 (P:=prog) (t:=332) bd (b7 F.ext) bo7;have cz:=aK2 (P:=prog) (t:=332) F.rows ae bo7;have ac:=F.rows.row _ _ _ ae av;have v1:=N7 (P:=prog) (t:=167) bJ (b7 F.ext) (bp7 (show i<g.length by omega)) as9;have v2:=N7 (P:=prog) (t:=167) bK (b7 F.ext) (bp7 (show i<kk.length by omega)) as9;have v3:=D6 (P:=prog) (t:=167) ac (bp7 (show i<(wAt d a).length by omega)) as9;have y1:=bJ.inS (k:=i) (by omega);have y2:=bK.inS (k:=i) (by omega);have y3:=ac.inS (k:=i) (by omega);have en:goW g (wAt d a) kk i=g.getD i 0#64 ||| ((wAt d a).getD i 0#64 &&& ~~~(kk.getD i 0#64)):=rfl;have cS:=ci0 g (wAt d a) kk bA;rw[en]at cS;simp only[M5.val]at v1 v2 v3;generalize g.getD i 0#64=gi at *;generalize(wAt d a).getD i 0#64=ri at *;generalize kk.getD i 0#64=ki at *;have b1:=bN6 (P:=prog) (t:=167) ri ki;have b2:=cZ9 (P:=prog) (t:=167) gi (ri &&& ~~~ki);have c9:=aX.inS (k:=i) (by rw[ax8];exact bA);obtain⟨S,t4,o5,m5,_⟩:=F1 (P:=prog) (t:=167) (aX.ext hd) rfl (k:=i) (by rw[ax8];exact bA) (x:=.int .u64 (((gi ||| (ri &&& ~~~ki)).toNat:Nat):Int)) (y:=(gi ||| (ri &&& ~~~ki))) rfl rfl (z7 aL2).choose_spec.1 (by rw[<-E1 (z7 aL2).choose_spec.1];exact cc0);rw[cS]at o5;simp only[L3,simprocAttr,br];refine B9 (λw3=>w3=Z.drew) 25 (A5 [0,1,2,3,4,5,6,7,8,9,10,11,12,13,14,15,16,17,18,19,20,21,22,23,24]) ?_;simp only[D0,A5,L3,zVB,y4,simprocAttr,de,j1,aL,d0,c8];refine⟨xg,λw3 e=>by subst e;exact cx,?_⟩;simp only[D0,L3,zVB,y4,simprocAttr,y1];refine⟨.int .u64 (gi.toNat:Nat),λw3 e=>by subst e;exact v1,?_⟩;simp only[D0,L3,zVB,y4,simprocAttr,a2,aL,d0,da];refine⟨ua.v,λw3 e=>by subst e;exact cz,?_⟩;simp only[D0,L3,zVB,y4,simprocAttr,y3];refine⟨.int .u64 (ri.toNat:Nat),λw3 e=>by subst e;exact v3,?_⟩;simp only[D0,L3,zVB,y4,simprocAttr,j2,aL,d0,a1];refine⟨xk,λw3 e=>by subst e;exact cy,?_⟩;simp only[D0,L3,zVB,y4,simprocAttr,y2];refine⟨.int .u64 (ki.toNat:Nat),λw3 e=>by subst e;exact v2,?_⟩;simp only[D0,L3,zVB,y4,simprocAttr,b1,b2,c9,t4,br,q6];exact T4 (i+1) ⟨o5,(aX.ext hd).ext2 (U.trans hd) m5⟩
      .rintro rfl;clear ae c8 a1 da bJ bK bc bd;have ck:∀f,T2 (af7 g (wAt d a) kk i i) f=true↔cd8 gl kl d a f:=by
        intro f;rw[bx f,eq6,eh5,Bool.not_eq_true',el f];have h8:=ep f;unfold cd8 aq6;constructor
        .rintro(h|⟨h9,aT⟩)
         .exact .inl h
         .exact .inr ⟨h9,λd3=>by rw[h8.2 d3]at aT;cases aT⟩
        .rintro(h|⟨h9,aT⟩)
         .exact .inl h
         .refine .inr ⟨h9,?_⟩;cases e:T2 kk f
          .rfl
          .exact absurd (h8.1 e) aT
       have aq:∀f,T2 (af7 g (wAt d a) kk i i) f=true->f<most/\∀b∈D4 nx a,aD0 nx gl kl b f:=by
        intro f hf;rcases(ck f).1 hf with h|⟨h1,h2⟩
        .refine⟨?_,λb p=>.gen p h⟩;have:=eh _ (az1 (nx:=gl) (by rw[bw];exact am)) _ h;omega
        .exact⟨Q.low a f am h1,λb p=>.step p (Q.sound a f am h1) h2⟩
       have H:(af7 g (wAt d a) kk i i).length=most / 64+1:=by rw[ax8,aV,aW]
       have e7:=Q.pop ck;have F:=M.more U;have cG:=aX.down (b7 M.ext);have bz:=cp.mono (b7 F.ext);have ej:∀b,A0 ug b->w9.heap.size<=b:=λb p=>f4 b p;generalize af7 g (wAt d a) kk i i=gw at *;simp only[L3,simprocAttr,j0,aL];refine t8 (cX3 pg nx pv a Z bz (by rw[cn.pv.len]) (λx hx=>ef9 (G.row_len hx) (by omega))) ?_;rintro un S ⟨aY,bn⟩;have bp:=F.more bn;have aG:=cG.ext bn;have bi:=aY.down (b7 F.ext);have ei:∀b,A0 un b->Z.heap.size<=b:=λb p=>bp.ge' (aY.free p);have cN:(D4 nx a).length<=nx.length:=G.rowlen a;simp only[L3,R9,T6,simprocAttr,aY.isS,aY.vlen];refine D9 [0,1,2,3,8,9,10,11,13,15,16,102,103] (σ:=Nat) (λk f V=>f 104 = .int .i64 k/\k<=(D4 nx a).length/\∃E J A,ST w V rb gb ui uw (f 12) us E A J T1/\SJ nx gl kl most a gw k E J A (T+1)/\J.length+aR4 most d<=C.length+aR4 most E/\o8 (λb=>N2 ui us b\/A0 uw b\/A0 an b\/S.heap.size<=b) S V/\∀b,A0 (f 12) b->A0 an b\/S.heap.size<=b) (λk=>(D4 nx a).length-k) 0 ?_ ?_
       .simp only[B3,simprocAttr];simp only[eO];exact⟨by trivial,eg3 _,d,C,_,bp,e7,eg6 _,o8.refl _,λb p=>.inl p⟩
       .rintro k f a9 hk ⟨ab,cu,E,J,A,af,sj,fo,aF,ar⟩;simp only[ei3,B3,simprocAttr]at hk;simp only[j0,j1,j2,j3,j8,j9,dc,a2,eP,aL,de]at hk;obtain⟨k0,k1,k2,k3,k8,k9,gg,eT,di,gh,eU,dg,dh,_⟩:=hk;generalize I:f 12=fJ at *;simp only[L3,C4,F6,simprocAttr,ab,dh];refine y5 (λX=>?_) ?_
        .have b8:∀b,A0 ug b->¬(N2 ui us b\/A0 uw b\/A0 an b\/S.heap.size<=b):=λb p N=>by
          have h1:=ej b p;rcases N with N|N|N|N
          .have:=M.rows.lt N;omega
          .have:=M.wts.lt N;omega
          .have:=M.q.lt N;omega
          .have:=aG.lt p;omega
         have d5:∀b,A0 un b->¬(N2 ui us b\/A0 uw b\/A0 an b\/S.heap.size<=b):=λb p N=>by
          have h1:=ei b p;have h2:=U.size;rcases N with N|N|N|N
          .have:=M.rows.lt N;omega
          .have:=M.wts.lt N;omega
          .have:=M.q.lt N;omega
          .have:=bi.lt p;omega
         have bC:=aG.mod aF b8;have cM:=(bi.mod aF d5).rw_ (b7 af.ext);have ik:=cM.inS X;have bM:=N7 (P:=prog) (t:=3) cM (n7 _) (ef1 X) G3;simp only[M5.val]at bM;have ap:(D4 nx a)[k]?=some (D4 nx a)[k]:=ef1 X;have K:=(G.row a).2 _ (eg2 X);generalize(D4 nx a)[k]=b at bM ap K;have bv:=B4.1 K;have db:decide (0<=b)=true:=by simpa using bv.1
         have cd:b.toNat<nx.length:=by omega
         have aw:us[b.toNat]?=some (us[b.toNat]'(by omega)):=ef1 _;generalize us[b.toNat]'(by omega)=ub at aw;have eJ:=af.rows.outer.inS (k:=b.toNat) (by omega);have eW:=aK2 (P:=prog) (t:=332) af.rows aw bo7;have bk:=aq1 sj.ilen K;have ac:=af.rows.row _ _ _ aw bk;have aI:(wAt E b).length=gw.length:=by rw[H];exact sj.rlen _ (eh3 bk)
         have bg:B8 (m8 w) (aq7 a9 ub.v):=λx o e=>by
          have hn:¬A0 ub.v x:=λbu=>by rw[ac.free bu]at e;cases e
          rw[ad5 hn];exact b7 af.ext x o e
         have bG:=ac.rebase (b7 af.ext);have ef:∀x,A0 ug x->¬A0 ub.v x:=λx hx eE=>b8 x hx (.inl (.inr ⟨ub,eh3 aw,eE⟩));have d6:=bC.beside (v:=ub.v) bg ef;have q6:C4 prog .add 3 (.int .i64 k) (.int .i64 1)=some (.int .i64 ((k+1:Nat):Int)):=by
          simp only[C4,F6,em4];rw[H8 k]
         simp only[L3,R9,y4,simprocAttr,ab,dg,eT,eU,ik,bM,db,eJ,eW];refine t8 (de6 (aq7 a9 ub.v) ub.v ug (wAt E b) gw a9 bG (be9 a9 ub.v) d6 aI (by rw[aI,H];omega)) ?_;rintro rj fe ⟨ex,cF,bh⟩;have ag:=af.row aw bh (cF.down bg);have ao:o8 (λb=>N2 ui us b\/A0 uw b\/A0 an b\/S.heap.size<=b) S fe:=aF.trans (bh.weaken λx _ hx=>.inl (.inr ⟨ub,eh3 aw,hx⟩));obtain⟨f9,et⟩:=sj.pot H aq K;have bo:=ag.wts.inS (k:=b.toNat) (by rw[sj.wlen];exact cd);have c3:=O0 (l:=A) (b:=b) (by rw[sj.wlen];exact K);have c0:A[b.toNat]?=some (B1 A b):=by
          rw[c3.2];simp[List.getD,c3.1]
         have bN:=D6 (P:=prog) (t:=4) ag.wts c0 ah3;simp only[M5.val]at bN;generalize cD:an2 (wAt E b) gw=mo at *;generalize bl:B1 A b=wb at *;subst ex;cases mo
         .have aO:=sj.old G H aq ap K (.inl cD);simp only[L3,simprocAttr,ab,q6];exact T4 (k+1) ⟨_,_,_,by simpa only[I]using ag,aO,by omega,ao,by simpa only[I]using ar⟩
         .cases wb
          .have aO:=sj.new G H aq ap K cD bl;obtain⟨gH,t5,ds,dk⟩:=ag.wait2 (P:=prog) (t:=4) (k:=b.toNat) (by rw[sj.wlen];exact cd) true (z7 W5).choose_spec.1 (by rw[<-E1 (z7 W5).choose_spec.1];exact aG0);have ga:J.length+1<=100000000:=by
            have:=sj.few;have h8:=bg9 most E;rw[sj.ilen]at h8;omega
           obtain⟨p1,v',ff,p2,dt,eZ,dl⟩:=ds.push2 (P:=prog) (t:=24) (e:=24) V4 b (by omega) (by omega);have b6:o8 (λb=>N2 ui us b\/A0 uw b\/A0 an b\/S.heap.size<=b) S ff:=(ao.trans (dk.weaken λx _ hx=>.inr (.inl hx))).trans (eZ.weaken λx _ hx=>by
            rcases ar x hx with h|h
            .exact .inr (.inr (.inl h))
            .exact .inr (.inr (.inr h)))
           have eC:=(ao.trans (dk.weaken λx _ hx=>.inr (.inl hx))).size;have cK:∀x,A0 v' x->A0 an x\/S.heap.size<=x:=λx hx=>by
            rcases dl x hx with h|h
            .exact ar x h
            .exact .inr (by omega)
           simp only[L3,zVB,unV,y4,simprocAttr,ab,di,db,bo,bN,q6,t5,I,p1,p2];exact T4 (k+1) ⟨_,_,_,dt,aO,by simp only[ef4,ei2,em2];have:=et rfl;omega,b6,cK⟩
          .have aO:=sj.old G H aq ap K (.inr bl);simp only[L3,zVB,unV,y4,simprocAttr,ab,di,db,bo,bN,q6];exact T4 (k+1) ⟨_,_,_,by simpa only[I]using ag,aO,by omega,ao,by simpa only[I]using ar⟩
        .rintro rfl;have dp:=sj.fin rfl;simp only[L3,simprocAttr];have cI:=bg9 most E;rw[dp.ilen]at cI;exact⟨(E,J),by simp only[dA4,ei2];omega,A,T+1,by rw[bt];simpa only[I]using af,dp⟩
    .have cE:z=[]:=by
      cases z with
      | nil=>rfl
      | cons x C=>simp at hc
     subst cE;obtain⟨ch,bt,d8⟩:=Q.fin G;have bO:us.length=nx.length:=by rw[D.rows.len,Q.ilen]
     have ni:vlen ui=nx.length:=by rw[D.rows.outer.vlen,bO]
     have cl:rb<w7.heap.size:=D.lr;have cm:gb<w7.heap.size:=D.lg;have d7:∀b,N2 ui us b->b<w7.heap.size:=λb p=>D.rows.lt p;have a0:=D.rows;have ed:∀b,N2 ui us b->b≠gb/\b≠rb:=λb p=>(D.d1 b p).2.2;have ee:=D.d4;have cf:=D.fg;have ci:=D.frb;simp only[L3,R9,T6,simprocAttr,bL,D.rows.outer.isS,ni];refine D9 [0,1,2,3,8,9,10,11,129,130] (σ:=Nat) (λk f V=>f 131 = .int .i64 k/\k<=nx.length/\(∃B,V.heap[gb]?=some (.cells #[B,.int .i64 (T:Nat)] 295 (0,0))/\B0 (C1 V (λb=>A0 B b\/b<w7.heap.size)) V 24 B ((d.take k).map λr=>ag7 r most)/\∀b,A0 B b->w7.heap.size<=b) /\
      V.heap[rb]?=some (.cells #[.slice none 0 0,.int .i64 0] 295 (0,0))/\E2 (m8 w) V 332 167 ui us d/\o6 w V/\w7.heap.size<=V.heap.size) (λk=>nx.length-k) 0 ?_ ?_
     .simp only[B3,simprocAttr];exact⟨by trivial,eg3 _,⟨_,D.cg,B0.nil _ _ _,λb p=>absurd p D5⟩,D.cr,a0,D.ext,eg6 _⟩
     .rintro k f w8 hk ⟨aD,cu,⟨B,cg,aZ,ak⟩,cr,aJ,hx,eB⟩;simp only[ei3,B3,simprocAttr]at hk;simp only[i0,i1,i2,i3,i8,i9,c6,bL]at hk;obtain⟨j0,j1,j2,j3,j8,j9,dc,a2,ft,dd,_⟩:=hk;simp only[L3,C4,F6,simprocAttr,aD,dd];refine y5 (λX=>?_) ?_
      .have q6:C4 prog .add 3 (.int .i64 k) (.int .i64 1)=some (.int .i64 ((k+1:Nat):Int)):=by
        simp only[C4,F6,em4];rw[H8 k]
       have ae:us[k]?=some (us[k]'(by omega)):=ef1 _;generalize us[k]'(by omega)=ua at ae;have av:d[k]?=some (d[k]'(by rw[Q.ilen];exact X)):=ef1 _;have cU:(d.take (k+1)).map (λr=>ag7 r most)=(d.take k).map (λr=>ag7 r most)++[ag7 (d[k]'(by rw[Q.ilen];exact X)) most]:=by
        rw[ef8 (by rw[Q.ilen];exact X),ei4];rfl
       have bF:=Q.rlen _ (eh3 av);generalize d[k]'(by rw[Q.ilen];exact X)=r at av cU bF;have hd:=o6.drew w8;have bq:=(hd.block gb (ef5.1 cg).1 id).trans cg;have bX:=(hd.block rb (ef5.1 cr).1 id).trans cr;have Y:=aJ.ext hd;have c5:=hx.trans hd;have a1:=aJ.outer.inS (k:=k) (by omega);have b3:=(ef5.1 bq).1;have e6:=(ef5.1 bX).1;have bs:=(Y.row _ _ _ ae av).rw_ (b7 c5);have bj:=aZ.noMod hd (λb h=>h.elim) (λb _ h=>h) (N':=λb=>A0 B b\/b<w7.heap.size) (λb h=>.inl h) (λb h=>.inl h);generalize c4:w8.drew=wd at *;have cT:w7.heap.size<=wd.heap.size:=ef9 eB hd.size;simp only[L3,simprocAttr,aD];refine B9 (λw2=>o6 wd w2) 9 (A5 [0,1,2,3,4,5,6,7,8]) ?_ (hS:=by rw[c4];exact o8.refl _);rw[c4];simp only[D0,A5,L3,R9,simprocAttr,j9];refine⟨B,λw2 e=>E7 (i:=0) ((e.block gb b3 id).trans bq) rfl Z1,?_⟩;simp only[D0,L3,R9,y4,simprocAttr,a2,a1];refine⟨ua.v,λw2 e=>aK2 (Y.ext e) ae bo7,?_⟩;simp only[D0,L3,simprocAttr,j3];refine t8 (df6 ua.v r most wd bs (by omega) (λf hf=>by rw[bF];have:=Nat.div_le_div_right (c:=64) (Nat.le_of_lt hf);omega)) ?_;rintro ul w9 ⟨bD,L⟩;have Sl:=bD.isS;have d4:∀b,A0 ul b->¬(A0 B b\/b<w7.heap.size):=λb p N=>by
        have h1:wd.heap.size<=b:=by
         have:=bD.free p;exact es7 λcC=>by simp[m8,cC]at this
        rcases N with N|N
        .have:=bj.lt N;omega
        .omega
       have aH:=bj.noMod L (λb h=>h.elim) (λb _ h=>h) (N':=λb=>A0 B b\/b<w7.heap.size) (λb h=>.inl h) (λb h=>.inl h);have ca:=(bD.down (h:=C1 wd (λb=>A0 B b\/b<w7.heap.size)) (A8 _ _)).roNo (K0 L (λb h=>h.elim) (N':=λb=>A0 B b\/b<w7.heap.size) λb h=>.inl h) d4;obtain⟨p1,v',a8,p2,p3,p4,p5⟩:=push (P:=prog) (t:=242) (e:=242) cz8 rfl aH (x:=ul) (y:=ag7 r most) (by rw[F0 Sl];exact ca) (by simp;omega) (by simp;omega) (A8 _ _);rw[F0 Sl]at p1 p2;have em:¬A0 B gb:=λh=>by have:=ak gb h;omega
       have ey:¬A0 B rb:=λh=>by have:=ak rb h;omega
       have bV:=(L.block gb b3 id).trans bq;have aS:=(L.block rb e6 id).trans bX;have bT:=(p4.block gb (ef5.1 bV).1 em).trans bV;have bb:=(p4.block rb (ef5.1 aS).1 ey).trans aS;have Sv:=p3.isS;obtain⟨Z,t6,bU,aN⟩:=af3 (P:=prog) (t:=242) (i:=0) (x:=v') bT (by simp) (F0 Sv) (X1 Sv) (z7 dm5).choose_spec.1 (by rw[<-E1 (z7 dm5).choose_spec.1];exact dI4);have bW:=(aN.block rb (ef5.1 bb).1 (λh=>ee h.symm)).trans bb;have be:∀b,A0 v' b->w7.heap.size<=b:=λb p=>by
        rcases p5 b p with h|h
        .exact ak b h
        .have:=L.size;omega
       have bE:B0 (C1 Z (λb=>A0 v' b\/b<w7.heap.size)) Z 24 v' ((d.take k).map (λr=>ag7 r most)++[ag7 r most]):=by
        have h1:B0 (C1 a8 (λb=>A0 v' b\/b<w7.heap.size)) a8 24 v' ((d.take k).map (λr=>ag7 r most)++[ag7 r most]):=
         p3.reNo (K0 p4 (λb h=>.inl h) λb h=>by
          rcases h with h|h
          .rcases p5 b h with h|h
           .exact .inl (.inl h)
           .exact .inr h
          .exact .inl (.inr h)) λb h=>.inl h
        exact h1.noMod aN (λb h=>.inr (by subst h;exact cm)) (λb p h=>by subst h;have:=be b p;omega) (λb h=>.inl h) (λb h=>.inl h)
       have aK:=((Y.ext L).mod p4 (λb p bu=>by have:=d7 b p;have:=ak b bu;omega)).mod aN (λb p h=>(ed b p).1 h);have U:o6 w Z:=o8.ext_of (o8.ext_of (c5.trans L) p4 λb p=>by have:=ak b p;have:=D.ext.size;omega) aN λb p=>by subst p;exact cf
       have bH:w7.heap.size<=Z.heap.size:=ef9 cT (ef9 L.size (ef9 p4.size aN.size));simp only[D0,L3,simprocAttr,F2,p1];refine⟨L,L.trans (o6.alloc w9 _),?_⟩;simp only[L3,zVB,simprocAttr,p2,j9,t6,aD,q6];refine T4 (k+1) ⟨⟨v',?_,?_,be⟩,bW,aK,U,bH⟩
       .simpa using bU
       .rw[cU];exact bE
      .rintro rfl;rw[ej5 (by rw[Q.ilen];exact eg6 _)]at aZ;have cA:=Y5 (P:=prog) cg cb8 cc2 cb9 (by rw[am5];rfl);have Sv:=aZ.isS;have cH:∀u∈(#[B,Value.int .i64 (T:Nat)]:Array Value).toList,u.oneCell'=true:=by
        intro u hu;simp at hu;rcases hu with rfl|rfl
        .exact X1 Sv
        .rfl
       obtain⟨w9,t7,aS,m9⟩:=ab4 (P:=prog) cr bp0 (by rw[am5];rfl) (cs:=#[B,.int .i64 (T:Nat)]) (by rw[am5];rfl) cH;have aH:=aZ.noMod m9 (λb h=>.inr (by subst h;exact cl)) (λb p h=>by subst h;have:=ak b p;omega) (N':=λb=>A0 B b\/b<w7.heap.size) (λb h=>.inl h) (λb h=>.inl h);have b9:R (C1 w9 (λb=>b<w.heap.size)) B (d.map λr=>ag7 r most):=aH.ro (λb o e=>by
        by_cases h:b<w7.heap.size
        .rw[F9 (.inr h)]at e;cases e
        .by_cases h2:A0 B b
         .rw[F9 (.inl h2)]at e;cases e
         .rw[E4 (λN=>N.elim h2 h)]at e;rw[E4 (by have:=D.ext.size;omega)];exact e) λb p=>E4 (by have:=ak b p;have:=D.ext.size;omega)
       have bB:=Y5 (P:=prog) aS cb8 cc2 cb9 (by rw[am5];rfl);have L:o6 w w9:=o8.ext_of hx m9 λb p=>by subst p;exact ci
       simp only[L3,simprocAttr,j8,j9,cA,t7];refine N9 results262 (ad:=⟨rb,0,none⟩) (by simp only[B3,↓reduceIte,Nat.reduceEqDiff];exact j8) bB ?_;simp only[ew]at b9;refine⟨⟨B,d.map λr=>ag7 r most,T,rfl,b9,by rw[eg5,Q.ilen],λb p=>⟨T2 (wAt d b),?_,λi=>ch b i p⟩,bt,d8⟩,L⟩;have h1:=aq1 Q.ilen p;have cB:(d.map λr=>ag7 r most).length=nx.length:=by rw[eg5,Q.ilen]
       have h2:=(au7 (nx:=d.map λr=>ag7 r most) (a:=b) (by rw[cB];exact p)).1;rw[ei9,h1]at h2;exact(eh1 h2).symm
structure cX4 (n:Int) (steps:List (Int×Int)) (gl kl:List (List Int)) (most:Int):Prop where
 n0:0<=n
 n5:n<=5000
 m0:0<=most
 m5:most<=5000
 gn:(gl.length:Int)=n
 kn:(kl.length:Int)=n
 st:∀s∈steps,bp5 n.toNat s
 gf:be1 gl most.toNat
 kf:be1 kl most.toNat
structure dL5 (nx gl kl:List (List Int)) (most:Nat) (sol:List (List Int)) (T:Nat):Prop where
 len:sol.length=nx.length
 row:∀b,I2 nx.length b=true->∃f:Nat->Bool,D4 sol b=((List.range most).filter f).map (λ(i:Nat)=>(i:Int))/\∀i,f i=true↔aD0 nx gl kl b i
 lo:nx.length<=T
 hi:T<=nx.length+nx.length*most
def ao0{P:Program}{b:Func}{R:Value->World->Prop}{f:Fr}{w:World}{v:Value}{a t:Nat}{ty:TypeId}{ad:Addr}(h:b.results=#[.cell a ty,.tmp t])(d:f a = .pointer (some ad))(e:(Instr.loadAt ty (.pointer (some ad))).run P w = .ok v w)(c:R (.tuple #[v,f t]) w):bk5 P b R .ret f w:=by
 refine⟨[v,f t],?_,c⟩;rw[h];refine⟨?_,rfl,trivial⟩;show(do loadVar ty (<-asAddr (f a)):Sem Value).run P w = .ok v w;rw[d];exact e
def cN2:B6 prog 295 []=some (.agg #[.slice none 0 0,.int .i64 0]):=by
 have h:H3 prog 295=some (.agg #[.slice none 0 0,.int .i64 0]):=bp0
 first
 | (simp[B6,dI0,J9,Instr.fill];done)
 | rfl
def dg9(n most:Int)(a d:Nat):
  (decide (n<0)=true/\n<0)\/(decide (n<0)=false/\decide (n>5000)=true/\n>5000) \/
  (decide (n<0)=false/\decide (n>5000)=false/\decide (most<0)=true/\most<0)\/(decide (n<0)=false/\decide (n>5000)=false/\decide (most<0)=false/\decide (most>5000)=true/\most>5000) \/
  (decide (n<0)=false/\decide (n>5000)=false/\decide (most<0)=false/\decide (most>5000)=false/\((a:Int) != n)=true/\(a:Int)≠n) \/
  (decide (n<0)=false/\decide (n>5000)=false/\decide (most<0)=false/\decide (most>5000)=false/\((a:Int) != n)=false/\((d:Int) != n)=true/\(d:Int)≠n) \/
  (decide (n<0)=false/\decide (n>5000)=false/\decide (most<0)=false/\decide (most>5000)=false/\((a:Int) != n)=false/\((d:Int) != n)=false/\0<=n/\n<=5000/\0<=most/\most<=5000/\(a:Int)=n/\(d:Int)=n):=by
 by_cases h1:n<0
 .exact .inl ⟨by simpa using h1,h1⟩
 .have b:decide (n<0)=false:=by simpa using h1
  by_cases h2:n>5000
  .exact .inr (.inl ⟨b,by simpa using h2,h2⟩)
  .have c:decide (n>5000)=false:=by simpa using h2
   by_cases h3:most<0
   .exact .inr (.inr (.inl ⟨b,c,by simpa using h3,h3⟩))
   .have e:decide (most<0)=false:=by simpa using h3
    by_cases h4:most>5000
    .exact .inr (.inr (.inr (.inl ⟨b,c,e,by simpa using h4,h4⟩)))
    .have f:decide (most>5000)=false:=by simpa using h4
     by_cases h5:(a:Int)=n
     .have g:((a:Int) != n)=false:=by simpa using h5
      by_cases h6:(d:Int)=n
      .exact .inr (.inr (.inr (.inr (.inr (.inr ⟨b,c,e,f,g,by simpa using h6,by omega,by omega,by omega,by omega,h5,h6⟩)))))
      .exact .inr (.inr (.inr (.inr (.inr (.inl ⟨b,c,e,f,g,by simpa using h6,h6⟩)))))
     .exact .inr (.inr (.inr (.inr (.inl ⟨b,c,e,f,by simpa using h5,h5⟩))))
def dG2(n most:Int)(v vg vk:Value)(a:List (Int×Int))(D H:List (List Int))(w:World)(hv:R (m8 w) v a)(am:R (m8 w) vg D)(an:R (m8 w) vk H)(bO:a.length<=1000000)
  (a8:∀x∈D,x.length<=1000000000) (be:∀x∈H,x.length<=1000000000) :
  o9 prog 235 #[.int .i64 n,v,vg,vk,.int .i64 most] w λu w'=>((∃vs ok,u = .tuple #[vs,.bool ok] /\
   (ok=true->cX4 n a D H most/\∃vi X T,vs = .agg #[vi,.int .i64 (T:Nat)]/\R (C1 w' (λb=>b<w.heap.size)) vi X/\dL5 (aq9 n.toNat a).1 D H most.toNat X T) /\
   (ok=false->¬cX4 n a D H most/\vs = .agg #[.slice none 0 0,.int .i64 0]))/\o6 w w'):=by
 refine p9 [.int .i64 n,v,vg,vk,.int .i64 most] func235 rfl ?_;have a4:=bN1;have d:=cN2;have ak:=am.isS;have al:=am.vlen;have aA:=an.isS;have aH:=an.vlen;have hS:=hv.isS;have bs:=hv.vlen;have c1:(w.alloc (.cells #[.slice none 0 0,.int .i64 0] 295)).heap[w.heap.size]?=some (.cells #[.slice none 0 0,.int .i64 0] 295 (0,0)):=ej0 w _;have x1:=o6.alloc w (.cells #[.slice none 0 0,.int .i64 0] 295);generalize bt:w.alloc (.cells #[.slice none 0 0,.int .i64 0] 295)=w1 at *;have c:=a4 w;rw[bt]at c;generalize bN:w.heap.size=j at c1 c;have S:j<w1.heap.size:=(ef5.1 c1).1;have m:∀A,o6 w A->A.heap[j]?=some (.cells #[.slice none 0 0,.int .i64 0] 295 (0,0))->∃z,(Instr.storeAt 295 (.pointer (some ⟨j,0,none⟩)) (.agg #[.slice none 0 0,.int .i64 0])).run prog A = .ok () z/\o6 w z /\
   (Instr.loadAt 295 (.pointer (some ⟨j,0,none⟩))).run prog z = .ok (.agg #[.slice none 0 0,.int .i64 0]) z:=by
  intro A W a5;obtain⟨z,t1,t2,t3⟩:=ab4 (P:=prog) a5 bp0 (by rw[am5];rfl) (cs:=#[.slice none 0 0,.int .i64 0]) (by rw[am5];rfl) (by simp[Value.oneCell']);exact⟨z,t1,o8.ext_of W t3 λb i=>by subst i;omega,Y5 (P:=prog) t2 cb8 cc2 cb9 (by rw[am5];rfl)⟩
 obtain⟨z,K,L,O⟩:=m w1 x1 c1;rcases dg9 n most D.length H.length with⟨q,i⟩|⟨q,B,i⟩|⟨q,B,J,i⟩|⟨q,B,J,d4,i⟩|⟨q,B,J,d4,d5,i⟩|⟨q,B,J,d4,d5,d6,i⟩|⟨q,B,J,d4,d5,d6,bi,bj,bg,bh,a9,bf⟩
 .simp only[L3,R9,C4,F6,simprocAttr,c,q,d,K];exact ao0 results235 (ad:=⟨j,0,none⟩) (by simp only[B3,↓reduceIte,Nat.reduceEqDiff]) O ⟨⟨_,false,rfl,(λh=>(by cases h)),λ_=>⟨λh=>by have:=h.n0;omega,rfl⟩⟩,L⟩
 .simp only[L3,R9,C4,F6,simprocAttr,c,q,B,d,K];exact ao0 results235 (ad:=⟨j,0,none⟩) (by simp only[B3,↓reduceIte,Nat.reduceEqDiff]) O ⟨⟨_,false,rfl,(λh=>(by cases h)),λ_=>⟨λh=>by have:=h.n5;omega,rfl⟩⟩,L⟩
 .simp only[L3,R9,C4,F6,simprocAttr,c,q,B,J,d,K];exact ao0 results235 (ad:=⟨j,0,none⟩) (by simp only[B3,↓reduceIte,Nat.reduceEqDiff]) O ⟨⟨_,false,rfl,(λh=>(by cases h)),λ_=>⟨λh=>by have:=h.m0;omega,rfl⟩⟩,L⟩
 .simp only[L3,R9,C4,F6,simprocAttr,c,q,B,J,d4,d,K];exact ao0 results235 (ad:=⟨j,0,none⟩) (by simp only[B3,↓reduceIte,Nat.reduceEqDiff]) O ⟨⟨_,false,rfl,(λh=>(by cases h)),λ_=>⟨λh=>by have:=h.m5;omega,rfl⟩⟩,L⟩
 .simp only[L3,R9,C4,F6,T6,simprocAttr,c,ak,al,q,B,J,d4,d5,d,K];exact ao0 results235 (ad:=⟨j,0,none⟩) (by simp only[B3,↓reduceIte,Nat.reduceEqDiff]) O ⟨⟨_,false,rfl,(λh=>(by cases h)),λ_=>⟨λh=>i h.gn,rfl⟩⟩,L⟩
 .simp only[L3,R9,C4,F6,T6,simprocAttr,c,ak,al,aA,aH,q,B,J,d4,d5,d6,d,K];exact ao0 results235 (ad:=⟨j,0,none⟩) (by simp only[B3,↓reduceIte,Nat.reduceEqDiff]) O ⟨⟨_,false,rfl,(λh=>(by cases h)),λ_=>⟨λh=>i h.kn,rfl⟩⟩,L⟩
 .clear K L O z;simp only[L3,R9,C4,F6,T6,simprocAttr,c,ak,al,aA,aH,q,B,J,d4,d5,d6,hS,bs];obtain⟨N,hN⟩:∃N:Nat,n=N:=⟨n.toNat,by omega⟩;obtain⟨M,hM⟩:∃M:Nat,most=M:=⟨most.toNat,by omega⟩;have aj:n.toNat=N:=by omega
  have E:most.toNat=M:=by omega
  have Z:∀e:Int×Int,bL0 n e=false↔bp5 N e:=λe=>by rw[hN];exact cs1
  refine A6 [0,1,2,3,4,10,45,46] (σ:=Nat) (λk f w'=>f 47 = .int .i64 k/\k<=a.length/\(∀e∈a.take k,bp5 N e)/\o6 w1 w') (λk=>a.length-k) 0 ?_ ?_
  .exact⟨rfl,eg3 _,by simp,o8.refl _⟩
  .rintro k f A ⟨e0,K,L,O,e4,g,C,a0,_⟩ ⟨r,bH,o,hx⟩;simp only[L3,C4,F6,simprocAttr,r,a0];refine y5 (λQ=>?_) ?_
   .have F:=hv.inS Q;have p:=ldP hv (b7 (x1.trans hx)) (ef1 Q);have aa:a[k]∈a:=eg2 Q;have aK:a.take (k+1)=a.take k++[a[k]]:=ef8 Q;generalize a[k]=e at p aa aK;obtain⟨x,y⟩:=e;simp only at p;obtain⟨p1,p2⟩:=dB2 A x y;have q0:=dB0 A x y;have q1:=dB1 A x y;have s:=hx.trans (o6.alloc A (.cells #[.int .i64 x,.int .i64 y] 205));generalize A.alloc (.cells #[.int .i64 x,.int .i64 y] 205)=z at *;obtain⟨w4,Y,g2,g3⟩:=m z (x1.trans s) ((s.block j S id).trans c1);have bk:∀{b:Bool},bL0 n (x,y)=true->¬cX4 n a D H most:=λi h=>by
     have h2:=h.st (x,y) aa;rw[aj]at h2;have:=(Z (x,y)).2 h2;rw[i]at this;cases this
    rcases cM8 n x y with⟨I,i⟩|⟨I,r2,i⟩|⟨I,r2,r3,i⟩|⟨I,r2,r3,r4,i⟩|⟨I,r2,r3,r4,i⟩
    case' inl=>simp only[L3,R9,C4,F6,y4,simprocAttr,r,C,F,p,p1,p2,q0,I,g,d,Y]
    case' inr.inl=>simp only[L3,R9,C4,F6,y4,simprocAttr,r,C,e0,F,p,p1,p2,q0,I,r2,g,d,Y]
    case' inr.inr.inl=>simp only[L3,R9,C4,F6,y4,simprocAttr,r,C,e0,F,p,p1,p2,q0,q1,I,r2,r3,g,d,Y]
    case' inr.inr.inr.inl=>simp only[L3,R9,C4,F6,y4,simprocAttr,r,C,e0,F,p,p1,p2,q0,q1,I,r2,r3,r4,g,d,Y]
    case' inr.inr.inr.inr=>simp only[L3,R9,C4,F6,y4,simprocAttr,r,C,e0,F,p,p1,p2,q0,q1,I,r2,r3,r4]
    case inr.inr.inr.inr=>
     refine T4 (k+1) ⟨λe he=>?_,s⟩;rw[aK,eg1,eh2]at he;rcases he with he|he
     .exact o e he
     .subst he;exact(Z _).1 i
    all_goals
     exact ao0 results235 (ad:=⟨j,0,none⟩) (by simp only[B3,↓reduceIte,Nat.reduceEqDiff];exact g) g3 ⟨⟨_,false,rfl,(λh=>(by cases h)),λ_=>⟨bk (b:=true) i,rfl⟩⟩,g2⟩
   .rintro rfl;rw[eg4]at o;have W:=x1.trans hx;have aL:R (m8 A) vg D:=A3.mono (b7 W) am;have U:=cn6 vg D M A aL (by omega) (by omega) a8;rw[<-hM]at U;simp only[L3,simprocAttr,L,e4];refine t8 U ?_;rintro I z ⟨⟨ub,bw,bn,a6,a7⟩,s⟩;subst bn;have aM:R (m8 z) vk H:=A3.mono (b7 (W.trans s)) an;have V:=cn6 vk H M z aM (by omega) (by omega) be;rw[<-hM]at V;simp only[L3,simprocAttr,O,e4];refine t8 V ?_;rintro r2 w4 ⟨⟨uk,bx,bo,bb,bc⟩,aN⟩;subst bo;have l:=(hx.trans s).trans aN;have ae:=x1.trans l;obtain⟨w5,Y,g2,g3⟩:=m w4 ae ((l.block j S id).trans c1);cases bw
    .simp only[L3,R9,unV,simprocAttr,g,d,Y];exact ao0 results235 (ad:=⟨j,0,none⟩) (by simp only[B3,↓reduceIte,Nat.reduceEqDiff];exact g) g3 ⟨⟨_,false,rfl,(λh=>(by cases h)),λ_=>⟨λh=>a7 rfl (by have:=h.gf;rw[E]at this;exact this),rfl⟩⟩,g2⟩
    .cases bx
     .simp only[L3,R9,unV,simprocAttr,g,d,Y];exact ao0 results235 (ad:=⟨j,0,none⟩) (by simp only[B3,↓reduceIte,Nat.reduceEqDiff];exact g) g3 ⟨⟨_,false,rfl,(λh=>(by cases h)),λ_=>⟨λh=>bc rfl (by have:=h.kf;rw[E]at this;exact this),rfl⟩⟩,g2⟩
     .clear Y g2 g3 w5;obtain⟨aC,gs,a2,az⟩:=a6 rfl;obtain⟨bd,ks,a3,aB⟩:=bb rfl;have ab:=cH9 N v a w4 (by omega) (A3.mono (b7 ae) hv) (by omega);rw[<-hN]at ab;simp only[L3,R9,unV,simprocAttr,e0,K];refine t8 ab ?_;rintro pg w5 ⟨⟨Mb,ba⟩,t⟩;have aD:=an7 N a;have aF:=ba.read (b7 t);have bm:cX4 n a D H most:=⟨bi,bj,bg,bh,a9,bf,by rw[aj];exact o,by rw[E];exact aC,by rw[E];exact bd⟩;rw[aj,E];generalize aq9 N a=G at *;obtain⟨nx,pv⟩:=G;simp only at aF;have bl:nx.length=N:=aD.nx.len;have aE:aN4 nx.length (nx,pv):=by rw[bl];exact aD
      have ac:=cU7 pg nx pv ub uk gs ks D H M w5 aF aE (A3.mono (b7 (aN.trans t)) a2) (A3.mono (b7 t) a3) az aB (by omega) (by omega) aC (by omega) (by omega);rw[<-hM]at ac;simp only[L3,simprocAttr,e4];refine t8 ac ?_;rintro r3 w6 ⟨⟨vi,X,T,bp,ay,U,V,bq,br⟩,bu⟩;subst bp;have af:=(l.trans t).trans bu;have Sv:=ay.isS;have aI:∀u∈(#[vi,Value.int .i64 (T:Nat)]:Array Value).toList,u.oneCell'=true:=by
       intro u hu;simp at hu;rcases hu with rfl|rfl
       .exact X1 Sv
       .rfl
      obtain⟨w7,t1,t2,t3⟩:=ab4 (P:=prog) ((af.block j S id).trans c1) bp0 (by rw[am5];rfl) (cs:=#[vi,.int .i64 (T:Nat)]) (by rw[am5];rfl) aI;have aG:=Y5 (P:=prog) t2 cb8 cc2 cb9 (by rw[am5];rfl);simp only[L3,simprocAttr,g,t1];refine ao0 results235 (ad:=⟨j,0,none⟩) (by simp only[B3,↓reduceIte,Nat.reduceEqDiff];exact g) aG ?_;simp only[B3,simprocAttr];refine⟨⟨_,true,rfl,λ_=>⟨bm,vi,X,T,rfl,?_,⟨U,V,bq,br⟩⟩,(λh=>(by cases h))⟩,o8.ext_of (x1.trans af) t3 λb i=>by subst i;omega⟩;have aJ:j<w5.heap.size:=el8 S (l.trans t).size;refine A3.mono (K0 t3 (λb i=>by subst i;exact aJ) λb i=>.inl ?_) ay;have:=(x1.trans (l.trans t)).size;omega
def dO2(x:Int)(w:World){h:Hp}(hw:B8 h (m8 w)):∃v a,(Instr.buildSlice 24 1 #[(0,.int .i64 x)]).run prog w = .ok v a/\B0 h a 3 v [x]/\o6 w a/\(∀b,A0 v b->w.heap.size<=b):=
 lit (P:=prog) (w:=w) (h:=h) (α:=Int) (xs:=[.int .i64 x]) (ys:=[x]) (parts:=#[(0,.int .i64 x)]) (n:=1) V4 rfl (G4.2 rfl) (by simp[Value.cells]) rfl rfl (by simp) (by simp) hw
def dS1(w:World){vi:Value}(T:Int)(b:isS vi=true):
  (Instr.alloc 295 true (.tuple #[])).run prog w = .ok (.pointer (some ⟨w.heap.size,0,none⟩)) (w.alloc (.cells #[.slice none 0 0,.int .i64 0] 295)) /\
  (Instr.storeAt 295 (.pointer (some ⟨w.heap.size,0,none⟩)) (.agg #[vi,.int .i64 T])).run prog (w.alloc (.cells #[.slice none 0 0,.int .i64 0] 295)) =
   .ok () (w.alloc (.cells #[vi,.int .i64 T] 295)):=
 aA5 (P:=prog) (T:=295) bp0 (by rw[am5];rfl) (cs:=#[vi,.int .i64 T]) (by rw[am5];rfl) (by
  intro u a;simp only[eh0,ek1,eq2]at a;rcases a with rfl|rfl
  .exact X1 b
  .rfl)
def dw3(w:World){vi:Value}{T:Int}:
  (Instr.loadAt 242 (.pointer (some ⟨w.heap.size,0,none⟩))).run prog (w.alloc (.cells #[vi,.int .i64 T] 295)) = .ok vi (w.alloc (.cells #[vi,.int .i64 T] 295)):=
 E7 (T:=295) (cs:=#[vi,.int .i64 T]) (i:=0) (ej0 w _) rfl Z1
def dc8{nx:List (List Int)}(d:F3 nx.length nx):OkR nx:=λa b c=>(d.row _).2 _ c
def cN9(a:Addr)(p:Pg)(i:Nat)(v aU:Value)(d:List Nat)(w:World)(ha:At (m8 w) a (i4 p))(G:D3 p)(hw:B7 p<=1000000)(hi:i<p.procs.length)(hv:R (m8 w) v ((D7 (d9 p) i).pairs (D7 (d9 p) i).data))(K:R (m8 w) aU (d.map λ(a:Nat)=>(a:Int)))(aa:d.Nodup)(a8:∀A∈d,(A:Int)<(D7 (d9 p) i).n):
  o9 prog 187 #[.pointer (some a),.int .i64 i,v,aU] w λu F=>((∃ag,R (C1 F (λb=>b<w.heap.size)) u ag/\(ag.length:Int)=(D7 (d9 p) i).n/\(∀c:Nat,(c:Int)<(D7 (d9 p) i).n->∃g:Nat->Bool,D4 ag c=((List.range d.length).filter g).map (λ(f:Nat)=>(f:Int))/\∀f A,d[f]?=some A->(g f=true↔bl3 ((i4 p).nx i) d A c=true)))/\o6 w F):=by
 refine p9 [.pointer (some a),.int .i64 i,v,aU] func187 rfl ?_;obtain⟨x,pt⟩:=I1 G.may hw i hi;have ao:=O8 pt;generalize x+A7 p.procs[i].body=y at pt ao;have bZ:=H7 G.may;have hn:=ao.n;have b3:=pt.ok.len;have b2:=pt.ok.le;have a2:=bd7 G hw hi ao;have aQ:=bB3 G hw hi ao;have bJ:((D7 (d9 p) i).pairs (D7 (d9 p) i).data).length<=1000000:=ef9 (Nat.le_of_eq (eg5 _)) a2;clear a2;have bb:(i4 p).nx (i:Int)=(aq9 (D7 (d9 p) i).n.toNat ((D7 (d9 p) i).pairs (D7 (d9 p) i).data)).1:=by
  unfold Bk.nx;rw[L9 hi]
 obtain⟨sh,vw,_,_,_,_,has,bk,_,_,_,_,bR,_⟩:=ha.book rfl;obtain⟨aw,bC,a1⟩:=as5 (hv:=bk) (k:=i) (p:=⟨D7 (d9 p) i⟩) (by show((J2 p).map λw=>(⟨w⟩:Ptr Wy))[i]?=_;rw[ei9,V6 hi];rfl);simp only at a1;have a7:=bk.inS (k:=i) (by show i<((J2 p).map λw=>(⟨w⟩:Ptr Wy)).length;unfold J2;simpa using hi);obtain⟨_,_,_,_,_,_,bo,_⟩:=a1.wy;rw[bb];generalize(D7 (d9 p) i).pairs (D7 (d9 p) i).data=steps at hv aQ bJ;generalize(D7 (d9 p) i).n=wn at hn a8 bo aQ;obtain⟨M,rfl⟩:∃M:Nat,wn=(M:Int):=⟨wn.toNat,by omega⟩;simp only[eh6];have l:∀A∈d,A<M:=λA hA=>by have:=a8 A hA;omega
 have co:d.length<=M:=by
  have:=J6 (m:=List.range M) aa λA hA=>ej7.2 (l A hA);simpa using this
 have bH:=J1 (P:=prog) (t:=114) bC (n7 _) as8;have hz:A3.enc (m8 w) (Value.slice none 0 0).cells.toList ([]:List Int):=aN0 _;have bp:=λ(wa:World) (ha:o6 w wa)=>mk (P:=prog) (w:=wa) (h:=m8 w) (α:=List Int) cz8 am6 (y:=[]) hz (n:=M) (by omega) (by omega) (b7 ha);obtain⟨il,a4,ar⟩:=aA6 (P:=prog) am6 bv7;simp only[i5,n9,y4,simprocAttr,bR w (n7 _),a7,bH,bo w (n7 _)];refine bB5 [2,3,9] (λF=>o6 w F) 6 (.op 0 (.op 2 (.fork [1,3] (λi=>if i=1 then(A5 [4,3,5])else(A5 [1,4,5])))))
  (λO F=>B0 (m8 w) F 24 (O 10) (List.replicate M ([]:List Int))/\B0 (m8 w) F 24 (O 11) (List.replicate M ([]:List Int))/\(∀b,A0 (O 10) b->¬A0 (O 11) b)/\o6 w F) (by decide +kernel) (by decide +kernel) (o6.drew w) ?_ ?_
 .simp only[D0,A5,i5,simprocAttr];obtain⟨va,wA,m1,o1,xA,f1,_⟩:=bp w.drew (o6.drew w);have I:=(o6.drew w).trans xA;obtain⟨vb,wB,m2,o2,xB,f2,_⟩:=bp wA I;have H:∀b,A0 va b->¬A0 vb b:=λb Q U=>by have:=o1.lt Q;have:=f2 b U;omega
  refine V1 (by decide +kernel) (λi hi=>?_);simp only[eh0,ek1,eq2]at hi;rcases hi with rfl|rfl
  .simp only[D0,i5,simprocAttr,m1,m2,F2];exact⟨I,I.trans xB,o1.ext xB,o2,H,I.trans xB⟩
  .simp only[D0,i5,simprocAttr,m1,m2,F2];exact⟨I,I.trans xB,o2,o1.ext xB,λb Q U=>H b U Q,I.trans xB⟩
 rintro f w1 hk ⟨am,an,H,bM⟩;simp only[ei3,B3,simprocAttr]at hk;obtain⟨e2,e3,e9,_⟩:=hk;generalize bv:f 10=B at am H;generalize bw:f 11=C at an H;have aE:=K.isS;have ak:=K.vlen;rw[eg5]at ak;simp only[D0,i5,n9,simprocAttr,e3,aE,ak];refine A6 [2,3,9,10,11,33] (σ:=Nat×Value) (λs f F=>f 34 = .int .i64 s.1/\f 12=s.2/\s.1<=d.length/\B0 (m8 w1) F 3 s.2 ((List.range s.1).map λ(f:Nat)=>(f:Int))/\o6 w1 F) (λs=>d.length-s.1) (0,.slice none 0 0) ?_ ?_
 .simp only[B3,simprocAttr];exact⟨by first|rfl|trivial,trivial,eg3 _,B0.nil _ _ _,o8.refl _⟩
 rintro⟨k,ua⟩ f2 w2 ⟨g2,g3,g9,aX,aY,bu,_⟩ ⟨aD,aC,aK,ab,S⟩;simp only at aD aC aK ab;rw[e2]at g2;rw[e3]at g3;rw[e9]at g9;rw[bv]at aX;rw[bw]at aY;simp only[i5,n9,simprocAttr,aD,bu];refine y5 (λE=>?_) ?_
 .obtain⟨p1,u3,w3,p2,p3,p4,p5⟩:=push (P:=prog) (t:=24) (e:=24) V4 rfl ab (x:=.int .i64 (k:Int)) (y:=(k:Int)) rfl (by rw[eg5,ek6];omega) (by rw[eg5,ek6];omega) (b7 S);simp only[Value.cells]at p1 p2;simp only[i5,n9,simprocAttr,aD,aC,p1,p2];refine nx4 (k+1,u3) ⟨?_,ab.ext2 S p4⟩;simp only[];have e:(List.range (k+1)).map (λ(f:Nat)=>(f:Int))=(List.range k).map (λ(f:Nat)=>(f:Int))++[(k:Int)]:=by
   rw[eq1,ei4,List.map_singleton]
  rw[e];exact p3
 rintro rfl;have az:=bM.trans S;have J:∀b,(A0 B b\/A0 C b)->w.heap.size<=b/\b<w1.heap.size:=λb h=>by
  rcases h with h|h
  .exact⟨D1 (am.free h),am.lt h⟩
  .exact⟨D1 (an.free h),an.lt h⟩
 have aq:B8 (m8 w) (C1 w2 (λb=>A0 B b\/A0 C b)):=aT6 az λb j=>(J b j).1;have bc:=(am.ext S).reNo (N:=λb=>A0 B b\/A0 C b) aq λb j=>.inl j;have bf:=(an.ext S).reNo (N:=λb=>A0 B b\/A0 C b) aq λb j=>.inr j;have bi:R (C1 w2 (λb=>A0 B b\/A0 C b)) ua ((List.range d.length).map λ(f:Nat)=>(f:Int)):=ab.flatR λb j=>E4 λh=>by
  have Q:=D1 (ab.free j);have:=(J b h).2;omega
 have bz:=bi.isS;simp only[i5,n9,simprocAttr,g3,aE,ak];refine A6 [2,3,9,10,11,12,42,43] (σ:=Nat) (λk f F=>f 44 = .int .i64 k/\k<=d.length/\B0 (C1 F (λb=>A0 B b\/A0 C b)) F 24 B (ak1 d (λf=>[(f:Int)]) M k)/\B0 (C1 F (λb=>A0 B b\/A0 C b)) F 24 C (ak1 d (λ_=>(List.range d.length).map λ(f:Nat)=>(f:Int)) M k)/\o8 (λb=>A0 B b\/A0 C b) w2 F) (λk=>d.length-k) 0 ?_ ?_
 .simp only[B3,simprocAttr];exact⟨by trivial,eg3 _,bc,bf,o8.refl _⟩
 rintro k f4 w4 ⟨j2,j3,j9,aS,aT,bn,bP,bQ,_⟩ ⟨aZ,b1,ac,ad,aj⟩;rw[g2]at j2;rw[g3]at j3;rw[g9]at j9;rw[aX]at aS;rw[aY]at aT;rw[aC]at bn;have L:o6 w w4:=o8.ext_of az aj λb j=>(J b j).1;have a9:B8 (C1 w2 (λb=>A0 B b\/A0 C b)) (C1 w4 (λb=>A0 B b\/A0 C b)):=K0 aj (λ_ h=>h) λ_ h=>.inl h;simp only[i5,n9,simprocAttr,aZ,bQ];refine y5 (λE=>?_) ?_
 .have bG:=K.inS (k:=k) (by rw[eg5];exact E);have aL:=aC3 K (b7 L) (k:=k) (by rw[eg5];exact E);rw[em7]at aL;have V:=l _ (eg2 E);have aH:d.getD k 0=d[k]:=by rw[List.getD,ef1 E];rfl
  generalize d[k]=A at aL V aH;obtain⟨ul,w5,q1,q2,q3,q4⟩:=dO2 (k:Int) w4 (n7 _);have Y:B8 (C1 w4 (λb=>A0 B b\/A0 C b)) (C1 w5 (λb=>A0 B b\/A0 C b)):=K0 q3 (λ_ h=>h.elim) λ_ h=>.inl h;have a0:∀b,(A0 B b\/A0 C b)->b<w4.heap.size:=λb j=>el8 (J b j).2 (ef9 S.size aj.size);have bL:R (C1 w5 (λb=>A0 B b\/A0 C b)) ul [(k:Int)]:=q2.flatR λb j=>E4 λh=>by
   have Q:=q4 b j;have:=a0 b h;omega
  have av:=(ac.ext q3).up Y λb j=>F9 (.inl j);have bg:=(ad.ext q3).up Y λb j=>F9 (.inr j);obtain⟨w6,s1,bd,aM,_⟩:=F1 (P:=prog) (t:=24) av rfl (k:=A) (by rw[aa4];exact V) (x:=ul) (y:=[(k:Int)]) bL (F0 q2.isS) a4 ar;have Z:B8 (C1 w5 (λb=>A0 B b\/A0 C b)) (C1 w6 (λb=>A0 B b\/A0 C b)):=K0 aM (λ_ h=>.inl h) λ_ h=>.inl h;have ax:=(bg.mod aM λb j aF=>H b aF j).up Z λb j=>F9 (.inr j);have bj:=A3.mono (p7 a9 (p7 Y Z)) bi;obtain⟨w7,s2,bh,aN,_⟩:=F1 (P:=prog) (t:=24) ax rfl (k:=A) (by rw[aa4];exact V) (x:=ua) (y:=(List.range d.length).map λ(f:Nat)=>(f:Int)) bj (F0 bz) a4 ar;have au:B8 (C1 w6 (λb=>A0 B b\/A0 C b)) (C1 w7 (λb=>A0 B b\/A0 C b)):=K0 aN (λ_ h=>.inr h) λ_ h=>.inl h;have be:=(((bd.up Z λb j=>F9 (.inl j)).mod aN λb j aF=>H b j aF)).up au λb j=>F9 (.inl j);have aP:=bh.up au λb j=>F9 (.inr j);have a5:=av.inS (k:=A) (by rw[aa4];exact V);have a6:=ax.inS (k:=A) (by rw[aa4];exact V);simp only[i5,n9,y4,simprocAttr,aZ,aS,aT,bn,bP,bG,aL,q1,a5,s1,a6,s2];refine T4 (k+1) ⟨?_,?_,?_⟩
  .rw[ak1,aH];exact be
  .rw[ak1,aH];exact aP
  .exact(aj.trans (o8.up q3)).trans ((o8.weaken aM λb _ h=>.inl h).trans (o8.weaken aN λb _ h=>.inr h))
 rintro rfl;have ae:=bS7 (g:=λf=>[(f:Int)]) (n:=M) aa l;have af:=bS7 (g:=λ_=>(List.range d.length).map λ(f:Nat)=>(f:Int)) (n:=M) aa l;have aI:∀r∈ak1 d (λf=>[(f:Int)]) M d.length,r.length<=1000/\∀f∈r,0<=f/\f<(d.length:Int):=λr G=>by
  obtain⟨q,hq⟩:=eo5.1 G;rcases aF5 aa l _ (eg6 _) q r hq with⟨f,hf,_,rfl⟩|⟨_,rfl⟩
  .exact⟨by simp,λO D=>by simp at D;omega⟩
  .exact⟨by simp,λO D=>by simp at D⟩
 have aJ:∀r∈ak1 d (λ_=>(List.range d.length).map λ(f:Nat)=>(f:Int)) M d.length,r.length<=1000/\∀f∈r,0<=f/\f<(d.length:Int):=λr G=>by
  obtain⟨q,hq⟩:=eo5.1 G;rcases aF5 aa l _ (eg6 _) q r hq with⟨f,hf,_,rfl⟩|⟨_,rfl⟩
  .refine⟨by simp;omega,λO D=>?_⟩;obtain⟨z,hz,rfl⟩:=eh4.1 D;have:=ej7.1 hz;omega
  .exact⟨by simp,λO D=>by simp at D⟩
 have bF:=aa4 d (λf=>[(f:Int)]) M d.length;have aK:=aa4 d (λ_=>(List.range d.length).map λ(f:Nat)=>(f:Int)) M d.length;generalize ak1 d (λf=>[(f:Int)]) M d.length=gl at ac ae aI bF;generalize ak1 d (λ_=>(List.range d.length).map λ(f:Nat)=>(f:Int)) M d.length=kl at ad af aJ aK;have aO:cX4 (M:Int) steps gl kl (d.length:Int):=by
  refine⟨by omega,by omega,by omega,by omega,by omega,by omega,λs hs=>?_,λr G f hf=>?_,λr G f hf=>?_⟩
  .have:=aQ s hs;rw[eh6];unfold bp5;omega
  .have:=(aI r G).2 f hf;rw[eh6];exact this
  .have:=(aJ r G).2 f hf;rw[eh6];exact this
 simp only[i5,n9,simprocAttr,j2,j3,j9,aS,aT,aE,ak];refine t8 (dG2 (M:Int) (d.length:Int) v B C steps gl kl w4 (A3.mono (b7 L) hv) (ac.rw_ (A8 _ _)) (ad.rw_ (A8 _ _)) (by omega) (λr G=>by have:=(aI r G).1;omega) λr G=>by have:=(aJ r G).1;omega) ?_;rintro _ w5 ⟨⟨vs,bT,rfl,bm,bI⟩,bN⟩;cases bT with
 | false=>exact absurd aO (bI rfl).1
 | true=>
  obtain⟨_,vi,ag,T,rfl,ay,aR⟩:=bm rfl;obtain⟨al,st⟩:=dS1 w5 (T:Int) ay.isS;simp only[i5,n9,simprocAttr,al,st,dw3 w5 (vi:=vi) (T:=(T:Int))];refine o7 results187 ?_;simp only[B3,simprocAttr];have bl:=o6.alloc w5 (.cells #[vi,.int .i64 (T:Int)] 295);have X:=(an7 M steps).nx;have W:=X.len;rw[eh6]at aR;refine⟨⟨ag,?_,?_,λc bB=>?_⟩,(L.trans bN).trans bl⟩
  .refine A3.mono (λb o e=>?_) ay;have ba:¬b<w4.heap.size:=λh=>by rw[F9 (N:=λb=>b<w4.heap.size) h]at e;cases e
   rw[E4 (N:=λb=>b<w4.heap.size) ba]at e;rw[E4 (N:=λb=>b<w.heap.size) (λh=>ba (el8 h L.size))];exact b7 bl b o e
  .rw[aR.len,W]
  .obtain⟨g,a3,bE⟩:=aR.row (c:Int) (B4.2 ⟨by omega,by rw[W];exact bB⟩);rw[eh6]at a3;refine⟨g,a3,λf A hf=>?_⟩;rw[bE,ct4 (dc8 (by rw[W];exact X)),cO0 ?_ ?_ hf]
   .intro a' O;rw[ae];constructor
    .rintro⟨f2,A2,Q,U,h3⟩;have:O=f2:=by simp at h3;omega
     subst this;exact⟨A2,Q,U⟩
    .rintro⟨A2,Q,U⟩;exact⟨O,A2,Q,U,by simp⟩
   .intro a' O D;rw[af];constructor
    .rintro⟨f2,A2,Q,U,_⟩;exact⟨A2,eh3 Q,U⟩
    .rintro⟨A2,Q,U⟩;obtain⟨f2,bD⟩:=eo5.1 Q;exact⟨f2,A2,bD,U,eh4.2 ⟨O,ej7.2 D,rfl⟩⟩
section
section
variable {P:Program} {K:Fr->World->Prop} {f:Fr} {w:World} {d:Option Nat} {ty:TypeId} {pos:String} {aft:Array Edge}
def dh5{t:Nat}{x:Operand}:B5 P none ⟨d,.range t x,ty,pos,aft,none⟩ K f w=ak7 ((Instr.range t (ev f x)).run P w) K f d:=by
 show S4 P _ K f w=_;unfold S4;simp only[execOp,eh7];generalize(Instr.range t (ev f x)).run P w=r;cases r<;>rfl
def cI2{x:Operand}{s:Bool}:B5 P none ⟨d,.next x s,ty,pos,aft,none⟩ K f w=ak7 ((Instr.next (ev f x) s ty).run P w) K f d:=by
 show S4 P _ K f w=_;unfold S4;simp only[execOp,eh7];generalize(Instr.next (ev f x) s ty).run P w=r;cases r<;>rfl
def dh4{x:Operand}:B5 P none ⟨d,.entry x,ty,pos,aft,none⟩ K f w=ak7 ((Instr.entry (ev f x)).run P w) K f d:=by
 show S4 P _ K f w=_;unfold S4;simp only[execOp,eh7];generalize(Instr.entry (ev f x)).run P w=r;cases r<;>rfl
end
open Go.ChangeMaps (setBlock)
structure RgI (w:World) (it r:Nat) (es:Array MapEntry) (clock:Nat) (D:List Nat):Prop where
 cur:∃c0,clock<=c0/\w.heap[it]?=some (.mapIter (some r) clock (D.map λj=>(es.getD j default).born).toArray c0)
 map:w.heap[r]?=some (.map es clock)
 born:∀x∈es.toList,x.born<clock
 nd:(es.toList.map (·.born)).Nodup
 dn:D.Nodup
 dl:∀j∈D,j<es.size
def RgI.mod{w c:World}{it r:Nat}{b:Array MapEntry}{a:Nat}{D:List Nat}{M:Nat->Prop}(s:RgI w it r b a D)(h:o8 M w c)(f:¬M it)(g:¬M r):RgI c it r b a D:=by
 obtain⟨d,i,e⟩:=s.cur;exact⟨⟨d,i,(h.block it (ef5.1 e).1 f).trans e⟩,(h.block r (ef5.1 s.map).1 g).trans s.map,s.born,s.nd,s.dn,s.dl⟩
def ca4{w:World}{it:Nat}{o:Obj}:o8 (λb=>b=it) w (setBlock w it o):=by4 w it o
def RgI.next{P:Program}{w:World}{it r:Nat}{d:Array MapEntry}{c:Nat}{D:List Nat}(s:RgI w it r d c D)(J:it≠r)(ty:TypeId):
  ((∀j,j<d.size->j∈D)/\(Instr.next (.pointer (some ⟨it,0,none⟩)) false ty).run P w = .ok (.tuple #[.bool false]) w) \/
  ∃(j:Nat) (e:MapEntry) (H:World),d[j]?=some e/\j∉D/\(Instr.next (.pointer (some ⟨it,0,none⟩)) false ty).run P w = .ok (.tuple #[.bool true,e.key,e.val]) H/\RgI H it r d c (D++[j])/\o8 (λb=>b=it) w H /\
   (∀l,o8 (λb=>b≠it/\b≠r) H l->(Instr.entry (.pointer (some ⟨it,0,none⟩))).run P l = .ok (.tuple #[e.key,e.val]) l):=by
 obtain⟨N,S,e⟩:=s.cur;have F:∀j k,j<d.size->k<d.size->(d.getD j default).born=(d.getD k default).born->j=k:=λj k f n h=>by
  have y:=em0.1 s.nd;have G:∀j (f:j<d.size),(d.toList.map (·.born))[j]'(by simpa using f)=(d.getD j default).born:=λj f=>by
   simp[Array.getD,f]
  rcases Nat.lt_trichotomy j k with t|t|t
  .exact absurd (by rw[G j f,G k n];exact h) (y j k (by simpa using f) (by simpa using n) t)
  .exact t
  .exact absurd (by rw[G j f,G k n];exact h.symm) (y k j (by simpa using n) (by simpa using f) t)
 have A:∀j,j<d.size->(((D.map λj=>(d.getD j default).born).toArray.contains (d.getD j default).born)=true↔j∈D):=λj f=>by
  rw[<-Array.contains_toList,eg7,eh4];constructor
  .rintro⟨k,n,h⟩;have:=F k j (s.dl k n) f h;rw[<-this];exact n
  .exact λh=>⟨j,h,rfl⟩
 rcases run_next_at (P:=P) w ty it r c N _ d c e s.map s.born S with⟨t,O⟩|⟨x,M,E,K,C⟩
 .left;refine⟨λj f=>?_,O⟩;refine eo7 λo=>?_;have I:leftOf d (D.map λj=>(d.getD j default).born).toArray=#[]:=Array.eq_empty_of_size_eq_zero t;unfold leftOf at I;rw[Array.filter_eq_empty_iff]at I;have y:=I d[j] (Array.getElem_mem f);have Q:d.getD j default=d[j]:=by simp[Array.getD,f]
  have L:=A j f;rw[Q]at L;rw[Bool.not_eq_true',ep7]at y;exact o (L.1 (Classical.not_not.1 y))
 .right;unfold leftOf at M;have v:x∈d.toList/\(!(D.map λj=>(d.getD j default).born).toArray.contains x.born)=true:=by simpa using M
  obtain⟨j,f,rfl⟩:=em3.1 v.1;have m:j<d.size:=by simpa using f
  have p:d.getD j default=d.toList[j]:=by simp[Array.getD,m]
  have o:j∉D:=λh=>by
   have:=(A j m).2 h;rw[p]at this;rw[this]at v;simp at v
  have z:o8 (λb=>b=it) w E:=by
   rcases K with rfl|rfl
   .exact o8.refl _
   .exact o8.up (o6.drew w)
  have B:it<E.heap.size:=el8 (ef5.1 e).1 z.size;have u:((D.map λj=>(d.getD j default).born).toArray.push d.toList[j].born)=((D++[j]).map λj=>(d.getD j default).born).toArray:=by
   rw[ei4,<-p];simp
  have q:o8 (λb=>b=it) w (setBlock E it (.mapIter (some r) c ((D.map λj=>(d.getD j default).born).toArray.push d.toList[j].born) c)):=z.trans ca4;have g:=(q.block r (ef5.1 s.map).1 λh=>J h.symm).trans s.map;have i:(setBlock E it (.mapIter (some r) c ((D.map λj=>(d.getD j default).born).toArray.push d.toList[j].born) c)).heap[it]?=some (.mapIter (some r) c ((D.map λj=>(d.getD j default).born).toArray.push d.toList[j].born) c):=by
   show(E.heap.setIfInBounds it _)[it]?=_;simp[B]
  refine⟨j,d.toList[j],_,by rw[ep5 m];simp,o,C,⟨⟨c,eg6 _,by rw[<-u];exact i⟩,g,s.born,s.nd,?_,λk n=>?_⟩,q,λl h=>?_⟩
  .rw[ek2];exact⟨s.dn,by simp,λa R b F=>by simp at F;subst F;rintro rfl;exact o R⟩
  .rcases eg1.1 n with h|h
   .exact s.dl k h
   .simp at h;subst h;exact m
  .exact run_entry_at (P:=P) l it r c _ d c d.toList[j] ((h.block it (ef5.1 i).1 λh=>h.1 rfl).trans i) ((h.block r (ef5.1 g).1 λh=>h.2 rfl).trans g) (eg2 f) s.nd
end
def cL5(a:Addr)(p:Pg)(i:Nat)(w:World)(ha:At (m8 w) a (i4 p))(hr:D3 p)(hw:B7 p<=1000000)(hi:i<p.procs.length):
  o9 prog 136 #[.pointer (some a),.int .i64 i] w λu U=>(B0 (m8 w) U 210 u ((i4 p).flows (i:Int))/\o6 w U):=by
 refine p9 [.pointer (some a),.int .i64 i] func136 rfl ?_;obtain⟨x,pt⟩:=I1 hr.may hw i hi;have H:=O8 pt;generalize x+A7 p.procs[i].body=y at pt H;have aX:=H7 hr.may;have hn:=H.n;have dl:=pt.ok.len;have dk:=pt.ok.le;have bh:=bd7 hr hw hi H;have b0:=bW8 hr hw hi H;have aj:(D7 (d9 p) i).data.length<=10000000:=ef9 bh (by decide);obtain⟨M,hM⟩:∃M:Nat,(D7 (d9 p) i).n=(M:Int):=by
  generalize(D7 (d9 p) i).n=wn at hn;exact⟨wn.toNat,by omega⟩
 have V:M<=202:=by rw[hM]at hn;clear bh aj;omega
 have aO:(i4 p).way (i:Int)=D7 (d9 p) i:=L9 hi;have K:((i4 p).way (i:Int)).n.toNat=M:=by rw[aO,hM,eh6]
 have a0:bM6 ((i4 p).way (i:Int)):=by rw[aO];exact dG5 H.toWyOk aX
 have a1:∀a:Nat,a<((i4 p).way (i:Int)).n.toNat->plc (((i4 p).way (i:Int)).place a):=by rw[aO];exact dG6 H.toWyOk aX
 have bi:∀k:Nat,k<((i4 p).way (i:Int)).n.toNat->((i4 p).gives (i:Int) (k:Int)).Nodup/\((i4 p).gives (i:Int) (k:Int)).length<=100:=λk hk=>by
  rw[K]at hk;have h:=aZ8 hr hw hi (k:=k) (by rw[hM];exact Int.ofNat_lt.2 hk);exact⟨az0 h.1,h.2⟩
 have b2:=λ(c:Nat) (hc:c<M)=>cA8 hr hw hi (k:=c) (by rw[hM];exact Int.ofNat_lt.2 hc);obtain⟨sh,vw,_,_,_,_,has,ca,_,_,_,_,da,_⟩:=ha.book rfl;obtain⟨aw,cG,af⟩:=as5 (hv:=ca) (k:=i) (p:=⟨D7 (d9 p) i⟩) (by show((J2 p).map λw=>(⟨w⟩:Ptr Wy))[i]?=_;rw[ei9,V6 hi];rfl);simp only at af;have bQ:=ca.inS (k:=i) (by show i<((J2 p).map λw=>(⟨w⟩:Ptr Wy)).length;unfold J2;simpa using hi);obtain⟨_,_,_,_,_,_,db,_⟩:=af.wy;have cN:=J1 (P:=prog) (t:=114) cG (n7 _) as8;simp only[i5,n9,y4,simprocAttr,da w (n7 _),bQ,cN];refine t8 (cd2 aw _ p i x y w af hr hw hi H) ?_;rintro vd w1 ⟨cP,aT⟩;simp only[i5,simprocAttr];refine t8 (av2 aw _ p i x y vd _ w1 (af.mono (b7 aT)) H.toWyOk (cP.rw_ (b7 aT)) b0 aj) ?_;rintro vp w2 ⟨cQ,br⟩;have c1:=cQ.rw_ (b7 br);clear bh aj b0;simp only[i5,simprocAttr];refine t8 (cQ0 a p i w2 (ha.mono (b7 (aT.trans br))) hr hw hi) ?_;rintro _ w3 ⟨r,kv,cn,rfl,hG⟩;have az:=aT.trans (br.trans hG.ext);have lw:=db w3 (b7 az);simp only[hM]at lw;have hz:A3.enc (m8 w3) (Value.slice none 0 0).cells.toList ([]:List A9):=aN0 _;obtain⟨vt,w4,m1,aV,x4,f4,_⟩:=mk (P:=prog) (w:=w3) (h:=m8 w3) (α:=List A9) cI9 cp7 (y:=[]) hz (n:=M) (by omega) (by omega) (n7 _);obtain⟨il,cI,bL⟩:=aA6 (P:=prog) cp7 dl5;have cC:=aV.isS;have bY:=aV.vlen;rw[ek9]at bY;simp only[i5,n9,simprocAttr,lw,m1,cC,bY];have aN:∀b,A0 vt b->w3.heap.size<=b/\b<w4.heap.size:=λb o=>⟨f4 b o,aV.lt o⟩;have a8:=aV.reNo (aT6 x4 λb o=>(aN b o).1) (λb o=>o);rw[cz5 (λc=>(i4 p).takes (i:Int) (c:Int)) M]at a8;refine A6 [0,1,5,6,7,8,10,41] (σ:=Nat) (λk f U=>f 42 = .int .i64 k/\k<=M/\B0 (C1 U (A0 vt)) U 31 vt (aM2 (λc=>(i4 p).takes (i:Int) (c:Int)) M k)/\o6 w3 U/\w4.heap.size<=U.heap.size) (λk=>M-k) 0 ?_ ?_
 .exact⟨rfl,eg3 _,a8,x4,eg6 _⟩
 rintro k f E ⟨e0,e1,e5,e6,e7,e8,bz,ct,_⟩ ⟨bd,dI,ci,Q,cX⟩;have C:=az.trans Q;simp only[i5,n9,simprocAttr,bd,ct];refine A4 (λhc=>?_) (λhc=>?_)
 .have ap:k<M:=by simpa using hc
  simp only[i5,simprocAttr,bd,e0,e1,bz];refine t8 (cM2 (m8 w) a p i k E ha (b7 C) hr hw hi (by rw[hM];exact Int.ofNat_lt.2 ap)) ?_;rintro u w6 ⟨hu,aA⟩;have b5:R (C1 w6 (A0 vt)) u ((i4 p).takes (i:Int) (k:Int)):=A3.mono (cG5 (b7 C) aA λb o=>⟨el8 (aN b o).2 cX,bf0 (ef9 az.size (aN b o).1)⟩) hu;have cj:=(ci.ext aA).up (K0 aA (λ_ h=>h.elim) λ_ h=>.inl h) λb o=>F9 o;obtain⟨w7,s1,dc,bV,dM⟩:=F1 (P:=prog) (t:=31) cj rfl (k:=k) (by rw[bn3];exact ap) (x:=u) (y:=(i4 p).takes (i:Int) (k:Int)) b5 (F0 b5.isS) cI bL;have a9:=dc.up (K0 bV (λ_ h=>h) λ_ h=>.inl h) λb o=>F9 o;have cJ:=cj.inS (k:=k) (by rw[bn3];exact ap);rw[cU1 (T:=λc=>(i4 p).takes (i:Int) (c:Int))]at a9;have dL:=aA.size;simp only[i5,n9,y4,simprocAttr,bd,cJ,s1];exact T4 (k+1) ⟨a9,o8.ext_of (Q.trans aA) bV λb o=>(aN b o).1,by omega⟩
 have am:M=k:=by simp at hc;omega
 subst am;have b9:=ci.rw_ (A8 _ _);have b6:=A3.mono (b7 (hG.ext.trans Q)) c1;have aL:=hG.more Q;obtain⟨es,d,aP,bS,Z,bf,bE⟩:=aL.map;have a5:=run_range_map (P:=prog) E 253 _ _ r es d Tryz.underlying253 aP;have cc:=o6.alloc E (.mapIter (some r) d #[] d);have bZ:RgI (E.alloc (.mapIter (some r) d #[] d)) E.heap.size r es d []:=⟨⟨d,eg6 _,ej0 _ _⟩,((o6.alloc _ _).block _ (ef5.1 aP).1 id).trans aP,bf,bE,List.nodup_nil,by simp⟩;generalize E.alloc (.mapIter (some r) d #[] d)=w6 at a5 cc bZ;have dm:r<E.heap.size:=(ef5.1 aP).1;have di:kv.length=es.size:=by
  have:=eg8 List.length bS;simpa using this.symm
 have Y:∀n,(i4 p).givers (i:Int) n≠[]↔n∈kv.map (·.1):=λn=>by
  have bK:dc3 p i n=((i4 p).givers (i:Int) n).map λ(a:Nat)=>(a:Int):=rfl;constructor
  .intro h;cases e:O9 kv n with
   | none=>
    have:=aL.no n e;rw[bK,List.map_eq_nil_iff]at this;exact absurd this h
   | some v=>exact eh4.2 ⟨_,dc2 e,rfl⟩
  .intro h e;obtain⟨⟨m,v⟩,h1,rfl⟩:=eh4.1 h;have:=(aL.row m v (ch9 Z h1)).2;rw[bK]at this;simp only at e;rw[e]at this;exact this rfl
 have dj:kv.length<=M*100:=by
  have h:=de8 (b:=i4 p) (i:=(i:Int)) Z (λn hn=>(Y n).2 hn) λa ha=>(bi a ha).2;rw[K,eg5]at h;exact h
 simp only[i5,simprocAttr,e8,dh5,a5];have bj:E.heap.size≠r:=λe=>by omega
 refine A6 [0,1,5,7,10,54] (σ:=List Nat×Value) (λs f U=>f 6=s.2/\RgI U E.heap.size r es d s.1/\o6 E U/\B0 (m8 E) U 210 s.2 ((s.1.map (keyN kv)).flatMap (at4 (i4 p) (i:Int)))/\(∀b,A0 s.2 b->b≠E.heap.size)) (λs=>es.size-s.1.length) ([],.slice none 0 0) ?_ ?_
 .exact⟨e6,bZ,cc,B0.nil _ _ _,λb o=>absurd o D5⟩
 rintro⟨D,vo⟩ f7 w7 ⟨g0,g1,g5,g7,bA,bc,_⟩ ⟨h6,F,a7,aq,ay⟩;simp only at h6 F aq ay;rw[e0]at g0;rw[e1]at g1;rw[e5]at g5;rw[e7]at g7;rw[bz]at bA;have dG:D.length<=es.size:=by
  have:=J6 (m:=List.range es.size) F.dn λj hj=>ej7.2 (F.dl j hj)
  rwa [ek6]at this
 have a2:((D.map (keyN kv)).flatMap (at4 (i4 p) (i:Int))).length<=824240800:=by
  have h:=aT3 (l:=D.map (keyN kv)) (f:=at4 (i4 p) (i:Int)) (B:=M*M) λn _=>by
   have:=cP4 (i4 p) (i:Int) n
   rwa [K]at this
  rw[eg5]at h;have h1:D.length<=20200:=by omega
  have h2:M*M<=202*202:=Nat.mul_le_mul V V;have h3:D.length*(M*M)<=20200*(202*202):=Nat.mul_le_mul h1 h2;exact ef9 h (ef9 h3 (by decide))
 rcases F.next (P:=prog) bj 0 with⟨bD,aQ⟩|⟨j,e,w8,cL,dJ,aQ,ar,bW,bG⟩
 .simp only[i5,simprocAttr,bc,cI2,aQ,h6];refine t8 (cA0 aq (by omega) λs hs t ht h1 h2=>?_) ?_
  .obtain⟨n,_,hs⟩:=ei7.1 hs;obtain⟨m,_,ht⟩:=ei7.1 ht;exact cP5 a1 hs ht h1 h2
  rintro u9 w9 ⟨aR,cO⟩;simp only[i5,simprocAttr,h6];refine o7 results136 ?_;simp only[B3,simprocAttr];have cM:(D.map (keyN kv)).Nodup:=by
   rw[List.Nodup,List.pairwise_map];refine List.Pairwise.imp_of_mem (fun{j q} hj hq bj e=>?_) F.dn;exact bj (de7 Z (by have:=F.dl j hj;omega) (by have:=F.dl q hq;omega) e)
  have bm:=cv3 a0 (λa ha=>(bi a ha).1) cM λn hn=>by
   obtain⟨q,hq,cT⟩:=em3.1 ((Y n).1 hn);refine eh4.2 ⟨q,bD q (by rw[eg5]at hq;omega),?_⟩;rw[<-cT,em7,bf2 (ef1 (by simpa using hq))]
  rw[dc0 a0 (λa ha=>(bi a ha).1) a1 bm]at aR;exact⟨aR.backN C,o8.ext_of (C.trans a7) cO λb o=>ef9 C.size (D1 (aq.free o))⟩
 generalize hP:(D.map (keyN kv)).flatMap (at4 (i4 p) (i:Int))=bu at aq a2;obtain⟨⟨n,v⟩,hq,bF,bH⟩:∃q:A9×Value,kv[j]?=some q/\e.key=p6 q.1/\e.val=q.2:=by
  have h1:=eg8 (λl=>l[j]?) bS;simp only[ei9,er1,cL,el5]at h1;obtain⟨q,h2,h3⟩:=Option.map_eq_some_iff.1 h1.symm;exact⟨q,h2,(eg8 Prod.fst h3).symm,(eg8 Prod.snd h3).symm⟩
 simp only at bF bH;have bR:keyN kv j=n:=bf2 hq;obtain⟨cR,_⟩:=aL.row n v (ch9 Z (eh3 hq));have ak:=bG w8 (o8.refl _);rw[bF,bH]at ak aQ;have S:o6 E w8:=o8.ext_of a7 bW λb o=>by subst o;exact eg6 _
 have bl:=aq.mod bW λb o h=>ay b o h;have ax:R (m8 E) v (((i4 p).givers (i:Int) n).map λ(a:Nat)=>(a:Int)):=cR.rw_ (b7 (hG.ext.trans Q));have bq:R (m8 w8) v (((i4 p).givers (i:Int) n).map λ(a:Nat)=>(a:Int)):=A3.mono (b7 S) ax;have b8:=A3.mono (b7 S) b6;have dF:D.length+1<=es.size:=by
  have:=J6 (m:=List.range es.size) ar.dn λq hq=>ej7.2 (ar.dl q hq)
  rwa [ek6,ef4,ei6]at this
 simp only[i5,simprocAttr,bc,cI2,dh4,aQ,ak,g0,g1,g7];refine t8 (cN9 a p i vp v ((i4 p).givers (i:Int) n) w8 (ha.mono (b7 (C.trans S))) hr hw hi b8 bq (be6 _ _ _) (λA hA=>by have:=aj9 _ _ _ A hA;rw[K]at this;rw[hM];exact Int.ofNat_lt.2 this)) ?_;rintro vs w9 ⟨⟨ck,ad,cY,a4⟩,aU⟩;rw[hM]at cY;simp only[hM]at a4;have b1:ck.length=M:=by omega
 have bo:∀c:Nat,c<M->D4 ck c=(at5 (i4 p) (i:Int) n c).map λ(f:Nat)=>(f:Int):=λc hc=>by
  obtain⟨g,h1,h2⟩:=a4 c (Int.ofNat_lt.2 hc);have e:(List.range ((i4 p).givers (i:Int) n).length).filter g=at5 (i4 p) (i:Int) n c:=by
   unfold at5;refine List.filter_congr λf hf=>?_;have bI:=ej7.1 hf;have h3:=h2 f _ (ef1 bI);have h4:((i4 p).givers (i:Int) n).getD f 0=((i4 p).givers (i:Int) n)[f]:=by rw[List.getD,ef1 bI];rfl
   rw[h4,eq7];exact h3
  rw[h1,e]
 have cB:=ad.isS;have bX:=ad.vlen;rw[b1]at bX;have aR:=bl.ext aU;have a3:=ar.mod aU (λh=>h) (λh=>h);have dg:E.heap.size<w9.heap.size:=by
  obtain⟨_,_,h⟩:=a3.cur;exact(ef5.1 h).1
 simp only[i5,n9,simprocAttr,cB,bX];refine A6 [0,1,5,7,10,12,13,54,64,65] (σ:=Nat×Value) (λs f U=>f 66 = .int .i64 s.1/\f 6=s.2/\s.1<=M/\B0 (m8 E) U 210 s.2 (bu++(List.range s.1).flatMap (aL6 (i4 p) (i:Int) n))/\o8 (λb=>E.heap.size<=b/\b≠E.heap.size/\(b<w8.heap.size\/w9.heap.size<=b)) w9 U/\(∀b,A0 s.2 b->E.heap.size<=b/\b≠E.heap.size/\(b<w8.heap.size\/w9.heap.size<=b))) (λs=>M-s.1) (0,vo) ?_ ?_
 .simp only[B3,simprocAttr];exact⟨by first|rfl|trivial,h6,eg3 _,by rw[List.range_zero,List.flatMap_nil,ei5];exact aR,o8.refl _,λb o=>⟨D1 (bl.free o),ay b o,.inl (bl.lt o)⟩⟩
 rintro⟨c,v3⟩ f9 d7 ⟨k0,k1,k5,k7,cd,c2,c3,c4,c5,c6,_⟩ ⟨aJ,be,cD,ac,ab,X⟩;simp only at aJ be cD ac X;rw[g0]at k0;rw[g1]at k1;rw[g5]at k5;rw[g7]at k7;rw[bA]at cd;rw[bc]at c4;simp only[i5,n9,simprocAttr,aJ,c6];refine y5 (λL=>?_) ?_;rotate_left
 .intro am;simp only[i5,simprocAttr];have bn:=a3.mod ab (λh=>h.2.1 rfl) (λh=>by have:=h.1;omega);have bs:=o8.ext_of (S.trans aU) ab λb o=>o.1;refine⟨(D++[j],v3),by simp only[ef4,ei6];omega,be,bn,bs,?_,λb o=>(X b o).2.1⟩;simp only[];rw[ei4,eo8,hP,ej9,List.map_nil,bR,ep2,List.flatMap_nil,ei5];have:at4 (i4 p) (i:Int) n=(List.range c).flatMap (aL6 (i4 p) (i:Int) n):=by unfold at4;rw[K,am]
  rw[this];exact ac
 obtain⟨ur,au,cE⟩:=R.row ad (k:=c) (di9 (by omega));rw[bo c L]at au;have cy:=ab.weaken (N:=λb=>b<w8.heap.size) λb o h=>by rcases h.2.2 with h|h<;>omega
 have bN:=ad.inS (k:=c) (by omega);have bT:=J1 (P:=prog) (t:=24) cE (D8 cy) ah2;have cA:=au.isS;have bk:=au.vlen;rw[eg5]at bk;obtain⟨ut,c0,cF⟩:=R.row b9 (cU0 (T:=λc=>(i4 p).takes (i:Int) (c:Int)) L);have bO:=b9.inS (k:=c) (by rw[bn3];exact L);have cS:(bu++(List.range c).flatMap (aL6 (i4 p) (i:Int) n)).length<=824240800+202*202:=by
  rw[ef4];have h:=bC5 (i4 p) (i:Int) n c;rw[K]at h;have h2:c*M<=202*202:=Nat.mul_le_mul (by omega) V;exact Nat.add_le_add a2 (ef9 h h2)
 have aY:=bP4 (i4 p) (i:Int) n c;rw[K]at aY;have bJ:aL6 (i4 p) (i:Int) n c=(at5 (i4 p) (i:Int) n c).flatMap (af6 (i4 p) (i:Int) n c):=rfl;have aZ:∀f∈at5 (i4 p) (i:Int) n c,f<((i4 p).givers (i:Int) n).length:=λf hf=>by
  unfold at5 at hf;exact ej7.1 (eh8.1 hf).1
 generalize at5 (i4 p) (i:Int) n c=fl at au bk aY bJ aZ;generalize cz:bu++(List.range c).flatMap (aL6 (i4 p) (i:Int) n)=ba at ac cS;simp only[i5,n9,y4,simprocAttr,aJ,c5,bN,bT,cA,bk];refine A6 [0,1,5,7,10,12,13,14,54,64,65,66,71,72] (σ:=Nat×Value) (λs f U=>f 73 = .int .i64 s.1/\f 6=s.2/\s.1<=fl.length/\B0 (m8 E) U 210 s.2 (ba++(fl.take s.1).flatMap (af6 (i4 p) (i:Int) n c))/\o8 (λb=>E.heap.size<=b/\b≠E.heap.size/\(b<w8.heap.size\/w9.heap.size<=b)) w9 U/\(∀b,A0 s.2 b->E.heap.size<=b/\b≠E.heap.size/\(b<w8.heap.size\/w9.heap.size<=b))) (λs=>fl.length-s.1) (0,v3) ?_ ?_
 .simp only[B3,simprocAttr];exact⟨by first|rfl|trivial,be,eg3 _,by rw[ep6,List.flatMap_nil,ei5];exact ac,ab,X⟩
 rintro⟨q,v4⟩ dB aC ⟨l0,l1,l5,l7,ce,bt,cf,cg,dS,dT,dU,ch,c8,c9,_⟩ ⟨ah,aK,cU,O,I,G⟩;simp only at ah aK cU O G;rw[k5]at l5;rw[cd]at ce;rw[c2]at bt;rw[c3]at cf;rw[aJ]at ch;simp only[i5,n9,simprocAttr,ah,c9];refine y5 (λaa=>?_) ?_;rotate_left
 .intro am;rw[am,eg4]at O;simp only[i5,n9,simprocAttr,ch];refine nx2 (c+1,v4) ⟨aK,by omega,?_,I,G⟩;simp only[];rw[eq1,eo8,<-ei0,cz,ep2,List.flatMap_nil,ei5,bJ];exact O
 have z:o6 E aC:=o8.ext_of (S.trans aU) I λb o=>o.1;have bC:=I.weaken (N:=λb=>b<w8.heap.size) λb o h=>by rcases h.2.2 with h|h<;>omega
 have av:R (m8 aC) ur (fl.map λ(f:Nat)=>(f:Int)):=A3.mono (D8 bC) au;have bM:=av.inS (k:=q) (by rw[eg5];exact aa);have an:=aC3 av (n7 _) (k:=q) (by rw[eg5];exact aa);rw[em7]at an;have bU:=J1 (P:=prog) (t:=31) cF (b7 z) P8;have al:=aZ _ (eg2 aa);have bp:=I9 (af6 (i4 p) (i:Int) n c) fl aa;have dK:(ba++(fl.take q).flatMap (af6 (i4 p) (i:Int) n c)).length<=824240800+202*202+202:=by
  rw[ef4];have h:=aT3 (l:=fl.take q) (f:=af6 (i4 p) (i:Int) n c) (B:=1) λf _=>bC6 _ _ _ _ f;rw[eg0,en3]at h;omega
 generalize fl[q]=f at an al bp;have ae:R (m8 aC) v (((i4 p).givers (i:Int) n).map λ(a:Nat)=>(a:Int)):=A3.mono (b7 z) ax;have bP:=ae.inS (k:=f) (by rw[eg5];exact al);have ao:=aC3 ae (n7 _) (k:=f) (by rw[eg5];exact al);rw[em7]at ao;have cH:((i4 p).givers (i:Int) n).getD f 0=((i4 p).givers (i:Int) n)[f]:=by rw[List.getD,ef1 al];rfl
 have bB:=aj9 _ _ _ _ (eg2 al);rw[K]at bB;have W:af6 (i4 p) (i:Int) n c f=if((i4 p).takes (i:Int) (c:Int)).contains n then[⟨(D7 (d9 p) i).place ((((i4 p).givers (i:Int) n)[f]:Nat):Int),(D7 (d9 p) i).place (c:Int),n⟩]else[]:=by
  unfold af6;rw[cH,aO]
 generalize((i4 p).givers (i:Int) n)[f]=A at ao bB W;have b4:=(b2 c L).1;have b3:((i4 p).takes (i:Int) (c:Int)).length<=1000000000:=ef9 (b2 c L).2 (by decide);simp only[i5,n9,y4,simprocAttr,ah,c8,bM,an,ce,cg,bO,bU,bt];refine E6 (aj8 ut _ n aC (A3.mono (b7 z) c0) b3 b4) ?_;clear b3 b4;rcases ef2 (((i4 p).takes (i:Int) (c:Int)).contains n)with h|h;rotate_left
 .rw[h,if_neg (by simp)]at W;simp only[i5,n9,simprocAttr,h,ah];refine nx2 (q+1,v4) ⟨aK,by omega,?_,I,G⟩;simp only[];rw[bp,W,ei5];exact O
 rw[h,if_pos rfl]at W;simp only[i5,n9,y4,simprocAttr,h,aK,l5,cf,bP,ao];refine t8 (ad3 aw _ p i x y (A:Int) aC (af.mono (b7 (C.trans z))) H.toWyOk ⟨by omega,by omega⟩) ?_;rintro _ dd ⟨rfl,a6⟩;simp only[i5,simprocAttr,l5,cg];refine t8 (ad3 aw _ p i x y (c:Int) dd (af.mono (b7 (C.trans (z.trans a6)))) H.toWyOk ⟨by omega,by omega⟩) ?_;rintro _ d8 ⟨rfl,cb⟩;have J:=a6.trans cb;generalize(D7 (d9 p) i).place (A:Int)=s1 at W;generalize(D7 (d9 p) i).place (c:Int)=d1 at W;obtain⟨p1,v5,ea,p2,p3,p4,p5⟩:=push (P:=prog) (t:=207) (e:=207) dR5 rfl (O.ext J) (x:=.agg (p8.cells (⟨s1,d1,n⟩:Fw)).toArray) (y:=⟨s1,d1,n⟩) (cg1 _) (by omega) (by omega) (b7 (z.trans J));simp only[Value.cells]at p1 p2;have cx:=I.size;have cW:=J.size;simp only[i5,n9,simprocAttr,ah,bt,cZ0,p1,p2];refine nx4 (q+1,v5) ⟨?_,(I.trans (o8.up J)).trans (p4.weaken λb _ o=>G b o),λb o=>?_⟩
 .simp only[];rw[bp,W,<-ei0];exact p3
 .rcases p5 b o with h|h
  .exact G b h
  .exact⟨by omega,by omega,.inr (by omega)⟩
def bM7(a:Addr)(p:Pg)(i:Nat)(w:World)(ha:At (m8 w) a (i4 p))(hr:D3 p)(hw:B7 p<=1000000)(O:i<p.procs.length):
  o9 prog 128 #[.pointer (some a),.int .i64 i] w λu v=>(∃ui uo,u = .tuple #[ui,uo]/\B0 (m8 w) v 9 ui ((i4 p).slotsIn (i:Int))/\B0 (m8 w) v 9 uo ((i4 p).slotsOut (i:Int))/\(∀b,A0 ui b->¬A0 uo b)/\o6 w v):=by
 refine p9 [.pointer (some a),.int .i64 i] func128 rfl ?_;have F:(i4 p).slotsIn (i:Int)=W8 (H6 (af9 p) (i:Int)++p.procs[i].params.map (·.name)):=by
  unfold Bk.slotsIn;rw[M3 O];rfl
 have W:(i4 p).slotsOut (i:Int)=W8 (H6 (K8 p) (i:Int)++[U2]):=rfl;obtain⟨sh,vw,vd,_,vi,vo,has,a7,a5,_,aj,ak,L,bd⟩:=ha.book rfl;obtain⟨_,_,_,_,_,_,af,_,_⟩:=has.sh;rw[K5]at af;obtain⟨vg,vp,a6,al,aT,be⟩:=af.pg;have lb:=L w (n7 _);have g:∀v,o6 w v->B8 (m8 w) (m8 v):=λv hx=>b7 hx;obtain⟨r,K,Y⟩:=(aT7 hr hw).row O;generalize H6 (af9 p) (i:Int)=M at r K Y F;obtain⟨ui,aM,ay⟩:=R.row aj (show(i4 p).ins[i]?=some M from r);have Z:=aj.inS (k:=i) (show i<(af9 p).length from(ef6.1 r).1);have aD:=J1 (P:=prog) (t:=31) ay (n7 _) P8;obtain⟨m,y,G⟩:=(aF2 hr.may).row O;generalize H6 (K8 p) (i:Int)=D at m y G W;obtain⟨uo,aN,az⟩:=R.row ak (show(i4 p).outs[i]?=some D from m);have aa:=ak.inS (k:=i) (show i<(K8 p).length from(ef6.1 m).1);simp only[i5,n9,y4,J0,M5.val,simprocAttr,lb,Z,aD];refine t8 (ax4 ui M w aM (by omega)) ?_;rintro u2 Q ⟨aG,z⟩;have aQ:=L Q (g Q z);have aV:=aT Q (g Q z);have A:=al.at_ (i:=i) (x:=p.procs[i]) (ef1 O);have ab:=al.inS (k:=i) O;have aP:A3.sz Pr=5:=rfl;rw[aP]at A;obtain⟨bh,_,_,_,h,_,_,_,aU,_⟩:=A.pr;have aW:=aU Q (g Q z);have aJ:=T9 hr.may O;generalize p.procs[i].params=n at h aJ F;have au:=h.isS;have aF:=h.vlen;simp only[i5,n9,y4,J0,M5.val,simprocAttr,aQ,aV,ab,aW,au,aF];refine D9 [0,1,27,28] (σ:=Nat×Value) (λs f v=>f 29 = .int .i64 s.1/\f 4=s.2/\s.1<=n.length/\B0 (m8 w) v 9 s.2 (M++(n.take s.1).map (·.name))/\o6 w v) (λs=>n.length-s.1) (0,u2) ?_ ?_
 .simp only[B3,simprocAttr];exact⟨by first|rfl|trivial,trivial,eg3 _,by simpa using aG,z⟩
 rintro⟨j,u⟩ f N hk ⟨E,h4,aC,I,c⟩;simp only at E h4 aC I;simp only[ei3,B3,simprocAttr]at hk;obtain⟨e0,e1,S,T,_⟩:=hk;simp only[i5,n9,y4,J0,M5.val,simprocAttr,E,S,T];refine A4 (λhc=>?_) (λhc=>?_)
 .have H:j<n.length:=by simpa using hc
  have aB:=h.inS H;obtain⟨sv,ag,ac⟩:=F5 (P:=prog) (t:=78) h (g N c) (ef1 H) bJ1 bJ7 bv6 az8;rw[az8]at ac;have ah:=aE6 (λq:Pa=>q.name) n H;generalize n[j]=pa at ag ah;obtain⟨d,wz,w4,av,aL,l,aw⟩:=aV7 (ag.mono (g N c)) (n7 _);obtain⟨aS,_⟩:=aw.pa;have l4:=aS w4 (n7 _);obtain⟨p1,u5,w5,p2,p3,p4,p5⟩:=pushS (e:=31) (I.ext l) pa.name (by rw[ef4,eg5,eg0];omega) (b7 (c.trans l));simp only[i5,n9,y4,J0,M5.val,simprocAttr,E,h4,S,T,aB,ac,av,aL,l4,p1,p2];refine⟨(j+1,u5),by omega,eg8 _ (H8 j (by omega)),by trivial,by omega,?_,(I.ext l).ext2 (c.trans l) p4⟩;simp only[];rw[ah,<-ei0];exact p3
 have aA:j=n.length:=by simp at hc;omega
 subst aA;rw[eg4]at I;have aR:=L N (g N c);have aE:=J1 (P:=prog) (t:=31) az (g N c) P8;simp only[i5,n9,y4,J0,M5.val,simprocAttr,e0,e1,aR,aa,aE];refine t8 (ax4 uo D N (A3.mono (g N c) aN) (by omega)) ?_;rintro u4 w4 ⟨J,l⟩;obtain⟨p1,u5,w5,p2,p3,p4,p5⟩:=pushS (e:=31) J U2 (by omega) (b7 l);have aY:(Instr.buildSlice 31 1 #[(0,.string ⟨#[36,114,101,116]⟩)]).run prog w4=_:=p1;have X:∀b,A0 u b->¬A0 u4 b:=λb U V=>by
  have:=I.lt U;have:=D1 (J.free V);omega
 have o:∀b,A0 u b->¬A0 u5 b:=λb U V=>by
  have:=I.lt U;have:=D1 (p3.free V);omega
 have B:=(I.ext l).mod p4 X;have aO:o6 w w5:=c.trans (J.ext2 l p4);simp only[i5,n9,y4,J0,M5.val,simprocAttr,aY,p2,h4];refine t8 (ao2 B (by rw[ef4,eg5];omega)) ?_;rintro u6 w6 ⟨aH,ad⟩;have C:=(p3.mod ad λb U V=>o b V U).back c;simp only[i5,n9,y4,J0,M5.val,simprocAttr];refine t8 (ao2 C (by rw[ef4,ei6];omega)) ?_;rintro u7 w7 ⟨aI,ae⟩;simp only[i5,n9,y4,J0,M5.val,simprocAttr];refine W7 results128 ?_;simp only[B3,simprocAttr];rw[F,W];exact⟨u,u5,by rw[h4],aH.mod ae o,aI,o,C.ext2 (B.ext2 aO ad) ae⟩
def cy4(n:A9)(w:World):o9 prog 178 #[p6 n] w λu e=>(u = .bool (decide (n=U2))/\e=w):=by
 refine p9 [p6 n] func178 rfl ?_;have c:=λ(P:Program) (t:TypeId)=>cD6 (P:=P) (t:=t) (a:=n) (b:=U2);have d:p6 U2 = .string ⟨#[36,114,101,116]⟩:=rfl;simp only[d]at c;simp only[i5,n9,simprocAttr,c];exact o7 results178 ⟨rfl,rfl⟩
def cf0(q:A9)(k d:Int)(n:A9):B6 prog 26 [(0,p6 q),(1,.int .i64 k),(2,.int .i64 d),(3,p6 n)]=some (.agg (p8.cells (⟨q,k,d,n⟩:Vx)).toArray):=by
 simp[B6,bJ4,J9,Instr.fill,Value.cells,p6];rfl
def K1(a:Addr)(i:Int)(q:A9)(b c d e g f:Value):Array Value:=#[.pointer (some a),.int .i64 i,p6 q,b,c,d,e,g,f]
def L0(e:Nat)(T:TypeId)(a:Array Value)(q:A9)(k d:Int)(n:A9)(w:World)(hb:w.heap[e]?=some (.cells a T (0,0)))(m:a[2]?=some (p6 q)):
  o9 prog 129 #[.pointer (some ⟨e,0,none⟩),.int .i64 k,.int .i64 d,p6 n] w λu p=>(u = .agg (p8.cells (⟨q,k,d,n⟩:Vx)).toArray/\o6 w p):=by
 refine p9 [.pointer (some ⟨e,0,none⟩),.int .i64 k,.int .i64 d,p6 n] func129 rfl ?_;have g:p8.cells (⟨q,k,d,n⟩:Vx)=[p6 q,.int .i64 k,.int .i64 d,p6 n]:=rfl;obtain⟨h,j⟩:=aA5 (P:=prog) (w:=w) (T:=26) aS3 rfl (cs:=#[p6 q,.int .i64 k,.int .i64 d,p6 n]) (by rw[N6];rfl) (by simp[Value.oneCell',p6]);have b:=cf0 q k d n;rw[g]at b ⊢;have f:=λo=>((o6.alloc w o).block e (ef5.1 hb).1 id).trans hb;have l:=λo=>E7 (P:=prog) (t:=9) (i:=2) (u:=p6 q) (f o) m Z2;have c:=Y5 (P:=prog) (T:=26) (ej0 w (.cells #[p6 q,.int .i64 k,.int .i64 d,p6 n] 26)) ar8 as0 am4 (by rw[N6];rfl);simp only[i5,n9,simprocAttr,h,l,b,j];refine N9 results129 (ad:=⟨w.heap.size,0,none⟩) (by simp only[B3,simprocAttr]) c ?_;exact⟨rfl,o6.alloc _ _⟩
def BM.rebase{α β:Type}[A3 α][A3 β]{H e:Hp}{w0 i w:World}{Z:Nat->Prop}{b:Nat}{f g TY:TypeId}{a:Value->Array Value}{c d:Value}{xs:List α}{ys:List β}(s:BM H w0 i w Z b f g TY a c d xs ys)(h:B8 e (C1 w (nB b c d Z))):BM e w0 i w Z b f g TY a c d xs ys:=
 ⟨s.ext,s.ge,s.cb,s.ox,s.oy,s.dx,s.dy,s.dz,s.zk,s.sz,h⟩
abbrev PV(H:Hp)(w0 w:World)(f:Nat)(a:Addr)(i:Int)(q:A9)(b c d e g:Value)(xs:List Vx):Prop:=
 BM (α:=Vx) (β:=Int) H w0 w0 w (λ_=>False) f 195 26 3 (λv=>K1 a i q b c d e v (.slice none 0 0)) g (.slice none 0 0) xs []
abbrev PE(H:Hp)(w0 w:World)(f:Nat)(a:Addr)(i:Int)(q:A9)(b c d e g:Value)(xs:List Eg):Prop:=
 BM (α:=Eg) (β:=Int) H w0 w0 w (λ_=>False) f 195 66 3 (λv=>K1 a i q b c d e (.slice none 0 0) v) g (.slice none 0 0) xs []
abbrev nP(a:Nat)(b:Value):Nat->Prop:=nB a b (.slice none 0 0) λ_=>False
def dA1:∃a,prog.info? 22=some a/\a.size=1:=aA6 dm4 dl4
def ci9:∃a,prog.info? 54=some a/\a.size=1:=aA6 dD0 dC5
def aU6(H:Hp)(b:Nat)(a:Addr)(i:Int)(q:A9)(F G I J E:Value)(xs:List Vx)(k d:Int)(u:Value)(g:List A9)(w0 w:World)(s:PV H w0 w b a i q F G I J E xs)(L:R (C1 w (nP b E)) u g)(hl:xs.length+g.length<=1000000):
  o9 prog 130 #[.pointer (some ⟨b,0,none⟩),.int .i64 k,.int .i64 d,u] w λr c=>(∃W,PV (C1 w (nP b E)) w0 c b a i q F G I J W (xs++g.map λn=>⟨q,k,d,n⟩)):=by
 refine p9 [.pointer (some ⟨b,0,none⟩),.int .i64 k,.int .i64 d,u] func130 rfl ?_;obtain⟨il,Q,A⟩:=dA1;simp only[i5,n9,simprocAttr,L.isS,L.vlen];refine A6 [0,1,2,10,11] (σ:=Nat×Value) (λt f c=>f 12 = .int .i64 t.1/\t.1<=g.length/\PV (C1 w (nP b E)) w0 c b a i q F G I J t.2 (xs++(g.take t.1).map λn=>⟨q,k,d,n⟩)) (λt=>g.length-t.1) (0,E) ?_ ?_
 .exact⟨rfl,eg3 _,by simpa using s.rebase (n7 _)⟩
 clear s;rintro⟨j,v⟩ f z ⟨e0,Y,Z,M,N,_⟩ ⟨l,T,s⟩;simp only at l T s;simp only[i5,n9,simprocAttr,l,N];refine y5 (λo=>?_) ?_;rotate_left
 .rintro rfl;rw[eg4]at s;simp only[i5,simprocAttr];refine bS5 results130 ?_;exact⟨v,s⟩
 have S:=L.inS o;have B:=ldS L s.hb o;have C:=aE6 (λn:A9=>(⟨q,k,d,n⟩:Vx)) g o;have U:(xs++(g.take j).map λn=>(⟨q,k,d,n⟩:Vx)).length+1<=1000000:=by rw[ef4,eg5,eg0];omega
 generalize g[j]=n at B C;generalize V:xs++(g.take j).map (λn=>(⟨q,k,d,n⟩:Vx))=ys at s U;have D:=s.more (o6.drew z);have O:∀c,o8 (A0 v) z.drew c->c.heap[b]?=some (.cells (K1 a i q F G I J v (.slice none 0 0)) 195 (0,0)):=λc hm=>(hm.block b (ef5.1 D.cb).1 λh=>(D.dx b h).2.1 rfl).trans D.cb;have k7:∀K f d p,F7 prog (λc=>o8 (A0 v) z.drew c) (Instr.loadAt 22 (.pointer (some ⟨b,7,none⟩))) K f d p=K (C9 f d v) p:=λK f d p=>C0 (w0:=z.drew) (o8.refl _) λc h=>E7 (i:=7) (u:=v) (O c h) rfl ab9;simp only[i5,n9,y4,simprocAttr,l,M,S,B];refine B9 (λc=>o8 (A0 v) z.drew c) 12 (A5 [0,1,2,3,4,5,6,7,8,9,10,11]) ?_;simp only[D0,A5,i5,n9,simprocAttr,e0,Y,Z,k7];refine t8 (L0 b _ _ q k d n z.drew D.cb rfl) ?_;rintro _ w3 ⟨rfl,m⟩;refine⟨o8.up m,?_⟩;have s3:=D.more m;obtain⟨p1,X,w4,w5,p2,p3,s5,p4⟩:=s3.push (P:=prog) (e:=22) at7 rfl (x:=.agg (p8.cells (⟨q,k,d,n⟩:Vx)).toArray) (y:=⟨q,k,d,n⟩) ((p8.iff_ _ _ _).2 rfl) (by omega) (by omega) (ix:=7) (by simp[K1]) (λv X=>by simp[K1]) Q A;simp only[D0,i5,n9,simprocAttr,p1,p2,F2];refine⟨(o8.up m).trans (o8.up (o6.alloc _ _)),(o8.up m).trans p4,?_⟩;simp only[i5,n9,simprocAttr,l,p3];refine T4 (j+1,X) ?_;simp only[];rw[C,<-ei0,V];exact s5
def bA5(x y:Vx)(k:Int):B6 prog 66 [(0,.agg (p8.cells x).toArray),(1,.agg (p8.cells y).toArray),(2,.int .i64 k)]=some (.agg (p8.cells (⟨x,y,k⟩:Eg)).toArray):=by
 have a:∀x:Vx,p8.cells x=[p6 x.proc,.int .i64 x.kind,.int .i64 x.id,p6 x.slot]:=λ_=>rfl;have b:p8.cells (⟨x,y,k⟩:Eg)=[p6 x.proc,.int .i64 x.kind,.int .i64 x.id,p6 x.slot,p6 y.proc,.int .i64 y.kind,.int .i64 y.id,p6 y.slot,.int .i64 k]:=rfl;rw[a,a,b];simp[B6,dT1,J9,Instr.fill,Value.cells,p6]
def an8(H:Hp)(l:Nat)(a:Addr)(i:Int)(q:A9)(A B C D g:Value)(xs:List Eg)(x y:Vx)(k:Int)(w0 w:World)(s:PE H w0 w l a i q A B C D g xs)(hl:xs.length<=1000000000):
  o9 prog 135 #[.pointer (some ⟨l,0,none⟩),.agg (p8.cells x).toArray,.agg (p8.cells y).toArray,.int .i64 k] w λr c=>(∃O,PE H w0 c l a i q A B C D O (xs++[⟨x,y,k⟩])):=by
 refine p9 [.pointer (some ⟨l,0,none⟩),.agg (p8.cells x).toArray,.agg (p8.cells y).toArray,.int .i64 k] func135 rfl ?_;obtain⟨il,L,p⟩:=ci9;obtain⟨a1,Q,F,N,n⟩:=aH1 (w:=w) (A0 g) (SV.ofN (m8 w) x) λb E=>s.ox.lt E;have R:=s.more N;obtain⟨a2,j,G,t,o⟩:=aH1 (w:=Q) (A0 g) (SV.ofN (m8 Q) y) λb E=>R.ox.lt E;have z:=(R.more t).more (o6.drew j);have J:∀c,o8 (A0 g) j.drew c->c.heap[l]?=some (.cells (K1 a i q A B C D (.slice none 0 0) g) 195 (0,0)):=λc hm=>(hm.block l (ef5.1 z.cb).1 λh=>(z.dx l h).2.1 rfl).trans z.cb;have T:∀K f d m,F7 prog (λc=>o8 (A0 g) j.drew c) (Instr.loadAt 54 (.pointer (some ⟨l,8,none⟩))) K f d m=K (C9 f d g) m:=λK f d m=>C0 (w0:=j.drew) (o8.refl _) λc h=>E7 (i:=8) (u:=g) (J c h) rfl bj4;have Z:=(I6.vx_v (SV.ofN (m8 w) x) n).2 (λc=>o8 (A0 g) j.drew c) j.drew (o8.refl _) λc h=>D8 ((o8.up (M:=A0 g) (t.trans (o6.drew j))).trans h);have t2:=(I6.vx_v (SV.ofN (m8 Q) y) o).2 (λc=>o8 (A0 g) j.drew c) j.drew (o8.refl _) λc h=>D8 ((o8.up (M:=A0 g) (o6.drew j)).trans h);have I:=bA5 x y k;obtain⟨U,S,w4,w5,V,W,Y,X⟩:=z.push (P:=prog) (e:=54) bT1 rfl (x:=.agg (p8.cells (⟨x,y,k⟩:Eg)).toArray) (y:=⟨x,y,k⟩) ((p8.iff_ _ _ _).2 rfl) (by omega) (by omega) (ix:=8) (by simp[K1]) (λv S=>by simp[K1]) L p;simp only[i5,n9,simprocAttr,F,G];refine B9 (λc=>o8 (A0 g) j.drew c) 11 (A5 [0,1,2,3,4,5,6,7,8,9,10]) ?_;simp only[D0,A5,i5,n9,simprocAttr,T,Z,t2,I,U,V,F2];refine⟨o8.up (o6.alloc _ _),X,?_⟩;simp only[i5,simprocAttr,W];refine bS5 results135 ?_;exact⟨S,Y⟩
def dZ6:ap4 prog 178=true:=by kernel_rfl
instance:p8 A9:=⟨λs=>[p6 s],λ_ _ _=>en7⟩
def bD5{α:Type}(p:α->Bool):∀(l:List α) (i:Nat),ad6 p i l ≠ -1->∃k,ad6 p i l=((i+k:Nat):Int)/\(∃x,l[k]?=some x/\p x=true)/\∀j y,j<k->l[j]?=some y->p y=false
 | [],i,h=>absurd rfl h
 | x::l,i,h=>by
  rw[ad6]at h ⊢;cases hp:p x
  .rw[hp,if_neg (by simp)]at h;rw[if_neg (by simp)];obtain⟨k,b,⟨y,c,d⟩,e⟩:=bD5 p l (i+1) h;refine⟨k+1,by rw[b];congr 1;omega,⟨y,by simpa using c,d⟩,λj z f a=>?_⟩;cases j with
   | zero=>
    obtain rfl:x=z:=by simpa using a
    exact hp
   | succ j=>exact e j z (by omega) (by simpa using a)
  .rw[if_pos rfl];exact⟨0,by simp,⟨x,rfl,hp⟩,λj y f=>by omega⟩
def aP5{α:Type}(p:α->Bool):∀(l:List α),(∀(j:Nat) y,l[j]?=some y->p y=true)->l.filter p=l
 | [],_=>rfl
 | x::l,h=>by
  rw[List.filter_cons,if_pos (h 0 x rfl),aP5 p l λj y a=>h (j+1) y (by simpa using a)]
def dN8:∃a,prog.info? 9=some a/\a.size=1:=aA6 dU0 dT6
def db0{h:Hp}{w:World}{v:Value}{xs:List A9}(D:B0 h w 9 v xs)(hl:xs.length<=1000000)(hh:B8 h (m8 w)):
  Calls prog 177 #[v,.func (.func 178) #[] #[]] w λe o=>∃u,e = .returned u/\(B0 h o 9 u (xs.filter λn=>!decide (n=U2))/\o8 (A0 v) w o/\∀b,A0 u b->A0 v b):=by
 refine p9 [v,.func (.func 178) #[] #[]] func177 rfl ?_;have hS:=D.isS;have hn:=D.vlen;have az:=D.vcap;obtain⟨il,X,H⟩:=dN8;have a:∀(x:A9) (o:World),Calls prog 178 ([p6 x]++(#[]:Array Value).toList).toArray o λe R=>∃u,e = .returned u/\(u = .bool (decide (x=U2))/\o6 o R):=λx o=>(cy4 x o).mono λe R ⟨u,h1,h2,h3⟩=>⟨u,h1,h2,by rw[h3];exact o8.refl _⟩;generalize hP:(λn:A9=>decide (n=U2))=pred at a;have U:∀n:A9,decide (n=U2)=pred n:=λn=>by rw[<-hP]
 simp only[U]at a ⊢;simp only[i5,n9,simprocAttr];refine B2 (aN7 pred 178 #[] v xs w dZ6 (D.rw_ hh) (by omega) λx o _ _=>a x o) (λw1 r=>?_);rcases ef2 (decide (ad6 pred 0 xs = -1))with hq|hq
 .have e:=ef3 hq;simp only[i5,n9,simprocAttr,hq];refine o7 results177 ?_;simp only[B3,simprocAttr];have ae:xs.any pred=false:=by rw[<-aE3 pred xs 0,e];rfl
  rw[aP5 _ _ λj y C=>by
   have:=List.any_eq_false.1 ae y (eh3 C);simpa using this]
  exact⟨D.ext r,o8.up r,λb hb=>hb⟩
 obtain⟨k,q,⟨xk,ag,af⟩,G⟩:=bD5 pred xs 0 (ef7 hq);rw[ej1]at q;generalize ad6 pred 0 xs=z at hq q ⊢;obtain⟨ac,rfl⟩:=ef6.1 ag;have ab:IntKind.i64.wrap (z+1)=((k+1:Nat):Int):=by rw[q];exact H8 k
 have O:(xs.take (k+1)).filter (λn=>!pred n)=xs.take k:=by
  rw[aq5 _ xs ac,af,if_neg (by simp),ei5];refine aP5 _ _ λj y C=>?_;rw[en1]at C;split at C
  .rename_i Z;rw[G j y Z C];rfl
  .cases C
 simp only[i5,n9,simprocAttr,hq,ab];refine A6 [0,1] (σ:=Nat×Nat×List A9) (λs f o=>f 6 = .int .i64 s.1/\f 5 = .int .i64 s.2.1/\s.1<=xs.length/\s.2.1<s.1/\s.2.2.length=xs.length/\B0 h o 9 v s.2.2/\(∀m,s.1<=m->s.2.2[m]?=xs[m]?)/\s.2.2.take s.2.1=(xs.take s.1).filter (λn=>!pred n)/\o8 (A0 v) w o) (λs=>xs.length-s.1) (k+1,k,xs) ?_ ?_
 .simp only[B3,simprocAttr];exact⟨by trivial,by rw[q],by omega,by omega,by trivial,D.ext r,λ_ _=>by trivial,O.symm,o8.up r⟩
 rintro⟨j,c,T⟩ f w2 ⟨e0,e1,_⟩ ⟨E,S,aa,V,A,g,l,d,L⟩;simp only at E S aa V A g l d;simp only[i5,n9,simprocAttr,E,e0,hS,hn];refine y5 (λK=>?_) ?_
 .have Q:T[j]?=some xs[j]:=by rw[l j (eg6 _),ef1 K]
  have Y:=g.inS (k:=j) (by omega);have J:(Instr.loadAt 9 (.pointer (some (G9 v j)))).run prog w2 = .ok (p6 xs[j]) w2:=D6 g Q Z2;have p:=aq5 (λn=>!pred n) xs K;generalize xs[j]=n at J Q p;simp only[i5,n9,y4,simprocAttr,E,e0,e1,Y,J,ep1];refine B2 (a n w2) (λw3 B=>?_);have M:o8 (A0 v) w w3:=L.trans (o8.up B);rcases ef2 (pred n)with hp|hp
  .rw[hp,if_neg (by simp),ei5]at p;simp only[i5,n9,simprocAttr,hp,E];refine nx2 (j+1,c,T) ⟨S,by simp only[];omega,by simp only[];omega,A,g.ext B,λm hm=>l m (by simp only at hm;omega),?_,M⟩;simp only[];rw[d,p]
  .rw[hp,if_pos (by simp)]at p;have I:=g.inS (k:=c) (by omega);obtain⟨w4,q1,q2,q3,_⟩:=F1 (P:=prog) (t:=9) (g.ext B) rfl (k:=c) (by omega) (x:=p6 n) (y:=n) rfl rfl X H;simp only[i5,n9,y4,simprocAttr,hp,E,S,e0,I,q1];refine nx5 (j+1,c+1,T.set c n) ⟨by simp only[en4];exact A,q2,λm hm=>?_,?_,M.trans q3⟩
   .simp only at hm ⊢;rw[eo1 (by omega)];exact l m (by omega)
   .simp only[];have W:c<(T.set c n).length:=by rw[en4];omega
    rw[ef8 W,List.getElem_set_self,List.take_set_of_le (eg6 _),d,p]
 .rintro rfl;rw[eg4]at d;have c3:decide ((c:Int)<=(xs.length:Int))=true:=by simp;omega
  have c4:decide ((c:Int)<=(vcap v:Int))=true:=by simp;omega
  have c5:decide ((xs.length:Int)<=(vcap v:Int))=true:=by simp;omega
  obtain⟨w6,e6,N,ad,F⟩:=bn0 (P:=prog) (t:=31) (ty:=0) g rfl dU0 rfl (by simp[Value.cells,Value.oneCell']) (i:=c) (by omega);have hz:A3.sz A9=1:=rfl;rw[A,hz]at e6;rw[hz]at N F;simp only[i5,n9,J0,simprocAttr,bF7,S,e0,hS,hn,c3,c4,c5,e6];exact o7 results177 ⟨by rw[<-d];exact N,L.trans ad,F⟩
def cU6(z:Nat)(T:TypeId)(y:Array Value)(a:Addr)(p:Pg)(vs:Value)(s:St)(c:Nat)(w:World)(hb:w.heap[z]?=some (.cells y T (0,0)))(M:y[0]?=some (.pointer (some a)))(V:At (m8 w) a (i4 p))(O:D3 p)(hw:B7 p<=1000000)(hv:SV (m8 w) vs s)(G:aC0 p s c):
  o9 prog 131 #[.pointer (some ⟨z,0,none⟩),vs] w λu m=>(∃x F,u = .tuple #[x,F]/\B0 (m8 w) m 9 x ((i4 p).slotsIn (c:Int))/\B0 (m8 w) m 9 F ((i4 p).callOut s)/\(∀b,A0 x b->¬A0 F b)/\o6 w m):=by
 refine p9 [.pointer (some ⟨z,0,none⟩),vs] func131 rfl ?_;have U:(i4 p).callOut s=if s.name=e0 then((i4 p).slotsOut (c:Int)).filter λn=>!decide (n=U2)else(i4 p).slotsOut (c:Int):=by
  have e:(i4 p).s.pr s.proc=(c:Int):=G.pr;unfold Bk.callOut;rw[e]
 have B:((i4 p).slotsOut (c:Int)).length<=1000000:=by
  have j:(i4 p).slotsOut (c:Int)=W8 (H6 (K8 p) (c:Int)++[U2]):=rfl;have:=((aF2 O.may).row G.lt).2.2;rw[j,X8,ef4,ei6];omega
 obtain⟨d,o,J,Q,A⟩:=au2 hv (n7 _);obtain⟨Y,P,_,S⟩:=A.st_v;obtain⟨_,_,_,_,_,_,_,_,_,R,_⟩:=A.st;have k:=Q.trans (o6.drew o);have X:∀K f d v,F7 prog (λm=>o6 o.drew m) (Instr.loadAt 87 (.pointer (some ⟨z,0,none⟩))) K f d v=K (C9 f d (.pointer (some a))) v:=λK f d v=>C0 (w0:=o.drew) (o8.refl _) λm h=>E7 (i:=0) (((k.trans h).block z (ef5.1 hb).1 id).trans hb) M aF9;have Z:=S (λm=>o6 o.drew m) o.drew (o8.refl _) λm h=>b7 ((o6.drew o).trans h);simp only[i5,n9,simprocAttr,J];refine B9 (λm=>o6 o.drew m) 15 (A5 [0,1,2,3,4,5,6,7,8,9,10,11,12,13,14]) ?_;simp only[D0,A5,i5,n9,simprocAttr,X,Z];refine B2 (aw9 a (i4 p) p Y s o.drew (V.mono (b7 k)) rfl O.may (P.mono (b7 (o6.drew o)))) (λw2 q=>⟨q,?_⟩);rw[G.pr];have g:=k.trans q;simp only[D0,i5,simprocAttr];refine t8 (bM7 a p c w2 (V.mono (b7 g)) O hw G.lt) ?_;rintro _ w3 ⟨x,F,rfl,D,t,r,l⟩;refine⟨q.trans l,?_⟩;have E:=g.trans l;have W:=R w3 (b7 ((o6.drew o).trans (q.trans l)));rcases ef2 (decide (s.name=ofA #[]))with j|j
 .simp only[D0,i5,n9,simprocAttr,W,j];have H:s.name=e0:=ef3 j;refine t8 (db0 t B (b7 l)) ?_;rintro u4 w4 ⟨N,C,L⟩;simp only[i5,simprocAttr];refine W7 results131 ?_;simp only[B3,simprocAttr];rw[U,if_pos H];exact⟨x,u4,by trivial,(D.mod C λb j I=>r b j I).back g,N.back g,λb j I=>r b j (L b I),g.trans (t.ext2 l C)⟩
 .simp only[D0,i5,n9,simprocAttr,W,j];have H:s.name≠e0:=ef7 j;refine W7 results131 ?_;simp only[B3,simprocAttr];rw[U,if_neg H];exact⟨x,F,by trivial,D.back g,t.back g,r,E⟩
def ce9(a:Addr)(i:Int)(q:A9)(b c d e:Value):B6 prog 195 [(0,.pointer (some a)),(1,.int .i64 i),(2,.agg #[p6 q,b,c,d,e])]=some (.agg (K1 a i q b c d e (.slice none 0 0) (.slice none 0 0))):=by
 unfold K1;simp[B6,dH4,J9,Instr.fill,Value.cells,p6]
def PV.new{w d:World}(a:Addr)(i:Int)(q:A9)(f g j k:Value)(l:o6 (w.alloc (.cells (K1 a i q f g j k (.slice none 0 0) (.slice none 0 0)) 195)) d):
  PV (C1 d (nP w.heap.size (.slice none 0 0))) w d w.heap.size a i q f g j k (.slice none 0 0) []/\PE (C1 d (nP w.heap.size (.slice none 0 0))) w d w.heap.size a i q f g j k (.slice none 0 0) []:=by
 have c:o6 w d:=(o6.alloc _ _).trans l;have e:d.heap[w.heap.size]?=some (.cells (K1 a i q f g j k (.slice none 0 0) (.slice none 0 0)) 195 (0,0)):=(l.block _ (by simp) id).trans (ej0 w _);exact⟨⟨c,eg6 _,e,B0.nil _ _ _,B0.nil _ _ _,λb h=>absurd h D5,λb h=>absurd h D5,λb h=>h.elim,λb h=>h.elim,c.size,n7 _⟩,
  ⟨c,eg6 _,e,B0.nil _ _ _,B0.nil _ _ _,λb h=>absurd h D5,λb h=>absurd h D5,λb h=>h.elim,λb h=>h.elim,c.size,n7 _⟩⟩
def cH7{w a:World}(d:o6 w a):B8 (m8 w) (C1 a (nP w.heap.size (.slice none 0 0))):=aT6 d λb c=>by
 rcases c with h|h|h|h
 .rw[h];exact eg6 _
 .exact absurd h D5
 .exact absurd h D5
 .exact h.elim
def dg2{w c d:World}(f:w.heap.size<c.heap.size){α:Type}[M5 α]{T:TypeId}{u:Value}{l:List α}(a:B0 (m8 c) d T u l):R (C1 d (nP w.heap.size (.slice none 0 0))) u l:=
 a.flatR λb e=>E4 λh=>by
  have:=D1 (a.free e);rcases h with h|h|h|h
  .omega
  .exact absurd h D5
  .exact absurd h D5
  .exact h.elim
def ar6{p:Pg}(b:D3 p)(hw:B7 p<=1000000){i:Nat}(a:i<p.procs.length):((i4 p).slotsIn (i:Int)).length<=33:=by
 have c:=((aT7 b hw).row a).2.2;have d:=T9 b.may a;unfold Bk.slotsIn;rw[M3 a,X8,ef4,eg5];have e:(i4 p).ins=af9 p:=rfl;rw[e];omega
def aK6{p:Pg}(b:D3 p){i:Nat}(a:i<p.procs.length):((i4 p).slotsOut (i:Int)).length<=26:=by
 have c:=((aF2 b.may).row a).2.2;have e:(i4 p).slotsOut (i:Int)=W8 (H6 (K8 p) (i:Int)++[U2]):=rfl;rw[e,X8,ef4,ei6];omega
def bq6{p:Pg}(d:D3 p){s:St}{c:Nat}(b:aC0 p s c):((i4 p).callOut s).length<=26:=by
 have a:=aK6 d b.lt;have e:(i4 p).s.pr s.proc=(c:Int):=b.pr;unfold Bk.callOut;rw[e];split
 .exact ef9 (eh9 _ _) a
 .exact a
def Z4(p:Pg)(q:A9)(it:It):List Vx:=[⟨q,2,it.s.id,e0⟩]++if it.s.kind=4 then(((i4 p).slotsIn ((i4 p).s.pr it.s.proc)).map λn=>(⟨q,5,it.s.id,n⟩:Vx))++((i4 p).callOut it.s).map λn=>(⟨q,6,it.s.id,n⟩:Vx)else[]
def bv9{p:Pg}(d:D3 p)(hw:B7 p<=1000000)(q:A9){it:It}(b:it∈(d9 p).l):(Z4 p q it).length<=100:=by
 unfold Z4;rw[ef4,ei6];split
 .rename_i f;obtain⟨c,a⟩:=Y6 (d.fits it b f);have e:(i4 p).s.pr it.s.proc=(c:Int):=a.pr;have g:=ar6 d hw a.lt;have h:=bq6 d a;rw[e,ef4,eg5,eg5];omega
 .simp
def dh0{p:Pg}{i x y:Nat}(b:as2 p i x y){it:It}(a:it∈(d9 p).of i):it∈(d9 p).l:=by
 rw[b.ok.of_]at a;exact em8 (er4 a)
def bd1(a:Addr)(p:Pg)(i:Nat)(w:World)(ha:At (m8 w) a (i4 p))(T:D3 p)(hw:B7 p<=1000000)(hi:i<p.procs.length):
  o9 prog 76 #[.pointer (some a),.int .i64 i] w λu j=>(B0 (m8 w) j 26 u ((i4 p).verts (i:Int))/\o6 w j):=by
 refine p9 [.pointer (some a),.int .i64 i] func76 rfl ?_;obtain⟨il,aJ,ae⟩:=dA1;obtain⟨x,pt⟩:=I1 T.may hw i hi;have bP:=H7 T.may;obtain⟨sh,vw,vd,_,vi,vo,has,b4,b0,_,b2,b3,aZ,cb⟩:=ha.book rfl;obtain⟨_,_,_,_,_,_,aO,_,_⟩:=has.sh;rw[K5]at aO;obtain⟨vg,vp,b1,aS,bA,cc⟩:=aO.pg;have lb:=aZ w (n7 _);have lp:=bA w (n7 _);have hF:(i4 p).vert0 (i:Int)=([⟨p.procs[i].name,1,0,e0⟩]++((i4 p).slotsIn (i:Int)).map λn=>(⟨p.procs[i].name,3,0,n⟩:Vx))++(((i4 p).slotsOut (i:Int)).map λn=>(⟨p.procs[i].name,4,0,n⟩:Vx))++((d9 p).of i).flatMap (Z4 p p.procs[i].name):=by
  unfold Bk.vert0;rw[M3 hi];rfl
 have bX:=ar6 T hw hi;have bY:=aK6 T hi;have ak:∀it∈(d9 p).of i,(Z4 p p.procs[i].name it).length<=100:=λit am=>bv9 T hw _ (dh0 pt am);have hV:∀it,Z4 p p.procs[i].name it=[⟨p.procs[i].name,2,it.s.id,e0⟩]++if it.s.kind=4 then(((i4 p).slotsIn ((i4 p).s.pr it.s.proc)).map λn=>(⟨p.procs[i].name,5,it.s.id,n⟩:Vx))++((i4 p).callOut it.s).map λn=>(⟨p.procs[i].name,6,it.s.id,n⟩:Vx)else[]:=λit=>rfl;have I:∀it∈(d9 p).of i,it.s.kind=4->∃c,aC0 p it.s c:=λit am h4=>Y6 (T.fits it (dh0 pt am) h4);have an:((d9 p).of i).length<=200:=by
  rw[pt.ok.of_,el6,eg0];omega
 have X:=aS.inS hi;obtain⟨sv,Q,s⟩:=F5 (P:=prog) (t:=75) aS (n7 _) (ef1 hi) at8 at9 ar9 Q9;rw[Q9]at s;obtain⟨cs,rfl,E,F,G,H,rfl,_⟩:=Q;generalize p.procs[i].name=q at hF hV ak s;have bm:(Instr.box 195 (.agg (K1 a i q E F G H (.slice none 0 0) (.slice none 0 0)))).run prog w = .ok (.pointer (some ⟨w.heap.size,0,none⟩)) (w.alloc (.cells (K1 a i q E F G H (.slice none 0 0) (.slice none 0 0)) 195)):=rfl;simp only[i5,n9,y4,simprocAttr,lb,lp,X,s,ce9 a (i:Int) q E F G H,bm];have ax:=o6.alloc w (.cells (K1 a i q E F G H (.slice none 0 0) (.slice none 0 0)) 195);have R:w.heap.size<(w.alloc (.cells (K1 a i q E F G H (.slice none 0 0) (.slice none 0 0)) 195)).heap.size:=by simp
 generalize bv:w.alloc (.cells (K1 a i q E F G H (.slice none 0 0) (.slice none 0 0)) 195)=w1 at ax R;refine t8 (bM7 a p i w1 (ha.mono (b7 ax)) T hw hi) ?_;rintro _ w2 ⟨ui,uo,rfl,br,bs,bW,aw⟩;have aT:=ax.trans aw;rw[<-bv]at aw;have s2:=(PV.new a i q E F G H aw).1;have aq:=dg2 R br;have ar:=dg2 R bs;have g:=cH7 aT;generalize bZ:w.heap.size=m at s2 aq ar g;generalize bV:C1 w2 (nP m (.slice none 0 0))=H0 at s2 aq ar g;have s3:=s2.more (o6.drew w2);have aH:∀j,o8 (λ_=>False) w2.drew j->j.heap[m]?=some (.cells (K1 a i q E F G H (.slice none 0 0) (.slice none 0 0)) 195 (0,0)):=λj hm=>(hm.block m (ef5.1 s3.cb).1 id).trans s3.cb;have k7:∀K f d D,F7 prog (λj=>o8 (λ_=>False) w2.drew j) (Instr.loadAt 22 (.pointer (some ⟨m,7,none⟩))) K f d D=K (C9 f d (.slice none 0 0)) D:=λK f d D=>C0 (w0:=w2.drew) (o8.refl _) λj h=>E7 (i:=7) (u:=.slice none 0 0) (aH j h) rfl ab9;simp only[i5,simprocAttr];refine B9 (λj=>o8 (λ_=>False) w2.drew j) 9 (A5 [0,1,2,3,4,5,6,7,8]) ?_;have bt:Value.string {data:=#[]}=p6 e0:=rfl;simp only[D0,A5,i5,n9,simprocAttr,k7,bt];refine t8 (L0 m _ _ q 1 0 e0 w2.drew s3.cb rfl) ?_;rintro _ w3 ⟨rfl,Z⟩;refine⟨Z,?_⟩;have s4:=s3.more Z;obtain⟨p1,v5,w4,w5,p2,p3,s5,p4⟩:=s4.push (P:=prog) (e:=22) at7 rfl (x:=.agg (p8.cells (⟨q,1,0,e0⟩:Vx)).toArray) (y:=⟨q,1,0,e0⟩) ((p8.iff_ _ _ _).2 rfl) (by simp) (by simp) (ix:=7) (by simp[K1]) (λv v'=>by simp[K1]) aJ ae;have bF:o8 (λ_=>False) w3 w4:=p4.weaken λb _ V=>D5 V;simp only[D0,i5,n9,simprocAttr,p1,p2,F2];refine⟨Z.trans (o6.alloc _ _),Z.trans bF,?_⟩;simp only[i5,simprocAttr,p3];simp only[ep1]at s5;have aQ:=A3.mono s5.base aq;refine t8 (aU6 H0 m a i q E F G H v5 _ 3 0 ui _ w w5 s5 aQ (by rw[ei6];omega)) ?_;rintro r6 w6 ⟨v6,s6⟩;have s6:=s6.rebase (p7 s5.base s6.base);have aR:=A3.mono s6.base ar;simp only[i5,simprocAttr];refine t8 (aU6 H0 m a i q E F G H v6 _ 4 0 uo _ w w6 s6 aR (by rw[ef4,ei6,eg5];omega)) ?_;rintro r7 w7 ⟨v7,s7⟩;have s7:=s7.rebase (p7 s6.base s7.base);have aG:B8 (m8 w) (m8 w7):=p7 g s7.hb;simp only[i5,n9,simprocAttr,aZ w7 aG];refine t8 (aF6 (m8 w) sh (d9 p) i x _ w7 has aG pt.ok) ?_;rintro ul w8 ⟨S,bw⟩;have s8:=s7.more bw;have ao:(([(⟨q,1,0,e0⟩:Vx)]++((i4 p).slotsIn (i:Int)).map λn=>(⟨q,3,0,n⟩:Vx))++(((i4 p).slotsOut (i:Int)).map λn=>(⟨q,4,0,n⟩:Vx))).length<=60:=by
  rw[ef4,ef4,ei6,eg5,eg5];omega
 generalize(([(⟨q,1,0,e0⟩:Vx)]++((i4 p).slotsIn (i:Int)).map λn=>(⟨q,3,0,n⟩:Vx))++(((i4 p).slotsOut (i:Int)).map λn=>(⟨q,4,0,n⟩:Vx)))=pre at s8 hF ao;generalize(d9 p).of i=L at S hF ak I an;have bi:=S.isS;have bq:=S.vlen;clear s2 s3 s4 s5 s6 s7 aH k7;simp only[i5,n9,simprocAttr,bi,bq];refine A6 [0,1,5,53,54] (σ:=Nat×Value) (λt f j=>f 55 = .int .i64 t.1/\t.1<=L.length/\PV H0 w j m a i q E F G H t.2 (pre++(L.take t.1).flatMap (Z4 p q))) (λt=>L.length-t.1) (0,v7) ?_ ?_
 .exact⟨rfl,eg3 _,by simpa using s8⟩
 clear s8;rintro⟨k,v⟩ f w9 ⟨bU,e1,e5,be,bf,_⟩ ⟨N,bp,C⟩;simp only at N bp C;have aP:(pre++(L.take k).flatMap (Z4 p q)).length<=30000:=by
  rw[ef4];have h1:=P4 (Z4 p q) 100 (L.take k) λz hz=>ak z (em8 hz);rw[eg0]at h1;have h2:min k L.length<=200:=by omega
  omega
 have bl:B8 (m8 w) (m8 w9):=p7 g C.hb;simp only[i5,n9,simprocAttr,N,bf];refine y5 (λY=>?_) ?_;rotate_left
 .rintro rfl;rw[eg4]at C aP;have l7:(Instr.loadAt 22 (.pointer (some ⟨m,7,none⟩))).run prog w9 = .ok v w9:=E7 (i:=7) (u:=v) C.cb rfl ab9;simp only[i5,n9,simprocAttr,e5,l7];refine t8 (cA1 C.ox (by omega) λa _ b _ h1 h2=>aG2 (aX0.eq0 h1 h2)) ?_;rintro _ l ⟨aL,af⟩;have bz:(Instr.loadAt 22 (.pointer (some ⟨m,7,none⟩))).run prog l = .ok v l:=E7 (i:=7) (u:=v) ((af.block m (ef5.1 C.cb).1 λh=>(C.dx m h).2.1 rfl).trans C.cb) rfl ab9;simp only[i5,n9,simprocAttr,e5,bz];refine o7 results76 ⟨?_,o8.ext_of C.ext af λb V=>(C.dx b V).1⟩;have e:(i4 p).verts (i:Int)=Y4 cW0 (pre++L.flatMap (Z4 p q)):=by unfold Bk.verts;rw[hF]
  rw[e];exact aL.downN (p7 g C.base)
 have ap:=I9 (Z4 p q) L Y;have aK:=eg2 Y;clear X s;have X:=S.inS Y;obtain⟨sv,Q,s⟩:=F5 (P:=prog) (t:=150) S (bl) (ef1 Y) aa7 aa9 Z3 J3;rw[J3]at s;have r:=hV L[k];have aI:=I _ aK;generalize L[k]=it at Q ap r aI;generalize aW:pre++(L.take k).flatMap (Z4 p q)=ys at C aP;obtain⟨d,wz,l,bk,bu,aU,ab⟩:=aV9 (w:=w9) (nP m v) Q λb V=>C.lt V;have M:=C.more aU;have U:=M.base;have M:=M.rebase (n7 _);generalize hK:C1 l (nP m v)=K at M U ab;obtain⟨us,av,ac,_,_⟩:=I6.it Q ab;obtain⟨_,_,_,_,_,_,_,_,_,_,_,ay,bH⟩:=I6.st av ac;have bB:=(I6.st_v av ac).1;have B:=M.more (o6.drew l);have O:∀j,o8 (A0 v) l.drew j->j.heap[m]?=some (.cells (K1 a i q E F G H v (.slice none 0 0)) 195 (0,0)):=λj hm=>(hm.block m (ef5.1 B.cb).1 λh=>(B.dx m h).2.1 rfl).trans B.cb;have k7:∀K f d D,F7 prog (λj=>o8 (A0 v) l.drew j) (Instr.loadAt 22 (.pointer (some ⟨m,7,none⟩))) K f d D=K (C9 f d v) D:=λK f d D=>C0 (w0:=l.drew) (o8.refl _) λj h=>E7 (i:=7) (u:=v) (O j h) rfl ab9;have t1:=bH (λj=>o8 (A0 v) l.drew j) l.drew (o8.refl _) λj h=>p7 B.base (p7 (K0 h (λb V=>.inr (.inl V)) λb V=>.inl V) (A8 _ _));simp only[i5,n9,y4,simprocAttr,N,be,X,s,bk,bu];refine B9 (λj=>o8 (A0 v) l.drew j) 12 (A5 [0,1,2,3,4,5,6,7,8,9,10,11]) ?_;simp only[D0,A5,i5,n9,simprocAttr,e5,k7,t1];refine t8 (L0 m _ _ q 2 it.s.id e0 l.drew B.cb rfl) ?_;rintro _ cl ⟨rfl,J⟩;refine⟨o8.up J,?_⟩;have a0:=B.more J;obtain⟨p1,v',cm,aa,p2,p3,o,p4⟩:=a0.push (P:=prog) (e:=22) at7 rfl (x:=.agg (p8.cells (⟨q,2,it.s.id,e0⟩:Vx)).toArray) (y:=⟨q,2,it.s.id,e0⟩) ((p8.iff_ _ _ _).2 rfl) (by omega) (by omega) (ix:=7) (by simp[K1]) (λv v'=>by simp[K1]) aJ ae;simp only[D0,i5,n9,simprocAttr,p1,p2,F2];refine⟨(o8.up J).trans (o8.up (o6.alloc _ _)),(o8.up J).trans p4,?_⟩;have aY:=ay aa o.hb;have ad:B8 (m8 w) (m8 aa):=p7 g (p7 U o.hb);have b5:(ys++[(⟨q,2,it.s.id,e0⟩:Vx)]).length<=30001:=by rw[ef4,ei6];omega
 clear C M B a0 k7 O t1;rcases ef2 (decide (it.s.kind=4))with h4|h4
 .have e4:=ef3 h4;obtain⟨c,W⟩:=aI e4;have bg:(i4 p).s.pr it.s.proc=(c:Int):=W.pr;have bn:=ar6 T hw W.lt;have bo:=bq6 T W;rw[if_pos e4,bg]at r;simp only[i5,n9,simprocAttr,e5,p3,aY,h4,bB aa o.hb];refine t8 (cU6 m _ _ a p us it.s c aa o.cb rfl (ha.mono ad) T hw (av.mono ad) W) ?_;rintro _ a4 ⟨bI,bJ,rfl,aM,aN,bR,aV⟩;have az:=o.more aV;have ag:=o.fresh aM;have ah:=o.fresh aN;have bx:=ay a4 az.hb;generalize(i4 p).slotsIn (c:Int)=Si at r bn ag;generalize(i4 p).callOut it.s=So at r bo ah;simp only[i5,n9,simprocAttr,e5,bx];refine t8 (aU6 K m a i q E F G H v' _ 5 it.s.id bI Si w a4 az ag (by omega)) ?_;rintro _ a5 ⟨bK,aA⟩;have au:=A3.mono aA.base ah;have aF:=p7 az.base aA.base;simp only[i5,n9,simprocAttr,e5,ay a5 (p7 aF (A8 _ _))];refine t8 (aU6 _ m a i q E F G H bK _ 6 it.s.id bJ So w a5 aA au (by rw[ef4,eg5];omega)) ?_;rintro _ cn ⟨bL,a1⟩;have A:pre++(L.take (k+1)).flatMap (Z4 p q)=ys++[(⟨q,2,it.s.id,Go.Proofs.YtggahhenbbgffaaGreat.e0⟩:Vx)]++(Si.map λn=>(⟨q,5,it.s.id,n⟩:Vx))++So.map λn=>(⟨q,6,it.s.id,n⟩:Vx):=by
   rw[ap,r,<-aW];simp only[ei0]
  simp only[i5,n9,simprocAttr,N];refine T4 (k+1,bL) ?_;simp only[];rw[A];exact a1.rebase (p7 U (p7 aF a1.base))
 .have e4:=ef7 h4;rw[if_neg e4,ei5]at r;have A:pre++(L.take (k+1)).flatMap (Z4 p q)=ys++[(⟨q,2,it.s.id,Go.Proofs.YtggahhenbbgffaaGreat.e0⟩:Vx)]:=by
   rw[ap,r,<-aW];simp only[ei0]
  simp only[i5,n9,simprocAttr,p3,aY,h4,N];refine T4 (k+1,v') ?_;simp only[];rw[A];exact o.rebase (p7 U o.base)
section
variable {p:Pg} {i:Nat}
def Mid(p:Pg)(a:Int):Prop:=∃j:Nat,a=(j:Int)+1/\j<(d9 p).l.length
def br8(w:D3 p)(hw:B7 p<=1000000)(r:i<p.procs.length){f:Fw}(l:f∈(i4 p).flows (i:Int)):(f.src=0\/Mid p f.src)/\(f.dst = -1\/Mid p f.dst):=by
 obtain⟨x,y⟩:=I1 w.may hw i r;have d:=O8 y;have z:=d.n;have l:f∈(i4 p).flow0 (i:Int):=(G1 _ _).mem_iff.1 l;rw[aU1]at l;obtain⟨n,l⟩:=l;rw[ad8]at l;obtain⟨a,c,b,u,m,_,rfl⟩:=l;have o:=aj9 _ _ _ a b;have b:=(eh8.1 b).2;rw[eg7]at b m;unfold Bk.gives at b;unfold Bk.takes at m;simp only[L9 r]at b m o u ⊢;have e:∀k:Nat,k≠0->(k:Int)<(D7 (d9 p) i).n-1->Mid p ((D7 (d9 p) i).place (k:Int)):=λk g v=>by
  obtain⟨q,_,s,t,_⟩:=an9 d g v;exact⟨q,t,s⟩
 constructor
 .by_cases g:(a:Int)=0
  .left;rw[d.toWyOk.place,if_pos g]
  .right;rw[if_neg g]at b;split at b
   .simp at b
   .rename_i j;have:¬(a:Int)=(D7 (d9 p) i).n-1:=λh=>j (.inl h);exact e a (by omega) (by omega)
 .by_cases g:(c:Int)=(D7 (d9 p) i).n-1
  .left;rw[d.toWyOk.place,if_neg (by omega),if_pos g]
  .right;rw[if_neg g]at m;split at m
   .simp at m
   .rename_i j;have:¬(c:Int)=0:=λh=>j (.inl h);exact e c (by omega) (by omega)
def bT9(b:D3 p)(hw:B7 p<=1000000)(d:i<p.procs.length):∃M:Nat,(D7 (d9 p) i).n=(M:Int)/\M<=202:=by
 obtain⟨x,c⟩:=I1 b.may hw i d;have e:=(O8 c).n;have a:=c.ok.len;have:=H7 b.may;exact⟨(D7 (d9 p) i).n.toNat,by omega,by omega⟩
def bP1(g:D3 p)(hw:B7 p<=1000000)(d:i<p.procs.length):((i4 p).flows (i:Int)).length<=5000000:=by
 obtain⟨M,f,b⟩:=bT9 g hw d;have e:((i4 p).flows (i:Int)).length=((i4 p).flow0 (i:Int)).length:=(G1 bL8 _).length_eq;rw[e];unfold Bk.flow0;rw[L9 d,f,eh6];refine ef9 (P4 _ 20200 _ λa c=>?_) ?_
 .have c:=ej7.1 c;have h:=(aZ8 g hw d (k:=a) (by rw[f];exact Int.ofNat_lt.2 c)).2;refine ef9 (P4 _ 202 _ λn j=>?_) ?_
  .rw[eg5];refine ef9 (eh9 _ _) ?_;rw[ek6];exact b
  .omega
 .rw[ek6];omega
def bb9(h:D3 p)(hw:B7 p<=1000000){q:A9}{e:Int}{n:A9}(d:e = -1\/Mid p e):((i4 p).takers q e n).length<=9:=by
 unfold Bk.takers;split
 .simp
 .rename_i i;obtain⟨j,rfl,g⟩:=d.resolve_left i;have k:(i4 p).s=d9 p:=rfl;have a:(d9 p).it ((j:Int)+1)=(d9 p).l[j]:=by
   unfold Sh.it;rw[show((j:Int)+1-1).toNat=j by omega,List.getD,ef1 g];rfl
  split
  .simp
  .rename_i b;rw[k,a]at b ⊢;have b:((d9 p).l[j]).s.kind=4:=by simpa using b
   obtain⟨c,f⟩:=Y6 (h.fits _ (eg2 g) b);have m:=T9 h.may f.lt;have o:=f.len;rw[ef4,eg5];have l:((((d9 p).l[j]).s.args.zip ((i4 p).callee ((d9 p).l[j]).s).params).filter λx=>(ab8 x.1).contains n).length<=8:=by
    refine ef9 (eh9 _ _) ?_;rw[List.length_zip];omega
   split<;>simp only[ei6,em2]<;>omega
def br0(e:D3 p)(hw:B7 p<=1000000)(d:i<p.procs.length):((D7 (d9 p) i).decides).length<=41000:=by
 obtain⟨M,c,b⟩:=bT9 e hw d;rw[aH5 c];refine ef9 (P4 _ 202 _ λa f=>?_) ?_
 .rw[eg5];refine ef9 (eh9 _ _) ?_;rw[ek6];exact b
 .rw[ek6];omega
def aW0(a:D3 p)(hw:B7 p<=1000000)(b:i<p.procs.length):((i4 p).verts (i:Int)).length<=30000:=by
 obtain⟨x,f⟩:=I1 a.may hw i b;have d:=H7 a.may;have e:((i4 p).verts (i:Int)).length=((i4 p).vert0 (i:Int)).length:=(G1 cW0 _).length_eq;have h:=ar6 a hw b;have j:=aK6 a b;have k:(((d9 p).of i).flatMap (Z4 p p.procs[i].name)).length<=((d9 p).of i).length*100:=P4 _ 100 _ λit c=>bv9 a hw _ (dh0 f c);have l:((d9 p).of i).length<=200:=by
  rw[f.ok.of_,el6,eg0];omega
 have g:(i4 p).vert0 (i:Int)=([(⟨p.procs[i].name,1,0,e0⟩:Vx)]++((i4 p).slotsIn (i:Int)).map λn=>(⟨p.procs[i].name,3,0,n⟩:Vx))++(((i4 p).slotsOut (i:Int)).map λn=>(⟨p.procs[i].name,4,0,n⟩:Vx))++((d9 p).of i).flatMap (Z4 p p.procs[i].name):=by
  unfold Bk.vert0;rw[M3 b];rfl
 rw[e,g];simp only[ef4,ei6,eg5];omega
end
def cA2(vs:Value)(b:Ar)(w:World)(hv:SV (m8 w) vs b)(o:Y0 b.x<=1000000):
  o9 prog 192 #[vs] w λu n=>(B0 (m8 w) n 9 u (ab8 b)/\o6 w n):=by
 refine p9 [vs] func192 rfl ?_;obtain⟨d,g,e,a,h⟩:=dq3 hv (n7 _);obtain⟨c,k,_⟩:=h.ar;obtain⟨t,i,l,_⟩:=c.ex_v;have f:=k g (n7 _);have m:=l g (n7 _);unfold ab8;cases hr:b.ref
 .rw[hr]at f;simp only[i5,n9,simprocAttr,e,f,m];refine t8 (ax1 t b.x g i o) ?_;rintro u v ⟨p,j⟩;simp only[i5,simprocAttr];exact o7 results192 ⟨p.back a,a.trans j⟩
 .rw[hr]at f;obtain⟨u,v,q,r,s,_⟩:=cH1 b.name g (b7 a);simp only[i5,n9,simprocAttr,e,f,q];exact o7 results192 ⟨r,a.trans s⟩
def di6(w:World):∃h,(Instr.alloc 26 true (.tuple #[])).run prog w = .ok (.pointer (some ⟨w.heap.size,0,none⟩)) h/\o6 w h/\∀(e:World) (y:Vx),o6 h e ->
  ∃a,(Instr.storeAt 26 (.pointer (some ⟨w.heap.size,0,none⟩)) (.agg (p8.cells y).toArray)).run prog e = .ok () a/\(Instr.loadAt 26 (.pointer (some ⟨w.heap.size,0,none⟩))).run prog a = .ok (.agg (p8.cells y).toArray) a/\o6 w a:=by
 obtain⟨z,j,d⟩:∃z,H3 prog 26=some z/\z.cells.size=N0 prog 26:=⟨_,aS3,by rw[N6];rfl⟩;have c:∀y:Vx,(p8.cells y).toArray.size=N0 prog 26:=λy=>by rw[N6];rfl
 have n:=(aA5 (P:=prog) (w:=w) (T:=26) j d (cs:=(p8.cells (⟨e0,0,0,e0⟩:Vx)).toArray) (c _) (λu g=>U5 _ u (by simpa using g))).1;refine⟨_,n,o6.alloc _ _,λe y i=>?_⟩;have f:e.heap[w.heap.size]?=some (.cells z.cells 26 (0,0)):=(i.block _ (by simp) id).trans (ej0 w _);obtain⟨a,k,l,m⟩:=ab4 (P:=prog) (T:=26) f j d (c y) (λu g=>U5 y u (by simpa using g));exact⟨a,k,Y5 l ar8 as0 am4 (c y).symm,o8.ext_of ((o6.alloc _ _).trans i) m λb f=>by rw[f];exact eg6 _⟩
def bN8{p:Pg}{s:St}{c:Nat}(a:aC0 p s c):(i4 p).callee s=p.procs[c]'a.lt:=by
 have e:(i4 p).s.pr s.proc=(c:Int):=a.pr;unfold Bk.callee;rw[e,M3 a.lt]
def cQ1(H:Nat)(T:TypeId)(s:Array Value)(a:Addr)(p:Pg)(q:A9)(pl:Int)(n:A9)(w:World)(hb:w.heap[H]?=some (.cells s T (0,0)))(aE:s[0]?=some (.pointer (some a)))(N:s[2]?=some (p6 q))(ha:At (m8 w) a (i4 p))(hr:D3 p)(hw:B7 p<=1000000)
  (a3:pl=0\/∃j:Nat,pl=(j:Int)+1/\j<(d9 p).l.length) :
  o9 prog 137 #[.pointer (some ⟨H,0,none⟩),.int .i64 pl,p6 n] w λu e=>(u = .agg (p8.cells ((i4 p).giver q pl n)).toArray/\o6 w e):=by
 refine p9 [.pointer (some ⟨H,0,none⟩),.int .i64 pl,p6 n] func137 rfl ?_;obtain⟨w0,X,af,A⟩:=di6 w;have l:∀e,o6 w e->e.heap[H]?=some (.cells s T (0,0)):=λe hx=>(hx.block H (ef5.1 hb).1 id).trans hb;have a4:Value.string {data:=#[]}=p6 e0:=rfl;have a5:Value.string {data:=#[36,114,101,116]}=p6 U2:=rfl;rcases ef2 (decide (pl=0))with h0|h0
 .have aW:=ef3 h0;simp only[i5,n9,simprocAttr,X,h0];refine B2 (L0 H T s q 3 0 n w0 (l w0 af) N) (λw1 D=>?_);obtain⟨w2,q1,q2,o⟩:=A w1 ⟨q,3,0,n⟩ D;simp only[i5,simprocAttr,q1];refine N9 results137 (ad:=⟨w.heap.size,0,none⟩) (by simp only[B3,simprocAttr]) q2 ?_;refine⟨?_,o⟩;unfold Bk.giver;rw[if_pos aW]
 have aK:=ef7 h0;obtain⟨j,rfl,Z⟩:∃j:Nat,pl=(j:Int)+1/\j<(d9 p).l.length:=by
  rcases a3 with h|h
  .exact absurd h aK
  .exact h
 have bp:=H7 hr.may;obtain⟨sh,vw,vd,_,vi,vo,has,bD,bz,_,bB,bC,bc,bh⟩:=ha.book rfl;obtain⟨vl,_,_,aO,_,_,aL,bf,_⟩:=has.sh;rw[K5]at aL;obtain⟨vg,vp,bA,aP,bG,bi⟩:=aL.pg;have F:=b7 af;have av:=bc w0 F;have aw:=bf w0 F;have k0:(Instr.loadAt 87 (.pointer (some ⟨H,0,none⟩))).run prog w0 = .ok (.pointer (some a)) w0:=E7 (i:=0) (l w0 af) aE aF9;have au:IntKind.i64.wrap ((j:Int)+1-1)=(j:Int):=by rw[M2 _ (by omega)];omega
 have Q:=aO.inS (k:=j) Z;have L:=aO.at_ (i:=j) (x:=(d9 p).l[j]) (ef1 Z);have aQ:A3.sz It=17:=rfl;rw[aQ]at L;have O:=hr.fits _ (eg2 Z);have aG:(d9 p).it ((j:Int)+1)=(d9 p).l[j]:=by
  unfold Sh.it;rw[show((j:Int)+1-1).toNat=j by omega,List.getD,ef1 Z];rfl
 have y:(i4 p).giver q ((j:Int)+1) n=if((d9 p).l[j]).s.kind≠4 then⟨q,2,(j:Int)+1,e0⟩else if((d9 p).l[j]).s.name=n then⟨q,6,(j:Int)+1,U2⟩
   else match(((d9 p).l[j]).s.args.zip ((i4 p).callee ((d9 p).l[j]).s).params).find? λx=>x.1.ref&&decide (x.1.name=n)with
    | some x=>⟨q,6,(j:Int)+1,x.2.name⟩
    | none=>⟨q,6,(j:Int)+1,n⟩:=by
  have hs:(i4 p).s=d9 p:=rfl;unfold Bk.giver;rw[if_neg aK,hs,aG];rfl
 generalize(d9 p).l[j]=it at L O y;obtain⟨aD,_,_⟩:=L.it;obtain⟨sv,ac,bg,_⟩:=aD.st_v;have ax:=bg w0 F;obtain⟨d,wz,w1,I,R,D,aB⟩:=bj9 (ac.mono F) (n7 _);obtain⟨_,va,_,_,_,ae,_,_,_,bd,_⟩:=aB.st;obtain⟨bk,aN,_,aS⟩:=aB.st_v;have l1:=bd w1 (n7 _);have G:=af.trans D;rcases ef2 (decide (it.s.kind=4))with h4|h4;rotate_left
 .have e4:=ef7 h4;simp only[i5,n9,y4,simprocAttr,X,h0,k0,av,aw,au,Q,ax,I,R,l1,h4,a4];refine B2 (L0 H T s q 2 ((j:Int)+1) e0 w1 (l w1 G) N) (λw2 o=>?_);obtain⟨g,q1,q2,E⟩:=A w2 ⟨q,2,(j:Int)+1,e0⟩ (D.trans o);simp only[i5,simprocAttr,q1];refine N9 results137 (ad:=⟨w.heap.size,0,none⟩) (by simp only[B3,simprocAttr]) q2 ?_;refine⟨?_,E⟩;rw[y,if_pos e4]
 have e4:=ef3 h4;rw[if_neg (by simpa using e4)]at y;rcases ef2 (decide (it.s.name=n))with h5|h5
 .have e5:=ef3 h5;simp only[i5,n9,y4,simprocAttr,X,h0,k0,av,aw,au,Q,ax,I,R,l1,h4,h5,a5];refine B2 (L0 H T s q 6 ((j:Int)+1) U2 w1 (l w1 G) N) (λw2 o=>?_);obtain⟨g,q1,q2,E⟩:=A w2 ⟨q,6,(j:Int)+1,U2⟩ (D.trans o);simp only[i5,simprocAttr,q1];refine N9 results137 (ad:=⟨w.heap.size,0,none⟩) (by simp only[B3,simprocAttr]) q2 ?_;refine⟨?_,E⟩;rw[y,if_pos e5]
 have e5:=ef7 h5;obtain⟨c,hc⟩:=Y6 (O e4);rw[if_neg e5,bN8 hc]at y;have aH:=hc.len;have aM:=T9 hr.may hc.lt;have ak:=aP.at_ (i:=c) (x:=p.procs[c]'hc.lt) (ef1 hc.lt);have aF:=aP.inS (k:=c) hc.lt;have a9:A3.sz Pr=5:=rfl;rw[a9]at ak;obtain⟨bM,_,_,_,U,_,_,_,_,bj⟩:=ak.pr;have a1:=hc.pr;generalize(p.procs[c]'hc.lt).params=pas at y aH aM U;simp only[i5,n9,y4,simprocAttr,X,h0,k0,av,aw,au,Q,ax,I,R,l1,h4,h5,ae.isS,ae.vlen];refine A6 [0,1,2,6,7,44,45] (σ:=Nat) (λk f e=>f 46 = .int .i64 k/\k<=it.s.args.length/\(∀m (hm:m<it.s.args.length),m<k->(it.s.args[m].ref&&decide (it.s.args[m].name=n))=false)/\o6 w1 e) (λk=>it.s.args.length-k) 0 ?_ ?_
 .exact⟨rfl,eg3 _,λm _ h=>by omega,o8.refl _⟩
 rintro k f w2 ⟨g0,g1,g2,g6,g7,ap,aZ,_⟩ ⟨W,bu,ab,o⟩;simp only[i5,n9,simprocAttr,W,aZ];refine y5 (λaI=>?_) ?_;rotate_left
 .rintro rfl;simp only[i5,simprocAttr,g0,g1,g2];refine B2 (L0 H T s q 6 ((j:Int)+1) n w2 (l w2 (G.trans o)) N) (λg E=>?_);obtain⟨w4,q1,q2,V⟩:=A g ⟨q,6,(j:Int)+1,n⟩ (D.trans (o.trans E));simp only[i5,simprocAttr,g6,q1];refine N9 results137 (ad:=⟨w.heap.size,0,none⟩) (by simp only[B3,simprocAttr];exact g6) q2 ?_;refine⟨?_,V⟩;rw[y,ep4.2 λz hz=>?_];obtain⟨m,hm⟩:=eo5.1 hz;rw[List.getElem?_zip_eq_some]at hm;obtain⟨aJ,a2⟩:=ef6.1 hm.1;have:=ab m aJ aJ;rw[a2]at this;simp[this]
 have aq:=ae.inS aI;obtain⟨sv,ac,aa⟩:=F5 (P:=prog) (t:=124) ae (b7 o) (ef1 aI) aS1 aS2 aL1 aa8;rw[aa8]at aa;have br:=ab;have B:∀(b:Bool),(it.s.args[k].ref&&decide (it.s.args[k].name=n))=b->(b=false->∀m (hm:m<it.s.args.length),m<k+1->(it.s.args[m].ref&&decide (it.s.args[m].name=n))=false):=λb hb a0 m hm bv=>by
  rcases ej6 m k with h|h
  .exact ab m hm h
  .obtain rfl:m=k:=by omega
   rw[hb,a0]
 have am:k<pas.length:=by omega
 have C:(it.s.args[k].ref&&decide (it.s.args[k].name=n))=true->(it.s.args.zip pas).find? (λx=>x.1.ref&&decide (x.1.name=n))=some (it.s.args[k],pas[k]):=λht=>by
  rw[ep0];refine⟨ht,k,by rw[List.length_zip];omega,by rw[List.getElem_zip],λm hm=>?_⟩;rw[List.getElem_zip];have:=ab m (by omega) hm;simp only[this];rfl
 have M:=U.at_ (i:=k) (x:=pas[k]) (ef1 am);have ar:=U.inS (k:=k) am;have a8:A3.sz Pa=2:=rfl;rw[a8]at M;obtain⟨_,an⟩:=M.pa;generalize pas[k]=pa at C an;generalize it.s.args[k]=ag at ac B C;obtain⟨d3,bO,g,J,S,E,aC⟩:=bj8 (ac.mono (b7 o)) (n7 _);obtain⟨_,be,_⟩:=aC.ar;have l3:=be g (n7 _);have r:=o.trans E;cases hrf:ag.ref
 .rw[hrf]at l3;simp only[i5,n9,y4,simprocAttr,W,ap,aq,aa,J,S,l3];exact T4 (k+1) ⟨B false (by rw[hrf];rfl) rfl,r⟩
 rw[hrf]at l3;rcases ef2 (decide (ag.name=n))with h6|h6;rotate_left
 .simp only[i5,n9,y4,simprocAttr,W,g2,ap,aq,aa,J,S,l3,h6];exact T4 (k+1) ⟨B false (by rw[hrf,h6];rfl) rfl,r⟩
 have v:=(G.trans r).trans (o6.drew g);have Y:∀e,o6 g.drew e->B8 (m8 w) (m8 e):=λe h=>b7 (v.trans h);have t0:∀K f d az,F7 prog (λe=>o6 g.drew e) (Instr.loadAt 87 (.pointer (some ⟨H,0,none⟩))) K f d az=K (C9 f d (.pointer (some a))) az:=λK f d az=>C0 (w0:=g.drew) (o8.refl _) λe h=>E7 (i:=0) (l e (v.trans h)) aE aF9;have t3:=bj (λe=>o6 g.drew e) g.drew (o8.refl _) Y;have t4:=an (λe=>o6 g.drew e) g.drew (o8.refl _) Y;have t5:=aS (λe=>o6 g.drew e) g.drew (o8.refl _) λe h=>b7 ((r.trans (o6.drew g)).trans h);simp only[i5,n9,y4,simprocAttr,W,g2,ap,aq,aa,J,S,l3,h6];refine B9 (λe=>o6 g.drew e) 26 (A5 [0,1,2,3,4,5,6,7,8,9,10,11,12,13,14,15,16,17,22,18,19,20,21,23,24,25]) ?_;simp only[D0,A5,i5,n9,simprocAttr,g0,g1,g7,t0,bh (λe=>o6 g.drew e) g.drew (o8.refl _) Y,bi (λe=>o6 g.drew e) g.drew (o8.refl _) Y,t5];refine B2 (aw9 a (i4 p) p bk it.s g.drew (ha.mono (b7 v)) rfl hr.may (aN.mono (b7 (r.trans (o6.drew g))))) (λw4 V=>⟨V,?_⟩);rw[a1];simp only[D0,i5,n9,y4,simprocAttr,t3,t4,aF,ar];refine B2 (L0 H T s q 6 ((j:Int)+1) pa.name w4 (l w4 (v.trans V)) N) (λw5 a6=>?_);obtain⟨w6,q1,q2,a7⟩:=A w5 ⟨q,6,(j:Int)+1,pa.name⟩ (D.trans (((r.trans (o6.drew g)).trans V).trans a6));simp only[i5,simprocAttr,g6,q1];refine N9 results137 (ad:=⟨w.heap.size,0,none⟩) (by simp only[B3,simprocAttr];exact g6) q2 ?_;refine⟨?_,a7⟩;rw[y,C (by rw[hrf,h6];rfl)]
def dA6(y:Vx)(w:World){h:Hp}(hw:B8 h (m8 w)):∃v a,(Instr.buildSlice 22 1 #[(0,.agg (p8.cells y).toArray)]).run prog w = .ok v a/\B0 h a 26 v [y]/\o6 w a/\(∀b,A0 v b->w.heap.size<=b):=
 lit (P:=prog) (w:=w) (h:=h) (α:=Vx) (xs:=[.agg (p8.cells y).toArray]) (ys:=[y]) (parts:=#[(0,.agg (p8.cells y).toArray)]) (n:=1) at7 rfl (ac2.2 rfl) (λx c=>by rw[eh2.1 c];rfl) rfl rfl (by simp) (by simp) hw
def di1{h:Hp}{w:World}{v:Value}{l:List Vx}(c:B0 h w 26 v l)(y:Vx)(d:l.length<=1000000)(hw:B8 h (m8 w)){e:TypeId}:
  (Instr.buildSlice 22 1 #[(0,.agg (p8.cells y).toArray)]).run prog w = .ok (.slice (some ⟨w.heap.size,0,none⟩) 1 1) (w.alloc (.cells (p8.cells y).toArray 26)) /\
  ∃a b,(Builtin.append_ #[22,22] e #[v,.slice (some ⟨w.heap.size,0,none⟩) 1 1]).run prog (w.alloc (.cells (p8.cells y).toArray 26)) = .ok a b/\B0 h b 26 a (l++[y])/\o8 (A0 v) w b/\E9 w v a:=by
 have:=push (P:=prog) (e:=e) at7 rfl c (x:=.agg (p8.cells y).toArray) (y:=y) ((p8.iff_ _ _ _).2 rfl) (by omega) (by omega) hw;exact this
def dy6(s:St):∀a∈s.args,Y0 a.x<=U1 s:=by
 cases s;intro a h;have:=aW2 h;unfold at0 at this;simp only[St.args]at this;simp only[U1];omega
def cA7(E:Nat)(T:TypeId)(v:Array Value)(a:Addr)(p:Pg)(q:A9)(pl:Int)(n:A9)(w:World)(hb:w.heap[E]?=some (.cells v T (0,0)))(W:v[0]?=some (.pointer (some a)))(X:v[2]?=some (p6 q))(ha:At (m8 w) a (i4 p))(hr:D3 p)(hw:B7 p<=1000000)
  (bj:pl = -1\/∃j:Nat,pl=(j:Int)+1/\j<(d9 p).l.length) :
  o9 prog 138 #[.pointer (some ⟨E,0,none⟩),.int .i64 pl,p6 n] w λu s=>(B0 (m8 w) s 26 u ((i4 p).takers q pl n)/\o6 w s):=by
 refine p9 [.pointer (some ⟨E,0,none⟩),.int .i64 pl,p6 n] func138 rfl ?_;have m:∀s,o6 w s->s.heap[E]?=some (.cells v T (0,0)):=λs hx=>(hx.block E (ef5.1 hb).1 id).trans hb;have bl:Value.string {data:=#[]}=p6 e0:=rfl;rcases ef2 (decide (pl = -1))with h0|h0
 .have a9:=ef3 h0;simp only[i5,n9,simprocAttr,h0];refine B2 (L0 E T v q 4 0 n w hb X) (λz g=>?_);obtain⟨u,w2,q1,q2,q3,_⟩:=dA6 ⟨q,4,0,n⟩ z (b7 g);simp only[i5,simprocAttr,q1];refine o7 results138 ⟨?_,g.trans q3⟩;unfold Bk.takers;rw[if_pos a9];exact q2
 have aM:=ef7 h0;obtain⟨j,rfl,Y⟩:∃j:Nat,pl=(j:Int)+1/\j<(d9 p).l.length:=by
  rcases bj with h|h
  .exact absurd h aM
  .exact h
 have bG:=H7 hr.may;obtain⟨sh,vw,vd,_,vi,vo,has,bQ,bN,_,aS,bP,au,bY⟩:=ha.book rfl;obtain⟨vl,_,_,aT,_,_,aN,bs,_⟩:=has.sh;rw[K5]at aN;obtain⟨vg,vp,bO,aU,bq,bZ⟩:=aN.pg;have aZ:=au w (n7 _);have a2:=bs w (n7 _);have k0:(Instr.loadAt 87 (.pointer (some ⟨E,0,none⟩))).run prog w = .ok (.pointer (some a)) w:=E7 (i:=0) hb W aF9;have aV:IntKind.i64.wrap ((j:Int)+1-1)=(j:Int):=by rw[M2 _ (by omega)];omega
 have ah:=aT.inS (k:=j) Y;have H:=aT.at_ (i:=j) (x:=(d9 p).l[j]) (ef1 Y);have aY:A3.sz It=17:=rfl;rw[aY]at H;have ak:=eg2 Y;have L:=hr.fits _ ak;have am:=am0 p hw _ ak;have aH:(d9 p).it ((j:Int)+1)=(d9 p).l[j]:=by
  unfold Sh.it;rw[show((j:Int)+1-1).toNat=j by omega,List.getD,ef1 Y];rfl
 have b:(i4 p).takers q ((j:Int)+1) n=if((d9 p).l[j]).s.kind≠4 then[⟨q,2,(j:Int)+1,e0⟩]
   else(((((d9 p).l[j]).s.args.zip ((i4 p).callee ((d9 p).l[j]).s).params).filter λx=>(ab8 x.1).contains n).map λx=>(⟨q,5,(j:Int)+1,x.2.name⟩:Vx)) ++
    if(R2 p n&&(H6 (af9 p) ((d9 p).pr ((d9 p).l[j]).s.proc)).contains n)=true then[(⟨q,5,(j:Int)+1,n⟩:Vx)]else[]:=by
  have hs:(i4 p).s=d9 p:=rfl;have hi:(i4 p).ins=af9 p:=rfl;unfold Bk.takers;rw[if_neg aM,hs,hi,aH,K5]
 generalize(d9 p).l[j]=it at H L b am;have aX:∀V∈it.s.args,Y0 V.x<=1000000:=λV h=>ef9 (dy6 it.s V h) am;obtain⟨aD,_,_⟩:=H.it;obtain⟨sv,Z,bt,_⟩:=aD.st_v;have a3:=bt w (n7 _);obtain⟨d,wz,z,ae,al,g,aB⟩:=bj9 Z (n7 _);obtain⟨_,va,_,_,_,aa,_,_,_,a0,_⟩:=aB.st;obtain⟨bC,aR,_,a4⟩:=aB.st_v;have l1:=a0 z (n7 _);rcases ef2 (decide (it.s.kind=4))with h4|h4;rotate_left
 .have e4:=ef7 h4;simp only[i5,n9,y4,simprocAttr,h0,k0,aZ,a2,aV,ah,a3,ae,al,l1,h4,bl];refine B2 (L0 E T v q 2 ((j:Int)+1) e0 z (m z g) X) (λw2 ab=>?_);obtain⟨u,w3,q1,q2,q3,_⟩:=dA6 ⟨q,2,(j:Int)+1,e0⟩ w2 (b7 (g.trans ab));simp only[i5,simprocAttr,q1];refine o7 results138 ⟨?_,(g.trans ab).trans q3⟩;rw[b,if_pos e4];exact q2
 have e4:=ef3 h4;obtain⟨c,U⟩:=Y6 (L e4);rw[if_neg (by simpa using e4),bN8 U,U.pr]at b;have aJ:=U.len;have aO:=T9 hr.may U.lt;have af:=aU.at_ (i:=c) (x:=p.procs[c]'U.lt) (ef1 U.lt);have aG:=aU.inS (k:=c) U.lt;have bo:A3.sz Pr=5:=rfl;rw[bo]at af;obtain⟨b5,_,_,_,O,_,_,_,br,_⟩:=af.pr;have bh:=U.pr;generalize(p.procs[c]'U.lt).params=pas at b aJ aO O;obtain⟨N,M,aE⟩:=(aT7 hr hw).row U.lt;generalize H6 (af9 p) (c:Int)=aw at N M aE b;obtain⟨ui,bm,be⟩:=R.row aS (show(i4 p).ins[c]?=some aw from N);have aF:=aS.inS (k:=c) (show c<(af9 p).length from(ef6.1 N).1);have bc:=aa.isS;have bi:=aa.vlen;have ao:=g.trans (o6.drew z);have t0:∀K f d ax,F7 prog (λs=>o6 z.drew s) (Instr.loadAt 87 (.pointer (some ⟨E,0,none⟩))) K f d ax=K (C9 f d (.pointer (some a))) ax:=λK f d ax=>C0 (w0:=z.drew) (o8.refl _) λs h=>E7 (i:=0) (m s (ao.trans h)) W aF9;have t5:=a4 (λs=>o6 z.drew s) z.drew (o8.refl _) λs h=>b7 ((o6.drew z).trans h);simp only[i5,n9,y4,simprocAttr,h0,k0,aZ,a2,aV,ah,a3,ae,al,l1,h4];refine B9 (λs=>o6 z.drew s) 5 (A5 [0,1,2,3,4]) ?_;simp only[D0,A5,i5,n9,simprocAttr,t0,t5];refine B2 (aw9 a (i4 p) p bC it.s z.drew (ha.mono (b7 ao)) rfl hr.may (aR.mono (b7 (o6.drew z)))) (λw2 ab=>?_);rw[bh];have an:=(o6.drew z).trans ab;have bT:(it.s.args.zip pas).length=it.s.args.length:=by rw[List.length_zip];omega
 simp only[i5,n9,simprocAttr,a0 w2 (b7 an),bc,bi];refine A6 [0,1,2,7,9,47,48] (σ:=Nat×Value) (λt f s=>f 49 = .int .i64 t.1/\f 8=t.2/\t.1<=it.s.args.length/\B0 (m8 z) s 26 t.2 ((((it.s.args.zip pas).take t.1).filter λx=>(ab8 x.1).contains n).map λx=>(⟨q,5,(j:Int)+1,x.2.name⟩:Vx))/\o6 z s) (λt=>it.s.args.length-t.1) (0,.slice none 0 0) ?_ ?_
 .exact⟨rfl,rfl,eg3 _,B0.nil _ _ _,an⟩
 rintro⟨k,u⟩ f w3 ⟨g0,g1,g2,g7,g9,ba,bb,_⟩ ⟨G,h8,bg,l,F⟩;simp only at G h8 bg l;have J:((((it.s.args.zip pas).take k).filter λx=>(ab8 x.1).contains n).map λx=>(⟨q,5,(j:Int)+1,x.2.name⟩:Vx)).length<=k:=by
  rw[eg5];refine ef9 (eh9 _ _) ?_;rw[eg0];omega
 have y:=g.trans F;simp only[i5,n9,simprocAttr,G,bb];refine y5 (λar=>?_) ?_
 .have aj:k<pas.length:=by omega
  have aL:k<(it.s.args.zip pas).length:=by omega
  have bf:=aa.inS ar;obtain⟨sv,Z,aI⟩:=F5 (P:=prog) (t:=124) aa (b7 F) (ef1 ar) aS1 aS2 aL1 aa8;rw[aa8]at aI;have o:=aP4 (λx:Ar×Pa=>(ab8 x.1).contains n) (λx=>(⟨q,5,(j:Int)+1,x.2.name⟩:Vx)) _ aL;rw[List.getElem_zip]at o;simp only at o;have aW:=aX _ (eg2 ar);have I:=O.at_ (i:=k) (x:=pas[k]) (ef1 aj);have aq:=O.inS (k:=k) aj;have bn:A3.sz Pa=2:=rfl;rw[bn]at I;obtain⟨ap,_⟩:=I.pa;generalize pas[k]=pa at o ap;generalize it.s.args[k]=V at Z o aW;generalize bS:(((it.s.args.zip pas).take k).filter λx=>(ab8 x.1).contains n).map (λx=>(⟨q,5,(j:Int)+1,x.2.name⟩:Vx))=xs at l o J;obtain⟨d4,b6,w4,aA,aQ,r,aC⟩:=bj8 (Z.mono (b7 F)) (n7 _);obtain⟨sa,bk,a1,_⟩:=aC.ar_v;have l4:=a1 w4 (n7 _);have aP:(ab8 V).length<=1000000000:=by
   unfold ab8;split
   .simp
   .have:=ai6 V.x;omega
  simp only[i5,n9,y4,simprocAttr,G,ba,bf,aI,aA,aQ,l4];refine t8 (cA2 sa V w4 bk aW) ?_;rintro us S ⟨hos,hx5⟩;have D:=(F.trans r).trans hx5;have Q:=g.trans D;simp only[i5,simprocAttr,g2];refine E6 (S1 us (ab8 V) n S (hos.rw_ (b7 hx5)) aP) ?_;rcases ef2 ((ab8 V).contains n)with h6|h6;rotate_left
  .rw[h6,if_neg (by simp),ei5]at o;simp only[i5,n9,simprocAttr,h6,h8,G];refine nx4 (k+1,u) ⟨?_,D⟩;simp only[];rw[o];exact(l.ext r).ext hx5
  rw[h6,if_pos rfl]at o;have C:=b7 Q;have k5:(Instr.loadAt 87 (.pointer (some ⟨E,0,none⟩))).run prog S = .ok (.pointer (some a)) S:=E7 (i:=0) (m S Q) W aF9;simp only[i5,n9,y4,simprocAttr,h6,h8,g0,g1,g9,k5,au S C,bq S C,aG,br S C,aq,ap S C];refine B2 (L0 E T v q 5 ((j:Int)+1) pa.name S (m S Q) X) (λw6 ac=>?_);obtain⟨p1,u7,w7,p2,p3,p4,p5⟩:=di1 (e:=22) (((l.ext r).ext hx5).ext ac) ⟨q,5,(j:Int)+1,pa.name⟩ (by omega) (b7 (D.trans ac));simp only[i5,n9,simprocAttr,p1,p2,G];refine nx4 (k+1,u7) ⟨?_,(((l.ext r).ext hx5).ext ac).ext2 (D.trans ac) p4⟩;simp only[];rw[o];exact p3
 rintro rfl;rw[ej5 (by omega)]at l J;generalize hA:((it.s.args.zip pas).filter λx=>(ab8 x.1).contains n).map (λx=>(⟨q,5,(j:Int)+1,x.2.name⟩:Vx))=A at b l J;have B:=b7 y;have k3:(Instr.loadAt 87 (.pointer (some ⟨E,0,none⟩))).run prog w3 = .ok (.pointer (some a)) w3:=E7 (i:=0) (m w3 y) W aF9;have bp:=au w3 B;have aK:=J1 (P:=prog) (t:=31) be B P8;simp only[i5,n9,simprocAttr,g0,g2,k3];refine E6 (aY5 a (i4 p) p n w3 (ha.mono B) rfl hr.may) ?_;rcases ef2 (R2 p n)with h7|h7;rotate_left
 .rw[h7,Bool.false_and,if_neg (by simp),ei5]at b;simp only[i5,simprocAttr,h7,h8];refine o7 results138 ?_;simp only[B3,simprocAttr];rw[b];exact⟨l.backN g,y⟩
 rw[h7,em1]at b;simp only[i5,n9,y4,simprocAttr,h7,g0,g2,g9,k3,bp,aF,aK];refine E6 (aj8 ui aw n w3 (A3.mono B bm) (by omega) M) ?_;rcases ef2 (aw.contains n)with h8'|h8';rotate_left
 .rw[h8',if_neg (by simp),ei5]at b;simp only[i5,simprocAttr,h8,h8'];refine o7 results138 ?_;simp only[B3,simprocAttr];rw[b];exact⟨l.backN g,y⟩
 rw[h8',if_pos rfl]at b;simp only[i5,simprocAttr,h8,h8',g0,g1,g2];refine B2 (L0 E T v q 5 ((j:Int)+1) n w3 (m w3 y) X) (λw4 r=>?_);obtain⟨p1,u5,S,p2,p3,p4,p5⟩:=di1 (e:=22) (l.ext r) ⟨q,5,(j:Int)+1,n⟩ (by omega) (b7 (F.trans r));simp only[i5,simprocAttr,p1,p2];refine o7 results138 ?_;simp only[B3,simprocAttr];rw[b];exact⟨p3.backN g,g.trans ((l.ext r).ext2 (F.trans r) p4)⟩
def bq8{α:Type}[DecidableEq α]:∀(l:List α),I0 l=al1 (λa b=>decide (a=b)) l
 | []=>rfl
 | [x]=>rfl
 | x::y::l=>by
  have d:=bq8 (y::l);rw[I0,d];simp only[al1,al2];by_cases h:x=y
  .subst h;simp
  .have c:¬y=x:=λe=>h e.symm;simp[h,c]
def bw5(a b:Eg):Bool:=decide (a=b)
def ct5{h:Hp}{w:World}{v:Value}{xs:List Eg}(o:B0 h w 66 v xs)(hl:xs.length<=1000000000)(hh:B8 h (m8 w)):
  o9 prog 144 #[v] w λu d=>(B0 h d 66 u (I0 xs)/\o8 (A0 v) w d/\∀b,A0 u b->A0 v b):=by
 refine p9 [v] func144 rfl ?_;rw[bq8];have aq:(λa b:Eg=>decide (a=b))=bw5:=rfl;rw[aq];have W:=o.isS;have hn:=o.vlen;have a4:=o.vcap;have U:A3.sz Eg=9:=rfl;rcases ef2 (decide ((xs.length:Int)<2))with H|H
 .simp only[i5,n9,simprocAttr,W,hn,H];refine o7 results144 ?_;simp only[B3,simprocAttr];have D:xs.length<2:=by have:=ef3 H;omega
  have:=ai0 bw5 xs xs.length (eg6 _) λj J h1 H=>by omega
  rw[eg4]at this;exact⟨by rw[this];exact o,o8.refl _,λb X=>X⟩
 have a0:2<=xs.length:=by have:=ef7 H;omega
 simp only[i5,n9,simprocAttr,W,hn,H];refine A6 [0] (σ:=Nat) (λi f d=>f 3 = .int .i64 i/\1<=i/\i<=xs.length/\(∀j (J:j<xs.length),1<=j->j<i->bw5 xs[j] (xs[j-1]'(by omega))=false)/\o6 w d) (λi=>xs.length-i) 1 ?_ ?_
 .simp only[B3,simprocAttr];exact⟨by trivial,by simp,by omega,λj _ h1 H=>by omega,o8.refl _⟩
 rintro i f G ⟨e0,_⟩ ⟨h3,aZ,a2,Q,x⟩;simp only[i5,n9,simprocAttr,h3,e0,W,hn];refine y5 (λD=>?_) ?_;rotate_left
 .rintro rfl;simp only[i5,simprocAttr,e0];refine o7 results144 ?_;simp only[B3,simprocAttr];have:=ai0 bw5 xs xs.length (eg6 _) Q;rw[eg4]at this;exact⟨by rw[this];exact o.ext x,o8.up x,λb X=>X⟩
 have K:i-1<xs.length:=by omega
 have hR:R (m8 G) v xs:=(o.ext x).rw_ (p7 hh (b7 x));have aB:=o.inS D;have ab:=o.inS K;have aJ:IntKind.i64.wrap ((i:Int)-1)=((i-1:Nat):Int):=by rw[M2 _ (by omega)];omega
 obtain⟨vx,aH,_,sx⟩:=(hR.at_ (ef1 D)).eg_v;obtain⟨vy,aI,_,sy⟩:=(hR.at_ (ef1 K)).eg_v;obtain rfl:=aH.N;obtain rfl:=aI.N;have s1:=sx (λd=>o6 G.drew d) G.drew (o8.refl _) λd h=>b7 ((o6.drew G).trans h);have s2:=sy (λd=>o6 G.drew d) G.drew (o8.refl _) λd h=>b7 ((o6.drew G).trans h);rw[U]at s1 s2;have r:=x.trans (o6.drew G);have S:=λw0 a b=>dE5 w0 a b xs[i] xs[i-1];have aE:decide (xs[i]=xs[i-1])=bw5 xs[i] xs[i-1]:=rfl;rw[aE]at S;simp only[i5,simprocAttr];refine B9 (λd=>o6 G.drew d) 9 (A5 [0,1,2,3,4,5,6,7,8]) ?_;simp only[D0,A5,i5,n9,y4,simprocAttr,h3,e0,aB,ab,aJ,s1,s2];rcases ef2 (bw5 xs[i] xs[i-1])with hq|hq;rotate_left
 .simp only[i5,n9,simprocAttr,L8,p8.cells,S,hq,h3];refine nx4 (i+1) ⟨λj J h1 H=>?_,r⟩;rcases ej6 j i with h|h
  .exact Q j J h1 h
  .obtain rfl:j=i:=by omega
   exact hq
 have c1:decide ((i:Int)<=(xs.length:Int))=true:=by simp;omega
 have c2:decide ((xs.length:Int)<=(vcap v:Int))=true:=by simp;omega
 have hd:∀k:Nat,isS (reS v k xs.length 9)=true/\vlen (reS v k xs.length 9)=xs.length-k:=λk=>by
  rcases o with⟨rfl,rfl⟩|⟨b,c,aY,rfl,_⟩
  .exact⟨rfl,rfl⟩
  .exact⟨rfl,rfl⟩
 obtain⟨au,aD⟩:=hd i;have a3:((xs.length-i:Nat):Int)=(xs.length:Int)-i:=by omega
 simp only[i5,n9,J0,simprocAttr,L8,p8.cells,S,hq,h3,e0,W,hn,c1,c2];refine A6 [0,4] (σ:=Nat×Nat×List Eg) (λs f d=>f 5 = .int .i64 s.1/\f 3 = .int .i64 s.2.1/\1<=s.1/\i+s.1<=xs.length/\s.2.1+1<=i+s.1/\s.2.2.length=xs.length/\B0 h d 66 v s.2.2/\(∀j (J:j<xs.length) (M:j<s.2.2.length),i+s.1<=j+1->s.2.2[j]=xs[j])/\s.2.2.take s.2.1=al1 bw5 (xs.take (i+s.1))/\o8 (A0 v) w d) (λs=>xs.length-(i+s.1)) (1,i,xs) ?_ ?_
 .simp only[B3,simprocAttr];refine⟨by trivial,by trivial,by trivial,by omega,by omega,by trivial,o.ext r,λj _ _ _=>by trivial,?_,o8.up r⟩;rw[ax6 bw5 xs D (by omega),if_pos hq,ai0 bw5 xs i (by omega) Q]
 rintro⟨m,c,A⟩ f4 n ⟨g0,g6,_⟩ ⟨V,B,ap,aA,ax,z,p,l,g,N⟩;simp only at V B ap aA ax z p l g;rw[e0]at g0;have az:B8 h (m8 n):=H2 hh N λb X=>o.free X;have ae:decide ((m:Int)<((xs.length-i:Nat):Int))=decide (i+m<xs.length):=by rw[ek8];omega
 simp only[i5,n9,simprocAttr,V,g6,au,aD,ae];refine A4 (λhc=>?_) (λhc=>?_)
 .have E:i+m<xs.length:=ef3 hc;have aC:i+m-1<xs.length:=by omega
  have ar:R (m8 n) v A:=p.rw_ az;have e:=ce1 ar (show i<=xs.length by omega) (show xs.length<=A.length by omega);rw[U]at e;have aL:(A.take xs.length).drop i=A.drop i:=by rw[<-z,eg4]
  rw[aL]at e;have Z:(A.drop i)[m]?=some xs[i+m]:=by
   rw[eo3,ef1 (by omega),l (i+m) E (by omega) (by omega)]
  have aa:(A.drop i)[m-1]?=some xs[i+m-1]:=by
   rw[eo3,show i+(m-1)=i+m-1 by omega,ef1 (by omega),l (i+m-1) aC (by omega) (by omega)]
  have I:=e.inS (ef6.1 Z).1;have ac:=e.inS (ef6.1 aa).1;have aK:IntKind.i64.wrap ((m:Int)-1)=((m-1:Nat):Int):=by rw[M2 _ (by omega)];omega
  obtain⟨ux,aF,lx,tx⟩:=(e.at_ Z).eg_v;obtain⟨uy,aG,_,ty⟩:=(e.at_ aa).eg_v;obtain rfl:=aF.N;obtain rfl:=aG.N;have t1:=tx (λd=>o6 n.drew d) n.drew (o8.refl _) λd h=>b7 ((o6.drew n).trans h);have t2:=ty (λd=>o6 n.drew d) n.drew (o8.refl _) λd h=>b7 ((o6.drew n).trans h);rw[U]at t1 t2 lx;have q:=λw0 a b=>dF9 w0 a b xs[i+m] xs[i+m-1];have aj:decide (xs[i+m]=xs[i+m-1])=bw5 xs[i+m] xs[i+m-1]:=rfl;rw[aj]at q;simp only[i5,simprocAttr];refine B9 (λd=>o6 n.drew d) 9 (A5 [0,1,2,3,4,5,6,7,8]) ?_;simp only[D0,A5,i5,n9,y4,simprocAttr,V,g6,I,ac,aK,t1,t2];have y:=o6.drew n;have ah:=p.ext y;have af:o8 (A0 v) w n.drew:=N.chain (o8.up y) λ_ _ h=>h;have C:=ax6 bw5 xs (k:=i+m) E (by omega);rcases ef2 (bw5 xs[i+m] xs[i+m-1])with hq4|hq4
  .rw[if_pos hq4]at C;simp only[i5,n9,simprocAttr,L8,p8.cells,q,hq4,V];refine nx2 (m+1,c,A) ⟨B,by simp only[];omega,by simp only[];omega,by simp only[];omega,z,ah,λj J M h=>l j J M (by simp only at h;omega),?_,af⟩;simp only[];rw[g,<-C,ep8]
  .rw[if_neg (by rw[hq4];simp)]at C;have L:c<A.length:=by omega
   have ak:=lx n.drew (b7 y);obtain⟨w6,T,F,O⟩:=bb1 (P:=prog) (t:=66) ah aY1 an3 L xs[i+m];rw[U]at T;have ad:=p.inS L;simp only[p8.cells]at ak T;simp only[i5,n9,y4,simprocAttr,L8,p8.cells,q,hq4,B,g0,g6,V,I,ad,ak,T];refine⟨(m+1,c+1,A.set c xs[i+m]),by simp only[];omega,by simp only[];rw[H8 m],by simp only[];rw[H8 c],by simp only[];omega,by simp only[];omega,by simp only[];omega,by simp only[en4];exact z,F,λj J M h=>?_,?_,af.chain O λ_ _ h=>h⟩
   .simp only at h ⊢;rw[List.getElem_set_ne (by omega)];exact l j J (by omega) (by omega)
   .simp only[];have ay:c<(A.set c xs[i+m]).length:=by simpa using L
    rw[ef8 ay,List.getElem_set_self,List.take_set_of_le (eg6 _),g,<-C,ep8]
 .have E:i+m=xs.length:=by have:=ef7 hc;omega
  rw[E,eg4]at g;have aw:c<A.length:=by omega
  have c3:decide ((c:Int)<=(xs.length:Int))=true:=by simp;omega
  have c4:decide ((c:Int)<=(vcap v:Int))=true:=by simp;omega
  obtain⟨w6,T,F,O,Y⟩:=bn0 (P:=prog) (t:=54) (ty:=0) p rfl cJ6 rfl (by simp[Value.cells,Value.oneCell']) aw;rw[z,U]at T;rw[U]at F Y;simp only[i5,n9,J0,simprocAttr,bF7,B,g0,W,hn,c2,c3,c4,T];exact o7 results144 ⟨by rw[<-g];exact F,N.chain O λ_ _ h=>h,Y⟩
def aY8{h:Hp}{w:World}{v:Value}{xs:List Eg}(j:B0 h w 66 v xs)(i:xs.length<=1000000000)(o:B8 h (m8 w)):
  o9 prog 79 #[v] w λu k=>(B0 h k 66 u (aC5 xs)/\o8 (A0 v) w k/\∀b,A0 u b->A0 v b):=by
 refine p9 [v] func79 rfl ?_;simp only[i5,n9,simprocAttr];refine t8 (co4 j i λa _ b _ l m=>db3 (dz6.eq0 l m)) ?_;rintro _ p ⟨f,c⟩;simp only[i5,simprocAttr];refine t8 (ct5 f (by rw[(G1 _ _).length_eq];exact i) (H2 o c λb n=>j.free n)) ?_;rintro u q ⟨g,e,d⟩;simp only[i5,simprocAttr];exact o7 results79 ⟨g,c.trans e,d⟩
def du6{w c d:World}(f:w.heap.size<c.heap.size){α:Type}[A3 α][p8 α]{T:TypeId}{u:Value}{l:List α}(a:B0 (m8 c) d T u l):R (C1 d (nP w.heap.size (.slice none 0 0))) u l:=
 a.flatRN λb e=>E4 λh=>by
  have:=D1 (a.free e);rcases h with h|h|h|h
  .omega
  .exact absurd h D5
  .exact absurd h D5
  .exact h.elim
def bi6(q:A9)(v:Vx):(I5 q v).length<=1:=by
 unfold I5;split
 .simp
 .split<;>simp
def dO4(w:World)(y:Vx):∃a,(Instr.alloc 26 true (.tuple #[])).run prog w = .ok (.pointer (some ⟨w.heap.size,0,none⟩)) a /\
  (Instr.storeAt 26 (.pointer (some ⟨w.heap.size,0,none⟩)) (.agg (p8.cells y).toArray)).run prog a = .ok () (w.alloc (.cells (p8.cells y).toArray 26)):=by
 have h:=aA5 (P:=prog) (w:=w) (T:=26) aS3 rfl (cs:=(p8.cells y).toArray) (by rw[N6];rfl) (λu b=>U5 y u (by simpa using b));exact⟨_,h.1,h.2⟩
def dw5{w:World}{c:Nat}{y:Vx}(d:w.heap[c]?=some (.cells (p8.cells y).toArray 26 (0,0)))(z:Vx):∃a,(Instr.storeAt 26 (.pointer (some ⟨c,0,none⟩)) (.agg (p8.cells z).toArray)).run prog w = .ok () a/\a.heap[c]?=some (.cells (p8.cells z).toArray 26 (0,0))/\o8 (λb=>b=c) w a:=
 ab4 (P:=prog) (T:=26) d aS3 (by rw[N6];rfl) (by rw[N6];rfl) (λu e=>U5 z u (by simpa using e))
def du2{w:World}{c:Nat}{y:Vx}(a:w.heap[c]?=some (.cells (p8.cells y).toArray 26 (0,0))):(Instr.loadAt 26 (.pointer (some ⟨c,0,none⟩))).run prog w = .ok (.agg (p8.cells y).toArray) w:=
 Y5 a ar8 as0 am4 (by rw[N6];rfl)
def cL4(a:Addr)(p:Pg)(i:Nat)(w:World)(ha:At (m8 w) a (i4 p))(hr:D3 p)(hw:B7 p<=1000000)(hi:i<p.procs.length):
  o9 prog 77 #[.pointer (some a),.int .i64 i] w λu o=>(B0 (m8 w) o 66 u ((i4 p).edges (i:Int))/\o6 w o):=by
 refine p9 [.pointer (some a),.int .i64 i] func77 rfl ?_;obtain⟨x,pt⟩:=I1 hr.may hw i hi;have cX:=O8 pt;obtain⟨sh,vw,vd,_,vi,vo,has,bU,dV,_,dX,dY,cb,eb⟩:=ha.book rfl;obtain⟨_,_,_,_,_,_,bP,_,_⟩:=has.sh;rw[K5]at bP;obtain⟨vg,vp,dW,bT,c9,ec⟩:=bP.pg;obtain⟨aw,bK,bH⟩:=as5 (hv:=bU) (k:=i) (p:=⟨D7 (d9 p) i⟩) (by show((J2 p).map λw=>(⟨w⟩:Ptr Wy))[i]?=_;rw[ei9,V6 hi];rfl);simp only at bH;have aQ:=bU.inS (k:=i) (by show i<((J2 p).map λw=>(⟨w⟩:Ptr Wy)).length;unfold J2;simpa using hi);have lb:=cb w (n7 _);have lp:=c9 w (n7 _);have hF:(i4 p).edge0 (i:Int)=(D7 (d9 p) i).decides.map (af5 p.procs[i].name)++((i4 p).verts (i:Int)).flatMap (I5 p.procs[i].name)++((i4 p).flows (i:Int)).flatMap λf=>((i4 p).takers p.procs[i].name f.dst f.var).map λv=>(⟨(i4 p).giver p.procs[i].name f.src f.var,v,2⟩:Eg):=by
  unfold Bk.edge0;rw[M3 hi,L9 hi]
 have bN:=br0 hr hw hi;have cK:=aW0 hr hw hi;have cL:=bP1 hr hw hi;have be:∀f∈(i4 p).flows (i:Int),(f.src=0\/Mid p f.src)/\(f.dst = -1\/Mid p f.dst):=λf hf=>br8 hr hw hi hf;have l:=bT.inS hi;obtain⟨sv,s,g⟩:=F5 (P:=prog) (t:=75) bT (n7 _) (ef1 hi) at8 at9 ar9 Q9;rw[Q9]at g;obtain⟨cs,rfl,I,J,L,M,rfl,_⟩:=s;generalize p.procs[i].name=q at hF g;have cE:=ce9 a (i:Int) q I J L M;have cF:(Instr.box 195 (.agg (K1 a i q I J L M (.slice none 0 0) (.slice none 0 0)))).run prog w = .ok (.pointer (some ⟨w.heap.size,0,none⟩)) (w.alloc (.cells (K1 a i q I J L M (.slice none 0 0) (.slice none 0 0)) 195)):=rfl;have cU:Value.string {data:=#[]}=p6 e0:=rfl;simp only[i5,n9,y4,simprocAttr,lb,lp,l,g,cE,cF,cU];have bY:=o6.alloc w (.cells (K1 a i q I J L M (.slice none 0 0) (.slice none 0 0)) 195);have aS:w.heap.size<(w.alloc (.cells (K1 a i q I J L M (.slice none 0 0) (.slice none 0 0)) 195)).heap.size:=by simp
 have bI:=ej0 w (.cells (K1 a i q I J L M (.slice none 0 0) (.slice none 0 0)) 195);generalize cW:w.alloc (.cells (K1 a i q I J L M (.slice none 0 0) (.slice none 0 0)) 195)=w1 at bY aS bI;refine B2 (L0 w.heap.size _ _ q 1 0 e0 w1 bI rfl) (λw2 bX=>?_);obtain⟨de,wz,w4,bD,bR,cY,bG⟩:=ap9 (w:=w2) (nP w.heap.size (.slice none 0 0)) (SV.ofN (m8 w2) ⟨q,1,0,e0⟩) λb hb=>by
  have:=bX.size;rcases hb with h|h|h|h
  .omega
  .exact absurd h D5
  .exact absurd h D5
  .exact h.elim
 have ay:=bX.trans cY;have ad:=bY.trans ay;have b9:=cb w4 (b7 ad);have bL:=J1 (P:=prog) (t:=114) bK (b7 ad) as8;simp only[i5,n9,y4,simprocAttr,bD,bR,b9,aQ,bL];refine t8 (cd4 aw _ p i x _ w4 (bH.mono (b7 ad)) hr hw hi cX) ?_;rintro ud w5 ⟨cQ,bk⟩;have bV:=ad.trans bk;have U:=du6 (el8 aS ay.size) cQ;have ao:=bG.mono (K0 (N':=nP w.heap.size (.slice none 0 0)) bk (λ_ h=>h.elim) λb h=>.inl h);have ae:=ay.trans bk;rw[<-cW]at ae;have s5:=(PV.new a i q I J L M ae).2;have ap:=cH7 bV;generalize dU:w.heap.size=B at s5 U ao ap;generalize dQ:C1 w5 (nP B (.slice none 0 0))=H0 at s5 U ao ap;obtain⟨ca,_⟩:=I6.vx_v (SV.ofN (m8 w2) (⟨q,1,0,Go.Proofs.YtggahhenbbgffaaGreat.e0⟩:Vx)) ao;generalize(D7 (d9 p) i).decides=D at hF bN U;have cy:=U.isS;have cM:=U.vlen;clear l g;simp only[i5,n9,simprocAttr,cy,cM];refine D9 [0,1,5,6,41,42] (σ:=Nat×Value) (λt f o=>f 43 = .int .i64 t.1/\t.1<=D.length/\PE H0 w o B a i q I J L M t.2 ((D.take t.1).map (af5 q))) (λt=>D.length-t.1) (0,.slice none 0 0) ?_ ?_
 .simp only[B3,simprocAttr];exact⟨by trivial,eg3 _,by simpa using s5⟩
 clear s5;rintro⟨k,v⟩ f w5 hk ⟨aI,bf,s5⟩;simp only at aI bf s5;simp only[ei3,B3,simprocAttr]at hk;obtain⟨bz,e1,e5,e6,cr,ct,_⟩:=hk;simp only[i5,n9,simprocAttr,aI,ct];refine A4 (λhc=>?_) (λhc=>?_)
 .have A:k<D.length:=by simpa using hc
  have l:=U.inS A;have g:=df2 U s5.hb (ef1 A);have Q:=aE6 (af5 q) D A;have cG:((D.take k).map (af5 q)).length<=1000000000:=by rw[eg5,eg0];omega
  generalize D[k]=d at g Q;obtain⟨c8,eh,w6,bE,bS,bl,bJ,dv⟩:=dn2 (w:=w5) d.1 d.2;have s6:=s5.more bl;have c6:=ca w6 s6.hb;obtain⟨ei,bF,aR⟩:=dO4 w6 ⟨q,1,0,Go.Proofs.YtggahhenbbgffaaGreat.e0⟩;have az:=o6.alloc w6 (.cells (p8.cells (⟨q,1,0,Go.Proofs.YtggahhenbbgffaaGreat.e0⟩:Vx)).toArray 26);have aK:=ej0 w6 (.cells (p8.cells (⟨q,1,0,Go.Proofs.YtggahhenbbgffaaGreat.e0⟩:Vx)).toArray 26);generalize w6.alloc (.cells (p8.cells (⟨q,1,0,Go.Proofs.YtggahhenbbgffaaGreat.e0⟩:Vx)).toArray 26)=w7 at aR az aK;obtain⟨l8,_⟩:=au9 bJ az id;simp only[dn9,n9,y4,simprocAttr,aI,cr,e6,l,g,bE,bS,c6,bF,aR,l8];refine cj4 [0,1,5,6,8,9,41,42,43] (λf' o=>o6 w6 o/\o.heap[w6.heap.size]?=some (.cells (p8.cells (af5 q d).src).toArray 26 (0,0))) ?_ ?_
  .rcases ef2 (decide (d.1=0))with h0|h0
   .simp only[i5,n9,simprocAttr,h0];refine⟨az,?_⟩;unfold af5;rw[if_pos (ef3 h0)];exact aK
   .simp only[i5,n9,y4,simprocAttr,h0,e5,l8];refine B2 (L0 B _ _ q 2 d.1 Go.Proofs.YtggahhenbbgffaaGreat.e0 w7 (s6.more az).cb rfl) (λr H=>?_);obtain⟨w9,q1,q2,q3⟩:=dw5 (c:=w6.heap.size) ((H.block _ (ef5.1 aK).1 id).trans aK) ⟨q,2,d.1,Go.Proofs.YtggahhenbbgffaaGreat.e0⟩;simp only[i5,simprocAttr,q1];refine⟨o8.ext_of (az.trans H) q3 λb hb=>by rw[hb];exact eg6 _,?_⟩;unfold af5;rw[if_neg (ef7 h0)];exact q2
  rintro f8 r hk ⟨H,aO⟩;simp only[ei3,B3,simprocAttr]at hk;obtain⟨g0,g1,g5,g6,g8,g9,dK,dL,cv,_⟩:=hk;have S:=(s6.more H).more (o6.drew r);have t1:∀K f d' Z,F7 prog (λo=>o6 r.drew o) (Instr.loadAt 26 (.pointer (some ⟨w6.heap.size,0,none⟩))) K f d' Z=K (C9 f d' (.agg (p8.cells (af5 q d).src).toArray)) Z:=λK f d' Z=>C0 (w0:=r.drew) (o8.refl _) λo h=>du2 ((((o6.drew r).trans h).block _ (ef5.1 aO).1 id).trans aO);have t2:∀K f d' Z,F7 prog (λo=>o6 r.drew o) (Instr.loadAt 3 (.pointer (some ⟨c8,1,none⟩))) K f d' Z=K (C9 f d' (.int .i64 d.2)) Z:=λK f d' Z=>C0 (w0:=r.drew) (o8.refl _) λo h=>(au9 bJ (H.trans ((o6.drew r).trans h)) id).2;simp only[i5,simprocAttr];refine B9 (λo=>o6 r.drew o) 6 (A5 [0,1,2,3,4,5]) ?_;simp only[D0,A5,i5,n9,y4,simprocAttr,g5,e5,g8,g9,t1,t2];refine B2 (L0 B _ _ q 2 d.2 Go.Proofs.YtggahhenbbgffaaGreat.e0 r.drew S.cb rfl) (λw9 R=>⟨R,?_⟩);simp only[D0,i5,simprocAttr];refine t8 (an8 H0 B a i q I J L M v _ (af5 q d).src ⟨q,2,d.2,Go.Proofs.YtggahhenbbgffaaGreat.e0⟩ 1 w w9 (S.more R) cG) ?_;rintro _ ak ⟨aD,F⟩;simp only[i5,n9,simprocAttr,cv,aI];refine⟨(k+1,aD),by omega,eg8 _ (H8 k (by omega)),by omega,?_⟩;simp only[];rw[Q];exact F
 have T:k=D.length:=by simp at hc;omega
 subst T;rw[eg4]at s5;have cC:B8 (m8 w) (m8 w5):=p7 ap s5.hb;clear bK bL lb lp b9 aQ;simp only[i5,simprocAttr,bz,e1];refine t8 (bd1 a p i w5 (ha.mono cC) hr hw hi) ?_;rintro uv w6 ⟨cT,bl⟩;have s6:=s5.more bl;have ah:=s5.freshN cT;have b6:=s6.base;have s6:=s6.rebase (n7 _);generalize dR:C1 w6 (nP B v)=K2 at s6 ah b6;generalize(i4 p).verts (i:Int)=V at hF cK ah;have bB:(D.map (af5 q)).length<=41000:=by rw[eg5];exact bN
 generalize D.map (af5 q)=L1 at s6 hF bB;have cB:=ah.isS;have cP:=ah.vlen;clear s5;simp only[i5,n9,simprocAttr,cB,cP];refine D9 [0,1,5,6,65,66] (σ:=Nat×Value) (λt f o=>f 67 = .int .i64 t.1/\t.1<=V.length/\PE K2 w o B a i q I J L M t.2 (L1++(V.take t.1).flatMap (I5 q))) (λt=>V.length-t.1) (0,v) ?_ ?_
 .simp only[B3,simprocAttr];exact⟨by trivial,eg3 _,by simpa using s6⟩
 clear s6;rintro⟨m,v2⟩ f2 w7 hk ⟨C,cJ,s7⟩;simp only at C cJ s7;simp only[ei3,B3,simprocAttr]at hk;obtain⟨a0,a1,a5,a6,am,co,_⟩:=hk;rw[bz]at a0;rw[e1]at a1;rw[e5]at a5;rw[e6]at a6;have ar:(L1++(V.take m).flatMap (I5 q)).length<=80000:=by
  have h1:=P4 (I5 q) 1 (V.take m) λz _=>bi6 q z;rw[eg0]at h1;rw[ef4];have h2:min m V.length<=30000:=by omega
  omega
 simp only[i5,n9,simprocAttr,C,co];refine A4 (λhc=>?_) (λhc=>?_)
 .have A:m<V.length:=by simpa using hc
  have l:=ah.inS A;obtain⟨sv,s,g⟩:=F5 (P:=prog) (t:=26) ah (s7.hb) (ef1 A) ar8 as0 am4 N6;rw[N6]at g;have Q:=I9 (I5 q) V A;generalize V[m]=y at s Q;obtain rfl:=s.N;obtain⟨d8,ej,r,N,O,H,aN⟩:=aL3 (s.mono s7.hb) (n7 _);obtain⟨db,df⟩:=aN.vx;obtain⟨sv,ax,dc,dg⟩:=aN.vx_v;obtain rfl:=ax.N;have l8:=db r (n7 _);have cd:=dc r (n7 _);have S:=s7.more H;have b4:=ca r (p7 b6 S.hb);have aC:=S.more (o6.drew r);have t1:=dg (λo=>o6 r.drew o) r.drew (o8.refl _) λo h=>b7 ((o6.drew r).trans h);have t2:=df (λo=>o6 r.drew o) r.drew (o8.refl _) λo h=>b7 ((o6.drew r).trans h);generalize bm:L1++(V.take m).flatMap (I5 q)=xs at s7 S aC ar;have E:L1++(V.take (m+1)).flatMap (I5 q)=xs++I5 q y:=by rw[Q,<-bm,ei0]
  rcases ef2 (decide (y.kind=3))with h3|h3
  .have hs:I5 q y=[⟨⟨q,1,0,Go.Proofs.YtggahhenbbgffaaGreat.e0⟩,y,1⟩]:=by unfold I5;rw[if_pos (.inl (ef3 h3))]
   simp only[i5,n9,y4,simprocAttr,C,am,l,g,N,O,l8,h3,a5,a6,b4,cd];refine t8 (an8 K2 B a i q I J L M v2 _ ⟨q,1,0,Go.Proofs.YtggahhenbbgffaaGreat.e0⟩ y 1 w r S (by omega)) ?_;rintro _ w9 ⟨v9,Y⟩;simp only[i5,n9,simprocAttr,C];refine⟨(m+1,v9),by omega,eg8 _ (H8 m (by omega)),by omega,?_⟩;simp only[];rw[E,hs];exact Y
  rcases ef2 (decide (y.kind=4))with h4|h4
  .have hs:I5 q y=[⟨⟨q,1,0,Go.Proofs.YtggahhenbbgffaaGreat.e0⟩,y,1⟩]:=by unfold I5;rw[if_pos (.inr (ef3 h4))]
   simp only[i5,n9,y4,simprocAttr,C,am,l,g,N,O,l8,h3,h4,a5,a6,b4,cd];refine t8 (an8 K2 B a i q I J L M v2 _ ⟨q,1,0,Go.Proofs.YtggahhenbbgffaaGreat.e0⟩ y 1 w r S (by omega)) ?_;rintro _ w9 ⟨v9,Y⟩;simp only[i5,n9,simprocAttr,C];refine⟨(m+1,v9),by omega,eg8 _ (H8 m (by omega)),by omega,?_⟩;simp only[];rw[E,hs];exact Y
  have av:¬(y.kind=3\/y.kind=4):=λh=>h.elim (ef7 h3) (ef7 h4);rcases ef2 (decide (y.kind=5))with h5|h5
  .have hs:I5 q y=[⟨⟨q,2,y.id,Go.Proofs.YtggahhenbbgffaaGreat.e0⟩,y,1⟩]:=by unfold I5;rw[if_neg av,if_pos (.inl (ef3 h5))]
   simp only[i5,n9,y4,simprocAttr,C,am,l,g,N,O,l8,h3,h4,h5];refine B9 (λo=>o6 r.drew o) 6 (A5 [0,1,2,3,5,4]) ?_;simp only[D0,A5,i5,n9,simprocAttr,a5,t1,t2];refine B2 (L0 B _ _ q 2 y.id Go.Proofs.YtggahhenbbgffaaGreat.e0 r.drew aC.cb rfl) (λw9 R=>⟨R,?_⟩);simp only[D0,i5,simprocAttr];refine t8 (an8 K2 B a i q I J L M v2 _ ⟨q,2,y.id,Go.Proofs.YtggahhenbbgffaaGreat.e0⟩ y 1 w w9 (aC.more R) (by omega)) ?_;rintro _ ak ⟨aD,F⟩;simp only[i5,n9,simprocAttr,C];refine⟨(m+1,aD),by omega,eg8 _ (H8 m (by omega)),by omega,?_⟩;simp only[];rw[E,hs];exact F
  rcases ef2 (decide (y.kind=6))with h6|h6
  .have hs:I5 q y=[⟨⟨q,2,y.id,Go.Proofs.YtggahhenbbgffaaGreat.e0⟩,y,1⟩]:=by unfold I5;rw[if_neg av,if_pos (.inr (ef3 h6))]
   simp only[i5,n9,y4,simprocAttr,C,am,l,g,N,O,l8,h3,h4,h5,h6];refine B9 (λo=>o6 r.drew o) 6 (A5 [0,1,2,3,5,4]) ?_;simp only[D0,A5,i5,n9,simprocAttr,a5,t1,t2];refine B2 (L0 B _ _ q 2 y.id Go.Proofs.YtggahhenbbgffaaGreat.e0 r.drew aC.cb rfl) (λw9 R=>⟨R,?_⟩);simp only[D0,i5,simprocAttr];refine t8 (an8 K2 B a i q I J L M v2 _ ⟨q,2,y.id,Go.Proofs.YtggahhenbbgffaaGreat.e0⟩ y 1 w w9 (aC.more R) (by omega)) ?_;rintro _ ak ⟨aD,F⟩;simp only[i5,n9,simprocAttr,C];refine⟨(m+1,aD),by omega,eg8 _ (H8 m (by omega)),by omega,?_⟩;simp only[];rw[E,hs];exact F
  have hs:I5 q y=[]:=by
   unfold I5;rw[if_neg av,if_neg λh=>h.elim (ef7 h5) (ef7 h6)]
  simp only[i5,n9,y4,simprocAttr,C,am,l,g,N,O,l8,h3,h4,h5,h6];refine⟨(m+1,v2),by omega,eg8 _ (H8 m (by omega)),by omega,?_⟩;simp only[];rw[E,hs,ei5];exact S
 have T:m=V.length:=by simp at hc;omega
 subst T;rw[eg4]at s7 ar;have cD:B8 (m8 w) (m8 w7):=p7 ap (p7 b6 s7.hb);simp only[i5,simprocAttr,a0,a1];refine t8 (cL5 a p i w7 (ha.mono cD) hr hw hi) ?_;rintro uf r ⟨cR,H⟩;have S:=s7.more H;have af:=s7.freshN cR;have b8:=p7 b6 S.base;have S:=S.rebase (n7 _);generalize dS:C1 r (nP B v2)=K3 at S af b8;generalize(i4 p).flows (i:Int)=Fl at hF cL be af;generalize L1++V.flatMap (I5 q)=L2 at S hF ar;generalize hG:(λf:Fw=>((i4 p).takers q f.dst f.var).map λv=>(⟨(i4 p).giver q f.src f.var,v,2⟩:Eg))=G at hF;have bA:∀f:Fw,G f=((i4 p).takers q f.dst f.var).map λv=>(⟨(i4 p).giver q f.src f.var,v,2⟩:Eg):=λf=>by rw[<-hG]
 have cx:∀f∈Fl,(G f).length<=9:=λf hf=>by
  rw[bA,eg5];exact bb9 hr hw (be f hf).2
 have cz:=af.isS;have cN:=af.vlen;clear s7 hG;simp only[i5,n9,simprocAttr,cz,cN];refine D9 [0,1,5,6,93,94] (σ:=Nat×Value) (λt f o=>f 95 = .int .i64 t.1/\t.1<=Fl.length/\PE K3 w o B a i q I J L M t.2 (L2++(Fl.take t.1).flatMap G)) (λt=>Fl.length-t.1) (0,v2) ?_ ?_
 .simp only[B3,simprocAttr];exact⟨by trivial,eg3 _,by simpa using S⟩
 clear S;rintro⟨k,v3⟩ f3 w9 hk ⟨aJ,bf,Y⟩;simp only at aJ bf Y;simp only[ei3,B3,simprocAttr]at hk;obtain⟨b0,b1,b5,dF,cp,cq,_⟩:=hk;rw[a5]at b5;have aP:(L2++(Fl.take k).flatMap G).length<=50000000:=by
  have h1:=P4 G 9 (Fl.take k) λz hz=>cx z (em8 hz);rw[eg0]at h1;rw[ef4];have h2:min k Fl.length<=5000000:=by omega
  omega
 have bb:B8 (m8 w) K3:=p7 ap b8;simp only[i5,n9,simprocAttr,aJ,cq];refine A4 (λhc=>?_) (λhc=>?_);rotate_left
 .have T:k=Fl.length:=by simp at hc;omega
  subst T;rw[eg4]at Y aP;have l9:(Instr.loadAt 54 (.pointer (some ⟨B,8,none⟩))).run prog w9 = .ok v3 w9:=E7 (i:=8) (u:=v3) Y.cb rfl bj4;simp only[i5,n9,simprocAttr,b5,l9];refine t8 (aY8 Y.ox (by omega) (A8 _ _)) ?_;rintro u ak ⟨bO,bM,_⟩;simp only[i5,simprocAttr];refine o7 results77 ?_;simp only[B3,simprocAttr];refine⟨?_,o8.ext_of Y.ext bM λb hb=>(Y.dx b hb).1⟩;have e:(i4 p).edges (i:Int)=aC5 (L2++Fl.flatMap G):=by unfold Bk.edges;rw[hF]
  rw[e];exact bO.downN (p7 bb Y.base)
 have A:k<Fl.length:=by simpa using hc
 have l:=af.inS A;obtain⟨sv,s,g⟩:=F5 (P:=prog) (t:=210) af (Y.hb) (ef1 A) dk3 dl7 cB5 bJ6;rw[bJ6]at g;have Q:=I9 G Fl A;obtain⟨bQ,bg⟩:=be _ (eg2 A);generalize Fl[k]=fl at s Q bQ bg;obtain⟨dH,dB,ak,a2,bh,bW,a7⟩:=dx3 (s.mono Y.hb) (n7 _);obtain⟨cc,_⟩:=a7.fw;have c0:=cc ak (n7 _);have F:=Y.more bW;simp only[i5,n9,y4,simprocAttr,aJ,cp,l,g,a2,bh,c0,b5];refine B2 (cQ1 B _ _ a p q fl.src fl.var ak F.cb rfl rfl (ha.mono (p7 bb F.hb)) hr hw bQ) (λbp aU=>?_);have bn:=F.more aU;have aZ:=bA fl;generalize(i4 p).giver q fl.src fl.var=gv at aZ;obtain⟨dI,dC,cg,a3,bi,aV,a8⟩:=ap9 (w:=bp) (nP B v3) (SV.ofN (m8 bp) gv) λb hb=>bn.lt hb;have aA:=bn.more aV;have c5:=cc cg (b7 (aU.trans aV));simp only[i5,n9,simprocAttr,a3,bi,c5,b5];refine t8 (cA7 B _ _ a p q fl.dst fl.var cg aA.cb rfl rfl (ha.mono (p7 bb aA.hb)) hr hw bg) ?_;rintro ut dj ⟨cS,aW⟩;have W:=aA.more aW;have ag:=aA.freshN cS;have an:=a8.mono (K0 (N':=nP B v3) aW (λ_ h=>h.elim) λb h=>.inl h);have bw:=W.base;have W:=W.rebase (n7 _);generalize dT:C1 dj (nP B v3)=K4 at W ag an bw;obtain⟨c7,_⟩:=I6.vx_v (SV.ofN (m8 bp) gv) an;have cV:=bb9 hr hw (q:=q) (n:=fl.var) bg;generalize(i4 p).takers q fl.dst fl.var=Tk at aZ ag cV;generalize bm:L2++(Fl.take k).flatMap G=xs at W aP;have E:L2++(Fl.take (k+1)).flatMap G=xs++Tk.map λv=>(⟨gv,v,2⟩:Eg):=by rw[Q,aZ,<-bm,ei0]
 have cA:=ag.isS;have cO:=ag.vlen;clear Y F bn aA;simp only[i5,n9,simprocAttr,cA,cO];refine D9 [0,1,5,6,14,93,94,95,110,111] (σ:=Nat×Value) (λt f o=>f 112 = .int .i64 t.1/\t.1<=Tk.length/\PE K4 w o B a i q I J L M t.2 (xs++(Tk.take t.1).map λv=>(⟨gv,v,2⟩:Eg))) (λt=>Tk.length-t.1) (0,v3) ?_ ?_
 .simp only[B3,simprocAttr];exact⟨by trivial,eg3 _,by simpa using W⟩
 clear W;rintro⟨j,v4⟩ f4 ef hk ⟨aa,cI,X⟩;simp only at aa cI X;simp only[ei3,B3,simprocAttr]at hk;obtain⟨j0,j1,j5,j6,cZ,d0,d1,b3,bZ,b2,_⟩:=hk;rw[b5]at j5;rw[aJ]at b3;simp only[i5,n9,simprocAttr,aa,b2];refine A4 (λbc=>?_) (λbc=>?_);rotate_left
 .have T:j=Tk.length:=by simp at bc;omega
  subst T;rw[eg4]at X;simp only[i5,n9,simprocAttr,b3];refine⟨(k+1,v4),by omega,eg8 _ (H8 k (by omega)),by omega,?_⟩;simp only[];rw[E];exact X.rebase (p7 bw X.base)
 have au:j<Tk.length:=by simpa using bc
 clear l g s;have l:=ag.inS au;obtain⟨sv,s,g⟩:=F5 (P:=prog) (t:=26) ag (X.hb) (ef1 au) ar8 as0 am4 N6;rw[N6]at g;have aT:=aE6 (λv=>(⟨gv,v,2⟩:Eg)) Tk au;have bd:(xs++(Tk.take j).map λv=>(⟨gv,v,2⟩:Eg)).length<=1000000000:=by
  rw[ef4,eg5,eg0];omega
 generalize Tk[j]=tv at s aT;obtain rfl:=s.N;obtain⟨dJ,dD,bq,a4,bj,ae,a9⟩:=aL3 (s.mono X.hb) (n7 _);obtain⟨sv,ax,da,_⟩:=a9.vx_v;obtain rfl:=ax.N;have ce:=X.more ae;have lg:=c7 bq ce.hb;have lt:=da bq (n7 _);simp only[i5,n9,y4,simprocAttr,aa,bZ,l,g,a4,bj,j5,cZ,lg,lt];refine t8 (an8 K4 B a i q I J L M v4 _ gv tv 2 w bq ce bd) ?_;rintro _ eg ⟨dh,dd⟩;simp only[i5,n9,simprocAttr,aa];refine⟨(j+1,dh),by omega,eg8 _ (H8 j (by omega)),by omega,?_⟩;simp only[];rw[aT,<-ei0];exact dd
def dg5(x:Option Addr):C4 prog .eql 87 (.pointer x) (.pointer none)=some (.bool x.isNone):=aO5 rfl (by kernel_rfl)
def bO7{p:Pg}{i:Nat}(b:D3 p)(hw:B7 p<=1000000)(a:i<p.procs.length):((i4 p).edges (i:Int)).length<=60000000:=by
 have e:=br0 b hw a;have g:(((i4 p).verts (i:Int)).flatMap (I5 p.procs[i].name)).length<=((i4 p).verts (i:Int)).length*1:=P4 _ 1 _ λv _=>bi6 _ v;have h:=aW0 b hw a;have j:=bP1 b hw a;have k:(((i4 p).flows (i:Int)).flatMap λf=>((i4 p).takers p.procs[i].name f.dst f.var).map λv=>(⟨(i4 p).giver p.procs[i].name f.src f.var,v,2⟩:Eg)).length<=((i4 p).flows (i:Int)).length*9:=P4 _ 9 _ λf d=>by
  rw[eg5];exact bb9 b hw (br8 b hw a d).2
 have c:(i4 p).edge0 (i:Int)=(D7 (d9 p) i).decides.map (af5 p.procs[i].name)++((i4 p).verts (i:Int)).flatMap (I5 p.procs[i].name)++((i4 p).flows (i:Int)).flatMap λf=>((i4 p).takers p.procs[i].name f.dst f.var).map λv=>(⟨(i4 p).giver p.procs[i].name f.src f.var,v,2⟩:Eg):=by
  unfold Bk.edge0;rw[M3 a,L9 a]
 unfold Bk.edges aC5;refine ef9 (av6 _) ?_;rw[(G1 cO7 _).length_eq,c];simp only[ef4,eg5]at *;omega
section
variable {p:Pg}
def aH3(K:Known p){n:A9}(hn:n∈p.procs.map (·.name)):∀x∈(i4 p).calledBy n,x∈p.procs.map (·.name):=by
 intro x c;obtain⟨i,f,e,h⟩:=T3 hn;unfold Bk.calledBy at c;rw[eh4]at c;obtain⟨it,a,rfl⟩:=c;rw[eh8]at a;have g:(i4 p).s=d9 p:=rfl;rw[g,e]at a;have d:it.s.kind=4:=by
  have:=a.2;rw[eh5]at this;exact ef3 this.1
 have b:=(K.proc i f).2.2 it a.1;unfold ai3 at b;simp only[d,decide_true,Bool.not_true,er3,eh5,eg7]at b
 first
 | exact b.2.1.2
 | exact b.2.2
 | exact b.1.2.2
 | simp_all
def aZ9(K:Known p):L5∈p.procs.map (·.name):=by
 obtain⟨i,q,b,a,_⟩:=K.main;exact eh4.2 ⟨q,eh3 b,a⟩
def bG1(K:Known p):(R5 (i4 p).calledBy 1000 0 [L5]).Nodup/\∀n∈R5 (i4 p).calledBy 1000 0 [L5],n∈p.procs.map (·.name):=
 aH4 (λm hm=>aH3 K hm) 1000 0 [L5] (by simp) (λx a=>by simp at a;subst a;exact aZ9 K)
def bf8:L5∈(i4 p).reached:=aa2.2 (aZ1 _ _ _ _ _ (by simp))
def bh7(K:Known p){n:A9}(hn:n∈(i4 p).reached):n∈p.procs.map (·.name):=(bG1 K).2 n (aa2.1 hn)
def aX6(K:Known p):(i4 p).reached.Nodup:=(W4 _).nodup_iff.2 (bG1 K).1
def ca1(K:Known p):(i4 p).reached.Pairwise λa b=>ltS a b=true:=by
 refine((au8 _).and (aX6 K)).imp fun{a b} ⟨h1,h2⟩=>?_;refine eo7 λh=>h2 ?_;have c:ltS a b=false:=by simpa using h
 exact bY5 c (aa0.2 h1)
def cV9{b:Bk}{i:Int}{v:Vx}(h:v∈b.verts i):v.proc=(b.s.fn i).name:=by
 rcases N4.1 (an6.1 h)with rfl|⟨_,_,rfl⟩|⟨_,_,rfl⟩|⟨_,_,rfl|⟨_,⟨_,_,rfl⟩|⟨_,_,rfl⟩⟩⟩<;>rfl
def bF2{v:Vx}:v∈(i4 p).wv↔∃n∈(i4 p).reached,v∈(i4 p).verts ((i4 p).s.pr n):=ei7
def Y9(K:Known p){n:A9}(hn:n∈(i4 p).reached):∃(i:Nat) (a:i<p.procs.length),(i4 p).s.pr n=(i:Int)/\((i4 p).s.fn (i:Int)).name=n:=by
 obtain⟨i,a,e,b⟩:=T3 (bh7 K hn);exact⟨i,a,e,by rw[M3 a,b]⟩
def aq0(K:Known p){n:A9}(hn:n∈(i4 p).reached){v:Vx}(hv:v∈(i4 p).verts ((i4 p).s.pr n)):v.proc=n:=by
 obtain⟨i,b,e,a⟩:=Y9 K hn;rw[cV9 hv,e,a]
def cx3{a b:Vx}(h:ltS a.proc b.proc=true):S9 a b=true:=by
 unfold S9;rw[if_pos (λe=>by rw[e,N1]at h;cases h)];exact h
def df5{a b:Vx}(h:S9 a b=true):a≠b:=by
 rintro rfl;rw[aQ8,dn5]at h;simp at h
def cK5(c:D3 p)(hw:B7 p<=1000000):(i4 p).wv.Pairwise λu v=>S9 u v=true:=by
 have K:=c.toKnown;unfold Bk.wv;rw[List.pairwise_flatMap];refine⟨λn f=>?_,?_⟩
 .obtain⟨i,d,e,_⟩:=Y9 K f;obtain⟨x,g⟩:=I1 c.may hw i d;rw[e];exact cC2 (cp9 c hw d g)
 .refine List.Pairwise.imp_of_mem (fun{a b} ha hb hlt x hx y hy=>?_) (ca1 K);exact cx3 (by rw[aq0 K ha hx,aq0 K hb hy];exact hlt)
def aA2(a:D3 p)(hw:B7 p<=1000000):(i4 p).wv.Nodup:=(cK5 a hw).imp λh=>df5 h
def dy7(K:Known p):(⟨L5,1,0,e0⟩:Vx)∈(i4 p).wv:=by
 obtain⟨i,b,e,a⟩:=Y9 K bf8;exact bF2.2 ⟨L5,bf8,by rw[e];exact an6.2 (N4.2 (.inl (by rw[a])))⟩
def ag5(K:Known p):0<(i4 p).wv.length:=List.length_pos_of_mem (dy7 K)
end
theorem bF6{V:List Vx}:∀{b:List Vx} {l:List Int},N8 V b=some l->(∀v∈b,v∈V)/\l=b.map λv=>((E5 V v:Nat):Int)
 | [],l,h=>by
  simp only[N8,eq4]at h;subst h;simp
 | v::b,l,h=>by
  rw[N8]at h;cases ha:atV V v with
  | none=>rw[ha]at h;simp at h
  | some a=>
   cases hb:N8 V b with
   | none=>rw[ha,hb]at h;simp at h
   | some r=>
    rw[ha,hb]at h;simp only[eq4]at h;subst h;obtain⟨d,e⟩:=bF6 hb;refine⟨λu c=>?_,?_⟩
    .rcases eh0.1 c with rfl|c
     .exact ab2.1 (by rw[ha];rfl)
     .exact d u c
    .rw[ej9,<-e];unfold E5;rw[ha];rfl
def aE9{V:List Vx}:∀{b:List Vx},N8 V b=none↔∃v∈b,v∉V
 | []=>by simp[N8]
 | v::b=>by
  rw[N8];cases ha:atV V v with
  | none=>
   have c:v∉V:=λh=>by have:=ab2.2 h;rw[ha]at this;cases this
   simp[c]
  | some a=>
   have c:v∈V:=ab2.1 (by rw[ha];rfl);cases hb:N8 V b with
   | none=>simpa[c]using aE9.1 hb
   | some r=>
    have:¬∃u∈b,u∉V:=λh=>by rw[aE9.2 h]at hb;cases hb
    simp only[not_exists,not_and,Classical.not_not]at this;simp[c];exact this
def ar0{V:List Vx}{v:Vx}(h:v∈V):V[E5 V v]?=some v:=by
 obtain⟨a,b⟩:=el1.1 (ab2.2 h);have:=bd4 b;unfold E5;rw[b];exact this
def cI0{V:List Vx}(hn:V.Nodup){v:Vx}{a:Nat}(h:V[a]?=some v):E5 V v=a:=by
 unfold E5;rw[dq0 hn h];rfl
section
variable {p:Pg} {vs:List Vx} {l:List Int} {v w:Vx}
def cd5(p:Pg)(v u:Vx):Prop:=dD2 (i4 p).wv (i4 p).all (E5 (i4 p).wv v) (E5 (i4 p).wv u)
end
section
variable {p:Pg}
def dZ9(hm:M8 p=true)(hw:B7 p<=1000000){it:It}(h:it∈(d9 p).l):∃(i:Nat) (o:i<p.procs.length),it∈(d9 p).of i:=by
 have g:=h;unfold d9 at h;rcases bn6 _ _ _ _ h with h|⟨k,a,x,h⟩
 .simp at h
 obtain⟨y,j,e⟩:=V2 p hw k a;have l:it.s∈((d9 p).of k).map (·.s):=by
  rw[e,al5 _ y x _ _ _ _ ((0+k:Nat):Int) 0 (-1) 0];exact eh4.2 ⟨it,h,rfl⟩
 obtain⟨m,c,f⟩:=eh4.1 l;obtain⟨z,n⟩:=I1 hm hw k a;have d:=(bt3 hm g).2.1;have b:=(bt3 hm (aW9 n c)).2.1;rw[f,d]at b;exact⟨k,a,by rw[b];exact c⟩
def bx3(hm:M8 p=true)(hw:B7 p<=1000000){id:Int}(e:1<=id)(f:id<=(d9 p).l.length):∃(i:Nat) (a:i<p.procs.length),(d9 p).it id∈(d9 p).of i/\((d9 p).it id).proc=(i:Int)/\((d9 p).it id).s.id=id:=by
 have c:(id-1).toNat<(d9 p).l.length:=by omega
 have d:(d9 p).l[(id-1).toNat]?=some ((d9 p).it id):=by
  unfold Sh.it;rw[List.getD_eq_getElem?_getD,ef1 c];rfl
 have b:=aw3 hm _ _ d;obtain⟨i,a,h⟩:=dZ9 hm hw (eh3 d);exact⟨i,a,h,au6 p hw i a _ h,by rw[b];omega⟩
end
section
variable {p:Pg} {v:Vx} {e:Eg}
def cx8:e∈(i4 p).we↔e∈(i4 p).we0:=by
 unfold Bk.we aC5;rw[an5,(G1 cO7 _).mem_iff]
def aM9(K:Known p)(hv:v∈(i4 p).wv):∃(i:Nat) (a:i<p.procs.length),p.procs[i].name∈(i4 p).reached/\v.proc=p.procs[i].name/\v∈(i4 p).vert0 (i:Int):=by
 obtain⟨n,b,hv⟩:=bF2.1 hv;obtain⟨i,a,e,c⟩:=Y9 K b;have d:=aq0 K b hv;rw[M3 a]at c;rw[e]at hv;exact⟨i,a,by rw[c];exact b,by rw[d,c],an6.1 hv⟩
def cQ9{n:A9}{c:Nat}(b:c<p.procs.length)(h:af8 p.procs n=(c:Int)):p.procs[c].name=n:=by
 obtain⟨k,e,x,a,d⟩:=aQ3 _ p.procs 0 (by unfold af8 at h;rw[h];omega);unfold af8 at h;rw[h]at e;obtain rfl:c=k:=by omega
 rw[ef1 b]at a;obtain rfl:=eh1 a;simpa using d
def aU7(K:Known p){i:Nat}(g:i<p.procs.length):(i4 p).s.pr p.procs[i].name=(i:Int):=by
 obtain⟨k,l,e,m⟩:=T3 (eh4.2 ⟨_,eg2 g,rfl⟩:p.procs[i].name∈p.procs.map (·.name));have f:k=i:=by
  have d:=em0.1 K.names;have c:k<(p.procs.map (·.name)).length:=by simpa using l
  have b:i<(p.procs.map (·.name)).length:=by simpa using g
  have a:(p.procs.map (·.name))[k]=(p.procs.map (·.name))[i]:=by rw[em7,em7];exact m
  rcases Nat.lt_trichotomy k i with h|h|h
  .exact absurd a (d k i c b h)
  .exact h
  .exact absurd a.symm (d i k b c h)
 have j:(i4 p).s.pr p.procs[i].name=(k:Int):=e;rw[j,f]
def bU8(K:Known p){i:Nat}(a:i<p.procs.length)(b:p.procs[i].name∈(i4 p).reached)(h:v∈(i4 p).vert0 (i:Int)):v∈(i4 p).wv:=
 bF2.2 ⟨_,b,by rw[aU7 K a];exact an6.2 h⟩
structure bV5 (p:Pg) (i:Nat) (v:Vx):Prop where
 mem:(d9 p).it v.id∈(d9 p).of i
 id:((d9 p).it v.id).s.id=v.id
 st:v.kind=2->v.slot=e0
 call:v.kind≠2->((d9 p).it v.id).s.kind=4
 sin:v.kind=5->v.slot∈(i4 p).slotsIn ((i4 p).s.pr ((d9 p).it v.id).s.proc)
 out:v.kind=6->v.slot∈(i4 p).callOut ((d9 p).it v.id).s
def aB9(hm:M8 p=true)(hw:B7 p<=1000000){i:Nat}(g:i<p.procs.length)(h:v∈(i4 p).vert0 (i:Int))(b:v.kind=2\/v.kind=5\/v.kind=6):bV5 p i v:=by
 obtain⟨y,k⟩:=I1 hm hw i g;have j:(i4 p).s=d9 p:=rfl;rcases N4.1 h with rfl|⟨_,_,rfl⟩|⟨_,_,rfl⟩|⟨it,a,f⟩
 .simp at b
 .simp at b
 .simp at b
 rw[j]at a;have e:=(bt3 hm (aW9 k a)).2.1;rcases f with rfl|⟨d,⟨n,c,rfl⟩|⟨n,c,rfl⟩⟩
 .exact⟨by rw[e];exact a,by rw[e],λ_=>rfl,λh=>absurd rfl h,λh=>by simp at h,λh=>by simp at h⟩
 .exact⟨by rw[e];exact a,by rw[e],λh=>by simp at h,λ_=>by rw[e];exact d,λ_=>by rw[e];exact c,λh=>by simp at h⟩
 .exact⟨by rw[e];exact a,by rw[e],λh=>by simp at h,λ_=>by rw[e];exact d,λh=>by simp at h,λ_=>by rw[e];exact c⟩
def bL2(a:D3 p){n x:A9}(hn:n∈(i4 p).reached)(d:x∈(i4 p).calledBy n):x∈(i4 p).reached:=by
 have K:=a.toKnown;refine aa2.2 (aC1 (λm hm=>aH3 K hm) 1000 0 [L5] (by simp) (λy b=>by simp at b;subst b;exact aZ9 K) ?_ (eg3 _) (λk y c=>absurd c (Nat.not_lt_zero _)) n (aa2.1 hn) x d);have:=(T0 a.may).2;simp only[eg5];omega
def dq7(e:D3 p)(hw:B7 p<=1000000){i:Nat}(f:i<p.procs.length)(hn:p.procs[i].name∈(i4 p).reached)(hv:bV5 p i v)(a:(i4 p).isCall v.id=true):
  ∃(c:Nat) (a:c<p.procs.length),aC0 p ((d9 p).it v.id).s c/\((d9 p).it v.id).s.proc=p.procs[c].name/\p.procs[c].name∈(i4 p).reached/\(i4 p).s.pr ((d9 p).it v.id).s.proc=(c:Int):=by
 have j:(i4 p).s=d9 p:=rfl;obtain⟨y,k⟩:=I1 e.may hw i f;unfold Bk.isCall at a;rw[j,au6 p hw i f _ hv.mem,eh5]at a;have h:=ef3 a.1;obtain⟨c,d⟩:=Y6 (e.fits _ (aW9 k hv.mem) h);have g:(i4 p).s.pr ((d9 p).it v.id).s.proc=(c:Int):=d.pr;have b:=(cQ9 d.lt d.idx).symm;refine⟨c,d.lt,d,b,?_,g⟩;rw[<-b];refine bL2 e hn ?_;unfold Bk.calledBy;refine eh4.2 ⟨(d9 p).it v.id,eh8.2 ⟨?_,?_⟩,rfl⟩
 .rw[aU7 e.toKnown f];exact hv.mem
 .rw[aU7 e.toKnown f,hv.id,h,a.2];rfl
structure cC9 (p:Pg) (v:Vx) (e:Eg):Prop where
 mem:v∈(i4 p).wv
 src:e.src∈(i4 p).wv
 dst:e.dst∈(i4 p).wv
 kind:(e.kind=4/\e.src=v/\v.kind=2/\e.dst=⟨((d9 p).it v.id).s.proc,1,0,e0⟩)\/(e.kind=5/\e.src=v/\v.kind=5/\e.dst=⟨((d9 p).it v.id).s.proc,3,0,v.slot⟩) \/
  (e.kind=6/\e.dst=v/\v.kind=6/\e.src=⟨((d9 p).it v.id).s.proc,4,0,v.slot⟩)
def dt8(m:D3 p)(hw:B7 p<=1000000)(hv:v∈(i4 p).wv)(d:e∈(i4 p).joinOf v):cC9 p v e:=by
 have K:=m.toKnown;have u:(i4 p).s=d9 p:=rfl;unfold Bk.joinOf at d;rw[u]at d;split at d
 .simp at d
 next r=>
 have q:(i4 p).isCall v.id=true:=by
  cases h:(i4 p).isCall v.id with
  | true=>rfl
  | false=>exact absurd (.inr h) r
 obtain⟨i,o,t,w,k⟩:=aM9 K hv;have n:(v.kind=2\/v.kind=5\/v.kind=6)->bV5 p i v/\∃(c:Nat) (q:c<p.procs.length),aC0 p ((d9 p).it v.id).s c/\((d9 p).it v.id).s.proc=p.procs[c].name/\p.procs[c].name∈(i4 p).reached/\(i4 p).s.pr ((d9 p).it v.id).s.proc=(c:Int):=λb=>
  ⟨aB9 m.may hw o k b,dq7 m hw o t (aB9 m.may hw o k b) q⟩
 split at d
 .next b=>
  obtain⟨f,c,a,_,g,j,l⟩:=n (.inl b);obtain rfl:=eh2.1 d;refine⟨hv,hv,?_,.inl ⟨rfl,rfl,b,rfl⟩⟩;exact bU8 K a j (N4.2 (.inl (by rw[M3 a,g])))
 split at d
 .next b=>
  obtain⟨f,c,a,_,g,j,l⟩:=n (.inr (.inl b));obtain rfl:=eh2.1 d;refine⟨hv,hv,?_,.inr (.inl ⟨rfl,rfl,b,rfl⟩)⟩;have:=f.sin b;rw[l]at this;exact bU8 K a j (N4.2 (.inr (.inl ⟨v.slot,this,by rw[M3 a,g]⟩)))
 split at d
 .next b=>
  obtain⟨f,c,a,_,g,j,l⟩:=n (.inr (.inr b));obtain rfl:=eh2.1 d;refine⟨hv,?_,hv,.inr (.inr ⟨rfl,rfl,b,rfl⟩)⟩;have:=f.out b;unfold Bk.callOut at this;rw[l]at this;have s:v.slot∈(i4 p).slotsOut (c:Int):=by
   split at this
   .exact(eh8.1 this).1
   .exact this
  exact bU8 K a j (N4.2 (.inr (.inr (.inl ⟨v.slot,s,by rw[M3 a,g]⟩))))
 .simp at d
def aG3(d:E0 p=true)(hw:B7 p<=1000000)(m:e∈(i4 p).we):(e.src∈(i4 p).wv/\e.dst∈(i4 p).wv/\(e.kind=1\/e.kind=2))\/∃v,cC9 p v e:=by
 have f:=G6 d;have K:=f.toKnown;rcases eg1.1 (cx8.1 m)with h|h
 .obtain⟨n,b,h⟩:=ei7.1 h;obtain⟨i,a,g,c⟩:=Y9 K b;rw[g]at h;rw[M3 a]at c;obtain⟨j,k,l⟩:=db2 d hw a e (bm6.1 h);exact .inl ⟨bU8 K a (by rw[c];exact b) j,bU8 K a (by rw[c];exact b) k,l⟩
 .obtain⟨v,o,h⟩:=ei7.1 h;exact .inr ⟨v,dt8 f hw o h⟩
end
section
variable {p:Pg} {a v u:Vx} {e:Eg} {o:List Int}
def bd2(p:Pg)(ks:List Int)(v u:Vx):Prop:=Z5 (R4 (i4 p).wv (i4 p).all ks) (E5 (i4 p).wv v) (E5 (i4 p).wv u)
def ag6(K:Known p){ks:List Int}(a:e∈(i4 p).all)(b:e.kind∈ks):bd2 p ks e.src e.dst:=
 .one (ay5.2 ⟨aJ5 (ag5 K) _,e,a,b,rfl,rfl⟩)
def aG9(h:e∈(i4 p).we):e∈(i4 p).all:=ei1 _ h
def aW1{ks a:List Int}(h:∀k∈ks,k∈a)(hw:bd2 p ks v u):bd2 p a v u:=by
 unfold bd2 at *;generalize((E5 (i4 p).wv u:Nat):Int)=x at hw ⊢
 induction hw with
 | refl=>exact .refl
 | step _ g j=>
  obtain⟨b,e,i,c,d,f⟩:=ay5.1 g;exact .step j (ay5.2 ⟨b,e,i,h _ c,d,f⟩)
def bz1(p:Pg)(a:Vx):List Int->Vx->Prop
 | [],v=>bd2 p [1,2,3,6] a v
 | id::o,v=>∃e,bz1 p a o e.src/\e∈(i4 p).we/\(e.kind=4\/e.kind=5)/\e.src.id=id/\bd2 p [1,2,3] e.dst v
def bz1.fit(K:Known p):∀{o:List Int} {v:Vx},bz1 p a o v->cd5 p a v
 | [],v,h=>⟨_,h,.refl⟩
 | id::o,v,⟨e,h1,h2,h3,h4,h5⟩=>by
  obtain⟨m,b,c⟩:=bz1.fit K h1;refine⟨m,b,(Z5.trans c ?_).trans (aW1 (ks:=[1,2,3]) (by simp) h5)⟩;exact ag6 K (aG9 h2) (by rcases h3 with h|h<;>simp[h])
end
def bY1(k:Nat)(V:List Vx):List (Vx×Value):=(V.zipIdx k).map λx=>(x.1,.int .i64 (x.2:Int))
def as4(V:List Vx):List (Vx×Value):=bY1 0 V
def bP6(v:Vx):∀(V:List Vx) (k:Nat),al6 (bY1 k V) v=(V.findIdx? λx=>decide (x=v)).map λa=>.int .i64 ((k+a:Nat):Int)
 | [],k=>rfl
 | x::V,k=>by
  have c:=bP6 v V (k+1);unfold al6 bY1 at *;rw[List.zipIdx_cons,ej9,List.find?_cons,List.findIdx?_cons];by_cases h:v=x
  .subst h;simp
  .have b:¬x=v:=λe=>h e.symm;simp only[h,b,decide_false,em5,en5];rw[c];cases V.findIdx? (λx=>decide (x=v))with
   | none=>rfl
   | some a=>
    simp only[el5];rw[show k+1+a=k+(a+1) by omega]
def aT4(V:List Vx)(v:Vx):al6 (as4 V) v=(atV V v).map λa=>.int .i64 (a:Int):=by
 unfold as4 atV;rw[bP6];simp
def dt9(V:List Vx)(v:Vx):as4 (V++[v])=as4 V++[(v,.int .i64 (V.length:Int))]:=by
 unfold as4 bY1;rw[List.zipIdx_append,ei4];simp
def dF1{V:List Vx}{v:Vx}(h:v∉V):al6 (as4 V) v=none:=by
 rw[aT4];cases e:atV V v with
 | none=>rfl
 | some a=>exact absurd (ab2.1 (by rw[e];rfl)) h
def cx1(V:List Vx)(v:Vx):(al6 (as4 V) v).getD (.int .i64 0) = .int .i64 ((E5 V v:Nat):Int):=by
 rw[aT4];unfold E5;cases atV V v<;>rfl
def Z6(V:List Vx)(L:List Eg):List (List (Int×Int)):=(List.range V.length).map λa=>(L.filter λe=>decide (E5 V e.src=a)).map λe=>(((E5 V e.dst:Nat):Int),e.kind)
def X5(V:List Vx)(L:List Eg):List (List (Int×Int)):=(List.range V.length).map λa=>(L.filter λe=>decide (E5 V e.dst=a)).map λe=>(((E5 V e.src:Nat):Int),e.kind)
def ab5(R:List (List (Int×Int)))(ks:List Int):List (List Int):=R.map λr=>(r.filter λt=>ks.contains t.2).map (·.1)
def aU3{V:List Vx}{L:List Eg}:(Z6 V L).length=V.length:=by simp[Z6]
def aU8{V:List Vx}{L:List Eg}:(X5 V L).length=V.length:=by simp[X5]
def cR1(V:List Vx)(L:List Eg)(ks:List Int):ab5 (Z6 V L) ks=R4 V L ks:=by
 unfold ab5 Z6 R4;rw[List.map_map];refine List.map_congr_left λa _=>?_;simp only[Function.comp,List.filter_map,List.map_map,List.filter_filter];rfl
def bQ0(V:List Vx)(L:List Eg)(ks:List Int):ab5 (X5 V L) ks=ab7 V L ks:=by
 unfold ab5 X5 ab7;rw[List.map_map];refine List.map_congr_left λa _=>?_;simp only[Function.comp,List.filter_map,List.map_map,List.filter_filter];rfl
def cS8(V:List Vx):Z6 V []=List.replicate V.length []:=by
 apply em6
 .simp[Z6]
 .intro j a b;simp[Z6]
def cT5(V:List Vx):X5 V []=List.replicate V.length []:=by
 apply em6
 .simp[X5]
 .intro j a b;simp[X5]
def bR4{V:List Vx}{L:List Eg}{a:Nat}(h:a<V.length):(Z6 V L)[a]?=some ((L.filter λe=>decide (E5 V e.src=a)).map λe=>(((E5 V e.dst:Nat):Int),e.kind)):=by simp[Z6,h]
def cT4{V:List Vx}{L:List Eg}{a:Nat}(h:a<V.length):(X5 V L)[a]?=some ((L.filter λe=>decide (E5 V e.dst=a)).map λe=>(((E5 V e.src:Nat):Int),e.kind)):=by simp[X5,h]
def cy2{V:List Vx}(L:List Eg)(e:Eg):Z6 V (L++[e])=(Z6 V L).set (E5 V e.src) (((L.filter λx=>decide (E5 V x.src=E5 V e.src)).map λx=>(((E5 V x.dst:Nat):Int),x.kind))++[(((E5 V e.dst:Nat):Int),e.kind)]):=by
 apply em6
 .simp[Z6]
 .intro j a b;rw[List.getElem_set];simp only[Z6,em7,es1,el7,ei4];by_cases hj:E5 V e.src=j
  .subst hj;simp[]
  .rw[if_neg hj];simp[hj]
def cy9{V:List Vx}(L:List Eg)(e:Eg):X5 V (L++[e])=(X5 V L).set (E5 V e.dst) (((L.filter λx=>decide (E5 V x.dst=E5 V e.dst)).map λx=>(((E5 V x.src:Nat):Int),x.kind))++[(((E5 V e.src:Nat):Int),e.kind)]):=by
 apply em6
 .simp[X5]
 .intro j a b;rw[List.getElem_set];simp only[X5,em7,es1,el7,ei4];by_cases hj:E5 V e.dst=j
  .subst hj;simp[]
  .rw[if_neg hj];simp[hj]
def OkA(n:Nat)(R:List (List (Int×Int))):Prop:=∀r∈R,r.length<=1000000000/\∀t∈r,I2 n t.1=true/\1<=t.2/\t.2<=6
def dh2{V:List Vx}{L:List Eg}(b:0<V.length)(d:∀e∈L,1<=e.kind/\e.kind<=6)(f:L.length<=1000000000):OkA V.length (Z6 V L):=λr g=>by
 obtain⟨a,_,rfl⟩:=eh4.1 g;refine⟨by rw[eg5];exact ef9 (eh9 _ _) f,λt h=>?_⟩;obtain⟨e,c,rfl⟩:=eh4.1 h;exact⟨aJ5 b _,d e (eh8.1 c).1⟩
def cl4{V:List Vx}{L:List Eg}(b:0<V.length)(d:∀e∈L,1<=e.kind/\e.kind<=6)(f:L.length<=1000000000):OkA V.length (X5 V L):=λr g=>by
 obtain⟨a,_,rfl⟩:=eh4.1 g;refine⟨by rw[eg5];exact ef9 (eh9 _ _) f,λt h=>?_⟩;obtain⟨e,c,rfl⟩:=eh4.1 h;exact⟨aJ5 b _,d e (eh8.1 c).1⟩
def cj6{R:List (List (Int×Int))}{ks:List Int}{a b:Int}:b∈D4 (ab5 R ks) a↔I2 R.length a=true/\∃k∈ks,(b,k)∈R.getD a.toNat []:=by
 unfold ab5;have d:∀c:Nat,(R.map λr=>(r.filter λt=>ks.contains t.2).map (·.1)).getD c []=((R.getD c []).filter λt=>ks.contains t.2).map (·.1):=λc=>by
  simp only[List.getD_eq_getElem?_getD,ei9];cases R[c]?<;>rfl
 unfold D4;by_cases h:I2 R.length a=true
 .rw[eg5,if_pos (B4.1 h),d];constructor
  .intro hm;obtain⟨t,i,rfl⟩:=eh4.1 hm;obtain⟨f,e⟩:=eh8.1 i;exact⟨h,t.2,eg7.1 e,f⟩
  .rintro⟨_,k,g,hm⟩;exact eh4.2 ⟨(b,k),eh8.2 ⟨hm,eg7.2 g⟩,rfl⟩
 .rw[eg5,if_neg λe=>h (B4.2 e)];simp[h]
def dh3{R:List (List (Int×Int))}{ks:List Int}(h:OkA R.length R):OkR (ab5 R ks):=λa b f=>by
 obtain⟨d,k,_,hm⟩:=cj6.1 f;have g:(ab5 R ks).length=R.length:=by simp[ab5]
 rw[g];have e:=B4.1 d;have c:a.toNat<R.length:=by omega
 rw[List.getD_eq_getElem?_getD,ef1 c]at hm;exact((h _ (eg2 c)).2 _ hm).1
structure SpJ (nx:List (List Int)) (S0:List Bool) (todo:List Int) (S:List Bool) (x:Int->Prop):Prop where
 len:S.length=S0.length
 sub:∀b,B1 S0 b=true->B1 S b=true
 via:∀b,B1 S b=true->∃a,B1 S0 a=true/\Z5 nx a b
 td:∀c∈todo,B1 S c=true
 done:∀c,B1 S c=true->c∈todo\/x c\/∀d∈D4 nx c,B1 S d=true
section
variable {nx:List (List Int)} {S0 S:List Bool} {todo:List Int} {x:Int->Prop}
def SpJ.start:SpJ nx S0 (af0 S0) S0 (λ_=>False):=
 ⟨rfl,λ_ h=>h,λb h=>⟨b,h,.refl⟩,λc a=>ag8.1 a,λc a=>.inl (ag8.2 a)⟩
def SpJ.pop{c:Int}(h:SpJ nx S0 (todo++[c]) S (λ_=>False)):SpJ nx S0 todo S (λd=>d=c)/\B1 S c=true:=by
 refine⟨⟨h.len,h.sub,h.via,λd e=>h.td d (ei1 _ e),λd e=>?_⟩,h.td c (by simp)⟩;rcases h.done d e with a|a|a
 .rcases eg1.1 a with b|b
  .exact .inl b
  .exact .inr (.inl (by simpa using b))
 .exact a.elim
 .exact .inr (.inr a)
def SpJ.close{c:Int}(h:SpJ nx S0 todo S (λd=>d=c))(e:∀d∈D4 nx c,B1 S d=true):SpJ nx S0 todo S (λ_=>False):=by
 refine⟨h.len,h.sub,h.via,h.td,λd b=>?_⟩;rcases h.done d b with a|a|a
 .exact .inl a
 .subst a;exact .inr (.inr e)
 .exact .inr (.inr a)
def SpJ.push{c d:Int}(h:SpJ nx S0 todo S x)(n:B1 S c=true)(o:I2 S.length d=true)(hw:d∈D4 nx c):SpJ nx S0 (todo++[d]) (S.set d.toNat true) x:=by
 have j:∀e,B1 (S.set d.toNat true) e=if e=d then true else B1 S e:=λe=>O6 o;have f:∀e,B1 S e=true->B1 (S.set d.toNat true) e=true:=λe k=>by rw[j,k];simp
 refine⟨by rw[en4,h.len],λb l=>f b (h.sub b l),λb l=>?_,λe k=>?_,λe k=>?_⟩
 .rw[j]at l;split at l
  .next e=>
   subst e;obtain⟨a,i,m⟩:=h.via c n;exact⟨a,i,.step m hw⟩
  .exact h.via b l
 .rcases eg1.1 k with i|i
  .exact f e (h.td e i)
  .simp at i;subst i;rw[j];simp
 .rw[j]at k;split at k
  .next i=>subst i;exact .inl (by simp)
  .rcases h.done e k with i|i|i
   .exact .inl (ei1 _ i)
   .exact .inr (.inl i)
   .exact .inr (.inr λg p=>f g (i g p))
def SpJ.fin(h:SpJ nx S0 [] S (λ_=>False))(f:OkR nx)(g:nx.length=S0.length):S=I3 nx S0:=by
 refine bA4 (by rw[h.len,K7]) λb=>?_;rw[R1 f g];refine⟨h.via b,?_⟩;rintro⟨a,d,i⟩
 induction i with
 | refl=>exact h.sub a d
 | step _ e j=>
  rcases h.done _ j with c|c|c
  .simp at c
  .exact c.elim
  .exact c _ e
end
section
variable {p:Pg}
def bZ9(hm:M8 p=true):p.procs.length<=16:=by
 unfold M8 at hm;simp only[eh5,ei8]at hm;exact hm.1.1.2
def aB4(a:D3 p):(i4 p).reached.length<=16:=by
 have b:=J6 (aX6 a.toKnown) (λn c=>bh7 a.toKnown c);rw[eg5]at b;have:=bZ9 a.may;omega
def at1(a:D3 p)(hw:B7 p<=1000000):(i4 p).wv.length<=480000:=by
 have d:=aB4 a;have f:=P4 (λn=>(i4 p).verts ((i4 p).s.pr n)) 30000 (i4 p).reached λn c=>by
  obtain⟨i,b,e,_⟩:=Y9 a.toKnown c;simp only[e];exact aW0 a hw b
 have e:(i4 p).wv.length=((i4 p).reached.flatMap λn=>(i4 p).verts ((i4 p).s.pr n)).length:=rfl;omega
def cj5(v:Vx):((i4 p).joinOf v).length<=1:=by
 unfold Bk.joinOf;split
 .simp
 split
 .simp
 split
 .simp
 split<;>simp
def bB6(a:D3 p)(hw:B7 p<=1000000):((i4 p).reached.flatMap λn=>(i4 p).edges ((i4 p).s.pr n)).length<=960000000:=by
 have d:=aB4 a;have f:=P4 (λn=>(i4 p).edges ((i4 p).s.pr n)) 60000000 (i4 p).reached λn c=>by
  obtain⟨i,b,e,_⟩:=Y9 a.toKnown c;simp only[e];exact bO7 a hw b
 omega
def cK3(a:D3 p)(hw:B7 p<=1000000):(i4 p).we0.length<=960480000:=by
 have b:=bB6 a hw;have c:=P4 (i4 p).joinOf 1 (i4 p).wv λv _=>cj5 v;have d:=at1 a hw;unfold Bk.we0;rw[ef4];omega
def bp6(b:D3 p)(hw:B7 p<=1000000):(i4 p).we.length<=960480000:=by
 have a:=cK3 b hw;unfold Bk.we aC5 at *;refine ef9 (av6 _) ?_;rw[(G1 cO7 _).length_eq];exact a
def cK4(a:E0 p=true)(hw:B7 p<=1000000){e:Eg}(b:e∈(i4 p).we):1<=e.kind/\e.kind<=6:=by
 rcases aG3 a hw b with⟨_,_,h⟩|⟨v,h⟩
 .omega
 .rcases h.kind with h|h|h<;>omega
def dj6(p:Pg):List Eg:=(i4 p).wv.flatMap λv=>((i4 p).wv.filter λu=>decide (u.proc=v.proc/\u.kind=5/\u.id=v.id)).map λu=>(⟨u,v,3⟩:Eg)
def cQ4{L:List Eg}{e:Eg}(h:aN5 (i4 p).wv L e):e∈dj6 p:=by
 obtain⟨c,f,i,d,_,_,_,_,_,x,_,a⟩:=h;obtain⟨_,v,b,hm,rfl⟩:=aE7.1 a;exact ei7.2 ⟨v,eh3 b,eh4.2 ⟨_,eh8.2 ⟨hm,by simp⟩,rfl⟩⟩
def di8(e:D3 p)(hw:B7 p<=1000000)(v:Vx):((i4 p).wv.filter λu=>decide (u.proc=v.proc/\u.kind=5/\u.id=v.id)).length<=33:=by
 generalize D:((i4 p).wv.filter λu=>decide (u.proc=v.proc/\u.kind=5/\u.id=v.id))=F;have d:∀u∈F,u∈(i4 p).wv/\u.proc=v.proc/\u.kind=5/\u.id=v.id:=λu k=>by
  rw[<-D]at k;obtain⟨l,J⟩:=eh8.1 k;exact⟨l,ef3 J⟩
 have N:F.Nodup:=by rw[<-D];exact(aA2 e hw).sublist List.filter_sublist
 cases hFF:F with
 | nil=>simp
 | cons u S=>
  rw[<-hFF];have k:u∈F:=by rw[hFF];simp
  obtain⟨l,_,K,L⟩:=d u k;obtain⟨i,G,O,T,q⟩:=aM9 e.toKnown l;have g:=aB9 e.may hw G q (.inr (.inl K));obtain⟨y,R⟩:=I1 e.may hw i G;obtain⟨c,H⟩:=Y6 (e.fits _ (aW9 R g.mem) (g.call (by omega)));have o:(i4 p).s.pr ((d9 p).it u.id).s.proc=(c:Int):=H.pr;have E:=ar6 e hw H.lt;have f:∀x∈F,x.slot∈(i4 p).slotsIn (c:Int):=λx r=>by
   obtain⟨P,_,I,Q⟩:=d x r;obtain⟨j,M,_,_,m⟩:=aM9 e.toKnown P;have:=(aB9 e.may hw M m (.inr (.inl I))).sin I;rw[Q,<-L,o]at this;exact this
  have n:(F.map (·.slot)).Nodup:=by
   rw[List.nodup_iff_pairwise_ne,List.pairwise_map];refine N.imp_of_mem fun{a b} ha E hne h=>hne ?_;obtain⟨_,t,w,z⟩:=d a ha;obtain⟨_,A,B,C⟩:=d b E;cases a;cases b;simp only at t w z A B C h;rw[t,w,z,A,B,C,h]
  have:=J6 n λs h=>by
   obtain⟨x,r,rfl⟩:=eh4.1 h;exact f x r
  rw[eg5]at this;omega
def dj7(a:D3 p)(hw:B7 p<=1000000):(dj6 p).length<=15840000:=by
 have b:=at1 a hw;have c:=P4 (λv=>((i4 p).wv.filter λu=>decide (u.proc=v.proc/\u.kind=5/\u.id=v.id)).map λu=>(⟨u,v,3⟩:Eg)) 33 (i4 p).wv λv _=>by
  rw[eg5];exact di8 a hw v
 unfold dj6;omega
def cJ1{e:Eg}(h:e∈(i4 p).sums):e∈dj6 p:=by
 have c:=bJ0 (V:=(i4 p).wv) (E:=(i4 p).we) (C:=(i4 p).sums.filter λx=>(dj6 p).contains x) (λx a=>by
  have b:x∈(i4 p).sums:=aS0 x (a.le λy d=>by
   rcases eg1.1 d with h|h
   .exact ei1 _ h
   .exact ej4 _ ((eh8.1 h).1))
  exact eh8.2 ⟨b,eg7.2 (cQ4 a)⟩) e h
 exact eg7.1 (eh8.1 c).2
structure bw3 (p:Pg) (C:List Eg):Prop where
 nd:C.Nodup
 le:∀e∈C,e∈(i4 p).sums
def bw3.few{C:List Eg}(h:bw3 p C)(b:D3 p)(hw:B7 p<=1000000):C.length<=15840000:=
 ef9 (J6 h.nd λe a=>cJ1 (h.le e a)) (dj7 b hw)
def bw3.kind{C:List Eg}(h:bw3 p C){e:Eg}(c:e∈C):e.kind=3/\e.src∈(i4 p).wv/\e.dst∈(i4 p).wv/\e.src.kind=5:=by
 obtain⟨v,f,hm⟩:=ei7.1 (cJ1 (h.le e c));obtain⟨u,d,rfl⟩:=eh4.1 hm;obtain⟨a,b⟩:=eh8.1 d;exact⟨rfl,a,f,(ef3 b).2.1⟩
def by8(V:List Vx)(L C:List Eg)(o:Nat):Prop:=∀b,V[o]?=some b->b.kind=4->∀(i:Int) (a:Vx),Z5 (R4 V L [1,2,3]) i (o:Int)->V[i.toNat]?=some a->a.kind=3->∀x∈L,∀e∈ax9 V o a.slot x,e∈C
def cV5{C:List Eg}(h:bw3 p C)(g:∀o,o<(i4 p).wv.length->by8 (i4 p).wv ((i4 p).we++C) C o):∀e,e∈C↔e∈(i4 p).sums:=
 dw7 (λe ⟨o,m,i,l,a,b,c,d,f,x,k,j⟩=>g o (ef6.1 a).1 m a b i l c d f x k e j) h.le
def bA8{V:List Vx}{L M:List Eg}{ks:List Int}(c:0<V.length)(h:∀e,e∈L↔e∈M){S:List Bool}(hS:S.length=V.length):I3 (ab7 V L ks) S=I3 (ab7 V M ks) S/\I3 (R4 V L ks) S=I3 (R4 V M ks) S:=by
 constructor
 .refine bA4 (by rw[K7,K7]) λb=>?_;rw[R1 (ar1 c) (by rw[ah0,hS]),R1 (ar1 c) (by rw[ah0,hS])];constructor
  .rintro⟨a,d,f⟩;exact⟨a,d,(X4 c).1 ((bk0 h).1 ((X4 c).2 f))⟩
  .rintro⟨a,d,f⟩;exact⟨a,d,(X4 c).1 ((bk0 h).2 ((X4 c).2 f))⟩
 .refine bA4 (by rw[K7,K7]) λb=>?_;rw[R1 (aF0 c) (by rw[ay6,hS]),R1 (aF0 c) (by rw[ay6,hS])];constructor
  .rintro⟨a,d,f⟩;exact⟨a,d,(bk0 h).1 f⟩
  .rintro⟨a,d,f⟩;exact⟨a,d,(bk0 h).2 f⟩
end
def be8(V:List Vx)(C:List Eg):List ((Int×Int)×Value):=C.map λe=>((((E5 V e.src:Nat):Int),((E5 V e.dst:Nat):Int)),.bool true)
def cG2{V:List Vx}{C:List Eg}(l:∀e∈C,e.kind=3/\e.src∈V/\e.dst∈V){u v:Vx}(o:u∈V)(hv:v∈V):
  (al6 (be8 V C) (((E5 V u:Nat):Int),((E5 V v:Nat):Int))).getD (.bool false) = .bool (decide ((⟨u,v,3⟩:Eg)∈C)):=by
 have c:∀{a b:Vx},a∈V->b∈V->E5 V a=E5 V b->a=b:=fun{a b} ha hb e=>by
  have d:=ar0 ha;have f:=ar0 hb;rw[e,f]at d;exact(eh1 d).symm
 induction C with
 | nil=>rfl
 | cons e C q=>
  have i:=q λx p=>l x (ek0 _ p);obtain⟨d,f,m⟩:=l e (by simp);unfold al6 be8 at *;rw[ej9,List.find?_cons];by_cases h:(⟨u,v,3⟩:Eg)=e
  .subst h;simp
  .have g:¬((((E5 V u:Nat):Int),((E5 V v:Nat):Int))=(((E5 V e.src:Nat):Int),((E5 V e.dst:Nat):Int))):=λn=>by
    simp only[Prod.mk.injEq]at n;refine h ?_;have j:=c o f (by omega);have k:=c hv m (by omega);cases e;simp only at d j k;rw[j,k,d]
   rw[el3 g];simp only[eh0,h,false_or];exact i
def dd6{V:List Vx}{C:List Eg}(a:∀e∈C,e.kind=3/\e.src∈V/\e.dst∈V){u v:Vx}(b:u∈V)(hv:v∈V)(hn:(⟨u,v,3⟩:Eg)∉C):al6 (be8 V C) (((E5 V u:Nat):Int),((E5 V v:Nat):Int))=none:=by
 have h:=cG2 a b hv;cases he:al6 (be8 V C) (((E5 V u:Nat):Int),((E5 V v:Nat):Int))with
 | none=>rfl
 | some x=>
  exfalso
  rw[he,el3 hn]at h;unfold al6 at he;obtain⟨y,c,rfl⟩:=Option.map_eq_some_iff.1 he;obtain⟨e,_,rfl⟩:=eh4.1 (List.mem_of_find?_eq_some c);simp at h
def hZ:Hp:=λ_=>none
def S8(h:Hp):B8 hZ h:=λ_ _ e=>nomatch e
abbrev TWh:TypeId:=91
abbrev TVx:TypeId:=26
abbrev TEg:TypeId:=66
abbrev TAr:TypeId:=218
abbrev TAs:TypeId:=216
def dR1:G0 prog 216 218 2 16=true:=by kernel_rfl
def dR2:G0 prog 89 216 1 24=true:=by kernel_rfl
def dA0:∃a,prog.info? 216=some a/\a.size=1:=aA6 dm3 dl2
structure WX where
 vV:Value
 vE:Value
 vS:Value
 vn:Value
 un:List X9
 vp:Value
 up:List X9
structure WC where
 V:List Vx
 E:List Eg
 S:List Eg
 kv:List (Vx×Value)
 N:List (List (Int×Int))
 P:List (List (Int×Int))
def U0(g r:Nat)(x:WX):Nat->Nat->Prop
 | 0,b=>b=g
 | 1,b=>b=r
 | 2,b=>A0 x.vV b
 | 3,b=>A0 x.vE b
 | 4,b=>A0 x.vS b
 | 5,b=>N2 x.vn x.un b
 | 6,b=>N2 x.vp x.up b
 | _,_=>False
def wcs(a:Addr)(b:Value)(r:Nat)(x:WX):Array Value:=#[.pointer (some a),b,x.vV,x.vE,x.vS,.map (some r),x.vn,x.vp]
structure WS (w1 w:World) (g r:Nat) (ab:Addr) (vP:Value) (x:WX) (c:WC):Prop where
 ext:o6 w1 w
 cb:w.heap[g]?=some (.cells (wcs ab vP r x) TWh (0,0))
 map:ax0 Vx.enc w r c.kv
 oV:B0 hZ w TVx x.vV c.V
 oE:B0 hZ w TEg x.vE c.E
 oS:B0 hZ w TEg x.vS c.S
 rn:E2 hZ w TAs TAr x.vn x.un c.N
 rp:E2 hZ w TAs TAr x.vp x.up c.P
 new:∀i b,U0 g r x i b->w1.heap.size<=b
 apart:∀i j b,U0 g r x i b->U0 g r x j b->i=j
section
variable {w1 w w':World} {g r:Nat} {ab:Addr} {vP:Value} {x:WX} {c:WC}
def WS.lt(s:WS w1 w g r ab vP x c):∀{i b:Nat},U0 g r x i b->b<w.heap.size
 | 0,b,h=>by obtain rfl:b=g:=h;exact(ef5.1 s.cb).1
 | 1,b,h=>by obtain rfl:b=r:=h;exact s.map.lt
 | 2,b,h=>s.oV.lt h
 | 3,b,h=>s.oE.lt h
 | 4,b,h=>s.oS.lt h
 | 5,b,h=>s.rn.lt h
 | 6,b,h=>s.rp.lt h
 | _+7,_,h=>h.elim
def WS.off(s:WS w1 w g r ab vP x c){i j b:Nat}(a:i≠j)(h:U0 g r x i b):¬U0 g r x j b:=λd=>a (s.apart i j b h d)
def WS.mod(s:WS w1 w g r ab vP x c){M:Nat->Prop}(hm:o8 M w w')(d:∀b,M b->w1.heap.size<=b/\∀i,¬U0 g r x i b):WS w1 w' g r ab vP x c:=
 ⟨o8.ext_of s.ext hm λb a=>(d b a).1,(hm.block g (s.lt (i:=0) rfl) λh=>(d g h).2 0 rfl).trans s.cb,s.map.mod hm λh=>(d r h).2 1 rfl,
  s.oV.mod hm λb a h=>(d b h).2 2 a,s.oE.mod hm λb a h=>(d b h).2 3 a,s.oS.mod hm λb a h=>(d b h).2 4 a,s.rn.mod hm λb a h=>(d b h).2 5 a,s.rp.mod hm λb a h=>(d b h).2 6 a,s.new,s.apart⟩
def WS.more(s:WS w1 w g r ab vP x c)(a:o6 w w'):WS w1 w' g r ab vP x c:=s.mod a λ_ h=>h.elim
def WS.base(s:WS w1 w g r ab vP x c):B8 (m8 w1) (m8 w):=b7 s.ext
theorem WS.rV(s:WS w1 w g r ab vP x c):R (m8 w) x.vV c.V:=s.oV.flatRN λ_ _=>rfl
theorem WS.rE(s:WS w1 w g r ab vP x c):R (m8 w) x.vE c.E:=s.oE.flatRN λ_ _=>rfl
def WS.ld(s:WS w1 w g r ab vP x c){i:Nat}{u:Value}{t:TypeId}(b:(wcs ab vP r x)[i]?=some u)(a:J5 prog t=false):(Instr.loadAt t (.pointer (some ⟨g,i,none⟩))).run prog w = .ok u w:=E7 s.cb b a
def WS.parts(s:WS w1 w g r ab vP x c){x':WX}(i:Nat)(a:∀j,j≠i->∀b,U0 g r x' j b->U0 g r x j b)(n:∀b,U0 g r x' i b->U0 g r x i b\/w.heap.size<=b):
  (∀j b,U0 g r x' j b->w1.heap.size<=b)/\(∀j k b,U0 g r x' j b->U0 g r x' k b->j=k):=by
 have f:∀j b,U0 g r x' j b->(U0 g r x j b)\/(j=i/\w.heap.size<=b):=λj b h=>by
  by_cases hj:j=i
  .subst hj;exact(n b h).imp id λh=>⟨rfl,h⟩
  .exact .inl (a j hj b h)
 refine⟨λj b h=>?_,λj k b d e=>?_⟩
 .rcases f j b h with h|⟨_,h⟩
  .exact s.new j b h
  .exact ef9 s.ext.size h
 .rcases f j b d with d|⟨l,d⟩<;>rcases f k b e with e|⟨m,e⟩
  .exact s.apart j k b d e
  .have:=s.lt d;omega
  .have:=s.lt e;omega
  .rw[l,m]
def cq2{k:Nat}{cs:Array Value}(d:w.heap[g]?=some (.cells cs TWh (0,0)))(e:k<cs.size){v:Value}(hS:isS v=true){t:TypeId}{c:TypeInfo}(a:prog.info? t=some c)(f:c.size=1):
  ∃w',(Instr.storeAt t (.pointer (some ⟨g,k,none⟩)) v).run prog w = .ok () w'/\w'.heap[g]?=some (.cells (cs.setIfInBounds k v) TWh (0,0))/\o8 (λb=>b=g) w w':=
 af3 (P:=prog) d e (F0 hS) (X1 hS) a f
def WS.putV(s:WS w1 w g r ab vP x c){o:Value}{l:List Vx}(hm:o8 (A0 x.vV) w w')(y:B0 hZ w' TVx o l)(hv:E9 w x.vV o){t:TypeId}{n:TypeInfo}(m:prog.info? t=some n)(C:n.size=1):
  ∃d,(Instr.storeAt t (.pointer (some ⟨g,2,none⟩)) o).run prog w' = .ok () d/\WS w1 d g r ab vP {x with vV:=o} {c with V:=l}/\o8 (λb=>b=g) w' d:=by
 have v:=s.parts (x':={x with vV:=o}) 2 (λj B b h=>by match j,B,h with|0,_,h=>exact h|1,_,h=>exact h|3,_,h=>exact h|4,_,h=>exact h|5,_,h=>exact h|6,_,h=>exact h|_+7,_,h=>exact h.elim) hv;have u:=(hm.block g (s.lt (i:=0) rfl) (s.off (i:=0) (j:=2) (by decide) rfl)).trans s.cb;obtain⟨d,A,p,f⟩:=cq2 (k:=2) u (by decide +kernel:2<8) y.isS m C;have D:=o8.ext_of (o8.ext_of s.ext hm λb a=>s.new 2 b a) f λb a=>by subst a;exact s.new 0 _ rfl
 have e:∀{i:Nat} {b:Nat},i≠2->i≠0->U0 g r x i b->¬A0 x.vV b/\¬b=g:=λp z h=>⟨s.off (j:=2) p h,s.off (j:=0) z h⟩;refine⟨d,A,⟨D,p,(s.map.mod hm (e (i:=1) (by decide) (by decide) rfl).1).mod f (e (i:=1) (by decide) (by decide) rfl).2,y.mod f λb a q=>?_,?_,?_,?_,?_,v.1,v.2⟩,f⟩
 .exact absurd (v.2 2 0 b a q) (by decide)
 .exact(s.oE.mod hm λb a=>(e (i:=3) (by decide) (by decide) a).1).mod f λb a=>(e (i:=3) (by decide) (by decide) a).2
 .exact(s.oS.mod hm λb a=>(e (i:=4) (by decide) (by decide) a).1).mod f λb a=>(e (i:=4) (by decide) (by decide) a).2
 .exact(s.rn.mod hm λb a=>(e (i:=5) (by decide) (by decide) a).1).mod f λb a=>(e (i:=5) (by decide) (by decide) a).2
 .exact(s.rp.mod hm λb a=>(e (i:=6) (by decide) (by decide) a).1).mod f λb a=>(e (i:=6) (by decide) (by decide) a).2
def WS.putE(s:WS w1 w g r ab vP x c){o:Value}{l:List Eg}(hm:o8 (A0 x.vE) w w')(y:B0 hZ w' TEg o l)(hv:E9 w x.vE o){t:TypeId}{n:TypeInfo}(m:prog.info? t=some n)(C:n.size=1):
  ∃d,(Instr.storeAt t (.pointer (some ⟨g,3,none⟩)) o).run prog w' = .ok () d/\WS w1 d g r ab vP {x with vE:=o} {c with E:=l}/\o8 (λb=>b=g) w' d:=by
 have v:=s.parts (x':={x with vE:=o}) 3 (λj B b h=>by match j,B,h with|0,_,h=>exact h|1,_,h=>exact h|2,_,h=>exact h|4,_,h=>exact h|5,_,h=>exact h|6,_,h=>exact h|_+7,_,h=>exact h.elim) hv;have u:=(hm.block g (s.lt (i:=0) rfl) (s.off (i:=0) (j:=3) (by decide) rfl)).trans s.cb;obtain⟨d,A,p,f⟩:=cq2 (k:=3) u (by decide +kernel:3<8) y.isS m C;have D:=o8.ext_of (o8.ext_of s.ext hm λb a=>s.new 3 b a) f λb a=>by subst a;exact s.new 0 _ rfl
 have e:∀{i:Nat} {b:Nat},i≠3->i≠0->U0 g r x i b->¬A0 x.vE b/\¬b=g:=λp z h=>⟨s.off (j:=3) p h,s.off (j:=0) z h⟩;refine⟨d,A,⟨D,p,(s.map.mod hm (e (i:=1) (by decide) (by decide) rfl).1).mod f (e (i:=1) (by decide) (by decide) rfl).2,?_,y.mod f λb a q=>?_,?_,?_,?_,v.1,v.2⟩,f⟩
 .exact(s.oV.mod hm λb a=>(e (i:=2) (by decide) (by decide) a).1).mod f λb a=>(e (i:=2) (by decide) (by decide) a).2
 .exact absurd (v.2 3 0 b a q) (by decide)
 .exact(s.oS.mod hm λb a=>(e (i:=4) (by decide) (by decide) a).1).mod f λb a=>(e (i:=4) (by decide) (by decide) a).2
 .exact(s.rn.mod hm λb a=>(e (i:=5) (by decide) (by decide) a).1).mod f λb a=>(e (i:=5) (by decide) (by decide) a).2
 .exact(s.rp.mod hm λb a=>(e (i:=6) (by decide) (by decide) a).1).mod f λb a=>(e (i:=6) (by decide) (by decide) a).2
def WS.putS(s:WS w1 w g r ab vP x c){o:Value}{l:List Eg}(hm:o8 (A0 x.vS) w w')(y:B0 hZ w' TEg o l)(hv:E9 w x.vS o){t:TypeId}{n:TypeInfo}(m:prog.info? t=some n)(C:n.size=1):
  ∃d,(Instr.storeAt t (.pointer (some ⟨g,4,none⟩)) o).run prog w' = .ok () d/\WS w1 d g r ab vP {x with vS:=o} {c with S:=l}/\o8 (λb=>b=g) w' d:=by
 have v:=s.parts (x':={x with vS:=o}) 4 (λj B b h=>by match j,B,h with|0,_,h=>exact h|1,_,h=>exact h|2,_,h=>exact h|3,_,h=>exact h|5,_,h=>exact h|6,_,h=>exact h|_+7,_,h=>exact h.elim) hv;have u:=(hm.block g (s.lt (i:=0) rfl) (s.off (i:=0) (j:=4) (by decide) rfl)).trans s.cb;obtain⟨d,A,p,f⟩:=cq2 (k:=4) u (by decide +kernel:4<8) y.isS m C;have D:=o8.ext_of (o8.ext_of s.ext hm λb a=>s.new 4 b a) f λb a=>by subst a;exact s.new 0 _ rfl
 have e:∀{i:Nat} {b:Nat},i≠4->i≠0->U0 g r x i b->¬A0 x.vS b/\¬b=g:=λp z h=>⟨s.off (j:=4) p h,s.off (j:=0) z h⟩;refine⟨d,A,⟨D,p,(s.map.mod hm (e (i:=1) (by decide) (by decide) rfl).1).mod f (e (i:=1) (by decide) (by decide) rfl).2,?_,?_,y.mod f λb a q=>?_,?_,?_,v.1,v.2⟩,f⟩
 .exact(s.oV.mod hm λb a=>(e (i:=2) (by decide) (by decide) a).1).mod f λb a=>(e (i:=2) (by decide) (by decide) a).2
 .exact(s.oE.mod hm λb a=>(e (i:=3) (by decide) (by decide) a).1).mod f λb a=>(e (i:=3) (by decide) (by decide) a).2
 .exact absurd (v.2 4 0 b a q) (by decide)
 .exact(s.rn.mod hm λb a=>(e (i:=5) (by decide) (by decide) a).1).mod f λb a=>(e (i:=5) (by decide) (by decide) a).2
 .exact(s.rp.mod hm λb a=>(e (i:=6) (by decide) (by decide) a).1).mod f λb a=>(e (i:=6) (by decide) (by decide) a).2
def WS.key(s:WS w1 w g r ab vP x c){a:Vx}(m:al6 c.kv a=none)(v:Value):
  ∃w',(Instr.mapUpdate 88 (.map (some r)) (Vx.enc a) v).run prog w = .ok () w'/\WS w1 w' g r ab vP x {c with kv:=c.kv++[(a,v)]}:=by
 obtain⟨w',k,l,e⟩:=s.map.push (P:=prog) dF0 Tryz.underlying88 m v;have f:∀{i:Nat} {b:Nat},i≠1->U0 g r x i b->¬b=r:=λn h=>s.off (j:=1) n h;refine⟨w',k,o8.ext_of s.ext e λb d=>by subst d;exact s.new 1 _ rfl,(e.block g (s.lt (i:=0) rfl) (f (i:=0) (by decide) rfl)).trans s.cb,l,?_,?_,?_,?_,?_,s.new,s.apart⟩
 .exact s.oV.mod e λb d=>f (i:=2) (by decide) d
 .exact s.oE.mod e λb d=>f (i:=3) (by decide) d
 .exact s.oS.mod e λb d=>f (i:=4) (by decide) d
 .exact s.rn.mod e λb d=>f (i:=5) (by decide) d
 .exact s.rp.mod e λb d=>f (i:=6) (by decide) d
def WS.look(s:WS w1 w g r ab vP x c)(a:Vx):(Instr.lookup 88 (.map (some r)) (.agg (p8.cells a).toArray) false).run prog w = .ok ((al6 c.kv a).getD (.int .i64 0)) w:=
 s.map.lookup (P:=prog) dF0 Tryz.underlying88 aC6 a
def WS.lookOk(s:WS w1 w g r ab vP x c)(a:Vx):(Instr.lookup 88 (.map (some r)) (.agg (p8.cells a).toArray) true).run prog w = .ok (.tuple #[(al6 c.kv a).getD (.int .i64 0),.bool (al6 c.kv a).isSome]) w:=
 s.map.lookupOk (P:=prog) dF0 Tryz.underlying88 aC6 a
end
def di3{P:Program}{h:Hp}{w:World}{T t:TypeId}{v:Value}{us:List X9}(e:B0 h w T v us){i:Nat}{u:X9}(d:us[i]?=some u)(f:J5 P t=false):
  (Instr.loadAt t (.pointer (some (G9 v i)))).run P w = .ok u.v w:=by
 obtain⟨g,⟨c,_⟩,b⟩:=e.get d;have:=b 0 u.v (by rw[c];rfl);rw[M4]at this;have a:(i*A3.sz X9)=i:=en3 i;rw[a]at this;exact U9 f this
def E2.roK{α:Type}[A3 α]{h k:Hp}{w:World}{T T':TypeId}{v:Value}{us:List X9}{d:List (List α)}(l:E2 h w T T' v us d)(hw:B8 h k)(hb:∀b,N2 v us b->k b=w.heap[b]?):R k v d:=by
 obtain⟨a,n,c,e,y,z,f,A,B⟩:=(l.outer.ro hw λb h=>hb b (.inl h));refine⟨a,n,c,e,by rw[y,l.len],z,f,?_,B⟩;have r:∀(us:List X9) (d:List (List α)) (f:List Value),us.length=d.length->Q8 k f us ->
   (∀(i:Nat) (u:X9) (g:List α),us[i]?=some u->d[i]?=some g->R k u.v g)->Q8 k f d:=by
  intro us
  induction us with
  | nil=>
   intro d f j q _;have:d=[]:=List.eq_nil_of_length_eq_zero j.symm;subst this;exact q
  | cons u us E=>
   intro d f j q m;cases d with
   | nil=>simp at j
   | cons g d=>
    obtain⟨G,t,rfl,⟨o,_⟩,p⟩:=q;subst o;exact⟨[u.v],t,rfl,m 0 u g rfl rfl,E d t (by simpa using j) p λi F s C D=>m (i+1) F s (by simpa using C) (by simpa using D)⟩
 exact r us d f l.len A λi u g x m=>(l.row i u g x m).ro hw λb h=>hb b (.inr ⟨u,eh3 x,h⟩)
def bh6{v u':Value}{us:List X9}{i:Nat}{u:X9}{w:World}(d:us[i]?=some u)(a:E9 w u.v u'){b:Nat}(h:N2 v (us.set i ⟨u'⟩) b):N2 v us b\/w.heap.size<=b:=by
 rcases h with h|⟨y,c,h⟩
 .exact .inl (.inl h)
 .rcases en6 c with c|rfl
  .exact .inl (.inr ⟨y,c,h⟩)
  .rcases a b h with h|h
   .exact .inl (.inr ⟨u,eh3 d,h⟩)
   .exact .inr h
section
variable {w1 w:World} {g r:Nat} {ab:Addr} {vP:Value} {x:WX} {c:WC}
def WS.arcN(s:WS w1 w g r ab vP x c){i:Nat}{k:List (Int×Int)}(E:c.N[i]?=some k)(t:Int×Int)(O:k.length<=1000000000){e:TypeId}:∃u:X9,x.un[i]?=some u/\inS x.vn i=true /\
  (∀f,o8 (A0 u.v) w f->(Instr.loadAt 89 (.pointer (some ⟨g,6,none⟩))).run prog f = .ok x.vn f/\(Instr.loadAt 216 (.pointer (some (G9 x.vn i)))).run prog f = .ok u.v f) /\
  (Instr.buildSlice 216 1 #[(0,.agg #[.int .i64 t.1,.int .i64 t.2])]).run prog w = .ok (.slice (some ⟨w.heap.size,0,none⟩) 1 1) (w.alloc (.cells #[.int .i64 t.1,.int .i64 t.2] 218)) /\
  ∃o f d,(Builtin.append_ #[216,216] e #[u.v,.slice (some ⟨w.heap.size,0,none⟩) 1 1]).run prog (w.alloc (.cells #[.int .i64 t.1,.int .i64 t.2] 218)) = .ok o f /\
   (Instr.storeAt 216 (.pointer (some (G9 x.vn i))) o).run prog f = .ok () d /\
   WS w1 d g r ab vP {x with un:=x.un.set i ⟨o⟩} {c with N:=c.N.set i (k++[t])}/\o8 (U0 g r x 5) w d/\o8 (A0 u.v) w f/\(∀b,A0 u.v b->U0 g r x 5 b)/\∀j b,U0 g r {x with un:=x.un.set i ⟨o⟩} j b->U0 g r x j b\/w.heap.size<=b:=by
 have p:i<x.un.length:=by rw[s.rn.len];exact(ef6.1 E).1
 obtain⟨u,l⟩:∃u,x.un[i]?=some u:=⟨_,ef1 p⟩;have v:=s.rn.row i u k l E;obtain⟨G,q,z⟩:=dA0;have n:∀b,A0 u.v b->U0 g r x 5 b:=λb a=>.inr ⟨u,eh3 l,a⟩;obtain⟨H,o,f,I,J,B,C⟩:=push (P:=prog) (t:=216) (e:=e) dR1 rfl v (x:=.agg #[.int .i64 t.1,.int .i64 t.2]) (y:=t) ⟨[.int .i64 t.1],[.int .i64 t.2],rfl,rfl,rfl⟩ (by omega) (by omega) (S8 _);obtain⟨d,K,L,M,Q⟩:=s.rn.put (P:=prog) (t:=216) l B J C q z;have hm:o8 (U0 g r x 5) w d:=o8.trans (B.weaken λb _ a=>n b a) (M.weaken λb _ a=>.inl a);have F:=s.parts (x':={x with un:=x.un.set i ⟨o⟩}) 5 (λj A b h=>by match j,A,h with|0,_,h=>exact h|1,_,h=>exact h|2,_,h=>exact h|3,_,h=>exact h|4,_,h=>exact h|6,_,h=>exact h|_+7,_,h=>exact h.elim) (λb a=>bh6 l C a);have m:∀{j:Nat} {b:Nat},j≠5->U0 g r x j b->¬U0 g r x 5 b:=λA h=>s.off (j:=5) A h;refine⟨u,l,s.rn.outer.inS p,λR D=>⟨E7 ((D.block g (s.lt (i:=0) rfl) λh=>m (j:=0) (by decide) rfl (n g h)).trans s.cb) rfl bj5,di3 (s.rn.outer.mod D λb a h=>s.rn.off i u l b h a) l cb7⟩,H,o,f,d,I,K,⟨o8.ext_of s.ext hm λb a=>s.new 5 b a,(hm.block g (s.lt (i:=0) rfl) (m (j:=0) (by decide) rfl)).trans s.cb,s.map.mod hm (m (j:=1) (by decide) rfl),?_,?_,?_,L,?_,F.1,F.2⟩,hm,B,n,λj b h=>by match j,h with|0,h=>exact .inl h|1,h=>exact .inl h|2,h=>exact .inl h|3,h=>exact .inl h|4,h=>exact .inl h|5,h=>exact bh6 l C h|6,h=>exact .inl h|_+7,h=>exact h.elim⟩
 .exact s.oV.mod hm λb a=>m (j:=2) (by decide) a
 .exact s.oE.mod hm λb a=>m (j:=3) (by decide) a
 .exact s.oS.mod hm λb a=>m (j:=4) (by decide) a
 .exact s.rp.mod hm λb a=>m (j:=6) (by decide) a
def WS.arcP(s:WS w1 w g r ab vP x c){i:Nat}{k:List (Int×Int)}(E:c.P[i]?=some k)(t:Int×Int)(N:k.length<=1000000000){e:TypeId}:∃u:X9,x.up[i]?=some u/\inS x.vp i=true /\
  (∀f,o8 (A0 u.v) w f->(Instr.loadAt 89 (.pointer (some ⟨g,7,none⟩))).run prog f = .ok x.vp f/\(Instr.loadAt 216 (.pointer (some (G9 x.vp i)))).run prog f = .ok u.v f) /\
  (Instr.buildSlice 216 1 #[(0,.agg #[.int .i64 t.1,.int .i64 t.2])]).run prog w = .ok (.slice (some ⟨w.heap.size,0,none⟩) 1 1) (w.alloc (.cells #[.int .i64 t.1,.int .i64 t.2] 218)) /\
  ∃o f d,(Builtin.append_ #[216,216] e #[u.v,.slice (some ⟨w.heap.size,0,none⟩) 1 1]).run prog (w.alloc (.cells #[.int .i64 t.1,.int .i64 t.2] 218)) = .ok o f /\
   (Instr.storeAt 216 (.pointer (some (G9 x.vp i))) o).run prog f = .ok () d /\
   WS w1 d g r ab vP {x with up:=x.up.set i ⟨o⟩} {c with P:=c.P.set i (k++[t])}/\o8 (U0 g r x 6) w d/\o8 (A0 u.v) w f/\(∀b,A0 u.v b->U0 g r x 6 b)/\∀j b,U0 g r {x with up:=x.up.set i ⟨o⟩} j b->U0 g r x j b\/w.heap.size<=b:=by
 have p:i<x.up.length:=by rw[s.rp.len];exact(ef6.1 E).1
 obtain⟨u,l⟩:∃u,x.up[i]?=some u:=⟨_,ef1 p⟩;have v:=s.rp.row i u k l E;obtain⟨G,q,z⟩:=dA0;have n:∀b,A0 u.v b->U0 g r x 6 b:=λb a=>.inr ⟨u,eh3 l,a⟩;obtain⟨H,o,f,I,J,B,C⟩:=push (P:=prog) (t:=216) (e:=e) dR1 rfl v (x:=.agg #[.int .i64 t.1,.int .i64 t.2]) (y:=t) ⟨[.int .i64 t.1],[.int .i64 t.2],rfl,rfl,rfl⟩ (by omega) (by omega) (S8 _);obtain⟨d,K,L,M,O⟩:=s.rp.put (P:=prog) (t:=216) l B J C q z;have hm:o8 (U0 g r x 6) w d:=o8.trans (B.weaken λb _ a=>n b a) (M.weaken λb _ a=>.inl a);have F:=s.parts (x':={x with up:=x.up.set i ⟨o⟩}) 6 (λj A b h=>by match j,A,h with|0,_,h=>exact h|1,_,h=>exact h|2,_,h=>exact h|3,_,h=>exact h|4,_,h=>exact h|5,_,h=>exact h|_+7,_,h=>exact h.elim) (λb a=>bh6 l C a);have m:∀{j:Nat} {b:Nat},j≠6->U0 g r x j b->¬U0 g r x 6 b:=λA h=>s.off (j:=6) A h;refine⟨u,l,s.rp.outer.inS p,λQ D=>⟨E7 ((D.block g (s.lt (i:=0) rfl) λh=>m (j:=0) (by decide) rfl (n g h)).trans s.cb) rfl bj5,di3 (s.rp.outer.mod D λb a h=>s.rp.off i u l b h a) l cb7⟩,H,o,f,d,I,K,⟨o8.ext_of s.ext hm λb a=>s.new 6 b a,(hm.block g (s.lt (i:=0) rfl) (m (j:=0) (by decide) rfl)).trans s.cb,s.map.mod hm (m (j:=1) (by decide) rfl),?_,?_,?_,?_,L,F.1,F.2⟩,hm,B,n,λj b h=>by match j,h with|0,h=>exact .inl h|1,h=>exact .inl h|2,h=>exact .inl h|3,h=>exact .inl h|4,h=>exact .inl h|5,h=>exact .inl h|6,h=>exact bh6 l C h|_+7,h=>exact h.elim⟩
 .exact s.oV.mod hm λb a=>m (j:=2) (by decide) a
 .exact s.oE.mod hm λb a=>m (j:=3) (by decide) a
 .exact s.oS.mod hm λb a=>m (j:=4) (by decide) a
 .exact s.rn.mod hm λb a=>m (j:=5) (by decide) a
end
def dA2{h:Hp}{v:Value}{l:List (Int×Int)}{w:World}(hv:R h v l)(hw:B8 h (m8 w)){k:Nat}{x:Int×Int}(a:l[k]?=some x):(Instr.loadAt 218 (.pointer (some (G9 v (k*2))))).run prog w = .ok (.agg #[.int .i64 x.1,.int .i64 x.2]) w:=
 bY4 (P:=prog) (t:=218) hv hw a dG9 dI6 dk5 dl3
def dn1{w:World}(a b:Int):∃c e d,(Instr.alloc 218 true (.tuple #[])).run prog w = .ok (.pointer (some ⟨c,0,none⟩)) e/\(Instr.storeAt 218 (.pointer (some ⟨c,0,none⟩)) (.agg #[.int .i64 a,.int .i64 b])).run prog e = .ok () d/\o6 w d/\d.heap[c]?=some (.cells #[.int .i64 a,.int .i64 b] 218 (0,0))/\w.heap.size<=c:=by
 obtain⟨f,g⟩:=aA5 (P:=prog) (w:=w) (T:=218) dJ0 rfl (cs:=#[.int .i64 a,.int .i64 b]) rfl (by simp[Value.oneCell']);exact⟨_,_,_,f,g,o6.alloc _ _,ej0 w _,eg6 _⟩
def aG1{w d:World}{c:Nat}{a b:Int}(h:w.heap[c]?=some (.cells #[.int .i64 a,.int .i64 b] 218 (0,0))){M:Nat->Prop}(hm:o8 M w d)(f:¬M c):
  (Instr.loadAt 3 (.pointer (some ⟨c,0,none⟩))).run prog d = .ok (.int .i64 a) d/\(Instr.loadAt 3 (.pointer (some ⟨c,1,none⟩))).run prog d = .ok (.int .i64 b) d:=by
 have e:=(hm.block c (ef5.1 h).1 f).trans h;exact⟨E7 (i:=0) e rfl G3,E7 (i:=1) e rfl G3⟩
def aN1(ks:List Int):Array Value:=#[.bool (ks.contains 0),.bool (ks.contains 1),.bool (ks.contains 2),.bool (ks.contains 3),.bool (ks.contains 4),.bool (ks.contains 5),.bool (ks.contains 6)]
def dw9{ks:List Int}{k:Nat}(c:k<7):(aN1 ks).setIfInBounds k (.bool true)=aN1 (ks++[(k:Int)]):=by
 have h:∀a b:Int,(ks++[a]).contains b=(ks.contains b||decide (b=a)):=λa b=>by
  rw[eq7,eq6,eg7,eg7,eg1,eh2,decide_eq_true_iff]
 match k,c with
 | 0,_=>simp[aN1,Array.setIfInBounds]
 | 1,_=>simp[aN1,Array.setIfInBounds]
 | 2,_=>simp[aN1,Array.setIfInBounds]
 | 3,_=>simp[aN1,Array.setIfInBounds]
 | 4,_=>simp[aN1,Array.setIfInBounds]
 | 5,_=>simp[aN1,Array.setIfInBounds]
 | 6,_=>simp[aN1,Array.setIfInBounds]
def dw8{ks:List Int}{k:Nat}(a:k<7):(aN1 ks)[k]?=some (.bool (ks.contains (k:Int))):=by
 match k,a with
 | 0,_=>rfl
 | 1,_=>rfl
 | 2,_=>rfl
 | 3,_=>rfl
 | 4,_=>rfl
 | 5,_=>rfl
 | 6,_=>rfl
def bR8(S:List Bool)(k:Nat)(b:k<S.length):(((List.range (k+1)).filter λa=>S.getD a false).map λ(a:Nat)=>(a:Int))=(((List.range k).filter λa=>S.getD a false).map λ(a:Nat)=>(a:Int))++if S[k]=true then[(k:Int)]else[]:=by
 rw[eq1,el7,ei4]
 congr 1
 rw[List.filter_cons,List.filter_nil,List.getD_eq_getElem?_getD,ef1 b,ek4];cases S[k]<;>rfl
def cA3(H:Hp)(va vs vk:Value)(N:List (List (Int×Int)))(S:List Bool)(ks:List Int)(w:World)(hH:B8 H (m8 w))(bF:R H va N)(af:B0 H w 4 vs S)(aG:R H vk ks)(hA:OkA N.length N)(hl:N.length=S.length)
  (hn:S.length<=1000000000) (cb:∀k∈ks,1<=k/\k<=6) (cV:ks.length<=1000) :
  o9 prog 84 #[va,vs,vk] w λu E=>(B0 H E 4 vs (I3 (ab5 N ks) S)/\o8 (A0 vs) w E):=by
 refine p9 [va,vs,vk] func84 rfl ?_;obtain⟨ib,bs,aK⟩:=aA6 (P:=prog) W5 aG0;have be:(Instr.alloc 219 true (.tuple #[])).run prog w = .ok (.pointer (some ⟨w.heap.size,0,none⟩)) (w.alloc (.cells (aN1 []) 219)):=by rfl
 have bH:=o6.alloc w (.cells (aN1 []) 219);have aS:=ej0 w (.cells (aN1 []) 219);have aN:=λb (p:A0 vs b)=>af.lt p;have bG:(w.alloc (.cells (aN1 []) 219)).heap.size=w.heap.size+1:=by simp
 generalize w.alloc (.cells (aN1 []) 219)=w1 at be bH aS bG;have b3:=af.isS;have cf:=af.vlen;simp only[i5,n9,simprocAttr,be,aG.isS,aG.vlen];refine A6 [0,1,2,6,15,16] (σ:=Nat) (λk f E=>f 17 = .int .i64 k/\k<=ks.length/\E.heap[w.heap.size]?=some (.cells (aN1 (ks.take k)) 219 (0,0))/\o8 (λb=>b=w.heap.size) w1 E) (λk=>ks.length-k) 0 ?_ ?_
 .simp only[B3,simprocAttr];exact⟨by trivial,eg3 _,aS,o8.refl _⟩
 rintro k f w2 ⟨e0,e1,e2,e6,bV,bW,_⟩ ⟨a9,cH,J,aV⟩;have a3:o6 w w2:=o8.ext_of bH aV λb p=>by rw[p];exact eg6 _
 simp only[i5,n9,simprocAttr,a9,bW];refine y5 (λo=>?_) ?_
 .have ae:=aG.inS o;have L:=aC3 aG (p7 hH (b7 a3)) o;obtain⟨aD,aE⟩:=cb _ (eg2 o);have A:=ef8 o;generalize ks[k]=q at L aD aE A;obtain⟨Q,rfl⟩:∃Q:Nat,q=(Q:Int):=⟨q.toNat,by omega⟩;have hQ:Q<7:=by omega
  have ak:decide ((Q:Int)<7)=true:=by simp only[ei8];omega
  obtain⟨w3,q1,q2,q3⟩:=af3 (P:=prog) (t:=4) (x:=.bool true) (i:=Q) J hQ rfl rfl bs aK;rw[dw9 hQ]at q2;simp only[i5,n9,y4,simprocAttr,a9,bV,e6,ae,L,ak,q1];refine T4 (k+1) ⟨?_,aV.trans q3⟩;rw[A];exact q2
 rintro rfl;rw[eg4]at J;have bA:=af.ext a3;clear aV aS;simp only[i5,n9,simprocAttr,e1,b3,cf];refine A6 [0,1,6,24,25] (σ:=Nat×Value) (λs f E=>f 26 = .int .i64 s.1/\f 9=s.2/\s.1<=S.length/\B0 hZ E 3 s.2 (((List.range s.1).filter λa=>S.getD a false).map λ(a:Nat)=>(a:Int))/\(∀b,A0 s.2 b->w2.heap.size<=b)/\o6 w2 E) (λs=>S.length-s.1) (0,.slice none 0 0) ?_ ?_
 .simp only[B3,simprocAttr];exact⟨by trivial,by trivial,eg3 _,B0.nil _ _ _,λb p=>absurd p D5,o8.refl _⟩
 rintro⟨k,v⟩ f3 w3 ⟨g0,g1,g6,a7,bX,_⟩ ⟨aB,h9,bu,ar,z,ab⟩;simp only at aB h9 bu ar z;rw[e0]at g0;rw[e1]at g1;rw[e6]at g6;have av:=bA.ext ab;simp only[i5,n9,simprocAttr,aB,bX];refine y5 (λo=>?_) ?_
 .have ae:=av.inS o;have L:(Instr.loadAt 4 (.pointer (some (G9 vs k)))).run prog w3 = .ok (.bool S[k]) w3:=D6 (P:=prog) av (ef1 o) ah3;have A:=bR8 S k o;generalize S[k]=sb at L A;rcases ef2 sb with h1|h1<;>subst h1
  .simp only[em4]at A;have cI:(((List.range k).filter λa=>S.getD a false).map λ(a:Nat)=>(a:Int)).length<=k:=by
    rw[eg5];refine ef9 (eh9 _ _) ?_;rw[ek6];exact eg6 _
   obtain⟨p1,u4,w4,p2,p3,p4,p5⟩:=push (P:=prog) (t:=24) (e:=24) V4 rfl ar (x:=.int .i64 (k:Int)) (y:=(k:Int)) rfl (by omega) (by omega) (S8 _);simp only[Value.cells]at p1 p2;simp only[i5,n9,y4,simprocAttr,aB,h9,a7,ae,L,p1,p2];refine nx4 (k+1,u4) ⟨?_,λb p=>?_,o8.ext_of ab p4 z⟩
   .simp only[];rw[A];exact p3
   .rcases p5 b p with h|h
    .exact z b h
    .exact ef9 ab.size h
  .simp only[em5,en5,ei5]at A;simp only[i5,n9,y4,simprocAttr,aB,h9,a7,ae,L];refine nx4 (k+1,v) ⟨?_,z,ab⟩;simp only[];rw[A];exact ar
 rintro rfl;have a1:(((List.range S.length).filter λa=>S.getD a false).map λ(a:Nat)=>(a:Int))=af0 S:=rfl;rw[a1]at ar;have bz:(ab5 N ks).length=S.length:=by simp[ab5,hl]
 have aM:OkR (ab5 N ks):=dh3 hA;have aO:=λa b=>cj6 (R:=N) (ks:=ks) (a:=a) (b:=b);generalize cX:ab5 N ks=nx at bz aM aO;have bo:=(ab.block _ (ef5.1 J).1 id).trans J;have cG:w.heap.size<w2.heap.size:=(ef5.1 J).1;have bI:=a3.trans ab;have cY:(af0 S).length<=S.length:=by
  unfold af0;rw[eg5];refine ef9 (eh9 _ _) ?_;rw[ek6];exact eg6 _
 refine A6 [0,1,6] (σ:=Value×List Int×List Bool) (λs f E=>f 9=s.1/\B0 hZ E 3 s.1 s.2.1/\B0 H E 4 vs s.2.2/\(∀b,A0 s.1 b->w2.heap.size<=b)/\E.heap[w.heap.size]?=some (.cells (aN1 ks) 219 (0,0))/\o8 (A0 vs) w E/\w2.heap.size<=E.heap.size/\SpJ nx S s.2.1 s.2.2 (λ_=>False)/\s.2.1.length+s.2.2.count false<=2*S.length) (λs=>s.2.1.length+s.2.2.count false) (v,af0 S,S) ?_ ?_
 .simp only[B3,simprocAttr];refine⟨h9,ar,av,z,bo,bI.weaken λ_ _ h=>h.elim,ab.size,SpJ.start,?_⟩;have:=List.count_le_length (a:=false) (l:=S);omega
 rintro⟨v4,X,sn⟩ f4 w4 ⟨r0,r1,r6,_⟩ ⟨aP,Z,aw,ap,bp,aW,bE,hJ,bg⟩;simp only at aP Z aw ap hJ bg;rw[g0]at r0;rw[g1]at r1;rw[g6]at r6;have bd:=Z.isS;have aY:=Z.vlen;have cF:=Z.vcap;simp only[i5,n9,simprocAttr,aP,bd,aY];refine A4 (λhc=>?_) (λhc=>?_);rotate_left
 .have ck:X=[]:=by
   have:¬(0:Int)<(X.length:Int):=by simpa using hc
   exact List.length_eq_zero_iff.1 (by omega)
  subst ck;have br:=hJ.fin aM bz;simp only[i5,simprocAttr];refine bS5 results84 ?_;rw[<-br];exact⟨aw,aW⟩
 obtain⟨n,bw⟩:∃n,X.length=n+1:=⟨X.length-1,by have:(0:Int)<(X.length:Int):=by simpa using hc
                                              omega⟩
 obtain⟨td,c,rfl,cZ,cl,cm⟩:=bE1 bw;obtain⟨bb,bm⟩:=hJ.pop;have bn:=V8 bm;rw[bb.len]at bn;obtain⟨cQ,cR⟩:=B4.1 bn;obtain⟨C,rfl⟩:∃C:Nat,c=(C:Int):=⟨c.toNat,by omega⟩;have co:IntKind.i64.wrap (((n+1:Nat):Int)-1)=(n:Int):=by rw[M2 _ (by omega)];omega
 rw[bw]at aY;have ae:=Z.inS (k:=n) (by omega);have L:(Instr.loadAt 3 (.pointer (some (G9 v4 n)))).run prog w4 = .ok (.int .i64 (C:Int)) w4:=D6 (P:=prog) Z cl G3;obtain⟨ax,bh⟩:=cm1 (sz:=1) Z (i:=n) (by omega);rw[cm]at ax;have aQ:decide ((n:Int)<=(vcap v4:Int))=true:=by simp;omega
 have aq:∀b,A0 (reS v4 0 n 1) b->w2.heap.size<=b:=λb p=>ap b ((bh b).1 p);generalize cn:reS v4 0 n 1=v5 at ax aq;have aC:C<N.length:=by omega
 have bZ:B8 H (m8 w4):=H2 hH aW λb p=>af.free p;obtain⟨uR,az,b6⟩:=R.row bF (ef1 aC);have bt:=bF.inS aC;have cc:=J1 (P:=prog) (t:=216) b6 bZ cb7;obtain⟨cj,bD⟩:=hA _ (eg2 aC);have a2:∀b,b∈D4 nx (C:Int)↔∃k∈ks,(b,k)∈N[C]:=λb=>by
  rw[aO,eh6,List.getD_eq_getElem?_getD,ef1 aC,ek4];exact⟨λh=>h.2,λh=>⟨B4.2 ⟨by omega,by omega⟩,h⟩⟩
 generalize N[C]=W at az cj bD a2;have b2:=az.isS;have ce:=az.vlen;rw[ef4,ei6]at bg;simp only[i5,n9,y4,J0,simprocAttr,aP,bd,aY,co,ae,L,aQ,cn,r0,bt,cc,b2,ce];refine A6 [0,1,6,54,55] (σ:=(Nat×Value)×(List Int×List Bool)) (λs f E=>f 56 = .int .i64 s.1.1/\f 9=s.1.2/\s.1.1<=W.length/\B0 hZ E 3 s.1.2 s.2.1/\B0 H E 4 vs s.2.2/\(∀b,A0 s.1.2 b->w2.heap.size<=b)/\E.heap[w.heap.size]?=some (.cells (aN1 ks) 219 (0,0))/\o8 (A0 vs) w E/\w2.heap.size<=E.heap.size/\SpJ nx S s.2.1 s.2.2 (λd=>d=(C:Int))/\B1 s.2.2 (C:Int)=true/\(∀t∈W.take s.1.1,t.2∈ks->B1 s.2.2 t.1=true)/\s.2.1.length+s.2.2.count false<=td.length+sn.count false) (λs=>W.length-s.1.1) ((0,v5),(td,sn)) ?_ ?_
 .simp only[B3,simprocAttr];exact⟨by trivial,by trivial,eg3 _,ax,aw,aq,bp,aW,bE,bb,bm,λt ht=>by simp at ht,eg6 _⟩
 rintro⟨⟨j,v6⟩,aH,g⟩ f6 w6 ⟨j0,j1,j6,a4,cq,_⟩ ⟨ag,ah,b9,aZ,ac,m,am,aX,U,ad,I,G,Y⟩;simp only at ag ah b9 aZ ac m ad I G Y;rw[r0]at j0;rw[r1]at j1;rw[r6]at j6;simp only[i5,n9,simprocAttr,ag,cq];refine y5 (λo=>?_) ?_;rotate_left
 .rintro rfl;rw[eg4]at G;have b1:=ad.close (λd hd=>by
   obtain⟨k,hk,hm⟩:=(a2 d).1 hd;exact G _ hm hk)
  simp only[i5,simprocAttr];exact⟨(v6,aH,g),by simp only[];rw[ef4,ei6];omega,ah,aZ,ac,m,am,aX,U,b1,by simp only[];omega⟩
 have an:=az.inS o;have ba:B8 H (m8 w6):=H2 hH aX λb p=>af.free p;have O:=dA2 az ba (ef1 o);obtain⟨aT,aD,aE⟩:=bD _ (eg2 o);have aU:W[j].2∈ks->W[j].1∈D4 nx (C:Int):=λh=>(a2 _).2 ⟨W[j].2,h,eg2 o⟩;have A:=ef8 o;generalize W[j]=t at O aT aD aE aU A;obtain⟨d,q⟩:=t;simp only at O aT aD aE aU;obtain⟨Q,rfl⟩:∃Q:Nat,q=(Q:Int):=⟨q.toNat,by omega⟩;obtain⟨cS,cT⟩:=B4.1 aT;obtain⟨D,rfl⟩:∃D:Nat,d=(D:Int):=⟨d.toNat,by omega⟩;have hQ:Q<7:=by omega
 have ak:decide ((Q:Int)<7)=true:=by simp only[ei8];omega
 obtain⟨ca,c9,w7,al,ay,V,bk,cE⟩:=dn1 (w:=w6) (D:Int) (Q:Int);obtain⟨bJ,a5⟩:=aG1 bk (o8.refl (M:=λ_=>False) w7) id;have K:=(V.block _ (ef5.1 am).1 id).trans am;have T:=E7 (P:=prog) (t:=4) K (dw8 hQ) ah3;have B:=ac.ext V;have a0:=aZ.ext V;have F:o8 (A0 vs) w w7:=aX.trans (V.weaken λ_ _ h=>h.elim);have cJ:=ad.len;have aj:D<g.length:=by omega
 have aL:=B.inS aj;have ao:(Instr.loadAt 4 (.pointer (some (G9 vs D)))).run prog w7 = .ok (.bool g[D]) w7:=D6 (P:=prog) B (ef1 aj) ah3;have au:I2 g.length (D:Int)=true:=B4.2 ⟨by omega,by omega⟩;have bf:B1 g (D:Int)=g[D]:=by
  rw[(O0 au).2,eh6,List.getD,ef1 aj];rfl
 have aR:=ac1 (l:=g) aj;generalize g[D]=sb at ao bf aR;have aa:∀sn:List Bool,(∀e,B1 g e=true->B1 sn e=true)->((Q:Int)∈ks->B1 sn (D:Int)=true)->∀t∈W.take (j+1),t.2∈ks->B1 sn t.1=true:=λsn hm hd t ht hk=>by
  rw[A]at ht;rcases eg1.1 ht with ht|ht
  .exact hm _ (G t ht hk)
  .simp only[eh2]at ht;subst ht;exact hd hk
 rcases ef2 (ks.contains (Q:Int))with hq|hq;rotate_left
 .rw[hq]at T;have ci:(Q:Int)∉ks:=λh=>by rw[eg7.2 h]at hq;cases hq
  simp only[i5,n9,y4,simprocAttr,ag,ah,a4,an,O,al,ay,a5,j6,ak,T];exact nx4 ((j+1,v6),(aH,g)) ⟨a0,B,m,K,F,ef9 U V.size,ad,I,aa g (λ_ h=>h) (λh=>absurd h ci),Y⟩
 rw[hq]at T;have ch:=eg7.1 hq;rcases ef2 sb with h1|h1<;>subst h1
 .simp only[i5,n9,y4,simprocAttr,ag,ah,a4,j1,an,O,al,ay,bJ,a5,j6,ak,T,aL,ao];exact nx4 ((j+1,v6),(aH,g)) ⟨a0,B,m,K,F,ef9 U V.size,ad,I,aa g (λ_ h=>h) (λ_=>bf),Y⟩
 have aR:=aR rfl;obtain⟨w8,s1,bB,r,cK⟩:=F1 (P:=prog) (t:=4) B rfl aj (x:=.bool true) (y:=true) rfl rfl bs aK;have bl:=aG1 bk r (λh=>by have:=B.lt h;have:=ac.lt h;omega);have aJ:=(r.block _ (ef5.1 K).1 λh=>by have:=aN _ h;omega).trans K;have bv:∀b,A0 v6 b->¬A0 vs b:=λb p b4=>by
  have:=m b p;have:=aN b b4;omega
 have cg:=a0.mod r bv;obtain⟨p1,u9,w9,p2,p3,p4,p5⟩:=push (P:=prog) (t:=24) (e:=24) V4 rfl cg (x:=.int .i64 (D:Int)) (y:=(D:Int)) rfl (by omega) (by omega) (S8 _);simp only[Value.cells]at p1 p2;have bC:=bB.mod p4 λb p h=>bv b h p;have bq:=(p4.block _ (ef5.1 aJ).1 λh=>by have:=m _ h;omega).trans aJ;have bc:=ad.push I au (aU ch);rw[eh6]at bc;have bj:∀e,B1 (g.set D true) e=if e=(D:Int)then true else B1 g e:=λe=>by
  have:=O6 (l:=g) (a:=(D:Int)) (b:=e) (v:=true) au;rw[eh6]at this;exact this
 have bi:∀e,B1 g e=true->B1 (g.set D true) e=true:=λe he=>by rw[bj,he];simp
 have cd:o8 (A0 vs) w w9:=by
  refine⟨p4.os.trans (r.os.trans F.os),p4.tape.trans (r.tape.trans F.tape),p4.output.trans (r.output.trans F.output),ef9 F.size (ef9 r.size p4.size),λb p bx=>?_⟩;rw[p4.block b (el8 p (ef9 F.size r.size)) λh=>by have:=m b h;omega,r.block b (el8 p F.size) bx];exact F.block b p bx
 simp only[i5,n9,y4,simprocAttr,ag,ah,a4,j1,an,O,al,ay,bJ,a5,j6,ak,T,aL,ao,s1,bl.1,p1,p2];refine nx4 ((j+1,u9),(aH++[(D:Int)],g.set D true)) ⟨p3,bC,λb p=>?_,bq,cd,ef9 (ef9 U V.size) (ef9 r.size p4.size),bc,bi _ I,aa _ bi λ_=>?_,?_⟩
 .rcases p5 b p with h|h
  .exact m b h
  .exact ef9 (ef9 U V.size) (ef9 r.size h)
 .rw[bj];simp
 .simp only[ef4,ei6];omega
theorem bE8(n:Nat)(l:List Int):T7 n l=ac8 n l:=rfl
def cx6{n:Nat}(l:List Int){q:Nat}(a:q<n):(T7 n l).set q true=T7 n (l++[(q:Int)]):=by
 rw[bE8,aT9 l a,bE8];exact aB1 λx=>by simp[or_comm]
section
variable {w1 w:World} {g r:Nat} {ab:Addr} {vP:Value} {x:WX} {c:WC}
def aI9(s:WS w1 w g r ab vP x c)(v:Value)(l:List Int)(hv:R (m8 w) v l)(S:∀a∈l,I2 c.V.length a=true)(hn:c.V.length<=1000000000)(U:l.length<=1000000000):
  o9 prog 83 #[.pointer (some ⟨g,0,none⟩),v] w λu E=>(B0 (m8 w) E 4 u (T7 c.V.length l)/\o6 w E):=by
 refine p9 [.pointer (some ⟨g,0,none⟩),v] func83 rfl ?_;obtain⟨ib,I,o⟩:=aA6 (P:=prog) W5 aG0;have V:=s.ld (i:=2) (u:=x.vV) rfl ab9;have H:=s.oV.isS;have z:=s.oV.vlen;generalize c.V.length=n at S hn z;obtain⟨X,w2,L,M,N,_,_⟩:=mk (P:=prog) (w:=w) (h:=m8 w) (α:=Bool) bI1 W5 (y:=false) rfl (n:=n) (by omega) (by omega) (n7 _);simp only[i5,n9,simprocAttr,V,H,z,L,hv.isS,hv.vlen];refine A6 [0,1,5,14,15] (σ:=Nat) (λk f E=>f 16 = .int .i64 k/\k<=l.length/\B0 (m8 w) E 4 X (T7 n (l.take k))/\o6 w E) (λk=>l.length-k) 0 ?_ ?_
 .refine⟨rfl,eg3 _,?_,N⟩;rw[ep6,bE8,bR0];exact M
 rintro k f w3 ⟨e0,Y,O,F,G,_⟩ ⟨j,T,b,e⟩;simp only[i5,n9,simprocAttr,j,G];refine y5 (λd=>?_) ?_;rotate_left
 .rintro rfl;rw[eg4]at b;simp only[i5,simprocAttr,O];exact o7 results83 ⟨b,e⟩
 have J:=hv.inS d;have q:=aC3 hv (b7 e) d;have C:=S _ (eg2 d);have D:=ef8 d;generalize l[k]=a at q C D;obtain⟨Z,h1⟩:=B4.1 C;obtain⟨A,rfl⟩:∃A:Nat,a=(A:Int):=⟨a.toNat,by omega⟩;have Q:A<n:=by omega
 have m:A<(T7 n (l.take k)).length:=by rw[G2];exact Q
 have p:=b.inS m;obtain⟨w4,W,B,K,_⟩:=F1 (P:=prog) (t:=4) b rfl m (x:=.bool true) (y:=true) rfl rfl I o;rw[cx6 _ Q,<-D]at B;simp only[i5,n9,y4,simprocAttr,j,O,F,J,q,p,W];exact T4 (k+1) ⟨B,b.ext2 e K⟩
def aV2{w0:World}{d vs f:Value}{us:List X9}{N:List (List (Int×Int))}{S:List Bool}{ks:List Int}(t:E2 hZ w TAs TAr d us N)(l:∀b,N2 d us b->b<w0.heap.size)(p:B0 (m8 w0) w 4 vs S)(v:o6 w0 w)
  (o:B0 hZ w 3 f ks) (r:∀b,A0 f b->¬A0 vs b) (q:OkA N.length N) (s:N.length=S.length) (hn:S.length<=1000000000) (j:∀k∈ks,1<=k/\k<=6) (i:ks.length<=1000) :
  o9 prog 84 #[d,vs,f] w λu g=>(B0 (m8 w0) g 4 vs (I3 (ab5 N ks) S)/\o8 (A0 vs) w g/\o6 w0 g):=by
 have c:∀b,A0 vs b->w0.heap.size<=b:=λb a=>D1 (p.free a);have m:B0 (C1 w (A0 vs)) w 4 vs S:=(p.down (S8 _)).up (S8 _) λb a=>F9 a;refine(cA3 (C1 w (A0 vs)) d vs f N S ks w (A8 _ _) (t.roK (S8 _) λb a=>E4 λh=>?_) m (o.flatR λb a=>E4 (r b a)) q s hn j i).mono ?_
 .have:=c b h;have:=l b a;omega
 .rintro e g ⟨u,rfl,n,hm⟩;exact⟨u,rfl,(n.down (S8 _)).up (S8 _) λb a=>bf0 (c b a),hm,o8.ext_of v hm c⟩
def cL0(s:WS w1 w g r ab vP x c)(a:Nat)(I:a<c.V.length)(C:OkA c.P.length c.P)(D:c.P.length=c.V.length)(hn:c.V.length<=1000000000):
  o9 prog 81 #[.pointer (some ⟨g,0,none⟩),.int .i64 a] w λu B=>(B0 (m8 w) B 4 u (I3 (ab5 c.P [1,2,3]) (T7 c.V.length [(a:Int)]))/\o6 w B):=by
 refine p9 [.pointer (some ⟨g,0,none⟩),.int .i64 a] func81 rfl ?_;obtain⟨G,K,p,t,e,_⟩:=lit (P:=prog) (w:=w) (h:=m8 w) (α:=Int) (xs:=[.int .i64 a]) (ys:=[(a:Int)]) (parts:=#[(0,.int .i64 a)]) (n:=1) V4 rfl (G4.2 rfl) (by simp[Value.cells]) rfl rfl (by simp) (by simp) (n7 _);have A:=s.more e;simp only[i5,n9,simprocAttr,p];refine t8 (aI9 A G [(a:Int)] (t.rw_ (b7 e)) (λb k=>by simp only[eh2]at k;subst k;exact B4.2 ⟨by omega,by omega⟩) hn (by simp)) ?_;rintro u H ⟨d,l⟩;have f:=e.trans l;have d:=d.back e;have F:=A.more l;have E:=F.ld (i:=7) (u:=x.vp) rfl bj5;obtain⟨J,L,q,v,j,o⟩:=lit (P:=prog) (w:=H) (h:=hZ) (α:=Int) (xs:=[.int .i64 1,.int .i64 2,.int .i64 3]) (ys:=[1,2,3]) (parts:=#[(0,.int .i64 1),(1,.int .i64 2),(2,.int .i64 3)]) (n:=3) V4 rfl (G4.2 rfl) (by simp[Value.cells]) rfl rfl (by simp) (by simp) (S8 _);simp only[i5,n9,simprocAttr,E,q];refine t8 (aV2 ((s.rp).ext (f.trans j)) (λb k=>s.lt (i:=6) k) (d.ext j) (f.trans j) v (λb k m=>by have:=d.lt m;have:=o b k;omega) C (by rw[D,G2]) (by rw[G2];exact hn) (by simp) (by simp)) ?_;rintro _ M ⟨y,_,z⟩;simp only[i5,simprocAttr];exact o7 results81 ⟨y,z⟩
def bV0(s:WS w1 w g r ab vP x c)(v:Value)(l:List Int)(hv:R (m8 w) v l)(B:∀a∈l,I2 c.V.length a=true)(y:l.length<=1000000000)(H:OkA c.P.length c.P)(I:c.P.length=c.V.length)(hn:c.V.length<=1000000000):
  o9 prog 50 #[.pointer (some ⟨g,0,none⟩),v] w λu J=>(B0 (m8 w) J 4 u (I3 (ab5 c.P [1,2,3,6]) (I3 (ab5 c.P [1,2,3,4,5]) (T7 c.V.length l)))/\o6 w J):=by
 refine p9 [.pointer (some ⟨g,0,none⟩),v] func50 rfl ?_;simp only[i5,n9,simprocAttr];refine t8 (aI9 s v l hv B hn y) ?_;rintro u K ⟨p,f⟩;have G:=(s.more f).ld (i:=7) (u:=x.vp) rfl bj5;obtain⟨M,O,z,C,j,q⟩:=lit (P:=prog) (w:=K) (h:=hZ) (α:=Int) (xs:=[.int .i64 1,.int .i64 2,.int .i64 3,.int .i64 4,.int .i64 5]) (ys:=[1,2,3,4,5]) (parts:=#[(0,.int .i64 1),(1,.int .i64 2),(2,.int .i64 3),(3,.int .i64 4),(4,.int .i64 5)]) (n:=5) V4 rfl (G4.2 rfl) (by simp[Value.cells]) rfl rfl (by simp) (by simp) (S8 _);simp only[i5,n9,simprocAttr,G,z];refine t8 (aV2 ((s.rp).ext (f.trans j)) (λb d=>s.lt (i:=6) d) (p.ext j) (f.trans j) C (λb d e=>by have:=p.lt e;have:=q b d;omega) H (by rw[I,G2]) (by rw[G2];exact hn) (by simp) (by simp)) ?_;rintro _ L ⟨o,_,k⟩;have G:=(s.more k).ld (i:=7) (u:=x.vp) rfl bj5;obtain⟨N,Q,A,D,m,t⟩:=lit (P:=prog) (w:=L) (h:=hZ) (α:=Int) (xs:=[.int .i64 1,.int .i64 2,.int .i64 3,.int .i64 6]) (ys:=[1,2,3,6]) (parts:=#[(0,.int .i64 1),(1,.int .i64 2),(2,.int .i64 3),(3,.int .i64 6)]) (n:=4) V4 rfl (G4.2 rfl) (by simp[Value.cells]) rfl rfl (by simp) (by simp) (S8 _);simp only[i5,n9,simprocAttr,G,A];refine t8 (aV2 ((s.rp).ext (k.trans m)) (λb d=>s.lt (i:=6) d) (o.ext m) (k.trans m) D (λb d e=>by have:=o.lt e;have:=t b d;omega) H (by rw[I,K7,G2]) (by rw[K7,G2];exact hn) (by simp) (by simp)) ?_;rintro _ S ⟨E,_,F⟩;simp only[i5,simprocAttr];exact o7 results50 ⟨E,F⟩
def cd6(s:WS w1 w g r ab vP x c)(v:Value)(l:List Int)(hv:R (m8 w) v l)(B:∀a∈l,I2 c.V.length a=true)(y:l.length<=1000000000)(H:OkA c.N.length c.N)(I:c.N.length=c.V.length)(hn:c.V.length<=1000000000):
  o9 prog 51 #[.pointer (some ⟨g,0,none⟩),v] w λu J=>(B0 (m8 w) J 4 u (I3 (ab5 c.N [1,2,3,4,5]) (I3 (ab5 c.N [1,2,3,6]) (T7 c.V.length l)))/\o6 w J):=by
 refine p9 [.pointer (some ⟨g,0,none⟩),v] func51 rfl ?_;simp only[i5,n9,simprocAttr];refine t8 (aI9 s v l hv B hn y) ?_;rintro u K ⟨p,f⟩;have G:=(s.more f).ld (i:=6) (u:=x.vn) rfl bj5;obtain⟨M,O,z,C,j,q⟩:=lit (P:=prog) (w:=K) (h:=hZ) (α:=Int) (xs:=[.int .i64 1,.int .i64 2,.int .i64 3,.int .i64 6]) (ys:=[1,2,3,6]) (parts:=#[(0,.int .i64 1),(1,.int .i64 2),(2,.int .i64 3),(3,.int .i64 6)]) (n:=4) V4 rfl (G4.2 rfl) (by simp[Value.cells]) rfl rfl (by simp) (by simp) (S8 _);simp only[i5,n9,simprocAttr,G,z];refine t8 (aV2 ((s.rn).ext (f.trans j)) (λb d=>s.lt (i:=5) d) (p.ext j) (f.trans j) C (λb d e=>by have:=p.lt e;have:=q b d;omega) H (by rw[I,G2]) (by rw[G2];exact hn) (by simp) (by simp)) ?_;rintro _ L ⟨o,_,k⟩;have G:=(s.more k).ld (i:=6) (u:=x.vn) rfl bj5;obtain⟨N,Q,A,D,m,t⟩:=lit (P:=prog) (w:=L) (h:=hZ) (α:=Int) (xs:=[.int .i64 1,.int .i64 2,.int .i64 3,.int .i64 4,.int .i64 5]) (ys:=[1,2,3,4,5]) (parts:=#[(0,.int .i64 1),(1,.int .i64 2),(2,.int .i64 3),(3,.int .i64 4),(4,.int .i64 5)]) (n:=5) V4 rfl (G4.2 rfl) (by simp[Value.cells]) rfl rfl (by simp) (by simp) (S8 _);simp only[i5,n9,simprocAttr,G,A];refine t8 (aV2 ((s.rn).ext (k.trans m)) (λb d=>s.lt (i:=5) d) (o.ext m) (k.trans m) D (λb d e=>by have:=o.lt e;have:=t b d;omega) H (by rw[I,K7,G2]) (by rw[K7,G2];exact hn) (by simp) (by simp)) ?_;rintro _ S ⟨E,_,F⟩;simp only[i5,simprocAttr];exact o7 results51 ⟨E,F⟩
def bU9(s:WS w1 w g r ab vP x c)(y:Vx):
  o9 prog 52 #[.pointer (some ⟨g,0,none⟩),.agg (p8.cells y).toArray] w λu e=>(u = .tuple #[(al6 c.kv y).getD (.int .i64 0),.bool (al6 c.kv y).isSome]/\o6 w e):=by
 refine p9 [.pointer (some ⟨g,0,none⟩),.agg (p8.cells y).toArray] func52 rfl ?_;obtain⟨t,i,l,j,k⟩:=aH1 (w:=w) (λ_=>False) (SV.ofN (m8 w) y) λb n=>n.elim;have m:=s.more (j.trans (o6.drew i));have o:=(I6.vx_v (SV.ofN (m8 w) y) k).2 (λe=>e=i.drew) i.drew rfl λe h=>by subst h;exact A8 i _
 have p:∀K f d a,F7 prog (λe=>e=i.drew) (Instr.loadAt 88 (.pointer (some ⟨g,5,none⟩))) K f d a=K (C9 f d (.map (some r))) a:=λK f d a=>C0 (w0:=i.drew) rfl λe h=>by subst h;exact m.ld rfl cp5
 have q:∀K f d a,F7 prog (λe=>e=i.drew) (Instr.lookup 88 (.map (some r)) (.agg (p8.cells y).toArray) true) K f d a=K (C9 f d (.tuple #[(al6 c.kv y).getD (.int .i64 0),.bool (al6 c.kv y).isSome])) a:=λK f d a=>C0 (w0:=i.drew) rfl λe h=>by subst h;exact m.lookOk y
 simp only[i5,n9,simprocAttr,l];refine B9 (λe=>e=i.drew) 10 (A5 [0,1,2,3,4,5,6,7,8,9]) ?_;simp only[D0,A5,i5,n9,simprocAttr,o,p,q];exact W7 results52 ⟨rfl,j.trans (o6.drew i)⟩
theorem bR7(V:List Vx)(v:Vx):∀(c:List Vx),N8 V (c++[v])=match N8 V c,atV V v with
  | some l,some a=>some (l++[(a:Int)])
  | _,_=>none
 | []=>by
  simp only[ep1,N8];cases atV V v<;>rfl
 | u::c=>by
  simp only[er0,N8,bR7 V v c];cases atV V u with
  | none=>rfl
  | some b=>
   cases N8 V c with
   | none=>rfl
   | some l=>cases atV V v<;>rfl
def bq3(s:WS w1 w g r ab vP x c)(U:c.kv=as4 c.V)(v:Value)(vs:List Vx)(hv:R (m8 w) v vs)(hl:vs.length<=1000000000):
  o9 prog 47 #[.pointer (some ⟨g,0,none⟩),v] w λu i=>((N8 c.V vs=none->u = .tuple #[.slice none 0 0,.bool false])/\(∀l,N8 c.V vs=some l->∃v',u = .tuple #[v',.bool true]/\B0 (m8 w) i 3 v' l)/\o6 w i):=by
 refine p9 [.pointer (some ⟨g,0,none⟩),v] func47 rfl ?_;simp only[i5,n9,simprocAttr,hv.isS,hv.vlen];refine A6 [0,11,12] (σ:=Nat×Value×List Int) (λt f i=>f 13 = .int .i64 t.1/\f 6=t.2.1/\t.1<=vs.length/\N8 c.V (vs.take t.1)=some t.2.2/\t.2.2.length=t.1/\B0 (m8 w) i 3 t.2.1 t.2.2/\o6 w i) (λt=>vs.length-t.1) (0,.slice none 0 0,[]) ?_ ?_
 .exact⟨rfl,rfl,eg3 _,rfl,rfl,B0.nil _ _ _,o8.refl _⟩
 rintro⟨k,u,l⟩ f Y ⟨e0,F,O,_⟩ ⟨n,Q,T,o,V,X,B⟩;simp only at n Q T o V X;simp only[i5,n9,simprocAttr,n,O];refine y5 (λA=>?_) ?_;rotate_left
 .rintro rfl;rw[eg4]at o;simp only[i5,simprocAttr,Q];refine W7 results47 ?_;simp only[B3,simprocAttr];refine⟨λh=>?_,λl' h=>?_,B⟩
  .rw[o]at h;cases h
  .rw[o]at h;obtain rfl:=eh1 h;exact⟨u,by trivial,X⟩
 have I:=hv.inS A;obtain⟨sv,M,z⟩:=F5 (P:=prog) (t:=26) hv (b7 B) (ef1 A) ar8 as0 am4 N6;rw[N6]at z;have N:=ef8 A;have C:=eg2 A;have p:=bR7 c.V vs[k] (vs.take k);rw[<-N,o]at p;generalize vs[k]=y at M z N C p;obtain rfl:=M.N;obtain⟨a3,wz,m,G,L,D,S⟩:=ap9 (w:=Y) (λ_=>False) (SV.ofN (m8 Y) y) λb hb=>hb.elim;have s3:=s.more ((B.trans D).trans (o6.drew m));have H:=aT4 c.V y;have t1:=(I6.vx_v (SV.ofN (m8 Y) y) S).2 (λi=>i=m.drew) m.drew rfl λi h=>by subst h;exact A8 m _
 have t2:∀K f d j,F7 prog (λi=>i=m.drew) (Instr.loadAt 88 (.pointer (some ⟨g,5,none⟩))) K f d j=K (C9 f d (.map (some r))) j:=λK f d j=>C0 (w0:=m.drew) rfl λi h=>by subst h;exact s3.ld rfl cp5
 have E:∀K f d j,F7 prog (λi=>i=m.drew) (Instr.lookup 88 (.map (some r)) (.agg (p8.cells y).toArray) true) K f d j=K (C9 f d (.tuple #[(al6 c.kv y).getD (.int .i64 0),.bool (al6 c.kv y).isSome])) j:=λK f d j=>C0 (w0:=m.drew) rfl λi h=>by subst h;exact s3.lookOk y
 rw[U,H]at E;have q:=(B.trans D).trans (o6.drew m);cases ha:atV c.V y with
 | none=>
  rw[ha]at p E;simp only[Option.map_none,Option.getD_none,Option.isSome_none]at E;simp only[i5,n9,y4,simprocAttr,n,F,I,z,G,L];refine B9 (λi=>i=m.drew) 10 (A5 [0,1,2,3,4,5,6,7,8,9]) ?_;simp only[D0,A5,i5,n9,simprocAttr,e0,t1,t2,E];refine W7 results47 ?_;simp only[B3,simprocAttr];have W:N8 c.V vs=none:=aE9.2 ⟨y,C,λh=>by rw[<-ab2,ha]at h;cases h⟩;exact⟨λ_=>by trivial,λl' h=>(by rw[W]at h;cases h),q⟩
 | some a=>
  rw[ha]at p E;simp only[el5,ek4,Option.isSome_some]at E;have J:=X.ext (D.trans (o6.drew m));obtain⟨Z,u4,w4,p2,p3,p4,_⟩:=push (P:=prog) (t:=24) (e:=24) V4 rfl J (x:=.int .i64 (a:Int)) (y:=(a:Int)) rfl (by omega) (by omega) (b7 q);simp only[Value.cells]at Z p2;simp only[i5,n9,y4,simprocAttr,n,F,I,z,G,L];refine B9 (λi=>i=m.drew) 10 (A5 [0,1,2,3,4,5,6,7,8,9]) ?_;simp only[D0,A5,i5,n9,simprocAttr,e0,n,Q,t1,t2,E,Z,p2];exact nx4 (k+1,u4,l++[(a:Int)]) ⟨p,by simp only[ef4,ei6];omega,p3,J.ext2 q p4⟩
def ck1(V:List Vx)(S:List Bool)(k:Nat)(b:k<S.length)(c:S.length=V.length):((((List.range (k+1)).filter λa=>S.getD a false).map λ(a:Nat)=>(a:Int)).filterMap λi=>V[i.toNat]?)=((((List.range k).filter λa=>S.getD a false).map λ(a:Nat)=>(a:Int)).filterMap λi=>V[i.toNat]?)++if S[k]=true then[V[k]]else[]:=by
 rw[bR8 S k b,List.filterMap_append]
 congr 1
 cases S[k]with
 | false=>rfl
 | true=>
  simp only[em4,List.filterMap_cons,eh6,List.filterMap_nil];rw[ef1 (by omega)]
def bz2(s:WS w1 w g r ab vP x c)(v:Value)(S:List Bool)(hv:R (m8 w) v S)(W:S.length=c.V.length)(hn:c.V.length<=1000000):
  o9 prog 48 #[.pointer (some ⟨g,0,none⟩),v] w λu F=>(B0 (m8 w) F 26 u (E8 c.V S)/\o6 w F):=by
 refine p9 [.pointer (some ⟨g,0,none⟩),v] func48 rfl ?_;have J:=hv.isS;have K:=hv.vlen;have O:=s.rV;have n:=λk V=>ck1 c.V S k V W;have j:E8 c.V S=((((List.range S.length).filter λa=>S.getD a false).map λ(a:Nat)=>(a:Int)).filterMap λi=>c.V[i.toNat]?):=rfl;have m:∀k,k<=S.length->((((List.range k).filter λa=>S.getD a false).map λ(a:Nat)=>(a:Int)).filterMap λi=>c.V[i.toNat]?).length<=k:=λk _=>by
  refine ef9 (List.length_filterMap_le _ _) ?_;rw[eg5];refine ef9 (eh9 _ _) ?_;rw[ek6];exact eg6 _
 have H:∃T:Nat->List Vx,(∀k,T k=((((List.range k).filter λa=>S.getD a false).map λ(a:Nat)=>(a:Int)).filterMap λi=>c.V[i.toNat]?)):=⟨_,λ_=>rfl⟩;obtain⟨L,z⟩:=H;simp only[<-z]at n j m;have I:L 0=[]:=by rw[z];rfl
 simp only[i5,n9,simprocAttr,J,K];refine A6 [0,8,9] (σ:=Nat×Value) (λt f F=>f 10 = .int .i64 t.1/\f 5=t.2/\t.1<=S.length/\B0 (m8 w) F 26 t.2 (L t.1)/\o6 w F) (λt=>S.length-t.1) (0,.slice none 0 0) ?_ ?_
 .simp only[B3,simprocAttr];exact⟨by trivial,by trivial,eg3 _,by rw[I];exact B0.nil _ _ _,o8.refl _⟩
 rintro⟨k,u⟩ f Q ⟨e0,M,U,_⟩ ⟨h,G,C,D,b⟩;simp only at h G C D;simp only[i5,n9,simprocAttr,h,U];refine y5 (λq=>?_) ?_;rotate_left
 .rintro rfl;simp only[i5,simprocAttr,G];exact o7 results48 ⟨by rw[j];exact D,b⟩
 have A:=hv.inS q;have p:(Instr.loadAt 4 (.pointer (some (G9 v k)))).run prog Q = .ok (.bool S[k]) Q:=N7 (P:=prog) (t:=4) hv (b7 b) (ef1 q) ah3;have d:=n k q;have o:k<c.V.length:=by omega
 have X:=m k C;generalize S[k]=sb at p d;rcases ef2 sb with N|N<;>subst N
 .simp only[em4]at d;have Y:=(s.more b).ld (i:=2) (u:=x.vV) rfl ab9;have B:=O.inS o;obtain⟨sv,E,l⟩:=F5 (P:=prog) (t:=26) O (b7 b) (ef1 o) ar8 as0 am4 N6;rw[N6]at l;generalize c.V[k]=y at E d;obtain rfl:=E.N;obtain⟨Z,u4,w4,p2,p3,p4,_⟩:=push (P:=prog) (t:=22) (e:=22) at7 rfl D (x:=.agg (p8.cells y).toArray) (y:=y) ((p8.iff_ _ _ _).2 rfl) (by omega) (by omega) (b7 b);simp only[i5,n9,y4,simprocAttr,h,G,e0,M,A,p,Y,B,l,Z,p2];exact nx4 (k+1,u4) ⟨by rw[d];exact p3,D.ext2 b p4⟩
 .simp only[em5,en5,ei5]at d;simp only[i5,n9,y4,simprocAttr,h,G,M,A,p];exact nx4 (k+1,u) ⟨by rw[d];exact D,b⟩
end
def ce8(a b:Int):B6 prog 218 [(0,.int .i64 a),(1,.int .i64 b)]=some (.agg #[.int .i64 a,.int .i64 b]):=by
 simp[B6,dH7,J9,Instr.fill,Value.cells]
section
variable {w1 w:World} {g r:Nat} {ab:Addr} {vP:Value} {x:WX} {c:WC}
def cG8(s:WS w1 w g r ab vP x c)(ah:c.kv=as4 c.V)(L:List Eg)(hN:c.N=Z6 c.V L)(hP:c.P=X5 c.V L)(h0:0<c.V.length)(hn:c.V.length<=1000000000)(hL:L.length<=1000000000)(e:Eg):
  o9 prog 80 #[.pointer (some ⟨g,0,none⟩),.agg (p8.cells e).toArray] w λ_ j=>(∃t p:X9,WS w1 j g r ab vP {x with un:=x.un.set (E5 c.V e.src) t,up:=x.up.set (E5 c.V e.dst) p} {c with N:=Z6 c.V (L++[e]),P:=X5 c.V (L++[e])}/\o8 (λb=>U0 g r x 5 b\/U0 g r x 6 b) w j /\
   ∀i b,U0 g r {x with un:=x.un.set (E5 c.V e.src) t,up:=x.up.set (E5 c.V e.dst) p} i b->U0 g r x i b\/w.heap.size<=b):=by
 refine p9 [.pointer (some ⟨g,0,none⟩),.agg (p8.cells e).toArray] func80 rfl ?_;obtain⟨be,k,ag,z,ae⟩:=cE1 (w:=w) (λb=>∃i,U0 g r x i b) (SV.ofN (m8 w) e) λb ⟨i,m⟩=>s.lt m;obtain⟨us,ud,T,ad,S,ac,_,Z⟩:=I6.eg (SV.ofN (m8 w) e) ae;obtain rfl:=T.N;obtain rfl:=S.N;have s2:=s.more (z.trans (o6.drew k));have hA:=aU4 h0 e.src;have hB:=aU4 h0 e.dst;have n:=bR4 (L:=L) hA;have o:=cT4 (L:=L) hB;have v:=cy2 (V:=c.V) L e;have y:=cy9 (V:=c.V) L e;have k1:=s2.look e.src;have k2:=s2.look e.dst;rw[ah,cx1]at k1 k2;rw[<-hN]at n v;rw[<-hP]at o y;have I:((L.filter λx=>decide (E5 c.V x.src=E5 c.V e.src)).map λx=>(((E5 c.V x.dst:Nat):Int),x.kind)).length<=1000000000:=by
  rw[eg5];exact ef9 (eh9 _ _) hL
 have J:((L.filter λx=>decide (E5 c.V x.dst=E5 c.V e.dst)).map λx=>(((E5 c.V x.src:Nat):Int),x.kind)).length<=1000000000:=by
  rw[eg5];exact ef9 (eh9 _ _) hL
 generalize((L.filter λx=>decide (E5 c.V x.src=E5 c.V e.src)).map λx=>(((E5 c.V x.dst:Nat):Int),x.kind))=rowN at n v I;generalize((L.filter λx=>decide (E5 c.V x.dst=E5 c.V e.dst)).map λx=>(((E5 c.V x.src:Nat):Int),x.kind))=rowP at o y J;rw[v,y];generalize E5 c.V e.src=A at hA n k1 ⊢;generalize E5 c.V e.dst=B at hB o k2 ⊢;have t1:=(I6.vx_v T ad).2 (λj=>j=k.drew) k.drew rfl λj h=>by subst h;exact A8 k _
 have t2:=(I6.vx_v S ac).2 (λj=>j=k.drew) k.drew rfl λj h=>by subst h;exact A8 k _
 have t3:∀K f d a,F7 prog (λj=>j=k.drew) (Instr.loadAt 88 (.pointer (some ⟨g,5,none⟩))) K f d a=K (C9 f d (.map (some r))) a:=λK f d a=>C0 (w0:=k.drew) rfl λj h=>by subst h;exact s2.ld rfl cp5
 have t4:∀K f d a,F7 prog (λj=>j=k.drew) (Instr.lookup 88 (.map (some r)) (.agg (p8.cells e.src).toArray) false) K f d a=K (C9 f d (.int .i64 (A:Int))) a:=λK f d a=>C0 (w0:=k.drew) rfl λj h=>by subst h;exact k1
 have t5:∀K f d a,F7 prog (λj=>j=k.drew) (Instr.lookup 88 (.map (some r)) (.agg (p8.cells e.dst).toArray) false) K f d a=K (C9 f d (.int .i64 (B:Int))) a:=λK f d a=>C0 (w0:=k.drew) rfl λj h=>by subst h;exact k2
 simp only[i5,n9,simprocAttr,ag];refine B9 (λj=>j=k.drew) 15 (A5 [0,1,2,3,4,5,6,7,8,9,10,11,12,13,14]) ?_;simp only[D0,A5,i5,n9,simprocAttr,t1,t2,t3,t4,t5];obtain⟨t,aB,G,E,b1,v1,w4,l,C,ao,s5,M,aj,X,Q⟩:=(s2.more (o6.drew k.drew)).arcN (i:=A) n ((B:Int),e.kind) I (e:=216);simp only[]at b1 C;have q1:∀K f d a,F7 prog (λj=>o8 (A0 t.v) k.drew.drew j) (Instr.loadAt 89 (.pointer (some ⟨g,6,none⟩))) K f d a=K (C9 f d x.vn) a:=λK f d a=>C0 (w0:=k.drew.drew) (o8.refl _) λj h=>(E j h).1;have q2:∀K f d a,F7 prog (λj=>o8 (A0 t.v) k.drew.drew j) (Instr.loadAt 216 (.pointer (some (G9 x.vn A)))) K f d a=K (C9 f d t.v) a:=λK f d a=>C0 (w0:=k.drew.drew) (o8.refl _) λj h=>(E j h).2;have u:o6 k k.drew.drew:=(o6.drew k).trans (o6.drew k.drew);have q3:=Z (λj=>o8 (A0 t.v) k.drew.drew j) k.drew.drew (o8.refl _) λj h=>H2 (p7 (A8 k _) (b7 u)) h λb m=>F9 ⟨5,X b m⟩;refine B9 (λj=>o8 (A0 t.v) k.drew.drew j) 18 (A5 [0,1,2,3,4,5,6,7,8,9,10,11,12,13,14,15,16,17]) ?_;simp only[D0,A5,i5,n9,y4,simprocAttr,q1,q2,q3,G,ce8 (B:Int) e.kind,b1,C,F2];refine⟨o8.up (o6.alloc _ _),aj,?_⟩;obtain⟨p,aC,H,F,b2,v2,w7,w8,D,ap,s8,al,ak,Y,R⟩:=(s5.more (o6.drew l)).arcP (i:=B) o ((A:Int),e.kind) J (e:=216);simp only[]at b2 D;have r1:∀K f d a,F7 prog (λj=>o8 (A0 p.v) l.drew j) (Instr.loadAt 89 (.pointer (some ⟨g,7,none⟩))) K f d a=K (C9 f d x.vp) a:=λK f d a=>C0 (w0:=l.drew) (o8.refl _) λj h=>(F j h).1;have r2:∀K f d a,F7 prog (λj=>o8 (A0 p.v) l.drew j) (Instr.loadAt 216 (.pointer (some (G9 x.vp B)))) K f d a=K (C9 f d p.v) a:=λK f d a=>C0 (w0:=l.drew) (o8.refl _) λj h=>(F j h).2;have q:o8 (U0 g r x 5) k l:=(u.weaken λ_ _ h=>h.elim).trans M;have O:o8 (U0 g r x 5) k l.drew:=q.trans ((o6.drew l).weaken λ_ _ h=>h.elim);have af:∀b,A0 p.v b->U0 g r x 6 b:=λb m=>Y b m;have r3:=Z (λj=>o8 (A0 p.v) l.drew j) l.drew (o8.refl _) λj h=>H2 (H2 (A8 k _) O λb m=>F9 ⟨5,m⟩) h λb m=>F9 ⟨6,af b m⟩;simp only[i5,simprocAttr,ao];refine B9 (λj=>o8 (A0 p.v) l.drew j) 18 (A5 [0,1,2,3,4,5,6,7,8,9,10,11,12,13,14,15,16,17]) ?_;simp only[D0,A5,i5,n9,y4,simprocAttr,r1,r2,r3,H,ce8 (A:Int) e.kind,b2,D,F2];refine⟨o8.up (o6.alloc _ _),ak,?_⟩;simp only[i5,simprocAttr,ap];refine bS5 results80 ?_;refine⟨⟨v1⟩,⟨v2⟩,s8,?_,?_⟩
 .have h1:o8 (λb=>U0 g r x 5 b\/U0 g r x 6 b) w l:=(z.weaken λ_ _ h=>h.elim).trans (q.weaken λ_ _ h=>.inl h);have h2:o8 (λb=>U0 g r x 5 b\/U0 g r x 6 b) l w8:=((o6.drew l).weaken λ_ _ h=>h.elim).trans (al.weaken λ_ _ h=>.inr h);exact h1.trans h2
 .intro i b m;have U:w.heap.size<=k.drew.drew.heap.size:=(z.trans u).size;have W:k.drew.drew.heap.size<=l.drew.heap.size:=(M.trans ((o6.drew l).weaken λ_ _ h=>h.elim)).size;rcases R i b m with h|h
  .rcases Q i b h with h|h
   .exact .inl h
   .exact .inr (ef9 U h)
  .exact .inr (ef9 U (ef9 W h))
def cL2{p:Pg}(s:WS w1 w g r ab vP x c)(hb:At (m8 w1) ab (i4 p))(T:D3 p)(hw:B7 p<=1000000){id:Int}(h1:1<=id)(h2:id<=(d9 p).l.length):
  o9 prog 139 #[.pointer (some ⟨g,0,none⟩),.int .i64 id] w λu a=>(u = .bool ((i4 p).isCall id)/\o6 w a):=by
 refine p9 [.pointer (some ⟨g,0,none⟩),.int .i64 id] func139 rfl ?_;obtain⟨i,R,I,l,o⟩:=bx3 T.may hw h1 h2;obtain⟨xx,X⟩:=I1 T.may hw i R;have e:=X.ids _ I;have z:=O8 X;generalize xx+A7 p.procs[i].body=y at X z e;have ad:=H7 T.may;obtain⟨sh,vw,_,_,_,_,has,N,_,_,_,_,V,Z⟩:=hb.book rfl;obtain⟨vl,_,_,M,_,_,_,W,_⟩:=has.sh;obtain⟨aw,S,G⟩:=as5 (hv:=N) (k:=i) (p:=⟨D7 (d9 p) i⟩) (by show((J2 p).map λw=>(⟨w⟩:Ptr Wy))[i]?=_;rw[ei9,V6 R];rfl);simp only at G;have H:=N.inS (k:=i) (by show i<((J2 p).map λw=>(⟨w⟩:Ptr Wy)).length;unfold J2;simpa using R);obtain⟨j,rfl⟩:∃j:Nat,id=(j:Int)+1:=⟨(id-1).toNat,by omega⟩;have q:j<(d9 p).l.length:=by omega
 have O:IntKind.i64.wrap ((j:Int)+1-1)=(j:Int):=by rw[M2 _ (by omega)];omega
 have m:=M.inS (k:=j) q;have n:(d9 p).it ((j:Int)+1)=(d9 p).l[j]:=by
  unfold Sh.it;rw[show((j:Int)+1-1).toNat=j by omega,List.getD,ef1 q];rfl
 have C:(i4 p).isCall ((j:Int)+1)=(decide ((d9 p).l[j].s.kind=4)&&(D7 (d9 p) i).lives ((j:Int)+1)):=by
  have hs:(i4 p).s=d9 p:=rfl;unfold Bk.isCall;rw[hs,l,n,L9 R]
 rw[n]at l e o;have l0:=s.ld (i:=0) (u:=.pointer (some ab)) rfl aF9;have lb:=V w s.base;have ls:=W w s.base;obtain⟨sv,L,v⟩:=F5 (P:=prog) (t:=150) M s.base (ef1 q) aa7 aa9 Z3 J3;rw[J3]at v;generalize(d9 p).l[j]=it at L C l e o;obtain⟨d,wz,b,D,J,A,E⟩:=ap8 (L.mono s.base) (n7 _);obtain⟨F,_,aa⟩:=E.it;obtain⟨_,_,_,_,_,_,_,_,_,_,ac⟩:=F.st;have Y:=s.more (A.trans (o6.drew b));have Q:∀a,o6 b.drew a->B8 (m8 w1) (m8 a):=λa h=>p7 Y.base (b7 h);have t0:∀K f d B,F7 prog (λa=>o6 b.drew a) (Instr.loadAt 87 (.pointer (some ⟨g,0,none⟩))) K f d B=K (C9 f d (.pointer (some ab))) B:=λK f d B=>C0 (w0:=b.drew) (o8.refl _) λa h=>(Y.more h).ld rfl aF9;have t1:=ac (λa=>o6 b.drew a) b.drew (o8.refl _) λa h=>b7 ((o6.drew b).trans h);have t2:=aa (λa=>o6 b.drew a) b.drew (o8.refl _) λa h=>b7 ((o6.drew b).trans h);have t3:=Z (λa=>o6 b.drew a) b.drew (o8.refl _) Q;have t4:=bH2 (P:=prog) (t:=114) S as8 (λa=>o6 b.drew a) b.drew (o8.refl _) Q;rw[l]at t2;rcases ef2 (decide (it.s.kind=4))with hk|hk
 .rw[hk,em1]at C;simp only[i5,n9,y4,simprocAttr,l0,lb,ls,O,m,v,D,J];refine B9 (λa=>o6 b.drew a) 17 (A5 [0,1,2,3,4,5,6,7,8,9,10,11,12,13,14,15,16]) ?_;simp only[D0,A5,i5,n9,y4,simprocAttr,t0,t1,t2,t3,t4,hk,H];refine B2 (aS6 aw (D7 (d9 p) i) p i xx y ((j:Int)+1) b.drew (G.mono Y.base) z.toWyOk (by rw[o]at e;exact e) z.live) (λw6 U=>?_);simp only[i5,simprocAttr];refine o7 results139 ?_;simp only[B3,simprocAttr];exact⟨by rw[C],(A.trans (o6.drew b)).trans U⟩
 .rw[hk,Bool.false_and]at C;simp only[i5,n9,y4,simprocAttr,l0,lb,ls,O,m,v,D,J];refine B9 (λa=>o6 b.drew a) 17 (A5 [0,1,2,3,4,5,6,7,8,9,10,11,12,13,14,15,16]) ?_;simp only[D0,A5,i5,n9,simprocAttr,t1,hk];refine o7 results139 ?_;simp only[B3,simprocAttr];exact⟨by rw[C],A.trans (o6.drew b)⟩
end
end Go.Proofs.YtggahhenbbgffaaGreat

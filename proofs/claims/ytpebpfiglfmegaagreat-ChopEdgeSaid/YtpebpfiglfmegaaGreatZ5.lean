/- What the functions of the program do, for every input; plain facts. No condition, no statement of its own. Part 5. -/
import Derived.Laws.IdiomRangeMap
import Derived.Test.YtpebpfiglfmegaaGreatZ4
set_option maxRecDepth 1000000
set_option maxHeartbeats 8000000
set_option linter.unusedVariables false
set_option linter.unusedSimpArgs false
set_option linter.unnecessarySimpa false
set_option linter.defProp false
namespace Go.Proofs.YtpebpfiglfmegaaGreat
open Go Tryz
def bP4(w:World):(Instr.alloc 319 true (.tuple #[])).run prog w = .ok (.pointer (some ⟨w.heap.size,0,none⟩)) (w.alloc (.cells #[.slice none 0 0,.int .i64 0] 319)):=
 (aI8 (P:=prog) (T:=319) bt8 (by rw[ao6];rfl) (cs:=#[.slice none 0 0,.int .i64 0]) (by rw[ao6];rfl) (by simp[Value.oneCell'])).1
def goW(g r k:List W)(i:Nat):W:=g.getD i 0#64 ||| (r.getD i 0#64 &&& ~~~(k.getD i 0#64))
def ah8(g r k:List W)(m i:Nat):List W:=(List.range m).map λj=>if j<i then goW g r k j else 0#64
def cl5(g r k:List W)(m:Nat):ah8 g r k m 0=List.replicate m 0#64:=by
 unfold ah8;apply eq2 dP;intro i a b;simp
def aA8(g r k:List W)(m i:Nat):(ah8 g r k m i).length=m:=by simp[ah8]
def bF9(g r k:List W)(m i j:Nat):(ah8 g r k m i)[j]?=if j<m then some (if j<i then goW g r k j else 0#64)else none:=by
 unfold ah8;rw[em8];by_cases hj:j<m
 .rw[er5 hj,if_pos hj];rfl
 .rw[er3 (by simp;omega),if_neg hj];rfl
def cl4(g r k:List W){m i:Nat}(a:i<m):(ah8 g r k m i).set i (goW g r k i)=ah8 g r k m (i+1):=by
 apply ev9;intro j;rw[List.getElem?_set,bF9,bF9,aA8];by_cases e:i=j
 .subst e;rw[if_pos rfl,if_pos a,if_pos a,if_pos om]
 .rw[if_neg e];by_cases h3:j<i
  .rw[if_pos h3,if_pos (show j<i+1 by omega)]
  .rw[if_neg h3,if_neg (show ¬j<i+1 by omega)]
def cy9(g r k:List W){m:Nat}(c:g.length=m)(d:r.length=m)(e:k.length=m)(f:Nat):U7 (ah8 g r k m m) f=(U7 g f||(U7 r f && !U7 k f)):=by
 unfold U7;by_cases hi:f / 64<m
 .have b:(ah8 g r k m m).getD (f / 64) 0#64=goW g r k (f / 64):=by
   unfold ah8;simp only[List.getD,em8,er5 hi,ep0,eo5];rw[if_pos hi]
  rw[b];unfold goW;rw[BitVec.getLsbD_or,BitVec.getLsbD_and,BitVec.getLsbD_not];have:f % 64<64:=Nat.mod_lt _ dQ;simp[this]
 .have a:∀l:List W,l.length=m->l.getD (f / 64) 0#64=0#64:=λl h=>by
   simp only[List.getD];rw[er3 om];rfl
  rw[a _ (aA8 g r k m m),a g c,a r d];simp
def ST.ge'{w0 w:World}{h g:Nat}{i j k:Value}{us:List Raw}{e:List (List W)}{a:List Bool}{c:List Int}{T:Int}(s:ST w0 w h g i j k us e a c T){f:World}{b:Nat}(hb:i5 f b=none):f.heap.size<=b:=
 ew6 λd=>by simp[i5,d]at hb
def cX2(pg:Value)(nx pv:List (List Int))(vg vk:Value)(gs ks:List (List W))(gl kl:List (List Int))(most:Nat)(w:World)
  (cq:GR (i5 w) pg nx pv) (co:aQ9 nx.length (nx,pv)) (cY:R (i5 w) vg gs) (cZ:R (i5 w) vk ks) (eB:da1 most gl gs) (eC:da1 most kl ks) (bw:gl.length=nx.length) (cx:kl.length=nx.length) (ej:bg9 gl most) (eu:nx.length<=5000) (et:most<=5000) :
  y5 prog 299 #[pg,vg,vk,.int .i64 most] w λu V=>((∃vi bP T,u = .agg #[vi,.int .i64 (T:Nat)]/\R (D0 V (λb=>b<w.heap.size)) vi bP/\bP.length=nx.length/\(∀b,I9 nx.length b=true->∃f:Nat->Bool,E3 bP b=((List.range most).filter f).map (λ(i:Nat)=>(i:Int))/\∀i,f i=true↔aG9 nx gl kl b i)/\nx.length<=T/\T<=nx.length+nx.length*most)/\o6 w V):=by
 refine z6 [pg,vg,vk,.int .i64 most] func299 rfl ?_;have aU:=bP4;simp only[M2,zVB,simprocAttr,aU];have c1:(w.alloc (.cells #[.slice none 0 0,.int .i64 0] 319)).heap[w.heap.size]?=some (.cells #[.slice none 0 0,.int .i64 0] 319 (0,0)):=em9 w _;have x1:=o6.alloc w (.cells #[.slice none 0 0,.int .i64 0] 319);have gC:(w.alloc (.cells #[.slice none 0 0,.int .i64 0] 319)).heap.size=w.heap.size+1:=dP
 generalize w.alloc (.cells #[.slice none 0 0,.int .i64 0] 319)=w1 at *;have c2:(w1.alloc (.cells #[.slice none 0 0,.int .i64 0] 319)).heap[w1.heap.size]?=some (.cells #[.slice none 0 0,.int .i64 0] 319 (0,0)):=em9 w1 _;have x2:=o6.alloc w1 (.cells #[.slice none 0 0,.int .i64 0] 319);have gD:(w1.alloc (.cells #[.slice none 0 0,.int .i64 0] 319)).heap.size=w1.heap.size+1:=dP
 generalize w1.alloc (.cells #[.slice none 0 0,.int .i64 0] 319)=w2 at *;have aR:=x1.trans x2;refine y4 (dt1 pg nx pv w2 (cq.mono (b7 aR))) ?_;rintro u bR ⟨hu,eF⟩;subst eF;subst hu;have hz:A6.enc (i5 w) (Value.slice none 0 0).cells.toList D9:=⟨rfl,rfl⟩;obtain⟨ui,w3,m1,o1,x3,f1,s1⟩:=mk (P:=prog) (w:=bR) (h:=i5 w) dE8 bt9 (α:=Raw) (y:=D9) hz (n:=nx.length) om om (b7 aR);obtain⟨ut,w4,m2,o2,x4,f2,s2⟩:=mk (P:=prog) (w:=w3) (h:=i5 w) W3 aG4 (α:=Int) (y:=0) rfl (n:=nx.length) om om (b7 (aR.trans x3));obtain⟨uw,w5,m3,o3,x5,f3,s3⟩:=mk (P:=prog) (w:=w4) (h:=i5 w) bl6 V4 (α:=Bool) (y:=false) rfl (n:=nx.length) om om (b7 ((aR.trans x3).trans x4));have dA:=(x3.trans x4).trans x5;have l1:w.heap.size<bR.heap.size:=om
 have l2:w1.heap.size<bR.heap.size:=om
 have ee:w5.heap[w.heap.size]?=some (.cells #[.slice none 0 0,.int .i64 0] 319 (0,0)):=(dA.block _ l1 id).trans ((x2.block _ om id).trans c1);have ed:w5.heap[w1.heap.size]?=some (.cells #[.slice none 0 0,.int .i64 0] 319 (0,0)):=(dA.block _ l2 id).trans c2;have dt:ST w w5 w.heap.size w1.heap.size ui uw ut (List.replicate nx.length D9) (List.replicate nx.length []) (List.replicate nx.length false) (List.replicate nx.length 0) 0:=by
  refine⟨am3 ((o1.ext x4).ext x5),o3,(o2.ext x5).toQ,ed,ee,λb p=>?_,λb p=>⟨λh=>?_,?_,?_⟩,λb p=>⟨?_,?_⟩,om,((aR.trans x3).trans x4).trans x5,om,ek6 _⟩
  .have cd:=ai8 p;have k1:=f1 b cd;have k2:=o1.lt cd;exact⟨λh=>by have:=f2 b h;omega,λh=>by have:=f3 b h;omega,om,om⟩
  .have:=o2.lt p;have:=f3 b h;omega
  .have:=f2 b p;omega
  .have:=f2 b p;omega
  .have:=f3 b p;omega
  .have:=f3 b p;omega
 have Si:=o1.isS;have ni:=o1.vlen;rw[eo7]at ni;have G:=co.nx;generalize ey:w.heap.size=rb at *;generalize f5:w1.heap.size=gb at *;have q1:=bZ1 (P:=prog) (t:=3) most om;have q2:D1 prog .add 3 (.int .i64 ((most / 64:Nat):Int)) (.int .i64 1)=some (.int .i64 ((most / 64+1:Nat):Int)):=by
  simp only[D1,I1,ep4];rw[J2 _]
 have fp:most / 64+1<=100:=om
 obtain⟨cQ,cR⟩:=eB;obtain⟨cS,cT⟩:=eC;generalize aW:most / 64+1=m at *;generalize aV:most / 64=m6 at *;simp only[M2,W0,ab0,simprocAttr,m1,m2,m3,Si,ni];refine A9 [0,1,2,3,8,9,10,11,12,13,29,30] (σ:=Nat) (λk f V=>f 31 = .int .i64 k/\k<=nx.length/\∃us d q z,ST w V rb gb ui uw ut us d q z 0/\d.length=nx.length/\q.length=nx.length/\z.length=nx.length/\∀j:Nat,j<k->d[j]?=some (List.replicate m 0#64)/\q[j]?=some true/\z[j]?=some (j:Int)) (λk=>nx.length-k) 0 ?_ ?_
 .exact⟨rfl,ek1 _,_,_,_,_,dt,dP,dP,dP,λj hj=>om⟩
 .rintro k f w6 ⟨e0,e1,e2,e3,e8,e9,dY,bY,bZ,b0,fX,dZ,_⟩ ⟨b4,cv,us,d,q,z,D,li,lw,lt,O⟩;simp only[M2,D1,I1,simprocAttr,b4,dZ];refine A3 (λcD=>?_) ?_
  .have q6:D1 prog .add 3 (.int .i64 k) (.int .i64 1)=some (.int .i64 ((k+1:Nat):Int)):=by
    simp only[D1,I1,ep4];rw[J2 k]
   obtain⟨ur,w7,m4,o4,x7,f4,s4⟩:=mk (P:=prog) (w:=w6) (h:=i5 w) dK4 aO5 (α:=W) (y:=0#64) rfl (n:=m) om om (b7 D.ext);have bO:us.length=nx.length:=by rw[D.rows.len,li]
   have cX:us[k]?=some (us[k]' om):=ej0 _;generalize us[k]' om=u at cX;obtain⟨w8,t1,bQ⟩:=D.put (P:=prog) (t:=355) x7 cX o4 f4 (A4 bt9).choose_spec.1 (by rw[<-F0 (A4 bt9).choose_spec.1];exact cE5);obtain⟨w9,t2,a4⟩:=bQ.qset (P:=prog) (t:=3) (k:=k) om (k:Int) (A4 aG4).choose_spec.1 (by rw[<-F0 (A4 aG4).choose_spec.1];exact bm5);obtain⟨a8,t3,M⟩:=a4.wait (P:=prog) (t:=4) (k:=k) om true (A4 V4).choose_spec.1 (by rw[<-F0 (A4 V4).choose_spec.1];exact aE0);have eJ:=D.q.inS (k:=k) om;have eK:=D.wts.inS (k:=k) om;simp only[M2,zVB,A0,simprocAttr,b4,bY,bZ,b0,e3,q1,q2,m4,D.rows.outer.inS (k:=k) om,eJ,eK,t1,t2,t3,q6];refine V1 (k+1) ⟨_,_,_,_,M,by simp[li],by simp[lw],by simp[lt],λj hj=>?_⟩;by_cases hjk:j=k
   .subst hjk;exact⟨eq8 om,eq8 om,eq8 om⟩
   .rw[es2 (λe=>hjk e.symm),es2 (λe=>hjk e.symm),es2 (λe=>hjk e.symm)];exact O j om
  .rintro rfl;have bf:d=List.replicate nx.length (List.replicate m 0#64):=by
    apply eq2 (by simp[li]);intro j h1 h2;have:=(O j om).1;rw[ej0 h1]at this;simpa using this
   have bm:q=List.replicate nx.length true:=by
    apply eq2 (by simp[lw]);intro j h1 h2;have:=(O j om).2.1;rw[ej0 h1]at this;simpa using this
   have bI:z=(List.range nx.length).map λ(i:Nat)=>(i:Int):=by
    apply eq2 (by simp[lt]);intro j h1 h2;have:=(O j om).2.2;rw[ej0 h1]at this;simpa using this
   have ds:SI nx gl kl most d z q 0:=by
    refine SI.start (by rw[bf,<-aW,<-aV]) (λa=>?_) ?_ lt bm
    .rw[bI,el2,B5];constructor
     .rintro⟨i,hi,rfl⟩;have:=en3.1 hi;omega
     .rintro⟨h1,h2⟩;exact⟨a.toNat,en3.2 om,om⟩
    .rw[bI];refine List.Pairwise.map _ (λa b h=>?_) (List.nodup_range (n:=nx.length));omega
   simp only[M2,simprocAttr];clear O bf bm bI li lw lt dt;have q3:∀T:Nat,T<=100000000->D1 prog .add 3 (.int .i64 (T:Int)) (.int .i64 1)=some (.int .i64 ((T+1:Nat):Int)):=λT hT=>by
    simp only[D1,I1,ep4];rw[J2 T]
   refine E8 [0,1,2,3,8,9,10,11,13] (σ:=List (List W)×List Int) (λs f V=>∃q T,ST w V rb gb ui uw (f 12) us s.1 q s.2 (T:Nat)/\SI nx gl kl most s.1 s.2 q T) (λs=>dD4 nx.length most s.1 s.2) (d,z) ?_ ?_
   .simp only[B8,simprocAttr];simp only[bZ];exact⟨q,0,D,ds⟩
   .clear D ds d q z;rintro⟨d,z⟩ f w7 hk ⟨q,T,D,Q⟩;simp only[em0,B8,simprocAttr]at hk;simp only[e0,e1,e2,e3,e8,e9,dY,bY,b0]at hk;obtain⟨i0,i1,i2,i3,i8,i9,c8,bL,c9,_⟩:=hk;simp only at D Q;generalize c0:f 12=vt at *;have Sq:=D.q.isS;have nq:=D.q.vlen;have ex:=bj9 most d;rw[Q.ilen]at ex;have ga:nx.length*most<=25000000:=ej7 (Nat.mul_le_mul eu et) dQ;have cf:=Q.few;simp only[M2,W0,D1,I1,ab0,simprocAttr,c0,Sq,nq];refine A8 (λhc=>?_) (λhc=>?_)
    .have cK:0<z.length:=by simpa using hc
     obtain⟨a,C,rfl⟩:∃a C,z=a::C:=by
      cases z with
      | nil=>simp at cK
      | cons a C=>exact⟨a,C,rfl⟩
     have am:I9 nx.length a=true:=Q.ok a dP;have cu:=B5.1 am;have d0:decide (0<=a)=true:=by simpa using cu.1
     have eM:=D.q.inS (k:=0) dP;have eZ:=D.q.head (P:=prog) (t:=3) K1;have d1:decide ((1:Int)<=(((a::C).length:Nat):Int))=true:=by simp;omega
     have d2:decide ((((a::C).length:Nat):Int)<=(vcap vt:Int))=true:=by
      have h9:=D.q.vcap;simp only[em1]at h9 ⊢;simp;omega
     have bQ:=D.tail;have es:(a::C).length=C.length+1:=rfl;rw[es]at nq d1 d2;obtain⟨w8,t2,a4⟩:=bQ.wait (P:=prog) (t:=4) (k:=a.toNat) (by rw[Q.wlen];omega) false (A4 V4).choose_spec.1 (by rw[<-F0 (A4 V4).choose_spec.1];exact aE0);have eN:=D.wts.inS (k:=a.toNat) (by rw[Q.wlen];omega);have eX:=F4 (P:=prog) (t:=3) (i:=1) (u:=.int .i64 (T:Int)) a4.cg rfl K1;have cc:T<=100000000:=by simp only[em1]at cf;omega
     have qT:=q3 T cc;obtain⟨w9,t3,M⟩:=a4.times (P:=prog) (t:=3) ((T+1:Nat):Int) (A4 aG4).choose_spec.1 (by rw[<-F0 (A4 aG4).choose_spec.1];exact bm5);obtain⟨ug,a8,m4,o4,dz,f4,s4⟩:=mk (P:=prog) (w:=w9) (h:=i5 w9) dK4 aO5 (α:=W) (y:=0#64) rfl (n:=m) om om (n7 _);have gB:=M.more dz;have Sg:=o4.isS;have ng:=o4.vlen;rw[eo7]at ng;generalize bF:C.length+1=rl at *;generalize c3:reS vt 1 rl 1=an at *;generalize bt:((T+1:Nat):Int)=T1 at *;simp only[M2,zVB,A0,M4,ab0,simprocAttr,c0,Sq,nq,eM,eZ,d1,d2,c3,c9,eN,d0,t2,i9,eX,qT,t3,i3,q1,q2,m4,Sg,ng];have aU:a.toNat<nx.length:=om
     have cp:gl[a.toNat]?=some (E3 gl a):=(ax7 (nx:=gl) (by rw[bw];exact am)).1;have cw:kl[a.toNat]?=some (E3 kl a):=(ax7 (nx:=kl) (by rw[cx];exact am)).1;obtain⟨g,em,ck,en⟩:=cR _ _ cp;obtain⟨kk,eq,ct,er⟩:=cT _ _ cw;rw[aV,aW]at ck ct;obtain⟨xg,bJ,bc⟩:=cY.row em;obtain⟨xk,bK,bd⟩:=cZ.row eq;have av:=as1 Q.ilen am;have cM:(wAt d a).length=m:=by rw[<-aW,<-aV];exact Q.rlen _ (el0 av)
     have bO:us.length=nx.length:=by rw[D.rows.len,Q.ilen]
     have ae:us[a.toNat]?=some (us[a.toNat]' om):=ej0 _;generalize us[a.toNat]' om=ua at ae;have da:=cY.inS (k:=a.toNat) (by rw[cQ,bw];exact aU);have a1:=cZ.inS (k:=a.toNat) (by rw[cS,cx];exact aU);have dd:=D.rows.outer.inS (k:=a.toNat) om;have bx:=cy9 g (wAt d a) kk ck cM ct;refine E8 [0,1,2,3,8,9,10,11,12,13,15,16,68,69] (σ:=Nat) (λi f V=>f 70 = .int .i64 i/\i<=m/\B0 (i5 w9) V 240 ug (ah8 g (wAt d a) kk m i)/\o6 w9 V) (λi=>m-i) 0 ?_ ?_
     .simp only[B8,simprocAttr];exact⟨by first|rfl|trivial,ek1 _,by rw[cl5];exact o4,dz⟩
     .rintro i f Z hk ⟨br,f7,aX,U⟩;simp only[em0,B8,simprocAttr]at hk;simp only[i0,i1,i2,i3,i8,i9,c8,bL,c9]at hk;obtain⟨j0,j1,j2,j3,j8,j9,de,a2,eQ,eR,aL,dg,gg,eU,_⟩:=hk;simp only[M2,D1,I1,simprocAttr,br,eU];refine A3 (λbA=>?_) ?_
      .have q6:D1 prog .add 3 (.int .i64 i) (.int .i64 1)=some (.int .i64 ((i+1:Nat):Int)):=by
        simp only[D1,I1,ep4];rw[J2 i]
       have hd:=o6.drew Z;have F:=(M.more U).more hd;have cy:=J7 (P:=prog) (t:=355) bc (b7 F.ext) bt4;have cz:=J7 (P:=prog) (t:=355) bd (b7 F.ext) bt4;have cA:=aN6 (P:=prog) (t:=355) F.rows ae bt4;have ac:=F.rows.row _ _ _ ae av;have v1:=O4 (P:=prog) (t:=240) bJ (b7 F.ext) (bu3 (show i<g.length by omega)) av5;have v2:=O4 (P:=prog) (t:=240) bK (b7 F.ext) (bu3 (show i<kk.length by omega)) av5;have v3:=E1 (P:=prog) (t:=240) ac (bu3 (show i<(wAt d a).length by omega)) av5;have y1:=bJ.inS (k:=i) om;have y2:=bK.inS (k:=i) om;have y3:=ac.inS (k:=i) om;have ep:goW g (wAt d a) kk i=g.getD i 0#64 ||| ((wAt d a).getD i 0#64 &&& ~~~(kk.getD i 0#64)):=rfl;have cU:=cl4 g (wAt d a) kk bA;rw[ep]at cU;simp only[O8.val]at v1 v2 v3;generalize g.getD i 0#64=gi at *;generalize(wAt d a).getD i 0#64=ri at *;generalize kk.getD i 0#64=ki at *;have b1:=bQ1 (P:=prog) (t:=240) ri ki;have b2:=dc8 (P:=prog) (t:=240) gi (ri &&& ~~~ki);have dc:=aX.inS (k:=i) (by rw[aA8];exact bA);obtain⟨S,t4,o5,m5,_⟩:=F9 (P:=prog) (t:=240) (aX.ext hd) rfl (k:=i) (by rw[aA8];exact bA) (x:=.int .u64 (((gi ||| (ri &&& ~~~ki)).toNat:Nat):Int)) (y:=(gi ||| (ri &&& ~~~ki))) rfl rfl (A4 aO5).choose_spec.1 (by rw[<-F0 (A4 aO5).choose_spec.1];exact cf1);rw[cU]at o5;simp only[M2,simprocAttr,br];refine C0 (λw3=>w3=Z.drew) 25 (A7 [0,1,2,3,4,5,6,7,8,9,10,11,12,13,14,15,16,17,18,19,20,21,22,23,24]) ?_;simp only[D7,A7,M2,zVB,A0,simprocAttr,dg,j1,aL,d0,da];refine⟨xg,λw3 e=>by subst e;exact cy,?_⟩;simp only[D7,M2,zVB,A0,simprocAttr,y1];refine⟨.int .u64 (gi.toNat:Nat),λw3 e=>by subst e;exact v1,?_⟩;simp only[D7,M2,zVB,A0,simprocAttr,a2,aL,d0,dd];refine⟨ua.v,λw3 e=>by subst e;exact cA,?_⟩;simp only[D7,M2,zVB,A0,simprocAttr,y3];refine⟨.int .u64 (ri.toNat:Nat),λw3 e=>by subst e;exact v3,?_⟩;simp only[D7,M2,zVB,A0,simprocAttr,j2,aL,d0,a1];refine⟨xk,λw3 e=>by subst e;exact cz,?_⟩;simp only[D7,M2,zVB,A0,simprocAttr,y2];refine⟨.int .u64 (ki.toNat:Nat),λw3 e=>by subst e;exact v2,?_⟩;simp only[D7,M2,zVB,A0,simprocAttr,b1,b2,dc,t4,br,q6];exact V1 (i+1) ⟨o5,(aX.ext hd).ext2 (U.trans hd) m5⟩
      .rintro rfl;clear ae da a1 dd bJ bK bc bd;have cl:∀f,U7 (ah8 g (wAt d a) kk i i) f=true↔cg7 gl kl d a f:=by
        intro f;rw[bx f,eu2,el3,Bool.not_eq_true',en f];have h8:=er f;unfold cg7 at0;constructor
        .rintro(h|⟨h9,aT⟩)
         .exact .inl h
         .exact .inr ⟨h9,λd5=>by rw[h8.2 d5]at aT;cases aT⟩
        .rintro(h|⟨h9,aT⟩)
         .exact .inl h
         .refine .inr ⟨h9,?_⟩;cases e:U7 kk f
          .rfl
          .exact absurd (h8.1 e) aT
       have aq:∀f,U7 (ah8 g (wAt d a) kk i i) f=true->f<most/\∀b∈E3 nx a,aG9 nx gl kl b f:=by
        intro f hf;rcases(cl f).1 hf with h|⟨h1,h2⟩
        .refine⟨?_,λb p=>.gen p h⟩;have:=ej _ (aC3 (nx:=gl) (by rw[bw];exact am)) _ h;omega
        .exact⟨Q.low a f am h1,λb p=>.step p (Q.sound a f am h1) h2⟩
       have H:(ah8 g (wAt d a) kk i i).length=most / 64+1:=by rw[aA8,aV,aW]
       have fb:=Q.pop cl;have F:=M.more U;have cH:=aX.down (b7 M.ext);have bz:=cq.mono (b7 F.ext);have el:∀b,A5 ug b->w9.heap.size<=b:=λb p=>f4 b p;generalize ah8 g (wAt d a) kk i i=gw at *;simp only[M2,simprocAttr,j0,aL];refine y4 (cZ8 pg nx pv a Z bz (by rw[co.pv.len]) (λx hx=>ej7 (G.row_len hx) om)) ?_;rintro un S ⟨aY,bn⟩;have bp:=F.more bn;have aG:=cH.ext bn;have bi:=aY.down (b7 F.ext);have ek:∀b,A5 un b->Z.heap.size<=b:=λb p=>bp.ge' (aY.free p);have cP:(E3 nx a).length<=nx.length:=G.rowlen a;simp only[M2,W0,ab0,simprocAttr,aY.isS,aY.vlen];refine E8 [0,1,2,3,8,9,10,11,13,15,16,102,103] (σ:=Nat) (λk f V=>f 104 = .int .i64 k/\k<=(E3 nx a).length/\∃E J A,ST w V rb gb ui uw (f 12) us E A J T1/\SJ nx gl kl most a gw k E J A (T+1)/\J.length+aU3 most d<=C.length+aU3 most E/\p6 (λb=>N9 ui us b\/A5 uw b\/A5 an b\/S.heap.size<=b) S V/\∀b,A5 (f 12) b->A5 an b\/S.heap.size<=b) (λk=>(E3 nx a).length-k) 0 ?_ ?_
       .simp only[B8,simprocAttr];simp only[eQ];exact⟨tt,ek1 _,d,C,_,bp,fb,ek6 _,p6.refl _,λb p=>.inl p⟩
       .rintro k f a9 hk ⟨ab,cv,E,J,A,af,sj,fq,aF,ar⟩;simp only[em0,B8,simprocAttr]at hk;simp only[j0,j1,j2,j3,j8,j9,de,a2,eR,aL,dg]at hk;obtain⟨k0,k1,k2,k3,k8,k9,gj,eV,dk,gk,eW,di,dj,_⟩:=hk;generalize I:f 12=fL at *;simp only[M2,D1,I1,simprocAttr,ab,dj];refine A3 (λX=>?_) ?_
        .have b8:∀b,A5 ug b->¬(N9 ui us b\/A5 uw b\/A5 an b\/S.heap.size<=b):=λb p N=>by
          have h1:=el b p;rcases N with N|N|N|N
          .have:=M.rows.lt N;omega
          .have:=M.wts.lt N;omega
          .have:=M.q.lt N;omega
          .have:=aG.lt p;omega
         have d7:∀b,A5 un b->¬(N9 ui us b\/A5 uw b\/A5 an b\/S.heap.size<=b):=λb p N=>by
          have h1:=ek b p;have h2:=U.size;rcases N with N|N|N|N
          .have:=M.rows.lt N;omega
          .have:=M.wts.lt N;omega
          .have:=M.q.lt N;omega
          .have:=bi.lt p;omega
         have bC:=aG.mod aF b8;have cO:=(bi.mod aF d7).rw_ (b7 af.ext);have ik:=cO.inS X;have bM:=O4 (P:=prog) (t:=3) cO (n7 _) (ej0 X) K1;simp only[O8.val]at bM;have ap:(E3 nx a)[k]?=some (E3 nx a)[k]:=ej0 X;have K:=(G.row a).2 _ (ek0 X);generalize(E3 nx a)[k]=b at bM ap K;have bv:=B5.1 K;have db:decide (0<=b)=true:=by simpa using bv.1
         have ce:b.toNat<nx.length:=om
         have aw:us[b.toNat]?=some (us[b.toNat]' om):=ej0 _;generalize us[b.toNat]' om=ub at aw;have eL:=af.rows.outer.inS (k:=b.toNat) om;have eY:=aN6 (P:=prog) (t:=355) af.rows aw bt4;have bk:=as1 sj.ilen K;have ac:=af.rows.row _ _ _ aw bk;have aI:(wAt E b).length=gw.length:=by rw[H];exact sj.rlen _ (el0 bk)
         have bg:E2 (i5 w) (at1 a9 ub.v):=λx o e=>by
          have hn:¬A5 ub.v x:=λbu=>by rw[ac.free bu]at e;cases e
          rw[ag2 hn];exact b7 af.ext x o e
         have bG:=ac.rebase (b7 af.ext);have eh:∀x,A5 ug x->¬A5 ub.v x:=λx hx eG=>b8 x hx (.inl (.inr ⟨ub,el0 aw,eG⟩));have d8:=bC.beside (v:=ub.v) bg eh;have q6:D1 prog .add 3 (.int .i64 k) (.int .i64 1)=some (.int .i64 ((k+1:Nat):Int)):=by
          simp only[D1,I1,ep4];rw[J2 k]
         simp only[M2,W0,A0,simprocAttr,ab,di,eV,eW,ik,bM,db,eL,eY];refine y4 (dh4 (at1 a9 ub.v) ub.v ug (wAt E b) gw a9 bG (bh9 a9 ub.v) d8 aI (by rw[aI,H];omega)) ?_;rintro rj fg ⟨ez,cG,bh⟩;have ag:=af.row aw bh (cG.down bg);have ao:p6 (λb=>N9 ui us b\/A5 uw b\/A5 an b\/S.heap.size<=b) S fg:=aF.trans (bh.weaken λx _ hx=>.inl (.inr ⟨ub,el0 aw,hx⟩));obtain⟨gc,ew⟩:=sj.pot H aq K;have bo:=ag.wts.inS (k:=b.toNat) (by rw[sj.wlen];exact ce);have c5:=N1 (l:=A) (b:=b) (by rw[sj.wlen];exact K);have c4:A[b.toNat]?=some (z7 A b):=by
          rw[c5.2];simp[List.getD,c5.1]
         have bN:=E1 (P:=prog) (t:=4) ag.wts c4 ai9;simp only[O8.val]at bN;generalize cE:ap4 (wAt E b) gw=mo at *;generalize bl:z7 A b=wb at *;subst ez;cases mo
         .have aO:=sj.old G H aq ap K (.inl cE);simp only[M2,simprocAttr,ab,q6];exact V1 (k+1) ⟨_,_,_,by simpa only[I]using ag,aO,om,ao,by simpa only[I]using ar⟩
         .cases wb
          .have aO:=sj.new G H aq ap K cE bl;obtain⟨gJ,t5,du,dm⟩:=ag.wait2 (P:=prog) (t:=4) (k:=b.toNat) (by rw[sj.wlen];exact ce) true (A4 V4).choose_spec.1 (by rw[<-F0 (A4 V4).choose_spec.1];exact aE0);have gd:J.length+1<=100000000:=by
            have:=sj.few;have h8:=bj9 most E;rw[sj.ilen]at h8;omega
           obtain⟨p1,v',fh,p2,dv,e5,dn⟩:=du.push2 (P:=prog) (t:=45) (e:=45) W3 b om om;have b6:p6 (λb=>N9 ui us b\/A5 uw b\/A5 an b\/S.heap.size<=b) S fh:=(ao.trans (dm.weaken λx _ hx=>.inr (.inl hx))).trans (e5.weaken λx _ hx=>by
            rcases ar x hx with h|h
            .exact .inr (.inr (.inl h))
            .exact .inr (.inr (.inr h)))
           have eE:=(ao.trans (dm.weaken λx _ hx=>.inr (.inl hx))).size;have cL:∀x,A5 v' x->A5 an x\/S.heap.size<=x:=λx hx=>by
            rcases dn x hx with h|h
            .exact ar x h
            .exact .inr om
           simp only[M2,zVB,unV,A0,simprocAttr,ab,dk,db,bo,bN,q6,t5,I,p1,p2];exact V1 (k+1) ⟨_,_,_,dv,aO,by simp only[ej2,em1,ep7];have:=ew rfl;omega,b6,cL⟩
          .have aO:=sj.old G H aq ap K (.inr bl);simp only[M2,zVB,unV,A0,simprocAttr,ab,dk,db,bo,bN,q6];exact V1 (k+1) ⟨_,_,_,by simpa only[I]using ag,aO,om,ao,by simpa only[I]using ar⟩
        .rintro rfl;have dr:=sj.fin rfl;simp only[M2,simprocAttr];have cJ:=bj9 most E;rw[dr.ilen]at cJ;exact⟨(E,J),by simp only[dD4,em1];omega,A,T+1,by rw[bt];simpa only[I]using af,dr⟩
    .have cF:z=[]:=by
      cases z with
      | nil=>rfl
      | cons x C=>simp at hc
     subst cF;obtain⟨ci,bt,eb⟩:=Q.fin G;have bO:us.length=nx.length:=by rw[D.rows.len,Q.ilen]
     have ni:vlen ui=nx.length:=by rw[D.rows.outer.vlen,bO]
     have cm:rb<w7.heap.size:=D.lr;have cn:gb<w7.heap.size:=D.lg;have ea:∀b,N9 ui us b->b<w7.heap.size:=λb p=>D.rows.lt p;have a0:=D.rows;have ef:∀b,N9 ui us b->b≠gb/\b≠rb:=λb p=>(D.d1 b p).2.2;have eg:=D.d4;have ch:=D.fg;have cj:=D.frb;simp only[M2,W0,ab0,simprocAttr,bL,D.rows.outer.isS,ni];refine E8 [0,1,2,3,8,9,10,11,129,130] (σ:=Nat) (λk f V=>f 131 = .int .i64 k/\k<=nx.length/\(∃B,V.heap[gb]?=some (.cells #[B,.int .i64 (T:Nat)] 319 (0,0))/\B0 (D0 V (λb=>A5 B b\/b<w7.heap.size)) V 45 B ((d.take k).map λr=>ai6 r most)/\∀b,A5 B b->w7.heap.size<=b) /\
      V.heap[rb]?=some (.cells #[.slice none 0 0,.int .i64 0] 319 (0,0))/\F1 (i5 w) V 355 240 ui us d/\o6 w V/\w7.heap.size<=V.heap.size) (λk=>nx.length-k) 0 ?_ ?_
     .simp only[B8,simprocAttr];exact⟨tt,ek1 _,⟨_,D.cg,B0.nil _ _ _,λb p=>absurd p D8⟩,D.cr,a0,D.ext,ek6 _⟩
     .rintro k f w8 hk ⟨aD,cv,⟨B,cg,aZ,ak⟩,cr,aJ,hx,eD⟩;simp only[em0,B8,simprocAttr]at hk;simp only[i0,i1,i2,i3,i8,i9,c8,bL]at hk;obtain⟨j0,j1,j2,j3,j8,j9,de,a2,fv,df,_⟩:=hk;simp only[M2,D1,I1,simprocAttr,aD,df];refine A3 (λX=>?_) ?_
      .have q6:D1 prog .add 3 (.int .i64 k) (.int .i64 1)=some (.int .i64 ((k+1:Nat):Int)):=by
        simp only[D1,I1,ep4];rw[J2 k]
       have ae:us[k]?=some (us[k]' om):=ej0 _;generalize us[k]' om=ua at ae;have av:d[k]?=some (d[k]'(by rw[Q.ilen];exact X)):=ej0 _;have cW:(d.take (k+1)).map (λr=>ai6 r most)=(d.take k).map (λr=>ai6 r most)++[ai6 (d[k]'(by rw[Q.ilen];exact X)) most]:=by
        rw[ej8 (by rw[Q.ilen];exact X),em6];rfl
       have bF:=Q.rlen _ (el0 av);generalize d[k]'(by rw[Q.ilen];exact X)=r at av cW bF;have hd:=o6.drew w8;have bq:=(hd.block gb (ej4.1 cg).1 id).trans cg;have bX:=(hd.block rb (ej4.1 cr).1 id).trans cr;have Y:=aJ.ext hd;have c7:=hx.trans hd;have a1:=aJ.outer.inS (k:=k) om;have b3:=(ej4.1 bq).1;have fa:=(ej4.1 bX).1;have bs:=(Y.row _ _ _ ae av).rw_ (b7 c7);have bj:=aZ.noMod hd (λb h=>h.elim) (λb _ h=>h) (N':=λb=>A5 B b\/b<w7.heap.size) (λb h=>.inl h) (λb h=>.inl h);generalize c6:w8.drew=wd at *;have cV:w7.heap.size<=wd.heap.size:=ej7 eD hd.size;simp only[M2,simprocAttr,aD];refine C0 (λw2=>o6 wd w2) 9 (A7 [0,1,2,3,4,5,6,7,8]) ?_ (hS:=by rw[c6];exact p6.refl _);rw[c6];simp only[D7,A7,M2,W0,simprocAttr,j9];refine⟨B,λw2 e=>F4 (i:=0) ((e.block gb b3 id).trans bq) rfl ab6,?_⟩;simp only[D7,M2,W0,A0,simprocAttr,a2,a1];refine⟨ua.v,λw2 e=>aN6 (Y.ext e) ae bt4,?_⟩;simp only[D7,M2,simprocAttr,j3];refine y4 (di4 ua.v r most wd bs om (λf hf=>by rw[bF];have:=Nat.div_le_div_right (c:=64) (Nat.le_of_lt hf);omega)) ?_;rintro ul w9 ⟨bD,L⟩;have Sl:=bD.isS;have d6:∀b,A5 ul b->¬(A5 B b\/b<w7.heap.size):=λb p N=>by
        have h1:wd.heap.size<=b:=by
         have:=bD.free p;exact ew6 λcD=>by simp[i5,cD]at this
        rcases N with N|N
        .have:=bj.lt N;omega
        .omega
       have aH:=bj.noMod L (λb h=>h.elim) (λb _ h=>h) (N':=λb=>A5 B b\/b<w7.heap.size) (λb h=>.inl h) (λb h=>.inl h);have cb:=(bD.down (h:=D0 wd (λb=>A5 B b\/b<w7.heap.size)) (B4 _ _)).roNo (K8 L (λb h=>h.elim) (N':=λb=>A5 B b\/b<w7.heap.size) λb h=>.inl h) d6;obtain⟨p1,v',a8,p2,p3,p4,p5⟩:=push (P:=prog) (t:=261) (e:=261) cC5 rfl aH (x:=ul) (y:=ai6 r most) (by rw[F7 Sl];exact cb) (by simp;omega) (by simp;omega) (B4 _ _);rw[F7 Sl]at p1 p2;have eo:¬A5 B gb:=λh=>by have:=ak gb h;omega
       have eA:¬A5 B rb:=λh=>by have:=ak rb h;omega
       have bV:=(L.block gb b3 id).trans bq;have aS:=(L.block rb fa id).trans bX;have bT:=(p4.block gb (ej4.1 bV).1 eo).trans bV;have bb:=(p4.block rb (ej4.1 aS).1 eA).trans aS;have Sv:=p3.isS;obtain⟨Z,t6,bU,aN⟩:=ad7 (P:=prog) (t:=261) (i:=0) (x:=v') bT dP (F7 Sv) (W8 Sv) (A4 dq1).choose_spec.1 (by rw[<-F0 (A4 dq1).choose_spec.1];exact dM3);have bW:=(aN.block rb (ej4.1 bb).1 (λh=>eg h.symm)).trans bb;have be:∀b,A5 v' b->w7.heap.size<=b:=λb p=>by
        rcases p5 b p with h|h
        .exact ak b h
        .have:=L.size;omega
       have bE:B0 (D0 Z (λb=>A5 v' b\/b<w7.heap.size)) Z 45 v' ((d.take k).map (λr=>ai6 r most)++[ai6 r most]):=by
        have h1:B0 (D0 a8 (λb=>A5 v' b\/b<w7.heap.size)) a8 45 v' ((d.take k).map (λr=>ai6 r most)++[ai6 r most]):=
         p3.reNo (K8 p4 (λb h=>.inl h) λb h=>by
          rcases h with h|h
          .rcases p5 b h with h|h
           .exact .inl (.inl h)
           .exact .inr h
          .exact .inl (.inr h)) λb h=>.inl h
        exact h1.noMod aN (λb h=>.inr (by subst h;exact cn)) (λb p h=>by subst h;have:=be b p;omega) (λb h=>.inl h) (λb h=>.inl h)
       have aK:=((Y.ext L).mod p4 (λb p bu=>by have:=ea b p;have:=ak b bu;omega)).mod aN (λb p h=>(ef b p).1 h);have U:o6 w Z:=p6.ext_of (p6.ext_of (c7.trans L) p4 λb p=>by have:=ak b p;have:=D.ext.size;omega) aN λb p=>by subst p;exact ch
       have bH:w7.heap.size<=Z.heap.size:=ej7 cV (ej7 L.size (ej7 p4.size aN.size));simp only[D7,M2,simprocAttr,G0,p1];refine⟨L,L.trans (o6.alloc w9 _),?_⟩;simp only[M2,zVB,simprocAttr,p2,j9,t6,aD,q6];refine V1 (k+1) ⟨⟨v',?_,?_,be⟩,bW,aK,U,bH⟩
       .simpa using bU
       .rw[cW];exact bE
      .rintro rfl;rw[en6 (by rw[Q.ilen];exact ek6 _)]at aZ;have cB:=af6 (P:=prog) cg ce8 cf2 ce9 (by rw[ao6];rfl);have Sv:=aZ.isS;have cI:∀u∈(#[B,Value.int .i64 (T:Nat)]:Array Value).toList,u.oneCell'=true:=by
        intro u hu;simp at hu;rcases hu with rfl|rfl
        .exact W8 Sv
        .rfl
       obtain⟨w9,t7,aS,m9⟩:=aj3 (P:=prog) cr bt8 (by rw[ao6];rfl) (cs:=#[B,.int .i64 (T:Nat)]) (by rw[ao6];rfl) cI;have aH:=aZ.noMod m9 (λb h=>.inr (by subst h;exact cm)) (λb p h=>by subst h;have:=ak b p;omega) (N':=λb=>A5 B b\/b<w7.heap.size) (λb h=>.inl h) (λb h=>.inl h);have ca:R (D0 w9 (λb=>b<w.heap.size)) B (d.map λr=>ai6 r most):=aH.ro (λb o e=>by
        by_cases h:b<w7.heap.size
        .rw[G1 (.inr h)]at e;cases e
        .by_cases h2:A5 B b
         .rw[G1 (.inl h2)]at e;cases e
         .rw[E4 (λN=>N.elim h2 h)]at e;rw[E4 (by have:=D.ext.size;omega)];exact e) λb p=>E4 (by have:=ak b p;have:=D.ext.size;omega)
       have bB:=af6 (P:=prog) aS ce8 cf2 ce9 (by rw[ao6];rfl);have L:o6 w w9:=p6.ext_of hx m9 λb p=>by subst p;exact cj
       simp only[M2,simprocAttr,j8,j9,cB,t7];refine O5 results299 (ad:=⟨rb,0,none⟩) (by simp only[B8,↓reduceIte,Nat.reduceEqDiff];exact j8) bB ?_;simp only[ey]at ca;refine⟨⟨B,d.map λr=>ai6 r most,T,rfl,ca,by rw[ek2,Q.ilen],λb p=>⟨U7 (wAt d b),?_,λi=>ci b i p⟩,bt,eb⟩,L⟩;have h1:=as1 Q.ilen p;have cC:(d.map λr=>ai6 r most).length=nx.length:=by rw[ek2,Q.ilen]
       have h2:=(ax7 (nx:=d.map λr=>ai6 r most) (a:=b) (by rw[cC];exact p)).1;rw[em8,h1]at h2;exact(el4 h2).symm
structure cZ9 (n:Int) (steps:List (Int×Int)) (gl kl:List (List Int)) (most:Int):Prop where
 n0:0<=n
 n5:n<=5000
 m0:0<=most
 m5:most<=5000
 gn:(gl.length:Int)=n
 kn:(kl.length:Int)=n
 st:∀s∈steps,bu1 n.toNat s
 gf:bg9 gl most.toNat
 kf:bg9 kl most.toNat
structure dP3 (nx gl kl:List (List Int)) (most:Nat) (sol:List (List Int)) (T:Nat):Prop where
 len:sol.length=nx.length
 row:∀b,I9 nx.length b=true->∃f:Nat->Bool,E3 sol b=((List.range most).filter f).map (λ(i:Nat)=>(i:Int))/\∀i,f i=true↔aG9 nx gl kl b i
 lo:nx.length<=T
 hi:T<=nx.length+nx.length*most
def aG3{P:Program}{b:Func}{R:Value->World->Prop}{f:Fr}{w:World}{v:Value}{a t:Nat}{ty:TypeId}{ad:Addr}(h:b.results=#[.cell a ty,.tmp t])(d:f a = .pointer (some ad))(e:(Instr.loadAt ty (.pointer (some ad))).run P w = .ok v w)(c:R (.tuple #[v,f t]) w):bz6 P b R .ret f w:=by
 refine⟨[v,f t],?_,c⟩;rw[h];refine⟨?_,rfl,trivial⟩;show(do loadVar ty (<-asAddr (f a)):Sem Value).run P w = .ok v w;rw[d];exact e
def cP5:C1 prog 319 []=some (.agg #[.slice none 0 0,.int .i64 0]):=by
 have h:I4 prog 319=some (.agg #[.slice none 0 0,.int .i64 0]):=bt8
 first
 | (simp[C1,dL8,K7,Instr.fill];done)
 | rfl
def dk1(n most:Int)(a d:Nat):
  (decide (n<0)=true/\n<0)\/(decide (n<0)=false/\decide (n>5000)=true/\n>5000) \/
  (decide (n<0)=false/\decide (n>5000)=false/\decide (most<0)=true/\most<0)\/(decide (n<0)=false/\decide (n>5000)=false/\decide (most<0)=false/\decide (most>5000)=true/\most>5000) \/
  (decide (n<0)=false/\decide (n>5000)=false/\decide (most<0)=false/\decide (most>5000)=false/\((a:Int) != n)=true/\(a:Int)≠n) \/
  (decide (n<0)=false/\decide (n>5000)=false/\decide (most<0)=false/\decide (most>5000)=false/\((a:Int) != n)=false/\((d:Int) != n)=true/\(d:Int)≠n) \/
  (decide (n<0)=false/\decide (n>5000)=false/\decide (most<0)=false/\decide (most>5000)=false/\((a:Int) != n)=false/\((d:Int) != n)=false/\0<=n/\n<=5000/\0<=most/\most<=5000/\(a:Int)=n/\(d:Int)=n):=by
 by_cases h1:n<0
 .exact .inl ⟨by simpa using h1,h1⟩
 .have b:decide (n<0)=false:=by simpa using h1
  by_cases h2:n>5000
  .exact .inr (.inl ⟨b,by simpa using h2,h2⟩)
  .have c:decide (n>5000)=false:=by simpa using h2
   by_cases h3:most<0
   .exact .inr (.inr (.inl ⟨b,c,by simpa using h3,h3⟩))
   .have e:decide (most<0)=false:=by simpa using h3
    by_cases h4:most>5000
    .exact .inr (.inr (.inr (.inl ⟨b,c,e,by simpa using h4,h4⟩)))
    .have f:decide (most>5000)=false:=by simpa using h4
     by_cases h5:(a:Int)=n
     .have g:((a:Int) != n)=false:=by simpa using h5
      by_cases h6:(d:Int)=n
      .exact .inr (.inr (.inr (.inr (.inr (.inr ⟨b,c,e,f,g,by simpa using h6,om,om,om,om,h5,h6⟩)))))
      .exact .inr (.inr (.inr (.inr (.inr (.inl ⟨b,c,e,f,g,by simpa using h6,h6⟩)))))
     .exact .inr (.inr (.inr (.inr (.inl ⟨b,c,e,f,by simpa using h5,h5⟩))))
def dJ9(n most:Int)(v vg vk:Value)(a:List (Int×Int))(D H:List (List Int))(w:World)(hv:R (i5 w) v a)(am:R (i5 w) vg D)(an:R (i5 w) vk H)(bO:a.length<=1000000)
  (a8:∀x∈D,x.length<=1000000000) (be:∀x∈H,x.length<=1000000000) :
  y5 prog 275 #[.int .i64 n,v,vg,vk,.int .i64 most] w λu w'=>((∃vs ok,u = .tuple #[vs,.bool ok] /\
   (ok=true->cZ9 n a D H most/\∃vi X T,vs = .agg #[vi,.int .i64 (T:Nat)]/\R (D0 w' (λb=>b<w.heap.size)) vi X/\dP3 (at6 n.toNat a).1 D H most.toNat X T) /\
   (ok=false->¬cZ9 n a D H most/\vs = .agg #[.slice none 0 0,.int .i64 0]))/\o6 w w'):=by
 refine z6 [.int .i64 n,v,vg,vk,.int .i64 most] func275 rfl ?_;have a4:=bP4;have d:=cP5;have ak:=am.isS;have al:=am.vlen;have aA:=an.isS;have aH:=an.vlen;have hS:=hv.isS;have bs:=hv.vlen;have c1:(w.alloc (.cells #[.slice none 0 0,.int .i64 0] 319)).heap[w.heap.size]?=some (.cells #[.slice none 0 0,.int .i64 0] 319 (0,0)):=em9 w _;have x1:=o6.alloc w (.cells #[.slice none 0 0,.int .i64 0] 319);generalize bt:w.alloc (.cells #[.slice none 0 0,.int .i64 0] 319)=w1 at *;have c:=a4 w;rw[bt]at c;generalize bN:w.heap.size=j at c1 c;have S:j<w1.heap.size:=(ej4.1 c1).1;have m:∀A,o6 w A->A.heap[j]?=some (.cells #[.slice none 0 0,.int .i64 0] 319 (0,0))->∃z,(Instr.storeAt 319 (.pointer (some ⟨j,0,none⟩)) (.agg #[.slice none 0 0,.int .i64 0])).run prog A = .ok () z/\o6 w z /\
   (Instr.loadAt 319 (.pointer (some ⟨j,0,none⟩))).run prog z = .ok (.agg #[.slice none 0 0,.int .i64 0]) z:=by
  intro A W a5;obtain⟨z,t1,t2,t3⟩:=aj3 (P:=prog) a5 bt8 (by rw[ao6];rfl) (cs:=#[.slice none 0 0,.int .i64 0]) (by rw[ao6];rfl) (by simp[Value.oneCell']);exact⟨z,t1,p6.ext_of W t3 λb i=>by subst i;omega,af6 (P:=prog) t2 ce8 cf2 ce9 (by rw[ao6];rfl)⟩
 obtain⟨z,K,L,O⟩:=m w1 x1 c1;rcases dk1 n most D.length H.length with⟨q,i⟩|⟨q,B,i⟩|⟨q,B,J,i⟩|⟨q,B,J,d4,i⟩|⟨q,B,J,d4,d5,i⟩|⟨q,B,J,d4,d5,d6,i⟩|⟨q,B,J,d4,d5,d6,bi,bj,bg,bh,a9,bf⟩
 .simp only[M2,W0,D1,I1,simprocAttr,c,q,d,K];exact aG3 results275 (ad:=⟨j,0,none⟩) (by simp only[B8,↓reduceIte,Nat.reduceEqDiff]) O ⟨⟨_,false,rfl,(λh=>(by cases h)),λ_=>⟨λh=>by have:=h.n0;omega,rfl⟩⟩,L⟩
 .simp only[M2,W0,D1,I1,simprocAttr,c,q,B,d,K];exact aG3 results275 (ad:=⟨j,0,none⟩) (by simp only[B8,↓reduceIte,Nat.reduceEqDiff]) O ⟨⟨_,false,rfl,(λh=>(by cases h)),λ_=>⟨λh=>by have:=h.n5;omega,rfl⟩⟩,L⟩
 .simp only[M2,W0,D1,I1,simprocAttr,c,q,B,J,d,K];exact aG3 results275 (ad:=⟨j,0,none⟩) (by simp only[B8,↓reduceIte,Nat.reduceEqDiff]) O ⟨⟨_,false,rfl,(λh=>(by cases h)),λ_=>⟨λh=>by have:=h.m0;omega,rfl⟩⟩,L⟩
 .simp only[M2,W0,D1,I1,simprocAttr,c,q,B,J,d4,d,K];exact aG3 results275 (ad:=⟨j,0,none⟩) (by simp only[B8,↓reduceIte,Nat.reduceEqDiff]) O ⟨⟨_,false,rfl,(λh=>(by cases h)),λ_=>⟨λh=>by have:=h.m5;omega,rfl⟩⟩,L⟩
 .simp only[M2,W0,D1,I1,ab0,simprocAttr,c,ak,al,q,B,J,d4,d5,d,K];exact aG3 results275 (ad:=⟨j,0,none⟩) (by simp only[B8,↓reduceIte,Nat.reduceEqDiff]) O ⟨⟨_,false,rfl,(λh=>(by cases h)),λ_=>⟨λh=>i h.gn,rfl⟩⟩,L⟩
 .simp only[M2,W0,D1,I1,ab0,simprocAttr,c,ak,al,aA,aH,q,B,J,d4,d5,d6,d,K];exact aG3 results275 (ad:=⟨j,0,none⟩) (by simp only[B8,↓reduceIte,Nat.reduceEqDiff]) O ⟨⟨_,false,rfl,(λh=>(by cases h)),λ_=>⟨λh=>i h.kn,rfl⟩⟩,L⟩
 .clear K L O z;simp only[M2,W0,D1,I1,ab0,simprocAttr,c,ak,al,aA,aH,q,B,J,d4,d5,d6,hS,bs];obtain⟨N,hN⟩:∃N:Nat,n=N:=⟨n.toNat,om⟩;obtain⟨M,hM⟩:∃M:Nat,most=M:=⟨most.toNat,om⟩;have aj:n.toNat=N:=om
  have E:most.toNat=M:=om
  have Z:∀e:Int×Int,bN1 n e=false↔bu1 N e:=λe=>by rw[hN];exact cw1
  refine A9 [0,1,2,3,4,10,45,46] (σ:=Nat) (λk f w'=>f 47 = .int .i64 k/\k<=a.length/\(∀e∈a.take k,bu1 N e)/\o6 w1 w') (λk=>a.length-k) 0 ?_ ?_
  .exact⟨rfl,ek1 _,dP,p6.refl _⟩
  .rintro k f A ⟨e0,K,L,O,e4,g,C,a0,_⟩ ⟨r,bH,o,hx⟩;simp only[M2,D1,I1,simprocAttr,r,a0];refine A3 (λQ=>?_) ?_
   .have F:=hv.inS Q;have p:=ldP hv (b7 (x1.trans hx)) (ej0 Q);have aa:a[k]∈a:=ek0 Q;have aK:a.take (k+1)=a.take k++[a[k]]:=ej8 Q;generalize a[k]=e at p aa aK;obtain⟨x,y⟩:=e;simp only at p;obtain⟨p1,p2⟩:=dE3 A x y;have q0:=dE1 A x y;have q1:=dE2 A x y;have s:=hx.trans (o6.alloc A (.cells #[.int .i64 x,.int .i64 y] 208));generalize A.alloc (.cells #[.int .i64 x,.int .i64 y] 208)=z at *;obtain⟨w4,Y,g2,g3⟩:=m z (x1.trans s) ((s.block j S id).trans c1);have bk:∀{b:Bool},bN1 n (x,y)=true->¬cZ9 n a D H most:=λi h=>by
     have h2:=h.st (x,y) aa;rw[aj]at h2;have:=(Z (x,y)).2 h2;rw[i]at this;cases this
    rcases cP2 n x y with⟨I,i⟩|⟨I,r2,i⟩|⟨I,r2,r3,i⟩|⟨I,r2,r3,r4,i⟩|⟨I,r2,r3,r4,i⟩
    case' inl=>simp only[M2,W0,D1,I1,A0,simprocAttr,r,C,F,p,p1,p2,q0,I,g,d,Y]
    case' inr.inl=>simp only[M2,W0,D1,I1,A0,simprocAttr,r,C,e0,F,p,p1,p2,q0,I,r2,g,d,Y]
    case' inr.inr.inl=>simp only[M2,W0,D1,I1,A0,simprocAttr,r,C,e0,F,p,p1,p2,q0,q1,I,r2,r3,g,d,Y]
    case' inr.inr.inr.inl=>simp only[M2,W0,D1,I1,A0,simprocAttr,r,C,e0,F,p,p1,p2,q0,q1,I,r2,r3,r4,g,d,Y]
    case' inr.inr.inr.inr=>simp only[M2,W0,D1,I1,A0,simprocAttr,r,C,e0,F,p,p1,p2,q0,q1,I,r2,r3,r4]
    case inr.inr.inr.inr=>
     refine V1 (k+1) ⟨λe he=>?_,s⟩;rw[aK,ej9,ek5]at he;rcases he with he|he
     .exact o e he
     .subst he;exact(Z _).1 i
    all_goals
     exact aG3 results275 (ad:=⟨j,0,none⟩) (by simp only[B8,↓reduceIte,Nat.reduceEqDiff];exact g) g3 ⟨⟨_,false,rfl,(λh=>(by cases h)),λ_=>⟨bk (b:=true) i,rfl⟩⟩,g2⟩
   .rintro rfl;rw[ek4]at o;have W:=x1.trans hx;have aL:R (i5 A) vg D:=A6.mono (b7 W) am;have U:=cr4 vg D M A aL om om a8;rw[<-hM]at U;simp only[M2,simprocAttr,L,e4];refine y4 U ?_;rintro I z ⟨⟨ub,bw,bn,a6,a7⟩,s⟩;subst bn;have aM:R (i5 z) vk H:=A6.mono (b7 (W.trans s)) an;have V:=cr4 vk H M z aM om om be;rw[<-hM]at V;simp only[M2,simprocAttr,O,e4];refine y4 V ?_;rintro r2 w4 ⟨⟨uk,bx,bo,bb,bc⟩,aN⟩;subst bo;have l:=(hx.trans s).trans aN;have ae:=x1.trans l;obtain⟨w5,Y,g2,g3⟩:=m w4 ae ((l.block j S id).trans c1);cases bw
    .simp only[M2,W0,unV,simprocAttr,g,d,Y];exact aG3 results275 (ad:=⟨j,0,none⟩) (by simp only[B8,↓reduceIte,Nat.reduceEqDiff];exact g) g3 ⟨⟨_,false,rfl,(λh=>(by cases h)),λ_=>⟨λh=>a7 rfl (by have:=h.gf;rw[E]at this;exact this),rfl⟩⟩,g2⟩
    .cases bx
     .simp only[M2,W0,unV,simprocAttr,g,d,Y];exact aG3 results275 (ad:=⟨j,0,none⟩) (by simp only[B8,↓reduceIte,Nat.reduceEqDiff];exact g) g3 ⟨⟨_,false,rfl,(λh=>(by cases h)),λ_=>⟨λh=>bc rfl (by have:=h.kf;rw[E]at this;exact this),rfl⟩⟩,g2⟩
     .clear Y g2 g3 w5;obtain⟨aC,gs,a2,az⟩:=a6 rfl;obtain⟨bd,ks,a3,aB⟩:=bb rfl;have ab:=cK5 N v a w4 om (A6.mono (b7 ae) hv) om;rw[<-hN]at ab;simp only[M2,W0,unV,simprocAttr,e0,K];refine y4 ab ?_;rintro pg w5 ⟨⟨Mb,ba⟩,t⟩;have aD:=aq4 N a;have aF:=ba.read (b7 t);have bm:cZ9 n a D H most:=⟨bi,bj,bg,bh,a9,bf,by rw[aj];exact o,by rw[E];exact aC,by rw[E];exact bd⟩;rw[aj,E];generalize at6 N a=G at *;obtain⟨nx,pv⟩:=G;simp only at aF;have bl:nx.length=N:=aD.nx.len;have aE:aQ9 nx.length (nx,pv):=by rw[bl];exact aD
      have ac:=cX2 pg nx pv ub uk gs ks D H M w5 aF aE (A6.mono (b7 (aN.trans t)) a2) (A6.mono (b7 t) a3) az aB om om aC om om;rw[<-hM]at ac;simp only[M2,simprocAttr,e4];refine y4 ac ?_;rintro r3 w6 ⟨⟨vi,X,T,bp,ay,U,V,bq,br⟩,bu⟩;subst bp;have af:=(l.trans t).trans bu;have Sv:=ay.isS;have aI:∀u∈(#[vi,Value.int .i64 (T:Nat)]:Array Value).toList,u.oneCell'=true:=by
       intro u hu;simp at hu;rcases hu with rfl|rfl
       .exact W8 Sv
       .rfl
      obtain⟨w7,t1,t2,t3⟩:=aj3 (P:=prog) ((af.block j S id).trans c1) bt8 (by rw[ao6];rfl) (cs:=#[vi,.int .i64 (T:Nat)]) (by rw[ao6];rfl) aI;have aG:=af6 (P:=prog) t2 ce8 cf2 ce9 (by rw[ao6];rfl);simp only[M2,simprocAttr,g,t1];refine aG3 results275 (ad:=⟨j,0,none⟩) (by simp only[B8,↓reduceIte,Nat.reduceEqDiff];exact g) aG ?_;simp only[B8,simprocAttr];refine⟨⟨_,true,rfl,λ_=>⟨bm,vi,X,T,rfl,?_,⟨U,V,bq,br⟩⟩,(λh=>(by cases h))⟩,p6.ext_of (x1.trans af) t3 λb i=>by subst i;omega⟩;have aJ:j<w5.heap.size:=eq5 S (l.trans t).size;refine A6.mono (K8 t3 (λb i=>by subst i;exact aJ) λb i=>.inl ?_) ay;have:=(x1.trans (l.trans t)).size;omega
def dS2(x:Int)(w:World){h:Hp}(hw:E2 h (i5 w)):∃v a,(Instr.buildSlice 45 1 #[(0,.int .i64 x)]).run prog w = .ok v a/\B0 h a 3 v [x]/\o6 w a/\(∀b,A5 v b->w.heap.size<=b):=
 lit (P:=prog) (w:=w) (h:=h) (α:=Int) (xs:=[.int .i64 x]) (ys:=[x]) (parts:=#[(0,.int .i64 x)]) (n:=1) W3 rfl (G9.2 rfl) (by simp[Value.cells]) rfl rfl dP dP hw
def dW0(w:World){vi:Value}(T:Int)(b:isS vi=true):
  (Instr.alloc 319 true (.tuple #[])).run prog w = .ok (.pointer (some ⟨w.heap.size,0,none⟩)) (w.alloc (.cells #[.slice none 0 0,.int .i64 0] 319)) /\
  (Instr.storeAt 319 (.pointer (some ⟨w.heap.size,0,none⟩)) (.agg #[vi,.int .i64 T])).run prog (w.alloc (.cells #[.slice none 0 0,.int .i64 0] 319)) =
   .ok () (w.alloc (.cells #[vi,.int .i64 T] 319)):=
 aI8 (P:=prog) (T:=319) bt8 (by rw[ao6];rfl) (cs:=#[vi,.int .i64 T]) (by rw[ao6];rfl) (by
  intro u a;simp only[ek9,en5,es4]at a;rcases a with rfl|rfl
  .exact W8 b
  .rfl)
def dz7(w:World){vi:Value}{T:Int}:
  (Instr.loadAt 261 (.pointer (some ⟨w.heap.size,0,none⟩))).run prog (w.alloc (.cells #[vi,.int .i64 T] 319)) = .ok vi (w.alloc (.cells #[vi,.int .i64 T] 319)):=
 F4 (T:=319) (cs:=#[vi,.int .i64 T]) (i:=0) (em9 w _) rfl ab6
def df5{nx:List (List Int)}(d:G2 nx.length nx):OkR nx:=λa b c=>(d.row _).2 _ c
def cQ4(a:Addr)(p:Pg)(i:Nat)(v aU:Value)(d:List Nat)(w:World)(ha:At (i5 w) a (b9 p))(G:E6 p)(hw:C4 p<=1000000)(hi:i<p.procs.length)(hv:R (i5 w) v ((F5 (d9 p) i).pairs (F5 (d9 p) i).data))(K:R (i5 w) aU (d.map λ(a:Nat)=>(a:Int)))(aa:d.Nodup)(a8:∀A∈d,(A:Int)<(F5 (d9 p) i).n):
  y5 prog 213 #[.pointer (some a),.int .i64 i,v,aU] w λu F=>((∃ag,R (D0 F (λb=>b<w.heap.size)) u ag/\(ag.length:Int)=(F5 (d9 p) i).n/\(∀c:Nat,(c:Int)<(F5 (d9 p) i).n->∃g:Nat->Bool,E3 ag c=((List.range d.length).filter g).map (λ(f:Nat)=>(f:Int))/\∀f A,d[f]?=some A->(g f=true↔bo9 ((b9 p).nx i) d A c=true)))/\o6 w F):=by
 refine z6 [.pointer (some a),.int .i64 i,v,aU] func213 rfl ?_;obtain⟨x,pt⟩:=K9 G.may hw i hi;have ao:=U4 pt;generalize x+B2 p.procs[i].body=y at pt ao;have bZ:=J8 G.may;have hn:=ao.n;have b3:=pt.ok.len;have b2:=pt.ok.le;have a2:=bg4 G hw hi ao;have aQ:=bE4 G hw hi ao;have bJ:((F5 (d9 p) i).pairs (F5 (d9 p) i).data).length<=1000000:=ej7 (Nat.le_of_eq (ek2 _)) a2;clear a2;have bb:(b9 p).nx (i:Int)=(at6 (F5 (d9 p) i).n.toNat ((F5 (d9 p) i).pairs (F5 (d9 p) i).data)).1:=by
  unfold Bk.nx;rw[O9 hi]
 obtain⟨sh,vw,_,_,_,_,has,bk,_,_,_,_,bR,_⟩:=ha.book rfl;obtain⟨aw,bC,a1⟩:=aC0 (hv:=bk) (k:=i) (p:=⟨F5 (d9 p) i⟩) (by show((L7 p).map λw=>(⟨w⟩:Ptr Wy))[i]?=_;rw[em8,aa1 hi];rfl);simp only at a1;have a7:=bk.inS (k:=i) (by show i<((L7 p).map λw=>(⟨w⟩:Ptr Wy)).length;unfold L7;simpa using hi);obtain⟨_,_,_,_,_,_,bo,_⟩:=a1.wy;rw[bb];generalize(F5 (d9 p) i).pairs (F5 (d9 p) i).data=steps at hv aQ bJ;generalize(F5 (d9 p) i).n=wn at hn a8 bo aQ;obtain⟨M,rfl⟩:∃M:Nat,wn=(M:Int):=⟨wn.toNat,om⟩;simp only[el5];have l:∀A∈d,A<M:=λA hA=>by have:=a8 A hA;omega
 have cp:d.length<=M:=by
  have:=I5 (m:=List.range M) aa λA hA=>en3.2 (l A hA);simpa using this
 have bH:=J7 (P:=prog) (t:=160) bC (n7 _) aD2;have hz:A6.enc (i5 w) (Value.slice none 0 0).cells.toList ([]:List Int):=bq6 _;have bp:=λ(wa:World) (ha:o6 w wa)=>mk (P:=prog) (w:=wa) (h:=i5 w) (α:=List Int) cC5 ao7 (y:=[]) hz (n:=M) om om (b7 ha);obtain⟨il,a4,ar⟩:=av3 (P:=prog) ao7 bz1;simp only[i4,n9,A0,simprocAttr,bR w (n7 _),a7,bH,bo w (n7 _)];refine bg5 [2,3,9] (λF=>o6 w F) 6 (.op 0 (.op 2 (.fork [1,3] (λi=>if i=1 then(A7 [4,3,5])else(A7 [1,4,5])))))
  (λO F=>B0 (i5 w) F 45 (O 10) (List.replicate M ([]:List Int))/\B0 (i5 w) F 45 (O 11) (List.replicate M ([]:List Int))/\(∀b,A5 (O 10) b->¬A5 (O 11) b)/\o6 w F) (by decide +kernel) (by decide +kernel) (o6.drew w) ?_ ?_
 .simp only[D7,A7,i4,simprocAttr];obtain⟨va,wA,m1,o1,xA,f1,_⟩:=bp w.drew (o6.drew w);have I:=(o6.drew w).trans xA;obtain⟨vb,wB,m2,o2,xB,f2,_⟩:=bp wA I;have H:∀b,A5 va b->¬A5 vb b:=λb Q U=>by have:=o1.lt Q;have:=f2 b U;omega
  refine V3 (by decide +kernel) (λi hi=>?_);simp only[ek9,en5,es4]at hi;rcases hi with rfl|rfl
  .simp only[fc,simprocAttr,m1,m2,G0];exact⟨I,I.trans xB,o1.ext xB,o2,H,I.trans xB⟩
  .simp only[fc,simprocAttr,m1,m2,G0];exact⟨I,I.trans xB,o2,o1.ext xB,λb Q U=>H b U Q,I.trans xB⟩
 rintro f w1 hk ⟨am,an,H,bM⟩;simp only[em0,B8,simprocAttr]at hk;obtain⟨e2,e3,e9,_⟩:=hk;generalize bv:f 10=B at am H;generalize bw:f 11=C at an H;have aE:=K.isS;have ak:=K.vlen;rw[ek2]at ak;simp only[fd,simprocAttr,e3,aE,ak];refine A9 [2,3,9,10,11,33] (σ:=Nat×Value) (λs f F=>f 34 = .int .i64 s.1/\f 12=s.2/\s.1<=d.length/\B0 (i5 w1) F 3 s.2 ((List.range s.1).map λ(f:Nat)=>(f:Int))/\o6 w1 F) (λs=>d.length-s.1) (0,.slice none 0 0) ?_ ?_
 .simp only[B8,simprocAttr];exact⟨by first|rfl|trivial,trivial,ek1 _,B0.nil _ _ _,p6.refl _⟩
 rintro⟨k,ua⟩ f2 w2 ⟨g2,g3,g9,aX,aY,bu,_⟩ ⟨aD,aC,aK,ab,S⟩;simp only at aD aC aK ab;rw[e2]at g2;rw[e3]at g3;rw[e9]at g9;rw[bv]at aX;rw[bw]at aY;simp only[eH,simprocAttr,aD,bu];refine A3 (λE=>?_) ?_
 .obtain⟨p1,u3,w3,p2,p3,p4,p5⟩:=push (P:=prog) (t:=45) (e:=45) W3 rfl ab (x:=.int .i64 (k:Int)) (y:=(k:Int)) rfl (by rw[ek2,en9];omega) (by rw[ek2,en9];omega) (b7 S);simp only[Value.cells]at p1 p2;simp only[eH,simprocAttr,aD,aC,p1,p2];refine nx4 (k+1,u3) ⟨?_,ab.ext2 S p4⟩;simp only[];have e:(List.range (k+1)).map (λ(f:Nat)=>(f:Int))=(List.range k).map (λ(f:Nat)=>(f:Int))++[(k:Int)]:=by
   rw[eu5,em6,List.map_singleton]
  rw[e];exact p3
 rintro rfl;have az:=bM.trans S;have J:∀b,(A5 B b\/A5 C b)->w.heap.size<=b/\b<w1.heap.size:=λb h=>by
  rcases h with h|h
  .exact⟨C9 (am.free h),am.lt h⟩
  .exact⟨C9 (an.free h),an.lt h⟩
 have aq:E2 (i5 w) (D0 w2 (λb=>A5 B b\/A5 C b)):=aW4 az λb j=>(J b j).1;have bc:=(am.ext S).reNo (N:=λb=>A5 B b\/A5 C b) aq λb j=>.inl j;have bf:=(an.ext S).reNo (N:=λb=>A5 B b\/A5 C b) aq λb j=>.inr j;have bi:R (D0 w2 (λb=>A5 B b\/A5 C b)) ua ((List.range d.length).map λ(f:Nat)=>(f:Int)):=ab.flatR λb j=>E4 λh=>by
  have Q:=C9 (ab.free j);have:=(J b h).2;omega
 have bz:=bi.isS;simp only[eH,simprocAttr,g3,aE,ak];refine A9 [2,3,9,10,11,12,42,43] (σ:=Nat) (λk f F=>f 44 = .int .i64 k/\k<=d.length/\B0 (D0 F (λb=>A5 B b\/A5 C b)) F 45 B (am4 d (λf=>[(f:Int)]) M k)/\B0 (D0 F (λb=>A5 B b\/A5 C b)) F 45 C (am4 d (λ_=>(List.range d.length).map λ(f:Nat)=>(f:Int)) M k)/\p6 (λb=>A5 B b\/A5 C b) w2 F) (λk=>d.length-k) 0 ?_ ?_
 .simp only[B8,simprocAttr];exact⟨tt,ek1 _,bc,bf,p6.refl _⟩
 rintro k f4 w4 ⟨j2,j3,j9,aS,aT,bn,bP,bQ,_⟩ ⟨aZ,b1,ac,ad,aj⟩;rw[g2]at j2;rw[g3]at j3;rw[g9]at j9;rw[aX]at aS;rw[aY]at aT;rw[aC]at bn;have L:o6 w w4:=p6.ext_of az aj λb j=>(J b j).1;have a9:E2 (D0 w2 (λb=>A5 B b\/A5 C b)) (D0 w4 (λb=>A5 B b\/A5 C b)):=K8 aj (λ_ h=>h) λ_ h=>.inl h;simp only[eH,simprocAttr,aZ,bQ];refine A3 (λE=>?_) ?_
 .have bG:=K.inS (k:=k) (by rw[ek2];exact E);have aL:=aI7 K (b7 L) (k:=k) (by rw[ek2];exact E);rw[er0]at aL;have V:=l _ (ek0 E);have aH:d.getD k 0=d[k]:=by rw[List.getD,ej0 E];rfl
  generalize d[k]=A at aL V aH;obtain⟨ul,w5,q1,q2,q3,q4⟩:=dS2 (k:Int) w4 (n7 _);have Y:E2 (D0 w4 (λb=>A5 B b\/A5 C b)) (D0 w5 (λb=>A5 B b\/A5 C b)):=K8 q3 (λ_ h=>h.elim) λ_ h=>.inl h;have a0:∀b,(A5 B b\/A5 C b)->b<w4.heap.size:=λb j=>eq5 (J b j).2 (ej7 S.size aj.size);have bL:R (D0 w5 (λb=>A5 B b\/A5 C b)) ul [(k:Int)]:=q2.flatR λb j=>E4 λh=>by
   have Q:=q4 b j;have:=a0 b h;omega
  have av:=(ac.ext q3).up Y λb j=>G1 (.inl j);have bg:=(ad.ext q3).up Y λb j=>G1 (.inr j);obtain⟨w6,s1,bd,aM,_⟩:=F9 (P:=prog) (t:=45) av rfl (k:=A) (by rw[ac5];exact V) (x:=ul) (y:=[(k:Int)]) bL (F7 q2.isS) a4 ar;have Z:E2 (D0 w5 (λb=>A5 B b\/A5 C b)) (D0 w6 (λb=>A5 B b\/A5 C b)):=K8 aM (λ_ h=>.inl h) λ_ h=>.inl h;have ax:=(bg.mod aM λb j aF=>H b aF j).up Z λb j=>G1 (.inr j);have bj:=A6.mono (p7 a9 (p7 Y Z)) bi;obtain⟨w7,s2,bh,aN,_⟩:=F9 (P:=prog) (t:=45) ax rfl (k:=A) (by rw[ac5];exact V) (x:=ua) (y:=(List.range d.length).map λ(f:Nat)=>(f:Int)) bj (F7 bz) a4 ar;have au:E2 (D0 w6 (λb=>A5 B b\/A5 C b)) (D0 w7 (λb=>A5 B b\/A5 C b)):=K8 aN (λ_ h=>.inr h) λ_ h=>.inl h;have be:=(((bd.up Z λb j=>G1 (.inl j)).mod aN λb j aF=>H b j aF)).up au λb j=>G1 (.inl j);have aP:=bh.up au λb j=>G1 (.inr j);have a5:=av.inS (k:=A) (by rw[ac5];exact V);have a6:=ax.inS (k:=A) (by rw[ac5];exact V);simp only[i4,n9,A0,simprocAttr,aZ,aS,aT,bn,bP,bG,aL,q1,a5,s1,a6,s2];refine V1 (k+1) ⟨?_,?_,?_⟩
  .rw[am4,aH];exact be
  .rw[am4,aH];exact aP
  .exact(aj.trans (p6.up q3)).trans ((p6.weaken aM λb _ h=>.inl h).trans (p6.weaken aN λb _ h=>.inr h))
 rintro rfl;have ae:=bV6 (g:=λf=>[(f:Int)]) (n:=M) aa l;have af:=bV6 (g:=λ_=>(List.range d.length).map λ(f:Nat)=>(f:Int)) (n:=M) aa l;have aI:∀r∈am4 d (λf=>[(f:Int)]) M d.length,r.length<=1000/\∀f∈r,0<=f/\f<(d.length:Int):=λr G=>by
  obtain⟨q,hq⟩:=es8.1 G;rcases aJ5 aa l _ (ek6 _) q r hq with⟨f,hf,_,rfl⟩|⟨_,rfl⟩
  .exact⟨dP,λO D=>by simp at D;omega⟩
  .exact⟨dP,λO D=>by simp at D⟩
 have aJ:∀r∈am4 d (λ_=>(List.range d.length).map λ(f:Nat)=>(f:Int)) M d.length,r.length<=1000/\∀f∈r,0<=f/\f<(d.length:Int):=λr G=>by
  obtain⟨q,hq⟩:=es8.1 G;rcases aJ5 aa l _ (ek6 _) q r hq with⟨f,hf,_,rfl⟩|⟨_,rfl⟩
  .refine⟨by simp;omega,λO D=>?_⟩;obtain⟨z,hz,rfl⟩:=el2.1 D;have:=en3.1 hz;omega
  .exact⟨dP,λO D=>by simp at D⟩
 have bF:=ac5 d (λf=>[(f:Int)]) M d.length;have aK:=ac5 d (λ_=>(List.range d.length).map λ(f:Nat)=>(f:Int)) M d.length;generalize am4 d (λf=>[(f:Int)]) M d.length=gl at ac ae aI bF;generalize am4 d (λ_=>(List.range d.length).map λ(f:Nat)=>(f:Int)) M d.length=kl at ad af aJ aK;have aO:cZ9 (M:Int) steps gl kl (d.length:Int):=by
  refine⟨om,om,om,om,om,om,λs hs=>?_,λr G f hf=>?_,λr G f hf=>?_⟩
  .have:=aQ s hs;rw[el5];unfold bu1;omega
  .have:=(aI r G).2 f hf;rw[el5];exact this
  .have:=(aJ r G).2 f hf;rw[el5];exact this
 simp only[eH,simprocAttr,j2,j3,j9,aS,aT,aE,ak];refine y4 (dJ9 (M:Int) (d.length:Int) v B C steps gl kl w4 (A6.mono (b7 L) hv) (ac.rw_ (B4 _ _)) (ad.rw_ (B4 _ _)) om (λr G=>by have:=(aI r G).1;omega) λr G=>by have:=(aJ r G).1;omega) ?_;rintro _ w5 ⟨⟨vs,bT,rfl,bm,bI⟩,bN⟩;cases bT with
 | false=>exact absurd aO (bI rfl).1
 | true=>
  obtain⟨_,vi,ag,T,rfl,ay,aR⟩:=bm rfl;obtain⟨al,st⟩:=dW0 w5 (T:Int) ay.isS;simp only[eH,simprocAttr,al,st,dz7 w5 (vi:=vi) (T:=(T:Int))];refine o8 results213 ?_;simp only[B8,simprocAttr];have bl:=o6.alloc w5 (.cells #[vi,.int .i64 (T:Int)] 319);have X:=(aq4 M steps).nx;have W:=X.len;rw[el5]at aR;refine⟨⟨ag,?_,?_,λc bB=>?_⟩,(L.trans bN).trans bl⟩
  .refine A6.mono (λb o e=>?_) ay;have ba:¬b<w4.heap.size:=λh=>by rw[G1 (N:=λb=>b<w4.heap.size) h]at e;cases e
   rw[E4 (N:=λb=>b<w4.heap.size) ba]at e;rw[E4 (N:=λb=>b<w.heap.size) (λh=>ba (eq5 h L.size))];exact b7 bl b o e
  .rw[aR.len,W]
  .obtain⟨g,a3,bE⟩:=aR.row (c:Int) (B5.2 ⟨om,by rw[W];exact bB⟩);rw[el5]at a3;refine⟨g,a3,λf A hf=>?_⟩;rw[bE,cx4 (df5 (by rw[W];exact X)),cQ5 ?_ ?_ hf]
   .intro a' O;rw[ae];constructor
    .rintro⟨f2,A2,Q,U,h3⟩;have:O=f2:=by simp at h3;omega
     subst this;exact⟨A2,Q,U⟩
    .rintro⟨A2,Q,U⟩;exact⟨O,A2,Q,U,dP⟩
   .intro a' O D;rw[af];constructor
    .rintro⟨f2,A2,Q,U,_⟩;exact⟨A2,el0 Q,U⟩
    .rintro⟨A2,Q,U⟩;obtain⟨f2,bD⟩:=es8.1 Q;exact⟨f2,A2,bD,U,el2.2 ⟨O,en3.2 D,rfl⟩⟩
section
section
variable {P:Program} {K:Fr->World->Prop} {f:Fr} {w:World} {d:Option Nat} {ty:TypeId} {pos:String} {aft:Array Edge}
def dk7{t:Nat}{x:Operand}:B9 P none ⟨d,.range t x,ty,pos,aft,none⟩ K f w=am8 ((Instr.range t (ev f x)).run P w) K f d:=by
 show T9 P _ K f w=_;unfold T9;simp only[execOp,el7];generalize(Instr.range t (ev f x)).run P w=r;cases r<;>rfl
def cK8{x:Operand}{s:Bool}:B9 P none ⟨d,.next x s,ty,pos,aft,none⟩ K f w=am8 ((Instr.next (ev f x) s ty).run P w) K f d:=by
 show T9 P _ K f w=_;unfold T9;simp only[execOp,el7];generalize(Instr.next (ev f x) s ty).run P w=r;cases r<;>rfl
def dk6{x:Operand}:B9 P none ⟨d,.entry x,ty,pos,aft,none⟩ K f w=am8 ((Instr.entry (ev f x)).run P w) K f d:=by
 show T9 P _ K f w=_;unfold T9;simp only[execOp,el7];generalize(Instr.entry (ev f x)).run P w=r;cases r<;>rfl
end
open Go.ChangeMaps (setBlock)
structure RgI (w:World) (it r:Nat) (es:Array MapEntry) (clock:Nat) (D:List Nat):Prop where
 cur:∃c0,clock<=c0/\w.heap[it]?=some (.mapIter (some r) clock (D.map λj=>(es.getD j default).born).toArray c0)
 map:w.heap[r]?=some (.map es clock)
 born:∀x∈es.toList,x.born<clock
 nd:(es.toList.map (·.born)).Nodup
 dn:D.Nodup
 dl:∀j∈D,j<es.size
def RgI.mod{w c:World}{it r:Nat}{b:Array MapEntry}{a:Nat}{D:List Nat}{M:Nat->Prop}(s:RgI w it r b a D)(h:p6 M w c)(f:¬M it)(g:¬M r):RgI c it r b a D:=by
 obtain⟨d,i,e⟩:=s.cur;exact⟨⟨d,i,(h.block it (ej4.1 e).1 f).trans e⟩,(h.block r (ej4.1 s.map).1 g).trans s.map,s.born,s.nd,s.dn,s.dl⟩
def cd9{w:World}{it:Nat}{o:Obj}:p6 (λb=>b=it) w (setBlock w it o):=bB5 w it o
def RgI.next{P:Program}{w:World}{it r:Nat}{d:Array MapEntry}{c:Nat}{D:List Nat}(s:RgI w it r d c D)(J:it≠r)(ty:TypeId):
  ((∀j,j<d.size->j∈D)/\(Instr.next (.pointer (some ⟨it,0,none⟩)) false ty).run P w = .ok (.tuple #[.bool false]) w) \/
  ∃(j:Nat) (e:MapEntry) (H:World),d[j]?=some e/\j∉D/\(Instr.next (.pointer (some ⟨it,0,none⟩)) false ty).run P w = .ok (.tuple #[.bool true,e.key,e.val]) H/\RgI H it r d c (D++[j])/\p6 (λb=>b=it) w H /\
   (∀l,p6 (λb=>b≠it/\b≠r) H l->(Instr.entry (.pointer (some ⟨it,0,none⟩))).run P l = .ok (.tuple #[e.key,e.val]) l):=by
 obtain⟨N,S,e⟩:=s.cur;have F:∀j k,j<d.size->k<d.size->(d.getD j default).born=(d.getD k default).born->j=k:=λj k f n h=>by
  have y:=ep5.1 s.nd;have G:∀j (f:j<d.size),(d.toList.map (·.born))[j]'(by simpa using f)=(d.getD j default).born:=λj f=>by
   simp[Array.getD,f]
  rcases Nat.lt_trichotomy j k with t|t|t
  .exact absurd (by rw[G j f,G k n];exact h) (y j k (by simpa using f) (by simpa using n) t)
  .exact t
  .exact absurd (by rw[G j f,G k n];exact h.symm) (y k j (by simpa using n) (by simpa using f) t)
 have A:∀j,j<d.size->(((D.map λj=>(d.getD j default).born).toArray.contains (d.getD j default).born)=true↔j∈D):=λj f=>by
  rw[<-Array.contains_toList,ek7,el2];constructor
  .rintro⟨k,n,h⟩;have:=F k j (s.dl k n) f h;rw[<-this];exact n
  .exact λh=>⟨j,h,rfl⟩
 rcases run_next_at (P:=P) w ty it r c N _ d c e s.map s.born S with⟨t,O⟩|⟨x,M,E,K,C⟩
 .left;refine⟨λj f=>?_,O⟩;refine er1 λo=>?_;have I:leftOf d (D.map λj=>(d.getD j default).born).toArray=#[]:=Array.eq_empty_of_size_eq_zero t;unfold leftOf at I;rw[Array.filter_eq_empty_iff]at I;have y:=I d[j] (Array.getElem_mem f);have Q:d.getD j default=d[j]:=by simp[Array.getD,f]
  have L:=A j f;rw[Q]at L;rw[Bool.not_eq_true',et8]at y;exact o (L.1 (Classical.not_not.1 y))
 .right;unfold leftOf at M;have v:x∈d.toList/\(!(D.map λj=>(d.getD j default).born).toArray.contains x.born)=true:=by simpa using M
  obtain⟨j,f,rfl⟩:=ep2.1 v.1;have m:j<d.size:=by simpa using f
  have p:d.getD j default=d.toList[j]:=by simp[Array.getD,m]
  have o:j∉D:=λh=>by
   have:=(A j m).2 h;rw[p]at this;rw[this]at v;simp at v
  have z:p6 (λb=>b=it) w E:=by
   rcases K with rfl|rfl
   .exact p6.refl _
   .exact p6.up (o6.drew w)
  have B:it<E.heap.size:=eq5 (ej4.1 e).1 z.size;have u:((D.map λj=>(d.getD j default).born).toArray.push d.toList[j].born)=((D++[j]).map λj=>(d.getD j default).born).toArray:=by
   rw[em6,<-p];simp
  have q:p6 (λb=>b=it) w (setBlock E it (.mapIter (some r) c ((D.map λj=>(d.getD j default).born).toArray.push d.toList[j].born) c)):=z.trans cd9;have g:=(q.block r (ej4.1 s.map).1 λh=>J h.symm).trans s.map;have i:(setBlock E it (.mapIter (some r) c ((D.map λj=>(d.getD j default).born).toArray.push d.toList[j].born) c)).heap[it]?=some (.mapIter (some r) c ((D.map λj=>(d.getD j default).born).toArray.push d.toList[j].born) c):=by
   show(E.heap.setIfInBounds it _)[it]?=_;simp[B]
  refine⟨j,d.toList[j],_,by rw[et7 m];simp,o,C,⟨⟨c,ek6 _,by rw[<-u];exact i⟩,g,s.born,s.nd,?_,λk n=>?_⟩,q,λl h=>?_⟩
  .rw[eo0];exact⟨s.dn,dP,λa R b F=>by simp at F;subst F;rintro rfl;exact o R⟩
  .rcases ej9.1 n with h|h
   .exact s.dl k h
   .simp at h;subst h;exact m
  .exact run_entry_at (P:=P) l it r c _ d c d.toList[j] ((h.block it (ej4.1 i).1 λh=>h.1 rfl).trans i) ((h.block r (ej4.1 g).1 λh=>h.2 rfl).trans g) (ek0 f) s.nd
end
def cN7(a:Addr)(p:Pg)(i:Nat)(w:World)(ha:At (i5 w) a (b9 p))(hr:E6 p)(hw:C4 p<=1000000)(hi:i<p.procs.length):
  y5 prog 148 #[.pointer (some a),.int .i64 i] w λu U=>(B0 (i5 w) U 213 u ((b9 p).flows (i:Int))/\o6 w U):=by
 refine z6 [.pointer (some a),.int .i64 i] func148 rfl ?_;obtain⟨x,pt⟩:=K9 hr.may hw i hi;have H:=U4 pt;generalize x+B2 p.procs[i].body=y at pt H;have aX:=J8 hr.may;have hn:=H.n;have dn:=pt.ok.len;have dm:=pt.ok.le;have bh:=bg4 hr hw hi H;have b0:=bZ7 hr hw hi H;have aj:(F5 (d9 p) i).data.length<=10000000:=ej7 bh dQ;obtain⟨M,hM⟩:∃M:Nat,(F5 (d9 p) i).n=(M:Int):=by
  generalize(F5 (d9 p) i).n=wn at hn;exact⟨wn.toNat,om⟩
 have V:M<=202:=by rw[hM]at hn;clear bh aj;omega
 have aO:(b9 p).way (i:Int)=F5 (d9 p) i:=O9 hi;have K:((b9 p).way (i:Int)).n.toNat=M:=by rw[aO,hM,el5]
 have a0:bO7 ((b9 p).way (i:Int)):=by rw[aO];exact dK2 H.toWyOk aX
 have a1:∀a:Nat,a<((b9 p).way (i:Int)).n.toNat->plc (((b9 p).way (i:Int)).place a):=by rw[aO];exact dK3 H.toWyOk aX
 have bi:∀k:Nat,k<((b9 p).way (i:Int)).n.toNat->((b9 p).gives (i:Int) (k:Int)).Nodup/\((b9 p).gives (i:Int) (k:Int)).length<=100:=λk hk=>by
  rw[K]at hk;have h:=bc7 hr hw hi (k:=k) (by rw[hM];exact Int.ofNat_lt.2 hk);exact⟨aC2 h.1,h.2⟩
 have b2:=λ(c:Nat) (hc:c<M)=>cD6 hr hw hi (k:=c) (by rw[hM];exact Int.ofNat_lt.2 hc);obtain⟨sh,vw,_,_,_,_,has,cb,_,_,_,_,dc,_⟩:=ha.book rfl;obtain⟨aw,cH,af⟩:=aC0 (hv:=cb) (k:=i) (p:=⟨F5 (d9 p) i⟩) (by show((L7 p).map λw=>(⟨w⟩:Ptr Wy))[i]?=_;rw[em8,aa1 hi];rfl);simp only at af;have bQ:=cb.inS (k:=i) (by show i<((L7 p).map λw=>(⟨w⟩:Ptr Wy)).length;unfold L7;simpa using hi);obtain⟨_,_,_,_,_,_,dd,_⟩:=af.wy;have cP:=J7 (P:=prog) (t:=160) cH (n7 _) aD2;simp only[i4,n9,A0,simprocAttr,dc w (n7 _),bQ,cP];refine y4 (cg3 aw _ p i x y w af hr hw hi H) ?_;rintro vd w1 ⟨cR,aT⟩;simp only[i4,simprocAttr];refine y4 (ay2 aw _ p i x y vd _ w1 (af.mono (b7 aT)) H.toWyOk (cR.rw_ (b7 aT)) b0 aj) ?_;rintro vp w2 ⟨cS,br⟩;have c3:=cS.rw_ (b7 br);clear bh aj b0;simp only[i4,simprocAttr];refine y4 (cS5 a p i w2 (ha.mono (b7 (aT.trans br))) hr hw hi) ?_;rintro _ w3 ⟨r,kv,cn,rfl,hG⟩;have az:=aT.trans (br.trans hG.ext);have lw:=dd w3 (b7 az);simp only[hM]at lw;have hz:A6.enc (i5 w3) (Value.slice none 0 0).cells.toList ([]:List B3):=bq6 _;obtain⟨vt,w4,m1,aV,x4,f4,_⟩:=mk (P:=prog) (w:=w3) (h:=i5 w3) (α:=List B3) cL6 ct6 (y:=[]) hz (n:=M) om om (n7 _);obtain⟨il,cJ,bL⟩:=av3 (P:=prog) ct6 do8;have cD:=aV.isS;have bY:=aV.vlen;rw[eo7]at bY;simp only[eH,simprocAttr,lw,m1,cD,bY];have aN:∀b,A5 vt b->w3.heap.size<=b/\b<w4.heap.size:=λb o=>⟨f4 b o,aV.lt o⟩;have a8:=aV.reNo (aW4 x4 λb o=>(aN b o).1) (λb o=>o);rw[cC2 (λc=>(b9 p).takes (i:Int) (c:Int)) M]at a8;refine A9 [0,1,5,6,7,8,10,41] (σ:=Nat) (λk f U=>f 42 = .int .i64 k/\k<=M/\B0 (D0 U (A5 vt)) U 22 vt (aP7 (λc=>(b9 p).takes (i:Int) (c:Int)) M k)/\o6 w3 U/\w4.heap.size<=U.heap.size) (λk=>M-k) 0 ?_ ?_
 .exact⟨rfl,ek1 _,a8,x4,ek6 _⟩
 rintro k f E ⟨e0,e1,e5,e6,e7,e8,bz,cu,_⟩ ⟨bd,dK,cj,Q,cZ⟩;have C:=az.trans Q;simp only[eH,simprocAttr,bd,cu];refine A8 (λhc=>?_) (λhc=>?_)
 .have ap:k<M:=by simpa using hc
  simp only[i4,simprocAttr,bd,e0,e1,bz];refine y4 (cO4 (i5 w) a p i k E ha (b7 C) hr hw hi (by rw[hM];exact Int.ofNat_lt.2 ap)) ?_;rintro u w6 ⟨hu,aA⟩;have b5:R (D0 w6 (A5 vt)) u ((b9 p).takes (i:Int) (k:Int)):=A6.mono (cJ1 (b7 C) aA λb o=>⟨eq5 (aN b o).2 cZ,aW5 (ej7 az.size (aN b o).1)⟩) hu;have ck:=(cj.ext aA).up (K8 aA (λ_ h=>h.elim) λ_ h=>.inl h) λb o=>G1 o;obtain⟨w7,s1,de,bV,dO⟩:=F9 (P:=prog) (t:=22) ck rfl (k:=k) (by rw[br4];exact ap) (x:=u) (y:=(b9 p).takes (i:Int) (k:Int)) b5 (F7 b5.isS) cJ bL;have a9:=de.up (K8 bV (λ_ h=>h) λ_ h=>.inl h) λb o=>G1 o;have cK:=ck.inS (k:=k) (by rw[br4];exact ap);rw[cW7 (T:=λc=>(b9 p).takes (i:Int) (c:Int))]at a9;have dN:=aA.size;simp only[i4,n9,A0,simprocAttr,bd,cK,s1];exact V1 (k+1) ⟨a9,p6.ext_of (Q.trans aA) bV λb o=>(aN b o).1,om⟩
 have am:M=k:=by simp at hc;omega
 subst am;have ca:=cj.rw_ (B4 _ _);have b6:=A6.mono (b7 (hG.ext.trans Q)) c3;have aL:=hG.more Q;obtain⟨es,d,aP,bS,Z,bf,bE⟩:=aL.map;have a5:=run_range_map (P:=prog) E 270 _ _ r es d Tryz.underlying270 aP;have cd:=o6.alloc E (.mapIter (some r) d #[] d);have bZ:RgI (E.alloc (.mapIter (some r) d #[] d)) E.heap.size r es d []:=⟨⟨d,ek6 _,em9 _ _⟩,((o6.alloc _ _).block _ (ej4.1 aP).1 id).trans aP,bf,bE,List.nodup_nil,dP⟩;generalize E.alloc (.mapIter (some r) d #[] d)=w6 at a5 cd bZ;have dp:r<E.heap.size:=(ej4.1 aP).1;have dk:kv.length=es.size:=by
  have:=el1 List.length bS;simpa using this.symm
 have Y:∀n,(b9 p).givers (i:Int) n≠[]↔n∈kv.map (·.1):=λn=>by
  have bK:df2 p i n=((b9 p).givers (i:Int) n).map λ(a:Nat)=>(a:Int):=rfl;constructor
  .intro h;cases e:P8 kv n with
   | none=>
    have:=aL.no n e;rw[bK,List.map_eq_nil_iff]at this;exact absurd this h
   | some v=>exact el2.2 ⟨_,df1 e,rfl⟩
  .intro h e;obtain⟨⟨m,v⟩,h1,rfl⟩:=el2.1 h;have:=(aL.row m v (cl3 Z h1)).2;rw[bK]at this;simp only at e;rw[e]at this;exact this rfl
 have dl:kv.length<=M*100:=by
  have h:=dh7 (b:=b9 p) (i:=(i:Int)) Z (λn hn=>(Y n).2 hn) λa ha=>(bi a ha).2;rw[K,ek2]at h;exact h
 simp only[i4,simprocAttr,e8,dk7,a5];have bj:E.heap.size≠r:=λe=>om
 refine A9 [0,1,5,7,10,54] (σ:=List Nat×Value) (λs f U=>f 6=s.2/\RgI U E.heap.size r es d s.1/\o6 E U/\B0 (i5 E) U 213 s.2 ((s.1.map (keyN kv)).flatMap (av8 (b9 p) (i:Int)))/\(∀b,A5 s.2 b->b≠E.heap.size)) (λs=>es.size-s.1.length) ([],.slice none 0 0) ?_ ?_
 .exact⟨e6,bZ,cd,B0.nil _ _ _,λb o=>absurd o D8⟩
 rintro⟨D,vo⟩ f7 w7 ⟨g0,g1,g5,g7,bA,bc,_⟩ ⟨h6,F,a7,aq,ay⟩;simp only at h6 F aq ay;rw[e0]at g0;rw[e1]at g1;rw[e5]at g5;rw[e7]at g7;rw[bz]at bA;have dI:D.length<=es.size:=by
  have:=I5 (m:=List.range es.size) F.dn λj hj=>en3.2 (F.dl j hj)
  rwa [en9]at this
 have a2:((D.map (keyN kv)).flatMap (av8 (b9 p) (i:Int))).length<=824240800:=by
  have h:=aW2 (l:=D.map (keyN kv)) (f:=av8 (b9 p) (i:Int)) (B:=M*M) λn _=>by
   have:=cR9 (b9 p) (i:Int) n
   rwa [K]at this
  rw[ek2]at h;have h1:D.length<=20200:=om
  have h2:M*M<=202*202:=Nat.mul_le_mul V V;have h3:D.length*(M*M)<=20200*(202*202):=Nat.mul_le_mul h1 h2;exact ej7 h (ej7 h3 dQ)
 rcases F.next (P:=prog) bj 0 with⟨bD,aQ⟩|⟨j,e,w8,cM,dL,aQ,ar,bW,bG⟩
 .simp only[i4,simprocAttr,bc,cK8,aQ,h6];refine y4 (cC7 aq om λs hs t ht h1 h2=>?_) ?_
  .obtain⟨n,_,hs⟩:=em2.1 hs;obtain⟨m,_,ht⟩:=em2.1 ht;exact cS0 a1 hs ht h1 h2
  rintro u9 w9 ⟨aR,cQ⟩;simp only[i4,simprocAttr,h6];refine o8 results148 ?_;simp only[B8,simprocAttr];have cO:(D.map (keyN kv)).Nodup:=by
   rw[List.Nodup,List.pairwise_map];refine List.Pairwise.imp_of_mem (fun{j q} hj hq bj e=>?_) F.dn;exact bj (dh6 Z (by have:=F.dl j hj;omega) (by have:=F.dl q hq;omega) e)
  have bm:=cy5 a0 (λa ha=>(bi a ha).1) cO λn hn=>by
   obtain⟨q,hq,cV⟩:=ep2.1 ((Y n).1 hn);refine el2.2 ⟨q,bD q (by rw[ek2]at hq;omega),?_⟩;rw[<-cV,er0,bi2 (ej0 (by simpa using hq))]
  rw[de9 a0 (λa ha=>(bi a ha).1) a1 bm]at aR;exact⟨aR.backN C,p6.ext_of (C.trans a7) cQ λb o=>ej7 C.size (C9 (aq.free o))⟩
 generalize hP:(D.map (keyN kv)).flatMap (av8 (b9 p) (i:Int))=bu at aq a2;obtain⟨⟨n,v⟩,hq,bF,bH⟩:∃q:B3×Value,kv[j]?=some q/\e.key=t8 q.1/\e.val=q.2:=by
  have h1:=el1 (λl=>l[j]?) bS;simp only[em8,eu9,cM,ep0]at h1;obtain⟨q,h2,h3⟩:=Option.map_eq_some_iff.1 h1.symm;exact⟨q,h2,(el1 Prod.fst h3).symm,(el1 Prod.snd h3).symm⟩
 simp only at bF bH;have bR:keyN kv j=n:=bi2 hq;obtain⟨cT,_⟩:=aL.row n v (cl3 Z (el0 hq));have ak:=bG w8 (p6.refl _);rw[bF,bH]at ak aQ;have S:o6 E w8:=p6.ext_of a7 bW λb o=>by subst o;exact ek6 _
 have bl:=aq.mod bW λb o h=>ay b o h;have ax:R (i5 E) v (((b9 p).givers (i:Int) n).map λ(a:Nat)=>(a:Int)):=cT.rw_ (b7 (hG.ext.trans Q));have bq:R (i5 w8) v (((b9 p).givers (i:Int) n).map λ(a:Nat)=>(a:Int)):=A6.mono (b7 S) ax;have b8:=A6.mono (b7 S) b6;have dH:D.length+1<=es.size:=by
  have:=I5 (m:=List.range es.size) ar.dn λq hq=>en3.2 (ar.dl q hq)
  rwa [en9,ej2,em3]at this
 simp only[i4,simprocAttr,bc,cK8,dk6,aQ,ak,g0,g1,g7];refine y4 (cQ4 a p i vp v ((b9 p).givers (i:Int) n) w8 (ha.mono (b7 (C.trans S))) hr hw hi b8 bq (bh5 _ _ _) (λA hA=>by have:=al8 _ _ _ A hA;rw[K]at this;rw[hM];exact Int.ofNat_lt.2 this)) ?_;rintro vs w9 ⟨⟨cl,ad,c0,a4⟩,aU⟩;rw[hM]at c0;simp only[hM]at a4;have b1:cl.length=M:=om
 have bo:∀c:Nat,c<M->E3 cl c=(av9 (b9 p) (i:Int) n c).map λ(f:Nat)=>(f:Int):=λc hc=>by
  obtain⟨g,h1,h2⟩:=a4 c (Int.ofNat_lt.2 hc);have e:(List.range ((b9 p).givers (i:Int) n).length).filter g=av9 (b9 p) (i:Int) n c:=by
   unfold av9;refine List.filter_congr λf hf=>?_;have bI:=en3.1 hf;have h3:=h2 f _ (ej0 bI);have h4:((b9 p).givers (i:Int) n).getD f 0=((b9 p).givers (i:Int) n)[f]:=by rw[List.getD,ej0 bI];rfl
   rw[h4,eu4];exact h3
  rw[h1,e]
 have cC:=ad.isS;have bX:=ad.vlen;rw[b1]at bX;have aR:=bl.ext aU;have a3:=ar.mod aU (λh=>h) (λh=>h);have di:E.heap.size<w9.heap.size:=by
  obtain⟨_,_,h⟩:=a3.cur;exact(ej4.1 h).1
 simp only[eH,simprocAttr,cC,bX];refine A9 [0,1,5,7,10,12,13,54,64,65] (σ:=Nat×Value) (λs f U=>f 66 = .int .i64 s.1/\f 6=s.2/\s.1<=M/\B0 (i5 E) U 213 s.2 (bu++(List.range s.1).flatMap (aO9 (b9 p) (i:Int) n))/\p6 (λb=>E.heap.size<=b/\b≠E.heap.size/\(b<w8.heap.size\/w9.heap.size<=b)) w9 U/\(∀b,A5 s.2 b->E.heap.size<=b/\b≠E.heap.size/\(b<w8.heap.size\/w9.heap.size<=b))) (λs=>M-s.1) (0,vo) ?_ ?_
 .simp only[B8,simprocAttr];exact⟨by first|rfl|trivial,h6,ek1 _,by rw[List.range_zero,List.flatMap_nil,em5];exact aR,p6.refl _,λb o=>⟨C9 (bl.free o),ay b o,.inl (bl.lt o)⟩⟩
 rintro⟨c,v3⟩ f9 ea ⟨k0,k1,k5,k7,ce,c4,c5,c6,c7,c8,_⟩ ⟨aJ,be,cE,ac,ab,X⟩;simp only at aJ be cE ac X;rw[g0]at k0;rw[g1]at k1;rw[g5]at k5;rw[g7]at k7;rw[bA]at ce;rw[bc]at c6;simp only[eH,simprocAttr,aJ,c8];refine A3 (λL=>?_) ?_;rotate_left
 .intro am;simp only[i4,simprocAttr];have bn:=a3.mod ab (λh=>h.2.1 rfl) (λh=>by have:=h.1;omega);have bs:=p6.ext_of (S.trans aU) ab λb o=>o.1;refine⟨(D++[j],v3),by simp only[ej2,em3];omega,be,bn,bs,?_,λb o=>(X b o).2.1⟩;simp only[];rw[em6,et0,hP,en8,List.map_nil,bR,es5,List.flatMap_nil,em5];have:av8 (b9 p) (i:Int) n=(List.range c).flatMap (aO9 (b9 p) (i:Int) n):=by unfold av8;rw[K,am]
  rw[this];exact ac
 obtain⟨ur,au,cF⟩:=R.row ad (k:=c) (dl9 om);rw[bo c L]at au;have cz:=ab.weaken (N:=λb=>b<w8.heap.size) λb o h=>by rcases h.2.2 with h|h<;>omega
 have bN:=ad.inS (k:=c) om;have bT:=J7 (P:=prog) (t:=45) cF (F3 cz) aj0;have cB:=au.isS;have bk:=au.vlen;rw[ek2]at bk;obtain⟨ut,c2,cG⟩:=R.row ca (cW6 (T:=λc=>(b9 p).takes (i:Int) (c:Int)) L);have bO:=ca.inS (k:=c) (by rw[br4];exact L);have cU:(bu++(List.range c).flatMap (aO9 (b9 p) (i:Int) n)).length<=824240800+202*202:=by
  rw[ej2];have h:=bF3 (b9 p) (i:Int) n c;rw[K]at h;have h2:c*M<=202*202:=Nat.mul_le_mul om V;exact Nat.add_le_add a2 (ej7 h h2)
 have aY:=bS0 (b9 p) (i:Int) n c;rw[K]at aY;have bJ:aO9 (b9 p) (i:Int) n c=(av9 (b9 p) (i:Int) n c).flatMap (ah7 (b9 p) (i:Int) n c):=rfl;have aZ:∀f∈av9 (b9 p) (i:Int) n c,f<((b9 p).givers (i:Int) n).length:=λf hf=>by
  unfold av9 at hf;exact en3.1 (el6.1 hf).1
 generalize av9 (b9 p) (i:Int) n c=fl at au bk aY bJ aZ;generalize cA:bu++(List.range c).flatMap (aO9 (b9 p) (i:Int) n)=ba at ac cU;simp only[i4,n9,A0,simprocAttr,aJ,c7,bN,bT,cB,bk];refine A9 [0,1,5,7,10,12,13,14,54,64,65,66,71,72] (σ:=Nat×Value) (λs f U=>f 73 = .int .i64 s.1/\f 6=s.2/\s.1<=fl.length/\B0 (i5 E) U 213 s.2 (ba++(fl.take s.1).flatMap (ah7 (b9 p) (i:Int) n c))/\p6 (λb=>E.heap.size<=b/\b≠E.heap.size/\(b<w8.heap.size\/w9.heap.size<=b)) w9 U/\(∀b,A5 s.2 b->E.heap.size<=b/\b≠E.heap.size/\(b<w8.heap.size\/w9.heap.size<=b))) (λs=>fl.length-s.1) (0,v3) ?_ ?_
 .simp only[B8,simprocAttr];exact⟨by first|rfl|trivial,be,ek1 _,by rw[et3,List.flatMap_nil,em5];exact ac,ab,X⟩
 rintro⟨q,v4⟩ dD aC ⟨l0,l1,l5,l7,cf,bt,cg,ch,dU,dV,dW,ci,da,db,_⟩ ⟨ah,aK,cW,O,I,G⟩;simp only at ah aK cW O G;rw[k5]at l5;rw[ce]at cf;rw[c4]at bt;rw[c5]at cg;rw[aJ]at ci;simp only[eH,simprocAttr,ah,db];refine A3 (λaa=>?_) ?_;rotate_left
 .intro am;rw[am,ek4]at O;simp only[eH,simprocAttr,ci];refine nx2 (c+1,v4) ⟨aK,om,?_,I,G⟩;simp only[];rw[eu5,et0,<-el9,cA,es5,List.flatMap_nil,em5,bJ];exact O
 have z:o6 E aC:=p6.ext_of (S.trans aU) I λb o=>o.1;have bC:=I.weaken (N:=λb=>b<w8.heap.size) λb o h=>by rcases h.2.2 with h|h<;>omega
 have av:R (i5 aC) ur (fl.map λ(f:Nat)=>(f:Int)):=A6.mono (F3 bC) au;have bM:=av.inS (k:=q) (by rw[ek2];exact aa);have an:=aI7 av (n7 _) (k:=q) (by rw[ek2];exact aa);rw[er0]at an;have bU:=J7 (P:=prog) (t:=22) cG (b7 z) X2;have al:=aZ _ (ek0 aa);have bp:=J9 (ah7 (b9 p) (i:Int) n c) fl aa;have dM:(ba++(fl.take q).flatMap (ah7 (b9 p) (i:Int) n c)).length<=824240800+202*202+202:=by
  rw[ej2];have h:=aW2 (l:=fl.take q) (f:=ah7 (b9 p) (i:Int) n c) (B:=1) λf _=>bF4 _ _ _ _ f;rw[ek3,es6]at h;omega
 generalize fl[q]=f at an al bp;have ae:R (i5 aC) v (((b9 p).givers (i:Int) n).map λ(a:Nat)=>(a:Int)):=A6.mono (b7 z) ax;have bP:=ae.inS (k:=f) (by rw[ek2];exact al);have ao:=aI7 ae (n7 _) (k:=f) (by rw[ek2];exact al);rw[er0]at ao;have cI:((b9 p).givers (i:Int) n).getD f 0=((b9 p).givers (i:Int) n)[f]:=by rw[List.getD,ej0 al];rfl
 have bB:=al8 _ _ _ _ (ek0 al);rw[K]at bB;have W:ah7 (b9 p) (i:Int) n c f=if((b9 p).takes (i:Int) (c:Int)).contains n then[⟨(F5 (d9 p) i).place ((((b9 p).givers (i:Int) n)[f]:Nat):Int),(F5 (d9 p) i).place (c:Int),n⟩]else[]:=by
  unfold ah7;rw[cI,aO]
 generalize((b9 p).givers (i:Int) n)[f]=A at ao bB W;have b4:=(b2 c L).1;have b3:((b9 p).takes (i:Int) (c:Int)).length<=1000000000:=ej7 (b2 c L).2 dQ;simp only[i4,n9,A0,simprocAttr,ah,da,bM,an,cf,ch,bO,bU,bt];refine F6 (al7 ut _ n aC (A6.mono (b7 z) c2) b3 b4) ?_;clear b3 b4;rcases ej1 (((b9 p).takes (i:Int) (c:Int)).contains n)with h|h;rotate_left
 .rw[h,if_neg dP]at W;simp only[eH,simprocAttr,h,ah];refine nx2 (q+1,v4) ⟨aK,om,?_,I,G⟩;simp only[];rw[bp,W,em5];exact O
 rw[h,if_pos rfl]at W;simp only[i4,n9,A0,simprocAttr,h,aK,l5,cg,bP,ao];refine y4 (ak9 aw _ p i x y (A:Int) aC (af.mono (b7 (C.trans z))) H.toWyOk ⟨om,om⟩) ?_;rintro _ df ⟨rfl,a6⟩;simp only[i4,simprocAttr,l5,ch];refine y4 (ak9 aw _ p i x y (c:Int) df (af.mono (b7 (C.trans (z.trans a6)))) H.toWyOk ⟨om,om⟩) ?_;rintro _ eb ⟨rfl,cc⟩;have J:=a6.trans cc;generalize(F5 (d9 p) i).place (A:Int)=s1 at W;generalize(F5 (d9 p) i).place (c:Int)=d1 at W;obtain⟨p1,v5,ec,p2,p3,p4,p5⟩:=push (P:=prog) (t:=210) (e:=210) dV3 rfl (O.ext J) (x:=.agg (p8.cells (⟨s1,d1,n⟩:Fw)).toArray) (y:=⟨s1,d1,n⟩) (cj6 _) om om (b7 (z.trans J));simp only[Value.cells]at p1 p2;have cy:=I.size;have cY:=J.size;simp only[eH,simprocAttr,ah,bt,db8,p1,p2];refine nx4 (q+1,v5) ⟨?_,(I.trans (p6.up J)).trans (p4.weaken λb _ o=>G b o),λb o=>?_⟩
 .simp only[];rw[bp,W,<-el9];exact p3
 .rcases p5 b o with h|h
  .exact G b h
  .exact⟨om,om,.inr om⟩
def bO8(a:Addr)(p:Pg)(i:Nat)(w:World)(ha:At (i5 w) a (b9 p))(hr:E6 p)(hw:C4 p<=1000000)(O:i<p.procs.length):
  y5 prog 141 #[.pointer (some a),.int .i64 i] w λu v=>(∃ui uo,u = .tuple #[ui,uo]/\B0 (i5 w) v 9 ui ((b9 p).slotsIn (i:Int))/\B0 (i5 w) v 9 uo ((b9 p).slotsOut (i:Int))/\(∀b,A5 ui b->¬A5 uo b)/\o6 w v):=by
 refine z6 [.pointer (some a),.int .i64 i] func141 rfl ?_;have F:(b9 p).slotsIn (i:Int)=Y5 (I8 (ah9 p) (i:Int)++p.procs[i].params.map (·.name)):=by
  unfold Bk.slotsIn;rw[U1 O];rfl
 have W:(b9 p).slotsOut (i:Int)=Y5 (I8 (L5 p) (i:Int)++[V8]):=rfl;obtain⟨sh,vw,vd,_,vi,vo,has,a7,a5,_,aj,ak,L,bd⟩:=ha.book rfl;obtain⟨_,_,_,_,_,_,af,_,_⟩:=has.sh;rw[N7]at af;obtain⟨vg,vp,a6,al,aT,be⟩:=af.pg;have lb:=L w (n7 _);have g:∀v,o6 w v->E2 (i5 w) (i5 v):=λv hx=>b7 hx;obtain⟨r,K,Y⟩:=(aW6 hr hw).row O;generalize I8 (ah9 p) (i:Int)=M at r K Y F;obtain⟨ui,aM,ay⟩:=R.row aj (show(b9 p).ins[i]?=some M from r);have Z:=aj.inS (k:=i) (show i<(ah9 p).length from(ej5.1 r).1);have aD:=J7 (P:=prog) (t:=22) ay (n7 _) X2;obtain⟨m,y,G⟩:=(aJ2 hr.may).row O;generalize I8 (L5 p) (i:Int)=D at m y G W;obtain⟨uo,aN,az⟩:=R.row ak (show(b9 p).outs[i]?=some D from m);have aa:=ak.inS (k:=i) (show i<(L5 p).length from(ej5.1 m).1);simp only[i4,n9,A0,M4,O8.val,simprocAttr,lb,Z,aD];refine y4 (aA3 ui M w aM om) ?_;rintro u2 Q ⟨aG,z⟩;have aQ:=L Q (g Q z);have aV:=aT Q (g Q z);have A:=al.at_ (i:=i) (x:=p.procs[i]) (ej0 O);have ab:=al.inS (k:=i) O;have aP:A6.sz Pr=5:=rfl;rw[aP]at A;obtain⟨bh,_,_,_,h,_,_,_,aU,_⟩:=A.pr;have aW:=aU Q (g Q z);have aJ:=V2 hr.may O;generalize p.procs[i].params=n at h aJ F;have au:=h.isS;have aF:=h.vlen;simp only[i4,n9,A0,M4,O8.val,simprocAttr,aQ,aV,ab,aW,au,aF];refine E8 [0,1,27,28] (σ:=Nat×Value) (λs f v=>f 29 = .int .i64 s.1/\f 4=s.2/\s.1<=n.length/\B0 (i5 w) v 9 s.2 (M++(n.take s.1).map (·.name))/\o6 w v) (λs=>n.length-s.1) (0,u2) ?_ ?_
 .simp only[B8,simprocAttr];exact⟨by first|rfl|trivial,trivial,ek1 _,by simpa using aG,z⟩
 rintro⟨j,u⟩ f N hk ⟨E,h4,aC,I,c⟩;simp only at E h4 aC I;simp only[em0,B8,simprocAttr]at hk;obtain⟨e0,e1,S,T,_⟩:=hk;simp only[i4,n9,A0,M4,O8.val,simprocAttr,E,S,T];refine A8 (λhc=>?_) (λhc=>?_)
 .have H:j<n.length:=by simpa using hc
  have aB:=h.inS H;obtain⟨sv,ag,ac⟩:=H1 (P:=prog) (t:=72) h (g N c) (ej0 H) bL2 bL7 bz0 aD4;rw[aD4]at ac;have ah:=aU0 (λq:Pa=>q.name) n H;generalize n[j]=pa at ag ah;obtain⟨d,wz,w4,av,aL,l,aw⟩:=aY2 (ag.mono (g N c)) (n7 _);obtain⟨aS,_⟩:=aw.pa;have l4:=aS w4 (n7 _);obtain⟨p1,u5,w5,p2,p3,p4,p5⟩:=pushS (e:=22) (I.ext l) pa.name (by rw[ej2,ek2,ek3];omega) (b7 (c.trans l));simp only[i4,n9,A0,M4,O8.val,simprocAttr,E,h4,S,T,aB,ac,av,aL,l4,p1,p2];refine⟨(j+1,u5),om,el1 _ (J2 j om),tt,om,?_,(I.ext l).ext2 (c.trans l) p4⟩;simp only[];rw[ah,<-el9];exact p3
 have aA:j=n.length:=by simp at hc;omega
 subst aA;rw[ek4]at I;have aR:=L N (g N c);have aE:=J7 (P:=prog) (t:=22) az (g N c) X2;simp only[i4,n9,A0,M4,O8.val,simprocAttr,e0,e1,aR,aa,aE];refine y4 (aA3 uo D N (A6.mono (g N c) aN) om) ?_;rintro u4 w4 ⟨J,l⟩;obtain⟨p1,u5,w5,p2,p3,p4,p5⟩:=pushS (e:=22) J V8 om (b7 l);have aY:(Instr.buildSlice 22 1 #[(0,.string ⟨#[36,114,101,116]⟩)]).run prog w4=_:=p1;have X:∀b,A5 u b->¬A5 u4 b:=λb U V=>by
  have:=I.lt U;have:=C9 (J.free V);omega
 have o:∀b,A5 u b->¬A5 u5 b:=λb U V=>by
  have:=I.lt U;have:=C9 (p3.free V);omega
 have B:=(I.ext l).mod p4 X;have aO:o6 w w5:=c.trans (J.ext2 l p4);simp only[i4,n9,A0,M4,O8.val,simprocAttr,aY,p2,h4];refine y4 (aq8 B (by rw[ej2,ek2];omega)) ?_;rintro u6 w6 ⟨aH,ad⟩;have C:=(p3.mod ad λb U V=>o b V U).back c;simp only[i4,n9,A0,M4,O8.val,simprocAttr];refine y4 (aq8 C (by rw[ej2,em3];omega)) ?_;rintro u7 w7 ⟨aI,ae⟩;simp only[i4,n9,A0,M4,O8.val,simprocAttr];refine U5 results141 ?_;simp only[B8,simprocAttr];rw[F,W];exact⟨u,u5,by rw[h4],aH.mod ae o,aI,o,C.ext2 (B.ext2 aO ad) ae⟩
def cB2(n:B3)(w:World):y5 prog 204 #[t8 n] w λu e=>(u = .bool (decide (n=V8))/\e=w):=by
 refine z6 [t8 n] func204 rfl ?_;have c:=λ(P:Program) (t:TypeId)=>cG6 (P:=P) (t:=t) (a:=n) (b:=V8);have d:t8 V8 = .string ⟨#[36,114,101,116]⟩:=rfl;simp only[d]at c;simp only[eH,simprocAttr,c];exact o8 results204 ⟨rfl,rfl⟩
def ci4(q:B3)(k d:Int)(n:B3):C1 prog 27 [(0,t8 q),(1,.int .i64 k),(2,.int .i64 d),(3,t8 n)]=some (.agg (p8.cells (⟨q,k,d,n⟩:Vx)).toArray):=by
 simp[C1,bW4,K7,Instr.fill,Value.cells,t8];rfl
def L0(a:Addr)(i:Int)(q:B3)(b c d e g f:Value):Array Value:=#[.pointer (some a),.int .i64 i,t8 q,b,c,d,e,g,f]
def M1(e:Nat)(T:TypeId)(a:Array Value)(q:B3)(k d:Int)(n:B3)(w:World)(hb:w.heap[e]?=some (.cells a T (0,0)))(m:a[2]?=some (t8 q)):
  y5 prog 142 #[.pointer (some ⟨e,0,none⟩),.int .i64 k,.int .i64 d,t8 n] w λu p=>(u = .agg (p8.cells (⟨q,k,d,n⟩:Vx)).toArray/\o6 w p):=by
 refine z6 [.pointer (some ⟨e,0,none⟩),.int .i64 k,.int .i64 d,t8 n] func142 rfl ?_;have g:p8.cells (⟨q,k,d,n⟩:Vx)=[t8 q,.int .i64 k,.int .i64 d,t8 n]:=rfl;obtain⟨h,j⟩:=aI8 (P:=prog) (w:=w) (T:=27) aV1 rfl (cs:=#[t8 q,.int .i64 k,.int .i64 d,t8 n]) (by rw[P5];rfl) (by simp[Value.oneCell',t8]);have b:=ci4 q k d n;rw[g]at b ⊢;have f:=λo=>((o6.alloc w o).block e (ej4.1 hb).1 id).trans hb;have l:=λo=>F4 (P:=prog) (t:=9) (i:=2) (u:=t8 q) (f o) m ao5;have c:=af6 (P:=prog) (T:=27) (em9 w (.cells #[t8 q,.int .i64 k,.int .i64 d,t8 n] 27)) aw3 aw6 ap5 (by rw[P5];rfl);simp only[eH,simprocAttr,h,l,b,j];refine O5 results142 (ad:=⟨w.heap.size,0,none⟩) (by simp only[B8,simprocAttr]) c ?_;exact⟨rfl,o6.alloc _ _⟩
def BM.rebase{α β:Type}[A6 α][A6 β]{H e:Hp}{w0 i w:World}{Z:Nat->Prop}{b:Nat}{f g TY:TypeId}{a:Value->Array Value}{c d:Value}{xs:List α}{ys:List β}(s:BM H w0 i w Z b f g TY a c d xs ys)(h:E2 e (D0 w (nB b c d Z))):BM e w0 i w Z b f g TY a c d xs ys:=
 ⟨s.ext,s.ge,s.cb,s.ox,s.oy,s.dx,s.dy,s.dz,s.zk,s.sz,h⟩
abbrev PV(H:Hp)(w0 w:World)(f:Nat)(a:Addr)(i:Int)(q:B3)(b c d e g:Value)(xs:List Vx):Prop:=
 BM (α:=Vx) (β:=Int) H w0 w0 w (λ_=>False) f 199 27 3 (λv=>L0 a i q b c d e v (.slice none 0 0)) g (.slice none 0 0) xs []
abbrev PE(H:Hp)(w0 w:World)(f:Nat)(a:Addr)(i:Int)(q:B3)(b c d e g:Value)(xs:List Eg):Prop:=
 BM (α:=Eg) (β:=Int) H w0 w0 w (λ_=>False) f 199 54 3 (λv=>L0 a i q b c d e (.slice none 0 0) v) g (.slice none 0 0) xs []
abbrev nP(a:Nat)(b:Value):Nat->Prop:=nB a b (.slice none 0 0) λ_=>False
def dD2:∃a,prog.info? 35=some a/\a.size=1:=av3 dq3 do9
def cm2:∃a,prog.info? 49=some a/\a.size=1:=av3 dG4 dF9
def aX7(H:Hp)(b:Nat)(a:Addr)(i:Int)(q:B3)(F G I J E:Value)(xs:List Vx)(k d:Int)(u:Value)(g:List B3)(w0 w:World)(s:PV H w0 w b a i q F G I J E xs)(L:R (D0 w (nP b E)) u g)(hl:xs.length+g.length<=1000000):
  y5 prog 143 #[.pointer (some ⟨b,0,none⟩),.int .i64 k,.int .i64 d,u] w λr c=>(∃W,PV (D0 w (nP b E)) w0 c b a i q F G I J W (xs++g.map λn=>⟨q,k,d,n⟩)):=by
 refine z6 [.pointer (some ⟨b,0,none⟩),.int .i64 k,.int .i64 d,u] func143 rfl ?_;obtain⟨il,Q,A⟩:=dD2;simp only[eH,simprocAttr,L.isS,L.vlen];refine A9 [0,1,2,10,11] (σ:=Nat×Value) (λt f c=>f 12 = .int .i64 t.1/\t.1<=g.length/\PV (D0 w (nP b E)) w0 c b a i q F G I J t.2 (xs++(g.take t.1).map λn=>⟨q,k,d,n⟩)) (λt=>g.length-t.1) (0,E) ?_ ?_
 .exact⟨rfl,ek1 _,by simpa using s.rebase (n7 _)⟩
 clear s;rintro⟨j,v⟩ f z ⟨e0,Y,Z,M,N,_⟩ ⟨l,T,s⟩;simp only at l T s;simp only[eH,simprocAttr,l,N];refine A3 (λo=>?_) ?_;rotate_left
 .rintro rfl;rw[ek4]at s;simp only[i4,simprocAttr];refine bk5 results143 ?_;exact⟨v,s⟩
 have S:=L.inS o;have B:=ldS L s.hb o;have C:=aU0 (λn:B3=>(⟨q,k,d,n⟩:Vx)) g o;have U:(xs++(g.take j).map λn=>(⟨q,k,d,n⟩:Vx)).length+1<=1000000:=by rw[ej2,ek2,ek3];omega
 generalize g[j]=n at B C;generalize V:xs++(g.take j).map (λn=>(⟨q,k,d,n⟩:Vx))=ys at s U;have D:=s.more (o6.drew z);have O:∀c,p6 (A5 v) z.drew c->c.heap[b]?=some (.cells (L0 a i q F G I J v (.slice none 0 0)) 199 (0,0)):=λc hm=>(hm.block b (ej4.1 D.cb).1 λh=>(D.dx b h).2.1 rfl).trans D.cb;have k7:∀K f d p,F8 prog (λc=>p6 (A5 v) z.drew c) (Instr.loadAt 35 (.pointer (some ⟨b,7,none⟩))) K f d p=K (C5 f d v) p:=λK f d p=>B7 (w0:=z.drew) (p6.refl _) λc h=>F4 (i:=7) (u:=v) (O c h) rfl Y6;simp only[i4,n9,A0,simprocAttr,l,M,S,B];refine C0 (λc=>p6 (A5 v) z.drew c) 12 (A7 [0,1,2,3,4,5,6,7,8,9,10,11]) ?_;simp only[D7,A7,i4,n9,simprocAttr,e0,Y,Z,k7];refine y4 (M1 b _ _ q k d n z.drew D.cb rfl) ?_;rintro _ w3 ⟨rfl,m⟩;refine⟨p6.up m,?_⟩;have s3:=D.more m;obtain⟨p1,X,w4,w5,p2,p3,s5,p4⟩:=s3.push (P:=prog) (e:=35) aD0 rfl (x:=.agg (p8.cells (⟨q,k,d,n⟩:Vx)).toArray) (y:=⟨q,k,d,n⟩) ((p8.iff_ _ _ _).2 rfl) om om (ix:=7) (by simp[L0]) (λv X=>by simp[L0]) Q A;simp only[fd,simprocAttr,p1,p2,G0];refine⟨(p6.up m).trans (p6.up (o6.alloc _ _)),(p6.up m).trans p4,?_⟩;simp only[eH,simprocAttr,l,p3];refine V1 (j+1,X) ?_;simp only[];rw[C,<-el9,V];exact s5
def bD2(x y:Vx)(k:Int):C1 prog 54 [(0,.agg (p8.cells x).toArray),(1,.agg (p8.cells y).toArray),(2,.int .i64 k)]=some (.agg (p8.cells (⟨x,y,k⟩:Eg)).toArray):=by
 have a:∀x:Vx,p8.cells x=[t8 x.proc,.int .i64 x.kind,.int .i64 x.id,t8 x.slot]:=λ_=>rfl;have b:p8.cells (⟨x,y,k⟩:Eg)=[t8 x.proc,.int .i64 x.kind,.int .i64 x.id,t8 x.slot,t8 y.proc,.int .i64 y.kind,.int .i64 y.id,t8 y.slot,.int .i64 k]:=rfl;rw[a,a,b];simp[C1,dX1,K7,Instr.fill,Value.cells,t8]
def aq6(H:Hp)(l:Nat)(a:Addr)(i:Int)(q:B3)(A B C D g:Value)(xs:List Eg)(x y:Vx)(k:Int)(w0 w:World)(s:PE H w0 w l a i q A B C D g xs)(hl:xs.length<=1000000000):
  y5 prog 147 #[.pointer (some ⟨l,0,none⟩),.agg (p8.cells x).toArray,.agg (p8.cells y).toArray,.int .i64 k] w λr c=>(∃O,PE H w0 c l a i q A B C D O (xs++[⟨x,y,k⟩])):=by
 refine z6 [.pointer (some ⟨l,0,none⟩),.agg (p8.cells x).toArray,.agg (p8.cells y).toArray,.int .i64 k] func147 rfl ?_;obtain⟨il,L,p⟩:=cm2;obtain⟨a1,Q,F,N,n⟩:=aL2 (w:=w) (A5 g) (SV.ofN (i5 w) x) λb E=>s.ox.lt E;have R:=s.more N;obtain⟨a2,j,G,t,o⟩:=aL2 (w:=Q) (A5 g) (SV.ofN (i5 Q) y) λb E=>R.ox.lt E;have z:=(R.more t).more (o6.drew j);have J:∀c,p6 (A5 g) j.drew c->c.heap[l]?=some (.cells (L0 a i q A B C D (.slice none 0 0) g) 199 (0,0)):=λc hm=>(hm.block l (ej4.1 z.cb).1 λh=>(z.dx l h).2.1 rfl).trans z.cb;have T:∀K f d m,F8 prog (λc=>p6 (A5 g) j.drew c) (Instr.loadAt 49 (.pointer (some ⟨l,8,none⟩))) K f d m=K (C5 f d g) m:=λK f d m=>B7 (w0:=j.drew) (p6.refl _) λc h=>F4 (i:=8) (u:=g) (J c h) rfl bm3;have Z:=(L8.vx_v (SV.ofN (i5 w) x) n).2 (λc=>p6 (A5 g) j.drew c) j.drew (p6.refl _) λc h=>F3 ((p6.up (M:=A5 g) (t.trans (o6.drew j))).trans h);have t2:=(L8.vx_v (SV.ofN (i5 Q) y) o).2 (λc=>p6 (A5 g) j.drew c) j.drew (p6.refl _) λc h=>F3 ((p6.up (M:=A5 g) (o6.drew j)).trans h);have I:=bD2 x y k;obtain⟨U,S,w4,w5,V,W,Y,X⟩:=z.push (P:=prog) (e:=49) cs4 rfl (x:=.agg (p8.cells (⟨x,y,k⟩:Eg)).toArray) (y:=⟨x,y,k⟩) ((p8.iff_ _ _ _).2 rfl) om om (ix:=8) (by simp[L0]) (λv S=>by simp[L0]) L p;simp only[eH,simprocAttr,F,G];refine C0 (λc=>p6 (A5 g) j.drew c) 11 (A7 [0,1,2,3,4,5,6,7,8,9,10]) ?_;simp only[D7,A7,i4,n9,simprocAttr,T,Z,t2,I,U,V,G0];refine⟨p6.up (o6.alloc _ _),X,?_⟩;simp only[i4,simprocAttr,W];refine bk5 results147 ?_;exact⟨S,Y⟩
def ed7:ar7 prog 204=true:=kr
instance:p8 B3:=⟨λs=>[t8 s],λ_ _ _=>er4⟩
def bG5{α:Type}(p:α->Bool):∀(l:List α) (i:Nat),ag3 p i l ≠ -1->∃k,ag3 p i l=((i+k:Nat):Int)/\(∃x,l[k]?=some x/\p x=true)/\∀j y,j<k->l[j]?=some y->p y=false
 | [],i,h=>absurd rfl h
 | x::l,i,h=>by
  rw[ag3]at h ⊢;cases hp:p x
  .rw[hp,if_neg dP]at h;rw[if_neg dP];obtain⟨k,b,⟨y,c,d⟩,e⟩:=bG5 p l (i+1) h;refine⟨k+1,by rw[b];congr 1;omega,⟨y,by simpa using c,d⟩,λj z f a=>?_⟩;cases j with
   | zero=>
    obtain rfl:x=z:=by simpa using a
    exact hp
   | succ j=>exact e j z om (by simpa using a)
  .rw[if_pos rfl];exact⟨0,dP,⟨x,rfl,hp⟩,λj y f=>om⟩
def aS7{α:Type}(p:α->Bool):∀(l:List α),(∀(j:Nat) y,l[j]?=some y->p y=true)->l.filter p=l
 | [],_=>rfl
 | x::l,h=>by
  rw[List.filter_cons,if_pos (h 0 x rfl),aS7 p l λj y a=>h (j+1) y (by simpa using a)]
def dR6:∃a,prog.info? 9=some a/\a.size=1:=av3 dY0 dX6
def de0{h:Hp}{w:World}{v:Value}{xs:List B3}(D:B0 h w 9 v xs)(hl:xs.length<=1000000)(hh:E2 h (i5 w)):
  Calls prog 203 #[v,.func (.func 204) #[] #[]] w λe o=>∃u,e = .returned u/\(B0 h o 9 u (xs.filter λn=>!decide (n=V8))/\p6 (A5 v) w o/\∀b,A5 u b->A5 v b):=by
 refine z6 [v,.func (.func 204) #[] #[]] func203 rfl ?_;have hS:=D.isS;have hn:=D.vlen;have az:=D.vcap;obtain⟨il,X,H⟩:=dR6;have a:∀(x:B3) (o:World),Calls prog 204 ([t8 x]++(#[]:Array Value).toList).toArray o λe R=>∃u,e = .returned u/\(u = .bool (decide (x=V8))/\o6 o R):=λx o=>(cB2 x o).mono λe R ⟨u,h1,h2,h3⟩=>⟨u,h1,h2,by rw[h3];exact p6.refl _⟩;generalize hP:(λn:B3=>decide (n=V8))=pred at a;have U:∀n:B3,decide (n=V8)=pred n:=λn=>by rw[<-hP]
 simp only[U]at a ⊢;simp only[eH,simprocAttr];refine B6 (aR1 pred 204 #[] v xs w ed7 (D.rw_ hh) om λx o _ _=>a x o) (λw1 r=>?_);rcases ej1 (decide (ag3 pred 0 xs = -1))with hq|hq
 .have e:=ej3 hq;simp only[eH,simprocAttr,hq];refine o8 results203 ?_;simp only[B8,simprocAttr];have ae:xs.any pred=false:=by rw[<-aI3 pred xs 0,e];rfl
  rw[aS7 _ _ λj y C=>by
   have:=List.any_eq_false.1 ae y (el0 C);simpa using this]
  exact⟨D.ext r,p6.up r,λb hb=>hb⟩
 obtain⟨k,q,⟨xk,ag,af⟩,G⟩:=bG5 pred xs 0 (ej6 hq);rw[en0]at q;generalize ag3 pred 0 xs=z at hq q ⊢;obtain⟨ac,rfl⟩:=ej5.1 ag;have ab:IntKind.i64.wrap (z+1)=((k+1:Nat):Int):=by rw[q];exact J2 k
 have O:(xs.take (k+1)).filter (λn=>!pred n)=xs.take k:=by
  rw[as9 _ xs ac,af,if_neg dP,em5];refine aS7 _ _ λj y C=>?_;rw[et6]at C;split at C
  .rename_i Z;rw[G j y Z C];rfl
  .cases C
 simp only[eH,simprocAttr,hq,ab];refine A9 [0,1] (σ:=Nat×Nat×List B3) (λs f o=>f 6 = .int .i64 s.1/\f 5 = .int .i64 s.2.1/\s.1<=xs.length/\s.2.1<s.1/\s.2.2.length=xs.length/\B0 h o 9 v s.2.2/\(∀m,s.1<=m->s.2.2[m]?=xs[m]?)/\s.2.2.take s.2.1=(xs.take s.1).filter (λn=>!pred n)/\p6 (A5 v) w o) (λs=>xs.length-s.1) (k+1,k,xs) ?_ ?_
 .simp only[B8,simprocAttr];exact⟨tt,by rw[q],om,om,tt,D.ext r,λ_ _=>tt,O.symm,p6.up r⟩
 rintro⟨j,c,T⟩ f w2 ⟨e0,e1,_⟩ ⟨E,S,aa,V,A,g,l,d,L⟩;simp only at E S aa V A g l d;simp only[eH,simprocAttr,E,e0,hS,hn];refine A3 (λK=>?_) ?_
 .have Q:T[j]?=some xs[j]:=by rw[l j (ek6 _),ej0 K]
  have Y:=g.inS (k:=j) om;have J:(Instr.loadAt 9 (.pointer (some (G8 v j)))).run prog w2 = .ok (t8 xs[j]) w2:=E1 g Q ao5;have p:=as9 (λn=>!pred n) xs K;generalize xs[j]=n at J Q p;simp only[i4,n9,A0,simprocAttr,E,e0,e1,Y,J,er6];refine B6 (a n w2) (λw3 B=>?_);have M:p6 (A5 v) w w3:=L.trans (p6.up B);rcases ej1 (pred n)with hp|hp
  .rw[hp,if_neg dP,em5]at p;simp only[eH,simprocAttr,hp,E];refine nx2 (j+1,c,T) ⟨S,so,so,A,g.ext B,λm hm=>l m (by simp only at hm;omega),?_,M⟩;simp only[];rw[d,p]
  .rw[hp,if_pos dP]at p;have I:=g.inS (k:=c) om;obtain⟨w4,q1,q2,q3,_⟩:=F9 (P:=prog) (t:=9) (g.ext B) rfl (k:=c) om (x:=t8 n) (y:=n) rfl rfl X H;simp only[i4,n9,A0,simprocAttr,hp,E,S,e0,I,q1];refine nx5 (j+1,c+1,T.set c n) ⟨by simp only[eq3];exact A,q2,λm hm=>?_,?_,M.trans q3⟩
   .simp only at hm ⊢;rw[es2 om];exact l m om
   .simp only[];have W:c<(T.set c n).length:=by rw[eq3];omega
    rw[ej8 W,List.getElem_set_self,List.take_set_of_le (ek6 _),d,p]
 .rintro rfl;rw[ek4]at d;have c3:decide ((c:Int)<=(xs.length:Int))=true:=by simp;omega
  have c4:decide ((c:Int)<=(vcap v:Int))=true:=by simp;omega
  have c5:decide ((xs.length:Int)<=(vcap v:Int))=true:=by simp;omega
  obtain⟨w6,e6,N,ad,F⟩:=br0 (P:=prog) (t:=22) (ty:=0) g rfl dY0 rfl (by simp[Value.cells,Value.oneCell']) (i:=c) om;have hz:A6.sz B3=1:=rfl;rw[A,hz]at e6;rw[hz]at N F;simp only[i4,n9,M4,simprocAttr,bI2,S,e0,hS,hn,c3,c4,c5,e6];exact o8 results203 ⟨by rw[<-d];exact N,L.trans ad,F⟩
def cX1(z:Nat)(T:TypeId)(y:Array Value)(a:Addr)(p:Pg)(vs:Value)(s:St)(c:Nat)(w:World)(hb:w.heap[z]?=some (.cells y T (0,0)))(M:y[0]?=some (.pointer (some a)))(V:At (i5 w) a (b9 p))(O:E6 p)(hw:C4 p<=1000000)(hv:SV (i5 w) vs s)(G:aF7 p s c):
  y5 prog 144 #[.pointer (some ⟨z,0,none⟩),vs] w λu m=>(∃x F,u = .tuple #[x,F]/\B0 (i5 w) m 9 x ((b9 p).slotsIn (c:Int))/\B0 (i5 w) m 9 F ((b9 p).callOut s)/\(∀b,A5 x b->¬A5 F b)/\o6 w m):=by
 refine z6 [.pointer (some ⟨z,0,none⟩),vs] func144 rfl ?_;have U:(b9 p).callOut s=if s.name=e0 then((b9 p).slotsOut (c:Int)).filter λn=>!decide (n=V8)else(b9 p).slotsOut (c:Int):=by
  have e:(b9 p).s.pr s.proc=(c:Int):=G.pr;unfold Bk.callOut;rw[e]
 have B:((b9 p).slotsOut (c:Int)).length<=1000000:=by
  have j:(b9 p).slotsOut (c:Int)=Y5 (I8 (L5 p) (c:Int)++[V8]):=rfl;have:=((aJ2 O.may).row G.lt).2.2;rw[j,aa0,ej2,em3];omega
 obtain⟨d,o,J,Q,A⟩:=ax0 hv (n7 _);obtain⟨Y,P,_,S⟩:=A.st_v;obtain⟨_,_,_,_,_,_,_,_,_,R,_⟩:=A.st;have k:=Q.trans (o6.drew o);have X:∀K f d v,F8 prog (λm=>o6 o.drew m) (Instr.loadAt 87 (.pointer (some ⟨z,0,none⟩))) K f d v=K (C5 f d (.pointer (some a))) v:=λK f d v=>B7 (w0:=o.drew) (p6.refl _) λm h=>F4 (i:=0) (((k.trans h).block z (ej4.1 hb).1 id).trans hb) M aU9;have Z:=S (λm=>o6 o.drew m) o.drew (p6.refl _) λm h=>b7 ((o6.drew o).trans h);simp only[eH,simprocAttr,J];refine C0 (λm=>o6 o.drew m) 15 (A7 [0,1,2,3,4,5,6,7,8,9,10,11,12,13,14]) ?_;simp only[D7,A7,i4,n9,simprocAttr,X,Z];refine B6 (az5 a (b9 p) p Y s o.drew (V.mono (b7 k)) rfl O.may (P.mono (b7 (o6.drew o)))) (λw2 q=>⟨q,?_⟩);rw[G.pr];have g:=k.trans q;simp only[fc,simprocAttr];refine y4 (bO8 a p c w2 (V.mono (b7 g)) O hw G.lt) ?_;rintro _ w3 ⟨x,F,rfl,D,t,r,l⟩;refine⟨q.trans l,?_⟩;have E:=g.trans l;have W:=R w3 (b7 ((o6.drew o).trans (q.trans l)));rcases ej1 (decide (s.name=ofA #[]))with j|j
 .simp only[fd,simprocAttr,W,j];have H:s.name=e0:=ej3 j;refine y4 (de0 t B (b7 l)) ?_;rintro u4 w4 ⟨N,C,L⟩;simp only[i4,simprocAttr];refine U5 results144 ?_;simp only[B8,simprocAttr];rw[U,if_pos H];exact⟨x,u4,tt,(D.mod C λb j I=>r b j I).back g,N.back g,λb j I=>r b j (L b I),g.trans (t.ext2 l C)⟩
 .simp only[fd,simprocAttr,W,j];have H:s.name≠e0:=ej6 j;refine U5 results144 ?_;simp only[B8,simprocAttr];rw[U,if_neg H];exact⟨x,F,tt,D.back g,t.back g,r,E⟩
def ci3(a:Addr)(i:Int)(q:B3)(b c d e:Value):C1 prog 199 [(0,.pointer (some a)),(1,.int .i64 i),(2,.agg #[t8 q,b,c,d,e])]=some (.agg (L0 a i q b c d e (.slice none 0 0) (.slice none 0 0))):=by
 unfold L0;simp[C1,dL1,K7,Instr.fill,Value.cells,t8]
def PV.new{w d:World}(a:Addr)(i:Int)(q:B3)(f g j k:Value)(l:o6 (w.alloc (.cells (L0 a i q f g j k (.slice none 0 0) (.slice none 0 0)) 199)) d):
  PV (D0 d (nP w.heap.size (.slice none 0 0))) w d w.heap.size a i q f g j k (.slice none 0 0) []/\PE (D0 d (nP w.heap.size (.slice none 0 0))) w d w.heap.size a i q f g j k (.slice none 0 0) []:=by
 have c:o6 w d:=(o6.alloc _ _).trans l;have e:d.heap[w.heap.size]?=some (.cells (L0 a i q f g j k (.slice none 0 0) (.slice none 0 0)) 199 (0,0)):=(l.block _ dP id).trans (em9 w _);exact⟨⟨c,ek6 _,e,B0.nil _ _ _,B0.nil _ _ _,λb h=>absurd h D8,λb h=>absurd h D8,λb h=>h.elim,λb h=>h.elim,c.size,n7 _⟩,
  ⟨c,ek6 _,e,B0.nil _ _ _,B0.nil _ _ _,λb h=>absurd h D8,λb h=>absurd h D8,λb h=>h.elim,λb h=>h.elim,c.size,n7 _⟩⟩
def cK3{w a:World}(d:o6 w a):E2 (i5 w) (D0 a (nP w.heap.size (.slice none 0 0))):=aW4 d λb c=>by
 rcases c with h|h|h|h
 .rw[h];exact ek6 _
 .exact absurd h D8
 .exact absurd h D8
 .exact h.elim
def dj3{w c d:World}(f:w.heap.size<c.heap.size){α:Type}[O8 α]{T:TypeId}{u:Value}{l:List α}(a:B0 (i5 c) d T u l):R (D0 d (nP w.heap.size (.slice none 0 0))) u l:=
 a.flatR λb e=>E4 λh=>by
  have:=C9 (a.free e);rcases h with h|h|h|h
  .omega
  .exact absurd h D8
  .exact absurd h D8
  .exact h.elim
def au2{p:Pg}(b:E6 p)(hw:C4 p<=1000000){i:Nat}(a:i<p.procs.length):((b9 p).slotsIn (i:Int)).length<=33:=by
 have c:=((aW6 b hw).row a).2.2;have d:=V2 b.may a;unfold Bk.slotsIn;rw[U1 a,aa0,ej2,ek2];have e:(b9 p).ins=ah9 p:=rfl;rw[e];omega
def aN9{p:Pg}(b:E6 p){i:Nat}(a:i<p.procs.length):((b9 p).slotsOut (i:Int)).length<=26:=by
 have c:=((aJ2 b.may).row a).2.2;have e:(b9 p).slotsOut (i:Int)=Y5 (I8 (L5 p) (i:Int)++[V8]):=rfl;rw[e,aa0,ej2,em3];omega
def bu8{p:Pg}(d:E6 p){s:St}{c:Nat}(b:aF7 p s c):((b9 p).callOut s).length<=26:=by
 have a:=aN9 d b.lt;have e:(b9 p).s.pr s.proc=(c:Int):=b.pr;unfold Bk.callOut;rw[e];split
 .exact ej7 (el8 _ _) a
 .exact a
def ab7(p:Pg)(q:B3)(it:It):List Vx:=[⟨q,2,it.s.id,e0⟩]++if it.s.kind=4 then(((b9 p).slotsIn ((b9 p).s.pr it.s.proc)).map λn=>(⟨q,5,it.s.id,n⟩:Vx))++((b9 p).callOut it.s).map λn=>(⟨q,6,it.s.id,n⟩:Vx)else[]
def bz2{p:Pg}(d:E6 p)(hw:C4 p<=1000000)(q:B3){it:It}(b:it∈(d9 p).l):(ab7 p q it).length<=100:=by
 unfold ab7;rw[ej2,em3];split
 .rename_i f;obtain⟨c,a⟩:=aa5 (d.fits it b f);have e:(b9 p).s.pr it.s.proc=(c:Int):=a.pr;have g:=au2 d hw a.lt;have h:=bu8 d a;rw[e,ej2,ek2,ek2];omega
 .simp
def dk2{p:Pg}{i x y:Nat}(b:az7 p i x y){it:It}(a:it∈(d9 p).of i):it∈(d9 p).l:=by
 rw[b.ok.of_]at a;exact er2 (ev1 a)
def bf7(a:Addr)(p:Pg)(i:Nat)(w:World)(ha:At (i5 w) a (b9 p))(T:E6 p)(hw:C4 p<=1000000)(hi:i<p.procs.length):
  y5 prog 86 #[.pointer (some a),.int .i64 i] w λu j=>(B0 (i5 w) j 27 u ((b9 p).verts (i:Int))/\o6 w j):=by
 refine z6 [.pointer (some a),.int .i64 i] func86 rfl ?_;obtain⟨il,aJ,ae⟩:=dD2;obtain⟨x,pt⟩:=K9 T.may hw i hi;have bP:=J8 T.may;obtain⟨sh,vw,vd,_,vi,vo,has,b4,b0,_,b2,b3,aZ,cc⟩:=ha.book rfl;obtain⟨_,_,_,_,_,_,aO,_,_⟩:=has.sh;rw[N7]at aO;obtain⟨vg,vp,b1,aS,bA,cd⟩:=aO.pg;have lb:=aZ w (n7 _);have lp:=bA w (n7 _);have hF:(b9 p).vert0 (i:Int)=([⟨p.procs[i].name,1,0,e0⟩]++((b9 p).slotsIn (i:Int)).map λn=>(⟨p.procs[i].name,3,0,n⟩:Vx))++(((b9 p).slotsOut (i:Int)).map λn=>(⟨p.procs[i].name,4,0,n⟩:Vx))++((d9 p).of i).flatMap (ab7 p p.procs[i].name):=by
  unfold Bk.vert0;rw[U1 hi];rfl
 have bX:=au2 T hw hi;have bY:=aN9 T hi;have ak:∀it∈(d9 p).of i,(ab7 p p.procs[i].name it).length<=100:=λit am=>bz2 T hw _ (dk2 pt am);have hV:∀it,ab7 p p.procs[i].name it=[⟨p.procs[i].name,2,it.s.id,e0⟩]++if it.s.kind=4 then(((b9 p).slotsIn ((b9 p).s.pr it.s.proc)).map λn=>(⟨p.procs[i].name,5,it.s.id,n⟩:Vx))++((b9 p).callOut it.s).map λn=>(⟨p.procs[i].name,6,it.s.id,n⟩:Vx)else[]:=λit=>rfl;have I:∀it∈(d9 p).of i,it.s.kind=4->∃c,aF7 p it.s c:=λit am h4=>aa5 (T.fits it (dk2 pt am) h4);have an:((d9 p).of i).length<=200:=by
  rw[pt.ok.of_,eo9,ek3];omega
 have X:=aS.inS hi;obtain⟨sv,Q,s⟩:=H1 (P:=prog) (t:=68) aS (n7 _) (ej0 hi) aD3 aD5 aw4 U0;rw[U0]at s;obtain⟨cs,rfl,E,F,G,H,rfl,_⟩:=Q;generalize p.procs[i].name=q at hF hV ak s;have bm:(Instr.box 199 (.agg (L0 a i q E F G H (.slice none 0 0) (.slice none 0 0)))).run prog w = .ok (.pointer (some ⟨w.heap.size,0,none⟩)) (w.alloc (.cells (L0 a i q E F G H (.slice none 0 0) (.slice none 0 0)) 199)):=rfl;simp only[i4,n9,A0,simprocAttr,lb,lp,X,s,ci3 a (i:Int) q E F G H,bm];have ax:=o6.alloc w (.cells (L0 a i q E F G H (.slice none 0 0) (.slice none 0 0)) 199);have R:w.heap.size<(w.alloc (.cells (L0 a i q E F G H (.slice none 0 0) (.slice none 0 0)) 199)).heap.size:=dP
 generalize bv:w.alloc (.cells (L0 a i q E F G H (.slice none 0 0) (.slice none 0 0)) 199)=w1 at ax R;refine y4 (bO8 a p i w1 (ha.mono (b7 ax)) T hw hi) ?_;rintro _ w2 ⟨ui,uo,rfl,br,bs,bW,aw⟩;have aT:=ax.trans aw;rw[<-bv]at aw;have s2:=(PV.new a i q E F G H aw).1;have aq:=dj3 R br;have ar:=dj3 R bs;have g:=cK3 aT;generalize bZ:w.heap.size=m at s2 aq ar g;generalize bV:D0 w2 (nP m (.slice none 0 0))=H0 at s2 aq ar g;have s3:=s2.more (o6.drew w2);have aH:∀j,p6 (λ_=>False) w2.drew j->j.heap[m]?=some (.cells (L0 a i q E F G H (.slice none 0 0) (.slice none 0 0)) 199 (0,0)):=λj hm=>(hm.block m (ej4.1 s3.cb).1 id).trans s3.cb;have k7:∀K f d D,F8 prog (λj=>p6 (λ_=>False) w2.drew j) (Instr.loadAt 35 (.pointer (some ⟨m,7,none⟩))) K f d D=K (C5 f d (.slice none 0 0)) D:=λK f d D=>B7 (w0:=w2.drew) (p6.refl _) λj h=>F4 (i:=7) (u:=.slice none 0 0) (aH j h) rfl Y6;simp only[i4,simprocAttr];refine C0 (λj=>p6 (λ_=>False) w2.drew j) 9 (A7 [0,1,2,3,4,5,6,7,8]) ?_;have bt:Value.string {data:=#[]}=t8 e0:=rfl;simp only[D7,A7,i4,n9,simprocAttr,k7,bt];refine y4 (M1 m _ _ q 1 0 e0 w2.drew s3.cb rfl) ?_;rintro _ w3 ⟨rfl,Z⟩;refine⟨Z,?_⟩;have s4:=s3.more Z;obtain⟨p1,v5,w4,w5,p2,p3,s5,p4⟩:=s4.push (P:=prog) (e:=35) aD0 rfl (x:=.agg (p8.cells (⟨q,1,0,e0⟩:Vx)).toArray) (y:=⟨q,1,0,e0⟩) ((p8.iff_ _ _ _).2 rfl) dP dP (ix:=7) (by simp[L0]) (λv v'=>by simp[L0]) aJ ae;have bF:p6 (λ_=>False) w3 w4:=p4.weaken λb _ V=>D8 V;simp only[fd,simprocAttr,p1,p2,G0];refine⟨Z.trans (o6.alloc _ _),Z.trans bF,?_⟩;simp only[i4,simprocAttr,p3];simp only[er6]at s5;have aQ:=A6.mono s5.base aq;refine y4 (aX7 H0 m a i q E F G H v5 _ 3 0 ui _ w w5 s5 aQ (by rw[em3];omega)) ?_;rintro r6 w6 ⟨v6,s6⟩;have s6:=s6.rebase (p7 s5.base s6.base);have aR:=A6.mono s6.base ar;simp only[i4,simprocAttr];refine y4 (aX7 H0 m a i q E F G H v6 _ 4 0 uo _ w w6 s6 aR (by rw[ej2,em3,ek2];omega)) ?_;rintro r7 w7 ⟨v7,s7⟩;have s7:=s7.rebase (p7 s6.base s7.base);have aG:E2 (i5 w) (i5 w7):=p7 g s7.hb;simp only[eH,simprocAttr,aZ w7 aG];refine y4 (aJ6 (i5 w) sh (d9 p) i x _ w7 has aG pt.ok) ?_;rintro ul w8 ⟨S,bw⟩;have s8:=s7.more bw;have ao:(([(⟨q,1,0,e0⟩:Vx)]++((b9 p).slotsIn (i:Int)).map λn=>(⟨q,3,0,n⟩:Vx))++(((b9 p).slotsOut (i:Int)).map λn=>(⟨q,4,0,n⟩:Vx))).length<=60:=by
  rw[ej2,ej2,em3,ek2,ek2];omega
 generalize(([(⟨q,1,0,e0⟩:Vx)]++((b9 p).slotsIn (i:Int)).map λn=>(⟨q,3,0,n⟩:Vx))++(((b9 p).slotsOut (i:Int)).map λn=>(⟨q,4,0,n⟩:Vx)))=pre at s8 hF ao;generalize(d9 p).of i=L at S hF ak I an;have bi:=S.isS;have bq:=S.vlen;clear s2 s3 s4 s5 s6 s7 aH k7;simp only[eH,simprocAttr,bi,bq];refine A9 [0,1,5,53,54] (σ:=Nat×Value) (λt f j=>f 55 = .int .i64 t.1/\t.1<=L.length/\PV H0 w j m a i q E F G H t.2 (pre++(L.take t.1).flatMap (ab7 p q))) (λt=>L.length-t.1) (0,v7) ?_ ?_
 .exact⟨rfl,ek1 _,by simpa using s8⟩
 clear s8;rintro⟨k,v⟩ f w9 ⟨bU,e1,e5,be,bf,_⟩ ⟨N,bp,C⟩;simp only at N bp C;have aP:(pre++(L.take k).flatMap (ab7 p q)).length<=30000:=by
  rw[ej2];have h1:=P9 (ab7 p q) 100 (L.take k) λz hz=>ak z (er2 hz);rw[ek3]at h1;have h2:min k L.length<=200:=om
  omega
 have bl:E2 (i5 w) (i5 w9):=p7 g C.hb;simp only[eH,simprocAttr,N,bf];refine A3 (λY=>?_) ?_;rotate_left
 .rintro rfl;rw[ek4]at C aP;have l7:(Instr.loadAt 35 (.pointer (some ⟨m,7,none⟩))).run prog w9 = .ok v w9:=F4 (i:=7) (u:=v) C.cb rfl Y6;simp only[eH,simprocAttr,e5,l7];refine y4 (cC8 C.ox om λa _ b _ h1 h2=>aK2 (aZ4.eq0 h1 h2)) ?_;rintro _ l ⟨aL,af⟩;have bz:(Instr.loadAt 35 (.pointer (some ⟨m,7,none⟩))).run prog l = .ok v l:=F4 (i:=7) (u:=v) ((af.block m (ej4.1 C.cb).1 λh=>(C.dx m h).2.1 rfl).trans C.cb) rfl Y6;simp only[eH,simprocAttr,e5,bz];refine o8 results86 ⟨?_,p6.ext_of C.ext af λb V=>(C.dx b V).1⟩;have e:(b9 p).verts (i:Int)=ad5 cY3 (pre++L.flatMap (ab7 p q)):=by unfold Bk.verts;rw[hF]
  rw[e];exact aL.downN (p7 g C.base)
 have ap:=J9 (ab7 p q) L Y;have aK:=ek0 Y;clear X s;have X:=S.inS Y;obtain⟨sv,Q,s⟩:=H1 (P:=prog) (t:=156) S (bl) (ej0 Y) af2 af4 ac9 L4;rw[L4]at s;have r:=hV L[k];have aI:=I _ aK;generalize L[k]=it at Q ap r aI;generalize aW:pre++(L.take k).flatMap (ab7 p q)=ys at C aP;obtain⟨d,wz,l,bk,bu,aU,ab⟩:=aY4 (w:=w9) (nP m v) Q λb V=>C.lt V;have M:=C.more aU;have U:=M.base;have M:=M.rebase (n7 _);generalize hK:D0 l (nP m v)=K at M U ab;obtain⟨us,av,ac,_,_⟩:=L8.it Q ab;obtain⟨_,_,_,_,_,_,_,_,_,_,_,ay,bH⟩:=L8.st av ac;have bB:=(L8.st_v av ac).1;have B:=M.more (o6.drew l);have O:∀j,p6 (A5 v) l.drew j->j.heap[m]?=some (.cells (L0 a i q E F G H v (.slice none 0 0)) 199 (0,0)):=λj hm=>(hm.block m (ej4.1 B.cb).1 λh=>(B.dx m h).2.1 rfl).trans B.cb;have k7:∀K f d D,F8 prog (λj=>p6 (A5 v) l.drew j) (Instr.loadAt 35 (.pointer (some ⟨m,7,none⟩))) K f d D=K (C5 f d v) D:=λK f d D=>B7 (w0:=l.drew) (p6.refl _) λj h=>F4 (i:=7) (u:=v) (O j h) rfl Y6;have t1:=bH (λj=>p6 (A5 v) l.drew j) l.drew (p6.refl _) λj h=>p7 B.base (p7 (K8 h (λb V=>.inr (.inl V)) λb V=>.inl V) (B4 _ _));simp only[i4,n9,A0,simprocAttr,N,be,X,s,bk,bu];refine C0 (λj=>p6 (A5 v) l.drew j) 12 (A7 [0,1,2,3,4,5,6,7,8,9,10,11]) ?_;simp only[D7,A7,i4,n9,simprocAttr,e5,k7,t1];refine y4 (M1 m _ _ q 2 it.s.id e0 l.drew B.cb rfl) ?_;rintro _ cm ⟨rfl,J⟩;refine⟨p6.up J,?_⟩;have a0:=B.more J;obtain⟨p1,v',cn,aa,p2,p3,o,p4⟩:=a0.push (P:=prog) (e:=35) aD0 rfl (x:=.agg (p8.cells (⟨q,2,it.s.id,e0⟩:Vx)).toArray) (y:=⟨q,2,it.s.id,e0⟩) ((p8.iff_ _ _ _).2 rfl) om om (ix:=7) (by simp[L0]) (λv v'=>by simp[L0]) aJ ae;simp only[fd,simprocAttr,p1,p2,G0];refine⟨(p6.up J).trans (p6.up (o6.alloc _ _)),(p6.up J).trans p4,?_⟩;have aY:=ay aa o.hb;have ad:E2 (i5 w) (i5 aa):=p7 g (p7 U o.hb);have b5:(ys++[(⟨q,2,it.s.id,e0⟩:Vx)]).length<=30001:=by rw[ej2,em3];omega
 clear C M B a0 k7 O t1;rcases ej1 (decide (it.s.kind=4))with h4|h4
 .have e4:=ej3 h4;obtain⟨c,W⟩:=aI e4;have bg:(b9 p).s.pr it.s.proc=(c:Int):=W.pr;have bn:=au2 T hw W.lt;have bo:=bu8 T W;rw[if_pos e4,bg]at r;simp only[eH,simprocAttr,e5,p3,aY,h4,bB aa o.hb];refine y4 (cX1 m _ _ a p us it.s c aa o.cb rfl (ha.mono ad) T hw (av.mono ad) W) ?_;rintro _ a4 ⟨bI,bJ,rfl,aM,aN,bR,aV⟩;have az:=o.more aV;have ag:=o.fresh aM;have ah:=o.fresh aN;have bx:=ay a4 az.hb;generalize(b9 p).slotsIn (c:Int)=Si at r bn ag;generalize(b9 p).callOut it.s=So at r bo ah;simp only[eH,simprocAttr,e5,bx];refine y4 (aX7 K m a i q E F G H v' _ 5 it.s.id bI Si w a4 az ag om) ?_;rintro _ a5 ⟨bK,aA⟩;have au:=A6.mono aA.base ah;have aF:=p7 az.base aA.base;simp only[eH,simprocAttr,e5,ay a5 (p7 aF (B4 _ _))];refine y4 (aX7 _ m a i q E F G H bK _ 6 it.s.id bJ So w a5 aA au (by rw[ej2,ek2];omega)) ?_;rintro _ co ⟨bL,a1⟩;have A:pre++(L.take (k+1)).flatMap (ab7 p q)=ys++[(⟨q,2,it.s.id,Go.Proofs.YtpebpfiglfmegaaGreat.e0⟩:Vx)]++(Si.map λn=>(⟨q,5,it.s.id,n⟩:Vx))++So.map λn=>(⟨q,6,it.s.id,n⟩:Vx):=by
   rw[ap,r,<-aW];simp only[el9]
  simp only[eH,simprocAttr,N];refine V1 (k+1,bL) ?_;simp only[];rw[A];exact a1.rebase (p7 U (p7 aF a1.base))
 .have e4:=ej6 h4;rw[if_neg e4,em5]at r;have A:pre++(L.take (k+1)).flatMap (ab7 p q)=ys++[(⟨q,2,it.s.id,Go.Proofs.YtpebpfiglfmegaaGreat.e0⟩:Vx)]:=by
   rw[ap,r,<-aW];simp only[el9]
  simp only[eH,simprocAttr,p3,aY,h4,N];refine V1 (k+1,v') ?_;simp only[];rw[A];exact o.rebase (p7 U o.base)
section
variable {p:Pg} {i:Nat}
def Mid(p:Pg)(a:Int):Prop:=∃j:Nat,a=(j:Int)+1/\j<(d9 p).l.length
def bw0(w:E6 p)(hw:C4 p<=1000000)(r:i<p.procs.length){f:Fw}(l:f∈(b9 p).flows (i:Int)):(f.src=0\/Mid p f.src)/\(f.dst = -1\/Mid p f.dst):=by
 obtain⟨x,y⟩:=K9 w.may hw i r;have d:=U4 y;have z:=d.n;have l:f∈(b9 p).flow0 (i:Int):=(I0 _ _).mem_iff.1 l;rw[aX3]at l;obtain⟨n,l⟩:=l;rw[ag5]at l;obtain⟨a,c,b,u,m,_,rfl⟩:=l;have o:=al8 _ _ _ a b;have b:=(el6.1 b).2;rw[ek7]at b m;unfold Bk.gives at b;unfold Bk.takes at m;simp only[O9 r]at b m o u ⊢;have e:∀k:Nat,k≠0->(k:Int)<(F5 (d9 p) i).n-1->Mid p ((F5 (d9 p) i).place (k:Int)):=λk g v=>by
  obtain⟨q,_,s,t,_⟩:=aq7 d g v;exact⟨q,t,s⟩
 constructor
 .by_cases g:(a:Int)=0
  .left;rw[d.toWyOk.place,if_pos g]
  .right;rw[if_neg g]at b;split at b
   .simp at b
   .rename_i j;have:¬(a:Int)=(F5 (d9 p) i).n-1:=λh=>j (.inl h);exact e a om om
 .by_cases g:(c:Int)=(F5 (d9 p) i).n-1
  .left;rw[d.toWyOk.place,if_neg om,if_pos g]
  .right;rw[if_neg g]at m;split at m
   .simp at m
   .rename_i j;have:¬(c:Int)=0:=λh=>j (.inl h);exact e c om om
def bX0(b:E6 p)(hw:C4 p<=1000000)(d:i<p.procs.length):∃M:Nat,(F5 (d9 p) i).n=(M:Int)/\M<=202:=by
 obtain⟨x,c⟩:=K9 b.may hw i d;have e:=(U4 c).n;have a:=c.ok.len;have:=J8 b.may;exact⟨(F5 (d9 p) i).n.toNat,om,om⟩
def bR8(g:E6 p)(hw:C4 p<=1000000)(d:i<p.procs.length):((b9 p).flows (i:Int)).length<=5000000:=by
 obtain⟨M,f,b⟩:=bX0 g hw d;have e:((b9 p).flows (i:Int)).length=((b9 p).flow0 (i:Int)).length:=(I0 bN9 _).length_eq;rw[e];unfold Bk.flow0;rw[O9 d,f,el5];refine ej7 (P9 _ 20200 _ λa c=>?_) ?_
 .have c:=en3.1 c;have h:=(bc7 g hw d (k:=a) (by rw[f];exact Int.ofNat_lt.2 c)).2;refine ej7 (P9 _ 202 _ λn j=>?_) ?_
  .rw[ek2];refine ej7 (el8 _ _) ?_;rw[en9];exact b
  .omega
 .rw[en9];omega
def be3(h:E6 p)(hw:C4 p<=1000000){q:B3}{e:Int}{n:B3}(d:e = -1\/Mid p e):((b9 p).takers q e n).length<=9:=by
 unfold Bk.takers;split
 .simp
 .rename_i i;obtain⟨j,rfl,g⟩:=d.resolve_left i;have k:(b9 p).s=d9 p:=rfl;have a:(d9 p).it ((j:Int)+1)=(d9 p).l[j]:=by
   unfold Sh.it;rw[show((j:Int)+1-1).toNat=j by omega,List.getD,ej0 g];rfl
  split
  .simp
  .rename_i b;rw[k,a]at b ⊢;have b:((d9 p).l[j]).s.kind=4:=by simpa using b
   obtain⟨c,f⟩:=aa5 (h.fits _ (ek0 g) b);have m:=V2 h.may f.lt;have o:=f.len;rw[ej2,ek2];have l:((((d9 p).l[j]).s.args.zip ((b9 p).callee ((d9 p).l[j]).s).params).filter λx=>(ad6 x.1).contains n).length<=8:=by
    refine ej7 (el8 _ _) ?_;rw[List.length_zip];omega
   split<;>simp only[em3,ep7]<;>omega
def bv2(e:E6 p)(hw:C4 p<=1000000)(d:i<p.procs.length):((F5 (d9 p) i).decides).length<=41000:=by
 obtain⟨M,c,b⟩:=bX0 e hw d;rw[bc5 c];refine ej7 (P9 _ 202 _ λa f=>?_) ?_
 .rw[ek2];refine ej7 (el8 _ _) ?_;rw[en9];exact b
 .rw[en9];omega
def aY6(a:E6 p)(hw:C4 p<=1000000)(b:i<p.procs.length):((b9 p).verts (i:Int)).length<=30000:=by
 obtain⟨x,f⟩:=K9 a.may hw i b;have d:=J8 a.may;have e:((b9 p).verts (i:Int)).length=((b9 p).vert0 (i:Int)).length:=(I0 cY3 _).length_eq;have h:=au2 a hw b;have j:=aN9 a b;have k:(((d9 p).of i).flatMap (ab7 p p.procs[i].name)).length<=((d9 p).of i).length*100:=P9 _ 100 _ λit c=>bz2 a hw _ (dk2 f c);have l:((d9 p).of i).length<=200:=by
  rw[f.ok.of_,eo9,ek3];omega
 have g:(b9 p).vert0 (i:Int)=([(⟨p.procs[i].name,1,0,e0⟩:Vx)]++((b9 p).slotsIn (i:Int)).map λn=>(⟨p.procs[i].name,3,0,n⟩:Vx))++(((b9 p).slotsOut (i:Int)).map λn=>(⟨p.procs[i].name,4,0,n⟩:Vx))++((d9 p).of i).flatMap (ab7 p p.procs[i].name):=by
  unfold Bk.vert0;rw[U1 b];rfl
 rw[e,g];simp only[ej2,em3,ek2];omega
end
def cC9(vs:Value)(b:Ar)(w:World)(hv:SV (i5 w) vs b)(o:aa3 b.x<=1000000):
  y5 prog 178 #[vs] w λu n=>(B0 (i5 w) n 9 u (ad6 b)/\o6 w n):=by
 refine z6 [vs] func178 rfl ?_;obtain⟨d,g,e,a,h⟩:=du6 hv (n7 _);obtain⟨c,k,_⟩:=h.ar;obtain⟨t,i,l,_⟩:=c.ex_v;have f:=k g (n7 _);have m:=l g (n7 _);unfold ad6;cases hr:b.ref
 .rw[hr]at f;simp only[eH,simprocAttr,e,f,m];refine y4 (az6 t b.x g i o) ?_;rintro u v ⟨p,j⟩;simp only[i4,simprocAttr];exact o8 results178 ⟨p.back a,a.trans j⟩
 .rw[hr]at f;obtain⟨u,v,q,r,s,_⟩:=cJ7 b.name g (b7 a);simp only[eH,simprocAttr,e,f,q];exact o8 results178 ⟨r,a.trans s⟩
def dE4(w:World):∃h,(Instr.alloc 27 true (.tuple #[])).run prog w = .ok (.pointer (some ⟨w.heap.size,0,none⟩)) h/\o6 w h/\∀(e:World) (y:Vx),o6 h e ->
  ∃a,(Instr.storeAt 27 (.pointer (some ⟨w.heap.size,0,none⟩)) (.agg (p8.cells y).toArray)).run prog e = .ok () a/\(Instr.loadAt 27 (.pointer (some ⟨w.heap.size,0,none⟩))).run prog a = .ok (.agg (p8.cells y).toArray) a/\o6 w a:=by
 obtain⟨z,j,d⟩:∃z,I4 prog 27=some z/\z.cells.size=N6 prog 27:=⟨_,aV1,by rw[P5];rfl⟩;have c:∀y:Vx,(p8.cells y).toArray.size=N6 prog 27:=λy=>by rw[P5];rfl
 have n:=(aI8 (P:=prog) (w:=w) (T:=27) j d (cs:=(p8.cells (⟨e0,0,0,e0⟩:Vx)).toArray) (c _) (λu g=>Z0 _ u (by simpa using g))).1;refine⟨_,n,o6.alloc _ _,λe y i=>?_⟩;have f:e.heap[w.heap.size]?=some (.cells z.cells 27 (0,0)):=(i.block _ dP id).trans (em9 w _);obtain⟨a,k,l,m⟩:=aj3 (P:=prog) (T:=27) f j d (c y) (λu g=>Z0 y u (by simpa using g));exact⟨a,k,af6 l aw3 aw6 ap5 (c y).symm,p6.ext_of ((o6.alloc _ _).trans i) m λb f=>by rw[f];exact ek6 _⟩
def bQ4{p:Pg}{s:St}{c:Nat}(a:aF7 p s c):(b9 p).callee s=p.procs[c]'a.lt:=by
 have e:(b9 p).s.pr s.proc=(c:Int):=a.pr;unfold Bk.callee;rw[e,U1 a.lt]
def cS6(H:Nat)(T:TypeId)(s:Array Value)(a:Addr)(p:Pg)(q:B3)(pl:Int)(n:B3)(w:World)(hb:w.heap[H]?=some (.cells s T (0,0)))(aE:s[0]?=some (.pointer (some a)))(N:s[2]?=some (t8 q))(ha:At (i5 w) a (b9 p))(hr:E6 p)(hw:C4 p<=1000000)
  (a3:pl=0\/∃j:Nat,pl=(j:Int)+1/\j<(d9 p).l.length) :
  y5 prog 149 #[.pointer (some ⟨H,0,none⟩),.int .i64 pl,t8 n] w λu e=>(u = .agg (p8.cells ((b9 p).giver q pl n)).toArray/\o6 w e):=by
 refine z6 [.pointer (some ⟨H,0,none⟩),.int .i64 pl,t8 n] func149 rfl ?_;obtain⟨w0,X,af,A⟩:=dE4 w;have l:∀e,o6 w e->e.heap[H]?=some (.cells s T (0,0)):=λe hx=>(hx.block H (ej4.1 hb).1 id).trans hb;have a4:Value.string {data:=#[]}=t8 e0:=rfl;have a5:Value.string {data:=#[36,114,101,116]}=t8 V8:=rfl;rcases ej1 (decide (pl=0))with h0|h0
 .have aW:=ej3 h0;simp only[eH,simprocAttr,X,h0];refine B6 (M1 H T s q 3 0 n w0 (l w0 af) N) (λw1 D=>?_);obtain⟨w2,q1,q2,o⟩:=A w1 ⟨q,3,0,n⟩ D;simp only[i4,simprocAttr,q1];refine O5 results149 (ad:=⟨w.heap.size,0,none⟩) (by simp only[B8,simprocAttr]) q2 ?_;refine⟨?_,o⟩;unfold Bk.giver;rw[if_pos aW]
 have aK:=ej6 h0;obtain⟨j,rfl,Z⟩:∃j:Nat,pl=(j:Int)+1/\j<(d9 p).l.length:=by
  rcases a3 with h|h
  .exact absurd h aK
  .exact h
 have bp:=J8 hr.may;obtain⟨sh,vw,vd,_,vi,vo,has,bD,bz,_,bB,bC,bc,bh⟩:=ha.book rfl;obtain⟨vl,_,_,aO,_,_,aL,bf,_⟩:=has.sh;rw[N7]at aL;obtain⟨vg,vp,bA,aP,bG,bi⟩:=aL.pg;have F:=b7 af;have av:=bc w0 F;have aw:=bf w0 F;have k0:(Instr.loadAt 87 (.pointer (some ⟨H,0,none⟩))).run prog w0 = .ok (.pointer (some a)) w0:=F4 (i:=0) (l w0 af) aE aU9;have au:IntKind.i64.wrap ((j:Int)+1-1)=(j:Int):=by rw[M7 _ om];omega
 have Q:=aO.inS (k:=j) Z;have L:=aO.at_ (i:=j) (x:=(d9 p).l[j]) (ej0 Z);have aQ:A6.sz It=17:=rfl;rw[aQ]at L;have O:=hr.fits _ (ek0 Z);have aG:(d9 p).it ((j:Int)+1)=(d9 p).l[j]:=by
  unfold Sh.it;rw[show((j:Int)+1-1).toNat=j by omega,List.getD,ej0 Z];rfl
 have y:(b9 p).giver q ((j:Int)+1) n=if((d9 p).l[j]).s.kind≠4 then⟨q,2,(j:Int)+1,e0⟩else if((d9 p).l[j]).s.name=n then⟨q,6,(j:Int)+1,V8⟩
   else match(((d9 p).l[j]).s.args.zip ((b9 p).callee ((d9 p).l[j]).s).params).find? λx=>x.1.ref&&decide (x.1.name=n)with
    | some x=>⟨q,6,(j:Int)+1,x.2.name⟩
    | none=>⟨q,6,(j:Int)+1,n⟩:=by
  have hs:(b9 p).s=d9 p:=rfl;unfold Bk.giver;rw[if_neg aK,hs,aG];rfl
 generalize(d9 p).l[j]=it at L O y;obtain⟨aD,_,_⟩:=L.it;obtain⟨sv,ac,bg,_⟩:=aD.st_v;have ax:=bg w0 F;obtain⟨d,wz,w1,I,R,D,aB⟩:=bm8 (ac.mono F) (n7 _);obtain⟨_,va,_,_,_,ae,_,_,_,bd,_⟩:=aB.st;obtain⟨bk,aN,_,aS⟩:=aB.st_v;have l1:=bd w1 (n7 _);have G:=af.trans D;rcases ej1 (decide (it.s.kind=4))with h4|h4;rotate_left
 .have e4:=ej6 h4;simp only[i4,n9,A0,simprocAttr,X,h0,k0,av,aw,au,Q,ax,I,R,l1,h4,a4];refine B6 (M1 H T s q 2 ((j:Int)+1) e0 w1 (l w1 G) N) (λw2 o=>?_);obtain⟨g,q1,q2,E⟩:=A w2 ⟨q,2,(j:Int)+1,e0⟩ (D.trans o);simp only[i4,simprocAttr,q1];refine O5 results149 (ad:=⟨w.heap.size,0,none⟩) (by simp only[B8,simprocAttr]) q2 ?_;refine⟨?_,E⟩;rw[y,if_pos e4]
 have e4:=ej3 h4;rw[if_neg (by simpa using e4)]at y;rcases ej1 (decide (it.s.name=n))with h5|h5
 .have e5:=ej3 h5;simp only[i4,n9,A0,simprocAttr,X,h0,k0,av,aw,au,Q,ax,I,R,l1,h4,h5,a5];refine B6 (M1 H T s q 6 ((j:Int)+1) V8 w1 (l w1 G) N) (λw2 o=>?_);obtain⟨g,q1,q2,E⟩:=A w2 ⟨q,6,(j:Int)+1,V8⟩ (D.trans o);simp only[i4,simprocAttr,q1];refine O5 results149 (ad:=⟨w.heap.size,0,none⟩) (by simp only[B8,simprocAttr]) q2 ?_;refine⟨?_,E⟩;rw[y,if_pos e5]
 have e5:=ej6 h5;obtain⟨c,hc⟩:=aa5 (O e4);rw[if_neg e5,bQ4 hc]at y;have aH:=hc.len;have aM:=V2 hr.may hc.lt;have ak:=aP.at_ (i:=c) (x:=p.procs[c]'hc.lt) (ej0 hc.lt);have aF:=aP.inS (k:=c) hc.lt;have a9:A6.sz Pr=5:=rfl;rw[a9]at ak;obtain⟨bM,_,_,_,U,_,_,_,_,bj⟩:=ak.pr;have a1:=hc.pr;generalize(p.procs[c]'hc.lt).params=pas at y aH aM U;simp only[i4,n9,A0,simprocAttr,X,h0,k0,av,aw,au,Q,ax,I,R,l1,h4,h5,ae.isS,ae.vlen];refine A9 [0,1,2,6,7,44,45] (σ:=Nat) (λk f e=>f 46 = .int .i64 k/\k<=it.s.args.length/\(∀m (hm:m<it.s.args.length),m<k->(it.s.args[m].ref&&decide (it.s.args[m].name=n))=false)/\o6 w1 e) (λk=>it.s.args.length-k) 0 ?_ ?_
 .exact⟨rfl,ek1 _,λm _ h=>om,p6.refl _⟩
 rintro k f w2 ⟨g0,g1,g2,g6,g7,ap,aZ,_⟩ ⟨W,bu,ab,o⟩;simp only[eH,simprocAttr,W,aZ];refine A3 (λaI=>?_) ?_;rotate_left
 .rintro rfl;simp only[i4,simprocAttr,g0,g1,g2];refine B6 (M1 H T s q 6 ((j:Int)+1) n w2 (l w2 (G.trans o)) N) (λg E=>?_);obtain⟨w4,q1,q2,V⟩:=A g ⟨q,6,(j:Int)+1,n⟩ (D.trans (o.trans E));simp only[i4,simprocAttr,g6,q1];refine O5 results149 (ad:=⟨w.heap.size,0,none⟩) (by simp only[B8,simprocAttr];exact g6) q2 ?_;refine⟨?_,V⟩;rw[y,es7.2 λz hz=>?_];obtain⟨m,hm⟩:=es8.1 hz;rw[List.getElem?_zip_eq_some]at hm;obtain⟨aJ,a2⟩:=ej5.1 hm.1;have:=ab m aJ aJ;rw[a2]at this;simp[this]
 have aq:=ae.inS aI;obtain⟨sv,ac,aa⟩:=H1 (P:=prog) (t:=125) ae (b7 o) (ej0 aI) aU8 aV0 aO4 ad0;rw[ad0]at aa;have br:=ab;have B:∀(b:Bool),(it.s.args[k].ref&&decide (it.s.args[k].name=n))=b->(b=false->∀m (hm:m<it.s.args.length),m<k+1->(it.s.args[m].ref&&decide (it.s.args[m].name=n))=false):=λb hb a0 m hm bv=>by
  rcases en2 m k with h|h
  .exact ab m hm h
  .obtain rfl:m=k:=om
   rw[hb,a0]
 have am:k<pas.length:=om
 have C:(it.s.args[k].ref&&decide (it.s.args[k].name=n))=true->(it.s.args.zip pas).find? (λx=>x.1.ref&&decide (x.1.name=n))=some (it.s.args[k],pas[k]):=λht=>by
  rw[et2];refine⟨ht,k,by rw[List.length_zip];omega,by rw[List.getElem_zip],λm hm=>?_⟩;rw[List.getElem_zip];have:=ab m om hm;simp only[this];rfl
 have M:=U.at_ (i:=k) (x:=pas[k]) (ej0 am);have ar:=U.inS (k:=k) am;have a8:A6.sz Pa=2:=rfl;rw[a8]at M;obtain⟨_,an⟩:=M.pa;generalize pas[k]=pa at C an;generalize it.s.args[k]=ag at ac B C;obtain⟨d3,bO,g,J,S,E,aC⟩:=bm7 (ac.mono (b7 o)) (n7 _);obtain⟨_,be,_⟩:=aC.ar;have l3:=be g (n7 _);have r:=o.trans E;cases hrf:ag.ref
 .rw[hrf]at l3;simp only[i4,n9,A0,simprocAttr,W,ap,aq,aa,J,S,l3];exact V1 (k+1) ⟨B false (by rw[hrf];rfl) rfl,r⟩
 rw[hrf]at l3;rcases ej1 (decide (ag.name=n))with h6|h6;rotate_left
 .simp only[i4,n9,A0,simprocAttr,W,g2,ap,aq,aa,J,S,l3,h6];exact V1 (k+1) ⟨B false (by rw[hrf,h6];rfl) rfl,r⟩
 have v:=(G.trans r).trans (o6.drew g);have Y:∀e,o6 g.drew e->E2 (i5 w) (i5 e):=λe h=>b7 (v.trans h);have t0:∀K f d az,F8 prog (λe=>o6 g.drew e) (Instr.loadAt 87 (.pointer (some ⟨H,0,none⟩))) K f d az=K (C5 f d (.pointer (some a))) az:=λK f d az=>B7 (w0:=g.drew) (p6.refl _) λe h=>F4 (i:=0) (l e (v.trans h)) aE aU9;have t3:=bj (λe=>o6 g.drew e) g.drew (p6.refl _) Y;have t4:=an (λe=>o6 g.drew e) g.drew (p6.refl _) Y;have t5:=aS (λe=>o6 g.drew e) g.drew (p6.refl _) λe h=>b7 ((r.trans (o6.drew g)).trans h);simp only[i4,n9,A0,simprocAttr,W,g2,ap,aq,aa,J,S,l3,h6];refine C0 (λe=>o6 g.drew e) 26 (A7 [0,1,2,3,4,5,6,7,8,9,10,11,12,13,14,15,16,17,22,18,19,20,21,23,24,25]) ?_;simp only[D7,A7,i4,n9,simprocAttr,g0,g1,g7,t0,bh (λe=>o6 g.drew e) g.drew (p6.refl _) Y,bi (λe=>o6 g.drew e) g.drew (p6.refl _) Y,t5];refine B6 (az5 a (b9 p) p bk it.s g.drew (ha.mono (b7 v)) rfl hr.may (aN.mono (b7 (r.trans (o6.drew g))))) (λw4 V=>⟨V,?_⟩);rw[a1];simp only[D7,i4,n9,A0,simprocAttr,t3,t4,aF,ar];refine B6 (M1 H T s q 6 ((j:Int)+1) pa.name w4 (l w4 (v.trans V)) N) (λw5 a6=>?_);obtain⟨w6,q1,q2,a7⟩:=A w5 ⟨q,6,(j:Int)+1,pa.name⟩ (D.trans (((r.trans (o6.drew g)).trans V).trans a6));simp only[i4,simprocAttr,g6,q1];refine O5 results149 (ad:=⟨w.heap.size,0,none⟩) (by simp only[B8,simprocAttr];exact g6) q2 ?_;refine⟨?_,a7⟩;rw[y,C (by rw[hrf,h6];rfl)]
def dD6(y:Vx)(w:World){h:Hp}(hw:E2 h (i5 w)):∃v a,(Instr.buildSlice 35 1 #[(0,.agg (p8.cells y).toArray)]).run prog w = .ok v a/\B0 h a 27 v [y]/\o6 w a/\(∀b,A5 v b->w.heap.size<=b):=
 lit (P:=prog) (w:=w) (h:=h) (α:=Vx) (xs:=[.agg (p8.cells y).toArray]) (ys:=[y]) (parts:=#[(0,.agg (p8.cells y).toArray)]) (n:=1) aD0 rfl (ae0.2 rfl) (λx c=>by rw[ek5.1 c];rfl) rfl rfl dP dP hw
def dl1{h:Hp}{w:World}{v:Value}{l:List Vx}(c:B0 h w 27 v l)(y:Vx)(d:l.length<=1000000)(hw:E2 h (i5 w)){e:TypeId}:
  (Instr.buildSlice 35 1 #[(0,.agg (p8.cells y).toArray)]).run prog w = .ok (.slice (some ⟨w.heap.size,0,none⟩) 1 1) (w.alloc (.cells (p8.cells y).toArray 27)) /\
  ∃a b,(Builtin.append_ #[35,35] e #[v,.slice (some ⟨w.heap.size,0,none⟩) 1 1]).run prog (w.alloc (.cells (p8.cells y).toArray 27)) = .ok a b/\B0 h b 27 a (l++[y])/\p6 (A5 v) w b/\E7 w v a:=by
 have:=push (P:=prog) (e:=e) aD0 rfl c (x:=.agg (p8.cells y).toArray) (y:=y) ((p8.iff_ _ _ _).2 rfl) om om hw;exact this
def dB8(s:St):∀a∈s.args,aa3 a.x<=V7 s:=by
 cases s;intro a h;have:=aY7 h;unfold av6 at this;simp only[St.args]at this;simp only[V7];omega
def cD5(E:Nat)(T:TypeId)(v:Array Value)(a:Addr)(p:Pg)(q:B3)(pl:Int)(n:B3)(w:World)(hb:w.heap[E]?=some (.cells v T (0,0)))(W:v[0]?=some (.pointer (some a)))(X:v[2]?=some (t8 q))(ha:At (i5 w) a (b9 p))(hr:E6 p)(hw:C4 p<=1000000)
  (bj:pl = -1\/∃j:Nat,pl=(j:Int)+1/\j<(d9 p).l.length) :
  y5 prog 150 #[.pointer (some ⟨E,0,none⟩),.int .i64 pl,t8 n] w λu s=>(B0 (i5 w) s 27 u ((b9 p).takers q pl n)/\o6 w s):=by
 refine z6 [.pointer (some ⟨E,0,none⟩),.int .i64 pl,t8 n] func150 rfl ?_;have m:∀s,o6 w s->s.heap[E]?=some (.cells v T (0,0)):=λs hx=>(hx.block E (ej4.1 hb).1 id).trans hb;have bl:Value.string {data:=#[]}=t8 e0:=rfl;rcases ej1 (decide (pl = -1))with h0|h0
 .have a9:=ej3 h0;simp only[eH,simprocAttr,h0];refine B6 (M1 E T v q 4 0 n w hb X) (λz g=>?_);obtain⟨u,w2,q1,q2,q3,_⟩:=dD6 ⟨q,4,0,n⟩ z (b7 g);simp only[i4,simprocAttr,q1];refine o8 results150 ⟨?_,g.trans q3⟩;unfold Bk.takers;rw[if_pos a9];exact q2
 have aM:=ej6 h0;obtain⟨j,rfl,Y⟩:∃j:Nat,pl=(j:Int)+1/\j<(d9 p).l.length:=by
  rcases bj with h|h
  .exact absurd h aM
  .exact h
 have bG:=J8 hr.may;obtain⟨sh,vw,vd,_,vi,vo,has,bQ,bN,_,aS,bP,au,bY⟩:=ha.book rfl;obtain⟨vl,_,_,aT,_,_,aN,bs,_⟩:=has.sh;rw[N7]at aN;obtain⟨vg,vp,bO,aU,bq,bZ⟩:=aN.pg;have aZ:=au w (n7 _);have a2:=bs w (n7 _);have k0:(Instr.loadAt 87 (.pointer (some ⟨E,0,none⟩))).run prog w = .ok (.pointer (some a)) w:=F4 (i:=0) hb W aU9;have aV:IntKind.i64.wrap ((j:Int)+1-1)=(j:Int):=by rw[M7 _ om];omega
 have ah:=aT.inS (k:=j) Y;have H:=aT.at_ (i:=j) (x:=(d9 p).l[j]) (ej0 Y);have aY:A6.sz It=17:=rfl;rw[aY]at H;have ak:=ek0 Y;have L:=hr.fits _ ak;have am:=ao1 p hw _ ak;have aH:(d9 p).it ((j:Int)+1)=(d9 p).l[j]:=by
  unfold Sh.it;rw[show((j:Int)+1-1).toNat=j by omega,List.getD,ej0 Y];rfl
 have b:(b9 p).takers q ((j:Int)+1) n=if((d9 p).l[j]).s.kind≠4 then[⟨q,2,(j:Int)+1,e0⟩]
   else(((((d9 p).l[j]).s.args.zip ((b9 p).callee ((d9 p).l[j]).s).params).filter λx=>(ad6 x.1).contains n).map λx=>(⟨q,5,(j:Int)+1,x.2.name⟩:Vx)) ++
    if(R6 p n&&(I8 (ah9 p) ((d9 p).pr ((d9 p).l[j]).s.proc)).contains n)=true then[(⟨q,5,(j:Int)+1,n⟩:Vx)]else[]:=by
  have hs:(b9 p).s=d9 p:=rfl;have hi:(b9 p).ins=ah9 p:=rfl;unfold Bk.takers;rw[if_neg aM,hs,hi,aH,N7]
 generalize(d9 p).l[j]=it at H L b am;have aX:∀V∈it.s.args,aa3 V.x<=1000000:=λV h=>ej7 (dB8 it.s V h) am;obtain⟨aD,_,_⟩:=H.it;obtain⟨sv,Z,bt,_⟩:=aD.st_v;have a3:=bt w (n7 _);obtain⟨d,wz,z,ae,al,g,aB⟩:=bm8 Z (n7 _);obtain⟨_,va,_,_,_,aa,_,_,_,a0,_⟩:=aB.st;obtain⟨bC,aR,_,a4⟩:=aB.st_v;have l1:=a0 z (n7 _);rcases ej1 (decide (it.s.kind=4))with h4|h4;rotate_left
 .have e4:=ej6 h4;simp only[i4,n9,A0,simprocAttr,h0,k0,aZ,a2,aV,ah,a3,ae,al,l1,h4,bl];refine B6 (M1 E T v q 2 ((j:Int)+1) e0 z (m z g) X) (λw2 ab=>?_);obtain⟨u,w3,q1,q2,q3,_⟩:=dD6 ⟨q,2,(j:Int)+1,e0⟩ w2 (b7 (g.trans ab));simp only[i4,simprocAttr,q1];refine o8 results150 ⟨?_,(g.trans ab).trans q3⟩;rw[b,if_pos e4];exact q2
 have e4:=ej3 h4;obtain⟨c,U⟩:=aa5 (L e4);rw[if_neg (by simpa using e4),bQ4 U,U.pr]at b;have aJ:=U.len;have aO:=V2 hr.may U.lt;have af:=aU.at_ (i:=c) (x:=p.procs[c]'U.lt) (ej0 U.lt);have aG:=aU.inS (k:=c) U.lt;have bo:A6.sz Pr=5:=rfl;rw[bo]at af;obtain⟨b5,_,_,_,O,_,_,_,br,_⟩:=af.pr;have bh:=U.pr;generalize(p.procs[c]'U.lt).params=pas at b aJ aO O;obtain⟨N,M,aE⟩:=(aW6 hr hw).row U.lt;generalize I8 (ah9 p) (c:Int)=aw at N M aE b;obtain⟨ui,bm,be⟩:=R.row aS (show(b9 p).ins[c]?=some aw from N);have aF:=aS.inS (k:=c) (show c<(ah9 p).length from(ej5.1 N).1);have bc:=aa.isS;have bi:=aa.vlen;have ao:=g.trans (o6.drew z);have t0:∀K f d ax,F8 prog (λs=>o6 z.drew s) (Instr.loadAt 87 (.pointer (some ⟨E,0,none⟩))) K f d ax=K (C5 f d (.pointer (some a))) ax:=λK f d ax=>B7 (w0:=z.drew) (p6.refl _) λs h=>F4 (i:=0) (m s (ao.trans h)) W aU9;have t5:=a4 (λs=>o6 z.drew s) z.drew (p6.refl _) λs h=>b7 ((o6.drew z).trans h);simp only[i4,n9,A0,simprocAttr,h0,k0,aZ,a2,aV,ah,a3,ae,al,l1,h4];refine C0 (λs=>o6 z.drew s) 5 (A7 [0,1,2,3,4]) ?_;simp only[D7,A7,i4,n9,simprocAttr,t0,t5];refine B6 (az5 a (b9 p) p bC it.s z.drew (ha.mono (b7 ao)) rfl hr.may (aR.mono (b7 (o6.drew z)))) (λw2 ab=>?_);rw[bh];have an:=(o6.drew z).trans ab;have bT:(it.s.args.zip pas).length=it.s.args.length:=by rw[List.length_zip];omega
 simp only[eH,simprocAttr,a0 w2 (b7 an),bc,bi];refine A9 [0,1,2,7,9,47,48] (σ:=Nat×Value) (λt f s=>f 49 = .int .i64 t.1/\f 8=t.2/\t.1<=it.s.args.length/\B0 (i5 z) s 27 t.2 ((((it.s.args.zip pas).take t.1).filter λx=>(ad6 x.1).contains n).map λx=>(⟨q,5,(j:Int)+1,x.2.name⟩:Vx))/\o6 z s) (λt=>it.s.args.length-t.1) (0,.slice none 0 0) ?_ ?_
 .exact⟨rfl,rfl,ek1 _,B0.nil _ _ _,an⟩
 rintro⟨k,u⟩ f w3 ⟨g0,g1,g2,g7,g9,ba,bb,_⟩ ⟨G,h8,bg,l,F⟩;simp only at G h8 bg l;have J:((((it.s.args.zip pas).take k).filter λx=>(ad6 x.1).contains n).map λx=>(⟨q,5,(j:Int)+1,x.2.name⟩:Vx)).length<=k:=by
  rw[ek2];refine ej7 (el8 _ _) ?_;rw[ek3];omega
 have y:=g.trans F;simp only[eH,simprocAttr,G,bb];refine A3 (λar=>?_) ?_
 .have aj:k<pas.length:=om
  have aL:k<(it.s.args.zip pas).length:=om
  have bf:=aa.inS ar;obtain⟨sv,Z,aI⟩:=H1 (P:=prog) (t:=125) aa (b7 F) (ej0 ar) aU8 aV0 aO4 ad0;rw[ad0]at aI;have o:=aS6 (λx:Ar×Pa=>(ad6 x.1).contains n) (λx=>(⟨q,5,(j:Int)+1,x.2.name⟩:Vx)) _ aL;rw[List.getElem_zip]at o;simp only at o;have aW:=aX _ (ek0 ar);have I:=O.at_ (i:=k) (x:=pas[k]) (ej0 aj);have aq:=O.inS (k:=k) aj;have bn:A6.sz Pa=2:=rfl;rw[bn]at I;obtain⟨ap,_⟩:=I.pa;generalize pas[k]=pa at o ap;generalize it.s.args[k]=V at Z o aW;generalize bS:(((it.s.args.zip pas).take k).filter λx=>(ad6 x.1).contains n).map (λx=>(⟨q,5,(j:Int)+1,x.2.name⟩:Vx))=xs at l o J;obtain⟨d4,b6,w4,aA,aQ,r,aC⟩:=bm7 (Z.mono (b7 F)) (n7 _);obtain⟨sa,bk,a1,_⟩:=aC.ar_v;have l4:=a1 w4 (n7 _);have aP:(ad6 V).length<=1000000000:=by
   unfold ad6;split
   .simp
   .have:=ak5 V.x;omega
  simp only[i4,n9,A0,simprocAttr,G,ba,bf,aI,aA,aQ,l4];refine y4 (cC9 sa V w4 bk aW) ?_;rintro us S ⟨hos,hx5⟩;have D:=(F.trans r).trans hx5;have Q:=g.trans D;simp only[i4,simprocAttr,g2];refine F6 (S7 us (ad6 V) n S (hos.rw_ (b7 hx5)) aP) ?_;rcases ej1 ((ad6 V).contains n)with h6|h6;rotate_left
  .rw[h6,if_neg dP,em5]at o;simp only[eH,simprocAttr,h6,h8,G];refine nx4 (k+1,u) ⟨?_,D⟩;simp only[];rw[o];exact(l.ext r).ext hx5
  rw[h6,if_pos rfl]at o;have C:=b7 Q;have k5:(Instr.loadAt 87 (.pointer (some ⟨E,0,none⟩))).run prog S = .ok (.pointer (some a)) S:=F4 (i:=0) (m S Q) W aU9;simp only[i4,n9,A0,simprocAttr,h6,h8,g0,g1,g9,k5,au S C,bq S C,aG,br S C,aq,ap S C];refine B6 (M1 E T v q 5 ((j:Int)+1) pa.name S (m S Q) X) (λw6 ac=>?_);obtain⟨p1,u7,w7,p2,p3,p4,p5⟩:=dl1 (e:=35) (((l.ext r).ext hx5).ext ac) ⟨q,5,(j:Int)+1,pa.name⟩ om (b7 (D.trans ac));simp only[eH,simprocAttr,p1,p2,G];refine nx4 (k+1,u7) ⟨?_,(((l.ext r).ext hx5).ext ac).ext2 (D.trans ac) p4⟩;simp only[];rw[o];exact p3
 rintro rfl;rw[en6 om]at l J;generalize hA:((it.s.args.zip pas).filter λx=>(ad6 x.1).contains n).map (λx=>(⟨q,5,(j:Int)+1,x.2.name⟩:Vx))=A at b l J;have B:=b7 y;have k3:(Instr.loadAt 87 (.pointer (some ⟨E,0,none⟩))).run prog w3 = .ok (.pointer (some a)) w3:=F4 (i:=0) (m w3 y) W aU9;have bp:=au w3 B;have aK:=J7 (P:=prog) (t:=22) be B X2;simp only[eH,simprocAttr,g0,g2,k3];refine F6 (bb6 a (b9 p) p n w3 (ha.mono B) rfl hr.may) ?_;rcases ej1 (R6 p n)with h7|h7;rotate_left
 .rw[h7,Bool.false_and,if_neg dP,em5]at b;simp only[i4,simprocAttr,h7,h8];refine o8 results150 ?_;simp only[B8,simprocAttr];rw[b];exact⟨l.backN g,y⟩
 rw[h7,eq4]at b;simp only[i4,n9,A0,simprocAttr,h7,g0,g2,g9,k3,bp,aF,aK];refine F6 (al7 ui aw n w3 (A6.mono B bm) om M) ?_;rcases ej1 (aw.contains n)with h8'|h8';rotate_left
 .rw[h8',if_neg dP,em5]at b;simp only[i4,simprocAttr,h8,h8'];refine o8 results150 ?_;simp only[B8,simprocAttr];rw[b];exact⟨l.backN g,y⟩
 rw[h8',if_pos rfl]at b;simp only[i4,simprocAttr,h8,h8',g0,g1,g2];refine B6 (M1 E T v q 5 ((j:Int)+1) n w3 (m w3 y) X) (λw4 r=>?_);obtain⟨p1,u5,S,p2,p3,p4,p5⟩:=dl1 (e:=35) (l.ext r) ⟨q,5,(j:Int)+1,n⟩ om (b7 (F.trans r));simp only[i4,simprocAttr,p1,p2];refine o8 results150 ?_;simp only[B8,simprocAttr];rw[b];exact⟨p3.backN g,g.trans ((l.ext r).ext2 (F.trans r) p4)⟩
def bv0{α:Type}[DecidableEq α]:∀(l:List α),N4 l=ap3 (λa b=>decide (a=b)) l
 | []=>rfl
 | [x]=>rfl
 | x::y::l=>by
  have d:=bv0 (y::l);rw[N4,d];simp only[ap3,as7];by_cases h:x=y
  .subst h;simp
  .have c:¬y=x:=λe=>h e.symm;simp[h,c]
def bz9(a b:Eg):Bool:=decide (a=b)
def cx5{h:Hp}{w:World}{v:Value}{xs:List Eg}(o:B0 h w 54 v xs)(hl:xs.length<=1000000000)(hh:E2 h (i5 w)):
  y5 prog 113 #[v] w λu d=>(B0 h d 54 u (N4 xs)/\p6 (A5 v) w d/\∀b,A5 u b->A5 v b):=by
 refine z6 [v] func113 rfl ?_;rw[bv0];have aq:(λa b:Eg=>decide (a=b))=bz9:=rfl;rw[aq];have W:=o.isS;have hn:=o.vlen;have a4:=o.vcap;have U:A6.sz Eg=9:=rfl;rcases ej1 (decide ((xs.length:Int)<2))with H|H
 .simp only[eH,simprocAttr,W,hn,H];refine o8 results113 ?_;simp only[B8,simprocAttr];have D:xs.length<2:=by have:=ej3 H;omega
  have:=aj8 bz9 xs xs.length (ek6 _) λj J h1 H=>om
  rw[ek4]at this;exact⟨by rw[this];exact o,p6.refl _,λb X=>X⟩
 have a0:2<=xs.length:=by have:=ej6 H;omega
 simp only[eH,simprocAttr,W,hn,H];refine A9 [0] (σ:=Nat) (λi f d=>f 3 = .int .i64 i/\1<=i/\i<=xs.length/\(∀j (J:j<xs.length),1<=j->j<i->bz9 xs[j] (xs[j-1]' om)=false)/\o6 w d) (λi=>xs.length-i) 1 ?_ ?_
 .simp only[B8,simprocAttr];exact⟨tt,dP,om,λj _ h1 H=>om,p6.refl _⟩
 rintro i f G ⟨e0,_⟩ ⟨h3,aZ,a2,Q,x⟩;simp only[eH,simprocAttr,h3,e0,W,hn];refine A3 (λD=>?_) ?_;rotate_left
 .rintro rfl;simp only[i4,simprocAttr,e0];refine o8 results113 ?_;simp only[B8,simprocAttr];have:=aj8 bz9 xs xs.length (ek6 _) Q;rw[ek4]at this;exact⟨by rw[this];exact o.ext x,p6.up x,λb X=>X⟩
 have K:i-1<xs.length:=om
 have hR:R (i5 G) v xs:=(o.ext x).rw_ (p7 hh (b7 x));have aB:=o.inS D;have ab:=o.inS K;have aJ:IntKind.i64.wrap ((i:Int)-1)=((i-1:Nat):Int):=by rw[M7 _ om];omega
 obtain⟨vx,aH,_,sx⟩:=(hR.at_ (ej0 D)).eg_v;obtain⟨vy,aI,_,sy⟩:=(hR.at_ (ej0 K)).eg_v;obtain rfl:=aH.N;obtain rfl:=aI.N;have s1:=sx (λd=>o6 G.drew d) G.drew (p6.refl _) λd h=>b7 ((o6.drew G).trans h);have s2:=sy (λd=>o6 G.drew d) G.drew (p6.refl _) λd h=>b7 ((o6.drew G).trans h);rw[U]at s1 s2;have r:=x.trans (o6.drew G);have S:=λw0 a b=>dH8 w0 a b xs[i] xs[i-1];have aE:decide (xs[i]=xs[i-1])=bz9 xs[i] xs[i-1]:=rfl;rw[aE]at S;simp only[i4,simprocAttr];refine C0 (λd=>o6 G.drew d) 9 (A7 [0,1,2,3,4,5,6,7,8]) ?_;simp only[D7,A7,i4,n9,A0,simprocAttr,h3,e0,aB,ab,aJ,s1,s2];rcases ej1 (bz9 xs[i] xs[i-1])with hq|hq;rotate_left
 .simp only[eH,simprocAttr,S6,p8.cells,S,hq,h3];refine nx4 (i+1) ⟨λj J h1 H=>?_,r⟩;rcases en2 j i with h|h
  .exact Q j J h1 h
  .obtain rfl:j=i:=om
   exact hq
 have c1:decide ((i:Int)<=(xs.length:Int))=true:=by simp;omega
 have c2:decide ((xs.length:Int)<=(vcap v:Int))=true:=by simp;omega
 have hd:∀k:Nat,isS (reS v k xs.length 9)=true/\vlen (reS v k xs.length 9)=xs.length-k:=λk=>by
  rcases o with⟨rfl,rfl⟩|⟨b,c,aY,rfl,_⟩
  .exact⟨rfl,rfl⟩
  .exact⟨rfl,rfl⟩
 obtain⟨au,aD⟩:=hd i;have a3:((xs.length-i:Nat):Int)=(xs.length:Int)-i:=om
 simp only[i4,n9,M4,simprocAttr,S6,p8.cells,S,hq,h3,e0,W,hn,c1,c2];refine A9 [0,4] (σ:=Nat×Nat×List Eg) (λs f d=>f 5 = .int .i64 s.1/\f 3 = .int .i64 s.2.1/\1<=s.1/\i+s.1<=xs.length/\s.2.1+1<=i+s.1/\s.2.2.length=xs.length/\B0 h d 54 v s.2.2/\(∀j (J:j<xs.length) (M:j<s.2.2.length),i+s.1<=j+1->s.2.2[j]=xs[j])/\s.2.2.take s.2.1=ap3 bz9 (xs.take (i+s.1))/\p6 (A5 v) w d) (λs=>xs.length-(i+s.1)) (1,i,xs) ?_ ?_
 .simp only[B8,simprocAttr];refine⟨tt,tt,tt,om,om,tt,o.ext r,λj _ _ _=>tt,?_,p6.up r⟩;rw[aA5 bz9 xs D om,if_pos hq,aj8 bz9 xs i om Q]
 rintro⟨m,c,A⟩ f4 n ⟨g0,g6,_⟩ ⟨V,B,ap,aA,ax,z,p,l,g,N⟩;simp only at V B ap aA ax z p l g;rw[e0]at g0;have az:E2 h (i5 n):=G4 hh N λb X=>o.free X;have ae:decide ((m:Int)<((xs.length-i:Nat):Int))=decide (i+m<xs.length):=by rw[eo4];omega
 simp only[eH,simprocAttr,V,g6,au,aD,ae];refine A8 (λhc=>?_) (λhc=>?_)
 .have E:i+m<xs.length:=ej3 hc;have aC:i+m-1<xs.length:=om
  have ar:R (i5 n) v A:=p.rw_ az;have e:=ch2 ar (show i<=xs.length by omega) (show xs.length<=A.length by omega);rw[U]at e;have aL:(A.take xs.length).drop i=A.drop i:=by rw[<-z,ek4]
  rw[aL]at e;have Z:(A.drop i)[m]?=some xs[i+m]:=by
   rw[et5,ej0 om,l (i+m) E om om]
  have aa:(A.drop i)[m-1]?=some xs[i+m-1]:=by
   rw[et5,show i+(m-1)=i+m-1 by omega,ej0 om,l (i+m-1) aC om om]
  have I:=e.inS (ej5.1 Z).1;have ac:=e.inS (ej5.1 aa).1;have aK:IntKind.i64.wrap ((m:Int)-1)=((m-1:Nat):Int):=by rw[M7 _ om];omega
  obtain⟨ux,aF,lx,tx⟩:=(e.at_ Z).eg_v;obtain⟨uy,aG,_,ty⟩:=(e.at_ aa).eg_v;obtain rfl:=aF.N;obtain rfl:=aG.N;have t1:=tx (λd=>o6 n.drew d) n.drew (p6.refl _) λd h=>b7 ((o6.drew n).trans h);have t2:=ty (λd=>o6 n.drew d) n.drew (p6.refl _) λd h=>b7 ((o6.drew n).trans h);rw[U]at t1 t2 lx;have q:=λw0 a b=>dJ7 w0 a b xs[i+m] xs[i+m-1];have aj:decide (xs[i+m]=xs[i+m-1])=bz9 xs[i+m] xs[i+m-1]:=rfl;rw[aj]at q;simp only[i4,simprocAttr];refine C0 (λd=>o6 n.drew d) 9 (A7 [0,1,2,3,4,5,6,7,8]) ?_;simp only[D7,A7,i4,n9,A0,simprocAttr,V,g6,I,ac,aK,t1,t2];have y:=o6.drew n;have ah:=p.ext y;have af:p6 (A5 v) w n.drew:=N.chain (p6.up y) λ_ _ h=>h;have C:=aA5 bz9 xs (k:=i+m) E om;rcases ej1 (bz9 xs[i+m] xs[i+m-1])with hq4|hq4
  .rw[if_pos hq4]at C;simp only[eH,simprocAttr,S6,p8.cells,q,hq4,V];refine nx2 (m+1,c,A) ⟨B,so,so,so,z,ah,λj J M h=>l j J M (by simp only at h;omega),?_,af⟩;simp only[];rw[g,<-C,et9]
  .rw[if_neg (by rw[hq4];simp)]at C;have L:c<A.length:=om
   have ak:=lx n.drew (b7 y);obtain⟨w6,T,F,O⟩:=bd4 (P:=prog) (t:=54) ah bm4 aw5 L xs[i+m];rw[U]at T;have ad:=p.inS L;simp only[p8.cells]at ak T;simp only[i4,n9,A0,simprocAttr,S6,p8.cells,q,hq4,B,g0,g6,V,I,ad,ak,T];refine⟨(m+1,c+1,A.set c xs[i+m]),so,by simp only[];rw[J2 m],by simp only[];rw[J2 c],so,so,so,by simp only[eq3];exact z,F,λj J M h=>?_,?_,af.chain O λ_ _ h=>h⟩
   .simp only at h ⊢;rw[List.getElem_set_ne om];exact l j J om om
   .simp only[];have ay:c<(A.set c xs[i+m]).length:=by simpa using L
    rw[ej8 ay,List.getElem_set_self,List.take_set_of_le (ek6 _),g,<-C,et9]
 .have E:i+m=xs.length:=by have:=ej6 hc;omega
  rw[E,ek4]at g;have aw:c<A.length:=om
  have c3:decide ((c:Int)<=(xs.length:Int))=true:=by simp;omega
  have c4:decide ((c:Int)<=(vcap v:Int))=true:=by simp;omega
  obtain⟨w6,T,F,O,Y⟩:=br0 (P:=prog) (t:=49) (ty:=0) p rfl cM3 rfl (by simp[Value.cells,Value.oneCell']) aw;rw[z,U]at T;rw[U]at F Y;simp only[i4,n9,M4,simprocAttr,bI2,B,g0,W,hn,c2,c3,c4,T];exact o8 results113 ⟨by rw[<-g];exact F,N.chain O λ_ _ h=>h,Y⟩
def bb9{h:Hp}{w:World}{v:Value}{xs:List Eg}(j:B0 h w 54 v xs)(i:xs.length<=1000000000)(o:E2 h (i5 w)):
  y5 prog 72 #[v] w λu k=>(B0 h k 54 u (av2 xs)/\p6 (A5 v) w k/\∀b,A5 u b->A5 v b):=by
 refine z6 [v] func72 rfl ?_;simp only[eH,simprocAttr];refine y4 (cs5 j i λa _ b _ l m=>de3 (dC7.eq0 l m)) ?_;rintro _ p ⟨f,c⟩;simp only[i4,simprocAttr];refine y4 (cx5 f (by rw[(I0 _ _).length_eq];exact i) (G4 o c λb n=>j.free n)) ?_;rintro u q ⟨g,e,d⟩;simp only[i4,simprocAttr];exact o8 results72 ⟨g,c.trans e,d⟩
def dy1{w c d:World}(f:w.heap.size<c.heap.size){α:Type}[A6 α][p8 α]{T:TypeId}{u:Value}{l:List α}(a:B0 (i5 c) d T u l):R (D0 d (nP w.heap.size (.slice none 0 0))) u l:=
 a.flatRN λb e=>E4 λh=>by
  have:=C9 (a.free e);rcases h with h|h|h|h
  .omega
  .exact absurd h D8
  .exact absurd h D8
  .exact h.elim
def bl5(q:B3)(v:Vx):(J3 q v).length<=1:=by
 unfold J3;split
 .simp
 .split<;>simp
def dD7(w:World)(y:Vx):∃a,(Instr.alloc 27 true (.tuple #[])).run prog w = .ok (.pointer (some ⟨w.heap.size,0,none⟩)) a /\
  (Instr.storeAt 27 (.pointer (some ⟨w.heap.size,0,none⟩)) (.agg (p8.cells y).toArray)).run prog a = .ok () (w.alloc (.cells (p8.cells y).toArray 27)):=by
 have h:=aI8 (P:=prog) (w:=w) (T:=27) aV1 rfl (cs:=(p8.cells y).toArray) (by rw[P5];rfl) (λu b=>Z0 y u (by simpa using b));exact⟨_,h.1,h.2⟩
def dW1{w:World}{c:Nat}{y:Vx}(d:w.heap[c]?=some (.cells (p8.cells y).toArray 27 (0,0)))(z:Vx):∃a,(Instr.storeAt 27 (.pointer (some ⟨c,0,none⟩)) (.agg (p8.cells z).toArray)).run prog w = .ok () a/\a.heap[c]?=some (.cells (p8.cells z).toArray 27 (0,0))/\p6 (λb=>b=c) w a:=
 aj3 (P:=prog) (T:=27) d aV1 (by rw[P5];rfl) (by rw[P5];rfl) (λu e=>Z0 z u (by simpa using e))
def dR9{w:World}{c:Nat}{y:Vx}(a:w.heap[c]?=some (.cells (p8.cells y).toArray 27 (0,0))):(Instr.loadAt 27 (.pointer (some ⟨c,0,none⟩))).run prog w = .ok (.agg (p8.cells y).toArray) w:=
 af6 a aw3 aw6 ap5 (by rw[P5];rfl)
def cN6(a:Addr)(p:Pg)(i:Nat)(w:World)(ha:At (i5 w) a (b9 p))(hr:E6 p)(hw:C4 p<=1000000)(hi:i<p.procs.length):
  y5 prog 87 #[.pointer (some a),.int .i64 i] w λu o=>(B0 (i5 w) o 54 u ((b9 p).edges (i:Int))/\o6 w o):=by
 refine z6 [.pointer (some a),.int .i64 i] func87 rfl ?_;obtain⟨x,pt⟩:=K9 hr.may hw i hi;have cZ:=U4 pt;obtain⟨sh,vw,vd,_,vi,vo,has,bU,dX,_,dZ,d0,cc,ed⟩:=ha.book rfl;obtain⟨_,_,_,_,_,_,bP,_,_⟩:=has.sh;rw[N7]at bP;obtain⟨vg,vp,dY,bT,db,ee⟩:=bP.pg;obtain⟨aw,bK,bH⟩:=aC0 (hv:=bU) (k:=i) (p:=⟨F5 (d9 p) i⟩) (by show((L7 p).map λw=>(⟨w⟩:Ptr Wy))[i]?=_;rw[em8,aa1 hi];rfl);simp only at bH;have aQ:=bU.inS (k:=i) (by show i<((L7 p).map λw=>(⟨w⟩:Ptr Wy)).length;unfold L7;simpa using hi);have lb:=cc w (n7 _);have lp:=db w (n7 _);have hF:(b9 p).edge0 (i:Int)=(F5 (d9 p) i).decides.map (aj9 p.procs[i].name)++((b9 p).verts (i:Int)).flatMap (J3 p.procs[i].name)++((b9 p).flows (i:Int)).flatMap λf=>((b9 p).takers p.procs[i].name f.dst f.var).map λv=>(⟨(b9 p).giver p.procs[i].name f.src f.var,v,2⟩:Eg):=by
  unfold Bk.edge0;rw[U1 hi,O9 hi]
 have bN:=bv2 hr hw hi;have cL:=aY6 hr hw hi;have cM:=bR8 hr hw hi;have be:∀f∈(b9 p).flows (i:Int),(f.src=0\/Mid p f.src)/\(f.dst = -1\/Mid p f.dst):=λf hf=>bw0 hr hw hi hf;have l:=bT.inS hi;obtain⟨sv,s,g⟩:=H1 (P:=prog) (t:=68) bT (n7 _) (ej0 hi) aD3 aD5 aw4 U0;rw[U0]at g;obtain⟨cs,rfl,I,J,L,M,rfl,_⟩:=s;generalize p.procs[i].name=q at hF g;have cF:=ci3 a (i:Int) q I J L M;have cG:(Instr.box 199 (.agg (L0 a i q I J L M (.slice none 0 0) (.slice none 0 0)))).run prog w = .ok (.pointer (some ⟨w.heap.size,0,none⟩)) (w.alloc (.cells (L0 a i q I J L M (.slice none 0 0) (.slice none 0 0)) 199)):=rfl;have cW:Value.string {data:=#[]}=t8 e0:=rfl;simp only[i4,n9,A0,simprocAttr,lb,lp,l,g,cF,cG,cW];have bY:=o6.alloc w (.cells (L0 a i q I J L M (.slice none 0 0) (.slice none 0 0)) 199);have aS:w.heap.size<(w.alloc (.cells (L0 a i q I J L M (.slice none 0 0) (.slice none 0 0)) 199)).heap.size:=dP
 have bI:=em9 w (.cells (L0 a i q I J L M (.slice none 0 0) (.slice none 0 0)) 199);generalize cY:w.alloc (.cells (L0 a i q I J L M (.slice none 0 0) (.slice none 0 0)) 199)=w1 at bY aS bI;refine B6 (M1 w.heap.size _ _ q 1 0 e0 w1 bI rfl) (λw2 bX=>?_);obtain⟨de,wz,w4,bD,bR,c0,bG⟩:=aF6 (w:=w2) (nP w.heap.size (.slice none 0 0)) (SV.ofN (i5 w2) ⟨q,1,0,e0⟩) λb hb=>by
  have:=bX.size;rcases hb with h|h|h|h
  .omega
  .exact absurd h D8
  .exact absurd h D8
  .exact h.elim
 have ay:=bX.trans c0;have ad:=bY.trans ay;have ca:=cc w4 (b7 ad);have bL:=J7 (P:=prog) (t:=160) bK (b7 ad) aD2;simp only[i4,n9,A0,simprocAttr,bD,bR,ca,aQ,bL];refine y4 (cg4 aw _ p i x _ w4 (bH.mono (b7 ad)) hr hw hi cZ) ?_;rintro ud w5 ⟨cS,bk⟩;have bV:=ad.trans bk;have U:=dy1 (eq5 aS ay.size) cS;have ao:=bG.mono (K8 (N':=nP w.heap.size (.slice none 0 0)) bk (λ_ h=>h.elim) λb h=>.inl h);have ae:=ay.trans bk;rw[<-cY]at ae;have s5:=(PV.new a i q I J L M ae).2;have ap:=cK3 bV;generalize dW:w.heap.size=B at s5 U ao ap;generalize dS:D0 w5 (nP B (.slice none 0 0))=H0 at s5 U ao ap;obtain⟨cb,_⟩:=L8.vx_v (SV.ofN (i5 w2) (⟨q,1,0,Go.Proofs.YtpebpfiglfmegaaGreat.e0⟩:Vx)) ao;generalize(F5 (d9 p) i).decides=D at hF bN U;have cz:=U.isS;have cO:=U.vlen;clear l g;simp only[eH,simprocAttr,cz,cO];refine E8 [0,1,5,6,41,42] (σ:=Nat×Value) (λt f o=>f 43 = .int .i64 t.1/\t.1<=D.length/\PE H0 w o B a i q I J L M t.2 ((D.take t.1).map (aj9 q))) (λt=>D.length-t.1) (0,.slice none 0 0) ?_ ?_
 .simp only[B8,simprocAttr];exact⟨tt,ek1 _,by simpa using s5⟩
 clear s5;rintro⟨k,v⟩ f w5 hk ⟨aI,bf,s5⟩;simp only at aI bf s5;simp only[em0,B8,simprocAttr]at hk;obtain⟨bz,e1,e5,e6,ct,cu,_⟩:=hk;simp only[eH,simprocAttr,aI,cu];refine A8 (λhc=>?_) (λhc=>?_)
 .have A:k<D.length:=by simpa using hc
  have l:=U.inS A;have g:=di1 U s5.hb (ej0 A);have Q:=aU0 (aj9 q) D A;have cH:((D.take k).map (aj9 q)).length<=1000000000:=by rw[ek2,ek3];omega
  generalize D[k]=d at g Q;obtain⟨c8,ej,w6,bE,bS,bl,bJ,dx⟩:=dq9 (w:=w5) d.1 d.2;have s6:=s5.more bl;have c9:=cb w6 s6.hb;obtain⟨ek,bF,aR⟩:=dD7 w6 ⟨q,1,0,Go.Proofs.YtpebpfiglfmegaaGreat.e0⟩;have az:=o6.alloc w6 (.cells (p8.cells (⟨q,1,0,Go.Proofs.YtpebpfiglfmegaaGreat.e0⟩:Vx)).toArray 27);have aK:=em9 w6 (.cells (p8.cells (⟨q,1,0,Go.Proofs.YtpebpfiglfmegaaGreat.e0⟩:Vx)).toArray 27);generalize w6.alloc (.cells (p8.cells (⟨q,1,0,Go.Proofs.YtpebpfiglfmegaaGreat.e0⟩:Vx)).toArray 27)=w7 at aR az aK;obtain⟨l8,_⟩:=ay0 bJ az id;simp only[cY6,n9,A0,simprocAttr,aI,ct,e6,l,g,bE,bS,c9,bF,aR,l8];refine bT0 [0,1,5,6,8,9,41,42,43] (λf' o=>o6 w6 o/\o.heap[w6.heap.size]?=some (.cells (p8.cells (aj9 q d).src).toArray 27 (0,0))) ?_ ?_
  .rcases ej1 (decide (d.1=0))with h0|h0
   .simp only[eH,simprocAttr,h0];refine⟨az,?_⟩;unfold aj9;rw[if_pos (ej3 h0)];exact aK
   .simp only[i4,n9,A0,simprocAttr,h0,e5,l8];refine B6 (M1 B _ _ q 2 d.1 Go.Proofs.YtpebpfiglfmegaaGreat.e0 w7 (s6.more az).cb rfl) (λr H=>?_);obtain⟨w9,q1,q2,q3⟩:=dW1 (c:=w6.heap.size) ((H.block _ (ej4.1 aK).1 id).trans aK) ⟨q,2,d.1,Go.Proofs.YtpebpfiglfmegaaGreat.e0⟩;simp only[i4,simprocAttr,q1];refine⟨p6.ext_of (az.trans H) q3 λb hb=>by rw[hb];exact ek6 _,?_⟩;unfold aj9;rw[if_neg (ej6 h0)];exact q2
  rintro f8 r hk ⟨H,aO⟩;simp only[em0,B8,simprocAttr]at hk;obtain⟨g0,g1,g5,g6,g8,g9,dM,dN,cw,_⟩:=hk;have S:=(s6.more H).more (o6.drew r);have t1:∀K f d' Z,F8 prog (λo=>o6 r.drew o) (Instr.loadAt 27 (.pointer (some ⟨w6.heap.size,0,none⟩))) K f d' Z=K (C5 f d' (.agg (p8.cells (aj9 q d).src).toArray)) Z:=λK f d' Z=>B7 (w0:=r.drew) (p6.refl _) λo h=>dR9 ((((o6.drew r).trans h).block _ (ej4.1 aO).1 id).trans aO);have t2:∀K f d' Z,F8 prog (λo=>o6 r.drew o) (Instr.loadAt 3 (.pointer (some ⟨c8,1,none⟩))) K f d' Z=K (C5 f d' (.int .i64 d.2)) Z:=λK f d' Z=>B7 (w0:=r.drew) (p6.refl _) λo h=>(ay0 bJ (H.trans ((o6.drew r).trans h)) id).2;simp only[i4,simprocAttr];refine C0 (λo=>o6 r.drew o) 6 (A7 [0,1,2,3,4,5]) ?_;simp only[D7,A7,i4,n9,A0,simprocAttr,g5,e5,g8,g9,t1,t2];refine B6 (M1 B _ _ q 2 d.2 Go.Proofs.YtpebpfiglfmegaaGreat.e0 r.drew S.cb rfl) (λw9 R=>⟨R,?_⟩);simp only[fc,simprocAttr];refine y4 (aq6 H0 B a i q I J L M v _ (aj9 q d).src ⟨q,2,d.2,Go.Proofs.YtpebpfiglfmegaaGreat.e0⟩ 1 w w9 (S.more R) cH) ?_;rintro _ ak ⟨aD,F⟩;simp only[eH,simprocAttr,cw,aI];refine⟨(k+1,aD),om,el1 _ (J2 k om),om,?_⟩;simp only[];rw[Q];exact F
 have T:k=D.length:=by simp at hc;omega
 subst T;rw[ek4]at s5;have cD:E2 (i5 w) (i5 w5):=p7 ap s5.hb;clear bK bL lb lp ca aQ;simp only[i4,simprocAttr,bz,e1];refine y4 (bf7 a p i w5 (ha.mono cD) hr hw hi) ?_;rintro uv w6 ⟨cV,bl⟩;have s6:=s5.more bl;have ah:=s5.freshN cV;have b6:=s6.base;have s6:=s6.rebase (n7 _);generalize dT:D0 w6 (nP B v)=K2 at s6 ah b6;generalize(b9 p).verts (i:Int)=V at hF cL ah;have bB:(D.map (aj9 q)).length<=41000:=by rw[ek2];exact bN
 generalize D.map (aj9 q)=L1 at s6 hF bB;have cC:=ah.isS;have cR:=ah.vlen;clear s5;simp only[eH,simprocAttr,cC,cR];refine E8 [0,1,5,6,65,66] (σ:=Nat×Value) (λt f o=>f 67 = .int .i64 t.1/\t.1<=V.length/\PE K2 w o B a i q I J L M t.2 (L1++(V.take t.1).flatMap (J3 q))) (λt=>V.length-t.1) (0,v) ?_ ?_
 .simp only[B8,simprocAttr];exact⟨tt,ek1 _,by simpa using s6⟩
 clear s6;rintro⟨m,v2⟩ f2 w7 hk ⟨C,cK,s7⟩;simp only at C cK s7;simp only[em0,B8,simprocAttr]at hk;obtain⟨a0,a1,a5,a6,am,cp,_⟩:=hk;rw[bz]at a0;rw[e1]at a1;rw[e5]at a5;rw[e6]at a6;have ar:(L1++(V.take m).flatMap (J3 q)).length<=80000:=by
  have h1:=P9 (J3 q) 1 (V.take m) λz _=>bl5 q z;rw[ek3]at h1;rw[ej2];have h2:min m V.length<=30000:=om
  omega
 simp only[eH,simprocAttr,C,cp];refine A8 (λhc=>?_) (λhc=>?_)
 .have A:m<V.length:=by simpa using hc
  have l:=ah.inS A;obtain⟨sv,s,g⟩:=H1 (P:=prog) (t:=27) ah (s7.hb) (ej0 A) aw3 aw6 ap5 P5;rw[P5]at g;have Q:=J9 (J3 q) V A;generalize V[m]=y at s Q;obtain rfl:=s.N;obtain⟨d8,el,r,N,O,H,aN⟩:=aO6 (s.mono s7.hb) (n7 _);obtain⟨dd,dh⟩:=aN.vx;obtain⟨sv,ax,df,di⟩:=aN.vx_v;obtain rfl:=ax.N;have l8:=dd r (n7 _);have ce:=df r (n7 _);have S:=s7.more H;have b4:=cb r (p7 b6 S.hb);have aC:=S.more (o6.drew r);have t1:=di (λo=>o6 r.drew o) r.drew (p6.refl _) λo h=>b7 ((o6.drew r).trans h);have t2:=dh (λo=>o6 r.drew o) r.drew (p6.refl _) λo h=>b7 ((o6.drew r).trans h);generalize bm:L1++(V.take m).flatMap (J3 q)=xs at s7 S aC ar;have E:L1++(V.take (m+1)).flatMap (J3 q)=xs++J3 q y:=by rw[Q,<-bm,el9]
  rcases ej1 (decide (y.kind=3))with h3|h3
  .have hs:J3 q y=[⟨⟨q,1,0,Go.Proofs.YtpebpfiglfmegaaGreat.e0⟩,y,1⟩]:=by unfold J3;rw[if_pos (.inl (ej3 h3))]
   simp only[i4,n9,A0,simprocAttr,C,am,l,g,N,O,l8,h3,a5,a6,b4,ce];refine y4 (aq6 K2 B a i q I J L M v2 _ ⟨q,1,0,Go.Proofs.YtpebpfiglfmegaaGreat.e0⟩ y 1 w r S om) ?_;rintro _ w9 ⟨v9,Y⟩;simp only[eH,simprocAttr,C];refine⟨(m+1,v9),om,el1 _ (J2 m om),om,?_⟩;simp only[];rw[E,hs];exact Y
  rcases ej1 (decide (y.kind=4))with h4|h4
  .have hs:J3 q y=[⟨⟨q,1,0,Go.Proofs.YtpebpfiglfmegaaGreat.e0⟩,y,1⟩]:=by unfold J3;rw[if_pos (.inr (ej3 h4))]
   simp only[i4,n9,A0,simprocAttr,C,am,l,g,N,O,l8,h3,h4,a5,a6,b4,ce];refine y4 (aq6 K2 B a i q I J L M v2 _ ⟨q,1,0,Go.Proofs.YtpebpfiglfmegaaGreat.e0⟩ y 1 w r S om) ?_;rintro _ w9 ⟨v9,Y⟩;simp only[eH,simprocAttr,C];refine⟨(m+1,v9),om,el1 _ (J2 m om),om,?_⟩;simp only[];rw[E,hs];exact Y
  have av:¬(y.kind=3\/y.kind=4):=λh=>h.elim (ej6 h3) (ej6 h4);rcases ej1 (decide (y.kind=5))with h5|h5
  .have hs:J3 q y=[⟨⟨q,2,y.id,Go.Proofs.YtpebpfiglfmegaaGreat.e0⟩,y,1⟩]:=by unfold J3;rw[if_neg av,if_pos (.inl (ej3 h5))]
   simp only[i4,n9,A0,simprocAttr,C,am,l,g,N,O,l8,h3,h4,h5];refine C0 (λo=>o6 r.drew o) 6 (A7 [0,1,2,3,5,4]) ?_;simp only[D7,A7,i4,n9,simprocAttr,a5,t1,t2];refine B6 (M1 B _ _ q 2 y.id Go.Proofs.YtpebpfiglfmegaaGreat.e0 r.drew aC.cb rfl) (λw9 R=>⟨R,?_⟩);simp only[fc,simprocAttr];refine y4 (aq6 K2 B a i q I J L M v2 _ ⟨q,2,y.id,Go.Proofs.YtpebpfiglfmegaaGreat.e0⟩ y 1 w w9 (aC.more R) om) ?_;rintro _ ak ⟨aD,F⟩;simp only[eH,simprocAttr,C];refine⟨(m+1,aD),om,el1 _ (J2 m om),om,?_⟩;simp only[];rw[E,hs];exact F
  rcases ej1 (decide (y.kind=6))with h6|h6
  .have hs:J3 q y=[⟨⟨q,2,y.id,Go.Proofs.YtpebpfiglfmegaaGreat.e0⟩,y,1⟩]:=by unfold J3;rw[if_neg av,if_pos (.inr (ej3 h6))]
   simp only[i4,n9,A0,simprocAttr,C,am,l,g,N,O,l8,h3,h4,h5,h6];refine C0 (λo=>o6 r.drew o) 6 (A7 [0,1,2,3,5,4]) ?_;simp only[D7,A7,i4,n9,simprocAttr,a5,t1,t2];refine B6 (M1 B _ _ q 2 y.id Go.Proofs.YtpebpfiglfmegaaGreat.e0 r.drew aC.cb rfl) (λw9 R=>⟨R,?_⟩);simp only[fc,simprocAttr];refine y4 (aq6 K2 B a i q I J L M v2 _ ⟨q,2,y.id,Go.Proofs.YtpebpfiglfmegaaGreat.e0⟩ y 1 w w9 (aC.more R) om) ?_;rintro _ ak ⟨aD,F⟩;simp only[eH,simprocAttr,C];refine⟨(m+1,aD),om,el1 _ (J2 m om),om,?_⟩;simp only[];rw[E,hs];exact F
  have hs:J3 q y=[]:=by
   unfold J3;rw[if_neg av,if_neg λh=>h.elim (ej6 h5) (ej6 h6)]
  simp only[i4,n9,A0,simprocAttr,C,am,l,g,N,O,l8,h3,h4,h5,h6];refine⟨(m+1,v2),om,el1 _ (J2 m om),om,?_⟩;simp only[];rw[E,hs,em5];exact S
 have T:m=V.length:=by simp at hc;omega
 subst T;rw[ek4]at s7 ar;have cE:E2 (i5 w) (i5 w7):=p7 ap (p7 b6 s7.hb);simp only[i4,simprocAttr,a0,a1];refine y4 (cN7 a p i w7 (ha.mono cE) hr hw hi) ?_;rintro uf r ⟨cT,H⟩;have S:=s7.more H;have af:=s7.freshN cT;have b8:=p7 b6 S.base;have S:=S.rebase (n7 _);generalize dU:D0 r (nP B v2)=K3 at S af b8;generalize(b9 p).flows (i:Int)=Fl at hF cM be af;generalize L1++V.flatMap (J3 q)=L2 at S hF ar;generalize hG:(λf:Fw=>((b9 p).takers q f.dst f.var).map λv=>(⟨(b9 p).giver q f.src f.var,v,2⟩:Eg))=G at hF;have bA:∀f:Fw,G f=((b9 p).takers q f.dst f.var).map λv=>(⟨(b9 p).giver q f.src f.var,v,2⟩:Eg):=λf=>by rw[<-hG]
 have cy:∀f∈Fl,(G f).length<=9:=λf hf=>by
  rw[bA,ek2];exact be3 hr hw (be f hf).2
 have cA:=af.isS;have cP:=af.vlen;clear s7 hG;simp only[eH,simprocAttr,cA,cP];refine E8 [0,1,5,6,93,94] (σ:=Nat×Value) (λt f o=>f 95 = .int .i64 t.1/\t.1<=Fl.length/\PE K3 w o B a i q I J L M t.2 (L2++(Fl.take t.1).flatMap G)) (λt=>Fl.length-t.1) (0,v2) ?_ ?_
 .simp only[B8,simprocAttr];exact⟨tt,ek1 _,by simpa using S⟩
 clear S;rintro⟨k,v3⟩ f3 w9 hk ⟨aJ,bf,Y⟩;simp only at aJ bf Y;simp only[em0,B8,simprocAttr]at hk;obtain⟨b0,b1,b5,dH,cq,cr,_⟩:=hk;rw[a5]at b5;have aP:(L2++(Fl.take k).flatMap G).length<=50000000:=by
  have h1:=P9 G 9 (Fl.take k) λz hz=>cy z (er2 hz);rw[ek3]at h1;rw[ej2];have h2:min k Fl.length<=5000000:=om
  omega
 have bb:E2 (i5 w) K3:=p7 ap b8;simp only[eH,simprocAttr,aJ,cr];refine A8 (λhc=>?_) (λhc=>?_);rotate_left
 .have T:k=Fl.length:=by simp at hc;omega
  subst T;rw[ek4]at Y aP;have l9:(Instr.loadAt 49 (.pointer (some ⟨B,8,none⟩))).run prog w9 = .ok v3 w9:=F4 (i:=8) (u:=v3) Y.cb rfl bm3;simp only[eH,simprocAttr,b5,l9];refine y4 (bb9 Y.ox om (B4 _ _)) ?_;rintro u ak ⟨bO,bM,_⟩;simp only[i4,simprocAttr];refine o8 results87 ?_;simp only[B8,simprocAttr];refine⟨?_,p6.ext_of Y.ext bM λb hb=>(Y.dx b hb).1⟩;have e:(b9 p).edges (i:Int)=av2 (L2++Fl.flatMap G):=by unfold Bk.edges;rw[hF]
  rw[e];exact bO.downN (p7 bb Y.base)
 have A:k<Fl.length:=by simpa using hc
 have l:=af.inS A;obtain⟨sv,s,g⟩:=H1 (P:=prog) (t:=213) af (Y.hb) (ej0 A) dn7 dp2 cE2 bL5;rw[bL5]at g;have Q:=J9 G Fl A;obtain⟨bQ,bg⟩:=be _ (ek0 A);generalize Fl[k]=fl at s Q bQ bg;obtain⟨dJ,dD,ak,a2,bh,bW,a7⟩:=dA6 (s.mono Y.hb) (n7 _);obtain⟨cd,_⟩:=a7.fw;have c6:=cd ak (n7 _);have F:=Y.more bW;simp only[i4,n9,A0,simprocAttr,aJ,cq,l,g,a2,bh,c6,b5];refine B6 (cS6 B _ _ a p q fl.src fl.var ak F.cb rfl rfl (ha.mono (p7 bb F.hb)) hr hw bQ) (λbp aU=>?_);have bn:=F.more aU;have aZ:=bA fl;generalize(b9 p).giver q fl.src fl.var=gv at aZ;obtain⟨dK,dE,ch,a3,bi,aV,a8⟩:=aF6 (w:=bp) (nP B v3) (SV.ofN (i5 bp) gv) λb hb=>bn.lt hb;have aA:=bn.more aV;have c7:=cd ch (b7 (aU.trans aV));simp only[eH,simprocAttr,a3,bi,c7,b5];refine y4 (cD5 B _ _ a p q fl.dst fl.var ch aA.cb rfl rfl (ha.mono (p7 bb aA.hb)) hr hw bg) ?_;rintro ut dl ⟨cU,aW⟩;have W:=aA.more aW;have ag:=aA.freshN cU;have an:=a8.mono (K8 (N':=nP B v3) aW (λ_ h=>h.elim) λb h=>.inl h);have bw:=W.base;have W:=W.rebase (n7 _);generalize dV:D0 dl (nP B v3)=K4 at W ag an bw;obtain⟨da,_⟩:=L8.vx_v (SV.ofN (i5 bp) gv) an;have cX:=be3 hr hw (q:=q) (n:=fl.var) bg;generalize(b9 p).takers q fl.dst fl.var=Tk at aZ ag cX;generalize bm:L2++(Fl.take k).flatMap G=xs at W aP;have E:L2++(Fl.take (k+1)).flatMap G=xs++Tk.map λv=>(⟨gv,v,2⟩:Eg):=by rw[Q,aZ,<-bm,el9]
 have cB:=ag.isS;have cQ:=ag.vlen;clear Y F bn aA;simp only[eH,simprocAttr,cB,cQ];refine E8 [0,1,5,6,14,93,94,95,110,111] (σ:=Nat×Value) (λt f o=>f 112 = .int .i64 t.1/\t.1<=Tk.length/\PE K4 w o B a i q I J L M t.2 (xs++(Tk.take t.1).map λv=>(⟨gv,v,2⟩:Eg))) (λt=>Tk.length-t.1) (0,v3) ?_ ?_
 .simp only[B8,simprocAttr];exact⟨tt,ek1 _,by simpa using W⟩
 clear W;rintro⟨j,v4⟩ f4 eh hk ⟨aa,cJ,X⟩;simp only at aa cJ X;simp only[em0,B8,simprocAttr]at hk;obtain⟨j0,j1,j5,j6,c5,d2,d3,b3,bZ,b2,_⟩:=hk;rw[b5]at j5;rw[aJ]at b3;simp only[eH,simprocAttr,aa,b2];refine A8 (λbc=>?_) (λbc=>?_);rotate_left
 .have T:j=Tk.length:=by simp at bc;omega
  subst T;rw[ek4]at X;simp only[eH,simprocAttr,b3];refine⟨(k+1,v4),om,el1 _ (J2 k om),om,?_⟩;simp only[];rw[E];exact X.rebase (p7 bw X.base)
 have au:j<Tk.length:=by simpa using bc
 clear l g s;have l:=ag.inS au;obtain⟨sv,s,g⟩:=H1 (P:=prog) (t:=27) ag (X.hb) (ej0 au) aw3 aw6 ap5 P5;rw[P5]at g;have aT:=aU0 (λv=>(⟨gv,v,2⟩:Eg)) Tk au;have bd:(xs++(Tk.take j).map λv=>(⟨gv,v,2⟩:Eg)).length<=1000000000:=by
  rw[ej2,ek2,ek3];omega
 generalize Tk[j]=tv at s aT;obtain rfl:=s.N;obtain⟨dL,dF,bq,a4,bj,ae,a9⟩:=aO6 (s.mono X.hb) (n7 _);obtain⟨sv,ax,dc,_⟩:=a9.vx_v;obtain rfl:=ax.N;have cf:=X.more ae;have lg:=da bq cf.hb;have lt:=dc bq (n7 _);simp only[i4,n9,A0,simprocAttr,aa,bZ,l,g,a4,bj,j5,c5,lg,lt];refine y4 (aq6 K4 B a i q I J L M v4 _ gv tv 2 w bq cf bd) ?_;rintro _ ei ⟨dj,dg⟩;simp only[eH,simprocAttr,aa];refine⟨(j+1,dj),om,el1 _ (J2 j om),om,?_⟩;simp only[];rw[aT,<-el9];exact dg
def dj7(x:Option Addr):D1 prog .eql 87 (.pointer x) (.pointer none)=some (.bool x.isNone):=bg2 rfl kr
def bR5{p:Pg}{i:Nat}(b:E6 p)(hw:C4 p<=1000000)(a:i<p.procs.length):((b9 p).edges (i:Int)).length<=60000000:=by
 have e:=bv2 b hw a;have g:(((b9 p).verts (i:Int)).flatMap (J3 p.procs[i].name)).length<=((b9 p).verts (i:Int)).length*1:=P9 _ 1 _ λv _=>bl5 _ v;have h:=aY6 b hw a;have j:=bR8 b hw a;have k:(((b9 p).flows (i:Int)).flatMap λf=>((b9 p).takers p.procs[i].name f.dst f.var).map λv=>(⟨(b9 p).giver p.procs[i].name f.src f.var,v,2⟩:Eg)).length<=((b9 p).flows (i:Int)).length*9:=P9 _ 9 _ λf d=>by
  rw[ek2];exact be3 b hw (bw0 b hw a d).2
 have c:(b9 p).edge0 (i:Int)=(F5 (d9 p) i).decides.map (aj9 p.procs[i].name)++((b9 p).verts (i:Int)).flatMap (J3 p.procs[i].name)++((b9 p).flows (i:Int)).flatMap λf=>((b9 p).takers p.procs[i].name f.dst f.var).map λv=>(⟨(b9 p).giver p.procs[i].name f.src f.var,v,2⟩:Eg):=by
  unfold Bk.edge0;rw[U1 a,O9 a]
 unfold Bk.edges av2;refine ej7 (aH8 _) ?_;rw[(I0 cR2 _).length_eq,c];simp only[ej2,ek2]at *;omega
section
variable {p:Pg}
def aL4(K:Known p){n:B3}(hn:n∈p.procs.map (·.name)):∀x∈(b9 p).calledBy n,x∈p.procs.map (·.name):=by
 intro x c;obtain⟨i,f,e,h⟩:=U8 hn;unfold Bk.calledBy at c;rw[el2]at c;obtain⟨it,a,rfl⟩:=c;rw[el6]at a;have g:(b9 p).s=d9 p:=rfl;rw[g,e]at a;have d:it.s.kind=4:=by
  have:=a.2;rw[el3]at this;exact ej3 this.1
 have b:=(K.proc i f).2.2 it a.1;unfold ak2 at b;simp only[d,decide_true,Bool.not_true,ew4,el3,ek7]at b
 first
 | exact b.2.1.2
 | exact b.2.2
 | exact b.1.2.2
 | simp_all
def bc9(K:Known p):J0∈p.procs.map (·.name):=by
 obtain⟨i,q,b,a,_⟩:=K.main;exact el2.2 ⟨q,el0 b,a⟩
def bI4(K:Known p):(R8 (b9 p).calledBy 1000 0 [J0]).Nodup/\∀n∈R8 (b9 p).calledBy 1000 0 [J0],n∈p.procs.map (·.name):=
 aL5 (λm hm=>aL4 K hm) 1000 0 [J0] dP (λx a=>by simp at a;subst a;exact bc9 K)
def bi7:J0∈(b9 p).reached:=ac3.2 (bc2 _ _ _ _ _ dP)
def bk4(K:Known p){n:B3}(hn:n∈(b9 p).reached):n∈p.procs.map (·.name):=(bI4 K).2 n (ac3.1 hn)
def ba3(K:Known p):(b9 p).reached.Nodup:=(Y1 _).nodup_iff.2 (bI4 K).1
def cd8(K:Known p):(b9 p).reached.Pairwise λa b=>ltS a b=true:=by
 refine((ax8 _).and (ba3 K)).imp fun{a b} ⟨h1,h2⟩=>?_;refine er1 λh=>h2 ?_;have c:ltS a b=false:=by simpa using h
 exact cc1 c (ac1.2 h1)
def bW6{b:Bk}{i:Int}{v:Vx}(h:v∈b.verts i):v.proc=(b.s.fn i).name:=by
 rcases R7.1 (aJ0.1 h)with rfl|⟨_,_,rfl⟩|⟨_,_,rfl⟩|⟨_,_,rfl|⟨_,⟨_,_,rfl⟩|⟨_,_,rfl⟩⟩⟩<;>rfl
def cA6{v:Vx}:v∈(b9 p).wv↔∃n∈(b9 p).reached,v∈(b9 p).verts ((b9 p).s.pr n):=em2
def Y0(K:Known p){n:B3}(hn:n∈(b9 p).reached):∃(i:Nat) (a:i<p.procs.length),(b9 p).s.pr n=(i:Int)/\((b9 p).s.fn (i:Int)).name=n:=by
 obtain⟨i,a,e,b⟩:=U8 (bk4 K hn);exact⟨i,a,e,by rw[U1 a,b]⟩
def aG5(K:Known p){n:B3}(hn:n∈(b9 p).reached){v:Vx}(hv:v∈(b9 p).verts ((b9 p).s.pr n)):v.proc=n:=by
 obtain⟨i,b,e,a⟩:=Y0 K hn;rw[bW6 hv,e,a]
def cA1{a b:Vx}(h:ltS a.proc b.proc=true):R2 a b=true:=by
 unfold R2;rw[if_pos (λe=>by rw[e,N8]at h;cases h)];exact h
def cn2{a b:Vx}(h:R2 a b=true):a≠b:=by
 rintro rfl;rw[aT9,dr3]at h;simp at h
def cM8(c:E6 p)(hw:C4 p<=1000000):(b9 p).wv.Pairwise λu v=>R2 u v=true:=by
 have K:=c.toKnown;unfold Bk.wv;rw[List.pairwise_flatMap];refine⟨λn f=>?_,?_⟩
 .obtain⟨i,d,e,_⟩:=Y0 K f;obtain⟨x,g⟩:=K9 c.may hw i d;rw[e];exact cF1 (ct8 c hw d g)
 .refine List.Pairwise.imp_of_mem (fun{a b} ha hb hlt x hx y hy=>?_) (cd8 K);exact cA1 (by rw[aG5 K ha hx,aG5 K hb hy];exact hlt)
def au5(a:E6 p)(hw:C4 p<=1000000):(b9 p).wv.Nodup:=(cM8 a hw).imp λh=>cn2 h
def dB9(K:Known p):(⟨J0,1,0,e0⟩:Vx)∈(b9 p).wv:=by
 obtain⟨i,b,e,a⟩:=Y0 K bi7;exact cA6.2 ⟨J0,bi7,by rw[e];exact aJ0.2 (R7.2 (.inl (by rw[a])))⟩
def O1(K:Known p):0<(b9 p).wv.length:=List.length_pos_of_mem (dB9 K)
end
theorem bj2{V:List Vx}:∀{b:List Vx} {l:List Int},O3 V b=some l->(∀v∈b,v∈V)/\l=b.map λv=>((D6 V v:Nat):Int)
 | [],l,h=>by
  simp only[O3,eu0]at h;subst h;simp
 | v::b,l,h=>by
  rw[O3]at h;cases ha:atV V v with
  | none=>rw[ha]at h;simp at h
  | some a=>
   cases hb:O3 V b with
   | none=>rw[ha,hb]at h;simp at h
   | some r=>
    rw[ha,hb]at h;simp only[eu0]at h;subst h;obtain⟨d,e⟩:=bj2 hb;refine⟨λu c=>?_,?_⟩
    .rcases ek9.1 c with rfl|c
     .exact af5.1 (by rw[ha];rfl)
     .exact d u c
    .rw[en8,<-e];unfold D6;rw[ha];rfl
def aq5{V:List Vx}:∀{b:List Vx},O3 V b=none↔∃v∈b,v∉V
 | []=>by simp[O3]
 | v::b=>by
  rw[O3];cases ha:atV V v with
  | none=>
   have c:v∉V:=λh=>by have:=af5.2 h;rw[ha]at this;cases this
   simp[c]
  | some a=>
   have c:v∈V:=af5.1 (by rw[ha];rfl);cases hb:O3 V b with
   | none=>simpa[c]using aq5.1 hb
   | some r=>
    have:¬∃u∈b,u∉V:=λh=>by rw[aq5.2 h]at hb;cases hb
    simp only[not_exists,not_and,Classical.not_not]at this;simp[c];exact this
def Z5{V:List Vx}{v:Vx}(h:v∈V):V[D6 V v]?=some v:=by
 obtain⟨a,b⟩:=eo6.1 (af5.2 h);have:=bg0 b;unfold D6;rw[b];exact this
def cK7{V:List Vx}(hn:V.Nodup){v:Vx}{a:Nat}(h:V[a]?=some v):D6 V v=a:=by
 unfold D6;rw[du2 hn h];rfl
section
variable {p:Pg} {vs:List Vx} {l:List Int} {v w:Vx}
def cZ7(p:Pg)(v u:Vx):Prop:=dG6 (b9 p).wv (b9 p).all (D6 (b9 p).wv v) (D6 (b9 p).wv u)
end
section
variable {p:Pg}
def ee0(hm:O6 p=true)(hw:C4 p<=1000000){it:It}(h:it∈(d9 p).l):∃(i:Nat) (o:i<p.procs.length),it∈(d9 p).of i:=by
 have g:=h;unfold d9 at h;rcases br7 _ _ _ _ h with h|⟨k,a,x,h⟩
 .simp at h
 obtain⟨y,j,e⟩:=ab9 p hw k a;have l:it.s∈((d9 p).of k).map (·.s):=by
  rw[e,an4 _ y x _ _ _ _ ((0+k:Nat):Int) 0 (-1) 0];exact el2.2 ⟨it,h,rfl⟩
 obtain⟨m,c,f⟩:=el2.1 l;obtain⟨z,n⟩:=K9 hm hw k a;have d:=(bw9 hm g).2.1;have b:=(bw9 hm (aZ3 n c)).2.1;rw[f,d]at b;exact⟨k,a,by rw[b];exact c⟩
def du3(hm:O6 p=true)(hw:C4 p<=1000000){id:Int}(e:1<=id)(f:id<=(d9 p).l.length):∃(i:Nat) (a:i<p.procs.length),(d9 p).it id∈(d9 p).of i/\((d9 p).it id).proc=(i:Int)/\((d9 p).it id).s.id=id:=by
 have c:(id-1).toNat<(d9 p).l.length:=om
 have d:(d9 p).l[(id-1).toNat]?=some ((d9 p).it id):=by
  unfold Sh.it;rw[List.getD_eq_getElem?_getD,ej0 c];rfl
 have b:=aJ7 hm _ _ d;obtain⟨i,a,h⟩:=ee0 hm hw (el0 d);exact⟨i,a,h,aN0 p hw i a _ h,by rw[b];omega⟩
end
section
variable {p:Pg} {v:Vx} {e:Eg}
def bI0:e∈(b9 p).we↔e∈(b9 p).we0:=by
 unfold Bk.we av2;rw[aH9,(I0 cR2 _).mem_iff]
def aK4(K:Known p)(hv:v∈(b9 p).wv):∃(i:Nat) (a:i<p.procs.length),p.procs[i].name∈(b9 p).reached/\v.proc=p.procs[i].name/\v∈(b9 p).vert0 (i:Int):=by
 obtain⟨n,b,hv⟩:=cA6.1 hv;obtain⟨i,a,e,c⟩:=Y0 K b;have d:=aG5 K b hv;rw[U1 a]at c;rw[e]at hv;exact⟨i,a,by rw[c];exact b,by rw[d,c],aJ0.1 hv⟩
def cT4{n:B3}{c:Nat}(b:c<p.procs.length)(h:ai5 p.procs n=(c:Int)):p.procs[c].name=n:=by
 obtain⟨k,e,x,a,d⟩:=aT4 _ p.procs 0 (by unfold ai5 at h;rw[h];omega);unfold ai5 at h;rw[h]at e;obtain rfl:c=k:=om
 rw[ej0 b]at a;obtain rfl:=el4 a;simpa using d
def bB4(K:Known p){i:Nat}(g:i<p.procs.length):(b9 p).s.pr p.procs[i].name=(i:Int):=by
 obtain⟨k,l,e,m⟩:=U8 (el2.2 ⟨_,ek0 g,rfl⟩:p.procs[i].name∈p.procs.map (·.name));have f:k=i:=by
  have d:=ep5.1 K.names;have c:k<(p.procs.map (·.name)).length:=by simpa using l
  have b:i<(p.procs.map (·.name)).length:=by simpa using g
  have a:(p.procs.map (·.name))[k]=(p.procs.map (·.name))[i]:=by rw[er0,er0];exact m
  rcases Nat.lt_trichotomy k i with h|h|h
  .exact absurd a (d k i c b h)
  .exact h
  .exact absurd a.symm (d i k b c h)
 have j:(b9 p).s.pr p.procs[i].name=(k:Int):=e;rw[j,f]
def cu5(K:Known p){i:Nat}(a:i<p.procs.length)(b:p.procs[i].name∈(b9 p).reached)(h:v∈(b9 p).vert0 (i:Int)):v∈(b9 p).wv:=
 cA6.2 ⟨_,b,by rw[bB4 K a];exact aJ0.2 h⟩
structure bC5 (p:Pg) (i:Nat) (v:Vx):Prop where
 mem:(d9 p).it v.id∈(d9 p).of i
 id:((d9 p).it v.id).s.id=v.id
 st:v.kind=2->v.slot=e0
 call:v.kind≠2->((d9 p).it v.id).s.kind=4
 sin:v.kind=5->v.slot∈(b9 p).slotsIn ((b9 p).s.pr ((d9 p).it v.id).s.proc)
 out:v.kind=6->v.slot∈(b9 p).callOut ((d9 p).it v.id).s
def as0(hm:O6 p=true)(hw:C4 p<=1000000){i:Nat}(g:i<p.procs.length)(h:v∈(b9 p).vert0 (i:Int))(b:v.kind=2\/v.kind=5\/v.kind=6):bC5 p i v:=by
 obtain⟨y,k⟩:=K9 hm hw i g;have j:(b9 p).s=d9 p:=rfl;rcases R7.1 h with rfl|⟨_,_,rfl⟩|⟨_,_,rfl⟩|⟨it,a,f⟩
 .simp at b
 .simp at b
 .simp at b
 rw[j]at a;have e:=(bw9 hm (aZ3 k a)).2.1;rcases f with rfl|⟨d,⟨n,c,rfl⟩|⟨n,c,rfl⟩⟩
 .exact⟨by rw[e];exact a,by rw[e],λ_=>rfl,λh=>absurd rfl h,λh=>by simp at h,λh=>by simp at h⟩
 .exact⟨by rw[e];exact a,by rw[e],λh=>by simp at h,λ_=>by rw[e];exact d,λ_=>by rw[e];exact c,λh=>by simp at h⟩
 .exact⟨by rw[e];exact a,by rw[e],λh=>by simp at h,λ_=>by rw[e];exact d,λh=>by simp at h,λ_=>by rw[e];exact c⟩
def bN4(a:E6 p){n x:B3}(hn:n∈(b9 p).reached)(d:x∈(b9 p).calledBy n):x∈(b9 p).reached:=by
 have K:=a.toKnown;refine ac3.2 (aF9 (λm hm=>aL4 K hm) 1000 0 [J0] dP (λy b=>by simp at b;subst b;exact bc9 K) ?_ (ek1 _) (λk y c=>absurd c (Nat.not_lt_zero _)) n (ac3.1 hn) x d);have:=(Z1 a.may).2;simp only[ek2];omega
def dv0(e:E6 p)(hw:C4 p<=1000000){i:Nat}(f:i<p.procs.length)(hn:p.procs[i].name∈(b9 p).reached)(hv:bC5 p i v)(a:(b9 p).isCall v.id=true):
  ∃(c:Nat) (a:c<p.procs.length),aF7 p ((d9 p).it v.id).s c/\((d9 p).it v.id).s.proc=p.procs[c].name/\p.procs[c].name∈(b9 p).reached/\(b9 p).s.pr ((d9 p).it v.id).s.proc=(c:Int):=by
 have j:(b9 p).s=d9 p:=rfl;obtain⟨y,k⟩:=K9 e.may hw i f;unfold Bk.isCall at a;rw[j,aN0 p hw i f _ hv.mem,el3]at a;have h:=ej3 a.1;obtain⟨c,d⟩:=aa5 (e.fits _ (aZ3 k hv.mem) h);have g:(b9 p).s.pr ((d9 p).it v.id).s.proc=(c:Int):=d.pr;have b:=(cT4 d.lt d.idx).symm;refine⟨c,d.lt,d,b,?_,g⟩;rw[<-b];refine bN4 e hn ?_;unfold Bk.calledBy;refine el2.2 ⟨(d9 p).it v.id,el6.2 ⟨?_,?_⟩,rfl⟩
 .rw[bB4 e.toKnown f];exact hv.mem
 .rw[bB4 e.toKnown f,hv.id,h,a.2];rfl
structure bO6 (p:Pg) (v:Vx) (e:Eg):Prop where
 mem:v∈(b9 p).wv
 src:e.src∈(b9 p).wv
 dst:e.dst∈(b9 p).wv
 kind:(e.kind=4/\e.src=v/\v.kind=2/\e.dst=⟨((d9 p).it v.id).s.proc,1,0,e0⟩)\/(e.kind=5/\e.src=v/\v.kind=5/\e.dst=⟨((d9 p).it v.id).s.proc,3,0,v.slot⟩) \/
  (e.kind=6/\e.dst=v/\v.kind=6/\e.src=⟨((d9 p).it v.id).s.proc,4,0,v.slot⟩)
def cb5(m:E6 p)(hw:C4 p<=1000000)(hv:v∈(b9 p).wv)(d:e∈(b9 p).joinOf v):bO6 p v e:=by
 have K:=m.toKnown;have u:(b9 p).s=d9 p:=rfl;unfold Bk.joinOf at d;rw[u]at d;split at d
 .simp at d
 next r=>
 have q:(b9 p).isCall v.id=true:=by
  cases h:(b9 p).isCall v.id with
  | true=>rfl
  | false=>exact absurd (.inr h) r
 obtain⟨i,o,t,w,k⟩:=aK4 K hv;have n:(v.kind=2\/v.kind=5\/v.kind=6)->bC5 p i v/\∃(c:Nat) (q:c<p.procs.length),aF7 p ((d9 p).it v.id).s c/\((d9 p).it v.id).s.proc=p.procs[c].name/\p.procs[c].name∈(b9 p).reached/\(b9 p).s.pr ((d9 p).it v.id).s.proc=(c:Int):=λb=>
  ⟨as0 m.may hw o k b,dv0 m hw o t (as0 m.may hw o k b) q⟩
 split at d
 .next b=>
  obtain⟨f,c,a,_,g,j,l⟩:=n (.inl b);obtain rfl:=ek5.1 d;refine⟨hv,hv,?_,.inl ⟨rfl,rfl,b,rfl⟩⟩;exact cu5 K a j (R7.2 (.inl (by rw[U1 a,g])))
 split at d
 .next b=>
  obtain⟨f,c,a,_,g,j,l⟩:=n (.inr (.inl b));obtain rfl:=ek5.1 d;refine⟨hv,hv,?_,.inr (.inl ⟨rfl,rfl,b,rfl⟩)⟩;have:=f.sin b;rw[l]at this;exact cu5 K a j (R7.2 (.inr (.inl ⟨v.slot,this,by rw[U1 a,g]⟩)))
 split at d
 .next b=>
  obtain⟨f,c,a,_,g,j,l⟩:=n (.inr (.inr b));obtain rfl:=ek5.1 d;refine⟨hv,?_,hv,.inr (.inr ⟨rfl,rfl,b,rfl⟩)⟩;have:=f.out b;unfold Bk.callOut at this;rw[l]at this;have s:v.slot∈(b9 p).slotsOut (c:Int):=by
   split at this
   .exact(el6.1 this).1
   .exact this
  exact cu5 K a j (R7.2 (.inr (.inr (.inl ⟨v.slot,s,by rw[U1 a,g]⟩))))
 .simp at d
def au4(d:D4 p=true)(hw:C4 p<=1000000)(m:e∈(b9 p).we):(e.src∈(b9 p).wv/\e.dst∈(b9 p).wv/\(e.kind=1\/e.kind=2))\/∃v,bO6 p v e:=by
 have f:=E9 d;have K:=f.toKnown;rcases ej9.1 (bI0.1 m)with h|h
 .obtain⟨n,b,h⟩:=em2.1 h;obtain⟨i,a,g,c⟩:=Y0 K b;rw[g]at h;rw[U1 a]at c;obtain⟨j,k,l⟩:=cj5 d hw a e (aX2.1 h);exact .inl ⟨cu5 K a (by rw[c];exact b) j,cu5 K a (by rw[c];exact b) k,l⟩
 .obtain⟨v,o,h⟩:=em2.1 h;exact .inr ⟨v,cb5 f hw o h⟩
def bz4(c:D4 p=true)(hw:C4 p<=1000000)(d:e∈(b9 p).we):e.src∈(b9 p).wv/\e.dst∈(b9 p).wv:=by
 rcases au4 c hw d with⟨a,b,_⟩|⟨v,h⟩
 .exact⟨a,b⟩
 .exact⟨h.src,h.dst⟩
end
section
variable {p:Pg} {a v u:Vx} {e:Eg} {o:List Int}
def bo1(p:Pg)(ks:List Int)(v u:Vx):Prop:=W1 (R3 (b9 p).wv (b9 p).all ks) (D6 (b9 p).wv v) (D6 (b9 p).wv u)
def ad9(K:Known p){ks:List Int}(a:e∈(b9 p).all)(b:e.kind∈ks):bo1 p ks e.src e.dst:=
 .one (an6.2 ⟨au9 (O1 K) _,e,a,b,rfl,rfl⟩)
def aA1(h:e∈(b9 p).we):e∈(b9 p).all:=em4 _ h
def bW9{ks a:List Int}(h:∀k∈ks,k∈a)(hw:bo1 p ks v u):bo1 p a v u:=by
 unfold bo1 at *;generalize((D6 (b9 p).wv u:Nat):Int)=x at hw ⊢
 induction hw with
 | refl=>exact .refl
 | step _ g j=>
  obtain⟨b,e,i,c,d,f⟩:=an6.1 g;exact .step j (an6.2 ⟨b,e,i,h _ c,d,f⟩)
def bn7(p:Pg)(a:Vx):List Int->Vx->Prop
 | [],v=>bo1 p [1,2,3,6] a v
 | id::o,v=>∃e,bn7 p a o e.src/\e∈(b9 p).we/\(e.kind=4\/e.kind=5)/\e.src.id=id/\bo1 p [1,2,3] e.dst v
def bn7.level(h:bn7 p a o v)(hw:bo1 p [1,2,3] v u):bn7 p a o u:=by
 cases o with
 | nil=>exact W1.trans h (bW9 dP hw)
 | cons id o=>
  obtain⟨e,b,c,d,f,g⟩:=h;exact⟨e,b,c,d,f,g.trans hw⟩
def bn7.fit(K:Known p):∀{o:List Int} {v:Vx},bn7 p a o v->cZ7 p a v
 | [],v,h=>⟨_,h,.refl⟩
 | id::o,v,⟨e,h1,h2,h3,h4,h5⟩=>by
  obtain⟨m,b,c⟩:=bn7.fit K h1;refine⟨m,b,(W1.trans c ?_).trans (bW9 (ks:=[1,2,3]) dP h5)⟩;exact ad9 K (aA1 h2) (by rcases h3 with h|h<;>simp[h])
def bV3(a:E6 p)(hw:C4 p<=1000000){x y:Vx}(j:x∈(b9 p).wv)(l:y∈(b9 p).wv)(m:x.kind=2\/x.kind=5\/x.kind=6)(n:y.kind=2\/y.kind=5\/y.kind=6)(h:x.id=y.id):x.proc=y.proc:=by
 obtain⟨i,b,_,f,o⟩:=aK4 a.toKnown j;obtain⟨k,c,_,g,q⟩:=aK4 a.toKnown l;have d:=aN0 p hw i b _ (as0 a.may hw b o m).mem;have e:=aN0 p hw k c _ (as0 a.may hw c q n).mem;rw[h,e]at d;obtain rfl:k=i:=om
 rw[f,g]
def bQ2(g:E6 p)(hw:C4 p<=1000000){y:Vx}(k:y∈(b9 p).wv)(b:y.kind=5\/y.kind=6):(⟨⟨y.proc,2,y.id,e0⟩,y,1⟩:Eg)∈(b9 p).we:=by
 have K:=g.toKnown;obtain⟨i,a,f,e,j⟩:=aK4 K k;refine bI0.2 (em4 _ (em2.2 ⟨_,f,aX2.2 ?_⟩));rw[bB4 K a];unfold Bk.edge0;refine em4 _ (en7 _ (em2.2 ⟨y,aJ0.2 j,?_⟩));unfold J3;have d:¬(y.kind=3\/y.kind=4):=by rintro(h|h)<;>rcases b with c|c<;>omega
 rw[if_neg d,if_pos b,U1 a,e];simp
def bn7.cls(s:D4 p=true)(hw:C4 p<=1000000){id:Int}(h:bn7 p a (id::o) v)(z:e∈(b9 p).we)(I:e.src=v)(H:e.kind=6)(t:e.dst.id=id):bn7 p a o e.dst:=by
 have m:=E9 s;have K:=m.toKnown;obtain⟨g,D,E,r,F,G⟩:=h;have L:∃y,bO6 p y e:=by
  rcases au4 s hw z with⟨_,_,h⟩|h
  .rcases h with h|h<;>omega
  .exact h
 obtain⟨y,k⟩:=L;have N:e.dst=y/\y.kind=6/\e.src=⟨((d9 p).it y.id).s.proc,4,0,y.slot⟩:=by
  rcases k.kind with h|h|h
  .omega
  .omega
  .exact h.2
 obtain⟨n,B,C⟩:=N;have J:∃x,bO6 p x g:=by
  rcases au4 s hw E with⟨_,_,h⟩|h
  .rcases h with h|h<;>rcases r with d|d<;>omega
  .exact h
 obtain⟨x,c⟩:=J;subst I;refine D.level ?_;have j:g.src=x:=by
  rcases c.kind with h|h|h
  .exact h.2.1
  .exact h.2.1
  .rcases r with d|d<;>omega
 have w:x.kind=2\/x.kind=5:=by
  rcases c.kind with h|h|h
  .exact .inl h.2.2.1
  .exact .inr h.2.2.1
  .rcases r with d|d<;>omega
 have b:x.id=y.id:=by rw[<-j,F,<-t,n]
 have f:=bV3 m hw c.mem k.mem (w.imp_right .inl) (.inr (.inr B)) b;have u:bC5 p ((aK4 K c.mem).choose) x:=as0 m.may hw (aK4 K c.mem).choose_spec.choose (aK4 K c.mem).choose_spec.choose_spec.2.2 (w.imp_right .inl);rw[j,n];rcases w with A|M
 .have l:x=⟨y.proc,2,y.id,e0⟩:=by
   have:=u.st A;cases x;simp only at *;subst f b A this;rfl
  have:=ad9 (ks:=[1,2,3]) K (aA1 (bQ2 m hw k.mem (.inr B))) dP;rw[l];exact this
 .have q:g.dst=⟨((d9 p).it x.id).s.proc,3,0,x.slot⟩:=by
   rcases c.kind with h|h|h
   .omega
   .exact h.2.2.2
   .omega
  have l:(⟨y.proc,5,y.id,x.slot⟩:Vx)=x:=by
   cases x;simp only at *;subst f b M;rfl
  have i:(⟨x,y,3⟩:Eg)∈(b9 p).sums:=by
   refine aF3 _ ⟨D6 (b9 p).wv e.src,e.src,D6 (b9 p).wv g.dst,g.dst,Z5 k.src,by rw[C],G,by rw[el5];exact Z5 c.dst,by rw[q],e,em4 _ z,?_⟩;refine at4.2 ⟨⟨H,rfl⟩,y,by rw[n];exact Z5 k.mem,?_,?_⟩
   .rw[q];show(⟨y.proc,5,y.id,x.slot⟩:Vx)∈_;rw[l];exact c.mem
   .rw[q];show(⟨x,y,3⟩:Eg)=⟨⟨y.proc,5,y.id,x.slot⟩,y,3⟩;rw[l]
  exact ad9 (ks:=[1,2,3]) (e:=⟨x,y,3⟩) K (en7 _ i) dP
end
def cb7(k:Nat)(V:List Vx):List (Vx×Value):=(V.zipIdx k).map λx=>(x.1,.int .i64 (x.2:Int))
def at3(V:List Vx):List (Vx×Value):=cb7 0 V
def bS2(v:Vx):∀(V:List Vx) (k:Nat),ag1 (cb7 k V) v=(V.findIdx? λx=>decide (x=v)).map λa=>.int .i64 ((k+a:Nat):Int)
 | [],k=>rfl
 | x::V,k=>by
  have c:=bS2 v V (k+1);unfold ag1 cb7 at *;rw[List.zipIdx_cons,en8,List.find?_cons,List.findIdx?_cons];by_cases h:v=x
  .subst h;simp
  .have b:¬x=v:=λe=>h e.symm;simp only[h,b,decide_false,ep8,er8];rw[c];cases V.findIdx? (λx=>decide (x=v))with
   | none=>rfl
   | some a=>
    simp only[ep0];rw[show k+1+a=k+(a+1) by omega]
def bh3(V:List Vx)(v:Vx):ag1 (at3 V) v=(atV V v).map λa=>.int .i64 (a:Int):=by
 unfold at3 atV;rw[bS2];simp
def dx5(V:List Vx)(v:Vx):at3 (V++[v])=at3 V++[(v,.int .i64 (V.length:Int))]:=by
 unfold at3 cb7;rw[List.zipIdx_append,em6];simp
def dI8{V:List Vx}{v:Vx}(h:v∉V):ag1 (at3 V) v=none:=by
 rw[bh3];cases e:atV V v with
 | none=>rfl
 | some a=>exact absurd (af5.1 (by rw[e];rfl)) h
def bH0(V:List Vx)(v:Vx):(ag1 (at3 V) v).getD (.int .i64 0) = .int .i64 ((D6 V v:Nat):Int):=by
 rw[bh3];unfold D6;cases atV V v<;>rfl
def cb8(V:List Vx)(v:Vx):(ag1 (at3 V) v).isSome=decide (v∈V):=by
 rw[bh3,Option.isSome_map,eu4,af5,decide_eq_true_iff]
def Z4(V:List Vx)(L:List Eg):List (List (Int×Int)):=(List.range V.length).map λa=>(L.filter λe=>decide (D6 V e.src=a)).map λe=>(((D6 V e.dst:Nat):Int),e.kind)
def Z6(V:List Vx)(L:List Eg):List (List (Int×Int)):=(List.range V.length).map λa=>(L.filter λe=>decide (D6 V e.dst=a)).map λe=>(((D6 V e.src:Nat):Int),e.kind)
def ad4(R:List (List (Int×Int)))(ks:List Int):List (List Int):=R.map λr=>(r.filter λt=>ks.contains t.2).map (·.1)
def al9{V:List Vx}{L:List Eg}:(Z4 V L).length=V.length:=by simp[Z4]
def am1{V:List Vx}{L:List Eg}:(Z6 V L).length=V.length:=by simp[Z6]
def cT6(V:List Vx)(L:List Eg)(ks:List Int):ad4 (Z4 V L) ks=R3 V L ks:=by
 unfold ad4 Z4 R3;rw[List.map_map];refine List.map_congr_left λa _=>?_;simp only[Function.comp,List.filter_map,List.map_map,List.filter_filter];rfl
def bT1(V:List Vx)(L:List Eg)(ks:List Int):ad4 (Z6 V L) ks=Z7 V L ks:=by
 unfold ad4 Z6 Z7;rw[List.map_map];refine List.map_congr_left λa _=>?_;simp only[Function.comp,List.filter_map,List.map_map,List.filter_filter];rfl
def cV4(V:List Vx):Z4 V []=List.replicate V.length []:=by
 apply eq2
 .simp[Z4]
 .intro j a b;simp[Z4]
def cW1(V:List Vx):Z6 V []=List.replicate V.length []:=by
 apply eq2
 .simp[Z6]
 .intro j a b;simp[Z6]
def aX5{V:List Vx}{L:List Eg}{a:Nat}(h:a<V.length):(Z4 V L)[a]?=some ((L.filter λe=>decide (D6 V e.src=a)).map λe=>(((D6 V e.dst:Nat):Int),e.kind)):=by simp[Z4,h]
def cW0{V:List Vx}{L:List Eg}{a:Nat}(h:a<V.length):(Z6 V L)[a]?=some ((L.filter λe=>decide (D6 V e.dst=a)).map λe=>(((D6 V e.src:Nat):Int),e.kind)):=by simp[Z6,h]
def cB0{V:List Vx}(L:List Eg)(e:Eg):Z4 V (L++[e])=(Z4 V L).set (D6 V e.src) (((L.filter λx=>decide (D6 V x.src=D6 V e.src)).map λx=>(((D6 V x.dst:Nat):Int),x.kind))++[(((D6 V e.dst:Nat):Int),e.kind)]):=by
 apply eq2
 .simp[Z4]
 .intro j a b;rw[List.getElem_set];simp only[Z4,er0,ev8,ep9,em6];by_cases hj:D6 V e.src=j
  .subst hj;simp[]
  .rw[if_neg hj];simp[hj]
def cB7{V:List Vx}(L:List Eg)(e:Eg):Z6 V (L++[e])=(Z6 V L).set (D6 V e.dst) (((L.filter λx=>decide (D6 V x.dst=D6 V e.dst)).map λx=>(((D6 V x.src:Nat):Int),x.kind))++[(((D6 V e.src:Nat):Int),e.kind)]):=by
 apply eq2
 .simp[Z6]
 .intro j a b;rw[List.getElem_set];simp only[Z6,er0,ev8,ep9,em6];by_cases hj:D6 V e.dst=j
  .subst hj;simp[]
  .rw[if_neg hj];simp[hj]
def OkA(n:Nat)(R:List (List (Int×Int))):Prop:=∀r∈R,r.length<=1000000000/\∀t∈r,I9 n t.1=true/\1<=t.2/\t.2<=6
def dk4{V:List Vx}{L:List Eg}(b:0<V.length)(d:∀e∈L,1<=e.kind/\e.kind<=6)(f:L.length<=1000000000):OkA V.length (Z4 V L):=λr g=>by
 obtain⟨a,_,rfl⟩:=el2.1 g;refine⟨by rw[ek2];exact ej7 (el8 _ _) f,λt h=>?_⟩;obtain⟨e,c,rfl⟩:=el2.1 h;exact⟨au9 b _,d e (el6.1 c).1⟩
def cp1{V:List Vx}{L:List Eg}(b:0<V.length)(d:∀e∈L,1<=e.kind/\e.kind<=6)(f:L.length<=1000000000):OkA V.length (Z6 V L):=λr g=>by
 obtain⟨a,_,rfl⟩:=el2.1 g;refine⟨by rw[ek2];exact ej7 (el8 _ _) f,λt h=>?_⟩;obtain⟨e,c,rfl⟩:=el2.1 h;exact⟨au9 b _,d e (el6.1 c).1⟩
def cm9{R:List (List (Int×Int))}{ks:List Int}{a b:Int}:b∈E3 (ad4 R ks) a↔I9 R.length a=true/\∃k∈ks,(b,k)∈R.getD a.toNat []:=by
 unfold ad4;have d:∀c:Nat,(R.map λr=>(r.filter λt=>ks.contains t.2).map (·.1)).getD c []=((R.getD c []).filter λt=>ks.contains t.2).map (·.1):=λc=>by
  simp only[List.getD_eq_getElem?_getD,em8];cases R[c]?<;>rfl
 unfold E3;by_cases h:I9 R.length a=true
 .rw[ek2,if_pos (B5.1 h),d];constructor
  .intro hm;obtain⟨t,i,rfl⟩:=el2.1 hm;obtain⟨f,e⟩:=el6.1 i;exact⟨h,t.2,ek7.1 e,f⟩
  .rintro⟨_,k,g,hm⟩;exact el2.2 ⟨(b,k),el6.2 ⟨hm,ek7.2 g⟩,rfl⟩
 .rw[ek2,if_neg λe=>h (B5.2 e)];simp[h]
def dk5{R:List (List (Int×Int))}{ks:List Int}(h:OkA R.length R):OkR (ad4 R ks):=λa b f=>by
 obtain⟨d,k,_,hm⟩:=cm9.1 f;have g:(ad4 R ks).length=R.length:=by simp[ad4]
 rw[g];have e:=B5.1 d;have c:a.toNat<R.length:=om
 rw[List.getD_eq_getElem?_getD,ej0 c]at hm;exact((h _ (ek0 c)).2 _ hm).1
structure SpJ (nx:List (List Int)) (S0:List Bool) (todo:List Int) (S:List Bool) (x:Int->Prop):Prop where
 len:S.length=S0.length
 sub:∀b,z7 S0 b=true->z7 S b=true
 via:∀b,z7 S b=true->∃a,z7 S0 a=true/\W1 nx a b
 td:∀c∈todo,z7 S c=true
 done:∀c,z7 S c=true->c∈todo\/x c\/∀d∈E3 nx c,z7 S d=true
section
variable {nx:List (List Int)} {S0 S:List Bool} {todo:List Int} {x:Int->Prop}
def SpJ.start:SpJ nx S0 (ae5 S0) S0 (λ_=>False):=
 ⟨rfl,λ_ h=>h,λb h=>⟨b,h,.refl⟩,λc a=>ai7.1 a,λc a=>.inl (ai7.2 a)⟩
def SpJ.pop{c:Int}(h:SpJ nx S0 (todo++[c]) S (λ_=>False)):SpJ nx S0 todo S (λd=>d=c)/\z7 S c=true:=by
 refine⟨⟨h.len,h.sub,h.via,λd e=>h.td d (em4 _ e),λd e=>?_⟩,h.td c dP⟩;rcases h.done d e with a|a|a
 .rcases ej9.1 a with b|b
  .exact .inl b
  .exact .inr (.inl (by simpa using b))
 .exact a.elim
 .exact .inr (.inr a)
def SpJ.close{c:Int}(h:SpJ nx S0 todo S (λd=>d=c))(e:∀d∈E3 nx c,z7 S d=true):SpJ nx S0 todo S (λ_=>False):=by
 refine⟨h.len,h.sub,h.via,h.td,λd b=>?_⟩;rcases h.done d b with a|a|a
 .exact .inl a
 .subst a;exact .inr (.inr e)
 .exact .inr (.inr a)
def SpJ.push{c d:Int}(h:SpJ nx S0 todo S x)(n:z7 S c=true)(o:I9 S.length d=true)(hw:d∈E3 nx c):SpJ nx S0 (todo++[d]) (S.set d.toNat true) x:=by
 have j:∀e,z7 (S.set d.toNat true) e=if e=d then true else z7 S e:=λe=>M9 o;have f:∀e,z7 S e=true->z7 (S.set d.toNat true) e=true:=λe k=>by rw[j,k];simp
 refine⟨by rw[eq3,h.len],λb l=>f b (h.sub b l),λb l=>?_,λe k=>?_,λe k=>?_⟩
 .rw[j]at l;split at l
  .next e=>
   subst e;obtain⟨a,i,m⟩:=h.via c n;exact⟨a,i,.step m hw⟩
  .exact h.via b l
 .rcases ej9.1 k with i|i
  .exact f e (h.td e i)
  .simp at i;subst i;rw[j];simp
 .rw[j]at k;split at k
  .next i=>subst i;exact .inl dP
  .rcases h.done e k with i|i|i
   .exact .inl (em4 _ i)
   .exact .inr (.inl i)
   .exact .inr (.inr λg p=>f g (i g p))
def SpJ.fin(h:SpJ nx S0 [] S (λ_=>False))(f:OkR nx)(g:nx.length=S0.length):S=I7 nx S0:=by
 refine bD1 (by rw[h.len,H8]) λb=>?_;rw[M3 f g];refine⟨h.via b,?_⟩;rintro⟨a,d,i⟩
 induction i with
 | refl=>exact h.sub a d
 | step _ e j=>
  rcases h.done _ j with c|c|c
  .simp at c
  .exact c.elim
  .exact c _ e
end
section
variable {p:Pg}
def cd5(hm:O6 p=true):p.procs.length<=16:=by
 unfold O6 at hm;simp only[el3,em7]at hm;exact hm.1.1.2
def aU6(a:E6 p):(b9 p).reached.length<=16:=by
 have b:=I5 (ba3 a.toKnown) (λn c=>bk4 a.toKnown c);rw[ek2]at b;have:=cd5 a.may;omega
def ai3(a:E6 p)(hw:C4 p<=1000000):(b9 p).wv.length<=480000:=by
 have d:=aU6 a;have f:=P9 (λn=>(b9 p).verts ((b9 p).s.pr n)) 30000 (b9 p).reached λn c=>by
  obtain⟨i,b,e,_⟩:=Y0 a.toKnown c;simp only[e];exact aY6 a hw b
 have e:(b9 p).wv.length=((b9 p).reached.flatMap λn=>(b9 p).verts ((b9 p).s.pr n)).length:=rfl;omega
def cm8(v:Vx):((b9 p).joinOf v).length<=1:=by
 unfold Bk.joinOf;split
 .simp
 split
 .simp
 split
 .simp
 split<;>simp
def bE5(a:E6 p)(hw:C4 p<=1000000):((b9 p).reached.flatMap λn=>(b9 p).edges ((b9 p).s.pr n)).length<=960000000:=by
 have d:=aU6 a;have f:=P9 (λn=>(b9 p).edges ((b9 p).s.pr n)) 60000000 (b9 p).reached λn c=>by
  obtain⟨i,b,e,_⟩:=Y0 a.toKnown c;simp only[e];exact bR5 a hw b
 omega
def cM7(a:E6 p)(hw:C4 p<=1000000):(b9 p).we0.length<=960480000:=by
 have b:=bE5 a hw;have c:=P9 (b9 p).joinOf 1 (b9 p).wv λv _=>cm8 v;have d:=ai3 a hw;unfold Bk.we0;rw[ej2];omega
def bu2(b:E6 p)(hw:C4 p<=1000000):(b9 p).we.length<=960480000:=by
 have a:=cM7 b hw;unfold Bk.we av2 at *;refine ej7 (aH8 _) ?_;rw[(I0 cR2 _).length_eq];exact a
def cf7(a:D4 p=true)(hw:C4 p<=1000000){e:Eg}(b:e∈(b9 p).we):1<=e.kind/\e.kind<=6:=by
 rcases au4 a hw b with⟨_,_,h⟩|⟨v,h⟩
 .omega
 .rcases h.kind with h|h|h<;>omega
def dm7(p:Pg):List Eg:=(b9 p).wv.flatMap λv=>((b9 p).wv.filter λu=>decide (u.proc=v.proc/\u.kind=5/\u.id=v.id)).map λu=>(⟨u,v,3⟩:Eg)
def cS9{L:List Eg}{e:Eg}(h:aE1 (b9 p).wv L e):e∈dm7 p:=by
 obtain⟨c,f,i,d,_,_,_,_,_,x,_,a⟩:=h;obtain⟨_,v,b,hm,rfl⟩:=at4.1 a;exact em2.2 ⟨v,el0 b,el2.2 ⟨_,el6.2 ⟨hm,dP⟩,rfl⟩⟩
def dl8(e:E6 p)(hw:C4 p<=1000000)(v:Vx):((b9 p).wv.filter λu=>decide (u.proc=v.proc/\u.kind=5/\u.id=v.id)).length<=33:=by
 generalize D:((b9 p).wv.filter λu=>decide (u.proc=v.proc/\u.kind=5/\u.id=v.id))=F;have d:∀u∈F,u∈(b9 p).wv/\u.proc=v.proc/\u.kind=5/\u.id=v.id:=λu k=>by
  rw[<-D]at k;obtain⟨l,J⟩:=el6.1 k;exact⟨l,ej3 J⟩
 have N:F.Nodup:=by rw[<-D];exact(au5 e hw).sublist List.filter_sublist
 cases hFF:F with
 | nil=>simp
 | cons u S=>
  rw[<-hFF];have k:u∈F:=by rw[hFF];simp
  obtain⟨l,_,K,L⟩:=d u k;obtain⟨i,G,O,T,q⟩:=aK4 e.toKnown l;have g:=as0 e.may hw G q (.inr (.inl K));obtain⟨y,R⟩:=K9 e.may hw i G;obtain⟨c,H⟩:=aa5 (e.fits _ (aZ3 R g.mem) (g.call om));have o:(b9 p).s.pr ((d9 p).it u.id).s.proc=(c:Int):=H.pr;have E:=au2 e hw H.lt;have f:∀x∈F,x.slot∈(b9 p).slotsIn (c:Int):=λx r=>by
   obtain⟨P,_,I,Q⟩:=d x r;obtain⟨j,M,_,_,m⟩:=aK4 e.toKnown P;have:=(as0 e.may hw M m (.inr (.inl I))).sin I;rw[Q,<-L,o]at this;exact this
  have n:(F.map (·.slot)).Nodup:=by
   rw[List.nodup_iff_pairwise_ne,List.pairwise_map];refine N.imp_of_mem fun{a b} ha E hne h=>hne ?_;obtain⟨_,t,w,z⟩:=d a ha;obtain⟨_,A,B,C⟩:=d b E;cases a;cases b;simp only at t w z A B C h;rw[t,w,z,A,B,C,h]
  have:=I5 n λs h=>by
   obtain⟨x,r,rfl⟩:=el2.1 h;exact f x r
  rw[ek2]at this;omega
def dm8(a:E6 p)(hw:C4 p<=1000000):(dm7 p).length<=15840000:=by
 have b:=ai3 a hw;have c:=P9 (λv=>((b9 p).wv.filter λu=>decide (u.proc=v.proc/\u.kind=5/\u.id=v.id)).map λu=>(⟨u,v,3⟩:Eg)) 33 (b9 p).wv λv _=>by
  rw[ek2];exact dl8 a hw v
 unfold dm7;omega
def cL9{e:Eg}(h:e∈(b9 p).sums):e∈dm7 p:=by
 have c:=be2 (V:=(b9 p).wv) (E:=(b9 p).we) (C:=(b9 p).sums.filter λx=>(dm7 p).contains x) (λx a=>by
  have b:x∈(b9 p).sums:=aF3 x (a.le λy d=>by
   rcases ej9.1 d with h|h
   .exact em4 _ h
   .exact en7 _ ((el6.1 h).1))
  exact el6.2 ⟨b,ek7.2 (cS9 a)⟩) e h
 exact ek7.1 (el6.1 c).2
structure bo0 (p:Pg) (C:List Eg):Prop where
 nd:C.Nodup
 le:∀e∈C,e∈(b9 p).sums
def bo0.few{C:List Eg}(h:bo0 p C)(b:E6 p)(hw:C4 p<=1000000):C.length<=15840000:=
 ej7 (I5 h.nd λe a=>cL9 (h.le e a)) (dm8 b hw)
def bo0.kind{C:List Eg}(h:bo0 p C){e:Eg}(c:e∈C):e.kind=3/\e.src∈(b9 p).wv/\e.dst∈(b9 p).wv/\e.src.kind=5:=by
 obtain⟨v,f,hm⟩:=em2.1 (cL9 (h.le e c));obtain⟨u,d,rfl⟩:=el2.1 hm;obtain⟨a,b⟩:=el6.1 d;exact⟨rfl,a,f,(ej3 b).2.1⟩
def bC0(V:List Vx)(L C:List Eg)(o:Nat):Prop:=∀b,V[o]?=some b->b.kind=4->∀(i:Int) (a:Vx),W1 (R3 V L [1,2,3]) i (o:Int)->V[i.toNat]?=some a->a.kind=3->∀x∈L,∀e∈aA9 V o a.slot x,e∈C
def cX8{C:List Eg}(h:bo0 p C)(g:∀o,o<(b9 p).wv.length->bC0 (b9 p).wv ((b9 p).we++C) C o):∀e,e∈C↔e∈(b9 p).sums:=
 dA1 (λe ⟨o,m,i,l,a,b,c,d,f,x,k,j⟩=>g o (ej5.1 a).1 m a b i l c d f x k e j) h.le
def bD9{V:List Vx}{L M:List Eg}{ks:List Int}(c:0<V.length)(h:∀e,e∈L↔e∈M){S:List Bool}(hS:S.length=V.length):I7 (Z7 V L ks) S=I7 (Z7 V M ks) S/\I7 (R3 V L ks) S=I7 (R3 V M ks) S:=by
 constructor
 .refine bD1 (by rw[H8,H8]) λb=>?_;rw[M3 (ae4 c) (by rw[Z8,hS]),M3 (ae4 c) (by rw[Z8,hS])];constructor
  .rintro⟨a,d,f⟩;exact⟨a,d,(S9 c).1 ((bm9 h).1 ((S9 c).2 f))⟩
  .rintro⟨a,d,f⟩;exact⟨a,d,(S9 c).1 ((bm9 h).2 ((S9 c).2 f))⟩
 .refine bD1 (by rw[H8,H8]) λb=>?_;rw[M3 (at7 c) (by rw[an7,hS]),M3 (at7 c) (by rw[an7,hS])];constructor
  .rintro⟨a,d,f⟩;exact⟨a,d,(bm9 h).1 f⟩
  .rintro⟨a,d,f⟩;exact⟨a,d,(bm9 h).2 f⟩
end
def bh7(V:List Vx)(C:List Eg):List ((Int×Int)×Value):=C.map λe=>((((D6 V e.src:Nat):Int),((D6 V e.dst:Nat):Int)),.bool true)
def cJ0{V:List Vx}{C:List Eg}(l:∀e∈C,e.kind=3/\e.src∈V/\e.dst∈V){u v:Vx}(o:u∈V)(hv:v∈V):
  (ag1 (bh7 V C) (((D6 V u:Nat):Int),((D6 V v:Nat):Int))).getD (.bool false) = .bool (decide ((⟨u,v,3⟩:Eg)∈C)):=by
 have c:∀{a b:Vx},a∈V->b∈V->D6 V a=D6 V b->a=b:=fun{a b} ha hb e=>by
  have d:=Z5 ha;have f:=Z5 hb;rw[e,f]at d;exact(el4 d).symm
 induction C with
 | nil=>rfl
 | cons e C q=>
  have i:=q λx p=>l x (ep3 _ p);obtain⟨d,f,m⟩:=l e dP;unfold ag1 bh7 at *;rw[en8,List.find?_cons];by_cases h:(⟨u,v,3⟩:Eg)=e
  .subst h;simp
  .have g:¬((((D6 V u:Nat):Int),((D6 V v:Nat):Int))=(((D6 V e.src:Nat):Int),((D6 V e.dst:Nat):Int))):=λn=>by
    simp only[Prod.mk.injEq]at n;refine h ?_;have j:=c o f om;have k:=c hv m om;cases e;simp only at d j k;rw[j,k,d]
   rw[er7 g];simp only[ek9,h,false_or];exact i
def dg3{V:List Vx}{C:List Eg}(a:∀e∈C,e.kind=3/\e.src∈V/\e.dst∈V){u v:Vx}(b:u∈V)(hv:v∈V)(hn:(⟨u,v,3⟩:Eg)∉C):ag1 (bh7 V C) (((D6 V u:Nat):Int),((D6 V v:Nat):Int))=none:=by
 have h:=cJ0 a b hv;cases he:ag1 (bh7 V C) (((D6 V u:Nat):Int),((D6 V v:Nat):Int))with
 | none=>rfl
 | some x=>
  exfalso
  rw[he,er7 hn]at h;unfold ag1 at he;obtain⟨y,c,rfl⟩:=Option.map_eq_some_iff.1 he;obtain⟨e,_,rfl⟩:=el2.1 (List.mem_of_find?_eq_some c);simp at h
def hZ:Hp:=λ_=>none
def M0(h:Hp):E2 hZ h:=λ_ _ e=>nomatch e
abbrev TWh:TypeId:=91
abbrev TVx:TypeId:=27
abbrev TEg:TypeId:=54
abbrev TAr:TypeId:=218
abbrev TAs:TypeId:=216
def dU9:G7 prog 216 218 2 16=true:=kr
def dV0:G7 prog 89 216 1 24=true:=kr
def dD1:∃a,prog.info? 216=some a/\a.size=1:=av3 dp9 do7
structure WX where
 vV:Value
 vE:Value
 vS:Value
 vn:Value
 un:List Raw
 vp:Value
 up:List Raw
structure WC where
 V:List Vx
 E:List Eg
 S:List Eg
 kv:List (Vx×Value)
 N:List (List (Int×Int))
 P:List (List (Int×Int))
def V5(g r:Nat)(x:WX):Nat->Nat->Prop
 | 0,b=>b=g
 | 1,b=>b=r
 | 2,b=>A5 x.vV b
 | 3,b=>A5 x.vE b
 | 4,b=>A5 x.vS b
 | 5,b=>N9 x.vn x.un b
 | 6,b=>N9 x.vp x.up b
 | _,_=>False
def wcs(a:Addr)(b:Value)(r:Nat)(x:WX):Array Value:=#[.pointer (some a),b,x.vV,x.vE,x.vS,.map (some r),x.vn,x.vp]
structure WS (w1 w:World) (g r:Nat) (ab:Addr) (vP:Value) (x:WX) (c:WC):Prop where
 ext:o6 w1 w
 cb:w.heap[g]?=some (.cells (wcs ab vP r x) TWh (0,0))
 map:au6 Vx.enc w r c.kv
 oV:B0 hZ w TVx x.vV c.V
 oE:B0 hZ w TEg x.vE c.E
 oS:B0 hZ w TEg x.vS c.S
 rn:F1 hZ w TAs TAr x.vn x.un c.N
 rp:F1 hZ w TAs TAr x.vp x.up c.P
 new:∀i b,V5 g r x i b->w1.heap.size<=b
 apart:∀i j b,V5 g r x i b->V5 g r x j b->i=j
section
variable {w1 w w':World} {g r:Nat} {ab:Addr} {vP:Value} {x:WX} {c:WC}
def WS.lt(s:WS w1 w g r ab vP x c):∀{i b:Nat},V5 g r x i b->b<w.heap.size
 | 0,b,h=>by obtain rfl:b=g:=h;exact(ej4.1 s.cb).1
 | 1,b,h=>by obtain rfl:b=r:=h;exact s.map.lt
 | 2,b,h=>s.oV.lt h
 | 3,b,h=>s.oE.lt h
 | 4,b,h=>s.oS.lt h
 | 5,b,h=>s.rn.lt h
 | 6,b,h=>s.rp.lt h
 | _+7,_,h=>h.elim
def WS.off(s:WS w1 w g r ab vP x c){i j b:Nat}(a:i≠j)(h:V5 g r x i b):¬V5 g r x j b:=λd=>a (s.apart i j b h d)
def WS.mod(s:WS w1 w g r ab vP x c){M:Nat->Prop}(hm:p6 M w w')(d:∀b,M b->w1.heap.size<=b/\∀i,¬V5 g r x i b):WS w1 w' g r ab vP x c:=
 ⟨p6.ext_of s.ext hm λb a=>(d b a).1,(hm.block g (s.lt (i:=0) rfl) λh=>(d g h).2 0 rfl).trans s.cb,s.map.mod hm λh=>(d r h).2 1 rfl,
  s.oV.mod hm λb a h=>(d b h).2 2 a,s.oE.mod hm λb a h=>(d b h).2 3 a,s.oS.mod hm λb a h=>(d b h).2 4 a,s.rn.mod hm λb a h=>(d b h).2 5 a,s.rp.mod hm λb a h=>(d b h).2 6 a,s.new,s.apart⟩
def WS.more(s:WS w1 w g r ab vP x c)(a:o6 w w'):WS w1 w' g r ab vP x c:=s.mod a λ_ h=>h.elim
def WS.base(s:WS w1 w g r ab vP x c):E2 (i5 w1) (i5 w):=b7 s.ext
theorem WS.rV(s:WS w1 w g r ab vP x c):R (i5 w) x.vV c.V:=s.oV.flatRN λ_ _=>rfl
theorem WS.rE(s:WS w1 w g r ab vP x c):R (i5 w) x.vE c.E:=s.oE.flatRN λ_ _=>rfl
def WS.ld(s:WS w1 w g r ab vP x c){i:Nat}{u:Value}{t:TypeId}(b:(wcs ab vP r x)[i]?=some u)(a:J4 prog t=false):(Instr.loadAt t (.pointer (some ⟨g,i,none⟩))).run prog w = .ok u w:=F4 s.cb b a
def WS.parts(s:WS w1 w g r ab vP x c){x':WX}(i:Nat)(a:∀j,j≠i->∀b,V5 g r x' j b->V5 g r x j b)(n:∀b,V5 g r x' i b->V5 g r x i b\/w.heap.size<=b):
  (∀j b,V5 g r x' j b->w1.heap.size<=b)/\(∀j k b,V5 g r x' j b->V5 g r x' k b->j=k):=by
 have f:∀j b,V5 g r x' j b->(V5 g r x j b)\/(j=i/\w.heap.size<=b):=λj b h=>by
  by_cases hj:j=i
  .subst hj;exact(n b h).imp id λh=>⟨rfl,h⟩
  .exact .inl (a j hj b h)
 refine⟨λj b h=>?_,λj k b d e=>?_⟩
 .rcases f j b h with h|⟨_,h⟩
  .exact s.new j b h
  .exact ej7 s.ext.size h
 .rcases f j b d with d|⟨l,d⟩<;>rcases f k b e with e|⟨m,e⟩
  .exact s.apart j k b d e
  .have:=s.lt d;omega
  .have:=s.lt e;omega
  .rw[l,m]
def cu0{k:Nat}{cs:Array Value}(d:w.heap[g]?=some (.cells cs TWh (0,0)))(e:k<cs.size){v:Value}(hS:isS v=true){t:TypeId}{c:TypeInfo}(a:prog.info? t=some c)(f:c.size=1):
  ∃w',(Instr.storeAt t (.pointer (some ⟨g,k,none⟩)) v).run prog w = .ok () w'/\w'.heap[g]?=some (.cells (cs.setIfInBounds k v) TWh (0,0))/\p6 (λb=>b=g) w w':=
 ad7 (P:=prog) d e (F7 hS) (W8 hS) a f
def WS.putV(s:WS w1 w g r ab vP x c){o:Value}{l:List Vx}(hm:p6 (A5 x.vV) w w')(y:B0 hZ w' TVx o l)(hv:E7 w x.vV o){t:TypeId}{n:TypeInfo}(m:prog.info? t=some n)(C:n.size=1):
  ∃d,(Instr.storeAt t (.pointer (some ⟨g,2,none⟩)) o).run prog w' = .ok () d/\WS w1 d g r ab vP {x with vV:=o} {c with V:=l}/\p6 (λb=>b=g) w' d:=by
 have v:=s.parts (x':={x with vV:=o}) 2 (λj B b h=>by match j,B,h with|0,_,h=>exact h|1,_,h=>exact h|3,_,h=>exact h|4,_,h=>exact h|5,_,h=>exact h|6,_,h=>exact h|_+7,_,h=>exact h.elim) hv;have u:=(hm.block g (s.lt (i:=0) rfl) (s.off (i:=0) (j:=2) dQ rfl)).trans s.cb;obtain⟨d,A,p,f⟩:=cu0 (k:=2) u (by decide +kernel:2<8) y.isS m C;have D:=p6.ext_of (p6.ext_of s.ext hm λb a=>s.new 2 b a) f λb a=>by subst a;exact s.new 0 _ rfl
 have e:∀{i:Nat} {b:Nat},i≠2->i≠0->V5 g r x i b->¬A5 x.vV b/\¬b=g:=λp z h=>⟨s.off (j:=2) p h,s.off (j:=0) z h⟩;refine⟨d,A,⟨D,p,(s.map.mod hm (e (i:=1) dQ dQ rfl).1).mod f (e (i:=1) dQ dQ rfl).2,y.mod f λb a q=>?_,?_,?_,?_,?_,v.1,v.2⟩,f⟩
 .exact absurd (v.2 2 0 b a q) dQ
 .exact(s.oE.mod hm λb a=>(e (i:=3) dQ dQ a).1).mod f λb a=>(e (i:=3) dQ dQ a).2
 .exact(s.oS.mod hm λb a=>(e (i:=4) dQ dQ a).1).mod f λb a=>(e (i:=4) dQ dQ a).2
 .exact(s.rn.mod hm λb a=>(e (i:=5) dQ dQ a).1).mod f λb a=>(e (i:=5) dQ dQ a).2
 .exact(s.rp.mod hm λb a=>(e (i:=6) dQ dQ a).1).mod f λb a=>(e (i:=6) dQ dQ a).2
def WS.putE(s:WS w1 w g r ab vP x c){o:Value}{l:List Eg}(hm:p6 (A5 x.vE) w w')(y:B0 hZ w' TEg o l)(hv:E7 w x.vE o){t:TypeId}{n:TypeInfo}(m:prog.info? t=some n)(C:n.size=1):
  ∃d,(Instr.storeAt t (.pointer (some ⟨g,3,none⟩)) o).run prog w' = .ok () d/\WS w1 d g r ab vP {x with vE:=o} {c with E:=l}/\p6 (λb=>b=g) w' d:=by
 have v:=s.parts (x':={x with vE:=o}) 3 (λj B b h=>by match j,B,h with|0,_,h=>exact h|1,_,h=>exact h|2,_,h=>exact h|4,_,h=>exact h|5,_,h=>exact h|6,_,h=>exact h|_+7,_,h=>exact h.elim) hv;have u:=(hm.block g (s.lt (i:=0) rfl) (s.off (i:=0) (j:=3) dQ rfl)).trans s.cb;obtain⟨d,A,p,f⟩:=cu0 (k:=3) u (by decide +kernel:3<8) y.isS m C;have D:=p6.ext_of (p6.ext_of s.ext hm λb a=>s.new 3 b a) f λb a=>by subst a;exact s.new 0 _ rfl
 have e:∀{i:Nat} {b:Nat},i≠3->i≠0->V5 g r x i b->¬A5 x.vE b/\¬b=g:=λp z h=>⟨s.off (j:=3) p h,s.off (j:=0) z h⟩;refine⟨d,A,⟨D,p,(s.map.mod hm (e (i:=1) dQ dQ rfl).1).mod f (e (i:=1) dQ dQ rfl).2,?_,y.mod f λb a q=>?_,?_,?_,?_,v.1,v.2⟩,f⟩
 .exact(s.oV.mod hm λb a=>(e (i:=2) dQ dQ a).1).mod f λb a=>(e (i:=2) dQ dQ a).2
 .exact absurd (v.2 3 0 b a q) dQ
 .exact(s.oS.mod hm λb a=>(e (i:=4) dQ dQ a).1).mod f λb a=>(e (i:=4) dQ dQ a).2
 .exact(s.rn.mod hm λb a=>(e (i:=5) dQ dQ a).1).mod f λb a=>(e (i:=5) dQ dQ a).2
 .exact(s.rp.mod hm λb a=>(e (i:=6) dQ dQ a).1).mod f λb a=>(e (i:=6) dQ dQ a).2
def WS.putS(s:WS w1 w g r ab vP x c){o:Value}{l:List Eg}(hm:p6 (A5 x.vS) w w')(y:B0 hZ w' TEg o l)(hv:E7 w x.vS o){t:TypeId}{n:TypeInfo}(m:prog.info? t=some n)(C:n.size=1):
  ∃d,(Instr.storeAt t (.pointer (some ⟨g,4,none⟩)) o).run prog w' = .ok () d/\WS w1 d g r ab vP {x with vS:=o} {c with S:=l}/\p6 (λb=>b=g) w' d:=by
 have v:=s.parts (x':={x with vS:=o}) 4 (λj B b h=>by match j,B,h with|0,_,h=>exact h|1,_,h=>exact h|2,_,h=>exact h|3,_,h=>exact h|5,_,h=>exact h|6,_,h=>exact h|_+7,_,h=>exact h.elim) hv;have u:=(hm.block g (s.lt (i:=0) rfl) (s.off (i:=0) (j:=4) dQ rfl)).trans s.cb;obtain⟨d,A,p,f⟩:=cu0 (k:=4) u (by decide +kernel:4<8) y.isS m C;have D:=p6.ext_of (p6.ext_of s.ext hm λb a=>s.new 4 b a) f λb a=>by subst a;exact s.new 0 _ rfl
 have e:∀{i:Nat} {b:Nat},i≠4->i≠0->V5 g r x i b->¬A5 x.vS b/\¬b=g:=λp z h=>⟨s.off (j:=4) p h,s.off (j:=0) z h⟩;refine⟨d,A,⟨D,p,(s.map.mod hm (e (i:=1) dQ dQ rfl).1).mod f (e (i:=1) dQ dQ rfl).2,?_,?_,y.mod f λb a q=>?_,?_,?_,v.1,v.2⟩,f⟩
 .exact(s.oV.mod hm λb a=>(e (i:=2) dQ dQ a).1).mod f λb a=>(e (i:=2) dQ dQ a).2
 .exact(s.oE.mod hm λb a=>(e (i:=3) dQ dQ a).1).mod f λb a=>(e (i:=3) dQ dQ a).2
 .exact absurd (v.2 4 0 b a q) dQ
 .exact(s.rn.mod hm λb a=>(e (i:=5) dQ dQ a).1).mod f λb a=>(e (i:=5) dQ dQ a).2
 .exact(s.rp.mod hm λb a=>(e (i:=6) dQ dQ a).1).mod f λb a=>(e (i:=6) dQ dQ a).2
def WS.key(s:WS w1 w g r ab vP x c){a:Vx}(m:ag1 c.kv a=none)(v:Value):
  ∃w',(Instr.mapUpdate 88 (.map (some r)) (Vx.enc a) v).run prog w = .ok () w'/\WS w1 w' g r ab vP x {c with kv:=c.kv++[(a,v)]}:=by
 obtain⟨w',k,l,e⟩:=s.map.push (P:=prog) dI7 Tryz.underlying88 m v;have f:∀{i:Nat} {b:Nat},i≠1->V5 g r x i b->¬b=r:=λn h=>s.off (j:=1) n h;refine⟨w',k,p6.ext_of s.ext e λb d=>by subst d;exact s.new 1 _ rfl,(e.block g (s.lt (i:=0) rfl) (f (i:=0) dQ rfl)).trans s.cb,l,?_,?_,?_,?_,?_,s.new,s.apart⟩
 .exact s.oV.mod e λb d=>f (i:=2) dQ d
 .exact s.oE.mod e λb d=>f (i:=3) dQ d
 .exact s.oS.mod e λb d=>f (i:=4) dQ d
 .exact s.rn.mod e λb d=>f (i:=5) dQ d
 .exact s.rp.mod e λb d=>f (i:=6) dQ d
def WS.look(s:WS w1 w g r ab vP x c)(a:Vx):(Instr.lookup 88 (.map (some r)) (.agg (p8.cells a).toArray) false).run prog w = .ok ((ag1 c.kv a).getD (.int .i64 0)) w:=
 s.map.lookup (P:=prog) dI7 Tryz.underlying88 aG4 a
def WS.lookOk(s:WS w1 w g r ab vP x c)(a:Vx):(Instr.lookup 88 (.map (some r)) (.agg (p8.cells a).toArray) true).run prog w = .ok (.tuple #[(ag1 c.kv a).getD (.int .i64 0),.bool (ag1 c.kv a).isSome]) w:=
 s.map.lookupOk (P:=prog) dI7 Tryz.underlying88 aG4 a
end
def dl4{P:Program}{h:Hp}{w:World}{T t:TypeId}{v:Value}{us:List Raw}(e:B0 h w T v us){i:Nat}{u:Raw}(d:us[i]?=some u)(f:J4 P t=false):
  (Instr.loadAt t (.pointer (some (G8 v i)))).run P w = .ok u.v w:=by
 obtain⟨g,⟨c,_⟩,b⟩:=e.get d;have:=b 0 u.v (by rw[c];rfl);rw[M8]at this;have a:(i*A6.sz Raw)=i:=es6 i;rw[a]at this;exact W9 f this
def F1.roK{α:Type}[A6 α]{h k:Hp}{w:World}{T T':TypeId}{v:Value}{us:List Raw}{d:List (List α)}(l:F1 h w T T' v us d)(hw:E2 h k)(hb:∀b,N9 v us b->k b=w.heap[b]?):R k v d:=by
 obtain⟨a,n,c,e,y,z,f,A,B⟩:=(l.outer.ro hw λb h=>hb b (.inl h));refine⟨a,n,c,e,by rw[y,l.len],z,f,?_,B⟩;have r:∀(us:List Raw) (d:List (List α)) (f:List Value),us.length=d.length->Q9 k f us ->
   (∀(i:Nat) (u:Raw) (g:List α),us[i]?=some u->d[i]?=some g->R k u.v g)->Q9 k f d:=by
  intro us
  induction us with
  | nil=>
   intro d f j q _;have:d=[]:=List.eq_nil_of_length_eq_zero j.symm;subst this;exact q
  | cons u us E=>
   intro d f j q m;cases d with
   | nil=>simp at j
   | cons g d=>
    obtain⟨G,t,rfl,⟨o,_⟩,p⟩:=q;subst o;exact⟨[u.v],t,rfl,m 0 u g rfl rfl,E d t (by simpa using j) p λi F s C D=>m (i+1) F s (by simpa using C) (by simpa using D)⟩
 exact r us d f l.len A λi u g x m=>(l.row i u g x m).ro hw λb h=>hb b (.inr ⟨u,el0 x,h⟩)
def bk3{v u':Value}{us:List Raw}{i:Nat}{u:Raw}{w:World}(d:us[i]?=some u)(a:E7 w u.v u'){b:Nat}(h:N9 v (us.set i ⟨u'⟩) b):N9 v us b\/w.heap.size<=b:=by
 rcases h with h|⟨y,c,h⟩
 .exact .inl (.inl h)
 .rcases es0 c with c|rfl
  .exact .inl (.inr ⟨y,c,h⟩)
  .rcases a b h with h|h
   .exact .inl (.inr ⟨u,el0 d,h⟩)
   .exact .inr h
section
variable {w1 w:World} {g r:Nat} {ab:Addr} {vP:Value} {x:WX} {c:WC}
def WS.arcN(s:WS w1 w g r ab vP x c){i:Nat}{k:List (Int×Int)}(E:c.N[i]?=some k)(t:Int×Int)(O:k.length<=1000000000){e:TypeId}:∃u:Raw,x.un[i]?=some u/\inS x.vn i=true /\
  (∀f,p6 (A5 u.v) w f->(Instr.loadAt 89 (.pointer (some ⟨g,6,none⟩))).run prog f = .ok x.vn f/\(Instr.loadAt 216 (.pointer (some (G8 x.vn i)))).run prog f = .ok u.v f) /\
  (Instr.buildSlice 216 1 #[(0,.agg #[.int .i64 t.1,.int .i64 t.2])]).run prog w = .ok (.slice (some ⟨w.heap.size,0,none⟩) 1 1) (w.alloc (.cells #[.int .i64 t.1,.int .i64 t.2] 218)) /\
  ∃o f d,(Builtin.append_ #[216,216] e #[u.v,.slice (some ⟨w.heap.size,0,none⟩) 1 1]).run prog (w.alloc (.cells #[.int .i64 t.1,.int .i64 t.2] 218)) = .ok o f /\
   (Instr.storeAt 216 (.pointer (some (G8 x.vn i))) o).run prog f = .ok () d /\
   WS w1 d g r ab vP {x with un:=x.un.set i ⟨o⟩} {c with N:=c.N.set i (k++[t])}/\p6 (V5 g r x 5) w d/\p6 (A5 u.v) w f/\(∀b,A5 u.v b->V5 g r x 5 b)/\∀j b,V5 g r {x with un:=x.un.set i ⟨o⟩} j b->V5 g r x j b\/w.heap.size<=b:=by
 have p:i<x.un.length:=by rw[s.rn.len];exact(ej5.1 E).1
 obtain⟨u,l⟩:∃u,x.un[i]?=some u:=⟨_,ej0 p⟩;have v:=s.rn.row i u k l E;obtain⟨G,q,z⟩:=dD1;have n:∀b,A5 u.v b->V5 g r x 5 b:=λb a=>.inr ⟨u,el0 l,a⟩;obtain⟨H,o,f,I,J,B,C⟩:=push (P:=prog) (t:=216) (e:=e) dU9 rfl v (x:=.agg #[.int .i64 t.1,.int .i64 t.2]) (y:=t) ⟨[.int .i64 t.1],[.int .i64 t.2],rfl,rfl,rfl⟩ om om (M0 _);obtain⟨d,K,L,M,Q⟩:=s.rn.put (P:=prog) (t:=216) l B J C q z;have hm:p6 (V5 g r x 5) w d:=p6.trans (B.weaken λb _ a=>n b a) (M.weaken λb _ a=>.inl a);have F:=s.parts (x':={x with un:=x.un.set i ⟨o⟩}) 5 (λj A b h=>by match j,A,h with|0,_,h=>exact h|1,_,h=>exact h|2,_,h=>exact h|3,_,h=>exact h|4,_,h=>exact h|6,_,h=>exact h|_+7,_,h=>exact h.elim) (λb a=>bk3 l C a);have m:∀{j:Nat} {b:Nat},j≠5->V5 g r x j b->¬V5 g r x 5 b:=λA h=>s.off (j:=5) A h;refine⟨u,l,s.rn.outer.inS p,λR D=>⟨F4 ((D.block g (s.lt (i:=0) rfl) λh=>m (j:=0) dQ rfl (n g h)).trans s.cb) rfl aF5,dl4 (s.rn.outer.mod D λb a h=>s.rn.off i u l b h a) l bL0⟩,H,o,f,d,I,K,⟨p6.ext_of s.ext hm λb a=>s.new 5 b a,(hm.block g (s.lt (i:=0) rfl) (m (j:=0) dQ rfl)).trans s.cb,s.map.mod hm (m (j:=1) dQ rfl),?_,?_,?_,L,?_,F.1,F.2⟩,hm,B,n,λj b h=>by match j,h with|0,h=>exact .inl h|1,h=>exact .inl h|2,h=>exact .inl h|3,h=>exact .inl h|4,h=>exact .inl h|5,h=>exact bk3 l C h|6,h=>exact .inl h|_+7,h=>exact h.elim⟩
 .exact s.oV.mod hm λb a=>m (j:=2) dQ a
 .exact s.oE.mod hm λb a=>m (j:=3) dQ a
 .exact s.oS.mod hm λb a=>m (j:=4) dQ a
 .exact s.rp.mod hm λb a=>m (j:=6) dQ a
def WS.arcP(s:WS w1 w g r ab vP x c){i:Nat}{k:List (Int×Int)}(E:c.P[i]?=some k)(t:Int×Int)(N:k.length<=1000000000){e:TypeId}:∃u:Raw,x.up[i]?=some u/\inS x.vp i=true /\
  (∀f,p6 (A5 u.v) w f->(Instr.loadAt 89 (.pointer (some ⟨g,7,none⟩))).run prog f = .ok x.vp f/\(Instr.loadAt 216 (.pointer (some (G8 x.vp i)))).run prog f = .ok u.v f) /\
  (Instr.buildSlice 216 1 #[(0,.agg #[.int .i64 t.1,.int .i64 t.2])]).run prog w = .ok (.slice (some ⟨w.heap.size,0,none⟩) 1 1) (w.alloc (.cells #[.int .i64 t.1,.int .i64 t.2] 218)) /\
  ∃o f d,(Builtin.append_ #[216,216] e #[u.v,.slice (some ⟨w.heap.size,0,none⟩) 1 1]).run prog (w.alloc (.cells #[.int .i64 t.1,.int .i64 t.2] 218)) = .ok o f /\
   (Instr.storeAt 216 (.pointer (some (G8 x.vp i))) o).run prog f = .ok () d /\
   WS w1 d g r ab vP {x with up:=x.up.set i ⟨o⟩} {c with P:=c.P.set i (k++[t])}/\p6 (V5 g r x 6) w d/\p6 (A5 u.v) w f/\(∀b,A5 u.v b->V5 g r x 6 b)/\∀j b,V5 g r {x with up:=x.up.set i ⟨o⟩} j b->V5 g r x j b\/w.heap.size<=b:=by
 have p:i<x.up.length:=by rw[s.rp.len];exact(ej5.1 E).1
 obtain⟨u,l⟩:∃u,x.up[i]?=some u:=⟨_,ej0 p⟩;have v:=s.rp.row i u k l E;obtain⟨G,q,z⟩:=dD1;have n:∀b,A5 u.v b->V5 g r x 6 b:=λb a=>.inr ⟨u,el0 l,a⟩;obtain⟨H,o,f,I,J,B,C⟩:=push (P:=prog) (t:=216) (e:=e) dU9 rfl v (x:=.agg #[.int .i64 t.1,.int .i64 t.2]) (y:=t) ⟨[.int .i64 t.1],[.int .i64 t.2],rfl,rfl,rfl⟩ om om (M0 _);obtain⟨d,K,L,M,O⟩:=s.rp.put (P:=prog) (t:=216) l B J C q z;have hm:p6 (V5 g r x 6) w d:=p6.trans (B.weaken λb _ a=>n b a) (M.weaken λb _ a=>.inl a);have F:=s.parts (x':={x with up:=x.up.set i ⟨o⟩}) 6 (λj A b h=>by match j,A,h with|0,_,h=>exact h|1,_,h=>exact h|2,_,h=>exact h|3,_,h=>exact h|4,_,h=>exact h|5,_,h=>exact h|_+7,_,h=>exact h.elim) (λb a=>bk3 l C a);have m:∀{j:Nat} {b:Nat},j≠6->V5 g r x j b->¬V5 g r x 6 b:=λA h=>s.off (j:=6) A h;refine⟨u,l,s.rp.outer.inS p,λQ D=>⟨F4 ((D.block g (s.lt (i:=0) rfl) λh=>m (j:=0) dQ rfl (n g h)).trans s.cb) rfl aF5,dl4 (s.rp.outer.mod D λb a h=>s.rp.off i u l b h a) l bL0⟩,H,o,f,d,I,K,⟨p6.ext_of s.ext hm λb a=>s.new 6 b a,(hm.block g (s.lt (i:=0) rfl) (m (j:=0) dQ rfl)).trans s.cb,s.map.mod hm (m (j:=1) dQ rfl),?_,?_,?_,?_,L,F.1,F.2⟩,hm,B,n,λj b h=>by match j,h with|0,h=>exact .inl h|1,h=>exact .inl h|2,h=>exact .inl h|3,h=>exact .inl h|4,h=>exact .inl h|5,h=>exact .inl h|6,h=>exact bk3 l C h|_+7,h=>exact h.elim⟩
 .exact s.oV.mod hm λb a=>m (j:=2) dQ a
 .exact s.oE.mod hm λb a=>m (j:=3) dQ a
 .exact s.oS.mod hm λb a=>m (j:=4) dQ a
 .exact s.rn.mod hm λb a=>m (j:=5) dQ a
end
def ab3:Vx:=⟨J0,2,3,e0⟩
section
variable {α:Type} [DecidableEq α] {c:List α->List α} {U:List α}
def aZ0(c:List α->List α)(S:List α):List α:=S++((c S).filter λe=>!S.contains e).eraseDups
def bS3(c:List α->List α)(n:Nat)(S:List α):List α:=ck4 (aZ0 c) n S
def bi8{S:List α}{e:α}:e∈aZ0 c S↔e∈S\/e∈c S:=by
 unfold aZ0;rw[ej9,List.mem_eraseDups,el6];by_cases h:e∈S<;>simp[h]
def cv5{S:List α}(h:S.Nodup):(aZ0 c S).Nodup:=by
 unfold aZ0;rw[eo0];refine⟨h,ax5 _ _ (ek6 _),λa f b d e=>?_⟩;subst e;rw[List.mem_eraseDups,el6]at d;simp at d;exact d.2 f
def cO7{S:List α}(h:aZ0 c S≠S):S.length+1<=(aZ0 c S).length:=by
 unfold aZ0 at h ⊢;rw[ej2];cases hz:((c S).filter λe=>!S.contains e).eraseDups with
 | nil=>rw[hz]at h;simp at h
 | cons x l=>simp
def cm7(a:∀S,∀e∈c S,e∈U):∀(k:Nat) (S:List α),S.Nodup->(∀e∈S,e∈U)->(G5 (aZ0 c) k S).Nodup/\∀e∈G5 (aZ0 c) k S,e∈U
 | 0,S,h1,h2=>⟨h1,h2⟩
 | k+1,S,h1,h2=>cm7 a k _ (cv5 h1) λe b=>by
  rcases bi8.1 b with h|h
  .exact h2 e h
  .exact a S e h
def bx0(hm:∀S T:List α,(∀e∈S,e∈T)->∀e∈c S,e∈c T){C:List α}(b:∀e∈c C,e∈C):∀(k:Nat) (S:List α),(∀e∈S,e∈C)->∀e∈G5 (aZ0 c) k S,e∈C
 | 0,S,h,e,he=>h e he
 | k+1,S,h,e,he=>by
  refine bx0 hm b k _ (λx a=>?_) e he;rcases bi8.1 a with a|a
  .exact h x a
  .exact b x (hm S C h x a)
def cm6:∀(k:Nat) (S:List α),∀e∈S,e∈G5 (aZ0 c) k S
 | 0,S,e,he=>he
 | k+1,S,e,he=>cm6 k _ e (bi8.2 (.inl he))
def df6(m:∀S,∀e∈c S,e∈U){S:List α}(hn:S.Nodup)(hS:∀e∈S,e∈U):
  (∀e∈S,e∈bS3 c (U.length+1) S)/\(∀e∈c (bS3 c (U.length+1) S),e∈bS3 c (U.length+1) S) /\
  ((∀S T:List α,(∀e∈S,e∈T)->∀e∈c S,e∈c T)->∀C:List α,(∀e∈S,e∈C)->(∀e∈c C,e∈C)->∀e∈bS3 c (U.length+1) S,e∈C):=by
 have g:∃k,k<=U.length+1/\aZ0 c (G5 (aZ0 c) k S)=G5 (aZ0 c) k S:=by
  refine er1 λf=>?_;have a:∀k,k<=U.length+1->k<=(G5 (aZ0 c) k S).length:=by
   intro k
   induction k with
   | zero=>intro _;exact ek1 _
   | succ k n=>
    intro i;rw[aa9];have:=cO7 (λd=>f ⟨k,om,d⟩);have:=n om;omega
  have h:=a _ (ek6 _);obtain⟨b,l⟩:=cm7 m (U.length+1) S hn hS;have:=I5 b l;omega
 obtain⟨k,i,j⟩:=g;unfold bS3;rw[aE5 k _ _ i j];refine⟨cm6 k S,λe d=>?_,λhm C h b=>bx0 hm b k S h⟩;rw[<-j];exact bi8.2 (.inr d)
end
def upK:List Int:=[1,2,3,6]
def dnK:List Int:=[1,2,3,4,5]
def lvK:List Int:=[1,2,3]
def Bk.hopOf(b:Bk)(e:Eg):List (Nat×Nat):=
 if e.dst.kind=6/\e.dst.id=e.src.id/\b.isCall e.dst.id=true then
  (if e.kind=3 then[(D6 b.wv ⟨(b.s.it e.dst.id).s.proc,3,0,e.src.slot⟩,D6 b.wv ⟨(b.s.it e.dst.id).s.proc,4,0,e.dst.slot⟩)]
   else if e.kind=1 then[(D6 b.wv ⟨(b.s.it e.dst.id).s.proc,1,0,e0⟩,D6 b.wv ⟨(b.s.it e.dst.id).s.proc,4,0,e.dst.slot⟩)]else[])
 else[]
def aI1(b:Bk)(X Y:List Bool):List (Nat×Nat):=b.all.flatMap λe=>if(z7 X ((D6 b.wv e.src:Nat):Int)&&z7 Y ((D6 b.wv e.dst:Nat):Int))=true then b.hopOf e else[]
def Bk.behind(b:Bk)(a:Nat):List Bool:=I7 (R3 b.wv b.all lvK) (S8 b.wv.length [(a:Int)])
def Bk.ahead(b:Bk)(a:Nat):List Bool:=I7 (Z7 b.wv b.all lvK) (S8 b.wv.length [(a:Int)])
def dg5(b:Bk)(H:List (Nat×Nat)):List (Nat×Nat):=H.flatMap λh=>aI1 b (b.behind h.1) (b.ahead h.2)
def Bk.first(b:Bk)(l:List Int):List Bool:=I7 (R3 b.wv b.all upK) (S8 b.wv.length l)
def Bk.last(b:Bk)(l:List Int):List Bool:=I7 (Z7 b.wv b.all dnK) (S8 b.wv.length l)
def Bk.thenB(b:Bk)(l:List Int):List Bool:=I7 (R3 b.wv b.all dnK) (b.first l)
def Bk.before(b:Bk)(l:List Int):List Bool:=I7 (Z7 b.wv b.all upK) (b.last l)
def Bk.hops0(b:Bk)(k l:List Int):List (Nat×Nat):=(aI1 b (b.first k) (b.before l)++aI1 b (b.thenB k) (b.last l)).eraseDups
def Bk.hops(b:Bk)(k l:List Int):List (Nat×Nat):=bS3 (dg5 b) (b.wv.length*b.wv.length+1) (b.hops0 k l)
def Bk.chopB(b:Bk)(k l:List Int):List Bool:=(List.range b.wv.length).map λ(v:Nat)=>
 (z7 (b.first k) (v:Int)&&z7 (b.before l) (v:Int))||(z7 (b.thenB k) (v:Int)&&z7 (b.last l) (v:Int))||(b.hops k l).any λh=>z7 (b.behind h.1) (v:Int)&&z7 (b.ahead h.2) (v:Int)
def Bk.levelB(b:Bk)(x y:Nat):List Bool:=(List.range b.wv.length).map λ(v:Nat)=>z7 (b.behind x) (v:Int)&&z7 (b.ahead y) (v:Int)
def N3(p:Pg)(xs ys:List Vx):List Vx×Int:=
 if D4 p=false then([],1)else match O3 (b9 p).wv xs,O3 (b9 p).wv ys with
  | some k,some l=>(G6 (b9 p).wv ((b9 p).chopB k l),0)
  | _,_=>([],9)
def G3(p:Pg)(x y:Vx):List Vx×Int:=
 if D4 p=false then([],1)else match atV (b9 p).wv x,atV (b9 p).wv y with
  | some k,some l=>(G6 (b9 p).wv ((b9 p).levelB k l),0)
  | _,_=>([],9)
def R4:Vx:=⟨J0,2,1,e0⟩
def cX3:((N3 aw1 [R4] [ab3]).2,(N3 aw1 [R4] [ab3]).1.length,(N3 aw1 [R4] [ab3]).1[0]?)=(0,7,some R4):=by decide +kernel
def cC6:((G3 aw1 R4 ab3).2,(G3 aw1 R4 ab3).1.length,(G3 aw1 R4 ab3).1[3]?)=(0,4,some ⟨J0,6,2,sY⟩):=by decide +kernel
section
variable {p:Pg} {k l k' l':List Int} {v a b:Int} {e:Eg}
def as4(p:Pg)(ks:List Int)(a b:Int):Prop:=W1 (R3 (b9 p).wv (b9 p).all ks) a b
def bR7:((b9 p).first k).length=(b9 p).wv.length:=by unfold Bk.first;rw[H8,E0]
def cn0:((b9 p).last k).length=(b9 p).wv.length:=by unfold Bk.last;rw[H8,E0]
def bW8{ks c:List Int}(h:∀k∈ks,k∈c)(hw:as4 p ks a b):as4 p c a b:=by
 unfold as4 at *
 induction hw with
 | refl=>exact .refl
 | step _ j m=>
  obtain⟨d,e,l,f,g,i⟩:=an6.1 j;exact .step m (an6.2 ⟨d,e,l,h _ f,g,i⟩)
def di6(h:as4 p lvK a b):as4 p upK a b:=bW8 (by simp[lvK,upK]) h
def di5(h:as4 p lvK a b):as4 p dnK a b:=bW8 (by simp[lvK,dnK]) h
def aB6{X Y:List Bool}{h:Nat×Nat}:h∈aI1 (b9 p) X Y↔∃e∈(b9 p).all,(z7 X ((D6 (b9 p).wv e.src:Nat):Int)=true/\z7 Y ((D6 (b9 p).wv e.dst:Nat):Int)=true)/\h∈(b9 p).hopOf e:=by
 unfold aI1;rw[em2];constructor
 .rintro⟨e,c,a⟩;split at a
  .next b=>exact⟨e,c,by rwa [el3]at b,a⟩
  .simp at a
 .rintro⟨e,c,b,a⟩;exact⟨e,c,by rw[if_pos (by rw[el3];exact b)];exact a⟩
def aR7(n:Nat):List (Nat×Nat):=(List.range n).flatMap λa=>(List.range n).map λb=>(a,b)
def bo4(n:Nat):(aR7 n).length=n*n:=by
 have:∀(l:List Nat),(l.flatMap λa=>(List.range n).map λb=>(a,b)).length=l.length*n:=λl=>by
  induction l with
  | nil=>simp
  | cons x l c=>rw[es5,ej2,c,ek2,en9,em1,Nat.succ_mul];omega
 have h:=this (List.range n);rw[en9]at h;exact h
def aX1{n:Nat}{h:Nat×Nat}:h∈aR7 n↔h.1<n/\h.2<n:=by
 unfold aR7;rw[em2];constructor
 .rintro⟨a,e,g⟩;obtain⟨b,f,rfl⟩:=el2.1 g;exact⟨en3.1 e,en3.1 f⟩
 .rintro⟨c,d⟩;exact⟨h.1,en3.2 c,el2.2 ⟨h.2,en3.2 d,rfl⟩⟩
def aT3(K:Known p){h:Nat×Nat}(a:h∈(b9 p).hopOf e):h.1<(b9 p).wv.length/\h.2<(b9 p).wv.length:=by
 have b:=O1 K;unfold Bk.hopOf at a;split at a
 .split at a
  .obtain rfl:=ek5.1 a;exact⟨Y9 b _,Y9 b _⟩
  .split at a
   .obtain rfl:=ek5.1 a;exact⟨Y9 b _,Y9 b _⟩
   .simp at a
 .simp at a
def bG3(K:Known p)(H:List (Nat×Nat)):∀h∈dg5 (b9 p) H,h∈aR7 (b9 p).wv.length:=λh a=>by
 obtain⟨g,_,a⟩:=em2.1 a;obtain⟨e,_,_,b⟩:=aB6.1 a;exact aX1.2 (aT3 K b)
def Z3{h:Nat×Nat}:h∈(b9 p).hops0 k l↔∃e∈(b9 p).all,h∈(b9 p).hopOf e/\((z7 ((b9 p).first k) ((D6 (b9 p).wv e.src:Nat):Int)=true/\z7 ((b9 p).before l) ((D6 (b9 p).wv e.dst:Nat):Int)=true)\/(z7 ((b9 p).thenB k) ((D6 (b9 p).wv e.src:Nat):Int)=true/\z7 ((b9 p).last l) ((D6 (b9 p).wv e.dst:Nat):Int)=true)):=by
 unfold Bk.hops0;rw[List.mem_eraseDups,ej9,aB6,aB6];constructor
 .rintro(⟨e,c,a,b⟩|⟨e,c,a,b⟩)
  .exact⟨e,c,b,.inl a⟩
  .exact⟨e,c,b,.inr a⟩
 .rintro⟨e,c,b,a|a⟩
  .exact .inl ⟨e,c,a,b⟩
  .exact .inr ⟨e,c,a,b⟩
def Y8(K:Known p)(k l:List Int):(∀h∈(b9 p).hops0 k l,h∈(b9 p).hops k l) /\
  (∀g∈(b9 p).hops k l,∀h∈aI1 (b9 p) ((b9 p).behind g.1) ((b9 p).ahead g.2),h∈(b9 p).hops k l) /\
  ∀P:Nat×Nat->Prop,(∀h∈(b9 p).hops0 k l,P h)->(∀g,P g->∀h∈aI1 (b9 p) ((b9 p).behind g.1) ((b9 p).ahead g.2),P h)->∀h∈(b9 p).hops k l,P h:=by
 have c:∀h∈(b9 p).hops0 k l,h∈aR7 (b9 p).wv.length:=λh a=>by
  obtain⟨e,_,q,_⟩:=Z3.1 a;exact aX1.2 (aT3 K q)
 obtain⟨j,m,n⟩:=df6 (bG3 K) (S:=(b9 p).hops0 k l) (by unfold Bk.hops0;exact ax5 _ _ (ek6 _)) c;rw[bo4]at j m n;refine⟨j,λg b h a=>m h (em2.2 ⟨g,b,a⟩),λP o r h a=>?_⟩
 classical
 have:=n (λS T d e f=>by
  obtain⟨g,b,f⟩:=em2.1 f;exact em2.2 ⟨g,d g b,f⟩) ((aR7 (b9 p).wv.length).filter λh=>decide (P h)) (λh a=>el6.2 ⟨c h a,ep1 (o h a)⟩) (λh a=>by
  obtain⟨g,b,i⟩:=em2.1 a;exact el6.2 ⟨bG3 K _ h a,ep1 (r g (ej3 (el6.1 b).2) h i)⟩) h a
 exact ej3 (el6.1 this).2
def bP6{n v:Nat}(f:Nat->Bool)(hv:v<n):z7 ((List.range n).map f) (v:Int)=f v:=by
 have a:I9 ((List.range n).map f).length (v:Int)=true:=by rw[ek2,en9];exact B5.2 ⟨om,om⟩
 unfold z7;rw[a,eq4,el5,List.getD_eq_getElem?_getD,em8,er5 hv];rfl
def bD5:((b9 p).chopB k l).length=(b9 p).wv.length:=by simp[Bk.chopB]
def W7{v:Nat}(hv:v<(b9 p).wv.length):z7 ((b9 p).chopB k l) (v:Int)=true ↔
  (z7 ((b9 p).first k) (v:Int)=true/\z7 ((b9 p).before l) (v:Int)=true)\/(z7 ((b9 p).thenB k) (v:Int)=true/\z7 ((b9 p).last l) (v:Int)=true) \/
  ∃h∈(b9 p).hops k l,z7 ((b9 p).behind h.1) (v:Int)=true/\z7 ((b9 p).ahead h.2) (v:Int)=true:=by
 unfold Bk.chopB;rw[bP6 _ hv];simp only[eu2,ew3,el3,or_assoc]
def cU3{x y v:Nat}(hv:v<(b9 p).wv.length):z7 ((b9 p).levelB x y) (v:Int)=true↔z7 ((b9 p).behind x) (v:Int)=true/\z7 ((b9 p).ahead y) (v:Int)=true:=by
 unfold Bk.levelB;rw[bP6 _ hv,el3]
end
section
variable {p:Pg} {k l k' l':List Int} {a b:Int} {e:Eg} {x:Vx}
def cD3{V:List Vx}{E:List Eg}:∀e∈aw2 V E,aE1 V (E++aw2 V E) e:=λe d=>by
 classical
 have:=be2 (V:=V) (E:=E) (C:=(aw2 V E).filter λe=>decide (aE1 V (E++aw2 V E) e)) (λg c=>by
  have a:∀y∈(aw2 V E).filter (λe=>decide (aE1 V (E++aw2 V E) e)),y∈aw2 V E:=λy b=>(el6.1 b).1;refine el6.2 ⟨bW0 a c,ep1 (c.le λy b=>?_)⟩;rcases ej9.1 b with b|b
  .exact em4 _ b
  .exact en7 _ (a y b)) e d
 exact ej3 (el6.1 this).2
def bm2(a:e∈(b9 p).sums):e.kind=3/\e.src∈(b9 p).wv/\e.dst∈(b9 p).wv/\e.src.kind=5/\e.src.id=e.dst.id/\e.src.proc=e.dst.proc:=by
 obtain⟨_,_,_,_,_,_,_,_,_,g,_,h⟩:=cD3 e a;obtain⟨_,v,b,hm,rfl⟩:=at4.1 h;exact⟨rfl,hm,el0 b,rfl,rfl,rfl⟩
end
section
variable {p:Pg} {a:Nat} {t:Int×Int} {h:Nat×Nat} {X Y S S0:List Bool} {H H0 T T0:List (Nat×Nat)} {C:List Eg}
def au7(p:Pg)(a:Nat)(t:Int×Int):List (Nat×Nat):=match(b9 p).wv[a]?,(b9 p).wv[t.1.toNat]? with
 | some x,some y=>(b9 p).hopOf ⟨x,y,t.2⟩
 | _,_=>[]
def cP0(K:Known p)(b:h∈au7 p a t):h.1<(b9 p).wv.length/\h.2<(b9 p).wv.length:=by
 unfold au7 at b;split at b
 .exact aT3 K b
 .simp at b
def cv9:(au7 p a t).length<=1:=by
 unfold au7;split
 .unfold Bk.hopOf;split
  .split
   .simp
   .split<;>simp
  .simp
 .simp
def bS5(l:∀e∈(b9 p).all,e.src∈(b9 p).wv/\e.dst∈(b9 p).wv)(q:∀e,e∈C↔e∈(b9 p).sums):
  h∈aI1 (b9 p) X Y↔∃(a:Nat) (f:List (Int×Int)) (t:Int×Int),(Z4 (b9 p).wv ((b9 p).we++C))[a]?=some f/\z7 X (a:Int)=true/\t∈f/\z7 Y t.1=true/\h∈au7 p a t:=by
 have b:∀e,e∈(b9 p).all↔e∈(b9 p).we++C:=λe=>by unfold Bk.all;rw[ej9,ej9,q]
 have i:∀e∈(b9 p).all,au7 p (D6 (b9 p).wv e.src) (((D6 (b9 p).wv e.dst:Nat):Int),e.kind)=(b9 p).hopOf e:=λe c=>by
  unfold au7;rw[Z5 (l e c).1,el5,Z5 (l e c).2]
 rw[aB6];constructor
 .rintro⟨e,c,⟨g,k⟩,j⟩;have d:=(ej5.1 (Z5 (l e c).1)).1;refine⟨_,_,_,aX5 d,g,el2.2 ⟨e,el6.2 ⟨(b e).1 c,dP⟩,rfl⟩,k,?_⟩;rw[i e c];exact j
 .rintro⟨a,f,t,g,k,j,o,n⟩;have d:a<(b9 p).wv.length:=by
   have:=(ej5.1 g).1
   rwa [al9]at this
  rw[aX5 d,eu0]at g;rw[<-g]at j;obtain⟨e,c,rfl⟩:=el2.1 j;obtain⟨hm,m⟩:=el6.1 c;have m:=ej3 m;subst m;have hm:=(b e).2 hm;rw[i e hm]at n;exact⟨e,hm,⟨k,o⟩,n⟩
structure BwJ (p:Pg) (X Y:List Bool) (H0 T0 H T:List (Nat×Nat)) (done:Nat->Int×Int->Prop):Prop where
 new:∃D,H=H0++D/\T=T0++D
 le:∀h∈H,h∈H0\/∃a t,done a t/\z7 X (a:Int)=true/\z7 Y t.1=true/\h∈au7 p a t
 nd:H.Nodup
 hop:∀a t,done a t->z7 X (a:Int)=true->z7 Y t.1=true->∀h∈au7 p a t,h∈H
def bd1(p:Pg)(H:List (Nat×Nat))(a:Nat)(t:Int×Int):List (Nat×Nat):=(au7 p a t).filter λh=>!H.contains h
def BwJ.keep{done:Nat->Int×Int->Prop}(j:BwJ p X Y H0 T0 H T done)(n:z7 X (a:Int)=true)(o:z7 Y t.1=true){c:Nat->Int×Int->Prop}(g:∀b u,c b u↔done b u\/(b=a/\u=t)):BwJ p X Y H0 T0 (H++bd1 p H a t) (T++bd1 p H a t) c:=by
 obtain⟨⟨D,i,k⟩,v,w,z⟩:=j;refine⟨⟨D++bd1 p H a t,by rw[i,el9],by rw[k,el9]⟩,λh f=>?_,?_,λb u q x y h f=>?_⟩
 .rcases ej9.1 f with f|f
  .rcases v h f with d|⟨b,u,d,m⟩
   .exact .inl d
   .exact .inr ⟨b,u,(g b u).2 (.inl d),m⟩
  .exact .inr ⟨a,t,(g a t).2 (.inr ⟨rfl,rfl⟩),n,o,(el6.1 f).1⟩
 .rw[eo0];refine⟨w,?_,λx r y s e=>?_⟩
  .have d:(bd1 p H a t).length<=1:=ej7 (el8 _ _) cv9
   match bd1 p H a t,d with
   | [],_=>simp
   | [x],_=>simp
   | x::y::l,d=>simp at d
  .subst e;have:=(el6.1 s).2;simp[r]at this
 .rcases(g b u).1 q with d|⟨rfl,rfl⟩
  .exact em4 _ (z b u d x y h f)
  .by_cases hm:h∈H
   .exact em4 _ hm
   .exact en7 _ (el6.2 ⟨f,by simp[hm]⟩)
def BwJ.skip{done:Nat->Int×Int->Prop}(j:BwJ p X Y H0 T0 H T done){c:Nat->Int×Int->Prop}(d:∀b u,done b u->c b u)(e:∀b u,c b u->z7 X (b:Int)=true->z7 Y u.1=true->done b u):BwJ p X Y H0 T0 H T c:=
 ⟨j.new,λh g=>(j.le h g).imp id λ⟨a,t,x,y⟩=>⟨a,t,d a t x,y⟩,j.nd,λa t f x y=>j.hop a t (e a t f x y) x y⟩
def BwJ.fin(n:∀e∈(b9 p).all,e.src∈(b9 p).wv/\e.dst∈(b9 p).wv)(m:∀e,e∈C↔e∈(b9 p).sums){done:Nat->Int×Int->Prop}(o:∀a t,done a t↔∃b,(Z4 (b9 p).wv ((b9 p).we++C))[a]?=some b/\t∈b)
  (j:BwJ p X Y H0 T0 H T done):(∃D,H=H0++D/\T=T0++D)/\H.Nodup/\∀h,h∈H↔h∈H0\/h∈aI1 (b9 p) X Y:=by
 refine⟨j.new,j.nd,λh=>⟨λi=>?_,λi=>?_⟩⟩
 .rcases j.le h i with c|⟨a,t,c,d,f,g⟩
  .exact .inl c
  .obtain⟨b,k,l⟩:=(o a t).1 c;exact .inr ((bS5 n m).2 ⟨a,b,t,k,d,l,f,g⟩)
 .rcases i with c|c
  .obtain⟨D,e,_⟩:=j.new;rw[e];exact em4 _ c
  .obtain⟨a,b,t,k,d,l,f,g⟩:=(bS5 n m).1 c;exact j.hop a t ((o a t).2 ⟨b,k,l⟩) d f h g
structure ChJ (p:Pg) (k l:List Int) (S:List Bool) (H T Q:List (Nat×Nat)):Prop where
 len:S.length=(b9 p).wv.length
 nd:H.Nodup
 hqt:∀h,h∈H↔h∈Q\/h∈T
 base:∀h∈(b9 p).hops0 k l,h∈H
 cl:∀g∈Q,∀h∈aI1 (b9 p) ((b9 p).behind g.1) ((b9 p).ahead g.2),h∈H
 le:∀h∈H,h∈(b9 p).hops k l
 set:∀v,v<(b9 p).wv.length->(z7 S (v:Int)=true↔(z7 ((b9 p).first k) (v:Int)=true/\z7 ((b9 p).before l) (v:Int)=true)\/(z7 ((b9 p).thenB k) (v:Int)=true/\z7 ((b9 p).last l) (v:Int)=true)\/∃g∈Q,z7 ((b9 p).behind g.1) (v:Int)=true/\z7 ((b9 p).ahead g.2) (v:Int)=true)
def ch9{A B:List Bool}(e:A.length=B.length)(h:∀v:Nat,v<B.length->(z7 A (v:Int)=true↔z7 B (v:Int)=true)):A=B:=by
 refine ev9 λv=>?_;rcases en2 v B.length with a|a
 .have b:=h v a;have c:I9 A.length (v:Int)=true:=B5.2 ⟨om,om⟩;have d:I9 B.length (v:Int)=true:=B5.2 ⟨om,om⟩;rw[(N1 c).2,(N1 d).2,el5]at b;rw[List.getD,List.getD,ej0 om,ej0 a]at b;rw[ej0 om,ej0 a];simp only[eo5]at b;rw[eu4.2 b]
 .rw[er3 om,er3 a]
def ChJ.fin(K:Known p){k l:List Int}{Q:List (Nat×Nat)}(j:ChJ p k l S H [] Q):S=(b9 p).chopB k l:=by
 have d:∀h,h∈H↔h∈Q:=λh=>by rw[j.hqt];simp
 have a:∀h∈(b9 p).hops k l,h∈H:=(Y8 K k l).2.2 (λh=>h∈H) j.base λg f h i=>j.cl g ((d g).1 f) h i;refine ch9 (by rw[bD5,j.len]) λv e=>?_;rw[bD5]at e;rw[j.set v e,W7 e];refine or_congr_right (or_congr_right ?_);exact⟨λ⟨g,b,c⟩=>⟨g,j.le g ((d g).2 b),c⟩,λ⟨g,b,c⟩=>⟨g,(d g).1 (a g b),c⟩⟩
def ChJ.step(K:Known p){k l:List Int}{Q e D:List (Nat×Nat)}{g:Nat×Nat}{f:List Bool}(j:ChJ p k l S H (T++[g]) Q)(m:e=H++D)(hn:e.Nodup)(hm:∀h,h∈e↔h∈H\/h∈aI1 (b9 p) ((b9 p).behind g.1) ((b9 p).ahead g.2))(o:f.length=S.length)
  (hS:∀v,v<(b9 p).wv.length->(z7 f (v:Int)=true↔z7 S (v:Int)=true\/(z7 ((b9 p).behind g.1) (v:Int)=true/\z7 ((b9 p).ahead g.2) (v:Int)=true))):ChJ p k l f e (T++D) (Q++[g]):=by
 have n:g∈H:=(j.hqt g).2 (.inr dP);refine⟨by rw[o,j.len],hn,λh=>?_,λh b=>(hm h).2 (.inl (j.base h b)),λx d h b=>?_,λh b=>?_,λv i=>?_⟩
 .rw[m,ej9,j.hqt];simp only[ej9,ek5];constructor
  .rintro((a|a|a)|a)
   .exact .inl (.inl a)
   .exact .inr (.inl a)
   .exact .inl (.inr a)
   .exact .inr (.inr a)
  .rintro((a|a)|a|a)
   .exact .inl (.inl a)
   .exact .inl (.inr (.inr a))
   .exact .inl (.inr (.inl a))
   .exact .inr a
 .rcases ej9.1 d with d|d
  .exact(hm h).2 (.inl (j.cl x d h b))
  .rw[ek5.1 d]at b;exact(hm h).2 (.inr b)
 .rcases(hm h).1 b with a|a
  .exact j.le h a
  .exact(Y8 K k l).2.1 g (j.le g n) h a
 .rw[hS v i,j.set v i];constructor
  .rintro((a|a|⟨x,a,c⟩)|a)
   .exact .inl a
   .exact .inr (.inl a)
   .exact .inr (.inr ⟨x,em4 _ a,c⟩)
   .exact .inr (.inr ⟨g,dP,a⟩)
  .rintro(a|a|⟨x,a,c⟩)
   .exact .inl (.inl a)
   .exact .inl (.inr (.inl a))
   .rcases ej9.1 a with a|a
    .exact .inl (.inr (.inr ⟨x,a,c⟩))
    .rw[ek5.1 a]at c;exact .inr c
end
abbrev TCh:TypeId:=147
abbrev THp:TypeId:=151
def dV4:G7 prog 145 THp 2 16=true:=kr
def bp7(h:Nat×Nat):Int×Int:=((h.1:Int),(h.2:Int))
def de4(h:Nat×Nat):Value:=.agg #[.int .i64 h.1,.int .i64 h.2]
def dR7:ch0 prog THp de4 where
 chk em a w:=by
  refine bD4 (P:=prog) (fs:=prog.fieldsOf THp) kr em 9999 _ w ?_;have hf:(prog.fieldsOf THp).toList.map (λf=>(f.type,f.offset))=[(3,0),(3,1)]:=kr
  rw[hf];intro x hx;simp only[ek9,en5,es4]at hx;rcases hx with rfl|rfl
  .exact⟨.int .i64 a.1,T7 _ _ _ rfl w,al3 Tryz.underlying3 (show MapKept.IsKey (.int .i64) (.int .i64 _)from rfl) em _ w⟩
  .exact⟨.int .i64 a.2,T7 _ _ _ rfl w,al3 Tryz.underlying3 (show MapKept.IsKey (.int .i64) (.int .i64 _)from rfl) em _ w⟩
 find a l w:=run_findKey_eq (P:=prog) (w:=w) kr _ _
 eq a b w:=by
  obtain⟨a1,a2⟩:=a;obtain⟨b1,b2⟩:=b;unfold Op.equal;rw[show Op.maxDepth=9998+2 from rfl,de4,de4,run_equalIn_struct (P:=prog) w (9998+1) THp _ _ kr kr,as8];have hf:(prog.fieldsOf THp).toList.map (λf=>(decide (f.name ≠ "_"),f.type,f.offset))=[(true,3,0),(true,3,1)]:=kr
  rw[hf,R0 w (T7 _ _ _ rfl w) (T7 _ _ _ rfl w) (aA7 w 9998 _ _) (R0 w (T7 _ _ _ rfl w) (T7 _ _ _ rfl w) (aA7 w 9998 _ _) (aE4 w))]
  congr 1
  have e1:decide ((a1:Int)=(b1:Int))=decide (a1=b1):=eo4.2 Int.ofNat_inj;have e2:decide ((a2:Int)=(b2:Int))=decide (a2=b2):=eo4.2 Int.ofNat_inj;simp only[e1,e2,Prod.mk.injEq,Bool.decide_and,Bool.and_true]
def by2(H:List (Nat×Nat)):List ((Nat×Nat)×Value):=H.map λh=>(h,.bool true)
def bV5{H:List (Nat×Nat)}{h:Nat×Nat}(hn:h∉H):ag1 (by2 H) h=none:=cS4.2 (by simpa[by2]using hn)
def dm1{H:List (Nat×Nat)}{h:Nat×Nat}:(ag1 (by2 H) h).getD (.bool false) = .bool (H.contains h):=by
 by_cases hm:h∈H
 .rw[ek7.2 hm];unfold ag1 by2;cases hf:(H.map λh=>((h,Value.bool true):(Nat×Nat)×Value)).find? λp=>decide (h=p.1)with
  | none=>
   have:=es7.1 hf (h,.bool true) (el2.2 ⟨h,hm,rfl⟩);simp at this
  | some x=>
   obtain⟨y,_,rfl⟩:=el2.1 (List.mem_of_find?_eq_some hf);rfl
 .rw[bV5 hm];have:H.contains h=false:=et8.2 λe=>hm (ek7.1 e);rw[this];rfl
def At.ip{h:Hp}{a:Addr}{x:Int×Int}(d:At h a x):LW h (λw=>V6 prog w 3 a (.int .i64 x.1)/\V6 prog w 3 (a.add 1) (.int .i64 x.2)):=by
 obtain⟨f,e,b⟩:=d;obtain rfl:=(p8.iff_ _ _ _).1 e;exact λw c=>⟨L9 b rfl K1 w c,B1 b (o:=1) rfl K1 w c⟩
def At.ipv{h:Hp}{a:Addr}{x:Int×Int}{T:TypeId}(c:At h a x)(g:J4 prog T=true)(i:(prog.underlying T).isSome=true)(d:(prog.info? T).isSome=true)(f:N6 prog T=2):LW h (λw=>V6 prog w T a (.agg #[.int .i64 x.1,.int .i64 x.2])):=by
 obtain⟨j,b,e,_⟩:=c.sv2 (P:=prog) (t:=T) g i d f;obtain rfl:=b.N;exact e
structure CS (w0 w:World) (g gc rs:Nat) (vs vt:Value) (S:List Bool) (H T:List (Nat×Nat)):Prop where
 ext:o6 w0 w
 cb:w.heap[gc]?=some (.cells #[.pointer (some ⟨g,0,none⟩),vs,.map (some rs),vt] TCh (0,0))
 oS:B0 hZ w 4 vs S
 map:au6 de4 w rs (by2 H)
 oT:B0 hZ w THp vt (T.map bp7)
 new:w0.heap.size<=gc/\w0.heap.size<=rs/\gc≠rs
 dS:∀b,A5 vs b->w0.heap.size<=b/\b≠gc/\b≠rs/\¬A5 vt b
 dT:∀b,A5 vt b->w0.heap.size<=b/\b≠gc/\b≠rs
def cN(a c:Nat)(vs d:Value)(b:Nat):Prop:=b=a\/b=c\/A5 vs b\/A5 d b
section
variable {w0 w w':World} {g gc rs:Nat} {vs vt:Value} {S:List Bool} {H T:List (Nat×Nat)}
def CS.ltg(s:CS w0 w g gc rs vs vt S H T):gc<w.heap.size:=(ej4.1 s.cb).1
def CS.lt(s:CS w0 w g gc rs vs vt S H T){b:Nat}(h:cN gc rs vs vt b):b<w.heap.size:=by
 rcases h with rfl|rfl|h|h
 .exact s.ltg
 .exact s.map.lt
 .exact s.oS.lt h
 .exact s.oT.lt h
def CS.ge(s:CS w0 w g gc rs vs vt S H T){b:Nat}(h:cN gc rs vs vt b):w0.heap.size<=b:=by
 rcases h with rfl|rfl|h|h
 .exact s.new.1
 .exact s.new.2.1
 .exact(s.dS b h).1
 .exact(s.dT b h).1
def CS.mod(s:CS w0 w g gc rs vs vt S H T){M:Nat->Prop}(hm:p6 M w w')(a:∀b,M b->w0.heap.size<=b/\¬cN gc rs vs vt b):CS w0 w' g gc rs vs vt S H T:=
 ⟨p6.ext_of s.ext hm λb h=>(a b h).1,(hm.block gc s.ltg λh=>(a gc h).2 (.inl rfl)).trans s.cb,s.oS.mod hm λb c h=>(a b h).2 (.inr (.inr (.inl c))),s.map.mod hm λh=>(a rs h).2 (.inr (.inl rfl)),s.oT.mod hm λb c h=>(a b h).2 (.inr (.inr (.inr c))),s.new,s.dS,s.dT⟩
def CS.more(s:CS w0 w g gc rs vs vt S H T)(a:o6 w w'):CS w0 w' g gc rs vs vt S H T:=s.mod a λ_ h=>h.elim
def CS.ld(s:CS w0 w g gc rs vs vt S H T){i:Nat}{u:Value}{t:TypeId}(b:(#[.pointer (some ⟨g,0,none⟩),vs,.map (some rs),vt]:Array Value)[i]?=some u)(a:J4 prog t=false):(Instr.loadAt t (.pointer (some ⟨gc,i,none⟩))).run prog w = .ok u w:=F4 s.cb b a
def CS.setS(s:CS w0 w g gc rs vs vt S H T){a:Nat}(i:a<S.length)(x:Bool):∃w',(Instr.storeAt 4 (.pointer (some (G8 vs a))) (.bool x)).run prog w = .ok () w'/\CS w0 w' g gc rs vs vt (S.set a x) H T/\p6 (A5 vs) w w':=by
 obtain⟨l,c,f⟩:=av3 (P:=prog) V4 aE0;obtain⟨w',j,k,d,_⟩:=F9 (P:=prog) (t:=4) s.oS rfl i (x:=.bool x) (y:=x) rfl rfl c f;exact⟨w',j,⟨p6.ext_of s.ext d λb e=>(s.dS b e).1,(d.block gc s.ltg λh=>(s.dS gc h).2.1 rfl).trans s.cb,k,s.map.mod d λh=>(s.dS rs h).2.2.1 rfl,s.oT.mod d λb e h=>(s.dS b h).2.2.2 e,s.new,s.dS,s.dT⟩,d⟩
def CS.look(s:CS w0 w g gc rs vs vt S H T)(h:Nat×Nat):(Instr.lookup 144 (.map (some rs)) (.agg #[.int .i64 h.1,.int .i64 h.2]) false).run prog w = .ok (.bool (H.contains h)) w:=by
 have:=s.map.lookup (P:=prog) dR7 Tryz.underlying144 V4 h;rw[dm1]at this;exact this
def CS.see(s:CS w0 w g gc rs vs vt S H T){h:Nat×Nat}(hn:h∉H):∃w',(Instr.mapUpdate 144 (.map (some rs)) (.agg #[.int .i64 h.1,.int .i64 h.2]) (.bool true)).run prog w = .ok () w'/\CS w0 w' g gc rs vs vt S (H++[h]) T/\p6 (λb=>b=rs) w w':=by
 obtain⟨w',d,f,c⟩:=s.map.push (P:=prog) dR7 Tryz.underlying144 (bV5 hn) (.bool true);have e:by2 (H++[h])=by2 H++[(h,.bool true)]:=by simp[by2]
 refine⟨w',d,⟨p6.ext_of s.ext c λb a=>by rw[a];exact s.new.2.1,(c.block gc s.ltg λh=>s.new.2.2 h).trans s.cb,s.oS.mod c λb a=>(s.dS b a).2.2.1,by rw[e];exact f,s.oT.mod c λb a=>(s.dT b a).2.2,s.new,s.dS,s.dT⟩,c⟩
def CS.putT(s:CS w0 w g gc rs vs vt S H T){o:World}{c:Value}{T2:List (Nat×Nat)}(hm:p6 (A5 vt) w o)(m:B0 hZ o THp c (T2.map bp7))(hv:E7 w vt c):∃w',(Instr.storeAt 145 (.pointer (some ⟨gc,3,none⟩)) c).run prog o = .ok () w'/\CS w0 w' g gc rs vs c S H T2/\p6 (cN gc rs vs vt) w w':=by
 have q:=s.ext.size;have p:=s.ltg;have v:=s.map.lt;have k:=(hm.block gc p λh=>(s.dT gc h).2.1 rfl).trans s.cb;obtain⟨y,f,n⟩:=av3 (P:=prog) dM7 dM1;obtain⟨w',r,u,j⟩:=ad7 (P:=prog) (t:=145) (i:=3) (x:=c) k dP (F7 m.isS) (W8 m.isS) f n;have e:p6 (cN gc rs vs vt) w w':=(hm.weaken λ_ _ h=>.inr (.inr (.inr h))).trans (j.weaken λ_ _ h=>.inl h);have d:∀b,A5 c b->w0.heap.size<=b/\b≠gc/\b≠rs/\¬A5 vs b:=λb a=>by
  rcases hv b a with h|h
  .exact⟨(s.dT b h).1,(s.dT b h).2.1,(s.dT b h).2.2,λl=>(s.dS b l).2.2.2 h⟩
  .exact⟨om,om,om,λl=>by have:=s.oS.lt l;omega⟩
 exact⟨w',r,⟨p6.ext_of s.ext e λb h=>s.ge h,u,(s.oS.mod hm λb a h=>(s.dS b a).2.2.2 h).mod j λb a=>(s.dS b a).2.1,(s.map.mod hm λh=>(s.dT rs h).2.2 rfl).mod j λh=>s.new.2.2 h.symm,m.mod j λb a=>(d b a).2.1,s.new,λb a=>⟨(s.dS b a).1,(s.dS b a).2.1,(s.dS b a).2.2.1,λh=>(d b h).2.2.2 a⟩,λb a=>⟨(d b a).1,(d b a).2.1,(d b a).2.2.1⟩⟩,e⟩
def CS.pushT(s:CS w0 w g gc rs vs vt S H T)(h:Nat×Nat)(n:T.length<=900000000000):
  (Instr.buildSlice 145 1 #[(0,.agg #[.int .i64 h.1,.int .i64 h.2])]).run prog w = .ok (.slice (some ⟨w.heap.size,0,none⟩) 1 1) (w.alloc (.cells #[.int .i64 h.1,.int .i64 h.2] THp)) /\
  ∃a b w',(Builtin.append_ #[145,145] 145 #[vt,.slice (some ⟨w.heap.size,0,none⟩) 1 1]).run prog (w.alloc (.cells #[.int .i64 h.1,.int .i64 h.2] THp)) = .ok a b /\
   (Instr.storeAt 145 (.pointer (some ⟨gc,3,none⟩)) a).run prog b = .ok () w'/\CS w0 w' g gc rs vs a S H (T++[h])/\p6 (cN gc rs vs vt) w w'/\E7 w vt a/\p6 (A5 vt) w b:=by
 obtain⟨c,a,b,d,j,f,i⟩:=push (P:=prog) (t:=145) (e:=145) dV4 rfl s.oT (x:=.agg #[.int .i64 h.1,.int .i64 h.2]) (y:=bp7 h) ((p8.iff_ _ _ _).2 rfl) (by rw[ek2];omega) (by rw[ek2];omega) (M0 _);simp only[Value.cells]at c d;obtain⟨w',k,l,m⟩:=s.putT (T2:=T++[h]) f (by rw[em6];exact j) i;exact⟨c,a,b,w',d,k,l,m,i,f⟩
def CS.popT{h:Nat×Nat}(s:CS w0 w g gc rs vs vt S H (T++[h])):
  (Instr.loadAt THp (.pointer (some (G8 vt (T.length*2))))).run prog w = .ok (.agg #[.int .i64 h.1,.int .i64 h.2]) w/\inS vt T.length=true/\vlen vt=T.length+1/\decide ((T.length:Int)<=(vcap vt:Int))=true/\isS vt=true /\
  ∃w',(Instr.storeAt 145 (.pointer (some ⟨gc,3,none⟩)) (reS vt 0 T.length 2)).run prog w = .ok () w'/\CS w0 w' g gc rs vs (reS vt 0 T.length 2) S H T/\p6 (cN gc rs vs vt) w w'/\∀b,A5 (reS vt 0 T.length 2) b↔A5 vt b:=by
 have c:((T++[h]).map bp7).length=T.length+1:=dP
 obtain⟨f,i⟩:=s.oT.pre (k:=T.length) om om;have n:A6.sz (Int×Int)=2:=rfl;rw[n]at f i;have e:((T++[h]).map bp7).take T.length=T.map bp7:=by rw[em6,ep6 dP,en6 dP]
 rw[e]at f;have j:=s.oT.rw_ (M0 _);obtain⟨u,d,a⟩:=H1 (P:=prog) (t:=THp) j (n7 _) (k:=T.length) (x:=bp7 h) dP dn5 dp0 cE0 bt6;rw[bt6]at a;obtain rfl:=d.N;obtain⟨w',o,p,q⟩:=s.putT (T2:=T) (p6.refl w) f λb l=>.inl ((i b).1 l);have r:=s.oT.vcap;have m:=s.oT.vlen;refine⟨a,s.oT.inS om,by rw[m,c],by simp;omega,s.oT.isS,w',o,p,q,i⟩
end
def di0{h:Hp}{v:Value}{l:List (Int×Int)}{w:World}(hv:R h v l)(hw:E2 h (i5 w)){k:Nat}{x:Int×Int}(a:l[k]?=some x):(Instr.loadAt 218 (.pointer (some (G8 v (k*2))))).run prog w = .ok (.agg #[.int .i64 x.1,.int .i64 x.2]) w:=
 cc0 (P:=prog) (t:=218) hv hw a dn8 dp3 cE3 cf0
def dq8{w:World}(a b:Int):∃c e d,(Instr.alloc 218 true (.tuple #[])).run prog w = .ok (.pointer (some ⟨c,0,none⟩)) e/\(Instr.storeAt 218 (.pointer (some ⟨c,0,none⟩)) (.agg #[.int .i64 a,.int .i64 b])).run prog e = .ok () d/\o6 w d/\d.heap[c]?=some (.cells #[.int .i64 a,.int .i64 b] 218 (0,0))/\w.heap.size<=c:=by
 obtain⟨f,g⟩:=aI8 (P:=prog) (w:=w) (T:=218) dq0 rfl (cs:=#[.int .i64 a,.int .i64 b]) rfl (by simp[Value.oneCell']);exact⟨_,_,_,f,g,o6.alloc _ _,em9 w _,ek6 _⟩
def aK1{w d:World}{c:Nat}{a b:Int}(h:w.heap[c]?=some (.cells #[.int .i64 a,.int .i64 b] 218 (0,0))){M:Nat->Prop}(hm:p6 M w d)(f:¬M c):
  (Instr.loadAt 3 (.pointer (some ⟨c,0,none⟩))).run prog d = .ok (.int .i64 a) d/\(Instr.loadAt 3 (.pointer (some ⟨c,1,none⟩))).run prog d = .ok (.int .i64 b) d:=by
 have e:=(hm.block c (ej4.1 h).1 f).trans h;exact⟨F4 (i:=0) e rfl K1,F4 (i:=1) e rfl K1⟩
def aQ4(ks:List Int):Array Value:=#[.bool (ks.contains 0),.bool (ks.contains 1),.bool (ks.contains 2),.bool (ks.contains 3),.bool (ks.contains 4),.bool (ks.contains 5),.bool (ks.contains 6)]
def dA3{ks:List Int}{k:Nat}(c:k<7):(aQ4 ks).setIfInBounds k (.bool true)=aQ4 (ks++[(k:Int)]):=by
 have h:∀a b:Int,(ks++[a]).contains b=(ks.contains b||decide (b=a)):=λa b=>by
  rw[eu4,eu2,ek7,ek7,ej9,ek5,decide_eq_true_iff]
 match k,c with
 | 0,_=>simp[aQ4,Array.setIfInBounds]
 | 1,_=>simp[aQ4,Array.setIfInBounds]
 | 2,_=>simp[aQ4,Array.setIfInBounds]
 | 3,_=>simp[aQ4,Array.setIfInBounds]
 | 4,_=>simp[aQ4,Array.setIfInBounds]
 | 5,_=>simp[aQ4,Array.setIfInBounds]
 | 6,_=>simp[aQ4,Array.setIfInBounds]
def dA2{ks:List Int}{k:Nat}(a:k<7):(aQ4 ks)[k]?=some (.bool (ks.contains (k:Int))):=by
 match k,a with
 | 0,_=>rfl
 | 1,_=>rfl
 | 2,_=>rfl
 | 3,_=>rfl
 | 4,_=>rfl
 | 5,_=>rfl
 | 6,_=>rfl
def bU7(S:List Bool)(k:Nat)(b:k<S.length):(((List.range (k+1)).filter λa=>S.getD a false).map λ(a:Nat)=>(a:Int))=(((List.range k).filter λa=>S.getD a false).map λ(a:Nat)=>(a:Int))++if S[k]=true then[(k:Int)]else[]:=by
 rw[eu5,ep9,em6]
 congr 1
 rw[List.filter_cons,List.filter_nil,List.getD_eq_getElem?_getD,ej0 b,eo5];cases S[k]<;>rfl
def cD0(H:Hp)(va vs vk:Value)(N:List (List (Int×Int)))(S:List Bool)(ks:List Int)(w:World)(hH:E2 H (i5 w))(bF:R H va N)(af:B0 H w 4 vs S)(aG:R H vk ks)(hA:OkA N.length N)(hl:N.length=S.length)
  (hn:S.length<=1000000000) (cc:∀k∈ks,1<=k/\k<=6) (cX:ks.length<=1000) :
  y5 prog 92 #[va,vs,vk] w λu E=>(B0 H E 4 vs (I7 (ad4 N ks) S)/\p6 (A5 vs) w E):=by
 refine z6 [va,vs,vk] func92 rfl ?_;obtain⟨ib,bs,aK⟩:=av3 (P:=prog) V4 aE0;have be:(Instr.alloc 219 true (.tuple #[])).run prog w = .ok (.pointer (some ⟨w.heap.size,0,none⟩)) (w.alloc (.cells (aQ4 []) 219)):=by rfl
 have bH:=o6.alloc w (.cells (aQ4 []) 219);have aS:=em9 w (.cells (aQ4 []) 219);have aN:=λb (p:A5 vs b)=>af.lt p;have bG:(w.alloc (.cells (aQ4 []) 219)).heap.size=w.heap.size+1:=dP
 generalize w.alloc (.cells (aQ4 []) 219)=w1 at be bH aS bG;have b3:=af.isS;have cg:=af.vlen;simp only[eH,simprocAttr,be,aG.isS,aG.vlen];refine A9 [0,1,2,6,15,16] (σ:=Nat) (λk f E=>f 17 = .int .i64 k/\k<=ks.length/\E.heap[w.heap.size]?=some (.cells (aQ4 (ks.take k)) 219 (0,0))/\p6 (λb=>b=w.heap.size) w1 E) (λk=>ks.length-k) 0 ?_ ?_
 .simp only[B8,simprocAttr];exact⟨tt,ek1 _,aS,p6.refl _⟩
 rintro k f w2 ⟨e0,e1,e2,e6,bV,bW,_⟩ ⟨a9,cI,J,aV⟩;have a3:o6 w w2:=p6.ext_of bH aV λb p=>by rw[p];exact ek6 _
 simp only[eH,simprocAttr,a9,bW];refine A3 (λo=>?_) ?_
 .have ae:=aG.inS o;have L:=aI7 aG (p7 hH (b7 a3)) o;obtain⟨aD,aE⟩:=cc _ (ek0 o);have A:=ej8 o;generalize ks[k]=q at L aD aE A;obtain⟨Q,rfl⟩:∃Q:Nat,q=(Q:Int):=⟨q.toNat,om⟩;have hQ:Q<7:=om
  have ak:decide ((Q:Int)<7)=true:=by simp only[em7];omega
  obtain⟨w3,q1,q2,q3⟩:=ad7 (P:=prog) (t:=4) (x:=.bool true) (i:=Q) J hQ rfl rfl bs aK;rw[dA3 hQ]at q2;simp only[i4,n9,A0,simprocAttr,a9,bV,e6,ae,L,ak,q1];refine V1 (k+1) ⟨?_,aV.trans q3⟩;rw[A];exact q2
 rintro rfl;rw[ek4]at J;have bA:=af.ext a3;clear aV aS;simp only[eH,simprocAttr,e1,b3,cg];refine A9 [0,1,6,24,25] (σ:=Nat×Value) (λs f E=>f 26 = .int .i64 s.1/\f 9=s.2/\s.1<=S.length/\B0 hZ E 3 s.2 (((List.range s.1).filter λa=>S.getD a false).map λ(a:Nat)=>(a:Int))/\(∀b,A5 s.2 b->w2.heap.size<=b)/\o6 w2 E) (λs=>S.length-s.1) (0,.slice none 0 0) ?_ ?_
 .simp only[B8,simprocAttr];exact⟨tt,tt,ek1 _,B0.nil _ _ _,λb p=>absurd p D8,p6.refl _⟩
 rintro⟨k,v⟩ f3 w3 ⟨g0,g1,g6,a7,bX,_⟩ ⟨aB,h9,bu,ar,z,ab⟩;simp only at aB h9 bu ar z;rw[e0]at g0;rw[e1]at g1;rw[e6]at g6;have av:=bA.ext ab;simp only[eH,simprocAttr,aB,bX];refine A3 (λo=>?_) ?_
 .have ae:=av.inS o;have L:(Instr.loadAt 4 (.pointer (some (G8 vs k)))).run prog w3 = .ok (.bool S[k]) w3:=E1 (P:=prog) av (ej0 o) ai9;have A:=bU7 S k o;generalize S[k]=sb at L A;rcases ej1 sb with h1|h1<;>subst h1
  .simp only[ep4]at A;have cJ:(((List.range k).filter λa=>S.getD a false).map λ(a:Nat)=>(a:Int)).length<=k:=by
    rw[ek2];refine ej7 (el8 _ _) ?_;rw[en9];exact ek6 _
   obtain⟨p1,u4,w4,p2,p3,p4,p5⟩:=push (P:=prog) (t:=45) (e:=45) W3 rfl ar (x:=.int .i64 (k:Int)) (y:=(k:Int)) rfl om om (M0 _);simp only[Value.cells]at p1 p2;simp only[i4,n9,A0,simprocAttr,aB,h9,a7,ae,L,p1,p2];refine nx4 (k+1,u4) ⟨?_,λb p=>?_,p6.ext_of ab p4 z⟩
   .simp only[];rw[A];exact p3
   .rcases p5 b p with h|h
    .exact z b h
    .exact ej7 ab.size h
  .simp only[ep8,er8,em5]at A;simp only[i4,n9,A0,simprocAttr,aB,h9,a7,ae,L];refine nx4 (k+1,v) ⟨?_,z,ab⟩;simp only[];rw[A];exact ar
 rintro rfl;have a1:(((List.range S.length).filter λa=>S.getD a false).map λ(a:Nat)=>(a:Int))=ae5 S:=rfl;rw[a1]at ar;have bz:(ad4 N ks).length=S.length:=by simp[ad4,hl]
 have aM:OkR (ad4 N ks):=dk5 hA;have aO:=λa b=>cm9 (R:=N) (ks:=ks) (a:=a) (b:=b);generalize cZ:ad4 N ks=nx at bz aM aO;have bo:=(ab.block _ (ej4.1 J).1 id).trans J;have cH:w.heap.size<w2.heap.size:=(ej4.1 J).1;have bI:=a3.trans ab;have c0:(ae5 S).length<=S.length:=by
  unfold ae5;rw[ek2];refine ej7 (el8 _ _) ?_;rw[en9];exact ek6 _
 refine A9 [0,1,6] (σ:=Value×List Int×List Bool) (λs f E=>f 9=s.1/\B0 hZ E 3 s.1 s.2.1/\B0 H E 4 vs s.2.2/\(∀b,A5 s.1 b->w2.heap.size<=b)/\E.heap[w.heap.size]?=some (.cells (aQ4 ks) 219 (0,0))/\p6 (A5 vs) w E/\w2.heap.size<=E.heap.size/\SpJ nx S s.2.1 s.2.2 (λ_=>False)/\s.2.1.length+s.2.2.count false<=2*S.length) (λs=>s.2.1.length+s.2.2.count false) (v,ae5 S,S) ?_ ?_
 .simp only[B8,simprocAttr];refine⟨h9,ar,av,z,bo,bI.weaken λ_ _ h=>h.elim,ab.size,SpJ.start,?_⟩;have:=List.count_le_length (a:=false) (l:=S);omega
 rintro⟨v4,X,sn⟩ f4 w4 ⟨r0,r1,r6,_⟩ ⟨aP,Z,aw,ap,bp,aW,bE,hJ,bg⟩;simp only at aP Z aw ap hJ bg;rw[g0]at r0;rw[g1]at r1;rw[g6]at r6;have bd:=Z.isS;have aY:=Z.vlen;have cG:=Z.vcap;simp only[eH,simprocAttr,aP,bd,aY];refine A8 (λhc=>?_) (λhc=>?_);rotate_left
 .have cl:X=[]:=by
   have:¬(0:Int)<(X.length:Int):=by simpa using hc
   exact List.length_eq_zero_iff.1 om
  subst cl;have br:=hJ.fin aM bz;simp only[i4,simprocAttr];refine bk5 results92 ?_;rw[<-br];exact⟨aw,aW⟩
 obtain⟨n,bw⟩:∃n,X.length=n+1:=⟨X.length-1,by have:(0:Int)<(X.length:Int):=by simpa using hc
                                              omega⟩
 obtain⟨td,c,rfl,c1,cm,cn⟩:=bc8 bw;obtain⟨bb,bm⟩:=hJ.pop;have bn:=X5 bm;rw[bb.len]at bn;obtain⟨cS,cT⟩:=B5.1 bn;obtain⟨C,rfl⟩:∃C:Nat,c=(C:Int):=⟨c.toNat,om⟩;have cp:IntKind.i64.wrap (((n+1:Nat):Int)-1)=(n:Int):=by rw[M7 _ om];omega
 rw[bw]at aY;have ae:=Z.inS (k:=n) om;have L:(Instr.loadAt 3 (.pointer (some (G8 v4 n)))).run prog w4 = .ok (.int .i64 (C:Int)) w4:=E1 (P:=prog) Z cm K1;obtain⟨ax,bh⟩:=cp7 (sz:=1) Z (i:=n) om;rw[cn]at ax;have aQ:decide ((n:Int)<=(vcap v4:Int))=true:=by simp;omega
 have aq:∀b,A5 (reS v4 0 n 1) b->w2.heap.size<=b:=λb p=>ap b ((bh b).1 p);generalize co:reS v4 0 n 1=v5 at ax aq;have aC:C<N.length:=om
 have bZ:E2 H (i5 w4):=G4 hH aW λb p=>af.free p;obtain⟨uR,az,b6⟩:=R.row bF (ej0 aC);have bt:=bF.inS aC;have cd:=J7 (P:=prog) (t:=216) b6 bZ bL0;obtain⟨ck,bD⟩:=hA _ (ek0 aC);have a2:∀b,b∈E3 nx (C:Int)↔∃k∈ks,(b,k)∈N[C]:=λb=>by
  rw[aO,el5,List.getD_eq_getElem?_getD,ej0 aC,eo5];exact⟨λh=>h.2,λh=>⟨B5.2 ⟨om,om⟩,h⟩⟩
 generalize N[C]=W at az ck bD a2;have b2:=az.isS;have cf:=az.vlen;rw[ej2,em3]at bg;simp only[i4,n9,A0,M4,simprocAttr,aP,bd,aY,cp,ae,L,aQ,co,r0,bt,cd,b2,cf];refine A9 [0,1,6,54,55] (σ:=(Nat×Value)×(List Int×List Bool)) (λs f E=>f 56 = .int .i64 s.1.1/\f 9=s.1.2/\s.1.1<=W.length/\B0 hZ E 3 s.1.2 s.2.1/\B0 H E 4 vs s.2.2/\(∀b,A5 s.1.2 b->w2.heap.size<=b)/\E.heap[w.heap.size]?=some (.cells (aQ4 ks) 219 (0,0))/\p6 (A5 vs) w E/\w2.heap.size<=E.heap.size/\SpJ nx S s.2.1 s.2.2 (λd=>d=(C:Int))/\z7 s.2.2 (C:Int)=true/\(∀t∈W.take s.1.1,t.2∈ks->z7 s.2.2 t.1=true)/\s.2.1.length+s.2.2.count false<=td.length+sn.count false) (λs=>W.length-s.1.1) ((0,v5),(td,sn)) ?_ ?_
 .simp only[B8,simprocAttr];exact⟨tt,tt,ek1 _,ax,aw,aq,bp,aW,bE,bb,bm,λt ht=>by simp at ht,ek6 _⟩
 rintro⟨⟨j,v6⟩,aH,g⟩ f6 w6 ⟨j0,j1,j6,a4,cr,_⟩ ⟨ag,ah,cb,aZ,ac,m,am,aX,U,ad,I,G,Y⟩;simp only at ag ah cb aZ ac m ad I G Y;rw[r0]at j0;rw[r1]at j1;rw[r6]at j6;simp only[eH,simprocAttr,ag,cr];refine A3 (λo=>?_) ?_;rotate_left
 .rintro rfl;rw[ek4]at G;have b1:=ad.close (λd hd=>by
   obtain⟨k,hk,hm⟩:=(a2 d).1 hd;exact G _ hm hk)
  simp only[i4,simprocAttr];exact⟨(v6,aH,g),by simp only[];rw[ej2,em3];omega,ah,aZ,ac,m,am,aX,U,b1,so⟩
 have an:=az.inS o;have ba:E2 H (i5 w6):=G4 hH aX λb p=>af.free p;have O:=di0 az ba (ej0 o);obtain⟨aT,aD,aE⟩:=bD _ (ek0 o);have aU:W[j].2∈ks->W[j].1∈E3 nx (C:Int):=λh=>(a2 _).2 ⟨W[j].2,h,ek0 o⟩;have A:=ej8 o;generalize W[j]=t at O aT aD aE aU A;obtain⟨d,q⟩:=t;simp only at O aT aD aE aU;obtain⟨Q,rfl⟩:∃Q:Nat,q=(Q:Int):=⟨q.toNat,om⟩;obtain⟨cU,cV⟩:=B5.1 aT;obtain⟨D,rfl⟩:∃D:Nat,d=(D:Int):=⟨d.toNat,om⟩;have hQ:Q<7:=om
 have ak:decide ((Q:Int)<7)=true:=by simp only[em7];omega
 obtain⟨ca,db,w7,al,ay,V,bk,cF⟩:=dq8 (w:=w6) (D:Int) (Q:Int);obtain⟨bJ,a5⟩:=aK1 bk (p6.refl (M:=λ_=>False) w7) id;have K:=(V.block _ (ej4.1 am).1 id).trans am;have T:=F4 (P:=prog) (t:=4) K (dA2 hQ) ai9;have B:=ac.ext V;have a0:=aZ.ext V;have F:p6 (A5 vs) w w7:=aX.trans (V.weaken λ_ _ h=>h.elim);have cK:=ad.len;have aj:D<g.length:=om
 have aL:=B.inS aj;have ao:(Instr.loadAt 4 (.pointer (some (G8 vs D)))).run prog w7 = .ok (.bool g[D]) w7:=E1 (P:=prog) B (ej0 aj) ai9;have au:I9 g.length (D:Int)=true:=B5.2 ⟨om,om⟩;have bf:z7 g (D:Int)=g[D]:=by
  rw[(N1 au).2,el5,List.getD,ej0 aj];rfl
 have aR:=ad8 (l:=g) aj;generalize g[D]=sb at ao bf aR;have aa:∀sn:List Bool,(∀e,z7 g e=true->z7 sn e=true)->((Q:Int)∈ks->z7 sn (D:Int)=true)->∀t∈W.take (j+1),t.2∈ks->z7 sn t.1=true:=λsn hm hd t ht hk=>by
  rw[A]at ht;rcases ej9.1 ht with ht|ht
  .exact hm _ (G t ht hk)
  .simp only[ek5]at ht;subst ht;exact hd hk
 rcases ej1 (ks.contains (Q:Int))with hq|hq;rotate_left
 .rw[hq]at T;have cj:(Q:Int)∉ks:=λh=>by rw[ek7.2 h]at hq;cases hq
  simp only[i4,n9,A0,simprocAttr,ag,ah,a4,an,O,al,ay,a5,j6,ak,T];exact nx4 ((j+1,v6),(aH,g)) ⟨a0,B,m,K,F,ej7 U V.size,ad,I,aa g (λ_ h=>h) (λh=>absurd h cj),Y⟩
 rw[hq]at T;have ci:=ek7.1 hq;rcases ej1 sb with h1|h1<;>subst h1
 .simp only[i4,n9,A0,simprocAttr,ag,ah,a4,j1,an,O,al,ay,bJ,a5,j6,ak,T,aL,ao];exact nx4 ((j+1,v6),(aH,g)) ⟨a0,B,m,K,F,ej7 U V.size,ad,I,aa g (λ_ h=>h) (λ_=>bf),Y⟩
 have aR:=aR rfl;obtain⟨w8,s1,bB,r,cL⟩:=F9 (P:=prog) (t:=4) B rfl aj (x:=.bool true) (y:=true) rfl rfl bs aK;have bl:=aK1 bk r (λh=>by have:=B.lt h;have:=ac.lt h;omega);have aJ:=(r.block _ (ej4.1 K).1 λh=>by have:=aN _ h;omega).trans K;have bv:∀b,A5 v6 b->¬A5 vs b:=λb p b4=>by
  have:=m b p;have:=aN b b4;omega
 have ch:=a0.mod r bv;obtain⟨p1,u9,w9,p2,p3,p4,p5⟩:=push (P:=prog) (t:=45) (e:=45) W3 rfl ch (x:=.int .i64 (D:Int)) (y:=(D:Int)) rfl om om (M0 _);simp only[Value.cells]at p1 p2;have bC:=bB.mod p4 λb p h=>bv b h p;have bq:=(p4.block _ (ej4.1 aJ).1 λh=>by have:=m _ h;omega).trans aJ;have bc:=ad.push I au (aU ci);rw[el5]at bc;have bj:∀e,z7 (g.set D true) e=if e=(D:Int)then true else z7 g e:=λe=>by
  have:=M9 (l:=g) (a:=(D:Int)) (b:=e) (v:=true) au;rw[el5]at this;exact this
 have bi:∀e,z7 g e=true->z7 (g.set D true) e=true:=λe he=>by rw[bj,he];simp
 have ce:p6 (A5 vs) w w9:=by
  refine⟨p4.os.trans (r.os.trans F.os),p4.tape.trans (r.tape.trans F.tape),p4.output.trans (r.output.trans F.output),ej7 F.size (ej7 r.size p4.size),λb p bx=>?_⟩;rw[p4.block b (eq5 p (ej7 F.size r.size)) λh=>by have:=m b h;omega,r.block b (eq5 p F.size) bx];exact F.block b p bx
 simp only[i4,n9,A0,simprocAttr,ag,ah,a4,j1,an,O,al,ay,bJ,a5,j6,ak,T,aL,ao,s1,bl.1,p1,p2];refine nx4 ((j+1,u9),(aH++[(D:Int)],g.set D true)) ⟨p3,bC,λb p=>?_,bq,ce,ej7 (ej7 U V.size) (ej7 r.size p4.size),bc,bi _ I,aa _ bi λ_=>?_,?_⟩
 .rcases p5 b p with h|h
  .exact m b h
  .exact ej7 (ej7 U V.size) (ej7 r.size h)
 .rw[bj];simp
 .simp only[ej2,em3];omega
end Go.Proofs.YtpebpfiglfmegaaGreat

/- What the functions of the program do, for every input; plain facts. No condition, no statement of its own. Part 4. -/
import Derived.ArgAppend
import Derived.Test.YtpebpfiglfmegaaGreatZ3
set_option maxRecDepth 1000000
set_option maxHeartbeats 8000000
set_option linter.unusedVariables false
set_option linter.unusedSimpArgs false
set_option linter.unnecessarySimpa false
set_option linter.defProp false
namespace Go.Proofs.YtpebpfiglfmegaaGreat
open Go Tryz List IntKind Region
def dX6:I4 prog 266 95 1 24=true:=by decide +kernel
def cW6{p i x y}{wy:Wy}(d:E3 p)(hw:C1 p<=1000000)(b:i<p.procs.length)(a:aw0 p i x y wy):wy.aug.length<=2000000:=by
 have c:wy.aug=an3 (wy.virtual++wy.real++[⟨0,-1,2⟩]++((i5 p).of i).flatMap Y9):=by unfold Wy.aug;rw[a.s,a.proc]
 have e:=ct7 d hw b a;have f:=(bI1 p hw i b).2;have g:=U3 Y9 1 ((i5 p).of i) λx _=>bT0 x;rw[c];apply eD7 (bo1 _);simp only[eD4,eG3];omega
def cn1{p i x y}{wy:Wy}(e:E3 p)(hw:C1 p<=1000000)(d:i<p.procs.length)(a:aw0 p i x y wy):∀t∈wy.aug,RgS x y t:=by
 have c:wy.aug=an3 (wy.virtual++wy.real++[⟨0,-1,2⟩]++((i5 p).of i).flatMap Y9):=by unfold Wy.aug;rw[a.s,a.proc]
 intro t b;rw[c]at b;exact dt5 e hw d a t (bo2 b)
def cK1(a)(wy:Wy)(p i x y w)(ha:At (n8 w) a wy)(hr:E3 p)(hw:C1 p<=1000000)(hi:i<p.procs.length)(S:aw0 p i x y wy):
  p7 prog 206 #[a] w λu m=>(R (n8 m) u wy.follow/\o6 w m):=by
 apply y5 [a] func206 rfl;obtain⟨_,_,_,_,_,_,aQ,cS⟩:=ha.wy;have lw:=aQ w (n7 _);have c3:=I3 hr.may;have c9:=S.part.ok.len;have c8:=S.part.ok.le;have hn:=S.n;have cr:=cW6 hr hw hi S;have a6:=cn1 hr hw hi S;have aL:=bu9 S.toWyOk a6;have aJ:wy.n=((wy.n.toNat:Nat):Int):=om
 have bI:(wy.pairs wy.aug).length=wy.aug.length:=eE3 _;have hF:wy.follow=X5 (as7 wy.n.toNat (wy.pairs wy.aug)) (wy.n.toNat-1) (wy.n.toNat*wy.n.toNat+1) (V0 wy.n.toNat):=rfl;have a3:wy.n.toNat<=202:=om
 have cj:2<=wy.n.toNat:=om
 generalize hM:wy.n.toNat=M at hF aJ a3 cj;have hz:A9.enc (n8 w) (Value.slice none 0 0).cells.toList F0:=⟨rfl,rfl⟩;obtain⟨vo,w1,ag,bG,aO,br,_⟩:=mk (P:=prog) (w:=w) (h:=n8 w) cS8 av6 (α:=Raw) (y:=F0) hz (n:=M) om om (n7 _);rw[<-aJ]at ag;have bf:E1 (n8 w) w1 45 3 vo (replicate M F0) (as7 M []):=by rw[cE0];exact ar6 bG
 simp only[eF,simprocAttr,lw,ag];apply z6 (cV8 a wy p i x y w1 (ha.mono (b7 aO)) hr hw hi S);rintro ud w2 ⟨bH,ak⟩;simp only[i4,simprocAttr];apply z6 (aF6 a wy p i x y ud _ w2 (ha.mono (b7 (aO.trans ak))) S.toWyOk (bH.rw_ (b7 ak)) a6 om);rintro uq w3 ⟨aK,bi⟩;have bg:=bf.ext (ak.trans bi);have N:∀b,Q6 vo (replicate M F0) b->b<w2.heap.size:=λb z=>(bf.ext ak).lt z;generalize wy.pairs wy.aug=ps at aK hF aL bI;have aA:R (D9 w3 (Q6 vo (replicate M F0))) uq ps:=aK.flatRN λb z=>E9 λcp=>by
  have h1:=N b cp;have h2:=D4 (aK.free z);omega
 have bm:=aA.isS;have bE:=aA.vlen;simp only[eF,simprocAttr,bm,bE];refine B4 [0,3,20,21] (σ:=Nat×List Raw) (λs f m=>f 22=s.1/\s.1<=ps.length/\E1 (n8 w) m 45 3 vo s.2 (as7 M (ps.take s.1))/\t8 (Q6 vo (replicate M F0)) w3 m/\(∀b,Q6 vo s.2 b->Q6 vo (replicate M F0) b\/w3.heap.size<=b)) (λs=>ps.length-s.1) (0,replicate M F0) ?_ ?_
 .exact⟨rfl,eE2 _,by simpa using bg,t8.refl _,λb z=>.inl z⟩
 rintro⟨k,us⟩ f L ⟨e0,e3,ce,cf,_⟩ ⟨aE,bx,ab,aw,O⟩;simp only at aE bx ab O;have D:o6 w L:=t8.ext_of (aO.trans (ak.trans bi)) aw λb z=>D4 (bg.free z);simp only[eF,simprocAttr,aE,cf];refine A7 (λaa=>?_) ?_
 .have a9:=aA.inS aa;have ba:=dB0 aA (F5 aw) (eD1 aa);have bV:=eD9 aa;obtain⟨bJ,bK⟩:=aL _ (eE1 aa);generalize ps[k]=t at ba bV bJ bK;obtain⟨z1,z2⟩:=t;simp only at bJ bK ba;obtain⟨Q,rfl⟩:∃Q:Nat,z1=(Q:Int):=⟨z1.toNat,om⟩;have hQ:Q<M:=om
  obtain⟨c,wz,w5,cn,bT,al,ct,c7⟩:=dK4 (w:=L) (Q:Int) z2;have T:=ab.ext (al.trans (o6.drew w5));have cC:us.length=M:=by rw[ab.len,bu2]
  obtain⟨u,hu⟩:∃u,us[Q]?=some u:=⟨us[Q]' om,eD1 om⟩;have C:=T.row Q u _ hu (bU4 _ hQ);have aM:=aU2 (ps.take k) Q;rw[eE5]at aM;have bq:¬B0 u.v c:=λz=>by
   have:=ab.lt (.inr ⟨u,eF7 hu,z⟩);omega
  have bn:w5.drew.heap[c]?=some (.cells #[Q,z2] 208 (0,0)):=ct;have t0:J4 prog (λm=>t8 (B0 u.v) w5.drew m) 3 ⟨c,0,none⟩ Q:=sdx λm h=>(aF3 bn h bq).1;have t1:J4 prog (λm=>t8 (B0 u.v) w5.drew m) 3 ⟨c,1,none⟩ z2:=sdx λm h=>(aF3 bn h bq).2;have t2:J4 prog (λm=>t8 (B0 u.v) w5.drew m) 45 (I2 vo Q) u.v:=sdx λm h=>bV5 (T.outer.mod h λb z co=>T.off Q u hu b co z) hu ao0;have dp:=T.outer.isS;have bw:=T.outer.inS (k:=Q) om;have bY:=D.trans (al.trans (o6.drew w5));obtain⟨p1,u6,w6,p2,p3,p4,p5⟩:=push (e:=45) V8 rfl C (x:=z2) (y:=z2) rfl om om (b7 bY);simp only[Value.cells]at p1 p2;obtain⟨w7,s1,az,cw,_⟩:=T.put (P:=prog) (t:=45) hu p4 p3 p5 (B1 av6).choose_spec.1 (by rw[<-F8 (B1 av6).choose_spec.1];exact bK0);simp only[i4,n9,A6,simprocAttr,aE,ce,a9,ba,cn,bT];refine C4 (t8 (B0 u.v) w5.drew) 12 (A8 [0,1,2,3,4,5,6,7,8,9,10,11]) ?_;simp only[D7,A8,i4,n9,A6,simprocAttr,e3,t0,t1,t2,bw,p1,p2,F2];refine⟨t8.up (o6.alloc _ _),p4,?_⟩;simp only[eF,simprocAttr,s1,aE];have bO:∀b,B0 u.v b->Q6 vo us b:=λb z=>.inr ⟨u,eF7 hu,z⟩;have da:w3.heap.size<=w5.drew.heap.size:=eD7 aw.size ((al.trans (o6.drew w5)).size);refine U5 (k+1,us.set Q ⟨u6⟩) ⟨?_,?_,λb z=>?_⟩
  .simp only[];rw[bV,ch7 _ hQ];exact az
  .refine(aw.chain (t8.up (M:=λ_=>False) (al.trans (o6.drew w5))) λ_ _ h=>h.elim).chain (t8.trans (M:=λb=>B0 u.v b\/B0 vo b) (p4.weaken λb _ h=>.inl h) (cw.weaken λb _ h=>.inr h)) (λb z h=>?_);rcases h with h|h
   .exact(O b (bO b h)).resolve_right om
   .exact .inl h
  .rcases cF6 z with h|h
   .exact O b h
   .rcases p5 b h with h|h
    .exact O b (bO b h)
    .exact .inr om
 rintro rfl;rw[eE4]at ab;have bb:=ab.ro (b7 D);have bZ:∀a∈as7 M ps,∀b∈a,0<=b/\b<(M:Int):=λa ha b z=>by
  obtain⟨t,ht,rfl⟩:=(bu3 ha).2 b z;have:=(aL t ht).2;omega
 have bD:∀a∈as7 M ps,a.length<=2000000:=λa ha=>by have:=(bu3 ha).1;omega
 have bF:=bu2 M ps;generalize as7 M ps=E at bb bZ bD bF hF;clear ab aw O aA aK bg bf bG ag bH N bi ak aO aL bI a6 cr;clear lw bx bm bE br;have lw:=aQ L (b7 D);have cH:A9.enc (n8 L) (Value.slice none 0 0).cells.toList F0:=⟨rfl,rfl⟩;obtain⟨vf,w5,ag,bc,al,_,_⟩:=mk (P:=prog) (w:=L) (h:=n8 L) dX6 ck6 (α:=Raw) (y:=F0) cH (n:=M) om om (n7 _);rw[<-aJ]at ag;have T:=ar6 (α:=Bool) (T':=4) bc;have cy:vlen vf=M:=by rw[bc.vlen,eJ3]
 simp only[eF,simprocAttr,e0,lw,ag,bc.isS,cy];obtain⟨ib,bt,aV⟩:=ay1 (P:=prog) Y5 aK1;obtain⟨dv,aW,au⟩:=ay1 (P:=prog) ck6 dc8;have a7:(V0 M).length=M:=(W5 M).len;refine B4 [0,3,6,46] (σ:=Nat×List Raw) (λs f m=>f 47=s.1/\s.1<=M/\E1 (n8 L) m 95 4 vf s.2 ((V0 M).take s.1++replicate (M-s.1) [])/\o6 L m) (λs=>M-s.1) (0,replicate M F0) ?_ ?_
 .exact⟨rfl,eE2 _,by simpa using T,al⟩
 rintro⟨g,an⟩ f2 w6 ⟨g0,g3,g6,bl,_⟩ ⟨aF,cv,H,aP⟩;simp only at aF cv H;rw[e0]at g0;rw[e3]at g3;have cK:=aQ w6 (b7 (D.trans aP));simp only[eF,simprocAttr,aF,bl];refine A7 (λaa=>?_) ?_
 .obtain⟨vr,w7,a0,be,Y,bs,_⟩:=mk (P:=prog) (w:=w6) (h:=n8 L) (α:=Bool) bw9 Y5 (y:=false) rfl (n:=M) om om (b7 aP);rw[<-aJ]at a0;have cC:an.length=M:=by rw[H.len,eD4,eE5,eJ3];omega
  obtain⟨u,hu⟩:∃u,an[g]?=some u:=⟨an[g]' om,eD1 om⟩;have a9:=H.outer.inS (k:=g) om;obtain⟨w8,s1,o,cx,_⟩:=H.put (P:=prog) (t:=95) hu (t8.up Y) be (λb z=>.inr (bs b z)) aW au;have I:o6 L w8:=(H.outer.ext Y).ext2 (aP.trans Y) cx;have ac:(an.set g ⟨vr⟩)[g]?=some ⟨vr⟩:=eL0 om;have av:=bV5 (P:=prog) (t:=95) o.outer ac aQ5;have cl:=be.isS;have cz:vlen vr=M:=by rw[be.vlen,eJ3]
  obtain⟨rk,bh⟩:∃r,(V0 M)[g]?=some r:=⟨_,eD1 om⟩;have aM:rk.length=M:=(W5 M).row rk (eF7 bh);have bN:∀b (z:b<M),rk[b]?=some (decide (g+1<M)||decide (g=b)):=λb z=>by
   have:=bm4 aa z;unfold mAt at this;rw[getD,getD,bh,eI9,eD1 om]at this;rw[eD1 om];exact eE9 some this
  have ax:=az3 (d:=([]:List Bool)) a7 aa bh;have cm:((V0 M).take g++replicate (M-g) ([]:List Bool)).length=M:=by rw[eD4,eE5,eJ3];omega
  generalize(V0 M).take g++replicate (M-g) ([]:List Bool)=X at H o ax cm;generalize hU:an.set g ⟨vr⟩=U at o ac;simp only[i4,n9,A6,simprocAttr,aF,g0,g6,cK,a0,a9,s1,av,cl,cz];refine B4 [0,3,6,7,46,47,62] (σ:=Nat) (λb f m=>f 63=b/\b<=M/\E1 (n8 L) m 95 4 vf U (X.set g (rk.take b++replicate (M-b) false))/\o6 L m) (λb=>M-b) 0 ?_ ?_
  .exact⟨rfl,eE2 _,by simpa using o,I⟩
  rintro b f3 w9 ⟨q0,q3,q6,q7,cP,b0,cR,_⟩ ⟨aq,dr,W,am⟩;rw[g0]at q0;rw[g3]at q3;rw[g6]at q6;rw[aF]at b0;rw[bl]at cP;simp only[eF,simprocAttr,aq,cR];refine A7 (λN=>?_) ?_;rotate_left
  .rintro rfl;rw[Nat.sub_self,replicate_zero,eG5,<-aM,eE4,ax]at W;simp only[eF,simprocAttr,b0];refine U5 (g+1,U) ⟨W,am⟩
  have ah:=az3 (d:=false) aM N (bN b N);have ck:(rk.take b++replicate (M-b) false).length=M:=by rw[eD4,eE5,eJ3];omega
  generalize rk.take b++replicate (M-b) false=r at W ah ck;have C:=(W.ext (o6.drew w9)).row g _ r ac (eL0 om);simp only at C;have aY:=C.inS (k:=b) om;have bX:IntKind.i64.wrap (wy.n-1)=((M-1:Nat):Int):=by rw[N7 _ om];omega
  have sw:=cS (o6 w9.drew) w9.drew (t8.refl _) λm h=>b7 (D.trans (am.trans ((o6.drew w9).trans h)));have tr:J4 prog (λm=>o6 w9.drew m) 95 (I2 vf g) vr:=sdx λm h=>bV5 (W.outer.ext ((o6.drew w9).trans h)) ac aQ5;have aX:=W.outer.inS (k:=g) (eD8.1 ac).1;have hV:(decide (g+1<M)||decide (g=b))=(decide ((g:Int)<((M-1:Nat):Int))||decide ((g:Int)=(b:Int))):=by
   congr 1
   .rw[eI5];omega
   .rw[eI5];omega
  rw[hV]at ah;have bS:=λV:Bool=>G4 (P:=prog) (t:=4) C rfl (k:=b) om (x:=V) (y:=V) rfl rfl bt aV;rcases eD2 (decide ((g:Int)<((M-1:Nat):Int)))with hq|hq
  .rw[hq,eQ0]at ah;obtain⟨ao,s2,ay,B,_⟩:=bS true;have v:=(W.ext (o6.drew w9)).write ac B ay;rw[set_set,ah]at v;have q:o6 L ao:=C.ext2 (am.trans (o6.drew w9)) B;simp only[i4,simprocAttr,aq];refine C4 (o6 w9.drew) 17 (A8 [0,1,2,3,4,5,6,7,8,9,10,11,12,13,14,15,16]) ?_;simp only[D7,A8,i4,n9,A6,simprocAttr,q0,q6,q7,sw,tr,aX,bX,hq];simp only[eF,simprocAttr,aY,s2,aq];refine U5 (b+1) ⟨v,q⟩
  .rw[hq,eO3]at ah;obtain⟨ao,s2,ay,B,_⟩:=bS (decide ((g:Int)=(b:Int)));have v:=(W.ext (o6.drew w9)).write ac B ay;rw[set_set,ah]at v;have q:o6 L ao:=C.ext2 (am.trans (o6.drew w9)) B;simp only[i4,simprocAttr,aq];refine C4 (o6 w9.drew) 17 (A8 [0,1,2,3,4,5,6,7,8,9,10,11,12,13,14,15,16]) ?_;simp only[D7,A8,i4,n9,A6,simprocAttr,q0,q6,q7,sw,tr,aX,bX,hq];simp only[eF,simprocAttr,aY,s2,aq];refine U5 (b+1) ⟨v,q⟩
 rintro rfl;rw[Nat.sub_self,replicate_zero,eG5]at H;rw[eI0 (by rw[a7];exact eE8 _)]at H;have bL:=H;have cG:=aP;generalize an=cY at bL;simp only[i4,simprocAttr];refine B4 [0,3,6] (σ:=(Nat×List Raw)×(List (List Bool)×Bool)) (λs f m=>f 9=s.2.2/\E1 (n8 L) m 95 4 vf s.1.2 s.2.1/\o6 L m/\s.2.1=X5 E (g-1) s.1.1 (V0 g)/\SqM g s.2.1/\cu8 g E s.2.1/\aP0 s.2.1+s.1.1<=g*g/\(s.2.2=false->J7 E s.2.1 (g-1)=s.2.1)) (λs=>if s.2.2 then aP0 s.2.1+1 else 0) ((0,cY),(V0 g,true)) ?_ ?_
 .simp only[C9,simprocAttr];refine⟨tt,bL,cG,rfl,W5 _,bb0 _ _,?_,λh=>by cases h⟩;have:=bL7 g (V0 g) (W5 g).row;rw[a7]at this;simpa using this
 rintro⟨⟨K,cZ⟩,fm,tu⟩ f7 w7 ⟨j0,j3,j6,_⟩ ⟨h9,az,Y,aI,bR,aT,bo,aU⟩;simp only at h9 az aI bR aT bo aU;rw[g0]at j0;rw[g3]at j3;rw[g6]at j6;have cL:=aQ w7 (b7 (D.trans Y));simp only[i4,simprocAttr,h9];refine B2 (λht=>?_) (λht=>?_);rotate_left
 .have a8:=aU ht;have bP:wy.follow=fm:=by
   rw[hF,show g*g+1=K+(g*g+1-K) by omega,bb1,<-aI,aT1 a8]
  simp only[i4,simprocAttr,j6];exact o8 results206 ⟨by rw[bP];exact az.ro (b7 Y),D.trans Y⟩
 subst ht;have cF:IntKind.i64.wrap (wy.n-2)=((g-1:Nat):Int)-1:=by rw[N7 _ om];omega
 simp only[eF,simprocAttr,j0,cL,cF];refine B4 [0,3,6] (σ:=(Nat×List Raw)×(List (List Bool)×Bool)) (λs f m=>f 10 = .int .i64 ((s.1.1:Int)-1)/\s.1.1+1<=g/\f 9=s.2.2/\E1 (n8 L) m 95 4 vf s.1.2 s.2.1/\o6 L m/\J7 E s.2.1 s.1.1=J7 E fm (g-1)/\SqM g s.2.1/\cu8 g E s.2.1/\(s.2.2=false->s.2.1=fm)/\(s.2.2=true->aP0 s.2.1<aP0 fm)) (λs=>s.1.1) ((g-1,cZ),(fm,false)) ?_ ?_
 .simp only[C9,simprocAttr];exact⟨tt,om,tt,az,Y,tt,bR,aT,λ_=>tt,λh=>by cases h⟩
 rintro⟨⟨J,ae⟩,gm,tv⟩ f8 w8 ⟨m0,m3,m6,_⟩ ⟨Z,hJ,aG,o,I,aj,l,A,aH,aN⟩;simp only at Z hJ aG o aj l A aH aN;rw[j0]at m0;rw[j3]at m3;rw[j6]at m6;simp only[eF,simprocAttr,Z];refine B2 (λa5=>?_) (λa5=>?_);rotate_left
 .have ci:J=0:=by simp at a5;omega
  subst ci;have a1:gm=J7 E fm (g-1):=aj;cases tv with
  | false=>
   have e:=aH rfl;have a8:J7 E fm (g-1)=fm:=by rw[<-a1];exact e
   simp only[eF,simprocAttr];refine⟨((K,ae),gm,false),dG,aG,o,I,by rw[e];exact aI,l,A,by rw[e];exact bo,λ_=>?_⟩;simp only[];rw[e];exact a8
  | true=>
   have e:=aN rfl;simp only[eF,simprocAttr];refine⟨((K+1,ae),gm,true),by simp;omega,aG,o,I,?_,l,A,so,λh=>by cases h⟩;simp only[];rw[bb1,<-aI,a1];rfl
 obtain⟨j,rfl⟩:∃j,J=j+1:=⟨J-1,by simp at a5;omega⟩;have hj:j+1<g:=hJ;have ar:((j+1:Nat):Int)-1=(j:Int):=om
 rw[ar]at Z;obtain⟨un,cD,bp⟩:=R.row bb (show E[j]?=some (E.getD j []) by rw[getD,eD1 om];rfl);have bC:E.getD j []∈E:=by rw[getD,eD1 om];exact eE1 _
 have bz:=M0 (P:=prog) (t:=45) bp (b7 I) ao0;simp only[i4,n9,A6,simprocAttr,ar,Z,m3,m6,bb.inS (k:=j) om,bz];apply z6 (cS6 vf un g gm (E.getD j []) w8 (o.ro (b7 I)) (A9.mono (b7 I) cD) l (bZ _ bC) om (by have:=bD _ bC;omega));rintro ul w9 ⟨bd,am⟩;have bv:=bd.inS (k:=j) (by rw[ar8,l.len];omega);obtain⟨ao,s1,G,B,_⟩:=G4 (P:=prog) (t:=4) bd rfl (k:=j) (by rw[ar8,l.len];omega) (x:=true) (y:=true) rfl rfl bt aV;have bB:(al8 gm (E.getD j [])).set j true=ac4 E gm j:=rfl;rw[bB]at G;have q:o6 w8 ao:=bd.ext2 am B;have ad:=I.trans q;have v:=o.ext q;have aS:=v.ro (b7 ad);obtain⟨hg,cs⟩:=l.get (a:=j) om;obtain⟨ur,cE,cq⟩:=R.row aS hg;have av:=M0 (P:=prog) (t:=95) cq (n7 _) aQ5;have bu:=aS.inS (k:=j) (by rw[l.len];omega);simp only[i4,n9,A6,simprocAttr,bv,s1,Z,m6,bu,av];apply z6 (cN4 ul ur (ac4 E gm j) (gm.getD j []) ao (G.rw_ (b7 q)) cE (by rw[aU8,l.len];omega) (by rw[cs];omega));rintro _ dH ⟨rfl,F⟩;obtain⟨cT,cU,cV,cW⟩:=bX7 l A hj;have bQ:J7 E gm (j+1)=J7 E (ac2 E gm j) j:=rfl;rw[bQ]at aj;have bW:IntKind.i64.wrap ((j:Int)-1)=(j:Int)-1:=N7 _ om;rcases eD2 (decide (ac4 E gm j=gm.getD j []))with he|he
 .have cA:=cV (eD3 he);rw[cA]at aj;simp only[eF,simprocAttr,he,Z,bW];refine⟨((j,ae),gm,tv),dG,tt,so,aG,v.ext F,ad.trans F,aj,l,A,aH,aN⟩
 .have aZ:=cW (eD6 he);have db:ae.length=g:=by rw[o.len,l.len]
  obtain⟨u8,cB⟩:∃u,ae[j]?=some u:=⟨ae[j]' om,eD1 om⟩;obtain⟨dI,s2,bM,bA,_⟩:=o.put (P:=prog) (t:=95) cB (t8.up (q.trans F)) ((G.ext F).back I) (λb z=>.inr (D4 (G.free z))) aW au;simp only[i4,n9,A6,simprocAttr,he,m6,o.outer.inS (k:=j) om,s2,Z,bW];refine⟨((j,ae.set j ⟨ul⟩),ac2 E gm j,true),dG,tt,so,tt,bM,(o.outer.ext (q.trans F)).ext2 (ad.trans F) bA,aj,cT,cU,(λh=>by cases h),λ_=>?_⟩;simp only[];cases tv with
  | false=>rw[aH rfl]at aZ ⊢;exact aZ
  | true=>have:=aN rfl;omega
def cb4{n}{next:List (List Int)}{f:List (List Bool)}(b:SqM n f)(a):SqM n (ac2 next f a):=by
 have e:ac2 next f a=f.set a (ac4 next f a):=rfl
 rw[e];refine⟨by rw[eK6,b.len],λr c=>?_⟩;rcases eM5 c with h|h
 .exact b.row r h
 .rw[h,aU8,b.len]
def bb3{n}{next:List (List Int)}:∀(m:Nat) {f:List (List Bool)},SqM n f->SqM n (J7 next f m)
 | 0,_,h=>h
 | m+1,_,h=>bb3 m (cb4 h m)
def bR3{n}{next:List (List Int)}{m}:∀(k:Nat) {f:List (List Bool)},SqM n f->SqM n (X5 next m k f)
 | 0,_,h=>h
 | k+1,_,h=>bR3 k (bb3 m h)
def dj4(wy:Wy):SqM wy.n.toNat wy.follow:=by
 unfold Wy.follow;exact bR3 _ (W5 _)
def as5(f:List (List Bool))(M:Nat)(l:List (Int×Int))(a b:Nat):Bool:=decide (1<=b)&&decide (b+1<M)&&l.any λt=>decide (t.1=(a:Int))&&(mAt f t.2.toNat b&&(decide (a=b) || !mAt f a b))
def di1(f:List (List Bool))(M)(l:List (Int×Int))(t:Int×Int)(a b):as5 f M (l++[t]) a b=(as5 f M l a b||(decide (1<=b)&&decide (b+1<M)&&decide (t.1=(a:Int))&&(mAt f t.2.toNat b&&(decide (a=b) || !mAt f a b)))):=by
 unfold as5;rw[any_append];cases decide (1<=b)<;>cases decide (b+1<M)<;>simp
def aS6{wy:Wy}{M:Nat}(d:wy.n=(M:Int)):wy.decides=(range M).flatMap λa=>((range M).filter λb=>as5 wy.follow M (wy.pairs wy.aug) a b).map λ(b:Nat)=>(wy.place (a:Int),wy.place (b:Int)):=by
 unfold Wy.decides;simp only[];rw[d,eF4]
 congr 1
 funext a
 congr 1
 refine filter_congr λb e=>?_;unfold as5;have c:decide ((b:Int)<(M:Int)-1)=decide (b+1<M):=by rw[eI5];omega
 rw[c];refine eE9 (λg=>decide (1<=b)&&decide (b+1<M)&&(wy.pairs wy.aug).any g) (funext λt=>?_);unfold atB mAt;rw[eF4,Bool.and_assoc]
theorem cp2{α:Type}{l:List α}{k}{d x:α}(h:l[k]?=some x):l.getD k d=x:=by rw[getD,h];rfl
def cu9(a)(wy:Wy)(p i x y w)(ha:At (n8 w) a wy)(hr:E3 p)(hw:C1 p<=1000000)(hi:i<p.procs.length)(E:aw0 p i x y wy):
  p7 prog 146 #[a] w λu Z=>(B7 (n8 w) Z 208 u wy.decides/\o6 w Z):=by
 apply y5 [a] func146 rfl;obtain⟨_,_,_,_,_,_,bi,dA⟩:=ha.wy;have cZ:=I3 hr.may;have c8:=E.part.ok.len;have c7:=E.part.ok.le;have hn:=E.n;have dp:=cW6 hr hw hi E;have bv:=cn1 hr hw hi E;have bI:=bu9 E.toWyOk bv;have cB:(wy.pairs wy.aug).length=wy.aug.length:=eE3 _;have aS:wy.n=((wy.n.toNat:Nat):Int):=om
 have I:=dj4 wy;have a5:wy.n.toNat<=202:=om
 have ch:2<=wy.n.toNat:=om
 generalize hM:wy.n.toNat=M at aS a5 ch I;have hF:=aS6 aS;simp only[eF,simprocAttr];apply z6 (cK1 a wy p i x y w ha hr hw hi E);rintro vf w1 ⟨aG,aq⟩;generalize wy.follow=g at aG hF I;have cK:=bi w1 (b7 aq);have hz:A9.enc (n8 w1) (Value.slice none 0 0).cells.toList F0:=⟨rfl,rfl⟩;obtain⟨vo,w2,bE,L,cH,_,_⟩:=mk (P:=prog) (w:=w1) (h:=n8 w1) dX6 ck6 (α:=Raw) (y:=F0) hz (n:=M) om om (n7 _);rw[<-aS]at bE;have bM:=ar6 (α:=Bool) (T':=4) L;have bn:=L.isS;have bG:vlen vo=M:=by rw[L.vlen,eJ3]
 obtain⟨ib,ct,bz⟩:=ay1 (P:=prog) Y5 aK1;obtain⟨dt,bA,ba⟩:=ay1 (P:=prog) ck6 dc8;have bV:(replicate M (replicate M false)).length=M:=eJ3;simp only[eF,simprocAttr,cK,bE,bn,bG];refine B4 [0,3,4,21] (σ:=Nat×List Raw) (λs f Z=>f 22=s.1/\s.1<=M/\E1 (n8 w1) Z 95 4 vo s.2 ((replicate M (replicate M false)).take s.1++replicate (M-s.1) [])/\o6 w1 Z) (λs=>M-s.1) (0,replicate M F0) ?_ ?_
 .exact⟨rfl,eE2 _,by simpa using bM,cH⟩
 rintro⟨k,us⟩ f w3 ⟨e0,e3,e4,cb,_⟩ ⟨a3,cu,N,ar⟩;simp only at a3 cu N;have cL:=bi w3 (b7 (aq.trans ar));simp only[eF,simprocAttr,a3,cb];refine A7 (λaa=>?_) ?_
 .obtain⟨vr,w4,a0,cz,O,bw,_⟩:=mk (P:=prog) (w:=w3) (h:=n8 w1) (α:=Bool) bw9 Y5 (y:=false) rfl (n:=M) om om (b7 ar);rw[<-aS]at a0;have cF:us.length=M:=by rw[N.len,eD4,eE5,eJ3,eJ3];omega
  obtain⟨u,hu⟩:∃u,us[k]?=some u:=⟨us[k]' om,eD1 om⟩;have bb:=N.outer.inS (k:=k) om;obtain⟨w5,s1,ab,cv,_⟩:=N.put (P:=prog) (t:=95) hu (t8.up O) cz (λb hb=>.inr (bw b hb)) bA ba;rw[az3 (d:=([]:List Bool)) bV aa (by rw[eO7,fi aa])]at ab;simp only[i4,n9,A6,simprocAttr,a3,e0,e4,cL,a0,bb,s1];refine U5 (k+1,us.set k ⟨vr⟩) ⟨ab,(N.outer.ext O).ext2 (ar.trans O) cv⟩
 rintro rfl;rw[Nat.sub_self,replicate_zero,eG5,eI0 (by rw[bV];exact eE8 _)]at N;simp only[i4,simprocAttr,e0];apply z6 (cV8 a wy p i x y w3 (ha.mono (b7 (aq.trans ar))) hr hw hi E);rintro ud w4 ⟨bH,O⟩;simp only[i4,simprocAttr];apply z6 (aF6 a wy p i x y ud _ w4 (ha.mono (b7 (aq.trans (ar.trans O)))) E.toWyOk (bH.rw_ (b7 O)) bv om);rintro uq w5 ⟨aT,bU⟩;have ab:=N.ext (O.trans bU);generalize wy.pairs wy.aug=l at aT hF bI cB;have bS:=ar.trans (O.trans bU);have aF:R (D9 w5 (Q6 vo us)) uq l:=aT.flatRN λb hb=>E9 λcl=>by
  have S:=(N.ext O).lt cl;have h2:=D4 (aT.free hb);omega
 have aj:∀b,Q6 vo us b->n8 w1 b=none:=λb hb=>ab.free hb;have cF:us.length=k:=by rw[ab.len,eJ3]
 have cj:=aF.isS;have cx:=aF.vlen;have bs:∀A B,A<k->B<k->mAt (replicate k (replicate k false)) A B=as5 g k [] A B:=λA B hA hB=>by
  unfold mAt as5;rw[cp2 (show(replicate k (replicate k false))[A]?=some (replicate k false) by rw[eO7,fi hA]),cp2 (show(replicate k false)[B]?=some false by rw[eO7,fi hB])];simp
 have bO:SqM k (replicate k (replicate k false)):=⟨eJ3,λr hr=>by rw[eK9 hr,eJ3]⟩;simp only[eF,simprocAttr,cj,cx];refine B4 [0,3,4,37,38] (σ:=Nat×List (List Bool)) (λs f Z=>f 39=s.1/\s.1<=l.length/\E1 (n8 w1) Z 95 4 vo us s.2/\t8 (Q6 vo us) w5 Z/\SqM k s.2/\∀A B,A<k->B<k->mAt s.2 A B=as5 g k (l.take s.1) A B) (λs=>l.length-s.1) (0,replicate k (replicate k false)) ?_ ?_
 .exact⟨rfl,eE2 _,ab,t8.refl _,bO,by simpa using bs⟩
 rintro⟨q,X⟩ f6 w6 ⟨g0,g3,g4,cd,ce,_⟩ ⟨aM,cC,aC,aR,W,ay⟩;simp only at aM cC aC W ay;rw[e0]at g0;rw[e3]at g3;rw[e4]at g4;have aJ:o6 w1 w6:=t8.ext_of bS aR λb hb=>D4 (aj b hb);simp only[eF,simprocAttr,aM,ce];refine A7 (λaa=>?_) ?_
 .have bb:=aF.inS aa;have bc:=dB0 aF (F5 aR) (eD1 aa);have bQ:=eD9 aa;obtain⟨bK,bL⟩:=bI _ (eE1 aa);generalize l[q]=t at bc bQ bK bL;obtain⟨z1,z2⟩:=t;simp only at bK bL bc;obtain⟨A,rfl⟩:∃Q:Nat,z1=(Q:Int):=⟨z1.toNat,om⟩;obtain⟨C,rfl⟩:∃Q:Nat,z2=(Q:Int):=⟨z2.toNat,om⟩;have hA:A<k:=om
  have hC:C<k:=om
  have aQ:∀A' B,as5 g k (l.take (q+1)) A' B=(as5 g k (l.take q) A' B||(decide (1<=B)&&decide (B+1<k)&&decide (A=A')&&(mAt g C B&&(decide (A'=B) || !mAt g A' B)))):=λA' B=>by
   rw[bQ,di1];simp only[eF4];have:decide ((A:Int)=(A':Int))=decide (A=A'):=by rw[eI5];omega
   rw[this]
  obtain⟨c,wz,w7,ck,bP,bg,bx,c5⟩:=dK4 (w:=w6) (A:Int) (C:Int);have cD:=aC.ext bg;have cn:¬Q6 vo us c:=λhb=>by
   have:=aC.lt hb;omega
  have bT:=aJ.trans bg;have bC:t8 (Q6 vo us) w5 w7:=aR.chain (t8.up (M:=λ_=>False) bg) λ_ _ h=>h.elim;obtain⟨a8,az⟩:=W.get hA;obtain⟨uA,aU⟩:∃u,us[A]?=some u:=⟨us[A]' om,eD1 om⟩;obtain⟨cs,c4⟩:=I.get hC;obtain⟨cr,c3⟩:=I.get hA;obtain⟨uC,bR,cm⟩:=R.row aG cs;obtain⟨dC,ac,aP⟩:=R.row aG cr;have K:=aG.inS (k:=C) (by rw[I.len];exact hC);have aA:=aG.inS (k:=A) (by rw[I.len];exact hA);have cG:IntKind.i64.wrap (wy.n-1)=((k-1:Nat):Int):=by rw[N7 _ om];omega
  simp only[i4,n9,A6,simprocAttr,aM,cd,bb,bc,ck,bP,aF3 bx (M:=λ_=>False) (t8.refl w7) id];refine E4 [0,3,4,7,8,37,38,39] (σ:=Nat×List Bool) (λs f Z=>f 9=s.1/\1<=s.1/\s.1+1<=k/\E1 (n8 w1) Z 95 4 vo us (X.set A s.2)/\t8 (Q6 vo us) w7 Z/\s.2.length=k/\∀B,B<k->s.2.getD B false=if B<s.1 then as5 g k (l.take (q+1)) A B else as5 g k (l.take q) A B) (λs=>k-s.1) (1,X.getD A []) ?_ ?_
  .simp only[C9,simprocAttr];refine⟨tt,dG,om,by rw[cG9 a8];exact cD,t8.refl _,az,λB hB=>?_⟩;have S:=ay A B hA hB;unfold mAt at S;rw[S];split
   .next dk=>
    have:B=0:=om
    subst this;rw[aQ];simp
   .rfl
  rintro⟨b,r⟩ f8 w8 hk ⟨h9,bt,a6,V,ao,ap,aD⟩;simp only at h9 bt a6 V ap aD;simp only[eF8,C9,simprocAttr]at hk;obtain⟨j0,j3,j4,j7,j8,du,dv,bX,_⟩:=hk;rw[g0]at j0;rw[g3]at j3;rw[g4]at j4;rw[aM]at bX;have Y:o6 w1 w8:=t8.ext_of bT ao λb hb=>D4 (aj b hb);have cM:=bi w8 (b7 (aq.trans Y));have af:=aF3 bx ao cn;have ah:=M0 (P:=prog) (t:=95) cm (b7 Y) aQ5;have ag:=M0 (P:=prog) (t:=95) aP (b7 Y) aQ5;simp only[eF,simprocAttr,j0,h9,cM,cG];refine B2 (λa7=>?_) (λa7=>?_);rotate_left
  .have dm:b+1=k:=by simp at a7;omega
   have br:∀B,B<k->r.getD B false=as5 g k (l.take (q+1)) A B:=λB hB=>by
    rw[aD B hB];split
    .rfl
    .rw[aQ];have:decide (B+1<k)=false:=by simp;omega
     rw[this];simp
   simp only[eF,simprocAttr,bX];refine U5 (q+1,X.set A r) ⟨V,bC.chain ao λ_ _ h=>h,⟨by rw[eK6,W.len],λs hs=>?_⟩,λA' B cf hB=>?_⟩
   .rcases eM5 hs with h|h
    .exact W.row s h
    .rw[h];exact ap
   .unfold mAt;simp only[];rw[bd3 A' (by rw[W.len];exact hA)];split
    .next a4=>subst a4;exact br B hB
    .next a4=>
     have S:=ay A' B cf hB;unfold mAt at S;rw[S,aQ];simp[a4]
  have bB:b+1<k:=by
   have:=eD3 a7;omega
  have bu:b<k:=om
  have ae:=bR.inS (k:=b) om;have j:=ldB bR (b7 Y) (k:=b) om;have J:=ac.inS (k:=b) om;have o:=ldB ac (b7 Y) (k:=b) om;have a9:∀r:List Bool,∀h:b<r.length,r[b]=r.getD b false:=λr h=>by simp[getD,h]
  rw[a9]at j o;have cw:(g.getD C []).getD b false=mAt g C b:=rfl;have bd:(g.getD A []).getD b false=mAt g A b:=rfl;rw[cw]at j;rw[bd]at o;have cE:(X.set A r)[A]?=some r:=eL0 (by rw[W.len];exact hA);have a1:=V.row A uA r aU cE;have bN:=aD b bu;rw[fh (Nat.lt_irrefl _)]at bN;have m:=aQ A b;have co:decide (1<=b)=true:=by simpa using bt
  have cp:decide (b+1<k)=true:=by simpa using bB
  rw[co,cp]at m;simp only[decide_true,eJ4]at m;have F:(mAt g C b&&(decide (A=b) || !mAt g A b))=false->∀B,B<k->r.getD B false=if B<b+1 then as5 g k (l.take (q+1)) A B else as5 g k (l.take q) A B:=λhf B hB=>by
   rw[aD B hB];by_cases S:B<b
   .rw[fi S,fi om]
   .rw[fh S];by_cases h2:B=b
    .subst h2;rw[fi om,m,hf,Bool.or_false]
    .rw[fh om]
  have v:(mAt g C b&&(decide (A=b) || !mAt g A b))=true->∀B,B<k->(r.set b true).getD B false=if B<b+1 then as5 g k (l.take (q+1)) A B else as5 g k (l.take q) A B:=λhf B hB=>by
   rw[bd3 B om];by_cases S:b=B
   .subst S;rw[fi rfl,fi om,m,hf,eQ1]
   .rw[fh S,aD B hB];by_cases h2:B<b
    .rw[fi h2,fi om]
    .rw[fh h2,fh om]
  have aV:IntKind.i64.wrap ((b:Int)+1)=((b+1:Nat):Int):=I9 b;obtain⟨w9,s1,cy,bD,_⟩:=G4 (P:=prog) (t:=4) a1 rfl (k:=b) om (x:=true) (y:=true) rfl rfl ct bz;have bf:=V.write aU bD cy;rw[set_set]at bf;have aZ:t8 (Q6 vo us) w7 w9:=ao.chain bD λz _ h=>.inr ⟨uA,eF7 aU,h⟩;have aY:=bV5 (P:=prog) (t:=95) V.outer aU aQ5;have aX:=V.outer.inS (k:=A) om;have T:=a1.inS (k:=b) om;have aO:decide ((A:Int)=(b:Int))=decide (A=b):=by rw[eI5];omega
  generalize mAt g C b=vC at j F v m;generalize mAt g A b=vA at o F v m;generalize dn:decide (A=b)=dd at aO F v m;rcases eD2 vC with S|S<;>subst S;rotate_left
  .simp only[i4,n9,A6,simprocAttr,j3,j7,h9,af,K,ah,ae,j,aV];refine nx4 (b+1,r) ⟨V,ao,ap,F rfl⟩
  rcases eD2 dd with h2|h2<;>subst h2
  .simp only[i4,n9,A6,simprocAttr,j3,j4,j7,j8,h9,af,K,ah,ae,j,aO,aV,aX,aY,T,s1];refine nx4 (b+1,r.set b true) ⟨bf,aZ,by rw[eK6];exact ap,v rfl⟩
  rcases eD2 vA with h3|h3<;>subst h3
  .simp only[i4,n9,A6,simprocAttr,j3,j7,j8,h9,af,K,ah,ae,j,aO,aV,aA,ag,J,o];refine nx4 (b+1,r) ⟨V,ao,ap,F rfl⟩
  .simp only[i4,n9,A6,simprocAttr,j3,j4,j7,j8,h9,af,K,ah,ae,j,aO,aV,aA,ag,J,o,aX,aY,T,s1];refine nx4 (b+1,r.set b true) ⟨bf,aZ,by rw[eK6];exact ap,v rfl⟩
 rintro rfl;rw[eE4]at ay;have bo:=aC.ro (b7 aJ);have aH:=aq.trans aJ;have bq:=ha.mono (b7 aH);clear aC aR aF aT ab N bM bH;generalize hG:(λa:Nat=>((range k).filter λb=>as5 g k l a b).map λ(b:Nat)=>(wy.place (a:Int),wy.place (b:Int)))=G at hF;have bm:∀A,G A=((range k).filter λb=>as5 g k l A b).map λ(b:Nat)=>(wy.place (A:Int),wy.place (b:Int)):=λA=>by rw[<-hG]
 have cg:∀A,(G A).length<=k:=λA=>by
  rw[bm,eE3];exact eD7 (eG0 _ _) dG
 have bJ:∀A,A<=k->((range A).flatMap G).length<=202*202:=λA hA=>eD7 (U3 G k _ λx _=>cg x) (by rw[eI3];exact Nat.mul_le_mul om om);simp only[eF,simprocAttr,g4,bn,bG];refine B4 [0,4,85] (σ:=Nat×Value) (λs f Z=>f 86=s.1/\f 10=s.2/\s.1<=k/\B7 (n8 w6) Z 208 s.2 ((range s.1).flatMap G)/\o6 w6 Z) (λs=>k-s.1) (0,()) ?_ ?_
 .exact⟨rfl,rfl,eE2 _,by simpa using B7.nil _ _ _,t8.refl _⟩
 rintro⟨A,u⟩ f9 w9 ⟨m0,m4,bY,_⟩ ⟨aN,a2,bl,ho,bh⟩;simp only at aN a2 bl ho;rw[g0]at m0;rw[g4]at m4;simp only[eF,simprocAttr,aN,bY];refine A7 (λhA=>?_) ?_;rotate_left
 .rintro rfl;simp only[i4,simprocAttr,a2];exact o8 results146 ⟨by rw[hF];exact ho.backN aH,aH.trans bh⟩
 obtain⟨a8,az⟩:=W.get hA;obtain⟨uA,ac,aP⟩:=R.row bo a8;have ag:=M0 (P:=prog) (t:=95) aP (b7 bh) aQ5;have J:=bo.inS (k:=A) (by rw[W.len];exact hA);have ci:=ac.isS;have bF:=ac.vlen;rw[az]at bF;have cA:=bJ A bl;have ak:(range (A+1)).flatMap G=(range A).flatMap G++G A:=by rw[eO6,eN5];simp
 generalize(range A).flatMap G=pre at ho cA ak;simp only[i4,n9,A6,simprocAttr,aN,m4,J,ag,ci,bF];refine B4 [0,4,11,85,86,93] (σ:=Nat×Value) (λs f Z=>f 94=s.1/\f 10=s.2/\s.1<=k/\B7 (n8 w6) Z 208 s.2 (pre++((range s.1).filter λb=>as5 g k l A b).map λ(b:Nat)=>(wy.place (A:Int),wy.place (b:Int)))/\o6 w6 Z) (λs=>k-s.1) (0,u) ?_ ?_
 .exact⟨rfl,a2,eE2 _,by simpa using ho,bh⟩
 rintro⟨b,u2⟩ dj cU ⟨n0,n4,bZ,cR,b0,cS,_⟩ ⟨ax,ad,a6,L,H⟩;simp only at ax ad a6 L;rw[m0]at n0;rw[m4]at n4;rw[bY]at cR;rw[aN]at b0;have c2:(((range b).filter λb=>as5 g k l A b).map λ(b:Nat)=>(wy.place (A:Int),wy.place (b:Int))).length<=b:=by
  rw[eE3];exact eD7 (eG0 _ _) dG
 simp only[eF,simprocAttr,ax,cS];refine A7 (λhb=>?_) ?_;rotate_left
 .rintro rfl;simp only[eF,simprocAttr,b0];refine nx2 (A+1,u2) ⟨ad,om,?_,H⟩;simp only[];rw[ak,bm];exact L
 have T:=ac.inS (k:=b) om;have U:=ldB ac (b7 H) (k:=b) om;have a9:∀r:List Bool,∀h:b<r.length,r[b]=r.getD b false:=λr h=>by simp[getD,h]
 rw[a9]at U;have bd:(X.getD A []).getD b false=as5 g k l A b:=ay A b hA hb;rw[bd]at U;have aE:(((range (b+1)).filter λb=>as5 g k l A b).map λ(b:Nat)=>(wy.place (A:Int),wy.place (b:Int)))=(((range b).filter λb=>as5 g k l A b).map λ(b:Nat)=>(wy.place (A:Int),wy.place (b:Int)))++if as5 g k l A b then[(wy.place (A:Int),wy.place (b:Int))]else[]:=by
  rw[eO6,eJ8,eG8]
  congr 1
  cases h:as5 g k l A b<;>simp[h]
 have aB:=M0 (P:=prog) (t:=95) aP (b7 H) aQ5;generalize as5 g k l A b=D at U aE;rcases eD2 D with S|S<;>subst S;rotate_left
 .simp only[i4,n9,A6,simprocAttr,ax,n4,bZ,J,aB,T,U];refine nx2 (b+1,u2) ⟨ad,om,?_,H⟩;simp only[];rw[aE,fh dG,eG5];exact L
 .simp only[i4,n9,A6,simprocAttr,ax,ad,n0,n4,bZ,J,aB,T,U];refine B3 (aq0 a wy p i x y (A:Int) cU (bq.mono (b7 H)) E.toWyOk om) (λcV al=>?_);simp only[i4,simprocAttr,n0];refine B3 (aq0 a wy p i x y (b:Int) cV (bq.mono (b7 (H.trans al))) E.toWyOk om) (λdI aI=>?_);have aK:=H.trans (al.trans aI);obtain⟨p1,u',dJ,p2,p3,p4,p5⟩:=push (e:=206) ep6 rfl (L.ext (al.trans aI)) (x:=.agg #[(wy.place (A:Int)),(wy.place (b:Int))]) (y:=(wy.place (A:Int),wy.place (b:Int))) (dW2 _ _) (by rw[eD4];omega) (by rw[eD4];omega) (b7 aK);simp only[eF,simprocAttr,ax,cn4,p1,p2];refine nx4 (b+1,u') ⟨?_,(L.ext (al.trans aI)).ext2 aK p4⟩;simp only[];rw[aE,fi rfl,<-eG4];exact p3
def cz5{α:Type}(P:α->Bool):∀(l:List α) (i:Nat) {f:α},l.find? P=some f->∃k,l[k]?=some f/\ai3 P i l=((i+k:Nat):Int)
 | [],i,f,h=>by simp at h
 | x::l,i,f,h=>by
  rw[find?_cons]at h;rw[ai3];split at h
  .next a=>exact⟨0,by simpa using h,by rw[fi a];rfl⟩
  .next a=>
   obtain⟨k,b,c⟩:=cz5 P l (i+1) h;exact⟨k+1,by simpa using b,by rw[fh (by simp[a]),c];congr 1;omega⟩
structure aM4 (p:Pg) (s:St) (k:Nat):Prop where
 lt:k<p.procs.length
 idx:ac3 p.procs s.proc=(k:Int)
 fn:eb6 p s.proc=p.procs[k]
 len:p.procs[k].params.length=s.args.length
 ref:∀j (h1:j<s.args.length) (h2:j<p.procs[k].params.length),p.procs[k].params[j].ref=s.args[j].ref
def de0{α β:Type}(g:α×β->Bool):∀(l:List α) (m:List β),(l.zip m).all g=true->∀j (a:j<l.length) (b:j<m.length),g (l[j],m[j])=true
 | x::l,y::m,h,0,_,_=>by
  simp only[zip_cons_cons,all_cons,eF1]at h;exact h.1
 | x::l,y::m,h,j+1,a,b=>by
  simp only[zip_cons_cons,all_cons,eF1]at h;exact de0 g l m h.2 j (by simpa using a) (by simpa using b)
def aa7{p}{s:St}(h:at9 p s=true):∃k,aM4 p s k:=by
 unfold at9 at h;rw[eF1]at h;cases hf:p.procs.find? λf=>decide (f.name=s.proc)with
 | none=>rw[hf]at h;simp at h
 | some f=>
  rw[hf]at h;obtain⟨k,c,d⟩:=cz5 _ p.procs 0 hf;obtain⟨e,rfl⟩:=eD8.1 c;have b:=h.2;unfold bW0 at b;simp only[eF1,eH1]at b;have a:ac3 p.procs s.proc=(k:Int):=by unfold ac3;rw[d];simp
  refine⟨k,e,a,?_,b.1,λj c d=>?_⟩
  .unfold eb6;rw[a,eF4,getD,eD1 e];rfl
  .have:=de0 _ _ _ b.2 j d c;simpa using this
def aM4.pr{p}{s:St}{k}(h:aM4 p s k):(i5 p).pr s.proc=(k:Int):=by
 unfold Sh.pr;rw[K0];exact h.idx
def bw2{α:Type}{l:List (List α)}{k}(a:k<l.length):J8 l (k:Int)=l[k]:=by
 unfold J8;rw[eF4,getD,eD1 a];rfl
def dn9{α:Type}{l:List (List α)}{k}(a:k<l.length):l[k]?=some (J8 l (k:Int)):=by
 rw[bw2 a,eD1 a]
def cg3{P c}{Q:Exit->Fr->World->Prop}{f w}(a:List Nat)(J:Fr->World->Prop)
  (k:CW P c (aj9 J Q) f w) (l:∀b d,(∀i∈a,b i=f i)->J b d->Q .normal b d) (j:a.all (λi=>!(wrC c).contains i)=true:=by decide +kernel):CW P c Q f w:=by
 refine dq9 c (aj9 J Q) _ f w (λe b d m h=>?_) k;have g:∀i∈a,b i=f i:=λi n=>m i λhm=>by
  have:=eJ1.1 j i n;simp[hm]at this
 cases e
 case normal=>exact l b d g h
 all_goals exact h
structure de2 (p:Pg) (b:Bk):Prop where
 s:b.s=i5 p
 outs:T7 p.procs.length 25 b.outs
 ins:T7 p.procs.length 25 b.ins
def T7.row{n B}{X:Rws}(h:T7 n B X){k}(d:k<n):X[k]?=some (J8 X (k:Int))/\(J8 X (k:Int)).Pairwise (λa b=>ltS a b=true)/\(J8 X (k:Int)).length<=B:=by
 have c:k<X.length:=by rw[h.len];exact d
 have e:=bw2 c;exact⟨dn9 c,by rw[e];exact h.rise _ (eE1 c),by rw[e];exact h.few _ (eE1 c)⟩
def ax7{h w v}{l:List B9}(k:B7 h w 9 v l)(g:l.length<=1000000000):
  p7 prog 133 #[v] w λu i=>(B7 h i 9 u (G0 l)/\t8 (B0 v) w i/\F4 w v u):=by
 apply y5 [v] func133 rfl;simp only[eF,simprocAttr];apply z6 (as0 k g);rintro _ m ⟨e,a⟩;simp only[i4,simprocAttr];apply z6 (bf1 e (by rw[Y4];exact g));rintro u n ⟨f,c,d⟩;simp only[i4,simprocAttr];refine o8 results133 ⟨f,a.chain c λ_ _ h=>h,λb j=>?_⟩;rcases d b j with h|h
 .exact .inl h
 .exact .inr (eD7 a.size h)
def At.book{p h}{a:Addr}{b:Bk}(t:At h a b)(u:b.s=i5 p):∃(c:Addr) (g i j k l:Value),At h c (i5 p)/\R h g b.wp/\R h i b.defs/\R h j b.uses/\R h k b.ins/\R h l b.outs /\
  (∀w,E6 h (n8 w)->(Instr.loadAt 132 a).run prog w = .ok c w/\(Instr.loadAt 133 (a.add 1)).run prog w = .ok g w/\(Instr.loadAt 134 (a.add 2)).run prog w = .ok i w/\(Instr.loadAt 134 (a.add 3)).run prog w = .ok j w/\(Instr.loadAt 134 (a.add 4)).run prog w = .ok k w/\(Instr.loadAt 134 (a.add 5)).run prog w = .ok l w) /\
  (∀(S:World->Prop) (y:World),S y->(∀w,S w->E6 h (n8 w))->(∀K f d w,X8 prog S (Instr.loadAt 132 a) K f d w=K (G9 f d c) w)/\(∀K f d w,X8 prog S (Instr.loadAt 133 (a.add 1)) K f d w=K (G9 f d g) w)/\(∀K f d w,X8 prog S (Instr.loadAt 134 (a.add 2)) K f d w=K (G9 f d i) w)/\(∀K f d w,X8 prog S (Instr.loadAt 134 (a.add 3)) K f d w=K (G9 f d j) w)/\(∀K f d w,X8 prog S (Instr.loadAt 134 (a.add 4)) K f d w=K (G9 f d k) w)/\(∀K f d w,X8 prog S (Instr.loadAt 134 (a.add 5)) K f d w=K (G9 f d l) w)):=by
 obtain⟨z,g,i,j,k,l,m,n,o,q,r,s,v,x⟩:=t.bk;obtain⟨c,rfl,has⟩:=Ptr.at_ m;have e:At h c (i5 p):=by rw[<-u];exact has
 exact⟨c,g,i,j,k,l,e,n,o,q,r,s,v,x⟩
def bW2{P h v u t k}(c:P4 h (I2 v k)=some u)(e:L7 P t=false)(S:World->Prop)(w0)(b:S w0)(hS:∀w,S w->E6 h (n8 w)):
  ∀K f d w,X8 P S (Instr.loadAt t (I2 v k)) K f d w=K (G9 f d u) w:=λK f d w=>L5 b λg a=>M0 c (hS g a) e
def bl1(a)(b:Bk)(p)(n:B9)(w)(i:At (n8 w) a b)(j:b.s=i5 p)(d:O1 p=true):
  p7 prog 198 #[a,n] w λu m=>(u=(W1 p n)/\m=w):=by
 apply y5 [a,n] func198 rfl;obtain⟨o,_,_,_,_,_,has,_,_,_,_,_,f,_⟩:=i.book j;obtain⟨_,_,_,_,_,_,c,_,_⟩:=has.sh;rw[K0]at c;obtain⟨l,q,e,k,g,_⟩:=c.pg;have h:W1 p n=(decide (n=ofA #[36,105,110])||p.globals.contains n):=rfl;rcases eD2 (decide (n=ofA #[36,105,110]))with h1|h1
 .simp only[eF,simprocAttr,h1];exact o8 results198 ⟨by rw[h,h1];rfl,rfl⟩
 .simp only[eF,simprocAttr,h1,f w (n7 _),g w (n7 _)];apply F6 (X0 l p.globals n w e (by have:=(R0 d).1;omega));simp only[i4,simprocAttr];exact o8 results198 ⟨by rw[h,h1];rfl,rfl⟩
def ao7(a)(b:Bk)(p v)(s:St)(w)(o:At (n8 w) a b)(q:b.s=i5 p)(i:O1 p=true)(hv:SV (n8 w) v s):
  p7 prog 177 #[a,v] w λu n=>(u=((i5 p).pr s.proc)/\o6 w n):=by
 apply y5 [a,v] func177 rfl;obtain⟨x,_,_,_,_,_,has,_,_,_,_,_,_,l⟩:=o.book q;obtain⟨c,e,g,j,f⟩:=ay8 hv (n7 _);obtain⟨_,_,_,_,_,_,_,_,_,_,m⟩:=f.st;have d:=j.trans (o6.drew e);have r:=m (o6 e.drew) e.drew (t8.refl _) λn h=>b7 ((o6.drew e).trans h);have t:=l (o6 e.drew) e.drew (t8.refl _) λn h=>b7 (d.trans h);simp only[eF,simprocAttr,g];refine C4 (o6 e.drew) 6 (A8 [0,1,2,3,4,5]) ?_;simp only[D7,A8,i4,n9,simprocAttr,r,t];refine B3 (ac5 x (i5 p) s.proc e.drew (has.mono (b7 d)) (by rw[K0];have:=(R0 i).2;omega)) (λy k=>?_);simp only[i4,simprocAttr];exact o8 results177 ⟨rfl,d.trans k⟩
def dq3:=zJ (zJ (zJ (zJ (zJ (zJ @et1 @ei8) (zJ @eg5 (zJ @ei7 @es9))) (zJ (zJ @ei5 @ei6) (zJ @et0 (zJ @eq5 @eq4)))) (zJ (zJ (zJ @eq6 @eq7) (zJ @eh1 (zJ @eh0 @eh2))) (zJ (zJ @eh3 @ek9) (zJ @ek8 (zJ @et4 @ew9))))) (zJ (zJ (zJ (zJ @eA9 @ei2) (zJ @ev8 (zJ @ei3 @ev9))) (zJ (zJ @ez4 @eB4) (zJ @dR9 (zJ @eo2 @dS0)))) (zJ (zJ (zJ @eo3 @eo4) (zJ @ed7 (zJ @dX1 @dX0))) (zJ (zJ @eo1 @ez6) (zJ @ez5 (zJ @ed6 @ez8)))))) (zJ (zJ (zJ (zJ (zJ @ez7 @ev6) (zJ @dL9 (zJ @en1 @ey9))) (zJ (zJ @dR6 @ei1) (zJ @ed0 (zJ @ey4 @ez0)))) (zJ (zJ (zJ @ei0 @ev5) (zJ @en4 (zJ @ev4 @ev.eq_1))) (zJ (zJ @ev.eq_2 @ev.eq_3) (zJ @ev.eq_4 (zJ @G9.eq_1 @G9.eq_2))))) (zJ (zJ (zJ (zJ @eA8 @ez1) (zJ @ez9 (zJ @eA0 @List.map_cons.{0,0}))) (zJ (zJ @List.map_nil.{0,0} @List.map_toArray.{0,0}) (zJ @cw5.eq_1 (zJ @cw5.eq_2 @eb7)))) (zJ (zJ (zJ @eu6 @eu7) (zJ @dy3.eq_1 (zJ @List.getElem?_toArray.{0} @List.getElem?_cons_zero.{0}))) (zJ (zJ @List.getElem?_cons_succ.{0} @Option.bind_some.{0,0}) (zJ @Option.some.injEq.{0} (zJ @eK7 @Bool.true_eq_false))))))
def at7{α β:Type}(P:α->Bool)(g:α->β)(l:List α){k}(a:k<l.length):((l.take (k+1)).filter P).map g=((l.take k).filter P).map g++if P l[k]then[g l[k]]else[]:=by
 rw[eD9 a,eJ8,eG8]
 congr 1
 cases h:P l[k]<;>simp[h]
def aA3{α:Type}(P:α->Bool)(l:List α){k}(a:k<l.length):(l.take (k+1)).filter P=(l.take k).filter P++if P l[k]then[l[k]]else[]:=by
 rw[eD9 a,eJ8]
 congr 1
 cases h:P l[k]<;>simp[h]
def pushS{h w v}{l:List B9}(c:B7 h w 9 v l)(x:B9)(d:l.length<=100000000)(hw:E6 h (n8 w)){e}:
  (Instr.buildSlice 22 1 #[(0,x)]).run prog w = .ok (.slice (some ⟨w.heap.size,0,none⟩) 1 1) (w.alloc (.cells #[x] 9)) /\
  ∃a b,(Builtin.append_ #[22,22] e #[v,.slice (some ⟨w.heap.size,0,none⟩) 1 1]).run prog (w.alloc (.cells #[x] 9)) = .ok a b/\B7 h b 9 a (l++[x])/\t8 (B0 v) w b/\F4 w v a:=by
 have:=push (P:=prog) (e:=e) aF0 rfl c (x:=x) (y:=x) rfl om om hw;exact this
def cL7(a)(b:Bk)(p v)(s:St)(w)(ha:At (n8 w) a b)(V:de2 p b)(an:O1 p=true)(hv:SV (n8 w) v s)(bE:Z6 s<=1000000)(az:at9 p s=true):
  p7 prog 197 #[a,v] w λu z=>(B7 (n8 w) z 9 u (aE2 p b.outs s)/\o6 w z):=by
 apply y5 [a,v] func197 rfl;obtain⟨k,r⟩:=aa7 az;have bo:=r.lt;obtain⟨sh,_,_,_,_,vo,has,_,_,_,_,aG,ba,bc⟩:=ha.book V.s;obtain⟨_,_,_,_,_,_,aF,_,_⟩:=has.sh;rw[K0]at aF;obtain⟨vg,vp,bD,aH,bH,be⟩:=aF.pg;obtain⟨O,N,ay⟩:=V.outs.row r.lt;have bC:=R9 an r.lt;have hF:aE2 p b.outs s=(if s.name=e0 then[]else[s.name])++(((s.args.zip p.procs[k].params).filter λx=>x.1.ref&&(J8 b.outs (k:Int)).contains x.2.name).map λx=>x.1.name)++(J8 b.outs (k:Int)).filter (W1 p):=by
  unfold aE2;rw[r.fn,r.idx]
 have a3:=r.pr;generalize J8 b.outs (k:Int)=g at O N ay hF;obtain⟨uo,Q,ax⟩:=R.row aG O;have ab:=aG.inS (k:=k) (eD8.1 O).1;have aa:=aH.at_ (i:=k) (x:=p.procs[k]) (eD1 r.lt);have aC:=aH.inS (k:=k) r.lt;have a7:A9.sz Pr=5:=rfl;rw[a7]at aa;obtain⟨bP,_,_,_,af,_,_,_,bI,bf⟩:=aa.pr;obtain⟨c,H,a0,G,au⟩:=ay8 hv (n7 _);obtain⟨_,va,_,_,_,X,_,_,_,aM,_⟩:=au.st;obtain⟨sv,W,aN,_⟩:=au.st_v;have l1:=aM H (n7 _);have bp:=r.len;generalize ak:(if s.name=e0 then[]else[s.name])=L1 at hF;have bl:L1.length<=1:=by rw[<-ak];split<;>simp
 simp only[dq3,n9,simprocAttr,a0,l1];refine cg3 [0,3] (λf' z=>B7 (n8 H) z 9 (f' 5) L1/\o6 H z) ?_ ?_
 .rcases eD2 (decide (s.name=ofA #[]))with I|I
  .simp only[eF,simprocAttr,I];refine⟨?_,t8.refl _⟩;rw[<-ak,fi (eD3 I)];exact B7.nil _ _ _
  .obtain⟨p1,u2,w2,p2,p3,p4,p5⟩:=pushS (e:=22) (B7.nil (n8 H) H 9) s.name dG (n7 _);simp only[eF,simprocAttr,I,l1,p1,p2];refine⟨?_,(B7.nil (α:=B9) (n8 H) H 9).ext2 (t8.refl _) p4⟩;rw[<-ak,fh (eD6 I)];exact p3
 rintro f w2 hk ⟨ho,T⟩;simp only[eF8,C9,simprocAttr]at hk;obtain⟨aq,e3,_⟩:=hk;have l2:=aN w2 (b7 T);have aI:=G.trans T;generalize h5:f 5=u2 at ho;simp only[i4,simprocAttr,aq,e3,l2];refine B3 (ao7 a b p sv s w2 (ha.mono (b7 aI)) V.s an (W.mono (b7 T))) (λw3 ap=>?_);rw[a3];have bF:(s.args.zip p.procs[k].params).length=s.args.length:=by rw[length_zip];omega
 have aJ:=T.trans ap;simp only[eF,simprocAttr,e3,aM w3 (b7 (T.trans ap)),X.isS,X.vlen];refine B4 [0,3,6,23,24] (σ:=Nat×Value) (λm f z=>f 25=m.1/\f 5=m.2/\m.1<=s.args.length/\B7 (n8 H) z 9 m.2 (L1++(((s.args.zip p.procs[k].params).take m.1).filter λx=>x.1.ref&&g.contains x.2.name).map λx=>x.1.name)/\o6 H z) (λm=>s.args.length-m.1) (0,u2) ?_ ?_
 .exact⟨rfl,h5,eE2 _,by simpa using ho.ext ap,aJ⟩
 rintro⟨j,u⟩ f2 w4 ⟨g0,g3,g6,ar,aX,_⟩ ⟨A,J,a2,M,C⟩;simp only at A J a2 M;rw[aq]at g0;have S:=G.trans C;have aw:((((s.args.zip p.procs[k].params).take j).filter λx=>x.1.ref&&g.contains x.2.name).map λx=>x.1.name).length<=j:=by
  rw[eE3];apply eD7 (eG0 _ _);rw[eE5];omega
 simp only[eF,simprocAttr,A,aX];refine A7 (λE=>?_) ?_
 .have ad:j<p.procs[k].params.length:=om
  have aE:j<(s.args.zip p.procs[k].params).length:=om
  have aB:=X.inS E;obtain⟨sv,W,am⟩:=G1 (P:=prog) (t:=125) X (b7 C) (eD1 E) aM8 aM9 aK0 aa3;rw[aa3]at am;have l:=at7 (λx:Ar×Pa=>x.1.ref&&g.contains x.2.name) (λx=>x.1.name) _ aE;rw[getElem_zip]at l;simp only at l;have B:=af.at_ (i:=j) (x:=p.procs[k].params[j]) (eD1 ad);have al:=af.inS (k:=j) ad;have a6:A9.sz Pa=2:=rfl;rw[a6]at B;obtain⟨aL,aj⟩:=B.pa;generalize p.procs[k].params[j]=pa at B aL aj l;generalize s.args[j]=ag at W l;obtain⟨d,wz,o,Z,ae,aK,av⟩:=bi1 (W.mono (b7 C)) (n7 _);obtain⟨_,bb,bd⟩:=av.ar;have ah:=S.trans (aK.trans (o6.drew o));have t1:=bd (o6 o.drew) o.drew (t8.refl _) λz h=>b7 ((o6.drew o).trans h);have hh:∀z,o6 o.drew z->E6 (n8 w) (n8 z):=λz h=>b7 (ah.trans h);have t2:=bc (o6 o.drew) o.drew (t8.refl _) hh;have t3:=be (o6 o.drew) o.drew (t8.refl _) hh;have t4:=bf (o6 o.drew) o.drew (t8.refl _) hh;have t5:=aj (o6 o.drew) o.drew (t8.refl _) hh;have t6:=bW2 (P:=prog) (t:=22) ax ab6 (o6 o.drew) o.drew (t8.refl _) hh;have D:=aK.trans (o6.drew o);have ao:=M.ext D;have L:(ag.ref&&g.contains pa.name)=false->∀Y,o6 o.drew Y->∃m:Nat×Value,s.args.length-m.1<s.args.length-j/\(Value.int .i64 (IntKind.i64.wrap ((j:Int)+1)) = .int .i64 m.1/\u=m.2/\m.1<=s.args.length/\B7 (n8 H) Y 9 m.2 (L1++(((s.args.zip p.procs[k].params).take m.1).filter λx=>x.1.ref&&g.contains x.2.name).map λx=>x.1.name)/\o6 H Y):=λhf Y y=>by
   refine nx4 (j+1,u) ⟨?_,C.trans (D.trans y)⟩;simp only[];rw[l,hf,fh dG,eG5];exact ao.ext y
  rcases eD2 ag.ref with I|I;rotate_left
  .rw[I]at t1;simp only[i4,n9,A6,simprocAttr,A,ar,aB,am,Z,ae];refine C4 (o6 o.drew) 26 (A8 [0,1,2,3,4,5,6,7,8,9,10,11,12,13,14,15,16,17,18,19,20,21,22,23,24,25]) ?_;simp only[D7,A8,i4,n9,simprocAttr,t1,A,J];exact L (by rw[I];rfl) _ (t8.refl _)
  .rw[I]at t1;simp only[i4,n9,A6,simprocAttr,A,ar,aB,am,Z,ae];refine C4 (o6 o.drew) 26 (A8 [0,1,2,3,4,5,6,7,8,9,10,11,12,13,14,15,16,17,18,19,20,21,22,23,24,25]) ?_;simp only[D7,A8,i4,n9,A6,simprocAttr,t1,t2,t3,t4,t5,t6,ab,aC,al,g0,g6];apply F6 (aq8 uo g pa.name o.drew (A9.mono (b7 ah) Q) om N);have a1:(ag.ref&&g.contains pa.name)=g.contains pa.name:=by rw[I];rfl
   rw[a1]at l L;rcases eD2 (g.contains pa.name)with h2|h2;rotate_left
   .simp only[eF,simprocAttr,h2,A,J];exact L h2 _ (t8.refl _)
   .obtain⟨p1,u6,Y,p2,p3,p4,p5⟩:=pushS (e:=22) ao ag.name (by rw[eD4];omega) (b7 (C.trans D));simp only[eF,simprocAttr,h2,A,J,bb o.drew (b7 (o6.drew o)),p1,p2];refine nx4 (j+1,u6) ⟨?_,ao.ext2 (C.trans D) p4⟩;simp only[];rw[l,h2,fi rfl,<-eG4];exact p3
 rintro rfl;rw[show(s.args.zip p.procs[k].params).take s.args.length=s.args.zip p.procs[k].params from eI0 om]at M;rw[show(s.args.zip p.procs[k].params).take s.args.length=s.args.zip p.procs[k].params from eI0 om]at aw;generalize aY:L1++((s.args.zip p.procs[k].params).filter λx=>x.1.ref&&g.contains x.2.name).map (λx=>x.1.name)=L2 at M hF;have bm:L2.length<=9:=by rw[<-aY,eD4];omega
 have a4:=M0 (P:=prog) (t:=22) ax (b7 S) ab6;simp only[i4,n9,A6,simprocAttr,g0,g6,ba w4 (b7 S),ab,a4,Q.isS,Q.vlen];refine B4 [0,70,71] (σ:=Nat×Value) (λm f z=>f 72=m.1/\f 5=m.2/\m.1<=g.length/\B7 (n8 H) z 9 m.2 (L2++(g.take m.1).filter (W1 p))/\o6 H z) (λm=>g.length-m.1) (0,u) ?_ ?_
 .exact⟨rfl,J,eE2 _,by simpa using M,C⟩
 rintro⟨q,u6⟩ f6 Y ⟨j0,a8,a9,_⟩ ⟨K,U,a5,F,y⟩;simp only at K U a5 F;rw[g0]at j0;simp only[eF,simprocAttr,K,a9];refine A7 (λE=>?_) ?_;rotate_left
 .rintro rfl;rw[eE4]at F;simp only[i4,simprocAttr,U];exact o8 results197 ⟨by rw[hF];exact F.back G,G.trans y⟩
 have aD:=Q.inS E;have ac:(Instr.loadAt 9 (I2 uo q)).run prog Y = .ok (g[q]) Y:=O4 (P:=prog) (α:=B9) (xs:=g) Q (b7 (G.trans y)) (eD1 E) as9;have l:=aA3 (W1 p) g E;have bA:((g.take q).filter (W1 p)).length<=25:=eD7 (eG0 _ _) (by rw[eE5];omega);generalize g[q]=n at ac l;simp only[i4,n9,A6,simprocAttr,K,j0,a8,aD,ac];apply F6 (bl1 a b p n Y (ha.mono (b7 (G.trans y))) V.s an);rcases eD2 (W1 p n)with h2|h2;rotate_left
 .simp only[eF,simprocAttr,h2,K];refine nx2 (q+1,u6) ⟨U,om,?_,y⟩;simp only[];rw[l,h2,fh dG,eG5];exact F
 .obtain⟨p1,u7,w7,p2,p3,p4,p5⟩:=pushS (e:=22) F n (by rw[eD4];omega) (b7 y);simp only[eF,simprocAttr,h2,K,U,p1,p2];refine nx4 (q+1,u7) ⟨?_,F.ext2 y p4⟩;simp only[];rw[l,h2,fi rfl,<-eG4];exact p3
def cD2(x:B9)(w){h}(hw:E6 h (n8 w)):∃v a,(Instr.buildSlice 22 1 #[(0,x)]).run prog w = .ok v a/\B7 h a 9 v [x]/\o6 w a/\(∀b,B0 v b->w.heap.size<=b):=
 lit (P:=prog) (w:=w) (h:=h) (α:=B9) (xs:=[x]) (ys:=[x]) (parts:=#[(0,x)]) (n:=1) aF0 rfl (aH7.2 rfl) (by simp[A4,Value.cells]) rfl rfl dG dG hw
def em1(x y:B9)(w){h}(hw:E6 h (n8 w)):∃v a,(Instr.buildSlice 22 2 #[(0,x),(1,y)]).run prog w = .ok v a/\B7 h a 9 v [x,y]/\o6 w a/\(∀b,B0 v b->w.heap.size<=b):=
 lit (P:=prog) (w:=w) (h:=h) (α:=B9) (xs:=[x,y]) (ys:=[x,y]) (parts:=#[(0,x),(1,y)]) (n:=2) aF0 rfl (aH7.2 rfl) (by simp[A4,Value.cells]) rfl rfl dG dG hw
def dw4(a)(b:Bk)(p v)(s:St)(w)(D:At (n8 w) a b)(x:de2 p b)(r:O1 p=true)(hv:SV (n8 w) v s)(z:Z6 s<=1000000)(j:s.kind=4->at9 p s=true):
  p7 prog 134 #[a,v] w λu C=>(B7 (n8 w) C 9 u (aq5 p b.outs s)/\o6 w C):=by
 apply y5 [a,v] func134 rfl;obtain⟨c,g,f,d,i⟩:=ay8 hv (n7 _);obtain⟨_,H,_,_,_,E,_,_,_,B,_⟩:=i.st;obtain⟨G,y,l,_⟩:=i.st_v;have k:=B g (n7 _);have F:=l g (n7 _);have e:aq5 p b.outs s=if s.kind=1 then[s.name]else if s.kind=2 then[s.name,am1]else if s.kind=9 then[U0]else if s.kind=4 then aE2 p b.outs s else[]:=rfl;rcases eD2 (decide (s.kind=1))with k1|k1
 .rw[fi (eD3 k1)]at e;obtain⟨u,q,m,n,o,_⟩:=cD2 s.name g (b7 d);simp only[eF,simprocAttr,f,k,k1,m];exact o8 results134 ⟨by rw[e];exact n,d.trans o⟩
 rw[fh (eD6 k1)]at e;rcases eD2 (decide (s.kind=2))with k2|k2
 .rw[fi (eD3 k2)]at e;obtain⟨u,q,m,n,o,_⟩:=em1 s.name am1 g (b7 d);have h:(Instr.buildSlice 22 2 #[(0,s.name),(1,.string ⟨#[36,105,110]⟩)]).run prog g = .ok u q:=m;simp only[eF,simprocAttr,f,k,k1,k2,h];exact o8 results134 ⟨by rw[e];exact n,d.trans o⟩
 rw[fh (eD6 k2)]at e;rcases eD2 (decide (s.kind=9))with k9|k9
 .rw[fi (eD3 k9)]at e;obtain⟨u,q,m,n,o,_⟩:=cD2 U0 g (b7 d);have h:(Instr.buildSlice 22 1 #[(0,.string ⟨#[36,114,101,116]⟩)]).run prog g = .ok u q:=m;simp only[eF,simprocAttr,f,k,k1,k2,k9,h];exact o8 results134 ⟨by rw[e];exact n,d.trans o⟩
 rw[fh (eD6 k9)]at e;rcases eD2 (decide (s.kind=4))with k4|k4
 .rw[fi (eD3 k4)]at e;simp only[eF,simprocAttr,f,k,k1,k2,k9,k4,F];apply z6 (cL7 a b p G s g (D.mono (b7 d)) x r y z (j (eD3 k4)));rintro u q ⟨t,A⟩;simp only[i4,simprocAttr];exact o8 results134 ⟨by rw[e];exact t.back d,d.trans A⟩
 rw[fh (eD6 k4)]at e;simp only[eF,simprocAttr,f,k,k1,k2,k9,k4];exact o8 results134 ⟨by rw[e];exact B7.nil _ _ _,d⟩
def dK2(a)(b:Bk)(p v)(s:St)(w)(ha:At (n8 w) a b)(X:de2 p b)(aU:O1 p=true)(hv:SV (n8 w) v s)(aZ:Z6 s<=1000000)(ak:s.kind=4->at9 p s=true):
  p7 prog 137 #[a,v] w λu i=>(B7 (n8 w) i 9 u (aE0 p b.ins s)/\o6 w i):=by
 apply y5 [a,v] func137 rfl;obtain⟨sh,_,_,_,vi,_,has,_,_,_,ar,_,bB,bb⟩:=ha.book X.s;obtain⟨c,D,aM,A,af⟩:=ay8 hv (n7 _);obtain⟨_,va,_,_,_,I,_,_,ah,ay,bE⟩:=af.st;obtain⟨sv,z,bj,az⟩:=af.st_v;obtain⟨ux,aY,a2,_⟩:=ah.ex_v;have a4:=a2 D (n7 _);have av:=aZ;rw[aa0]at av;have bv:=aj7 s.x;have bs:=ay2 s.args;have bt:=U9 s.args;simp only[eF,simprocAttr,aM,a4];apply z6 (aG9 ux s.x D aY om);rintro u2 w2 ⟨T,J⟩;have l2:=ay w2 (b7 J);generalize q:ap6 s.x++(if s.kind=2 then[am1]else[])=P1;have bg:P1.length<=ae9 s.x+1:=by
  rw[<-q,eD4];have:(if s.kind=2 then[am1]else[]).length<=1:=by split<;>simp
  omega
 have hF:aE0 p b.ins s=P1++if s.kind=4 then s.args.flatMap P2++J8 b.ins (ac3 p.procs s.proc)else[]:=by rw[<-q];rfl
 simp only[dq3,n9,simprocAttr,l2];refine cg3 [0,3] (λf' i=>B7 (n8 D) i 9 (f' 5) P1/\o6 D i) ?_ ?_
 .rcases eD2 (decide (s.kind=2))with k2|k2
  .rw[fi (eD3 k2)]at q;obtain⟨p1,u3,w3,p2,p3,p4,p5⟩:=pushS (e:=22) T am1 om (b7 J);have a7:(Instr.buildSlice 22 1 #[(0,.string ⟨#[36,105,110]⟩)]).run prog w2=_:=p1;simp only[i4,simprocAttr,k2,a7,p2];exact⟨by rw[<-q];exact p3,T.ext2 J p4⟩
  .rw[fh (eD6 k2)]at q;simp only[i4,simprocAttr,k2];exact⟨by rw[<-q];simpa using T,J⟩
 rintro f w3 L ⟨U,Z⟩;simp only[eF8,C9,simprocAttr]at L;obtain⟨aF,e3,_⟩:=L;generalize h5:f 5=u3 at U;have l3:=ay w3 (b7 Z);rcases eD2 (decide (s.kind=4))with k4|k4;rotate_left
 .rw[fh (eD6 k4),eG5]at hF;simp only[eF,simprocAttr,e3,l3,k4,h5];exact o8 results137 ⟨by rw[hF];exact U.back A,A.trans Z⟩
 rw[fi (eD3 k4)]at hF;obtain⟨k,S⟩:=aa7 (ak (eD3 k4));have aL:=I.isS;have aV:=I.vlen;simp only[eF,simprocAttr,e3,l3,k4,aL,aV];refine E4 [0,3,22,23] (σ:=Nat×Value) (λs' f i=>f 24=s'.1/\f 5=s'.2/\s'.1<=s.args.length/\B7 (n8 D) i 9 s'.2 (P1++(s.args.take s'.1).flatMap P2)/\o6 D i) (λs'=>s.args.length-s'.1) (0,u3) ?_ ?_
 .exact⟨rfl,h5,eE2 _,by simpa using U,Z⟩
 rintro⟨j,u⟩ f2 r L ⟨E,F,aS,n,aa⟩;simp only at E F aS n;simp only[eF8,C9,simprocAttr]at L;obtain⟨g0,g3,aI,aJ,_⟩:=L;rw[aF]at g0;rw[e3]at g3;have M:((s.args.take j).flatMap P2).length<=ao2 s.args:=eD7 (U9 _) (aK2 _ _);simp only[eF,simprocAttr,E,aJ];refine B2 (λhc=>?_) (λhc=>?_)
 .have G:j<s.args.length:=by simpa using hc
  have aR:=I.inS G;obtain⟨sv,z,an⟩:=G1 (P:=prog) (t:=125) I (b7 aa) (eD1 G) aM8 aM9 aK0 aa3;rw[aa3]at an;have H:=M1 P2 s.args G;have au:=bi4 (eE1 G);have g:((s.args.take (j+1)).flatMap P2).length<=ao2 s.args:=eD7 (U9 _) (aK2 _ _);rw[H]at g;generalize s.args[j]=y at z H au g;have K:P2 y=(if y.ref then[y.name]else[])++ap6 y.x:=rfl;rw[K]at g;simp only[eD4]at g;generalize(s.args.take j).flatMap P2=pre at n M g H;obtain⟨d,wz,w5,ae,ap,m,ag⟩:=dd3 (w:=r) (B0 u) z (λb Q=>n.lt Q);obtain⟨uy,aq,O,a1,_⟩:=L8.ar z ag;obtain⟨a3,_⟩:=L8.ex_v aq O;have V:=n.ext m;have N:=aa.trans m;have l5:=a1 w5 (B6 _ _);have bu:(if y.ref=true then[y.name]else[]).length<=1:=by split<;>simp
  simp only[dq3,n9,A6,simprocAttr,E,aI,aR,an,ae,ap,l5];refine cg3 [0,3,7,22,23,24] (λf' i=>B7 (n8 D) i 9 (f' 5) (P1++pre++if y.ref then[y.name]else[])/\t8 (B0 u) w5 i) ?_ ?_
  .rcases eD2 y.ref with h1|h1
   .obtain⟨p1,u6,w6,p2,p3,p4,p5⟩:=pushS (e:=22) V y.name (by simp only[eD4];omega) (b7 N);rw[h1]at l5;simp only[eF,simprocAttr,h1,l5,F,p1,p2];exact⟨p3,p4⟩
   .simp only[i4,simprocAttr,h1,F];exact⟨by simpa using V,t8.refl _⟩
  rintro f6 w6 L ⟨W,ao⟩;simp only[eF8,C9,simprocAttr]at L;obtain⟨j0,j3,j7,bw,bx,ax,_⟩:=L;rw[E]at ax;generalize aK:f6 5=u6 at W;have B:o6 D w6:=t8.ext_of N ao λb Q=>D4 (V.free Q);have a5:=a3 w6 (F5 ao);simp only[eF,simprocAttr,aK,j7,a5];apply z6 (aG9 uy y.x w6 (aq.mono (b7 B)) (by unfold aD2 at au;omega));rintro u8 w8 ⟨aW,C⟩;obtain⟨u9,w9,c1,c2,c3,c4⟩:=aj8 (P:=prog) (e:=22) aF0 (W.ext C) (aW.rw_ (b7 C)) (n7 _) (by simp only[eD4];omega) (by simp only[eD4];omega) (b7 (B.trans C));have aw:o6 D w9:=t8.ext_of (B.trans C) c3 λb Q=>D4 ((W.ext C).free Q);simp only[eF,simprocAttr,c1,ax];refine⟨(j+1,u9),om,eE9 _ (I9 j om),tt,om,?_,aw⟩;simp only[];rw[H,K];simp only[eG4]at c2 ⊢;exact c2
 have aP:j=s.args.length:=by simp at hc;omega
 subst aP;rw[eE4]at n M;obtain⟨x,Y,aj⟩:=X.ins.row S.lt;rw[S.idx]at hF;have aT:=S.pr;generalize J8 b.ins (k:Int)=bD at x Y aj hF;obtain⟨ui,aX,aO⟩:=R.row ar x;have am:=ar.inS (k:=k) (eD8.1 x).1;have l:=aa.trans (o6.drew r);have o:=A.trans l;have aQ:∀i,o6 r.drew i->E6 (n8 D) (n8 i):=λi h=>b7 (l.trans h);have al:∀i,o6 r.drew i->E6 (n8 w) (n8 i):=λi h=>b7 (o.trans h);have t1:=bb (o6 r.drew) r.drew (t8.refl _) al;have t2:=az (o6 r.drew) r.drew (t8.refl _) aQ;have t3:=bW2 (P:=prog) (t:=22) aO ab6 (o6 r.drew) r.drew (t8.refl _) al;simp only[i4,simprocAttr];refine C4 (o6 r.drew) 10 (A8 [0,1,2,3,4,5,6,7,8,9]) ?_;simp only[D7,A8,i4,n9,simprocAttr,g0,g3,F,t1,t2];refine B3 (ao7 a b p sv s r.drew (ha.mono (b7 o)) X.s aU (z.mono (b7 l))) (λw5 m=>⟨m,?_⟩);rw[aT];obtain⟨u9,w9,c1,c2,c3,c4⟩:=aj8 (P:=prog) (e:=22) aF0 (n.ext ((o6.drew r).trans m)) aX (b7 (o.trans m)) (by simp only[eD4];omega) (by simp only[eD4];omega) (b7 (l.trans m));simp only[D7,i4,n9,A6,simprocAttr,am,t3,c1];apply o8 results137;simp only[C9,simprocAttr];refine⟨?_,A.trans (t8.ext_of (l.trans m) c3 λb Q=>D4 (n.free Q))⟩;rw[hF,<-eG4];exact c2.back A
instance:A0 Pa:=⟨Pa.cells,λ_ _ _=>eL8⟩
def SV.N{α:Type}[A9 α][A0 α]{h v}{x:α}(hv:SV h v x):v = .agg (A0.cells x).toArray:=by
 obtain⟨b,rfl,a⟩:=hv;rw[(A0.iff_ _ _ _).1 a]
def T8{P}{op:BinOp}{t a b}:E2 P op t (.agg a) (.agg b)=none:=by
 cases op<;>rfl
def cv5(v)(l:List Pa)(x:Pa)(w)(hv:R (n8 w) v l)(T:l.length<=1000000000):
  p7 prog 219 #[v,.agg x.cells.toArray] w λu z=>(u = .int .i64 (ai3 (λy=>decide (x=y)) 0 l)/\o6 w z):=by
 apply y5 [v,.agg x.cells.toArray] func219 rfl;have M:=hv.isS;have P:=hv.vlen;obtain⟨c,K,C,o,B⟩:=cn2 (SV.ofN (n8 w) x) (n7 _);obtain⟨V,E,_,sdx⟩:=B.pa_v;obtain rfl:=E.N;have q:(Instr.box 72 (.agg x.cells.toArray)).run prog w = .ok c K:=C;simp only[eF,simprocAttr,q,M,P];refine B4 [0,3,6,7] (σ:=Nat) (λk f z=>f 8=k/\k<=l.length/\(∀j (g:j<l.length),j<k->decide (x=l[j])=false)/\o6 K z) (λk=>l.length-k) 0 ?_ ?_
 .exact⟨rfl,eE2 _,λj _ h=>om,t8.refl _⟩
 rintro k f p ⟨e0,H,S,L,_⟩ ⟨A,O,n,t⟩;simp only[eF,simprocAttr,A,L];refine A7 (λm=>?_) ?_;rotate_left
 .rintro rfl;simp only[i4,simprocAttr];apply o8 results219;simp only[C9,simprocAttr];exact⟨by rw[aw8 _ _ _ (bg9 λj g=>n j g g)],o.trans t⟩
 have r:=hv.inS m;have d:=t.trans (o6.drew p);have I:=sdx (o6 p.drew) p.drew (t8.refl _) λz h=>b7 (d.trans h);have e:=hv.at_ (i:=k) (x:=l[k]) (eD1 m);have F:A9.sz Pa=2:=rfl;rw[F]at e;obtain⟨U,D,_,G⟩:=e.pa_v;obtain rfl:=D.N;have J:=G (o6 p.drew) p.drew (t8.refl _) λz h=>b7 (o.trans (d.trans h));have s:=λQ a b=>eb4 Q a b x l[k];rcases eD2 (decide (x=l[k]))with hq|hq
 .simp only[i4,simprocAttr,A];refine C4 (o6 p.drew) 5 (A8 [0,1,2,3,4]) ?_;simp only[D7,A8,i4,n9,A6,simprocAttr,e0,H,r,I,J];simp only[i4,simprocAttr,T8,A0.cells,s,hq];apply o8 results219;simp only[C9,simprocAttr];exact⟨by rw[ap4 _ l 0 k m (λj g=>n j om g) hq,eH5],o.trans d⟩
 .simp only[i4,simprocAttr,A];refine C4 (o6 p.drew) 5 (A8 [0,1,2,3,4]) ?_;simp only[D7,A8,i4,n9,A6,simprocAttr,e0,H,r,I,J];simp only[eF,simprocAttr,T8,A0.cells,s,hq,A];refine U5 (k+1) ⟨λj g N=>?_,d⟩;rcases eH4 j k with h|h
  .exact n j g h
  .obtain rfl:j=k:=om
   exact hq
def bS6{α:Type}(P:α->Bool):∀(l:List α) (i:Nat),decide (0<=ai3 P i l)=l.any P
 | [],i=>by simp[ai3]
 | x::l,i=>by
  rw[ai3,any_cons];split
  .next h=>simp[h]
  .next h=>rw[bS6 P l (i+1)];simp[h]
theorem cK9{α:Type}[DecidableEq α](x:α):∀l:List α,(l.any λy=>decide (x=y))=l.contains x
 | []=>rfl
 | y::l=>by
  rw[any_cons,cK9 x l,contains_cons];rfl
def cf5(v)(l:List Pa)(x:Pa)(w)(hv:R (n8 w) v l)(j:l.length<=1000000000):
  p7 prog 157 #[v,.agg x.cells.toArray] w λu k=>(u = .bool (l.contains x)/\o6 w k):=by
 apply y5 [v,.agg x.cells.toArray] func157 rfl;obtain⟨c,i,e,b,d⟩:=cn2 (SV.ofN (n8 w) x) (n7 _);obtain⟨m,f,h,_⟩:=d.pa_v;obtain rfl:=f.N;have a:(Instr.box 72 (.agg x.cells.toArray)).run prog w = .ok c i:=e;simp only[eF,simprocAttr,a,h i (n7 _)];refine B3 (cv5 v l x i (A9.mono (b7 b) hv) j) (λn g=>?_);simp only[eF,simprocAttr];apply o8 results157;simp only[C9,simprocAttr];exact⟨by rw[bS6,cK9],b.trans g⟩
def aC4{α:Type}[A9 α]{h v}{l:List (Ptr α)}(hv:R h v l){k}{p:Ptr α}(g:l[k]?=some p):∃a,P4 h (I2 v k)=some (.pointer (some a))/\At h a p.to:=by
 obtain⟨_,i,f,e⟩:=hv.get g;obtain⟨a,b,rfl,c,d⟩:=f;have:=e 0 _ rfl;rw[O9,show k*A9.sz (Ptr α)=k from eM2 k]at this;exact⟨a,this,b,c,d⟩
def cx1(n:B9)(b):D0 prog 72 [(0,n),(1,.bool b)]=some (.agg (Pa.cells ⟨n,b⟩).toArray):=by
 simp[D0,dH9,M2,Instr.fill,Value.cells,A4,Pa.cells]
def bA9{α β:Type}(P:α->Bool)(g:α->List β):∀l:List α,(l.filter P).flatMap g=l.flatMap λx=>if P x then g x else[]
 | []=>rfl
 | x::l=>by
  rw[filter_cons,eN2,<-bA9 P g l];cases h:P x<;>simp
def ab7{p:Pg}{i}(a:i<p.procs.length):(M3 p)[i]?=some (F7 (i5 p) i):=by
 unfold M3;rw[eH2,eM3 a];rfl
def dD7(a)(b:Bk)(p i w)(ha:At (n8 w) a b)(aM:de2 p b)(W:b.ways=M3 p)(M:T7 (i5 p).l.length 100 b.defs)(hr:E3 p)(hw:C1 p<=1000000)(hi:i<p.procs.length):
  p7 prog 135 #[.pointer (some a),.int .i64 i] w λu z=>(B7 (n8 w) z 9 u (an2 p b.defs i)/\o6 w z):=by
 apply y5 [.pointer (some a),.int .i64 i] func135 rfl;obtain⟨x,pt⟩:=K1 hr.may hw i hi;have au:=V3 pt;generalize x+B8 p.procs[i].body=y at pt au;have bw:=I3 hr.may;have bA:=pt.ok.len;obtain⟨sh,vw,vd,_,_,_,has,aT,aR,_,_,_,aV,aW⟩:=ha.book aM.s;obtain⟨_,_,_,_,_,_,aN,_,_⟩:=has.sh;rw[K0]at aN;obtain⟨vg,vp,bG,aS,bn,bO⟩:=aN.pg;obtain⟨aw,ba,aC⟩:=aC4 (hv:=aT) (k:=i) (p:=⟨F7 (i5 p) i⟩) (by unfold Bk.wp;rw[W,eH2,ab7 hi];rfl);simp only at aC;have aH:=aT.inS (k:=i) (by unfold Bk.wp;rw[W];unfold M3;simpa using hi);have lb:=aV w (n7 _);have lp:=bn w (n7 _);have C:=aS.inS hi;obtain⟨sv,T,j⟩:=G1 (P:=prog) (t:=68) aS (n7 _) (eD1 hi) as1 as2 ao1 N6;rw[N6]at j;have bf:=R9 hr.may hi;have U:∀n,ak1 p i n=(W1 p n||p.procs[i].params.contains ⟨n,true⟩):=λn=>by
  unfold ak1;rw[getD,eD1 hi];rfl
 obtain⟨c,wz,G,a7,aP,r,aA⟩:=aM2 T (n7 _);obtain⟨bu,_,_,_,ag,_,_,_,bo,_⟩:=aA.pr;have bm:=aV G (b7 r);generalize p.procs[i].params=ae at U ag bf;simp only[i4,n9,A6,simprocAttr,lb,lp,C,j,a7,aP,bm];apply z6 (aQ1 (n8 w) sh (i5 p) i x y G has (b7 r) pt.ok);rintro ui w3 ⟨V,bi⟩;have N:=pt.ids;have ap:((i5 p).of i).length<=200:=by
  have:=pt.ok.of_;rw[this,eK0,eE5];omega
 have hF:an2 p b.defs i=((i5 p).of i).flatMap λit=>if(F7 (i5 p) i).lives it.s.id then(J8 b.defs (it.s.id-1)).filter (ak1 p i)else[]:=by
  unfold an2;rw[bA9]
 generalize a5:(λit:It=>if(F7 (i5 p) i).lives it.s.id then(J8 b.defs (it.s.id-1)).filter (ak1 p i)else[])=H at hF;have hH:∀it,H it=if(F7 (i5 p) i).lives it.s.id then(J8 b.defs (it.s.id-1)).filter (ak1 p i)else[]:=λit=>by rw[<-a5]
 have B:∀it∈(i5 p).of i,∃q:Nat,it.s.id-1=(q:Int)/\q<(i5 p).l.length:=λit ao=>by
  have:=N it ao;exact⟨(it.s.id-1).toNat,om,om⟩
 generalize(i5 p).of i=l at V hF N ap B;have a6:∀it∈l,(H it).length<=100:=λit ao=>by
  rw[hH];split
  .obtain⟨q,e,hq⟩:=B it ao;rw[e];exact eD7 (eG0 _ _) (M.row hq).2.2
  .simp
 have a8:∀k,((l.take k).flatMap H).length<=20000:=λk=>by
  apply eD7 (U3 H 100 _ λx hx=>a6 x (eL5 hx));rw[eE5];have:min k l.length<=200:=om
  omega
 simp only[eF,simprocAttr,V.isS,V.vlen];refine B4 [0,1,6,27,28] (σ:=Nat×Value) (λs f z=>f 29 = .int .i64 s.1/\f 5=s.2/\s.1<=l.length/\B7 (n8 G) z 9 s.2 ((l.take s.1).flatMap H)/\o6 G z) (λs=>l.length-s.1) (0,.slice none 0 0) ?_ ?_
 .exact⟨rfl,rfl,eE2 _,by simpa using B7.nil _ _ _,bi⟩
 rintro⟨k,u⟩ f w4 ⟨e0,e1,e6,a2,a3,_⟩ ⟨K,h5,bc,ho,ad⟩;simp only at K h5 bc ho;have aO:=a8 k;simp only[eF,simprocAttr,K,a3];refine A7 (λZ=>?_) ?_;rotate_left
 .rintro rfl;rw[eE4]at ho;simp only[i4,simprocAttr,h5];exact o8 results135 ⟨by rw[hF];exact ho.back r,r.trans ad⟩
 clear C j aP T;have C:=V.inS Z;obtain⟨sv,T,j⟩:=G1 (P:=prog) (t:=156) V (b7 (r.trans ad)) (eD1 Z) ai4 ai5 ag5 M4;rw[M4]at j;have aa:=M1 H l Z;have af:=eE1 Z;have aG:=N _ af;obtain⟨q,aq,hq⟩:=B _ af;have E:=hH l[k];generalize l[k]=it at T aa aG aq E;generalize(l.take k).flatMap H=pre at ho aO aa;obtain⟨d,bV,I,ay,aQ,bj,az⟩:=az4 (T.mono (b7 (r.trans ad))) (n7 _);obtain⟨aB,_,_⟩:=az.it;obtain⟨_,_,_,_,_,_,_,_,_,_,aX⟩:=aB.st;have am:=bj.trans (o6.drew I);have ak:=ad.trans am;have ah:=r.trans ak;have aE:∀z,o6 I.drew z->E6 (n8 w) (n8 z):=λz h=>b7 (ah.trans h);have t1:=aX (o6 I.drew) I.drew (t8.refl _) λz h=>b7 ((o6.drew I).trans h);have t3:=bW2 (P:=prog) (t:=160) ba aC9 (o6 I.drew) I.drew (t8.refl _) aE;simp only[i4,n9,A6,simprocAttr,K,a2,C,j,ay,aQ];refine C4 (o6 I.drew) 10 (A8 [0,1,2,3,4,5,6,7,8,9]) ?_;simp only[D7,A8,i4,n9,A6,simprocAttr,e0,e1,t1,aW (o6 I.drew) I.drew (t8.refl _) aE,t3,aH];refine B3 (be6 aw (F7 (i5 p) i) p i x y it.s.id I.drew (aC.mono (b7 ah)) au.toWyOk aG au.live) (λY av=>?_);have al:=ak.trans av;have aK:=(ho.ext am).ext av;generalize(F7 (i5 p) i).lives it.s.id=lv at E;rcases eD2 lv with aI|aI<;>subst aI;rotate_left
 .simp only[eF,simprocAttr,K,h5];refine nx4 (k+1,u) ⟨?_,al⟩;simp only[];rw[aa,E,fh dG,eG5];exact aK
 rw[fi rfl,aq]at E;obtain⟨S,_,aD⟩:=M.row hq;generalize J8 b.defs (q:Int)=g at S aD E;obtain⟨ud,ac,a9⟩:=R.row aR S;have X:=al.trans (o6.drew Y);have aF:∀z,o6 Y.drew z->E6 (n8 w) (n8 z):=λz h=>b7 ((r.trans X).trans h);have t4:=aX (o6 Y.drew) Y.drew (t8.refl _) λz h=>b7 ((o6.drew I).trans (av.trans ((o6.drew Y).trans h)));have t6:=bW2 (P:=prog) (t:=22) a9 ab6 (o6 Y.drew) Y.drew (t8.refl _) aF;have bh:IntKind.i64.wrap (it.s.id-1)=(q:Int):=by rw[aq];exact N7 _ om
 have aL:=aK.ext (o6.drew Y);simp only[eF,simprocAttr];refine C4 (o6 Y.drew) 12 (A8 [0,1,2,3,4,5,6,7,8,9,10,11]) ?_;simp only[D7,A8,i4,n9,A6,simprocAttr,e0,t4,aW (o6 Y.drew) Y.drew (t8.refl _) aF,t6,bh,aR.inS (eD8.1 S).1,ac.isS,ac.vlen];refine B4 [0,1,6,27,28,29,54,55] (σ:=Nat×Value) (λs f z=>f 56 = .int .i64 s.1/\f 5=s.2/\s.1<=g.length/\B7 (n8 G) z 9 s.2 (pre++(g.take s.1).filter (ak1 p i))/\o6 G z) (λs=>g.length-s.1) (0,u) ?_ ?_
 .exact⟨rfl,h5,eE2 _,by simpa using aL,X⟩
 rintro⟨m,u7⟩ f7 w7 ⟨j0,j1,j6,bJ,bK,aU,bk,bl,_⟩ ⟨D,L,bd,A,v⟩;simp only at D L bd A;rw[e0]at j0;rw[e1]at j1;rw[e6]at j6;rw[K]at aU;have aj:=r.trans v;have bF:((g.take m).filter (ak1 p i)).length<=100:=eD7 (eG0 _ _) (by rw[eE5];omega);simp only[eF,simprocAttr,D,bl];refine A7 (λO=>?_) ?_;rotate_left
 .rintro rfl;rw[eE4]at A;simp only[eF,simprocAttr,aU];refine nx2 (k+1,u7) ⟨L,om,?_,v⟩;simp only[];rw[aa,E];exact A
 clear C j;have C:=ac.inS O;have j:=ldS ac (b7 aj) O;have ab:=aA3 (ak1 p i) g O;generalize g[m]=n at j ab;rw[U]at ab;have ar:(W1 p n||ae.contains ⟨n,true⟩)=false->∀J,o6 w7 J->∃F:Nat×Value,g.length-F.1<g.length-m/\(Value.int .i64 (IntKind.i64.wrap ((m:Int)+1)) = .int .i64 F.1/\u7=F.2/\F.1<=g.length/\B7 (n8 G) J 9 F.2 (pre++(g.take F.1).filter (ak1 p i))/\o6 G J):=λhf J o=>by
  refine nx4 (m+1,u7) ⟨?_,v.trans o⟩;simp only[];rw[ab,hf,fh dG,eG5];exact A.ext o
 have Q:(W1 p n||ae.contains ⟨n,true⟩)=true->∀u8 J,B7 (n8 G) J 9 u8 (pre++(g.take m).filter (ak1 p i)++[n])->o6 G J->∃F:Nat×Value,g.length-F.1<g.length-m/\(Value.int .i64 (IntKind.i64.wrap ((m:Int)+1)) = .int .i64 F.1/\u8=F.2/\F.1<=g.length/\B7 (n8 G) J 9 F.2 (pre++(g.take F.1).filter (ak1 p i))/\o6 G J):=λhf u8 J be o=>by
  refine nx4 (m+1,u8) ⟨?_,o⟩;simp only[];rw[ab,hf,fi rfl,<-eG4];exact be
 simp only[i4,n9,A6,simprocAttr,D,j0,bk,C,j];apply F6 (bl1 a b p n w7 (ha.mono (b7 aj)) aM.s hr.may);rcases eD2 (W1 p n)with h1|h1
 .obtain⟨p1,u8,J,p2,p3,p4,p5⟩:=pushS (e:=22) A n (by rw[eD4];omega) (b7 v);simp only[eF,simprocAttr,h1,D,L,p1,p2];exact Q (by rw[h1];rfl) _ _ p3 (A.ext2 v p4)
 .simp only[eF,simprocAttr,h1,j6,bo w7 (b7 v),cx1];refine B3 (cf5 bu ae ⟨n,true⟩ w7 (A9.mono (b7 v) ag) om) (λJ o=>?_);rcases eD2 (ae.contains ⟨n,true⟩)with h2|h2
  .obtain⟨p1,u9,w9,p2,p3,p4,p5⟩:=pushS (e:=22) (A.ext o) n (by rw[eD4];omega) (b7 (v.trans o));simp only[eF,simprocAttr,h2,D,L,p1,p2];exact Q (by rw[h1,h2];rfl) _ _ p3 ((A.ext o).ext2 (v.trans o) p4)
  .simp only[eF,simprocAttr,h2,D,L];exact ar (by rw[h1,h2];rfl) _ o
structure NJ (M:Nat) (nx:List (List Int)) (hit:Nat->Bool) (todo:List Int) (seen:List Bool) (x:Int->Prop):Prop where
 len:seen.length=M
 td:∀c∈todo,J2 M c=true/\Y6 nx 0 c
 done:∀c:Int,J2 M c=true->(c=0\/A5 seen c=true)->c∈todo\/x c\/(hit c.toNat=false/\∀d∈F1 nx c,A5 seen d=true)
section
variable {M:Nat} {nx:List (List Int)} {hit:Nat->Bool} {todo:List Int} {seen:List Bool} {x:Int->Prop}
def NJ.start(b:J2 M 0=true):NJ M nx hit [0] (replicate M false) (λ_=>False):=by
 refine⟨dG,λc a=>?_,λc _ a=>?_⟩
 .simp at a;subst a;exact⟨b,.refl⟩
 .rcases a with rfl|a
  .exact .inl dG
  .rw[aO3]at a;cases a
def NJ.pop{c}(h:NJ M nx hit (todo++[c]) seen (λ_=>False)):NJ M nx hit todo seen (λd=>d=c)/\J2 M c=true/\Y6 nx 0 c:=by
 refine⟨⟨h.len,λd e=>h.td d (eF9 _ e),λd e f=>?_⟩,h.td c dG⟩;rcases h.done d e f with a|a|a
 .rcases eE0.1 a with b|b
  .exact .inl b
  .exact .inr (.inl (by simpa using b))
 .exact a.elim
 .exact .inr (.inr a)
def NJ.close{c:Int}(h:NJ M nx hit todo seen (λd=>d=c))(e:hit c.toNat=false)(f:∀d∈F1 nx c,A5 seen d=true):NJ M nx hit todo seen (λ_=>False):=by
 refine⟨h.len,h.td,λd b g=>?_⟩;rcases h.done d b g with a|a|a
 .exact .inl a
 .subst a;exact .inr (.inr ⟨e,f⟩)
 .exact .inr (.inr a)
def NJ.push{d:Int}(h:NJ M nx hit todo seen x)(i:J2 M d=true)(hw:Y6 nx 0 d):NJ M nx hit (todo++[d]) (seen.set d.toNat true) x:=by
 have j:J2 seen.length d=true:=by rw[h.len];exact i
 have b:∀e,A5 seen e=true->A5 (seen.set d.toNat true) e=true:=λe g=>by
  rw[O2 j];split
  .rfl
  .exact g
 refine⟨by rw[eK6,h.len],λc a=>?_,λc a k=>?_⟩
 .rcases eE0.1 a with a|a
  .exact h.td c a
  .simp at a;subst a;exact⟨i,hw⟩
 .by_cases hcd:c=d
  .subst hcd;exact .inl dG
  .rw[O2 j,fh hcd]at k;rcases h.done c a k with f|f|f
   .exact .inl (eF9 _ f)
   .exact .inr (.inl f)
   .exact .inr (.inr ⟨f.1,λe g=>b e (f.2 e g)⟩)
def NJ.fin(h:NJ M nx hit [] seen (λ_=>False))(e:OkR nx)(l:nx.length=M)(j:J2 M 0=true):∀c,Y6 nx 0 c->hit c.toNat=false:=by
 have f:∀c,Y6 nx 0 c->J2 M c=true/\(c=0\/A5 seen c=true):=λc d=>by
  induction d with
  | refl=>exact⟨j,.inl rfl⟩
  | step _ g i=>
   refine⟨by rw[<-l];exact e _ _ g,.inr ?_⟩;rcases h.done _ i.1 i.2 with a|a|a
   .simp at a
   .exact a.elim
   .exact a.2 _ g
 intro c d;obtain⟨a,k⟩:=f c d;rcases h.done c a k with b|b|b
 .simp at b
 .exact b.elim
 .exact b.1
end
def bm7{α:Type}{l:List α}{n}(h:l.length=n+1):∃(t:List α) (c:α),l=t++[c]/\t.length=n/\l[n]?=some c/\l.take n=t:=by
 have a:n<l.length:=om
 refine⟨l.take n,l[n],?_,by rw[eE5];omega,eD1 a,rfl⟩;have:=eD9 a;rw[<-this,eI0 om]
def cF2{α:Type}[A9 α]{h w T v}{xs:List α}(t:B7 h w T v xs){i}(n:i<=xs.length){sz}:
  B7 h w T (reS v 0 i sz) (xs.take i)/\∀b,B0 (reS v 0 i sz) b↔B0 v b:=by
 rcases t with⟨rfl,rfl⟩|⟨b,c,d,rfl,p,q,y,r,s,l⟩
 .have:i=0:=by simpa using n
  subst this;exact⟨.inl ⟨rfl,rfl⟩,λb=>eL8⟩
 .have e:reS (.slice (some ⟨b,0,none⟩) xs.length c) 0 i sz = .slice (some ⟨b,0,none⟩) i c:=by
   simp only[reS,Nat.zero_mul,eJ9,Nat.sub_zero,O9,ite_self]
  rw[e];have f:(xs.take i).length=i:=by rw[eE5];omega
  refine⟨.inr ⟨b,c,d,by rw[f],p,q,om,r,s,?_⟩,λu=>eL8⟩;rw[f];have o:xs=xs.take i++xs.drop i:=(eH8 i xs).symm;rw[o]at l;obtain⟨g,x,j,k,_⟩:=af4 _ _ l;have a:=Q9 k;rw[f]at a;rw[<-o]at j;have:d.toList.take (i*A9.sz α)=g:=by
   have m:(d.toList.take (xs.length*A9.sz α)).take (i*A9.sz α)=g:=by rw[j,<-a,eN4]
   rw[take_take,eJ7 (eN1 _ n)]at m;exact m
  rw[this];exact k
def dC6{p i x y}{wy:Wy}(k:E3 p)(hw:C1 p<=1000000)(h:i<p.procs.length)(c:aw0 p i x y wy):OkR wy.net/\wy.net.length=wy.n.toNat/\∀r∈wy.net,r.length<=1000000:=by
 have g:=bP9 k hw h c;have l:=br0 k hw h c;have j:wy.net.length=wy.n.toNat:=bu2 _ _;have e:wy.net=as7 wy.n.toNat (wy.pairs wy.data):=rfl;refine⟨λa b f=>?_,j,λr d=>?_⟩
 .unfold F1 at f;split at f
  .next q=>
   have hm:wy.net.getD a.toNat []∈wy.net:=by
    rw[getD,eD1 om];exact eE1 _
   rw[e]at hm;obtain⟨t,m,rfl⟩:=(bu3 hm).2 b f;have:=(g t m).2;rw[j];exact C0.2 ⟨om,om⟩
  .simp at f
 .rw[e]at d;have n:=(bu3 d).1;have o:(wy.pairs wy.data).length=wy.data.length:=eE3 _;omega
def dm6(a)(b:Bk)(p i vn)(name:B9)(w)(ha:At (n8 w) a b)(bE:de2 p b)(av:b.ways=M3 p)(a1:T7 (i5 p).l.length 100 b.defs)(a6:T7 (i5 p).l.length 2000000 b.uses)
  (hr:E3 p) (hw:C1 p<=1000000) (hi:i<p.procs.length) (a7:R (n8 w) vn (F7 (i5 p) i).net) :
  p7 prog 202 #[a,i,vn,name] w λu w'=>(u=(aU1 (F7 (i5 p) i) (J8 b.outs i) b.uses b.defs name)/\o6 w w'):=by
 apply y5 [a,i,vn,name] func202 rfl;obtain⟨x,pt⟩:=K1 hr.may hw i hi;have ad:=V3 pt;generalize x+B8 p.procs[i].body=y at pt ad;have cW:=I3 hr.may;have c0:=pt.ok.len;have cZ:=pt.ok.le;have hn:=ad.n;obtain⟨Z,ap,bC⟩:=dC6 hr hw hi ad;obtain⟨sh,vw,vd,vu,_,vo,has,bR,bO,bQ,_,bP,a9,_⟩:=ha.book bE.s;obtain⟨aw,co,aA⟩:=aC4 (hv:=bR) (k:=i) (p:=⟨F7 (i5 p) i⟩) (by unfold Bk.wp;rw[av,eH2,ab7 hi];rfl);simp only at aA;have bv:=bR.inS (k:=i) (by unfold Bk.wp;rw[av];unfold M3;simpa using hi);obtain⟨aq,aF,cB⟩:=bE.outs.row hi;generalize F7 (i5 p) i=o at ad hn Z ap bC a7 aA ⊢;have bB:o.n=((o.n.toNat:Nat):Int):=om
 have ce:2<=o.n.toNat:=om
 have aX:o.n.toNat<=202:=om
 have aG:=ad.toWyOk.place;have Q:=ch6 (outs:=J8 b.outs i) (uses:=b.uses) (defs:=b.defs) (name:=name) Z ap om;have aL:∀c:Nat,cP5 o (J8 b.outs i) b.uses name c=if(c:Int)=o.n-1 then(J8 b.outs i).contains name else !decide (c=0)&&(J8 b.uses (o.place c-1)).contains name:=λc=>rfl;have al:∀c:Nat,bs0 o b.uses b.defs name c=(decide ((c:Int)=o.n-1) || !decide (c=0)&&((J8 b.uses (o.place c-1)).contains name||(J8 b.defs (o.place c-1)).contains name)):=λc=>rfl;generalize cP5 o (J8 b.outs i) b.uses name=O at Q aL;generalize bs0 o b.uses b.defs name=F at Q al;generalize aU1 o (J8 b.outs i) b.uses b.defs name=ba at Q ⊢;obtain⟨uo,cK,cm⟩:=R.row bP aq;have bu:=bP.inS (eD8.1 aq).1;have aR:=aP5 Z F;have aH:=al9 o.net F;have ar:=aG4 o.net F;rw[ap]at aH;generalize aL9 o.net F=nx at Q aR aH ar;obtain⟨_,_,_,_,_,_,bZ,_⟩:=aA.wy;generalize hM:o.n.toNat=M at Q ap aH bB ce aX;have h0:J2 M 0=true:=C0.2 ⟨om,om⟩;obtain⟨ib,cr,bq⟩:=ay1 (P:=prog) Y5 aK1;have lb:=a9 w (n7 _);have lw:=bZ w (n7 _);have cz:=M0 (P:=prog) (t:=160) co (n7 _) aC9;obtain⟨vs,w1,bz,bG,bU,cY,_⟩:=mk (P:=prog) (w:=w) (h:=n8 w) (α:=Bool) bw9 Y5 (y:=false) rfl (n:=M) om om (n7 _);rw[<-bB]at bz;obtain⟨vt,w2,cu,cC,bV,bo⟩:=lit (P:=prog) (w:=w1) (h:=n8 w) (α:=Int) (xs:=[(0:Int)]) (ys:=[0]) (parts:=#[(0,(0:Int))]) (n:=1) V8 rfl (G6.2 rfl) (by simp[Value.cells]) rfl rfl dG dG (b7 bU);have aS:IntKind.i64.wrap (o.n-1)=((M-1:Nat):Int):=by rw[N7 _ om];omega
 simp only[i4,n9,A6,simprocAttr,lb,bv,cz,lw,bz,cu];refine B4 [0,1,2,3,9,10] (σ:=Value×List Int×List Bool) (λs f w'=>f 11=s.1/\B7 (n8 w) w' 3 s.1 s.2.1/\B7 (n8 w) w' 4 vs s.2.2/\(∀b,B0 s.1 b->¬B0 vs b)/\o6 w w'/\NJ M nx O s.2.1 s.2.2 (λ_=>False)/\s.2.1.length+s.2.2.count false<=203) (λs=>s.2.1.length+s.2.2.count false) (vt,[0],replicate M false) ?_ ?_
 .simp only[C9,simprocAttr];refine⟨tt,cC,bG.ext bV,λb hb aB=>?_,bU.trans bV,NJ.start h0,by simp only[eG3];have:=count_le_length (a:=false) (l:=replicate M false);rw[eJ3]at this;omega⟩;have:=bG.lt aB;have:=bo b hb;omega
 rintro⟨v,L,r⟩ f w3 ⟨e0,e1,e2,e3,e9,cb,_⟩ ⟨ay,ho,aa,bm,E,hJ,cf⟩;simp only at ay ho aa bm hJ cf;have aY:=ho.isS;have aD:=ho.vlen;have cX:=ho.vcap;have cF:=hJ.len;simp only[eF,simprocAttr,ay,aY,aD];refine B2 (λhc=>?_) (λhc=>?_);rotate_left
 .have cG:L=[]:=by
   have:¬(0:Int)<(L.length:Int):=by simpa using hc
   exact List.length_eq_zero_iff.1 om
  subst cG;have cA:=hJ.fin aR aH h0;have bL:ba=false:=by
   cases hrs:ba with
   | false=>rfl
   | true=>
    obtain⟨c,df,ch,ci⟩:=Q.1 hrs;have:=cA _ ci;rw[eF4,ch]at this;cases this
  simp only[i4,simprocAttr];apply o8 results202;simp only[C9,simprocAttr];exact⟨by rw[bL],E⟩
 obtain⟨n,bA⟩:∃n,L.length=n+1:=⟨L.length-1,by have:(0:Int)<(L.length:Int):=by simpa using hc
                                              omega⟩
 obtain⟨td,c,rfl,dn,cH,cI⟩:=bm7 bA;obtain⟨bh,cl,aK⟩:=hJ.pop;obtain⟨de,dg⟩:=C0.1 cl;obtain⟨C,rfl⟩:∃C:Nat,c=(C:Int):=⟨c.toNat,om⟩;have cc:C<M:=om
 have bS:IntKind.i64.wrap (((n+1:Nat):Int)-1)=(n:Int):=by rw[N7 _ om];omega
 rw[bA]at aD;have br:=ho.inS (k:=n) om;have bw:(Instr.loadAt 3 (I2 v n)).run prog w3 = .ok C w3:=E8 (P:=prog) ho cH K7;obtain⟨J,bk⟩:=cF2 (sz:=1) ho (i:=n) om;rw[cI]at J;have ag:decide ((n:Int)<=(vcap v:Int))=true:=by simp;omega
 have X:∀b,B0 (reS v 0 n 1) b->¬B0 vs b:=λb hb=>bm b ((bk b).1 hb);have b0:=bZ w3 (b7 E);have cO:=a9 w3 (b7 E);have cx:=M0 (P:=prog) (t:=22) cm (b7 E) ab6;generalize bN:reS v 0 n 1=v2 at J X;have ao:td.length+r.count false<(td++[(C:Int)]).length+r.count false:=by rw[eD4];simp
 have aJ:td.length+r.count false<=203:=om
 have B:=aL C;have z:=al C;have S:=ar (C:Int);rw[eF4]at S;have aj:F C=true->O C=false->NJ M nx O td r (λ_=>False):=λH h2=>bh.close h2 (by rw[S,fi H];simp);have aT:O C=true->ba=true:=λH=>Q.2 ⟨C,cc,H,aK⟩;have bg:decide ((C:Int)=((M-1:Nat):Int))=decide ((C:Int)=o.n-1):=by rw[eI5];omega
 rcases eD2 (decide ((C:Int)=((M-1:Nat):Int)))with hq|hq
 .have ac:(C:Int)=o.n-1:=by rw[bg]at hq;exact eD3 hq
  rw[fi ac]at B;rw[eG9 ac]at z;simp only[i4,n9,A6,G7,simprocAttr,ay,aY,aD,bS,br,bw,ag,bN,e9,b0,aS,hq,e0,e1,e3,cO,bu,cx];apply F6 (aq8 uo _ name w3 (A9.mono (b7 E) cK) om aF);rw[<-B];rcases eD2 (O C)with H|H
  .simp only[i4,simprocAttr,H];apply o8 results202;simp only[C9,simprocAttr];exact⟨by rw[aT H],E⟩
  .simp only[i4,simprocAttr,H];exact⟨(v2,td,r),ao,tt,J,aa,X,E,aj z H,aJ⟩
 have ac:¬(C:Int)=o.n-1:=by rw[bg]at hq;exact eD6 hq
 rw[fh ac]at B;rw[eG7 ac,eO3]at z;simp only[dq3,n9,A6,G7,simprocAttr,ay,aY,aD,bS,br,bw,ag,bN,e9,b0,aS];rw[dq8];simp only[dq3,n9,simprocAttr,hq];refine cg3 [0,1,2,3,9,10,11,12] (λf' w'=>O C=false/\F C=false/\o6 w3 w') ?_ ?_
 .rcases Nat.eq_zero_or_pos C with aW|aW
  .subst aW;simp only[eF,simprocAttr];exact⟨by rw[B];simp,by rw[z];simp,t8.refl _⟩
  .have cp:decide ((0:Int)<(C:Int))=true:=by simpa using aW
   have bf:(!decide (C=0))=true:=by simp;omega
   obtain⟨q,bJ,bI⟩:∃q:Nat,o.place (C:Int)-1=(q:Int)/\q<(i5 p).l.length:=by
    refine⟨x+C-1,?_,om⟩;rw[aG,fh om,fh ac];omega
   have bT:IntKind.i64.wrap (o.place (C:Int)-1)=(q:Int):=by rw[bJ];exact N7 _ om
   rw[bJ,bf,eJ4]at B z;obtain⟨V,ab,a5⟩:=a6.row bI;obtain⟨N,Y,a2⟩:=a1.row bI;generalize J8 b.uses (q:Int)=ur at V ab a5 B z;generalize J8 b.defs (q:Int)=dr at N Y a2 z;obtain⟨uu,cL,cn⟩:=R.row bQ V;obtain⟨ud,cJ,ck⟩:=R.row bO N;have bt:=bO.inS (eD8.1 N).1;simp only[i4,simprocAttr,cp,e9];refine B3 (aq0 aw o p i x y (C:Int) w3 (aA.mono (b7 E)) ad.toWyOk om) (λw4 K=>?_);have g:=E.trans K;have bY:=a9 w4 (b7 g);have cy:=M0 (P:=prog) (t:=22) cn (b7 g) ab6;have cv:=M0 (P:=prog) (t:=22) ck (b7 g) ab6;simp only[i4,n9,A6,simprocAttr,e0,e3,bY,bT,bQ.inS (eD8.1 V).1,cy];apply F6 (aq8 uu ur name w4 (A9.mono (b7 g) cL) om ab);rcases eD2 (ur.contains name)with H|H
   .simp only[i4,simprocAttr,H];apply o8 results202;simp only[C9,simprocAttr];exact⟨by rw[aT (by rw[B];exact H)],g⟩
   rw[H]at B;rw[H,eO3]at z;simp only[i4,n9,A6,simprocAttr,H,e0,e3,bY,bT,bt,cv];apply F6 (aq8 ud dr name w4 (A9.mono (b7 g) cJ) om Y);rcases eD2 (dr.contains name)with h2|h2
   .rw[h2]at z;simp only[i4,simprocAttr,h2];exact⟨(v2,td,r),ao,tt,J.ext K,aa.ext K,X,g,aj z B,aJ⟩
   .rw[h2]at z;simp only[i4,simprocAttr,h2];exact⟨B,z,K⟩
 rintro f4 w4 hk ⟨cq,ct,K⟩;simp only[eF8,C9,simprocAttr]at hk;obtain⟨r0,r1,r2,r3,r9,b1,cP,cQ,_⟩:=hk;rw[e0]at r0;rw[e1]at r1;rw[e2]at r2;rw[e3]at r3;rw[e9]at r9;rw[cb]at b1;rw[ct,fh dG]at S;have bK:F1 o.net (C:Int)=o.net.getD C []:=by
  unfold F1;rw[fi ⟨om,om⟩,eF4]
 rw[bK]at S;have a3:o.net[C]?=some (o.net.getD C []):=by rw[getD,eD1 om];rfl
 have cE:=bC _ (eF7 a3);have bs:=a7.inS (eD8.1 a3).1;obtain⟨uR,au,cj⟩:=R.row a7 a3;have bM:∀d∈o.net.getD C [],J2 M d=true:=λd hd=>by
  have:=Z (C:Int) d (by rw[bK];exact hd);rw[ap]at this;exact this
 generalize o.net.getD C []=I at S cE au bM;have g:=E.trans K;have cw:=M0 (P:=prog) (t:=45) cj (b7 g) ao0;simp only[i4,n9,A6,simprocAttr,r2,cQ,bs,cw,au.isS,au.vlen];refine B4 [0,1,2,3,9,10,87,88] (σ:=(Nat×Value)×(List Int×List Bool)) (λs f w'=>f 89=s.1.1/\f 11=s.1.2/\s.1.1<=I.length/\B7 (n8 w) w' 3 s.1.2 s.2.1/\B7 (n8 w) w' 4 vs s.2.2/\(∀b,B0 s.1.2 b->¬B0 vs b)/\o6 w w'/\NJ M nx O s.2.1 s.2.2 (λd=>d=(C:Int))/\(∀j (hj:j<I.length),j<s.1.1->A5 s.2.2 I[j]=true)/\s.2.1.length+s.2.2.count false=td.length+r.count false) (λs=>I.length-s.1.1) ((0,v2),(td,r)) ?_ ?_
 .simp only[C9,simprocAttr];exact⟨tt,cP,eE2 _,J.ext K,aa.ext K,X,g,bh,λj hj h=>om,tt⟩
 rintro⟨⟨j,v6⟩,bb,m⟩ f6 w6 ⟨j0,j1,j2,j3,j9,a8,bX,cM,_⟩ ⟨az,W,cs,aE,A,G,aI,af,T,ah⟩;simp only at az W cs aE A G af T ah;rw[r0]at j0;rw[r1]at j1;rw[r2]at j2;rw[r3]at j3;rw[r9]at j9;rw[b1]at a8;simp only[eF,simprocAttr,az,cM];refine A7 (λaC=>?_) ?_;rotate_left
 .rintro rfl;have cd:=af.close (by rw[eF4];exact cq) (λd hd=>by
   rw[S]at hd;obtain⟨k,hk,rfl⟩:=eK1.1 hd;exact T k hk hk)
  simp only[i4,simprocAttr];exact⟨(v6,bb,m),so,W,aE,A,G,aI,cd,so⟩
 have aN:=au.inS aC;have an:=aI6 au (b7 aI) aC;have ak:=bM _ (eE1 aC);have bn:I[j]∈F1 nx (C:Int):=by rw[S];exact eE1 aC
 have U:∀sn:List Bool,(∀e,A5 m e=true->A5 sn e=true)->A5 sn I[j]=true->∀k (hk:k<I.length),k<j+1->A5 sn I[k]=true:=λsn hm hd k hk dl=>by
  rcases eH4 k j with h|h
  .exact hm _ (T k hk h)
  .obtain rfl:k=j:=om
   exact hd
 generalize I[j]=d at an ak bn U;obtain⟨dh,di⟩:=C0.1 ak;obtain⟨D,rfl⟩:∃D:Nat,d=(D:Int):=⟨d.toNat,om⟩;have aQ:=af.len;have ae:D<m.length:=om
 have aM:=A.inS ae;have am:(Instr.loadAt 4 (I2 vs D)).run prog w6 = .ok (m[D]) w6:=E8 (P:=prog) A (eD1 ae) ag4;have bj:A5 m (D:Int)=m[D]:=by
  rw[(O5 (by rw[aQ];exact ak)).2,eF4,getD,eD1 ae];rfl
 have a0:=ad7 (l:=m) ae;generalize m[D]=sb at am bj a0;rcases eD2 sb with H|H<;>subst H
 .simp only[i4,n9,A6,simprocAttr,az,a8,bX,aN,an,aM,am];exact nx2 ((j+1,v6),(bb,m)) ⟨W,so,aE,A,G,aI,af,U m (λ_ h=>h) bj,ah⟩
 .have a0:=a0 rfl;obtain⟨w7,s1,aP,bx,_⟩:=G4 (P:=prog) (t:=4) A rfl ae (x:=true) (y:=true) rfl rfl cr bq;have bD:=aE.mod bx G;have bW:=A.ext2 aI bx;obtain⟨p1,u8,w8,p2,p3,p4,p5⟩:=push (P:=prog) (t:=45) (e:=45) V8 rfl bD (x:=D) (y:=(D:Int)) rfl om om (b7 bW);simp only[Value.cells]at p1 p2;have bH:=aP.mod p4 λb hb h=>G b h hb;have bi:=af.push ak (Y6.step aK bn);rw[eF4]at bi;have bF:J2 m.length (D:Int)=true:=by rw[aQ];exact ak
  have bl:∀e,A5 (m.set D true) e=if e=(D:Int)then true else A5 m e:=λe=>by
   have:=O2 (l:=m) (a:=(D:Int)) (b:=e) (v:=true) bF;rw[eF4]at this;exact this
  simp only[i4,n9,A6,simprocAttr,az,W,a8,bX,aN,an,aM,am,s1,p1,p2];refine nx4 ((j+1,u8),(bb++[(D:Int)],m.set D true)) ⟨p3,bH,λb hb aB=>?_,bD.ext2 bW p4,bi,U _ (λe he=>?_) ?_,?_⟩
  .rcases p5 b hb with h|h
   .exact G b h aB
   .have:=aP.lt aB;omega
  .rw[bl];split
   .rfl
   .exact he
  .rw[bl,fi rfl]
  .simp only[eD4,eG3];omega
def dQ1(a)(b:Bk)(p i w)(ha:At (n8 w) a b)(I:de2 p b)(c:b.ways=M3 p)(q:T7 (i5 p).l.length 100 b.defs)(z:T7 (i5 p).l.length 2000000 b.uses)
  (S:E3 p) (hw:C1 p<=1000000) (E:i<p.procs.length) :
  p7 prog 138 #[a,i] w λu Q=>(B7 (n8 w) Q 9 u (aW3 p b.outs b.uses b.defs i)/\o6 w Q):=by
 apply y5 [a,i] func138 rfl;obtain⟨x,pt⟩:=K1 S.may hw i E;have L:=V3 pt;generalize x+B8 p.procs[i].body=y at pt L;obtain⟨sh,vw,_,_,_,_,has,K,_,_,_,_,O,_⟩:=ha.book I.s;obtain⟨_,_,_,_,_,_,J,_,_⟩:=has.sh;rw[K0]at J;obtain⟨vg,vp,ac,ap,ad,_⟩:=J.pg;obtain⟨aw,X,C⟩:=aC4 (hv:=K) (k:=i) (p:=⟨F7 (i5 p) i⟩) (by unfold Bk.wp;rw[c,eH2,ab7 E];rfl);simp only at C;have F:=K.inS (k:=i) (by unfold Bk.wp;rw[c];unfold M3;simpa using E);have ao:=(R0 S.may).1;have aa:=M0 (P:=prog) (t:=160) X (n7 _) aC9;simp only[i4,n9,A6,simprocAttr,O w (n7 _),F,aa];apply z6 (dM2 aw (F7 (i5 p) i) p i x y w C S hw E L);rintro un T ⟨ab,m⟩;simp only[eF,simprocAttr,O T (b7 m),ad T (b7 m)];apply z6 (aH3 vg p.globals T (A9.mono (b7 m) ac) om);rintro uc w3 ⟨H,N⟩;obtain⟨p1,ul,w4,p2,p3,p4,p5⟩:=pushS (e:=22) H am1 om (b7 N);have ae:(Instr.buildSlice 22 1 #[(0,.string ⟨#[36,105,110]⟩)]).run prog w3=_:=p1;have d:o6 T w4:=H.ext2 N p4;have l:=p3.rw_ (b7 d);have W:aW3 p b.outs b.uses b.defs i=(p.globals++[am1]).filter (aU1 (F7 (i5 p) i) (J8 b.outs i) b.uses b.defs):=rfl;have D:(p.globals++[am1]).length<=17:=by rw[eD4,eG3];omega
 generalize p.globals++[am1]=A at l W D;generalize hP:aU1 (F7 (i5 p) i) (J8 b.outs i) b.uses b.defs=P at W;simp only[eF,simprocAttr,ae,p2,l.isS,l.vlen];refine B4 [0,1,6,27,28] (σ:=Nat×Value) (λs f Q=>f 29=s.1/\f 5=s.2/\s.1<=A.length/\B7 (n8 w4) Q 9 s.2 ((A.take s.1).filter P)/\o6 w4 Q) (λs=>A.length-s.1) (0,()) ?_ ?_
 .exact⟨rfl,rfl,eE2 _,by simpa using B7.nil _ _ _,t8.refl _⟩
 rintro⟨k,u⟩ f w5 ⟨e0,e1,e6,U,V,_⟩ ⟨j,R,Z,B,g⟩;simp only at j R Z B;have o:=m.trans (d.trans g);have M:=d.trans g;simp only[eF,simprocAttr,j,V];refine A7 (λr=>?_) ?_;rotate_left
 .rintro rfl;rw[eE4]at B;simp only[i4,simprocAttr,R];exact o8 results138 ⟨by rw[W];exact B.back (m.trans d),o⟩
 have Y:=l.inS r;have G:=ldS l (b7 g) r;have v:=aA3 P A r;have an:((A.take k).filter P).length<=17:=eD7 (eG0 _ _) (by rw[eE5];omega);generalize A[k]=n at G v;simp only[i4,n9,A6,simprocAttr,j,e0,e1,e6,U,Y,G];refine B3 (dm6 a b p i un n w5 (ha.mono (b7 o)) I c q z S hw E (A9.mono (b7 M) ab)) (λw6 h=>?_);rw[hP];rcases eD2 (P n)with h1|h1
 .obtain⟨q1,u7,w7,q2,q3,q4,q5⟩:=pushS (e:=22) (B.ext h) n om (b7 (g.trans h));simp only[eF,simprocAttr,h1,j,R,q1,q2];refine nx4 (k+1,u7) ⟨?_,(B.ext h).ext2 (g.trans h) q4⟩;simp only[];rw[v,h1,fi rfl];exact q3
 .simp only[eF,simprocAttr,h1,j,R];refine nx4 (k+1,u) ⟨?_,g.trans h⟩;simp only[];rw[v,h1,fh dG,eG5];exact B.ext h
def nB(a:Nat)(c d:Value)(Z:Nat->Prop)(b:Nat):Prop:=b=a\/B0 c b\/B0 d b\/Z b
structure BM {α β:Type} [A9 α] [A9 β] (H:Hp) (w0 wz w:World) (Z:Nat->Prop) (gb:Nat) (TB TX TY:TypeId) (cells:Value->Array Value) (vx vy:Value) (xs:List α) (ys:List β):Prop where
 ext:o6 w0 w
 ge:w0.heap.size<=gb
 cb:w.heap[gb]?=some (.cells (cells vx) TB (0,0))
 ox:B7 (D9 w (nB gb vx vy Z)) w TX vx xs
 oy:B7 (D9 w (nB gb vx vy Z)) w TY vy ys
 dx:∀b,B0 vx b->w0.heap.size<=b/\b≠gb/\¬B0 vy b/\¬Z b
 dy:∀b,B0 vy b->w0.heap.size<=b/\b≠gb/\¬Z b
 dz:∀b,Z b->b≠gb/\b<wz.heap.size
 zk:∀b,Z b->w.heap[b]?=wz.heap[b]?
 sz:wz.heap.size<=w.heap.size
 base:E6 H (D9 w (nB gb vx vy Z))
section
variable {α β:Type} [A9 α] [A9 β] {H:Hp} {w0 wz w:World} {Z:Nat->Prop} {gb:Nat} {TB TX TY:TypeId} {cells:Value->Array Value} {vx vy:Value} {xs:List α} {ys:List β} {P:Program}
def BM.lt(s:BM H w0 wz w Z gb TB TX TY cells vx vy xs ys){b}(h:nB gb vx vy Z b):b<w.heap.size:=by
 rcases h with rfl|h|h|h
 .exact(eD5.1 s.cb).1
 .exact s.ox.lt h
 .exact s.oy.lt h
 .have:=(s.dz b h).2;have:=s.sz;omega
def BM.more(s:BM H w0 wz w Z gb TB TX TY cells vx vy xs ys){w'}(a:o6 w w'):BM H w0 wz w' Z gb TB TX TY cells vx vy xs ys:=by
 have c:E6 (D9 w (nB gb vx vy Z)) (D9 w' (nB gb vx vy Z)):=M8 a (λ_ h=>h.elim) λb h=>.inl h;have hN:∀(v:Value),(∀b,B0 v b->nB gb vx vy Z b)->∀b,B0 v b->D9 w' (nB gb vx vy Z) b=none:=λv e b d=>G2 (e b d);exact⟨s.ext.trans a,s.ge,(a.block gb (eD5.1 s.cb).1 id).trans s.cb,(s.ox.ext a).up c (hN vx λb h=>.inr (.inl h)),(s.oy.ext a).up c (hN vy λb h=>.inr (.inr (.inl h))),s.dx,s.dy,s.dz,
  λb h=>(a.block b (s.lt (.inr (.inr (.inr h)))) id).trans (s.zk b h),eD7 s.sz a.size,A3 s.base c⟩
def BM.fresh(s:BM H w0 wz w Z gb TB TX TY cells vx vy xs ys){c:Type}[L6 c]{w' T u}{l:List c}(a:B7 (n8 w) w' T u l):R (D9 w' (nB gb vx vy Z)) u l:=
 (a.down (h:=λ_=>none) (λ_ _ h=>by cases h)).ro (λ_ _ h=>by cases h) λb d=>E9 λh=>by
  have e:=s.lt h;have f:=D4 (a.free d);omega
def BM.reset(s:BM H w0 wz w Z gb TB TX TY cells vx vy xs ys){ix}(i:ix<(cells vx).size)(e:∀v l,(cells v).setIfInBounds ix l=cells l){t}{f:TypeInfo}(d:P.info? t=some f)(n:f.size=1):
  ∃g,(Instr.storeAt t (.pointer (some ⟨gb,ix,none⟩)) ()).run P w = .ok () g/\BM H w0 wz g Z gb TB TX TY cells () vy ([]:List α) ys:=by
 obtain⟨g,m,j,c⟩:=ai1 (P:=P) (t:=t) (x:=()) s.cb i rfl rfl d n;rw[e]at j;have k:E6 (D9 w (nB gb vx vy Z)) (D9 g (nB gb () vy Z)):=M8 c (λb h=>.inl h) λb h=>by
  rcases h with h|h|h
  .exact .inl (.inl h)
  .exact fj h E7
  .exact .inl (.inr (.inr h))
 refine⟨g,m,t8.ext_of s.ext c λb a=>by subst a;exact s.ge,s.ge,j,B7.nil _ _ _,?_,λb a=>fj a E7,s.dy,s.dz,λb h=>(c.block b (s.lt (.inr (.inr (.inr h)))) (s.dz b h).1).trans (s.zk b h),eD7 s.sz c.size,A3 s.base k⟩;exact(s.oy.mod c λb a=>(s.dy b a).2.1).up k λb a=>G2 (.inr (.inr (.inl a)))
def BM.push(s:BM H w0 wz w Z gb TB TX TY cells vx vy xs ys){t e sz by_}(u:I4 P t TX sz by_=true)(z:A9.sz α=sz){x:Value}{y:α}(G:A9.enc (D9 w (nB gb vx vy Z)) x.cells.toList y)
  (E:xs.length+1<=1000000000000) (hb:(xs.length+1)*by_<=140737488355328) {ix} (r:ix<(cells vx).size) (n:∀v a,(cells v).setIfInBounds ix a=cells a) {p:TypeInfo} (m:P.info? t=some p) (F:p.size=1) :
  (Instr.buildSlice t 1 #[(0,x)]).run P w = .ok (.slice (some ⟨w.heap.size,0,none⟩) 1 1) (w.alloc (.cells x.cells TX)) /\
  ∃a f c,(Builtin.append_ #[t,t] e #[vx,.slice (some ⟨w.heap.size,0,none⟩) 1 1]).run P (w.alloc (.cells x.cells TX)) = .ok a f/\(Instr.storeAt t (.pointer (some ⟨gb,ix,none⟩)) a).run P f = .ok () c /\
   BM H w0 wz c Z gb TB TX TY cells a vy (xs++[y]) ys/\t8 (B0 vx) w f:=by
 obtain⟨I,a,f,J,B,i,C⟩:=Go.Proofs.YtpebpfiglfmegaaGreat.push (P:=P) (e:=e) u z s.ox G E hb (B6 _ _);have q:f.heap[gb]?=some (.cells (cells vx) TB (0,0)):=(i.block gb (eD5.1 s.cb).1 λh=>(s.dx gb h).2.1 rfl).trans s.cb;obtain⟨c,D,g,l⟩:=ai1 (P:=P) (t:=t) (x:=a) q r (G3 B.isS) (aa9 B.isS) m F;rw[n]at g;have A:o6 w0 f:=t8.ext_of s.ext i λb hb=>(s.dx b hb).1;have j:E6 (D9 w (nB gb vx vy Z)) (D9 f (nB gb a vy Z)):=M8 i (λb h=>.inr (.inl h)) λb h=>by
  rcases h with h|h|h
  .exact .inl (.inl h)
  .rcases C b h with h|h
   .exact .inl (.inr (.inl h))
   .exact .inr h
  .exact .inl (.inr (.inr h))
 have k:E6 (D9 f (nB gb a vy Z)) (D9 c (nB gb a vy Z)):=M8 l (λb h=>.inl h) λb h=>.inl h;have d:=λb (h:nB gb vx vy Z b)=>s.lt h;have o:∀b,B0 a b->w0.heap.size<=b/\b≠gb/\¬B0 vy b/\¬Z b:=λb hb=>by
  rcases C b hb with h|h
  .exact s.dx b h
  .refine⟨eD7 s.ext.size h,λe=>?_,λg=>?_,λg=>?_⟩
   .have:=d b (.inl e);omega
   .have:=d b (.inr (.inr (.inl g)));omega
   .have:=d b (.inr (.inr (.inr g)));omega
 refine⟨I,a,f,c,J,D,⟨t8.ext_of A l λb hb=>by subst hb;exact s.ge,s.ge,g,?_,?_,o,s.dy,s.dz,λb h=>?_,eD7 s.sz (eD7 i.size l.size),A3 s.base (A3 j k)⟩,i⟩
 .exact(B.mod l λb hb=>(o b hb).2.1).up (A3 j k) λb hb=>G2 (.inr (.inl hb))
 .exact((s.oy.mod i λb hb h=>(s.dx b h).2.2.1 hb).mod l λb hb=>(s.dy b hb).2.1).up (A3 j k) λb hb=>G2 (.inr (.inr (.inl hb)))
 .have hb:=d b (.inr (.inr (.inr h)));exact(l.block b (eK3 hb i.size) (s.dz b h).1).trans ((i.block b hb λg=>(s.dx b g).2.2.2 h).trans (s.zk b h))
def BM.set(s:BM H w0 wz w Z gb TB TX TY cells vx vy xs ys)(o:A9.sz β=1){k}(j:k<ys.length){u:Value}{y:β}(n:A9.enc (D9 w (nB gb vx vy Z)) [u] y)(m:u.cells=#[u]){t}{e:TypeInfo}(d:P.info? t=some e)(l:e.size=1):
  ∃f,(Instr.storeAt t (I2 vy k) u).run P w = .ok () f/\BM H w0 wz f Z gb TB TX TY cells vx vy xs (ys.set k y):=by
 obtain⟨f,p,q,c,_⟩:=G4 (P:=P) (t:=t) s.oy o j (x:=u) n m d l;have g:E6 (D9 w (nB gb vx vy Z)) (D9 f (nB gb vx vy Z)):=M8 c (λb h=>.inr (.inr (.inl h))) λb h=>.inl h;refine⟨f,p,t8.ext_of s.ext c λb a=>(s.dy b a).1,s.ge,(c.block gb (eD5.1 s.cb).1 λh=>(s.dy gb h).2.1 rfl).trans s.cb,?_,?_,s.dx,s.dy,s.dz,λb h=>(c.block b (s.lt (.inr (.inr (.inr h)))) λi=>(s.dy b i).2.2 h).trans (s.zk b h),eD7 s.sz c.size,A3 s.base g⟩
 .exact(s.ox.mod c λb a h=>(s.dx b a).2.2.1 h).up g λb a=>G2 (.inr (.inl a))
 .exact q.up g λb a=>G2 (.inr (.inr (.inl a)))
def BM.rx(s:BM H w0 wz w Z gb TB TX TY cells vx vy xs ys):R (n8 w) vx xs:=s.ox.rw_ (B6 _ _)
def BM.ry(s:BM H w0 wz w Z gb TB TX TY cells vx vy xs ys):R (n8 w) vy ys:=s.oy.rw_ (B6 _ _)
def BM.hb(s:BM H w0 wz w Z gb TB TX TY cells vx vy xs ys):E6 H (n8 w):=A3 s.base (B6 _ _)
end
def ce6{α:Type}[A9 α]{h k}:∀{n:Nat} {b:List Value},V4 h b (replicate n ([]:List α))->V4 k b (replicate n ([]:List α))
 | 0,_,e=>e
 | n+1,b,⟨c1,c2,e,h1,h2⟩=>⟨c1,c2,e,by
   obtain⟨a,m,c,i,l,o,f,d,p⟩:=h1;refine⟨a,m,c,i,l,o,f,d,λj v g=>?_⟩;have:f=[]:=d;rw[this]at g;simp at g,ce6 h2⟩
def B7.renil{α:Type}[A9 α]{h k}{w e:World}{T v n}(m:B7 h w T v (replicate n ([]:List α)))(l:∀b,B0 v b->k b=none)(hw:∀b,B0 v b->e.heap[b]?=w.heap[b]?):B7 k e T v (replicate n ([]:List α)):=by
 rcases m with⟨rfl,d⟩|⟨b,c,a,rfl,o,d,f,g,i,j⟩
 .exact .inl ⟨rfl,d⟩
 .exact .inr ⟨b,c,a,rfl,l b rfl,(hw b rfl).trans d,f,g,i,ce6 j⟩
def bd2{n B}{X:Rws}(h:T7 n B X)(i):(J8 X i).length<=B:=by
 unfold J8;rw[getD];cases hx:X[i.toNat]? with
 | none=>simp
 | some r=>exact h.few r (eF7 hx)
def bf2{p}(hm:O1 p=true){n}{X:Rws}(h:T7 n 25 X){s:St}(d:s.kind=4->at9 p s=true):(aq5 p X s).length<=100:=by
 unfold aq5;split
 .simp
 split
 .simp
 split
 .simp
 split
 .rename_i b;obtain⟨k,a⟩:=aa7 (d b);have e:=R9 hm a.lt;have f:=a.len;unfold aE2;rw[a.fn];have g:=bd2 h (ac3 p.procs s.proc);have c:=eG0 (λx:Ar×Pa=>x.1.ref&&(J8 X (ac3 p.procs s.proc)).contains x.2.name) (s.args.zip (p.procs[k]'a.lt).params);rw[length_zip]at c;have i:=eG0 (W1 p) (J8 X (ac3 p.procs s.proc));have j:(if s.name=e0 then([]:List B9)else[s.name]).length<=1:=by split<;>simp
  simp only[eD4,eE3];omega
 .simp
def bE6{p n}{X:Rws}(h:T7 n 25 X){s:St}(hw:Z6 s<=1000000):(aE0 p X s).length<=2000000:=by
 rw[aa0]at hw;have a:=aj7 s.x;have b:=U9 s.args;have c:=bd2 h (ac3 p.procs s.proc);unfold aE0;simp only[eD4];have d:(if s.kind=2 then[am1]else[]).length<=1:=by split<;>simp
 have e:(if s.kind=4 then s.args.flatMap P2++J8 X (ac3 p.procs s.proc)else[]).length<=ao2 s.args+25:=by
  split
  .rw[eD4];omega
  .simp
 omega
def bw5{l:List It}{f:It->List B9}{B}(c:∀it∈l,(f it).length<=B):T7 l.length B (l.map λit=>G0 (f it)):=by
 refine⟨dG,λr b=>?_,λr b=>?_⟩
 .obtain⟨it,_,rfl⟩:=eF2.1 b;exact ab4 _
 .obtain⟨it,a,rfl⟩:=eF2.1 b;exact eD7 (aL8 _) (c it a)
def bm9(new old:Rws)(i:Nat):Rws:=new.take i++old.drop i
section
variable {new old:Rws} {n i:Nat}
def cq1(a:new.length=n)(b:old.length=n):(bm9 new old i).length=n:=by
 unfold bm9;rw[eD4,eE5,eK0];omega
def cD7:bm9 new old 0=old:=by simp[bm9]
def da6(a:new.length=n)(b:old.length=n):bm9 new old n=new:=by
 unfold bm9;rw[eI0 om,drop_eq_nil_of_le om,eG5]
def da7(a:new.length=n)(b:i<n):(bm9 new old i)[i]?=old[i]?:=by
 unfold bm9;rw[eI8 (by rw[eE5];omega),eE5,eN3]
 congr 1;omega
def da8(c:new.length=n)(d:old.length=n)(e:i<n){x:List B9}(b:new[i]?=some x):(bm9 new old i).set i x=bm9 new old (i+1):=by
 unfold bm9;have a:(new.take i).length=i:=by rw[eE5];omega
 rw[set_append_right _ _ om,a,Nat.sub_self,eI2 om,set_cons_zero,eQ5,b];simp
def dC2{B}(c:T7 n B new)(d:T7 n B old):T7 n B (bm9 new old i):=by
 have b:∀r∈bm9 new old i,r∈new\/r∈old:=λr a=>by
  rcases eE0.1 a with h|h
  .exact .inl (eL5 h)
  .exact .inr (eP5 h)
 exact⟨cq1 c.len d.len,λr a=>(b r a).elim (c.rise r) (d.rise r),λr a=>(b r a).elim (c.few r) (d.few r)⟩
end
def dc3:I4 prog 134 22 1 24=true:=kr
def ep9:I4 prog 133 160 1 8=true:=kr
def dt7(s vi a:Value)(d:s.cells=#[s])(b:vi.cells=#[vi])(c:a.cells=#[a]):D0 prog 136 [(0,s),(4,vi),(5,a)]=some (.agg #[s,(),(),(),vi,a]):=by
 simp[D0,ee2,M2,Instr.fill,d,b,c]
def SBs(d:Nat)(e c a:Value)(b:Nat):Prop:=b=d\/B0 e b\/B0 c b\/B0 a b
def ShS.lts{h w gb vg vp vL vLo vHi}{L:List It}{c a:List Int}(s:ShS h w gb vg vp vL vLo vHi L c a){b}(hb:SBs gb vL vLo vHi b):b<w.heap.size:=by
 rcases hb with rfl|hb|hb|hb
 .exact s.lt
 .exact s.oL.lt hb
 .exact s.oLo.lt hb
 .exact s.oHi.lt hb
def bA0{k gb j cs T}{a:Nat×Nat}{u}(c:k gb=some (.cells cs T a))(b:cs[j]?=some u):P4 k ((⟨gb,0,none⟩:Addr).add j)=some u:=by
 rw[add_lit,eH5];unfold P4;rw[c];simpa using b
def ShS.atK{h k w gb vg vp vL vLo vHi}{L:List It}{e d:List Int}{p:Pg}(s:ShS h w gb vg vp vL vLo vHi L e d)(c:E6 h k)(a:∀b,SBs gb vL vLo vHi b->k b=w.heap[b]?)(f:R h vg p.globals)(i:R h vp p.procs):At k ⟨gb,0,none⟩ (⟨p,L,e,d⟩:Sh):=by
 refine⟨[vg,vp,vL,vLo,vHi],⟨[vg,vp],vL,vLo,vHi,rfl,⟨vg,vp,rfl,A9.mono c f,A9.mono c i⟩,s.oL.ro c λb h=>a b (.inr (.inl h)),s.oLo.ro c λb h=>a b (.inr (.inr (.inl h))),s.oHi.ro c λb h=>a b (.inr (.inr (.inr h)))⟩,λj u g=>?_⟩;exact bA0 ((a gb (.inl rfl)).trans s.cell) (by simpa using g)
def eg4{k gb sh}{wy:Wy}{vr vl}(a:k gb=some (.cells #[sh,wy.proc,wy.n,vr,vl] 224 (0,0)))(e:At k sh wy.s)(d:R k vr wy.real)(c:R k vl wy.live):At k ⟨gb,0,none⟩ wy:=
 ⟨[sh,wy.proc,wy.n,vr,vl],⟨_,_,_,rfl,e.ptr,d,c⟩,λj u b=>bA0 a (by simpa using b)⟩
def BM.freshN{α β:Type}[A9 α][A9 β]{H w0 wz w}{Z:Nat->Prop}{gb TB TX TY}{a:Value->Array Value}{vx vy}{xs:List α}{ys:List β}(s:BM H w0 wz w Z gb TB TX TY a vx vy xs ys){c:Type}[A9 c][A0 c]{w' T u}{l:List c}(d:B7 (n8 w) w' T u l):R (D9 w' (nB gb vx vy Z)) u l:=
 d.flatRN λb e=>E9 λh=>by
  have f:=s.lt h;have g:=D4 (d.free e);omega
def do3(p):i5 p=⟨p,(i5 p).l,(i5 p).lo,(i5 p).hi⟩:=by
 have:=K0 p;cases hq:i5 p;rw[hq]at this;simp only at this;rw[this]
structure NI (wd w:World) (p:Pg) (us vi vo:Value):Prop where
 sh:∃gs vg vp vL vLo vHi,us = .pointer (some ⟨gs,0,none⟩)/\ShS (n8 wd) w gs vg vp vL vLo vHi (i5 p).l (i5 p).lo (i5 p).hi/\R (n8 wd) vg p.globals/\R (n8 wd) vp p.procs/\∀b,SBs gs vL vLo vHi b->wd.heap.size<=b/\¬B0 vi b/\¬B0 vo b
 oi:B7 (n8 wd) w 22 vi (replicate p.procs.length ([]:List B9))
 oo:B7 (n8 wd) w 22 vo (replicate p.procs.length ([]:List B9))
 gi:∀b,B0 vi b->wd.heap.size<=b/\¬B0 vo b
 go:∀b,B0 vo b->wd.heap.size<=b
 ext:o6 wd w
def NI.mk'{wd w p gs vg vp vL vLo vHi vi vo}(s1 e1 s2 e2 s3 e3)(i:ShS (n8 wd) w gs vg vp vL vLo vHi (i5 p).l (i5 p).lo (i5 p).hi)(m:R (n8 wd) vg p.globals)(n:R (n8 wd) vp p.procs)
  (c:∀b,SBs gs vL vLo vHi b->s1<=b/\b<e1) (d:∀b,B0 vi b->s2<=b/\b<e2) (e:∀b,B0 vo b->s3<=b/\b<e3) (j:e1<=s2\/e2<=s1) (k:e1<=s3\/e3<=s1) (l:e2<=s3\/e3<=s2) (q:wd.heap.size<=s1/\wd.heap.size<=s2/\wd.heap.size<=s3)
  (f:B7 (n8 wd) w 22 vi (replicate p.procs.length ([]:List B9))) (g:B7 (n8 wd) w 22 vo (replicate p.procs.length ([]:List B9))) (o:o6 wd w):NI wd w p (.pointer (some ⟨gs,0,none⟩)) vi vo:=by
 refine⟨⟨gs,vg,vp,vL,vLo,vHi,rfl,i,m,n,λb a=>⟨?_,λh=>?_,λh=>?_⟩⟩,f,g,λb a=>⟨?_,λh=>?_⟩,λb a=>?_,o⟩
 .have:=c b a;omega
 .have:=c b a;have:=d b h;omega
 .have:=c b a;have:=e b h;omega
 .have:=d b a;omega
 .have:=d b a;have:=e b h;omega
 .have:=e b a;omega
def cR4{p}(hm:O1 p=true){D:Rws}(b:T7 (i5 p).l.length 100 D)(a:(i5 p).l.length<=200)(i)(hw:C1 p<=1000000)(f:i<p.procs.length):(an2 p D i).length<=20000:=by
 have e:an2 p D i=((i5 p).of i).flatMap λit=>if(F7 (i5 p) i).lives it.s.id then(J8 D (it.s.id-1)).filter (ak1 p i)else[]:=by
  unfold an2;rw[bA9]
 rw[e];have c:=U3 (λit:It=>if(F7 (i5 p) i).lives it.s.id then(J8 D (it.s.id-1)).filter (ak1 p i)else[]) 100 ((i5 p).of i) λit _=>by
  split
  .exact eD7 (eG0 _ _) (bd2 b _)
  .simp
 have d:((i5 p).of i).length<=200:=by
  unfold Sh.of;rw[eK0,eE5];omega
 omega
def dk7{p}(hm:O1 p=true)(O U D:Rws)(i):(aW3 p O U D i).length<=17:=by
 unfold aW3;apply eD7 (eG0 _ _);have:=(R0 hm).1;rw[eD4,eG3];omega
def cQ9{p}(c:E3 p)(hw:C1 p<=1000000)(i)(b:i<p.procs.length):OkR (F7 (i5 p) i).net/\(F7 (i5 p) i).net.length=(F7 (i5 p) i).n.toNat/\0<(F7 (i5 p) i).n:=by
 obtain⟨x,d⟩:=K1 c.may hw i b;have a:=V3 d;obtain⟨e,f,_⟩:=dC6 c hw b a;have g:=a.n;have:=d.ok.le;exact⟨e,f,om⟩
def dV6{w:World}{gb gs vw vd vu vi vo}{b:Bk}(h:w.heap[gb]?=some (.cells #[gs,vw,vd,vu,vi,vo] 136 (0,0)))(a:At (n8 w) gs b.s)(c:R (n8 w) vw b.wp)(d:R (n8 w) vd b.defs)(e:R (n8 w) vu b.uses)(f:R (n8 w) vi b.ins)(g:R (n8 w) vo b.outs):At (n8 w) ⟨gb,0,none⟩ b:=
 ⟨[gs,vw,vd,vu,vi,vo],⟨_,_,_,_,_,_,rfl,a.ptr,c,d,e,f,g⟩,λj u i=>bA0 h (by simpa using i)⟩
def cW0(v p w)(hv:SV (n8 w) v p)(hw:C1 p<=1000000):
  p7 prog 83 #[v] w λu A=>((C8 p=false->u = .pointer none)/\(C8 p=true->∃ad,u = .pointer (some ad)/\At (n8 A) ad (b9 p))/\o6 w A):=by
 apply y5 [v] func83 rfl;obtain⟨c,w1,dZ,du,cp⟩:=L3 hv (n7 _);obtain⟨sp,dq,dB,dF⟩:=cp.pg_v;obtain⟨eM,eN,er,cv,cQ,ec⟩:=cp.pg;have l1:=dB w1 (n7 _);simp only[eF,simprocAttr,dZ,l1];refine B3 (ak3 sp p w1 dq hw) (λG dv=>?_);rcases eD2 (C8 p)with hR|hR;rotate_left
 .simp only[eF,simprocAttr,hR];exact o8 results83 ⟨λ_=>rfl,λh=>(by cases h),du.trans dv⟩
 have hr:=D6 hR;obtain⟨eo,eq⟩:=R0 hr.may;have W:=dv.trans (o6.drew G);have a7:=cv.isS;have bf:=cv.vlen;have t1:=dF (o6 G.drew) G.drew (t8.refl _) λA h=>b7 (W.trans h);have t2:=ec (o6 G.drew) G.drew (t8.refl _) λA h=>b7 (W.trans h);have aL:=dq.mono (b7 W);have hz:A9.enc (n8 G.drew) (Value.slice none 0 0).cells.toList ([]:List B9):=aX5 _;have aP:=λ(wa:World) (ha:o6 G.drew wa)=>mk (P:=prog) (w:=wa) (h:=n8 G.drew) (α:=List B9) dc3 cI7 (y:=[]) hz (n:=p.procs.length) om om (b7 ha);simp only[eF,simprocAttr,hR];refine bj3 [1] (o6 G.drew) 10 (.op 0 (.op 2 (.op 3 (.op 4 (.op 6 (.op 7 (.op 8 (.fork [1,5,9] (λi=>if i=1 then(.fork [5,9] (λi=>if i=5 then(A8 [9])else(A8 [5])))else if i=5 then(.fork [1,9] (λi=>if i=1 then(A8 [9])else(A8 [1])))else(.fork [1,5] (λi=>if i=1 then(A8 [5])else(A8 [1]))))))))))))
  (λf' A=>NI G.drew A p (f' 19) (f' 23) (f' 27)) (by decide +kernel) (by decide +kernel) (t8.refl _) ?_ ?_
 .simp only[D7,A8,i4,n9,simprocAttr,t1,t2,a7,bf];refine X2 (by decide +kernel) (λi hi=>?_);simp only[eF0,eH6,eM0]at hi;rcases hi with rfl|rfl|rfl
  .simp only[eY,simprocAttr];apply z6 (ap9 (n8 G.drew) sp p G.drew aL (n7 _) hw);rintro _ wA ⟨Q,vg,vp,vL,ax,aw,rfl,J,hg,ah,F,aC,g⟩;refine⟨g,?_⟩;have au:∀b,SBs Q vL ax aw b->G.drew.heap.size<=b/\b<wA.heap.size:=λb a=>⟨by rcases a with rfl|a;exact F;exact aC b a,J.lts a⟩;obtain⟨va,wB,m1,o1,E,f1,_⟩:=aP wA g;obtain⟨vb,wC,m2,o2,S,f2,_⟩:=aP wB (g.trans E);have dp:=(J.ext E).ext S;refine X2 (by decide +kernel) (λi hi=>?_);simp only[eF0,eH6,eM0]at hi;rcases hi with rfl|rfl
   .simp only[eY,simprocAttr,m1,m2,F2];exact⟨g.trans E,(g.trans E).trans S,NI.mk' _ _ wA.heap.size wB.heap.size wB.heap.size wC.heap.size dp hg ah au (λb a=>⟨f1 b a,o1.lt a⟩) (λb a=>⟨f2 b a,o2.lt a⟩) (.inl (eE8 _)) (.inl E.size) (.inl (eE8 _)) ⟨eE8 _,g.size,eD7 g.size E.size⟩ (o1.ext S) o2 ((g.trans E).trans S)⟩
   .simp only[eY,simprocAttr,m1,m2,F2];exact⟨g.trans E,(g.trans E).trans S,NI.mk' _ _ wB.heap.size wC.heap.size wA.heap.size wB.heap.size dp hg ah au (λb a=>⟨f2 b a,o2.lt a⟩) (λb a=>⟨f1 b a,o1.lt a⟩) (.inl E.size) (.inl (eE8 _)) (.inr (eE8 _)) ⟨eE8 _,eD7 g.size E.size,g.size⟩ o2 (o1.ext S) ((g.trans E).trans S)⟩
  .obtain⟨va,wB,m1,o1,E,f1,_⟩:=aP G.drew (t8.refl _);simp only[eY,simprocAttr,m1,F2];refine⟨E,?_⟩;refine X2 (by decide +kernel) (λi hi=>?_);simp only[eF0,eH6,eM0]at hi;rcases hi with rfl|rfl
   .simp only[eY,simprocAttr];apply z6 (ap9 (n8 G.drew) sp p wB aL (b7 E) hw);rintro _ wA ⟨Q,vg,vp,vL,ax,aw,rfl,J,hg,ah,F,aC,g⟩;have au:∀b,SBs Q vL ax aw b->wB.heap.size<=b/\b<wA.heap.size:=λb a=>⟨by rcases a with rfl|a;exact F;exact aC b a,J.lts a⟩;obtain⟨vb,wC,m2,o2,S,f2,_⟩:=aP wA (E.trans g);refine⟨E.trans g,?_⟩;simp only[eY,simprocAttr,m2,F2];exact⟨(E.trans g).trans S,NI.mk' _ _ G.drew.heap.size wB.heap.size wA.heap.size wC.heap.size (J.ext S) hg ah au (λb a=>⟨f1 b a,o1.lt a⟩) (λb a=>⟨f2 b a,o2.lt a⟩) (.inr (eE8 _)) (.inl (eE8 _)) (.inl g.size) ⟨E.size,eE8 _,eD7 E.size g.size⟩ ((o1.ext g).ext S) o2 ((E.trans g).trans S)⟩
   .obtain⟨vb,wC,m2,o2,S,f2,_⟩:=aP wB E;simp only[eY,simprocAttr,m2,F2];refine⟨E.trans S,?_⟩;apply z6 (ap9 (n8 G.drew) sp p wC aL (b7 (E.trans S)) hw);rintro _ wA ⟨Q,vg,vp,vL,ax,aw,rfl,J,hg,ah,F,aC,g⟩;have au:∀b,SBs Q vL ax aw b->wC.heap.size<=b/\b<wA.heap.size:=λb a=>⟨by rcases a with rfl|a;exact F;exact aC b a,J.lts a⟩;refine⟨(E.trans S).trans g,?_⟩;simp only[eY,simprocAttr];exact NI.mk' _ _ G.drew.heap.size wB.heap.size wB.heap.size wC.heap.size J hg ah au (λb a=>⟨f1 b a,o1.lt a⟩) (λb a=>⟨f2 b a,o2.lt a⟩) (.inr S.size) (.inr (eE8 _)) (.inl (eE8 _)) ⟨(E.trans S).size,eE8 _,E.size⟩ ((o1.ext S).ext g) (o2.ext g) ((E.trans S).trans g)
  .obtain⟨va,wB,m1,o1,E,f1,_⟩:=aP G.drew (t8.refl _);simp only[eY,simprocAttr,m1,F2];refine⟨E,?_⟩;refine X2 (by decide +kernel) (λi hi=>?_);simp only[eF0,eH6,eM0]at hi;rcases hi with rfl|rfl
   .simp only[eY,simprocAttr];apply z6 (ap9 (n8 G.drew) sp p wB aL (b7 E) hw);rintro _ wA ⟨Q,vg,vp,vL,ax,aw,rfl,J,hg,ah,F,aC,g⟩;have au:∀b,SBs Q vL ax aw b->wB.heap.size<=b/\b<wA.heap.size:=λb a=>⟨by rcases a with rfl|a;exact F;exact aC b a,J.lts a⟩;obtain⟨vb,wC,m2,o2,S,f2,_⟩:=aP wA (E.trans g);refine⟨E.trans g,?_⟩;simp only[eY,simprocAttr,m2,F2];exact⟨(E.trans g).trans S,NI.mk' _ _ wA.heap.size wC.heap.size G.drew.heap.size wB.heap.size (J.ext S) hg ah au (λb a=>⟨f2 b a,o2.lt a⟩) (λb a=>⟨f1 b a,o1.lt a⟩) (.inl (eE8 _)) (.inr (eE8 _)) (.inr g.size) ⟨E.size,eD7 E.size g.size,eE8 _⟩ o2 ((o1.ext g).ext S) ((E.trans g).trans S)⟩
   .obtain⟨vb,wC,m2,o2,S,f2,_⟩:=aP wB E;simp only[eY,simprocAttr,m2,F2];refine⟨E.trans S,?_⟩;apply z6 (ap9 (n8 G.drew) sp p wC aL (b7 (E.trans S)) hw);rintro _ wA ⟨Q,vg,vp,vL,ax,aw,rfl,J,hg,ah,F,aC,g⟩;have au:∀b,SBs Q vL ax aw b->wC.heap.size<=b/\b<wA.heap.size:=λb a=>⟨by rcases a with rfl|a;exact F;exact aC b a,J.lts a⟩;refine⟨(E.trans S).trans g,?_⟩;simp only[eY,simprocAttr];exact NI.mk' _ _ wB.heap.size wC.heap.size G.drew.heap.size wB.heap.size J hg ah au (λb a=>⟨f2 b a,o2.lt a⟩) (λb a=>⟨f1 b a,o1.lt a⟩) (.inr (eE8 _)) (.inr S.size) (.inr (eE8 _)) ⟨(E.trans S).size,E.size,eE8 _⟩ (o2.ext g) ((o1.ext S).ext g) ((E.trans S).trans g)
 rintro f w3 hk dW;simp only[eF8,C9,simprocAttr]at hk;obtain⟨e1,_⟩:=hk;obtain⟨⟨Q,vg,vp,vL,ax,aw,dS,J,hg,ah,b8⟩,aZ,br,bG,b4,ca⟩:=dW;generalize dT:f 23=z at aZ br bG b4 b8;generalize dU:f 27=C at aZ br bG b4 b8;obtain⟨r,w4,dh,a1,d0,di⟩:∃r w4,(Instr.box 136 (.agg #[.pointer (some ⟨Q,0,none⟩),(),(),(),z,C])).run prog w3 = .ok (.pointer (some ⟨r,0,none⟩)) w4/\o6 w3 w4/\w4.heap[r]?=some (.cells #[.pointer (some ⟨Q,0,none⟩),(),(),(),z,C] 136 (0,0))/\w3.heap.size<=r:=
  ⟨_,_,rfl,o6.alloc _ _,eH3 w3 _,eE8 _⟩
 have cJ:G.drew.heap.size<=r:=eD7 ca.size di;have bo:∀b,(B0 z b\/B0 C b)->G.drew.heap.size<=b/\b<w3.heap.size:=λb h=>by
  rcases h with h|h
  .exact⟨(bG b h).1,aZ.lt h⟩
  .exact⟨b4 b h,br.lt h⟩
 have db:∀b,nB r () () (λb=>B0 z b\/B0 C b) b->b=r\/B0 z b\/B0 C b:=λb h=>by
  rcases h with h|h|h|h
  .exact .inl h
  .exact fj h E7
  .exact fj h E7
  .exact .inr h
 have bA:At (D9 w4 (nB r () () (λb=>B0 z b\/B0 C b))) ⟨Q,0,none⟩ (i5 p):=by
  rw[do3];refine(J.ext a1).atK (bf7 (ca.trans a1) λb a=>?_) (λb a=>E9 λh=>?_) hg ah
  .rcases db b a with h|h
   .omega
   .exact(bo b h).1
  .rcases db b h with h|h|h
   .have:=J.lts a;omega
   .exact(b8 b a).2.1 h
   .exact(b8 b a).2.2 h
 have c7:BM (α:=Ptr Wy) (β:=List B9) (D9 w4 (nB r () () (λb=>B0 z b\/B0 C b))) G.drew w4 w4 (λb=>B0 z b\/B0 C b) r 136 160 22 (λv=>#[.pointer (some ⟨Q,0,none⟩),v,(),(),z,C]) () () [] []:=
  ⟨ca.trans a1,cJ,d0,B7.nil _ _ _,B7.nil _ _ _,λb h=>fj h E7,λb h=>fj h E7,λb h=>⟨by have:=(bo b h).2;omega,eK3 (bo b h).2 a1.size⟩,λ_ _=>rfl,eE8 _,n7 _⟩
 have dw:=W.trans (ca.trans a1);have eb:=cQ w4 (b7 dw);obtain⟨iw,d2,dj⟩:=ay1 (P:=prog) eg0 ef5;obtain⟨il,b6,bd⟩:=ay1 (P:=prog) eg1 ef6;obtain⟨iS,b5,bc⟩:=ay1 (P:=prog) cI7 dI2;have dX:=aZ.isS;have dY:=br.isS;simp only[fe,simprocAttr,dS,dT,dU,dt7 (.pointer (some ⟨Q,0,none⟩)) z C rfl (G3 dX) (G3 dY),dh,e1,eb,a7,bf];refine E4 [1,3,32] (σ:=Nat×Value) (λs f A=>f 33=s.1/\s.1<=p.procs.length/\BM (α:=Ptr Wy) (β:=List B9) (D9 w4 (nB r () () (λb=>B0 z b\/B0 C b))) G.drew w4 A (λb=>B0 z b\/B0 C b) r 136 160 22 (λv=>#[.pointer (some ⟨Q,0,none⟩),v,(),(),z,C]) s.2 () (((M3 p).take s.1).map λw=>⟨w⟩) []) (λs=>p.procs.length-s.1) (0,()) ?_ ?_
 .exact⟨rfl,eE2 _,by simpa using c7⟩
 clear c7;rintro⟨k,vx⟩ f5 w5 hk ⟨bY,d3,s5⟩;simp only at bY d3 s5;simp only[eF8,C9,simprocAttr]at hk;obtain⟨g1,g3,dQ,_⟩:=hk;rw[e1]at g1;simp only[eF,simprocAttr,bY,dQ];refine B2 (λhc=>?_) (λhc=>?_)
 .have o:k<p.procs.length:=by simpa using hc
  obtain⟨x,pt⟩:=K1 hr.may hw k o;have d8:(M3 p).length=p.procs.length:=by unfold M3;simp
  have aF:((M3 p).take (k+1)).map (λw=>(⟨w⟩:Ptr Wy))=((M3 p).take k).map (λw=>(⟨w⟩:Ptr Wy))++[⟨F7 (i5 p) k⟩]:=by
   rw[eQ5,ab7 o,eG8];rfl
  have sd:=s5.more (o6.drew w5);have bp:∀A,t8 (B0 vx) w5.drew A->A.heap[r]?=some (.cells #[.pointer (some ⟨Q,0,none⟩),vx,(),(),z,C] 136 (0,0)):=λA hm=>(hm.block r (eD5.1 sd.cb).1 λh=>(sd.dx r h).2.1 rfl).trans sd.cb;have k0:J4 prog (λA=>t8 (B0 vx) w5.drew A) 132 ⟨r,0,none⟩ (.pointer (some ⟨Q,0,none⟩)):=sdx λA h=>F9 (i:=0) (bp A h) rfl bY1;have k1:J4 prog (λA=>t8 (B0 vx) w5.drew A) 133 ⟨r,1,none⟩ vx:=sdx λA h=>F9 (i:=1) (bp A h) rfl dG6;simp only[i4,simprocAttr,bY];refine C4 (t8 (B0 vx) w5.drew) 13 (A8 [0,1,2,3,4,5,6,7,8,9,10,11,12]) ?_;simp only[D7,A8,i4,n9,simprocAttr,g3,k0,k1];refine z6 (cV5 ⟨Q,0,none⟩ p k x _ w5.drew (bA.mono sd.hb) hr hw o pt) ?_;rintro _ w6 ⟨gw,vr,vl,rfl,d1,ep,d6,d5,cb⟩;refine⟨t8.up cb,?_⟩;have s6:=sd.more cb;have d4:¬nB r vx () (λb=>B0 z b\/B0 C b) gw:=λh=>by have:=sd.lt h;omega
  have dg:At (D9 w6 (nB r vx () (λb=>B0 z b\/B0 C b))) ⟨gw,0,none⟩ (F7 (i5 p) k):=eg4 (wy:=F7 (i5 p) k) ((E9 d4).trans d1) (bA.mono s6.base) (sd.freshN d6) (sd.fresh d5);obtain⟨p1,ef,w7,w8,p2,p3,N,p4⟩:=s6.push (P:=prog) (e:=133) ep9 rfl (x:=.pointer (some ⟨gw,0,none⟩)) (y:=(⟨F7 (i5 p) k⟩:Ptr Wy)) dg.ptr (by rw[eE3,eE5];omega) (by rw[eE3,eE5];omega) (ix:=1) dG (λv v'=>dG) d2 dj;simp only[Value.cells]at p1 p2;simp only[fe,simprocAttr,p1,p2,F2];refine⟨(t8.up cb).trans (t8.up (o6.alloc _ _)),(t8.up cb).trans p4,?_⟩;simp only[eF,simprocAttr,bY,p3];refine⟨(k+1,ef),om,eE9 _ (I9 k om),om,?_⟩;simp only[];rw[aF];exact N
 have F:k=p.procs.length:=by simp at hc;omega
 subst F;have d8:(M3 p).length=p.procs.length:=by unfold M3;simp
 rw[eI0 om]at s5;have dc:∀b,nB r () C (B0 z) b->nB r vx () (λb=>B0 z b\/B0 C b) b:=λb h=>by
  rcases h with h|h|h|h
  .exact .inl h
  .exact fj h E7
  .exact .inr (.inr (.inr (.inr h)))
  .exact .inr (.inr (.inr (.inl h)))
 have cr:E6 (D9 w5 (nB r vx () (λb=>B0 z b\/B0 C b))) (D9 w5 (nB r () C (B0 z))):=M8 (M:=λ_=>False) (t8.refl w5) (λ_ h=>h.elim) λb h=>.inl (dc b h);have aS:=(bA.mono s5.base).mono cr;have cw:R (D9 w5 (nB r () C (B0 z))) vx ((M3 p).map λw=>(⟨w⟩:Ptr Wy)):=s5.ox.ro cr λb a=>E9 λh=>by
  have hd:=s5.dx b a;rcases h with h|h|h|h
  .exact hd.2.1 h
  .exact E7 h
  .exact hd.2.2.2 (.inr h)
  .exact hd.2.2.2 (.inl h)
 have dn:B7 (D9 w5 (nB r () C (B0 z))) w5 22 C (replicate p.procs.length ([]:List B9)):=br.renil (λb a=>G2 (.inr (.inr (.inl a)))) λb a=>(s5.zk b (.inr a)).trans (a1.block b (br.lt a) id);have cu:∀b,B0 z b->w5.heap[b]?=w3.heap[b]?:=λb a=>(s5.zk b (.inl a)).trans (a1.block b (aZ.lt a) id);have c8:BM (α:=List B9) (β:=List B9) (D9 w5 (nB r () C (B0 z))) G.drew w5 w5 (B0 z) r 136 22 22 (λv=>#[.pointer (some ⟨Q,0,none⟩),vx,v,(),z,C]) () C [] (replicate p.procs.length []):=
  ⟨s5.ext,cJ,s5.cb,B7.nil _ _ _,dn,λb h=>fj h E7,λb a=>⟨b4 b a,by have:=(bo b (.inr a)).2;omega,λh=>(bG b h).2 a⟩,λb a=>⟨by have:=(bo b (.inl a)).2;omega,s5.lt (.inr (.inr (.inr (.inl a))))⟩,λ_ _=>rfl,eE8 _,n7 _⟩
 have d7:∀A,(∀b,B0 z b->A.heap[b]?=w5.heap[b]?)->R (n8 A) z (replicate p.procs.length ([]:List B9)):=λA h=>(aZ.renil (k:=λ_=>none) (λ_ _=>rfl) λb a=>(h b a).trans (cu b a)).rw_ λ_ _ h=>by cases h
 clear s5;have cq:∀(A:World) (vd:Value) (xs ys:Rws),BM (α:=List B9) (β:=List B9) (D9 w5 (nB r () C (B0 z))) G.drew w5 A (B0 z) r 136 22 22 (λv=>#[.pointer (some ⟨Q,0,none⟩),vx,v,(),z,C]) vd C xs ys->At (n8 A) ⟨r,0,none⟩ (⟨i5 p,M3 p,xs,[],replicate p.procs.length [],ys⟩:Bk):=λA vd xs ys s=>dV6 s.cb (aS.mono s.hb) (A9.mono s.hb cw) s.rx (aX5 _) (d7 A s.zk) s.ry;obtain⟨_,_,_,bg,_,_,_,dz,_⟩:=aS.sh;have c6:=I3 hr.may;have bJ:=ah2 p hw;have bx:aV9 (J0 p) p.procs.length 25:=bn1 hr.may;simp only[i4,simprocAttr];refine E4 [1,3] (σ:=(Value×Nat)×(Bool×Rws)) (λs f A=>f 5=s.2.1/\BM (α:=List B9) (β:=List B9) (D9 w5 (nB r () C (B0 z))) G.drew w5 A (B0 z) r 136 22 22 (λv=>#[.pointer (some ⟨Q,0,none⟩),vx,v,(),z,C]) s.1.1 C s.2.2 (I1 (J0 p) s.1.2 (replicate p.procs.length []))/\s.1.2<=aQ4 (I1 (J0 p) s.1.2 (replicate p.procs.length []))/\(s.2.1=false->J0 p (I1 (J0 p) s.1.2 (replicate p.procs.length []))=I1 (J0 p) s.1.2 (replicate p.procs.length [])/\s.2.2=M7 p (I1 (J0 p) s.1.2 (replicate p.procs.length [])))) (λs=>if s.2.1 then p.procs.length*25+2-aQ4 (I1 (J0 p) s.1.2 (replicate p.procs.length []))else 0) (((),0),(true,[])) ?_ ?_
 .exact⟨rfl,c8,eE2 _,λh=>by cases h⟩
 clear c8;rintro⟨⟨vx2,K2⟩,eG,eR⟩ ex H hk ⟨cs,X,cj,aB⟩;simp only at cs X cj aB;simp only[eF8,C9,simprocAttr]at hk;obtain⟨cC,bW,_⟩:=hk;rw[g1]at cC;rw[g3]at bW;have V:=bx.iter_ok K2;have I:=bx.ok (I1 (J0 p) K2 (replicate p.procs.length []));have a6:=bx.more K2;have em:=bx.bound K2;have cF:=bx.bound (K2+1);have aJ:=af6 (J0 p) K2 (replicate p.procs.length []);simp only[i4,simprocAttr,cs];refine B2 (λhc=>?_) (λhc=>?_)
 .subst hc;clear aB;generalize a9:I1 (J0 p) K2 (replicate p.procs.length [])=Y at *;generalize cl:J0 p Y=Q2 at *;obtain⟨cT,z2,ce⟩:=X.reset (P:=prog) (t:=134) (ix:=2) dG (λv v'=>dG) b6 bd;have dx:(Instr.loadAt 132 (.pointer (some ⟨r,0,none⟩))).run prog cT = .ok (.pointer (some ⟨Q,0,none⟩)) cT:=F9 (i:=0) ce.cb rfl bY1;have cx:=dz cT ce.hb;simp only[add_lit,eH5]at cx;have de:=bg.isS;have dk:=bg.vlen;simp only[eF,simprocAttr,bW,z2,dx,cx,de,dk];refine E4 [1,3,5,62,63] (σ:=Nat×Value) (λs f A=>f 64=s.1/\s.1<=(i5 p).l.length/\BM (α:=List B9) (β:=List B9) (D9 w5 (nB r () C (B0 z))) G.drew w5 A (B0 z) r 136 22 22 (λv=>#[.pointer (some ⟨Q,0,none⟩),vx,v,(),z,C]) s.2 C (((i5 p).l.take s.1).map λit=>G0 (aq5 p Y it.s)) Y) (λs=>(i5 p).l.length-s.1) (0,()) ?_ ?_
  .exact⟨rfl,eE2 _,ce⟩
  clear ce X;rintro⟨m,vd⟩ f7 w7 hk ⟨aE,bM,s7⟩;simp only at aE bM s7;simp only[eF8,C9,simprocAttr]at hk;obtain⟨b1,b3,bm,bl,bn,_⟩:=hk;rw[cC]at b1;rw[bW]at b3;simp only[eF,simprocAttr,aE,bn];refine B2 (λhc=>?_) (λhc=>?_)
  .have o:m<(i5 p).l.length:=by simpa using hc
   have cK:=bg.inS o;obtain⟨sv,a0,bK⟩:=G1 (P:=prog) (t:=156) bg (s7.hb) (eD1 o) ai4 ai5 ag5 M4;rw[M4]at bK;have aF:((i5 p).l.take (m+1)).map (λit=>G0 (aq5 p Y it.s))=((i5 p).l.take m).map (λit=>G0 (aq5 p Y it.s))++[G0 (aq5 p Y (i5 p).l[m].s)]:=by
    rw[eD9 o,eG8];rfl
   have ae:=hr.fits _ (eE1 o);have az:=bJ _ (eE1 o);have aW:((((i5 p).l.take m).map λit=>G0 (aq5 p Y it.s))).length<=200:=by rw[eE3,eE5];omega
   generalize(i5 p).l[m]=it at a0 aF ae az;generalize((i5 p).l.take m).map (λit=>G0 (aq5 p Y it.s))=xs at s7 aF aW;obtain⟨d,eh,w8,cI,cM,cP,bC⟩:=bi2 (w:=w7) (B0 vd) a0 (λb a=>s7.ox.lt a);obtain⟨us,bP,bD,_,_⟩:=L8.it a0 bC;have N:=(s7.more cP).more (o6.drew w8);have bp:∀A,t8 (B0 vd) w8.drew A->A.heap[r]?=some (.cells ((λv=>#[.pointer (some ⟨Q,0,none⟩),vx,v,(),z,C]) vd) 136 (0,0)):=λA hm=>(hm.block r (eD5.1 N.cb).1 λh=>(N.dx r h).2.1 rfl).trans N.cb;have k2:J4 prog (λA=>t8 (B0 vd) w8.drew A) 134 ⟨r,2,none⟩ vd:=sdx λA h=>F9 (i:=2) (bp A h) rfl aC8;have k3:=(L8.st_v bP bD).2 (t8 (B0 vd) w8.drew) w8.drew (t8.refl _) λA h=>F5 ((t8.up (M:=B0 vd) (o6.drew w8)).trans h);simp only[i4,n9,A6,simprocAttr,aE,bl,cK,bK,cI,cM];refine C4 (t8 (B0 vd) w8.drew) 12 (A8 [0,1,2,3,4,5,6,7,8,9,10,11]) ?_;simp only[D7,A8,i4,n9,simprocAttr,b3,k2,k3];refine z6 (dw4 ⟨r,0,none⟩ ⟨i5 p,M3 p,_,[],replicate p.procs.length [],_⟩ p us it.s w8.drew (cq _ _ _ _ N) ⟨rfl,V,bV6 _ _⟩ hr.may (bP.mono N.hb) az ae) ?_;rintro u9 w9 ⟨ao,aG⟩;refine⟨t8.up aG,?_⟩;simp only[eY,simprocAttr];apply z6 (ax7 ao (eD7 (bf2 hr.may V ae) dR));rintro aq O ⟨B,al,_⟩;have D:o6 w8.drew O:=ao.ext2 aG al;refine⟨t8.up D,?_⟩;have K:=N.more D;obtain⟨p1,cS,a5,bR,p2,p3,L,p4⟩:=K.push (P:=prog) (e:=134) dc3 rfl (x:=aq) (y:=G0 (aq5 p Y it.s)) (by rw[G3 B.isS];exact N.fresh B) om om (ix:=2) dG (λv v'=>dG) b6 bd;rw[G3 B.isS]at p1 p2;simp only[fe,simprocAttr,p1,p2,F2];refine⟨(t8.up D).trans (t8.up (o6.alloc _ _)),(t8.up D).trans p4,?_⟩;simp only[eF,simprocAttr,aE,p3];refine⟨(m+1,cS),om,eE9 _ (I9 m om),om,?_⟩;simp only[];rw[aF];exact L
  have F:m=(i5 p).l.length:=by simp at hc;omega
  subst F;rw[eE4]at s7;have bw:((i5 p).l.map λit=>G0 (aq5 p Y it.s))=M7 p Y:=rfl;rw[bw]at s7;have aH:T7 (i5 p).l.length 100 (M7 p Y):=bw5 λit bI=>bf2 hr.may V (hr.fits it bI);have cR:=cQ w7 (b7 (W.trans s7.ext));simp only[eF,simprocAttr,b1,cR,a7,bf];refine E4 [1,3,85] (σ:=Nat×Bool) (λs f A=>f 86=s.1/\s.1<=p.procs.length/\f 5=s.2/\BM (α:=List B9) (β:=List B9) (D9 w5 (nB r () C (B0 z))) G.drew w5 A (B0 z) r 136 22 22 (λv=>#[.pointer (some ⟨Q,0,none⟩),vx,v,(),z,C]) vd C (M7 p Y) (bm9 Q2 Y s.1)/\(s.2=false->Q2.take s.1=Y.take s.1)/\(s.2=true->Q2≠Y)) (λs=>p.procs.length-s.1) (0,false) ?_ ?_
  .exact⟨rfl,eE2 _,bm,by rw[cD7];exact s7,λ_=>dG,λh=>by cases h⟩
  clear s7;rintro⟨i,mo⟩ f8 w8 hk ⟨af,bH,an,N,aD,aY⟩;simp only at af bH an N aD aY;simp only[eF8,C9,simprocAttr]at hk;obtain⟨c1,c3,cn,_⟩:=hk;rw[b1]at c1;rw[b3]at c3;simp only[eF,simprocAttr,af,cn];refine B2 (λhc=>?_) (λhc=>?_);rotate_left
  .have F:i=p.procs.length:=by simp at hc;omega
   subst F;rw[da6 I.len V.len]at N;rw[eI0 (by rw[I.len];exact eE8 _),eI0 (by rw[V.len];exact eE8 _)]at aD;cases mo with
   | false=>
    have e:=aD rfl;simp only[i4,simprocAttr];refine⟨((vd,K2),(false,M7 p Y)),?_,an,?_,?_,λ_=>?_⟩
    .simp only[a9];simp;omega
    .simp only[a9];rw[e]at N;exact N
    .simp only[a9];exact cj
    .simp only[a9];exact⟨cl.trans e,trivial⟩
   | true=>
    have e:=aY rfl;have o:=a6 e;rw[aJ]at o cF;simp only[i4,simprocAttr];refine⟨((vd,K2+1),(true,M7 p Y)),?_,an,?_,?_,λh=>by cases h⟩
    .simp only[aJ];simp;omega
    .simp only[aJ];exact N
    .simp only[aJ];omega
  have o:i<p.procs.length:=by simpa using hc
  have ap:Q2[i]?=some (G0 (an2 p (M7 p Y) i)):=by
   rw[<-cl];unfold J0;rw[eH2,eM3 o];rfl
  have a2:Y[i]?=some (Y[i]'(by rw[V.len];exact o)):=eD1 _;have am:=da7 (old:=Y) I.len o;rw[a2]at am;have aX:=da8 I.len V.len o ap;have cL:=dC2 (i:=i) I V;have bM:=cq1 (i:=i) I.len V.len;have bN:Q2.take (i+1)=Q2.take i++[G0 (an2 p (M7 p Y) i)]:=by rw[eQ5,ap];rfl
  have bO:Y.take (i+1)=Y.take i++[Y[i]'(by rw[V.len];exact o)]:=by rw[eQ5,a2];rfl
  simp only[i4,simprocAttr,af,c3];refine z6 (dD7 ⟨r,0,none⟩ ⟨i5 p,M3 p,_,[],replicate p.procs.length [],_⟩ p i w8 (cq _ _ _ _ N) ⟨rfl,cL,bV6 _ _⟩ rfl aH hr hw o) ?_;rintro u9 w9 ⟨ao,aG⟩;simp only[i4,simprocAttr];apply z6 (ax7 ao (eD7 (cR4 hr.may aH c6 i hw o) dR));rintro aq O ⟨B,al,_⟩;have D:o6 w8 O:=ao.ext2 aG al;have K:=N.more D;have aA:(G0 (an2 p (M7 p Y) i)).length<=25:=I.few _ (eF7 ap);have aT:(Y[i]'(by rw[V.len];exact o)).length<=25:=V.few _ (eE1 _);have aN:=a2;generalize Y[i]'(by rw[V.len];exact o)=yi at am bO aT aN;generalize G0 (an2 p (M7 p Y) i)=qi at ap aX bN B aA;have bF:=N.fresh B;have Z:=K.oy.inS (k:=i) om;cases mo with
  | true=>
   obtain⟨bR,q1,L⟩:=K.set (P:=prog) (t:=22) rfl (k:=i) om (u:=aq) (y:=qi) bF (G3 B.isS) b5 bc;rw[aX]at L;have a3:(Instr.loadAt 134 (.pointer (some ⟨r,5,none⟩))).run prog O = .ok C O:=F9 (i:=5) K.cb rfl aC8;simp only[i4,n9,A6,simprocAttr,an,af,c3,a3,Z,q1];refine⟨(i+1,true),om,eE9 _ (I9 i om),om,tt,L,(λh=>by cases h),λ_=>aY rfl⟩
  | false=>
   obtain⟨ur,cO,bL⟩:=bI2 (P:=prog) (t:=22) K.oy am ab6;have a3:(Instr.loadAt 134 (.pointer (some ⟨r,5,none⟩))).run prog O = .ok C O:=F9 (i:=5) K.cb rfl aC8;simp only[i4,n9,A6,simprocAttr,an,c3,a3,Z,bL];apply z6 (bQ8 aq ur qi yi O (B.rw_ (b7 D)) (A9.mono (B6 _ _) cO) om om);rintro _ a5 ⟨rfl,aM⟩;have bQ:=K.more aM;have aV:=A9.mono (M8 aM (λ_ h=>h.elim) λb h=>.inl h) bF;obtain⟨bR,q1,L⟩:=bQ.set (P:=prog) (t:=22) rfl (k:=i) om (u:=aq) (y:=qi) aV (G3 B.isS) b5 bc;rw[aX]at L;have aO:(Instr.loadAt 134 (.pointer (some ⟨r,5,none⟩))).run prog a5 = .ok C a5:=F9 (i:=5) bQ.cb rfl aC8;rcases eD2 (decide (qi=yi))with he|he
   .have e:=eD3 he;simp only[i4,n9,A6,simprocAttr,he,af,c3,aO,Z,q1];refine⟨(i+1,false),om,eE9 _ (I9 i om),om,tt,L,λ_=>?_,λh=>by cases h⟩;simp only[];rw[bN,bO,aD rfl,e]
   .have e:=eD6 he;simp only[i4,n9,A6,simprocAttr,he,af,c3,aO,Z,q1];refine⟨(i+1,true),om,eE9 _ (I9 i om),om,tt,L,(λh=>by cases h),λ_ h=>e ?_⟩;have h1:=eE9 (λl:Rws=>l[i]?) h;simp only[ap,aN]at h1;exact eF3 h1
 have aK:=aB hc;have dd:N4 p=I1 (J0 p) K2 (replicate p.procs.length []):=aL1 K2 1000 _ om aK.1;rw[<-dd]at X aK V;rw[aK.2]at X;have cH:=V;have dV:T7 (i5 p).l.length 100 (M7 p (N4 p)):=bw5 λit bI=>bf2 hr.may cH (hr.fits it bI);clear aB aK a6 aJ I;generalize co:N4 p=j at *;generalize ci:M7 p j=q at *;have be:E6 (D9 H (nB r vx2 C (B0 z))) (D9 H (nB r () z (λ_=>False))):=M8 (M:=λ_=>False) (t8.refl H) (λ_ h=>h.elim) λb h=>.inl (by
  rcases h with h|h|h|h
  .exact .inl h
  .exact fj h E7
  .exact .inr (.inr (.inr h))
  .exact h.elim)
 have bB:=(aS.mono X.base).mono be;have dt:=A9.mono be (A9.mono X.base cw);have dr:R (D9 H (nB r () z (λ_=>False))) vx2 q:=X.ox.ro be λb a=>E9 λh=>by
  have hd:=X.dx b a;rcases h with h|h|h|h
  .exact hd.2.1 h
  .exact E7 h
  .exact hd.2.2.2 h
  .exact h.elim
 have ds:R (D9 H (nB r () z (λ_=>False))) C j:=X.oy.ro be λb a=>E9 λh=>by
  have hd:=X.dy b a;rcases h with h|h|h|h
  .exact hd.2.1 h
  .exact E7 h
  .exact hd.2.2 h
  .exact h.elim
 have dm:B7 (D9 H (nB r () z (λ_=>False))) H 22 z (replicate p.procs.length ([]:List B9)):=aZ.renil (λb a=>G2 (.inr (.inr (.inl a)))) λb a=>(X.zk b a).trans (cu b a);have c9:BM (α:=List B9) (β:=List B9) (D9 H (nB r () z (λ_=>False))) G.drew H H (λ_=>False) r 136 22 22 (λv=>#[.pointer (some ⟨Q,0,none⟩),vx,vx2,v,z,C]) () z [] (replicate p.procs.length []):=
  ⟨X.ext,cJ,X.cb,B7.nil _ _ _,dm,λb h=>fj h E7,λb a=>⟨(bG b a).1,by have:=(bo b (.inl a)).2;omega,id⟩,λb a=>a.elim,λb a=>a.elim,eE8 _,n7 _⟩
 clear X;have bE:∀(A:World) (vd:Value) (xs ys:Rws),BM (α:=List B9) (β:=List B9) (D9 H (nB r () z (λ_=>False))) G.drew H A (λ_=>False) r 136 22 22 (λv=>#[.pointer (some ⟨Q,0,none⟩),vx,vx2,v,z,C]) vd z xs ys->At (n8 A) ⟨r,0,none⟩ (⟨i5 p,M3 p,q,xs,ys,j⟩:Bk):=λA vd xs ys s=>dV6 s.cb (bB.mono s.hb) (A9.mono s.hb dt) (A9.mono s.hb dr) s.rx s.ry (A9.mono s.hb ds);obtain⟨_,_,_,bh,_,_,_,dA,_⟩:=bB.sh;have bz:aV9 (X6 p j q) p.procs.length 25:=bB6 hr.may j q λi hi=>cQ9 hr hw i hi;simp only[i4,simprocAttr];refine E4 [1,3] (σ:=(Value×Nat)×(Bool×Rws)) (λs f A=>f 10=s.2.1/\BM (α:=List B9) (β:=List B9) (D9 H (nB r () z (λ_=>False))) G.drew H A (λ_=>False) r 136 22 22 (λv=>#[.pointer (some ⟨Q,0,none⟩),vx,vx2,v,z,C]) s.1.1 z s.2.2 (I1 (X6 p j q) s.1.2 (replicate p.procs.length []))/\s.1.2<=aQ4 (I1 (X6 p j q) s.1.2 (replicate p.procs.length []))/\(s.2.1=false->X6 p j q (I1 (X6 p j q) s.1.2 (replicate p.procs.length []))=I1 (X6 p j q) s.1.2 (replicate p.procs.length [])/\s.2.2=W0 p (I1 (X6 p j q) s.1.2 (replicate p.procs.length [])))) (λs=>if s.2.1 then p.procs.length*25+2-aQ4 (I1 (X6 p j q) s.1.2 (replicate p.procs.length []))else 0) (((),0),(true,[])) ?_ ?_
 .exact⟨rfl,c9,eE2 _,λh=>by cases h⟩
 clear c9;rintro⟨⟨eO,K3⟩,eH,eS⟩ ey eP hk ⟨ct,a4,ck,aU⟩;simp only at ct a4 ck aU;simp only[eF8,C9,simprocAttr]at hk;obtain⟨c4,bX,_⟩:=hk;rw[cC]at c4;rw[bW]at bX;have ab:=bz.iter_ok K3;have U:=bz.ok (I1 (X6 p j q) K3 (replicate p.procs.length []));have bZ:=bz.more K3;have en:=bz.bound K3;have cG:=bz.bound (K3+1);have a8:=af6 (X6 p j q) K3 (replicate p.procs.length []);simp only[i4,simprocAttr,ct];refine B2 (λhc=>?_) (λhc=>?_)
 .subst hc;clear aU;generalize ba:I1 (X6 p j q) K3 (replicate p.procs.length [])=T at *;generalize cm:X6 p j q T=Q3 at *;obtain⟨cU,z3,cf⟩:=a4.reset (P:=prog) (t:=134) (ix:=3) dG (λv v'=>dG) b6 bd;have dy:(Instr.loadAt 132 (.pointer (some ⟨r,0,none⟩))).run prog cU = .ok (.pointer (some ⟨Q,0,none⟩)) cU:=F9 (i:=0) cf.cb rfl bY1;have cy:=dA cU cf.hb;simp only[add_lit,eH5]at cy;have df:=bh.isS;have dl:=bh.vlen;simp only[eF,simprocAttr,bX,z3,dy,cy,df,dl];refine E4 [1,3,10,124,125] (σ:=Nat×Value) (λs f A=>f 126=s.1/\s.1<=(i5 p).l.length/\BM (α:=List B9) (β:=List B9) (D9 H (nB r () z (λ_=>False))) G.drew H A (λ_=>False) r 136 22 22 (λv=>#[.pointer (some ⟨Q,0,none⟩),vx,vx2,v,z,C]) s.2 z (((i5 p).l.take s.1).map λit=>G0 (aE0 p T it.s)) T) (λs=>(i5 p).l.length-s.1) (0,()) ?_ ?_
  .exact⟨rfl,eE2 _,cf⟩
  clear cf a4;rintro⟨m,vd⟩ f7 w7 hk ⟨aE,bM,s7⟩;simp only at aE bM s7;simp only[eF8,C9,simprocAttr]at hk;obtain⟨b1,b3,bm,bl,bn,_⟩:=hk;rw[c4]at b1;rw[bX]at b3;simp only[eF,simprocAttr,aE,bn];refine B2 (λhc=>?_) (λhc=>?_)
  .have o:m<(i5 p).l.length:=by simpa using hc
   have cK:=bh.inS o;obtain⟨sv,a0,bK⟩:=G1 (P:=prog) (t:=156) bh (s7.hb) (eD1 o) ai4 ai5 ag5 M4;rw[M4]at bK;have aF:((i5 p).l.take (m+1)).map (λit=>G0 (aE0 p T it.s))=((i5 p).l.take m).map (λit=>G0 (aE0 p T it.s))++[G0 (aE0 p T (i5 p).l[m].s)]:=by
    rw[eD9 o,eG8];rfl
   have ae:=hr.fits _ (eE1 o);have az:=bJ _ (eE1 o);have aW:((((i5 p).l.take m).map λit=>G0 (aE0 p T it.s))).length<=200:=by rw[eE3,eE5];omega
   generalize(i5 p).l[m]=it at a0 aF ae az;generalize((i5 p).l.take m).map (λit=>G0 (aE0 p T it.s))=xs at s7 aF aW;obtain⟨d,eh,w8,cI,cM,cP,bC⟩:=bi2 (w:=w7) (B0 vd) a0 (λb a=>s7.ox.lt a);obtain⟨us,bP,bD,_,_⟩:=L8.it a0 bC;have N:=(s7.more cP).more (o6.drew w8);have bp:∀A,t8 (B0 vd) w8.drew A->A.heap[r]?=some (.cells ((λv=>#[.pointer (some ⟨Q,0,none⟩),vx,vx2,v,z,C]) vd) 136 (0,0)):=λA hm=>(hm.block r (eD5.1 N.cb).1 λh=>(N.dx r h).2.1 rfl).trans N.cb;have k2:J4 prog (λA=>t8 (B0 vd) w8.drew A) 134 ⟨r,3,none⟩ vd:=sdx λA h=>F9 (i:=3) (bp A h) rfl aC8;have k3:=(L8.st_v bP bD).2 (t8 (B0 vd) w8.drew) w8.drew (t8.refl _) λA h=>F5 ((t8.up (M:=B0 vd) (o6.drew w8)).trans h);simp only[i4,n9,A6,simprocAttr,aE,bl,cK,bK,cI,cM];refine C4 (t8 (B0 vd) w8.drew) 12 (A8 [0,1,2,3,4,5,6,7,8,9,10,11]) ?_;simp only[D7,A8,i4,n9,simprocAttr,b3,k2,k3];refine z6 (dK2 ⟨r,0,none⟩ ⟨i5 p,M3 p,q,_,_,j⟩ p us it.s w8.drew (bE _ _ _ _ N) ⟨rfl,cH,ab⟩ hr.may (bP.mono N.hb) az ae) ?_;rintro u9 w9 ⟨ao,aG⟩;refine⟨t8.up aG,?_⟩;simp only[eY,simprocAttr];apply z6 (ax7 ao (eD7 (bE6 ab az) dR));rintro aq O ⟨B,al,_⟩;have D:o6 w8.drew O:=ao.ext2 aG al;refine⟨t8.up D,?_⟩;have K:=N.more D;obtain⟨p1,cS,a5,bR,p2,p3,L,p4⟩:=K.push (P:=prog) (e:=134) dc3 rfl (x:=aq) (y:=G0 (aE0 p T it.s)) (by rw[G3 B.isS];exact N.fresh B) om om (ix:=3) dG (λv v'=>dG) b6 bd;rw[G3 B.isS]at p1 p2;simp only[fe,simprocAttr,p1,p2,F2];refine⟨(t8.up D).trans (t8.up (o6.alloc _ _)),(t8.up D).trans p4,?_⟩;simp only[eF,simprocAttr,aE,p3];refine⟨(m+1,cS),om,eE9 _ (I9 m om),om,?_⟩;simp only[];rw[aF];exact L
  have F:m=(i5 p).l.length:=by simp at hc;omega
  subst F;rw[eE4]at s7;have bw:((i5 p).l.map λit=>G0 (aE0 p T it.s))=W0 p T:=rfl;rw[bw]at s7;have aH:T7 (i5 p).l.length 2000000 (W0 p T):=bw5 λit bI=>bE6 ab (bJ it bI);have cR:=cQ w7 (b7 (W.trans s7.ext));simp only[eF,simprocAttr,b1,cR,a7,bf];refine E4 [1,3,147] (σ:=Nat×Bool) (λs f A=>f 148=s.1/\s.1<=p.procs.length/\f 10=s.2/\BM (α:=List B9) (β:=List B9) (D9 H (nB r () z (λ_=>False))) G.drew H A (λ_=>False) r 136 22 22 (λv=>#[.pointer (some ⟨Q,0,none⟩),vx,vx2,v,z,C]) vd z (W0 p T) (bm9 Q3 T s.1)/\(s.2=false->Q3.take s.1=T.take s.1)/\(s.2=true->Q3≠T)) (λs=>p.procs.length-s.1) (0,false) ?_ ?_
  .exact⟨rfl,eE2 _,bm,by rw[cD7];exact s7,λ_=>dG,λh=>by cases h⟩
  clear s7;rintro⟨i,mo⟩ f8 w8 hk ⟨af,bH,an,N,aD,aY⟩;simp only at af bH an N aD aY;simp only[eF8,C9,simprocAttr]at hk;obtain⟨c1,c3,cn,_⟩:=hk;rw[b1]at c1;rw[b3]at c3;simp only[eF,simprocAttr,af,cn];refine B2 (λhc=>?_) (λhc=>?_);rotate_left
  .have F:i=p.procs.length:=by simp at hc;omega
   subst F;rw[da6 U.len ab.len]at N;rw[eI0 (by rw[U.len];exact eE8 _),eI0 (by rw[ab.len];exact eE8 _)]at aD;cases mo with
   | false=>
    have e:=aD rfl;simp only[i4,simprocAttr];refine⟨((vd,K3),(false,W0 p T)),?_,an,?_,?_,λ_=>?_⟩
    .simp only[ba];simp;omega
    .simp only[ba];rw[e]at N;exact N
    .simp only[ba];exact ck
    .simp only[ba];exact⟨cm.trans e,trivial⟩
   | true=>
    have e:=aY rfl;have o:=bZ e;rw[a8]at o cG;simp only[i4,simprocAttr];refine⟨((vd,K3+1),(true,W0 p T)),?_,an,?_,?_,λh=>by cases h⟩
    .simp only[a8];simp;omega
    .simp only[a8];exact N
    .simp only[a8];omega
  have o:i<p.procs.length:=by simpa using hc
  have ap:Q3[i]?=some (G0 (aW3 p j (W0 p T) q i)):=by
   rw[<-cm];unfold X6;rw[eH2,eM3 o];rfl
  have a2:T[i]?=some (T[i]'(by rw[ab.len];exact o)):=eD1 _;have am:=da7 (old:=T) U.len o;rw[a2]at am;have aX:=da8 U.len ab.len o ap;have cL:=dC2 (i:=i) U ab;have bM:=cq1 (i:=i) U.len ab.len;have bN:Q3.take (i+1)=Q3.take i++[G0 (aW3 p j (W0 p T) q i)]:=by rw[eQ5,ap];rfl
  have bO:T.take (i+1)=T.take i++[T[i]'(by rw[ab.len];exact o)]:=by rw[eQ5,a2];rfl
  simp only[i4,simprocAttr,af,c3];refine z6 (dQ1 ⟨r,0,none⟩ ⟨i5 p,M3 p,q,_,_,j⟩ p i w8 (bE _ _ _ _ N) ⟨rfl,cH,cL⟩ rfl dV aH hr hw o) ?_;rintro u9 w9 ⟨ao,aG⟩;simp only[i4,simprocAttr];apply z6 (ax7 ao (eD7 (dk7 hr.may j (W0 p T) q i) dR));rintro aq O ⟨B,al,_⟩;have D:o6 w8 O:=ao.ext2 aG al;have K:=N.more D;have aA:(G0 (aW3 p j (W0 p T) q i)).length<=25:=U.few _ (eF7 ap);have aT:(T[i]'(by rw[ab.len];exact o)).length<=25:=ab.few _ (eE1 _);have aN:=a2;generalize T[i]'(by rw[ab.len];exact o)=yi at am bO aT aN;generalize G0 (aW3 p j (W0 p T) q i)=qi at ap aX bN B aA;have bF:=N.fresh B;have Z:=K.oy.inS (k:=i) om;cases mo with
  | true=>
   obtain⟨bR,q1,L⟩:=K.set (P:=prog) (t:=22) rfl (k:=i) om (u:=aq) (y:=qi) bF (G3 B.isS) b5 bc;rw[aX]at L;have a3:(Instr.loadAt 134 (.pointer (some ⟨r,4,none⟩))).run prog O = .ok z O:=F9 (i:=4) K.cb rfl aC8;simp only[i4,n9,A6,simprocAttr,an,af,c3,a3,Z,q1];refine⟨(i+1,true),om,eE9 _ (I9 i om),om,tt,L,(λh=>by cases h),λ_=>aY rfl⟩
  | false=>
   obtain⟨ur,cO,bL⟩:=bI2 (P:=prog) (t:=22) K.oy am ab6;have a3:(Instr.loadAt 134 (.pointer (some ⟨r,4,none⟩))).run prog O = .ok z O:=F9 (i:=4) K.cb rfl aC8;simp only[i4,n9,A6,simprocAttr,an,c3,a3,Z,bL];apply z6 (bQ8 aq ur qi yi O (B.rw_ (b7 D)) (A9.mono (B6 _ _) cO) om om);rintro _ a5 ⟨rfl,aM⟩;have bQ:=K.more aM;have aV:=A9.mono (M8 aM (λ_ h=>h.elim) λb h=>.inl h) bF;obtain⟨bR,q1,L⟩:=bQ.set (P:=prog) (t:=22) rfl (k:=i) om (u:=aq) (y:=qi) aV (G3 B.isS) b5 bc;rw[aX]at L;have aO:(Instr.loadAt 134 (.pointer (some ⟨r,4,none⟩))).run prog a5 = .ok z a5:=F9 (i:=4) bQ.cb rfl aC8;rcases eD2 (decide (qi=yi))with he|he
   .have e:=eD3 he;simp only[i4,n9,A6,simprocAttr,he,af,c3,aO,Z,q1];refine⟨(i+1,false),om,eE9 _ (I9 i om),om,tt,L,λ_=>?_,λh=>by cases h⟩;simp only[];rw[bN,bO,aD rfl,e]
   .have e:=eD6 he;simp only[i4,n9,A6,simprocAttr,he,af,c3,aO,Z,q1];refine⟨(i+1,true),om,eE9 _ (I9 i om),om,tt,L,(λh=>by cases h),λ_ h=>e ?_⟩;have h1:=eE9 (λl:Rws=>l[i]?) h;simp only[ap,aN]at h1;exact eF3 h1
 have aK:=aU hc;have da:am8 p=I1 (X6 p j q) K3 (replicate p.procs.length []):=by
  unfold am8;rw[co,ci];exact aL1 K3 1000 _ om aK.1
 rw[<-da]at a4 aK;rw[aK.2]at a4;have b2:b9 p=⟨i5 p,M3 p,q,W0 p (am8 p),am8 p,j⟩:=by
  unfold b9;rw[co,ci]
 simp only[i4,simprocAttr,bX];exact o8 results83 ⟨λh=>(by cases h),λ_=>⟨_,rfl,by rw[b2];exact bE _ _ _ _ a4⟩,du.trans (W.trans a4.ext)⟩
def bU8{p}(hm:O1 p=true):∃k,N4 p=I1 (J0 p) k (replicate p.procs.length [])/\J0 p (N4 p)=N4 p:=by
 have c:=bn1 hm;have g:=(R0 hm).2;have a:∀m,(∃k,k<=m/\J0 p (I1 (J0 p) k (replicate p.procs.length []))=I1 (J0 p) k (replicate p.procs.length []))\/m<=aQ4 (I1 (J0 p) m (replicate p.procs.length [])):=λm=>by
  induction m with
  | zero=>exact .inr (eE2 _)
  | succ m d=>
   rcases d with⟨k,f,e⟩|d
   .exact .inl ⟨k,om,e⟩
   .by_cases e:J0 p (I1 (J0 p) m (replicate p.procs.length []))=I1 (J0 p) m (replicate p.procs.length [])
    .exact .inl ⟨m,om,e⟩
    .have:=c.more m e;exact .inr om
 rcases a 500 with⟨k,f,e⟩|h
 .have b:N4 p=I1 (J0 p) k (replicate p.procs.length []):=aL1 k 1000 _ om e;exact⟨k,b,by rw[b];exact e⟩
 .have:=c.bound 500;omega
def da0{p}(b:E3 p)(hw:C1 p<=1000000):∃k,am8 p=I1 (X6 p (N4 p) (M7 p (N4 p))) k (replicate p.procs.length [])/\X6 p (N4 p) (M7 p (N4 p)) (am8 p)=am8 p:=by
 have a:=bB6 b.may (N4 p) (M7 p (N4 p)) λi j=>cQ9 b hw i j;have n:=(R0 b.may).2;generalize g:X6 p (N4 p) (M7 p (N4 p))=G at a;have c:∀m,(∃k,k<=m/\G (I1 G k (replicate p.procs.length []))=I1 G k (replicate p.procs.length []))\/m<=aQ4 (I1 G m (replicate p.procs.length [])):=λm=>by
  induction m with
  | zero=>exact .inr (eE2 _)
  | succ m f=>
   rcases f with⟨k,l,e⟩|f
   .exact .inl ⟨k,om,e⟩
   .by_cases e:G (I1 G m (replicate p.procs.length []))=I1 G m (replicate p.procs.length [])
    .exact .inl ⟨m,om,e⟩
    .have:=a.more m e;exact .inr om
 rcases c 500 with⟨k,l,e⟩|h
 .have d:am8 p=I1 G k (replicate p.procs.length []):=by
   unfold am8;rw[g];exact aL1 k 1000 _ om e
  exact⟨k,d,by rw[d];exact e⟩
 .have:=a.bound 500;omega
def aP6{p}(hm:O1 p=true):T7 p.procs.length 25 (N4 p):=by
 obtain⟨k,e,_⟩:=bU8 hm;rw[e];exact(bn1 hm).iter_ok k
def bf9{p}(a:E3 p)(hw:C1 p<=1000000):T7 p.procs.length 25 (am8 p):=by
 obtain⟨k,e,_⟩:=da0 a hw;rw[e];exact(bB6 a.may (N4 p) (M7 p (N4 p)) λi b=>cQ9 a hw i b).iter_ok k
def cd0{p}(b:E3 p)(hw:C1 p<=1000000):T7 (i5 p).l.length 100 (b9 p).defs:=bw5 λit a=>bf2 b.may (aP6 b.may) (b.fits it a)
def cd1{p}(b:E3 p)(hw:C1 p<=1000000):T7 (i5 p).l.length 2000000 (b9 p).uses:=bw5 λit a=>bE6 (bf9 b hw) (ah2 p hw it a)
def P3{p:Pg}{i}(a:i<p.procs.length):(b9 p).way (i:Int)=F7 (i5 p) i:=by
 unfold Bk.way;rw[eF4];exact cp2 (ab7 a)
def O8{p:Pg}{i}(a:i<p.procs.length):(b9 p).s.fn (i:Int)=p.procs[i]:=by
 have e:(b9 p).s=i5 p:=rfl;rw[e];unfold Sh.fn;rw[K0,eF4,getD,eD1 a];rfl
def bc2{α β:Type}(g:α->β)(l:List α){k}(a:k<l.length):(l.take (k+1)).map g=(l.take k).map g++[g l[k]]:=by
 rw[eD9 a,eG8];rfl
def ax5{p}{i x y:Nat}{wy:Wy}(a:aw0 p i x y wy){k:Nat}(b:k≠0)(d:(k:Int)<wy.n-1):∃q:Nat,wy.place (k:Int)-1=(q:Int)/\q<(i5 p).l.length/\wy.place (k:Int)=(q:Int)+1/\(x:Int)<(q:Int)+1/\(q:Int)+1<=(y:Int):=by
 have f:=a.n;have c:=a.part.ok.len;have e:wy.place (k:Int)=(x:Int)+1+k-1:=by
  rw[a.toWyOk.place,fh om,fh om]
 exact⟨x+k-1,om,om,om,om,om⟩
def de7(h)(a:Addr)(p)(i k:Nat)(w)(ha:At h a (b9 p))(L:E6 h (n8 w))(hr:E3 p)(hw:C1 p<=1000000)(E:i<p.procs.length)(hk:(k:Int)<(F7 (i5 p) i).n):
  p7 prog 274 #[a,i,k] w λu C=>(R (bj0 h w C) u ((b9 p).gives i k)/\o6 w C):=by
 apply y5 [a,i,k] func274 rfl;obtain⟨x,pt⟩:=K1 hr.may hw i E;have z:=V3 pt;generalize x+B8 p.procs[i].body=y at pt z;have be:=I3 hr.may;have o:(b9 p).gives (i:Int) (k:Int)=if(k:Int)=0 then G0 (J8 (am8 p) (i:Int)++p.procs[i].params.map (·.name))else if(k:Int)=(F7 (i5 p) i).n-1\/atB (F7 (i5 p) i).live (k:Int)=false then[]else J8 (M7 p (N4 p)) ((F7 (i5 p) i).place (k:Int)-1):=by
  unfold Bk.gives;rw[P3 E,O8 E];rfl
 obtain⟨sh,vw,vd,_,vi,_,has,ar,ao,_,ap,_,au,bc⟩:=ha.book rfl;obtain⟨_,_,_,_,_,_,aj,_,_⟩:=has.sh;rw[K0]at aj;obtain⟨vg,vp,bn,aq,a6,bu⟩:=aj.pg;obtain⟨aw,aJ,D⟩:=aC4 (hv:=ar) (k:=i) (p:=⟨F7 (i5 p) i⟩) (by show((M3 p).map λw=>(⟨w⟩:Ptr Wy))[i]?=_;rw[eH2,ab7 E];rfl);simp only at D;have r:=ar.inS (k:=i) (by show i<((M3 p).map λw=>(⟨w⟩:Ptr Wy)).length;unfold M3;simpa using E);have lb:=au w L;have F:=M0 (P:=prog) (t:=160) aJ L aC9;have c:∀C,o6 w C->E6 h (n8 C):=λC hx=>A3 L (b7 hx);have hn:=z.n;have bf:=pt.ok.len;rcases Nat.eq_zero_or_pos k with ag|ag
 .subst ag;rw[fi tt]at o;obtain⟨B,W,ac⟩:=(bf9 hr hw).row E;generalize J8 (am8 p) (i:Int)=J at B W ac o;obtain⟨ui,a0,aI⟩:=R.row ap (show(b9 p).ins[i]?=some J from B);have ae:=ap.inS (k:=i) (show i<(am8 p).length from(eD8.1 B).1);have aQ:=M0 (P:=prog) (t:=22) aI L ab6;simp only[i4,n9,A6,simprocAttr,lb,r,F,ae,aQ];apply z6 (aH3 ui J w (A9.mono L a0) om);rintro u2 w2 ⟨aU,H⟩;have a4:=au w2 (c w2 H);have a9:=a6 w2 (c w2 H);have K:=aq.at_ (i:=i) (x:=p.procs[i]) (eD1 E);have af:=aq.inS (k:=i) E;have a3:A9.sz Pr=5:=rfl;rw[a3]at K;obtain⟨bA,_,_,_,l,_,_,_,a7,_⟩:=K.pr;have ba:=a7 w2 (c w2 H);have aW:=R9 hr.may E;generalize p.procs[i].params=n at l aW o;have aE:=l.isS;have aT:=l.vlen;simp only[i4,n9,A6,simprocAttr,a4,a9,af,ba,aE,aT];refine E4 [40,41] (σ:=Nat×Value) (λs f C=>f 42=s.1/\f 8=s.2/\s.1<=n.length/\B7 (n8 w) C 9 s.2 (J++(n.take s.1).map (·.name))/\o6 w C) (λs=>n.length-s.1) (0,u2) ?_ ?_
  .exact⟨rfl,rfl,eE2 _,by simpa using aU,H⟩
  rintro⟨j,u⟩ f w3 hk ⟨O,h8,aN,ho,m⟩;simp only at O h8 aN ho;simp only[eF8,C9,simprocAttr]at hk;obtain⟨aB,aC,_⟩:=hk;simp only[eF,simprocAttr,O,aC];refine B2 (λhc=>?_) (λhc=>?_)
  .have V:j<n.length:=by simpa using hc
   have aM:=l.inS V;obtain⟨sv,am,ah⟩:=G1 (P:=prog) (t:=72) l (c w3 m) (eD1 V) bd9 be1 aX0 ak2;rw[ak2]at ah;have an:=bc2 (λq:Pa=>q.name) n V;generalize n[j]=pa at am an;obtain⟨d,wz,w4,aF,aY,I,Q⟩:=aF2 (am.mono (c w3 m)) (n7 _);obtain⟨a5,_⟩:=Q.pa;have l4:=a5 w4 (n7 _);obtain⟨p1,u5,w5,p2,p3,p4,p5⟩:=pushS (e:=22) (ho.ext I) pa.name (by rw[eD4,eE3,eE5];omega) (b7 (m.trans I));simp only[i4,n9,A6,simprocAttr,O,h8,aB,aM,ah,aF,aY,l4,p1,p2];refine⟨(j+1,u5),om,eE9 _ (I9 j om),tt,om,?_,(ho.ext I).ext2 (m.trans I) p4⟩;simp only[];rw[an,<-eG4];exact p3
  .have aL:j=n.length:=by simp at hc;omega
   subst aL;rw[eE4]at ho;simp only[i4,simprocAttr,h8];apply z6 (ax7 ho (by rw[eD4,eE3];omega));rintro u6 w6 ⟨aV,aR,_⟩;simp only[i4,simprocAttr];apply o8 results274;simp only[C9,simprocAttr];have e:(b9 p).gives (i:Int) 0=G0 (J++n.map (·.name)):=o;exact⟨by rw[e];exact aV.upR,ho.ext2 m aR⟩
 have A:decide ((k:Int)=0)=false:=by simp;omega
 rw[fh om]at o;have v:=λh0 aO=>ax5 z (k:=k) h0 aO;have U:=z.live;obtain⟨_,_,vl,_,_,X,a8,bd⟩:=D.wy;have lw:=a8 w L;have G:IntKind.i64.wrap ((F7 (i5 p) i).n-1)=(F7 (i5 p) i).n-1:=N7 _ om;generalize bj:F7 (i5 p) i=Z at z hn o v U X lw G hk D bd;rcases eD2 (decide ((k:Int)=Z.n-1))with hq|hq
 .rw[fi (.inl (eD3 hq))]at o;simp only[i4,n9,A6,simprocAttr,lb,r,F,A,lw,G,hq];exact o8 results274 ⟨by rw[o];exact aX5 _,t8.refl _⟩
 have T:k<Z.live.length:=om
 have M:=X.inS T;have g:=ldB X L T;have Q:Z.live[k]=atB Z.live (k:Int):=by
  unfold atB;rw[eF4,getD,eD1 T];rfl
 rw[Q]at g;have aS:=eD6 hq;rcases eD2 (atB Z.live (k:Int))with hl|hl;rotate_left
 .rw[fi (.inr hl)]at o;rw[hl]at g;simp only[i4,n9,A6,simprocAttr,lb,r,F,A,lw,G,hq,M,g];exact o8 results274 ⟨by rw[o];exact aX5 _,t8.refl _⟩
 rw[fh (by rw[hl];simp[aS])]at o;rw[hl]at g;obtain⟨q,ak,aX,bm,_⟩:=v om om;rw[ak]at o;obtain⟨S,av,aK⟩:=(cd0 hr hw).row aX;have b:(M7 p (N4 p))[q]?=some (J8 (M7 p (N4 p)) (q:Int)):=S;generalize J8 (M7 p (N4 p)) (q:Int)=dr at b o;obtain⟨ud,aZ,aH⟩:=R.row ao (show(b9 p).defs[q]?=some dr from b);have ad:=ao.inS (k:=q) (show q<(M7 p (N4 p)).length from(eD8.1 b).1);have Y:=o6.drew w;have t1:=bc (o6 w.drew) w.drew (t8.refl _) λC hx=>c C (Y.trans hx);simp only[i4,n9,A6,simprocAttr,lb,r,F,A,lw,G,hq,M,g];refine C4 (o6 w.drew) 8 (A8 [0,1,2,3,4,5,6,7]) ?_;simp only[D7,A8,i4,n9,simprocAttr,t1];refine B3 (aq0 aw Z p i x y (k:Int) w.drew (D.mono (c _ Y)) z.toWyOk om) (λw3 m=>⟨m,?_⟩);have a1:IntKind.i64.wrap (Z.place (k:Int)-1)=(q:Int):=by rw[ak];exact N7 _ om
 have N:=Y.trans m;have aP:=M0 (P:=prog) (t:=22) aH (c w3 N) ab6;simp only[D7,i4,n9,A6,simprocAttr,a1,ad,aP];exact o8 results274 ⟨by rw[o];exact A9.mono (bB2 L) aZ,N⟩
def df3(h)(a:Addr)(p)(i k:Nat)(w)(ha:At h a (b9 p))(s:E6 h (n8 w))(Y:E3 p)(hw:C1 p<=1000000)(K:i<p.procs.length)(hk:(k:Int)<(F7 (i5 p) i).n):
  p7 prog 212 #[a,i,k] w λu A=>(R (bj0 h w A) u ((b9 p).takes i k)/\o6 w A):=by
 apply y5 [a,i,k] func212 rfl;obtain⟨x,pt⟩:=K1 Y.may hw i K;have j:=V3 pt;generalize x+B8 p.procs[i].body=y at pt j;have aB:=I3 Y.may;have g:(b9 p).takes (i:Int) (k:Int)=if(k:Int)=(F7 (i5 p) i).n-1 then G0 (J8 (N4 p) (i:Int)++[U0])else if(k:Int)=0\/atB (F7 (i5 p) i).live (k:Int)=false then[]else J8 (W0 p (am8 p)) ((F7 (i5 p) i).place (k:Int)-1):=by
  unfold Bk.takes;rw[P3 K];rfl
 obtain⟨sh,vw,_,vu,_,vo,has,T,_,S,_,Q,av,az⟩:=ha.book rfl;obtain⟨aw,af,n⟩:=aC4 (hv:=T) (k:=i) (p:=⟨F7 (i5 p) i⟩) (by show((M3 p).map λw=>(⟨w⟩:Ptr Wy))[i]?=_;rw[eH2,ab7 K];rfl);simp only at n;have d:=T.inS (k:=i) (by show i<((M3 p).map λw=>(⟨w⟩:Ptr Wy)).length;unfold M3;simpa using K);have Z:=av w s;have o:=M0 (P:=prog) (t:=160) af s aC9;have C:∀A,o6 w A->E6 h (n8 A):=λA hx=>A3 s (b7 hx);have hn:=j.n;have aD:=pt.ok.len;have aC:=pt.ok.le;have f:=λr ag=>ax5 j (k:=k) r ag;have E:=j.live;obtain⟨_,_,vl,_,_,G,ax,aA⟩:=n.wy;have W:=ax w s;have m:IntKind.i64.wrap ((F7 (i5 p) i).n-1)=(F7 (i5 p) i).n-1:=N7 _ om;generalize aH:F7 (i5 p) i=I at j hn g f E G W m hk n aA;rcases eD2 (decide ((k:Int)=I.n-1))with hq|hq
 .rw[fi (eD3 hq)]at g;obtain⟨l,F,J⟩:=(aP6 Y.may).row K;generalize J8 (N4 p) (i:Int)=X at l F J g;obtain⟨ui,aq,ae⟩:=R.row Q (show(b9 p).outs[i]?=some X from l);have M:=Q.inS (k:=i) (show i<(N4 p).length from(eD8.1 l).1);have aj:=M0 (P:=prog) (t:=22) ae s ab6;simp only[i4,n9,A6,simprocAttr,Z,d,o,W,m,hq,M,aj];apply z6 (aH3 ui X w (A9.mono s aq) om);rintro u2 w2 ⟨N,U⟩;obtain⟨p1,u5,w5,p2,p3,p4,p5⟩:=pushS (e:=22) N U0 om (b7 U);have ay:(Instr.buildSlice 22 1 #[(0,.string ⟨#[36,114,101,116]⟩)]).run prog w2=_:=p1;simp only[i4,simprocAttr,ay,p2];apply z6 (ax7 p3 (by rw[eD4,eG3];omega));rintro u6 w6 ⟨am,ak,_⟩;simp only[i4,simprocAttr];exact o8 results212 ⟨by rw[g];exact am.upR,p3.ext2 (N.ext2 U p4) ak⟩
 have al:=eD6 hq;rw[fh al]at g;rcases eD2 (decide ((k:Int)=0))with r|r
 .rw[fi (.inl (eD3 r))]at g;simp only[i4,n9,A6,simprocAttr,Z,d,o,W,m,hq,r];exact o8 results212 ⟨by rw[g];exact aX5 _,t8.refl _⟩
 have ab:=eD6 r;have D:k<I.live.length:=om
 have v:=G.inS D;have c:=ldB G s D;have ac:I.live[k]=atB I.live (k:Int):=by
  unfold atB;rw[eF4,getD,eD1 D];rfl
 rw[ac]at c;rcases eD2 (atB I.live (k:Int))with hl|hl;rotate_left
 .rw[fi (.inr hl)]at g;rw[hl]at c;simp only[i4,n9,A6,simprocAttr,Z,d,o,r,W,m,hq,v,c];exact o8 results212 ⟨by rw[g];exact aX5 _,t8.refl _⟩
 rw[fh (λan=>an.elim ab λe=>by rw[hl]at e;cases e)]at g;rw[hl]at c;obtain⟨q,O,ao,aL,_⟩:=f om om;rw[O]at g;obtain⟨B,_,_⟩:=(cd1 Y hw).row ao;have b:(W0 p (am8 p))[q]?=some (J8 (W0 p (am8 p)) (q:Int)):=B;generalize J8 (W0 p (am8 p)) (q:Int)=dr at b g;obtain⟨ud,ap,ad⟩:=R.row S (show(b9 p).uses[q]?=some dr from b);have L:=S.inS (k:=q) (show q<(W0 p (am8 p)).length from(eD8.1 b).1);have H:=o6.drew w;have t1:=az (o6 w.drew) w.drew (t8.refl _) λA hx=>C A (H.trans hx);simp only[i4,n9,A6,simprocAttr,Z,d,o,r,W,m,hq,v,c];refine C4 (o6 w.drew) 8 (A8 [0,1,2,3,4,5,6,7]) ?_;simp only[D7,A8,i4,n9,simprocAttr,t1];refine B3 (aq0 aw I p i x y (k:Int) w.drew (n.mono (C _ H)) j.toWyOk om) (λw3 V=>⟨V,?_⟩);have ar:IntKind.i64.wrap (I.place (k:Int)-1)=(q:Int):=by rw[O];exact N7 _ om
 have z:=H.trans V;have ah:=M0 (P:=prog) (t:=22) ad (C w3 z) ab6;simp only[D7,i4,n9,A6,simprocAttr,ar,L,ah];exact o8 results212 ⟨by rw[g];exact A9.mono (bB2 s) ap,z⟩
def dn0{α:Type}{l:List α}(h:l.Nodup){i j}(c:i<l.length)(d:j<l.length)(e:l[i]=l[j]):i=j:=by
 refine eM6 λa=>?_;have b:=eK4.1 h;rcases Nat.lt_or_gt_of_ne a with h|h
 .exact b i j c d h e
 .exact b j i d c h e.symm
def aU0{n:B9}(h:R8 n=true):n≠am1/\n≠U0/\n≠e0:=by
 refine⟨?_,?_,?_⟩<;>rintro rfl<;>exact fj h dR
def cs7:am1≠U0/\am1≠e0/\U0≠e0:=dR
def aP7{p}(hm:O1 p=true){i}(e:i<p.procs.length):∃n m,ac8 p.procs[i] n=some m:=by
 unfold O1 at hm;rw[eF1]at hm;have b:∀(l:List Pr) (n:Int),(l.foldlM (λn f=>ac8 f n) n).isSome=true->∀f∈l,∃n m,ac8 f n=some m:=by
  intro l
  induction l with
  | nil=>intro n _ f a;simp at a
  | cons g l o=>
   intro n h f a;rw[foldlM_cons]at h;obtain⟨k,j⟩:=eJ0.1 h;obtain⟨m,c,d⟩:=eJ2.1 j;rcases eF0.1 a with rfl|a
   .exact⟨n,m,c⟩
   .exact o m (by rw[d];rfl) f a
 exact b _ _ hm.2 _ (eE1 e)
def aB4{f:Pr}{n m}(h:ac8 f n=some m):R8 f.name=true/\(∀a∈f.params,R8 a.name=true)/\(∀v∈f.vars,R8 v=true)/\J9 12 f.body n=some m:=by
 unfold ac8 at h;split at h
 .cases h
 .rename_i b;simp only[not_or,Bool.not_eq_false]at b;refine⟨b.2.2.1,?_,?_,h⟩
  .have:=b.2.2.2.2.2;rw[eJ1]at this;exact this
  .have:=b.2.2.2.1;unfold X7 at this;rw[eJ1]at this;exact this
def cD3{p}(hm:O1 p=true){i}(e:i<p.procs.length):R8 p.procs[i].name=true/\(∀a∈p.procs[i].params,R8 a.name=true)/\(∀v∈p.procs[i].vars,R8 v=true):=by
 obtain⟨n,m,h⟩:=aP7 hm e;obtain⟨b,c,d,_⟩:=aB4 h;exact⟨b,c,d⟩
def bT8{p}(hm:O1 p=true):∀n∈p.globals,R8 n=true:=by
 unfold O1 at hm;simp only[eF1]at hm;have:=hm.1.2;unfold X7 at this;rw[eJ1]at this;exact this
mutual
def dP3:∀(t:St) (d:Nat) (n m:Int),O3 t=true->((J9 d t.thn n).bind λm=>J9 d t.els m)=some m->∀(k:Nat) (f g e b:Int),∀it∈ac1 t k f g e b,O3 it.s=true
 | .mk id kind labels name proc x has args thn els,d,n,m,hf,h,k,f,g,e,b,it,a=>by
  simp only[St.thn,St.els]at h;obtain⟨c,i,j⟩:=eJ2.1 h;rw[U2]at a;rcases eF0.1 a with rfl|a
  .exact hf
  .rcases eE0.1 a with a|a
   .exact br6 thn d n c i _ _ _ _ _ it a
   .exact br6 els d c m j _ _ _ _ _ it a
def br6:∀(l:List St) (d:Nat) (n m:Int),J9 d l n=some m->∀(k:Nat) (e f c b:Int),∀it∈E5 l k e f c b,O3 it.s=true
 | [],d,n,m,h,k,e,f,c,b,it,a=>by simp[E5]at a
 | t::l,0,n,m,h,k,e,f,c,b,it,a=>by simp[J9]at h
 | t::l,d+1,n,m,h,k,e,f,c,b,it,a=>by
  rw[ap7]at h;obtain⟨j,g,o⟩:=eJ2.1 h;split at g
  .cases g
  .rename_i i;simp only[not_or,Bool.not_eq_false]at i;rw[E5]at a;rcases eE0.1 a with a|a
   .exact dP3 t d (n+1) j i.2.2.2 g _ _ _ _ _ it a
   .exact br6 l (d+1) j m o _ _ _ _ _ it a
end
def cQ6{p}(hm:O1 p=true){i}(b:i<p.procs.length)(hw:C1 p<=1000000):∀it∈(i5 p).of i,O3 it.s=true:=by
 obtain⟨x,_,a⟩:=ab2 p hw i b;obtain⟨n,m,h⟩:=aP7 hm b;intro it hit;rw[a]at hit;exact br6 _ _ _ _ (aB4 h).2.2.2 _ _ _ _ _ it hit
def bG6{s:St}(h:O3 s=true):∀a∈s.args,a.ref=true->R8 a.name=true:=by
 unfold O3 at h;split at h
 .cases h
 .simp only[eF1]at h;have:=h.2;unfold aT2 at this;rw[eJ1]at this;intro a b c;have:=this a b;rw[eF1]at this;have:=this.1;unfold ae2 at this;rw[c]at this;simpa using this
def bt2{p}(hm:O1 p=true){it:It}(a:it∈(i5 p).l):(i5 p).l[(it.s.id-1).toNat]?=some it/\(i5 p).it it.s.id=it/\1<=it.s.id:=by
 obtain⟨j,b⟩:=eM7.1 a;have h:=ax6 hm j it b;have e:(it.s.id-1).toNat=j:=om
 refine⟨by rw[e];exact b,?_,om⟩;unfold Sh.it;rw[e,getD,b];rfl
def bc7{p i x y}(b:aH0 p i x y){it:It}(a:it∈(i5 p).of i):it∈(i5 p).l:=by
 rw[b.ok.of_]at a;exact eL5 (eP5 a)
def cy5{p}(hm:O1 p=true)(X:Rws){it:It}(a:it∈(i5 p).l):J8 (M7 p X) (it.s.id-1)=G0 (aq5 p X it.s):=by
 unfold J8 M7;rw[getD,eH2,(bt2 hm a).1];rfl
def bN9:∀(l a:List B9),∃t,aa2 a l=a++t
 | [],a=>⟨[],by simp[aa2]⟩
 | n::l,a=>by
  rw[aa2];obtain⟨t,e⟩:=bN9 l (if a.contains n then a else a++[n]);rw[e];split
  .exact⟨t,rfl⟩
  .exact⟨n::t,dG⟩
def bl7(g:B9->List B9):∀(m i:Nat) (a:List B9),∀x∈a,x∈W4 g m i a
 | 0,i,a,x,h=>h
 | m+1,i,a,x,h=>by
  rw[W4];split
  .exact h
  .exact bl7 g m (i+1) _ x ((aH1 _ _ _).2 (.inl h))
def aM6{g:B9->List B9}{names:List B9}(q:∀m∈names,∀x∈g m,x∈names):∀(m i:Nat) (a:List B9),a.Nodup->(∀x∈a,x∈names)->names.length+1<=i+m->i<=a.length ->
  (∀k y,k<i->a[k]?=some y->∀x∈g y,x∈a)->∀y∈W4 g m i a,∀x∈g y,x∈W4 g m i a
 | 0,i,a,hn,hs,hl,hi,hc=>by
  have:=J5 hn hs;omega
 | m+1,i,a,hn,hs,hl,hi,hc=>by
  rw[W4];split
  .rename_i h;intro y e x b;obtain⟨k,l⟩:=eM7.1 e;have:=(eD8.1 l).1;have:=List.getElem?_eq_none_iff.1 h;exact hc k y om l x b
  .rename_i n h;obtain⟨f,j⟩:=eD8.1 h;have o:n∈names:=hs n (j ▸ eE1 f);obtain⟨t,p⟩:=bN9 (g n) a;refine aM6 q m (i+1) _ (aR5 _ _ hn) (λx b=>?_) om (by rw[p,eD4];omega) λk y l e x b=>?_
   .rcases(aH1 _ _ _).1 b with b|b
    .exact hs x b
    .exact q n o x b
   .have c:a[k]?=some y:=by
     rw[p,eI7 om]at e;exact e
    apply(aH1 _ _ _).2;rcases eH4 k i with d|d
    .exact .inl (hc k y d c x b)
    .obtain rfl:k=i:=om
     rw[h]at c;obtain rfl:=eF3 c;exact .inr b
def bO3{s:Sh}{n x:B9}:x∈aO0 s n↔x∈W4 (at1 s) (s.p.procs.length+1) 0 [n]:=(Z3 _).mem_iff
def cc7(s:Sh)(n:B9):n∈aO0 s n:=bO3.2 (bl7 _ _ _ _ _ dG)
def bF6{p}(K:Known p){n:B9}(hn:n∈p.procs.map (·.name)):∀y∈aO0 (i5 p) n,∀x∈at1 (i5 p) y,x∈aO0 (i5 p) n:=by
 intro y b x a;rw[bO3]at b ⊢;refine aM6 (names:=p.procs.map (·.name)) (λm hm x a=>aZ4 K hm a) _ _ _ dG (λx a=>?_) (by rw[K0];simp) dG (λk y c=>om) y b x a;simp only[eE7]at a;subst a;exact hn
def cK6{p}(K:Known p){n m:B9}(hn:n∈p.procs.map (·.name))(hm:m∈aO0 (i5 p) n):∀x∈aO0 (i5 p) m,x∈aO0 (i5 p) n:=by
 intro x a;rw[bO3]at a;exact(aS4 (names:=aO0 (i5 p) n) (bF6 K hn) _ _ _ dG (λx a=>by
  simp only[eE7]at a;subst a;exact hm)).2 x a
def cG3{p}(h:C8 p=true):(U7 p).1=0:=by
 have h:=eD3 h;unfold aZ5 at h;split at h
 .simp at h
 split at h
 .rename_i a;exact fj h a
 .rename_i a;exact eM6 a
def bD6{p}(h:(U7 p).1=0){n v:B9}(hn:n∈p.procs.map (·.name)):v∈W7 p n↔∃m∈aO0 (i5 p) n,∃it∈(i5 p).of ((i5 p).pr m),v∈N0 it.s/\v∈p.globals:=by
 have a:bb8 p n=true:=by
  unfold bb8;obtain⟨q,b,rfl⟩:=eF2.1 hn;rw[eG9 h,eJ4,eP6];exact⟨q,b,dG⟩
 unfold W7;rw[fi a];simp only[M6,eG1,eF6,eE6]
def dG3{p}(h:(U7 p).1=0)(K:Known p){n m v:B9}(hn:n∈p.procs.map (·.name))(hm:m∈aO0 (i5 p) n)(a:m∈p.procs.map (·.name))(hv:v∈W7 p m):v∈W7 p n:=by
 rw[bD6 h a]at hv;rw[bD6 h hn];obtain⟨q,b,r⟩:=hv;exact⟨q,cK6 K hn hm q b,r⟩
def aL5{p}(K:Known p){i}(b:i<p.procs.length):(i5 p).pr p.procs[i].name=(i:Int):=by
 obtain⟨k,d,e,f⟩:=Y0 (p:=p) (n:=p.procs[i].name) (eF2.2 ⟨_,eE1 b,rfl⟩);rw[e];have a:k=i:=by
  have c:(p.procs.map (·.name))[k]'(by simpa using d)=(p.procs.map (·.name))[i]'(by simpa using b):=by simp[f]
  exact dn0 K.names _ _ c
 rw[a]
def cR5{p}(h:(U7 p).1=0)(g:E3 p)(hw:C1 p<=1000000):∀(k i:Nat) (j:i<p.procs.length) (n:B9),n∈J8 (I1 (J0 p) k (replicate p.procs.length [])) (i:Int)->n∈p.globals->n∈W7 p p.procs[i].name:=by
 intro k
 induction k with
 | zero=>
  intro i j n a _;rw[I1,bw2 (by simpa using j)]at a;simp at a
 | succ k w=>
  intro i j n a u;rw[af6]at a;generalize I1 (J0 p) k (replicate p.procs.length [])=X at w a;have o:p.procs[i].name∈p.procs.map (·.name):=eF2.2 ⟨_,eE1 j,rfl⟩;rw[bw2 (by unfold J0;simpa using j)]at a;unfold J0 at a;rw[eL1,eQ3,M6]at a;unfold an2 at a;obtain⟨it,d,a⟩:=eG1.1 a;have d:=(eF6.1 d).1;have a:=(eF6.1 a).1;obtain⟨x,s⟩:=K1 g.may hw i j;rw[cy5 g.may X (bc7 s d),M6]at a;have m:=aU0 (bT8 g.may n u);have b:n∈N0 it.s->n∈W7 p p.procs[i].name:=λE=>by
   rw[bD6 h o];exact⟨_,cc7 _ _,it,by rw[aL5 g.toKnown j];exact d,E,u⟩
  have f:it.s.kind≠10->n=it.s.name->n∈N0 it.s:=λl e=>by
   unfold N0;rw[fi ⟨l,by rw[<-e];exact m.2.2⟩,e];simp
  unfold aq5 at a;split at a
  .rename_i l;exact b (f om (by simpa using a))
  split at a
  .rename_i l;simp only[eF0,eH6,eM0]at a;rcases a with e|e
   .exact b (f om e)
   .exact fj e m.1
  split at a
  .simp only[eE7]at a;exact fj a m.2.1
  split at a
  .rename_i l;unfold aE2 at a;rcases eE0.1 a with a|a
   .rcases eE0.1 a with a|a
    .split at a
     .simp at a
     .exact b (f om (by simpa using a))
    .obtain⟨z,v,rfl⟩:=eF2.1 a;obtain⟨v,q⟩:=eF6.1 v;rw[eF1]at q;apply b;unfold N0;refine eH0 _ (eG1.2 ⟨z.1,(of_mem_zip v).1,?_⟩);unfold P2;rw[fi q.1];simp
   .have a:=(eF6.1 a).1;obtain⟨c,r⟩:=aa7 (g.fits it (bc7 s d) l);rw[r.idx]at a;have D:=r.lt;have t:p.procs[c].name=it.s.proc:=by
     obtain⟨y,C,A,B⟩:=Y0 (aS2 g.toKnown hw (bc7 s d) l);rw[r.pr]at A;obtain rfl:c=y:=om
     exact B
    have:=w c r.lt n a u;rw[t]at this;refine dG3 h g.toKnown o (bF6 g.toKnown o _ (cc7 _ _) _ ?_) (aS2 g.toKnown hw (bc7 s d) l) this;unfold at1;rw[M6,aL5 g.toKnown j];exact eF2.2 ⟨it,eF6.2 ⟨d,by simpa using l⟩,rfl⟩
  .simp at a
def cE7{p}(a:C8 p=true)(hw:C1 p<=1000000){i}(c:i<p.procs.length){n:B9}(hn:n∈J8 (N4 p) (i:Int))(b:n∈p.globals):n∈W7 p p.procs[i].name:=by
 obtain⟨k,e,_⟩:=bU8 (D6 a).may;rw[e]at hn;exact cR5 (cG3 a) (D6 a) hw k i c n hn b
def bn7{name:B9}{d:List B9}:∀{l:List Ar} {f:List B9},au9 name d f l=true->(∀(j:Nat) (a:Ar),l[j]?=some a->a.ref=true->a.name∉f/\a.name≠name/\a.name∉d) /\
  ∀(j k:Nat) (a b:Ar),l[j]?=some a->l[k]?=some b->a.ref=true->b.ref=true->a.name=b.name->j=k
 | [],f,_=>⟨λj a h=>by simp at h,λj k a b h=>by simp at h⟩
 | c::l,f,h=>by
  rw[au9]at h;by_cases hr:c.ref=true
  .rw[fi hr]at h;split at h
   .cases h
   .rename_i p;have p:=eN8.2 p;simp only[Bool.or_eq_false_iff,eP4]at p;obtain⟨⟨t,v⟩,u⟩:=p;obtain⟨o,s⟩:=bn7 h;have q:c.name∉f:=λhm=>by rw[eE6.2 hm]at t;cases t
    have r:c.name∉d:=λhm=>by rw[eE6.2 hm]at u;cases u
    refine⟨λj a g i=>?_,λj k a b g m i n e=>?_⟩
    .cases j with
     | zero=>
      obtain rfl:c=a:=by simpa using g
      exact⟨q,v,r⟩
     | succ j=>
      obtain⟨w,x⟩:=o j a (by simpa using g) i;exact⟨λhm=>w (eF9 _ hm),x⟩
    .cases j with
     | zero=>
      obtain rfl:c=a:=by simpa using g
      cases k with
      | zero=>rfl
      | succ k=>
       have:=(o k b (by simpa using m) n).1;exact fj (eH0 _ (by rw[e];simp)) this
     | succ j=>
      cases k with
      | zero=>
       obtain rfl:c=b:=by simpa using m
       have:=(o j a (by simpa using g) i).1;exact fj (eH0 _ (by rw[e];simp)) this
      | succ k=>rw[s j k a b (by simpa using g) (by simpa using m) i n e]
  .rw[fh hr]at h;obtain⟨o,s⟩:=bn7 h;refine⟨λj a g i=>?_,λj k a b g m i n e=>?_⟩
   .cases j with
    | zero=>
     obtain rfl:c=a:=by simpa using g
     exact fj i hr
    | succ j=>exact o j a (by simpa using g) i
   .cases j with
    | zero=>
     obtain rfl:c=a:=by simpa using g
     exact fj i hr
    | succ j=>
     cases k with
     | zero=>
      obtain rfl:c=b:=by simpa using m
      exact fj n hr
     | succ k=>rw[s j k a b (by simpa using g) (by simpa using m) i n e]
def eb8:ao4 prog 111=true:=kr
def dj5(x y:Fw)(w):p7 prog 216 #[.agg (A0.cells x).toArray,.agg (A0.cells y).toArray] w λu d=>(u = .int .i64 (fwC x y)/\Gr w d):=by
 apply y5 [.agg (A0.cells x).toArray,.agg (A0.cells y).toArray] func216 rfl;obtain⟨a,C,i,k,r⟩:=cw9 (P:=prog) (T:=213) (SV.ofN (n8 w) x) (n7 _);obtain⟨b,c,j,e,s⟩:=cw9 (P:=prog) (T:=213) (SV.ofN (n8 C) y) (n7 _);obtain⟨_,z⟩:=(r.mono (b7 e.ext)).fw;obtain⟨_,A⟩:=s.fw;have t:=z (λd=>Gr c.drew d) c.drew (Gr.refl _) λd h=>b7 ((Gr.drew c).trans h).ext;have v:=A (λd=>Gr c.drew d) c.drew (Gr.refl _) λd h=>b7 ((Gr.drew c).trans h).ext;simp only[eF,simprocAttr,i,j];refine C4 (λd=>Gr c.drew d) 18 (A8 [0,1,3,4,7,8,10,11,14,15,16,17,2,5,6,9,12,13]) ?_ (hS:=Gr.refl _);simp only[D7,A8,i4,n9,simprocAttr,t,v];refine F6 (az8 _ _) ⟨Gr.refl _,?_⟩;simp only[eY,simprocAttr];refine F6 (az8 _ _) ⟨Gr.refl _,?_⟩;simp only[eY,simprocAttr];refine F6 (af0 _ _ _) ⟨Gr.refl _,?_⟩;simp only[eY,simprocAttr];refine F6 (az8 _ _) ⟨Gr.refl _,?_⟩;simp only[eY,simprocAttr];refine F6 (az8 _ _) ⟨Gr.refl _,?_⟩;simp only[eY,simprocAttr];refine F6 (af0 _ _ _) ⟨Gr.refl _,?_⟩;simp only[eY,simprocAttr];apply F6 (aR1 _ _ _);generalize m:[O6 (I5 x.src) (I5 y.src),O6 (I5 x.dst) (I5 y.dst),am5 x.var y.var]=l;have q:fwC x y=orF l:=by rw[<-m];rfl
 have p:l.length=3:=by rw[<-m];rfl
 obtain⟨B,D,g,o,f⟩:=dQ8 (P:=prog) (w:=c.drew) (h:=n8 c.drew) (α:=Int) (xs:=[.int .i64 (O6 (I5 x.src) (I5 y.src)),.int .i64 (O6 (I5 x.dst) (I5 y.dst)),.int .i64 (am5 x.var y.var)]) (ys:=l) (parts:=#[(0,.int .i64 (O6 (I5 x.src) (I5 y.src))),(1,.int .i64 (O6 (I5 x.dst) (I5 y.dst))),(2,.int .i64 (am5 x.var y.var))]) (n:=3) V8 rfl (by rw[<-m];exact G6.2 rfl) (by simp[Value.cells]) rfl p dG dG (n7 _);simp only[i4,simprocAttr,g];apply F6 (cm3 B l D (o.rw_ (b7 f.ext)) om);simp only[i4,simprocAttr];apply o8 results216;simp only[C9,simprocAttr];exact⟨by rw[q],k.trans (e.trans ((Gr.drew c).trans f))⟩
def by8(x y:Vx)(w):p7 prog 111 #[x,y] w λu d=>(u=(vxC x y)/\Gr w d):=by
 apply y5 [x,y] func111 rfl;obtain⟨a,C,i,k,r⟩:=cw9 (P:=prog) (T:=27) (SV.ofN (n8 w) x) (n7 _);obtain⟨b,c,j,e,s⟩:=cw9 (P:=prog) (T:=27) (SV.ofN (n8 C) y) (n7 _);obtain⟨_,z⟩:=(r.mono (b7 e.ext)).vx;obtain⟨_,A⟩:=s.vx;have t:=z (λd=>Gr c.drew d) c.drew (Gr.refl _) λd h=>b7 ((Gr.drew c).trans h).ext;have v:=A (λd=>Gr c.drew d) c.drew (Gr.refl _) λd h=>b7 ((Gr.drew c).trans h).ext;simp only[eF,simprocAttr,i,j];refine C4 (λd=>Gr c.drew d) 19 (A8 [0,1,2,3,5,6,7,8,10,11,12,13,15,16,17,18,4,9,14]) ?_ (hS:=Gr.refl _);simp only[D7,A8,i4,n9,simprocAttr,t,v];refine F6 (aR1 _ _ _) ⟨Gr.refl _,?_⟩;simp only[eY,simprocAttr];refine F6 (af0 _ _ _) ⟨Gr.refl _,?_⟩;simp only[eY,simprocAttr];refine F6 (af0 _ _ _) ⟨Gr.refl _,?_⟩;simp only[eY,simprocAttr];apply F6 (aR1 _ _ _);generalize m:[am5 x.proc y.proc,O6 x.kind y.kind,O6 x.id y.id,am5 x.slot y.slot]=l;have q:vxC x y=orF l:=by rw[<-m];rfl
 have p:l.length=4:=by rw[<-m];rfl
 obtain⟨B,D,g,o,f⟩:=dQ8 (P:=prog) (w:=c.drew) (h:=n8 c.drew) (α:=Int) (xs:=[(am5 x.proc y.proc),(O6 x.kind y.kind),(O6 x.id y.id),(am5 x.slot y.slot)]) (ys:=l) (parts:=#[(0,(am5 x.proc y.proc)),(1,(O6 x.kind y.kind)),(2,(O6 x.id y.id)),(3,(am5 x.slot y.slot))]) (n:=4) V8 rfl (by rw[<-m];exact G6.2 rfl) (by simp[Value.cells]) rfl p dG dG (n7 _);simp only[i4,simprocAttr,g];apply F6 (cm3 B l D (o.rw_ (b7 f.ext)) om);simp only[i4,simprocAttr];apply o8 results111;simp only[C9,simprocAttr];exact⟨by rw[q],k.trans (e.trans ((Gr.drew c).trans f))⟩
def dV9{P k}{args:List Value}{w}{K:Fr->World->Prop}{f}{d:Option Nat}{v}(hb:ao4 P k=true)
  (h:Calls P k args.toArray w λe a=>∃u,e = .returned u/\(u=v/\Gr w a)) (c:∀a,Gr w a->K (G9 f d v) a):aN4 P k args w K f d:=
 z6 (hb:=hb) h λu a ⟨e,b⟩=>by subst e;exact c a b
def di3(x y:Eg)(w):p7 prog 109 #[x,y] w λu c=>(u=(egC x y)/\Gr w c):=by
 apply y5 [x,y] func109 rfl;obtain⟨a,Z,o,q,O⟩:=cw9 (P:=prog) (T:=54) (SV.ofN (n8 w) x) (n7 _);obtain⟨b,d,p,i,Q⟩:=cw9 (P:=prog) (T:=54) (SV.ofN (n8 Z) y) (n7 _);obtain⟨E,D,_,R⟩:=(O.mono (b7 i.ext)).eg;obtain⟨G,F,_,S⟩:=Q.eg;obtain⟨U,t,_,I⟩:=E.vx_v;obtain⟨V,A,_,J⟩:=D.vx_v;obtain⟨W,B,_,K⟩:=G.vx_v;obtain⟨X,C,_,L⟩:=F.vx_v;have hN:∀{v:Value} {z:Vx},SV (n8 d) v z->v=z:=fun{v z} ⟨cs,e,h1⟩=>by rw[e,(A0.iff_ _ _ _).1 h1]
 obtain rfl:=hN t;obtain rfl:=hN A;obtain rfl:=hN B;obtain rfl:=hN C;have g:∀c,Gr d.drew c->E6 (n8 d) (n8 c):=λc h=>b7 ((Gr.drew d).trans h).ext;simp only[eF,simprocAttr,o,p];refine C4 (λc=>Gr d.drew c) 14 (A8 [0,1,2,3,5,6,7,8,10,11,12,13,4,9]) ?_ (hS:=Gr.refl _);simp only[D7,A8,i4,n9,simprocAttr,R (λc=>Gr d.drew c) d.drew (Gr.refl _) g,S (λc=>Gr d.drew c) d.drew (Gr.refl _) g,I (λc=>Gr d.drew c) d.drew (Gr.refl _) g,J (λc=>Gr d.drew c) d.drew (Gr.refl _) g,K (λc=>Gr d.drew c) d.drew (Gr.refl _) g,L (λc=>Gr d.drew c) d.drew (Gr.refl _) g];refine dV9 eb8 (by8 x.src y.src _) (λw3 f=>⟨f,?_⟩);simp only[eY,simprocAttr];refine dV9 eb8 (by8 x.dst y.dst _) (λH j=>⟨f.trans j,?_⟩);simp only[eY,simprocAttr];apply F6 (af0 _ _ _);generalize r:[vxC x.src y.src,vxC x.dst y.dst,O6 x.kind y.kind]=l;have N:egC x y=orF l:=by rw[<-r];rfl
 have M:l.length=3:=by rw[<-r];rfl
 obtain⟨Y,w5,m,s,k⟩:=dQ8 (P:=prog) (w:=H) (h:=n8 H) (α:=Int) (xs:=[(vxC x.src y.src),(vxC x.dst y.dst),(O6 x.kind y.kind)]) (ys:=l) (parts:=#[(0,(vxC x.src y.src)),(1,(vxC x.dst y.dst)),(2,(O6 x.kind y.kind))]) (n:=3) V8 rfl (by rw[<-r];exact G6.2 rfl) (by simp[Value.cells]) rfl M dG dG (n7 _);simp only[i4,simprocAttr,m];apply F6 (cm3 Y l w5 (s.rw_ (b7 k.ext)) om);simp only[i4,simprocAttr];apply o8 results109;simp only[C9,simprocAttr];exact⟨by rw[N],q.trans (i.trans ((Gr.drew d).trans ((f.trans j).trans k)))⟩
def or3(a b c):orF [a,b,c]=if a=0 then(if b=0 then(if c=0 then 0 else c)else b)else a:=by simp only[orF]
def or4(a b c d):orF [a,b,c,d]=if a=0 then(if b=0 then(if c=0 then(if d=0 then 0 else d)else c)else b)else a:=by simp only[orF]
def cx8:Cm fwC:=by
 have h:=(aZ6.key (λx:Fw=>I5 x.src)).lex ((aZ6.key (λx:Fw=>I5 x.dst)).lex ((cM7.key (λx:Fw=>x.var)).lex Cm.zero));have e:fwC=λx y:Fw=>if O6 (I5 x.src) (I5 y.src)=0 then(if O6 (I5 x.dst) (I5 y.dst)=0 then(if am5 x.var y.var=0 then 0 else am5 x.var y.var)else O6 (I5 x.dst) (I5 y.dst))else O6 (I5 x.src) (I5 y.src):=by
  funext x y
  exact or3 _ _ _
 rw[e];exact h
def bj2:Cm vxC:=by
 have h:=(cM7.key (λx:Vx=>x.proc)).lex ((aZ6.key (λx:Vx=>x.kind)).lex ((aZ6.key (λx:Vx=>x.id)).lex ((cM7.key (λx:Vx=>x.slot)).lex Cm.zero)));have e:vxC=λx y:Vx=>if am5 x.proc y.proc=0 then(if O6 x.kind y.kind=0 then(if O6 x.id y.id=0 then(if am5 x.slot y.slot=0 then 0 else am5 x.slot y.slot)else O6 x.id y.id)else O6 x.kind y.kind)else am5 x.proc y.proc:=by
  funext x y
  exact or4 _ _ _ _
 rw[e];exact h
def dW0:Cm egC:=by
 have h:=(bj2.key (λx:Eg=>x.src)).lex ((bj2.key (λx:Eg=>x.dst)).lex ((aZ6.key (λx:Eg=>x.kind)).lex Cm.zero));have e:egC=λx y:Eg=>if vxC x.src y.src=0 then(if vxC x.dst y.dst=0 then(if O6 x.kind y.kind=0 then 0 else O6 x.kind y.kind)else vxC x.dst y.dst)else vxC x.src y.src:=by
  funext x y
  exact or3 _ _ _
 rw[e];exact h
def cA4{a b:Fw}(c:plc a.src/\plc a.dst)(d:plc b.src/\plc b.dst)(h:fwC a b=0):a=b:=by
 unfold fwC at h;rw[or3]at h;by_cases q1:O6 (I5 a.src) (I5 b.src)=0
 .rw[fi q1]at h;by_cases q2:O6 (I5 a.dst) (I5 b.dst)=0
  .rw[fi q2]at h;by_cases q3:am5 a.var b.var=0
   .have e:=bv7 c.1 d.1 (ak7 q1);have f:=bv7 c.2 d.2 (ak7 q2);have g:=aO9 q3;cases a;cases b;simp_all
   .rw[fh q3]at h;exact fj h q3
  .rw[fh q2]at h;exact fj h q2
 .rw[fh q1]at h;exact fj h q1
def aQ8{a b:Vx}(h:vxC a b=0):a=b:=by
 unfold vxC at h;rw[or4]at h;by_cases q1:am5 a.proc b.proc=0
 .rw[fi q1]at h;by_cases q2:O6 a.kind b.kind=0
  .rw[fi q2]at h;by_cases q3:O6 a.id b.id=0
   .rw[fi q3]at h;by_cases q4:am5 a.slot b.slot=0
    .have c:=aO9 q1;have d:=ak7 q2;have e:=ak7 q3;have f:=aO9 q4;cases a;cases b;simp_all
    .rw[fh q4]at h;exact fj h q4
   .rw[fh q3]at h;exact fj h q3
  .rw[fh q2]at h;exact fj h q2
 .rw[fh q1]at h;exact fj h q1
def dw8{a b:Eg}(h:egC a b=0):a=b:=by
 unfold egC at h;rw[or3]at h;by_cases q1:vxC a.src b.src=0
 .rw[fi q1]at h;by_cases q2:vxC a.dst b.dst=0
  .rw[fi q2]at h;by_cases q3:O6 a.kind b.kind=0
   .have c:=aQ8 q1;have d:=aQ8 q2;have e:=ak7 q3;cases a;cases b;simp_all
   .rw[fh q3]at h;exact fj h q3
  .rw[fh q2]at h;exact fj h q2
 .rw[fh q1]at h;exact fj h q1
def Cm.eq0{α:Type}{c:α->α->Int}(h:Cm c){a b:α}(d:decide (c a b<=0)=true)(e:decide (c b a<=0)=true):c a b=0:=by
 have f:=eD3 d;have g:=eD3 e;have i:=h.anti a b;omega
def ep3:I4 prog 210 213 3 32=true:=kr
def aD8:I4 prog 35 27 4 48=true:=kr
def cj9:I4 prog 49 54 9 104=true:=kr
def dm1:(Tryz.lySortF_ren.f 6)=215:=kr
def ch0:(Tryz.lySortF_ren.t 24)=213:=kr
def cT0{h w v}{xs:List Fw}(k:B7 h w 213 v xs)(j:xs.length<=1000000000)(l:∀a∈xs,∀b∈xs,decide (fwC a b<=0)=true->decide (fwC b a<=0)=true->a=b):
  Calls prog 215 #[v,.func (.func 216) #[] #[]] w λe c=>∃u,e = .returned u/\(B7 h c 213 v (af2 cb5 xs)/\t8 (B0 v) w c):=by
 rw[<-dm1];have d:∀w,(isAgg (Tryz.lySortF_ren.t 24)).run prog w = .ok true w:=λw=>by
  rw[ch0,al5 _ dI8,dH0]
 have m:∀w,(Go.sizeOf (Tryz.lySortF_ren.t 24)).run prog w = .ok (A9.sz Fw) w:=λw=>by
  rw[ch0,X3 cU5,bY5];rfl
 exact bh1 (P:=prog) (T:=213) Tryz.lySortF d m fwC cx8 216 (enters_of func216 kr rfl) (λx y w=>(dj5 x y w).mono λe c ⟨u,f,g,i⟩=>⟨by rw[f,g],i⟩) k j l
def dm3:(Tryz.lySortV_ren.f 6)=145:=kr
def ch2:(Tryz.lySortV_ren.t 24)=27:=kr
def cT1{h w v}{xs:List Vx}(k:B7 h w 27 v xs)(j:xs.length<=1000000000)(l:∀a∈xs,∀b∈xs,decide (vxC a b<=0)=true->decide (vxC b a<=0)=true->a=b):
  Calls prog 145 #[v,.func (.func 111) #[] #[]] w λe c=>∃u,e = .returned u/\(B7 h c 27 v (af2 dq0 xs)/\t8 (B0 v) w c):=by
 rw[<-dm3];have d:∀w,(isAgg (Tryz.lySortV_ren.t 24)).run prog w = .ok true w:=λw=>by
  rw[ch2,al5 _ aB8,aB7]
 have m:∀w,(Go.sizeOf (Tryz.lySortV_ren.t 24)).run prog w = .ok (A9.sz Vx) w:=λw=>by
  rw[ch2,X3 av4,R3];rfl
 exact bh1 (P:=prog) (T:=27) Tryz.lySortV d m vxC bj2 111 (enters_of func111 kr rfl) (λx y w=>(by8 x y w).mono λe c ⟨u,f,g,i⟩=>⟨by rw[f,g],i⟩) k j l
def dm0:(Tryz.lySortE_ren.f 6)=108:=kr
def cg8:(Tryz.lySortE_ren.t 24)=54:=kr
def cH6{h w v}{xs:List Eg}(k:B7 h w 54 v xs)(j:xs.length<=1000000000)(l:∀a∈xs,∀b∈xs,decide (egC a b<=0)=true->decide (egC b a<=0)=true->a=b):
  Calls prog 108 #[v,.func (.func 109) #[] #[]] w λe c=>∃u,e = .returned u/\(B7 h c 54 v (af2 cy6 xs)/\t8 (B0 v) w c):=by
 rw[<-dm0];have d:∀w,(isAgg (Tryz.lySortE_ren.t 24)).run prog w = .ok true w:=λw=>by
  rw[cg8,al5 _ bK1,bJ7]
 have m:∀w,(Go.sizeOf (Tryz.lySortE_ren.t 24)).run prog w = .ok (A9.sz Eg) w:=λw=>by
  rw[cg8,X3 bk6,aw4];rfl
 exact bh1 (P:=prog) (T:=54) Tryz.lySortE d m egC dW0 109 (enters_of func109 kr rfl) (λx y w=>(di3 x y w).mono λe c ⟨u,f,g,i⟩=>⟨by rw[f,g],i⟩) k j l
def aP4(n:Int)(k:Nat)(d:0<k):∃N:Nat,cD8 n k=N/\N<k:=by
 have a:¬((k:Int)<1):=om
 have b : -(k:Int)<n.tmod k:=Int.lt_tmod_of_pos n om;have c:n.tmod k<k:=Int.tmod_lt_of_pos n om;unfold cD8;rw[fh a];split
 .exact⟨(n.tmod k+k).toNat,om,om⟩
 .exact⟨(n.tmod k).toNat,om,om⟩
def H1.rowlen{n}{l:List (List Int)}(h:H1 n l)(a):(F1 l a).length<=n:=by
 have:=aV3 (n:=n) (m:=0) (h.row a).1 (λy b=>C0.1 ((h.row a).2 y b)) om;omega
inductive aN5 (nx gen kill:List (List Int)):Int->Nat->Prop
 | gen {a b:Int} {f:Nat}:b∈F1 nx a->(f:Int)∈F1 gen a->aN5 nx gen kill b f
 | step {a b:Int} {f:Nat}:b∈F1 nx a->aN5 nx gen kill a f->(f:Int)∉F1 kill a->aN5 nx gen kill b f
def wAt(a:List (List W))(b:Int):List W:=a.getD b.toNat []
def aA4(a:List (List W))(b:Int)(f:Nat):Bool:=X9 (wAt a b) f
def dU8{c:List (List W)}{n}(g:c.length=n){a b:Int}(d:J2 n a=true)(hb:J2 n b=true)(r:List W):wAt (c.set a.toNat r) b=if b=a then r else wAt c b:=by
 have e:=C0.1 d;have f:=C0.1 hb;unfold wAt;simp only[getD];by_cases h:b=a
 .subst h;rw[fi rfl,eL0 om];rfl
 .rw[fh h,eN0 om]
def az5{b:List (List W)}{n}(e:b.length=n){a:Int}(c:J2 n a=true):b[a.toNat]?=some (wAt b a):=by
 have d:=C0.1 c;unfold wAt;have:a.toNat<b.length:=om
 simp[getD,this]
def ca9(most:Nat)(r:List W):Nat:=(range most).countP (X9 r)
def bc8(most:Nat)(a:List (List W)):Nat:=(a.map (ca9 most)).sum
def dO0(most)(r:List W):ca9 most r<=most:=by
 have:=countP_le_length (p:=X9 r) (l:=range most);rw[eI3]at this;exact this
def bv1(most):∀a:List (List W),bc8 most a<=a.length*most
 | []=>by simp[bc8]
 | r::a=>by
  have b:=bv1 most a;have c:=dO0 most r;simp only[bc8,eI4,eO9,eG6]at *;rw[eP3];omega
def bv2(most):∀(a:List (List W)) (i:Nat) (r b:List W),a[i]?=some r->bc8 most (a.set i b)+ca9 most r=bc8 most a+ca9 most b
 | [],i,r,b,h=>by simp at h
 | x::a,0,r,b,h=>by
  simp at h;subst h;simp only[bc8,set_cons_zero,eI4,eO9];omega
 | x::a,i+1,r,b,h=>by
  have:=bv2 most a i r b (by simpa using h);simp only[bc8,set_cons_succ,eI4,eO9]at *;omega
def bP8{p q:Nat->Bool}{m}:∀{l:List Nat},(∀x,p x=true->q x=true)->m∈l->q m=true->p m=false->l.countP p<l.countP q
 | [],_,h,_,_=>by cases h
 | x::l,hqp,h,hp,hq=>by
  have E6:l.countP p<=l.countP q:=countP_mono_left λx _=>hqp x;rw[countP_cons,countP_cons];by_cases hx:m=x
  .subst hx;simp[hp,hq];omega
  .have hm:m∈l:=by
    rcases eF0.1 h with h|h
    .exact fj h hx
    .exact h
   have:=bP8 hqp hm hp hq;by_cases h1:p x=true
   .simp[h1,hqp x h1];omega
   .simp only[h1,eK7,eM4];split<;>omega
def bP6{most}{b c:List W}(a:b.length=c.length)(g:∀f,X9 c f=true->f<most)(hm:aw3 b c=true):ca9 most b<ca9 most (orB b c):=by
 obtain⟨f,d,e⟩:=(ch5 a).1 hm;exact bP8 (m:=f) (λx h=>by rw[aT3 a,h];rfl) (eH7.2 (g f d)) (by rw[aT3 a,d];simp) e
def dR8{b c:List W}(a:b.length=c.length)(hm:aw3 b c=false)(f):X9 (orB b c) f=X9 b f:=by
 rw[aT3 a];cases hb:X9 b f
 .cases hc:X9 c f
  .rfl
  .have:=(ch5 a).2 ⟨f,hc,hb⟩;rw[hm]at this;cases this
 .rfl
def cv4(c b:List (List Int))(d:List (List W))(a:Int)(f:Nat):Prop:=(f:Int)∈F1 c a\/(aA4 d a f=true/\(f:Int)∉F1 b a)
section
variable (nx gen kill:List (List Int)) (most:Nat)
structure SB (ins:List (List W)) (todo:List Int) (waits:List Bool):Prop where
 ilen:ins.length=nx.length
 rlen:∀r∈ins,r.length=most / 64+1
 wlen:waits.length=nx.length
 ok:∀a∈todo,J2 nx.length a=true
 wt:∀a,A5 waits a=true↔a∈todo
 nodup:todo.Nodup
 sound:∀b f,J2 nx.length b=true->aA4 ins b f=true->aN5 nx gen kill b f
 low:∀b f,J2 nx.length b=true->aA4 ins b f=true->f<most
def dr2(c:List (List W))(a:Int):Prop:=∀b∈F1 nx a,∀f,cv4 gen kill c a f->aA4 c b f=true
structure SI (ins:List (List W)) (todo:List Int) (waits:List Bool) (T:Nat):Prop extends SB nx gen kill most ins todo waits where
 closed:∀a,J2 nx.length a=true->A5 waits a=false->dr2 nx gen kill ins a
 few:T+todo.length<=nx.length+bc8 most ins
 many:nx.length<=T+todo.length
structure SJ (a:Int) (goes:List W) (k:Nat) (ins:List (List W)) (todo:List Int) (waits:List Bool) (T:Nat):Prop extends SB nx gen kill most ins todo waits where
 closed:∀c,J2 nx.length c=true->c≠a->A5 waits c=false->dr2 nx gen kill ins c
 mine:A5 waits a=false->∀f,X9 goes f=true↔cv4 gen kill ins a f
 done:∀b∈(F1 nx a).take k,∀f,X9 goes f=true->aA4 ins b f=true
 few:T+todo.length<=nx.length+bc8 most ins
 many:nx.length<=T+todo.length
end
section
variable {nx gen kill:List (List Int)} {most:Nat} {ins:List (List W)} {todo:List Int} {waits:List Bool} {T:Nat} {a:Int} {goes:List W} {k:Nat}
def SI.start(c:ins=replicate nx.length (replicate (most / 64+1) 0#64))(d:∀a,a∈todo↔J2 nx.length a=true)(k:todo.Nodup)(m:todo.length=nx.length)(hw:waits=replicate nx.length true):SI nx gen kill most ins todo waits 0:=by
 have i:∀b f,J2 nx.length b=true->aA4 ins b f=false:=by
  intro b f e;have:=C0.1 e;subst c;unfold aA4 wAt;simp only[getD,eO7];rw[fi om];exact cB0
 have g:∀b,A5 waits b=true↔J2 nx.length b=true:=by
  intro b;subst hw;constructor
  .intro h;have:=W3 h;simpa using this
  .intro h;have n:=(O5 (l:=replicate nx.length true) (b:=b) (by simpa using h)).2;rw[n];have:=C0.1 h;simp only[getD,eO7];rw[fi om];rfl
 refine⟨⟨by subst c;simp,λr o=>?_,by subst hw;simp,λa j=>(d a).1 j,λa=>by rw[g,d],k,(λb f e h=>(by rw[i b f e]at h;cases h)),(λb f e h=>(by rw[i b f e]at h;cases h))⟩,λa j h=>?_,om,om⟩
 .subst c;rw[eK9 o];simp
 .have:=(g a).2 j;rw[h]at this;cases this
def SI.pop{d:List Int}(h:SI nx gen kill most ins (a::d) waits T)(n:∀f,X9 goes f=true↔cv4 gen kill ins a f):SJ nx gen kill most a goes 0 ins d (waits.set a.toNat false) (T+1):=by
 have l:J2 nx.length a=true:=h.ok a dG;have j:∀b,A5 (waits.set a.toNat false) b=if b=a then false else A5 waits b:=λb=>O2 (by rw[h.wlen];exact l);have g:=eQ2.1 h.nodup;refine⟨⟨h.ilen,h.rlen,by simp[h.wlen],λb e=>h.ok b (by simp[e]),λb=>?_,g.2,h.sound,h.low⟩,λc m i k=>?_,λ_=>n,λb e=>by simp at e,?_,?_⟩
 .rw[j];by_cases e:b=a
  .subst e;simp[g.1]
  .rw[fh e,h.wt];simp[e]
 .rw[j,fh i]at k;exact h.closed c m k
 .have:=h.few;simp only[eG6]at this;omega
 .have:=h.many;simp only[eG6]at this;omega
def SJ.core{b:Int}(q:H1 nx.length nx)(h:SJ nx gen kill most a goes k ins todo waits T)(B:goes.length=most / 64+1)(C:∀f,X9 goes f=true->f<most/\∀b∈F1 nx a,aN5 nx gen kill b f)(hb:(F1 nx a)[k]?=some b)(w:J2 nx.length b=true)
  {i:List Int} {g:List Bool} (L:g.length=nx.length) (J:∀a∈i,J2 nx.length a=true) (M:∀c,A5 g c=true↔c∈i) (I:i.Nodup) (u:∀c,A5 g c=false->A5 waits c=false)
  (y:aw3 (wAt ins b) goes=true->A5 g b=true) (A:T+i.length<=nx.length+bc8 most (ins.set b.toNat (orB (wAt ins b) goes))) (x:nx.length<=T+i.length) :
  SJ nx gen kill most a goes (k+1) (ins.set b.toNat (orB (wAt ins b) goes)) i g T:=by
 have s:(wAt ins b).length=goes.length:=by rw[B];exact h.rlen _ (eF7 (az5 h.ilen w))
 have z:b∈F1 nx a:=eF7 hb;have m:∀c f,J2 nx.length c=true->aA4 (ins.set b.toNat (orB (wAt ins b) goes)) c f=if c=b then(aA4 ins b f||X9 goes f)else aA4 ins c f:=by
  intro c f l;unfold aA4;rw[dU8 h.ilen w l];by_cases e:c=b
  .rw[fi e,fi e,aT3 s]
  .rw[fh e,fh e]
 have v:∀c f,J2 nx.length c=true->aA4 ins c f=true->aA4 (ins.set b.toNat (orB (wAt ins b) goes)) c f=true:=by
  intro c f l o;rw[m c f l];split
  .rename_i e;subst e;rw[o];rfl
  .exact o
 have E:∀c,J2 nx.length c=true->A5 g c=false->∀f,aA4 (ins.set b.toNat (orB (wAt ins b) goes)) c f=aA4 ins c f:=by
  intro c l t f;rw[m c f l];split
  .rename_i e;subst e;have hm:aw3 (wAt ins c) goes=false:=by
    cases e:aw3 (wAt ins c) goes
    .rfl
    .rw[y e]at t;cases t
   have:=dR8 s hm f;rw[aT3 s]at this;exact this
  .rfl
 have D:∀c d,d∈F1 nx c->J2 nx.length c=true:=by
  intro c d n;cases e:J2 nx.length c
  .rw[bw1 e]at n;cases n
  .rfl
 have j:∀c,J2 nx.length c=true->A5 g c=false->∀f,cv4 gen kill (ins.set b.toNat (orB (wAt ins b) goes)) c f↔cv4 gen kill ins c f:=by
  intro c l t f;unfold cv4;rw[E c l t f]
 refine⟨⟨by simp[h.ilen],λr Q=>?_,L,J,M,I,λc f l o=>?_,λc f l o=>?_⟩,λc l F t d n f P=>?_,λt f=>?_,λd n f N=>?_,A,x⟩
 .rcases eM5 Q with p|p
  .exact h.rlen r p
  .rw[p,cq9 s,s,B]
 .rw[m c f l]at o;split at o
  .rename_i e;subst e;rcases Bool.or_eq_true_iff.1 o with p|p
   .exact h.sound _ f l p
   .exact(C f p).2 _ z
  .exact h.sound c f l o
 .rw[m c f l]at o;split at o
  .rename_i e;subst e;rcases Bool.or_eq_true_iff.1 o with p|p
   .exact h.low _ f l p
   .exact(C f p).1
  .exact h.low c f l o
 .have G:=h.closed c l F (u c t) d n f ((j c l t f).1 P);have H:J2 nx.length d=true:=(q.row c).2 d n;exact v d f H G
 .have O:J2 nx.length a=true:=D a b z;rw[j a O t f];exact h.mine (u a t) f
 .have K:(F1 nx a).take (k+1)=(F1 nx a).take k++[b]:=by
   rw[eQ5,hb];rfl
  rw[K,eE0,eE7]at n;rcases n with n|n
  .exact v d f ((q.row a).2 d (eL5 n)) (h.done d n f N)
  .subst n;rw[m d f w,fi rfl,N,eQ1]
def SJ.old{b:Int}(d:H1 nx.length nx)(h:SJ nx gen kill most a goes k ins todo waits T)(g:goes.length=most / 64+1)(i:∀f,X9 goes f=true->f<most/\∀b∈F1 nx a,aN5 nx gen kill b f)(hb:(F1 nx a)[k]?=some b)(c:J2 nx.length b=true)
  (e:aw3 (wAt ins b) goes=false\/A5 waits b=true):SJ nx gen kill most a goes (k+1) (ins.set b.toNat (orB (wAt ins b) goes)) todo waits T:=by
 have j:(wAt ins b).length=goes.length:=by rw[g];exact h.rlen _ (eF7 (az5 h.ilen c))
 have n:=bv2 most ins b.toNat (wAt ins b) (orB (wAt ins b) goes) (az5 h.ilen c);have E6:ca9 most (wAt ins b)<=ca9 most (orB (wAt ins b) goes):=countP_mono_left λx _ m=>by rw[aT3 j,m];rfl
 refine h.core d g i hb c h.wlen h.ok h.wt h.nodup (λ_ l=>l) (λhm=>?_) (by have:=h.few;omega) h.many;rcases e with e|e
 .rw[hm]at e;cases e
 .exact e
def SJ.new{b:Int}(i:H1 nx.length nx)(h:SJ nx gen kill most a goes k ins todo waits T)(j:goes.length=most / 64+1)(l:∀f,X9 goes f=true->f<most/\∀b∈F1 nx a,aN5 nx gen kill b f)(hb:(F1 nx a)[k]?=some b)(d:J2 nx.length b=true)
  (hm:aw3 (wAt ins b) goes=true) (m:A5 waits b=false):SJ nx gen kill most a goes (k+1) (ins.set b.toNat (orB (wAt ins b) goes)) (todo++[b]) (waits.set b.toNat true) T:=by
 have o:(wAt ins b).length=goes.length:=by rw[j];exact h.rlen _ (eF7 (az5 h.ilen d))
 have v:=bv2 most ins b.toNat (wAt ins b) (orB (wAt ins b) goes) (az5 h.ilen d);have t:=bP6 (most:=most) o (λf r=>(l f r).1) hm;have p:∀c,A5 (waits.set b.toNat true) c=if c=b then true else A5 waits c:=λc=>O2 (by rw[h.wlen];exact d);have n:b∉todo:=λs=>by rw[(h.wt b).2 s]at m;cases m
 refine h.core i j l hb d (by simp[h.wlen]) (λc g=>?_) (λc=>?_) ?_ (λc g=>?_) (λ_=>by rw[p,fi rfl]) ?_ ?_
 .rcases eE0.1 g with g|g
  .exact h.ok c g
  .simp at g;subst g;exact d
 .rw[p];by_cases e:c=b
  .subst e;simp
  .rw[fh e,h.wt];simp[e]
 .refine eI6.2 ⟨h.nodup,dG,?_⟩;intro x u y q e;simp at q;subst q;subst e;exact n u
 .rw[p]at g;split at g
  .cases g
  .exact g
 .have:=h.few;simp only[eD4,eG6,eK5];omega
 .have:=h.many;simp only[eD4,eG6,eK5];omega
def SJ.pot{b:Int}(h:SJ nx gen kill most a goes k ins todo waits T)(e:goes.length=most / 64+1)(g:∀f,X9 goes f=true->f<most/\∀b∈F1 nx a,aN5 nx gen kill b f)(c:J2 nx.length b=true):
  bc8 most ins<=bc8 most (ins.set b.toNat (orB (wAt ins b) goes))/\(aw3 (wAt ins b) goes=true->bc8 most ins+1<=bc8 most (ins.set b.toNat (orB (wAt ins b) goes))):=by
 have d:(wAt ins b).length=goes.length:=by rw[e];exact h.rlen _ (eF7 (az5 h.ilen c))
 have m:=bv2 most ins b.toNat (wAt ins b) (orB (wAt ins b) goes) (az5 h.ilen c);have E6:ca9 most (wAt ins b)<=ca9 most (orB (wAt ins b) goes):=countP_mono_left λx _ l=>by rw[aT3 d,l];rfl
 refine⟨om,λhm=>?_⟩;have j:=bP6 (most:=most) d (λf i=>(g f i).1) hm;omega
def SJ.fin(h:SJ nx gen kill most a goes k ins todo waits T)(l:k=(F1 nx a).length):SI nx gen kill most ins todo waits T:=by
 refine⟨h.toSB,λc g b=>?_,h.few,h.many⟩;by_cases e:c=a
 .subst e;intro d i f j;refine h.done d ?_ f ((h.mine b f).2 j);rw[l,eE4];exact i
 .exact h.closed c g e b
def SI.fin(k:H1 nx.length nx)(h:SI nx gen kill most ins [] waits T):(∀b f,J2 nx.length b=true->(aA4 ins b f=true↔aN5 nx gen kill b f))/\nx.length<=T/\T<=nx.length+nx.length*most:=by
 have n:∀a,A5 waits a=false:=λa=>by
  cases e:A5 waits a
  .rfl
  .have:=(h.wt a).1 e;cases this
 have g:∀c d,d∈F1 nx c->J2 nx.length c=true:=by
  intro c d m;cases e:J2 nx.length c
  .rw[bw1 e]at m;cases m
  .rfl
 refine⟨λb f l=>⟨h.sound b f l,λp=>?_⟩,by simpa using h.many,?_⟩
 .clear l
  induction p with
  | gen i j=>exact h.closed _ (g _ _ i) (n _) _ i _ (.inl j)
  | step i _ o q=>exact h.closed _ (g _ _ i) (n _) _ i _ (.inr ⟨q,o⟩)
 .have i:=h.few;have j:=bv1 most ins;rw[h.ilen]at j;simp only[eK5]at i;omega
def dW6(n most:Nat)(ins:List (List W))(todo:List Int):Nat:=(n*most-bc8 most ins)+todo.length
end
def bJ0{nx:List (List Int)}{a b}(h:b∈F1 nx a):0<=a/\a<nx.length:=by
 unfold F1 at h;split at h
 .next c=>exact c
 .simp at h
def dh6{nx s y:List (List Int)}{g:List Nat}(v:∀(a:Int) (f:Nat),(f:Int)∈F1 s a↔∃A:Nat,g[f]?=some A/\a=(A:Int))(w:∀(a:Int) (f:Nat),f<g.length->((f:Int)∈F1 y a↔∃A∈g,a=(A:Int)))
  {f A:Nat} (p:g[f]?=some A) (c:Int):aN5 nx s y c f↔∃d∈F1 nx (A:Int),Y6 (aL9 nx λq=>g.contains q) d c:=by
 have k:f<g.length:=(eD8.1 p).1;constructor
 .intro h;generalize u:f=F at h
  induction h with
  | @gen a b B m l=>
   subst u;obtain⟨z,t,rfl⟩:=(v _ _).1 l;rw[p]at t;obtain rfl:=eF3 t;exact⟨b,m,.refl⟩
  | @step a b B m i e r=>
   subst u;obtain⟨d,o,n⟩:=r rfl;refine⟨d,o,.step n ?_⟩;have D:=bJ0 m;rw[aG4,fh]
   .exact m
   .intro j;rw[eE6]at j;exact e ((w a f k).2 ⟨a.toNat,j,om⟩)
 .rintro⟨d,o,n⟩
  induction n with
  | refl=>exact .gen o ((v _ _).2 ⟨A,p,rfl⟩)
  | @step b c n i r=>
   rw[aG4]at i;split at i
   .simp at i
   .next x=>
    refine .step i r λe=>?_;obtain⟨z,C,rfl⟩:=(w b f k).1 e;rw[eF4]at x;exact x (eE6.2 C)
def cM8{nx:List (List Int)}(a:OkR nx){b:List Nat}{A c}:bA1 nx b A c=true↔∃d∈F1 nx (A:Int),Y6 (aL9 nx λq=>b.contains q) d (c:Int):=by
 unfold bA1;rw[eP6];constructor
 .rintro⟨d,e,h⟩;exact⟨d,e,(cr4 (aP5 a _) (by rw[al9];exact a _ _ e)).1 h⟩
 .rintro⟨d,e,h⟩;exact⟨d,e,(cr4 (aP5 a _) (by rw[al9];exact a _ _ e)).2 h⟩
def ar7(a:List Nat)(g:Nat->List Int)(n:Nat):Nat->List (List Int)
 | 0=>replicate n []
 | k+1=>(ar7 a g n k).set (a.getD k 0) (g k)
def ai0(a:List Nat)(g:Nat->List Int)(n):∀k,(ar7 a g n k).length=n
 | 0=>by simp[ar7]
 | k+1=>by rw[ar7,eK6,ai0 a g n k]
def aQ0{b:List Nat}{g:Nat->List Int}{n}(m:b.Nodup)(d:∀a∈b,a<n):∀k,k<=b.length->∀(a:Nat) (r:List Int),(ar7 b g n k)[a]?=some r->(∃f,f<k/\b[f]?=some a/\r=g f)\/((∀f,f<k->b[f]?≠some a)/\r=[])
 | 0,_,a,r,h=>by
  rw[ar7]at h;exact .inr ⟨λf p=>om,eK9 (eF7 h)⟩
 | k+1,hk,a,r,h=>by
  have c:k<b.length:=om
  have l:b.getD k 0=b[k]:=by rw[getD,eD1 c];rfl
  rw[ar7,l]at h;by_cases ha:b[k]=a
  .subst ha;rw[eL0 (by rw[ai0];exact d _ (eE1 c))]at h;exact .inl ⟨k,om,eD1 c,(eF3 h).symm⟩
  .rw[eN0 ha]at h;rcases aQ0 m d k om a r h with⟨f,p,i,j⟩|⟨i,j⟩
   .exact .inl ⟨f,om,i,j⟩
   .refine .inr ⟨λf p=>?_,j⟩;rcases eH4 f k with o|o
    .exact i f o
    .obtain rfl:f=k:=om
     rw[eD1 c];exact λe=>ha (eF3 e)
def cj6{b:List Nat}{g:Nat->List Int}{n}(e:b.Nodup)(d:∀a∈b,a<n)(a x):x∈F1 (ar7 b g n b.length) a↔∃(f A:Nat),b[f]?=some A/\a=(A:Int)/\x∈g f:=by
 constructor
 .intro h;obtain⟨t,u⟩:=bJ0 h;unfold F1 at h;rw[fi ⟨t,u⟩]at h;have c:(ar7 b g n b.length)[a.toNat]?=some ((ar7 b g n b.length).getD a.toNat []):=by
   rw[getD,eD1 om];rfl
  rcases aQ0 e d _ (eE8 _) _ _ c with⟨f,k,i,j⟩|⟨_,j⟩
  .rw[j]at h;exact⟨f,a.toNat,i,om,h⟩
  .rw[j]at h;simp at h
 .rintro⟨f,A,k,rfl,y⟩;have v:=d A (eF7 k);have m:f<b.length:=(eD8.1 k).1;unfold F1;rw[ai0,fi ⟨om,om⟩,eF4];have c:(ar7 b g n b.length)[A]?=some ((ar7 b g n b.length).getD A []):=by
   rw[getD,eD1 (by rw[ai0];exact v)];rfl
  rcases aQ0 e d _ (eE8 _) _ _ c with⟨l,w,i,j⟩|⟨i,_⟩
  .have:f=l:=by
    obtain⟨o,p⟩:=eD8.1 k;obtain⟨q,r⟩:=eD8.1 i;have s:=eK4.1 e;rcases Nat.lt_trichotomy f l with h|h|h
    .exact fj (p.trans r.symm) (s f l o q h)
    .exact h
    .exact fj (r.trans p.symm) (s l f q o h)
   subst this;rw[j];exact y
  .exact fj k (i f m)
structure GM (h:Hp) (w0 w:World) (r:Nat) (kv:List (B9×Value)) (G:B9->List Int):Prop where
 map:bi6 w r kv
 ge:w0.heap.size<=r
 ext:o6 w0 w
 row:∀n v,T9 kv n=some v->B7 h w 3 v (G n)/\G n≠[]
 no:∀n,T9 kv n=none->G n=[]
 apart:∀n m v u,n≠m->T9 kv n=some v->T9 kv m=some u->∀b,B0 v b->¬B0 u b
 off:∀n v,T9 kv n=some v->∀b,B0 v b->b≠r/\w0.heap.size<=b
def GM.N(r:Nat)(kv:List (B9×Value))(b:Nat):Prop:=b=r\/∃n v,T9 kv n=some v/\B0 v b
section
variable {h:Hp} {w0 w:World} {r:Nat} {kv:List (B9×Value)} {G:B9->List Int}
def GM.more(s:GM h w0 w r kv G){w'}(a:o6 w w'):GM h w0 w' r kv G:=
 ⟨s.map.mod a id,s.ge,s.ext.trans a,λn v e=>⟨(s.row n v e).1.ext a,(s.row n v e).2⟩,s.no,s.apart,s.off⟩
def GM.lt(s:GM h w0 w r kv G){b}(hb:GM.N r kv b):b<w.heap.size:=by
 rcases hb with rfl|⟨n,v,e,hb⟩
 .exact s.map.lt
 .exact(s.row n v e).1.lt hb
def GM.nge(s:GM h w0 w r kv G){b}(hb:GM.N r kv b):w0.heap.size<=b:=by
 rcases hb with rfl|⟨n,v,e,hb⟩
 .exact s.ge
 .exact(s.off n v e b hb).2
def GM.push(s:GM h w0 w r kv G)(M:E6 h (n8 w))(n:B9)(a)(V:(G n).length<=100000000){P}(U:P=prog){e}:
  (Instr.lookup 270 (.map (some r)) (A4 n) false).run prog w = .ok ((T9 kv n).getD (.slice none 0 0)) w /\
  (Instr.buildSlice 45 1 #[(0,.int .i64 a)]).run prog w = .ok (.slice (some ⟨w.heap.size,0,none⟩) 1 1) (w.alloc (.cells #[.int .i64 a] 3)) /\
  ∃p D l,(Builtin.append_ #[45,45] e #[(T9 kv n).getD (.slice none 0 0),.slice (some ⟨w.heap.size,0,none⟩) 1 1]).run prog (w.alloc (.cells #[.int .i64 a] 3)) = .ok p D /\
   (Instr.mapUpdate 270 (.map (some r)) (A4 n) p).run prog D = .ok () l/\GM h w0 l r (bd0 kv n p) (λm=>if m=n then G n++[a]else G m)/\t8 (GM.N r kv) w l/\(∀b,GM.N r (bd0 kv n p) b->GM.N r kv b\/w.heap.size<=b):=by
 have L:prog.underlying 270=some (.map 9 45):=Tryz.underlying270;have K:prog.underlying 9=some .string:=Tryz.underlying9;have F:=s.map.lookup (P:=prog) L K av6 n;have I:B7 h w 3 ((T9 kv n).getD (.slice none 0 0)) (G n):=by
  cases he:T9 kv n with
  | none=>rw[s.no n he];exact B7.nil _ _ _
  | some v=>exact(s.row n v he).1
 have g:∀b,B0 ((T9 kv n).getD (.slice none 0 0)) b->∃v,T9 kv n=some v/\B0 v b:=λb c=>by
  cases he:T9 kv n with
  | none=>rw[he]at c;exact fj c E7
  | some v=>rw[he]at c;exact⟨v,rfl,c⟩
 obtain⟨N,p,D,O,Q,B,J⟩:=Go.Proofs.YtpebpfiglfmegaaGreat.push (P:=prog) (t:=45) (e:=e) V8 rfl I (x:=.int .i64 a) (y:=a) rfl om om M;have H:=s.map.mod B λc=>by
  obtain⟨v,e,c⟩:=g r c;exact(s.off n v e r c).1 rfl
 obtain⟨l,R,S,C⟩:=H.update (P:=prog) L K n p;refine⟨F,N,p,D,l,O,R,?_,?_,?_⟩
 .have A:∀b,B0 p b->b≠r/\w0.heap.size<=b:=λb c=>by
   rcases J b c with d|d
   .obtain⟨v,e,d⟩:=g b d;exact s.off n v e b d
   .have:=s.map.lt;have:=s.ext.size;exact⟨om,om⟩
  have z:∀m u,m≠n->T9 kv m=some u->∀b,B0 u b->¬B0 p b:=λm u j e b c f=>by
   rcases J b f with d|d
   .obtain⟨v,o,d⟩:=g b d;exact s.apart m n u v j e o b c d
   .have:=(s.row m u e).1.lt c;omega
  refine⟨S,s.ge,t8.ext_of (t8.ext_of s.ext B λb c=>?_) C λb c=>by subst c;exact s.ge,λm v e=>?_,λm e=>?_,λm k v u j q o b c f=>?_,λm v e b c=>?_⟩
  .obtain⟨v,e,c⟩:=g b c;exact(s.off n v e b c).2
  .rw[aG0]at e;split at e
   .next i=>
    obtain rfl:=eF3 e;subst i;simp only[eK2];exact⟨Q.mod C λb c=>(A b c).1,dG⟩
   .next i=>
    simp only[i,eM4];refine⟨((s.row m v e).1.mod B λb c f=>?_).mod C λb c=>(s.off m v e b c).1,(s.row m v e).2⟩;obtain⟨T,o,f⟩:=g b f;exact s.apart m n v T i e o b c f
  .rw[aG0]at e;split at e
   .cases e
   .next i=>simp only[i,eM4];exact s.no m e
  .rw[aG0]at q o;split at q
   .next d=>
    obtain rfl:=eF3 q;rw[fh (λE=>j (d.trans E.symm))]at o;exact z k u (λE=>j (d.trans E.symm)) o b f c
   .next d=>
    split at o
    .obtain rfl:=eF3 o;exact z m v d q b c f
    .exact s.apart m k v u j q o b c f
  .rw[aG0]at e;split at e
   .obtain rfl:=eF3 e;exact A b c
   .exact s.off m v e b c
 .exact t8.trans (B.weaken λb _ c=>by
   obtain⟨v,e,c⟩:=g b c;exact .inr ⟨n,v,e,c⟩) (C.weaken λb _ c=>.inl c)
 .intro b c;rcases c with d|⟨m,v,e,c⟩
  .exact .inl (.inl d)
  .rw[aG0]at e;split at e
   .obtain rfl:=eF3 e;rcases J b c with d|d
    .obtain⟨v,e,d⟩:=g b d;exact .inl (.inr ⟨n,v,e,d⟩)
    .exact .inr d
   .exact .inl (.inr ⟨m,v,e,c⟩)
end
def bm5{p}{i:Nat}(f:E3 p)(hw:C1 p<=1000000)(d:i<p.procs.length){k:Nat}(s:(k:Int)<(F7 (i5 p) i).n):((b9 p).gives (i:Int) (k:Int)).Pairwise (λa b=>ltS a b=true)/\((b9 p).gives (i:Int) (k:Int)).length<=100:=by
 obtain⟨x,m⟩:=K1 f.may hw i d;have c:=V3 m;generalize x+B8 p.procs[i].body=y at m c;unfold Bk.gives;rw[P3 d,O8 d];split
 .refine⟨ab4 _,eD7 (aL8 _) ?_⟩;have l:=bd2 (bf9 f hw) (i:Int);have r:=R9 f.may d;rw[eD4,eE3];have e:J8 (b9 p).ins (i:Int)=J8 (am8 p) (i:Int):=rfl;rw[e];omega
 .next o=>
  split
  .exact⟨List.Pairwise.nil,dG⟩
  .next l=>
   have n:¬(k:Int)=(F7 (i5 p) i).n-1:=λh=>l (.inl h);obtain⟨q,j,g,_⟩:=ax5 c (k:=k) om om;rw[j];exact((cd0 f hw).row g).2
def dx7(p:Pg)(i:Nat)(n:B9):List Int:=((b9 p).givers (i:Int) n).map λ(a:Nat)=>(a:Int)
def dj7(a p i w)(ha:At (n8 w) a (b9 p))(hr:E3 p)(hw:C1 p<=1000000)(N:i<p.procs.length):
  p7 prog 211 #[.pointer (some a),.int .i64 i] w λu O=>(∃r K c,u = .tuple #[.map (some r),.int .i64 c]/\GM (n8 w) w O r K (dx7 p i)):=by
 apply y5 [.pointer (some a),.int .i64 i] func211 rfl;obtain⟨x,pt⟩:=K1 hr.may hw i N;have ac:=V3 pt;generalize x+B8 p.procs[i].body=y at pt ac;have aN:=I3 hr.may;have hn:=ac.n;have aR:=pt.ok.len;have aQ:=pt.ok.le;have H:=λk (hk:((k:Nat):Int)<(F7 (i5 p) i).n)=>bm5 hr hw N hk;have j:=λ(k:Nat) (wa:World) (hh:E6 (n8 w) (n8 wa)) (hk:(k:Int)<(F7 (i5 p) i).n)=>de7 (n8 w) a p i k wa ha hh hr hw N hk;have C:∀n,dx7 p i n=((range (F7 (i5 p) i).n.toNat).filter λ(a:Nat)=>((b9 p).gives (i:Int) (a:Int)).contains n).map λ(a:Nat)=>(a:Int):=λn=>by
  unfold dx7 Bk.givers;rw[P3 N]
 obtain⟨sh,vw,_,_,_,_,has,ab,_,_,_,_,aI,_⟩:=ha.book rfl;obtain⟨aw,ax,T⟩:=aC4 (hv:=ab) (k:=i) (p:=⟨F7 (i5 p) i⟩) (by show((M3 p).map λw=>(⟨w⟩:Ptr Wy))[i]?=_;rw[eH2,ab7 N];rfl);simp only at T;have V:=ab.inS (k:=i) (by show i<((M3 p).map λw=>(⟨w⟩:Ptr Wy)).length;unfold M3;simpa using N);obtain⟨_,_,_,_,_,_,ag,_⟩:=T.wy;obtain⟨Y,X,A⟩:=bi6.new (P:=prog) w 270;generalize a0:w.alloc (.map #[] 0)=w1 at Y X A;have an:GM (n8 w) w w1 w.heap.size [] (λ_=>[]):=⟨X,eE8 _,A,λn v e=>by simp[T9]at e,λ_ _=>rfl,λn m v u _ e=>by simp[T9]at e,λn v e=>by simp[T9]at e⟩;generalize ao:(λk:Nat=>(b9 p).gives (i:Int) (k:Int))=g at *;have ap:∀k:Nat,(b9 p).gives (i:Int) (k:Int)=g k:=λk=>by rw[<-ao]
 simp only[ap]at H j C;generalize(F7 (i5 p) i).n=wn at hn H j C ag;obtain⟨M,rfl⟩:∃M:Nat,wn=(M:Int):=⟨wn.toNat,om⟩;rw[eF4]at C;have aC:=M0 (P:=prog) (t:=160) ax (b7 A) aC9;simp only[i4,n9,A6,simprocAttr,aJ0,Y,aI w1 (b7 A),V,aC,ag w1 (b7 A)];have aq:∀k,(λn=>((range k).filter λ(a:Nat)=>(g a).contains n).map (λ(a:Nat)=>(a:Int))++if((g k).take (g k).length).contains n then[(k:Int)]else[])=λn=>((range (k+1)).filter λ(a:Nat)=>(g a).contains n).map λ(a:Nat)=>(a:Int):=λk=>by
  funext n
  rw[eE4,eO6,eJ8,eG8]
  congr 1
  rw[filter_cons,filter_nil];cases(g k).contains n<;>rfl
 refine B4 [0,1,4,19] (σ:=Nat×List (B9×Value)) (λs f O=>f 20 = .int .i64 s.1/\s.1<=M/\(∃c:Int,f 5 = .int .i64 c)/\GM (n8 w) w O w.heap.size s.2 (λn=>((range s.1).filter λ(a:Nat)=>(g a).contains n).map λ(a:Nat)=>(a:Int))) (λs=>M-s.1) (0,[]) ?_ ?_
 .exact⟨rfl,eE2 _,⟨0,tt⟩,an⟩
 rintro⟨k,K⟩ f w5 ⟨e0,e1,e4,Q,_⟩ ⟨B,aA,⟨c,h5⟩,L⟩;simp only at B aA L;simp only[eF,simprocAttr,B,Q];refine A7 (λaX=>?_) ?_;rotate_left
 .rintro rfl;simp only[i4,simprocAttr,e4,h5];apply Q0 results211;simp only[C9,simprocAttr];refine⟨w.heap.size,K,c,tt,?_⟩;have:dx7 p i=λn=>((range k).filter λ(a:Nat)=>(g a).contains n).map λ(a:Nat)=>(a:Int):=by funext n;exact C n
  rw[this];exact L
 obtain⟨o,U⟩:=H k om;have D:=aq k;simp only[i4,simprocAttr,B,e0,e1];apply z6 (j k w5 (b7 L.ext) om);rintro u w6 ⟨hu,ad⟩;have s6:=L.more ad;have z:R (D9 w6 (GM.N w.heap.size K)) u (g k):=A9.mono (cZ8 (b7 L.ext) ad λb G=>⟨L.lt G,aE5 (L.nge G)⟩) hu;have Z:=aJ3 o;generalize g k=d at z o U D Z;simp only[eF,simprocAttr,z.isS,z.vlen];refine B4 [0,1,4,6,19,20,26,27] (σ:=Nat×List (B9×Value)) (λs f O=>f 28 = .int .i64 s.1/\s.1<=d.length/\(∃c:Int,f 5 = .int .i64 c)/\GM (n8 w) w O w.heap.size s.2 (λn=>((range k).filter λ(a:Nat)=>(g a).contains n).map (λ(a:Nat)=>(a:Int))++if(d.take s.1).contains n then[(k:Int)]else[])/\t8 (GM.N w.heap.size K) w6 O/\(∀b,GM.N w.heap.size s.2 b->GM.N w.heap.size K b\/w6.heap.size<=b)) (λs=>d.length-s.1) (0,K) ?_ ?_
 .refine⟨rfl,eE2 _,⟨c,h5⟩,?_,t8.refl _,λb G=>.inl G⟩;simp only[eN9,contains_nil,eK7,eM4,eG5];exact s6
 rintro⟨q,af⟩ f7 w7 ⟨j0,j1,j4,j6,aF,ae,aG,aH,_⟩ ⟨E,aE,⟨c7,S⟩,s7,I,F⟩;simp only at E aE s7 F;rw[e0]at j0;rw[e1]at j1;rw[e4]at j4;rw[Q]at aF;rw[B]at ae;simp only[eF,simprocAttr,E,aH];refine A7 (λl=>?_) ?_;rotate_left
 .rintro rfl;rw[D]at s7;simp only[eF,simprocAttr,ae];exact U5 (k+1,af) ⟨⟨c7,S⟩,s7⟩
 have ay:=z.inS l;have W:=ldS z (F5 I) l;have J:=eD9 l;have aa:(d.take q).contains d[q]=false:=by
  cases h:(d.take q).contains d[q]
  .rfl
  .exfalso
   have h1:=eE6.1 h;have h2:(d.take (q+1)).Nodup:=Z.sublist (take_sublist _ _);rw[J,eI6]at h2;exact h2.2.2 _ h1 _ dG rfl
 generalize d[q]=n at W J aa;have aB:(((range k).filter λ(a:Nat)=>(g a).contains n).map (λ(a:Nat)=>(a:Int))++if(d.take q).contains n then[(k:Int)]else[]).length<=1000:=by
  rw[eD4,eE3];have h1:=eG0 (λ(a:Nat)=>(g a).contains n) (range k);rw[eI3]at h1;have h2:(if(d.take q).contains n then[(k:Int)]else[]).length<=1:=by split<;>simp
  omega
 obtain⟨q1,q2,v',w8,w9,q3,q4,s9,aD,au⟩:=s7.push (b7 s7.ext) n (k:Int) om rfl (e:=45);have ar:(λm=>if m=n then(((range k).filter λ(a:Nat)=>(g a).contains n).map (λ(a:Nat)=>(a:Int))++if(d.take q).contains n then[(k:Int)]else[])++[(k:Int)]else((range k).filter λ(a:Nat)=>(g a).contains m).map (λ(a:Nat)=>(a:Int))++if(d.take q).contains m then[(k:Int)]else[])=λm=>((range k).filter λ(a:Nat)=>(g a).contains m).map (λ(a:Nat)=>(a:Int))++if(d.take (q+1)).contains m then[(k:Int)]else[]:=by
  funext m
  have av:(d.take (q+1)).contains m=((d.take q).contains m||decide (m=n)):=by
   rw[J,eO8,eN7,eE6,eE6,eE0,eE7,decide_eq_true_iff]
  rw[av];split
  .next h=>subst h;rw[aa];simp
  .next h=>simp[h]
 rw[ar]at s9;simp only[i4,n9,A6,simprocAttr,E,S,j4,j6,aG,ay,W,q1,q2,q3,aE8,q4];exact U5 (q+1,bd0 af n v') ⟨⟨_,tt⟩,s9,I.chain aD (λb G h=>(F b h).resolve_right om),λb G=>(au b G).elim (F b) λh=>.inr (eD7 I.size h)⟩
def cT9{p}{i:Nat}(g:E3 p)(hw:C1 p<=1000000)(j:i<p.procs.length){k:Nat}(r:(k:Int)<(F7 (i5 p) i).n):((b9 p).takes (i:Int) (k:Int)).Pairwise (λa b=>ltS a b=true)/\((b9 p).takes (i:Int) (k:Int)).length<=2000000:=by
 obtain⟨x,l⟩:=K1 g.may hw i j;have c:=V3 l;generalize x+B8 p.procs[i].body=y at l c;unfold Bk.takes;rw[P3 j];split
 .refine⟨ab4 _,eD7 (aL8 _) ?_⟩;have o:=bd2 (aP6 g.may) (i:Int);rw[eD4,eG3];have e:J8 (b9 p).outs (i:Int)=J8 (N4 p) (i:Int):=rfl;rw[e];omega
 .next o=>
  split
  .exact⟨List.Pairwise.nil,dG⟩
  .next m=>
   have n:¬(k:Int)=0:=λh=>m (.inl h);obtain⟨q,f,d,_⟩:=ax5 c (k:=k) om om;rw[f];exact((cd1 g hw).row d).2
def aD6(b:Bk)(i:Int)(n:B9)(c:Nat):List Nat:=(range (b.givers i n).length).filter λf=>bA1 (b.nx i) (b.givers i n) ((b.givers i n).getD f 0) c
def am6(b:Bk)(i:Int)(n:B9)(c:Nat)(f:Nat):List Fw:=if(b.takes i c).contains n then[⟨(b.way i).place (((b.givers i n).getD f 0:Nat):Int),(b.way i).place c,n⟩]else[]
def aW0(b:Bk)(i:Int)(n:B9)(c:Nat):List Fw:=(aD6 b i n c).flatMap (am6 b i n c)
def aD5(b:Bk)(i:Int)(n:B9):List Fw:=(range (b.way i).n.toNat).flatMap (aW0 b i n)
def br9(b:Bk)(i)(n:B9):(b.givers i n).Nodup:=by
 unfold Bk.givers;exact List.nodup_range.filter _
def al3{b:Bk}{i}{n:B9}{x:Fw}:x∈aD5 b i n↔∃a c:Nat,a∈b.givers i n/\c<(b.way i).n.toNat/\(b.takes i c).contains n=true/\bA1 (b.nx i) (b.givers i n) a c=true/\x=⟨(b.way i).place a,(b.way i).place c,n⟩:=by
 unfold aD5 aW0 am6 aD6;simp only[eG1,eH7,eF6];constructor
 .rintro⟨c,h,f,⟨e,d⟩,g⟩;split at g
  .next j=>
   rw[eE7]at g;refine⟨(b.givers i n).getD f 0,c,?_,h,j,d,g⟩;rw[getD,eD1 e];exact eE1 e
  .simp at g
 .rintro⟨a,c,l,h,j,d,rfl⟩;obtain⟨f,e,rfl⟩:=eK1.1 l;have k:(b.givers i n).getD f 0=(b.givers i n)[f]:=by rw[getD,eD1 e];rfl
  exact⟨c,h,f,⟨e,by rw[k];exact d⟩,by rw[fi j,k];simp⟩
def bg6{b:Bk}{i}{x:Fw}:x∈b.flow0 i↔∃n,x∈aD5 b i n:=by
 unfold Bk.flow0;simp only[eG1,eH7,eF2,eF6,eF1,al3];constructor
 .rintro⟨a,e,n,h,c,⟨f,g,d⟩,rfl⟩;refine⟨n,a,c,?_,f,g,d,rfl⟩;unfold Bk.givers;rw[eF6,eH7,eE6];exact⟨e,h⟩
 .rintro⟨n,a,c,e,f,g,d,rfl⟩;unfold Bk.givers at e;rw[eF6,eH7,eE6]at e;exact⟨a,e.1,n,e.2,c,⟨f,g,d⟩,rfl⟩
def aI9{α β:Type}{f:α->List β}:∀{l:List α},l.Nodup->(∀a∈l,(f a).Nodup)->(∀a∈l,∀b∈l,∀x,x∈f a->x∈f b->a=b)->(l.flatMap f).Nodup
 | [],_,_,_=>dG
 | a::l,hn,h1,h2=>by
  rw[eQ2]at hn;rw[eN2,eI6];refine⟨h1 a dG,aI9 hn.2 (λb d=>h1 b (by simp[d])) (λb d c h=>h2 b (by simp[d]) c (by simp[h])),λx i y j e=>?_⟩;subst e;obtain⟨b,d,g⟩:=eG1.1 j;have:=h2 a dG b (by simp[d]) x i g;subst this;exact hn.1 d
def cc4(w:Wy):Prop:=∀a c:Nat,a<w.n.toNat->c<w.n.toNat->w.place a=w.place c->a=c
def cR1{l:List Nat}(h:l.Nodup){f f'}(c:f<l.length)(a:f'<l.length)(e:l.getD f 0=l.getD f' 0):f=f':=by
 have d:l.getD f 0=l[f]:=by rw[getD,eD1 c];rfl
 have g:l.getD f' 0=l[f']:=by rw[getD,eD1 a];rfl
 rw[d,g]at e;have b:=eK4.1 h;rcases Nat.lt_trichotomy f f' with h|h|h
 .exact fj e (b f f' c a h)
 .exact h
 .exact fj e.symm (b f' f a c h)
def cf3{l:List Nat}{f}(a:f<l.length):l.getD f 0∈l:=by
 rw[getD,eD1 a];exact eE1 a
def aq9(b:Bk)(i)(n:B9):∀a∈b.givers i n,a<(b.way i).n.toNat:=λa c=>by
 unfold Bk.givers at c;exact eH7.1 (eF6.1 c).1
def aT9{b:Bk}{i}{n:B9}{c f}{x:Fw}(h:x∈am6 b i n c f):x.src=(b.way i).place (((b.givers i n).getD f 0:Nat):Int)/\x.dst=(b.way i).place c:=by
 unfold am6 at h;split at h
 .rw[eE7]at h;subst h;exact⟨rfl,rfl⟩
 .simp at h
def cA1{b:Bk}{i}(m:cc4 (b.way i))(n:B9):(aD5 b i n).Nodup:=by
 unfold aD5;refine aI9 nodup_range (λc k=>?_) λc k p h x d a=>?_
 .unfold aW0;refine aI9 (List.nodup_range.filter _) (λf l=>?_) λf l o j x d a=>?_
  .unfold am6;split<;>simp
  .have e:=eH7.1 (eF6.1 l).1;have g:=eH7.1 (eF6.1 j).1;exact cR1 (br9 b i n) e g (m _ _ (aq9 b i n _ (cf3 e)) (aq9 b i n _ (cf3 g)) ((aT9 d).1.symm.trans (aT9 a).1))
 .unfold aW0 at d a;obtain⟨f,_,d⟩:=eG1.1 d;obtain⟨o,_,a⟩:=eG1.1 a;exact m _ _ (eH7.1 k) (eH7.1 h) ((aT9 d).2.symm.trans (aT9 a).2)
def cA0{b:Bk}{i}(k:cc4 (b.way i))(l:∀a:Nat,a<(b.way i).n.toNat->(b.gives i a).Nodup):(b.flow0 i).Nodup:=by
 unfold Bk.flow0;refine aI9 nodup_range (λa g=>?_) λa g q h x f d=>?_
 .refine aI9 (l a (eH7.1 g)) (λn m=>?_) λn m p o x f d=>?_
  .rw[Nodup,pairwise_map];refine List.Pairwise.imp_of_mem (fun{c j} hc hc' hne e=>?_) (List.nodup_range.filter _);exact hne (k _ _ (eH7.1 (eF6.1 hc).1) (eH7.1 (eF6.1 hc').1) (eE9 Fw.dst e))
  .obtain⟨c,_,rfl⟩:=eF2.1 f;obtain⟨j,_,e⟩:=eF2.1 d;exact(eE9 Fw.var e).symm
 .obtain⟨n,_,f⟩:=eG1.1 f;obtain⟨p,_,d⟩:=eG1.1 d;obtain⟨c,_,rfl⟩:=eF2.1 f;obtain⟨j,_,e⟩:=eF2.1 d;exact(k _ _ (eH7.1 h) (eH7.1 g) (eE9 Fw.src e)).symm
def cO4{b:Bk}{i}(k:cc4 (b.way i))(l:∀a:Nat,a<(b.way i).n.toNat->(b.gives i a).Nodup){c:List B9}(m:c.Nodup)(d:∀n,b.givers i n≠[]->n∈c):(c.flatMap (aD5 b i)).Perm (b.flow0 i):=by
 have f:(c.flatMap (aD5 b i)).Nodup:=aI9 m (λn _=>cA1 k n) λn _ p _ x o g=>by
  obtain⟨_,_,_,_,_,_,rfl⟩:=al3.1 o;obtain⟨_,_,_,_,_,_,e⟩:=al3.1 g;exact eE9 Fw.var e
 rw[perm_ext_iff_of_nodup f (cA0 k l)];intro x;rw[bg6,eG1];constructor
 .rintro⟨n,_,h⟩;exact⟨n,h⟩
 .rintro⟨n,h⟩;refine⟨n,d n λe=>?_,h⟩;obtain⟨a,_,j,_⟩:=al3.1 h;rw[e]at j;simp at j
def dx4{b:Bk}{i}(u:cc4 (b.way i))(t:∀a:Nat,a<(b.way i).n.toNat->(b.gives i a).Nodup)(e:∀a:Nat,a<(b.way i).n.toNat->plc ((b.way i).place a)){l:List Fw}(h:l.Perm (b.flow0 i)):af2 cb5 l=b.flows i:=by
 have d:∀x∈b.flow0 i,plc x.src/\plc x.dst:=λx r=>by
  obtain⟨n,h⟩:=bg6.1 r;obtain⟨a,c,g,q,_,_,rfl⟩:=al3.1 h;have m:a<(b.way i).n.toNat:=by
   unfold Bk.givers at g;exact eH7.1 (eF6.1 g).1
  exact⟨e a m,e c q⟩
 have o:∀a b:Fw,cb5 a b=true\/cb5 b a=true:=λa b=>cx8.total a b;have f:∀a b c:Fw,cb5 a b=true->cb5 b c=true->cb5 a c=true:=λa b c j k=>eG9 (cx8.trans a b c (eD3 j) (eD3 k));unfold Bk.flows;refine aV4 (le:=cb5) ((H8 _ _).trans (h.trans (H8 _ _).symm)) (λa g s p j k=>?_) (av0 (λa _ b _=>o a b) λa _ b _ c _=>f a b c) (av0 (λa _ b _=>o a b) λa _ b _ c _=>f a b c);exact cA4 (d _ (h.mem_iff.1 ((H8 _ _).mem_iff.1 g))) (d _ (h.mem_iff.1 ((H8 _ _).mem_iff.1 p))) (cx8.eq0 j k)
def cA5{kv:List (B9×Value)}(hn:(kv.map (·.1)).Nodup){n:B9}{v}(h:(n,v)∈kv):T9 kv n=some v:=by
 induction kv with
 | nil=>simp at h
 | cons p l b=>
  rw[eI4,eQ2]at hn;rcases eF0.1 h with rfl|h
  .simp[T9]
  .have a:p.1≠n:=λe=>hn.1 (by rw[e];exact eF2.2 ⟨_,h,rfl⟩);have:=b hn.2 h;simp only[T9]at this ⊢;simp[a,this]
def dx6{kv:List (B9×Value)}{n:B9}{v}(h:T9 kv n=some v):(n,v)∈kv:=by
 unfold T9 at h;obtain⟨p,a,rfl⟩:=Option.map_eq_some_iff.1 h;have b:=find?_some a;have c:=eD3 b;subst c;exact mem_of_find?_eq_some a
def bf5{α β:Type}{f:α->List β}{B}:∀{l:List α},(∀a∈l,(f a).length<=B)->(l.flatMap f).length<=l.length*B
 | [],_=>dG
 | a::l,h=>by
  rw[eN2,eD4,eG6,eP3,Nat.one_mul];have d:=h a dG;have e:=bf5 (l:=l) (f:=f) (B:=B) λb c=>h b (by simp[c]);omega
def cO9(b:Bk)(i)(n:B9):(b.givers i n).length<=(b.way i).n.toNat:=by
 unfold Bk.givers;exact eD7 (eG0 _ _) dG
def cf2(b:Bk)(i)(n:B9)(c):(aD6 b i n c).length<=(b.way i).n.toNat:=by
 unfold aD6;apply eD7 (eG0 _ _);rw[eI3];exact cO9 b i n
def bR1(b i)(n:B9)(c f):(am6 b i n c f).length<=1:=by
 unfold am6;split<;>simp
def cO3(b:Bk)(i)(n:B9)(c q):(((aD6 b i n c).take q).flatMap (am6 b i n c)).length<=(b.way i).n.toNat:=by
 have a:=bf5 (l:=(aD6 b i n c).take q) (f:=am6 b i n c) (B:=1) λf _=>bR1 b i n c f;have d:=cf2 b i n c;have e:((aD6 b i n c).take q).length<=(aD6 b i n c).length:=by rw[eE5];omega
 omega
def dj0(b:Bk)(i)(n:B9)(c):(aW0 b i n c).length<=(b.way i).n.toNat:=by
 have h:=cO3 b i n c (aD6 b i n c).length;rw[eE4]at h;exact h
def bR0(b:Bk)(i)(n:B9)(c):((range c).flatMap (aW0 b i n)).length<=c*(b.way i).n.toNat:=by
 have a:=bf5 (l:=range c) (f:=aW0 b i n) (B:=(b.way i).n.toNat) λc _=>dj0 b i n c
 rwa [eI3]at a
def dj1(b:Bk)(i)(n:B9):(aD5 b i n).length<=(b.way i).n.toNat*(b.way i).n.toNat:=bR0 b i n _
def dA6{b:Bk}{i}{c:List B9}(j:c.Nodup)(e:∀n∈c,b.givers i n≠[])(h:∀a:Nat,a<(b.way i).n.toNat->(b.gives i a).length<=100):c.length<=(b.way i).n.toNat*100:=by
 have g:=bf5 (l:=range (b.way i).n.toNat) (f:=λ(a:Nat)=>b.gives i (a:Int)) (B:=100) λa d=>h a (eH7.1 d);rw[eI3]at g;refine eD7 (J5 j λn k=>?_) g;obtain⟨a,d⟩:=exists_mem_of_ne_nil _ (e n k);unfold Bk.givers at d;rw[eF6,eE6]at d;exact eG1.2 ⟨a,d.1,d.2⟩
def ed8{p i x y wy}(h:WyOk p i x y wy)(b:(i5 p).l.length<=200):cc4 wy:=λa c g j e=>by
 have k:=h.n;have d:=h.part.ok.len;have f:=h.part.ok.le;rw[h.place,h.place]at e;split at e<;>split at e<;>first|omega|(split at e<;>first|omega|(split at e<;>omega))
def ed9{p i x y}{wy:Wy}(h:WyOk p i x y wy)(b:(i5 p).l.length<=200)(a)(e:a<wy.n.toNat):plc (wy.place a):=by
 have f:=h.n;have c:=h.part.ok.len;have d:=h.part.ok.le;rw[h.place];unfold plc;split
 .omega
 .split<;>omega
def dj2{b:Bk}{i}(d:∀a:Nat,a<(b.way i).n.toNat->plc ((b.way i).place a)){n m:B9}{s t:Fw}(l:s∈aD5 b i n)(o:t∈aD5 b i m)(g:decide (fwC s t<=0)=true)(h:decide (fwC t s<=0)=true):s=t:=by
 obtain⟨a,c,j,k,_,_,rfl⟩:=al3.1 l;obtain⟨p,q,e,f,_,_,rfl⟩:=al3.1 o;exact cA4 ⟨d _ (aq9 _ _ _ _ j),d _ k⟩ ⟨d _ (aq9 _ _ _ _ e),d _ f⟩ (cx8.eq0 g h)
def du2(s d)(n:B9):D0 prog 213 [(0,.int .i64 s),(1,.int .i64 d),(2,A4 n)]=some (.agg (A0.cells (⟨s,d,n⟩:Fw)).toArray):=by
 simp[D0,ee9,M2,Instr.fill,Value.cells,A4];rfl
def aW7(T:Nat->List B9)(M k:Nat):List (List B9):=(range M).map λc=>if c<k then T c else[]
def bC7(T:Nat->List B9)(M k):(aW7 T M k).length=M:=by simp[aW7]
def cS5(T:Nat->List B9)(M):replicate M []=aW7 T M 0:=by
 apply eK8
 .simp[aW7]
 .intro i a b;simp[aW7]
def do1{T:Nat->List B9}{M k}:(aW7 T M k).set k (T k)=aW7 T M (k+1):=by
 apply eK8
 .simp[aW7]
 .intro i a b;rw[getElem_set];simp only[aW7,eL1,eQ3];split
  .next h=>subst h;rw[fi om]
  .next h=>
   by_cases h3:i<k
   .rw[fi h3,fi om]
   .rw[fh h3,fh om]
def do0{T:Nat->List B9}{M c}(a:c<M):(aW7 T M M)[c]?=some (T c):=by
 simp only[aW7,eH2,eM3 a,eJ9,fi a]
def dF2{l:List (List Int)}{c}(a:c<l.length):l[c]?=some (F1 l c):=by
 unfold F1;rw[fi ⟨om,om⟩,eF4,getD,eD1 a];rfl
def keyN(kv:List (B9×Value))(j:Nat):B9:=match kv[j]? with
 | some q=>q.1
 | none=>e0
def bt4{kv:List (B9×Value)}{j}{q:B9×Value}(h:kv[j]?=some q):keyN kv j=q.1:=by
 unfold keyN;rw[h]
def dA5{kv:List (B9×Value)}(hn:(kv.map (·.1)).Nodup){j q}(b:j<kv.length)(c:q<kv.length)(e:keyN kv j=keyN kv q):j=q:=by
 rw[bt4 (eD1 b),bt4 (eD1 c)]at e;have h:=eK4.1 hn;rcases Nat.lt_trichotomy j q with a|a|a
 .exact fj (by rw[eL1,eL1];exact e) (h j q (by simpa using b) (by simpa using c) a)
 .exact a
 .exact fj (by rw[eL1,eL1];exact e.symm) (h q j (by simpa using c) (by simpa using b) a)
def bV4{n}(f:Nat->List B9){i}(a:i<n):J8 ((range n).map f) (i:Int)=f i:=by
 unfold J8;rw[eF4,getD,eH2,eM3 a];rfl
def ae1{l:List B9}{x:B9}:x∈ad0 l↔x∈l:=(Z3 l).mem_iff
section
variable {p:Pg} {i:Nat}
def cE8(hm:O1 p=true)(a:i<p.procs.length):J8 (N4 p) (i:Int)=G0 (an2 p (M7 p (N4 p)) i):=by
 obtain⟨_,_,e⟩:=bU8 hm
 conv=>lhs;rw[<-e]
 exact bV4 _ a
def da1(b:E3 p)(hw:C1 p<=1000000)(a:i<p.procs.length):J8 (am8 p) (i:Int)=G0 (aW3 p (N4 p) (W0 p (am8 p)) (M7 p (N4 p)) i):=by
 obtain⟨_,_,e⟩:=da0 b hw
 conv=>lhs;rw[<-e]
 exact bV4 _ a
def bC2(hm:O1 p=true)(b:i<p.procs.length){n:B9}(hn:n∈J8 (N4 p) (i:Int)):n=am1\/R8 n=true:=by
 rw[cE8 hm b,M6]at hn;have:=ck5 (bu6 hn);rw[getD,eD1 b]at this;simp only[eF0,eE0,eF2,eI9]at this;rcases this with h|h|⟨a,c,rfl⟩
 .exact .inl h
 .exact .inr (bT8 hm n h)
 .exact .inr ((cD3 hm b).2.1 a c)
def dA1(b:E3 p)(hw:C1 p<=1000000)(a:i<p.procs.length){n:B9}(hn:n∈J8 (am8 p) (i:Int)):n∈p.globals\/n=am1:=by
 rw[da1 b hw a,M6]at hn;unfold aW3 at hn;simpa using(eF6.1 hn).1
def dc2{l:List B9}(h:l.Pairwise (λa b=>ltS a b=true)):l.Nodup:=aJ3 h
def bo0(a:i<p.procs.length):(b9 p).slotsIn (i:Int)=ad0 (J8 (am8 p) (i:Int)++p.procs[i].params.map (·.name)):=by
 unfold Bk.slotsIn;rw[O8 a];rfl
theorem bJ2:(b9 p).slotsOut (i:Int)=ad0 (J8 (N4 p) (i:Int)++[U0]):=rfl
def bk3(d:E3 p)(hw:C1 p<=1000000)(c:i<p.procs.length):((b9 p).slotsIn (i:Int)).Nodup:=by
 rw[bo0 c,(Z3 _).nodup_iff,eI6];obtain⟨f,g,_⟩:=d.proc i c;unfold bK9 at f g;refine⟨by rw[da1 d hw c];exact dc2 (ab4 _),(eI6.1 f).1,λa k b j e=>?_⟩;subst e;rcases dA1 d hw c k with h|h
 .exact g a (eF9 _ j) h
 .obtain⟨q,l,e⟩:=eF2.1 j;exact(aU0 ((cD3 d.may c).2.1 q l)).1 (by rw[e,h])
def aJ8(hm:O1 p=true)(d:i<p.procs.length):((b9 p).slotsOut (i:Int)).Nodup:=by
 rw[bJ2,(Z3 _).nodup_iff,eI6];refine⟨by rw[cE8 hm d];exact dc2 (ab4 _),dG,λa f b c e=>?_⟩;subst e;simp only[eE7]at c;rcases bC2 hm d f with h|h
 .exact cs7.1 (by rw[<-h,c])
 .exact(aU0 h).2.1 c
def cH4(hm:O1 p=true):(i5 p).l.Nodup:=by
 refine eK4.2 λj k b d c e=>?_;have a:=ax6 hm j _ (eD1 b);have f:=ax6 hm k _ (eD1 d);rw[e]at a;omega
def dD2(hm:O1 p=true){x y}(a:aH0 p i x y):((i5 p).of i).Nodup:=by
 rw[a.ok.of_];exact((cH4 hm).sublist (take_sublist _ _)).sublist (drop_sublist _ _)
end
def S6{b:Bk}{i}{v:Vx}:v∈b.vert0 i↔v=⟨(b.s.fn i).name,1,0,e0⟩\/(∃n∈b.slotsIn i,v=⟨(b.s.fn i).name,3,0,n⟩)\/(∃n∈b.slotsOut i,v=⟨(b.s.fn i).name,4,0,n⟩) \/
  ∃it∈b.s.of i,v=⟨(b.s.fn i).name,2,it.s.id,e0⟩\/(it.s.kind=4/\((∃n∈b.slotsIn (b.s.pr it.s.proc),v=⟨(b.s.fn i).name,5,it.s.id,n⟩)\/∃n∈b.callOut it.s,v=⟨(b.s.fn i).name,6,it.s.id,n⟩)):=by
 unfold Bk.vert0;simp only[eE0,eE7,eF2,eG1,mem_ite_nil_right];constructor
 .rintro(((h|⟨n,c,h⟩)|⟨n,c,h⟩)|⟨it,a,h|⟨d,⟨n,c,h⟩|⟨n,c,h⟩⟩⟩)
  .exact .inl h
  .exact .inr (.inl ⟨n,c,h.symm⟩)
  .exact .inr (.inr (.inl ⟨n,c,h.symm⟩))
  .exact .inr (.inr (.inr ⟨it,a,.inl h⟩))
  .exact .inr (.inr (.inr ⟨it,a,.inr ⟨d,.inl ⟨n,c,h.symm⟩⟩⟩))
  .exact .inr (.inr (.inr ⟨it,a,.inr ⟨d,.inr ⟨n,c,h.symm⟩⟩⟩))
 .rintro(h|⟨n,c,h⟩|⟨n,c,h⟩|⟨it,a,h|⟨d,⟨n,c,h⟩|⟨n,c,h⟩⟩⟩)
  .exact .inl (.inl (.inl h))
  .exact .inl (.inl (.inr ⟨n,c,h.symm⟩))
  .exact .inl (.inr ⟨n,c,h.symm⟩)
  .exact .inr ⟨it,a,.inl h⟩
  .exact .inr ⟨it,a,.inr ⟨d,.inl ⟨n,c,h.symm⟩⟩⟩
  .exact .inr ⟨it,a,.inr ⟨d,.inr ⟨n,c,h.symm⟩⟩⟩
def aU3{α β:Type}{f:α->β}(c:∀a b,f a=f b->a=b){l:List α}(h:l.Nodup):(l.map f).Nodup:=by
 induction l with
 | nil=>simp
 | cons x l g=>
  rw[eQ2]at h;rw[eI4,eQ2];refine⟨λhm=>?_,g h.2⟩;obtain⟨y,d,e⟩:=eF2.1 hm;exact h.1 (c _ _ e ▸ d)
section
variable {p:Pg} {i x y:Nat}
def ca7(d:E3 p){it:It}(b:it∈(i5 p).l)(f:it.s.kind=4):((b9 p).callOut it.s).Nodup:=by
 obtain⟨c,a⟩:=aa7 (d.fits it b f);have e:(b9 p).s.pr it.s.proc=(c:Int):=a.pr;unfold Bk.callOut;rw[e];split
 .exact(aJ8 d.may a.lt).sublist filter_sublist
 .exact aJ8 d.may a.lt
def cJ0(l:E3 p)(hw:C1 p<=1000000)(C:i<p.procs.length)(r:aH0 p i x y):((b9 p).vert0 (i:Int)).Nodup:=by
 unfold Bk.vert0;generalize((b9 p).s.fn (i:Int)).name=q;have D:(b9 p).s=i5 p:=rfl;rw[D];have o:∀it∈(i5 p).of i,1<=it.s.id/\(i5 p).it it.s.id=it:=λit g=>⟨(bt2 l.may (bc7 r g)).2.2,(bt2 l.may (bc7 r g)).2.1⟩;have j:∀it:It,∀v:Vx,v∈([⟨q,2,it.s.id,e0⟩]++if it.s.kind=4 then(((b9 p).slotsIn ((i5 p).pr it.s.proc)).map λn=>(⟨q,5,it.s.id,n⟩:Vx))++((b9 p).callOut it.s).map λn=>(⟨q,6,it.s.id,n⟩:Vx)else[])->v.id=it.s.id:=by
  intro it v s;simp only[eE0,eE7,mem_ite_nil_right,eF2]at s;rcases s with rfl|⟨_,⟨n,_,rfl⟩|⟨n,_,rfl⟩⟩<;>rfl
 rw[eI6,eI6,eI6];refine⟨⟨⟨dG,aU3 (λa b h=>by simpa using h) (bk3 l hw C),?_⟩,aU3 (λa b h=>by simpa using h) (aJ8 l.may C),?_⟩,?_,?_⟩
 .rintro a d b f rfl;simp only[eE7,eF2]at d f;obtain⟨n,_,e⟩:=f;rw[d]at e;simp at e
 .rintro a d b f rfl;simp only[eE0,eE7,eF2]at d f;obtain⟨n,_,e⟩:=f;rcases d with d|⟨m,_,d⟩
  .rw[d]at e;simp at e
  .rw[<-d]at e;simp at e
 .refine aI9 (dD2 l.may r) (λit g=>?_) λa d b f v t u=>?_
  .rw[eI6];refine⟨dG,?_,?_⟩
   .split
    .rename_i A;obtain⟨c,B⟩:=aa7 (l.fits it (bc7 r g) A);rw[eI6];refine⟨aU3 (λa b h=>by simpa using h) ?_,aU3 (λa b h=>by simpa using h) (ca7 l (bc7 r g) A),?_⟩
     .rw[B.pr];exact bk3 l hw B.lt
     .rintro a d b f rfl;simp only[eF2]at d f;obtain⟨n,_,e⟩:=d;obtain⟨m,_,w⟩:=f;rw[<-e]at w;simp at w
    .simp
   .rintro a d b f rfl;simp only[eE7,mem_ite_nil_right,eE0,eF2]at d f;subst d;obtain⟨_,⟨n,_,e⟩|⟨n,_,e⟩⟩:=f<;>simp at e
  .have k:=j a v t;have z:=j b v u;rw[<-(o a d).2,<-(o b f).2,<-k,<-z]
 .rintro a d b f rfl;obtain⟨it,g,s⟩:=eG1.1 f;have k:=j it a s;have z:=(o it g).1;simp only[eE0,eE7,eF2]at d;rcases d with(d|⟨n,_,d⟩)|⟨n,_,d⟩
  .rw[d]at k;simp only at k;omega
  .rw[<-d]at k;simp only at k;omega
  .rw[<-d]at k;simp only at k;omega
def bh8(hm:O1 p=true)(c:aH0 p i x y){d}(a:(x:Int)<d)(b:d<=(y:Int)):(⟨((b9 p).s.fn (i:Int)).name,2,d,e0⟩:Vx)∈(b9 p).vert0 (i:Int):=by
 rw[S6];obtain⟨e,f,_⟩:=c.at_ d a b;exact .inr (.inr (.inr ⟨_,e,.inl (by rw[f])⟩))
def bQ0{wy:Wy}(q:E3 p)(hw:C1 p<=1000000)(o:i<p.procs.length)(c:aw0 p i x y wy):∀d∈wy.decides,(d.1=0\/((x:Int)<d.1/\d.1<=(y:Int)))/\((x:Int)<d.2/\d.2<=(y:Int)):=by
 have B:=c.n;have E6:=c.part.ok.le;have n:wy.n=((y-x+2:Nat):Int):=om
 rw[aS6 n];intro d g;obtain⟨a,A,g⟩:=eG1.1 g;obtain⟨b,k,rfl⟩:=eF2.1 g;obtain⟨k,f⟩:=eF6.1 k;unfold as5 at f;simp only[eF1,eH1,eP6]at f;obtain⟨⟨u,v⟩,t,m,e,_⟩:=f;have l:(a:Int)<wy.n-1:=by
  unfold Wy.pairs at m;obtain⟨s,r,rfl⟩:=eF2.1 m;have j:=(cn1 q hw o c s r).1;simp only at e;rw[<-e,c.toWyOk.index];rcases j with h|⟨w,z⟩
  .rw[fi h];omega
  .rw[fh om,fh om,fi om];omega
 simp only;rw[c.toWyOk.place,c.toWyOk.place];constructor
 .by_cases h0:(a:Int)=0
  .rw[fi h0];exact .inl rfl
  .rw[fh h0,fh om];right;omega
 .rw[fh om,fh om];omega
def bj4(f:E3 p){it:It}(d:it∈(i5 p).l)(g:it.s.kind=4){c}(b:aM4 p it.s c){n:B9}(hn:n∈J8 (N4 p) (c:Int)):n∈(b9 p).callOut it.s:=by
 have e:(b9 p).s.pr it.s.proc=(c:Int):=b.pr;unfold Bk.callOut;rw[e];have hm:n∈(b9 p).slotsOut (c:Int):=by
  rw[bJ2,ae1];exact eF9 _ hn
 have a:n≠U0:=by
  rcases bC2 f.may b.lt hn with h|h
  .rw[h];exact cs7.1
  .exact(aU0 h).2.1
 split
 .exact eF6.2 ⟨hm,by simp[a]⟩
 .exact hm
def de1{α β:Type}{l:List α}{m:List β}{z:α×β}(h:z∈l.zip m):∃j:Nat,l[j]?=some z.1/\m[j]?=some z.2:=by
 obtain⟨j,a⟩:=eM7.1 h;rw[getElem?_zip_eq_some]at a;exact⟨j,a⟩
def dx8(X:C8 p=true)(hw:C1 p<=1000000)(Y:i<p.procs.length)(L:aH0 p i x y){a:Nat}(ha:(a:Int)<(F7 (i5 p) i).n){n:B9}(t:n∈(b9 p).gives (i:Int) (a:Int)):
  (b9 p).giver ((b9 p).s.fn (i:Int)).name ((F7 (i5 p) i).place (a:Int)) n∈(b9 p).vert0 (i:Int):=by
 have u:=D6 X;have H:=V3 L;have I:(b9 p).s=i5 p:=rfl;unfold Bk.gives at t;rw[P3 Y]at t;unfold Bk.giver;by_cases h0:(a:Int)=0
 .rw[fi h0,M6]at t;rw[fi (by rw[H.toWyOk.place,fi h0]),S6];refine .inr (.inl ⟨n,?_,rfl⟩);unfold Bk.slotsIn;rw[ae1];exact t
 .rw[fh h0]at t;split at t
  .simp at t
  .rename_i hc;have ah:¬(a:Int)=(F7 (i5 p) i).n-1:=λh=>hc (.inl h);obtain⟨q,N,W,B,e4,e5⟩:=ax5 H (k:=a) om om;obtain⟨J,M,q3⟩:=L.at_ ((F7 (i5 p) i).place (a:Int)) (by rw[B];omega) (by rw[B];omega);rw[fh om,I];generalize ak:(F7 (i5 p) i).place (a:Int)=pl at t N B J M q3;generalize Z:(i5 p).it pl=it at J M q3;have f:=bc7 L J;have d:n∈G0 (aq5 p (N4 p) it.s):=by
    rw[<-cy5 u.may (N4 p) f,M];exact t
   rw[M6]at d;have D:=cQ6 u.may Y hw it J;by_cases h4:it.s.kind=4
   .rw[fh (by simpa using h4)];obtain⟨c,b⟩:=aa7 (u.fits it f h4);have aj:=b.lt;have l:((b9 p).callee it.s).params=p.procs[c].params:=by
     unfold Bk.callee;rw[I,b.pr,<-I,O8 b.lt]
    have r:=bn7 (show au9 it.s.name (W7 p it.s.proc) [] it.s.args=true from u.single it f h4);have P:p.procs[c].name=it.s.proc:=by
     obtain⟨c',ag,N,W⟩:=Y0 (aS2 u.toKnown hw f h4);rw[b.pr]at N;obtain rfl:c=c':=om
     exact W
    have o:∀m,m∈(b9 p).callOut it.s->(⟨((i5 p).fn (i:Int)).name,6,pl,m⟩:Vx)∈(b9 p).vert0 (i:Int):=λm hm=>by
     rw[S6];exact .inr (.inr (.inr ⟨it,J,.inr ⟨h4,.inr ⟨m,hm,by rw[M,I]⟩⟩⟩))
    unfold aq5 at d;rw[fh om,fh om,fh om,fi h4]at d;unfold aE2 at d;rw[b.idx,b.fn]at d;by_cases hname:it.s.name=n
    .rw[fi hname];apply o _;have T:it.s.name≠e0:=by
      intro C;rw[hname]at C;rcases eE0.1 d with h|h
      .rcases eE0.1 h with h|h
       .rw[hname,fi C]at h;simp at h
       .obtain⟨z,s,A⟩:=eF2.1 h;obtain⟨s,g⟩:=eF6.1 s;rw[eF1]at g;exact(aU0 (bG6 D z.1 (of_mem_zip s).1 g.1)).2.2 (by rw[A,C])
      .have:=(eF6.1 h).1;rcases bC2 u.may b.lt this with h|h
       .exact cs7.2.1 (by rw[<-h,C])
       .exact(aU0 h).2.2 C
     unfold Bk.callOut;rw[fh T];unfold Bk.slotsOut;rw[ae1];simp
    .rw[fh hname,l];have d:(∃z∈it.s.args.zip p.procs[c].params,z.1.ref=true/\z.2.name∈J8 (N4 p) (c:Int)/\z.1.name=n)\/(n∈J8 (N4 p) (c:Int)/\W1 p n=true):=by
      rcases eE0.1 d with h|h
      .rcases eE0.1 h with h|h
       .split at h
        .simp at h
        .simp only[eE7]at h;exact fj h.symm hname
       .obtain⟨z,s,A⟩:=eF2.1 h;obtain⟨s,g⟩:=eF6.1 s;rw[eF1,eE6]at g;exact .inl ⟨z,s,g.1,g.2,A⟩
      .exact .inr (eF6.1 h)
     split
     .rename_i z K;have s:=mem_of_find?_eq_some K;have e:=find?_some K;rw[eF1,eH1]at e;apply o _;obtain⟨j,E,Q⟩:=de1 s;rcases d with⟨z',w,U,r2,V⟩|⟨O,v⟩
      .obtain⟨k,S,F⟩:=de1 w;have R:=r.2 j k _ _ E S e.1 U (by rw[e.2,V]);subst R;rw[Q]at F;rw[eF3 F];exact bj4 u f h4 b r2
      .exfalso
       have G:=bG6 D z.1 (of_mem_zip s).1 e.1;rw[e.2]at G;unfold W1 at v;rw[eN7,eE6,eH1]at v;rcases v with v|v
       .exact(aU0 G).1 v
       .have:=(r.1 j _ E e.1).2.2;rw[e.2,<-P]at this;exact this (cE7 X hw b.lt O v)
     .rename_i K;apply o _;rcases d with⟨z',w,U,r2,V⟩|⟨O,v⟩
      .have:=eL9.1 K z' w;simp[U,V]at this
      .exact bj4 u f h4 b O
   .rw[fi h4,<-I];exact bh8 u.may L (by rw[B];omega) (by rw[B];omega)
def dp7(F:C8 p=true)(hw:C1 p<=1000000)(J:i<p.procs.length)(r:aH0 p i x y){a:Nat}(Q:(a:Int)<(F7 (i5 p) i).n){n:B9}(f:n∈(b9 p).takes (i:Int) (a:Int)):
  ∀v∈(b9 p).takers ((b9 p).s.fn (i:Int)).name ((F7 (i5 p) i).place (a:Int)) n,v∈(b9 p).vert0 (i:Int):=by
 have B:=D6 F;have j:=V3 r;have l:(b9 p).s=i5 p:=rfl;have K:=j.n;have E6:=r.ok.le;intro v d;unfold Bk.takes at f;rw[P3 J]at f;unfold Bk.takers at d;by_cases h0:(a:Int)=(F7 (i5 p) i).n-1
 .rw[fi h0,M6]at f;rw[fi (by rw[j.toWyOk.place,fh om,fi h0])]at d;simp only[eE7]at d;subst d;rw[S6];refine .inr (.inr (.inl ⟨n,?_,rfl⟩));unfold Bk.slotsOut;rw[ae1];exact f
 .rw[fh h0]at f;split at f
  .simp at f
  .rename_i G;have H:¬(a:Int)=0:=λh=>G (.inl h);obtain⟨q,E,N,o,O,P⟩:=ax5 j (k:=a) om om;obtain⟨s,u,D⟩:=r.at_ ((F7 (i5 p) i).place (a:Int)) (by rw[o];omega) (by rw[o];omega);rw[fh om,l]at d;generalize L:(F7 (i5 p) i).place (a:Int)=C at d f E o s u D;generalize A:(i5 p).it C=it at d s u D;have t:=bc7 r s;by_cases h4:it.s.kind=4
   .rw[fh (by simpa using h4)]at d;obtain⟨c,b⟩:=aa7 (B.fits it t h4);have I:=b.lt;have e:((b9 p).callee it.s).params=p.procs[c].params:=by
     unfold Bk.callee;rw[l,b.pr,<-l,O8 b.lt]
    have g:∀m,m∈(b9 p).slotsIn (c:Int)->(⟨((i5 p).fn (i:Int)).name,5,C,m⟩:Vx)∈(b9 p).vert0 (i:Int):=λm hm=>by
     rw[S6];refine .inr (.inr (.inr ⟨it,s,.inr ⟨h4,.inl ⟨m,?_,by rw[u,l]⟩⟩⟩));rw[l,b.pr];exact hm
    rw[e,b.pr]at d;rcases eE0.1 d with h|h
    .obtain⟨z,M,rfl⟩:=eF2.1 h;apply g _;rw[bo0 b.lt,ae1];exact eH0 _ (eF2.2 ⟨_,(of_mem_zip (eF6.1 M).1).2,rfl⟩)
    .split at h
     .rename_i w;simp only[eE7]at h;subst h;apply g _;rw[eF1,eE6]at w;rw[bo0 b.lt,ae1];exact eF9 _ w.2
     .simp at h
   .rw[fi h4]at d;simp only[eE7]at d;subst d;rw[<-l];exact bh8 B.may r (by rw[o];omega) (by rw[o];omega)
def br1(w:C8 p=true)(hw:C1 p<=1000000)(k:i<p.procs.length):∀e∈(b9 p).edge0 (i:Int),e.src∈(b9 p).vert0 (i:Int)/\e.dst∈(b9 p).vert0 (i:Int)/\(e.kind=1\/e.kind=2):=by
 have m:=D6 w;obtain⟨x,h⟩:=K1 m.may hw i k;have s:=V3 h;have j:(⟨((b9 p).s.fn (i:Int)).name,1,0,e0⟩:Vx)∈(b9 p).vert0 (i:Int):=S6.2 (.inl rfl);intro e b;unfold Bk.edge0 at b;rw[P3 k]at b;rcases eE0.1 b with b|b
 .rcases eE0.1 b with b|b
  .obtain⟨d,E,rfl⟩:=eF2.1 b;obtain⟨o,B,C⟩:=bQ0 m hw k s d E;unfold aj2;refine⟨?_,bh8 m.may h B C,.inl rfl⟩;simp only;split
   .exact j
   .rename_i z;rcases o with o|⟨o,u⟩
    .exact fj o z
    .exact bh8 m.may h o u
  .obtain⟨v,g,b⟩:=eG1.1 b;have g:v∈(b9 p).vert0 (i:Int):=(H8 _ _).mem_iff.1 g;unfold K6 at b;split at b
   .simp only[eE7]at b;subst b;exact⟨j,g,.inl rfl⟩
   .split at b
    .rename_i t;simp only[eE7]at b;subst b;refine⟨?_,g,.inl rfl⟩;simp only;rw[S6]at g;rcases g with rfl|⟨n,_,rfl⟩|⟨n,_,rfl⟩|⟨it,r,rfl|⟨_,⟨n,_,rfl⟩|⟨n,_,rfl⟩⟩⟩
     .simp at t
     .simp at t
     .simp at t
     .simp at t
     .have:=h.ids it r;exact bh8 m.may h this.1 this.2
     .have:=h.ids it r;exact bh8 m.may h this.1 this.2
    .simp at b
 .obtain⟨f,l,b⟩:=eG1.1 b;obtain⟨v,g,rfl⟩:=eF2.1 b;have l:f∈(b9 p).flow0 (i:Int):=(H8 _ _).mem_iff.1 l;rw[bg6]at l;obtain⟨n,l⟩:=l;rw[al3]at l;obtain⟨a,c,q,D,A,_,rfl⟩:=l;rw[P3 k]at D g;have y:=aq9 _ _ _ a q;rw[P3 k]at y;have q:=(eF6.1 q).2;rw[eE6]at q A;have F:=s.n;rw[P3 k];exact⟨dx8 w hw k h om q,dp7 w hw k h om A v g,.inr rfl⟩
end
def V6(a b:Vx):Bool:=if a.proc≠b.proc then ltS a.proc b.proc else if a.kind≠b.kind then decide (a.kind<b.kind)else if a.id≠b.id then decide (a.id<b.id)else ltS a.slot b.slot
def cX8{a b}(h:a≠b):O6 a b≠0:=λe=>h (ak7 e)
def dN9{a b:B9}(h:a≠b):am5 a b≠0:=λe=>h (aO9 e)
def cd9(a):O6 a a=0:=by unfold O6;simp
def dh4(a:B9):am5 a a=0:=by unfold am5;simp[Q5]
def cX7{a b}:decide (O6 a b<0)=decide (a<b):=by
 unfold O6;by_cases h:a<b
 .simp[h]
 .rw[fh h];split<;>simp[h]
def cX9{a b:B9}:decide (am5 a b<0)=ltS a b:=by
 unfold am5;cases h:ltS a b
 .simp only[eK7,eM4];split<;>simp
 .simp
def bc0(a b:Vx):V6 a b=decide (vxC a b<0):=by
 unfold V6 vxC;rw[or4];by_cases h1:a.proc=b.proc
 .rw[fh (by simpa using h1),h1,dh4,fi rfl];by_cases h2:a.kind=b.kind
  .rw[fh (by simpa using h2),h2,cd9,fi rfl];by_cases h3:a.id=b.id
   .rw[fh (by simpa using h3),h3,cd9,fi rfl];by_cases h4:am5 a.slot b.slot=0
    .rw[fi h4,aO9 h4,Q5];rfl
    .rw[fh h4,cX9]
   .rw[fi h3,fh (cX8 h3),cX7]
  .rw[fi h2,fh (cX8 h2),cX7]
 .rw[fi h1,fh (dN9 h1),cX9]
def dK7(a:Vx):vxC a a=0:=bj2.refl a
section
variable {α:Type} {c:α->α->Int}
def Cm.letr(h:Cm c){x y z:α}(a:c x y<=0)(b:c y z<=0):c x z<=0:=h.trans x y z a b
def dF7(h:Cm c)(l:List α):(af2 (λa b=>decide (c a b<=0)) l).Pairwise λa b=>c a b<=0:=by
 have:=av0 (le:=λa b=>decide (c a b<=0)) (l:=l) (λa _ b _=>h.total a b) λa _ b _ d _ e f=>eG9 (h.letr (eD3 e) (eD3 f));exact this.imp λh=>eD3 h
end
def cV4{b:Bk}{i}(hn:(b.vert0 i).Nodup):(b.verts i).Pairwise λu v=>V6 u v=true:=by
 have c:(b.verts i).Pairwise λu v=>vxC u v<=0:=dF7 bj2 _;have a:(b.verts i).Pairwise λu v=>u≠v:=((H8 dq0 _).nodup_iff.2 hn);refine(c.and a).imp fun{u v} ⟨c,a⟩=>?_;rw[bc0];apply eG9;have:vxC u v≠0:=λe=>a (aQ8 e);omega
def ax1{b:Bk}{i}{e:Eg}:e∈b.edges i↔e∈b.edge0 i:=by
 unfold Bk.edges ac6;rw[ak9,(H8 cy6 _).mem_iff]
def ar2{b:Bk}{i}{v:Vx}:v∈b.verts i↔v∈b.vert0 i:=(H8 dq0 _).mem_iff
def ao8(h:Hp)(w:World)(T:TypeId)(v:Value)(xs:List Int):Prop:=
 (v = .slice none 0 0/\xs=[]) \/
 ∃b d c a,v = .slice (some ⟨b,d,none⟩) xs.length c/\h b=none/\w.heap[b]?=some (.cells a T (0,0))/\xs.length<=c/\c<=maxLen/\d+c<=a.size /\
  ∀(j:Nat) (x:Int),xs[j]?=some x->a[d+j]?=some (.int .i64 x)
section
variable {P:Program} {h:Hp} {w:World} {t T:TypeId} {v:Value} {xs:List Int}
def B7.toQ(t:B7 h w T v xs):ao8 h w T v xs:=by
 rcases t with s|⟨b,c,a,rfl,k,m,n,o,p,f⟩
 .exact .inl s
 .have q:a.size=c:=by rw[p];exact eM2 c
  have d:a.toList.take xs.length=U4 xs:=G6.1 (by
   have:xs.length*A9.sz Int=xs.length:=eM2 _;rw[this]at f;exact f)
  refine .inr ⟨b,0,c,a,rfl,k,m,n,o,om,λj x i=>?_⟩;have e:=(eD8.1 i).1;have g:=eE9 (λl=>l[j]?) d;simp only[getElem?_take_of_lt e]at g;rw[eH5];have r:a[j]?=a.toList[j]?:=dG
  rw[r,g];simp[U4,i]
def ao8.isS(d:ao8 h w T v xs):isS v=true:=by
 rcases d with⟨rfl,rfl⟩|⟨b,e,c,a,rfl,_⟩<;>rfl
def ao8.vlen(d:ao8 h w T v xs):vlen v=xs.length:=by
 rcases d with⟨rfl,rfl⟩|⟨b,e,c,a,rfl,_⟩<;>rfl
def ao8.vcap(e:ao8 h w T v xs):xs.length<=vcap v:=by
 rcases e with⟨rfl,rfl⟩|⟨b,f,c,a,rfl,_,_,d,_⟩
 .simp
 .exact d
def ao8.inS(e:ao8 h w T v xs){k}(a:k<xs.length):inS v k=true:=by
 rcases e with⟨rfl,rfl⟩|⟨b,f,c,d,rfl,_⟩
 .simp at a
 .simp[Go.Proofs.YtpebpfiglfmegaaGreat.inS,a]
def ao8.free(e:ao8 h w T v xs){b}(hb:B0 v b):h b=none:=by
 rcases e with⟨rfl,_⟩|⟨g,f,c,a,rfl,d,_⟩
 .exact fj hb E7
 .simp[B0,Value.ownBlock]at hb;subst hb;exact d
def ao8.lt(e:ao8 h w T v xs){b}(hb:B0 v b):b<w.heap.size:=by
 rcases e with⟨rfl,_⟩|⟨g,f,c,a,rfl,i,d,_⟩
 .exact fj hb E7
 .simp[B0,Value.ownBlock]at hb;subst hb;exact(eD5.1 d).1
def ao8.mod{M:Nat->Prop}{w'}(k:ao8 h w T v xs)(hm:t8 M w w')(i:∀b,B0 v b->¬M b):ao8 h w' T v xs:=by
 rcases k with j|⟨b,e,c,d,rfl,g,f,a⟩
 .exact .inl j
 .exact .inr ⟨b,e,c,d,rfl,g,(hm.block b (eD5.1 f).1 (i b rfl)).trans f,a⟩
def ao8.ext{w'}(a:ao8 h w T v xs)(hm:o6 w w'):ao8 h w' T v xs:=a.mod hm λ_ _=>id
def ao8.head{x}{a:List Int}(i:ao8 h w T v (x::a))(j:L7 P t=false):(Instr.loadAt t (.pointer (some (I2 v 0)))).run P w = .ok (.int .i64 x) w:=by
 rcases i with⟨_,k⟩|⟨b,e,c,d,rfl,l,f,m,n,o,g⟩
 .cases k
 .apply ab0 j;simp only[I2,O9];rw[eL6 w b e d T (0,0) f];exact g 0 x rfl
def ao8.tail{x}{a:List Int}(o:ao8 h w T v (x::a)):ao8 h w T (reS v 1 (a.length+1) 1) a/\∀b,B0 (reS v 1 (a.length+1) 1) b↔B0 v b:=by
 rcases o with⟨_,q⟩|⟨b,d,c,f,rfl,i,k,m,r,s,n⟩
 .cases q
 .simp only[eG6]at m;have e:(⟨b,d,none⟩:Addr).add (1*1)=⟨b,d+1,none⟩:=by unfold Addr.add;split<;>simp_all
  by_cases hc:c=1
  .subst hc;have p:a=[]:=eq_nil_of_length_eq_zero om;subst p;refine⟨.inr ⟨b,d,0,f,rfl,i,k,eE8 _,eE2 _,om,λj y g=>by simp at g⟩,λl=>eL8⟩
  .refine⟨.inr ⟨b,d+1,c-1,f,?_,i,k,om,om,om,λj y g=>?_⟩,λl=>?_⟩
   .simp[reS,hc,e]
   .have:=n (j+1) y (by simpa using g);rw[<-this];congr 1;omega
   .simp[reS,hc,e,B0,Value.ownBlock]
def ao8.push{e by_}(Q:I4 P t T 1 by_=true)(ho:ao8 h w T v xs)(y)
  (hl:xs.length+1<=1000000000000) (hb:(xs.length+1)*by_<=140737488355328) (hw:E6 h (n8 w)) :
  (Instr.buildSlice t 1 #[(0,.int .i64 y)]).run P w = .ok (.slice (some ⟨w.heap.size,0,none⟩) 1 1) (w.alloc (.cells #[.int .i64 y] T)) /\
  ∃s A,(Builtin.append_ #[t,t] e #[v,.slice (some ⟨w.heap.size,0,none⟩) 1 1]).run P (w.alloc (.cells #[.int .i64 y] T)) = .ok s A/\ao8 h A T s (xs++[y])/\t8 (B0 v) w A/\F4 w v s:=by
 have l:=Go.Proofs.YtpebpfiglfmegaaGreat.push (e:=e) (α:=Int) Q rfl (B7.nil h w T) (x:=.int .i64 y) (y:=y) rfl dG (by simp only[eK5,eH5]at *;have:=eN1 by_ (show 1<=xs.length+1 by omega);omega) hw;simp only[Value.cells,eL4]at l;refine⟨l.1,?_⟩;rcases ho with⟨rfl,rfl⟩|⟨b,a,c,g,rfl,X,N,h3,Y,Z,O⟩
 .obtain⟨s,A,L,M,k3,k4⟩:=l.2;exact⟨s,A,L,by simpa using M.toQ,k3,k4⟩
 .obtain⟨s1,⟨z,hz,K⟩,q,S,s5,s6⟩:=ab3 Q;obtain⟨i,B,G⟩:=B1 hz;rw[F8 B]at q;rw[aO5 B]at S;have R:=R7 s1;have p:=o6.alloc w (.cells #[.int .i64 y] T);have D:b<w.heap.size:=(eD5.1 N).1;have m:(w.alloc (.cells #[.int .i64 y] T)).heap[b]?=some (.cells g T (0,0)):=(p.block b D id).trans N;have k:∀j u,[Value.int .i64 y][j]?=some u->(w.alloc (.cells #[.int .i64 y] T)).cell? ((⟨w.heap.size,0,none⟩:Addr).add j)=some u:=by
   intro j u d;have C:(⟨w.heap.size,0,none⟩:Addr).add j=⟨w.heap.size,j,none⟩:=by unfold Addr.add;split<;>simp_all
   rw[C,eP9];simpa using d
  generalize J:w.alloc (.cells #[.int .i64 y] T)=f at *;by_cases hroom:xs.length+1<=c
  .have r:=run_append_room_cells (P:=P) f t e T i R B b a xs.length c ⟨w.heap.size,0,none⟩ 1 1 [.int .i64 y] (by simp[q]) k (by simp[Value.oneCell']) hroom
    (λj d=>by
     simp only[eG6,eK5]at d;rw[q,eL6 f b _ g T (0,0) m,eO2 om];rfl)
    (λj _=>frozen_of_row f b _ g T m)
   rw[q,eM2]at r;simp only[World.setCells]at r;refine⟨_,_,r,.inr ⟨b,a,c,g.setIfInBounds (a+xs.length) (.int .i64 y),dG,X,heap_setCell_same f b (a+xs.length) g T _ m,by simpa using hroom,Y,by simpa using Z,λj x d=>?_⟩,?_,λU n=>.inl n⟩
   .rw[Array.getElem?_setIfInBounds];by_cases hjx:j<xs.length
    .rw[eI7 hjx]at d;rw[fh om];exact O j x d
    .rw[eI8 om]at d;have H:j-xs.length=0:=by
      have:=(eD8.1 d).1;simp at this;omega
     rw[H]at d;simp at d;subst d;rw[fi om,fi om]
   .exact(p.weaken λ_ _ h=>h.elim).trans (t8.setCell _ _ _ (by simp[B0,Value.ownBlock]))
  .have o:∀j u,((U4 xs))[j]?=some u->f.cell? ((⟨b,a,none⟩:Addr).add j)=some u:=by
    intro j u d;have C:(⟨b,a,none⟩:Addr).add j=⟨b,a+j,none⟩:=by unfold Addr.add;split<;>simp_all
    rw[C,eL6 f b (a+j) g T (0,0) m];simp only[U4,eH2]at d;obtain⟨x,L,M⟩:=Option.map_eq_some_iff.1 d;rw[O j x L,<-M]
   have r:=run_append_grow (P:=P) f t e T i z R B G ⟨b,a,none⟩ xs.length c (U4 xs) (by simp[U4,q]) o ⟨w.heap.size,0,none⟩ 1 1 [.int .i64 y] (by simp[q]) k om
    om (growslice_fits om (by rw[S];exact hb))
   have F:=grownCap_ge f (xs.length+1) c T;have E:=grownCap_le_maxLen f (xs.length+1) c T (by simp only[maxLen];omega);have aa:f.heap.size=w.heap.size+1:=by rw[<-J];simp
   refine⟨_,_,r,.inr ⟨f.heap.size,0,_,_,dG,aT4 hw om,eH3 f.drew _,by simpa using F,E,?_,λj x d=>?_⟩,?_,λU n=>?_⟩
   .simp only[Array.size_append,eO0,size_zeroCells,K,U4,eE3,eG6,eK5];omega
   .rw[eH5];have I:=(eD8.1 d).1;simp only[eD4,eG6,eK5]at I;have V:((U4 xs).toArray++#[Value.int .i64 y])=(U4 (xs++[y])).toArray:=by simp[U4]
    have W:([Value.int .i64 y].toArray)=#[Value.int .i64 y]:=rfl;rw[Array.getElem?_append_left (by simp[U4];omega),W,V,getElem?_toArray];simp only[U4,eH2,d];rfl
   .apply(p.weaken λ_ _ h=>h.elim).trans;exact t8.trans ((o6.drew f).weaken (λ_ _ h=>h.elim)) ((o6.alloc f.drew _).weaken (λ_ _ h=>h.elim))
   .simp[B0,Value.ownBlock]at n;exact .inr om
end
section
variable {P:Program} {h:Hp} {w:World} {t T:TypeId} {v:Value}
def ao8.set{xs:List Int}(A:ao8 h w T v xs){k}(l:k<xs.length)(y){f:TypeInfo}(d:P.info? t=some f)(B:f.size=1):
  ∃g,(Instr.storeAt t (I2 v k) (.int .i64 y)).run P w = .ok () g/\ao8 h g T v (xs.set k y)/\t8 (B0 v) w g:=by
 rcases A with⟨rfl,rfl⟩|⟨b,a,c,m,rfl,n,o,p,q,r,s⟩
 .simp at l
 .have u:(⟨b,a,.none⟩:Addr).add k=⟨b,a+k,.none⟩:=by unfold Addr.add;split<;>simp_all
  obtain⟨g,C,D,E⟩:=ai1 (P:=P) (t:=t) (i:=a+k) (x:=y) o om rfl rfl d B;refine⟨g,by simp only[I2,u];exact C,.inr ⟨b,a,c,_,dG,n,D,by simpa using p,q,by simpa using r,λj x e=>?_⟩,E.weaken λF _ z=>by subst z;rfl⟩;rw[Array.getElem?_setIfInBounds];rw[getElem?_set]at e;by_cases hkj:k=j
  .subst hkj;rw[fi rfl,fi l]at e;obtain rfl:=eF3 e;rw[fi rfl,fi om]
  .rw[fh hkj]at e;rw[fh om];exact s j x e
end
structure ST (w0 w:World) (rb gb:Nat) (ui uw vt:Value) (us:List Raw) (ins:List (List W)) (waits:List Bool) (todo:List Int) (T:Int):Prop where
 rows:E1 (n8 w0) w 355 240 ui us ins
 wts:B7 (n8 w0) w 4 uw waits
 q:ao8 (n8 w0) w 3 vt todo
 cg:w.heap[gb]?=some (.cells #[(),T] 319 (0,0))
 cr:w.heap[rb]?=some (.cells #[(),(0:Int)] 319 (0,0))
 d1:∀b,Q6 ui us b->¬B0 vt b/\¬B0 uw b/\b≠gb/\b≠rb
 d2:∀b,B0 vt b->¬B0 uw b/\b≠gb/\b≠rb
 d3:∀b,B0 uw b->b≠gb/\b≠rb
 d4:gb≠rb
 ext:o6 w0 w
 fg:w0.heap.size<=gb
 frb:w0.heap.size<=rb
section
variable {w0 w:World} {rb gb:Nat} {ui uw vt:Value} {us:List Raw} {ins:List (List W)} {waits:List Bool} {todo:List Int} {T:Int}
def ST.lg(s:ST w0 w rb gb ui uw vt us ins waits todo T):gb<w.heap.size:=(eD5.1 s.cg).1
def ST.lr(s:ST w0 w rb gb ui uw vt us ins waits todo T):rb<w.heap.size:=(eD5.1 s.cr).1
def ST.ge(s:ST w0 w rb gb ui uw vt us ins waits todo T){b}(hb:n8 w0 b=none):w0.heap.size<=b:=
 eQ7 λa=>by simp[n8,a]at hb
def ST.more(s:ST w0 w rb gb ui uw vt us ins waits todo T){w'}(a:o6 w w'):ST w0 w' rb gb ui uw vt us ins waits todo T:=
 ⟨s.rows.ext a,s.wts.ext a,s.q.ext a,(a.block gb s.lg id).trans s.cg,(a.block rb s.lr id).trans s.cr,s.d1,s.d2,s.d3,s.d4,s.ext.trans a,s.fg,s.frb⟩
def ST.wait{P:Program}{t}(s:ST w0 w rb gb ui uw vt us ins waits todo T){k}(g:k<waits.length)(y){d:TypeInfo}(c:P.info? t=some d)(i:d.size=1):
  ∃f,(Instr.storeAt t (I2 uw k) (.bool y)).run P w = .ok () f/\ST w0 f rb gb ui uw vt us ins (waits.set k y) todo T:=by
 obtain⟨f,j,l,e,m⟩:=G4 (P:=P) (t:=t) s.wts rfl g (x:=y) (y:=y) rfl rfl c i;refine⟨f,j,s.rows.mod e λb a=>(s.d1 b a).2.1,l,s.q.mod e λb a=>(s.d2 b a).1,(e.block gb s.lg λh=>(s.d3 gb h).1 rfl).trans s.cg,(e.block rb s.lr λh=>(s.d3 rb h).2 rfl).trans s.cr,s.d1,s.d2,s.d3,s.d4,t8.ext_of s.ext e λb a=>s.ge (s.wts.free a),s.fg,s.frb⟩
def ST.wait2{P:Program}{t}(s:ST w0 w rb gb ui uw vt us ins waits todo T){k}(g:k<waits.length)(y){e:TypeInfo}(d:P.info? t=some e)(i:e.size=1):
  ∃f,(Instr.storeAt t (I2 uw k) (.bool y)).run P w = .ok () f/\ST w0 f rb gb ui uw vt us ins (waits.set k y) todo T/\t8 (B0 uw) w f:=by
 obtain⟨f,j,l,a,m⟩:=G4 (P:=P) (t:=t) s.wts rfl g (x:=y) (y:=y) rfl rfl d i;refine⟨f,j,⟨s.rows.mod a λb c=>(s.d1 b c).2.1,l,s.q.mod a λb c=>(s.d2 b c).1,(a.block gb s.lg λh=>(s.d3 gb h).1 rfl).trans s.cg,(a.block rb s.lr λh=>(s.d3 rb h).2 rfl).trans s.cr,s.d1,s.d2,s.d3,s.d4,t8.ext_of s.ext a λb c=>s.ge (s.wts.free c),s.fg,s.frb⟩,a⟩
def ST.times{P:Program}{t}(s:ST w0 w rb gb ui uw vt us ins waits todo T)(T'){d:TypeInfo}(c:P.info? t=some d)(g:d.size=1):
  ∃f,(Instr.storeAt t (.pointer (some ⟨gb,1,none⟩)) (.int .i64 T')).run P w = .ok () f/\ST w0 f rb gb ui uw vt us ins waits todo T':=by
 obtain⟨f,j,k,e⟩:=ai1 (P:=P) (t:=t) (i:=1) (x:=T') s.cg dG rfl rfl c g;refine⟨f,j,s.rows.mod e λb a=>(s.d1 b a).2.2.1,s.wts.mod e λb a=>(s.d3 b a).1,s.q.mod e λb a=>(s.d2 b a).2.1,k,(e.block rb s.lr λh=>s.d4 h.symm).trans s.cr,s.d1,s.d2,s.d3,s.d4,t8.ext_of s.ext e λb a=>by subst a;exact s.fg,s.fg,s.frb⟩
def ST.tail{x}{a:List Int}(s:ST w0 w rb gb ui uw vt us ins waits (x::a) T):ST w0 w rb gb ui uw (reS vt 1 (a.length+1) 1) us ins waits a T:=by
 obtain⟨e,d⟩:=s.q.tail;exact⟨s.rows,s.wts,e,s.cg,s.cr,λb c=>⟨λh=>(s.d1 b c).1 ((d b).1 h),(s.d1 b c).2⟩,λb c=>s.d2 b ((d b).1 c),s.d3,s.d4,s.ext,s.fg,s.frb⟩
def ST.push{P t e by_}(g:I4 P t 3 1 by_=true)(s:ST w0 w rb gb ui uw vt us ins waits todo T)(y)(n:todo.length+1<=1000000000000)(hb:(todo.length+1)*by_<=140737488355328):
  (Instr.buildSlice t 1 #[(0,.int .i64 y)]).run P w = .ok (.slice (some ⟨w.heap.size,0,none⟩) 1 1) (w.alloc (.cells #[.int .i64 y] 3)) /\
  ∃c d,(Builtin.append_ #[t,t] e #[vt,.slice (some ⟨w.heap.size,0,none⟩) 1 1]).run P (w.alloc (.cells #[.int .i64 y] 3)) = .ok c d/\ST w0 d rb gb ui uw c us ins waits (todo++[y]) T:=by
 obtain⟨j,c,d,k,l,a,i⟩:=s.q.push (e:=e) g y n hb (b7 s.ext);refine⟨j,c,d,k,s.rows.mod a λb hb=>(s.d1 b hb).1,s.wts.mod a λb hb f=>(s.d2 b f).1 hb,l,(a.block gb s.lg λh=>(s.d2 gb h).2.1 rfl).trans s.cg,(a.block rb s.lr λh=>(s.d2 rb h).2.2 rfl).trans s.cr,λb hb=>⟨λh=>?_,(s.d1 b hb).2⟩,λb hb=>?_,s.d3,s.d4,t8.ext_of s.ext a λb hb=>s.ge (s.q.free hb),s.fg,s.frb⟩
 .rcases i b h with h|h
  .exact(s.d1 b hb).1 h
  .have:=s.rows.lt hb;omega
 .rcases i b hb with h|h
  .exact s.d2 b h
  .exact⟨λm=>by have:=s.wts.lt m;omega,by have:=s.lg;omega,by have:=s.lr;omega⟩
def ST.push2{P t e by_}(i:I4 P t 3 1 by_=true)(s:ST w0 w rb gb ui uw vt us ins waits todo T)(y)(n:todo.length+1<=1000000000000)(hb:(todo.length+1)*by_<=140737488355328):
  (Instr.buildSlice t 1 #[(0,.int .i64 y)]).run P w = .ok (.slice (some ⟨w.heap.size,0,none⟩) 1 1) (w.alloc (.cells #[.int .i64 y] 3)) /\
  ∃c d,(Builtin.append_ #[t,t] e #[vt,.slice (some ⟨w.heap.size,0,none⟩) 1 1]).run P (w.alloc (.cells #[.int .i64 y] 3)) = .ok c d/\ST w0 d rb gb ui uw c us ins waits (todo++[y]) T/\t8 (B0 vt) w d/\F4 w vt c:=by
 obtain⟨j,c,d,k,l,a,f⟩:=s.q.push (e:=e) i y n hb (b7 s.ext);refine⟨j,c,d,k,⟨s.rows.mod a λb hb=>(s.d1 b hb).1,s.wts.mod a λb hb g=>(s.d2 b g).1 hb,l,(a.block gb s.lg λh=>(s.d2 gb h).2.1 rfl).trans s.cg,(a.block rb s.lr λh=>(s.d2 rb h).2.2 rfl).trans s.cr,λb hb=>⟨λh=>?_,(s.d1 b hb).2⟩,λb hb=>?_,s.d3,s.d4,t8.ext_of s.ext a λb hb=>s.ge (s.q.free hb),s.fg,s.frb⟩,a,f⟩
 .rcases f b h with h|h
  .exact(s.d1 b hb).1 h
  .have:=s.rows.lt hb;omega
 .rcases f b hb with h|h
  .exact s.d2 b h
  .exact⟨λm=>by have:=s.wts.lt m;omega,by have:=s.lg;omega,by have:=s.lr;omega⟩
def ST.row(s:ST w0 w rb gb ui uw vt us ins waits todo T){w' i}{u:Raw}(e:us[i]?=some u){r:List W}(hm:t8 (B0 u.v) w w')(f:B7 (n8 w0) w' 240 u.v r):ST w0 w' rb gb ui uw vt us (ins.set i r) waits todo T:=by
 have d:∀b,B0 u.v b->Q6 ui us b:=λb a=>.inr ⟨u,eF7 e,a⟩;exact⟨s.rows.write e hm f,s.wts.mod hm λb a c=>(s.d1 b (d b c)).2.1 a,s.q.mod hm λb a c=>(s.d1 b (d b c)).1 a,(hm.block gb s.lg λh=>(s.d1 gb (d gb h)).2.2.1 rfl).trans s.cg,(hm.block rb s.lr λh=>(s.d1 rb (d rb h)).2.2.2 rfl).trans s.cr,s.d1,s.d2,s.d3,s.d4,t8.ext_of s.ext hm λb a=>s.ge (s.rows.free (d b a)),s.fg,s.frb⟩
def ST.put{P:Program}{t}(s:ST w0 w rb gb ui uw vt us ins waits todo T){w1}(o:o6 w w1){i}{u:Raw}(p:us[i]?=some u){u'}{r:List W}(q:B7 (n8 w0) w1 240 u' r)(n:∀b,B0 u' b->w.heap.size<=b){g:TypeInfo}(e:P.info? t=some g)(v:g.size=1):
  ∃k,(Instr.storeAt t (I2 ui i) u').run P w1 = .ok () k/\ST w0 k rb gb ui uw vt (us.set i ⟨u'⟩) (ins.set i r) waits todo T:=by
 obtain⟨k,y,z,j,B⟩:=s.rows.put (P:=P) (t:=t) p (o.weaken λ_ _ h=>h.elim) q (λb a=>.inr (n b a)) e v;have f:∀b,B0 ui b->Q6 ui us b:=λb a=>.inl a;have d:=s.more o;refine⟨k,y,z,d.wts.mod j λb a c=>(s.d1 b (f b c)).2.1 a,d.q.mod j λb a c=>(s.d1 b (f b c)).1 a,(j.block gb d.lg λh=>(s.d1 gb (f gb h)).2.2.1 rfl).trans d.cg,(j.block rb d.lr λh=>(s.d1 rb (f rb h)).2.2.2 rfl).trans d.cr,λb a=>?_,s.d2,s.d3,s.d4,t8.ext_of d.ext j λb a=>s.ge (s.rows.free (f b a)),s.fg,s.frb⟩;rcases a with a|⟨x,m,a⟩
 .exact s.d1 b (.inl a)
 .rcases eM5 m with h|h
  .exact s.d1 b (.inr ⟨x,h,a⟩)
  .subst h;have A:=n b a;exact⟨λl=>by have:=s.q.lt l;omega,λl=>by have:=s.wts.lt l;omega,by have:=s.lg;omega,by have:=s.lr;omega⟩
def ST.qset{P:Program}{t}(s:ST w0 w rb gb ui uw vt us ins waits todo T){k}(l:k<todo.length)(y){e:TypeInfo}(d:P.info? t=some e)(m:e.size=1):
  ∃f,(Instr.storeAt t (I2 vt k) (.int .i64 y)).run P w = .ok () f/\ST w0 f rb gb ui uw vt us ins waits (todo.set k y) T:=by
 obtain⟨f,i,j,a⟩:=s.q.set (P:=P) (t:=t) l y d m;exact⟨f,i,s.rows.mod a λb c=>(s.d1 b c).1,s.wts.mod a λb c g=>(s.d2 b g).1 c,j,(a.block gb s.lg λh=>(s.d2 gb h).2.1 rfl).trans s.cg,(a.block rb s.lr λh=>(s.d2 rb h).2.2 rfl).trans s.cr,s.d1,s.d2,s.d3,s.d4,t8.ext_of s.ext a λb c=>s.ge (s.q.free c),s.fg,s.frb⟩
end
end Go.Proofs.YtpebpfiglfmegaaGreat

/- pdgEnds.proved: for every input the law returns true. No condition. Part 4 of 7. -/
import Derived.Laws.StructEq
import Derived.Test.YtdgicngfmfldmaaGreatZ3
set_option maxRecDepth 1000000
set_option maxHeartbeats 8000000
set_option linter.unusedVariables false
set_option linter.unusedSimpArgs false
set_option linter.unnecessarySimpa false
namespace Go.Proofs.YtdgicngfmfldmaaGreat
open Go Tryz
theorem ej3:af6 prog 274=true:=by kernel_rfl
theorem ej4:af6 prog 275=true:=by kernel_rfl
theorem dz9(w:World):Calls prog 242 #[.pointer none] w fun e w'=>∃u,e = .returned u∧(u = .slice none 0 0∧w'=w):=by
 refine d9 (args:=[.pointer none]) hm func242 rfl (by kernel_rfl) (by show 1≤_;decide +kernel) ?_;simp only[J4,O4,B7,simprocAttr];refine n7 results242 ?_;simp only[p6,simprocAttr];exact⟨by trivial,by trivial⟩
theorem cg4(pg:Value)(nx pv:List (List Int))(w:World)(hgr:GR (d7 w) pg nx pv)(hgg:az5 nx.length (nx,pv))(hn5:nx.length≤5000):
  Calls prog 242 #[pg] w fun e w'=>∃u,e = .returned u∧((∃p,A9 (d7 w) w' 3 u p∧p.length=nx.length∧∀b,H3 nx.length b=true→az8 nx b (ai p b))∧o6 w w'):=by
 have hgr':=hgr;have hg:D7 nx.length nx:=hgg.nx;have hgp:D7 nx.length pv:=hgg.pv;have hgp':D7 pv.length pv:=by rw[hgp.len];exact hgp
 have hplen:pv.length=nx.length:=hgp.len;obtain⟨gb,vn,vp,rfl,h1,h2,h3,h4⟩:=hgr;refine d9 (args:=[.pointer (some ⟨gb,0,none⟩)]) hm func242 rfl (by kernel_rfl) (by show 1≤_;decide +kernel) ?_;have hld:=G4 (P:=prog) (t:=155) h1 (i4 _) R1;have hSn:=h3.isS;have hnn:=h3.vlen;obtain⟨u0,w0,hmk,ho0,hx0,hf0,_⟩:=mk (P:=prog) (w:=w) (h:=d7 w) ad0 ax7 (α:=Int) (y:=0) rfl (n:=nx.length) (by omega) (by omega) (i4 _);have hld0:=G4 (P:=prog) (t:=155) h1 (b7 hx0) R1;obtain⟨u1,w1,hmk1,ho1,hx1,hf1,_⟩:=mk (P:=prog) (w:=w0) (h:=d7 w) bp9 S7 (α:=Bool) (y:=false) rfl (n:=nx.length) (by omega) (by omega) (b7 hx0);have hx01:=hx0.trans hx1;have hd01:Dj u0 u1:=Dj.fresh ho0 hf1;simp only[J4,O4,B7,T6,simprocAttr,hld,hSn,hnn,hmk,hld0,hmk1];refine y5 ej3 (cj3 _ nx pv w1 (hgr'.mono (b7 hx01)) hg hn5) ?_;rintro u2 w2 ⟨⟨order,hoo,hord⟩,hx2⟩;have hx02:=hx01.trans hx2;have hoo2:=hoo.back hx01;have hS2:=hoo.isS;have hl2:=hoo.vlen;have hol:=hord.len;rw[hol]at hl2;have hnb:∀b,A3 u2 b→w1.heap.size≤b:=fun b hb=>by
  have:=hoo.free hb;simpa[d7]using this
 have hd02:Dj u0 u2:=Dj.fresh (ho0.ext hx1) hnb;have hd12:Dj u1 u2:=Dj.fresh ho1 hnb;have hwl:IntKind.i64.wrap ((nx.length:Int)-1)=(nx.length:Int)-1:=K1 _ (by omega);simp only[J4,O4,B7,E7,T6,simprocAttr,hS2,hl2,hwl];refine n8 [0,3,4,5] (σ:=List Bool×List Int×Nat) (fun s f w'=>f 6 = .int .i64 ((s.2.2:Int)-1)∧s.2.2≤nx.length∧A9 (d7 w) w' 4 u1 s.1∧A9 (d7 w) w' 3 u0 s.2.1∧A9 (d7 w) w' 3 u2 order∧o6 w w'∧PI nx nx.length order s.1 s.2.1 s.2.2)
  (fun s=>s.2.2) (List.replicate nx.length false,List.replicate nx.length 0,nx.length) (by decide +kernel) ?_ ?_
 ·simp only[p6,simprocAttr];exact⟨by trivial,ew8 _,ho1.ext hx2,(ho0.ext hx1).ext hx2,hoo2,hx02,PI.start hord⟩
 ·rintro⟨sn,pt,k⟩ f w3 hk ⟨h6,hkl,hos,hop,hoo,hx,hi⟩;simp only at h6 hkl hos hop hi;simp only[ev4,p6,simprocAttr]at hk;obtain⟨e0,e3,e4,e5,_⟩:=hk;simp only[J4,B7,E7,simprocAttr,h6];refine i5 (fun hc=>?_) (fun hc=>?_)
  ·obtain⟨k,rfl⟩:∃j,k=j+1:=⟨k-1,by simp at hc;omega⟩;have hk1:((k+1:Nat):Int)-1=(k:Int):=by omega
   rw[hk1]at h6;have hklt:k<order.length:=by omega
   have hino:=hoo.inS hklt;have hldr:=D4 (P:=prog) (t:=3) hoo (ev2 hklt) G3;have hro:order[k]?=some order[k]:=ev2 hklt;generalize order[k]=r at hldr hro;have hrk:H3 nx.length r=true:=(hord.mem r).1 (ex2 hro);have hrk2:H3 sn.length r=true:=by rw[hi.slen];exact hrk
   obtain⟨hrlt,hrg⟩:=M0 hrk2;have dr:decide (0≤r)=true:=by simpa using(C5.1 hrk).1
   have hins:=hos.inS hrlt;have hlds:=D4 (P:=prog) (t:=4) hos (k:=r.toNat) (x:=B2 sn r) (by rw[hrg];simp[List.getD,hrlt]) ao9;have hwk:IntKind.i64.wrap ((k:Int)-1)=(k:Int)-1:=K1 _ (by omega);rcases ev3 (B2 sn r)with hbs|hbs
   ·simp only[J4,O4,B7,E7,p9,G7.val,simprocAttr,h6,e4,e5,hino,hldr,hins,dr,hlds,hbs,hwk];exact⟨(sn,pt,k),by simp only[];omega,by trivial,by simp only[];omega,hos,hop,hoo,hx,hi.old hro hbs⟩
   ·obtain⟨w4,s1,s2,s3,s4⟩:=D9 (P:=prog) (t:=4) hos rfl (k:=r.toNat) hrlt (x:=.bool true) (y:=true) rfl rfl (t8 S7).choose_spec.1 (by rw[←C7 (t8 S7).choose_spec.1];exact aD5);have hx4:=hos.ext2 hx s3;have hop4:=hop.apart s3 hd01;have hoo4:=hoo.apart s3 hd12.symm;have hldr4:=D4 (P:=prog) (t:=3) hoo4 hro G3;simp only[J4,O4,p9,G7.val,simprocAttr,h6,e4,e5,hino,hldr,hins,dr,hlds,hbs,s1];refine C2 (fun w2=>o6 w4.drew w2) 10 (A8 [0,1,2,3,4,5,6,7,8,9]) (by decide +kernel) (o9.refl _) ?_;have hxd:=hx4.trans (o6.drew w4);have hoo5:=hoo4.ext (o6.drew w4);simp only[D5,A8,J4,O4,simprocAttr,e0];refine⟨vp,fun w2 e=>G4 h2 (b7 (hxd.trans e)) R1,?_⟩;simp only[D5,J4,O4,p9,simprocAttr,e4,e5,h6,hino];refine⟨.int .i64 r,fun w2 e=>D4 (hoo5.ext e) hro G3,?_⟩;obtain⟨vt,w5,hlit,hot,hxt,hft⟩:=lit (P:=prog) (w:=w4.drew) (h:=d7 w) (α:=Int) (xs:=[.int .i64 r]) (ys:=[r]) (parts:=#[(0,.int .i64 r)]) (n:=1) ad0 rfl (K9.2 rfl) (by simp[Value.cells]) rfl rfl (by simp) (by simp) (b7 hxd);have hos5:=s2.ext ((o6.drew w4).trans hxt);have hdst:Dj u1 vt:=Dj.fresh (s2.ext (o6.drew w4)) hft;have hsetr:∀c,B2 (sn.set r.toNat true) c=if c=r then true else B2 sn c:=fun c=>M6 hrk2;simp only[D5,J4,simprocAttr,hlit,F7];refine⟨hxt,?_⟩;refine y5 dc9 (bO6 (d7 w) vp u1 vt pv (sn.set r.toNat true) [r] w5 (b7 (hxd.trans hxt)) h4 hgp' hos5 hot hdst (by simp[hi.slen,hplen]) (fun a ha=>by simp at ha;subst ha;rw[hsetr,if_pos rfl]) (by omega) (by simp)) ?_;rintro u3 w6 ⟨td,sn',hot6,hos6,hds6,hm6,hmv6,hok⟩;have hxt4:=hxd.trans hxt;have hvtn:∀b,A3 vt b→w.heap.size≤b:=fun b hb=>by
     have:=hot.free hb;exact eI6 fun hlt=>by simp[d7,hlt]at this
    have hx6:o6 w w6:=o9.ext_of hxt4 hm6 fun b hb=>by
     rcases hb with hb|hb
     ·have:=hos5.free hb;exact eI6 fun hlt=>by simp[d7,hlt]at this
     ·exact hvtn b hb
    have hop5:=hop4.ext ((o6.drew w4).trans hxt);have hoo5':=hoo4.ext ((o6.drew w4).trans hxt);have hd0t:Dj u0 vt:=Dj.fresh (hop4.ext (o6.drew w4)) hft;have hd2t:Dj u2 vt:=Dj.fresh (hoo4.ext (o6.drew w4)) hft;have hop6:=hop5.mod hm6 fun b hb hb2=>hb2.elim (hd01 b hb) (hd0t b hb);have hoo6:=hoo5'.mod hm6 fun b hb hb2=>hb2.elim (fun h=>hd12 b h hb) (hd2t b hb);have hd0u3:Dj u0 u3:=hd0t.move hop5 hmv6;have hwalk:=hi.walk hord hg hgg.both hro hbs;have htd:∀b,b∈td↔ai3 nx r b:=fun b=>by rw[hok.via,hwalk]
    have hrtd:r∈td:=(htd r).2 (.refl r);have htl:=hok.size;simp only[ey3,eC2]at htl;have hsl:=hi.slen;obtain⟨x,l,rfl⟩:∃x l,td=x::l:=by
     cases td with
     | nil=>cases hrtd
     | cons x l=>exact⟨x,l,rfl⟩
    simp only[ex7]at htl;simp only[J4,simprocAttr];refine y5 ej4 (cO5 u3 x l w6 (hot6.rw_ (b7 hx6)) (by omega)) ?_;rintro u4 w7 ⟨rfl,rfl⟩;obtain⟨mn1,mn2,mn3⟩:=ck2 l x;generalize l.foldl min x=m at mn1 mn2 mn3;have hS3:=hot6.isS;have hl3:=hot6.vlen;simp only[J4,O4,T6,simprocAttr,hS3,hl3];refine n8 [0,3,4,5,6,8,60,61] (σ:=List Int×Nat) (fun s f w'=>f 62 = .int .i64 s.2∧s.2≤(x::l).length∧A9 (d7 w) w' 3 u0 s.1∧A9 (d7 w) w' 4 u1 sn'∧A9 (d7 w) w' 3 u2 order∧A9 (d7 w) w' 3 u3 (x::l)∧o6 w w'∧s.1.length=nx.length ∧
      ∀b,H3 nx.length b=true→ai s.1 b=if b∈(x::l).take s.2 then m else ai pt b)
     (fun s=>(x::l).length-s.2) (pt,0) (by decide +kernel) ?_ ?_
    ·simp only[p6,simprocAttr];exact⟨by trivial,ew4 _,hop6,hos6,hoo6,hot6,hx6,hi.plen,fun b _=>by simp⟩
    ·rintro⟨pt2,j⟩ f2 w8 hk2 ⟨h62,hjl,hop8,hos8,hoo8,hot8,hx8,hpl2,hpt2⟩;simp only at h62 hjl hop8 hpl2 hpt2;simp only[ev4,p6,↓reduceIte,Nat.reduceEqDiff]at hk2;obtain⟨g0,g3,g4,g5,g6,g8,g60,g61,_⟩:=hk2;rw[e0]at g0;rw[e3]at g3;rw[e4]at g4;rw[e5]at g5;rw[h6]at g6;simp only[J4,B7,E7,simprocAttr,h62,g61];refine i5 (fun hc2=>?_) (fun hc2=>?_)
     ·have hj:j<(x::l).length:=by simp only[ez3]at hc2;omega
      have hinj:=hot8.inS hj;have hlda:=D4 (P:=prog) (t:=3) hot8 (ev2 hj) G3;have htk:=ew1 hj;have ham:(x::l)[j]∈(x::l):=ew2 hj;generalize(x::l)[j]=a at hlda htk ham;have hak:H3 nx.length a=true:=bY4 hg ((htd a).1 ham).1 hrk;have hak':=C5.1 hak;have da:decide (0≤a)=true:=by simpa using hak'.1
      have hinp:=hop8.inS (k:=a.toNat) (by omega);obtain⟨w9,t1,t2,t3,t4⟩:=D9 (P:=prog) (t:=3) hop8 rfl (k:=a.toNat) (by omega) (x:=.int .i64 m) (y:=m) rfl rfl (t8 ax7).choose_spec.1 (by rw[←C7 (t8 ax7).choose_spec.1];exact aR4);simp only[J4,O4,B7,E7,p9,G7.val,simprocAttr,h62,g60,g3,g8,hinj,hlda,hinp,da,t1];refine⟨(pt2.set a.toNat m,j+1),by simp only[];omega,by simp only[];rw[B1 j (by simp at hj;omega)],by simp only[];omega,t2,hos8.apart t3 hd01.symm,hoo8.apart t3 hd02.symm,hot8.apart t3 hd0u3.symm,hop8.ext2 hx8 t3,by simp[hpl2],fun b hb=>?_⟩;simp only[];rw[aS4 hpl2 hak hb,htk];by_cases hba:b=a
      ·subst hba;simp
      ·rw[if_neg hba,hpt2 b hb];simp[hba]
     ·have hge:j=(x::l).length:=by
       simp only[eH8]at hc2;omega
      subst hge;rw[ew5]at hpt2;simp only[J4,B7,E7,simprocAttr,g6,hwk];have hmem:∀b,B2 sn' b=true↔B2 sn b=true∨ai3 nx r b:=fun b=>by
       rw[hok.mark,hsetr,htd];by_cases hbr:b=r
       ·subst hbr;simp[ai3.refl]
       ·simp[hbr]
      refine⟨(sn',pt2,k),by simp only[];omega,by trivial,by simp only[];omega,hos8,hop8,hoo8,hx8,hi.new hro (by rw[hok.len];simp[hi.slen]) hpl2 hmem (m:=m) ⟨(htd m).1 ?_,fun c hc=>?_⟩ fun b hb=>?_⟩
      ·rcases mn3 with h|h
       ·rw[h];simp
       ·exact eB5 _ h
      ·rcases ex3.1 ((htd c).2 hc)with h|h
       ·rw[h];exact mn1
       ·exact mn2 c h
      ·have hbk:H3 nx.length b=true:=by
        have:=al7 hb;rw[hok.len]at this;simpa[hi.slen]using this
       rw[hpt2 b hbk];by_cases hsb:B2 sn b=true
       ·rw[if_pos hsb,if_neg];intro hbt;have hrb:=(htd b).1 hbt;obtain⟨c,hc,hcb⟩:=(hi.mark b).1 hsb;rw[(hi.mark r).2 ⟨c,hc,hcb.trans hrb.symm⟩]at hbs;cases hbs
       ·rw[if_neg hsb,if_pos];rcases(hmem b).1 hb with h|h
        ·exact absurd h hsb
        ·exact(htd b).2 h
  ·have hge:k=0:=by simp at hc;omega
   subst hge;simp only[J4,O4,simprocAttr];refine n7 results242 ?_;simp only[p6,simprocAttr];obtain⟨q1,q2⟩:=hi.fin hord;rw[e3];exact⟨⟨pt,hop,q1,q2⟩,hx⟩
instance:z6 (Int×Int):=⟨fun p=>[.int .i64 p.1,.int .i64 p.2],fun h cs x=>by
 constructor
 ·rintro⟨c1,c2,rfl,h1,h2⟩;have e1:c1=[Value.int .i64 x.1]:=h1;have e2:c2=[Value.int .i64 x.2]:=h2;rw[e1,e2];rfl
 ·rintro rfl;exact⟨[.int .i64 x.1],[.int .i64 x.2],rfl,rfl,rfl⟩⟩
theorem J9.nil{α:Type}[z7 α](h:Hp)(w:World)(T T':TypeId):J9 h w T T' (.slice none 0 0) ([]:List Y4) ([]:List (List α)):=
 ⟨A9.nil _ _ _,rfl,fun i u xs h=>by simp at h,fun i j u u' _ h=>by simp at h,fun i u h=>by simp at h⟩
theorem J9.push{α:Type}[z7 α]{h:Hp}{w w':World}{T T':TypeId}{v v':Value}{us:List Y4}{xss:List (List α)}(hr:J9 h w T T' v us xss){u':Value}{xs:List α}(ho:A9 h w T' u' xs)(hd:∀b,A3 u' b→¬K5 v us b)
  (ho2:A9 h w' T v' (us++[⟨u'⟩])) (hm:o9 (A3 v) w w') (hmv:F1 w v v'):J9 h w' T T' v' (us++[⟨u'⟩]) (xss++[xs]):=by
 have hget:∀(j:Nat) (x:Y4),(us++[(⟨u'⟩:Y4)])[j]?=some x→(j=us.length∧x=⟨u'⟩)∨us[j]?=some x:=by
  intro j x hj;rcases ez0 j us.length with hlt|hge
  ·rw[eA0 hlt]at hj;exact .inr hj
  ·rw[ez6 hge]at hj;cases hq:j-us.length with
   | zero=>rw[hq]at hj;simp at hj;exact .inl ⟨by omega,hj.symm⟩
   | succ q=>rw[hq]at hj;simp at hj
 have hold:∀(j:Nat) (x:Y4),us[j]?=some x→∀b,A3 x.v b→b<w.heap.size∧¬A3 v b:=fun j x hj b hb=>⟨hr.lt (.inr ⟨x,ex2 hj,hb⟩),hr.off j x hj b hb⟩;have hv':∀b,A3 v' b→A3 v b∨w.heap.size≤b:=hmv;refine⟨ho2,by simp[hr.len],?_,?_,?_⟩
 ·intro j x ys hj hy;rcases hget j x hj with⟨rfl,rfl⟩|hj'
  ·rw[hr.len,ez6 (ew8 _)]at hy;simp at hy;subst hy;exact ho.mod hm fun b hb hb2=>hd b hb (.inl hb2)
  ·have hlt:j<xss.length:=by rw[←hr.len];exact(ev8.1 hj').1
   rw[eA0 hlt]at hy;exact(hr.row j x ys hj' hy).mod hm fun b hb=>hr.off j x hj' b hb
 ·intro j k x y hjk hj hk b hb hb2;rcases hget j x hj with⟨rfl,rfl⟩|hj'<;>rcases hget k y hk with⟨rfl,rfl⟩|hk'
  ·exact hjk rfl
  ·exact hd b hb (.inr ⟨y,ex2 hk',hb2⟩)
  ·exact hd b hb2 (.inr ⟨x,ex2 hj',hb⟩)
  ·exact hr.apart j k x y hjk hj' hk' b hb hb2
 ·intro j x hj b hb hb2;rcases hget j x hj with⟨rfl,rfl⟩|hj'
  ·rcases hv' b hb2 with h1|h1
   ·exact hd b hb (.inl h1)
   ·have:=ho.lt hb;omega
  ·obtain⟨h1,h2⟩:=hold j x hj' b hb;rcases hv' b hb2 with h3|h3
   ·exact h2 h3
   ·omega
def W8(n:Nat)(l:List Int):List Bool:=(List.range n).map fun(b:Nat)=>l.contains (b:Int)
theorem T0(n:Nat)(l:List Int):(W8 n l).length=n:=by simp[W8]
theorem aC5{n:Nat}{l m:List Int}(h:∀x,x∈l↔x∈m):W8 n l=W8 n m:=by
 refine List.map_congr_left fun b _=>?_;rw[eI0,ex4,ex4];exact h _
theorem cm3(n:Nat):W8 n []=List.replicate n false:=by
 apply eC3
 ·simp[W8]
 ·intro j h1 h2;simp[W8]
theorem aU0{n:Nat}(l:List Int){q:Nat}(hq:q<n):(W8 n l).set q true=W8 n ((q:Int)::l):=by
 apply eC3
 ·simp[W8]
 ·intro j h1 h2;rw[List.getElem_set];simp only[W8,eD4,eI7];by_cases hjq:q=j
  ·subst hjq;simp
  ·rw[if_neg hjq,List.contains_cons];have:((j:Int)==(q:Int))=false:=by simp;omega
   rw[this,eI5]
theorem cm2{n:Nat}(l:List Int){q:Nat}(hq:q<n):(W8 n l)[q]?=some (l.contains (q:Int)):=by
 simp[W8,hq]
theorem ei1:af6 prog 242=true:=by kernel_rfl
theorem bh6:af6 prog 92=true:=by kernel_rfl
structure ai4 (p:Pg) (i x y:Nat) (wy:Wy):Prop extends WyOk p i x y wy where
 real:wy.real=(b9 p).steps i
 live:(wy.live.length:Int)=wy.n
theorem P7{p:Pg}{i x y:Nat}(pt:al5 p i x y):ai4 p i x y (D6 (b9 p) i):=⟨cf4 pt,rfl,bq0 pt⟩
theorem aP2{p:Pg}{i x y:Nat}{wy:Wy}(h:WyOk p i x y wy){l:List Sp}(hl:∀t∈l,RgS x y t):∀t∈wy.pairs l,(0≤t.1∧t.1<wy.n)∧(0≤t.2∧t.2<wy.n):=by
 intro t ht;obtain⟨s,hs,rfl⟩:=ey0.1 ht;have h1:=hl s hs;refine⟨h.index_rg ?_,h.index_rg (.inr h1.2)⟩;rcases h1.1 with h2|h2
 ·exact .inl h2
 ·exact .inr (.inr h2)
theorem cB0{nx:List (List Int)}(hg:D7 nx.length nx):∀k,k<nx.length→0≤U5 (ac4 nx) (k:Nat)∧U5 (ac4 nx) (k:Nat)<(nx.length:Int):=by
 intro k hk;have:U5 (ac4 nx) (k:Nat)=((((List.range nx.length).find? fun b=>R9 nx (k:Nat) (b:Nat)&&R9 nx (b:Nat) (k:Nat)).getD 0:Nat):Int):=by
  unfold U5;rw[ex8,List.getD,ev2 (by simp[ac4,hk])];simp[ac4]
 rw[this];cases hf:(List.range nx.length).find? fun b=>R9 nx (k:Nat) (b:Nat)&&R9 nx (b:Nat) (k:Nat)with
 | none=>simp;omega
 | some q=>
  have:=List.mem_of_find?_eq_some hf;rw[ez1]at this;simp;omega
theorem au7{l:List Int}{k:Nat}(hk:k<l.length):U5 l (k:Nat)=l[k]:=by
 unfold U5;rw[ex8,List.getD,ev2 hk];rfl
theorem cy6{h:Hp}{v:Value}{l:List (Int×Int)}{w:World}(hv:R h v l)(hw:B4 h (d7 w)){k:Nat}{x:Int×Int}(hk:l[k]?=some x):(Instr.loadAt 74 (.pointer (some (H4 v (k*2))))).run prog w = .ok (.agg #[.int .i64 x.1,.int .i64 x.2]) w:=
 cc4 (P:=prog) (t:=74) hv hw hk cG6 cI1 cG7 bO1
theorem cJ1{w:World}(a b:Int):∃c wz w',(Instr.alloc 74 true (.tuple #[])).run prog w = .ok (.pointer (some ⟨c,0,none⟩)) wz∧(Instr.storeAt 74 (.pointer (some ⟨c,0,none⟩)) (.agg #[.int .i64 a,.int .i64 b])).run prog wz = .ok () w'∧o6 w w'∧w'.heap[c]?=some (.cells #[.int .i64 a,.int .i64 b] 74 (0,0))∧w.heap.size≤c:=by
 obtain⟨h1,h2⟩:=aT9 (P:=prog) (w:=w) (T:=74) da3 rfl (cs:=#[.int .i64 a,.int .i64 b]) rfl (by simp[Value.oneCell']);exact⟨_,_,_,h1,h2,o6.alloc _ _,ez5 w _,ew8 _⟩
theorem aj4{w w':World}{c:Nat}{a b:Int}(h:w.heap[c]?=some (.cells #[.int .i64 a,.int .i64 b] 74 (0,0))){M:Nat→Prop}(hm:o9 M w w')(hc:¬M c):
  (Instr.loadAt 3 (.pointer (some ⟨c,0,none⟩))).run prog w' = .ok (.int .i64 a) w'∧(Instr.loadAt 3 (.pointer (some ⟨c,1,none⟩))).run prog w' = .ok (.int .i64 b) w':=by
 have h':=(hm.block c (ev9.1 h).1 hc).trans h;exact⟨E8 (i:=0) h' rfl G3,E8 (i:=1) h' rfl G3⟩
def an0(part:List Int)(n:Int)(ps:List (Int×Int)):List Int:=U5 part 0::U5 part (n-1)::(ps.filter fun t=>!decide (U5 part t.1=U5 part t.2)).map fun t=>U5 part t.1
theorem bU5(part:List Int)(n:Int)(ps:List (Int×Int))(t:Int×Int)(x:Int):x∈an0 part n (ps++[t])↔x∈an0 part n ps∨(decide (U5 part t.1=U5 part t.2)=false∧x=U5 part t.1):=by
 unfold an0;rw[eC6,ey5];by_cases h:U5 part t.1=U5 part t.2
 ·simp[h]
 ·simp[h,or_assoc]
theorem cg8(a:Addr)(wy:Wy)(p:Pg)(i x y:Nat)(w:World)(ha:At (d7 w) a wy)(hr:E4 p)(hw:C8 p≤1000000)(hi:i<p.procs.length)(hok:ai4 p i x y wy):
  Calls prog 199 #[.pointer (some a)] w fun e w'=>∃u,e = .returned u∧(R (d7 w') u wy.traps∧o6 w w'):=by
 refine d9 (args:=[.pointer (some a)]) hm func199 rfl (by kernel_rfl) (by show 1≤_;decide +kernel) ?_;obtain⟨_,vr,_,_,hvr,_,ldw,sdw⟩:=ha.wy;have lw:=ldw w (i4 _);rw[hok.real]at hvr;have h200:=J3 hr.may;have hlen:=hok.part.ok.len;have hle':=hok.part.ok.le;have hn:=hok.n;have hsrg:=bl9 hr hw hi hok.part;have hsl:=aV5 hw hi;have hprg:=aP2 hok.toWyOk hsrg;have hpl:(wy.pairs ((b9 p).steps i)).length=((b9 p).steps i).length:=ew3 _;have hF:wy.traps=((List.range (ac4 (ag6 wy.n.toNat (wy.pairs ((b9 p).steps i))).1).length).filter fun(i':Nat)=>decide (U5 (ac4 (ag6 wy.n.toNat (wy.pairs ((b9 p).steps i))).1) (i':Int)=(i':Int)) && !(an0 (ac4 (ag6 wy.n.toNat (wy.pairs ((b9 p).steps i))).1) wy.n (wy.pairs ((b9 p).steps i))).contains (i':Int)).map fun(i':Nat)=>((List.range (ac4 (ag6 wy.n.toNat (wy.pairs ((b9 p).steps i))).1).length).filter fun(j:Nat)=>decide (U5 (ac4 (ag6 wy.n.toNat (wy.pairs ((b9 p).steps i))).1) (j:Int)=(i':Int))).map fun(j:Nat)=>wy.place (j:Int):=by
  unfold Wy.traps;rw[hok.real];rfl
 simp only[n3,n9,simprocAttr,lw];refine y5 dc2 (bh3 a wy p i x y vr _ w ha hok.toWyOk h200 hvr hsrg (by omega)) ?_;rintro ug w2 ⟨hgr,hx2⟩;have hgraph:=ae3 wy.n.toNat (wy.pairs ((b9 p).steps i));generalize hps:wy.pairs ((b9 p).steps i)=ps at hprg hpl hF hgr hgraph;have hgl:=hgraph.nx.len;simp only[n3,simprocAttr];refine y5 ei1 (cg4 ug _ _ w2 hgr (by rw[hgl];exact hgraph) (by omega)) ?_;rintro up w4 ⟨⟨q,hoq,hql,hqp⟩,hx4⟩;have hgood:D7 (ag6 wy.n.toNat ps).1.length (ag6 wy.n.toNat ps).1:=by rw[hgl];exact hgraph.nx
 have hpe:=cP6 hgood hql hqp;subst hpe;have hpok:=cB0 hgood;rw[hql,hgl]at hF;rw[hgl]at hql hpok;generalize ac4 (ag6 wy.n.toNat ps).1=part at hoq hF hpok hql;clear hqp hgood hgl hgraph hgr;have hx04:=hx2.trans hx4;have hup:R (d7 w4) up part:=hoq.rw_ (b7 hx4);have hSp:=hup.isS;have hnp:=hup.vlen;have lw4:=ldw w4 (b7 hx04);have hnn:wy.n=((wy.n.toNat:Nat):Int):=by omega
 have hN2:2≤wy.n.toNat:=by omega
 obtain⟨vo,w5,hmk,hoo,hx5,_,_⟩:=mk (P:=prog) (w:=w4) (h:=d7 w4) (α:=Bool) bp9 S7 (y:=false) rfl (n:=wy.n.toNat) (by omega) (by omega) (i4 _);rw[←hnn]at hmk;generalize hM:wy.n.toNat=M at hmk hoo hF hpok hql hN2;have hM2:wy.n=(M:Int):=by omega
 rw[←cm3]at hoo;have hp0:=hpok 0 (by omega);have hp1:=hpok (M-1) (by omega);rw[au7 (by omega)]at hp0 hp1;have hin0:=hup.inS (k:=0) (by omega);have hin1:=hup.inS (k:=M-1) (by omega);have ho0:=hoo.inS (k:=part[0].toNat) (by rw[T0];omega);have ho1:=hoo.inS (k:=part[M-1].toNat) (by rw[T0];omega);have hwn:IntKind.i64.wrap (wy.n-1)=((M-1:Nat):Int):=by rw[K1 _ (by omega)];omega
 have hoo5:=hoo.ext (o6.drew w5);obtain⟨w6,s1,ho6,hm6,_⟩:=D9 (P:=prog) (t:=4) hoo5 rfl (k:=part[0].toNat) (by rw[T0];omega) (x:=.bool true) (y:=true) rfl rfl (t8 S7).choose_spec.1 (by rw[←C7 (t8 S7).choose_spec.1];exact aD5);rw[aU0 _ (by omega)]at ho6;obtain⟨w7,s2,ho7,hm7,_⟩:=D9 (P:=prog) (t:=4) ho6 rfl (k:=part[M-1].toNat) (by rw[T0];omega) (x:=.bool true) (y:=true) rfl rfl (t8 S7).choose_spec.1 (by rw[←C7 (t8 S7).choose_spec.1];exact aD5);rw[aU0 _ (by omega)]at ho7;have hcm:W8 M [((part[M-1].toNat:Nat):Int),((part[0].toNat:Nat):Int)]=W8 M (an0 part wy.n []):=by
  refine aC5 fun z=>?_;unfold an0;have e0:U5 part 0=part[0]:=by have:=au7 (l:=part) (k:=0) (by omega);simpa using this
  have e1:U5 part (wy.n-1)=part[M-1]:=by rw[show wy.n-1=((M-1:Nat):Int) by omega,au7 (by omega)]
  rw[e0,e1];simp only[List.filter_nil,List.map_nil,ex3,eA6,eG5];rw[show((part[M-1].toNat:Nat):Int)=part[M-1] by omega,show((part[0].toNat:Nat):Int)=part[0] by omega,or_comm]
 rw[hcm]at ho7;have hm57:o9 (A3 vo) w5.drew w7:=hm6.chain hm7 fun _ _ h=>h;have hst:∀w',o9 (A3 vo) w5.drew w'→B4 (d7 w4) (d7 w'):=fun w' h=>K6 (b7 (hx5.trans (o6.drew w5))) h fun b hb=>hoo.free hb;have k0:∀K f d w0,B8 prog (fun w'=>o9 (A3 vo) w5.drew w') (Instr.loadAt 3 (.pointer (some (H4 up 0)))) K f d w0=K (A5 f d (.int .i64 part[0])) w0:=fun K f d w0=>A0 (w0:=w5.drew) (o9.refl _) fun w' h=>aH4 hup (hst w' h) (k:=0) (by omega);have k1:∀K f d w0,B8 prog (fun w'=>o9 (A3 vo) w5.drew w') (Instr.loadAt 3 (.pointer (some (H4 up (M-1))))) K f d w0=K (A5 f d (.int .i64 part[M-1])) w0:=fun K f d w0=>A0 (w0:=w5.drew) (o9.refl _) fun w' h=>aH4 hup (hst w' h) (k:=M-1) (by omega);have swy:=sdw (fun w'=>o9 (A3 vo) w5.drew w') w5.drew (o9.refl _) fun w' h=>p8 (b7 hx04) (hst w' h);have hc0:part[0]=((part[0].toNat:Nat):Int):=by omega
 have hc1:part[M-1]=((part[M-1].toNat:Nat):Int):=by omega
 rw[hc0]at k0;rw[hc1]at k1;generalize part[0].toNat=P0 at k0 ho0 s1;generalize part[M-1].toNat=P1 at k1 ho1 s2;simp only[n3,n9,simprocAttr,lw4,hmk];refine C2 (fun w'=>o9 (A3 vo) w5.drew w') 17 (A8 [0,1,2,3,4,5,6,7,8,9,10,11,12,13,14,15,16]) (by decide +kernel) (o9.refl _) ?_;simp only[D5,A8,n3,n9,p9,simprocAttr,k0,k1,swy,hin0,hin1,hwn,ho0,ho1,s1,s2,F7];refine⟨hm6,hm57,?_⟩;have hx47:o6 w4 w7:=o9.ext_of (hx5.trans (o6.drew w5)) hm57 fun b hb=>C9 (hoo.free hb);have hx07:=hx04.trans hx47;have lw7:=ldw w7 (b7 hx07);simp only[n3,simprocAttr,lw7];refine y5 bI1 (aj6 a wy p i x y vr _ w7 (ha.mono (b7 hx07)) hok.toWyOk (z7.mono (b7 hx07) hvr) hsrg (by omega)) ?_;rw[hps];rintro uq w8 ⟨hoq8,hx8⟩;have ho8:=ho7.ext hx8;have huq:R (B5 w8 (A3 vo)) uq ps:=hoq8.flatRN fun b hb=>D3 fun hbu=>by
  have h1:=ho7.lt hbu;have h2:=C9 (hoq8.free hb);omega
 have hx48:=hx47.trans hx8;have hSq:=huq.isS;have hnq:=huq.vlen;simp only[n3,n9,simprocAttr,hSq,hnq];refine n8 [0,3,4,43,44] (σ:=Nat) (fun k f w'=>f 45 = .int .i64 k∧k≤ps.length∧A9 (d7 w4) w' 4 vo (W8 M (an0 part wy.n (ps.take k)))∧o9 (A3 vo) w8 w') (fun k=>ps.length-k) 0 (by decide +kernel) ?_ ?_
 ·simp only[p6,simprocAttr];exact⟨by trivial,ew4 _,by simpa using ho8,o9.refl _⟩
 rintro k f w9 hk ⟨h45,hkl,ho9,hm9⟩;simp only[ev4,p6,simprocAttr]at hk;obtain⟨e0,e3,e4,e43,e44,_⟩:=hk;have hx49:=ho8.ext2 hx48 hm9;simp only[n3,n9,simprocAttr,h45,e44];refine i5 (fun hc=>?_) (fun hc=>?_)
 ·have hlt:k<ps.length:=by simpa using hc
  have hin:=huq.inS hlt;have hld:=cy6 huq (D2 hm9) (ev2 hlt);have htk:=ew1 hlt;obtain⟨hr1,hr2⟩:=hprg _ (ew2 hlt);generalize ps[k]=t at hld htk hr1 hr2;obtain⟨z1,z2⟩:=t;simp only at hr1 hr2 hld;obtain⟨Q1,rfl⟩:∃Q:Nat,z1=(Q:Int):=⟨z1.toNat,by omega⟩;obtain⟨Q2,rfl⟩:∃Q:Nat,z2=(Q:Int):=⟨z2.toNat,by omega⟩;obtain⟨c,wz,w10,hal,hst10,hx10,hh10,hge10⟩:=cJ1 (w:=w9) (Q1:Int) (Q2:Int);have hx410:=hx49.trans (hx10.trans (o6.drew w10));have hld2:=fun w' (h:o6 w10.drew w')=>aj4 hh10 (M:=fun _=>False) ((o6.drew w10).trans h) id;have t0:∀K f d w0,B8 prog (fun w'=>o6 w10.drew w') (Instr.loadAt 3 (.pointer (some ⟨c,0,none⟩))) K f d w0=K (A5 f d (.int .i64 (Q1:Int))) w0:=fun K f d w0=>A0 (w0:=w10.drew) (o9.refl _) fun w' h=>(hld2 w' h).1;have t1:∀K f d w0,B8 prog (fun w'=>o6 w10.drew w') (Instr.loadAt 3 (.pointer (some ⟨c,1,none⟩))) K f d w0=K (A5 f d (.int .i64 (Q2:Int))) w0:=fun K f d w0=>A0 (w0:=w10.drew) (o9.refl _) fun w' h=>(hld2 w' h).2;have hl1:Q1<part.length:=by omega
  have hl2:Q2<part.length:=by omega
  have hi1:=hup.inS hl1;have hi2:=hup.inS hl2;have g1:=au7 hl1;have g2:=au7 hl2;have u1:∀K f d w0,B8 prog (fun w'=>o6 w10.drew w') (Instr.loadAt 3 (.pointer (some (H4 up Q1)))) K f d w0=K (A5 f d (.int .i64 (U5 part Q1))) w0:=fun K f d w0=>A0 (w0:=w10.drew) (o9.refl _) fun w' h=>by rw[g1];exact aH4 hup (b7 (hx410.trans h)) hl1
  have u2:∀K f d w0,B8 prog (fun w'=>o6 w10.drew w') (Instr.loadAt 3 (.pointer (some (H4 up Q2)))) K f d w0=K (A5 f d (.int .i64 (U5 part Q2))) w0:=fun K f d w0=>A0 (w0:=w10.drew) (o9.refl _) fun w' h=>by rw[g2];exact aH4 hup (b7 (hx410.trans h)) hl2
  have v1:(Instr.loadAt 3 (.pointer (some (H4 up Q1)))).run prog w10.drew = .ok (.int .i64 (U5 part Q1)) w10.drew:=by rw[g1];exact aH4 hup (b7 hx410) hl1
  have hpk:=hpok Q1 (by omega);have ho10:=ho9.ext (hx10.trans (o6.drew w10));have hlv:=(hld2 w10.drew (o9.refl _)).1;have hsn:=fun z=>bU5 part wy.n (ps.take k) ((Q1:Int),(Q2:Int)) z;rw[←htk]at hsn;simp only at hsn;generalize U5 part (Q1:Int)=A1 at u1 v1 hpk hsn;generalize U5 part (Q2:Int)=A2 at u2 hsn;obtain⟨A1,rfl⟩:∃Q:Nat,A1=(Q:Int):=⟨A1.toNat,by omega⟩;have hmod:o9 (A3 vo) w8 w10.drew:=hm9.chain (o9.up (hx10.trans (o6.drew w10))) fun _ _ h=>h;rcases ev3 (decide ((A1:Int)=A2))with hq|hq
  ·simp only[n3,n9,p9,simprocAttr,h45,e43,hin,hld,hal,hst10];refine C2 (fun w'=>o6 w10.drew w') 11 (A8 [0,1,2,3,4,5,6,7,8,9,10]) (by decide +kernel) (o9.refl _) ?_;simp only[D5,A8,n3,n9,p9,simprocAttr,e3,t0,t1,u1,u2,hi1,hi2,hq,h45];refine⟨k+1,by omega,by rw[B1 k (by omega)],by omega,?_,hmod⟩;have:W8 M (an0 part wy.n (ps.take (k+1)))=W8 M (an0 part wy.n (ps.take k)):=aC5 fun z=>by rw[hsn z,hq];simp
   rw[this];exact ho10
  ·have hino:=ho10.inS (k:=A1) (by rw[T0];omega);obtain⟨w11,s1,ho11,hm11,_⟩:=D9 (P:=prog) (t:=4) ho10 rfl (k:=A1) (by rw[T0];omega) (x:=.bool true) (y:=true) rfl rfl (t8 S7).choose_spec.1 (by rw[←C7 (t8 S7).choose_spec.1];exact aD5);rw[aU0 _ (by omega)]at ho11;simp only[n3,n9,p9,simprocAttr,h45,e43,hin,hld,hal,hst10];refine C2 (fun w'=>o6 w10.drew w') 11 (A8 [0,1,2,3,4,5,6,7,8,9,10]) (by decide +kernel) (o9.refl _) ?_;simp only[D5,A8,n3,n9,p9,simprocAttr,e3,t0,t1,u1,u2,hi1,hi2,hq];simp only[n3,n9,p9,simprocAttr,e4,h45,hlv,v1,hi1,hino,s1];refine⟨k+1,by omega,by rw[B1 k (by omega)],by omega,?_,hmod.chain hm11 fun _ _ h=>h⟩;have:W8 M (an0 part wy.n (ps.take (k+1)))=W8 M ((A1:Int)::an0 part wy.n (ps.take k)):=aC5 fun z=>by rw[hsn z,hq,ex3];simp[or_comm]
   rw[this];exact ho11
 have hge:k=ps.length:=by simp at hc;omega
 subst hge;rw[ew5]at ho9;generalize hop:an0 part wy.n ps=op at ho9 hF;have huo:R (d7 w9) vo (W8 M op):=ho9.rw_ (b7 hx49);have hx09:=hx04.trans hx49;have hup9:R (d7 w9) up part:=z7.mono (b7 hx49) hup;have ha9:=ha.mono (b7 hx09);generalize hPr:(fun(i':Nat)=>decide (U5 part (i':Int)=(i':Int)) && !op.contains (i':Int))=Pr at hF;generalize hRw:(fun(i':Nat)=>((List.range M).filter fun(j:Nat)=>decide (U5 part (j:Int)=(i':Int))).map fun(j:Nat)=>wy.place (j:Int))=Rw at hF;clear ho9 ho8 ho7 ho6 hoo5 hoo huq hoq8;simp only[m8,n9,simprocAttr,e3,hSp,hnp];refine n8 [0,3,4,68,69] (σ:=Nat×Value×List Y4) (fun s f w'=>f 70 = .int .i64 s.1∧f 7=s.2.1∧s.1≤M∧J9 (d7 w9) w' 118 3 s.2.1 s.2.2 (((List.range s.1).filter Pr).map Rw)∧o6 w9 w') (fun s=>M-s.1) (0,.slice none 0 0,[]) (by decide +kernel) ?_ ?_
 ·simp only[p6,simprocAttr];exact⟨by trivial,by trivial,ew4 _,by simpa using J9.nil _ _ _ _,o9.refl _⟩
 rintro⟨m,v,us⟩ f2 w11 hk ⟨h70,h7,hml,hrows,hx11⟩;simp only at h70 h7 hml hrows;simp only[ev4,p6,simprocAttr]at hk;obtain⟨g0,g3,g4,g68,g69,_⟩:=hk;rw[e0]at g0;rw[e3]at g3;rw[e4]at g4;rw[hql]at g69;have hx011:=hx09.trans hx11;have hstep:∀q:Nat,((List.range (q+1)).filter Pr).map Rw=((List.range q).filter Pr).map Rw++if Pr q then[Rw q]else[]:=fun q=>by
  rw[eG0,eC6,ey5]
  congr 1
  by_cases h:Pr q=true<;>simp[h]
 simp only[m8,n9,simprocAttr,h70,g69];refine i5 (fun hc=>?_) (fun hc=>?_);rotate_left
 ·have hge:m=M:=by simp at hc;omega
  subst hge;simp only[m8,simprocAttr,h7];refine n7 results199 ?_;simp only[p6,simprocAttr];exact⟨by rw[hF];exact hrows.ro (b7 hx11),hx011⟩
 have hlt:m<M:=by simpa using hc
 have hlm:m<part.length:=by omega
 have him:=hup.inS hlm;have hlm9:=fun w' (h:o6 w9 w')=>aH4 hup9 (b7 h) hlm;rw[←au7 hlm]at hlm9;have hpm:=hlm9 w11 hx11;have hPrm:Pr m=(decide (U5 part (m:Int)=(m:Int)) && !op.contains (m:Int)):=by rw[←hPr]
 have hskip:Pr m=false→∃s:Nat×Value×List Y4,M-s.1<M-m∧(Value.int .i64 (IntKind.i64.wrap ((m:Int)+1))) = .int .i64 s.1∧v=s.2.1∧s.1≤M∧J9 (d7 w9) w11 118 3 s.2.1 s.2.2 (((List.range s.1).filter Pr).map Rw)∧o6 w9 w11:=fun h=>by
  refine⟨(m+1,v,us),by simp only[];omega,by simp only[];rw[B1 m (by omega)],by trivial,by simp only[];omega,?_,hx11⟩;simp only[];rw[hstep,h,if_neg (by simp),ey6];exact hrows
 generalize hAm:U5 part (m:Int)=Am at hpm hPrm;rcases ev3 (decide (Am=(m:Int)))with q1|q1;rotate_left
 ·simp only[m8,n9,p9,simprocAttr,h70,h7,g3,him,hpm,q1];exact hskip (by rw[hPrm,q1];rfl)
 have hio:=huo.inS (k:=m) (by rw[T0];exact hlt);have hlo:=ldB huo (b7 hx11) (k:=m) (by rw[T0];exact hlt);have hgo:(W8 M op)[m]'(by rw[T0];exact hlt)=op.contains (m:Int):=by
  have:=cm2 op hlt;rw[ev2 (by rw[T0];exact hlt)]at this;exact ex1 this
 rw[hgo]at hlo;rcases ev3 (op.contains (m:Int))with q2|q2
 ·simp only[m8,n9,p9,simprocAttr,h70,h7,g3,g4,him,hpm,q1,hio,hlo,q2];exact hskip (by rw[hPrm,q1,q2];rfl)
 have hPt:Pr m=true:=by rw[hPrm,q1,q2];rfl
 have hRm:Rw m=((List.range M).filter fun(j:Nat)=>decide (U5 part (j:Int)=(m:Int))).map fun(j:Nat)=>wy.place (j:Int):=by rw[←hRw]
 simp only[m8,n9,p9,simprocAttr,h70,g3,g4,him,hpm,q1,hio,hlo,q2,hSp,hnp];refine n8 [0,3,4,7,8,68,69,70,85,86] (σ:=Nat×Value) (fun s f w'=>f 87 = .int .i64 s.1∧f 9=s.2∧s.1≤M∧A9 (d7 w9) w' 3 s.2 (((List.range s.1).filter fun(j:Nat)=>decide (U5 part (j:Int)=(m:Int))).map fun(j:Nat)=>wy.place (j:Int))∧(∀b,A3 s.2 b→¬K5 v us b)∧J9 (d7 w9) w' 118 3 v us (((List.range m).filter Pr).map Rw)∧o6 w9 w') (fun s=>M-s.1) (0,.slice none 0 0) (by decide +kernel) ?_ ?_
 ·simp only[p6,simprocAttr];exact⟨by trivial,by trivial,ew4 _,by simpa using A9.nil _ _ _,fun b hb=>absurd hb D0,hrows,hx11⟩
 rintro⟨j,ul⟩ f3 w12 hk ⟨h87,h9,hjl,hol,hdl,hrows12,hx12⟩;simp only at h87 h9 hjl hol hdl;simp only[ev4,p6,simprocAttr]at hk;obtain⟨r0,r3,r4,r7,r8,r68,r69,r70,r85,r86,_⟩:=hk;rw[hql]at r86;rw[g0]at r0;rw[g3]at r3;rw[h7]at r7;have hcnt:(((List.range j).filter fun(j:Nat)=>decide (U5 part (j:Int)=(m:Int))).map fun(j:Nat)=>wy.place (j:Int)).length≤j:=by
  rw[ew3];exact ew0 (ey2 _ _) (by simp)
 have hcnt2:us.length≤m:=by
  rw[hrows12.len,ew3];exact ew0 (ey2 _ _) (by simp)
 simp only[m8,n9,simprocAttr,h87,r86];refine i5 (fun hc=>?_) (fun hc=>?_)
 ·have hltj:j<M:=by simpa using hc
  have hlj:j<part.length:=by omega
  have hij:=hup.inS hlj;have hpj:=aH4 hup9 (b7 hx12) hlj;rw[←au7 hlj]at hpj;have hst2:(((List.range (j+1)).filter fun(j:Nat)=>decide (U5 part (j:Int)=(m:Int))).map fun(j:Nat)=>wy.place (j:Int))=(((List.range j).filter fun(j:Nat)=>decide (U5 part (j:Int)=(m:Int))).map fun(j:Nat)=>wy.place (j:Int))++if decide (U5 part (j:Int)=(m:Int))then[wy.place (j:Int)]else[]:=by
   rw[eG0,eC6,ey5]
   congr 1
   cases h:decide (U5 part (j:Int)=(m:Int))<;>simp[h]
  generalize U5 part (j:Int)=Aj at hpj hst2;rcases ev3 (decide (Aj=(m:Int)))with q3|q3
  ·simp only[m8,n9,p9,simprocAttr,h87,r0,r3,r8,hij,hpj,q3];refine B3 bh6 (aa5 a wy p i x y (j:Int) w12 (ha9.mono (b7 hx12)) hok.toWyOk (by omega)) (fun w13 hx13=>?_);have hx913:=hx12.trans hx13;obtain⟨p1,ul',w14,p2,p3,p4,p5⟩:=push (e:=118) ad0 rfl (hol.ext hx13) (x:=.int .i64 (wy.place (j:Int))) (y:=wy.place (j:Int)) rfl (by omega) (by omega) (b7 hx913);simp only[Value.cells]at p1 p2;have hr13:=hrows12.ext hx13;have hr14:=hr13.mod p4 fun b hb hbl=>hdl b hbl hb;simp only[m8,n9,simprocAttr,h87,h9,p1,p2];refine⟨(j+1,ul'),by simp only[];omega,by simp only[];rw[B1 j (by omega)],by trivial,by simp only[];omega,?_,fun b hb hbr=>?_,hr14,(hol.ext hx13).ext2 hx913 p4⟩
   ·simp only[];rw[hst2,q3,if_pos rfl];exact p3
   ·rcases p5 b hb with h|h
    ·exact hdl b h hbr
    ·have:=hr13.lt hbr;omega
  ·simp only[m8,n9,p9,simprocAttr,h87,r3,r8,hij,hpj,q3];refine⟨(j+1,ul),by simp only[];omega,by simp only[];rw[B1 j (by omega)],h9,by simp only[];omega,?_,hdl,hrows12,hx12⟩;simp only[];rw[hst2,q3,if_neg (by simp),ey6];exact hol
 ·have hge:j=M:=by simp at hc;omega
  subst hge;rw[←hRm]at hol;obtain⟨p1,v',w13,p2,p3,p4,p5⟩:=push (e:=155) bV6 rfl hrows12.outer (x:=ul) (y:=(⟨ul⟩:Y4)) (by rw[D8 hol.isS];exact⟨rfl,V6 hol.isS⟩) (by omega) (by omega) (b7 hx12);simp only[m8,n9,simprocAttr,h9,r7,r70,h70,p1,p2];refine⟨(m+1,v',us++[⟨ul⟩]),by simp only[];omega,by simp only[];rw[B1 m (by omega)],by trivial,by simp only[];omega,?_,hrows12.outer.ext2 hx12 p4⟩;simp only[];rw[hstep,hPt,if_pos rfl];exact hrows12.push hol hdl p3 p4 p5
theorem eh0:af6 prog 199=true:=by kernel_rfl
theorem bN4{p:Pg}{i x y:Nat}{wy:Wy}(hok:ai4 p i x y wy):∃part op:List Int,wy.traps=((List.range part.length).filter fun(i':Nat)=>decide (U5 part (i':Int)=(i':Int)) && !op.contains (i':Int)).map (fun(i':Nat)=>((List.range part.length).filter fun(j:Nat)=>decide (U5 part (j:Int)=(i':Int))).map fun(j:Nat)=>wy.place (j:Int))∧(part.length:Int)=wy.n∧U5 part 0∈op∧U5 part (wy.n-1)∈op:=by
 refine⟨ac4 (ag6 wy.n.toNat (wy.pairs wy.real)).1,an0 (ac4 (ag6 wy.n.toNat (wy.pairs wy.real)).1) wy.n (wy.pairs wy.real),rfl,?_,?_,?_⟩
 ·have h1:=(ae3 wy.n.toNat (wy.pairs wy.real)).nx.len;have h2:=hok.n;have h3:=hok.part.ok.le;unfold ac4;rw[ew3,eA7,h1];omega
 ·simp[an0]
 ·simp[an0]
theorem bN5{p:Pg}{i x y:Nat}{wy:Wy}(hok:ai4 p i x y wy):∀l∈wy.traps,∀id∈l,(x:Int)<id∧id≤(y:Int):=by
 obtain⟨part,op,e,hl,h0,h1⟩:=bN4 hok;intro l hm id hid;rw[e]at hm;obtain⟨k,hk,rfl⟩:=ey0.1 hm;obtain⟨j,hj,rfl⟩:=ey0.1 hid;rw[ey4,ez1]at hk hj;have hj2:=ev6 hj.2;have hkno:(k:Int)∉op:=by
  have:=hk.2;rw[ex5]at this;intro hm;have h2:=ex4.2 hm;rw[h2]at this;simp at this
 have hn:=hok.n;have hle':=hok.part.ok.le;rw[hok.toWyOk.place];have hj0:j≠0:=fun e=>by
  subst e;apply hkno;rw[←hj2];simpa using h0
 have hjn:(j:Int)≠wy.n-1:=fun e=>by
  apply hkno;rw[←hj2,e];exact h1
 rw[if_neg (by omega),if_neg hjn];omega
theorem bv8{p:Pg}{i x y:Nat}{wy:Wy}(hok:ai4 p i x y wy):(wy.traps.length:Int)≤wy.n∧∀l∈wy.traps,(l.length:Int)≤wy.n:=by
 obtain⟨part,op,e,hl,h0,h1⟩:=bN4 hok;rw[e];constructor
 ·rw[ew3];have:=ey2 (fun(i':Nat)=>decide (U5 part (i':Int)=(i':Int)) && !op.contains (i':Int)) (List.range part.length);rw[eA7]at this;omega
 ·intro l hm;obtain⟨k,hk,rfl⟩:=ey0.1 hm;rw[ew3];have:=ey2 (fun(j:Nat)=>decide (U5 part (j:Int)=(k:Int))) (List.range part.length);rw[eA7]at this;omega
theorem cV6{p:Pg}{i x y:Nat}{wy:Wy}(hok:ai4 p i x y wy):∀t∈wy.virtual,RgS x y t:=by
 intro t ht;obtain⟨l,hl,ht⟩:=ez2.1 ht;obtain⟨id,hid,rfl⟩:=ey0.1 ht;exact⟨.inr (bN5 hok l hl id (ey4.1 hid).1),.inl rfl⟩
theorem cJ2{p:Pg}{i x y:Nat}{wy:Wy}(hok:ai4 p i x y wy)(h200:(b9 p).l.length≤200):wy.virtual.length≤202*202:=by
 obtain⟨h1,h2⟩:=bv8 hok;have hn:=hok.n;have hlen:=hok.part.ok.len;have:=Q7 (fun l:List Int=>(l.filter fun id=>decide ((wy.s.it id).s.kind=10)).map fun id=>(⟨id,-1,3⟩:Sp)) 202 wy.traps fun l hl=>by
  rw[ew3];refine ew0 (ey2 _ _) ?_;have:=h2 l hl;omega
 refine ew0 this ?_;exact eD6 _ (by omega)
theorem bb8(a:Addr)(wy:Wy)(p:Pg)(i x y:Nat)(w:World)(ha:At (d7 w) a wy)(hr:E4 p)(hw:C8 p≤1000000)(hi:i<p.procs.length)(hok:ai4 p i x y wy):
  Calls prog 137 #[.pointer (some a)] w fun e w'=>∃u,e = .returned u∧(A9 (d7 w) w' 187 u wy.virtual∧o6 w w'):=by
 refine d9 (args:=[.pointer (some a)]) hm func137 rfl (by kernel_rfl) (by show 1≤_;decide +kernel) ?_;obtain⟨vs,_,_,hvs,_,_,ldw,_⟩:=ha.wy;obtain⟨sh,rfl,has⟩:=Ptr.at_ hvs;have hss:At (d7 w) sh (b9 p):=by rw[←hok.s];exact has
 obtain⟨vL,_,_,hL,_,_,_,lds,_⟩:=hss.sh;have h200:=J3 hr.may;have hlen:=hok.part.ok.len;have hn:=hok.n;have hrg:=bN5 hok;obtain⟨htl,htl2⟩:=bv8 hok;have hF:wy.virtual=wy.traps.flatMap fun l=>(l.filter fun id=>decide (((b9 p).it id).s.kind=10)).map fun id=>(⟨id,-1,3⟩:Sp):=by unfold Wy.virtual;rw[hok.s]
 simp only[m8,n9,simprocAttr];refine y5 eh0 (cg8 a wy p i x y w ha hr hw hi hok) ?_;rintro ut w2 ⟨hut,hx2⟩;generalize wy.traps=tr at hut hF hrg htl htl2;have hSt:=hut.isS;have hnt:=hut.vlen;generalize hB:(fun l:List Int=>(l.filter fun id=>decide (((b9 p).it id).s.kind=10)).map fun id=>(⟨id,-1,3⟩:Sp))=B at hF;have hBl:∀l∈tr,(B l).length≤202:=fun l hl=>by
  rw[←hB,ew3];refine ew0 (ey2 _ _) ?_;have:=htl2 l hl;omega
 have hbt:∀k,((tr.take k).flatMap B).length≤202*202:=fun k=>by
  refine ew0 (Q7 B 202 _ fun l hl=>hBl l (eD8 hl)) (eD6 _ ?_);rw[ew6];omega
 simp only[m8,n9,simprocAttr,hSt,hnt];refine n8 [0,9,10] (σ:=Nat×Value) (fun s f w'=>f 11 = .int .i64 s.1∧f 3=s.2∧s.1≤tr.length∧A9 (d7 w2) w' 187 s.2 ((tr.take s.1).flatMap B)∧o6 w2 w') (fun s=>tr.length-s.1) (0,.slice none 0 0) (by decide +kernel) ?_ ?_
 ·simp only[p6,simprocAttr];exact⟨by trivial,by trivial,ew4 _,by simpa using A9.nil _ _ _,o9.refl _⟩
 rintro⟨j,u⟩ f w5 hk ⟨h11,h3,hjl,ho,hx5⟩;simp only at h11 h3 hjl ho;simp only[ev4,p6,simprocAttr]at hk;obtain⟨e0,e9,e10,_⟩:=hk;have hpre:=hbt j;simp only[m8,n9,simprocAttr,h11,e10];refine i5 (fun hc=>?_) (fun hc=>?_);rotate_left
 ·have hge:j=tr.length:=by simp at hc;omega
  subst hge;rw[ew5]at ho;simp only[m8,simprocAttr,h3];refine n7 results137 ?_;simp only[p6,simprocAttr];exact⟨by rw[hF];exact ho.backN hx2,hx2.trans hx5⟩
 have hlt:j<tr.length:=by simpa using hc
 have hin:=hut.inS hlt;obtain⟨ul,hul,hcl⟩:=R.row hut (ev2 hlt);have hld:=G4 (P:=prog) (t:=118) hcl (b7 hx5) O6;have htk:=J0 B tr hlt;have hrgl:=hrg _ (ew2 hlt);have hll:=htl2 _ (ew2 hlt);generalize tr[j]=l at hul htk hrgl hll;have hBl2:B l=(l.filter fun id=>decide (((b9 p).it id).s.kind=10)).map fun id=>(⟨id,-1,3⟩:Sp):=by rw[←hB]
 generalize(tr.take j).flatMap B=pre at ho hpre htk;have hSl:=hul.isS;have hnl:=hul.vlen;simp only[m8,n9,p9,simprocAttr,h11,e9,hin,hld,hSl,hnl];refine n8 [0,9,10,11,15,16] (σ:=Nat×Value) (fun s f w'=>f 17 = .int .i64 s.1∧f 3=s.2∧s.1≤l.length∧A9 (d7 w2) w' 187 s.2 (pre++((l.take s.1).filter fun id=>decide (((b9 p).it id).s.kind=10)).map fun id=>(⟨id,-1,3⟩:Sp))∧o6 w2 w') (fun s=>l.length-s.1) (0,u) (by decide +kernel) ?_ ?_
 ·simp only[p6,simprocAttr];exact⟨by trivial,h3,ew4 _,by simpa using ho,hx5⟩
 rintro⟨k,u6⟩ f6 w6 hk ⟨h17,h36,hkl,ho6,hx6⟩;simp only at h17 h36 hkl ho6;simp only[ev4,p6,simprocAttr]at hk;obtain⟨q0,q9,q10,q11,q15,q16,_⟩:=hk;rw[e0]at q0;have hx06:=hx2.trans hx6;have hcnt:((l.take k).filter fun id=>decide (((b9 p).it id).s.kind=10)).length≤k:=ew0 (ey2 _ _) (by rw[ew6];omega);simp only[m8,n9,simprocAttr,h17,q16];refine i5 (fun hc=>?_) (fun hc=>?_);rotate_left
 ·have hge:k=l.length:=by simp at hc;omega
  subst hge;rw[ew5,←hBl2]at ho6;simp only[m8,n9,simprocAttr,q11,h11];refine⟨(j+1,u6),by simp only[];omega,by simp only[];rw[B1 j (by omega)],h36,by simp only[];omega,?_,hx6⟩;simp only[];rw[htk];exact ho6
 have hlt6:k<l.length:=by simpa using hc
 clear hin hld;have hin:=hul.inS hlt6;have hld:=aH4 hul (b7 hx6) hlt6;have hid:=hrgl _ (ew2 hlt6);have htk6:((l.take (k+1)).filter fun id=>decide (((b9 p).it id).s.kind=10)).map (fun id=>(⟨id,-1,3⟩:Sp))=((l.take k).filter fun id=>decide (((b9 p).it id).s.kind=10)).map (fun id=>(⟨id,-1,3⟩:Sp))++if decide (((b9 p).it l[k]).s.kind=10)then[⟨l[k],-1,3⟩]else[]:=by
  rw[ew1 hlt6,eC6,ey5]
  congr 1
  cases h:decide (((b9 p).it l[k]).s.kind=10)<;>simp[h]
 generalize l[k]=id at hld hid htk6;obtain⟨_,_,hget⟩:=hok.part.at_ id hid.1 hid.2;have lw6:=ldw w6 (b7 hx06);have ls6:=lds w6 (b7 hx06);obtain⟨hats,_,_⟩:=(hL.at_ hget).it;obtain⟨_,_,_,_,_,_,_,_,_,ldt,_⟩:=hats.st;have lt6:=ldt w6 (b7 hx06);have hz:z7.sz It=17:=rfl;rw[hz]at lt6;have hltL:=(ev8.1 hget).1;have hinL:=hL.inS hltL;have hwid:IntKind.i64.wrap (id-1)=(((id-1).toNat:Nat):Int):=by rw[K1 _ (by omega)];omega
 generalize(id-1).toNat=qq at lt6 hinL hwid;generalize((b9 p).it id).s.kind=kk at lt6 htk6;rcases ev3 (decide (kk=10))with hq|hq
 ·obtain⟨p1,u7,w7,p2,p3,p4,p5⟩:=push (e:=146) bl3 rfl ho6 (x:=.agg (z6.cells (⟨id,-1,3⟩:Sp)).toArray) (y:=⟨id,-1,3⟩) (bF6 _) (by simp only[ev5,ew3];omega) (by simp only[ev5,ew3];omega) (b7 hx6);simp only[m8,n9,p9,simprocAttr,h17,h36,q0,q15,hin,hld,lw6,ls6,hwid,hinL,lt6,hq,ag1,p1,p2];refine⟨(k+1,u7),by simp only[];omega,by simp only[];rw[B1 k (by omega)],by trivial,by simp only[];omega,?_,ho6.ext2 hx6 p4⟩;simp only[];rw[htk6,hq,if_pos rfl,←ex9];exact p3
 ·simp only[m8,n9,p9,simprocAttr,h17,h36,q0,q15,hin,hld,lw6,ls6,hwid,hinL,lt6,hq];refine⟨(k+1,u6),by simp only[];omega,by simp only[];rw[B1 k (by omega)],by trivial,by simp only[];omega,?_,hx6⟩;simp only[];rw[htk6,hq,if_neg (by simp),ey6];exact ho6
theorem dc3:af6 prog 137=true:=by kernel_rfl
theorem cd6{x y:Nat}(hy:y≤1000000){t:Sp}(h:RgS x y t):plc t.src∧plc t.dst:=
 ⟨by rcases h.1 with h|h<;>unfold plc<;>omega,bV1 hy h.2⟩
theorem dE0{p:Pg}{i x y:Nat}(pt:al5 p i x y):y≤1000000:=ew0 pt.ok.len pt.ok.fit
theorem cJ3{p:Pg}{i x y:Nat}{wy:Wy}(hr:E4 p)(hw:C8 p≤1000000)(hi:i<p.procs.length)(hok:ai4 p i x y wy):∀t∈wy.virtual++wy.real,RgS x y t:=by
 intro t ht;rcases ew7.1 ht with ht|ht
 ·exact cV6 hok t ht
 ·rw[hok.real]at ht;exact bl9 hr hw hi hok.part t ht
theorem bD3{p:Pg}{i x y:Nat}{wy:Wy}(hr:E4 p)(hw:C8 p≤1000000)(hi:i<p.procs.length)(hok:ai4 p i x y wy):wy.virtual.length+wy.real.length≤1000000:=by
 have h1:=cJ2 hok (J3 hr.may);have h2:=aV5 hw hi;rw[hok.real];omega
theorem by8{p:Pg}{i x y:Nat}{wy:Wy}(hr:E4 p)(hw:C8 p≤1000000)(hi:i<p.procs.length)(hok:ai4 p i x y wy):∀t∈wy.data,RgS x y t:=fun t ht=>cJ3 hr hw hi hok t (aL7 ht)
theorem aN0{p:Pg}{i x y:Nat}{wy:Wy}(hr:E4 p)(hw:C8 p≤1000000)(hi:i<p.procs.length)(hok:ai4 p i x y wy):wy.data.length≤1000000:=by
 have h:=bD3 hr hw hi hok;refine ew0 (aL6 _) ?_;rw[ev5];exact h
theorem bD6(a:Addr)(wy:Wy)(p:Pg)(i x y:Nat)(w:World)(ha:At (d7 w) a wy)(hr:E4 p)(hw:C8 p≤1000000)(hi:i<p.procs.length)(hok:ai4 p i x y wy):
  Calls prog 87 #[.pointer (some a)] w fun e w'=>∃u,e = .returned u∧(A9 (d7 w) w' 187 u wy.data∧o6 w w'):=by
 refine d9 (args:=[.pointer (some a)]) hm func87 rfl (by kernel_rfl) (by show 1≤_;decide +kernel) ?_;obtain⟨_,vr,_,_,hvr,_,ldw,sdw⟩:=ha.wy;obtain⟨_,_,_,sr,_⟩:=sdw (fun w'=>o6 w.drew w') w.drew (o9.refl _) fun w' h=>b7 ((o6.drew w).trans h);have hlen:=bD3 hr hw hi hok;have hrg:=cJ3 hr hw hi hok;have hy:=dE0 hok.part;simp only[m8,n9,simprocAttr];refine C2 (fun w'=>o6 w.drew w') 6 (A8 [0,2,3,4,5,1]) (by decide +kernel) (o9.refl _) ?_;simp only[D5,A8,m8,n9,simprocAttr,sr];refine y5 dc3 (bb8 a wy p i x y w.drew (ha.mono (b7 (o6.drew w))) hr hw hi hok) ?_;rintro u w2 ⟨ho,hx2⟩;refine⟨hx2,?_⟩;obtain⟨u3,w3,p1,p2,p3,p4⟩:=an1 (P:=prog) (t:=146) (e:=146) bl3 rfl ho (z7.mono (b7 (o6.drew w)) hvr) (by omega) (by omega) (b7 hx2);simp only[D5,m8,simprocAttr,p1];refine y5 cw4 (au9 p2 (by simp only[ev5];omega) (b7 (ho.ext2 hx2 p3)) fun t ht=>cd6 hy (hrg t ht)) ?_;rintro u4 w4 ⟨ho4,hm4,_⟩;simp only[m8,simprocAttr];refine n7 results87 ?_;simp only[p6,simprocAttr];exact⟨ho4.backN (o6.drew w),(o6.drew w).trans (p2.ext2 (ho.ext2 hx2 p3) hm4)⟩
theorem cq5{p:Pg}{i x y:Nat}{wy:Wy}(hr:E4 p)(hw:C8 p≤1000000)(hi:i<p.procs.length)(hok:ai4 p i x y wy):∀t∈wy.virtual++wy.real++[⟨0,-1,2⟩]++((b9 p).of i).flatMap T5,RgS x y t:=by
 intro t ht;rcases ew7.1 ht with ht|ht
 ·rcases ew7.1 ht with ht|ht
  ·exact cJ3 hr hw hi hok t ht
  ·obtain rfl:=ey1.1 ht;exact⟨.inl rfl,.inl rfl⟩
 ·obtain⟨it,hit,ht⟩:=ez2.1 ht;unfold T5 at ht;split at ht
  ·obtain rfl:=ey1.1 ht;exact⟨.inr (hok.part.ids it hit),hok.part.next it hit⟩
  ·simp at ht
theorem bi1(it:It):(T5 it).length≤1:=by
 unfold T5;split<;>simp
theorem bY7(a:Addr)(wy:Wy)(p:Pg)(i x y:Nat)(w:World)(ha:At (d7 w) a wy)(hr:E4 p)(hw:C8 p≤1000000)(hi:i<p.procs.length)(hok:ai4 p i x y wy):
  Calls prog 100 #[.pointer (some a)] w fun e w'=>∃u,e = .returned u∧(A9 (d7 w) w' 187 u wy.aug∧o6 w w'):=by
 refine d9 (args:=[.pointer (some a)]) hm func100 rfl (by kernel_rfl) (by show 1≤_;decide +kernel) ?_;obtain⟨vs,vr,_,hvs,hvr,_,_,sdw⟩:=ha.wy;obtain⟨sh,rfl,has⟩:=Ptr.at_ hvs;have hss:At (d7 w) sh (b9 p):=by rw[←hok.s];exact has
 obtain⟨_,_,_,sr,_⟩:=sdw (fun w'=>o6 w.drew w') w.drew (o9.refl _) fun w' h=>b7 ((o6.drew w).trans h);have hlen:=bD3 hr hw hi hok;have hrg:=cq5 hr hw hi hok;have hy:=dE0 hok.part;have hF:wy.aug=an9 (wy.virtual++wy.real++[⟨0,-1,2⟩]++((b9 p).of i).flatMap T5):=by unfold Wy.aug;rw[hok.s,hok.proc]
 simp only[m8,n9,simprocAttr];refine C2 (fun w'=>o6 w.drew w') 6 (A8 [0,2,3,4,5,1]) (by decide +kernel) (o9.refl _) ?_;simp only[D5,A8,m8,n9,simprocAttr,sr];refine y5 dc3 (bb8 a wy p i x y w.drew (ha.mono (b7 (o6.drew w))) hr hw hi hok) ?_;rintro u w2 ⟨ho,hx2⟩;refine⟨hx2,?_⟩;obtain⟨u3,w3,p1,p2,p3,p4⟩:=an1 (P:=prog) (t:=146) (e:=146) bl3 rfl ho (z7.mono (b7 (o6.drew w)) hvr) (by omega) (by omega) (b7 hx2);have hx3:=ho.ext2 hx2 p3;obtain⟨q1,u4,w4,q2,q3,q4,q5⟩:=push (e:=146) bl3 rfl p2 (x:=.agg (z6.cells (⟨0,-1,2⟩:Sp)).toArray) (y:=⟨0,-1,2⟩) (bF6 _) (by simp only[ev5];omega) (by simp only[ev5];omega) (b7 hx3);have hx4:=(o6.drew w).trans (p2.ext2 hx3 q4);have ho4:=q3.backN (o6.drew w);have hbase:(wy.virtual++wy.real++[(⟨0,-1,2⟩:Sp)]).length≤1000001:=by simp only[ev5,ey3];omega
 generalize wy.virtual++wy.real++[(⟨0,-1,2⟩:Sp)]=base at ho4 hF hrg hbase;obtain⟨z1,z2,_,_,_⟩:=sdw (fun w'=>o6 w4.drew w') w4.drew (o9.refl _) fun w' h=>b7 (hx4.trans ((o6.drew w4).trans h));simp only[D5,m8,simprocAttr,p1,ag1,q1,q2];refine C2 (fun w'=>o6 w4.drew w') 11 (A8 [0,1,2,3,4,5,6,7,10,8,9]) (by decide +kernel) (o9.refl _) ?_;simp only[D5,A8,m8,n9,simprocAttr,z1,z2];have hx4d:=hx4.trans (o6.drew w4);rw[hok.proc];refine y5 aY8 (aD3 (d7 w) sh (b9 p) i x y w4.drew hss (b7 hx4d) hok.part.ok) ?_;rintro ui w5 ⟨hui,hx5⟩;refine⟨hx5,?_⟩;have hS2:=hui.isS;have hn2:=hui.vlen;have hil:=(aZ3 p hw i hi).2;generalize hl:(b9 p).of i=l at hui hF hrg hn2 hil;have hx05:=hx4d.trans hx5;have ho5:=ho4.ext ((o6.drew w4).trans hx5);have hbt:∀k,((l.take k).flatMap T5).length≤400000:=fun k=>by
  refine ew0 (Q7 T5 1 _ fun x _=>bi1 x) ?_;rw[ew6];omega
 simp only[D5,m8,n9,simprocAttr,hS2,hn2];refine n8 [0,25,26] (σ:=Nat×Value) (fun s f w'=>f 27 = .int .i64 s.1∧f 3=s.2∧s.1≤l.length∧A9 (d7 w) w' 187 s.2 (base++(l.take s.1).flatMap T5)∧o6 w w') (fun s=>l.length-s.1) (0,u4) (by decide +kernel) ?_ ?_
 ·simp only[p6,simprocAttr];exact⟨by trivial,by trivial,ew4 _,by simpa using ho5,hx05⟩
 rintro⟨j,u⟩ f w6 hk ⟨h27,h3,hjl,ho,hx6⟩;simp only at h27 h3 hjl ho;simp only[ev4,p6,simprocAttr]at hk;obtain⟨e0,e25,e26,_⟩:=hk;have hpre:=hbt j;simp only[m8,n9,simprocAttr,h27,e26];refine i5 (fun hc=>?_) (fun hc=>?_);rotate_left
 ·have hge:j=l.length:=by simp at hc;omega
  subst hge;rw[ew5]at ho hpre;simp only[m8,simprocAttr,h3];refine y5 cw4 (au9 ho (by simp only[ev5];omega) (b7 hx6) fun t ht=>cd6 hy (hrg t ht)) ?_;rintro u6 w7 ⟨ho6,hm6,_⟩;simp only[m8,simprocAttr];refine n7 results100 ?_;simp only[p6,simprocAttr];exact⟨by rw[hF];exact ho6,ho.ext2 hx6 hm6⟩
 have hlt:j<l.length:=by simpa using hc
 have hin:=hui.inS hlt;obtain⟨sv,hsv,hld⟩:=G1 (P:=prog) (t:=127) hui (b7 hx6) (ev2 hlt) X9 Y1 Y0 I9;rw[I9]at hld;have htk:=J0 T5 l hlt;generalize l[j]=it at hsv htk;obtain⟨c,wz,w7,hal,hst,hx7,hati⟩:=aG8 (w:=w6) (A3 u) hsv (fun b hb=>ho.lt hb);obtain⟨us,hus,hats,ldI,_⟩:=L8.it hsv hati;obtain⟨_,_,_,_,_,_,_,_,_,_,_,ldt,_⟩:=L8.st hus hats;have hx67:=hx6.trans hx7;have k1:=ldt w7 (C0 _ _);have k2:=ldI w7 (C0 _ _);have hjt:(it.s.kind=7∨it.s.kind=8∨it.s.kind=9∨it.s.kind=10)→T5 it=[⟨it.s.id,it.next,2⟩]:=fun h=>by unfold T5;rw[if_pos h]
 have hpl:(base++(l.take j).flatMap T5).length≤2000000:=by rw[ev5];omega
 obtain⟨p1,u7,w8,p2,p3,p4,p5⟩:=push (e:=146) bl3 rfl (ho.ext hx7) (x:=.agg (z6.cells (⟨it.s.id,it.next,2⟩:Sp)).toArray) (y:=⟨it.s.id,it.next,2⟩) (bF6 _) (by omega) (by omega) (b7 hx67);rcases ev3 (decide (it.s.kind=7))with k7|k7
 ·simp only[m8,n9,p9,simprocAttr,h27,h3,e25,hin,hld,hal,hst,k1,k2,k7,ag1,p1,p2];refine⟨(j+1,u7),by simp only[];omega,by simp only[];rw[B1 j (by omega)],by trivial,by simp only[];omega,?_,(ho.ext hx7).ext2 hx67 p4⟩;simp only[];rw[htk,hjt (by have:=ev6 k7;omega),←ex9];exact p3
 rcases ev3 (decide (it.s.kind=8))with k8|k8
 ·simp only[m8,n9,p9,simprocAttr,h27,h3,e25,hin,hld,hal,hst,k1,k2,k7,k8,ag1,p1,p2];refine⟨(j+1,u7),by simp only[];omega,by simp only[];rw[B1 j (by omega)],by trivial,by simp only[];omega,?_,(ho.ext hx7).ext2 hx67 p4⟩;simp only[];rw[htk,hjt (by have:=ev6 k8;omega),←ex9];exact p3
 rcases ev3 (decide (it.s.kind=9))with k9|k9
 ·simp only[m8,n9,p9,simprocAttr,h27,h3,e25,hin,hld,hal,hst,k1,k2,k7,k8,k9,ag1,p1,p2];refine⟨(j+1,u7),by simp only[];omega,by simp only[];rw[B1 j (by omega)],by trivial,by simp only[];omega,?_,(ho.ext hx7).ext2 hx67 p4⟩;simp only[];rw[htk,hjt (by have:=ev6 k9;omega),←ex9];exact p3
 rcases ev3 (decide (it.s.kind=10))with k10|k10
 ·simp only[m8,n9,p9,simprocAttr,h27,h3,e25,hin,hld,hal,hst,k1,k2,k7,k8,k9,k10,ag1,p1,p2];refine⟨(j+1,u7),by simp only[];omega,by simp only[];rw[B1 j (by omega)],by trivial,by simp only[];omega,?_,(ho.ext hx7).ext2 hx67 p4⟩;simp only[];rw[htk,hjt (by have:=ev6 k10;omega),←ex9];exact p3
 simp only[m8,n9,p9,simprocAttr,h27,h3,e25,hin,hld,hal,hst,k1,k7,k8,k9,k10];refine⟨(j+1,u),by simp only[];omega,by simp only[];rw[B1 j (by omega)],by trivial,by simp only[];omega,?_,hx67⟩;simp only[];have hj0:T5 it=[]:=by
  unfold T5;rw[if_neg];have:=ev7 k7;have:=ev7 k8;have:=ev7 k9;have:=ev7 k10;omega
 rw[htk,hj0,ey6];exact ho.ext hx7
def bo1(n:Int)(e:Int×Int):Bool:=decide (e.1<0)||decide (e.1≥n)||decide (e.2<0)||decide (e.2≥n)
theorem bP9{n:Nat}{e:Int×Int}:bo1 n e=false↔aW3 n e:=by
 simp[bo1,aW3];omega
theorem aV1{P:Program}{t:TypeId}(ht:B6 P t=false)(hu:(P.underlying t).isSome=true){cs:Array Value}{i:Nat}{v:Value}(h:cs[i]?=some v)(w:World):(part t cs i).run P w = .ok v w:=by
 unfold part;simp only[ex6,W1 t hu,ew9,ht,eB6,eD2,h,ey9]
theorem ch2(m x y:Int):(decide (x<0)=true∧bo1 m (x,y)=true)∨(decide (x<0)=false∧decide (x≥m)=true∧bo1 m (x,y)=true) ∨
  (decide (x<0)=false∧decide (x≥m)=false∧decide (y<0)=true∧bo1 m (x,y)=true)∨(decide (x<0)=false∧decide (x≥m)=false∧decide (y<0)=false∧decide (y≥m)=true∧bo1 m (x,y)=true) ∨
  (decide (x<0)=false∧decide (x≥m)=false∧decide (y<0)=false∧decide (y≥m)=false∧bo1 m (x,y)=false):=by
 unfold bo1;cases decide (x<0)<;>cases decide (x≥m)<;>cases decide (y<0)<;>cases decide (y≥m)<;>simp
theorem I1:type_of% (And.intro (And.intro (And.intro (And.intro (And.intro (And.intro @bd8 @dZ6) (And.intro @dY9 @dB4)) (And.intro (And.intro @dZ2 @ed0) (And.intro @dZ0 (And.intro @dZ1 @ed1)))) (And.intro (And.intro (And.intro @ec7 @dJ4) (And.intro @ec8 (And.intro @ec9 @dC6))) (And.intro (And.intro @dA1 @dC7) (And.intro @dC8 (And.intro @eb5 @eb4))))) (And.intro (And.intro (And.intro (And.intro @ed4 @eq1) (And.intro @et5 (And.intro @dB2 @ec3))) (And.intro (And.intro @dB3 @ec4) (And.intro @el3 (And.intro @et4 @cP3)))) (And.intro (And.intro (And.intro @dH4 @cP4) (And.intro @dH5 (And.intro @dH6 @df2))) (And.intro (And.intro @cY2 @cY1) (And.intro @dH3 (And.intro @el5 @el4)))))) (And.intro (And.intro (And.intro (And.intro (And.intro @df1 @el7) (And.intro @el6 (And.intro @ec2 @cK2))) (And.intro (And.intro @dG4 @ek8) (And.intro @cP1 (And.intro @dB1 @de8)))) (And.intro (And.intro (And.intro @ek3 @ek9) (And.intro @dB0 (And.intro @ec1 @dG6))) (And.intro (And.intro @ec0 @ev.eq_1) (And.intro @ev.eq_2 (And.intro @ev.eq_3 @ev.eq_4))))) (And.intro (And.intro (And.intro (And.intro @A5.eq_1 @A5.eq_2) (And.intro @ep8 (And.intro @el0 @ec5))) (And.intro (And.intro @ec6 @List.map_cons.{0,0}) (And.intro @List.map_nil.{0,0} (And.intro @List.map_toArray.{0,0} @bP8.eq_1)))) (And.intro (And.intro (And.intro @bP8.eq_2 @dA7) (And.intro @cv4.eq_1 (And.intro @List.getElem?_toArray.{0} @List.getElem?_cons_zero.{0}))) (And.intro (And.intro @List.getElem?_cons_succ.{0} @Option.bind_some.{0,0}) (And.intro @Option.some.injEq.{0} (And.intro @eB6 @Bool.true_eq_false))))))):=(And.intro (And.intro (And.intro (And.intro (And.intro (And.intro @bd8 @dZ6) (And.intro @dY9 @dB4)) (And.intro (And.intro @dZ2 @ed0) (And.intro @dZ0 (And.intro @dZ1 @ed1)))) (And.intro (And.intro (And.intro @ec7 @dJ4) (And.intro @ec8 (And.intro @ec9 @dC6))) (And.intro (And.intro @dA1 @dC7) (And.intro @dC8 (And.intro @eb5 @eb4))))) (And.intro (And.intro (And.intro (And.intro @ed4 @eq1) (And.intro @et5 (And.intro @dB2 @ec3))) (And.intro (And.intro @dB3 @ec4) (And.intro @el3 (And.intro @et4 @cP3)))) (And.intro (And.intro (And.intro @dH4 @cP4) (And.intro @dH5 (And.intro @dH6 @df2))) (And.intro (And.intro @cY2 @cY1) (And.intro @dH3 (And.intro @el5 @el4)))))) (And.intro (And.intro (And.intro (And.intro (And.intro @df1 @el7) (And.intro @el6 (And.intro @ec2 @cK2))) (And.intro (And.intro @dG4 @ek8) (And.intro @cP1 (And.intro @dB1 @de8)))) (And.intro (And.intro (And.intro @ek3 @ek9) (And.intro @dB0 (And.intro @ec1 @dG6))) (And.intro (And.intro @ec0 @ev.eq_1) (And.intro @ev.eq_2 (And.intro @ev.eq_3 @ev.eq_4))))) (And.intro (And.intro (And.intro (And.intro @A5.eq_1 @A5.eq_2) (And.intro @ep8 (And.intro @el0 @ec5))) (And.intro (And.intro @ec6 @List.map_cons.{0,0}) (And.intro @List.map_nil.{0,0} (And.intro @List.map_toArray.{0,0} @bP8.eq_1)))) (And.intro (And.intro (And.intro @bP8.eq_2 @dA7) (And.intro @cv4.eq_1 (And.intro @List.getElem?_toArray.{0} @List.getElem?_cons_zero.{0}))) (And.intro (And.intro @List.getElem?_cons_succ.{0} @Option.bind_some.{0,0}) (And.intro @Option.some.injEq.{0} (And.intro @eB6 @Bool.true_eq_false)))))))
theorem zVB:type_of% (And.intro (And.intro (And.intro (And.intro @Option.map_some.{0,0} (And.intro @Option.map_none.{0,0} @Int.toNat_zero)) (And.intro (And.intro @Option.isNone_none.{0} @Option.isNone_some.{0}) (And.intro @J8 @bz6.eq_1))) (And.intro (And.intro @bz6.eq_2 (And.intro @cL9.eq_1 @aX2.eq_1)) (And.intro (And.intro @aX2.eq_2 @cz2.eq_1) (And.intro @cz1.eq_1 @TY)))) (And.intro (And.intro (And.intro @Option.isSome_some.{0} (And.intro @eE6 @Bool.and_true)) (And.intro (And.intro @eE8 @ex8) (And.intro @ek0 @Int.cast_ofNat_Int))) (And.intro (And.intro @decide_true (And.intro @add_lit @ey7)) (And.intro (And.intro @Nat.zero_mul @Nat.one_mul) (And.intro @Bool.not_true @Bool.not_false))))):=(And.intro (And.intro (And.intro (And.intro @Option.map_some.{0,0} (And.intro @Option.map_none.{0,0} @Int.toNat_zero)) (And.intro (And.intro @Option.isNone_none.{0} @Option.isNone_some.{0}) (And.intro @J8 @bz6.eq_1))) (And.intro (And.intro @bz6.eq_2 (And.intro @cL9.eq_1 @aX2.eq_1)) (And.intro (And.intro @aX2.eq_2 @cz2.eq_1) (And.intro @cz1.eq_1 @TY)))) (And.intro (And.intro (And.intro @Option.isSome_some.{0} (And.intro @eE6 @Bool.and_true)) (And.intro (And.intro @eE8 @ex8) (And.intro @ek0 @Int.cast_ofNat_Int))) (And.intro (And.intro @decide_true (And.intro @add_lit @ey7)) (And.intro (And.intro @Nat.zero_mul @Nat.one_mul) (And.intro @Bool.not_true @Bool.not_false)))))
theorem aW5{ws:List W}{i:Nat}(h:i<ws.length):ws[i]?=some (ws.getD i 0#64):=by simp[List.getD,h]
theorem df6:F2 prog 276 223 1 8=true:=by kernel_rfl
theorem cP7(h:Hp)(v:Value)(ws:List W)(f:Nat)(w:World)(ho:A9 h w 223 v ws)(hf:f / 64<ws.length)(hf2:f<1000000000000):
  Calls prog 243 #[v,.int .i64 f] w fun e w'=>∃u,e = .returned u∧(u = .bool (!N7 ws f)∧A9 h w' 223 v (cn0 ws f)∧o9 (A3 v) w w'):=by
 refine d9 (args:=[v,.int .i64 f]) hm func243 rfl (by kernel_rfl) (by show 2≤_;decide +kernel) ?_;have hin:=ho.inS hf;have hg:=aW5 hf;have hld:=D4 (P:=prog) (t:=223) ho hg af1;simp only[G7.val]at hld;have q1:=by3 (P:=prog) (t:=3) f hf2;have q2:=cs3 (P:=prog) (t:=3) f;have hm:f % 64<64:=Nat.mod_lt _ (by decide);have hput:N7 ws f=(ws.getD (f / 64) 0#64).getLsbD (f % 64):=rfl;have hpb:cn0 ws f=ws.set (f / 64) (ws.getD (f / 64) 0#64 ||| (1#64 <<< (f % 64))):=rfl;rw[hput,hpb];generalize f / 64=i at *;generalize f % 64=k at *;generalize ws.getD i 0#64=x at *;have q3:=cs4 (P:=prog) (t:=223) x k hm;have q4:=cr8 (P:=prog) (t:=223) x k;have q5:=db0 (P:=prog) (t:=223) (x.getLsbD k);have q6:=db3 (P:=prog) (t:=223) k hm;have q7:=cs1 (P:=prog) (t:=223) x (1#64 <<< k);have hxd:=o6.drew w;obtain⟨w2,s1,s2,s3,s4⟩:=D9 (P:=prog) (t:=223) (ho.ext hxd) rfl (k:=i) hf (x:=.int .u64 (((x ||| 1#64 <<< k).toNat:Nat):Int)) (y:=(x ||| 1#64 <<< k)) rfl rfl (t8 ax6).choose_spec.1 (by rw[←C7 (t8 ax6).choose_spec.1];exact bD1);simp only[I1,zVB,p9,simprocAttr,q1,q2,q3,q4,q5,hin,hld];refine C2 (fun w3=>w3=w.drew) 8 (A8 [0,1,2,3,4,5,6,7]) (by decide +kernel) rfl ?_;simp only[D5,A8,I1,zVB,p9,simprocAttr,q1,hin];refine⟨.int .u64 (x.toNat:Nat),fun w3 e=>by subst e;exact D4 (ho.ext hxd) hg af1,?_⟩;simp only[D5,I1,zVB,p9,simprocAttr,q2,q6,q7,hin,s1];refine n7 results243 ?_;simp only[p6,simprocAttr];exact⟨by trivial,s2,(hxd.weaken fun _ _ h=>h.elim).trans s3⟩
def Y5(ws:List W)(k:Nat):List Int:=((List.range k).filter (N7 ws)).map fun(i:Nat)=>(i:Int)
theorem bT8(ws:List W)(k:Nat):Y5 ws (k+1)=if N7 ws k then Y5 ws k++[(k:Int)]else Y5 ws k:=by
 unfold Y5;rw[eG0,eC6,ey5];cases h:N7 ws k<;>simp[h]
theorem cl6(ws:List W)(k:Nat):(Y5 ws k).length≤k:=by
 unfold Y5;rw[ew3];exact ew0 (ey2 _ _) (by simp)
theorem cy9(v:Value)(ws:List W)(most:Nat)(w:World)(hv:R (d7 w) v ws)(hm1:most≤1000000)(hl:∀f,f<most→f / 64<ws.length):
  Calls prog 247 #[v,.int .i64 most] w fun e w'=>∃u,e = .returned u∧(A9 (d7 w) w' 3 u (Y5 ws most)∧o6 w w'):=by
 refine d9 (args:=[v,.int .i64 most]) hm func247 rfl (by kernel_rfl) (by show 2≤_;decide +kernel) ?_;simp only[J4,O4,simprocAttr];refine n8 [0,1] (σ:=Nat) (fun k f w'=>f 6 = .int .i64 k∧k≤most∧A9 (d7 w) w' 3 (f 5) (Y5 ws k)∧o6 w w') (fun k=>most-k) 0 (by decide +kernel) ?_ ?_
 ·simp only[p6,simprocAttr];exact⟨by trivial,ew4 _,A9.nil _ _ _,o9.refl _⟩
 ·rintro k f w' hk ⟨h6,hkl,ho,hx⟩;simp only[ev4,p6,simprocAttr]at hk;obtain⟨e0,e1,_⟩:=hk;simp only[J4,B7,E7,simprocAttr,h6,e1];refine i5 (fun hc=>?_) (fun hc=>?_)
  ·have hlt:k<most:=by simpa using hc
   have hkw:=hl k hlt;have hin:=hv.inS hkw;have hg:=aW5 hkw;have hld:=M8 (P:=prog) (t:=223) hv (b7 hx) hg af1;simp only[G7.val]at hld;have q1:=by3 (P:=prog) (t:=3) k (by omega);have q2:=cs3 (P:=prog) (t:=3) k;have hmm:k % 64<64:=Nat.mod_lt _ (by decide);have hhas:N7 ws k=(ws.getD (k / 64) 0#64).getLsbD (k % 64):=rfl;have hls:=bT8 ws k;rw[hhas]at hls;generalize k / 64=i at *;generalize k % 64=b at *;generalize ws.getD i 0#64=x at *;have q3:=cs4 (P:=prog) (t:=223) x b hmm;have q4:=cr8 (P:=prog) (t:=223) x b;have q5:=db1 (P:=prog) (t:=223) (x.getLsbD b);have q6:B7 prog .add 3 (.int .i64 k) (.int .i64 1)=some (.int .i64 ((k+1:Nat):Int)):=by
    simp only[B7,E7,eB2];rw[B1 k (by omega)]
   generalize x.getLsbD b=t at *;simp only[I1,zVB,p9,simprocAttr,q1,q2,q3,q4,q5,hin,hld,e0,h6];cases t
   ·simp only[I1,simprocAttr,h6,q6];refine⟨k+1,by omega,by trivial,by omega,?_,hx⟩;rw[hls,if_neg (by simp)];exact ho
   ·have hlen:=cl6 ws k;obtain⟨p1,u',w2,p2,p3,p4,p5⟩:=push (e:=118) ad0 rfl ho (x:=.int .i64 k) (y:=(k:Int)) rfl (by omega) (by omega) (b7 hx);simp only[Value.cells]at p1 p2;simp only[I1,simprocAttr,h6,q6,p1,p2];refine⟨k+1,by omega,by trivial,by omega,?_,ho.ext2 hx p4⟩;rw[hls,if_pos rfl];exact p3
  ·have hge:k=most:=by simp at hc;omega
   subst hge;simp only[J4,simprocAttr];refine n7 results247 ?_;simp only[p6,simprocAttr];exact⟨ho,hx⟩
def ay1(b c:List W)(k:Nat):List W:=(orB b c).take k++b.drop k
theorem bS7(b c:List W):ay1 b c 0=b:=by simp[ay1]
theorem ck7{b c:List W}(hl:b.length=c.length):ay1 b c b.length=orB b c:=by
 unfold ay1;rw[eF2,ey6,ez7];rw[bB5 hl];exact ew8 _
theorem ck8{b c:List W}(hl:b.length=c.length)(k:Nat):(ay1 b c k).length=b.length:=by
 simp[ay1,orB,hl];omega
theorem cv5{b c:List W}(hl:b.length=c.length){k:Nat}(hk:k<b.length):(ay1 b c k)[k]?=some (b.getD k 0#64):=by
 unfold ay1;rw[ez6 (by simp[orB,hl];omega)];have:k-((orB b c).take k).length=0:=by simp[orB,hl];omega
 rw[this,eF0];simp[List.getD,hk]
theorem bS6{b c:List W}(hl:b.length=c.length){k:Nat}(hk:k<b.length):(ay1 b c k).set k (b.getD k 0#64 ||| c.getD k 0#64)=ay1 b c (k+1):=by
 have hol:(orB b c).length=b.length:=bB5 hl;apply eH9;intro i;rw[List.getElem?_set];unfold ay1;have hk1:((orB b c).take k).length=k:=by rw[ew6,hol];omega
 have hk2:((orB b c).take (k+1)).length=k+1:=by rw[ew6,hol];omega
 by_cases h1:k=i
 ·subst h1;rw[if_pos rfl,if_pos (by rw[ev5,hk1,eD7];omega),eA0 (by rw[hk2];omega),List.getElem?_take_of_lt (by omega),ev2 (by rw[hol];exact hk)];unfold orB;rw[List.getElem_zipWith];simp[List.getD,hk,show k<c.length by omega]
 ·rw[if_neg h1];by_cases h2:i<k
  ·rw[eA0 (by rw[hk1];exact h2),eA0 (by rw[hk2];omega),List.getElem?_take_of_lt h2,List.getElem?_take_of_lt (by omega)]
  ·rw[ez6 (by rw[hk1];omega),ez6 (by rw[hk2];omega),hk1,hk2,eF0,eF0]
   congr 1;omega
theorem bU1{b c:List W}(hl:b.length=c.length){k:Nat}(hk:k<b.length):ad7 (b.take (k+1)) (c.take (k+1))=(ad7 (b.take k) (c.take k)||((c.getD k 0#64 &&& ~~~(b.getD k 0#64):W) != 0#64)):=by
 unfold ad7;rw[ew1 hk,ew1 (show k<c.length by omega),List.zipWith_append (by simp;omega),List.any_append];simp[List.getD,hk,show k<c.length by omega]
theorem cy1(h:Hp)(v u:Value)(b c:List W)(w:World)(ho:A9 h w 223 v b)(hw:B4 h (d7 w))(hu:R h u c)(hl:b.length=c.length)(hlen:b.length≤1000000):
  Calls prog 246 #[v,u] w fun e w'=>∃r,e = .returned r∧(r = .bool (ad7 b c)∧A9 h w' 223 v (orB b c)∧o9 (A3 v) w w'):=by
 refine d9 (args:=[v,u]) hm func246 rfl (by kernel_rfl) (by show 2≤_;decide +kernel) ?_;have hS:=ho.isS;have hvn:=ho.vlen;simp only[J4,O4,T6,simprocAttr,hS,hvn];refine n8 [0,1,6,7] (σ:=Nat) (fun k f w'=>f 8 = .int .i64 k∧k≤b.length∧f 4 = .bool (ad7 (b.take k) (c.take k))∧A9 h w' 223 v (ay1 b c k)∧o9 (A3 v) w w') (fun k=>b.length-k) 0 (by decide +kernel) ?_ ?_
 ·simp only[p6,simprocAttr];exact⟨by trivial,ew4 _,by simp[ad7],by rw[bS7];exact ho,o9.refl _⟩
 ·rintro k f w' hk ⟨h8,hkl,h4,ho',hx⟩;simp only[ev4,p6,simprocAttr]at hk;obtain⟨e0,e1,e6,e7,_⟩:=hk;simp only[J4,B7,E7,simprocAttr,h8,e7];refine i5 (fun hc=>?_) (fun hc=>?_)
  ·have hlt:k<b.length:=by simpa using hc
   have hhl:=ck8 hl k;have hin:=ho'.inS (k:=k) (by omega);have hinc:=hu.inS (k:=k) (by omega);have hgb:=cv5 hl hlt;have hgc:=aW5 (show k<c.length by omega);have hsucc:=bS6 hl hlt;have hmt:=bU1 hl hlt;generalize b.getD k 0#64=x at *;generalize c.getD k 0#64=y at *;have hw':B4 h (d7 w'):=K6 hw hx fun b hb=>ho.free hb;have hd:=o6.drew w';have hdd:=o6.drew w'.drew;have hwd:B4 h (d7 w'.drew):=p8 hw' (b7 hd);have hwdd:B4 h (d7 w'.drew.drew):=p8 hwd (b7 hdd);have hod:=ho'.ext hd;have hodd:=hod.ext hdd;have q1:=br0 (P:=prog) (t:=223) y x;have q2:=db2 (P:=prog) (t:=223) (y &&& ~~~x);have q3:=cs1 (P:=prog) (t:=223) x y;have q6:B7 prog .add 3 (.int .i64 k) (.int .i64 1)=some (.int .i64 ((k+1:Nat):Int)):=by
    simp only[B7,E7,eB2];rw[B1 k (by omega)]
   generalize hz:(y &&& ~~~x != 0#64)=z at *;obtain⟨w2,s1,s2,s3,s4⟩:=D9 (P:=prog) (t:=223) hodd rfl (k:=k) (by omega) (x:=.int .u64 (((x ||| y).toNat:Nat):Int)) (y:=(x ||| y)) rfl rfl (t8 ax6).choose_spec.1 (by rw[←C7 (t8 ax6).choose_spec.1];exact bD1);rw[hsucc]at s2;have hx2:o9 (A3 v) w w2:=(hx.trans ((hd.trans hdd).weaken fun _ _ h=>h.elim)).trans s3;generalize hm0:ad7 (b.take k) (c.take k)=m0 at *;cases m0
   ·simp only[I1,simprocAttr,h8];refine C2 (fun w3=>w3=w'.drew) 10 (A8 [0,1,2,3,4,5,6,7,8,9]) (by decide +kernel) rfl ?_;simp only[D5,A8,I1,zVB,p9,simprocAttr,h4,e1,hinc];refine⟨.int .u64 (y.toNat:Nat),fun w3 e=>by subst e;exact M8 (P:=prog) (t:=223) hu hwd hgc af1,?_⟩;simp only[D5,I1,zVB,p9,simprocAttr,e0,hin];refine⟨.int .u64 (x.toNat:Nat),fun w3 e=>by subst e;exact D4 hod hgb af1,?_⟩;simp only[D5,I1,simprocAttr,q1,q2];refine C2 (fun w3=>w3=w'.drew.drew) 8 (A8 [0,1,2,3,4,5,6,7]) (by decide +kernel) rfl ?_;simp only[D5,A8,I1,zVB,p9,simprocAttr,e0,hin];refine⟨.int .u64 (x.toNat:Nat),fun w3 e=>by subst e;exact D4 hodd hgb af1,?_⟩;simp only[D5,I1,zVB,p9,simprocAttr,e1,hinc];refine⟨.int .u64 (y.toNat:Nat),fun w3 e=>by subst e;exact M8 (P:=prog) (t:=223) hu hwdd hgc af1,?_⟩;simp only[D5,I1,zVB,p9,simprocAttr,q3,hin,s1,h8,q6];exact⟨k+1,by omega,by trivial,by omega,by rw[hmt];simp,s2,hx2⟩
   ·simp only[I1,simprocAttr,h8];refine C2 (fun w3=>w3=w'.drew) 10 (A8 [0,1,2,3,4,5,6,7,8,9]) (by decide +kernel) rfl ?_;simp only[D5,A8,I1,simprocAttr,h4];refine C2 (fun w3=>w3=w'.drew.drew) 8 (A8 [0,1,2,3,4,5,6,7]) (by decide +kernel) rfl ?_;simp only[D5,A8,I1,zVB,p9,simprocAttr,e0,hin];refine⟨.int .u64 (x.toNat:Nat),fun w3 e=>by subst e;exact D4 hodd hgb af1,?_⟩;simp only[D5,I1,zVB,p9,simprocAttr,e1,hinc];refine⟨.int .u64 (y.toNat:Nat),fun w3 e=>by subst e;exact M8 (P:=prog) (t:=223) hu hwdd hgc af1,?_⟩;simp only[D5,I1,zVB,p9,simprocAttr,q3,hin,s1,h8,q6];exact⟨k+1,by omega,by trivial,by omega,by rw[hmt];simp,s2,hx2⟩
  ·have hge:k=b.length:=by simp at hc;omega
   subst hge;rw[ck7 hl]at ho';rw[ew5,hl,ew5]at h4;simp only[J4,simprocAttr,h4];refine n7 results246 ?_;simp only[p6,simprocAttr];exact⟨by trivial,ho',hx⟩
theorem eB3:type_of% @List.getElem?_set_self:=@List.getElem?_set_self
theorem ei2:af6 prog 243=true:=by kernel_rfl
theorem cY9:F2 prog 244 276 1 24=true:=by kernel_rfl
theorem J9.put{P:Program}{α:Type}[z7 α]{h:Hp}{w w1:World}{T T' t:TypeId}{v:Value}{us:List Y4}{xss:List (List α)}(hr:J9 h w T T' v us xss){i:Nat}{u:Y4}(hi:us[i]?=some u){u':Value}{xs:List α}
  (hm:o9 (A3 u.v) w w1) (ho:A9 h w1 T' u' xs) (hv:F1 w u.v u') {inf:TypeInfo} (hinf:P.info? t=some inf) (hs:inf.size=1) :
  ∃w2,(Instr.storeAt t (.pointer (some (H4 v i))) u').run P w1 = .ok () w2∧J9 h w2 T T' v (us.set i ⟨u'⟩) (xss.set i xs)∧o9 (A3 v) w1 w2∧w2.heap.size=w1.heap.size:=by
 have hS:=ho.isS;have hil:i<us.length:=(ev8.1 hi).1;have hou:A9 h w1 T v us:=hr.outer.mod hm fun b hb hb2=>hr.off i u hi b hb2 hb;obtain⟨w2,s1,s2,s3,s4⟩:=D9 (P:=P) (t:=t) hou rfl hil (x:=u') (y:=(⟨u'⟩:Y4)) ⟨rfl,V6 hS⟩ (D8 hS) hinf hs;exact⟨w2,s1,hr.set hi hm ho hv s3 s2,s3,s4⟩
theorem ak7{α:Type}[z7 α]{h:Hp}{w:World}{T T':TypeId}{v:Value}{n:Nat}(ho:A9 h w T v (List.replicate n E1)):J9 h w T T' v (List.replicate n E1) (List.replicate n ([]:List α)):=by
 have hn:∀(i:Nat) (u:Y4),(List.replicate n E1)[i]?=some u→u=E1:=fun i u hu=>eB1 (ex2 hu);refine⟨ho,by simp,fun i u xs hu hx=>?_,fun i j u u' _ hu _ b hb=>?_,fun i u hu b hb=>?_⟩
 ·rw[hn i u hu,eB1 (ex2 hx)];exact A9.nil _ _ _
 ·rw[hn i u hu]at hb;exact absurd hb D0
 ·rw[hn i u hu]at hb;exact absurd hb D0
def dC1(most:Nat)(x:List Int)(b:List W):Prop:=b.length=most / 64+1∧∀f:Nat,N7 b f=true↔(f:Int)∈x
def aN3(l:List (List Int))(most:Nat):Prop:=∀x∈l,∀f∈x,0≤f∧f<most
def cp9(most:Nat)(l:List (List Int))(bss:List (List W)):Prop:=bss.length=l.length∧∀(i:Nat) (x:List Int),l[i]?=some x→∃b,bss[i]?=some b∧dC1 most x b
theorem bL8(v:Value)(l:List (List Int))(most:Nat)(w:World)(hv:R (d7 w) v l)(hm1:most≤1000000)(hl:l.length≤1000000)(hll:∀x∈l,x.length≤1000000000):
  Calls prog 200 #[v,.int .i64 most] w fun e w'=>∃u,e = .returned u∧((∃ub ok,u = .tuple #[ub,.bool ok]∧(ok=true→aN3 l most∧∃bss,R (d7 w') ub bss∧cp9 most l bss)∧(ok=false→¬aN3 l most))∧o6 w w'):=by
 refine d9 (args:=[v,.int .i64 most]) hm func200 rfl (by kernel_rfl) (by show 2≤_;decide +kernel) ?_;have hS:=hv.isS;have hvn:=hv.vlen;have hz:z7.enc (d7 w) (Value.slice none 0 0).cells.toList E1:=⟨rfl,rfl⟩;obtain⟨u0,w0,hmk,ho0,hx0,hf0,_⟩:=mk (P:=prog) (w:=w) (h:=d7 w) cY9 aW1 (α:=Y4) (y:=E1) hz (n:=l.length) (by omega) (by omega) (i4 _);have hrows0:J9 (d7 w) w0 276 223 u0 (List.replicate l.length E1) (List.replicate l.length ([]:List W)):=ak7 ho0;simp only[J4,O4,T6,simprocAttr,hS,hvn,hmk];refine n8 [0,1,6,14,15] (σ:=Nat) (fun i f w'=>f 16 = .int .i64 i∧i≤l.length∧(∃us bss,J9 (d7 w) w' 276 223 u0 us bss∧bss.length=l.length∧(∀(j:Nat) (x:List Int),j<i→l[j]?=some x→((∃b,bss[j]?=some b∧dC1 most x b)∧∀f∈x,0≤f∧f<most)))∧o6 w w') (fun i=>l.length-i) 0 (by decide +kernel) ?_ ?_
 ·simp only[p6,simprocAttr];exact⟨by trivial,ew4 _,⟨_,_,hrows0,by simp,fun j x hj=>by omega⟩,hx0⟩
 ·rintro i f w' hk ⟨h16,hil,⟨us,bss,hrows,hbl,hdone⟩,hx⟩;simp only[ev4,p6,simprocAttr]at hk;obtain⟨e0,e1,e6,e14,e15,_⟩:=hk;simp only[J4,B7,E7,simprocAttr,h16,e15];refine i5 (fun hc=>?_) (fun hc=>?_)
  ·have hlt:i<l.length:=by simpa using hc
   have hin:=hv.inS hlt;obtain⟨ux,hux,hcx⟩:=hv.row (ev2 hlt);have hldx:=G4 (P:=prog) (t:=118) hcx (b7 hx) O6;have hxmem:l[i]∈l:=ew2 hlt;have hxat:l[i]?=some l[i]:=ev2 hlt;generalize l[i]=x at hux hxmem hxat;have hxl:=hll x hxmem;have hSx:=hux.isS;have hnx:=hux.vlen;have q1:=by3 (P:=prog) (t:=3) most (by omega);have q2:B7 prog .add 3 (.int .i64 ((most / 64:Nat):Int)) (.int .i64 1)=some (.int .i64 ((most / 64+1:Nat):Int)):=by
    simp only[B7,E7,eB2];rw[B1 _ (by omega)]
   obtain⟨ur,w1,hmk1,ho1,hx1,hf1,_⟩:=mk (P:=prog) (w:=w') (h:=d7 w) df6 ax6 (α:=W) (y:=0#64) rfl (n:=most / 64+1) (by omega) (by omega) (b7 hx);have husl:us.length=l.length:=by rw[hrows.len,hbl]
   have hui:us[i]?=some (us[i]'(by omega)):=ev2 _;generalize us[i]'(by omega)=u at hui;obtain⟨w2,s1,s2,s3,s4⟩:=hrows.put (P:=prog) (t:=276) hui (hx1.weaken fun _ _ h=>h.elim) ho1 (fun b hb=>.inr (hf1 b hb)) (t8 aW1).choose_spec.1 (by rw[←C7 (t8 aW1).choose_spec.1];exact bX7);have hx2:o6 w w2:=o9.ext_of (hx.trans hx1) s3 fun b hb=>by
    have:=hrows.outer.free hb;exact eI6 fun hlt=>by simp[d7,hlt]at this
   have hin0:=hrows.outer.inS (k:=i) (by omega);have huiset:(us.set i ⟨ur⟩)[i]?=some (⟨ur⟩:Y4):=eB3 (by omega);generalize hus':us.set i ⟨ur⟩=us' at *;generalize hm64:most / 64=m64 at *;simp only[I1,zVB,p9,T6,simprocAttr,h16,e14,e6,e1,hin,hldx,q1,q2,hmk1,hin0,s1,hSx,hnx];refine n8 [0,1,6,7,14,15,16,28,29] (σ:=Nat) (fun k f w'=>f 30 = .int .i64 k∧k≤x.length∧(∃bss' b,J9 (d7 w) w' 276 223 u0 us' bss'∧bss'.length=l.length∧(∀j:Nat,j≠i→bss'[j]?=bss[j]?)∧bss'[i]?=some b∧b.length=m64+1∧(∀f:Nat,N7 b f=true↔(f:Int)∈x.take k)∧∀f∈x.take k,0≤f∧f<most)∧o6 w w') (fun k=>x.length-k) 0 (by decide +kernel) ?_ ?_
   ·simp only[p6,simprocAttr];refine⟨by trivial,ew4 _,⟨_,List.replicate (m64+1) 0#64,s2,by simp[hbl],fun j hj=>eD3 (fun e=>hj e.symm),eB3 (by omega),by simp,fun f=>by rw[bH4];simp,by simp⟩,hx2⟩
   ·rintro k f w3 hk ⟨h30,hkl,⟨bss',b,hrows',hbl',hoth,hbi,hblen,hbits,hrng⟩,hx3⟩;simp only[ev4,p6,simprocAttr]at hk;simp only[e0,e1,e6,e14,e15,h16]at hk;obtain⟨i0,i1,i6,i7,i14,i15,i16,i28,i29,_⟩:=hk;simp only[J4,B7,E7,simprocAttr,h30,i29];refine i5 (fun hc=>?_) (fun hc=>?_)
    ·have hkt:k<x.length:=by simpa using hc
     have hink:=hux.inS hkt;have hldk:=M8 (P:=prog) (t:=3) hux (b7 hx3) (ev2 hkt) G3;simp only[G7.val]at hldk;have hmemk:x[k]∈x:=ew2 hkt;have htk:x.take (k+1)=x.take k++[x[k]]:=ew1 hkt;generalize x[k]=ft at hldk hmemk htk;by_cases hlo:ft<0
     ·have d0:decide (ft<0)=true:=by simpa using hlo
      simp only[J4,O4,B7,E7,p9,simprocAttr,h30,i28,hink,hldk,d0];refine ad8 results200 ?_;simp only[p6,simprocAttr];exact⟨⟨_,false,rfl,(fun h=>(by cases h)),(fun _ hf=>(by have:=hf x hxmem ft hmemk;omega))⟩,hx3⟩
     ·have d0:decide (ft<0)=false:=by simpa using hlo
      by_cases hhi:ft≥most
      ·have d1:decide (ft≥(most:Int))=true:=by simpa using hhi
       simp only[J4,O4,B7,E7,p9,simprocAttr,h30,i28,i1,hink,hldk,d0,d1];refine ad8 results200 ?_;simp only[p6,simprocAttr];exact⟨⟨_,false,rfl,(fun h=>(by cases h)),(fun _ hf=>(by have:=hf x hxmem ft hmemk;omega))⟩,hx3⟩
      ·have d1:decide (ft≥(most:Int))=false:=by simpa using hhi
       obtain⟨fn,hfn⟩:∃fn:Nat,ft=fn:=⟨ft.toNat,by omega⟩;have hin3:=hrows'.outer.inS (k:=i) (by rw[hrows'.len];omega);have hld3:=aG2 (P:=prog) (t:=276) hrows' huiset aM0;have hob:=hrows'.row i ⟨ur⟩ b huiset hbi
       have hfw:fn / 64<b.length:=by rw[hblen];have:fn<most:=by omega
                                     have:=Nat.div_le_div_right (c:=64) (Nat.le_of_lt this);omega
       have hput:=cP7 (d7 w) ur b fn w3 hob hfw (by omega);rw[←hfn]at hput;simp only[J4,O4,B7,E7,p9,simprocAttr,h30,i28,i1,i6,i7,hink,hldk,d0,d1,hin3,hld3];refine y5 ei2 hput ?_;rintro r w4 ⟨hr,ho4,hm4⟩;have hx4:o6 w w4:=o9.ext_of hx3 hm4 fun b hb=>by
        have:=hob.free hb;exact eI6 fun hlt=>by simp[d7,hlt]at this
       have hrows4:=hrows'.write huiset hm4 ho4;simp only[J4,B7,E7,simprocAttr,h30];refine⟨k+1,by omega,by rw[B1 k (by omega)],by omega,⟨_,_,hrows4,by simp[hbl'],fun j hj=>?_,eB3 (by omega),by rw[cB3,hblen],fun f=>?_,fun f hf=>?_⟩,hx4⟩
       ·rw[eD3 (fun e=>hj e.symm)];exact hoth j hj
       ·rw[cv6 hfw,htk,eH1,hbits f,ew7,ey1,ez3];constructor
        ·rintro(h|h)
         ·exact .inr (by rw[h,hfn])
         ·exact .inl h
        ·rintro(h|h)
         ·exact .inr h
         ·exact .inl (by omega)
       ·rw[htk,ew7,ey1]at hf;rcases hf with hf|hf
        ·exact hrng f hf
        ·subst hf;exact⟨by omega,by omega⟩
    ·have hge:k=x.length:=by simp at hc;omega
     subst hge;rw[ew5]at hbits hrng;simp only[J4,B7,E7,simprocAttr,i16];refine⟨i+1,by omega,by rw[B1 i (by omega)],by omega,⟨us',bss',hrows',hbl',fun j y hj hy=>?_⟩,hx3⟩;by_cases hji:j=i
     ·subst hji;rw[hxat]at hy;obtain rfl:=ex1 hy;exact⟨⟨b,hbi,by rw[hblen,hm64],hbits⟩,hrng⟩
     ·obtain⟨⟨b',hb1,hb2⟩,h3⟩:=hdone j y (by omega) hy;exact⟨⟨b',by rw[hoth j hji];exact hb1,hb2⟩,h3⟩
  ·have hge:i=l.length:=by simp at hc;omega
   subst hge;simp only[J4,simprocAttr,e6];refine ad8 results200 ?_;simp only[p6,simprocAttr];refine⟨⟨_,true,rfl,fun _=>⟨fun x hx f hf=>?_,bss,hrows.ro (b7 hx),hbl,fun i x hi=>?_⟩,(fun h=>(by cases h))⟩,hx⟩
   ·obtain⟨j,hj⟩:=eC9.1 hx;exact(hdone j x (ev8.1 hj).1 hj).2 f hf
   ·exact(hdone i x (ev8.1 hi).1 hi).1
theorem aO8(n:Nat)(l:List (Int×Int)):(aj2 n l).length=n:=by simp[aj2]
theorem bJ7{n:Nat}(l:List (Int×Int)){q:Nat}(hq:q<n):(aj2 n l)[q]?=some ((l.filter fun t=>decide (t.1=(q:Int))).map (·.2)):=by simp[aj2,hq]
theorem bJ8(n:Nat):aj2 n []=List.replicate n []:=by
 apply eC3
 ·simp[aj2]
 ·intro j h1 h2;simp[aj2]
theorem bu6{n:Nat}(l:List (Int×Int)){q:Nat}(hq:q<n)(b:Int):aj2 n (l++[((q:Int),b)])=(aj2 n l).set q (((l.filter fun t=>decide (t.1=(q:Int))).map (·.2))++[b]):=by
 apply eC3
 ·simp[aj2]
 ·intro j h1 h2;rw[List.getElem_set];simp only[aj2,eD4,eI7,eC6,ey5];by_cases hjq:q=j
  ·subst hjq;simp[]
  ·rw[if_neg hjq];have:decide ((q:Int)=(j:Int))=false:=by simp;omega
   simp[this]
theorem aw1(l:List (Int×Int))(q:Nat):((l.filter fun t=>decide (t.1=(q:Int))).map (·.2)).length≤l.length:=by
 rw[ew3];exact ey2 _ _
theorem aO9{n:Nat}{l:List (Int×Int)}{x:List Int}(hx:x∈aj2 n l):x.length≤l.length∧∀b∈x,∃t∈l,t.2=b:=by
 obtain⟨q,_,rfl⟩:=ey0.1 hx;refine⟨aw1 l q,fun b hb=>?_⟩;obtain⟨t,ht,rfl⟩:=ey0.1 hb;exact⟨t,(ey4.1 ht).1,rfl⟩
theorem bk1{P:Program}{h:Hp}{w:World}{T t:TypeId}{v:Value}{us:List Y4}(ho:A9 h w T v us){i:Nat}{u:Y4}(hi:us[i]?=some u)(ht:B6 P t=false):
  (Instr.loadAt t (.pointer (some (H4 v i)))).run P w = .ok u.v w:=by
 obtain⟨es,⟨he,_⟩,hc⟩:=ho.get hi;have:=hc 0 u.v (by rw[he];rfl);rw[J8]at this;have h1:(i*z7.sz Y4)=i:=eE8 i;rw[h1]at this;exact Q6 ht this
theorem dF1:af6 prog 87=true:=by kernel_rfl
theorem bf5{p:Pg}{i x y:Nat}{wy:Wy}(hr:E4 p)(hw:C8 p≤1000000)(hi:i<p.procs.length)(hok:ai4 p i x y wy):∀t∈wy.pairs wy.data,(0≤t.1∧t.1<wy.n)∧(0≤t.2∧t.2<wy.n):=aP2 hok.toWyOk (by8 hr hw hi hok)
theorem bK9{v u':Value}{us:List Y4}{i b:Nat}(h:K5 v (us.set i ⟨u'⟩) b):K5 v us b∨A3 u' b:=by
 rcases h with h|⟨u,hu,hb⟩
 ·exact .inl (.inl h)
 ·rcases eD1 hu with h|rfl
  ·exact .inl (.inr ⟨u,h,hb⟩)
  ·exact .inr hb
theorem cK4(a:Addr)(wy:Wy)(p:Pg)(i x y:Nat)(w:World)(ha:At (d7 w) a wy)(hr:E4 p)(hw:C8 p≤1000000)(hi:i<p.procs.length)(hok:ai4 p i x y wy):
  Calls prog 133 #[.pointer (some a)] w fun e w'=>∃u,e = .returned u∧(R (d7 w') u wy.net∧o6 w w'):=by
 refine d9 (args:=[.pointer (some a)]) hm func133 rfl (by kernel_rfl) (by show 1≤_;decide +kernel) ?_;obtain⟨_,_,_,_,_,_,ldw,_⟩:=ha.wy;have lw:=ldw w (i4 _);have h200:=J3 hr.may;have hlen:=hok.part.ok.len;have hle':=hok.part.ok.le;have hn:=hok.n;have hdl:=aN0 hr hw hi hok;have hdr:=by8 hr hw hi hok;have hpr:=bf5 hr hw hi hok;have hnn:wy.n=((wy.n.toNat:Nat):Int):=by omega
 have hpl:(wy.pairs wy.data).length=wy.data.length:=ew3 _;have hF:wy.net=aj2 wy.n.toNat (wy.pairs wy.data):=rfl;generalize hM:wy.n.toNat=M at hF hnn;have hz:z7.enc (d7 w) (Value.slice none 0 0).cells.toList E1:=⟨rfl,rfl⟩;obtain⟨vo,w1,hmk,ho1,hx1,hfr1,_⟩:=mk (P:=prog) (w:=w) (h:=d7 w) bV6 S3 (α:=Y4) (y:=E1) hz (n:=M) (by omega) (by omega) (i4 _);rw[←hnn]at hmk;have hr1:J9 (d7 w) w1 118 3 vo (List.replicate M E1) (aj2 M []):=by rw[bJ8];exact ak7 ho1
 simp only[m8,n9,simprocAttr,lw,hmk];refine y5 dF1 (bD6 a wy p i x y w1 (ha.mono (b7 hx1)) hr hw hi hok) ?_;rintro ud w2 ⟨hod,hx2⟩;simp only[m8,simprocAttr];refine y5 bI1 (aj6 a wy p i x y ud _ w2 (ha.mono (b7 (hx1.trans hx2))) hok.toWyOk (hod.rw_ (b7 hx2)) hdr (by omega)) ?_;rintro uq w3 ⟨hoq,hx3⟩;have hr3:=hr1.ext (hx2.trans hx3);have hlt3:∀b,K5 vo (List.replicate M E1) b→b<w2.heap.size:=fun b hb=>(hr1.ext hx2).lt hb;generalize wy.pairs wy.data=ps at hoq hF hpr hpl;have huq:R (B5 w3 (K5 vo (List.replicate M E1))) uq ps:=hoq.flatRN fun b hb=>D3 fun hbu=>by
  have h1:=hlt3 b hbu;have h2:=C9 (hoq.free hb);omega
 have hx03:=hx1.trans (hx2.trans hx3);have hSq:=huq.isS;have hnq:=huq.vlen;simp only[m8,n9,simprocAttr,hSq,hnq];refine n8 [0,3,14,15] (σ:=Nat×List Y4) (fun s f w'=>f 16 = .int .i64 s.1∧s.1≤ps.length∧J9 (d7 w) w' 118 3 vo s.2 (aj2 M (ps.take s.1))∧o9 (K5 vo (List.replicate M E1)) w3 w'∧(∀b,K5 vo s.2 b→K5 vo (List.replicate M E1) b∨w3.heap.size≤b)) (fun s=>ps.length-s.1) (0,List.replicate M E1) (by decide +kernel) ?_ ?_
 ·simp only[p6,simprocAttr];exact⟨by trivial,ew4 _,by simpa using hr3,o9.refl _,fun b hb=>.inl hb⟩
 rintro⟨k,us⟩ f w4 hk ⟨h16,hkl,hr4,hm4,hmv4⟩;simp only at h16 hkl hr4 hmv4;simp only[ev4,p6,simprocAttr]at hk;obtain⟨e0,e3,e14,e15,_⟩:=hk;have hx04:o6 w w4:=o9.ext_of hx03 hm4 fun b hb=>C9 (hr3.free hb);simp only[m8,n9,simprocAttr,h16,e15];refine i5 (fun hc=>?_) (fun hc=>?_);rotate_left
 ·have hge:k=ps.length:=by simp at hc;omega
  subst hge;rw[ew5]at hr4;simp only[m8,simprocAttr,e3];refine n7 results133 ?_;simp only[p6,simprocAttr];exact⟨by rw[hF];exact hr4.ro (b7 hx04),hx04⟩
 have hlt:k<ps.length:=by simpa using hc
 have hin:=huq.inS hlt;have hld:=cy6 huq (D2 hm4) (ev2 hlt);have htk:=ew1 hlt;obtain⟨hq1,hq2⟩:=hpr _ (ew2 hlt);generalize ps[k]=t at hld htk hq1 hq2;obtain⟨z1,z2⟩:=t;simp only at hq1 hq2 hld;obtain⟨Q,rfl⟩:∃Q:Nat,z1=(Q:Int):=⟨z1.toNat,by omega⟩;have hQ:Q<M:=by omega
 obtain⟨c,wz,w5,hal,hst5,hx5,hh5,hge5⟩:=cJ1 (w:=w4) (Q:Int) z2;have hr5:=hr4.ext (hx5.trans (o6.drew w5));have hul:us.length=M:=by rw[hr4.len,aO8]
 obtain⟨u,hu⟩:∃u,us[Q]?=some u:=⟨us[Q]'(by omega),ev2 (by omega)⟩;have hrow:=hr5.row Q u _ hu (bJ7 _ hQ);have hrl:=aw1 (ps.take k) Q;rw[ew6]at hrl;have hcw:¬A3 u.v c:=fun hb=>by
  have:=hr4.lt (.inr ⟨u,ex2 hu,hb⟩);omega
 have hcd:w5.drew.heap[c]?=some (.cells #[.int .i64 (Q:Int),.int .i64 z2] 74 (0,0)):=hh5;have t0:∀K f d w0,B8 prog (fun w'=>o9 (A3 u.v) w5.drew w') (Instr.loadAt 3 (.pointer (some ⟨c,0,none⟩))) K f d w0=K (A5 f d (.int .i64 (Q:Int))) w0:=fun K f d w0=>A0 (w0:=w5.drew) (o9.refl _) fun w' h=>(aj4 hcd h hcw).1;have t1:∀K f d w0,B8 prog (fun w'=>o9 (A3 u.v) w5.drew w') (Instr.loadAt 3 (.pointer (some ⟨c,1,none⟩))) K f d w0=K (A5 f d (.int .i64 z2)) w0:=fun K f d w0=>A0 (w0:=w5.drew) (o9.refl _) fun w' h=>(aj4 hcd h hcw).2;have t2:∀K f d w0,B8 prog (fun w'=>o9 (A3 u.v) w5.drew w') (Instr.loadAt 118 (.pointer (some (H4 vo Q)))) K f d w0=K (A5 f d u.v) w0:=fun K f d w0=>A0 (w0:=w5.drew) (o9.refl _) fun w' h=>bk1 (hr5.outer.mod h fun b hb hb2=>hr5.off Q u hu b hb2 hb) hu O6;have hinr:=hr5.outer.inS (k:=Q) (by omega);have hx05:=hx04.trans (hx5.trans (o6.drew w5));obtain⟨p1,u6,w6,p2,p3,p4,p5⟩:=push (e:=118) ad0 rfl hrow (x:=.int .i64 z2) (y:=z2) rfl (by omega) (by omega) (b7 hx05);simp only[Value.cells]at p1 p2;obtain⟨w7,s1,hr7,hm7,_⟩:=hr5.put (P:=prog) (t:=118) hu p4 p3 p5 (t8 S3).choose_spec.1 (by rw[←C7 (t8 S3).choose_spec.1];exact aD4);simp only[m8,n9,p9,simprocAttr,h16,e14,hin,hld,hal,hst5];refine C2 (fun w'=>o9 (A3 u.v) w5.drew w') 12 (A8 [0,1,2,3,4,5,6,7,8,9,10,11]) (by decide +kernel) (o9.refl _) ?_;simp only[D5,A8,m8,n9,p9,simprocAttr,e3,t0,t1,t2,hinr,p1,p2,F7];refine⟨o9.up (o6.alloc _ _),p4,?_⟩;simp only[m8,n9,simprocAttr,s1,h16];have hrb:∀b,A3 u.v b→K5 vo us b:=fun b hb=>.inr ⟨u,ex2 hu,hb⟩;have hsz3:w3.heap.size≤w5.drew.heap.size:=ew0 hm4.size ((hx5.trans (o6.drew w5)).size);refine⟨(k+1,us.set Q ⟨u6⟩),by simp only[];omega,by simp only[];rw[B1 k (by omega)],by simp only[];omega,?_,?_,fun b hb=>?_⟩
 ·simp only[];rw[htk,bu6 _ hQ];exact hr7
 ·refine(hm4.chain (o9.up (M:=fun _=>False) (hx5.trans (o6.drew w5))) fun _ _ h=>h.elim).chain (o9.trans (M:=fun b=>A3 u.v b∨A3 vo b) (p4.weaken fun b _ h=>.inl h) (hm7.weaken fun b _ h=>.inr h)) (fun b hb h=>?_);rcases h with h|h
  ·exact(hmv4 b (hrb b h)).resolve_right (by omega)
  ·exact .inl h
 ·rcases bK9 hb with h|h
  ·exact hmv4 b h
  ·rcases p5 b h with h|h
   ·exact hmv4 b (hrb b h)
   ·exact .inr (by omega)
theorem eE0:type_of% @List.getElem?_range:=@List.getElem?_range
def bo5(r:List Bool):Nat:=r.count true
def aS8(f:List (List Bool)):Nat:=(f.map bo5).sum
theorem ca8:∀(r s:List Bool),s.length=r.length→(∀i,s.getD i false=true→r.getD i false=true)→bo5 s≤bo5 r∧(s≠r→bo5 s<bo5 r)
 | [],[],_,_=>by simp[bo5]
 | x::r,y::s,hl,h=>by
  have ih:=ca8 r s (by simpa using hl) fun i hi=>by have:=h (i+1);simpa using this (by simpa using hi)
  have h0:=h 0;simp only[List.getD_cons_zero]at h0;unfold bo5 at ih ⊢;simp only[List.count_cons];cases x<;>cases y<;>simp_all
  all_goals omega
theorem bE9:∀(f:List (List Bool)) (a:Nat) (l:List Bool) (ha:a<f.length),aS8 (f.set a l)+bo5 f[a]=aS8 f+bo5 l
 | x::f,0,l,_=>by simp[aS8];omega
 | x::f,a+1,l,ha=>by
  have:=bE9 f a l (by simpa using ha);simp only[aS8,List.set_cons_succ,ez9,eF8,eF6]at *;omega
structure SqM (n:Nat) (f:List (List Bool)):Prop where
 len:f.length=n
 row:∀r∈f,r.length=n
theorem SqM.get{n:Nat}{f:List (List Bool)}(h:SqM n f){a:Nat}(ha:a<n):f[a]?=some (f.getD a [])∧(f.getD a []).length=n:=by
 have:a<f.length:=by rw[h.len];exact ha
 rw[List.getD,ev2 this];exact⟨rfl,h.row _ (ew2 this)⟩
def mAt(f:List (List Bool))(a b:Nat):Bool:=(f.getD a []).getD b false
theorem ab2(f:List (List Bool))(l:List Int):(W4 f l).length=f.length:=by simp[W4]
theorem bk8{n:Nat}{f:List (List Bool)}(h:SqM n f)(l:List Int){b:Nat}(hb:b<n):(W4 f l).getD b false=l.all fun a=>mAt f a.toNat b:=by
 unfold W4;rw[List.getD,ey8,eE0 (by rw[h.len];exact hb)];simp only[eB4,eA9];unfold atB mAt;simp
def U9(next:List (List Int))(f:List (List Bool))(a:Nat):List Bool:=(W4 f (next.getD a [])).set a true
theorem aw6(next:List (List Int))(f:List (List Bool))(a:Nat):(U9 next f a).length=f.length:=by simp[U9,ab2]
theorem aU8{n:Nat}{next:List (List Int)}{f:List (List Bool)}(h:SqM n f){a b:Nat}(ha:a<n):(U9 next f a).getD b false=(decide (b<n)&&(decide (a=b)||(next.getD a []).all fun c=>mAt f c.toNat b)):=by
 unfold U9;by_cases hb:b<n
 ·by_cases hab:a=b
  ·subst hab;rw[List.getD,eB3 (by rw[ab2,h.len];exact hb)];simp[hb]
  ·rw[List.getD,eD3 hab];have:=bk8 h (next.getD a []) hb;rw[List.getD]at this;rw[this];simp[hb,hab]
 ·rw[List.getD,eC7 (by rw[eC2,ab2,h.len];omega)];simp[hb]
def cp2(n:Nat)(next:List (List Int))(f:List (List Bool)):Prop:=∀a,a+1<n→∀b,(U9 next f a).getD b false=true→mAt f a b=true
theorem ae2(n:Nat):SqM n (Q5 n):=⟨by simp[Q5],fun r hr=>by
 obtain⟨a,_,rfl⟩:=ey0.1 hr;simp⟩
theorem bg8{n a b:Nat}(ha:a<n)(hb:b<n):mAt (Q5 n) a b=(decide (a+1<n)||decide (a=b)):=by
 have h1:(Q5 n).getD a []=(List.range n).map fun b=>decide (a+1<n)||decide (a=b):=by
  unfold Q5;rw[List.getD,ey8,eE0 ha];rfl
 unfold mAt;rw[h1,List.getD,ey8,eE0 hb];rfl
theorem bG8(n:Nat)(next:List (List Int)):cp2 n next (Q5 n):=by
 intro a ha b hb;rw[aU8 (ae2 n) (by omega)]at hb;have:b<n:=by
  rw[ex5]at hb;exact ev6 hb.1
 rw[bg8 (by omega) this];simp[ha]
theorem ca7(n:Nat):∀(f:List (List Bool)),(∀r∈f,r.length=n)→aS8 f≤f.length*n
 | [],_=>by simp[aS8]
 | r::f,h=>by
  have ih:=ca7 n f fun s hs=>h s (by simp[hs]);have h1:bo5 r≤n:=by
   have:=List.count_le_length (a:=true) (l:=r);rw[h r (by simp)]at this;exact this
  simp only[aS8,ez9,eF8,ex7]at *;rw[eG3];omega
theorem aQ4{α:Type}{f:List α}{a:Nat}{l d:α}(c:Nat)(ha:a<f.length):(f.set a l).getD c d=if a=c then l else f.getD c d:=by
 by_cases h:a=c
 ·subst h;simp[List.getD,ha]
 ·rw[if_neg h,List.getD,List.getD,eD3 h]
theorem bL7{α:Type}{f:List α}{a:Nat}{l:α}(h:f[a]?=some l):f.set a l=f:=by
 apply eH9;intro i;by_cases hi:a=i
 ·subst hi;rw[eB3 (ev8.1 h).1,h]
 ·rw[eD3 hi]
theorem bW3{n:Nat}{next:List (List Int)}{f:List (List Bool)}(hs:SqM n f)(hd:cp2 n next f){a:Nat}(ha:a+1<n):
  SqM n (P9 next f a)∧cp2 n next (P9 next f a)∧(U9 next f a=f.getD a []→P9 next f a=f)∧(U9 next f a≠f.getD a []→aS8 (P9 next f a)<aS8 f):=by
 have hal:a<f.length:=by rw[hs.len];omega
 have e:P9 next f a=f.set a (U9 next f a):=rfl
 rw[e];obtain⟨hg,hgl⟩:=hs.get (a:=a) (by omega);have hsq:SqM n (f.set a (U9 next f a)):=⟨by rw[eC2,hs.len],fun r hr=>by
  rcases eD1 hr with h|h
  ·exact hs.row r h
  ·rw[h,aw6,hs.len]⟩
 have B4:∀c b,mAt (f.set a (U9 next f a)) c b=true→mAt f c b=true:=by
  intro c b h;unfold mAt at h ⊢;rw[aQ4 c hal]at h;split at h
  ·next hac=>subst hac;exact hd a ha b h
  ·exact h
 have hm:=bE9 f a (U9 next f a) hal;have hfa:f[a]=f.getD a []:=by rw[List.getD,ev2 hal];rfl
 obtain⟨_,hlt⟩:=ca8 (f.getD a []) (U9 next f a) (by rw[aw6,hs.len,hgl]) fun b hb=>hd a ha b hb;refine⟨hsq,?_,fun h=>by rw[h];exact bL7 hg,fun h=>by have:=hlt h;rw[hfa]at hm;omega⟩;intro c hc b h;rw[aU8 hsq (by omega)]at h;have h':(U9 next f c).getD b false=true:=by
  rw[aU8 hs (by omega)];rw[ex5,eH1]at h ⊢;refine⟨h.1,h.2.imp id fun h2=>?_⟩;rw[eE2]at h2 ⊢;exact fun x hx=>B4 _ _ (h2 x hx)
 unfold mAt;rw[aQ4 c hal];split
 ·next hac=>subst hac;exact h'
 ·exact hd c hc b h'
theorem aN6{next:List (List Int)}{m:Nat}{f:List (List Bool)}(h:M2 next f m=f):∀k,Y8 next m k f=f
 | 0=>rfl
 | k+1=>by rw[Y8,h,aN6 h k]
theorem aB6(next:List (List Int))(m:Nat):∀(j k:Nat) (f:List (List Bool)),Y8 next m (j+k) f=Y8 next m k (Y8 next m j f)
 | 0,k,f=>by rw[ey7];rfl
 | j+1,k,f=>by rw[show j+1+k=(j+k)+1 by omega,Y8,Y8,aB6 next m j k]
theorem af7{α:Type}{l:List α}{d x:α}{n b:Nat}(hl:l.length=n)(hb:b<n)(hx:l[b]?=some x):(l.take b++List.replicate (n-b) d).set b x=l.take (b+1)++List.replicate (n-(b+1)) d:=by
 have h1:(l.take b).length=b:=by rw[ew6];omega
 rw[List.set_append_right _ _ (by omega),h1,Nat.sub_self,show n-b=(n-(b+1))+1 by omega,List.replicate_succ,List.set_cons_zero,eH3,hx];simp
theorem aR2{P:Program}{t:TypeId}{z:Value}(hz:H6 P t=some z)(hs:E3 P t=1):∃i,P.info? t=some i∧i.size=1:=by
 obtain⟨i,h1,h2⟩:=t8 hz;exact⟨i,h1,by rw[←C7 h1];exact hs⟩
theorem bV4(vf vs:Value)(n:Nat)(fm:List (List Bool))(l:List Int)(w:World)(hf:R (d7 w) vf fm)(hs:R (d7 w) vs l)(hq:SqM n fm)(hl:∀c∈l,0≤c∧c<(n:Int))(hn:n≤1000000)(hll:l.length≤1000000000):
  Calls prog 144 #[vf,vs] w fun e w'=>∃u,e = .returned u∧(A9 (d7 w) w' 4 u (W4 fm l)∧o6 w w'):=by
 refine d9 (args:=[vf,vs]) hm func144 rfl (by kernel_rfl) (by show 2≤_;decide +kernel) ?_;have hSf:=hf.isS;have hnf:=hf.vlen;rw[hq.len]at hnf;have hSs:=hs.isS;have hns:=hs.vlen;obtain⟨ib,hib,hib1⟩:=aR2 (P:=prog) S7 aD5;obtain⟨vo,w1,hmk,ho,hx1,_,_⟩:=mk (P:=prog) (w:=w) (h:=d7 w) (α:=Bool) bp9 S7 (y:=false) rfl (n:=n) (by omega) (by omega) (i4 _);have hSo:=ho.isS;have hno:vlen vo=n:=by rw[ho.vlen,eA1]
 have hsl:(W4 fm l).length=n:=by rw[ab2,hq.len]
 simp only[m8,n9,simprocAttr,hSf,hnf,hmk,hSo,hno];refine n8 [0,1,5,13] (σ:=Nat) (fun b f w'=>f 14 = .int .i64 b∧b≤n∧A9 (d7 w) w' 4 vo ((W4 fm l).take b++List.replicate (n-b) false)∧o6 w w') (fun b=>n-b) 0 (by decide +kernel) ?_ ?_
 ·simp only[p6,simprocAttr];exact⟨by trivial,ew4 _,by simpa using ho,hx1⟩
 rintro b f w2 hk ⟨h14,hbl,ho2,hx2⟩;simp only[ev4,p6,simprocAttr]at hk;obtain⟨e0,e1,e5,e13,_⟩:=hk;simp only[m8,n9,simprocAttr,h14,e13];refine i5 (fun hc=>?_) (fun hc=>?_);rotate_left
 ·have hge:b=n:=by simp at hc;omega
  subst hge;rw[Nat.sub_self,List.replicate_zero,ey6,←hsl,ew5]at ho2;simp only[m8,simprocAttr,e5];refine n7 results144 ?_;simp only[p6,simprocAttr];exact⟨ho2,hx2⟩
 have hlt:b<n:=by simpa using hc
 have hnext:=af7 (d:=false) hsl hlt (ev2 (by omega));have hat:(W4 fm l)[b]'(by omega)=l.all fun a=>mAt fm a.toNat b:=by
  have:=bk8 hq l hlt;rw[List.getD,ev2 (by omega)]at this;exact this
 rw[hat]at hnext;have hX:((W4 fm l).take b++List.replicate (n-b) false).length=n:=by rw[ev5,ew6,eA1];omega
 generalize(W4 fm l).take b++List.replicate (n-b) false=X at ho2 hnext hX;have hin:=ho2.inS (k:=b) (by omega);obtain⟨w3,s1,ho3,hm3,_⟩:=D9 (P:=prog) (t:=4) ho2 rfl (k:=b) (by omega) (x:=.bool true) (y:=true) rfl rfl hib hib1;have hx3:=ho2.ext2 hx2 hm3;simp only[m8,n9,p9,simprocAttr,h14,e1,e5,hin,s1,hSs,hns];refine n8 [0,1,5,6,13,14,20,21] (σ:=Nat) (fun k f w'=>f 22 = .int .i64 k∧k≤l.length∧A9 (d7 w) w' 4 vo (X.set b ((l.take k).all fun a=>mAt fm a.toNat b))∧o6 w w') (fun k=>l.length-k) 0 (by decide +kernel) ?_ ?_
 ·simp only[p6,simprocAttr];exact⟨by trivial,ew4 _,by simpa using ho3,hx3⟩
 rintro k f2 w4 hk ⟨h22,hkl,ho4,hx4⟩;simp only[ev4,p6,simprocAttr]at hk;obtain⟨r0,r1,r5,r6,r13,r14,r20,r21,_⟩:=hk;rw[e0]at r0;rw[e5]at r5;rw[e13]at r13;rw[h14]at r14;simp only[m8,n9,simprocAttr,h22,r21];refine i5 (fun hc2=>?_) (fun hc2=>?_);rotate_left
 ·have hge:k=l.length:=by simp at hc2;omega
  subst hge;rw[ew5,hnext]at ho4;simp only[m8,n9,simprocAttr,r14];refine⟨b+1,by omega,by rw[B1 b (by omega)],by omega,ho4,hx4⟩
 have hlt2:k<l.length:=by simpa using hc2
 have hin2:=hs.inS hlt2;have hld:=aH4 hs (b7 hx4) hlt2;have hcr:=hl _ (ew2 hlt2);have htk:=ew1 hlt2;generalize l[k]=c at hld hcr htk;obtain⟨C,rfl⟩:∃C:Nat,c=(C:Int):=⟨c.toNat,by omega⟩;obtain⟨hg,hgl⟩:=hq.get (a:=C) (by omega);obtain⟨uc,huc,hcc⟩:=R.row hf hg;have hld2:=G4 (P:=prog) (t:=151) hcc (b7 hx4) af0;have hinf:=hf.inS (k:=C) (by rw[hq.len];omega);have hinc:=huc.inS (k:=b) (by omega);have hld3:=ldB huc (b7 hx4) (k:=b) (by omega);have hmv:(fm.getD C [])[b]'(by omega)=mAt fm C b:=by
  have hh:∀r:List Bool,∀h:b<r.length,r[b]=r.getD b false:=fun r h=>by simp[List.getD,h]
  exact hh _ _
 rw[hmv]at hld3;have hino:=ho4.inS (k:=b) (by rw[eC2];omega);have hldo:=D4 (P:=prog) (t:=4) ho4 (k:=b) (eB3 (by omega)) ao9;have hstep:(l.take (k+1)).all (fun a=>mAt fm a.toNat b)=((l.take k).all (fun a=>mAt fm a.toNat b)&&mAt fm C b):=by
  rw[htk,List.all_append];simp
 obtain⟨w5,s2,ho5,hm5,_⟩:=D9 (P:=prog) (t:=4) ho4 rfl (k:=b) (by rw[eC2];omega) (x:=.bool ((l.take (k+1)).all (fun a=>mAt fm a.toNat b))) (y:=(l.take (k+1)).all (fun a=>mAt fm a.toNat b)) rfl rfl hib hib1;rw[List.set_set]at ho5;have hx5:=ho4.ext2 hx4 hm5;have hldo':(Instr.loadAt 4 (.pointer (some (H4 vo b)))).run prog w4 = .ok (.bool ((l.take k).all fun a=>mAt fm a.toNat b)) w4:=hldo;generalize hVe:(l.take (k+1)).all (fun a=>mAt fm a.toNat b)=V' at hstep s2 ho5;generalize(l.take k).all (fun a=>mAt fm a.toNat b)=V at hldo' hstep;generalize mAt fm C b=m at hld3 hstep;rcases ev3 V with hV|hV<;>subst hV
 ·have:V'=m:=by simpa using hstep
  subst this;simp only[m8,n9,p9,simprocAttr,h22,r0,r5,r6,r20,hin2,hld,hino,hldo',hinf,hld2,hinc,hld3,s2];refine⟨k+1,by omega,by rw[B1 k (by omega)],by omega,by rw[hVe];exact ho5,hx5⟩
 ·have:V'=false:=by simpa using hstep
  subst this;simp only[m8,n9,p9,simprocAttr,h22,r5,r6,r20,hin2,hld,hino,hldo',s2];refine⟨k+1,by omega,by rw[B1 k (by omega)],by omega,by rw[hVe];exact ho5,hx5⟩
theorem db8:af6 prog 100=true:=by kernel_rfl
theorem ef2:af6 prog 144=true:=by kernel_rfl
theorem ef3:af6 prog 145=true:=by kernel_rfl
theorem cY7:F2 prog 162 151 1 24=true:=by decide +kernel
theorem bZ5{p:Pg}{i x y:Nat}{wy:Wy}(hr:E4 p)(hw:C8 p≤1000000)(hi:i<p.procs.length)(hok:ai4 p i x y wy):wy.aug.length≤2000000:=by
 have hF:wy.aug=an9 (wy.virtual++wy.real++[⟨0,-1,2⟩]++((b9 p).of i).flatMap T5):=by unfold Wy.aug;rw[hok.s,hok.proc]
 have h1:=bD3 hr hw hi hok;have h2:=(aZ3 p hw i hi).2;have h3:=Q7 T5 1 ((b9 p).of i) fun x _=>bi1 x;rw[hF];refine ew0 (aL6 _) ?_;simp only[ev5,ey3];omega
theorem by1{p:Pg}{i x y:Nat}{wy:Wy}(hr:E4 p)(hw:C8 p≤1000000)(hi:i<p.procs.length)(hok:ai4 p i x y wy):∀t∈wy.aug,RgS x y t:=by
 have hF:wy.aug=an9 (wy.virtual++wy.real++[⟨0,-1,2⟩]++((b9 p).of i).flatMap T5):=by unfold Wy.aug;rw[hok.s,hok.proc]
 intro t ht;rw[hF]at ht;exact cq5 hr hw hi hok t (aL7 ht)
theorem bP3(a:Addr)(wy:Wy)(p:Pg)(i x y:Nat)(w:World)(ha:At (d7 w) a wy)(hr:E4 p)(hw:C8 p≤1000000)(hi:i<p.procs.length)(hok:ai4 p i x y wy):
  Calls prog 99 #[.pointer (some a)] w fun e w'=>∃u,e = .returned u∧(R (d7 w') u wy.follow∧o6 w w'):=by
 refine d9 (args:=[.pointer (some a)]) hm func99 rfl (by kernel_rfl) (by show 1≤_;decide +kernel) ?_;obtain⟨_,_,_,_,_,_,ldw,sdw⟩:=ha.wy;have lw:=ldw w (i4 _);have h200:=J3 hr.may;have hlen:=hok.part.ok.len;have hle':=hok.part.ok.le;have hn:=hok.n;have hdl:=bZ5 hr hw hi hok;have hdr:=by1 hr hw hi hok;have hpr:=aP2 hok.toWyOk hdr;have hnn:wy.n=((wy.n.toNat:Nat):Int):=by omega
 have hpl:(wy.pairs wy.aug).length=wy.aug.length:=ew3 _;have hF:wy.follow=Y8 (aj2 wy.n.toNat (wy.pairs wy.aug)) (wy.n.toNat-1) (wy.n.toNat*wy.n.toNat+1) (Q5 wy.n.toNat):=rfl;have hM200:wy.n.toNat≤202:=by omega
 have hM2:2≤wy.n.toNat:=by omega
 generalize hM:wy.n.toNat=M at hF hnn hM200 hM2;have hz:z7.enc (d7 w) (Value.slice none 0 0).cells.toList E1:=⟨rfl,rfl⟩;obtain⟨vo,w1,hmk,ho1,hx1,hfr1,_⟩:=mk (P:=prog) (w:=w) (h:=d7 w) bV6 S3 (α:=Y4) (y:=E1) hz (n:=M) (by omega) (by omega) (i4 _);rw[←hnn]at hmk;have hr1:J9 (d7 w) w1 118 3 vo (List.replicate M E1) (aj2 M []):=by rw[bJ8];exact ak7 ho1
 simp only[m8,n9,simprocAttr,lw,hmk];refine y5 db8 (bY7 a wy p i x y w1 (ha.mono (b7 hx1)) hr hw hi hok) ?_;rintro ud w2 ⟨hod,hx2⟩;simp only[m8,simprocAttr];refine y5 bI1 (aj6 a wy p i x y ud _ w2 (ha.mono (b7 (hx1.trans hx2))) hok.toWyOk (hod.rw_ (b7 hx2)) hdr (by omega)) ?_;rintro uq w3 ⟨hoq,hx3⟩;have hr3:=hr1.ext (hx2.trans hx3);have hlt3:∀b,K5 vo (List.replicate M E1) b→b<w2.heap.size:=fun b hb=>(hr1.ext hx2).lt hb;generalize wy.pairs wy.aug=ps at hoq hF hpr hpl;have huq:R (B5 w3 (K5 vo (List.replicate M E1))) uq ps:=hoq.flatRN fun b hb=>D3 fun hbu=>by
  have h1:=hlt3 b hbu;have h2:=C9 (hoq.free hb);omega
 have hx03:=hx1.trans (hx2.trans hx3);have hSq:=huq.isS;have hnq:=huq.vlen;simp only[m8,n9,simprocAttr,hSq,hnq];refine n8 [0,3,20,21] (σ:=Nat×List Y4) (fun s f w'=>f 22 = .int .i64 s.1∧s.1≤ps.length∧J9 (d7 w) w' 118 3 vo s.2 (aj2 M (ps.take s.1))∧o9 (K5 vo (List.replicate M E1)) w3 w'∧(∀b,K5 vo s.2 b→K5 vo (List.replicate M E1) b∨w3.heap.size≤b)) (fun s=>ps.length-s.1) (0,List.replicate M E1) (by decide +kernel) ?_ ?_
 ·simp only[p6,simprocAttr];exact⟨by trivial,ew4 _,by simpa using hr3,o9.refl _,fun b hb=>.inl hb⟩
 rintro⟨k,us⟩ f w4 hk ⟨h22,hkl,hr4,hm4,hmv4⟩;simp only at h22 hkl hr4 hmv4;simp only[ev4,p6,simprocAttr]at hk;obtain⟨e0,e3,e20,e21,_⟩:=hk;have hx04:o6 w w4:=o9.ext_of hx03 hm4 fun b hb=>C9 (hr3.free hb);simp only[m8,n9,simprocAttr,h22,e21];refine i5 (fun hc=>?_) (fun hc=>?_)
 ·have hlt:k<ps.length:=by simpa using hc
  have hin:=huq.inS hlt;have hld:=cy6 huq (D2 hm4) (ev2 hlt);have htk:=ew1 hlt;obtain⟨hq1,hq2⟩:=hpr _ (ew2 hlt);generalize ps[k]=t at hld htk hq1 hq2;obtain⟨z1,z2⟩:=t;simp only at hq1 hq2 hld;obtain⟨Q,rfl⟩:∃Q:Nat,z1=(Q:Int):=⟨z1.toNat,by omega⟩;have hQ:Q<M:=by omega
  obtain⟨c,wz,w5,hal,hst5,hx5,hh5,hge5⟩:=cJ1 (w:=w4) (Q:Int) z2;have hr5:=hr4.ext (hx5.trans (o6.drew w5));have hul:us.length=M:=by rw[hr4.len,aO8]
  obtain⟨u,hu⟩:∃u,us[Q]?=some u:=⟨us[Q]'(by omega),ev2 (by omega)⟩;have hrow:=hr5.row Q u _ hu (bJ7 _ hQ);have hrl:=aw1 (ps.take k) Q;rw[ew6]at hrl;have hcw:¬A3 u.v c:=fun hb=>by
   have:=hr4.lt (.inr ⟨u,ex2 hu,hb⟩);omega
  have hcd:w5.drew.heap[c]?=some (.cells #[.int .i64 (Q:Int),.int .i64 z2] 74 (0,0)):=hh5;have t0:∀K f d w0,B8 prog (fun w'=>o9 (A3 u.v) w5.drew w') (Instr.loadAt 3 (.pointer (some ⟨c,0,none⟩))) K f d w0=K (A5 f d (.int .i64 (Q:Int))) w0:=fun K f d w0=>A0 (w0:=w5.drew) (o9.refl _) fun w' h=>(aj4 hcd h hcw).1;have t1:∀K f d w0,B8 prog (fun w'=>o9 (A3 u.v) w5.drew w') (Instr.loadAt 3 (.pointer (some ⟨c,1,none⟩))) K f d w0=K (A5 f d (.int .i64 z2)) w0:=fun K f d w0=>A0 (w0:=w5.drew) (o9.refl _) fun w' h=>(aj4 hcd h hcw).2;have t2:∀K f d w0,B8 prog (fun w'=>o9 (A3 u.v) w5.drew w') (Instr.loadAt 118 (.pointer (some (H4 vo Q)))) K f d w0=K (A5 f d u.v) w0:=fun K f d w0=>A0 (w0:=w5.drew) (o9.refl _) fun w' h=>bk1 (hr5.outer.mod h fun b hb hb2=>hr5.off Q u hu b hb2 hb) hu O6;have hinr:=hr5.outer.inS (k:=Q) (by omega);have hx05:=hx04.trans (hx5.trans (o6.drew w5));obtain⟨p1,u6,w6,p2,p3,p4,p5⟩:=push (e:=118) ad0 rfl hrow (x:=.int .i64 z2) (y:=z2) rfl (by omega) (by omega) (b7 hx05);simp only[Value.cells]at p1 p2;obtain⟨w7,s1,hr7,hm7,_⟩:=hr5.put (P:=prog) (t:=118) hu p4 p3 p5 (t8 S3).choose_spec.1 (by rw[←C7 (t8 S3).choose_spec.1];exact aD4);simp only[m8,n9,p9,simprocAttr,h22,e20,hin,hld,hal,hst5];refine C2 (fun w'=>o9 (A3 u.v) w5.drew w') 12 (A8 [0,1,2,3,4,5,6,7,8,9,10,11]) (by decide +kernel) (o9.refl _) ?_;simp only[D5,A8,m8,n9,p9,simprocAttr,e3,t0,t1,t2,hinr,p1,p2,F7];refine⟨o9.up (o6.alloc _ _),p4,?_⟩;simp only[m8,n9,simprocAttr,s1,h22];have hrb:∀b,A3 u.v b→K5 vo us b:=fun b hb=>.inr ⟨u,ex2 hu,hb⟩;have hsz3:w3.heap.size≤w5.drew.heap.size:=ew0 hm4.size ((hx5.trans (o6.drew w5)).size);refine⟨(k+1,us.set Q ⟨u6⟩),by simp only[];omega,by simp only[];rw[B1 k (by omega)],by simp only[];omega,?_,?_,fun b hb=>?_⟩
  ·simp only[];rw[htk,bu6 _ hQ];exact hr7
  ·refine(hm4.chain (o9.up (M:=fun _=>False) (hx5.trans (o6.drew w5))) fun _ _ h=>h.elim).chain (o9.trans (M:=fun b=>A3 u.v b∨A3 vo b) (p4.weaken fun b _ h=>.inl h) (hm7.weaken fun b _ h=>.inr h)) (fun b hb h=>?_);rcases h with h|h
   ·exact(hmv4 b (hrb b h)).resolve_right (by omega)
   ·exact .inl h
  ·rcases bK9 hb with h|h
   ·exact hmv4 b h
   ·rcases p5 b h with h|h
    ·exact hmv4 b (hrb b h)
    ·exact .inr (by omega)
 have hge:k=ps.length:=by simp at hc;omega
 subst hge;rw[ew5]at hr4;have hnx:=hr4.ro (b7 hx04);have hxk:∀a∈aj2 M ps,∀b∈a,0≤b∧b<(M:Int):=fun a ha b hb=>by
  obtain⟨t,ht,rfl⟩:=(aO9 ha).2 b hb;have:=(hpr t ht).2;omega
 have hnl:∀a∈aj2 M ps,a.length≤2000000:=fun a ha=>by have:=(aO9 ha).1;omega
 have hnxl:=aO8 M ps;generalize aj2 M ps=nx at hnx hxk hnl hnxl hF;clear hr4 hm4 hmv4 huq hoq hr3 hr1 ho1 hmk hod hlt3 hx3 hx2 hx1 hpr hpl hdr hdl;clear lw hkl hSq hnq hfr1;have lw:=ldw w4 (b7 hx04);have hz4:z7.enc (d7 w4) (Value.slice none 0 0).cells.toList E1:=⟨rfl,rfl⟩;obtain⟨vf,w5,hmk,ho5,hx5,_,_⟩:=mk (P:=prog) (w:=w4) (h:=d7 w4) cY7 aW0 (α:=Y4) (y:=E1) hz4 (n:=M) (by omega) (by omega) (i4 _);rw[←hnn]at hmk;have hr5:=ak7 (α:=Bool) (T':=4) ho5;have hSf:=ho5.isS;have hnf:vlen vf=M:=by rw[ho5.vlen,eA1]
 simp only[m8,n9,simprocAttr,e0,lw,hmk,hSf,hnf];obtain⟨ib,hib,hib1⟩:=aR2 (P:=prog) S7 aD5;obtain⟨ibb,hibb,hibb1⟩:=aR2 (P:=prog) aW0 bD0;have hfl:(Q5 M).length=M:=(ae2 M).len;refine n8 [0,3,6,46] (σ:=Nat×List Y4) (fun s f w'=>f 47 = .int .i64 s.1∧s.1≤M∧J9 (d7 w4) w' 151 4 vf s.2 ((Q5 M).take s.1++List.replicate (M-s.1) [])∧o6 w4 w') (fun s=>M-s.1) (0,List.replicate M E1) (by decide +kernel) ?_ ?_
 ·simp only[p6,simprocAttr];exact⟨by trivial,ew4 _,by simpa using hr5,hx5⟩
 rintro⟨k2,us2⟩ f2 w6 hk ⟨h47,hk2,hr6,hx6⟩;simp only at h47 hk2 hr6;simp only[ev4,p6,simprocAttr]at hk;obtain⟨g0,g3,g6,g46,_⟩:=hk;rw[e0]at g0;rw[e3]at g3;have lw6:=ldw w6 (b7 (hx04.trans hx6));simp only[m8,n9,simprocAttr,h47,g46];refine i5 (fun hc2=>?_) (fun hc2=>?_)
 ·have hlt:k2<M:=by simpa using hc2
  obtain⟨vr,w7,hmk2,hor,hx7,hfr7,_⟩:=mk (P:=prog) (w:=w6) (h:=d7 w4) (α:=Bool) bp9 S7 (y:=false) rfl (n:=M) (by omega) (by omega) (b7 hx6);rw[←hnn]at hmk2;have hul:us2.length=M:=by rw[hr6.len,ev5,ew6,eA1];omega
  obtain⟨u,hu⟩:∃u,us2[k2]?=some u:=⟨us2[k2]'(by omega),ev2 (by omega)⟩;have hin:=hr6.outer.inS (k:=k2) (by omega);obtain⟨w8,s1,hr8,hm8,_⟩:=hr6.put (P:=prog) (t:=151) hu (o9.up hx7) hor (fun b hb=>.inr (hfr7 b hb)) hibb hibb1;have hx8:o6 w4 w8:=(hr6.outer.ext hx7).ext2 (hx6.trans hx7) hm8;have hsr:(us2.set k2 ⟨vr⟩)[k2]?=some ⟨vr⟩:=eB3 (by omega);have hldr:=bk1 (P:=prog) (t:=151) hr8.outer hsr af0;have hSr:=hor.isS;have hnr:vlen vr=M:=by rw[hor.vlen,eA1]
  obtain⟨rk,hrk⟩:∃r,(Q5 M)[k2]?=some r:=⟨_,ev2 (by omega)⟩;have hrl:rk.length=M:=(ae2 M).row rk (ex2 hrk);have hrat:∀b (hb:b<M),rk[b]?=some (decide (k2+1<M)||decide (k2=b)):=fun b hb=>by
   have:=bg8 hlt hb;unfold mAt at this;rw[List.getD,List.getD,hrk,eA9,ev2 (by omega)]at this;rw[ev2 (by omega)];exact ex0 some this
  have hnext:=af7 (d:=([]:List Bool)) hfl hlt hrk;have hXl:((Q5 M).take k2++List.replicate (M-k2) ([]:List Bool)).length=M:=by rw[ev5,ew6,eA1];omega
  generalize(Q5 M).take k2++List.replicate (M-k2) ([]:List Bool)=X at hr6 hr8 hnext hXl;generalize hU:us2.set k2 ⟨vr⟩=U at hr8 hsr;simp only[m8,n9,p9,simprocAttr,h47,g0,g6,lw6,hmk2,hin,s1,hldr,hSr,hnr];refine n8 [0,3,6,7,46,47,62] (σ:=Nat) (fun b f w'=>f 63 = .int .i64 b∧b≤M∧J9 (d7 w4) w' 151 4 vf U (X.set k2 (rk.take b++List.replicate (M-b) false))∧o6 w4 w') (fun b=>M-b) 0 (by decide +kernel) ?_ ?_
  ·simp only[p6,simprocAttr];exact⟨by trivial,ew4 _,by simpa using hr8,hx8⟩
  rintro b f3 w9 hk ⟨h63,hbl,hr9,hx9⟩;simp only[ev4,p6,simprocAttr]at hk;obtain⟨q0,q3,q6,q7,q46,q47,q62,_⟩:=hk;rw[g0]at q0;rw[g3]at q3;rw[g6]at q6;rw[h47]at q47;rw[g46]at q46;simp only[m8,n9,simprocAttr,h63,q62];refine i5 (fun hc3=>?_) (fun hc3=>?_);rotate_left
  ·have hge:b=M:=by simp at hc3;omega
   subst hge;rw[Nat.sub_self,List.replicate_zero,ey6,←hrl,ew5,hnext]at hr9;simp only[m8,n9,simprocAttr,q47];refine⟨(k2+1,U),by simp only[];omega,by simp only[];rw[B1 k2 (by omega)],by simp only[];omega,hr9,hx9⟩
  have hlt3:b<M:=by simpa using hc3
  have hnb:=af7 (d:=false) hrl hlt3 (hrat b hlt3);have hRl:(rk.take b++List.replicate (M-b) false).length=M:=by rw[ev5,ew6,eA1];omega
  generalize rk.take b++List.replicate (M-b) false=r at hr9 hnb hRl;have hrow:=(hr9.ext (o6.drew w9)).row k2 _ r hsr (eB3 (by omega));simp only at hrow;have hinb:=hrow.inS (k:=b) (by omega);have hwn:IntKind.i64.wrap (wy.n-1)=((M-1:Nat):Int):=by rw[K1 _ (by omega)];omega
  have sw:=sdw (fun w'=>o6 w9.drew w') w9.drew (o9.refl _) fun w' h=>b7 (hx04.trans (hx9.trans ((o6.drew w9).trans h)));have tr:∀K f d w0,B8 prog (fun w'=>o6 w9.drew w') (Instr.loadAt 151 (.pointer (some (H4 vf k2)))) K f d w0=K (A5 f d vr) w0:=fun K f d w0=>A0 (w0:=w9.drew) (o9.refl _) fun w' h=>bk1 (hr9.outer.ext ((o6.drew w9).trans h)) hsr af0;have hin9:=hr9.outer.inS (k:=k2) (ev8.1 hsr).1;have hV:(decide (k2+1<M)||decide (k2=b))=(decide ((k2:Int)<((M-1:Nat):Int))||decide ((k2:Int)=(b:Int))):=by
   congr 1
   ·rw[ez8];omega
   ·rw[ez8];omega
  rw[hV]at hnb;have hst:=fun V:Bool=>D9 (P:=prog) (t:=4) hrow rfl (k:=b) (by omega) (x:=.bool V) (y:=V) rfl rfl hib hib1;rcases ev3 (decide ((k2:Int)<((M-1:Nat):Int)))with hq|hq
  ·rw[hq,eG9]at hnb;obtain⟨w10,s2,ho10,hm10,_⟩:=hst true;have hr10:=(hr9.ext (o6.drew w9)).write hsr hm10 ho10;rw[List.set_set,hnb]at hr10;have hx10:o6 w4 w10:=hrow.ext2 (hx9.trans (o6.drew w9)) hm10;simp only[m8,simprocAttr,h63];refine C2 (fun w'=>o6 w9.drew w') 17 (A8 [0,1,2,3,4,5,6,7,8,9,10,11,12,13,14,15,16]) (by decide +kernel) (o9.refl _) ?_;simp only[D5,A8,m8,n9,p9,simprocAttr,q0,q6,q7,sw,tr,hin9,hwn,hq];simp only[m8,n9,simprocAttr,hinb,s2,h63];refine⟨b+1,by omega,by rw[B1 b (by omega)],by omega,hr10,hx10⟩
  ·rw[hq,eI5]at hnb;obtain⟨w10,s2,ho10,hm10,_⟩:=hst (decide ((k2:Int)=(b:Int)));have hr10:=(hr9.ext (o6.drew w9)).write hsr hm10 ho10;rw[List.set_set,hnb]at hr10;have hx10:o6 w4 w10:=hrow.ext2 (hx9.trans (o6.drew w9)) hm10;simp only[m8,simprocAttr,h63];refine C2 (fun w'=>o6 w9.drew w') 17 (A8 [0,1,2,3,4,5,6,7,8,9,10,11,12,13,14,15,16]) (by decide +kernel) (o9.refl _) ?_;simp only[D5,A8,m8,n9,p9,simprocAttr,q0,q6,q7,sw,tr,hin9,hwn,hq];simp only[m8,n9,simprocAttr,hinb,s2,h63];refine⟨b+1,by omega,by rw[B1 b (by omega)],by omega,hr10,hx10⟩
 have hge2:k2=M:=by simp at hc2;omega
 subst hge2;rw[Nat.sub_self,List.replicate_zero,ey6]at hr6;rw[ez7 (by rw[hfl];exact ew8 _)]at hr6;have hr0:=hr6;have hx0:=hx6;generalize us2=us0 at hr0;simp only[m8,simprocAttr];refine n8 [0,3,6] (σ:=(Nat×List Y4)×(List (List Bool)×Bool)) (fun s f w'=>f 9 = .bool s.2.2∧J9 (d7 w4) w' 151 4 vf s.1.2 s.2.1∧o6 w4 w'∧s.2.1=Y8 nx (k2-1) s.1.1 (Q5 k2)∧SqM k2 s.2.1∧cp2 k2 nx s.2.1∧aS8 s.2.1+s.1.1≤k2*k2∧(s.2.2=false→M2 nx s.2.1 (k2-1)=s.2.1)) (fun s=>if s.2.2 then aS8 s.2.1+1 else 0) ((0,us0),(Q5 k2,true)) (by decide +kernel) ?_ ?_
 ·simp only[p6,simprocAttr];refine⟨by trivial,hr0,hx0,rfl,ae2 _,bG8 _ _,?_,fun h=>by cases h⟩;have:=ca7 k2 (Q5 k2) (ae2 k2).row;rw[hfl]at this;simpa using this
 rintro⟨⟨K,us7⟩,fm,tu⟩ f7 w7 hk ⟨h9,hr7,hx7,hfm,hsq,hdec,hcn,hfix⟩;simp only at h9 hr7 hfm hsq hdec hcn hfix;simp only[ev4,p6,simprocAttr]at hk;obtain⟨j0,j3,j6,_⟩:=hk;rw[g0]at j0;rw[g3]at j3;rw[g6]at j6;have lw7:=ldw w7 (b7 (hx04.trans hx7));simp only[m8,simprocAttr,h9];refine i5 (fun ht=>?_) (fun ht=>?_);rotate_left
 ·have hfx:=hfix ht;have hres:wy.follow=fm:=by
   rw[hF,show k2*k2+1=K+(k2*k2+1-K) by omega,aB6,←hfm,aN6 hfx]
  simp only[m8,simprocAttr,j6];refine n7 results99 ?_;simp only[p6,simprocAttr];exact⟨by rw[hres];exact hr7.ro (b7 hx7),hx04.trans hx7⟩
 subst ht;have hw2:IntKind.i64.wrap (wy.n-2)=((k2-1:Nat):Int)-1:=by rw[K1 _ (by omega)];omega
 simp only[m8,n9,simprocAttr,j0,lw7,hw2];refine n8 [0,3,6] (σ:=(Nat×List Y4)×(List (List Bool)×Bool)) (fun s f w'=>f 10 = .int .i64 ((s.1.1:Int)-1)∧s.1.1+1≤k2∧f 9 = .bool s.2.2∧J9 (d7 w4) w' 151 4 vf s.1.2 s.2.1∧o6 w4 w'∧M2 nx s.2.1 s.1.1=M2 nx fm (k2-1)∧SqM k2 s.2.1∧cp2 k2 nx s.2.1∧(s.2.2=false→s.2.1=fm)∧(s.2.2=true→aS8 s.2.1<aS8 fm)) (fun s=>s.1.1) ((k2-1,us7),(fm,false)) (by decide +kernel) ?_ ?_
 ·simp only[p6,simprocAttr];exact⟨by trivial,by omega,by trivial,hr7,hx7,by trivial,hsq,hdec,fun _=>by trivial,fun h=>by cases h⟩
 rintro⟨⟨J,us8⟩,gm,tv⟩ f8 w8 hk ⟨h10,hJ,h9',hr8,hx8,hrd,hsq8,hdec8,hf8,ht8⟩;simp only at h10 hJ h9' hr8 hrd hsq8 hdec8 hf8 ht8;simp only[ev4,p6,simprocAttr]at hk;obtain⟨m0,m3,m6,_⟩:=hk;rw[j0]at m0;rw[j3]at m3;rw[j6]at m6;simp only[m8,n9,simprocAttr,h10];refine i5 (fun hc4=>?_) (fun hc4=>?_);rotate_left
 ·have hJ0:J=0:=by simp at hc4;omega
  subst hJ0;have hrd':gm=M2 nx fm (k2-1):=hrd;cases tv with
  | false=>
   have e:=hf8 rfl;have hfx:M2 nx fm (k2-1)=fm:=by rw[←hrd'];exact e
   simp only[m8,n9,simprocAttr];refine⟨((K,us8),gm,false),by simp,h9',hr8,hx8,by rw[e];exact hfm,hsq8,hdec8,by rw[e];exact hcn,fun _=>?_⟩;simp only[];rw[e];exact hfx
  | true=>
   have e:=ht8 rfl;simp only[m8,n9,simprocAttr];refine⟨((K+1,us8),gm,true),by simp;omega,h9',hr8,hx8,?_,hsq8,hdec8,by simp only[];omega,fun h=>by cases h⟩;simp only[];rw[aB6,←hfm,hrd'];rfl
 obtain⟨j,rfl⟩:∃j,J=j+1:=⟨J-1,by simp at hc4;omega⟩;have hj:j+1<k2:=hJ;have hcast:((j+1:Nat):Int)-1=(j:Int):=by omega
 rw[hcast]at h10;obtain⟨un,hun,hcn8⟩:=R.row hnx (show nx[j]?=some (nx.getD j []) by rw[List.getD,ev2 (by omega)];rfl);have hnj:nx.getD j []∈nx:=by rw[List.getD,ev2 (by omega)];exact ew2 _
 have hinn:=hnx.inS (k:=j) (by omega);have hldn:=G4 (P:=prog) (t:=118) hcn8 (b7 hx8) O6;simp only[m8,n9,p9,simprocAttr,hcast,h10,m3,m6,hinn,hldn];refine y5 ef2 (bV4 vf un k2 gm (nx.getD j []) w8 (hr8.ro (b7 hx8)) (z7.mono (b7 hx8) hun) hsq8 (hxk _ hnj) (by omega) (by have:=hnl _ hnj;omega)) ?_;rintro ul w9 ⟨hol,hx9⟩;have hinl:=hol.inS (k:=j) (by rw[ab2,hsq8.len];omega);obtain⟨w10,s1,hol10,hm10,_⟩:=D9 (P:=prog) (t:=4) hol rfl (k:=j) (by rw[ab2,hsq8.len];omega) (x:=.bool true) (y:=true) rfl rfl hib hib1;have hnew:(W4 gm (nx.getD j [])).set j true=U9 nx gm j:=rfl;rw[hnew]at hol10;have hx10:o6 w8 w10:=hol.ext2 hx9 hm10;have hx410:=hx8.trans hx10;have hr10:=hr8.ext hx10;have hR10:=hr10.ro (b7 hx410);obtain⟨hg,hgl⟩:=hsq8.get (a:=j) (by omega);obtain⟨ur,hur,hcr⟩:=R.row hR10 hg;have hldr:=G4 (P:=prog) (t:=151) hcr (i4 _) af0;have hinf:=hR10.inS (k:=j) (by rw[hsq8.len];omega);simp only[m8,n9,p9,simprocAttr,hinl,s1,h10,m6,hinf,hldr];refine y5 ef3 (bR5 ul ur (U9 nx gm j) (gm.getD j []) w10 (hol10.rw_ (b7 hx10)) hur (by rw[aw6,hsq8.len];omega) (by rw[hgl];omega)) ?_;rintro _ w11 ⟨rfl,hx11⟩;obtain⟨st1,st2,st3,st4⟩:=bW3 hsq8 hdec8 hj;have hrnd:M2 nx gm (j+1)=M2 nx (P9 nx gm j) j:=rfl;rw[hrnd]at hrd;have hwj:IntKind.i64.wrap ((j:Int)-1)=(j:Int)-1:=K1 _ (by omega);rcases ev3 (decide (U9 nx gm j=gm.getD j []))with he|he
 ·have hse:=st3 (ev6 he);rw[hse]at hrd;simp only[m8,n9,simprocAttr,he,h10,hwj];refine⟨((j,us8),gm,tv),by simp,by trivial,by simp only[];omega,h9',hr10.ext hx11,hx410.trans hx11,hrd,hsq8,hdec8,hf8,ht8⟩
 ·have hlt8:=st4 (ev7 he);have hul8:us8.length=k2:=by rw[hr8.len,hsq8.len]
  obtain⟨u8,hu8⟩:∃u,us8[j]?=some u:=⟨us8[j]'(by omega),ev2 (by omega)⟩;obtain⟨w12,s2,hr12,hm12,_⟩:=hr8.put (P:=prog) (t:=151) hu8 (o9.up (hx10.trans hx11)) ((hol10.ext hx11).back hx8) (fun b hb=>.inr (C9 (hol10.free hb))) hibb hibb1;have hino:=hr8.outer.inS (k:=j) (by omega);simp only[m8,n9,p9,simprocAttr,he,m6,hino,s2,h10,hwj];refine⟨((j,us8.set j ⟨ul⟩),P9 nx gm j,true),by simp,by trivial,by simp only[];omega,by trivial,hr12,(hr8.outer.ext (hx10.trans hx11)).ext2 (hx410.trans hx11) hm12,hrd,st1,st2,(fun h=>by cases h),fun _=>?_⟩;simp only[];cases tv with
  | false=>rw[hf8 rfl]at hlt8 ⊢;exact hlt8
  | true=>have:=ht8 rfl;omega
theorem et3:af6 prog 99=true:=by kernel_rfl
theorem bo7{n:Nat}{next:List (List Int)}{f:List (List Bool)}(hs:SqM n f)(a:Nat):SqM n (P9 next f a):=by
 have e:P9 next f a=f.set a (U9 next f a):=rfl
 rw[e];refine⟨by rw[eC2,hs.len],fun r hr=>?_⟩;rcases eD1 hr with h|h
 ·exact hs.row r h
 ·rw[h,aw6,hs.len]
theorem aB7{n:Nat}{next:List (List Int)}:∀(m:Nat) {f:List (List Bool)},SqM n f→SqM n (M2 next f m)
 | 0,_,h=>h
 | m+1,_,h=>aB7 m (bo7 h m)
theorem bg9{n:Nat}{next:List (List Int)}{m:Nat}:∀(k:Nat) {f:List (List Bool)},SqM n f→SqM n (Y8 next m k f)
 | 0,_,h=>h
 | k+1,_,h=>bg9 k (aB7 m h)
theorem ck3(wy:Wy):SqM wy.n.toNat wy.follow:=by
 unfold Wy.follow;exact bg9 _ (ae2 _)
def ad4(f:List (List Bool))(M:Nat)(l:List (Int×Int))(a b:Nat):Bool:=decide (1≤b)&&decide (b+1<M)&&l.any fun t=>decide (t.1=(a:Int))&&(mAt f t.2.toNat b&&(decide (a=b) || !mAt f a b))
theorem ci9(f:List (List Bool))(M:Nat)(l:List (Int×Int))(t:Int×Int)(a b:Nat):ad4 f M (l++[t]) a b=(ad4 f M l a b||(decide (1≤b)&&decide (b+1<M)&&decide (t.1=(a:Int))&&(mAt f t.2.toNat b&&(decide (a=b) || !mAt f a b)))):=by
 unfold ad4;rw[List.any_append];cases decide (1≤b)<;>cases decide (b+1<M)<;>simp
theorem aK2{wy:Wy}{M:Nat}(hM:wy.n=(M:Int)):wy.decides=(List.range M).flatMap fun a=>((List.range M).filter fun b=>ad4 wy.follow M (wy.pairs wy.aug) a b).map fun(b:Nat)=>(wy.place (a:Int),wy.place (b:Int)):=by
 unfold Wy.decides;simp only[];rw[hM,ex8]
 congr 1
 funext a
 congr 1
 refine List.filter_congr fun b hb=>?_;unfold ad4;have h1:decide ((b:Int)<(M:Int)-1)=decide (b+1<M):=by rw[ez8];omega
 rw[h1];refine ex0 (fun g=>decide (1≤b)&&decide (b+1<M)&&(wy.pairs wy.aug).any g) (funext fun t=>?_);unfold atB mAt;rw[ex8,Bool.and_assoc]
theorem bz8{α:Type}{l:List α}{k:Nat}{d x:α}(h:l[k]?=some x):l.getD k d=x:=by rw[List.getD,h];rfl
theorem bD7(a:Addr)(wy:Wy)(p:Pg)(i x y:Nat)(w:World)(ha:At (d7 w) a wy)(hr:E4 p)(hw:C8 p≤1000000)(hi:i<p.procs.length)(hok:ai4 p i x y wy):
  Calls prog 53 #[.pointer (some a)] w fun e w'=>∃u,e = .returned u∧(A9 (d7 w) w' 74 u wy.decides∧o6 w w'):=by
 refine d9 (args:=[.pointer (some a)]) hm func53 rfl (by kernel_rfl) (by show 1≤_;decide +kernel) ?_;obtain⟨_,_,_,_,_,_,ldw,sdw⟩:=ha.wy;have h200:=J3 hr.may;have hlen:=hok.part.ok.len;have hle':=hok.part.ok.le;have hn:=hok.n;have hdl:=bZ5 hr hw hi hok;have hdr:=by1 hr hw hi hok;have hpr:=aP2 hok.toWyOk hdr;have hpl:(wy.pairs wy.aug).length=wy.aug.length:=ew3 _;have hnn:wy.n=((wy.n.toNat:Nat):Int):=by omega
 have hfsq:=ck3 wy;have hM200:wy.n.toNat≤202:=by omega
 have hM2:2≤wy.n.toNat:=by omega
 generalize hM:wy.n.toNat=M at hnn hM200 hM2 hfsq;have hF:=aK2 hnn;simp only[m8,n9,simprocAttr];refine y5 et3 (bP3 a wy p i x y w ha hr hw hi hok) ?_;rintro vf w1 ⟨hvf,hx1⟩;generalize wy.follow=fm at hvf hF hfsq;have lw1:=ldw w1 (b7 hx1);have hz:z7.enc (d7 w1) (Value.slice none 0 0).cells.toList E1:=⟨rfl,rfl⟩;obtain⟨vo,w2,hmk,ho2,hx2,_,_⟩:=mk (P:=prog) (w:=w1) (h:=d7 w1) cY7 aW0 (α:=Y4) (y:=E1) hz (n:=M) (by omega) (by omega) (i4 _);rw[←hnn]at hmk;have hr2:=ak7 (α:=Bool) (T':=4) ho2;have hSo:=ho2.isS;have hno:vlen vo=M:=by rw[ho2.vlen,eA1]
 obtain⟨ib,hib,hib1⟩:=aR2 (P:=prog) S7 aD5;obtain⟨ibb,hibb,hibb1⟩:=aR2 (P:=prog) aW0 bD0;have hzl:(List.replicate M (List.replicate M false)).length=M:=eA1;simp only[m8,n9,simprocAttr,lw1,hmk,hSo,hno];refine n8 [0,3,4,21] (σ:=Nat×List Y4) (fun s f w'=>f 22 = .int .i64 s.1∧s.1≤M∧J9 (d7 w1) w' 151 4 vo s.2 ((List.replicate M (List.replicate M false)).take s.1++List.replicate (M-s.1) [])∧o6 w1 w') (fun s=>M-s.1) (0,List.replicate M E1) (by decide +kernel) ?_ ?_
 ·simp only[p6,simprocAttr];exact⟨by trivial,ew4 _,by simpa using hr2,hx2⟩
 rintro⟨k,us⟩ f w3 hk ⟨h22,hkl,hr3,hx3⟩;simp only at h22 hkl hr3;simp only[ev4,p6,simprocAttr]at hk;obtain⟨e0,e3,e4,e21,_⟩:=hk;have lw3:=ldw w3 (b7 (hx1.trans hx3));simp only[m8,n9,simprocAttr,h22,e21];refine i5 (fun hc=>?_) (fun hc=>?_)
 ·have hlt:k<M:=by simpa using hc
  obtain⟨vr,w4,hmk2,hor,hx4,hfr4,_⟩:=mk (P:=prog) (w:=w3) (h:=d7 w1) (α:=Bool) bp9 S7 (y:=false) rfl (n:=M) (by omega) (by omega) (b7 hx3);rw[←hnn]at hmk2;have hul:us.length=M:=by rw[hr3.len,ev5,ew6,eA1,eA1];omega
  obtain⟨u,hu⟩:∃u,us[k]?=some u:=⟨us[k]'(by omega),ev2 (by omega)⟩;have hin:=hr3.outer.inS (k:=k) (by omega);obtain⟨w5,s1,hr5,hm5,_⟩:=hr3.put (P:=prog) (t:=151) hu (o9.up hx4) hor (fun b hb=>.inr (hfr4 b hb)) hibb hibb1;rw[af7 (d:=([]:List Bool)) hzl hlt (by rw[eF3,if_pos hlt])]at hr5;simp only[m8,n9,p9,simprocAttr,h22,e0,e4,lw3,hmk2,hin,s1];refine⟨(k+1,us.set k ⟨vr⟩),by simp only[];omega,by simp only[];rw[B1 k (by omega)],by simp only[];omega,hr5,(hr3.outer.ext hx4).ext2 (hx3.trans hx4) hm5⟩
 have hge:k=M:=by simp at hc;omega
 subst hge;rw[Nat.sub_self,List.replicate_zero,ey6,ez7 (by rw[hzl];exact ew8 _)]at hr3;simp only[m8,simprocAttr,e0];refine y5 db8 (bY7 a wy p i x y w3 (ha.mono (b7 (hx1.trans hx3))) hr hw hi hok) ?_;rintro ud w4 ⟨hod,hx4⟩;simp only[m8,simprocAttr];refine y5 bI1 (aj6 a wy p i x y ud _ w4 (ha.mono (b7 (hx1.trans (hx3.trans hx4)))) hok.toWyOk (hod.rw_ (b7 hx4)) hdr (by omega)) ?_;rintro uq w5 ⟨hoq,hx5⟩;have hr5:=hr3.ext (hx4.trans hx5);generalize wy.pairs wy.aug=ps at hoq hF hpr hpl;have hx15:=hx3.trans (hx4.trans hx5);have huq:R (B5 w5 (K5 vo us)) uq ps:=hoq.flatRN fun b hb=>D3 fun hbu=>by
  have h1:=(hr3.ext hx4).lt hbu;have h2:=C9 (hoq.free hb);omega
 have hrfree:∀b,K5 vo us b→d7 w1 b=none:=fun b hb=>hr5.free hb;have hul:us.length=k:=by rw[hr5.len,eA1]
 have hSq:=huq.isS;have hnq:=huq.vlen;have hat0:∀A B,A<k→B<k→mAt (List.replicate k (List.replicate k false)) A B=ad4 fm k [] A B:=fun A B hA hB=>by
  unfold mAt ad4;rw[bz8 (show(List.replicate k (List.replicate k false))[A]?=some (List.replicate k false) by rw[eF3,if_pos hA]),bz8 (show(List.replicate k false)[B]?=some false by rw[eF3,if_pos hB])];simp
 have hsq0:SqM k (List.replicate k (List.replicate k false)):=⟨eA1,fun r hr=>by rw[eB1 hr,eA1]⟩;simp only[m8,n9,simprocAttr,hSq,hnq];refine n8 [0,3,4,37,38] (σ:=Nat×List (List Bool)) (fun s f w'=>f 39 = .int .i64 s.1∧s.1≤ps.length∧J9 (d7 w1) w' 151 4 vo us s.2∧o9 (K5 vo us) w5 w'∧SqM k s.2∧∀A B,A<k→B<k→mAt s.2 A B=ad4 fm k (ps.take s.1) A B) (fun s=>ps.length-s.1) (0,List.replicate k (List.replicate k false)) (by decide +kernel) ?_ ?_
 ·simp only[p6,simprocAttr];exact⟨by trivial,ew4 _,hr5,o9.refl _,hsq0,by simpa using hat0⟩
 rintro⟨q,X⟩ f6 w6 hk ⟨h39,hql,hr6,hm6,hsq,hat⟩;simp only at h39 hql hr6 hsq hat;simp only[ev4,p6,simprocAttr]at hk;obtain⟨g0,g3,g4,g37,g38,_⟩:=hk;rw[e0]at g0;rw[e3]at g3;rw[e4]at g4;have hx16:o6 w1 w6:=o9.ext_of hx15 hm6 fun b hb=>C9 (hrfree b hb);simp only[m8,n9,simprocAttr,h39,g38];refine i5 (fun hc2=>?_) (fun hc2=>?_)
 ·have hlt:q<ps.length:=by simpa using hc2
  have hin:=huq.inS hlt;have hld:=cy6 huq (D2 hm6) (ev2 hlt);have htk:=ew1 hlt;obtain⟨hq1,hq2⟩:=hpr _ (ew2 hlt);generalize ps[q]=t at hld htk hq1 hq2;obtain⟨z1,z2⟩:=t;simp only at hq1 hq2 hld;obtain⟨A,rfl⟩:∃Q:Nat,z1=(Q:Int):=⟨z1.toNat,by omega⟩;obtain⟨C,rfl⟩:∃Q:Nat,z2=(Q:Int):=⟨z2.toNat,by omega⟩;have hA:A<k:=by omega
  have hC:C<k:=by omega
  have hes:∀A' B,ad4 fm k (ps.take (q+1)) A' B=(ad4 fm k (ps.take q) A' B||(decide (1≤B)&&decide (B+1<k)&&decide (A=A')&&(mAt fm C B&&(decide (A'=B) || !mAt fm A' B)))):=fun A' B=>by
   rw[htk,ci9];simp only[ex8];have:decide ((A:Int)=(A':Int))=decide (A=A'):=by rw[ez8];omega
   rw[this]
  obtain⟨c,wz,w7,hal,hst7,hx7,hh7,hge7⟩:=cJ1 (w:=w6) (A:Int) (C:Int);have hr7:=hr6.ext hx7;have hcw:¬K5 vo us c:=fun hb=>by
   have:=hr6.lt hb;omega
  have hx17:=hx16.trans hx7;have hm57:o9 (K5 vo us) w5 w7:=hm6.chain (o9.up (M:=fun _=>False) hx7) fun _ _ h=>h.elim;obtain⟨hgA,hglA⟩:=hsq.get hA;obtain⟨uA,huA⟩:∃u,us[A]?=some u:=⟨us[A]'(by omega),ev2 (by omega)⟩;obtain⟨hfC,hflC⟩:=hfsq.get hC;obtain⟨hfA,hflA⟩:=hfsq.get hA;obtain⟨uC,hvC,hcC⟩:=R.row hvf hfC;obtain⟨uA2,hvA,hcA⟩:=R.row hvf hfA;have hinfC:=hvf.inS (k:=C) (by rw[hfsq.len];exact hC);have hinfA:=hvf.inS (k:=A) (by rw[hfsq.len];exact hA);have hld7:=aj4 hh7 (M:=fun _=>False) (o9.refl w7) id;have hwn:IntKind.i64.wrap (wy.n-1)=((k-1:Nat):Int):=by rw[K1 _ (by omega)];omega
  simp only[m8,n9,p9,simprocAttr,h39,g37,hin,hld,hal,hst7,hld7];refine n8 [0,3,4,7,8,37,38,39] (σ:=Nat×List Bool) (fun s f w'=>f 9 = .int .i64 s.1∧1≤s.1∧s.1+1≤k∧J9 (d7 w1) w' 151 4 vo us (X.set A s.2)∧o9 (K5 vo us) w7 w'∧s.2.length=k∧∀B,B<k→s.2.getD B false=if B<s.1 then ad4 fm k (ps.take (q+1)) A B else ad4 fm k (ps.take q) A B) (fun s=>k-s.1) (1,X.getD A []) (by decide +kernel) ?_ ?_
  ·simp only[p6,simprocAttr];refine⟨by trivial,by trivial,by omega,by rw[bL7 hgA];exact hr7,o9.refl _,hglA,fun B hB=>?_⟩;have h1:=hat A B hA hB;unfold mAt at h1;rw[h1];split
   ·next hB1=>
    have:B=0:=by omega
    subst this;rw[hes];simp
   ·rfl
  rintro⟨b,r⟩ f8 w8 hk ⟨h9,hb1,hbk,hr8,hm8,hrl,hrv⟩;simp only at h9 hb1 hbk hr8 hrl hrv;simp only[ev4,p6,simprocAttr]at hk;obtain⟨j0,j3,j4,j7,j8,j37,j38,j39,_⟩:=hk;rw[g0]at j0;rw[g3]at j3;rw[g4]at j4;rw[h39]at j39;have hx78:o6 w1 w8:=o9.ext_of hx17 hm8 fun b hb=>C9 (hrfree b hb);have lw8:=ldw w8 (b7 (hx1.trans hx78));have hld8:=aj4 hh7 hm8 hcw;have hldC:=G4 (P:=prog) (t:=151) hcC (b7 hx78) af0;have hldA:=G4 (P:=prog) (t:=151) hcA (b7 hx78) af0;simp only[m8,n9,simprocAttr,j0,h9,lw8,hwn];refine i5 (fun hc3=>?_) (fun hc3=>?_);rotate_left
  ·have hbe:b+1=k:=by simp at hc3;omega
   have hall:∀B,B<k→r.getD B false=ad4 fm k (ps.take (q+1)) A B:=fun B hB=>by
    rw[hrv B hB];split
    ·rfl
    ·rw[hes];have:decide (B+1<k)=false:=by simp;omega
     rw[this];simp
   simp only[m8,n9,simprocAttr,j39];refine⟨(q+1,X.set A r),by simp only[];omega,by simp only[];rw[B1 q (by omega)],by simp only[];omega,hr8,hm57.chain hm8 fun _ _ h=>h,⟨by rw[eC2,hsq.len],fun s hs=>?_⟩,fun A' B hA' hB=>?_⟩
   ·rcases eD1 hs with h|h
    ·exact hsq.row s h
    ·rw[h];exact hrl
   ·unfold mAt;simp only[];rw[aQ4 A' (by rw[hsq.len];exact hA)];split
    ·next hAA=>subst hAA;exact hall B hB
    ·next hAA=>
     have h1:=hat A' B hA' hB;unfold mAt at h1;rw[h1,hes];simp[hAA]
  have hlt3:b+1<k:=by
   have:=ev6 hc3;omega
  have hbk2:b<k:=by omega
  have hinC:=hvC.inS (k:=b) (by omega);have hldCb:=ldB hvC (b7 hx78) (k:=b) (by omega);have hinA:=hvA.inS (k:=b) (by omega);have hldAb:=ldB hvA (b7 hx78) (k:=b) (by omega);have hge:∀r:List Bool,∀h:b<r.length,r[b]=r.getD b false:=fun r h=>by simp[List.getD,h]
  rw[hge]at hldCb hldAb;have hmC:(fm.getD C []).getD b false=mAt fm C b:=rfl;have hmA:(fm.getD A []).getD b false=mAt fm A b:=rfl;rw[hmC]at hldCb;rw[hmA]at hldAb;have hrA:(X.set A r)[A]?=some r:=eB3 (by rw[hsq.len];exact hA);have hrow:=hr8.row A uA r huA hrA;have hrv0:=hrv b hbk2;rw[if_neg (Nat.lt_irrefl _)]at hrv0;have hesb:=hes A b;have hd1:decide (1≤b)=true:=by simpa using hb1
  have hd2:decide (b+1<k)=true:=by simpa using hlt3
  rw[hd1,hd2]at hesb;simp only[decide_true,eE6]at hesb;have hskip:(mAt fm C b&&(decide (A=b) || !mAt fm A b))=false→∀B,B<k→r.getD B false=if B<b+1 then ad4 fm k (ps.take (q+1)) A B else ad4 fm k (ps.take q) A B:=fun hf B hB=>by
   rw[hrv B hB];by_cases h1:B<b
   ·rw[if_pos h1,if_pos (by omega)]
   ·rw[if_neg h1];by_cases h2:B=b
    ·subst h2;rw[if_pos (by omega),hesb,hf,Bool.or_false]
    ·rw[if_neg (by omega)]
  have hmark:(mAt fm C b&&(decide (A=b) || !mAt fm A b))=true→∀B,B<k→(r.set b true).getD B false=if B<b+1 then ad4 fm k (ps.take (q+1)) A B else ad4 fm k (ps.take q) A B:=fun hf B hB=>by
   rw[aQ4 B (by omega)];by_cases h1:b=B
   ·subst h1;rw[if_pos rfl,if_pos (by omega),hesb,hf,eH0]
   ·rw[if_neg h1,hrv B hB];by_cases h2:B<b
    ·rw[if_pos h2,if_pos (by omega)]
    ·rw[if_neg h2,if_neg (by omega)]
  have hwb:IntKind.i64.wrap ((b:Int)+1)=((b+1:Nat):Int):=B1 b (by omega);obtain⟨w9,s1,ho9,hm9,_⟩:=D9 (P:=prog) (t:=4) hrow rfl (k:=b) (by omega) (x:=.bool true) (y:=true) rfl rfl hib hib1;have hr9:=hr8.write huA hm9 ho9;rw[List.set_set]at hr9;have hm79:o9 (K5 vo us) w7 w9:=hm8.chain hm9 fun z _ h=>.inr ⟨uA,ex2 huA,h⟩;have hldo:=bk1 (P:=prog) (t:=151) hr8.outer huA af0;have hino:=hr8.outer.inS (k:=A) (by omega);have hinb:=hrow.inS (k:=b) (by omega);have hAb:decide ((A:Int)=(b:Int))=decide (A=b):=by rw[ez8];omega
  generalize mAt fm C b=vC at hldCb hskip hmark hesb;generalize mAt fm A b=vA at hldAb hskip hmark hesb;generalize hdd:decide (A=b)=dd at hAb hskip hmark hesb;rcases ev3 vC with h1|h1<;>subst h1;rotate_left
  ·simp only[m8,n9,p9,simprocAttr,j3,j7,h9,hld8,hinfC,hldC,hinC,hldCb,hwb];refine⟨(b+1,r),by simp only[];omega,by trivial,by simp only[];omega,by simp only[];omega,hr8,hm8,hrl,hskip rfl⟩
  rcases ev3 dd with h2|h2<;>subst h2
  ·simp only[m8,n9,p9,simprocAttr,j3,j4,j7,j8,h9,hld8,hinfC,hldC,hinC,hldCb,hAb,hwb,hino,hldo,hinb,s1];refine⟨(b+1,r.set b true),by simp only[];omega,by trivial,by simp only[];omega,by simp only[];omega,hr9,hm79,by simp only[];rw[eC2];exact hrl,hmark rfl⟩
  rcases ev3 vA with h3|h3<;>subst h3
  ·simp only[m8,n9,p9,simprocAttr,j3,j7,j8,h9,hld8,hinfC,hldC,hinC,hldCb,hAb,hwb,hinfA,hldA,hinA,hldAb];refine⟨(b+1,r),by simp only[];omega,by trivial,by simp only[];omega,by simp only[];omega,hr8,hm8,hrl,hskip rfl⟩
  ·simp only[m8,n9,p9,simprocAttr,j3,j4,j7,j8,h9,hld8,hinfC,hldC,hinC,hldCb,hAb,hwb,hinfA,hldA,hinA,hldAb,hino,hldo,hinb,s1];refine⟨(b+1,r.set b true),by simp only[];omega,by trivial,by simp only[];omega,by simp only[];omega,hr9,hm79,by simp only[];rw[eC2];exact hrl,hmark rfl⟩
 have hge:q=ps.length:=by simp at hc2;omega
 subst hge;rw[ew5]at hat;have hX6:=hr6.ro (b7 hx16);have hx06:=hx1.trans hx16;have ha6:=ha.mono (b7 hx06);clear hr6 hm6 huq hoq hr5 hr3 hr2 hod;generalize hG:(fun a:Nat=>((List.range k).filter fun b=>ad4 fm k ps a b).map fun(b:Nat)=>(wy.place (a:Int),wy.place (b:Int)))=G at hF;have hGe:∀A,G A=((List.range k).filter fun b=>ad4 fm k ps A b).map fun(b:Nat)=>(wy.place (A:Int),wy.place (b:Int)):=fun A=>by rw[←hG]
 have hGl:∀A,(G A).length≤k:=fun A=>by
  rw[hGe,ew3];exact ew0 (ey2 _ _) (by simp)
 have hpre:∀A,A≤k→((List.range A).flatMap G).length≤202*202:=fun A hA=>ew0 (Q7 G k _ fun x _=>hGl x) (by rw[eA7];exact Nat.mul_le_mul (by omega) (by omega));simp only[m8,n9,simprocAttr,g4,hSo,hno];refine n8 [0,4,85] (σ:=Nat×Value) (fun s f w'=>f 86 = .int .i64 s.1∧f 10=s.2∧s.1≤k∧A9 (d7 w6) w' 74 s.2 ((List.range s.1).flatMap G)∧o6 w6 w') (fun s=>k-s.1) (0,.slice none 0 0) (by decide +kernel) ?_ ?_
 ·simp only[p6,simprocAttr];exact⟨by trivial,by trivial,ew4 _,by simpa using A9.nil _ _ _,o9.refl _⟩
 rintro⟨A,u⟩ f9 w9 hk ⟨h86,h10,hAk,ho,hx9⟩;simp only at h86 h10 hAk ho;simp only[ev4,p6,simprocAttr]at hk;obtain⟨m0,m4,m85,_⟩:=hk;rw[g0]at m0;rw[g4]at m4;simp only[m8,n9,simprocAttr,h86,m85];refine i5 (fun hc4=>?_) (fun hc4=>?_);rotate_left
 ·have hge:A=k:=by simp at hc4;omega
  subst hge;simp only[m8,simprocAttr,h10];refine n7 results53 ?_;simp only[p6,simprocAttr];exact⟨by rw[hF];exact ho.backN hx06,hx06.trans hx9⟩
 have hA:A<k:=by simpa using hc4
 obtain⟨hgA,hglA⟩:=hsq.get hA;obtain⟨uA,hvA,hcA⟩:=R.row hX6 hgA;have hldA:=G4 (P:=prog) (t:=151) hcA (b7 hx9) af0;have hinA:=hX6.inS (k:=A) (by rw[hsq.len];exact hA);have hSA:=hvA.isS;have hnA:=hvA.vlen;rw[hglA]at hnA;have hp0:=hpre A hAk;have hstepA:(List.range (A+1)).flatMap G=(List.range A).flatMap G++G A:=by rw[eG0,eI3];simp
 generalize(List.range A).flatMap G=pre at ho hp0 hstepA;simp only[m8,n9,p9,simprocAttr,h86,m4,hinA,hldA,hSA,hnA];refine n8 [0,4,11,85,86,93] (σ:=Nat×Value) (fun s f w'=>f 94 = .int .i64 s.1∧f 10=s.2∧s.1≤k∧A9 (d7 w6) w' 74 s.2 (pre++((List.range s.1).filter fun b=>ad4 fm k ps A b).map fun(b:Nat)=>(wy.place (A:Int),wy.place (b:Int)))∧o6 w6 w') (fun s=>k-s.1) (0,u) (by decide +kernel) ?_ ?_
 ·simp only[p6,simprocAttr];exact⟨by trivial,h10,ew4 _,by simpa using ho,hx9⟩
 rintro⟨b,u2⟩ f10 w10 hk ⟨h94,h10',hbk,ho2,hx10⟩;simp only at h94 h10' hbk ho2;simp only[ev4,p6,simprocAttr]at hk;obtain⟨n0,n4,n11,n85,n86,n93,_⟩:=hk;rw[m0]at n0;rw[m4]at n4;rw[m85]at n85;rw[h86]at n86;have hcnt:(((List.range b).filter fun b=>ad4 fm k ps A b).map fun(b:Nat)=>(wy.place (A:Int),wy.place (b:Int))).length≤b:=by
  rw[ew3];exact ew0 (ey2 _ _) (by simp)
 simp only[m8,n9,simprocAttr,h94,n93];refine i5 (fun hc5=>?_) (fun hc5=>?_);rotate_left
 ·have hge:b=k:=by simp at hc5;omega
  subst hge;simp only[m8,n9,simprocAttr,n86];refine⟨(A+1,u2),by simp only[];omega,by simp only[];rw[B1 A (by omega)],h10',by simp only[];omega,?_,hx10⟩;simp only[];rw[hstepA,hGe];exact ho2
 have hb:b<k:=by simpa using hc5
 have hinb:=hvA.inS (k:=b) (by omega);have hldb:=ldB hvA (b7 hx10) (k:=b) (by omega);have hge:∀r:List Bool,∀h:b<r.length,r[b]=r.getD b false:=fun r h=>by simp[List.getD,h]
 rw[hge]at hldb;have hmA:(X.getD A []).getD b false=ad4 fm k ps A b:=hat A b hA hb;rw[hmA]at hldb;have hst2:(((List.range (b+1)).filter fun b=>ad4 fm k ps A b).map fun(b:Nat)=>(wy.place (A:Int),wy.place (b:Int)))=(((List.range b).filter fun b=>ad4 fm k ps A b).map fun(b:Nat)=>(wy.place (A:Int),wy.place (b:Int)))++if ad4 fm k ps A b then[(wy.place (A:Int),wy.place (b:Int))]else[]:=by
  rw[eG0,eC6,ey5]
  congr 1
  cases h:ad4 fm k ps A b<;>simp[h]
 have hldA2:=G4 (P:=prog) (t:=151) hcA (b7 hx10) af0;generalize ad4 fm k ps A b=D at hldb hst2;rcases ev3 D with h1|h1<;>subst h1;rotate_left
 ·simp only[m8,n9,p9,simprocAttr,h94,n4,n11,hinA,hldA2,hinb,hldb];refine⟨(b+1,u2),by simp only[];omega,by simp only[];rw[B1 b (by omega)],h10',by simp only[];omega,?_,hx10⟩;simp only[];rw[hst2,if_neg (by simp),ey6];exact ho2
 ·simp only[m8,n9,p9,simprocAttr,h94,h10',n0,n4,n11,hinA,hldA2,hinb,hldb];refine B3 bh6 (aa5 a wy p i x y (A:Int) w10 (ha6.mono (b7 hx10)) hok.toWyOk (by omega)) (fun w11 hx11=>?_);simp only[m8,simprocAttr,n0];refine B3 bh6 (aa5 a wy p i x y (b:Int) w11 (ha6.mono (b7 (hx10.trans hx11))) hok.toWyOk (by omega)) (fun w12 hx12=>?_);have hx612:=hx10.trans (hx11.trans hx12);obtain⟨p1,u',w13,p2,p3,p4,p5⟩:=push (e:=72) dI8 rfl (ho2.ext (hx11.trans hx12)) (x:=.agg #[.int .i64 (wy.place (A:Int)),.int .i64 (wy.place (b:Int))]) (y:=(wy.place (A:Int),wy.place (b:Int))) (cW8 _ _) (by rw[ev5];omega) (by rw[ev5];omega) (b7 hx612);simp only[m8,n9,simprocAttr,h94,ca3,p1,p2];refine⟨(b+1,u'),by simp only[];omega,by simp only[];rw[B1 b (by omega)],by trivial,by simp only[];omega,?_,(ho2.ext (hx11.trans hx12)).ext2 hx612 p4⟩;simp only[];rw[hst2,if_pos rfl,←ex9];exact p3
def W9:A4:=ofA #[36,105,110]
def M3:A4:=ofA #[36,114,101,116]
def M7(p:Pg)(n:A4):Bool:=decide (n=W9)||p.globals.contains n
def F3{α:Type}(l:List (List α))(i:Int):List α:=l.getD i.toNat []
def db6(p:Pg)(n:A4):Pr:=p.procs.getD (S5 p.procs n).toNat bp5
def ai7(p:Pg)(outs:List (List A4))(s:St):List A4:=
 (if s.name=e0 then[]else[s.name])++(((s.args.zip (db6 p s.proc).params).filter fun x=>x.1.ref&&(F3 outs (S5 p.procs s.proc)).contains x.2.name).map fun x=>x.1.name)++(F3 outs (S5 p.procs s.proc)).filter (M7 p)
def aa7(p:Pg)(outs:List (List A4))(s:St):List A4:=
 if s.kind=1 then[s.name]else if s.kind=2 then[s.name,W9]else if s.kind=9 then[M3]else if s.kind=4 then ai7 p outs s else[]
def ai2(p:Pg)(ins:List (List A4))(s:St):List A4:=
 aa0 s.x++(if s.kind=2 then[W9]else[])++if s.kind=4 then s.args.flatMap I7++F3 ins (S5 p.procs s.proc)else[]
def G9(p:Pg)(outs:List (List A4)):List (List A4):=(b9 p).l.map fun it=>C6 (aa7 p outs it.s)
def M5(p:Pg)(ins:List (List A4)):List (List A4):=(b9 p).l.map fun it=>C6 (ai2 p ins it.s)
def V1(p:Pg)(i:Nat)(n:A4):Bool:=M7 p n||(p.procs.getD i bp5).params.contains ⟨n,true⟩
def X7(p:Pg)(defs:List (List A4))(i:Nat):List A4:=
 (((b9 p).of i).filter fun it=>(D6 (b9 p) i).lives it.s.id).flatMap fun it=>(F3 defs (it.s.id-1)).filter (V1 p i)
def E9(p:Pg)(outs:List (List A4)):List (List A4):=(List.range p.procs.length).map fun i=>C6 (X7 p (G9 p outs) i)
def cj5{α:Type}[DecidableEq α](g:α→α):Nat→α→α
 | 0,x=>x
 | k+1,x=>if g x=x then x else cj5 g k (g x)
def cz8(p:Pg):List (List A4):=List.replicate p.procs.length []
def H5(p:Pg):List (List A4):=cj5 (E9 p) 1000 (cz8 p)
def aq2(nx:List (List Int))(stop:Nat→Bool):List (List Int):=(List.range nx.length).map fun a=>if stop a then[]else nx.getD a []
def bS9(wy:Wy)(outs:List A4)(uses:List (List A4))(name:A4)(a:Nat):Bool:=
 if(a:Int)=wy.n-1 then outs.contains name else !decide (a=0)&&(F3 uses (wy.place a-1)).contains name
def aO0(wy:Wy)(uses defs:List (List A4))(name:A4)(a:Nat):Bool:=
 decide ((a:Int)=wy.n-1) || !decide (a=0)&&((F3 uses (wy.place a-1)).contains name||(F3 defs (wy.place a-1)).contains name)
def aw0(wy:Wy)(outs:List A4)(uses defs:List (List A4))(name:A4):Bool:=
 (List.range wy.n.toNat).any fun a=>bS9 wy outs uses name a&&R9 (aq2 wy.net (aO0 wy uses defs name)) 0 a
def ay3(p:Pg)(outs uses defs:List (List A4))(i:Nat):List A4:=(p.globals++[W9]).filter (aw0 (D6 (b9 p) i) (F3 outs i) uses defs)
def N6(p:Pg)(outs defs ins:List (List A4)):List (List A4):=(List.range p.procs.length).map fun i=>C6 (ay3 p outs (M5 p ins) defs i)
def X5(p:Pg):List (List A4):=cj5 (N6 p (H5 p) (G9 p (H5 p))) 1000 (cz8 p)
def J1(p:Pg):List Wy:=(List.range p.procs.length).map (D6 (b9 p))
def p7(p:Pg):Bk:=⟨b9 p,J1 p,G9 p (H5 p),M5 p (X5 p),X5 p,H5 p⟩
def ek6(s:Sh):Wy:=⟨s,0,0,[],[]⟩
def Bk.way(b:Bk)(i:Int):Wy:=b.ways.getD i.toNat (ek6 b.s)
def Bk.gives(b:Bk)(i a:Int):List A4:=
 if a=0 then C6 (F3 b.ins i++(b.s.fn i).params.map (·.name))
 else if a=(b.way i).n-1∨atB (b.way i).live a=false then[]else F3 b.defs ((b.way i).place a-1)
def Bk.takes(b:Bk)(i a:Int):List A4:=
 if a=(b.way i).n-1 then C6 (F3 b.outs i++[M3])
 else if a=0∨atB (b.way i).live a=false then[]else F3 b.uses ((b.way i).place a-1)
def Bk.givers(b:Bk)(i:Int)(n:A4):List Nat:=(List.range (b.way i).n.toNat).filter fun(a:Nat)=>(b.gives i a).contains n
def aS9(nx:List (List Int))(kill:List Nat)(a c:Nat):Bool:=(C1 nx a).any fun d=>R9 (aq2 nx fun q=>kill.contains q) d c
def fwC(x y:Fw):Int:=orF [I4 (E2 x.src) (E2 y.src),I4 (E2 x.dst) (E2 y.dst),X2 x.var y.var]
def bo8(x y:Fw):Bool:=decide (fwC x y≤0)
def Bk.nx(b:Bk)(i:Int):List (List Int):=(ag6 (b.way i).n.toNat ((b.way i).pairs (b.way i).data)).1
def Bk.flow0(b:Bk)(i:Int):List Fw:=(List.range (b.way i).n.toNat).flatMap fun(a:Nat)=>(b.gives i a).flatMap fun n=>
 ((List.range (b.way i).n.toNat).filter fun(c:Nat)=>(b.takes i c).contains n&&aS9 (b.nx i) (b.givers i n) a c).map fun(c:Nat)=>(⟨(b.way i).place a,(b.way i).place c,n⟩:Fw)
def Bk.flows(b:Bk)(i:Int):List Fw:=U2 bo8 (b.flow0 i)
def vxC(a b:Vx):Int:=orF [X2 a.proc b.proc,I4 a.kind b.kind,I4 a.id b.id,X2 a.slot b.slot]
def co4(a b:Vx):Bool:=decide (vxC a b≤0)
def egC(a b:Eg):Int:=orF [vxC a.src b.src,vxC a.dst b.dst,I4 a.kind b.kind]
def ct7(a b:Eg):Bool:=decide (egC a b≤0)
def bl6(l:List Eg):List Eg:=H9 (U2 ct7 l)
def Bk.slotsIn(b:Bk)(i:Int):List A4:=R4 (F3 b.ins i++(b.s.fn i).params.map (·.name))
def Bk.slotsOut(b:Bk)(i:Int):List A4:=R4 (F3 b.outs i++[M3])
def Bk.callOut(b:Bk)(s:St):List A4:=if s.name=e0 then(b.slotsOut (b.s.pr s.proc)).filter fun n=>!decide (n=M3)else b.slotsOut (b.s.pr s.proc)
def Bk.vert0(b:Bk)(i:Int):List Vx:=
 ([⟨(b.s.fn i).name,1,0,e0⟩]++(b.slotsIn i).map fun n=>⟨(b.s.fn i).name,3,0,n⟩)++((b.slotsOut i).map fun n=>⟨(b.s.fn i).name,4,0,n⟩) ++
 (b.s.of i).flatMap fun it=>[⟨(b.s.fn i).name,2,it.s.id,e0⟩]++if it.s.kind=4 then((b.slotsIn (b.s.pr it.s.proc)).map fun n=>⟨(b.s.fn i).name,5,it.s.id,n⟩)++(b.callOut it.s).map fun n=>⟨(b.s.fn i).name,6,it.s.id,n⟩else[]
def Bk.verts(b:Bk)(i:Int):List Vx:=U2 co4 (b.vert0 i)
def U3(a:Ar):List A4:=if a.ref then[a.name]else aa0 a.x
def Bk.callee(b:Bk)(s:St):Pr:=b.s.fn (b.s.pr s.proc)
def Bk.giver(b:Bk)(q:A4)(pl:Int)(n:A4):Vx:=
 if pl=0 then⟨q,3,0,n⟩
 else if(b.s.it pl).s.kind≠4 then⟨q,2,pl,e0⟩
 else if(b.s.it pl).s.name=n then⟨q,6,pl,M3⟩
 else match((b.s.it pl).s.args.zip (b.callee (b.s.it pl).s).params).find? fun x=>x.1.ref&&decide (x.1.name=n)with
  | some x=>⟨q,6,pl,x.2.name⟩
  | none=>⟨q,6,pl,n⟩
def Bk.takers(b:Bk)(q:A4)(pl:Int)(n:A4):List Vx:=
 if pl = -1 then[⟨q,4,0,n⟩]
 else if(b.s.it pl).s.kind≠4 then[⟨q,2,pl,e0⟩]
 else((((b.s.it pl).s.args.zip (b.callee (b.s.it pl).s).params).filter fun x=>(U3 x.1).contains n).map fun x=>⟨q,5,pl,x.2.name⟩) ++
  if(M7 b.s.p n&&(F3 b.ins (b.s.pr (b.s.it pl).s.proc)).contains n)=true then[⟨q,5,pl,n⟩]else[]
def ac0(q:A4)(d:Int×Int):Eg:=⟨if d.1=0 then⟨q,1,0,e0⟩else⟨q,2,d.1,e0⟩,⟨q,2,d.2,e0⟩,1⟩
def G5(q:A4)(v:Vx):List Eg:=
 if v.kind=3∨v.kind=4 then[⟨⟨q,1,0,e0⟩,v,1⟩]else if v.kind=5∨v.kind=6 then[⟨⟨q,2,v.id,e0⟩,v,1⟩]else[]
def Bk.edge0(b:Bk)(i:Int):List Eg:=
 (b.way i).decides.map (ac0 (b.s.fn i).name)++(b.verts i).flatMap (G5 (b.s.fn i).name) ++
 (b.flows i).flatMap fun f=>(b.takers (b.s.fn i).name f.dst f.var).map fun v=>⟨b.giver (b.s.fn i).name f.src f.var,v,2⟩
def Bk.edges(b:Bk)(i:Int):List Eg:=bl6 (b.edge0 i)
def aJ7(p:Pg)(n:A4):Option (Bk×Int):=if S0 p=true∧0≤S5 p.procs n then some (p7 p,S5 p.procs n)else none
def bm1(p:Pg)(n:A4):List A4:=match aJ7 p n with
 | some (b,i)=>b.slotsIn i
 | none=>[]
def bh0(p:Pg)(n:A4):List A4:=match aJ7 p n with
 | some (b,i)=>b.slotsOut i
 | none=>[]
def aD6(p:Pg)(n:A4):List Vx:=match aJ7 p n with
 | some (b,i)=>b.verts i
 | none=>[]
def am2(p:Pg)(n:A4):List Eg:=match aJ7 p n with
 | some (b,i)=>b.edges i
 | none=>[]
def F6{α:Type}(g:α→α):Nat→α→α
 | 0,x=>x
 | k+1,x=>F6 g k (g x)
theorem Z8{α:Type}(g:α→α):∀(k:Nat) (x:α),F6 g (k+1) x=g (F6 g k x)
 | 0,x=>rfl
 | k+1,x=>by rw[F6,Z8 g k];rfl
theorem bt3{α:Type}{g:α→α}{x:α}(h:g x=x):∀k,F6 g k x=x
 | 0=>rfl
 | k+1=>by rw[F6,h,bt3 h k]
theorem aN4{α:Type}[DecidableEq α]{g:α→α}:∀(k m:Nat) (x:α),k≤m→g (F6 g k x)=F6 g k x→cj5 g m x=F6 g k x
 | 0,0,x,_,_=>rfl
 | 0,m+1,x,_,h=>by
  have h':g x=x:=h;rw[cj5,if_pos h'];rfl
 | k+1,0,x,hk,_=>by omega
 | k+1,m+1,x,hk,h=>by
  rw[cj5];split
  ·next hx=>rw[bt3 hx]
  ·exact aN4 k m (g x) (by omega) h
abbrev Rws:=List (List A4)
def leR(X Y:Rws):Prop:=∀(i:Nat),∀x∈X.getD i [],x∈Y.getD i []
structure K0 (n B:Nat) (X:Rws):Prop where
 len:X.length=n
 rise:∀r∈X,r.Pairwise fun a b=>Z0 a b=true
 few:∀r∈X,r.length≤B
structure ax9 (S:Rws→Rws) (n B:Nat):Prop where
 mono:∀X Y,leR X Y→leR (S X) (S Y)
 ok:∀X,K0 n B (S X)
def au0(X:Rws):Nat:=(X.map (·.length)).sum
theorem an2{l:List A4}(h:l.Pairwise fun a b=>Z0 a b=true):l.Nodup:=by
 refine List.Pairwise.imp (fun{a b} hab he=>?_) h;subst he;rw[J2]at hab;cases hab
theorem cB8{l m:List A4}(h1:l.Pairwise fun a b=>Z0 a b=true)(h2:m.Pairwise fun a b=>Z0 a b=true)(h:∀x∈l,x∈m):l.length≤m.length∧(l.length=m.length→l=m):=by
 have hn1:=an2 h1;refine⟨L3 hn1 h,fun hl=>bL3 h1 h2 fun x=>⟨h x,fun hx=>?_⟩⟩;refine eF5 fun hx1=>?_;have:=L3 (l:=x::l) (m:=m) (eH5.2 ⟨hx1,hn1⟩) fun y hy=>by
  rcases ex3.1 hy with rfl|hy
  ·exact hx
  ·exact h y hy
 simp at this;omega
theorem ce1:∀(X Y:Rws),X.length=Y.length→(∀r∈X,r.Pairwise fun a b=>Z0 a b=true)→(∀r∈Y,r.Pairwise fun a b=>Z0 a b=true)→leR X Y→au0 X≤au0 Y∧(au0 X=au0 Y→X=Y)
 | [],[],_,_,_,_=>by simp[au0]
 | x::X,y::Y,hl,h1,h2,h=>by
  have ih:=ce1 X Y (by simpa using hl) (fun r hr=>h1 r (by simp[hr])) (fun r hr=>h2 r (by simp[hr])) fun i z hz=>by
   have:=h (i+1) z;simp only[List.getD_cons_succ]at this;exact this hz
  have h0:=cB8 (h1 x (by simp)) (h2 y (by simp)) fun z hz=>by
   have:=h 0 z;simp only[List.getD_cons_zero]at this;exact this hz
  simp only[au0,ez9,eF8]at *;refine⟨by omega,fun he=>?_⟩;rw[h0.2 (by omega),ih.2 (by omega)]
theorem bN3{n B:Nat}:∀(X:Rws),(∀r∈X,r.length≤B)→au0 X≤X.length*B
 | [],_=>by simp[au0]
 | x::X,h=>by
  have ih:=bN3 (n:=n) X fun r hr=>h r (by simp[hr]);have:=h x (by simp);simp only[au0,ez9,eF8,ex7,eG3]at *;omega
theorem bk2(n B:Nat):K0 n B (List.replicate n []):=⟨by simp,fun r hr=>by
 rw[eB1 hr];exact List.Pairwise.nil,fun r hr=>by rw[eB1 hr];simp⟩
section
variable {S:Rws→Rws} {n B:Nat}
theorem ax9.iter_ok(h:ax9 S n B):∀k,K0 n B (F6 S k (List.replicate n []))
 | 0=>bk2 n B
 | k+1=>by rw[Z8];exact h.ok _
theorem ax9.grow(h:ax9 S n B):∀k,leR (F6 S k (List.replicate n [])) (S (F6 S k (List.replicate n [])))
 | 0=>fun i x hx=>by
  rw[F6,List.getD]at hx;cases hi:(List.replicate n ([]:List A4))[i]? with
  | none=>rw[hi]at hx;simp at hx
  | some r=>
   rw[hi]at hx;have:=eB1 (ex2 hi);subst this;simp at hx
 | k+1=>by
  rw[Z8];exact h.mono _ _ (h.grow k)
theorem ax9.more(h:ax9 S n B)(k:Nat)(hne:S (F6 S k (List.replicate n []))≠F6 S k (List.replicate n [])):au0 (F6 S k (List.replicate n []))<au0 (F6 S (k+1) (List.replicate n [])):=by
 rw[Z8];have h1:=h.iter_ok k;have h2:=h.ok (F6 S k (List.replicate n []));obtain⟨a,b⟩:=ce1 _ _ (by rw[h1.len,h2.len]) h1.rise h2.rise (h.grow k);rcases ez0 (au0 (F6 S k (List.replicate n []))) (au0 (S (F6 S k (List.replicate n []))))with hlt|hge
 ·exact hlt
 ·exact absurd (b (by omega)).symm hne
theorem ax9.bound(h:ax9 S n B)(k:Nat):au0 (F6 S k (List.replicate n []))≤n*B:=by
 have h1:=h.iter_ok k;have:=bN3 (n:=n) _ h1.few;rw[h1.len]at this;exact this
end
def OkR(nx:List (List Int)):Prop:=∀a,∀b∈C1 nx a,H3 nx.length b=true
theorem ca4{nx:List (List Int)}(hg:OkR nx):∀(m:Nat) (l:List Int),l.Nodup→(∀b∈l,H3 nx.length b=true)→nx.length≤l.length+m→∀a∈O2 nx m l,∀b∈C1 nx a,b∈O2 nx m l
 | 0,l,hn,hk,hl,a,ha,b,hb=>by
  rw[O2]at ha ⊢;refine eF5 fun hnb=>?_;have h1:(b::l).Nodup:=eH5.2 ⟨hnb,hn⟩;have h2:=L3 (m:=(List.range nx.length).map fun(i:Nat)=>(i:Int)) h1 fun c hc=>by
   have hkc:H3 nx.length c=true:=by
    rcases ex3.1 hc with rfl|hc
    ·exact hg _ _ hb
    ·exact hk c hc
   have:=C5.1 hkc;exact ey0.2 ⟨c.toNat,ez1.2 (by omega),by omega⟩
  simp only[ex7,ew3,eA7]at h2;omega
 | m+1,l,hn,hk,hl,a,ha,b,hb=>by
  rw[O2]at ha ⊢;by_cases he:ay6 nx l=[]
  ·have e:l++((l.flatMap (C1 nx)).filter fun b=>!l.contains b).eraseDups=l:=by
    show l++ay6 nx l=l;rw[he,ey6]
   rw[e]at ha ⊢;have hcl:∀c∈l,∀d∈C1 nx c,d∈l:=fun c hc d hd=>eF5 fun hnd=>by
    have:d∈ay6 nx l:=am8.2 ⟨⟨c,hc,hd⟩,hnd⟩;rw[he]at this;simp at this
   have hst:∀(k:Nat),O2 nx k l=l:=by
    intro k
    induction k with
    | zero=>rfl
    | succ k ih=>rw[O2,e,ih]
   rw[hst]at ha ⊢;exact hcl a ha b hb
  ·have hpos:0<(ay6 nx l).length:=List.length_pos_iff.2 he;refine ca4 hg m (l++ay6 nx l) ?_ (fun c hc=>?_) (by rw[ev5];omega) a ha b hb
   ·rw[eA4];refine⟨hn,aC6 _ _ (ew8 _),fun c hc d hd e=>?_⟩;subst e;exact(am8.1 hd).2 hc
   ·rcases ew7.1 hc with h|h
    ·exact hk c h
    ·obtain⟨⟨d,_,hc⟩,_⟩:=am8.1 h;exact hg _ _ hc
theorem bC0{nx:List (List Int)}(hg:OkR nx){a b:Int}(ha:H3 nx.length a=true):R9 nx a b=true↔Way nx a b:=by
 unfold R9;rw[ha,eE6,ex4];constructor
 ·exact fun h=>ax2 nx.length [a] (fun c hc=>by simp at hc;subst hc;exact .refl) b h
 ·intro h
  induction h with
  | refl=>exact aV4 _ _ _ (by simp)
  | step _ hc ih=>exact ca4 hg nx.length [a] (by simp) (fun c hc=>by simp at hc;subst hc;exact ha) (by simp) _ ih _ hc
theorem W5(nx:List (List Int))(stop:Nat→Bool):(aq2 nx stop).length=nx.length:=by simp[aq2]
theorem ak6(nx:List (List Int))(stop:Nat→Bool)(a:Int):C1 (aq2 nx stop) a=if stop a.toNat=true then[]else C1 nx a:=by
 unfold C1;rw[W5];by_cases h:0≤a∧a<nx.length
 ·have hl:a.toNat<nx.length:=by omega
  rw[if_pos h,if_pos h];unfold aq2;rw[List.getD,ey8,eE0 hl];simp
 ·rw[if_neg h,if_neg h];simp
theorem as7{nx:List (List Int)}(h:OkR nx)(stop:Nat→Bool):OkR (aq2 nx stop):=by
 intro a b hb;rw[ak6]at hb;rw[W5];split at hb
 ·simp at hb
 ·exact h a b hb
theorem cV9{nx:List (List Int)}(h:OkR nx){a b:Int}(ha:H3 nx.length a=true)(hw:Way nx a b):H3 nx.length b=true:=by
 cases hw with
 | refl=>exact ha
 | step _ hc=>exact h _ _ hc
theorem aQ1{X Y:Rws}(h:leR X Y)(i:Int){x:A4}(hx:x∈F3 X i):x∈F3 Y i:=h _ x hx
theorem ct1(p:Pg){X Y:Rws}(h:leR X Y)(s:St){x:A4}(hx:x∈aa7 p X s):x∈aa7 p Y s:=by
 unfold aa7 at hx ⊢;split at hx
 ·rename_i h1;rw[if_pos h1];exact hx
 ·rename_i h1;rw[if_neg h1];split at hx
  ·rename_i h2;rw[if_pos h2];exact hx
  ·rename_i h2;rw[if_neg h2];split at hx
   ·rename_i h3;rw[if_pos h3];exact hx
   ·rename_i h3;rw[if_neg h3];split at hx
    ·rename_i h4;rw[if_pos h4];unfold ai7 at hx ⊢;rcases ew7.1 hx with hx|hx
     ·rcases ew7.1 hx with hx|hx
      ·exact eA2 _ (eA2 _ hx)
      ·refine eA2 _ (eD0 _ ?_);obtain⟨z,hz,rfl⟩:=ey0.1 hx;refine ey0.2 ⟨z,?_,rfl⟩;rw[ey4]at hz ⊢;refine⟨hz.1,?_⟩;rw[ex5,ex4]at hz ⊢;exact⟨hz.2.1,aQ1 h _ hz.2.2⟩
     ·refine eD0 _ ?_;rw[ey4]at hx ⊢;exact⟨aQ1 h _ hx.1,hx.2⟩
    ·simp at hx
theorem cI9(p:Pg){X Y:Rws}(h:leR X Y)(s:St){x:A4}(hx:x∈ai2 p X s):x∈ai2 p Y s:=by
 unfold ai2 at hx ⊢;rcases ew7.1 hx with hx|hx
 ·exact eA2 _ hx
 ·refine eD0 _ ?_;split at hx
  ·rename_i h1;rw[if_pos h1];rcases ew7.1 hx with hx|hx
   ·exact eA2 _ hx
   ·exact eD0 _ (aQ1 h _ hx)
  ·simp at hx
theorem bu3{l:List It}{f g:It→List A4}(h:∀it,∀x∈f it,x∈g it):leR (l.map fun it=>C6 (f it)) (l.map fun it=>C6 (g it)):=by
 intro i x hx;rw[List.getD,ey8]at hx ⊢;cases hi:l[i]? with
 | none=>rw[hi]at hx;simp at hx
 | some it=>
  rw[hi]at hx;simp only[eB4,eA9]at hx ⊢;exact G8.2 (h it x (G8.1 hx))
theorem aZ8{n:Nat}{f g:Nat→List A4}(h:∀i,i<n→∀x∈f i,x∈g i):leR ((List.range n).map fun i=>C6 (f i)) ((List.range n).map fun i=>C6 (g i)):=by
 intro i x hx;rw[List.getD,ey8]at hx ⊢;rcases ez0 i n with hi|hi
 ·rw[eE0 hi]at hx ⊢;simp only[eB4,eA9]at hx ⊢;exact G8.2 (h i hi x (G8.1 hx))
 ·rw[eC7 (by simpa using hi)]at hx;simp at hx
theorem aZ9{n B:Nat}{f:Nat→List A4}(m:Nat→List A4)(h:∀i,i<n→∀x∈f i,x∈m i)(hB:∀i,i<n→(m i).length≤B):K0 n B ((List.range n).map fun i=>C6 (f i)):=by
 refine⟨by simp,fun r hr=>?_,fun r hr=>?_⟩
 ·obtain⟨i,_,rfl⟩:=ey0.1 hr;exact P6 _
 ·obtain⟨i,hi,rfl⟩:=ey0.1 hr;have hi':=ez1.1 hi;exact ew0 (L3 (an2 (P6 _)) fun x hx=>h i hi' x (G8.1 hx)) (hB i hi')
theorem bv9{p:Pg}{i:Nat}{n:A4}(h:V1 p i n=true):n∈W9::(p.globals++(p.procs.getD i bp5).params.map (·.name)):=by
 unfold V1 M7 at h;rw[eH1,eH1,ex4,ex4]at h;rcases h with(h|h)|h
 ·rw[ev6 h];simp
 ·simp[h]
 ·exact eB5 _ (eD0 _ (ey0.2 ⟨_,h,rfl⟩))
theorem O0{p:Pg}(hm:N1 p=true){i:Nat}(hi:i<p.procs.length):p.procs[i].params.length≤8:=by
 unfold N1 at hm;rw[ex5]at hm;have h2:=hm.2;have hgo:∀(l:List Pr) (n:Int),(l.foldlM (fun n f=>S6 f n) n).isSome=true→∀f∈l,f.params.length≤8:=by
  intro l
  induction l with
  | nil=>intro n _ f hf;simp at hf
  | cons g l ih=>
   intro n h f hf;rw[List.foldlM_cons]at h;obtain⟨k,hk⟩:=eB0.1 h;obtain⟨m,hm1,hm2⟩:=eC5.1 hk;rcases ex3.1 hf with rfl|hf
   ·unfold S6 at hm1;split at hm1
    ·cases hm1
    ·rename_i hc;omega
   ·exact ih m (by rw[hm2];rfl) f hf
 exact hgo _ _ h2 _ (ew2 hi)
theorem Q8{p:Pg}(hm:N1 p=true):p.globals.length≤16∧p.procs.length≤16:=by
 unfold N1 at hm;simp only[ex5,ez3]at hm;exact⟨hm.1.1.1,hm.1.1.2⟩
theorem co2{p:Pg}(hm:N1 p=true){i:Nat}(hi:i<p.procs.length):(W9::(p.globals++(p.procs.getD i bp5).params.map (·.name))).length≤25:=by
 have h1:=O0 hm hi;have h2:=(Q8 hm).1;rw[List.getD,ev2 hi];simp only[ex7,ev5,ew3,eA9];omega
theorem aP1{p:Pg}{defs:Rws}{i:Nat}{x:A4}(h:x∈X7 p defs i):V1 p i x=true:=by
 unfold X7 at h;obtain⟨it,_,h⟩:=ez2.1 h;exact(ey4.1 h).2
theorem aK8{p:Pg}(hm:N1 p=true):ax9 (E9 p) p.procs.length 25 where
 mono X Y h:=by
  refine aZ8 fun i hi x hx=>?_;unfold X7 at hx ⊢;obtain⟨it,hit,hx⟩:=ez2.1 hx;refine ez2.2 ⟨it,hit,?_⟩;rw[ey4]at hx ⊢;exact⟨aQ1 (bu3 fun it x hx=>ct1 p h _ hx) _ hx.1,hx.2⟩
 ok X:=aZ9 _ (fun i hi x hx=>bv9 (aP1 hx)) fun i hi=>co2 hm hi
section
variable {wy:Wy} {outs:List A4} {uses uses' defs:Rws} {name:A4}
theorem bu5(hok:OkR wy.net)(hl:wy.net.length=wy.n.toNat)(h0:0<wy.n):aw0 wy outs uses defs name=true↔∃a:Nat,a<wy.n.toNat∧bS9 wy outs uses name a=true∧Way (aq2 wy.net (aO0 wy uses defs name)) 0 a:=by
 unfold aw0;rw[eH7];constructor
 ·rintro⟨a,ha,h⟩;rw[ex5,bC0 (as7 hok _) (by rw[W5,hl];exact C5.2 ⟨by omega,by omega⟩)]at h;exact⟨a,ez1.1 ha,h⟩
 ·rintro⟨a,ha,h⟩;refine⟨a,ez1.2 ha,?_⟩;rw[ex5,bC0 (as7 hok _) (by rw[W5,hl];exact C5.2 ⟨by omega,by omega⟩)];exact h
theorem cz5(hok:OkR wy.net)(hl:wy.net.length=wy.n.toNat)(h0:0<wy.n)(hu:leR uses uses')(h:aw0 wy outs uses defs name=true):aw0 wy outs uses' defs name=true:=by
 rw[bu5 hok hl h0]at h ⊢;obtain⟨a,ha,hh,hw⟩:=h;have key:∀c,Way (aq2 wy.net (aO0 wy uses defs name)) 0 c→Way (aq2 wy.net (aO0 wy uses' defs name)) 0 c∨∃b:Nat,b<wy.n.toNat∧bS9 wy outs uses' name b=true∧Way (aq2 wy.net (aO0 wy uses' defs name)) 0 b:=by
  intro c hc
  induction hc with
  | refl=>exact .inl .refl
  | @step b c hb hc ih=>
   rcases ih with ih|ih
   ·rw[ak6]at hc;split at hc
    ·simp at hc
    ·rename_i hs;cases hs':aO0 wy uses' defs name b.toNat
     ·refine .inl (.step ih ?_);rw[ak6,hs',if_neg (by simp)];exact hc
     ·right;have hbk:=cV9 (as7 hok _) (by rw[W5,hl];exact C5.2 ⟨by omega,by omega⟩) ih;rw[W5,hl]at hbk;obtain⟨b1,b2⟩:=C5.1 hbk;refine⟨b.toNat,by omega,?_,by rw[Int.toNat_of_nonneg b1];exact ih⟩;unfold aO0 at hs hs';unfold bS9;by_cases hN:((b.toNat:Nat):Int)=wy.n-1
      ·rw[eC8 hN]at hs;simp at hs
      ·rw[eI1 hN]at hs hs';rw[if_neg hN];simp only[eI5,ex5,eH1,not_and,not_or]at hs hs';rw[ex5];refine⟨hs'.1,?_⟩;rcases hs'.2 with h|h
       ·exact h
       ·exact absurd h (hs hs'.1).2
   ·exact .inr ih
 rcases key a hw with h|h
 ·refine⟨a,ha,?_,h⟩;unfold bS9 at hh ⊢;split at hh
  ·rename_i hN;rw[if_pos hN];exact hh
  ·rename_i hN;rw[if_neg hN];rw[ex5,ex4]at hh ⊢;exact⟨hh.1,aQ1 hu _ hh.2⟩
 ·exact h
end
theorem aT7{p:Pg}(hm:N1 p=true)(outs defs:Rws)(hok:∀i,i<p.procs.length→OkR (D6 (b9 p) i).net∧(D6 (b9 p) i).net.length=(D6 (b9 p) i).n.toNat∧0<(D6 (b9 p) i).n):ax9 (N6 p outs defs) p.procs.length 25 where
 mono X Y h:=by
  refine aZ8 fun i hi x hx=>?_;unfold ay3 at hx ⊢;rw[ey4]at hx ⊢;obtain⟨h1,h2,h3⟩:=hok i hi;exact⟨hx.1,cz5 h1 h2 h3 (bu3 fun it x hx=>cI9 p h _ hx) hx.2⟩
 ok X:=aZ9 (fun _=>p.globals++[W9]) (fun i hi x hx=>(ey4.1 hx).1) fun i hi=>by
  have:=(Q8 hm).1;simp only[ev5,ey3];omega
theorem bG1{α:Type}(P:α→Bool):∀(l:List α) (i:Nat) {f:α},l.find? P=some f→∃k,l[k]?=some f∧V5 P i l=((i+k:Nat):Int)
 | [],i,f,h=>by simp at h
 | x::l,i,f,h=>by
  rw[List.find?_cons]at h;rw[V5];split at h
  ·next hx=>exact⟨0,by simpa using h,by rw[if_pos hx];rfl⟩
  ·next hx=>
   obtain⟨k,h1,h2⟩:=bG1 P l (i+1) h;exact⟨k+1,by simpa using h1,by rw[if_neg (by simp[hx]),h2];congr 1;omega⟩
structure az4 (p:Pg) (s:St) (k:Nat):Prop where
 lt:k<p.procs.length
 idx:S5 p.procs s.proc=(k:Int)
 fn:db6 p s.proc=p.procs[k]
 len:p.procs[k].params.length=s.args.length
 ref:∀j (h1:j<s.args.length) (h2:j<p.procs[k].params.length),p.procs[k].params[j].ref=s.args[j].ref
theorem cf5{α β:Type}(g:α×β→Bool):∀(l:List α) (m:List β),(l.zip m).all g=true→∀j (h1:j<l.length) (h2:j<m.length),g (l[j],m[j])=true
 | x::l,y::m,h,0,_,_=>by
  simp only[List.zip_cons_cons,List.all_cons,ex5]at h;exact h.1
 | x::l,y::m,h,j+1,h1,h2=>by
  simp only[List.zip_cons_cons,List.all_cons,ex5]at h;exact cf5 g l m h.2 j (by simpa using h1) (by simpa using h2)
theorem V4{p:Pg}{s:St}(h:ac1 p s=true):∃k,az4 p s k:=by
 unfold ac1 at h;rw[ex5]at h;cases hf:p.procs.find? fun f=>decide (f.name=s.proc)with
 | none=>rw[hf]at h;simp at h
 | some f=>
  rw[hf]at h;obtain⟨k,h1,h2⟩:=bG1 _ p.procs 0 hf;obtain⟨hk,rfl⟩:=ev8.1 h1;have h3:=h.2;unfold bk5 at h3;simp only[ex5,ez3]at h3;have hidx:S5 p.procs s.proc=(k:Int):=by unfold S5;rw[h2];simp
  refine⟨k,hk,hidx,?_,h3.1,fun j h1 h2=>?_⟩
  ·unfold db6;rw[hidx,ex8,List.getD,ev2 hk];rfl
  ·have:=cf5 _ _ _ h3.2 j h2 h1;simpa using this
theorem az4.pr{p:Pg}{s:St}{k:Nat}(h:az4 p s k):(b9 p).pr s.proc=(k:Int):=by
 unfold Sh.pr;rw[I6];exact h.idx
theorem aQ0{α:Type}{l:List (List α)}{k:Nat}(hk:k<l.length):F3 l (k:Int)=l[k]:=by
 unfold F3;rw[ex8,List.getD,ev2 hk];rfl
theorem cn1{α:Type}{l:List (List α)}{k:Nat}(hk:k<l.length):l[k]?=some (F3 l (k:Int)):=by
 rw[aQ0 hk,ev2 hk]
theorem bI8{P:Program}{c:Code}{Q:Exit→Fr→World→Prop}{f:Fr}{w:World}(keep:List Nat)(J:Fr→World→Prop)(hkp:keep.all (fun i=>!(wrC c).contains i)=true)
  (h1:CW P c (ab3 J Q) f w) (h2:∀f' w',(∀i∈keep,f' i=f i)→J f' w'→Q .normal f' w'):CW P c Q f w:=by
 refine co9 c (ab3 J Q) _ f w (fun e f' w' hf h=>?_) h1;have hk':∀i∈keep,f' i=f i:=fun i hi=>hf i fun hm=>by
  have:=eE2.1 hkp i hi;simp[hm]at this
 cases e
 case normal=>exact h2 f' w' hk' h
 all_goals exact h
structure cf7 (p:Pg) (b:Bk):Prop where
 s:b.s=b9 p
 outs:K0 p.procs.length 25 b.outs
 ins:K0 p.procs.length 25 b.ins
theorem K0.row{n B:Nat}{X:Rws}(h:K0 n B X){k:Nat}(hk:k<n):X[k]?=some (F3 X (k:Int))∧(F3 X (k:Int)).Pairwise (fun a b=>Z0 a b=true)∧(F3 X (k:Int)).length≤B:=by
 have hl:k<X.length:=by rw[h.len];exact hk
 have e:=aQ0 hl;exact⟨cn1 hl,by rw[e];exact h.rise _ (ew2 hl),by rw[e];exact h.few _ (ew2 hl)⟩
theorem ae6{h:Hp}{w:World}{v:Value}{l:List A4}(ho:A9 h w 9 v l)(hl:l.length≤1000000000):
  Calls prog 78 #[v] w fun e w'=>∃u,e = .returned u∧(A9 h w' 9 u (C6 l)∧o9 (A3 v) w w'∧F1 w v u):=by
 refine d9 (args:=[v]) hm func78 rfl (by kernel_rfl) (by show 1≤_;decide +kernel) ?_;simp only[m8,n9,simprocAttr];refine y5 bH9 (ak8 ho hl) ?_;rintro _ w2 ⟨ho2,hm2⟩;simp only[m8,simprocAttr];refine y5 cw2 (aT1 ho2 (by rw[R0];exact hl)) ?_;rintro u w3 ⟨ho3,hm3,hmv⟩;simp only[m8,simprocAttr];refine n7 results78 ?_;simp only[p6,simprocAttr];refine⟨ho3,hm2.chain hm3 fun _ _ h=>h,fun b hb=>?_⟩;rcases hmv b hb with h|h
 ·exact .inl h
 ·exact .inr (ew0 hm2.size h)
theorem At.book{p:Pg}{h:Hp}{a:Addr}{b:Bk}(ha:At h a b)(hs:b.s=b9 p):∃(sh:Addr) (v2 v3 v4 v5 v6:Value),At h sh (b9 p)∧R h v2 b.wp∧R h v3 b.defs∧R h v4 b.uses∧R h v5 b.ins∧R h v6 b.outs ∧
  (∀w,B4 h (d7 w)→(Instr.loadAt 93 (.pointer (some a))).run prog w = .ok (.pointer (some sh)) w∧(Instr.loadAt 94 (.pointer (some (a.add 1)))).run prog w = .ok v2 w∧(Instr.loadAt 95 (.pointer (some (a.add 2)))).run prog w = .ok v3 w∧(Instr.loadAt 95 (.pointer (some (a.add 3)))).run prog w = .ok v4 w∧(Instr.loadAt 95 (.pointer (some (a.add 4)))).run prog w = .ok v5 w∧(Instr.loadAt 95 (.pointer (some (a.add 5)))).run prog w = .ok v6 w) ∧
  (∀(S:World→Prop) (w0:World),S w0→(∀w,S w→B4 h (d7 w))→(∀K f d w,B8 prog S (Instr.loadAt 93 (.pointer (some a))) K f d w=K (A5 f d (.pointer (some sh))) w)∧(∀K f d w,B8 prog S (Instr.loadAt 94 (.pointer (some (a.add 1)))) K f d w=K (A5 f d v2) w)∧(∀K f d w,B8 prog S (Instr.loadAt 95 (.pointer (some (a.add 2)))) K f d w=K (A5 f d v3) w)∧(∀K f d w,B8 prog S (Instr.loadAt 95 (.pointer (some (a.add 3)))) K f d w=K (A5 f d v4) w)∧(∀K f d w,B8 prog S (Instr.loadAt 95 (.pointer (some (a.add 4)))) K f d w=K (A5 f d v5) w)∧(∀K f d w,B8 prog S (Instr.loadAt 95 (.pointer (some (a.add 5)))) K f d w=K (A5 f d v6) w)):=by
 obtain⟨v1,v2,v3,v4,v5,v6,h1,h2,h3,h4,h5,h6,ld,sd⟩:=ha.bk;obtain⟨sh,rfl,has⟩:=Ptr.at_ h1;have e:At h sh (b9 p):=by rw[←hs];exact has
 exact⟨sh,v2,v3,v4,v5,v6,e,h2,h3,h4,h5,h6,ld,sd⟩
theorem cd8{P:Program}{h:Hp}{v u:Value}{t:TypeId}{k:Nat}(hc:I8 h (H4 v k)=some u)(ht:B6 P t=false)(S:World→Prop)(w0:World)(h0:S w0)(hS:∀w,S w→B4 h (d7 w)):
  ∀K f d w,B8 P S (Instr.loadAt t (.pointer (some (H4 v k)))) K f d w=K (A5 f d u) w:=fun K f d w=>A0 h0 fun w' h'=>G4 hc (hS w' h') ht
theorem aJ4(a:Addr)(b:Bk)(p:Pg)(n:A4)(w:World)(ha:At (d7 w) a b)(hs:b.s=b9 p)(hmy:N1 p=true):
  Calls prog 113 #[.pointer (some a),o7 n] w fun e w'=>∃u,e = .returned u∧(u = .bool (M7 p n)∧w'=w):=by
 refine d9 (args:=[.pointer (some a),o7 n]) hm func113 rfl (by kernel_rfl) (by show 2≤_;decide +kernel) ?_;obtain⟨sh,_,_,_,_,_,has,_,_,_,_,_,ldb,_⟩:=ha.book hs;obtain⟨_,_,_,_,_,_,hpg,_,_⟩:=has.sh;rw[I6]at hpg;obtain⟨vg,vp,hvg,hvp,ldp,_⟩:=hpg.pg;have lb:=ldb w (i4 _);have lp:=ldp w (i4 _);have hF:M7 p n=(decide (n=ofA #[36,105,110])||p.globals.contains n):=rfl;rcases ev3 (decide (n=ofA #[36,105,110]))with h1|h1
 ·simp only[m8,n9,simprocAttr,h1];refine n7 results113 ?_;simp only[p6,simprocAttr];exact⟨by rw[hF,h1];rfl,by trivial⟩
 ·simp only[m8,n9,simprocAttr,h1,lb,lp];refine D1 ac2 (N8 vg p.globals n w hvg (by have:=(Q8 hmy).1;omega)) ?_;simp only[m8,simprocAttr];refine n7 results113 ?_;simp only[p6,simprocAttr];exact⟨by rw[hF,h1];rfl,by trivial⟩
theorem al3(a:Addr)(b:Bk)(p:Pg)(v:Value)(s:St)(w:World)(ha:At (d7 w) a b)(hs:b.s=b9 p)(hmy:N1 p=true)(hv:SV (d7 w) v s):
  Calls prog 106 #[.pointer (some a),v] w fun e w'=>∃u,e = .returned u∧(u = .int .i64 ((b9 p).pr s.proc)∧o6 w w'):=by
 refine d9 (args:=[.pointer (some a),v]) hm func106 rfl (by kernel_rfl) (by show 2≤_;decide +kernel) ?_;obtain⟨sh,_,_,_,_,_,has,_,_,_,_,_,_,sdb⟩:=ha.book hs;obtain⟨c,w1,hbx,hx1,hat⟩:=ai6 hv (i4 _);obtain⟨_,_,_,_,_,_,_,_,_,_,sds⟩:=hat.st;have hx1d:=hx1.trans (o6.drew w1);have s1:=sds (fun w'=>o6 w1.drew w') w1.drew (o9.refl _) fun w' h=>b7 ((o6.drew w1).trans h);have s2:=sdb (fun w'=>o6 w1.drew w') w1.drew (o9.refl _) fun w' h=>b7 (hx1d.trans h);simp only[m8,n9,simprocAttr,hbx];refine C2 (fun w'=>o6 w1.drew w') 6 (A8 [0,1,2,3,4,5]) (by decide +kernel) (o9.refl _) ?_;simp only[D5,A8,m8,n9,simprocAttr,s1,s2];refine B3 cb9 (an5 sh (b9 p) s.proc w1.drew (has.mono (b7 hx1d)) (by rw[I6];have:=(Q8 hmy).2;omega)) (fun w2 hx2=>?_);simp only[m8,simprocAttr];refine n7 results106 ?_;simp only[p6,simprocAttr];exact⟨by trivial,hx1d.trans hx2⟩
theorem cJ6:type_of% (And.intro (And.intro (And.intro (And.intro (And.intro (And.intro @dZ5 @dB8) (And.intro @dz7 (And.intro @dB7 @dZ3))) (And.intro (And.intro @dB5 @dB6) (And.intro @dZ4 (And.intro @dJ5 @dJ4)))) (And.intro (And.intro (And.intro @dJ6 @dJ7) (And.intro @dA2 (And.intro @dA1 @dA3))) (And.intro (And.intro @dA4 @dD8) (And.intro @dD7 (And.intro @dZ9 @ed3))))) (And.intro (And.intro (And.intro (And.intro @ep9 @dB2) (And.intro @ec3 (And.intro @dB3 @ec4))) (And.intro (And.intro @el3 @et4) (And.intro @cP3 (And.intro @dH4 @cP4)))) (And.intro (And.intro (And.intro @dH5 @dH6) (And.intro @df2 (And.intro @cY2 @cY1))) (And.intro (And.intro @dH3 @el5) (And.intro @el4 (And.intro @df1 @el7)))))) (And.intro (And.intro (And.intro (And.intro (And.intro @el6 @ec2) (And.intro @cK2 (And.intro @dG4 @ek8))) (And.intro (And.intro @cP1 @dB1) (And.intro @de8 (And.intro @ek3 @ek9)))) (And.intro (And.intro (And.intro @dB0 @ec1) (And.intro @dG6 (And.intro @ec0 @ev.eq_1))) (And.intro (And.intro @ev.eq_2 @ev.eq_3) (And.intro @ev.eq_4 (And.intro @A5.eq_1 @A5.eq_2))))) (And.intro (And.intro (And.intro (And.intro @ep8 @el0) (And.intro @em0 (And.intro @em1 @List.map_cons.{0,0}))) (And.intro (And.intro @List.map_nil.{0,0} @List.map_toArray.{0,0}) (And.intro @bP8.eq_1 (And.intro @bP8.eq_2 @db7)))) (And.intro (And.intro (And.intro @eb1 @eb2) (And.intro @cv4.eq_1 (And.intro @List.getElem?_toArray.{0} @List.getElem?_cons_zero.{0}))) (And.intro (And.intro @List.getElem?_cons_succ.{0} @Option.bind_some.{0,0}) (And.intro @Option.some.injEq.{0} (And.intro @eB6 @Bool.true_eq_false))))))):=(And.intro (And.intro (And.intro (And.intro (And.intro (And.intro @dZ5 @dB8) (And.intro @dz7 (And.intro @dB7 @dZ3))) (And.intro (And.intro @dB5 @dB6) (And.intro @dZ4 (And.intro @dJ5 @dJ4)))) (And.intro (And.intro (And.intro @dJ6 @dJ7) (And.intro @dA2 (And.intro @dA1 @dA3))) (And.intro (And.intro @dA4 @dD8) (And.intro @dD7 (And.intro @dZ9 @ed3))))) (And.intro (And.intro (And.intro (And.intro @ep9 @dB2) (And.intro @ec3 (And.intro @dB3 @ec4))) (And.intro (And.intro @el3 @et4) (And.intro @cP3 (And.intro @dH4 @cP4)))) (And.intro (And.intro (And.intro @dH5 @dH6) (And.intro @df2 (And.intro @cY2 @cY1))) (And.intro (And.intro @dH3 @el5) (And.intro @el4 (And.intro @df1 @el7)))))) (And.intro (And.intro (And.intro (And.intro (And.intro @el6 @ec2) (And.intro @cK2 (And.intro @dG4 @ek8))) (And.intro (And.intro @cP1 @dB1) (And.intro @de8 (And.intro @ek3 @ek9)))) (And.intro (And.intro (And.intro @dB0 @ec1) (And.intro @dG6 (And.intro @ec0 @ev.eq_1))) (And.intro (And.intro @ev.eq_2 @ev.eq_3) (And.intro @ev.eq_4 (And.intro @A5.eq_1 @A5.eq_2))))) (And.intro (And.intro (And.intro (And.intro @ep8 @el0) (And.intro @em0 (And.intro @em1 @List.map_cons.{0,0}))) (And.intro (And.intro @List.map_nil.{0,0} @List.map_toArray.{0,0}) (And.intro @bP8.eq_1 (And.intro @bP8.eq_2 @db7)))) (And.intro (And.intro (And.intro @eb1 @eb2) (And.intro @cv4.eq_1 (And.intro @List.getElem?_toArray.{0} @List.getElem?_cons_zero.{0}))) (And.intro (And.intro @List.getElem?_cons_succ.{0} @Option.bind_some.{0,0}) (And.intro @Option.some.injEq.{0} (And.intro @eB6 @Bool.true_eq_false)))))))
theorem bA0:af6 prog 106=true:=by kernel_rfl
theorem cw0:af6 prog 113=true:=by kernel_rfl
theorem bI2:af6 prog 91=true:=by kernel_rfl
theorem aB2{α β:Type}(P:α→Bool)(g:α→β)(l:List α){k:Nat}(hk:k<l.length):((l.take (k+1)).filter P).map g=((l.take k).filter P).map g++if P l[k]then[g l[k]]else[]:=by
 rw[ew1 hk,eC6,ey5]
 congr 1
 cases h:P l[k]<;>simp[h]
theorem ag4{α:Type}(P:α→Bool)(l:List α){k:Nat}(hk:k<l.length):(l.take (k+1)).filter P=(l.take k).filter P++if P l[k]then[l[k]]else[]:=by
 rw[ew1 hk,eC6]
 congr 1
 cases h:P l[k]<;>simp[h]
theorem at1{h:Hp}{w:World}{v:Value}{l:List A4}(ho:A9 h w 9 v l)(x:A4)(hl:l.length≤100000000)(hw:B4 h (d7 w)){e:TypeId}:
  (Instr.buildSlice 22 1 #[(0,o7 x)]).run prog w = .ok (.slice (some ⟨w.heap.size,0,none⟩) 1 1) (w.alloc (.cells #[o7 x] 9)) ∧
  ∃v' w',(Builtin.append_ #[22,22] e #[v,.slice (some ⟨w.heap.size,0,none⟩) 1 1]).run prog (w.alloc (.cells #[o7 x] 9)) = .ok v' w'∧A9 h w' 9 v' (l++[x])∧o9 (A3 v) w w'∧F1 w v v':=by
 have:=push (P:=prog) (e:=e) aq8 rfl ho (x:=o7 x) (y:=x) rfl (by omega) (by omega) hw;exact this
theorem bQ1(a:Addr)(b:Bk)(p:Pg)(v:Value)(s:St)(w:World)(ha:At (d7 w) a b)(hok:cf7 p b)(hmy:N1 p=true)(hv:SV (d7 w) v s)(hws:O5 s≤1000000)(hfit:ac1 p s=true):
  Calls prog 129 #[.pointer (some a),v] w fun e w'=>∃u,e = .returned u∧(A9 (d7 w) w' 9 u (ai7 p b.outs s)∧o6 w w'):=by
 refine d9 (args:=[.pointer (some a),v]) hm func129 rfl (by kernel_rfl) (by show 2≤_;decide +kernel) ?_;obtain⟨k,hck⟩:=V4 hfit;have hklt:=hck.lt;obtain⟨sh,_,_,_,_,vo,has,_,_,_,_,hvo,ldb,sdb⟩:=ha.book hok.s;obtain⟨_,_,_,_,_,_,hpg,_,_⟩:=has.sh;rw[I6]at hpg;obtain⟨vg,vp,hvg,hvp,ldp,sdp⟩:=hpg.pg;obtain⟨hrow,hrise,hfew⟩:=hok.outs.row hck.lt;have hpl:=O0 hmy hck.lt;have hF:ai7 p b.outs s=(if s.name=e0 then[]else[s.name])++(((s.args.zip p.procs[k].params).filter fun x=>x.1.ref&&(F3 b.outs (k:Int)).contains x.2.name).map fun x=>x.1.name)++(F3 b.outs (k:Int)).filter (M7 p):=by
  unfold ai7;rw[hck.fn,hck.idx]
 have hkp:=hck.pr;generalize F3 b.outs (k:Int)=row at hrow hrise hfew hF;obtain⟨uo,huo,hco⟩:=R.row hvo hrow;have hino:=hvo.inS (k:=k) (ev8.1 hrow).1;have hatp:=hvp.at_ (i:=k) (x:=p.procs[k]) (ev2 hck.lt);have hinp:=hvp.inS (k:=k) hck.lt;have hz5:z7.sz Pr=5:=rfl;rw[hz5]at hatp;obtain⟨vpa,_,_,_,hvpa,_,_,_,ldr,sdr⟩:=hatp.pr;obtain⟨c,w1,hbx,hx1,hat⟩:=ai6 hv (i4 _);obtain⟨_,va,_,_,_,hva,_,_,_,lds,_⟩:=hat.st;obtain⟨sv,hsv,ldsv,_⟩:=hat.st_v;have l1:=lds w1 (i4 _);have hlen:=hck.len;generalize hL1:(if s.name=e0 then[]else[s.name])=L1 at hF;have hL1l:L1.length≤1:=by rw[←hL1];split<;>simp
 simp only[cJ6,n9,simprocAttr,hbx,l1];refine bI8 [0,3] (fun f' w'=>A9 (d7 w1) w' 9 (f' 5) L1∧o6 w1 w') (by decide +kernel) ?_ ?_
 ·rcases ev3 (decide (s.name=ofA #[]))with h1|h1
  ·simp only[m8,n9,simprocAttr,h1];refine⟨?_,o9.refl _⟩;rw[←hL1,if_pos (ev6 h1)];exact A9.nil _ _ _
  ·obtain⟨p1,u2,w2,p2,p3,p4,p5⟩:=at1 (e:=22) (A9.nil (d7 w1) w1 9) s.name (by simp) (i4 _);simp only[m8,n9,simprocAttr,h1,l1,p1,p2];refine⟨?_,(A9.nil (α:=A4) (d7 w1) w1 9).ext2 (o9.refl _) p4⟩;rw[←hL1,if_neg (ev7 h1)];exact p3
 rintro f w2 hk ⟨ho,hx2⟩;simp only[ev4,p6,simprocAttr]at hk;obtain⟨e0',e3,_⟩:=hk;have l2:=ldsv w2 (b7 hx2);have hx02:=hx1.trans hx2;generalize h5:f 5=u2 at ho;simp only[m8,simprocAttr,e0',e3,l2];refine B3 bA0 (al3 a b p sv s w2 (ha.mono (b7 hx02)) hok.s hmy (hsv.mono (b7 hx2))) (fun w3 hx3=>?_);rw[hkp];have l3:=lds w3 (b7 (hx2.trans hx3));have hSa:=hva.isS;have hna:=hva.vlen;have hzl:(s.args.zip p.procs[k].params).length=s.args.length:=by rw[List.length_zip];omega
 have hx13:=hx2.trans hx3;simp only[m8,n9,simprocAttr,e3,l3,hSa,hna];refine n8 [0,3,6,23,24] (σ:=Nat×Value) (fun s' f w'=>f 25 = .int .i64 s'.1∧f 5=s'.2∧s'.1≤s.args.length∧A9 (d7 w1) w' 9 s'.2 (L1++(((s.args.zip p.procs[k].params).take s'.1).filter fun x=>x.1.ref&&row.contains x.2.name).map fun x=>x.1.name)∧o6 w1 w') (fun s'=>s.args.length-s'.1) (0,u2) (by decide +kernel) ?_ ?_
 ·simp only[p6,simprocAttr];exact⟨by trivial,h5,ew4 _,by simpa using ho.ext hx3,hx13⟩
 rintro⟨j,u⟩ f2 w4 hk ⟨h25,h5',hjl,ho4,hx4⟩;simp only at h25 h5' hjl ho4;simp only[ev4,p6,simprocAttr]at hk;obtain⟨g0,g3,g6,g23,g24,_⟩:=hk;rw[e0']at g0;have hx04:=hx1.trans hx4;have hcnt:((((s.args.zip p.procs[k].params).take j).filter fun x=>x.1.ref&&row.contains x.2.name).map fun x=>x.1.name).length≤j:=by
  rw[ew3];refine ew0 (ey2 _ _) ?_;rw[ew6];omega
 simp only[m8,n9,simprocAttr,h25,g24];refine i5 (fun hc=>?_) (fun hc=>?_)
 ·have hlt:j<s.args.length:=by simpa using hc
  have hltp:j<p.procs[k].params.length:=by omega
  have hltz:j<(s.args.zip p.procs[k].params).length:=by omega
  have hin:=hva.inS hlt;obtain⟨sv,hsv,hld⟩:=G1 (P:=prog) (t:=107) hva (b7 hx4) (ev2 hlt) ax3 ax5 ax4 T7;rw[T7]at hld;have htk:=aB2 (fun x:Ar×Pa=>x.1.ref&&row.contains x.2.name) (fun x=>x.1.name) _ hltz;rw[List.getElem_zip]at htk;simp only at htk;have hatpa:=hvpa.at_ (i:=j) (x:=p.procs[k].params[j]) (ev2 hltp);have hinpa:=hvpa.inS (k:=j) hltp;have hz2:z7.sz Pa=2:=rfl;rw[hz2]at hatpa;obtain⟨ldpa,sdpa⟩:=hatpa.pa;generalize p.procs[k].params[j]=pa at hatpa ldpa sdpa htk;generalize s.args[j]=ag at hsv htk;obtain⟨d,wz,w5,hal5,hst5,hx5,hatg⟩:=aR7 (hsv.mono (b7 hx4)) (i4 _);obtain⟨_,ldg,sdg⟩:=hatg.ar;have hx05:=hx04.trans (hx5.trans (o6.drew w5));have t1:=sdg (fun w'=>o6 w5.drew w') w5.drew (o9.refl _) fun w' h=>b7 ((o6.drew w5).trans h);have hh:∀w',o6 w5.drew w'→B4 (d7 w) (d7 w'):=fun w' h=>b7 (hx05.trans h);have t2:=sdb (fun w'=>o6 w5.drew w') w5.drew (o9.refl _) hh;have t3:=sdp (fun w'=>o6 w5.drew w') w5.drew (o9.refl _) hh;have t4:=sdr (fun w'=>o6 w5.drew w') w5.drew (o9.refl _) hh;have t5:=sdpa (fun w'=>o6 w5.drew w') w5.drew (o9.refl _) hh;have t6:=cd8 (P:=prog) (t:=22) hco M4 (fun w'=>o6 w5.drew w') w5.drew (o9.refl _) hh;have hx45:=hx5.trans (o6.drew w5);have ho5:=ho4.ext hx45;have hend:(ag.ref&&row.contains pa.name)=false→∀w6,o6 w5.drew w6→∃s':Nat×Value,s.args.length-s'.1<s.args.length-j∧(Value.int .i64 (IntKind.i64.wrap ((j:Int)+1)) = .int .i64 s'.1∧u=s'.2∧s'.1≤s.args.length∧A9 (d7 w1) w6 9 s'.2 (L1++(((s.args.zip p.procs[k].params).take s'.1).filter fun x=>x.1.ref&&row.contains x.2.name).map fun x=>x.1.name)∧o6 w1 w6):=fun hf w6 hx6=>by
   refine⟨(j+1,u),by simp only[];omega,by rw[B1 j (by omega)],by trivial,by simp only[];omega,?_,hx4.trans (hx45.trans hx6)⟩;simp only[];rw[htk,hf,if_neg (by simp),ey6];exact ho5.ext hx6
  rcases ev3 ag.ref with h1|h1;rotate_left
  ·rw[h1]at t1;simp only[m8,n9,p9,simprocAttr,h25,g23,hin,hld,hal5,hst5];refine C2 (fun w'=>o6 w5.drew w') 26 (A8 [0,1,2,3,4,5,6,7,8,9,10,11,12,13,14,15,16,17,18,19,20,21,22,23,24,25]) (by decide +kernel) (o9.refl _) ?_;simp only[D5,A8,m8,n9,simprocAttr,t1,h25,h5'];exact hend (by rw[h1];rfl) _ (o9.refl _)
  ·rw[h1]at t1;simp only[m8,n9,p9,simprocAttr,h25,g23,hin,hld,hal5,hst5];refine C2 (fun w'=>o6 w5.drew w') 26 (A8 [0,1,2,3,4,5,6,7,8,9,10,11,12,13,14,15,16,17,18,19,20,21,22,23,24,25]) (by decide +kernel) (o9.refl _) ?_;simp only[D5,A8,m8,n9,p9,simprocAttr,t1,t2,t3,t4,t5,t6,hino,hinp,hinpa,g0,g6];refine D1 bI2 (aa9 uo row pa.name w5.drew (z7.mono (b7 hx05) huo) (by omega) hrise) ?_;have hc2:(ag.ref&&row.contains pa.name)=row.contains pa.name:=by rw[h1];rfl
   rw[hc2]at htk hend;rcases ev3 (row.contains pa.name)with h2|h2;rotate_left
   ·simp only[m8,n9,simprocAttr,h2,h25,h5'];exact hend h2 _ (o9.refl _)
   ·have l5:=ldg w5.drew (b7 (o6.drew w5));obtain⟨p1,u6,w6,p2,p3,p4,p5⟩:=at1 (e:=22) ho5 ag.name (by rw[ev5];omega) (b7 (hx4.trans hx45));simp only[m8,n9,simprocAttr,h2,h25,h5',l5,p1,p2];refine⟨(j+1,u6),by simp only[];omega,by rw[B1 j (by omega)],by trivial,by simp only[];omega,?_,ho5.ext2 (hx4.trans hx45) p4⟩;simp only[];rw[htk,h2,if_pos rfl,←ex9];exact p3
 have hge:j=s.args.length:=by simp at hc;omega
 subst hge;rw[show(s.args.zip p.procs[k].params).take s.args.length=s.args.zip p.procs[k].params from ez7 (by omega)]at ho4;rw[show(s.args.zip p.procs[k].params).take s.args.length=s.args.zip p.procs[k].params from ez7 (by omega)]at hcnt;generalize hL2:L1++((s.args.zip p.procs[k].params).filter fun x=>x.1.ref&&row.contains x.2.name).map (fun x=>x.1.name)=L2 at ho4 hF;have hL2l:L2.length≤9:=by rw[←hL2,ev5];omega
 have lb4:=ldb w4 (b7 hx04);have hlr:=G4 (P:=prog) (t:=22) hco (b7 hx04) M4;have hSr:=huo.isS;have hnr:=huo.vlen;simp only[m8,n9,p9,simprocAttr,g0,g6,lb4,hino,hlr,hSr,hnr];refine n8 [0,70,71] (σ:=Nat×Value) (fun s' f w'=>f 72 = .int .i64 s'.1∧f 5=s'.2∧s'.1≤row.length∧A9 (d7 w1) w' 9 s'.2 (L2++(row.take s'.1).filter (M7 p))∧o6 w1 w') (fun s'=>row.length-s'.1) (0,u) (by decide +kernel) ?_ ?_
 ·simp only[p6,simprocAttr];exact⟨by trivial,h5',ew4 _,by simpa using ho4,hx4⟩
 rintro⟨q,u6⟩ f6 w6 hk ⟨h72,h56,hql,ho6,hx6⟩;simp only at h72 h56 hql ho6;simp only[ev4,p6,simprocAttr]at hk;obtain⟨j0,j70,j71,_⟩:=hk;rw[g0]at j0;simp only[m8,n9,simprocAttr,h72,j71];refine i5 (fun hc=>?_) (fun hc=>?_);rotate_left
 ·have hge:q=row.length:=by simp at hc;omega
  subst hge;rw[ew5]at ho6;simp only[m8,simprocAttr,h56];refine n7 results129 ?_;simp only[p6,simprocAttr];exact⟨by rw[hF];exact ho6.back hx1,hx1.trans hx6⟩
 have hlt:q<row.length:=by simpa using hc
 have hinq:=huo.inS hlt;have hldq:(Instr.loadAt 9 (.pointer (some (H4 uo q)))).run prog w6 = .ok (o7 row[q]) w6:=M8 (P:=prog) (α:=A4) (xs:=row) huo (b7 (hx1.trans hx6)) (ev2 hlt) U4;have htk:=ag4 (M7 p) row hlt;have hcl:((row.take q).filter (M7 p)).length≤25:=ew0 (ey2 _ _) (by rw[ew6];omega);generalize row[q]=n at hldq htk;simp only[m8,n9,p9,simprocAttr,h72,j0,j70,hinq,hldq];refine D1 cw0 (aJ4 a b p n w6 (ha.mono (b7 (hx1.trans hx6))) hok.s hmy) ?_;rcases ev3 (M7 p n)with h2|h2;rotate_left
 ·simp only[m8,n9,simprocAttr,h2,h72];refine⟨(q+1,u6),by simp only[];omega,by simp only[];rw[B1 q (by omega)],h56,by simp only[];omega,?_,hx6⟩;simp only[];rw[htk,h2,if_neg (by simp),ey6];exact ho6
 ·obtain⟨p1,u7,w7,p2,p3,p4,p5⟩:=at1 (e:=22) ho6 n (by rw[ev5];omega) (b7 hx6);simp only[m8,n9,simprocAttr,h2,h72,h56,p1,p2];refine⟨(q+1,u7),by simp only[];omega,by simp only[];rw[B1 q (by omega)],by trivial,by simp only[];omega,?_,ho6.ext2 hx6 p4⟩;simp only[];rw[htk,h2,if_pos rfl,←ex9];exact p3
theorem ee4:af6 prog 129=true:=by kernel_rfl
theorem cc6(x:A4)(w:World){h:Hp}(hw:B4 h (d7 w)):∃v w',(Instr.buildSlice 22 1 #[(0,o7 x)]).run prog w = .ok v w'∧A9 h w' 9 v [x]∧o6 w w'∧(∀b,A3 v b→w.heap.size≤b):=
 lit (P:=prog) (w:=w) (h:=h) (α:=A4) (xs:=[o7 x]) (ys:=[x]) (parts:=#[(0,o7 x)]) (n:=1) aq8 rfl (aB0.2 rfl) (by simp[o7,Value.cells]) rfl rfl (by simp) (by simp) hw
theorem cz0(x y:A4)(w:World){h:Hp}(hw:B4 h (d7 w)):∃v w',(Instr.buildSlice 22 2 #[(0,o7 x),(1,o7 y)]).run prog w = .ok v w'∧A9 h w' 9 v [x,y]∧o6 w w'∧(∀b,A3 v b→w.heap.size≤b):=
 lit (P:=prog) (w:=w) (h:=h) (α:=A4) (xs:=[o7 x,o7 y]) (ys:=[x,y]) (parts:=#[(0,o7 x),(1,o7 y)]) (n:=2) aq8 rfl (aB0.2 rfl) (by simp[o7,Value.cells]) rfl rfl (by simp) (by simp) hw
theorem ct2(a:Addr)(b:Bk)(p:Pg)(v:Value)(s:St)(w:World)(ha:At (d7 w) a b)(hok:cf7 p b)(hmy:N1 p=true)(hv:SV (d7 w) v s)(hws:O5 s≤1000000)(hfit:s.kind=4→ac1 p s=true):
  Calls prog 79 #[.pointer (some a),v] w fun e w'=>∃u,e = .returned u∧(A9 (d7 w) w' 9 u (aa7 p b.outs s)∧o6 w w'):=by
 refine d9 (args:=[.pointer (some a),v]) hm func79 rfl (by kernel_rfl) (by show 2≤_;decide +kernel) ?_;obtain⟨c,w1,hbx,hx1,hat⟩:=ai6 hv (i4 _);obtain⟨_,va,_,_,_,hva,_,_,_,lds,_⟩:=hat.st;obtain⟨sv,hsv,ldsv,_⟩:=hat.st_v;have l1:=lds w1 (i4 _);have l2:=ldsv w1 (i4 _);have hF:aa7 p b.outs s=if s.kind=1 then[s.name]else if s.kind=2 then[s.name,W9]else if s.kind=9 then[M3]else if s.kind=4 then ai7 p b.outs s else[]:=rfl;rcases ev3 (decide (s.kind=1))with k1|k1
 ·rw[if_pos (ev6 k1)]at hF;obtain⟨u,w2,q1,q2,q3,_⟩:=cc6 s.name w1 (b7 hx1);simp only[m8,n9,simprocAttr,hbx,l1,k1,q1];refine n7 results79 ?_;simp only[p6,simprocAttr];exact⟨by rw[hF];exact q2,hx1.trans q3⟩
 rw[if_neg (ev7 k1)]at hF;rcases ev3 (decide (s.kind=2))with k2|k2
 ·rw[if_pos (ev6 k2)]at hF;obtain⟨u,w2,q1,q2,q3,_⟩:=cz0 s.name W9 w1 (b7 hx1);have q1':(Instr.buildSlice 22 2 #[(0,o7 s.name),(1,.string ⟨#[36,105,110]⟩)]).run prog w1 = .ok u w2:=q1;simp only[m8,n9,simprocAttr,hbx,l1,k1,k2,q1'];refine n7 results79 ?_;simp only[p6,simprocAttr];exact⟨by rw[hF];exact q2,hx1.trans q3⟩
 rw[if_neg (ev7 k2)]at hF;rcases ev3 (decide (s.kind=9))with k9|k9
 ·rw[if_pos (ev6 k9)]at hF;obtain⟨u,w2,q1,q2,q3,_⟩:=cc6 M3 w1 (b7 hx1);have q1':(Instr.buildSlice 22 1 #[(0,.string ⟨#[36,114,101,116]⟩)]).run prog w1 = .ok u w2:=q1;simp only[m8,n9,simprocAttr,hbx,l1,k1,k2,k9,q1'];refine n7 results79 ?_;simp only[p6,simprocAttr];exact⟨by rw[hF];exact q2,hx1.trans q3⟩
 rw[if_neg (ev7 k9)]at hF;rcases ev3 (decide (s.kind=4))with k4|k4
 ·rw[if_pos (ev6 k4)]at hF;simp only[m8,n9,simprocAttr,hbx,l1,k1,k2,k9,k4,l2];refine y5 ee4 (bQ1 a b p sv s w1 (ha.mono (b7 hx1)) hok hmy hsv hws (hfit (ev6 k4))) ?_;rintro u w2 ⟨ho2,hx2⟩;simp only[m8,simprocAttr];refine n7 results79 ?_;simp only[p6,simprocAttr];exact⟨by rw[hF];exact ho2.back hx1,hx1.trans hx2⟩
 rw[if_neg (ev7 k4)]at hF;simp only[m8,n9,simprocAttr,hbx,l1,k1,k2,k9,k4];refine n7 results79 ?_;simp only[p6,simprocAttr];exact⟨by rw[hF];exact A9.nil _ _ _,hx1⟩
theorem cJ0(a:Addr)(b:Bk)(p:Pg)(v:Value)(s:St)(w:World)(ha:At (d7 w) a b)(hok:cf7 p b)(hmy:N1 p=true)(hv:SV (d7 w) v s)(hws:O5 s≤1000000)(hfit:s.kind=4→ac1 p s=true):
  Calls prog 82 #[.pointer (some a),v] w fun e w'=>∃u,e = .returned u∧(A9 (d7 w) w' 9 u (ai2 p b.ins s)∧o6 w w'):=by
 refine d9 (args:=[.pointer (some a),v]) hm func82 rfl (by kernel_rfl) (by show 2≤_;decide +kernel) ?_;obtain⟨sh,_,_,_,vi,_,has,_,_,_,hvi,_,ldb,sdb⟩:=ha.book hok.s;obtain⟨c,w1,hbx,hx1,hat⟩:=ai6 hv (i4 _);obtain⟨_,va,_,_,_,hva,_,_,hatx,lds,sds⟩:=hat.st;obtain⟨sv,hsv,ldsv,sdsv⟩:=hat.st_v;obtain⟨ux,hux,lwx,_⟩:=hatx.ex_v;have lx1:=lwx w1 (i4 _);have hws':=hws;rw[P8]at hws';have hnx:=aa1 s.x;have hal:=al1 s.args;have han:=L7 s.args;simp only[m8,n9,simprocAttr,hbx,lx1];refine y5 bA1 (al4 ux s.x w1 hux (by omega)) ?_;rintro u2 w2 ⟨ho2,hx2⟩;have l2:=lds w2 (b7 hx2);generalize hP1:aa0 s.x++(if s.kind=2 then[W9]else[])=P1;have hP1l:P1.length≤R2 s.x+1:=by
  rw[←hP1,ev5];have:(if s.kind=2 then[W9]else[]).length≤1:=by split<;>simp
  omega
 have hF:ai2 p b.ins s=P1++if s.kind=4 then s.args.flatMap I7++F3 b.ins (S5 p.procs s.proc)else[]:=by rw[←hP1];rfl
 simp only[cJ6,n9,simprocAttr,l2];refine bI8 [0,3] (fun f' w'=>A9 (d7 w1) w' 9 (f' 5) P1∧o6 w1 w') (by decide +kernel) ?_ ?_
 ·rcases ev3 (decide (s.kind=2))with k2|k2
  ·rw[if_pos (ev6 k2)]at hP1;obtain⟨p1,u3,w3,p2,p3,p4,p5⟩:=at1 (e:=22) ho2 W9 (by omega) (b7 hx2);have p1':(Instr.buildSlice 22 1 #[(0,.string ⟨#[36,105,110]⟩)]).run prog w2=_:=p1;simp only[m8,simprocAttr,k2,p1',p2];exact⟨by rw[←hP1];exact p3,ho2.ext2 hx2 p4⟩
  ·rw[if_neg (ev7 k2)]at hP1;simp only[m8,simprocAttr,k2];exact⟨by rw[←hP1];simpa using ho2,hx2⟩
 rintro f w3 hk ⟨ho3,hx3⟩;simp only[ev4,p6,simprocAttr]at hk;obtain⟨e0',e3,_⟩:=hk;generalize h5:f 5=u3 at ho3;have l3:=lds w3 (b7 hx3);rcases ev3 (decide (s.kind=4))with k4|k4;rotate_left
 ·rw[if_neg (ev7 k4),ey6]at hF;simp only[m8,n9,simprocAttr,e3,l3,k4,h5];refine n7 results82 ?_;simp only[p6,simprocAttr];exact⟨by rw[hF];exact ho3.back hx1,hx1.trans hx3⟩
 rw[if_pos (ev6 k4)]at hF;obtain⟨k,hck⟩:=V4 (hfit (ev6 k4));have hSa:=hva.isS;have hna:=hva.vlen;simp only[m8,n9,simprocAttr,e3,l3,k4,hSa,hna];refine n8 [0,3,22,23] (σ:=Nat×Value) (fun s' f w'=>f 24 = .int .i64 s'.1∧f 5=s'.2∧s'.1≤s.args.length∧A9 (d7 w1) w' 9 s'.2 (P1++(s.args.take s'.1).flatMap I7)∧o6 w1 w') (fun s'=>s.args.length-s'.1) (0,u3) (by decide +kernel) ?_ ?_
 ·simp only[p6,simprocAttr];exact⟨by trivial,h5,ew4 _,by simpa using ho3,hx3⟩
 rintro⟨j,u⟩ f2 w4 hk ⟨h24,h5',hjl,ho4,hx4⟩;simp only at h24 h5' hjl ho4;simp only[ev4,p6,simprocAttr]at hk;obtain⟨g0,g3,g22,g23,_⟩:=hk;rw[e0']at g0;rw[e3]at g3;have hpre:((s.args.take j).flatMap I7).length≤Y7 s.args:=ew0 (L7 _) (ao5 _ _);simp only[m8,n9,simprocAttr,h24,g23];refine i5 (fun hc=>?_) (fun hc=>?_)
 ·have hlt:j<s.args.length:=by simpa using hc
  have hin:=hva.inS hlt;obtain⟨sv,hsv,hld⟩:=G1 (P:=prog) (t:=107) hva (b7 hx4) (ev2 hlt) ax3 ax5 ax4 T7;rw[T7]at hld;have htk:=J0 I7 s.args hlt;have hwm:=aG9 (ew2 hlt);have hpre2:((s.args.take (j+1)).flatMap I7).length≤Y7 s.args:=ew0 (L7 _) (ao5 _ _);rw[htk]at hpre2;generalize s.args[j]=y at hsv htk hwm hpre2;have hany:I7 y=(if y.ref then[y.name]else[])++aa0 y.x:=rfl;rw[hany]at hpre2;simp only[ev5]at hpre2;generalize(s.args.take j).flatMap I7=pre at ho4 hpre hpre2 htk;obtain⟨d,wz,w5,hal5,hst5,hx5,hatg⟩:=cf2 (w:=w4) (A3 u) hsv (fun b hb=>ho4.lt hb);obtain⟨uy,huy,hatyx,ldy,_⟩:=L8.ar hsv hatg;obtain⟨lwy,_⟩:=L8.ex_v huy hatyx;have ho5:=ho4.ext hx5;have hx15:=hx4.trans hx5;have l5:=ldy w5 (C0 _ _);have hlr:(if y.ref=true then[y.name]else[]).length≤1:=by split<;>simp
  simp only[cJ6,n9,p9,simprocAttr,h24,g22,hin,hld,hal5,hst5,l5];refine bI8 [0,3,7,22,23,24] (fun f' w'=>A9 (d7 w1) w' 9 (f' 5) (P1++pre++if y.ref then[y.name]else[])∧o9 (A3 u) w5 w') (by decide +kernel) ?_ ?_
  ·rcases ev3 y.ref with h1|h1
   ·obtain⟨p1,u6,w6,p2,p3,p4,p5⟩:=at1 (e:=22) ho5 y.name (by simp only[ev5];omega) (b7 hx15);rw[h1]at l5;simp only[m8,n9,simprocAttr,h1,l5,h5',p1,p2];exact⟨p3,p4⟩
   ·simp only[m8,simprocAttr,h1,h5'];exact⟨by simpa using ho5,o9.refl _⟩
  rintro f6 w6 hk ⟨ho6,hm6⟩;simp only[ev4,p6,simprocAttr]at hk;obtain⟨j0,j3,j7,j22,j23,j24,_⟩:=hk;rw[h24]at j24;generalize h56:f6 5=u6 at ho6;have hx16:o6 w1 w6:=o9.ext_of hx15 hm6 fun b hb=>C9 (ho5.free hb);have ly6:=lwy w6 (D2 hm6);simp only[m8,n9,simprocAttr,h56,j7,ly6];refine y5 bA1 (al4 uy y.x w6 (huy.mono (b7 hx16)) (by unfold ah5 at hwm;omega)) ?_;rintro u8 w8 ⟨ho8,hx8⟩;obtain⟨u9,w9,c1,c2,c3,c4⟩:=ag8 (P:=prog) (e:=22) aq8 (ho6.ext hx8) (ho8.rw_ (b7 hx8)) (i4 _) (by simp only[ev5];omega) (by simp only[ev5];omega) (b7 (hx16.trans hx8));have hx19:o6 w1 w9:=o9.ext_of (hx16.trans hx8) c3 fun b hb=>C9 ((ho6.ext hx8).free hb);simp only[m8,n9,simprocAttr,c1,j24];refine⟨(j+1,u9),by simp only[];omega,by simp only[];rw[B1 j (by omega)],by trivial,by simp only[];omega,?_,hx19⟩;simp only[];rw[htk,hany];simp only[ex9]at c2 ⊢;exact c2
 have hge:j=s.args.length:=by simp at hc;omega
 subst hge;rw[ew5]at ho4 hpre;obtain⟨hrow,hrise,hfew⟩:=hok.ins.row hck.lt;rw[hck.idx]at hF;have hkp:=hck.pr;generalize F3 b.ins (k:Int)=row at hrow hrise hfew hF;obtain⟨ui,hui,hci⟩:=R.row hvi hrow;have hini:=hvi.inS (k:=k) (ev8.1 hrow).1;have hx4d:=hx4.trans (o6.drew w4);have hx04d:=hx1.trans hx4d;have hh1:∀w',o6 w4.drew w'→B4 (d7 w1) (d7 w'):=fun w' h=>b7 (hx4d.trans h);have hh0:∀w',o6 w4.drew w'→B4 (d7 w) (d7 w'):=fun w' h=>b7 (hx04d.trans h);have t1:=sdb (fun w'=>o6 w4.drew w') w4.drew (o9.refl _) hh0;have t2:=sdsv (fun w'=>o6 w4.drew w') w4.drew (o9.refl _) hh1;have t3:=cd8 (P:=prog) (t:=22) hci M4 (fun w'=>o6 w4.drew w') w4.drew (o9.refl _) hh0;simp only[m8,simprocAttr];refine C2 (fun w'=>o6 w4.drew w') 10 (A8 [0,1,2,3,4,5,6,7,8,9]) (by decide +kernel) (o9.refl _) ?_;simp only[D5,A8,m8,n9,simprocAttr,g0,g3,h5',t1,t2];refine B3 bA0 (al3 a b p sv s w4.drew (ha.mono (b7 hx04d)) hok.s hmy (hsv.mono (b7 hx4d))) (fun w5 hx5=>⟨hx5,?_⟩);rw[hkp];obtain⟨u9,w9,c1,c2,c3,c4⟩:=ag8 (P:=prog) (e:=22) aq8 (ho4.ext ((o6.drew w4).trans hx5)) hui (b7 (hx04d.trans hx5)) (by simp only[ev5];omega) (by simp only[ev5];omega) (b7 (hx4d.trans hx5));simp only[D5,m8,n9,p9,simprocAttr,hini,t3,c1];refine n7 results82 ?_;simp only[p6,simprocAttr];refine⟨?_,hx1.trans (o9.ext_of (hx4d.trans hx5) c3 fun b hb=>C9 (ho4.free hb))⟩;rw[hF,←ex9];exact c2.back hx1
def ap4(d:Nat)(xs ys:Array Value):List (Bool×TypeId×Nat)→Sem Bool
 | []=>pure true
 | (b,t,o)::l=>if b=true then do
   let x ←part t xs o
   let y ←part t ys o
   let r ←Op.equalIn d t x y
   if(!r)=true then pure false else ap4 d xs ys l
  else ap4 d xs ys l
theorem ap3(d:Nat)(xs ys:Array Value):∀fs:List Field,Op.eqFields d xs ys fs=ap4 d xs ys (fs.map fun f=>(decide (f.name ≠ "_"),f.type,f.offset))
 | []=>rfl
 | f::fs=>by
  rw[Op.eqFields,ez9,ap4,ap3 d xs ys fs];by_cases h:f.name = "_" <;> simp[h]
theorem P4{P:Program}{d:Nat}{xs ys:Array Value}{t o:Nat}{l:List (Bool×TypeId×Nat)}{a b:Value}{r r':Bool}(w:World)(hx:(part t xs o).run P w = .ok a w)(hy:(part t ys o).run P w = .ok b w)(hr:(Op.equalIn d t a b).run P w = .ok r w)(hl:(ap4 d xs ys l).run P w = .ok r' w):
  (ap4 d xs ys ((true,t,o)::l)).run P w = .ok (r&&r') w:=by
 rw[ap4,if_pos rfl];simp only[ex6,hx,hy,hr,ew9];cases r
 ·simp
 ·simpa using hl
theorem aB1{P:Program}{d:Nat}{xs ys:Array Value}(w:World):(ap4 d xs ys []).run P w = .ok true w:=rfl
theorem bg2(w:World)(d:Nat)(a b:A4):(Op.equalIn (d+1) 9 (o7 a) (o7 b)).run prog w = .ok (decide (a=b)) w:=by
 have:=run_equalIn_string (P:=prog) w d 9 ⟨a.b.toArray⟩ ⟨b.b.toArray⟩ Tryz.underlying9;rw[ak9,ak9,bd7]at this;exact this
theorem bg0(w:World)(d:Nat)(a b:Int):(Op.equalIn (d+1) 3 (.int .i64 a) (.int .i64 b)).run prog w = .ok (decide (a=b)) w:=by
 have:=run_equalIn_int (P:=prog) w d 3 .i64 .i64 a b Tryz.underlying3;rw[this];congr 1
theorem cj4(w:World)(d:Nat)(a b:Bool):(Op.equalIn (d+1) 4 (.bool a) (.bool b)).run prog w = .ok (decide (a=b)) w:=by
 have:=run_equalIn_bool' (P:=prog) w d 4 a b Tryz.underlying4;rw[this];cases a<;>cases b<;>rfl
theorem at0(cs:Array Value)(i:Nat)(v:Value)(h:cs[i]?=some v)(w:World):(part 9 cs i).run prog w = .ok v w:=aV1 (P:=prog) (t:=9) U4 (by kernel_rfl) h w
theorem as9(cs:Array Value)(i:Nat)(v:Value)(h:cs[i]?=some v)(w:World):(part 3 cs i).run prog w = .ok v w:=aV1 (P:=prog) (t:=3) G3 (by kernel_rfl) h w
theorem bv0(cs:Array Value)(i:Nat)(v:Value)(h:cs[i]?=some v)(w:World):(part 4 cs i).run prog w = .ok v w:=aV1 (P:=prog) (t:=4) ao9 (by kernel_rfl) h w
theorem cN4(w:World)(d:Nat)(p q:Pa):(Op.equalIn (d+2) 69 (.agg p.cells.toArray) (.agg q.cells.toArray)).run prog w = .ok (decide (p=q)) w:=by
 rw[run_equalIn_struct (P:=prog) w (d+1) 69 _ _ (by kernel_rfl) (by kernel_rfl),ap3];have hf:(prog.fieldsOf 69).toList.map (fun f=>(decide (f.name ≠ "_"),f.type,f.offset))=[(true,9,0),(true,4,1)]:=by kernel_rfl
 rw[hf,P4 w (at0 _ _ _ rfl w) (at0 _ _ _ rfl w) (bg2 w d _ _) (P4 w (bv0 _ _ _ rfl w) (bv0 _ _ _ rfl w) (cj4 w d _ _) (aB1 w))]
 congr 1
 cases p;cases q;simp[Pa.mk.injEq,Bool.decide_and]
theorem bd1(w:World)(d:Nat)(p q:Vx):(Op.equalIn (d+2) 36 (.agg p.cells.toArray) (.agg q.cells.toArray)).run prog w = .ok (decide (p=q)) w:=by
 rw[run_equalIn_struct (P:=prog) w (d+1) 36 _ _ (by kernel_rfl) (by kernel_rfl),ap3];have hf:(prog.fieldsOf 36).toList.map (fun f=>(decide (f.name ≠ "_"),f.type,f.offset))=[(true,9,0),(true,3,1),(true,3,2),(true,9,3)]:=by kernel_rfl
 rw[hf,P4 w (at0 _ _ _ rfl w) (at0 _ _ _ rfl w) (bg2 w d _ _) (P4 w (as9 _ _ _ rfl w) (as9 _ _ _ rfl w) (bg0 w d _ _) (P4 w (as9 _ _ _ rfl w) (as9 _ _ _ rfl w) (bg0 w d _ _) (P4 w (at0 _ _ _ rfl w) (at0 _ _ _ rfl w) (bg2 w d _ _) (aB1 w))))]
 congr 1
 cases p;cases q;simp[Vx.mk.injEq,Bool.decide_and]
theorem bd5(cs:Array Value)(i:Nat)(v:Vx)(h:(cs.extract i (i+4))=v.cells.toArray)(w:World):(part 36 cs i).run prog w = .ok (.agg v.cells.toArray) w:=by
 refine bk4 (P:=prog) ?_ w;unfold bK6;rw[if_pos aI8,aI9,aJ0,ad2,h];rfl
theorem cb4(w:World)(d:Nat)(p q:Eg):(Op.equalIn (d+3) 38 (.agg p.cells.toArray) (.agg q.cells.toArray)).run prog w = .ok (decide (p=q)) w:=by
 rw[run_equalIn_struct (P:=prog) w (d+2) 38 _ _ (by kernel_rfl) (by kernel_rfl),ap3];have hf:(prog.fieldsOf 38).toList.map (fun f=>(decide (f.name ≠ "_"),f.type,f.offset))=[(true,36,0),(true,36,4),(true,3,8)]:=by kernel_rfl
 have e0:∀p:Eg,p.cells.toArray.extract 0 (0+4)=p.src.cells.toArray:=fun p=>rfl;have e4:∀p:Eg,p.cells.toArray.extract 4 (4+4)=p.dst.cells.toArray:=fun p=>rfl;rw[hf,P4 w (bd5 _ _ _ (e0 p) w) (bd5 _ _ _ (e0 q) w) (bd1 w d _ _) (P4 w (bd5 _ _ _ (e4 p) w) (bd5 _ _ _ (e4 q) w) (bd1 w d _ _) (P4 w (as9 _ _ _ rfl w) (as9 _ _ _ rfl w) (bg0 w (d+1) _ _) (aB1 w)))]
 congr 1
 cases p;cases q;simp[Eg.mk.injEq,Bool.decide_and]
theorem db5(w:World)(x y:Operand)(p q:Pa):(do eqGuard .eql 69 x y (.agg p.cells.toArray) (.agg q.cells.toArray);binOp .eql 69 (.agg p.cells.toArray) (.agg q.cells.toArray):Sem Value).run prog w = .ok (.bool (decide (p=q))) w:=by
 have hg:=run_eqGuard_agg (P:=prog) w .eql 69 x y p.cells.toArray q.cells.toArray (by kernel_rfl);have he:=run_eql_struct (P:=prog) w 69 p.cells.toArray q.cells.toArray;simp only[ex6,hg,ew9,he,cN4 w 9998 p q]
theorem bz4(w:World)(x y:Operand)(p q:Vx):(do eqGuard .eql 36 x y (.agg p.cells.toArray) (.agg q.cells.toArray);binOp .eql 36 (.agg p.cells.toArray) (.agg q.cells.toArray):Sem Value).run prog w = .ok (.bool (decide (p=q))) w:=by
 have hg:=run_eqGuard_agg (P:=prog) w .eql 36 x y p.cells.toArray q.cells.toArray (by kernel_rfl);have he:=run_eql_struct (P:=prog) w 36 p.cells.toArray q.cells.toArray;simp only[ex6,hg,ew9,he,bd1 w 9998 p q]
theorem cz6(w:World)(x y:Operand)(p q:Vx):(do eqGuard .neq 36 x y (.agg p.cells.toArray) (.agg q.cells.toArray);binOp .neq 36 (.agg p.cells.toArray) (.agg q.cells.toArray):Sem Value).run prog w = .ok (.bool (!decide (p=q))) w:=by
 have hg:=run_eqGuard_agg (P:=prog) w .neq 36 x y p.cells.toArray q.cells.toArray (by kernel_rfl);have he:=run_neq_struct (P:=prog) w 36 p.cells.toArray q.cells.toArray;simp only[ex6,hg,ew9,he,bd1 w 9998 p q]
theorem db4(w:World)(x y:Operand)(p q:Eg):(do eqGuard .eql 38 x y (.agg p.cells.toArray) (.agg q.cells.toArray);binOp .eql 38 (.agg p.cells.toArray) (.agg q.cells.toArray):Sem Value).run prog w = .ok (.bool (decide (p=q))) w:=by
 have hg:=run_eqGuard_agg (P:=prog) w .eql 38 x y p.cells.toArray q.cells.toArray (by kernel_rfl);have he:=run_eql_struct (P:=prog) w 38 p.cells.toArray q.cells.toArray;simp only[ex6,hg,ew9,he,cb4 w 9997 p q]
theorem de9(w:World)(x y:Operand)(p q:Eg):(do eqGuard .neq 38 x y (.agg p.cells.toArray) (.agg q.cells.toArray);binOp .neq 38 (.agg p.cells.toArray) (.agg q.cells.toArray):Sem Value).run prog w = .ok (.bool (!decide (p=q))) w:=by
 have hg:=run_eqGuard_agg (P:=prog) w .neq 38 x y p.cells.toArray q.cells.toArray (by kernel_rfl);have he:=run_neq_struct (P:=prog) w 38 p.cells.toArray q.cells.toArray;simp only[ex6,hg,ew9,he,cb4 w 9997 p q]
theorem eg7:af6 prog 192=true:=by kernel_rfl
instance:z6 Pa:=⟨Pa.cells,fun _ _ _=>eC0⟩
theorem SV.N{α:Type}[z7 α][z6 α]{h:Hp}{v:Value}{x:α}(hv:SV h v x):v = .agg (z6.cells x).toArray:=by
 obtain⟨cs,rfl,h1⟩:=hv;rw[(z6.iff_ _ _ _).1 h1]
theorem L9{P:Program}{op:BinOp}{t:TypeId}{a b:Array Value}:B7 P op t (.agg a) (.agg b)=none:=by
 cases op<;>rfl
theorem bE0(v:Value)(l:List Pa)(x:Pa)(w:World)(hv:R (d7 w) v l)(hl:l.length≤1000000000):
  Calls prog 192 #[v,.agg x.cells.toArray] w fun e w'=>∃u,e = .returned u∧(u = .int .i64 (V5 (fun y=>decide (x=y)) 0 l)∧o6 w w'):=by
 refine d9 (args:=[v,.agg x.cells.toArray]) hm func192 rfl (by kernel_rfl) (by show 2≤_;decide +kernel) ?_;have hS:=hv.isS;have hn:=hv.vlen;obtain⟨c,w1,hbx,hx1,hat⟩:=bZ9 (SV.ofN (d7 w) x) (i4 _);obtain⟨sx,hsx,_,sdx⟩:=hat.pa_v;obtain rfl:=hsx.N;have hbx':(Instr.box 69 (.agg x.cells.toArray)).run prog w = .ok (.pointer (some c)) w1:=hbx;simp only[m8,n9,simprocAttr,hbx',hS,hn];refine n8 [0,3,6,7] (σ:=Nat) (fun k f w'=>f 8 = .int .i64 k∧k≤l.length∧(∀j (hj:j<l.length),j<k→decide (x=l[j])=false)∧o6 w1 w') (fun k=>l.length-k) 0 (by decide +kernel) ?_ ?_
 ·simp only[p6,simprocAttr];exact⟨by trivial,ew4 _,fun j _ h=>by omega,o9.refl _⟩
 rintro k f w2 hk ⟨h8,hkl,hno,hx2⟩;simp only[ev4,p6,simprocAttr]at hk;obtain⟨e0,e3,e6,e7,_⟩:=hk;simp only[m8,n9,simprocAttr,h8,e7];refine i5 (fun hc=>?_) (fun hc=>?_);rotate_left
 ·have hge:k=l.length:=by simp at hc;omega
  subst hge;simp only[m8,simprocAttr];refine n7 results192 ?_;simp only[p6,simprocAttr];exact⟨by rw[as4 _ _ _ (bd3 fun j hj=>hno j hj hj)],hx1.trans hx2⟩
 have hlt:k<l.length:=by simpa using hc
 have hin:=hv.inS hlt;have hx2d:=hx2.trans (o6.drew w2);have t1:=sdx (fun w'=>o6 w2.drew w') w2.drew (o9.refl _) fun w' h=>b7 (hx2d.trans h);have hate:=hv.at_ (i:=k) (x:=l[k]) (ev2 hlt);have hz2:z7.sz Pa=2:=rfl;rw[hz2]at hate;obtain⟨se,hse,_,sde⟩:=hate.pa_v;obtain rfl:=hse.N;have t2:=sde (fun w'=>o6 w2.drew w') w2.drew (o9.refl _) fun w' h=>b7 (hx1.trans (hx2d.trans h));have hql:=fun w0 a b=>db5 w0 a b x l[k];rcases ev3 (decide (x=l[k]))with hq|hq
 ·simp only[m8,simprocAttr,h8];refine C2 (fun w'=>o6 w2.drew w') 5 (A8 [0,1,2,3,4]) (by decide +kernel) (o9.refl _) ?_;simp only[D5,A8,m8,n9,p9,simprocAttr,e0,e3,hin,t1,t2];simp only[m8,simprocAttr,L9,z6.cells,hql,hq];refine n7 results192 ?_;simp only[p6,simprocAttr];exact⟨by rw[am4 _ l 0 k hlt (fun j hj=>hno j (by omega) hj) hq,ey7],hx1.trans hx2d⟩
 ·simp only[m8,simprocAttr,h8];refine C2 (fun w'=>o6 w2.drew w') 5 (A8 [0,1,2,3,4]) (by decide +kernel) (o9.refl _) ?_;simp only[D5,A8,m8,n9,p9,simprocAttr,e0,e3,hin,t1,t2];simp only[m8,n9,simprocAttr,L9,z6.cells,hql,hq,h8];refine⟨k+1,by omega,by rw[B1 k (by omega)],by omega,fun j hj hjk=>?_,hx2d⟩;rcases ez0 j k with h|h
  ·exact hno j hj h
  ·obtain rfl:j=k:=by omega
   exact hq
theorem bI4{α:Type}(P:α→Bool):∀(l:List α) (i:Nat),decide (0≤V5 P i l)=l.any P
 | [],i=>by simp[V5]
 | x::l,i=>by
  rw[V5,List.any_cons];split
  ·next h=>simp[h]
  ·next h=>rw[bI4 P l (i+1)];simp[h]
theorem cq4{α:Type}[DecidableEq α](x:α):∀l:List α,(l.any fun y=>decide (x=y))=l.contains x
 | []=>rfl
 | y::l=>by
  rw[List.any_cons,cq4 x l,List.contains_cons];rfl
theorem ck9(v:Value)(l:List Pa)(x:Pa)(w:World)(hv:R (d7 w) v l)(hl:l.length≤1000000000):
  Calls prog 131 #[v,.agg x.cells.toArray] w fun e w'=>∃u,e = .returned u∧(u = .bool (l.contains x)∧o6 w w'):=by
 refine d9 (args:=[v,.agg x.cells.toArray]) hm func131 rfl (by kernel_rfl) (by show 2≤_;decide +kernel) ?_;obtain⟨c,w1,hbx,hx1,hat⟩:=bZ9 (SV.ofN (d7 w) x) (i4 _);obtain⟨sx,hsx,ldx,_⟩:=hat.pa_v;obtain rfl:=hsx.N;have hbx':(Instr.box 69 (.agg x.cells.toArray)).run prog w = .ok (.pointer (some c)) w1:=hbx;have l1:=ldx w1 (i4 _);simp only[m8,n9,simprocAttr,hbx',l1];refine B3 eg7 (bE0 v l x w1 (z7.mono (b7 hx1) hv) hl) (fun w2 hx2=>?_);simp only[m8,n9,simprocAttr];refine n7 results131 ?_;simp only[p6,simprocAttr];exact⟨by rw[bI4,cq4],hx1.trans hx2⟩
theorem aw4{α:Type}[z7 α]{h:Hp}{v:Value}{l:List (Ptr α)}(hv:R h v l){k:Nat}{p:Ptr α}(hk:l[k]?=some p):∃a,I8 h (H4 v k)=some (.pointer (some a))∧At h a p.to:=by
 obtain⟨_,es,he,hc⟩:=hv.get hk;obtain⟨a,es',rfl,h1,h2⟩:=he;have:=hc 0 _ rfl;rw[J8,show k*z7.sz (Ptr α)=k from eE8 k]at this;exact⟨a,this,es',h1,h2⟩
theorem ee5:af6 prog 130=true:=by kernel_rfl
theorem ee6:af6 prog 131=true:=by kernel_rfl
theorem cr4(n:A4)(b:Bool):B9 prog 69 [(0,o7 n),(1,.bool b)]=some (.agg (Pa.cells ⟨n,b⟩).toArray):=by
 simp[B9,ce7,J5,Instr.fill,Value.cells,o7,Pa.cells]
theorem aT3{α β:Type}(P:α→Bool)(g:α→List β):∀l:List α,(l.filter P).flatMap g=l.flatMap fun x=>if P x then g x else[]
 | []=>rfl
 | x::l=>by
  rw[List.filter_cons,eF4,←aT3 P g l];cases h:P x<;>simp
theorem V2{p:Pg}{i:Nat}(hi:i<p.procs.length):(J1 p)[i]?=some (D6 (b9 p) i):=by
 unfold J1;rw[ey8,eE0 hi];rfl
theorem cA6(a:Addr)(b:Bk)(p:Pg)(i:Nat)(w:World)(ha:At (d7 w) a b)(hok:cf7 p b)(hways:b.ways=J1 p)(hdefs:K0 (b9 p).l.length 100 b.defs)(hr:E4 p)(hw:C8 p≤1000000)(hi:i<p.procs.length):
  Calls prog 80 #[.pointer (some a),.int .i64 i] w fun e w'=>∃u,e = .returned u∧(A9 (d7 w) w' 9 u (X7 p b.defs i)∧o6 w w'):=by
 refine d9 (args:=[.pointer (some a),.int .i64 i]) hm func80 rfl (by kernel_rfl) (by show 2≤_;decide +kernel) ?_;obtain⟨x,pt⟩:=M9 hr.may hw i hi;have hwy:=P7 pt;generalize x+A7 p.procs[i].body=y at pt hwy;have h200:=J3 hr.may;have hlen:=pt.ok.len;obtain⟨sh,vw,vd,_,_,_,has,hvw,hvd,_,_,_,ldb,sdb⟩:=ha.book hok.s;obtain⟨_,_,_,_,_,_,hpg,_,_⟩:=has.sh;rw[I6]at hpg;obtain⟨vg,vp,hvg,hvp,ldp,sdp⟩:=hpg.pg;obtain⟨aw,hcw,haw⟩:=aw4 (hv:=hvw) (k:=i) (p:=⟨D6 (b9 p) i⟩) (by unfold Bk.wp;rw[hways,ey8,V2 hi];rfl);simp only at haw;have hinw:=hvw.inS (k:=i) (by unfold Bk.wp;rw[hways];unfold J1;simpa using hi);have lb:=ldb w (i4 _);have lp:=ldp w (i4 _);have hin:=hvp.inS hi;obtain⟨sv,hsv,hld⟩:=G1 (P:=prog) (t:=53) hvp (i4 _) (ev2 hi) ao0 ao4 ao1 O1;rw[O1]at hld;have hpl:=O0 hr.may hi;have hturn:∀n,V1 p i n=(M7 p n||p.procs[i].params.contains ⟨n,true⟩):=fun n=>by
  unfold V1;rw[List.getD,ev2 hi];rfl
 obtain⟨c,wz,w2,hal,hst,hx2,hatp⟩:=aG7 hsv (i4 _);obtain⟨vpa,_,_,_,hvpa,_,_,_,ldr,_⟩:=hatp.pr;have lb2:=ldb w2 (b7 hx2);generalize p.procs[i].params=pas at hturn hvpa hpl;simp only[m8,n9,p9,simprocAttr,lb,lp,hin,hld,hal,hst,lb2];refine y5 aY8 (aD3 (d7 w) sh (b9 p) i x y w2 has (b7 hx2) pt.ok) ?_;rintro ui w3 ⟨hui,hx3⟩;have hids:=pt.ids;have hlens:((b9 p).of i).length≤200:=by
  have:=pt.ok.of_;rw[this,eD7,ew6];omega
 have hF:X7 p b.defs i=((b9 p).of i).flatMap fun it=>if(D6 (b9 p) i).lives it.s.id then(F3 b.defs (it.s.id-1)).filter (V1 p i)else[]:=by
  unfold X7;rw[aT3]
 generalize hHd:(fun it:It=>if(D6 (b9 p) i).lives it.s.id then(F3 b.defs (it.s.id-1)).filter (V1 p i)else[])=H at hF;have hH:∀it,H it=if(D6 (b9 p) i).lives it.s.id then(F3 b.defs (it.s.id-1)).filter (V1 p i)else[]:=fun it=>by rw[←hHd]
 have hdrow:∀it∈(b9 p).of i,∃q:Nat,it.s.id-1=(q:Int)∧q<(b9 p).l.length:=fun it hit=>by
  have:=hids it hit;exact⟨(it.s.id-1).toNat,by omega,by omega⟩
 generalize(b9 p).of i=l at hui hF hids hlens hdrow;have hHl:∀it∈l,(H it).length≤100:=fun it hit=>by
  rw[hH];split
  ·obtain⟨q,e,hq⟩:=hdrow it hit;rw[e];exact ew0 (ey2 _ _) (hdefs.row hq).2.2
  ·simp
 have hbt:∀k,((l.take k).flatMap H).length≤20000:=fun k=>by
  refine ew0 (Q7 H 100 _ fun x hx=>hHl x (eD8 hx)) ?_;rw[ew6];have:min k l.length≤200:=by omega
  omega
 have hSi:=hui.isS;have hni:=hui.vlen;simp only[m8,n9,simprocAttr,hSi,hni];refine n8 [0,1,6,27,28] (σ:=Nat×Value) (fun s f w'=>f 29 = .int .i64 s.1∧f 5=s.2∧s.1≤l.length∧A9 (d7 w2) w' 9 s.2 ((l.take s.1).flatMap H)∧o6 w2 w') (fun s=>l.length-s.1) (0,.slice none 0 0) (by decide +kernel) ?_ ?_
 ·simp only[p6,simprocAttr];exact⟨by trivial,by trivial,ew4 _,by simpa using A9.nil _ _ _,hx3⟩
 rintro⟨k,u⟩ f w4 hk ⟨h29,h5,hkl,ho,hx4⟩;simp only at h29 h5 hkl ho;simp only[ev4,p6,simprocAttr]at hk;obtain⟨e0,e1,e6,e27,e28,_⟩:=hk;have hpre:=hbt k;simp only[m8,n9,simprocAttr,h29,e28];refine i5 (fun hc=>?_) (fun hc=>?_);rotate_left
 ·have hge:k=l.length:=by simp at hc;omega
  subst hge;rw[ew5]at ho;simp only[m8,simprocAttr,h5];refine n7 results80 ?_;simp only[p6,simprocAttr];exact⟨by rw[hF];exact ho.back hx2,hx2.trans hx4⟩
 have hlt:k<l.length:=by simpa using hc
 clear hin hld hst hsv;have hin:=hui.inS hlt;obtain⟨sv,hsv,hld⟩:=G1 (P:=prog) (t:=127) hui (b7 (hx2.trans hx4)) (ev2 hlt) X9 Y1 Y0 I9;rw[I9]at hld;have htk:=J0 H l hlt;have hmem:=ew2 hlt;have hid:=hids _ hmem;obtain⟨q,hqe,hq⟩:=hdrow _ hmem;have hHe:=hH l[k];generalize l[k]=it at hsv htk hid hqe hHe;generalize(l.take k).flatMap H=pre at ho hpre htk;obtain⟨d,wz5,w5,hal5,hst5,hx5,hati⟩:=ax8 (hsv.mono (b7 (hx2.trans hx4))) (i4 _);obtain⟨hats,_,_⟩:=hati.it;obtain⟨_,_,_,_,_,_,_,_,_,_,sds⟩:=hats.st;have hx45:=hx5.trans (o6.drew w5);have hx25:=hx4.trans hx45;have hx05:=hx2.trans hx25;have ho5:=ho.ext hx45;have hh0:∀w',o6 w5.drew w'→B4 (d7 w) (d7 w'):=fun w' h=>b7 (hx05.trans h);have t1:=sds (fun w'=>o6 w5.drew w') w5.drew (o9.refl _) fun w' h=>b7 ((o6.drew w5).trans h);have t2:=sdb (fun w'=>o6 w5.drew w') w5.drew (o9.refl _) hh0;have t3:=cd8 (P:=prog) (t:=102) hcw aq9 (fun w'=>o6 w5.drew w') w5.drew (o9.refl _) hh0;simp only[m8,n9,p9,simprocAttr,h29,e27,hin,hld,hal5,hst5];refine C2 (fun w'=>o6 w5.drew w') 10 (A8 [0,1,2,3,4,5,6,7,8,9]) (by decide +kernel) (o9.refl _) ?_;simp only[D5,A8,m8,n9,p9,simprocAttr,e0,e1,t1,t2,t3,hinw];refine B3 ee5 (cg2 aw (D6 (b9 p) i) p i x y it.s.id w5.drew (haw.mono (b7 hx05)) hwy.toWyOk hid hwy.live) (fun w6 hx6=>?_);have hx26:=hx25.trans hx6;have ho6:=ho5.ext hx6;generalize(D6 (b9 p) i).lives it.s.id=lv at hHe;rcases ev3 lv with hlv|hlv<;>subst hlv;rotate_left
 ·simp only[m8,n9,simprocAttr,h29,h5];refine⟨(k+1,u),by simp only[];omega,by simp only[];rw[B1 k (by omega)],by trivial,by simp only[];omega,?_,hx26⟩;simp only[];rw[htk,hHe,if_neg (by simp),ey6];exact ho6
 rw[if_pos rfl,hqe]at hHe;obtain⟨hrow,_,hfew⟩:=hdefs.row hq;generalize F3 b.defs (q:Int)=row at hrow hfew hHe;obtain⟨ud,hud,hcd⟩:=R.row hvd hrow;have hind:=hvd.inS (ev8.1 hrow).1;have hx26d:=hx26.trans (o6.drew w6);have hx06d:=hx2.trans hx26d;have hh6:∀w',o6 w6.drew w'→B4 (d7 w) (d7 w'):=fun w' h=>b7 (hx06d.trans h);have t4:=sds (fun w'=>o6 w6.drew w') w6.drew (o9.refl _) fun w' h=>b7 ((o6.drew w5).trans (hx6.trans ((o6.drew w6).trans h)));have t5:=sdb (fun w'=>o6 w6.drew w') w6.drew (o9.refl _) hh6;have t6:=cd8 (P:=prog) (t:=22) hcd M4 (fun w'=>o6 w6.drew w') w6.drew (o9.refl _) hh6;have hwq:IntKind.i64.wrap (it.s.id-1)=(q:Int):=by rw[hqe];exact K1 _ (by omega)
 have hSd:=hud.isS;have hnd:=hud.vlen;have ho6d:=ho6.ext (o6.drew w6);simp only[m8,n9,simprocAttr];refine C2 (fun w'=>o6 w6.drew w') 12 (A8 [0,1,2,3,4,5,6,7,8,9,10,11]) (by decide +kernel) (o9.refl _) ?_;simp only[D5,A8,m8,n9,p9,simprocAttr,e0,t4,t5,t6,hwq,hind,hSd,hnd];refine n8 [0,1,6,27,28,29,54,55] (σ:=Nat×Value) (fun s f w'=>f 56 = .int .i64 s.1∧f 5=s.2∧s.1≤row.length∧A9 (d7 w2) w' 9 s.2 (pre++(row.take s.1).filter (V1 p i))∧o6 w2 w') (fun s=>row.length-s.1) (0,u) (by decide +kernel) ?_ ?_
 ·simp only[p6,simprocAttr];exact⟨by trivial,h5,ew4 _,by simpa using ho6d,hx26d⟩
 rintro⟨m,u7⟩ f7 w7 hk ⟨h56,h57,hml,ho7,hx7⟩;simp only at h56 h57 hml ho7;simp only[ev4,p6,simprocAttr]at hk;obtain⟨j0,j1,j6,j27,j28,j29,j54,j55,_⟩:=hk;rw[e0]at j0;rw[e1]at j1;rw[e6]at j6;rw[h29]at j29;have hx07:=hx2.trans hx7;have hcl:((row.take m).filter (V1 p i)).length≤100:=ew0 (ey2 _ _) (by rw[ew6];omega);simp only[m8,n9,simprocAttr,h56,j55];refine i5 (fun hc2=>?_) (fun hc2=>?_);rotate_left
 ·have hge:m=row.length:=by simp at hc2;omega
  subst hge;rw[ew5]at ho7;simp only[m8,n9,simprocAttr,j29];refine⟨(k+1,u7),by simp only[];omega,by simp only[];rw[B1 k (by omega)],h57,by simp only[];omega,?_,hx7⟩;simp only[];rw[htk,hHe];exact ho7
 have hltm:m<row.length:=by simpa using hc2
 clear hin hld;have hin:=hud.inS hltm;have hld:=ldS hud (b7 hx07) hltm;have htm:=ag4 (V1 p i) row hltm;generalize row[m]=n at hld htm;rw[hturn]at htm;have hskip:(M7 p n||pas.contains ⟨n,true⟩)=false→∀w8,o6 w7 w8→∃s':Nat×Value,row.length-s'.1<row.length-m∧(Value.int .i64 (IntKind.i64.wrap ((m:Int)+1)) = .int .i64 s'.1∧u7=s'.2∧s'.1≤row.length∧A9 (d7 w2) w8 9 s'.2 (pre++(row.take s'.1).filter (V1 p i))∧o6 w2 w8):=fun hf w8 hx8=>by
  refine⟨(m+1,u7),by simp only[];omega,by rw[B1 m (by omega)],by trivial,by simp only[];omega,?_,hx7.trans hx8⟩;simp only[];rw[htm,hf,if_neg (by simp),ey6];exact ho7.ext hx8
 have hpush:(M7 p n||pas.contains ⟨n,true⟩)=true→∀u8 w8,A9 (d7 w2) w8 9 u8 (pre++(row.take m).filter (V1 p i)++[n])→o6 w2 w8→∃s':Nat×Value,row.length-s'.1<row.length-m∧(Value.int .i64 (IntKind.i64.wrap ((m:Int)+1)) = .int .i64 s'.1∧u8=s'.2∧s'.1≤row.length∧A9 (d7 w2) w8 9 s'.2 (pre++(row.take s'.1).filter (V1 p i))∧o6 w2 w8):=fun hf u8 w8 ho8 hx8=>by
  refine⟨(m+1,u8),by simp only[];omega,by rw[B1 m (by omega)],by trivial,by simp only[];omega,?_,hx8⟩;simp only[];rw[htm,hf,if_pos rfl,←ex9];exact ho8
 simp only[m8,n9,p9,simprocAttr,h56,j0,j54,hin,hld];refine D1 cw0 (aJ4 a b p n w7 (ha.mono (b7 hx07)) hok.s hr.may) ?_;rcases ev3 (M7 p n)with h1|h1
 ·obtain⟨p1,u8,w8,p2,p3,p4,p5⟩:=at1 (e:=22) ho7 n (by rw[ev5];omega) (b7 hx7);simp only[m8,n9,simprocAttr,h1,h56,h57,p1,p2];exact hpush (by rw[h1];rfl) _ _ p3 (ho7.ext2 hx7 p4)
 ·have lr7:=ldr w7 (b7 hx7);simp only[m8,n9,simprocAttr,h1,j6,lr7,cr4];refine B3 ee6 (ck9 vpa pas ⟨n,true⟩ w7 (z7.mono (b7 hx7) hvpa) (by omega)) (fun w8 hx8=>?_);rcases ev3 (pas.contains ⟨n,true⟩)with h2|h2
  ·obtain⟨p1,u9,w9,p2,p3,p4,p5⟩:=at1 (e:=22) (ho7.ext hx8) n (by rw[ev5];omega) (b7 (hx7.trans hx8));simp only[m8,n9,simprocAttr,h2,h56,h57,p1,p2];exact hpush (by rw[h1,h2];rfl) _ _ p3 ((ho7.ext hx8).ext2 (hx7.trans hx8) p4)
  ·simp only[m8,n9,simprocAttr,h2,h56,h57];exact hskip (by rw[h1,h2];rfl) _ hx8
structure NJ (M:Nat) (nx:List (List Int)) (hit:Nat→Bool) (todo:List Int) (seen:List Bool) (x:Int→Prop):Prop where
 len:seen.length=M
 td:∀c∈todo,H3 M c=true∧Way nx 0 c
 done:∀c:Int,H3 M c=true→(c=0∨B2 seen c=true)→c∈todo∨x c∨(hit c.toNat=false∧∀d∈C1 nx c,B2 seen d=true)
section
variable {M:Nat} {nx:List (List Int)} {hit:Nat→Bool} {todo:List Int} {seen:List Bool} {x:Int→Prop}
theorem NJ.start(h0:H3 M 0=true):NJ M nx hit [0] (List.replicate M false) (fun _=>False):=by
 refine⟨by simp,fun c hc=>?_,fun c _ hc=>?_⟩
 ·simp at hc;subst hc;exact⟨h0,.refl⟩
 ·rcases hc with rfl|hc
  ·exact .inl (by simp)
  ·rw[ar7]at hc;cases hc
theorem NJ.pop{c:Int}(h:NJ M nx hit (todo++[c]) seen (fun _=>False)):NJ M nx hit todo seen (fun d=>d=c)∧H3 M c=true∧Way nx 0 c:=by
 refine⟨⟨h.len,fun d hd=>h.td d (eA2 _ hd),fun d hd hs=>?_⟩,h.td c (by simp)⟩;rcases h.done d hd hs with h1|h1|h1
 ·rcases ew7.1 h1 with h2|h2
  ·exact .inl h2
  ·exact .inr (.inl (by simpa using h2))
 ·exact h1.elim
 ·exact .inr (.inr h1)
theorem NJ.close{c:Int}(h:NJ M nx hit todo seen (fun d=>d=c))(hh:hit c.toNat=false)(hr:∀d∈C1 nx c,B2 seen d=true):NJ M nx hit todo seen (fun _=>False):=by
 refine⟨h.len,h.td,fun d hd hs=>?_⟩;rcases h.done d hd hs with h1|h1|h1
 ·exact .inl h1
 ·subst h1;exact .inr (.inr ⟨hh,hr⟩)
 ·exact .inr (.inr h1)
theorem NJ.push{d:Int}(h:NJ M nx hit todo seen x)(hd:H3 M d=true)(hw:Way nx 0 d):NJ M nx hit (todo++[d]) (seen.set d.toNat true) x:=by
 have hk:H3 seen.length d=true:=by rw[h.len];exact hd
 have hmono:∀e,B2 seen e=true→B2 (seen.set d.toNat true) e=true:=fun e he=>by
  rw[M6 hk];split
  ·rfl
  ·exact he
 refine⟨by rw[eC2,h.len],fun c hc=>?_,fun c hc hs=>?_⟩
 ·rcases ew7.1 hc with hc|hc
  ·exact h.td c hc
  ·simp at hc;subst hc;exact⟨hd,hw⟩
 ·by_cases hcd:c=d
  ·subst hcd;exact .inl (by simp)
  ·rw[M6 hk,if_neg hcd]at hs;rcases h.done c hc hs with h1|h1|h1
   ·exact .inl (eA2 _ h1)
   ·exact .inr (.inl h1)
   ·exact .inr (.inr ⟨h1.1,fun e he=>hmono e (h1.2 e he)⟩)
theorem NJ.fin(h:NJ M nx hit [] seen (fun _=>False))(hok:OkR nx)(hl:nx.length=M)(h0:H3 M 0=true):∀c,Way nx 0 c→hit c.toNat=false:=by
 have key:∀c,Way nx 0 c→H3 M c=true∧(c=0∨B2 seen c=true):=fun c hc=>by
  induction hc with
  | refl=>exact⟨h0,.inl rfl⟩
  | step _ hb ih=>
   refine⟨by rw[←hl];exact hok _ _ hb,.inr ?_⟩;rcases h.done _ ih.1 ih.2 with h1|h1|h1
   ·simp at h1
   ·exact h1.elim
   ·exact h1.2 _ hb
 intro c hc;obtain⟨h1,h2⟩:=key c hc;rcases h.done c h1 h2 with h3|h3|h3
 ·simp at h3
 ·exact h3.elim
 ·exact h3.1
end
theorem bT6{α:Type}{l:List α}{n:Nat}(h:l.length=n+1):∃(t:List α) (c:α),l=t++[c]∧t.length=n∧l[n]?=some c∧l.take n=t:=by
 have hn:n<l.length:=by omega
 refine⟨l.take n,l[n],?_,by rw[ew6];omega,ev2 hn,rfl⟩;have:=ew1 hn;rw[←this,ez7 (by omega)]
theorem cA9{α:Type}[z7 α]{h:Hp}{w:World}{T:TypeId}{v:Value}{xs:List α}(ho:A9 h w T v xs){i:Nat}(hi:i≤xs.length){sz:Nat}:
  A9 h w T (reS v 0 i sz) (xs.take i)∧∀b,A3 (reS v 0 i sz) b↔A3 v b:=by
 rcases ho with⟨rfl,rfl⟩|⟨b,c,cur,rfl,h1,h2,h3,h4,h5,h6⟩
 ·have:i=0:=by simpa using hi
  subst this;exact⟨.inl ⟨rfl,rfl⟩,fun b=>eC0⟩
 ·have e:reS (.slice (some ⟨b,0,none⟩) xs.length c) 0 i sz = .slice (some ⟨b,0,none⟩) i c:=by
   simp only[reS,Nat.zero_mul,eB4,Nat.sub_zero,J8,ite_self]
  rw[e];have hl:(xs.take i).length=i:=by rw[ew6];omega
  refine⟨.inr ⟨b,c,cur,by rw[hl],h1,h2,by omega,h4,h5,?_⟩,fun b'=>eC0⟩;rw[hl];have hs:xs=xs.take i++xs.drop i:=(eA3 i xs).symm;rw[hs]at h6;obtain⟨c1,c2,e1,e2,_⟩:=Z5 _ _ h6;have hlen:=J7 e2;rw[hl]at hlen;rw[←hs]at e1;have:cur.toList.take (i*z7.sz α)=c1:=by
   have h7:(cur.toList.take (xs.length*z7.sz α)).take (i*z7.sz α)=c1:=by rw[e1,←hlen,eE4]
   rw[List.take_take,eB8 (eD6 _ hi)]at h7;exact h7
  rw[this];exact e2
theorem ee7:af6 prog 133=true:=by kernel_rfl
theorem ee8:af6 prog 134=true:=by kernel_rfl
theorem cc0:af6 prog 70=true:=by kernel_rfl
theorem cz7{p:Pg}{i x y:Nat}{wy:Wy}(hr:E4 p)(hw:C8 p≤1000000)(hi:i<p.procs.length)(hok:ai4 p i x y wy):OkR wy.net∧wy.net.length=wy.n.toNat∧∀r∈wy.net,r.length≤1000000:=by
 have hpr:=bf5 hr hw hi hok;have hdl:=aN0 hr hw hi hok;have hl:wy.net.length=wy.n.toNat:=aO8 _ _;have e:wy.net=aj2 wy.n.toNat (wy.pairs wy.data):=rfl;refine⟨fun a b hb=>?_,hl,fun r hr'=>?_⟩
 ·unfold C1 at hb;split at hb
  ·next ha=>
   have hm:wy.net.getD a.toNat []∈wy.net:=by
    rw[List.getD,ev2 (by omega)];exact ew2 _
   rw[e]at hm;obtain⟨t,ht,rfl⟩:=(aO9 hm).2 b hb;have:=(hpr t ht).2;rw[hl];exact C5.2 ⟨by omega,by omega⟩
  ·simp at hb
 ·rw[e]at hr';have h1:=(aO9 hr').1;have h2:(wy.pairs wy.data).length=wy.data.length:=ew3 _;omega
theorem cm6(a:Addr)(b:Bk)(p:Pg)(i:Nat)(vn:Value)(name:A4)(w:World)(ha:At (d7 w) a b)(hok:cf7 p b)(hways:b.ways=J1 p)(hdefs:K0 (b9 p).l.length 100 b.defs)(huses:K0 (b9 p).l.length 2000000 b.uses)
  (hr:E4 p) (hw:C8 p≤1000000) (hi:i<p.procs.length) (hvn:R (d7 w) vn (D6 (b9 p) i).net) :
  Calls prog 134 #[.pointer (some a),.int .i64 i,vn,o7 name] w fun e w'=>∃u,e = .returned u∧(u = .bool (aw0 (D6 (b9 p) i) (F3 b.outs i) b.uses b.defs name)∧o6 w w'):=by
 refine d9 (args:=[.pointer (some a),.int .i64 i,vn,o7 name]) hm func134 rfl (by kernel_rfl) (by show 4≤_;decide +kernel) ?_;obtain⟨x,pt⟩:=M9 hr.may hw i hi;have hwy:=P7 pt;generalize x+A7 p.procs[i].body=y at pt hwy;have h200:=J3 hr.may;have hlen:=pt.ok.len;have hle':=pt.ok.le;have hn:=hwy.n;obtain⟨hnok,hnl,hnr⟩:=cz7 hr hw hi hwy;obtain⟨sh,vw,vd,vu,_,vo,has,hvw,hvd,hvu,_,hvo,ldb,_⟩:=ha.book hok.s;obtain⟨aw,hcw,haw⟩:=aw4 (hv:=hvw) (k:=i) (p:=⟨D6 (b9 p) i⟩) (by unfold Bk.wp;rw[hways,ey8,V2 hi];rfl);simp only at haw;have hinw:=hvw.inS (k:=i) (by unfold Bk.wp;rw[hways];unfold J1;simpa using hi);obtain⟨horow,horise,hofew⟩:=hok.outs.row hi;generalize D6 (b9 p) i=wy at hwy hn hnok hnl hnr hvn haw ⊢;have hnn:wy.n=((wy.n.toNat:Nat):Int):=by omega
 have hM2:2≤wy.n.toNat:=by omega
 have hM200:wy.n.toNat≤202:=by omega
 have hplace:=hwy.toWyOk.place;have hnd:=bu5 (outs:=F3 b.outs i) (uses:=b.uses) (defs:=b.defs) (name:=name) hnok hnl (by omega);have hhit:∀c:Nat,bS9 wy (F3 b.outs i) b.uses name c=if(c:Int)=wy.n-1 then(F3 b.outs i).contains name else !decide (c=0)&&(F3 b.uses (wy.place c-1)).contains name:=fun c=>rfl;have hhalt:∀c:Nat,aO0 wy b.uses b.defs name c=(decide ((c:Int)=wy.n-1) || !decide (c=0)&&((F3 b.uses (wy.place c-1)).contains name||(F3 b.defs (wy.place c-1)).contains name)):=fun c=>rfl;generalize bS9 wy (F3 b.outs i) b.uses name=hit at hnd hhit;generalize aO0 wy b.uses b.defs name=halt at hnd hhalt;generalize aw0 wy (F3 b.outs i) b.uses b.defs name=res at hnd ⊢;obtain⟨uo,huo,hco⟩:=R.row hvo horow;have hino:=hvo.inS (ev8.1 horow).1;have hsok:=as7 hnok halt;have hsl:=W5 wy.net halt;have hsrow:=ak6 wy.net halt;rw[hnl]at hsl;generalize aq2 wy.net halt=nx at hnd hsok hsl hsrow;obtain⟨_,_,_,_,_,_,ldw,_⟩:=haw.wy;generalize hM:wy.n.toNat=M at hnd hnl hsl hnn hM2 hM200;have h0:H3 M 0=true:=C5.2 ⟨by omega,by omega⟩;obtain⟨ib,hib,hib1⟩:=aR2 (P:=prog) S7 aD5;have lb:=ldb w (i4 _);have lw:=ldw w (i4 _);have hlw:=G4 (P:=prog) (t:=102) hcw (i4 _) aq9;obtain⟨vs,w1,hmk,hos,hx1,hfr1,_⟩:=mk (P:=prog) (w:=w) (h:=d7 w) (α:=Bool) bp9 S7 (y:=false) rfl (n:=M) (by omega) (by omega) (i4 _);rw[←hnn]at hmk;obtain⟨vt,w2,hl2,hot,hx2,hfr2⟩:=lit (P:=prog) (w:=w1) (h:=d7 w) (α:=Int) (xs:=[.int .i64 0]) (ys:=[0]) (parts:=#[(0,.int .i64 0)]) (n:=1) ad0 rfl (K9.2 rfl) (by simp[Value.cells]) rfl rfl (by simp) (by simp) (b7 hx1);have hwn1:IntKind.i64.wrap (wy.n-1)=((M-1:Nat):Int):=by rw[K1 _ (by omega)];omega
 simp only[m8,n9,p9,simprocAttr,lb,hinw,hlw,lw,hmk,hl2];refine n8 [0,1,2,3,9,10] (σ:=Value×List Int×List Bool) (fun s f w'=>f 11=s.1∧A9 (d7 w) w' 3 s.1 s.2.1∧A9 (d7 w) w' 4 vs s.2.2∧(∀b,A3 s.1 b→¬A3 vs b)∧o6 w w'∧NJ M nx hit s.2.1 s.2.2 (fun _=>False)∧s.2.1.length+s.2.2.count false≤203) (fun s=>s.2.1.length+s.2.2.count false) (vt,[0],List.replicate M false) (by decide +kernel) ?_ ?_
 ·simp only[p6,simprocAttr];refine⟨by trivial,hot,hos.ext hx2,fun b hb hb2=>?_,hx1.trans hx2,NJ.start h0,by simp only[ey3];have:=List.count_le_length (a:=false) (l:=List.replicate M false);rw[eA1]at this;omega⟩;have:=hos.lt hb2;have:=hfr2 b hb;omega
 rintro⟨v,todo,seen⟩ f w3 hk ⟨h11,ho,hos3,hdj,hx3,hJ,hbd⟩;simp only at h11 ho hos3 hdj hJ hbd;simp only[ev4,p6,simprocAttr]at hk;obtain⟨e0,e1,e2,e3,e9,e10,_⟩:=hk;have hSt:=ho.isS;have hnt:=ho.vlen;have hcap:=ho.vcap;have hslen:=hJ.len;simp only[m8,n9,simprocAttr,h11,hSt,hnt];refine i5 (fun hc=>?_) (fun hc=>?_);rotate_left
 ·have ht0:todo=[]:=by
   have:¬(0:Int)<(todo.length:Int):=by simpa using hc
   exact List.length_eq_zero_iff.1 (by omega)
  subst ht0;have hno:=hJ.fin hsok hsl h0;have hres:res=false:=by
   cases hrs:res with
   | false=>rfl
   | true=>
    obtain⟨c,hc1,hc2,hc3⟩:=hnd.1 hrs;have:=hno _ hc3;rw[ex8,hc2]at this;cases this
  simp only[m8,simprocAttr];refine n7 results134 ?_;simp only[p6,simprocAttr];exact⟨by rw[hres],hx3⟩
 obtain⟨n,hn1⟩:∃n,todo.length=n+1:=⟨todo.length-1,by have:(0:Int)<(todo.length:Int):=by simpa using hc
                                                     omega⟩
 obtain⟨td,c,rfl,htl,htc,htt⟩:=bT6 hn1;obtain⟨hJ2,hck,hcw2⟩:=hJ.pop;obtain⟨hc0,hcM⟩:=C5.1 hck;obtain⟨C,rfl⟩:∃C:Nat,c=(C:Int):=⟨c.toNat,by omega⟩;have hCM:C<M:=by omega
 have hwl:IntKind.i64.wrap (((n+1:Nat):Int)-1)=(n:Int):=by rw[K1 _ (by omega)];omega
 rw[hn1]at hnt;have hin:=ho.inS (k:=n) (by omega);have hld:(Instr.loadAt 3 (.pointer (some (H4 v n)))).run prog w3 = .ok (.int .i64 (C:Int)) w3:=D4 (P:=prog) ho htc G3;obtain⟨hot2,hblk⟩:=cA9 (sz:=1) ho (i:=n) (by omega);rw[htt]at hot2;have hcapd:decide ((n:Int)≤(vcap v:Int))=true:=by simp;omega
 have hdj2:∀b,A3 (reS v 0 n 1) b→¬A3 vs b:=fun b hb=>hdj b ((hblk b).1 hb);have lw3:=ldw w3 (b7 hx3);have lb3:=ldb w3 (b7 hx3);have hlr:=G4 (P:=prog) (t:=22) hco (b7 hx3) M4;generalize hv2:reS v 0 n 1=v2 at hot2 hdj2;have hmeas:td.length+seen.count false<(td++[(C:Int)]).length+seen.count false:=by rw[ev5];simp
 have hbd2:td.length+seen.count false≤203:=by omega
 have hhC:=hhit C;have hlC:=hhalt C;have hrC:=hsrow (C:Int);rw[ex8]at hrC;have hcont:halt C=true→hit C=false→NJ M nx hit td seen (fun _=>False):=fun h1 h2=>hJ2.close h2 (by rw[hrC,if_pos h1];simp);have hyes:hit C=true→res=true:=fun h1=>hnd.2 ⟨C,hCM,h1,hcw2⟩;have hCe:decide ((C:Int)=((M-1:Nat):Int))=decide ((C:Int)=wy.n-1):=by rw[ez8];omega
 rcases ev3 (decide ((C:Int)=((M-1:Nat):Int)))with hq|hq
 ·have hq':(C:Int)=wy.n-1:=by rw[hCe]at hq;exact ev6 hq
  rw[if_pos hq']at hhC;rw[eC8 hq']at hlC;simp only[m8,n9,p9,F8,simprocAttr,h11,hSt,hnt,hwl,hin,hld,hcapd,hv2,e9,lw3,hwn1,hq,e0,e1,e3,lb3,hino,hlr];refine D1 bI2 (aa9 uo _ name w3 (z7.mono (b7 hx3) huo) (by omega) horise) ?_;rw[←hhC];rcases ev3 (hit C)with h1|h1
  ·simp only[m8,simprocAttr,h1];refine n7 results134 ?_;simp only[p6,simprocAttr];exact⟨by rw[hyes h1],hx3⟩
  ·simp only[m8,simprocAttr,h1];exact⟨(v2,td,seen),hmeas,by trivial,hot2,hos3,hdj2,hx3,hcont hlC h1,hbd2⟩
 have hq':¬(C:Int)=wy.n-1:=by rw[hCe]at hq;exact ev7 hq
 rw[if_neg hq']at hhC;rw[eI1 hq',eI5]at hlC;simp only[cJ6,n9,p9,F8,simprocAttr,h11,hSt,hnt,hwl,hin,hld,hcapd,hv2,e9,lw3,hwn1];rw[co8];simp only[cJ6,n9,simprocAttr,hq];refine bI8 [0,1,2,3,9,10,11,12] (fun f' w'=>hit C=false∧halt C=false∧o6 w3 w') (by decide +kernel) ?_ ?_
 ·rcases Nat.eq_zero_or_pos C with hC0|hC0
  ·subst hC0;simp only[m8,n9,simprocAttr];exact⟨by rw[hhC];simp,by rw[hlC];simp,o9.refl _⟩
  ·have hdC:decide ((0:Int)<(C:Int))=true:=by simpa using hC0
   have hC0':(!decide (C=0))=true:=by simp;omega
   obtain⟨q,hqe,hqL⟩:∃q:Nat,wy.place (C:Int)-1=(q:Int)∧q<(b9 p).l.length:=by
    refine⟨x+C-1,?_,by omega⟩;rw[hplace,if_neg (by omega),if_neg hq'];omega
   have hwq:IntKind.i64.wrap (wy.place (C:Int)-1)=(q:Int):=by rw[hqe];exact K1 _ (by omega)
   rw[hqe,hC0',eE6]at hhC hlC;obtain⟨hurow,hurise,hufew⟩:=huses.row hqL;obtain⟨hdrow,hdrise,hdfew⟩:=hdefs.row hqL;generalize F3 b.uses (q:Int)=ur at hurow hurise hufew hhC hlC;generalize F3 b.defs (q:Int)=dr at hdrow hdrise hdfew hlC;obtain⟨uu,huu,hcu⟩:=R.row hvu hurow;obtain⟨ud,hud,hcd⟩:=R.row hvd hdrow;have hinu:=hvu.inS (ev8.1 hurow).1;have hind:=hvd.inS (ev8.1 hdrow).1;simp only[m8,simprocAttr,hdC,e9];refine B3 bh6 (aa5 aw wy p i x y (C:Int) w3 (haw.mono (b7 hx3)) hwy.toWyOk (by omega)) (fun w4 hx4=>?_);have hx04:=hx3.trans hx4;have lb4:=ldb w4 (b7 hx04);have hlu:=G4 (P:=prog) (t:=22) hcu (b7 hx04) M4;have hlD:=G4 (P:=prog) (t:=22) hcd (b7 hx04) M4;simp only[m8,n9,p9,simprocAttr,e0,e3,lb4,hwq,hinu,hlu];refine D1 bI2 (aa9 uu ur name w4 (z7.mono (b7 hx04) huu) (by omega) hurise) ?_;rcases ev3 (ur.contains name)with h1|h1
   ·simp only[m8,simprocAttr,h1];refine n7 results134 ?_;simp only[p6,simprocAttr];exact⟨by rw[hyes (by rw[hhC];exact h1)],hx04⟩
   rw[h1]at hhC;rw[h1,eI5]at hlC;simp only[m8,n9,p9,simprocAttr,h1,e0,e3,lb4,hwq,hind,hlD];refine D1 bI2 (aa9 ud dr name w4 (z7.mono (b7 hx04) hud) (by omega) hdrise) ?_;rcases ev3 (dr.contains name)with h2|h2
   ·rw[h2]at hlC;simp only[m8,simprocAttr,h2];exact⟨(v2,td,seen),hmeas,by trivial,hot2.ext hx4,hos3.ext hx4,hdj2,hx04,hcont hlC hhC,hbd2⟩
   ·rw[h2]at hlC;simp only[m8,simprocAttr,h2];exact⟨hhC,hlC,hx4⟩
 rintro f4 w4 hk ⟨hh0,hl0,hx4⟩;simp only[ev4,p6,simprocAttr]at hk;obtain⟨r0,r1,r2,r3,r9,r10,r11,r12,_⟩:=hk;rw[e0]at r0;rw[e1]at r1;rw[e2]at r2;rw[e3]at r3;rw[e9]at r9;rw[e10]at r10;rw[hl0,if_neg (by simp)]at hrC;have hrF:C1 wy.net (C:Int)=wy.net.getD C []:=by
  unfold C1;rw[if_pos ⟨by omega,by omega⟩,ex8]
 rw[hrF]at hrC;have hgR:wy.net[C]?=some (wy.net.getD C []):=by rw[List.getD,ev2 (by omega)];rfl
 have hrl:=hnr _ (ex2 hgR);have hinR:=hvn.inS (ev8.1 hgR).1;obtain⟨uR,huR,hcR⟩:=R.row hvn hgR;have hrk:∀d∈wy.net.getD C [],H3 M d=true:=fun d hd=>by
  have:=hnok (C:Int) d (by rw[hrF];exact hd);rw[hnl]at this;exact this
 generalize wy.net.getD C []=row at hrC hrl huR hrk;have hx04:=hx3.trans hx4;have hlR:=G4 (P:=prog) (t:=118) hcR (b7 hx04) O6;have hSR:=huR.isS;have hnR:=huR.vlen;simp only[m8,n9,p9,simprocAttr,r2,r12,hinR,hlR,hSR,hnR];refine n8 [0,1,2,3,9,10,87,88] (σ:=(Nat×Value)×(List Int×List Bool)) (fun s f w'=>f 89 = .int .i64 s.1.1∧f 11=s.1.2∧s.1.1≤row.length∧A9 (d7 w) w' 3 s.1.2 s.2.1∧A9 (d7 w) w' 4 vs s.2.2∧(∀b,A3 s.1.2 b→¬A3 vs b)∧o6 w w'∧NJ M nx hit s.2.1 s.2.2 (fun d=>d=(C:Int))∧(∀j (hj:j<row.length),j<s.1.1→B2 s.2.2 row[j]=true)∧s.2.1.length+s.2.2.count false=td.length+seen.count false) (fun s=>row.length-s.1.1) ((0,v2),(td,seen)) (by decide +kernel) ?_ ?_
 ·simp only[p6,simprocAttr];exact⟨by trivial,r11,ew4 _,hot2.ext hx4,hos3.ext hx4,hdj2,hx04,hJ2,fun j hj h=>by omega,by trivial⟩
 rintro⟨⟨j,v6⟩,td6,sn6⟩ f6 w6 hk ⟨h89,h116,hjl,ho6,hos6,hdj6,hx6,hJ6,hrow6,hcnt6⟩;simp only at h89 h116 hjl ho6 hos6 hdj6 hJ6 hrow6 hcnt6;simp only[ev4,p6,simprocAttr]at hk;obtain⟨j0,j1,j2,j3,j9,j10,j87,j88,_⟩:=hk;rw[r0]at j0;rw[r1]at j1;rw[r2]at j2;rw[r3]at j3;rw[r9]at j9;rw[r10]at j10;simp only[m8,n9,simprocAttr,h89,j88];refine i5 (fun hc2=>?_) (fun hc2=>?_);rotate_left
 ·have hge:j=row.length:=by simp at hc2;omega
  subst hge;have hJ7:=hJ6.close (by rw[ex8];exact hh0) (fun d hd=>by
   rw[hrC]at hd;obtain⟨k,hk,rfl⟩:=eA8.1 hd;exact hrow6 k hk hk)
  simp only[m8,simprocAttr];exact⟨(v6,td6,sn6),by simp only[];omega,h116,ho6,hos6,hdj6,hx6,hJ7,by simp only[];omega⟩
 have hlt:j<row.length:=by simpa using hc2
 have hinj:=huR.inS hlt;have hldj:=aH4 huR (b7 hx6) hlt;have hdk:=hrk _ (ew2 hlt);have hdm:row[j]∈C1 nx (C:Int):=by rw[hrC];exact ew2 hlt
 have hrow7:∀sn:List Bool,(∀e,B2 sn6 e=true→B2 sn e=true)→B2 sn row[j]=true→∀k (hk:k<row.length),k<j+1→B2 sn row[k]=true:=fun sn hm hd k hk hkj=>by
  rcases ez0 k j with h|h
  ·exact hm _ (hrow6 k hk h)
  ·obtain rfl:k=j:=by omega
   exact hd
 generalize row[j]=d at hldj hdk hdm hrow7;obtain⟨hd0,hdM⟩:=C5.1 hdk;obtain⟨D,rfl⟩:∃D:Nat,d=(D:Int):=⟨d.toNat,by omega⟩;have hsl6:=hJ6.len;have hDs:D<sn6.length:=by omega
 have hinD:=hos6.inS hDs;have hldD:(Instr.loadAt 4 (.pointer (some (H4 vs D)))).run prog w6 = .ok (.bool sn6[D]) w6:=D4 (P:=prog) hos6 (ev2 hDs) ao9;have hbD:B2 sn6 (D:Int)=sn6[D]:=by
  rw[(M0 (by rw[hsl6];exact hdk)).2,ex8,List.getD,ev2 hDs];rfl
 have hcs:=ab9 (l:=sn6) hDs;generalize sn6[D]=sb at hldD hbD hcs;rcases ev3 sb with h1|h1<;>subst h1
 ·simp only[m8,n9,p9,simprocAttr,h89,j10,j87,hinj,hldj,hinD,hldD];exact⟨((j+1,v6),(td6,sn6)),by simp only[];omega,by simp only[];rw[B1 j (by omega)],h116,by simp only[];omega,ho6,hos6,hdj6,hx6,hJ6,hrow7 sn6 (fun _ h=>h) hbD,hcnt6⟩
 ·have hcs:=hcs rfl;obtain⟨w7,s1,hos7,hm7,_⟩:=D9 (P:=prog) (t:=4) hos6 rfl hDs (x:=.bool true) (y:=true) rfl rfl hib hib1;have ho7:=ho6.mod hm7 hdj6;have hx7:=hos6.ext2 hx6 hm7;obtain⟨p1,u8,w8,p2,p3,p4,p5⟩:=push (P:=prog) (t:=118) (e:=118) ad0 rfl ho7 (x:=.int .i64 (D:Int)) (y:=(D:Int)) rfl (by omega) (by omega) (b7 hx7);simp only[Value.cells]at p1 p2;have hos8:=hos7.mod p4 fun b hb h=>hdj6 b h hb;have hJ8:=hJ6.push hdk (Way.step hcw2 hdm);rw[ex8]at hJ8;have hok6:H3 sn6.length (D:Int)=true:=by rw[hsl6];exact hdk
  have hbs:∀e,B2 (sn6.set D true) e=if e=(D:Int)then true else B2 sn6 e:=fun e=>by
   have:=M6 (l:=sn6) (a:=(D:Int)) (b:=e) (v:=true) hok6;rw[ex8]at this;exact this
  simp only[m8,n9,p9,simprocAttr,h89,h116,j10,j87,hinj,hldj,hinD,hldD,s1,p1,p2];refine⟨((j+1,u8),(td6++[(D:Int)],sn6.set D true)),by simp only[];omega,by simp only[];rw[B1 j (by omega)],by trivial,by simp only[];omega,p3,hos8,fun b hb hb2=>?_,ho7.ext2 hx7 p4,hJ8,hrow7 _ (fun e he=>?_) ?_,?_⟩
  ·rcases p5 b hb with h|h
   ·exact hdj6 b h hb2
   ·have:=hos7.lt hb2;omega
  ·rw[hbs];split
   ·rfl
   ·exact he
  ·rw[hbs,if_pos rfl]
  ·simp only[ev5,ey3];omega
theorem cO1(a:Addr)(b:Bk)(p:Pg)(i:Nat)(w:World)(ha:At (d7 w) a b)(hok:cf7 p b)(hways:b.ways=J1 p)(hdefs:K0 (b9 p).l.length 100 b.defs)(huses:K0 (b9 p).l.length 2000000 b.uses)
  (hr:E4 p) (hw:C8 p≤1000000) (hi:i<p.procs.length) :
  Calls prog 83 #[.pointer (some a),.int .i64 i] w fun e w'=>∃u,e = .returned u∧(A9 (d7 w) w' 9 u (ay3 p b.outs b.uses b.defs i)∧o6 w w'):=by
 refine d9 (args:=[.pointer (some a),.int .i64 i]) hm func83 rfl (by kernel_rfl) (by show 2≤_;decide +kernel) ?_;obtain⟨x,pt⟩:=M9 hr.may hw i hi;have hwy:=P7 pt;generalize x+A7 p.procs[i].body=y at pt hwy;obtain⟨sh,vw,_,_,_,_,has,hvw,_,_,_,_,ldb,_⟩:=ha.book hok.s;obtain⟨_,_,_,_,_,_,hpg,_,_⟩:=has.sh;rw[I6]at hpg;obtain⟨vg,vp,hvg,hvp,ldp,_⟩:=hpg.pg;obtain⟨aw,hcw,haw⟩:=aw4 (hv:=hvw) (k:=i) (p:=⟨D6 (b9 p) i⟩) (by unfold Bk.wp;rw[hways,ey8,V2 hi];rfl);simp only at haw;have hinw:=hvw.inS (k:=i) (by unfold Bk.wp;rw[hways];unfold J1;simpa using hi);have hgl:=(Q8 hr.may).1;have lb:=ldb w (i4 _);have hlw:=G4 (P:=prog) (t:=102) hcw (i4 _) aq9;simp only[m8,n9,p9,simprocAttr,lb,hinw,hlw];refine y5 ee7 (cK4 aw (D6 (b9 p) i) p i x y w haw hr hw hi hwy) ?_;rintro un w2 ⟨hun,hx2⟩;have lb2:=ldb w2 (b7 hx2);have lp2:=ldp w2 (b7 hx2);simp only[m8,n9,simprocAttr,lb2,lp2];refine y5 cc0 (al9 vg p.globals w2 (z7.mono (b7 hx2) hvg) (by omega)) ?_;rintro uc w3 ⟨hoc,hx3⟩;obtain⟨p1,ul,w4,p2,p3,p4,p5⟩:=at1 (e:=22) hoc W9 (by omega) (b7 hx3);have p1':(Instr.buildSlice 22 1 #[(0,.string ⟨#[36,105,110]⟩)]).run prog w3=_:=p1;have hx24:o6 w2 w4:=hoc.ext2 hx3 p4;have hul:=p3.rw_ (b7 hx24);have hF:ay3 p b.outs b.uses b.defs i=(p.globals++[W9]).filter (aw0 (D6 (b9 p) i) (F3 b.outs i) b.uses b.defs):=rfl;have hgl2:(p.globals++[W9]).length≤17:=by rw[ev5,ey3];omega
 generalize p.globals++[W9]=gl at hul hF hgl2;generalize hP:aw0 (D6 (b9 p) i) (F3 b.outs i) b.uses b.defs=P at hF;have hSl:=hul.isS;have hnl:=hul.vlen;simp only[m8,n9,simprocAttr,p1',p2,hSl,hnl];refine n8 [0,1,6,27,28] (σ:=Nat×Value) (fun s f w'=>f 29 = .int .i64 s.1∧f 5=s.2∧s.1≤gl.length∧A9 (d7 w4) w' 9 s.2 ((gl.take s.1).filter P)∧o6 w4 w') (fun s=>gl.length-s.1) (0,.slice none 0 0) (by decide +kernel) ?_ ?_
 ·simp only[p6,simprocAttr];exact⟨by trivial,by trivial,ew4 _,by simpa using A9.nil _ _ _,o9.refl _⟩
 rintro⟨k,u⟩ f w5 hk ⟨h29,h5,hkl,ho,hx5⟩;simp only at h29 h5 hkl ho;simp only[ev4,p6,simprocAttr]at hk;obtain⟨e0,e1,e6,e27,e28,_⟩:=hk;have hx05:=hx2.trans (hx24.trans hx5);have hx25:=hx24.trans hx5;simp only[m8,n9,simprocAttr,h29,e28];refine i5 (fun hc=>?_) (fun hc=>?_);rotate_left
 ·have hge:k=gl.length:=by simp at hc;omega
  subst hge;rw[ew5]at ho;simp only[m8,simprocAttr,h5];refine n7 results83 ?_;simp only[p6,simprocAttr];exact⟨by rw[hF];exact ho.back (hx2.trans hx24),hx05⟩
 have hlt:k<gl.length:=by simpa using hc
 have hin:=hul.inS hlt;have hld:=ldS hul (b7 hx5) hlt;have htk:=ag4 P gl hlt;have hcl:((gl.take k).filter P).length≤17:=ew0 (ey2 _ _) (by rw[ew6];omega);generalize gl[k]=n at hld htk;simp only[m8,n9,p9,simprocAttr,h29,e0,e1,e6,e27,hin,hld];refine B3 ee8 (cm6 a b p i un n w5 (ha.mono (b7 hx05)) hok hways hdefs huses hr hw hi (z7.mono (b7 hx25) hun)) (fun w6 hx6=>?_);rw[hP];rcases ev3 (P n)with h1|h1
 ·obtain⟨q1,u7,w7,q2,q3,q4,q5⟩:=at1 (e:=22) (ho.ext hx6) n (by omega) (b7 (hx5.trans hx6));simp only[m8,n9,simprocAttr,h1,h29,h5,q1,q2];refine⟨(k+1,u7),by simp only[];omega,by simp only[];rw[B1 k (by omega)],by trivial,by simp only[];omega,?_,(ho.ext hx6).ext2 (hx5.trans hx6) q4⟩;simp only[];rw[htk,h1,if_pos rfl];exact q3
 ·simp only[m8,n9,simprocAttr,h1,h29,h5];refine⟨(k+1,u),by simp only[];omega,by simp only[];rw[B1 k (by omega)],by trivial,by simp only[];omega,?_,hx5.trans hx6⟩;simp only[];rw[htk,h1,if_neg (by simp),ey6];exact ho.ext hx6
def nB(gb:Nat)(vx vy:Value)(Z:Nat→Prop)(b:Nat):Prop:=b=gb∨A3 vx b∨A3 vy b∨Z b
structure BM {α β:Type} [z7 α] [z7 β] (H:Hp) (w0 wz w:World) (Z:Nat→Prop) (gb:Nat) (TB TX TY:TypeId) (cells:Value→Array Value) (vx vy:Value) (xs:List α) (ys:List β):Prop where
 ext:o6 w0 w
 ge:w0.heap.size≤gb
 cb:w.heap[gb]?=some (.cells (cells vx) TB (0,0))
 ox:A9 (B5 w (nB gb vx vy Z)) w TX vx xs
 oy:A9 (B5 w (nB gb vx vy Z)) w TY vy ys
 dx:∀b,A3 vx b→w0.heap.size≤b∧b≠gb∧¬A3 vy b∧¬Z b
 dy:∀b,A3 vy b→w0.heap.size≤b∧b≠gb∧¬Z b
 dz:∀b,Z b→b≠gb∧b<wz.heap.size
 zk:∀b,Z b→w.heap[b]?=wz.heap[b]?
 sz:wz.heap.size≤w.heap.size
 base:B4 H (B5 w (nB gb vx vy Z))
section
variable {α β:Type} [z7 α] [z7 β] {H:Hp} {w0 wz w:World} {Z:Nat→Prop} {gb:Nat} {TB TX TY:TypeId} {cells:Value→Array Value} {vx vy:Value} {xs:List α} {ys:List β} {P:Program}
theorem BM.lt(s:BM H w0 wz w Z gb TB TX TY cells vx vy xs ys){b:Nat}(h:nB gb vx vy Z b):b<w.heap.size:=by
 rcases h with rfl|h|h|h
 ·exact(ev9.1 s.cb).1
 ·exact s.ox.lt h
 ·exact s.oy.lt h
 ·have:=(s.dz b h).2;have:=s.sz;omega
theorem BM.more(s:BM H w0 wz w Z gb TB TX TY cells vx vy xs ys){w':World}(hx:o6 w w'):BM H w0 wz w' Z gb TB TX TY cells vx vy xs ys:=by
 have hl:B4 (B5 w (nB gb vx vy Z)) (B5 w' (nB gb vx vy Z)):=H1 hx (fun _ h=>h.elim) fun b h=>.inl h;have hN:∀(v:Value),(∀b,A3 v b→nB gb vx vy Z b)→∀b,A3 v b→B5 w' (nB gb vx vy Z) b=none:=fun v hv b hb=>H8 (hv b hb);exact⟨s.ext.trans hx,s.ge,(hx.block gb (ev9.1 s.cb).1 id).trans s.cb,(s.ox.ext hx).up hl (hN vx fun b h=>.inr (.inl h)),(s.oy.ext hx).up hl (hN vy fun b h=>.inr (.inr (.inl h))),s.dx,s.dy,s.dz,
  fun b h=>(hx.block b (s.lt (.inr (.inr (.inr h)))) id).trans (s.zk b h),ew0 s.sz hx.size,p8 s.base hl⟩
theorem BM.fresh(s:BM H w0 wz w Z gb TB TX TY cells vx vy xs ys){γ:Type}[G7 γ]{w':World}{T:TypeId}{u:Value}{l:List γ}(ho:A9 (d7 w) w' T u l):R (B5 w' (nB gb vx vy Z)) u l:=
 (ho.down (h:=fun _=>none) (fun _ _ h=>by cases h)).ro (fun _ _ h=>by cases h) fun b hb=>D3 fun h=>by
  have h1:=s.lt h;have h2:=C9 (ho.free hb);omega
theorem BM.reset(s:BM H w0 wz w Z gb TB TX TY cells vx vy xs ys){ix:Nat}(hix:ix<(cells vx).size)(hset:∀v v',(cells v).setIfInBounds ix v'=cells v'){t:TypeId}{inf:TypeInfo}(hinf:P.info? t=some inf)(hs:inf.size=1):
  ∃w',(Instr.storeAt t (.pointer (some ⟨gb,ix,none⟩)) (.slice none 0 0)).run P w = .ok () w'∧BM H w0 wz w' Z gb TB TX TY cells (.slice none 0 0) vy ([]:List α) ys:=by
 obtain⟨w',h1,h2,h3⟩:=ah2 (P:=P) (t:=t) (x:=.slice none 0 0) s.cb hix rfl rfl hinf hs;rw[hset]at h2;have hl:B4 (B5 w (nB gb vx vy Z)) (B5 w' (nB gb (.slice none 0 0) vy Z)):=H1 h3 (fun b h=>.inl h) fun b h=>by
  rcases h with h|h|h
  ·exact .inl (.inl h)
  ·exact absurd h D0
  ·exact .inl (.inr (.inr h))
 refine⟨w',h1,o9.ext_of s.ext h3 fun b hb=>by subst hb;exact s.ge,s.ge,h2,A9.nil _ _ _,?_,fun b hb=>absurd hb D0,s.dy,s.dz,fun b h=>(h3.block b (s.lt (.inr (.inr (.inr h)))) (s.dz b h).1).trans (s.zk b h),ew0 s.sz h3.size,p8 s.base hl⟩;exact(s.oy.mod h3 fun b hb=>(s.dy b hb).2.1).up hl fun b hb=>H8 (.inr (.inr (.inl hb)))
theorem BM.push(s:BM H w0 wz w Z gb TB TX TY cells vx vy xs ys){t e:TypeId}{sz by_:Nat}(hsl:F2 P t TX sz by_=true)(hsz:z7.sz α=sz){x:Value}{y:α}(hy:z7.enc (B5 w (nB gb vx vy Z)) x.cells.toList y)
  (hl:xs.length+1≤1000000000000) (hb:(xs.length+1)*by_≤140737488355328) {ix:Nat} (hix:ix<(cells vx).size) (hset:∀v v',(cells v).setIfInBounds ix v'=cells v') {inf:TypeInfo} (hinf:P.info? t=some inf) (hs:inf.size=1) :
  (Instr.buildSlice t 1 #[(0,x)]).run P w = .ok (.slice (some ⟨w.heap.size,0,none⟩) 1 1) (w.alloc (.cells x.cells TX)) ∧
  ∃v' w' w'',(Builtin.append_ #[t,t] e #[vx,.slice (some ⟨w.heap.size,0,none⟩) 1 1]).run P (w.alloc (.cells x.cells TX)) = .ok v' w'∧(Instr.storeAt t (.pointer (some ⟨gb,ix,none⟩)) v').run P w' = .ok () w'' ∧
   BM H w0 wz w'' Z gb TB TX TY cells v' vy (xs++[y]) ys∧o9 (A3 vx) w w':=by
 obtain⟨p1,v',w',p2,p3,p4,p5⟩:=Go.Proofs.YtdgicngfmfldmaaGreat.push (P:=P) (e:=e) hsl hsz s.ox hy hl hb (C0 _ _);have hgb:w'.heap[gb]?=some (.cells (cells vx) TB (0,0)):=(p4.block gb (ev9.1 s.cb).1 fun h=>(s.dx gb h).2.1 rfl).trans s.cb;obtain⟨w'',h1,h2,h3⟩:=ah2 (P:=P) (t:=t) (x:=v') hgb hix (D8 p3.isS) (V6 p3.isS) hinf hs;rw[hset]at h2;have hx1:o6 w0 w':=o9.ext_of s.ext p4 fun b hb=>(s.dx b hb).1;have hl1:B4 (B5 w (nB gb vx vy Z)) (B5 w' (nB gb v' vy Z)):=H1 p4 (fun b h=>.inr (.inl h)) fun b h=>by
  rcases h with h|h|h
  ·exact .inl (.inl h)
  ·rcases p5 b h with h|h
   ·exact .inl (.inr (.inl h))
   ·exact .inr h
  ·exact .inl (.inr (.inr h))
 have hl2:B4 (B5 w' (nB gb v' vy Z)) (B5 w'' (nB gb v' vy Z)):=H1 h3 (fun b h=>.inl h) fun b h=>.inl h;have hlt:=fun b (h:nB gb vx vy Z b)=>s.lt h;have hv':∀b,A3 v' b→w0.heap.size≤b∧b≠gb∧¬A3 vy b∧¬Z b:=fun b hb=>by
  rcases p5 b hb with h|h
  ·exact s.dx b h
  ·refine⟨ew0 s.ext.size h,fun e=>?_,fun h2=>?_,fun h2=>?_⟩
   ·have:=hlt b (.inl e);omega
   ·have:=hlt b (.inr (.inr (.inl h2)));omega
   ·have:=hlt b (.inr (.inr (.inr h2)));omega
 refine⟨p1,v',w',w'',p2,h1,⟨o9.ext_of hx1 h3 fun b hb=>by subst hb;exact s.ge,s.ge,h2,?_,?_,hv',s.dy,s.dz,fun b h=>?_,ew0 s.sz (ew0 p4.size h3.size),p8 s.base (p8 hl1 hl2)⟩,p4⟩
 ·exact(p3.mod h3 fun b hb=>(hv' b hb).2.1).up (p8 hl1 hl2) fun b hb=>H8 (.inr (.inl hb))
 ·exact((s.oy.mod p4 fun b hb h=>(s.dx b h).2.2.1 hb).mod h3 fun b hb=>(s.dy b hb).2.1).up (p8 hl1 hl2) fun b hb=>H8 (.inr (.inr (.inl hb)))
 ·have hb:=hlt b (.inr (.inr (.inr h)));exact(h3.block b (eC1 hb p4.size) (s.dz b h).1).trans ((p4.block b hb fun h2=>(s.dx b h2).2.2.2 h).trans (s.zk b h))
theorem BM.set(s:BM H w0 wz w Z gb TB TX TY cells vx vy xs ys)(hz:z7.sz β=1){k:Nat}(hk:k<ys.length){u:Value}{y:β}(hy:z7.enc (B5 w (nB gb vx vy Z)) [u] y)(hu:u.cells=#[u]){t:TypeId}{inf:TypeInfo}(hinf:P.info? t=some inf)(hs:inf.size=1):
  ∃w',(Instr.storeAt t (.pointer (some (H4 vy k))) u).run P w = .ok () w'∧BM H w0 wz w' Z gb TB TX TY cells vx vy xs (ys.set k y):=by
 obtain⟨w',q1,q2,q3,_⟩:=D9 (P:=P) (t:=t) s.oy hz hk (x:=u) hy hu hinf hs;have hl:B4 (B5 w (nB gb vx vy Z)) (B5 w' (nB gb vx vy Z)):=H1 q3 (fun b h=>.inr (.inr (.inl h))) fun b h=>.inl h;refine⟨w',q1,o9.ext_of s.ext q3 fun b hb=>(s.dy b hb).1,s.ge,(q3.block gb (ev9.1 s.cb).1 fun h=>(s.dy gb h).2.1 rfl).trans s.cb,?_,?_,s.dx,s.dy,s.dz,fun b h=>(q3.block b (s.lt (.inr (.inr (.inr h)))) fun h2=>(s.dy b h2).2.2 h).trans (s.zk b h),ew0 s.sz q3.size,p8 s.base hl⟩
 ·exact(s.ox.mod q3 fun b hb h=>(s.dx b hb).2.2.1 h).up hl fun b hb=>H8 (.inr (.inl hb))
 ·exact q2.up hl fun b hb=>H8 (.inr (.inr (.inl hb)))
theorem BM.rx(s:BM H w0 wz w Z gb TB TX TY cells vx vy xs ys):R (d7 w) vx xs:=s.ox.rw_ (C0 _ _)
theorem BM.ry(s:BM H w0 wz w Z gb TB TX TY cells vx vy xs ys):R (d7 w) vy ys:=s.oy.rw_ (C0 _ _)
theorem BM.hb(s:BM H w0 wz w Z gb TB TX TY cells vx vy xs ys):B4 H (d7 w):=p8 s.base (C0 _ _)
end
theorem br9{α:Type}[z7 α]{h k:Hp}:∀{n:Nat} {cs:List Value},N0 h cs (List.replicate n ([]:List α))→N0 k cs (List.replicate n ([]:List α))
 | 0,_,e=>e
 | n+1,cs,⟨c1,c2,e,h1,h2⟩=>⟨c1,c2,e,by
   obtain⟨a,m,c,e1,e2,e3,es,e4,e5⟩:=h1;refine⟨a,m,c,e1,e2,e3,es,e4,fun j v hj=>?_⟩;have:es=[]:=e4;rw[this]at hj;simp at hj,br9 h2⟩
theorem A9.renil{α:Type}[z7 α]{h k:Hp}{w w':World}{T:TypeId}{v:Value}{n:Nat}(ho:A9 h w T v (List.replicate n ([]:List α)))(hk:∀b,A3 v b→k b=none)(hw:∀b,A3 v b→w'.heap[b]?=w.heap[b]?):A9 k w' T v (List.replicate n ([]:List α)):=by
 rcases ho with⟨rfl,h2⟩|⟨b,c,cur,rfl,h1,h2,h3,h4,h5,h6⟩
 ·exact .inl ⟨rfl,h2⟩
 ·exact .inr ⟨b,c,cur,rfl,hk b rfl,(hw b rfl).trans h2,h3,h4,h5,br9 h6⟩
theorem aD2{n B:Nat}{X:Rws}(h:K0 n B X)(i:Int):(F3 X i).length≤B:=by
 unfold F3;rw[List.getD];cases hx:X[i.toNat]? with
 | none=>simp
 | some r=>exact h.few r (ex2 hx)
theorem aE4{p:Pg}(hm:N1 p=true){n:Nat}{X:Rws}(h:K0 n 25 X){s:St}(hf:s.kind=4→ac1 p s=true):(aa7 p X s).length≤100:=by
 unfold aa7;split
 ·simp
 split
 ·simp
 split
 ·simp
 split
 ·rename_i h4;obtain⟨k,hk⟩:=V4 (hf h4);have h1:=O0 hm hk.lt;have h2:=hk.len;unfold ai7;rw[hk.fn];have h3:=aD2 h (S5 p.procs s.proc);have h5:=ey2 (fun x:Ar×Pa=>x.1.ref&&(F3 X (S5 p.procs s.proc)).contains x.2.name) (s.args.zip (p.procs[k]'hk.lt).params);rw[List.length_zip]at h5;have h6:=ey2 (M7 p) (F3 X (S5 p.procs s.proc));have h7:(if s.name=e0 then([]:List A4)else[s.name]).length≤1:=by split<;>simp
  simp only[ev5,ew3];omega
 ·simp
theorem aW2{p:Pg}{n:Nat}{X:Rws}(h:K0 n 25 X){s:St}(hw:O5 s≤1000000):(ai2 p X s).length≤2000000:=by
 rw[P8]at hw;have h1:=aa1 s.x;have h2:=L7 s.args;have h3:=aD2 h (S5 p.procs s.proc);unfold ai2;simp only[ev5];have h4:(if s.kind=2 then[W9]else[]).length≤1:=by split<;>simp
 have h5:(if s.kind=4 then s.args.flatMap I7++F3 X (S5 p.procs s.proc)else[]).length≤Y7 s.args+25:=by
  split
  ·rw[ev5];omega
  ·simp
 omega
theorem aQ3{l:List It}{f:It→List A4}{B:Nat}(hB:∀it∈l,(f it).length≤B):K0 l.length B (l.map fun it=>C6 (f it)):=by
 refine⟨by simp,fun r hr=>?_,fun r hr=>?_⟩
 ·obtain⟨it,_,rfl⟩:=ey0.1 hr;exact P6 _
 ·obtain⟨it,hit,rfl⟩:=ey0.1 hr;exact ew0 (aq1 _) (hB it hit)
def aK6(new old:Rws)(i:Nat):Rws:=new.take i++old.drop i
section
variable {new old:Rws} {n i:Nat}
theorem bA6(h1:new.length=n)(h2:old.length=n):(aK6 new old i).length=n:=by
 unfold aK6;rw[ev5,ew6,eD7];omega
theorem bJ5:aK6 new old 0=old:=by simp[aK6]
theorem cc9(h1:new.length=n)(h2:old.length=n):aK6 new old n=new:=by
 unfold aK6;rw[ez7 (by omega),List.drop_eq_nil_of_le (by omega),ey6]
theorem cd0(h1:new.length=n)(hi:i<n):(aK6 new old i)[i]?=old[i]?:=by
 unfold aK6;rw[ez6 (by rw[ew6];omega),ew6,eF0]
 congr 1;omega
theorem cd1(h1:new.length=n)(h2:old.length=n)(hi:i<n){x:List A4}(hx:new[i]?=some x):(aK6 new old i).set i x=aK6 new old (i+1):=by
 unfold aK6;have hl:(new.take i).length=i:=by rw[ew6];omega
 rw[List.set_append_right _ _ (by omega),hl,Nat.sub_self,ez4 (by omega),List.set_cons_zero,eH3,hx];simp
theorem cz3{B:Nat}(h1:K0 n B new)(h2:K0 n B old):K0 n B (aK6 new old i):=by
 have key:∀r∈aK6 new old i,r∈new∨r∈old:=fun r hr=>by
  rcases ew7.1 hr with h|h
  ·exact .inl (eD8 h)
  ·exact .inr (eF9 h)
 exact⟨bA6 h1.len h2.len,fun r hr=>(key r hr).elim (h1.rise r) (h2.rise r),fun r hr=>(key r hr).elim (h1.few r) (h2.few r)⟩
end
theorem dE5:af6 prog 38=true:=by kernel_rfl
theorem es3:af6 prog 77=true:=by kernel_rfl
theorem bI0:af6 prog 78=true:=by kernel_rfl
theorem es4:af6 prog 79=true:=by kernel_rfl
theorem es5:af6 prog 80=true:=by kernel_rfl
theorem dE9:af6 prog 81=true:=by kernel_rfl
theorem es6:af6 prog 82=true:=by kernel_rfl
theorem es7:af6 prog 83=true:=by kernel_rfl
theorem cd9:F2 prog 95 22 1 24=true:=by kernel_rfl
theorem dJ1:F2 prog 94 102 1 8=true:=by kernel_rfl
theorem cq6(s vi vo:Value)(hs:s.cells=#[s])(hi:vi.cells=#[vi])(ho:vo.cells=#[vo]):B9 prog 97 [(0,s),(4,vi),(5,vo)]=some (.agg #[s,.slice none 0 0,.slice none 0 0,.slice none 0 0,vi,vo]):=by
 simp[B9,cZ5,J5,Instr.fill,hs,hi,ho]
def SBs(gs:Nat)(vL vLo vHi:Value)(b:Nat):Prop:=b=gs∨A3 vL b∨A3 vLo b∨A3 vHi b
theorem ShS.lts{h:Hp}{w:World}{gb:Nat}{vg vp vL vLo vHi:Value}{L:List It}{lo hi:List Int}(s:ShS h w gb vg vp vL vLo vHi L lo hi){b:Nat}(hb:SBs gb vL vLo vHi b):b<w.heap.size:=by
 rcases hb with rfl|hb|hb|hb
 ·exact s.lt
 ·exact s.oL.lt hb
 ·exact s.oLo.lt hb
 ·exact s.oHi.lt hb
theorem aS7{k:Hp}{gb j:Nat}{cs:Array Value}{T:TypeId}{fr:Nat×Nat}{u:Value}(hk:k gb=some (.cells cs T fr))(hj:cs[j]?=some u):I8 k ((⟨gb,0,none⟩:Addr).add j)=some u:=by
 rw[add_lit,ey7];unfold I8;rw[hk];simpa using hj
theorem ShS.atK{h k:Hp}{w:World}{gb:Nat}{vg vp vL vLo vHi:Value}{L:List It}{lo hi:List Int}{p:Pg}(s:ShS h w gb vg vp vL vLo vHi L lo hi)(hk:B4 h k)(hkb:∀b,SBs gb vL vLo vHi b→k b=w.heap[b]?)(hg:R h vg p.globals)(hp:R h vp p.procs):At k ⟨gb,0,none⟩ (⟨p,L,lo,hi⟩:Sh):=by
 refine⟨[vg,vp,vL,vLo,vHi],⟨[vg,vp],vL,vLo,vHi,rfl,⟨vg,vp,rfl,z7.mono hk hg,z7.mono hk hp⟩,s.oL.ro hk fun b h=>hkb b (.inr (.inl h)),s.oLo.ro hk fun b h=>hkb b (.inr (.inr (.inl h))),s.oHi.ro hk fun b h=>hkb b (.inr (.inr (.inr h)))⟩,fun j u hj=>?_⟩;exact aS7 ((hkb gb (.inl rfl)).trans s.cell) (by simpa using hj)
theorem dz6{k:Hp}{gb:Nat}{sh:Addr}{wy:Wy}{vr vl:Value}(hh:k gb=some (.cells #[.pointer (some sh),.int .i64 wy.proc,.int .i64 wy.n,vr,vl] 153 (0,0)))(hs:At k sh wy.s)(hr:R k vr wy.real)(hl:R k vl wy.live):At k ⟨gb,0,none⟩ wy:=
 ⟨[.pointer (some sh),.int .i64 wy.proc,.int .i64 wy.n,vr,vl],⟨_,_,_,rfl,hs.ptr,hr,hl⟩,fun j u hj=>aS7 hh (by simpa using hj)⟩
theorem BM.freshN{α β:Type}[z7 α][z7 β]{H:Hp}{w0 wz w:World}{Z:Nat→Prop}{gb:Nat}{TB TX TY:TypeId}{cells:Value→Array Value}{vx vy:Value}{xs:List α}{ys:List β}(s:BM H w0 wz w Z gb TB TX TY cells vx vy xs ys){γ:Type}[z7 γ][z6 γ]{w':World}{T:TypeId}{u:Value}{l:List γ}(ho:A9 (d7 w) w' T u l):R (B5 w' (nB gb vx vy Z)) u l:=
 ho.flatRN fun b hb=>D3 fun h=>by
  have h1:=s.lt h;have h2:=C9 (ho.free hb);omega
theorem cn4(p:Pg):b9 p=⟨p,(b9 p).l,(b9 p).lo,(b9 p).hi⟩:=by
 have:=I6 p;cases hq:b9 p;rw[hq]at this;simp only at this;rw[this]
structure NI (wd w:World) (p:Pg) (us vi vo:Value):Prop where
 sh:∃gs vg vp vL vLo vHi,us = .pointer (some ⟨gs,0,none⟩)∧ShS (d7 wd) w gs vg vp vL vLo vHi (b9 p).l (b9 p).lo (b9 p).hi∧R (d7 wd) vg p.globals∧R (d7 wd) vp p.procs∧∀b,SBs gs vL vLo vHi b→wd.heap.size≤b∧¬A3 vi b∧¬A3 vo b
 oi:A9 (d7 wd) w 22 vi (List.replicate p.procs.length ([]:List A4))
 oo:A9 (d7 wd) w 22 vo (List.replicate p.procs.length ([]:List A4))
 gi:∀b,A3 vi b→wd.heap.size≤b∧¬A3 vo b
 go:∀b,A3 vo b→wd.heap.size≤b
 ext:o6 wd w
theorem NI.mk'{wd w:World}{p:Pg}{gs:Nat}{vg vp vL vLo vHi vi vo:Value}(s1 e1 s2 e2 s3 e3:Nat)(hsh:ShS (d7 wd) w gs vg vp vL vLo vHi (b9 p).l (b9 p).lo (b9 p).hi)(hg:R (d7 wd) vg p.globals)(hp:R (d7 wd) vp p.procs)
  (h1:∀b,SBs gs vL vLo vHi b→s1≤b∧b<e1) (h2:∀b,A3 vi b→s2≤b∧b<e2) (h3:∀b,A3 vo b→s3≤b∧b<e3) (d12:e1≤s2∨e2≤s1) (d13:e1≤s3∨e3≤s1) (d23:e2≤s3∨e3≤s2) (hs:wd.heap.size≤s1∧wd.heap.size≤s2∧wd.heap.size≤s3)
  (hoi:A9 (d7 wd) w 22 vi (List.replicate p.procs.length ([]:List A4))) (hoo:A9 (d7 wd) w 22 vo (List.replicate p.procs.length ([]:List A4))) (hx:o6 wd w):NI wd w p (.pointer (some ⟨gs,0,none⟩)) vi vo:=by
 refine⟨⟨gs,vg,vp,vL,vLo,vHi,rfl,hsh,hg,hp,fun b hb=>⟨?_,fun h=>?_,fun h=>?_⟩⟩,hoi,hoo,fun b hb=>⟨?_,fun h=>?_⟩,fun b hb=>?_,hx⟩
 ·have:=h1 b hb;omega
 ·have:=h1 b hb;have:=h2 b h;omega
 ·have:=h1 b hb;have:=h3 b h;omega
 ·have:=h2 b hb;omega
 ·have:=h2 b hb;have:=h3 b h;omega
 ·have:=h3 b hb;omega
theorem bU6{p:Pg}(hm:N1 p=true){D:Rws}(hD:K0 (b9 p).l.length 100 D)(h200:(b9 p).l.length≤200)(i:Nat)(hw:C8 p≤1000000)(hi:i<p.procs.length):(X7 p D i).length≤20000:=by
 have e:X7 p D i=((b9 p).of i).flatMap fun it=>if(D6 (b9 p) i).lives it.s.id then(F3 D (it.s.id-1)).filter (V1 p i)else[]:=by
  unfold X7;rw[aT3]
 rw[e];have h1:=Q7 (fun it:It=>if(D6 (b9 p) i).lives it.s.id then(F3 D (it.s.id-1)).filter (V1 p i)else[]) 100 ((b9 p).of i) fun it _=>by
  split
  ·exact ew0 (ey2 _ _) (aD2 hD _)
  ·simp
 have h2:((b9 p).of i).length≤200:=by
  unfold Sh.of;rw[eD7,ew6];omega
 omega
theorem cl0{p:Pg}(hm:N1 p=true)(O U D:Rws)(i:Nat):(ay3 p O U D i).length≤17:=by
 unfold ay3;refine ew0 (ey2 _ _) ?_;have:=(Q8 hm).1;rw[ev5,ey3];omega
theorem bU2{p:Pg}(hr:E4 p)(hw:C8 p≤1000000)(i:Nat)(hi:i<p.procs.length):OkR (D6 (b9 p) i).net∧(D6 (b9 p) i).net.length=(D6 (b9 p) i).n.toNat∧0<(D6 (b9 p) i).n:=by
 obtain⟨x,pt⟩:=M9 hr.may hw i hi;have hwy:=P7 pt;obtain⟨h1,h2,_⟩:=cz7 hr hw hi hwy;have hn:=hwy.n;have:=pt.ok.le;exact⟨h1,h2,by omega⟩
theorem cW3{w:World}{gb:Nat}{gs:Addr}{vw vd vu vi vo:Value}{b:Bk}(hc:w.heap[gb]?=some (.cells #[.pointer (some gs),vw,vd,vu,vi,vo] 97 (0,0)))(h1:At (d7 w) gs b.s)(h2:R (d7 w) vw b.wp)(h3:R (d7 w) vd b.defs)(h4:R (d7 w) vu b.uses)(h5:R (d7 w) vi b.ins)(h6:R (d7 w) vo b.outs):At (d7 w) ⟨gb,0,none⟩ b:=
 ⟨[.pointer (some gs),vw,vd,vu,vi,vo],⟨_,_,_,_,_,_,rfl,h1.ptr,h2,h3,h4,h5,h6⟩,fun j u hj=>aS7 hc (by simpa using hj)⟩
theorem cK5(v:Value)(p:Pg)(w:World)(hv:SV (d7 w) v p)(hw:C8 p≤1000000):
  Calls prog 49 #[v] w fun e w'=>∃u,e = .returned u∧((S0 p=false→u = .pointer none)∧(S0 p=true→∃ad,u = .pointer (some ad)∧At (d7 w') ad (p7 p))∧o6 w w'):=by
 refine d9 (args:=[v]) hm func49 rfl (by kernel_rfl) (by show 1≤_;decide +kernel) ?_;obtain⟨c,w1,hbx,hx1,hatp⟩:=U0 hv (i4 _);obtain⟨sp,hsp,ldsp,sdsp⟩:=hatp.pg_v;obtain⟨vg0,vp0,hvg0,hvp0,ldp,sdp⟩:=hatp.pg;have l1:=ldsp w1 (i4 _);simp only[m8,n9,simprocAttr,hbx,l1];refine B3 dE5 (aM4 sp p w1 hsp hw) (fun w2 hx2=>?_);rcases ev3 (S0 p)with hR|hR;rotate_left
 ·simp only[m8,n9,simprocAttr,hR];refine n7 results49 ?_;simp only[p6,simprocAttr];exact⟨fun _=>by trivial,fun h=>(by cases h),hx1.trans hx2⟩
 have hr:=Q9 hR;obtain⟨hg16,hp16⟩:=Q8 hr.may;have hx12d:=hx2.trans (o6.drew w2);have hSp0:=hvp0.isS;have hnp0:=hvp0.vlen;have t1:=sdsp (fun w'=>o6 w2.drew w') w2.drew (o9.refl _) fun w' h=>b7 (hx12d.trans h);have t2:=sdp (fun w'=>o6 w2.drew w') w2.drew (o9.refl _) fun w' h=>b7 (hx12d.trans h);have hspd:=hsp.mono (b7 hx12d);have hz:z7.enc (d7 w2.drew) (Value.slice none 0 0).cells.toList ([]:List A4):=aU2 _;have mkS:=fun(wa:World) (ha:o6 w2.drew wa)=>mk (P:=prog) (w:=wa) (h:=d7 w2.drew) (α:=List A4) cd9 bO3 (y:=[]) hz (n:=p.procs.length) (by omega) (by omega) (b7 ha);simp only[m8,n9,simprocAttr,hR];refine ct4 [1] (fun w'=>o6 w2.drew w') 10 (.op 0 (.op 2 (.op 3 (.op 4 (.op 6 (.op 7 (.op 8 (.fork [1,5,9] (fun i=>if i=1 then(.fork [5,9] (fun i=>if i=5 then(A8 [9])else(A8 [5])))else if i=5 then(.fork [1,9] (fun i=>if i=1 then(A8 [9])else(A8 [1])))else(.fork [1,5] (fun i=>if i=1 then(A8 [5])else(A8 [1]))))))))))))
  (fun f' w'=>NI w2.drew w' p (f' 19) (f' 23) (f' 27)) (by decide +kernel) (by decide +kernel) (o9.refl _) ?_ ?_
 ·simp only[D5,A8,m8,n9,simprocAttr,t1,t2,hSp0,hnp0];refine at4 (by decide +kernel) (fun i hi=>?_);simp only[ex3,eA6,eG5]at hi;rcases hi with rfl|rfl|rfl
  ·simp only[D5,m8,simprocAttr];refine y5 aO1 (aa4 (d7 w2.drew) sp p w2.drew hspd (i4 _) hw) ?_;rintro _ wA ⟨gs,vg,vp,vL,vLo,vHi,rfl,hsh,hg,hpp,hge,hgl,hxA⟩;refine⟨hxA,?_⟩;have hb1:∀b,SBs gs vL vLo vHi b→w2.drew.heap.size≤b∧b<wA.heap.size:=fun b hb=>⟨by rcases hb with rfl|hb;exact hge;exact hgl b hb,hsh.lts hb⟩;obtain⟨va,wB,m1,o1,xB,f1,_⟩:=mkS wA hxA;obtain⟨vb,wC,m2,o2,xC,f2,_⟩:=mkS wB (hxA.trans xB);have hs3:=(hsh.ext xB).ext xC;refine at4 (by decide +kernel) (fun i hi=>?_);simp only[ex3,eA6,eG5]at hi;rcases hi with rfl|rfl
   ·simp only[D5,m8,simprocAttr,m1,m2,F7];exact⟨hxA.trans xB,(hxA.trans xB).trans xC,NI.mk' _ _ wA.heap.size wB.heap.size wB.heap.size wC.heap.size hs3 hg hpp hb1 (fun b hb=>⟨f1 b hb,o1.lt hb⟩) (fun b hb=>⟨f2 b hb,o2.lt hb⟩) (.inl (ew8 _)) (.inl xB.size) (.inl (ew8 _)) ⟨ew8 _,hxA.size,ew0 hxA.size xB.size⟩ (o1.ext xC) o2 ((hxA.trans xB).trans xC)⟩
   ·simp only[D5,m8,simprocAttr,m1,m2,F7];exact⟨hxA.trans xB,(hxA.trans xB).trans xC,NI.mk' _ _ wB.heap.size wC.heap.size wA.heap.size wB.heap.size hs3 hg hpp hb1 (fun b hb=>⟨f2 b hb,o2.lt hb⟩) (fun b hb=>⟨f1 b hb,o1.lt hb⟩) (.inl xB.size) (.inl (ew8 _)) (.inr (ew8 _)) ⟨ew8 _,ew0 hxA.size xB.size,hxA.size⟩ o2 (o1.ext xC) ((hxA.trans xB).trans xC)⟩
  ·obtain⟨va,wB,m1,o1,xB,f1,_⟩:=mkS w2.drew (o9.refl _);simp only[D5,m8,simprocAttr,m1,F7];refine⟨xB,?_⟩;refine at4 (by decide +kernel) (fun i hi=>?_);simp only[ex3,eA6,eG5]at hi;rcases hi with rfl|rfl
   ·simp only[D5,m8,simprocAttr];refine y5 aO1 (aa4 (d7 w2.drew) sp p wB hspd (b7 xB) hw) ?_;rintro _ wA ⟨gs,vg,vp,vL,vLo,vHi,rfl,hsh,hg,hpp,hge,hgl,hxA⟩;have hb1:∀b,SBs gs vL vLo vHi b→wB.heap.size≤b∧b<wA.heap.size:=fun b hb=>⟨by rcases hb with rfl|hb;exact hge;exact hgl b hb,hsh.lts hb⟩;obtain⟨vb,wC,m2,o2,xC,f2,_⟩:=mkS wA (xB.trans hxA);refine⟨xB.trans hxA,?_⟩;simp only[D5,m8,simprocAttr,m2,F7];exact⟨(xB.trans hxA).trans xC,NI.mk' _ _ w2.drew.heap.size wB.heap.size wA.heap.size wC.heap.size (hsh.ext xC) hg hpp hb1 (fun b hb=>⟨f1 b hb,o1.lt hb⟩) (fun b hb=>⟨f2 b hb,o2.lt hb⟩) (.inr (ew8 _)) (.inl (ew8 _)) (.inl hxA.size) ⟨xB.size,ew8 _,ew0 xB.size hxA.size⟩ ((o1.ext hxA).ext xC) o2 ((xB.trans hxA).trans xC)⟩
   ·obtain⟨vb,wC,m2,o2,xC,f2,_⟩:=mkS wB xB;simp only[D5,m8,simprocAttr,m2,F7];refine⟨xB.trans xC,?_⟩;refine y5 aO1 (aa4 (d7 w2.drew) sp p wC hspd (b7 (xB.trans xC)) hw) ?_;rintro _ wA ⟨gs,vg,vp,vL,vLo,vHi,rfl,hsh,hg,hpp,hge,hgl,hxA⟩;have hb1:∀b,SBs gs vL vLo vHi b→wC.heap.size≤b∧b<wA.heap.size:=fun b hb=>⟨by rcases hb with rfl|hb;exact hge;exact hgl b hb,hsh.lts hb⟩;refine⟨(xB.trans xC).trans hxA,?_⟩;simp only[D5,m8,simprocAttr];exact NI.mk' _ _ w2.drew.heap.size wB.heap.size wB.heap.size wC.heap.size hsh hg hpp hb1 (fun b hb=>⟨f1 b hb,o1.lt hb⟩) (fun b hb=>⟨f2 b hb,o2.lt hb⟩) (.inr xC.size) (.inr (ew8 _)) (.inl (ew8 _)) ⟨(xB.trans xC).size,ew8 _,xB.size⟩ ((o1.ext xC).ext hxA) (o2.ext hxA) ((xB.trans xC).trans hxA)
  ·obtain⟨va,wB,m1,o1,xB,f1,_⟩:=mkS w2.drew (o9.refl _);simp only[D5,m8,simprocAttr,m1,F7];refine⟨xB,?_⟩;refine at4 (by decide +kernel) (fun i hi=>?_);simp only[ex3,eA6,eG5]at hi;rcases hi with rfl|rfl
   ·simp only[D5,m8,simprocAttr];refine y5 aO1 (aa4 (d7 w2.drew) sp p wB hspd (b7 xB) hw) ?_;rintro _ wA ⟨gs,vg,vp,vL,vLo,vHi,rfl,hsh,hg,hpp,hge,hgl,hxA⟩;have hb1:∀b,SBs gs vL vLo vHi b→wB.heap.size≤b∧b<wA.heap.size:=fun b hb=>⟨by rcases hb with rfl|hb;exact hge;exact hgl b hb,hsh.lts hb⟩;obtain⟨vb,wC,m2,o2,xC,f2,_⟩:=mkS wA (xB.trans hxA);refine⟨xB.trans hxA,?_⟩;simp only[D5,m8,simprocAttr,m2,F7];exact⟨(xB.trans hxA).trans xC,NI.mk' _ _ wA.heap.size wC.heap.size w2.drew.heap.size wB.heap.size (hsh.ext xC) hg hpp hb1 (fun b hb=>⟨f2 b hb,o2.lt hb⟩) (fun b hb=>⟨f1 b hb,o1.lt hb⟩) (.inl (ew8 _)) (.inr (ew8 _)) (.inr hxA.size) ⟨xB.size,ew0 xB.size hxA.size,ew8 _⟩ o2 ((o1.ext hxA).ext xC) ((xB.trans hxA).trans xC)⟩
   ·obtain⟨vb,wC,m2,o2,xC,f2,_⟩:=mkS wB xB;simp only[D5,m8,simprocAttr,m2,F7];refine⟨xB.trans xC,?_⟩;refine y5 aO1 (aa4 (d7 w2.drew) sp p wC hspd (b7 (xB.trans xC)) hw) ?_;rintro _ wA ⟨gs,vg,vp,vL,vLo,vHi,rfl,hsh,hg,hpp,hge,hgl,hxA⟩;have hb1:∀b,SBs gs vL vLo vHi b→wC.heap.size≤b∧b<wA.heap.size:=fun b hb=>⟨by rcases hb with rfl|hb;exact hge;exact hgl b hb,hsh.lts hb⟩;refine⟨(xB.trans xC).trans hxA,?_⟩;simp only[D5,m8,simprocAttr];exact NI.mk' _ _ wB.heap.size wC.heap.size w2.drew.heap.size wB.heap.size hsh hg hpp hb1 (fun b hb=>⟨f2 b hb,o2.lt hb⟩) (fun b hb=>⟨f1 b hb,o1.lt hb⟩) (.inr (ew8 _)) (.inr xC.size) (.inr (ew8 _)) ⟨(xB.trans xC).size,xB.size,ew8 _⟩ (o2.ext hxA) ((o1.ext xC).ext hxA) ((xB.trans xC).trans hxA)
 rintro f w3 hk hNI;simp only[ev4,p6,simprocAttr]at hk;obtain⟨e1,_⟩:=hk;obtain⟨⟨gs,vg,vp,vL,vLo,vHi,h19,hsh,hg,hpp,hsb⟩,hoi,hoo,hgi,hgo,hx3⟩:=hNI;generalize h23:f 23=vi at hoi hoo hgi hgo hsb;generalize h27:f 27=vo at hoi hoo hgi hgo hsb;obtain⟨bb,w4,hbox,hx4,hc4,hge4⟩:∃bb w4,(Instr.box 97 (.agg #[.pointer (some ⟨gs,0,none⟩),.slice none 0 0,.slice none 0 0,.slice none 0 0,vi,vo])).run prog w3 = .ok (.pointer (some ⟨bb,0,none⟩)) w4∧o6 w3 w4∧w4.heap[bb]?=some (.cells #[.pointer (some ⟨gs,0,none⟩),.slice none 0 0,.slice none 0 0,.slice none 0 0,vi,vo] 97 (0,0))∧w3.heap.size≤bb:=
  ⟨_,_,rfl,o6.alloc _ _,ez5 w3 _,ew8 _⟩
 have hdg:w2.drew.heap.size≤bb:=ew0 hx3.size hge4;have hZ1:∀b,(A3 vi b∨A3 vo b)→w2.drew.heap.size≤b∧b<w3.heap.size:=fun b h=>by
  rcases h with h|h
  ·exact⟨(hgi b h).1,hoi.lt h⟩
  ·exact⟨hgo b h,hoo.lt h⟩
 have hN1:∀b,nB bb (.slice none 0 0) (.slice none 0 0) (fun b=>A3 vi b∨A3 vo b) b→b=bb∨A3 vi b∨A3 vo b:=fun b h=>by
  rcases h with h|h|h|h
  ·exact .inl h
  ·exact absurd h D0
  ·exact absurd h D0
  ·exact .inr h
 have hatS:At (B5 w4 (nB bb (.slice none 0 0) (.slice none 0 0) (fun b=>A3 vi b∨A3 vo b))) ⟨gs,0,none⟩ (b9 p):=by
  rw[cn4];refine(hsh.ext hx4).atK (aF0 (hx3.trans hx4) fun b hb=>?_) (fun b hb=>D3 fun h=>?_) hg hpp
  ·rcases hN1 b hb with h|h
   ·omega
   ·exact(hZ1 b h).1
  ·rcases hN1 b h with h|h|h
   ·have:=hsh.lts hb;omega
   ·exact(hsb b hb).2.1 h
   ·exact(hsb b hb).2.2 h
 have hB1:BM (α:=Ptr Wy) (β:=List A4) (B5 w4 (nB bb (.slice none 0 0) (.slice none 0 0) (fun b=>A3 vi b∨A3 vo b))) w2.drew w4 w4 (fun b=>A3 vi b∨A3 vo b) bb 97 102 22 (fun v=>#[.pointer (some ⟨gs,0,none⟩),v,.slice none 0 0,.slice none 0 0,vi,vo]) (.slice none 0 0) (.slice none 0 0) [] []:=
  ⟨hx3.trans hx4,hdg,hc4,A9.nil _ _ _,A9.nil _ _ _,fun b h=>absurd h D0,fun b h=>absurd h D0,fun b h=>⟨by have:=(hZ1 b h).2;omega,eC1 (hZ1 b h).2 hx4.size⟩,fun _ _=>rfl,ew8 _,i4 _⟩
 have hx24:=hx12d.trans (hx3.trans hx4);have lp4:=ldp w4 (b7 hx24);obtain⟨iw,hiw,hiw1⟩:=aR2 (P:=prog) dY4 cZ9;obtain⟨il,hil,hil1⟩:=aR2 (P:=prog) dY5 da0;obtain⟨iS,hiS,hiS1⟩:=aR2 (P:=prog) bO3 cI0;have hSi:=hoi.isS;have hSo:=hoo.isS;simp only[D5,m8,n9,simprocAttr,h19,h23,h27,cq6 (.pointer (some ⟨gs,0,none⟩)) vi vo rfl (D8 hSi) (D8 hSo),hbox,e1,lp4,hSp0,hnp0];refine n8 [1,3,32] (σ:=Nat×Value) (fun s f w'=>f 33 = .int .i64 s.1∧s.1≤p.procs.length∧BM (α:=Ptr Wy) (β:=List A4) (B5 w4 (nB bb (.slice none 0 0) (.slice none 0 0) (fun b=>A3 vi b∨A3 vo b))) w2.drew w4 w' (fun b=>A3 vi b∨A3 vo b) bb 97 102 22 (fun v=>#[.pointer (some ⟨gs,0,none⟩),v,.slice none 0 0,.slice none 0 0,vi,vo]) s.2 (.slice none 0 0) (((J1 p).take s.1).map fun w=>⟨w⟩) []) (fun s=>p.procs.length-s.1) (0,.slice none 0 0) (by decide +kernel) ?_ ?_
 ·simp only[p6,simprocAttr];exact⟨by trivial,ew4 _,by simpa using hB1⟩
 clear hB1;rintro⟨k,vx⟩ f5 w5 hk ⟨h33,hkl,s5⟩;simp only at h33 hkl s5;simp only[ev4,p6,simprocAttr]at hk;obtain⟨g1,g3,g32,_⟩:=hk;rw[e1]at g1;simp only[m8,n9,simprocAttr,h33,g32];refine i5 (fun hc=>?_) (fun hc=>?_)
 ·have hlt:k<p.procs.length:=by simpa using hc
  obtain⟨x,pt⟩:=M9 hr.may hw k hlt;have hwl:(J1 p).length=p.procs.length:=by unfold J1;simp
  have htk:((J1 p).take (k+1)).map (fun w=>(⟨w⟩:Ptr Wy))=((J1 p).take k).map (fun w=>(⟨w⟩:Ptr Wy))++[⟨D6 (b9 p) k⟩]:=by
   rw[eH3,V2 hlt,ey5];rfl
  have sd:=s5.more (o6.drew w5);have hcb:∀w',o9 (A3 vx) w5.drew w'→w'.heap[bb]?=some (.cells #[.pointer (some ⟨gs,0,none⟩),vx,.slice none 0 0,.slice none 0 0,vi,vo] 97 (0,0)):=fun w' hm=>(hm.block bb (ev9.1 sd.cb).1 fun h=>(sd.dx bb h).2.1 rfl).trans sd.cb;have k0:∀K f d w0,B8 prog (fun w'=>o9 (A3 vx) w5.drew w') (Instr.loadAt 93 (.pointer (some ⟨bb,0,none⟩))) K f d w0=K (A5 f d (.pointer (some ⟨gs,0,none⟩))) w0:=fun K f d w0=>A0 (w0:=w5.drew) (o9.refl _) fun w' h=>E8 (i:=0) (hcb w' h) rfl bb3;have k1:∀K f d w0,B8 prog (fun w'=>o9 (A3 vx) w5.drew w') (Instr.loadAt 94 (.pointer (some ⟨bb,1,none⟩))) K f d w0=K (A5 f d vx) w0:=fun K f d w0=>A0 (w0:=w5.drew) (o9.refl _) fun w' h=>E8 (i:=1) (hcb w' h) rfl ce4;simp only[m8,simprocAttr,h33];refine C2 (fun w'=>o9 (A3 vx) w5.drew w') 13 (A8 [0,1,2,3,4,5,6,7,8,9,10,11,12]) (by decide +kernel) (o9.refl _) ?_;simp only[D5,A8,m8,n9,simprocAttr,g3,k0,k1];refine y5 es3 (bY3 ⟨gs,0,none⟩ p k x _ w5.drew (hatS.mono sd.hb) hr hw hlt pt) ?_;rintro _ w6 ⟨gw,vr,vl,rfl,hc6,hge6,hor,hol,hx6⟩;refine⟨o9.up hx6,?_⟩;have s6:=sd.more hx6;have hnw:¬nB bb vx (.slice none 0 0) (fun b=>A3 vi b∨A3 vo b) gw:=fun h=>by have:=sd.lt h;omega
  have hatW:At (B5 w6 (nB bb vx (.slice none 0 0) (fun b=>A3 vi b∨A3 vo b))) ⟨gw,0,none⟩ (D6 (b9 p) k):=dz6 (wy:=D6 (b9 p) k) ((D3 hnw).trans hc6) (hatS.mono s6.base) (sd.freshN hor) (sd.fresh hol);obtain⟨p1,vx',w7,w8,p2,p3,s8,p4⟩:=s6.push (P:=prog) (e:=94) dJ1 rfl (x:=.pointer (some ⟨gw,0,none⟩)) (y:=(⟨D6 (b9 p) k⟩:Ptr Wy)) hatW.ptr (by rw[ew3,ew6];omega) (by rw[ew3,ew6];omega) (ix:=1) (by simp) (fun v v'=>by simp) hiw hiw1;simp only[Value.cells]at p1 p2;simp only[D5,m8,n9,simprocAttr,p1,p2,F7];refine⟨(o9.up hx6).trans (o9.up (o6.alloc _ _)),(o9.up hx6).trans p4,?_⟩;simp only[m8,n9,simprocAttr,h33,p3];refine⟨(k+1,vx'),by simp only[];omega,by simp only[];rw[B1 k (by omega)],by simp only[];omega,?_⟩;simp only[];rw[htk];exact s8
 have hge:k=p.procs.length:=by simp at hc;omega
 subst hge;have hwl:(J1 p).length=p.procs.length:=by unfold J1;simp
 rw[ez7 (by omega)]at s5;have hN12:∀b,nB bb (.slice none 0 0) vo (A3 vi) b→nB bb vx (.slice none 0 0) (fun b=>A3 vi b∨A3 vo b) b:=fun b h=>by
  rcases h with h|h|h|h
  ·exact .inl h
  ·exact absurd h D0
  ·exact .inr (.inr (.inr (.inr h)))
  ·exact .inr (.inr (.inr (.inl h)))
 have hl12:B4 (B5 w5 (nB bb vx (.slice none 0 0) (fun b=>A3 vi b∨A3 vo b))) (B5 w5 (nB bb (.slice none 0 0) vo (A3 vi))):=H1 (M:=fun _=>False) (o9.refl w5) (fun _ h=>h.elim) fun b h=>.inl (hN12 b h);have hatS2:=(hatS.mono s5.base).mono hl12;have hvw2:R (B5 w5 (nB bb (.slice none 0 0) vo (A3 vi))) vx ((J1 p).map fun w=>(⟨w⟩:Ptr Wy)):=s5.ox.ro hl12 fun b hb=>D3 fun h=>by
  have hd:=s5.dx b hb;rcases h with h|h|h|h
  ·exact hd.2.1 h
  ·exact D0 h
  ·exact hd.2.2.2 (.inr h)
  ·exact hd.2.2.2 (.inl h)
 have hoo5:A9 (B5 w5 (nB bb (.slice none 0 0) vo (A3 vi))) w5 22 vo (List.replicate p.procs.length ([]:List A4)):=hoo.renil (fun b hb=>H8 (.inr (.inr (.inl hb)))) fun b hb=>(s5.zk b (.inr hb)).trans (hx4.block b (hoo.lt hb) id);have hoi5:∀b,A3 vi b→w5.heap[b]?=w3.heap[b]?:=fun b hb=>(s5.zk b (.inl hb)).trans (hx4.block b (hoi.lt hb) id);have hB2:BM (α:=List A4) (β:=List A4) (B5 w5 (nB bb (.slice none 0 0) vo (A3 vi))) w2.drew w5 w5 (A3 vi) bb 97 22 22 (fun v=>#[.pointer (some ⟨gs,0,none⟩),vx,v,.slice none 0 0,vi,vo]) (.slice none 0 0) vo [] (List.replicate p.procs.length []):=
  ⟨s5.ext,hdg,s5.cb,A9.nil _ _ _,hoo5,fun b h=>absurd h D0,fun b hb=>⟨hgo b hb,by have:=(hZ1 b (.inr hb)).2;omega,fun h=>(hgi b h).2 hb⟩,fun b hb=>⟨by have:=(hZ1 b (.inl hb)).2;omega,s5.lt (.inr (.inr (.inr (.inl hb))))⟩,fun _ _=>rfl,ew8 _,i4 _⟩
 have hvi:∀w',(∀b,A3 vi b→w'.heap[b]?=w5.heap[b]?)→R (d7 w') vi (List.replicate p.procs.length ([]:List A4)):=fun w' h=>(hoi.renil (k:=fun _=>none) (fun _ _=>rfl) fun b hb=>(h b hb).trans (hoi5 b hb)).rw_ fun _ _ h=>by cases h
 clear s5;have hbk2:∀(w':World) (vd:Value) (xs ys:Rws),BM (α:=List A4) (β:=List A4) (B5 w5 (nB bb (.slice none 0 0) vo (A3 vi))) w2.drew w5 w' (A3 vi) bb 97 22 22 (fun v=>#[.pointer (some ⟨gs,0,none⟩),vx,v,.slice none 0 0,vi,vo]) vd vo xs ys→At (d7 w') ⟨bb,0,none⟩ (⟨b9 p,J1 p,xs,[],List.replicate p.procs.length [],ys⟩:Bk):=fun w' vd xs ys s=>cW3 s.cb (hatS2.mono s.hb) (z7.mono s.hb hvw2) s.rx (aU2 _) (hvi w' s.zk) s.ry;obtain⟨_,_,_,hvL2,_,_,_,ldS2,_⟩:=hatS2.sh;have h200:=J3 hr.may;have hitw:=ac7 p hw;have hC2:ax9 (E9 p) p.procs.length 25:=aK8 hr.may;simp only[m8,simprocAttr];refine n8 [1,3] (σ:=(Value×Nat)×(Bool×Rws)) (fun s f w'=>f 5 = .bool s.2.1∧BM (α:=List A4) (β:=List A4) (B5 w5 (nB bb (.slice none 0 0) vo (A3 vi))) w2.drew w5 w' (A3 vi) bb 97 22 22 (fun v=>#[.pointer (some ⟨gs,0,none⟩),vx,v,.slice none 0 0,vi,vo]) s.1.1 vo s.2.2 (F6 (E9 p) s.1.2 (List.replicate p.procs.length []))∧s.1.2≤au0 (F6 (E9 p) s.1.2 (List.replicate p.procs.length []))∧(s.2.1=false→E9 p (F6 (E9 p) s.1.2 (List.replicate p.procs.length []))=F6 (E9 p) s.1.2 (List.replicate p.procs.length [])∧s.2.2=G9 p (F6 (E9 p) s.1.2 (List.replicate p.procs.length [])))) (fun s=>if s.2.1 then p.procs.length*25+2-au0 (F6 (E9 p) s.1.2 (List.replicate p.procs.length []))else 0) ((.slice none 0 0,0),(true,[])) (by decide +kernel) ?_ ?_
 ·simp only[p6,simprocAttr];exact⟨by trivial,hB2,ew4 _,fun h=>by cases h⟩
 clear hB2;rintro⟨⟨vx2,K2⟩,mo2,xs2⟩ f2a w2a hk ⟨hmo2,s2a,hKt2,hfin2⟩;simp only at hmo2 s2a hKt2 hfin2;simp only[ev4,p6,simprocAttr]at hk;obtain⟨a21,a23,_⟩:=hk;rw[g1]at a21;rw[g3]at a23;have hY2:=hC2.iter_ok K2;have hNew2:=hC2.ok (F6 (E9 p) K2 (List.replicate p.procs.length []));have hMore2:=hC2.more K2;have hBd2:=hC2.bound K2;have hBd2':=hC2.bound (K2+1);have hSu2:=Z8 (E9 p) K2 (List.replicate p.procs.length []);simp only[m8,simprocAttr,hmo2];refine i5 (fun hc=>?_) (fun hc=>?_)
 ·subst hc;clear hfin2;generalize hYe2:F6 (E9 p) K2 (List.replicate p.procs.length [])=Y2 at *;generalize hNe2:E9 p Y2=Q2 at *;obtain⟨w2b,z2,s2b⟩:=s2a.reset (P:=prog) (t:=95) (ix:=2) (by simp) (fun v v'=>by simp) hil hil1;have ld20:(Instr.loadAt 93 (.pointer (some ⟨bb,0,none⟩))).run prog w2b = .ok (.pointer (some ⟨gs,0,none⟩)) w2b:=E8 (i:=0) s2b.cb rfl bb3;have lds2:=ldS2 w2b s2b.hb;simp only[add_lit,ey7]at lds2;have hSl2:=hvL2.isS;have hnl2:=hvL2.vlen;simp only[m8,n9,simprocAttr,a23,z2,ld20,lds2,hSl2,hnl2];refine n8 [1,3,5,62,63] (σ:=Nat×Value) (fun s f w'=>f 64 = .int .i64 s.1∧s.1≤(b9 p).l.length∧BM (α:=List A4) (β:=List A4) (B5 w5 (nB bb (.slice none 0 0) vo (A3 vi))) w2.drew w5 w' (A3 vi) bb 97 22 22 (fun v=>#[.pointer (some ⟨gs,0,none⟩),vx,v,.slice none 0 0,vi,vo]) s.2 vo (((b9 p).l.take s.1).map fun it=>C6 (aa7 p Y2 it.s)) Y2) (fun s=>(b9 p).l.length-s.1) (0,.slice none 0 0) (by decide +kernel) ?_ ?_
  ·simp only[p6,simprocAttr];exact⟨by trivial,ew4 _,s2b⟩
  clear s2b s2a;rintro⟨m,vd⟩ f7 w7 hk ⟨hmi,hml,s7⟩;simp only at hmi hml s7;simp only[ev4,p6,simprocAttr]at hk;obtain⟨b1,b3,bm,bl,bn,_⟩:=hk;rw[a21]at b1;rw[a23]at b3;simp only[m8,n9,simprocAttr,hmi,bn];refine i5 (fun hc=>?_) (fun hc=>?_)
  ·have hlt:m<(b9 p).l.length:=by simpa using hc
   have hin:=hvL2.inS hlt;obtain⟨sv,hsv,hld⟩:=G1 (P:=prog) (t:=127) hvL2 (s7.hb) (ev2 hlt) X9 Y1 Y0 I9;rw[I9]at hld;have htk:((b9 p).l.take (m+1)).map (fun it=>C6 (aa7 p Y2 it.s))=((b9 p).l.take m).map (fun it=>C6 (aa7 p Y2 it.s))++[C6 (aa7 p Y2 (b9 p).l[m].s)]:=by
    rw[ew1 hlt,ey5];rfl
   have hfits:=hr.fits _ (ew2 hlt);have hwts:=hitw _ (ew2 hlt);have hlen1:((((b9 p).l.take m).map fun it=>C6 (aa7 p Y2 it.s))).length≤200:=by rw[ew3,ew6];omega
   generalize(b9 p).l[m]=it at hsv htk hfits hwts;generalize((b9 p).l.take m).map (fun it=>C6 (aa7 p Y2 it.s))=xs at s7 htk hlen1;obtain⟨d,wz8,w8,hal,hst,hx8,hati⟩:=aG8 (w:=w7) (A3 vd) hsv (fun b hb=>s7.ox.lt hb);obtain⟨us,hus,hats,_,_⟩:=L8.it hsv hati;have s8:=(s7.more hx8).more (o6.drew w8);have hcb:∀w',o9 (A3 vd) w8.drew w'→w'.heap[bb]?=some (.cells ((fun v=>#[.pointer (some ⟨gs,0,none⟩),vx,v,.slice none 0 0,vi,vo]) vd) 97 (0,0)):=fun w' hm=>(hm.block bb (ev9.1 s8.cb).1 fun h=>(s8.dx bb h).2.1 rfl).trans s8.cb;have k2:∀K f d w0,B8 prog (fun w'=>o9 (A3 vd) w8.drew w') (Instr.loadAt 95 (.pointer (some ⟨bb,2,none⟩))) K f d w0=K (A5 f d vd) w0:=fun K f d w0=>A0 (w0:=w8.drew) (o9.refl _) fun w' h=>E8 (i:=2) (hcb w' h) rfl ag9;have k3:=(L8.st_v hus hats).2 (fun w'=>o9 (A3 vd) w8.drew w') w8.drew (o9.refl _) fun w' h=>D2 ((o9.up (M:=A3 vd) (o6.drew w8)).trans h);simp only[m8,n9,p9,simprocAttr,hmi,bl,hin,hld,hal,hst];refine C2 (fun w'=>o9 (A3 vd) w8.drew w') 12 (A8 [0,1,2,3,4,5,6,7,8,9,10,11]) (by decide +kernel) (o9.refl _) ?_;simp only[D5,A8,m8,n9,simprocAttr,b3,k2,k3];refine y5 es4 (ct2 ⟨bb,0,none⟩ ⟨b9 p,J1 p,_,[],List.replicate p.procs.length [],_⟩ p us it.s w8.drew (hbk2 _ _ _ _ s8) ⟨rfl,hY2,bk2 _ _⟩ hr.may (hus.mono s8.hb) hwts hfits) ?_;rintro u9 w9 ⟨ho9,hx9⟩;refine⟨o9.up hx9,?_⟩;simp only[D5,m8,simprocAttr];refine y5 bI0 (ae6 ho9 (ew0 (aE4 hr.may hY2 hfits) (by decide))) ?_;rintro u10 w10 ⟨ho10,hm10,_⟩;have hx10:o6 w8.drew w10:=ho9.ext2 hx9 hm10;refine⟨o9.up hx10,?_⟩;have s10:=s8.more hx10;obtain⟨p1,vd',w11,w12,p2,p3,s12,p4⟩:=s10.push (P:=prog) (e:=95) cd9 rfl (x:=u10) (y:=C6 (aa7 p Y2 it.s)) (by rw[D8 ho10.isS];exact s8.fresh ho10) (by omega) (by omega) (ix:=2) (by simp) (fun v v'=>by simp) hil hil1;rw[D8 ho10.isS]at p1 p2;simp only[D5,m8,n9,simprocAttr,p1,p2,F7];refine⟨(o9.up hx10).trans (o9.up (o6.alloc _ _)),(o9.up hx10).trans p4,?_⟩;simp only[m8,n9,simprocAttr,hmi,p3];refine⟨(m+1,vd'),by simp only[];omega,by simp only[];rw[B1 m (by omega)],by simp only[];omega,?_⟩;simp only[];rw[htk];exact s12
  have hge:m=(b9 p).l.length:=by simp at hc;omega
  subst hge;rw[ew5]at s7;have hAll:((b9 p).l.map fun it=>C6 (aa7 p Y2 it.s))=G9 p Y2:=rfl;rw[hAll]at s7;have hxsok:K0 (b9 p).l.length 100 (G9 p Y2):=aQ3 fun it hit=>aE4 hr.may hY2 (hr.fits it hit);have lp7:=ldp w7 (b7 (hx12d.trans s7.ext));simp only[m8,n9,simprocAttr,b1,lp7,hSp0,hnp0];refine n8 [1,3,85] (σ:=Nat×Bool) (fun s f w'=>f 86 = .int .i64 s.1∧s.1≤p.procs.length∧f 5 = .bool s.2∧BM (α:=List A4) (β:=List A4) (B5 w5 (nB bb (.slice none 0 0) vo (A3 vi))) w2.drew w5 w' (A3 vi) bb 97 22 22 (fun v=>#[.pointer (some ⟨gs,0,none⟩),vx,v,.slice none 0 0,vi,vo]) vd vo (G9 p Y2) (aK6 Q2 Y2 s.1)∧(s.2=false→Q2.take s.1=Y2.take s.1)∧(s.2=true→Q2≠Y2)) (fun s=>p.procs.length-s.1) (0,false) (by decide +kernel) ?_ ?_
  ·simp only[p6,simprocAttr];exact⟨by trivial,ew4 _,bm,by rw[bJ5];exact s7,fun _=>by simp,fun h=>by cases h⟩
  clear s7;rintro⟨i,mo⟩ f8 w8 hk ⟨hii,hil',hmo,s8,hmf,hmt⟩;simp only at hii hil' hmo s8 hmf hmt;simp only[ev4,p6,simprocAttr]at hk;obtain⟨c1,c3,cn,_⟩:=hk;rw[b1]at c1;rw[b3]at c3;simp only[m8,n9,simprocAttr,hii,cn];refine i5 (fun hc=>?_) (fun hc=>?_);rotate_left
  ·have hge:i=p.procs.length:=by simp at hc;omega
   subst hge;rw[cc9 hNew2.len hY2.len]at s8;rw[ez7 (by rw[hNew2.len];exact ew8 _),ez7 (by rw[hY2.len];exact ew8 _)]at hmf;cases mo with
   | false=>
    have e:=hmf rfl;simp only[m8,simprocAttr];refine⟨((vd,K2),(false,G9 p Y2)),?_,hmo,?_,?_,fun _=>?_⟩
    ·simp only[hYe2];simp;omega
    ·simp only[hYe2];rw[e]at s8;exact s8
    ·simp only[hYe2];exact hKt2
    ·simp only[hYe2];exact⟨hNe2.trans e,trivial⟩
   | true=>
    have e:=hmt rfl;have hlt:=hMore2 e;rw[hSu2]at hlt hBd2';simp only[m8,simprocAttr];refine⟨((vd,K2+1),(true,G9 p Y2)),?_,hmo,?_,?_,fun h=>by cases h⟩
    ·simp only[hSu2];simp;omega
    ·simp only[hSu2];exact s8
    ·simp only[hSu2];omega
  have hlt:i<p.procs.length:=by simpa using hc
  have hqi:Q2[i]?=some (C6 (X7 p (G9 p Y2) i)):=by
   rw[←hNe2];unfold E9;rw[ey8,eE0 hlt];rfl
  have hyi:Y2[i]?=some (Y2[i]'(by rw[hY2.len];exact hlt)):=ev2 _;have hmi2:=cd0 (old:=Y2) hNew2.len hlt;rw[hyi]at hmi2;have hms:=cd1 hNew2.len hY2.len hlt hqi;have hmk:=cz3 (i:=i) hNew2 hY2;have hml:=bA6 (i:=i) hNew2.len hY2.len;have htq:Q2.take (i+1)=Q2.take i++[C6 (X7 p (G9 p Y2) i)]:=by rw[eH3,hqi];rfl
  have hty:Y2.take (i+1)=Y2.take i++[Y2[i]'(by rw[hY2.len];exact hlt)]:=by rw[eH3,hyi];rfl
  simp only[m8,simprocAttr,hii,c3];refine y5 es5 (cA6 ⟨bb,0,none⟩ ⟨b9 p,J1 p,_,[],List.replicate p.procs.length [],_⟩ p i w8 (hbk2 _ _ _ _ s8) ⟨rfl,hmk,bk2 _ _⟩ rfl hxsok hr hw hlt) ?_;rintro u9 w9 ⟨ho9,hx9⟩;simp only[m8,simprocAttr];refine y5 bI0 (ae6 ho9 (ew0 (bU6 hr.may hxsok h200 i hw hlt) (by decide))) ?_;rintro u10 w10 ⟨ho10,hm10,_⟩;have hx10:o6 w8 w10:=ho9.ext2 hx9 hm10;have s10:=s8.more hx10;have hfew10:(C6 (X7 p (G9 p Y2) i)).length≤25:=hNew2.few _ (ex2 hqi);have hfewy:(Y2[i]'(by rw[hY2.len];exact hlt)).length≤25:=hY2.few _ (ew2 _);have hyi2:=hyi;generalize Y2[i]'(by rw[hY2.len];exact hlt)=yi at hmi2 hty hfewy hyi2;generalize C6 (X7 p (G9 p Y2) i)=qi at hqi hms htq ho10 hfew10;have hfr:=s8.fresh ho10;have hine:=s10.oy.inS (k:=i) (by omega);cases mo with
  | true=>
   obtain⟨w12,q1,s12⟩:=s10.set (P:=prog) (t:=22) rfl (k:=i) (by omega) (u:=u10) (y:=qi) hfr (D8 ho10.isS) hiS hiS1;rw[hms]at s12;have ld5:(Instr.loadAt 95 (.pointer (some ⟨bb,5,none⟩))).run prog w10 = .ok vo w10:=E8 (i:=5) s10.cb rfl ag9;simp only[m8,n9,p9,simprocAttr,hmo,hii,c3,ld5,hine,q1];refine⟨(i+1,true),by simp only[];omega,by simp only[];rw[B1 i (by omega)],by simp only[];omega,by trivial,s12,(fun h=>by cases h),fun _=>hmt rfl⟩
  | false=>
   obtain⟨ur,hur,hldr⟩:=aZ4 (P:=prog) (t:=22) s10.oy hmi2 M4;have ld5:(Instr.loadAt 95 (.pointer (some ⟨bb,5,none⟩))).run prog w10 = .ok vo w10:=E8 (i:=5) s10.cb rfl ag9;simp only[m8,n9,p9,simprocAttr,hmo,c3,ld5,hine,hldr];refine y5 dE9 (bg3 u10 ur qi yi w10 (ho10.rw_ (b7 hx10)) (z7.mono (C0 _ _) hur) (by omega) (by omega)) ?_;rintro _ w11 ⟨rfl,hx11⟩;have s11:=s10.more hx11;have hfr11:=z7.mono (H1 hx11 (fun _ h=>h.elim) fun b h=>.inl h) hfr;obtain⟨w12,q1,s12⟩:=s11.set (P:=prog) (t:=22) rfl (k:=i) (by omega) (u:=u10) (y:=qi) hfr11 (D8 ho10.isS) hiS hiS1;rw[hms]at s12;have ld5':(Instr.loadAt 95 (.pointer (some ⟨bb,5,none⟩))).run prog w11 = .ok vo w11:=E8 (i:=5) s11.cb rfl ag9;rcases ev3 (decide (qi=yi))with he|he
   ·have e:=ev6 he;simp only[m8,n9,p9,simprocAttr,he,hii,c3,ld5',hine,q1];refine⟨(i+1,false),by simp only[];omega,by simp only[];rw[B1 i (by omega)],by simp only[];omega,by trivial,s12,fun _=>?_,fun h=>by cases h⟩;simp only[];rw[htq,hty,hmf rfl,e]
   ·have e:=ev7 he;simp only[m8,n9,p9,simprocAttr,he,hii,c3,ld5',hine,q1];refine⟨(i+1,true),by simp only[];omega,by simp only[];rw[B1 i (by omega)],by simp only[];omega,by trivial,s12,(fun h=>by cases h),fun _ h=>e ?_⟩;have h1:=ex0 (fun l:Rws=>l[i]?) h;simp only[hqi,hyi2]at h1;exact ex1 h1
 have hfx:=hfin2 hc;have hOut:H5 p=F6 (E9 p) K2 (List.replicate p.procs.length []):=aN4 K2 1000 _ (by omega) hfx.1;rw[←hOut]at s2a hfx hY2;rw[hfx.2]at s2a;have hOo:=hY2;have hDo:K0 (b9 p).l.length 100 (G9 p (H5 p)):=aQ3 fun it hit=>aE4 hr.may hOo (hr.fits it hit);clear hfin2 hfx hMore2 hSu2 hNew2;generalize hOUT:H5 p=OUTS at *;generalize hDEF:G9 p OUTS=DEFS at *;have hl23:B4 (B5 w2a (nB bb vx2 vo (A3 vi))) (B5 w2a (nB bb (.slice none 0 0) vi (fun _=>False))):=H1 (M:=fun _=>False) (o9.refl w2a) (fun _ h=>h.elim) fun b h=>.inl (by
  rcases h with h|h|h|h
  ·exact .inl h
  ·exact absurd h D0
  ·exact .inr (.inr (.inr h))
  ·exact h.elim)
 have hatS3:=(hatS2.mono s2a.base).mono hl23;have hvw3:=z7.mono hl23 (z7.mono s2a.base hvw2);have hvd3:R (B5 w2a (nB bb (.slice none 0 0) vi (fun _=>False))) vx2 DEFS:=s2a.ox.ro hl23 fun b hb=>D3 fun h=>by
  have hd:=s2a.dx b hb;rcases h with h|h|h|h
  ·exact hd.2.1 h
  ·exact D0 h
  ·exact hd.2.2.2 h
  ·exact h.elim
 have hvo3:R (B5 w2a (nB bb (.slice none 0 0) vi (fun _=>False))) vo OUTS:=s2a.oy.ro hl23 fun b hb=>D3 fun h=>by
  have hd:=s2a.dy b hb;rcases h with h|h|h|h
  ·exact hd.2.1 h
  ·exact D0 h
  ·exact hd.2.2 h
  ·exact h.elim
 have hoi3:A9 (B5 w2a (nB bb (.slice none 0 0) vi (fun _=>False))) w2a 22 vi (List.replicate p.procs.length ([]:List A4)):=hoi.renil (fun b hb=>H8 (.inr (.inr (.inl hb)))) fun b hb=>(s2a.zk b hb).trans (hoi5 b hb);have hB3:BM (α:=List A4) (β:=List A4) (B5 w2a (nB bb (.slice none 0 0) vi (fun _=>False))) w2.drew w2a w2a (fun _=>False) bb 97 22 22 (fun v=>#[.pointer (some ⟨gs,0,none⟩),vx,vx2,v,vi,vo]) (.slice none 0 0) vi [] (List.replicate p.procs.length []):=
  ⟨s2a.ext,hdg,s2a.cb,A9.nil _ _ _,hoi3,fun b h=>absurd h D0,fun b hb=>⟨(hgi b hb).1,by have:=(hZ1 b (.inl hb)).2;omega,id⟩,fun b hb=>hb.elim,fun b hb=>hb.elim,ew8 _,i4 _⟩
 clear s2a;have hbk3:∀(w':World) (vd:Value) (xs ys:Rws),BM (α:=List A4) (β:=List A4) (B5 w2a (nB bb (.slice none 0 0) vi (fun _=>False))) w2.drew w2a w' (fun _=>False) bb 97 22 22 (fun v=>#[.pointer (some ⟨gs,0,none⟩),vx,vx2,v,vi,vo]) vd vi xs ys→At (d7 w') ⟨bb,0,none⟩ (⟨b9 p,J1 p,DEFS,xs,ys,OUTS⟩:Bk):=fun w' vd xs ys s=>cW3 s.cb (hatS3.mono s.hb) (z7.mono s.hb hvw3) (z7.mono s.hb hvd3) s.rx s.ry (z7.mono s.hb hvo3);obtain⟨_,_,_,hvL3,_,_,_,ldS3,_⟩:=hatS3.sh;have hC3:ax9 (N6 p OUTS DEFS) p.procs.length 25:=aT7 hr.may OUTS DEFS fun i hi=>bU2 hr hw i hi;simp only[m8,simprocAttr];refine n8 [1,3] (σ:=(Value×Nat)×(Bool×Rws)) (fun s f w'=>f 10 = .bool s.2.1∧BM (α:=List A4) (β:=List A4) (B5 w2a (nB bb (.slice none 0 0) vi (fun _=>False))) w2.drew w2a w' (fun _=>False) bb 97 22 22 (fun v=>#[.pointer (some ⟨gs,0,none⟩),vx,vx2,v,vi,vo]) s.1.1 vi s.2.2 (F6 (N6 p OUTS DEFS) s.1.2 (List.replicate p.procs.length []))∧s.1.2≤au0 (F6 (N6 p OUTS DEFS) s.1.2 (List.replicate p.procs.length []))∧(s.2.1=false→N6 p OUTS DEFS (F6 (N6 p OUTS DEFS) s.1.2 (List.replicate p.procs.length []))=F6 (N6 p OUTS DEFS) s.1.2 (List.replicate p.procs.length [])∧s.2.2=M5 p (F6 (N6 p OUTS DEFS) s.1.2 (List.replicate p.procs.length [])))) (fun s=>if s.2.1 then p.procs.length*25+2-au0 (F6 (N6 p OUTS DEFS) s.1.2 (List.replicate p.procs.length []))else 0) ((.slice none 0 0,0),(true,[])) (by decide +kernel) ?_ ?_
 ·simp only[p6,simprocAttr];exact⟨by trivial,hB3,ew4 _,fun h=>by cases h⟩
 clear hB3;rintro⟨⟨vx3,K3⟩,mo3,xs3⟩ f3a w3a hk ⟨hmo3,s3a,hKt3,hfin3⟩;simp only at hmo3 s3a hKt3 hfin3;simp only[ev4,p6,simprocAttr]at hk;obtain⟨a31,a33,_⟩:=hk;rw[a21]at a31;rw[a23]at a33;have hY3:=hC3.iter_ok K3;have hNew3:=hC3.ok (F6 (N6 p OUTS DEFS) K3 (List.replicate p.procs.length []));have hMore3:=hC3.more K3;have hBd3:=hC3.bound K3;have hBd3':=hC3.bound (K3+1);have hSu3:=Z8 (N6 p OUTS DEFS) K3 (List.replicate p.procs.length []);simp only[m8,simprocAttr,hmo3];refine i5 (fun hc=>?_) (fun hc=>?_)
 ·subst hc;clear hfin3;generalize hYe3:F6 (N6 p OUTS DEFS) K3 (List.replicate p.procs.length [])=Y3 at *;generalize hNe3:N6 p OUTS DEFS Y3=Q3 at *;obtain⟨w3b,z3,s3b⟩:=s3a.reset (P:=prog) (t:=95) (ix:=3) (by simp) (fun v v'=>by simp) hil hil1;have ld30:(Instr.loadAt 93 (.pointer (some ⟨bb,0,none⟩))).run prog w3b = .ok (.pointer (some ⟨gs,0,none⟩)) w3b:=E8 (i:=0) s3b.cb rfl bb3;have lds3:=ldS3 w3b s3b.hb;simp only[add_lit,ey7]at lds3;have hSl3:=hvL3.isS;have hnl3:=hvL3.vlen;simp only[m8,n9,simprocAttr,a33,z3,ld30,lds3,hSl3,hnl3];refine n8 [1,3,10,124,125] (σ:=Nat×Value) (fun s f w'=>f 126 = .int .i64 s.1∧s.1≤(b9 p).l.length∧BM (α:=List A4) (β:=List A4) (B5 w2a (nB bb (.slice none 0 0) vi (fun _=>False))) w2.drew w2a w' (fun _=>False) bb 97 22 22 (fun v=>#[.pointer (some ⟨gs,0,none⟩),vx,vx2,v,vi,vo]) s.2 vi (((b9 p).l.take s.1).map fun it=>C6 (ai2 p Y3 it.s)) Y3) (fun s=>(b9 p).l.length-s.1) (0,.slice none 0 0) (by decide +kernel) ?_ ?_
  ·simp only[p6,simprocAttr];exact⟨by trivial,ew4 _,s3b⟩
  clear s3b s3a;rintro⟨m,vd⟩ f7 w7 hk ⟨hmi,hml,s7⟩;simp only at hmi hml s7;simp only[ev4,p6,simprocAttr]at hk;obtain⟨b1,b3,bm,bl,bn,_⟩:=hk;rw[a31]at b1;rw[a33]at b3;simp only[m8,n9,simprocAttr,hmi,bn];refine i5 (fun hc=>?_) (fun hc=>?_)
  ·have hlt:m<(b9 p).l.length:=by simpa using hc
   have hin:=hvL3.inS hlt;obtain⟨sv,hsv,hld⟩:=G1 (P:=prog) (t:=127) hvL3 (s7.hb) (ev2 hlt) X9 Y1 Y0 I9;rw[I9]at hld;have htk:((b9 p).l.take (m+1)).map (fun it=>C6 (ai2 p Y3 it.s))=((b9 p).l.take m).map (fun it=>C6 (ai2 p Y3 it.s))++[C6 (ai2 p Y3 (b9 p).l[m].s)]:=by
    rw[ew1 hlt,ey5];rfl
   have hfits:=hr.fits _ (ew2 hlt);have hwts:=hitw _ (ew2 hlt);have hlen1:((((b9 p).l.take m).map fun it=>C6 (ai2 p Y3 it.s))).length≤200:=by rw[ew3,ew6];omega
   generalize(b9 p).l[m]=it at hsv htk hfits hwts;generalize((b9 p).l.take m).map (fun it=>C6 (ai2 p Y3 it.s))=xs at s7 htk hlen1;obtain⟨d,wz8,w8,hal,hst,hx8,hati⟩:=aG8 (w:=w7) (A3 vd) hsv (fun b hb=>s7.ox.lt hb);obtain⟨us,hus,hats,_,_⟩:=L8.it hsv hati;have s8:=(s7.more hx8).more (o6.drew w8);have hcb:∀w',o9 (A3 vd) w8.drew w'→w'.heap[bb]?=some (.cells ((fun v=>#[.pointer (some ⟨gs,0,none⟩),vx,vx2,v,vi,vo]) vd) 97 (0,0)):=fun w' hm=>(hm.block bb (ev9.1 s8.cb).1 fun h=>(s8.dx bb h).2.1 rfl).trans s8.cb;have k2:∀K f d w0,B8 prog (fun w'=>o9 (A3 vd) w8.drew w') (Instr.loadAt 95 (.pointer (some ⟨bb,3,none⟩))) K f d w0=K (A5 f d vd) w0:=fun K f d w0=>A0 (w0:=w8.drew) (o9.refl _) fun w' h=>E8 (i:=3) (hcb w' h) rfl ag9;have k3:=(L8.st_v hus hats).2 (fun w'=>o9 (A3 vd) w8.drew w') w8.drew (o9.refl _) fun w' h=>D2 ((o9.up (M:=A3 vd) (o6.drew w8)).trans h);simp only[m8,n9,p9,simprocAttr,hmi,bl,hin,hld,hal,hst];refine C2 (fun w'=>o9 (A3 vd) w8.drew w') 12 (A8 [0,1,2,3,4,5,6,7,8,9,10,11]) (by decide +kernel) (o9.refl _) ?_;simp only[D5,A8,m8,n9,simprocAttr,b3,k2,k3];refine y5 es6 (cJ0 ⟨bb,0,none⟩ ⟨b9 p,J1 p,DEFS,_,_,OUTS⟩ p us it.s w8.drew (hbk3 _ _ _ _ s8) ⟨rfl,hOo,hY3⟩ hr.may (hus.mono s8.hb) hwts hfits) ?_;rintro u9 w9 ⟨ho9,hx9⟩;refine⟨o9.up hx9,?_⟩;simp only[D5,m8,simprocAttr];refine y5 bI0 (ae6 ho9 (ew0 (aW2 hY3 hwts) (by decide))) ?_;rintro u10 w10 ⟨ho10,hm10,_⟩;have hx10:o6 w8.drew w10:=ho9.ext2 hx9 hm10;refine⟨o9.up hx10,?_⟩;have s10:=s8.more hx10;obtain⟨p1,vd',w11,w12,p2,p3,s12,p4⟩:=s10.push (P:=prog) (e:=95) cd9 rfl (x:=u10) (y:=C6 (ai2 p Y3 it.s)) (by rw[D8 ho10.isS];exact s8.fresh ho10) (by omega) (by omega) (ix:=3) (by simp) (fun v v'=>by simp) hil hil1;rw[D8 ho10.isS]at p1 p2;simp only[D5,m8,n9,simprocAttr,p1,p2,F7];refine⟨(o9.up hx10).trans (o9.up (o6.alloc _ _)),(o9.up hx10).trans p4,?_⟩;simp only[m8,n9,simprocAttr,hmi,p3];refine⟨(m+1,vd'),by simp only[];omega,by simp only[];rw[B1 m (by omega)],by simp only[];omega,?_⟩;simp only[];rw[htk];exact s12
  have hge:m=(b9 p).l.length:=by simp at hc;omega
  subst hge;rw[ew5]at s7;have hAll:((b9 p).l.map fun it=>C6 (ai2 p Y3 it.s))=M5 p Y3:=rfl;rw[hAll]at s7;have hxsok:K0 (b9 p).l.length 2000000 (M5 p Y3):=aQ3 fun it hit=>aW2 hY3 (hitw it hit);have lp7:=ldp w7 (b7 (hx12d.trans s7.ext));simp only[m8,n9,simprocAttr,b1,lp7,hSp0,hnp0];refine n8 [1,3,147] (σ:=Nat×Bool) (fun s f w'=>f 148 = .int .i64 s.1∧s.1≤p.procs.length∧f 10 = .bool s.2∧BM (α:=List A4) (β:=List A4) (B5 w2a (nB bb (.slice none 0 0) vi (fun _=>False))) w2.drew w2a w' (fun _=>False) bb 97 22 22 (fun v=>#[.pointer (some ⟨gs,0,none⟩),vx,vx2,v,vi,vo]) vd vi (M5 p Y3) (aK6 Q3 Y3 s.1)∧(s.2=false→Q3.take s.1=Y3.take s.1)∧(s.2=true→Q3≠Y3)) (fun s=>p.procs.length-s.1) (0,false) (by decide +kernel) ?_ ?_
  ·simp only[p6,simprocAttr];exact⟨by trivial,ew4 _,bm,by rw[bJ5];exact s7,fun _=>by simp,fun h=>by cases h⟩
  clear s7;rintro⟨i,mo⟩ f8 w8 hk ⟨hii,hil',hmo,s8,hmf,hmt⟩;simp only at hii hil' hmo s8 hmf hmt;simp only[ev4,p6,simprocAttr]at hk;obtain⟨c1,c3,cn,_⟩:=hk;rw[b1]at c1;rw[b3]at c3;simp only[m8,n9,simprocAttr,hii,cn];refine i5 (fun hc=>?_) (fun hc=>?_);rotate_left
  ·have hge:i=p.procs.length:=by simp at hc;omega
   subst hge;rw[cc9 hNew3.len hY3.len]at s8;rw[ez7 (by rw[hNew3.len];exact ew8 _),ez7 (by rw[hY3.len];exact ew8 _)]at hmf;cases mo with
   | false=>
    have e:=hmf rfl;simp only[m8,simprocAttr];refine⟨((vd,K3),(false,M5 p Y3)),?_,hmo,?_,?_,fun _=>?_⟩
    ·simp only[hYe3];simp;omega
    ·simp only[hYe3];rw[e]at s8;exact s8
    ·simp only[hYe3];exact hKt3
    ·simp only[hYe3];exact⟨hNe3.trans e,trivial⟩
   | true=>
    have e:=hmt rfl;have hlt:=hMore3 e;rw[hSu3]at hlt hBd3';simp only[m8,simprocAttr];refine⟨((vd,K3+1),(true,M5 p Y3)),?_,hmo,?_,?_,fun h=>by cases h⟩
    ·simp only[hSu3];simp;omega
    ·simp only[hSu3];exact s8
    ·simp only[hSu3];omega
  have hlt:i<p.procs.length:=by simpa using hc
  have hqi:Q3[i]?=some (C6 (ay3 p OUTS (M5 p Y3) DEFS i)):=by
   rw[←hNe3];unfold N6;rw[ey8,eE0 hlt];rfl
  have hyi:Y3[i]?=some (Y3[i]'(by rw[hY3.len];exact hlt)):=ev2 _;have hmi2:=cd0 (old:=Y3) hNew3.len hlt;rw[hyi]at hmi2;have hms:=cd1 hNew3.len hY3.len hlt hqi;have hmk:=cz3 (i:=i) hNew3 hY3;have hml:=bA6 (i:=i) hNew3.len hY3.len;have htq:Q3.take (i+1)=Q3.take i++[C6 (ay3 p OUTS (M5 p Y3) DEFS i)]:=by rw[eH3,hqi];rfl
  have hty:Y3.take (i+1)=Y3.take i++[Y3[i]'(by rw[hY3.len];exact hlt)]:=by rw[eH3,hyi];rfl
  simp only[m8,simprocAttr,hii,c3];refine y5 es7 (cO1 ⟨bb,0,none⟩ ⟨b9 p,J1 p,DEFS,_,_,OUTS⟩ p i w8 (hbk3 _ _ _ _ s8) ⟨rfl,hOo,hmk⟩ rfl hDo hxsok hr hw hlt) ?_;rintro u9 w9 ⟨ho9,hx9⟩;simp only[m8,simprocAttr];refine y5 bI0 (ae6 ho9 (ew0 (cl0 hr.may OUTS (M5 p Y3) DEFS i) (by decide))) ?_;rintro u10 w10 ⟨ho10,hm10,_⟩;have hx10:o6 w8 w10:=ho9.ext2 hx9 hm10;have s10:=s8.more hx10;have hfew10:(C6 (ay3 p OUTS (M5 p Y3) DEFS i)).length≤25:=hNew3.few _ (ex2 hqi);have hfewy:(Y3[i]'(by rw[hY3.len];exact hlt)).length≤25:=hY3.few _ (ew2 _);have hyi2:=hyi;generalize Y3[i]'(by rw[hY3.len];exact hlt)=yi at hmi2 hty hfewy hyi2;generalize C6 (ay3 p OUTS (M5 p Y3) DEFS i)=qi at hqi hms htq ho10 hfew10;have hfr:=s8.fresh ho10;have hine:=s10.oy.inS (k:=i) (by omega);cases mo with
  | true=>
   obtain⟨w12,q1,s12⟩:=s10.set (P:=prog) (t:=22) rfl (k:=i) (by omega) (u:=u10) (y:=qi) hfr (D8 ho10.isS) hiS hiS1;rw[hms]at s12;have ld5:(Instr.loadAt 95 (.pointer (some ⟨bb,4,none⟩))).run prog w10 = .ok vi w10:=E8 (i:=4) s10.cb rfl ag9;simp only[m8,n9,p9,simprocAttr,hmo,hii,c3,ld5,hine,q1];refine⟨(i+1,true),by simp only[];omega,by simp only[];rw[B1 i (by omega)],by simp only[];omega,by trivial,s12,(fun h=>by cases h),fun _=>hmt rfl⟩
  | false=>
   obtain⟨ur,hur,hldr⟩:=aZ4 (P:=prog) (t:=22) s10.oy hmi2 M4;have ld5:(Instr.loadAt 95 (.pointer (some ⟨bb,4,none⟩))).run prog w10 = .ok vi w10:=E8 (i:=4) s10.cb rfl ag9;simp only[m8,n9,p9,simprocAttr,hmo,c3,ld5,hine,hldr];refine y5 dE9 (bg3 u10 ur qi yi w10 (ho10.rw_ (b7 hx10)) (z7.mono (C0 _ _) hur) (by omega) (by omega)) ?_;rintro _ w11 ⟨rfl,hx11⟩;have s11:=s10.more hx11;have hfr11:=z7.mono (H1 hx11 (fun _ h=>h.elim) fun b h=>.inl h) hfr;obtain⟨w12,q1,s12⟩:=s11.set (P:=prog) (t:=22) rfl (k:=i) (by omega) (u:=u10) (y:=qi) hfr11 (D8 ho10.isS) hiS hiS1;rw[hms]at s12;have ld5':(Instr.loadAt 95 (.pointer (some ⟨bb,4,none⟩))).run prog w11 = .ok vi w11:=E8 (i:=4) s11.cb rfl ag9;rcases ev3 (decide (qi=yi))with he|he
   ·have e:=ev6 he;simp only[m8,n9,p9,simprocAttr,he,hii,c3,ld5',hine,q1];refine⟨(i+1,false),by simp only[];omega,by simp only[];rw[B1 i (by omega)],by simp only[];omega,by trivial,s12,fun _=>?_,fun h=>by cases h⟩;simp only[];rw[htq,hty,hmf rfl,e]
   ·have e:=ev7 he;simp only[m8,n9,p9,simprocAttr,he,hii,c3,ld5',hine,q1];refine⟨(i+1,true),by simp only[];omega,by simp only[];rw[B1 i (by omega)],by simp only[];omega,by trivial,s12,(fun h=>by cases h),fun _ h=>e ?_⟩;have h1:=ex0 (fun l:Rws=>l[i]?) h;simp only[hqi,hyi2]at h1;exact ex1 h1
 have hfx:=hfin3 hc;have hIns:X5 p=F6 (N6 p OUTS DEFS) K3 (List.replicate p.procs.length []):=by
  unfold X5;rw[hOUT,hDEF];exact aN4 K3 1000 _ (by omega) hfx.1
 rw[←hIns]at s3a hfx;rw[hfx.2]at s3a;have hfinal:p7 p=⟨b9 p,J1 p,DEFS,M5 p (X5 p),X5 p,OUTS⟩:=by
  unfold p7;rw[hOUT,hDEF]
 simp only[m8,simprocAttr,a33];refine n7 results49 ?_;simp only[p6,simprocAttr];exact⟨fun h=>(by cases h),fun _=>⟨_,by trivial,by rw[hfinal];exact hbk3 _ _ _ _ s3a⟩,hx1.trans (hx12d.trans s3a.ext)⟩
def bh5(h:Hp)(w w':World):Hp:=fun b=>if b<w.heap.size then h b else w'.heap[b]?
section
variable {h:Hp} {w w':World}
theorem cv9{b:Nat}(hb:w.heap.size≤b):bh5 h w w' b=w'.heap[b]?:=by unfold bh5;rw[if_neg (by omega)]
theorem bt1(hh:B4 h (d7 w)):B4 h (bh5 h w w'):=fun b o e=>by
 have hb:b<w.heap.size:=(ev9.1 (show w.heap[b]?=some o from hh b o e)).1;unfold bh5;rw[if_pos hb];exact e
theorem cN7(hh:B4 h (d7 w))(hx:o6 w w'):B4 (bh5 h w w') (d7 w'):=fun b o e=>by
 unfold bh5 at e;split at e
 ·exact b7 hx b o (hh b o e)
 ·exact e
theorem cb8(hh:B4 h (d7 w))(hx:o6 w w'){N:Nat→Prop}(hN:∀b,N b→b<w.heap.size∧h b=none):B4 (bh5 h w w') (B5 w' N):=fun b o e=>by
 have hn:¬N b:=fun hb=>by
  unfold bh5 at e;rw[if_pos (hN b hb).1,(hN b hb).2]at e;cases e
 rw[D3 hn];exact cN7 hh hx b o e
theorem A9.upR{α:Type}[G7 α]{T:TypeId}{u:Value}{l:List α}(ho:A9 (d7 w) w' T u l):R (bh5 h w w') u l:=
 (ho.down (h:=fun _=>none) (fun _ _ h=>by cases h)).ro (fun _ _ h=>by cases h) fun b hb=>cv9 (C9 (ho.free hb))
end
end Go.Proofs.YtdgicngfmfldmaaGreat

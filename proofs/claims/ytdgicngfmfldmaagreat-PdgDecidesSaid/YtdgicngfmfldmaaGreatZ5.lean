/- pdgEnds.proved: for every input the law returns true. No condition. Part 5 of 7. -/
import Derived.ArgAppend
import Derived.Laws.IdiomRangeMap
import Derived.Test.YtdgicngfmfldmaaGreatZ4
set_option maxRecDepth 1000000
set_option maxHeartbeats 8000000
set_option linter.unusedVariables false
set_option linter.unusedSimpArgs false
set_option linter.unnecessarySimpa false
namespace Go.Proofs.YtdgicngfmfldmaaGreat
open Go Tryz
theorem bj4{p:Pg}(hm:N1 p=true):∃k,H5 p=F6 (E9 p) k (List.replicate p.procs.length [])∧E9 p (H5 p)=H5 p:=by
 have hC:=aK8 hm;have hp:=(Q8 hm).2;have key:∀m,(∃k,k≤m∧E9 p (F6 (E9 p) k (List.replicate p.procs.length []))=F6 (E9 p) k (List.replicate p.procs.length []))∨m≤au0 (F6 (E9 p) m (List.replicate p.procs.length [])):=fun m=>by
  induction m with
  | zero=>exact .inr (ew4 _)
  | succ m ih=>
   rcases ih with⟨k,hk,e⟩|ih
   ·exact .inl ⟨k,by omega,e⟩
   ·by_cases e:E9 p (F6 (E9 p) m (List.replicate p.procs.length []))=F6 (E9 p) m (List.replicate p.procs.length [])
    ·exact .inl ⟨m,by omega,e⟩
    ·have:=hC.more m e;exact .inr (by omega)
 rcases key 500 with⟨k,hk,e⟩|h
 ·have e1:H5 p=F6 (E9 p) k (List.replicate p.procs.length []):=aN4 k 1000 _ (by omega) e;exact⟨k,e1,by rw[e1];exact e⟩
 ·have:=hC.bound 500;omega
theorem cc1{p:Pg}(hr:E4 p)(hw:C8 p≤1000000):∃k,X5 p=F6 (N6 p (H5 p) (G9 p (H5 p))) k (List.replicate p.procs.length [])∧N6 p (H5 p) (G9 p (H5 p)) (X5 p)=X5 p:=by
 have hC:=aT7 hr.may (H5 p) (G9 p (H5 p)) fun i hi=>bU2 hr hw i hi;have hp:=(Q8 hr.may).2;generalize hG:N6 p (H5 p) (G9 p (H5 p))=G at hC;have key:∀m,(∃k,k≤m∧G (F6 G k (List.replicate p.procs.length []))=F6 G k (List.replicate p.procs.length []))∨m≤au0 (F6 G m (List.replicate p.procs.length [])):=fun m=>by
  induction m with
  | zero=>exact .inr (ew4 _)
  | succ m ih=>
   rcases ih with⟨k,hk,e⟩|ih
   ·exact .inl ⟨k,by omega,e⟩
   ·by_cases e:G (F6 G m (List.replicate p.procs.length []))=F6 G m (List.replicate p.procs.length [])
    ·exact .inl ⟨m,by omega,e⟩
    ·have:=hC.more m e;exact .inr (by omega)
 rcases key 500 with⟨k,hk,e⟩|h
 ·have e1:X5 p=F6 G k (List.replicate p.procs.length []):=by
   unfold X5;rw[hG];exact aN4 k 1000 _ (by omega) e
  exact⟨k,e1,by rw[e1];exact e⟩
 ·have:=hC.bound 500;omega
theorem as8{p:Pg}(hm:N1 p=true):K0 p.procs.length 25 (H5 p):=by
 obtain⟨k,e,_⟩:=bj4 hm;rw[e];exact(aK8 hm).iter_ok k
theorem aF1{p:Pg}(hr:E4 p)(hw:C8 p≤1000000):K0 p.procs.length 25 (X5 p):=by
 obtain⟨k,e,_⟩:=cc1 hr hw;rw[e];exact(aT7 hr.may (H5 p) (G9 p (H5 p)) fun i hi=>bU2 hr hw i hi).iter_ok k
theorem bq8{p:Pg}(hr:E4 p)(hw:C8 p≤1000000):K0 (b9 p).l.length 100 (p7 p).defs:=aQ3 fun it hit=>aE4 hr.may (as8 hr.may) (hr.fits it hit)
theorem bq9{p:Pg}(hr:E4 p)(hw:C8 p≤1000000):K0 (b9 p).l.length 2000000 (p7 p).uses:=aQ3 fun it hit=>aW2 (aF1 hr hw) (ac7 p hw it hit)
theorem M1{p:Pg}{i:Nat}(hi:i<p.procs.length):(p7 p).way (i:Int)=D6 (b9 p) i:=by
 unfold Bk.way;rw[ex8];exact bz8 (V2 hi)
theorem V3{p:Pg}{i:Nat}(hi:i<p.procs.length):(p7 p).s.fn (i:Int)=p.procs[i]:=by
 have e:(p7 p).s=b9 p:=rfl;rw[e];unfold Sh.fn;rw[I6,ex8,List.getD,ev2 hi];rfl
theorem aC4{α β:Type}(g:α→β)(l:List α){k:Nat}(hk:k<l.length):(l.take (k+1)).map g=(l.take k).map g++[g l[k]]:=by
 rw[ew1 hk,ey5];rfl
theorem ae5{p:Pg}{i x y:Nat}{wy:Wy}(hwy:ai4 p i x y wy){k:Nat}(h0:k≠0)(hk:(k:Int)<wy.n-1):∃q:Nat,wy.place (k:Int)-1=(q:Int)∧q<(b9 p).l.length∧wy.place (k:Int)=(q:Int)+1∧(x:Int)<(q:Int)+1∧(q:Int)+1≤(y:Int):=by
 have hn:=hwy.n;have h1:=hwy.part.ok.len;have e:wy.place (k:Int)=(x:Int)+1+k-1:=by
  rw[hwy.toWyOk.place,if_neg (by omega),if_neg (by omega)]
 exact⟨x+k-1,by omega,by omega,by omega,by omega,by omega⟩
theorem cg1(h:Hp)(a:Addr)(p:Pg)(i k:Nat)(w:World)(ha:At h a (p7 p))(hh:B4 h (d7 w))(hr:E4 p)(hw:C8 p≤1000000)(hi:i<p.procs.length)(hk:(k:Int)<(D6 (b9 p) i).n):
  Calls prog 138 #[.pointer (some a),.int .i64 i,.int .i64 k] w fun e w'=>∃u,e = .returned u∧(R (bh5 h w w') u ((p7 p).gives i k)∧o6 w w'):=by
 refine d9 (args:=[.pointer (some a),.int .i64 i,.int .i64 k]) hm func138 rfl (by kernel_rfl) (by show 3≤_;decide +kernel) ?_;obtain⟨x,pt⟩:=M9 hr.may hw i hi;have hwy:=P7 pt;generalize x+A7 p.procs[i].body=y at pt hwy;have h200:=J3 hr.may;have hF:(p7 p).gives (i:Int) (k:Int)=if(k:Int)=0 then C6 (F3 (X5 p) (i:Int)++p.procs[i].params.map (·.name))else if(k:Int)=(D6 (b9 p) i).n-1∨atB (D6 (b9 p) i).live (k:Int)=false then[]else F3 (G9 p (H5 p)) ((D6 (b9 p) i).place (k:Int)-1):=by
  unfold Bk.gives;rw[M1 hi,V3 hi];rfl
 obtain⟨sh,vw,vd,_,vi,_,has,hvw,hvd,_,hvi,_,ldb,sdb⟩:=ha.book rfl;obtain⟨_,_,_,_,_,_,hpg,_,_⟩:=has.sh;rw[I6]at hpg;obtain⟨vg,vp,hvg,hvp,ldp,sdp⟩:=hpg.pg;obtain⟨aw,hcw,haw⟩:=aw4 (hv:=hvw) (k:=i) (p:=⟨D6 (b9 p) i⟩) (by show((J1 p).map fun w=>(⟨w⟩:Ptr Wy))[i]?=_;rw[ey8,V2 hi];rfl);simp only at haw;have hinw:=hvw.inS (k:=i) (by show i<((J1 p).map fun w=>(⟨w⟩:Ptr Wy)).length;unfold J1;simpa using hi);have lb:=ldb w hh;have hlw:=G4 (P:=prog) (t:=102) hcw hh aq9;have hhw:∀w',o6 w w'→B4 h (d7 w'):=fun w' hx=>p8 hh (b7 hx);have hn:=hwy.n;have hlen:=pt.ok.len;rcases Nat.eq_zero_or_pos k with hk0|hk0
 ·subst hk0;rw[if_pos (by trivial)]at hF;obtain⟨hrow,hrise,hfew⟩:=(aF1 hr hw).row hi;generalize F3 (X5 p) (i:Int)=row at hrow hrise hfew hF;obtain⟨ui,hui,hci⟩:=R.row hvi (show(p7 p).ins[i]?=some row from hrow);have hini:=hvi.inS (k:=i) (show i<(X5 p).length from(ev8.1 hrow).1);have hli:=G4 (P:=prog) (t:=22) hci hh M4;simp only[m8,n9,p9,simprocAttr,lb,hinw,hlw,hini,hli];refine y5 cc0 (al9 ui row w (z7.mono hh hui) (by omega)) ?_;rintro u2 w2 ⟨ho2,hx2⟩;have lb2:=ldb w2 (hhw w2 hx2);have lp2:=ldp w2 (hhw w2 hx2);have hatp:=hvp.at_ (i:=i) (x:=p.procs[i]) (ev2 hi);have hinp:=hvp.inS (k:=i) hi;have hz5:z7.sz Pr=5:=rfl;rw[hz5]at hatp;obtain⟨vpa,_,_,_,hvpa,_,_,_,ldr,_⟩:=hatp.pr;have lr2:=ldr w2 (hhw w2 hx2);have hpl:=O0 hr.may hi;generalize p.procs[i].params=pas at hvpa hpl hF;have hSp:=hvpa.isS;have hnp:=hvpa.vlen;simp only[m8,n9,p9,simprocAttr,lb2,lp2,hinp,lr2,hSp,hnp];refine n8 [40,41] (σ:=Nat×Value) (fun s f w'=>f 42 = .int .i64 s.1∧f 8=s.2∧s.1≤pas.length∧A9 (d7 w) w' 9 s.2 (row++(pas.take s.1).map (·.name))∧o6 w w') (fun s=>pas.length-s.1) (0,u2) (by decide +kernel) ?_ ?_
  ·simp only[p6,simprocAttr];exact⟨by trivial,by trivial,ew4 _,by simpa using ho2,hx2⟩
  rintro⟨j,u⟩ f w3 hk ⟨h42,h8,hjl,ho,hx3⟩;simp only at h42 h8 hjl ho;simp only[ev4,p6,simprocAttr]at hk;obtain⟨e40,e41,_⟩:=hk;simp only[m8,n9,simprocAttr,h42,e41];refine i5 (fun hc=>?_) (fun hc=>?_)
  ·have hlt:j<pas.length:=by simpa using hc
   have hin:=hvpa.inS hlt;obtain⟨sv,hsv,hld⟩:=G1 (P:=prog) (t:=69) hvpa (hhw w3 hx3) (ev2 hlt) bb1 bb6 bb4 ao3;rw[ao3]at hld;have htk:=aC4 (fun q:Pa=>q.name) pas hlt;generalize pas[j]=pa at hsv htk;obtain⟨d,wz,w4,hal,hst,hx4,hat⟩:=aG6 (hsv.mono (hhw w3 hx3)) (i4 _);obtain⟨ld4,_⟩:=hat.pa;have l4:=ld4 w4 (i4 _);obtain⟨p1,u5,w5,p2,p3,p4,p5⟩:=at1 (e:=22) (ho.ext hx4) pa.name (by rw[ev5,ew3,ew6];omega) (b7 (hx3.trans hx4));simp only[m8,n9,p9,simprocAttr,h42,h8,e40,hin,hld,hal,hst,l4,p1,p2];refine⟨(j+1,u5),by simp only[];omega,by simp only[];rw[B1 j (by omega)],by trivial,by simp only[];omega,?_,(ho.ext hx4).ext2 (hx3.trans hx4) p4⟩;simp only[];rw[htk,←ex9];exact p3
  ·have hge:j=pas.length:=by simp at hc;omega
   subst hge;rw[ew5]at ho;simp only[m8,simprocAttr,h8];refine y5 bI0 (ae6 ho (by rw[ev5,ew3];omega)) ?_;rintro u6 w6 ⟨ho6,hm6,_⟩;simp only[m8,simprocAttr];refine n7 results138 ?_;simp only[p6,simprocAttr];have e:(p7 p).gives (i:Int) 0=C6 (row++pas.map (·.name)):=hF;exact⟨by rw[e];exact ho6.upR,ho.ext2 hx3 hm6⟩
 have hk0':decide ((k:Int)=0)=false:=by simp;omega
 rw[if_neg (by omega)]at hF;have hplace:=fun h0 hk1=>ae5 hwy (k:=k) h0 hk1;have hlive:=hwy.live;obtain⟨_,_,vl,_,_,hvl,ldw,sdw⟩:=haw.wy;have lw:=ldw w hh;have hwn:IntKind.i64.wrap ((D6 (b9 p) i).n-1)=(D6 (b9 p) i).n-1:=K1 _ (by omega);generalize hWY:D6 (b9 p) i=wy at hwy hn hF hplace hlive hvl lw hwn hk haw sdw;rcases ev3 (decide ((k:Int)=wy.n-1))with hq|hq
 ·rw[if_pos (.inl (ev6 hq))]at hF;simp only[m8,n9,p9,simprocAttr,lb,hinw,hlw,hk0',lw,hwn,hq];refine n7 results138 ?_;simp only[p6,simprocAttr];exact⟨by rw[hF];exact aU2 _,o9.refl _⟩
 have hkl:k<wy.live.length:=by omega
 have hinl:=hvl.inS hkl;have hldl:=ldB hvl hh hkl;have hat:wy.live[k]=atB wy.live (k:Int):=by
  unfold atB;rw[ex8,List.getD,ev2 hkl];rfl
 rw[hat]at hldl;have hne:=ev7 hq;rcases ev3 (atB wy.live (k:Int))with hl|hl;rotate_left
 ·rw[if_pos (.inr hl)]at hF;rw[hl]at hldl;simp only[m8,n9,p9,simprocAttr,lb,hinw,hlw,hk0',lw,hwn,hq,hinl,hldl];refine n7 results138 ?_;simp only[p6,simprocAttr];exact⟨by rw[hF];exact aU2 _,o9.refl _⟩
 rw[if_neg (by rw[hl];simp[hne])]at hF;rw[hl]at hldl;obtain⟨q,hqe,hqL,hpe,_⟩:=hplace (by omega) (by omega);rw[hqe]at hF;obtain⟨hdrow,hdrise,hdfew⟩:=(bq8 hr hw).row hqL;have hdrow':(G9 p (H5 p))[q]?=some (F3 (G9 p (H5 p)) (q:Int)):=hdrow;generalize F3 (G9 p (H5 p)) (q:Int)=dr at hdrow' hF;obtain⟨ud,hud,hcd⟩:=R.row hvd (show(p7 p).defs[q]?=some dr from hdrow');have hind:=hvd.inS (k:=q) (show q<(G9 p (H5 p)).length from(ev8.1 hdrow').1);have hxd:=o6.drew w;have t1:=sdb (fun w'=>o6 w.drew w') w.drew (o9.refl _) fun w' hx=>hhw w' (hxd.trans hx);simp only[m8,n9,p9,simprocAttr,lb,hinw,hlw,hk0',lw,hwn,hq,hinl,hldl];refine C2 (fun w'=>o6 w.drew w') 8 (A8 [0,1,2,3,4,5,6,7]) (by decide +kernel) (o9.refl _) ?_;simp only[D5,A8,m8,n9,simprocAttr,t1];refine B3 bh6 (aa5 aw wy p i x y (k:Int) w.drew (haw.mono (hhw _ hxd)) hwy.toWyOk (by omega)) (fun w3 hx3=>⟨hx3,?_⟩);have hwq:IntKind.i64.wrap (wy.place (k:Int)-1)=(q:Int):=by rw[hqe];exact K1 _ (by omega)
 have hx03:=hxd.trans hx3;have hlD:=G4 (P:=prog) (t:=22) hcd (hhw w3 hx03) M4;simp only[D5,m8,n9,p9,simprocAttr,hwq,hind,hlD];refine n7 results138 ?_;simp only[p6,simprocAttr];exact⟨by rw[hF];exact z7.mono (bt1 hh) hud,hx03⟩
theorem cg7(h:Hp)(a:Addr)(p:Pg)(i k:Nat)(w:World)(ha:At h a (p7 p))(hh:B4 h (d7 w))(hr:E4 p)(hw:C8 p≤1000000)(hi:i<p.procs.length)(hk:(k:Int)<(D6 (b9 p) i).n):
  Calls prog 89 #[.pointer (some a),.int .i64 i,.int .i64 k] w fun e w'=>∃u,e = .returned u∧(R (bh5 h w w') u ((p7 p).takes i k)∧o6 w w'):=by
 refine d9 (args:=[.pointer (some a),.int .i64 i,.int .i64 k]) hm func89 rfl (by kernel_rfl) (by show 3≤_;decide +kernel) ?_;obtain⟨x,pt⟩:=M9 hr.may hw i hi;have hwy:=P7 pt;generalize x+A7 p.procs[i].body=y at pt hwy;have h200:=J3 hr.may;have hF:(p7 p).takes (i:Int) (k:Int)=if(k:Int)=(D6 (b9 p) i).n-1 then C6 (F3 (H5 p) (i:Int)++[M3])else if(k:Int)=0∨atB (D6 (b9 p) i).live (k:Int)=false then[]else F3 (M5 p (X5 p)) ((D6 (b9 p) i).place (k:Int)-1):=by
  unfold Bk.takes;rw[M1 hi];rfl
 obtain⟨sh,vw,_,vu,_,vo,has,hvw,_,hvu,_,hvo,ldb,sdb⟩:=ha.book rfl;obtain⟨aw,hcw,haw⟩:=aw4 (hv:=hvw) (k:=i) (p:=⟨D6 (b9 p) i⟩) (by show((J1 p).map fun w=>(⟨w⟩:Ptr Wy))[i]?=_;rw[ey8,V2 hi];rfl);simp only at haw;have hinw:=hvw.inS (k:=i) (by show i<((J1 p).map fun w=>(⟨w⟩:Ptr Wy)).length;unfold J1;simpa using hi);have lb:=ldb w hh;have hlw:=G4 (P:=prog) (t:=102) hcw hh aq9;have hhw:∀w',o6 w w'→B4 h (d7 w'):=fun w' hx=>p8 hh (b7 hx);have hn:=hwy.n;have hlen:=pt.ok.len;have hle':=pt.ok.le;have hplace:=fun h0 hk1=>ae5 hwy (k:=k) h0 hk1;have hlive:=hwy.live;obtain⟨_,_,vl,_,_,hvl,ldw,sdw⟩:=haw.wy;have lw:=ldw w hh;have hwn:IntKind.i64.wrap ((D6 (b9 p) i).n-1)=(D6 (b9 p) i).n-1:=K1 _ (by omega);generalize hWY:D6 (b9 p) i=wy at hwy hn hF hplace hlive hvl lw hwn hk haw sdw;rcases ev3 (decide ((k:Int)=wy.n-1))with hq|hq
 ·rw[if_pos (ev6 hq)]at hF;obtain⟨hrow,hrise,hfew⟩:=(as8 hr.may).row hi;generalize F3 (H5 p) (i:Int)=row at hrow hrise hfew hF;obtain⟨ui,hui,hci⟩:=R.row hvo (show(p7 p).outs[i]?=some row from hrow);have hini:=hvo.inS (k:=i) (show i<(H5 p).length from(ev8.1 hrow).1);have hli:=G4 (P:=prog) (t:=22) hci hh M4;simp only[m8,n9,p9,simprocAttr,lb,hinw,hlw,lw,hwn,hq,hini,hli];refine y5 cc0 (al9 ui row w (z7.mono hh hui) (by omega)) ?_;rintro u2 w2 ⟨ho2,hx2⟩;obtain⟨p1,u5,w5,p2,p3,p4,p5⟩:=at1 (e:=22) ho2 M3 (by omega) (b7 hx2);have p1':(Instr.buildSlice 22 1 #[(0,.string ⟨#[36,114,101,116]⟩)]).run prog w2=_:=p1;simp only[m8,simprocAttr,p1',p2];refine y5 bI0 (ae6 p3 (by rw[ev5,ey3];omega)) ?_;rintro u6 w6 ⟨ho6,hm6,_⟩;simp only[m8,simprocAttr];refine n7 results89 ?_;simp only[p6,simprocAttr];exact⟨by rw[hF];exact ho6.upR,p3.ext2 (ho2.ext2 hx2 p4) hm6⟩
 have hne:=ev7 hq;rw[if_neg hne]at hF;rcases ev3 (decide ((k:Int)=0))with h0|h0
 ·rw[if_pos (.inl (ev6 h0))]at hF;simp only[m8,n9,p9,simprocAttr,lb,hinw,hlw,lw,hwn,hq,h0];refine n7 results89 ?_;simp only[p6,simprocAttr];exact⟨by rw[hF];exact aU2 _,o9.refl _⟩
 have h0n:=ev7 h0;have hkl:k<wy.live.length:=by omega
 have hinl:=hvl.inS hkl;have hldl:=ldB hvl hh hkl;have hat:wy.live[k]=atB wy.live (k:Int):=by
  unfold atB;rw[ex8,List.getD,ev2 hkl];rfl
 rw[hat]at hldl;rcases ev3 (atB wy.live (k:Int))with hl|hl;rotate_left
 ·rw[if_pos (.inr hl)]at hF;rw[hl]at hldl;simp only[m8,n9,p9,simprocAttr,lb,hinw,hlw,h0,lw,hwn,hq,hinl,hldl];refine n7 results89 ?_;simp only[p6,simprocAttr];exact⟨by rw[hF];exact aU2 _,o9.refl _⟩
 rw[if_neg (fun hor=>hor.elim h0n fun e=>by rw[hl]at e;cases e)]at hF;rw[hl]at hldl;obtain⟨q,hqe,hqL,hpe,_⟩:=hplace (by omega) (by omega);rw[hqe]at hF;obtain⟨hdrow,_,_⟩:=(bq9 hr hw).row hqL;have hdrow':(M5 p (X5 p))[q]?=some (F3 (M5 p (X5 p)) (q:Int)):=hdrow;generalize F3 (M5 p (X5 p)) (q:Int)=dr at hdrow' hF;obtain⟨ud,hud,hcd⟩:=R.row hvu (show(p7 p).uses[q]?=some dr from hdrow');have hind:=hvu.inS (k:=q) (show q<(M5 p (X5 p)).length from(ev8.1 hdrow').1);have hxd:=o6.drew w;have t1:=sdb (fun w'=>o6 w.drew w') w.drew (o9.refl _) fun w' hx=>hhw w' (hxd.trans hx);simp only[m8,n9,p9,simprocAttr,lb,hinw,hlw,h0,lw,hwn,hq,hinl,hldl];refine C2 (fun w'=>o6 w.drew w') 8 (A8 [0,1,2,3,4,5,6,7]) (by decide +kernel) (o9.refl _) ?_;simp only[D5,A8,m8,n9,simprocAttr,t1];refine B3 bh6 (aa5 aw wy p i x y (k:Int) w.drew (haw.mono (hhw _ hxd)) hwy.toWyOk (by omega)) (fun w3 hx3=>⟨hx3,?_⟩);have hwq:IntKind.i64.wrap (wy.place (k:Int)-1)=(q:Int):=by rw[hqe];exact K1 _ (by omega)
 have hx03:=hxd.trans hx3;have hlD:=G4 (P:=prog) (t:=22) hcd (hhw w3 hx03) M4;simp only[D5,m8,n9,p9,simprocAttr,hwq,hind,hlD];refine n7 results89 ?_;simp only[p6,simprocAttr];exact⟨by rw[hF];exact z7.mono (bt1 hh) hud,hx03⟩
theorem dE8:af6 prog 65=true:=by kernel_rfl
theorem cX3:af6 prog 98=true:=by kernel_rfl
theorem ck4(x y:Fw)(w:World):Calls prog 94 #[.agg (z6.cells x).toArray,.agg (z6.cells y).toArray] w fun e w'=>∃u,e = .returned u∧(u = .int .i64 (fwC x y)∧Gr w w'):=by
 refine d9 (args:=[.agg (z6.cells x).toArray,.agg (z6.cells y).toArray]) hm func94 rfl (by kernel_rfl) (by show 2≤_;decide +kernel) ?_;obtain⟨a,w1,hb1,hg1,ha⟩:=bE5 (P:=prog) (T:=101) (SV.ofN (d7 w) x) (i4 _);obtain⟨b,w2,hb2,hg2,hb⟩:=bE5 (P:=prog) (T:=101) (SV.ofN (d7 w1) y) (i4 _);obtain⟨_,sa⟩:=(ha.mono (b7 hg2.ext)).fw;obtain⟨_,sb⟩:=hb.fw;have s1:=sa (fun w'=>Gr w2.drew w') w2.drew (Gr.refl _) fun w' h=>b7 ((Gr.drew w2).trans h).ext;have s2:=sb (fun w'=>Gr w2.drew w') w2.drew (Gr.refl _) fun w' h=>b7 ((Gr.drew w2).trans h).ext;simp only[m8,n9,simprocAttr,hb1,hb2];refine C2 (fun w'=>Gr w2.drew w') 18 (A8 [0,1,3,4,7,8,10,11,14,15,16,17,2,5,6,9,12,13]) (by decide +kernel) (Gr.refl _) ?_;simp only[D5,A8,m8,n9,simprocAttr,s1,s2];refine D1 bh8 (ag0 _ _) ⟨Gr.refl _,?_⟩;simp only[D5,m8,simprocAttr];refine D1 bh8 (ag0 _ _) ⟨Gr.refl _,?_⟩;simp only[D5,m8,simprocAttr];refine D1 bh7 (R3 _ _ _) ⟨Gr.refl _,?_⟩;simp only[D5,m8,simprocAttr];refine D1 bh8 (ag0 _ _) ⟨Gr.refl _,?_⟩;simp only[D5,m8,simprocAttr];refine D1 bh8 (ag0 _ _) ⟨Gr.refl _,?_⟩;simp only[D5,m8,simprocAttr];refine D1 bh7 (R3 _ _ _) ⟨Gr.refl _,?_⟩;simp only[D5,m8,simprocAttr];refine D1 cX3 (au4 _ _ _) ?_;generalize hl:[I4 (E2 x.src) (E2 y.src),I4 (E2 x.dst) (E2 y.dst),X2 x.var y.var]=l;have hF:fwC x y=orF l:=by rw[←hl];rfl
 have h3:l.length=3:=by rw[←hl];rfl
 obtain⟨vt,w3,hlit,hot,hg3⟩:=cO3 (P:=prog) (w:=w2.drew) (h:=d7 w2.drew) (α:=Int) (xs:=[.int .i64 (I4 (E2 x.src) (E2 y.src)),.int .i64 (I4 (E2 x.dst) (E2 y.dst)),.int .i64 (X2 x.var y.var)]) (ys:=l) (parts:=#[(0,.int .i64 (I4 (E2 x.src) (E2 y.src))),(1,.int .i64 (I4 (E2 x.dst) (E2 y.dst))),(2,.int .i64 (X2 x.var y.var))]) (n:=3) ad0 rfl (by rw[←hl];exact K9.2 rfl) (by simp[Value.cells]) rfl h3 (by simp) (by simp) (i4 _);simp only[m8,simprocAttr,hlit];refine D1 cx6 (bx6 vt l w3 (hot.rw_ (b7 hg3.ext)) (by omega)) ?_;simp only[m8,simprocAttr];refine n7 results94 ?_;simp only[p6,simprocAttr];exact⟨by rw[hF],hg1.trans (hg2.trans ((Gr.drew w2).trans hg3))⟩
theorem aS3(x y:Vx)(w:World):Calls prog 65 #[.agg (z6.cells x).toArray,.agg (z6.cells y).toArray] w fun e w'=>∃u,e = .returned u∧(u = .int .i64 (vxC x y)∧Gr w w'):=by
 refine d9 (args:=[.agg (z6.cells x).toArray,.agg (z6.cells y).toArray]) hm func65 rfl (by kernel_rfl) (by show 2≤_;decide +kernel) ?_;obtain⟨a,w1,hb1,hg1,ha⟩:=bE5 (P:=prog) (T:=36) (SV.ofN (d7 w) x) (i4 _);obtain⟨b,w2,hb2,hg2,hb⟩:=bE5 (P:=prog) (T:=36) (SV.ofN (d7 w1) y) (i4 _);obtain⟨_,sa⟩:=(ha.mono (b7 hg2.ext)).vx;obtain⟨_,sb⟩:=hb.vx;have s1:=sa (fun w'=>Gr w2.drew w') w2.drew (Gr.refl _) fun w' h=>b7 ((Gr.drew w2).trans h).ext;have s2:=sb (fun w'=>Gr w2.drew w') w2.drew (Gr.refl _) fun w' h=>b7 ((Gr.drew w2).trans h).ext;simp only[m8,n9,simprocAttr,hb1,hb2];refine C2 (fun w'=>Gr w2.drew w') 19 (A8 [0,1,2,3,5,6,7,8,10,11,12,13,15,16,17,18,4,9,14]) (by decide +kernel) (Gr.refl _) ?_;simp only[D5,A8,m8,n9,simprocAttr,s1,s2];refine D1 cX3 (au4 _ _ _) ⟨Gr.refl _,?_⟩;simp only[D5,m8,simprocAttr];refine D1 bh7 (R3 _ _ _) ⟨Gr.refl _,?_⟩;simp only[D5,m8,simprocAttr];refine D1 bh7 (R3 _ _ _) ⟨Gr.refl _,?_⟩;simp only[D5,m8,simprocAttr];refine D1 cX3 (au4 _ _ _) ?_;generalize hl:[X2 x.proc y.proc,I4 x.kind y.kind,I4 x.id y.id,X2 x.slot y.slot]=l;have hF:vxC x y=orF l:=by rw[←hl];rfl
 have h3:l.length=4:=by rw[←hl];rfl
 obtain⟨vt,w3,hlit,hot,hg3⟩:=cO3 (P:=prog) (w:=w2.drew) (h:=d7 w2.drew) (α:=Int) (xs:=[.int .i64 (X2 x.proc y.proc),.int .i64 (I4 x.kind y.kind),.int .i64 (I4 x.id y.id),.int .i64 (X2 x.slot y.slot)]) (ys:=l) (parts:=#[(0,.int .i64 (X2 x.proc y.proc)),(1,.int .i64 (I4 x.kind y.kind)),(2,.int .i64 (I4 x.id y.id)),(3,.int .i64 (X2 x.slot y.slot))]) (n:=4) ad0 rfl (by rw[←hl];exact K9.2 rfl) (by simp[Value.cells]) rfl h3 (by simp) (by simp) (i4 _);simp only[m8,simprocAttr,hlit];refine D1 cx6 (bx6 vt l w3 (hot.rw_ (b7 hg3.ext)) (by omega)) ?_;simp only[m8,simprocAttr];refine n7 results65 ?_;simp only[p6,simprocAttr];exact⟨by rw[hF],hg1.trans (hg2.trans ((Gr.drew w2).trans hg3))⟩
theorem cW6{P:Program}{k:Nat}{args:List Value}{w:World}{K:Fr→World→Prop}{f:Fr}{d:Option Nat}{v:Value}(hb:af6 P k=true)
  (h:Calls P k args.toArray w fun e w'=>∃u,e = .returned u∧(u=v∧Gr w w')) (hk:∀w',Gr w w'→K (A5 f d v) w'):ar2 P k args w K f d:=
 y5 hb h fun u w' ⟨e,hg⟩=>by subst e;exact hk w' hg
theorem cj2(x y:Eg)(w:World):Calls prog 115 #[.agg (z6.cells x).toArray,.agg (z6.cells y).toArray] w fun e w'=>∃u,e = .returned u∧(u = .int .i64 (egC x y)∧Gr w w'):=by
 refine d9 (args:=[.agg (z6.cells x).toArray,.agg (z6.cells y).toArray]) hm func115 rfl (by kernel_rfl) (by show 2≤_;decide +kernel) ?_;obtain⟨a,w1,hb1,hg1,ha⟩:=bE5 (P:=prog) (T:=38) (SV.ofN (d7 w) x) (i4 _);obtain⟨b,w2,hb2,hg2,hb⟩:=bE5 (P:=prog) (T:=38) (SV.ofN (d7 w1) y) (i4 _);obtain⟨hxs,hxd,_,sa⟩:=(ha.mono (b7 hg2.ext)).eg;obtain⟨hys,hyd,_,sb⟩:=hb.eg;obtain⟨sv1,hv1,_,e1⟩:=hxs.vx_v;obtain⟨sv2,hv2,_,e2⟩:=hxd.vx_v;obtain⟨sv3,hv3,_,e3⟩:=hys.vx_v;obtain⟨sv4,hv4,_,e4⟩:=hyd.vx_v;have hN:∀{v:Value} {z:Vx},SV (d7 w2) v z→v = .agg (z6.cells z).toArray:=fun{v z} ⟨cs,e,h1⟩=>by rw[e,(z6.iff_ _ _ _).1 h1]
 obtain rfl:=hN hv1;obtain rfl:=hN hv2;obtain rfl:=hN hv3;obtain rfl:=hN hv4;have hh:∀w',Gr w2.drew w'→B4 (d7 w2) (d7 w'):=fun w' h=>b7 ((Gr.drew w2).trans h).ext;have s1:=sa (fun w'=>Gr w2.drew w') w2.drew (Gr.refl _) hh;have s2:=sb (fun w'=>Gr w2.drew w') w2.drew (Gr.refl _) hh;have s3:=e1 (fun w'=>Gr w2.drew w') w2.drew (Gr.refl _) hh;have s4:=e2 (fun w'=>Gr w2.drew w') w2.drew (Gr.refl _) hh;have s5:=e3 (fun w'=>Gr w2.drew w') w2.drew (Gr.refl _) hh;have s6:=e4 (fun w'=>Gr w2.drew w') w2.drew (Gr.refl _) hh;simp only[m8,n9,simprocAttr,hb1,hb2];refine C2 (fun w'=>Gr w2.drew w') 14 (A8 [0,1,2,3,5,6,7,8,10,11,12,13,4,9]) (by decide +kernel) (Gr.refl _) ?_;simp only[D5,A8,m8,n9,simprocAttr,s1,s2,s3,s4,s5,s6];refine cW6 dE8 (aS3 x.src y.src _) (fun w3 hg3=>⟨hg3,?_⟩);simp only[D5,m8,simprocAttr];refine cW6 dE8 (aS3 x.dst y.dst _) (fun w4 hg4=>⟨hg3.trans hg4,?_⟩);simp only[D5,m8,simprocAttr];refine D1 bh7 (R3 _ _ _) ?_;generalize hl:[vxC x.src y.src,vxC x.dst y.dst,I4 x.kind y.kind]=l;have hF:egC x y=orF l:=by rw[←hl];rfl
 have h3:l.length=3:=by rw[←hl];rfl
 obtain⟨vt,w5,hlit,hot,hg5⟩:=cO3 (P:=prog) (w:=w4) (h:=d7 w4) (α:=Int) (xs:=[.int .i64 (vxC x.src y.src),.int .i64 (vxC x.dst y.dst),.int .i64 (I4 x.kind y.kind)]) (ys:=l) (parts:=#[(0,.int .i64 (vxC x.src y.src)),(1,.int .i64 (vxC x.dst y.dst)),(2,.int .i64 (I4 x.kind y.kind))]) (n:=3) ad0 rfl (by rw[←hl];exact K9.2 rfl) (by simp[Value.cells]) rfl h3 (by simp) (by simp) (i4 _);simp only[m8,simprocAttr,hlit];refine D1 cx6 (bx6 vt l w5 (hot.rw_ (b7 hg5.ext)) (by omega)) ?_;simp only[m8,simprocAttr];refine n7 results115 ?_;simp only[p6,simprocAttr];exact⟨by rw[hF],hg1.trans (hg2.trans ((Gr.drew w2).trans ((hg3.trans hg4).trans hg5)))⟩
theorem or3(a b c:Int):orF [a,b,c]=if a=0 then(if b=0 then(if c=0 then 0 else c)else b)else a:=by simp only[orF]
theorem or4(a b c d:Int):orF [a,b,c,d]=if a=0 then(if b=0 then(if c=0 then(if d=0 then 0 else d)else c)else b)else a:=by simp only[orF]
theorem bE8:Cm fwC:=by
 have h:=(aA7.key (fun x:Fw=>E2 x.src)).lex ((aA7.key (fun x:Fw=>E2 x.dst)).lex ((bQ7.key (fun x:Fw=>x.var)).lex Cm.zero));have e:fwC=fun x y:Fw=>if I4 (E2 x.src) (E2 y.src)=0 then(if I4 (E2 x.dst) (E2 y.dst)=0 then(if X2 x.var y.var=0 then 0 else X2 x.var y.var)else I4 (E2 x.dst) (E2 y.dst))else I4 (E2 x.src) (E2 y.src):=by
  funext x y
  exact or3 _ _ _
 rw[e];exact h
theorem br4:Cm vxC:=by
 have h:=(bQ7.key (fun x:Vx=>x.proc)).lex ((aA7.key (fun x:Vx=>x.kind)).lex ((aA7.key (fun x:Vx=>x.id)).lex ((bQ7.key (fun x:Vx=>x.slot)).lex Cm.zero)));have e:vxC=fun x y:Vx=>if X2 x.proc y.proc=0 then(if I4 x.kind y.kind=0 then(if I4 x.id y.id=0 then(if X2 x.slot y.slot=0 then 0 else X2 x.slot y.slot)else I4 x.id y.id)else I4 x.kind y.kind)else X2 x.proc y.proc:=by
  funext x y
  exact or4 _ _ _ _
 rw[e];exact h
theorem bE7:Cm egC:=by
 have h:=(br4.key (fun x:Eg=>x.src)).lex ((br4.key (fun x:Eg=>x.dst)).lex ((aA7.key (fun x:Eg=>x.kind)).lex Cm.zero));have e:egC=fun x y:Eg=>if vxC x.src y.src=0 then(if vxC x.dst y.dst=0 then(if I4 x.kind y.kind=0 then 0 else I4 x.kind y.kind)else vxC x.dst y.dst)else vxC x.src y.src:=by
  funext x y
  exact or3 _ _ _
 rw[e];exact h
theorem bG9{a b:Fw}(h1:plc a.src∧plc a.dst)(h2:plc b.src∧plc b.dst)(h:fwC a b=0):a=b:=by
 unfold fwC at h;rw[or3]at h;by_cases q1:I4 (E2 a.src) (E2 b.src)=0
 ·rw[if_pos q1]at h;by_cases q2:I4 (E2 a.dst) (E2 b.dst)=0
  ·rw[if_pos q2]at h;by_cases q3:X2 a.var b.var=0
   ·have e1:=aP8 h1.1 h2.1 (S9 q1);have e2:=aP8 h1.2 h2.2 (S9 q2);have e3:=as1 q3;cases a;cases b;simp_all
   ·rw[if_neg q3]at h;exact absurd h q3
  ·rw[if_neg q2]at h;exact absurd h q2
 ·rw[if_neg q1]at h;exact absurd h q1
theorem au2{a b:Vx}(h:vxC a b=0):a=b:=by
 unfold vxC at h;rw[or4]at h;by_cases q1:X2 a.proc b.proc=0
 ·rw[if_pos q1]at h;by_cases q2:I4 a.kind b.kind=0
  ·rw[if_pos q2]at h;by_cases q3:I4 a.id b.id=0
   ·rw[if_pos q3]at h;by_cases q4:X2 a.slot b.slot=0
    ·have e1:=as1 q1;have e2:=S9 q2;have e3:=S9 q3;have e4:=as1 q4;cases a;cases b;simp_all
    ·rw[if_neg q4]at h;exact absurd h q4
   ·rw[if_neg q3]at h;exact absurd h q3
  ·rw[if_neg q2]at h;exact absurd h q2
 ·rw[if_neg q1]at h;exact absurd h q1
theorem bf6{a b:Eg}(h:egC a b=0):a=b:=by
 unfold egC at h;rw[or3]at h;by_cases q1:vxC a.src b.src=0
 ·rw[if_pos q1]at h;by_cases q2:vxC a.dst b.dst=0
  ·rw[if_pos q2]at h;by_cases q3:I4 a.kind b.kind=0
   ·have e1:=au2 q1;have e2:=au2 q2;have e3:=S9 q3;cases a;cases b;simp_all
   ·rw[if_neg q3]at h;exact absurd h q3
  ·rw[if_neg q2]at h;exact absurd h q2
 ·rw[if_neg q1]at h;exact absurd h q1
theorem Cm.eq0{α:Type}{c:α→α→Int}(h:Cm c){a b:α}(h1:decide (c a b≤0)=true)(h2:decide (c b a≤0)=true):c a b=0:=by
 have h3:=ev6 h1;have h4:=ev6 h2;have h5:=h.anti a b;omega
theorem dI6:F2 prog 99 101 3 32=true:=by kernel_rfl
theorem bM4:F2 prog 30 36 4 48=true:=by kernel_rfl
theorem dI4:F2 prog 32 38 9 104=true:=by kernel_rfl
theorem cl9:(Tryz.lySortF_ren.f 6)=93:=by kernel_rfl
theorem bu0:(Tryz.lySortF_ren.t 24)=101:=by kernel_rfl
theorem bW0{h:Hp}{w:World}{v:Value}{xs:List Fw}(ho:A9 h w 101 v xs)(hl:xs.length≤1000000000)(hp:∀a∈xs,∀b∈xs,decide (fwC a b≤0)=true→decide (fwC b a≤0)=true→a=b):
  Calls prog 93 #[v,.func (.func 94) #[] #[]] w fun e w'=>∃u,e = .returned u∧(A9 h w' 101 v (U2 bo8 xs)∧o9 (A3 v) w w'):=by
 rw[←cl9];have aE:∀w,(isAgg (Tryz.lySortF_ren.t 24)).run prog w = .ok true w:=fun w=>by
  rw[bu0,W1 _ bX8,bX0]
 have zE:∀w,(Go.sizeOf (Tryz.lySortF_ren.t 24)).run prog w = .ok (z7.sz Fw) w:=fun w=>by
  rw[bu0,N4 bX2,bm8];rfl
 exact aF7 (P:=prog) (T:=101) Tryz.lySortF aE zE fwC bE8 94 (enters_of func94 (by kernel_rfl) rfl) (fun x y w=>(ck4 x y w).mono fun e w' ⟨u,h1,h2,h3⟩=>⟨by rw[h1,h2],h3⟩) ho hl hp
theorem cm1:(Tryz.lySortV_ren.f 6)=64:=by kernel_rfl
theorem bu2:(Tryz.lySortV_ren.t 24)=36:=by kernel_rfl
theorem bW1{h:Hp}{w:World}{v:Value}{xs:List Vx}(ho:A9 h w 36 v xs)(hl:xs.length≤1000000000)(hp:∀a∈xs,∀b∈xs,decide (vxC a b≤0)=true→decide (vxC b a≤0)=true→a=b):
  Calls prog 64 #[v,.func (.func 65) #[] #[]] w fun e w'=>∃u,e = .returned u∧(A9 h w' 36 v (U2 co4 xs)∧o9 (A3 v) w w'):=by
 rw[←cm1];have aE:∀w,(isAgg (Tryz.lySortV_ren.t 24)).run prog w = .ok true w:=fun w=>by
  rw[bu2,W1 _ aJ0,aI8]
 have zE:∀w,(Go.sizeOf (Tryz.lySortV_ren.t 24)).run prog w = .ok (z7.sz Vx) w:=fun w=>by
  rw[bu2,N4 aI9,ad2];rfl
 exact aF7 (P:=prog) (T:=36) Tryz.lySortV aE zE vxC br4 65 (enters_of func65 (by kernel_rfl) rfl) (fun x y w=>(aS3 x y w).mono fun e w' ⟨u,h1,h2,h3⟩=>⟨by rw[h1,h2],h3⟩) ho hl hp
theorem cl8:(Tryz.lySortE_ren.f 6)=114:=by kernel_rfl
theorem bt9:(Tryz.lySortE_ren.t 24)=38:=by kernel_rfl
theorem bM6{h:Hp}{w:World}{v:Value}{xs:List Eg}(ho:A9 h w 38 v xs)(hl:xs.length≤1000000000)(hp:∀a∈xs,∀b∈xs,decide (egC a b≤0)=true→decide (egC b a≤0)=true→a=b):
  Calls prog 114 #[v,.func (.func 115) #[] #[]] w fun e w'=>∃u,e = .returned u∧(A9 h w' 38 v (U2 ct7 xs)∧o9 (A3 v) w w'):=by
 rw[←cl8];have aE:∀w,(isAgg (Tryz.lySortE_ren.t 24)).run prog w = .ok true w:=fun w=>by
  rw[bt9,W1 _ bO2,bN6]
 have zE:∀w,(Go.sizeOf (Tryz.lySortE_ren.t 24)).run prog w = .ok (z7.sz Eg) w:=fun w=>by
  rw[bt9,N4 bw2,aR5];rfl
 exact aF7 (P:=prog) (T:=38) Tryz.lySortE aE zE egC bE7 115 (enters_of func115 (by kernel_rfl) rfl) (fun x y w=>(cj2 x y w).mono fun e w' ⟨u,h1,h2,h3⟩=>⟨by rw[h1,h2],h3⟩) ho hl hp
theorem D7.rowlen{n:Nat}{l:List (List Int)}(h:D7 n l)(a:Int):(C1 l a).length≤n:=by
 have:=ax0 (n:=n) (m:=0) (h.row a).1 (fun y hy=>C5.1 ((h.row a).2 y hy)) (by omega);omega
inductive ar3 (nx gen kill:List (List Int)):Int→Nat→Prop
 | gen {a b:Int} {f:Nat}:b∈C1 nx a→(f:Int)∈C1 gen a→ar3 nx gen kill b f
 | step {a b:Int} {f:Nat}:b∈C1 nx a→ar3 nx gen kill a f→(f:Int)∉C1 kill a→ar3 nx gen kill b f
def wAt(ins:List (List W))(b:Int):List W:=ins.getD b.toNat []
def ag5(ins:List (List W))(b:Int)(f:Nat):Bool:=N7 (wAt ins b) f
theorem cV7{ins:List (List W)}{n:Nat}(hl:ins.length=n){a b:Int}(ha:H3 n a=true)(hb:H3 n b=true)(r:List W):wAt (ins.set a.toNat r) b=if b=a then r else wAt ins b:=by
 have ha':=C5.1 ha;have hb':=C5.1 hb;unfold wAt;simp only[List.getD];by_cases h:b=a
 ·subst h;rw[if_pos rfl,eB3 (by omega)];rfl
 ·rw[if_neg h,eD3 (by omega)]
theorem af8{ins:List (List W)}{n:Nat}(hl:ins.length=n){a:Int}(ha:H3 n a=true):ins[a.toNat]?=some (wAt ins a):=by
 have ha':=C5.1 ha;unfold wAt;have:a.toNat<ins.length:=by omega
 simp[List.getD,this]
def bo4(most:Nat)(r:List W):Nat:=(List.range most).countP (N7 r)
def aC7(most:Nat)(ins:List (List W)):Nat:=(ins.map (bo4 most)).sum
theorem cM2(most:Nat)(r:List W):bo4 most r≤most:=by
 have:=List.countP_le_length (p:=N7 r) (l:=List.range most);rw[eA7]at this;exact this
theorem aP5(most:Nat):∀ins:List (List W),aC7 most ins≤ins.length*most
 | []=>by simp[aC7]
 | r::ins=>by
  have h1:=aP5 most ins;have h2:=cM2 most r;simp only[aC7,ez9,eF8,ex7]at *;rw[eG3];omega
theorem aP6(most:Nat):∀(ins:List (List W)) (i:Nat) (r r':List W),ins[i]?=some r→aC7 most (ins.set i r')+bo4 most r=aC7 most ins+bo4 most r'
 | [],i,r,r',h=>by simp at h
 | x::ins,0,r,r',h=>by
  simp at h;subst h;simp only[aC7,List.set_cons_zero,ez9,eF8];omega
 | x::ins,i+1,r,r',h=>by
  have:=aP6 most ins i r r' (by simpa using h);simp only[aC7,List.set_cons_succ,ez9,eF8]at *;omega
theorem bf4{p q:Nat→Bool}{m:Nat}:∀{l:List Nat},(∀x,p x=true→q x=true)→m∈l→q m=true→p m=false→l.countP p<l.countP q
 | [],_,h,_,_=>by cases h
 | x::l,hqp,h,hp,hq=>by
  have B4:l.countP p≤l.countP q:=List.countP_mono_left fun x _=>hqp x;rw[List.countP_cons,List.countP_cons];by_cases hx:m=x
  ·subst hx;simp[hp,hq];omega
  ·have hm:m∈l:=by
    rcases ex3.1 h with h|h
    ·exact absurd h hx
    ·exact h
   have:=bf4 hqp hm hp hq;by_cases h1:p x=true
   ·simp[h1,hqp x h1];omega
   ·simp only[h1,eB6,eD2];split<;>omega
theorem bf1{most:Nat}{b c:List W}(hl:b.length=c.length)(hc:∀f,N7 c f=true→f<most)(hm:ad7 b c=true):bo4 most b<bo4 most (orB b c):=by
 obtain⟨f,h1,h2⟩:=(bu4 hl).1 hm;exact bf4 (m:=f) (fun x hx=>by rw[av3 hl,hx];rfl) (ez1.2 (hc f h1)) (by rw[av3 hl,h1];simp) h2
theorem cP2{b c:List W}(hl:b.length=c.length)(hm:ad7 b c=false)(f:Nat):N7 (orB b c) f=N7 b f:=by
 rw[av3 hl];cases hb:N7 b f
 ·cases hc:N7 c f
  ·rfl
  ·have:=(bu4 hl).2 ⟨f,hc,hb⟩;rw[hm]at this;cases this
 ·rfl
def bD9(gen kill:List (List Int))(ins:List (List W))(a:Int)(f:Nat):Prop:=(f:Int)∈C1 gen a∨(ag5 ins a f=true∧(f:Int)∉C1 kill a)
section
variable (nx gen kill:List (List Int)) (most:Nat)
structure SB (ins:List (List W)) (todo:List Int) (waits:List Bool):Prop where
 ilen:ins.length=nx.length
 rlen:∀r∈ins,r.length=most / 64+1
 wlen:waits.length=nx.length
 ok:∀a∈todo,H3 nx.length a=true
 wt:∀a,B2 waits a=true↔a∈todo
 nodup:todo.Nodup
 sound:∀b f,H3 nx.length b=true→ag5 ins b f=true→ar3 nx gen kill b f
 low:∀b f,H3 nx.length b=true→ag5 ins b f=true→f<most
def cp1(ins:List (List W))(a:Int):Prop:=∀b∈C1 nx a,∀f,bD9 gen kill ins a f→ag5 ins b f=true
structure SI (ins:List (List W)) (todo:List Int) (waits:List Bool) (T:Nat):Prop extends SB nx gen kill most ins todo waits where
 closed:∀a,H3 nx.length a=true→B2 waits a=false→cp1 nx gen kill ins a
 few:T+todo.length≤nx.length+aC7 most ins
 many:nx.length≤T+todo.length
structure SJ (a:Int) (goes:List W) (k:Nat) (ins:List (List W)) (todo:List Int) (waits:List Bool) (T:Nat):Prop extends SB nx gen kill most ins todo waits where
 closed:∀c,H3 nx.length c=true→c≠a→B2 waits c=false→cp1 nx gen kill ins c
 mine:B2 waits a=false→∀f,N7 goes f=true↔bD9 gen kill ins a f
 done:∀b∈(C1 nx a).take k,∀f,N7 goes f=true→ag5 ins b f=true
 few:T+todo.length≤nx.length+aC7 most ins
 many:nx.length≤T+todo.length
end
section
variable {nx gen kill:List (List Int)} {most:Nat} {ins:List (List W)} {todo:List Int} {waits:List Bool} {T:Nat} {a:Int} {goes:List W} {k:Nat}
theorem SI.start(hins:ins=List.replicate nx.length (List.replicate (most / 64+1) 0#64))(htodo:∀a,a∈todo↔H3 nx.length a=true)(hnd:todo.Nodup)(hlen:todo.length=nx.length)(hw:waits=List.replicate nx.length true):SI nx gen kill most ins todo waits 0:=by
 have hno:∀b f,H3 nx.length b=true→ag5 ins b f=false:=by
  intro b f hb;have:=C5.1 hb;subst hins;unfold ag5 wAt;simp only[List.getD,eF3];rw[if_pos (by omega)];exact bH4
 have hbw:∀b,B2 waits b=true↔H3 nx.length b=true:=by
  intro b;subst hw;constructor
  ·intro h;have:=al7 h;simpa using this
  ·intro h;have h1:=(M0 (l:=List.replicate nx.length true) (b:=b) (by simpa using h)).2;rw[h1];have:=C5.1 h;simp only[List.getD,eF3];rw[if_pos (by omega)];rfl
 refine⟨⟨by subst hins;simp,fun r hr=>?_,by subst hw;simp,fun a ha=>(htodo a).1 ha,fun a=>by rw[hbw,htodo],hnd,(fun b f hb h=>(by rw[hno b f hb]at h;cases h)),(fun b f hb h=>(by rw[hno b f hb]at h;cases h))⟩,fun a ha h=>?_,by omega,by omega⟩
 ·subst hins;rw[eB1 hr];simp
 ·have:=(hbw a).2 ha;rw[h]at this;cases this
theorem SI.pop{rest:List Int}(h:SI nx gen kill most ins (a::rest) waits T)(hg:∀f,N7 goes f=true↔bD9 gen kill ins a f):SJ nx gen kill most a goes 0 ins rest (waits.set a.toNat false) (T+1):=by
 have ha:H3 nx.length a=true:=h.ok a (by simp);have hs:∀b,B2 (waits.set a.toNat false) b=if b=a then false else B2 waits b:=fun b=>M6 (by rw[h.wlen];exact ha);have hnd:=eH5.1 h.nodup;refine⟨⟨h.ilen,h.rlen,by simp[h.wlen],fun b hb=>h.ok b (by simp[hb]),fun b=>?_,hnd.2,h.sound,h.low⟩,fun c hc hca hw=>?_,fun _=>hg,fun b hb=>by simp at hb,?_,?_⟩
 ·rw[hs];by_cases hb:b=a
  ·subst hb;simp[hnd.1]
  ·rw[if_neg hb,h.wt];simp[hb]
 ·rw[hs,if_neg hca]at hw;exact h.closed c hc hw
 ·have:=h.few;simp only[ex7]at this;omega
 ·have:=h.many;simp only[ex7]at this;omega
theorem SJ.core{b:Int}(hgood:D7 nx.length nx)(h:SJ nx gen kill most a goes k ins todo waits T)(hgl:goes.length=most / 64+1)(hgs:∀f,N7 goes f=true→f<most∧∀b∈C1 nx a,ar3 nx gen kill b f)(hb:(C1 nx a)[k]?=some b)(hbk:H3 nx.length b=true)
  {todo':List Int} {waits':List Bool} (hwl:waits'.length=nx.length) (hok:∀a∈todo',H3 nx.length a=true) (hwt:∀c,B2 waits' c=true↔c∈todo') (hnd:todo'.Nodup) (hsub:∀c,B2 waits' c=false→B2 waits c=false)
  (hmore:ad7 (wAt ins b) goes=true→B2 waits' b=true) (hfew:T+todo'.length≤nx.length+aC7 most (ins.set b.toNat (orB (wAt ins b) goes))) (hmany:nx.length≤T+todo'.length) :
  SJ nx gen kill most a goes (k+1) (ins.set b.toNat (orB (wAt ins b) goes)) todo' waits' T:=by
 have hrb:(wAt ins b).length=goes.length:=by rw[hgl];exact h.rlen _ (ex2 (af8 h.ilen hbk))
 have hbm:b∈C1 nx a:=ex2 hb;have hset:∀c f,H3 nx.length c=true→ag5 (ins.set b.toNat (orB (wAt ins b) goes)) c f=if c=b then(ag5 ins b f||N7 goes f)else ag5 ins c f:=by
  intro c f hc;unfold ag5;rw[cV7 h.ilen hbk hc];by_cases e:c=b
  ·rw[if_pos e,if_pos e,av3 hrb]
  ·rw[if_neg e,if_neg e]
 have mono:∀c f,H3 nx.length c=true→ag5 ins c f=true→ag5 (ins.set b.toNat (orB (wAt ins b) goes)) c f=true:=by
  intro c f hc hh;rw[hset c f hc];split
  ·rename_i e;subst e;rw[hh];rfl
  ·exact hh
 have same:∀c,H3 nx.length c=true→B2 waits' c=false→∀f,ag5 (ins.set b.toNat (orB (wAt ins b) goes)) c f=ag5 ins c f:=by
  intro c hc hw f;rw[hset c f hc];split
  ·rename_i e;subst e;have hm:ad7 (wAt ins c) goes=false:=by
    cases e:ad7 (wAt ins c) goes
    ·rfl
    ·rw[hmore e]at hw;cases hw
   have:=cP2 hrb hm f;rw[av3 hrb]at this;exact this
  ·rfl
 have hrow:∀c d,d∈C1 nx c→H3 nx.length c=true:=by
  intro c d hd;cases e:H3 nx.length c
  ·rw[aP9 e]at hd;cases hd
  ·rfl
 have goesSame:∀c,H3 nx.length c=true→B2 waits' c=false→∀f,bD9 gen kill (ins.set b.toNat (orB (wAt ins b) goes)) c f↔bD9 gen kill ins c f:=by
  intro c hc hw f;unfold bD9;rw[same c hc hw f]
 refine⟨⟨by simp[h.ilen],fun r hr=>?_,hwl,hok,hwt,hnd,fun c f hc hh=>?_,fun c f hc hh=>?_⟩,fun c hc hca hw d hd f hg=>?_,fun hw f=>?_,fun d hd f hf=>?_,hfew,hmany⟩
 ·rcases eD1 hr with h1|h1
  ·exact h.rlen r h1
  ·rw[h1,bB5 hrb,hrb,hgl]
 ·rw[hset c f hc]at hh;split at hh
  ·rename_i e;subst e;rcases Bool.or_eq_true_iff.1 hh with h1|h1
   ·exact h.sound _ f hc h1
   ·exact(hgs f h1).2 _ hbm
  ·exact h.sound c f hc hh
 ·rw[hset c f hc]at hh;split at hh
  ·rename_i e;subst e;rcases Bool.or_eq_true_iff.1 hh with h1|h1
   ·exact h.low _ f hc h1
   ·exact(hgs f h1).1
  ·exact h.low c f hc hh
 ·have hg':=(goesSame c hc hw f).1 hg;have hd1:=h.closed c hc hca (hsub c hw) d hd f hg';have hdk:H3 nx.length d=true:=(hgood.row c).2 d hd;exact mono d f hdk hd1
 ·have ha:H3 nx.length a=true:=hrow a b hbm;rw[goesSame a ha hw f];exact h.mine (hsub a hw) f
 ·have htk:(C1 nx a).take (k+1)=(C1 nx a).take k++[b]:=by
   rw[eH3,hb];rfl
  rw[htk,ew7,ey1]at hd;rcases hd with hd|hd
  ·exact mono d f ((hgood.row a).2 d (eD8 hd)) (h.done d hd f hf)
  ·subst hd;rw[hset d f hbk,if_pos rfl,hf,eH0]
theorem SJ.old{b:Int}(hgood:D7 nx.length nx)(h:SJ nx gen kill most a goes k ins todo waits T)(hgl:goes.length=most / 64+1)(hgs:∀f,N7 goes f=true→f<most∧∀b∈C1 nx a,ar3 nx gen kill b f)(hb:(C1 nx a)[k]?=some b)(hbk:H3 nx.length b=true)
  (hc:ad7 (wAt ins b) goes=false∨B2 waits b=true):SJ nx gen kill most a goes (k+1) (ins.set b.toNat (orB (wAt ins b) goes)) todo waits T:=by
 have hrb:(wAt ins b).length=goes.length:=by rw[hgl];exact h.rlen _ (ex2 (af8 h.ilen hbk))
 have hp:=aP6 most ins b.toNat (wAt ins b) (orB (wAt ins b) goes) (af8 h.ilen hbk);have B4:bo4 most (wAt ins b)≤bo4 most (orB (wAt ins b) goes):=List.countP_mono_left fun x _ hx=>by rw[av3 hrb,hx];rfl
 refine h.core hgood hgl hgs hb hbk h.wlen h.ok h.wt h.nodup (fun _ hh=>hh) (fun hm=>?_) (by have:=h.few;omega) h.many;rcases hc with hc|hc
 ·rw[hm]at hc;cases hc
 ·exact hc
theorem SJ.new{b:Int}(hgood:D7 nx.length nx)(h:SJ nx gen kill most a goes k ins todo waits T)(hgl:goes.length=most / 64+1)(hgs:∀f,N7 goes f=true→f<most∧∀b∈C1 nx a,ar3 nx gen kill b f)(hb:(C1 nx a)[k]?=some b)(hbk:H3 nx.length b=true)
  (hm:ad7 (wAt ins b) goes=true) (hwb:B2 waits b=false):SJ nx gen kill most a goes (k+1) (ins.set b.toNat (orB (wAt ins b) goes)) (todo++[b]) (waits.set b.toNat true) T:=by
 have hrb:(wAt ins b).length=goes.length:=by rw[hgl];exact h.rlen _ (ex2 (af8 h.ilen hbk))
 have hp:=aP6 most ins b.toNat (wAt ins b) (orB (wAt ins b) goes) (af8 h.ilen hbk);have hlt:=bf1 (most:=most) hrb (fun f hf=>(hgs f hf).1) hm;have hs:∀c,B2 (waits.set b.toNat true) c=if c=b then true else B2 waits c:=fun c=>M6 (by rw[h.wlen];exact hbk);have hbt:b∉todo:=fun hh=>by rw[(h.wt b).2 hh]at hwb;cases hwb
 refine h.core hgood hgl hgs hb hbk (by simp[h.wlen]) (fun c hc=>?_) (fun c=>?_) ?_ (fun c hc=>?_) (fun _=>by rw[hs,if_pos rfl]) ?_ ?_
 ·rcases ew7.1 hc with hc|hc
  ·exact h.ok c hc
  ·simp at hc;subst hc;exact hbk
 ·rw[hs];by_cases e:c=b
  ·subst e;simp
  ·rw[if_neg e,h.wt];simp[e]
 ·refine eA4.2 ⟨h.nodup,by simp,?_⟩;intro x hx y hy e;simp at hy;subst hy;subst e;exact hbt hx
 ·rw[hs]at hc;split at hc
  ·cases hc
  ·exact hc
 ·have:=h.few;simp only[ev5,ex7,eB7];omega
 ·have:=h.many;simp only[ev5,ex7,eB7];omega
theorem SJ.pot{b:Int}(h:SJ nx gen kill most a goes k ins todo waits T)(hgl:goes.length=most / 64+1)(hgs:∀f,N7 goes f=true→f<most∧∀b∈C1 nx a,ar3 nx gen kill b f)(hbk:H3 nx.length b=true):
  aC7 most ins≤aC7 most (ins.set b.toNat (orB (wAt ins b) goes))∧(ad7 (wAt ins b) goes=true→aC7 most ins+1≤aC7 most (ins.set b.toNat (orB (wAt ins b) goes))):=by
 have hrb:(wAt ins b).length=goes.length:=by rw[hgl];exact h.rlen _ (ex2 (af8 h.ilen hbk))
 have hp:=aP6 most ins b.toNat (wAt ins b) (orB (wAt ins b) goes) (af8 h.ilen hbk);have B4:bo4 most (wAt ins b)≤bo4 most (orB (wAt ins b) goes):=List.countP_mono_left fun x _ hx=>by rw[av3 hrb,hx];rfl
 refine⟨by omega,fun hm=>?_⟩;have hlt:=bf1 (most:=most) hrb (fun f hf=>(hgs f hf).1) hm;omega
theorem SJ.fin(h:SJ nx gen kill most a goes k ins todo waits T)(hk:k=(C1 nx a).length):SI nx gen kill most ins todo waits T:=by
 refine⟨h.toSB,fun c hc hw=>?_,h.few,h.many⟩;by_cases e:c=a
 ·subst e;intro d hd f hg;refine h.done d ?_ f ((h.mine hw f).2 hg);rw[hk,ew5];exact hd
 ·exact h.closed c hc e hw
theorem SI.fin(hgood:D7 nx.length nx)(h:SI nx gen kill most ins [] waits T):(∀b f,H3 nx.length b=true→(ag5 ins b f=true↔ar3 nx gen kill b f))∧nx.length≤T∧T≤nx.length+nx.length*most:=by
 have hw:∀a,B2 waits a=false:=fun a=>by
  cases e:B2 waits a
  ·rfl
  ·have:=(h.wt a).1 e;cases this
 have hrow:∀c d,d∈C1 nx c→H3 nx.length c=true:=by
  intro c d hd;cases e:H3 nx.length c
  ·rw[aP9 e]at hd;cases hd
  ·rfl
 refine⟨fun b f hb=>⟨h.sound b f hb,fun hc=>?_⟩,by simpa using h.many,?_⟩
 ·clear hb
  induction hc with
  | gen h1 h2=>exact h.closed _ (hrow _ _ h1) (hw _) _ h1 _ (.inl h2)
  | step h1 _ h3 ih=>exact h.closed _ (hrow _ _ h1) (hw _) _ h1 _ (.inr ⟨ih,h3⟩)
 ·have h1:=h.few;have h2:=aP5 most ins;rw[h.ilen]at h2;simp only[eB7]at h1;omega
def cX7(n most:Nat)(ins:List (List W))(todo:List Int):Nat:=(n*most-aC7 most ins)+todo.length
end
theorem ba3{nx:List (List Int)}{a b:Int}(h:b∈C1 nx a):0≤a∧a<nx.length:=by
 unfold C1 at h;split at h
 ·next h1=>exact h1
 ·simp at h
theorem ci6{nx gl kl:List (List Int)}{at_:List Nat}(hg:∀(a:Int) (f:Nat),(f:Int)∈C1 gl a↔∃A:Nat,at_[f]?=some A∧a=(A:Int))(hk:∀(a:Int) (f:Nat),f<at_.length→((f:Int)∈C1 kl a↔∃A∈at_,a=(A:Int)))
  {f A:Nat} (hf:at_[f]?=some A) (c:Int):ar3 nx gl kl c f↔∃d∈C1 nx (A:Int),Way (aq2 nx fun q=>at_.contains q) d c:=by
 have hfl:f<at_.length:=(ev8.1 hf).1;constructor
 ·intro h;generalize hF:f=F at h
  induction h with
  | @gen a b f' hb hgen=>
   subst hF;obtain⟨A',h1,rfl⟩:=(hg _ _).1 hgen;rw[hf]at h1;obtain rfl:=ex1 h1;exact⟨b,hb,.refl⟩
  | @step a b f' hb hc hkill ih=>
   subst hF;obtain⟨d,hd,hw⟩:=ih rfl;refine⟨d,hd,.step hw ?_⟩;have h0:=ba3 hb;rw[ak6,if_neg]
   ·exact hb
   ·intro hct;rw[ex4]at hct;exact hkill ((hk a f hfl).2 ⟨a.toNat,hct,by omega⟩)
 ·rintro⟨d,hd,hw⟩
  induction hw with
  | refl=>exact .gen hd ((hg _ _).2 ⟨A,hf,rfl⟩)
  | @step b c hw hc ih=>
   rw[ak6]at hc;split at hc
   ·simp at hc
   ·next hs=>
    refine .step hc ih fun hkill=>?_;obtain⟨A',hA,rfl⟩:=(hk b f hfl).1 hkill;rw[ex8]at hs;exact hs (ex4.2 hA)
theorem bQ8{nx:List (List Int)}(hok:OkR nx){at_:List Nat}{A c:Nat}:aS9 nx at_ A c=true↔∃d∈C1 nx (A:Int),Way (aq2 nx fun q=>at_.contains q) d (c:Int):=by
 unfold aS9;rw[eH7];constructor
 ·rintro⟨d,hd,h⟩;exact⟨d,hd,(bC0 (as7 hok _) (by rw[W5];exact hok _ _ hd)).1 h⟩
 ·rintro⟨d,hd,h⟩;exact⟨d,hd,(bC0 (as7 hok _) (by rw[W5];exact hok _ _ hd)).2 h⟩
def ab1(at_:List Nat)(g:Nat→List Int)(n:Nat):Nat→List (List Int)
 | 0=>List.replicate n []
 | k+1=>(ab1 at_ g n k).set (at_.getD k 0) (g k)
theorem T4(at_:List Nat)(g:Nat→List Int)(n:Nat):∀k,(ab1 at_ g n k).length=n
 | 0=>by simp[ab1]
 | k+1=>by rw[ab1,eC2,T4 at_ g n k]
theorem at6{at_:List Nat}{g:Nat→List Int}{n:Nat}(hnd:at_.Nodup)(hlt:∀a∈at_,a<n):∀k,k≤at_.length→∀(a:Nat) (r:List Int),(ab1 at_ g n k)[a]?=some r→(∃f,f<k∧at_[f]?=some a∧r=g f)∨((∀f,f<k→at_[f]?≠some a)∧r=[])
 | 0,_,a,r,h=>by
  rw[ab1]at h;exact .inr ⟨fun f hf=>by omega,eB1 (ex2 h)⟩
 | k+1,hk,a,r,h=>by
  have hk':k<at_.length:=by omega
  have hAk:at_.getD k 0=at_[k]:=by rw[List.getD,ev2 hk'];rfl
  rw[ab1,hAk]at h;by_cases ha:at_[k]=a
  ·subst ha;rw[eB3 (by rw[T4];exact hlt _ (ew2 hk'))]at h;exact .inl ⟨k,by omega,ev2 hk',(ex1 h).symm⟩
  ·rw[eD3 ha]at h;rcases at6 hnd hlt k (by omega) a r h with⟨f,hf,h1,h2⟩|⟨h1,h2⟩
   ·exact .inl ⟨f,by omega,h1,h2⟩
   ·refine .inr ⟨fun f hf=>?_,h2⟩;rcases ez0 f k with h3|h3
    ·exact h1 f h3
    ·obtain rfl:f=k:=by omega
     rw[ev2 hk'];exact fun e=>ha (ex1 e)
theorem bv3{at_:List Nat}{g:Nat→List Int}{n:Nat}(hnd:at_.Nodup)(hlt:∀a∈at_,a<n)(a x:Int):x∈C1 (ab1 at_ g n at_.length) a↔∃(f A:Nat),at_[f]?=some A∧a=(A:Int)∧x∈g f:=by
 constructor
 ·intro h;obtain⟨h0,h1⟩:=ba3 h;unfold C1 at h;rw[if_pos ⟨h0,h1⟩]at h;have hget:(ab1 at_ g n at_.length)[a.toNat]?=some ((ab1 at_ g n at_.length).getD a.toNat []):=by
   rw[List.getD,ev2 (by omega)];rfl
  rcases at6 hnd hlt _ (ew8 _) _ _ hget with⟨f,hf,h2,h3⟩|⟨_,h3⟩
  ·rw[h3]at h;exact⟨f,a.toNat,h2,by omega,h⟩
  ·rw[h3]at h;simp at h
 ·rintro⟨f,A,hf,rfl,hx⟩;have hA:=hlt A (ex2 hf);have hfl:f<at_.length:=(ev8.1 hf).1;unfold C1;rw[T4,if_pos ⟨by omega,by omega⟩,ex8];have hget:(ab1 at_ g n at_.length)[A]?=some ((ab1 at_ g n at_.length).getD A []):=by
   rw[List.getD,ev2 (by rw[T4];exact hA)];rfl
  rcases at6 hnd hlt _ (ew8 _) _ _ hget with⟨f',hf',h2,h3⟩|⟨h2,_⟩
  ·have:f=f':=by
    obtain⟨h4,h5⟩:=ev8.1 hf;obtain⟨h6,h7⟩:=ev8.1 h2;have h8:=eB9.1 hnd;rcases Nat.lt_trichotomy f f' with h|h|h
    ·exact absurd (h5.trans h7.symm) (h8 f f' h4 h6 h)
    ·exact h
    ·exact absurd (h7.trans h5.symm) (h8 f' f h6 h4 h)
   subst this;rw[h3];exact hx
  ·exact absurd hf (h2 f hfl)
theorem ee9:af6 prog 138=true:=by kernel_rfl
structure GM (h:Hp) (w0 w:World) (r:Nat) (kv:List (A4×Value)) (G:A4→List Int):Prop where
 map:aH1 w r kv
 ge:w0.heap.size≤r
 ext:o6 w0 w
 row:∀n v,K7 kv n=some v→A9 h w 3 v (G n)∧G n≠[]
 no:∀n,K7 kv n=none→G n=[]
 apart:∀n m v u,n≠m→K7 kv n=some v→K7 kv m=some u→∀b,A3 v b→¬A3 u b
 off:∀n v,K7 kv n=some v→∀b,A3 v b→b≠r∧w0.heap.size≤b
def GM.N(r:Nat)(kv:List (A4×Value))(b:Nat):Prop:=b=r∨∃n v,K7 kv n=some v∧A3 v b
section
variable {h:Hp} {w0 w:World} {r:Nat} {kv:List (A4×Value)} {G:A4→List Int}
theorem GM.more(s:GM h w0 w r kv G){w':World}(hx:o6 w w'):GM h w0 w' r kv G:=
 ⟨s.map.mod hx id,s.ge,s.ext.trans hx,fun n v e=>⟨(s.row n v e).1.ext hx,(s.row n v e).2⟩,s.no,s.apart,s.off⟩
theorem GM.lt(s:GM h w0 w r kv G){b:Nat}(hb:GM.N r kv b):b<w.heap.size:=by
 rcases hb with rfl|⟨n,v,e,hb⟩
 ·exact s.map.lt
 ·exact(s.row n v e).1.lt hb
theorem GM.nge(s:GM h w0 w r kv G){b:Nat}(hb:GM.N r kv b):w0.heap.size≤b:=by
 rcases hb with rfl|⟨n,v,e,hb⟩
 ·exact s.ge
 ·exact(s.off n v e b hb).2
theorem GM.push(s:GM h w0 w r kv G)(hh:B4 h (d7 w))(n:A4)(a:Int)(hl:(G n).length≤100000000){P:Program}(hP:P=prog){e:TypeId}:
  (Instr.lookup 148 (.map (some r)) (o7 n) false).run prog w = .ok ((K7 kv n).getD (.slice none 0 0)) w ∧
  (Instr.buildSlice 118 1 #[(0,.int .i64 a)]).run prog w = .ok (.slice (some ⟨w.heap.size,0,none⟩) 1 1) (w.alloc (.cells #[.int .i64 a] 3)) ∧
  ∃v' w' w'',(Builtin.append_ #[118,118] e #[(K7 kv n).getD (.slice none 0 0),.slice (some ⟨w.heap.size,0,none⟩) 1 1]).run prog (w.alloc (.cells #[.int .i64 a] 3)) = .ok v' w' ∧
   (Instr.mapUpdate 148 (.map (some r)) (o7 n) v').run prog w' = .ok () w''∧GM h w0 w'' r (aC9 kv n v') (fun m=>if m=n then G n++[a]else G m)∧o9 (GM.N r kv) w w''∧(∀b,GM.N r (aC9 kv n v') b→GM.N r kv b∨w.heap.size≤b):=by
 have ht:prog.underlying 148=some (.map 9 118):=Tryz.underlying148;have hk:prog.underlying 9=some .string:=Tryz.underlying9;have hlk:=s.map.lookup (P:=prog) ht hk S3 n;have hov:A9 h w 3 ((K7 kv n).getD (.slice none 0 0)) (G n):=by
  cases he:K7 kv n with
  | none=>rw[s.no n he];exact A9.nil _ _ _
  | some v=>exact(s.row n v he).1
 have hvN:∀b,A3 ((K7 kv n).getD (.slice none 0 0)) b→∃v,K7 kv n=some v∧A3 v b:=fun b hb=>by
  cases he:K7 kv n with
  | none=>rw[he]at hb;exact absurd hb D0
  | some v=>rw[he]at hb;exact⟨v,rfl,hb⟩
 obtain⟨p1,v',w',p2,p3,p4,p5⟩:=Go.Proofs.YtdgicngfmfldmaaGreat.push (P:=prog) (t:=118) (e:=e) ad0 rfl hov (x:=.int .i64 a) (y:=a) rfl (by omega) (by omega) hh;have hm1:=s.map.mod p4 fun hb=>by
  obtain⟨v,e,hb⟩:=hvN r hb;exact(s.off n v e r hb).1 rfl
 obtain⟨w'',q1,q2,q3⟩:=hm1.update (P:=prog) ht hk n v';refine⟨hlk,p1,v',w',w'',p2,q1,?_,?_,?_⟩
 ·have hv':∀b,A3 v' b→b≠r∧w0.heap.size≤b:=fun b hb=>by
   rcases p5 b hb with h1|h1
   ·obtain⟨v,e,h1⟩:=hvN b h1;exact s.off n v e b h1
   ·have:=s.map.lt;have:=s.ext.size;exact⟨by omega,by omega⟩
  have hap:∀m u,m≠n→K7 kv m=some u→∀b,A3 u b→¬A3 v' b:=fun m u hne e b hb hb2=>by
   rcases p5 b hb2 with h1|h1
   ·obtain⟨v,e2,h1⟩:=hvN b h1;exact s.apart m n u v hne e e2 b hb h1
   ·have:=(s.row m u e).1.lt hb;omega
  refine⟨q2,s.ge,o9.ext_of (o9.ext_of s.ext p4 fun b hb=>?_) q3 fun b hb=>by subst hb;exact s.ge,fun m v e=>?_,fun m e=>?_,fun m k v u hne e1 e2 b hb hb2=>?_,fun m v e b hb=>?_⟩
  ·obtain⟨v,e,hb⟩:=hvN b hb;exact(s.off n v e b hb).2
  ·rw[ak1]at e;split at e
   ·next hmn=>
    obtain rfl:=ex1 e;subst hmn;simp only[eB2];exact⟨p3.mod q3 fun b hb=>(hv' b hb).1,by simp⟩
   ·next hmn=>
    simp only[hmn,eD2];refine⟨((s.row m v e).1.mod p4 fun b hb hb2=>?_).mod q3 fun b hb=>(s.off m v e b hb).1,(s.row m v e).2⟩;obtain⟨v2,e2,hb2⟩:=hvN b hb2;exact s.apart m n v v2 hmn e e2 b hb hb2
  ·rw[ak1]at e;split at e
   ·cases e
   ·next hmn=>simp only[hmn,eD2];exact s.no m e
  ·rw[ak1]at e1 e2;split at e1
   ·next h1=>
    obtain rfl:=ex1 e1;rw[if_neg (fun h2=>hne (h1.trans h2.symm))]at e2;exact hap k u (fun h2=>hne (h1.trans h2.symm)) e2 b hb2 hb
   ·next h1=>
    split at e2
    ·obtain rfl:=ex1 e2;exact hap m v h1 e1 b hb hb2
    ·exact s.apart m k v u hne e1 e2 b hb hb2
  ·rw[ak1]at e;split at e
   ·obtain rfl:=ex1 e;exact hv' b hb
   ·exact s.off m v e b hb
 ·exact o9.trans (p4.weaken fun b _ hb=>by
   obtain⟨v,e,hb⟩:=hvN b hb;exact .inr ⟨n,v,e,hb⟩) (q3.weaken fun b _ hb=>.inl hb)
 ·intro b hb;rcases hb with h1|⟨m,v,e,hb⟩
  ·exact .inl (.inl h1)
  ·rw[ak1]at e;split at e
   ·obtain rfl:=ex1 e;rcases p5 b hb with h1|h1
    ·obtain⟨v,e,h1⟩:=hvN b h1;exact .inl (.inr ⟨n,v,e,h1⟩)
    ·exact .inr h1
   ·exact .inl (.inr ⟨m,v,e,hb⟩)
end
theorem aK4{p:Pg}{i:Nat}(hr:E4 p)(hw:C8 p≤1000000)(hi:i<p.procs.length){k:Nat}(hk:(k:Int)<(D6 (b9 p) i).n):((p7 p).gives (i:Int) (k:Int)).Pairwise (fun a b=>Z0 a b=true)∧((p7 p).gives (i:Int) (k:Int)).length≤100:=by
 obtain⟨x,pt⟩:=M9 hr.may hw i hi;have hwy:=P7 pt;generalize x+A7 p.procs[i].body=y at pt hwy;unfold Bk.gives;rw[M1 hi,V3 hi];split
 ·refine⟨P6 _,ew0 (aq1 _) ?_⟩;have h1:=aD2 (aF1 hr hw) (i:Int);have h2:=O0 hr.may hi;rw[ev5,ew3];have e:F3 (p7 p).ins (i:Int)=F3 (X5 p) (i:Int):=rfl;rw[e];omega
 ·next h0=>
  split
  ·exact⟨List.Pairwise.nil,by simp⟩
  ·next h1=>
   have h1':¬(k:Int)=(D6 (b9 p) i).n-1:=fun h=>h1 (.inl h);obtain⟨q,hqe,hqL,_⟩:=ae5 hwy (k:=k) (by omega) (by omega);rw[hqe];exact((bq8 hr hw).row hqL).2
def cu8(p:Pg)(i:Nat)(n:A4):List Int:=((p7 p).givers (i:Int) n).map fun(a:Nat)=>(a:Int)
theorem ck5(a:Addr)(p:Pg)(i:Nat)(w:World)(ha:At (d7 w) a (p7 p))(hr:E4 p)(hw:C8 p≤1000000)(hi:i<p.procs.length):
  Calls prog 88 #[.pointer (some a),.int .i64 i] w fun e w'=>∃u,e = .returned u∧(∃r kv c,u = .tuple #[.map (some r),.int .i64 c]∧GM (d7 w) w w' r kv (cu8 p i)):=by
 refine d9 (args:=[.pointer (some a),.int .i64 i]) hm func88 rfl (by kernel_rfl) (by show 2≤_;decide +kernel) ?_;obtain⟨x,pt⟩:=M9 hr.may hw i hi;have hwy:=P7 pt;generalize x+A7 p.procs[i].body=y at pt hwy;have h200:=J3 hr.may;have hn:=hwy.n;have hlen:=pt.ok.len;have hle':=pt.ok.le;have hgr:=fun k (hk:((k:Nat):Int)<(D6 (b9 p) i).n)=>aK4 hr hw hi hk;have hgiv:=fun(k:Nat) (wa:World) (hh:B4 (d7 w) (d7 wa)) (hk:(k:Int)<(D6 (b9 p) i).n)=>cg1 (d7 w) a p i k wa ha hh hr hw hi hk;have hGe:∀n,cu8 p i n=((List.range (D6 (b9 p) i).n.toNat).filter fun(a:Nat)=>((p7 p).gives (i:Int) (a:Int)).contains n).map fun(a:Nat)=>(a:Int):=fun n=>by
  unfold cu8 Bk.givers;rw[M1 hi]
 obtain⟨sh,vw,_,_,_,_,has,hvw,_,_,_,_,ldb,_⟩:=ha.book rfl;obtain⟨aw,hcw,haw⟩:=aw4 (hv:=hvw) (k:=i) (p:=⟨D6 (b9 p) i⟩) (by show((J1 p).map fun w=>(⟨w⟩:Ptr Wy))[i]?=_;rw[ey8,V2 hi];rfl);simp only at haw;have hinw:=hvw.inS (k:=i) (by show i<((J1 p).map fun w=>(⟨w⟩:Ptr Wy)).length;unfold J1;simpa using hi);obtain⟨_,_,_,_,_,_,ldw,_⟩:=haw.wy;obtain⟨hmk,hm0,hxm⟩:=aH1.new (P:=prog) w 148;generalize hw1:w.alloc (.map #[] 0)=w1 at hmk hm0 hxm;have hG0:GM (d7 w) w w1 w.heap.size [] (fun _=>[]):=⟨hm0,ew8 _,hxm,fun n v e=>by simp[K7]at e,fun _ _=>rfl,fun n m v u _ e=>by simp[K7]at e,fun n v e=>by simp[K7]at e⟩;generalize hGG:(fun k:Nat=>(p7 p).gives (i:Int) (k:Int))=GV at *;have hGV:∀k:Nat,(p7 p).gives (i:Int) (k:Int)=GV k:=fun k=>by rw[←hGG]
 simp only[hGV]at hgr hgiv hGe;generalize(D6 (b9 p) i).n=wn at hn hgr hgiv hGe ldw;obtain⟨M,rfl⟩:∃M:Nat,wn=(M:Int):=⟨wn.toNat,by omega⟩;rw[ex8]at hGe;have lb:=ldb w1 (b7 hxm);have hlw:=G4 (P:=prog) (t:=102) hcw (b7 hxm) aq9;have lw:=ldw w1 (b7 hxm);simp only[m8,n9,p9,simprocAttr,bj3,hmk,lb,hinw,hlw,lw];have hGk:∀k,(fun n=>((List.range k).filter fun(a:Nat)=>(GV a).contains n).map (fun(a:Nat)=>(a:Int))++if((GV k).take (GV k).length).contains n then[(k:Int)]else[])=fun n=>((List.range (k+1)).filter fun(a:Nat)=>(GV a).contains n).map fun(a:Nat)=>(a:Int):=fun k=>by
  funext n
  rw[ew5,eG0,eC6,ey5]
  congr 1
  rw[List.filter_cons,List.filter_nil];cases(GV k).contains n<;>rfl
 refine n8 [0,1,4,19] (σ:=Nat×List (A4×Value)) (fun s f w'=>f 20 = .int .i64 s.1∧s.1≤M∧(∃c:Int,f 5 = .int .i64 c)∧GM (d7 w) w w' w.heap.size s.2 (fun n=>((List.range s.1).filter fun(a:Nat)=>(GV a).contains n).map fun(a:Nat)=>(a:Int))) (fun s=>M-s.1) (0,[]) (by decide +kernel) ?_ ?_
 ·simp only[p6,simprocAttr];exact⟨by trivial,ew4 _,⟨0,by trivial⟩,hG0⟩
 rintro⟨k,kv⟩ f w5 hk ⟨h20,hkl,⟨c,h5⟩,s5⟩;simp only at h20 hkl s5;simp only[ev4,p6,simprocAttr]at hk;obtain⟨e0,e1,e4,e19,_⟩:=hk;simp only[m8,n9,simprocAttr,h20,e19];refine i5 (fun hc=>?_) (fun hc=>?_);rotate_left
 ·have hge:k=M:=by simp at hc;omega
  subst hge;simp only[m8,simprocAttr,e4,h5];refine ad8 results88 ?_;simp only[p6,simprocAttr];refine⟨w.heap.size,kv,c,by trivial,?_⟩;have:cu8 p i=fun n=>((List.range k).filter fun(a:Nat)=>(GV a).contains n).map fun(a:Nat)=>(a:Int):=by funext n;exact hGe n
  rw[this];exact s5
 have hlt:k<M:=by simpa using hc
 obtain⟨hrise,hfew⟩:=hgr k (by omega);have hGk':=hGk k;simp only[m8,simprocAttr,h20,e0,e1];refine y5 ee9 (hgiv k w5 (b7 s5.ext) (by omega)) ?_;rintro u w6 ⟨hu,hx6⟩;have s6:=s5.more hx6;have huN:R (B5 w6 (GM.N w.heap.size kv)) u (GV k):=z7.mono (cb8 (b7 s5.ext) hx6 fun b hb=>⟨s5.lt hb,bd2 (s5.nge hb)⟩) hu;have hnd:=an2 hrise;generalize GV k=names at huN hrise hfew hGk' hnd;have hSu:=huN.isS;have hnu:=huN.vlen;simp only[m8,n9,simprocAttr,hSu,hnu];refine n8 [0,1,4,6,19,20,26,27] (σ:=Nat×List (A4×Value)) (fun s f w'=>f 28 = .int .i64 s.1∧s.1≤names.length∧(∃c:Int,f 5 = .int .i64 c)∧GM (d7 w) w w' w.heap.size s.2 (fun n=>((List.range k).filter fun(a:Nat)=>(GV a).contains n).map (fun(a:Nat)=>(a:Int))++if(names.take s.1).contains n then[(k:Int)]else[])∧o9 (GM.N w.heap.size kv) w6 w'∧(∀b,GM.N w.heap.size s.2 b→GM.N w.heap.size kv b∨w6.heap.size≤b)) (fun s=>names.length-s.1) (0,kv) (by decide +kernel) ?_ ?_
 ·simp only[p6,simprocAttr];refine⟨by trivial,ew4 _,⟨c,h5⟩,?_,o9.refl _,fun b hb=>.inl hb⟩;simp only[eG6,List.contains_nil,eB6,eD2,ey6];exact s6
 rintro⟨q,kv7⟩ f7 w7 hk ⟨h28,hql,⟨c7,h57⟩,s7,hm7,hN7⟩;simp only at h28 hql s7 hN7;simp only[ev4,p6,simprocAttr]at hk;obtain⟨j0,j1,j4,j6,j19,j20,j26,j27,_⟩:=hk;rw[e0]at j0;rw[e1]at j1;rw[e4]at j4;rw[e19]at j19;rw[h20]at j20;simp only[m8,n9,simprocAttr,h28,j27];refine i5 (fun hc2=>?_) (fun hc2=>?_);rotate_left
 ·have hge:q=names.length:=by simp at hc2;omega
  subst hge;rw[hGk']at s7;simp only[m8,n9,simprocAttr,j20];exact⟨(k+1,kv7),by simp only[];omega,by simp only[];rw[B1 k (by omega)],by simp only[];omega,⟨c7,h57⟩,s7⟩
 have hltq:q<names.length:=by simpa using hc2
 have hin:=huN.inS hltq;have hld:=ldS huN (D2 hm7) hltq;have htk:=ew1 hltq;have hnn:(names.take q).contains names[q]=false:=by
  cases h:(names.take q).contains names[q]
  ·rfl
  ·exfalso
   have h1:=ex4.1 h;have h2:(names.take (q+1)).Nodup:=hnd.sublist (List.take_sublist _ _);rw[htk,eA4]at h2;exact h2.2.2 _ h1 _ (by simp) rfl
 generalize names[q]=n at hld htk hnn;have hlen7:(((List.range k).filter fun(a:Nat)=>(GV a).contains n).map (fun(a:Nat)=>(a:Int))++if(names.take q).contains n then[(k:Int)]else[]).length≤1000:=by
  rw[ev5,ew3];have h1:=ey2 (fun(a:Nat)=>(GV a).contains n) (List.range k);rw[eA7]at h1;have h2:(if(names.take q).contains n then[(k:Int)]else[]).length≤1:=by split<;>simp
  omega
 obtain⟨q1,q2,v',w8,w9,q3,q4,s9,hm9,hN9⟩:=s7.push (b7 s7.ext) n (k:Int) (by omega) rfl (e:=118);have hGn:(fun m=>if m=n then(((List.range k).filter fun(a:Nat)=>(GV a).contains n).map (fun(a:Nat)=>(a:Int))++if(names.take q).contains n then[(k:Int)]else[])++[(k:Int)]else((List.range k).filter fun(a:Nat)=>(GV a).contains m).map (fun(a:Nat)=>(a:Int))++if(names.take q).contains m then[(k:Int)]else[])=fun m=>((List.range k).filter fun(a:Nat)=>(GV a).contains m).map (fun(a:Nat)=>(a:Int))++if(names.take (q+1)).contains m then[(k:Int)]else[]:=by
  funext m
  have hcm:(names.take (q+1)).contains m=((names.take q).contains m||decide (m=n)):=by
   rw[htk,eI0,eH1,ex4,ex4,ew7,ey1,decide_eq_true_iff]
  rw[hcm];split
  ·next h=>subst h;rw[hnn];simp
  ·next h=>simp[h]
 rw[hGn]at s9;simp only[m8,n9,p9,simprocAttr,h28,h57,j4,j6,j26,hin,hld,q1,q2,q3,bB2,q4];exact⟨(q+1,aC9 kv7 n v'),by simp only[];omega,by simp only[];rw[B1 q (by omega)],by simp only[];omega,⟨_,by trivial⟩,s9,hm7.chain hm9 (fun b hb h=>(hN7 b h).resolve_right (by omega)),fun b hb=>(hN9 b hb).elim (hN7 b) fun h=>.inr (ew0 hm7.size h)⟩
theorem bW6{p:Pg}{i:Nat}(hr:E4 p)(hw:C8 p≤1000000)(hi:i<p.procs.length){k:Nat}(hk:(k:Int)<(D6 (b9 p) i).n):((p7 p).takes (i:Int) (k:Int)).Pairwise (fun a b=>Z0 a b=true)∧((p7 p).takes (i:Int) (k:Int)).length≤2000000:=by
 obtain⟨x,pt⟩:=M9 hr.may hw i hi;have hwy:=P7 pt;generalize x+A7 p.procs[i].body=y at pt hwy;unfold Bk.takes;rw[M1 hi];split
 ·refine⟨P6 _,ew0 (aq1 _) ?_⟩;have h1:=aD2 (as8 hr.may) (i:Int);rw[ev5,ey3];have e:F3 (p7 p).outs (i:Int)=F3 (H5 p) (i:Int):=rfl;rw[e];omega
 ·next h1=>
  split
  ·exact⟨List.Pairwise.nil,by simp⟩
  ·next h0=>
   have h0':¬(k:Int)=0:=fun h=>h0 (.inl h);obtain⟨q,hqe,hqL,_⟩:=ae5 hwy (k:=k) (by omega) (by omega);rw[hqe];exact((bq9 hr hw).row hqL).2
def ah9(b:Bk)(i:Int)(n:A4)(c:Nat):List Nat:=(List.range (b.givers i n).length).filter fun f=>aS9 (b.nx i) (b.givers i n) ((b.givers i n).getD f 0) c
def X3(b:Bk)(i:Int)(n:A4)(c:Nat)(f:Nat):List Fw:=if(b.takes i c).contains n then[⟨(b.way i).place (((b.givers i n).getD f 0:Nat):Int),(b.way i).place c,n⟩]else[]
def ay0(b:Bk)(i:Int)(n:A4)(c:Nat):List Fw:=(ah9 b i n c).flatMap (X3 b i n c)
def ah8(b:Bk)(i:Int)(n:A4):List Fw:=(List.range (b.way i).n.toNat).flatMap (ay0 b i n)
theorem aN9(b:Bk)(i:Int)(n:A4):(b.givers i n).Nodup:=by
 unfold Bk.givers;exact List.nodup_range.filter _
theorem V8{b:Bk}{i:Int}{n:A4}{x:Fw}:x∈ah8 b i n↔∃a c:Nat,a∈b.givers i n∧c<(b.way i).n.toNat∧(b.takes i c).contains n=true∧aS9 (b.nx i) (b.givers i n) a c=true∧x=⟨(b.way i).place a,(b.way i).place c,n⟩:=by
 unfold ah8 ay0 X3 ah9;simp only[ez2,ez1,ey4];constructor
 ·rintro⟨c,hc,f,⟨hf,hcm⟩,hx⟩;split at hx
  ·next ht=>
   rw[ey1]at hx;refine⟨(b.givers i n).getD f 0,c,?_,hc,ht,hcm,hx⟩;rw[List.getD,ev2 hf];exact ew2 hf
  ·simp at hx
 ·rintro⟨a,c,ha,hc,ht,hcm,rfl⟩;obtain⟨f,hf,rfl⟩:=eA8.1 ha;have hg:(b.givers i n).getD f 0=(b.givers i n)[f]:=by rw[List.getD,ev2 hf];rfl
  exact⟨c,hc,f,⟨hf,by rw[hg];exact hcm⟩,by rw[if_pos ht,hg];simp⟩
theorem aF3{b:Bk}{i:Int}{x:Fw}:x∈b.flow0 i↔∃n,x∈ah8 b i n:=by
 unfold Bk.flow0;simp only[ez2,ez1,ey0,ey4,ex5,V8];constructor
 ·rintro⟨a,ha,n,hn,c,⟨hc,ht,hcm⟩,rfl⟩;refine⟨n,a,c,?_,hc,ht,hcm,rfl⟩;unfold Bk.givers;rw[ey4,ez1,ex4];exact⟨ha,hn⟩
 ·rintro⟨n,a,c,ha,hc,ht,hcm,rfl⟩;unfold Bk.givers at ha;rw[ey4,ez1,ex4]at ha;exact⟨a,ha.1,n,ha.2,c,⟨hc,ht,hcm⟩,rfl⟩
theorem am9{α β:Type}{f:α→List β}:∀{l:List α},l.Nodup→(∀a∈l,(f a).Nodup)→(∀a∈l,∀b∈l,∀x,x∈f a→x∈f b→a=b)→(l.flatMap f).Nodup
 | [],_,_,_=>by simp
 | a::l,hn,h1,h2=>by
  rw[eH5]at hn;rw[eF4,eA4];refine⟨h1 a (by simp),am9 hn.2 (fun b hb=>h1 b (by simp[hb])) (fun b hb c hc=>h2 b (by simp[hb]) c (by simp[hc])),fun x hx y hy e=>?_⟩;subst e;obtain⟨b,hb,hxb⟩:=ez2.1 hy;have:=h2 a (by simp) b (by simp[hb]) x hx hxb;subst this;exact hn.1 hb
def bq3(w:Wy):Prop:=∀a c:Nat,a<w.n.toNat→c<w.n.toNat→w.place a=w.place c→a=c
theorem bU3{l:List Nat}(h:l.Nodup){f f':Nat}(hf:f<l.length)(hf':f'<l.length)(e:l.getD f 0=l.getD f' 0):f=f':=by
 have g1:l.getD f 0=l[f]:=by rw[List.getD,ev2 hf];rfl
 have g2:l.getD f' 0=l[f']:=by rw[List.getD,ev2 hf'];rfl
 rw[g1,g2]at e;have hnd:=eB9.1 h;rcases Nat.lt_trichotomy f f' with h|h|h
 ·exact absurd e (hnd f f' hf hf' h)
 ·exact h
 ·exact absurd e.symm (hnd f' f hf' hf h)
theorem bs9{l:List Nat}{f:Nat}(hf:f<l.length):l.getD f 0∈l:=by
 rw[List.getD,ev2 hf];exact ew2 hf
theorem ab0(b:Bk)(i:Int)(n:A4):∀a∈b.givers i n,a<(b.way i).n.toNat:=fun a ha=>by
 unfold Bk.givers at ha;exact ez1.1 (ey4.1 ha).1
theorem av8{b:Bk}{i:Int}{n:A4}{c f:Nat}{x:Fw}(h:x∈X3 b i n c f):x.src=(b.way i).place (((b.givers i n).getD f 0:Nat):Int)∧x.dst=(b.way i).place c:=by
 unfold X3 at h;split at h
 ·rw[ey1]at h;subst h;exact⟨rfl,rfl⟩
 ·simp at h
theorem bG6{b:Bk}{i:Int}(hp:bq3 (b.way i))(n:A4):(ah8 b i n).Nodup:=by
 unfold ah8;refine am9 List.nodup_range (fun c hc=>?_) fun c hc c' hc' x hx hx'=>?_
 ·unfold ay0;refine am9 (List.nodup_range.filter _) (fun f hf=>?_) fun f hf f' hf' x hx hx'=>?_
  ·unfold X3;split<;>simp
  ·have e1:=(av8 hx).1.symm.trans (av8 hx').1;have hf1:=ez1.1 (ey4.1 hf).1;have hf2:=ez1.1 (ey4.1 hf').1;exact bU3 (aN9 b i n) hf1 hf2 (hp _ _ (ab0 b i n _ (bs9 hf1)) (ab0 b i n _ (bs9 hf2)) e1)
 ·unfold ay0 at hx hx';obtain⟨f,_,hx⟩:=ez2.1 hx;obtain⟨f',_,hx'⟩:=ez2.1 hx';exact hp _ _ (ez1.1 hc) (ez1.1 hc') ((av8 hx).2.symm.trans (av8 hx').2)
theorem bG5{b:Bk}{i:Int}(hp:bq3 (b.way i))(hg:∀a:Nat,a<(b.way i).n.toNat→(b.gives i a).Nodup):(b.flow0 i).Nodup:=by
 unfold Bk.flow0;refine am9 List.nodup_range (fun a ha=>?_) fun a ha a' ha' x hx hx'=>?_
 ·refine am9 (hg a (ez1.1 ha)) (fun n hn=>?_) fun n hn n' hn' x hx hx'=>?_
  ·rw[List.Nodup,List.pairwise_map];refine List.Pairwise.imp_of_mem (fun{c c'} hc hc' hne e=>?_) (List.nodup_range.filter _);exact hne (hp _ _ (ez1.1 (ey4.1 hc).1) (ez1.1 (ey4.1 hc').1) (ex0 Fw.dst e))
  ·obtain⟨c,_,rfl⟩:=ey0.1 hx;obtain⟨c',_,e⟩:=ey0.1 hx';exact(ex0 Fw.var e).symm
 ·obtain⟨n,_,hx⟩:=ez2.1 hx;obtain⟨n',_,hx'⟩:=ez2.1 hx';obtain⟨c,_,rfl⟩:=ey0.1 hx;obtain⟨c',_,e⟩:=ey0.1 hx';exact(hp _ _ (ez1.1 ha') (ez1.1 ha) (ex0 Fw.src e)).symm
theorem bS0{b:Bk}{i:Int}(hp:bq3 (b.way i))(hg:∀a:Nat,a<(b.way i).n.toNat→(b.gives i a).Nodup){keys:List A4}(hk:keys.Nodup)(hin:∀n,b.givers i n≠[]→n∈keys):(keys.flatMap (ah8 b i)).Perm (b.flow0 i):=by
 have hnd:(keys.flatMap (ah8 b i)).Nodup:=am9 hk (fun n _=>bG6 hp n) fun n _ n' _ x hx hx'=>by
  obtain⟨_,_,_,_,_,_,rfl⟩:=V8.1 hx;obtain⟨_,_,_,_,_,_,e⟩:=V8.1 hx';exact ex0 Fw.var e
 rw[List.perm_ext_iff_of_nodup hnd (bG5 hp hg)];intro x;rw[aF3,ez2];constructor
 ·rintro⟨n,_,h⟩;exact⟨n,h⟩
 ·rintro⟨n,h⟩;refine⟨n,hin n fun e=>?_,h⟩;obtain⟨a,_,ha,_⟩:=V8.1 h;rw[e]at ha;simp at ha
theorem cu4{b:Bk}{i:Int}(hp:bq3 (b.way i))(hg:∀a:Nat,a<(b.way i).n.toNat→(b.gives i a).Nodup)(hpl:∀a:Nat,a<(b.way i).n.toNat→plc ((b.way i).place a)){l:List Fw}(h:l.Perm (b.flow0 i)):U2 bo8 l=b.flows i:=by
 have hplc:∀x∈b.flow0 i,plc x.src∧plc x.dst:=fun x hx=>by
  obtain⟨n,h⟩:=aF3.1 hx;obtain⟨a,c,ha,hc,_,_,rfl⟩:=V8.1 h;have ha':a<(b.way i).n.toNat:=by
   unfold Bk.givers at ha;exact ez1.1 (ey4.1 ha).1
  exact⟨hpl a ha',hpl c hc⟩
 have ht:∀a b:Fw,bo8 a b=true∨bo8 b a=true:=fun a b=>bE8.total a b;have htr:∀a b c:Fw,bo8 a b=true→bo8 b c=true→bo8 a c=true:=fun a b c h1 h2=>eC8 (bE8.trans a b c (ev6 h1) (ev6 h2));unfold Bk.flows;refine ax1 (le:=bo8) ((F4 _ _).trans (h.trans (F4 _ _).symm)) (fun a ha b' hb h1 h2=>?_) (ad1 (fun a _ b _=>ht a b) fun a _ b _ c _=>htr a b c) (ad1 (fun a _ b _=>ht a b) fun a _ b _ c _=>htr a b c);have ha':=h.mem_iff.1 ((F4 _ _).mem_iff.1 ha);have hb':=h.mem_iff.1 ((F4 _ _).mem_iff.1 hb);exact bG9 (hplc _ ha') (hplc _ hb') (bE8.eq0 h1 h2)
theorem bH0{kv:List (A4×Value)}(hn:(kv.map (·.1)).Nodup){n:A4}{v:Value}(h:(n,v)∈kv):K7 kv n=some v:=by
 induction kv with
 | nil=>simp at h
 | cons p l ih=>
  rw[ez9,eH5]at hn;rcases ex3.1 h with rfl|h
  ·simp[K7]
  ·have hne:p.1≠n:=fun e=>hn.1 (by rw[e];exact ey0.2 ⟨_,h,rfl⟩);have:=ih hn.2 h;simp only[K7]at this ⊢;simp[hne,this]
theorem cu6{kv:List (A4×Value)}{n:A4}{v:Value}(h:K7 kv n=some v):(n,v)∈kv:=by
 unfold K7 at h;obtain⟨p,h1,rfl⟩:=Option.map_eq_some_iff.1 h;have h2:=List.find?_some h1;have h3:=ev6 h2;subst h3;exact List.mem_of_find?_eq_some h1
theorem aE7{α β:Type}{f:α→List β}{B:Nat}:∀{l:List α},(∀a∈l,(f a).length≤B)→(l.flatMap f).length≤l.length*B
 | [],_=>by simp
 | a::l,h=>by
  rw[eF4,ev5,ex7,eG3,Nat.one_mul];have h1:=h a (by simp);have h2:=aE7 (l:=l) (f:=f) (B:=B) fun b hb=>h b (by simp[hb]);omega
theorem bS3(b:Bk)(i:Int)(n:A4):(b.givers i n).length≤(b.way i).n.toNat:=by
 unfold Bk.givers;exact ew0 (ey2 _ _) (by simp)
theorem bs8(b:Bk)(i:Int)(n:A4)(c:Nat):(ah9 b i n c).length≤(b.way i).n.toNat:=by
 unfold ah9;refine ew0 (ey2 _ _) ?_;rw[eA7];exact bS3 b i n
theorem bg6(b:Bk)(i:Int)(n:A4)(c f:Nat):(X3 b i n c f).length≤1:=by
 unfold X3;split<;>simp
theorem bR9(b:Bk)(i:Int)(n:A4)(c q:Nat):(((ah9 b i n c).take q).flatMap (X3 b i n c)).length≤(b.way i).n.toNat:=by
 have h1:=aE7 (l:=(ah9 b i n c).take q) (f:=X3 b i n c) (B:=1) fun f _=>bg6 b i n c f;have h2:=bs8 b i n c;have h4:((ah9 b i n c).take q).length≤(ah9 b i n c).length:=by rw[ew6];omega
 omega
theorem cj9(b:Bk)(i:Int)(n:A4)(c:Nat):(ay0 b i n c).length≤(b.way i).n.toNat:=by
 have h:=bR9 b i n c (ah9 b i n c).length;rw[ew5]at h;exact h
theorem bg5(b:Bk)(i:Int)(n:A4)(c:Nat):((List.range c).flatMap (ay0 b i n)).length≤c*(b.way i).n.toNat:=by
 have h1:=aE7 (l:=List.range c) (f:=ay0 b i n) (B:=(b.way i).n.toNat) fun c _=>cj9 b i n c
 rwa [eA7]at h1
theorem ck0(b:Bk)(i:Int)(n:A4):(ah8 b i n).length≤(b.way i).n.toNat*(b.way i).n.toNat:=bg5 b i n _
theorem cy3{b:Bk}{i:Int}{keys:List A4}(hk:keys.Nodup)(hin:∀n∈keys,b.givers i n≠[])(hg:∀a:Nat,a<(b.way i).n.toNat→(b.gives i a).length≤100):keys.length≤(b.way i).n.toNat*100:=by
 have h1:=aE7 (l:=List.range (b.way i).n.toNat) (f:=fun(a:Nat)=>b.gives i (a:Int)) (B:=100) fun a ha=>hg a (ez1.1 ha);rw[eA7]at h1;refine ew0 (L3 hk fun n hn=>?_) h1;obtain⟨a,ha⟩:=List.exists_mem_of_ne_nil _ (hin n hn);unfold Bk.givers at ha;rw[ey4,ex4]at ha;exact ez2.2 ⟨a,ha.1,ha.2⟩
theorem df4{p:Pg}{i x y:Nat}{wy:Wy}(h:WyOk p i x y wy)(h200:(b9 p).l.length≤200):bq3 wy:=fun a c ha hc e=>by
 have hn:=h.n;have h1:=h.part.ok.len;have h2:=h.part.ok.le;rw[h.place,h.place]at e;split at e<;>split at e<;>first|omega|(split at e<;>first|omega|(split at e<;>omega))
theorem df5{p:Pg}{i x y:Nat}{wy:Wy}(h:WyOk p i x y wy)(h200:(b9 p).l.length≤200)(a:Nat)(ha:a<wy.n.toNat):plc (wy.place a):=by
 have hn:=h.n;have h1:=h.part.ok.len;have h2:=h.part.ok.le;rw[h.place];unfold plc;split
 ·omega
 ·split<;>omega
theorem ck1{b:Bk}{i:Int}(hpl:∀a:Nat,a<(b.way i).n.toNat→plc ((b.way i).place a)){n m:A4}{s t:Fw}(hs:s∈ah8 b i n)(ht:t∈ah8 b i m)(h1:decide (fwC s t≤0)=true)(h2:decide (fwC t s≤0)=true):s=t:=by
 obtain⟨a,c,ha,hc,_,_,rfl⟩:=V8.1 hs;obtain⟨a',c',ha',hc',_,_,rfl⟩:=V8.1 ht;exact bG9 ⟨hpl _ (ab0 _ _ _ _ ha),hpl _ hc⟩ ⟨hpl _ (ab0 _ _ _ _ ha'),hpl _ hc'⟩ (bE8.eq0 h1 h2)
theorem cr1(s d:Int)(n:A4):B9 prog 101 [(0,.int .i64 s),(1,.int .i64 d),(2,o7 n)]=some (.agg (z6.cells (⟨s,d,n⟩:Fw)).toArray):=by
 simp[B9,cG8,J5,Instr.fill,Value.cells,o7];rfl
def ay9(T:Nat→List A4)(M k:Nat):List (List A4):=(List.range M).map fun c=>if c<k then T c else[]
theorem aU9(T:Nat→List A4)(M k:Nat):(ay9 T M k).length=M:=by simp[ay9]
theorem bV3(T:Nat→List A4)(M:Nat):List.replicate M []=ay9 T M 0:=by
 apply eC3
 ·simp[ay9]
 ·intro i h1 h2;simp[ay9]
theorem cn3{T:Nat→List A4}{M k:Nat}:(ay9 T M k).set k (T k)=ay9 T M (k+1):=by
 apply eC3
 ·simp[ay9]
 ·intro i h1 h2;rw[List.getElem_set];simp only[ay9,eD4,eI7];split
  ·next h=>subst h;rw[if_pos (by omega)]
  ·next h=>
   by_cases h3:i<k
   ·rw[if_pos h3,if_pos (by omega)]
   ·rw[if_neg h3,if_neg (by omega)]
theorem cn2{T:Nat→List A4}{M c:Nat}(hc:c<M):(ay9 T M M)[c]?=some (T c):=by
 simp only[ay9,ey8,eE0 hc,eB4,if_pos hc]
theorem cB9{l:List (List Int)}{c:Nat}(hc:c<l.length):l[c]?=some (C1 l c):=by
 unfold C1;rw[if_pos ⟨by omega,by omega⟩,ex8,List.getD,ev2 hc];rfl
def bp4(kv:List (A4×Value))(j:Nat):A4:=match kv[j]? with
 | some q=>q.1
 | none=>e0
theorem aO4{kv:List (A4×Value)}{j:Nat}{q:A4×Value}(h:kv[j]?=some q):bp4 kv j=q.1:=by
 unfold bp4;rw[h]
theorem cy2{kv:List (A4×Value)}(hn:(kv.map (·.1)).Nodup){j q:Nat}(hj:j<kv.length)(hq:q<kv.length)(e:bp4 kv j=bp4 kv q):j=q:=by
 rw[aO4 (ev2 hj),aO4 (ev2 hq)]at e;have h:=eB9.1 hn;rcases Nat.lt_trichotomy j q with h1|h1|h1
 ·exact absurd (by rw[eD4,eD4];exact e) (h j q (by simpa using hj) (by simpa using hq) h1)
 ·exact h1
 ·exact absurd (by rw[eD4,eD4];exact e.symm) (h q j (by simpa using hq) (by simpa using hj) h1)
def Z1(h:Hp)(w:World)(T:TypeId)(v:Value)(xs:List Int):Prop:=
 (v = .slice none 0 0∧xs=[]) ∨
 ∃b off c cur,v = .slice (some ⟨b,off,none⟩) xs.length c∧h b=none∧w.heap[b]?=some (.cells cur T (0,0))∧xs.length≤c∧c≤maxLen∧off+c≤cur.size ∧
  ∀(j:Nat) (x:Int),xs[j]?=some x→cur[off+j]?=some (.int .i64 x)
section
variable {P:Program} {h:Hp} {w:World} {t T:TypeId} {v:Value} {xs:List Int}
theorem A9.toQ(ho:A9 h w T v xs):Z1 h w T v xs:=by
 rcases ho with hn|⟨b,c,cur,rfl,h1,h2,h3,h4,h5,h6⟩
 ·exact .inl hn
 ·have h5':cur.size=c:=by rw[h5];exact eE8 c
  have h6':cur.toList.take xs.length=L0 xs:=K9.1 (by
   have:xs.length*z7.sz Int=xs.length:=eE8 _;rw[this]at h6;exact h6)
  refine .inr ⟨b,0,c,cur,rfl,h1,h2,h3,h4,by omega,fun j x hj=>?_⟩;have hjl:=(ev8.1 hj).1;have h7:=ex0 (fun l=>l[j]?) h6';simp only[List.getElem?_take_of_lt hjl]at h7;rw[ey7];have h8:cur[j]?=cur.toList[j]?:=by simp
  rw[h8,h7];simp[L0,hj]
theorem Z1.isS(ho:Z1 h w T v xs):isS v=true:=by
 rcases ho with⟨rfl,rfl⟩|⟨b,off,c,cur,rfl,_⟩<;>rfl
theorem Z1.vlen(ho:Z1 h w T v xs):vlen v=xs.length:=by
 rcases ho with⟨rfl,rfl⟩|⟨b,off,c,cur,rfl,_⟩<;>rfl
theorem Z1.vcap(ho:Z1 h w T v xs):xs.length≤vcap v:=by
 rcases ho with⟨rfl,rfl⟩|⟨b,off,c,cur,rfl,_,_,h3,_⟩
 ·simp
 ·exact h3
theorem Z1.inS(ho:Z1 h w T v xs){k:Nat}(hk:k<xs.length):inS v k=true:=by
 rcases ho with⟨rfl,rfl⟩|⟨b,off,c,cur,rfl,_⟩
 ·simp at hk
 ·simp[Go.Proofs.YtdgicngfmfldmaaGreat.inS,hk]
theorem Z1.free(ho:Z1 h w T v xs){b:Nat}(hb:A3 v b):h b=none:=by
 rcases ho with⟨rfl,_⟩|⟨b',off,c,cur,rfl,h1,_⟩
 ·exact absurd hb D0
 ·simp[A3,Value.ownBlock]at hb;subst hb;exact h1
theorem Z1.lt(ho:Z1 h w T v xs){b:Nat}(hb:A3 v b):b<w.heap.size:=by
 rcases ho with⟨rfl,_⟩|⟨b',off,c,cur,rfl,h1,h2,_⟩
 ·exact absurd hb D0
 ·simp[A3,Value.ownBlock]at hb;subst hb;exact(ev9.1 h2).1
theorem Z1.mod{M:Nat→Prop}{w':World}(ho:Z1 h w T v xs)(hm:o9 M w w')(hM:∀b,A3 v b→¬M b):Z1 h w' T v xs:=by
 rcases ho with hn|⟨b,off,c,cur,rfl,h1,h2,rest⟩
 ·exact .inl hn
 ·exact .inr ⟨b,off,c,cur,rfl,h1,(hm.block b (ev9.1 h2).1 (hM b rfl)).trans h2,rest⟩
theorem Z1.ext{w':World}(ho:Z1 h w T v xs)(hm:o6 w w'):Z1 h w' T v xs:=ho.mod hm fun _ _=>id
theorem Z1.head{x:Int}{rest:List Int}(ho:Z1 h w T v (x::rest))(ht:B6 P t=false):(Instr.loadAt t (.pointer (some (H4 v 0)))).run P w = .ok (.int .i64 x) w:=by
 rcases ho with⟨_,hx⟩|⟨b,off,c,cur,rfl,h1,h2,h3,h4,h5,h6⟩
 ·cases hx
 ·refine Q6 ht ?_;simp only[H4,J8];rw[eC4 w b off cur T (0,0) h2];exact h6 0 x rfl
theorem Z1.tail{x:Int}{rest:List Int}(ho:Z1 h w T v (x::rest)):Z1 h w T (reS v 1 (rest.length+1) 1) rest∧∀b,A3 (reS v 1 (rest.length+1) 1) b↔A3 v b:=by
 rcases ho with⟨_,hx⟩|⟨b,off,c,cur,rfl,h1,h2,h3,h4,h5,h6⟩
 ·cases hx
 ·simp only[ex7]at h3;have hadd:(⟨b,off,none⟩:Addr).add (1*1)=⟨b,off+1,none⟩:=by unfold Addr.add;split<;>simp_all
  by_cases hc:c=1
  ·subst hc;have hr:rest=[]:=List.eq_nil_of_length_eq_zero (by omega);subst hr;refine⟨.inr ⟨b,off,0,cur,rfl,h1,h2,ew8 _,ew4 _,by omega,fun j y hj=>by simp at hj⟩,fun b'=>eC0⟩
  ·refine⟨.inr ⟨b,off+1,c-1,cur,?_,h1,h2,by omega,by omega,by omega,fun j y hj=>?_⟩,fun b'=>?_⟩
   ·simp[reS,hc,hadd]
   ·have:=h6 (j+1) y (by simpa using hj);rw[←this];congr 1;omega
   ·simp[reS,hc,hadd,A3,Value.ownBlock]
theorem Z1.push{e:TypeId}{by_:Nat}(hs:F2 P t T 1 by_=true)(ho:Z1 h w T v xs)(y:Int)
  (hl:xs.length+1≤1000000000000) (hb:(xs.length+1)*by_≤140737488355328) (hw:B4 h (d7 w)) :
  (Instr.buildSlice t 1 #[(0,.int .i64 y)]).run P w = .ok (.slice (some ⟨w.heap.size,0,none⟩) 1 1) (w.alloc (.cells #[.int .i64 y] T)) ∧
  ∃v' w',(Builtin.append_ #[t,t] e #[v,.slice (some ⟨w.heap.size,0,none⟩) 1 1]).run P (w.alloc (.cells #[.int .i64 y] T)) = .ok v' w'∧Z1 h w' T v' (xs++[y])∧o9 (A3 v) w w'∧F1 w v v':=by
 have hnil:=Go.Proofs.YtdgicngfmfldmaaGreat.push (e:=e) (α:=Int) hs rfl (A9.nil h w T) (x:=.int .i64 y) (y:=y) rfl (by simp) (by simp only[eB7,ey7]at *;have:=eD6 by_ (show 1≤xs.length+1 by omega);omega) hw;simp only[Value.cells,eG1]at hnil;refine⟨hnil.1,?_⟩;rcases ho with⟨rfl,rfl⟩|⟨b,off,c,cur,rfl,h1,h2,h3,h4,h5,h6⟩
 ·obtain⟨v',w',k1,k2,k3,k4⟩:=hnil.2;exact⟨v',w',k1,by simpa using k2.toQ,k3,k4⟩
 ·obtain⟨s1,⟨z,hz,hzs⟩,s3,s4,s5,s6⟩:=P5 hs;obtain⟨i,hi,hiz⟩:=t8 hz;rw[C7 hi]at s3;rw[ar9 hi]at s4;have ht:=K8 s1;have hxA:=o6.alloc w (.cells #[.int .i64 y] T);have hbl:b<w.heap.size:=(ev9.1 h2).1;have h2':(w.alloc (.cells #[.int .i64 y] T)).heap[b]?=some (.cells cur T (0,0)):=(hxA.block b hbl id).trans h2;have hnews:∀j u,[Value.int .i64 y][j]?=some u→(w.alloc (.cells #[.int .i64 y] T)).cell? ((⟨w.heap.size,0,none⟩:Addr).add j)=some u:=by
   intro j u hj;have ha:(⟨w.heap.size,0,none⟩:Addr).add j=⟨w.heap.size,j,none⟩:=by unfold Addr.add;split<;>simp_all
   rw[ha,eG7];simpa using hj
  generalize hwa:w.alloc (.cells #[.int .i64 y] T)=wa at *;by_cases hroom:xs.length+1≤c
  ·have hr:=run_append_room_cells (P:=P) wa t e T i ht hi b off xs.length c ⟨w.heap.size,0,none⟩ 1 1 [.int .i64 y] (by simp[s3]) hnews (by simp[Value.oneCell']) hroom
    (fun j hj=>by
     simp only[ex7,eB7]at hj;rw[s3,eC4 wa b _ cur T (0,0) h2',eE1 (by omega)];rfl)
    (fun j _=>frozen_of_row wa b _ cur T h2')
   rw[s3,eE8]at hr;simp only[World.setCells]at hr;refine⟨_,_,hr,.inr ⟨b,off,c,cur.setIfInBounds (off+xs.length) (.int .i64 y),by simp,h1,heap_setCell_same wa b (off+xs.length) cur T _ h2',by simpa using hroom,h4,by simpa using h5,fun j x hj=>?_⟩,?_,fun b' hb'=>.inl hb'⟩
   ·rw[Array.getElem?_setIfInBounds];by_cases hjx:j<xs.length
    ·rw[eA0 hjx]at hj;rw[if_neg (by omega)];exact h6 j x hj
    ·rw[ez6 (by omega)]at hj;have hj0:j-xs.length=0:=by
      have:=(ev8.1 hj).1;simp at this;omega
     rw[hj0]at hj;simp at hj;subst hj;rw[if_pos (by omega),if_pos (by omega)]
   ·exact(hxA.weaken fun _ _ h=>h.elim).trans (o9.setCell _ _ _ (by simp[A3,Value.ownBlock]))
  ·have holds:∀j u,((L0 xs))[j]?=some u→wa.cell? ((⟨b,off,none⟩:Addr).add j)=some u:=by
    intro j u hj;have ha:(⟨b,off,none⟩:Addr).add j=⟨b,off+j,none⟩:=by unfold Addr.add;split<;>simp_all
    rw[ha,eC4 wa b (off+j) cur T (0,0) h2'];simp only[L0,ey8]at hj;obtain⟨x,k1,k2⟩:=Option.map_eq_some_iff.1 hj;rw[h6 j x k1,←k2]
   have hr:=run_append_grow (P:=P) wa t e T i z ht hi hiz ⟨b,off,none⟩ xs.length c (L0 xs) (by simp[L0,s3]) holds ⟨w.heap.size,0,none⟩ 1 1 [.int .i64 y] (by simp[s3]) hnews (by omega)
    (by omega) (growslice_fits (by omega) (by rw[s4];exact hb))
   have hge:=grownCap_ge wa (xs.length+1) c T;have hcm:=grownCap_le_maxLen wa (xs.length+1) c T (by simp only[maxLen];omega);have hlw:wa.heap.size=w.heap.size+1:=by rw[←hwa];simp
   refine⟨_,_,hr,.inr ⟨wa.heap.size,0,_,_,by simp,av4 hw (by omega),ez5 wa.drew _,by simpa using hge,hcm,?_,fun j x hj=>?_⟩,?_,fun b' hb'=>?_⟩
   ·simp only[Array.size_append,eE7,size_zeroCells,hzs,L0,ew3,ex7,eB7];omega
   ·rw[ey7];have hjl:=(ev8.1 hj).1;simp only[ev5,ex7,eB7]at hjl;have e1:((L0 xs).toArray++#[Value.int .i64 y])=(L0 (xs++[y])).toArray:=by simp[L0]
    have e2:([Value.int .i64 y].toArray)=#[Value.int .i64 y]:=rfl;rw[Array.getElem?_append_left (by simp[L0];omega),e2,e1,List.getElem?_toArray];simp only[L0,ey8,hj];rfl
   ·refine(hxA.weaken fun _ _ h=>h.elim).trans ?_;exact o9.trans ((o6.drew wa).weaken (fun _ _ h=>h.elim)) ((o6.alloc wa.drew _).weaken (fun _ _ h=>h.elim))
   ·simp[A3,Value.ownBlock]at hb';exact .inr (by omega)
end
section
variable {P:Program} {h:Hp} {w:World} {t T:TypeId} {v:Value}
theorem Z1.set{xs:List Int}(ho:Z1 h w T v xs){k:Nat}(hk:k<xs.length)(y:Int){inf:TypeInfo}(hinf:P.info? t=some inf)(hs:inf.size=1):
  ∃w',(Instr.storeAt t (.pointer (some (H4 v k))) (.int .i64 y)).run P w = .ok () w'∧Z1 h w' T v (xs.set k y)∧o9 (A3 v) w w':=by
 rcases ho with⟨rfl,rfl⟩|⟨b,off,c,cur,rfl,h1,h2,h3,h4,h5,h6⟩
 ·simp at hk
 ·have ha:(⟨b,off,.none⟩:Addr).add k=⟨b,off+k,.none⟩:=by unfold Addr.add;split<;>simp_all
  obtain⟨w',s1,s2,s3⟩:=ah2 (P:=P) (t:=t) (i:=off+k) (x:=.int .i64 y) h2 (by omega) rfl rfl hinf hs;refine⟨w',by simp only[H4,ha];exact s1,.inr ⟨b,off,c,_,by simp,h1,s2,by simpa using h3,h4,by simpa using h5,fun j x hj=>?_⟩,s3.weaken fun b' _ hb=>by subst hb;rfl⟩;rw[Array.getElem?_setIfInBounds];rw[List.getElem?_set]at hj;by_cases hkj:k=j
  ·subst hkj;rw[if_pos rfl,if_pos hk]at hj;obtain rfl:=ex1 hj;rw[if_pos rfl,if_pos (by omega)]
  ·rw[if_neg hkj]at hj;rw[if_neg (by omega)];exact h6 j x hj
end
structure ST (w0 w:World) (rb gb:Nat) (ui uw vt:Value) (us:List Y4) (ins:List (List W)) (waits:List Bool) (todo:List Int) (T:Int):Prop where
 rows:J9 (d7 w0) w 276 223 ui us ins
 wts:A9 (d7 w0) w 4 uw waits
 q:Z1 (d7 w0) w 3 vt todo
 cg:w.heap[gb]?=some (.cells #[.slice none 0 0,.int .i64 T] 190 (0,0))
 cr:w.heap[rb]?=some (.cells #[.slice none 0 0,.int .i64 0] 190 (0,0))
 d1:∀b,K5 ui us b→¬A3 vt b∧¬A3 uw b∧b≠gb∧b≠rb
 d2:∀b,A3 vt b→¬A3 uw b∧b≠gb∧b≠rb
 d3:∀b,A3 uw b→b≠gb∧b≠rb
 d4:gb≠rb
 ext:o6 w0 w
 fg:w0.heap.size≤gb
 frb:w0.heap.size≤rb
section
variable {w0 w:World} {rb gb:Nat} {ui uw vt:Value} {us:List Y4} {ins:List (List W)} {waits:List Bool} {todo:List Int} {T:Int}
theorem ST.lg(s:ST w0 w rb gb ui uw vt us ins waits todo T):gb<w.heap.size:=(ev9.1 s.cg).1
theorem ST.lr(s:ST w0 w rb gb ui uw vt us ins waits todo T):rb<w.heap.size:=(ev9.1 s.cr).1
theorem ST.ge(s:ST w0 w rb gb ui uw vt us ins waits todo T){b:Nat}(hb:d7 w0 b=none):w0.heap.size≤b:=
 eI6 fun hlt=>by simp[d7,hlt]at hb
theorem ST.more(s:ST w0 w rb gb ui uw vt us ins waits todo T){w':World}(hx:o6 w w'):ST w0 w' rb gb ui uw vt us ins waits todo T:=
 ⟨s.rows.ext hx,s.wts.ext hx,s.q.ext hx,(hx.block gb s.lg id).trans s.cg,(hx.block rb s.lr id).trans s.cr,s.d1,s.d2,s.d3,s.d4,s.ext.trans hx,s.fg,s.frb⟩
theorem ST.wait{P:Program}{t:TypeId}(s:ST w0 w rb gb ui uw vt us ins waits todo T){k:Nat}(hk:k<waits.length)(y:Bool){inf:TypeInfo}(hinf:P.info? t=some inf)(hs:inf.size=1):
  ∃w',(Instr.storeAt t (.pointer (some (H4 uw k))) (.bool y)).run P w = .ok () w'∧ST w0 w' rb gb ui uw vt us ins (waits.set k y) todo T:=by
 obtain⟨w',s1,s2,s3,s4⟩:=D9 (P:=P) (t:=t) s.wts rfl hk (x:=.bool y) (y:=y) rfl rfl hinf hs;refine⟨w',s1,s.rows.mod s3 fun b hb=>(s.d1 b hb).2.1,s2,s.q.mod s3 fun b hb=>(s.d2 b hb).1,(s3.block gb s.lg fun h=>(s.d3 gb h).1 rfl).trans s.cg,(s3.block rb s.lr fun h=>(s.d3 rb h).2 rfl).trans s.cr,s.d1,s.d2,s.d3,s.d4,o9.ext_of s.ext s3 fun b hb=>s.ge (s.wts.free hb),s.fg,s.frb⟩
theorem ST.wait2{P:Program}{t:TypeId}(s:ST w0 w rb gb ui uw vt us ins waits todo T){k:Nat}(hk:k<waits.length)(y:Bool){inf:TypeInfo}(hinf:P.info? t=some inf)(hs:inf.size=1):
  ∃w',(Instr.storeAt t (.pointer (some (H4 uw k))) (.bool y)).run P w = .ok () w'∧ST w0 w' rb gb ui uw vt us ins (waits.set k y) todo T∧o9 (A3 uw) w w':=by
 obtain⟨w',s1,s2,s3,s4⟩:=D9 (P:=P) (t:=t) s.wts rfl hk (x:=.bool y) (y:=y) rfl rfl hinf hs;refine⟨w',s1,⟨s.rows.mod s3 fun b hb=>(s.d1 b hb).2.1,s2,s.q.mod s3 fun b hb=>(s.d2 b hb).1,(s3.block gb s.lg fun h=>(s.d3 gb h).1 rfl).trans s.cg,(s3.block rb s.lr fun h=>(s.d3 rb h).2 rfl).trans s.cr,s.d1,s.d2,s.d3,s.d4,o9.ext_of s.ext s3 fun b hb=>s.ge (s.wts.free hb),s.fg,s.frb⟩,s3⟩
theorem ST.times{P:Program}{t:TypeId}(s:ST w0 w rb gb ui uw vt us ins waits todo T)(T':Int){inf:TypeInfo}(hinf:P.info? t=some inf)(hs:inf.size=1):
  ∃w',(Instr.storeAt t (.pointer (some ⟨gb,1,none⟩)) (.int .i64 T')).run P w = .ok () w'∧ST w0 w' rb gb ui uw vt us ins waits todo T':=by
 obtain⟨w',s1,s2,s3⟩:=ah2 (P:=P) (t:=t) (i:=1) (x:=.int .i64 T') s.cg (by simp) rfl rfl hinf hs;refine⟨w',s1,s.rows.mod s3 fun b hb=>(s.d1 b hb).2.2.1,s.wts.mod s3 fun b hb=>(s.d3 b hb).1,s.q.mod s3 fun b hb=>(s.d2 b hb).2.1,s2,(s3.block rb s.lr fun h=>s.d4 h.symm).trans s.cr,s.d1,s.d2,s.d3,s.d4,o9.ext_of s.ext s3 fun b hb=>by subst hb;exact s.fg,s.fg,s.frb⟩
theorem ST.tail{x:Int}{rest:List Int}(s:ST w0 w rb gb ui uw vt us ins waits (x::rest) T):ST w0 w rb gb ui uw (reS vt 1 (rest.length+1) 1) us ins waits rest T:=by
 obtain⟨h1,h2⟩:=s.q.tail;exact⟨s.rows,s.wts,h1,s.cg,s.cr,fun b hb=>⟨fun h=>(s.d1 b hb).1 ((h2 b).1 h),(s.d1 b hb).2⟩,fun b hb=>s.d2 b ((h2 b).1 hb),s.d3,s.d4,s.ext,s.fg,s.frb⟩
theorem ST.push{P:Program}{t e:TypeId}{by_:Nat}(hsl:F2 P t 3 1 by_=true)(s:ST w0 w rb gb ui uw vt us ins waits todo T)(y:Int)(hl:todo.length+1≤1000000000000)(hb:(todo.length+1)*by_≤140737488355328):
  (Instr.buildSlice t 1 #[(0,.int .i64 y)]).run P w = .ok (.slice (some ⟨w.heap.size,0,none⟩) 1 1) (w.alloc (.cells #[.int .i64 y] 3)) ∧
  ∃v' w',(Builtin.append_ #[t,t] e #[vt,.slice (some ⟨w.heap.size,0,none⟩) 1 1]).run P (w.alloc (.cells #[.int .i64 y] 3)) = .ok v' w'∧ST w0 w' rb gb ui uw v' us ins waits (todo++[y]) T:=by
 obtain⟨h1,v',w',h2,h3,h4,h5⟩:=s.q.push (e:=e) hsl y hl hb (b7 s.ext);refine⟨h1,v',w',h2,s.rows.mod h4 fun b hb=>(s.d1 b hb).1,s.wts.mod h4 fun b hb hb2=>(s.d2 b hb2).1 hb,h3,(h4.block gb s.lg fun h=>(s.d2 gb h).2.1 rfl).trans s.cg,(h4.block rb s.lr fun h=>(s.d2 rb h).2.2 rfl).trans s.cr,fun b hb=>⟨fun h=>?_,(s.d1 b hb).2⟩,fun b hb=>?_,s.d3,s.d4,o9.ext_of s.ext h4 fun b hb=>s.ge (s.q.free hb),s.fg,s.frb⟩
 ·rcases h5 b h with h|h
  ·exact(s.d1 b hb).1 h
  ·have:=s.rows.lt hb;omega
 ·rcases h5 b hb with h|h
  ·exact s.d2 b h
  ·exact⟨fun hh=>by have:=s.wts.lt hh;omega,by have:=s.lg;omega,by have:=s.lr;omega⟩
theorem ST.push2{P:Program}{t e:TypeId}{by_:Nat}(hsl:F2 P t 3 1 by_=true)(s:ST w0 w rb gb ui uw vt us ins waits todo T)(y:Int)(hl:todo.length+1≤1000000000000)(hb:(todo.length+1)*by_≤140737488355328):
  (Instr.buildSlice t 1 #[(0,.int .i64 y)]).run P w = .ok (.slice (some ⟨w.heap.size,0,none⟩) 1 1) (w.alloc (.cells #[.int .i64 y] 3)) ∧
  ∃v' w',(Builtin.append_ #[t,t] e #[vt,.slice (some ⟨w.heap.size,0,none⟩) 1 1]).run P (w.alloc (.cells #[.int .i64 y] 3)) = .ok v' w'∧ST w0 w' rb gb ui uw v' us ins waits (todo++[y]) T∧o9 (A3 vt) w w'∧F1 w vt v':=by
 obtain⟨h1,v',w',h2,h3,h4,h5⟩:=s.q.push (e:=e) hsl y hl hb (b7 s.ext);refine⟨h1,v',w',h2,⟨s.rows.mod h4 fun b hb=>(s.d1 b hb).1,s.wts.mod h4 fun b hb hb2=>(s.d2 b hb2).1 hb,h3,(h4.block gb s.lg fun h=>(s.d2 gb h).2.1 rfl).trans s.cg,(h4.block rb s.lr fun h=>(s.d2 rb h).2.2 rfl).trans s.cr,fun b hb=>⟨fun h=>?_,(s.d1 b hb).2⟩,fun b hb=>?_,s.d3,s.d4,o9.ext_of s.ext h4 fun b hb=>s.ge (s.q.free hb),s.fg,s.frb⟩,h4,h5⟩
 ·rcases h5 b h with h|h
  ·exact(s.d1 b hb).1 h
  ·have:=s.rows.lt hb;omega
 ·rcases h5 b hb with h|h
  ·exact s.d2 b h
  ·exact⟨fun hh=>by have:=s.wts.lt hh;omega,by have:=s.lg;omega,by have:=s.lr;omega⟩
theorem ST.row(s:ST w0 w rb gb ui uw vt us ins waits todo T){w':World}{i:Nat}{u:Y4}(hi:us[i]?=some u){r:List W}(hm:o9 (A3 u.v) w w')(ho:A9 (d7 w0) w' 223 u.v r):ST w0 w' rb gb ui uw vt us (ins.set i r) waits todo T:=by
 have hu:∀b,A3 u.v b→K5 ui us b:=fun b hb=>.inr ⟨u,ex2 hi,hb⟩;exact⟨s.rows.write hi hm ho,s.wts.mod hm fun b hb hb2=>(s.d1 b (hu b hb2)).2.1 hb,s.q.mod hm fun b hb hb2=>(s.d1 b (hu b hb2)).1 hb,(hm.block gb s.lg fun h=>(s.d1 gb (hu gb h)).2.2.1 rfl).trans s.cg,(hm.block rb s.lr fun h=>(s.d1 rb (hu rb h)).2.2.2 rfl).trans s.cr,s.d1,s.d2,s.d3,s.d4,o9.ext_of s.ext hm fun b hb=>s.ge (s.rows.free (hu b hb)),s.fg,s.frb⟩
theorem ST.put{P:Program}{t:TypeId}(s:ST w0 w rb gb ui uw vt us ins waits todo T){w1:World}(hx:o6 w w1){i:Nat}{u:Y4}(hi:us[i]?=some u){u':Value}{r:List W}(ho:A9 (d7 w0) w1 223 u' r)(hf:∀b,A3 u' b→w.heap.size≤b){inf:TypeInfo}(hinf:P.info? t=some inf)(hs:inf.size=1):
  ∃w2,(Instr.storeAt t (.pointer (some (H4 ui i))) u').run P w1 = .ok () w2∧ST w0 w2 rb gb ui uw vt (us.set i ⟨u'⟩) (ins.set i r) waits todo T:=by
 obtain⟨w2,s1,s2,s3,s4⟩:=s.rows.put (P:=P) (t:=t) hi (hx.weaken fun _ _ h=>h.elim) ho (fun b hb=>.inr (hf b hb)) hinf hs;have hv:∀b,A3 ui b→K5 ui us b:=fun b hb=>.inl hb;have s':=s.more hx;refine⟨w2,s1,s2,s'.wts.mod s3 fun b hb hb2=>(s.d1 b (hv b hb2)).2.1 hb,s'.q.mod s3 fun b hb hb2=>(s.d1 b (hv b hb2)).1 hb,(s3.block gb s'.lg fun h=>(s.d1 gb (hv gb h)).2.2.1 rfl).trans s'.cg,(s3.block rb s'.lr fun h=>(s.d1 rb (hv rb h)).2.2.2 rfl).trans s'.cr,fun b hb=>?_,s.d2,s.d3,s.d4,o9.ext_of s'.ext s3 fun b hb=>s.ge (s.rows.free (hv b hb)),s.fg,s.frb⟩;rcases hb with hb|⟨x,hx',hb⟩
 ·exact s.d1 b (.inl hb)
 ·rcases eD1 hx' with h|h
  ·exact s.d1 b (.inr ⟨x,h,hb⟩)
  ·subst h;have h9:=hf b hb;exact⟨fun hh=>by have:=s.q.lt hh;omega,fun hh=>by have:=s.wts.lt hh;omega,by have:=s.lg;omega,by have:=s.lr;omega⟩
theorem ST.qset{P:Program}{t:TypeId}(s:ST w0 w rb gb ui uw vt us ins waits todo T){k:Nat}(hk:k<todo.length)(y:Int){inf:TypeInfo}(hinf:P.info? t=some inf)(hs:inf.size=1):
  ∃w',(Instr.storeAt t (.pointer (some (H4 vt k))) (.int .i64 y)).run P w = .ok () w'∧ST w0 w' rb gb ui uw vt us ins waits (todo.set k y) T:=by
 obtain⟨w',h1,h3,h4⟩:=s.q.set (P:=P) (t:=t) hk y hinf hs;exact⟨w',h1,s.rows.mod h4 fun b hb=>(s.d1 b hb).1,s.wts.mod h4 fun b hb hb2=>(s.d2 b hb2).1 hb,h3,(h4.block gb s.lg fun h=>(s.d2 gb h).2.1 rfl).trans s.cg,(h4.block rb s.lr fun h=>(s.d2 rb h).2.2 rfl).trans s.cr,s.d1,s.d2,s.d3,s.d4,o9.ext_of s.ext h4 fun b hb=>s.ge (s.q.free hb),s.fg,s.frb⟩
end
theorem ei3:af6 prog 244=true:=by kernel_rfl
theorem ei4:af6 prog 245=true:=by kernel_rfl
theorem ei5:af6 prog 246=true:=by kernel_rfl
theorem ei6:af6 prog 247=true:=by kernel_rfl
theorem bq7(w:World):(Instr.alloc 190 true (.tuple #[])).run prog w = .ok (.pointer (some ⟨w.heap.size,0,none⟩)) (w.alloc (.cells #[.slice none 0 0,.int .i64 0] 190)):=
 (aT9 (P:=prog) (T:=190) bn1 (by rw[aa2];rfl) (cs:=#[.slice none 0 0,.int .i64 0]) (by rw[aa2];rfl) (by simp[Value.oneCell'])).1
def goW(g r k:List W)(i:Nat):W:=g.getD i 0#64 ||| (r.getD i 0#64 &&& ~~~(k.getD i 0#64))
def X4(g r k:List W)(m i:Nat):List W:=(List.range m).map fun j=>if j<i then goW g r k j else 0#64
theorem bH2(g r k:List W)(m:Nat):X4 g r k m 0=List.replicate m 0#64:=by
 unfold X4;apply eC3 (by simp);intro i h1 h2;simp
theorem am3(g r k:List W)(m i:Nat):(X4 g r k m i).length=m:=by simp[X4]
theorem bh1(g r k:List W)(m i j:Nat):(X4 g r k m i)[j]?=if j<m then some (if j<i then goW g r k j else 0#64)else none:=by
 unfold X4;rw[ey8];by_cases hj:j<m
 ·rw[eE0 hj,if_pos hj];rfl
 ·rw[eC7 (by simp;omega),if_neg hj];rfl
theorem bH1(g r k:List W){m i:Nat}(hi:i<m):(X4 g r k m i).set i (goW g r k i)=X4 g r k m (i+1):=by
 apply eH9;intro j;rw[List.getElem?_set,bh1,bh1,am3];by_cases e:i=j
 ·subst e;rw[if_pos rfl,if_pos hi,if_pos hi,if_pos (by omega)]
 ·rw[if_neg e];by_cases h3:j<i
  ·rw[if_pos h3,if_pos (show j<i+1 by omega)]
  ·rw[if_neg h3,if_neg (show ¬j<i+1 by omega)]
theorem bS4(g r k:List W){m:Nat}(hg:g.length=m)(hr:r.length=m)(hk:k.length=m)(f:Nat):N7 (X4 g r k m m) f=(N7 g f||(N7 r f && !N7 k f)):=by
 unfold N7;by_cases hi:f / 64<m
 ·have h1:(X4 g r k m m).getD (f / 64) 0#64=goW g r k (f / 64):=by
   unfold X4;simp only[List.getD,ey8,eE0 hi,eB4,eA9];rw[if_pos hi]
  rw[h1];unfold goW;rw[BitVec.getLsbD_or,BitVec.getLsbD_and,BitVec.getLsbD_not];have:f % 64<64:=Nat.mod_lt _ (by decide);simp[this]
 ·have h0:∀l:List W,l.length=m→l.getD (f / 64) 0#64=0#64:=fun l hl=>by
   simp only[List.getD];rw[eC7 (by omega)];rfl
  rw[h0 _ (am3 g r k m m),h0 g hg,h0 r hr];simp
theorem ST.ge'{w0 w:World}{rb gb:Nat}{ui uw vt:Value}{us:List Y4}{ins:List (List W)}{waits:List Bool}{todo:List Int}{T:Int}(s:ST w0 w rb gb ui uw vt us ins waits todo T){w1:World}{b:Nat}(hb:d7 w1 b=none):w1.heap.size≤b:=
 eI6 fun hlt=>by simp[d7,hlt]at hb
theorem cn6(pg:Value)(nx pv:List (List Int))(vg vk:Value)(gs ks:List (List W))(gl kl:List (List Int))(most:Nat)(w:World)
  (hgr:GR (d7 w) pg nx pv) (hgg:az5 nx.length (nx,pv)) (hvg:R (d7 w) vg gs) (hvk:R (d7 w) vk ks) (hsg:cp9 most gl gs) (hsk:cp9 most kl ks) (hgn:gl.length=nx.length) (hkn:kl.length=nx.length) (hfg:aN3 gl most) (hn5:nx.length≤5000) (hm5:most≤5000) :
  Calls prog 201 #[pg,vg,vk,.int .i64 most] w fun e w'=>∃u,e = .returned u∧((∃vi sol T,u = .agg #[vi,.int .i64 (T:Nat)]∧R (B5 w' (fun b=>b<w.heap.size)) vi sol∧sol.length=nx.length∧(∀b,H3 nx.length b=true→∃f:Nat→Bool,C1 sol b=((List.range most).filter f).map (fun(i:Nat)=>(i:Int))∧∀i,f i=true↔ar3 nx gl kl b i)∧nx.length≤T∧T≤nx.length+nx.length*most)∧o6 w w'):=by
 refine d9 (args:=[pg,vg,vk,.int .i64 most]) hm func201 rfl (by kernel_rfl) (by show 4≤_;decide +kernel) ?_;have hal:=bq7;simp only[I1,zVB,simprocAttr,hal];have c1:(w.alloc (.cells #[.slice none 0 0,.int .i64 0] 190)).heap[w.heap.size]?=some (.cells #[.slice none 0 0,.int .i64 0] 190 (0,0)):=ez5 w _;have x1:=o6.alloc w (.cells #[.slice none 0 0,.int .i64 0] 190);have sz1:(w.alloc (.cells #[.slice none 0 0,.int .i64 0] 190)).heap.size=w.heap.size+1:=by simp
 generalize w.alloc (.cells #[.slice none 0 0,.int .i64 0] 190)=w1 at *;have c2:(w1.alloc (.cells #[.slice none 0 0,.int .i64 0] 190)).heap[w1.heap.size]?=some (.cells #[.slice none 0 0,.int .i64 0] 190 (0,0)):=ez5 w1 _;have x2:=o6.alloc w1 (.cells #[.slice none 0 0,.int .i64 0] 190);have sz2:(w1.alloc (.cells #[.slice none 0 0,.int .i64 0] 190)).heap.size=w1.heap.size+1:=by simp
 generalize w1.alloc (.cells #[.slice none 0 0,.int .i64 0] 190)=w2 at *;have x02:=x1.trans x2;have hgr2:=hgr.mono (b7 x02);refine y5 ei3 (cK3 pg nx pv w2 hgr2) ?_;rintro u w2' ⟨hu,hw2⟩;subst hw2;subst hu;have hz:z7.enc (d7 w) (Value.slice none 0 0).cells.toList E1:=⟨rfl,rfl⟩;obtain⟨ui,w3,m1,o1,x3,f1,s1⟩:=mk (P:=prog) (w:=w2') (h:=d7 w) cY9 aW1 (α:=Y4) (y:=E1) hz (n:=nx.length) (by omega) (by omega) (b7 x02);obtain⟨ut,w4,m2,o2,x4,f2,s2⟩:=mk (P:=prog) (w:=w3) (h:=d7 w) ad0 ax7 (α:=Int) (y:=0) rfl (n:=nx.length) (by omega) (by omega) (b7 (x02.trans x3));obtain⟨uw,w5,m3,o3,x5,f3,s3⟩:=mk (P:=prog) (w:=w4) (h:=d7 w) bp9 S7 (α:=Bool) (y:=false) rfl (n:=nx.length) (by omega) (by omega) (b7 ((x02.trans x3).trans x4));have x35:=(x3.trans x4).trans x5;have l1:w.heap.size<w2'.heap.size:=by omega
 have l2:w1.heap.size<w2'.heap.size:=by omega
 have hcr:w5.heap[w.heap.size]?=some (.cells #[.slice none 0 0,.int .i64 0] 190 (0,0)):=(x35.block _ l1 id).trans ((x2.block _ (by omega) id).trans c1);have hcg:w5.heap[w1.heap.size]?=some (.cells #[.slice none 0 0,.int .i64 0] 190 (0,0)):=(x35.block _ l2 id).trans c2;have st0:ST w w5 w.heap.size w1.heap.size ui uw ut (List.replicate nx.length E1) (List.replicate nx.length []) (List.replicate nx.length false) (List.replicate nx.length 0) 0:=by
  refine⟨ak7 ((o1.ext x4).ext x5),o3,(o2.ext x5).toQ,hcg,hcr,fun b hb=>?_,fun b hb=>⟨fun h=>?_,?_,?_⟩,fun b hb=>⟨?_,?_⟩,by omega,((x02.trans x3).trans x4).trans x5,by omega,ew8 _⟩
  ·have hb':=aD0 hb;have k1:=f1 b hb';have k2:=o1.lt hb';exact⟨fun h=>by have:=f2 b h;omega,fun h=>by have:=f3 b h;omega,by omega,by omega⟩
  ·have:=o2.lt hb;have:=f3 b h;omega
  ·have:=f2 b hb;omega
  ·have:=f2 b hb;omega
  ·have:=f3 b hb;omega
  ·have:=f3 b hb;omega
 have Si:=o1.isS;have ni:=o1.vlen;rw[eA1]at ni;have hgood:=hgg.nx;generalize hrb:w.heap.size=rb at *;generalize hgb:w1.heap.size=gb at *;have q1:=by3 (P:=prog) (t:=3) most (by omega);have q2:B7 prog .add 3 (.int .i64 ((most / 64:Nat):Int)) (.int .i64 1)=some (.int .i64 ((most / 64+1:Nat):Int)):=by
  simp only[B7,E7,eB2];rw[B1 _ (by omega)]
 have hm64:most / 64+1≤100:=by omega
 obtain⟨hsg1,hsg2⟩:=hsg;obtain⟨hsk1,hsk2⟩:=hsk;generalize hmm:most / 64+1=m at *;generalize hm6:most / 64=m6 at *;simp only[I1,O4,T6,simprocAttr,m1,m2,m3,Si,ni];refine n8 [0,1,2,3,8,9,10,11,12,13,29,30] (σ:=Nat) (fun k f w'=>f 31 = .int .i64 k∧k≤nx.length∧∃us ins waits todo,ST w w' rb gb ui uw ut us ins waits todo 0∧ins.length=nx.length∧waits.length=nx.length∧todo.length=nx.length∧∀j:Nat,j<k→ins[j]?=some (List.replicate m 0#64)∧waits[j]?=some true∧todo[j]?=some (j:Int)) (fun k=>nx.length-k) 0 (by decide +kernel) ?_ ?_
 ·simp only[p6,simprocAttr];exact⟨by trivial,ew4 _,_,_,_,_,st0,by simp,by simp,by simp,fun j hj=>by omega⟩
 ·rintro k f w6 hk ⟨h31,hkl,us,ins,waits,todo,st,li,lw,lt,hdone⟩;simp only[ev4,p6,simprocAttr]at hk;obtain⟨e0,e1,e2,e3,e8,e9,e10,e11,e12,e13,e29,e30,_⟩:=hk;simp only[I1,B7,E7,simprocAttr,h31,e30];refine i5 (fun hc=>?_) (fun hc=>?_)
  ·have hlt:k<nx.length:=by simpa using hc
   have q6:B7 prog .add 3 (.int .i64 k) (.int .i64 1)=some (.int .i64 ((k+1:Nat):Int)):=by
    simp only[B7,E7,eB2];rw[B1 k (by omega)]
   obtain⟨ur,w7,m4,o4,x7,f4,s4⟩:=mk (P:=prog) (w:=w6) (h:=d7 w) df6 ax6 (α:=W) (y:=0#64) rfl (n:=m) (by omega) (by omega) (b7 st.ext);have lus:us.length=nx.length:=by rw[st.rows.len,li]
   have hui:us[k]?=some (us[k]'(by omega)):=ev2 _;generalize us[k]'(by omega)=u at hui;obtain⟨w8,t1,st1⟩:=st.put (P:=prog) (t:=276) x7 hui o4 f4 (t8 aW1).choose_spec.1 (by rw[←C7 (t8 aW1).choose_spec.1];exact bX7);obtain⟨w9,t2,st2⟩:=st1.qset (P:=prog) (t:=3) (k:=k) (by omega) (k:Int) (t8 ax7).choose_spec.1 (by rw[←C7 (t8 ax7).choose_spec.1];exact aR4);obtain⟨w10,t3,st3⟩:=st2.wait (P:=prog) (t:=4) (k:=k) (by omega) true (t8 S7).choose_spec.1 (by rw[←C7 (t8 S7).choose_spec.1];exact aD5);have in1:=st.rows.outer.inS (k:=k) (by omega);have in2:=st.q.inS (k:=k) (by omega);have in3:=st.wts.inS (k:=k) (by omega);simp only[I1,zVB,p9,simprocAttr,h31,e11,e12,e13,e3,q1,q2,m4,in1,in2,in3,t1,t2,t3,q6];refine⟨k+1,by omega,by trivial,by omega,_,_,_,_,st3,by simp[li],by simp[lw],by simp[lt],fun j hj=>?_⟩;by_cases hjk:j=k
   ·subst hjk;exact⟨eB3 (by omega),eB3 (by omega),eB3 (by omega)⟩
   ·rw[eD3 (fun e=>hjk e.symm),eD3 (fun e=>hjk e.symm),eD3 (fun e=>hjk e.symm)];exact hdone j (by omega)
  ·have hge:k=nx.length:=by simp at hc;omega
   subst hge;have hins:ins=List.replicate nx.length (List.replicate m 0#64):=by
    apply eC3 (by simp[li]);intro j h1 h2;have:=(hdone j (by omega)).1;rw[ev2 h1]at this;simpa using this
   have hwts:waits=List.replicate nx.length true:=by
    apply eC3 (by simp[lw]);intro j h1 h2;have:=(hdone j (by omega)).2.1;rw[ev2 h1]at this;simpa using this
   have htd:todo=(List.range nx.length).map fun(i:Nat)=>(i:Int):=by
    apply eC3 (by simp[lt]);intro j h1 h2;have:=(hdone j (by omega)).2.2;rw[ev2 h1]at this;simpa using this
   have si0:SI nx gl kl most ins todo waits 0:=by
    refine SI.start (by rw[hins,←hmm,←hm6]) (fun a=>?_) ?_ lt hwts
    ·rw[htd,ey0,C5];constructor
     ·rintro⟨i,hi,rfl⟩;have:=ez1.1 hi;omega
     ·rintro⟨h1,h2⟩;exact⟨a.toNat,ez1.2 (by omega),by omega⟩
    ·rw[htd];refine List.Pairwise.map _ (fun a b h=>?_) (List.nodup_range (n:=nx.length));omega
   simp only[I1,simprocAttr];clear hdone hins hwts htd li lw lt st0;have q3:∀T:Nat,T≤100000000→B7 prog .add 3 (.int .i64 (T:Int)) (.int .i64 1)=some (.int .i64 ((T+1:Nat):Int)):=fun T hT=>by
    simp only[B7,E7,eB2];rw[B1 T (by omega)]
   refine n8 [0,1,2,3,8,9,10,11,13] (σ:=List (List W)×List Int) (fun s f w'=>∃waits T,ST w w' rb gb ui uw (f 12) us s.1 waits s.2 (T:Nat)∧SI nx gl kl most s.1 s.2 waits T) (fun s=>cX7 nx.length most s.1 s.2) (ins,todo) (by decide +kernel) ?_ ?_
   ·simp only[p6,simprocAttr];simp only[e12];exact⟨waits,0,st,si0⟩
   ·clear st si0 ins waits todo;rintro⟨ins,todo⟩ f w7 hk ⟨waits,T,st,si⟩;simp only[ev4,p6,simprocAttr]at hk;simp only[e0,e1,e2,e3,e8,e9,e10,e11,e13]at hk;obtain⟨i0,i1,i2,i3,i8,i9,i10,i11,i13,_⟩:=hk;simp only at st si;generalize hvt:f 12=vt at *;have Sq:=st.q.isS;have nq:=st.q.vlen;have hpl:=aP5 most ins;rw[si.ilen]at hpl;have hnm:nx.length*most≤25000000:=ew0 (Nat.mul_le_mul hn5 hm5) (by decide);have hfew:=si.few;simp only[I1,O4,B7,E7,T6,simprocAttr,hvt,Sq,nq];refine i5 (fun hc=>?_) (fun hc=>?_)
    ·have hpos:0<todo.length:=by simpa using hc
     obtain⟨a,rest,rfl⟩:∃a rest,todo=a::rest:=by
      cases todo with
      | nil=>simp at hpos
      | cons a rest=>exact⟨a,rest,rfl⟩
     have hka:H3 nx.length a=true:=si.ok a (by simp);have hka':=C5.1 hka;have d0:decide (0≤a)=true:=by simpa using hka'.1
     have inq:=st.q.inS (k:=0) (by simp);have ldq:=st.q.head (P:=prog) (t:=3) G3;have hvc:=st.q.vcap;have d1:decide ((1:Int)≤(((a::rest).length:Nat):Int))=true:=by simp;omega
     have d2:decide ((((a::rest).length:Nat):Int)≤(vcap vt:Int))=true:=by
      have h9:=hvc;simp only[ex7]at h9 ⊢;simp;omega
     have st1:=st.tail;have hlr:(a::rest).length=rest.length+1:=rfl;rw[hlr]at nq d1 d2;obtain⟨w8,t2,st2⟩:=st1.wait (P:=prog) (t:=4) (k:=a.toNat) (by rw[si.wlen];omega) false (t8 S7).choose_spec.1 (by rw[←C7 (t8 S7).choose_spec.1];exact aD5);have inw:=st.wts.inS (k:=a.toNat) (by rw[si.wlen];omega);have ldT:=E8 (P:=prog) (t:=3) (i:=1) (u:=.int .i64 (T:Int)) st2.cg rfl G3;have hTle:T≤100000000:=by simp only[ex7]at hfew;omega
     have qT:=q3 T hTle;obtain⟨w9,t3,st3⟩:=st2.times (P:=prog) (t:=3) ((T+1:Nat):Int) (t8 ax7).choose_spec.1 (by rw[←C7 (t8 ax7).choose_spec.1];exact aR4);obtain⟨ug,w10,m4,o4,x10,f4,s4⟩:=mk (P:=prog) (w:=w9) (h:=d7 w9) df6 ax6 (α:=W) (y:=0#64) rfl (n:=m) (by omega) (by omega) (i4 _);have st4:=st3.more x10;have Sg:=o4.isS;have ng:=o4.vlen;rw[eA1]at ng;generalize hrl:rest.length+1=rl at *;generalize hvt2:reS vt 1 rl 1=vt2 at *;generalize hT1:((T+1:Nat):Int)=T1 at *;simp only[I1,zVB,p9,F8,T6,simprocAttr,hvt,Sq,nq,inq,ldq,d1,d2,hvt2,i13,inw,d0,t2,i9,ldT,qT,t3,i3,q1,q2,m4,Sg,ng];have hal:a.toNat<nx.length:=by omega
     have hgla:gl[a.toNat]?=some (C1 gl a):=(aj3 (nx:=gl) (by rw[hgn];exact hka)).1;have hkla:kl[a.toNat]?=some (C1 kl a):=(aj3 (nx:=kl) (by rw[hkn];exact hka)).1;obtain⟨g,hg1,hg2,hg3⟩:=hsg2 _ _ hgla;obtain⟨kk,hk1,hk2,hk3⟩:=hsk2 _ _ hkla;rw[hm6,hmm]at hg2 hk2;obtain⟨xg,hxg,hcg'⟩:=hvg.row hg1;obtain⟨xk,hxk,hck'⟩:=hvk.row hk1;have hra:=af8 si.ilen hka;have hrl2:(wAt ins a).length=m:=by rw[←hmm,←hm6];exact si.rlen _ (ex2 hra)
     have lus:us.length=nx.length:=by rw[st.rows.len,si.ilen]
     have hua:us[a.toNat]?=some (us[a.toNat]'(by omega)):=ev2 _;generalize us[a.toNat]'(by omega)=ua at hua;have ing:=hvg.inS (k:=a.toNat) (by rw[hsg1,hgn];exact hal);have ink:=hvk.inS (k:=a.toNat) (by rw[hsk1,hkn];exact hal);have inr:=st.rows.outer.inS (k:=a.toNat) (by omega);have hgoes:=bS4 g (wAt ins a) kk hg2 hrl2 hk2;refine n8 [0,1,2,3,8,9,10,11,12,13,15,16,68,69] (σ:=Nat) (fun i f w'=>f 70 = .int .i64 i∧i≤m∧A9 (d7 w9) w' 223 ug (X4 g (wAt ins a) kk m i)∧o6 w9 w') (fun i=>m-i) 0 (by decide +kernel) ?_ ?_
     ·simp only[p6,simprocAttr];exact⟨by trivial,ew4 _,by rw[bH2];exact o4,x10⟩
     ·rintro i f w11 hk ⟨h70,him,hog,hx11⟩;simp only[ev4,p6,simprocAttr]at hk;simp only[i0,i1,i2,i3,i8,i9,i10,i11,i13]at hk;obtain⟨j0,j1,j2,j3,j8,j9,j10,j11,j12,j13,j15,j16,j68,j69,_⟩:=hk;simp only[I1,B7,E7,simprocAttr,h70,j69];refine i5 (fun hc=>?_) (fun hc=>?_)
      ·have hit:i<m:=by simpa using hc
       have q6:B7 prog .add 3 (.int .i64 i) (.int .i64 1)=some (.int .i64 ((i+1:Nat):Int)):=by
        simp only[B7,E7,eB2];rw[B1 i (by omega)]
       have hd:=o6.drew w11;have st11:=(st3.more hx11).more hd;have hld1:=G4 (P:=prog) (t:=276) hcg' (b7 st11.ext) aM0;have hld2:=G4 (P:=prog) (t:=276) hck' (b7 st11.ext) aM0;have hld3:=aG2 (P:=prog) (t:=276) st11.rows hua aM0;have hrow:=st11.rows.row _ _ _ hua hra;have v1:=M8 (P:=prog) (t:=223) hxg (b7 st11.ext) (aW5 (show i<g.length by omega)) af1;have v2:=M8 (P:=prog) (t:=223) hxk (b7 st11.ext) (aW5 (show i<kk.length by omega)) af1;have v3:=D4 (P:=prog) (t:=223) hrow (aW5 (show i<(wAt ins a).length by omega)) af1;have y1:=hxg.inS (k:=i) (by omega);have y2:=hxk.inS (k:=i) (by omega);have y3:=hrow.inS (k:=i) (by omega);have hgw:goW g (wAt ins a) kk i=g.getD i 0#64 ||| ((wAt ins a).getD i 0#64 &&& ~~~(kk.getD i 0#64)):=rfl;have hsu:=bH1 g (wAt ins a) kk hit;rw[hgw]at hsu;simp only[G7.val]at v1 v2 v3;generalize g.getD i 0#64=gi at *;generalize(wAt ins a).getD i 0#64=ri at *;generalize kk.getD i 0#64=ki at *;have b1:=br0 (P:=prog) (t:=223) ri ki;have b2:=cs1 (P:=prog) (t:=223) gi (ri &&& ~~~ki);have ingi:=hog.inS (k:=i) (by rw[am3];exact hit);obtain⟨w12,t4,o5,m5,_⟩:=D9 (P:=prog) (t:=223) (hog.ext hd) rfl (k:=i) (by rw[am3];exact hit) (x:=.int .u64 (((gi ||| (ri &&& ~~~ki)).toNat:Nat):Int)) (y:=(gi ||| (ri &&& ~~~ki))) rfl rfl (t8 ax6).choose_spec.1 (by rw[←C7 (t8 ax6).choose_spec.1];exact bD1);rw[hsu]at o5;simp only[I1,simprocAttr,h70];refine C2 (fun w3=>w3=w11.drew) 25 (A8 [0,1,2,3,4,5,6,7,8,9,10,11,12,13,14,15,16,17,18,19,20,21,22,23,24]) (by decide +kernel) rfl ?_;simp only[D5,A8,I1,zVB,p9,simprocAttr,j16,j1,j15,d0,ing];refine⟨xg,fun w3 e=>by subst e;exact hld1,?_⟩;simp only[D5,I1,zVB,p9,simprocAttr,y1];refine⟨.int .u64 (gi.toNat:Nat),fun w3 e=>by subst e;exact v1,?_⟩;simp only[D5,I1,zVB,p9,simprocAttr,j11,j15,d0,inr];refine⟨ua.v,fun w3 e=>by subst e;exact hld3,?_⟩;simp only[D5,I1,zVB,p9,simprocAttr,y3];refine⟨.int .u64 (ri.toNat:Nat),fun w3 e=>by subst e;exact v3,?_⟩;simp only[D5,I1,zVB,p9,simprocAttr,j2,j15,d0,ink];refine⟨xk,fun w3 e=>by subst e;exact hld2,?_⟩;simp only[D5,I1,zVB,p9,simprocAttr,y2];refine⟨.int .u64 (ki.toNat:Nat),fun w3 e=>by subst e;exact v2,?_⟩;simp only[D5,I1,zVB,p9,simprocAttr,b1,b2,ingi,t4,h70,q6];exact⟨i+1,by omega,by trivial,by omega,o5,(hog.ext hd).ext2 (hx11.trans hd) m5⟩
      ·have hge2:i=m:=by simp at hc;omega
       subst hge2;clear hua ing ink inr hxg hxk hcg' hck';have hgB:∀f,N7 (X4 g (wAt ins a) kk i i) f=true↔bD9 gl kl ins a f:=by
        intro f;rw[hgoes f,eH1,ex5,Bool.not_eq_true',hg3 f];have h8:=hk3 f;unfold bD9 ag5;constructor
        ·rintro(h|⟨h9,h10⟩)
         ·exact .inl h
         ·exact .inr ⟨h9,fun h11=>by rw[h8.2 h11]at h10;cases h10⟩
        ·rintro(h|⟨h9,h10⟩)
         ·exact .inl h
         ·refine .inr ⟨h9,?_⟩;cases e:N7 kk f
          ·rfl
          ·exact absurd (h8.1 e) h10
       have hgs':∀f,N7 (X4 g (wAt ins a) kk i i) f=true→f<most∧∀b∈C1 nx a,ar3 nx gl kl b f:=by
        intro f hf;rcases(hgB f).1 hf with h|⟨h1,h2⟩
        ·refine⟨?_,fun b hb=>.gen hb h⟩;have:=hfg _ (an3 (nx:=gl) (by rw[hgn];exact hka)) _ h;omega
        ·exact⟨si.low a f hka h1,fun b hb=>.step hb (si.sound a f hka h1) h2⟩
       have hglen:(X4 g (wAt ins a) kk i i).length=most / 64+1:=by rw[am3,hm6,hmm]
       have sj0:=si.pop hgB;have st11:=st3.more hx11;have hog0:=hog.down (b7 st3.ext);have hgr11:=hgr.mono (b7 st11.ext);have hfo:∀b,A3 ug b→w9.heap.size≤b:=fun b hb=>f4 b hb;generalize X4 g (wAt ins a) kk i i=gw at *;simp only[I1,simprocAttr,j0,j15];refine y5 ei4 (cp5 pg nx pv a w11 hgr11 (by rw[hgg.pv.len]) (fun x hx=>ew0 (hgood.row_len hx) (by omega))) ?_;rintro un w12 ⟨hon,hx12⟩;have Sn:=hon.isS;have nn:=hon.vlen;have st12:=st11.more hx12;have hog12:=hog0.ext hx12;have hon0:=hon.down (b7 st11.ext);have hfn:∀b,A3 un b→w11.heap.size≤b:=fun b hb=>st12.ge' (hon.free hb);have hrowlen:(C1 nx a).length≤nx.length:=hgood.rowlen a;simp only[I1,O4,T6,simprocAttr,Sn,nn];refine n8 [0,1,2,3,8,9,10,11,13,15,16,102,103] (σ:=Nat) (fun k f w'=>f 104 = .int .i64 k∧k≤(C1 nx a).length∧∃ins' todo' waits',ST w w' rb gb ui uw (f 12) us ins' waits' todo' T1∧SJ nx gl kl most a gw k ins' todo' waits' (T+1)∧todo'.length+aC7 most ins≤rest.length+aC7 most ins'∧o9 (fun b=>K5 ui us b∨A3 uw b∨A3 vt2 b∨w12.heap.size≤b) w12 w'∧∀b,A3 (f 12) b→A3 vt2 b∨w12.heap.size≤b) (fun k=>(C1 nx a).length-k) 0 (by decide +kernel) ?_ ?_
       ·simp only[p6,simprocAttr];simp only[j12];exact⟨by trivial,ew4 _,ins,rest,_,st12,sj0,ew8 _,o9.refl _,fun b hb=>.inl hb⟩
       ·rintro k f w13 hk ⟨h104,hkl,ins',todo',waits',st',sj,hpot,hmod,hq12⟩;simp only[ev4,p6,simprocAttr]at hk;simp only[j0,j1,j2,j3,j8,j9,j10,j11,j13,j15,j16]at hk;obtain⟨k0,k1,k2,k3,k8,k9,k10,k11,k13,k15,k16,k102,k103,_⟩:=hk;generalize hvk12:f 12=vk12 at *;simp only[I1,B7,E7,simprocAttr,h104,k103];refine i5 (fun hc=>?_) (fun hc=>?_)
        ·have hkt:k<(C1 nx a).length:=by simpa using hc
         have hNg:∀b,A3 ug b→¬(K5 ui us b∨A3 uw b∨A3 vt2 b∨w12.heap.size≤b):=fun b hb hh=>by
          have h1:=hfo b hb;rcases hh with hh|hh|hh|hh
          ·have:=st3.rows.lt hh;omega
          ·have:=st3.wts.lt hh;omega
          ·have:=st3.q.lt hh;omega
          ·have:=hog12.lt hb;omega
         have hNn:∀b,A3 un b→¬(K5 ui us b∨A3 uw b∨A3 vt2 b∨w12.heap.size≤b):=fun b hb hh=>by
          have h1:=hfn b hb;have h2:=hx11.size;rcases hh with hh|hh|hh|hh
          ·have:=st3.rows.lt hh;omega
          ·have:=st3.wts.lt hh;omega
          ·have:=st3.q.lt hh;omega
          ·have:=hon0.lt hb;omega
         have hog13:=hog12.mod hmod hNg;have hon13:=hon0.mod hmod hNn;have hrn:=hon13.rw_ (b7 st'.ext);have ik:=hrn.inS hkt;have ldk:=M8 (P:=prog) (t:=3) hrn (i4 _) (ev2 hkt) G3;simp only[G7.val]at ldk;have hbat:(C1 nx a)[k]?=some (C1 nx a)[k]:=ev2 hkt;have hbok:=(hgood.row a).2 _ (ew2 hkt);generalize(C1 nx a)[k]=b at ldk hbat hbok;have hbok':=C5.1 hbok;have db:decide (0≤b)=true:=by simpa using hbok'.1
         have hbl:b.toNat<nx.length:=by omega
         have hub:us[b.toNat]?=some (us[b.toNat]'(by omega)):=ev2 _;generalize us[b.toNat]'(by omega)=ub at hub;have inb:=st'.rows.outer.inS (k:=b.toNat) (by omega);have ldb:=aG2 (P:=prog) (t:=276) st'.rows hub aM0;have hrb':=af8 sj.ilen hbok;have hrow:=st'.rows.row _ _ _ hub hrb';have hrlen:(wAt ins' b).length=gw.length:=by rw[hglen];exact sj.rlen _ (ex2 hrb')
         have hle0:B4 (d7 w) (aH9 w13 ub.v):=fun x o e=>by
          have hn:¬A3 ub.v x:=fun hb2=>by rw[hrow.free hb2]at e;cases e
          rw[aE9 hn];exact b7 st'.ext x o e
         have hrowB:=hrow.rebase (b7 st'.ext);have hdj:∀x,A3 ug x→¬A3 ub.v x:=fun x hx hx2=>hNg x hx (.inl (.inr ⟨ub,ex2 hub,hx2⟩));have hRg:=hog13.beside (v:=ub.v) hle0 hdj;have q6:B7 prog .add 3 (.int .i64 k) (.int .i64 1)=some (.int .i64 ((k+1:Nat):Int)):=by
          simp only[B7,E7,eB2];rw[B1 k (by omega)]
         simp only[I1,O4,p9,simprocAttr,h104,k102,k11,k16,ik,ldk,db,inb,ldb];refine y5 ei5 (cy1 (aH9 w13 ub.v) ub.v ug (wAt ins' b) gw w13 hrowB (cv8 w13 ub.v) hRg hrlen (by rw[hrlen,hglen];omega)) ?_;rintro rj w14 ⟨hrj,ho14,hm14⟩;have ho14':=ho14.down hle0;have st14:=st'.row hub hm14 ho14';have hN14:o9 (fun b=>K5 ui us b∨A3 uw b∨A3 vt2 b∨w12.heap.size≤b) w12 w14:=hmod.trans (hm14.weaken fun x _ hx=>.inl (.inr ⟨ub,ex2 hub,hx⟩));obtain⟨hp1,hp2⟩:=sj.pot hglen hgs' hbok;have inwb:=st14.wts.inS (k:=b.toNat) (by rw[sj.wlen];exact hbl);have hwb:=M0 (l:=waits') (b:=b) (by rw[sj.wlen];exact hbok);have hwat:waits'[b.toNat]?=some (B2 waits' b):=by
          rw[hwb.2];simp[List.getD,hwb.1]
         have ldw:=D4 (P:=prog) (t:=4) st14.wts hwat ao9;simp only[G7.val]at ldw;generalize hmo:ad7 (wAt ins' b) gw=mo at *;generalize hwbb:B2 waits' b=wb at *;subst hrj;cases mo
         ·have sj':=sj.old hgood hglen hgs' hbat hbok (.inl hmo);simp only[I1,simprocAttr,h104,q6];exact⟨k+1,by omega,by trivial,by omega,_,_,_,by simpa only[hvk12]using st14,sj',by omega,hN14,by simpa only[hvk12]using hq12⟩
         ·cases wb
          ·have sj':=sj.new hgood hglen hgs' hbat hbok hmo hwbb;obtain⟨w15,t5,st15,m15⟩:=st14.wait2 (P:=prog) (t:=4) (k:=b.toNat) (by rw[sj.wlen];exact hbl) true (t8 S7).choose_spec.1 (by rw[←C7 (t8 S7).choose_spec.1];exact aD5);have htl:todo'.length+1≤100000000:=by
            have:=sj.few;have h8:=aP5 most ins';rw[sj.ilen]at h8;omega
           obtain⟨p1,v',w16,p2,st16,m16,mv16⟩:=st15.push2 (P:=prog) (t:=118) (e:=118) ad0 b (by omega) (by omega);have hN16:o9 (fun b=>K5 ui us b∨A3 uw b∨A3 vt2 b∨w12.heap.size≤b) w12 w16:=(hN14.trans (m15.weaken fun x _ hx=>.inr (.inl hx))).trans (m16.weaken fun x _ hx=>by
            rcases hq12 x hx with h|h
            ·exact .inr (.inr (.inl h))
            ·exact .inr (.inr (.inr h)))
           have hsz15:=(hN14.trans (m15.weaken fun x _ hx=>.inr (.inl hx))).size;have hq16:∀x,A3 v' x→A3 vt2 x∨w12.heap.size≤x:=fun x hx=>by
            rcases mv16 x hx with h|h
            ·exact hq12 x h
            ·exact .inr (by omega)
           simp only[I1,zVB,unV,p9,simprocAttr,h104,k13,db,inwb,ldw,q6,t5,hvk12,p1,p2];exact⟨k+1,by omega,by trivial,by omega,_,_,_,st16,sj',by simp only[ev5,ex7,eB7];have:=hp2 rfl;omega,hN16,hq16⟩
          ·have sj':=sj.old hgood hglen hgs' hbat hbok (.inr hwbb);simp only[I1,zVB,unV,p9,simprocAttr,h104,k13,db,inwb,ldw,q6];exact⟨k+1,by omega,by trivial,by omega,_,_,_,by simpa only[hvk12]using st14,sj',by omega,hN14,by simpa only[hvk12]using hq12⟩
        ·have hge3:k=(C1 nx a).length:=by simp at hc;omega
         subst hge3;have si':=sj.fin rfl;simp only[I1,simprocAttr];have hpl':=aP5 most ins';rw[si'.ilen]at hpl';exact⟨(ins',todo'),by simp only[cX7,ex7];omega,waits',T+1,by rw[hT1];simpa only[hvk12]using st',si'⟩
    ·have hnil:todo=[]:=by
      cases todo with
      | nil=>rfl
      | cons x rest=>simp at hc
     subst hnil;obtain⟨hfin,hT1,hT2⟩:=si.fin hgood;have Si:=st.rows.outer.isS;have lus:us.length=nx.length:=by rw[st.rows.len,si.ilen]
     have ni:vlen ui=nx.length:=by rw[st.rows.outer.vlen,lus]
     have hgb0:rb<w7.heap.size:=st.lr;have hgb1:gb<w7.heap.size:=st.lg;have hRl:∀b,K5 ui us b→b<w7.heap.size:=fun b hb=>st.rows.lt hb;have hrows7:=st.rows;have hd1:∀b,K5 ui us b→b≠gb∧b≠rb:=fun b hb=>(st.d1 b hb).2.2;have hd4:=st.d4;have hfg':=st.fg;have hfr':=st.frb;simp only[I1,O4,T6,simprocAttr,i11,Si,ni];refine n8 [0,1,2,3,8,9,10,11,129,130] (σ:=Nat) (fun k f w'=>f 131 = .int .i64 k∧k≤nx.length∧(∃vin,w'.heap[gb]?=some (.cells #[vin,.int .i64 (T:Nat)] 190 (0,0))∧A9 (B5 w' (fun b=>A3 vin b∨b<w7.heap.size)) w' 118 vin ((ins.take k).map fun r=>Y5 r most)∧∀b,A3 vin b→w7.heap.size≤b) ∧
      w'.heap[rb]?=some (.cells #[.slice none 0 0,.int .i64 0] 190 (0,0))∧J9 (d7 w) w' 276 223 ui us ins∧o6 w w'∧w7.heap.size≤w'.heap.size) (fun k=>nx.length-k) 0 (by decide +kernel) ?_ ?_
     ·simp only[p6,simprocAttr];exact⟨by trivial,ew4 _,⟨_,st.cg,A9.nil _ _ _,fun b hb=>absurd hb D0⟩,st.cr,hrows7,st.ext,ew8 _⟩
     ·rintro k f w8 hk ⟨h131,hkl,⟨vin,cg,hov,hfv⟩,cr,hrows,hx,hsz⟩;simp only[ev4,p6,simprocAttr]at hk;simp only[i0,i1,i2,i3,i8,i9,i10,i11]at hk;obtain⟨j0,j1,j2,j3,j8,j9,j10,j11,j129,j130,_⟩:=hk;simp only[I1,B7,E7,simprocAttr,h131,j130];refine i5 (fun hc=>?_) (fun hc=>?_)
      ·have hkt:k<nx.length:=by simpa using hc
       have q6:B7 prog .add 3 (.int .i64 k) (.int .i64 1)=some (.int .i64 ((k+1:Nat):Int)):=by
        simp only[B7,E7,eB2];rw[B1 k (by omega)]
       have hua:us[k]?=some (us[k]'(by omega)):=ev2 _;generalize us[k]'(by omega)=ua at hua;have hra:ins[k]?=some (ins[k]'(by rw[si.ilen];exact hkt)):=ev2 _;have htk:(ins.take (k+1)).map (fun r=>Y5 r most)=(ins.take k).map (fun r=>Y5 r most)++[Y5 (ins[k]'(by rw[si.ilen];exact hkt)) most]:=by
        rw[ew1 (by rw[si.ilen];exact hkt),ey5];rfl
       have hrl:=si.rlen _ (ex2 hra);generalize ins[k]'(by rw[si.ilen];exact hkt)=r at hra htk hrl;have hd:=o6.drew w8;have cgd:=(hd.block gb (ev9.1 cg).1 id).trans cg;have crd:=(hd.block rb (ev9.1 cr).1 id).trans cr;have hrowsd:=hrows.ext hd;have hxd:=hx.trans hd;have ink:=hrows.outer.inS (k:=k) (by omega);have gbl:=(ev9.1 cgd).1;have rbl:=(ev9.1 crd).1;have hRrow:=(hrowsd.row _ _ _ hua hra).rw_ (b7 hxd);have hovd:=hov.noMod hd (fun b h=>h.elim) (fun b _ h=>h) (N':=fun b=>A3 vin b∨b<w7.heap.size) (fun b h=>.inl h) (fun b h=>.inl h);generalize hwd:w8.drew=wd at *;have hszd:w7.heap.size≤wd.heap.size:=ew0 hsz hd.size;simp only[I1,simprocAttr,h131];refine C2 (fun w2=>o6 wd w2) 9 (A8 [0,1,2,3,4,5,6,7,8]) (by decide +kernel) (by rw[hwd];exact o9.refl _) ?_;rw[hwd];simp only[D5,A8,I1,O4,simprocAttr,j9];refine⟨vin,fun w2 e=>E8 (i:=0) ((e.block gb gbl id).trans cgd) rfl R1,?_⟩;simp only[D5,I1,O4,p9,simprocAttr,j11,ink];refine⟨ua.v,fun w2 e=>aG2 (hrowsd.ext e) hua aM0,?_⟩;simp only[D5,I1,simprocAttr,j3];refine y5 ei6 (cy9 ua.v r most wd hRrow (by omega) (fun f hf=>by rw[hrl];have:=Nat.div_le_div_right (c:=64) (Nat.le_of_lt hf);omega)) ?_;rintro ul w9 ⟨hol,hx9⟩;have Sl:=hol.isS;have hNb:∀b,A3 ul b→¬(A3 vin b∨b<w7.heap.size):=fun b hb hh=>by
        have h1:wd.heap.size≤b:=by
         have:=hol.free hb;exact eI6 fun hlt=>by simp[d7,hlt]at this
        rcases hh with hh|hh
        ·have:=hovd.lt hh;omega
        ·omega
       have hov9:=hovd.noMod hx9 (fun b h=>h.elim) (fun b _ h=>h) (N':=fun b=>A3 vin b∨b<w7.heap.size) (fun b h=>.inl h) (fun b h=>.inl h);have hRl9:=(hol.down (h:=B5 wd (fun b=>A3 vin b∨b<w7.heap.size)) (C0 _ _)).roNo (H1 hx9 (fun b h=>h.elim) (N':=fun b=>A3 vin b∨b<w7.heap.size) fun b h=>.inl h) hNb;obtain⟨p1,v',w10,p2,p3,p4,p5⟩:=push (P:=prog) (t:=155) (e:=155) bV6 rfl hov9 (x:=ul) (y:=Y5 r most) (by rw[D8 Sl];exact hRl9) (by simp;omega) (by simp;omega) (C0 _ _);rw[D8 Sl]at p1 p2;have hgv:¬A3 vin gb:=fun h=>by have:=hfv gb h;omega
       have hrv:¬A3 vin rb:=fun h=>by have:=hfv rb h;omega
       have cg9:=(hx9.block gb gbl id).trans cgd;have cr9:=(hx9.block rb rbl id).trans crd;have cg10:=(p4.block gb (ev9.1 cg9).1 hgv).trans cg9;have cr10:=(p4.block rb (ev9.1 cr9).1 hrv).trans cr9;have Sv:=p3.isS;obtain⟨w11,t6,cg11,m11⟩:=ah2 (P:=prog) (t:=155) (i:=0) (x:=v') cg10 (by simp) (D8 Sv) (V6 Sv) (t8 cI4).choose_spec.1 (by rw[←C7 (t8 cI4).choose_spec.1];exact cH9);have cr11:=(m11.block rb (ev9.1 cr10).1 (fun h=>hd4 h.symm)).trans cr10;have hfv':∀b,A3 v' b→w7.heap.size≤b:=fun b hb=>by
        rcases p5 b hb with h|h
        ·exact hfv b h
        ·have:=hx9.size;omega
       have hov11:A9 (B5 w11 (fun b=>A3 v' b∨b<w7.heap.size)) w11 118 v' ((ins.take k).map (fun r=>Y5 r most)++[Y5 r most]):=by
        have h1:A9 (B5 w10 (fun b=>A3 v' b∨b<w7.heap.size)) w10 118 v' ((ins.take k).map (fun r=>Y5 r most)++[Y5 r most]):=
         p3.reNo (H1 p4 (fun b h=>.inl h) fun b h=>by
          rcases h with h|h
          ·rcases p5 b h with h|h
           ·exact .inl (.inl h)
           ·exact .inr h
          ·exact .inl (.inr h)) fun b h=>.inl h
        exact h1.noMod m11 (fun b h=>.inr (by subst h;exact hgb1)) (fun b hb h=>by subst h;have:=hfv' b hb;omega) (fun b h=>.inl h) (fun b h=>.inl h)
       have hrows11:=((hrowsd.ext hx9).mod p4 (fun b hb hb2=>by have:=hRl b hb;have:=hfv b hb2;omega)).mod m11 (fun b hb h=>(hd1 b hb).1 h);have hx11:o6 w w11:=o9.ext_of (o9.ext_of (hxd.trans hx9) p4 fun b hb=>by have:=hfv b hb;have:=st.ext.size;omega) m11 fun b hb=>by subst hb;exact hfg'
       have hsz11:w7.heap.size≤w11.heap.size:=ew0 hszd (ew0 hx9.size (ew0 p4.size m11.size));simp only[D5,I1,simprocAttr,F7,p1];refine⟨hx9,hx9.trans (o6.alloc w9 _),?_⟩;simp only[I1,zVB,simprocAttr,p2,j9,t6,h131,q6];refine⟨k+1,by omega,by trivial,by omega,⟨v',?_,?_,hfv'⟩,cr11,hrows11,hx11,hsz11⟩
       ·simpa using cg11
       ·rw[htk];exact hov11
      ·have hge4:k=nx.length:=by simp at hc;omega
       subst hge4;rw[ez7 (by rw[si.ilen];exact ew8 _)]at hov;have hlda:=ab6 (P:=prog) cg bm2 bm9 bm5 (by rw[aa2];rfl);have Sv:=hov.isS;have hone:∀u∈(#[vin,Value.int .i64 (T:Nat)]:Array Value).toList,u.oneCell'=true:=by
        intro u hu;simp at hu;rcases hu with rfl|rfl
        ·exact V6 Sv
        ·rfl
       obtain⟨w9,t7,cr9,m9⟩:=ap1 (P:=prog) cr bn1 (by rw[aa2];rfl) (cs:=#[vin,.int .i64 (T:Nat)]) (by rw[aa2];rfl) hone;have hov9:=hov.noMod m9 (fun b h=>.inr (by subst h;exact hgb0)) (fun b hb h=>by subst h;have:=hfv b hb;omega) (N':=fun b=>A3 vin b∨b<w7.heap.size) (fun b h=>.inl h) (fun b h=>.inl h);have hR9:R (B5 w9 (fun b=>b<w.heap.size)) vin (ins.map fun r=>Y5 r most):=hov9.ro (fun b o e=>by
        by_cases h:b<w7.heap.size
        ·rw[H8 (.inr h)]at e;cases e
        ·by_cases h2:A3 vin b
         ·rw[H8 (.inl h2)]at e;cases e
         ·rw[D3 (fun hh=>hh.elim h2 h)]at e;rw[D3 (by have:=st.ext.size;omega)];exact e) fun b hb=>D3 (by have:=hfv b hb;have:=st.ext.size;omega)
       have hlda9:=ab6 (P:=prog) cr9 bm2 bm9 bm5 (by rw[aa2];rfl);have hx9:o6 w w9:=o9.ext_of hx m9 fun b hb=>by subst hb;exact hfr'
       simp only[I1,simprocAttr,j8,j9,hlda,t7];refine L6 results201 (ad:=⟨rb,0,none⟩) (by simp only[p6,↓reduceIte,Nat.reduceEqDiff];exact j8) hlda9 ?_;simp only[hrb]at hR9;refine⟨⟨vin,ins.map fun r=>Y5 r most,T,rfl,hR9,by rw[ew3,si.ilen],fun b hb=>⟨N7 (wAt ins b),?_,fun i=>hfin b i hb⟩,hT1,hT2⟩,hx9⟩;have h1:=af8 si.ilen hb;have hlen:(ins.map fun r=>Y5 r most).length=nx.length:=by rw[ew3,si.ilen]
       have h2:=(aj3 (nx:=ins.map fun r=>Y5 r most) (a:=b) (by rw[hlen];exact hb)).1;rw[ey8,h1]at h2;exact(ex1 h2).symm
theorem dd3:af6 prog 200=true:=by kernel_rfl
theorem eh1:af6 prog 201=true:=by kernel_rfl
structure cp7 (n:Int) (steps:List (Int×Int)) (gl kl:List (List Int)) (most:Int):Prop where
 n0:0≤n
 n5:n≤5000
 m0:0≤most
 m5:most≤5000
 gn:(gl.length:Int)=n
 kn:(kl.length:Int)=n
 st:∀s∈steps,aW3 n.toNat s
 gf:aN3 gl most.toNat
 kf:aN3 kl most.toNat
structure dC2 (nx gl kl:List (List Int)) (most:Nat) (sol:List (List Int)) (T:Nat):Prop where
 len:sol.length=nx.length
 row:∀b,H3 nx.length b=true→∃f:Nat→Bool,C1 sol b=((List.range most).filter f).map (fun(i:Nat)=>(i:Int))∧∀i,f i=true↔ar3 nx gl kl b i
 lo:nx.length≤T
 hi:T≤nx.length+nx.length*most
theorem aq7{P:Program}{fn:Func}{R:Value→World→Prop}{f:Fr}{w:World}{v:Value}{a t:Nat}{ty:TypeId}{ad:Addr}(h:fn.results=#[.cell a ty,.tmp t])(hf:f a = .pointer (some ad))(hl:(Instr.loadAt ty (.pointer (some ad))).run P w = .ok v w)(hR:R (.tuple #[v,f t]) w):bx8 P fn R .ret f w:=by
 refine⟨[v,f t],?_,hR⟩;rw[h];refine⟨?_,rfl,trivial⟩;show(do loadVar ty (←asAddr (f a)):Sem Value).run P w = .ok v w;rw[hf];exact hl
theorem ch7:B9 prog 190 []=some (.agg #[.slice none 0 0,.int .i64 0]):=by
 first
 | (simp[B9,cH3,J5,Instr.fill];done)
 | rfl
theorem cA1(n most:Int)(gl kl:Nat):
  (decide (n<0)=true∧n<0)∨(decide (n<0)=false∧decide (n>5000)=true∧n>5000) ∨
  (decide (n<0)=false∧decide (n>5000)=false∧decide (most<0)=true∧most<0)∨(decide (n<0)=false∧decide (n>5000)=false∧decide (most<0)=false∧decide (most>5000)=true∧most>5000) ∨
  (decide (n<0)=false∧decide (n>5000)=false∧decide (most<0)=false∧decide (most>5000)=false∧((gl:Int) != n)=true∧(gl:Int)≠n) ∨
  (decide (n<0)=false∧decide (n>5000)=false∧decide (most<0)=false∧decide (most>5000)=false∧((gl:Int) != n)=false∧((kl:Int) != n)=true∧(kl:Int)≠n) ∨
  (decide (n<0)=false∧decide (n>5000)=false∧decide (most<0)=false∧decide (most>5000)=false∧((gl:Int) != n)=false∧((kl:Int) != n)=false∧0≤n∧n≤5000∧0≤most∧most≤5000∧(gl:Int)=n∧(kl:Int)=n):=by
 by_cases h1:n<0
 ·exact .inl ⟨by simpa using h1,h1⟩
 ·have e1:decide (n<0)=false:=by simpa using h1
  by_cases h2:n>5000
  ·exact .inr (.inl ⟨e1,by simpa using h2,h2⟩)
  ·have e2:decide (n>5000)=false:=by simpa using h2
   by_cases h3:most<0
   ·exact .inr (.inr (.inl ⟨e1,e2,by simpa using h3,h3⟩))
   ·have e3:decide (most<0)=false:=by simpa using h3
    by_cases h4:most>5000
    ·exact .inr (.inr (.inr (.inl ⟨e1,e2,e3,by simpa using h4,h4⟩)))
    ·have e4:decide (most>5000)=false:=by simpa using h4
     by_cases h5:(gl:Int)=n
     ·have e5:((gl:Int) != n)=false:=by simpa using h5
      by_cases h6:(kl:Int)=n
      ·exact .inr (.inr (.inr (.inr (.inr (.inr ⟨e1,e2,e3,e4,e5,by simpa using h6,by omega,by omega,by omega,by omega,h5,h6⟩)))))
      ·exact .inr (.inr (.inr (.inr (.inr (.inl ⟨e1,e2,e3,e4,e5,by simpa using h6,h6⟩)))))
     ·exact .inr (.inr (.inr (.inr (.inl ⟨e1,e2,e3,e4,by simpa using h5,h5⟩))))
theorem df0(n most:Int)(v vg vk:Value)(steps:List (Int×Int))(gl kl:List (List Int))(w:World)(hv:R (d7 w) v steps)(hvg:R (d7 w) vg gl)(hvk:R (d7 w) vk kl)(hsl:steps.length≤1000000)
  (hgl:∀x∈gl,x.length≤1000000000) (hkl:∀x∈kl,x.length≤1000000000) :
  Calls prog 139 #[.int .i64 n,v,vg,vk,.int .i64 most] w fun e w'=>∃u,e = .returned u∧((∃vs ok,u = .tuple #[vs,.bool ok] ∧
   (ok=true→cp7 n steps gl kl most∧∃vi sol T,vs = .agg #[vi,.int .i64 (T:Nat)]∧R (B5 w' (fun b=>b<w.heap.size)) vi sol∧dC2 (ag6 n.toNat steps).1 gl kl most.toNat sol T) ∧
   (ok=false→¬cp7 n steps gl kl most∧vs = .agg #[.slice none 0 0,.int .i64 0]))∧o6 w w'):=by
 refine d9 (args:=[.int .i64 n,v,vg,vk,.int .i64 most]) hm func139 rfl (by kernel_rfl) (by show 5≤_;decide +kernel) ?_;have hal:=bq7;have hbs:=ch7;have hSg:=hvg.isS;have hng:=hvg.vlen;have hSk:=hvk.isS;have hnk:=hvk.vlen;have hS:=hv.isS;have hvn:=hv.vlen;have c1:(w.alloc (.cells #[.slice none 0 0,.int .i64 0] 190)).heap[w.heap.size]?=some (.cells #[.slice none 0 0,.int .i64 0] 190 (0,0)):=ez5 w _;have x1:=o6.alloc w (.cells #[.slice none 0 0,.int .i64 0] 190);generalize hw1:w.alloc (.cells #[.slice none 0 0,.int .i64 0] 190)=w1 at *;have hal1:=hal w;rw[hw1]at hal1;generalize hrb:w.heap.size=rb at c1 hal1;have hrl:rb<w1.heap.size:=(ev9.1 c1).1;have early:∀w2,o6 w w2→w2.heap[rb]?=some (.cells #[.slice none 0 0,.int .i64 0] 190 (0,0))→∃w3,(Instr.storeAt 190 (.pointer (some ⟨rb,0,none⟩)) (.agg #[.slice none 0 0,.int .i64 0])).run prog w2 = .ok () w3∧o6 w w3 ∧
   (Instr.loadAt 190 (.pointer (some ⟨rb,0,none⟩))).run prog w3 = .ok (.agg #[.slice none 0 0,.int .i64 0]) w3:=by
  intro w2 hx2 hc2;obtain⟨w3,t1,t2,t3⟩:=ap1 (P:=prog) hc2 bn1 (by rw[aa2];rfl) (cs:=#[.slice none 0 0,.int .i64 0]) (by rw[aa2];rfl) (by simp[Value.oneCell']);exact⟨w3,t1,o9.ext_of hx2 t3 fun b hb=>by subst hb;omega,ab6 (P:=prog) t2 bm2 bm9 bm5 (by rw[aa2];rfl)⟩
 obtain⟨w3,e1,e2,e3⟩:=early w1 x1 c1;rcases cA1 n most gl.length kl.length with⟨d1,hb⟩|⟨d1,d2,hb⟩|⟨d1,d2,d3,hb⟩|⟨d1,d2,d3,d4,hb⟩|⟨d1,d2,d3,d4,d5,hb⟩|⟨d1,d2,d3,d4,d5,d6,hb⟩|⟨d1,d2,d3,d4,d5,d6,hn0,hn5,hm0,hm5,hgn,hkn⟩
 ·simp only[I1,O4,B7,E7,simprocAttr,hal1,d1,hbs,e1];refine aq7 results139 (ad:=⟨rb,0,none⟩) (by simp only[p6,↓reduceIte,Nat.reduceEqDiff]) e3 ?_;simp only[p6,simprocAttr];exact⟨⟨_,false,rfl,(fun h=>(by cases h)),fun _=>⟨fun h=>by have:=h.n0;omega,rfl⟩⟩,e2⟩
 ·simp only[I1,O4,B7,E7,simprocAttr,hal1,d1,d2,hbs,e1];refine aq7 results139 (ad:=⟨rb,0,none⟩) (by simp only[p6,↓reduceIte,Nat.reduceEqDiff]) e3 ?_;simp only[p6,simprocAttr];exact⟨⟨_,false,rfl,(fun h=>(by cases h)),fun _=>⟨fun h=>by have:=h.n5;omega,rfl⟩⟩,e2⟩
 ·simp only[I1,O4,B7,E7,simprocAttr,hal1,d1,d2,d3,hbs,e1];refine aq7 results139 (ad:=⟨rb,0,none⟩) (by simp only[p6,↓reduceIte,Nat.reduceEqDiff]) e3 ?_;simp only[p6,simprocAttr];exact⟨⟨_,false,rfl,(fun h=>(by cases h)),fun _=>⟨fun h=>by have:=h.m0;omega,rfl⟩⟩,e2⟩
 ·simp only[I1,O4,B7,E7,simprocAttr,hal1,d1,d2,d3,d4,hbs,e1];refine aq7 results139 (ad:=⟨rb,0,none⟩) (by simp only[p6,↓reduceIte,Nat.reduceEqDiff]) e3 ?_;simp only[p6,simprocAttr];exact⟨⟨_,false,rfl,(fun h=>(by cases h)),fun _=>⟨fun h=>by have:=h.m5;omega,rfl⟩⟩,e2⟩
 ·simp only[I1,O4,B7,E7,T6,simprocAttr,hal1,hSg,hng,d1,d2,d3,d4,d5,hbs,e1];refine aq7 results139 (ad:=⟨rb,0,none⟩) (by simp only[p6,↓reduceIte,Nat.reduceEqDiff]) e3 ?_;simp only[p6,simprocAttr];exact⟨⟨_,false,rfl,(fun h=>(by cases h)),fun _=>⟨fun h=>hb h.gn,rfl⟩⟩,e2⟩
 ·simp only[I1,O4,B7,E7,T6,simprocAttr,hal1,hSg,hng,hSk,hnk,d1,d2,d3,d4,d5,d6,hbs,e1];refine aq7 results139 (ad:=⟨rb,0,none⟩) (by simp only[p6,↓reduceIte,Nat.reduceEqDiff]) e3 ?_;simp only[p6,simprocAttr];exact⟨⟨_,false,rfl,(fun h=>(by cases h)),fun _=>⟨fun h=>hb h.kn,rfl⟩⟩,e2⟩
 ·clear e1 e2 e3 w3;simp only[I1,O4,B7,E7,T6,simprocAttr,hal1,hSg,hng,hSk,hnk,d1,d2,d3,d4,d5,d6,hS,hvn];obtain⟨N,hN⟩:∃N:Nat,n=N:=⟨n.toNat,by omega⟩;obtain⟨M,hM⟩:∃M:Nat,most=M:=⟨most.toNat,by omega⟩;have hNt:n.toNat=N:=by omega
  have hMt:most.toNat=M:=by omega
  have hbad:∀e:Int×Int,bo1 n e=false↔aW3 N e:=fun e=>by rw[hN];exact bP9
  refine n8 [0,1,2,3,4,10,45,46] (σ:=Nat) (fun k f w'=>f 47 = .int .i64 k∧k≤steps.length∧(∀e∈steps.take k,aW3 N e)∧o6 w1 w') (fun k=>steps.length-k) 0 (by decide +kernel) ?_ ?_
  ·simp only[p6,simprocAttr];exact⟨by trivial,ew4 _,by simp,o9.refl _⟩
  ·rintro k f w2 hk ⟨h47,hkle,hdone,hx⟩;simp only[ev4,p6,simprocAttr]at hk;obtain⟨e0,e1,e2,e3,e4,e10,e45,e46,_⟩:=hk;simp only[I1,B7,E7,simprocAttr,h47,e46];refine i5 (fun hc=>?_) (fun hc=>?_)
   ·have hlt:k<steps.length:=by simpa using hc
    have hin:=hv.inS hlt;have hld:=ldP hv (b7 (x1.trans hx)) (ev2 hlt);have hmem:steps[k]∈steps:=ew2 hlt;have htk:steps.take (k+1)=steps.take k++[steps[k]]:=ew1 hlt;generalize steps[k]=e at hld hmem htk;obtain⟨x,y⟩:=e;simp only at hld;obtain⟨p1,p2⟩:=cY5 w2 x y;have q0:=cY3 w2 x y;have q1:=cY4 w2 x y;have hx3:=hx.trans (o6.alloc w2 (.cells #[.int .i64 x,.int .i64 y] 74));generalize w2.alloc (.cells #[.int .i64 x,.int .i64 y] 74)=w3 at *;obtain⟨w4,g1,g2,g3⟩:=early w3 (x1.trans hx3) ((hx3.block rb hrl id).trans c1);have hnb:∀{b:Bool},bo1 n (x,y)=true→¬cp7 n steps gl kl most:=fun hb h=>by
     have h2:=h.st (x,y) hmem;rw[hNt]at h2;have:=(hbad (x,y)).2 h2;rw[hb]at this;cases this
    rcases ch2 n x y with⟨r1,hb⟩|⟨r1,r2,hb⟩|⟨r1,r2,r3,hb⟩|⟨r1,r2,r3,r4,hb⟩|⟨r1,r2,r3,r4,hb⟩
    case' inl=>simp only[I1,O4,B7,E7,p9,simprocAttr,h47,e45,hin,hld,p1,p2,q0,r1,e10,hbs,g1]
    case' inr.inl=>simp only[I1,O4,B7,E7,p9,simprocAttr,h47,e45,e0,hin,hld,p1,p2,q0,r1,r2,e10,hbs,g1]
    case' inr.inr.inl=>simp only[I1,O4,B7,E7,p9,simprocAttr,h47,e45,e0,hin,hld,p1,p2,q0,q1,r1,r2,r3,e10,hbs,g1]
    case' inr.inr.inr.inl=>simp only[I1,O4,B7,E7,p9,simprocAttr,h47,e45,e0,hin,hld,p1,p2,q0,q1,r1,r2,r3,r4,e10,hbs,g1]
    case' inr.inr.inr.inr=>simp only[I1,O4,B7,E7,p9,simprocAttr,h47,e45,e0,hin,hld,p1,p2,q0,q1,r1,r2,r3,r4]
    case inr.inr.inr.inr=>
     refine⟨k+1,by omega,by rw[B1 k (by omega)],by omega,fun e he=>?_,hx3⟩;rw[htk,ew7,ey1]at he;rcases he with he|he
     ·exact hdone e he
     ·subst he;exact(hbad _).1 hb
    all_goals
     refine aq7 results139 (ad:=⟨rb,0,none⟩) (by simp only[p6,↓reduceIte,Nat.reduceEqDiff];exact e10) g3 ?_;simp only[p6,simprocAttr];exact⟨⟨_,false,rfl,(fun h=>(by cases h)),fun _=>⟨hnb (b:=true) hb,rfl⟩⟩,g2⟩
   ·have hge:k=steps.length:=by simp at hc;omega
    subst hge;rw[ew5]at hdone;have hx2:=x1.trans hx;have hvg2:R (d7 w2) vg gl:=z7.mono (b7 hx2) hvg;have hs1:=bL8 vg gl M w2 hvg2 (by omega) (by omega) hgl;rw[←hM]at hs1;simp only[I1,simprocAttr,e2,e4];refine y5 dd3 hs1 ?_;rintro r1 w3 ⟨⟨ub,okg,hr1,hg1,hg2⟩,hx3⟩;subst hr1;have hvk3:R (d7 w3) vk kl:=z7.mono (b7 (hx2.trans hx3)) hvk;have hs2:=bL8 vk kl M w3 hvk3 (by omega) (by omega) hkl;rw[←hM]at hs2;simp only[I1,simprocAttr,e3,e4];refine y5 dd3 hs2 ?_;rintro r2 w4 ⟨⟨uk,okk,hr2,hk1,hk2⟩,hx4⟩;subst hr2;have hx14:=(hx.trans hx3).trans hx4;have hx04:=x1.trans hx14;obtain⟨w5,g1,g2,g3⟩:=early w4 hx04 ((hx14.block rb hrl id).trans c1);cases okg
    ·simp only[I1,O4,unV,simprocAttr,e10,hbs,g1];refine aq7 results139 (ad:=⟨rb,0,none⟩) (by simp only[p6,↓reduceIte,Nat.reduceEqDiff];exact e10) g3 ?_;simp only[p6,simprocAttr];exact⟨⟨_,false,rfl,(fun h=>(by cases h)),fun _=>⟨fun h=>hg2 rfl (by have:=h.gf;rw[hMt]at this;exact this),rfl⟩⟩,g2⟩
    ·cases okk
     ·simp only[I1,O4,unV,simprocAttr,e10,hbs,g1];refine aq7 results139 (ad:=⟨rb,0,none⟩) (by simp only[p6,↓reduceIte,Nat.reduceEqDiff];exact e10) g3 ?_;simp only[p6,simprocAttr];exact⟨⟨_,false,rfl,(fun h=>(by cases h)),fun _=>⟨fun h=>hk2 rfl (by have:=h.kf;rw[hMt]at this;exact this),rfl⟩⟩,g2⟩
     ·clear g1 g2 g3 w5;obtain⟨hgf,gs,hRg,hSg'⟩:=hg1 rfl;obtain⟨hkf,ks,hRk,hSk'⟩:=hk1 rfl;have hnew:=cd4 N v steps w4 (by omega) (z7.mono (b7 hx04) hv) (by omega);rw[←hN]at hnew;simp only[I1,O4,unV,simprocAttr,e0,e1];refine y5 dc8 hnew ?_;rintro pg w5 ⟨⟨Mb,hgo⟩,hx5⟩;have hgg:=ae3 N steps;have hgr:=hgo.read (b7 hx5);have hok:cp7 n steps gl kl most:=⟨hn0,hn5,hm0,hm5,hgn,hkn,by rw[hNt];exact hdone,by rw[hMt];exact hgf,by rw[hMt];exact hkf⟩;rw[hNt,hMt];generalize ag6 N steps=G at *;obtain⟨nx,pv⟩:=G;simp only at hgr;have hnl:nx.length=N:=hgg.nx.len;have hgg':az5 nx.length (nx,pv):=by rw[hnl];exact hgg
      have hsol:=cn6 pg nx pv ub uk gs ks gl kl M w5 hgr hgg' (z7.mono (b7 (hx4.trans hx5)) hRg) (z7.mono (b7 hx5) hRk) hSg' hSk' (by omega) (by omega) hgf (by omega) (by omega);rw[←hM]at hsol;simp only[I1,simprocAttr,e4];refine y5 eh1 hsol ?_;rintro r3 w6 ⟨⟨vi,sol,T,hr3,hRs,hs1,hs2,hs3,hs4⟩,hx6⟩;subst hr3;have hx16:=(hx14.trans hx5).trans hx6;have Sv:=hRs.isS;have hone:∀u∈(#[vi,Value.int .i64 (T:Nat)]:Array Value).toList,u.oneCell'=true:=by
       intro u hu;simp at hu;rcases hu with rfl|rfl
       ·exact V6 Sv
       ·rfl
      obtain⟨w7,t1,t2,t3⟩:=ap1 (P:=prog) ((hx16.block rb hrl id).trans c1) bn1 (by rw[aa2];rfl) (cs:=#[vi,.int .i64 (T:Nat)]) (by rw[aa2];rfl) hone;have hlda:=ab6 (P:=prog) t2 bm2 bm9 bm5 (by rw[aa2];rfl);simp only[I1,simprocAttr,e10,t1];refine aq7 results139 (ad:=⟨rb,0,none⟩) (by simp only[p6,↓reduceIte,Nat.reduceEqDiff];exact e10) hlda ?_;simp only[p6,simprocAttr];refine⟨⟨_,true,rfl,fun _=>⟨hok,vi,sol,T,rfl,?_,⟨hs1,hs2,hs3,hs4⟩⟩,(fun h=>(by cases h))⟩,o9.ext_of (x1.trans hx16) t3 fun b hb=>by subst hb;omega⟩;have hrb5:rb<w5.heap.size:=eC1 hrl (hx14.trans hx5).size;refine z7.mono (H1 t3 (fun b hb=>by subst hb;exact hrb5) fun b hb=>.inl ?_) hRs;have:=(x1.trans (hx14.trans hx5)).size;omega
theorem ef0:af6 prog 139=true:=by kernel_rfl
theorem dF7(x:Int)(w:World){h:Hp}(hw:B4 h (d7 w)):∃v w',(Instr.buildSlice 118 1 #[(0,.int .i64 x)]).run prog w = .ok v w'∧A9 h w' 3 v [x]∧o6 w w'∧(∀b,A3 v b→w.heap.size≤b):=
 lit (P:=prog) (w:=w) (h:=h) (α:=Int) (xs:=[.int .i64 x]) (ys:=[x]) (parts:=#[(0,.int .i64 x)]) (n:=1) ad0 rfl (K9.2 rfl) (by simp[Value.cells]) rfl rfl (by simp) (by simp) hw
theorem dJ2(w:World){vi:Value}(T:Int)(h1:isS vi=true):
  (Instr.alloc 190 true (.tuple #[])).run prog w = .ok (.pointer (some ⟨w.heap.size,0,none⟩)) (w.alloc (.cells #[.slice none 0 0,.int .i64 0] 190)) ∧
  (Instr.storeAt 190 (.pointer (some ⟨w.heap.size,0,none⟩)) (.agg #[vi,.int .i64 T])).run prog (w.alloc (.cells #[.slice none 0 0,.int .i64 0] 190)) =
   .ok () (w.alloc (.cells #[vi,.int .i64 T] 190)):=
 aT9 (P:=prog) (T:=190) bn1 (by rw[aa2];rfl) (cs:=#[vi,.int .i64 T]) (by rw[aa2];rfl) (by
  intro u hu;simp only[ex3,eA6,eG5]at hu;rcases hu with rfl|rfl
  ·exact V6 h1
  ·rfl)
theorem cQ2(w:World){vi:Value}{T:Int}:
  (Instr.loadAt 155 (.pointer (some ⟨w.heap.size,0,none⟩))).run prog (w.alloc (.cells #[vi,.int .i64 T] 190)) = .ok vi (w.alloc (.cells #[vi,.int .i64 T] 190)):=
 E8 (T:=190) (cs:=#[vi,.int .i64 T]) (i:=0) (ez5 w _) rfl R1
theorem cv3{nx:List (List Int)}(hg:D7 nx.length nx):OkR nx:=fun a b hb=>(hg.row _).2 _ hb
theorem ci5(a:Addr)(p:Pg)(i:Nat)(v vat:Value)(at_:List Nat)(w:World)(ha:At (d7 w) a (p7 p))(hr:E4 p)(hw:C8 p≤1000000)(hi:i<p.procs.length)(hv:R (d7 w) v ((D6 (b9 p) i).pairs (D6 (b9 p) i).data))(hvat:R (d7 w) vat (at_.map fun(a:Nat)=>(a:Int)))(hnd:at_.Nodup)(hlt:∀A∈at_,(A:Int)<(D6 (b9 p) i).n):
  Calls prog 90 #[.pointer (some a),.int .i64 i,v,vat] w fun e w'=>∃u,e = .returned u∧((∃sol,R (B5 w' (fun b=>b<w.heap.size)) u sol∧(sol.length:Int)=(D6 (b9 p) i).n∧(∀c:Nat,(c:Int)<(D6 (b9 p) i).n→∃g:Nat→Bool,C1 sol c=((List.range at_.length).filter g).map (fun(f:Nat)=>(f:Int))∧∀f A,at_[f]?=some A→(g f=true↔aS9 ((p7 p).nx i) at_ A c=true)))∧o6 w w'):=by
 refine d9 (args:=[.pointer (some a),.int .i64 i,v,vat]) hm func90 rfl (by kernel_rfl) (by show 4≤_;decide +kernel) ?_;obtain⟨x,pt⟩:=M9 hr.may hw i hi;have hwy:=P7 pt;generalize x+A7 p.procs[i].body=y at pt hwy;have h200:=J3 hr.may;have hn:=hwy.n;have hlen:=pt.ok.len;have hle':=pt.ok.le;have hdl:=aN0 hr hw hi hwy;have hpr:=bf5 hr hw hi hwy;have hpl:((D6 (b9 p) i).pairs (D6 (b9 p) i).data).length≤1000000:=ew0 (Nat.le_of_eq (ew3 _)) hdl;clear hdl;have hnxe:(p7 p).nx (i:Int)=(ag6 (D6 (b9 p) i).n.toNat ((D6 (b9 p) i).pairs (D6 (b9 p) i).data)).1:=by
  unfold Bk.nx;rw[M1 hi]
 obtain⟨sh,vw,_,_,_,_,has,hvw,_,_,_,_,ldb,_⟩:=ha.book rfl;obtain⟨aw,hcw,haw⟩:=aw4 (hv:=hvw) (k:=i) (p:=⟨D6 (b9 p) i⟩) (by show((J1 p).map fun w=>(⟨w⟩:Ptr Wy))[i]?=_;rw[ey8,V2 hi];rfl);simp only at haw;have hinw:=hvw.inS (k:=i) (by show i<((J1 p).map fun w=>(⟨w⟩:Ptr Wy)).length;unfold J1;simpa using hi);obtain⟨_,_,_,_,_,_,ldw,_⟩:=haw.wy;rw[hnxe];generalize(D6 (b9 p) i).pairs (D6 (b9 p) i).data=steps at hv hpr hpl;generalize(D6 (b9 p) i).n=wn at hn hlt ldw hpr;obtain⟨M,rfl⟩:∃M:Nat,wn=(M:Int):=⟨wn.toNat,by omega⟩;simp only[ex8];have hltM:∀A∈at_,A<M:=fun A hA=>by have:=hlt A hA;omega
 have hml:at_.length≤M:=by
  have:=L3 (m:=List.range M) hnd fun A hA=>ez1.2 (hltM A hA);simpa using this
 have lb:=ldb w (i4 _);have hlw:=G4 (P:=prog) (t:=102) hcw (i4 _) aq9;have lw:=ldw w (i4 _);have hz:z7.enc (d7 w) (Value.slice none 0 0).cells.toList ([]:List Int):=aU2 _;have mkI:=fun(wa:World) (ha:o6 w wa)=>mk (P:=prog) (w:=wa) (h:=d7 w) (α:=List Int) bV6 S3 (y:=[]) hz (n:=M) (by omega) (by omega) (b7 ha);obtain⟨il,hil,hil1⟩:=aR2 (P:=prog) S3 aD4;simp only[m8,n9,p9,simprocAttr,lb,hinw,hlw,lw];refine ct4 [2,3,9] (fun w'=>o6 w w') 6 (.op 0 (.op 2 (.fork [1,3] (fun i=>if i=1 then(A8 [4,3,5])else(A8 [1,4,5])))))
  (fun f' w'=>A9 (d7 w) w' 118 (f' 10) (List.replicate M ([]:List Int))∧A9 (d7 w) w' 118 (f' 11) (List.replicate M ([]:List Int))∧(∀b,A3 (f' 10) b→¬A3 (f' 11) b)∧o6 w w') (by decide +kernel) (by decide +kernel) (o6.drew w) ?_ ?_
 ·simp only[D5,A8,m8,simprocAttr];obtain⟨va,wA,m1,o1,xA,f1,_⟩:=mkI w.drew (o6.drew w);have hxA:=(o6.drew w).trans xA;obtain⟨vb,wB,m2,o2,xB,f2,_⟩:=mkI wA hxA;have hdj:∀b,A3 va b→¬A3 vb b:=fun b h1 h2=>by have:=o1.lt h1;have:=f2 b h2;omega
  refine at4 (by decide +kernel) (fun i hi=>?_);simp only[ex3,eA6,eG5]at hi;rcases hi with rfl|rfl
  ·simp only[D5,m8,simprocAttr,m1,m2,F7];exact⟨hxA,hxA.trans xB,o1.ext xB,o2,hdj,hxA.trans xB⟩
  ·simp only[D5,m8,simprocAttr,m1,m2,F7];exact⟨hxA,hxA.trans xB,o2,o1.ext xB,fun b h1 h2=>hdj b h2 h1,hxA.trans xB⟩
 rintro f w1 hk ⟨hog,hok,hdj,hx1⟩;simp only[ev4,p6,simprocAttr]at hk;obtain⟨e2,e3,e9,_⟩:=hk;generalize h10:f 10=vg at hog hdj;generalize h11:f 11=vk at hok hdj;have hSt:=hvat.isS;have hnt:=hvat.vlen;rw[ew3]at hnt;simp only[D5,m8,n9,simprocAttr,e3,hSt,hnt];refine n8 [2,3,9,10,11,33] (σ:=Nat×Value) (fun s f w'=>f 34 = .int .i64 s.1∧f 12=s.2∧s.1≤at_.length∧A9 (d7 w1) w' 3 s.2 ((List.range s.1).map fun(f:Nat)=>(f:Int))∧o6 w1 w') (fun s=>at_.length-s.1) (0,.slice none 0 0) (by decide +kernel) ?_ ?_
 ·simp only[p6,simprocAttr];exact⟨by trivial,trivial,ew4 _,A9.nil _ _ _,o9.refl _⟩
 rintro⟨k,ua⟩ f2 w2 hk ⟨h34,h12,hkl,hoa,hx2⟩;simp only at h34 h12 hkl hoa;simp only[ev4,p6,simprocAttr]at hk;obtain⟨g2,g3,g9,g10,g11,g33,_⟩:=hk;rw[e2]at g2;rw[e3]at g3;rw[e9]at g9;rw[h10]at g10;rw[h11]at g11;simp only[m8,n9,simprocAttr,h34,g33];refine i5 (fun hc=>?_) (fun hc=>?_)
 ·have hltk:k<at_.length:=by simpa using hc
  obtain⟨p1,u3,w3,p2,p3,p4,p5⟩:=push (P:=prog) (t:=118) (e:=118) ad0 rfl hoa (x:=.int .i64 (k:Int)) (y:=(k:Int)) rfl (by rw[ew3,eA7];omega) (by rw[ew3,eA7];omega) (b7 hx2);simp only[Value.cells]at p1 p2;simp only[m8,n9,simprocAttr,h34,h12,p1,p2];refine⟨(k+1,u3),by simp only[];omega,by simp only[];rw[B1 k (by omega)],by trivial,by simp only[];omega,?_,hoa.ext2 hx2 p4⟩;simp only[];have e:(List.range (k+1)).map (fun(f:Nat)=>(f:Int))=(List.range k).map (fun(f:Nat)=>(f:Int))++[(k:Int)]:=by
   rw[eG0,ey5,List.map_singleton]
  rw[e];exact p3
 have hge:k=at_.length:=by simp at hc;omega
 subst hge;have hx02:=hx1.trans hx2;have hNge:∀b,(A3 vg b∨A3 vk b)→w.heap.size≤b∧b<w1.heap.size:=fun b h=>by
  rcases h with h|h
  ·exact⟨C9 (hog.free h),hog.lt h⟩
  ·exact⟨C9 (hok.free h),hok.lt h⟩
 have hb02:B4 (d7 w) (B5 w2 (fun b=>A3 vg b∨A3 vk b)):=aF0 hx02 fun b hb=>(hNge b hb).1;have hog2:=(hog.ext hx2).reNo (N:=fun b=>A3 vg b∨A3 vk b) hb02 fun b hb=>.inl hb;have hok2:=(hok.ext hx2).reNo (N:=fun b=>A3 vg b∨A3 vk b) hb02 fun b hb=>.inr hb;have hua:R (B5 w2 (fun b=>A3 vg b∨A3 vk b)) ua ((List.range at_.length).map fun(f:Nat)=>(f:Int)):=hoa.flatR fun b hb=>D3 fun h=>by
  have h1:=C9 (hoa.free hb);have:=(hNge b h).2;omega
 have hSa:=hua.isS;simp only[m8,n9,simprocAttr,g3,hSt,hnt];refine n8 [2,3,9,10,11,12,42,43] (σ:=Nat) (fun k f w'=>f 44 = .int .i64 k∧k≤at_.length∧A9 (B5 w' (fun b=>A3 vg b∨A3 vk b)) w' 118 vg (ab1 at_ (fun f=>[(f:Int)]) M k)∧A9 (B5 w' (fun b=>A3 vg b∨A3 vk b)) w' 118 vk (ab1 at_ (fun _=>(List.range at_.length).map fun(f:Nat)=>(f:Int)) M k)∧o9 (fun b=>A3 vg b∨A3 vk b) w2 w') (fun k=>at_.length-k) 0 (by decide +kernel) ?_ ?_
 ·simp only[p6,simprocAttr];exact⟨by trivial,ew4 _,hog2,hok2,o9.refl _⟩
 rintro k f4 w4 hk ⟨h44,hkl4,hog4,hok4,hm4⟩;simp only[ev4,p6,simprocAttr]at hk;obtain⟨j2,j3,j9,j10,j11,j12,j42,j43,_⟩:=hk;rw[g2]at j2;rw[g3]at j3;rw[g9]at j9;rw[g10]at j10;rw[g11]at j11;rw[h12]at j12;have hx04:o6 w w4:=o9.ext_of hx02 hm4 fun b hb=>(hNge b hb).1;have hm4l:B4 (B5 w2 (fun b=>A3 vg b∨A3 vk b)) (B5 w4 (fun b=>A3 vg b∨A3 vk b)):=H1 hm4 (fun _ h=>h) fun _ h=>.inl h;simp only[m8,n9,simprocAttr,h44,j43];refine i5 (fun hc2=>?_) (fun hc2=>?_)
 ·have hltk:k<at_.length:=by simpa using hc2
  have hin:=hvat.inS (k:=k) (by rw[ew3];exact hltk);have hld:=aH4 hvat (b7 hx04) (k:=k) (by rw[ew3];exact hltk);rw[eD4]at hld;have hAM:=hltM _ (ew2 hltk);have hgd:at_.getD k 0=at_[k]:=by rw[List.getD,ev2 hltk];rfl
  generalize at_[k]=A at hld hAM hgd;obtain⟨ul,w5,q1,q2,q3,q4⟩:=dF7 (k:Int) w4 (i4 _);have hl45:B4 (B5 w4 (fun b=>A3 vg b∨A3 vk b)) (B5 w5 (fun b=>A3 vg b∨A3 vk b)):=H1 q3 (fun _ h=>h.elim) fun _ h=>.inl h;have hNlt:∀b,(A3 vg b∨A3 vk b)→b<w4.heap.size:=fun b hb=>eC1 (hNge b hb).2 (ew0 hx2.size hm4.size);have hul:R (B5 w5 (fun b=>A3 vg b∨A3 vk b)) ul [(k:Int)]:=q2.flatR fun b hb=>D3 fun h=>by
   have h1:=q4 b hb;have:=hNlt b h;omega
  have hog5:=(hog4.ext q3).up hl45 fun b hb=>H8 (.inl hb);have hok5:=(hok4.ext q3).up hl45 fun b hb=>H8 (.inr hb);obtain⟨w6,s1,hog6,hm6,_⟩:=D9 (P:=prog) (t:=118) hog5 rfl (k:=A) (by rw[T4];exact hAM) (x:=ul) (y:=[(k:Int)]) hul (D8 q2.isS) hil hil1;have hl56:B4 (B5 w5 (fun b=>A3 vg b∨A3 vk b)) (B5 w6 (fun b=>A3 vg b∨A3 vk b)):=H1 hm6 (fun _ h=>.inl h) fun _ h=>.inl h;have hok6:=(hok5.mod hm6 fun b hb hb2=>hdj b hb2 hb).up hl56 fun b hb=>H8 (.inr hb);have hua6:=z7.mono (p8 hm4l (p8 hl45 hl56)) hua;obtain⟨w7,s2,hok7,hm7,_⟩:=D9 (P:=prog) (t:=118) hok6 rfl (k:=A) (by rw[T4];exact hAM) (x:=ua) (y:=(List.range at_.length).map fun(f:Nat)=>(f:Int)) hua6 (D8 hSa) hil hil1;have hl67:B4 (B5 w6 (fun b=>A3 vg b∨A3 vk b)) (B5 w7 (fun b=>A3 vg b∨A3 vk b)):=H1 hm7 (fun _ h=>.inr h) fun _ h=>.inl h;have hog7:=(((hog6.up hl56 fun b hb=>H8 (.inl hb)).mod hm7 fun b hb hb2=>hdj b hb hb2)).up hl67 fun b hb=>H8 (.inl hb);have hok7':=hok7.up hl67 fun b hb=>H8 (.inr hb);have hing:=hog5.inS (k:=A) (by rw[T4];exact hAM);have hink:=hok6.inS (k:=A) (by rw[T4];exact hAM);simp only[m8,n9,p9,simprocAttr,h44,j10,j11,j12,j42,hin,hld,q1,hing,s1,hink,s2];refine⟨k+1,by omega,by rw[B1 k (by omega)],by omega,?_,?_,?_⟩
  ·rw[ab1,hgd];exact hog7
  ·rw[ab1,hgd];exact hok7'
  ·exact(hm4.trans (o9.up q3)).trans ((o9.weaken hm6 fun b _ h=>.inl h).trans (o9.weaken hm7 fun b _ h=>.inr h))
 have hge:k=at_.length:=by simp at hc2;omega
 subst hge;have hrowg:=bv3 (g:=fun f=>[(f:Int)]) (n:=M) hnd hltM;have hrowk:=bv3 (g:=fun _=>(List.range at_.length).map fun(f:Nat)=>(f:Int)) (n:=M) hnd hltM;have hgg:∀r∈ab1 at_ (fun f=>[(f:Int)]) M at_.length,r.length≤1000∧∀f∈r,0≤f∧f<(at_.length:Int):=fun r hr=>by
  obtain⟨q,hq⟩:=eC9.1 hr;rcases at6 hnd hltM _ (ew8 _) q r hq with⟨f,hf,_,rfl⟩|⟨_,rfl⟩
  ·exact⟨by simp,fun f' hf'=>by simp at hf';omega⟩
  ·exact⟨by simp,fun f' hf'=>by simp at hf'⟩
 have hkk:∀r∈ab1 at_ (fun _=>(List.range at_.length).map fun(f:Nat)=>(f:Int)) M at_.length,r.length≤1000∧∀f∈r,0≤f∧f<(at_.length:Int):=fun r hr=>by
  obtain⟨q,hq⟩:=eC9.1 hr;rcases at6 hnd hltM _ (ew8 _) q r hq with⟨f,hf,_,rfl⟩|⟨_,rfl⟩
  ·refine⟨by simp;omega,fun f' hf'=>?_⟩;obtain⟨z,hz,rfl⟩:=ey0.1 hf';have:=ez1.1 hz;omega
  ·exact⟨by simp,fun f' hf'=>by simp at hf'⟩
 have hgl:=T4 at_ (fun f=>[(f:Int)]) M at_.length;have hkl:=T4 at_ (fun _=>(List.range at_.length).map fun(f:Nat)=>(f:Int)) M at_.length;generalize ab1 at_ (fun f=>[(f:Int)]) M at_.length=gl at hog4 hrowg hgg hgl;generalize ab1 at_ (fun _=>(List.range at_.length).map fun(f:Nat)=>(f:Int)) M at_.length=kl at hok4 hrowk hkk hkl;have hofok:cp7 (M:Int) steps gl kl (at_.length:Int):=by
  refine⟨by omega,by omega,by omega,by omega,by omega,by omega,fun s hs=>?_,fun r hr f hf=>?_,fun r hr f hf=>?_⟩
  ·have:=hpr s hs;rw[ex8];unfold aW3;omega
  ·have:=(hgg r hr).2 f hf;rw[ex8];exact this
  ·have:=(hkk r hr).2 f hf;rw[ex8];exact this
 simp only[m8,n9,simprocAttr,j2,j3,j9,j10,j11,hSt,hnt];refine y5 ef0 (df0 (M:Int) (at_.length:Int) v vg vk steps gl kl w4 (z7.mono (b7 hx04) hv) (hog4.rw_ (C0 _ _)) (hok4.rw_ (C0 _ _)) (by omega) (fun r hr=>by have:=(hgg r hr).1;omega) fun r hr=>by have:=(hkk r hr).1;omega) ?_;rintro _ w5 ⟨⟨vs,okb,rfl,hyes,hno⟩,hx5⟩;cases okb with
 | false=>exact absurd hofok (hno rfl).1
 | true=>
  obtain⟨_,vi,sol,T,rfl,hsol,hso⟩:=hyes rfl;have hSi:=hsol.isS;obtain⟨al,st⟩:=dJ2 w5 (T:Int) hSi;have lin:=cQ2 w5 (vi:=vi) (T:=(T:Int));simp only[m8,n9,simprocAttr,al,st,lin];refine n7 results90 ?_;simp only[p6,simprocAttr];have hxa:=o6.alloc w5 (.cells #[vi,.int .i64 (T:Int)] 190);have hgood:=(ae3 M steps).nx;have hgl2:=hgood.len;rw[ex8]at hso;refine⟨⟨sol,?_,?_,fun c hcM=>?_⟩,(hx04.trans hx5).trans hxa⟩
  ·refine z7.mono (fun b o e=>?_) hsol;have hn1:¬b<w4.heap.size:=fun h=>by rw[H8 (N:=fun b=>b<w4.heap.size) h]at e;cases e
   rw[D3 (N:=fun b=>b<w4.heap.size) hn1]at e;rw[D3 (N:=fun b=>b<w.heap.size) (fun h=>hn1 (eC1 h hx04.size))];exact b7 hxa b o e
  ·rw[hso.len,hgl2]
  ·obtain⟨g,hg1,hg2⟩:=hso.row (c:Int) (C5.2 ⟨by omega,by rw[hgl2];exact hcM⟩);rw[ex8]at hg1;refine⟨g,hg1,fun f A hf=>?_⟩;rw[hg2,bQ8 (cv3 (by rw[hgl2];exact hgood)),ci6 ?_ ?_ hf]
   ·intro a' f';rw[hrowg];constructor
    ·rintro⟨f2,A2,h1,h2,h3⟩;have:f'=f2:=by simp at h3;omega
     subst this;exact⟨A2,h1,h2⟩
    ·rintro⟨A2,h1,h2⟩;exact⟨f',A2,h1,h2,by simp⟩
   ·intro a' f' hf';rw[hrowk];constructor
    ·rintro⟨f2,A2,h1,h2,_⟩;exact⟨A2,ex2 h1,h2⟩
    ·rintro⟨A2,h1,h2⟩;obtain⟨f2,hf2⟩:=eC9.1 h1;exact⟨f2,A2,hf2,h2,ey0.2 ⟨f',ez1.2 hf',rfl⟩⟩
section
section
variable {P:Program} {K:Fr→World→Prop} {f:Fr} {w:World} {d:Option Nat} {ty:TypeId} {pos:String} {aft:Array Edge}
theorem cA5{t:Nat}{x:Operand}:B0 P none ⟨d,.range t x,ty,pos,aft,none⟩ K f w=ac5 ((Instr.range t (ev f x)).run P w) K f d:=by
 show N5 P _ K f w=_;unfold N5;simp only[execOp,ex6];generalize(Instr.range t (ev f x)).run P w=r;cases r<;>rfl
theorem cd5{x:Operand}{s:Bool}:B0 P none ⟨d,.next x s,ty,pos,aft,none⟩ K f w=ac5 ((Instr.next (ev f x) s ty).run P w) K f d:=by
 show N5 P _ K f w=_;unfold N5;simp only[execOp,ex6];generalize(Instr.next (ev f x) s ty).run P w=r;cases r<;>rfl
theorem cA4{x:Operand}:B0 P none ⟨d,.entry x,ty,pos,aft,none⟩ K f w=ac5 ((Instr.entry (ev f x)).run P w) K f d:=by
 show N5 P _ K f w=_;unfold N5;simp only[execOp,ex6];generalize(Instr.entry (ev f x)).run P w=r;cases r<;>rfl
end
open Go.ChangeMaps (setBlock)
structure RgI (w:World) (it r:Nat) (es:Array MapEntry) (clock:Nat) (D:List Nat):Prop where
 cur:∃c0,clock≤c0∧w.heap[it]?=some (.mapIter (some r) clock (D.map fun j=>(es.getD j default).born).toArray c0)
 map:w.heap[r]?=some (.map es clock)
 born:∀x∈es.toList,x.born<clock
 nd:(es.toList.map (·.born)).Nodup
 dn:D.Nodup
 dl:∀j∈D,j<es.size
theorem RgI.mod{w w':World}{it r:Nat}{es:Array MapEntry}{clock:Nat}{D:List Nat}{M:Nat→Prop}(s:RgI w it r es clock D)(h:o9 M w w')(h1:¬M it)(h2:¬M r):RgI w' it r es clock D:=by
 obtain⟨c0,hc,e⟩:=s.cur;exact⟨⟨c0,hc,(h.block it (ev9.1 e).1 h1).trans e⟩,(h.block r (ev9.1 s.map).1 h2).trans s.map,s.born,s.nd,s.dn,s.dl⟩
theorem bC1{w:World}{it:Nat}{o:Obj}:o9 (fun b=>b=it) w (setBlock w it o):=bC3 w it o
theorem RgI.next{P:Program}{w:World}{it r:Nat}{es:Array MapEntry}{clock:Nat}{D:List Nat}(s:RgI w it r es clock D)(hne:it≠r)(ty:TypeId):
  ((∀j,j<es.size→j∈D)∧(Instr.next (.pointer (some ⟨it,0,none⟩)) false ty).run P w = .ok (.tuple #[.bool false]) w) ∨
  ∃(j:Nat) (e:MapEntry) (w':World),es[j]?=some e∧j∉D∧(Instr.next (.pointer (some ⟨it,0,none⟩)) false ty).run P w = .ok (.tuple #[.bool true,e.key,e.val]) w'∧RgI w' it r es clock (D++[j])∧o9 (fun b=>b=it) w w' ∧
   (∀w'',o9 (fun b=>b≠it∧b≠r) w' w''→(Instr.entry (.pointer (some ⟨it,0,none⟩))).run P w'' = .ok (.tuple #[e.key,e.val]) w''):=by
 obtain⟨c0,hc,e⟩:=s.cur;have hb:∀j k,j<es.size→k<es.size→(es.getD j default).born=(es.getD k default).born→j=k:=fun j k hj hk h=>by
  have h3:=eB9.1 s.nd;have hg:∀j (hj:j<es.size),(es.toList.map (·.born))[j]'(by simpa using hj)=(es.getD j default).born:=fun j hj=>by
   simp[Array.getD,hj]
  rcases Nat.lt_trichotomy j k with h1|h1|h1
  ·exact absurd (by rw[hg j hj,hg k hk];exact h) (h3 j k (by simpa using hj) (by simpa using hk) h1)
  ·exact h1
  ·exact absurd (by rw[hg j hj,hg k hk];exact h.symm) (h3 k j (by simpa using hk) (by simpa using hj) h1)
 have hin:∀j,j<es.size→(((D.map fun j=>(es.getD j default).born).toArray.contains (es.getD j default).born)=true↔j∈D):=fun j hj=>by
  rw[←Array.contains_toList,ex4,ey0];constructor
  ·rintro⟨k,hk,h⟩;have:=hb k j (s.dl k hk) hj h;rw[←this];exact hk
  ·exact fun h=>⟨j,h,rfl⟩
 rcases run_next_at (P:=P) w ty it r clock c0 _ es clock e s.map s.born hc with⟨h1,h2⟩|⟨x,hx,w1,hw1,hrun⟩
 ·left;refine⟨fun j hj=>?_,h2⟩;refine eF5 fun hnj=>?_;have h0:leftOf es (D.map fun j=>(es.getD j default).born).toArray=#[]:=Array.eq_empty_of_size_eq_zero h1;unfold leftOf at h0;rw[Array.filter_eq_empty_iff]at h0;have h3:=h0 es[j] (Array.getElem_mem hj);have h4:es.getD j default=es[j]:=by simp[Array.getD,hj]
  have h5:=hin j hj;rw[h4]at h5;rw[Bool.not_eq_true',eF7]at h3;exact hnj (h5.1 (Classical.not_not.1 h3))
 ·right;unfold leftOf at hx;have hx':x∈es.toList∧(!(D.map fun j=>(es.getD j default).born).toArray.contains x.born)=true:=by simpa using hx
  obtain⟨j,hj,rfl⟩:=eA8.1 hx'.1;have hj':j<es.size:=by simpa using hj
  have hget:es.getD j default=es.toList[j]:=by simp[Array.getD,hj']
  have hnj:j∉D:=fun h=>by
   have:=(hin j hj').2 h;rw[hget]at this;rw[this]at hx';simp at hx'
  have hM1:o9 (fun b=>b=it) w w1:=by
   rcases hw1 with rfl|rfl
   ·exact o9.refl _
   ·exact o9.up (o6.drew w)
  have hitl:it<w1.heap.size:=eC1 (ev9.1 e).1 hM1.size;have hseen:((D.map fun j=>(es.getD j default).born).toArray.push es.toList[j].born)=((D++[j]).map fun j=>(es.getD j default).born).toArray:=by
   rw[ey5,←hget];simp
  have hmod:o9 (fun b=>b=it) w (setBlock w1 it (.mapIter (some r) clock ((D.map fun j=>(es.getD j default).born).toArray.push es.toList[j].born) clock)):=hM1.trans bC1;have hmap':=(hmod.block r (ev9.1 s.map).1 fun h=>hne h.symm).trans s.map;have hit':(setBlock w1 it (.mapIter (some r) clock ((D.map fun j=>(es.getD j default).born).toArray.push es.toList[j].born) clock)).heap[it]?=some (.mapIter (some r) clock ((D.map fun j=>(es.getD j default).born).toArray.push es.toList[j].born) clock):=by
   show(w1.heap.setIfInBounds it _)[it]?=_;simp[hitl]
  refine⟨j,es.toList[j],_,by rw[eE1 hj'];simp,hnj,hrun,⟨⟨clock,ew8 _,by rw[←hseen];exact hit'⟩,hmap',s.born,s.nd,?_,fun k hk=>?_⟩,hmod,fun w'' h=>?_⟩
  ·rw[eA4];exact⟨s.dn,by simp,fun a ha b hb=>by simp at hb;subst hb;rintro rfl;exact hnj ha⟩
  ·rcases ew7.1 hk with h|h
   ·exact s.dl k h
   ·simp at h;subst h;exact hj'
  ·exact run_entry_at (P:=P) w'' it r clock _ es clock es.toList[j] ((h.block it (ev9.1 hit').1 fun h=>h.1 rfl).trans hit') ((h.block r (ev9.1 hmap').1 fun h=>h.2 rfl).trans hmap') (ew2 hj) s.nd
end
theorem es9:af6 prog 88=true:=by kernel_rfl
theorem et0:af6 prog 89=true:=by kernel_rfl
theorem et1:af6 prog 90=true:=by kernel_rfl
theorem et2:af6 prog 93=true:=by kernel_rfl
theorem cg0(a:Addr)(p:Pg)(i:Nat)(w:World)(ha:At (d7 w) a (p7 p))(hr:E4 p)(hw:C8 p≤1000000)(hi:i<p.procs.length):
  Calls prog 51 #[.pointer (some a),.int .i64 i] w fun e w'=>∃u,e = .returned u∧(A9 (d7 w) w' 101 u ((p7 p).flows (i:Int))∧o6 w w'):=by
 refine d9 (args:=[.pointer (some a),.int .i64 i]) hm func51 rfl (by kernel_rfl) (by show 2≤_;decide +kernel) ?_;obtain⟨x,pt⟩:=M9 hr.may hw i hi;have hwy:=P7 pt;generalize x+A7 p.procs[i].body=y at pt hwy;have h200:=J3 hr.may;have hn:=hwy.n;have hlen:=pt.ok.len;have hle':=pt.ok.le;have hdl:=aN0 hr hw hi hwy;have hrg:=by8 hr hw hi hwy;have hdl':(D6 (b9 p) i).data.length≤10000000:=ew0 hdl (by decide);obtain⟨M,hM⟩:∃M:Nat,(D6 (b9 p) i).n=(M:Int):=by
  generalize(D6 (b9 p) i).n=wn at hn;exact⟨wn.toNat,by omega⟩
 have hM202:M≤202:=by rw[hM]at hn;clear hdl hdl';omega
 have hbw:(p7 p).way (i:Int)=D6 (b9 p) i:=M1 hi;have hbM:((p7 p).way (i:Int)).n.toNat=M:=by rw[hbw,hM,ex8]
 have hinj:bq3 ((p7 p).way (i:Int)):=by rw[hbw];exact df4 hwy.toWyOk h200
 have hplc:∀a:Nat,a<((p7 p).way (i:Int)).n.toNat→plc (((p7 p).way (i:Int)).place a):=by rw[hbw];exact df5 hwy.toWyOk h200
 have hgr:∀k:Nat,k<((p7 p).way (i:Int)).n.toNat→((p7 p).gives (i:Int) (k:Int)).Nodup∧((p7 p).gives (i:Int) (k:Int)).length≤100:=fun k hk=>by
  rw[hbM]at hk;have h:=aK4 hr hw hi (k:=k) (by rw[hM];exact Int.ofNat_lt.2 hk);exact⟨an2 h.1,h.2⟩
 have htk:=fun(c:Nat) (hc:c<M)=>bW6 hr hw hi (k:=c) (by rw[hM];exact Int.ofNat_lt.2 hc);obtain⟨sh,vw,_,_,_,_,has,hvw,_,_,_,_,ldb,_⟩:=ha.book rfl;obtain⟨aw,hcw,haw⟩:=aw4 (hv:=hvw) (k:=i) (p:=⟨D6 (b9 p) i⟩) (by show((J1 p).map fun w=>(⟨w⟩:Ptr Wy))[i]?=_;rw[ey8,V2 hi];rfl);simp only at haw;have hinw:=hvw.inS (k:=i) (by show i<((J1 p).map fun w=>(⟨w⟩:Ptr Wy)).length;unfold J1;simpa using hi);obtain⟨_,_,_,_,_,_,ldw,_⟩:=haw.wy;have lb:=ldb w (i4 _);have hlw:=G4 (P:=prog) (t:=102) hcw (i4 _) aq9;simp only[m8,n9,p9,simprocAttr,lb,hinw,hlw];refine y5 dF1 (bD6 aw _ p i x y w haw hr hw hi hwy) ?_;rintro vd w1 ⟨hod,hx1⟩;simp only[m8,simprocAttr];refine y5 bI1 (aj6 aw _ p i x y vd _ w1 (haw.mono (b7 hx1)) hwy.toWyOk (hod.rw_ (b7 hx1)) hrg hdl') ?_;rintro vp w2 ⟨hop,hx2⟩;have hvp:=hop.rw_ (b7 hx2);clear hdl hdl' hrg;simp only[m8,simprocAttr];refine y5 es9 (ck5 a p i w2 (ha.mono (b7 (hx1.trans hx2))) hr hw hi) ?_;rintro _ w3 ⟨r,kv,cn,rfl,hG⟩;have hx03:=hx1.trans (hx2.trans hG.ext);have lw:=ldw w3 (b7 hx03);simp only[hM]at lw;have hz:z7.enc (d7 w3) (Value.slice none 0 0).cells.toList ([]:List A4):=aU2 _;obtain⟨vt,w4,m1,ot4,x4,f4,_⟩:=mk (P:=prog) (w:=w3) (h:=d7 w3) (α:=List A4) cd9 bO3 (y:=[]) hz (n:=M) (by omega) (by omega) (i4 _);obtain⟨il,hil,hil1⟩:=aR2 (P:=prog) bO3 cI0;have hSt:=ot4.isS;have hnt:=ot4.vlen;rw[eA1]at hnt;simp only[m8,n9,simprocAttr,lw,m1,hSt,hnt];have hN4:∀b,A3 vt b→w3.heap.size≤b∧b<w4.heap.size:=fun b hb=>⟨f4 b hb,ot4.lt hb⟩;have ot4':=ot4.reNo (aF0 x4 fun b hb=>(hN4 b hb).1) (fun b hb=>hb);rw[bV3 (fun c=>(p7 p).takes (i:Int) (c:Int)) M]at ot4';refine n8 [0,1,5,6,7,8,10,41] (σ:=Nat) (fun k f w'=>f 42 = .int .i64 k∧k≤M∧A9 (B5 w' (A3 vt)) w' 22 vt (ay9 (fun c=>(p7 p).takes (i:Int) (c:Int)) M k)∧o6 w3 w'∧w4.heap.size≤w'.heap.size) (fun k=>M-k) 0 (by decide +kernel) ?_ ?_
 ·simp only[p6,simprocAttr];exact⟨by trivial,ew4 _,ot4',x4,ew8 _⟩
 rintro k f w5 hk ⟨h42,hkl,ot5,hx35,hs5⟩;simp only[ev4,p6,simprocAttr]at hk;obtain⟨e0,e1,e5,e6,e7,e8,e10,e41,_⟩:=hk;have hx05:=hx03.trans hx35;simp only[m8,n9,simprocAttr,h42,e41];refine i5 (fun hc=>?_) (fun hc=>?_)
 ·have hltk:k<M:=by simpa using hc
  simp only[m8,simprocAttr,h42,e0,e1,e10];refine y5 et0 (cg7 (d7 w) a p i k w5 ha (b7 hx05) hr hw hi (by rw[hM];exact Int.ofNat_lt.2 hltk)) ?_;rintro u w6 ⟨hu,hx6⟩;have huN:R (B5 w6 (A3 vt)) u ((p7 p).takes (i:Int) (k:Int)):=z7.mono (cb8 (b7 hx05) hx6 fun b hb=>⟨eC1 (hN4 b hb).2 hs5,bd2 (ew0 hx03.size (hN4 b hb).1)⟩) hu;have ot6:=(ot5.ext hx6).up (H1 hx6 (fun _ h=>h.elim) fun _ h=>.inl h) fun b hb=>H8 hb;obtain⟨w7,s1,ot7,hm7,hs7⟩:=D9 (P:=prog) (t:=22) ot6 rfl (k:=k) (by rw[aU9];exact hltk) (x:=u) (y:=(p7 p).takes (i:Int) (k:Int)) huN (D8 huN.isS) hil hil1;have ot7':=ot7.up (H1 hm7 (fun _ h=>h) fun _ h=>.inl h) fun b hb=>H8 hb;have hin:=ot6.inS (k:=k) (by rw[aU9];exact hltk);rw[cn3 (T:=fun c=>(p7 p).takes (i:Int) (c:Int))]at ot7';have hs6:=hx6.size;simp only[m8,n9,p9,simprocAttr,h42,hin,s1];exact⟨k+1,by omega,by rw[B1 k (by omega)],by omega,ot7',o9.ext_of (hx35.trans hx6) hm7 fun b hb=>(hN4 b hb).1,by omega⟩
 have hge:M=k:=by simp at hc;omega
 subst hge;have hvt:=ot5.rw_ (C0 _ _);have hvp5:=z7.mono (b7 (hG.ext.trans hx35)) hvp;have hG5:=hG.more hx35;obtain⟨es,clock,hes,hkv,hknd,hborn,hbnd⟩:=hG5.map;have hrun:=run_range_map (P:=prog) w5 148 _ _ r es clock Tryz.underlying148 hes;have hxa:=o6.alloc w5 (.mapIter (some r) clock #[] clock);have hr0:RgI (w5.alloc (.mapIter (some r) clock #[] clock)) w5.heap.size r es clock []:=⟨⟨clock,ew8 _,ez5 _ _⟩,(heap_alloc_old _ _ (ev9.1 hes).1).trans hes,hborn,hbnd,List.nodup_nil,by simp⟩;generalize w5.alloc (.mapIter (some r) clock #[] clock)=w6 at hrun hxa hr0;have hrlt:r<w5.heap.size:=(ev9.1 hes).1;have hkl2:kv.length=es.size:=by
  have:=ex0 List.length hkv;simpa using this.symm
 have hkeysG:∀n,(p7 p).givers (i:Int) n≠[]↔n∈kv.map (·.1):=fun n=>by
  have hgn:cu8 p i n=((p7 p).givers (i:Int) n).map fun(a:Nat)=>(a:Int):=rfl;constructor
  ·intro h;cases e:K7 kv n with
   | none=>
    have:=hG5.no n e;rw[hgn,List.map_eq_nil_iff]at this;exact absurd this h
   | some v=>exact ey0.2 ⟨_,cu6 e,rfl⟩
  ·intro h e;obtain⟨⟨m,v⟩,h1,rfl⟩:=ey0.1 h;have:=(hG5.row m v (bH0 hknd h1)).2;rw[hgn]at this;simp only at e;rw[e]at this;exact this rfl
 have hkl3:kv.length≤M*100:=by
  have h:=cy3 (b:=p7 p) (i:=(i:Int)) hknd (fun n hn=>(hkeysG n).2 hn) fun a ha=>(hgr a ha).2;rw[hbM,ew3]at h;exact h
 simp only[m8,simprocAttr,e8,cA5,hrun];have hne:w5.heap.size≠r:=fun e=>by omega
 refine n8 [0,1,5,7,10,54] (σ:=List Nat×Value) (fun s f w'=>f 6=s.2∧RgI w' w5.heap.size r es clock s.1∧o6 w5 w'∧A9 (d7 w5) w' 101 s.2 ((s.1.map (bp4 kv)).flatMap (ah8 (p7 p) (i:Int)))∧(∀b,A3 s.2 b→b≠w5.heap.size)) (fun s=>es.size-s.1.length) ([],.slice none 0 0) (by decide +kernel) ?_ ?_
 ·simp only[p6,simprocAttr];exact⟨e6,hr0,hxa,A9.nil _ _ _,fun b hb=>absurd hb D0⟩
 rintro⟨D,vo⟩ f7 w7 hk ⟨h6,hrg7,hx57,ho7,hvo7⟩;simp only at h6 hrg7 ho7 hvo7;simp only[ev4,p6,simprocAttr]at hk;obtain⟨g0,g1,g5,g7,g10,g54,_⟩:=hk;rw[e0]at g0;rw[e1]at g1;rw[e5]at g5;rw[e7]at g7;rw[e10]at g10;have hDl:D.length≤es.size:=by
  have:=L3 (m:=List.range es.size) hrg7.dn fun j hj=>ez1.2 (hrg7.dl j hj)
  rwa [eA7]at this
 have hpre:((D.map (bp4 kv)).flatMap (ah8 (p7 p) (i:Int))).length≤824240800:=by
  have h:=aE7 (l:=D.map (bp4 kv)) (f:=ah8 (p7 p) (i:Int)) (B:=M*M) fun n _=>by
   have:=ck0 (p7 p) (i:Int) n
   rwa [hbM]at this
  rw[ew3]at h;have h1:D.length≤20200:=by omega
  have h2:M*M≤202*202:=Nat.mul_le_mul hM202 hM202;have h3:D.length*(M*M)≤20200*(202*202):=Nat.mul_le_mul h1 h2;exact ew0 h (ew0 h3 (by decide))
 rcases hrg7.next (P:=prog) hne 0 with⟨hall,hnx⟩|⟨j,e,w8,hje,hnj,hnx,hrg8,hm8,hent⟩
 ·simp only[m8,simprocAttr,g54,cd5,hnx,h6];refine y5 et2 (bW0 ho7 (by omega) fun s hs t ht h1 h2=>?_) ?_
  ·obtain⟨n,_,hs⟩:=ez2.1 hs;obtain⟨m,_,ht⟩:=ez2.1 ht;exact ck1 hplc hs ht h1 h2
  rintro u9 w9 ⟨ho9,hm9⟩;simp only[m8,simprocAttr,h6];refine n7 results51 ?_;simp only[p6,simprocAttr];have hkn:(D.map (bp4 kv)).Nodup:=by
   rw[List.Nodup,List.pairwise_map];refine List.Pairwise.imp_of_mem (fun{j q} hj hq hne e=>?_) hrg7.dn;exact hne (cy2 hknd (by have:=hrg7.dl j hj;omega) (by have:=hrg7.dl q hq;omega) e)
  have hperm:=bS0 hinj (fun a ha=>(hgr a ha).1) hkn fun n hn=>by
   have h1:=(hkeysG n).1 hn;obtain⟨q,hq,hqe⟩:=eA8.1 h1;refine ey0.2 ⟨q,hall q (by rw[ew3]at hq;omega),?_⟩;rw[←hqe,eD4,aO4 (ev2 (by simpa using hq))]
  rw[cu4 hinj (fun a ha=>(hgr a ha).1) hplc hperm]at ho9;exact⟨ho9.backN hx05,o9.ext_of (hx05.trans hx57) hm9 fun b hb=>ew0 hx05.size (C9 (ho7.free hb))⟩
 generalize hP:(D.map (bp4 kv)).flatMap (ah8 (p7 p) (i:Int))=pre at ho7 hpre;obtain⟨⟨n,v⟩,hq,hek,hev⟩:∃q:A4×Value,kv[j]?=some q∧e.key=o7 q.1∧e.val=q.2:=by
  have h1:=ex0 (fun l=>l[j]?) hkv;simp only[ey8,eG8,hje,eB4]at h1;obtain⟨q,h2,h3⟩:=Option.map_eq_some_iff.1 h1.symm;exact⟨q,h2,(ex0 Prod.fst h3).symm,(ex0 Prod.snd h3).symm⟩
 simp only at hek hev;have hkey:bp4 kv j=n:=aO4 hq;obtain⟨hov,_⟩:=hG5.row n v (bH0 hknd (ex2 hq));have hent':=hent w8 (o9.refl _);rw[hek,hev]at hent' hnx;have hx58:o6 w5 w8:=o9.ext_of hx57 hm8 fun b hb=>by subst hb;exact ew8 _
 have ho8:=ho7.mod hm8 fun b hb h=>hvo7 b hb h;have hvat5:R (d7 w5) v (((p7 p).givers (i:Int) n).map fun(a:Nat)=>(a:Int)):=hov.rw_ (b7 (hG.ext.trans hx35));have hvat8:R (d7 w8) v (((p7 p).givers (i:Int) n).map fun(a:Nat)=>(a:Int)):=z7.mono (b7 hx58) hvat5;have hvp8:=z7.mono (b7 hx58) hvp5;have hDj:D.length+1≤es.size:=by
  have:=L3 (m:=List.range es.size) hrg8.dn fun q hq=>ez1.2 (hrg8.dl q hq)
  rwa [eA7,ev5,ey3]at this
 simp only[m8,simprocAttr,g54,cd5,cA4,hnx,hent',g0,g1,g7];refine y5 et1 (ci5 a p i vp v ((p7 p).givers (i:Int) n) w8 (ha.mono (b7 (hx05.trans hx58))) hr hw hi hvp8 hvat8 (aN9 _ _ _) (fun A hA=>by have:=ab0 _ _ _ A hA;rw[hbM]at this;rw[hM];exact Int.ofNat_lt.2 this)) ?_;rintro vs w9 ⟨⟨sol,hsol,hsl,hrow⟩,hx9⟩;rw[hM]at hsl;simp only[hM]at hrow;have hsl':sol.length=M:=by omega
 have hrow':∀c:Nat,c<M→C1 sol c=(ah9 (p7 p) (i:Int) n c).map fun(f:Nat)=>(f:Int):=fun c hc=>by
  obtain⟨g,h1,h2⟩:=hrow c (Int.ofNat_lt.2 hc);have e:(List.range ((p7 p).givers (i:Int) n).length).filter g=ah9 (p7 p) (i:Int) n c:=by
   unfold ah9;refine List.filter_congr fun f hf=>?_;have hf':=ez1.1 hf;have h3:=h2 f _ (ev2 hf');have h4:((p7 p).givers (i:Int) n).getD f 0=((p7 p).givers (i:Int) n)[f]:=by rw[List.getD,ev2 hf'];rfl
   rw[h4,eI0];exact h3
  rw[h1,e]
 have hSs:=hsol.isS;have hns:=hsol.vlen;rw[hsl']at hns;have ho9:=ho8.ext hx9;have hrg9:=hrg8.mod hx9 (fun h=>h) (fun h=>h);have hitl:w5.heap.size<w9.heap.size:=by
  obtain⟨_,_,h⟩:=hrg9.cur;exact(ev9.1 h).1
 simp only[m8,n9,simprocAttr,hSs,hns];refine n8 [0,1,5,7,10,12,13,54,64,65] (σ:=Nat×Value) (fun s f w'=>f 66 = .int .i64 s.1∧f 6=s.2∧s.1≤M∧A9 (d7 w5) w' 101 s.2 (pre++(List.range s.1).flatMap (ay0 (p7 p) (i:Int) n))∧o9 (fun b=>w5.heap.size≤b∧b≠w5.heap.size∧(b<w8.heap.size∨w9.heap.size≤b)) w9 w'∧(∀b,A3 s.2 b→w5.heap.size≤b∧b≠w5.heap.size∧(b<w8.heap.size∨w9.heap.size≤b))) (fun s=>M-s.1) (0,vo) (by decide +kernel) ?_ ?_
 ·simp only[p6,simprocAttr];exact⟨by trivial,h6,ew4 _,by rw[List.range_zero,List.flatMap_nil,ey6];exact ho9,o9.refl _,fun b hb=>⟨C9 (ho8.free hb),hvo7 b hb,.inl (ho8.lt hb)⟩⟩
 rintro⟨c,v3⟩ f9 w10 hk ⟨h66,h6c,hcl,ho10,hm10,hvo10⟩;simp only at h66 h6c hcl ho10 hvo10;simp only[ev4,p6,simprocAttr]at hk;obtain⟨k0,k1,k5,k7,k10,k12,k13,k54,k64,k65,_⟩:=hk;rw[g0]at k0;rw[g1]at k1;rw[g5]at k5;rw[g7]at k7;rw[g10]at k10;rw[g54]at k54;simp only[m8,n9,simprocAttr,h66,k65];refine i5 (fun hc3=>?_) (fun hc3=>?_);rotate_left
 ·have hge:c=M:=by simp at hc3;omega
  simp only[m8,simprocAttr];have hrg10:=hrg9.mod hm10 (fun h=>h.2.1 rfl) (fun h=>by have:=h.1;omega);have hx510:=o9.ext_of (hx58.trans hx9) hm10 fun b hb=>hb.1;refine⟨(D++[j],v3),by simp only[ev5,ey3];omega,h6c,hrg10,hx510,?_,fun b hb=>(hvo10 b hb).2.1⟩;simp only[];rw[ey5,eI3,hP,ez9,List.map_nil,hkey,eF4,List.flatMap_nil,ey6];have:ah8 (p7 p) (i:Int) n=(List.range c).flatMap (ay0 (p7 p) (i:Int) n):=by unfold ah8;rw[hbM,hge]
  rw[this];exact ho10
 have hlt3:c<M:=by simpa using hc3
 obtain⟨ur,hur,hcr⟩:=R.row hsol (k:=c) (cB9 (by omega));rw[hrow' c hlt3]at hur;have hN9:=hm10.weaken (N:=fun b=>b<w8.heap.size) fun b hb h=>by rcases h.2.2 with h|h<;>omega
 have hinr:=hsol.inS (k:=c) (by omega);have hldr:=G4 (P:=prog) (t:=118) hcr (D2 hN9) O6;have hSr:=hur.isS;have hnr:=hur.vlen;rw[ew3]at hnr;obtain⟨ut,hut,hct⟩:=R.row hvt (cn2 (T:=fun c=>(p7 p).takes (i:Int) (c:Int)) hlt3);have hint:=hvt.inS (k:=c) (by rw[aU9];exact hlt3);have hp3:(pre++(List.range c).flatMap (ay0 (p7 p) (i:Int) n)).length≤824240800+202*202:=by
  rw[ev5];have h:=bg5 (p7 p) (i:Int) n c;rw[hbM]at h;have h2:c*M≤202*202:=Nat.mul_le_mul (by omega) hM202;exact Nat.add_le_add hpre (ew0 h h2)
 have hfll:=bs8 (p7 p) (i:Int) n c;rw[hbM]at hfll;have hfC:ay0 (p7 p) (i:Int) n c=(ah9 (p7 p) (i:Int) n c).flatMap (X3 (p7 p) (i:Int) n c):=rfl;have hflt:∀f∈ah9 (p7 p) (i:Int) n c,f<((p7 p).givers (i:Int) n).length:=fun f hf=>by
  unfold ah9 at hf;exact ez1.1 (ey4.1 hf).1
 generalize ah9 (p7 p) (i:Int) n c=fl at hur hnr hfll hfC hflt;generalize hP3:pre++(List.range c).flatMap (ay0 (p7 p) (i:Int) n)=pre3 at ho10 hp3;simp only[m8,n9,p9,simprocAttr,h66,k64,hinr,hldr,hSr,hnr];refine n8 [0,1,5,7,10,12,13,14,54,64,65,66,71,72] (σ:=Nat×Value) (fun s f w'=>f 73 = .int .i64 s.1∧f 6=s.2∧s.1≤fl.length∧A9 (d7 w5) w' 101 s.2 (pre3++(fl.take s.1).flatMap (X3 (p7 p) (i:Int) n c))∧o9 (fun b=>w5.heap.size≤b∧b≠w5.heap.size∧(b<w8.heap.size∨w9.heap.size≤b)) w9 w'∧(∀b,A3 s.2 b→w5.heap.size≤b∧b≠w5.heap.size∧(b<w8.heap.size∨w9.heap.size≤b))) (fun s=>fl.length-s.1) (0,v3) (by decide +kernel) ?_ ?_
 ·simp only[p6,simprocAttr];exact⟨by trivial,h6c,ew4 _,by rw[eG6,List.flatMap_nil,ey6];exact ho10,hm10,hvo10⟩
 rintro⟨q,v4⟩ f11 w11 hk ⟨h73,h6q,hql,ho11,hm11,hvo11⟩;simp only at h73 h6q hql ho11 hvo11;simp only[ev4,p6,simprocAttr]at hk;obtain⟨l0,l1,l5,l7,l10,l12,l13,l14,l54,l64,l65,l66,l71,l72,_⟩:=hk;rw[k5]at l5;rw[k10]at l10;rw[k12]at l12;rw[k13]at l13;rw[h66]at l66;simp only[m8,n9,simprocAttr,h73,l72];refine i5 (fun hc4=>?_) (fun hc4=>?_);rotate_left
 ·have hge:q=fl.length:=by simp at hc4;omega
  rw[hge,ew5]at ho11;simp only[m8,n9,simprocAttr,l66];refine⟨(c+1,v4),by simp only[];omega,by simp only[];rw[B1 c (by omega)],h6q,by simp only[];omega,?_,hm11,hvo11⟩;simp only[];rw[eG0,eI3,←ex9,hP3,eF4,List.flatMap_nil,ey6,hfC];exact ho11
 have hltq:q<fl.length:=by simpa using hc4
 have hx511:o6 w5 w11:=o9.ext_of (hx58.trans hx9) hm11 fun b hb=>hb.1;have hN11:=hm11.weaken (N:=fun b=>b<w8.heap.size) fun b hb h=>by rcases h.2.2 with h|h<;>omega
 have hur11:R (d7 w11) ur (fl.map fun(f:Nat)=>(f:Int)):=z7.mono (D2 hN11) hur;have hinq:=hur11.inS (k:=q) (by rw[ew3];exact hltq);have hldq:=aH4 hur11 (i4 _) (k:=q) (by rw[ew3];exact hltq);rw[eD4]at hldq;have hldt:=G4 (P:=prog) (t:=22) hct (b7 hx511) M4;have hfg:=hflt _ (ew2 hltq);have htq:=J0 (X3 (p7 p) (i:Int) n c) fl hltq;have hp4:(pre3++(fl.take q).flatMap (X3 (p7 p) (i:Int) n c)).length≤824240800+202*202+202:=by
  rw[ev5];have h:=aE7 (l:=fl.take q) (f:=X3 (p7 p) (i:Int) n c) (B:=1) fun f _=>bg6 _ _ _ _ f;rw[ew6,eE8]at h;omega
 generalize fl[q]=f at hldq hfg htq;have hvat11:R (d7 w11) v (((p7 p).givers (i:Int) n).map fun(a:Nat)=>(a:Int)):=z7.mono (b7 hx511) hvat5;have hinv:=hvat11.inS (k:=f) (by rw[ew3];exact hfg);have hldv:=aH4 hvat11 (i4 _) (k:=f) (by rw[ew3];exact hfg);rw[eD4]at hldv;have hgd:((p7 p).givers (i:Int) n).getD f 0=((p7 p).givers (i:Int) n)[f]:=by rw[List.getD,ev2 hfg];rfl
 have hAM:=ab0 _ _ _ _ (ew2 hfg);rw[hbM]at hAM;have hfo:X3 (p7 p) (i:Int) n c f=if((p7 p).takes (i:Int) (c:Int)).contains n then[⟨(D6 (b9 p) i).place ((((p7 p).givers (i:Int) n)[f]:Nat):Int),(D6 (b9 p) i).place (c:Int),n⟩]else[]:=by
  unfold X3;rw[hgd,hbw]
 generalize((p7 p).givers (i:Int) n)[f]=A at hldv hAM hfo;have htr:=(htk c hlt3).1;have htl:((p7 p).takes (i:Int) (c:Int)).length≤1000000000:=ew0 (htk c hlt3).2 (by decide);simp only[m8,n9,p9,simprocAttr,h73,l71,hinq,hldq,l10,l14,hint,hldt,l12];refine D1 bI2 (aa9 ut _ n w11 (z7.mono (b7 hx511) hut) htl htr) ?_;clear htl htr;rcases ev3 (((p7 p).takes (i:Int) (c:Int)).contains n)with h|h;rotate_left
 ·rw[h,if_neg (by simp)]at hfo;simp only[m8,n9,simprocAttr,h,h73];refine⟨(q+1,v4),by simp only[];omega,by simp only[];rw[B1 q (by omega)],h6q,by simp only[];omega,?_,hm11,hvo11⟩;simp only[];rw[htq,hfo,ey6];exact ho11
 rw[h,if_pos rfl]at hfo;simp only[m8,n9,p9,simprocAttr,h,h6q,l5,l13,hinv,hldv];refine y5 bh6 (aa5 aw _ p i x y (A:Int) w11 (haw.mono (b7 (hx05.trans hx511))) hwy.toWyOk ⟨by omega,by omega⟩) ?_;rintro _ w12 ⟨rfl,hx12⟩;simp only[m8,simprocAttr,l5,l14];refine y5 bh6 (aa5 aw _ p i x y (c:Int) w12 (haw.mono (b7 (hx05.trans (hx511.trans hx12)))) hwy.toWyOk ⟨by omega,by omega⟩) ?_;rintro _ w13 ⟨rfl,hx13⟩;have hx113:=hx12.trans hx13;generalize(D6 (b9 p) i).place (A:Int)=s1 at hfo;generalize(D6 (b9 p) i).place (c:Int)=d1 at hfo;obtain⟨p1,v5,w14,p2,p3,p4,p5⟩:=push (P:=prog) (t:=99) (e:=99) dI6 rfl (ho11.ext hx113) (x:=.agg (z6.cells (⟨s1,d1,n⟩:Fw)).toArray) (y:=⟨s1,d1,n⟩) (bF6 _) (by omega) (by omega) (b7 (hx511.trans hx113));simp only[Value.cells]at p1 p2;have h1113:=hm11.size;have hs113:=hx113.size;simp only[m8,n9,simprocAttr,h73,l12,cr1,p1,p2];refine⟨(q+1,v5),by simp only[];omega,by simp only[];rw[B1 q (by omega)],by trivial,by simp only[];omega,?_,(hm11.trans (o9.up hx113)).trans (p4.weaken fun b _ hb=>hvo11 b hb),fun b hb=>?_⟩
 ·simp only[];rw[htq,hfo,←ex9];exact p3
 ·rcases p5 b hb with h|h
  ·exact hvo11 b h
  ·exact⟨by omega,by omega,.inr (by omega)⟩
theorem aD9(a:Addr)(p:Pg)(i:Nat)(w:World)(ha:At (d7 w) a (p7 p))(hr:E4 p)(hw:C8 p≤1000000)(hi:i<p.procs.length):
  Calls prog 46 #[.pointer (some a),.int .i64 i] w fun e w'=>∃u,e = .returned u∧(∃ui uo,u = .tuple #[ui,uo]∧A9 (d7 w) w' 9 ui ((p7 p).slotsIn (i:Int))∧A9 (d7 w) w' 9 uo ((p7 p).slotsOut (i:Int))∧(∀b,A3 ui b→¬A3 uo b)∧o6 w w'):=by
 refine d9 (args:=[.pointer (some a),.int .i64 i]) hm func46 rfl (by kernel_rfl) (by show 2≤_;decide +kernel) ?_;have hFi:(p7 p).slotsIn (i:Int)=R4 (F3 (X5 p) (i:Int)++p.procs[i].params.map (·.name)):=by
  unfold Bk.slotsIn;rw[V3 hi];rfl
 have hFo:(p7 p).slotsOut (i:Int)=R4 (F3 (H5 p) (i:Int)++[M3]):=rfl;obtain⟨sh,vw,vd,_,vi,vo,has,hvw,hvd,_,hvi,hvo,ldb,sdb⟩:=ha.book rfl;obtain⟨_,_,_,_,_,_,hpg,_,_⟩:=has.sh;rw[I6]at hpg;obtain⟨vg,vp,hvg,hvp,ldp,sdp⟩:=hpg.pg;have lb:=ldb w (i4 _);have hhw:∀w',o6 w w'→B4 (d7 w) (d7 w'):=fun w' hx=>b7 hx;obtain⟨hrow,hrise,hfew⟩:=(aF1 hr hw).row hi;generalize F3 (X5 p) (i:Int)=row at hrow hrise hfew hFi;obtain⟨ui,hui,hci⟩:=R.row hvi (show(p7 p).ins[i]?=some row from hrow);have hini:=hvi.inS (k:=i) (show i<(X5 p).length from(ev8.1 hrow).1);have hli:=G4 (P:=prog) (t:=22) hci (i4 _) M4;obtain⟨hrow2,hrise2,hfew2⟩:=(as8 hr.may).row hi;generalize F3 (H5 p) (i:Int)=row2 at hrow2 hrise2 hfew2 hFo;obtain⟨uo,huo,hco⟩:=R.row hvo (show(p7 p).outs[i]?=some row2 from hrow2);have hino:=hvo.inS (k:=i) (show i<(H5 p).length from(ev8.1 hrow2).1);simp only[m8,n9,p9,simprocAttr,lb,hini,hli];refine y5 cc0 (al9 ui row w hui (by omega)) ?_;rintro u2 w2 ⟨ho2,hx2⟩;have lb2:=ldb w2 (hhw w2 hx2);have lp2:=ldp w2 (hhw w2 hx2);have hatp:=hvp.at_ (i:=i) (x:=p.procs[i]) (ev2 hi);have hinp:=hvp.inS (k:=i) hi;have hz5:z7.sz Pr=5:=rfl;rw[hz5]at hatp;obtain⟨vpa,_,_,_,hvpa,_,_,_,ldr,_⟩:=hatp.pr;have lr2:=ldr w2 (hhw w2 hx2);have hpl:=O0 hr.may hi;generalize p.procs[i].params=pas at hvpa hpl hFi;have hSp:=hvpa.isS;have hnp:=hvpa.vlen;simp only[m8,n9,p9,simprocAttr,lb2,lp2,hinp,lr2,hSp,hnp];refine n8 [0,1,27,28] (σ:=Nat×Value) (fun s f w'=>f 29 = .int .i64 s.1∧f 4=s.2∧s.1≤pas.length∧A9 (d7 w) w' 9 s.2 (row++(pas.take s.1).map (·.name))∧o6 w w') (fun s=>pas.length-s.1) (0,u2) (by decide +kernel) ?_ ?_
 ·simp only[p6,simprocAttr];exact⟨by trivial,trivial,ew4 _,by simpa using ho2,hx2⟩
 rintro⟨j,u⟩ f w3 hk ⟨h29,h4,hjl,ho,hx3⟩;simp only at h29 h4 hjl ho;simp only[ev4,p6,simprocAttr]at hk;obtain⟨e0,e1,e27,e28,_⟩:=hk;simp only[m8,n9,simprocAttr,h29,e28];refine i5 (fun hc=>?_) (fun hc=>?_)
 ·have hlt:j<pas.length:=by simpa using hc
  have hin:=hvpa.inS hlt;obtain⟨sv,hsv,hld⟩:=G1 (P:=prog) (t:=69) hvpa (hhw w3 hx3) (ev2 hlt) bb1 bb6 bb4 ao3;rw[ao3]at hld;have htk:=aC4 (fun q:Pa=>q.name) pas hlt;generalize pas[j]=pa at hsv htk;obtain⟨d,wz,w4,hal,hst,hx4,hat⟩:=aG6 (hsv.mono (hhw w3 hx3)) (i4 _);obtain⟨ld4,_⟩:=hat.pa;have l4:=ld4 w4 (i4 _);obtain⟨p1,u5,w5,p2,p3,p4,p5⟩:=at1 (e:=22) (ho.ext hx4) pa.name (by rw[ev5,ew3,ew6];omega) (b7 (hx3.trans hx4));simp only[m8,n9,p9,simprocAttr,h29,h4,e27,hin,hld,hal,hst,l4,p1,p2];refine⟨(j+1,u5),by simp only[];omega,by simp only[];rw[B1 j (by omega)],by trivial,by simp only[];omega,?_,(ho.ext hx4).ext2 (hx3.trans hx4) p4⟩;simp only[];rw[htk,←ex9];exact p3
 have hge:j=pas.length:=by simp at hc;omega
 subst hge;rw[ew5]at ho;have lb3:=ldb w3 (hhw w3 hx3);have hlo:=G4 (P:=prog) (t:=22) hco (hhw w3 hx3) M4;simp only[m8,n9,p9,simprocAttr,e0,e1,lb3,hino,hlo];refine y5 cc0 (al9 uo row2 w3 (z7.mono (hhw w3 hx3) huo) (by omega)) ?_;rintro u4 w4 ⟨ho4,hx4⟩;obtain⟨p1,u5,w5,p2,p3,p4,p5⟩:=at1 (e:=22) ho4 M3 (by omega) (b7 hx4);have p1':(Instr.buildSlice 22 1 #[(0,.string ⟨#[36,114,101,116]⟩)]).run prog w4=_:=p1;have hap4:∀b,A3 u b→¬A3 u4 b:=fun b h1 h2=>by
  have:=ho.lt h1;have:=C9 (ho4.free h2);omega
 have hap5:∀b,A3 u b→¬A3 u5 b:=fun b h1 h2=>by
  have:=ho.lt h1;have:=C9 (p3.free h2);omega
 have hoi5:=(ho.ext hx4).mod p4 hap4;have hx5:o6 w w5:=hx3.trans (ho4.ext2 hx4 p4);simp only[m8,simprocAttr,p1',p2,h4];refine y5 bH9 (ak8 hoi5 (by rw[ev5,ew3];omega)) ?_;rintro u6 w6 ⟨ho6,hm6⟩;have hoo6:=(p3.mod hm6 fun b h1 h2=>hap5 b h2 h1).back hx3;simp only[m8,simprocAttr];refine y5 bH9 (ak8 hoo6 (by rw[ev5,ey3];omega)) ?_;rintro u7 w7 ⟨ho7,hm7⟩;simp only[m8,simprocAttr];refine ad8 results46 ?_;simp only[p6,simprocAttr];rw[hFi,hFo];exact⟨u,u5,by rw[h4],ho6.mod hm7 hap5,ho7,hap5,hoo6.ext2 (hoi5.ext2 hx5 hm6) hm7⟩
theorem bU4(n:A4)(w:World):Calls prog 108 #[o7 n] w fun e w'=>∃u,e = .returned u∧(u = .bool (decide (n=M3))∧w'=w):=by
 refine d9 (args:=[o7 n]) hm func108 rfl (by kernel_rfl) (by show 1≤_;decide +kernel) ?_;have he:=fun(P:Program) (t:TypeId)=>bZ6 (P:=P) (t:=t) (a:=n) (b:=M3);have hg:o7 M3 = .string ⟨#[36,114,101,116]⟩:=rfl;simp only[hg]at he;simp only[m8,n9,simprocAttr,he];refine n7 results108 ?_;simp only[p6,simprocAttr];exact⟨by trivial,by trivial⟩
theorem cr6(q:A4)(k d:Int)(n:A4):B9 prog 36 [(0,o7 q),(1,.int .i64 k),(2,.int .i64 d),(3,o7 n)]=some (.agg (z6.cells (⟨q,k,d,n⟩:Vx)).toArray):=by
 simp[B9,bO0,J5,Instr.fill,Value.cells,o7];rfl
def H2(a:Addr)(i:Int)(q:A4)(c1 c2 c3 c4 vv ve:Value):Array Value:=#[.pointer (some a),.int .i64 i,o7 q,c1,c2,c3,c4,vv,ve]
theorem I0(gb:Nat)(T:TypeId)(cs0:Array Value)(q:A4)(k d:Int)(n:A4)(w:World)(hb:w.heap[gb]?=some (.cells cs0 T (0,0)))(hq:cs0[2]?=some (o7 q)):
  Calls prog 60 #[.pointer (some ⟨gb,0,none⟩),.int .i64 k,.int .i64 d,o7 n] w fun e w'=>∃u,e = .returned u∧(u = .agg (z6.cells (⟨q,k,d,n⟩:Vx)).toArray∧o6 w w'):=by
 refine d9 (args:=[.pointer (some ⟨gb,0,none⟩),.int .i64 k,.int .i64 d,o7 n]) hm func60 rfl (by kernel_rfl) (by show 4≤_;decide +kernel) ?_;have hfc:z6.cells (⟨q,k,d,n⟩:Vx)=[o7 q,.int .i64 k,.int .i64 d,o7 n]:=rfl;obtain⟨h1,h2⟩:=aT9 (P:=prog) (w:=w) (T:=36) bw4 rfl (cs:=#[o7 q,.int .i64 k,.int .i64 d,o7 n]) (by rw[ad2];rfl) (by simp[Value.oneCell',o7]);have hbv:=cr6 q k d n;rw[hfc]at hbv ⊢;have hb1:=fun o=>((o6.alloc w o).block gb (ev9.1 hb).1 id).trans hb;have hl:=fun o=>E8 (P:=prog) (t:=9) (i:=2) (u:=o7 q) (hb1 o) hq U4;have hlda:=ab6 (P:=prog) (T:=36) (ez5 w (.cells #[o7 q,.int .i64 k,.int .i64 d,o7 n] 36)) aI8 aJ0 aI9 (by rw[ad2];rfl);simp only[m8,n9,simprocAttr,h1,hl,hbv,h2];refine L6 results60 (ad:=⟨w.heap.size,0,none⟩) (by simp only[p6,simprocAttr]) hlda ?_;exact⟨rfl,o6.alloc _ _⟩
theorem ai1:af6 prog 60=true:=by kernel_rfl
theorem BM.rebase{α β:Type}[z7 α][z7 β]{H H':Hp}{w0 wz w:World}{Z:Nat→Prop}{gb:Nat}{TB TX TY:TypeId}{cells:Value→Array Value}{vx vy:Value}{xs:List α}{ys:List β}(s:BM H w0 wz w Z gb TB TX TY cells vx vy xs ys)(h:B4 H' (B5 w (nB gb vx vy Z))):BM H' w0 wz w Z gb TB TX TY cells vx vy xs ys:=
 ⟨s.ext,s.ge,s.cb,s.ox,s.oy,s.dx,s.dy,s.dz,s.zk,s.sz,h⟩
abbrev PV(H:Hp)(w0 w:World)(gb:Nat)(a:Addr)(i:Int)(q:A4)(c1 c2 c3 c4 vx:Value)(xs:List Vx):Prop:=
 BM (α:=Vx) (β:=Int) H w0 w0 w (fun _=>False) gb 122 36 3 (fun v=>H2 a i q c1 c2 c3 c4 v (.slice none 0 0)) vx (.slice none 0 0) xs []
abbrev PE(H:Hp)(w0 w:World)(gb:Nat)(a:Addr)(i:Int)(q:A4)(c1 c2 c3 c4 vx:Value)(xs:List Eg):Prop:=
 BM (α:=Eg) (β:=Int) H w0 w0 w (fun _=>False) gb 122 38 3 (fun v=>H2 a i q c1 c2 c3 c4 (.slice none 0 0) v) vx (.slice none 0 0) xs []
abbrev nP(gb:Nat)(vx:Value):Nat→Prop:=nB gb vx (.slice none 0 0) fun _=>False
theorem cX5:∃inf,prog.info? 30=some inf∧inf.size=1:=aR2 dY0 cZ7
theorem dF2:∃inf,prog.info? 32=some inf∧inf.size=1:=aR2 dY1 cZ8
theorem aF8(H:Hp)(gb:Nat)(a:Addr)(i:Int)(q:A4)(c1 c2 c3 c4 vx:Value)(xs:List Vx)(k d:Int)(u:Value)(ns:List A4)(w0 w:World)(s:PV H w0 w gb a i q c1 c2 c3 c4 vx xs)(hu:R (B5 w (nP gb vx)) u ns)(hl:xs.length+ns.length≤1000000):
  Calls prog 61 #[.pointer (some ⟨gb,0,none⟩),.int .i64 k,.int .i64 d,u] w fun e w'=>∃r,e = .returned r∧(∃vx',PV (B5 w (nP gb vx)) w0 w' gb a i q c1 c2 c3 c4 vx' (xs++ns.map fun n=>⟨q,k,d,n⟩)):=by
 refine d9 (args:=[.pointer (some ⟨gb,0,none⟩),.int .i64 k,.int .i64 d,u]) hm func61 rfl (by kernel_rfl) (by show 4≤_;decide +kernel) ?_;have hS:=hu.isS;have hn:=hu.vlen;obtain⟨il,hil,hil1⟩:=cX5;simp only[m8,n9,simprocAttr,hS,hn];refine n8 [0,1,2,10,11] (σ:=Nat×Value) (fun t f w'=>f 12 = .int .i64 t.1∧t.1≤ns.length∧PV (B5 w (nP gb vx)) w0 w' gb a i q c1 c2 c3 c4 t.2 (xs++(ns.take t.1).map fun n=>⟨q,k,d,n⟩)) (fun t=>ns.length-t.1) (0,vx) (by decide +kernel) ?_ ?_
 ·simp only[p6,simprocAttr];exact⟨by trivial,ew4 _,by simpa using s.rebase (i4 _)⟩
 clear s;rintro⟨j,v⟩ f w1 hk ⟨h12,hjl,s⟩;simp only at h12 hjl s;simp only[ev4,p6,simprocAttr]at hk;obtain⟨e0,e1,e2,e10,e11,_⟩:=hk;simp only[m8,n9,simprocAttr,h12,e11];refine i5 (fun hc=>?_) (fun hc=>?_);rotate_left
 ·have hge:j=ns.length:=by simp at hc;omega
  subst hge;rw[ew5]at s;simp only[m8,simprocAttr];refine cB7 results61 ?_;exact⟨v,s⟩
 have hlt:j<ns.length:=by simpa using hc
 have hin:=hu.inS hlt;have hld:=ldS hu s.hb hlt;have htk:=aC4 (fun n:A4=>(⟨q,k,d,n⟩:Vx)) ns hlt;have hxl:(xs++(ns.take j).map fun n=>(⟨q,k,d,n⟩:Vx)).length+1≤1000000:=by rw[ev5,ew3,ew6];omega
 generalize ns[j]=n at hld htk;generalize hys:xs++(ns.take j).map (fun n=>(⟨q,k,d,n⟩:Vx))=ys at s hxl;have s2:=s.more (o6.drew w1);have hcb:∀w',o9 (A3 v) w1.drew w'→w'.heap[gb]?=some (.cells (H2 a i q c1 c2 c3 c4 v (.slice none 0 0)) 122 (0,0)):=fun w' hm=>(hm.block gb (ev9.1 s2.cb).1 fun h=>(s2.dx gb h).2.1 rfl).trans s2.cb;have k7:∀K f d w0',B8 prog (fun w'=>o9 (A3 v) w1.drew w') (Instr.loadAt 30 (.pointer (some ⟨gb,7,none⟩))) K f d w0'=K (A5 f d v) w0':=fun K f d w0'=>A0 (w0:=w1.drew) (o9.refl _) fun w' h=>E8 (i:=7) (u:=v) (hcb w' h) rfl bw1;simp only[m8,n9,p9,simprocAttr,h12,e10,hin,hld];refine C2 (fun w'=>o9 (A3 v) w1.drew w') 12 (A8 [0,1,2,3,4,5,6,7,8,9,10,11]) (by decide +kernel) (o9.refl _) ?_;simp only[D5,A8,m8,n9,simprocAttr,e0,e1,e2,k7];refine y5 ai1 (I0 gb _ _ q k d n w1.drew s2.cb rfl) ?_;rintro _ w3 ⟨rfl,hx3⟩;refine⟨o9.up hx3,?_⟩;have s3:=s2.more hx3;obtain⟨p1,v',w4,w5,p2,p3,s5,p4⟩:=s3.push (P:=prog) (e:=30) bM4 rfl (x:=.agg (z6.cells (⟨q,k,d,n⟩:Vx)).toArray) (y:=⟨q,k,d,n⟩) ((z6.iff_ _ _ _).2 rfl) (by omega) (by omega) (ix:=7) (by simp[H2]) (fun v v'=>by simp[H2]) hil hil1;simp only[D5,m8,n9,simprocAttr,p1,p2,F7];refine⟨(o9.up hx3).trans (o9.up (o6.alloc _ _)),(o9.up hx3).trans p4,?_⟩;simp only[m8,n9,simprocAttr,h12,p3];refine⟨(j+1,v'),by simp only[];omega,by simp only[];rw[B1 j (by omega)],by simp only[];omega,?_⟩;simp only[];rw[htk,←ex9,hys];exact s5
theorem cr0(x y:Vx)(k:Int):B9 prog 38 [(0,.agg (z6.cells x).toArray),(1,.agg (z6.cells y).toArray),(2,.int .i64 k)]=some (.agg (z6.cells (⟨x,y,k⟩:Eg)).toArray):=by
 have hx:∀x:Vx,z6.cells x=[o7 x.proc,.int .i64 x.kind,.int .i64 x.id,o7 x.slot]:=fun _=>rfl;have he:z6.cells (⟨x,y,k⟩:Eg)=[o7 x.proc,.int .i64 x.kind,.int .i64 x.id,o7 x.slot,o7 y.proc,.int .i64 y.kind,.int .i64 y.id,o7 y.slot,.int .i64 k]:=rfl;rw[hx,hx,he];simp[B9,cZ3,J5,Instr.fill,Value.cells,o7]
theorem ae4(H:Hp)(gb:Nat)(a:Addr)(i:Int)(q:A4)(c1 c2 c3 c4 vx:Value)(xs:List Eg)(x y:Vx)(k:Int)(w0 w:World)(s:PE H w0 w gb a i q c1 c2 c3 c4 vx xs)(hl:xs.length≤1000000000):
  Calls prog 66 #[.pointer (some ⟨gb,0,none⟩),.agg (z6.cells x).toArray,.agg (z6.cells y).toArray,.int .i64 k] w fun e w'=>∃r,e = .returned r∧(∃vx',PE H w0 w' gb a i q c1 c2 c3 c4 vx' (xs++[⟨x,y,k⟩])):=by
 refine d9 (args:=[.pointer (some ⟨gb,0,none⟩),.agg (z6.cells x).toArray,.agg (z6.cells y).toArray,.int .i64 k]) hm func66 rfl (by kernel_rfl) (by show 4≤_;decide +kernel) ?_;obtain⟨il,hil,hil1⟩:=dF2;obtain⟨a1,w1,hb1,hx1,hat1⟩:=ca2 (w:=w) (A3 vx) (SV.ofN (d7 w) x) fun b hb=>s.ox.lt hb;have s1:=s.more hx1;obtain⟨a2,w2,hb2,hx2,hat2⟩:=ca2 (w:=w1) (A3 vx) (SV.ofN (d7 w1) y) fun b hb=>s1.ox.lt hb;have s3:=(s1.more hx2).more (o6.drew w2);have hcb:∀w',o9 (A3 vx) w2.drew w'→w'.heap[gb]?=some (.cells (H2 a i q c1 c2 c3 c4 (.slice none 0 0) vx) 122 (0,0)):=fun w' hm=>(hm.block gb (ev9.1 s3.cb).1 fun h=>(s3.dx gb h).2.1 rfl).trans s3.cb;have k8:∀K f d w0',B8 prog (fun w'=>o9 (A3 vx) w2.drew w') (Instr.loadAt 32 (.pointer (some ⟨gb,8,none⟩))) K f d w0'=K (A5 f d vx) w0':=fun K f d w0'=>A0 (w0:=w2.drew) (o9.refl _) fun w' h=>E8 (i:=8) (u:=vx) (hcb w' h) rfl cG5;have t1:=(L8.vx_v (SV.ofN (d7 w) x) hat1).2 (fun w'=>o9 (A3 vx) w2.drew w') w2.drew (o9.refl _) fun w' h=>D2 ((o9.up (M:=A3 vx) (hx2.trans (o6.drew w2))).trans h);have t2:=(L8.vx_v (SV.ofN (d7 w1) y) hat2).2 (fun w'=>o9 (A3 vx) w2.drew w') w2.drew (o9.refl _) fun w' h=>D2 ((o9.up (M:=A3 vx) (o6.drew w2)).trans h);have hbe:=cr0 x y k;obtain⟨p1,v',w4,w5,p2,p3,s5,p4⟩:=s3.push (P:=prog) (e:=32) dI4 rfl (x:=.agg (z6.cells (⟨x,y,k⟩:Eg)).toArray) (y:=⟨x,y,k⟩) ((z6.iff_ _ _ _).2 rfl) (by omega) (by omega) (ix:=8) (by simp[H2]) (fun v v'=>by simp[H2]) hil hil1;simp only[m8,n9,simprocAttr,hb1,hb2];refine C2 (fun w'=>o9 (A3 vx) w2.drew w') 11 (A8 [0,1,2,3,4,5,6,7,8,9,10]) (by decide +kernel) (o9.refl _) ?_;simp only[D5,A8,m8,n9,simprocAttr,k8,t1,t2,hbe,p1,p2,F7];refine⟨o9.up (o6.alloc _ _),p4,?_⟩;simp only[m8,simprocAttr,p3];refine cB7 results66 ?_;exact⟨v',s5⟩
theorem ed8:af6 prog 107=true:=by kernel_rfl
theorem dc1:af6 prog 108=true:=by kernel_rfl
theorem cx4:af6 prog 46=true:=by kernel_rfl
instance:z6 A4:=⟨fun s=>[o7 s],fun _ _ _=>eC0⟩
theorem bh9{α:Type}(p:α→Bool):∀(l:List α) (i:Nat),V5 p i l ≠ -1→∃k,V5 p i l=((i+k:Nat):Int)∧(∃x,l[k]?=some x∧p x=true)∧∀j y,j<k→l[j]?=some y→p y=false
 | [],i,h=>absurd rfl h
 | x::l,i,h=>by
  rw[V5]at h ⊢;cases hp:p x
  ·rw[hp,if_neg (by simp)]at h;rw[if_neg (by simp)];obtain⟨k,h1,⟨y,h2,h3⟩,h4⟩:=bh9 p l (i+1) h;refine⟨k+1,by rw[h1];congr 1;omega,⟨y,by simpa using h2,h3⟩,fun j z hj hz=>?_⟩;cases j with
   | zero=>
    obtain rfl:x=z:=by simpa using hz
    exact hp
   | succ j=>exact h4 j z (by omega) (by simpa using hz)
  ·rw[if_pos rfl];exact⟨0,by simp,⟨x,rfl,hp⟩,fun j y hj=>by omega⟩
theorem aB3{α:Type}(p:α→Bool):∀(l:List α),(∀(j:Nat) y,l[j]?=some y→p y=true)→l.filter p=l
 | [],_=>rfl
 | x::l,h=>by
  rw[List.filter_cons,if_pos (h 0 x rfl),aB3 p l fun j y hj=>h (j+1) y (by simpa using hj)]
theorem dF3:∃inf,prog.info? 9=some inf∧inf.size=1:=aR2 dY3 dV7
theorem ct3{h:Hp}{w:World}{v:Value}{xs:List A4}(ho:A9 h w 9 v xs)(hl:xs.length≤1000000)(hh:B4 h (d7 w)):
  Calls prog 107 #[v,.func (.func 108) #[] #[]] w fun e w'=>∃u,e = .returned u∧(A9 h w' 9 u (xs.filter fun n=>!decide (n=M3))∧o9 (A3 v) w w'∧∀b,A3 u b→A3 v b):=by
 refine d9 (args:=[v,.func (.func 108) #[] #[]]) hm func107 rfl (by kernel_rfl) (by show 2≤_;decide +kernel) ?_;have hS:=ho.isS;have hn:=ho.vlen;have hvc:=ho.vcap;obtain⟨il,hil,hil1⟩:=dF3;have hpred:∀(x:A4) (w':World),Calls prog 108 ([o7 x]++(#[]:Array Value).toList).toArray w' fun e w''=>∃u,e = .returned u∧(u = .bool (decide (x=M3))∧o6 w' w''):=fun x w'=>(bU4 x w').mono fun e w'' ⟨u,h1,h2,h3⟩=>⟨u,h1,h2,by rw[h3];exact o9.refl _⟩;generalize hP:(fun n:A4=>decide (n=M3))=pred at hpred;have hPn:∀n:A4,decide (n=M3)=pred n:=fun n=>by rw[←hP]
 simp only[hPn]at hpred ⊢;simp only[m8,n9,simprocAttr];refine B3 dc7 (az7 pred 108 #[] v xs w dc1 (ho.rw_ hh) (by omega) fun x w' _ _=>hpred x w') (fun w1 hx1=>?_);rcases ev3 (decide (V5 pred 0 xs = -1))with hq|hq
 ·have e:=ev6 hq;simp only[m8,n9,simprocAttr,hq];refine n7 results107 ?_;simp only[p6,simprocAttr];have hno:xs.any pred=false:=by rw[←as3 pred xs 0,e];rfl
  rw[aB3 _ _ fun j y hj=>by
   have:=List.any_eq_false.1 hno y (ex2 hj);simpa using this]
  exact⟨ho.ext hx1,o9.up hx1,fun b hb=>hb⟩
 obtain⟨k,hk0,⟨xk,hxk,hpk⟩,hfst⟩:=bh9 pred xs 0 (ev7 hq);rw[ey7]at hk0;generalize V5 pred 0 xs=z at hq hk0 ⊢;obtain⟨hkl,rfl⟩:=ev8.1 hxk;have hk1:IntKind.i64.wrap (z+1)=((k+1:Nat):Int):=by rw[hk0];exact B1 k (by omega)
 have htk0:(xs.take (k+1)).filter (fun n=>!pred n)=xs.take k:=by
  rw[ag4 _ xs hkl,hpk,if_neg (by simp),ey6];refine aB3 _ _ fun j y hj=>?_;rw[eF1]at hj;split at hj
  ·rename_i hjk;rw[hfst j y hjk hj];rfl
  ·cases hj
 simp only[m8,n9,simprocAttr,hq,hk1];refine n8 [0,1] (σ:=Nat×Nat×List A4) (fun s f w'=>f 6 = .int .i64 s.1∧f 5 = .int .i64 s.2.1∧s.1≤xs.length∧s.2.1<s.1∧s.2.2.length=xs.length∧A9 h w' 9 v s.2.2∧(∀m,s.1≤m→s.2.2[m]?=xs[m]?)∧s.2.2.take s.2.1=(xs.take s.1).filter (fun n=>!pred n)∧o9 (A3 v) w w') (fun s=>xs.length-s.1) (k+1,k,xs) (by decide +kernel) ?_ ?_
 ·simp only[p6,simprocAttr];exact⟨by trivial,by rw[hk0],by omega,by omega,by trivial,ho.ext hx1,fun _ _=>by trivial,htk0.symm,o9.up hx1⟩
 rintro⟨j,c,ys⟩ f w2 hk ⟨h6,h5,hjl,hcj,hyl,hoy,hsuf,hpre,hm2⟩;simp only at h6 h5 hjl hcj hyl hoy hsuf hpre;simp only[ev4,p6,simprocAttr]at hk;obtain⟨e0,e1,_⟩:=hk;simp only[m8,n9,simprocAttr,h6,e0,hS,hn];refine i5 (fun hc=>?_) (fun hc=>?_)
 ·have hlt:j<xs.length:=by simpa using hc
  have hyj:ys[j]?=some xs[j]:=by rw[hsuf j (ew8 _),ev2 hlt]
  have hin:=hoy.inS (k:=j) (by omega);have hld:(Instr.loadAt 9 (.pointer (some (H4 v j)))).run prog w2 = .ok (o7 xs[j]) w2:=D4 hoy hyj U4;have htk:=ag4 (fun n=>!pred n) xs hlt;generalize xs[j]=n at hld hyj htk;simp only[m8,n9,p9,simprocAttr,h6,e0,e1,hin,hld,eG1];refine B3 dc1 (hpred n w2) (fun w3 hx3=>?_);have hm3:o9 (A3 v) w w3:=hm2.trans (o9.up hx3);rcases ev3 (pred n)with hp|hp
  ·rw[hp,if_neg (by simp),ey6]at htk;simp only[m8,n9,simprocAttr,hp,h6];refine⟨(j+1,c,ys),by simp only[];omega,by simp only[];rw[B1 j (by omega)],h5,by simp only[];omega,by simp only[];omega,hyl,hoy.ext hx3,fun m hm=>hsuf m (by simp only at hm;omega),?_,hm3⟩;simp only[];rw[hpre,htk]
  ·rw[hp,if_pos (by simp)]at htk;have hin2:=hoy.inS (k:=c) (by omega);obtain⟨w4,q1,q2,q3,_⟩:=D9 (P:=prog) (t:=9) (hoy.ext hx3) rfl (k:=c) (by omega) (x:=o7 n) (y:=n) rfl rfl hil hil1;simp only[m8,n9,p9,simprocAttr,hp,h6,h5,e0,hin2,q1];refine⟨(j+1,c+1,ys.set c n),by simp only[];omega,by simp only[];rw[B1 j (by omega)],by simp only[];rw[B1 c (by omega)],by simp only[];omega,by simp only[];omega,by simp only[eC2];exact hyl,q2,fun m hm=>?_,?_,hm3.trans q3⟩
   ·simp only at hm ⊢;rw[eD3 (by omega)];exact hsuf m (by omega)
   ·simp only[];have hcs:c<(ys.set c n).length:=by rw[eC2];omega
    rw[ew1 hcs,List.getElem_set_self,List.take_set_of_le (ew8 _),hpre,htk]
 ·have hge:j=xs.length:=by simp at hc;omega
  subst hge;rw[ew5]at hpre;have c3:decide ((c:Int)≤(xs.length:Int))=true:=by simp;omega
  have c4:decide ((c:Int)≤(vcap v:Int))=true:=by simp;omega
  have c5:decide ((xs.length:Int)≤(vcap v:Int))=true:=by simp;omega
  obtain⟨w6,e6,ho6,hm6,hb6⟩:=aU4 (P:=prog) (t:=22) (ty:=0) hoy rfl dY3 rfl (by simp[Value.cells,Value.oneCell']) (i:=c) (by omega);have hz:z7.sz A4=1:=rfl;rw[hyl,hz]at e6;rw[hz]at ho6 hb6;simp only[m8,n9,F8,simprocAttr,bj2,h5,e0,hS,hn,c3,c4,c5,e6];refine n7 results107 ?_;simp only[p6,simprocAttr];exact⟨by rw[←hpre];exact ho6,hm2.trans hm6,hb6⟩
theorem cn5(gb:Nat)(T:TypeId)(cs0:Array Value)(a:Addr)(p:Pg)(vs:Value)(s:St)(c:Nat)(w:World)(hb:w.heap[gb]?=some (.cells cs0 T (0,0)))(hc0:cs0[0]?=some (.pointer (some a)))(ha:At (d7 w) a (p7 p))(hr:E4 p)(hw:C8 p≤1000000)(hv:SV (d7 w) vs s)(hc:az4 p s c):
  Calls prog 63 #[.pointer (some ⟨gb,0,none⟩),vs] w fun e w'=>∃u,e = .returned u∧(∃ui uo,u = .tuple #[ui,uo]∧A9 (d7 w) w' 9 ui ((p7 p).slotsIn (c:Int))∧A9 (d7 w) w' 9 uo ((p7 p).callOut s)∧(∀b,A3 ui b→¬A3 uo b)∧o6 w w'):=by
 refine d9 (args:=[.pointer (some ⟨gb,0,none⟩),vs]) hm func63 rfl (by kernel_rfl) (by show 2≤_;decide +kernel) ?_;have hF:(p7 p).callOut s=if s.name=e0 then((p7 p).slotsOut (c:Int)).filter fun n=>!decide (n=M3)else(p7 p).slotsOut (c:Int):=by
  have e:(p7 p).s.pr s.proc=(c:Int):=hc.pr;unfold Bk.callOut;rw[e]
 have hfew:((p7 p).slotsOut (c:Int)).length≤1000000:=by
  have h1:(p7 p).slotsOut (c:Int)=R4 (F3 (H5 p) (c:Int)++[M3]):=rfl;have:=((as8 hr.may).row hc.lt).2.2;rw[h1,R0,ev5,ey3];omega
 obtain⟨d,w1,hb1,hx1,hat⟩:=ai6 hv (i4 _);obtain⟨sv,hsv,_,sdv⟩:=hat.st_v;obtain⟨_,_,_,_,_,_,_,_,_,lds,_⟩:=hat.st;have hx1d:=hx1.trans (o6.drew w1);have k0:∀K f d w0',B8 prog (fun w'=>o6 w1.drew w') (Instr.loadAt 82 (.pointer (some ⟨gb,0,none⟩))) K f d w0'=K (A5 f d (.pointer (some a))) w0':=fun K f d w0'=>A0 (w0:=w1.drew) (o9.refl _) fun w' h=>E8 (i:=0) (((hx1d.trans h).block gb (ev9.1 hb).1 id).trans hb) hc0 bb2;have t1:=sdv (fun w'=>o6 w1.drew w') w1.drew (o9.refl _) fun w' h=>b7 ((o6.drew w1).trans h);simp only[m8,n9,simprocAttr,hb1];refine C2 (fun w'=>o6 w1.drew w') 15 (A8 [0,1,2,3,4,5,6,7,8,9,10,11,12,13,14]) (by decide +kernel) (o9.refl _) ?_;simp only[D5,A8,m8,n9,simprocAttr,k0,t1];refine B3 bA0 (al3 a (p7 p) p sv s w1.drew (ha.mono (b7 hx1d)) rfl hr.may (hsv.mono (b7 (o6.drew w1)))) (fun w2 hx2=>⟨hx2,?_⟩);rw[hc.pr];have hx02:=hx1d.trans hx2;simp only[D5,m8,simprocAttr];refine y5 cx4 (aD9 a p c w2 (ha.mono (b7 hx02)) hr hw hc.lt) ?_;rintro _ w3 ⟨ui,uo,rfl,hoi,hoo,hdj,hx3⟩;refine⟨hx2.trans hx3,?_⟩;have hx03:=hx02.trans hx3;have l3:=lds w3 (b7 ((o6.drew w1).trans (hx2.trans hx3)));rcases ev3 (decide (s.name=ofA #[]))with h1|h1
 ·simp only[D5,m8,n9,simprocAttr,l3,h1];have e1:s.name=e0:=ev6 h1;refine y5 ed8 (ct3 hoo hfew (b7 hx3)) ?_;rintro u4 w4 ⟨ho4,hm4,hb4⟩;simp only[m8,simprocAttr];refine ad8 results63 ?_;simp only[p6,simprocAttr];rw[hF,if_pos e1];exact⟨ui,u4,by trivial,(hoi.mod hm4 fun b h1 h2=>hdj b h1 h2).back hx02,ho4.back hx02,fun b h1 h2=>hdj b h1 (hb4 b h2),hx02.trans (hoo.ext2 hx3 hm4)⟩
 ·simp only[D5,m8,n9,simprocAttr,l3,h1];have e1:s.name≠e0:=ev7 h1;refine ad8 results63 ?_;simp only[p6,simprocAttr];rw[hF,if_neg e1];exact⟨ui,uo,by trivial,hoi.back hx02,hoo.back hx02,hdj,hx03⟩
theorem cx5:af6 prog 61=true:=by kernel_rfl
theorem er8:af6 prog 63=true:=by kernel_rfl
theorem er9:af6 prog 64=true:=by kernel_rfl
theorem bE6(a:Addr)(i:Int)(q:A4)(c1 c2 c3 c4:Value):B9 prog 122 [(0,.pointer (some a)),(1,.int .i64 i),(2,.agg #[o7 q,c1,c2,c3,c4])]=some (.agg (H2 a i q c1 c2 c3 c4 (.slice none 0 0) (.slice none 0 0))):=by
 unfold H2;simp[B9,cH0,J5,Instr.fill,Value.cells,o7]
theorem PV.new{w w2:World}(a:Addr)(i:Int)(q:A4)(c1 c2 c3 c4:Value)(hx:o6 (w.alloc (.cells (H2 a i q c1 c2 c3 c4 (.slice none 0 0) (.slice none 0 0)) 122)) w2):
  PV (B5 w2 (nP w.heap.size (.slice none 0 0))) w w2 w.heap.size a i q c1 c2 c3 c4 (.slice none 0 0) []∧PE (B5 w2 (nP w.heap.size (.slice none 0 0))) w w2 w.heap.size a i q c1 c2 c3 c4 (.slice none 0 0) []:=by
 have hx2:o6 w w2:=(o6.alloc _ _).trans hx;have hcb:w2.heap[w.heap.size]?=some (.cells (H2 a i q c1 c2 c3 c4 (.slice none 0 0) (.slice none 0 0)) 122 (0,0)):=(hx.block _ (by simp) id).trans (ez5 w _);exact⟨⟨hx2,ew8 _,hcb,A9.nil _ _ _,A9.nil _ _ _,fun b h=>absurd h D0,fun b h=>absurd h D0,fun b h=>h.elim,fun b h=>h.elim,hx2.size,i4 _⟩,
  ⟨hx2,ew8 _,hcb,A9.nil _ _ _,A9.nil _ _ _,fun b h=>absurd h D0,fun b h=>absurd h D0,fun b h=>h.elim,fun b h=>h.elim,hx2.size,i4 _⟩⟩
theorem cd3{w w2:World}(hx:o6 w w2):B4 (d7 w) (B5 w2 (nP w.heap.size (.slice none 0 0))):=aF0 hx fun b hb=>by
 rcases hb with h|h|h|h
 ·rw[h];exact ew8 _
 ·exact absurd h D0
 ·exact absurd h D0
 ·exact h.elim
theorem cz4{w w1 w2:World}(hw1:w.heap.size<w1.heap.size){α:Type}[G7 α]{T:TypeId}{u:Value}{l:List α}(ho:A9 (d7 w1) w2 T u l):R (B5 w2 (nP w.heap.size (.slice none 0 0))) u l:=
 ho.flatR fun b hb=>D3 fun h=>by
  have:=C9 (ho.free hb);rcases h with h|h|h|h
  ·omega
  ·exact absurd h D0
  ·exact absurd h D0
  ·exact h.elim
theorem aq0{p:Pg}(hr:E4 p)(hw:C8 p≤1000000){i:Nat}(hi:i<p.procs.length):((p7 p).slotsIn (i:Int)).length≤33:=by
 have h1:=((aF1 hr hw).row hi).2.2;have h2:=O0 hr.may hi;unfold Bk.slotsIn;rw[V3 hi,R0,ev5,ew3];have e:(p7 p).ins=X5 p:=rfl;rw[e];omega
theorem aw8{p:Pg}(hr:E4 p){i:Nat}(hi:i<p.procs.length):((p7 p).slotsOut (i:Int)).length≤26:=by
 have h1:=((as8 hr.may).row hi).2.2;have e:(p7 p).slotsOut (i:Int)=R4 (F3 (H5 p) (i:Int)++[M3]):=rfl;rw[e,R0,ev5,ey3];omega
theorem aX0{p:Pg}(hr:E4 p){s:St}{c:Nat}(hc:az4 p s c):((p7 p).callOut s).length≤26:=by
 have h1:=aw8 hr hc.lt;have e:(p7 p).s.pr s.proc=(c:Int):=hc.pr;unfold Bk.callOut;rw[e];split
 ·exact ew0 (ey2 _ _) h1
 ·exact h1
def S4(p:Pg)(q:A4)(it:It):List Vx:=[⟨q,2,it.s.id,e0⟩]++if it.s.kind=4 then(((p7 p).slotsIn ((p7 p).s.pr it.s.proc)).map fun n=>(⟨q,5,it.s.id,n⟩:Vx))++((p7 p).callOut it.s).map fun n=>(⟨q,6,it.s.id,n⟩:Vx)else[]
theorem bb7{p:Pg}(hr:E4 p)(hw:C8 p≤1000000)(q:A4){it:It}(hit:it∈(b9 p).l):(S4 p q it).length≤100:=by
 unfold S4;rw[ev5,ey3];split
 ·rename_i h4;obtain⟨c,hc⟩:=V4 (hr.fits it hit h4);have e:(p7 p).s.pr it.s.proc=(c:Int):=hc.pr;have h1:=aq0 hr hw hc.lt;have h2:=aX0 hr hc;rw[e,ev5,ew3,ew3];omega
 ·simp
theorem cA2{p:Pg}{i x y:Nat}(pt:al5 p i x y){it:It}(hit:it∈(b9 p).of i):it∈(b9 p).l:=by
 rw[pt.ok.of_]at hit;exact eD8 (eF9 hit)
theorem aM8(a:Addr)(p:Pg)(i:Nat)(w:World)(ha:At (d7 w) a (p7 p))(hr:E4 p)(hw:C8 p≤1000000)(hi:i<p.procs.length):
  Calls prog 42 #[.pointer (some a),.int .i64 i] w fun e w'=>∃u,e = .returned u∧(A9 (d7 w) w' 36 u ((p7 p).verts (i:Int))∧o6 w w'):=by
 refine d9 (args:=[.pointer (some a),.int .i64 i]) hm func42 rfl (by kernel_rfl) (by show 2≤_;decide +kernel) ?_;obtain⟨il,hil,hil1⟩:=cX5;obtain⟨x,pt⟩:=M9 hr.may hw i hi;have h200:=J3 hr.may;obtain⟨sh,vw,vd,_,vi,vo,has,hvw,hvd,_,hvi,hvo,ldb,sdb⟩:=ha.book rfl;obtain⟨_,_,_,_,_,_,hpg,_,_⟩:=has.sh;rw[I6]at hpg;obtain⟨vg,vp,hvg,hvp,ldp,sdp⟩:=hpg.pg;have lb:=ldb w (i4 _);have lp:=ldp w (i4 _);have hF:(p7 p).vert0 (i:Int)=([⟨p.procs[i].name,1,0,e0⟩]++((p7 p).slotsIn (i:Int)).map fun n=>(⟨p.procs[i].name,3,0,n⟩:Vx))++(((p7 p).slotsOut (i:Int)).map fun n=>(⟨p.procs[i].name,4,0,n⟩:Vx))++((b9 p).of i).flatMap (S4 p p.procs[i].name):=by
  unfold Bk.vert0;rw[V3 hi];rfl
 have hfi:=aq0 hr hw hi;have hfo:=aw8 hr hi;have hVl:∀it∈(b9 p).of i,(S4 p p.procs[i].name it).length≤100:=fun it hit=>bb7 hr hw _ (cA2 pt hit);have hV:∀it,S4 p p.procs[i].name it=[⟨p.procs[i].name,2,it.s.id,e0⟩]++if it.s.kind=4 then(((p7 p).slotsIn ((p7 p).s.pr it.s.proc)).map fun n=>(⟨p.procs[i].name,5,it.s.id,n⟩:Vx))++((p7 p).callOut it.s).map fun n=>(⟨p.procs[i].name,6,it.s.id,n⟩:Vx)else[]:=fun it=>rfl;have hcalls:∀it∈(b9 p).of i,it.s.kind=4→∃c,az4 p it.s c:=fun it hit h4=>V4 (hr.fits it (cA2 pt hit) h4);have hlens:((b9 p).of i).length≤200:=by
  rw[pt.ok.of_,eD7,ew6];omega
 have hin:=hvp.inS hi;obtain⟨sv,hsv,hld⟩:=G1 (P:=prog) (t:=53) hvp (i4 _) (ev2 hi) ao0 ao4 ao1 O1;rw[O1]at hld;obtain⟨cs,rfl,c1,c2,c3,c4,rfl,_⟩:=hsv;generalize p.procs[i].name=q at hF hV hVl hld;have hbp:=bE6 a (i:Int) q c1 c2 c3 c4;have hbx:(Instr.box 122 (.agg (H2 a i q c1 c2 c3 c4 (.slice none 0 0) (.slice none 0 0)))).run prog w = .ok (.pointer (some ⟨w.heap.size,0,none⟩)) (w.alloc (.cells (H2 a i q c1 c2 c3 c4 (.slice none 0 0) (.slice none 0 0)) 122)):=rfl;simp only[m8,n9,p9,simprocAttr,lb,lp,hin,hld,hbp,hbx];have hxa:=o6.alloc w (.cells (H2 a i q c1 c2 c3 c4 (.slice none 0 0) (.slice none 0 0)) 122);have hsz1:w.heap.size<(w.alloc (.cells (H2 a i q c1 c2 c3 c4 (.slice none 0 0) (.slice none 0 0)) 122)).heap.size:=by simp
 generalize hw1:w.alloc (.cells (H2 a i q c1 c2 c3 c4 (.slice none 0 0) (.slice none 0 0)) 122)=w1 at hxa hsz1;refine y5 cx4 (aD9 a p i w1 (ha.mono (b7 hxa)) hr hw hi) ?_;rintro _ w2 ⟨ui,uo,rfl,hoi,hoo,hdj,hx2⟩;have hx02:=hxa.trans hx2;rw[←hw1]at hx2;have s2:=(PV.new a i q c1 c2 c3 c4 hx2).1;have hui:=cz4 hsz1 hoi;have huo:=cz4 hsz1 hoo;have hbase:=cd3 hx02;generalize hgb:w.heap.size=gb at s2 hui huo hbase;generalize hH0:B5 w2 (nP gb (.slice none 0 0))=H0 at s2 hui huo hbase;have s3:=s2.more (o6.drew w2);have hcb:∀w',o9 (fun _=>False) w2.drew w'→w'.heap[gb]?=some (.cells (H2 a i q c1 c2 c3 c4 (.slice none 0 0) (.slice none 0 0)) 122 (0,0)):=fun w' hm=>(hm.block gb (ev9.1 s3.cb).1 id).trans s3.cb;have k7:∀K f d w0',B8 prog (fun w'=>o9 (fun _=>False) w2.drew w') (Instr.loadAt 30 (.pointer (some ⟨gb,7,none⟩))) K f d w0'=K (A5 f d (.slice none 0 0)) w0':=fun K f d w0'=>A0 (w0:=w2.drew) (o9.refl _) fun w' h=>E8 (i:=7) (u:=.slice none 0 0) (hcb w' h) rfl bw1;simp only[m8,simprocAttr];refine C2 (fun w'=>o9 (fun _=>False) w2.drew w') 9 (A8 [0,1,2,3,4,5,6,7,8]) (by decide +kernel) (o9.refl _) ?_;have hse:Value.string {data:=#[]}=o7 e0:=rfl;simp only[D5,A8,m8,n9,simprocAttr,k7,hse];refine y5 ai1 (I0 gb _ _ q 1 0 e0 w2.drew s3.cb rfl) ?_;rintro _ w3 ⟨rfl,hx3⟩;refine⟨hx3,?_⟩;have s4:=s3.more hx3;obtain⟨p1,v5,w4,w5,p2,p3,s5,p4⟩:=s4.push (P:=prog) (e:=30) bM4 rfl (x:=.agg (z6.cells (⟨q,1,0,e0⟩:Vx)).toArray) (y:=⟨q,1,0,e0⟩) ((z6.iff_ _ _ _).2 rfl) (by simp) (by simp) (ix:=7) (by simp[H2]) (fun v v'=>by simp[H2]) hil hil1;have p4':o9 (fun _=>False) w3 w4:=p4.weaken fun b _ hb=>D0 hb;simp only[D5,m8,n9,simprocAttr,p1,p2,F7];refine⟨hx3.trans (o6.alloc _ _),hx3.trans p4',?_⟩;simp only[m8,simprocAttr,p3];simp only[eG1]at s5;have hui5:=z7.mono s5.base hui;refine y5 cx5 (aF8 H0 gb a i q c1 c2 c3 c4 v5 _ 3 0 ui _ w w5 s5 hui5 (by rw[ey3];omega)) ?_;rintro r6 w6 ⟨v6,s6⟩;have s6:=s6.rebase (p8 s5.base s6.base);have huo6:=z7.mono s6.base huo;simp only[m8,simprocAttr];refine y5 cx5 (aF8 H0 gb a i q c1 c2 c3 c4 v6 _ 4 0 uo _ w w6 s6 huo6 (by rw[ev5,ey3,ew3];omega)) ?_;rintro r7 w7 ⟨v7,s7⟩;have s7:=s7.rebase (p8 s6.base s7.base);have hb7:B4 (d7 w) (d7 w7):=p8 hbase s7.hb;have lb7:=ldb w7 hb7;simp only[m8,n9,simprocAttr,lb7];refine y5 aY8 (aD3 (d7 w) sh (b9 p) i x _ w7 has hb7 pt.ok) ?_;rintro ul w8 ⟨hul,hx8⟩;have s8:=s7.more hx8;have hprel:(([(⟨q,1,0,e0⟩:Vx)]++((p7 p).slotsIn (i:Int)).map fun n=>(⟨q,3,0,n⟩:Vx))++(((p7 p).slotsOut (i:Int)).map fun n=>(⟨q,4,0,n⟩:Vx))).length≤60:=by
  rw[ev5,ev5,ey3,ew3,ew3];omega
 generalize(([(⟨q,1,0,e0⟩:Vx)]++((p7 p).slotsIn (i:Int)).map fun n=>(⟨q,3,0,n⟩:Vx))++(((p7 p).slotsOut (i:Int)).map fun n=>(⟨q,4,0,n⟩:Vx)))=pre at s8 hF hprel;generalize(b9 p).of i=L at hul hF hVl hcalls hlens;have hSl:=hul.isS;have hnl:=hul.vlen;clear s2 s3 s4 s5 s6 s7 hcb k7;simp only[m8,n9,simprocAttr,hSl,hnl];refine n8 [0,1,5,53,54] (σ:=Nat×Value) (fun t f w'=>f 55 = .int .i64 t.1∧t.1≤L.length∧PV H0 w w' gb a i q c1 c2 c3 c4 t.2 (pre++(L.take t.1).flatMap (S4 p q))) (fun t=>L.length-t.1) (0,v7) (by decide +kernel) ?_ ?_
 ·simp only[p6,simprocAttr];exact⟨by trivial,ew4 _,by simpa using s8⟩
 clear s8;rintro⟨k,v⟩ f w9 hk ⟨h55,hkl,s9⟩;simp only at h55 hkl s9;simp only[ev4,p6,simprocAttr]at hk;obtain⟨e0',e1,e5,e53,e54,_⟩:=hk;have hpl:(pre++(L.take k).flatMap (S4 p q)).length≤30000:=by
  rw[ev5];have h1:=Q7 (S4 p q) 100 (L.take k) fun z hz=>hVl z (eD8 hz);rw[ew6]at h1;have h2:min k L.length≤200:=by omega
  omega
 have hb9:B4 (d7 w) (d7 w9):=p8 hbase s9.hb;simp only[m8,n9,simprocAttr,h55,e54];refine i5 (fun hc=>?_) (fun hc=>?_);rotate_left
 ·have hge:k=L.length:=by simp at hc;omega
  subst hge;rw[ew5]at s9 hpl;have l7:(Instr.loadAt 30 (.pointer (some ⟨gb,7,none⟩))).run prog w9 = .ok v w9:=E8 (i:=7) (u:=v) s9.cb rfl bw1;simp only[m8,n9,simprocAttr,e5,l7];refine y5 er9 (bW1 s9.ox (by omega) fun a _ b _ h1 h2=>au2 (br4.eq0 h1 h2)) ?_;rintro _ w10 ⟨ho10,hm10⟩;have l7':(Instr.loadAt 30 (.pointer (some ⟨gb,7,none⟩))).run prog w10 = .ok v w10:=E8 (i:=7) (u:=v) ((hm10.block gb (ev9.1 s9.cb).1 fun h=>(s9.dx gb h).2.1 rfl).trans s9.cb) rfl bw1;simp only[m8,n9,simprocAttr,e5,l7'];refine n7 results42 ?_;simp only[p6,simprocAttr];refine⟨?_,o9.ext_of s9.ext hm10 fun b hb=>(s9.dx b hb).1⟩;have e:(p7 p).verts (i:Int)=U2 co4 (pre++L.flatMap (S4 p q)):=by unfold Bk.verts;rw[hF]
  rw[e];exact ho10.downN (p8 hbase s9.base)
 have hlt:k<L.length:=by simpa using hc
 have htk:=J0 (S4 p q) L hlt;have hmem:=ew2 hlt;clear hin hld;have hin:=hul.inS hlt;obtain⟨sv,hsv,hld⟩:=G1 (P:=prog) (t:=127) hul (hb9) (ev2 hlt) X9 Y1 Y0 I9;rw[I9]at hld;have hVe:=hV L[k];have hcl:=hcalls _ hmem;generalize L[k]=it at hsv htk hVe hcl;generalize hys:pre++(L.take k).flatMap (S4 p q)=ys at s9 hpl;obtain⟨d,wz,w10,hal,hst,hx10,hati⟩:=aG8 (w:=w9) (nP gb v) hsv fun b hb=>s9.lt hb;have s10:=s9.more hx10;have b10:=s10.base;have s10:=s10.rebase (i4 _);generalize hK:B5 w10 (nP gb v)=K at s10 b10 hati;obtain⟨us,hus,hats,_,_⟩:=L8.it hsv hati;obtain⟨_,_,_,_,_,_,_,_,_,_,_,lds,sds⟩:=L8.st hus hats;have ldv:=(L8.st_v hus hats).1;have s11:=s10.more (o6.drew w10);have hcb11:∀w',o9 (A3 v) w10.drew w'→w'.heap[gb]?=some (.cells (H2 a i q c1 c2 c3 c4 v (.slice none 0 0)) 122 (0,0)):=fun w' hm=>(hm.block gb (ev9.1 s11.cb).1 fun h=>(s11.dx gb h).2.1 rfl).trans s11.cb;have k7:∀K f d w0',B8 prog (fun w'=>o9 (A3 v) w10.drew w') (Instr.loadAt 30 (.pointer (some ⟨gb,7,none⟩))) K f d w0'=K (A5 f d v) w0':=fun K f d w0'=>A0 (w0:=w10.drew) (o9.refl _) fun w' h=>E8 (i:=7) (u:=v) (hcb11 w' h) rfl bw1;have t1:=sds (fun w'=>o9 (A3 v) w10.drew w') w10.drew (o9.refl _) fun w' h=>p8 s11.base (p8 (H1 h (fun b hb=>.inr (.inl hb)) fun b hb=>.inl hb) (C0 _ _));simp only[m8,n9,p9,simprocAttr,h55,e53,hin,hld,hal,hst];refine C2 (fun w'=>o9 (A3 v) w10.drew w') 12 (A8 [0,1,2,3,4,5,6,7,8,9,10,11]) (by decide +kernel) (o9.refl _) ?_;simp only[D5,A8,m8,n9,simprocAttr,e5,k7,t1];refine y5 ai1 (I0 gb _ _ q 2 it.s.id e0 w10.drew s11.cb rfl) ?_;rintro _ w12 ⟨rfl,hx12⟩;refine⟨o9.up hx12,?_⟩;have s12:=s11.more hx12;obtain⟨p1,v',w13,w14,p2,p3,s14,p4⟩:=s12.push (P:=prog) (e:=30) bM4 rfl (x:=.agg (z6.cells (⟨q,2,it.s.id,e0⟩:Vx)).toArray) (y:=⟨q,2,it.s.id,e0⟩) ((z6.iff_ _ _ _).2 rfl) (by omega) (by omega) (ix:=7) (by simp[H2]) (fun v v'=>by simp[H2]) hil hil1;simp only[D5,m8,n9,simprocAttr,p1,p2,F7];refine⟨(o9.up hx12).trans (o9.up (o6.alloc _ _)),(o9.up hx12).trans p4,?_⟩;have l14:=lds w14 s14.hb;have hb14:B4 (d7 w) (d7 w14):=p8 hbase (p8 b10 s14.hb);have hyl:(ys++[(⟨q,2,it.s.id,e0⟩:Vx)]).length≤30001:=by rw[ev5,ey3];omega
 clear s9 s10 s11 s12 k7 hcb11 t1;rcases ev3 (decide (it.s.kind=4))with h4|h4
 ·have e4:=ev6 h4;obtain⟨c,hc4⟩:=hcl e4;have epr:(p7 p).s.pr it.s.proc=(c:Int):=hc4.pr;have hf1:=aq0 hr hw hc4.lt;have hf2:=aX0 hr hc4;rw[if_pos e4,epr]at hVe;have lv14:=ldv w14 s14.hb;simp only[m8,n9,simprocAttr,e5,p3,l14,h4,lv14];refine y5 er8 (cn5 gb _ _ a p us it.s c w14 s14.cb rfl (ha.mono hb14) hr hw (hus.mono hb14) hc4) ?_;rintro _ w15 ⟨ui2,uo2,rfl,hoi2,hoo2,hdj2,hx15⟩;have s15:=s14.more hx15;have hui2:=s14.fresh hoi2;have huo2:=s14.fresh hoo2;have l15:=lds w15 s15.hb;generalize(p7 p).slotsIn (c:Int)=Si at hVe hf1 hui2;generalize(p7 p).callOut it.s=So at hVe hf2 huo2;simp only[m8,n9,simprocAttr,e5,l15];refine y5 cx5 (aF8 K gb a i q c1 c2 c3 c4 v' _ 5 it.s.id ui2 Si w w15 s15 hui2 (by omega)) ?_;rintro _ w16 ⟨v16,s16⟩;have huo16:=z7.mono s16.base huo2;have b16:=p8 s15.base s16.base;have l16:=lds w16 (p8 b16 (C0 _ _));simp only[m8,n9,simprocAttr,e5,l16];refine y5 cx5 (aF8 _ gb a i q c1 c2 c3 c4 v16 _ 6 it.s.id uo2 So w w16 s16 huo16 (by rw[ev5,ew3];omega)) ?_;rintro _ w17 ⟨v17,s17⟩;have hlist:pre++(L.take (k+1)).flatMap (S4 p q)=ys++[(⟨q,2,it.s.id,Go.Proofs.YtdgicngfmfldmaaGreat.e0⟩:Vx)]++(Si.map fun n=>(⟨q,5,it.s.id,n⟩:Vx))++So.map fun n=>(⟨q,6,it.s.id,n⟩:Vx):=by
   rw[htk,hVe,←hys];simp only[ex9]
  simp only[m8,n9,simprocAttr,h55];refine⟨(k+1,v17),by simp only[];omega,by simp only[];rw[B1 k (by omega)],by simp only[];omega,?_⟩;simp only[];rw[hlist];exact s17.rebase (p8 b10 (p8 b16 s17.base))
 ·have e4:=ev7 h4;rw[if_neg e4,ey6]at hVe;have hlist:pre++(L.take (k+1)).flatMap (S4 p q)=ys++[(⟨q,2,it.s.id,Go.Proofs.YtdgicngfmfldmaaGreat.e0⟩:Vx)]:=by
   rw[htk,hVe,←hys];simp only[ex9]
  simp only[m8,n9,simprocAttr,p3,l14,h4,h55];refine⟨(k+1,v'),by simp only[];omega,by simp only[];rw[B1 k (by omega)],by simp only[];omega,?_⟩;simp only[];rw[hlist];exact s14.rebase (p8 b10 s14.base)
theorem bW2(vs:Value)(ag:Ar)(w:World)(hv:SV (d7 w) vs ag)(hl:R2 ag.x≤1000000):
  Calls prog 112 #[vs] w fun e w'=>∃u,e = .returned u∧(A9 (d7 w) w' 9 u (U3 ag)∧o6 w w'):=by
 refine d9 (args:=[vs]) hm func112 rfl (by kernel_rfl) (by show 1≤_;decide +kernel) ?_;obtain⟨d,w1,hb1,hx1,hat⟩:=cL3 hv (i4 _);obtain⟨hatx,ldg,_⟩:=hat.ar;obtain⟨sx,hsx,ldx,_⟩:=hatx.ex_v;have l1:=ldg w1 (i4 _);have lx1:=ldx w1 (i4 _);unfold U3;cases hr:ag.ref
 ·rw[hr]at l1;simp only[m8,n9,simprocAttr,hb1,l1,lx1];refine y5 bA1 (al4 sx ag.x w1 hsx hl) ?_;rintro u w2 ⟨ho,hx2⟩;simp only[m8,simprocAttr];refine n7 results112 ?_;simp only[p6,simprocAttr];exact⟨ho.back hx1,hx1.trans hx2⟩
 ·rw[hr]at l1;obtain⟨u,w2,q1,q2,q3,_⟩:=cc6 ag.name w1 (b7 hx1);simp only[m8,n9,simprocAttr,hb1,l1,q1];refine n7 results112 ?_;simp only[p6,simprocAttr];exact⟨q2,hx1.trans q3⟩
theorem dH8(w:World):∃w0,(Instr.alloc 36 true (.tuple #[])).run prog w = .ok (.pointer (some ⟨w.heap.size,0,none⟩)) w0∧o6 w w0∧∀(w':World) (y:Vx),o6 w0 w' →
  ∃w'',(Instr.storeAt 36 (.pointer (some ⟨w.heap.size,0,none⟩)) (.agg (z6.cells y).toArray)).run prog w' = .ok () w''∧(Instr.loadAt 36 (.pointer (some ⟨w.heap.size,0,none⟩))).run prog w'' = .ok (.agg (z6.cells y).toArray) w''∧o6 w w'':=by
 obtain⟨z,hz,hzs⟩:∃z,H6 prog 36=some z∧z.cells.size=E3 prog 36:=⟨_,bw4,by rw[ad2];rfl⟩;have hcs:∀y:Vx,(z6.cells y).toArray.size=E3 prog 36:=fun y=>by rw[ad2];rfl
 have h1:=(aT9 (P:=prog) (w:=w) (T:=36) hz hzs (cs:=(z6.cells (⟨e0,0,0,e0⟩:Vx)).toArray) (hcs _) (fun u hu=>aj9 _ u (by simpa using hu))).1;refine⟨_,h1,o6.alloc _ _,fun w' y hx=>?_⟩;have hb:w'.heap[w.heap.size]?=some (.cells z.cells 36 (0,0)):=(hx.block _ (by simp) id).trans (ez5 w _);obtain⟨w'',e1,e2,e3⟩:=ap1 (P:=prog) (T:=36) hb hz hzs (hcs y) (fun u hu=>aj9 y u (by simpa using hu));exact⟨w'',e1,ab6 e2 aI8 aJ0 aI9 (hcs y).symm,o9.ext_of ((o6.alloc _ _).trans hx) e3 fun b hb=>by rw[hb];exact ew8 _⟩
theorem br2{p:Pg}{s:St}{c:Nat}(hc:az4 p s c):(p7 p).callee s=p.procs[c]'hc.lt:=by
 have e:(p7 p).s.pr s.proc=(c:Int):=hc.pr;unfold Bk.callee;rw[e,V3 hc.lt]
theorem ck6(gb:Nat)(T:TypeId)(cs0:Array Value)(a:Addr)(p:Pg)(q:A4)(pl:Int)(n:A4)(w:World)(hb:w.heap[gb]?=some (.cells cs0 T (0,0)))(hc0:cs0[0]?=some (.pointer (some a)))(hcq:cs0[2]?=some (o7 q))(ha:At (d7 w) a (p7 p))(hr:E4 p)(hw:C8 p≤1000000)
  (hpl:pl=0∨∃j:Nat,pl=(j:Int)+1∧j<(b9 p).l.length) :
  Calls prog 67 #[.pointer (some ⟨gb,0,none⟩),.int .i64 pl,o7 n] w fun e w'=>∃u,e = .returned u∧(u = .agg (z6.cells ((p7 p).giver q pl n)).toArray∧o6 w w'):=by
 refine d9 (args:=[.pointer (some ⟨gb,0,none⟩),.int .i64 pl,o7 n]) hm func67 rfl (by kernel_rfl) (by show 3≤_;decide +kernel) ?_;obtain⟨w0,hal,hx0,hend⟩:=dH8 w;have hblk:∀w',o6 w w'→w'.heap[gb]?=some (.cells cs0 T (0,0)):=fun w' hx=>(hx.block gb (ev9.1 hb).1 id).trans hb;have hse:Value.string {data:=#[]}=o7 e0:=rfl;have hsg:Value.string {data:=#[36,114,101,116]}=o7 M3:=rfl;rcases ev3 (decide (pl=0))with h0|h0
 ·have e0':=ev6 h0;simp only[m8,n9,simprocAttr,hal,h0];refine B3 ai1 (I0 gb T cs0 q 3 0 n w0 (hblk w0 hx0) hcq) (fun w1 hx1=>?_);obtain⟨w2,q1,q2,hx2⟩:=hend w1 ⟨q,3,0,n⟩ hx1;simp only[m8,simprocAttr,q1];refine L6 results67 (ad:=⟨w.heap.size,0,none⟩) (by simp only[p6,simprocAttr]) q2 ?_;refine⟨?_,hx2⟩;unfold Bk.giver;rw[if_pos e0']
 have hne:=ev7 h0;obtain⟨j,rfl,hjl⟩:∃j:Nat,pl=(j:Int)+1∧j<(b9 p).l.length:=by
  rcases hpl with h|h
  ·exact absurd h hne
  ·exact h
 have h200:=J3 hr.may;obtain⟨sh,vw,vd,_,vi,vo,has,hvw,hvd,_,hvi,hvo,ldb,sdb⟩:=ha.book rfl;obtain⟨vl,_,_,hvl,_,_,hpg,lds,_⟩:=has.sh;rw[I6]at hpg;obtain⟨vg,vp,hvg,hvp,ldp,sdp⟩:=hpg.pg;have hle0:=b7 hx0;have lb0:=ldb w0 hle0;have ls0:=lds w0 hle0;have k0:(Instr.loadAt 82 (.pointer (some ⟨gb,0,none⟩))).run prog w0 = .ok (.pointer (some a)) w0:=E8 (i:=0) (hblk w0 hx0) hc0 bb2;have hwj:IntKind.i64.wrap ((j:Int)+1-1)=(j:Int):=by rw[K1 _ (by omega)];omega
 have hinl:=hvl.inS (k:=j) hjl;have hatl:=hvl.at_ (i:=j) (x:=(b9 p).l[j]) (ev2 hjl);have hz17:z7.sz It=17:=rfl;rw[hz17]at hatl;have hmem:=ew2 hjl;have hfits:=hr.fits _ hmem;have hite:(b9 p).it ((j:Int)+1)=(b9 p).l[j]:=by
  unfold Sh.it;rw[show((j:Int)+1-1).toNat=j by omega,List.getD,ev2 hjl];rfl
 have hGv:(p7 p).giver q ((j:Int)+1) n=if((b9 p).l[j]).s.kind≠4 then⟨q,2,(j:Int)+1,e0⟩else if((b9 p).l[j]).s.name=n then⟨q,6,(j:Int)+1,M3⟩
   else match(((b9 p).l[j]).s.args.zip ((p7 p).callee ((b9 p).l[j]).s).params).find? fun x=>x.1.ref&&decide (x.1.name=n)with
    | some x=>⟨q,6,(j:Int)+1,x.2.name⟩
    | none=>⟨q,6,(j:Int)+1,n⟩:=by
  have hs:(p7 p).s=b9 p:=rfl;unfold Bk.giver;rw[if_neg hne,hs,hite];rfl
 generalize(b9 p).l[j]=it at hatl hfits hGv;obtain⟨hats,_,_⟩:=hatl.it;obtain⟨sv,hsv,ldv,_⟩:=hats.st_v;have lv0:=ldv w0 hle0;obtain⟨d,wz,w1,hal1,hst1,hx1,hat⟩:=aR8 (hsv.mono hle0) (i4 _);obtain⟨_,va,_,_,_,hva,_,_,_,ldd,_⟩:=hat.st;obtain⟨sv2,hsv2,_,sdv2⟩:=hat.st_v;have l1:=ldd w1 (i4 _);have hx01:=hx0.trans hx1;rcases ev3 (decide (it.s.kind=4))with h4|h4;rotate_left
 ·have e4:=ev7 h4;simp only[m8,n9,p9,simprocAttr,hal,h0,k0,lb0,ls0,hwj,hinl,lv0,hal1,hst1,l1,h4,hse];refine B3 ai1 (I0 gb T cs0 q 2 ((j:Int)+1) e0 w1 (hblk w1 hx01) hcq) (fun w2 hx2=>?_);obtain⟨w3,q1,q2,hx3⟩:=hend w2 ⟨q,2,(j:Int)+1,e0⟩ (hx1.trans hx2);simp only[m8,simprocAttr,q1];refine L6 results67 (ad:=⟨w.heap.size,0,none⟩) (by simp only[p6,simprocAttr]) q2 ?_;refine⟨?_,hx3⟩;rw[hGv,if_pos e4]
 have e4:=ev6 h4;rw[if_neg (by simpa using e4)]at hGv;rcases ev3 (decide (it.s.name=n))with h5|h5
 ·have e5:=ev6 h5;simp only[m8,n9,p9,simprocAttr,hal,h0,k0,lb0,ls0,hwj,hinl,lv0,hal1,hst1,l1,h4,h5,hsg];refine B3 ai1 (I0 gb T cs0 q 6 ((j:Int)+1) M3 w1 (hblk w1 hx01) hcq) (fun w2 hx2=>?_);obtain⟨w3,q1,q2,hx3⟩:=hend w2 ⟨q,6,(j:Int)+1,M3⟩ (hx1.trans hx2);simp only[m8,simprocAttr,q1];refine L6 results67 (ad:=⟨w.heap.size,0,none⟩) (by simp only[p6,simprocAttr]) q2 ?_;refine⟨?_,hx3⟩;rw[hGv,if_pos e5]
 have e5:=ev7 h5;obtain⟨c,hc⟩:=V4 (hfits e4);rw[if_neg e5,br2 hc]at hGv;have hlen:=hc.len;have hpl8:=O0 hr.may hc.lt;have hatp:=hvp.at_ (i:=c) (x:=p.procs[c]'hc.lt) (ev2 hc.lt);have hinp:=hvp.inS (k:=c) hc.lt;have hz5:z7.sz Pr=5:=rfl;rw[hz5]at hatp;obtain⟨vpa,_,_,_,hvpa,_,_,_,_,sdr⟩:=hatp.pr;have hkp:=hc.pr;generalize(p.procs[c]'hc.lt).params=pas at hGv hlen hpl8 hvpa;have hSa:=hva.isS;have hna:=hva.vlen;simp only[m8,n9,p9,simprocAttr,hal,h0,k0,lb0,ls0,hwj,hinl,lv0,hal1,hst1,l1,h4,h5,hSa,hna];refine n8 [0,1,2,6,7,44,45] (σ:=Nat) (fun k f w'=>f 46 = .int .i64 k∧k≤it.s.args.length∧(∀m (hm:m<it.s.args.length),m<k→(it.s.args[m].ref&&decide (it.s.args[m].name=n))=false)∧o6 w1 w') (fun k=>it.s.args.length-k) 0 (by decide +kernel) ?_ ?_
 ·simp only[p6,simprocAttr];exact⟨by trivial,ew4 _,fun m _ h=>by omega,o9.refl _⟩
 rintro k f w2 hk ⟨h46,hkl,hno,hx2⟩;simp only[ev4,p6,simprocAttr]at hk;obtain⟨g0,g1,g2,g6,g7,g44,g45,_⟩:=hk;simp only[m8,n9,simprocAttr,h46,g45];refine i5 (fun hc2=>?_) (fun hc2=>?_);rotate_left
 ·have hge:k=it.s.args.length:=by simp at hc2;omega
  subst hge;simp only[m8,simprocAttr,g0,g1,g2];refine B3 ai1 (I0 gb T cs0 q 6 ((j:Int)+1) n w2 (hblk w2 (hx01.trans hx2)) hcq) (fun w3 hx3=>?_);obtain⟨w4,q1,q2,hx4⟩:=hend w3 ⟨q,6,(j:Int)+1,n⟩ (hx1.trans (hx2.trans hx3));simp only[m8,simprocAttr,g6,q1];refine L6 results67 (ad:=⟨w.heap.size,0,none⟩) (by simp only[p6,simprocAttr];exact g6) q2 ?_;refine⟨?_,hx4⟩;rw[hGv,eE9.2 fun z hz=>?_];obtain⟨m,hm⟩:=eC9.1 hz;rw[List.getElem?_zip_eq_some]at hm;obtain⟨hml,hme⟩:=ev8.1 hm.1;have:=hno m hml hml;rw[hme]at this;simp[this]
 have hlt:k<it.s.args.length:=by simpa using hc2
 have hin:=hva.inS hlt;obtain⟨sv,hsv,hld⟩:=G1 (P:=prog) (t:=107) hva (b7 hx2) (ev2 hlt) ax3 ax5 ax4 T7;rw[T7]at hld;have hnok:=hno;have hargk:∀(b:Bool),(it.s.args[k].ref&&decide (it.s.args[k].name=n))=b→(b=false→∀m (hm:m<it.s.args.length),m<k+1→(it.s.args[m].ref&&decide (it.s.args[m].name=n))=false):=fun b hb hbf m hm hmk=>by
  rcases ez0 m k with h|h
  ·exact hno m hm h
  ·obtain rfl:m=k:=by omega
   rw[hb,hbf]
 have hltp:k<pas.length:=by omega
 have hfind:(it.s.args[k].ref&&decide (it.s.args[k].name=n))=true→(it.s.args.zip pas).find? (fun x=>x.1.ref&&decide (x.1.name=n))=some (it.s.args[k],pas[k]):=fun ht=>by
  rw[eD5];refine⟨ht,k,by rw[List.length_zip];omega,by rw[List.getElem_zip],fun m hm=>?_⟩;rw[List.getElem_zip];have:=hno m (by omega) hm;simp only[this];rfl
 have hatpa:=hvpa.at_ (i:=k) (x:=pas[k]) (ev2 hltp);have hinpa:=hvpa.inS (k:=k) hltp;have hz2:z7.sz Pa=2:=rfl;rw[hz2]at hatpa;obtain⟨_,sdpa⟩:=hatpa.pa;generalize pas[k]=pa at hfind sdpa;generalize it.s.args[k]=ag at hsv hargk hfind;obtain⟨d3,wz3,w3,hal3,hst3,hx3,hat3⟩:=aR7 (hsv.mono (b7 hx2)) (i4 _);obtain⟨_,ldg,_⟩:=hat3.ar;have l3:=ldg w3 (i4 _);have hx13:=hx2.trans hx3;cases hrf:ag.ref
 ·rw[hrf]at l3;simp only[m8,n9,p9,simprocAttr,h46,g44,hin,hld,hal3,hst3,l3];exact⟨k+1,by omega,by rw[B1 k (by omega)],by omega,hargk false (by rw[hrf];rfl) rfl,hx13⟩
 rw[hrf]at l3;rcases ev3 (decide (ag.name=n))with h6|h6;rotate_left
 ·simp only[m8,n9,p9,simprocAttr,h46,g2,g44,hin,hld,hal3,hst3,l3,h6];exact⟨k+1,by omega,by rw[B1 k (by omega)],by omega,hargk false (by rw[hrf,h6];rfl) rfl,hx13⟩
 have hx03:=hx01.trans hx13;have hx03d:=hx03.trans (o6.drew w3);have hh3:∀w',o6 w3.drew w'→B4 (d7 w) (d7 w'):=fun w' h=>b7 (hx03d.trans h);have t0:∀K f d w0',B8 prog (fun w'=>o6 w3.drew w') (Instr.loadAt 82 (.pointer (some ⟨gb,0,none⟩))) K f d w0'=K (A5 f d (.pointer (some a))) w0':=fun K f d w0'=>A0 (w0:=w3.drew) (o9.refl _) fun w' h=>E8 (i:=0) (hblk w' (hx03d.trans h)) hc0 bb2;have t1:=sdb (fun w'=>o6 w3.drew w') w3.drew (o9.refl _) hh3;have t2:=sdp (fun w'=>o6 w3.drew w') w3.drew (o9.refl _) hh3;have t3:=sdr (fun w'=>o6 w3.drew w') w3.drew (o9.refl _) hh3;have t4:=sdpa (fun w'=>o6 w3.drew w') w3.drew (o9.refl _) hh3;have t5:=sdv2 (fun w'=>o6 w3.drew w') w3.drew (o9.refl _) fun w' h=>b7 ((hx13.trans (o6.drew w3)).trans h);simp only[m8,n9,p9,simprocAttr,h46,g2,g44,hin,hld,hal3,hst3,l3,h6];refine C2 (fun w'=>o6 w3.drew w') 26 (A8 [0,1,2,3,4,5,6,7,8,9,10,11,12,13,14,15,16,17,22,18,19,20,21,23,24,25]) (by decide +kernel) (o9.refl _) ?_;simp only[D5,A8,m8,n9,simprocAttr,g0,g1,g7,t0,t1,t2,t5];refine B3 bA0 (al3 a (p7 p) p sv2 it.s w3.drew (ha.mono (b7 hx03d)) rfl hr.may (hsv2.mono (b7 (hx13.trans (o6.drew w3))))) (fun w4 hx4=>⟨hx4,?_⟩);rw[hkp];have hx04:=hx03d.trans hx4;simp only[D5,m8,n9,p9,simprocAttr,t3,t4,hinp,hinpa];refine B3 ai1 (I0 gb T cs0 q 6 ((j:Int)+1) pa.name w4 (hblk w4 hx04) hcq) (fun w5 hx5=>?_);obtain⟨w6,q1,q2,hx6⟩:=hend w5 ⟨q,6,(j:Int)+1,pa.name⟩ (hx1.trans (((hx13.trans (o6.drew w3)).trans hx4).trans hx5));simp only[m8,simprocAttr,g6,q1];refine L6 results67 (ad:=⟨w.heap.size,0,none⟩) (by simp only[p6,simprocAttr];exact g6) q2 ?_;refine⟨?_,hx6⟩;rw[hGv,hfind (by rw[hrf,h6];rfl)]
theorem ed9:af6 prog 112=true:=by kernel_rfl
theorem cX9(y:Vx)(w:World){h:Hp}(hw:B4 h (d7 w)):∃v w',(Instr.buildSlice 30 1 #[(0,.agg (z6.cells y).toArray)]).run prog w = .ok v w'∧A9 h w' 36 v [y]∧o6 w w'∧(∀b,A3 v b→w.heap.size≤b):=
 lit (P:=prog) (w:=w) (h:=h) (α:=Vx) (xs:=[.agg (z6.cells y).toArray]) (ys:=[y]) (parts:=#[(0,.agg (z6.cells y).toArray)]) (n:=1) bM4 rfl (U6.2 rfl) (fun x hx=>by rw[ey1.1 hx];rfl) rfl rfl (by simp) (by simp) hw
theorem cB2{h:Hp}{w:World}{v:Value}{l:List Vx}(ho:A9 h w 36 v l)(y:Vx)(hl:l.length≤1000000)(hw:B4 h (d7 w)){e:TypeId}:
  (Instr.buildSlice 30 1 #[(0,.agg (z6.cells y).toArray)]).run prog w = .ok (.slice (some ⟨w.heap.size,0,none⟩) 1 1) (w.alloc (.cells (z6.cells y).toArray 36)) ∧
  ∃v' w',(Builtin.append_ #[30,30] e #[v,.slice (some ⟨w.heap.size,0,none⟩) 1 1]).run prog (w.alloc (.cells (z6.cells y).toArray 36)) = .ok v' w'∧A9 h w' 36 v' (l++[y])∧o9 (A3 v) w w'∧F1 w v v':=by
 have:=push (P:=prog) (e:=e) bM4 rfl ho (x:=.agg (z6.cells y).toArray) (y:=y) ((z6.iff_ _ _ _).2 rfl) (by omega) (by omega) hw;exact this
theorem cW0(s:St):∀ag∈s.args,R2 ag.x≤O5 s:=by
 cases s;intro ag h;have:=aG9 h;unfold ah5 at this;simp only[St.args]at this;simp only[O5];omega
theorem bW5(gb:Nat)(T:TypeId)(cs0:Array Value)(a:Addr)(p:Pg)(q:A4)(pl:Int)(n:A4)(w:World)(hb:w.heap[gb]?=some (.cells cs0 T (0,0)))(hc0:cs0[0]?=some (.pointer (some a)))(hcq:cs0[2]?=some (o7 q))(ha:At (d7 w) a (p7 p))(hr:E4 p)(hw:C8 p≤1000000)
  (hpl:pl = -1∨∃j:Nat,pl=(j:Int)+1∧j<(b9 p).l.length) :
  Calls prog 68 #[.pointer (some ⟨gb,0,none⟩),.int .i64 pl,o7 n] w fun e w'=>∃u,e = .returned u∧(A9 (d7 w) w' 36 u ((p7 p).takers q pl n)∧o6 w w'):=by
 refine d9 (args:=[.pointer (some ⟨gb,0,none⟩),.int .i64 pl,o7 n]) hm func68 rfl (by kernel_rfl) (by show 3≤_;decide +kernel) ?_;have hblk:∀w',o6 w w'→w'.heap[gb]?=some (.cells cs0 T (0,0)):=fun w' hx=>(hx.block gb (ev9.1 hb).1 id).trans hb;have hse:Value.string {data:=#[]}=o7 e0:=rfl;rcases ev3 (decide (pl = -1))with h0|h0
 ·have e0':=ev6 h0;simp only[m8,n9,simprocAttr,h0];refine B3 ai1 (I0 gb T cs0 q 4 0 n w hb hcq) (fun w1 hx1=>?_);obtain⟨u,w2,q1,q2,q3,_⟩:=cX9 ⟨q,4,0,n⟩ w1 (b7 hx1);simp only[m8,simprocAttr,q1];refine n7 results68 ?_;simp only[p6,simprocAttr];refine⟨?_,hx1.trans q3⟩;unfold Bk.takers;rw[if_pos e0'];exact q2
 have hne:=ev7 h0;obtain⟨j,rfl,hjl⟩:∃j:Nat,pl=(j:Int)+1∧j<(b9 p).l.length:=by
  rcases hpl with h|h
  ·exact absurd h hne
  ·exact h
 have h200:=J3 hr.may;obtain⟨sh,vw,vd,_,vi,vo,has,hvw,hvd,_,hvi,hvo,ldb,sdb⟩:=ha.book rfl;obtain⟨vl,_,_,hvl,_,_,hpg,lds,_⟩:=has.sh;rw[I6]at hpg;obtain⟨vg,vp,hvg,hvp,ldp,sdp⟩:=hpg.pg;have lb0:=ldb w (i4 _);have ls0:=lds w (i4 _);have k0:(Instr.loadAt 82 (.pointer (some ⟨gb,0,none⟩))).run prog w = .ok (.pointer (some a)) w:=E8 (i:=0) hb hc0 bb2;have hwj:IntKind.i64.wrap ((j:Int)+1-1)=(j:Int):=by rw[K1 _ (by omega)];omega
 have hinl:=hvl.inS (k:=j) hjl;have hatl:=hvl.at_ (i:=j) (x:=(b9 p).l[j]) (ev2 hjl);have hz17:z7.sz It=17:=rfl;rw[hz17]at hatl;have hmem:=ew2 hjl;have hfits:=hr.fits _ hmem;have hwts:=ac7 p hw _ hmem;have hite:(b9 p).it ((j:Int)+1)=(b9 p).l[j]:=by
  unfold Sh.it;rw[show((j:Int)+1-1).toNat=j by omega,List.getD,ev2 hjl];rfl
 have hGv:(p7 p).takers q ((j:Int)+1) n=if((b9 p).l[j]).s.kind≠4 then[⟨q,2,(j:Int)+1,e0⟩]
   else(((((b9 p).l[j]).s.args.zip ((p7 p).callee ((b9 p).l[j]).s).params).filter fun x=>(U3 x.1).contains n).map fun x=>(⟨q,5,(j:Int)+1,x.2.name⟩:Vx)) ++
    if(M7 p n&&(F3 (X5 p) ((b9 p).pr ((b9 p).l[j]).s.proc)).contains n)=true then[(⟨q,5,(j:Int)+1,n⟩:Vx)]else[]:=by
  have hs:(p7 p).s=b9 p:=rfl;have hi:(p7 p).ins=X5 p:=rfl;unfold Bk.takers;rw[if_neg hne,hs,hi,hite,I6]
 generalize(b9 p).l[j]=it at hatl hfits hGv hwts;have hwta:∀ag∈it.s.args,R2 ag.x≤1000000:=fun ag h=>ew0 (cW0 it.s ag h) hwts;obtain⟨hats,_,_⟩:=hatl.it;obtain⟨sv,hsv,ldv,_⟩:=hats.st_v;have lv0:=ldv w (i4 _);obtain⟨d,wz,w1,hal1,hst1,hx1,hat⟩:=aR8 hsv (i4 _);obtain⟨_,va,_,_,_,hva,_,_,_,ldd,_⟩:=hat.st;obtain⟨sv2,hsv2,_,sdv2⟩:=hat.st_v;have l1:=ldd w1 (i4 _);rcases ev3 (decide (it.s.kind=4))with h4|h4;rotate_left
 ·have e4:=ev7 h4;simp only[m8,n9,p9,simprocAttr,h0,k0,lb0,ls0,hwj,hinl,lv0,hal1,hst1,l1,h4,hse];refine B3 ai1 (I0 gb T cs0 q 2 ((j:Int)+1) e0 w1 (hblk w1 hx1) hcq) (fun w2 hx2=>?_);obtain⟨u,w3,q1,q2,q3,_⟩:=cX9 ⟨q,2,(j:Int)+1,e0⟩ w2 (b7 (hx1.trans hx2));simp only[m8,simprocAttr,q1];refine n7 results68 ?_;simp only[p6,simprocAttr];refine⟨?_,(hx1.trans hx2).trans q3⟩;rw[hGv,if_pos e4];exact q2
 have e4:=ev6 h4;obtain⟨c,hc⟩:=V4 (hfits e4);rw[if_neg (by simpa using e4),br2 hc,hc.pr]at hGv;have hlen:=hc.len;have hpl8:=O0 hr.may hc.lt;have hatp:=hvp.at_ (i:=c) (x:=p.procs[c]'hc.lt) (ev2 hc.lt);have hinp:=hvp.inS (k:=c) hc.lt;have hz5:z7.sz Pr=5:=rfl;rw[hz5]at hatp;obtain⟨vpa,_,_,_,hvpa,_,_,_,ldr,_⟩:=hatp.pr;have hkp:=hc.pr;generalize(p.procs[c]'hc.lt).params=pas at hGv hlen hpl8 hvpa;obtain⟨hrow,hrise,hfew⟩:=(aF1 hr hw).row hc.lt;generalize F3 (X5 p) (c:Int)=row at hrow hrise hfew hGv;obtain⟨ui,hui,hci⟩:=R.row hvi (show(p7 p).ins[c]?=some row from hrow);have hini:=hvi.inS (k:=c) (show c<(X5 p).length from(ev8.1 hrow).1);have hSa:=hva.isS;have hna:=hva.vlen;have hx1d:=hx1.trans (o6.drew w1);have t0:∀K f d w0',B8 prog (fun w'=>o6 w1.drew w') (Instr.loadAt 82 (.pointer (some ⟨gb,0,none⟩))) K f d w0'=K (A5 f d (.pointer (some a))) w0':=fun K f d w0'=>A0 (w0:=w1.drew) (o9.refl _) fun w' h=>E8 (i:=0) (hblk w' (hx1d.trans h)) hc0 bb2;have t5:=sdv2 (fun w'=>o6 w1.drew w') w1.drew (o9.refl _) fun w' h=>b7 ((o6.drew w1).trans h);simp only[m8,n9,p9,simprocAttr,h0,k0,lb0,ls0,hwj,hinl,lv0,hal1,hst1,l1,h4];refine C2 (fun w'=>o6 w1.drew w') 5 (A8 [0,1,2,3,4]) (by decide +kernel) (o9.refl _) ?_;simp only[D5,A8,m8,n9,simprocAttr,t0,t5];refine B3 bA0 (al3 a (p7 p) p sv2 it.s w1.drew (ha.mono (b7 hx1d)) rfl hr.may (hsv2.mono (b7 (o6.drew w1)))) (fun w2 hx2=>?_);rw[hkp];have hx12:=(o6.drew w1).trans hx2;have l2:=ldd w2 (b7 hx12);have hzl:(it.s.args.zip pas).length=it.s.args.length:=by rw[List.length_zip];omega
 simp only[m8,n9,simprocAttr,l2,hSa,hna];refine n8 [0,1,2,7,9,47,48] (σ:=Nat×Value) (fun t f w'=>f 49 = .int .i64 t.1∧f 8=t.2∧t.1≤it.s.args.length∧A9 (d7 w1) w' 36 t.2 ((((it.s.args.zip pas).take t.1).filter fun x=>(U3 x.1).contains n).map fun x=>(⟨q,5,(j:Int)+1,x.2.name⟩:Vx))∧o6 w1 w') (fun t=>it.s.args.length-t.1) (0,.slice none 0 0) (by decide +kernel) ?_ ?_
 ·simp only[p6,simprocAttr];exact⟨by trivial,by trivial,ew4 _,A9.nil _ _ _,hx12⟩
 rintro⟨k,u⟩ f w3 hk ⟨h49,h8,hkl,ho3,hx3⟩;simp only at h49 h8 hkl ho3;simp only[ev4,p6,simprocAttr]at hk;obtain⟨g0,g1,g2,g7,g9,g47,g48,_⟩:=hk;have hcnt:((((it.s.args.zip pas).take k).filter fun x=>(U3 x.1).contains n).map fun x=>(⟨q,5,(j:Int)+1,x.2.name⟩:Vx)).length≤k:=by
  rw[ew3];refine ew0 (ey2 _ _) ?_;rw[ew6];omega
 have hx03:=hx1.trans hx3;simp only[m8,n9,simprocAttr,h49,g48];refine i5 (fun hc2=>?_) (fun hc2=>?_)
 ·have hlt:k<it.s.args.length:=by simpa using hc2
  have hltp:k<pas.length:=by omega
  have hltz:k<(it.s.args.zip pas).length:=by omega
  have hin:=hva.inS hlt;obtain⟨sv,hsv,hld⟩:=G1 (P:=prog) (t:=107) hva (b7 hx3) (ev2 hlt) ax3 ax5 ax4 T7;rw[T7]at hld;have htk:=aB2 (fun x:Ar×Pa=>(U3 x.1).contains n) (fun x=>(⟨q,5,(j:Int)+1,x.2.name⟩:Vx)) _ hltz;rw[List.getElem_zip]at htk;simp only at htk;have hwk:=hwta _ (ew2 hlt);have hatpa:=hvpa.at_ (i:=k) (x:=pas[k]) (ev2 hltp);have hinpa:=hvpa.inS (k:=k) hltp;have hz2:z7.sz Pa=2:=rfl;rw[hz2]at hatpa;obtain⟨ldpa,_⟩:=hatpa.pa;generalize pas[k]=pa at htk ldpa;generalize it.s.args[k]=ag at hsv htk hwk;generalize hxs:(((it.s.args.zip pas).take k).filter fun x=>(U3 x.1).contains n).map (fun x=>(⟨q,5,(j:Int)+1,x.2.name⟩:Vx))=xs at ho3 htk hcnt;obtain⟨d4,wz4,w4,hal4,hst4,hx4,hat4⟩:=aR7 (hsv.mono (b7 hx3)) (i4 _);obtain⟨sa,hsa,ldsa,_⟩:=hat4.ar_v;have l4:=ldsa w4 (i4 _);have hspl:(U3 ag).length≤1000000000:=by
   unfold U3;split
   ·simp
   ·have:=aa1 ag.x;omega
  simp only[m8,n9,p9,simprocAttr,h49,g47,hin,hld,hal4,hst4,l4];refine y5 ed9 (bW2 sa ag w4 hsa hwk) ?_;rintro us w5 ⟨hos,hx5⟩;have hx15:=(hx3.trans hx4).trans hx5;have hx05:=hx1.trans hx15;simp only[m8,simprocAttr,g2];refine D1 ac2 (N8 us (U3 ag) n w5 (hos.rw_ (b7 hx5)) hspl) ?_;rcases ev3 ((U3 ag).contains n)with h6|h6;rotate_left
  ·rw[h6,if_neg (by simp),ey6]at htk;simp only[m8,n9,simprocAttr,h6,h8,h49];refine⟨(k+1,u),by simp only[];omega,by simp only[];rw[B1 k (by omega)],by trivial,by simp only[];omega,?_,hx15⟩;simp only[];rw[htk];exact(ho3.ext hx4).ext hx5
  rw[h6,if_pos rfl]at htk;have hle5:=b7 hx05;have k5:(Instr.loadAt 82 (.pointer (some ⟨gb,0,none⟩))).run prog w5 = .ok (.pointer (some a)) w5:=E8 (i:=0) (hblk w5 hx05) hc0 bb2;have lb5:=ldb w5 hle5;have lp5:=ldp w5 hle5;have lr5:=ldr w5 hle5;have lpa5:=ldpa w5 hle5;simp only[m8,n9,p9,simprocAttr,h6,h8,g0,g1,g9,k5,lb5,lp5,hinp,lr5,hinpa,lpa5];refine B3 ai1 (I0 gb T cs0 q 5 ((j:Int)+1) pa.name w5 (hblk w5 hx05) hcq) (fun w6 hx6=>?_);obtain⟨p1,u7,w7,p2,p3,p4,p5⟩:=cB2 (e:=30) (((ho3.ext hx4).ext hx5).ext hx6) ⟨q,5,(j:Int)+1,pa.name⟩ (by omega) (b7 (hx15.trans hx6));simp only[m8,n9,simprocAttr,p1,p2,h49];refine⟨(k+1,u7),by simp only[];omega,by simp only[];rw[B1 k (by omega)],by trivial,by simp only[];omega,?_,(((ho3.ext hx4).ext hx5).ext hx6).ext2 (hx15.trans hx6) p4⟩;simp only[];rw[htk];exact p3
 have hge:k=it.s.args.length:=by simp at hc2;omega
 subst hge;rw[ez7 (by omega)]at ho3 hcnt;generalize hA:((it.s.args.zip pas).filter fun x=>(U3 x.1).contains n).map (fun x=>(⟨q,5,(j:Int)+1,x.2.name⟩:Vx))=A at hGv ho3 hcnt;have hle3:=b7 hx03;have k3:(Instr.loadAt 82 (.pointer (some ⟨gb,0,none⟩))).run prog w3 = .ok (.pointer (some a)) w3:=E8 (i:=0) (hblk w3 hx03) hc0 bb2;have lb3:=ldb w3 hle3;have hli3:=G4 (P:=prog) (t:=22) hci hle3 M4;simp only[m8,n9,simprocAttr,g0,g2,k3];refine D1 cw0 (aJ4 a (p7 p) p n w3 (ha.mono hle3) rfl hr.may) ?_;rcases ev3 (M7 p n)with h7|h7;rotate_left
 ·rw[h7,Bool.false_and,if_neg (by simp),ey6]at hGv;simp only[m8,simprocAttr,h7,h8];refine n7 results68 ?_;simp only[p6,simprocAttr];rw[hGv];exact⟨ho3.backN hx1,hx03⟩
 rw[h7,eE6]at hGv;simp only[m8,n9,p9,simprocAttr,h7,g0,g2,g9,k3,lb3,hini,hli3];refine D1 bI2 (aa9 ui row n w3 (z7.mono hle3 hui) (by omega) hrise) ?_;rcases ev3 (row.contains n)with h8'|h8';rotate_left
 ·rw[h8',if_neg (by simp),ey6]at hGv;simp only[m8,simprocAttr,h8,h8'];refine n7 results68 ?_;simp only[p6,simprocAttr];rw[hGv];exact⟨ho3.backN hx1,hx03⟩
 rw[h8',if_pos rfl]at hGv;simp only[m8,simprocAttr,h8,h8',g0,g1,g2];refine B3 ai1 (I0 gb T cs0 q 5 ((j:Int)+1) n w3 (hblk w3 hx03) hcq) (fun w4 hx4=>?_);obtain⟨p1,u5,w5,p2,p3,p4,p5⟩:=cB2 (e:=30) (ho3.ext hx4) ⟨q,5,(j:Int)+1,n⟩ (by omega) (b7 (hx3.trans hx4));simp only[m8,simprocAttr,p1,p2];refine n7 results68 ?_;simp only[p6,simprocAttr];rw[hGv];exact⟨p3.backN hx1,hx1.trans ((ho3.ext hx4).ext2 (hx3.trans hx4) p4)⟩
theorem ee0:af6 prog 114=true:=by kernel_rfl
theorem ee1:af6 prog 116=true:=by kernel_rfl
theorem aX1{α:Type}[DecidableEq α]:∀(l:List α),H9 l=ad6 (fun a b=>decide (a=b)) l
 | []=>rfl
 | [x]=>rfl
 | x::y::l=>by
  have ih:=aX1 (y::l);rw[H9,ih];simp only[ad6,ag2];by_cases h:x=y
  ·subst h;simp
  ·have h':¬y=x:=fun e=>h e.symm;simp[h,h']
def bc1(a b:Eg):Bool:=decide (a=b)
theorem bQ9{h:Hp}{w:World}{v:Value}{xs:List Eg}(ho:A9 h w 38 v xs)(hl:xs.length≤1000000000)(hh:B4 h (d7 w)):
  Calls prog 116 #[v] w fun e w'=>∃u,e = .returned u∧(A9 h w' 38 u (H9 xs)∧o9 (A3 v) w w'∧∀b,A3 u b→A3 v b):=by
 refine d9 (args:=[v]) hm func116 rfl (by kernel_rfl) (by show 1≤_;decide +kernel) ?_;rw[aX1];have hEq:(fun a b:Eg=>decide (a=b))=bc1:=rfl;rw[hEq];have hS:=ho.isS;have hn:=ho.vlen;have hvc:=ho.vcap;have hz:z7.sz Eg=9:=rfl;rcases ev3 (decide ((xs.length:Int)<2))with h2|h2
 ·simp only[m8,n9,p9,F8,G7.val,simprocAttr,hS,hn,h2];refine n7 results116 ?_;simp only[p6,simprocAttr];have hlt:xs.length<2:=by have:=ev6 h2;omega
  have:=Z4 bc1 xs xs.length (ew8 _) fun j hj h1 h2=>by omega
  rw[ew5]at this;exact⟨by rw[this];exact ho,o9.refl _,fun b hb=>hb⟩
 have h2':2≤xs.length:=by have:=ev7 h2;omega
 simp only[m8,n9,p9,F8,G7.val,simprocAttr,hS,hn,h2];refine n8 [0] (σ:=Nat) (fun i f w'=>f 3 = .int .i64 i∧1≤i∧i≤xs.length∧(∀j (hj:j<xs.length),1≤j→j<i→bc1 xs[j] (xs[j-1]'(by omega))=false)∧o6 w w') (fun i=>xs.length-i) 1 (by decide +kernel) ?_ ?_
 ·simp only[p6,simprocAttr];exact⟨by trivial,by trivial,by omega,fun j _ h1 h2=>by omega,o9.refl _⟩
 rintro i f w2 hk ⟨h3,h1i,hil,hno,hx2⟩;simp only[ev4,p6,simprocAttr]at hk;obtain⟨e0,_⟩:=hk;simp only[m8,n9,p9,F8,G7.val,simprocAttr,h3,e0,hS,hn];refine i5 (fun hc=>?_) (fun hc=>?_);rotate_left
 ·have hge:i=xs.length:=by simp at hc;omega
  subst hge;simp only[m8,n9,p9,F8,G7.val,simprocAttr,e0];refine n7 results116 ?_;simp only[p6,simprocAttr];have:=Z4 bc1 xs xs.length (ew8 _) hno;rw[ew5]at this;exact⟨by rw[this];exact ho.ext hx2,o9.up hx2,fun b hb=>hb⟩
 have hlt:i<xs.length:=by simpa using hc
 have hlt1:i-1<xs.length:=by omega
 have hR:R (d7 w2) v xs:=(ho.ext hx2).rw_ (p8 hh (b7 hx2));have hin:=ho.inS hlt;have hin1:=ho.inS hlt1;have hwi:IntKind.i64.wrap ((i:Int)-1)=((i-1:Nat):Int):=by rw[K1 _ (by omega)];omega
 obtain⟨vx,hvx,_,sx⟩:=(hR.at_ (ev2 hlt)).eg_v;obtain⟨vy,hvy,_,sy⟩:=(hR.at_ (ev2 hlt1)).eg_v;obtain rfl:=hvx.N;obtain rfl:=hvy.N;have s1:=sx (fun w'=>o6 w2.drew w') w2.drew (o9.refl _) fun w' h=>b7 ((o6.drew w2).trans h);have s2:=sy (fun w'=>o6 w2.drew w') w2.drew (o9.refl _) fun w' h=>b7 ((o6.drew w2).trans h);rw[hz]at s1 s2;have hx03:=hx2.trans (o6.drew w2);have hql:=fun w0 a b=>db4 w0 a b xs[i] xs[i-1];have hqd:decide (xs[i]=xs[i-1])=bc1 xs[i] xs[i-1]:=rfl;rw[hqd]at hql;simp only[m8,n9,p9,F8,G7.val,simprocAttr,h3];refine C2 (fun w'=>o6 w2.drew w') 9 (A8 [0,1,2,3,4,5,6,7,8]) (by decide +kernel) (o9.refl _) ?_;simp only[D5,A8,m8,n9,p9,F8,G7.val,simprocAttr,h3,e0,hin,hin1,hwi,s1,s2];rcases ev3 (bc1 xs[i] xs[i-1])with hq|hq;rotate_left
 ·simp only[m8,n9,p9,F8,G7.val,simprocAttr,L9,z6.cells,hql,hq,h3];refine⟨i+1,by omega,by rw[B1 i (by omega)],by omega,by omega,fun j hj h1 h2=>?_,hx03⟩;rcases ez0 j i with h|h
  ·exact hno j hj h1 h
  ·obtain rfl:j=i:=by omega
   exact hq
 have c1:decide ((i:Int)≤(xs.length:Int))=true:=by simp;omega
 have c2:decide ((xs.length:Int)≤(vcap v:Int))=true:=by simp;omega
 have hd:∀k:Nat,isS (reS v k xs.length 9)=true∧vlen (reS v k xs.length 9)=xs.length-k:=fun k=>by
  rcases ho with⟨rfl,rfl⟩|⟨b,c,cur,rfl,_⟩
  ·exact⟨rfl,rfl⟩
  ·exact⟨rfl,rfl⟩
 obtain⟨hSd,hnd⟩:=hd i;have hni:((xs.length-i:Nat):Int)=(xs.length:Int)-i:=by omega
 simp only[m8,n9,p9,F8,G7.val,simprocAttr,L9,z6.cells,hql,hq,h3,e0,hS,hn,c1,c2];refine n8 [0,4] (σ:=Nat×Nat×List Eg) (fun s f w'=>f 5 = .int .i64 s.1∧f 3 = .int .i64 s.2.1∧1≤s.1∧i+s.1≤xs.length∧s.2.1+1≤i+s.1∧s.2.2.length=xs.length∧A9 h w' 38 v s.2.2∧(∀j (hj:j<xs.length) (hj2:j<s.2.2.length),i+s.1≤j+1→s.2.2[j]=xs[j])∧s.2.2.take s.2.1=ad6 bc1 (xs.take (i+s.1))∧o9 (A3 v) w w') (fun s=>xs.length-(i+s.1)) (1,i,xs) (by decide +kernel) ?_ ?_
 ·simp only[p6,simprocAttr];refine⟨by trivial,by trivial,by trivial,by omega,by omega,by trivial,ho.ext hx03,fun j _ _ _=>by trivial,?_,o9.up hx03⟩;rw[am0 bc1 xs hlt (by omega),if_pos hq,Z4 bc1 xs i (by omega) hno]
 rintro⟨m,c,ys⟩ f4 w4 hk ⟨h7,h5c,h1m,him,hcm,hyl,hoy,hsuf,hpre,hm4⟩;simp only at h7 h5c h1m him hcm hyl hoy hsuf hpre;simp only[ev4,p6,simprocAttr]at hk;obtain⟨g0,g6,_⟩:=hk;rw[e0]at g0;have hh4:B4 h (d7 w4):=K6 hh hm4 fun b hb=>ho.free hb;have hlen:decide ((m:Int)<((xs.length-i:Nat):Int))=decide (i+m<xs.length):=by rw[ez8];omega
 simp only[m8,n9,p9,F8,G7.val,simprocAttr,h7,g6,hSd,hnd,hlen];refine i5 (fun hc=>?_) (fun hc=>?_)
 ·have hm':i+m<xs.length:=ev6 hc;have hm1:i+m-1<xs.length:=by omega
  have hRy:R (d7 w4) v ys:=hoy.rw_ hh4;have hsub:=bE1 hRy (show i≤xs.length by omega) (show xs.length≤ys.length by omega);rw[hz]at hsub;have hyt:(ys.take xs.length).drop i=ys.drop i:=by rw[←hyl,ew5]
  rw[hyt]at hsub;have hg1:(ys.drop i)[m]?=some xs[i+m]:=by
   rw[eF0,ev2 (by omega),hsuf (i+m) hm' (by omega) (by omega)]
  have hg2:(ys.drop i)[m-1]?=some xs[i+m-1]:=by
   rw[eF0,show i+(m-1)=i+m-1 by omega,ev2 (by omega),hsuf (i+m-1) hm1 (by omega) (by omega)]
  have hin4:=hsub.inS (ev8.1 hg1).1;have hin5:=hsub.inS (ev8.1 hg2).1;have hwm:IntKind.i64.wrap ((m:Int)-1)=((m-1:Nat):Int):=by rw[K1 _ (by omega)];omega
  obtain⟨ux,hux,lx,tx⟩:=(hsub.at_ hg1).eg_v;obtain⟨uy,huy,_,ty⟩:=(hsub.at_ hg2).eg_v;obtain rfl:=hux.N;obtain rfl:=huy.N;have t1:=tx (fun w'=>o6 w4.drew w') w4.drew (o9.refl _) fun w' h=>b7 ((o6.drew w4).trans h);have t2:=ty (fun w'=>o6 w4.drew w') w4.drew (o9.refl _) fun w' h=>b7 ((o6.drew w4).trans h);rw[hz]at t1 t2 lx;have hql4:=fun w0 a b=>de9 w0 a b xs[i+m] xs[i+m-1];have hqd4:decide (xs[i+m]=xs[i+m-1])=bc1 xs[i+m] xs[i+m-1]:=rfl;rw[hqd4]at hql4;simp only[m8,n9,p9,F8,G7.val,simprocAttr,h7];refine C2 (fun w'=>o6 w4.drew w') 9 (A8 [0,1,2,3,4,5,6,7,8]) (by decide +kernel) (o9.refl _) ?_;simp only[D5,A8,m8,n9,p9,F8,G7.val,simprocAttr,h7,g6,hin4,hin5,hwm,t1,t2];have hx45:=o6.drew w4;have ho5:=hoy.ext hx45;have hm5:o9 (A3 v) w w4.drew:=hm4.chain (o9.up hx45) fun _ _ h=>h;have hct:=am0 bc1 xs (k:=i+m) hm' (by omega);rcases ev3 (bc1 xs[i+m] xs[i+m-1])with hq4|hq4
  ·rw[if_pos hq4]at hct;simp only[m8,n9,p9,F8,G7.val,simprocAttr,L9,z6.cells,hql4,hq4,h7];refine⟨(m+1,c,ys),by simp only[];omega,by simp only[];rw[B1 m (by omega)],h5c,by simp only[];omega,by simp only[];omega,by simp only[];omega,hyl,ho5,fun j hj hj2 h=>hsuf j hj hj2 (by simp only at h;omega),?_,hm5⟩;simp only[];rw[hpre,←hct,eE5]
  ·rw[if_neg (by rw[hq4];simp)]at hct;have hcy:c<ys.length:=by omega
   have lx5:=lx w4.drew (b7 hx45);obtain⟨w6,e6,ho6,hm6⟩:=bj6 (P:=prog) (t:=38) ho5 bw2 aR5 hcy xs[i+m];rw[hz]at e6;have hin6:=hoy.inS hcy;simp only[z6.cells]at lx5 e6;simp only[m8,n9,p9,F8,G7.val,simprocAttr,L9,z6.cells,hql4,hq4,h5c,g0,g6,h7,hin4,hin6,lx5,e6];refine⟨(m+1,c+1,ys.set c xs[i+m]),by simp only[];omega,by simp only[];rw[B1 m (by omega)],by simp only[];rw[B1 c (by omega)],by simp only[];omega,by simp only[];omega,by simp only[];omega,by simp only[eC2];exact hyl,ho6,fun j hj hj2 h=>?_,?_,hm5.chain hm6 fun _ _ h=>h⟩
   ·simp only at h ⊢;rw[List.getElem_set_ne (by omega)];exact hsuf j hj (by omega) (by omega)
   ·simp only[];have hcs:c<(ys.set c xs[i+m]).length:=by simpa using hcy
    rw[ew1 hcs,List.getElem_set_self,List.take_set_of_le (ew8 _),hpre,←hct,eE5]
 ·have hm':i+m=xs.length:=by have:=ev7 hc;omega
  rw[hm',ew5]at hpre;have hcl:c<ys.length:=by omega
  have c3:decide ((c:Int)≤(xs.length:Int))=true:=by simp;omega
  have c4:decide ((c:Int)≤(vcap v:Int))=true:=by simp;omega
  obtain⟨w6,e6,ho6,hm6,hb6⟩:=aU4 (P:=prog) (t:=32) (ty:=0) hoy rfl da2 rfl (by simp[Value.cells,Value.oneCell']) hcl;rw[hyl,hz]at e6;rw[hz]at ho6 hb6;simp only[m8,n9,p9,F8,G7.val,simprocAttr,bj2,h5c,g0,hS,hn,c1,c2,c3,c4,e6];refine n7 results116 ?_;simp only[p6,simprocAttr];exact⟨by rw[←hpre];exact ho6,hm4.chain hm6 fun _ _ h=>h,hb6⟩
theorem bP4{h:Hp}{w:World}{v:Value}{xs:List Eg}(ho:A9 h w 38 v xs)(hl:xs.length≤1000000000)(hh:B4 h (d7 w)):
  Calls prog 69 #[v] w fun e w'=>∃u,e = .returned u∧(A9 h w' 38 u (bl6 xs)∧o9 (A3 v) w w'∧∀b,A3 u b→A3 v b):=by
 refine d9 (args:=[v]) hm func69 rfl (by kernel_rfl) (by show 1≤_;decide +kernel) ?_;simp only[m8,n9,simprocAttr];refine y5 ee0 (bM6 ho hl fun a _ b _ h1 h2=>bf6 (bE7.eq0 h1 h2)) ?_;rintro _ w1 ⟨ho1,hm1⟩;simp only[m8,simprocAttr];refine y5 ee1 (bQ9 ho1 (by rw[(F4 _ _).length_eq];exact hl) (K6 hh hm1 fun b hb=>ho.free hb)) ?_;rintro u w2 ⟨ho2,hm2,hb2⟩;simp only[m8,simprocAttr];refine n7 results69 ?_;simp only[p6,simprocAttr];exact⟨ho2,hm1.trans hm2,hb2⟩
theorem cm8{α:Type}{l:List α}(h:l.Nodup){i j:Nat}(hi:i<l.length)(hj:j<l.length)(e:l[i]=l[j]):i=j:=by
 refine eH6 fun hne=>?_;have h2:=eB9.1 h;rcases Nat.lt_or_gt_of_ne hne with h|h
 ·exact h2 i j hi hj h e
 ·exact h2 j i hj hi h e.symm
theorem av9{n:A4}(h:N9 n=true):n≠W9∧n≠M3∧n≠e0:=by
 refine⟨?_,?_,?_⟩<;>rintro rfl<;>exact absurd h (by decide)
theorem bC6:W9≠M3∧W9≠e0∧M3≠e0:=by decide
theorem bK7{p:Pg}(hm:N1 p=true){i:Nat}(hi:i<p.procs.length):∃n m,S6 p.procs[i] n=some m:=by
 unfold N1 at hm;rw[ex5]at hm;have hgo:∀(l:List Pr) (n:Int),(l.foldlM (fun n f=>S6 f n) n).isSome=true→∀f∈l,∃n m,S6 f n=some m:=by
  intro l
  induction l with
  | nil=>intro n _ f hf;simp at hf
  | cons g l ih=>
   intro n h f hf;rw[List.foldlM_cons]at h;obtain⟨k,hk⟩:=eB0.1 h;obtain⟨m,hm1,hm2⟩:=eC5.1 hk;rcases ex3.1 hf with rfl|hf
   ·exact⟨n,m,hm1⟩
   ·exact ih m (by rw[hm2];rfl) f hf
 exact hgo _ _ hm.2 _ (ew2 hi)
theorem aZ7{f:Pr}{n m:Int}(h:S6 f n=some m):N9 f.name=true∧(∀a∈f.params,N9 a.name=true)∧(∀v∈f.vars,N9 v=true)∧I5 12 f.body n=some m:=by
 unfold S6 at h;split at h
 ·cases h
 ·rename_i hc;simp only[not_or,Bool.not_eq_false]at hc;refine⟨hc.2.2.1,?_,?_,h⟩
  ·have:=hc.2.2.2.2.2;rw[eE2]at this;exact this
  ·have:=hc.2.2.2.1;unfold Z9 at this;rw[eE2]at this;exact this
theorem bJ2{p:Pg}(hm:N1 p=true){i:Nat}(hi:i<p.procs.length):N9 p.procs[i].name=true∧(∀a∈p.procs[i].params,N9 a.name=true)∧(∀v∈p.procs[i].vars,N9 v=true):=by
 obtain⟨n,m,h⟩:=bK7 hm hi;obtain⟨h1,h2,h3,_⟩:=aZ7 h;exact⟨h1,h2,h3⟩
theorem bJ1{p:Pg}(hm:N1 p=true):∀n∈p.globals,N9 n=true:=by
 unfold N1 at hm;simp only[ex5]at hm;have:=hm.1.2;unfold Z9 at this;rw[eE2]at this;exact this
mutual
theorem cN5:∀(t:St) (d:Nat) (n m:Int),R8 t=true→((I5 d t.thn n).bind fun m=>I5 d t.els m)=some m→∀(k:Nat) (pr up nx lp:Int),∀it∈U7 t k pr up nx lp,R8 it.s=true
 | .mk id kind labels name proc x has args thn els,d,n,m,hf,h,k,pr,up,nx,lp,it,hit=>by
  simp only[St.thn,St.els]at h;obtain⟨m1,h1,h2⟩:=eC5.1 h;rw[P2]at hit;rcases ex3.1 hit with rfl|hit
  ·exact hf
  ·rcases ew7.1 hit with hit|hit
   ·exact aN5 thn d n m1 h1 _ _ _ _ _ it hit
   ·exact aN5 els d m1 m h2 _ _ _ _ _ it hit
theorem aN5:∀(l:List St) (d:Nat) (n m:Int),I5 d l n=some m→∀(k:Nat) (pr up nx lp:Int),∀it∈C4 l k pr up nx lp,R8 it.s=true
 | [],d,n,m,h,k,pr,up,nx,lp,it,hit=>by simp[C4]at hit
 | t::l,0,n,m,h,k,pr,up,nx,lp,it,hit=>by simp[I5]at h
 | t::l,d+1,n,m,h,k,pr,up,nx,lp,it,hit=>by
  rw[aL0]at h;obtain⟨m1,h1,h2⟩:=eC5.1 h;split at h1
  ·cases h1
  ·rename_i hc;simp only[not_or,Bool.not_eq_false]at hc;rw[C4]at hit;rcases ew7.1 hit with hit|hit
   ·exact cN5 t d (n+1) m1 hc.2.2.2 h1 _ _ _ _ _ it hit
   ·exact aN5 l (d+1) m1 m h2 _ _ _ _ _ it hit
end
theorem bU0{p:Pg}(hm:N1 p=true){i:Nat}(hi:i<p.procs.length)(hw:C8 p≤1000000):∀it∈(b9 p).of i,R8 it.s=true:=by
 obtain⟨x,_,hof⟩:=V0 p hw i hi;obtain⟨n,m,h⟩:=bK7 hm hi;intro it hit;rw[hof]at hit;exact aN5 _ _ _ _ (aZ7 h).2.2.2 _ _ _ _ _ it hit
theorem aX9{s:St}(h:R8 s=true):∀a∈s.args,a.ref=true→N9 a.name=true:=by
 unfold R8 at h;split at h
 ·cases h
 ·simp only[ex5]at h;have:=h.2;unfold aE8 at this;rw[eE2]at this;intro a ha hr;have:=this a ha;rw[ex5]at this;have:=this.1;unfold U8 at this;rw[hr]at this;simpa using this
theorem cy0{p:Pg}(hm:N1 p=true){it:It}(hit:it∈(b9 p).l):(b9 p).l[(it.s.id-1).toNat]?=some it∧(b9 p).it it.s.id=it∧1≤it.s.id:=by
 obtain⟨j,hj⟩:=eC9.1 hit;have h:=aG3 hm j it hj;have e:(it.s.id-1).toNat=j:=by omega
 refine⟨by rw[e];exact hj,?_,by omega⟩;unfold Sh.it;rw[e,List.getD,hj];rfl
theorem bp6{p:Pg}{i x y:Nat}(pt:al5 p i x y){it:It}(hit:it∈(b9 p).of i):it∈(b9 p).l:=by
 rw[pt.ok.of_]at hit;exact eD8 (eF9 hit)
theorem bF5{p:Pg}(hm:N1 p=true)(X:Rws){it:It}(hit:it∈(b9 p).l):F3 (G9 p X) (it.s.id-1)=C6 (aa7 p X it.s):=by
 unfold F3 G9;rw[List.getD,ey8,(cy0 hm hit).1];rfl
theorem be3:∀(l out:List A4),∃t,Z2 out l=out++t
 | [],out=>⟨[],by simp[Z2]⟩
 | n::l,out=>by
  rw[Z2];obtain⟨t,e⟩:=be3 l (if out.contains n then out else out++[n]);rw[e];split
  ·exact⟨t,rfl⟩
  ·exact⟨n::t,by simp⟩
theorem bf0(g:A4→List A4):∀(m i:Nat) (out:List A4),∀x∈out,x∈R5 g m i out
 | 0,i,out,x,h=>h
 | m+1,i,out,x,h=>by
  rw[R5];split
  ·exact h
  ·exact bf0 g m (i+1) _ x ((al6 _ _ _).2 (.inl h))
theorem aH6{g:A4→List A4}{names:List A4}(hg:∀m∈names,∀x∈g m,x∈names):∀(m i:Nat) (out:List A4),out.Nodup→(∀x∈out,x∈names)→names.length+1≤i+m→i≤out.length →
  (∀k y,k<i→out[k]?=some y→∀x∈g y,x∈out)→∀y∈R5 g m i out,∀x∈g y,x∈R5 g m i out
 | 0,i,out,hn,hs,hl,hi,hc=>by
  have:=L3 hn hs;omega
 | m+1,i,out,hn,hs,hl,hi,hc=>by
  rw[R5];split
  ·rename_i h;intro y hy x hx;obtain⟨k,hk⟩:=eC9.1 hy;have:=(ev8.1 hk).1;have:=List.getElem?_eq_none_iff.1 h;exact hc k y (by omega) hk x hx
  ·rename_i n h;obtain⟨hi',hin⟩:=ev8.1 h;have hnn:n∈names:=hs n (hin ▸ ew2 hi');obtain⟨t,et⟩:=be3 (g n) out;refine aH6 hg m (i+1) _ (au5 _ _ hn) (fun x hx=>?_) (by omega) (by rw[et,ev5];omega) fun k y hk hy x hx=>?_
   ·rcases(al6 _ _ _).1 hx with hx|hx
    ·exact hs x hx
    ·exact hg n hnn x hx
   ·have hko:out[k]?=some y:=by
     rw[et,eA0 (by omega)]at hy;exact hy
    refine(al6 _ _ _).2 ?_;rcases ez0 k i with hki|hki
    ·exact .inl (hc k y hki hko x hx)
    ·obtain rfl:k=i:=by omega
     rw[h]at hko;obtain rfl:=ex1 hko;exact .inr hx
theorem be5{s:Sh}{n x:A4}:x∈ar5 s n↔x∈R5 (ab8 s) (s.p.procs.length+1) 0 [n]:=(S1 _).mem_iff
theorem bq6(s:Sh)(n:A4):n∈ar5 s n:=be5.2 (bf0 _ _ _ _ _ (by simp))
theorem aW9{p:Pg}(K:Known p){n:A4}(hn:n∈p.procs.map (·.name)):∀y∈ar5 (b9 p) n,∀x∈ab8 (b9 p) y,x∈ar5 (b9 p) n:=by
 intro y hy x hx;rw[be5]at hy ⊢;refine aH6 (names:=p.procs.map (·.name)) (fun m hm x hx=>aA5 K hm hx) _ _ _ (by simp) (fun x hx=>?_) (by rw[I6];simp) (by simp) (fun k y hk=>by omega) y hy x hx;simp only[ey1]at hx;subst hx;exact hn
theorem bP7{p:Pg}(K:Known p){n m:A4}(hn:n∈p.procs.map (·.name))(hm:m∈ar5 (b9 p) n):∀x∈ar5 (b9 p) m,x∈ar5 (b9 p) n:=by
 intro x hx;rw[be5]at hx;exact(aJ9 (names:=ar5 (b9 p) n) (aW9 K hn) _ _ _ (by simp) (fun x hx=>by
  simp only[ey1]at hx;subst hx;exact hm)).2 x hx
theorem bL2{p:Pg}(h:S0 p=true):(L4 p).1=0:=by
 have h:=ev6 h;unfold aA6 at h;split at h
 ·simp at h
 split at h
 ·rename_i h1;exact absurd h h1
 ·rename_i h1;exact eH6 h1
theorem aV7{p:Pg}(h:(L4 p).1=0){n v:A4}(hn:n∈p.procs.map (·.name)):v∈N3 p n↔∃m∈ar5 (b9 p) n,∃it∈(b9 p).of ((b9 p).pr m),v∈I3 it.s∧v∈p.globals:=by
 have hk:aC2 p n=true:=by
  unfold aC2;obtain⟨q,hq,rfl⟩:=ey0.1 hn;rw[eC8 h,eE6,eH7];exact⟨q,hq,by simp⟩
 unfold N3;rw[if_pos hk];simp only[G8,ez2,ey4,ex4]
theorem cC7{p:Pg}(h:(L4 p).1=0)(K:Known p){n m v:A4}(hn:n∈p.procs.map (·.name))(hm:m∈ar5 (b9 p) n)(hmn:m∈p.procs.map (·.name))(hv:v∈N3 p m):v∈N3 p n:=by
 rw[aV7 h hmn]at hv;rw[aV7 h hn];obtain⟨q,hq,r⟩:=hv;exact⟨q,bP7 K hn hm q hq,r⟩
theorem aZ2{p:Pg}(K:Known p){i:Nat}(hi:i<p.procs.length):(b9 p).pr p.procs[i].name=(i:Int):=by
 obtain⟨k,hk,e,hn⟩:=T2 (p:=p) (n:=p.procs[i].name) (ey0.2 ⟨_,ew2 hi,rfl⟩);rw[e];have hki:k=i:=by
  have h1:(p.procs.map (·.name))[k]'(by simpa using hk)=(p.procs.map (·.name))[i]'(by simpa using hi):=by simp[hn]
  exact cm8 K.names _ _ h1
 rw[hki]
theorem bU7{p:Pg}(h:(L4 p).1=0)(hr:E4 p)(hw:C8 p≤1000000):∀(k i:Nat) (hi:i<p.procs.length) (n:A4),n∈F3 (F6 (E9 p) k (List.replicate p.procs.length [])) (i:Int)→n∈p.globals→n∈N3 p p.procs[i].name:=by
 intro k
 induction k with
 | zero=>
  intro i hi n hn _;rw[F6,aQ0 (by simpa using hi)]at hn;simp at hn
 | succ k ih=>
  intro i hi n hn hg;rw[Z8]at hn;generalize F6 (E9 p) k (List.replicate p.procs.length [])=X at ih hn;have hnm:p.procs[i].name∈p.procs.map (·.name):=ey0.2 ⟨_,ew2 hi,rfl⟩;rw[aQ0 (by unfold E9;simpa using hi)]at hn;unfold E9 at hn;rw[eD4,eI7,G8]at hn;unfold X7 at hn;obtain⟨it,hit,hn⟩:=ez2.1 hn;have hit:=(ey4.1 hit).1;have hn:=(ey4.1 hn).1;obtain⟨x,pt⟩:=M9 hr.may hw i hi;rw[bF5 hr.may X (bp6 pt hit),G8]at hn;have hgn:=av9 (bJ1 hr.may n hg);have hhere:n∈I3 it.s→n∈N3 p p.procs[i].name:=fun hs=>by
   rw[aV7 h hnm];exact⟨_,bq6 _ _,it,by rw[aZ2 hr.toKnown hi];exact hit,hs,hg⟩
  have hname:it.s.kind≠10→n=it.s.name→n∈I3 it.s:=fun hk e=>by
   unfold I3;rw[if_pos ⟨hk,by rw[←e];exact hgn.2.2⟩,e];simp
  unfold aa7 at hn;split at hn
  ·rename_i hk;exact hhere (hname (by omega) (by simpa using hn))
  split at hn
  ·rename_i hk;simp only[ex3,eA6,eG5]at hn;rcases hn with e|e
   ·exact hhere (hname (by omega) e)
   ·exact absurd e hgn.1
  split at hn
  ·simp only[ey1]at hn;exact absurd hn hgn.2.1
  split at hn
  ·rename_i hk;unfold ai7 at hn;rcases ew7.1 hn with hn|hn
   ·rcases ew7.1 hn with hn|hn
    ·split at hn
     ·simp at hn
     ·exact hhere (hname (by omega) (by simpa using hn))
    ·obtain⟨z,hz,rfl⟩:=ey0.1 hn;obtain⟨hz,hzr⟩:=ey4.1 hz;rw[ex5]at hzr;refine hhere ?_;unfold I3;refine eD0 _ (ez2.2 ⟨z.1,(List.of_mem_zip hz).1,?_⟩);unfold I7;rw[if_pos hzr.1];simp
   ·have hn:=(ey4.1 hn).1;obtain⟨c,hc⟩:=V4 (hr.fits it (bp6 pt hit) hk);rw[hc.idx]at hn;have hcl:=hc.lt;have hcn:p.procs[c].name=it.s.proc:=by
     obtain⟨c',hc',e1,e2⟩:=T2 (au8 hr.toKnown hw (bp6 pt hit) hk);rw[hc.pr]at e1;obtain rfl:c=c':=by omega
     exact e2
    have:=ih c hc.lt n hn hg;rw[hcn]at this;refine cC7 h hr.toKnown hnm (aW9 hr.toKnown hnm _ (bq6 _ _) _ ?_) (au8 hr.toKnown hw (bp6 pt hit) hk) this;unfold ab8;rw[G8,aZ2 hr.toKnown hi];exact ey0.2 ⟨it,ey4.2 ⟨hit,by simpa using hk⟩,rfl⟩
  ·simp at hn
theorem bK2{p:Pg}(hR:S0 p=true)(hw:C8 p≤1000000){i:Nat}(hi:i<p.procs.length){n:A4}(hn:n∈F3 (H5 p) (i:Int))(hg:n∈p.globals):n∈N3 p p.procs[i].name:=by
 obtain⟨k,e,_⟩:=bj4 (Q9 hR).may;rw[e]at hn;exact bU7 (bL2 hR) (Q9 hR) hw k i hi n hn hg
theorem aL3{name:A4}{touched:List A4}:∀{l:List Ar} {seen:List A4},ac9 name touched seen l=true→(∀(j:Nat) (a:Ar),l[j]?=some a→a.ref=true→a.name∉seen∧a.name≠name∧a.name∉touched) ∧
  ∀(j k:Nat) (a b:Ar),l[j]?=some a→l[k]?=some b→a.ref=true→b.ref=true→a.name=b.name→j=k
 | [],seen,_=>⟨fun j a h=>by simp at h,fun j k a b h=>by simp at h⟩
 | c::l,seen,h=>by
  rw[ac9]at h;by_cases hr:c.ref=true
  ·rw[if_pos hr]at h;split at h
   ·cases h
   ·rename_i hc;have hc:=eF7.2 hc;simp only[Bool.or_eq_false_iff,eH8]at hc;obtain⟨⟨c1,c2⟩,c3⟩:=hc;obtain⟨i1,i2⟩:=aL3 h;have hcs:c.name∉seen:=fun hm=>by rw[ex4.2 hm]at c1;cases c1
    have hct:c.name∉touched:=fun hm=>by rw[ex4.2 hm]at c3;cases c3
    refine⟨fun j a hj ha=>?_,fun j k a b hj hk ha hb e=>?_⟩
    ·cases j with
     | zero=>
      obtain rfl:c=a:=by simpa using hj
      exact⟨hcs,c2,hct⟩
     | succ j=>
      obtain⟨q1,q2⟩:=i1 j a (by simpa using hj) ha;exact⟨fun hm=>q1 (eA2 _ hm),q2⟩
    ·cases j with
     | zero=>
      obtain rfl:c=a:=by simpa using hj
      cases k with
      | zero=>rfl
      | succ k=>
       have:=(i1 k b (by simpa using hk) hb).1;exact absurd (eD0 _ (by rw[e];simp)) this
     | succ j=>
      cases k with
      | zero=>
       obtain rfl:c=b:=by simpa using hk
       have:=(i1 j a (by simpa using hj) ha).1;exact absurd (eD0 _ (by rw[e];simp)) this
      | succ k=>rw[i2 j k a b (by simpa using hj) (by simpa using hk) ha hb e]
  ·rw[if_neg hr]at h;obtain⟨i1,i2⟩:=aL3 h;refine⟨fun j a hj ha=>?_,fun j k a b hj hk ha hb e=>?_⟩
   ·cases j with
    | zero=>
     obtain rfl:c=a:=by simpa using hj
     exact absurd ha hr
    | succ j=>exact i1 j a (by simpa using hj) ha
   ·cases j with
    | zero=>
     obtain rfl:c=a:=by simpa using hj
     exact absurd ha hr
    | succ j=>
     cases k with
     | zero=>
      obtain rfl:c=b:=by simpa using hk
      exact absurd hb hr
     | succ k=>rw[i2 j k a b (by simpa using hj) (by simpa using hk) ha hb e]
theorem bk0{n:Nat}(f:Nat→List A4){i:Nat}(hi:i<n):F3 ((List.range n).map f) (i:Int)=f i:=by
 unfold F3;rw[ex8,List.getD,ey8,eE0 hi];rfl
theorem ak4{l:List A4}{x:A4}:x∈R4 l↔x∈l:=(S1 l).mem_iff
section
variable {p:Pg} {i:Nat}
theorem bK3(hm:N1 p=true)(hi:i<p.procs.length):F3 (H5 p) (i:Int)=C6 (X7 p (G9 p (H5 p)) i):=by
 obtain⟨_,_,e⟩:=bj4 hm
 conv=>lhs;rw[←e]
 exact bk0 _ hi
theorem cc2(hr:E4 p)(hw:C8 p≤1000000)(hi:i<p.procs.length):F3 (X5 p) (i:Int)=C6 (ay3 p (H5 p) (M5 p (X5 p)) (G9 p (H5 p)) i):=by
 obtain⟨_,_,e⟩:=cc1 hr hw
 conv=>lhs;rw[←e]
 exact bk0 _ hi
theorem aU3(hm:N1 p=true)(hi:i<p.procs.length){n:A4}(hn:n∈F3 (H5 p) (i:Int)):n=W9∨N9 n=true:=by
 rw[bK3 hm hi,G8]at hn;have:=bv9 (aP1 hn);rw[List.getD,ev2 hi]at this;simp only[ex3,ew7,ey0,eA9]at this;rcases this with h|h|⟨a,ha,rfl⟩
 ·exact .inl h
 ·exact .inr (bJ1 hm n h)
 ·exact .inr ((bJ2 hm hi).2.1 a ha)
theorem cx8(hr:E4 p)(hw:C8 p≤1000000)(hi:i<p.procs.length){n:A4}(hn:n∈F3 (X5 p) (i:Int)):n∈p.globals∨n=W9:=by
 rw[cc2 hr hw hi,G8]at hn;unfold ay3 at hn;simpa using(ey4.1 hn).1
theorem cd7{l:List A4}(h:l.Pairwise (fun a b=>Z0 a b=true)):l.Nodup:=an2 h
theorem aL5(hi:i<p.procs.length):(p7 p).slotsIn (i:Int)=R4 (F3 (X5 p) (i:Int)++p.procs[i].params.map (·.name)):=by
 unfold Bk.slotsIn;rw[V3 hi];rfl
theorem ba4:(p7 p).slotsOut (i:Int)=R4 (F3 (H5 p) (i:Int)++[M3]):=rfl
theorem aI6(hr:E4 p)(hw:C8 p≤1000000)(hi:i<p.procs.length):((p7 p).slotsIn (i:Int)).Nodup:=by
 rw[aL5 hi,(S1 _).nodup_iff,eA4];obtain⟨h1,h2,_⟩:=hr.proc i hi;unfold bc2 at h1 h2;refine⟨by rw[cc2 hr hw hi];exact cd7 (P6 _),(eA4.1 h1).1,fun a ha b hb e=>?_⟩;subst e;rcases cx8 hr hw hi ha with h|h
 ·exact h2 a (eA2 _ hb) h
 ·obtain⟨q,hq,e⟩:=ey0.1 hb;exact(av9 ((bJ2 hr.may hi).2.1 q hq)).1 (by rw[e,h])
theorem an7(hm:N1 p=true)(hi:i<p.procs.length):((p7 p).slotsOut (i:Int)).Nodup:=by
 rw[ba4,(S1 _).nodup_iff,eA4];refine⟨by rw[bK3 hm hi];exact cd7 (P6 _),by simp,fun a ha b hb e=>?_⟩;subst e;simp only[ey1]at hb;rcases aU3 hm hi ha with h|h
 ·exact bC6.1 (by rw[←h,hb])
 ·exact(av9 h).2.1 hb
theorem bM2(hm:N1 p=true):(b9 p).l.Nodup:=by
 refine eB9.2 fun j k hj hk hjk e=>?_;have h1:=aG3 hm j _ (ev2 hj);have h2:=aG3 hm k _ (ev2 hk);rw[e]at h1;omega
theorem cA3(hm:N1 p=true){x y:Nat}(pt:al5 p i x y):((b9 p).of i).Nodup:=by
 rw[pt.ok.of_];exact((bM2 hm).sublist (List.take_sublist _ _)).sublist (List.drop_sublist _ _)
end
theorem V9{b:Bk}{i:Int}{v:Vx}:v∈b.vert0 i↔v=⟨(b.s.fn i).name,1,0,e0⟩∨(∃n∈b.slotsIn i,v=⟨(b.s.fn i).name,3,0,n⟩)∨(∃n∈b.slotsOut i,v=⟨(b.s.fn i).name,4,0,n⟩) ∨
  ∃it∈b.s.of i,v=⟨(b.s.fn i).name,2,it.s.id,e0⟩∨(it.s.kind=4∧((∃n∈b.slotsIn (b.s.pr it.s.proc),v=⟨(b.s.fn i).name,5,it.s.id,n⟩)∨∃n∈b.callOut it.s,v=⟨(b.s.fn i).name,6,it.s.id,n⟩)):=by
 unfold Bk.vert0;simp only[ew7,ey1,ey0,ez2,List.mem_ite_nil_right];constructor
 ·rintro(((h|⟨n,hn,h⟩)|⟨n,hn,h⟩)|⟨it,hit,h|⟨h4,⟨n,hn,h⟩|⟨n,hn,h⟩⟩⟩)
  ·exact .inl h
  ·exact .inr (.inl ⟨n,hn,h.symm⟩)
  ·exact .inr (.inr (.inl ⟨n,hn,h.symm⟩))
  ·exact .inr (.inr (.inr ⟨it,hit,.inl h⟩))
  ·exact .inr (.inr (.inr ⟨it,hit,.inr ⟨h4,.inl ⟨n,hn,h.symm⟩⟩⟩))
  ·exact .inr (.inr (.inr ⟨it,hit,.inr ⟨h4,.inr ⟨n,hn,h.symm⟩⟩⟩))
 ·rintro(h|⟨n,hn,h⟩|⟨n,hn,h⟩|⟨it,hit,h|⟨h4,⟨n,hn,h⟩|⟨n,hn,h⟩⟩⟩)
  ·exact .inl (.inl (.inl h))
  ·exact .inl (.inl (.inr ⟨n,hn,h.symm⟩))
  ·exact .inl (.inr ⟨n,hn,h.symm⟩)
  ·exact .inr ⟨it,hit,.inl h⟩
  ·exact .inr ⟨it,hit,.inr ⟨h4,.inl ⟨n,hn,h.symm⟩⟩⟩
  ·exact .inr ⟨it,hit,.inr ⟨h4,.inr ⟨n,hn,h.symm⟩⟩⟩
theorem aw2{α β:Type}{f:α→β}(hf:∀a b,f a=f b→a=b){l:List α}(h:l.Nodup):(l.map f).Nodup:=by
 induction l with
 | nil=>simp
 | cons x l ih=>
  rw[eH5]at h;rw[ez9,eH5];refine⟨fun hm=>?_,ih h.2⟩;obtain⟨y,hy,e⟩:=ey0.1 hm;exact h.1 (hf _ _ e ▸ hy)
section
variable {p:Pg} {i x y:Nat}
theorem bo3(hr:E4 p){it:It}(hit:it∈(b9 p).l)(h4:it.s.kind=4):((p7 p).callOut it.s).Nodup:=by
 obtain⟨c,hc⟩:=V4 (hr.fits it hit h4);have e:(p7 p).s.pr it.s.proc=(c:Int):=hc.pr;unfold Bk.callOut;rw[e];split
 ·exact(an7 hr.may hc.lt).sublist List.filter_sublist
 ·exact an7 hr.may hc.lt
theorem bO4(hr:E4 p)(hw:C8 p≤1000000)(hi:i<p.procs.length)(pt:al5 p i x y):((p7 p).vert0 (i:Int)).Nodup:=by
 unfold Bk.vert0;generalize((p7 p).s.fn (i:Int)).name=q;have hs:(p7 p).s=b9 p:=rfl;rw[hs];have hid:∀it∈(b9 p).of i,1≤it.s.id∧(b9 p).it it.s.id=it:=fun it hit=>⟨(cy0 hr.may (bp6 pt hit)).2.2,(cy0 hr.may (bp6 pt hit)).2.1⟩;have hmem:∀it:It,∀v:Vx,v∈([⟨q,2,it.s.id,e0⟩]++if it.s.kind=4 then(((p7 p).slotsIn ((b9 p).pr it.s.proc)).map fun n=>(⟨q,5,it.s.id,n⟩:Vx))++((p7 p).callOut it.s).map fun n=>(⟨q,6,it.s.id,n⟩:Vx)else[])→v.id=it.s.id:=by
  intro it v hv;simp only[ew7,ey1,List.mem_ite_nil_right,ey0]at hv;rcases hv with rfl|⟨_,⟨n,_,rfl⟩|⟨n,_,rfl⟩⟩<;>rfl
 rw[eA4,eA4,eA4];refine⟨⟨⟨by simp,aw2 (fun a b h=>by simpa using h) (aI6 hr hw hi),?_⟩,aw2 (fun a b h=>by simpa using h) (an7 hr.may hi),?_⟩,?_,?_⟩
 ·rintro a ha b hb rfl;simp only[ey1,ey0]at ha hb;obtain⟨n,_,e⟩:=hb;rw[ha]at e;simp at e
 ·rintro a ha b hb rfl;simp only[ew7,ey1,ey0]at ha hb;obtain⟨n,_,e⟩:=hb;rcases ha with ha|⟨m,_,ha⟩
  ·rw[ha]at e;simp at e
  ·rw[←ha]at e;simp at e
 ·refine am9 (cA3 hr.may pt) (fun it hit=>?_) fun a ha b hb v hva hvb=>?_
  ·rw[eA4];refine⟨by simp,?_,?_⟩
   ·split
    ·rename_i h4;obtain⟨c,hc⟩:=V4 (hr.fits it (bp6 pt hit) h4);rw[eA4];refine⟨aw2 (fun a b h=>by simpa using h) ?_,aw2 (fun a b h=>by simpa using h) (bo3 hr (bp6 pt hit) h4),?_⟩
     ·rw[hc.pr];exact aI6 hr hw hc.lt
     ·rintro a ha b hb rfl;simp only[ey0]at ha hb;obtain⟨n,_,e⟩:=ha;obtain⟨m,_,e2⟩:=hb;rw[←e]at e2;simp at e2
    ·simp
   ·rintro a ha b hb rfl;simp only[ey1,List.mem_ite_nil_right,ew7,ey0]at ha hb;subst ha;obtain⟨_,⟨n,_,e⟩|⟨n,_,e⟩⟩:=hb<;>simp at e
  ·have h1:=hmem a v hva;have h2:=hmem b v hvb;rw[←(hid a ha).2,←(hid b hb).2,←h1,←h2]
 ·rintro a ha b hb rfl;obtain⟨it,hit,hv⟩:=ez2.1 hb;have h1:=hmem it a hv;have h2:=(hid it hit).1;simp only[ew7,ey1,ey0]at ha;rcases ha with(ha|⟨n,_,ha⟩)|⟨n,_,ha⟩
  ·rw[ha]at h1;simp only at h1;omega
  ·rw[←ha]at h1;simp only at h1;omega
  ·rw[←ha]at h1;simp only at h1;omega
theorem aG4(hm:N1 p=true)(pt:al5 p i x y){d:Int}(h1:(x:Int)<d)(h2:d≤(y:Int)):(⟨((p7 p).s.fn (i:Int)).name,2,d,e0⟩:Vx)∈(p7 p).vert0 (i:Int):=by
 rw[V9];obtain⟨q1,q2,_⟩:=pt.at_ d h1 h2;exact .inr (.inr (.inr ⟨_,q1,.inl (by rw[q2])⟩))
theorem bR2{wy:Wy}(hr:E4 p)(hw:C8 p≤1000000)(hi:i<p.procs.length)(hok:ai4 p i x y wy):∀d∈wy.decides,(d.1=0∨((x:Int)<d.1∧d.1≤(y:Int)))∧((x:Int)<d.2∧d.2≤(y:Int)):=by
 have hn:=hok.n;have B4:=hok.part.ok.le;have hM:wy.n=((y-x+2:Nat):Int):=by omega
 rw[aK2 hM];intro d hd;obtain⟨a,ha,hd⟩:=ez2.1 hd;obtain⟨b,hb,rfl⟩:=ey0.1 hd;obtain⟨hb,hdec⟩:=ey4.1 hb;unfold ad4 at hdec;simp only[ex5,ez3,eH7]at hdec;obtain⟨⟨b1,b2⟩,t,ht,e,_⟩:=hdec;have hsrc:(a:Int)<wy.n-1:=by
  unfold Wy.pairs at ht;obtain⟨s,hs,rfl⟩:=ey0.1 ht;have hrg:=(by1 hr hw hi hok s hs).1;simp only at e;rw[←e,hok.toWyOk.index];rcases hrg with h|⟨h1,h2⟩
  ·rw[if_pos h];omega
  ·rw[if_neg (by omega),if_neg (by omega),if_pos (by omega)];omega
 simp only;rw[hok.toWyOk.place,hok.toWyOk.place];constructor
 ·by_cases h0:(a:Int)=0
  ·rw[if_pos h0];exact .inl rfl
  ·rw[if_neg h0,if_neg (by omega)];right;omega
 ·rw[if_neg (by omega),if_neg (by omega)];omega
theorem aH8(hr:E4 p){it:It}(hit:it∈(b9 p).l)(h4:it.s.kind=4){c:Nat}(hc:az4 p it.s c){n:A4}(hn:n∈F3 (H5 p) (c:Int)):n∈(p7 p).callOut it.s:=by
 have e:(p7 p).s.pr it.s.proc=(c:Int):=hc.pr;unfold Bk.callOut;rw[e];have hm:n∈(p7 p).slotsOut (c:Int):=by
  rw[ba4,ak4];exact eA2 _ hn
 have hne:n≠M3:=by
  rcases aU3 hr.may hc.lt hn with h|h
  ·rw[h];exact bC6.1
  ·exact(av9 h).2.1
 split
 ·exact ey4.2 ⟨hm,by simp[hne]⟩
 ·exact hm
theorem cf6{α β:Type}{l:List α}{m:List β}{z:α×β}(h:z∈l.zip m):∃j:Nat,l[j]?=some z.1∧m[j]?=some z.2:=by
 obtain⟨j,hj⟩:=eC9.1 h;rw[List.getElem?_zip_eq_some]at hj;exact⟨j,hj⟩
theorem cu9(hR:S0 p=true)(hw:C8 p≤1000000)(hi:i<p.procs.length)(pt:al5 p i x y){a:Nat}(ha:(a:Int)<(D6 (b9 p) i).n){n:A4}(hg:n∈(p7 p).gives (i:Int) (a:Int)):
  (p7 p).giver ((p7 p).s.fn (i:Int)).name ((D6 (b9 p) i).place (a:Int)) n∈(p7 p).vert0 (i:Int):=by
 have hr:=Q9 hR;have hok:=P7 pt;have hs:(p7 p).s=b9 p:=rfl;unfold Bk.gives at hg;rw[M1 hi]at hg;unfold Bk.giver;by_cases h0:(a:Int)=0
 ·rw[if_pos h0,G8]at hg;rw[if_pos (by rw[hok.toWyOk.place,if_pos h0]),V9];refine .inr (.inl ⟨n,?_,rfl⟩);unfold Bk.slotsIn;rw[ak4];exact hg
 ·rw[if_neg h0]at hg;split at hg
  ·simp at hg
  ·rename_i hc;have hc1:¬(a:Int)=(D6 (b9 p) i).n-1:=fun h=>hc (.inl h);obtain⟨q,e1,e2,e3,e4,e5⟩:=ae5 hok (k:=a) (by omega) (by omega);obtain⟨q1,q2,q3⟩:=pt.at_ ((D6 (b9 p) i).place (a:Int)) (by rw[e3];omega) (by rw[e3];omega);rw[if_neg (by omega),hs];generalize hpl:(D6 (b9 p) i).place (a:Int)=pl at hg e1 e3 q1 q2 q3;generalize hit':(b9 p).it pl=it at q1 q2 q3;have hit:=bp6 pt q1;have hgd:n∈C6 (aa7 p (H5 p) it.s):=by
    rw[←bF5 hr.may (H5 p) hit,q2];exact hg
   rw[G8]at hgd;have hfl:=bU0 hr.may hi hw it q1;by_cases h4:it.s.kind=4
   ·rw[if_neg (by simpa using h4)];obtain⟨c,hcall⟩:=V4 (hr.fits it hit h4);have hcl:=hcall.lt;have hcallee:((p7 p).callee it.s).params=p.procs[c].params:=by
     unfold Bk.callee;rw[hs,hcall.pr,←hs,V3 hcall.lt]
    have hsing:=aL3 (show ac9 it.s.name (N3 p it.s.proc) [] it.s.args=true from hr.single it hit h4);have hcn:p.procs[c].name=it.s.proc:=by
     obtain⟨c',hc',e1,e2⟩:=T2 (au8 hr.toKnown hw hit h4);rw[hcall.pr]at e1;obtain rfl:c=c':=by omega
     exact e2
    have hput:∀m,m∈(p7 p).callOut it.s→(⟨((b9 p).fn (i:Int)).name,6,pl,m⟩:Vx)∈(p7 p).vert0 (i:Int):=fun m hm=>by
     rw[V9];exact .inr (.inr (.inr ⟨it,q1,.inr ⟨h4,.inr ⟨m,hm,by rw[q2,hs]⟩⟩⟩))
    unfold aa7 at hgd;rw[if_neg (by omega),if_neg (by omega),if_neg (by omega),if_pos h4]at hgd;unfold ai7 at hgd;rw[hcall.idx,hcall.fn]at hgd;by_cases hname:it.s.name=n
    ·rw[if_pos hname];refine hput _ ?_;have hne:it.s.name≠e0:=by
      intro he;rw[hname]at he;rcases ew7.1 hgd with h|h
      ·rcases ew7.1 h with h|h
       ·rw[hname,if_pos he]at h;simp at h
       ·obtain⟨z,hz,hzn⟩:=ey0.1 h;obtain⟨hz,hzr⟩:=ey4.1 hz;rw[ex5]at hzr;exact(av9 (aX9 hfl z.1 (List.of_mem_zip hz).1 hzr.1)).2.2 (by rw[hzn,he])
      ·have:=(ey4.1 h).1;rcases aU3 hr.may hcall.lt this with h|h
       ·exact bC6.2.1 (by rw[←h,he])
       ·exact(av9 h).2.2 he
     unfold Bk.callOut;rw[if_neg hne];unfold Bk.slotsOut;rw[ak4];simp
    ·rw[if_neg hname,hcallee];have hgd:(∃z∈it.s.args.zip p.procs[c].params,z.1.ref=true∧z.2.name∈F3 (H5 p) (c:Int)∧z.1.name=n)∨(n∈F3 (H5 p) (c:Int)∧M7 p n=true):=by
      rcases ew7.1 hgd with h|h
      ·rcases ew7.1 h with h|h
       ·split at h
        ·simp at h
        ·simp only[ey1]at h;exact absurd h.symm hname
       ·obtain⟨z,hz,hzn⟩:=ey0.1 h;obtain⟨hz,hzr⟩:=ey4.1 hz;rw[ex5,ex4]at hzr;exact .inl ⟨z,hz,hzr.1,hzr.2,hzn⟩
      ·exact .inr (ey4.1 h)
     split
     ·rename_i z hf;have hz:=List.mem_of_find?_eq_some hf;have hzp:=List.find?_some hf;rw[ex5,ez3]at hzp;refine hput _ ?_;obtain⟨j,hj1,hj2⟩:=cf6 hz;rcases hgd with⟨z',hz',r1,r2,r3⟩|⟨h1,h2⟩
      ·obtain⟨k,hk1,hk2⟩:=cf6 hz';have hjk:=hsing.2 j k _ _ hj1 hk1 hzp.1 r1 (by rw[hzp.2,r3]);subst hjk;rw[hj2]at hk2;rw[ex1 hk2];exact aH8 hr hit h4 hcall r2
      ·exfalso
       have hnm:=aX9 hfl z.1 (List.of_mem_zip hz).1 hzp.1;rw[hzp.2]at hnm;unfold M7 at h2;rw[eH1,ex4,ez3]at h2;rcases h2 with h2|h2
       ·exact(av9 hnm).1 h2
       ·have:=(hsing.1 j _ hj1 hzp.1).2.2;rw[hzp.2,←hcn]at this;exact this (bK2 hR hw hcall.lt h1 h2)
     ·rename_i hf;refine hput _ ?_;rcases hgd with⟨z',hz',r1,r2,r3⟩|⟨h1,h2⟩
      ·have:=eE9.1 hf z' hz';simp[r1,r3]at this
      ·exact aH8 hr hit h4 hcall h1
   ·rw[if_pos h4,←hs];exact aG4 hr.may pt (by rw[e3];omega) (by rw[e3];omega)
theorem co1(hR:S0 p=true)(hw:C8 p≤1000000)(hi:i<p.procs.length)(pt:al5 p i x y){a:Nat}(ha:(a:Int)<(D6 (b9 p) i).n){n:A4}(hg:n∈(p7 p).takes (i:Int) (a:Int)):
  ∀v∈(p7 p).takers ((p7 p).s.fn (i:Int)).name ((D6 (b9 p) i).place (a:Int)) n,v∈(p7 p).vert0 (i:Int):=by
 have hr:=Q9 hR;have hok:=P7 pt;have hs:(p7 p).s=b9 p:=rfl;have hn2:=hok.n;have B4:=pt.ok.le;intro v hv;unfold Bk.takes at hg;rw[M1 hi]at hg;unfold Bk.takers at hv;by_cases h0:(a:Int)=(D6 (b9 p) i).n-1
 ·rw[if_pos h0,G8]at hg;rw[if_pos (by rw[hok.toWyOk.place,if_neg (by omega),if_pos h0])]at hv;simp only[ey1]at hv;subst hv;rw[V9];refine .inr (.inr (.inl ⟨n,?_,rfl⟩));unfold Bk.slotsOut;rw[ak4];exact hg
 ·rw[if_neg h0]at hg;split at hg
  ·simp at hg
  ·rename_i hc;have hc1:¬(a:Int)=0:=fun h=>hc (.inl h);obtain⟨q,e1,e2,e3,e4,e5⟩:=ae5 hok (k:=a) (by omega) (by omega);obtain⟨q1,q2,q3⟩:=pt.at_ ((D6 (b9 p) i).place (a:Int)) (by rw[e3];omega) (by rw[e3];omega);rw[if_neg (by omega),hs]at hv;generalize hpl:(D6 (b9 p) i).place (a:Int)=pl at hv hg e1 e3 q1 q2 q3;generalize hit':(b9 p).it pl=it at hv q1 q2 q3;have hit:=bp6 pt q1;by_cases h4:it.s.kind=4
   ·rw[if_neg (by simpa using h4)]at hv;obtain⟨c,hcall⟩:=V4 (hr.fits it hit h4);have hcl:=hcall.lt;have hcallee:((p7 p).callee it.s).params=p.procs[c].params:=by
     unfold Bk.callee;rw[hs,hcall.pr,←hs,V3 hcall.lt]
    have hput:∀m,m∈(p7 p).slotsIn (c:Int)→(⟨((b9 p).fn (i:Int)).name,5,pl,m⟩:Vx)∈(p7 p).vert0 (i:Int):=fun m hm=>by
     rw[V9];refine .inr (.inr (.inr ⟨it,q1,.inr ⟨h4,.inl ⟨m,?_,by rw[q2,hs]⟩⟩⟩));rw[hs,hcall.pr];exact hm
    rw[hcallee,hcall.pr]at hv;rcases ew7.1 hv with h|h
    ·obtain⟨z,hz,rfl⟩:=ey0.1 h;refine hput _ ?_;rw[aL5 hcall.lt,ak4];exact eD0 _ (ey0.2 ⟨_,(List.of_mem_zip (ey4.1 hz).1).2,rfl⟩)
    ·split at h
     ·rename_i h5;simp only[ey1]at h;subst h;refine hput _ ?_;rw[ex5,ex4]at h5;rw[aL5 hcall.lt,ak4];exact eA2 _ h5.2
     ·simp at h
   ·rw[if_pos h4]at hv;simp only[ey1]at hv;subst hv;rw[←hs];exact aG4 hr.may pt (by rw[e3];omega) (by rw[e3];omega)
theorem ct6(hR:S0 p=true)(hw:C8 p≤1000000)(hi:i<p.procs.length):∀e∈(p7 p).edge0 (i:Int),e.src∈(p7 p).vert0 (i:Int)∧e.dst∈(p7 p).vert0 (i:Int)∧(e.kind=1∨e.kind=2):=by
 have hr:=Q9 hR;obtain⟨x,pt⟩:=M9 hr.may hw i hi;have hok:=P7 pt;have hent:(⟨((p7 p).s.fn (i:Int)).name,1,0,e0⟩:Vx)∈(p7 p).vert0 (i:Int):=V9.2 (.inl rfl);intro e he;unfold Bk.edge0 at he;rw[M1 hi]at he;rcases ew7.1 he with he|he
 ·rcases ew7.1 he with he|he
  ·obtain⟨d,hd,rfl⟩:=ey0.1 he;obtain⟨h1,h2,h3⟩:=bR2 hr hw hi hok d hd;unfold ac0;refine⟨?_,aG4 hr.may pt h2 h3,.inl rfl⟩;simp only;split
   ·exact hent
   ·rename_i hne;rcases h1 with h1|⟨h1,h1'⟩
    ·exact absurd h1 hne
    ·exact aG4 hr.may pt h1 h1'
  ·obtain⟨v,hv,he⟩:=ez2.1 he;have hv:v∈(p7 p).vert0 (i:Int):=(F4 _ _).mem_iff.1 hv;unfold G5 at he;split at he
   ·simp only[ey1]at he;subst he;exact⟨hent,hv,.inl rfl⟩
   ·split at he
    ·rename_i hk;simp only[ey1]at he;subst he;refine⟨?_,hv,.inl rfl⟩;simp only;rw[V9]at hv;rcases hv with rfl|⟨n,_,rfl⟩|⟨n,_,rfl⟩|⟨it,hit,rfl|⟨_,⟨n,_,rfl⟩|⟨n,_,rfl⟩⟩⟩
     ·simp at hk
     ·simp at hk
     ·simp at hk
     ·simp at hk
     ·have:=pt.ids it hit;exact aG4 hr.may pt this.1 this.2
     ·have:=pt.ids it hit;exact aG4 hr.may pt this.1 this.2
    ·simp at he
 ·obtain⟨f,hf,he⟩:=ez2.1 he;obtain⟨v,hv,rfl⟩:=ey0.1 he;have hf:f∈(p7 p).flow0 (i:Int):=(F4 _ _).mem_iff.1 hf;rw[aF3]at hf;obtain⟨n,hf⟩:=hf;rw[V8]at hf;obtain⟨a,c,ha,hc,ht,_,rfl⟩:=hf;rw[M1 hi]at hc hv;have hal:=ab0 _ _ _ a ha;rw[M1 hi]at hal;have ha:=(ey4.1 ha).2;rw[ex4]at ha ht;have hn:=hok.n;rw[M1 hi];exact⟨cu9 hR hw hi pt (by omega) ha,co1 hR hw hi pt (by omega) ht v hv,.inr rfl⟩
end
theorem bF1{α:Type}[DecidableEq α]{le:α→α→Prop}(htr:∀a b c,le a b→le b c→le a c)(han:∀a b,le a b→le b a→a=b):∀{l:List α},l.Pairwise le→(H9 l).Pairwise fun a b=>le a b∧a≠b
 | [],_=>by simp[H9]
 | [x],_=>by simp[H9]
 | x::y::l,h=>by
  rw[eA5]at h;have ih:=bF1 htr han h.2;rw[H9];split
  ·exact ih
  ·rename_i hxy;rw[eA5];refine⟨fun z hz=>?_,ih⟩;rw[as2]at hz;refine⟨h.1 z hz,fun e=>?_⟩;subst e;rcases ex3.1 hz with e|hz
   ·exact hxy e
   ·exact hxy (han _ _ (h.1 y (by simp)) ((eA5.1 h.2).1 x hz))
def aI2(a b:Vx):Bool:=if a.proc≠b.proc then Z0 a.proc b.proc else if a.kind≠b.kind then decide (a.kind<b.kind)else if a.id≠b.id then decide (a.id<b.id)else Z0 a.slot b.slot
def ap2(a b:Eg):Bool:=if a.src≠b.src then aI2 a.src b.src else if a.dst≠b.dst then aI2 a.dst b.dst else decide (a.kind<b.kind)
theorem ca5{a b:Int}(h:a≠b):I4 a b≠0:=fun e=>h (S9 e)
theorem cM1{a b:A4}(h:a≠b):X2 a b≠0:=fun e=>h (as1 e)
theorem br5(a:Int):I4 a a=0:=by unfold I4;simp
theorem ci4(a:A4):X2 a a=0:=by unfold X2;simp[J2]
theorem by6{a b:Int}:decide (I4 a b<0)=decide (a<b):=by
 unfold I4;by_cases h:a<b
 ·simp[h]
 ·rw[if_neg h];split<;>simp[h]
theorem ca6{a b:A4}:decide (X2 a b<0)=Z0 a b:=by
 unfold X2;cases h:Z0 a b
 ·simp only[eB6,eD2];split<;>simp
 ·simp
theorem bi5(a b:Vx):aI2 a b=decide (vxC a b<0):=by
 unfold aI2 vxC;rw[or4];by_cases h1:a.proc=b.proc
 ·rw[if_neg (by simpa using h1),h1,ci4,if_pos rfl];by_cases h2:a.kind=b.kind
  ·rw[if_neg (by simpa using h2),h2,br5,if_pos rfl];by_cases h3:a.id=b.id
   ·rw[if_neg (by simpa using h3),h3,br5,if_pos rfl];by_cases h4:X2 a.slot b.slot=0
    ·rw[if_pos h4,as1 h4,J2];rfl
    ·rw[if_neg h4,ca6]
   ·rw[if_pos h3,if_neg (ca5 h3),by6]
  ·rw[if_pos h2,if_neg (ca5 h2),by6]
 ·rw[if_pos h1,if_neg (cM1 h1),ca6]
theorem bO5(a:Vx):vxC a a=0:=br4.refl a
theorem bR4(a b:Eg):ap2 a b=decide (egC a b<0):=by
 unfold ap2 egC;rw[or3];by_cases h1:a.src=b.src
 ·rw[if_neg (by simpa using h1),h1,bO5,if_pos rfl];by_cases h2:a.dst=b.dst
  ·rw[if_neg (by simpa using h2),h2,bO5,if_pos rfl];by_cases h4:I4 a.kind b.kind=0
   ·rw[if_pos h4,S9 h4];simp
   ·rw[if_neg h4,by6]
  ·rw[if_pos h2,if_neg (fun e=>h2 (au2 e)),bi5]
 ·rw[if_pos h1,if_neg (fun e=>h1 (au2 e)),bi5]
section
variable {α:Type} {c:α→α→Int}
theorem Cm.letr(h:Cm c){x y z:α}(h1:c x y≤0)(h2:c y z≤0):c x z≤0:=h.trans x y z h1 h2
theorem bM5(h:Cm c)(l:List α):(U2 (fun a b=>decide (c a b≤0)) l).Pairwise fun a b=>c a b≤0:=by
 have:=ad1 (le:=fun a b=>decide (c a b≤0)) (l:=l) (fun a _ b _=>h.total a b) fun a _ b _ d _ h1 h2=>eC8 (h.letr (ev6 h1) (ev6 h2));exact this.imp fun h=>ev6 h
end
theorem bn4{b:Bk}{i:Int}(hn:(b.vert0 i).Nodup):(b.verts i).Pairwise fun u v=>aI2 u v=true:=by
 have h1:(b.verts i).Pairwise fun u v=>vxC u v≤0:=bM5 br4 _;have h2:(b.verts i).Pairwise fun u v=>u≠v:=((F4 co4 _).nodup_iff.2 hn);refine(h1.and h2).imp fun{u v} ⟨h1,h2⟩=>?_;rw[bi5];refine eC8 ?_;have:vxC u v≠0:=fun e=>h2 (au2 e);omega
theorem bR3(b:Bk)(i:Int):(b.edges i).Pairwise fun u v=>ap2 u v=true:=by
 have h0:=bM5 bE7 (b.edge0 i);have e:(fun a b=>decide (egC a b≤0))=ct7:=rfl;rw[e]at h0;have h2:(b.edges i).Pairwise fun a b=>egC a b≤0∧a≠b:=bF1 (le:=fun a b=>egC a b≤0) (fun a b c=>bE7.letr) (fun a b h1 h2=>bf6 (bE7.eq0 (eC8 h1) (eC8 h2))) h0;refine h2.imp fun{u v} ⟨h1,h2⟩=>?_;rw[bR4];refine eC8 ?_;have:egC u v≠0:=fun e=>h2 (bf6 e);omega
theorem cm4{b:Bk}{i:Int}{e:Eg}:e∈b.edges i↔e∈b.edge0 i:=by
 unfold Bk.edges bl6;rw[as2,(F4 ct7 _).mem_iff]
theorem aF4{b:Bk}{i:Int}{v:Vx}:v∈b.verts i↔v∈b.vert0 i:=(F4 co4 _).mem_iff
theorem bY2{b:Bk}{i:Int}(hn:(b.vert0 i).Nodup):(b.verts i)[0]?=some ⟨(b.s.fn i).name,1,0,e0⟩:=by
 have hin:(⟨(b.s.fn i).name,1,0,e0⟩:Vx)∈b.verts i:=aF4.2 (V9.2 (.inl rfl));have hr:=bn4 hn;have hlow:∀v∈b.verts i,aI2 v ⟨(b.s.fn i).name,1,0,e0⟩=false:=fun v hv=>by
  rw[aF4,V9]at hv;rcases hv with rfl|⟨n,_,rfl⟩|⟨n,_,rfl⟩|⟨it,hit,rfl|⟨_,⟨n,_,rfl⟩|⟨n,_,rfl⟩⟩⟩<;>simp[aI2,J2]
 cases hv:b.verts i with
 | nil=>rw[hv]at hin;simp at hin
 | cons u l=>
  rw[hv]at hin hr;rcases ex3.1 hin with h|h
  ·rw[h];rfl
  ·have:=(eA5.1 hr).1 _ h;rw[hlow u (by rw[hv];simp)]at this;cases this
theorem bu9{α:Type}{r:α→α→Prop}{l:List α}(h:l.Pairwise r){k:Nat}(hk:k<l.length)(h0:1≤k):r (l[k-1]'(by omega)) l[k]:=eB9.1 h (k-1) k (by omega) hk (by omega)
section
variable {p:Pg} {i:Nat}
def Mid(p:Pg)(a:Int):Prop:=∃j:Nat,a=(j:Int)+1∧j<(b9 p).l.length
theorem aY3(hr:E4 p)(hw:C8 p≤1000000)(hi:i<p.procs.length){f:Fw}(hf:f∈(p7 p).flows (i:Int)):(f.src=0∨Mid p f.src)∧(f.dst = -1∨Mid p f.dst):=by
 obtain⟨x,pt⟩:=M9 hr.may hw i hi;have hok:=P7 pt;have hn:=hok.n;have hf:f∈(p7 p).flow0 (i:Int):=(F4 _ _).mem_iff.1 hf;rw[aF3]at hf;obtain⟨n,hf⟩:=hf;rw[V8]at hf;obtain⟨a,c,ha,hc,ht,_,rfl⟩:=hf;have hal:=ab0 _ _ _ a ha;have ha:=(ey4.1 ha).2;rw[ex4]at ha ht;unfold Bk.gives at ha;unfold Bk.takes at ht;simp only[M1 hi]at ha ht hal hc ⊢;have hmid:∀k:Nat,k≠0→(k:Int)<(D6 (b9 p) i).n-1→Mid p ((D6 (b9 p) i).place (k:Int)):=fun k h0 hk=>by
  obtain⟨q,_,h2,h3,_⟩:=ae5 hok h0 hk;exact⟨q,h3,h2⟩
 constructor
 ·by_cases h0:(a:Int)=0
  ·left;rw[hok.toWyOk.place,if_pos h0]
  ·right;rw[if_neg h0]at ha;split at ha
   ·simp at ha
   ·rename_i hc';have:¬(a:Int)=(D6 (b9 p) i).n-1:=fun h=>hc' (.inl h);exact hmid a (by omega) (by omega)
 ·by_cases h0:(c:Int)=(D6 (b9 p) i).n-1
  ·left;rw[hok.toWyOk.place,if_neg (by omega),if_pos h0]
  ·right;rw[if_neg h0]at ht;split at ht
   ·simp at ht
   ·rename_i hc';have:¬(c:Int)=0:=fun h=>hc' (.inl h);exact hmid c (by omega) (by omega)
theorem bw6(hr:E4 p)(hw:C8 p≤1000000)(hi:i<p.procs.length):∃M:Nat,(D6 (b9 p) i).n=(M:Int)∧M≤202:=by
 obtain⟨x,pt⟩:=M9 hr.may hw i hi;have hn:=(P7 pt).n;have hlen:=pt.ok.len;have:=J3 hr.may;exact⟨(D6 (b9 p) i).n.toNat,by omega,by omega⟩
theorem bs0(hr:E4 p)(hw:C8 p≤1000000)(hi:i<p.procs.length):((p7 p).flows (i:Int)).length≤5000000:=by
 obtain⟨M,hM,hM2⟩:=bw6 hr hw hi;have e:((p7 p).flows (i:Int)).length=((p7 p).flow0 (i:Int)).length:=(F4 bo8 _).length_eq;rw[e];unfold Bk.flow0;rw[M1 hi,hM,ex8];refine ew0 (Q7 _ 20200 _ fun a ha=>?_) ?_
 ·have ha:=ez1.1 ha;have hg:=(aK4 hr hw hi (k:=a) (by rw[hM];exact Int.ofNat_lt.2 ha)).2;refine ew0 (Q7 _ 202 _ fun n hn=>?_) ?_
  ·rw[ew3];refine ew0 (ey2 _ _) ?_;rw[eA7];exact hM2
  ·omega
 ·rw[eA7];omega
theorem aL8(hr:E4 p)(hw:C8 p≤1000000){q:A4}{pl:Int}{n:A4}(hpl:pl = -1∨Mid p pl):((p7 p).takers q pl n).length≤9:=by
 unfold Bk.takers;split
 ·simp
 ·rename_i h1;obtain⟨j,rfl,hj⟩:=hpl.resolve_left h1;have hs:(p7 p).s=b9 p:=rfl;have hite:(b9 p).it ((j:Int)+1)=(b9 p).l[j]:=by
   unfold Sh.it;rw[show((j:Int)+1-1).toNat=j by omega,List.getD,ev2 hj];rfl
  split
  ·simp
  ·rename_i h4;rw[hs,hite]at h4 ⊢;have h4:((b9 p).l[j]).s.kind=4:=by simpa using h4
   obtain⟨c,hc⟩:=V4 (hr.fits _ (ew2 hj) h4);have h8:=O0 hr.may hc.lt;have hl:=hc.len;rw[ev5,ew3];have h2:((((b9 p).l[j]).s.args.zip ((p7 p).callee ((b9 p).l[j]).s).params).filter fun x=>(U3 x.1).contains n).length≤8:=by
    refine ew0 (ey2 _ _) ?_;rw[List.length_zip];omega
   split<;>simp only[ey3,eB7]<;>omega
theorem aX3(hr:E4 p)(hw:C8 p≤1000000)(hi:i<p.procs.length):((D6 (b9 p) i).decides).length≤41000:=by
 obtain⟨M,hM,hM2⟩:=bw6 hr hw hi;rw[aK2 hM];refine ew0 (Q7 _ 202 _ fun a ha=>?_) ?_
 ·rw[ew3];refine ew0 (ey2 _ _) ?_;rw[eA7];exact hM2
 ·rw[eA7];omega
theorem aW4(hr:E4 p)(hw:C8 p≤1000000)(hi:i<p.procs.length):((p7 p).verts (i:Int)).length≤30000:=by
 obtain⟨x,pt⟩:=M9 hr.may hw i hi;have h200:=J3 hr.may;have e:((p7 p).verts (i:Int)).length=((p7 p).vert0 (i:Int)).length:=(F4 co4 _).length_eq;have h1:=aq0 hr hw hi;have h2:=aw8 hr hi;have h3:(((b9 p).of i).flatMap (S4 p p.procs[i].name)).length≤((b9 p).of i).length*100:=Q7 _ 100 _ fun it hit=>bb7 hr hw _ (cA2 pt hit);have h4:((b9 p).of i).length≤200:=by
  rw[pt.ok.of_,eD7,ew6];omega
 have hF:(p7 p).vert0 (i:Int)=([(⟨p.procs[i].name,1,0,e0⟩:Vx)]++((p7 p).slotsIn (i:Int)).map fun n=>(⟨p.procs[i].name,3,0,n⟩:Vx))++(((p7 p).slotsOut (i:Int)).map fun n=>(⟨p.procs[i].name,4,0,n⟩:Vx))++((b9 p).of i).flatMap (S4 p p.procs[i].name):=by
  unfold Bk.vert0;rw[V3 hi];rfl
 rw[e,hF];simp only[ev5,ey3,ew3];omega
end
end Go.Proofs.YtdgicngfmfldmaaGreat

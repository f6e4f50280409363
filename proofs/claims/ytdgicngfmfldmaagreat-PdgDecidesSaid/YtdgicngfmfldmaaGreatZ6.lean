/- pdgDecides.proved: for every input the law returns true. No condition. Part 6 of 7. -/
import Derived.Test.YtdgicngfmfldmaaGreatZ5
set_option maxRecDepth 1000000
set_option maxHeartbeats 8000000
set_option linter.unusedVariables false
set_option linter.unusedSimpArgs false
set_option linter.unnecessarySimpa false
namespace Go.Proofs.YtdgicngfmfldmaaGreat
open Go Tryz
theorem dE6:af6 prog 42=true:=by kernel_rfl
theorem er5:af6 prog 51=true:=by kernel_rfl
theorem er6:af6 prog 53=true:=by kernel_rfl
theorem bH8:af6 prog 66=true:=by kernel_rfl
theorem es0:af6 prog 67=true:=by kernel_rfl
theorem es1:af6 prog 68=true:=by kernel_rfl
theorem es2:af6 prog 69=true:=by kernel_rfl
theorem cO7{w w1 w2:World}(hw1:w.heap.size<w1.heap.size){α:Type}[z7 α][z6 α]{T:TypeId}{u:Value}{l:List α}(ho:A9 (d7 w1) w2 T u l):R (B5 w2 (nP w.heap.size (.slice none 0 0))) u l:=
 ho.flatRN fun b hb=>D3 fun h=>by
  have:=C9 (ho.free hb);rcases h with h|h|h|h
  ·omega
  ·exact absurd h D0
  ·exact absurd h D0
  ·exact h.elim
theorem aQ7(q:A4)(v:Vx):(G5 q v).length≤1:=by
 unfold G5;split
 ·simp
 ·split<;>simp
theorem dF8(w:World)(y:Vx):∃wz,(Instr.alloc 36 true (.tuple #[])).run prog w = .ok (.pointer (some ⟨w.heap.size,0,none⟩)) wz ∧
  (Instr.storeAt 36 (.pointer (some ⟨w.heap.size,0,none⟩)) (.agg (z6.cells y).toArray)).run prog wz = .ok () (w.alloc (.cells (z6.cells y).toArray 36)):=by
 have h:=aT9 (P:=prog) (w:=w) (T:=36) bw4 rfl (cs:=(z6.cells y).toArray) (by rw[ad2];rfl) (fun u hu=>aj9 y u (by simpa using hu));exact⟨_,h.1,h.2⟩
theorem em6{w:World}{c:Nat}{y:Vx}(hc:w.heap[c]?=some (.cells (z6.cells y).toArray 36 (0,0)))(z:Vx):∃w',(Instr.storeAt 36 (.pointer (some ⟨c,0,none⟩)) (.agg (z6.cells z).toArray)).run prog w = .ok () w'∧w'.heap[c]?=some (.cells (z6.cells z).toArray 36 (0,0))∧o9 (fun b=>b=c) w w':=
 ap1 (P:=prog) (T:=36) hc bw4 (by rw[ad2];rfl) (by rw[ad2];rfl) (fun u hu=>aj9 z u (by simpa using hu))
theorem ej9{w:World}{c:Nat}{y:Vx}(hc:w.heap[c]?=some (.cells (z6.cells y).toArray 36 (0,0))):(Instr.loadAt 36 (.pointer (some ⟨c,0,none⟩))).run prog w = .ok (.agg (z6.cells y).toArray) w:=
 ab6 hc aI8 aJ0 aI9 (by rw[ad2];rfl)
theorem cf9(a:Addr)(p:Pg)(i:Nat)(w:World)(ha:At (d7 w) a (p7 p))(hr:E4 p)(hw:C8 p≤1000000)(hi:i<p.procs.length):
  Calls prog 43 #[.pointer (some a),.int .i64 i] w fun e w'=>∃u,e = .returned u∧(A9 (d7 w) w' 38 u ((p7 p).edges (i:Int))∧o6 w w'):=by
 refine d9 (args:=[.pointer (some a),.int .i64 i]) hm func43 rfl (by kernel_rfl) (by show 2≤_;decide +kernel) ?_;obtain⟨x,pt⟩:=M9 hr.may hw i hi;have hwy:=P7 pt;obtain⟨sh,vw,vd,_,vi,vo,has,hvw,hvd,_,hvi,hvo,ldb,sdb⟩:=ha.book rfl;obtain⟨_,_,_,_,_,_,hpg,_,_⟩:=has.sh;rw[I6]at hpg;obtain⟨vg,vp,hvg,hvp,ldp,sdp⟩:=hpg.pg;obtain⟨aw,hcw,haw⟩:=aw4 (hv:=hvw) (k:=i) (p:=⟨D6 (b9 p) i⟩) (by show((J1 p).map fun w=>(⟨w⟩:Ptr Wy))[i]?=_;rw[ey8,V2 hi];rfl);simp only at haw;have hinw:=hvw.inS (k:=i) (by show i<((J1 p).map fun w=>(⟨w⟩:Ptr Wy)).length;unfold J1;simpa using hi);have lb:=ldb w (i4 _);have lp:=ldp w (i4 _);have hF:(p7 p).edge0 (i:Int)=(D6 (b9 p) i).decides.map (ac0 p.procs[i].name)++((p7 p).verts (i:Int)).flatMap (G5 p.procs[i].name)++((p7 p).flows (i:Int)).flatMap fun f=>((p7 p).takers p.procs[i].name f.dst f.var).map fun v=>(⟨(p7 p).giver p.procs[i].name f.src f.var,v,2⟩:Eg):=by
  unfold Bk.edge0;rw[V3 hi,M1 hi]
 have hn1:=aX3 hr hw hi;have hn2:=aW4 hr hw hi;have hn3:=bs0 hr hw hi;have hfp:∀f∈(p7 p).flows (i:Int),(f.src=0∨Mid p f.src)∧(f.dst = -1∨Mid p f.dst):=fun f hf=>aY3 hr hw hi hf;have hin:=hvp.inS hi;obtain⟨sv,hsv,hld⟩:=G1 (P:=prog) (t:=53) hvp (i4 _) (ev2 hi) ao0 ao4 ao1 O1;rw[O1]at hld;obtain⟨cs,rfl,c1,c2,c3,c4,rfl,_⟩:=hsv;generalize p.procs[i].name=q at hF hld;have hbp:=bE6 a (i:Int) q c1 c2 c3 c4;have hbx:(Instr.box 122 (.agg (H2 a i q c1 c2 c3 c4 (.slice none 0 0) (.slice none 0 0)))).run prog w = .ok (.pointer (some ⟨w.heap.size,0,none⟩)) (w.alloc (.cells (H2 a i q c1 c2 c3 c4 (.slice none 0 0) (.slice none 0 0)) 122)):=rfl;have hse:Value.string {data:=#[]}=o7 e0:=rfl;simp only[m8,n9,p9,simprocAttr,lb,lp,hin,hld,hbp,hbx,hse];have hxa:=o6.alloc w (.cells (H2 a i q c1 c2 c3 c4 (.slice none 0 0) (.slice none 0 0)) 122);have hsz1:w.heap.size<(w.alloc (.cells (H2 a i q c1 c2 c3 c4 (.slice none 0 0) (.slice none 0 0)) 122)).heap.size:=by simp
 have hb1:=ez5 w (.cells (H2 a i q c1 c2 c3 c4 (.slice none 0 0) (.slice none 0 0)) 122);generalize hw1:w.alloc (.cells (H2 a i q c1 c2 c3 c4 (.slice none 0 0) (.slice none 0 0)) 122)=w1 at hxa hsz1 hb1;refine B3 ai1 (I0 w.heap.size _ _ q 1 0 e0 w1 hb1 rfl) (fun w2 hx2=>?_);obtain⟨de,wz,w4,hal4,hst4,hx4,hat4⟩:=cf3 (w:=w2) (nP w.heap.size (.slice none 0 0)) (SV.ofN (d7 w2) ⟨q,1,0,e0⟩) fun b hb=>by
  have:=hx2.size;rcases hb with h|h|h|h
  ·omega
  ·exact absurd h D0
  ·exact absurd h D0
  ·exact h.elim
 have hx14:=hx2.trans hx4;have hx04:=hxa.trans hx14;have lb4:=ldb w4 (b7 hx04);have hlw:=G4 (P:=prog) (t:=102) hcw (b7 hx04) aq9;simp only[m8,n9,p9,simprocAttr,hal4,hst4,lb4,hinw,hlw];refine y5 er6 (bD7 aw _ p i x _ w4 (haw.mono (b7 hx04)) hr hw hi hwy) ?_;rintro ud w5 ⟨hod,hx5⟩;have hx05:=hx04.trans hx5;have hud:=cO7 (eC1 hsz1 hx14.size) hod;have hat5:=hat4.mono (H1 (N':=nP w.heap.size (.slice none 0 0)) hx5 (fun _ h=>h.elim) fun b h=>.inl h);have hx15:=hx14.trans hx5;rw[←hw1]at hx15;have s5:=(PV.new a i q c1 c2 c3 c4 hx15).2;have hb0:=cd3 hx05;generalize hgb:w.heap.size=gb at s5 hud hat5 hb0;generalize hH0:B5 w5 (nP gb (.slice none 0 0))=H0 at s5 hud hat5 hb0;obtain⟨ldE,_⟩:=L8.vx_v (SV.ofN (d7 w2) (⟨q,1,0,Go.Proofs.YtdgicngfmfldmaaGreat.e0⟩:Vx)) hat5;generalize(D6 (b9 p) i).decides=D at hF hn1 hud;have hSd:=hud.isS;have hnd:=hud.vlen;clear hin hld;simp only[m8,n9,simprocAttr,hSd,hnd];refine n8 [0,1,5,6,41,42] (σ:=Nat×Value) (fun t f w'=>f 43 = .int .i64 t.1∧t.1≤D.length∧PE H0 w w' gb a i q c1 c2 c3 c4 t.2 ((D.take t.1).map (ac0 q))) (fun t=>D.length-t.1) (0,.slice none 0 0) (by decide +kernel) ?_ ?_
 ·simp only[p6,simprocAttr];exact⟨by trivial,ew4 _,by simpa using s5⟩
 clear s5;rintro⟨k,v⟩ f w5 hk ⟨h43,hkl,s5⟩;simp only at h43 hkl s5;simp only[ev4,p6,simprocAttr]at hk;obtain⟨e0',e1,e5,e6,e41,e42,_⟩:=hk;simp only[m8,n9,simprocAttr,h43,e42];refine i5 (fun hc=>?_) (fun hc=>?_)
 ·have hlt:k<D.length:=by simpa using hc
  have hin:=hud.inS hlt;have hld:=cy6 hud s5.hb (ev2 hlt);have htk:=aC4 (ac0 q) D hlt;have hcl:((D.take k).map (ac0 q)).length≤1000000000:=by rw[ew3,ew6];omega
  generalize D[k]=d at hld htk;obtain⟨c8,wz6,w6,hal6,hst6,hx6,hc8,hc8n⟩:=cJ1 (w:=w5) d.1 d.2;have s6:=s5.more hx6;have lE6:=ldE w6 s6.hb;obtain⟨wz7,hal7,hst7⟩:=dF8 w6 ⟨q,1,0,Go.Proofs.YtdgicngfmfldmaaGreat.e0⟩;have hx7:=o6.alloc w6 (.cells (z6.cells (⟨q,1,0,Go.Proofs.YtdgicngfmfldmaaGreat.e0⟩:Vx)).toArray 36);have hc9:=ez5 w6 (.cells (z6.cells (⟨q,1,0,Go.Proofs.YtdgicngfmfldmaaGreat.e0⟩:Vx)).toArray 36);generalize w6.alloc (.cells (z6.cells (⟨q,1,0,Go.Proofs.YtdgicngfmfldmaaGreat.e0⟩:Vx)).toArray 36)=w7 at hst7 hx7 hc9;obtain⟨l8,_⟩:=aj4 hc8 hx7 id;simp only[cJ6,n9,p9,simprocAttr,h43,e41,e6,hin,hld,hal6,hst6,lE6,hal7,hst7,l8];refine bI8 [0,1,5,6,8,9,41,42,43] (fun f' w'=>o6 w6 w'∧w'.heap[w6.heap.size]?=some (.cells (z6.cells (ac0 q d).src).toArray 36 (0,0))) (by decide +kernel) ?_ ?_
  ·rcases ev3 (decide (d.1=0))with h0|h0
   ·simp only[m8,n9,simprocAttr,h0];refine⟨hx7,?_⟩;unfold ac0;rw[if_pos (ev6 h0)];exact hc9
   ·simp only[m8,n9,p9,simprocAttr,h0,e5,l8];refine B3 ai1 (I0 gb _ _ q 2 d.1 Go.Proofs.YtdgicngfmfldmaaGreat.e0 w7 (s6.more hx7).cb rfl) (fun w8 hx8=>?_);obtain⟨w9,q1,q2,q3⟩:=em6 (c:=w6.heap.size) ((hx8.block _ (ev9.1 hc9).1 id).trans hc9) ⟨q,2,d.1,Go.Proofs.YtdgicngfmfldmaaGreat.e0⟩;simp only[m8,simprocAttr,q1];refine⟨o9.ext_of (hx7.trans hx8) q3 fun b hb=>by rw[hb];exact ew8 _,?_⟩;unfold ac0;rw[if_neg (ev7 h0)];exact q2
  rintro f8 w8 hk ⟨hx8,hc9'⟩;simp only[ev4,p6,simprocAttr]at hk;obtain⟨g0,g1,g5,g6,g8,g9,g41,g42,g43,_⟩:=hk;have s8:=(s6.more hx8).more (o6.drew w8);have t1:∀K f d' w0',B8 prog (fun w'=>o6 w8.drew w') (Instr.loadAt 36 (.pointer (some ⟨w6.heap.size,0,none⟩))) K f d' w0'=K (A5 f d' (.agg (z6.cells (ac0 q d).src).toArray)) w0':=fun K f d' w0'=>A0 (w0:=w8.drew) (o9.refl _) fun w' h=>ej9 ((((o6.drew w8).trans h).block _ (ev9.1 hc9').1 id).trans hc9');have t2:∀K f d' w0',B8 prog (fun w'=>o6 w8.drew w') (Instr.loadAt 3 (.pointer (some ⟨c8,1,none⟩))) K f d' w0'=K (A5 f d' (.int .i64 d.2)) w0':=fun K f d' w0'=>A0 (w0:=w8.drew) (o9.refl _) fun w' h=>(aj4 hc8 (hx8.trans ((o6.drew w8).trans h)) id).2;simp only[m8,simprocAttr];refine C2 (fun w'=>o6 w8.drew w') 6 (A8 [0,1,2,3,4,5]) (by decide +kernel) (o9.refl _) ?_;simp only[D5,A8,m8,n9,p9,simprocAttr,g5,e5,g8,g9,t1,t2];refine B3 ai1 (I0 gb _ _ q 2 d.2 Go.Proofs.YtdgicngfmfldmaaGreat.e0 w8.drew s8.cb rfl) (fun w9 hx9=>⟨hx9,?_⟩);simp only[D5,m8,simprocAttr];refine y5 bH8 (ae4 H0 gb a i q c1 c2 c3 c4 v _ (ac0 q d).src ⟨q,2,d.2,Go.Proofs.YtdgicngfmfldmaaGreat.e0⟩ 1 w w9 (s8.more hx9) hcl) ?_;rintro _ w10 ⟨v10,s10⟩;simp only[m8,n9,simprocAttr,g43,h43];refine⟨(k+1,v10),by simp only[];omega,by simp only[];rw[B1 k (by omega)],by simp only[];omega,?_⟩;simp only[];rw[htk];exact s10
 have hge:k=D.length:=by simp at hc;omega
 subst hge;rw[ew5]at s5;have hb5:B4 (d7 w) (d7 w5):=p8 hb0 s5.hb;clear hcw hlw lb lp lb4 hinw;simp only[m8,simprocAttr,e0',e1];refine y5 dE6 (aM8 a p i w5 (ha.mono hb5) hr hw hi) ?_;rintro uv w6 ⟨hov,hx6⟩;have s6:=s5.more hx6;have huv:=s5.freshN hov;have b6:=s6.base;have s6:=s6.rebase (i4 _);generalize hK2:B5 w6 (nP gb v)=K2 at s6 huv b6;generalize(p7 p).verts (i:Int)=V at hF hn2 huv;have hL1l:(D.map (ac0 q)).length≤41000:=by rw[ew3];exact hn1
 generalize D.map (ac0 q)=L1 at s6 hF hL1l;have hSv:=huv.isS;have hnv:=huv.vlen;clear s5;simp only[m8,n9,simprocAttr,hSv,hnv];refine n8 [0,1,5,6,65,66] (σ:=Nat×Value) (fun t f w'=>f 67 = .int .i64 t.1∧t.1≤V.length∧PE K2 w w' gb a i q c1 c2 c3 c4 t.2 (L1++(V.take t.1).flatMap (G5 q))) (fun t=>V.length-t.1) (0,v) (by decide +kernel) ?_ ?_
 ·simp only[p6,simprocAttr];exact⟨by trivial,ew4 _,by simpa using s6⟩
 clear s6;rintro⟨m,v2⟩ f2 w7 hk ⟨h67,hml,s7⟩;simp only at h67 hml s7;simp only[ev4,p6,simprocAttr]at hk;obtain⟨a0,a1,a5,a6,a65,a66,_⟩:=hk;rw[e0']at a0;rw[e1]at a1;rw[e5]at a5;rw[e6]at a6;have hcl7:(L1++(V.take m).flatMap (G5 q)).length≤80000:=by
  have h1:=Q7 (G5 q) 1 (V.take m) fun z _=>aQ7 q z;rw[ew6]at h1;rw[ev5];have h2:min m V.length≤30000:=by omega
  omega
 simp only[m8,n9,simprocAttr,h67,a66];refine i5 (fun hc=>?_) (fun hc=>?_)
 ·have hlt:m<V.length:=by simpa using hc
  have hin:=huv.inS hlt;obtain⟨sv,hsv,hld⟩:=G1 (P:=prog) (t:=36) huv (s7.hb) (ev2 hlt) aI8 aJ0 aI9 ad2;rw[ad2]at hld;have htk:=J0 (G5 q) V hlt;generalize V[m]=vx at hsv htk;obtain rfl:=hsv.N;obtain⟨d8,wz8,w8,hal8,hst8,hx8,hat8⟩:=cf1 (hsv.mono s7.hb) (i4 _);obtain⟨ldv,sdv⟩:=hat8.vx;obtain⟨sv,hsv',ldw,sdw⟩:=hat8.vx_v;obtain rfl:=hsv'.N;have l8:=ldv w8 (i4 _);have lw8:=ldw w8 (i4 _);have s8:=s7.more hx8;have lE8:=ldE w8 (p8 b6 s8.hb);have s8d:=s8.more (o6.drew w8);have t1:=sdw (fun w'=>o6 w8.drew w') w8.drew (o9.refl _) fun w' h=>b7 ((o6.drew w8).trans h);have t2:=sdv (fun w'=>o6 w8.drew w') w8.drew (o9.refl _) fun w' h=>b7 ((o6.drew w8).trans h);generalize hxs:L1++(V.take m).flatMap (G5 q)=xs at s7 s8 s8d hcl7;have hxs':L1++(V.take (m+1)).flatMap (G5 q)=xs++G5 q vx:=by rw[htk,←hxs,ex9]
  rcases ev3 (decide (vx.kind=3))with h3|h3
  ·have hs:G5 q vx=[⟨⟨q,1,0,Go.Proofs.YtdgicngfmfldmaaGreat.e0⟩,vx,1⟩]:=by unfold G5;rw[if_pos (.inl (ev6 h3))]
   simp only[m8,n9,p9,simprocAttr,h67,a65,hin,hld,hal8,hst8,l8,h3,a5,a6,lE8,lw8];refine y5 bH8 (ae4 K2 gb a i q c1 c2 c3 c4 v2 _ ⟨q,1,0,Go.Proofs.YtdgicngfmfldmaaGreat.e0⟩ vx 1 w w8 s8 (by omega)) ?_;rintro _ w9 ⟨v9,s9⟩;simp only[m8,n9,simprocAttr,h67];refine⟨(m+1,v9),by simp only[];omega,by simp only[];rw[B1 m (by omega)],by simp only[];omega,?_⟩;simp only[];rw[hxs',hs];exact s9
  rcases ev3 (decide (vx.kind=4))with h4|h4
  ·have hs:G5 q vx=[⟨⟨q,1,0,Go.Proofs.YtdgicngfmfldmaaGreat.e0⟩,vx,1⟩]:=by unfold G5;rw[if_pos (.inr (ev6 h4))]
   simp only[m8,n9,p9,simprocAttr,h67,a65,hin,hld,hal8,hst8,l8,h3,h4,a5,a6,lE8,lw8];refine y5 bH8 (ae4 K2 gb a i q c1 c2 c3 c4 v2 _ ⟨q,1,0,Go.Proofs.YtdgicngfmfldmaaGreat.e0⟩ vx 1 w w8 s8 (by omega)) ?_;rintro _ w9 ⟨v9,s9⟩;simp only[m8,n9,simprocAttr,h67];refine⟨(m+1,v9),by simp only[];omega,by simp only[];rw[B1 m (by omega)],by simp only[];omega,?_⟩;simp only[];rw[hxs',hs];exact s9
  have hn34:¬(vx.kind=3∨vx.kind=4):=fun h=>h.elim (ev7 h3) (ev7 h4);rcases ev3 (decide (vx.kind=5))with h5|h5
  ·have hs:G5 q vx=[⟨⟨q,2,vx.id,Go.Proofs.YtdgicngfmfldmaaGreat.e0⟩,vx,1⟩]:=by unfold G5;rw[if_neg hn34,if_pos (.inl (ev6 h5))]
   simp only[m8,n9,p9,simprocAttr,h67,a65,hin,hld,hal8,hst8,l8,h3,h4,h5];refine C2 (fun w'=>o6 w8.drew w') 6 (A8 [0,1,2,3,5,4]) (by decide +kernel) (o9.refl _) ?_;simp only[D5,A8,m8,n9,simprocAttr,a5,t1,t2];refine B3 ai1 (I0 gb _ _ q 2 vx.id Go.Proofs.YtdgicngfmfldmaaGreat.e0 w8.drew s8d.cb rfl) (fun w9 hx9=>⟨hx9,?_⟩);simp only[D5,m8,simprocAttr];refine y5 bH8 (ae4 K2 gb a i q c1 c2 c3 c4 v2 _ ⟨q,2,vx.id,Go.Proofs.YtdgicngfmfldmaaGreat.e0⟩ vx 1 w w9 (s8d.more hx9) (by omega)) ?_;rintro _ w10 ⟨v10,s10⟩;simp only[m8,n9,simprocAttr,h67];refine⟨(m+1,v10),by simp only[];omega,by simp only[];rw[B1 m (by omega)],by simp only[];omega,?_⟩;simp only[];rw[hxs',hs];exact s10
  rcases ev3 (decide (vx.kind=6))with h6|h6
  ·have hs:G5 q vx=[⟨⟨q,2,vx.id,Go.Proofs.YtdgicngfmfldmaaGreat.e0⟩,vx,1⟩]:=by unfold G5;rw[if_neg hn34,if_pos (.inr (ev6 h6))]
   simp only[m8,n9,p9,simprocAttr,h67,a65,hin,hld,hal8,hst8,l8,h3,h4,h5,h6];refine C2 (fun w'=>o6 w8.drew w') 6 (A8 [0,1,2,3,5,4]) (by decide +kernel) (o9.refl _) ?_;simp only[D5,A8,m8,n9,simprocAttr,a5,t1,t2];refine B3 ai1 (I0 gb _ _ q 2 vx.id Go.Proofs.YtdgicngfmfldmaaGreat.e0 w8.drew s8d.cb rfl) (fun w9 hx9=>⟨hx9,?_⟩);simp only[D5,m8,simprocAttr];refine y5 bH8 (ae4 K2 gb a i q c1 c2 c3 c4 v2 _ ⟨q,2,vx.id,Go.Proofs.YtdgicngfmfldmaaGreat.e0⟩ vx 1 w w9 (s8d.more hx9) (by omega)) ?_;rintro _ w10 ⟨v10,s10⟩;simp only[m8,n9,simprocAttr,h67];refine⟨(m+1,v10),by simp only[];omega,by simp only[];rw[B1 m (by omega)],by simp only[];omega,?_⟩;simp only[];rw[hxs',hs];exact s10
  have hs:G5 q vx=[]:=by
   unfold G5;rw[if_neg hn34,if_neg fun h=>h.elim (ev7 h5) (ev7 h6)]
  simp only[m8,n9,p9,simprocAttr,h67,a65,hin,hld,hal8,hst8,l8,h3,h4,h5,h6];refine⟨(m+1,v2),by simp only[];omega,by simp only[];rw[B1 m (by omega)],by simp only[];omega,?_⟩;simp only[];rw[hxs',hs,ey6];exact s8
 have hge:m=V.length:=by simp at hc;omega
 subst hge;rw[ew5]at s7 hcl7;have hb7:B4 (d7 w) (d7 w7):=p8 hb0 (p8 b6 s7.hb);simp only[m8,simprocAttr,a0,a1];refine y5 er5 (cg0 a p i w7 (ha.mono hb7) hr hw hi) ?_;rintro uf w8 ⟨hof,hx8⟩;have s8:=s7.more hx8;have huf:=s7.freshN hof;have b8:=p8 b6 s8.base;have s8:=s8.rebase (i4 _);generalize hK3:B5 w8 (nP gb v2)=K3 at s8 huf b8;generalize(p7 p).flows (i:Int)=Fl at hF hn3 hfp huf;generalize L1++V.flatMap (G5 q)=L2 at s8 hF hcl7;generalize hG:(fun f:Fw=>((p7 p).takers q f.dst f.var).map fun v=>(⟨(p7 p).giver q f.src f.var,v,2⟩:Eg))=G at hF;have hGe:∀f:Fw,G f=((p7 p).takers q f.dst f.var).map fun v=>(⟨(p7 p).giver q f.src f.var,v,2⟩:Eg):=fun f=>by rw[←hG]
 have hGl:∀f∈Fl,(G f).length≤9:=fun f hf=>by
  rw[hGe,ew3];exact aL8 hr hw (hfp f hf).2
 have hSf:=huf.isS;have hnf:=huf.vlen;clear s7 hG;simp only[m8,n9,simprocAttr,hSf,hnf];refine n8 [0,1,5,6,93,94] (σ:=Nat×Value) (fun t f w'=>f 95 = .int .i64 t.1∧t.1≤Fl.length∧PE K3 w w' gb a i q c1 c2 c3 c4 t.2 (L2++(Fl.take t.1).flatMap G)) (fun t=>Fl.length-t.1) (0,v2) (by decide +kernel) ?_ ?_
 ·simp only[p6,simprocAttr];exact⟨by trivial,ew4 _,by simpa using s8⟩
 clear s8;rintro⟨k,v3⟩ f3 w9 hk ⟨h95,hkl,s9⟩;simp only at h95 hkl s9;simp only[ev4,p6,simprocAttr]at hk;obtain⟨b0,b1,b5,b6',b93,b94,_⟩:=hk;rw[a5]at b5;have hcl9:(L2++(Fl.take k).flatMap G).length≤50000000:=by
  have h1:=Q7 G 9 (Fl.take k) fun z hz=>hGl z (eD8 hz);rw[ew6]at h1;rw[ev5];have h2:min k Fl.length≤5000000:=by omega
  omega
 have hb3:B4 (d7 w) K3:=p8 hb0 b8;simp only[m8,n9,simprocAttr,h95,b94];refine i5 (fun hc=>?_) (fun hc=>?_);rotate_left
 ·have hge:k=Fl.length:=by simp at hc;omega
  subst hge;rw[ew5]at s9 hcl9;have l9:(Instr.loadAt 32 (.pointer (some ⟨gb,8,none⟩))).run prog w9 = .ok v3 w9:=E8 (i:=8) (u:=v3) s9.cb rfl cG5;simp only[m8,n9,simprocAttr,b5,l9];refine y5 es2 (bP4 s9.ox (by omega) (C0 _ _)) ?_;rintro u w10 ⟨ho10,hm10,_⟩;simp only[m8,simprocAttr];refine n7 results43 ?_;simp only[p6,simprocAttr];refine⟨?_,o9.ext_of s9.ext hm10 fun b hb=>(s9.dx b hb).1⟩;have e:(p7 p).edges (i:Int)=bl6 (L2++Fl.flatMap G):=by unfold Bk.edges;rw[hF]
  rw[e];exact ho10.downN (p8 hb3 s9.base)
 have hlt:k<Fl.length:=by simpa using hc
 have hin:=huf.inS hlt;obtain⟨sv,hsv,hld⟩:=G1 (P:=prog) (t:=101) huf (s9.hb) (ev2 hlt) bX0 bX8 bX2 bm8;rw[bm8]at hld;have htk:=J0 G Fl hlt;obtain⟨hps,hpd⟩:=hfp _ (ew2 hlt);generalize Fl[k]=fl at hsv htk hps hpd;obtain⟨d13,wz10,w10,hal10,hst10,hx10,hat10⟩:=cV0 (hsv.mono s9.hb) (i4 _);obtain⟨ldf,_⟩:=hat10.fw;have l10:=ldf w10 (i4 _);have s10:=s9.more hx10;simp only[m8,n9,p9,simprocAttr,h95,b93,hin,hld,hal10,hst10,l10,b5];refine B3 es0 (ck6 gb _ _ a p q fl.src fl.var w10 s10.cb rfl rfl (ha.mono (p8 hb3 s10.hb)) hr hw hps) (fun w11 hx11=>?_);have s11:=s10.more hx11;have hGf:=hGe fl;generalize(p7 p).giver q fl.src fl.var=gv at hGf;obtain⟨d14,wz12,w12,hal12,hst12,hx12,hat12⟩:=cf3 (w:=w11) (nP gb v3) (SV.ofN (d7 w11) gv) fun b hb=>s11.lt hb;have s12:=s11.more hx12;have l12:=ldf w12 (b7 (hx11.trans hx12));simp only[m8,n9,simprocAttr,hal12,hst12,l12,b5];refine y5 es1 (bW5 gb _ _ a p q fl.dst fl.var w12 s12.cb rfl rfl (ha.mono (p8 hb3 s12.hb)) hr hw hpd) ?_;rintro ut w13 ⟨hot,hx13⟩;have s13:=s12.more hx13;have hut:=s12.freshN hot;have hat13:=hat12.mono (H1 (N':=nP gb v3) hx13 (fun _ h=>h.elim) fun b h=>.inl h);have b13:=s13.base;have s13:=s13.rebase (i4 _);generalize hK4:B5 w13 (nP gb v3)=K4 at s13 hut hat13 b13;obtain⟨ldg,_⟩:=L8.vx_v (SV.ofN (d7 w11) gv) hat13;have htf:=aL8 hr hw (q:=q) (n:=fl.var) hpd;generalize(p7 p).takers q fl.dst fl.var=Tk at hGf hut htf;generalize hxs:L2++(Fl.take k).flatMap G=xs at s13 hcl9;have hxs':L2++(Fl.take (k+1)).flatMap G=xs++Tk.map fun v=>(⟨gv,v,2⟩:Eg):=by rw[htk,hGf,←hxs,ex9]
 have hSt:=hut.isS;have hnt:=hut.vlen;clear s9 s10 s11 s12;simp only[m8,n9,simprocAttr,hSt,hnt];refine n8 [0,1,5,6,14,93,94,95,110,111] (σ:=Nat×Value) (fun t f w'=>f 112 = .int .i64 t.1∧t.1≤Tk.length∧PE K4 w w' gb a i q c1 c2 c3 c4 t.2 (xs++(Tk.take t.1).map fun v=>(⟨gv,v,2⟩:Eg))) (fun t=>Tk.length-t.1) (0,v3) (by decide +kernel) ?_ ?_
 ·simp only[p6,simprocAttr];exact⟨by trivial,ew4 _,by simpa using s13⟩
 clear s13;rintro⟨j,v4⟩ f4 w14 hk ⟨h112,hjl,s14⟩;simp only at h112 hjl s14;simp only[ev4,p6,simprocAttr]at hk;obtain⟨j0,j1,j5,j6,j14,j93,j94,j95,j110,j111,_⟩:=hk;rw[b5]at j5;rw[h95]at j95;simp only[m8,n9,simprocAttr,h112,j111];refine i5 (fun hc2=>?_) (fun hc2=>?_);rotate_left
 ·have hge:j=Tk.length:=by simp at hc2;omega
  subst hge;rw[ew5]at s14;simp only[m8,n9,simprocAttr,j95];refine⟨(k+1,v4),by simp only[];omega,by simp only[];rw[B1 k (by omega)],by simp only[];omega,?_⟩;simp only[];rw[hxs'];exact s14.rebase (p8 b13 s14.base)
 have hlt2:j<Tk.length:=by simpa using hc2
 clear hin hld hsv;have hin:=hut.inS hlt2;obtain⟨sv,hsv,hld⟩:=G1 (P:=prog) (t:=36) hut (s14.hb) (ev2 hlt2) aI8 aJ0 aI9 ad2;rw[ad2]at hld;have htk2:=aC4 (fun v=>(⟨gv,v,2⟩:Eg)) Tk hlt2;have hcl14:(xs++(Tk.take j).map fun v=>(⟨gv,v,2⟩:Eg)).length≤1000000000:=by
  rw[ev5,ew3,ew6];omega
 generalize Tk[j]=tv at hsv htk2;obtain rfl:=hsv.N;obtain⟨d16,wz15,w15,hal15,hst15,hx15,hat15⟩:=cf1 (hsv.mono s14.hb) (i4 _);obtain⟨sv,hsv',ldt,_⟩:=hat15.vx_v;obtain rfl:=hsv'.N;have s15:=s14.more hx15;have lg:=ldg w15 s15.hb;have lt:=ldt w15 (i4 _);simp only[m8,n9,p9,simprocAttr,h112,j110,hin,hld,hal15,hst15,j5,j14,lg,lt];refine y5 bH8 (ae4 K4 gb a i q c1 c2 c3 c4 v4 _ gv tv 2 w w15 s15 hcl14) ?_;rintro _ w16 ⟨v16,s16⟩;simp only[m8,n9,simprocAttr,h112];refine⟨(j+1,v16),by simp only[];omega,by simp only[];rw[B1 j (by omega)],by simp only[];omega,?_⟩;simp only[];rw[htk2,←ex9];exact s16
theorem cx3:af6 prog 41=true:=by kernel_rfl
theorem er2:af6 prog 43=true:=by kernel_rfl
theorem er4:af6 prog 49=true:=by kernel_rfl
def cp6(p:Pg)(n:A4):Prop:=¬(S0 p=true∧0≤S5 p.procs n)
def bx5(p:Pg)(n:A4)(k:Nat):Prop:=S0 p=true∧S5 p.procs n=(k:Int)∧k<p.procs.length
theorem aq6(x:Option Addr):B7 prog .eql 82 (.pointer x) (.pointer none)=some (.bool x.isNone):=be8 rfl (by kernel_rfl)
theorem cN8{p:Pg}{n:A4}(h:0≤S5 p.procs n):∃k:Nat,S5 p.procs n=(k:Int)∧k<p.procs.length:=by
 obtain⟨k,e,x,hx,_⟩:=aB9 _ p.procs 0 h;exact⟨k,by unfold S5;rw[e];simp,(ev8.1 hx).1⟩
theorem ap8(v:Value)(p:Pg)(n:A4)(w:World)(hv:SV (d7 w) v p)(hw:C8 p≤1000000):
  Calls prog 41 #[v,o7 n] w fun e w'=>∃u,e = .returned u∧(∃bv iv,u = .tuple #[bv,iv]∧o6 w w'∧((cp6 p n∧bv = .pointer none)∨∃k,bx5 p n k∧iv = .int .i64 (k:Nat)∧∃ad,bv = .pointer (some ad)∧At (d7 w') ad (p7 p))):=by
 refine d9 (args:=[v,o7 n]) hm func41 rfl (by kernel_rfl) (by show 2≤_;decide +kernel) ?_;obtain⟨c,w1,hbx,hx1,hatp⟩:=U0 hv (i4 _);obtain⟨sp,hsp,ldsp,_⟩:=hatp.pg_v;have l1:=ldsp w1 (i4 _);simp only[m8,n9,simprocAttr,hbx,l1];refine y5 er4 (cK5 sp p w1 hsp hw) ?_;rintro u w2 ⟨hf,ht,hx2⟩;cases hR:S0 p
 ·obtain rfl:=hf hR;simp only[m8,n9,simprocAttr,aq6];refine ad8 results41 ?_;simp only[p6,simprocAttr];exact⟨_,_,rfl,hx1.trans hx2,.inl ⟨fun h=>(by rw[hR]at h;cases h.1),by trivial⟩⟩
 obtain⟨ad,rfl,had⟩:=ht hR;obtain⟨sh,_,_,_,_,_,has,_,_,_,_,_,ldb,_⟩:=had.book rfl;have hlp:(b9 p).p.procs.length≤1000000000:=by
  rw[I6];have:=(Q8 (Q9 hR).may).2;omega
 have hz:(b9 p).pr n=S5 p.procs n:=by unfold Sh.pr;rw[I6]
 have lb2:=ldb w2 (i4 _);simp only[m8,n9,simprocAttr,aq6,lb2];refine B3 cb9 (an5 sh (b9 p) n w2 has hlp) (fun w3 hx3=>?_);have lb3:=ldb w3 (b7 hx3);rw[hz];rcases ev3 (decide (S5 p.procs n<0))with h0|h0
 ·simp only[m8,n9,simprocAttr,h0];refine ad8 results41 ?_;simp only[p6,simprocAttr];exact⟨_,_,rfl,(hx1.trans hx2).trans hx3,.inl ⟨fun h=>(by have:=ev6 h0;have:=h.2;omega),by trivial⟩⟩
 ·obtain⟨k,hk,hkl⟩:=cN8 (p:=p) (n:=n) (by have:=ev7 h0;omega);simp only[m8,n9,simprocAttr,h0,lb3];refine B3 cb9 (an5 sh (b9 p) n w3 (has.mono (b7 hx3)) hlp) (fun w4 hx4=>?_);rw[hz];simp only[m8,simprocAttr];refine ad8 results41 ?_;simp only[p6,simprocAttr];exact⟨_,_,rfl,((hx1.trans hx2).trans hx3).trans hx4,.inr ⟨k,⟨hR,hk,hkl⟩,by rw[hk],ad,by trivial,had.mono (b7 (hx3.trans hx4))⟩⟩
theorem aF6{p:Pg}{n:A4}(h:cp6 p n):aJ7 p n=none:=if_neg h
theorem ak2{p:Pg}{n:A4}{k:Nat}(h:bx5 p n k):aJ7 p n=some (p7 p,(k:Int)):=by
 unfold aJ7;rw[if_pos ⟨h.1,by rw[h.2.1];omega⟩,h.2.1]
theorem bB7(v:Value)(p:Pg)(n:A4)(w:World)(hv:SV (d7 w) v p)(hw:C8 p≤1000000):
  Calls prog 19 #[v,o7 n] w fun e w'=>∃u,e = .returned u∧(A9 (d7 w) w' 9 u (bm1 p n)∧o6 w w'):=by
 refine d9 (args:=[v,o7 n]) hm func19 rfl (by kernel_rfl) (by show 2≤_;decide +kernel) ?_;obtain⟨c,w1,hbx,hx1,hatp⟩:=U0 hv (i4 _);obtain⟨sp,hsp,ldsp,_⟩:=hatp.pg_v;have l1:=ldsp w1 (i4 _);simp only[m8,n9,simprocAttr,hbx,l1];refine y5 cx3 (ap8 sp p n w1 hsp hw) ?_;rintro _ w2 ⟨bv,iv,rfl,hx2,⟨hno,rfl⟩|⟨k,hb,rfl,ad,rfl,had⟩⟩
 ·simp only[m8,n9,simprocAttr,aq6];refine n7 results19 ?_;simp only[p6,simprocAttr];unfold bm1;rw[aF6 hno];exact⟨A9.nil _ _ _,hx1.trans hx2⟩
 ·simp only[m8,n9,simprocAttr,aq6];refine y5 cx4 (aD9 ad p k w2 had (Q9 hb.1) hw hb.2.2) ?_;rintro _ w3 ⟨ui,uo,rfl,hoi,hoo,_,hx3⟩;simp only[m8,simprocAttr];refine n7 results19 ?_;simp only[p6,simprocAttr];unfold bm1;rw[ak2 hb]
  first
   | exact⟨hoi.back (hx1.trans hx2),(hx1.trans hx2).trans hx3⟩
   | exact⟨hoo.back (hx1.trans hx2),(hx1.trans hx2).trans hx3⟩
theorem bB6(v:Value)(p:Pg)(n:A4)(w:World)(hv:SV (d7 w) v p)(hw:C8 p≤1000000):
  Calls prog 20 #[v,o7 n] w fun e w'=>∃u,e = .returned u∧(A9 (d7 w) w' 9 u (bh0 p n)∧o6 w w'):=by
 refine d9 (args:=[v,o7 n]) hm func20 rfl (by kernel_rfl) (by show 2≤_;decide +kernel) ?_;obtain⟨c,w1,hbx,hx1,hatp⟩:=U0 hv (i4 _);obtain⟨sp,hsp,ldsp,_⟩:=hatp.pg_v;have l1:=ldsp w1 (i4 _);simp only[m8,n9,simprocAttr,hbx,l1];refine y5 cx3 (ap8 sp p n w1 hsp hw) ?_;rintro _ w2 ⟨bv,iv,rfl,hx2,⟨hno,rfl⟩|⟨k,hb,rfl,ad,rfl,had⟩⟩
 ·simp only[m8,n9,simprocAttr,aq6];refine n7 results20 ?_;simp only[p6,simprocAttr];unfold bh0;rw[aF6 hno];exact⟨A9.nil _ _ _,hx1.trans hx2⟩
 ·simp only[m8,n9,simprocAttr,aq6];refine y5 cx4 (aD9 ad p k w2 had (Q9 hb.1) hw hb.2.2) ?_;rintro _ w3 ⟨ui,uo,rfl,hoi,hoo,_,hx3⟩;simp only[m8,simprocAttr];refine n7 results20 ?_;simp only[p6,simprocAttr];unfold bh0;rw[ak2 hb]
  first
   | exact⟨hoi.back (hx1.trans hx2),(hx1.trans hx2).trans hx3⟩
   | exact⟨hoo.back (hx1.trans hx2),(hx1.trans hx2).trans hx3⟩
theorem ay7(v:Value)(p:Pg)(n:A4)(w:World)(hv:SV (d7 w) v p)(hw:C8 p≤1000000):
  Calls prog 12 #[v,o7 n] w fun e w'=>∃u,e = .returned u∧(A9 (d7 w) w' 36 u (aD6 p n)∧o6 w w'):=by
 refine d9 (args:=[v,o7 n]) hm func12 rfl (by kernel_rfl) (by show 2≤_;decide +kernel) ?_;obtain⟨c,w1,hbx,hx1,hatp⟩:=U0 hv (i4 _);obtain⟨sp,hsp,ldsp,_⟩:=hatp.pg_v;have l1:=ldsp w1 (i4 _);simp only[m8,n9,simprocAttr,hbx,l1];refine y5 cx3 (ap8 sp p n w1 hsp hw) ?_;rintro _ w2 ⟨bv,iv,rfl,hx2,⟨hno,rfl⟩|⟨k,hb,rfl,ad,rfl,had⟩⟩
 ·simp only[m8,n9,simprocAttr,aq6];refine n7 results12 ?_;simp only[p6,simprocAttr];unfold aD6;rw[aF6 hno];exact⟨A9.nil _ _ _,hx1.trans hx2⟩
 ·simp only[m8,n9,simprocAttr,aq6];refine y5 dE6 (aM8 ad p k w2 had (Q9 hb.1) hw hb.2.2) ?_;rintro u w3 ⟨ho,hx3⟩;simp only[m8,simprocAttr];refine n7 results12 ?_;simp only[p6,simprocAttr];unfold aD6;rw[ak2 hb];exact⟨ho.backN (hx1.trans hx2),(hx1.trans hx2).trans hx3⟩
theorem aP3(v:Value)(p:Pg)(n:A4)(w:World)(hv:SV (d7 w) v p)(hw:C8 p≤1000000):
  Calls prog 13 #[v,o7 n] w fun e w'=>∃u,e = .returned u∧(A9 (d7 w) w' 38 u (am2 p n)∧o6 w w'):=by
 refine d9 (args:=[v,o7 n]) hm func13 rfl (by kernel_rfl) (by show 2≤_;decide +kernel) ?_;obtain⟨c,w1,hbx,hx1,hatp⟩:=U0 hv (i4 _);obtain⟨sp,hsp,ldsp,_⟩:=hatp.pg_v;have l1:=ldsp w1 (i4 _);simp only[m8,n9,simprocAttr,hbx,l1];refine y5 cx3 (ap8 sp p n w1 hsp hw) ?_;rintro _ w2 ⟨bv,iv,rfl,hx2,⟨hno,rfl⟩|⟨k,hb,rfl,ad,rfl,had⟩⟩
 ·simp only[m8,n9,simprocAttr,aq6];refine n7 results13 ?_;simp only[p6,simprocAttr];unfold am2;rw[aF6 hno];exact⟨A9.nil _ _ _,hx1.trans hx2⟩
 ·simp only[m8,n9,simprocAttr,aq6];refine y5 er2 (cf9 ad p k w2 had (Q9 hb.1) hw hb.2.2) ?_;rintro u w3 ⟨ho,hx3⟩;simp only[m8,simprocAttr];refine n7 results13 ?_;simp only[p6,simprocAttr];unfold am2;rw[ak2 hb];exact⟨ho.backN (hx1.trans hx2),(hx1.trans hx2).trans hx3⟩
def aX7(n:Int):Ex:=.mk 1 n e0 []
def Z6(s:A4):Ex:=.mk 2 0 s []
def cb5(op:Int)(a b:Ex):Ex:=.mk op 0 e0 [a,b]
def sV:A4:=ofA #[118]
def sG:A4:=ofA #[103]
def sP:A4:=ofA #[112]
def sX:A4:=ofA #[120]
def sY:A4:=ofA #[121]
def sE:A4:=ofA #[101]
def bl4:Pr:=⟨Q4,[],[sV],[.mk 1 1 [] sV e0 (aX7 2) false [] [] [],.mk 2 4 [] sG sP (.mk 0 0 e0 []) false [⟨false,e0,aX7 3⟩,⟨true,sV,.mk 0 0 e0 []⟩] [] [],
 .mk 3 3 [] e0 e0 (Z6 sV) false [] [] [],.mk 4 3 [] e0 e0 (Z6 sG) false [] [] []],[]⟩
def bl5:Pr:=⟨sP,[⟨sX,false⟩,⟨sY,true⟩],[],[.mk 5 1 [] sY e0 (cb5 8 (Z6 sY) (Z6 sX)) false [] [] [],
 .mk 6 5 [] e0 e0 (cb5 12 (Z6 sY) (aX7 9)) false [] [.mk 7 10 [] sE e0 (.mk 0 0 e0 []) false [] [] []] [],.mk 8 9 [] e0 e0 (Z6 sY) true [] [] []],[sE]⟩
def an8:Pg:=⟨[sG],[bl4,bl5]⟩
theorem bV8:bm1 an8 sP=[sX,sY]:=by decide +kernel
theorem bV7:bh0 an8 sP=[M3,sY]:=by decide +kernel
theorem bV9:(aD6 an8 Q4).length=11:=by decide +kernel
theorem cn7:(am2 an8 sP).contains ⟨⟨sP,2,5,e0⟩,⟨sP,4,0,sY⟩,2⟩=true:=by decide +kernel
theorem cB5{P:Program}{T:TypeId}{z:Value}(hz:H6 P T=some z)(hzs:z.cells.size=E3 P T)(hz1:∀u∈z.cells.toList,u.oneCell'=true)(ht:B6 P T=true)(hu:(P.underlying T).isSome=true)(hi:(P.info? T).isSome=true)(w:World):
  ∃w0,w.heap.size<w0.heap.size∧(Instr.alloc T true (.tuple #[])).run P w = .ok (.pointer (some ⟨w.heap.size,0,none⟩)) w0∧o6 w w0∧∀(w':World) (cs:Array Value),cs.size=E3 P T→(∀u∈cs.toList,u.oneCell'=true)→o6 w0 w' →
  ∃w'',(Instr.storeAt T (.pointer (some ⟨w.heap.size,0,none⟩)) (.agg cs)).run P w' = .ok () w''∧(Instr.loadAt T (.pointer (some ⟨w.heap.size,0,none⟩))).run P w'' = .ok (.agg cs) w''∧o6 w w''∧o9 (fun b=>b=w.heap.size) w' w'':=by
 have h1:=(aT9 (P:=P) (w:=w) (T:=T) hz hzs (cs:=z.cells) hzs hz1).1;refine⟨_,by simp,h1,o6.alloc _ _,fun w' cs hcs hc1 hx=>?_⟩;have hb:w'.heap[w.heap.size]?=some (.cells z.cells T (0,0)):=(hx.block _ (by simp) id).trans (ez5 w _);obtain⟨w'',e1,e2,e3⟩:=ap1 (P:=P) (T:=T) hb hz hzs hcs hc1;exact⟨w'',e1,ab6 e2 ht hu hi hcs.symm,o9.ext_of ((o6.alloc _ _).trans hx) e3 fun b hb=>by rw[hb];exact ew8 _,e3⟩
theorem cB6(w:World):∃w0,w.heap.size<w0.heap.size∧(Instr.alloc 43 true (.tuple #[])).run prog w = .ok (.pointer (some ⟨w.heap.size,0,none⟩)) w0∧o6 w w0∧∀(w':World) (cs:Array Value),cs.size=E3 prog 43→(∀u∈cs.toList,u.oneCell'=true)→o6 w0 w' →
  ∃w'',(Instr.storeAt 43 (.pointer (some ⟨w.heap.size,0,none⟩)) (.agg cs)).run prog w' = .ok () w''∧(Instr.loadAt 43 (.pointer (some ⟨w.heap.size,0,none⟩))).run prog w'' = .ok (.agg cs) w''∧o6 w w''∧o9 (fun b=>b=w.heap.size) w' w'':=
 cB5 cI6 (by rw[ao2];rfl) (by simp[Value.cells,Value.oneCell']) bm3 bn0 bm6 w
theorem O8{k:IntKind}{n:Int}:(Value.int k n).cells=#[.int k n]:=rfl
theorem aJ8{b:Bool}:(Value.bool b).cells=#[.bool b]:=rfl
theorem O9{s:A4}:(o7 s).cells=#[o7 s]:=rfl
theorem as0{cs:Array Value}:(Value.agg cs).cells=cs:=rfl
theorem dA5:(Value.slice none 0 0).cells=#[.slice none 0 0]:=rfl
theorem O3:Value.string ⟨#[]⟩=o7 e0:=rfl
theorem cq7(n:Int):B9 prog 43 [(0,.int .i64 1),(1,.int .i64 n)]=some (.agg #[.int .i64 1,.int .i64 n,o7 e0,.slice none 0 0]):=by
 simp[B9,ce6,J5,Instr.fill,O8,O3]
theorem cq8(s:A4):B9 prog 43 [(0,.int .i64 2),(2,o7 s)]=some (.agg #[.int .i64 2,.int .i64 0,o7 s,.slice none 0 0]):=by
 simp[B9,ce6,J5,Instr.fill,O8,O9,O3]
theorem cq9(op:Int)(vk:Value)(hk:vk.cells=#[vk]):B9 prog 43 [(0,.int .i64 op),(3,vk)]=some (.agg #[.int .i64 op,.int .i64 0,o7 e0,vk]):=by
 simp[B9,ce6,J5,Instr.fill,O8,O3,hk]
theorem bA8(n:Int)(w:World):Calls prog 54 #[.int .i64 n] w fun e w'=>∃u,e = .returned u∧(u = .agg #[.int .i64 1,.int .i64 n,o7 e0,.slice none 0 0]∧o6 w w'):=by
 refine d9 (args:=[.int .i64 n]) hm func54 rfl (by kernel_rfl) (by show 1≤_;decide +kernel) ?_;obtain⟨w0,_,hal,hx0,hend⟩:=cB6 w;obtain⟨w1,q1,q2,q3,_⟩:=hend w0 #[.int .i64 1,.int .i64 n,o7 e0,.slice none 0 0] (by rw[ao2];rfl) (by simp[o7,Value.oneCell']) (o9.refl _);have hb:=cq7 n;simp only[m8,n9,simprocAttr,hal,hb,q1];refine L6 results54 (ad:=⟨w.heap.size,0,none⟩) (by simp only[p6,simprocAttr]) q2 ?_;exact⟨rfl,q3⟩
theorem ak5(s:A4)(w:World):Calls prog 55 #[o7 s] w fun e w'=>∃u,e = .returned u∧(u = .agg #[.int .i64 2,.int .i64 0,o7 s,.slice none 0 0]∧o6 w w'):=by
 refine d9 (args:=[o7 s]) hm func55 rfl (by kernel_rfl) (by show 1≤_;decide +kernel) ?_;obtain⟨w0,_,hal,hx0,hend⟩:=cB6 w;obtain⟨w1,q1,q2,q3,_⟩:=hend w0 #[.int .i64 2,.int .i64 0,o7 s,.slice none 0 0] (by rw[ao2];rfl) (by simp[o7,Value.oneCell']) (o9.refl _);have hb:=cq8 s;simp only[m8,n9,simprocAttr,hal,hb,q1];refine L6 results55 (ad:=⟨w.heap.size,0,none⟩) (by simp only[p6,simprocAttr]) q2 ?_;exact⟨rfl,q3⟩
section
variable {h:Hp}
theorem aq3{op n:Int}{name:A4}{vk:Value}{kids:List Ex}(hk:R h vk kids):SV h (.agg #[.int .i64 op,.int .i64 n,o7 name,vk]) (Ex.mk op n name kids):=⟨_,rfl,bz2.2 ⟨vk,rfl,hk⟩⟩
theorem cZ0{r:Bool}{name:A4}{c1 c2 c3 c4:Value}{x:Ex}(hx:SV h (.agg #[c1,c2,c3,c4]) x):SV h (.agg #[.bool r,o7 name,c1,c2,c3,c4]) (⟨r,name,x⟩:Ar):=⟨_,rfl,[c1,c2,c3,c4],rfl,hx.enc⟩
theorem ba8{id kind:Int}{vl:Value}{labels:List A4}{name proc:A4}{c1 c2 c3 c4:Value}{x:Ex}{has:Bool}{va vt ve:Value}{args:List Ar}{thn els:List St}
  (hl:R h vl labels) (hx:SV h (.agg #[c1,c2,c3,c4]) x) (ha:R h va args) (ht:R h vt thn) (he:R h ve els) :
  SV h (.agg #[.int .i64 id,.int .i64 kind,vl,o7 name,o7 proc,c1,c2,c3,c4,.bool has,va,vt,ve]) (St.mk id kind labels name proc x has args thn els):=
 ⟨_,rfl,bz3.2 ⟨vl,[c1,c2,c3,c4],va,vt,ve,rfl,hl,hx.enc,ha,ht,he⟩⟩
theorem cZ1{name:A4}{v1 v2 v3 v4:Value}{params:List Pa}{vars:List A4}{body:List St}{fin:List A4}(h1:R h v1 params)(h2:R h v2 vars)(h3:R h v3 body)(h4:R h v4 fin):
  SV h (.agg #[o7 name,v1,v2,v3,v4]) (⟨name,params,vars,body,fin⟩:Pr):=⟨_,rfl,v1,v2,v3,v4,rfl,h1,h2,h3,h4⟩
theorem dJ3{v1 v2:Value}{globals:List A4}{procs:List Pr}(h1:R h v1 globals)(h2:R h v2 procs):SV h (.agg #[v1,v2]) (⟨globals,procs⟩:Pg):=⟨_,rfl,v1,v2,rfl,h1,h2⟩
theorem I2{α:Type}[z7 α]:R h (.slice none 0 0) ([]:List α):=⟨none,0,0,rfl,rfl,ew8 _,[],rfl,fun j v h=>by simp at h⟩
end
def bZ0{α:Type}[z7 α](h:Hp):List Value→List α→Prop
 | [],[]=>True
 | x::xs,y::ys=>SV h x y∧bZ0 h xs ys
 | _,_=>False
theorem bu8{α:Type}[z7 α]{h:Hp}:∀{xs:List Value} {ys:List α},bZ0 h xs ys→N0 h (xs.flatMap (·.cells.toList)) ys∧(∀x∈xs,x.cells.size=z7.sz α)∧ys.length=xs.length
 | [],[],_=>⟨rfl,fun x hx=>(by cases hx),rfl⟩
 | x::xs,y::ys,⟨h1,h2⟩=>by
  obtain⟨i1,i2,i3⟩:=bu8 h2;refine⟨⟨x.cells.toList,_,by simp,h1.enc,i1⟩,fun z hz=>?_,by simp[i3]⟩;rcases ex3.1 hz with rfl|hz
  ·have:=z7.len h1.enc;simpa using this
  ·exact i2 z hz
theorem cX8{P:Program}{t T:TypeId}{sz by_:Nat}(hs:F2 P t T sz by_=true){α:Type}[z7 α](hsz:z7.sz α=sz){h:Hp}{w:World}{xs:List Value}{ys:List α}{parts:Array (Nat×Value)}{n:Nat}(hp:parts.toList=(xs.zipIdx 0).map fun p=>(p.2,p.1))
  (hxy:bZ0 h xs ys) (hn:n=xs.length) (hne:xs≠[]) (hlt:xs.length≤16) (hw:B4 h (d7 w)) :
  ∃v w',(Instr.buildSlice t n parts).run P w = .ok v w'∧R (d7 w') v ys∧v.cells=#[v]∧o6 w w'∧A9 h w' T v ys∧∀b,A3 v b→w.heap.size≤b:=by
 obtain⟨h1,h2,h3⟩:=bu8 hxy;obtain⟨v,w',q1,q2,q3,q4⟩:=lit hs hp h1 (by rw[←hsz];exact h2) hn h3 hne hlt hw;exact⟨v,w',q1,q2.rw_ (p8 hw (b7 q3)),D8 q2.isS,q3,q2,q4⟩
theorem noE{N:Nat→Prop}{w w':World}(hx:o6 w w'):B4 (B5 w N) (B5 w' N):=H1 hx (fun _ h=>h.elim) fun b h=>.inl h
theorem cl7{P:Program}{t T:TypeId}{sz by_:Nat}(hs:F2 P t T sz by_=true){α:Type}[z7 α](hsz:z7.sz α=sz){N:Nat→Prop}{w:World}(hN:∀b,N b→b<w.heap.size){xs:List Value}{ys:List α}{parts:Array (Nat×Value)}{n:Nat}(hp:parts.toList=(xs.zipIdx 0).map fun p=>(p.2,p.1))
  (hxy:bZ0 (B5 w N) xs ys) (hn:n=xs.length) (hne:xs≠[]) (hlt:xs.length≤16) :
  ∃v w',(Instr.buildSlice t n parts).run P w = .ok v w'∧R (B5 w' N) v ys∧v.cells=#[v]∧o6 w w'∧A9 (B5 w N) w' T v ys∧∀b,A3 v b→w.heap.size≤b:=by
 obtain⟨v,w',q1,_,q2,q3,q4,q5⟩:=cX8 hs hsz hp hxy hn hne hlt (C0 _ _);exact⟨v,w',q1,q4.ro (noE q3) fun b hb=>D3 fun h=>(by have:=hN b h;have:=q5 b hb;omega),q2,q3,q4,q5⟩
theorem de6(s:A4){N:Nat→Prop}(w:World)(hN:∀b,N b→b<w.heap.size):∃v w',(Instr.buildSlice 22 1 #[(0,o7 s)]).run prog w = .ok v w'∧R (B5 w' N) v [s]∧v.cells=#[v]∧o6 w w':=by
 obtain⟨v,w',q1,q2,q3,q5⟩:=cc6 s w (C0 w N);exact⟨v,w',q1,q2.ro (noE q3) fun b hb=>D3 fun h=>(by have:=hN b h;have:=q5 b hb;omega),D8 q2.isS,q3⟩
theorem dI5:F2 prog 41 43 4 56=true:=by kernel_rfl
theorem dI3:F2 prog 44 107 6 80=true:=by kernel_rfl
theorem cC2:F2 prog 45 47 13 208=true:=by kernel_rfl
theorem dI9:F2 prog 51 69 2 24=true:=by kernel_rfl
theorem dJ0:F2 prog 23 53 5 112=true:=by kernel_rfl
theorem bs1(id kind:Int)(n:A4)(c1 c2 c3 c4:Value):B9 prog 47 [(0,.int .i64 id),(1,.int .i64 kind),(3,o7 n),(5,.agg #[c1,c2,c3,c4])]=some (.agg #[.int .i64 id,.int .i64 kind,.slice none 0 0,o7 n,o7 e0,c1,c2,c3,c4,.bool false,.slice none 0 0,.slice none 0 0,.slice none 0 0]):=by
 simp[B9,bm7,J5,Instr.fill,O8,O9,as0,O3]
theorem bs2(id kind:Int)(n q:A4)(va:Value)(hk:va.cells=#[va]):B9 prog 47 [(0,.int .i64 id),(1,.int .i64 kind),(3,o7 n),(4,o7 q),(7,va)]=some (.agg #[.int .i64 id,.int .i64 kind,.slice none 0 0,o7 n,o7 q,.int .i64 0,.int .i64 0,o7 e0,.slice none 0 0,.bool false,va,.slice none 0 0,.slice none 0 0]):=by
 simp[B9,bm7,J5,Instr.fill,O8,O9,O3,hk]
theorem bs3(id kind:Int)(c1 c2 c3 c4:Value):B9 prog 47 [(0,.int .i64 id),(1,.int .i64 kind),(5,.agg #[c1,c2,c3,c4])]=some (.agg #[.int .i64 id,.int .i64 kind,.slice none 0 0,o7 e0,o7 e0,c1,c2,c3,c4,.bool false,.slice none 0 0,.slice none 0 0,.slice none 0 0]):=by
 simp[B9,bm7,J5,Instr.fill,O8,as0,O3]
theorem bs4(id kind:Int)(n:A4):B9 prog 47 [(0,.int .i64 id),(1,.int .i64 kind),(3,o7 n)]=some (.agg #[.int .i64 id,.int .i64 kind,.slice none 0 0,o7 n,o7 e0,.int .i64 0,.int .i64 0,o7 e0,.slice none 0 0,.bool false,.slice none 0 0,.slice none 0 0,.slice none 0 0]):=by
 simp[B9,bm7,J5,Instr.fill,O8,O9,O3]
theorem bs5(id kind:Int)(c1 c2 c3 c4 vt:Value)(hk:vt.cells=#[vt]):B9 prog 47 [(0,.int .i64 id),(1,.int .i64 kind),(5,.agg #[c1,c2,c3,c4]),(8,vt)]=some (.agg #[.int .i64 id,.int .i64 kind,.slice none 0 0,o7 e0,o7 e0,c1,c2,c3,c4,.bool false,.slice none 0 0,vt,.slice none 0 0]):=by
 simp[B9,bm7,J5,Instr.fill,O8,as0,O3,hk]
theorem bs6(id kind:Int)(c1 c2 c3 c4:Value):B9 prog 47 [(0,.int .i64 id),(1,.int .i64 kind),(6,.bool true),(5,.agg #[c1,c2,c3,c4])]=some (.agg #[.int .i64 id,.int .i64 kind,.slice none 0 0,o7 e0,o7 e0,c1,c2,c3,c4,.bool true,.slice none 0 0,.slice none 0 0,.slice none 0 0]):=by
 simp[B9,bm7,J5,Instr.fill,O8,aJ8,as0,O3]
theorem ba1(c1 c2 c3 c4:Value):B9 prog 107 [(2,.agg #[c1,c2,c3,c4])]=some (.agg #[.bool false,o7 e0,c1,c2,c3,c4]):=by
 simp[B9,bX4,J5,Instr.fill,as0,O3]
theorem ba2(n:A4):B9 prog 107 [(0,.bool true),(1,o7 n)]=some (.agg #[.bool true,o7 n,.int .i64 0,.int .i64 0,o7 e0,.slice none 0 0]):=by
 simp[B9,bX4,J5,Instr.fill,aJ8,O9,O3]
theorem bp1(n:A4)(v3 v4:Value)(hk:v3.cells=#[v3])(hk2:v4.cells=#[v4]):B9 prog 53 [(0,o7 n),(2,v3),(3,v4)]=some (.agg #[o7 n,.slice none 0 0,v3,v4,.slice none 0 0]):=by
 simp[B9,cH6,J5,Instr.fill,O9,O3,hk,hk2]
theorem bp2(n:A4)(v2 v4 v5:Value)(hk:v2.cells=#[v2])(hk2:v4.cells=#[v4])(hk3:v5.cells=#[v5]):B9 prog 53 [(0,o7 n),(1,v2),(4,v5),(3,v4)]=some (.agg #[o7 n,v2,.slice none 0 0,v4,v5]):=by
 simp[B9,cH6,J5,Instr.fill,O9,O3,hk,hk2,hk3]
theorem bq1(n:A4):B9 prog 69 [(0,o7 n)]=some (.agg #[o7 n,.bool false]):=by
 simp[B9,ce7,J5,Instr.fill,O9,O3]
theorem bq2(n:A4):B9 prog 69 [(0,o7 n),(1,.bool true)]=some (.agg #[o7 n,.bool true]):=by
 simp[B9,ce7,J5,Instr.fill,aJ8,O9,O3]
theorem bg1(v1 v2:Value)(hk:v1.cells=#[v1])(hk2:v2.cells=#[v2]):B9 prog 25 [(0,v1),(1,v2)]=some (.agg #[v1,v2]):=by
 simp[B9,cZ2,J5,Instr.fill,hk,hk2]
theorem ce2{N:Nat→Prop}(op:Int)(a b:Ex)(a1 a2 a3 a4 b1 b2 b3 b4:Value)(w:World)(hN:∀b,N b→b<w.heap.size)(ha:SV (B5 w N) (.agg #[a1,a2,a3,a4]) a)(hb:SV (B5 w N) (.agg #[b1,b2,b3,b4]) b):
  Calls prog 56 #[.int .i64 op,.agg #[a1,a2,a3,a4],.agg #[b1,b2,b3,b4]] w fun e w'=>∃u,e = .returned u∧(∃vk,u = .agg #[.int .i64 op,.int .i64 0,o7 e0,vk]∧R (B5 w' N) vk [a,b]∧o6 w w'):=by
 refine d9 (args:=[.int .i64 op,.agg #[a1,a2,a3,a4],.agg #[b1,b2,b3,b4]]) hm func56 rfl (by kernel_rfl) (by show 3≤_;decide +kernel) ?_;obtain⟨d1,w1,hb1,hx1,hat1⟩:=bc9 (w:=w) (fun _=>False) ha (fun b h=>h.elim);obtain⟨d2,w2,hb2,hx2,hat2⟩:=bc9 (w:=w1) (fun _=>False) (hb.mono (noE hx1)) (fun b h=>h.elim);obtain⟨w3,hgt,hal,hx3,hend⟩:=cB6 w2;have hx23:=hx2.trans hx3;have hno:∀{w w':World},o6 w w'→B4 (B5 w fun _=>False) (d7 w'):=fun{w w'} hx=>p8 (C0 _ _) (b7 hx);have l1:=(L8.ex_v ha hat1).1 w3 (hno hx23);have l2:=(L8.ex_v (hb.mono (noE hx1)) hat2).1 w3 (hno hx3);have hx02:=hx1.trans hx2;obtain⟨vk,w4,q1,_,q3,q4,q5,q6⟩:=cX8 (P:=prog) dI5 rfl (w:=w3) (h:=B5 w2 N) (xs:=[.agg #[a1,a2,a3,a4],.agg #[b1,b2,b3,b4]]) (ys:=[a,b]) (parts:=#[(0,.agg #[a1,a2,a3,a4]),(1,.agg #[b1,b2,b3,b4])]) (n:=2) rfl ⟨ha.mono (noE hx02),hb.mono (noE hx02),trivial⟩ rfl (by simp) (by simp) (p8 (C0 _ _) (b7 hx3));have h1c:=V6 q5.isS;obtain⟨w5,e1,e2,e3,e4⟩:=hend w4 #[.int .i64 op,.int .i64 0,o7 Go.Proofs.YtdgicngfmfldmaaGreat.e0,vk] (by rw[ao2];rfl) (fun u hu=>by
  simp only[ex3,eA6,eG5]at hu;rcases hu with rfl|rfl|rfl|rfl
  ·rfl
  ·rfl
  ·rfl
  ·exact h1c) q4
 have hbd:=cq9 op vk q3;simp only[m8,n9,simprocAttr,hb1,hb2,hal,l1,l2,q1,hbd,e1];refine L6 results56 (ad:=⟨w2.heap.size,0,none⟩) (by simp only[p6,simprocAttr]) e2 ?_;refine⟨vk,rfl,?_,(hx1.trans hx2).trans e3⟩;refine(q5.mod e4 fun b h1 h2=>(by have h3:=q6 b h1;omega)).ro (noE e3) fun b hb=>D3 fun h=>?_;have h3:=q6 b hb;have h4:=hN b h;have h5:=hx02.size;omega
theorem dH7(w:World):∃w0,w.heap.size<w0.heap.size∧(Instr.alloc 25 true (.tuple #[])).run prog w = .ok (.pointer (some ⟨w.heap.size,0,none⟩)) w0∧o6 w w0∧∀(w':World) (cs:Array Value),cs.size=E3 prog 25→(∀u∈cs.toList,u.oneCell'=true)→o6 w0 w' →
  ∃w'',(Instr.storeAt 25 (.pointer (some ⟨w.heap.size,0,none⟩)) (.agg cs)).run prog w' = .ok () w''∧(Instr.loadAt 25 (.pointer (some ⟨w.heap.size,0,none⟩))).run prog w'' = .ok (.agg cs) w''∧o6 w w''∧o9 (fun b=>b=w.heap.size) w' w'':=
 cB5 da1 (by rw[bw3];rfl) (by simp[Value.cells,Value.oneCell']) ce3 ce8 ce5 w
theorem cX0:af6 prog 54=true:=by kernel_rfl
theorem bH7:af6 prog 55=true:=by kernel_rfl
theorem dE7:af6 prog 56=true:=by kernel_rfl
theorem em4:Value.string ⟨#[118]⟩=o7 sV:=rfl
theorem em3:Value.string ⟨#[103]⟩=o7 sG:=rfl
theorem dH9:Value.string ⟨#[112]⟩=o7 sP:=rfl
theorem dI0:Value.string ⟨#[120]⟩=o7 sX:=rfl
theorem dI1:Value.string ⟨#[121]⟩=o7 sY:=rfl
theorem em2:Value.string ⟨#[101]⟩=o7 sE:=rfl
theorem cY6:Value.string ⟨#[109,97,105,110]⟩=o7 Q4:=rfl
theorem cq0(w:World):Calls prog 34 #[] w fun e w'=>∃u,e = .returned u∧(SV (d7 w') u an8∧o6 w w'):=by
 refine d9 (args:=[]) hm func34 rfl (by kernel_rfl) (by show 0≤_;decide +kernel) ?_;obtain⟨w0,hgt,hal,hx0,hend⟩:=dH7 w;have hN:∀{w':World},o6 w0 w'→∀b,b=w.heap.size→b<w'.heap.size:=fun{w'} hx b hb=>by have:=hx.size;omega
 obtain⟨v1,w1,q1,r1,k1,x1⟩:=de6 sV (N:=fun b=>b=w.heap.size) w0 (hN (o9.refl _));simp only[m8,simprocAttr,hal,em4,em3,dH9,dI0,dI1,em2,cY6,q1];refine B3 cX0 (bA8 2 w1) (fun w2 x2=>?_);simp only[m8,simprocAttr,bs1];refine B3 cX0 (bA8 3 w2) (fun w3 x3=>?_);have y3:=(x1.trans x2).trans x3;obtain⟨v4,w4,q4,r4,k4,x4,_,_⟩:=cl7 (P:=prog) (α:=Ar) dI3 rfl (N:=fun b=>b=w.heap.size) (w:=w3) (hN y3) (xs:=[.agg #[.bool false,o7 e0,.int .i64 1,.int .i64 3,o7 e0,.slice none 0 0],.agg #[.bool true,o7 sV,.int .i64 0,.int .i64 0,o7 e0,.slice none 0 0]]) (ys:=[⟨false,e0,aX7 3⟩,⟨true,sV,.mk 0 0 e0 []⟩]) (parts:=#[(0,.agg #[.bool false,o7 e0,.int .i64 1,.int .i64 3,o7 e0,.slice none 0 0]),(1,.agg #[.bool true,o7 sV,.int .i64 0,.int .i64 0,o7 e0,.slice none 0 0])]) (n:=2) rfl ⟨cZ0 (aq3 I2),cZ0 (aq3 I2),trivial⟩ rfl (by simp) (by simp);have y4:=y3.trans x4;simp only[m8,simprocAttr,ba1,ba2,q4,bs2 _ _ _ _ _ k4];refine B3 bH7 (ak5 sV w4) (fun w5 x5=>?_);simp only[m8,simprocAttr,bs3];refine B3 bH7 (ak5 sG w5) (fun w6 x6=>?_);have y6:=(y4.trans x5).trans x6;have r4':=z7.mono (noE (x5.trans x6)) r4;obtain⟨v7,w7,q7,r7,k7,x7,_,_⟩:=cl7 (P:=prog) (α:=St) cC2 rfl (N:=fun b=>b=w.heap.size) (w:=w6) (hN y6) (xs:=[.agg #[.int .i64 1,.int .i64 1,.slice none 0 0,o7 sV,o7 e0,.int .i64 1,.int .i64 2,o7 e0,.slice none 0 0,.bool false,.slice none 0 0,.slice none 0 0,.slice none 0 0],.agg #[.int .i64 2,.int .i64 4,.slice none 0 0,o7 sG,o7 sP,.int .i64 0,.int .i64 0,o7 e0,.slice none 0 0,.bool false,v4,.slice none 0 0,.slice none 0 0],.agg #[.int .i64 3,.int .i64 3,.slice none 0 0,o7 e0,o7 e0,.int .i64 2,.int .i64 0,o7 sV,.slice none 0 0,.bool false,.slice none 0 0,.slice none 0 0,.slice none 0 0],.agg #[.int .i64 4,.int .i64 3,.slice none 0 0,o7 e0,o7 e0,.int .i64 2,.int .i64 0,o7 sG,.slice none 0 0,.bool false,.slice none 0 0,.slice none 0 0,.slice none 0 0]]) (ys:=[.mk 1 1 [] sV e0 (aX7 2) false [] [] [],.mk 2 4 [] sG sP (.mk 0 0 e0 []) false [⟨false,e0,aX7 3⟩,⟨true,sV,.mk 0 0 e0 []⟩] [] [],.mk 3 3 [] e0 e0 (Z6 sV) false [] [] [],.mk 4 3 [] e0 e0 (Z6 sG) false [] [] []]) (parts:=#[(0,.agg #[.int .i64 1,.int .i64 1,.slice none 0 0,o7 sV,o7 e0,.int .i64 1,.int .i64 2,o7 e0,.slice none 0 0,.bool false,.slice none 0 0,.slice none 0 0,.slice none 0 0]),(1,.agg #[.int .i64 2,.int .i64 4,.slice none 0 0,o7 sG,o7 sP,.int .i64 0,.int .i64 0,o7 e0,.slice none 0 0,.bool false,v4,.slice none 0 0,.slice none 0 0]),(2,.agg #[.int .i64 3,.int .i64 3,.slice none 0 0,o7 e0,o7 e0,.int .i64 2,.int .i64 0,o7 sV,.slice none 0 0,.bool false,.slice none 0 0,.slice none 0 0,.slice none 0 0]),(3,.agg #[.int .i64 4,.int .i64 3,.slice none 0 0,o7 e0,o7 e0,.int .i64 2,.int .i64 0,o7 sG,.slice none 0 0,.bool false,.slice none 0 0,.slice none 0 0,.slice none 0 0])]) (n:=4) rfl ⟨ba8 I2 (aq3 I2) I2 I2 I2,ba8 I2 (aq3 I2) r4' I2 I2,ba8 I2 (aq3 I2) I2 I2 I2,ba8 I2 (aq3 I2) I2 I2 I2,trivial⟩ rfl (by simp) (by simp);have y7:=y6.trans x7;have hsv1:SV (B5 w7 fun b=>b=w.heap.size) (.agg #[o7 Q4,.slice none 0 0,v1,v7,.slice none 0 0]) bl4:=cZ1 I2 (z7.mono (noE (((((x2.trans x3).trans x4).trans x5).trans x6).trans x7)) r1) r7 I2;obtain⟨d1,wz8,w8,hal8,hst8,x8,hat8⟩:=aR9 (w:=w7) (fun b=>b=w.heap.size) hsv1 (hN y7);have y8:=y7.trans x8;obtain⟨v9,w9,q9,r9,k9,x9,_,_⟩:=cl7 (P:=prog) (α:=Pa) dI9 rfl (N:=fun b=>b=w.heap.size) (w:=w8) (hN y8) (xs:=[.agg #[o7 sX,.bool false],.agg #[o7 sY,.bool true]]) (ys:=[⟨sX,false⟩,⟨sY,true⟩]) (parts:=#[(0,.agg #[o7 sX,.bool false]),(1,.agg #[o7 sY,.bool true])]) (n:=2) rfl ⟨⟨_,rfl,rfl⟩,⟨_,rfl,rfl⟩,trivial⟩ rfl (by simp) (by simp);have y9:=y8.trans x9;obtain⟨v10,w10,q10,r10,k10,x10⟩:=de6 sE (N:=fun b=>b=w.heap.size) w9 (hN y9);have y10:=y9.trans x10;simp only[m8,simprocAttr,bs3,q7,bp1 _ _ _ k1 k7,hal8,hst8,bq1,bq2,q9,q10];refine B3 bH7 (ak5 sY w10) (fun w11 x11=>?_);simp only[m8,simprocAttr];refine B3 bH7 (ak5 sX w11) (fun w12 x12=>?_);have y12:=(y10.trans x11).trans x12;simp only[m8,simprocAttr];refine y5 dE7 (ce2 (N:=fun b=>b=w.heap.size) 8 (Z6 sY) (Z6 sX) _ _ _ _ _ _ _ _ w12 (hN y12) (aq3 I2) (aq3 I2)) ?_;rintro _ w13 ⟨v13,rfl,r13,x13⟩;have y13:=y12.trans x13;simp only[m8,simprocAttr,bs1];refine B3 bH7 (ak5 sY w13) (fun w14 x14=>?_);simp only[m8,simprocAttr];refine B3 cX0 (bA8 9 w14) (fun w15 x15=>?_);have y15:=(y13.trans x14).trans x15;simp only[m8,simprocAttr];refine y5 dE7 (ce2 (N:=fun b=>b=w.heap.size) 12 (Z6 sY) (aX7 9) _ _ _ _ _ _ _ _ w15 (hN y15) (aq3 I2) (aq3 I2)) ?_;rintro _ w16 ⟨v16,rfl,r16,x16⟩;have y16:=y15.trans x16;obtain⟨v17,w17,q17,r17,k17,x17,_,_⟩:=cl7 (P:=prog) (α:=St) cC2 rfl (N:=fun b=>b=w.heap.size) (w:=w16) (hN y16) (xs:=[.agg #[.int .i64 7,.int .i64 10,.slice none 0 0,o7 sE,o7 e0,.int .i64 0,.int .i64 0,o7 e0,.slice none 0 0,.bool false,.slice none 0 0,.slice none 0 0,.slice none 0 0]]) (ys:=[.mk 7 10 [] sE e0 (.mk 0 0 e0 []) false [] [] []]) (parts:=#[(0,.agg #[.int .i64 7,.int .i64 10,.slice none 0 0,o7 sE,o7 e0,.int .i64 0,.int .i64 0,o7 e0,.slice none 0 0,.bool false,.slice none 0 0,.slice none 0 0,.slice none 0 0])]) (n:=1) rfl ⟨ba8 I2 (aq3 I2) I2 I2 I2,trivial⟩ rfl (by simp) (by simp);have y17:=y16.trans x17;simp only[m8,simprocAttr,bs4,q17,bs5 _ _ _ _ _ _ _ k17];refine B3 bH7 (ak5 sY w17) (fun w18 x18=>?_);have y18:=y17.trans x18;have r17':=z7.mono (noE x18) r17;have r16':=z7.mono (noE (x17.trans x18)) r16;have r13':=z7.mono (noE ((((x14.trans x15).trans x16).trans x17).trans x18)) r13;obtain⟨v19,w19,q19,r19,k19,x19,_,_⟩:=cl7 (P:=prog) (α:=St) cC2 rfl (N:=fun b=>b=w.heap.size) (w:=w18) (hN y18) (xs:=[.agg #[.int .i64 5,.int .i64 1,.slice none 0 0,o7 sY,o7 e0,.int .i64 8,.int .i64 0,o7 e0,v13,.bool false,.slice none 0 0,.slice none 0 0,.slice none 0 0],.agg #[.int .i64 6,.int .i64 5,.slice none 0 0,o7 e0,o7 e0,.int .i64 12,.int .i64 0,o7 e0,v16,.bool false,.slice none 0 0,v17,.slice none 0 0],.agg #[.int .i64 8,.int .i64 9,.slice none 0 0,o7 e0,o7 e0,.int .i64 2,.int .i64 0,o7 sY,.slice none 0 0,.bool true,.slice none 0 0,.slice none 0 0,.slice none 0 0]]) (ys:=[.mk 5 1 [] sY e0 (cb5 8 (Z6 sY) (Z6 sX)) false [] [] [],.mk 6 5 [] e0 e0 (cb5 12 (Z6 sY) (aX7 9)) false [] [.mk 7 10 [] sE e0 (.mk 0 0 e0 []) false [] [] []] [],.mk 8 9 [] e0 e0 (Z6 sY) true [] [] []]) (parts:=#[(0,.agg #[.int .i64 5,.int .i64 1,.slice none 0 0,o7 sY,o7 e0,.int .i64 8,.int .i64 0,o7 e0,v13,.bool false,.slice none 0 0,.slice none 0 0,.slice none 0 0]),(1,.agg #[.int .i64 6,.int .i64 5,.slice none 0 0,o7 e0,o7 e0,.int .i64 12,.int .i64 0,o7 e0,v16,.bool false,.slice none 0 0,v17,.slice none 0 0]),(2,.agg #[.int .i64 8,.int .i64 9,.slice none 0 0,o7 e0,o7 e0,.int .i64 2,.int .i64 0,o7 sY,.slice none 0 0,.bool true,.slice none 0 0,.slice none 0 0,.slice none 0 0])]) (n:=3) rfl ⟨ba8 I2 (aq3 r13') I2 I2 I2,ba8 I2 (aq3 r16') I2 r17' I2,ba8 I2 (aq3 I2) I2 I2 I2,trivial⟩ rfl (by simp) (by simp);have y19:=y18.trans x19;have z9:o6 w9 w19:=((((((((x10.trans x11).trans x12).trans x13).trans x14).trans x15).trans x16).trans x17).trans x18).trans x19;have z10:o6 w10 w19:=(((((((x11.trans x12).trans x13).trans x14).trans x15).trans x16).trans x17).trans x18).trans x19;have hsv2:SV (B5 w19 fun b=>b=w.heap.size) (.agg #[o7 sP,v9,.slice none 0 0,v19,v10]) bl5:=cZ1 (z7.mono (noE z9) r9) I2 r19 (z7.mono (noE z10) r10);obtain⟨d2,wz20,w20,hal20,hst20,x20,hat20⟩:=aR9 (w:=w19) (fun b=>b=w.heap.size) hsv2 (hN y19);have y20:=y19.trans x20;obtain⟨v21,w21,q21,r21,k21,x21⟩:=de6 sG (N:=fun b=>b=w.heap.size) w20 (hN y20);have y21:=y20.trans x21;have z8:o6 w8 w21:=((x9.trans z9).trans x20).trans x21;have l1:=(L8.pr_v hsv1 hat8).1 w21 (p8 (noE z8) (C0 _ _));have l2:=(L8.pr_v hsv2 hat20).1 w21 (p8 (noE x21) (C0 _ _));obtain⟨v22,w22,q22,r22,k22,x22,_,_⟩:=cl7 (P:=prog) (α:=Pr) dJ0 rfl (N:=fun b=>b=w.heap.size) (w:=w21) (hN y21) (xs:=[.agg #[o7 Q4,.slice none 0 0,v1,v7,.slice none 0 0],.agg #[o7 sP,v9,.slice none 0 0,v19,v10]]) (ys:=[bl4,bl5]) (parts:=#[(0,.agg #[o7 Q4,.slice none 0 0,v1,v7,.slice none 0 0]),(1,.agg #[o7 sP,v9,.slice none 0 0,v19,v10])]) (n:=2) rfl ⟨hsv1.mono (noE (x8.trans z8)),hsv2.mono (noE (x20.trans x21)),trivial⟩ rfl (by simp) (by simp);have y22:=y21.trans x22;have r21':=z7.mono (noE x22) r21;have h21c:=W6 r21;have h22c:=W6 r22;obtain⟨w23,e1,e2,e3,e4⟩:=hend w22 #[v21,v22] (by rw[bw3];rfl) (fun u hu=>by
  simp only[ex3,eA6,eG5]at hu;rcases hu with rfl|rfl
  ·exact h21c
  ·exact h22c) y22
 simp only[m8,simprocAttr,bs6,q19,bp2 _ _ _ _ k9 k19 k10,hal20,hst20,q21,l1,l2,q22,bg1 _ _ k21 k22,e1];refine L6 results34 (ad:=⟨w.heap.size,0,none⟩) (by simp only[p6,simprocAttr]) e2 ?_;refine⟨?_,e3⟩;have hh:B4 (B5 w22 fun b=>b=w.heap.size) (d7 w23):=K6 (C0 _ _) e4 fun b hb=>H8 hb;exact dJ3 (z7.mono hh r21') (z7.mono hh r22)
theorem aX6(va vb:Value)(la lb:List A4)(w:World)(ha:R (d7 w) va la)(hb:R (d7 w) vb lb)(hl:la.length≤1000000000):
  Calls prog 29 #[va,vb] w fun e w'=>∃u,e = .returned u∧(u = .bool (decide (la=lb))∧o6 w w'):=by
 refine d9 (args:=[va,vb]) hm func29 rfl (by kernel_rfl) (by show 2≤_;decide +kernel) ?_;have hSa:=ha.isS;have hna:=ha.vlen;have hSb:=hb.isS;have hnb:=hb.vlen;rcases ev3 (decide ((la.length:Int)=(lb.length:Int)))with h0|h0;rotate_left
 ·simp only[m8,n9,simprocAttr,hSa,hna,hSb,hnb,h0];refine n7 results29 ?_;simp only[p6,simprocAttr];refine⟨?_,o9.refl _⟩;rw[eI1 fun e=>ev7 h0 (by rw[e])]
 have hlen:la.length=lb.length:=by have:=ev6 h0;omega
 simp only[m8,n9,simprocAttr,hSa,hna,hSb,hnb,h0];refine n8 [0,1,11,12] (σ:=Nat) (fun k f w'=>f 13 = .int .i64 k∧k≤la.length∧(∀j,j<k→la[j]?=lb[j]?)∧o6 w w') (fun k=>la.length-k) 0 (by decide +kernel) ?_ ?_
 ·simp only[p6,simprocAttr];exact⟨by trivial,ew4 _,fun j h=>by omega,o9.refl _⟩
 rintro k f w1 hk ⟨h13,hkl,hall,hx⟩;simp only[ev4,p6,simprocAttr]at hk;obtain⟨e0,e1,e11,e12,_⟩:=hk;simp only[m8,n9,simprocAttr,h13,e12];refine i5 (fun hc=>?_) (fun hc=>?_);rotate_left
 ·have hge:k=la.length:=by simp at hc;omega
  subst hge;simp only[m8,simprocAttr];refine n7 results29 ?_;simp only[p6,simprocAttr];refine⟨?_,hx⟩;rw[eC8 (eH9 fun j=>?_)];rcases ez0 j la.length with h|h
  ·exact hall j h
  ·rw[eC7 h,eC7 (by omega)]
 have hlt:k<la.length:=by simpa using hc
 have hltb:k<lb.length:=by omega
 have hinA:=ha.inS hlt;have hinB:=hb.inS hltb;have hxd:=hx.trans (o6.drew w1);have t1:∀K f d w0',B8 prog (fun w'=>o6 w1.drew w') (Instr.loadAt 9 (.pointer (some (H4 va k)))) K f d w0'=K (A5 f d (o7 la[k])) w0':=fun K f d w0'=>A0 (w0:=w1.drew) (o9.refl _) fun w' h=>ldS ha (b7 (hxd.trans h)) hlt;have t2:∀K f d w0',B8 prog (fun w'=>o6 w1.drew w') (Instr.loadAt 9 (.pointer (some (H4 vb k)))) K f d w0'=K (A5 f d (o7 lb[k])) w0':=fun K f d w0'=>A0 (w0:=w1.drew) (o9.refl _) fun w' h=>ldS hb (b7 (hxd.trans h)) hltb;simp only[m8,simprocAttr,h13];refine C2 (fun w'=>o6 w1.drew w') 8 (A8 [0,1,2,3,4,5,6,7]) (by decide +kernel) (o9.refl _) ?_;simp only[D5,A8,m8,n9,p9,simprocAttr,e0,e1,hinA,hinB,t1,t2];rcases ev3 (decide (la[k]=lb[k]))with hq|hq
 ·simp only[m8,n9,simprocAttr,hq,h13];refine⟨k+1,by omega,by rw[B1 k (by omega)],by omega,fun j hj=>?_,hxd⟩;rcases ez0 j k with h|h
  ·exact hall j h
  ·obtain rfl:j=k:=by omega
   rw[ev2 hlt,ev2 hltb,ev6 hq]
 ·simp only[m8,n9,simprocAttr,hq];refine n7 results29 ?_;simp only[p6,simprocAttr];refine⟨?_,hxd⟩;rw[eI1 fun e=>ev7 hq (by simp only[e])]
def ae0(x y:Vx)(k:Int)(e:Eg):Bool:=decide (e.src=x)&&(decide (e.dst=y)&&(decide (k=0)||decide (e.kind=k)))
theorem bL0(v:Value)(l:List Eg)(x y:Vx)(k:Int)(w:World)(hv:R (d7 w) v l)(hl:l.length≤1000000000):
  Calls prog 33 #[v,.agg (z6.cells x).toArray,.agg (z6.cells y).toArray,.int .i64 k] w fun e w'=>∃u,e = .returned u∧(u = .bool (l.any (ae0 x y k))∧o6 w w'):=by
 refine d9 (args:=[v,.agg (z6.cells x).toArray,.agg (z6.cells y).toArray,.int .i64 k]) hm func33 rfl (by kernel_rfl) (by show 4≤_;decide +kernel) ?_;have hS:=hv.isS;have hn:=hv.vlen;obtain⟨d1,w1,hb1,hx1,hat1⟩:=aM9 (SV.ofN (d7 w) x) (i4 _);obtain⟨d2,w2,hb2,hx2,hat2⟩:=aM9 (SV.ofN (d7 w1) y) (i4 _);obtain⟨sv1,hsv1,ld1,_⟩:=hat1.vx_v;obtain⟨sv2,hsv2,ld2,_⟩:=hat2.vx_v;obtain rfl:=hsv1.N;obtain rfl:=hsv2.N;have hx02:=hx1.trans hx2;simp only[m8,n9,simprocAttr,hb1,hb2,hS,hn];refine n8 [0,3,5,6,11,12] (σ:=Nat) (fun i f w'=>f 13 = .int .i64 i∧i≤l.length∧(∀j (hj:j<l.length),j<i→ae0 x y k l[j]=false)∧o6 w2 w') (fun i=>l.length-i) 0 (by decide +kernel) ?_ ?_
 ·simp only[p6,simprocAttr];exact⟨by trivial,ew4 _,fun j _ h=>by omega,o9.refl _⟩
 rintro i f w3 hk ⟨h13,hil,hno,hx3⟩;simp only[ev4,p6,simprocAttr]at hk;obtain⟨e0,e3,e5,e6,e11,e12,_⟩:=hk;simp only[m8,n9,simprocAttr,h13,e12];refine i5 (fun hc=>?_) (fun hc=>?_);rotate_left
 ·have hge:i=l.length:=by simp at hc;omega
  subst hge;simp only[m8,simprocAttr];refine n7 results33 ?_;simp only[p6,simprocAttr];refine⟨?_,hx02.trans hx3⟩;have:l.any (ae0 x y k)=false:=by
   rw[List.any_eq_false];intro e he;obtain⟨j,hj,rfl⟩:=eA8.1 he;rw[hno j hj hj];simp
  rw[this]
 have hlt:i<l.length:=by simpa using hc
 have hin:=hv.inS hlt;obtain⟨sv,hsv,hld⟩:=G1 (P:=prog) (t:=38) hv (b7 (hx02.trans hx3)) (ev2 hlt) bN6 bO2 bw2 aR5;rw[aR5]at hld;have hany:ae0 x y k l[i]=true→l.any (ae0 x y k)=true:=fun h=>eH7.2 ⟨_,ew2 hlt,h⟩;have hno2:ae0 x y k l[i]=false→∀j (hj:j<l.length),j<i+1→ae0 x y k l[j]=false:=fun h j hj hji=>by
  rcases ez0 j i with h'|h'
  ·exact hno j hj h'
  ·obtain rfl:j=i:=by omega
   exact h
 generalize l[i]=e at hsv hany hno2;obtain⟨d,wz,w4,hal,hst,hx4,hat⟩:=cf0 (hsv.mono (b7 (hx02.trans hx3))) (i4 _);obtain⟨hxs,hxd,ldk,_⟩:=hat.eg;obtain⟨sv3,hsv3,ls,_⟩:=hxs.vx_v;obtain⟨sv4,hsv4,ldd,_⟩:=hxd.vx_v;obtain rfl:=hsv3.N;obtain rfl:=hsv4.N;have l1:=ls w4 (i4 _);have l2:=ldd w4 (i4 _);have l3:=ldk w4 (i4 _);have l4:=ld1 w4 (b7 (hx2.trans (hx3.trans hx4)));have l5:=ld2 w4 (b7 (hx3.trans hx4));have hql:=fun w0 a b=>bz4 w0 a b e.src x;have hql2:=fun w0 a b=>bz4 w0 a b e.dst y;have hx24:=hx3.trans hx4;rcases ev3 (decide (e.src=x))with h1|h1;rotate_left
 ·simp only[z6.cells]at l1 l4;simp only[m8,n9,p9,simprocAttr,h13,e5,e11,hin,hld,hal,hst,l1,l4,L9,hql,h1];exact⟨i+1,by omega,by rw[B1 i (by omega)],by omega,hno2 (by unfold ae0;rw[h1];rfl),hx24⟩
 rcases ev3 (decide (e.dst=y))with h2|h2;rotate_left
 ·simp only[z6.cells]at l1 l2 l4 l5;simp only[m8,n9,p9,simprocAttr,h13,e5,e6,e11,hin,hld,hal,hst,l1,l4,l2,l5,L9,hql,hql2,h1,h2];exact⟨i+1,by omega,by rw[B1 i (by omega)],by omega,hno2 (by unfold ae0;rw[h1,h2];rfl),hx24⟩
 simp only[z6.cells]at l1 l2 l4 l5;rcases ev3 (decide (k=0))with h3|h3
 ·simp only[m8,n9,p9,simprocAttr,h13,e3,e5,e6,e11,hin,hld,hal,hst,l1,l4,l2,l5,L9,hql,hql2,h1,h2,h3];refine n7 results33 ?_;simp only[p6,simprocAttr];exact⟨by rw[hany (by unfold ae0;rw[h1,h2,h3];rfl)],hx02.trans hx24⟩
 rcases ev3 (decide (e.kind=k))with h4|h4
 ·simp only[m8,n9,p9,simprocAttr,h13,e3,e5,e6,e11,hin,hld,hal,hst,l1,l4,l2,l5,l3,L9,hql,hql2,h1,h2,h3,h4];refine n7 results33 ?_;simp only[p6,simprocAttr];exact⟨by rw[hany (by unfold ae0;rw[h1,h2,h3,h4];rfl)],hx02.trans hx24⟩
 ·simp only[m8,n9,p9,simprocAttr,h13,e3,e5,e6,e11,hin,hld,hal,hst,l1,l4,l2,l5,l3,L9,hql,hql2,h1,h2,h3,h4];exact⟨i+1,by omega,by rw[B1 i (by omega)],by omega,hno2 (by unfold ae0;rw[h1,h2,h3,h4];rfl),hx24⟩
theorem dE1:af6 prog 12=true:=by kernel_rfl
theorem dE2:af6 prog 13=true:=by kernel_rfl
theorem eq6:af6 prog 19=true:=by kernel_rfl
theorem eq7:af6 prog 20=true:=by kernel_rfl
theorem dE4:af6 prog 29=true:=by kernel_rfl
theorem eq8:af6 prog 33=true:=by kernel_rfl
theorem eq9:af6 prog 34=true:=by kernel_rfl
theorem bd6:C8 an8≤1000000:=by decide +kernel
theorem cC3:(am2 an8 sP).length≤1000000000∧(bm1 an8 sP).length≤1000000000∧(bh0 an8 sP).length≤1000000000:=by decide +kernel
theorem ch8(q:A4)(k d:Int):B9 prog 36 [(0,o7 q),(1,.int .i64 k),(2,.int .i64 d)]=some (.agg (z6.cells (⟨q,k,d,e0⟩:Vx)).toArray):=by
 have hfc:z6.cells (⟨q,k,d,e0⟩:Vx)=[o7 q,.int .i64 k,.int .i64 d,o7 e0]:=rfl;rw[hfc];simp[B9,bO0,J5,Instr.fill,O8,O9,O3]
theorem ch9(q:A4)(k:Int)(n:A4):B9 prog 36 [(0,o7 q),(1,.int .i64 k),(3,o7 n)]=some (.agg (z6.cells (⟨q,k,0,n⟩:Vx)).toArray):=by
 have hfc:z6.cells (⟨q,k,0,n⟩:Vx)=[o7 q,.int .i64 k,.int .i64 0,o7 n]:=rfl;rw[hfc];simp[B9,bO0,J5,Instr.fill,O8,O9,O3]
theorem ci0(q:A4)(k:Int):B9 prog 36 [(0,o7 q),(1,.int .i64 k)]=some (.agg (z6.cells (⟨q,k,0,e0⟩:Vx)).toArray):=by
 have hfc:z6.cells (⟨q,k,0,e0⟩:Vx)=[o7 q,.int .i64 k,.int .i64 0,o7 e0]:=rfl;rw[hfc];simp[B9,bO0,J5,Instr.fill,O8,O9,O3]
theorem em5:Value.string ⟨#[36,114,101,116]⟩=o7 M3:=rfl
theorem bo9(w:World):Calls prog 8 #[] w fun e w'=>∃u,e = .returned u∧(u = .bool true∧o6 w w'):=by
 refine d9 (args:=[]) hm func8 rfl (by kernel_rfl) (by show 0≤_;decide +kernel) ?_;simp only[m8,simprocAttr];refine y5 eq9 (cq0 w) ?_;rintro u w1 ⟨hu,hx1⟩;obtain⟨d,wz,w2,hal,hst,hx2,hat⟩:=cV1 hu (i4 _);obtain⟨sp,hsp,ldp,_⟩:=hat.pg_v;have l2:=ldp w2 (i4 _);simp only[m8,simprocAttr,hal,hst,l2,dH9];refine y5 dE2 (aP3 sp an8 sP w2 hsp bd6) ?_;rintro ue w3 ⟨hoe,hx3⟩;have l3:=ldp w3 (b7 hx3);simp only[m8,simprocAttr,l3];refine y5 eq6 (bB7 sp an8 sP w3 (hsp.mono (b7 hx3)) bd6) ?_;rintro ut w4 ⟨hot,hx4⟩;rw[bV8]at hot;obtain⟨u5,w5,q5,o5,x5,_⟩:=cz0 sX sY w4 (i4 _);simp only[m8,simprocAttr,dI0,dI1,q5];refine B3 dE4 (aX6 ut u5 [sX,sY] [sX,sY] w5 ((hot.ext x5).rw_ (b7 (hx4.trans x5))) (o5.rw_ (b7 x5)) (by simp)) (fun w6 hx6=>?_);have hx36:=(hx4.trans x5).trans hx6;have hx26:=hx3.trans hx36;have l6:=ldp w6 (b7 hx26);simp only[m8,n9,simprocAttr,l6];refine y5 eq7 (bB6 sp an8 sP w6 (hsp.mono (b7 hx26)) bd6) ?_;rintro ug w7 ⟨hog,hx7⟩;rw[bV7]at hog;obtain⟨u8,w8,q8,o8,x8,_⟩:=cz0 M3 sY w7 (i4 _);simp only[m8,simprocAttr,em5,q8];refine B3 dE4 (aX6 ug u8 [M3,sY] [M3,sY] w8 ((hog.ext x8).rw_ (b7 (hx7.trans x8))) (o8.rw_ (b7 x8)) (by simp)) (fun w9 hx9=>?_);have hx29:=((hx26.trans hx7).trans x8).trans hx9;have l9:=ldp w9 (b7 hx29);simp only[m8,n9,simprocAttr,l9,cY6];refine y5 dE1 (ay7 sp an8 Q4 w9 (hsp.mono (b7 hx29)) bd6) ?_;rintro uv w10 ⟨hov,hx10⟩;have hSv:=hov.isS;have hnv:=hov.vlen;rw[bV9]at hnv;have hx210:=hx29.trans hx10;have hx310:=(((hx36.trans hx7).trans x8).trans hx9).trans hx10;have hoe10:=(hoe.ext hx310).rw_ (b7 hx210);have b1:=ch8 sP 2 5;have b2:=ch9 sP 4 sY;simp only[m8,n9,simprocAttr,hSv,hnv,b1,b2];refine B3 eq8 (bL0 ue (am2 an8 sP) ⟨sP,2,5,e0⟩ ⟨sP,4,0,sY⟩ 2 w10 hoe10 cC3.1) (fun w11 hx11=>?_);have hany:(am2 an8 sP).any (ae0 ⟨sP,2,5,e0⟩ ⟨sP,4,0,sY⟩ 2)=true:=eH7.2 ⟨_,ex4.1 cn7,rfl⟩;simp only[m8,simprocAttr,hany];refine n7 results8 ?_;simp only[p6,simprocAttr];exact⟨by trivial,(hx1.trans hx2).trans (hx210.trans hx11)⟩
theorem er0:af6 prog 39=true:=by kernel_rfl
theorem er1:af6 prog 40=true:=by kernel_rfl
theorem aD1(x y:Vx)(w:World):Calls prog 14 #[.agg (z6.cells x).toArray,.agg (z6.cells y).toArray] w fun e w'=>∃u,e = .returned u∧(u = .bool (aI2 x y)∧o6 w w'):=by
 refine d9 (args:=[.agg (z6.cells x).toArray,.agg (z6.cells y).toArray]) hm func14 rfl (by kernel_rfl) (by show 2≤_;decide +kernel) ?_;obtain⟨d1,w1,hb1,hx1,hat1⟩:=aM9 (SV.ofN (d7 w) x) (i4 _);obtain⟨d2,w2,hb2,hx2,hat2⟩:=aM9 (SV.ofN (d7 w1) y) (i4 _);have l1:=hat1.vx.1 w2 (b7 hx2);have l2:=hat2.vx.1 w2 (i4 _);have hx:=hx1.trans hx2;unfold aI2;rcases ev3 (decide (x.proc=y.proc))with h1|h1;rotate_left
 ·rw[if_pos (ev7 h1)];simp only[m8,n9,p9,F8,G7.val,simprocAttr,hb1,hb2,l1,l2,h1];refine n7 results14 ?_;simp only[p6,simprocAttr];exact⟨by trivial,hx⟩
 rw[if_neg (by simpa using ev6 h1)];rcases ev3 (decide (x.kind=y.kind))with h2|h2;rotate_left
 ·rw[if_pos (ev7 h2)];simp only[m8,n9,p9,F8,G7.val,simprocAttr,hb1,hb2,l1,l2,h1,h2];refine n7 results14 ?_;simp only[p6,simprocAttr];exact⟨by trivial,hx⟩
 rw[if_neg (by simpa using ev6 h2)];rcases ev3 (decide (x.id=y.id))with h3|h3;rotate_left
 ·rw[if_pos (ev7 h3)];simp only[m8,n9,p9,F8,G7.val,simprocAttr,hb1,hb2,l1,l2,h1,h2,h3];refine n7 results14 ?_;simp only[p6,simprocAttr];exact⟨by trivial,hx⟩
 rw[if_neg (by simpa using ev6 h3)];simp only[m8,n9,p9,F8,G7.val,simprocAttr,hb1,hb2,l1,l2,h1,h2,h3];refine n7 results14 ?_;simp only[p6,simprocAttr];exact⟨by trivial,hx⟩
def aF9(p:Pg)(n:Int):A4:=(p.procs.getD (bj0 n p.procs.length).toNat bp5).name
theorem cd2{n m:Int}(h:0<m):0≤bj0 n m∧bj0 n m<m:=by
 unfold bj0;rw[if_neg (by omega)];have h1:=Int.tmod_lt_of_pos n h;have h2 : -m<n.tmod m:=by
  have:=Int.lt_tmod_of_pos n h;exact this
 split<;>omega
theorem bp8(v:Value)(p:Pg)(n:Int)(w:World)(hv:SV (d7 w) v p)(h0:0<p.procs.length)(hl:p.procs.length≤1000000000):
  Calls prog 11 #[v,.int .i64 n] w fun e w'=>∃u,e = .returned u∧(u=o7 (aF9 p n)∧o6 w w'):=by
 refine d9 (args:=[v,.int .i64 n]) hm func11 rfl (by kernel_rfl) (by show 2≤_;decide +kernel) ?_;obtain⟨c,w1,hbx,hx1,hatp⟩:=U0 hv (i4 _);obtain⟨vg,vp,hvg,hvp,ldp,sdp⟩:=hatp.pg;have l1:=ldp w1 (i4 _);have hSp:=hvp.isS;have hnp:=hvp.vlen;have hrg:=cd2 (n:=n) (m:=(p.procs.length:Int)) (by omega);obtain⟨k,hk⟩:∃k:Nat,bj0 n (p.procs.length:Int)=(k:Int):=⟨(bj0 n (p.procs.length:Int)).toNat,by omega⟩;have hkl:k<p.procs.length:=by omega
 have hF:aF9 p n=p.procs[k].name:=by
  unfold aF9;rw[hk,ex8,List.getD,ev2 hkl];rfl
 have hin:=hvp.inS (k:=k) hkl;have hat:=hvp.at_ (i:=k) (x:=p.procs[k]) (ev2 hkl);have hz5:z7.sz Pr=5:=rfl;rw[hz5]at hat;obtain⟨_,_,_,_,_,_,_,_,ldr,sdr⟩:=hat.pr;have t1:=sdp (fun w'=>o6 w1.drew w') w1.drew (o9.refl _) fun w' h=>b7 ((o6.drew w1).trans h);have t2:=sdr (fun w'=>o6 w1.drew w') w1.drew (o9.refl _) fun w' h=>b7 ((o6.drew w1).trans h);have lr:=ldr w1.drew (b7 (o6.drew w1));have hm1:=cO6 n (p.procs.length:Int) w1.drew (by omega);rw[hk]at hm1;rw[hF];generalize p.procs[k].name=nm at lr t2;generalize hz:((p.procs.length:Nat):Int)=L at hnp hm1;have h00:decide (L=0)=false:=eI1 (by omega);simp only[m8,n9,p9,F8,G7.val,simprocAttr,hbx,l1,hSp,hnp,hz,h00];refine C2 (fun w'=>o6 w1.drew w') 7 (A8 [0,1,2,3,4,5,6]) (by decide +kernel) (o9.refl _) ?_;simp only[D5,A8,m8,n9,p9,F8,G7.val,simprocAttr,t1,hSp,hnp,hz];refine D1 er1 hm1 ⟨o9.refl _,?_⟩;simp only[D5,A8,m8,n9,p9,F8,G7.val,simprocAttr,aI1,hin,lr];refine n7 results11 ?_;simp only[p6,simprocAttr];exact⟨by trivial,hx1.trans (o6.drew w1)⟩
theorem bM3(v:Value)(p:Pg)(most:Int)(w:World)(hv:SV (d7 w) v p)(hw:C8 p≤1000000):
  Calls prog 10 #[v,.int .i64 most] w fun e w'=>∃u,e = .returned u∧(u = .bool (S0 p&&decide ((bF0 p:Int)≤most))∧o6 w w'):=by
 refine d9 (args:=[v,.int .i64 most]) hm func10 rfl (by kernel_rfl) (by show 2≤_;decide +kernel) ?_;obtain⟨c,w1,hbx,hx1,hatp⟩:=U0 hv (i4 _);obtain⟨sp,hsp,ldsp,_⟩:=hatp.pg_v;have l1:=ldsp w1 (i4 _);simp only[m8,n9,p9,F8,G7.val,simprocAttr,hbx,l1];refine B3 dE5 (aM4 sp p w1 hsp hw) (fun w2 hx2=>?_);rcases ev3 (S0 p)with h1|h1;rotate_left
 ·simp only[m8,n9,p9,F8,G7.val,simprocAttr,h1];refine n7 results10 ?_;simp only[p6,simprocAttr];exact⟨by trivial,hx1.trans hx2⟩
 have l2:=ldsp w2 (b7 hx2);simp only[m8,n9,p9,F8,G7.val,simprocAttr,h1,l2];refine B3 er0 (cf8 sp p w2 (hsp.mono (b7 hx2)) hw) (fun w3 hx3=>?_);simp only[m8,n9,p9,F8,G7.val,simprocAttr];refine n7 results10 ?_;simp only[p6,simprocAttr];exact⟨by trivial,(hx1.trans hx2).trans hx3⟩
theorem cj1{p:Pg}{i:Nat}(hr:E4 p)(hw:C8 p≤1000000)(hi:i<p.procs.length):((p7 p).edges (i:Int)).length≤60000000:=by
 have h1:=aX3 hr hw hi;have h2:(((p7 p).verts (i:Int)).flatMap (G5 p.procs[i].name)).length≤((p7 p).verts (i:Int)).length*1:=Q7 _ 1 _ fun v _=>aQ7 _ v;have h3:=aW4 hr hw hi;have h4:=bs0 hr hw hi;have h5:(((p7 p).flows (i:Int)).flatMap fun f=>((p7 p).takers p.procs[i].name f.dst f.var).map fun v=>(⟨(p7 p).giver p.procs[i].name f.src f.var,v,2⟩:Eg)).length≤((p7 p).flows (i:Int)).length*9:=Q7 _ 9 _ fun f hf=>by
  rw[ew3];exact aL8 hr hw (aY3 hr hw hi hf).2
 have hF:(p7 p).edge0 (i:Int)=(D6 (b9 p) i).decides.map (ac0 p.procs[i].name)++((p7 p).verts (i:Int)).flatMap (G5 p.procs[i].name)++((p7 p).flows (i:Int)).flatMap fun f=>((p7 p).takers p.procs[i].name f.dst f.var).map fun v=>(⟨(p7 p).giver p.procs[i].name f.src f.var,v,2⟩:Eg):=by
  unfold Bk.edge0;rw[V3 hi,M1 hi]
 unfold Bk.edges bl6;refine ew0 (aE3 _) ?_;rw[(F4 ct7 _).length_eq,hF];simp only[ev5,ew3]at *;omega
theorem ch3{p:Pg}(K:Known p){q:A4}(hq:q∈p.procs.map (·.name))(hR:S0 p=true):∃(i:Nat) (hi:i<p.procs.length),bx5 p q i∧p.procs[i].name=q:=by
 obtain⟨i,hi,e,hn⟩:=T2 hq;refine⟨i,hi,⟨hR,?_,hi⟩,hn⟩;unfold Sh.pr at e;rw[I6]at e;exact e
theorem bU8{p:Pg}(h0:0<p.procs.length)(n:Int):aF9 p n∈p.procs.map (·.name):=by
 have hrg:=cd2 (n:=n) (m:=(p.procs.length:Int)) (by omega);have hl:(bj0 n (p.procs.length:Int)).toNat<p.procs.length:=by omega
 unfold aF9;rw[List.getD,ev2 hl];exact ey0.2 ⟨_,ew2 hl,rfl⟩
theorem cm9{p:Pg}(K:Known p):0<p.procs.length:=by
 obtain⟨i,q,h,_⟩:=K.main;have:=(ev8.1 h).1;omega
theorem eu6:af6 prog 52=true:=by kernel_rfl
theorem co7(a:Addr)(p:Pg)(i x y:Nat)(w:World)(hs:At (d7 w) a (b9 p))(hr:E4 p)(hw:C8 p≤1000000)(hi:i<p.procs.length)(pt:al5 p i x y):Calls prog 77 #[.pointer (some a),.int .i64 i] w fun e w'=>∃u,e = .returned u∧(∃b,u = .pointer (some b)∧At (d7 w') b (D6 (b9 p) i)∧o6 w w'):=by
 refine Calls.mono (bY3 a p i x y w hs hr hw hi pt) ?_;rintro e w' ⟨u,he,gb,vr,vl,rfl,hc,_,h1,h2,hx⟩;exact⟨_,he,_,rfl,dY7 (wy:=D6 (b9 p) i) hc (hs.mono (b7 hx)) (h1.rw_ (b7 hx)) (h2.rw_ (b7 hx)),hx⟩
theorem cJ8(v:Value)(p:Pg)(n:A4)(i:Nat)(w:World)(hv:SV (d7 w) v p)(hw:C8 p≤1000000)(hb:bx5 p n i):
  Calls prog 52 #[v,o7 n] w fun e w'=>∃u,e = .returned u∧(∃b,u = .pointer (some b)∧At (d7 w') b (D6 (b9 p) i)∧o6 w w'):=by
 refine d9 (args:=[v,o7 n]) hm func52 rfl (by kernel_rfl) (by show 2≤_;decide +kernel) ?_;obtain⟨c,w1,hbx,hx1,hatp⟩:=U0 hv (i4 _);obtain⟨sp,hsp,ldsp,_⟩:=hatp.pg_v;have hR:=hb.1;have hi:=hb.2.2;have hr:=Q9 hR;obtain⟨x,pt⟩:=M9 hr.may hw i hi;have hlp:(b9 p).p.procs.length≤1000000000:=by
  rw[I6];have:=(Q8 hr.may).2;omega
 have hz:(b9 p).pr n=(i:Int):=by unfold Sh.pr;rw[I6];exact hb.2.1
 have l1:=ldsp w1 (i4 _);simp only[m8,n9,p9,F8,G7.val,simprocAttr,hbx,l1];refine B3 dE5 (aM4 sp p w1 hsp hw) (fun w2 hx2=>?_);have l2:=ldsp w2 (b7 hx2);simp only[m8,n9,p9,F8,G7.val,simprocAttr,hR,l2];refine y5 aO1 (af9 sp p w2 (hsp.mono (b7 hx2)) hw) ?_;rintro u w3 ⟨a,rfl,ha,hx3⟩;simp only[m8,n9,p9,F8,G7.val,simprocAttr];refine B3 cb9 (an5 a (b9 p) n w3 ha hlp) (fun w4 hx4=>?_);rw[hz];have h0:decide ((i:Int)<0)=false:=by simp
 simp only[m8,n9,p9,F8,G7.val,simprocAttr,h0];refine B3 cb9 (an5 a (b9 p) n w4 (ha.mono (b7 hx4)) hlp) (fun w5 hx5=>?_);rw[hz];simp only[m8,n9,p9,F8,G7.val,simprocAttr];refine y5 es3 (co7 a p i _ _ w5 (ha.mono (b7 (hx4.trans hx5))) hr hw hi pt) ?_;rintro u w6 ⟨b,rfl,hab,hx6⟩;simp only[m8,n9,p9,F8,G7.val,simprocAttr];refine n7 results52 ?_;simp only[p6,simprocAttr];exact⟨b,by trivial,hab,hx1.trans (hx2.trans (hx3.trans ((hx4.trans hx5).trans hx6)))⟩
theorem co6(v:Value)(p:Pg)(n:A4)(i:Nat)(w:World)(hv:SV (d7 w) v p)(hw:C8 p≤1000000)(hb:bx5 p n i):
  Calls prog 32 #[v,o7 n] w fun e w'=>∃u,e = .returned u∧(R (d7 w') u (D6 (b9 p) i).decides∧o6 w w'):=by
 refine d9 (args:=[v,o7 n]) hm func32 rfl (by kernel_rfl) (by show 2≤_;decide +kernel) ?_;obtain⟨c,w1,hbx,hx1,hatp⟩:=U0 hv (i4 _);obtain⟨sp,hsp,ldsp,_⟩:=hatp.pg_v;have hr:=Q9 hb.1;have hi:=hb.2.2;obtain⟨x,pt⟩:=M9 hr.may hw i hi;have l1:=ldsp w1 (i4 _);simp only[m8,n9,p9,F8,G7.val,simprocAttr,hbx,l1];refine y5 eu6 (cJ8 sp p n i w1 hsp hw hb) ?_;rintro u w2 ⟨b,rfl,hab,hx2⟩;simp only[m8,n9,p9,F8,G7.val,simprocAttr,aq6];refine y5 er6 (bD7 b (D6 (b9 p) i) p i _ _ w2 hab hr hw hi (P7 pt)) ?_;rintro u w3 ⟨ho,hx3⟩;simp only[m8,n9,p9,F8,G7.val,simprocAttr,aI1];refine n7 results32 ?_;simp only[p6,simprocAttr];exact⟨ho.rw_ (b7 hx3),hx1.trans (hx2.trans hx3)⟩
theorem bZ2(b:Bk)(i:Int):(b.edges i).Nodup:=by
 have h0:=bM5 bE7 (b.edge0 i);have e:(fun a b=>decide (egC a b≤0))=ct7:=rfl;rw[e]at h0;have h2:(b.edges i).Pairwise fun a b=>egC a b≤0∧a≠b:=bF1 (le:=fun a b=>egC a b≤0) (fun a b c=>bE7.letr) (fun a b h1 h2=>bf6 (bE7.eq0 (eC8 h1) (eC8 h2))) h0;exact h2.imp fun h=>h.2
theorem bq4{α β:Type}{f:α→β}:∀{l:List α},l.Nodup→(∀a∈l,∀b∈l,f a=f b→a=b)→(l.map f).Nodup
 | [],_,_=>by simp
 | a::l,hn,h=>by
  rw[ez9,eH5];rw[eH5]at hn;refine⟨fun hm=>?_,bq4 hn.2 fun b hb c hc=>h b (eB5 _ hb) c (eB5 _ hc)⟩;obtain⟨b,hb,e⟩:=ey0.1 hm;have:=h b (eB5 _ hb) a List.mem_cons_self e;exact hn.1 (this ▸ hb)
theorem bt6{p:Pg}{i x y:Nat}{wy:Wy}(hok:ai4 p i x y wy):wy.decides.Nodup:=by
 have hn:=hok.n;have B4:=hok.part.ok.le;have hM:wy.n=((y-x+2:Nat):Int):=by omega
 have hinj:∀a b:Nat,a<y-x+2→b<y-x+2→wy.place (a:Int)=wy.place (b:Int)→a=b:=fun a b ha hb h=>by
  rw[hok.toWyOk.place,hok.toWyOk.place,hM]at h;split at h<;>split at h<;>(try split at h)<;>(try split at h)<;>omega
 rw[aK2 hM];refine am9 List.nodup_range (fun a ha=>?_) fun a ha b hb z h1 h2=>?_
 ·refine bq4 (List.nodup_range.filter _) fun b hb c hc h=>?_;exact hinj b c (ez1.1 (ey4.1 hb).1) (ez1.1 (ey4.1 hc).1) (ex0 Prod.snd h)
 ·obtain⟨c,hc,rfl⟩:=ey0.1 h1;obtain⟨d,hd,e⟩:=ey0.1 h2;exact(hinj b a (ez1.1 hb) (ez1.1 ha) (ex0 Prod.fst e)).symm
def ab5(e:Eg):Bool:=decide (e.kind=1)&&decide (e.dst.kind=2)
theorem cK7{q:A4}{a b:Int×Int}(h:ac0 q a=ac0 q b):a=b:=by
 unfold ac0 at h;simp only[Eg.mk.injEq,Vx.mk.injEq,true_and,and_true]at h;obtain⟨h1,h2⟩:=h;refine Prod.ext ?_ h2;split at h1<;>split at h1<;>simp only[Vx.mk.injEq,true_and,and_true]at h1<;>omega
structure et8 (q:A4) (D:List (Int×Int)) (L:List Eg):Prop where
 efew:L.length≤60000000
 dfew:D.length≤41000
 there:∀d∈D,L.any (ae0 (ac0 q d).src (ac0 q d).dst 1)=true
 count:(L.filter ab5).length=D.length
theorem eq2{p:Pg}{q:A4}{i:Nat}(hb:bx5 p q i)(hw:C8 p≤1000000)(hn:(p.procs[i]'hb.2.2).name=q):et8 q (D6 (b9 p) i).decides (am2 p q):=by
 have hi:=hb.2.2;have hr:=Q9 hb.1;obtain⟨x,pt⟩:=M9 hr.may hw i hi;have e2:am2 p q=(p7 p).edges (i:Int):=by unfold am2;rw[ak2 hb]
 rw[e2];have h0:∀e,e∈(p7 p).edge0 (i:Int)↔(∃d∈(D6 (b9 p) i).decides,ac0 q d=e)∨(∃v∈(p7 p).verts (i:Int),e∈G5 q v)∨∃f∈(p7 p).flows (i:Int),∃v∈(p7 p).takers q f.dst f.var,(⟨(p7 p).giver q f.src f.var,v,2⟩:Eg)=e:=by
  intro e;unfold Bk.edge0;rw[V3 hi,M1 hi,hn];simp only[ew7,ey0,ez2,or_assoc]
 have hin:∀d∈(D6 (b9 p) i).decides,ac0 q d∈(p7 p).edges (i:Int):=fun d hd=>cm4.2 ((h0 _).2 (.inl ⟨d,hd,rfl⟩));refine⟨cj1 hr hw hi,aX3 hr hw hi,fun d hd=>eH7.2 ⟨_,hin d hd,?_⟩,?_⟩
 ·unfold ae0;simp[ac0]
 ·have hlm:((D6 (b9 p) i).decides.map (ac0 q)).length=(D6 (b9 p) i).decides.length:=ew3 _;rw[←hlm];refine(List.perm_ext_iff_of_nodup ((bZ2 _ _).filter _) (aw2 (fun a b h=>cK7 h) (bt6 (P7 pt)))).2 (fun e=>?_) |>.length_eq;rw[ey4,ey0];constructor
  ·rintro⟨he,hd⟩;unfold ab5 at hd;simp only[ex5,ez3]at hd;rcases(h0 e).1 (cm4.1 he)with h|⟨v,hv,h⟩|⟨f,hf,v,hv,h⟩
   ·exact h
   ·unfold G5 at h;split at h
    ·rw[ey1]at h;rw[h]at hd;simp only at hd;omega
    ·split at h
     ·rw[ey1]at h;rw[h]at hd;simp only at hd;omega
     ·cases h
   ·rw[←h]at hd;simp only at hd;omega
  ·rintro⟨d,hd,rfl⟩;exact⟨hin d hd,by simp[ab5,ac0]⟩
theorem eq4:af6 prog 10=true:=by kernel_rfl
theorem eq5:af6 prog 11=true:=by kernel_rfl
theorem eu5:af6 prog 32=true:=by kernel_rfl
theorem eu7:af6 prog 8=true:=by kernel_rfl
theorem eu8:af6 prog 9=true:=by kernel_rfl
theorem cK8{L:List Eg}{j:Nat}(h:j<L.length):((L.take (j+1)).filter ab5).length=((L.take j).filter ab5).length+(if ab5 L[j]then 1 else 0):=by
 rw[ew1 h,eC6,ev5];cases hd:ab5 L[j]<;>simp[hd]
theorem aS0(v:Value)(p:Pg)(n:Int)(w:World)(hv:SV (d7 w) v p):Calls prog 7 #[v,.int .i64 n] w fun e w'=>∃u,e = .returned u∧(u = .bool true∧o6 w w'):=by
 refine d9 (args:=[v,.int .i64 n]) hm func7 rfl (by kernel_rfl) (by show 2≤_;decide +kernel) ?_;obtain⟨c,w1,hbx,hx1,hatp⟩:=U0 hv (i4 _);obtain⟨sp,hsp,ldsp,sdsp⟩:=hatp.pg_v;simp only[m8,n9,p9,F8,G7.val,simprocAttr,hbx];refine B3 eu7 (bo9 w1) (fun w2 hx2=>?_);have l2:=ldsp w2 (b7 hx2);simp only[m8,n9,p9,F8,G7.val,simprocAttr,l2];refine B3 eu8 (cp4 sp p w2 (hsp.mono (b7 hx2))) (fun w3 hx3=>?_);have hx23:=hx2.trans hx3;rcases ev3 (decide (C8 p≤20000))with h1|h1;rotate_left
 ·simp only[m8,n9,p9,F8,G7.val,simprocAttr,h1];refine n7 results7 ?_;simp only[p6,simprocAttr];exact⟨by trivial,hx1.trans hx23⟩
 have hw:C8 p≤1000000:=ew0 (ev6 h1) (by decide);have l3:=ldsp w3 (b7 hx23);simp only[m8,n9,p9,F8,G7.val,simprocAttr,h1,l3];refine B3 eq4 (bM3 sp p 40 w3 (hsp.mono (b7 hx23)) hw) (fun w4 hx4=>?_);have hx24:=hx23.trans hx4;rcases ev3 (S0 p&&decide ((bF0 p:Int)≤40))with h2|h2;rotate_left
 ·simp only[m8,n9,p9,F8,G7.val,simprocAttr,h2];refine n7 results7 ?_;simp only[p6,simprocAttr];exact⟨by trivial,hx1.trans hx24⟩
 have hR:S0 p=true:=by rw[ex5]at h2;exact h2.1
 have hr:=Q9 hR;have h0:=cm9 hr.toKnown;have h16:=(Q8 hr.may).2;have l4:=ldsp w4 (b7 hx24);simp only[m8,n9,p9,F8,G7.val,simprocAttr,h2,l4];refine B3 eq5 (bp8 sp p n w4 (hsp.mono (b7 hx24)) h0 (by omega)) (fun w5 hx5=>?_);have hx25:=hx24.trans hx5;obtain⟨i,hi,hb,hnm⟩:=ch3 hr.toKnown (bU8 h0 n) hR;generalize aF9 p n=q at hb hnm;have hok:=eq2 hb hw hnm;have l5:=ldsp w5 (b7 hx25);simp only[m8,n9,p9,F8,G7.val,simprocAttr,l5];refine y5 dE2 (aP3 sp p q w5 (hsp.mono (b7 hx25)) hw) ?_;rintro ue w6 ⟨hoe,hx6⟩;have hx26:=hx25.trans hx6;have l6:=ldsp w6 (b7 hx26);simp only[m8,n9,p9,F8,G7.val,simprocAttr,aI1,l6];refine y5 eu5 (co6 sp p q i w6 (hsp.mono (b7 hx26)) hw hb) ?_;rintro ud w7 ⟨hD,hx7⟩;have hx27:=hx26.trans hx7;have hL:=hoe.rw_ (b7 hx6);generalize am2 p q=L at hL hok;generalize(D6 (b9 p) i).decides=D at hD hok;have hef:=hok.efew;have hdf:=hok.dfew;have hSl:=hL.isS;have hnl:=hL.vlen;have hSd:=hD.isS;have hnd:=hD.vlen;have hse:Value.string {data:=#[]}=o7 Go.Proofs.YtdgicngfmfldmaaGreat.e0:=rfl;clear hoe hsp sdsp ldsp;simp only[m8,n9,p9,F8,G7.val,simprocAttr,aI1,hSd,hnd];refine n8 [5,7,29,30] (σ:=Nat) (fun k f w'=>f 31 = .int .i64 k∧f 6 = .int .i64 k∧k≤D.length∧o6 w7 w') (fun k=>D.length-k) 0 (by decide +kernel) ?_ ?_
 ·simp only[p6,simprocAttr];exact⟨by trivial,by trivial,ew4 _,o9.refl _⟩
 rintro k f w8 hk ⟨h31,h6,hkl,hx8⟩;simp only[ev4,p6,simprocAttr]at hk;obtain⟨e5,e7,e29,e30,_⟩:=hk;simp only[m8,n9,p9,F8,G7.val,simprocAttr,h31,e29,e30];refine i5 (fun hc=>?_) (fun hc=>?_)
 ·have hlt:k<D.length:=by simpa using hc
  have hin:=hD.inS hlt;have hld:=cy6 hD (b7 hx8) (ev2 hlt);have hth:=hok.there _ (ew2 hlt);generalize D[k]=d at hld hth;obtain⟨c8,wz9,w9,hal9,hst9,hx9,hc8,hc8n⟩:=cJ1 (w:=w8) d.1 d.2;obtain⟨wz10,hal10,hst10⟩:=dF8 w9 ⟨q,2,d.1,Go.Proofs.YtdgicngfmfldmaaGreat.e0⟩;have hx10:=o6.alloc w9 (.cells (z6.cells (⟨q,2,d.1,Go.Proofs.YtdgicngfmfldmaaGreat.e0⟩:Vx)).toArray 36);have hc9:=ez5 w9 (.cells (z6.cells (⟨q,2,d.1,Go.Proofs.YtdgicngfmfldmaaGreat.e0⟩:Vx)).toArray 36);generalize w9.alloc (.cells (z6.cells (⟨q,2,d.1,Go.Proofs.YtdgicngfmfldmaaGreat.e0⟩:Vx)).toArray 36)=w10 at hst10 hx10 hc9;obtain⟨l9,_⟩:=aj4 hc8 (o9.refl _:o6 w9 w9) id;obtain⟨l10,_⟩:=aj4 hc8 hx10 id;have hb1:=ch8 q 2 d.1;have hb3:=ci0 q 1;simp only[cJ6,n9,p9,F8,G7.val,simprocAttr,h31,e5,e29,e30,hin,hld,hal9,hst9,l9,hb1,hal10,hst10,l10];refine bI8 [5,6,7,9,10,29,30,31] (fun f' w'=>o6 w9 w'∧w'.heap[w9.heap.size]?=some (.cells (z6.cells (ac0 q d).src).toArray 36 (0,0))) (by decide +kernel) ?_ ?_
  ·rcases ev3 (decide (d.1=0))with h0|h0
   ·obtain⟨w11,q1,q2,q3⟩:=em6 (c:=w9.heap.size) hc9 ⟨q,1,0,Go.Proofs.YtdgicngfmfldmaaGreat.e0⟩;simp only[m8,n9,p9,F8,G7.val,simprocAttr,h0,e5,hb3,q1];refine⟨o9.ext_of hx10 q3 fun b hb=>by rw[hb];exact ew8 _,?_⟩;unfold ac0;rw[if_pos (ev6 h0)];exact q2
   ·simp only[m8,n9,p9,F8,G7.val,simprocAttr,h0];refine⟨hx10,?_⟩;unfold ac0;rw[if_neg (ev7 h0)];exact hc9
  rintro f8 w11 hk ⟨hx11,hc11⟩;simp only[ev4,p6,simprocAttr]at hk;obtain⟨g5,g6,g7,g9,g10,g29,g30,g31,_⟩:=hk;have hx7d:=(hx8.trans hx9).trans hx11;have hb2:=ch8 q 2 d.2;have t1:=ej9 hc11;have t2:=(aj4 hc8 hx11 id).2;simp only[m8,n9,p9,F8,G7.val,simprocAttr,g7,e7,g10,g9,g5,e5,t1,t2,hb2];refine B3 eq8 (bL0 ue L (ac0 q d).src ⟨q,2,d.2,Go.Proofs.YtdgicngfmfldmaaGreat.e0⟩ 1 w11 (z7.mono (b7 (hx7.trans hx7d)) hL) (by omega)) (fun w12 hx12=>?_);have hth':L.any (ae0 (ac0 q d).src ⟨q,2,d.2,Go.Proofs.YtdgicngfmfldmaaGreat.e0⟩ 1)=true:=hth;rw[hth'];simp only[m8,n9,p9,F8,G7.val,simprocAttr,aI1,g6,h6,g31,h31];exact⟨k+1,by omega,by rw[B1 k (by omega)],by rw[B1 k (by omega)],by omega,hx7d.trans hx12⟩
 have hkD:k=D.length:=by simp at hc;omega
 simp only[m8,n9,p9,F8,G7.val,simprocAttr,e7,hSl,hnl];refine n8 [55,56] (σ:=Nat) (fun j f w'=>f 57 = .int .i64 j∧f 6 = .int .i64 ((D.length:Int)-(((L.take j).filter ab5).length:Int))∧j≤L.length∧o6 w7 w') (fun k=>L.length-k) 0 (by decide +kernel) ?_ ?_
 ·simp only[p6,simprocAttr];exact⟨by trivial,by rw[h6,hkD];simp,ew4 _,hx8⟩
 rintro j f2 w9 hk ⟨h57,g6,hjl,hx9⟩;simp only[ev4,p6,simprocAttr]at hk;obtain⟨g55,g56,_⟩:=hk;simp only[m8,n9,p9,F8,G7.val,simprocAttr,h57,g55,g56];refine i5 (fun hc=>?_) (fun hc=>?_);rotate_left
 ·have hjL:j=L.length:=by simp at hc;omega
  rw[hjL,ew5,hok.count]at g6;have hz0:(D.length:Int)-(D.length:Int)=0:=by omega
  rw[hz0]at g6;simp only[m8,n9,p9,F8,G7.val,simprocAttr,g6,decide_true];refine n7 results7 ?_;simp only[p6,simprocAttr];exact⟨by trivial,hx1.trans (hx27.trans hx9)⟩
 have hlt:j<L.length:=by simpa using hc
 have hin:=hL.inS hlt;obtain⟨sv,hsv,hld⟩:=G1 (P:=prog) (t:=38) hL (b7 (hx7.trans hx9)) (ev2 hlt) bN6 bO2 bw2 aR5;rw[aR5]at hld;have htk:=cK8 hlt;have hfl:((L.take j).filter ab5).length≤60000000:=ew0 (ey2 _ _) (by rw[ew6];omega);generalize hle':L[j]=e at hsv htk;obtain⟨d,wz,w10,hal,hst,hx10,hat⟩:=cf0 (hsv.mono (b7 (hx7.trans hx9))) (i4 _);obtain⟨hs1,ht1,sk,_⟩:=hat.eg;have hdk:=ht1.vx.1 w10 (i4 _);have t4:=hdk.2.1;have t3:=sk w10 (i4 _);have hx910:=hx9.trans hx10;have hwi:IntKind.i64.wrap ((D.length:Int)-(((L.take j).filter ab5).length:Int)-1)=(D.length:Int)-((((L.take j).filter ab5).length+1:Nat):Int):=by rw[K1 _ (by omega)];omega
 rcases ev3 (decide (e.kind=1))with k1|k1
 ·rcases ev3 (decide (e.dst.kind=2))with k2|k2
  ·have hd:ab5 e=true:=by unfold ab5;rw[k1,k2];rfl
   rw[hd,if_pos rfl]at htk;simp only[m8,n9,p9,F8,G7.val,simprocAttr,h57,g55,g56,hin,hld,hal,hst,t3,t4,k1,k2,g6];exact⟨j+1,by omega,by rw[B1 j (by omega)],by rw[htk,hwi],by omega,hx910⟩
  ·have hd:ab5 e=false:=by unfold ab5;rw[k1,k2];rfl
   have htk:((L.take (j+1)).filter ab5).length=((L.take j).filter ab5).length:=by rw[htk,hd];rfl
   simp only[m8,n9,p9,F8,G7.val,simprocAttr,h57,g55,g56,hin,hld,hal,hst,t3,t4,k1,k2,g6];exact⟨j+1,by omega,by rw[B1 j (by omega)],by rw[htk],by omega,hx910⟩
 ·have hd:ab5 e=false:=by unfold ab5;rw[k1];rfl
  have htk:((L.take (j+1)).filter ab5).length=((L.take j).filter ab5).length:=by rw[htk,hd];rfl
  simp only[m8,n9,p9,F8,G7.val,simprocAttr,h57,g55,g56,hin,hld,hal,hst,t3,k1,g6];exact⟨j+1,by omega,by rw[B1 j (by omega)],by rw[htk],by omega,hx910⟩
end Go.Proofs.YtdgicngfmfldmaaGreat

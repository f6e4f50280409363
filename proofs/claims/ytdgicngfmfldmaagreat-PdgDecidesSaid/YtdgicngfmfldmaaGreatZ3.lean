/- pdgEnds.proved: for every input the law returns true. No condition. Part 3 of 7. -/
import Derived.Ground.Names2Prog
import Derived.Ground.SlsfProg
import Derived.MapKept
import Derived.Maps.RangeRun
import Derived.Shelf.SlGeneric
import Derived.Shelf.SlSortCmp.NoneTotal
import Derived.Shelf.SlSortCmp.WholeK
import Derived.Shelf.Slices.Clone
import Derived.Shelf.Slices.Empties
import Derived.Shelf.Slices.SearchI
import Derived.Shelf.Spec.SlicesInsert
import Derived.Shelf.Spec.SlicesInsertGrow
import Derived.Test.YtdgicngfmfldmaaGreatProg
import Derived.Test.YtdgicngfmfldmaaGreatZ2
set_option maxRecDepth 1000000
set_option maxHeartbeats 8000000
set_option linter.unusedVariables false
set_option linter.unusedSimpArgs false
set_option linter.unnecessarySimpa false
namespace Go.Proofs.YtdgicngfmfldmaaGreat
open Go Tryz
theorem ey2:type_of% @List.length_filter_le:=@List.length_filter_le
theorem cw2:af6 prog 128=true:=by kernel_rfl
theorem ei9:af6 prog 255=true:=by kernel_rfl
theorem ej0:af6 prog 256=true:=by kernel_rfl
theorem ej1:af6 prog 257=true:=by kernel_rfl
theorem cb9:af6 prog 50=true:=by kernel_rfl
theorem bH9:af6 prog 71=true:=by kernel_rfl
theorem A9.flatR{α:Type}[G7 α]{h k:Hp}{w:World}{T:TypeId}{v:Value}{xs:List α}(ho:A9 h w T v xs)(hb:∀b,A3 v b→k b=w.heap[b]?):R k v xs:=
 (ho.down (h:=fun _=>none) (fun b o e=>nomatch e)).ro (fun b o e=>nomatch e) hb
theorem ak8{h:Hp}{w:World}{v:Value}{l:List A4}(ho:A9 h w 9 v l)(hl:l.length≤1000000000):
  Calls prog 71 #[v] w fun e w'=>∃u,e = .returned u∧(A9 h w' 9 v (R4 l)∧o9 (A3 v) w w'):=(cn8 ho hl).mono fun e w' ⟨h1,h2⟩=>⟨_,h1,h2⟩
theorem bN2(sv:Value)(q:Pr)(n:A4)(a:Addr)(w:World)(hv:SV (d7 w) sv q)(hl:∀w',o6 w w'→(Instr.loadAt 9 (.pointer (some a))).run prog w' = .ok (o7 n) w'):
  Calls prog 256 #[sv,.pointer (some a)] w fun e w'=>∃u,e = .returned u∧(u = .bool (decide (q.name=n))∧o6 w w'):=by
 refine d9 (args:=[sv,.pointer (some a)]) hm func256 rfl (by kernel_rfl) (by show 2≤_;decide +kernel) ?_;obtain⟨b,w1,hb,hx,ha⟩:=bc8 hv (i4 _);obtain⟨_,_,_,_,_,_,_,_,ld,_⟩:=ha.pr;have l1:=ld w1 (i4 _);have l2:=hl w1 hx;simp only[n3,n9,simprocAttr,hb,l1,l2];refine n7 results256 ?_;simp only[p6,simprocAttr];exact⟨by trivial,hx⟩
theorem bW7(v:Value)(p:Pg)(n:A4)(w:World)(hv:SV (d7 w) v p)(hw:C8 p≤1000000):Calls prog 219 #[v,o7 n] w fun e w'=>∃u,e = .returned u∧(u = .bool (aC2 p n)∧o6 w w'):=by
 refine d9 (args:=[v,o7 n]) hm func219 rfl (by kernel_rfl) (by show 2≤_;decide +kernel) ?_;obtain⟨a,w1,hbx,hx1,ha⟩:=ab7 (w:=w) (fun _=>False) hv (fun _ h=>h.elim);obtain⟨vg,vp,hg,hp,ld,_⟩:=L8.pg hv ha;obtain⟨lw,_⟩:=L8.pg_v hv ha;obtain⟨b,w2,hb2,hx2,hldn⟩:=cW4 n w1;have hlw:∀w',o6 w1 w'→B4 (B5 w1 fun _=>False) (d7 w'):=fun w' h=>p8 (C0 _ _) (b7 h);have lw2:=lw w2 (hlw _ hx2);have hpl:p.procs.length≤1000000:=by
  have:=ab4 p.procs;unfold C8 at hw;omega
 simp only[n3,n9,simprocAttr,hbx,hb2,lw2];refine B3 bT0 (ac6 v p w2 (hv.mono (b7 (hx1.trans hx2))) hw) (fun w3 hx3=>?_);have hx13:=hx2.trans hx3;have l3:=ld w3 (hlw _ hx13);rcases ev3 (decide ((L4 p).1=0))with hsc|hsc
 ·simp only[n3,n9,simprocAttr,ai9,hsc,l3];refine B3 ei9 (aM5 (fun f=>decide (f.name=n)) 256 #[.pointer (some b)] vp p.procs w3 ej0 (z7.mono (b7 (hx1.trans hx13)) hp) (by omega)
   (fun sv x w' hx' _ hsv=>bN2 sv x n b w' hsv fun w'' hx''=>hldn w'' (hx3.trans (hx'.trans hx'')))) (fun w4 hx4=>?_)
  simp only[n3,simprocAttr];refine n7 results219 ?_;simp only[p6,simprocAttr];exact⟨by rw[aC2,hsc,eE6],hx1.trans (hx13.trans hx4)⟩
 ·simp only[n3,n9,simprocAttr,ai9,hsc];refine n7 results219 ?_;simp only[p6,simprocAttr];exact⟨by rw[aC2,hsc];rfl,hx1.trans hx13⟩
theorem ci2(a:Addr)(p:Pg)(n:A4)(w:World)(hs:At (d7 w) a (b9 p))(hw:C8 p≤1000000)(hn:n∈p.procs.map (·.name)):
  Calls prog 257 #[.pointer (some a),o7 n] w fun e w'=>∃u,e = .returned u∧(A9 (d7 w) w' 9 u (ab8 (b9 p) n)∧o6 w w'):=by
 refine d9 (args:=[.pointer (some a),o7 n]) hm func257 rfl (by kernel_rfl) (by show 2≤_;decide +kernel) ?_;obtain⟨i,hi,hpr,_⟩:=T2 hn;obtain⟨x,hok,_⟩:=V0 p hw i hi;obtain⟨hmem,hlen⟩:=aZ3 p hw i hi;have hpl:(b9 p).p.procs.length≤1000000:=by
  rw[I6];have:=ab4 p.procs;unfold C8 at hw;omega
 simp only[n3,n9,simprocAttr];refine B3 cb9 (an5 a (b9 p) n w hs (by omega)) (fun w1 hx1=>?_);rw[hpr];simp only[n3,simprocAttr];refine y5 aY8 (aQ5 a (b9 p) i x _ w1 (hs.mono (b7 hx1)) hok) ?_;rintro ul w2 ⟨hul,hx2⟩;have hx02:=hx1.trans hx2;have hF:ab8 (b9 p) n=H9 (R4 ((((b9 p).of i).filter fun it=>decide (it.s.kind=4)).map (·.s.proc))):=by rw[ab8,hpr];rfl
 generalize(b9 p).of i=l at hul hlen hF;have hSl:=hul.isS;have hnl:=hul.vlen;simp only[n3,n9,simprocAttr,hSl,hnl];refine n8 [12,13] (σ:=Nat×Value) (fun s f w'=>f 14 = .int .i64 s.1∧f 5=s.2∧s.1≤l.length∧A9 (d7 w2) w' 9 s.2 (((l.take s.1).filter fun it=>decide (it.s.kind=4)).map (·.s.proc))∧o6 w2 w') (fun s=>l.length-s.1) (0,.slice none 0 0) (by decide +kernel) ?_ ?_
 ·simp only[p6,simprocAttr];exact⟨by trivial,by trivial,ew4 _,by simpa using A9.nil _ _ _,o9.refl _⟩
 rintro⟨k,u⟩ f w3 hk ⟨h14,h5,hkl,ho,hx3⟩;simp only at h14 h5 hkl ho;simp only[ev4,p6,simprocAttr]at hk;obtain⟨e12,e13,_⟩:=hk;have hcnt:((l.take k).filter fun it=>decide (it.s.kind=4)).length≤k:=ew0 (ey2 _ _) (by rw[ew6];omega);simp only[n3,n9,simprocAttr,h14,e13];refine i5 (fun hc=>?_) (fun hc=>?_);rotate_left
 ·have hge:k=l.length:=by simp at hc;omega
  subst hge;rw[ew5]at ho hcnt;simp only[n3,simprocAttr,h5];refine y5 bH9 (ak8 ho (by rw[ew3];omega)) ?_;rintro _ w4 ⟨ho4,hm4⟩;have hx24:=ho.ext2 hx3 hm4;simp only[n3,simprocAttr,h5];refine y5 cw2 (aT1 ho4 (by rw[R0,ew3];omega)) ?_;rintro u5 w5 ⟨ho5,hm5,_⟩;have hx25:=ho4.ext2 hx24 hm5;simp only[n3,simprocAttr];refine n7 results257 ?_;simp only[p6,simprocAttr];exact⟨by rw[hF];exact ho5.back hx02,hx02.trans hx25⟩
 have hlt:k<l.length:=by simpa using hc
 have hin:=hul.inS hlt;obtain⟨sv,hsv,hld⟩:=G1 (P:=prog) (t:=127) hul (b7 hx3) (ev2 hlt) X9 Y1 Y0 I9;rw[I9]at hld;have htk:((l.take (k+1)).filter fun it=>decide (it.s.kind=4)).map (·.s.proc)=((l.take k).filter fun it=>decide (it.s.kind=4)).map (·.s.proc)++if l[k].s.kind=4 then[l[k].s.proc]else[]:=by
  rw[ew1 hlt,eC6,ey5]
  congr 1
  by_cases h:l[k].s.kind=4<;>simp[h]
 generalize l[k]=it at hsv htk;obtain⟨c,wz2,w4,hal,hst,hx4,hati⟩:=ax8 (hsv.mono (b7 hx3)) (i4 _);obtain⟨hats,_,_⟩:=hati.it;obtain⟨_,_,_,_,_,_,_,_,_,ldt,_⟩:=hats.st;have l4:=ldt w4 (i4 _);have ho4:=ho.ext hx4;have hx24:=hx3.trans hx4;rcases ev3 (decide (it.s.kind=4))with hq|hq
 ·obtain⟨p1,u',w5,p2,p3,p4,p5⟩:=push (e:=22) aq8 rfl ho4 (x:=o7 it.s.proc) (y:=it.s.proc) rfl (by rw[ew3];omega) (by rw[ew3];omega) (b7 hx24);simp only[n3,n9,p9,simprocAttr,h14,h5,e12,hin,hld,hal,hst,l4,hq,p1,p2];refine⟨(k+1,u'),by simp only[];omega,by simp only[];rw[B1 k (by omega)],by trivial,by simp only[];omega,?_,ho4.ext2 hx24 p4⟩;simp only[];rw[htk,if_pos (ev6 hq)];exact p3
 ·simp only[n3,n9,p9,simprocAttr,h14,h5,e12,hin,hld,hal,hst,l4,hq];refine⟨(k+1,u),by simp only[];omega,by simp only[];rw[B1 k (by omega)],by trivial,by simp only[];omega,?_,hx24⟩;simp only[];rw[htk,if_neg (ev7 hq),ey6];exact ho4
theorem bQ6(g:A4→List A4)(m i:Nat)(out:List A4)(h:out.length≤i):R5 g m i out=out:=by
 cases m with
 | zero=>rfl
 | succ m=>rw[R5,eC7 h]
theorem ci3(g:A4→List A4)(m i:Nat)(out:List A4)(h:i<out.length):R5 g (m+1) i out=R5 g m (i+1) (Z2 out (g out[i])):=by
 rw[R5,ev2 h]
theorem bQ2{p:Pg}(hw:C8 p≤1000000){n:A4}(hn:n∈p.procs.map (·.name)):(ab8 (b9 p) n).length≤400000:=by
 obtain⟨i,hi,hpr,_⟩:=T2 hn;obtain⟨_,hlen⟩:=aZ3 p hw i hi;unfold ab8;rw[hpr];refine ew0 (aq1 _) ?_;rw[ew3];exact ew0 (ey2 _ _) hlen
theorem cL0(a:Addr)(p:Pg)(n:A4)(w:World)(hs:At (d7 w) a (b9 p))(hw:C8 p≤1000000)(K:Known p)(hn:n∈p.procs.map (·.name)):
  Calls prog 220 #[.pointer (some a),o7 n] w fun e w'=>∃u,e = .returned u∧(A9 (d7 w) w' 9 u (ar5 (b9 p) n)∧o6 w w'):=by
 refine d9 (args:=[.pointer (some a),o7 n]) hm func220 rfl (by kernel_rfl) (by show 2≤_;decide +kernel) ?_;have hpl:p.procs.length≤1000000:=by
  have:=ab4 p.procs;unfold C8 at hw;omega
 have hF:ar5 (b9 p) n=R4 (R5 (ab8 (b9 p)) (p.procs.length+1) 0 [n]):=by rw[ar5,I6]
 have hg:=fun m (hm:m∈p.procs.map (·.name))=>ci2 (p:=p) (n:=m) (a:=a) (hw:=hw) (hn:=hm);have hgk:=fun m x (hm:m∈p.procs.map (·.name)) hx=>aA5 K (m:=m) (x:=x) hm hx;have hgl:=fun m (hm:m∈p.procs.map (·.name))=>bQ2 hw hm;have hnl:(p.procs.map (·.name)).length=p.procs.length:=ew3 _;generalize ab8 (b9 p)=g at hF hg hgk hgl;generalize p.procs.map (·.name)=names at hn hg hgk hgl hnl;obtain⟨u1,w1,hlit,ho1,hx1,_⟩:=lit (P:=prog) (w:=w) (h:=d7 w) (α:=A4) (xs:=[o7 n]) (ys:=[n]) (parts:=#[(0,o7 n)]) (n:=1) aq8 rfl (aB0.2 rfl) (by simp[o7,Value.cells]) rfl rfl (by simp) (by simp) (i4 _);simp only[n3,n9,simprocAttr,hlit];refine n8 [0] (σ:=Nat×Value×List A4) (fun s f w'=>f 6 = .int .i64 s.1∧f 5=s.2.1∧s.1≤s.2.2.length∧A9 (d7 w) w' 9 s.2.1 s.2.2∧s.2.2.Nodup∧(∀x∈s.2.2,x∈names)∧R5 g (p.procs.length+1) 0 [n]=R5 g (p.procs.length+1-s.1) s.1 s.2.2∧o6 w w') (fun s=>p.procs.length+1-s.1) (0,u1,[n]) (by decide +kernel) ?_ ?_
 ·simp only[p6,simprocAttr];exact⟨by trivial,by trivial,ew4 _,ho1,by simp,by simpa using hn,by simp,hx1⟩
 rintro⟨i,u,out⟩ f w2 hk ⟨h6,h5,hil,ho,hnd,hsub,hcl,hx2⟩;simp only at h6 h5 hil ho hnd hsub hcl;simp only[ev4,p6,simprocAttr]at hk;obtain⟨e0,_⟩:=hk;have hol:out.length≤p.procs.length:=by rw[←hnl];exact L3 hnd hsub
 have hSo:=ho.isS;have hno:=ho.vlen;simp only[n3,n9,simprocAttr,h6,h5,hSo,hno];refine i5 (fun hc=>?_) (fun hc=>?_);rotate_left
 ·have hge:i=out.length:=by simp at hc;omega
  subst hge;rw[bQ6 g _ _ _ (ew8 _)]at hcl;simp only[n3,simprocAttr,h5];refine y5 bH9 (ak8 ho (by omega)) ?_;rintro _ w4 ⟨ho4,hm4⟩;simp only[n3,simprocAttr,h5];refine n7 results220 ?_;simp only[p6,simprocAttr];exact⟨by rw[hF,hcl];exact ho4,ho.ext2 hx2 hm4⟩
 have hlt:i<out.length:=by simpa using hc
 have hin:=ho.inS hlt;have hld:=ldS (ho.rw_ (b7 hx2)) (i4 _) hlt;have hmi:=hsub _ (ew2 hlt);rw[show p.procs.length+1-i=(p.procs.length-i)+1 by omega,ci3 g _ _ _ hlt]at hcl;generalize out[i]=m at hld hmi hcl;simp only[n3,n9,p9,simprocAttr,h6,h5,e0,hin,hld];refine y5 ej1 (hg m hmi w2 (hs.mono (b7 hx2))) ?_;rintro uc w3 ⟨hoc,hx3⟩;have huc:R (B5 w3 (A3 u)) uc (g m):=hoc.flatR fun b hb=>D3 fun hbu=>by
  have h1:=ho.lt hbu;have h2:=C9 (hoc.free hb);omega
 have hx03:=hx2.trans hx3;have ho3:=ho.ext hx3;have hcll:=hgl m hmi;have hck:=fun x=>hgk m x hmi;generalize g m=cl at hoc huc hcll hcl hck;have hSc:=huc.isS;have hnc:=huc.vlen;simp only[n3,n9,simprocAttr,hSc,hnc];refine n8 [0,6,22,23] (σ:=Nat×Value×List A4) (fun s f w'=>f 24 = .int .i64 s.1∧f 5=s.2.1∧s.1≤cl.length∧A9 (d7 w) w' 9 s.2.1 s.2.2∧s.2.2.Nodup∧(∀x∈s.2.2,x∈names)∧Z2 out cl=Z2 s.2.2 (cl.drop s.1)∧out.length≤s.2.2.length∧o9 (A3 u) w3 w'∧F1 w3 u s.2.1) (fun s=>cl.length-s.1) (0,u,out) (by decide +kernel) ?_ ?_
 ·simp only[p6,simprocAttr];exact⟨by trivial,h5,ew4 _,ho.ext hx3,hnd,hsub,by rw[eE3],ew8 _,o9.refl _,fun b hb=>.inl hb⟩
 rintro⟨k,u4,o⟩ f4 w4 hk ⟨h24,h5',hkl,ho4,hnd4,hsub4,hadd,hlo,hm4,hmv4⟩;simp only at h24 h5' hkl ho4 hnd4 hsub4 hadd hlo hmv4;simp only[ev4,p6,simprocAttr]at hk;obtain⟨g0,g6,g22,g23,_⟩:=hk;have hx04:=ho3.ext2 hx03 hm4;have hol4:o.length≤p.procs.length:=by rw[←hnl];exact L3 hnd4 hsub4
 simp only[n3,n9,simprocAttr,h24,g23];refine i5 (fun hc=>?_) (fun hc=>?_);rotate_left
 ·have hge:k=cl.length:=by simp at hc;omega
  subst hge;rw[eF2,Z2]at hadd;rw[hadd]at hcl;simp only[n3,n9,simprocAttr,g6,h6];refine⟨(i+1,u4,o),by simp only[];omega,by simp only[];rw[B1 i (by omega)],h5',by simp only[];omega,ho4,hnd4,hsub4,?_,hx04⟩;simp only[];rw[hcl]
  congr 1
  omega
 have hlt4:k<cl.length:=by simpa using hc
 have hin4:=huc.inS hlt4;have hld4:=ldS huc (D2 hm4) hlt4;rw[ez4 hlt4,Z2]at hadd;have hck4:=hck _ (ew2 hlt4);generalize cl[k]=y at hld4 hadd hck4;simp only[n3,n9,p9,simprocAttr,h24,h5',g22,hin4,hld4];refine D1 ac2 (N8 u4 o y w4 (ho4.rw_ (b7 hx04)) (by omega)) ?_;rcases ev3 (o.contains y)with hq|hq
 ·rw[if_pos hq]at hadd;simp only[n3,n9,simprocAttr,hq,h24];refine⟨(k+1,u4,o),by simp only[];omega,by simp only[];rw[B1 k (by omega)],h5',by simp only[];omega,ho4,hnd4,hsub4,hadd,hlo,hm4,hmv4⟩
 ·obtain⟨p1,u5,w5,p2,p3,p4,p5⟩:=push (e:=22) aq8 rfl ho4 (x:=o7 y) (y:=y) rfl (by omega) (by omega) (b7 hx04);rw[if_neg (by rw[hq];simp)]at hadd;simp only[n3,n9,simprocAttr,hq,h24,h5',p1,p2];refine⟨(k+1,u5,o++[y]),by simp only[];omega,by simp only[];rw[B1 k (by omega)],by trivial,by simp only[];omega,p3,?_,?_,hadd,by simp only[ev5];omega,hm4.chain p4 fun b hb hbu=>?_,fun b hb=>?_⟩
  ·rw[eA4];refine⟨hnd4,by simp,fun a ha b hb=>?_⟩;simp only[ey1]at hb;subst hb;rintro rfl;rw[ex4.2 ha]at hq;cases hq
  ·intro x hx;simp only at hx;rcases ew7.1 hx with h|h
   ·exact hsub4 x h
   ·simp only[ey1]at h;subst h;exact hck4
  ·rcases hmv4 b hbu with h|h
   ·exact h
   ·omega
  ·rcases p5 b hb with h|h
   ·exact hmv4 b h
   ·exact .inr (ew0 hm4.size h)
theorem eh8:af6 prog 219=true:=by kernel_rfl
theorem eh9:af6 prog 220=true:=by kernel_rfl
theorem Q7{α β:Type}(f:α→List β)(B:Nat):∀(l:List α),(∀x∈l,(f x).length≤B)→(l.flatMap f).length≤l.length*B
 | [],_=>by simp
 | x::l,h=>by
  have h1:=Q7 f B l fun y hy=>h y (by simp[hy]);have h2:=h x (by simp);rw[eF4,ev5,ex7,Nat.succ_mul];omega
theorem cb6{α β:Type}(f:α→List β)(l:List α)(k:Nat):((l.take k).flatMap f).length≤(l.flatMap f).length:=by
 conv=>rhs;rw[←eA3 k l,eI3,ev5]
 omega
def aV6(g:St→Nat)(l:List It):Nat:=(l.map fun it=>g it.s).sum
theorem bN1(g:St→Nat)(l m:List It):aV6 g (l++m)=aV6 g l+aV6 g m:=by simp[aV6]
theorem bv7(g:St→Nat)(x:It)(m:List It):aV6 g (x::m)=g x.s+aV6 g m:=by simp[aV6]
mutual
theorem cQ5(g:St→Nat)(hg:∀t:St,g t+G6 t.thn+G6 t.els≤O5 t):∀(t:St) (k:Nat) (pr up nx lp:Int),aV6 g (U7 t k pr up nx lp)≤O5 t
 | .mk id kind labels name proc x has args thn els,k,pr,up,nx,lp=>by
  rw[P2,bv7,bN1];have h2:=fun k' nx' lp'=>aR1 g hg els k' pr (k+1) nx' lp';have h4:=fun k' nx' lp'=>aR1 g hg thn k' pr (k+1) nx' lp';have h5:=hg (.mk id kind labels name proc x has args thn els);simp only[St.thn,St.els]at h5 ⊢;refine ew0 (Nat.add_le_add_left (Nat.add_le_add (h4 _ _ _) (h2 _ _ _)) _) ?_;omega
theorem aR1(g:St→Nat)(hg:∀t:St,g t+G6 t.thn+G6 t.els≤O5 t):∀(l:List St) (k:Nat) (pr up nx lp:Int),aV6 g (C4 l k pr up nx lp)≤G6 l
 | [],_,_,_,_,_=>by simp[C4,aV6]
 | t::l,k,pr,up,nx,lp=>by
  rw[C4,bN1,G6];exact Nat.add_le_add (cQ5 g hg t _ _ _ _ _) (aR1 g hg l _ _ _ _ _)
end
theorem cP0(g:St→Nat)(hg:∀t:St,g t+G6 t.thn+G6 t.els≤O5 t)(p:Pg)(hw:C8 p≤1000000)(i:Nat)(hi:i<p.procs.length):aV6 g ((b9 p).of i)≤1000000:=by
 obtain⟨x,_,e⟩:=V0 p hw i hi;have h1:=aR1 g hg p.procs[i].body x i 0 (-1) 0;have h2:=an6 p hw _ (ew2 hi);unfold T8 at h2;rw[e];omega
theorem bN0(t:St):(I3 t).length+G6 t.thn+G6 t.els≤O5 t:=by
 rw[P8];have h1:=aa1 t.x;have h2:=L7 t.args;have h3:1≤wtT t.name:=by simp[wtT]
 have h4:(if t.kind≠10∧t.name≠e0 then[t.name]else[]).length≤1:=by split<;>simp
 unfold I3;rw[ev5,ev5];omega
theorem aY2(f:It→List A4)(g:St→Nat)(h:∀it,(f it).length≤g it.s):∀l:List It,(l.flatMap f).length≤aV6 g l
 | []=>by simp[aV6]
 | x::l=>by
  have:=aY2 f g h l;have:=h x;rw[eF4,ev5,bv7];omega
theorem aJ9{g:A4→List A4}{names:List A4}(hg:∀m∈names,∀x∈g m,x∈names):∀(m i:Nat) (out:List A4),out.Nodup→(∀x∈out,x∈names)→(R5 g m i out).Nodup∧∀x∈R5 g m i out,x∈names
 | 0,i,out,h1,h2=>⟨h1,h2⟩
 | m+1,i,out,h1,h2=>by
  rw[R5];split
  ·exact⟨h1,h2⟩
  ·next n hn=>
   refine aJ9 hg m (i+1) _ (au5 _ _ h1) fun x hx=>?_;rcases(al6 _ _ _).1 hx with h|h
   ·exact h2 x h
   ·exact hg n (h2 n (ex2 hn)) x h
theorem cq3{p:Pg}(K:Known p){n:A4}(hn:n∈p.procs.map (·.name)):(ar5 (b9 p) n).length≤p.procs.length∧∀x∈ar5 (b9 p) n,x∈p.procs.map (·.name):=by
 obtain⟨h1,h2⟩:=aJ9 (g:=ab8 (b9 p)) (names:=p.procs.map (·.name)) (fun m hm x hx=>aA5 K hm hx) ((b9 p).p.procs.length+1) 0 [n] (by simp) (by simpa using hn);have h3:=L3 h1 h2;rw[ew3]at h3;unfold ar5;exact⟨by rw[R0];exact h3,fun x hx=>h2 x ((S1 _).mem_iff.1 hx)⟩
theorem bB8{p:Pg}(K:Known p):p.procs.length≤16∧p.globals.length≤16:=by
 have:=K.may;simp only[N1,ex5,ez3]at this;exact⟨this.1.1.2,this.1.1.1⟩
theorem aD3(h:Hp)(a:Addr)(s:Sh)(i x y:Nat)(w:World)(hs:At h a s)(hh:B4 h (d7 w))(hok:bn9 s i x y):Calls prog 62 #[.pointer (some a),.int .i64 i] w fun e w'=>∃u,e = .returned u∧(R h u (s.of i)∧o6 w w'):=by
 refine d9 (args:=[.pointer (some a),.int .i64 i]) hm func62 rfl (by kernel_rfl) (by show 2≤_;decide +kernel) ?_;obtain⟨vL,vlo,vhi,hL,hlo,hhi,hap,ld,sd⟩:=hs.sh;have hst:∀w',o6 w.drew w'→B4 h (d7 w'):=fun w' h=>p8 hh (b7 ((o6.drew w).trans h));have s1:=sd (fun w'=>o6 w.drew w') w.drew (o9.refl _) hst;have hi1:=hlo.inS (ev8.1 hok.lo).1;have hi2:=hhi.inS (ev8.1 hok.hi).1;have k1:∀K f d w0,B8 prog (fun w'=>o6 w.drew w') (Instr.loadAt 3 (.pointer (some (H4 vlo i)))) K f d w0=K (A5 f d (.int .i64 ((x:Int)+1))) w0:=fun K f d w0=>A0 (w0:=w.drew) (o9.refl _) fun w' h=>ldI hlo (hst w' h) hok.lo;have k2:∀K f d w0,B8 prog (fun w'=>o6 w.drew w') (Instr.loadAt 3 (.pointer (some (H4 vhi i)))) K f d w0=K (A5 f d (.int .i64 ((y:Int)+1))) w0:=fun K f d w0=>A0 (w0:=w.drew) (o9.refl _) fun w' h=>ldI hhi (hst w' h) hok.hi;have B4:=hok.le;have hlen:=hok.len;have hfit:=hok.fit;have e1:IntKind.i64.wrap ((x:Int)+1-1)=(x:Int):=by rw[K1 _ (by omega)];omega
 have e2:IntKind.i64.wrap ((y:Int)+1-1)=(y:Int):=by rw[K1 _ (by omega)];omega
 have hSL:=hL.isS;have hc:=hL.vcap;have c1:decide ((x:Int)≤(y:Int))=true:=by simp;omega
 have c2:decide ((y:Int)≤(vcap vL:Int))=true:=by simp;omega
 simp only[n3,n9,simprocAttr];refine C2 (fun w'=>o6 w.drew w') 22 (A8 [0,1,2,3,4,5,6,7,8,9,10,11,12,13,14,15,16,17,18,19,20,21]) (by decide +kernel) (o9.refl _) ?_;simp only[D5,A8,n3,n9,p9,F8,simprocAttr,s1,hi1,hi2,k1,k2,e1,e2,hSL,c1,c2];refine n7 results62 ?_;simp only[p6,simprocAttr];refine⟨?_,o6.drew w⟩;rw[hok.of_];exact bE1 hL B4 hlen
theorem bD8(v:Value)(p:Pg)(n:A4)(w:World)(hv:SV (d7 w) v p)(hw:C8 p≤1000000):Calls prog 159 #[v,o7 n] w fun e w'=>∃u,e = .returned u∧(A9 (d7 w) w' 9 u (N3 p n)∧o6 w w'):=by
 refine d9 (args:=[v,o7 n]) hm func159 rfl (by kernel_rfl) (by show 2≤_;decide +kernel) ?_;obtain⟨a,w1,hbx,hx1,ha⟩:=ab7 (w:=w) (fun _=>False) hv (fun _ h=>h.elim);obtain⟨vg,vp,hg,hp,ld,_⟩:=L8.pg hv ha;obtain⟨lw,_⟩:=L8.pg_v hv ha;have hlw:∀w',o6 w1 w'→B4 (B5 w1 fun _=>False) (d7 w'):=fun w' h=>p8 (C0 _ _) (b7 h);have lw1:=lw w1 (hlw _ (o9.refl _));simp only[n3,n9,simprocAttr,hbx,lw1];refine B3 eh8 (bW7 v p n w1 (hv.mono (b7 hx1)) hw) (fun w2 hx2=>?_);rcases ev3 (aC2 p n)with hkn|hkn;rotate_left
 ·simp only[n3,n9,simprocAttr,hkn];refine n7 results159 ?_;simp only[p6,simprocAttr];exact⟨by rw[N3,if_neg (by rw[hkn];simp)];exact A9.nil _ _ _,hx1.trans hx2⟩
 have hF:N3 p n=H9 (R4 ((ar5 (b9 p) n).flatMap fun m=>((b9 p).of ((b9 p).pr m)).flatMap fun it=>(I3 it.s).filter fun v=>p.globals.contains v)):=by rw[N3,if_pos hkn];rfl
 have hkn2:=hkn;rw[aC2,ex5]at hkn2;have K:=bi2 (ev6 hkn2.1);have hn:n∈p.procs.map (·.name):=by
  obtain⟨q,hq,e⟩:=eH7.1 hkn2.2;exact ey0.2 ⟨q,hq,ev6 e⟩
 have lw2:=lw w2 (hlw _ hx2);simp only[n3,n9,simprocAttr,hkn,lw2];refine y5 aO1 (af9 v p w2 (hv.mono (b7 (hx1.trans hx2))) hw) ?_;rintro us w3 ⟨sh,rfl,hsh,hx3⟩;have hx13:=hx2.trans hx3;simp only[n3,simprocAttr];refine y5 eh9 (cL0 sh p n w3 hsh hw K hn) ?_;rintro ul w5 ⟨hol,hx5⟩;have hul:=hol.rw_ (b7 hx5);have hx15:=hx13.trans hx5;obtain⟨hll,hsub⟩:=cq3 K hn;obtain⟨hp16,hg16⟩:=bB8 K;have hpp:=I6 p;have hwl:=ac7 p hw;generalize ar5 (b9 p) n=l1 at hul hll hsub hF;have hA:∀m∈p.procs.map (·.name),(((b9 p).of ((b9 p).pr m)).flatMap fun it=>(I3 it.s).filter fun v=>p.globals.contains v).length≤1000000:=fun m hm=>by
  obtain⟨i,hi,hpr,_⟩:=T2 hm;rw[hpr];refine ew0 (aY2 _ (fun t=>(I3 t).length) (fun it=>ey2 _ _) _) ?_;exact cP0 _ bN0 p hw i hi
 have hS1:=hul.isS;have hn1:=hul.vlen;generalize hAf:(fun m=>((b9 p).of ((b9 p).pr m)).flatMap fun it=>(I3 it.s).filter fun v=>p.globals.contains v)=A at hF;have hA':∀m∈p.procs.map (·.name),(A m).length≤1000000:=fun m hm=>by rw[←hAf];exact hA m hm
 have htot:(l1.flatMap A).length≤16000000:=by
  refine ew0 (Q7 A 1000000 l1 fun x hx=>hA' x (hsub x hx)) ?_;omega
 simp only[n3,n9,simprocAttr,hS1,hn1];refine n8 [2,5,21,22] (σ:=Nat×Value) (fun s f w'=>f 23 = .int .i64 s.1∧f 6=s.2∧s.1≤l1.length∧A9 (d7 w5) w' 9 s.2 ((l1.take s.1).flatMap A)∧o6 w5 w') (fun s=>l1.length-s.1) (0,.slice none 0 0) (by decide +kernel) ?_ ?_
 ·simp only[p6,simprocAttr];exact⟨by trivial,by trivial,ew4 _,by simpa using A9.nil _ _ _,o9.refl _⟩
 rintro⟨i,u⟩ f w6 hk ⟨h23,h6,hil,ho,hx6⟩;simp only at h23 h6 hil ho;simp only[ev4,p6,simprocAttr]at hk;obtain⟨e2,e5,e21,e22,_⟩:=hk;have hpre:=ew0 (cb6 A l1 i) htot;simp only[n3,n9,simprocAttr,h23,e22];refine i5 (fun hc=>?_) (fun hc=>?_);rotate_left
 ·have hge:i=l1.length:=by simp at hc;omega
  subst hge;rw[ew5]at ho;simp only[n3,simprocAttr,h6];refine y5 bH9 (ak8 ho (by omega)) ?_;rintro _ w7 ⟨ho7,hm7⟩;have hx57:=ho.ext2 hx6 hm7;simp only[n3,simprocAttr,h6];refine y5 cw2 (aT1 ho7 (by rw[R0];omega)) ?_;rintro u8 w8 ⟨ho8,hm8,_⟩;have hx58:=ho7.ext2 hx57 hm8;have hx08:=hx1.trans (hx15.trans hx58);simp only[n3,simprocAttr];refine n7 results159 ?_;simp only[p6,simprocAttr];exact⟨by rw[hF];exact ho8.back (hx1.trans hx15),hx08⟩
 have hlt:i<l1.length:=by simpa using hc
 have hin:=hul.inS hlt;have hld:=ldS hul (b7 hx6) hlt;have htk:=J0 A l1 hlt;have hmi:=hsub _ (ew2 hlt);have hAi:=hA' _ hmi;generalize l1[i]=m at hld htk hmi hAi;obtain⟨q,hq,hpr,_⟩:=T2 hmi;obtain⟨x,hok,_⟩:=V0 p hw q hq;obtain⟨hmem,hlen⟩:=aZ3 p hw q hq;have hx56:o6 w3 w6:=hx5.trans hx6;simp only[n3,n9,p9,simprocAttr,h23,e5,e21,hin,hld];refine B3 cb9 (an5 sh (b9 p) m w6 (hsh.mono (b7 hx56)) (by rw[hpp];omega)) (fun w7 hx7=>?_);rw[hpr];simp only[n3,simprocAttr];refine y5 aY8 (aD3 (d7 w3) sh (b9 p) q x _ w7 hsh (b7 (hx56.trans hx7)) hok) ?_;rintro ui w8 ⟨hui,hx8⟩;have hAm:A m=((b9 p).of q).flatMap fun it=>(I3 it.s).filter fun v=>p.globals.contains v:=by
  rw[←hAf];simp only[hpr]
 generalize(b9 p).of q=l at hui hmem hlen hAm;have hS2:=hui.isS;have hn2:=hui.vlen;have ho8:=ho.ext (hx7.trans hx8);have hx58:=hx6.trans (hx7.trans hx8);generalize hBf:(fun it:It=>(I3 it.s).filter fun v=>p.globals.contains v)=B at hAm;have hBt:(l.flatMap B).length≤1000000:=by rw[←hAm];exact hAi
 generalize(l1.take i).flatMap A=pre at ho8 hpre htk;simp only[n3,n9,simprocAttr,hS2,hn2];refine n8 [2,5,21,22,23,31,32] (σ:=Nat×Value) (fun s f w'=>f 33 = .int .i64 s.1∧f 6=s.2∧s.1≤l.length∧A9 (d7 w5) w' 9 s.2 (pre++(l.take s.1).flatMap B)∧o6 w5 w') (fun s=>l.length-s.1) (0,u) (by decide +kernel) ?_ ?_
 ·simp only[p6,simprocAttr];exact⟨by trivial,h6,ew4 _,by simpa using ho8,hx58⟩
 rintro⟨j,u9⟩ f9 w9 hk ⟨h33,h69,hjl,ho9,hx9⟩;simp only at h33 h69 hjl ho9;simp only[ev4,p6,simprocAttr]at hk;obtain⟨g2,g5,g21,g22,g23,g31,g32,_⟩:=hk;have hpre2:=ew0 (cb6 B l j) hBt;simp only[n3,n9,simprocAttr,h33,g32];refine i5 (fun hc=>?_) (fun hc=>?_);rotate_left
 ·have hge:j=l.length:=by simp at hc;omega
  subst hge;rw[ew5,←hAm]at ho9;simp only[n3,n9,simprocAttr,g23,h23];refine⟨(i+1,u9),by simp only[];omega,by simp only[];rw[B1 i (by omega)],h69,by simp only[];omega,?_,hx9⟩;simp only[];rw[htk];exact ho9
 have hlt9:j<l.length:=by simpa using hc
 clear hin hld;have hin:=hui.inS hlt9;obtain⟨sv,hsv,hld⟩:=G1 (P:=prog) (t:=127) hui (b7 (hx5.trans hx9)) (ev2 hlt9) X9 Y1 Y0 I9;rw[I9]at hld;have htk9:=J0 B l hlt9;have hwit:=hwl _ (hmem _ (ew2 hlt9));generalize l[j]=it at hsv htk9 hwit;obtain⟨c,wz2,w10,hal,hst,hx10,hati⟩:=ax8 (hsv.mono (b7 (hx5.trans hx9))) (i4 _);obtain⟨hats,_,_⟩:=hati.it;obtain⟨vt,hvt,ldT,_⟩:=hats.st_v;have k3:=ldT w10 (i4 _);have hBit:B it=(I3 it.s).filter fun v=>p.globals.contains v:=by rw[←hBf]
 simp only[n3,n9,p9,simprocAttr,h33,g31,hin,hld,hal,hst,k3];refine y5 dd5 (ba5 vt it.s w10 hvt hwit) ?_;rintro uN w11 ⟨hoN,hx11⟩;have ho10:=ho9.ext hx10;have hoN2:R (B5 w11 (A3 u9)) uN (I3 it.s):=hoN.flatR fun b hb=>D3 fun hbu=>by
  have h1:=ho10.lt hbu;have h2:=C9 (hoN.free hb);omega
 have ho11:=ho10.ext hx11;have hx511:=hx9.trans (hx10.trans hx11);have hNl:=ew0 (ba6 it.s) hwit;generalize I3 it.s=nl at hoN2 hBit hNl;generalize(l.take j).flatMap B=pre2 at ho11 hpre2 htk9;have hS3:=hoN2.isS;have hn3:=hoN2.vlen;simp only[n3,n9,simprocAttr,hS3,hn3];refine n8 [2,5,21,22,23,31,32,33,39,40] (σ:=Nat×Value) (fun s f w'=>f 41 = .int .i64 s.1∧f 6=s.2∧s.1≤nl.length∧A9 (d7 w5) w' 9 s.2 (pre++pre2++(nl.take s.1).filter fun v=>p.globals.contains v)∧o9 (A3 u9) w11 w'∧F1 w11 u9 s.2) (fun s=>nl.length-s.1) (0,u9) (by decide +kernel) ?_ ?_
 ·simp only[p6,simprocAttr];exact⟨by trivial,h69,ew4 _,by simpa using ho11,o9.refl _,fun b hb=>.inl hb⟩
 rintro⟨k,u12⟩ f12 w12 hk ⟨h41,h612,hkl,ho12,hm12,hmv12⟩;simp only at h41 h612 hkl ho12 hmv12;simp only[ev4,p6,simprocAttr]at hk;obtain⟨q2,q5,q21,q22,q23,q31,q32,q33,q39,q40,_⟩:=hk;have hx512:=ho11.ext2 hx511 hm12;have hcnt:((nl.take k).filter fun v=>p.globals.contains v).length≤k:=ew0 (ey2 _ _) (by rw[ew6];omega);simp only[n3,n9,simprocAttr,h41,q40];refine i5 (fun hc=>?_) (fun hc=>?_);rotate_left
 ·have hge:k=nl.length:=by simp at hc;omega
  subst hge;rw[ew5,←hBit]at ho12;simp only[n3,n9,simprocAttr,q33,h33];refine⟨(j+1,u12),by simp only[];omega,by simp only[];rw[B1 j (by omega)],h612,by simp only[];omega,?_,hx512⟩;simp only[];rw[htk9,←ex9];exact ho12
 have hlt12:k<nl.length:=by simpa using hc
 clear hin hld;have hin:=hoN2.inS hlt12;have hld:=ldS hoN2 (D2 hm12) hlt12;have htk12:((nl.take (k+1)).filter fun v=>p.globals.contains v)=((nl.take k).filter fun v=>p.globals.contains v)++if p.globals.contains nl[k]then[nl[k]]else[]:=by
  rw[ew1 hlt12,eC6]
  congr 1
  by_cases h:p.globals.contains nl[k]=true<;>simp[List.filter_cons]
 generalize nl[k]=y at hld htk12;have lg:=ld w12 (hlw _ (hx15.trans hx512));simp only[n3,n9,p9,simprocAttr,h41,q2,g2,e2,q39,hin,hld,lg];refine D1 ac2 (N8 vg p.globals y w12 (z7.mono (b7 (hx1.trans (hx15.trans hx512))) hg) (by omega)) ?_;rcases ev3 (p.globals.contains y)with hq|hq
 ·obtain⟨p1,u13,w13,p2,p3,p4,p5⟩:=push (e:=22) aq8 rfl ho12 (x:=o7 y) (y:=y) rfl (by simp only[ev5];omega) (by simp only[ev5];omega) (b7 hx512);simp only[n3,n9,simprocAttr,hq,h41,h612,p1,p2];refine⟨(k+1,u13),by simp only[];omega,by simp only[];rw[B1 k (by omega)],by trivial,by simp only[];omega,?_,hm12.chain p4 fun b hb hbu=>?_,fun b hb=>?_⟩
  ·simp only[];rw[htk12,if_pos hq,←ex9];exact p3
  ·rcases hmv12 b hbu with h|h
   ·exact h
   ·omega
  ·rcases p5 b hb with h|h
   ·exact hmv12 b h
   ·exact .inr (ew0 hm12.size h)
 ·simp only[n3,n9,simprocAttr,hq,h41];refine⟨(k+1,u12),by simp only[];omega,by simp only[];rw[B1 k (by omega)],h612,by simp only[];omega,?_,hm12,hmv12⟩;simp only[];rw[htk12,if_neg (by rw[hq];simp),ey6];exact ho12
theorem eD4:type_of% @List.getElem_map:=@List.getElem_map
def K7(kv:List (A4×Value))(k:A4):Option Value:=(kv.find? fun p=>decide (p.1=k)).map (·.2)
def aC9(kv:List (A4×Value))(k:A4)(v:Value):List (A4×Value):=if kv.any fun p=>decide (p.1=k)then kv.map fun p=>if p.1=k then(p.1,v)else p else kv++[(k,v)]
def aH1(w:World)(r:Nat)(kv:List (A4×Value)):Prop:=∃es clock,w.heap[r]?=some (.map es clock)∧es.toList.map (fun e=>(e.key,e.val))=kv.map (fun p=>(o7 p.1,p.2))∧(kv.map (·.1)).Nodup∧(∀x∈es.toList,x.born<clock)∧(es.toList.map (·.born)).Nodup
theorem cC5{a b:A4}(h:o7 a=o7 b):a=b:=by
 unfold o7 at h;simp only[Value.string.injEq,ByteArray.mk.injEq]at h;have:=ex0 Array.toList h;cases a;cases b;simpa using this
section
variable {P:Program} {w:World} {t k e:TypeId} {r:Nat} {kv:List (A4×Value)}
theorem aH1.lt(hm:aH1 w r kv):r<w.heap.size:=by
 obtain⟨es,c,h,_⟩:=hm;exact(ev9.1 h).1
theorem aH1.mod{M:Nat→Prop}{w':World}(hm:aH1 w r kv)(h:o9 M w w')(hr:¬M r):aH1 w' r kv:=by
 have hlt:=hm.lt;obtain⟨es,c,h1,h2⟩:=hm;exact⟨es,c,(h.block r hlt hr).trans h1,h2⟩
theorem aH1.new(w:World)(t:TypeId):(Instr.makeMap t none).run P w = .ok (.map (some w.heap.size)) (w.alloc (.map #[] 0))∧aH1 (w.alloc (.map #[] 0)) w.heap.size []∧o6 w (w.alloc (.map #[] 0)):=by
 refine⟨?_,⟨#[],0,ez5 w _,rfl,by simp,by simp,by simp⟩,o6.alloc _ _⟩;unfold Instr.makeMap;rfl
theorem aB4{d:TypeDesc}(hd:d = .string)(s:A4):∀(l:List MapEntry) (kv:List (A4×Value)) (i:Nat),l.map (fun e=>(e.key,e.val))=kv.map (fun p=>(o7 p.1,p.2)) →
  (K7 kv s=none∧(kv.any fun p=>decide (p.1=s))=false∧Instr.findNow d (o7 s) l i=some none) ∨
  ∃j v,kv[j]?  = some (s,v)∧K7 kv s=some v∧(kv.any fun p=>decide (p.1=s))=true∧Instr.findNow d (o7 s) l i=some (some (i+j,v))
 | [],kv,i,h=>by
  have:kv=[]:=by simpa using h.symm
  subst this;exact .inl ⟨rfl,rfl,rfl⟩
 | e::l,[],i,h=>by simp at h
 | e::l,p::kv,i,h=>by
  obtain⟨p1,p2⟩:=p;obtain⟨ek,ev,eb⟩:=e;simp only[ez9,eI2,Prod.mk.injEq]at h;obtain⟨⟨rfl,rfl⟩,h2⟩:=h;subst hd;have hs:Instr.sameNow .string (o7 s) (o7 p1)=some (decide (p1=s)):=by
   have:=MapKept.bytes_beq ⟨s.b.toArray⟩ ⟨p1.b.toArray⟩;simp only[Instr.sameNow,o7]
   congr 1
   rw[eI0,this,decide_eq_true_iff];constructor
   ·intro e;exact(cC5 (by unfold o7;rw[e])).symm
   ·rintro rfl;rfl
  by_cases hp:p1=s
  ·subst hp;refine .inr ⟨0,ev,by simp,by simp[K7],by simp,?_⟩;simp only[Instr.findNow,hs,decide_true];rfl
  ·have hd':decide (p1=s)=false:=by simp[hp]
   rcases aB4 rfl s l kv (i+1) h2 with⟨h3,h4,h5⟩|⟨j,v,h3,h4,h5,h6⟩
   ·refine .inl ⟨by unfold K7 at *;rw[List.find?_cons,hd'];exact h3,by rw[List.any_cons,hd',h4];rfl,?_⟩;simp only[Instr.findNow,hs,hd'];exact h5
   ·refine .inr ⟨j+1,v,by simpa using h3,by unfold K7 at *;rw[List.find?_cons,hd'];exact h4,by rw[List.any_cons,h5];simp,?_⟩;simp only[Instr.findNow,hs,hd',h6]
    congr 3;omega
theorem aH1.lookup(hm:aH1 w r kv)(ht:P.underlying t=some (.map k e))(hk:P.underlying k=some .string){z:Value}(hz:H6 P e=some z)(s:A4):
  (Instr.lookup t (.map (some r)) (o7 s) false).run P w = .ok ((K7 kv s).getD z) w:=by
 obtain⟨es,c,h1,h2,h3,_⟩:=hm;obtain⟨i,hi,hiz⟩:=t8 hz;have hck:=MapKept.run_checkKey (P:=P) (w:=w) (k:=o7 s) hk (show MapKept.IsKey .string (o7 s)from trivial) es.isEmpty 9999;have hzr:(zeroValue e).run P w = .ok z w:=by
  unfold zeroValue;simp[N2,hi,hiz]
 rcases aB4 rfl s es.toList kv 0 h2 with⟨h4,h5,h6⟩|⟨j,v,h4,h5,h6,h7⟩
 ·have hf:=MapKept.run_findKey (P:=P) (w:=w) hk h6;unfold Instr.lookup;simp only[ex6,run_underlying ht,ew9,MapKept.run_getObj_map h1,ey9,hck,hf,hzr,h4,Option.getD_none];rfl
 ·have hf:=MapKept.run_findKey (P:=P) (w:=w) hk h7;unfold Instr.lookup;simp only[ex6,run_underlying ht,ew9,MapKept.run_getObj_map h1,ey9,hck,hf,h5,eA9];rfl
theorem bC3(w:World)(r:Nat)(o:Obj):o9 (fun b=>b=r) w {w with heap:=w.heap.setIfInBounds r o}:=
 ⟨rfl,rfl,rfl,by simp,fun b hb hne=>by rw[Array.getElem?_setIfInBounds_ne (fun e=>hne e.symm)]⟩
theorem aH1.update(hm:aH1 w r kv)(ht:P.underlying t=some (.map k e))(hk:P.underlying k=some .string)(s:A4)(v:Value):
  ∃w',(Instr.mapUpdate t (.map (some r)) (o7 s) v).run P w = .ok () w'∧aH1 w' r (aC9 kv s v)∧o9 (fun b=>b=r) w w':=by
 obtain⟨es,c,h1,h2,h3,h4,h5⟩:=hm;have hck:=MapKept.run_checkKey (P:=P) (w:=w) (k:=o7 s) hk (show MapKept.IsKey .string (o7 s)from trivial) false 9999;have hlt:=(ev9.1 h1).1;rcases aB4 rfl s es.toList kv 0 h2 with⟨h6,h7,h8⟩|⟨j,v0,h6,h7,h8,h9⟩
 ·have hf:=MapKept.run_findKey (P:=P) (w:=w) hk h8;refine⟨{w with heap:=w.heap.setIfInBounds r (.map (es.push ⟨o7 s,v,c⟩) (c+1))},?_,⟨es.push ⟨o7 s,v,c⟩,c+1,by simp[hlt],?_,?_,?_,?_⟩,bC3 w r _⟩
  ·unfold Instr.mapUpdate;simp only[ex6,run_underlying ht,ew9,MapKept.run_getObj_map h1,hck,hf];exact MapKept.run_setObj_map _ h1
  ·rw[aC9,if_neg (by rw[h7];simp),Array.toList_push,ey5,ey5,h2];rfl
  ·rw[aC9,if_neg (by rw[h7];simp),ey5,eA4];refine⟨h3,by simp,fun a ha b hb=>?_⟩;simp only[ez9,List.map_nil,ey1]at hb;subst hb;rintro rfl;obtain⟨p,hp,hpe⟩:=ey0.1 ha;have:=List.any_eq_false.1 h7 p hp;simp[hpe]at this
  ·intro x hx;rw[Array.toList_push]at hx;rcases ew7.1 hx with h|h
   ·have:=h4 x h;omega
   ·simp only[ey1]at h;subst h;exact Nat.lt_succ_self _
  ·rw[Array.toList_push,ey5,eA4];refine⟨h5,by simp,fun a ha b hb=>?_⟩;simp only[ez9,List.map_nil,ey1]at hb;subst hb;rintro rfl;obtain⟨x,hx,hxe⟩:=ey0.1 ha;have:=h4 x hx;omega
 ·have hf:=MapKept.run_findKey (P:=P) (w:=w) hk h9;rw[ey7]at hf;have hej:∃e0,es[j]?=some e0∧e0.key=o7 s:=by
   have:=ex0 (fun z=>z[j]?) h2;simp only[ey8,h6,eB4]at this;cases hq:es.toList[j]? with
   | none=>rw[hq]at this;cases this
   | some e0=>
    rw[hq]at this;simp only[eB4,eG4,Prod.mk.injEq]at this;exact⟨e0,by rw[←eG8];exact hq,this.1⟩
  obtain⟨e0,he0,hek⟩:=hej;have hkt:(Instr.keyThatStays (o7 s) (o7 s)).run P w = .ok (o7 s) w:=MapKept.run_keyThatStays (d:=.string) trivial;have hmod:(es.modify j fun e=>{e with key:=o7 s,val:=v}).toList=es.toList.modify j (fun e=>{e with key:=o7 s,val:=v}):=by simp
  refine⟨{w with heap:=w.heap.setIfInBounds r (.map (es.modify j fun e=>{e with key:=o7 s,val:=v}) c)},?_,⟨es.modify j fun e=>{e with key:=o7 s,val:=v},c,by simp[hlt],?_,?_,?_,?_⟩,bC3 w r _⟩
  ·unfold Instr.mapUpdate;simp only[ex6,run_underlying ht,ew9,MapKept.run_getObj_map h1,hck,hf,he0,eB4,eA9,hek,hkt];exact MapKept.run_setObj_map _ h1
  ·rw[aC9,if_pos h8,hmod];apply eH9;intro n;have hn:=ex0 (fun z=>z[n]?) h2;simp only[ey8]at hn ⊢;rw[List.getElem?_modify];have hj1:=ev8.1 h6;by_cases hnj:j=n
   ·subst hnj;rw[eG8,he0,h6];simp
   ·simp only[hnj,eD2,Option.map_map];cases hkn:kv[n]? with
    | none=>rw[hkn]at hn;simpa using hn
    | some p=>
     rw[hkn]at hn;have hne:p.1≠s:=fun e=>by
      have hn1:=ev8.1 hkn;have a1:(kv.map (·.1))[j]'(by simpa using hj1.1)=(kv.map (·.1))[n]'(by simpa using hn1.1):=by
       simp only[eD4,hj1.2,hn1.2,e]
      have h3':=eB9.1 h3;rcases Nat.lt_trichotomy j n with h|h|h
      ·exact h3' j n _ _ h a1
      ·exact hnj h
      ·exact h3' n j _ _ h a1.symm
     cases he:es.toList[n]? with
     | none=>rw[he]at hn;simp at hn
     | some x=>
      rw[he]at hn;simp only[eB4,eG4]at hn ⊢;simp only[Function.comp,hne,eD2];show some _=some _;exact ex0 some hn
  ·rw[aC9,if_pos h8,List.map_map];have:((fun x:A4×Value=>x.1) ∘ fun p=>if p.1=s then(p.1,v)else p)=fun x=>x.1:=by
    funext p;simp only[Function.comp];split<;>rfl
   rw[this];exact h3
  ·intro x hx;rw[hmod]at hx;obtain⟨n,hn,rfl⟩:=eA8.1 hx;rw[List.getElem_modify];have hn':n<es.toList.length:=by simpa using hn
   split
   ·show es.toList[n].born<c;exact h4 es.toList[n] (ew2 hn')
   ·exact h4 _ (ew2 hn')
  ·rw[hmod];have:(es.toList.modify j (fun e=>{e with key:=o7 s,val:=v})).map (·.born)=es.toList.map (·.born):=by
    apply eH9;intro n;simp only[ey8,List.getElem?_modify];by_cases hjn:j=n<;>simp only[hjn,eB2,eD2]<;>(cases es.toList[n]?<;>rfl)
   rw[this];exact h5
end
theorem ak1(kv:List (A4×Value))(k:A4)(v:Value)(j:A4):K7 (aC9 kv k v) j=if j=k then some v else K7 kv j:=by
 have key:∀l:List (A4×Value),K7 (l.map fun p=>if p.1=k then(p.1,v)else p) j=if j=k then(if l.any fun p=>decide (p.1=k)then some v else none)else K7 l j:=by
  intro l
  induction l with
  | nil=>simp[K7]
  | cons p l ih=>
   unfold K7 at *;rw[ez9,List.find?_cons,List.find?_cons,List.any_cons];by_cases h1:p.1=k
   ·by_cases h2:j=k
    ·subst h2;simp[h1]
    ·simp only[h1,eB2,h2,eD2]at ih ⊢;have h4:decide (k=j)=false:=by simp;exact fun e=>h2 e.symm
     rw[h4];exact ih
   ·by_cases h2:j=k
    ·subst h2;simp only[h1,eD2,decide_false,eI5,eB2]at ih ⊢;exact ih
    ·by_cases h3:p.1=j
     ·simp only[eD2,h2,h3,decide_true]
     ·simp only[h1,eD2,h2,h3,decide_false]at ih ⊢;exact ih
 unfold aC9;split
 ·next h=>rw[key kv];simp only[h,eB2]
 ·next h=>
  have h':=eF7.2 h;unfold K7;rw[List.find?_append];by_cases h2:j=k
  ·subst h2;have:kv.find? (fun p=>decide (p.1=j))=none:=eE9.2 fun p hp=>List.any_eq_false.1 h' p hp;rw[this];simp
  ·rw[if_neg h2];have h3:¬k=j:=fun e=>h2 e.symm;simp[h3]
theorem bB0{P:Program}{S:World→Prop}{K:Fr→World→Prop}{f:Fr}{w:World}{d:Option Nat}{ty:TypeId}{pos:String}{aft:Array Edge}{t:Nat}{m k x:Operand}:B0 P (some S) ⟨d,.mapUpdate t m k x,ty,pos,aft,none⟩ K f w=aU6 ((Instr.mapUpdate t (ev f m) (ev f k) (ev f x)).run P w) (F7 S K) f d:=rfl
theorem eH6:type_of% @Decidable.byContradiction:=@Decidable.byContradiction
theorem ez2:type_of% @List.mem_flatMap:=@List.mem_flatMap
theorem dc0:af6 prog 103=true:=by kernel_rfl
theorem eg1:af6 prog 159=true:=by kernel_rfl
theorem eg2:af6 prog 160=true:=by kernel_rfl
theorem cc8:prog.underlying 210=some (.map 9 22):=by kernel_rfl
theorem ce9:prog.underlying 9=some .string:=by kernel_rfl
theorem bV5(vt vl:Value)(t:St)(l:List A4)(w:World)(ht:SV (d7 w) vt t)(hl:R (d7 w) vl l)(hwt:O5 t≤1000000)(hll:l.length≤1000000000):
  Calls prog 160 #[vt,vl] w fun e w'=>∃u,e = .returned u∧(u = .bool (ac8 t l)∧o6 w w'):=by
 refine d9 (args:=[vt,vl]) hm func160 rfl (by kernel_rfl) (by show 2≤_;decide +kernel) ?_;obtain⟨b,w1,hb1,hx1,ha1⟩:=ai6 ht (i4 _);obtain⟨_,vas,_,_,_,hvas,_,_,_,ldt,_⟩:=ha1.st;have lt1:=ldt w1 (i4 _);have hS:=hvas.isS;have hn:=hvas.vlen;rw[P8]at hwt;have hal:=al1 t.args;have hF:ac8 t l=ac9 t.name l [] t.args:=rfl;simp only[n3,n9,simprocAttr,hb1,lt1,hS,hn];refine n8 [1,2,9,10] (σ:=Nat×Value×List A4) (fun s f w'=>f 11 = .int .i64 s.1∧f 5=s.2.1∧s.1≤t.args.length∧A9 (d7 w1) w' 9 s.2.1 s.2.2∧ac9 t.name l [] t.args=ac9 t.name l s.2.2 (t.args.drop s.1)∧s.2.2.length≤s.1∧o6 w1 w') (fun s=>t.args.length-s.1) (0,.slice none 0 0,[]) (by decide +kernel) ?_ ?_
 ·simp only[p6,simprocAttr];exact⟨by trivial,by trivial,ew4 _,A9.nil _ _ _,by rw[eE3],ew8 _,o9.refl _⟩
 rintro⟨k,u,seen⟩ f w2 hk ⟨h11,h5,hkl,ho,hsk,hsl,hx2⟩;simp only at h11 h5 hkl ho hsk hsl;simp only[ev4,p6,simprocAttr]at hk;obtain⟨e1,e2,e9,e10,_⟩:=hk;simp only[n3,n9,simprocAttr,h11,e10];refine i5 (fun hc=>?_) (fun hc=>?_);rotate_left
 ·have hge:k=t.args.length:=by simp at hc;omega
  subst hge;rw[eF2,ac9]at hsk;simp only[n3,simprocAttr];refine n7 results160 ?_;simp only[p6,simprocAttr];exact⟨by rw[hF,hsk],hx1.trans hx2⟩
 have hlt:k<t.args.length:=by simpa using hc
 have hin:=hvas.inS hlt;obtain⟨sv,hsv,hld⟩:=G1 (P:=prog) (t:=107) hvas (b7 hx2) (ev2 hlt) ax3 ax5 ax4 T7;rw[T7]at hld;rw[ez4 hlt,ac9]at hsk;generalize t.args[k]=y at hsv hsk;obtain⟨c,wz,w3,hal3,hst,hx3,hat⟩:=aR7 (hsv.mono (b7 hx2)) (i4 _);obtain⟨_,ldy,_⟩:=hat.ar;have l3:=ldy w3 (i4 _);have hx13:=hx2.trans hx3;have ho3:=ho.ext hx3;have lt3:=ldt w3 (b7 hx13);rcases ev3 y.ref with hr|hr;rotate_left
 ·rw[if_neg (by rw[hr];simp)]at hsk;simp only[n3,n9,p9,simprocAttr,h11,e9,hin,hld,hal3,hst,l3,hr];exact⟨(k+1,u,seen),by simp only[];omega,by simp only[];rw[B1 k (by omega)],h5,by simp only[];omega,ho3,hsk,by simp only[];omega,hx13⟩
 rw[if_pos hr]at hsk;simp only[n3,n9,p9,simprocAttr,h11,h5,e9,hin,hld,hal3,hst,l3,hr];refine D1 ac2 (N8 u seen y.name w3 (ho3.rw_ (b7 hx13)) (by omega)) ?_;rcases ev3 (seen.contains y.name)with q1|q1
 ·simp only[n3,simprocAttr,q1];refine n7 results160 ?_;simp only[p6,simprocAttr];exact⟨by rw[hF,hsk,q1];rfl,hx1.trans hx13⟩
 rcases ev3 (decide (y.name=t.name))with q2|q2
 ·simp only[n3,n9,simprocAttr,q1,q2,e2,l3,lt3];refine n7 results160 ?_;simp only[p6,simprocAttr];exact⟨by rw[hF,hsk,q1,q2];rfl,hx1.trans hx13⟩
 simp only[n3,n9,simprocAttr,q1,q2,e1,e2,l3,lt3];refine D1 ac2 (N8 vl l y.name w3 (z7.mono (b7 (hx1.trans hx13)) hl) (by omega)) ?_;rcases ev3 (l.contains y.name)with q3|q3
 ·simp only[n3,simprocAttr,q3];refine n7 results160 ?_;simp only[p6,simprocAttr];exact⟨by rw[hF,hsk,q1,q2,q3];rfl,hx1.trans hx13⟩
 rw[q1,q2,q3]at hsk;obtain⟨p1,u',w4,p2,p3,p4,p5⟩:=push (e:=22) aq8 rfl ho3 (x:=o7 y.name) (y:=y.name) rfl (by omega) (by omega) (b7 hx13);simp only[n3,n9,simprocAttr,q3,h11,h5,l3,p1,p2];exact⟨(k+1,u',seen++[y.name]),by simp only[];omega,by simp only[];rw[B1 k (by omega)],by trivial,by simp only[];omega,p3,hsk,by simp only[ev5,ey3];omega,ho3.ext2 hx13 p4⟩
theorem bv4:∀(l:List Pr) (s:Sh) (i:Nat) (it:It),it∈(G2 s i l).l→it∈s.l∨∃(k:Nat) (hk:k<l.length),∃x,it∈C4 l[k].body x (i+k:Nat) 0 (-1) 0
 | [],s,i,it,h=>.inl h
 | f::l,s,i,it,h=>by
  rw[G2]at h;rcases bv4 l _ _ it h with h|⟨k,hk,x,h⟩
  ·simp only[E6]at h;rcases ew7.1 h with h|h
   ·exact .inl h
   ·exact .inr ⟨0,by simp,s.l.length,by simpa using h⟩
  ·exact .inr ⟨k+1,by simpa using hk,x,by rw[show i+(k+1)=i+1+k by omega];simpa using h⟩
mutual
theorem bG3:∀(t:St) (k k':Nat) (pr up nx lp pr' up' nx' lp':Int),(U7 t k pr up nx lp).map (·.s)=(U7 t k' pr' up' nx' lp').map (·.s)
 | .mk id kind labels name proc x has args thn els,k,k',pr,up,nx,lp,pr',up',nx',lp'=>by
  rw[P2,P2];simp only[ez9,ey5]
  congr 2
  ·exact aj0 _ _ _ _ _ _ _ _ _ _ _
  ·exact aj0 _ _ _ _ _ _ _ _ _ _ _
theorem aj0:∀(l:List St) (k k':Nat) (pr up nx lp pr' up' nx' lp':Int),(C4 l k pr up nx lp).map (·.s)=(C4 l k' pr' up' nx' lp').map (·.s)
 | [],_,_,_,_,_,_,_,_,_,_=>by simp[C4]
 | t::l,k,k',pr,up,nx,lp,pr',up',nx',lp'=>by
  rw[C4,C4];simp only[ey5]
  congr 1
  ·exact bG3 _ _ _ _ _ _ _ _ _ _ _
  ·exact aj0 _ _ _ _ _ _ _ _ _ _ _
end
theorem au8{p:Pg}(K:Known p)(hw:C8 p≤1000000){it:It}(hit:it∈(b9 p).l)(h4:it.s.kind=4):it.s.proc∈p.procs.map (·.name):=by
 rcases bv4 _ _ _ it hit with h|⟨k,hk,x,h⟩
 ·cases h
 ·obtain⟨x2,_,e⟩:=V0 p hw k hk;have hs:it.s∈(C4 p.procs[k].body x (0+k:Nat) 0 (-1) 0).map (·.s):=ey0.2 ⟨it,h,rfl⟩;rw[aj0 _ _ x2 _ _ _ _ k 0 (-1) 0,←e]at hs;obtain⟨it2,hit2,e2⟩:=ey0.1 hs;have:=(K.proc k hk).2.2 it2 hit2;rw[e2]at this;unfold ac3 at this;rw[eC8 h4]at this;simp only[Bool.not_true,eI5,ex5]at this;exact ex4.1 this.2.2
theorem bW8{p:Pg}(K:Known p)(n:A4):(N3 p n).length≤1000000000:=by
 unfold N3;split
 ·next h=>
  have h1:=L3 (l:=C6 ((ar5 (b9 p) n).flatMap fun m=>((b9 p).of ((b9 p).pr m)).flatMap fun it=>(I3 it.s).filter fun v=>p.globals.contains v)) (m:=p.globals) ?_ ?_
  ·have:=(bB8 K).2;exact ew0 h1 (by omega)
  ·exact(P6 _).imp fun{a b} hab=>by rintro rfl;rw[J2]at hab;cases hab
  ·intro x hx;rw[G8]at hx;obtain⟨m,_,hx⟩:=ez2.1 hx;obtain⟨it,_,hx⟩:=ez2.1 hx;exact ex4.1 (ey4.1 hx).2
 ·simp
theorem bE2{p:Pg}(h:(X0 p).1=0):(L4 p).1=0:=by
 unfold X0 at h;split at h
 ·simp at h
 ·next hs=>exact eH6 hs
theorem be4(v:Value)(p:Pg)(w:World)(hv:SV (d7 w) v p)(hw:C8 p≤1000000):Calls prog 105 #[v] w fun e w'=>∃u,e = .returned u∧(u=R7 (aA3 p)∧o6 w w'):=by
 refine d9 (args:=[v]) hm func105 rfl (by kernel_rfl) (by show 1≤_;decide +kernel) ?_;obtain⟨a,w1,hbx,hx1,ha⟩:=ab7 (w:=w) (fun _=>False) hv (fun _ h=>h.elim);obtain⟨vg,vp,hg,hp,ld,_⟩:=L8.pg hv ha;obtain⟨lw,slw⟩:=L8.pg_v hv ha;obtain⟨rb,w2,hal,hx2,hrb,hge1⟩:=ar6 w1;have hge:w.heap.size≤rb:=ew0 hx1.size hge1;have hx12:=hx1.trans hx2;have hlw:∀w',o6 w2 w'→B4 (B5 w1 fun _=>False) (d7 w'):=fun w' h=>p8 (C0 _ _) (b7 (hx2.trans h));have lw2:=lw w2 (hlw _ (o9.refl _));have hret:=fun(w':World) (h:o6 w2 w')=>ak0 hrb h hge hx12;simp only[n3,n9,simprocAttr,hbx,hal,lw2];refine B3 dc0 (aA4 v p w2 (hv.mono (b7 hx12)) hw) (fun w3 hx3=>?_);rcases ev3 (decide ((X0 p).1=0))with hsc|hsc;rotate_left
 ·obtain⟨w9,s1,s2,s3⟩:=hret w3 hx3 (1,0);simp only[n3,n9,simprocAttr,ai9,hsc,O7,s1];refine L6 results105 (by simp only[p6,simprocAttr]) s2 ?_;exact⟨by rw[aA3,if_pos (ev7 hsc)],s3⟩
 have K:=bi2 (bE2 (ev6 hsc));obtain⟨hp16,hg16⟩:=bB8 K;have hF:aA3 p=match(b9 p).l.find? fun it=>decide (it.s.kind=4) && !ac8 it.s (N3 p it.s.proc)with
  | some it=>(8,it.s.id)
  | none=>(0,0):=by rw[aA3,if_neg (by simpa using hsc)]<;>rfl
 obtain⟨hmk,hm0,hx4⟩:=aH1.new (P:=prog) w3 210;have hx24:=hx3.trans hx4;have l4:=ld _ (hlw _ hx24);have hS:=hp.isS;have hn:=hp.vlen;have hr1:w1.heap.size≤w3.heap.size:=(hx2.trans hx3).size;have hr2:w2.heap.size≤w3.heap.size:=hx3.size;have hr0:w.heap.size≤w3.heap.size:=(hx12.trans hx3).size;generalize hw4:w3.alloc (.map #[] 0)=w4 at hmk hm0 hx4 hx24 l4;generalize w3.heap.size=r at hmk hm0 hr1 hr2 hr0;simp only[n3,n9,simprocAttr,ai9,hsc,bj3,hmk,l4,hS,hn];refine n8 [1,2,3,15,16] (σ:=Nat×List (A4×Value)) (fun s f w'=>f 17 = .int .i64 s.1∧s.1≤p.procs.length∧aH1 w' r s.2∧(∀j (hj:j<p.procs.length),j<s.1→∃u,K7 s.2 p.procs[j].name=some u∧R (B5 w' fun b=>b=r) u (N3 p p.procs[j].name))∧o6 w2 w') (fun s=>p.procs.length-s.1) (0,[]) (by decide +kernel) ?_ ?_
 ·simp only[p6,simprocAttr];exact⟨by trivial,ew4 _,hm0,fun j _ h=>by omega,hx24⟩
 rintro⟨i,kv⟩ f w5 hk ⟨h17,hil,hm5,hkv,hx5⟩;simp only at h17 hil hm5 hkv;simp only[ev4,p6,simprocAttr]at hk;obtain⟨e1,e2,e3,e15,e16,_⟩:=hk;simp only[n3,n9,simprocAttr,h17,e16];refine i5 (fun hc=>?_) (fun hc=>?_)
 ·have hlt:i<p.procs.length:=by simpa using hc
  have hin:=hp.inS hlt;obtain⟨sv,hsv,hld⟩:=G1 (P:=prog) (t:=53) hp (b7 (hx12.trans hx5)) (ev2 hlt) ao0 ao4 ao1 O1;rw[O1]at hld;have hne:∀j (hj:j<p.procs.length),j<i→p.procs[j].name≠p.procs[i].name:=fun j hj hji e=>by
   have h3:=eB9.1 K.names;exact h3 j i (by simpa using hj) (by simpa using hlt) hji (by simpa using e)
  generalize hy:p.procs[i]=y at hsv hne;obtain⟨c,wz,w6,hal6,hst6,hx6,hat⟩:=aR9 (w:=w5) (fun b=>b=r) hsv (fun b hb=>by subst hb;exact hm5.lt);obtain⟨_,_,_,_,_,_,_,_,_,sdq⟩:=L8.pr hsv hat;have hm6:=(hm5.mod hx6 id).mod (o6.drew w6) id;have hx26:o6 w2 w6.drew:=hx5.trans (hx6.trans (o6.drew w6));have hstq:∀w',o9 (fun b=>b=r) w6.drew w'→B4 (B5 w6 fun b=>b=r) (d7 w'):=fun w' h=>D2 (o9.chain (o9.up (o6.drew w6)) h fun _ _ hb=>hb);have hstp:∀w',o9 (fun b=>b=r) w6.drew w'→B4 (B5 w1 fun _=>False) (d7 w'):=fun w' h=>K6 (hlw _ hx26) h fun b hb=>by
   subst hb;by_cases hq:B5 w1 (fun _=>False) b=none
   ·exact hq
   ·exfalso
    have:d7 w1 b≠none:=fun e=>hq (by rw[D3 (fun h=>h)];exact e);have:=Nat.lt_of_not_le fun h=>this (bd2 h);omega
  have s1:=sdq (fun w'=>o9 (fun b=>b=r) w6.drew w') w6.drew (o9.refl _) hstq;have s2:=slw (fun w'=>o9 (fun b=>b=r) w6.drew w') w6.drew (o9.refl _) hstp;simp only[n3,n9,p9,simprocAttr,h17,e15,hin,hld,hal6,hst6];refine C2 (fun w'=>o9 (fun b=>b=r) w6.drew w') 8 (A8 [0,1,2,3,4,5,6,7]) (by decide +kernel) (o9.refl _) ?_;simp only[D5,A8,n3,n9,simprocAttr,e1,e3,s1,s2];refine y5 eg1 (bD8 v p y.name w6.drew (hv.mono (b7 (hx12.trans hx26))) hw) ?_;rintro u w7 ⟨ho7,hx7⟩;obtain⟨w8,hup,hm8,hmod8⟩:=(hm6.mod hx7 id).update (P:=prog) cc8 ce9 y.name u;refine⟨o9.up hx7,?_⟩;simp only[D5,n3,simprocAttr,bB0,hup,F7];refine⟨(o9.up hx7).chain hmod8 fun _ _ hb=>hb,?_⟩;simp only[n3,n9,simprocAttr,h17];have hx28:o6 w2 w8:=o9.ext_of (hx26.trans hx7) hmod8 fun b hb=>by subst hb;omega
  refine⟨(i+1,aC9 kv y.name u),by simp only[];omega,by simp only[];rw[B1 i (by omega)],by simp only[];omega,hm8,fun j hj hji=>?_,hx28⟩;simp only at hji ⊢;rw[ak1];rcases ez0 j i with h|h
  ·obtain⟨u2,hu2,hr2'⟩:=hkv j hj h;have hne':=hne j hj h;exact⟨u2,by rw[if_neg hne'];exact hu2,z7.mono (bH5 (o9.chain (o9.up (hx6.trans ((o6.drew w6).trans hx7))) hmod8 fun _ _ hb=>hb) (fun b hb=>by subst hb;exact hm5.lt)) hr2'⟩
  ·obtain rfl:j=i:=by omega
   refine⟨u,by rw[hy,if_pos rfl],?_⟩;rw[hy];refine ho7.flatR fun b hb=>?_;have hbr:b≠r:=fun e=>by
    subst e;have h1:=hm6.lt;have h2:=C9 (ho7.free hb);omega
   rw[D3 (N:=fun b=>b=r) hbr];exact hmod8.block b (ho7.lt hb) hbr
 have hge':i=p.procs.length:=by simp at hc;omega
 subst hge';have lw5:=lw w5 (hlw _ hx5);simp only[n3,simprocAttr,e1,lw5];refine y5 aO1 (af9 v p w5 (hv.mono (b7 (hx12.trans hx5))) hw) ?_;rintro us w6 ⟨sh,rfl,hsh,hx6⟩;have hx26:=hx5.trans hx6;obtain⟨vL,vlo,vhi,hL,hlo,hhi,hap,ldsh,_⟩:=hsh.sh;have lsh:=ldsh w6 (i4 _);have hSl:=hL.isS;have hnl:=hL.vlen;have hsl:=at7 p;have hcl:=by7 p;have hwl:=ac7 p hw;have hkn:∀it∈(b9 p).l,it.s.kind=4→it.s.proc∈p.procs.map (·.name):=fun it hit h4=>au8 K hw hit h4;generalize(b9 p).l=l at hL hSl hnl hsl hwl hF hkn;simp only[n3,n9,simprocAttr,lsh,hSl,hnl];refine n8 [1,2,3,33,34] (σ:=Nat) (fun m f w'=>f 35 = .int .i64 m∧m≤l.length∧(∀j (hj:j<l.length),j<m→(decide (l[j].s.kind=4) && !ac8 l[j].s (N3 p l[j].s.proc))=false)∧o6 w6 w') (fun m=>l.length-m) 0 (by decide +kernel) ?_ ?_
 ·simp only[p6,simprocAttr];exact⟨by trivial,ew4 _,fun j _ h=>by omega,o9.refl _⟩
 rintro m f3 w7 hk ⟨h35,hml,hno,hx7⟩;simp only[ev4,p6,simprocAttr]at hk;obtain⟨g1,g2,g3,g33,g34,_⟩:=hk;rw[e2]at g2;rw[e3]at g3;have hx27:=hx26.trans hx7;simp only[n3,n9,simprocAttr,h35,g34];refine i5 (fun hc=>?_) (fun hc=>?_);rotate_left
 ·have hge2:m=l.length:=by simp at hc;omega
  subst hge2;have hfind:l.find? (fun it=>decide (it.s.kind=4) && !ac8 it.s (N3 p it.s.proc))=none:=eE9.2 fun it hit=>by
   obtain⟨j,hj,rfl⟩:=eA8.1 hit;rw[hno j hj hj];simp
  rw[hfind]at hF;obtain⟨w9,s1,s2,s3⟩:=hret w7 hx27 (0,0);simp only[n3,simprocAttr,g2,aE2,s1];refine L6 results105 (by simp only[p6,simprocAttr];exact g2) s2 ?_;exact⟨by rw[hF],s3⟩
 have hlt:m<l.length:=by simpa using hc
 have hin:=hL.inS hlt;obtain⟨sv,hsv,hld⟩:=G1 (P:=prog) (t:=127) hL (b7 hx7) (ev2 hlt) X9 Y1 Y0 I9;rw[I9]at hld;have hwit:=hwl _ (ew2 hlt);have hknm:=hkn _ (ew2 hlt);obtain⟨c,wz2,w8,hal8,hst8,hx8,hati⟩:=ax8 (hsv.mono (b7 hx7)) (i4 _);obtain⟨hats,_,_⟩:=hati.it;obtain⟨vt,hvt,ldT,_⟩:=hats.st_v;obtain⟨_,_,_,_,_,_,_,_,_,ldt,_⟩:=hats.st;have hx28:=hx27.trans hx8;have k2:=ldt w8 (i4 _);have k3:=ldT w8 (i4 _);have hm8:=((hm5.mod hx6 id).mod hx7 id).mod hx8 id;have hend:∀w',o6 w8 w'→(decide (l[m].s.kind=4) && !ac8 l[m].s (N3 p l[m].s.proc))=false→∃s:Nat,l.length-s<l.length-m∧(Value.int .i64 (IntKind.i64.wrap ((m:Int)+1))) = .int .i64 s∧s≤l.length∧(∀j (hj:j<l.length),j<s→(decide (l[j].s.kind=4) && !ac8 l[j].s (N3 p l[j].s.proc))=false)∧o6 w6 w':=fun w' hx' hq=>by
  refine⟨m+1,by omega,by rw[B1 m (by omega)],by omega,fun j hj hjm=>?_,hx7.trans (hx8.trans hx')⟩;rcases ez0 j m with h|h
  ·exact hno j hj h
  ·obtain rfl:j=m:=by omega
   exact hq
 rcases ev3 (decide (l[m].s.kind=4))with hk4|hk4;rotate_left
 ·simp only[n3,n9,p9,simprocAttr,h35,g33,hin,hld,hal8,hst8,k2,hk4];exact hend w8 (o9.refl _) (by rw[hk4];rfl)
 obtain⟨q,hq,hpr,hqn⟩:=T2 (hknm (ev6 hk4));obtain⟨u,hu1,hu2⟩:=hkv q hq hq;rw[hqn]at hu1 hu2;have hlk:=hm8.lookup (P:=prog) cc8 ce9 (z:=.slice none 0 0) bO3 l[m].s.proc;rw[hu1,eA9]at hlk;simp only[n3,n9,p9,simprocAttr,h35,g3,g33,hin,hld,hal8,hst8,k2,k3,hk4,hlk];refine B3 eg2 (bV5 vt u l[m].s (N3 p l[m].s.proc) w8 hvt (z7.mono (p8 (C0 _ _) (b7 (hx6.trans (hx7.trans hx8)))) hu2) hwit (bW8 K _)) (fun w9 hx9=>?_);rcases ev3 (ac8 l[m].s (N3 p l[m].s.proc))with hsg|hsg
 ·simp only[n3,n9,simprocAttr,hsg,h35];exact hend w9 hx9 (by rw[hk4,hsg];rfl)
 ·have k4:=ldt w9 (b7 hx9);obtain⟨w10,s1,s2,s3⟩:=hret w9 (hx28.trans hx9) (8,l[m].s.id);simp only[n3,n9,simprocAttr,hsg,k4,g2,ar8,s1];refine L6 results105 (by simp only[p6,simprocAttr];exact g2) s2 ?_;have hfind:l.find? (fun it=>decide (it.s.kind=4) && !ac8 it.s (N3 p it.s.proc))=some l[m]:=eD5.2 ⟨by rw[hk4,hsg];rfl,m,hlt,rfl,fun j hj=>by rw[hno j (by omega) hj];rfl⟩;rw[hfind]at hF;exact⟨by rw[hF],s3⟩
theorem ed6:af6 prog 104=true:=by kernel_rfl
theorem ed7:af6 prog 105=true:=by kernel_rfl
theorem er7:af6 prog 58=true:=by kernel_rfl
theorem cc3{w:World}{b:Nat}{e:Int×Int}(h:w.heap[b]?=some (.cells #[.int .i64 e.1,.int .i64 e.2] 113 (0,0))):
  (Instr.loadAt 111 (.pointer (some ⟨b,0,none⟩))).run prog w = .ok (.int .i64 e.1) w∧(Instr.loadAt 113 (.pointer (some ⟨b,0,none⟩))).run prog w = .ok (R7 e) w:=
 ⟨E8 (i:=0) h rfl cG3,ab6 h bX1 bX9 bX3 (by rw[bX6];rfl)⟩
theorem ce0{w:World}{b:Nat}{e:Int×Int}(h:w.heap[b]?=some (.cells #[.int .i64 e.1,.int .i64 e.2] 113 (0,0)))(e2:Int×Int):
  ∃w',(Instr.storeAt 113 (.pointer (some ⟨b,0,none⟩)) (R7 e2)).run prog w = .ok () w'∧w'.heap[b]?=some (.cells #[.int .i64 e2.1,.int .i64 e2.2] 113 (0,0))∧o9 (fun c=>c=b) w w':=
 ap1 (P:=prog) (cs:=#[.int .i64 e2.1,.int .i64 e2.2]) h bY0 rfl rfl (by simp[Value.oneCell'])
theorem by5(v:Value)(p:Pg)(w:World)(hv:SV (d7 w) v p)(hw:C8 p≤1000000):Calls prog 58 #[v] w fun e w'=>∃u,e = .returned u∧(u=R7 (aA6 p)∧o6 w w'):=by
 refine d9 (args:=[v]) hm func58 rfl (by kernel_rfl) (by show 1≤_;decide +kernel) ?_;obtain⟨a,w1,hbx,hx1,ha⟩:=ab7 (w:=w) (fun _=>False) hv (fun _ h=>h.elim);obtain⟨lw,slw⟩:=L8.pg_v hv ha;obtain⟨rb,w2,hal,hx2,hrb,hge1⟩:=ar6 w1;have hge:w.heap.size≤rb:=ew0 hx1.size hge1;have hx12:=hx1.trans hx2;have hlw:∀w',o6 w1 w'→B4 (B5 w1 fun _=>False) (d7 w'):=fun w' h=>p8 (C0 _ _) (b7 h);have lw2:=lw w2 (hlw _ hx2);have hret:=fun(w':World) (h:o6 w2 w')=>ak0 hrb h hge hx12;simp only[n3,n9,simprocAttr,hbx,hal,lw2];refine B3 db9 (bY9 v p w2 (hv.mono (b7 hx12)) hw) (fun w3 hx3=>?_);rcases ev3 (N1 p)with hmay|hmay;rotate_left
 ·obtain⟨w9,s1,s2,s3⟩:=hret w3 hx3 (1,0);simp only[n3,n9,simprocAttr,hmay,O7,s1];refine L6 results58 (by simp only[p6,simprocAttr]) s2 ?_;exact⟨by rw[aA6,hmay];rfl,s3⟩
 have hF:aA6 p=if(L4 p).1≠0 then L4 p else if(X0 p).1≠0 then X0 p else if(ay4 p).1≠0 then ay4 p else aA3 p:=by
  rw[aA6,if_neg (by rw[hmay];simp)]
 have lw3:=lw w3 (hlw _ (hx2.trans hx3));simp only[n3,n9,simprocAttr,hmay,lw3];refine B3 bT0 (ac6 v p w3 (hv.mono (b7 (hx12.trans hx3))) hw) (fun w4 hx4=>?_);have hx24:=hx3.trans hx4;obtain⟨tb,w5,hal5,hx5,htb,hge5⟩:=ar6 w4;obtain⟨w6,st6,hh6,hm6⟩:=ce0 (e:=(0,0)) htb (L4 p);obtain⟨l6,l6'⟩:=cc3 hh6;have hge4:w2.heap.size≤tb:=ew0 hx24.size hge5;have hx26:o6 w2 w6:=o9.ext_of (hx24.trans hx5) hm6 fun b hb=>by subst hb;exact hge4
 have fin:∀(w':World) (e:Int×Int),o6 w2 w'→w'.heap[tb]?=some (.cells #[.int .i64 e.1,.int .i64 e.2] 113 (0,0))→aA6 p=e→∃w'',(Instr.loadAt 113 (.pointer (some ⟨tb,0,none⟩))).run prog w' = .ok (R7 e) w'∧(Instr.storeAt 113 (.pointer (some ⟨rb,0,none⟩)) (R7 e)).run prog w' = .ok () w''∧(Instr.loadAt 113 (.pointer (some ⟨rb,0,none⟩))).run prog w'' = .ok (R7 e) w''∧o6 w w'':=fun w' e hx hh _=>by
  obtain⟨w'',h1,h2,h3⟩:=hret w' hx e;exact⟨w'',(cc3 hh).2,h1,h2,h3⟩
 rcases ev3 (decide ((L4 p).1=0))with d1|d1;rotate_left
 ·rw[if_pos (ev7 d1)]at hF;obtain⟨w9,s0,s1,s2,s3⟩:=fin w6 _ hx26 hh6 hF;simp only[n3,n9,simprocAttr,hal5,st6,l6,d1,s0,s1];refine L6 results58 (by simp only[p6,simprocAttr]) s2 ?_;exact⟨by rw[hF],s3⟩
 rw[if_neg (by simpa using d1)]at hF;have lw6:=lw w6 (hlw _ (hx2.trans hx26));simp only[n3,n9,simprocAttr,hal5,st6,l6,d1,lw6];refine B3 dc0 (aA4 v p w6 (hv.mono (b7 (hx12.trans hx26))) hw) (fun w7 hx7=>?_);obtain⟨w8,st8,hh8,hm8⟩:=ce0 ((hx7.block tb (ev9.1 hh6).1 id).trans hh6) (X0 p);obtain⟨l8,_⟩:=cc3 hh8;have hx28:o6 w2 w8:=o9.ext_of (hx26.trans hx7) hm8 fun b hb=>by subst hb;exact hge4
 rcases ev3 (decide ((X0 p).1=0))with d2|d2;rotate_left
 ·rw[if_pos (ev7 d2)]at hF;obtain⟨w9,s0,s1,s2,s3⟩:=fin w8 _ hx28 hh8 hF;simp only[n3,n9,simprocAttr,st8,l8,d2,s0,s1];refine L6 results58 (by simp only[p6,simprocAttr]) s2 ?_;exact⟨by rw[hF],s3⟩
 rw[if_neg (by simpa using d2)]at hF;have lw8:=lw w8 (hlw _ (hx2.trans hx28));simp only[n3,n9,simprocAttr,st8,l8,d2,lw8];refine B3 ed6 (bp0 v p w8 (hv.mono (b7 (hx12.trans hx28))) hw) (fun w9 hx9=>?_);obtain⟨w10,st10,hh10,hm10⟩:=ce0 ((hx9.block tb (ev9.1 hh8).1 id).trans hh8) (ay4 p);obtain⟨l10,_⟩:=cc3 hh10;have hx210:o6 w2 w10:=o9.ext_of (hx28.trans hx9) hm10 fun b hb=>by subst hb;exact hge4
 rcases ev3 (decide ((ay4 p).1=0))with d3|d3;rotate_left
 ·rw[if_pos (ev7 d3)]at hF;obtain⟨w11,s0,s1,s2,s3⟩:=fin w10 _ hx210 hh10 hF;simp only[n3,n9,simprocAttr,st10,l10,d3,s0,s1];refine L6 results58 (by simp only[p6,simprocAttr]) s2 ?_;exact⟨by rw[hF],s3⟩
 rw[if_neg (by simpa using d3)]at hF;have lw10:=lw w10 (hlw _ (hx2.trans hx210));simp only[n3,n9,simprocAttr,st10,l10,d3,lw10];refine B3 ed7 (be4 v p w10 (hv.mono (b7 (hx12.trans hx210))) hw) (fun w11 hx11=>?_);obtain⟨w12,st12,hh12,hm12⟩:=ce0 ((hx11.block tb (ev9.1 hh10).1 id).trans hh10) (aA3 p);have hx212:o6 w2 w12:=o9.ext_of (hx210.trans hx11) hm12 fun b hb=>by subst hb;exact hge4
 obtain⟨w13,s0,s1,s2,s3⟩:=fin w12 _ hx212 hh12 hF;simp only[n3,simprocAttr,st12,s0,s1];refine L6 results58 (by simp only[p6,simprocAttr]) s2 ?_;exact⟨by rw[hF],s3⟩
theorem aM4(v:Value)(p:Pg)(w:World)(hv:SV (d7 w) v p)(hw:C8 p≤1000000):Calls prog 38 #[v] w fun e w'=>∃u,e = .returned u∧(u = .bool (S0 p)∧o6 w w'):=by
 refine d9 (args:=[v]) hm func38 rfl (by kernel_rfl) (by show 1≤_;decide +kernel) ?_;obtain⟨a,w1,hbx,hx1,ha⟩:=ab7 (w:=w) (fun _=>False) hv (fun _ h=>h.elim);obtain⟨lw,slw⟩:=L8.pg_v hv ha;have lw1:=lw w1 (C0 _ _);simp only[n3,n9,simprocAttr,hbx,lw1];refine B3 er7 (by5 v p w1 (hv.mono (b7 hx1)) hw) (fun w3 hx3=>?_);simp only[n3,n9,simprocAttr,ai9];refine n7 results38 ?_;simp only[p6,simprocAttr];exact⟨by trivial,hx1.trans hx3⟩
section
open Go.Sort Go.RowKit Go.Shelf
class z6 (α:Type) [z7 α] where
 cells:α→List Value
 iff_:∀(h:Hp) (cs:List Value) (x:α),z7.enc h cs x↔cs=cells x
instance:z6 Sp:=⟨Sp.cells,fun _ _ _=>eC0⟩
instance:z6 Fw:=⟨Fw.cells,fun _ _ _=>eC0⟩
instance:z6 Vx:=⟨Vx.cells,fun _ _ _=>eC0⟩
instance:z6 Eg:=⟨Eg.cells,fun _ _ _=>eC0⟩
instance:Inhabited Sp:=⟨⟨0,0,0⟩⟩
instance:Inhabited Fw:=⟨⟨0,0,e0⟩⟩
instance:Inhabited Vx:=⟨⟨e0,0,0,e0⟩⟩
instance:Inhabited Eg:=⟨⟨default,default,0⟩⟩
section
variable {α:Type} [z7 α] [z6 α]
theorem aj8(x:α):(z6.cells x).length=z7.sz α:=z7.len ((z6.iff_ (fun _=>none) _ x).2 rfl)
theorem aj9(x:α):∀v∈z6.cells x,v.oneCell'=true:=z7.one ((z6.iff_ (fun _=>none) _ x).2 rfl)
theorem U6{h:Hp}:∀{cs:List Value} {l:List α},N0 h cs l↔cs=l.flatMap z6.cells
 | cs,[]=>by simp[N0]
 | cs,x::l=>by
  rw[N0,eF4];constructor
  ·rintro⟨c1,c2,rfl,h1,h2⟩;rw[(z6.iff_ _ _ _).1 h1,U6.1 h2]
  ·rintro rfl;exact⟨_,_,rfl,(z6.iff_ _ _ _).2 rfl,U6.2 rfl⟩
theorem A9.downN{h k:Hp}{w:World}{T:TypeId}{v:Value}{xs:List α}(ho:A9 k w T v xs)(hk:B4 h k):A9 h w T v xs:=by
 rcases ho with hn|⟨b,c,cur,rfl,h1,h2,h3,h4,h5,h6⟩
 ·exact .inl hn
 ·refine .inr ⟨b,c,cur,rfl,?_,h2,h3,h4,h5,U6.2 (U6.1 h6)⟩;cases hq:h b with
  | none=>rfl
  | some o=>have:=hk b o hq;rw[h1]at this;cases this
theorem A9.flatRN{h k:Hp}{w:World}{T:TypeId}{v:Value}{xs:List α}(ho:A9 h w T v xs)(hb:∀b,A3 v b→k b=w.heap[b]?):R k v xs:=
 (ho.downN (h:=fun _=>none) (fun b o e=>nomatch e)).ro (fun b o e=>nomatch e) hb
theorem A9.backN{w0 w1 w:World}{T:TypeId}{v:Value}{xs:List α}(ho:A9 (d7 w1) w T v xs)(hx:o6 w0 w1):A9 (d7 w0) w T v xs:=ho.downN (b7 hx)
theorem cA7{h:Hp}{w:World}{T:TypeId}{v:Value}{l:List α}(ho:A9 h w T v l):(v = .slice none 0 0∧l=[])∨∃b c cur,v = .slice (some ⟨b,0,none⟩) l.length c∧h b=none∧w.heap[b]?=some (.cells cur T (0,0))∧l.length≤c∧c≤maxLen∧cur.size=c*z7.sz α∧cur.toList.take (l.length*z7.sz α)=l.flatMap z6.cells:=by
 rcases ho with hn|⟨b,c,cur,rfl,h1,h2,h3,h4,h5,h6⟩
 ·exact .inl hn
 ·exact .inr ⟨b,c,cur,rfl,h1,h2,h3,h4,h5,U6.1 h6⟩
theorem bj5{h:Hp}{w:World}{T:TypeId}{l:List α}{b c:Nat}{cur:Array Value}(h1:h b=none)(h2:w.heap[b]?=some (.cells cur T (0,0)))(h3:l.length≤c)(h4:c≤maxLen)(h5:cur.size=c*z7.sz α)(h6:cur.toList.take (l.length*z7.sz α)=l.flatMap z6.cells):
  A9 h w T (.slice (some ⟨b,0,none⟩) l.length c) l:=.inr ⟨b,c,cur,rfl,h1,h2,h3,h4,h5,U6.2 h6⟩
theorem aa8(l:List α):(l.flatMap z6.cells).length=l.length*z7.sz α:=by
 induction l with
 | nil=>simp
 | cons x l ih=>rw[eF4,ev5,aj8,ih,ex7,Nat.succ_mul,Nat.add_comm]
end
theorem aY0{α β:Type}(f:α→List β){k:Nat}(hk:0<k)(hf:∀x,(f x).length=k):∀(l:List α) (t:Nat),(l.flatMap f)[t]?=(l[t / k]?).bind fun x=>(f x)[t % k]?
 | [],t=>by simp
 | x::l,t=>by
  rw[eF4];rcases ez0 t k with h|h
  ·rw[eA0 (by rw[hf];exact h),Nat.div_eq_of_lt h,Nat.mod_eq_of_lt h];rfl
  ·rw[ez6 (by rw[hf];exact h),hf,aY0 f hk hf l];have h1:t / k=(t-k) / k+1:=by rw[Nat.div_eq_sub_div hk h]
   have h2:t % k=(t-k) % k:=Nat.mod_eq_sub_mod h;rw[h1,h2,List.getElem?_cons_succ]
theorem bg4{α:Type}[Inhabited α](f:α→List Value){k:Nat}(hk:0<k)(hf:∀x,(f x).length=k)(d:Array α):(flatK f k d).toList=d.toList.flatMap f:=by
 apply eH9;intro t;rw[aY0 f hk hf];unfold flatK;rw[eG8,Array.getElem?_map];rcases ez0 t (d.size*k)with h|h
 ·have h1:t / k<d.size:=Nat.div_lt_of_lt_mul (by rw[Nat.mul_comm];exact h);have h2:t % k<k:=Nat.mod_lt _ hk;rw[eE1 (by simpa using h),eG8,eE1 h1];simp only[Array.getElem_range,eB4,Option.bind_some];rw[getElem!_pos d _ h1,getElem!_pos _ _ (by rw[hf];exact h2),ev2 (by rw[hf];exact h2)]
 ·have h1:d.size≤t / k:=(Nat.le_div_iff_mul_le hk).2 h;rw[Array.getElem?_eq_none (by simpa using h),eG8,Array.getElem?_eq_none h1];rfl
structure Cm {α:Type} (c:α→α→Int):Prop where
 refl:∀x,c x x=0
 anti:∀x y,c y x = - c x y
 trans:∀x y z,c x y≤0→c y z≤0→c x z≤0
theorem Cm.swo{α:Type}{c:α→α→Int}(h:Cm c):SWO (ltOf c) where
 irrefl x:=by simp[ltOf,h.refl]
 trans x y z h1 h2:=by
  simp only[ltOf,ez3]at *;have h3:=h.trans x y z (by omega) (by omega);rcases Int.lt_or_eq_of_le h3 with h4|h4
  ·exact h4
  ·have h5:=h.anti x z;have h6:=h.trans y z x (by omega) (by omega);have h7:=h.anti x y;omega
 ntrans x y z h1 h2:=by
  simp only[ltOf,eH8]at *;have a1:=h.anti x y;have a2:=h.anti y z;have a3:=h.anti x z;have:=h.trans z y x (by omega) (by omega);omega
theorem Cm.total{α:Type}{c:α→α→Int}(h:Cm c)(x y:α):decide (c x y≤0)=true∨decide (c y x≤0)=true:=by
 have:=h.anti x y;simp only[ez3];omega
theorem Cm.key{α β:Type}{c:β→β→Int}(h:Cm c)(f:α→β):Cm fun x y=>c (f x) (f y):=⟨fun x=>h.refl _,fun x y=>h.anti _ _,fun x y z=>h.trans _ _ _⟩
theorem Cm.zero{α:Type}:Cm fun(_ _:α)=>0:=⟨fun _=>rfl,fun _ _=>rfl,fun _ _ _ _ _=>by omega⟩
theorem Cm.lex{α:Type}{c d:α→α→Int}(h:Cm c)(k:Cm d):Cm fun x y=>if c x y=0 then d x y else c x y:=by
 refine⟨fun x=>by simp only[h.refl,eB2,k.refl],fun x y=>?_,fun x y z h1 h2=>?_⟩
 ·have a1:=h.anti x y;have a2:=k.anti x y;by_cases hq:c x y=0
  ·show(if c y x=0 then d y x else c y x) = - (if c x y=0 then d x y else c x y);rw[if_pos (show c y x=0 by omega),if_pos hq,a2]
  ·show(if c y x=0 then d y x else c y x) = - (if c x y=0 then d x y else c x y);rw[if_neg (show ¬c y x=0 by omega),if_neg hq,a1]
 ·have a1:=h.anti x y;have a2:=h.anti y z;have a3:=h.anti x z
  change (if c x y=0 then d x y else c x y)≤0 at h1
  change (if c y z=0 then d y z else c y z)≤0 at h2
  show(if c x z=0 then d x z else c x z)≤0;have b1:c x y≤0:=by split at h1<;>omega
  have b2:c y z≤0:=by split at h2<;>omega
  have b3:=h.trans x y z b1 b2;by_cases hq:c x z=0
  ·rw[if_pos hq];have e1:=h.trans y z x b2 (by omega);have e2:=h.trans z x y (by omega) b1;have q1:c x y=0:=by omega
   have q2:c y z=0:=by omega
   rw[if_pos q1]at h1;rw[if_pos q2]at h2;exact k.trans x y z h1 h2
  ·rw[if_neg hq];exact b3
theorem aA7:Cm I4:=by
 refine⟨fun x=>?_,fun x y=>?_,fun x y z=>?_⟩<;>unfold I4
 ·simp
 ·split<;>split<;>(try split)<;>omega
 ·intro h1 h2;split at h1<;>(try split at h1)<;>split at h2<;>(try split at h2)<;>split<;>(try split)<;>omega
def X2(a b:A4):Int:=if Z0 a b then -1 else if Z0 b a then 1 else 0
theorem bQ7:Cm X2:=by
 refine⟨fun x=>?_,fun x y=>?_,fun x y z=>?_⟩<;>unfold X2
 ·simp[J2]
 ·cases h1:Z0 x y<;>cases h2:Z0 y x<;>simp;have:=ak3 h1 h2;rw[J2]at this;cases this
 ·intro h1 h2;cases h3:Z0 z x
  ·cases Z0 x z<;>simp
  ·exfalso
   cases h4:Z0 y x
   ·cases h5:Z0 z y
    ·have e1:=aT8 (V7.1 h4) (V7.1 h5);exact absurd h3 (by rw[V7.2 e1];simp)
    ·cases h6:Z0 y z
     ·rw[h6,h5]at h2;simp at h2
     ·have:=ak3 h5 h6;rw[J2]at this;cases this
   ·cases h6:Z0 x y
    ·rw[h6,h4]at h1;simp at h1
    ·have:=ak3 h4 h6;rw[J2]at this;cases this
theorem S9{a b:Int}(h:I4 a b=0):a=b:=by
 unfold I4 at h;split at h
 ·omega
 ·split at h<;>omega
theorem as1{a b:A4}(h:X2 a b=0):a=b:=by
 unfold X2 at h;cases h1:Z0 a b
 ·cases h2:Z0 b a
  ·exact cc7 h1 h2
  ·rw[h1,h2]at h;simp at h
 ·rw[h1]at h;simp at h
def Gr(w w':World):Prop:=∃q os,w'=grow (w.drewN q) os
theorem Gr.refl(w:World):Gr w w:=⟨0,#[],by rw[grow_empty];rfl⟩
theorem Gr.alloc(w:World)(o:Obj):Gr w (w.alloc o):=⟨0,#[o],by rw[alloc_eq_grow];rfl⟩
theorem Gr.drew(w:World):Gr w w.drew:=⟨1,#[],by rw[grow_empty];rfl⟩
theorem Gr.trans{a b c:World}(h:Gr a b)(k:Gr b c):Gr a c:=by
 obtain⟨q,os,rfl⟩:=h;obtain⟨p,ps,rfl⟩:=k;refine⟨q+p,os++ps,?_⟩;have e:(grow (a.drewN q) os).drewN p=grow (a.drewN (q+p)) os:=by
  show grow ((a.drewN q).drewN p) os=_
  congr 1
  simp[World.drewN,eE5]
 rw[e,grow_grow]
theorem Gr.ext{a b:World}(h:Gr a b):o6 a b:=by
 obtain⟨q,os,rfl⟩:=h;have h1:o6 a (a.drewN q):=⟨rfl,rfl,rfl,ew8 _,fun _ _ _=>rfl⟩;refine h1.trans ⟨rfl,rfl,rfl,?_,fun c hc _=>?_⟩
 ·show _≤((a.drewN q).heap++os).size;rw[Array.size_append];omega
 ·show((a.drewN q).heap++os)[c]?=_;rw[Array.getElem?_append_left hc]
section
variable {α:Type} [z7 α] [z6 α] [Inhabited α] {P:Program} {ρ:Ren} {h:Hp} {w:World} {T:TypeId} {v:Value} {xs:List α}
theorem cN6{b:Nat}{cur:Array Value}(h2:w.heap[b]?=some (.cells cur T (0,0)))(h6:cur.toList.take (xs.length*z7.sz α)=xs.flatMap z6.cells):HoldsK z6.cells (z7.sz α) w b 0 xs.toArray:=fun j hj=>by
 have hl:=bg4 z6.cells (z7.pos (α:=α)) aj8 xs.toArray;rw[List.toList_toArray,←h6]at hl;have hj':j<xs.length*z7.sz α:=by simpa using hj
 rw[ey7,eC4 w b j cur _ (0,0) h2];refine⟨?_,frozen_of_row w b j cur _ h2⟩;have h7:=ex0 (fun z=>z[j]?) hl;simp only[eG8,eF1,if_pos hj',eE1 hj]at h7;rw[getElem!_pos _ j hj];exact h7.symm
theorem aF7(L:SlLaysF0.n6 P ρ)(aE:∀w,(isAgg (ρ.t 24)).run P w = .ok true w)(zE:∀w,(Go.sizeOf (ρ.t 24)).run P w = .ok (z7.sz α) w)(cf:α→α→Int)(hC:Cm cf)(g:Nat)(eg:∀args w,(callFunc g args).run P w = .ok (.enter g args) w)
  (hcmp:∀x y w,Calls P g #[.agg (z6.cells x).toArray,.agg (z6.cells y).toArray] w fun e w'=>e = .returned (.int .i64 (cf x y))∧Gr w w')
  (ho:A9 h w T v xs) (hl:xs.length≤1000000000) (hanti:∀a∈xs,∀b∈xs,decide (cf a b≤0)=true→decide (cf b a≤0)=true→a=b) :
  Calls P (ρ.f 6) #[v,.func (.func g) #[] #[]] w fun e w'=>∃u,e = .returned u∧(A9 h w' T v (U2 (fun a b=>decide (cf a b≤0)) xs)∧o9 (A3 v) w w'):=by
 rcases cA7 ho with⟨rfl,rfl⟩|⟨b,c,cur,rfl,h1,h2,h3,h4,h5,h6⟩
 ·refine(AnyF.slices_SortFunc_none L none 0 _ w).mono ?_;rintro e w' ⟨rfl,rfl⟩;exact⟨_,rfl,A9.nil _ _ _,o9.refl _⟩
 ·have hb:b<w.heap.size:=(ev9.1 h2).1;have:=AnyQ.slices_SortFunc L (z7.sz α) aE zE z6.cells aj8 aj9 cf hC.swo g #[] b 0 c xs.toArray w eg (fun m os dk _ x y=>hcmp x y _) (cN6 h2 h6) hb (by simp;omega);rw[eE7]at this;refine this.mono ?_;rintro e w' ⟨rfl,d',n,os,hp,hs,rfl⟩;obtain⟨hsz,_,hperm⟩:=hp;have hszd:d'.size=xs.length:=by simpa using hsz
  have hd:d'.toList=U2 (fun a b=>decide (cf a b≤0)) xs:=by
   have e1:d'.extract 0 xs.length=d':=by rw[←hszd];exact Array.extract_size
   rw[e1]at hperm;have e2:(xs.toArray.extract 0 xs.length).toList=xs:=by
    have:=@Array.extract_size _ xs.toArray;rw[eE7]at this;rw[this]
   rw[e2]at hperm;refine ax1 (le:=fun a b=>decide (cf a b≤0)) (hperm.trans (F4 _ _).symm) ?_ ?_ ?_
   ·intro a ha b hb;exact hanti a (hperm.mem_iff.1 ha) b (hperm.mem_iff.1 hb)
   ·rw[eB9];intro i j hi hj hij;have hi':i<d'.size:=by simpa using hi
    have hj':j<d'.size:=by simpa using hj
    have:=hs i j (ew4 _) hij (by omega);rw[getElem!_pos d' j hj',getElem!_pos d' i hi']at this;simp only[ltOf,eH8]at this;have a1:=hC.anti d'[i] d'[j];simp only[Array.getElem_toList,ez3];omega
   ·exact ad1 (fun a _ b _=>hC.total a b) (fun a _ b _ c _ h1 h2=>eC8 (hC.trans a b c (ev6 h1) (ev6 h2)))
  have hfl:=bg4 z6.cells (z7.pos (α:=α)) aj8 d';have hfs:(flatK z6.cells (z7.sz α) d').size=xs.length*z7.sz α:=by rw[size_flatK,hszd]
  obtain⟨k1,k2⟩:=bB9 h2 id (flatK z6.cells (z7.sz α) d') (by rw[hfs,h5];exact eD6 _ h3) n os;refine⟨_,rfl,?_,k2.weaken fun _ _ e=>by subst e;rfl⟩;have hlen:(U2 (fun a b=>decide (cf a b≤0)) xs).length=xs.length:=(F4 _ _).length_eq;rw[List.map_id,hfl,hd]at k1;have:=bj5 (l:=U2 (fun a b=>decide (cf a b≤0)) xs) h1 k1 (by rw[hlen];exact h3) h4 ?_ ?_
  ·rw[hlen]at this;exact this
  ·have hml:=eD6 (z7.sz α) h3;simp only[eE7,ev5,aa8,hlen,eD7,eI4,hfs,h5];omega
  ·simp only[];rw[←aa8,eE4]
end
end
end Go.Proofs.YtdgicngfmfldmaaGreat
namespace Go.Proofs
open Go.Shelf
def Tryz.lySortV_ren:Go.Shelf.Ren:=⟨fun|6=>64|15=>110|14=>109|28=>170|29=>171|20=>162|21=>163|22=>164|23=>165|24=>166|25=>167|26=>168|27=>169|46=>221|47=>222|48=>223|49=>224|50=>225|57=>258|n=>n,fun|22=>30|24=>36|25=>130|3=>3|39=>168|0=>0|53=>221|55=>223|4=>4|46=>215|45=>214|50=>193|5=>5|9=>9|66=>258|70=>262|76=>286|77=>287|n=>n,fun|n=>n⟩
theorem Tryz.lySortV:Go.Proofs.SlLaysF0.n6 Tryz.prog Tryz.lySortV_ren:={
 mixed:=by kernel_rfl
 f6:=⟨Tryz.f64.name,by decide,Tryz.func64.trans (congrArg some (by kernel_rfl))⟩
 f14:=⟨Tryz.f109.name,by decide,Tryz.func109.trans (congrArg some (by kernel_rfl))⟩
 f15:=Tryz.func110.trans (congrArg some (by kernel_rfl))
 f20:=⟨Tryz.f162.name,by decide,Tryz.func162.trans (congrArg some (by kernel_rfl))⟩
 f21:=⟨Tryz.f163.name,by decide,Tryz.func163.trans (congrArg some (by kernel_rfl))⟩
 f22:=⟨Tryz.f164.name,by decide,Tryz.func164.trans (congrArg some (by kernel_rfl))⟩
 f23:=⟨Tryz.f165.name,by decide,Tryz.func165.trans (congrArg some (by kernel_rfl))⟩
 f24:=⟨Tryz.f166.name,by decide,Tryz.func166.trans (congrArg some (by kernel_rfl))⟩
 f25:=⟨Tryz.f167.name,by decide,Tryz.func167.trans (congrArg some (by kernel_rfl))⟩
 f26:=⟨Tryz.f168.name,by decide,Tryz.func168.trans (congrArg some (by kernel_rfl))⟩
 f27:=⟨Tryz.f169.name,by decide,Tryz.func169.trans (congrArg some (by kernel_rfl))⟩
 f28:=Tryz.func170.trans (congrArg some (by kernel_rfl))
 f29:=Tryz.func171.trans (congrArg some (by kernel_rfl))
 f46:=⟨Tryz.f221.name,by decide,Tryz.func221.trans (congrArg some (by kernel_rfl))⟩
 f47:=Tryz.func222.trans (congrArg some (by kernel_rfl))
 f48:=Tryz.func223.trans (congrArg some (by kernel_rfl))
 f49:=⟨Tryz.f224.name,by decide,Tryz.func224.trans (congrArg some (by kernel_rfl))⟩
 f50:=⟨Tryz.f225.name,by decide,Tryz.func225.trans (congrArg some (by kernel_rfl))⟩
 f57:=⟨Tryz.f258.name,by decide,Tryz.func258.trans (congrArg some (by kernel_rfl))⟩
 t0:=Tryz.underlying0
 a0:=Tryz.isAgg0
 z0:=Tryz.sizeOf0
 v0:=Tryz.zeroValue0
 t3:=Tryz.underlying3
 a3:=Tryz.isAgg3
 z3:=Tryz.sizeOf3
 v3:=Tryz.zeroValue3
 t4:=Tryz.underlying4
 a4:=Tryz.isAgg4
 z4:=Tryz.sizeOf4
 v4:=Tryz.zeroValue4
 t5:=Tryz.underlying5
 a5:=Tryz.isAgg5
 z5:=Tryz.sizeOf5
 v5:=Tryz.zeroValue5
 t9:=Tryz.underlying9
 a9:=Tryz.isAgg9
 z9:=Tryz.sizeOf9
 v9:=Tryz.zeroValue9
 t22:=Tryz.underlying30
 a22:=Tryz.isAgg30
 z22:=Tryz.sizeOf30
 v22:=Tryz.zeroValue30
 t25:=Tryz.underlying130
 a25:=Tryz.isAgg130
 z25:=Tryz.sizeOf130
 v25:=Tryz.zeroValue130
 t39:=Tryz.underlying168
 a39:=Tryz.isAgg168
 z39:=Tryz.sizeOf168
 v39:=Tryz.zeroValue168
 t45:=Tryz.underlying214
 a45:=Tryz.isAgg214
 z45:=Tryz.sizeOf214
 v45:=Tryz.zeroValue214
 t46:=Tryz.underlying215
 a46:=Tryz.isAgg215
 z46:=Tryz.sizeOf215
 v46:=Tryz.zeroValue215
 t50:=Tryz.underlying193
 a50:=Tryz.isAgg193
 z50:=Tryz.sizeOf193
 v50:=Tryz.zeroValue193
 t53:=Tryz.underlying221
 a53:=Tryz.isAgg221
 z53:=Tryz.sizeOf221
 v53:=Tryz.zeroValue221
 t55:=Tryz.underlying223
 a55:=Tryz.isAgg223
 z55:=Tryz.sizeOf223
 v55:=Tryz.zeroValue223
 t66:=Tryz.underlying258
 a66:=Tryz.isAgg258
 z66:=Tryz.sizeOf258
 v66:=Tryz.zeroValue258
 t70:=Tryz.underlying262
 a70:=Tryz.isAgg262
 z70:=Tryz.sizeOf262
 v70:=Tryz.zeroValue262
 t76:=Tryz.underlying286
 a76:=Tryz.isAgg286
 z76:=Tryz.sizeOf286
 v76:=Tryz.zeroValue286
 t77:=Tryz.underlying287
 a77:=Tryz.isAgg287
 z77:=Tryz.sizeOf287
 v77:=Tryz.zeroValue287}
def Tryz.lySortF_ren:Go.Shelf.Ren:=⟨fun|6=>93|15=>110|14=>141|28=>170|29=>171|20=>203|21=>204|22=>205|23=>206|24=>207|25=>208|26=>209|27=>210|46=>248|47=>222|48=>223|49=>249|50=>250|57=>277|n=>n,fun|22=>99|24=>101|25=>161|3=>3|39=>168|0=>0|53=>221|55=>223|4=>4|46=>215|45=>214|50=>193|5=>5|9=>9|66=>258|70=>262|76=>286|77=>287|n=>n,fun|n=>n⟩
theorem Tryz.lySortF:Go.Proofs.SlLaysF0.n6 Tryz.prog Tryz.lySortF_ren:={
 mixed:=by kernel_rfl
 f6:=⟨Tryz.f93.name,by decide,Tryz.func93.trans (congrArg some (by kernel_rfl))⟩
 f14:=⟨Tryz.f141.name,by decide,Tryz.func141.trans (congrArg some (by kernel_rfl))⟩
 f15:=Tryz.func110.trans (congrArg some (by kernel_rfl))
 f20:=⟨Tryz.f203.name,by decide,Tryz.func203.trans (congrArg some (by kernel_rfl))⟩
 f21:=⟨Tryz.f204.name,by decide,Tryz.func204.trans (congrArg some (by kernel_rfl))⟩
 f22:=⟨Tryz.f205.name,by decide,Tryz.func205.trans (congrArg some (by kernel_rfl))⟩
 f23:=⟨Tryz.f206.name,by decide,Tryz.func206.trans (congrArg some (by kernel_rfl))⟩
 f24:=⟨Tryz.f207.name,by decide,Tryz.func207.trans (congrArg some (by kernel_rfl))⟩
 f25:=⟨Tryz.f208.name,by decide,Tryz.func208.trans (congrArg some (by kernel_rfl))⟩
 f26:=⟨Tryz.f209.name,by decide,Tryz.func209.trans (congrArg some (by kernel_rfl))⟩
 f27:=⟨Tryz.f210.name,by decide,Tryz.func210.trans (congrArg some (by kernel_rfl))⟩
 f28:=Tryz.func170.trans (congrArg some (by kernel_rfl))
 f29:=Tryz.func171.trans (congrArg some (by kernel_rfl))
 f46:=⟨Tryz.f248.name,by decide,Tryz.func248.trans (congrArg some (by kernel_rfl))⟩
 f47:=Tryz.func222.trans (congrArg some (by kernel_rfl))
 f48:=Tryz.func223.trans (congrArg some (by kernel_rfl))
 f49:=⟨Tryz.f249.name,by decide,Tryz.func249.trans (congrArg some (by kernel_rfl))⟩
 f50:=⟨Tryz.f250.name,by decide,Tryz.func250.trans (congrArg some (by kernel_rfl))⟩
 f57:=⟨Tryz.f277.name,by decide,Tryz.func277.trans (congrArg some (by kernel_rfl))⟩
 t0:=Tryz.underlying0
 a0:=Tryz.isAgg0
 z0:=Tryz.sizeOf0
 v0:=Tryz.zeroValue0
 t3:=Tryz.underlying3
 a3:=Tryz.isAgg3
 z3:=Tryz.sizeOf3
 v3:=Tryz.zeroValue3
 t4:=Tryz.underlying4
 a4:=Tryz.isAgg4
 z4:=Tryz.sizeOf4
 v4:=Tryz.zeroValue4
 t5:=Tryz.underlying5
 a5:=Tryz.isAgg5
 z5:=Tryz.sizeOf5
 v5:=Tryz.zeroValue5
 t9:=Tryz.underlying9
 a9:=Tryz.isAgg9
 z9:=Tryz.sizeOf9
 v9:=Tryz.zeroValue9
 t22:=Tryz.underlying99
 a22:=Tryz.isAgg99
 z22:=Tryz.sizeOf99
 v22:=Tryz.zeroValue99
 t25:=Tryz.underlying161
 a25:=Tryz.isAgg161
 z25:=Tryz.sizeOf161
 v25:=Tryz.zeroValue161
 t39:=Tryz.underlying168
 a39:=Tryz.isAgg168
 z39:=Tryz.sizeOf168
 v39:=Tryz.zeroValue168
 t45:=Tryz.underlying214
 a45:=Tryz.isAgg214
 z45:=Tryz.sizeOf214
 v45:=Tryz.zeroValue214
 t46:=Tryz.underlying215
 a46:=Tryz.isAgg215
 z46:=Tryz.sizeOf215
 v46:=Tryz.zeroValue215
 t50:=Tryz.underlying193
 a50:=Tryz.isAgg193
 z50:=Tryz.sizeOf193
 v50:=Tryz.zeroValue193
 t53:=Tryz.underlying221
 a53:=Tryz.isAgg221
 z53:=Tryz.sizeOf221
 v53:=Tryz.zeroValue221
 t55:=Tryz.underlying223
 a55:=Tryz.isAgg223
 z55:=Tryz.sizeOf223
 v55:=Tryz.zeroValue223
 t66:=Tryz.underlying258
 a66:=Tryz.isAgg258
 z66:=Tryz.sizeOf258
 v66:=Tryz.zeroValue258
 t70:=Tryz.underlying262
 a70:=Tryz.isAgg262
 z70:=Tryz.sizeOf262
 v70:=Tryz.zeroValue262
 t76:=Tryz.underlying286
 a76:=Tryz.isAgg286
 z76:=Tryz.sizeOf286
 v76:=Tryz.zeroValue286
 t77:=Tryz.underlying287
 a77:=Tryz.isAgg287
 z77:=Tryz.sizeOf287
 v77:=Tryz.zeroValue287}
def Tryz.lySortE_ren:Go.Shelf.Ren:=⟨fun|6=>114|15=>110|14=>172|28=>170|29=>171|20=>226|21=>227|22=>228|23=>229|24=>230|25=>231|26=>232|27=>233|46=>259|47=>222|48=>223|49=>260|50=>261|57=>279|n=>n,fun|22=>32|24=>38|25=>171|3=>3|39=>168|0=>0|53=>221|55=>223|4=>4|46=>215|45=>214|50=>193|5=>5|9=>9|66=>258|70=>262|76=>286|77=>287|n=>n,fun|n=>n⟩
theorem Tryz.lySortE:Go.Proofs.SlLaysF0.n6 Tryz.prog Tryz.lySortE_ren:={
 mixed:=by kernel_rfl
 f6:=⟨Tryz.f114.name,by decide,Tryz.func114.trans (congrArg some (by kernel_rfl))⟩
 f14:=⟨Tryz.f172.name,by decide,Tryz.func172.trans (congrArg some (by kernel_rfl))⟩
 f15:=Tryz.func110.trans (congrArg some (by kernel_rfl))
 f20:=⟨Tryz.f226.name,by decide,Tryz.func226.trans (congrArg some (by kernel_rfl))⟩
 f21:=⟨Tryz.f227.name,by decide,Tryz.func227.trans (congrArg some (by kernel_rfl))⟩
 f22:=⟨Tryz.f228.name,by decide,Tryz.func228.trans (congrArg some (by kernel_rfl))⟩
 f23:=⟨Tryz.f229.name,by decide,Tryz.func229.trans (congrArg some (by kernel_rfl))⟩
 f24:=⟨Tryz.f230.name,by decide,Tryz.func230.trans (congrArg some (by kernel_rfl))⟩
 f25:=⟨Tryz.f231.name,by decide,Tryz.func231.trans (congrArg some (by kernel_rfl))⟩
 f26:=⟨Tryz.f232.name,by decide,Tryz.func232.trans (congrArg some (by kernel_rfl))⟩
 f27:=⟨Tryz.f233.name,by decide,Tryz.func233.trans (congrArg some (by kernel_rfl))⟩
 f28:=Tryz.func170.trans (congrArg some (by kernel_rfl))
 f29:=Tryz.func171.trans (congrArg some (by kernel_rfl))
 f46:=⟨Tryz.f259.name,by decide,Tryz.func259.trans (congrArg some (by kernel_rfl))⟩
 f47:=Tryz.func222.trans (congrArg some (by kernel_rfl))
 f48:=Tryz.func223.trans (congrArg some (by kernel_rfl))
 f49:=⟨Tryz.f260.name,by decide,Tryz.func260.trans (congrArg some (by kernel_rfl))⟩
 f50:=⟨Tryz.f261.name,by decide,Tryz.func261.trans (congrArg some (by kernel_rfl))⟩
 f57:=⟨Tryz.f279.name,by decide,Tryz.func279.trans (congrArg some (by kernel_rfl))⟩
 t0:=Tryz.underlying0
 a0:=Tryz.isAgg0
 z0:=Tryz.sizeOf0
 v0:=Tryz.zeroValue0
 t3:=Tryz.underlying3
 a3:=Tryz.isAgg3
 z3:=Tryz.sizeOf3
 v3:=Tryz.zeroValue3
 t4:=Tryz.underlying4
 a4:=Tryz.isAgg4
 z4:=Tryz.sizeOf4
 v4:=Tryz.zeroValue4
 t5:=Tryz.underlying5
 a5:=Tryz.isAgg5
 z5:=Tryz.sizeOf5
 v5:=Tryz.zeroValue5
 t9:=Tryz.underlying9
 a9:=Tryz.isAgg9
 z9:=Tryz.sizeOf9
 v9:=Tryz.zeroValue9
 t22:=Tryz.underlying32
 a22:=Tryz.isAgg32
 z22:=Tryz.sizeOf32
 v22:=Tryz.zeroValue32
 t25:=Tryz.underlying171
 a25:=Tryz.isAgg171
 z25:=Tryz.sizeOf171
 v25:=Tryz.zeroValue171
 t39:=Tryz.underlying168
 a39:=Tryz.isAgg168
 z39:=Tryz.sizeOf168
 v39:=Tryz.zeroValue168
 t45:=Tryz.underlying214
 a45:=Tryz.isAgg214
 z45:=Tryz.sizeOf214
 v45:=Tryz.zeroValue214
 t46:=Tryz.underlying215
 a46:=Tryz.isAgg215
 z46:=Tryz.sizeOf215
 v46:=Tryz.zeroValue215
 t50:=Tryz.underlying193
 a50:=Tryz.isAgg193
 z50:=Tryz.sizeOf193
 v50:=Tryz.zeroValue193
 t53:=Tryz.underlying221
 a53:=Tryz.isAgg221
 z53:=Tryz.sizeOf221
 v53:=Tryz.zeroValue221
 t55:=Tryz.underlying223
 a55:=Tryz.isAgg223
 z55:=Tryz.sizeOf223
 v55:=Tryz.zeroValue223
 t66:=Tryz.underlying258
 a66:=Tryz.isAgg258
 z66:=Tryz.sizeOf258
 v66:=Tryz.zeroValue258
 t70:=Tryz.underlying262
 a70:=Tryz.isAgg262
 z70:=Tryz.sizeOf262
 v70:=Tryz.zeroValue262
 t76:=Tryz.underlying286
 a76:=Tryz.isAgg286
 z76:=Tryz.sizeOf286
 v76:=Tryz.zeroValue286
 t77:=Tryz.underlying287
 a77:=Tryz.isAgg287
 z77:=Tryz.sizeOf287
 v77:=Tryz.zeroValue287}
def Tryz.lySortP_ren:Go.Shelf.Ren:=⟨fun|6=>195|15=>110|14=>241|28=>170|29=>171|20=>266|21=>267|22=>268|23=>269|24=>270|25=>271|26=>272|27=>273|46=>284|47=>222|48=>223|49=>285|50=>286|57=>288|n=>n,fun|22=>146|24=>187|25=>241|3=>3|39=>168|0=>0|53=>221|55=>223|4=>4|46=>215|45=>214|50=>193|5=>5|9=>9|66=>258|70=>262|76=>286|77=>287|n=>n,fun|n=>n⟩
theorem Tryz.lySortP:Go.Proofs.SlLaysF0.n6 Tryz.prog Tryz.lySortP_ren:={
 mixed:=by kernel_rfl
 f6:=⟨Tryz.f195.name,by decide,Tryz.func195.trans (congrArg some (by kernel_rfl))⟩
 f14:=⟨Tryz.f241.name,by decide,Tryz.func241.trans (congrArg some (by kernel_rfl))⟩
 f15:=Tryz.func110.trans (congrArg some (by kernel_rfl))
 f20:=⟨Tryz.f266.name,by decide,Tryz.func266.trans (congrArg some (by kernel_rfl))⟩
 f21:=⟨Tryz.f267.name,by decide,Tryz.func267.trans (congrArg some (by kernel_rfl))⟩
 f22:=⟨Tryz.f268.name,by decide,Tryz.func268.trans (congrArg some (by kernel_rfl))⟩
 f23:=⟨Tryz.f269.name,by decide,Tryz.func269.trans (congrArg some (by kernel_rfl))⟩
 f24:=⟨Tryz.f270.name,by decide,Tryz.func270.trans (congrArg some (by kernel_rfl))⟩
 f25:=⟨Tryz.f271.name,by decide,Tryz.func271.trans (congrArg some (by kernel_rfl))⟩
 f26:=⟨Tryz.f272.name,by decide,Tryz.func272.trans (congrArg some (by kernel_rfl))⟩
 f27:=⟨Tryz.f273.name,by decide,Tryz.func273.trans (congrArg some (by kernel_rfl))⟩
 f28:=Tryz.func170.trans (congrArg some (by kernel_rfl))
 f29:=Tryz.func171.trans (congrArg some (by kernel_rfl))
 f46:=⟨Tryz.f284.name,by decide,Tryz.func284.trans (congrArg some (by kernel_rfl))⟩
 f47:=Tryz.func222.trans (congrArg some (by kernel_rfl))
 f48:=Tryz.func223.trans (congrArg some (by kernel_rfl))
 f49:=⟨Tryz.f285.name,by decide,Tryz.func285.trans (congrArg some (by kernel_rfl))⟩
 f50:=⟨Tryz.f286.name,by decide,Tryz.func286.trans (congrArg some (by kernel_rfl))⟩
 f57:=⟨Tryz.f288.name,by decide,Tryz.func288.trans (congrArg some (by kernel_rfl))⟩
 t0:=Tryz.underlying0
 a0:=Tryz.isAgg0
 z0:=Tryz.sizeOf0
 v0:=Tryz.zeroValue0
 t3:=Tryz.underlying3
 a3:=Tryz.isAgg3
 z3:=Tryz.sizeOf3
 v3:=Tryz.zeroValue3
 t4:=Tryz.underlying4
 a4:=Tryz.isAgg4
 z4:=Tryz.sizeOf4
 v4:=Tryz.zeroValue4
 t5:=Tryz.underlying5
 a5:=Tryz.isAgg5
 z5:=Tryz.sizeOf5
 v5:=Tryz.zeroValue5
 t9:=Tryz.underlying9
 a9:=Tryz.isAgg9
 z9:=Tryz.sizeOf9
 v9:=Tryz.zeroValue9
 t22:=Tryz.underlying146
 a22:=Tryz.isAgg146
 z22:=Tryz.sizeOf146
 v22:=Tryz.zeroValue146
 t25:=Tryz.underlying241
 a25:=Tryz.isAgg241
 z25:=Tryz.sizeOf241
 v25:=Tryz.zeroValue241
 t39:=Tryz.underlying168
 a39:=Tryz.isAgg168
 z39:=Tryz.sizeOf168
 v39:=Tryz.zeroValue168
 t45:=Tryz.underlying214
 a45:=Tryz.isAgg214
 z45:=Tryz.sizeOf214
 v45:=Tryz.zeroValue214
 t46:=Tryz.underlying215
 a46:=Tryz.isAgg215
 z46:=Tryz.sizeOf215
 v46:=Tryz.zeroValue215
 t50:=Tryz.underlying193
 a50:=Tryz.isAgg193
 z50:=Tryz.sizeOf193
 v50:=Tryz.zeroValue193
 t53:=Tryz.underlying221
 a53:=Tryz.isAgg221
 z53:=Tryz.sizeOf221
 v53:=Tryz.zeroValue221
 t55:=Tryz.underlying223
 a55:=Tryz.isAgg223
 z55:=Tryz.sizeOf223
 v55:=Tryz.zeroValue223
 t66:=Tryz.underlying258
 a66:=Tryz.isAgg258
 z66:=Tryz.sizeOf258
 v66:=Tryz.zeroValue258
 t70:=Tryz.underlying262
 a70:=Tryz.isAgg262
 z70:=Tryz.sizeOf262
 v70:=Tryz.zeroValue262
 t76:=Tryz.underlying286
 a76:=Tryz.isAgg286
 z76:=Tryz.sizeOf286
 v76:=Tryz.zeroValue286
 t77:=Tryz.underlying287
 a77:=Tryz.isAgg287
 z77:=Tryz.sizeOf287
 v77:=Tryz.zeroValue287}
end Go.Proofs
namespace Go.Proofs.YtdgicngfmfldmaaGreat
open Go Tryz
theorem J4:type_of% (And.intro (And.intro (And.intro (And.intro (And.intro (And.intro @bd8 @dZ6) (And.intro @dY9 @dB4)) (And.intro (And.intro @dZ2 @ed0) (And.intro @dZ0 (And.intro @dZ1 @ed1)))) (And.intro (And.intro (And.intro @ec7 @dJ4) (And.intro @ec8 (And.intro @ec9 @dC6))) (And.intro (And.intro @dA1 @dC7) (And.intro @dC8 (And.intro @eb5 @eb4))))) (And.intro (And.intro (And.intro (And.intro @ed4 @eq1) (And.intro @et5 (And.intro @dB2 @ec3))) (And.intro (And.intro @dB3 @ec4) (And.intro @el3 (And.intro @et4 @cP3)))) (And.intro (And.intro (And.intro @dH4 @cP4) (And.intro @dH5 (And.intro @dH6 @df2))) (And.intro (And.intro @cY2 @cY1) (And.intro @dH3 (And.intro @el5 @el4)))))) (And.intro (And.intro (And.intro (And.intro (And.intro @df1 @el7) (And.intro @el6 (And.intro @ec2 @cK2))) (And.intro (And.intro @dG4 @ek8) (And.intro @cP1 (And.intro @dB1 @de8)))) (And.intro (And.intro (And.intro @ek3 @ek9) (And.intro @dB0 (And.intro @ec1 @dG6))) (And.intro (And.intro @ec0 @ev.eq_1) (And.intro @ev.eq_2 (And.intro @ev.eq_3 @ev.eq_4))))) (And.intro (And.intro (And.intro (And.intro @A5.eq_1 @A5.eq_2) (And.intro @ep8 (And.intro @el1 @ec5))) (And.intro (And.intro @ec6 @List.map_cons.{0,0}) (And.intro @List.map_nil.{0,0} (And.intro @List.map_toArray.{0,0} @bP8.eq_1)))) (And.intro (And.intro (And.intro @bP8.eq_2 @dA7) (And.intro @cv4.eq_1 (And.intro @List.getElem?_toArray.{0} @List.getElem?_cons_zero.{0}))) (And.intro (And.intro @List.getElem?_cons_succ.{0} @Option.bind_some.{0,0}) (And.intro @Option.some.injEq.{0} (And.intro @eB6 @Bool.true_eq_false))))))):=(And.intro (And.intro (And.intro (And.intro (And.intro (And.intro @bd8 @dZ6) (And.intro @dY9 @dB4)) (And.intro (And.intro @dZ2 @ed0) (And.intro @dZ0 (And.intro @dZ1 @ed1)))) (And.intro (And.intro (And.intro @ec7 @dJ4) (And.intro @ec8 (And.intro @ec9 @dC6))) (And.intro (And.intro @dA1 @dC7) (And.intro @dC8 (And.intro @eb5 @eb4))))) (And.intro (And.intro (And.intro (And.intro @ed4 @eq1) (And.intro @et5 (And.intro @dB2 @ec3))) (And.intro (And.intro @dB3 @ec4) (And.intro @el3 (And.intro @et4 @cP3)))) (And.intro (And.intro (And.intro @dH4 @cP4) (And.intro @dH5 (And.intro @dH6 @df2))) (And.intro (And.intro @cY2 @cY1) (And.intro @dH3 (And.intro @el5 @el4)))))) (And.intro (And.intro (And.intro (And.intro (And.intro @df1 @el7) (And.intro @el6 (And.intro @ec2 @cK2))) (And.intro (And.intro @dG4 @ek8) (And.intro @cP1 (And.intro @dB1 @de8)))) (And.intro (And.intro (And.intro @ek3 @ek9) (And.intro @dB0 (And.intro @ec1 @dG6))) (And.intro (And.intro @ec0 @ev.eq_1) (And.intro @ev.eq_2 (And.intro @ev.eq_3 @ev.eq_4))))) (And.intro (And.intro (And.intro (And.intro @A5.eq_1 @A5.eq_2) (And.intro @ep8 (And.intro @el1 @ec5))) (And.intro (And.intro @ec6 @List.map_cons.{0,0}) (And.intro @List.map_nil.{0,0} (And.intro @List.map_toArray.{0,0} @bP8.eq_1)))) (And.intro (And.intro (And.intro @bP8.eq_2 @dA7) (And.intro @cv4.eq_1 (And.intro @List.getElem?_toArray.{0} @List.getElem?_cons_zero.{0}))) (And.intro (And.intro @List.getElem?_cons_succ.{0} @Option.bind_some.{0,0}) (And.intro @Option.some.injEq.{0} (And.intro @eB6 @Bool.true_eq_false)))))))
theorem O4:type_of% (And.intro (And.intro (And.intro (And.intro @Option.map_some.{0,0} (And.intro @Option.map_none.{0,0} @Int.toNat_zero)) (And.intro (And.intro @Option.isNone_none.{0} @Option.isNone_some.{0}) (And.intro @J8 @bz6.eq_1))) (And.intro (And.intro @bz6.eq_2 (And.intro @cL9.eq_1 @aX2.eq_1)) (And.intro (And.intro @aX2.eq_2 @cz2.eq_1) (And.intro @cz1.eq_1 @TY)))) (And.intro (And.intro (And.intro @Option.isSome_some.{0} (And.intro @eE6 @Bool.and_true)) (And.intro (And.intro @eE8 @ex8) (And.intro @ek0 @Int.cast_ofNat_Int))) (And.intro (And.intro @decide_true (And.intro @add_lit @ey7)) (And.intro (And.intro @Nat.zero_mul @Nat.one_mul) (And.intro @Bool.not_true @Bool.not_false))))):=(And.intro (And.intro (And.intro (And.intro @Option.map_some.{0,0} (And.intro @Option.map_none.{0,0} @Int.toNat_zero)) (And.intro (And.intro @Option.isNone_none.{0} @Option.isNone_some.{0}) (And.intro @J8 @bz6.eq_1))) (And.intro (And.intro @bz6.eq_2 (And.intro @cL9.eq_1 @aX2.eq_1)) (And.intro (And.intro @aX2.eq_2 @cz2.eq_1) (And.intro @cz1.eq_1 @TY)))) (And.intro (And.intro (And.intro @Option.isSome_some.{0} (And.intro @eE6 @Bool.and_true)) (And.intro (And.intro @eE8 @ex8) (And.intro @ek0 @Int.cast_ofNat_Int))) (And.intro (And.intro @decide_true (And.intro @add_lit @ey7)) (And.intro (And.intro @Nat.zero_mul @Nat.one_mul) (And.intro @Bool.not_true @Bool.not_false)))))
def bj0(n m:Int):Int:=if m<1 then 0 else if n.tmod m<0 then n.tmod m+m else n.tmod m
theorem cO6(n m:Int)(w:World)(hm1:m≤1000000000):Calls prog 40 #[.int .i64 n,.int .i64 m] w fun e w'=>∃v,e = .returned v∧(v = .int .i64 (bj0 n m)∧w'=w):=by
 refine d9 (args:=[.int .i64 n,.int .i64 m]) hm func40 rfl (by kernel_rfl) (by show 2≤_;decide +kernel) ?_;simp only[J4,O4,B7,E7,simprocAttr];refine i5 (fun h=>?_) (fun h=>?_)
 ·simp only[J4,simprocAttr];refine n7 results40 ?_;simp only[p6,simprocAttr];have h':m<1:=by simpa using h
  exact⟨by rw[bj0,if_pos h'],by trivial⟩
 ·have h':¬m<1:=by simpa using h
  have h0:¬m=0:=by omega
  simp only[J4,B7,E7,simprocAttr,h0];refine i5 (fun h2=>?_) (fun h2=>?_)
  ·have h2':n.tmod m<0:=by simpa using h2
   have h3 : -m<n.tmod m:=by have:=Int.lt_tmod_of_pos n (show 0<m by omega);omega
   have hw:IntKind.i64.wrap (n.tmod m+m)=n.tmod m+m:=K1 _ (by omega);simp only[J4,B7,E7,simprocAttr,hw];refine n7 results40 ?_;simp only[p6,simprocAttr];exact⟨by rw[bj0,if_neg h',if_pos h2'],by trivial⟩
  ·have h2':¬n.tmod m<0:=by simpa using h2
   simp only[J4,simprocAttr];refine n7 results40 ?_;simp only[p6,simprocAttr];exact⟨by rw[bj0,if_neg h',if_neg h2'],by trivial⟩
theorem ad0:F2 prog 118 3 1 8=true:=by kernel_rfl
theorem bp9:F2 prog 151 4 1 1=true:=by kernel_rfl
theorem dI8:F2 prog 72 74 2 16=true:=by kernel_rfl
theorem bV6:F2 prog 155 118 1 24=true:=by kernel_rfl
theorem bg7{α β:Type}(g:β→α→β)(b:β)(l:List α)(k:Nat)(hk:k<l.length):(l.take (k+1)).foldl g b=g ((l.take k).foldl g b) l[k]:=by
 rw[ew1 hk,List.foldl_append];rfl
def Y9(l:List Bool)(k:Nat):List Int:=((List.range k).filter fun i=>l[i]?.getD false).map fun(i:Nat)=>(i:Int)
theorem aO6(l:List Bool)(k:Nat):Y9 l (k+1)=if l[k]?.getD false then Y9 l k++[(k:Int)]else Y9 l k:=by
 unfold Y9;rw[eG0,eC6,ey5];by_cases h:l[k]?.getD false=true<;>simp[h]
theorem bJ0(l:List Bool)(k:Nat):(Y9 l k).length≤k:=by
 unfold Y9;rw[ew3];exact ew0 (ey2 _ _) (by simp)
theorem bT9(v:Value)(l:List Bool)(w:World)(hv:R (d7 w) v l)(hl:l.length≤1000000):Calls prog 191 #[v] w fun e w'=>∃u,e = .returned u∧(A9 (d7 w) w' 3 u (Y9 l l.length)∧o6 w w'):=by
 refine d9 (args:=[v]) hm func191 rfl (by kernel_rfl) (by show 1≤_;decide +kernel) ?_;have hS:=hv.isS;have hn:=hv.vlen;simp only[J4,O4,T6,simprocAttr,hS,hn];refine n8 [6,7] (σ:=Nat) (fun k f w'=>f 8 = .int .i64 k∧k≤l.length∧A9 (d7 w) w' 3 (f 3) (Y9 l k)∧o6 w w') (fun k=>l.length-k) 0 (by decide +kernel) ?_ ?_
 ·simp only[p6,simprocAttr];exact⟨by trivial,ew4 _,A9.nil _ _ _,o9.refl _⟩
 ·rintro k f w' hk ⟨h8,hkl,ho,hx⟩;simp only[ev4,p6,simprocAttr]at hk;obtain⟨e6,e7,_⟩:=hk;simp only[J4,B7,E7,simprocAttr,h8,e7];refine i5 (fun hc=>?_) (fun hc=>?_)
  ·have hlt:k<l.length:=by simpa using hc
   have hin:=hv.inS hlt;have hld:=M8 (P:=prog) (t:=4) hv (b7 hx) (ev2 hlt) ao9;simp only[J4,O4,p9,G7.val,simprocAttr,h8,e6,hin,hld];refine i5 (fun hc2=>?_) (fun hc2=>?_)
   ·have hlen:=bJ0 l k;obtain⟨h1,u',w2,h2,h3,h4,h5⟩:=push (e:=118) ad0 rfl ho (x:=.int .i64 k) (y:=(k:Int)) rfl (by omega) (by omega) (b7 hx);simp only[Value.cells]at h1 h2;simp only[J4,B7,E7,simprocAttr,h8,h1,h2];refine⟨k+1,by omega,by rw[B1 k (by omega)],by omega,?_,ho.ext2 hx h4⟩;rw[aO6,if_pos (by simp[hlt,hc2])];exact h3
   ·simp only[J4,B7,E7,simprocAttr,h8];refine⟨k+1,by omega,by rw[B1 k (by omega)],by omega,?_,hx⟩;rw[aO6,if_neg (by simp[hlt,hc2])];exact ho
  ·have hge:k=l.length:=by simp at hc;omega
   subst hge;simp only[J4,simprocAttr];refine n7 results191 ?_;simp only[p6,simprocAttr];exact⟨ho,hx⟩
theorem cY5(w:World)(a b:Int):
  (Instr.alloc 74 true (.tuple #[])).run prog w = .ok (.pointer (some ⟨w.heap.size,0,none⟩)) (w.alloc (.cells #[.int .i64 0,.int .i64 0] 74)) ∧
  (Instr.storeAt 74 (.pointer (some ⟨w.heap.size,0,none⟩)) (.agg #[.int .i64 a,.int .i64 b])).run prog (w.alloc (.cells #[.int .i64 0,.int .i64 0] 74)) =
   .ok () (w.alloc (.cells #[.int .i64 a,.int .i64 b] 74)):=
 aT9 (P:=prog) (T:=74) da3 (by rw[bO1];rfl) (cs:=#[.int .i64 a,.int .i64 b]) (by rw[bO1];rfl) (by simp[Value.oneCell'])
theorem cY3(w:World)(a b:Int):(Instr.loadAt 3 (.pointer (some ⟨w.heap.size,0,none⟩))).run prog (w.alloc (.cells #[.int .i64 a,.int .i64 b] 74)) = .ok (.int .i64 a) (w.alloc (.cells #[.int .i64 a,.int .i64 b] 74)):=
 cy7 (by rfl) G3
theorem cY4(w:World)(a b:Int):(Instr.loadAt 3 (.pointer (some ⟨w.heap.size,1,none⟩))).run prog (w.alloc (.cells #[.int .i64 a,.int .i64 b] 74)) = .ok (.int .i64 b) (w.alloc (.cells #[.int .i64 a,.int .i64 b] 74)):=
 cy7 (by rfl) G3
theorem ldP{h:Hp}{w:World}{v:Value}{xs:List (Int×Int)}(hr:R h v xs)(hw:B4 h (d7 w)){k:Nat}{x:Int×Int}(hk:xs[k]?=some x):
  (Instr.loadAt 74 (.pointer (some (H4 v (k*2))))).run prog w = .ok (.agg #[.int .i64 x.1,.int .i64 x.2]) w:=
 cc4 hr hw hk cG6 cI1 cG7 bO1
def aW3(n:Nat)(e:Int×Int):Prop:=0≤e.1∧e.1<n∧0≤e.2∧e.2<n
end Go.Proofs.YtdgicngfmfldmaaGreat
namespace Go.Proofs
open Go.Shelf
def Tryz.layI_ren:Go.Shelf.Ren:=⟨fun|21=>264|27=>282|28=>283|35=>287|39=>289|n=>n,fun|22=>118|3=>3|4=>4|0=>0|n=>n,fun|n=>n⟩
theorem Tryz.layI:Go.Proofs.Lays2.n21 Tryz.prog Tryz.layI_ren:={
 mixed:=by kernel_rfl
 f21:=Tryz.func264.trans (congrArg some (by kernel_rfl))
 f27:=Tryz.func282.trans (congrArg some (by kernel_rfl))
 f28:=Tryz.func283.trans (congrArg some (by kernel_rfl))
 f35:=Tryz.func287.trans (congrArg some (by kernel_rfl))
 f39:=Tryz.func289.trans (congrArg some (by kernel_rfl))
 t0:=Tryz.underlying0
 a0:=Tryz.isAgg0
 z0:=Tryz.sizeOf0
 v0:=Tryz.zeroValue0
 t3:=Tryz.underlying3
 a3:=Tryz.isAgg3
 z3:=Tryz.sizeOf3
 v3:=Tryz.zeroValue3
 t4:=Tryz.underlying4
 a4:=Tryz.isAgg4
 z4:=Tryz.sizeOf4
 v4:=Tryz.zeroValue4
 t22:=Tryz.underlying118
 a22:=Tryz.isAgg118
 z22:=Tryz.sizeOf118
 v22:=Tryz.zeroValue118
 i3:=by kernel_rfl}
def Tryz.layB_ren:Go.Shelf.Ren:=⟨fun|25=>263|31=>280|32=>281|37=>142|n=>n,fun|22=>118|3=>3|4=>4|40=>168|0=>0|n=>n,fun|n=>n⟩
theorem Tryz.layB:Go.Proofs.Lays2.n25 Tryz.prog Tryz.layB_ren:={
 mixed:=by kernel_rfl
 f25:=Tryz.func263.trans (congrArg some (by kernel_rfl))
 f31:=Tryz.func280.trans (congrArg some (by kernel_rfl))
 f32:=Tryz.func281.trans (congrArg some (by kernel_rfl))
 f37:=Tryz.func142.trans (congrArg some (by kernel_rfl))
 t0:=Tryz.underlying0
 a0:=Tryz.isAgg0
 z0:=Tryz.sizeOf0
 v0:=Tryz.zeroValue0
 t3:=Tryz.underlying3
 a3:=Tryz.isAgg3
 z3:=Tryz.sizeOf3
 v3:=Tryz.zeroValue3
 t4:=Tryz.underlying4
 a4:=Tryz.isAgg4
 z4:=Tryz.sizeOf4
 v4:=Tryz.zeroValue4
 t22:=Tryz.underlying118
 a22:=Tryz.isAgg118
 z22:=Tryz.sizeOf118
 v22:=Tryz.zeroValue118
 t40:=Tryz.underlying168
 a40:=Tryz.isAgg168
 z40:=Tryz.sizeOf168
 v40:=Tryz.zeroValue168}
end Go.Proofs
namespace Go.Proofs.YtdgicngfmfldmaaGreat
open Go Tryz
def L0(l:List Int):List Value:=l.map (Value.int .i64)
theorem K9{h:Hp}:∀{l:List Int} {cs:List Value},N0 h cs l↔cs=L0 l
 | [],cs=>eC0
 | x::l,cs=>by
  constructor
  ·rintro⟨c1,c2,rfl,h1,h2⟩;have h1':c1=[.int .i64 x]:=h1;rw[h1',K9.1 h2];rfl
  ·rintro rfl;exact⟨[.int .i64 x],L0 l,rfl,rfl,K9.2 rfl⟩
theorem bI7(l:List Int):∀v∈L0 l,v.oneCell'=true:=by
 intro v hv;obtain⟨x,_,rfl⟩:=ey0.1 hv;rfl
theorem cx9{l:List Int}{j:Nat}(hj:j<l.length):(L0 l)[j]?=some (.int .i64 (l.getD j 0)):=by
 simp[L0,ey8,ev2 hj,List.getD]
theorem T3{b:Nat}{T:TypeId}:∀(vs:List Value) (off:Nat) (w:World) (cur:Array Value),w.heap[b]?=some (.cells cur T (0,0))→off+vs.length≤cur.size →
  (w.setCells b off vs).heap[b]?=some (.cells (cur.toList.take off++vs++cur.toList.drop (off+vs.length)).toArray T (0,0))
 | [],off,w,cur,hb,_=>by simp[World.setCells,hb]
 | v::vs,off,w,cur,hb,hl=>by
  simp only[ex7]at hl;have h1:=heap_setCell_same w b off cur T v hb;rw[World.setCells,T3 vs (off+1) _ _ h1 (by simp;omega)];have hlen:cur.toList.length=cur.size:=by simp
  simp only[Array.toList_setIfInBounds,ex7]
  congr 3
  rw[List.take_set,ew1 (by omega),List.set_append_right (h:=by simp;omega)];have e1:off-(cur.toList.take off).length=0:=by simp;omega
  rw[e1,List.drop_set_of_lt (by omega)];simp[ex9,eE5,Nat.add_comm 1]
theorem W3{b:Nat}{M:Nat→Prop}(hM:M b):∀(vs:List Value) (off:Nat) (w:World),o9 M w (w.setCells b off vs)
 | [],_,w=>o9.refl w
 | v::vs,off,w=>(o9.setCell w ⟨b,off,none⟩ v hM).trans (W3 hM vs (off+1) _)
theorem o9.drew{M:Nat→Prop}(w:World):o9 M w w.drew:=(o6.drew w).weaken fun _ _ h=>h.elim
theorem o9.alloc{M:Nat→Prop}(w:World)(o:Obj):o9 M w (w.alloc o):=(o6.alloc w o).weaken fun _ _ h=>h.elim
theorem o9.drewN{M:Nat→Prop}(w:World)(q:Nat):o9 M w (w.drewN q):=⟨rfl,rfl,rfl,ew8 _,fun _ _ _=>rfl⟩
section
variable {h:Hp} {w:World} {v:Value} {l:List Int}
theorem bK4(ho:A9 h w 3 v l):(v = .slice none 0 0∧l=[])∨∃b c cur,v = .slice (some ⟨b,0,none⟩) l.length c∧h b=none∧w.heap[b]?=some (.cells cur 3 (0,0))∧l.length≤c∧c≤maxLen∧cur.size=c∧cur.toList.take l.length=L0 l:=by
 rcases ho with hn|⟨b,c,cur,e,h1,h2,h3,h4,h5,h6⟩
 ·exact .inl hn
 ·refine .inr ⟨b,c,cur,e,h1,h2,h3,h4,by simpa[z7.sz]using h5,?_⟩;have:=K9.1 h6;have h7:l.length*z7.sz Int=l.length:=eE8 _;rw[h7]at this;exact this
theorem aZ5{b c:Nat}{cur:Array Value}(h1:h b=none)(h2:w.heap[b]?=some (.cells cur 3 (0,0)))(h3:l.length≤c)(h4:c≤maxLen)(h5:cur.size=c)(h6:cur.toList.take l.length=L0 l):
  A9 h w 3 (.slice (some ⟨b,0,none⟩) l.length c) l:=by
 refine .inr ⟨b,c,cur,rfl,h1,h2,h3,h4,by rw[h5];exact(eE8 c).symm,?_⟩;have h7:l.length*z7.sz Int=l.length:=eE8 _;rw[h7,h6];exact K9.2 rfl
theorem de3:(Tryz.layI_ren.f 21)=264:=by kernel_rfl
theorem de2:(Tryz.layB_ren.f 25)=263:=by kernel_rfl
theorem bi3:(Tryz.layI_ren.t 3)=3:=by kernel_rfl
theorem bk7(x:Int)(ho:A9 h w 3 v l)(hl:l.length≤1000000000)(hs:l.Pairwise (· ≤ ·)):
  Calls prog 263 #[v,.int .i64 x] w fun e w'=>∃u,e = .returned u∧(u = .tuple #[.int .i64 (l.countP (· < x):Nat),.bool (l.contains x)]∧o6 w w'):=by
 rw[←de2];rcases bK4 ho with⟨rfl,rfl⟩|⟨b,c,cur,rfl,h1,h2,h3,h4,h5,h6⟩
 ·refine(Any.slices_BinarySearch_int_empty Tryz.layB none 0 x w).mono ?_;rintro e w' ⟨rfl,rfl⟩;exact⟨_,rfl,rfl,o9.refl _⟩
 ·refine(Any.slices_BinarySearch_int Tryz.layB b 0 l.length c l x w (ew8 _) (by omega) ?_ (by rw[ew5];exact hs)).mono ?_
  ·intro j hj;rw[ey7,eC4 w b j cur _ (0,0) h2];have:=cx9 hj;rw[←h6,eF1,if_pos hj]at this;simpa using this
  ·rintro e w' ⟨rfl,q,rfl⟩;rw[ew5];exact⟨_,rfl,rfl,o9.drewN _ _⟩
theorem bi0(x:Int)(i c1:Nat)(w0:World)(hw0:w=w0.alloc (.cells #[.int .i64 x] 3))(ho:A9 h w0 3 v l)(hi:i≤l.length)(hl:l.length≤1000000000)(hw:B4 h (d7 w0)):
  Calls prog 264 #[v,.int .i64 i,.slice (some ⟨w0.heap.size,0,none⟩) 1 c1] w fun e w'=>∃u,e = .returned u∧(A9 h w' 3 u (l.take i++x::l.drop i)∧o9 (A3 v) w0 w'∧F1 w0 v u):=by
 rw[←de3];have hm0:o9 (A3 v) w0 w:=by rw[hw0];exact o9.alloc _ _
 have hnb:w.heap[w0.heap.size]?=some (.cells #[.int .i64 x] 3 (0,0)):=by rw[hw0];exact ez5 w0 _
 have hsz:w.heap.size=w0.heap.size+1:=by rw[hw0];simp
 have hvs:∀(j:Nat) (u:Value),[Value.int .i64 x][j]?=some u→w.cell? ⟨w0.heap.size,0+j,none⟩=some u:=by
  intro j u hj;rw[ey7,eC4 w _ j _ _ (0,0) hnb];simpa using hj
 have h1v:∀v∈[Value.int .i64 x],v.oneCell'=true:=by simp[Value.oneCell']
 have hE:o6 w0 w:=by rw[hw0];exact o6.alloc _ _
 have how:A9 h w 3 v l:=ho.ext hE;have hww:B4 h (d7 w):=p8 hw (b7 hE);have fresh:∀(w':World) (cells:Array Value) (n c:Nat),o6 w w'→w'.heap[w.heap.size]?=some (.cells cells 3 (0,0))→n=l.length+1→n≤c→c≤maxLen→cells.size=c →
   cells.toList.take n=L0 (l.take i++x::l.drop i) →
   A9 h w' 3 (.slice (some ⟨w.heap.size,0,none⟩) n c) (l.take i++x::l.drop i)∧o9 (A3 v) w0 w'∧F1 w0 v (.slice (some ⟨w.heap.size,0,none⟩) n c):=by
  intro w' cells n c he hh hn hc hcm hs hcl;have hlen:(l.take i++x::l.drop i).length=n:=by simp;omega
  refine⟨?_,hm0.trans (he.weaken fun _ _ h=>h.elim),fun b hb=>by simp[A3,Value.ownBlock]at hb;exact .inr (by omega)⟩;have:=aZ5 (h:=h) (w:=w') (l:=l.take i++x::l.drop i) (av4 hww (ew8 _)) hh (by omega) hcm hs (by rw[hlen];exact hcl);rw[hlen]at this;exact this
 rcases bK4 how with⟨rfl,rfl⟩|⟨b,c,cur,rfl,h1,h2,h3,h4,h5,h6⟩
 ·have hi0:i=0:=by simpa using hi
  subst hi0;refine(Any2.slices_Insert_int_end_grow Tryz.layI none 0 0 w0.heap.size 0 1 c1 [] [.int .i64 x] w (by omega) (by omega) (by omega) (by omega) rfl rfl (fun _=>rfl) (fun a ha=>by cases ha) hvs h1v).mono ?_;rintro e w' ⟨rfl,rfl⟩;refine⟨_,rfl,fresh _ _ _ _ ((o6.drew w).trans (o6.alloc _ _)) (by rw[bi3];exact ez5 w.drew _) rfl (grownCap_ge _ _ _ _) (grownCap_le_maxLen _ _ _ _ (by decide)) ?_ ?_⟩
  ·have:=grownCap_ge w 1 0 (Tryz.layI_ren.t 3);rw[bi3]at this ⊢;simp[size_zeroCells,Value.cells]at this ⊢;omega
  ·simp[L0]
 ·have hcs:(L0 l).length=l.length:=by simp[L0]
  have hcell:∀j,w.cell? ⟨b,j,none⟩=cur[j]?:=fun j=>eC4 w b j cur _ (0,0) h2;have hcells:∀(j:Nat) (u:Value),(L0 l)[j]?=some u→w.cell? ⟨b,0+j,none⟩=some u:=by
   intro j u hj;rw[ey7,hcell];rw[←h6,eF1]at hj;split at hj
   ·simpa using hj
   ·cases hj
  have hsome:∀j,j<c→(w.cell? ⟨b,0+j,none⟩).isSome=true:=by
   intro j hj;rw[ey7,hcell];simp[h5,hj]
  have hfz:∀j,w.frozen? ⟨b,j,none⟩=false:=fun j=>by simp[World.frozen?,h2]
  have hcl:cur.toList.length=c:=by simpa using h5
  have hbne:w0.heap.size≠b:=by
   intro e;have:=ho.lt (b:=b) (by simp[A3,Value.ownBlock]);omega
  have inplace:∀(w':World) (cells:Array Value),o9 (fun k=>k=b) w w'→w'.heap[b]?=some (.cells cells 3 (0,0))→l.length+1≤c→cells.size=c →
    cells.toList.take (l.length+1)=L0 (l.take i++x::l.drop i) →
    A9 h w' 3 (.slice (some ⟨b,0,none⟩) (l.length+1) c) (l.take i++x::l.drop i)∧o9 (A3 (.slice (some ⟨b,0,none⟩) l.length c)) w0 w'∧F1 w0 (.slice (some ⟨b,0,none⟩) l.length c) (.slice (some ⟨b,0,none⟩) (l.length+1) c):=by
   intro w' cells hm hh hc hs hcl;have hlen:(l.take i++x::l.drop i).length=l.length+1:=by simp;omega
   refine⟨?_,hm0.trans (hm.weaken fun k _ hk=>by simp[A3,Value.ownBlock,hk]),fun k hk=>.inl (by simpa[A3,Value.ownBlock]using hk)⟩;have:=aZ5 (h:=h) (w:=w') (l:=l.take i++x::l.drop i) (c:=c) h1 hh (by omega) h4 hs (by rw[hlen];exact hcl);rw[hlen]at this;exact this
  have hsplit:L0 (l.take i++x::l.drop i)=(L0 l).take i ++ .int .i64 x::(L0 l).drop i:=by simp[L0]
  by_cases hin:i=l.length
  ·subst hin;by_cases hroom:l.length+1≤c
   ·refine(Any2.slices_Insert_int_end_room Tryz.layI b 0 l.length c w0.heap.size 0 1 c1 [.int .i64 x] w (by omega) hroom h4 rfl (fun j hj=>?_) (fun j hj=>hfz _) hvs h1v).mono ?_
    ·rw[ey7];have:=hsome (l.length+j) (by omega)
     rwa [ey7]at this
    ·rintro e w' ⟨rfl,rfl⟩;have hh:=T3 [Value.int .i64 x] (0+l.length) w cur h2 (by simp;omega);refine⟨_,rfl,inplace _ _ (W3 (M:=fun k=>k=b) rfl _ _ _) hh hroom ?_ ?_⟩
     ·simp[h5];omega
     ·rw[hsplit,ey7,h6];have e1:(L0 l).take l.length=L0 l:=by rw[←hcs,ew5]
      have e2:(L0 l).drop l.length=[]:=by rw[←hcs,eF2]
      rw[e1,e2];have e6:(L0 l++[Value.int .i64 x]).length=l.length+1:=by simp[hcs]
      simp only[];rw[←e6,eE4]
   ·refine(Any2.slices_Insert_int_end_grow Tryz.layI (some ⟨b,0,none⟩) l.length c w0.heap.size 0 1 c1 (L0 l) [.int .i64 x] w (by omega) h3 (by omega) (by omega) hcs rfl (fun h=>by cases h) (fun a ha j u hj=>?_) hvs h1v).mono ?_
    ·obtain rfl:=ex1 ha;rw[Addr.add_lit];exact hcells j u hj
    ·rintro e w' ⟨rfl,rfl⟩;have hg:=grownCap_ge w (l.length+1) c (Tryz.layI_ren.t 3);refine⟨_,rfl,fresh _ _ _ _ ((o6.drew w).trans (o6.alloc _ _)) (by rw[bi3];exact ez5 w.drew _) rfl hg (grownCap_le_maxLen _ _ _ _ (by simp only[maxLen];omega)) ?_ ?_⟩
     ·rw[bi3]at hg ⊢;simp[size_zeroCells,Value.cells,hcs]at hg ⊢;omega
     ·rw[hsplit];have e1:(L0 l).take l.length=L0 l:=by rw[←hcs,ew5]
      have e2:(L0 l).drop l.length=[]:=by rw[←hcs,eF2]
      rw[e1,e2];simp only[Array.toList_append];rw[eD9 (by simp[hcs])];rw[ez7 (by simp[hcs])]
  ·have hlt:i<l.length:=by omega
   by_cases hroom:l.length+1≤c
   ·refine(Any2.slices_Insert_int_shift Tryz.layI b 0 l.length c i w0.heap.size 0 1 c1 (L0 l) [.int .i64 x] w hlt (by omega) hroom h4 hbne hcs rfl hcells (fun j hj=>hsome j (by omega)) (fun j _=>hfz _) hvs (bI7 l) h1v
     3 3 1 c (by simp[World.shape?,hnb]) (by simp[World.shape?,h2,h5]) (by omega) (by simp[World.frozen?,hnb]) (by simp[World.frozen?,hnb])).mono ?_
    rintro e w' ⟨rfl,rfl⟩;have hd:((L0 l).drop i).length=l.length-i:=by simp[hcs]
    have hh1:=T3 ((L0 l).drop i) (0+(i+1)) w.drew cur h2 (by rw[hd];omega);have hh2:=T3 [Value.int .i64 x] (0+i) _ _ hh1 (by simp[hd];omega);refine⟨_,rfl,inplace _ _ ((o9.drew w).trans ((W3 (M:=fun k=>k=b) rfl _ _ _).trans (W3 (M:=fun k=>k=b) rfl _ _ _))) hh2 hroom ?_ ?_⟩
    ·simp[hd];omega
    ·rw[hsplit];simp only[ey7,ey3];have e1:(L0 l).take i=cur.toList.take i:=by rw[←h6,List.take_take];congr 1;omega
     have e3:(cur.toList.take (i+1)).length=i+1:=by rw[ew6,hcl];omega
     have e4:(cur.toList.take (i+1)++(L0 l).drop i++cur.toList.drop (i+1+((L0 l).drop i).length)).take i=cur.toList.take i:=by
      rw[ex9,eD9 (by omega),List.take_take];congr 1;omega
     have e5:(cur.toList.take (i+1)++(L0 l).drop i++cur.toList.drop (i+1+((L0 l).drop i).length)).drop (i+1)=(L0 l).drop i++cur.toList.drop (i+1+((L0 l).drop i).length):=by
      rw[ex9,List.drop_append_of_le_length (by omega),List.drop_of_length_le (by omega),eG1]
     rw[e4,e5,e1];have e6:(cur.toList.take i++[Value.int .i64 x]++(L0 l).drop i).length=l.length+1:=by simp[hcs];omega
     rw[←ex9,←e6,eE4];simp
   ·refine(Any2.slices_Insert_int_grow Tryz.layI b 0 l.length c i w0.heap.size 0 1 c1 (L0 l) [.int .i64 x] w hlt (by omega) h3 (by omega) (by omega) hcs rfl hcells hvs (bI7 l) h1v).mono ?_;rintro e w' ⟨rfl,rfl⟩;have hg:=grownCap_ge w (l.length+1) c (Tryz.layI_ren.t 3);have hgm:=grownCap_le_maxLen w (l.length+1) c (Tryz.layI_ren.t 3) (by simp only[maxLen];omega);generalize grownCap w (l.length+1) c (Tryz.layI_ren.t 3)=cap at hg hgm;have hzc:(Value.int .i64 0).cells.size=1:=rfl;generalize hcv:((L0 l).take i).toArray++Builtin.zeroCells (Value.int .i64 0).cells (l.length+1-i)++Builtin.zeroCells (Value.int .i64 0).cells (cap-(l.length+1))=cv;have hcvs:cv.size=cap:=by
     rw[←hcv];simp[size_zeroCells,hzc,hcs];omega
    have hcvt:cv.toList.take i=(L0 l).take i:=by
     rw[←hcv];simp only[Array.toList_append,ex9];rw[eD9 (by simp[hcs];omega),ez7 (by simp;omega)]
    have hcvl:cv.toList.length=cap:=by simpa using hcvs
    have hh0:((w.alloc (.cells cv (Tryz.layI_ren.t 3))).drew).heap[w.heap.size]?=some (.cells cv 3 (0,0)):=by rw[bi3];exact ez5 w _
    have hd:((L0 l).drop i).length=l.length-i:=by simp[hcs]
    have hh1:=T3 [Value.int .i64 x] i _ _ hh0 (by simp;omega);have hh2:=T3 ((L0 l).drop i) (i+1) _ _ (show((((w.alloc (.cells cv (Tryz.layI_ren.t 3))).drew).setCells w.heap.size i [Value.int .i64 x]).drew).heap[w.heap.size]?=_ from hh1) (by simp[hd];omega);refine⟨_,rfl,fresh _ _ _ _ ?_ hh2 rfl hg hgm ?_ ?_⟩
    ·refine o9.ext_of (o6.alloc w (.cells cv (Tryz.layI_ren.t 3))) (M:=fun k=>k=w.heap.size) ?_ (fun k hk=>by omega);exact(o9.drew _).trans ((W3 (M:=fun k=>k=w.heap.size) rfl _ _ _).trans ((o9.drew _).trans (W3 (M:=fun k=>k=w.heap.size) rfl _ _ _)))
    ·simp[hd];omega
    ·rw[hsplit];simp only[ey3];have e3:(cv.toList.take i++[Value.int .i64 x]).length=i+1:=by simp[hcvl];omega
     have e4:(cv.toList.take i++[Value.int .i64 x]++cv.toList.drop (i+1)).take (i+1)=cv.toList.take i++[Value.int .i64 x]:=by
      rw[←e3,eE4]
     rw[e4,hcvt];have e6:((L0 l).take i++[Value.int .i64 x]++(L0 l).drop i).length=l.length+1:=by simp[hcs];omega
     rw[←e6,eE4];simp
end
theorem cO5(v:Value)(x:Int)(l:List Int)(w:World)(hv:R (d7 w) v (x::l))(hl:l.length≤1000000000):
  Calls prog 275 #[v] w fun e w'=>∃u,e = .returned u∧(u = .int .i64 (l.foldl min x)∧w'=w):=by
 refine d9 (args:=[v]) hm func275 rfl (by kernel_rfl) (by show 1≤_;decide +kernel) ?_;have hS:=hv.isS;have hn:=hv.vlen;simp only[ex7]at hn;have h1:decide (((l.length+1:Nat):Int)<1)=false:=by simp;omega
 have hin:=hv.inS (k:=0) (by simp);have hld:=M8 (P:=prog) (t:=3) hv (i4 _) (k:=0) (x:=x) (by rfl) G3;simp only[J4,O4,B7,E7,p9,T6,G7.val,simprocAttr,hS,hn,h1,hin,hld];refine n8 [0] (σ:=Nat) (fun k f w'=>f 4 = .int .i64 ((k+1:Nat):Int)∧k≤l.length∧f 3 = .int .i64 ((l.take k).foldl min x)∧w'=w) (fun k=>l.length-k) 0 (by decide +kernel) ?_ ?_
 ·simp only[p6,simprocAttr];exact⟨by trivial,ew4 _,by simp[],by trivial⟩
 ·rintro k f w' hk ⟨h4,hkl,h3,rfl⟩;simp only[ev4,p6,simprocAttr]at hk;obtain⟨e0,_⟩:=hk;simp only[J4,O4,B7,E7,T6,simprocAttr,h4,e0,hS,hn];refine i5 (fun hc=>?_) (fun hc=>?_)
  ·have hlt:k<l.length:=by simp at hc;omega
   have hin2:=hv.inS (k:=k+1) (by simp;omega);have hld2:=M8 (P:=prog) (t:=3) hv (i4 _) (k:=k+1) (x:=l[k]) (by simp[hlt]) G3;have hst:=bg7 min x l k hlt;simp only[J4,O4,B7,E7,p9,G7.val,simprocAttr,h4,h3,e0,hin2,hld2];have hmin:∀a b:Int,(if b<a then b else a)=min a b:=fun a b=>by
    simp only[Int.min_def];split<;>split<;>omega
   refine⟨k+1,by omega,by rw[B1 (k+1) (by omega)],by omega,by rw[hst,hmin],by trivial⟩
  ·have hge:k=l.length:=by simp at hc;omega
   subst hge;simp only[J4,simprocAttr,h3];refine n7 results275 ?_;simp only[p6,simprocAttr];rw[ew5];exact⟨by trivial,by trivial⟩
theorem bQ5(v:Value)(l:List Int)(w:World)(hv:R (d7 w) v l)(hl:l.length≤1000000000):
  Calls prog 276 #[v] w fun e w'=>∃u,e = .returned u∧(A9 (d7 w) w' 3 u l∧o6 w w'):=by
 refine d9 (args:=[v]) hm func276 rfl (by kernel_rfl) (by show 1≤_;decide +kernel) ?_;have hS:=hv.isS;have hb:B7 prog .eql 118 v (.slice none 0 0)=some (.bool (bJ9 v)):=by
  obtain⟨a,n,c,he,_⟩:=hv;simp at he;subst he;simp[B7,Go.Proofs.YtdgicngfmfldmaaGreat.isS,cH7]
 obtain⟨u0,w0,hb0,ho0,hx0,hf0⟩:=dF6 (P:=prog) (w:=w) (h:=d7 w) (α:=Int) ad0 (i4 _);obtain⟨u1,w1,ha,ho1,hm1,hv1⟩:=an1 (P:=prog) (e:=118) ad0 rfl ho0 hv (by simp;omega) (by simp;omega) (b7 hx0);simp only[J4,simprocAttr,hb];refine i5 (fun hc=>?_) (fun hc=>?_)
 ·simp only[J4,simprocAttr];refine n7 results276 ?_;simp only[p6,simprocAttr];obtain⟨a,n,c,he,hn,hnc,es,hes,hce⟩:=hv;simp at he;subst he;cases a with
  | some a=>simp[bJ9]at hc
  | none=>
   have hes0:es=[]:=by
    cases es with
    | nil=>rfl
    | cons x _=>obtain⟨ad,e,_⟩:=hce 0 x rfl;cases e
   subst hes0;have:=J7 hes;have hl0:l=[]:=by
    cases l with
    | nil=>rfl
    | cons _ _=>simp[z7.sz]at this
   subst hl0;exact⟨A9.nil _ _ _,o9.refl _⟩
 ·simp only[J4,simprocAttr,hb0,ha];refine n7 results276 ?_;simp only[p6,simprocAttr];exact⟨by simpa using ho1,ho0.ext2 hx0 hm1⟩
theorem dc4:af6 prog 142=true:=by kernel_rfl
theorem cx6:af6 prog 95=true:=by kernel_rfl
theorem bh7:af6 prog 96=true:=by kernel_rfl
theorem bh8:af6 prog 97=true:=by kernel_rfl
section
variable {α:Type} [z7 α] {P:Program} {h:Hp} {w:World} {t T sz by_:Nat} {v:Value} {x:α}
theorem bE5(hv:SV h v x)(hw:B4 h (d7 w)):∃a w',(Instr.box T v).run P w = .ok (.pointer (some a)) w'∧Gr w w'∧At (d7 w') a x:=by
 obtain⟨cs,rfl,he⟩:=hv;have hx:=o6.alloc w (.cells (List.toArray cs) T);refine⟨⟨w.heap.size,0,none⟩,w.alloc (.cells (List.toArray cs) T),rfl,Gr.alloc _ _,cs,z7.mono (p8 hw (b7 hx)) he,fun j u hj=>?_⟩;rw[←ai8,add_lit,ey7,eG7];simpa using hj
theorem cO3(hs:F2 P t T sz by_=true){xs:List Value}{ys:List α}{parts:Array (Nat×Value)}{n:Nat}(hp:parts.toList=(xs.zipIdx 0).map fun p=>(p.2,p.1))
  (he:N0 h (xs.flatMap (·.cells.toList)) ys) (hx:∀x∈xs,x.cells.size=sz) (hn:n=xs.length) (hyl:ys.length=xs.length) (hne:xs≠[]) (hlt:xs.length≤16) (hw:B4 h (d7 w)) :
  ∃v w',(Instr.buildSlice t n parts).run P w = .ok v w'∧A9 h w' T v ys∧Gr w w':=by
 obtain⟨h1,⟨z,hz,hzs⟩,h3,h4,h5,h6⟩:=P5 hs;obtain⟨i,hi,hiz⟩:=t8 hz;have hr:=an4 (w:=w) h1 (by rw[hi];rfl) hz xs (by rw[h3];exact hx) hne (by omega) (ew0 (Nat.mul_le_mul hlt (show E3 P T≤1000000 by omega)) (by omega)) hp hn;refine⟨_,_,hr,.inr ⟨w.heap.size,n,_,by rw[hn,hyl],av4 hw (ew8 _),ez5 w _,by omega,by rw[hn];simp only[maxLen];omega,?_,?_⟩,Gr.alloc _ _⟩
 ·have:=J7 he;simp only[eE7,this,hyl,hn]
 ·rw[←J7 he];simp only[ew5];exact he
theorem SV.ofN[z6 α](h:Hp)(x:α):SV h (.agg (z6.cells x).toArray) x:=⟨_,rfl,(z6.iff_ _ _ _).2 rfl⟩
end
theorem bJ6(s:Int)(w:World):Calls prog 142 #[.int .i64 s] w fun e w'=>∃u,e = .returned u∧(u = .bool false∧w'=w):=by
 refine d9 (args:=[.int .i64 s]) hm func142 rfl (by kernel_rfl) (by show 1≤_;decide +kernel) ?_;simp only[n3,n9,simprocAttr];refine n7 results142 ?_;simp only[p6,simprocAttr];exact⟨by trivial,by trivial⟩
theorem R3(a b:Int)(w:World):Calls prog 96 #[.int .i64 a,.int .i64 b] w fun e w'=>∃u,e = .returned u∧(u = .int .i64 (I4 a b)∧w'=w):=by
 refine d9 (args:=[.int .i64 a,.int .i64 b]) hm func96 rfl (by kernel_rfl) (by show 2≤_;decide +kernel) ?_;simp only[n3,n9,simprocAttr];refine D1 dc4 (bJ6 a w) ?_;simp only[n3,simprocAttr];refine D1 dc4 (bJ6 b w) ?_;have hF:I4 a b=if a<b then -1 else if b<a then 1 else 0:=rfl;rcases ev3 (decide (a<b))with h1|h1
 ·simp only[n3,n9,simprocAttr,h1];refine n7 results96 ?_;simp only[p6,simprocAttr];exact⟨by rw[hF,if_pos (ev6 h1)],by trivial⟩
 rw[if_neg (ev7 h1)]at hF;rcases ev3 (decide (b<a))with h2|h2
 ·simp only[n3,n9,simprocAttr,h1,h2];refine n7 results96 ?_;simp only[p6,simprocAttr];exact⟨by rw[hF,if_pos (ev6 h2)],by trivial⟩
 ·simp only[n3,n9,simprocAttr,h1,h2];refine n7 results96 ?_;simp only[p6,simprocAttr];exact⟨by rw[hF,if_neg (ev7 h2)],by trivial⟩
theorem au4(a b:A4)(w:World):Calls prog 98 #[o7 a,o7 b] w fun e w'=>∃u,e = .returned u∧(u = .int .i64 (X2 a b)∧w'=w):=by
 refine d9 (args:=[o7 a,o7 b]) hm func98 rfl (by kernel_rfl) (by show 2≤_;decide +kernel) ?_;simp only[n3,n9,simprocAttr];refine D1 cw5 (bj1 a w) ?_;simp only[n3,simprocAttr];refine D1 cw5 (bj1 b w) ?_;have hF:X2 a b=if Z0 a b then -1 else if Z0 b a then 1 else 0:=rfl;have hgt:(!(Z0 a b||decide (a=b)))=(!Z0 a b&&Z0 b a):=by
  cases h1:Z0 a b<;>cases h2:Z0 b a
  ·have:=cc7 h1 h2;subst this;simp
  ·have:a≠b:=fun e=>by subst e;rw[J2]at h2;cases h2
   simp[this]
  ·rfl
  ·rfl
 rcases ev3 (Z0 a b)with h1|h1
 ·simp only[n3,n9,simprocAttr,h1];refine n7 results98 ?_;simp only[p6,simprocAttr];exact⟨by rw[hF,if_pos h1],by trivial⟩
 rw[if_neg (by rw[h1];simp)]at hF;rw[h1]at hgt;simp only[eI5,Bool.not_false,eE6]at hgt;have hg2:B7 prog .gtr 9 (o7 a) (o7 b)=some (.bool (Z0 b a)):=by rw[cL1,h1,eI5,hgt]
 rcases ev3 (Z0 b a)with h2|h2
 ·simp only[n3,n9,simprocAttr,h1,h2,hg2];refine n7 results98 ?_;simp only[p6,simprocAttr];exact⟨by rw[hF,if_pos h2],by trivial⟩
 ·simp only[n3,n9,simprocAttr,h1,h2,hg2];refine n7 results98 ?_;simp only[p6,simprocAttr];exact⟨by rw[hF,if_neg (by rw[h2];simp)],by trivial⟩
theorem aH4{h:Hp}{v:Value}{l:List Int}{w:World}(hv:R h v l)(hw:B4 h (d7 w)){k:Nat}(hk:k<l.length):(Instr.loadAt 3 (.pointer (some (H4 v k)))).run prog w = .ok (.int .i64 l[k]) w:=
 M8 (P:=prog) (t:=3) hv hw (ev2 hk) G3
theorem bx6(v:Value)(l:List Int)(w:World)(hv:R (d7 w) v l)(hl:l.length≤1000000000):Calls prog 95 #[v] w fun e w'=>∃u,e = .returned u∧(u = .int .i64 (orF l)∧w'=w):=by
 refine d9 (args:=[v]) hm func95 rfl (by kernel_rfl) (by show 1≤_;decide +kernel) ?_;have hS:=hv.isS;have hn:=hv.vlen;simp only[n3,n9,simprocAttr,hS,hn];refine n8 [3,6,7] (σ:=Nat) (fun k f w'=>f 8 = .int .i64 k∧k≤l.length∧orF l=orF (l.drop k)∧w'=w) (fun k=>l.length-k) 0 (by decide +kernel) ?_ ?_
 ·simp only[p6,simprocAttr];exact⟨by trivial,ew4 _,by rw[eE3],by trivial⟩
 rintro k f w2 hk ⟨h8,hkl,hor,rfl⟩;simp only[ev4,p6,simprocAttr]at hk;obtain⟨e3,e6,e7,_⟩:=hk;simp only[n3,n9,simprocAttr,h8,e7];refine i5 (fun hc=>?_) (fun hc=>?_);rotate_left
 ·have hge:k=l.length:=by simp at hc;omega
  subst hge;rw[eF2,orF]at hor;simp only[n3,simprocAttr,e3];refine n7 results95 ?_;simp only[p6,simprocAttr];exact⟨by rw[hor],by trivial⟩
 have hlt:k<l.length:=by simpa using hc
 have hin:=hv.inS hlt;have hld:=aH4 hv (i4 _) hlt;rw[ez4 hlt,orF]at hor;generalize l[k]=y at hld hor;rcases ev3 (decide (y=0))with hq|hq
 ·rw[if_pos (ev6 hq)]at hor;simp only[n3,n9,p9,simprocAttr,h8,e3,e6,hin,hld,hq];exact⟨k+1,by omega,by rw[B1 k (by omega)],by omega,hor,by trivial⟩
 ·rw[if_neg (ev7 hq)]at hor;simp only[n3,n9,p9,simprocAttr,h8,e3,e6,hin,hld,hq];refine n7 results95 ?_;simp only[p6,simprocAttr];exact⟨by rw[hor],by trivial⟩
theorem ag0(a:Int)(w:World):Calls prog 97 #[.int .i64 a] w fun e w'=>∃u,e = .returned u∧(u = .int .i64 (E2 a)∧w'=w):=by
 refine d9 (args:=[.int .i64 a]) hm func97 rfl (by kernel_rfl) (by show 1≤_;decide +kernel) ?_;rcases ev3 (decide (a = -1))with h1|h1
 ·simp only[n3,n9,simprocAttr,h1];refine n7 results97 ?_;simp only[p6,simprocAttr];exact⟨by rw[E2,if_pos (ev6 h1)],by trivial⟩
 ·simp only[n3,n9,simprocAttr,h1];refine n7 results97 ?_;simp only[p6,simprocAttr];exact⟨by rw[E2,if_neg (ev7 h1)],by trivial⟩
theorem cn9(x y:Sp)(w:World):Calls prog 196 #[.agg (z6.cells x).toArray,.agg (z6.cells y).toArray] w fun e w'=>∃u,e = .returned u∧(u = .int .i64 (spC x y)∧Gr w w'):=by
 refine d9 (args:=[.agg (z6.cells x).toArray,.agg (z6.cells y).toArray]) hm func196 rfl (by kernel_rfl) (by show 2≤_;decide +kernel) ?_;obtain⟨a,w1,hb1,hg1,ha⟩:=bE5 (P:=prog) (T:=187) (SV.ofN (d7 w) x) (i4 _);obtain⟨b,w2,hb2,hg2,hb⟩:=bE5 (P:=prog) (T:=187) (SV.ofN (d7 w1) y) (i4 _);obtain⟨_,sa⟩:=(ha.mono (b7 hg2.ext)).sp;obtain⟨_,sb⟩:=hb.sp;have s1:=sa (fun w'=>Gr w2.drew w') w2.drew (Gr.refl _) fun w' h=>b7 ((Gr.drew w2).trans h).ext;have s2:=sb (fun w'=>Gr w2.drew w') w2.drew (Gr.refl _) fun w' h=>b7 ((Gr.drew w2).trans h).ext;simp only[n3,n9,simprocAttr,hb1,hb2];refine C2 (fun w'=>Gr w2.drew w') 18 (A8 [0,1,3,4,7,8,10,11,14,15,16,17,2,5,6,9,12,13]) (by decide +kernel) (Gr.refl _) ?_;simp only[D5,A8,n3,n9,simprocAttr,s1,s2];refine D1 bh8 (ag0 _ _) ⟨Gr.refl _,?_⟩;simp only[D5,n3,simprocAttr];refine D1 bh8 (ag0 _ _) ⟨Gr.refl _,?_⟩;simp only[D5,n3,simprocAttr];refine D1 bh7 (R3 _ _ _) ⟨Gr.refl _,?_⟩;simp only[D5,n3,simprocAttr];refine D1 bh8 (ag0 _ _) ⟨Gr.refl _,?_⟩;simp only[D5,n3,simprocAttr];refine D1 bh8 (ag0 _ _) ⟨Gr.refl _,?_⟩;simp only[D5,n3,simprocAttr];refine D1 bh7 (R3 _ _ _) ⟨Gr.refl _,?_⟩;simp only[D5,n3,simprocAttr];refine D1 bh7 (R3 _ _ _) ?_;generalize hl:[I4 (E2 x.src) (E2 y.src),I4 (E2 x.dst) (E2 y.dst),I4 x.kind y.kind]=l;have hF:spC x y=orF l:=by rw[←hl];rfl
 have h3:l.length=3:=by rw[←hl];rfl
 obtain⟨vt,w3,hlit,hot,hg3⟩:=cO3 (P:=prog) (w:=w2.drew) (h:=d7 w2.drew) (α:=Int) (xs:=[.int .i64 (I4 (E2 x.src) (E2 y.src)),.int .i64 (I4 (E2 x.dst) (E2 y.dst)),.int .i64 (I4 x.kind y.kind)]) (ys:=l) (parts:=#[(0,.int .i64 (I4 (E2 x.src) (E2 y.src))),(1,.int .i64 (I4 (E2 x.dst) (E2 y.dst))),(2,.int .i64 (I4 x.kind y.kind))]) (n:=3) ad0 rfl (by rw[←hl];exact K9.2 rfl) (by simp[Value.cells]) rfl h3 (by simp) (by simp) (i4 _);simp only[n3,simprocAttr,hlit];refine D1 cx6 (bx6 vt l w3 (hot.rw_ (b7 hg3.ext)) (by omega)) ?_;simp only[n3,simprocAttr];refine n7 results196 ?_;simp only[p6,simprocAttr];exact⟨by rw[hF],hg1.trans (hg2.trans ((Gr.drew w2).trans hg3))⟩
theorem bM9(x y:Sp)(vx vy:Value)(w:World)(hx:SV (d7 w) vx x)(hy:SV (d7 w) vy y):Calls prog 198 #[vx,vy] w fun e w'=>∃u,e = .returned u∧(u = .bool (aQ8 x y)∧o6 w w'):=by
 refine d9 (args:=[vx,vy]) hm func198 rfl (by kernel_rfl) (by show 2≤_;decide +kernel) ?_;obtain⟨a,w1,hb1,hx1,ha⟩:=ca0 hx (i4 _);obtain⟨b,w2,hb2,hx2,hb⟩:=ca0 (hy.mono (b7 hx1)) (i4 _);obtain⟨la,_⟩:=ha.sp;obtain⟨lb,_⟩:=hb.sp;have l1:=la w2 (b7 hx2);have l2:=lb w2 (i4 _);have hF:aQ8 x y=(decide (x.src=y.src)&&decide (x.dst=y.dst)):=rfl;rcases ev3 (decide (x.src=y.src))with h1|h1
 ·simp only[n3,n9,simprocAttr,hb1,hb2,l1,l2,h1];refine n7 results198 ?_;simp only[p6,simprocAttr];exact⟨by rw[hF,h1,eE6],hx1.trans hx2⟩
 ·simp only[n3,n9,simprocAttr,hb1,hb2,l1,l2,h1];refine n7 results198 ?_;simp only[p6,simprocAttr];exact⟨by rw[hF,h1];rfl,hx1.trans hx2⟩
theorem cW7:Cm spC:=by
 have h:=(aA7.key (fun x:Sp=>E2 x.src)).lex ((aA7.key (fun x:Sp=>E2 x.dst)).lex ((aA7.key (fun x:Sp=>x.kind)).lex Cm.zero));have e:spC=fun x y:Sp=>if I4 (E2 x.src) (E2 y.src)=0 then(if I4 (E2 x.dst) (E2 y.dst)=0 then(if I4 x.kind y.kind=0 then 0 else I4 x.kind y.kind)else I4 (E2 x.dst) (E2 y.dst))else I4 (E2 x.src) (E2 y.src):=by
  funext x y
  simp only[spC,orF]
 rw[e];exact h
def plc(a:Int):Prop:=a<9223372036854775807
theorem aP8{a b:Int}(ha:plc a)(hb:plc b)(h:E2 a=E2 b):a=b:=by
 unfold E2 plc at *;split at h<;>split at h<;>omega
theorem cQ4{l:List Sp}(hl:∀x∈l,plc x.src∧plc x.dst):∀a∈l,∀b∈l,decide (spC a b≤0)=true→decide (spC b a≤0)=true→a=b:=by
 intro a ha b hb h1 h2;have h3:=ev6 h1;have h4:=ev6 h2;have h5:=cW7.anti a b;have h0:spC a b=0:=by omega
 unfold spC at h0;simp only[orF]at h0;by_cases q1:I4 (E2 a.src) (E2 b.src)=0
 ·rw[if_pos q1]at h0;by_cases q2:I4 (E2 a.dst) (E2 b.dst)=0
  ·rw[if_pos q2]at h0;by_cases q3:I4 a.kind b.kind=0
   ·have e1:=aP8 (hl a ha).1 (hl b hb).1 (S9 q1);have e2:=aP8 (hl a ha).2 (hl b hb).2 (S9 q2);have e3:=S9 q3;cases a;cases b;simp_all
   ·rw[if_neg q3]at h0;exact absurd h0 q3
  ·rw[if_neg q2]at h0;exact absurd h0 q2
 ·rw[if_neg q1]at h0;exact absurd h0 q1
theorem cm0:(Tryz.lySortP_ren.f 6)=195:=by kernel_rfl
theorem bu1:(Tryz.lySortP_ren.t 24)=187:=by kernel_rfl
theorem bl3:F2 prog 146 187 3 24=true:=by kernel_rfl
theorem bM8{h:Hp}{w:World}{v:Value}{xs:List Sp}(ho:A9 h w 187 v xs)(hl:xs.length≤1000000000)(hp:∀x∈xs,plc x.src∧plc x.dst):
  Calls prog 195 #[v,.func (.func 196) #[] #[]] w fun e w'=>∃u,e = .returned u∧(A9 h w' 187 v (U2 cQ3 xs)∧o9 (A3 v) w w'):=by
 rw[←cm0];have aE:∀w,(isAgg (Tryz.lySortP_ren.t 24)).run prog w = .ok true w:=fun w=>by
  rw[bu1,W1 _ bD2,bC8]
 have zE:∀w,(Go.sizeOf (Tryz.lySortP_ren.t 24)).run prog w = .ok (z7.sz Sp) w:=fun w=>by
  rw[bu1,N4 bm4,aM1];rfl
 exact aF7 (P:=prog) (T:=187) Tryz.lySortP aE zE spC cW7 196 (enters_of func196 (by kernel_rfl) rfl) (fun x y w=>(cn9 x y w).mono fun e w' ⟨u,h1,h2,h3⟩=>⟨by rw[h1,h2],h3⟩) ho hl (cQ4 hp)
section
variable {α:Type} [z7 α] [z6 α] {P:Program} {h:Hp} {w:World} {t T:TypeId} {v:Value} {xs:List α}
theorem aY1{xs:List α}{k:Nat}(hk:k<xs.length)(y:α):(xs.set k y).flatMap z6.cells=(xs.flatMap z6.cells).take (k*z7.sz α)++z6.cells y++(xs.flatMap z6.cells).drop (k*z7.sz α+z7.sz α):=by
 have h1:xs=xs.take k++(xs[k]::xs.drop (k+1)):=by
  have:=eA3 k xs;rw[ez4 hk]at this;exact this.symm
 have h2:xs.set k y=xs.take k++(y::xs.drop (k+1)):=by rw[List.set_eq_take_append_cons_drop,if_pos hk]
 have hl:((xs.take k).flatMap z6.cells).length=k*z7.sz α:=by rw[aa8,ew6,eB8 (Nat.le_of_lt hk)]
 rw[h2]
 conv=>rhs;rw[h1]
 simp only[eI3,eF4];have e1:((xs.take k).flatMap z6.cells++(z6.cells xs[k]++(xs.drop (k+1)).flatMap z6.cells)).take (k*z7.sz α)=(xs.take k).flatMap z6.cells:=by rw[←hl,eE4]
 have e2:((xs.take k).flatMap z6.cells++(z6.cells xs[k]++(xs.drop (k+1)).flatMap z6.cells)).drop (k*z7.sz α+z7.sz α)=(xs.drop (k+1)).flatMap z6.cells:=by
  rw[←ex9,←hl,←aj8 xs[k],←ev5,List.drop_left]
 rw[e1,e2,ex9]
theorem bj6(ho:A9 h w T v xs)(hi:(P.info? t).isSome=true)(hs:E3 P t=z7.sz α){k:Nat}(hk:k<xs.length)(y:α):
  ∃w',(Instr.storeAt t (.pointer (some (H4 v (k*z7.sz α)))) (.agg (z6.cells y).toArray)).run P w = .ok () w'∧A9 h w' T v (xs.set k y)∧o9 (A3 v) w w':=by
 rcases cA7 ho with⟨rfl,rfl⟩|⟨b,c,cur,rfl,h1,h2,h3,h4,h5,h6⟩
 ·simp at hk
 have hks:k*z7.sz α+z7.sz α≤xs.length*z7.sz α:=by
  have:=eD6 (z7.sz α) (Nat.succ_le_of_lt hk);rw[Nat.succ_mul]at this;exact this
 have hcs:xs.length*z7.sz α≤cur.size:=by rw[h5];exact eD6 _ h3
 have hlc:(z6.cells y).length=z7.sz α:=aj8 y;obtain⟨w',e1,e2,e3⟩:=bZ7 (P:=P) (t:=t) (cs:=z6.cells y) (o:=k*z7.sz α) h2 (by rw[hlc];omega) (aj9 y) hi (by rw[hs,hlc]);have hsa:H4 (.slice (some ⟨b,0,none⟩) xs.length c) (k*z7.sz α)=⟨b,k*z7.sz α,none⟩:=by
  show(⟨b,0,none⟩:Addr).add _=_;rw[add_lit,ey7]
 refine⟨w',by rw[hsa];exact e1,?_,e3.weaken fun _ _ e=>by subst e;rfl⟩;have hset:(xs.set k y).length=xs.length:=by simp
 have hcur:cur.toList=xs.flatMap z6.cells++cur.toList.drop (xs.length*z7.sz α):=by rw[←h6,eA3]
 have hfl:=aa8 xs;have:=bj5 (l:=xs.set k y) h1 e2 (by rw[hset];exact h3) h4 ?_ ?_
 ·rw[hset]at this;exact this
 ·simp only[eE7,ev5,ew6,eD7,eI4,hlc,h5];rw[h5]at hcs;omega
 ·rw[hset,List.toList_toArray,aY1 hk,hlc];have a1:cur.toList.take (k*z7.sz α)=(xs.flatMap z6.cells).take (k*z7.sz α):=by
   rw[hcur,eD9 (by rw[hfl];omega)]
  have a2:cur.toList.drop (k*z7.sz α+z7.sz α)=(xs.flatMap z6.cells).drop (k*z7.sz α+z7.sz α)++cur.toList.drop (xs.length*z7.sz α):=by
   conv=>lhs;rw[hcur]
   rw[List.drop_append_of_le_length (by rw[hfl];exact hks)]
  rw[a1,a2,←ex9];have hl:((xs.flatMap z6.cells).take (k*z7.sz α)++z6.cells y++(xs.flatMap z6.cells).drop (k*z7.sz α+z7.sz α)).length=xs.length*z7.sz α:=by
   rw[←aY1 hk,aa8,hset]
  rw[←hl,eE4]
theorem aU4(ho:A9 h w T v xs){ty:TypeId}(ht:A6 P t=some T){z:Value}(hz:H6 P T=some z)(hzs:z.cells.size=z7.sz α)(hz1:∀u∈z.cells.toList,u.oneCell'=true){i:Nat}(hi:i<xs.length):
  ∃w',(Builtin.clear_ #[t] ty #[reS v i xs.length (z7.sz α)]).run P w = .ok (.tuple #[]) w'∧A9 h w' T (reS v 0 i (z7.sz α)) (xs.take i)∧o9 (A3 v) w w'∧∀b,A3 (reS v 0 i (z7.sz α)) b→A3 v b:=by
 rcases cA7 ho with⟨rfl,rfl⟩|⟨b,c,cur,rfl,h1,h2,h3,h4,h5,h6⟩
 ·simp at hi
 obtain⟨inf,hinf,hinfz⟩:=t8 hz;have hzr:(zeroValue T).run P w = .ok z w:=by
  unfold zeroValue;simp[N2,hinf,hinfz]
 have hpos:=z7.pos (α:=α);have hc0:¬c=0:=by omega
 have hci:¬c=i:=by omega
 have hr1:reS (.slice (some ⟨b,0,none⟩) xs.length c) i xs.length (z7.sz α) = .slice (some ⟨b,i*z7.sz α,none⟩) (xs.length-i) (c-i):=by
  simp only[reS,if_neg hci,eB4,add_lit,ey7]
 have hr2:reS (.slice (some ⟨b,0,none⟩) xs.length c) 0 i (z7.sz α) = .slice (some ⟨b,0,none⟩) i c:=by
  simp only[reS,if_neg hc0,eB4,Nat.zero_mul,add_lit,Nat.sub_zero]
 have hzl:(Builtin.zeroCells z.cells (xs.length-i)).toList.length=(xs.length-i)*z7.sz α:=by simp[Builtin.zeroCells,hzs]
 have hmul:i*z7.sz α+(xs.length-i)*z7.sz α=xs.length*z7.sz α:=by rw[←eG3];congr 1;omega
 have hcs:xs.length*z7.sz α≤cur.size:=by rw[h5];exact eD6 _ h3
 obtain⟨w',e1,e2,e3⟩:=bl7 (P:=P) (T:=T) b (i*z7.sz α) (Builtin.zeroCells z.cells (xs.length-i)).toList 0 cur w h2 (by rw[hzl];omega) (by
  intro u hu;simp only[Builtin.zeroCells,Array.toList_map,ey0]at hu;obtain⟨m,_,rfl⟩:=hu;have hm:m % z.cells.size<z.cells.size:=Nat.mod_lt _ (by omega);rw[getElem!_pos z.cells _ hm];exact hz1 _ (by simp))
 refine⟨w',?_,?_,e3.weaken fun _ _ e=>by subst e;rfl,fun b' hb'=>by rw[hr2]at hb';exact hb'⟩
 ·rw[hr1];unfold Builtin.clear_;have hn0:∃m,xs.length-i=m+1:=⟨xs.length-i-1,by omega⟩;obtain⟨m,hm⟩:=hn0;rw[hm]at e1 ⊢;simp only[List.getElem?_toArray,List.getElem?_cons_zero,ex6,F5,K8 ht,ew9,hzr,e1,ey9]
 ·rw[hr2];have hl:(xs.take i).length=i:=by rw[ew6];omega
  have:=bj5 (l:=xs.take i) h1 e2 (by rw[hl];omega) h4 ?_ ?_
  ·rw[hl]at this;exact this
  ·simp only[Nat.add_zero,eE7,ev5,ew6,eD7,eI4,hzl];rw[h5];rw[h5]at hcs;omega
  ·rw[hl,Nat.add_zero,List.toList_toArray,ex9,eD9 (by rw[ew6,eI4];omega),List.take_take,Nat.min_self];have:i*z7.sz α≤xs.length*z7.sz α:=eD6 _ (by omega);have h7:=ex0 (List.take (i*z7.sz α)) h6;rw[List.take_take,eB8 this]at h7;rw[h7];have hsp:xs.flatMap z6.cells=(xs.take i).flatMap z6.cells++(xs.drop i).flatMap z6.cells:=by rw[←eI3,eA3]
   have hfl:((xs.take i).flatMap z6.cells).length=i*z7.sz α:=by rw[aa8,hl]
   rw[hsp,←hfl,eE4]
end
theorem bj2{P:Program}{K:Fr→World→Prop}{f:Fr}{w:World}{d:Option Nat}{ty:TypeId}{pos:String}{aft:Array Edge}{x:Operand}{ts:Array TypeId}:B0 P none ⟨d,.call {callee:=.builtin .clear,args:=#[x],argTypes:=ts},ty,pos,aft,none⟩ K f w=ac5 ((Builtin.clear_ ts ty #[ev f x]).run P w) K f d:=by
 simp[B0,ap9,X6,bc0,be2]
theorem eF6:type_of% @List.getElem_cons_succ:=@List.getElem_cons_succ
theorem dd2:af6 prog 198=true:=by kernel_rfl
theorem bf3{α:Type}(eq:α→α→Bool):∀(l:List α) (p y:α),ag2 eq p (l++[y])=if eq y (l.getLast?.getD p)then ag2 eq p l else ag2 eq p l++[y]
 | [],p,y=>by
  simp[ag2];rfl
 | x::l,p,y=>by
  have ih:=bf3 eq l x y;have hg:((x::l).getLast?.getD p)=l.getLast?.getD x:=by
   cases l with
   | nil=>rfl
   | cons z l=>
    rw[List.getLast?_cons_cons];cases h:(z::l).getLast? with
    | none=>simp at h
    | some q=>rfl
  rw[eG2,ag2,ag2,hg,ih];by_cases h:eq x p=true
  ·rw[if_pos h,if_pos h]
  ·rw[if_neg h,if_neg h];split<;>simp
theorem am0{α:Type}(eq:α→α→Bool)(xs:List α){k:Nat}(hk:k<xs.length)(h0:0<k):ad6 eq (xs.take (k+1))=if eq xs[k] xs[k-1]then ad6 eq (xs.take k)else ad6 eq (xs.take k)++[xs[k]]:=by
 rw[ew1 hk];cases xs with
 | nil=>simp at hk
 | cons x l=>
  obtain⟨m,rfl⟩:∃m,k=m+1:=⟨k-1,by omega⟩;simp only[eH4,eG2,ad6,eF6,Nat.add_sub_cancel];rw[bf3];have hm:m<l.length:=by simpa using hk
  have:(l.take m).getLast?.getD x=(x::l)[m]'(by simp;omega):=by
   cases m with
   | zero=>rfl
   | succ m=>
    rw[List.getLast?_eq_getElem?,ew6,eB8 (by omega),eF1,if_pos (by omega),ev2 (by omega)];simp
  rw[this];split<;>simp
theorem Z4{α:Type}(eq:α→α→Bool)(xs:List α):∀k,k≤xs.length→(∀j (hj:j<xs.length),1≤j→j<k→eq xs[j] (xs[j-1]'(by omega))=false)→ad6 eq (xs.take k)=xs.take k
 | 0,_,_=>by simp[ad6]
 | 1,h,_=>by
  cases xs with
  | nil=>simp at h
  | cons x l=>simp[ad6,ag2]
 | k+2,h,hf=>by
  rw[am0 eq xs (k:=k+1) (by omega) (by omega),Z4 eq xs (k+1) (by omega) fun j hj h1 h2=>hf j hj h1 (by omega)];have:=hf (k+1) (by omega) (by omega) (by omega);simp only[Nat.add_sub_cancel]at this ⊢;rw[if_neg (by rw[this];simp),ew1 (by omega:k+1<xs.length)]
theorem bR0{h:Hp}{w:World}{v:Value}{xs:List Sp}(ho:A9 h w 187 v xs)(hl:xs.length≤1000000000)(hh:B4 h (d7 w)):
  Calls prog 197 #[v,.func (.func 198) #[] #[]] w fun e w'=>∃u,e = .returned u∧(A9 h w' 187 u (ad6 aQ8 xs)∧o9 (A3 v) w w'∧∀b,A3 u b→A3 v b):=by
 refine d9 (args:=[v,.func (.func 198) #[] #[]]) hm func197 rfl (by kernel_rfl) (by show 2≤_;decide +kernel) ?_;have hS:=ho.isS;have hn:=ho.vlen;have hvc:=ho.vcap;have hz:z7.sz Sp=3:=rfl;rcases ev3 (decide ((xs.length:Int)<2))with h2|h2
 ·simp only[n3,n9,p9,F8,G7.val,simprocAttr,hS,hn,h2];refine n7 results197 ?_;simp only[p6,simprocAttr];have hlt:xs.length<2:=by have:=ev6 h2;omega
  have:=Z4 aQ8 xs xs.length (ew8 _) fun j hj h1 h2=>by omega
  rw[ew5]at this;exact⟨by rw[this];exact ho,o9.refl _,fun b hb=>hb⟩
 have h2':2≤xs.length:=by have:=ev7 h2;omega
 simp only[n3,n9,p9,F8,G7.val,simprocAttr,hS,hn,h2];refine n8 [0,1] (σ:=Nat) (fun i f w'=>f 5 = .int .i64 i∧1≤i∧i≤xs.length∧(∀j (hj:j<xs.length),1≤j→j<i→aQ8 xs[j] (xs[j-1]'(by omega))=false)∧o6 w w') (fun i=>xs.length-i) 1 (by decide +kernel) ?_ ?_
 ·simp only[p6,simprocAttr];exact⟨by trivial,by trivial,by omega,fun j _ h1 h2=>by omega,o9.refl _⟩
 rintro i f w2 hk ⟨h5,h1i,hil,hno,hx2⟩;simp only[ev4,p6,simprocAttr]at hk;obtain⟨e0,e1,_⟩:=hk;simp only[n3,n9,p9,F8,G7.val,simprocAttr,h5,e0,hS,hn];refine i5 (fun hc=>?_) (fun hc=>?_);rotate_left
 ·have hge:i=xs.length:=by simp at hc;omega
  subst hge;simp only[n3,n9,p9,F8,G7.val,simprocAttr,e0];refine n7 results197 ?_;simp only[p6,simprocAttr];have:=Z4 aQ8 xs xs.length (ew8 _) hno;rw[ew5]at this;exact⟨by rw[this];exact ho.ext hx2,o9.up hx2,fun b hb=>hb⟩
 have hlt:i<xs.length:=by simpa using hc
 have hlt1:i-1<xs.length:=by omega
 have hR:R (d7 w2) v xs:=(ho.ext hx2).rw_ (p8 hh (b7 hx2));have hin:=ho.inS hlt;have hin1:=ho.inS hlt1;have hwi:IntKind.i64.wrap ((i:Int)-1)=((i-1:Nat):Int):=by rw[K1 _ (by omega)];omega
 obtain⟨vx,hvx,_,sx⟩:=(hR.at_ (ev2 hlt)).sp_v;obtain⟨vy,hvy,_,sy⟩:=(hR.at_ (ev2 hlt1)).sp_v;have s1:=sx (fun w'=>o6 w2.drew w') w2.drew (o9.refl _) fun w' h=>b7 ((o6.drew w2).trans h);have s2:=sy (fun w'=>o6 w2.drew w') w2.drew (o9.refl _) fun w' h=>b7 ((o6.drew w2).trans h);rw[hz]at s1 s2;have hxd:=hx2.trans (o6.drew w2);simp only[n3,n9,p9,F8,G7.val,simprocAttr,h5];refine C2 (fun w'=>o6 w2.drew w') 10 (A8 [0,1,2,3,4,5,6,7,8,9]) (by decide +kernel) (o9.refl _) ?_;simp only[D5,A8,n3,n9,p9,F8,G7.val,simprocAttr,h5,e0,e1,hin,hin1,hwi,s1,s2];refine B3 dd2 (bM9 _ _ vx vy w2.drew (hvx.mono (b7 (o6.drew w2))) (hvy.mono (b7 (o6.drew w2)))) (fun w3 hx3=>?_);have hx03:=hxd.trans hx3;rcases ev3 (aQ8 xs[i] xs[i-1])with hq|hq;rotate_left
 ·simp only[n3,n9,p9,F8,G7.val,simprocAttr,hq,h5];refine⟨i+1,by omega,by rw[B1 i (by omega)],by omega,by omega,fun j hj h1 h2=>?_,hx03⟩;rcases ez0 j i with h|h
  ·exact hno j hj h1 h
  ·obtain rfl:j=i:=by omega
   exact hq
 have c1:decide ((i:Int)≤(xs.length:Int))=true:=by simp;omega
 have c2:decide ((xs.length:Int)≤(vcap v:Int))=true:=by simp;omega
 have hd:∀k:Nat,isS (reS v k xs.length 3)=true∧vlen (reS v k xs.length 3)=xs.length-k:=fun k=>by
  rcases ho with⟨rfl,rfl⟩|⟨b,c,cur,rfl,_⟩
  ·exact⟨rfl,rfl⟩
  ·exact⟨rfl,rfl⟩
 obtain⟨hSd,hnd⟩:=hd i;have hni:((xs.length-i:Nat):Int)=(xs.length:Int)-i:=by omega
 simp only[n3,n9,p9,F8,G7.val,simprocAttr,hq,h5,e0,hS,hn,c1,c2];refine n8 [0,1,6] (σ:=Nat×Nat×List Sp) (fun s f w'=>f 7 = .int .i64 s.1∧f 5 = .int .i64 s.2.1∧1≤s.1∧i+s.1≤xs.length∧s.2.1+1≤i+s.1∧s.2.2.length=xs.length∧A9 h w' 187 v s.2.2∧(∀j (hj:j<xs.length) (hj2:j<s.2.2.length),i+s.1≤j+1→s.2.2[j]=xs[j])∧s.2.2.take s.2.1=ad6 aQ8 (xs.take (i+s.1))∧o9 (A3 v) w w') (fun s=>xs.length-(i+s.1)) (1,i,xs) (by decide +kernel) ?_ ?_
 ·simp only[p6,simprocAttr];refine⟨by trivial,by trivial,by trivial,by omega,by omega,by trivial,ho.ext hx03,fun j _ _ _=>by trivial,?_,o9.up hx03⟩;rw[am0 aQ8 xs hlt (by omega),if_pos hq,Z4 aQ8 xs i (by omega) hno]
 rintro⟨m,c,ys⟩ f4 w4 hk ⟨h7,h5c,h1m,him,hcm,hyl,hoy,hsuf,hpre,hm4⟩;simp only at h7 h5c h1m him hcm hyl hoy hsuf hpre;simp only[ev4,p6,simprocAttr]at hk;obtain⟨g0,g1,g6,_⟩:=hk;rw[e0]at g0;rw[e1]at g1;have hh4:B4 h (d7 w4):=K6 hh hm4 fun b hb=>ho.free hb;have hlen:decide ((m:Int)<((xs.length-i:Nat):Int))=decide (i+m<xs.length):=by rw[ez8];omega
 simp only[n3,n9,p9,F8,G7.val,simprocAttr,h7,g6,hSd,hnd,hlen];refine i5 (fun hc=>?_) (fun hc=>?_)
 ·have hm':i+m<xs.length:=ev6 hc;have hm1:i+m-1<xs.length:=by omega
  have hRy:R (d7 w4) v ys:=hoy.rw_ hh4;have hsub:=bE1 hRy (show i≤xs.length by omega) (show xs.length≤ys.length by omega);rw[hz]at hsub;have hyt:(ys.take xs.length).drop i=ys.drop i:=by rw[←hyl,ew5]
  rw[hyt]at hsub;have hg1:(ys.drop i)[m]?=some xs[i+m]:=by
   rw[eF0,ev2 (by omega),hsuf (i+m) hm' (by omega) (by omega)]
  have hg2:(ys.drop i)[m-1]?=some xs[i+m-1]:=by
   rw[eF0,show i+(m-1)=i+m-1 by omega,ev2 (by omega),hsuf (i+m-1) hm1 (by omega) (by omega)]
  have hin4:=hsub.inS (ev8.1 hg1).1;have hin5:=hsub.inS (ev8.1 hg2).1;have hwm:IntKind.i64.wrap ((m:Int)-1)=((m-1:Nat):Int):=by rw[K1 _ (by omega)];omega
  obtain⟨ux,hux,lx,tx⟩:=(hsub.at_ hg1).sp_v;obtain⟨uy,huy,_,ty⟩:=(hsub.at_ hg2).sp_v;have t1:=tx (fun w'=>o6 w4.drew w') w4.drew (o9.refl _) fun w' h=>b7 ((o6.drew w4).trans h);have t2:=ty (fun w'=>o6 w4.drew w') w4.drew (o9.refl _) fun w' h=>b7 ((o6.drew w4).trans h);rw[hz]at t1 t2 lx;simp only[n3,n9,p9,F8,G7.val,simprocAttr,h7];refine C2 (fun w'=>o6 w4.drew w') 10 (A8 [0,1,2,3,4,5,6,7,8,9]) (by decide +kernel) (o9.refl _) ?_;simp only[D5,A8,n3,n9,p9,F8,G7.val,simprocAttr,h7,g1,g6,hin4,hin5,hwm,t1,t2];refine B3 dd2 (bM9 _ _ ux uy w4.drew (hux.mono (b7 (o6.drew w4))) (huy.mono (b7 (o6.drew w4)))) (fun w5 hx5=>?_);have hx45:=(o6.drew w4).trans hx5;have ho5:=hoy.ext hx45;have hm5:o9 (A3 v) w w5:=hm4.chain (o9.up hx45) fun _ _ h=>h;have hct:=am0 aQ8 xs (k:=i+m) hm' (by omega);rcases ev3 (aQ8 xs[i+m] xs[i+m-1])with hq4|hq4
  ·rw[if_pos hq4]at hct;simp only[n3,n9,p9,F8,G7.val,simprocAttr,hq4,h7];refine⟨(m+1,c,ys),by simp only[];omega,by simp only[];rw[B1 m (by omega)],h5c,by simp only[];omega,by simp only[];omega,by simp only[];omega,hyl,ho5,fun j hj hj2 h=>hsuf j hj hj2 (by simp only at h;omega),?_,hm5⟩;simp only[];rw[hpre,←hct,eE5]
  ·rw[if_neg (by rw[hq4];simp)]at hct;have hcy:c<ys.length:=by omega
   have lx5:=lx w5 (b7 hx45);have hux':ux = .agg (z6.cells xs[i+m]).toArray:=by
    obtain⟨cs,rfl,he⟩:=hux;rw[(z6.iff_ _ _ _).1 he]
   obtain⟨w6,e6,ho6,hm6⟩:=bj6 (P:=prog) (t:=187) ho5 bm4 aM1 hcy xs[i+m];rw[←hux',hz]at e6;have hin6:=hoy.inS hcy;simp only[n3,n9,p9,F8,G7.val,simprocAttr,hq4,h5c,g0,g6,h7,hin4,hin6,lx5,e6];refine⟨(m+1,c+1,ys.set c xs[i+m]),by simp only[];omega,by simp only[];rw[B1 m (by omega)],by simp only[];rw[B1 c (by omega)],by simp only[];omega,by simp only[];omega,by simp only[];omega,by simp only[eC2];exact hyl,ho6,fun j hj hj2 h=>?_,?_,hm5.chain hm6 fun _ _ h=>h⟩
   ·simp only at h ⊢;rw[List.getElem_set_ne (by omega)];exact hsuf j hj (by omega) (by omega)
   ·simp only[];have hcs:c<(ys.set c xs[i+m]).length:=by simpa using hcy
    rw[ew1 hcs,List.getElem_set_self,List.take_set_of_le (ew8 _),hpre,←hct,eE5]
 ·have hm':i+m=xs.length:=by have:=ev7 hc;omega
  rw[hm',ew5]at hpre;have hcl:c<ys.length:=by omega
  have c3:decide ((c:Int)≤(xs.length:Int))=true:=by simp;omega
  have c4:decide ((c:Int)≤(vcap v:Int))=true:=by simp;omega
  obtain⟨w6,e6,ho6,hm6,hb6⟩:=aU4 (P:=prog) (t:=146) (ty:=0) hoy rfl cI5 rfl (by simp[Value.cells,Value.oneCell']) hcl;rw[hyl,hz]at e6;rw[hz]at ho6 hb6;simp only[n3,n9,p9,F8,G7.val,simprocAttr,bj2,h5c,g0,hS,hn,c1,c2,c3,c4,e6];refine n7 results197 ?_;simp only[p6,simprocAttr];exact⟨by rw[←hpre];exact ho6,hm4.chain hm6 fun _ _ h=>h,hb6⟩
theorem eC5:type_of% @Option.bind_eq_some_iff:=@Option.bind_eq_some_iff
mutual
theorem cj6:∀(t:St) (k:Nat) (pr up nx lp:Int),∀it∈U7 t k pr up nx lp,(it.next=nx∨((k:Int)<it.next∧it.next≤(k:Int)+(Y6 t:Nat)))∧(it.loop=lp∨((k:Int)<it.loop∧it.loop≤(k:Int)+(Y6 t:Nat)))
 | .mk id kind labels name proc x has args thn els,k,pr,up,nx,lp,it,h=>by
  rw[P2]at h;rw[at8];rcases ex3.1 h with rfl|h
  ·exact⟨.inl rfl,.inl rfl⟩
  ·have key:∀(l:List St) (k':Nat) (hk:k<k') (hk2:k'+A7 l≤k+(1+A7 thn+A7 els)),it∈C4 l k' pr (k+1) (if kind=6 then((k:Int)+1)else nx) (if kind=6 then((k:Int)+1)else lp)→(∀it∈C4 l k' pr (k+1) (if kind=6 then((k:Int)+1)else nx) (if kind=6 then((k:Int)+1)else lp),(it.next=(if kind=6 then((k:Int)+1)else nx)∨((k':Int)<it.next∧it.next≤(k':Int)+(A7 l:Nat)))∧(it.loop=(if kind=6 then((k:Int)+1)else lp)∨((k':Int)<it.loop∧it.loop≤(k':Int)+(A7 l:Nat)))) →
     (it.next=nx∨((k:Int)<it.next∧it.next≤(k:Int)+((1+A7 thn+A7 els:Nat):Int)))∧(it.loop=lp∨((k:Int)<it.loop∧it.loop≤(k:Int)+((1+A7 thn+A7 els:Nat):Int))):=by
    intro l k' hk hk2 hm hall;obtain⟨h1,h2⟩:=hall it hm;constructor
    ·rcases h1 with h1|⟨h1,h3⟩
     ·split at h1
      ·right;omega
      ·exact .inl h1
     ·right;omega
    ·rcases h2 with h1|⟨h1,h3⟩
     ·split at h1
      ·right;omega
      ·exact .inl h1
     ·right;omega
   simp only[St.thn,St.els];rcases ew7.1 h with h|h
   ·exact key thn (k+1) (by omega) (by omega) h (av0 thn _ _ _ _ _)
   ·refine key els _ ?_ ?_ h (av0 els _ _ _ _ _)
    ·omega
    ·simp only[St.thn];omega
theorem av0:∀(l:List St) (k:Nat) (pr up nx lp:Int),∀it∈C4 l k pr up nx lp,(it.next=nx∨((k:Int)<it.next∧it.next≤(k:Int)+(A7 l:Nat)))∧(it.loop=lp∨((k:Int)<it.loop∧it.loop≤(k:Int)+(A7 l:Nat)))
 | [],_,_,_,_,_,it,h=>by simp[C4]at h
 | t::l,k,pr,up,nx,lp,it,h=>by
  rw[C4]at h;rw[A7];rcases ew7.1 h with h|h
  ·obtain⟨h1,h2⟩:=cj6 t _ _ _ _ _ it h;constructor
   ·rcases h1 with h1|h1
    ·split at h1
     ·exact .inl h1
     ·next hl=>
      right;have:=R6 l;omega
    ·right;omega
   ·rcases h2 with h1|h1
    ·exact .inl h1
    ·right;omega
  ·obtain⟨h1,h2⟩:=av0 l _ _ _ _ _ it h;rw[ae1]at h1 h2;constructor
   ·rcases h1 with h1|h1
    ·exact .inl h1
    ·right;omega
   ·rcases h2 with h1|h1
    ·exact .inl h1
    ·right;omega
end
mutual
theorem bR8:∀(t:St) (k:Nat) (pr up nx lp:Int),∀it∈U7 t k pr up nx lp,∀u,(u∈it.s.thn∨u∈it.s.els)→u∈(U7 t k pr up nx lp).map (·.s)
 | .mk id kind labels name proc x has args thn els,k,pr,up,nx,lp,it,h,u,hu=>by
  rw[P2]at h ⊢;simp only[ez9,ey5,ex3,ew7];rcases ex3.1 h with rfl|h
  ·simp only[St.thn,St.els]at hu;rcases hu with hu|hu
   ·exact .inr (.inl (aB5 thn _ _ _ _ _ u hu))
   ·exact .inr (.inr (aB5 els _ _ _ _ _ u hu))
  ·rcases ew7.1 h with h|h
   ·exact .inr (.inl (ap5 thn _ _ _ _ _ it h u hu))
   ·exact .inr (.inr (ap5 els _ _ _ _ _ it h u hu))
theorem ap5:∀(l:List St) (k:Nat) (pr up nx lp:Int),∀it∈C4 l k pr up nx lp,∀u,(u∈it.s.thn∨u∈it.s.els)→u∈(C4 l k pr up nx lp).map (·.s)
 | [],_,_,_,_,_,it,h,_,_=>by simp[C4]at h
 | t::l,k,pr,up,nx,lp,it,h,u,hu=>by
  rw[C4]at h ⊢;simp only[ey5,ew7];rcases ew7.1 h with h|h
  ·exact .inl (bR8 t _ _ _ _ _ it h u hu)
  ·exact .inr (ap5 l _ _ _ _ _ it h u hu)
theorem aB5:∀(l:List St) (k:Nat) (pr up nx lp:Int),∀u∈l,u∈(C4 l k pr up nx lp).map (·.s)
 | [],_,_,_,_,_,u,h=>by simp at h
 | t::l,k,pr,up,nx,lp,u,h=>by
  rw[C4];simp only[ey5,ew7];rcases ex3.1 h with rfl|h
  ·left;cases u;rw[P2];simp
  ·exact .inr (aB5 l _ _ _ _ _ u h)
end
theorem aL0(d:Nat)(t:St)(l:List St)(n:Int):I5 (d+1) (t::l) n=(if n+1>200∨t.id≠n+1∨Z9 t.labels=false∨R8 t=false then none else(I5 d t.thn (n+1)).bind fun m=>I5 d t.els m).bind fun m=>I5 (d+1) l m:=by
 rw[I5,List.foldlM_cons];rfl
mutual
theorem de1:∀(t:St) (d:Nat) (n m:Int),t.id=n+1→((I5 d t.thn (n+1)).bind fun m=>I5 d t.els m)=some m→m=n+(Y6 t:Nat)∧∀(k:Nat) (pr up nx lp:Int) (j:Nat) (it:It),(U7 t k pr up nx lp)[j]?=some it→it.s.id=n+1+(j:Nat)
 | .mk id kind labels name proc x has args thn els,d,n,m,hid,h=>by
  simp only[St.id,St.thn,St.els]at hid h;obtain⟨m1,h1,h2⟩:=eC5.1 h;obtain⟨e1,i1⟩:=aO2 thn d (n+1) m1 h1;obtain⟨e2,i2⟩:=aO2 els d m1 m h2;refine⟨by rw[at8];simp only[St.thn,St.els];omega,fun k pr up nx lp j it hj=>?_⟩;rw[P2]at hj;cases j with
  | zero=>
   rw[List.getElem?_cons_zero]at hj;obtain rfl:=ex1 hj;simp only[St.id];omega
  | succ j=>
   rw[List.getElem?_cons_succ]at hj;rcases ez0 j (A7 thn)with hlt|hge
   ·rw[eA0 (by rw[G0];exact hlt)]at hj;have:=i1 _ _ _ _ _ j it hj;omega
   ·rw[ez6 (by rw[G0];exact hge),G0]at hj;have:=i2 _ _ _ _ _ _ it hj;simp only[St.thn]at hge this;omega
theorem aO2:∀(l:List St) (d:Nat) (n m:Int),I5 d l n=some m→m=n+(A7 l:Nat)∧∀(k:Nat) (pr up nx lp:Int) (j:Nat) (it:It),(C4 l k pr up nx lp)[j]?=some it→it.s.id=n+1+(j:Nat)
 | [],d,n,m,h=>by
  have:m=n:=by
   cases d with
   | zero=>simp[I5]at h;exact h.symm
   | succ d=>rw[I5]at h;simp at h;exact h.symm
  subst this;exact⟨by simp[A7],fun k pr up nx lp j it hj=>by simp[C4]at hj⟩
 | t::l,0,n,m,h=>by simp[I5]at h
 | t::l,d+1,n,m,h=>by
  rw[aL0]at h;obtain⟨m1,h1,h2⟩:=eC5.1 h;split at h1
  ·cases h1
  ·next hc=>
   have hid:t.id=n+1:=by
    rcases Decidable.em (t.id=n+1)with h|h
    ·exact h
    ·exact absurd (.inr (.inl h)) hc
   obtain⟨e1,i1⟩:=de1 t d n m1 hid h1;obtain⟨e2,i2⟩:=aO2 l (d+1) m1 m h2;refine⟨by rw[A7];omega,fun k pr up nx lp j it hj=>?_⟩;rw[C4]at hj;rcases ez0 j (Y6 t)with hlt|hge
   ·rw[eA0 (by rw[ae1];exact hlt)]at hj;exact i1 _ _ _ _ _ j it hj
   ·rw[ez6 (by rw[ae1];exact hge),ae1]at hj;have:=i2 _ _ _ _ _ _ it hj;omega
end
theorem bk9:∀(l:List Pr) (s:Sh) (i:Nat),(l.foldlM (fun n f=>S6 f n) (s.l.length:Int)).isSome=true→(∀(j:Nat) (it:It),s.l[j]?=some it→it.s.id=(j:Int)+1)→∀(j:Nat) (it:It),(G2 s i l).l[j]?=some it→it.s.id=(j:Int)+1
 | [],s,i,_,h,j,it,hj=>h j it hj
 | f::l,s,i,hf,h,j,it,hj=>by
  rw[List.foldlM_cons]at hf;obtain⟨n,hn⟩:=eB0.1 hf;obtain⟨m,hm,hm2⟩:=eC5.1 hn;unfold S6 at hm;split at hm
  ·cases hm
  ·obtain⟨e1,i1⟩:=aO2 f.body 12 _ _ hm;rw[G2]at hj;refine bk9 l (E6 s i f) (i+1) ?_ (fun j it hj=>?_) j it hj
   ·simp only[E6,ev5,G0];rw[show((s.l.length+A7 f.body:Nat):Int)=m by omega,hm2];rfl
   ·simp only[E6]at hj;rcases ez0 j s.l.length with hlt|hge
    ·rw[eA0 hlt]at hj;exact h j it hj
    ·rw[ez6 hge]at hj;have:=i1 _ _ _ _ _ _ it hj;omega
theorem aG3{p:Pg}(hm:N1 p=true):∀(j:Nat) (it:It),(b9 p).l[j]?=some it→it.s.id=(j:Int)+1:=by
 simp only[N1,ex5]at hm;exact bk9 p.procs ⟨p,[],[],[]⟩ 0 hm.2 fun j it hj=>by simp at hj
def Rg(x y:Nat)(a:Int):Prop:=a = -1∨((x:Int)<a∧a≤(y:Int))
structure al5 (p:Pg) (i x y:Nat):Prop where
 ok:bn9 (b9 p) i x y
 ids:∀it∈(b9 p).of i,(x:Int)<it.s.id∧it.s.id≤(y:Int)
 next:∀it∈(b9 p).of i,Rg x y it.next
 loop:∀it∈(b9 p).of i,it.loop=0∨((x:Int)<it.loop∧it.loop≤(y:Int))
 sub:∀it∈(b9 p).of i,∀u,(u∈it.s.thn∨u∈it.s.els)→(x:Int)<u.id∧u.id≤(y:Int)
 at_:∀a:Int,(x:Int)<a→a≤(y:Int)→(b9 p).it a∈(b9 p).of i∧((b9 p).it a).s.id=a∧(b9 p).l[(a-1).toNat]?=some ((b9 p).it a)
theorem M9{p:Pg}(hm:N1 p=true)(hw:C8 p≤1000000)(i:Nat)(hi:i<p.procs.length):∃x,al5 p i x (x+A7 p.procs[i].body):=by
 obtain⟨x,hok,hof⟩:=V0 p hw i hi;have hids:=aG3 hm;have hmem:∀it∈(b9 p).of i,∃j:Nat,j<A7 p.procs[i].body∧(b9 p).l[x+j]?=some it:=fun it h=>by
  rw[hok.of_]at h;obtain⟨j,hj⟩:=List.getElem?_of_mem h;rw[eF0,eF1]at hj;split at hj
  ·next hlt=>exact⟨j,by omega,hj⟩
  ·cases hj
 have hid:∀it∈(b9 p).of i,(x:Int)<it.s.id∧it.s.id≤((x+A7 p.procs[i].body:Nat):Int):=fun it h=>by
  obtain⟨j,hj,e⟩:=hmem it h;have:=hids _ _ e;omega
 have hnl:=av0 p.procs[i].body x i 0 (-1) 0;rw[←hof]at hnl;have hsub:=ap5 p.procs[i].body x i 0 (-1) 0;rw[←hof]at hsub;refine⟨x,hok,hid,fun it h=>?_,fun it h=>?_,fun it h u hu=>?_,fun a h1 h2=>?_⟩
 ·rcases(hnl it h).1 with h1|h1
  ·exact .inl h1
  ·exact .inr ⟨h1.1,by omega⟩
 ·rcases(hnl it h).2 with h1|h1
  ·exact .inl h1
  ·exact .inr ⟨h1.1,by omega⟩
 ·obtain⟨it2,hit2,rfl⟩:=ey0.1 (hsub it h u hu);exact hid it2 hit2
 ·have hlen:=hok.len;have hlt:(a-1).toNat<(b9 p).l.length:=by omega
  have hg:(b9 p).l[(a-1).toNat]?=some ((b9 p).it a):=by
   unfold Sh.it;rw[List.getD,ev2 hlt];rfl
  refine⟨?_,?_,hg⟩
  ·rw[hok.of_];refine ex2 (i:=(a-1).toNat-x) ?_;rw[eF0,eF1,if_pos (by omega),show x+((a-1).toNat-x)=(a-1).toNat by omega,hg]
  ·have:=hids _ _ hg;omega
structure E4 (p:Pg):Prop extends Known p where
 fits:∀it∈(b9 p).l,it.s.kind=4→ac1 p it.s=true
 single:∀it∈(b9 p).l,it.s.kind=4→ac8 it.s (N3 p it.s.proc)=true
 jump:∀i (hi:i<p.procs.length),am6 (b9 p) p.procs[i] ((b9 p).of i)=none
theorem aC1{s:Sh}:∀{l:List Pr} {i:Nat},P3 s i l=none→∀k (hk:k<l.length),am6 s l[k] (s.of (i+k:Nat))=none
 | [],i,_,k,hk=>by simp at hk
 | f::l,i,h,k,hk=>by
  rw[P3]at h;split at h
  ·cases h
  ·next h'=>
   cases k with
   | zero=>simpa using h'
   | succ k=>
    have:=aC1 h k (by simpa using hk);rw[show i+1+k=i+(k+1) by omega]at this;simpa using this
theorem bp3{s:Sh}{f:Pr}{l:List It}{e:Int×Int}(h:am6 s f l=some e):e.1=7:=by
 unfold am6 at h;split at h
 ·obtain rfl:=ex1 h;rfl
 ·split at h
  ·obtain rfl:=ex1 h;rfl
  ·cases h
theorem aC0{s:Sh}:∀{l:List Pr} {i:Nat} {e:Int×Int},P3 s i l=some e→e.1=7
 | [],i,e,h=>by cases h
 | f::l,i,e,h=>by
  rw[P3]at h;split at h
  ·next h'=>obtain rfl:=ex1 h;exact bp3 h'
  ·exact aC0 h
theorem Q9{p:Pg}(h:S0 p=true):E4 p:=by
 have h:=ev6 h;unfold aA6 at h;split at h
 ·simp at h
 split at h
 ·next h1=>exact absurd h h1
 next h1=>
 split at h
 ·next h2=>exact absurd h h2
 next h2=>
 split at h
 ·next h3=>exact absurd h h3
 next h3=>
 have h1:(L4 p).1=0:=eH6 h1;have h2:(X0 p).1=0:=eH6 h2;have h3:(ay4 p).1=0:=eH6 h3;refine⟨bi2 h1,fun it hit h4=>?_,fun it hit h4=>?_,fun i hi=>?_⟩
 ·unfold X0 at h2;rw[if_neg (by rw[h1];simp)]at h2;split at h2
  ·simp at h2
  ·next hf=>
   have:=eE9.1 hf it hit;rw[eC8 h4]at this;simpa using this
 ·unfold aA3 at h;rw[if_neg (by rw[h2];simp)]at h;split at h
  ·simp at h
  ·next hf=>
   have:=eE9.1 hf it hit;rw[eC8 h4]at this;simpa using this
 ·unfold ay4 at h3;rw[if_neg (by rw[h1];simp)]at h3;have hno:P3 (b9 p) 0 p.procs=none:=by
   cases hs:P3 (b9 p) 0 p.procs with
   | none=>rfl
   | some e=>
    rw[hs]at h3;have:=aC0 hs;simp at h3;omega
  have:=aC1 hno i hi
  rwa [ey7]at this
theorem aI0{s:Sh}:∀{l:List It} {seen r:List A4},ap6 s seen l = .inl r→∀it∈l,am7 s it=true
 | [],_,_,_,it,h=>by simp at h
 | x::l,seen,r,hj,it,h=>by
  rw[ap6]at hj;split at hj
  ·cases hj
  ·split at hj
   ·next hl=>
    rcases ex3.1 h with rfl|h
    ·exact hl
    ·exact aI0 hj it h
   ·cases hj
theorem E4.leads{p:Pg}(hr:E4 p){i:Nat}(hi:i<p.procs.length):∀it∈(b9 p).of i,am7 (b9 p) it=true:=by
 have:=hr.jump i hi;unfold am6 at this;split at this
 ·cases this
 ·next h=>exact aI0 h
theorem dC3{p:Pg}{i x y:Nat}(pt:al5 p i x y){lb:A4}{a:Int}(h:(b9 p).at i lb=some a):Rg x y a:=by
 unfold Sh.at at h;split at h
 ·next it hf=>
  obtain rfl:=ex1 h;exact .inr (pt.ids it (List.mem_of_find?_eq_some hf))
 ·split at h
  ·obtain rfl:=ex1 h;exact .inl rfl
  ·cases h
theorem bz9{p:Pg}{i x y:Nat}(pt:al5 p i x y){it:It}(hit:it∈(b9 p).of i){o:Int}(ho:Rg x y o):Rg x y (ay2 it.s.thn o)∧Rg x y (ay2 it.s.els o):=by
 constructor
 ·cases h:it.s.thn with
  | nil=>exact ho
  | cons t l=>exact .inr (pt.sub it hit t (.inl (by rw[h];simp)))
 ·cases h:it.s.els with
  | nil=>exact ho
  | cons t l=>exact .inr (pt.sub it hit t (.inr (by rw[h];simp)))
theorem cb7{p:Pg}(hr:E4 p)(hw:C8 p≤1000000){i x y:Nat}(hi:i<p.procs.length)(pt:al5 p i x y):∀it∈(b9 p).of i,∀t∈(b9 p).goes it,Rg x y t:=by
 intro it hit t ht;have hnx:=pt.next it hit;have hid:Rg x y it.s.id:=.inr (pt.ids it hit);have B4:=hr.leads hi it hit;unfold am7 at B4;unfold Sh.goes at ht;split at ht
 ·simp only[ex3,eA6,eG5]at ht;rcases ht with rfl|rfl
  ·exact(bz9 pt hit hnx).1
  ·exact(bz9 pt hit hnx).2
 split at ht
 ·simp only[ex3,eA6,eG5]at ht;rcases ht with rfl|rfl
  ·exact(bz9 pt hit hid).1
  ·exact hnx
 split at ht
 ·next h7=>
  rw[if_pos (.inl h7)]at B4;have hl0:it.loop≠0:=by simpa using B4
  simp only[ey1]at ht;subst ht;rcases pt.loop it hit with h|h
  ·exact absurd h hl0
  ·exact pt.next _ (pt.at_ it.loop h.1 h.2).1
 split at ht
 ·next h8=>
  rw[if_pos (.inr h8)]at B4;have hl0:it.loop≠0:=by simpa using B4
  simp only[ey1]at ht;subst ht;rcases pt.loop it hit with h|h
  ·exact absurd h hl0
  ·exact .inr h
 split at ht
 ·simp only[ey1]at ht;subst ht;exact .inl rfl
 split at ht
 ·next h7 h8 _ h10=>
  have hn:¬(it.s.kind=7∨it.s.kind=8):=fun h=>h.elim h7 h8;rw[if_neg hn,if_pos h10]at B4;simp only[ey1]at ht;subst ht;obtain⟨a,ha⟩:=eB0.1 B4;rw[ha];rw[bB1 p hw i hi it hit]at ha;exact dC3 pt ha
 ·simp only[ey1]at ht;subst ht;exact hnx
theorem aT0{α:Type}(eq:α→α→Bool){z:α}:∀(l:List α) (p:α),z∈ag2 eq p l→z∈l
 | [],p,h=>by simp[ag2]at h
 | x::l,p,h=>by
  rw[ag2]at h;split at h
  ·exact eB5 _ (aT0 eq l x h)
  ·rcases ex3.1 h with rfl|h
   ·simp
   ·exact eB5 _ (aT0 eq l x h)
theorem ci7{α:Type}(eq:α→α→Bool){z:α}:∀(l:List α),z∈ad6 eq l→z∈l
 | [],h=>by simp[ad6]at h
 | x::l,h=>by
  rw[ad6]at h;rcases ex3.1 h with rfl|h
  ·simp
  ·exact eB5 _ (aT0 eq l x h)
theorem br8{α:Type}(eq:α→α→Bool):∀(l:List α) (p:α),(ag2 eq p l).length≤l.length
 | [],p=>by simp[ag2]
 | x::l,p=>by
  have:=br8 eq l x;rw[ag2];split<;>simp only[ex7]<;>omega
theorem aL7{z:Sp}{l:List Sp}(h:z∈an9 l):z∈l:=(F4 _ _).mem_iff.1 (ci7 _ _ h)
theorem aL6(l:List Sp):(an9 l).length≤l.length:=by
 unfold an9;rw[←(F4 cQ3 l).length_eq];cases U2 cQ3 l with
 | nil=>simp[ad6]
 | cons x m=>simp only[ad6,ex7];have:=br8 aQ8 m x;omega
def RgS(x y:Nat)(t:Sp):Prop:=(t.src=0∨((x:Int)<t.src∧t.src≤(y:Int)))∧Rg x y t.dst
theorem bG2{p:Pg}{i x y:Nat}(pt:al5 p i x y):Rg x y ((b9 p).first i):=by
 have h1:=pt.ok.lo;have h2:=pt.ok.hi;unfold Sh.first U5;simp only[ex8,List.getD,h1,h2,eA9];split
 ·right;omega
 ·exact .inl rfl
theorem bl9{p:Pg}(hr:E4 p)(hw:C8 p≤1000000){i x y:Nat}(hi:i<p.procs.length)(pt:al5 p i x y):∀t∈(b9 p).steps i,RgS x y t:=by
 intro t ht;have ht:=aL7 ht;rcases ex3.1 ht with rfl|ht
 ·exact⟨.inl rfl,bG2 pt⟩
 ·obtain⟨it,hit,ht⟩:=ez2.1 ht;obtain⟨a,ha,rfl⟩:=ey0.1 ht;exact⟨.inr (pt.ids it hit),cb7 hr hw hi pt it hit a ha⟩
theorem bH3(s:Sh)(it:It):(s.goes it).length≤2:=by
 unfold Sh.goes
 repeat' split
 all_goals simp
theorem eg8:af6 prog 195=true:=by kernel_rfl
theorem eg9:af6 prog 197=true:=by kernel_rfl
theorem cx0:af6 prog 238=true:=by kernel_rfl
theorem au9{h:Hp}{w:World}{v:Value}{xs:List Sp}(ho:A9 h w 187 v xs)(hl:xs.length≤1000000000)(hh:B4 h (d7 w))(hp:∀x∈xs,plc x.src∧plc x.dst):
  Calls prog 136 #[v] w fun e w'=>∃u,e = .returned u∧(A9 h w' 187 u (an9 xs)∧o9 (A3 v) w w'∧∀b,A3 u b→A3 v b):=by
 refine d9 (args:=[v]) hm func136 rfl (by kernel_rfl) (by show 1≤_;decide +kernel) ?_;simp only[n3,n9,simprocAttr];refine y5 eg8 (bM8 ho hl hp) ?_;rintro _ w2 ⟨ho2,hm2⟩;simp only[n3,simprocAttr];refine y5 eg9 (bR0 ho2 (by rw[(F4 _ _).length_eq];exact hl) (K6 hh hm2 fun b hb=>ho.free hb)) ?_;rintro u w3 ⟨ho3,hm3,hb3⟩;simp only[n3,simprocAttr];refine n7 results136 ?_;simp only[p6,simprocAttr];exact⟨ho3,hm2.chain hm3 fun _ _ h=>h,hb3⟩
theorem aT4(v:Value)(l:List St)(o:Int)(w:World)(hv:R (d7 w) v l):Calls prog 238 #[v,.int .i64 o] w fun e w'=>∃u,e = .returned u∧(u = .int .i64 (ay2 l o)∧w'=w):=by
 refine d9 (args:=[v,.int .i64 o]) hm func238 rfl (by kernel_rfl) (by show 2≤_;decide +kernel) ?_;have hS:=hv.isS;have hn:=hv.vlen;cases l with
 | nil=>
  have h0:decide ((0:Int)<(([]:List St).length:Int))=false:=by simp
  simp only[n3,n9,simprocAttr,hS,hn,h0];refine n7 results238 ?_;simp only[p6,simprocAttr];exact⟨by trivial,by trivial⟩
 | cons t l=>
  have h0:decide ((0:Int)<((t::l).length:Int))=true:=eC8 (by simp only[ex7];omega);have hin:=hv.inS (k:=0) (by simp);obtain⟨_,_,_,_,_,_,_,_,_,ldt,_⟩:=(hv.at_ (i:=0) rfl).st;have lt:=ldt w (i4 _);have hz:z7.sz St=13:=rfl;rw[hz,Nat.zero_mul]at lt;simp only[n3,n9,p9,simprocAttr,hS,hn,h0,hin,lt];refine n7 results238 ?_;simp only[p6,simprocAttr];exact⟨by trivial,by trivial⟩
theorem cv0(a:Addr)(vit:Value)(p:Pg)(it:It)(i x y:Nat)(w:World)(hs:At (d7 w) a (b9 p))(hit:SV (d7 w) vit it)(hr:E4 p)(hw:C8 p≤1000000)(hi:i<p.procs.length)(pt:al5 p i x y)(hmi:it∈(b9 p).of i):
  Calls prog 187 #[.pointer (some a),vit] w fun e w'=>∃u,e = .returned u∧(A9 (d7 w) w' 3 u ((b9 p).goes it)∧o6 w w'):=by
 refine d9 (args:=[.pointer (some a),vit]) hm func187 rfl (by kernel_rfl) (by show 2≤_;decide +kernel) ?_;obtain⟨b,w1,hb1,hx1,hat⟩:=bZ8 hit (i4 _);obtain⟨hats,ldi,sdi⟩:=hat.it;obtain⟨_,_,vth,vel,_,_,hth,hel,_,ldt,sdt⟩:=hats.st;have li:=ldi w1 (i4 _);have lt:=ldt w1 (i4 _);have hpr:=bB1 p hw i hi it hmi;rw[hpr]at li;have lit1:∀(t:Int) (w':World),B4 (d7 w) (d7 w')→∃v w'',(Instr.buildSlice 118 1 #[(0,.int .i64 t)]).run prog w' = .ok v w''∧A9 (d7 w) w'' 3 v [t]∧o6 w' w'':=fun t w' B4=>by
  obtain⟨v,w'',h1,h2,h3,_⟩:=lit (P:=prog) (w:=w') (h:=d7 w) (α:=Int) (xs:=[.int .i64 t]) (ys:=[t]) (parts:=#[(0,.int .i64 t)]) (n:=1) ad0 rfl (K9.2 rfl) (by simp[Value.cells]) rfl rfl (by simp) (by simp) B4;exact⟨v,w'',h1,h2,h3⟩
 have lit2:∀(t t2:Int) (w':World),B4 (d7 w) (d7 w')→∃v w'',(Instr.buildSlice 118 2 #[(0,.int .i64 t),(1,.int .i64 t2)]).run prog w' = .ok v w''∧A9 (d7 w) w'' 3 v [t,t2]∧o6 w' w'':=fun t t2 w' B4=>by
  obtain⟨v,w'',h1,h2,h3,_⟩:=lit (P:=prog) (w:=w') (h:=d7 w) (α:=Int) (xs:=[.int .i64 t,.int .i64 t2]) (ys:=[t,t2]) (parts:=#[(0,.int .i64 t),(1,.int .i64 t2)]) (n:=2) ad0 rfl (K9.2 rfl) (by simp[Value.cells]) rfl rfl (by simp) (by simp) B4;exact⟨v,w'',h1,h2,h3⟩
 have hx1d:=hx1.trans (o6.drew w1);have hst:∀w',o6 w1.drew w'→B4 (d7 w1) (d7 w'):=fun w' h=>b7 ((o6.drew w1).trans h);have si:=sdi (fun w'=>o6 w1.drew w') w1.drew (o9.refl _) hst;have st:=sdt (fun w'=>o6 w1.drew w') w1.drew (o9.refl _) hst;have hF:=show(b9 p).goes it=if it.s.kind=5 then[ay2 it.s.thn it.next,ay2 it.s.els it.next]else if it.s.kind=6 then[ay2 it.s.thn it.s.id,it.next]else if it.s.kind=7 then[((b9 p).it it.loop).next]else if it.s.kind=8 then[it.loop]else if it.s.kind=9 then[-1]else if it.s.kind=10 then[((b9 p).at it.proc it.s.name).getD 0]else[it.next]from rfl;rcases ev3 (decide (it.s.kind=5))with k5|k5
 ·rw[if_pos (ev6 k5)]at hF;obtain⟨vr,w2,hl,ho,hx2⟩:=lit2 (ay2 it.s.thn it.next) (ay2 it.s.els it.next) w1.drew (b7 hx1d);simp only[n3,n9,simprocAttr,hb1,lt,k5];refine C2 (fun w'=>o6 w1.drew w') 11 (A8 [0,1,2,3,4,6,7,8,9,10,5]) (by decide +kernel) (o9.refl _) ?_;simp only[D5,A8,n3,n9,simprocAttr,si,st];refine D1 cx0 (aT4 vth it.s.thn it.next w1.drew (z7.mono (b7 (o6.drew w1)) hth)) ⟨o9.refl _,?_⟩;simp only[D5,n3,simprocAttr];refine D1 cx0 (aT4 vel it.s.els it.next w1.drew (z7.mono (b7 (o6.drew w1)) hel)) ?_;simp only[n3,simprocAttr,hl];refine n7 results187 ?_;simp only[p6,simprocAttr];exact⟨by rw[hF];exact ho,hx1d.trans hx2⟩
 rw[if_neg (ev7 k5)]at hF;rcases ev3 (decide (it.s.kind=6))with k6|k6
 ·rw[if_pos (ev6 k6)]at hF;obtain⟨vr,w2,hl,ho,hx2⟩:=lit2 (ay2 it.s.thn it.s.id) it.next w1.drew (b7 hx1d);simp only[n3,n9,simprocAttr,hb1,lt,k5,k6];refine C2 (fun w'=>o6 w1.drew w') 9 (A8 [0,1,2,3,4,5,7,8,6]) (by decide +kernel) (o9.refl _) ?_;simp only[D5,A8,n3,n9,simprocAttr,si,st];refine D1 cx0 (aT4 vth it.s.thn it.s.id w1.drew (z7.mono (b7 (o6.drew w1)) hth)) ⟨o9.refl _,?_⟩;simp only[D5,n3,simprocAttr,hl];refine n7 results187 ?_;simp only[p6,simprocAttr];exact⟨by rw[hF];exact ho,hx1d.trans hx2⟩
 rw[if_neg (ev7 k6)]at hF;have B4:=hr.leads hi it hmi;unfold am7 at B4;rcases ev3 (decide (it.s.kind=7))with k7|k7
 ·rw[if_pos (ev6 k7)]at hF;rw[if_pos (.inl (ev6 k7))]at B4;have hlp:(x:Int)<it.loop∧it.loop≤(y:Int):=by
   rcases pt.loop it hmi with h|h
   ·rw[h]at B4;simp at B4
   ·exact h
  obtain⟨_,_,hget⟩:=pt.at_ it.loop hlp.1 hlp.2;obtain⟨vr,w2,hl,ho,hx2⟩:=lit1 ((b9 p).it it.loop).next w1.drew (b7 hx1d);obtain⟨vL,vlo,vhi,hL,_,_,_,_,sds⟩:=(hs.mono (b7 hx1)).sh;have ss:=sds (fun w'=>o6 w1.drew w') w1.drew (o9.refl _) hst;obtain⟨_,_,sdl⟩:=(hL.at_ hget).it;have sl:=sdl (fun w'=>o6 w1.drew w') w1.drew (o9.refl _) hst;have hz:z7.sz It=17:=rfl;rw[hz]at sl;have hlt:=(ev8.1 hget).1;have hin:=hL.inS hlt;have hfit:=pt.ok.fit;have hlen:=pt.ok.len;have hwl:IntKind.i64.wrap (it.loop-1)=(((it.loop-1).toNat:Nat):Int):=by rw[K1 _ (by omega)];omega
  generalize(it.loop-1).toNat=q at hin sl hwl;simp only[n3,n9,simprocAttr,hb1,lt,k5,k6,k7];refine C2 (fun w'=>o6 w1.drew w') 12 (A8 [0,1,2,3,4,5,6,7,8,9,10,11]) (by decide +kernel) (o9.refl _) ?_;simp only[D5,A8,n3,n9,p9,simprocAttr,si,ss,sl,hin,hwl,hl,F7];refine⟨hx2,?_⟩;refine n7 results187 ?_;simp only[p6,simprocAttr];exact⟨by rw[hF];exact ho,hx1d.trans hx2⟩
 rw[if_neg (ev7 k7)]at hF;rcases ev3 (decide (it.s.kind=8))with k8|k8
 ·rw[if_pos (ev6 k8)]at hF;obtain⟨vr,w2,hl,ho,hx2⟩:=lit1 it.loop w1 (b7 hx1);simp only[n3,n9,simprocAttr,hb1,li,lt,k5,k6,k7,k8,hl];refine n7 results187 ?_;simp only[p6,simprocAttr];exact⟨by rw[hF];exact ho,hx1.trans hx2⟩
 rw[if_neg (ev7 k8)]at hF;rcases ev3 (decide (it.s.kind=9))with k9|k9
 ·rw[if_pos (ev6 k9)]at hF;obtain⟨vr,w2,hl,ho,hx2⟩:=lit1 (-1) w1 (b7 hx1);simp only[n3,n9,simprocAttr,hb1,lt,k5,k6,k7,k8,k9,hl];refine n7 results187 ?_;simp only[p6,simprocAttr];exact⟨by rw[hF];exact ho,hx1.trans hx2⟩
 rw[if_neg (ev7 k9)]at hF;rcases ev3 (decide (it.s.kind=10))with k10|k10
 ·rw[if_pos (ev6 k10),hpr]at hF;simp only[n3,n9,simprocAttr,hb1,li,lt,k5,k6,k7,k8,k9,k10];refine B3 dd6 (bL9 a (b9 p) i x y it.s.name w1 (hs.mono (b7 hx1)) pt.ok (by rw[I6];exact hi) (ac7 p hw) (by rw[I6];exact an6 p hw)) (fun w2 hx2=>?_);cases hq:(b9 p).at i it.s.name with
  | none=>
   obtain⟨vr,w3,hl,ho,hx3⟩:=lit1 0 w2 (b7 (hx1.trans hx2));simp only[n3,simprocAttr,bK1,hl];refine n7 results187 ?_;simp only[p6,simprocAttr];exact⟨by rw[hF,hq];exact ho,hx1.trans (hx2.trans hx3)⟩
  | some q=>
   obtain⟨vr,w3,hl,ho,hx3⟩:=lit1 q w2 (b7 (hx1.trans hx2));simp only[n3,simprocAttr,bK1,hl];refine n7 results187 ?_;simp only[p6,simprocAttr];exact⟨by rw[hF,hq];exact ho,hx1.trans (hx2.trans hx3)⟩
 ·rw[if_neg (ev7 k10)]at hF;obtain⟨vr,w2,hl,ho,hx2⟩:=lit1 it.next w1 (b7 hx1);simp only[n3,n9,simprocAttr,hb1,li,lt,k5,k6,k7,k8,k9,k10,hl];refine n7 results187 ?_;simp only[p6,simprocAttr];exact⟨by rw[hF];exact ho,hx1.trans hx2⟩
theorem cw4:af6 prog 136=true:=by kernel_rfl
theorem eg4:af6 prog 186=true:=by kernel_rfl
theorem eg5:af6 prog 187=true:=by kernel_rfl
theorem ag1(a b c:Int):B9 prog 187 [(0,.int .i64 a),(1,.int .i64 b),(2,.int .i64 c)]=some (.agg (z6.cells (⟨a,b,c⟩:Sp)).toArray):=by
 simp[B9,cH2,J5,Instr.fill,Value.cells,z6.cells,Sp.cells]
theorem bF6{α:Type}[z7 α][z6 α]{h:Hp}(x:α):z7.enc h (Value.cells (.agg (z6.cells x).toArray)).toList x:=(z6.iff_ _ _ _).2 (by simp[Value.cells])
theorem bV1{x y:Nat}(hy:y≤1000000){a:Int}(h:Rg x y a):plc a:=by
 unfold plc;rcases h with h|h<;>omega
theorem co0{p:Pg}(hr:E4 p)(hw:C8 p≤1000000){i x y:Nat}(hi:i<p.procs.length)(pt:al5 p i x y):∀t∈((⟨0,(b9 p).first i,1⟩:Sp)::((b9 p).of i).flatMap fun it=>((b9 p).goes it).map fun t=>⟨it.s.id,t,1⟩),plc t.src∧plc t.dst:=by
 intro t ht;have hy:y≤1000000:=ew0 pt.ok.len pt.ok.fit;rcases ex3.1 ht with rfl|ht
 ·exact⟨by unfold plc;simp,bV1 hy (bG2 pt)⟩
 ·obtain⟨it,hit,ht⟩:=ez2.1 ht;obtain⟨a,ha,rfl⟩:=ey0.1 ht;have:=pt.ids it hit;exact⟨by unfold plc;simp only[];omega,bV1 hy (cb7 hr hw hi pt it hit a ha)⟩
theorem cg6(a:Addr)(p:Pg)(i x y:Nat)(w:World)(hs:At (d7 w) a (b9 p))(hr:E4 p)(hw:C8 p≤1000000)(hi:i<p.procs.length)(pt:al5 p i x y):
  Calls prog 125 #[.pointer (some a),.int .i64 i] w fun e w'=>∃u,e = .returned u∧(A9 (d7 w) w' 187 u ((b9 p).steps i)∧o6 w w'):=by
 refine d9 (args:=[.pointer (some a),.int .i64 i]) hm func125 rfl (by kernel_rfl) (by show 2≤_;decide +kernel) ?_;obtain⟨hmem,hlen⟩:=aZ3 p hw i hi;have hgl:=bH3 (b9 p);have hF:(b9 p).steps i=an9 (⟨0,(b9 p).first i,1⟩::((b9 p).of i).flatMap fun it=>((b9 p).goes it).map fun t=>⟨it.s.id,t,1⟩):=rfl;have hall:=co0 hr hw hi pt;simp only[n3,n9,simprocAttr];refine B3 eg4 (bM0 a (b9 p) i x y w hs pt.ok) (fun w1 hx1=>?_);obtain⟨v0,w2,hlit,ho2,hx2,_⟩:=lit (P:=prog) (w:=w1) (h:=d7 w) (α:=Sp) (xs:=[.agg (z6.cells (⟨0,(b9 p).first i,1⟩:Sp)).toArray]) (ys:=[⟨0,(b9 p).first i,1⟩]) (parts:=#[(0,.agg (z6.cells (⟨0,(b9 p).first i,1⟩:Sp)).toArray)]) (n:=1) bl3 rfl (U6.2 (by simp[Value.cells])) (by simp[Value.cells,z6.cells,Sp.cells]) rfl rfl (by simp) (by simp) (b7 hx1);have hx02:=hx1.trans hx2;simp only[n3,simprocAttr,ag1,hlit];refine y5 aY8 (aD3 (d7 w) a (b9 p) i x y w2 hs (b7 hx02) pt.ok) ?_;rintro ui w3 ⟨hui,hx3⟩;have hgo:=fun it vit w' (h1:it∈(b9 p).of i) (h2:SV (d7 w') vit it) (h3:At (d7 w') a (b9 p))=>cv0 a vit p it i x y w' h3 h2 hr hw hi pt h1;generalize hl:(b9 p).of i=l at hui hlen hF hgo hall;have hx03:=hx02.trans hx3;have hS2:=hui.isS;have hn2:=hui.vlen;generalize hB:(fun it:It=>((b9 p).goes it).map fun t=>(⟨it.s.id,t,1⟩:Sp))=B at hF hall;have hBl:∀it,(B it).length≤2:=fun it=>by rw[←hB];simp only[ew3];exact hgl it
 generalize hfs:(⟨0,(b9 p).first i,1⟩:Sp)=s0 at ho2 hF hall;have hbt:∀k,((l.take k).flatMap B).length≤800000:=fun k=>by
  refine ew0 (Q7 B 2 _ fun x _=>hBl x) ?_;rw[ew6];omega
 simp only[n3,n9,simprocAttr,hS2,hn2];refine n8 [0,17,18] (σ:=Nat×Value) (fun s f w'=>f 19 = .int .i64 s.1∧f 5=s.2∧s.1≤l.length∧A9 (d7 w) w' 187 s.2 (s0::(l.take s.1).flatMap B)∧o6 w w') (fun s=>l.length-s.1) (0,v0) (by decide +kernel) ?_ ?_
 ·simp only[p6,simprocAttr];exact⟨by trivial,by trivial,ew4 _,by simpa using ho2.ext hx3,hx03⟩
 rintro⟨j,u⟩ f w5 hk ⟨h19,h5,hjl,ho,hx5⟩;simp only at h19 h5 hjl ho;simp only[ev4,p6,simprocAttr]at hk;obtain⟨e0,e17,e18,_⟩:=hk;have hpre:=hbt j;simp only[n3,n9,simprocAttr,h19,e18];refine i5 (fun hc=>?_) (fun hc=>?_);rotate_left
 ·have hge:j=l.length:=by simp at hc;omega
  subst hge;rw[ew5]at ho hpre;simp only[n3,simprocAttr,h5];refine y5 cw4 (au9 ho (by simp only[ex7];omega) (b7 hx5) hall) ?_;rintro u6 w6 ⟨ho6,hm6,_⟩;simp only[n3,simprocAttr];refine n7 results125 ?_;simp only[p6,simprocAttr];exact⟨by rw[hF];exact ho6,ho.ext2 hx5 hm6⟩
 have hlt:j<l.length:=by simpa using hc
 have hin:=hui.inS hlt;obtain⟨sv,hsv,hld⟩:=G1 (P:=prog) (t:=127) hui (b7 hx5) (ev2 hlt) X9 Y1 Y0 I9;rw[I9]at hld;have htk:=J0 B l hlt;have hmi:=ew2 hlt;generalize l[j]=it at hsv htk hmi;obtain⟨c,wz,w6,hal,hst,hx6,hati⟩:=aG8 (w:=w5) (A3 u) hsv (fun b hb=>ho.lt hb);obtain⟨ldI,_⟩:=L8.it_v hsv hati;obtain⟨us,hus,hats,_,_⟩:=L8.it hsv hati;obtain⟨_,_,_,_,_,_,_,_,_,_,_,ldt,_⟩:=L8.st hus hats;have k1:=ldI w6 (C0 _ _);have hx56:=hx5.trans hx6;simp only[n3,n9,p9,simprocAttr,h19,e0,e17,hin,hld,hal,hst,k1];refine y5 eg5 (hgo it sv w6 hmi (hsv.mono (b7 hx56)) (hs.mono (b7 hx56))) ?_;rintro ug w7 ⟨hog,hx7⟩;have ho6:=ho.ext hx6;have hug:R (B5 w7 (A3 u)) ug ((b9 p).goes it):=hog.flatR fun b hb=>D3 fun hbu=>by
  have h1:=ho6.lt hbu;have h2:=C9 (hog.free hb);omega
 have ho7:=ho6.ext hx7;have hx57:=hx56.trans hx7;have hBit:B it=((b9 p).goes it).map fun t=>(⟨it.s.id,t,1⟩:Sp):=by rw[←hB]
 have hgit:=hgl it;generalize(b9 p).goes it=gl at hug hBit hgit;generalize(l.take j).flatMap B=pre at ho7 hpre htk;have hS3:=hug.isS;have hn3:=hug.vlen;simp only[n3,n9,simprocAttr,hS3,hn3];refine n8 [0,7,17,18,19,25,26] (σ:=Nat×Value) (fun s f w'=>f 27 = .int .i64 s.1∧f 5=s.2∧s.1≤gl.length∧A9 (d7 w) w' 187 s.2 (s0::(pre++(gl.take s.1).map fun t=>(⟨it.s.id,t,1⟩:Sp)))∧o9 (A3 u) w7 w'∧F1 w7 u s.2) (fun s=>gl.length-s.1) (0,u) (by decide +kernel) ?_ ?_
 ·simp only[p6,simprocAttr];exact⟨by trivial,h5,ew4 _,by simpa using ho7,o9.refl _,fun b hb=>.inl hb⟩
 rintro⟨k,u8⟩ f8 w8 hk ⟨h27,h58,hkl,ho8,hm8,hmv8⟩;simp only at h27 h58 hkl ho8 hmv8;simp only[ev4,p6,simprocAttr]at hk;obtain⟨q0,q7,q17,q18,q19,q25,q26,_⟩:=hk;have hx08:=ho7.ext2 hx57 hm8;simp only[n3,n9,simprocAttr,h27,q26];refine i5 (fun hc=>?_) (fun hc=>?_);rotate_left
 ·have hge:k=gl.length:=by simp at hc;omega
  subst hge;rw[ew5,←hBit]at ho8;simp only[n3,n9,simprocAttr,q19,h19];refine⟨(j+1,u8),by simp only[];omega,by simp only[];rw[B1 j (by omega)],h58,by simp only[];omega,?_,hx08⟩;simp only[];rw[htk];exact ho8
 have hlt8:k<gl.length:=by simpa using hc
 clear hin hld;have hin:=hug.inS hlt8;have hld:=aH4 hug (D2 hm8) hlt8;have htk8:(gl.take (k+1)).map (fun t=>(⟨it.s.id,t,1⟩:Sp))=(gl.take k).map (fun t=>(⟨it.s.id,t,1⟩:Sp))++[⟨it.s.id,gl[k],1⟩]:=by
  rw[ew1 hlt8,ey5];rfl
 generalize gl[k]=y1 at hld htk8;have k2:=ldt w8 (D2 (o9.chain (o9.up hx7) hm8 fun _ _ h=>h));obtain⟨p1,u9,w9,p2,p3,p4,p5⟩:=push (e:=146) bl3 rfl ho8 (x:=.agg (z6.cells (⟨it.s.id,y1,1⟩:Sp)).toArray) (y:=⟨it.s.id,y1,1⟩) (bF6 _) (by simp only[ex7,ev5,ew3,ew6];omega) (by simp only[ex7,ev5,ew3,ew6];omega) (b7 hx08);simp only[n3,n9,p9,simprocAttr,h27,h58,q7,q25,hin,hld,k2,ag1,p1,p2];refine⟨(k+1,u9),by simp only[];omega,by simp only[];rw[B1 k (by omega)],by trivial,by simp only[];omega,?_,hm8.chain p4 fun b hb hbu=>?_,fun b hb=>?_⟩
 ·simp only[];rw[htk8,←ex9,←eG2];exact p3
 ·rcases hmv8 b hbu with h|h
  ·exact h
  ·omega
 ·rcases p5 b hb with h|h
  ·exact hmv8 b h
  ·exact .inr (ew0 hm8.size h)
def Wy.sp(w:Wy):Ptr Sh:=⟨w.s⟩
instance:z7 Wy where
 sz:=5
 pos:=by omega
 enc h cs x:=∃v1 v2 v3,cs=[v1,.int .i64 x.proc,.int .i64 x.n,v2,v3]∧R h v1 x.sp∧R h v2 x.real∧R h v3 x.live
 len:=by rintro h cs a ⟨v1,v2,v3,rfl,_⟩;rfl
 mono:=by rintro h k cs a hk ⟨v1,v2,v3,rfl,h1,h2,h3⟩;exact⟨v1,v2,v3,rfl,z7.mono hk h1,z7.mono hk h2,z7.mono hk h3⟩
 one:=by
  rintro h cs a ⟨v1,v2,v3,rfl,h1,h2,h3⟩ v hv;simp only[ex3,eA6,eG5]at hv;rcases hv with rfl|rfl|rfl|rfl|rfl
  ·exact W6 h1
  ·rfl
  ·rfl
  ·exact W6 h2
  ·exact W6 h3
structure Bk where
 s:Sh
 ways:List Wy
 defs:List (List A4)
 uses:List (List A4)
 ins:List (List A4)
 outs:List (List A4)
def Bk.sp(b:Bk):Ptr Sh:=⟨b.s⟩
def Bk.wp(b:Bk):List (Ptr Wy):=b.ways.map fun w=>⟨w⟩
instance:z7 Bk where
 sz:=6
 pos:=by omega
 enc h cs x:=∃v1 v2 v3 v4 v5 v6,cs=[v1,v2,v3,v4,v5,v6]∧R h v1 x.sp∧R h v2 x.wp∧R h v3 x.defs∧R h v4 x.uses∧R h v5 x.ins∧R h v6 x.outs
 len:=by rintro h cs a ⟨v1,v2,v3,v4,v5,v6,rfl,_⟩;rfl
 mono:=by rintro h k cs a hk ⟨v1,v2,v3,v4,v5,v6,rfl,h1,h2,h3,h4,h5,h6⟩;exact⟨v1,v2,v3,v4,v5,v6,rfl,z7.mono hk h1,z7.mono hk h2,z7.mono hk h3,z7.mono hk h4,z7.mono hk h5,z7.mono hk h6⟩
 one:=by
  rintro h cs a ⟨v1,v2,v3,v4,v5,v6,rfl,h1,h2,h3,h4,h5,h6⟩ v hv;simp only[ex3,eA6,eG5]at hv;rcases hv with rfl|rfl|rfl|rfl|rfl|rfl
  ·exact W6 h1
  ·exact W6 h2
  ·exact W6 h3
  ·exact W6 h4
  ·exact W6 h5
  ·exact W6 h6
theorem cN3{h:Hp}{cs:List Value}{x:Wy}:z7.enc h cs x→∃v_sp v_real v_live,cs=([v_sp]:List Value)++([.int .i64 x.proc]:List Value)++([.int .i64 x.n]:List Value)++([v_real]:List Value)++([v_live]:List Value)∧R h v_sp x.sp∧R h v_real x.real∧R h v_live x.live:=by
 rintro⟨v1,v2,v3,rfl,h1,h2,h3⟩;exact⟨v1,v2,v3,rfl,h1,h2,h3⟩
theorem At.wy{h:Hp}{a:Addr}{x:Wy}(ha:At h a x):∃v_sp v_real v_live,R h v_sp x.sp∧R h v_real x.real∧R h v_live x.live∧(∀w,B4 h (d7 w)→(Instr.loadAt 93 (.pointer (some a))).run prog w = .ok (v_sp) w∧(Instr.loadAt 3 (.pointer (some (a.add 1)))).run prog w = .ok (.int .i64 x.proc) w∧(Instr.loadAt 3 (.pointer (some (a.add 2)))).run prog w = .ok (.int .i64 x.n) w∧(Instr.loadAt 146 (.pointer (some (a.add 3)))).run prog w = .ok (v_real) w∧(Instr.loadAt 151 (.pointer (some (a.add 4)))).run prog w = .ok (v_live) w)∧(∀(S:World→Prop) (w0:World),S w0→(∀w,S w→B4 h (d7 w))→(∀K f d w,B8 prog S (Instr.loadAt 93 (.pointer (some a))) K f d w=K (A5 f d (v_sp)) w)∧(∀K f d w,B8 prog S (Instr.loadAt 3 (.pointer (some (a.add 1)))) K f d w=K (A5 f d (.int .i64 x.proc)) w)∧(∀K f d w,B8 prog S (Instr.loadAt 3 (.pointer (some (a.add 2)))) K f d w=K (A5 f d (.int .i64 x.n)) w)∧(∀K f d w,B8 prog S (Instr.loadAt 146 (.pointer (some (a.add 3)))) K f d w=K (A5 f d (v_real)) w)∧(∀K f d w,B8 prog S (Instr.loadAt 151 (.pointer (some (a.add 4)))) K f d w=K (A5 f d (v_live)) w)):=by
 obtain⟨cs,he,hc⟩:=ha;obtain⟨v_sp,v_real,v_live,rfl,h_sp,h_real,h_live⟩:=cN3 he;exact⟨_,_,_,h_sp,h_real,h_live,fun w hw=>⟨E0 hc rfl bb3 w hw,v8 hc (o:=1) rfl G3 w hw,v8 hc (o:=2) rfl G3 w hw,v8 hc (o:=3) rfl bC7 w hw,v8 hc (o:=4) rfl af0 w hw⟩,fun S w0 hS hw=>⟨fun K f d w=>A0 hS fun w' hw'=>E0 hc rfl bb3 w' (hw w' hw'),fun K f d w=>A0 hS fun w' hw'=>v8 hc (o:=1) rfl G3 w' (hw w' hw'),fun K f d w=>A0 hS fun w' hw'=>v8 hc (o:=2) rfl G3 w' (hw w' hw'),fun K f d w=>A0 hS fun w' hw'=>v8 hc (o:=3) rfl bC7 w' (hw w' hw'),fun K f d w=>A0 hS fun w' hw'=>v8 hc (o:=4) rfl af0 w' (hw w' hw')⟩⟩
theorem cM6{h:Hp}{cs:List Value}{x:Bk}:z7.enc h cs x→∃v_sp v_wp v_defs v_uses v_ins v_outs,cs=([v_sp]:List Value)++([v_wp]:List Value)++([v_defs]:List Value)++([v_uses]:List Value)++([v_ins]:List Value)++([v_outs]:List Value)∧R h v_sp x.sp∧R h v_wp x.wp∧R h v_defs x.defs∧R h v_uses x.uses∧R h v_ins x.ins∧R h v_outs x.outs:=by
 rintro⟨v1,v2,v3,v4,v5,v6,rfl,h1,h2,h3,h4,h5,h6⟩;exact⟨v1,v2,v3,v4,v5,v6,rfl,h1,h2,h3,h4,h5,h6⟩
theorem At.bk{h:Hp}{a:Addr}{x:Bk}(ha:At h a x):∃v_sp v_wp v_defs v_uses v_ins v_outs,R h v_sp x.sp∧R h v_wp x.wp∧R h v_defs x.defs∧R h v_uses x.uses∧R h v_ins x.ins∧R h v_outs x.outs∧(∀w,B4 h (d7 w)→(Instr.loadAt 93 (.pointer (some a))).run prog w = .ok (v_sp) w∧(Instr.loadAt 94 (.pointer (some (a.add 1)))).run prog w = .ok (v_wp) w∧(Instr.loadAt 95 (.pointer (some (a.add 2)))).run prog w = .ok (v_defs) w∧(Instr.loadAt 95 (.pointer (some (a.add 3)))).run prog w = .ok (v_uses) w∧(Instr.loadAt 95 (.pointer (some (a.add 4)))).run prog w = .ok (v_ins) w∧(Instr.loadAt 95 (.pointer (some (a.add 5)))).run prog w = .ok (v_outs) w)∧(∀(S:World→Prop) (w0:World),S w0→(∀w,S w→B4 h (d7 w))→(∀K f d w,B8 prog S (Instr.loadAt 93 (.pointer (some a))) K f d w=K (A5 f d (v_sp)) w)∧(∀K f d w,B8 prog S (Instr.loadAt 94 (.pointer (some (a.add 1)))) K f d w=K (A5 f d (v_wp)) w)∧(∀K f d w,B8 prog S (Instr.loadAt 95 (.pointer (some (a.add 2)))) K f d w=K (A5 f d (v_defs)) w)∧(∀K f d w,B8 prog S (Instr.loadAt 95 (.pointer (some (a.add 3)))) K f d w=K (A5 f d (v_uses)) w)∧(∀K f d w,B8 prog S (Instr.loadAt 95 (.pointer (some (a.add 4)))) K f d w=K (A5 f d (v_ins)) w)∧(∀K f d w,B8 prog S (Instr.loadAt 95 (.pointer (some (a.add 5)))) K f d w=K (A5 f d (v_outs)) w)):=by
 obtain⟨cs,he,hc⟩:=ha;obtain⟨v_sp,v_wp,v_defs,v_uses,v_ins,v_outs,rfl,h_sp,h_wp,h_defs,h_uses,h_ins,h_outs⟩:=cM6 he;exact⟨_,_,_,_,_,_,h_sp,h_wp,h_defs,h_uses,h_ins,h_outs,fun w hw=>⟨E0 hc rfl bb3 w hw,v8 hc (o:=1) rfl ce4 w hw,v8 hc (o:=2) rfl ag9 w hw,v8 hc (o:=3) rfl ag9 w hw,v8 hc (o:=4) rfl ag9 w hw,v8 hc (o:=5) rfl ag9 w hw⟩,fun S w0 hS hw=>⟨fun K f d w=>A0 hS fun w' hw'=>E0 hc rfl bb3 w' (hw w' hw'),fun K f d w=>A0 hS fun w' hw'=>v8 hc (o:=1) rfl ce4 w' (hw w' hw'),fun K f d w=>A0 hS fun w' hw'=>v8 hc (o:=2) rfl ag9 w' (hw w' hw'),fun K f d w=>A0 hS fun w' hw'=>v8 hc (o:=3) rfl ag9 w' (hw w' hw'),fun K f d w=>A0 hS fun w' hw'=>v8 hc (o:=4) rfl ag9 w' (hw w' hw'),fun K f d w=>A0 hS fun w' hw'=>v8 hc (o:=5) rfl ag9 w' (hw w' hw')⟩⟩
theorem cw3:af6 prog 135=true:=by kernel_rfl
structure WyOk (p:Pg) (i x y:Nat) (wy:Wy):Prop where
 s:wy.s=b9 p
 proc:wy.proc=(i:Int)
 n:wy.n=(y:Int)-(x:Int)+2
 part:al5 p i x y
theorem WyOk.index{p:Pg}{i x y:Nat}{wy:Wy}(h:WyOk p i x y wy)(a:Int):wy.index a=if a=0 then 0 else if a = -1 then wy.n-1 else if(x:Int)+1≤a∧a<(y:Int)+1 then a-((x:Int)+1)+1 else -1:=by
 have h1:=h.part.ok.lo;have h2:=h.part.ok.hi;unfold Wy.index U5;simp only[h.s,h.proc,ex8,List.getD,h1,h2,eA9]
theorem WyOk.place{p:Pg}{i x y:Nat}{wy:Wy}(h:WyOk p i x y wy)(a:Int):wy.place a=if a=0 then 0 else if a=wy.n-1 then -1 else(x:Int)+1+a-1:=by
 have h1:=h.part.ok.lo;unfold Wy.place U5;simp only[h.s,h.proc,ex8,List.getD,h1,eA9]
theorem aS2(a:Addr)(wy:Wy)(p:Pg)(i x y:Nat)(pl:Int)(w:World)(ha:At (d7 w) a wy)(hok:WyOk p i x y wy)(hpl : -1≤pl∧pl≤2000000):
  Calls prog 135 #[.pointer (some a),.int .i64 pl] w fun e w'=>∃u,e = .returned u∧(u = .int .i64 (wy.index pl)∧o6 w w'):=by
 refine d9 (args:=[.pointer (some a),.int .i64 pl]) hm func135 rfl (by kernel_rfl) (by show 2≤_;decide +kernel) ?_;obtain⟨vs,_,_,hvs,_,_,ldw,sdw⟩:=ha.wy;obtain⟨sh,rfl,has⟩:=Ptr.at_ hvs;have hss:At (d7 w) sh (b9 p):=by rw[←hok.s];exact has
 obtain⟨vL,vlo,vhi,hL,hlo,hhi,hap,lds,sds⟩:=hss.sh;have lw:=ldw w (i4 _);rw[hok.proc]at lw;have hF:=hok.index pl;have hN:=hok.n;have hle':=hok.part.ok.le;have hlen:=hok.part.ok.len;have hfit:=hok.part.ok.fit;have hst:∀w',o6 w.drew w'→B4 (d7 w) (d7 w'):=fun w' h=>b7 ((o6.drew w).trans h);have s1:=sdw (fun w'=>o6 w.drew w') w.drew (o9.refl _) hst;rw[hok.proc]at s1;have s2:=sds (fun w'=>o6 w.drew w') w.drew (o9.refl _) hst;have hi1:=hlo.inS (ev8.1 hok.part.ok.lo).1;have hi2:=hhi.inS (ev8.1 hok.part.ok.hi).1;have k1:∀K f d w0,B8 prog (fun w'=>o6 w.drew w') (Instr.loadAt 3 (.pointer (some (H4 vlo i)))) K f d w0=K (A5 f d (.int .i64 ((x:Int)+1))) w0:=fun K f d w0=>A0 (w0:=w.drew) (o9.refl _) fun w' h=>ldI hlo (hst w' h) hok.part.ok.lo;have k2:∀K f d w0,B8 prog (fun w'=>o6 w.drew w') (Instr.loadAt 3 (.pointer (some (H4 vhi i)))) K f d w0=K (A5 f d (.int .i64 ((y:Int)+1))) w0:=fun K f d w0=>A0 (w0:=w.drew) (o9.refl _) fun w' h=>ldI hhi (hst w' h) hok.part.ok.hi;have hwn:IntKind.i64.wrap (wy.n-1)=wy.n-1:=K1 _ (by omega);rcases ev3 (decide (pl=0))with q0|q0
 ·simp only[n3,n9,simprocAttr,q0];refine n7 results135 ?_;simp only[p6,simprocAttr];exact⟨by rw[hF,if_pos (ev6 q0)],o9.refl _⟩
 rw[if_neg (ev7 q0)]at hF;rcases ev3 (decide (pl = -1))with q1|q1
 ·simp only[n3,n9,simprocAttr,q0,q1,lw,hwn];refine n7 results135 ?_;simp only[p6,simprocAttr];exact⟨by rw[hF,if_pos (ev6 q1)],o9.refl _⟩
 rw[if_neg (ev7 q1)]at hF;have hw1:IntKind.i64.wrap (pl-((x:Int)+1))=pl-((x:Int)+1):=K1 _ (by omega);have hw2:IntKind.i64.wrap (pl-((x:Int)+1)+1)=pl-((x:Int)+1)+1:=K1 _ (by omega);generalize hX:(x:Int)+1=X at k1 hF hw1 hw2;generalize hY:(y:Int)+1=Y at k2 hF;simp only[n3,n9,simprocAttr,q0,q1];refine C2 (fun w'=>o6 w.drew w') 33 (A8 [0,1,2,3,4,5,6,7,8,9,10,11,12,13,14,15,16,17,18,19,20,21,22,23,24,25,26,27,28,29,30,31,32]) (by decide +kernel) (o9.refl _) ?_;rcases ev3 (decide (X≤pl))with q2|q2
 ·rcases ev3 (decide (pl<Y))with q3|q3
  ·have hst2:∀w',o6 w.drew.drew w'→B4 (d7 w) (d7 w'):=fun w' h=>b7 ((o6.drew w).trans ((o6.drew w.drew).trans h));have t1:=sdw (fun w'=>o6 w.drew.drew w') w.drew.drew (o9.refl _) hst2;rw[hok.proc]at t1;have t2:=sds (fun w'=>o6 w.drew.drew w') w.drew.drew (o9.refl _) hst2;have t3:∀K f d w0,B8 prog (fun w'=>o6 w.drew.drew w') (Instr.loadAt 3 (.pointer (some (H4 vlo i)))) K f d w0=K (A5 f d (.int .i64 X)) w0:=fun K f d w0=>A0 (w0:=w.drew.drew) (o9.refl _) fun w' h=>by rw[←hX];exact ldI hlo (hst2 w' h) hok.part.ok.lo
   simp only[D5,A8,n3,n9,p9,simprocAttr,s1,s2,k1,k2,hi1,hi2,q2,q3];refine C2 (fun w'=>o6 w.drew.drew w') 17 (A8 [0,1,2,3,4,5,6,7,8,9,10,11,12,13,14,15,16]) (by decide +kernel) (o9.refl _) ?_;simp only[D5,A8,n3,n9,p9,simprocAttr,t1,t2,t3,hi1,hw1,hw2];refine n7 results135 ?_;simp only[p6,simprocAttr];exact⟨by rw[hF,if_pos ⟨ev6 q2,ev6 q3⟩],(o6.drew w).trans (o6.drew _)⟩
  ·simp only[D5,A8,n3,n9,p9,simprocAttr,s1,s2,k1,k2,hi1,hi2,q2,q3];refine n7 results135 ?_;simp only[p6,simprocAttr];exact⟨by rw[hF,if_neg (fun h=>ev7 q3 h.2)],o6.drew w⟩
 ·simp only[D5,A8,n3,n9,p9,simprocAttr,s1,s2,k1,hi1,q2];refine n7 results135 ?_;simp only[p6,simprocAttr];exact⟨by rw[hF,if_neg (fun h=>ev7 q2 h.1)],o6.drew w⟩
theorem aa5(a:Addr)(wy:Wy)(p:Pg)(i x y:Nat)(k:Int)(w:World)(ha:At (d7 w) a wy)(hok:WyOk p i x y wy)(hk:0≤k∧k≤2000000):
  Calls prog 92 #[.pointer (some a),.int .i64 k] w fun e w'=>∃u,e = .returned u∧(u = .int .i64 (wy.place k)∧o6 w w'):=by
 refine d9 (args:=[.pointer (some a),.int .i64 k]) hm func92 rfl (by kernel_rfl) (by show 2≤_;decide +kernel) ?_;obtain⟨vs,_,_,hvs,_,_,ldw,sdw⟩:=ha.wy;obtain⟨sh,rfl,has⟩:=Ptr.at_ hvs;have hss:At (d7 w) sh (b9 p):=by rw[←hok.s];exact has
 obtain⟨vL,vlo,vhi,hL,hlo,hhi,hap,lds,sds⟩:=hss.sh;have lw:=ldw w (i4 _);have hF:=hok.place k;have hN:=hok.n;have hle':=hok.part.ok.le;have hlen:=hok.part.ok.len;have hfit:=hok.part.ok.fit;have hst:∀w',o6 w.drew w'→B4 (d7 w) (d7 w'):=fun w' h=>b7 ((o6.drew w).trans h);have s1:=sdw (fun w'=>o6 w.drew w') w.drew (o9.refl _) hst;rw[hok.proc]at s1;have s2:=sds (fun w'=>o6 w.drew w') w.drew (o9.refl _) hst;have hi1:=hlo.inS (ev8.1 hok.part.ok.lo).1;have k1:∀K f d w0,B8 prog (fun w'=>o6 w.drew w') (Instr.loadAt 3 (.pointer (some (H4 vlo i)))) K f d w0=K (A5 f d (.int .i64 ((x:Int)+1))) w0:=fun K f d w0=>A0 (w0:=w.drew) (o9.refl _) fun w' h=>ldI hlo (hst w' h) hok.part.ok.lo;have hwn:IntKind.i64.wrap (wy.n-1)=wy.n-1:=K1 _ (by omega);have hw1:IntKind.i64.wrap ((x:Int)+1+k)=(x:Int)+1+k:=K1 _ (by omega);have hw2:IntKind.i64.wrap ((x:Int)+1+k-1)=(x:Int)+1+k-1:=K1 _ (by omega);rcases ev3 (decide (k=0))with q0|q0
 ·simp only[n3,n9,simprocAttr,q0];refine n7 results92 ?_;simp only[p6,simprocAttr];exact⟨by rw[hF,if_pos (ev6 q0)],o9.refl _⟩
 rw[if_neg (ev7 q0)]at hF;rcases ev3 (decide (k=wy.n-1))with q1|q1
 ·simp only[n3,n9,simprocAttr,q0,q1,lw,hwn];refine n7 results92 ?_;simp only[p6,simprocAttr];exact⟨by rw[hF,if_pos (ev6 q1)],o9.refl _⟩
 rw[if_neg (ev7 q1)]at hF;generalize hX:(x:Int)+1=X at k1 hF hw1 hw2;simp only[n3,n9,simprocAttr,q0,q1,lw,hwn];refine C2 (fun w'=>o6 w.drew w') 17 (A8 [0,1,2,3,4,5,6,7,8,9,10,11,12,13,14,15,16]) (by decide +kernel) (o9.refl _) ?_;simp only[D5,A8,n3,n9,p9,simprocAttr,s1,s2,k1,hi1,hw1,hw2];refine n7 results92 ?_;simp only[p6,simprocAttr];exact⟨by rw[hF],o6.drew w⟩
theorem WyOk.index_rg{p:Pg}{i x y:Nat}{wy:Wy}(h:WyOk p i x y wy){a:Int}(ha:a=0∨Rg x y a):0≤wy.index a∧wy.index a<wy.n:=by
 have h1:=h.n;have h2:=h.part.ok.le;rw[h.index];rcases ha with ha|ha|ha
 ·rw[if_pos ha];omega
 ·rw[if_neg (by omega),if_pos ha];omega
 ·rw[if_neg (by omega),if_neg (by omega),if_pos (by omega)];omega
theorem cg2(a:Addr)(wy:Wy)(p:Pg)(i x y:Nat)(pl:Int)(w:World)(ha:At (d7 w) a wy)(hok:WyOk p i x y wy)(hpl:(x:Int)<pl∧pl≤(y:Int))(hl:(wy.live.length:Int)=wy.n):
  Calls prog 130 #[.pointer (some a),.int .i64 pl] w fun e w'=>∃u,e = .returned u∧(u = .bool (wy.lives pl)∧o6 w w'):=by
 refine d9 (args:=[.pointer (some a),.int .i64 pl]) hm func130 rfl (by kernel_rfl) (by show 2≤_;decide +kernel) ?_;obtain⟨_,_,vl,_,_,hvl,ldw,sdw⟩:=ha.wy;have hfit:=hok.part.ok.fit;have hlen:=hok.part.ok.len;have hst:∀w',o6 w.drew w'→B4 (d7 w) (d7 w'):=fun w' h=>b7 ((o6.drew w).trans h);have s1:=sdw (fun w'=>o6 w.drew w') w.drew (o9.refl _) hst;have hrg:=hok.index_rg (.inr (.inr hpl));have hlt:(wy.index pl).toNat<wy.live.length:=by omega
 have hin:=hvl.inS hlt;have hcast:wy.index pl=(((wy.index pl).toNat:Nat):Int):=by omega
 have hF:wy.lives pl=wy.live[(wy.index pl).toNat]:=by
  unfold Wy.lives atB;rw[List.getD,ev2 hlt];rfl
 simp only[n3,n9,simprocAttr];refine C2 (fun w'=>o6 w.drew w') 7 (A8 [0,1,2,3,4,5,6]) (by decide +kernel) (o9.refl _) ?_;simp only[D5,A8,n3,n9,simprocAttr,s1];refine B3 cw3 (aS2 a wy p i x y pl w.drew (ha.mono (b7 (o6.drew w))) hok (by omega)) (fun w2 hx2=>⟨hx2,?_⟩);have hx02:=(o6.drew w).trans hx2;have hld:=ldB hvl (b7 hx02) hlt;rw[hcast];generalize(wy.index pl).toNat=q at hlt hin hld hF;simp only[D5,n3,n9,p9,simprocAttr,hin,hld];refine n7 results130 ?_;simp only[p6,simprocAttr];exact⟨by rw[hF],hx02⟩
theorem bA3:af6 prog 189=true:=by kernel_rfl
theorem ej5:af6 prog 276=true:=by kernel_rfl
def GR(h:Hp)(pg:Value)(nx pv:List (List Int)):Prop:=
 ∃gb vn vp,pg = .pointer (some ⟨gb,0,none⟩)∧I8 h ⟨gb,0,none⟩=some vn∧I8 h ⟨gb,1,none⟩=some vp∧R h vn nx∧R h vp pv
theorem GR.mono{h k:Hp}{pg:Value}{nx pv:List (List Int)}(hg:GR h pg nx pv)(hk:B4 h k):GR k pg nx pv:=by
 obtain⟨gb,vn,vp,e,h1,h2,h3,h4⟩:=hg;exact⟨gb,vn,vp,e,F9 hk h1,F9 hk h2,z7.mono hk h3,z7.mono hk h4⟩
theorem cu7(a:Int)(w:World):Calls prog 189 #[.pointer none,.int .i64 a] w fun e w'=>∃u,e = .returned u∧(u = .bool false∧w'=w):=by
 refine d9 (args:=[.pointer none,.int .i64 a]) hm func189 rfl (by kernel_rfl) (by show 2≤_;decide +kernel) ?_;simp only[J4,O4,B7,simprocAttr];refine n7 results189 ?_;simp only[p6,simprocAttr];exact⟨by trivial,by trivial⟩
theorem aN8(pg:Value)(nx pv:List (List Int))(a:Int)(w:World)(hg:GR (d7 w) pg nx pv):
  Calls prog 189 #[pg,.int .i64 a] w fun e w'=>∃u,e = .returned u∧(u = .bool (H3 nx.length a)∧w'=w):=by
 obtain⟨gb,vn,vp,rfl,h1,h2,h3,h4⟩:=hg;refine d9 (args:=[.pointer (some ⟨gb,0,none⟩),.int .i64 a]) hm func189 rfl (by kernel_rfl) (by show 2≤_;decide +kernel) ?_;have hld:=G4 (P:=prog) (t:=155) h1 (i4 _) R1;have hS:=h3.isS;have hn:=h3.vlen;by_cases ha:0≤a
 ·have ha':decide (0≤a)=true:=by simpa using ha
  simp only[J4,O4,B7,E7,T6,simprocAttr,ha',hld,hS,hn];refine n7 results189 ?_;simp only[p6,simprocAttr];exact⟨by simp[H3,ha'],by trivial⟩
 ·have ha':decide (0≤a)=false:=by simpa using ha
  simp only[J4,O4,B7,E7,simprocAttr,ha'];refine n7 results189 ?_;simp only[p6,simprocAttr];exact⟨by simp[H3,ha'],by trivial⟩
theorem dZ7(w:World):Calls prog 244 #[.pointer none] w fun e w'=>∃u,e = .returned u∧(u = .int .i64 0∧w'=w):=by
 refine d9 (args:=[.pointer none]) hm func244 rfl (by kernel_rfl) (by show 1≤_;decide +kernel) ?_;simp only[J4,O4,B7,simprocAttr];refine n7 results244 ?_;simp only[p6,simprocAttr];exact⟨by trivial,by trivial⟩
theorem cK3(pg:Value)(nx pv:List (List Int))(w:World)(hg:GR (d7 w) pg nx pv):
  Calls prog 244 #[pg] w fun e w'=>∃u,e = .returned u∧(u = .int .i64 (nx.length:Nat)∧w'=w):=by
 obtain⟨gb,vn,vp,rfl,h1,h2,h3,h4⟩:=hg;refine d9 (args:=[.pointer (some ⟨gb,0,none⟩)]) hm func244 rfl (by kernel_rfl) (by show 1≤_;decide +kernel) ?_;have hld:=G4 (P:=prog) (t:=155) h1 (i4 _) R1;have hS:=h3.isS;have hn:=h3.vlen;simp only[J4,O4,B7,T6,simprocAttr,hld,hS,hn];refine n7 results244 ?_;simp only[p6,simprocAttr];exact⟨by trivial,by trivial⟩
theorem dB9(a:Int)(w:World):Calls prog 245 #[.pointer none,.int .i64 a] w fun e w'=>∃u,e = .returned u∧(u = .slice none 0 0∧w'=w):=by
 refine d9 (args:=[.pointer none,.int .i64 a]) hm func245 rfl (by kernel_rfl) (by show 2≤_;decide +kernel) ?_;simp only[J4,O4,simprocAttr];refine y5 bA3 (cu7 a w) ?_;rintro u w' ⟨rfl,rfl⟩;simp only[J4,O4,unV,simprocAttr];refine n7 results245 ?_;simp only[p6,simprocAttr];exact⟨by trivial,by trivial⟩
theorem cp5(pg:Value)(nx pv:List (List Int))(a:Int)(w:World)(hg:GR (d7 w) pg nx pv)(hlen:pv.length=nx.length)(hl:∀x∈nx,x.length≤1000000000):
  Calls prog 245 #[pg,.int .i64 a] w fun e w'=>∃u,e = .returned u∧(A9 (d7 w) w' 3 u (C1 nx a)∧o6 w w'):=by
 have hg':=hg;obtain⟨gb,vn,vp,rfl,h1,h2,h3,h4⟩:=hg;refine d9 (args:=[.pointer (some ⟨gb,0,none⟩),.int .i64 a]) hm func245 rfl (by kernel_rfl) (by show 2≤_;decide +kernel) ?_;have hld:=G4 (P:=prog) (t:=155) h1 (i4 _) R1;simp only[J4,O4,simprocAttr];refine y5 bA3 (aN8 _ nx pv a w hg') ?_;rintro u w' ⟨rfl,rfl⟩;have hll:nx.length=nx.length:=rfl;by_cases ha:H3 nx.length a=true
 ·have ha2:H3 nx.length a=true:=by rw[hll];exact ha
  obtain⟨hx1,hx2⟩:=aj3 ha2;have hin:=h3.inS hx2;have h0:decide (0≤a)=true:=by simpa using(C5.1 ha).1
  obtain⟨x,hx3,hx4⟩:=h3.row hx1;have hld2:=G4 (P:=prog) (t:=118) hx4 (i4 _) O6;simp only[J4,O4,unV,p9,simprocAttr,ha,hld,hin,h0,hld2];refine y5 ej5 (bQ5 x _ w' hx3 (hl _ (ex2 hx1))) ?_;rintro r w2 ⟨hr,hx⟩;simp only[J4,simprocAttr];refine n7 results245 ?_;simp only[p6,simprocAttr];exact⟨hr,hx⟩
 ·have ha':H3 nx.length a=false:=by simpa using ha
  simp only[J4,O4,unV,simprocAttr,ha'];refine n7 results245 ?_;simp only[p6,simprocAttr];rw[aP9 (by rw[hll];exact ha')];exact⟨A9.nil _ _ _,o9.refl _⟩
theorem dd9:af6 prog 263=true:=by kernel_rfl
theorem de0:af6 prog 264=true:=by kernel_rfl
structure GX (h:Hp) (w:World) (gb:Nat) (cs:Array Value) (vn:Value) (us:List Y4) (nx:List (List Int)) (vp:Value) (us':List Y4) (pv:List (List Int)):Prop where
 free:h gb=none
 cell:w.heap[gb]?=some (.cells cs 235 (0,0))
 rn:J9 h w 118 3 vn us nx
 rp:J9 h w 118 3 vp us' pv
 gn:¬K5 vn us gb
 gp:¬K5 vp us' gb
 dis:∀b,K5 vn us b→¬K5 vp us' b
section
variable {h:Hp} {w:World} {gb:Nat} {cs:Array Value} {vn vp:Value} {us us':List Y4} {nx pv:List (List Int)}
theorem GX.swap(hx:GX h w gb cs vn us nx vp us' pv):GX h w gb cs vp us' pv vn us nx:=
 ⟨hx.free,hx.cell,hx.rp,hx.rn,hx.gp,hx.gn,fun b h1 h2=>hx.dis b h2 h1⟩
theorem GX.lt(hx:GX h w gb cs vn us nx vp us' pv):gb<w.heap.size:=(ev9.1 hx.cell).1
theorem GX.mod{M:Nat→Prop}{w':World}(hx:GX h w gb cs vn us nx vp us' pv)(hm:o9 M w w')(hM:∀b,(b=gb∨K5 vn us b∨K5 vp us' b)→¬M b):GX h w' gb cs vn us nx vp us' pv:=
 ⟨hx.free,(hm.block gb hx.lt (hM gb (.inl rfl))).trans hx.cell,hx.rn.mod hm fun b hb=>hM b (.inr (.inl hb)),hx.rp.mod hm fun b hb=>hM b (.inr (.inr hb)),hx.gn,hx.gp,hx.dis⟩
theorem GX.set{w' w'':World}(hx:GX h w gb cs vn us nx vp us' pv){i:Nat}{u:Y4}(hi:us[i]?=some u){u':Value}{xs:List Int}
  (hm:o9 (A3 u.v) w w') (ho:A9 h w' 3 u' xs) (hv:F1 w u.v u') (hm2:o9 (A3 vn) w' w'') (ho2:A9 h w'' 118 vn (us.set i ⟨u'⟩)) :
  GX h w'' gb cs vn (us.set i ⟨u'⟩) (nx.set i xs) vp us' pv:=by
 have hui:u∈us:=ex2 hi;have hnew:∀b,K5 vn (us.set i ⟨u'⟩) b→K5 vn us b∨w.heap.size≤b:=by
  rintro b (hb|⟨x,hx1,hb⟩)
  ·exact .inl (.inl hb)
  ·rcases eD1 hx1 with h1|h1
   ·exact .inl (.inr ⟨x,h1,hb⟩)
   ·subst h1;rcases hv b hb with h2|h2
    ·exact .inl (.inr ⟨u,hui,h2⟩)
    ·exact .inr h2
 have k1:∀b,A3 u.v b→K5 vn us b:=fun b hb=>.inr ⟨u,hui,hb⟩;have k2:∀b,A3 vn b→K5 vn us b:=fun b hb=>.inl hb;refine⟨hx.free,?_,hx.rn.set hi hm ho hv hm2 ho2,?_,?_,hx.gp,?_⟩
 ·have h1:=hm.block gb hx.lt (fun hb=>hx.gn (k1 _ hb));have h2:=hm2.block gb (eC1 hx.lt hm.size) (fun hb=>hx.gn (k2 _ hb));exact h2.trans (h1.trans hx.cell)
 ·exact(hx.rp.mod hm fun b hb hb2=>hx.dis b (k1 b hb2) hb).mod hm2 fun b hb hb2=>hx.dis b (k2 b hb2) hb
 ·intro hb;rcases hnew gb hb with h1|h1
  ·exact hx.gn h1
  ·have:=hx.lt;omega
 ·intro b hb hb2;rcases hnew b hb with h1|h1
  ·exact hx.dis b h1 hb2
  ·have:=hx.rp.lt hb2;omega
theorem GX.read(hx:GX h w gb #[vn,vp] vn us nx vp us' pv)(hw:B4 h (d7 w)):GR (d7 w) (.pointer (some ⟨gb,0,none⟩)) nx pv:=by
 refine⟨gb,vn,vp,rfl,?_,?_,hx.rn.ro hw,hx.rp.ro hw⟩
 ·rw[←ai8,eC4 w gb 0 _ _ (0,0) hx.cell];rfl
 ·rw[←ai8,eC4 w gb 1 _ _ (0,0) hx.cell];rfl
end
theorem aG2{P:Program}{α:Type}[z7 α]{h:Hp}{w:World}{T T' t:TypeId}{v:Value}{us:List Y4}{xss:List (List α)}(hr:J9 h w T T' v us xss){i:Nat}{u:Y4}(hi:us[i]?=some u)(ht:B6 P t=false):
  (Instr.loadAt t (.pointer (some (H4 v i)))).run P w = .ok u.v w:=by
 obtain⟨es,⟨he,_⟩,hc⟩:=hr.outer.get hi;have:=hc 0 u.v (by rw[he];rfl);rw[J8]at this;have h1:(i*z7.sz Y4)=i:=eE8 i;rw[h1]at this;exact Q6 ht this
theorem bv2{P:Program}{h:Hp}{w:World}{t:TypeId}{v u':Value}{us:List Y4}(ho:A9 h w 118 v us){i:Nat}(hi:i<us.length)(hu:isS u'=true){inf:TypeInfo}(hinf:P.info? t=some inf)(hs:inf.size=1):
  ∃w',(Instr.storeAt t (.pointer (some (H4 v i))) u').run P w = .ok () w'∧A9 h w' 118 v (us.set i ⟨u'⟩)∧o9 (A3 v) w w'∧w'.heap.size=w.heap.size:=
 D9 ho rfl hi (y:=(⟨u'⟩:Y4)) ⟨rfl,V6 hu⟩ (D8 hu) hinf hs
def GO(h:Hp)(w:World)(pg:Value)(nx pv:List (List Int))(M:Nat→Prop):Prop:=
 ∃gb vn us vp us',pg = .pointer (some ⟨gb,0,none⟩)∧GX h w gb #[vn,vp] vn us nx vp us' pv∧∀b,M b↔b=gb∨K5 vn us b∨K5 vp us' b
theorem GO.read{h:Hp}{w:World}{pg:Value}{nx pv:List (List Int)}{M:Nat→Prop}(hg:GO h w pg nx pv M)(hw:B4 h (d7 w)):GR (d7 w) pg nx pv:=by
 obtain⟨gb,vn,us,vp,us',rfl,hx,_⟩:=hg;exact hx.read hw
theorem GO.free{h:Hp}{w:World}{pg:Value}{nx pv:List (List Int)}{M:Nat→Prop}(hg:GO h w pg nx pv M):∀b,M b→h b=none:=by
 obtain⟨gb,vn,us,vp,us',rfl,hx,hM⟩:=hg;intro b hb;rcases(hM b).1 hb with rfl|hb|hb
 ·exact hx.free
 ·exact hx.rn.free hb
 ·exact hx.rp.free hb
theorem GO.mod{h:Hp}{w w':World}{pg:Value}{nx pv:List (List Int)}{M N:Nat→Prop}(hg:GO h w pg nx pv M)(hm:o9 N w w')(hN:∀b,M b→¬N b):GO h w' pg nx pv M:=by
 obtain⟨gb,vn,us,vp,us',rfl,hx,hM⟩:=hg;exact⟨gb,vn,us,vp,us',rfl,hx.mod hm fun b hb=>hN b ((hM b).2 hb),hM⟩
structure be1 (l:List (List Int)):Prop where
 le:∀x∈l,x.Pairwise (· < ·)
 len:∀x∈l,x.length≤100000000
theorem be1.le'{l:List (List Int)}(h:be1 l){x:List Int}(hx:x∈l):x.Pairwise (· ≤ ·):=(h.le x hx).imp fun h=>Int.le_of_lt h
theorem cK9(h:Hp)(pg:Value)(nx pv:List (List Int))(M:Nat→Prop)(a b:Int)(w:World)(hg:GO h w pg nx pv M)(hw:B4 h (d7 w))(hl:pv.length=nx.length)(hr1:be1 nx)(hr2:be1 pv):
  Calls prog 239 #[pg,.int .i64 a,.int .i64 b] w fun e w'=>∃u,e = .returned u∧(u = .bool (ah7 nx a b)∧∃M',GO h w' pg (bP5 nx a b) (bP6 nx pv a b) M'∧o9 M w w'∧∀b,M' b→M b∨w.heap.size≤b):=by
 have hgr:=hg.read hw;obtain⟨gb,vn,us,vp,us',rfl,hx,hM⟩:=hg;refine d9 (args:=[.pointer (some ⟨gb,0,none⟩),.int .i64 a,.int .i64 b]) hm func239 rfl (by kernel_rfl) (by show 3≤_;decide +kernel) ?_;simp only[J4,O4,simprocAttr];refine y5 bA3 (aN8 _ nx pv a w hgr) ?_;rintro u w' ⟨rfl,rfl⟩;have same:ah7 nx a b=false→∀w2,o6 w' w2→∃M',GO h w2 (.pointer (some ⟨gb,0,none⟩)) (bP5 nx a b) (bP6 nx pv a b) M'∧o9 M w' w2∧∀b,M' b→M b∨w'.heap.size≤b:=by
  intro hno w2 he;refine⟨M,?_,he.weaken fun _ _ h=>h.elim,fun b hb=>.inl hb⟩;unfold bP5 bP6;rw[hno];exact⟨gb,vn,us,vp,us',rfl,hx.mod he fun _ _ h=>h.elim,hM⟩
 by_cases ha:H3 nx.length a=true
 ·have hna:(!H3 nx.length a)=false:=by rw[ha];rfl
  simp only[J4,unV,simprocAttr,hna];refine y5 bA3 (aN8 _ nx pv b w' hgr) ?_;rintro u w ⟨rfl,rfl⟩;by_cases hb:H3 nx.length b=true
  ·have hnb:(!H3 nx.length b)=false:=by rw[hb];rfl
   have c0:w.cell? ⟨gb,0,none⟩=some vn:=by rw[eC4 w gb 0 _ _ (0,0) hx.cell];rfl
   have l0:=Q6 (P:=prog) (t:=155) R1 c0;obtain⟨hx1,hx2⟩:=aj3 ha;have hlu:us.length=nx.length:=hx.rn.len;have hin:=hx.rn.outer.inS (k:=a.toNat) (by omega);have d0:decide (0≤a)=true:=by simpa using(C5.1 ha).1
   obtain⟨ua,hua⟩:∃ua,us[a.toNat]?=some ua:=⟨us[a.toNat]'(by omega),ev2 (by omega)⟩;have hown:=hx.rn.row _ _ _ hua hx1;have la:=aG2 (P:=prog) (t:=118) hx.rn hua O6;have hmem:=ex2 hx1;simp only[J4,O4,unV,p9,simprocAttr,hnb,l0,hin,d0,la];refine y5 dd9 (bk7 b hown (ew0 (hr1.len _ hmem) (by omega)) (hr1.le' hmem)) ?_;rintro u w1 ⟨rfl,he1⟩;by_cases hc:(C1 nx a).contains b=true
   ·simp only[J4,simprocAttr,hc];refine n7 results239 ?_;simp only[p6,simprocAttr];have hno:ah7 nx a b=false:=by simp only[ah7,hc,Bool.not_true,Bool.and_false]
    exact⟨by rw[hno],same hno w1 he1⟩
   ·have hc':(C1 nx a).contains b=false:=by simpa using hc
    have hyes:ah7 nx a b=true:=by simp only[ah7,hc',ha,hb,Bool.not_false,Bool.and_true]
    have hw1:B4 h (d7 w1):=p8 hw (b7 he1);have hx':=hx.mod he1 fun _ _ h=>h.elim;simp only[J4,simprocAttr,hc'];refine C2 (fun w2=>o9 (A3 ua.v) w1.drew w2) 16 (A8 [0,1,2,3,4,5,6,7,8,9,10,11,12,13,14,15]) (by decide +kernel) (o9.refl _) ?_;have hx2':=hx'.mod (o6.drew w1) fun _ _ h=>h.elim;have hru:∀b,A3 ua.v b→K5 vn us b:=fun b hb=>.inr ⟨ua,ex2 hua,hb⟩;have l0':∀w2,o9 (A3 ua.v) w1.drew w2→(Instr.loadAt 155 (.pointer (some ⟨gb,0,none⟩))).run prog w2 = .ok vn w2:=fun w2 hm2=>by
     refine Q6 R1 ?_;rw[eC4 w2 gb 0 _ _ (0,0) ((hm2.block gb hx2'.lt (fun hb=>hx2'.gn (hru _ hb))).trans hx2'.cell)];rfl
    have la':∀w2,o9 (A3 ua.v) w1.drew w2→(Instr.loadAt 118 (.pointer (some (H4 vn a.toNat)))).run prog w2 = .ok ua.v w2:=fun w2 hm2=>by
     have ho:=hx2'.rn.outer.mod hm2 (fun b hb hb2=>hx2'.rn.off _ _ hua b hb2 hb);obtain⟨es,⟨he,_⟩,hcc⟩:=ho.get hua;have:=hcc 0 ua.v (by rw[he];rfl);rw[J8]at this;have h1:(a.toNat*z7.sz Y4)=a.toNat:=eE8 _;rw[h1]at this;exact Q6 O6 this
    simp only[D5,A8,J4,O4,simprocAttr];refine⟨vn,l0',?_⟩;simp only[D5,J4,O4,simprocAttr];refine⟨vn,l0',?_⟩;simp only[D5,J4,O4,p9,simprocAttr,hin,d0];refine⟨ua.v,la',?_⟩;have hbs:=ah4 (P:=prog) (w:=w1.drew) (t:=118) bW9 ax7 (by rw[aR4];omega) (by rw[aR4];omega) (x:=.int .i64 b) (by rw[aR4];rfl);simp only[D5,J4,simprocAttr,hbs,F7,Value.cells];refine⟨o9.alloc _ _,?_⟩;have hown2:=hx2'.rn.row _ _ _ hua hx1;refine y5 de0 (bi0 b _ 1 w1.drew rfl hown2 List.countP_le_length (ew0 (hr1.len _ hmem) (by omega)) (p8 hw1 (b7 (o6.drew w1)))) ?_;rintro u1 w3 ⟨ho3,hm3,hv3⟩;refine⟨hm3,?_⟩;have hx3o:=hx2'.rn.outer.mod hm3 (fun b hb hb2=>hx2'.rn.off _ _ hua b hb2 hb);obtain⟨w4,s1,s2,s3,s4⟩:=bv2 (P:=prog) (t:=118) hx3o (i:=a.toNat) (by omega) ho3.isS (t8 S3).choose_spec.1 (by rw[←C7 (t8 S3).choose_spec.1];exact aD4);have hx4:=hx2'.set hua hm3 ho3 hv3 s3 s2;have hw4:o9 M w1.drew w4:=(hm3.weaken fun k _ hk=>(hM k).2 (.inr (.inl (hru k hk)))).trans (s3.weaken fun k _ hk=>(hM k).2 (.inr (.inl (.inl hk))));have hwh4:B4 h (d7 w4):=K6 (p8 hw1 (b7 (o6.drew w1))) hw4 fun k hk=>by
     rcases(hM k).1 hk with rfl|hk|hk
     ·exact hx.free
     ·exact hx.rn.free hk
     ·exact hx.rp.free hk
    have e1:w4.cell? ⟨gb,1,none⟩=some vp:=by rw[eC4 w4 gb 1 _ _ (0,0) hx4.cell];rfl
    have m0:=Q6 (P:=prog) (t:=155) R1 e1;have hb2:H3 pv.length b=true:=by rw[hl];exact hb
    obtain⟨hy1,hy2⟩:=aj3 hb2;have hlu':us'.length=pv.length:=hx4.rp.len;have hinp:=hx4.rp.outer.inS (k:=b.toNat) (by omega);have d1:decide (0≤b)=true:=by simpa using(C5.1 hb).1
    obtain⟨ub,hub⟩:∃ub,us'[b.toNat]?=some ub:=⟨us'[b.toNat]'(by omega),ev2 (by omega)⟩;have hownp:=hx4.rp.row _ _ _ hub hy1;have lb:=aG2 (P:=prog) (t:=118) hx4.rp hub O6;have hmemp:=ex2 hy1;simp only[D5,J4,O4,p9,simprocAttr,hin,d0,s1,m0,hinp,d1,lb];refine y5 dd9 (bk7 a hownp (ew0 (hr2.len _ hmemp) (by omega)) (hr2.le' hmemp)) ?_;rintro u w5 ⟨rfl,he5⟩;have hw5:B4 h (d7 w5):=p8 hwh4 (b7 he5);have hx5:=hx4.mod he5 fun _ _ h=>h.elim;simp only[J4,simprocAttr];refine C2 (fun w2=>o9 (A3 ub.v) w5.drew w2) 16 (A8 [0,1,2,3,4,5,6,7,8,9,10,11,12,13,14,15]) (by decide +kernel) (o9.refl _) ?_;have hx6:=hx5.mod (o6.drew w5) fun _ _ h=>h.elim;have hru':∀b,A3 ub.v b→K5 vp us' b:=fun b hb=>.inr ⟨ub,ex2 hub,hb⟩;have m0':∀w2,o9 (A3 ub.v) w5.drew w2→(Instr.loadAt 155 (.pointer (some ⟨gb,1,none⟩))).run prog w2 = .ok vp w2:=fun w2 hm2=>by
     refine Q6 R1 ?_;rw[eC4 w2 gb 1 _ _ (0,0) ((hm2.block gb hx6.lt (fun hb=>hx6.gp (hru' _ hb))).trans hx6.cell)];rfl
    have lb':∀w2,o9 (A3 ub.v) w5.drew w2→(Instr.loadAt 118 (.pointer (some (H4 vp b.toNat)))).run prog w2 = .ok ub.v w2:=fun w2 hm2=>by
     have ho:=hx6.rp.outer.mod hm2 (fun b hb hb2=>hx6.rp.off _ _ hub b hb2 hb);obtain⟨es,⟨he,_⟩,hcc⟩:=ho.get hub;have:=hcc 0 ub.v (by rw[he];rfl);rw[J8]at this;have h1:(b.toNat*z7.sz Y4)=b.toNat:=eE8 _;rw[h1]at this;exact Q6 O6 this
    simp only[D5,A8,J4,O4,simprocAttr];refine⟨vp,m0',?_⟩;simp only[D5,J4,O4,simprocAttr];refine⟨vp,m0',?_⟩;simp only[D5,J4,O4,p9,simprocAttr,hinp,d1];refine⟨ub.v,lb',?_⟩;have hbs2:=ah4 (P:=prog) (w:=w5.drew) (t:=118) bW9 ax7 (by rw[aR4];omega) (by rw[aR4];omega) (x:=.int .i64 a) (by rw[aR4];rfl);simp only[D5,J4,simprocAttr,hbs2,F7,Value.cells];refine⟨o9.alloc _ _,?_⟩;have hownp2:=hx6.rp.row _ _ _ hub hy1;refine y5 de0 (bi0 a _ 1 w5.drew rfl hownp2 List.countP_le_length (ew0 (hr2.len _ hmemp) (by omega)) (p8 hw5 (b7 (o6.drew w5)))) ?_;rintro u2 w7 ⟨ho7,hm7,hv7⟩;refine⟨hm7,?_⟩;have hx7o:=hx6.rp.outer.mod hm7 (fun b hb hb2=>hx6.rp.off _ _ hub b hb2 hb);obtain⟨w8,t1,t2,t3,t4⟩:=bv2 (P:=prog) (t:=118) hx7o (i:=b.toNat) (by omega) ho7.isS (t8 S3).choose_spec.1 (by rw[←C7 (t8 S3).choose_spec.1];exact aD4);have hx8:=(hx6.swap.set hub hm7 ho7 hv7 t3 t2).swap;simp only[D5,J4,O4,p9,simprocAttr,hinp,d1,t1];refine n7 results239 ?_;simp only[p6,simprocAttr];refine⟨by rw[hyes],fun k=>k=gb∨K5 vn (us.set a.toNat ⟨u1⟩) k∨K5 vp (us'.set b.toNat ⟨u2⟩) k,⟨gb,vn,us.set a.toNat ⟨u1⟩,vp,us'.set b.toNat ⟨u2⟩,rfl,?_,fun _=>eC0⟩,?_,?_⟩
    ·unfold bP5 bP6;rw[hyes];exact hx8
    ·have k1:o9 M w w1.drew:=(he1.trans (o6.drew w1)).weaken fun _ _ h=>h.elim;have k2:o9 M w4 w5.drew:=(he5.trans (o6.drew w5)).weaken fun _ _ h=>h.elim;have k3:o9 M w5.drew w8:=(hm7.weaken fun k _ hk=>(hM k).2 (.inr (.inr (hru' k hk)))).trans (t3.weaken fun k _ hk=>(hM k).2 (.inr (.inr (.inl hk))));exact(k1.trans hw4).trans (k2.trans k3)
    ·have z1:w.heap.size≤w1.drew.heap.size:=(he1.trans (o6.drew w1)).size;have z2:w1.drew.heap.size≤w5.drew.heap.size:=ew0 hw4.size (he5.trans (o6.drew w5)).size;have q:∀(us:List Y4) (i:Nat) (u:Value) (v:Y4) (W:World),us[i]?=some v→F1 W v.v u→w.heap.size≤W.heap.size→∀(vn:Value) (k:Nat),K5 vn (us.set i ⟨u⟩) k→K5 vn us k∨w.heap.size≤k:=by
      intro us i u v W hi hv hW vn k hk;rcases hk with hk|⟨x,hx1,hk⟩
      ·exact .inl (.inl hk)
      ·rcases eD1 hx1 with h1|h1
       ·exact .inl (.inr ⟨x,h1,hk⟩)
       ·subst h1;rcases hv k hk with h2|h2
        ·exact .inl (.inr ⟨v,ex2 hi,h2⟩)
        ·exact .inr (by omega)
     rintro k (rfl|hk|hk)
     ·exact .inl ((hM _).2 (.inl rfl))
     ·rcases q _ _ _ _ _ hua hv3 z1 _ _ hk with h1|h1
      ·exact .inl ((hM _).2 (.inr (.inl h1)))
      ·exact .inr h1
     ·rcases q _ _ _ _ _ hub hv7 (by omega) _ _ hk with h1|h1
      ·exact .inl ((hM _).2 (.inr (.inr h1)))
      ·exact .inr h1
  ·have hb':H3 nx.length b=false:=by simpa using hb
   have hnb:(!H3 nx.length b)=true:=by rw[hb'];rfl
   simp only[J4,unV,simprocAttr,hnb];refine n7 results239 ?_;simp only[p6,simprocAttr];have hno:ah7 nx a b=false:=by simp only[ah7,hb',Bool.and_false,Bool.false_and]
   exact⟨by rw[hno],same hno w (o9.refl _)⟩
 ·have ha':H3 nx.length a=false:=by simpa using ha
  have hna:(!H3 nx.length a)=true:=by rw[ha'];rfl
  simp only[J4,unV,simprocAttr,hna];refine n7 results239 ?_;simp only[p6,simprocAttr];have hno:ah7 nx a b=false:=by simp only[ah7,ha',Bool.false_and]
  exact⟨by rw[hno],same hno _ (o9.refl _)⟩
theorem ei0:af6 prog 239=true:=by kernel_rfl
theorem D7.rising{n:Nat}{l:List (List Int)}(h:D7 n l)(hn:n≤100000000):be1 l:=
 ⟨h.le,fun x hx=>ew0 (h.row_len hx) hn⟩
def E1:Y4:=⟨.slice none 0 0⟩
theorem bL5{h:Hp}{w:World}{T T':TypeId}{v:Value}{n:Nat}(ho:A9 h w T v (List.replicate n E1)):J9 h w T T' v (List.replicate n E1) (List.replicate n ([]:List Int)):=by
 have hn:∀(i:Nat) (u:Y4),(List.replicate n E1)[i]?=some u→u=E1:=fun i u hu=>eB1 (ex2 hu);refine⟨ho,by simp,fun i u xs hu hx=>?_,fun i j u u' _ hu _ b hb=>?_,fun i u hu b hb=>?_⟩
 ·rw[hn i u hu,eB1 (ex2 hx)];exact A9.nil _ _ _
 ·rw[hn i u hu]at hb;exact absurd hb D0
 ·rw[hn i u hu]at hb;exact absurd hb D0
theorem aD0{v:Value}{n b:Nat}:K5 v (List.replicate n E1) b→A3 v b:=by
 rintro(hb|⟨u,hu,hb⟩)
 ·exact hb
 ·rw[eB1 hu]at hb;exact absurd hb D0
theorem GO.fresh{h:Hp}{w:World}{va vb:Value}{n:Nat}(hw:B4 h (d7 w))(h1:A9 h w 118 va (List.replicate n E1))(h2:A9 h w 118 vb (List.replicate n E1))(hd:∀b,A3 va b→¬A3 vb b):
  GO h (w.alloc (.cells #[va,vb] 235)) (.pointer (some ⟨w.heap.size,0,none⟩)) (List.replicate n []) (List.replicate n []) (fun b=>b=w.heap.size∨K5 va (List.replicate n E1) b∨K5 vb (List.replicate n E1) b):=by
 have he:=o6.alloc w (.cells #[va,vb] 235);refine⟨w.heap.size,va,List.replicate n E1,vb,List.replicate n E1,rfl,⟨av4 hw (ew8 _),ez5 w _,bL5 (h1.ext he),bL5 (h2.ext he),fun hb=>?_,fun hb=>?_,fun b hb hb2=>hd b (aD0 hb) (aD0 hb2)⟩,fun _=>eC0⟩
 ·have:=h1.lt (aD0 hb);omega
 ·have:=h2.lt (aD0 hb);omega
theorem cr2{va vb:Value}(h1:isS va=true)(h2:isS vb=true):B9 prog 235 [(0,va),(1,vb)]=some (.agg #[va,vb]):=by
 simp[B9,cH5,J5,Instr.fill,D8 h1,D8 h2]
theorem bS5(edges:List (Int×Int))(k:Nat)(g:List (List Int)×List (List Int))(hk:k<edges.length):(edges.take (k+1)).foldl ai0 g=ai0 ((edges.take k).foldl ai0 g) edges[k]:=bg7 ai0 g edges k hk
theorem ek4(n:Int)(v:Value)(w:World)(hn:n<0∨5000<n):Calls prog 188 #[.int .i64 n,v] w fun e w'=>∃u,e = .returned u∧(u = .pointer none∧w'=w):=by
 refine d9 (args:=[.int .i64 n,v]) hm func188 rfl (by kernel_rfl) (by show 2≤_;decide +kernel) ?_;by_cases h0:n<0
 ·have h0':decide (n<0)=true:=by simpa using h0
  simp only[J4,O4,B7,E7,simprocAttr,h0'];refine n7 results188 ?_;simp only[p6,simprocAttr];exact⟨by trivial,by trivial⟩
 ·have h0':decide (n<0)=false:=by simpa using h0
  have h1':decide (n>5000)=true:=by simp;omega
  simp only[J4,O4,B7,E7,simprocAttr,h0',h1'];refine n7 results188 ?_;simp only[p6,simprocAttr];exact⟨by trivial,by trivial⟩
theorem cd4(n:Nat)(v:Value)(edges:List (Int×Int))(w:World)(hn:n≤5000)(hv:R (d7 w) v edges)(hl:edges.length≤1000000000000):
  Calls prog 188 #[.int .i64 n,v] w fun e w'=>∃u,e = .returned u∧((∃M,GO (d7 w) w' u (ag6 n edges).1 (ag6 n edges).2 M)∧o6 w w'):=by
 refine d9 (args:=[.int .i64 n,v]) hm func188 rfl (by kernel_rfl) (by show 2≤_;decide +kernel) ?_;have h0':decide ((n:Int)<0)=false:=by simp
 have h1':decide ((n:Int)>5000)=false:=by simp;omega
 have hS:=hv.isS;have hvn:=hv.vlen;simp only[J4,O4,B7,E7,simprocAttr,h0',h1'];refine ct4 [1] (fun w2=>o6 w w2) 4 (.op 0 (.op 2 (.fork [1,3] (fun i=>if i=1 then A8 [3]else A8 [1]))))
  (fun f' w'=>A9 (d7 w) w' 118 (f' 15) (List.replicate n E1)∧A9 (d7 w) w' 118 (f' 17) (List.replicate n E1)∧(∀b,A3 (f' 15) b→¬A3 (f' 17) b)∧o6 w w') (by decide +kernel) (by decide +kernel) (o6.drew w) ?_ ?_
 ·simp only[D5,A8,J4,simprocAttr];have hz:z7.enc (d7 w) (Value.slice none 0 0).cells.toList E1:=⟨rfl,rfl⟩;have two:∀w1,o6 w w1→∃va w2 vb w3,(Instr.makeSlice 155 (.int .i64 n) (.int .i64 n)).run prog w1 = .ok va w2∧(Instr.makeSlice 155 (.int .i64 n) (.int .i64 n)).run prog w2 = .ok vb w3 ∧
    A9 (d7 w) w3 118 va (List.replicate n E1)∧A9 (d7 w) w3 118 vb (List.replicate n E1)∧(∀b,A3 va b→¬A3 vb b)∧o6 w w2∧o6 w w3:=by
   intro w1 he;obtain⟨va,w2,h1,h2,h3,h4,_⟩:=mk (P:=prog) (w:=w1) (h:=d7 w) bV6 S3 (α:=Y4) (y:=E1) hz (n:=n) (by omega) (by omega) (b7 he);obtain⟨vb,w3,k1,k2,k3,k4,_⟩:=mk (P:=prog) (w:=w2) (h:=d7 w) bV6 S3 (α:=Y4) (y:=E1) hz (n:=n) (by omega) (by omega) (b7 (he.trans h3));exact⟨va,w2,vb,w3,h1,k1,h2.ext k3,k2,fun b hb hb2=>by have:=k4 b hb2;have:=h2.lt hb;omega,he.trans h3,(he.trans h3).trans k3⟩
  obtain⟨va,w2,vb,w3,m1,m2,o1,o2,dj,e2,e3⟩:=two w.drew (o6.drew w);refine at4 (by decide +kernel) (fun i hi=>?_);simp only[ex3,eA6,eG5]at hi;rcases hi with rfl|rfl
  ·simp only[D5,J4,simprocAttr,m1,m2,F7];exact⟨e2,e3,o1,o2,dj,e3⟩
  ·simp only[D5,J4,simprocAttr,m1,m2,F7];exact⟨e2,e3,o2,o1,fun b h1 h2=>dj b h2 h1,e3⟩
 ·rintro f w1 hk ⟨o1,o2,dj,he⟩;simp only[ev4,p6,simprocAttr]at hk;obtain⟨e1,_⟩:=hk;have hS1:=o1.isS;have hS2:=o2.isS;have hbd:=cr2 hS1 hS2;have hbox:(Instr.box 235 (.agg #[f 15,f 17])).run prog w1 = .ok (.pointer (some ⟨w1.heap.size,0,none⟩)) (w1.alloc (.cells #[f 15,f 17] 235)):=rfl;have hgo:=GO.fresh (b7 he) o1 o2 dj;have he2:=he.trans (o6.alloc w1 (.cells #[f 15,f 17] 235));generalize hpg:Value.pointer (some ⟨w1.heap.size,0,none⟩)=pg at hbox hgo;generalize w1.alloc (.cells #[f 15,f 17] 235)=w2 at hbox hgo he2;simp only[D5,J4,O4,T6,simprocAttr,hbd,hbox,e1,hS,hvn];refine n8 [5,20,21] (σ:=Nat) (fun k f w'=>f 22 = .int .i64 k∧k≤edges.length∧(∃M,GO (d7 w) w' pg ((edges.take k).foldl ai0 (List.replicate n [],List.replicate n [])).1 ((edges.take k).foldl ai0 (List.replicate n [],List.replicate n [])).2 M)∧o6 w w') (fun k=>edges.length-k) 0 (by decide +kernel) ?_ ?_
  ·simp only[p6,simprocAttr];exact⟨by trivial,ew4 _,⟨_,hgo⟩,he2⟩
  ·rintro k f3 w3 hk ⟨h22,hkl,⟨M,hg⟩,hx⟩;simp only[ev4,p6,simprocAttr]at hk;obtain⟨g5,g20,g21,_⟩:=hk;have hgood:=((aY7 n).grows (edges.take k)).1;have hstep:=bS5 edges k (List.replicate n [],List.replicate n []);generalize hG:(edges.take k).foldl ai0 (List.replicate n [],List.replicate n [])=g at hg hgood hstep;simp only[J4,B7,E7,simprocAttr,h22,g21];refine i5 (fun hc=>?_) (fun hc=>?_)
   ·have hlt:k<edges.length:=by simpa using hc
    have hin:=hv.inS hlt;have hld:=ldP hv (b7 hx) (ev2 hlt);have hst:=hstep hlt;generalize edges[k]=e at hld hst;obtain⟨x,y⟩:=e;simp only at hld hst;obtain⟨p1,p2⟩:=cY5 w3 x y;have q0:=cY3 w3 x y;have q1:=cY4 w3 x y;have hxe:=o6.alloc w3 (.cells #[.int .i64 x,.int .i64 y] 74);have hx1:=hx.trans hxe;have hg1:=hg.mod hxe fun _ _ h=>h.elim;generalize w3.alloc (.cells #[.int .i64 x,.int .i64 y] 74)=w4 at *;simp only[J4,O4,p9,simprocAttr,h22,g20,g5,hin,hld,p1,p2,q0,q1];refine y5 ei0 (cK9 (d7 w) pg g.1 g.2 M x y w4 hg1 (b7 hx1) (by rw[hgood.pv.len,hgood.nx.len]) (hgood.nx.rising (by omega)) (hgood.pv.rising (by omega))) ?_;rintro u w5 ⟨rfl,M',hg2,hm,hM'⟩;simp only[J4,B7,E7,simprocAttr,h22];refine⟨k+1,by omega,by rw[B1 k (by omega)],by omega,⟨M',?_⟩,?_⟩
    ·rw[hst];exact hg2
    ·refine o9.ext_of hx1 hm fun b hb=>?_;rcases ez0 b w.heap.size with hlt|hge
     ·have:=hg1.free b hb;simp[d7,hlt]at this
     ·exact hge
   ·have hge:k=edges.length:=by simp at hc;omega
    subst hge;rw[ew5]at hG;simp only[J4,simprocAttr,g5];refine n7 results188 ?_;simp only[p6,simprocAttr];have:ag6 n edges=g:=hG;rw[this];exact⟨⟨M,hg⟩,hx⟩
theorem eH2:type_of% @List.getElem_cons_zero:=@List.getElem_cons_zero
def B2(l:List Bool)(b:Int):Bool:=H3 l.length b&&l.getD b.toNat false
theorem M0{l:List Bool}{b:Int}(h:H3 l.length b=true):b.toNat<l.length∧B2 l b=l.getD b.toNat false:=by
 have:=C5.1 h;exact⟨by omega,by simp[B2,h]⟩
theorem al7{l:List Bool}{b:Int}(h:B2 l b=true):H3 l.length b=true:=by
 simp[B2]at h;exact h.1
theorem M6{l:List Bool}{a b:Int}{v:Bool}(ha:H3 l.length a=true):B2 (l.set a.toNat v) b=if b=a then v else B2 l b:=by
 have ha':=C5.1 ha;unfold B2;simp only[eC2];by_cases h:b=a
 ·subst h;rw[if_pos rfl,ha];have:b.toNat<l.length:=by omega
  simp[List.getD,this]
 ·rw[if_neg h];by_cases hb:H3 l.length b=true
  ·have hb':=C5.1 hb;have:a.toNat≠b.toNat:=by omega
   simp[List.getD,this]
  ·simp[hb]
theorem ar7{n:Nat}{b:Int}:B2 (List.replicate n false) b=false:=by
 simp only[B2,eA1,Bool.and_eq_false_iff];right;simp[List.getD,eF3];split<;>rfl
inductive Via (nx:List (List Int)) (seen:List Bool) (todo:List Int):Int→Prop
 | base {a:Int}:a∈todo→Via nx seen todo a
 | step {a b:Int}:Via nx seen todo a→b∈C1 nx a→B2 seen b=false→Via nx seen todo b
structure cq1 (nx:List (List Int)) (seen:List Bool) (todo:List Int) (seen':List Bool) (todo':List Int):Prop where
 len:seen'.length=seen.length
 via:∀b,b∈todo'↔Via nx seen todo b
 mark:∀b,B2 seen' b=true↔B2 seen b=true∨b∈todo'
 size:todo'.length≤todo.length+seen.length
structure WI (nx:List (List Int)) (seen:List Bool) (todo:List Int) (td:List Int) (sn:List Bool) (i:Nat):Prop where
 len:sn.length=seen.length
 via:∀b∈td,Via nx seen todo b
 old:∀b∈todo,b∈td
 mark:∀b,B2 sn b=true↔B2 seen b=true∨b∈td
 count:td.length+sn.count false=todo.length+seen.count false
 done:∀k a,k<i→td[k]?=some a→∀b∈C1 nx a,B2 sn b=true
 le:i≤td.length
section
variable {nx:List (List Int)} {seen:List Bool} {todo td:List Int} {sn:List Bool} {i:Nat}
theorem WI.start(h:∀a∈todo,B2 seen a=true):WI nx seen todo todo seen 0:=
 ⟨rfl,fun _ hb=>.base hb,fun _ hb=>hb,fun b=>⟨.inl,fun hh=>hh.elim id (h b)⟩,rfl,fun k a hk=>by omega,ew4 _⟩
theorem ab9{l:List Bool}{k:Nat}(hk:k<l.length)(h:l[k]=false):(l.set k true).count false+1=l.count false:=by
 induction l generalizing k with
 | nil=>simp at hk
 | cons x l ih=>
  cases k with
  | zero=>
   simp only[eH2]at h;subst h;simp
  | succ k=>
   simp only[eF6]at h;have:=ih (by simpa using hk) h;simp only[List.set_cons_succ,List.count_cons];omega
theorem WI.push(h:WI nx seen todo td sn i){b:Int}(hb:H3 seen.length b=true)(hn:B2 sn b=false)(hv:Via nx seen todo b):WI nx seen todo (td++[b]) (sn.set b.toNat true) i:=by
 have hb2:H3 sn.length b=true:=by rw[h.len];exact hb
 have hset:∀c,B2 (sn.set b.toNat true) c=if c=b then true else B2 sn c:=fun c=>M6 hb2;have hlt:=(M0 hb2).1;have hget:sn[b.toNat]=false:=by
  have:=(M0 hb2).2;rw[hn]at this;simp[List.getD,hlt]at this;exact this
 refine⟨by simp[h.len],fun c hc=>?_,fun c hc=>eA2 _ (h.old c hc),fun c=>?_,?_,fun k a hk ha c hc=>?_,?_⟩
 ·rcases ew7.1 hc with hc|hc
  ·exact h.via c hc
  ·simp at hc;subst hc;exact hv
 ·rw[hset];by_cases hcb:c=b
  ·subst hcb;simp
  ·simp[hcb,h.mark c]
 ·have:=h.count;have:=ab9 hlt hget;simp only[ev5,ey3];omega
 ·rw[hset];split
  ·rfl
  ·have B4:=h.le;rw[eA0 (by omega)]at ha;exact h.done k a hk ha c hc
 ·have:=h.le;simp;omega
theorem aG0{b c:Int}(hb:H3 sn.length b=true)(hc:B2 sn c=true):B2 (sn.set b.toNat true) c=true:=by
 rw[M6 hb];split
 ·rfl
 ·exact hc
theorem WI.next(h:WI nx seen todo td sn i){a:Int}(ha:td[i]?=some a)(hr:∀b∈C1 nx a,B2 sn b=true):WI nx seen todo td sn (i+1):=by
 refine⟨h.len,h.via,h.old,h.mark,h.count,fun k c hk hc b hb=>?_,(ev8.1 ha).1⟩;by_cases hki:k=i
 ·subst hki;rw[ha]at hc;obtain rfl:=ex1 hc;exact hr b hb
 ·exact h.done k c (by omega) hc b hb
theorem WI.fin(h:WI nx seen todo td sn td.length):cq1 nx seen todo sn td:=by
 refine⟨h.len,fun b=>⟨h.via b,fun hv=>?_⟩,h.mark,?_⟩
 ·induction hv with
  | base ha=>exact h.old _ ha
  | step _ hb hn ih=>
   obtain⟨k,hk⟩:=eC9.1 ih;have:=h.done k _ (ev8.1 hk).1 hk _ hb;rcases(h.mark _).1 this with h1|h1
   ·rw[hn]at h1;cases h1
   ·exact h1
 ·have:=h.count;have:=List.count_le_length (a:=false) (l:=seen);omega
end
theorem bO6(h:Hp)(vn vs vt:Value)(nx:List (List Int))(seen:List Bool)(todo:List Int)(w:World)(hw:B4 h (d7 w))(hn:R h vn nx)(hg:D7 nx.length nx)(hs:A9 h w 4 vs seen)(ht:A9 h w 3 vt todo)
  (hd:∀b,A3 vs b→¬A3 vt b) (hlen:seen.length=nx.length) (hto:∀a∈todo,B2 seen a=true) (hb1:nx.length≤5000) (hb2:todo.length≤1000000) :
  Calls prog 190 #[vn,vs,vt] w fun e w'=>∃u,e = .returned u∧∃todo' seen',A9 h w' 3 u todo'∧A9 h w' 4 vs seen'∧(∀b,A3 vs b→¬A3 u b)∧o9 (fun b=>A3 vs b∨A3 vt b) w w'∧F1 w vt u∧cq1 nx seen todo seen' todo':=by
 refine d9 (args:=[vn,vs,vt]) hm func190 rfl (by kernel_rfl) (by show 3≤_;decide +kernel) ?_;simp only[J4,O4,simprocAttr];refine n8 [0,1] (σ:=List Int×List Bool×Nat) (fun s f w'=>f 7 = .int .i64 s.2.2∧A9 h w' 3 (f 2) s.1∧A9 h w' 4 vs s.2.1∧(∀b,A3 vs b→¬A3 (f 2) b)∧o9 (fun b=>A3 vs b∨A3 vt b) w w'∧F1 w vt (f 2)∧WI nx seen todo s.1 s.2.1 s.2.2)
  (fun s=>todo.length+seen.count false-s.2.2) (todo,seen,0) (by decide +kernel) ?_ ?_
 ·simp only[p6,simprocAttr];exact⟨by trivial,ht,hs,hd,o9.refl _,fun b hb=>.inl hb,WI.start hto⟩
 ·rintro⟨td,sn,i⟩ f w1 hk ⟨h7,hot,hos,hds,hm,hmv,hi⟩;simp only at h7 hot hos hi;simp only[ev4,p6,simprocAttr]at hk;obtain⟨e0,e1,_⟩:=hk;have hStd:=hot.isS;have hltd:=hot.vlen;have hcnt:=hi.count;have hsc:=List.count_le_length (a:=false) (l:=seen);have hmh:∀b,(A3 vs b∨A3 vt b)→h b=none:=fun b hb=>hb.elim hs.free ht.free;simp only[J4,O4,B7,E7,T6,simprocAttr,h7,hStd,hltd];refine i5 (fun hc=>?_) (fun hc=>?_)
  ·have hlt:i<td.length:=by simpa using hc
   have hint:=hot.inS hlt;have hldt:=D4 (P:=prog) (t:=3) hot (ev2 hlt) G3;generalize hta:td[i]=a at hldt;have hta':td[i]?=some a:=by rw[ev2 hlt,hta]
   have ham:a∈td:=ex2 hta';have hak:H3 nx.length a=true:=by
    have:=al7 ((hi.mark a).2 (.inr ham));rw[hi.len,hlen]at this;exact this
   obtain⟨hx1,hx2⟩:=aj3 hak;have hina:=hn.inS hx2;have d0:decide (0≤a)=true:=by simpa using(C5.1 hak).1
   obtain⟨x,hx3,hx4⟩:=hn.row hx1;have hww:B4 h (d7 w1):=K6 hw hm hmh;have hldx:=G4 (P:=prog) (t:=118) hx4 hww O6;have hxS:=hx3.isS;have hxn:=hx3.vlen;have hxm:=an3 hak;have hxl:=hg.row_len hxm;simp only[J4,O4,p9,T6,G7.val,simprocAttr,h7,e0,hint,hldt,hina,d0,hldx,hxS,hxn];refine n8 [0,1,7,22,23] (σ:=List Int×List Bool×Nat) (fun s f w'=>f 24 = .int .i64 s.2.2∧s.2.2≤(C1 nx a).length∧A9 h w' 3 (f 2) s.1∧A9 h w' 4 vs s.2.1∧(∀b,A3 vs b→¬A3 (f 2) b)∧o9 (fun b=>A3 vs b∨A3 vt b) w w'∧F1 w vt (f 2)∧WI nx seen todo s.1 s.2.1 i∧s.1[i]?=some a∧∀b∈(C1 nx a).take s.2.2,B2 s.2.1 b=true)
    (fun s=>(C1 nx a).length-s.2.2) (td,sn,0) (by decide +kernel) ?_ ?_
   ·simp only[p6,simprocAttr];exact⟨by trivial,ew4 _,hot,hos,hds,hm,hmv,hi,hta',fun b hb=>by simp at hb⟩
   ·rintro⟨td2,sn2,j⟩ f2 w2 hk2 ⟨h24,hjl,hot2,hos2,hds2,hm2,hmv2,hi2,hta2,hrow⟩;simp only at h24 hjl hot2 hos2 hi2 hta2 hrow;simp only[ev4,p6,↓reduceIte,Nat.reduceEqDiff]at hk2;obtain⟨g0,g1,g7,g22,g23,_⟩:=hk2;rw[e0]at g0;rw[e1]at g1;rw[h7]at g7;simp only[J4,B7,E7,simprocAttr,h24,g23];refine i5 (fun hc2=>?_) (fun hc2=>?_)
    ·have hj:j<(C1 nx a).length:=by simpa using hc2
     have hinx:=hx3.inS hj;have hww2:B4 h (d7 w2):=K6 hw hm2 hmh;have hldb:=M8 (P:=prog) (t:=3) hx3 hww2 (ev2 hj) G3;have hbm:(C1 nx a)[j]∈C1 nx a:=ew2 hj;have htk:=ew1 hj;generalize hbb:(C1 nx a)[j]=b at hldb hbm htk;have hbk:H3 nx.length b=true:=hg.ok _ hxm b hbm;have hbk2:H3 sn2.length b=true:=by rw[hi2.len,hlen];exact hbk
     obtain⟨hblt,hbg⟩:=M0 hbk2;have hins:=hos2.inS hblt;have d1:decide (0≤b)=true:=by simpa using(C5.1 hbk).1
     have hlds:=D4 (P:=prog) (t:=4) hos2 (k:=b.toNat) (x:=B2 sn2 b) (by rw[hbg];simp[List.getD,hblt]) ao9;by_cases hbs:B2 sn2 b=true
     ·have hbs':(!B2 sn2 b)=false:=by rw[hbs];rfl
      simp only[J4,O4,B7,E7,unV,p9,G7.val,simprocAttr,h24,g22,g1,hinx,hldb,hins,d1,hlds,hbs'];refine⟨(td2,sn2,j+1),by simp only[];omega,by simp only[];rw[B1 j (by omega)],by simp only[];omega,hot2,hos2,hds2,hm2,hmv2,hi2,hta2,?_⟩;simp only[];rw[htk];intro c hc;rcases ew7.1 hc with hc|hc
      ·exact hrow c hc
      ·simp at hc;subst hc;exact hbs
     ·have hbf:B2 sn2 b=false:=by simpa using hbs
      have hbs':(!B2 sn2 b)=true:=by rw[hbf];rfl
      have hcnt2:=hi2.count;obtain⟨w3,s1,s2,s3,s4⟩:=D9 (P:=prog) (t:=4) hos2 rfl (k:=b.toNat) hblt (x:=.bool true) (y:=true) rfl rfl (t8 S7).choose_spec.1 (by rw[←C7 (t8 S7).choose_spec.1];exact aD5);have hot3:=hot2.mod s3 fun b hb hb2=>hds2 b hb2 hb;have hm3:o9 (fun b=>A3 vs b∨A3 vt b) w w3:=hm2.trans (s3.weaken fun b _ hb=>.inl hb);have hww3:B4 h (d7 w3):=K6 hw hm3 hmh;obtain⟨p1,u',w4,p2,p3,p4,p5⟩:=push (e:=118) ad0 rfl hot3 (x:=.int .i64 b) (y:=b) rfl (by omega) (by omega) hww3;simp only[Value.cells]at p1 p2;simp only[J4,O4,B7,E7,unV,p9,G7.val,simprocAttr,h24,g22,g1,hinx,hldb,hins,d1,hlds,hbs',s1,p1,p2];have hsz:w.heap.size≤w3.heap.size:=hm3.size;have hfresh:∀b,A3 (f2 2) b→A3 vt b∨w.heap.size≤b:=hmv2;refine⟨(td2++[b],sn2.set b.toNat true,j+1),by simp only[];omega,by simp only[];rw[B1 j (by omega)],by simp only[];omega,p3,s2.mod p4 (fun b hb hb2=>hds2 b hb hb2),?_,?_,?_,?_,?_,?_⟩
      ·intro c hc1 hc2;rcases p5 c hc2 with h1|h1
       ·exact hds2 c hc1 h1
       ·have:=s2.lt hc1;omega
      ·refine⟨p4.os.trans hm3.os,p4.tape.trans hm3.tape,p4.output.trans hm3.output,ew0 hm3.size p4.size,fun k hk hn=>?_⟩;refine(p4.block k (eC1 hk hm3.size) fun hb=>?_).trans (hm3.block k hk hn);rcases hmv2 k hb with h1|h1
       ·exact hn (.inr h1)
       ·omega
      ·intro c hc;rcases p5 c hc with h1|h1
       ·exact hmv2 c h1
       ·exact .inr (by omega)
      ·refine hi2.push (by rw[hlen];exact hbk) hbf (.step (hi2.via a (ex2 hta2)) hbm ?_);rw[eF7];intro hh;rw[(hi2.mark b).2 (.inl hh)]at hbf;cases hbf
      ·simp only[];rw[eA0 (ev8.1 hta2).1];exact hta2
      ·simp only[];rw[htk];intro c hc;rcases ew7.1 hc with hc|hc
       ·exact aG0 hbk2 (hrow c hc)
       ·simp at hc;subst hc;rw[M6 hbk2,if_pos rfl]
    ·have hge:j=(C1 nx a).length:=by simp at hc2;omega
     subst hge;rw[ew5]at hrow;simp only[J4,B7,E7,simprocAttr,g7];have hcnt2:=hi2.count;refine⟨(td2,sn2,i+1),by simp only[];omega,by simp only[];rw[B1 i (by omega)],hot2,hos2,hds2,hm2,hmv2,hi2.next hta2 hrow⟩
  ·have hge:i=td.length:=by have:=hi.le;simp at hc;omega
   subst hge;simp only[J4,simprocAttr];refine n7 results190 ?_;simp only[p6,simprocAttr];exact⟨td,sn,hot,hos,hds,hm,hmv,hi.fin⟩
theorem ez1:type_of% @List.mem_range:=@List.mem_range
inductive Rch (nx:List (List Int)) (from_:List Int):Int→Prop
 | base {a:Int}:a∈from_→H3 nx.length a=true→Rch nx from_ a
 | step {a b:Int}:Rch nx from_ a→b∈C1 nx a→Rch nx from_ b
theorem Rch.ok{nx:List (List Int)}{l:List Int}(hg:D7 nx.length nx){b:Int}(h:Rch nx l b):H3 nx.length b=true:=by
 cases h with
 | base _ h=>exact h
 | step _ hb=>exact(hg.row _).2 _ hb
theorem cV5{nx:List (List Int)}{sn:List Bool}{td l:List Int}(hm:∀b,B2 sn b=true↔b∈td)(ht:∀b,b∈td↔b∈l∧H3 nx.length b=true)(b:Int):Via nx sn td b↔Rch nx l b:=by
 constructor
 ·intro h
  induction h with
  | base ha=>exact .base ((ht _).1 ha).1 ((ht _).1 ha).2
  | step _ hb _ ih=>exact .step ih hb
 ·intro h
  induction h with
  | base h1 h2=>exact .base ((ht _).2 ⟨h1,h2⟩)
  | @step a b _ hb ih=>
   cases hs:B2 sn b with
   | true=>exact .base ((hm b).1 hs)
   | false=>exact .step ih hb hs
theorem bJ4{l:List Bool}{b:Int}:b∈Y9 l l.length↔B2 l b=true:=by
 unfold Y9;rw[ey0];constructor
 ·rintro⟨i,hi,rfl⟩;rw[ey4,ez1]at hi;have hk:H3 l.length (i:Int)=true:=C5.2 ⟨by omega,by omega⟩;rw[(M0 hk).2];simpa[List.getD]using hi.2
 ·intro h;have hk:=al7 h;obtain⟨h1,h2⟩:=M0 hk;have h3:=C5.1 hk;refine⟨b.toNat,?_,by omega⟩;rw[ey4,ez1];rw[h2]at h;exact⟨h1,by simpa[List.getD]using h⟩
theorem bi9(l:List Bool)(k:Nat):(Y9 l k).Pairwise (· < ·):=by
 unfold Y9;rw[List.pairwise_map];refine List.Pairwise.filter _ ?_;exact(List.pairwise_lt_range (n:=k)).imp fun h=>by omega
structure cW2 (l:List Int) (p:Int→Prop):Prop where
 le:l.Pairwise (· < ·)
 mem:∀b,b∈l↔p b
theorem dc9:af6 prog 190=true:=by kernel_rfl
theorem eg6:af6 prog 191=true:=by kernel_rfl
theorem dA0(v:Value)(w:World):Calls prog 127 #[.pointer none,v] w fun e w'=>∃u,e = .returned u∧(u = .slice none 0 0∧w'=w):=by
 refine d9 (args:=[.pointer none,v]) hm func127 rfl (by kernel_rfl) (by show 2≤_;decide +kernel) ?_;simp only[J4,O4,B7,simprocAttr];refine n7 results127 ?_;simp only[p6,simprocAttr];exact⟨by trivial,by trivial⟩
structure FI (n:Nat) (l:List Int) (td:List Int) (sn:List Bool):Prop where
 len:sn.length=n
 mark:∀b,B2 sn b=true↔b∈td
 mem:∀b,b∈td↔b∈l∧H3 n b=true
 count:td.length+sn.count false=n
theorem FI.start(n:Nat):FI n [] [] (List.replicate n false):=
 ⟨by simp,fun b=>by simp[ar7],fun b=>by simp,by simp⟩
theorem FI.old{n:Nat}{l td:List Int}{sn:List Bool}(h:FI n l td sn){a:Int}(ha:H3 n a=false∨B2 sn a=true):FI n (l++[a]) td sn:=by
 refine⟨h.len,h.mark,fun b=>?_,h.count⟩;rw[h.mem,ew7,ey1];constructor
 ·rintro⟨h1,h2⟩;exact⟨.inl h1,h2⟩
 ·rintro⟨h1|h1,h2⟩
  ·exact⟨h1,h2⟩
  ·subst h1;rcases ha with ha|ha
   ·rw[h2]at ha;cases ha
   ·exact(h.mem b).1 ((h.mark b).1 ha)
theorem FI.new{n:Nat}{l td:List Int}{sn:List Bool}(h:FI n l td sn){a:Int}(ha:H3 n a=true)(hs:B2 sn a=false):FI n (l++[a]) (td++[a]) (sn.set a.toNat true):=by
 have ha2:H3 sn.length a=true:=by rw[h.len];exact ha
 have hlt:=(M0 ha2).1;have hget:sn[a.toNat]=false:=by
  have:=(M0 ha2).2;rw[hs]at this;simp[List.getD,hlt]at this;exact this
 refine⟨by simp[h.len],fun b=>?_,fun b=>?_,?_⟩
 ·rw[M6 ha2,ew7,ey1];by_cases hb:b=a
  ·subst hb;simp
  ·simp[hb,h.mark b]
 ·rw[ew7,ew7,ey1,h.mem];constructor
  ·rintro(⟨h1,h2⟩|rfl)
   ·exact⟨.inl h1,h2⟩
   ·exact⟨.inr rfl,ha⟩
  ·rintro⟨h1|h1,h2⟩
   ·exact .inl ⟨h1,h2⟩
   ·exact .inr h1
 ·have:=h.count;have:=ab9 hlt hget;simp only[ev5,ey3];omega
theorem cg5(pg:Value)(nx pv:List (List Int))(v:Value)(l:List Int)(w:World)(hgr:GR (d7 w) pg nx pv)(hg:D7 nx.length nx)(hn5:nx.length≤5000)(hv:R (d7 w) v l)(hl:l.length≤1000000000):
  Calls prog 127 #[pg,v] w fun e w'=>∃u,e = .returned u∧((∃r,A9 (d7 w) w' 3 u r∧cW2 r (Rch nx l))∧o6 w w'):=by
 have hgr':=hgr;obtain⟨gb,vn,vp,rfl,h1,h2,h3,h4⟩:=hgr;refine d9 (args:=[.pointer (some ⟨gb,0,none⟩),v]) hm func127 rfl (by kernel_rfl) (by show 2≤_;decide +kernel) ?_;have hld:=G4 (P:=prog) (t:=155) h1 (i4 _) R1;have hSn:=h3.isS;have hnn:=h3.vlen;have hS:=hv.isS;have hvn:=hv.vlen;obtain⟨u0,w0,hmk,ho0,hx0,hf0,_⟩:=mk (P:=prog) (w:=w) (h:=d7 w) bp9 S7 (α:=Bool) (y:=false) rfl (n:=nx.length) (by omega) (by omega) (i4 _);simp only[J4,O4,B7,T6,simprocAttr,hld,hSn,hnn,hmk,hS,hvn];refine n8 [0,1,5,17,18] (σ:=List Int×List Bool×Nat) (fun s f w'=>f 19 = .int .i64 s.2.2∧s.2.2≤l.length∧A9 (d7 w) w' 3 (f 6) s.1∧A9 (d7 w) w' 4 u0 s.2.1∧(∀b,A3 u0 b→¬A3 (f 6) b)∧o6 w w'∧FI nx.length (l.take s.2.2) s.1 s.2.1)
  (fun s=>l.length-s.2.2) ([],List.replicate nx.length false,0) (by decide +kernel) ?_ ?_
 ·simp only[p6,simprocAttr];exact⟨by trivial,ew4 _,A9.nil _ _ _,ho0,fun b _ hb=>D0 hb,hx0,FI.start _⟩
 ·rintro⟨td,sn,k⟩ f w1 hk ⟨h19,hkl,hot,hos,hds,hx,hi⟩;simp only at h19 hkl hot hos hi;simp only[ev4,p6,simprocAttr]at hk;obtain⟨e0,e1,e5,e17,e18,_⟩:=hk;have hcnt:=hi.count;simp only[J4,B7,E7,simprocAttr,h19,e18];refine i5 (fun hc=>?_) (fun hc=>?_)
  ·have hlt:k<l.length:=by simpa using hc
   have hin:=hv.inS hlt;have hlda:=M8 (P:=prog) (t:=3) hv (b7 hx) (ev2 hlt) G3;have htk:=ew1 hlt;generalize hla:l[k]=a at hlda htk;simp only[J4,O4,p9,G7.val,simprocAttr,h19,e17,e0,hin,hlda];refine y5 bA3 (aN8 _ nx pv a w1 (hgr'.mono (b7 hx))) ?_;rintro u w1 ⟨rfl,rfl⟩;by_cases ha:H3 nx.length a=true
   ·have hak2:H3 sn.length a=true:=by rw[hi.len];exact ha
    obtain⟨halt,hag⟩:=M0 hak2;have hins:=hos.inS halt;have d1:decide (0≤a)=true:=by simpa using(C5.1 ha).1
    have hlds:=D4 (P:=prog) (t:=4) hos (k:=a.toNat) (x:=B2 sn a) (by rw[hag];simp[List.getD,halt]) ao9;by_cases hbs:B2 sn a=true
    ·have hbs':(!B2 sn a)=false:=by rw[hbs];rfl
     simp only[J4,O4,B7,E7,unV,p9,G7.val,simprocAttr,ha,h19,e5,hins,d1,hlds,hbs'];refine⟨(td,sn,k+1),by simp only[];omega,by simp only[];rw[B1 k (by omega)],by simp only[];omega,hot,hos,hds,hx,?_⟩;simp only[];rw[htk];exact hi.old (.inr hbs)
    ·have hbf:B2 sn a=false:=by simpa using hbs
     have hbs':(!B2 sn a)=true:=by rw[hbf];rfl
     obtain⟨w3,s1,s2,s3,s4⟩:=D9 (P:=prog) (t:=4) hos rfl (k:=a.toNat) halt (x:=.bool true) (y:=true) rfl rfl (t8 S7).choose_spec.1 (by rw[←C7 (t8 S7).choose_spec.1];exact aD5);have hot3:=hot.mod s3 fun b hb hb2=>hds b hb2 hb;have hx3:=hos.ext2 hx s3;obtain⟨p1,u',w4,p2,p3,p4,p5⟩:=push (e:=118) ad0 rfl hot3 (x:=.int .i64 a) (y:=a) rfl (by omega) (by omega) (b7 hx3);simp only[Value.cells]at p1 p2;simp only[J4,O4,B7,E7,unV,p9,G7.val,simprocAttr,ha,h19,e5,hins,d1,hlds,hbs',s1,p1,p2];refine⟨(td++[a],sn.set a.toNat true,k+1),by simp only[];omega,by simp only[];rw[B1 k (by omega)],by simp only[];omega,p3,s2.mod p4 (fun b hb hb2=>hds b hb hb2),?_,hot3.ext2 hx3 p4,?_⟩
     ·intro c hc1 hc2;rcases p5 c hc2 with h1|h1
      ·exact hds c hc1 h1
      ·have:=s2.lt hc1;omega
     ·simp only[];rw[htk];exact hi.new ha hbf
   ·have ha':H3 nx.length a=false:=by simpa using ha
    simp only[J4,B7,E7,simprocAttr,ha',h19];refine⟨(td,sn,k+1),by simp only[];omega,by simp only[];rw[B1 k (by omega)],by simp only[];omega,hot,hos,hds,hx,?_⟩;simp only[];rw[htk];exact hi.old (.inl ha')
  ·have hge:k=l.length:=by simp at hc;omega
   subst hge;rw[ew5]at hi;have hld1:=G4 (P:=prog) (t:=155) h1 (b7 hx) R1;simp only[J4,O4,simprocAttr,e0,e5,hld1];refine y5 dc9 (bO6 (d7 w) vn u0 (f 6) nx sn td w1 (b7 hx) h3 hg hos hot hds hi.len (fun a ha=>(hi.mark a).2 ha) hn5 (by omega)) ?_;rintro u w2 ⟨td2,sn2,hot2,hos2,hds2,hm2,hmv2,hok⟩;have hx2:o6 w w2:=o9.ext_of hx hm2 fun b hb=>by
    rcases ez0 b w.heap.size with hlt|hge
    ·have:(d7 w) b=none:=hb.elim hos.free hot.free;simp[d7,hlt]at this
    ·exact hge
   have hl2:sn2.length=nx.length:=by rw[hok.len,hi.len]
   simp only[J4,simprocAttr,e5];refine y5 eg6 (bT9 u0 sn2 w2 (hos2.rw_ (b7 hx2)) (by omega)) ?_;rintro r w3 ⟨hr,hx3⟩;simp only[J4,simprocAttr];refine n7 results127 ?_;simp only[p6,simprocAttr];refine⟨⟨_,hr.back hx2,bi9 _ _,fun b=>?_⟩,hx2.trans hx3⟩;rw[bJ4,hok.mark,←cV5 hi.mark hi.mem];constructor
   ·rintro(hb|hb)
    ·exact .base ((hi.mark b).1 hb)
    ·exact(hok.via b).1 hb
   ·exact fun hb=>.inr ((hok.via b).2 hb)
theorem dc8:af6 prog 188=true:=by kernel_rfl
theorem bI1:af6 prog 86=true:=by kernel_rfl
theorem ca3(a b:Int):B9 prog 74 [(0,.int .i64 a),(1,.int .i64 b)]=some (.agg #[.int .i64 a,.int .i64 b]):=by
 simp[B9,cZ4,J5,Instr.fill,Value.cells]
theorem cW8{h:Hp}(a b:Int):z7.enc h (Value.cells (.agg #[.int .i64 a,.int .i64 b])).toList ((a,b):Int×Int):=⟨[.int .i64 a],[.int .i64 b],rfl,rfl,rfl⟩
theorem aj6(a:Addr)(wy:Wy)(p:Pg)(i x y:Nat)(v:Value)(l:List Sp)(w:World)(ha:At (d7 w) a wy)(hok:WyOk p i x y wy)(hv:R (d7 w) v l)(hl:∀t∈l,RgS x y t)(hll:l.length≤10000000):
  Calls prog 86 #[.pointer (some a),v] w fun e w'=>∃u,e = .returned u∧(A9 (d7 w) w' 74 u (wy.pairs l)∧o6 w w'):=by
 refine d9 (args:=[.pointer (some a),v]) hm func86 rfl (by kernel_rfl) (by show 2≤_;decide +kernel) ?_;have hS:=hv.isS;have hn:=hv.vlen;have hfit:=hok.part.ok.fit;have hlen:=hok.part.ok.len;have hF:wy.pairs l=l.map fun t=>(wy.index t.src,wy.index t.dst):=rfl;simp only[n3,n9,simprocAttr,hS,hn];refine n8 [0,8,9] (σ:=Nat×Value) (fun s f w'=>f 10 = .int .i64 s.1∧f 5=s.2∧s.1≤l.length∧A9 (d7 w) w' 74 s.2 ((l.take s.1).map fun t=>(wy.index t.src,wy.index t.dst))∧o6 w w') (fun s=>l.length-s.1) (0,.slice none 0 0) (by decide +kernel) ?_ ?_
 ·simp only[p6,simprocAttr];exact⟨by trivial,by trivial,ew4 _,by simpa using A9.nil _ _ _,o9.refl _⟩
 rintro⟨k,u⟩ f w2 hk ⟨h10,h5,hkl,ho,hx2⟩;simp only at h10 h5 hkl ho;simp only[ev4,p6,simprocAttr]at hk;obtain⟨e0,e8,e9,_⟩:=hk;simp only[n3,n9,simprocAttr,h10,e9];refine i5 (fun hc=>?_) (fun hc=>?_);rotate_left
 ·have hge:k=l.length:=by simp at hc;omega
  subst hge;rw[ew5]at ho;simp only[n3,simprocAttr,h5];refine n7 results86 ?_;simp only[p6,simprocAttr];exact⟨by rw[hF];exact ho,hx2⟩
 have hlt:k<l.length:=by simpa using hc
 have hin:=hv.inS hlt;obtain⟨sv,hsv,hld⟩:=G1 (P:=prog) (t:=187) hv (b7 hx2) (ev2 hlt) bC8 bD2 bm4 aM1;rw[aM1]at hld;have htk:(l.take (k+1)).map (fun t=>(wy.index t.src,wy.index t.dst))=(l.take k).map (fun t=>(wy.index t.src,wy.index t.dst))++[(wy.index l[k].src,wy.index l[k].dst)]:=by
  rw[ew1 hlt,ey5];rfl
 have hrg:=hl _ (ew2 hlt);generalize l[k]=s at hsv htk hrg;obtain⟨c,wz,w4,hal,hst,hx4,hat⟩:=cV2 (hsv.mono (b7 hx2)) (i4 _);obtain⟨_,sds⟩:=hat.sp;have s1:=sds (fun w'=>o6 w4.drew w') w4.drew (o9.refl _) fun w' h=>b7 ((o6.drew w4).trans h);have hx4d:=hx2.trans (hx4.trans (o6.drew w4));have hb1 : -1≤s.src∧s.src≤2000000:=by
  rcases hrg.1 with h|h<;>omega
 have hb2 : -1≤s.dst∧s.dst≤2000000:=by
  rcases hrg.2 with h|h<;>omega
 simp only[n3,n9,p9,simprocAttr,h10,e8,hin,hld,hal,hst];refine C2 (fun w'=>o6 w4.drew w') 11 (A8 [0,1,2,3,5,6,7,4,8,9,10]) (by decide +kernel) (o9.refl _) ?_;simp only[D5,A8,n3,n9,simprocAttr,s1,e0];refine B3 cw3 (aS2 a wy p i x y s.src w4.drew (ha.mono (b7 hx4d)) hok hb1) (fun w5 hx5=>⟨hx5,?_⟩);simp only[D5,n3,simprocAttr];refine B3 cw3 (aS2 a wy p i x y s.dst w5 (ha.mono (b7 (hx4d.trans hx5))) hok hb2) (fun w6 hx6=>⟨hx5.trans hx6,?_⟩);have hx06:=hx4d.trans (hx5.trans hx6);have ho6:=ho.ext (hx4.trans ((o6.drew w4).trans (hx5.trans hx6)));obtain⟨p1,u7,w7,p2,p3,p4,p5⟩:=push (e:=72) dI8 rfl ho6 (x:=.agg #[.int .i64 (wy.index s.src),.int .i64 (wy.index s.dst)]) (y:=(wy.index s.src,wy.index s.dst)) (cW8 _ _) (by simp only[ew3,ew6];omega) (by simp only[ew3,ew6];omega) (b7 hx06);simp only[D5,n3,simprocAttr,ca3,p1,F7];refine⟨hx5.trans (hx6.trans (o6.alloc _ _)),?_⟩;simp only[n3,n9,simprocAttr,h5,h10,p2];exact⟨(k+1,u7),by simp only[];omega,by simp only[];rw[B1 k (by omega)],by trivial,by simp only[];omega,by simp only[];rw[htk];exact p3,ho6.ext2 hx06 p4⟩
theorem bh3(a:Addr)(wy:Wy)(p:Pg)(i x y:Nat)(v:Value)(l:List Sp)(w:World)(ha:At (d7 w) a wy)(hok:WyOk p i x y wy)(hm200:(b9 p).l.length≤200)(hv:R (d7 w) v l)(hl:∀t∈l,RgS x y t)(hll:l.length≤10000000):
  Calls prog 126 #[.pointer (some a),v] w fun e w'=>∃u,e = .returned u∧(GR (d7 w') u (ag6 wy.n.toNat (wy.pairs l)).1 (ag6 wy.n.toNat (wy.pairs l)).2∧o6 w w'):=by
 refine d9 (args:=[.pointer (some a),v]) hm func126 rfl (by kernel_rfl) (by show 2≤_;decide +kernel) ?_;obtain⟨_,_,_,_,_,_,ldw,sdw⟩:=ha.wy;have hst:∀w',o6 w.drew w'→B4 (d7 w) (d7 w'):=fun w' h=>b7 ((o6.drew w).trans h);have s1:=sdw (fun w'=>o6 w.drew w') w.drew (o9.refl _) hst;have hlen:=hok.part.ok.len;have hn:=hok.n;have hle':=hok.part.ok.le;have hnn:wy.n=((wy.n.toNat:Nat):Int):=by omega
 have hpl:(wy.pairs l).length=l.length:=ew3 _;simp only[n3,n9,simprocAttr];refine C2 (fun w'=>o6 w.drew w') 7 (A8 [0,1,2,3,4,5,6]) (by decide +kernel) (o9.refl _) ?_;simp only[D5,A8,n3,n9,simprocAttr,s1];refine y5 bI1 (aj6 a wy p i x y v l w.drew (ha.mono (b7 (o6.drew w))) hok (z7.mono (b7 (o6.drew w)) hv) hl hll) ?_;rintro u w2 ⟨ho2,hx2⟩;refine⟨hx2,?_⟩;rw[hnn];simp only[D5,n3,n9,simprocAttr];refine y5 dc8 (cd4 wy.n.toNat u (wy.pairs l) w2 (by omega) (ho2.rw_ (b7 hx2)) (by omega)) ?_;rintro u3 w3 ⟨⟨M,hg⟩,hx3⟩;have hx02:=(o6.drew w).trans hx2;simp only[n3,simprocAttr];refine n7 results126 ?_;simp only[p6,simprocAttr];exact⟨hg.read (b7 hx3),hx02.trans hx3⟩
mutual
theorem cy8:∀(t:St) (d:Nat) (n m:Int),n≤200→((I5 d t.thn n).bind fun m=>I5 d t.els m)=some m→m≤200
 | .mk id kind labels name proc x has args thn els,d,n,m,hn,h=>by
  simp only[St.thn,St.els]at h;obtain⟨m1,h1,h2⟩:=eC5.1 h;exact aF2 els d m1 m (aF2 thn d n m1 hn h1) h2
theorem aF2:∀(l:List St) (d:Nat) (n m:Int),n≤200→I5 d l n=some m→m≤200
 | [],d,n,m,hn,h=>by
  cases d with
  | zero=>simp[I5]at h;omega
  | succ d=>rw[I5]at h;simp at h;omega
 | t::l,0,n,m,hn,h=>by simp[I5]at h
 | t::l,d+1,n,m,hn,h=>by
  rw[aL0]at h;obtain⟨m1,h1,h2⟩:=eC5.1 h;split at h1
  ·cases h1
  ·next hc=>
   have h3:n+1≤200:=by
    rcases Int.lt_or_le 200 (n+1)with h|h
    ·exact absurd (.inl h) hc
    ·exact h
   exact aF2 l (d+1) m1 m (cy8 t d (n+1) m1 h3 h1) h2
end
theorem bK8:∀(l:List Pr) (n:Int),n≤200→(l.foldlM (fun n f=>S6 f n) n).isSome=true→n+((l.map fun f=>A7 f.body).sum:Nat)≤200
 | [],n,hn,_=>by simpa using hn
 | f::l,n,hn,h=>by
  rw[List.foldlM_cons]at h;obtain⟨k,hk⟩:=eB0.1 h;obtain⟨m,hm,hm2⟩:=eC5.1 hk;unfold S6 at hm;split at hm
  ·cases hm
  ·have e:=(aO2 f.body 12 n m hm).1;have h2:=aF2 f.body 12 n m hn hm;have:=bK8 l m h2 (by rw[hm2];rfl);rw[ez9,eF8];omega
theorem J3{p:Pg}(hm:N1 p=true):(b9 p).l.length≤200:=by
 rw[at7];simp only[N1,ex5]at hm;have:=bK8 p.procs 0 (by omega) hm.2;unfold bF0;omega
theorem eH3:type_of% @List.take_add_one:=@List.take_add_one
inductive Way (nx:List (List Int)) (a:Int):Int→Prop
 | refl:Way nx a a
 | step {b c:Int}:Way nx a b→c∈C1 nx b→Way nx a c
theorem Way.trans{nx:List (List Int)}{a b c:Int}(h:Way nx a b)(k:Way nx b c):Way nx a c:=by
 induction k with
 | refl=>exact h
 | step _ hc ih=>exact .step ih hc
theorem Way.one{nx:List (List Int)}{a b:Int}(h:b∈C1 nx a):Way nx a b:=.step .refl h
def ai3(nx:List (List Int))(a b:Int):Prop:=Way nx a b∧Way nx b a
theorem ai3.refl{nx:List (List Int)}(a:Int):ai3 nx a a:=⟨.refl,.refl⟩
theorem ai3.symm{nx:List (List Int)}{a b:Int}(h:ai3 nx a b):ai3 nx b a:=⟨h.2,h.1⟩
theorem ai3.trans{nx:List (List Int)}{a b c:Int}(h:ai3 nx a b)(k:ai3 nx b c):ai3 nx a c:=⟨h.1.trans k.1,k.2.trans h.2⟩
def ai(l:List Int)(a:Int):Int:=l.getD a.toNat 0
theorem aS4{l:List Int}{n:Nat}(hl:l.length=n){a b v:Int}(ha:H3 n a=true)(hb:H3 n b=true):ai (l.set a.toNat v) b=if b=a then v else ai l b:=by
 have ha':=C5.1 ha;have hb':=C5.1 hb;unfold ai;by_cases h:b=a
 ·subst h;rw[if_pos rfl];have:b.toNat<l.length:=by omega
  simp[List.getD,this]
 ·rw[if_neg h];have:a.toNat≠b.toNat:=by omega
  simp[List.getD,this]
theorem cX6{nx:List (List Int)}{out stack:List Int}(hb:∀x∈out,∀y∈C1 nx x,y∈out∨y∈stack){x r:Int}(hx:x∈out)(hw:Way nx x r)(hr:r∉out):∃g∈stack,Way nx x g:=by
 induction hw with
 | refl=>exact absurd hx hr
 | @step b c hw hc ih=>
  by_cases h:b∈out
  ·rcases hb b h c hc with h1|h1
   ·exact absurd h1 hr
   ·exact⟨c,h1,.step hw hc⟩
  ·exact ih h
structure DI (nx:List (List Int)) (n:Nat) (out stack:List Int) (seen:List Bool) (at_:List Int):Prop where
 slen:seen.length=n
 alen:at_.length=n
 mark:∀b,B2 seen b=true↔b∈out∨b∈stack
 count:out.length+stack.length+seen.count false=n
 apart:∀b∈out,b∉stack
 onod:out.Nodup
 snod:stack.Nodup
 path:stack.Pairwise (Way nx)
 black:∀x∈out,∀y∈C1 nx x,y∈out∨y∈stack
 atok:∀a,H3 n a=true→0≤ai at_ a∧ai at_ a≤(C1 nx a).length
 white:∀a,H3 n a=true→B2 seen a=false→ai at_ a=0
 grey:∀g∈stack,∀y∈(C1 nx g).take (ai at_ g).toNat,B2 seen y=true
 low:∀x∈out,∀g∈stack,Way nx x g→∃c∈stack,ai3 nx c x
 cut:∀k,∀x∈out.take k,∀r,r∉out.take k→Way nx x r→∃c,c∉out.take k∧ai3 nx c x
section
variable {nx:List (List Int)} {n:Nat} {out stack:List Int} {seen:List Bool} {at_:List Int}
theorem DI.start(hn:nx.length=n):DI nx n [] [] (List.replicate n false) (List.replicate n 0):=by
 have h0:∀a,ai (List.replicate n 0) a=0:=fun a=>by
  simp[ai,List.getD,eF3];split<;>rfl
 have no:∀(x:Int) {p:Prop},x∈([]:List Int)→p:=fun x p h=>absurd h (eA6);exact⟨by simp,by simp,fun b=>by simp[ar7],by simp,fun b hb=>no b hb,List.nodup_nil,List.nodup_nil,List.Pairwise.nil,fun x hx=>no x hx,
  fun a _=>(by rw[h0];omega),fun a _ _=>h0 a,fun g hg=>no g hg,fun x hx=>no x hx,fun k x hx=>no x (by simpa using hx)⟩
theorem DI.ok(h:DI nx n out stack seen at_){b:Int}(hb:b∈out∨b∈stack):H3 n b=true:=by
 have:=al7 ((h.mark b).2 hb)
 rwa [h.slen]at this
theorem DI.push(h:DI nx n out stack seen at_){y:Int}(hy:H3 n y=true)(hs:B2 seen y=false)(hw:∀g∈stack,Way nx g y):DI nx n out (stack++[y]) (seen.set y.toNat true) at_:=by
 have hy2:H3 seen.length y=true:=by rw[h.slen];exact hy
 have hset:∀c,B2 (seen.set y.toNat true) c=if c=y then true else B2 seen c:=fun c=>M6 hy2;have hlt:=(M0 hy2).1;have hget:seen[y.toNat]=false:=by
  have:=(M0 hy2).2;rw[hs]at this;simp[List.getD,hlt]at this;exact this
 have hno:y∉out:=fun hh=>by rw[(h.mark y).2 (.inl hh)]at hs;cases hs
 have hns:y∉stack:=fun hh=>by rw[(h.mark y).2 (.inr hh)]at hs;cases hs
 refine⟨by simp[h.slen],h.alen,fun c=>?_,?_,fun b hb hb2=>?_,h.onod,?_,?_,fun x hx z hz=>?_,h.atok,fun a ha hsa=>?_,fun g hg z hz=>?_,fun x hx g hg hwx=>?_,h.cut⟩
 ·rw[hset,ew7,ey1];by_cases hc:c=y
  ·subst hc;simp
  ·simp[hc,h.mark c]
 ·have:=h.count;have:=ab9 hlt hget;simp only[ev5,ey3];omega
 ·rcases ew7.1 hb2 with h1|h1
  ·exact h.apart b hb h1
  ·simp at h1;subst h1;exact hno hb
 ·rw[eA4];refine⟨h.snod,by simp,fun a ha b hb=>?_⟩;simp at hb;subst hb;rintro rfl;exact hns ha
 ·rw[List.pairwise_append];refine⟨h.path,by simp,fun a ha b hb=>?_⟩;simp at hb;subst hb;exact hw a ha
 ·rcases h.black x hx z hz with h1|h1
  ·exact .inl h1
  ·exact .inr (eA2 _ h1)
 ·rw[hset]at hsa;split at hsa
  ·cases hsa
  ·exact h.white a ha hsa
 ·rcases ew7.1 hg with h1|h1
  ·exact aG0 hy2 (h.grey g h1 z hz)
  ·simp at h1;subst h1;rw[h.white g hy hs]at hz;simp at hz
 ·have key:∃g∈stack,Way nx x g:=by
   rcases ew7.1 hg with h1|h1
   ·exact⟨g,h1,hwx⟩
   ·simp at h1;subst h1;exact cX6 h.black hx hwx hno
  obtain⟨g',hg',hwg⟩:=key;obtain⟨c,hc,hb⟩:=h.low x hx g' hg' hwg;exact⟨c,eA2 _ hc,hb⟩
theorem DI.adv(h:DI nx n out stack seen at_){a y:Int}(ha:H3 n a=true){k:Nat}(hk:ai at_ a=k)(hy:(C1 nx a)[k]?=some y)(hs:B2 seen y=true)(hsa:B2 seen a=true):DI nx n out stack seen (at_.set a.toNat (k+1:Nat)):=by
 have hlt:=(ev8.1 hy).1;refine⟨h.slen,by simp[h.alen],h.mark,h.count,h.apart,h.onod,h.snod,h.path,h.black,fun b hb=>?_,fun b hb hsb=>?_,fun g hg z hz=>?_,h.low,h.cut⟩
 ·rw[aS4 h.alen ha hb];split
  ·rename_i e;subst e;omega
  ·exact h.atok b hb
 ·rw[aS4 h.alen ha hb];split
  ·rename_i e;subst e;rw[hsa]at hsb;cases hsb
  ·exact h.white b hb hsb
 ·have hgk:=h.ok (.inr hg);rw[aS4 h.alen ha hgk]at hz;split at hz
  ·rename_i e;subst e;rw[ex8,eH3,hy]at hz;rcases ew7.1 hz with h1|h1
   ·refine h.grey g hg z ?_;rw[hk,ex8];exact h1
   ·simp at h1;subst h1;exact hs
  ·exact h.grey g hg z hz
theorem DI.pop{s:List Int}{a:Int}(h:DI nx n out (s++[a]) seen at_)(hk:ai at_ a=(C1 nx a).length):DI nx n (out++[a]) s seen at_:=by
 have has:a∈s++[a]:=by simp
 have hno:a∉out:=fun hh=>h.apart a hh has;have hnd:=eA4.1 h.snod;have hnas:a∉s:=fun hh=>hnd.2.2 a hh a (by simp) rfl;have hpa:=List.pairwise_append.1 h.path;have hga:∀g∈s,Way nx g a:=fun g hg=>hpa.2.2 g hg a (by simp);have hblack:∀x∈out++[a],∀y∈C1 nx x,y∈out++[a]∨y∈s:=by
  intro x hx y hy;have hm:y∈out∨y∈s++[a]:=by
   rcases ew7.1 hx with h1|h1
   ·exact h.black x h1 y hy
   ·simp at h1;subst h1;refine(h.mark y).1 (h.grey x has y ?_);rw[hk,ex8,ew5];exact hy
  rcases hm with h1|h1
  ·exact .inl (eA2 _ h1)
  ·rcases ew7.1 h1 with h2|h2
   ·exact .inr h2
   ·exact .inl (eD0 _ h2)
 have hlow:∀x∈out++[a],∀g∈s,Way nx x g→∃c∈s,ai3 nx c x:=by
  intro x hx g hg hw;rcases ew7.1 hx with h1|h1
  ·obtain⟨c,hc,hb⟩:=h.low x h1 g (eA2 _ hg) hw;rcases ew7.1 hc with h2|h2
   ·exact⟨c,h2,hb⟩
   ·simp at h2;subst h2;exact⟨g,hg,⟨(hga g hg).trans hb.1,hw⟩⟩
  ·simp at h1;subst h1;exact⟨g,hg,⟨hga g hg,hw⟩⟩
 have hap:∀b∈out++[a],b∉s:=by
  intro b hb hs;rcases ew7.1 hb with h1|h1
  ·exact h.apart b h1 (eA2 _ hs)
  ·simp at h1;subst h1;exact hnas hs
 refine⟨h.slen,h.alen,fun b=>?_,?_,hap,?_,hnd.1,hpa.1,hblack,h.atok,h.white,fun g hg=>h.grey g (eA2 _ hg),hlow,fun k x hx r hr hw=>?_⟩
 ·rw[h.mark,ew7,ew7];constructor
  ·rintro(h1|h1|h1)
   ·exact .inl (.inl h1)
   ·exact .inr h1
   ·exact .inl (.inr h1)
  ·rintro((h1|h1)|h1)
   ·exact .inl h1
   ·exact .inr (.inr h1)
   ·exact .inr (.inl h1)
 ·have:=h.count;simp only[ev5,ey3]at this ⊢;omega
 ·rw[eA4];refine⟨h.onod,by simp,fun x hx y hy=>?_⟩;simp at hy;subst hy;rintro rfl;exact hno hx
 ·by_cases hkl:k≤out.length
  ·rw[eD9 hkl]at hx hr ⊢;exact h.cut k x hx r hr hw
  ·rw[ez7 (by simp;omega)]at hx hr ⊢;obtain⟨g,hg,hwg⟩:=cX6 hblack hx hw hr;obtain⟨c,hc,hb⟩:=hlow x hx g hg hwg;exact⟨c,fun hh=>hap c hh hc,hb⟩
end
structure aM7 (nx:List (List Int)) (n:Nat) (out:List Int):Prop where
 nod:out.Nodup
 mem:∀b,b∈out↔H3 n b=true
 cut:∀k,∀x∈out.take k,∀r,r∉out.take k→Way nx x r→∃c,c∉out.take k∧ai3 nx c x
 len:out.length=n
theorem DI.fin{nx:List (List Int)}{n:Nat}{out:List Int}{seen:List Bool}{at_:List Int}(h:DI nx n out [] seen at_)(hall:∀b,H3 n b=true→B2 seen b=true):aM7 nx n out:=by
 have hm:∀b,b∈out↔H3 n b=true:=fun b=>⟨fun hb=>h.ok (.inl hb),fun hb=>by
  rcases(h.mark b).1 (hall b hb)with h1|h1
  ·exact h1
  ·cases h1⟩
 refine⟨h.onod,hm,h.cut,?_⟩;have hc:seen.count false=0:=by
  rw[List.count_eq_zero];intro hf;obtain⟨i,hi,he⟩:=List.getElem_of_mem hf;have hk:H3 seen.length (i:Int)=true:=C5.2 ⟨by omega,by omega⟩;have h1:=hall i (by rw[←h.slen];exact hk);rw[(M0 hk).2]at h1;simp[List.getD,hi,he]at h1
 have:=h.count;simp only[eB7]at this;omega
def cc5(nx:List (List Int))(at_:List Int)(n:Nat):Nat:=((List.range n).map fun(i:Nat)=>(C1 nx (i:Int)).length-(ai at_ (i:Int)).toNat).sum
theorem cC6{f g:Nat→Nat}{i:Nat}:∀{n:Nat},i<n→(∀j,j<n→j≠i→f j=g j)→f i<g i→((List.range n).map f).sum<((List.range n).map g).sum
 | 0,h,_,_=>by omega
 | n+1,h,he,hl=>by
  have B4:∀m,(∀j,j<m→j≠i→f j=g j)→((List.range m).map f).sum≤((List.range m).map g).sum:=by
   intro m
   induction m with
   | zero=>intro _;simp
   | succ m ih=>
    intro hh;have:=ih fun j hj=>hh j (by omega);rw[eG0];simp only[ey5,List.sum_append,ez9,List.map_nil,eF8,List.sum_nil];by_cases hm:m=i
    ·subst hm;omega
    ·have:=hh m (by omega) hm;omega
  rw[eG0];simp only[ey5,List.sum_append,ez9,List.map_nil,eF8,List.sum_nil];by_cases hn:n=i
  ·subst hn;have:=B4 n fun j hj=>he j (by omega);omega
  ·have:=cC6 (n:=n) (by omega) (fun j hj=>he j (by omega)) hl;have:=he n (by omega) hn;omega
theorem cl4{nx:List (List Int)}{at_:List Int}{n:Nat}(hl:at_.length=n){a:Int}(ha:H3 n a=true){k:Nat}(hk:ai at_ a=k)(hlt:k<(C1 nx a).length):cc5 nx (at_.set a.toNat (k+1:Nat)) n<cc5 nx at_ n:=by
 have ha':=C5.1 ha;refine cC6 (i:=a.toNat) (by omega) (fun j hj hne=>?_) ?_
 ·have hj':H3 n (j:Int)=true:=C5.2 ⟨by omega,by omega⟩;rw[aS4 hl ha hj',if_neg (by omega)]
 ·have e:((a.toNat:Nat):Int)=a:=by omega
  rw[e,aS4 hl ha ha,if_pos rfl,hk];omega
def az8(nx:List (List Int))(b m:Int):Prop:=ai3 nx b m∧∀c,ai3 nx b c→m≤c
theorem az8.uniq{nx:List (List Int)}{b m m':Int}(h:az8 nx b m)(h':az8 nx b m'):m=m':=
 Int.le_antisymm (h.2 _ h'.1) (h'.2 _ h.1)
theorem bY4{n:Nat}{nx:List (List Int)}(hg:D7 n nx){a b:Int}(h:Way nx a b)(ha:H3 n a=true):H3 n b=true:=by
 cases h with
 | refl=>exact ha
 | step _ hb=>exact(hg.row _).2 _ hb
inductive bo0 (nx:List (List Int)):Int→Int→Prop
 | refl {a:Int}:bo0 nx a a
 | head {a b c:Int}:b∈C1 nx a→bo0 nx b c→bo0 nx a c
theorem bo0.snoc{nx:List (List Int)}{a b c:Int}(h:bo0 nx a b)(hc:c∈C1 nx b):bo0 nx a c:=by
 induction h with
 | refl=>exact .head hc .refl
 | head h1 _ ih=>exact .head h1 (ih hc)
theorem Way.toL{nx:List (List Int)}{a b:Int}(h:Way nx a b):bo0 nx a b:=by
 induction h with
 | refl=>exact .refl
 | step _ hc ih=>exact ih.snoc hc
theorem bo0.way{nx:List (List Int)}{a b:Int}(h:bo0 nx a b):Way nx a b:=by
 induction h with
 | refl=>exact .refl
 | head h1 _ ih=>exact(Way.one h1).trans ih
structure PI (nx:List (List Int)) (n:Nat) (order:List Int) (seen:List Bool) (part:List Int) (k:Nat):Prop where
 slen:seen.length=n
 plen:part.length=n
 mark:∀b,B2 seen b=true↔∃c∈order.drop k,ai3 nx c b
 part:∀b,B2 seen b=true→az8 nx b (ai part b)
section
variable {nx pv:List (List Int)} {n:Nat} {order:List Int} {seen:List Bool} {part:List Int} {k:Nat}
theorem PI.start(ho:aM7 nx n order):PI nx n order (List.replicate n false) (List.replicate n 0) n:=
 ⟨by simp,by simp,fun b=>by simp[ar7,←ho.len],fun b hb=>by rw[ar7]at hb;cases hb⟩
theorem bz0{l:List Int}{k:Nat}{r:Int}(h:l[k]?=some r):l.drop k=r::l.drop (k+1):=by
 obtain⟨hlt,e⟩:=ev8.1 h;rw[ez4 hlt,e]
theorem PI.old(h:PI nx n order seen part (k+1)){r:Int}(hr:order[k]?=some r)(hs:B2 seen r=true):PI nx n order seen part k:=by
 refine⟨h.slen,h.plen,fun b=>?_,h.part⟩;rw[h.mark,bz0 hr];constructor
 ·rintro⟨c,hc,hb⟩;exact⟨c,eB5 _ hc,hb⟩
 ·rintro⟨c,hc,hb⟩;rcases ex3.1 hc with rfl|hc
  ·obtain⟨d,hd,hdb⟩:=(h.mark c).1 hs;exact⟨d,hd,hdb.trans hb⟩
  ·exact⟨c,hc,hb⟩
theorem PI.walk(h:PI nx n order seen part (k+1))(ho:aM7 nx n order)(hg:D7 n nx)(hb:∀a b,b∈C1 nx a↔a∈C1 pv b){r:Int}(hr:order[k]?=some r)(hs:B2 seen r=false)(b:Int):
  Via pv (seen.set r.toNat true) [r] b↔ai3 nx r b:=by
 have hro:r∈order:=ex2 hr;have hrk:=(ho.mem r).1 hro;have hrk2:H3 seen.length r=true:=by rw[h.slen];exact hrk
 have hset:∀c,B2 (seen.set r.toNat true) c=if c=r then true else B2 seen c:=fun c=>M6 hrk2;have hsplit:order=order.take k++r::order.drop (k+1):=by rw[←bz0 hr,eA3]
 have hnd:r∉order.take k:=by
  have:=ho.nod;rw[hsplit,eA4]at this;exact fun hh=>this.2.2 r hh r (by simp) rfl
 constructor
 ·intro hv
  induction hv with
  | base ha=>simp at ha;subst ha;exact .refl _
  | @step a b _ hba hsb ih=>
   have hab:a∈C1 nx b:=(hb b a).2 hba;have hwr:Way nx b r:=(Way.one hab).trans ih.2;have hne:b≠r:=by
    rintro rfl;rw[hset,if_pos rfl]at hsb;cases hsb
   rw[hset,if_neg hne]at hsb;have hbk:H3 n b=true:=by
    cases hq:H3 n b with
    | true=>rfl
    | false=>
     rw[aP9 (by rw[hg.len];exact hq)]at hab;cases hab
   have hnot:∀c∈order.drop (k+1),¬ai3 nx c b:=fun c hc hcb=>by
    rw[(h.mark b).2 ⟨c,hc,hcb⟩]at hsb;cases hsb
   have hbo:=(ho.mem b).2 hbk;rw[hsplit]at hbo;have hbt:b∈order.take k:=by
    rcases ew7.1 hbo with h1|h1
    ·exact h1
    ·rcases ex3.1 h1 with h1|h1
     ·exact absurd h1 hne
     ·exact absurd (ai3.refl b) (hnot b h1)
   obtain⟨c,hc,hcb⟩:=ho.cut k b hbt r hnd hwr;have hck:H3 n c=true:=bY4 hg hcb.2 hbk;have hco:=(ho.mem c).2 hck;rw[hsplit]at hco;rcases ew7.1 hco with h1|h1
   ·exact absurd h1 hc
   ·rcases ex3.1 h1 with h1|h1
    ·subst h1;exact hcb
    ·exact absurd hcb (hnot c h1)
 ·rintro⟨h1,h2⟩;have key:∀x y,bo0 nx x y→y=r→Way nx r x→Via pv (seen.set r.toNat true) [r] x:=by
   intro x y hxy
   induction hxy with
   | refl=>rintro rfl _;exact .base (by simp)
   | @head x b y hxb hby ih=>
    rintro rfl hrx;by_cases hxr:x=y
    ·subst hxr;exact .base (by simp)
    ·have hv:=ih rfl (hrx.trans (Way.one hxb));refine .step hv ((hb x b).1 hxb) ?_;rw[hset,if_neg hxr];rw[eF7];intro hsx;obtain⟨c,hc,hcx⟩:=(h.mark x).1 hsx;have hyx:ai3 nx x y:=⟨(Way.one hxb).trans hby.way,hrx⟩;rw[(h.mark y).2 ⟨c,hc,hcx.trans hyx⟩]at hs;cases hs
  exact key b r h2.toL rfl h1
theorem PI.new(h:PI nx n order seen part (k+1)){r:Int}(hr:order[k]?=some r){seen':List Bool}{part':List Int}{m:Int}(hl:seen'.length=n)(hpl:part'.length=n)
  (hm:∀b,B2 seen' b=true↔B2 seen b=true∨ai3 nx r b) (hleast:az8 nx r m) (hp:∀b,B2 seen' b=true→ai part' b=if B2 seen b=true then ai part b else m):PI nx n order seen' part' k:=by
 refine⟨hl,hpl,fun b=>?_,fun b hb=>?_⟩
 ·rw[hm,h.mark,bz0 hr];constructor
  ·rintro(⟨c,hc,hb⟩|hb)
   ·exact⟨c,eB5 _ hc,hb⟩
   ·exact⟨r,by simp,hb⟩
  ·rintro⟨c,hc,hb⟩;rcases ex3.1 hc with rfl|hc
   ·exact .inr hb
   ·exact .inl ⟨c,hc,hb⟩
 ·rw[hp b hb];split
  ·rename_i hs;exact h.part b hs
  ·rename_i hs;rcases(hm b).1 hb with h1|h1
   ·exact absurd h1 hs
   ·exact⟨h1.symm.trans hleast.1,fun c hc=>hleast.2 c (h1.trans hc)⟩
theorem PI.fin(h:PI nx n order seen part 0)(ho:aM7 nx n order):part.length=n∧∀b,H3 n b=true→az8 nx b (ai part b):=
 ⟨h.plen,fun b hb=>h.part b ((h.mark b).2 ⟨b,by rw[eE3];exact(ho.mem b).2 hb,.refl b⟩)⟩
theorem ck2(l:List Int):∀x:Int,l.foldl min x≤x∧(∀y∈l,l.foldl min x≤y)∧(l.foldl min x=x∨l.foldl min x∈l):=by
 induction l with
 | nil=>intro x;exact⟨Int.le_refl _,fun y hy=>absurd hy eA6,.inl rfl⟩
 | cons z l ih=>
  intro x;obtain⟨h1,h2,h3⟩:=ih (min x z);rw[List.foldl_cons];refine⟨by omega,fun y hy=>?_,?_⟩
  ·rcases ex3.1 hy with rfl|hy
   ·omega
   ·exact h2 y hy
  ·rcases h3 with h3|h3
   ·rw[h3];rcases Int.le_total x z with h|h
    ·exact .inl (Int.min_eq_left h)
    ·exact .inr (by rw[Int.min_eq_right h];simp)
   ·exact .inr (eB5 _ h3)
end
theorem eI7:type_of% @List.getElem_range:=@List.getElem_range
theorem aC6:∀(n:Nat) (l:List Int),l.length≤n→l.eraseDups.Nodup
 | _,[],_=>by simp
 | 0,x::l,h=>by simp at h
 | n+1,x::l,h=>by
  rw[List.eraseDups_cons,eH5];refine⟨fun hm=>?_,aC6 n _ (ew0 (ey2 _ _) (by simpa using h))⟩;rw[List.mem_eraseDups,ey4]at hm;simp at hm
def ay6(nx:List (List Int))(l:List Int):List Int:=((l.flatMap (C1 nx)).filter fun b=>!l.contains b).eraseDups
theorem am8{nx:List (List Int)}{l:List Int}{b:Int}:b∈ay6 nx l↔(∃a∈l,b∈C1 nx a)∧b∉l:=by
 unfold ay6;rw[List.mem_eraseDups,ey4,ez2];simp
theorem ax2{nx:List (List Int)}{a:Int}:∀(m:Nat) (l:List Int),(∀b∈l,Way nx a b)→∀b∈O2 nx m l,Way nx a b
 | 0,l,h,b,hb=>h b hb
 | m+1,l,h,b,hb=>by
  rw[O2]at hb;refine ax2 m _ (fun c hc=>?_) b hb;rcases ew7.1 hc with hc|hc
  ·exact h c hc
  ·obtain⟨⟨d,hd,hc⟩,_⟩:=am8.1 hc;exact .step (h d hd) hc
theorem aV4{nx:List (List Int)}:∀(m:Nat) (l:List Int),∀b∈l,b∈O2 nx m l
 | 0,l,b,hb=>hb
 | m+1,l,b,hb=>by
  rw[O2];exact aV4 m _ b (eA2 _ hb)
theorem aI7{n:Nat}{nx:List (List Int)}(hg:D7 n nx):∀(m:Nat) (l:List Int),l.Nodup→(∀b∈l,H3 n b=true)→n≤l.length+m→∀a∈O2 nx m l,∀b∈C1 nx a,b∈O2 nx m l
 | 0,l,hn,hk,hl,a,ha,b,hb=>by
  rw[O2]at ha ⊢;refine eF5 fun hnb=>?_;have h1:(b::l).Nodup:=eH5.2 ⟨hnb,hn⟩;have h2:=L3 (m:=(List.range n).map fun(i:Nat)=>(i:Int)) h1 fun c hc=>by
   have hkc:H3 n c=true:=by
    rcases ex3.1 hc with rfl|hc
    ·exact(hg.row _).2 _ hb
    ·exact hk c hc
   have:=C5.1 hkc;exact ey0.2 ⟨c.toNat,ez1.2 (by omega),by omega⟩
  simp only[ex7,ew3,eA7]at h2;omega
 | m+1,l,hn,hk,hl,a,ha,b,hb=>by
  rw[O2]at ha ⊢;by_cases he:ay6 nx l=[]
  ·have e:l++((l.flatMap (C1 nx)).filter fun b=>!l.contains b).eraseDups=l:=by
    show l++ay6 nx l=l;rw[he,ey6]
   rw[e]at ha ⊢;have hcl:∀c∈l,∀d∈C1 nx c,d∈l:=fun c hc d hd=>eF5 fun hnd=>by
    have:d∈ay6 nx l:=am8.2 ⟨⟨c,hc,hd⟩,hnd⟩;rw[he]at this;simp at this
   have hst:∀(k:Nat),O2 nx k l=l:=by
    intro k
    induction k with
    | zero=>rfl
    | succ k ih=>rw[O2,e,ih]
   rw[hst]at ha ⊢;exact hcl a ha b hb
  ·have hpos:0<(ay6 nx l).length:=List.length_pos_iff.2 he;refine aI7 hg m (l++ay6 nx l) ?_ (fun c hc=>?_) (by rw[ev5];omega) a ha b hb
   ·rw[eA4];refine⟨hn,aC6 _ _ (ew8 _),fun c hc d hd e=>?_⟩;subst e;exact(am8.1 hd).2 hc
   ·rcases ew7.1 hc with h|h
    ·exact hk c h
    ·obtain⟨⟨d,_,hc⟩,_⟩:=am8.1 h;exact(hg.row _).2 _ hc
theorem at3{nx:List (List Int)}(hg:D7 nx.length nx){a b:Int}(ha:H3 nx.length a=true):R9 nx a b=true↔Way nx a b:=by
 unfold R9;rw[ha,eE6,ex4];constructor
 ·exact fun h=>ax2 nx.length [a] (fun c hc=>by simp at hc;subst hc;exact .refl) b h
 ·intro h
  induction h with
  | refl=>exact aV4 _ _ _ (by simp)
  | step _ hc ih=>exact aI7 hg nx.length [a] (by simp) (fun c hc=>by simp at hc;subst hc;exact ha) (by simp) _ ih _ hc
theorem cP8{nx:List (List Int)}{a b:Int}(ha:H3 nx.length a=true):Rch nx [a] b↔Way nx a b:=by
 constructor
 ·intro h
  induction h with
  | base h1 h2=>simp at h1;subst h1;exact .refl
  | step _ hb ih=>exact .step ih hb
 ·intro h
  induction h with
  | refl=>exact .base (by simp) ha
  | step _ hb ih=>exact .step ih hb
theorem cO4{nx:List (List Int)}(hg:D7 nx.length nx)(h0:H3 nx.length 0=true){r:List Int}(hr:cW2 r (Rch nx [0])):bt8 nx=(List.range nx.length).map fun(b:Nat)=>r.contains (b:Int):=by
 unfold bt8;refine List.map_congr_left fun b _=>?_;rw[eI0,at3 hg h0,←cP8 h0,←hr.mem,ex4]
theorem cP6{nx:List (List Int)}(hg:D7 nx.length nx){q:List Int}(hl:q.length=nx.length)(hq:∀b,H3 nx.length b=true→az8 nx b (ai q b)):q=ac4 nx:=by
 apply eC3
 ·simp[ac4,hl]
 intro k h1 h2;have hk:H3 nx.length (k:Int)=true:=C5.2 ⟨by omega,by omega⟩;have hp:=hq k hk;have hak:ai q (k:Int)=q[k]:=by
  unfold ai;rw[ex8,List.getD,ev2 h1];rfl
 rw[hak]at hp;refine hp.uniq ?_;have hkm:=bY4 hg hp.1.1 hk;obtain⟨hm1,hm2⟩:=C5.1 hkm;have hqk:q[k]=((q[k].toNat:Nat):Int):=by omega
 have hpk:(ac4 nx)[k]=((((List.range nx.length).find? fun b=>R9 nx (k:Nat) (b:Nat)&&R9 nx (b:Nat) (k:Nat)).getD 0:Nat):Int):=by
  simp only[ac4,eD4,eI7]
 rw[hpk];have hfind:(List.range nx.length).find? (fun b=>R9 nx (k:Nat) (b:Nat)&&R9 nx (b:Nat) (k:Nat))=some q[k].toNat:=by
  rw[eD5];refine⟨?_,q[k].toNat,by simp;omega,by simp,fun j hj=>?_⟩
  ·rw[ex5,at3 hg hk,at3 hg (C5.2 ⟨by omega,by omega⟩),←hqk];exact hp.1
  ·have hjl:j<nx.length:=by omega
   have hjk:H3 nx.length (j:Int)=true:=C5.2 ⟨by omega,by omega⟩;cases hz:(R9 nx (k:Nat) ((List.range nx.length)[j]'(by simp;omega):Nat)&&R9 nx ((List.range nx.length)[j]'(by simp;omega):Nat) (k:Nat))
   ·rfl
   ·exfalso
    simp only[eI7]at hz;rw[ex5,at3 hg hk,at3 hg hjk]at hz;have:=hp.2 j hz;omega
 rw[hfind];simp only[eA9];rw[←hqk];exact hp
theorem ee2:af6 prog 125=true:=by kernel_rfl
theorem dc2:af6 prog 126=true:=by kernel_rfl
theorem ee3:af6 prog 127=true:=by kernel_rfl
theorem dY7{w:World}{gb:Nat}{sh:Addr}{wy:Wy}{vr vl:Value}(hh:w.heap[gb]?=some (.cells #[.pointer (some sh),.int .i64 wy.proc,.int .i64 wy.n,vr,vl] 153 (0,0)))(hs:At (d7 w) sh wy.s)(hr:R (d7 w) vr wy.real)(hl:R (d7 w) vl wy.live):At (d7 w) ⟨gb,0,none⟩ wy:=by
 refine⟨[.pointer (some sh),.int .i64 wy.proc,.int .i64 wy.n,vr,vl],⟨_,_,_,rfl,hs.ptr,hr,hl⟩,fun j u hj=>?_⟩;rw[←ai8,add_lit,ey7,eC4 w gb j _ 153 (0,0) hh];simpa using hj
theorem cr7(s v:Value)(i n:Int)(hs:s.cells=#[s])(hv:v.cells=#[v]):B9 prog 153 [(0,s),(1,.int .i64 i),(2,.int .i64 n),(3,v)]=some (.agg #[s,.int .i64 i,.int .i64 n,v,.slice none 0 0]):=by
 have h1:(Value.int .i64 i).cells=#[.int .i64 i]:=rfl;have h2:(Value.int .i64 n).cells=#[.int .i64 n]:=rfl;simp[B9,cH1,J5,Instr.fill,hs,hv,h1,h2]
def ad5(s:Sh)(i:Nat):Wy:=⟨s,i,U5 s.hi i-U5 s.lo i+2,s.steps i,List.replicate (U5 s.hi i-U5 s.lo i+2).toNat false⟩
theorem cV8{p:Pg}{i x y:Nat}(pt:al5 p i x y):WyOk p i x y (ad5 (b9 p) i):=by
 refine⟨rfl,rfl,?_,pt⟩;unfold ad5 U5;simp only[ex8,List.getD,pt.ok.lo,pt.ok.hi,eA9];omega
theorem cf4{p:Pg}{i x y:Nat}(pt:al5 p i x y):WyOk p i x y (D6 (b9 p) i):=by
 refine⟨rfl,rfl,?_,pt⟩;unfold D6 U5;simp only[ex8,List.getD,pt.ok.lo,pt.ok.hi,eA9];omega
theorem bw5(s:Sh)(i:Nat):(D6 s i).live=bt8 (ag6 (ad5 s i).n.toNat ((ad5 s i).pairs (s.steps i))).1:=rfl
theorem bq0{p:Pg}{i x y:Nat}(pt:al5 p i x y):((D6 (b9 p) i).live.length:Int)=(D6 (b9 p) i).n:=by
 have h1:=(cf4 pt).n;have h2:=pt.ok.le;have h3:(D6 (b9 p) i).n=(ad5 (b9 p) i).n:=rfl;rw[bw5,h3];unfold bt8;rw[ew3,eA7,(ae3 _ _).nx.len];omega
theorem aV5{p:Pg}(hw:C8 p≤1000000){i:Nat}(hi:i<p.procs.length):((b9 p).steps i).length≤800001:=by
 obtain⟨_,hlen⟩:=aZ3 p hw i hi;refine ew0 (aL6 _) ?_;rw[ex7];have:=Q7 (fun it:It=>((b9 p).goes it).map fun t=>(⟨it.s.id,t,1⟩:Sp)) 2 ((b9 p).of i) fun it _=>by rw[ew3];exact bH3 _ _
 omega
theorem bY3(a:Addr)(p:Pg)(i x y:Nat)(w:World)(hs:At (d7 w) a (b9 p))(hr:E4 p)(hw:C8 p≤1000000)(hi:i<p.procs.length)(pt:al5 p i x y):Calls prog 77 #[.pointer (some a),.int .i64 i] w fun e w'=>∃u,e = .returned u∧(∃gb vr vl,u = .pointer (some ⟨gb,0,none⟩)∧w'.heap[gb]?=some (.cells #[.pointer (some a),.int .i64 i,.int .i64 (D6 (b9 p) i).n,vr,vl] 153 (0,0))∧w.heap.size≤gb∧A9 (d7 w) w' 187 vr ((b9 p).steps i)∧A9 (d7 w) w' 4 vl (D6 (b9 p) i).live∧o6 w w'):=by
 refine d9 (args:=[.pointer (some a),.int .i64 i]) hm func77 rfl (by kernel_rfl) (by show 2≤_;decide +kernel) ?_;have h200:=J3 hr.may;have hlen:=pt.ok.len;have hle':=pt.ok.le;obtain⟨vL,vlo,vhi,hL,hlo,hhi,hap,lds,sds⟩:=hs.sh;have hst:∀w',o6 w.drew w'→B4 (d7 w) (d7 w'):=fun w' h=>b7 ((o6.drew w).trans h);have s2:=sds (fun w'=>o6 w.drew w') w.drew (o9.refl _) hst;have hi1:=hlo.inS (ev8.1 pt.ok.lo).1;have hi2:=hhi.inS (ev8.1 pt.ok.hi).1;have k1:∀K f d w0,B8 prog (fun w'=>o6 w.drew w') (Instr.loadAt 3 (.pointer (some (H4 vlo i)))) K f d w0=K (A5 f d (.int .i64 ((x:Int)+1))) w0:=fun K f d w0=>A0 (w0:=w.drew) (o9.refl _) fun w' h=>ldI hlo (hst w' h) pt.ok.lo;have k2:∀K f d w0,B8 prog (fun w'=>o6 w.drew w') (Instr.loadAt 3 (.pointer (some (H4 vhi i)))) K f d w0=K (A5 f d (.int .i64 ((y:Int)+1))) w0:=fun K f d w0=>A0 (w0:=w.drew) (o9.refl _) fun w' h=>ldI hhi (hst w' h) pt.ok.hi;have hok:=cV8 pt;have hn:=hok.n;have hw1:IntKind.i64.wrap ((y:Int)+1-((x:Int)+1))=(y:Int)+1-((x:Int)+1):=K1 _ (by omega);have hw2:IntKind.i64.wrap ((y:Int)+1-((x:Int)+1)+2)=(ad5 (b9 p) i).n:=by rw[K1 _ (by omega)];omega
 have hnn:(ad5 (b9 p) i).n=(((ad5 (b9 p) i).n.toNat:Nat):Int):=by omega
 generalize hX:(x:Int)+1=X at k1 hw1 hw2;generalize hY:(y:Int)+1=Y at k2 hw1 hw2;simp only[n3,n9,simprocAttr];refine C2 (fun w'=>o6 w.drew w') 21 (A8 [0,1,2,3,4,5,6,7,8,9,10,11,12,13,14,15,16,17,18,19,20]) (by decide +kernel) (o9.refl _) ?_;simp only[D5,A8,n3,n9,p9,simprocAttr,s2,k1,k2,hi1,hi2,hw1,hw2];refine y5 ee2 (cg6 a p i x y w.drew (hs.mono (b7 (o6.drew w))) hr hw hi pt) ?_;rintro vr w2 ⟨hor,hx2⟩;refine⟨hx2,?_⟩;have hx02:=(o6.drew w).trans hx2;have hSr:=hor.isS;obtain⟨gb,w3,hbox,hx3,hc3,hge3⟩:∃gb w3,(Instr.box 153 (.agg #[.pointer (some a),.int .i64 i,.int .i64 (ad5 (b9 p) i).n,vr,.slice none 0 0])).run prog w2 = .ok (.pointer (some ⟨gb,0,none⟩)) w3∧o6 w2 w3∧w3.heap[gb]?=some (.cells #[.pointer (some a),.int .i64 i,.int .i64 (ad5 (b9 p) i).n,vr,.slice none 0 0] 153 (0,0))∧w2.heap.size≤gb:=
  ⟨_,_,rfl,o6.alloc _ _,ez5 w2 _,ew8 _⟩
 have hx03:=hx02.trans hx3;have hgblt:gb<w3.heap.size:=(ev9.1 hc3).1;obtain⟨vl,w4,hmk,hol,hx4,hfr,_⟩:=mk (P:=prog) (w:=w3) (h:=d7 w3) (α:=Bool) bp9 S7 (y:=false) rfl (n:=(ad5 (b9 p) i).n.toNat) (by omega) (by omega) (i4 _);rw[←hnn]at hmk;have hc4:w4.heap[gb]?=some (.cells #[.pointer (some a),.int .i64 i,.int .i64 (ad5 (b9 p) i).n,vr,.slice none 0 0] 153 (0,0)):=(hx4.block gb hgblt id).trans hc3;have hgl:∀b,A3 vl b→b≠gb:=fun b hb e=>by have:=hfr b hb;omega
 obtain⟨w5,s5,hc5,hm5⟩:=ah2 (P:=prog) (t:=151) (i:=4) (x:=vl) hc4 (by simp) (D8 hol.isS) (V6 hol.isS) (t8 aW0).choose_spec.1 (by rw[←C7 (t8 aW0).choose_spec.1];exact bD0);have hc5':w5.heap[gb]?=some (.cells #[.pointer (some a),.int .i64 i,.int .i64 (ad5 (b9 p) i).n,vr,vl] 153 (0,0)):=by simpa using hc5
 have hx05:o6 w w5:=o9.ext_of (hx03.trans hx4) hm5 fun b hb=>by subst hb;exact ew0 hx02.size hge3
 have hol5:A9 (d7 w) w5 4 vl (List.replicate (ad5 (b9 p) i).n.toNat false):=(hol.back hx03).mod hm5 fun b hb=>hgl b hb;have hor5:A9 (d7 w) w5 187 vr ((b9 p).steps i):=(((hor.backN (o6.drew w)).ext hx3).ext hx4).mod hm5 fun b hb e=>by
  subst e;have:=hor.lt hb;omega
 have l5n:(Instr.loadAt 3 (.pointer (some ⟨gb,2,none⟩))).run prog w3 = .ok (.int .i64 (ad5 (b9 p) i).n) w3:=E8 (i:=2) hc3 rfl G3;have l5r:(Instr.loadAt 146 (.pointer (some ⟨gb,3,none⟩))).run prog w5 = .ok vr w5:=E8 (i:=3) hc5' rfl bC7;have hat5:At (d7 w5) ⟨gb,0,none⟩ (ad5 (b9 p) i):=dY7 hc5' (hs.mono (b7 hx05)) (hor5.rw_ (b7 hx05)) (hol5.rw_ (b7 hx05));have hsrg:=bl9 hr hw hi pt;have hsl:=aV5 hw hi;simp only[D5,n3,n9,simprocAttr,cr7 (.pointer (some a)) vr i (ad5 (b9 p) i).n rfl (D8 hSr),hbox,l5n,hmk,s5,l5r];refine y5 dc2 (bh3 ⟨gb,0,none⟩ (ad5 (b9 p) i) p i x y vr _ w5 hat5 hok h200 (hor5.rw_ (b7 hx05)) hsrg (by omega)) ?_;rintro ug w6 ⟨hgr,hx6⟩;obtain⟨vz,w7,hlit,hoz,hx7,_⟩:=lit (P:=prog) (w:=w6) (h:=d7 w6) (α:=Int) (xs:=[.int .i64 0]) (ys:=[0]) (parts:=#[(0,.int .i64 0)]) (n:=1) ad0 rfl (K9.2 rfl) (by simp[Value.cells]) rfl rfl (by simp) (by simp) (i4 _);have hgood:=(ae3 (ad5 (b9 p) i).n.toNat ((ad5 (b9 p) i).pairs ((b9 p).steps i))).nx;have hlive:(D6 (b9 p) i).live=bt8 (ag6 (ad5 (b9 p) i).n.toNat ((ad5 (b9 p) i).pairs ((b9 p).steps i))).1:=bw5 _ _;generalize(ag6 (ad5 (b9 p) i).n.toNat ((ad5 (b9 p) i).pairs ((b9 p).steps i))).1=nx at hgr hgood hlive;generalize(ag6 (ad5 (b9 p) i).n.toNat ((ad5 (b9 p) i).pairs ((b9 p).steps i))).2=pv at hgr;have hnl:=hgood.len;have hgood':D7 nx.length nx:=by rw[hnl];exact hgood
 have hok0:H3 nx.length 0=true:=C5.2 ⟨by omega,by omega⟩;simp only[n3,simprocAttr,hlit];refine y5 ee3 (cg5 ug nx pv vz [0] w7 (hgr.mono (b7 hx7)) hgood' (by omega) (hoz.rw_ (b7 hx7)) (by simp)) ?_;rintro ur w8 ⟨⟨r,hor8,hset⟩,hx8⟩;have hx58:=hx6.trans (hx7.trans hx8);have hol8:=hol5.ext hx58;have hur:R (B5 w8 (A3 vl)) ur r:=hor8.flatR fun b hb=>D3 fun hbu=>by
  have h1:=hol5.lt hbu;have h2:=C9 (hor8.free hb);have:=(hx6.trans hx7).size;omega
 have hrk:∀b∈r,H3 nx.length b=true:=fun b hb=>((hset.mem b).1 hb).ok hgood';have hrl:r.length≤nx.length:=by
  have:=ax0 (n:=nx.length) (m:=0) hset.le (fun b hb=>C5.1 (hrk b hb)) (by omega);omega
 have hlv:=cO4 hgood' hok0 hset;rw[hlv]at hlive;have hSr8:=hur.isS;have hnr8:=hur.vlen;have hc8:∀w',o9 (A3 vl) w8 w'→w'.heap[gb]?=some (.cells #[.pointer (some a),.int .i64 i,.int .i64 (ad5 (b9 p) i).n,vr,vl] 153 (0,0)):=fun w' hm=>by
  have hg5:gb<w5.heap.size:=(ev9.1 hc5').1;have hg8:gb<w8.heap.size:=eC1 hg5 hx58.size;rw[hm.block gb hg8 fun hb=>hgl gb hb rfl,hx58.block gb hg5 id,hc5']
 have hrep:List.replicate (ad5 (b9 p) i).n.toNat false=(List.range nx.length).map fun(b:Nat)=>(([]:List Int)).contains (b:Int):=by
  rw[hnl];apply eC3
  ·simp
  ·intro j h1 h2;simp
 rw[hrep]at hol8;simp only[n3,n9,simprocAttr,hSr8,hnr8];refine n8 [5,46,47] (σ:=Nat) (fun k f w'=>f 48 = .int .i64 k∧k≤r.length∧A9 (d7 w) w' 4 vl ((List.range nx.length).map fun(b:Nat)=>(r.take k).contains (b:Int))∧o9 (A3 vl) w8 w') (fun k=>r.length-k) 0 (by decide +kernel) ?_ ?_
 ·simp only[p6,simprocAttr];exact⟨by trivial,ew4 _,by simpa using hol8,o9.refl _⟩
 rintro k f w9 hk ⟨h48,hkl,hol9,hm9⟩;simp only[ev4,p6,simprocAttr]at hk;obtain⟨e5,e46,e47,_⟩:=hk;have hc9:=hc8 w9 hm9;simp only[n3,n9,simprocAttr,h48,e47];refine i5 (fun hc=>?_) (fun hc=>?_)
 ·have hlt:k<r.length:=by simpa using hc
  have hin:=hur.inS hlt;have hld:=aH4 hur (D2 hm9) hlt;have hkk:=C5.1 (hrk _ (ew2 hlt));have hcast:r[k]=((r[k].toNat:Nat):Int):=by omega
  have htk:∀b:Int,(r.take (k+1)).contains b=((r.take k).contains b||decide (b=r[k])):=fun b=>by
   rw[ew1 hlt,eI0,eH1,ex4,ex4,ew7,ey1,decide_eq_true_iff]
  have hqlt:r[k].toNat<nx.length:=by omega
  rw[hcast]at hld htk;generalize r[k].toNat=q at hld htk hqlt;have l9:(Instr.loadAt 151 (.pointer (some ⟨gb,4,none⟩))).run prog w9 = .ok vl w9:=E8 (i:=4) hc9 rfl af0;have hin9:=hol9.inS (k:=q) (by simpa using hqlt);obtain⟨w10,s1,s2,s3,s4⟩:=D9 (P:=prog) (t:=4) hol9 rfl (k:=q) (by simpa using hqlt) (x:=.bool true) (y:=true) rfl rfl (t8 S7).choose_spec.1 (by rw[←C7 (t8 S7).choose_spec.1];exact aD5);simp only[n3,n9,p9,simprocAttr,h48,e5,e46,hin,hld,l9,hin9,s1];refine⟨k+1,by omega,by rw[B1 k (by omega)],by omega,?_,hm9.chain s3 fun _ _ h=>h⟩;have heq:((List.range nx.length).map fun(b:Nat)=>(r.take k).contains (b:Int)).set q true=(List.range nx.length).map fun(b:Nat)=>(r.take (k+1)).contains (b:Int):=by
   apply eC3
   ·simp
   ·intro j h1 h2;rw[List.getElem_set];simp only[eD4,eI7,htk];by_cases hjq:q=j
    ·subst hjq;simp
    ·rw[if_neg hjq];have:decide ((j:Int)=(q:Int))=false:=by simp;omega
     rw[this,Bool.or_false]
  rw[←heq];exact s2
 ·have hge:k=r.length:=by simp at hc;omega
  subst hge;rw[ew5,←hlive]at hol9;simp only[n3,simprocAttr,e5];refine n7 results77 ?_;simp only[p6,simprocAttr];have hx09:o6 w w9:=o9.ext_of (hx05.trans hx58) hm9 fun b hb=>C9 (hol5.free hb);have hor8:A9 (d7 w) w8 187 vr ((b9 p).steps i):=hor5.ext hx58;refine⟨gb,vr,vl,by trivial,hc9,ew0 hx02.size hge3,hor8.mod hm9 fun b hb hbl=>?_,hol9,hx09⟩;have h1:=hfr b hbl;have h2:=hor.lt hb;omega
def Dj(u v:Value):Prop:=∀b,A3 u b→¬A3 v b
theorem Dj.symm{u v:Value}(h:Dj u v):Dj v u:=fun b h1 h2=>h b h2 h1
theorem Dj.nil(u:Value):Dj u (.slice none 0 0):=fun b _ h=>D0 h
section
variable {α:Type} [z7 α] {h:Hp} {w:World} {T:TypeId} {x y y' v:Value} {xs:List α}
theorem Dj.move(h1:Dj x y)(hx:A9 h w T x xs)(hm:F1 w y y'):Dj x y':=fun b hb hb2=>by
 rcases hm b hb2 with h2|h2
 ·exact h1 b hb h2
 ·have:=hx.lt hb;omega
theorem Dj.fresh(hx:A9 h w T x xs)(hf:∀b,A3 y b→w.heap.size≤b):Dj x y:=fun b hb hb2=>by
 have:=hx.lt hb;have:=hf b hb2;omega
theorem A9.apart{w':World}(hx:A9 h w T x xs)(hm:o9 (A3 y) w w')(hd:Dj x y):A9 h w' T x xs:=hx.mod hm fun b hb hb2=>hd b hb hb2
theorem cP9{v:Value}{k sz:Nat}(hS:isS v=true)(hc:0<vcap v):∃a n c,v = .slice a n c∧reS v 0 k sz = .slice a k c:=by
 cases v<;>simp[Go.Proofs.YtdgicngfmfldmaaGreat.isS]at hS;rename_i a n c;refine⟨a,n,c,rfl,?_⟩;simp only[vcap]at hc;have hc0:¬c=0:=by omega
 cases a<;>simp[reS,J8,hc0]
theorem A9.pre(ho:A9 h w T v xs){k:Nat}(hk:k≤xs.length)(h0:0<xs.length):A9 h w T (reS v 0 k (z7.sz α)) (xs.take k)∧∀b,A3 (reS v 0 k (z7.sz α)) b↔A3 v b:=by
 rcases ho with⟨rfl,rfl⟩|⟨b,c,cur,rfl,h1,h2,h3,h4,h5,h6⟩
 ·simp at h0
 ·obtain⟨a,n,c',e,er⟩:=cP9 (v:=.slice (some ⟨b,0,none⟩) xs.length c) (k:=k) (sz:=z7.sz α) rfl (by show 0<c;omega);cases e;rw[er];refine⟨.inr ⟨b,c,cur,by rw[ew6,eB8 hk],h1,h2,by rw[ew6];omega,h4,h5,?_⟩,fun b'=>by simp[A3,Value.ownBlock]⟩;rw[ew6,eB8 hk];have hx:xs=xs.take k++xs.drop k:=(eA3 k xs).symm;rw[hx]at h6;obtain⟨c1,c2,e1,e2,e3⟩:=Z5 _ _ h6;have hl:=J7 e2;rw[ew6,eB8 hk]at hl;rw[←hx]at e1;have:cur.toList.take (k*z7.sz α)=c1:=by
   have h7:=ex0 (List.take (k*z7.sz α)) e1;rw[List.take_take,eB8 (eD6 _ hk),←hl,eE4]at h7;rw[←hl];exact h7
  rw[this];exact e2
end
theorem bK0{α:Type}(l:List α):l=[]∨∃s a,l=s++[a]:=by
 rcases List.eq_nil_or_concat l with h|⟨s,a,h⟩
 ·exact .inl h
 ·exact .inr ⟨s,a,by rw[h,List.concat_eq_append]⟩
theorem cj3(pg:Value)(nx pv:List (List Int))(w:World)(hgr:GR (d7 w) pg nx pv)(hg:D7 nx.length nx)(hn5:nx.length≤5000):
  Calls prog 274 #[pg] w fun e w'=>∃u,e = .returned u∧((∃r,A9 (d7 w) w' 3 u r∧aM7 nx nx.length r)∧o6 w w'):=by
 have hgr':=hgr;obtain⟨gb,vn,vp,rfl,h1,h2,h3,h4⟩:=hgr;refine d9 (args:=[.pointer (some ⟨gb,0,none⟩)]) hm func274 rfl (by kernel_rfl) (by show 1≤_;decide +kernel) ?_;have hld:=G4 (P:=prog) (t:=155) h1 (i4 _) R1;have hSn:=h3.isS;have hnn:=h3.vlen;obtain⟨u0,w0,hmk,ho0,hx0,hf0,_⟩:=mk (P:=prog) (w:=w) (h:=d7 w) bp9 S7 (α:=Bool) (y:=false) rfl (n:=nx.length) (by omega) (by omega) (i4 _);have hld0:=G4 (P:=prog) (t:=155) h1 (b7 hx0) R1;obtain⟨u1,w1,hmk1,ho1,hx1,hf1,_⟩:=mk (P:=prog) (w:=w0) (h:=d7 w) ad0 ax7 (α:=Int) (y:=0) rfl (n:=nx.length) (by omega) (by omega) (b7 hx0);have hx01:=hx0.trans hx1;have hld1:=G4 (P:=prog) (t:=155) h1 (b7 hx01) R1;have hd01:Dj u0 u1:=Dj.fresh ho0 hf1;simp only[J4,O4,T6,simprocAttr,hld,hSn,hnn,hmk,hld0,hmk1,hld1];refine n8 [0,5,6,26] (σ:=List Int×List Bool×List Int×Nat) (fun s f w'=>f 27 = .int .i64 s.2.2.2∧s.2.2.2≤nx.length∧A9 (d7 w) w' 3 (f 3) s.1∧A9 (d7 w) w' 3 (f 4) ([]:List Int)∧A9 (d7 w) w' 4 u0 s.2.1∧A9 (d7 w) w' 3 u1 s.2.2.1 ∧
   Dj (f 3) (f 4)∧Dj u0 (f 3)∧Dj u0 (f 4)∧Dj u1 (f 3)∧Dj u1 (f 4)∧o6 w w'∧DI nx nx.length s.1 [] s.2.1 s.2.2.1∧∀r:Nat,r<s.2.2.2→B2 s.2.1 r=true)
  (fun s=>nx.length-s.2.2.2) ([],List.replicate nx.length false,List.replicate nx.length 0,0) (by decide +kernel) ?_ ?_
 ·simp only[p6,simprocAttr];exact⟨by trivial,ew4 _,A9.nil _ _ _,A9.nil _ _ _,ho0.ext hx1,ho1,Dj.nil _,Dj.nil _,Dj.nil _,Dj.nil _,Dj.nil _,hx01,DI.start rfl,fun r hr=>by omega⟩
 ·rintro⟨out,sn,at_,r⟩ f w2 hk ⟨h27,hrl,hoo,hst,hos,hoa,d34,d03,d04,d13,d14,hx,hi,hlow⟩;simp only at h27 hrl hoo hst hos hoa hi hlow;simp only[ev4,p6,simprocAttr]at hk;obtain⟨e0,e5,e6,e26,_⟩:=hk;simp only[J4,B7,E7,simprocAttr,h27,e26];refine i5 (fun hc=>?_) (fun hc=>?_)
  ·have hlt:r<nx.length:=by simpa using hc
   have hrk:H3 nx.length (r:Int)=true:=C5.2 ⟨by omega,by omega⟩;have hrk2:H3 sn.length (r:Int)=true:=by rw[hi.slen];exact hrk
   obtain⟨hrlt,hrg⟩:=M0 hrk2;simp only[ex8]at hrlt hrg;have hins:=hos.inS hrlt;have hlds:=D4 (P:=prog) (t:=4) hos (k:=r) (x:=B2 sn r) (by rw[hrg];simp[List.getD,hrlt]) ao9;rcases ev3 (B2 sn r)with hbs|hbs
   case' inl=>
    have hbs':(!B2 sn r)=false:=by rw[hbs];rfl
    simp only[J4,O4,unV,p9,G7.val,simprocAttr,h27,e5,hins,hlds,hbs'];refine n8 [0,5,6,26,27] (σ:=List Int×List Int×List Bool×List Int) (fun s f w'=>A9 (d7 w) w' 3 (f 3) s.1∧A9 (d7 w) w' 3 (f 4) s.2.1∧A9 (d7 w) w' 4 u0 s.2.2.1∧A9 (d7 w) w' 3 u1 s.2.2.2 ∧
      Dj (f 3) (f 4)∧Dj u0 (f 3)∧Dj u0 (f 4)∧Dj u1 (f 3)∧Dj u1 (f 4)∧o6 w w'∧DI nx nx.length s.1 s.2.1 s.2.2.1 s.2.2.2∧∀r':Nat,r'<r+1→B2 s.2.2.1 r'=true)
     (fun s=>cc5 nx s.2.2.2 nx.length+(nx.length-s.1.length)) (out,[],sn,at_) (by decide +kernel) ?_ ?_
    ·simp only[p6,simprocAttr];refine⟨hoo,hst,hos,hoa,d34,d03,d04,d13,d14,hx,hi,fun r' hr'=>?_⟩;by_cases hrr:r'=r
     ·subst hrr;exact hbs
     ·exact hlow r' (by omega)
   case' inr=>
    have hbs':(!B2 sn r)=true:=by rw[hbs];rfl
    obtain⟨w3,s1,s2,s3,s4⟩:=D9 (P:=prog) (t:=4) hos rfl (k:=r) hrlt (x:=.bool true) (y:=true) rfl rfl (t8 S7).choose_spec.1 (by rw[←C7 (t8 S7).choose_spec.1];exact aD5);have hx3:=hos.ext2 hx s3;have hoo3:=hoo.apart s3 d03.symm;have hst3:=hst.apart s3 d04.symm;have hoa3:=hoa.apart s3 hd01.symm;obtain⟨p1,u',w4,p2,p3,p4,p5⟩:=push (e:=118) ad0 rfl hst3 (x:=.int .i64 r) (y:=(r:Int)) rfl (by simp) (by simp) (b7 hx3);simp only[Value.cells]at p1 p2;have hx4:=hst3.ext2 hx3 p4;simp only[J4,O4,unV,p9,G7.val,simprocAttr,h27,e5,hins,hlds,hbs',s1,p1,p2];refine n8 [0,5,6,26,27] (σ:=List Int×List Int×List Bool×List Int) (fun s f w'=>A9 (d7 w) w' 3 (f 3) s.1∧A9 (d7 w) w' 3 (f 4) s.2.1∧A9 (d7 w) w' 4 u0 s.2.2.1∧A9 (d7 w) w' 3 u1 s.2.2.2 ∧
      Dj (f 3) (f 4)∧Dj u0 (f 3)∧Dj u0 (f 4)∧Dj u1 (f 3)∧Dj u1 (f 4)∧o6 w w'∧DI nx nx.length s.1 s.2.1 s.2.2.1 s.2.2.2∧∀r':Nat,r'<r+1→B2 s.2.2.1 r'=true)
     (fun s=>cc5 nx s.2.2.2 nx.length+(nx.length-s.1.length)) (out,[(r:Int)],sn.set r true,at_) (by decide +kernel) ?_ ?_
    ·simp only[p6,simprocAttr];have hset:∀c,B2 (sn.set r true) c=if c=(r:Int)then true else B2 sn c:=fun c=>by
      have:=M6 (v:=true) (b:=c) hrk2;simpa only[ex8]using this
     refine⟨hoo3.apart p4 d34,by simpa using p3,s2.apart p4 d04,hoa3.apart p4 d14,d34.move hoo3 p5,d03,d04.move s2 p5,d13,d14.move hoa3 p5,hx4,?_,fun r' hr'=>?_⟩
     ·have:=hi.push hrk hbs (fun g hg=>by cases hg);simpa using this
     ·rw[hset];by_cases hrr:r'=r
      ·subst hrr;simp
      ·rw[if_neg (by omega)];exact hlow r' (by omega)
   all_goals
    rintro⟨out2,st2,sn2,at2⟩ f2 w5 hk2 ⟨hoo,hst,hos,hoa,d34,d03,d04,d13,d14,hx,hi,hlow⟩;simp only at hoo hst hos hoa hi hlow;simp only[ev4,p6,↓reduceIte,Nat.reduceEqDiff]at hk2;obtain⟨g0,g5,g6,g26,g27,_⟩:=hk2;rw[e0]at g0;rw[h27]at g27;rw[e5]at g5;rw[e6]at g6;rw[e26]at g26;have hSst:=hst.isS;have hlst:=hst.vlen;have hcnt:=hi.count;simp only[J4,O4,B7,E7,T6,simprocAttr,hSst,hlst];refine i5 (fun hc2=>?_) (fun hc2=>?_)
    ·rcases bK0 st2 with rfl|⟨s,a,rfl⟩
     ·simp at hc2
     rw[show(s++[a]).length=s.length+1 by simp]at hlst hcnt;have hw1:IntKind.i64.wrap (((s.length+1:Nat):Int)-1)=(s.length:Int):=by rw[K1 _ (by omega)];omega
     have hins2:=hst.inS (k:=s.length) (by simp);have hlda:=D4 (P:=prog) (t:=3) hst (k:=s.length) (x:=a) (by simp) G3;have hak:H3 nx.length a=true:=hi.ok (.inr (by simp));have hak':=C5.1 hak;have d0:decide (0≤a)=true:=by simpa using hak'.1
     obtain⟨hx1,hx2⟩:=aj3 hak;have hat:=hi.atok a hak;have hina:=hoa.inS (k:=a.toNat) (by rw[hi.alen];exact hx2);have hldk:=D4 (P:=prog) (t:=3) hoa (k:=a.toNat) (x:=ai at2 a) (by simp[ai,List.getD,hi.alen,hx2]) G3;obtain⟨k,hkk⟩:∃k:Nat,ai at2 a=k:=⟨(ai at2 a).toNat,by omega⟩;rw[hkk]at hldk hat;have hkl:k≤(C1 nx a).length:=by omega
     have hinr:=h3.inS hx2;obtain⟨x,hx3,hx4⟩:=h3.row hx1;have hxS:=hx3.isS;have hxn:=hx3.vlen;have hrl2:=hg.row_len (an3 hak);simp only[J4,O4,B7,E7,p9,T6,G7.val,simprocAttr,hSst,hlst,hw1,hins2,hlda];refine C2 (fun w2=>w2=w5.drew) 12 (A8 [0,1,2,3,4,5,6,7,8,9,10,11]) (by decide +kernel) rfl ?_;have hxd:=hx.trans (o6.drew w5);have hldk':=D4 (P:=prog) (t:=3) (hoa.ext (o6.drew w5)) (k:=a.toNat) (x:=(k:Int)) (by rw[←hkk];simp[ai,List.getD,hi.alen,hx2]) G3;simp only[D5,A8,J4,O4,p9,simprocAttr,g6,hina,d0];refine⟨.int .i64 k,fun w2 e=>by subst e;exact hldk',?_⟩;simp only[D5,J4,O4,simprocAttr,g0];refine⟨vn,fun w2 e=>by subst e;exact G4 h1 (b7 hxd) R1,?_⟩;simp only[D5,J4,O4,p9,simprocAttr,hinr,d0];refine⟨x,fun w2 e=>by subst e;exact G4 hx4 (b7 hxd) O6,?_⟩;have hoo5:=hoo.ext (o6.drew w5);have hst5:=hst.ext (o6.drew w5);have hos5:=hos.ext (o6.drew w5);have hoa5:=hoa.ext (o6.drew w5);by_cases hke:k=(C1 nx a).length
     ·have hke':((k:Int)==((C1 nx a).length:Int))=true:=by simp[hke]
      obtain⟨p1,u',w6,p2,p3,p4,p5⟩:=push (e:=118) ad0 rfl hoo5 (x:=.int .i64 a) (y:=a) rfl (by omega) (by omega) (b7 hxd);simp only[Value.cells]at p1 p2;have hvc:=hst.vcap;simp only[ev5,ey3]at hvc;have hcap:decide ((s.length:Int)≤((vcap (f2 4):Nat):Int))=true:=by simp;omega
      simp only[D5,J4,O4,B7,E7,F8,T6,simprocAttr,hxS,hxn,hke',p1,p2,hSst,hlst,hw1,hcap];obtain⟨q1,q2⟩:=(hst5.apart p4 d34.symm).pre (k:=s.length) (by simp) (by simp);have q1':A9 (d7 w) w6 3 (reS (f2 4) 0 s.length 1) s:=by
       have h9:(s++[a]).take s.length=s:=eE4;rw[h9]at q1;exact q1
      have hmove:∀v:Value,Dj v (f2 4)→Dj v (reS (f2 4) 0 s.length 1):=fun v hd b hb hb2=>hd b hb ((q2 b).1 hb2);refine⟨(out2++[a],s,sn2,at2),?_,p3,q1',hos5.apart p4 d03,hoa5.apart p4 d13,(hmove _ (d34.symm.move hst5 p5).symm),d03.move hos5 p5,hmove _ d04,d13.move hoa5 p5,hmove _ d14,hoo5.ext2 hxd p4,hi.pop (by rw[hkk,hke]),hlow⟩;simp only[ev5,ey3];omega
     ·have hke':((k:Int)==((C1 nx a).length:Int))=false:=by simp;omega
      have hklt:k<(C1 nx a).length:=by omega
      simp only[D5,J4,O4,B7,E7,T6,simprocAttr,hxS,hxn,hke'];refine C2 (fun w2=>w2=w5.drew.drew) 11 (A8 [0,1,2,3,4,5,6,7,8,9,10]) (by decide +kernel) rfl ?_;have hxd2:=hxd.trans (o6.drew w5.drew);have hoo6:=hoo5.ext (o6.drew w5.drew);have hst6:=hst5.ext (o6.drew w5.drew);have hos6:=hos5.ext (o6.drew w5.drew);have hoa6:=hoa5.ext (o6.drew w5.drew);have hldk2:=D4 (P:=prog) (t:=3) hoa6 (k:=a.toNat) (x:=(k:Int)) (by rw[←hkk];simp[ai,List.getD,hi.alen,hx2]) G3;simp only[D5,A8,J4,O4,simprocAttr,g0];refine⟨vn,fun w2 e=>by subst e;exact G4 h1 (b7 hxd2) R1,?_⟩;simp only[D5,J4,O4,p9,simprocAttr,hinr,d0];refine⟨x,fun w2 e=>by subst e;exact G4 hx4 (b7 hxd2) O6,?_⟩;simp only[D5,J4,O4,p9,simprocAttr,g6,hina,d0];refine⟨.int .i64 k,fun w2 e=>by subst e;exact hldk2,?_⟩;have hinx:=hx3.inS hklt;have hldy:=M8 (P:=prog) (t:=3) hx3 (b7 hxd2) (ev2 hklt) G3;have hyk:(C1 nx a)[k]?=some (C1 nx a)[k]:=ev2 hklt;have hym:(C1 nx a)[k]∈C1 nx a:=ew2 hklt;generalize(C1 nx a)[k]=y at hldy hyk hym;have hyo:H3 nx.length y=true:=hg.ok _ (an3 hak) y hym;have hyo2:H3 sn2.length y=true:=by rw[hi.slen];exact hyo
      obtain⟨hylt,hyg⟩:=M0 hyo2;have dy:decide (0≤y)=true:=by simpa using(C5.1 hyo).1
      have hwk:IntKind.i64.wrap ((k:Int)+1)=((k+1:Nat):Int):=B1 k (by omega);obtain⟨w7,t1,t2,t3,t4⟩:=D9 (P:=prog) (t:=3) hoa6 rfl (k:=a.toNat) (by rw[hi.alen];exact hx2) (x:=.int .i64 ((k+1:Nat):Int)) (y:=((k+1:Nat):Int)) rfl rfl (t8 ax7).choose_spec.1 (by rw[←C7 (t8 ax7).choose_spec.1];exact aR4);have hx7:=hoa6.ext2 hxd2 t3;have hoo7:=hoo6.apart t3 d13.symm;have hst7:=hst6.apart t3 d14.symm;have hos7:=hos6.apart t3 hd01;have hiny:=hos7.inS hylt;have hldS:=D4 (P:=prog) (t:=4) hos7 (k:=y.toNat) (x:=B2 sn2 y) (by rw[hyg];simp[List.getD,hylt]) ao9;have hlf:=cl4 (nx:=nx) hi.alen hak hkk hklt;have hsa:B2 sn2 a=true:=(hi.mark a).2 (.inr (by simp));have hrk3:y∈C1 nx a:=hym;rcases ev3 (B2 sn2 y)with hby|hby
      ·have hby':(!B2 sn2 y)=false:=by rw[hby];rfl
       simp only[D5,J4,O4,B7,E7,unV,p9,G7.val,simprocAttr,hinx,hldy,g6,g5,hina,d0,hldk2,hwk,t1,hiny,dy,hldS,hby'];exact⟨(out2,s++[a],sn2,at2.set a.toNat ((k+1:Nat):Int)),by simp only[];omega,hoo7,hst7,hos7,t2,d34,d03,d04,d13,d14,hx7,hi.adv hak hkk hyk hby hsa,hlow⟩
      ·have hby':(!B2 sn2 y)=true:=by rw[hby];rfl
       obtain⟨w8,v1,v2,v3,v4⟩:=D9 (P:=prog) (t:=4) hos7 rfl (k:=y.toNat) hylt (x:=.bool true) (y:=true) rfl rfl (t8 S7).choose_spec.1 (by rw[←C7 (t8 S7).choose_spec.1];exact aD5);have hx8:=hos7.ext2 hx7 v3;have hoo8:=hoo7.apart v3 d03.symm;have hst8:=hst7.apart v3 d04.symm;have hoa8:=t2.apart v3 hd01.symm;obtain⟨p1,u',w9,p2,p3,p4,p5⟩:=push (e:=118) ad0 rfl hst8 (x:=.int .i64 y) (y:=y) rfl (by simp;omega) (by simp;omega) (b7 hx8);simp only[Value.cells]at p1 p2;simp only[D5,J4,O4,B7,E7,unV,p9,G7.val,simprocAttr,hinx,hldy,g6,g5,hina,d0,hldk2,hwk,t1,hiny,dy,hldS,hby',v1,p1,p2];refine⟨(out2,(s++[a])++[y],sn2.set y.toNat true,at2.set a.toNat ((k+1:Nat):Int)),by simp only[];omega,hoo8.apart p4 d34,p3,v2.apart p4 d04,hoa8.apart p4 d14,d34.move hoo8 p5,d03,d04.move v2 p5,d13,d14.move hoa8 p5,hst8.ext2 hx8 p4,?_,fun r' hr'=>?_⟩
       ·have hpu:=hi.push hyo hby fun g hgs=>by
         rcases ew7.1 hgs with h9|h9
         ·exact .step ((List.pairwise_append.1 hi.path).2.2 g h9 a (by simp)) hym
         ·simp at h9;subst h9;exact Way.one hym
        refine hpu.adv hak hkk hyk ?_ (aG0 hyo2 hsa);rw[M6 hyo2,if_pos rfl]
       ·exact aG0 hyo2 (hlow r' hr')
    ·have hst0:st2=[]:=by
      simp at hc2;exact hc2
     subst hst0;simp only[J4,B7,E7,simprocAttr,g27];refine⟨(out2,sn2,at2,r+1),by simp only[];omega,by simp only[];rw[B1 r (by omega)],by simp only[];omega,hoo,hst,hos,hoa,d34,d03,d04,d13,d14,hx,hi,hlow⟩
  ·have hge:r=nx.length:=by simp at hc;omega
   subst hge;simp only[J4,simprocAttr];refine n7 results274 ?_;simp only[p6,simprocAttr];refine⟨⟨out,hoo,hi.fin fun b hb=>?_⟩,hx⟩;have hb':=C5.1 hb;have:=hlow b.toNat (by omega)
   rwa [show((b.toNat:Nat):Int)=b by omega]at this
end Go.Proofs.YtdgicngfmfldmaaGreat

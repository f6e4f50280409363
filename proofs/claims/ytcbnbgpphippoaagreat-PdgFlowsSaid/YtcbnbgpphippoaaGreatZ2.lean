/- pdgFlows.proved: for every input the law returns true. No condition. Part 2 of 7. -/
import Derived.Ground.NamesProg
import Derived.Lib.SlicesCompact
import Derived.MapKept
import Derived.Maps.RangeRun
import Derived.Shelf.SlSortCmp.NoneTotal
import Derived.Shelf.SlSortCmp.WholeK
import Derived.Shelf.Slices.CompactS
import Derived.Shelf.Slices.In.SortNone
import Derived.Shelf.Sort.Plain
import Derived.Sort.Walk0
import Derived.Test.YtcbnbgpphippoaaGreatProg
import Derived.Test.YtcbnbgpphippoaaGreatZ1
set_option maxRecDepth 1000000
set_option maxHeartbeats 8000000
set_option linter.unusedVariables false
set_option linter.unusedSimpArgs false
set_option linter.unnecessarySimpa false
set_option linter.defProp false
namespace Go.Proofs.YtcbnbgpphippoaaGreat
open Go Tryz
def eF5:=@List.drop_length
def ew9:=@of_decide_eq_false
def ew8:=@of_decide_eq_true
theorem cw4:ag0 prog 121=true:=by kernel_rfl
mutual
theorem ae0:∀(t:St) (k:Nat) (pr up nx lp:Int),(U2 t k pr up nx lp).length=U6 t
 | .mk id kind labels name proc x has args thn els,k,pr,up,nx,lp=>by
  simp only[U2,ey7,ew7,F9,U6];omega
theorem F9:∀(l:List St) (k:Nat) (pr up nx lp:Int),(C6 l k pr up nx lp).length=A5 l
 | [],_,_,_,_,_=>by simp[C6,A5]
 | t::l,k,pr,up,nx,lp=>by
  simp only[C6,ew7,ae0,F9,A5]
end
theorem O4(t:St)(k:Nat)(pr up nx lp:Int):U2 t k pr up nx lp =
  ⟨t,pr,up,nx,lp⟩::(C6 t.thn (k+1) pr ((k:Int)+1) (if t.kind=6 then(k:Int)+1 else nx) (if t.kind=6 then(k:Int)+1 else lp) ++
   C6 t.els (k+1+A5 t.thn) pr ((k:Int)+1) (if t.kind=6 then(k:Int)+1 else nx) (if t.kind=6 then(k:Int)+1 else lp)):=by
 cases t;simp only[U2,F9,St.thn,St.els,St.kind];rfl
theorem cP9:∀(m:Nat) (l:List St) (ar:It) (va v:Value) (h:Hp) (gb:Nat) (vg vp vL vLo vHi:Value) (L:List It) (lo hi:List Int) (w:World),A5 l≤m→ShS h w gb vg vp vL vLo vHi L lo hi→B4 h (d7 w)→R h v l→SV h va ar→G5 l≤1000000→L.length+A5 l≤1000000 →
  Calls prog 121 #[.pointer (some ⟨gb,0,none⟩),v,va] w fun e w'=>∃u,e = .returned u∧(∃vL',ShS h w' gb vg vp vL' vLo vHi (L++C6 l L.length ar.proc ar.up ar.next ar.loop) lo hi∧o9 (fun b=>b=gb∨A4 vL b) w w'∧E0 w vL vL'):=by
 intro m
 induction m using Nat.strongRecOn with
 | ind m ih=>
 intro l ar va v h gb vg vp vL vLo vHi L lo hi w hsm hs hh hv hva hwt hLl;refine d9 (args:=[.pointer (some ⟨gb,0,none⟩),v,va]) hm func121 rfl (by kernel_rfl) (by show 3≤_;decide +kernel) ?_;have hS:=hv.isS;have hn:=hv.vlen;have hN1:∀b,(b=gb∨A4 vL b)→b<w.heap.size:=fun b hb=>by
  rcases hb with rfl|hb
  ·exact hs.lt
  ·exact hs.oL.lt hb
 obtain⟨a,w1,hbx,hx1,ha⟩:=cL1 (w:=w) (fun b=>b=gb∨A4 vL b) hva hN1;have hN1':∀b,(b=gb∨A4 vL b)→b<w1.heap.size:=fun b hb=>eC4 (hN1 b hb) hx1.size;obtain⟨va_s,hva_s,_,lda,_⟩:=I4.it hva ha;obtain⟨ldw,_⟩:=I4.it_v hva ha;have hs1:=hs.ext hx1;have hfree:∀b,(b=gb∨A4 vL b)→h b=none:=fun b hb=>by
  rcases hb with rfl|hb
  ·exact hs.free
  ·exact hs.oL.free hb
 have hh1:B4 h (d7 w1):=p6 hh (b7 hx1);simp only[n3,n8,simprocAttr,hbx,hS,hn];refine n7 [0,1,5,11,12] (σ:=Nat×Value×List It) (fun s f w'=>f 13 = .int .i64 s.1∧s.1≤l.length∧ShS h w' gb vg vp s.2.1 vLo vHi (L++s.2.2) lo hi∧o9 (fun b=>b=gb∨A4 vL b) w1 w'∧E0 w1 vL s.2.1 ∧
  C6 l L.length ar.proc ar.up ar.next ar.loop=s.2.2++C6 (l.drop s.1) (L.length+s.2.2.length) ar.proc ar.up ar.next ar.loop∧s.2.2.length+A5 (l.drop s.1)=A5 l) (fun s=>l.length-s.1) (0,vL,[]) (by decide +kernel) ?_ ?_
 ·simp only[p7,simprocAttr];exact⟨by trivial,ex6 _,by simpa using hs1,o9.refl _,fun b hb=>.inl hb,by simp,by simp⟩
 ·rintro⟨k,uL,pre⟩ f w2 hk ⟨h13,hkl,hs2,hx2,hmv2,hpre,hcnt⟩;simp only at h13 hkl hs2 hmv2 hpre hcnt;simp only[ew6,p7,simprocAttr]at hk;obtain⟨e0,e1,e5,e11,e12,_⟩:=hk;simp only[n3,n8,simprocAttr,h13,e12];refine i5 (fun hc=>?_) (fun hc=>?_)
  ·have hlt:k<l.length:=by simpa using hc
   have hin:=hv.inS hlt;have hh2:B4 h (d7 w2):=I0 hh1 hx2 hfree;obtain⟨sv,hsv,hld⟩:=F4 (P:=prog) (t:=45) hv hh2 (ew4 hlt) aR4 aR7 aI9 W9;rw[W9]at hld;have hdrop:l.drop k=l[k]::l.drop (k+1):=eA2 hlt;have hwm:=af7 (ex8 hlt);have hrest:(l.drop (k+1)).length=l.length-(k+1):=eB8;generalize l[k]=t at hsv hdrop hwm;rw[hdrop]at hpre hcnt;rw[A5]at hcnt;have heq:=ao5 t;have hwe:=P4 t;have hpL:(L++pre).length=L.length+pre.length:=ew7;have hfree2:∀b,(b=gb∨A4 uL b)→h b=none:=fun b hb=>by
    rcases hb with rfl|hb
    ·exact hs.free
    ·exact hs2.oL.free hb
   have hN2:∀b,(b=gb∨A4 uL b)→b<w2.heap.size:=fun b hb=>by
    rcases hb with rfl|hb
    ·exact hs2.lt
    ·exact hs2.oL.lt hb
   obtain⟨b,wz,w3,hal,hst,hx3,hat⟩:=cV7 (w:=w2) (fun b=>b=gb∨A4 uL b) hsv hN2;obtain⟨vl,ux,va',vt,ve,hvl,_,_,hva',hvt,hve,ldt,sdt⟩:=I4.st hsv hat;obtain⟨ldT,_⟩:=I4.st_v hsv hat;have hs3:=hs2.ext hx3;have hmod13:o9 (fun b=>b=gb∨A4 vL b) w1 w3:=hx2.trans (o9.up hx3);have hk3:B4 (B8 w3 fun b=>b=gb∨A4 uL b) (d7 w3):=B3 _ _;have hb3:B4 (B8 w1 fun b=>b=gb∨A4 vL b) (d7 w3):=C9 hmod13;have hgl3:=F0 (P:=prog) (t:=111) (i:=2) (u:=uL) hs3.cell rfl aL6;have hSu:=hs3.oL.isS;have hnu:=hs3.oL.vlen;rw[hpL]at hnu;have hid:IntKind.i64.wrap (((L.length+pre.length:Nat):Int)+1)=((L.length+pre.length+1:Nat):Int):=B2 _ (by omega);have lw3:=ldw w3 hb3;obtain⟨tb,wy,w4,hal4,hst4,hx4,hge4,htm4⟩:=T4.new (w:=w3) hva;have hs4:=hs3.ext hx4;have hk4:B4 (B8 w3 fun b=>b=gb∨A4 uL b) (d7 w4):=p6 hk3 (b7 hx4);have lT4:=ldT w4 hk4;obtain⟨w5,hst5,htm5,hx5⟩:=htm4.setS hsv;have hmod35:o9 (fun b=>b=gb∨A4 uL b) w3 w5:=(o9.up hx4).chain hx5 fun i hi hb=>by omega
   have hs5:ShS h w5 gb vg vp uL vLo vHi (L++pre) lo hi:=hs4.mod hx5 (by have:=hs3.lt;omega) (fun b hb=>by have:=hs3.oL.lt hb;omega) (fun b hb=>by have:=hs3.oLo.lt hb;omega) (fun b hb=>by have:=hs3.oHi.lt hb;omega);have hlen1:IntKind.i64.wrap ((k:Int)+1)=((k+1:Nat):Int):=B2 k (by have:=P5 l;omega);have hk5:B4 (B8 w3 fun b=>b=gb∨A4 uL b) (d7 w5):=C9 hmod35;have lT5:=ldT w5 hk5;simp only[n3,n8,v8,simprocAttr,h13,e0,e1,e5,e11,hin,hld,hal,hst,hgl3,hSu,hnu,hid,lw3,hal4,hst4,lT4,hst5,hS,hn,hlen1];generalize hK:CW prog _ (S9 1 (W8 _ _))=K;have key:∀(nx:Int) (f6:Fr) (w6:World),nx=(if(l.drop (k+1)).length=0 then ar.next else((L.length+pre.length:Nat):Int)+1+(U6 t:Nat))→T4 h w6 tb ⟨t,ar.proc,ar.up,nx,ar.loop⟩→o9 (fun b=>b=tb) w5 w6 →
     f6 0 = .pointer (some ⟨gb,0,none⟩)→f6 5 = .pointer (some a)→f6 7 = .pointer (some b)→f6 8 = .int .i64 ((L.length+pre.length+1:Nat):Int)→f6 9 = .pointer (some ⟨tb,0,none⟩)→f6 13 = .int .i64 k→K f6 w6:=by
    intro nx f6 w6 hnx htm6 hx6 g0 g5 g7 g8 g9 g13;have hs6:ShS h w6 gb vg vp uL vLo vHi (L++pre) lo hi:=hs5.mod hx6 (by have:=hs3.lt;omega) (fun b hb=>by have:=hs3.oL.lt hb;omega) (fun b hb=>by have:=hs3.oLo.lt hb;omega) (fun b hb=>by have:=hs3.oHi.lt hb;omega);have hmod36:o9 (fun b=>b=gb∨A4 uL b) w3 w6:=hmod35.chain hx6 fun i hi hb=>by omega
    have hs6d:=hs6.ext (o6.drew w6);obtain⟨iv,hiv,ldi⟩:=htm6.ld;have hh6:B4 h (d7 w6.drew):=by
     have h3:B4 h (d7 w3):=p6 hh2 (b7 hx3);exact p6 (I0 h3 hmod36 hfree2) (b7 (o6.drew w6))
    obtain⟨p1,uL',w7,p2,p3,p4,p5⟩:=push (e:=111) dK3 rfl hs6d.oL (x:=iv) (y:=⟨t,ar.proc,ar.up,nx,ar.loop⟩) hiv.enc (by rw[hpL];omega) (by rw[hpL];omega) hh6;have hc7:w7.heap[gb]?=some (.cells #[vg,vp,uL,vLo,vHi] 114 (0,0)):=(p4.block gb hs6d.lt fun hb=>(hs6d.d1 gb hb).1 rfl).trans hs6d.cell;obtain⟨w8,s8,hc8,hx8⟩:=ai0 (P:=prog) (t:=111) (i:=2) (x:=uL') hc7 (by simp) (D9 p3.isS) (V4 p3.isS) (p9 cI2).choose_spec.1 (by rw[←C8 (p9 cI2).choose_spec.1];exact cH8);have hs8:ShS h w8 gb vg vp uL' vLo vHi ((L++pre)++[⟨t,ar.proc,ar.up,nx,ar.loop⟩]) lo hi:=hs6d.setL p4 p3 p5 hx8 (by simpa using hc8);have hsz36:w3.heap.size≤w6.drew.heap.size:=(hmod36.trans (o9.up (o6.drew w6))).size;have hmod38:o9 (fun b=>b=gb∨A4 uL b) w3 w8:=((hmod36.trans (o9.up (o6.drew w6))).chain p4 fun i hi hb=>.inr hb).chain hx8 fun i hi hb=>.inl hb;have hmod18:o9 (fun b=>b=gb∨A4 vL b) w1 w8:=hmod13.chain hmod38 fun i hi hb=>by
     rcases hb with hb|hb
     ·exact .inl hb
     ·rcases hmv2 i hb with hb|hb
      ·exact .inr hb
      ·omega
    have hmv8:∀i,i<w3.heap.size→A4 uL' i→A4 uL i:=fun i hi hb=>by
     rcases p5 i hb with hb|hb
     ·exact hb
     ·omega
    have htb6:tb<w6.heap.size:=htm6.lt;have hntb:¬A4 uL tb:=fun hb=>by have:=hs3.oL.lt hb;omega
    have sgl:∀K f d w,B6 prog (fun w'=>o9 (A4 uL) w6.drew w') (Instr.loadAt 111 (.pointer (some ⟨gb,2,none⟩))) K f d w=K (A7 f d uL) w:=fun K f d w=>A0 (w0:=w6.drew) (o9.refl _) fun w' hw'=>F0 (i:=2) ((hw'.block gb hs6d.lt fun hb=>(hs6d.d1 gb hb).1 rfl).trans hs6d.cell) rfl aL6;have sit:∀K f d w,B6 prog (fun w'=>o9 (A4 uL) w6.drew w') (Instr.loadAt 121 (.pointer (some ⟨tb,0,none⟩))) K f d w=K (A7 f d iv) w:=fun K f d w=>A0 (w0:=w6.drew) (o9.refl _) fun w' hw'=>(ldi w' (hw'.block tb htb6 hntb)).1;rw[←hK];simp only[n3,simprocAttr];refine C2 (fun w'=>o9 (A4 uL) w6.drew w') 8 (B0 [0,1,2,3,4,5,6,7]) (by decide +kernel) (o9.refl _) ?_;simp only[D5,B0,n3,n8,simprocAttr,g0,g9,sgl,sit,p1,p2,F6];refine⟨o9.up (o6.alloc _ _),p4,?_⟩;have htm8:T4 h w8 tb ⟨t,ar.proc,ar.up,nx,ar.loop⟩:=((htm6.mod (o9.up (M:=A4 uL) (o6.drew w6)) hntb).mod p4 hntb).mod hx8 (by have:=hs3.lt;omega);obtain⟨iv8,_,ldi8⟩:=htm8.ld;have ln8:=(ldi8 w8 rfl).2;have la8:=lda w8 (C9 hmod18);obtain⟨bv,hbv,hbvS⟩:=ci1 h ar.proc ((L.length+pre.length+1:Nat):Int) nx ar.loop;obtain⟨ib,wq,w9,hal9,hst9,hx9,hge9,htm9⟩:=T4.new (w:=w8) hbvS;have hs9:=hs8.ext hx9;have hmod39:o9 (fun b=>b=gb∨A4 uL b) w3 w9:=hmod38.trans (o9.up hx9);have lt9:=ldt w9 (C9 hmod39);simp only[n3,n8,simprocAttr,g5,g7,g8,g9,s8,la8,ln8,hbv,hal9,hst9,lt9];generalize hK2:CW prog _ (S9 1 (W8 _ _))=K2;have hpL1:((L++pre)++[(⟨t,ar.proc,ar.up,nx,ar.loop⟩:It)]).length=L.length+pre.length+1:=by simp[eF8]
    have hib9:¬A4 uL' ib:=fun hb=>by have:=hs8.oL.lt hb;omega
    have hibg:ib≠gb:=fun e=>by have:=hs8.lt;omega
    have key2:∀(nx' lp':Int) (f9:Fr) (w10:World),nx'=(if t.kind=6 then((L.length+pre.length:Nat):Int)+1 else nx)→lp'=(if t.kind=6 then((L.length+pre.length:Nat):Int)+1 else ar.loop)→T4 h w10 ib ⟨cm9,ar.proc,((L.length+pre.length+1:Nat):Int),nx',lp'⟩→o9 (fun b=>b=ib) w9 w10 →
      f9 0 = .pointer (some ⟨gb,0,none⟩)→f9 7 = .pointer (some b)→f9 10 = .pointer (some ⟨ib,0,none⟩)→f9 13 = .int .i64 k→K2 f9 w10:=by
     intro nx' lp' f9 w10 hnx' hlp' htm10 hx10 q0 q7 q10 q13;have hs10:=hs9.mod hx10 (fun e=>hibg e.symm) (fun c hb e=>by subst e;exact hib9 hb) (fun c hb e=>by subst e;have:=hs8.oLo.lt hb;omega) (fun c hb e=>by subst e;have:=hs8.oHi.lt hb;omega);have hmod310:o9 (fun b=>b=gb∨A4 uL b) w3 w10:=hmod39.chain hx10 fun i hi hb=>by have:=hmod38.size;omega
     obtain⟨nv,hnv,ldn⟩:=htm10.ld;have lt10:=ldt w10 (C9 hmod310);have ln10:=(ldn w10 rfl).1;have h3:B4 h (d7 w3):=p6 hh2 (b7 hx3);have hh10:B4 h (d7 w10):=I0 h3 hmod310 hfree2;rw[←hK2];simp only[n3,n8,simprocAttr,q0,q7,q10,lt10,ln10];refine z6 cw4 (ih (A5 t.thn) (by omega) t.thn _ nv vt h gb vg vp uL' vLo vHi _ lo hi w10 (ex9 _) hs10 hh10 hvt hnv (by omega) (by rw[hpL1];omega)) ?_;rintro u w11 ⟨uL3,hs11,hx11,hmv11⟩;rw[hpL1]at hs11;have hsz310:=hmod310.size;have hmod311:o9 (fun b=>b=gb∨A4 uL b) w3 w11:=hmod310.chain hx11 fun i hi hb=>hb.imp id (hmv8 i hi);have hmv311:∀i,i<w3.heap.size→A4 uL3 i→A4 uL i:=fun i hi hb=>by
      rcases hmv11 i hb with hb|hb
      ·exact hmv8 i hi hb
      ·omega
     have htm11:T4 h w11 ib ⟨cm9,ar.proc,((L.length+pre.length+1:Nat):Int),nx',lp'⟩:=htm10.mod hx11 fun hb=>by
      rcases hb with hb|hb
      ·exact hibg hb
      ·exact hib9 hb
     obtain⟨nv2,hnv2,ldn2⟩:=htm11.ld;have lt11:=ldt w11 (C9 hmod311);have ln11:=(ldn2 w11 rfl).1;have hh11:B4 h (d7 w11):=I0 h3 hmod311 hfree2;have hpL2:∀X:List It,X.length=A5 t.thn→(((L++pre)++[(⟨t,ar.proc,ar.up,nx,ar.loop⟩:It)])++X).length=L.length+pre.length+1+A5 t.thn:=fun X hX=>by rw[ew7,hpL1,hX]
     simp only[n3,n8,simprocAttr,q0,q7,q10,lt11,ln11];refine z6 cw4 (ih (A5 t.els) (by omega) t.els _ nv2 ve h gb vg vp uL3 vLo vHi _ lo hi w11 (ex9 _) hs11 hh11 hve hnv2 (by omega) (by rw[hpL2 _ (F9 _ _ _ _ _ _)];omega)) ?_;rintro u w12 ⟨uL4,hs12,hx12,hmv12⟩;rw[hpL2 _ (F9 _ _ _ _ _ _)]at hs12;have hsz311:=hmod311.size;have hmod312:o9 (fun b=>b=gb∨A4 uL b) w3 w12:=hmod311.chain hx12 fun i hi hb=>hb.imp id (hmv311 i hi);have hmod112:o9 (fun b=>b=gb∨A4 vL b) w1 w12:=hmod13.chain hmod312 fun i hi hb=>by
      rcases hb with hb|hb
      ·exact .inl hb
      ·rcases hmv2 i hb with hb|hb
       ·exact .inr hb
       ·omega
     simp only[n3,n8,simprocAttr,q13];refine⟨(k+1,uL4,pre++U2 t (L.length+pre.length) ar.proc ar.up nx ar.loop),by simp only[];omega,by simp only[];rw[B2 k (by have:=P5 l;omega)],by simp only[];omega,?_,hmod112,?_,?_,?_⟩
     ·simp only[];have e1:((L.length+pre.length+1:Nat):Int)=((L.length+pre.length:Nat):Int)+1:=by omega
      rw[O4,←hnx',←hlp',←e1];have e2:=hs12;simp only[ey6,eH6,eG1]at e2 ⊢;exact e2
     ·simp only[];intro i hb;rcases hmv12 i hb with hb|hb
      ·rcases hmv11 i hb with hb|hb
       ·rcases p5 i hb with hb|hb
        ·exact hmv2 i hb
        ·have:=hmod13.size;exact .inr (by omega)
       ·have:=hmod13.size;exact .inr (by omega)
      ·have:=hmod13.size;exact .inr (by omega)
     ·simp only[];rw[hpre,C6,←hnx];simp only[ey6,ew7,eF8]
     ·simp only[];rw[ew7,ae0];omega
    refine i5 (fun h6=>?_) (fun h6=>?_)
    ·have k6:=ew8 h6;obtain⟨wr,hr1,htmr,hxr⟩:=htm9.setN (((L.length+pre.length+1:Nat):Int));obtain⟨wt,ht1,htmt,hxt⟩:=htmr.setLp (((L.length+pre.length+1:Nat):Int));simp only[n3,n8,simprocAttr,g8,hr1,ht1];refine key2 ((L.length+pre.length+1:Nat):Int) ((L.length+pre.length+1:Nat):Int) _ _ (by rw[if_pos k6];omega) (by rw[if_pos k6];omega) htmt (hxr.trans hxt) ?_ ?_ ?_ ?_<;>simp only[p7,↓reduceIte,Nat.reduceEqDiff,g0,g7,g13]
    ·have k6:=ew9 h6;simp only[n3,simprocAttr];refine key2 nx ar.loop _ _ (by rw[if_neg k6]) (by rw[if_neg k6]) htm9 (o9.refl _) ?_ ?_ ?_ ?_<;>simp only[p7,↓reduceIte,Nat.reduceEqDiff,g0,g7,g13]
   refine i5 (fun h6=>?_) (fun h6=>?_)
   ·have hne:¬(l.drop (k+1)).length=0:=by
     have:((k+1:Nat):Int)<(l.length:Nat):=by simpa using h6
     omega
    simp only[n3,simprocAttr,lT5];refine B7 cx1 (bk7 _ t sv w5 (ex9 _) (hsv.mono ?_) (by omega)) (fun w6 hx6=>?_)
    ·exact I0 (p6 hh2 (b7 hx3)) hmod35 hfree2
    have hlen:IntKind.i64.wrap (((L.length+pre.length+1:Nat):Int)+((U6 t:Nat):Int))=((L.length+pre.length:Nat):Int)+1+(U6 t:Nat):=by rw[K1 _ (by omega)];omega
    obtain⟨w7,k1,k2,k3⟩:=(htm5.mod (o9.up (M:=fun _=>False) hx6) id).setN (((L.length+pre.length:Nat):Int)+1+(U6 t:Nat));simp only[n3,n8,simprocAttr,hlen,k1];refine key _ _ _ (by rw[if_neg hne]) k2 ((o9.up hx6).trans k3) ?_ ?_ ?_ ?_ ?_ ?_<;>simp only[p7,↓reduceIte,Nat.reduceEqDiff,e0,e5,h13]
   ·have hz:(l.drop (k+1)).length=0:=by
     have:¬((k+1:Nat):Int)<(l.length:Nat):=by simpa using h6
     omega
    simp only[n3,simprocAttr];refine key _ _ _ (by rw[if_pos hz]) htm5 (o9.refl _) ?_ ?_ ?_ ?_ ?_ ?_<;>simp only[p7,↓reduceIte,Nat.reduceEqDiff,e0,e5,h13]
  ·have hge:k=l.length:=by simp at hc;omega
   subst hge;simp only[n3,simprocAttr];refine cC1 results121 ?_;rw[eF5]at hpre;simp only[C6,ez3]at hpre;rw[hpre];exact⟨uL,hs2,(o9.up hx1).trans hx2,fun b hb=>(hmv2 b hb).imp id fun h=>ex3 hx1.size h⟩
theorem aL1:∀(l m:List Pr) (s:Sh) (i:Nat),F7 s i (l++m)=F7 (F7 s i l) (i+l.length) m
 | [],m,s,i=>by simp[F7]
 | f::l,m,s,i=>by simp only[eH6,F7,aL1 l m,ey7];congr 1;omega
theorem bL6(l:List Pr)(s:Sh){k:Nat}(hk:k<l.length):F7 s 0 (l.take (k+1))=E7 (F7 s 0 (l.take k)) k l[k]:=by
 rw[ex2 hk,aL1,ex4,eB9 (Nat.le_of_lt hk)];simp only[F7,ez8]
theorem aQ6:∀(l:List Pr) (s:Sh) (i:Nat),(F7 s i l).p=s.p
 | [],s,i=>rfl
 | f::l,s,i=>by rw[F7,aQ6 l];rfl
theorem ax2:∀(l:List Pr) (s:Sh) (i:Nat),(F7 s i l).l.length=s.l.length+(l.map fun f=>A5 f.body).sum
 | [],s,i=>by simp[F7]
 | f::l,s,i=>by
  rw[F7,ax2 l];simp only[E7,ew7,F9,eB1,eG8];omega
theorem aV7:∀(l:List Pr) (s:Sh) (i:Nat),(F7 s i l).lo.length=s.lo.length+l.length∧(F7 s i l).hi.length=s.hi.length+l.length
 | [],s,i=>by simp[F7]
 | f::l,s,i=>by
  obtain⟨h1,h2⟩:=aV7 l (E7 s i f) (i+1);have e1:(E7 s i f).lo.length=s.lo.length+1:=by simp[E7]
  have e2:(E7 s i f).hi.length=s.hi.length+1:=by simp[E7]
  rw[F7,ey7];exact⟨by omega,by omega⟩
theorem cs1(vg vp:Value):C0 prog 114 [(0,.agg (List.toArray [vg,vp]))]=some (.agg #[vg,vp,.slice none 0 0,.slice none 0 0,.slice none 0 0]):=by
 simp[C0,cG7,J3,Instr.fill,Value.cells]
theorem db8(w:World)(vg vp:Value):∃gb w',(Instr.box 114 (.agg #[vg,vp,.slice none 0 0,.slice none 0 0,.slice none 0 0])).run prog w = .ok (.pointer (some ⟨gb,0,none⟩)) w'∧o6 w w'∧w'.heap[gb]?=some (.cells #[vg,vp,.slice none 0 0,.slice none 0 0,.slice none 0 0] 114 (0,0))∧w.heap.size≤gb:=
 ⟨_,_,rfl,o6.alloc _ _,eA5 w _,ex9 _⟩
theorem ShS.at_{h:Hp}{w:World}{gb:Nat}{vg vp vL vLo vHi:Value}{L:List It}{lo hi:List Int}{p:Pg}(s:ShS h w gb vg vp vL vLo vHi L lo hi)(hh:B4 h (d7 w))(hg:R h vg p.globals)(hp:R h vp p.procs):At (d7 w) ⟨gb,0,none⟩ (⟨p,L,lo,hi⟩:Sh):=by
 refine⟨[vg,vp,vL,vLo,vHi],⟨[vg,vp],vL,vLo,vHi,rfl,⟨vg,vp,rfl,A3.mono hh hg,A3.mono hh hp⟩,s.oL.rw_ hh,s.oLo.rw_ hh,s.oHi.rw_ hh⟩,fun j u hj=>?_⟩;rw[←aj7,add_lit,ez8,eD9 w gb j _ 114 (0,0) s.cell];simpa using hj
theorem aa2(h:Hp)(v:Value)(p:Pg)(w:World)(hv:SV h v p)(hh:B4 h (d7 w))(hwt:D6 p≤1000000):Calls prog 72 #[v] w fun e w'=>∃u,e = .returned u∧(∃gb vg vp vL vLo vHi,u = .pointer (some ⟨gb,0,none⟩)∧ShS h w' gb vg vp vL vLo vHi (b9 p).l (b9 p).lo (b9 p).hi∧R h vg p.globals∧R h vp p.procs∧w.heap.size≤gb∧(∀b,(A4 vL b∨A4 vLo b∨A4 vHi b)→w.heap.size≤b)∧o6 w w'):=by
 refine d9 (args:=[v]) hm func72 rfl (by kernel_rfl) (by show 1≤_;decide +kernel) ?_;obtain⟨a,w1,hbx,hx1,ha⟩:=V2 (w:=w) (fun _=>False) hv (fun _ h=>h.elim);obtain⟨vg,vp,hg,hp,ld,_⟩:=I4.pg hv ha;obtain⟨lw,_⟩:=I4.pg_v hv ha;have hv':v = .agg (List.toArray [vg,vp]):=by
  obtain⟨cs,rfl,he⟩:=hv;obtain⟨u1,u2,rfl,h1,h2⟩:=by3 he;obtain⟨cs2,e2,hc⟩:=ha;obtain rfl:=ab2 e2;have l0:=(ld w1 (B3 _ _)).1;have l1:=(ld w1 (B3 _ _)).2;have k0:(Instr.loadAt 22 (.pointer (some a))).run prog w1 = .ok u1 w1:=D8 (h:=B8 w1 fun _=>False) hc rfl M2 w1 (B3 _ _);have k1:(Instr.loadAt 23 (.pointer (some (a.add 1)))).run prog w1 = .ok u2 w1:=p8 (h:=B8 w1 fun _=>False) hc (o:=1) rfl bv4 w1 (B3 _ _);have e0:=l0.symm.trans k0;have e1:=l1.symm.trans k1;simp only[Result.ok.injEq,and_true]at e0 e1;subst e0;subst e1;rfl
 have lw1:=lw w1 (B3 _ _);have hh1:B4 h (d7 w1):=p6 hh (b7 hx1);have hSp:=hp.isS;have hnp:=hp.vlen;have hwp:=aa9 p.procs;have hcp:=bd1 p.procs;unfold D6 at hwt;obtain⟨gb,w2,hb2,hx2,hc2,hge2⟩:=db8 w1 vg vp;have l2:=ld w2 (p6 (B3 _ _) (b7 hx2));have hs2:ShS h w2 gb vg vp (.slice none 0 0) (.slice none 0 0) (.slice none 0 0) [] [] []:=⟨aw0 hh1 hge2,hc2,A9.nil _ _ _,A9.nil _ _ _,A9.nil _ _ _,fun b hb=>absurd hb D0,fun b hb=>absurd hb D0,fun b hb=>absurd hb D0⟩;rw[hv']at lw1;simp only[n3,n8,simprocAttr,hbx,lw1,cs1,hb2,l2,hSp,hnp];refine n7 [3,10,11] (σ:=Nat×Value×Value×Value) (fun s f w'=>f 12 = .int .i64 s.1∧s.1≤p.procs.length∧ShS h w' gb vg vp s.2.1 s.2.2.1 s.2.2.2 (F7 ⟨p,[],[],[]⟩ 0 (p.procs.take s.1)).l (F7 ⟨p,[],[],[]⟩ 0 (p.procs.take s.1)).lo (F7 ⟨p,[],[],[]⟩ 0 (p.procs.take s.1)).hi∧o6 w1 w'∧(∀b,(A4 s.2.1 b∨A4 s.2.2.1 b∨A4 s.2.2.2 b)→w1.heap.size≤b)) (fun s=>p.procs.length-s.1) (0,.slice none 0 0,.slice none 0 0,.slice none 0 0) (by decide +kernel) ?_ ?_
 ·simp only[p7,simprocAttr];exact⟨by trivial,ex6 _,by simpa[F7]using hs2,hx2,fun b hb=>by rcases hb with h|h|h<;>exact absurd h D0⟩
 ·rintro⟨k,vL,vLo,vHi⟩ f w3 hk ⟨h12,hkl,hs3,hx3,hge⟩;simp only at h12 hkl hs3 hge;simp only[ew6,p7,simprocAttr]at hk;obtain⟨e3,e10,e11,_⟩:=hk;simp only[n3,n8,simprocAttr,h12,e11];refine i5 (fun hc=>?_) (fun hc=>?_)
  ·have hlt:k<p.procs.length:=by simpa using hc
   have hp1:R h vp p.procs:=hp;have hin:=hp.inS hlt;obtain⟨sv,hsv,hld⟩:=F4 (P:=prog) (t:=51) hp1 (p6 hh1 (b7 hx3)) (ew4 hlt) aj1 aj3 aj2 N0;rw[N0]at hld;have hstep:=bL6 p.procs ⟨p,[],[],[]⟩ hlt;have hlen:=ax2 (p.procs.take k) ⟨p,[],[],[]⟩ 0;have hlen2:=ax2 (p.procs.take (k+1)) ⟨p,[],[],[]⟩ 0;have hlo:=aV7 (p.procs.take k) ⟨p,[],[],[]⟩ 0;have hsum:((p.procs.take (k+1)).map fun f=>A5 f.body).sum≤(p.procs.map fun f=>A5 f.body).sum:=by
    conv=>rhs;rw[←ez9 (k+1) p.procs,ez5,List.sum_append]
    omega
   rw[hstep]at hlen2;have hwm:=am0 (ex8 hlt);rw[ex4,eB9 hkl]at hlo;generalize hG:F7 ⟨p,[],[],[]⟩ 0 (p.procs.take k)=G at hs3 hlen hlo hstep hlen2;generalize p.procs[k]=q at hsv hstep hwm hlen2;simp only[E7,ew7,F9,eC7,ez8]at hlen hlen2 hlo;obtain⟨b,wz,w4,hal,hst,hx4,hat⟩:=aH0 (w:=w3) (fun b=>b=gb∨A4 vL b∨A4 vLo b∨A4 vHi b) hsv (fun b hb=>by
    rcases hb with rfl|hb|hb|hb
    ·exact hs3.lt
    ·exact hs3.oL.lt hb
    ·exact hs3.oLo.lt hb
    ·exact hs3.oHi.lt hb)
   obtain⟨_,_,vb,_,_,_,hvb,_,ldq,_⟩:=I4.pr hsv hat;have hs4:=hs3.ext hx4;have hs4d:=hs4.ext (o6.drew w4);have hx14:o6 w1 w4.drew:=hx3.trans (hx4.trans (o6.drew w4));have hS4:=hs4.oL.isS;have hn4:=hs4.oL.vlen;have sgLo:∀K f d w,B6 prog (fun w'=>o9 (A4 vLo) w4.drew w') (Instr.loadAt 112 (.pointer (some ⟨gb,3,none⟩))) K f d w=K (A7 f d vLo) w:=fun K f d w=>A0 (w0:=w4.drew) (o9.refl _) fun w' hw'=>F0 (i:=3) ((hw'.block gb hs4d.lt fun hb=>(hs4d.d2 gb hb).1 rfl).trans hs4d.cell) rfl O2;have sgL:∀K f d w,B6 prog (fun w'=>o9 (A4 vLo) w4.drew w') (Instr.loadAt 111 (.pointer (some ⟨gb,2,none⟩))) K f d w=K (A7 f d vL) w:=fun K f d w=>A0 (w0:=w4.drew) (o9.refl _) fun w' hw'=>F0 (i:=2) ((hw'.block gb hs4d.lt fun hb=>(hs4d.d2 gb hb).1 rfl).trans hs4d.cell) rfl aL6;have hw1':IntKind.i64.wrap ((G.l.length:Int)+1)=(G.l.length:Int)+1:=K1 _ (by omega);obtain⟨p1,vLo',w5,p2,p3,p4,p5⟩:=push (e:=112) cZ3 rfl hs4d.oLo (x:=.int .i64 ((G.l.length:Int)+1)) (y:=(G.l.length:Int)+1) rfl (by omega) (by omega) (p6 hh1 (b7 hx14));simp only[Value.cells]at p1 p2;have hc5:w5.heap[gb]?=some (.cells #[vg,vp,vL,vLo,vHi] 114 (0,0)):=(p4.block gb hs4d.lt fun hb=>(hs4d.d2 gb hb).1 rfl).trans hs4d.cell;obtain⟨w6,s6,hc6,hx6⟩:=ai0 (P:=prog) (t:=112) (i:=3) (x:=vLo') hc5 (by simp) (D9 p3.isS) (V4 p3.isS) (p9 R6).choose_spec.1 (by rw[←C8 (p9 R6).choose_spec.1];exact aD8);have hs6:ShS h w6 gb vg vp vL vLo' vHi G.l (G.lo++[(G.l.length:Int)+1]) G.hi:=hs4d.setLo p4 p3 p5 hx6 (by simpa using hc6);have hx16:o6 w1 w6:=o9.ext_of (o9.ext_of hx14 p4 fun b hb=>hge b (.inr (.inl hb))) hx6 fun b hb=>by subst hb;exact hge2
   have hmod46:o9 (fun b=>b=gb∨A4 vL b∨A4 vLo b∨A4 vHi b) w4 w6:=((o9.up (o6.drew w4)).chain p4 fun i _ hb=>.inr (.inr (.inl hb))).chain hx6 fun i _ hb=>.inl hb;have lq6:=ldq w6 (C9 hmod46);obtain⟨bv,hbv,hbvS⟩:=ci0 h (k:Int) (-1);simp only[n3,n8,v8,simprocAttr,h12,e10,hin,hld,hal,hst];refine C2 (fun w'=>o9 (A4 vLo) w4.drew w') 13 (B0 [0,1,2,3,4,5,6,7,8,9,10,11,12]) (by decide +kernel) (o9.refl _) ?_;simp only[D5,B0,n3,n8,simprocAttr,e3,sgLo,sgL,hS4,hn4,hw1',p1,p2,F6];refine⟨o9.up (o6.alloc _ _),p4,?_⟩;simp only[n3,n8,simprocAttr,s6,e3,lq6,hbv];refine z6 cw4 (cP9 (A5 q.body) q.body _ bv vb h gb vg vp vL vLo' vHi _ _ _ w6 (ex9 _) hs6 (p6 hh1 (b7 hx16)) hvb hbvS (by unfold T3 at hwm;omega) (by omega)) ?_;rintro u w7 ⟨vL',hs7,hx7,hmv7⟩;simp only at hs7;have hx17:o6 w1 w7:=o9.ext_of hx16 hx7 fun b hb=>by
    rcases hb with rfl|hb
    ·exact hge2
    ·exact hge b (.inl hb)
   have hs7d:=hs7.ext (o6.drew w7);have hx17d:o6 w1 w7.drew:=hx17.trans (o6.drew w7);have hS7:=hs7.oL.isS;have hn7:=hs7.oL.vlen;rw[ew7,F9]at hn7;have sgHi:∀K f d w,B6 prog (fun w'=>o9 (A4 vHi) w7.drew w') (Instr.loadAt 112 (.pointer (some ⟨gb,4,none⟩))) K f d w=K (A7 f d vHi) w:=fun K f d w=>A0 (w0:=w7.drew) (o9.refl _) fun w' hw'=>F0 (i:=4) ((hw'.block gb hs7d.lt fun hb=>hs7d.d3 gb hb rfl).trans hs7d.cell) rfl O2;have sgL7:∀K f d w,B6 prog (fun w'=>o9 (A4 vHi) w7.drew w') (Instr.loadAt 111 (.pointer (some ⟨gb,2,none⟩))) K f d w=K (A7 f d vL') w:=fun K f d w=>A0 (w0:=w7.drew) (o9.refl _) fun w' hw'=>F0 (i:=2) ((hw'.block gb hs7d.lt fun hb=>hs7d.d3 gb hb rfl).trans hs7d.cell) rfl aL6;have hw2':IntKind.i64.wrap (((G.l.length+A5 q.body:Nat):Int)+1)=(G.l.length:Int)+(A5 q.body:Nat)+1:=by rw[K1 _ (by omega)];omega
   obtain⟨q1,vHi',w8,q2,q3,q4,q5⟩:=push (e:=112) cZ3 rfl hs7d.oHi (x:=.int .i64 ((G.l.length:Int)+(A5 q.body:Nat)+1)) (y:=(G.l.length:Int)+(A5 q.body:Nat)+1) rfl (by omega) (by omega) (p6 hh1 (b7 hx17d));simp only[Value.cells]at q1 q2;have hc8:w8.heap[gb]?=some (.cells #[vg,vp,vL',vLo',vHi] 114 (0,0)):=(q4.block gb hs7d.lt fun hb=>hs7d.d3 gb hb rfl).trans hs7d.cell;obtain⟨w9,s9,hc9,hx9⟩:=ai0 (P:=prog) (t:=112) (i:=4) (x:=vHi') hc8 (by simp) (D9 q3.isS) (V4 q3.isS) (p9 R6).choose_spec.1 (by rw[←C8 (p9 R6).choose_spec.1];exact aD8);have hs9:=hs7d.setHi q4 q3 q5 hx9 (by simpa using hc9);have hx19:o6 w1 w9:=o9.ext_of (o9.ext_of hx17d q4 fun b hb=>hge b (.inr (.inr hb))) hx9 fun b hb=>by subst hb;exact hge2
   simp only[n3,simprocAttr];refine C2 (fun w'=>o9 (A4 vHi) w7.drew w') 13 (B0 [0,1,2,3,4,5,6,7,8,9,10,11,12]) (by decide +kernel) (o9.refl _) ?_;simp only[D5,B0,n3,n8,simprocAttr,e3,sgHi,sgL7,hS7,hn7,hw2',q1,q2,F6];refine⟨o9.up (o6.alloc _ _),q4,?_⟩;simp only[n3,n8,simprocAttr,s9,h12];refine⟨(k+1,vL',vLo',vHi'),by simp only[];omega,by simp only[];rw[B2 k (by omega)],by simp only[];omega,?_,hx19,fun b hb=>?_⟩;rotate_left
   ·rcases hb with hb|hb|hb
    ·rcases hmv7 b hb with h|h
     ·exact hge b (.inl h)
     ·exact ex3 hx16.size h
    ·rcases p5 b hb with h|h
     ·exact hge b (.inr (.inl h))
     ·exact ex3 hx14.size h
    ·rcases q5 b hb with h|h
     ·exact hge b (.inr (.inr h))
     ·exact ex3 hx17d.size h
   simp only[];rw[hstep];simp only[E7,F9];exact hs9
  ·have hge:k=p.procs.length:=by simp at hc;omega
   subst hge;simp only[n3,simprocAttr,e3];refine n9 results72 ?_;simp only[p7,simprocAttr];rw[ex5]at hs3;have hF:b9 p=⟨p,(F7 ⟨p,[],[],[]⟩ 0 p.procs).l,(F7 ⟨p,[],[],[]⟩ 0 p.procs).lo,(F7 ⟨p,[],[],[]⟩ 0 p.procs).hi⟩:=by
    have:=aQ6 p.procs ⟨p,[],[],[]⟩ 0;unfold b9;cases hq:F7 ⟨p,[],[],[]⟩ 0 p.procs;rw[hq]at this;simp only at this;rw[this]
   rw[hF];exact⟨gb,vg,vp,vL,vLo,vHi,by trivial,hs3,hg,hp,ex3 hx1.size hge2,fun b hb=>ex3 hx1.size (hge b hb),hx1.trans hx3⟩
theorem ag5(v:Value)(p:Pg)(w:World)(hv:SV (d7 w) v p)(hwt:D6 p≤1000000):Calls prog 72 #[v] w fun e w'=>∃u,e = .returned u∧(∃a,u = .pointer (some a)∧At (d7 w') a (b9 p)∧o6 w w'):=by
 refine Calls.mono (aa2 (d7 w) v p w hv (i4 _) hwt) ?_;rintro e w' ⟨u,he,gb,vg,vp,vL,vLo,vHi,rfl,hs,hg,hp,_,_,hx⟩;refine⟨_,he,_,rfl,?_,hx⟩;have hF:b9 p=⟨p,(b9 p).l,(b9 p).lo,(b9 p).hi⟩:=by
  have:(b9 p).p=p:=by unfold b9;rw[aQ6]
  cases hq:b9 p;rw[hq]at this;simp only at this;rw[this]
 rw[hF];exact hs.at_ (b7 hx) hg hp
theorem dd1:ag0 prog 144=true:=by kernel_rfl
theorem dd3:ag0 prog 156=true:=by kernel_rfl
theorem dG0:ag0 prog 80=true:=by kernel_rfl
theorem ar1:E8 prog 22 9 1 16=true:=by kernel_rfl
theorem ldS{h:Hp}{v:Value}{l:List A6}{w:World}(hv:R h v l)(hw:B4 h (d7 w)){k:Nat}(hk:k<l.length):(Instr.loadAt 9 (.pointer (some (H1 v k)))).run prog w = .ok (o7 l[k]) w:=
 M5 (P:=prog) (t:=9) hv hw (ew4 hk) S0
theorem bd4{α:Type}{p:α→Bool}{l:List α}(h:∀j (hj:j<l.length),p l[j]=false):∀x∈l,p x=false:=fun x hx=>by
 obtain⟨j,hj,rfl⟩:=eB5.1 hx;exact h j hj
theorem be1(v:Value)(l:List A6)(x:A6)(w:World)(hv:R (d7 w) v l)(hl:l.length≤1000000000):Calls prog 144 #[v,o7 x] w fun e w'=>∃u,e = .returned u∧(u = .int .i64 (V3 (fun y=>decide (x=y)) 0 l)∧w'=w):=by
 refine d9 (args:=[v,o7 x]) hm func144 rfl (by kernel_rfl) (by show 2≤_;decide +kernel) ?_;have hS:=hv.isS;have hn:=hv.vlen;simp only[n3,n8,simprocAttr,hS,hn];refine n7 [0,1,6,7] (σ:=Nat) (fun k f w'=>f 8 = .int .i64 k∧k≤l.length∧(∀j (hj:j<l.length),j<k→decide (x=l[j])=false)∧w'=w) (fun k=>l.length-k) 0 (by decide +kernel) ?_ ?_
 ·simp only[p7,simprocAttr];exact⟨by trivial,ex6 _,fun j _ h=>by omega,by trivial⟩
 ·rintro k f w' hk ⟨h8,hkl,hno,rfl⟩;simp only[ew6,p7,simprocAttr]at hk;obtain⟨e0,e1,e6,e7,_⟩:=hk;simp only[n3,n8,simprocAttr,h8,e7];refine i5 (fun hc=>?_) (fun hc=>?_)
  ·have hlt:k<l.length:=by simpa using hc
   have hin:=hv.inS hlt;have hld:=ldS hv (i4 _) hlt;simp only[n3,n8,v8,simprocAttr,h8,e0,e1,hin,hld];refine i5 (fun hc2=>?_) (fun hc2=>?_)
   ·simp only[n3,simprocAttr];refine n9 results144 ?_;simp only[p7,simprocAttr];exact⟨by rw[an2 (fun y=>decide (x=y)) l 0 k hlt (fun j hj=>hno j (by omega) hj) hc2,ez8],by trivial⟩
   ·simp only[n3,n8,simprocAttr,h8];refine⟨k+1,by omega,by rw[B2 k (by omega)],by omega,fun j hj hjk=>?_,by trivial⟩;rcases eA1 j k with h|h
    ·exact hno j hj h
    ·obtain rfl:j=k:=by omega
     exact hc2
  ·have hge:k=l.length:=by simp at hc;omega
   subst hge;simp only[n3,simprocAttr];refine n9 results144 ?_;simp only[p7,simprocAttr];exact⟨by rw[as6 _ _ _ (bd4 fun j hj=>hno j hj hj)],by trivial⟩
theorem N5(v:Value)(l:List A6)(x:A6)(w:World)(hv:R (d7 w) v l)(hl:l.length≤1000000000):Calls prog 108 #[v,o7 x] w fun e w'=>∃u,e = .returned u∧(u = .bool (l.contains x)∧w'=w):=by
 refine d9 (args:=[v,o7 x]) hm func108 rfl (by kernel_rfl) (by show 2≤_;decide +kernel) ?_;simp only[n3,n8,simprocAttr];refine D1 dd1 (be1 v l x w hv hl) ?_;have hd:decide (0≤V3 (fun y=>decide (x=y)) 0 l)=l.contains x:=by
  rw[as5,←List.any_beq]
  congr 1
 simp only[n3,n8,simprocAttr,hd];refine n9 results108 ?_;simp only[p7,simprocAttr];exact⟨by trivial,by trivial⟩
theorem aA0(pred:Pr→Bool)(g:Nat)(cap:Array Value)(v:Value)(l:List Pr)(w:World)(hb:ag0 prog g=true)(hv:R (d7 w) v l)(hl:l.length≤1000000000)
  (hp:∀(sv:Value) (x:Pr) (w':World),o6 w w'→x∈l→SV (d7 w') sv x→Calls prog g ([sv]++cap.toList).toArray w' fun e w''=>∃u,e = .returned u∧(u = .bool (pred x)∧o6 w' w'')) :
  Calls prog 80 #[v,.func (.func g) #[] cap] w fun e w'=>∃u,e = .returned u∧(u = .int .i64 (V3 pred 0 l)∧o6 w w'):=by
 refine d9 (args:=[v,.func (.func g) #[] cap]) hm func80 rfl (by kernel_rfl) (by show 2≤_;decide +kernel) ?_;have hS:=hv.isS;have hn:=hv.vlen;simp only[n3,n8,simprocAttr,hS,hn];refine n7 [0,1,6,7] (σ:=Nat) (fun k f w'=>f 8 = .int .i64 k∧k≤l.length∧(∀j (hj:j<l.length),j<k→pred l[j]=false)∧o6 w w') (fun k=>l.length-k) 0 (by decide +kernel) ?_ ?_
 ·simp only[p7,simprocAttr];exact⟨by trivial,ex6 _,fun j _ h=>by omega,o9.refl _⟩
 ·rintro k f w1 hk ⟨h8,hkl,hno,hx⟩;simp only[ew6,p7,simprocAttr]at hk;obtain⟨e0,e1,e6,e7,_⟩:=hk;simp only[n3,n8,simprocAttr,h8,e7];refine i5 (fun hc=>?_) (fun hc=>?_)
  ·have hlt:k<l.length:=by simpa using hc
   have hin:=hv.inS hlt;obtain⟨sv,hsv,hld⟩:=F4 (P:=prog) (t:=51) hv (b7 hx) (ew4 hlt) aj1 aj3 aj2 N0;rw[N0]at hld;simp only[n3,n8,v8,simprocAttr,h8,e0,e1,hin,hld,eG1];refine B7 hb (hp sv l[k] w1 hx (ex8 hlt) (hsv.mono (b7 hx))) (fun w2 hx2=>?_);cases hq:pred l[k]
   ·simp only[n3,n8,simprocAttr,h8];refine⟨k+1,by omega,by rw[B2 k (by omega)],by omega,fun j hj hjk=>?_,hx.trans hx2⟩;rcases eA1 j k with h|h
    ·exact hno j hj h
    ·obtain rfl:j=k:=by omega
     exact hq
   ·simp only[n3,simprocAttr];refine n9 results80 ?_;simp only[p7,simprocAttr];exact⟨by rw[an2 pred l 0 k hlt (fun j hj=>hno j (by omega) hj) hq,ez8],hx.trans hx2⟩
  ·have hge:k=l.length:=by simp at hc;omega
   subst hge;simp only[n3,simprocAttr];refine n9 results80 ?_;simp only[p7,simprocAttr];exact⟨by rw[as6 _ _ _ (bd4 fun j hj=>hno j hj hj)],hx⟩
theorem aA1(pred:A6→Bool)(g:Nat)(cap:Array Value)(v:Value)(l:List A6)(w:World)(hb:ag0 prog g=true)(hv:R (d7 w) v l)(hl:l.length≤1000000000)
  (hp:∀(x:A6) (w':World),o6 w w'→x∈l→Calls prog g ([o7 x]++cap.toList).toArray w' fun e w''=>∃u,e = .returned u∧(u = .bool (pred x)∧o6 w' w'')) :
  Calls prog 156 #[v,.func (.func g) #[] cap] w fun e w'=>∃u,e = .returned u∧(u = .int .i64 (V3 pred 0 l)∧o6 w w'):=by
 refine d9 (args:=[v,.func (.func g) #[] cap]) hm func156 rfl (by kernel_rfl) (by show 2≤_;decide +kernel) ?_;have hS:=hv.isS;have hn:=hv.vlen;simp only[n3,n8,simprocAttr,hS,hn];refine n7 [0,1,6,7] (σ:=Nat) (fun k f w'=>f 8 = .int .i64 k∧k≤l.length∧(∀j (hj:j<l.length),j<k→pred l[j]=false)∧o6 w w') (fun k=>l.length-k) 0 (by decide +kernel) ?_ ?_
 ·simp only[p7,simprocAttr];exact⟨by trivial,ex6 _,fun j _ h=>by omega,o9.refl _⟩
 ·rintro k f w1 hk ⟨h8,hkl,hno,hx⟩;simp only[ew6,p7,simprocAttr]at hk;obtain⟨e0,e1,e6,e7,_⟩:=hk;simp only[n3,n8,simprocAttr,h8,e7];refine i5 (fun hc=>?_) (fun hc=>?_)
  ·have hlt:k<l.length:=by simpa using hc
   have hin:=hv.inS hlt;have hld:=ldS hv (b7 hx) hlt;simp only[n3,n8,v8,simprocAttr,h8,e0,e1,hin,hld,eG1];refine B7 hb (hp l[k] w1 hx (ex8 hlt)) (fun w2 hx2=>?_);cases hq:pred l[k]
   ·simp only[n3,n8,simprocAttr,h8];refine⟨k+1,by omega,by rw[B2 k (by omega)],by omega,fun j hj hjk=>?_,hx.trans hx2⟩;rcases eA1 j k with h|h
    ·exact hno j hj h
    ·obtain rfl:j=k:=by omega
     exact hq
   ·simp only[n3,simprocAttr];refine n9 results156 ?_;simp only[p7,simprocAttr];exact⟨by rw[an2 pred l 0 k hlt (fun j hj=>hno j (by omega) hj) hq,ez8],hx.trans hx2⟩
  ·have hge:k=l.length:=by simp at hc;omega
   subst hge;simp only[n3,simprocAttr];refine n9 results156 ?_;simp only[p7,simprocAttr];exact⟨by rw[as6 _ _ _ (bd4 fun j hj=>hno j hj hj)],hx⟩
theorem aM4(pred:A6→Bool)(g:Nat)(cap:Array Value)(v:Value)(l:List A6)(w:World)(hb:ag0 prog g=true)(hv:R (d7 w) v l)(hl:l.length≤1000000000)
  (hp:∀(x:A6) (w':World),o6 w w'→x∈l→Calls prog g ([o7 x]++cap.toList).toArray w' fun e w''=>∃u,e = .returned u∧(u = .bool (pred x)∧o6 w' w'')) :
  Calls prog 147 #[v,.func (.func g) #[] cap] w fun e w'=>∃u,e = .returned u∧(u = .bool (l.any pred)∧o6 w w'):=by
 refine d9 (args:=[v,.func (.func g) #[] cap]) hm func147 rfl (by kernel_rfl) (by show 2≤_;decide +kernel) ?_;simp only[n3,n8,simprocAttr];refine B7 dd3 (aA1 pred g cap v l w hb hv hl hp) (fun w2 hx=>?_);have hd:=as5 pred l 0;simp only[n3,n8,simprocAttr,hd];refine n9 results147 ?_;simp only[p7,simprocAttr];exact⟨by trivial,hx⟩
theorem aM3(pred:Pr→Bool)(g:Nat)(cap:Array Value)(v:Value)(l:List Pr)(w:World)(hb:ag0 prog g=true)(hv:R (d7 w) v l)(hl:l.length≤1000000000)
  (hp:∀(sv:Value) (x:Pr) (w':World),o6 w w'→x∈l→SV (d7 w') sv x→Calls prog g ([sv]++cap.toList).toArray w' fun e w''=>∃u,e = .returned u∧(u = .bool (pred x)∧o6 w' w'')) :
  Calls prog 252 #[v,.func (.func g) #[] cap] w fun e w'=>∃u,e = .returned u∧(u = .bool (l.any pred)∧o6 w w'):=by
 refine d9 (args:=[v,.func (.func g) #[] cap]) hm func252 rfl (by kernel_rfl) (by show 2≤_;decide +kernel) ?_;simp only[n3,n8,simprocAttr];refine B7 dG0 (aA0 pred g cap v l w hb hv hl hp) (fun w2 hx=>?_);have hd:=as5 pred l 0;simp only[n3,n8,simprocAttr,hd];refine n9 results252 ?_;simp only[p7,simprocAttr];exact⟨by trivial,hx⟩
def eF0:=@List.find?_eq_none
def eE7:=@List.find?_eq_some_iff_getElem
def eG0:=@List.mem_of_mem_take
theorem ab7:ag0 prog 108=true:=by kernel_rfl
theorem aZ1:ag0 prog 57=true:=by kernel_rfl
theorem et9:ag0 prog 81=true:=by kernel_rfl
theorem cW9(n:A6)(w:World):∃a w',(Instr.box 9 (o7 n)).run prog w = .ok (.pointer (some a)) w'∧o6 w w'∧∀w'',o6 w' w''→(Instr.loadAt 9 (.pointer (some a))).run prog w'' = .ok (o7 n) w'':=by
 refine⟨⟨w.heap.size,0,none⟩,w.alloc (.cells #[o7 n] 9),rfl,o6.alloc _ _,fun w'' hx=>?_⟩;exact F0 (i:=0) (cs:=#[o7 n]) (T:=9) ((hx.block _ (by simp) id).trans (eA5 w _)) rfl S0
theorem bU6(sv:Value)(q:Pr)(n:A6)(a:Addr)(w:World)(hv:SV (d7 w) sv q)(hl:∀w',o6 w w'→(Instr.loadAt 9 (.pointer (some a))).run prog w' = .ok (o7 n) w'):
  Calls prog 81 #[sv,.pointer (some a)] w fun e w'=>∃u,e = .returned u∧(u = .bool (decide (q.name=n))∧o6 w w'):=by
 refine d9 (args:=[sv,.pointer (some a)]) hm func81 rfl (by kernel_rfl) (by show 2≤_;decide +kernel) ?_;obtain⟨b,w1,hb,hx,ha⟩:=bc8 hv (i4 _);obtain⟨_,_,_,_,_,_,_,_,ld,_⟩:=ha.pr;have l1:=ld w1 (i4 _);have l2:=hl w1 hx;simp only[n3,n8,simprocAttr,hb,l1,l2];refine n9 results81 ?_;simp only[p7,simprocAttr];exact⟨by trivial,hx⟩
theorem Z9(a:Addr)(s:Sh)(n:A6)(w:World)(hs:At (d7 w) a s)(hl:s.p.procs.length≤1000000000):Calls prog 46 #[.pointer (some a),o7 n] w fun e w'=>∃u,e = .returned u∧(u = .int .i64 (s.pr n)∧o6 w w'):=by
 refine d9 (args:=[.pointer (some a),o7 n]) hm func46 rfl (by kernel_rfl) (by show 2≤_;decide +kernel) ?_;obtain⟨vL,vlo,vhi,hL,hlo,hhi,hap,ld,sd⟩:=hs.sh;obtain⟨vg,vp,hg,hp,ldp,sdp⟩:=hap.pg;obtain⟨b,w1,hb,hx,hld⟩:=cW9 n w;have l1:=ldp w1 (b7 hx);simp only[n3,n8,simprocAttr,hb,l1];refine B7 dG0 (aA0 (fun q=>decide (q.name=n)) 81 #[.pointer (some b)] vp s.p.procs w1 et9 (A3.mono (b7 hx) hp) hl
  (fun sv x w' hx' _ hsv=>bU6 sv x n b w' hsv fun w'' hx''=>hld w'' (hx'.trans hx''))) (fun w2 hx2=>?_)
 simp only[n3,simprocAttr];refine n9 results46 ?_;simp only[p7,simprocAttr];exact⟨by trivial,hx.trans hx2⟩
theorem bD8{α:Type}[A3 α]{h:Hp}{v:Value}{xs:List α}(hr:R h v xs){i j:Nat}(hij:i≤j)(hj:j≤xs.length):R h (reS v i j (A3.sz α)) ((xs.take j).drop i):=by
 obtain⟨a,n,c,he,hn,hc,es,hes,hce⟩:=hr;simp only[eJ2,and_true]at he;subst he;have hsplit:xs=xs.take i++((xs.take j).drop i++xs.drop j):=by
  have h1:xs.take j=xs.take i++(xs.take j).drop i:=by
   have:=ez9 i (xs.take j);rw[List.take_take,eB9 hij]at this;exact this.symm
  rw[←ey6,←h1,ez9]
 rw[hsplit]at hes;obtain⟨c1,c2,rfl,h1,h2⟩:=Z3 _ _ hes;obtain⟨c3,c4,rfl,h3,h4⟩:=Z3 _ _ h2;have hl1:=J8 h1;rw[ex4,eB9 (by omega)]at hl1;have hlen:((xs.take j).drop i).length=j-i:=by rw[eB8,ex4,eB9 hj]
 refine⟨_,j-i,c-i,rfl,hlen.symm,by omega,c3,h3,fun k u hk=>?_⟩;have hk':(c1++(c3++c4))[i*A3.sz α+k]?=some u:=by
  rw[eA9 (by omega),hl1,Nat.add_sub_cancel_left,eB3 (ex1.1 hk).1];exact hk
 obtain⟨ad,e1,e2⟩:=hce _ u hk';subst e1;have hlt:i<j:=by
  rcases eA1 i j with h|h
  ·exact h
  ·have:c3.length=0:=by rw[J8 h3,hlen,show j-i=0 by omega,Nat.zero_mul]
   have:=(ex1.1 hk).1;omega
 refine⟨ad.add (i*A3.sz α),?_,by rw[Addr.add_add'];exact e2⟩;rw[if_neg (by omega)];rfl
structure bn4 (s:Sh) (i:Nat) (x y:Nat):Prop where
 lo:s.lo[i]?=some ((x:Int)+1)
 hi:s.hi[i]?=some ((y:Int)+1)
 le:x≤y
 len:y≤s.l.length
 fit:s.l.length≤1000000
theorem bn4.of_{s:Sh}{i x y:Nat}(h:bn4 s i x y):s.of i=(s.l.take y).drop x:=by
 unfold Sh.of T9;have h1:=h.lo;have h2:=h.hi;simp only[ez1,List.getD,h1,h2,eC5]
 congr 1
 ·omega
 ·congr 1;omega
theorem ldI{h:Hp}{v:Value}{l:List Int}{w:World}(hv:R h v l)(hw:B4 h (d7 w)){k:Nat}{x:Int}(hk:l[k]?=some x):(Instr.loadAt 3 (.pointer (some (H1 v k)))).run prog w = .ok (.int .i64 x) w:=
 M5 (P:=prog) (t:=3) hv hw hk F2
theorem aQ5(a:Addr)(s:Sh)(i x y:Nat)(w:World)(hs:At (d7 w) a s)(hok:bn4 s i x y):Calls prog 57 #[.pointer (some a),.int .i64 i] w fun e w'=>∃u,e = .returned u∧(R (d7 w') u (s.of i)∧o6 w w'):=by
 refine d9 (args:=[.pointer (some a),.int .i64 i]) hm func57 rfl (by kernel_rfl) (by show 2≤_;decide +kernel) ?_;obtain⟨vL,vlo,vhi,hL,hlo,hhi,hap,ld,sd⟩:=hs.sh;have hst:∀w',o6 w.drew w'→B4 (d7 w) (d7 w'):=fun w' h=>b7 ((o6.drew w).trans h);have s1:=sd (fun w'=>o6 w.drew w') w.drew (o9.refl _) hst;have hi1:=hlo.inS (ex1.1 hok.lo).1;have hi2:=hhi.inS (ex1.1 hok.hi).1;have k1:∀K f d w0,B6 prog (fun w'=>o6 w.drew w') (Instr.loadAt 3 (.pointer (some (H1 vlo i)))) K f d w0=K (A7 f d (.int .i64 ((x:Int)+1))) w0:=fun K f d w0=>A0 (w0:=w.drew) (o9.refl _) fun w' h=>ldI hlo (hst w' h) hok.lo;have k2:∀K f d w0,B6 prog (fun w'=>o6 w.drew w') (Instr.loadAt 3 (.pointer (some (H1 vhi i)))) K f d w0=K (A7 f d (.int .i64 ((y:Int)+1))) w0:=fun K f d w0=>A0 (w0:=w.drew) (o9.refl _) fun w' h=>ldI hhi (hst w' h) hok.hi;have B4:=hok.le;have hlen:=hok.len;have hfit:=hok.fit;have e1:IntKind.i64.wrap ((x:Int)+1-1)=(x:Int):=by rw[K1 _ (by omega)];omega
 have e2:IntKind.i64.wrap ((y:Int)+1-1)=(y:Int):=by rw[K1 _ (by omega)];omega
 have hSL:=hL.isS;have hc:=hL.vcap;have c1:decide ((x:Int)≤(y:Int))=true:=by simp;omega
 have c2:decide ((y:Int)≤(vcap vL:Int))=true:=by simp;omega
 simp only[n3,n8,simprocAttr];refine C2 (fun w'=>o6 w.drew w') 22 (B0 [0,1,2,3,4,5,6,7,8,9,10,11,12,13,14,15,16,17,18,19,20,21]) (by decide +kernel) (o9.refl _) ?_;simp only[D5,B0,n3,n8,v8,H5,simprocAttr,s1,hi1,hi2,k1,k2,e1,e2,hSL,c1,c2];refine n9 results57 ?_;simp only[p7,simprocAttr];refine⟨?_,o6.drew w⟩;rw[hok.of_];exact A3.mono (b7 (o6.drew w)) (bD8 hL B4 hlen)
theorem bL5(a:Addr)(s:Sh)(i x y:Nat)(w:World)(hs:At (d7 w) a s)(hok:bn4 s i x y):Calls prog 183 #[.pointer (some a),.int .i64 i] w fun e w'=>∃u,e = .returned u∧(u = .int .i64 (s.first i)∧o6 w w'):=by
 refine d9 (args:=[.pointer (some a),.int .i64 i]) hm func183 rfl (by kernel_rfl) (by show 2≤_;decide +kernel) ?_;obtain⟨vL,vlo,vhi,hL,hlo,hhi,hap,ld,sd⟩:=hs.sh;have hst:∀w',o6 w.drew w'→B4 (d7 w) (d7 w'):=fun w' h=>b7 ((o6.drew w).trans h);have s1:=sd (fun w'=>o6 w.drew w') w.drew (o9.refl _) hst;have l1:=ld w.drew (hst _ (o9.refl _));have hi1:=hlo.inS (ex1.1 hok.lo).1;have hi2:=hhi.inS (ex1.1 hok.hi).1;have k1:∀K f d w0,B6 prog (fun w'=>o6 w.drew w') (Instr.loadAt 3 (.pointer (some (H1 vlo i)))) K f d w0=K (A7 f d (.int .i64 ((x:Int)+1))) w0:=fun K f d w0=>A0 (w0:=w.drew) (o9.refl _) fun w' h=>ldI hlo (hst w' h) hok.lo;have k2:∀K f d w0,B6 prog (fun w'=>o6 w.drew w') (Instr.loadAt 3 (.pointer (some (H1 vhi i)))) K f d w0=K (A7 f d (.int .i64 ((y:Int)+1))) w0:=fun K f d w0=>A0 (w0:=w.drew) (o9.refl _) fun w' h=>ldI hhi (hst w' h) hok.hi;have k3:=ldI hlo (hst _ (o9.refl _)) hok.lo;have hF:s.first i=if(x:Int)+1<(y:Int)+1 then(x:Int)+1 else -1:=by
  unfold Sh.first T9;simp only[ez1,List.getD,hok.lo,hok.hi,eC5]
 generalize hX:(x:Int)+1=X at *;generalize hY:(y:Int)+1=Y at *;simp only[n3,n8,simprocAttr];refine C2 (fun w'=>o6 w.drew w') 15 (B0 [0,1,2,3,4,5,6,7,8,9,10,11,12,13,14]) (by decide +kernel) (o9.refl _) ?_;simp only[D5,B0,n3,n8,v8,simprocAttr,s1,hi1,hi2,k1,k2];refine i5 (fun hc=>?_) (fun hc=>?_)
 ·simp only[n3,n8,v8,simprocAttr,l1,hi1,k3];refine n9 results183 ?_;simp only[p7,simprocAttr];exact⟨by rw[hF,if_pos (ew8 hc)],o6.drew w⟩
 ·simp only[n3,simprocAttr];refine n9 results183 ?_;simp only[p7,simprocAttr];exact⟨by rw[hF,if_neg (ew9 hc)],o6.drew w⟩
def bJ9(o:Option Int):Value:=match o with
 | some i=>.tuple #[.int .i64 i,.bool true]
 | none=>.tuple #[.int .i64 0,.bool false]
theorem bL4(a:Addr)(s:Sh)(i x y:Nat)(lb:A6)(w:World)(hs:At (d7 w) a s)(hok:bn4 s i x y)(hip:i<s.p.procs.length)(hwt:∀it∈s.l,O0 it.s≤1000000)(hwf:∀f∈s.p.procs,T3 f≤1000000):
  Calls prog 215 #[.pointer (some a),.int .i64 i,o7 lb] w fun e w'=>∃u,e = .returned u∧(u=bJ9 (s.at i lb)∧o6 w w'):=by
 refine d9 (args:=[.pointer (some a),.int .i64 i,o7 lb]) hm func215 rfl (by kernel_rfl) (by show 3≤_;decide +kernel) ?_;obtain⟨vL,vlo,vhi,hL,hlo,hhi,hap,ld,sd⟩:=hs.sh;obtain⟨vg,vp,hg,hp,ldp,sdp⟩:=hap.pg;have hof:∀it∈s.of i,it∈s.l:=fun it h=>by
  rw[hok.of_]at h;exact eG0 (eI3 h)
 have hlen:(s.of i).length≤1000000:=by
  rw[hok.of_,eB8,ex4];have:=hok.fit;omega
 simp only[n3,n8,simprocAttr];refine z6 aZ1 (aQ5 a s i x y w hs hok) ?_;rintro u w1 ⟨hu,hx1⟩;generalize hof2:s.of i=l at hu hof hlen;have hS:=hu.isS;have hn:=hu.vlen;simp only[n3,n8,simprocAttr,hS,hn];refine n7 [0,1,2,12,13] (σ:=Nat) (fun k f w'=>f 14 = .int .i64 k∧k≤l.length∧(∀j (hj:j<l.length),j<k→l[j].s.labels.contains lb=false)∧o6 w1 w') (fun k=>l.length-k) 0 (by decide +kernel) ?_ ?_
 ·simp only[p7,simprocAttr];exact⟨by trivial,ex6 _,fun j _ h=>by omega,o9.refl _⟩
 ·rintro k f w2 hk ⟨h14,hkl,hno,hx⟩;simp only[ew6,p7,simprocAttr]at hk;obtain⟨e0,e1,e2,e12,e13,_⟩:=hk;simp only[n3,n8,simprocAttr,h14,e13];refine i5 (fun hc=>?_) (fun hc=>?_)
  ·have hlt:k<l.length:=by simpa using hc
   have hin:=hu.inS hlt;obtain⟨sv,hsv,hld⟩:=F4 (P:=prog) (t:=121) hu (b7 hx) (ew4 hlt) X7 X9 X8 I6;rw[I6]at hld;have hwt':=hwt _ (hof _ (ex8 hlt));rw[P4]at hwt';have hl1:=S3 l[k].s.labels;obtain⟨b,wz,w3,hal,hst,hx3,hat⟩:=ay3 (hsv.mono (b7 hx)) (i4 _);obtain⟨hats,_,_⟩:=hat.it;obtain⟨vl,_,_,_,hvl,_,_,_,_,ldt,_⟩:=hats.st;have l3:=ldt w3 (i4 _);simp only[n3,n8,v8,simprocAttr,h14,e2,e12,hin,hld,hal,hst,l3];refine D1 ab7 (N5 vl l[k].s.labels lb w3 hvl (by omega)) ?_;cases hq:l[k].s.labels.contains lb
   ·simp only[n3,n8,simprocAttr,h14];refine⟨k+1,by omega,by rw[B2 k (by omega)],by omega,fun j hj hjk=>?_,hx.trans hx3⟩;rcases eA1 j k with h|h
    ·exact hno j hj h
    ·obtain rfl:j=k:=by omega
     exact hq
   ·simp only[n3,n8,simprocAttr,l3];refine ad4 results215 ?_;simp only[p7,simprocAttr];refine⟨?_,hx1.trans (hx.trans hx3)⟩;have hfind:l.find? (fun it=>it.s.labels.contains lb)=some l[k]:=eE7.2 ⟨hq,k,hlt,rfl,fun j hj=>by rw[hno j (by omega) hj];rfl⟩;rw[Sh.at,hof2,hfind];rfl
  ·have hge:k=l.length:=by simp at hc;omega
   subst hge;have hfind:l.find? (fun it=>it.s.labels.contains lb)=none:=eF0.2 fun it hit=>by
    obtain⟨j,hj,rfl⟩:=eB5.1 hit;rw[hno j hj hj];simp
   have hA:s.at i lb=if(s.fn i).fin.contains lb then some (-1)else none:=by rw[Sh.at,hof2,hfind]
   have hfn:s.p.procs[i]?=some (s.fn i):=by
    unfold Sh.fn;rw[ez1,List.getD,ew4 hip];rfl
   have hwf':=hwf _ (ey5 hfn);unfold T3 at hwf';have hl2:=S3 (s.fn i).fin;have hatp:=hp.at_ hfn;obtain⟨_,_,_,vf,_,_,_,hvf,ldf,_⟩:=hatp.pr;have lp:=ldp w2 (b7 (hx1.trans hx));have lf:=ldf w2 (b7 (hx1.trans hx));have hz:A3.sz Pr=5:=rfl;rw[hz]at lf;have hin:=hp.inS hip;simp only[n3,n8,v8,simprocAttr,e0,e1,e2,lp,lf,hin];refine D1 ab7 (N5 vf (s.fn i).fin lb w2 (A3.mono (b7 (hx1.trans hx)) hvf) (by omega)) ?_;cases hq:(s.fn i).fin.contains lb
   ·simp only[n3,simprocAttr];refine ad4 results215 ?_;simp only[p7,simprocAttr];exact⟨by rw[hA,hq];rfl,hx1.trans hx⟩
   ·simp only[n3,simprocAttr];refine ad4 results215 ?_;simp only[p7,simprocAttr];exact⟨by rw[hA,hq];rfl,hx1.trans hx⟩
theorem bz2:ag0 prog 142=true:=by kernel_rfl
theorem aF8(v:Value)(l:List A6)(w:World)(hv:R (d7 w) v l)(hl:l.length≤1000000):Calls prog 141 #[v] w fun e w'=>∃u,e = .returned u∧(u = .bool (ae5 l)∧w'=w):=by
 refine d9 (args:=[v]) hm func141 rfl (by kernel_rfl) (by show 1≤_;decide +kernel) ?_;have hS:=hv.isS;have hn:=hv.vlen;simp only[n3,n8,simprocAttr,hS,hn];refine n7 [5,6] (σ:=Nat) (fun k f w'=>f 7 = .int .i64 k∧k≤l.length∧(l.take k).all Y4=true∧w'=w) (fun k=>l.length-k) 0 (by decide +kernel) ?_ ?_
 ·simp only[p7,simprocAttr];exact⟨by trivial,ex6 _,by simp,by trivial⟩
 ·rintro k f w' hk ⟨h7,hkl,hall,rfl⟩;simp only[ew6,p7,simprocAttr]at hk;obtain⟨e5,e6,_⟩:=hk;simp only[n3,n8,simprocAttr,h7,e6];refine i5 (fun hc=>?_) (fun hc=>?_)
  ·have hlt:k<l.length:=by simpa using hc
   have hin:=hv.inS hlt;have hld:(Instr.loadAt 9 (.pointer (some (H1 v k)))).run prog w' = .ok (o7 l[k]) w':=M5 (P:=prog) (t:=9) hv (i4 _) (ew4 hlt) S0;have htk:(l.take (k+1)).all Y4=((l.take k).all Y4&&Y4 l[k]):=by rw[ex2 hlt,List.all_append];simp
   have hmem:=ex8 hlt;generalize l[k]=s at hld htk hmem;simp only[n3,n8,v8,simprocAttr,h7,e5,hin,hld];refine z6 bz2 (aA3 s _) ?_;rintro u w1 ⟨rfl,rfl⟩;cases hn:Y4 s
   ·simp only[n3,n8,simprocAttr];refine n9 results141 ?_;simp only[p7,simprocAttr];refine⟨?_,by trivial⟩;have:ae5 l=false:=by
     rw[eH0];intro h;rw[eI4.1 h s hmem]at hn;cases hn
    rw[this]
   ·simp only[n3,n8,simprocAttr,h7];exact⟨k+1,by omega,by rw[B2 k (by omega)],by omega,by rw[htk,hall,hn];rfl,by trivial⟩
  ·have hge:k=l.length:=by simp at hc;omega
   subst hge;simp only[n3,simprocAttr];refine n9 results141 ?_;simp only[p7,simprocAttr];rw[ex5]at hall;exact⟨by rw[ae5,hall],by trivial⟩
theorem cy7(op:Int)(w:World):Calls prog 262 #[.int .i64 op] w fun e w'=>∃u,e = .returned u∧(u = .int .i64 (as8 op)∧w'=w):=by
 refine d9 (args:=[.int .i64 op]) hm func262 rfl (by kernel_rfl) (by show 1≤_;decide +kernel) ?_;by_cases h1:op=1
 ·have d1:decide (op=1)=true:=by simp[h1]
  simp only[n3,n8,simprocAttr,d1];refine n9 results262 ?_;simp only[p7,simprocAttr];exact⟨by simp[as8,h1],by trivial⟩
 have d1:decide (op=1)=false:=by simp[h1]
 by_cases h2:op=2
 ·have d2:decide (op=2)=true:=by simp[h2]
  simp only[n3,n8,simprocAttr,d1,d2];refine n9 results262 ?_;simp only[p7,simprocAttr];exact⟨by simp[as8,h2],by trivial⟩
 have d2:decide (op=2)=false:=by simp[h2]
 by_cases h3:op=3
 ·have d3:decide (op=3)=true:=by simp[h3]
  simp only[n3,n8,simprocAttr,d1,d2,d3];refine n9 results262 ?_;simp only[p7,simprocAttr];exact⟨by simp[as8,h3],by trivial⟩
 have d3:decide (op=3)=false:=by simp[h3]
 by_cases h4:op=4
 ·have d4:decide (op=4)=true:=by simp[h4]
  simp only[n3,n8,simprocAttr,d1,d2,d3,d4];refine n9 results262 ?_;simp only[p7,simprocAttr];exact⟨by simp[as8,h4],by trivial⟩
 have d4:decide (op=4)=false:=by simp[h4]
 by_cases h5:5≤op
 ·have d5:decide (5≤op)=true:=by simp[h5]
  by_cases h6:op≤17
  ·have d6:decide (op≤17)=true:=by simp[h6]
   simp only[n3,n8,simprocAttr,d1,d2,d3,d4,d5,d6];refine n9 results262 ?_;simp only[p7,simprocAttr];exact⟨by rw[as8,if_neg (by omega),if_neg (by omega),if_pos ⟨h5,h6⟩],by trivial⟩
  ·have d6:decide (op≤17)=false:=by simp[h6]
   simp only[n3,n8,simprocAttr,d1,d2,d3,d4,d5,d6];refine n9 results262 ?_;simp only[p7,simprocAttr];exact⟨by rw[as8,if_neg (by omega),if_neg (by omega),if_neg (by omega)],by trivial⟩
 ·have d5:decide (5≤op)=false:=by simp[h5]
  simp only[n3,n8,simprocAttr,d1,d2,d3,d4,d5];refine n9 results262 ?_;simp only[p7,simprocAttr];exact⟨by rw[as8,if_neg (by omega),if_neg (by omega),if_neg (by omega)],by trivial⟩
theorem cA5(v:Value)(x:Ex)(w:World)(hv:SV (d7 w) v x):Calls prog 275 #[v] w fun e w'=>∃u,e = .returned u∧(u = .bool (cA4 x)∧o6 w w'):=by
 refine d9 (args:=[v]) hm func275 rfl (by kernel_rfl) (by show 1≤_;decide +kernel) ?_;obtain⟨a,w1,hb,hx,ha⟩:=aE6 hv (i4 _);obtain⟨vk,hk,ld,_⟩:=ha.ex;have l1:=ld w1 (i4 _);have hS:=hk.isS;have hn:=hk.vlen;have hl:decide ((x.kids.length:Int)=0)=decide (x.kids.length=0):=eB0.2 (by omega);unfold cA4;cases h1:decide (x.op=0)
 ·simp only[n3,n8,simprocAttr,hb,l1,h1];refine n9 results275 ?_;simp only[p7,simprocAttr];exact⟨by trivial,hx⟩
 cases h2:decide (x.n=0)
 ·simp only[n3,n8,simprocAttr,hb,l1,h1,h2];refine n9 results275 ?_;simp only[p7,simprocAttr];exact⟨by trivial,hx⟩
 cases h3:decide (x.name=e0)
 ·simp only[n3,n8,simprocAttr,hb,l1,h1,h2,h3];refine n9 results275 ?_;simp only[p7,simprocAttr];exact⟨by trivial,hx⟩
 simp only[n3,n8,simprocAttr,hb,l1,hS,hn,h1,h2,h3,hl];refine n9 results275 ?_;simp only[p7,simprocAttr];exact⟨by trivial,hx⟩
theorem dd6:ag0 prog 190=true:=by kernel_rfl
theorem de3:ag0 prog 237=true:=by kernel_rfl
theorem cx3:ag0 prog 249=true:=by kernel_rfl
theorem de4:ag0 prog 250=true:=by kernel_rfl
theorem ej8:ag0 prog 262=true:=by kernel_rfl
theorem ek2:ag0 prog 275=true:=by kernel_rfl
theorem aE5{α:Type}(p:α→Bool)(l:List α)(k:Nat)(hk:k<l.length):(l.take (k+1)).all p=((l.take k).all p&&p l[k]):=by
 rw[ex2 hk,List.all_append];simp
theorem av1{α:Type}{p:α→Bool}{l:List α}{x:α}(hx:x∈l)(h:p x=false):l.all p=false:=by
 rw[eH0];intro ha;rw[eI4.1 ha _ hx]at h;cases h
theorem bF2:∀(n:Nat) (v:Value) (x:Ex) (w:World),n≤20→SV (d7 w) v x→Calls prog 237 #[v,.int .i64 n] w fun e w'=>∃u,e = .returned u∧(u = .bool (W5 n x)∧o6 w w')
 | 0,v,x,w,_,hv=>by
  refine d9 (args:=[v,.int .i64 ((0:Nat):Int)]) hm func237 rfl (by kernel_rfl) (by show 2≤_;decide +kernel) ?_;obtain⟨a,w1,hb,hx,ha⟩:=aE6 hv (i4 _);simp only[n3,n8,simprocAttr,hb];refine C2 (fun w2=>o6 w1.drew w2) 11 (B0 [0,1,2,3,4,5,6,7,8,9,10]) (by decide +kernel) (o9.refl _) ?_;simp only[D5,B0,n3,n8,simprocAttr];refine n9 results237 ?_;simp only[p7,simprocAttr];exact⟨by trivial,hx.trans (o6.drew _)⟩
 | n+1,v,x,w,hn,hv=>by
  refine d9 (args:=[v,.int .i64 ((n+1:Nat):Int)]) hm func237 rfl (by kernel_rfl) (by show 2≤_;decide +kernel) ?_;obtain⟨a,w1,hb,hx,ha⟩:=aE6 hv (i4 _);obtain⟨vk,hk,ld,sd⟩:=ha.ex;have hxd:=hx.trans (o6.drew w1);have l1:=ld w1.drew (b7 (o6.drew w1));have s1:=sd (fun w2=>o6 w1.drew w2) w1.drew (o9.refl _) (fun w' h=>b7 ((o6.drew w1).trans h));have h0:decide ((((n+1:Nat):Int))<1)=false:=by simp;omega
  have hS:=hk.isS;have hl:=hk.vlen;simp only[n3,n8,simprocAttr,hb];refine C2 (fun w2=>o6 w1.drew w2) 11 (B0 [0,1,2,3,4,5,6,7,8,9,10]) (by decide +kernel) (o9.refl _) ?_;simp only[D5,B0,n3,n8,simprocAttr,h0,s1,hS,hl];refine z6 ej8 (cy7 x.op _) ?_;rintro u w2 ⟨rfl,rfl⟩;cases h1:decide ((x.kids.length:Int)=as8 x.op)
  ·simp only[D5,n3,n8,simprocAttr,F6,h1];refine⟨o9.refl _,?_⟩;refine n9 results237 ?_;simp only[p7,simprocAttr];exact⟨by rw[W5,if_pos (by simpa using h1)],hxd⟩
  have h1':¬(x.kids.length:Int)≠as8 x.op:=by simpa using h1
  simp only[D5,n3,n8,simprocAttr,F6,h1];refine⟨o9.refl _,?_⟩;simp only[n3,n8,simprocAttr,l1];by_cases h2:x.op=1
  ·have d2:decide (x.op=1)=true:=by simp[h2]
   have hd:W5 (n+1) x=(decide (0≤x.n)&&decide (x.name=e0)):=by rw[W5,if_neg h1',if_pos h2]
   cases h3:decide (0≤x.n)
   ·simp only[n3,n8,simprocAttr,l1,d2,h3];refine n9 results237 ?_;simp only[p7,simprocAttr];exact⟨by rw[hd,h3];rfl,hxd⟩
   ·simp only[n3,n8,simprocAttr,l1,d2,h3];refine n9 results237 ?_;simp only[p7,simprocAttr];exact⟨by rw[hd,h3];rfl,hxd⟩
  have d2:decide (x.op=1)=false:=by simp[h2]
  by_cases h3:x.op=2
  ·have d3:decide (x.op=2)=true:=by simp[h3]
   have hd:W5 (n+1) x=(decide (x.n=0)&&Y4 x.name):=by rw[W5,if_neg h1',if_neg h2,if_pos h3]
   cases h4:decide (x.n=0)
   ·simp only[n3,n8,simprocAttr,l1,d2,d3,h4];refine n9 results237 ?_;simp only[p7,simprocAttr];exact⟨by rw[hd,h4];rfl,hxd⟩
   ·simp only[n3,n8,simprocAttr,l1,d2,d3,h4];refine z6 bz2 (aA3 x.name _) ?_;rintro u w2 ⟨rfl,rfl⟩;simp only[n3,simprocAttr];refine n9 results237 ?_;simp only[p7,simprocAttr];exact⟨by rw[hd,h4];rfl,hxd⟩
  have d3:decide (x.op=2)=false:=by simp[h3]
  cases h4:decide (x.n=0)
  ·have hd:W5 (n+1) x=false:=by rw[W5,if_neg h1',if_neg h2,if_neg h3,if_pos (.inl (by simpa using h4))]
   simp only[n3,n8,simprocAttr,l1,d2,d3,h4];refine n9 results237 ?_;simp only[p7,simprocAttr];exact⟨by rw[hd],hxd⟩
  cases h5:decide (x.name=e0)
  ·have hd:W5 (n+1) x=false:=by rw[W5,if_neg h1',if_neg h2,if_neg h3,if_pos (.inr (by simpa using h5))]
   simp only[n3,n8,simprocAttr,l1,d2,d3,h4,h5];refine n9 results237 ?_;simp only[p7,simprocAttr];exact⟨by rw[hd],hxd⟩
  have hd:W5 (n+1) x=x.kids.all (W5 n):=by
   rw[W5,if_neg h1',if_neg h2,if_neg h3,if_neg (fun h=>by rcases h with h|h<;>simp_all)]
  have hkl:x.kids.length≤2:=by
   have:(x.kids.length:Int)=as8 x.op:=by simpa using h1
   unfold as8 at this;split at this
   ·omega
   ·split at this
    ·omega
    ·split at this<;>omega
  simp only[n3,n8,simprocAttr,l1,d2,d3,h4,h5,hS,hl];refine n7 [1,49,50] (σ:=Nat) (fun k f w'=>f 51 = .int .i64 k∧k≤x.kids.length∧(x.kids.take k).all (W5 n)=true∧o6 w1 w') (fun k=>x.kids.length-k) 0 (by decide +kernel) ?_ ?_
  ·simp only[p7,simprocAttr];exact⟨by trivial,ex6 _,by simp,o6.drew _⟩
  ·rintro k f w3 hkp ⟨h51,hkk,hall,hx3⟩;simp only[ew6,p7,↓reduceIte,Nat.reduceEqDiff]at hkp;obtain⟨g1,g49,g50,_⟩:=hkp;simp only[n3,n8,simprocAttr,h51,g50];refine i5 (fun hc=>?_) (fun hc=>?_)
   ·have hlt:k<x.kids.length:=by simpa using hc
    have hin:=hk.inS hlt;obtain⟨sv,hsv,hld⟩:=F4 (P:=prog) (t:=41) hk (b7 hx3) (ew4 hlt) bl8 bm5 bm1 ao9;rw[ao9]at hld;have htk:=aE5 (W5 n) x.kids k hlt;have hmem:=ex8 hlt;generalize x.kids[k]=y at hsv htk hmem;obtain⟨b,wz,w4,hal,hst,hx4,hat⟩:=cV2 (hsv.mono (b7 hx3)) (i4 _);obtain⟨sy,hsy,ly,_⟩:=hat.ex_v;have l4:=ly w4 (i4 _);have hsub:IntKind.i64.wrap (((n+1:Nat):Int)-1)=(n:Int):=by rw[K1 _ (by omega)];omega
    simp only[n3,n8,v8,simprocAttr,h51,g49,g1,hin,hld,hal,hst,l4,hsub];refine z6 de3 (bF2 n sy y w4 (by omega) hsy) ?_;rintro u w5 ⟨rfl,hx5⟩;cases hdy:W5 n y
    ·simp only[n3,n8,simprocAttr];refine n9 results237 ?_;simp only[p7,simprocAttr];exact⟨by rw[hd,av1 hmem hdy],hx.trans (hx3.trans (hx4.trans hx5))⟩
    ·simp only[n3,n8,simprocAttr,h51];exact⟨k+1,by omega,by rw[B2 k (by omega)],by omega,by rw[htk,hall,hdy];rfl,hx3.trans (hx4.trans hx5)⟩
   ·have hge:k=x.kids.length:=by simp at hc;omega
    subst hge;simp only[n3,simprocAttr];refine n9 results237 ?_;simp only[p7,simprocAttr];rw[ex5]at hall;exact⟨by rw[hd,hall],hx.trans hx3⟩
theorem aX3(v:Value)(x:Ex)(w:World)(hv:SV (d7 w) v x):Calls prog 190 #[v] w fun e w'=>∃u,e = .returned u∧(u = .bool (W5 20 x)∧o6 w w'):=by
 refine d9 (args:=[v]) hm func190 rfl (by kernel_rfl) (by show 1≤_;decide +kernel) ?_;obtain⟨a,w1,hb,hx,ha⟩:=aE6 hv (i4 _);obtain⟨sy,hsy,ly,_⟩:=ha.ex_v;have l1:=ly w1 (i4 _);simp only[n3,n8,simprocAttr,hb,l1];refine z6 de3 (bF2 20 sy x w1 (by omega) hsy) ?_;rintro u w2 ⟨rfl,hx2⟩;simp only[n3,simprocAttr];refine n9 results190 ?_;simp only[p7,simprocAttr];exact⟨by trivial,hx.trans hx2⟩
theorem aU8(s:A6)(b:Bool)(w:World):Calls prog 249 #[o7 s,.bool b] w fun e w'=>∃u,e = .returned u∧(u = .bool (X5 s b)∧w'=w):=by
 refine d9 (args:=[o7 s,.bool b]) hm func249 rfl (by kernel_rfl) (by show 2≤_;decide +kernel) ?_;cases b
 ·simp only[n3,n8,simprocAttr];refine n9 results249 ?_;simp only[p7,simprocAttr];exact⟨by simp[X5],by trivial⟩
 ·simp only[n3,n8,simprocAttr];refine z6 bz2 (aA3 s _) ?_;rintro u w1 ⟨rfl,rfl⟩;cases hn:Y4 s
  ·simp only[n3,n8,simprocAttr];refine n9 results249 ?_;simp only[p7,simprocAttr];exact⟨by simp[X5,hn],by trivial⟩
  ·simp only[n3,simprocAttr];refine n9 results249 ?_;simp only[p7,simprocAttr];exact⟨by simp[X5,hn],by trivial⟩
theorem bw2(v:Value)(x:Ex)(b:Bool)(w:World)(hv:SV (d7 w) v x):Calls prog 250 #[v,.bool b] w fun e w'=>∃u,e = .returned u∧(u = .bool (af5 x b)∧o6 w w'):=by
 refine d9 (args:=[v,.bool b]) hm func250 rfl (by kernel_rfl) (by show 2≤_;decide +kernel) ?_;obtain⟨a,w1,hb,hx,ha⟩:=aE6 hv (i4 _);obtain⟨sy,hsy,ly,_⟩:=ha.ex_v;have l1:=ly w1 (i4 _);cases b
 ·simp only[n3,n8,simprocAttr,hb,l1];refine z6 ek2 (cA5 sy x _ hsy) ?_;rintro u w2 ⟨rfl,hx2⟩;simp only[n3,simprocAttr];refine n9 results250 ?_;simp only[p7,simprocAttr];exact⟨by simp[af5],hx.trans hx2⟩
 ·simp only[n3,n8,simprocAttr,hb,l1];refine z6 dd6 (aX3 sy x _ hsy) ?_;rintro u w2 ⟨rfl,hx2⟩;cases hn:W5 20 x
  ·simp only[n3,n8,simprocAttr];refine n9 results250 ?_;simp only[p7,simprocAttr];exact⟨by simp[af5,hn],hx.trans hx2⟩
  ·simp only[n3,simprocAttr];refine n9 results250 ?_;simp only[p7,simprocAttr];exact⟨by simp[af5,hn],hx.trans hx2⟩
theorem bS7(v:Value)(l:List Ar)(w:World)(hv:R (d7 w) v l)(hl:l.length≤1000000):Calls prog 251 #[v] w fun e w'=>∃u,e = .returned u∧(u = .bool (aO1 l)∧o6 w w'):=by
 refine d9 (args:=[v]) hm func251 rfl (by kernel_rfl) (by show 1≤_;decide +kernel) ?_;have hS:=hv.isS;have hn:=hv.vlen;simp only[n3,n8,simprocAttr,hS,hn];refine n7 [5,6] (σ:=Nat) (fun k f w'=>f 7 = .int .i64 k∧k≤l.length∧(l.take k).all (fun a=>X5 a.name a.ref&&af5 a.x (!a.ref))=true∧o6 w w') (fun k=>l.length-k) 0 (by decide +kernel) ?_ ?_
 ·simp only[p7,simprocAttr];exact⟨by trivial,ex6 _,by simp,o9.refl _⟩
 ·rintro k f w1 hk ⟨h7,hkl,hall,hx1⟩;simp only[ew6,p7,simprocAttr]at hk;obtain⟨e5,e6,_⟩:=hk;simp only[n3,n8,simprocAttr,h7,e6];refine i5 (fun hc=>?_) (fun hc=>?_)
  ·have hlt:k<l.length:=by simpa using hc
   have hin:=hv.inS hlt;obtain⟨sv,hsv,hld⟩:=F4 (P:=prog) (t:=101) hv (b7 hx1) (ew4 hlt) ax8 ay0 ax9 T2;rw[T2]at hld;have htk:=aE5 (fun a:Ar=>X5 a.name a.ref&&af5 a.x (!a.ref)) l k hlt;have hmem:=ex8 hlt;generalize l[k]=y at hsv htk hmem;obtain⟨b,wz,w2,hal,hst,hx2,hat⟩:=aS0 (hsv.mono (b7 hx1)) (i4 _);obtain⟨hatx,ld,_⟩:=hat.ar;obtain⟨sx,hsx,lx,_⟩:=hatx.ex_v;have l2:=ld w2 (i4 _);have lx2:=lx w2 (i4 _);have hfalse:(X5 y.name y.ref&&af5 y.x (!y.ref))=false→aO1 l=false:=fun h=>av1 (p:=fun a:Ar=>X5 a.name a.ref&&af5 a.x (!a.ref)) hmem h;simp only[n3,n8,v8,simprocAttr,h7,e5,hin,hld,hal,hst,l2];refine z6 cx3 (aU8 y.name y.ref _) ?_;rintro u w3 ⟨rfl,rfl⟩;cases hnm:X5 y.name y.ref
   ·simp only[n3,n8,simprocAttr];refine n9 results251 ?_;simp only[p7,simprocAttr];exact⟨by rw[hfalse (by rw[hnm];rfl)],hx1.trans hx2⟩
   ·simp only[n3,n8,simprocAttr,l2,lx2];refine z6 de4 (bw2 sx y.x (!y.ref) _ hsx) ?_;rintro u w4 ⟨rfl,hx4⟩;cases hwo:af5 y.x (!y.ref)
    ·simp only[n3,n8,simprocAttr];refine n9 results251 ?_;simp only[p7,simprocAttr];exact⟨by rw[hfalse (by rw[hwo];simp)],hx1.trans (hx2.trans hx4)⟩
    ·simp only[n3,n8,simprocAttr,h7];exact⟨k+1,by omega,by rw[B2 k (by omega)],by omega,by rw[htk,hall,hnm,hwo];rfl,hx1.trans (hx2.trans hx4)⟩
  ·have hge:k=l.length:=by simp at hc;omega
   subst hge;simp only[n3,simprocAttr];refine n9 results251 ?_;simp only[p7,simprocAttr];rw[ex5]at hall;exact⟨by rw[aO1,hall],hx1⟩
def dZ4:=zJ (zJ (zJ (zJ (zJ (zJ @ea2 @dZ5) (zJ @dC4 (zJ @dZ8 @dZ9))) (zJ (zJ @dZ6 @dZ7) (zJ @ed7 (zJ @ed3 @dL4)))) (zJ (zJ (zJ @ed4 @ed5) (zJ @dD5 (zJ @dB1 @dD6))) (zJ (zJ @dD7 @ec1) (zJ @ec0 (zJ @ea5 @ed9))))) (zJ (zJ (zJ (zJ @eq7 @dC2) (zJ @ec9 (zJ @dC3 @ed0))) (zJ (zJ @em1 @eu5) (zJ @cP2 (zJ @dJ0 @cP3)))) (zJ (zJ (zJ @dJ1 @dJ2) (zJ @df7 (zJ @cY7 @cY6))) (zJ (zJ @dI9 @em3) (zJ @em2 (zJ @df6 @em5)))))) (zJ (zJ (zJ (zJ (zJ @em4 @ec8) (zJ @cK0 (zJ @dH9 @el6))) (zJ (zJ @cP0 @dC1) (zJ @df4 (zJ @el1 @el7)))) (zJ (zJ (zJ @dC0 @ec7) (zJ @dI2 (zJ @ec6 @ev.eq_1))) (zJ (zJ @ev.eq_2 @ev.eq_3) (zJ @ev.eq_4 (zJ @A7.eq_1 @A7.eq_2))))) (zJ (zJ (zJ (zJ @eq6 @el8) (zJ @em7 (zJ @em8 @List.map_cons.{0,0}))) (zJ (zJ @List.map_nil.{0,0} @List.map_toArray.{0,0}) (zJ @bP4.eq_1 (zJ @bP4.eq_2 @dc5)))) (zJ (zJ (zJ @eb7 @eb8) (zJ @cv8.eq_1 (zJ @List.getElem?_toArray.{0} @List.getElem?_cons_zero.{0}))) (zJ (zJ @List.getElem?_cons_succ.{0} @Option.bind_some.{0,0}) (zJ @Option.some.injEq.{0} (zJ @eD3 @Bool.true_eq_false))))))
theorem dd7:ag0 prog 191=true:=by kernel_rfl
theorem bS0(x:Ex)(out:List A6):af9 x out=ak1 x.kids (if x.op=2∧out.contains x.name=false then out++[x.name]else out):=by
 cases x;simp only[af9,Ex.kids,Ex.op,Ex.name];rfl
mutual
theorem aC2:∀(x:Ex) (out:List A6),(af9 x out).length≤out.length+R0 x
 | .mk op n name kids,out=>by
  have h:=aY9 kids (if op=2∧out.contains name=false then out++[name]else out);have h2:(if op=2∧out.contains name=false then out++[name]else out).length≤out.length+1:=by
   split
   ·simp
   ·omega
  simp only[af9,R0,wtT];omega
theorem aY9:∀(l:List Ex) (out:List A6),(ak1 l out).length≤out.length+ap2 l
 | [],out=>by simp[ak1,ap2]
 | x::l,out=>by
  have h1:=aC2 x out;have h2:=aY9 l (af9 x out);simp only[ak1,ap2];omega
end
theorem bS1:∀(m:Nat) (x:Ex) (v vo:Value) (out:List A6) (h:Hp) (w:World),R0 x≤m→SV h v x→B4 h (d7 w)→A9 h w 9 vo out→out.length+R0 x≤1000000 →
  Calls prog 191 #[v,vo] w fun e w'=>∃u,e = .returned u∧(A9 h w' 9 u (af9 x out)∧o9 (A4 vo) w w'∧E0 w vo u):=by
 intro m
 induction m using Nat.strongRecOn with
 | ind m ih=>
 intro x v vo out h w hsm hv hh ho hl;refine d9 (args:=[v,vo]) hm func191 rfl (by kernel_rfl) (by show 2≤_;decide +kernel) ?_;have hwx:=bD1 x;obtain⟨a,w1,hbx,hx1,ha⟩:=bd0 (w:=w) (A4 vo) hv (fun b hb=>ho.lt hb);obtain⟨vk,hk,ld,_⟩:=I4.ex hv ha;have l1:=ld w1 (B3 _ _);have ho1:=ho.ext hx1;have hh1:=p6 hh (b7 hx1);have hSk:=hk.isS;have hnk:=hk.vlen;have hkl:=bw4 x.kids;rw[bd9];simp only[dZ4,n8,simprocAttr,hbx];refine dE8 [2] (fun f2 w2=>∃u,f2 1=u∧A9 h w2 9 u (if x.op=2∧out.contains x.name=false then out++[x.name]else out)∧o9 (A4 vo) w1 w2∧E0 w1 vo u) (by decide +kernel) ?_ ?_
 ·by_cases h1:x.op=2
  ·have d1:decide (x.op=2)=true:=by simp[h1]
   simp only[n3,n8,simprocAttr,l1,d1];refine D1 ab7 (N5 vo out x.name w1 (ho1.rw_ hh1) (by omega)) ?_;cases h2:out.contains x.name
   ·obtain⟨p1,u',w2,p2,p3,p4,p5⟩:=push (e:=22) ar1 rfl ho1 (x:=o7 x.name) (y:=x.name) rfl (by omega) (by omega) hh1;simp only[n3,n8,simprocAttr,l1,p1,p2];exact⟨u',by trivial,by rw[if_pos ⟨h1,by trivial⟩];exact p3,p4,p5⟩
   ·simp only[n3,n8,simprocAttr];exact⟨vo,by trivial,by rw[if_neg (by rintro⟨_,h⟩;cases h)];exact ho1,o9.refl _,fun b hb=>.inl hb⟩
  ·have d1:decide (x.op=2)=false:=by simp[h1]
   simp only[n3,n8,simprocAttr,l1,d1];exact⟨vo,by trivial,by rw[if_neg (fun h=>h1 h.1)];exact ho1,o9.refl _,fun b hb=>.inl hb⟩
 ·rintro f2 w2 hkp ⟨u0,g1,ho2,hm2,hmv2⟩;simp only[ew6,p7,↓reduceIte,Nat.reduceEqDiff]at hkp;obtain⟨g2,_⟩:=hkp;have hlen0:(if x.op=2∧out.contains x.name=false then out++[x.name]else out).length≤out.length+1:=by
   split
   ·simp
   ·omega
  have hgF:=bS0 x out;generalize(if x.op=2∧out.contains x.name=false then out++[x.name]else out)=o0 at ho2 hlen0 hgF;have l2:=ld w2 (C9 hm2);have hwn:1≤wtT x.name:=by simp[wtT]
  simp only[n3,n8,simprocAttr,g2,l2,hSk,hnk];refine n7 [23,24] (σ:=Nat×Value×List A6) (fun s f w'=>f 25 = .int .i64 s.1∧f 1=s.2.1∧s.1≤x.kids.length∧A9 h w' 9 s.2.1 s.2.2∧o9 (A4 vo) w1 w'∧E0 w1 vo s.2.1∧ak1 x.kids o0=ak1 (x.kids.drop s.1) s.2.2∧s.2.2.length+ap2 (x.kids.drop s.1)≤1000000) (fun s=>x.kids.length-s.1) (0,u0,o0) (by decide +kernel) ?_ ?_
  ·simp only[p7,simprocAttr];exact⟨by trivial,by simpa using g1,ex6 _,ho2,hm2,hmv2,by simp,by simp;omega⟩
  ·rintro⟨k,u,o⟩ f w3 hkq ⟨h25,h1,hkl',ho3,hm3,hmv3,hg3,hlen3⟩;simp only at h25 h1 hkl' ho3 hmv3 hg3 hlen3;simp only[ew6,p7,↓reduceIte,Nat.reduceEqDiff]at hkq;obtain⟨g23,g24,_⟩:=hkq;simp only[n3,n8,simprocAttr,h25,g24];refine i5 (fun hc=>?_) (fun hc=>?_)
   ·have hlt:k<x.kids.length:=by simpa using hc
    have hin:=hk.inS hlt;have hh3:B4 h (d7 w3):=I0 hh1 hm3 fun b hb=>ho.free hb;obtain⟨sv,hsv,hld⟩:=F4 (P:=prog) (t:=41) hk hh3 (ew4 hlt) bl8 bm5 bm1 ao9;rw[ao9]at hld;have hdrop:x.kids.drop k=x.kids[k]::x.kids.drop (k+1):=eA2 hlt;have hwm:=aX1 (ex8 hlt);generalize x.kids[k]=y at hsv hdrop hwm;rw[hdrop,ak1]at hg3;rw[hdrop,ap2]at hlen3;have hgl:=aC2 y o;obtain⟨b,wz,w4,hal,hst,hx4,hat⟩:=cV6 (w:=w3) (A4 u) hsv (fun b hb=>ho3.lt hb);obtain⟨lw,_⟩:=I4.ex_v hsv hat;have l4:=lw w4 (B3 _ _);simp only[n3,n8,v8,simprocAttr,h25,h1,g23,hin,hld,hal,hst,l4];refine z6 dd7 (ih (R0 y) (by omega) y sv u o h w4 (ex9 _) hsv (p6 hh3 (b7 hx4)) (ho3.ext hx4) (by omega)) ?_;rintro u' w5 ⟨ho5,hm5,hmv5⟩;simp only[n3,n8,simprocAttr,h25];have hm15:o9 (A4 vo) w1 w5:=(hm3.trans (o9.up hx4)).chain hm5 fun i hi hb=>by
     rcases hmv3 i hb with hb|hb
     ·exact hb
     ·omega
    refine⟨(k+1,u',af9 y o),by simp only[];omega,by simp only[];rw[B2 k (by omega)],by trivial,by simp only[];omega,ho5,hm15,fun b hb=>?_,hg3,by simp only[];omega⟩;rcases hmv5 b hb with hb|hb
    ·exact hmv3 b hb
    ·have:=(hm3.trans (o9.up (M:=A4 vo) hx4)).size;exact .inr (by omega)
   ·have hge:k=x.kids.length:=by simp at hc;omega
    subst hge;simp only[n3,simprocAttr,h1];refine n9 results191 ?_;simp only[p7,simprocAttr];rw[eF5]at hg3;have hgo:af9 x out=o:=by rw[hgF,hg3];rfl
    exact⟨by rw[hgo];exact ho3,(o9.up hx1).trans hm3,fun b hb=>(hmv3 b hb).imp id fun h=>ex3 hx1.size h⟩
theorem am2(v:Value)(x:Ex)(w:World)(hv:SV (d7 w) v x)(hl:R0 x≤1000000):Calls prog 129 #[v] w fun e w'=>∃u,e = .returned u∧(A9 (d7 w) w' 9 u (Z7 x)∧o6 w w'):=by
 refine d9 (args:=[v]) hm func129 rfl (by kernel_rfl) (by show 1≤_;decide +kernel) ?_;obtain⟨a,w1,hbx,hx1,ha⟩:=bd0 (w:=w) (fun _=>False) hv (fun _ h=>h.elim);obtain⟨lw,_⟩:=I4.ex_v hv ha;have l1:=lw w1 (B3 _ _);simp only[n3,n8,simprocAttr,hbx,l1];refine B7 dd6 (aX3 v x w1 (hv.mono (b7 hx1))) (fun w2 hx2=>?_);cases hd:W5 20 x
 ·simp only[n3,n8,simprocAttr];refine n9 results129 ?_;simp only[p7,simprocAttr];exact⟨by rw[Z7,hd];exact A9.nil _ _ _,hx1.trans hx2⟩
 ·have l2:=lw w2 (p6 (B3 _ _) (b7 hx2));have hx12:=hx1.trans hx2;simp only[n3,n8,simprocAttr,l2];refine z6 dd7 (bS1 _ x v (.slice none 0 0) [] (d7 w) w2 (ex9 _) hv (b7 hx12) (A9.nil _ _ _) (by simpa using hl)) ?_;rintro u w3 ⟨ho,hm3,hmv⟩;simp only[n3,simprocAttr];refine n9 results129 ?_;simp only[p7,simprocAttr];exact⟨by rw[Z7,hd];exact ho,o9.ext_of hx12 hm3 fun b hb=>absurd hb D0⟩
def eG2:=@List.flatMap_append
def eF7:=@List.flatMap_cons
def eI8:=@List.take_succ_cons
theorem bz1:ag0 prog 129=true:=by kernel_rfl
theorem Z8(x:Ex):(Z7 x).length≤R0 x:=by
 unfold Z7;split
 ·have:=aC2 x [];simpa using this
 ·simp
theorem bx2(a:Ar):(J2 a).length≤ai3 a:=by
 have:=Z8 a.x;unfold J2 ai3 wtT;split<;>simp<;>omega
theorem J0{α β:Type}(g:α→List β)(l:List α){k:Nat}(hk:k<l.length):(l.take (k+1)).flatMap g=(l.take k).flatMap g++g l[k]:=by
 rw[ex2 hk,eG2];simp
theorem L8:∀(l:List Ar),(l.flatMap J2).length≤Y7 l
 | []=>by simp
 | a::l=>by
  have h1:=L8 l;have h2:=bx2 a;simp only[eF7,ew7,Y7];omega
theorem ap1:∀(l:List Ar) (k:Nat),Y7 (l.take k)≤Y7 l
 | [],k=>by simp
 | a::l,0=>by simp[Y7]
 | a::l,k+1=>by have:=ap1 l k;simp only[eI8,Y7];omega
theorem ba6(v:Value)(t:St)(w:World)(hv:SV (d7 w) v t)(hl:O0 t≤1000000):Calls prog 212 #[v] w fun e w'=>∃u,e = .returned u∧(A9 (d7 w) w' 9 u (K8 t)∧o6 w w'):=by
 refine d9 (args:=[v]) hm func212 rfl (by kernel_rfl) (by show 1≤_;decide +kernel) ?_;rw[P4]at hl;obtain⟨a,w1,hbx,hx1,ha⟩:=ca0 (w:=w) (fun _=>False) hv (fun _ h=>h.elim);obtain⟨vl,ux,va,vt,ve,_,hux,hatx,hva,_,_,ld,_⟩:=I4.st hv ha;have hle1:∀w',o6 w1 w'→B4 (B8 w1 fun _=>False) (d7 w'):=fun w' h=>p6 (B3 _ _) (b7 h);have l1:=ld w1 (hle1 _ (o9.refl _));have hnl:=Z8 t.x;rw[bd9];simp only[dZ4,n8,simprocAttr,hbx];rw[bd9];simp only[dZ4,simprocAttr];refine dE8 [1] (fun f2 w2=>∃u,f2 3=u∧A9 (d7 w1) w2 9 u (if t.kind≠10∧t.name≠e0 then[t.name]else[])∧o6 w1 w2) (by decide +kernel) ?_ ?_
 ·by_cases h1:t.kind=10
  ·have d1:decide (t.kind=10)=true:=by simp[h1]
   simp only[n3,n8,simprocAttr,l1,d1];exact⟨_,by trivial,by rw[if_neg (fun h=>h.1 h1)];exact A9.nil _ _ _,o9.refl _⟩
  ·have d1:decide (t.kind=10)=false:=by simp[h1]
   by_cases h2:t.name=e0
   ·have d2:decide (t.name=e0)=true:=by simp[h2]
    simp only[n3,n8,simprocAttr,l1,d1,d2];exact⟨_,by trivial,by rw[if_neg (fun h=>h.2 h2)];exact A9.nil _ _ _,o9.refl _⟩
   ·have d2:decide (t.name=e0)=false:=by simp[h2]
    obtain⟨p1,u',w2,p2,p3,p4,p5⟩:=push (e:=22) ar1 rfl (A9.nil (d7 w1) w1 9) (x:=o7 t.name) (y:=t.name) rfl (by simp) (by simp) (i4 _);simp only[n3,n8,simprocAttr,l1,d1,d2,p1,p2];exact⟨u',by trivial,by rw[if_pos ⟨h1,h2⟩];exact p3,o9.ext_of (o9.refl _) p4 fun b hb=>absurd hb D0⟩
 ·rintro f2 w2 hkp ⟨u0,g3,ho2,hx2⟩;simp only[ew6,p7,↓reduceIte,Nat.reduceEqDiff]at hkp;obtain⟨g1,_⟩:=hkp;have hst:K8 t=(if t.kind≠10∧t.name≠e0 then[t.name]else[])++Z7 t.x++t.args.flatMap J2:=rfl;have hlen0:(if t.kind≠10∧t.name≠e0 then[t.name]else[]).length≤1:=by split<;>simp
  generalize(if t.kind≠10∧t.name≠e0 then[t.name]else[])=o0 at ho2 hlen0 hst;obtain⟨lwx,_⟩:=I4.ex_v hux hatx;have lx2:=lwx w2 (hle1 _ hx2);have hx02:=hx1.trans hx2;simp only[n3,n8,simprocAttr,g1,g3,lx2];refine z6 bz1 (am2 ux t.x w2 (hux.mono (b7 hx02)) (by omega)) ?_;rintro u3 w3 ⟨ho3,hx3⟩;have hwt1:1≤wtT t.name∧1≤wtT t.proc:=by simp[wtT]
  obtain⟨u4,w4,a1,a2,a3,a4⟩:=ah4 (P:=prog) (e:=22) ar1 (ho2.ext hx3) (ho3.rw_ (b7 hx3)) (i4 _) (by omega) (by omega) (b7 (hx2.trans hx3));have hx14:o6 w1 w4:=o9.ext_of (hx2.trans hx3) a3 fun b hb=>C5 ((ho2.ext hx3).free hb);have l4:=ld w4 (hle1 _ hx14);have hSa:=hva.isS;have hna:=hva.vlen;have hal:=al9 t.args;simp only[n3,n8,simprocAttr,g1,a1,l4,hSa,hna];refine n7 [25,26] (σ:=Nat×Value) (fun s f w'=>f 27 = .int .i64 s.1∧f 3=s.2∧s.1≤t.args.length∧A9 (d7 w1) w' 9 s.2 (o0++Z7 t.x++(t.args.take s.1).flatMap J2)∧o6 w1 w') (fun s=>t.args.length-s.1) (0,u4) (by decide +kernel) ?_ ?_
  ·simp only[p7,simprocAttr];exact⟨by trivial,by trivial,ex6 _,by simpa using a2,hx14⟩
  ·rintro⟨k,u⟩ f w5 hkq ⟨h27,h3,hkl,ho5,hx5⟩;simp only at h27 h3 hkl ho5;simp only[ew6,p7,↓reduceIte,Nat.reduceEqDiff]at hkq;obtain⟨g25,g26,_⟩:=hkq;simp only[n3,n8,simprocAttr,h27,g26];refine i5 (fun hc=>?_) (fun hc=>?_)
   ·have hlt:k<t.args.length:=by simpa using hc
    have hin:=hva.inS hlt;have hx05:=hx1.trans hx5;obtain⟨sv,hsv,hld⟩:=F4 (P:=prog) (t:=101) hva (b7 hx05) (ew4 hlt) ax8 ay0 ax9 T2;rw[T2]at hld;have htk:=J0 J2 t.args hlt;have hwm:=aH1 (ex8 hlt);have hpre:((t.args.take k).flatMap J2).length≤Y7 t.args:=ex3 (L8 _) (ap1 _ _);have hpre2:((t.args.take (k+1)).flatMap J2).length≤Y7 t.args:=ex3 (L8 _) (ap1 _ _);rw[htk]at hpre2;generalize t.args[k]=y at hsv htk hwm hpre2;have hany:J2 y=(if y.ref then[y.name]else[])++Z7 y.x:=rfl;rw[hany]at hpre2;simp only[ew7]at hpre2;obtain⟨b,wz,w6,hal6,hst6,hx6,hat⟩:=cf7 (w:=w5) (A4 u) hsv (fun b hb=>ho5.lt hb);obtain⟨uy,huy,hatyx,ldy,_⟩:=I4.ar hsv hat;obtain⟨lwy,_⟩:=I4.ex_v huy hatyx;have ho6:=ho5.ext hx6;have hx16:=hx5.trans hx6;have l6:=ldy w6 (B3 _ _);simp only[n3,n8,v8,simprocAttr,h27,g25,hin,hld,hal6,hst6,l6];generalize hK:CW prog _ (S9 1 (W8 _ _))=K;have key:∀(u7:Value) (f7:Fr) (w7:World),f7 3=u7→f7 5 = .pointer (some b)→f7 27 = .int .i64 k→A9 (d7 w1) w7 9 u7 (o0++Z7 t.x++(t.args.take k).flatMap J2++(if y.ref then[y.name]else[]))→o9 (A4 u) w6 w7→K f7 w7:=by
     intro u7 f7 w7 q3 q5 q27 ho7 hm7;have hx17:o6 w1 w7:=o9.ext_of hx16 hm7 fun b hb=>C5 (ho6.free hb);have ly7:=lwy w7 (C9 hm7);rw[←hK];simp only[n3,n8,simprocAttr,q3,q5,ly7];refine z6 bz1 (am2 uy y.x w7 (huy.mono (b7 (hx1.trans hx17))) (by unfold ai3 at hwm;omega)) ?_;rintro u8 w8 ⟨ho8,hx8⟩;obtain⟨u9,w9,c1,c2,c3,c4⟩:=ah4 (P:=prog) (e:=22) ar1 (ho7.ext hx8) (ho8.rw_ (b7 hx8)) (i4 _) (by simp only[ew7];omega) (by simp only[ew7];omega) (b7 (hx17.trans hx8));have hx19:o6 w1 w9:=o9.ext_of (hx17.trans hx8) c3 fun b hb=>C5 ((ho7.ext hx8).free hb);simp only[n3,n8,simprocAttr,c1,q27];refine⟨(k+1,u9),by simp only[];omega,by simp only[];rw[B2 k (by omega)],by trivial,by simp only[];omega,?_,hx19⟩;simp only[];rw[htk,hany];simp only[ey6]at c2 ⊢;exact c2
    cases hr:y.ref
    ·simp only[n3,simprocAttr];refine key u _ _ ?_ ?_ ?_ (by rw[hr];simpa using ho6) (o9.refl _)<;>simp only[p7,↓reduceIte,Nat.reduceEqDiff,h3,h27]
    ·obtain⟨p1,u7,w7,p2,p3,p4,p5⟩:=push (e:=22) ar1 rfl ho6 (x:=o7 y.name) (y:=y.name) rfl (by simp only[ew7];omega) (by simp only[ew7];omega) (b7 hx16);simp only[n3,n8,simprocAttr,h3,l6,p1,p2];refine key u7 _ _ ?_ ?_ ?_ (by rw[hr];exact p3) p4<;>simp only[p7,↓reduceIte,Nat.reduceEqDiff,h27]
   ·have hge:k=t.args.length:=by simp at hc;omega
    subst hge;simp only[n3,simprocAttr,h3];refine n9 results212 ?_;simp only[p7,simprocAttr];rw[ex5]at ho5;exact⟨by rw[hst];exact ho5.back hx1,hx1.trans hx5⟩
theorem ej4:ag0 prog 251=true:=by kernel_rfl
theorem bR2(v:Value)(s:St)(w:World)(hv:SV (d7 w) v s)(hb:O0 s≤1000000):Calls prog 211 #[v] w fun e w'=>∃u,e = .returned u∧(u = .bool (aj9 s)∧o6 w w'):=by
 refine d9 (args:=[v]) hm func211 rfl (by kernel_rfl) (by show 1≤_;decide +kernel) ?_;obtain⟨a,w1,hbx,hx,ha⟩:=aj6 hv (i4 _);obtain⟨vl,va,vt,ve,hl,hra,ht,he,hatx,ld,sd⟩:=ha.st;have hxd:=hx.trans (o6.drew w1);have l1:=ld w1.drew (b7 (o6.drew w1));have s1:=sd (fun w2=>o6 w1.drew w2) w1.drew (o9.refl _) (fun w' h=>b7 ((o6.drew w1).trans h));simp only[n3,n8,simprocAttr,hbx];refine C2 (fun w2=>o6 w1.drew w2) 8 (B0 [0,1,2,3,4,5,6,7]) (by decide +kernel) (o9.refl _) ?_;simp only[D5,B0,n3,n8,simprocAttr,s1];simp only[n3,n8,simprocAttr,l1];generalize hK:CW prog _ (bn3 prog _ _)=K;have hS1:=hra.isS;have hn1:=hra.vlen;have hS2:=ht.isS;have hn2:=ht.vlen;have hS3:=he.isS;have hn3:=he.vlen;have c1:decide ((0:Int)<((s.args.length:Nat):Int))=decide (0<s.args.length):=eB0.2 (by omega);have c2:decide ((0:Int)<((s.thn.length:Nat):Int))=decide (0<s.thn.length):=eB0.2 (by omega);have c3:decide ((0:Int)<((s.els.length:Nat):Int))=decide (0<s.els.length):=eB0.2 (by omega);have tail:∀(k:Fl) (f:Fr),T5 s=some k→f 1 = .pointer (some a)→f 3 = .bool k.name→f 4 = .bool k.proc→f 5 = .bool k.x→f 6 = .bool k.has→f 7 = .bool k.thn→f 8 = .bool k.els→f 9 = .bool (decide (s.kind=4))→K f w1.drew:=by
  rintro⟨nm,pr,xx,hs,th,el⟩ f hk g1 g3 g4 g5 g6 g7 g8 g9;simp only at g3 g4 g5 g6 g7 g8;have hF:aj9 s=(!(hs||(!th&&decide (0<s.thn.length))||(!el&&decide (0<s.els.length))||(!decide (s.kind=4)&&decide (0<s.args.length))) &&
   X5 s.name nm&&X5 s.proc pr&&af5 s.x xx&&aO1 s.args):=by rw[aj9,hk]
  clear hk;generalize decide (s.kind=4)=ar at hF g9;rw[←hK,bd9];generalize hK2:CW prog _ (bn3 prog _ _)=K2;have tail2:∀(f:Fr),f 1 = .pointer (some a)→f 3 = .bool nm→f 4 = .bool pr→f 5 = .bool xx→(hs||(!th&&decide (0<s.thn.length))||(!el&&decide (0<s.els.length))||(!ar&&decide (0<s.args.length)))=false→K2 f w1.drew:=by
   intro f g1 g3 g4 g5 g70;rw[g70]at hF;rw[←hK2]
   ·simp only[n3,n8,simprocAttr,g1,g3,l1];refine z6 cx3 (aU8 s.name nm _) ?_;rintro u w3 ⟨rfl,rfl⟩;cases h1:X5 s.name nm
    ·simp only[n3,n8,simprocAttr];refine n9 results211 ?_;simp only[p7,simprocAttr];exact⟨by rw[hF,h1];rfl,hxd⟩
    simp only[n3,n8,simprocAttr,g1,g4,l1];refine z6 cx3 (aU8 s.proc pr _) ?_;rintro u w3 ⟨rfl,rfl⟩;cases h2:X5 s.proc pr
    ·simp only[n3,n8,simprocAttr];refine n9 results211 ?_;simp only[p7,simprocAttr];exact⟨by rw[hF,h1,h2];rfl,hxd⟩
    obtain⟨sx,hsx,lx,_⟩:=hatx.ex_v;have lx1:=lx w1.drew (b7 (o6.drew w1));simp only[n3,n8,simprocAttr,g1,g5,lx1];refine z6 de4 (bw2 sx s.x xx _ (hsx.mono (b7 (o6.drew w1)))) ?_;rintro u w3 ⟨rfl,hx3⟩;cases h3:af5 s.x xx
    ·simp only[n3,n8,simprocAttr];refine n9 results211 ?_;simp only[p7,simprocAttr];exact⟨by rw[hF,h1,h2,h3];rfl,hxd.trans hx3⟩
    have l3:=ld w3 (b7 ((o6.drew w1).trans hx3));simp only[n3,n8,simprocAttr,g1,l3];refine z6 ej4 (bS7 va s.args _ (A3.mono (b7 ((o6.drew w1).trans hx3)) hra) (by have:=al9 s.args;rw[P4]at hb;omega)) ?_;rintro u w4 ⟨rfl,hx4⟩;simp only[n3,simprocAttr];refine n9 results211 ?_;simp only[p7,simprocAttr];exact⟨by rw[hF,h1,h2,h3];simp,hxd.trans (hx3.trans hx4)⟩
  have bad:(hs||(!th&&decide (0<s.thn.length))||(!el&&decide (0<s.els.length))||(!ar&&decide (0<s.args.length)))=true→aj9 s=false:=fun h=>by rw[hF,h];rfl
  cases hs
  case true=>
   simp only[n3,simprocAttr,g6];refine n9 results211 ?_;simp only[p7,simprocAttr];exact⟨by rw[bad rfl],hxd⟩
  cases th<;>cases d2:decide (0<s.thn.length)<;>cases el<;>cases d3:decide (0<s.els.length)<;>cases ar<;>cases d1:decide (0<s.args.length) <;>
  ·rw[d1]at c1;rw[d2]at c2;rw[d3]at c3;simp only[n3,n8,simprocAttr,g1,g6,g7,g8,g9,l1,hS1,hn1,hS2,hn2,hS3,hn3,c1,c2,c3]
   first
   | refine tail2 _ ?_ ?_ ?_ ?_ (by rw[d1,d2,d3];rfl)<;>simp only[p7,↓reduceIte,Nat.reduceEqDiff,g1,g3,g4,g5]
   | refine n9 results211 ?_
     simp only[p7,simprocAttr];exact⟨by rw[bad (by rw[d1,d2,d3];rfl)],hxd⟩
 have n4:∀m:Int,m≠4→decide (s.kind=m)=true→decide (s.kind=4)=false:=fun m hm h=>by
  have:=ew8 h;exact eH5 (by omega)
 refine i5 (fun h1=>?_) (fun h1=>?_)
 ·have d4:=n4 1 (by omega) h1;have k1:=ew8 h1;simp only[n3,simprocAttr,d4];refine tail ⟨true,false,true,s.has,false,false⟩ _ (by rw[T5,if_pos k1]) ?_ ?_ ?_ ?_ ?_ ?_ ?_ ?_<;>simp only[p7,↓reduceIte,Nat.reduceEqDiff,d4]
 have k1:=ew9 h1;simp only[n3,n8,simprocAttr];refine i5 (fun h2=>?_) (fun h2=>?_)
 ·have d4:=n4 2 (by omega) h2;have k2:=ew8 h2;simp only[n3,simprocAttr,h2,d4];refine tail ⟨true,false,false,s.has,false,false⟩ _ (by rw[T5,if_neg k1,if_pos (.inl k2)]) ?_ ?_ ?_ ?_ ?_ ?_ ?_ ?_<;>simp only[p7,↓reduceIte,Nat.reduceEqDiff,d4]
 have k2:=ew9 h2;simp only[n3,n8,simprocAttr];refine i5 (fun h10=>?_) (fun h10=>?_)
 ·have d4:=n4 10 (by omega) h10;have k10:=ew8 h10;simp only[n3,simprocAttr,d4];refine tail ⟨true,false,false,s.has,false,false⟩ _ (by rw[T5,if_neg k1,if_pos (.inr k10)]) ?_ ?_ ?_ ?_ ?_ ?_ ?_ ?_<;>simp only[p7,↓reduceIte,Nat.reduceEqDiff,d4]
 have k10:=ew9 h10;have n2:¬(s.kind=2∨s.kind=10):=by omega
 simp only[n3,n8,simprocAttr];refine i5 (fun h3=>?_) (fun h3=>?_)
 ·have d4:=n4 3 (by omega) h3;have k3:=ew8 h3;simp only[n3,simprocAttr,d4];refine tail ⟨false,false,true,s.has,false,false⟩ _ (by rw[T5,if_neg k1,if_neg n2,if_pos k3]) ?_ ?_ ?_ ?_ ?_ ?_ ?_ ?_<;>simp only[p7,↓reduceIte,Nat.reduceEqDiff,d4]
 have k3:=ew9 h3;simp only[n3,n8,simprocAttr];refine i5 (fun d4=>?_) (fun d4=>?_)
 ·have k4:=ew8 d4;simp only[n3,n8,simprocAttr,l1];refine tail ⟨decide (s.name≠e0),true,false,s.has,false,false⟩ _ (by rw[T5,if_neg k1,if_neg n2,if_neg k3,if_pos k4]) ?_ ?_ ?_ ?_ ?_ ?_ ?_ ?_<;>simp only[p7,↓reduceIte,Nat.reduceEqDiff,d4,decide_not]
 have k4:=ew9 d4;simp only[n3,n8,simprocAttr];refine i5 (fun h5=>?_) (fun h5=>?_)
 ·have k5:=ew8 h5;simp only[n3,simprocAttr];refine tail ⟨false,false,true,s.has,true,true⟩ _ (by rw[T5,if_neg k1,if_neg n2,if_neg k3,if_neg k4,if_pos k5]) ?_ ?_ ?_ ?_ ?_ ?_ ?_ ?_<;>simp only[p7,↓reduceIte,Nat.reduceEqDiff,d4]
 have k5:=ew9 h5;simp only[n3,n8,simprocAttr];refine i5 (fun h6=>?_) (fun h6=>?_)
 ·have k6:=ew8 h6;simp only[n3,simprocAttr];refine tail ⟨false,false,true,s.has,true,false⟩ _ (by rw[T5,if_neg k1,if_neg n2,if_neg k3,if_neg k4,if_neg k5,if_pos k6]) ?_ ?_ ?_ ?_ ?_ ?_ ?_ ?_<;>simp only[p7,↓reduceIte,Nat.reduceEqDiff,d4]
 have k6:=ew9 h6;simp only[n3,n8,simprocAttr];refine i5 (fun h9=>?_) (fun h9=>?_)
 ·have k9:=ew8 h9;simp only[n3,n8,simprocAttr,l1];refine tail ⟨false,false,s.has,false,false,false⟩ _ (by rw[T5,if_neg k1,if_neg n2,if_neg k3,if_neg k4,if_neg k5,if_neg k6,if_pos k9]) ?_ ?_ ?_ ?_ ?_ ?_ ?_ ?_<;>simp only[p7,↓reduceIte,Nat.reduceEqDiff,d4]
 have k9:=ew9 h9;simp only[n3,n8,simprocAttr];refine i5 (fun h7=>?_) (fun h7=>?_)
 ·have k7:=ew8 h7;simp only[n3,simprocAttr,h7];refine tail ⟨false,false,false,s.has,false,false⟩ _ (by rw[T5,if_neg k1,if_neg n2,if_neg k3,if_neg k4,if_neg k5,if_neg k6,if_neg k9,if_pos (.inl k7)]) ?_ ?_ ?_ ?_ ?_ ?_ ?_ ?_<;>simp only[p7,↓reduceIte,Nat.reduceEqDiff,d4]
 have k7:=ew9 h7;simp only[n3,n8,simprocAttr];refine i5 (fun h8=>?_) (fun h8=>?_)
 ·have k8:=ew8 h8;simp only[n3,simprocAttr];refine tail ⟨false,false,false,s.has,false,false⟩ _ (by rw[T5,if_neg k1,if_neg n2,if_neg k3,if_neg k4,if_neg k5,if_neg k6,if_neg k9,if_pos (.inr k8)]) ?_ ?_ ?_ ?_ ?_ ?_ ?_ ?_<;>simp only[p7,↓reduceIte,Nat.reduceEqDiff,d4]
 have k8:=ew9 h8;simp only[n3,simprocAttr];refine n9 results211 ?_;simp only[p7,simprocAttr];exact⟨by rw[aj9,show T5 s=none by rw[T5,if_neg k1,if_neg n2,if_neg k3,if_neg k4,if_neg k5,if_neg k6,if_neg k9,if_neg (by omega)]],hxd⟩
def eJ6:=@decide_eq_false_iff_not
theorem bS9:ag0 prog 141=true:=by kernel_rfl
theorem cw9:ag0 prog 143=true:=by kernel_rfl
theorem ei1:ag0 prog 211=true:=by kernel_rfl
def au0(d:Nat)(n:Int)(s:St):Option Int:=if n+1>200∨s.id≠n+1∨ae5 s.labels=false∨aj9 s=false then none else(I3 d s.thn (n+1)).bind fun m=>I3 d s.els m
theorem aL0(d:Nat)(l:List St)(n:Int):I3 (d+1) l n=l.foldlM (au0 d) n:=rfl
theorem aY8{α β:Type}(g:β→α→Option β)(l:List α)(n:β){k:Nat}(hk:k<l.length){m:β}(h:(l.take k).foldlM g n=some m):(l.take (k+1)).foldlM g n=g m l[k]:=by
 rw[ex2 hk,List.foldlM_append,h];simp
theorem aY7{α β:Type}(g:β→α→Option β)(l:List α)(n:β){k:Nat}(hk:k<l.length){m:β}(h:(l.take k).foldlM g n=some m)(h2:g m l[k]=none):l.foldlM g n=none:=by
 conv=>lhs;rw[←ez9 k l,eA2 hk]
 rw[List.foldlM_append,h];show(do let s ←g m l[k];List.foldlM g s (l.drop (k+1)))=none;rw[h2];rfl
theorem aQ2:∀(d:Nat) (l:List St) (n m:Int),I3 d l n=some m→n≤m∧(n≤200→m≤200)
 | 0,l,n,m,h=>by
  unfold I3 at h;split at h
  ·simp only[eH7]at h;subst h;exact⟨Int.le_refl _,fun h=>h⟩
  ·cases h
 | d+1,l,n,m,h=>by
  rw[aL0]at h
  induction l generalizing n with
  | nil=>simp only[List.foldlM_nil]at h;cases h;exact⟨Int.le_refl _,fun h=>h⟩
  | cons s l ih=>
   rw[List.foldlM_cons]at h;cases hs:au0 d n s with
   | none=>rw[hs]at h;cases h
   | some n1=>
    rw[hs]at h;have h1:=ih n1 h;unfold au0 at hs;split at hs
    ·cases hs
    ·rename_i hc;cases ht:I3 d s.thn (n+1)with
     | none=>rw[ht]at hs;cases hs
     | some n2=>
      rw[ht]at hs;have h2:=aQ2 d _ _ _ ht;have h3:=aQ2 d _ _ _ hs;omega
theorem bj9:∀(d:Nat) (l:List St) (n:Int) (v:Value) (h:Hp) (gb:Nat) (w:World),d≤12→B4 h (d7 w)→h gb=none→w.heap[gb]?=some (.cells #[.int .i64 n] 197 (0,0))→R h v l→G5 l≤1000000→0≤n→n≤200 →
  Calls prog 143 #[.pointer (some ⟨gb,0,none⟩),v,.int .i64 (13-(d:Int))] w fun e w'=>∃u,e = .returned u∧(u = .bool (I3 d l n).isSome∧(∀m,I3 d l n=some m→w'.heap[gb]?=some (.cells #[.int .i64 m] 197 (0,0)))∧o9 (fun b=>b=gb) w w')
 | 0,l,n,v,h,gb,w,_,hh,hgb,hcell,hv,_,_,_=>by
  generalize hN:(13:Int)-((0:Nat):Int)=N;refine d9 (args:=[.pointer (some ⟨gb,0,none⟩),v,.int .i64 N]) hm func143 rfl (by kernel_rfl) (by show 3≤_;decide +kernel) ?_;have hS:=hv.isS;have hn:=hv.vlen;have d0:decide ((12:Int)<N)=true:=by subst hN;decide
  have c0:decide ((0:Int)<((l.length:Nat):Int))=decide (0<l.length):=eB0.2 (by omega);cases hl:decide (0<l.length)
  ·have hl0:l.length=0:=by simpa using hl
   have c1:decide ((0:Int)<((l.length:Nat):Int))=false:=c0.trans hl;simp only[n3,n8,simprocAttr,hS,hn,d0,c1];refine n7 [16,17] (σ:=Nat) (fun k f w'=>f 18 = .int .i64 0∧w'=w) (fun _=>0) 0 (by decide +kernel) ?_ ?_
   ·simp only[p7,simprocAttr];exact⟨by trivial,by trivial⟩
   ·rintro k f w' hk ⟨h18,rfl⟩;simp only[ew6,p7,simprocAttr]at hk;obtain⟨e16,e17,_⟩:=hk;simp only[n3,n8,simprocAttr,h18,e17,c1];refine n9 results143 ?_;simp only[p7,simprocAttr];have hF:I3 0 l n=some n:=by unfold I3;rw[if_pos hl0]
    exact⟨by rw[hF];rfl,fun m hm=>by rw[hF]at hm;cases hm;exact hcell,o9.refl _⟩
  ·have hl0:¬l.length=0:=by have:0<l.length:=by simpa using hl
                            omega
   simp only[n3,n8,simprocAttr,hS,hn,d0,c0,hl];refine n9 results143 ?_;simp only[p7,simprocAttr];have hF:I3 0 l n=none:=by unfold I3;rw[if_neg hl0]
   exact⟨by rw[hF];rfl,fun m hm=>(by rw[hF]at hm;cases hm),o9.refl _⟩
 | d+1,l,n,v,h,gb,w,hd,hh,hgb,hcell,hv,hwt,hn0,hn2=>by
  generalize hN:(13:Int)-((d+1:Nat):Int)=N;refine d9 (args:=[.pointer (some ⟨gb,0,none⟩),v,.int .i64 N]) hm func143 rfl (by kernel_rfl) (by show 3≤_;decide +kernel) ?_;have hS:=hv.isS;have hn:=hv.vlen;have d0:decide ((12:Int)<N)=false:=by simp;omega
  have hnest:IntKind.i64.wrap (N+1)=13-(d:Int):=by rw[K1 _ (by omega)];omega
  simp only[n3,n8,simprocAttr,hS,hn,d0];refine n7 [0,2,16,17] (σ:=Nat×Int) (fun s f w'=>f 18 = .int .i64 s.1∧s.1≤l.length∧(l.take s.1).foldlM (au0 d) n=some s.2∧0≤s.2∧s.2≤200∧w'.heap[gb]?=some (.cells #[.int .i64 s.2] 197 (0,0))∧o9 (fun b=>b=gb) w w') (fun s=>l.length-s.1) (0,n) (by decide +kernel) ?_ ?_
  ·simp only[p7,simprocAttr];exact⟨by trivial,ex6 _,by simp,hn0,hn2,hcell,o9.refl _⟩
  ·rintro⟨k,m⟩ f w1 hk ⟨h18,hkl,hfold,hm0,hm2,hc1,hx1⟩;simp only at h18 hkl hfold hm0 hm2 hc1;simp only[ew6,p7,simprocAttr]at hk;obtain⟨e0,e2,e16,e17,_⟩:=hk;simp only[n3,n8,simprocAttr,h18,e17];refine i5 (fun hc=>?_) (fun hc=>?_)
   ·have hlt:k<l.length:=by simpa using hc
    have hin:=hv.inS hlt;have hhw:B4 h (d7 w1):=I0 hh hx1 fun b hb=>by subst hb;exact hgb
    have hgl:gb<w1.heap.size:=(ex0.1 hc1).1;have hNl:∀b,b=gb→b<w1.heap.size:=fun b hb=>by subst hb;exact hgl
    obtain⟨sv,hsv,hld⟩:=F4 (P:=prog) (t:=45) hv hhw (ew4 hlt) aR4 aR7 aI9 W9;rw[W9]at hld;have hstep:=aY8 (au0 d) l n hlt hfold;have hnone:=aY7 (au0 d) l n hlt hfold;have hws:O0 l[k]≤1000000:=ex3 (af7 (ex8 hlt)) hwt;generalize l[k]=s at hsv hstep hnone hws;obtain⟨a,wz,w2,hal,hst,hx2,hat⟩:=dZ2 (P:=prog) (T:=45) (N:=fun b=>b=gb) hsv (cw1 hhw fun b hb=>by subst hb;exact hgb) hNl cf3 rfl W9;have hc2:w2.heap[gb]?=some (.cells #[.int .i64 m] 197 (0,0)):=(hx2.block gb hgl id).trans hc1;obtain⟨w3,hs3,hc3,hx3⟩:=ai0 (P:=prog) (t:=3) (i:=0) (x:=.int .i64 (m+1)) hc2 (by simp) rfl rfl (p9 ay2).choose_spec.1 (by rw[←C8 (p9 ay2).choose_spec.1];exact aR6);simp only[Array.setIfInBounds,eE9,ey7,eC7,ez8,Nat.lt_add_one,↓reduceDIte,List.set_toArray,List.set_cons_zero]at hc3;have hl2:=F0 (P:=prog) (t:=3) (i:=0) (u:=.int .i64 m) hc2 rfl F2;have hw1:IntKind.i64.wrap (m+1)=m+1:=K1 _ (by omega);have hx3d:=hx3.trans ((o6.drew w3).weaken (N:=fun b=>b=gb) fun _ _ h=>h.elim);have hno:B4 (B8 w2 fun b=>b=gb) (d7 w3.drew):=C9 hx3d;obtain⟨vl,va,vt,ve,hrl,hra,hrt,hre,hatx,ld,sd⟩:=hat.st;obtain⟨ss,hss,lss,sss⟩:=hat.st_v;have hstd:∀w',o6 w3.drew w'→B4 (B8 w2 fun b=>b=gb) (d7 w'):=fun w' h=>p6 hno (b7 h);have s3:=sd (fun w'=>o6 w3.drew w') w3.drew (o9.refl _) hstd;have s4:=sss (fun w'=>o6 w3.drew w') w3.drew (o9.refl _) hstd;have hl3:∀K f d w,B6 prog (fun w'=>o6 w3.drew w') (Instr.loadAt 3 (.pointer (some ⟨gb,0,none⟩))) K f d w=K (A7 f d (.int .i64 (m+1))) w:=fun K f d w=>A0 (w0:=w3.drew) (o9.refl _) fun w' hw'=>F0 (i:=0) ((hw'.block gb (ex0.1 hc3).1 id).trans hc3) rfl F2;have hend:o9 (fun b=>b=gb) w w3.drew:=hx1.trans ((hx2.weaken fun _ _ h=>h.elim).trans hx3d);simp only[n3,n8,v8,simprocAttr,h18,e0,e16,hin,hld,hal,hst,hl2,hw1,hs3];refine C2 (fun w'=>o6 w3.drew w') 25 (B0 [0,1,2,3,4,5,6,7,8,9,10,11,12,13,14,15,16,17,18,19,20,21,22,23,24]) (by decide +kernel) (o9.refl _) ?_;have bad:au0 d m s=none→I3 (d+1) l n=none:=fun h=>by rw[aL0];exact hnone h
    cases b1:decide ((200:Int)<m+1)
    case true=>
     simp only[D5,B0,n3,n8,simprocAttr,e0,hl3,b1];refine n9 results143 ?_;simp only[p7,simprocAttr];have hF:=bad (by rw[au0,if_pos (.inl (by simpa using b1))]);exact⟨by rw[hF];rfl,fun m hm=>(by rw[hF]at hm;cases hm),hend⟩
    cases b2:decide (s.id=m+1)
    case false=>
     simp only[D5,B0,n3,n8,simprocAttr,e0,hl3,s3,b1,b2];refine n9 results143 ?_;simp only[p7,simprocAttr];have hF:=bad (by rw[au0,if_pos (.inr (.inl (by simpa using b2)))]);exact⟨by rw[hF];rfl,fun m hm=>(by rw[hF]at hm;cases hm),hend⟩
    simp only[D5,B0,n3,n8,simprocAttr,e0,hl3,s3,b1,b2];refine z6 bS9 (aF8 vl s.labels _ (A3.mono hno hrl) (by have:=S3 s.labels;rw[P4]at hws;omega)) ?_;rintro u w4 ⟨rfl,rfl⟩;cases b3:ae5 s.labels
    case false=>
     simp only[D5,n3,n8,simprocAttr,F6];refine⟨o9.refl _,?_⟩;refine n9 results143 ?_;simp only[p7,simprocAttr];have hF:=bad (by rw[au0,if_pos (.inr (.inr (.inl b3)))]);exact⟨by rw[hF];rfl,fun m hm=>(by rw[hF]at hm;cases hm),hend⟩
    simp only[D5,n3,n8,simprocAttr,F6,s4];refine⟨o9.refl _,?_⟩;refine z6 ei1 (bR2 ss s _ (hss.mono hno) hws) ?_;rintro u w5 ⟨rfl,hx5⟩;have hx35:o9 (fun b=>b=gb) w2 w5:=hx3d.trans (hx5.weaken fun _ _ h=>h.elim);have hend5:o9 (fun b=>b=gb) w w5:=hend.trans (hx5.weaken fun _ _ h=>h.elim);cases b4:aj9 s
    case false=>
     simp only[D5,n3,n8,simprocAttr,F6];refine⟨hx5,?_⟩;refine n9 results143 ?_;simp only[p7,simprocAttr];have hF:=bad (by rw[au0,if_pos (.inr (.inr (.inr b4)))]);exact⟨by rw[hF];rfl,fun m hm=>(by rw[hF]at hm;cases hm),hend5⟩
    have hK:au0 d m s=(I3 d s.thn (m+1)).bind fun m=>I3 d s.els m:=by
     rw[au0,if_neg];simp only[eJ6]at b1;have b2':s.id=m+1:=by simpa using b2
     rintro(h|h|h|h)
     ·exact b1 h
     ·exact h b2'
     ·rw[b3]at h;cases h
     ·rw[b4]at h;cases h
    have hm3:m+1≤200:=by have:=ew9 b1;omega
    have hc5:w5.heap[gb]?=some (.cells #[.int .i64 (m+1)] 197 (0,0)):=(hx5.block gb (ex0.1 hc3).1 id).trans hc3;have hno5:B4 (B8 w2 fun b=>b=gb) (d7 w5):=C9 hx35;have l5:=ld w5 hno5;rw[P4]at hws;simp only[D5,n3,n8,simprocAttr,F6];refine⟨hx5,?_⟩;simp only[n3,n8,simprocAttr,e0,e2,l5,hnest];refine z6 cw9 (bj9 d s.thn (m+1) vt _ gb w5 (by omega) hno5 (H3 rfl) hc5 hrt (by omega) (by omega) hm3) ?_;rintro u w6 ⟨rfl,hr6,hx6⟩;have hend6:=hend5.trans hx6;cases ht:I3 d s.thn (m+1)with
    | none=>
     simp only[n3,n8,simprocAttr,Option.isSome_none];refine n9 results143 ?_;simp only[p7,simprocAttr];have hF:=bad (by rw[hK,ht];rfl);exact⟨by rw[hF];rfl,fun m hm=>(by rw[hF]at hm;cases hm),hend6⟩
    | some m6=>
     have hc6:=hr6 m6 ht;have hle6:=aQ2 d _ _ _ ht;have hno6:B4 (B8 w2 fun b=>b=gb) (d7 w6):=C9 (hx35.trans hx6);have l6:=ld w6 hno6;simp only[n3,n8,simprocAttr,e0,e2,l6,hnest];refine z6 cw9 (bj9 d s.els m6 ve _ gb w6 (by omega) hno6 (H3 rfl) hc6 hre (by omega) (by omega) (by omega)) ?_;rintro u w7 ⟨rfl,hr7,hx7⟩;have hend7:=hend6.trans hx7;cases he:I3 d s.els m6 with
     | none=>
      simp only[n3,n8,simprocAttr,Option.isSome_none];refine n9 results143 ?_;simp only[p7,simprocAttr];have hF:=bad (by rw[hK,ht];exact he);exact⟨by rw[hF];rfl,fun m hm=>(by rw[hF]at hm;cases hm),hend7⟩
     | some m7=>
      have hle7:=aQ2 d _ _ _ he;simp only[n3,n8,simprocAttr,h18];exact⟨(k+1,m7),by simp only[];omega,by simp only[];rw[B2 k (by have:=bw9 l;omega)],by simp only[];omega,by simp only[];rw[hstep,hK,ht];exact he,by simp only[];omega,by simp only[];omega,hr7 m7 he,hend7⟩
   ·have hge:k=l.length:=by simp at hc;omega
    subst hge;simp only[n3,simprocAttr];refine n9 results143 ?_;simp only[p7,simprocAttr];rw[ex5]at hfold;have hF:I3 (d+1) l n=some m:=by rw[aL0];exact hfold
    exact⟨by rw[hF];rfl,fun m' hm=>by rw[hF]at hm;cases hm;exact hc1,hx1⟩
theorem cr7:C0 prog 197 []=some (.agg #[.int .i64 0]):=by
 simp[C0,cH3,J3,Instr.fill]
theorem db7(w:World):∃gb w',(Instr.box 197 (.agg #[.int .i64 0])).run prog w = .ok (.pointer (some ⟨gb,0,none⟩)) w'∧o6 w w'∧w'.heap[gb]?=some (.cells #[.int .i64 0] 197 (0,0))∧w.heap.size≤gb:=
 ⟨_,_,rfl,o6.alloc _ _,eA5 w _,ex9 _⟩
theorem bY5(v:Value)(p:Pg)(w:World)(hv:SV (d7 w) v p)(hwt:D6 p≤1000000):Calls prog 96 #[v] w fun e w'=>∃u,e = .returned u∧(u = .bool (P9 p)∧o6 w w'):=by
 refine d9 (args:=[v]) hm func96 rfl (by kernel_rfl) (by show 1≤_;decide +kernel) ?_;obtain⟨a,w1,hbx,hx,ha⟩:=R3 hv (i4 _);obtain⟨vg,vp,hg,hp,ld,sd⟩:=ha.pg;have l1:=ld w1 (i4 _);have hS1:=hg.isS;have hn1:=hg.vlen;have hS2:=hp.isS;have hn2:=hp.vlen;have c1:decide ((16:Int)<((p.globals.length:Nat):Int)) = !decide (p.globals.length≤16):=by
  rw[←decide_not];exact eB0.2 (by omega)
 have c2:decide ((16:Int)<((p.procs.length:Nat):Int)) = !decide (p.procs.length≤16):=by
  rw[←decide_not];exact eB0.2 (by omega)
 cases h1:decide (p.globals.length≤16)
 ·rw[h1]at c1;simp only[n3,n8,simprocAttr,hbx,l1,hS1,hn1,c1];refine n9 results96 ?_;simp only[p7,simprocAttr];exact⟨by rw[P9,h1];rfl,hx⟩
 cases h2:decide (p.procs.length≤16)
 ·rw[h1]at c1;rw[h2]at c2;simp only[n3,n8,simprocAttr,hbx,l1,hS1,hn1,hS2,hn2,c1,c2];refine n9 results96 ?_;simp only[p7,simprocAttr];exact⟨by rw[P9,h1,h2];rfl,hx⟩
 rw[h1]at c1;rw[h2]at c2;simp only[n3,n8,simprocAttr,hbx,l1,hS1,hn1,hS2,hn2,c1,c2];refine D1 bS9 (aF8 vg p.globals _ hg (by have:=ew8 h1;omega)) ?_;cases h3:ae5 p.globals
 ·simp only[n3,n8,simprocAttr];refine n9 results96 ?_;simp only[p7,simprocAttr];exact⟨by rw[P9,h1,h2,h3];rfl,hx⟩
 obtain⟨gb,w3,hbl,hx3,hc3,hge⟩:=db7 w1;have hgn:d7 w1 gb=none:=bd3 hge;have l3:=ld w3 (b7 hx3);have hF:P9 p=(p.procs.foldlM (fun n f=>W7 f n) 0).isSome:=by rw[P9,h1,h2,h3];rfl
 simp only[n3,n8,simprocAttr,cr7,hbl,l3,hS2,hn2];refine n7 [3,27,28] (σ:=Nat×Int) (fun s f w'=>f 29 = .int .i64 s.1∧s.1≤p.procs.length∧(p.procs.take s.1).foldlM (fun n f=>W7 f n) 0=some s.2∧0≤s.2∧s.2≤200∧w'.heap[gb]?=some (.cells #[.int .i64 s.2] 197 (0,0))∧o9 (fun b=>b=gb) w1 w') (fun s=>p.procs.length-s.1) (0,0) (by decide +kernel) ?_ ?_
 ·simp only[p7,simprocAttr];exact⟨by trivial,ex6 _,by simp,by simp,by simp,hc3,hx3.weaken fun _ _ h=>h.elim⟩
 ·rintro⟨k,m⟩ f w4 hk ⟨h29,hkl,hfold,hm0,hm2,hc4,hx4⟩;simp only at h29 hkl hfold hm0 hm2 hc4;simp only[ew6,p7,simprocAttr]at hk;obtain⟨e3,e27,e28,_⟩:=hk;have hext:∀w',o9 (fun b=>b=gb) w1 w'→o6 w w':=fun w' h=>hx.trans (o9.ext_of (o9.refl _) h fun b hb=>by subst hb;exact hge);simp only[n3,n8,simprocAttr,h29,e28];refine i5 (fun hc=>?_) (fun hc=>?_)
  ·have hlt:k<p.procs.length:=by simpa using hc
   have hin:=hp.inS hlt;have hhw:B4 (d7 w1) (d7 w4):=I0 (i4 _) hx4 fun b hb=>by subst hb;exact hgn
   have hgl:gb<w4.heap.size:=(ex0.1 hc4).1;have hNl:∀b,b=gb→b<w4.heap.size:=fun b hb=>by subst hb;exact hgl
   obtain⟨sv,hsv,hld⟩:=F4 (P:=prog) (t:=51) hp hhw (ew4 hlt) aj1 aj3 aj2 N0;rw[N0]at hld;have hstep:=aY8 (fun n f=>W7 f n) p.procs 0 hlt hfold;have hnone:=aY7 (fun n f=>W7 f n) p.procs 0 hlt hfold;have hws:T3 p.procs[k]≤1000000:=ex3 (am0 (ex8 hlt)) (by unfold D6 at hwt;omega);generalize p.procs[k]=q at hsv hstep hnone hws;obtain⟨b,wz,w5,hal,hst,hx5,hat⟩:=dZ2 (P:=prog) (T:=51) (N:=fun b=>b=gb) hsv (cw1 hhw fun b hb=>by subst hb;exact hgn) hNl cI7 rfl N0;obtain⟨va,vv,vb,ve,hra,hrv,hrb,hre,ldq,_⟩:=hat.pr;have hno:B4 (B8 w5 fun b=>b=gb) (d7 w5):=B3 _ _;have l5:=ldq w5 hno;have hx15:o9 (fun b=>b=gb) w1 w5:=hx4.trans (hx5.weaken fun _ _ h=>h.elim);have hend:=hext w5 hx15;have hSa:=hra.isS;have hna:=hra.vlen;have hSv:=hrv.isS;have hnv:=hrv.vlen;have bad:W7 q m=none→P9 p=false:=fun h=>by rw[hF,hnone h];rfl
   unfold T3 at hws;have b1':decide ((8:Int)<((q.params.length:Nat):Int))=decide (8<q.params.length):=eB0.2 (by omega);have b2':decide ((16:Int)<((q.vars.length:Nat):Int))=decide (16<q.vars.length):=eB0.2 (by omega);cases b1:decide (8<q.params.length)
   case true=>
    rw[b1]at b1';simp only[n3,n8,v8,simprocAttr,h29,e27,hin,hld,hal,hst,l5,hSa,hna,b1'];refine n9 results96 ?_;simp only[p7,simprocAttr];exact⟨by rw[bad (by rw[W7,if_pos (.inl (ew8 b1))])],hend⟩
   rw[b1]at b1';cases b2:decide (16<q.vars.length)
   case true=>
    rw[b2]at b2';simp only[n3,n8,v8,simprocAttr,h29,e27,hin,hld,hal,hst,l5,hSa,hna,hSv,hnv,b1',b2'];refine n9 results96 ?_;simp only[p7,simprocAttr];exact⟨by rw[bad (by rw[W7,if_pos (.inr (.inl (ew8 b2)))])],hend⟩
   rw[b2]at b2';simp only[n3,n8,v8,simprocAttr,h29,e27,hin,hld,hal,hst,l5,hSa,hna,hSv,hnv,b1',b2'];refine D1 bz2 (aA3 q.name _) ?_;cases b3:Y4 q.name
   ·simp only[n3,n8,simprocAttr];refine n9 results96 ?_;simp only[p7,simprocAttr];exact⟨by rw[bad (by rw[W7,if_pos (.inr (.inr (.inl b3)))])],hend⟩
   simp only[n3,n8,simprocAttr,l5];refine D1 bS9 (aF8 vv q.vars _ (A3.mono hno hrv) (by have:=S3 q.vars;omega)) ?_;cases b4:ae5 q.vars
   ·simp only[n3,n8,simprocAttr];refine n9 results96 ?_;simp only[p7,simprocAttr];exact⟨by rw[bad (by rw[W7,if_pos (.inr (.inr (.inr (.inl b4))))])],hend⟩
   simp only[n3,n8,simprocAttr,l5];refine D1 bS9 (aF8 ve q.fin _ (A3.mono hno hre) (by have:=S3 q.fin;omega)) ?_;cases b5:ae5 q.fin
   ·simp only[n3,n8,simprocAttr];refine n9 results96 ?_;simp only[p7,simprocAttr];exact⟨by rw[bad (by rw[W7,if_pos (.inr (.inr (.inr (.inr (.inl b5)))))])],hend⟩
   have hpl:=af6 q.params;simp only[n3,n8,simprocAttr,l5,hSa,hna];refine n7 [3,5,27,28,29,62,63] (σ:=Nat) (fun j f w'=>f 64 = .int .i64 j∧j≤q.params.length∧(q.params.take j).all (fun a=>Y4 a.name)=true∧o6 w5 w') (fun j=>q.params.length-j) 0 (by decide +kernel) ?_ ?_
   ·simp only[p7,simprocAttr];exact⟨by trivial,ex6 _,by simp,o9.refl _⟩
   ·rintro j f7 w7 hk ⟨h64,hjl,hall,hx7⟩;simp only[ew6,p7,simprocAttr]at hk;obtain⟨g3,g5,g27,g28,g29,g62,g63,_⟩:=hk;rw[e3]at g3;rw[e27]at g27;rw[e28]at g28;rw[h29]at g29;have hx17:o9 (fun b=>b=gb) w1 w7:=hx15.trans (hx7.weaken fun _ _ h=>h.elim);simp only[n3,n8,simprocAttr,h64,g63];refine i5 (fun hc=>?_) (fun hc=>?_)
    ·have hjt:j<q.params.length:=by simpa using hc
     have hjn:=hra.inS hjt;obtain⟨sa,hsa,hlda⟩:=F4 (P:=prog) (t:=68) hra (p6 hno (b7 hx7)) (ew4 hjt) bb2 bb7 bb5 ap0;rw[ap0]at hlda;have htk:=aE5 (fun a:Pa=>Y4 a.name) q.params j hjt;have hmem:=ex8 hjt;generalize q.params[j]=y at hsa htk hmem;obtain⟨c,wy,w8,hal8,hst8,hx8,hat8⟩:=aG7 (hsa.mono (p6 hno (b7 hx7))) (i4 _);obtain⟨ld8,_⟩:=hat8.pa;have l8:=ld8 w8 (i4 _);simp only[n3,n8,v8,simprocAttr,h64,g62,hjn,hlda,hal8,hst8,l8];refine D1 bz2 (aA3 y.name _) ?_;cases b6:Y4 y.name
     ·simp only[n3,n8,simprocAttr];refine n9 results96 ?_;simp only[p7,simprocAttr];refine⟨by rw[bad (by rw[W7,if_pos (.inr (.inr (.inr (.inr (.inr (av1 (p:=fun a:Pa=>Y4 a.name) hmem b6))))))])],hext _ (hx17.trans (hx8.weaken fun _ _ h=>h.elim))⟩
     ·simp only[n3,n8,simprocAttr,h64];exact⟨j+1,by omega,by rw[B2 j (by omega)],by omega,by rw[htk,hall,b6];rfl,hx7.trans hx8⟩
    ·have hjge:j=q.params.length:=by simp at hc;omega
     subst hjge;rw[ex5]at hall;have hc7:w7.heap[gb]?=some (.cells #[.int .i64 m] 197 (0,0)):=((hx5.trans hx7).block gb hgl id).trans hc4;have l7:=ldq w7 (p6 hno (b7 hx7));have hpf:W7 q m=I3 12 q.body m:=by
      rw[W7,if_neg];have d1:=ew9 b1;have d2:=ew9 b2;rintro(h|h|h|h|h|h)
      ·exact d1 h
      ·exact d2 h
      ·rw[b3]at h;cases h
      ·rw[b4]at h;cases h
      ·rw[b5]at h;cases h
      ·rw[hall]at h;cases h
     simp only[n3,n8,simprocAttr,g3,g5,l7];refine z6 cw9 (bj9 12 q.body m vb _ gb w7 (by omega) (p6 hno (b7 hx7)) (H3 rfl) hc7 hrb (by omega) hm0 hm2) ?_;rintro u w9 ⟨rfl,hr9,hx9⟩;have hx19:=hx17.trans hx9;cases hr:I3 12 q.body m with
     | none=>
      simp only[n3,n8,simprocAttr,Option.isSome_none];refine n9 results96 ?_;simp only[p7,simprocAttr];exact⟨by rw[bad (by rw[hpf,hr])],hext _ hx19⟩
     | some m9=>
      have hle9:=aQ2 _ _ _ _ hr;simp only[n3,n8,simprocAttr,g29];exact⟨(k+1,m9),by simp only[];omega,by simp only[];rw[B2 k (by have:=ew8 h2;omega)],by simp only[];omega,by simp only[];rw[hstep,hpf,hr],by simp only[];omega,by simp only[];omega,hr9 m9 hr,hx19⟩
  ·have hge:k=p.procs.length:=by simp at hc;omega
   subst hge;simp only[n3,simprocAttr];refine n9 results96 ?_;simp only[p7,simprocAttr];rw[ex5]at hfold;exact⟨by rw[hF,hfold];rfl,hext _ hx4⟩
theorem bk6:∀(l:List Pr) (s:Sh) (i:Nat),∃L lo hi,F7 s i l=⟨s.p,s.l++L,s.lo++lo,s.hi++hi⟩
 | [],s,i=>⟨[],[],[],by simp[F7]⟩
 | f::l,s,i=>by
  obtain⟨L,lo,hi,e⟩:=bk6 l (E7 s i f) (i+1);refine⟨C6 f.body s.l.length i 0 (-1) 0++L,((s.l.length:Int)+1)::lo,((s.l.length:Int)+(A5 f.body:Nat)+1)::hi,?_⟩;rw[F7,e];simp[E7,F9]
theorem cC5(p:Pg)(i:Nat)(hi:i<p.procs.length):∃x:Nat,(b9 p).lo[i]?=some ((x:Int)+1)∧(b9 p).hi[i]?=some ((x:Int)+(A5 p.procs[i].body:Nat)+1) ∧
  ((b9 p).l.drop x).take (A5 p.procs[i].body)=C6 p.procs[i].body x i 0 (-1) 0∧x+A5 p.procs[i].body≤(b9 p).l.length:=by
 have hsplit:p.procs=p.procs.take i++(p.procs[i]::p.procs.drop (i+1)):=by
  have:=ez9 i p.procs;rw[eA2 hi]at this;exact this.symm
 obtain⟨G,hG⟩:∃G,F7 ⟨p,[],[],[]⟩ 0 (p.procs.take i)=G:=⟨_,rfl⟩;have hlo:=aV7 (p.procs.take i) ⟨p,[],[],[]⟩ 0;rw[hG,ex4,eB9 (Nat.le_of_lt hi)]at hlo;simp only[eC7,ez8]at hlo;obtain⟨L,lo,hi',e⟩:=bk6 (p.procs.drop (i+1)) (E7 G i p.procs[i]) (i+1);have hF:b9 p=⟨(E7 G i p.procs[i]).p,(E7 G i p.procs[i]).l++L,(E7 G i p.procs[i]).lo++lo,(E7 G i p.procs[i]).hi++hi'⟩:=by
  rw[←e];unfold b9
  conv=>lhs;rw[hsplit]
  rw[aL1,hG,ex4,eB9 (Nat.le_of_lt hi),F7,ez8]
 rw[hF];refine⟨G.l.length,?_,?_,?_,?_⟩
 ·simp only[E7,ey6];rw[eA9 (by omega),hlo.1];simp
 ·simp only[E7,ey6];rw[eA9 (by omega),hlo.2,F9];simp
 ·simp only[E7,ey6];rw[List.drop_left,←F9 p.procs[i].body G.l.length i 0 (-1) 0,eE3]
 ·simp only[E7,ew7,F9];omega
theorem au3(p:Pg):(b9 p).l.length=bx8 p:=by
 unfold b9 bx8;rw[ax2];simp
theorem I1(p:Pg):(b9 p).p=p:=by
 unfold b9;rw[aQ6]
theorem bx9(p:Pg):3*bx8 p≤D6 p:=by
 have:=bd1 p.procs;unfold D6 bx8;omega
theorem Y5(p:Pg)(hw:D6 p≤1000000)(i:Nat)(hi:i<p.procs.length):∃x:Nat,bn4 (b9 p) i x (x+A5 p.procs[i].body)∧(b9 p).of i=C6 p.procs[i].body x i 0 (-1) 0:=by
 obtain⟨x,h1,h2,h3,h4⟩:=cC5 p i hi;have h5:=au3 p;have h6:=bx9 p;have hok:bn4 (b9 p) i x (x+A5 p.procs[i].body):=⟨h1,by rw[h2];congr 1,by omega,h4,by omega⟩;refine⟨x,hok,?_⟩;rw[hok.of_,List.drop_take,Nat.add_sub_cancel_left];exact h3
mutual
theorem ck0:∀(t:St) (k:Nat) (pr up nx lp:Int),∀it∈U2 t k pr up nx lp,O0 it.s≤O0 t
 | .mk id kind labels name proc x has args thn els,k,pr,up,nx,lp,it,h=>by
  rw[O4]at h;rcases ey3.1 h with rfl|h
  ·exact ex9 _
  ·rw[O0];rcases ey1.1 h with h|h
   ·have:=av8 thn _ _ _ _ _ it h;omega
   ·have:=av8 els _ _ _ _ _ it h;omega
theorem av8:∀(l:List St) (k:Nat) (pr up nx lp:Int),∀it∈C6 l k pr up nx lp,O0 it.s≤G5 l
 | [],_,_,_,_,_,it,h=>by simp[C6]at h
 | t::l,k,pr,up,nx,lp,it,h=>by
  rw[C6]at h;rw[G5];rcases ey1.1 h with h|h
  ·have:=ck0 t _ _ _ _ _ it h;omega
  ·have:=av8 l _ _ _ _ _ it h;omega
end
theorem bv0:∀(l:List Pr) (s:Sh) (i:Nat) (W:Nat),(∀it∈s.l,O0 it.s≤W)→(∀f∈l,G5 f.body≤W)→∀it∈(F7 s i l).l,O0 it.s≤W
 | [],s,i,W,h1,h2,it,h=>h1 it h
 | f::l,s,i,W,h1,h2,it,h=>by
  rw[F7]at h;refine bv0 l _ _ W (fun it h=>?_) (fun g hg=>h2 g (eD1 _ hg)) it h;simp only[E7]at h;rcases ey1.1 h with h|h
  ·exact h1 it h
  ·exact ex3 (av8 _ _ _ _ _ _ it h) (h2 f (by simp))
theorem ac5(p:Pg)(hw:D6 p≤1000000):∀it∈(b9 p).l,O0 it.s≤1000000:=by
 refine bv0 _ _ _ _ (fun it h=>by cases h) fun f hf=>?_;have:=am0 hf;unfold D6 at hw;unfold T3 at this;omega
theorem ao4(p:Pg)(hw:D6 p≤1000000):∀f∈p.procs,T3 f≤1000000:=fun f hf=>by
 have:=am0 hf;unfold D6 at hw;omega
theorem bI3{α β:Type}(g:α→β)(p:β→Bool):∀(l:List α) (i:Nat),V3 p i (l.map g)=V3 (fun x=>p (g x)) i l
 | [],i=>rfl
 | x::l,i=>by simp only[eB1,V3,bI3 g p l]
theorem bT0{α:Type}{p q:α→Bool}(h:∀x,p x=q x)(l:List α)(i:Nat):V3 p i l=V3 q i l:=by
 rw[show p=q from funext h]
def ez2:=@List.contains_iff_mem
def eE8:=@List.drop_zero
def ez7:=@List.mem_singleton
def eD6:=@List.nodup_append
theorem cP4(v:Value)(q:Pr)(w:World)(hv:SV (d7 w) v q)(hw:T3 q≤1000000):Calls prog 146 #[v] w fun e w'=>∃u,e = .returned u∧(A9 (d7 w) w' 9 u (bj2 q)∧o6 w w'):=by
 refine d9 (args:=[v]) hm func146 rfl (by kernel_rfl) (by show 1≤_;decide +kernel) ?_;obtain⟨a,w1,hbx,hx1,ha⟩:=bc8 hv (i4 _);obtain⟨va,vv,vb,vf,hra,hrv,_,_,ld,_⟩:=ha.pr;have l1:=ld w1 (i4 _);have hSa:=hra.isS;have hna:=hra.vlen;have hpl:=af6 q.params;have hvl:=S3 q.vars;unfold T3 at hw;simp only[n3,n8,simprocAttr,hbx,l1,hSa,hna];refine n7 [1,7,8] (σ:=Nat×Value) (fun s f w'=>f 9 = .int .i64 s.1∧f 3=s.2∧s.1≤q.params.length∧A9 (d7 w1) w' 9 s.2 ((q.params.take s.1).map (·.name))∧o6 w1 w') (fun s=>q.params.length-s.1) (0,.slice none 0 0) (by decide +kernel) ?_ ?_
 ·simp only[p7,simprocAttr];exact⟨by trivial,by trivial,ex6 _,by simpa using A9.nil _ _ _,o9.refl _⟩
 ·rintro⟨k,u⟩ f w2 hk ⟨h9,h3,hkl,ho,hx2⟩;simp only at h9 h3 hkl ho;simp only[ew6,p7,simprocAttr]at hk;obtain⟨e1,e7,e8,_⟩:=hk;simp only[n3,n8,simprocAttr,h9,e8];refine i5 (fun hc=>?_) (fun hc=>?_)
  ·have hlt:k<q.params.length:=by simpa using hc
   have hin:=hra.inS hlt;obtain⟨sv,hsv,hld⟩:=F4 (P:=prog) (t:=68) hra (b7 hx2) (ew4 hlt) bb2 bb7 bb5 ap0;rw[ap0]at hld;have htk:(q.params.take (k+1)).map (·.name)=(q.params.take k).map (·.name)++[q.params[k].name]:=by
    rw[ex2 hlt,ez5];rfl
   generalize q.params[k]=y at hsv htk;obtain⟨b,wz,w3,hal,hst,hx3,hat⟩:=aG7 (hsv.mono (b7 hx2)) (i4 _);obtain⟨ldy,_⟩:=hat.pa;have l3:=ldy w3 (i4 _);have ho3:=ho.ext hx3;have hx13:=hx2.trans hx3;obtain⟨p1,u',w4,p2,p3,p4,p5⟩:=push (e:=22) ar1 rfl ho3 (x:=o7 y.name) (y:=y.name) rfl (by simp;omega) (by simp;omega) (b7 hx13);simp only[n3,n8,v8,simprocAttr,h9,h3,e7,hin,hld,hal,hst,l3,p1,p2];exact⟨(k+1,u'),by simp only[];omega,by simp only[];rw[B2 k (by omega)],by trivial,by simp only[];omega,by simp only[];rw[htk];exact p3,ho3.ext2 hx13 p4⟩
  ·have hge:k=q.params.length:=by simp at hc;omega
   subst hge;rw[ex5]at ho;have l2:=ld w2 (b7 hx2);obtain⟨u',w4,c1,c2,c3,c4⟩:=ah4 (P:=prog) (e:=22) ar1 ho hrv (b7 hx2) (by simp;omega) (by simp;omega) (b7 hx2);simp only[n3,n8,simprocAttr,h3,e1,l2,c1];refine n9 results146 ?_;simp only[p7,simprocAttr];exact⟨c2.back hx1,hx1.trans (ho.ext2 hx2 c3)⟩
theorem aW3(v:Value)(l:List A6)(w:World)(hv:R (d7 w) v l)(hl:l.length≤1000000000):Calls prog 145 #[v] w fun e w'=>∃u,e = .returned u∧(u = .bool (X6 l)∧w'=w):=by
 refine d9 (args:=[v]) hm func145 rfl (by kernel_rfl) (by show 1≤_;decide +kernel) ?_;have hS:=hv.isS;have hn:=hv.vlen;have hvc:=hv.vcap;simp only[n3,n8,simprocAttr,hS,hn];refine n7 [0,5,6] (σ:=Nat) (fun k f w'=>f 7 = .int .i64 k∧k≤l.length∧(l.take k).Nodup∧w'=w) (fun k=>l.length-k) 0 (by decide +kernel) ?_ ?_
 ·simp only[p7,simprocAttr];exact⟨by trivial,ex6 _,by simp,by trivial⟩
 ·rintro k f w' hk ⟨h7,hkl,hno,rfl⟩;simp only[ew6,p7,simprocAttr]at hk;obtain⟨e0,e5,e6,_⟩:=hk;simp only[n3,n8,simprocAttr,h7,e6];refine i5 (fun hc=>?_) (fun hc=>?_)
  ·have hlt:k<l.length:=by simpa using hc
   have hin:=hv.inS hlt;have hld:=ldS hv (i4 _) hlt;have hsub:=bD8 hv (ex6 k) (Nat.le_of_lt hlt);rw[eE8]at hsub;have c2:decide ((k:Int)≤(vcap v:Int))=true:=by simp;omega
   have hz:A3.sz A6=1:=rfl;rw[hz]at hsub;simp only[n3,n8,v8,H5,simprocAttr,h7,e0,e5,hin,hld,hS,c2];refine D1 ab7 (N5 _ (l.take k) l[k] _ hsub (by rw[ex4];omega)) ?_;cases hq:(l.take k).contains l[k]
   ·simp only[n3,n8,simprocAttr,h7];refine⟨k+1,by omega,by rw[B2 k (by omega)],by omega,?_,by trivial⟩;rw[ex2 hlt,eD6];refine⟨hno,by simp,fun a ha b hb=>?_⟩;simp only[ez7]at hb;subst hb;intro e;subst e;have:=ez2.2 ha;rw[hq]at this;cases this
   ·simp only[n3,simprocAttr];refine n9 results145 ?_;simp only[p7,simprocAttr];refine⟨?_,by trivial⟩;have:¬l.Nodup:=fun hnd=>by
     have hsp:l=l.take k++(l[k]::l.drop (k+1)):=by
      have:=ez9 k l;rw[eA2 hlt]at this;exact this.symm
     have hnd2:=hnd;rw[hsp,eD6]at hnd2;exact hnd2.2.2 _ (ez2.1 hq) _ List.mem_cons_self rfl
    simp[X6,this]
  ·have hge:k=l.length:=by simp at hc;omega
   subst hge;simp only[n3,simprocAttr];refine n9 results145 ?_;simp only[p7,simprocAttr];rw[ex5]at hno;exact⟨by simp[X6,hno],by trivial⟩
theorem de1:ag0 prog 212=true:=by kernel_rfl
theorem ei2:ag0 prog 213=true:=by kernel_rfl
theorem cy8(vp vq:Value)(p:Pg)(q:Pr)(n:A6)(w:World)(hp:SV (d7 w) vp p)(hq:SV (d7 w) vq q)(hwp:D6 p≤1000000)(hwq:T3 q≤1000000):
  Calls prog 213 #[vp,vq,o7 n] w fun e w'=>∃u,e = .returned u∧(u = .int .i64 (ay9 p q n)∧o6 w w'):=by
 refine d9 (args:=[vp,vq,o7 n]) hm func213 rfl (by kernel_rfl) (by show 3≤_;decide +kernel) ?_;obtain⟨a,w1,hb1,hx1,ha1⟩:=R3 hp (i4 _);obtain⟨b,w2,hb2,hx2,ha2⟩:=bc8 (hq.mono (b7 hx1)) (i4 _);obtain⟨vg,_,hg,_,ldp,_⟩:=ha1.pg;obtain⟨va,vv,_,_,hra,hrv,_,_,ldq,_⟩:=ha2.pr;have l2:=ldq w2 (i4 _);have hSa:=hra.isS;have hna:=hra.vlen;have hpl:=af6 q.params;have hvl:=S3 q.vars;have hgl:=S3 p.globals;unfold T3 at hwq;unfold D6 at hwp;have hx12:=hx1.trans hx2;simp only[n3,n8,simprocAttr,hb1,hb2,l2,hSa,hna];refine n7 [2,3,4,10,11] (σ:=Nat) (fun k f w'=>f 12 = .int .i64 k∧k≤q.params.length∧(∀j (hj:j<q.params.length),j<k→decide (q.params[j].name=n)=false)∧o6 w2 w') (fun k=>q.params.length-k) 0 (by decide +kernel) ?_ ?_
 ·simp only[p7,simprocAttr];exact⟨by trivial,ex6 _,fun j _ h=>by omega,o9.refl _⟩
 ·rintro k f w3 hk ⟨h12,hkl,hno,hx3⟩;simp only[ew6,p7,simprocAttr]at hk;obtain⟨e2,e3,e4,e10,e11,_⟩:=hk;simp only[n3,n8,simprocAttr,h12,e11];refine i5 (fun hc=>?_) (fun hc=>?_)
  ·have hlt:k<q.params.length:=by simpa using hc
   have hin:=hra.inS hlt;obtain⟨sv,hsv,hld⟩:=F4 (P:=prog) (t:=68) hra (b7 hx3) (ew4 hlt) bb2 bb7 bb5 ap0;rw[ap0]at hld;obtain⟨c,wz,w4,hal,hst,hx4,hat⟩:=aG7 (hsv.mono (b7 hx3)) (i4 _);obtain⟨ldy,_⟩:=hat.pa;have l4:=ldy w4 (i4 _);have hend:=hx12.trans (hx3.trans hx4);cases hq1:decide (q.params[k].name=n)
   ·simp only[n3,n8,v8,simprocAttr,h12,e2,e10,hin,hld,hal,hst,l4,hq1];refine⟨k+1,by omega,by rw[B2 k (by omega)],by omega,fun j hj hjk=>?_,hx3.trans hx4⟩;rcases eA1 j k with h|h
    ·exact hno j hj h
    ·obtain rfl:j=k:=by omega
     exact hq1
   ·have hfind:q.params.find? (fun a=>decide (a.name=n))=some q.params[k]:=eE7.2 ⟨hq1,k,hlt,rfl,fun j hj=>by rw[hno j (by omega) hj];rfl⟩;cases hr:q.params[k].ref
    ·simp only[n3,n8,v8,simprocAttr,h12,e2,e10,hin,hld,hal,hst,l4,hq1,hr];refine n9 results213 ?_;simp only[p7,simprocAttr];exact⟨by rw[ay9,hfind];simp only[hr];rfl,hend⟩
    ·simp only[n3,n8,v8,simprocAttr,h12,e2,e10,hin,hld,hal,hst,l4,hq1,hr];refine n9 results213 ?_;simp only[p7,simprocAttr];exact⟨by rw[ay9,hfind];simp only[hr];rfl,hend⟩
  ·have hge:k=q.params.length:=by simp at hc;omega
   subst hge;have hfind:q.params.find? (fun a=>decide (a.name=n))=none:=eF0.2 fun it hit=>by
    obtain⟨j,hj,rfl⟩:=eB5.1 hit;rw[hno j hj hj];simp
   have hF:ay9 p q n=if q.vars.contains n then 4 else if p.globals.contains n then 1 else 0:=by rw[ay9,hfind]
   have l3:=ldq w3 (b7 hx3);have lp3:=ldp w3 (b7 (hx2.trans hx3));simp only[n3,n8,simprocAttr,e2,e4,l3];refine D1 ab7 (N5 vv q.vars n w3 (A3.mono (b7 hx3) hrv) (by omega)) ?_;cases h1:q.vars.contains n
   ·simp only[n3,n8,simprocAttr,e2,e3,lp3];refine D1 ab7 (N5 vg p.globals n w3 (A3.mono (b7 (hx2.trans hx3)) hg) (by omega)) ?_;cases h2:p.globals.contains n
    ·simp only[n3,simprocAttr];refine n9 results213 ?_;simp only[p7,simprocAttr];exact⟨by rw[hF,h1,h2];rfl,hx12.trans hx3⟩
    ·simp only[n3,simprocAttr];refine n9 results213 ?_;simp only[p7,simprocAttr];exact⟨by rw[hF,h1,h2];rfl,hx12.trans hx3⟩
   ·simp only[n3,simprocAttr];refine n9 results213 ?_;simp only[p7,simprocAttr];exact⟨by rw[hF,h1];rfl,hx12.trans hx3⟩
theorem ba7(t:St):(K8 t).length≤O0 t:=by
 rw[P4];have h1:=Z8 t.x;have h2:=L8 t.args;have h3:1≤wtT t.name:=by simp[wtT]
 have h4:(if t.kind≠10∧t.name≠e0 then[t.name]else[]).length≤1:=by split<;>simp
 unfold K8;rw[ew7,ew7];omega
theorem cl3(vp vq vl vt:Value)(p:Pg)(q:Pr)(procs:List A6)(t:St)(w:World)(hp:SV (d7 w) vp p)(hq:SV (d7 w) vq q)(hl:R (d7 w) vl procs)(ht:SV (d7 w) vt t)(hwp:D6 p≤1000000)(hwq:T3 q≤1000000)(hwt:O0 t≤1000000)(hll:procs.length≤1000000):
  Calls prog 149 #[vp,vq,vl,vt] w fun e w'=>∃u,e = .returned u∧(u = .bool (ab9 p q procs t)∧o6 w w'):=by
 refine d9 (args:=[vp,vq,vl,vt]) hm func149 rfl (by kernel_rfl) (by show 4≤_;decide +kernel) ?_;obtain⟨a,w1,hb1,hx1,ha1⟩:=V2 (w:=w) (fun _=>False) hp (fun _ h=>h.elim);obtain⟨b,w2,hb2,hx2,ha2⟩:=bZ9 (w:=w1) (fun _=>False) (hq.mono (b7 hx1)) (fun _ h=>h.elim);obtain⟨c,w3,hb3,hx3,ha3⟩:=ca0 (w:=w2) (fun _=>False) (ht.mono (b7 (hx1.trans hx2))) (fun _ h=>h.elim);obtain⟨ldP,_⟩:=I4.pg_v hp ha1;obtain⟨ldQ,_⟩:=I4.pr_v hq ha2;obtain⟨ldT,_⟩:=I4.st_v ht ha3;obtain⟨_,_,_,_,_,_,_,_,_,_,_,ldt,_⟩:=I4.st ht ha3;have hx13:=hx1.trans (hx2.trans hx3);have lT3:=ldT w3 (B3 _ _);have hlen:(K8 t).length≤1000000:=ex3 (ba7 t) hwt;simp only[n3,n8,simprocAttr,hb1,hb2,hb3,lT3];refine z6 de1 (ba6 vt t w3 (ht.mono (b7 hx13)) hwt) ?_;rintro u w4 ⟨ho,hx4⟩;have hu:=ho.rw_ (b7 hx4);have hSu:=hu.isS;have hnu:=hu.vlen;have hx14:=hx13.trans hx4;have key:(K8 t).all (fun n=>!decide (ay9 p q n=0))=false→ab9 p q procs t=false:=fun h=>by rw[ab9,h];rfl
 have key2:(K8 t).all (fun n=>!decide (ay9 p q n=0))=true→ab9 p q procs t=(!decide (t.kind=4)||(!decide (t.proc=P8)&&procs.contains t.proc)):=fun h=>by rw[ab9,h];rfl
 generalize K8 t=l at hu hSu hnu hlen key key2;simp only[n3,n8,simprocAttr,hSu,hnu];refine n7 [2,4,5,7,12,13] (σ:=Nat) (fun k f w'=>f 14 = .int .i64 k∧k≤l.length∧(l.take k).all (fun n=>!decide (ay9 p q n=0))=true∧o6 w4 w') (fun k=>l.length-k) 0 (by decide +kernel) ?_ ?_
 ·simp only[p7,simprocAttr];exact⟨by trivial,ex6 _,by simp,o9.refl _⟩
 ·rintro k f w5 hk ⟨h14,hkl,hall,hx5⟩;simp only[ew6,p7,simprocAttr]at hk;obtain⟨e2,e4,e5,e7,e12,e13,_⟩:=hk;have hx15:=hx14.trans hx5;simp only[n3,n8,simprocAttr,h14,e13];refine i5 (fun hc=>?_) (fun hc=>?_)
  ·have hlt:k<l.length:=by simpa using hc
   have hin:=hu.inS hlt;have hld:=ldS hu (b7 hx5) hlt;have htk:=aE5 (fun n=>!decide (ay9 p q n=0)) l k hlt;have hmem:=ex8 hlt;generalize l[k]=n at hld htk hmem;have lP:=ldP w5 (p6 (B3 _ _) (b7 (hx2.trans (hx3.trans (hx4.trans hx5)))));have lQ:=ldQ w5 (p6 (B3 _ _) (b7 (hx3.trans (hx4.trans hx5))));simp only[n3,n8,v8,simprocAttr,h14,e4,e5,e12,hin,hld,lP,lQ];refine B7 ei2 (cy8 vp vq p q n w5 (hp.mono (b7 hx15)) (hq.mono (b7 hx15)) hwp hwq) (fun w6 hx6=>?_);cases hd:decide (ay9 p q n=0)
   ·simp only[n3,n8,simprocAttr,h14,hd];exact⟨k+1,by omega,by rw[B2 k (by omega)],by omega,by rw[htk,hall,hd];rfl,hx5.trans hx6⟩
   ·simp only[n3,n8,simprocAttr,hd];refine n9 results149 ?_;simp only[p7,simprocAttr];exact⟨by rw[key (av1 (p:=fun n=>!decide (ay9 p q n=0)) hmem (by simp only[hd];rfl))],hx15.trans hx6⟩
  ·have hge:k=l.length:=by simp at hc;omega
   subst hge;rw[ex5]at hall;have lt:=ldt w5 (p6 (B3 _ _) (b7 (hx4.trans hx5)));have hF:=key2 hall;cases h1:decide (t.kind=4)
   ·simp only[n3,n8,simprocAttr,e7,lt,h1];refine n9 results149 ?_;simp only[p7,simprocAttr];exact⟨by rw[hF,h1];rfl,hx15⟩
   have hms:decide (t.proc=ofA #[109,97,105,110])=decide (t.proc=P8):=rfl;cases h2:decide (t.proc=P8)
   ·simp only[n3,n8,simprocAttr,e2,e7,lt,h1,hms,h2];refine D1 ab7 (N5 vl procs t.proc w5 (A3.mono (b7 hx15) hl) (by omega)) ?_;simp only[n3,simprocAttr];refine n9 results149 ?_;simp only[p7,simprocAttr];exact⟨by rw[hF,h1,h2];rfl,hx15⟩
   ·simp only[n3,n8,simprocAttr,e7,lt,h1,hms,h2];refine n9 results149 ?_;simp only[p7,simprocAttr];exact⟨by rw[hF,h1,h2];rfl,hx15⟩
def ew5:=@Bool.eq_false_or_eq_true
theorem cx0:ag0 prog 145=true:=by kernel_rfl
theorem ef8:ag0 prog 146=true:=by kernel_rfl
theorem ef9:ag0 prog 147=true:=by kernel_rfl
theorem eg0:ag0 prog 148=true:=by kernel_rfl
theorem eg1:ag0 prog 149=true:=by kernel_rfl
theorem aO2:ag0 prog 72=true:=by kernel_rfl
theorem dG3:ag0 prog 96=true:=by kernel_rfl
def R4(e:Int×Int):Value:=.agg #[.int .i64 e.1,.int .i64 e.2]
theorem O3(c:Int):C0 prog 107 [(0,.int .i64 c)]=some (R4 (c,0)):=by
 simp[C0,bC2,J3,Instr.fill,Value.cells,R4]
theorem as0(c a:Int):C0 prog 107 [(0,.int .i64 c),(1,.int .i64 a)]=some (R4 (c,a)):=by
 simp[C0,bC2,J3,Instr.fill,Value.cells,R4]
theorem aE7:C0 prog 107 []=some (R4 (0,0)):=by
 simp[C0,bC2,J3,Instr.fill,R4]
theorem ar8(w:World):∃rb w',(Instr.alloc 107 true (.tuple #[])).run prog w = .ok (.pointer (some ⟨rb,0,none⟩)) w'∧o6 w w'∧w'.heap[rb]?=some (.cells #[.int .i64 0,.int .i64 0] 107 (0,0))∧w.heap.size≤rb:=by
 obtain⟨h1,_⟩:=aH8 (P:=prog) (w:=w) (T:=107) bX7 rfl (cs:=#[.int .i64 0,.int .i64 0]) rfl (by simp[Value.oneCell']);exact⟨_,_,h1,o6.alloc _ _,eA5 w _,ex9 _⟩
theorem ak9{w0 w2 w':World}{rb:Nat}(h0:w2.heap[rb]?=some (.cells #[.int .i64 0,.int .i64 0] 107 (0,0)))(hx:o6 w2 w')(hge:w0.heap.size≤rb)(hx0:o6 w0 w2)(e:Int×Int):
  ∃w'',(Instr.storeAt 107 (.pointer (some ⟨rb,0,none⟩)) (R4 e)).run prog w' = .ok () w''∧(Instr.loadAt 107 (.pointer (some ⟨rb,0,none⟩))).run prog w'' = .ok (R4 e) w''∧o6 w0 w'':=by
 have h1:=(hx.block rb (ex0.1 h0).1 id).trans h0;obtain⟨w'',s1,s2,s3⟩:=ab3 (P:=prog) (cs:=#[.int .i64 e.1,.int .i64 e.2]) h1 bX7 rfl rfl (by simp[Value.oneCell']);refine⟨w'',s1,?_,o9.ext_of (hx0.trans hx) s3 fun b hb=>by subst hb;exact hge⟩;exact R2 s2 bW7 bX5 bW9 (by rw[bX3];rfl)
theorem bT3(n:A6)(a:Addr)(p:Pg)(w:World)(ha:At (d7 w) a p)(hl:p.globals.length≤1000000):Calls prog 148 #[o7 n,.pointer (some a)] w fun e w'=>∃u,e = .returned u∧(u = .bool (p.globals.contains n)∧o6 w w'):=by
 refine d9 (args:=[o7 n,.pointer (some a)]) hm func148 rfl (by kernel_rfl) (by show 2≤_;decide +kernel) ?_;obtain⟨vg,_,hg,_,ld,_⟩:=ha.pg;have l1:=ld w (i4 _);simp only[n3,n8,simprocAttr,l1];refine D1 ab7 (N5 vg p.globals n w hg (by omega)) ?_;simp only[n3,simprocAttr];refine n9 results148 ?_;simp only[p7,simprocAttr];exact⟨by trivial,o9.refl _⟩
theorem ac4(v:Value)(p:Pg)(w:World)(hv:SV (d7 w) v p)(hw:D6 p≤1000000):Calls prog 97 #[v] w fun e w'=>∃u,e = .returned u∧(u=R4 (N7 p)∧o6 w w'):=by
 refine d9 (args:=[v]) hm func97 rfl (by kernel_rfl) (by show 1≤_;decide +kernel) ?_;obtain⟨a,w1,hbx,hx1,ha⟩:=V2 (w:=w) (fun _=>False) hv (fun _ h=>h.elim);obtain⟨vg,vp,hg,hp,ld,_⟩:=I4.pg hv ha;obtain⟨lw,_⟩:=I4.pg_v hv ha;obtain⟨rb,w2,hal,hx2,hrb,hge1⟩:=ar8 w1;have hge:w.heap.size≤rb:=ex3 hx1.size hge1;have hx12:=hx1.trans hx2;have ha2:∀w',o6 w2 w'→At (d7 w') a p:=fun w' h=>by
  obtain⟨cs,e,hc⟩:=ha;obtain⟨cs2,e2,he⟩:=hv;subst e;obtain rfl:=ab2 e2;exact⟨cs2,A3.mono (b7 (hx12.trans h)) he,fun j u hj=>F8 (p6 (B3 _ _) (b7 (hx2.trans h))) (hc j u hj)⟩
 have hld:∀w',o6 w2 w'→B4 (B8 w1 fun _=>False) (d7 w'):=fun w' h=>p6 (B3 _ _) (b7 (hx2.trans h));have lw2:=lw w2 (hld _ (o9.refl _));have hret:=fun(w':World) (h:o6 w2 w')=>ak9 hrb h hge hx12;simp only[n3,n8,simprocAttr,hbx,hal,lw2];refine B7 dG3 (bY5 v p w2 (hv.mono (b7 hx12)) hw) (fun w3 hx3=>?_);cases hmay:P9 p
 ·obtain⟨w9,s1,s2,s3⟩:=hret w3 hx3 (1,0);simp only[n3,n8,simprocAttr,O3,s1];refine L0 results97 (by simp only[p7,simprocAttr]) s2 ?_;exact⟨by rw[N7,hmay];rfl,s3⟩
 have l3:=ld w3 (hld _ hx3);have hSp:=hp.isS;have hnp:=hp.vlen;have hgl:p.globals.length≤16∧p.procs.length≤16:=by
  simp only[P9,ey9,eA7]at hmay;exact⟨hmay.1.1.1,hmay.1.1.2⟩
 obtain⟨hgl1,hgl2⟩:=hgl;simp only[n3,n8,simprocAttr,l3,hSp,hnp];refine n7 [1,2,18,19] (σ:=Nat×Value) (fun s f w'=>f 20 = .int .i64 s.1∧f 3=s.2∧s.1≤p.procs.length∧A9 (d7 w2) w' 9 s.2 ((p.procs.take s.1).map (·.name))∧o6 w2 w') (fun s=>p.procs.length-s.1) (0,.slice none 0 0) (by decide +kernel) ?_ ?_
 ·simp only[p7,simprocAttr];exact⟨by trivial,by trivial,ex6 _,by simpa using A9.nil _ _ _,hx3⟩
 rintro⟨k,u⟩ f w4 hk ⟨h20,h3,hkl,ho,hx4⟩;simp only at h20 h3 hkl ho;simp only[ew6,p7,simprocAttr]at hk;obtain⟨e1,e2,e18,e19,_⟩:=hk;simp only[n3,n8,simprocAttr,h20,e19];refine i5 (fun hc=>?_) (fun hc=>?_)
 ·have hlt:k<p.procs.length:=by simpa using hc
  have hin:=hp.inS hlt;obtain⟨sv,hsv,hld4⟩:=F4 (P:=prog) (t:=51) hp (b7 (hx12.trans hx4)) (ew4 hlt) aj1 aj3 aj2 N0;rw[N0]at hld4;have htk:(p.procs.take (k+1)).map (·.name)=(p.procs.take k).map (·.name)++[p.procs[k].name]:=by
   rw[ex2 hlt,ez5];rfl
  generalize p.procs[k]=y at hsv htk;obtain⟨b,wz,w5,hal5,hst5,hx5,hat⟩:=aG8 (hsv.mono (b7 (hx12.trans hx4))) (i4 _);obtain⟨_,_,_,_,_,_,_,_,ldy,_⟩:=hat.pr;have l5:=ldy w5 (i4 _);have ho5:=ho.ext hx5;have hx25:=hx4.trans hx5;obtain⟨p1,u',w6,p2,p3,p4,p5⟩:=push (e:=22) ar1 rfl ho5 (x:=o7 y.name) (y:=y.name) rfl (by simp;omega) (by simp;omega) (b7 hx25);simp only[n3,n8,v8,simprocAttr,h20,h3,e18,hin,hld4,hal5,hst5,l5,p1,p2];exact⟨(k+1,u'),by simp only[];omega,by simp only[];rw[B2 k (by omega)],by trivial,by simp only[];omega,by simp only[];rw[htk];exact p3,ho5.ext2 hx25 p4⟩
 have hge':k=p.procs.length:=by simp at hc;omega
 subst hge';rw[ex5]at ho;have hnl:(p.procs.map (·.name)).length=p.procs.length:=ex7 _;have hfirst:V3 (fun y=>decide (P8=y)) 0 (p.procs.map (·.name))=R9 p.procs P8:=by
  rw[bI3,R9];exact bT0 (fun x=>by rw[eB0];exact eq_comm) _ _
 have hsc:N7 p=if X6 p.globals||X6 (p.procs.map (·.name))||decide (R9 p.procs P8<0)||decide (0<(p.procs.getD (R9 p.procs P8).toNat bo8).params.length)then(5,0)
  else(L6 p (b9 p) (p.procs.map (·.name)) 0 p.procs).getD (0,0):=by rw[N7,if_neg (by rw[hmay];simp)]
 have hu:=ho.rw_ (b7 hx4);generalize p.procs.map (·.name)=names at hu hnl hfirst hsc;have l4:=ld w4 (hld _ hx4);have hstr:(Value.string ⟨#[109,97,105,110]⟩)=o7 P8:=rfl;have hgw:∀w',o6 w w'→R (d7 w') vg p.globals:=fun w' h=>A3.mono (b7 h) hg;have lw4:=lw w4 (hld _ hx4);simp only[n3,simprocAttr,h3,hstr];refine D1 dd1 (be1 u names P8 w4 hu (by omega)) ?_;rw[hfirst];have hget:=aC3 (fun f=>decide (f.name=P8)) p.procs 0
 change 0≤R9 p.procs P8→_ at hget
 change 0≤R9 p.procs P8→∃k,R9 p.procs P8=_∧_ at hget
 generalize R9 p.procs P8=first at hget hsc
 obtain⟨w9,s1,s2,s3⟩:=hret w4 hx4 (5,0);simp only[n3,n8,simprocAttr,e1,l4];refine D1 cx0 (aW3 vg p.globals w4 (hgw w4 (hx12.trans hx4)) (by omega)) ?_;rcases ew5 (X6 p.globals)with ht1|ht1
 ·simp only[n3,simprocAttr,ht1,e2,O3,s1];refine L0 results97 (by simp only[p7,simprocAttr];exact e2) s2 ?_;exact⟨by rw[hsc,ht1];rfl,s3⟩
 simp only[n3,simprocAttr,ht1,h3];refine D1 cx0 (aW3 u names w4 hu (by omega)) ?_;rcases ew5 (X6 names)with ht2|ht2
 ·simp only[n3,simprocAttr,ht2,e2,O3,s1];refine L0 results97 (by simp only[p7,simprocAttr];exact e2) s2 ?_;exact⟨by rw[hsc,ht1,ht2];rfl,s3⟩
 rcases ew5 (decide (first<0))with ht3|ht3
 ·simp only[n3,n8,simprocAttr,ht2,ht3,e2,O3,s1];refine L0 results97 (by simp only[p7,simprocAttr];exact e2) s2 ?_;exact⟨by rw[hsc,ht1,ht2,ht3];rfl,s3⟩
 obtain⟨k,rfl,q,hq,_⟩:=hget (by simpa using ht3);rw[ez8]at hsc ht3;obtain⟨va,_,_,_,hva,_,_,_,ldq,_⟩:=(hp.at_ hq).pr;have hwq:T3 q≤1000000:=ao4 p hw q (ey5 hq);have hpl:=af6 q.params;have lq:=ldq w4 (b7 (hx12.trans hx4));have hz:A3.sz Pr=5:=rfl;rw[hz]at lq;have hin:=hp.inS (ex1.1 hq).1;have hSa:=hva.isS;have hna:=hva.vlen;have hpar:(p.procs.getD (Int.toNat (k:Nat)) bo8).params=q.params:=by rw[ez1,List.getD,hq];rfl
 rw[hpar]at hsc;rcases ew5 (decide (0<(q.params.length:Int)))with ht4|ht4
 ·simp only[n3,n8,v8,simprocAttr,ht2,ht3,ht4,e1,l4,hin,lq,hSa,hna,e2,O3,s1];refine L0 results97 (by simp only[p7,simprocAttr];exact e2) s2 ?_;have ht5:decide (0<q.params.length)=true:=by simpa using ht4
  exact⟨by rw[hsc,ht1,ht2,ht3,ht5];rfl,s3⟩
 have ht5:decide (0<q.params.length)=false:=by simpa using ht4
 have hsc2:N7 p=(L6 p (b9 p) names 0 p.procs).getD (0,0):=by rw[hsc,ht1,ht2,ht3,ht5];rfl
 clear hsc hret s1 s2 s3;have hret:=fun(w':World) (h:o6 w2 w')=>ak9 hrb h hge hx12;simp only[n3,n8,v8,simprocAttr,ht2,ht3,ht4,e1,l4,hin,lq,hSa,hna,lw4];refine z6 aO2 (ag5 v p w4 (hv.mono (b7 (hx12.trans hx4))) hw) ?_;rintro us w5 ⟨sh,rfl,hsh,hx5⟩;have hx25:=hx4.trans hx5;have l5:=ld w5 (hld _ hx25);simp only[n3,n8,simprocAttr,e1,l5,hSp,hnp];refine n7 [1,2,3,7,57,58] (σ:=Nat) (fun k f w'=>f 59 = .int .i64 k∧k≤p.procs.length∧L6 p (b9 p) names 0 p.procs=L6 p (b9 p) names k (p.procs.drop k)∧o6 w5 w') (fun k=>p.procs.length-k) 0 (by decide +kernel) ?_ ?_
 ·simp only[p7,simprocAttr];exact⟨by trivial,ex6 _,by rw[eE8],o9.refl _⟩
 rintro i f2 w6 hk ⟨h59,hil,hsp,hx6⟩;simp only[ew6,p7,simprocAttr]at hk;obtain⟨e1',e2',e3,e7,e57,e58,_⟩:=hk;rw[e1]at e1';rw[e2]at e2';rw[h3]at e3;have hx26:=hx25.trans hx6;simp only[n3,n8,simprocAttr,h59,e58];refine i5 (fun hc=>?_) (fun hc=>?_);rotate_left
 ·have hge2:i=p.procs.length:=by simp at hc;omega
  subst hge2;rw[eF5]at hsp;obtain⟨w9,s1,s2,s3⟩:=hret w6 hx26 (0,0);simp only[n3,simprocAttr,e2',aE7,s1];refine L0 results97 (by simp only[p7,simprocAttr];exact e2') s2 ?_;exact⟨by rw[hsc2,hsp];rfl,s3⟩
 have hlt:i<p.procs.length:=by simpa using hc
 have hin:=hp.inS hlt;obtain⟨sv,hsv,hld⟩:=F4 (P:=prog) (t:=51) hp (b7 (hx12.trans hx26)) (ew4 hlt) aj1 aj3 aj2 N0;rw[N0]at hld;have hdrop:p.procs.drop i=p.procs[i]::p.procs.drop (i+1):=eA2 hlt;obtain⟨x,hok,_⟩:=Y5 p hw i hlt;have hwy:=ao4 p hw _ (ex8 hlt);have hwl:∀it∈(b9 p).of i,O0 it.s≤1000000:=fun it h=>by
  rw[hok.of_]at h;exact ac5 p hw it (eG0 (eI3 h))
 have hlen:((b9 p).of i).length≤1000000:=by
  rw[hok.of_,eB8,ex4];have:=hok.fit;omega
 generalize p.procs[i]=y at hsv hdrop hwy hok;rw[hdrop,L6]at hsp;obtain⟨b,wz,w7,hal7,hst7,hx7,hat⟩:=aH0 (w:=w6) (fun _=>False) hsv (fun _ h=>h.elim);obtain⟨ldQ,_⟩:=I4.pr_v hsv hat;have lQ7:=ldQ w7 (B3 _ _);have hx27:=hx26.trans hx7;simp only[n3,n8,v8,simprocAttr,h59,e57,hin,hld,hal7,hst7,lQ7];refine z6 ef8 (cP4 sv y w7 (hsv.mono (b7 (hx12.trans hx27))) hwy) ?_;rintro uo w8 ⟨ho8,hx8⟩;have huo:=ho8.rw_ (b7 hx8);have hx28:=hx27.trans hx8;have hol:(bj2 y).length≤1000000:=by
  have h1:=af6 y.params;have h2:=S3 y.vars;unfold T3 at hwy;unfold bj2;rw[ew7,ex7];omega
 simp only[n3,simprocAttr];refine D1 cx0 (aW3 uo (bj2 y) w8 huo (by omega)) ?_;obtain⟨w9,s1,s2,s3⟩:=hret w8 hx28 (5,0);rcases ew5 (X6 (bj2 y))with ht6|ht6
 ·simp only[n3,simprocAttr,ht6,e2',O3,s1];refine L0 results97 (by simp only[p7,simprocAttr];exact e2') s2 ?_;exact⟨by rw[hsc2,hsp,V9,ht6];rfl,s3⟩
 clear s1 s2 s3;simp only[n3,simprocAttr,ht6,e1'];refine B7 ef9 (aM4 (fun n=>p.globals.contains n) 148 #[.pointer (some a)] uo (bj2 y) w8 eg0 huo (by omega) (fun n w' hx' _=>bT3 n a p w' (ha2 w' (hx28.trans hx')) (by omega))) (fun w9 hx9=>?_);have hx29:=hx28.trans hx9;obtain⟨w10,s1,s2,s3⟩:=hret w9 hx29 (5,0);rcases ew5 ((bj2 y).any fun n=>p.globals.contains n)with ht7|ht7
 ·simp only[n3,simprocAttr,ht7,e2',O3,s1];refine L0 results97 (by simp only[p7,simprocAttr];exact e2') s2 ?_;exact⟨by rw[hsc2,hsp,V9,ht6,ht7];rfl,s3⟩
 clear s1 s2 s3;have hsp3:V9 p names y ((b9 p).of i)=match((b9 p).of i).find? fun it=>!ab9 p y names it.s with
   | some it=>some (5,it.s.id)
   | none=>none:=by rw[V9,ht6,ht7];rfl
 rw[hsp3]at hsp;simp only[n3,simprocAttr,ht7,e7];refine z6 aZ1 (aQ5 sh (b9 p) i x _ w9 (hsh.mono (b7 (hx6.trans (hx7.trans (hx8.trans hx9))))) hok) ?_;rintro ul w10 ⟨hul,hx10⟩;have hx210:=hx29.trans hx10;generalize(b9 p).of i=l at hul hwl hsp hlen;have hSl:=hul.isS;have hnl2:=hul.vlen;simp only[n3,n8,simprocAttr,hSl,hnl2];refine n7 [1,2,3,7,9,57,58,59,76,77] (σ:=Nat) (fun m f w'=>f 78 = .int .i64 m∧m≤l.length∧(∀j (hj:j<l.length),j<m→ab9 p y names l[j].s=true)∧o6 w10 w') (fun m=>l.length-m) 0 (by decide +kernel) ?_ ?_
 ·simp only[p7,simprocAttr];exact⟨by trivial,ex6 _,fun j _ h=>by omega,o9.refl _⟩
 rintro m f3 w11 hk ⟨h78,hml,hno,hx11⟩;simp only[ew6,p7,simprocAttr]at hk;obtain⟨g1,g2,g3,g7,g9,g57,g58,g59,g76,g77,_⟩:=hk;rw[e1']at g1;rw[e2']at g2;rw[e3]at g3;rw[e7]at g7;rw[h59]at g59;have hx211:=hx210.trans hx11;simp only[n3,n8,simprocAttr,h78,g77];refine i5 (fun hc=>?_) (fun hc=>?_);rotate_left
 ·have hge2:m=l.length:=by simp at hc;omega
  subst hge2;have hfind:l.find? (fun it=>!ab9 p y names it.s)=none:=eF0.2 fun it hit=>by
   obtain⟨j,hj,rfl⟩:=eB5.1 hit;rw[hno j hj hj];simp
  rw[hfind]at hsp;simp only[n3,n8,simprocAttr,g59];refine⟨i+1,by omega,by rw[B2 i (by omega)],by omega,hsp,?_⟩;exact hx6.trans (hx7.trans (hx8.trans (hx9.trans (hx10.trans hx11))))
 have hmt:m<l.length:=by simpa using hc
 clear hin hld;have hin:=hul.inS hmt;obtain⟨sv2,hsv2,hld2⟩:=F4 (P:=prog) (t:=121) hul (b7 hx11) (ew4 hmt) X7 X9 X8 I6;rw[I6]at hld2;have hwit:=hwl _ (ex8 hmt);obtain⟨c,wz2,w12,hal12,hst12,hx12',hati⟩:=ay3 (hsv2.mono (b7 hx11)) (i4 _);obtain⟨hats,_,_⟩:=hati.it;obtain⟨vt,hvt,ldT,_⟩:=hats.st_v;obtain⟨_,_,_,_,_,_,_,_,_,ldt,_⟩:=hats.st;have hx212:=hx211.trans hx12';have k1:=lw w12 (hld _ hx212);have k2:=ldQ w12 (p6 (B3 _ _) (b7 (hx8.trans (hx9.trans (hx10.trans (hx11.trans hx12'))))));have k3:=ldT w12 (i4 _);simp only[n3,n8,v8,simprocAttr,h78,g1,g3,g9,g76,hin,hld2,hal12,hst12,k1,k2,k3];refine B7 eg1 (cl3 v sv u vt p y names l[m].s w12 (hv.mono (b7 (hx12.trans hx212))) (hsv.mono (b7 (hx12.trans hx212))) (A3.mono (b7 (hx5.trans (hx6.trans (hx7.trans (hx8.trans (hx9.trans (hx10.trans (hx11.trans hx12')))))))) hu) hvt hw hwy hwit (by omega)) (fun w13 hx13=>?_);have hx213:=hx212.trans hx13;rcases ew5 (ab9 p y names l[m].s)with hkn|hkn
 ·simp only[n3,n8,simprocAttr,hkn,h78];refine⟨m+1,by omega,by rw[B2 m (by omega)],by omega,fun j hj hjm=>?_,hx11.trans (hx12'.trans hx13)⟩;rcases eA1 j m with h|h
  ·exact hno j hj h
  ·obtain rfl:j=m:=by omega
   exact hkn
 ·have k4:=ldt w13 (b7 hx13);obtain⟨w14,s1,s2,s3⟩:=hret w13 hx213 (5,l[m].s.id);simp only[n3,n8,simprocAttr,hkn,k4,g2,as0,s1];refine L0 results97 (by simp only[p7,simprocAttr];exact g2) s2 ?_;have hfind:l.find? (fun it=>!ab9 p y names it.s)=some l[m]:=eE7.2 ⟨by rw[hkn];rfl,m,hmt,rfl,fun j hj=>by rw[hno j (by omega) hj];rfl⟩;rw[hfind]at hsp;exact⟨by rw[hsc2,hsp];rfl,s3⟩
theorem eg2:ag0 prog 150=true:=by kernel_rfl
theorem ei3:ag0 prog 214=true:=by kernel_rfl
theorem cx9:ag0 prog 97=true:=by kernel_rfl
theorem aj8(e:Int×Int):aB5 prog 107 0 (R4 e)=some (.int .i64 e.1):=rfl
theorem cu3:H2 prog 4=1:=by kernel_rfl
theorem bc6{a b:Bool}:B9 prog .neq 4 (.bool a) (.bool b)=some (.bool !(a==b)):=by
 simp only[B9,cu3,eC9]
theorem aJ3{α β:Type}(p:α×β→Bool):∀(l:List α) (m:List β) (k:Nat) (h1:k<l.length) (h2:k<m.length),p (l[k],m[k])=false→(l.zip m).all p=false
 | [],_,_,h,_,_=>by simp at h
 | _::_,[],_,_,h,_=>by simp at h
 | a::l,b::m,0,_,_,h=>by
  have h':p (a,b)=false:=h;simp[h']
 | a::l,b::m,k+1,h1,h2,h=>by
  have:=aJ3 p l m k (by simpa using h1) (by simpa using h2) h;simp only[List.zip_cons_cons,List.all_cons,this,Bool.and_false]
theorem aS2{α β:Type}(p:α×β→Bool):∀(l:List α) (m:List β),(∀k (h1:k<l.length) (h2:k<m.length),p (l[k],m[k])=true)→(l.zip m).all p=true
 | [],_,_=>by simp
 | _::_,[],_=>by simp
 | a::l,b::m,h=>by
  have h0:p (a,b)=true:=h 0 (by simp) (by simp);simp only[List.zip_cons_cons,List.all_cons,h0,eG4];exact aS2 p l m fun k h1 h2=>h (k+1) (by simpa using h1) (by simpa using h2)
theorem cC4(vl va:Value)(l:List Pa)(a:List Ar)(w:World)(hl:R (d7 w) vl l)(ha:R (d7 w) va a)(h1:l.length≤1000000)(h2:a.length≤1000000):
  Calls prog 214 #[vl,va] w fun e w'=>∃u,e = .returned u∧(u = .bool (bk1 l a)∧o6 w w'):=by
 refine d9 (args:=[vl,va]) hm func214 rfl (by kernel_rfl) (by show 2≤_;decide +kernel) ?_;have hS1:=hl.isS;have hn1:=hl.vlen;have hS2:=ha.isS;have hn2:=ha.vlen;have hdn:decide ((l.length:Int)=(a.length:Int))=decide (l.length=a.length):=by rw[eB0];omega
 rcases ew5 (decide (l.length=a.length))with hlen|hlen;rotate_left
 ·simp only[n3,n8,simprocAttr,hS1,hn1,hS2,hn2,hdn,hlen];refine n9 results214 ?_;simp only[p7,simprocAttr];exact⟨by rw[bk1,hlen];rfl,o9.refl _⟩
 have hlen':l.length=a.length:=ew8 hlen;have hF:bk1 l a=(l.zip a).all fun x=>x.1.ref==x.2.ref:=by rw[bk1,hlen,eG4]
 simp only[n3,n8,simprocAttr,hS1,hn1,hS2,hn2,hdn,hlen];refine n7 [1,12,13] (σ:=Nat) (fun k f w'=>f 14 = .int .i64 k∧k≤l.length∧(∀j (hj:j<l.length) (hj2:j<a.length),j<k→(l[j].ref==a[j].ref)=true)∧o6 w w') (fun k=>l.length-k) 0 (by decide +kernel) ?_ ?_
 ·simp only[p7,simprocAttr];exact⟨by trivial,ex6 _,fun j _ _ h=>by omega,o9.refl _⟩
 ·rintro k f w3 hk ⟨h14,hkl,hno,hx3⟩;simp only[ew6,p7,simprocAttr]at hk;obtain⟨e1,e12,e13,_⟩:=hk;simp only[n3,n8,simprocAttr,h14,e13];refine i5 (fun hc=>?_) (fun hc=>?_)
  ·have hlt:k<l.length:=by simpa using hc
   have hlt2:k<a.length:=by omega
   have hin:=hl.inS hlt;obtain⟨sv,hsv,hld⟩:=F4 (P:=prog) (t:=68) hl (b7 hx3) (ew4 hlt) bb2 bb7 bb5 ap0;rw[ap0]at hld;obtain⟨c,wz,w4,hal,hst,hx4,hat⟩:=aG7 (hsv.mono (b7 hx3)) (i4 _);obtain⟨_,sdy⟩:=hat.pa;have hx4d:o6 w w4.drew:=hx3.trans (hx4.trans (o6.drew w4));obtain⟨_,_,sda⟩:=(ha.at_ (ew4 hlt2)).ar;have s1:=sdy (fun w'=>o6 w4.drew w') w4.drew (o9.refl _) fun w' h=>b7 ((o6.drew w4).trans h);have s2:=sda (fun w'=>o6 w4.drew w') w4.drew (o9.refl _) fun w' h=>b7 (hx4d.trans h);have hz:A3.sz Ar=6:=rfl;rw[hz]at s2;have hin2:=ha.inS hlt2;simp only[n3,n8,v8,simprocAttr,h14,e12,hin,hld,hal,hst];refine C2 (fun w'=>o6 w4.drew w') 8 (B0 [0,1,2,3,4,5,6,7]) (by decide +kernel) (o9.refl _) ?_;rcases ew5 (l[k].ref==a[k].ref)with hq|hq
   ·simp only[D5,B0,n3,n8,v8,simprocAttr,s1,s2,hin2,bc6,hq,h14,e1];refine⟨k+1,by omega,by rw[B2 k (by omega)],by omega,fun j hj hj2 hjk=>?_,hx4d⟩;rcases eA1 j k with h|h
    ·exact hno j hj hj2 h
    ·obtain rfl:j=k:=by omega
     exact hq
   ·simp only[D5,B0,n3,n8,v8,simprocAttr,s1,s2,hin2,bc6,hq,e1];refine n9 results214 ?_;simp only[p7,simprocAttr];exact⟨by rw[hF,aJ3 _ l a k hlt hlt2 hq],hx4d⟩
  ·have hge:k=l.length:=by simp at hc;omega
   subst hge;simp only[n3,simprocAttr];refine n9 results214 ?_;simp only[p7,simprocAttr];exact⟨by rw[hF,aS2 _ l a fun j hj hj2=>hno j hj hj2 hj],hx3⟩
theorem cu8(vp vt:Value)(p:Pg)(t:St)(w:World)(hp:SV (d7 w) vp p)(ht:SV (d7 w) vt t)(hwp:D6 p≤1000000)(hwt:O0 t≤1000000):
  Calls prog 150 #[vp,vt] w fun e w'=>∃u,e = .returned u∧(u = .bool (ab6 p t)∧o6 w w'):=by
 refine d9 (args:=[vp,vt]) hm func150 rfl (by kernel_rfl) (by show 2≤_;decide +kernel) ?_;obtain⟨a,w1,hb1,hx1,ha1⟩:=R3 hp (i4 _);obtain⟨b,w2,hb2,hx2,ha2⟩:=aj6 (ht.mono (b7 hx1)) (i4 _);obtain⟨_,vps,_,hps,ldp,_⟩:=ha1.pg;obtain⟨_,vas,_,_,_,hvas,_,_,_,ldt,_⟩:=ha2.st;have hx12:=hx1.trans hx2;have lt2:=ldt w2 (i4 _);have lp2:=ldp w2 (b7 hx2);have hS:=hps.isS;have hn:=hps.vlen;rw[P4]at hwt;have hal:=al9 t.args;have hlenp:=aa9 p.procs;have hwf:=ao4 p hwp;unfold D6 at hwp;rcases ew5 (decide (t.kind=4))with hk4|hk4;rotate_left
 ·simp only[n3,n8,simprocAttr,hb1,hb2,lt2,hk4];refine n9 results150 ?_;simp only[p7,simprocAttr];exact⟨by rw[ab6,hk4];rfl,hx12⟩
 have hF:ab6 p t=match p.procs.find? fun f=>decide (f.name=t.proc)with
  | some f=>bk1 f.params t.args
  | none=>false:=by rw[ab6,hk4,eG4]<;>rfl
 simp only[n3,n8,simprocAttr,hb1,hb2,lt2,lp2,hk4,hS,hn];refine n7 [3,11,12] (σ:=Nat) (fun k f w'=>f 13 = .int .i64 k∧k≤p.procs.length∧(∀j (hj:j<p.procs.length),j<k→decide (p.procs[j].name=t.proc)=false)∧o6 w2 w') (fun k=>p.procs.length-k) 0 (by decide +kernel) ?_ ?_
 ·simp only[p7,simprocAttr];exact⟨by trivial,ex6 _,fun j _ h=>by omega,o9.refl _⟩
 ·rintro k f w3 hk ⟨h13,hkl,hno,hx3⟩;simp only[ew6,p7,simprocAttr]at hk;obtain⟨e3,e11,e12,_⟩:=hk;simp only[n3,n8,simprocAttr,h13,e12];refine i5 (fun hc=>?_) (fun hc=>?_)
  ·have hlt:k<p.procs.length:=by simpa using hc
   have hin:=hps.inS hlt;obtain⟨sv,hsv,hld⟩:=F4 (P:=prog) (t:=51) hps (b7 (hx2.trans hx3)) (ew4 hlt) aj1 aj3 aj2 N0;rw[N0]at hld;obtain⟨c,wz,w4,hal4,hst,hx4,hat⟩:=aG8 (hsv.mono (b7 (hx2.trans hx3))) (i4 _);obtain⟨vpa,_,_,_,hvpa,_,_,_,ldy,_⟩:=hat.pr;have l4:=ldy w4 (i4 _);have lt4:=ldt w4 (b7 (hx3.trans hx4));have hend:=hx12.trans (hx3.trans hx4);rcases ew5 (decide (p.procs[k].name=t.proc))with hq|hq
   ·have hfind:p.procs.find? (fun f=>decide (f.name=t.proc))=some p.procs[k]:=eE7.2 ⟨hq,k,hlt,rfl,fun j hj=>by rw[hno j (by omega) hj];rfl⟩;have hwk:=hwf _ (ex8 hlt);have hpl:=af6 p.procs[k].params;unfold T3 at hwk;simp only[n3,n8,v8,simprocAttr,h13,e3,e11,hin,hld,hal4,hst,l4,lt4,hq];refine B7 ei3 (cC4 vpa vas _ _ w4 hvpa (A3.mono (b7 (hx3.trans hx4)) hvas) (by omega) (by omega)) (fun w5 hx5=>?_);simp only[n3,simprocAttr];refine n9 results150 ?_;simp only[p7,simprocAttr];exact⟨by simp only[hF,hfind],hend.trans hx5⟩
   ·simp only[n3,n8,v8,simprocAttr,h13,e3,e11,hin,hld,hal4,hst,l4,lt4,hq];refine⟨k+1,by omega,by rw[B2 k (by omega)],by omega,fun j hj hjk=>?_,hx3.trans hx4⟩;rcases eA1 j k with h|h
    ·exact hno j hj h
    ·obtain rfl:j=k:=by omega
     exact hq
  ·have hge:k=p.procs.length:=by simp at hc;omega
   subst hge;have hfind:p.procs.find? (fun f=>decide (f.name=t.proc))=none:=eF0.2 fun it hit=>by
    obtain⟨j,hj,rfl⟩:=eB5.1 hit;rw[hno j hj hj];simp
   simp only[n3,simprocAttr];refine n9 results150 ?_;simp only[p7,simprocAttr];exact⟨by simp only[hF,hfind],hx12.trans hx3⟩
theorem aA8(v:Value)(p:Pg)(w:World)(hv:SV (d7 w) v p)(hw:D6 p≤1000000):Calls prog 98 #[v] w fun e w'=>∃u,e = .returned u∧(u=R4 (X0 p)∧o6 w w'):=by
 refine d9 (args:=[v]) hm func98 rfl (by kernel_rfl) (by show 1≤_;decide +kernel) ?_;obtain⟨a,w1,hbx,hx1,ha⟩:=V2 (w:=w) (fun _=>False) hv (fun _ h=>h.elim);obtain⟨lw,_⟩:=I4.pg_v hv ha;obtain⟨rb,w2,hal,hx2,hrb,hge1⟩:=ar8 w1;have hge:w.heap.size≤rb:=ex3 hx1.size hge1;have hx12:=hx1.trans hx2;have hlw:∀w',o6 w2 w'→B4 (B8 w1 fun _=>False) (d7 w'):=fun w' h=>p6 (B3 _ _) (b7 (hx2.trans h));have lw2:=lw w2 (hlw _ (o9.refl _));have hret:=fun(w':World) (h:o6 w2 w')=>ak9 hrb h hge hx12;simp only[n3,n8,simprocAttr,hbx,hal,lw2];refine B7 cx9 (ac4 v p w2 (hv.mono (b7 hx12)) hw) (fun w3 hx3=>?_);rcases ew5 (decide ((N7 p).1=0))with hsc|hsc;rotate_left
 ·obtain⟨w9,s1,s2,s3⟩:=hret w3 hx3 (1,0);simp only[n3,n8,simprocAttr,aj8,hsc,O3,s1];refine L0 results98 (by simp only[p7,simprocAttr]) s2 ?_;exact⟨by rw[X0,if_pos (ew9 hsc)],s3⟩
 have hF:X0 p=match(b9 p).l.find? fun it=>decide (it.s.kind=4) && !ab6 p it.s with
  | some it=>(6,it.s.id)
  | none=>(0,0):=by rw[X0,if_neg (by simpa using hsc)]<;>rfl
 have lw3:=lw w3 (hlw _ hx3);simp only[n3,n8,simprocAttr,aj8,hsc,lw3];refine z6 aO2 (ag5 v p w3 (hv.mono (b7 (hx12.trans hx3))) hw) ?_;rintro us w4 ⟨sh,rfl,hsh,hx4⟩;have hx24:=hx3.trans hx4;obtain⟨vL,vlo,vhi,hL,hlo,hhi,hap,ldsh,_⟩:=hsh.sh;have lsh:=ldsh w4 (i4 _);have hS:=hL.isS;have hn:=hL.vlen;have hsl:=au3 p;have hcl:=bx9 p;have hwl:=ac5 p hw;generalize(b9 p).l=l at hL hS hn hsl hwl hF;simp only[n3,n8,simprocAttr,lsh,hS,hn];refine n7 [1,2,14,15] (σ:=Nat) (fun m f w'=>f 16 = .int .i64 m∧m≤l.length∧(∀j (hj:j<l.length),j<m→(decide (l[j].s.kind=4) && !ab6 p l[j].s)=false)∧o6 w4 w') (fun m=>l.length-m) 0 (by decide +kernel) ?_ ?_
 ·simp only[p7,simprocAttr];exact⟨by trivial,ex6 _,fun j _ h=>by omega,o9.refl _⟩
 rintro m f3 w5 hk ⟨h16,hml,hno,hx5⟩;simp only[ew6,p7,simprocAttr]at hk;obtain⟨g1,g2,g14,g15,_⟩:=hk;have hx25:=hx24.trans hx5;simp only[n3,n8,simprocAttr,h16,g15];refine i5 (fun hc=>?_) (fun hc=>?_);rotate_left
 ·have hge2:m=l.length:=by simp at hc;omega
  subst hge2;have hfind:l.find? (fun it=>decide (it.s.kind=4) && !ab6 p it.s)=none:=eF0.2 fun it hit=>by
   obtain⟨j,hj,rfl⟩:=eB5.1 hit;rw[hno j hj hj];simp
  rw[hfind]at hF;obtain⟨w9,s1,s2,s3⟩:=hret w5 hx25 (0,0);simp only[n3,simprocAttr,g2,aE7,s1];refine L0 results98 (by simp only[p7,simprocAttr];exact g2) s2 ?_;exact⟨by rw[hF],s3⟩
 have hlt:m<l.length:=by simpa using hc
 have hin:=hL.inS hlt;obtain⟨sv,hsv,hld⟩:=F4 (P:=prog) (t:=121) hL (b7 hx5) (ew4 hlt) X7 X9 X8 I6;rw[I6]at hld;have hwit:=hwl _ (ex8 hlt);obtain⟨c,wz2,w6,hal6,hst6,hx6,hati⟩:=ay3 (hsv.mono (b7 hx5)) (i4 _);obtain⟨hats,_,_⟩:=hati.it;obtain⟨vt,hvt,ldT,_⟩:=hats.st_v;obtain⟨_,_,_,_,_,_,_,_,_,ldt,_⟩:=hats.st;have hx26:=hx25.trans hx6;have k1:=lw w6 (hlw _ hx26);have k2:=ldt w6 (i4 _);have k3:=ldT w6 (i4 _);have hend:∀w7,o6 w6 w7→(decide (l[m].s.kind=4) && !ab6 p l[m].s)=false→∃s:Nat,l.length-s<l.length-m∧(Value.int .i64 (IntKind.i64.wrap ((m:Int)+1))) = .int .i64 s∧s≤l.length∧(∀j (hj:j<l.length),j<s→(decide (l[j].s.kind=4) && !ab6 p l[j].s)=false)∧o6 w4 w7:=fun w7 hx7 hq=>by
  refine⟨m+1,by omega,by rw[B2 m (by omega)],by omega,fun j hj hjm=>?_,hx5.trans (hx6.trans hx7)⟩;rcases eA1 j m with h|h
  ·exact hno j hj h
  ·obtain rfl:j=m:=by omega
   exact hq
 rcases ew5 (decide (l[m].s.kind=4))with hk4|hk4
 ·simp only[n3,n8,v8,simprocAttr,h16,g1,g14,hin,hld,hal6,hst6,k1,k2,k3,hk4];refine B7 eg2 (cu8 v vt p l[m].s w6 (hv.mono (b7 (hx12.trans hx26))) hvt hw hwit) (fun w7 hx7=>?_);rcases ew5 (ab6 p l[m].s)with hq|hq
  ·simp only[n3,n8,simprocAttr,hq,h16];exact hend w7 hx7 (by rw[hk4,hq];rfl)
  ·have k4:=ldt w7 (b7 hx7);obtain⟨w9,s1,s2,s3⟩:=hret w7 (hx26.trans hx7) (6,l[m].s.id);simp only[n3,n8,simprocAttr,hq,k4,g2,as0,s1];refine L0 results98 (by simp only[p7,simprocAttr];exact g2) s2 ?_;have hfind:l.find? (fun it=>decide (it.s.kind=4) && !ab6 p it.s)=some l[m]:=eE7.2 ⟨by rw[hk4,hq];rfl,m,hlt,rfl,fun j hj=>by rw[hno j (by omega) hj];rfl⟩;rw[hfind]at hF;exact⟨by rw[hF],s3⟩
 ·simp only[n3,n8,v8,simprocAttr,h16,g14,hin,hld,hal6,hst6,k2,hk4];exact hend w6 (o9.refl _) (by rw[hk4];rfl)
def eC8:=@List.eq_of_mem_replicate
def eC1:=@List.mem_append_left
def eI1:=@List.mem_append_right
def eE4:=@List.mem_or_eq_of_mem_set
def eB4:=@List.pairwise_cons
def C3(nx:List (List Int))(a:Int):List Int:=if 0≤a∧a<nx.length then nx.getD a.toNat []else[]
def G9(n:Nat)(a:Int):Bool:=decide (0≤a)&&decide (a<n)
theorem C7{n:Nat}{a:Int}:G9 n a=true↔0≤a∧a<n:=by simp[G9]
theorem aQ0{nx:List (List Int)}{a:Int}(h:G9 nx.length a=false):C3 nx a=[]:=by
 unfold C3;rw[if_neg (fun hh=>by rw[C7.2 hh]at h;cases h)]
theorem ak3{nx:List (List Int)}{a:Int}(h:G9 nx.length a=true):nx[a.toNat]?=some (C3 nx a)∧a.toNat<nx.length:=by
 have hh:=C7.1 h;unfold C3;rw[if_pos hh];have:a.toNat<nx.length:=by omega
 exact⟨by simp[List.getD,this],this⟩
theorem ao2{nx:List (List Int)}{a:Int}(h:G9 nx.length a=true):C3 nx a∈nx:=ey5 (ak3 h).1
def aO4(l:List Int)(x:Int):List Int:=l.take (l.countP (· < x))++x::l.drop (l.countP (· < x))
def ai5(nx:List (List Int))(a b:Int):Bool:=G9 nx.length a&&G9 nx.length b && !(C3 nx a).contains b
def bP2(nx:List (List Int))(a b:Int):List (List Int):=if ai5 nx a b then nx.set a.toNat (aO4 (C3 nx a) b)else nx
def bP3(nx pv:List (List Int))(a b:Int):List (List Int):=if ai5 nx a b then pv.set b.toNat (aO4 (C3 pv b) a)else pv
theorem cN7{y x:Int}{l:List Int}(h:y<x):aO4 (y::l) x=y::aO4 l x:=by
 simp[aO4,h]
theorem bF1{l:List Int}{x:Int}(h:∀y∈l,x≤y):l.countP (· < x)=0:=by
 rw[List.countP_eq_zero];intro y hy;have:=h y hy;simp;omega
theorem cN6{y x:Int}{l:List Int}(h:x≤y)(hs:(y::l).Pairwise (· < ·)):aO4 (y::l) x=x::y::l:=by
 have:=bF1 (l:=y::l) (x:=x) (by
  intro z hz;rcases ey3.1 hz with rfl|hz
  ·exact h
  ·have:=(eB4.1 hs).1 z hz;omega)
 unfold aO4;rw[this];simp
theorem as9{x y:Int}{l:List Int}:y∈aO4 l x↔y=x∨y∈l:=by
 unfold aO4;constructor
 ·intro h;rcases ey1.1 h with h|h
  ·exact .inr (eG0 h)
  ·rcases ey3.1 h with h|h
   ·exact .inl h
   ·exact .inr (eI3 h)
 ·rintro(rfl|h)
  ·simp
  ·rw[←ez9 (l.countP (· < x)) l]at h;rcases ey1.1 h with h|h
   ·exact eC1 _ h
   ·exact eI1 _ (eD1 _ h)
theorem aZ3{x:Int}:∀{l:List Int},l.Pairwise (· < ·)→x∉l→(aO4 l x).Pairwise (· < ·)
 | [],_,_=>by simp[aO4]
 | y::l,hs,hn=>by
  have hs':=eB4.1 hs;rcases Int.lt_or_le y x with h|h
  ·rw[cN7 h,eB4];refine⟨fun z hz=>?_,aZ3 hs'.2 fun hx=>hn (eD1 _ hx)⟩;rcases as9.1 hz with rfl|hz
   ·exact h
   ·exact hs'.1 z hz
  ·rw[cN6 h hs,eB4];refine⟨fun z hz=>?_,hs⟩;have hne:x≠y:=fun e=>hn (by simp[e]);rcases ey3.1 hz with rfl|hz
   ·omega
   ·have:=hs'.1 z hz;omega
theorem ax5{n:Int}:∀{l:List Int} {m:Int},l.Pairwise (· < ·)→(∀y∈l,m≤y∧y<n)→m≤n→(l.length:Int)≤n-m
 | [],m,_,_,hm=>by simp;omega
 | y::l,m,hs,hb,hm=>by
  have hs':=eB4.1 hs;have hy:=hb y (by simp);have:=ax5 (l:=l) (m:=y+1) hs'.2 (fun z hz=>⟨by have:=hs'.1 z hz;omega,(hb z (eD1 _ hz)).2⟩) (by omega);simp only[ey7];omega
structure D7 (n:Nat) (l:List (List Int)):Prop where
 len:l.length=n
 le:∀x∈l,x.Pairwise (· < ·)
 ok:∀x∈l,∀y∈x,G9 n y=true
theorem D7.row_len{n:Nat}{l:List (List Int)}(h:D7 n l){x:List Int}(hx:x∈l):x.length≤n:=by
 have:=ax5 (n:=n) (m:=0) (h.le x hx) (fun y hy=>C7.1 (h.ok x hx y hy)) (by omega);omega
theorem bh2(n:Nat):D7 n (List.replicate n []):=
 ⟨by simp,fun x hx=>by simp[eC8 hx],fun x hx y hy=>by simp[eC8 hx]at hy⟩
theorem D7.ins{n:Nat}{l:List (List Int)}(h:D7 n l){a b:Int}(hb:G9 n b=true)(ha:G9 n a=true)(hn:b∉C3 l a):D7 n (l.set a.toNat (aO4 (C3 l a) b)):=by
 have hm:=ao2 (nx:=l) (a:=a) (by rw[h.len];exact ha);refine⟨by simp[h.len],fun x hx=>?_,fun x hx y hy=>?_⟩
 ·rcases eE4 hx with h1|rfl
  ·exact h.le x h1
  ·exact aZ3 (h.le _ hm) hn
 ·rcases eE4 hx with h1|rfl
  ·exact h.ok x h1 y hy
  ·rcases as9.1 hy with rfl|h1
   ·exact hb
   ·exact h.ok _ hm y h1
theorem bj6{n:Nat}{l:List (List Int)}(hl:l.length=n){a c:Int}{r:List Int}(ha:G9 n a=true):C3 (l.set a.toNat r) c=if c=a then r else C3 l c:=by
 have ha':=C7.1 ha;unfold C3;simp only[eD7];by_cases hc:0≤c∧c<l.length
 ·rw[if_pos hc,if_pos hc];by_cases h:c=a
  ·subst h;rw[if_pos rfl];have:c.toNat<l.length:=by omega
   simp[List.getD,this]
  ·rw[if_neg h];have:a.toNat≠c.toNat:=by omega
   simp[List.getD,this]
 ·rw[if_neg hc,if_neg hc,if_neg (by rintro rfl;exact hc (by omega))]
def ai9(g:List (List Int)×List (List Int))(e:Int×Int):List (List Int)×List (List Int):=(bP2 g.1 e.1 e.2,bP3 g.1 g.2 e.1 e.2)
def ah2(n:Nat)(edges:List (Int×Int)):List (List Int)×List (List Int):=edges.foldl ai9 (List.replicate n [],List.replicate n [])
structure az9 (n:Nat) (g:List (List Int)×List (List Int)):Prop where
 nx:D7 n g.1
 pv:D7 n g.2
 both:∀a b,b∈C3 g.1 a↔a∈C3 g.2 b
theorem bp8{n:Nat}{l:List (List Int)}(hl:l.length=n){a b:Int}:ai5 l a b=true↔G9 n a=true∧G9 n b=true∧b∉C3 l a:=by
 simp[ai5,hl,and_assoc]
theorem az9.grow{n:Nat}{g:List (List Int)×List (List Int)}(h:az9 n g)(e:Int×Int):az9 n (ai9 g e) ∧
  ∀a b,b∈C3 (ai9 g e).1 a↔b∈C3 g.1 a∨((a,b)=e∧G9 n a=true∧G9 n b=true):=by
 obtain⟨x,y⟩:=e;by_cases hok:ai5 g.1 x y=true
 ·obtain⟨h1,h2,h3⟩:=(bp8 h.nx.len).1 hok;have e1:ai9 g (x,y)=(g.1.set x.toNat (aO4 (C3 g.1 x) y),g.2.set y.toNat (aO4 (C3 g.2 y) x)):=by
   simp[ai9,bP2,bP3,hok]
  rw[e1];have h4:x∉C3 g.2 y:=fun hh=>h3 ((h.both x y).2 hh);refine⟨⟨h.nx.ins h2 h1 h3,h.pv.ins h1 h2 h4,fun a b=>?_⟩,fun a b=>?_⟩
  ·simp only[];rw[bj6 h.nx.len h1,bj6 h.pv.len h2];have:=h.both a b;by_cases ha:a=x<;>by_cases hb:b=y
   ·subst ha;subst hb;simp[as9]
   ·subst ha;rw[if_pos rfl,if_neg hb,as9,this];simp[hb]
   ·subst hb;rw[if_pos rfl,if_neg ha,as9,this];simp[ha]
   ·rw[if_neg ha,if_neg hb,this]
  ·simp only[];rw[bj6 h.nx.len h1];by_cases ha:a=x
   ·subst ha;rw[if_pos rfl,as9];constructor
    ·rintro(rfl|hh)
     ·exact .inr ⟨rfl,h1,h2⟩
     ·exact .inl hh
    ·rintro(hh|⟨hh,_⟩)
     ·exact .inr hh
     ·exact .inl (Prod.mk.inj hh).2
   ·rw[if_neg ha];constructor
    ·exact .inl
    ·rintro(hh|⟨hh,_⟩)
     ·exact hh
     ·exact absurd (Prod.mk.inj hh).1 ha
 ·have hno:ai5 g.1 x y=false:=by simpa using hok
  have e1:ai9 g (x,y)=g:=by
   simp[ai9,bP2,bP3,hno]
  rw[e1];refine⟨h,fun a b=>⟨.inl,?_⟩⟩;rintro(hh|⟨hh,h1,h2⟩)
  ·exact hh
  ·obtain⟨rfl,rfl⟩:=Prod.mk.inj hh;by_cases hb:b∈C3 g.1 a
   ·exact hb
   ·exact absurd ((bp8 h.nx.len).2 ⟨h1,h2,hb⟩) hok
theorem bU9(n:Nat)(a:Int):C3 (List.replicate n []) a=[]:=by
 unfold C3;split
 ·simp[List.getD,eG5];split<;>rfl
 ·rfl
theorem aZ0(n:Nat):az9 n (List.replicate n [],List.replicate n []):=
 ⟨bh2 n,bh2 n,fun a b=>by simp[bU9]⟩
theorem az9.grows{n:Nat}:∀(edges:List (Int×Int)) {g:List (List Int)×List (List Int)},az9 n g→az9 n (edges.foldl ai9 g) ∧
  ∀a b,b∈C3 (edges.foldl ai9 g).1 a↔b∈C3 g.1 a∨((a,b)∈edges∧G9 n a=true∧G9 n b=true)
 | [],g,h=>⟨h,fun a b=>by simp⟩
 | e::es,g,h=>by
  obtain⟨h1,h2⟩:=h.grow e;obtain⟨h3,h4⟩:=h1.grows es;refine⟨h3,fun a b=>?_⟩;rw[List.foldl_cons,h4,h2,ey3];constructor
  ·rintro((h|h)|h)
   ·exact .inl h
   ·exact .inr ⟨.inl h.1,h.2⟩
   ·exact .inr ⟨.inr h.1,h.2⟩
  ·rintro(h|⟨h|h,h5⟩)
   ·exact .inl (.inl h)
   ·exact .inl (.inr ⟨h,h5⟩)
   ·exact .inr ⟨h,h5⟩
theorem ae6(n:Nat)(edges:List (Int×Int)):az9 n (ah2 n edges):=(aZ0 n |>.grows edges).1
theorem D7.row{n:Nat}{l:List (List Int)}(h:D7 n l)(a:Int):(C3 l a).Pairwise (· < ·)∧(∀y∈C3 l a,G9 n y=true):=by
 by_cases ha:G9 l.length a=true
 ·exact⟨h.le _ (ao2 ha),h.ok _ (ao2 ha)⟩
 ·rw[aQ0 (by simpa using ha)];exact⟨List.Pairwise.nil,fun y hy=>by cases hy⟩
section
variable {α:Type}
def bI5(le:α→α→Bool)(x:α):List α→List α
 | []=>[x]
 | y::l=>if le x y then x::y::l else y::bI5 le x l
def T6(le:α→α→Bool):List α→List α
 | []=>[]
 | x::l=>bI5 le x (T6 le l)
def ag8(eq:α→α→Bool)(p:α):List α→List α
 | []=>[]
 | y::l=>if eq y p then ag8 eq y l else y::ag8 eq y l
def ad2(eq:α→α→Bool):List α→List α
 | []=>[]
 | x::l=>x::ag8 eq x l
theorem aU1(le:α→α→Bool)(x:α):∀l,(bI5 le x l).Perm (x::l)
 | []=>by simp[bI5]
 | y::l=>by
  rw[bI5];split
  ·exact List.Perm.refl _
  ·exact(List.Perm.cons y (aU1 le x l)).trans (List.Perm.swap _ _ _)
theorem H6(le:α→α→Bool):∀l,(T6 le l).Perm l
 | []=>by simp[T6]
 | x::l=>by rw[T6];exact(aU1 le x _).trans (List.Perm.cons x (H6 le l))
theorem aZ2{le:α→α→Bool}{x:α}:∀{l:List α},(∀a∈x::l,∀b∈x::l,le a b=true∨le b a=true)→(∀a∈x::l,∀b∈x::l,∀c∈x::l,le a b=true→le b c=true→le a c=true) →
  l.Pairwise (fun a b=>le a b=true)→(bI5 le x l).Pairwise (fun a b=>le a b=true)
 | [],_,_,_=>by simp[bI5]
 | y::l,ht,htr,hs=>by
  rw[bI5];rw[eB4]at hs;split
  ·next h=>
   rw[eB4];refine⟨fun z hz=>?_,by rw[eB4];exact hs⟩;rcases ey3.1 hz with rfl|hz
   ·exact h
   ·exact htr x (by simp) y (by simp) z (by simp[hz]) h (hs.1 z hz)
  ·next h=>
   have hyx:le y x=true:=by
    rcases ht x (by simp) y (by simp)with h1|h1
    ·exact absurd h1 h
    ·exact h1
   rw[eB4];refine⟨fun z hz=>?_,aZ2 (fun a ha b hb=>ht a ?_ b ?_) (fun a ha b hb c hc=>htr a ?_ b ?_ c ?_) hs.2⟩
   ·have:=(aU1 le x l).mem_iff.1 hz;rcases ey3.1 this with rfl|hz
    ·exact hyx
    ·exact hs.1 z hz
   all_goals simp only[ey3]at *
   ·rcases ha with h|h<;>simp[h]
   ·rcases hb with h|h<;>simp[h]
   ·rcases ha with h|h<;>simp[h]
   ·rcases hb with h|h<;>simp[h]
   ·rcases hc with h|h<;>simp[h]
theorem ac8{le:α→α→Bool}:∀{l:List α},(∀a∈l,∀b∈l,le a b=true∨le b a=true)→(∀a∈l,∀b∈l,∀c∈l,le a b=true→le b c=true→le a c=true) →
  (T6 le l).Pairwise (fun a b=>le a b=true)
 | [],_,_=>by simp[T6]
 | x::l,ht,htr=>by
  have hm:∀a,a∈x::T6 le l↔a∈x::l:=fun a=>by simp only[ey3,(H6 le l).mem_iff]
  rw[T6];refine aZ2 (fun a ha b hb=>ht a ((hm a).1 ha) b ((hm b).1 hb)) (fun a ha b hb c hc=>htr a ((hm a).1 ha) b ((hm b).1 hb) c ((hm c).1 hc)) ?_;exact ac8 (fun a ha b hb=>ht a (by simp[ha]) b (by simp[hb])) (fun a ha b hb c hc=>htr a (by simp[ha]) b (by simp[hb]) c (by simp[hc]))
theorem ax6{le:α→α→Bool}:∀{l m:List α},l.Perm m→(∀a∈l,∀b∈l,le a b=true→le b a=true→a=b)→l.Pairwise (fun a b=>le a b=true)→m.Pairwise (fun a b=>le a b=true)→l=m
 | [],m,hp,_,_,_=>by simpa using hp.symm
 | x::l,[],hp,_,_,_=>by simpa using hp
 | x::l,y::m,hp,ha,h1,h2=>by
  rw[eB4]at h1 h2;have hxy:x=y:=by
   have hx:x∈y::m:=hp.mem_iff.1 (by simp);have hy:y∈x::l:=hp.mem_iff.2 (by simp);rcases ey3.1 hx with h|hx
   ·exact h
   rcases ey3.1 hy with h|hy
   ·exact h.symm
   exact ha x (by simp) y (by simp[hy]) (h1.1 y hy) (h2.1 x hx)
  subst hxy;rw[ax6 ((List.perm_cons x).1 hp) (fun a h b h'=>ha a (by simp[h]) b (by simp[h'])) h1.2 h2.2]
end
def ay7(l:List St)(o:Int):Int:=match l with
 | []=>o
 | t::_=>t.id
def Sh.goes(s:Sh)(it:It):List Int:=
 if it.s.kind=5 then[ay7 it.s.thn it.next,ay7 it.s.els it.next]
 else if it.s.kind=6 then[ay7 it.s.thn it.s.id,it.next]
 else if it.s.kind=7 then[(s.it it.loop).next]
 else if it.s.kind=8 then[it.loop]
 else if it.s.kind=9 then[-1]
 else if it.s.kind=10 then[(s.at it.proc it.s.name).getD 0]
 else[it.next]
def E4(p:Int):Int:=if p = -1 then 9223372036854775807 else p
def I2(a b:Int):Int:=if a<b then -1 else if b<a then 1 else 0
def orF:List Int→Int
 | []=>0
 | x::l=>if x=0 then orF l else x
def spC(a b:Sp):Int:=orF [I2 (E4 a.src) (E4 b.src),I2 (E4 a.dst) (E4 b.dst),I2 a.kind b.kind]
def cQ2(a b:Sp):Bool:=decide (spC a b≤0)
def aQ8(a b:Sp):Bool:=decide (a.src=b.src)&&decide (a.dst=b.dst)
def ao8(l:List Sp):List Sp:=ad2 aQ8 (T6 cQ2 l)
def Sh.steps(s:Sh)(i:Nat):List Sp:=ao8 (⟨0,s.first i,1⟩::(s.of i).flatMap fun it=>(s.goes it).map fun t=>⟨it.s.id,t,1⟩)
structure Wy where
 s:Sh
 proc:Int
 n:Int
 real:List Sp
 live:List Bool
def Wy.index(w:Wy)(p:Int):Int:=if p=0 then 0 else if p = -1 then w.n-1 else if T9 w.s.lo w.proc≤p∧p<T9 w.s.hi w.proc then p-T9 w.s.lo w.proc+1 else -1
def Wy.place(w:Wy)(i:Int):Int:=if i=0 then 0 else if i=w.n-1 then -1 else T9 w.s.lo w.proc+i-1
def atB(l:List Bool)(i:Int):Bool:=l.getD i.toNat false
def Wy.lives(w:Wy)(id:Int):Bool:=atB w.live (w.index id)
def Wy.pairs(w:Wy)(l:List Sp):List (Int×Int):=l.map fun t=>(w.index t.src,w.index t.dst)
def N9(nx:List (List Int)):Nat→List Int→List Int
 | 0,l=>l
 | n+1,l=>N9 nx n (l++((l.flatMap (C3 nx)).filter fun b=>!l.contains b).eraseDups)
def R5(nx:List (List Int))(a:Int)(b:Int):Bool:=G9 nx.length a&&(N9 nx nx.length [a]).contains b
def bt3(nx:List (List Int)):List Bool:=(List.range nx.length).map fun b=>R5 nx 0 (b:Nat)
def ac1(nx:List (List Int)):List Int:=(List.range nx.length).map fun a=>(((List.range nx.length).find? fun b=>R5 nx (a:Nat) (b:Nat)&&R5 nx (b:Nat) (a:Nat)).getD 0:Nat)
def E3(s:Sh)(i:Nat):Wy:=
 let w:Wy:=⟨s,i,T9 s.hi i-T9 s.lo i+2,s.steps i,[]⟩
 {w with live:=bt3 (ah2 w.n.toNat (w.pairs w.real)).1}
def Wy.traps(w:Wy):List (List Int):=
 let part:=ac1 (ah2 w.n.toNat (w.pairs w.real)).1
 let op:=T9 part 0::T9 part (w.n-1)::((w.pairs w.real).filter fun t=>!decide (T9 part t.1=T9 part t.2)).map fun t=>T9 part t.1
 ((List.range part.length).filter fun(i:Nat)=>decide (T9 part (i:Int)=(i:Int)) && !op.contains (i:Int)).map fun(i:Nat)=>((List.range part.length).filter fun(j:Nat)=>decide (T9 part (j:Int)=(i:Int))).map fun(j:Nat)=>w.place (j:Int)
def Wy.virtual(w:Wy):List Sp:=w.traps.flatMap fun l=>(l.filter fun id=>decide ((w.s.it id).s.kind=10)).map fun id=>⟨id,-1,3⟩
def Wy.data(w:Wy):List Sp:=ao8 (w.virtual++w.real)
def T0(it:It):List Sp:=if it.s.kind=7∨it.s.kind=8∨it.s.kind=9∨it.s.kind=10 then[⟨it.s.id,it.next,2⟩]else[]
def Wy.aug(w:Wy):List Sp:=ao8 (w.virtual++w.real++[⟨0,-1,2⟩]++(w.s.of w.proc).flatMap T0)
def ak2(n:Nat)(l:List (Int×Int)):List (List Int):=(List.range n).map fun(a:Nat)=>(l.filter fun t=>decide (t.1=(a:Int))).map (·.2)
def Wy.net(w:Wy):List (List Int):=ak2 w.n.toNat (w.pairs w.data)
def W1(f:List (List Bool))(some_:List Int):List Bool:=(List.range f.length).map fun(b:Nat)=>some_.all fun a=>atB (f.getD a.toNat []) (b:Int)
def P6(next:List (List Int))(f:List (List Bool))(a:Nat):List (List Bool):=f.set a ((W1 f (next.getD a [])).set a true)
def M1(next:List (List Int))(f:List (List Bool)):Nat→List (List Bool)
 | 0=>f
 | a+1=>M1 next (P6 next f a) a
def Y8(next:List (List Int))(m:Nat):Nat→List (List Bool)→List (List Bool)
 | 0,f=>f
 | k+1,f=>Y8 next m k (M1 next f m)
def Q0(n:Nat):List (List Bool):=(List.range n).map fun a=>(List.range n).map fun b=>decide (a+1<n)||decide (a=b)
def Wy.follow(w:Wy):List (List Bool):=Y8 (ak2 w.n.toNat (w.pairs w.aug)) (w.n.toNat-1) (w.n.toNat*w.n.toNat+1) (Q0 w.n.toNat)
def Wy.decides(w:Wy):List (Int×Int):=
 let f:=w.follow
 let ps:=w.pairs w.aug
 (List.range w.n.toNat).flatMap fun(a:Nat)=>((List.range w.n.toNat).filter fun(b:Nat)=>decide (1≤b)&&decide ((b:Int)<w.n-1)&&ps.any fun t=>decide (t.1=(a:Int))&&atB (f.getD t.2.toNat []) (b:Int)&&(decide (a=b) || !atB (f.getD a []) (b:Int))).map fun(b:Nat)=>(w.place (a:Int),w.place (b:Int))
def eD4:=@List.filter_append
def eH3:=@List.range_succ
def eD8:=@decide_eq_true
theorem aO8{a b:A6}:Z6 a b=true↔a.b<b.b:=by
 unfold Z6;rw[bytesLess_eq,decide_eq_true_iff]
theorem V5{a b:A6}:Z6 a b=false↔b.b≤a.b:=by
 rw[←Bool.not_eq_true,aO8];exact eD5
theorem aU5{a b c:A6}(h1:a.b≤b.b)(h2:b.b≤c.b):a.b≤c.b:=List.le_trans h1 h2
theorem aw2{a b:A6}(h1:a.b≤b.b)(h2:b.b≤a.b):a=b:=by
 have:=List.le_antisymm h1 h2;cases a;cases b;simp_all
theorem J9(a:A6):Z6 a a=false:=V5.2 (List.le_refl _)
theorem al2{a b c:A6}(h1:Z6 a b=true)(h2:Z6 b c=true):Z6 a c=true:=aO8.2 (List.lt_trans (aO8.1 h1) (aO8.1 h2))
theorem cc6{a b:A6}(h1:Z6 a b=false)(h2:Z6 b a=false):a=b:=aw2 (V5.1 h2) (V5.1 h1)
theorem aU2(x:A6):∀l,(bI6 x l).Perm (x::l)
 | []=>by simp[bI6]
 | y::l=>by
  rw[bI6];split
  ·exact(List.Perm.cons y (aU2 x l)).trans (List.Perm.swap _ _ _)
  ·exact List.Perm.refl _
theorem ao7:∀l,(U7 l).Perm l
 | []=>by simp[U7]
 | x::l=>by rw[U7];exact(aU2 x _).trans (List.Perm.cons x (ao7 l))
theorem aZ4(x:A6):∀{l:List A6},l.Pairwise (fun a b=>a.b≤b.b)→(bI6 x l).Pairwise (fun a b=>a.b≤b.b)
 | [],_=>by simp[bI6]
 | y::l,hs=>by
  rw[bI6];have hs':=hs;rw[eB4]at hs;split
  ·next h=>
   rw[eB4];refine⟨fun z hz=>?_,aZ4 x hs.2⟩;rcases ey3.1 ((aU2 x l).mem_iff.1 hz)with rfl|hz
   ·exact List.le_of_lt (aO8.1 h)
   ·exact hs.1 z hz
  ·next h=>
   have h':=V5.1 (eH0.2 h);rw[eB4];refine⟨fun z hz=>?_,hs'⟩;rcases ey3.1 hz with rfl|hz
   ·exact h'
   ·exact aU5 h' (hs.1 z hz)
theorem ax4:∀l,(U7 l).Pairwise (fun a b=>a.b≤b.b)
 | []=>by simp[U7]
 | x::l=>by rw[U7];exact aZ4 x (ax4 l)
theorem Q8(l:List A6):(U7 l).length=l.length:=(ao7 l).length_eq
theorem bM1(l:List A6):((l.map (·.b)).mergeSort fun x y=>decide (x≤y))=(U7 l).map (·.b):=by
 refine ax6 (le:=fun x y:List UInt8=>decide (x≤y)) ?_ ?_ ?_ ?_
 ·exact(List.mergeSort_perm _ _).trans ((ao7 l).map _).symm
 ·intro a _ b _ h1 h2;have h1':a≤b:=ew8 h1;have h2':b≤a:=ew8 h2;exact List.le_antisymm h1' h2'
 ·refine List.pairwise_mergeSort (le:=fun x y:List UInt8=>decide (x≤y)) (fun a b c h1 h2=>?_) (fun a b=>?_) _
  ·have h1':a≤b:=ew8 h1;have h2':b≤c:=ew8 h2;exact eD8 (List.le_trans h1' h2')
  ·rcases List.le_total a b with h|h<;>simp[h]
 ·rw[List.pairwise_map];exact(ax4 l).imp fun{a b} h=>eD8 h
theorem bf1{α:Type}[DecidableEq α]:∀(l:List α) (y:α),H4 (l++[y])=if l.getLast?=some y then H4 l else H4 l++[y]
 | [],y=>by simp[H4]
 | [x],y=>by
  by_cases h:x=y
  ·subst h;simp[H4]
  ·simp[H4,h]
 | x::z::l,y=>by
  have ih:=bf1 (z::l) y;rw[eH6,eH6,H4,←eH6,ih,List.getLast?_cons_cons,H4];by_cases h1:x=z<;>by_cases h2:(z::l).getLast?=some y<;>simp only[h1,h2,eC9,eE5,eH6]
theorem br0(d:Array (List UInt8)):∀m,m≤d.size→Lib.compactUpTo d m=H4 (d.toList.take m)
 | 0,_=>by simp[Lib.compactUpTo,H4]
 | m+1,hm=>by
  have ih:=br0 d m (by omega);have hlt:m<d.toList.length:=by simp;omega
  have hg:d[m]! = d.toList[m]:=by
   rw[getElem!_pos d m (by omega)];simp
  rw[ex2 hlt,bf1,←ih];have h1:Lib.compactUpTo d (m+1)=Lib.compactUpTo d m++(if Lib.keeps d m then[d[m]!]else[]):=by
   simp only[Lib.compactUpTo,eH3,eD4,ez5]
   congr 1
   by_cases hk:Lib.keeps d m=true
   ·simp[hk]
   ·simp[hk]
  rw[h1,hg];by_cases h0:m=0
  ·subst h0;simp[Lib.keeps,Lib.compactUpTo]
  ·have hlast:(d.toList.take m).getLast?=some d[m-1]!:=by
    rw[List.getLast?_eq_getElem?,ex4,eB9 (by omega),eF2,if_pos (by omega),getElem!_pos d (m-1) (by omega)];simp[show m-1<d.size by omega]
   rw[hlast];by_cases he:d.toList[m]=d[m-1]!
   ·have hk:Lib.keeps d m=false:=by simp only[Lib.keeps,eJ6,hg,h0,false_or,ne_eq];exact fun h=>h he
    rw[hk,if_pos (ey2 some he.symm)];simp
   ·have hk:Lib.keeps d m=true:=by simp only[Lib.keeps,eA7];rw[hg];exact .inr he
    rw[hk,if_neg (fun e=>he (ey4 e).symm)];simp
theorem br1{α β:Type}[DecidableEq α][DecidableEq β]{g:α→β}(hg:∀a b,g a=g b→a=b):∀l:List α,H4 (l.map g)=(H4 l).map g
 | []=>by simp[H4]
 | [x]=>by simp[H4]
 | x::y::l=>by
  have ih:=br1 hg (y::l);rw[eB1]at ih;rw[eB1,eB1,H4,H4,ih];by_cases h:x=y
  ·rw[if_pos h,if_pos (by rw[h])]
  ·rw[if_neg h,if_neg (fun e=>h (hg _ _ e)),eB1]
theorem bo1(l:List A6):Lib.compact (l.map (·.b))=(H4 l).map (·.b):=by
 unfold Lib.compact;have:=br0 (l.map (·.b)).toArray (l.map (·.b)).length (by simp);rw[this];simp only[ex5];exact br1 (fun a b h=>by cases a;cases b;simpa using h) l
theorem aE8{α:Type}[DecidableEq α]:∀l:List α,(H4 l).length≤l.length
 | []=>by simp[H4]
 | [x]=>by simp[H4]
 | x::y::l=>by
  have ih:=aE8 (y::l);rw[H4];split<;>simp only[ey7]at * <;> omega
theorem as4{α:Type}[DecidableEq α]{z:α}:∀l:List α,z∈H4 l↔z∈l
 | []=>by simp[H4]
 | [x]=>by simp[H4]
 | x::y::l=>by
  have ih:=as4 (z:=z) (y::l);rw[H4];split
  ·next h=>subst h;rw[ih];simp
  ·rw[ey3,ih,ey3 (b:=x)]
theorem aK0:∀{l:List A6},l.Pairwise (fun a b=>a.b≤b.b)→(H4 l).Pairwise (fun a b=>Z6 a b=true)
 | [],_=>by simp[H4]
 | [x],_=>by simp[H4]
 | x::y::l,h=>by
  have h':=h;rw[eB4]at h;rw[H4];split
  ·exact aK0 h.2
  ·next hne=>
   rw[eB4];refine⟨fun z hz=>?_,aK0 h.2⟩;have hz':=(as4 _).1 hz;have hxy:=h.1 y (by simp);have hlt:Z6 x y=true:=by
    cases hq:Z6 x y
    ·exact absurd (aw2 hxy (V5.1 hq)) hne
    ·rfl
   rcases ey3.1 hz' with rfl|hz'
   ·exact hlt
   ·rw[eB4]at h;have:=h.2.1 z hz';cases hq:Z6 x z
    ·have h3:=V5.1 hq;have:y=x:=aw2 (aU5 this h3) hxy;exact absurd this.symm hne
    ·rfl
theorem W2(l:List A6):(D2 l).Pairwise (fun a b=>Z6 a b=true):=aK0 (ax4 l)
theorem U8{l:List A6}{x:A6}:x∈D2 l↔x∈l:=by rw[D2,as4,(ao7 l).mem_iff]
theorem aq5(l:List A6):(D2 l).length≤l.length:=ex3 (aE8 _) (by rw[Q8];exact ex9 _)
theorem bK7:∀{l m:List A6},l.Pairwise (fun a b=>Z6 a b=true)→m.Pairwise (fun a b=>Z6 a b=true)→(∀x,x∈l↔x∈m)→l=m
 | [],[],_,_,_=>rfl
 | [],y::m,_,_,h=>by have:=(h y).2 (by simp);simp at this
 | x::l,[],_,_,h=>by have:=(h x).1 (by simp);simp at this
 | x::l,y::m,h1,h2,h=>by
  rw[eB4]at h1 h2;have hxy:x=y:=by
   rcases ey3.1 ((h x).1 (by simp))with e|hx
   ·exact e
   rcases ey3.1 ((h y).2 (by simp))with e|hy
   ·exact e.symm
   have a1:=h1.1 y hy;have a2:=h2.1 x hx;have:=al2 a1 a2;rw[J9]at this;cases this
  subst hxy;rw[bK7 h1.2 h2.2 fun z=>?_];have hz:=h z;simp only[ey3]at hz;constructor
  ·intro hm;rcases hz.1 (.inr hm)with e|hm'
   ·subst e;have:=h1.1 z hm;rw[J9]at this;cases this
   ·exact hm'
  ·intro hm;rcases hz.2 (.inr hm)with e|hm'
   ·subst e;have:=h2.1 z hm;rw[J9]at this;cases this
   ·exact hm'
end Go.Proofs.YtcbnbgpphippoaaGreat
namespace Go.Proofs
open Go.Shelf
def Tryz.lyS_ren:Go.Shelf.Ren:=⟨fun|190=>67|125=>105|258=>114|128=>165|129=>166|302=>170|303=>171|304=>172|305=>173|306=>174|307=>175|308=>176|309=>177|310=>178|333=>231|329=>219|330=>220|334=>232|335=>233|336=>140|344=>259|n=>n,fun|31=>22|9=>9|3=>3|46=>165|0=>0|51=>218|53=>220|4=>4|183=>212|182=>211|131=>192|5=>5|218=>257|222=>261|228=>285|229=>286|n=>n,fun|n=>n⟩
theorem Tryz.lyS:Go.Proofs.Lays.n190 Tryz.prog Tryz.lyS_ren:={
 mixed:=by kernel_rfl
 f125:=Tryz.func105.trans (congrArg some (by kernel_rfl))
 f128:=Tryz.func165.trans (congrArg some (by kernel_rfl))
 f129:=Tryz.func166.trans (congrArg some (by kernel_rfl))
 f190:=Tryz.func67.trans (congrArg some (by kernel_rfl))
 f258:=Tryz.func114.trans (congrArg some (by kernel_rfl))
 f302:=Tryz.func170.trans (congrArg some (by kernel_rfl))
 f303:=Tryz.func171.trans (congrArg some (by kernel_rfl))
 f304:=Tryz.func172.trans (congrArg some (by kernel_rfl))
 f305:=Tryz.func173.trans (congrArg some (by kernel_rfl))
 f306:=Tryz.func174.trans (congrArg some (by kernel_rfl))
 f307:=Tryz.func175.trans (congrArg some (by kernel_rfl))
 f308:=Tryz.func176.trans (congrArg some (by kernel_rfl))
 f309:=Tryz.func177.trans (congrArg some (by kernel_rfl))
 f310:=Tryz.func178.trans (congrArg some (by kernel_rfl))
 f329:=Tryz.func219.trans (congrArg some (by kernel_rfl))
 f330:=Tryz.func220.trans (congrArg some (by kernel_rfl))
 f333:=Tryz.func231.trans (congrArg some (by kernel_rfl))
 f334:=Tryz.func232.trans (congrArg some (by kernel_rfl))
 f335:=Tryz.func233.trans (congrArg some (by kernel_rfl))
 f336:=Tryz.func140.trans (congrArg some (by kernel_rfl))
 f344:=Tryz.func259.trans (congrArg some (by kernel_rfl))
 t0:=Tryz.underlying0
 a0:=Tryz.isAgg0
 z0:=Tryz.sizeOf0
 v0:=Tryz.zeroValue0
 t3:=Tryz.underlying3
 a3:=Tryz.isAgg3
 z3:=Tryz.sizeOf3
 v3:=Tryz.zeroValue3
 t4:=Tryz.underlying4
 a4:=Tryz.isAgg4
 z4:=Tryz.sizeOf4
 v4:=Tryz.zeroValue4
 t5:=Tryz.underlying5
 a5:=Tryz.isAgg5
 z5:=Tryz.sizeOf5
 v5:=Tryz.zeroValue5
 t9:=Tryz.underlying9
 a9:=Tryz.isAgg9
 z9:=Tryz.sizeOf9
 v9:=Tryz.zeroValue9
 t31:=Tryz.underlying22
 a31:=Tryz.isAgg22
 z31:=Tryz.sizeOf22
 v31:=Tryz.zeroValue22
 t46:=Tryz.underlying165
 a46:=Tryz.isAgg165
 z46:=Tryz.sizeOf165
 v46:=Tryz.zeroValue165
 t51:=Tryz.underlying218
 a51:=Tryz.isAgg218
 z51:=Tryz.sizeOf218
 v51:=Tryz.zeroValue218
 t53:=Tryz.underlying220
 a53:=Tryz.isAgg220
 z53:=Tryz.sizeOf220
 v53:=Tryz.zeroValue220
 t131:=Tryz.underlying192
 a131:=Tryz.isAgg192
 z131:=Tryz.sizeOf192
 v131:=Tryz.zeroValue192
 t182:=Tryz.underlying211
 a182:=Tryz.isAgg211
 z182:=Tryz.sizeOf211
 v182:=Tryz.zeroValue211
 t183:=Tryz.underlying212
 a183:=Tryz.isAgg212
 z183:=Tryz.sizeOf212
 v183:=Tryz.zeroValue212
 t218:=Tryz.underlying257
 a218:=Tryz.isAgg257
 z218:=Tryz.sizeOf257
 v218:=Tryz.zeroValue257
 t222:=Tryz.underlying261
 a222:=Tryz.isAgg261
 z222:=Tryz.sizeOf261
 v222:=Tryz.zeroValue261
 t228:=Tryz.underlying285
 a228:=Tryz.isAgg285
 z228:=Tryz.sizeOf285
 v228:=Tryz.zeroValue285
 t229:=Tryz.underlying286
 a229:=Tryz.isAgg286
 z229:=Tryz.sizeOf286
 v229:=Tryz.zeroValue286}
def Tryz.lyK_ren:Go.Shelf.Ren:=⟨fun|194=>125|n=>n,fun|31=>22|9=>9|3=>3|4=>4|0=>0|n=>n,fun|n=>n⟩
theorem Tryz.lyK:Go.Proofs.Lays.n194 Tryz.prog Tryz.lyK_ren:={
 mixed:=by kernel_rfl
 f194:=Tryz.func125.trans (congrArg some (by kernel_rfl))
 t0:=Tryz.underlying0
 a0:=Tryz.isAgg0
 z0:=Tryz.sizeOf0
 v0:=Tryz.zeroValue0
 t3:=Tryz.underlying3
 a3:=Tryz.isAgg3
 z3:=Tryz.sizeOf3
 v3:=Tryz.zeroValue3
 t4:=Tryz.underlying4
 a4:=Tryz.isAgg4
 z4:=Tryz.sizeOf4
 v4:=Tryz.zeroValue4
 t9:=Tryz.underlying9
 a9:=Tryz.isAgg9
 z9:=Tryz.sizeOf9
 v9:=Tryz.zeroValue9
 t31:=Tryz.underlying22
 a31:=Tryz.isAgg22
 z31:=Tryz.sizeOf22
 v31:=Tryz.zeroValue22}
end Go.Proofs
namespace Go.Proofs.YtcbnbgpphippoaaGreat
open Go Tryz
def eG9:=@Array.getElem?_toList
def eI6:=@List.ext_getElem?
def eA3:=@List.getElem?_map
def eC6:=@List.take_append_of_le_length
section
open Go.Sort
theorem dH5:(Tryz.lyS_ren.f 190)=67:=by kernel_rfl
theorem dH4:(Tryz.lyK_ren.f 194)=125:=by kernel_rfl
section
variable {α:Type} [Inhabited α]
theorem bo9(enc:α→Value)(d:Array α)(cur:Array Value)(h:d.size≤cur.size):(putCells enc 0 d cur).toList=d.toList.map enc++cur.toList.drop d.size:=by
 apply eI6;intro k;rw[eG9];unfold putCells;rw[Array.getElem?_mapIdx];rcases eA1 k d.size with hk|hk
 ·rw[eB3 (by simpa using hk),eF3 (by omega)];simp[hk]
 ·rw[eA9 (by simpa using hk),eF1,ex7,eI9,show d.size+(k-d.size)=k by omega];rcases eA1 k cur.size with hc|hc
  ·simp[hc,show ¬k<d.size by omega]
  ·simp[show cur.size≤k by omega]
theorem bB1{w:World}{b:Nat}{T:TypeId}{cur:Array Value}(hh:w.heap[b]?=some (.cells cur T (0,0)))(enc:α→Value)(d:Array α)(h:d.size≤cur.size)(n:Nat)(os:Array Obj):
  (grow (putRow enc (Go.Sort.ahead w n) b 0 d) os).heap[b]?=some (.cells (d.toList.map enc++cur.toList.drop d.size).toArray T (0,0))∧o9 (fun c=>c=b) w (grow (putRow enc (Go.Sort.ahead w n) b 0 d) os):=by
 have hb:b<w.heap.size:=(ex0.1 hh).1;have hsz:(putRow enc (Go.Sort.ahead w n) b 0 d).heap.size=w.heap.size:=by rw[size_putRow];rfl
 have hg:∀c,(putRow enc (Go.Sort.ahead w n) b 0 d).heap[c]?=if b=c then(w.heap[c]?).map (onCells (putCells enc 0 d))else w.heap[c]?:=fun c=>by
  unfold putRow mapBlock;rw[Array.getElem?_modify];split<;>rfl
 refine⟨?_,⟨rfl,rfl,rfl,?_,fun c hc hne=>?_⟩⟩
 ·show((putRow enc (Go.Sort.ahead w n) b 0 d).heap++os)[b]?=_;rw[Array.getElem?_append_left (by rw[hsz];exact hb),hg b,if_pos rfl,hh];simp only[eC3,onCells,←bo9 enc d cur h,Array.toArray_toList]
 ·show w.heap.size≤((putRow enc (Go.Sort.ahead w n) b 0 d).heap++os).size;rw[Array.size_append,hsz];omega
 ·show((putRow enc (Go.Sort.ahead w n) b 0 d).heap++os)[c]?=_;rw[Array.getElem?_append_left (by rw[hsz];exact hc),hg c,if_neg (fun e=>hne e.symm)]
end
theorem aB3{h:Hp}{cs:List Value}{l:List A6}:M7 h cs l↔cs=l.map o7:=by
 induction l generalizing cs with
 | nil=>simp[M7]
 | cons x l ih=>
  rw[M7];constructor
  ·rintro⟨c1,c2,rfl,h1,h2⟩;have:c1=[o7 x]:=h1;rw[this,ih.1 h2];rfl
  ·rintro rfl;exact⟨[o7 x],l.map o7,rfl,rfl,ih.2 rfl⟩
section
variable {h:Hp} {w:World} {v:Value} {l:List A6}
theorem bK1(ho:A9 h w 9 v l):(v = .slice none 0 0∧l=[])∨∃b c cur,v = .slice (some ⟨b,0,none⟩) l.length c∧h b=none∧w.heap[b]?=some (.cells cur 9 (0,0))∧l.length≤c∧c≤maxLen∧cur.size=c∧cur.toList.take l.length=l.map o7:=by
 rcases ho with hn|⟨b,c,cur,rfl,h1,h2,h3,h4,h5,h6⟩
 ·exact .inl hn
 ·have e:A3.sz A6=1:=rfl;rw[e,eF9]at h5 h6;exact .inr ⟨b,c,cur,rfl,h1,h2,h3,h4,h5,aB3.1 h6⟩
theorem aZ8{b c:Nat}{cur:Array Value}(h1:h b=none)(h2:w.heap[b]?=some (.cells cur 9 (0,0)))(h3:l.length≤c)(h4:c≤maxLen)(h5:cur.size=c)(h6:cur.toList.take l.length=l.map o7):
  A9 h w 9 (.slice (some ⟨b,0,none⟩) l.length c) l:=by
 have e:A3.sz A6=1:=rfl;refine .inr ⟨b,c,cur,rfl,h1,h2,h3,h4,by rw[e,h5,eF9],?_⟩;rw[e,eF9,h6];exact aB3.2 rfl
theorem bh4{b:Nat}{cur:Array Value}(h2:w.heap[b]?=some (.cells cur 9 (0,0)))(h6:cur.toList.take l.length=l.map o7):Holds encStr w b 0 (l.map A6.b).toArray:=fun j hj=>by
 have hj':j<l.length:=by simpa using hj
 rw[ez8,eD9 w b j cur _ (0,0) h2];have h7:=ey2 (fun z=>z[j]?) h6;simp only[eF2,if_pos hj',eA3,ew4 hj',eC3]at h7;refine⟨?_,frozen_of_row w b j cur _ h2⟩;rw[getElem!_pos _ j hj];simpa[o7]using h7
theorem co4(ho:A9 h w 9 v l)(hl:l.length≤1000000000):
  Calls prog 67 #[v] w fun e w'=>e = .returned (.tuple #[])∧A9 h w' 9 v (U7 l)∧o9 (A4 v) w w':=by
 rw[←dH5];rcases bK1 ho with⟨rfl,rfl⟩|⟨b,c,cur,rfl,h1,h2,h3,h4,h5,h6⟩
 ·refine(Any.slices_Sort_string_none Tryz.lyS none 0 w).mono ?_;rintro e w' ⟨rfl,rfl⟩;exact⟨rfl,A9.nil _ _ _,o9.refl _⟩
 ·have hb:b<w.heap.size:=(ex0.1 h2).1;have:=Any.slices_Sort_string Tryz.lyS b 0 c (l.map A6.b) w (bh4 h2 h6) hb (by rw[ex7];omega);rw[ex7]at this;refine this.mono ?_;rintro e w' ⟨rfl,n,os,rfl⟩;rw[bM1];obtain⟨k1,k2⟩:=bB1 h2 encStr ((U7 l).map A6.b).toArray (by simp[Q8];omega) n os;refine⟨rfl,?_,k2.weaken fun _ _ e=>by subst e;rfl⟩;have hlen:=Q8 l;rw[←hlen]at h3 ⊢;refine aZ8 h1 k1 h3 h4 ?_ ?_
  ·simp[Q8];omega
  ·simp only[List.map_map];rw[eC6 (by simp),eA6 (by simp)];rfl
theorem aT5(ho:A9 h w 9 v l)(hl:l.length≤1000000000):
  Calls prog 125 #[v] w fun e w'=>∃u,e = .returned u∧(A9 h w' 9 u (H4 l)∧o9 (A4 v) w w'∧E0 w v u):=by
 rw[←dH4];rcases bK1 ho with⟨rfl,rfl⟩|⟨b,c,cur,rfl,h1,h2,h3,h4,h5,h6⟩
 ·refine(Any.slices_Compact_string_empty Tryz.lyK none 0 w).mono ?_;rintro e w' ⟨rfl,rfl⟩;exact⟨_,rfl,A9.nil _ _ _,o9.refl _,fun b hb=>.inl hb⟩
 ·have:=Any.slices_Compact_string Tryz.lyK b 0 c (l.map A6.b) w (bh4 h2 h6) (by rw[ex7];omega) (by rw[ex7];omega);rw[ex7]at this;refine this.mono ?_;rintro e w' ⟨rfl,q,rfl⟩;rw[bo1,ex7];have hlen:=aE8 l;have hsz:(((H4 l).map A6.b++List.replicate (l.length-(H4 l).length) []).toArray).size=l.length:=by simp;omega
  obtain⟨k1,k2⟩:=bB1 h2 encStr (((H4 l).map A6.b++List.replicate (l.length-(H4 l).length) []).toArray) (by rw[hsz];omega) q #[];rw[grow_empty]at k1 k2;refine⟨_,rfl,?_,k2.weaken fun _ _ e=>by subst e;rfl,fun b hb=>.inl hb⟩;refine aZ8 h1 k1 (by omega) h4 ?_ ?_
  ·simp;omega
  ·simp only[ez5,List.map_map,ey6];rw[eC6 (by simp),eA6 (by simp)];rfl
end
end
def eF4:=@List.pairwise_iff_getElem
def zVC:=zJ (zJ (zJ (zJ (zJ @dI0 @dH7) (zJ @dE5 (zJ @Option.map_some.{0,0} @Option.map_none.{0,0}))) (zJ (zJ @Int.toNat_zero (zJ @Option.isNone_none.{0} @Option.isNone_some.{0})) (zJ @K0 (zJ @by5.eq_1 @by5.eq_2)))) (zJ (zJ (zJ @cL5.eq_1 (zJ @cz6.eq_1 @cz5.eq_1)) (zJ @TY (zJ @Option.isSome_some.{0} @eG4))) (zJ (zJ @Bool.and_true (zJ @eF9 @ez1)) (zJ @ek8 (zJ @Int.cast_ofNat_Int @decide_true))))) (zJ (zJ (zJ (zJ @add_lit (zJ @ez8 @Nat.zero_mul)) (zJ @Nat.one_mul (zJ @Bool.not_true @Bool.not_false))) (zJ (zJ @ek9 (zJ @dG8 @eb2)) (zJ @eb1 (zJ @eb0 @ea9)))) (zJ (zJ (zJ @ea8 (zJ @eb5 @ea6)) (zJ @eb6 (zJ @dD4 @dD3))) (zJ (zJ @ea7 (zJ @eb4 @bZ4)) (zJ @cK9 (zJ @eb3 @eq5)))))
theorem ef7:ag0 prog 137=true:=by kernel_rfl
theorem cw8:ag0 prog 140=true:=by kernel_rfl
theorem eg9:ag0 prog 176=true:=by kernel_rfl
theorem eh8:ag0 prog 199=true:=by kernel_rfl
theorem ldB{h:Hp}{v:Value}{l:List Bool}{w:World}(hv:R h v l)(hw:B4 h (d7 w)){k:Nat}(hk:k<l.length):(Instr.loadAt 4 (.pointer (some (H1 v k)))).run prog w = .ok (.bool l[k]) w:=
 M5 (P:=prog) (t:=4) hv hw (ew4 hk) ah6
theorem am7(v:Value)(l:List A6)(w:World)(hv:R (d7 w) v l)(hl:l.length≤1000000000):
  Calls prog 66 #[v] w fun e w'=>∃u,e = .returned u∧(A9 (d7 w) w' 9 u l∧o6 w w'):=by
 refine d9 (args:=[v]) hm func66 rfl (by kernel_rfl) (by show 1≤_;decide +kernel) ?_;have hS:=hv.isS;have hb:B9 prog .eql 22 v (.slice none 0 0)=some (.bool (bJ7 v)):=by
  obtain⟨a,n,c,he,_⟩:=hv;simp at he;subst he;simp[B9,Go.Proofs.YtcbnbgpphippoaaGreat.isS,da3]
 obtain⟨u0,w0,hb0,ho0,hx0,hf0⟩:=dH0 (P:=prog) (w:=w) (h:=d7 w) (α:=A6) ar1 (i4 _);obtain⟨u1,w1,ha,ho1,hm1,hv1⟩:=ao0 (P:=prog) (e:=22) ar1 rfl ho0 hv (by simp;omega) (by simp;omega) (b7 hx0);rcases ew5 (bJ7 v)with hc|hc
 ·simp only[n3,n8,simprocAttr,hb,hc];refine n9 results66 ?_;simp only[p7,simprocAttr];obtain⟨a,n,c,he,hn,hnc,es,hes,hce⟩:=hv;simp at he;subst he;cases a with
  | some a=>simp[bJ7]at hc
  | none=>
   have hes0:es=[]:=by
    cases es with
    | nil=>rfl
    | cons x _=>obtain⟨ad,e,_⟩:=hce 0 x rfl;cases e
   subst hes0;have:=J8 hes;have hl0:l=[]:=by
    cases l with
    | nil=>rfl
    | cons _ _=>simp[A3.sz]at this
   subst hl0;exact⟨A9.nil _ _ _,o9.refl _⟩
 ·simp only[n3,n8,simprocAttr,hb,hc,hb0,ha];refine n9 results66 ?_;simp only[p7,simprocAttr];exact⟨by simpa using ho1,ho0.ext2 hx0 hm1⟩
theorem bi6{α:Type}:∀{l m:List α},l.length=m.length→(∀j (h1:j<l.length) (h2:j<m.length),l[j]=m[j])→l=m:=fun{l m} h1 h2=>eE1 h1 fun j h3 h4=>h2 j h3 h4
theorem bg3(va vb:Value)(a b:List A6)(w:World)(ha:R (d7 w) va a)(hb:R (d7 w) vb b)(h1:a.length≤1000000000)(h2:b.length≤1000000000):
  Calls prog 77 #[va,vb] w fun e w'=>∃u,e = .returned u∧(u = .bool (decide (a=b))∧o6 w w'):=by
 refine d9 (args:=[va,vb]) hm func77 rfl (by kernel_rfl) (by show 2≤_;decide +kernel) ?_;have hSa:=ha.isS;have hna:=ha.vlen;have hSb:=hb.isS;have hnb:=hb.vlen;have hdn:decide ((a.length:Int)=(b.length:Int))=decide (a.length=b.length):=by rw[eB0];omega
 rcases ew5 (decide (a.length=b.length))with hlen|hlen;rotate_left
 ·simp only[n3,n8,simprocAttr,hSa,hna,hSb,hnb,hdn,hlen];refine n9 results77 ?_;simp only[p7,simprocAttr];have:a≠b:=fun e=>ew9 hlen (ey2 List.length e);exact⟨by simp[this],o9.refl _⟩
 have hlen':a.length=b.length:=ew8 hlen;simp only[n3,n8,simprocAttr,hSa,hna,hSb,hnb,hdn,hlen];refine n7 [0,1,11,12] (σ:=Nat) (fun k f w'=>f 13 = .int .i64 k∧k≤a.length∧(∀j (hj:j<a.length) (hj2:j<b.length),j<k→a[j]=b[j])∧o6 w w') (fun k=>a.length-k) 0 (by decide +kernel) ?_ ?_
 ·simp only[p7,simprocAttr];exact⟨by trivial,ex6 _,fun j _ _ h=>by omega,o9.refl _⟩
 rintro k f w3 hk ⟨h13,hkl,hno,hx3⟩;simp only[ew6,p7,simprocAttr]at hk;obtain⟨e0,e1,e11,e12,_⟩:=hk;simp only[n3,n8,simprocAttr,h13,e12];refine i5 (fun hc=>?_) (fun hc=>?_);rotate_left
 ·have hge:k=a.length:=by simp at hc;omega
  subst hge;simp only[n3,simprocAttr];refine n9 results77 ?_;simp only[p7,simprocAttr];have:a=b:=bi6 hlen' fun j h1 h2=>hno j h1 h2 h1;exact⟨by simp[this],hx3⟩
 have hlt:k<a.length:=by simpa using hc
 have hlt2:k<b.length:=by omega
 have hin:=ha.inS hlt;have hin2:=hb.inS hlt2;have hst:∀w',o6 w3.drew w'→B4 (d7 w) (d7 w'):=fun w' h=>b7 (hx3.trans ((o6.drew w3).trans h));have k1:∀K f d w0,B6 prog (fun w'=>o6 w3.drew w') (Instr.loadAt 9 (.pointer (some (H1 va k)))) K f d w0=K (A7 f d (o7 a[k])) w0:=fun K f d w0=>A0 (w0:=w3.drew) (o9.refl _) fun w' h=>ldS ha (hst w' h) hlt;have k2:∀K f d w0,B6 prog (fun w'=>o6 w3.drew w') (Instr.loadAt 9 (.pointer (some (H1 vb k)))) K f d w0=K (A7 f d (o7 b[k])) w0:=fun K f d w0=>A0 (w0:=w3.drew) (o9.refl _) fun w' h=>ldS hb (hst w' h) hlt2;have hbb:(a[k]==b[k])=decide (a[k]=b[k]):=rfl;simp only[n3,simprocAttr,h13];refine C2 (fun w'=>o6 w3.drew w') 9 (B0 [0,1,2,3,4,5,6,7,8]) (by decide +kernel) (o9.refl _) ?_;rcases ew5 (decide (a[k]=b[k]))with hq|hq
 ·simp only[D5,B0,n3,n8,v8,simprocAttr,e0,e1,hin,hin2,k1,k2,hq,h13];refine⟨k+1,by omega,by rw[B2 k (by omega)],by omega,fun j hj hj2 hjk=>?_,hx3.trans (o6.drew _)⟩;rcases eA1 j k with h|h
  ·exact hno j hj hj2 h
  ·obtain rfl:j=k:=by omega
   exact ew8 hq
 ·simp only[D5,B0,n3,n8,v8,simprocAttr,e0,e1,hin,hin2,k1,k2,hq];refine n9 results77 ?_;simp only[p7,simprocAttr];have:a≠b:=fun e=>ew9 hq (by subst e;rfl);exact⟨by simp[this],hx3.trans (o6.drew _)⟩
theorem bR0(va vb:Value)(a b:List Bool)(w:World)(ha:R (d7 w) va a)(hb:R (d7 w) vb b)(h1:a.length≤1000000000)(h2:b.length≤1000000000):
  Calls prog 168 #[va,vb] w fun e w'=>∃u,e = .returned u∧(u = .bool (decide (a=b))∧o6 w w'):=by
 refine d9 (args:=[va,vb]) hm func168 rfl (by kernel_rfl) (by show 2≤_;decide +kernel) ?_;have hSa:=ha.isS;have hna:=ha.vlen;have hSb:=hb.isS;have hnb:=hb.vlen;have hdn:decide ((a.length:Int)=(b.length:Int))=decide (a.length=b.length):=by rw[eB0];omega
 rcases ew5 (decide (a.length=b.length))with hlen|hlen;rotate_left
 ·simp only[n3,n8,simprocAttr,hSa,hna,hSb,hnb,hdn,hlen];refine n9 results168 ?_;simp only[p7,simprocAttr];have:a≠b:=fun e=>ew9 hlen (ey2 List.length e);exact⟨by simp[this],o9.refl _⟩
 have hlen':a.length=b.length:=ew8 hlen;simp only[n3,n8,simprocAttr,hSa,hna,hSb,hnb,hdn,hlen];refine n7 [0,1,11,12] (σ:=Nat) (fun k f w'=>f 13 = .int .i64 k∧k≤a.length∧(∀j (hj:j<a.length) (hj2:j<b.length),j<k→a[j]=b[j])∧o6 w w') (fun k=>a.length-k) 0 (by decide +kernel) ?_ ?_
 ·simp only[p7,simprocAttr];exact⟨by trivial,ex6 _,fun j _ _ h=>by omega,o9.refl _⟩
 rintro k f w3 hk ⟨h13,hkl,hno,hx3⟩;simp only[ew6,p7,simprocAttr]at hk;obtain⟨e0,e1,e11,e12,_⟩:=hk;simp only[n3,n8,simprocAttr,h13,e12];refine i5 (fun hc=>?_) (fun hc=>?_);rotate_left
 ·have hge:k=a.length:=by simp at hc;omega
  subst hge;simp only[n3,simprocAttr];refine n9 results168 ?_;simp only[p7,simprocAttr];have:a=b:=bi6 hlen' fun j h1 h2=>hno j h1 h2 h1;exact⟨by simp[this],hx3⟩
 have hlt:k<a.length:=by simpa using hc
 have hlt2:k<b.length:=by omega
 have hin:=ha.inS hlt;have hin2:=hb.inS hlt2;have hst:∀w',o6 w3.drew w'→B4 (d7 w) (d7 w'):=fun w' h=>b7 (hx3.trans ((o6.drew w3).trans h));have k1:∀K f d w0,B6 prog (fun w'=>o6 w3.drew w') (Instr.loadAt 4 (.pointer (some (H1 va k)))) K f d w0=K (A7 f d (.bool a[k])) w0:=fun K f d w0=>A0 (w0:=w3.drew) (o9.refl _) fun w' h=>ldB ha (hst w' h) hlt;have k2:∀K f d w0,B6 prog (fun w'=>o6 w3.drew w') (Instr.loadAt 4 (.pointer (some (H1 vb k)))) K f d w0=K (A7 f d (.bool b[k])) w0:=fun K f d w0=>A0 (w0:=w3.drew) (o9.refl _) fun w' h=>ldB hb (hst w' h) hlt2;have hbb:(a[k]==b[k])=decide (a[k]=b[k]):=rfl;simp only[n3,simprocAttr,h13];refine C2 (fun w'=>o6 w3.drew w') 9 (B0 [0,1,2,3,4,5,6,7,8]) (by decide +kernel) (o9.refl _) ?_;rcases ew5 (decide (a[k]=b[k]))with hq|hq
 ·simp only[D5,B0,n3,n8,v8,simprocAttr,e0,e1,hin,hin2,k1,k2,bc6,hbb,hq,h13];refine⟨k+1,by omega,by rw[B2 k (by omega)],by omega,fun j hj hj2 hjk=>?_,hx3.trans (o6.drew _)⟩;rcases eA1 j k with h|h
  ·exact hno j hj hj2 h
  ·obtain rfl:j=k:=by omega
   exact ew8 hq
 ·simp only[D5,B0,n3,n8,v8,simprocAttr,e0,e1,hin,hin2,k1,k2,bc6,hbb,hq];refine n9 results168 ?_;simp only[p7,simprocAttr];have:a≠b:=fun e=>ew9 hq (by subst e;rfl);exact⟨by simp[this],hx3.trans (o6.drew _)⟩
theorem bi9(s:A6)(w:World):Calls prog 140 #[o7 s] w fun e w'=>∃u,e = .returned u∧(u = .bool false∧w'=w):=by
 refine d9 (args:=[o7 s]) hm func140 rfl (by kernel_rfl) (by show 1≤_;decide +kernel) ?_;simp only[n3,n8,simprocAttr];refine n9 results140 ?_;simp only[p7,simprocAttr];exact⟨by trivial,by trivial⟩
theorem cm7(s:A6)(w:World):Calls prog 199 #[o7 s] w fun e w'=>∃u,e = .returned u∧(u = .bool false∧w'=w):=by
 refine d9 (args:=[o7 s]) hm func199 rfl (by kernel_rfl) (by show 1≤_;decide +kernel) ?_;simp only[n3,n8,simprocAttr];refine n9 results199 ?_;simp only[p7,simprocAttr];exact⟨by trivial,by trivial⟩
theorem cl7(a b:A6)(w:World):Calls prog 176 #[o7 a,o7 b] w fun e w'=>∃u,e = .returned u∧(u = .bool (Z6 a b)∧w'=w):=by
 refine d9 (args:=[o7 a,o7 b]) hm func176 rfl (by kernel_rfl) (by show 2≤_;decide +kernel) ?_;simp only[n3,n8,simprocAttr];refine D1 cw8 (bi9 a w) ?_;simp only[n3,n8,simprocAttr];refine n9 results176 ?_;simp only[p7,simprocAttr];exact⟨by trivial,by trivial⟩
theorem cL9{n:Nat}(h:n<4000000000000000000):aX7 prog 3 165 (.int .i64 n)=some (.int .u64 n):=by
 have h1:az7 prog 165=some .u64:=by kernel_rfl
 have h2:(prog.underlying 3).isSome=true:=by kernel_rfl
 simp only[aX7,h1,h2,eC9]
 congr 2
 have:(n:Int) % 18446744073709551616=n:=by omega
 simp[IntKind.wrap,IntKind.bits,IntKind.signed];omega
theorem cM0{n:Nat}(h:n<4000000000000000000):aX7 prog 165 3 (.int .u64 n)=some (.int .i64 n):=by
 have h1:az7 prog 3=some .i64:=by kernel_rfl
 have h2:(prog.underlying 165).isSome=true:=by kernel_rfl
 simp only[aX7,h1,h2,eC9]
 congr 2
 exact K1 _ (by omega)
theorem dJ8{P:Program}{t:TypeId}{n:Nat}:B9 P .shr t (.int .u64 n) (.int .u64 1)=some (.int .u64 (n / 2:Nat)):=by
 simp only[B9];rw[if_neg (by decide)]
 congr 2
 have:min (Int.toNat 1) IntKind.u64.bits=1:=by decide
 rw[this,Int.fdiv_eq_ediv_of_nonneg _ (by decide)]
 norm_cast
theorem bL1(v:Value)(l:List A6)(x:A6)(w:World)(hv:R (d7 w) v l)(hl:l.length≤1000000000)(hs:l.Pairwise (fun a b=>Z6 a b=true)):
  Calls prog 137 #[v,o7 x] w fun e w'=>∃u,e = .returned u∧(∃i:Int,u = .tuple #[.int .i64 i,.bool (l.contains x)]∧w'=w):=by
 refine d9 (args:=[v,o7 x]) hm func137 rfl (by kernel_rfl) (by show 2≤_;decide +kernel) ?_;have hS:=hv.isS;have hn:=hv.vlen;have hs':=eF4.1 hs;simp only[n3,n8,simprocAttr,hS,hn];refine n7 [0,1,6] (σ:=Nat×Nat) (fun s f w'=>f 7 = .int .i64 s.1∧f 8 = .int .i64 s.2∧s.1≤s.2∧s.2≤l.length∧(∀j (hj:j<l.length),j<s.1→Z6 l[j] x=true)∧(∀j (hj:j<l.length),s.2≤j→Z6 l[j] x=false)∧w'=w) (fun s=>s.2-s.1) (0,l.length) (by decide +kernel) ?_ ?_
 ·simp only[p7,simprocAttr];exact⟨by trivial,by trivial,ex6 _,ex9 _,fun j _ h=>by omega,fun j hj h=>by omega,by trivial⟩
 rintro⟨i,j⟩ f w2 hk ⟨h7,h8,hij,hjl,hlo,hhi,rfl⟩;simp only at h7 h8 hij hjl hlo hhi;simp only[ew6,p7,simprocAttr]at hk;obtain⟨e0,e1,e6,_⟩:=hk;simp only[n3,n8,simprocAttr,h7,h8];refine i5 (fun hc=>?_) (fun hc=>?_)
 ·have hlt:i<j:=by simpa using hc
  have hw1:IntKind.i64.wrap ((i:Int)+(j:Int))=((i+j:Nat):Int):=by rw[K1 _ (by omega)];omega
  have hm:(i+j) / 2<l.length:=by omega
  have hin:=hv.inS hm;have hld:=ldS hv (i4 _) hm;have cv1:=cL9 (n:=i+j) (by omega);have cv2:=cM0 (n:=(i+j) / 2) (by omega);generalize hM:(i+j) / 2=m at hm hin hld cv2;have hsh:B9 prog .shr 165 (.int .u64 ((i+j:Nat):Int)) (.int .u64 1)=some (.int .u64 (m:Nat)):=by rw[dJ8,hM]
  simp only[n3,zVC,v8,simprocAttr,h7,h8,hw1,cv1,hsh,cv2,e0,e1,hin,hld];refine D1 eg9 (cl7 l[m] x w2) ?_;rcases ew5 (Z6 l[m] x)with hq|hq
  ·simp only[n3,n8,simprocAttr,hq,h8];refine⟨(m+1,j),by simp only[];omega,by simp only[];rw[B2 m (by omega)],by trivial,by simp only[];omega,by simp only[];omega,fun k hk hkm=>?_,hhi,by trivial⟩;simp only at hkm;rcases eA1 k m with h|h
   ·exact al2 (hs' k m hk hm h) hq
   ·obtain rfl:k=m:=by omega
    exact hq
  ·simp only[n3,simprocAttr,hq,h7];refine⟨(i,m),by simp only[];omega,by trivial,by trivial,by simp only[];omega,by simp only[];omega,hlo,fun k hk hkm=>?_,by trivial⟩;simp only at hkm;rcases eA1 m k with h|h
   ·cases hz:Z6 l[k] x
    ·rfl
    ·have:=al2 (hs' m k hm hk h) hz;rw[hq]at this;cases this
   ·obtain rfl:k=m:=by omega
    exact hq
 ·have hge:i=j:=by simp at hc;omega
  subst hge;rcases ew5 (decide ((i:Int)<(l.length:Int)))with hlt|hlt
  ·have hi:i<l.length:=by simpa using hlt
   have hin:=hv.inS hi;have hld:=ldS hv (i4 _) hi;rcases ew5 (decide (l[i]=x))with hq|hq
   ·have hc2:l.contains x=true:=ez2.2 (by rw[←ew8 hq];exact ex8 hi);simp only[n3,n8,v8,simprocAttr,h7,e0,e1,e6,hlt,hin,hld,hq];refine ad4 results137 ?_;simp only[p7,simprocAttr];exact⟨i,by rw[hc2],by trivial⟩
   ·have hc2:l.contains x=false:=by
     cases hz:l.contains x
     ·rfl
     ·obtain⟨k,hk,e⟩:=eB5.1 (ez2.1 hz);rcases Nat.lt_trichotomy k i with h|h|h
      ·have:=hlo k hk h;rw[e,J9]at this;cases this
      ·subst h;exact absurd e (ew9 hq)
      ·have h2:=hs' i k hi hk h;rw[e,hhi i hi (ex9 _)]at h2;cases h2
    simp only[n3,n8,v8,simprocAttr,h7,e0,e1,e6,hlt,hin,hld,hq];refine D1 eh8 (cm7 l[i] w2) ?_;simp only[n3,simprocAttr];refine ad4 results137 ?_;simp only[p7,simprocAttr];exact⟨i,by rw[hc2],by trivial⟩
  ·have hc2:l.contains x=false:=by
    cases hz:l.contains x
    ·rfl
    ·obtain⟨k,hk,e⟩:=eB5.1 (ez2.1 hz);have:=hlo k hk (by simp at hlt;omega);rw[e,J9]at this;cases this
   simp only[n3,n8,simprocAttr,h7,e6,hlt];refine ad4 results137 ?_;simp only[p7,simprocAttr];exact⟨i,by rw[hc2],by trivial⟩
theorem aa5(v:Value)(l:List A6)(x:A6)(w:World)(hv:R (d7 w) v l)(hl:l.length≤1000000000)(hs:l.Pairwise (fun a b=>Z6 a b=true)):
  Calls prog 87 #[v,o7 x] w fun e w'=>∃u,e = .returned u∧(u = .bool (l.contains x)∧w'=w):=by
 refine d9 (args:=[v,o7 x]) hm func87 rfl (by kernel_rfl) (by show 2≤_;decide +kernel) ?_;simp only[n3,n8,simprocAttr];refine z6 ef7 (bL1 v l x w hv hl hs) ?_;rintro u w2 ⟨i,rfl,rfl⟩;simp only[n3,simprocAttr];refine n9 results87 ?_;simp only[p7,simprocAttr];exact⟨by trivial,by trivial⟩
def ez4:=@List.length_singleton
theorem de2:ag0 prog 215=true:=by kernel_rfl
mutual
theorem cj9:∀(t:St) (k:Nat) (pr up nx lp:Int),∀it∈U2 t k pr up nx lp,it.proc=pr
 | .mk id kind labels name proc x has args thn els,k,pr,up,nx,lp,it,h=>by
  rw[O4]at h;rcases ey3.1 h with rfl|h
  ·rfl
  ·rcases ey1.1 h with h|h
   ·exact av7 thn _ _ _ _ _ it h
   ·exact av7 els _ _ _ _ _ it h
theorem av7:∀(l:List St) (k:Nat) (pr up nx lp:Int),∀it∈C6 l k pr up nx lp,it.proc=pr
 | [],_,_,_,_,_,it,h=>by simp[C6]at h
 | t::l,k,pr,up,nx,lp,it,h=>by
  rw[C6]at h;rcases ey1.1 h with h|h
  ·exact cj9 t _ _ _ _ _ it h
  ·exact av7 l _ _ _ _ _ it h
end
theorem bA2(p:Pg)(hw:D6 p≤1000000)(i:Nat)(hi:i<p.procs.length):∀it∈(b9 p).of i,it.proc=(i:Int):=fun it h=>by
 obtain⟨x,_,e⟩:=Y5 p hw i hi;rw[e]at h;exact av7 _ _ _ _ _ _ it h
theorem bT4(v:Value)(p:Pg)(w:World)(hv:SV (d7 w) v p)(hw:D6 p≤1000000):Calls prog 151 #[v] w fun e w'=>∃u,e = .returned u∧((if(N7 p).1=0 then ∃a,u = .pointer (some a)∧At (d7 w') a (b9 p)else u = .pointer none)∧o6 w w'):=by
 refine d9 (args:=[v]) hm func151 rfl (by kernel_rfl) (by show 1≤_;decide +kernel) ?_;obtain⟨a,w1,hbx,hx1,ha⟩:=V2 (w:=w) (fun _=>False) hv (fun _ h=>h.elim);obtain⟨lw,_⟩:=I4.pg_v hv ha;have hlw:∀w',o6 w1 w'→B4 (B8 w1 fun _=>False) (d7 w'):=fun w' h=>p6 (B3 _ _) (b7 h);have lw1:=lw w1 (hlw _ (o9.refl _));simp only[n3,n8,simprocAttr,hbx,lw1];refine B7 cx9 (ac4 v p w1 (hv.mono (b7 hx1)) hw) (fun w3 hx3=>?_);rcases ew5 (decide ((N7 p).1=0))with hsc|hsc;rotate_left
 ·simp only[n3,n8,simprocAttr,aj8,hsc];refine n9 results151 ?_;simp only[p7,simprocAttr];exact⟨by rw[if_neg (ew9 hsc)];trivial,hx1.trans hx3⟩
 have lw3:=lw w3 (hlw _ hx3);simp only[n3,n8,simprocAttr,aj8,hsc,lw3];refine z6 aO2 (ag5 v p w3 (hv.mono (b7 (hx1.trans hx3))) hw) ?_;rintro us w4 ⟨sh,rfl,hsh,hx4⟩;simp only[n3,simprocAttr];refine n9 results151 ?_;simp only[p7,simprocAttr];exact⟨by rw[if_pos (ew8 hsc)];exact⟨sh,rfl,hsh⟩,hx1.trans (hx3.trans hx4)⟩
theorem bs8(v vl:Value)(seen l:List A6)(h:Hp)(w:World)(ho:A9 h w 9 v seen)(hl:R h vl l)(hh:B4 h (d7 w))(h1:seen.length+l.length≤1000000):
  Calls prog 152 #[v,vl] w fun e w'=>∃u,e = .returned u∧((∃u' ok,u = .tuple #[u',.bool ok]∧ok=(an3 seen l).isSome∧∀s,an3 seen l=some s→A9 h w' 9 u' s∧s.length=seen.length+l.length)∧o9 (A4 v) w w'):=by
 refine d9 (args:=[v,vl]) hm func152 rfl (by kernel_rfl) (by show 2≤_;decide +kernel) ?_;have hS:=hl.isS;have hn:=hl.vlen;simp only[n3,n8,simprocAttr,hS,hn];refine n7 [8,9] (σ:=Nat×Value×List A6) (fun s f w'=>f 10 = .int .i64 s.1∧f 0=s.2.1∧s.1≤l.length∧A9 h w' 9 s.2.1 s.2.2∧an3 seen l=an3 s.2.2 (l.drop s.1)∧s.2.2.length=seen.length+s.1∧o9 (A4 v) w w'∧E0 w v s.2.1) (fun s=>l.length-s.1) (0,v,seen) (by decide +kernel) ?_ ?_
 ·simp only[p7,simprocAttr];exact⟨by trivial,by trivial,ex6 _,ho,by rw[eE8],rfl,o9.refl _,fun b hb=>.inl hb⟩
 rintro⟨k,u,s⟩ f w2 hk ⟨h10,h0,hkl,ho2,hj,hlen,hm2,hmv⟩;simp only at h10 h0 hkl ho2 hj hlen hmv;simp only[ew6,p7,simprocAttr]at hk;obtain⟨e8,e9,_⟩:=hk;have hh2:B4 h (d7 w2):=I0 hh hm2 fun b hb=>ho.free hb;simp only[n3,n8,simprocAttr,h10,e9];refine i5 (fun hc=>?_) (fun hc=>?_);rotate_left
 ·have hge:k=l.length:=by simp at hc;omega
  subst hge;rw[eF5,an3]at hj;simp only[n3,simprocAttr,h0];refine ad4 results152 ?_;simp only[p7,simprocAttr];refine⟨⟨u,true,rfl,by rw[hj];rfl,fun s' hs'=>?_⟩,hm2⟩;rw[hj]at hs';obtain rfl:=ey4 hs';exact⟨ho2,hlen⟩
 have hlt:k<l.length:=by simpa using hc
 have hin:=hl.inS hlt;have hld:=ldS hl hh2 hlt;rw[eA2 hlt,an3]at hj;generalize l[k]=n at hld hj;simp only[n3,n8,v8,simprocAttr,h10,h0,e8,hin,hld];refine D1 ab7 (N5 u s n w2 (ho2.rw_ hh2) (by omega)) ?_;rcases ew5 (s.contains n)with hq|hq
 ·simp only[n3,simprocAttr,hq,h0];refine ad4 results152 ?_;simp only[p7,simprocAttr];refine⟨⟨u,false,rfl,by rw[hj,if_pos hq];rfl,fun s' hs'=>?_⟩,hm2⟩;rw[hj,if_pos hq]at hs';cases hs'
 ·obtain⟨p1,u',w3,p2,p3,p4,p5⟩:=push (e:=22) ar1 rfl ho2 (x:=o7 n) (y:=n) rfl (by omega) (by omega) hh2;rw[if_neg (by rw[hq];simp)]at hj;simp only[n3,n8,simprocAttr,hq,h0,h10,p1,p2];refine⟨(k+1,u',s++[n]),by simp only[];omega,by simp only[];rw[B2 k (by omega)],by trivial,by simp only[];omega,p3,hj,by simp only[ew7,ez4];omega,hm2.chain p4 fun b hb hbu=>?_,fun b hb=>?_⟩
  ·rcases hmv b hbu with h|h
   ·exact h
   ·omega
  ·rcases p5 b hb with h|h
   ·exact hmv b h
   ·exact .inr (ex3 hm2.size h)
theorem cl5(a:Addr)(vit:Value)(s:Sh)(it:It)(i x y:Nat)(w:World)(hs:At (d7 w) a s)(hit:SV (d7 w) vit it)(hpr:it.proc=(i:Int))(hok:bn4 s i x y)(hip:i<s.p.procs.length)(hwt:∀it∈s.l,O0 it.s≤1000000)(hwf:∀f∈s.p.procs,T3 f≤1000000):
  Calls prog 153 #[.pointer (some a),vit] w fun e w'=>∃u,e = .returned u∧(u = .bool (an5 s it)∧o6 w w'):=by
 refine d9 (args:=[.pointer (some a),vit]) hm func153 rfl (by kernel_rfl) (by show 2≤_;decide +kernel) ?_;obtain⟨b,w1,hb1,hx1,hat⟩:=bZ6 hit (i4 _);obtain⟨hats,ldi,_⟩:=hat.it;obtain⟨_,_,_,_,_,_,_,_,_,ldt,_⟩:=hats.st;have li:=ldi w1 (i4 _);have lt:=ldt w1 (i4 _);rw[hpr]at li;rcases ew5 (decide (it.s.kind=7))with h7|h7
 ·simp only[n3,n8,simprocAttr,hb1,li,lt,h7];refine n9 results153 ?_;simp only[p7,simprocAttr];exact⟨by rw[an5,if_pos (.inl (ew8 h7))],hx1⟩
 rcases ew5 (decide (it.s.kind=8))with h8|h8
 ·simp only[n3,n8,simprocAttr,hb1,li,lt,h7,h8];refine n9 results153 ?_;simp only[p7,simprocAttr];exact⟨by rw[an5,if_pos (.inr (ew8 h8))],hx1⟩
 have hF:an5 s it=if it.s.kind=10 then(s.at it.proc it.s.name).isSome else true:=by
  rw[an5,if_neg];rintro(h|h)
  ·exact ew9 h7 h
  ·exact ew9 h8 h
 rcases ew5 (decide (it.s.kind=10))with h10|h10
 ·simp only[n3,n8,simprocAttr,hb1,li,lt,h7,h8,h10];refine B7 de2 (bL4 a s i x y it.s.name w1 (hs.mono (b7 hx1)) hok hip hwt hwf) (fun w2 hx2=>?_);rw[if_pos (ew8 h10),hpr]at hF;cases hq:s.at i it.s.name
  ·simp only[n3,simprocAttr,bJ9];refine n9 results153 ?_;simp only[p7,simprocAttr];exact⟨by rw[hF,hq];rfl,hx1.trans hx2⟩
  ·simp only[n3,simprocAttr,bJ9];refine n9 results153 ?_;simp only[p7,simprocAttr];exact⟨by rw[hF,hq];rfl,hx1.trans hx2⟩
 ·rw[if_neg (ew9 h10)]at hF;simp only[n3,n8,simprocAttr,hb1,lt,h7,h8,h10];refine n9 results153 ?_;simp only[p7,simprocAttr];exact⟨by rw[hF],hx1⟩
theorem eg3:ag0 prog 151=true:=by kernel_rfl
theorem dd2:ag0 prog 152=true:=by kernel_rfl
theorem eg4:ag0 prog 153=true:=by kernel_rfl
theorem cu4:H2 prog 89=2:=by kernel_rfl
theorem aZ5(p:Pg)(hw:D6 p≤1000000)(i:Nat)(hi:i<p.procs.length):(∀it∈(b9 p).of i,it∈(b9 p).l)∧((b9 p).of i).length≤400000:=by
 obtain⟨x,hok,_⟩:=Y5 p hw i hi;have h1:=au3 p;have h2:=bx9 p;refine⟨fun it h=>?_,?_⟩
 ·rw[hok.of_]at h;exact eG0 (eI3 h)
 ·rw[hok.of_,eB8,ex4];omega
def aC6(l:List It):Nat:=(l.map fun it=>it.s.labels.length).sum
theorem bI8(l m:List It):aC6 (l++m)=aC6 l+aC6 m:=by simp[aC6]
theorem bs9(x:It)(m:List It):aC6 (x::m)=x.s.labels.length+aC6 m:=by simp[aC6]
mutual
theorem cO0:∀(t:St) (k:Nat) (pr up nx lp:Int),aC6 (U2 t k pr up nx lp)≤O0 t
 | .mk id kind labels name proc x has args thn els,k,pr,up,nx,lp=>by
  rw[O4,bs9,bI8,O0];have h2:=fun k' nx' lp'=>aO6 els k' pr (k+1) nx' lp';have h3:=S3 labels;have h4:=fun k' nx' lp'=>aO6 thn k' pr (k+1) nx' lp';simp only[St.labels,St.thn,St.els];refine ex3 (Nat.add_le_add_left (Nat.add_le_add (h4 _ _ _) (h2 _ _ _)) _) ?_;omega
theorem aO6:∀(l:List St) (k:Nat) (pr up nx lp:Int),aC6 (C6 l k pr up nx lp)≤G5 l
 | [],_,_,_,_,_=>by simp[C6,aC6]
 | t::l,k,pr,up,nx,lp=>by
  rw[C6,bI8,G5];exact Nat.add_le_add (cO0 t _ _ _ _ _) (aO6 l _ _ _ _ _)
end
theorem cO7(p:Pg)(hw:D6 p≤1000000)(i:Nat)(hi:i<p.procs.length):aC6 ((b9 p).of i)+p.procs[i].fin.length≤1000000:=by
 obtain⟨x,_,e⟩:=Y5 p hw i hi;have h1:=aO6 p.procs[i].body x i 0 (-1) 0;have h2:=ao4 p hw _ (ex8 hi);have h3:=S3 p.procs[i].fin;unfold T3 at h2;rw[e];omega
theorem cl4{l:List It}{m:Nat}(h:m<l.length):aC6 (l.drop m)=l[m].s.labels.length+aC6 (l.drop (m+1)):=by
 rw[eA2 h,bs9]
theorem bo5(v:Value)(p:Pg)(w:World)(hv:SV (d7 w) v p)(hw:D6 p≤1000000):Calls prog 99 #[v] w fun e w'=>∃u,e = .returned u∧(u=R4 (ay8 p)∧o6 w w'):=by
 refine d9 (args:=[v]) hm func99 rfl (by kernel_rfl) (by show 1≤_;decide +kernel) ?_;obtain⟨a,w1,hbx,hx1,ha⟩:=V2 (w:=w) (fun _=>False) hv (fun _ h=>h.elim);obtain⟨vg,vp,hg,hp,ld,_⟩:=I4.pg hv ha;obtain⟨lw,_⟩:=I4.pg_v hv ha;obtain⟨rb,w2,hal,hx2,hrb,hge1⟩:=ar8 w1;have hge:w.heap.size≤rb:=ex3 hx1.size hge1;have hx12:=hx1.trans hx2;have hlw:∀w',o6 w2 w'→B4 (B8 w1 fun _=>False) (d7 w'):=fun w' h=>p6 (B3 _ _) (b7 (hx2.trans h));have lw2:=lw w2 (hlw _ (o9.refl _));have hret:=fun(w':World) (h:o6 w2 w')=>ak9 hrb h hge hx12;simp only[n3,n8,simprocAttr,hbx,hal,lw2];refine z6 eg3 (bT4 v p w2 (hv.mono (b7 hx12)) hw) ?_;rintro us w3 ⟨hus,hx3⟩;rcases ew5 (decide ((N7 p).1=0))with hsc|hsc;rotate_left
 ·rw[if_neg (ew9 hsc)]at hus;subst hus;obtain⟨w9,s1,s2,s3⟩:=hret w3 hx3 (1,0);simp only[n3,n8,simprocAttr,be7 rfl cu4,O3,s1];refine L0 results99 (by simp only[p7,simprocAttr]) s2 ?_;exact⟨by rw[ay8,if_pos (ew9 hsc)],s3⟩
 rw[if_pos (ew8 hsc)]at hus;obtain⟨sh,rfl,hsh⟩:=hus;have hF:ay8 p=(O6 (b9 p) 0 p.procs).getD (0,0):=by rw[ay8,if_neg (by simpa using hsc)]
 have l3:=ld w3 (hlw _ hx3);have hS:=hp.isS;have hn:=hp.vlen;have hpp:=I1 p;have hwl:=ac5 p hw;have hwf:=ao4 p hw;have hpl:p.procs.length≤1000000:=by
  have:=aa9 p.procs;unfold D6 at hw;omega
 simp only[n3,n8,simprocAttr,be7 rfl cu4,l3,hS,hn];refine n7 [1,2,3,16,17] (σ:=Nat) (fun k f w'=>f 18 = .int .i64 k∧k≤p.procs.length∧O6 (b9 p) 0 p.procs=O6 (b9 p) k (p.procs.drop k)∧o6 w3 w') (fun k=>p.procs.length-k) 0 (by decide +kernel) ?_ ?_
 ·simp only[p7,simprocAttr];exact⟨by trivial,ex6 _,by rw[eE8],o9.refl _⟩
 rintro i f2 w6 hk ⟨h18,hil,hsp,hx6⟩;simp only[ew6,p7,simprocAttr]at hk;obtain⟨e1,e2,e3,e16,e17,_⟩:=hk;have hx26:=hx3.trans hx6;simp only[n3,n8,simprocAttr,h18,e17];refine i5 (fun hc=>?_) (fun hc=>?_);rotate_left
 ·have hge2:i=p.procs.length:=by simp at hc;omega
  subst hge2;rw[eF5]at hsp;obtain⟨w9,s1,s2,s3⟩:=hret w6 hx26 (0,0);simp only[n3,simprocAttr,e2,aE7,s1];refine L0 results99 (by simp only[p7,simprocAttr];exact e2) s2 ?_;exact⟨by rw[hF,hsp];rfl,s3⟩
 have hlt:i<p.procs.length:=by simpa using hc
 have hin:=hp.inS hlt;obtain⟨sv,hsv,hld⟩:=F4 (P:=prog) (t:=51) hp (b7 (hx12.trans hx26)) (ew4 hlt) aj1 aj3 aj2 N0;rw[N0]at hld;have hdrop:p.procs.drop i=p.procs[i]::p.procs.drop (i+1):=eA2 hlt;obtain⟨x,hok,_⟩:=Y5 p hw i hlt;have hwy:=hwf _ (ex8 hlt);obtain⟨hmem,hlen⟩:=aZ5 p hw i hlt;have hpr:=bA2 p hw i hlt;have hlb:=cO7 p hw i hlt;generalize p.procs[i]=y at hsv hdrop hwy hok hlb;rw[hdrop,O6,an4]at hsp;obtain⟨b,wz,w7,hal7,hst7,hx7,hat⟩:=aG8 (hsv.mono (b7 (hx12.trans hx26))) (i4 _);obtain⟨_,_,_,vf,_,_,_,hvf,ldq,_⟩:=hat.pr;have hx27:=hx26.trans hx7;simp only[n3,n8,v8,simprocAttr,h18,e3,e16,hin,hld,hal7,hst7];refine z6 aZ1 (aQ5 sh (b9 p) i x _ w7 (hsh.mono (b7 (hx6.trans hx7))) hok) ?_;rintro ul w10 ⟨hul,hx10⟩;have hx210:=hx27.trans hx10;generalize hof:(b9 p).of i=l at hul hmem hsp hlen hpr hlb;have hSl:=hul.isS;have hnl2:=hul.vlen;simp only[n3,n8,simprocAttr,hSl,hnl2];refine n7 [1,2,3,5,16,17,18,25,26] (σ:=Nat×Value×List A6) (fun s f w'=>f 27 = .int .i64 s.1∧f 6=s.2.1∧s.1≤l.length∧A9 (d7 w10) w' 9 s.2.1 s.2.2∧aq0 (b9 p) [] l=aq0 (b9 p) s.2.2 (l.drop s.1)∧s.2.2.length+aC6 (l.drop s.1)=aC6 l∧o6 w10 w') (fun s=>l.length-s.1) (0,.slice none 0 0,[]) (by decide +kernel) ?_ ?_
 ·simp only[p7,simprocAttr];exact⟨by trivial,by trivial,ex6 _,A9.nil _ _ _,by rw[eE8],by rw[eE8];simp,o9.refl _⟩
 rintro⟨m,u,seen⟩ f3 w11 hk ⟨h27,h6,hml,ho,hj,hll,hx11⟩;simp only at h27 h6 hml ho hj hll;simp only[ew6,p7,simprocAttr]at hk;obtain⟨g1,g2,g3,g5,g16,g17,g18,g25,g26,_⟩:=hk;rw[e1]at g1;rw[e2]at g2;rw[e3]at g3;rw[h18]at g18;have hx211:=hx210.trans hx11;simp only[n3,n8,simprocAttr,h27,g26];refine i5 (fun hc=>?_) (fun hc=>?_);rotate_left
 ·have hge2:m=l.length:=by simp at hc;omega
  subst hge2;rw[eF5,aq0]at hj;rw[hj]at hsp;rw[eF5]at hll;have hll2:seen.length+y.fin.length≤1000000:=by simp[aC6]at hll;unfold aC6 at hlb;omega
  have lq:=ldq w11 (b7 (hx10.trans hx11));simp only[n3,n8,simprocAttr,h6,g5,lq];refine z6 dd2 (bs8 u vf seen y.fin (d7 w10) w11 ho (A3.mono (b7 hx10) hvf) (b7 hx11) (by omega)) ?_;rintro _ w12 ⟨⟨u2,ok,rfl,hokq,hs2⟩,hm12⟩;have hx1012:o6 w10 w12:=ho.ext2 hx11 hm12;have hx212:=hx210.trans hx1012;rcases ew5 ok with hqk|hqk
  ·rw[hqk]at hokq;have hsome:∃s',an3 seen y.fin=some s':=eC2.1 hokq.symm;obtain⟨s',hs'⟩:=hsome;simp only[hs']at hsp;simp only[n3,n8,simprocAttr,hqk,g18];refine⟨i+1,by omega,by rw[B2 i (by omega)],by omega,hsp,?_⟩;exact hx6.trans (hx7.trans (hx10.trans hx1012))
  ·rw[hqk]at hokq;have hnone:an3 seen y.fin=none:=by
    cases h:an3 seen y.fin
    ·rfl
    ·rw[h]at hokq;cases hokq
   simp only[hnone]at hsp;obtain⟨w9,s1,s2,s3⟩:=hret w12 hx212 (7,0);simp only[n3,n8,simprocAttr,hqk,g2,O3,s1];refine L0 results99 (by simp only[p7,simprocAttr];exact g2) s2 ?_;exact⟨by rw[hF,hsp];rfl,s3⟩
 have hmt:m<l.length:=by simpa using hc
 clear hin hld;have hin:=hul.inS hmt;obtain⟨sv2,hsv2,hld2⟩:=F4 (P:=prog) (t:=121) hul (b7 hx11) (ew4 hmt) X7 X9 X8 I6;rw[I6]at hld2;have hpit:=hpr _ (ex8 hmt);have hdr:=cl4 hmt;rw[eA2 hmt,aq0]at hj;generalize l[m]=it at hsv2 hpit hj hdr;obtain⟨c,wz2,w12,hal12,hst12,hx12',hati⟩:=aG9 (w:=w11) (A4 u) hsv2 (fun b hb=>ho.lt hb);obtain⟨ldI,_⟩:=I4.it_v hsv2 hati;obtain⟨us,hus,hats,_,_⟩:=I4.it hsv2 hati;obtain⟨vlb,_,_,_,_,hvlb,_,_,_,_,_,ldt,_⟩:=I4.st hus hats;have ho12:=ho.ext hx12';have hx1012:=hx11.trans hx12';have k1:=ldt w12 (B3 _ _);simp only[n3,n8,v8,simprocAttr,h27,h6,g25,hin,hld2,hal12,hst12,k1];refine z6 dd2 (bs8 u vlb seen it.s.labels (d7 w10) w12 ho12 hvlb (b7 hx1012) (by omega)) ?_;rintro _ w13 ⟨⟨u2,ok,rfl,hokq,hs2⟩,hm13⟩;have hx1013:o6 w10 w13:=ho12.ext2 hx1012 hm13;have hx213:=hx210.trans hx1013;have k2:=ldt w13 (C9 hm13);have k3:=ldI w13 (C9 hm13);rcases ew5 ok with hqk|hqk;rotate_left
 ·rw[hqk]at hokq;have hnone:an3 seen it.s.labels=none:=by
   cases h:an3 seen it.s.labels
   ·rfl
   ·rw[h]at hokq;cases hokq
  simp only[hnone]at hj;rw[hj]at hsp;obtain⟨w9,s1,s2,s3⟩:=hret w13 hx213 (7,it.s.id);simp only[n3,n8,simprocAttr,hqk,k2,g2,as0,s1];refine L0 results99 (by simp only[p7,simprocAttr];exact g2) s2 ?_;exact⟨by rw[hF,hsp];rfl,s3⟩
 rw[hqk]at hokq;obtain⟨s',hs'⟩:∃s',an3 seen it.s.labels=some s':=eC2.1 hokq.symm;simp only[hs']at hj;obtain⟨ho13,hl13⟩:=hs2 s' hs';simp only[n3,n8,simprocAttr,hqk,g3,k3];refine B7 eg4 (cl5 sh sv2 (b9 p) it i x _ w13 (hsh.mono (b7 (hx6.trans (hx7.trans (hx10.trans hx1013))))) (hsv2.mono (b7 hx1013)) hpit hok (by rw[hpp];exact hlt) hwl (by rw[hpp];exact hwf)) (fun w14 hx14=>?_);have k4:=ldt w14 (p6 (C9 hm13) (b7 hx14));rcases ew5 (an5 (b9 p) it)with hle4|hle4
 ·rw[if_pos hle4]at hj;simp only[n3,n8,simprocAttr,hle4,h27];refine⟨(m+1,u2,s'),by simp only[];omega,by simp only[];rw[B2 m (by omega)],by trivial,by simp only[];omega,ho13.ext hx14,hj,by simp only[];omega,hx1013.trans hx14⟩
 ·rw[if_neg (by rw[hle4];simp)]at hj;rw[hj]at hsp;obtain⟨w9,s1,s2,s3⟩:=hret w14 (hx213.trans hx14) (7,it.s.id);simp only[n3,n8,simprocAttr,hle4,k4,g2,as0,s1];refine L0 results99 (by simp only[p7,simprocAttr];exact g2) s2 ?_;exact⟨by rw[hF,hsp];rfl,s3⟩
def eJ3:=@Bool.false_or
def eA8:=@List.mem_filter
def ez6:=@List.mem_map
def eJ5:=@List.nodup_cons
theorem M6{α:Type}[DecidableEq α]:∀{l m:List α},l.Nodup→(∀x∈l,x∈m)→l.length≤m.length
 | [],m,_,_=>by simp
 | x::l,m,hn,hs=>by
  rw[eJ5]at hn;have hx:=hs x (by simp);have h1:=M6 (l:=l) (m:=m.erase x) hn.2 fun y hy=>(List.mem_erase_of_ne (fun e=>hn.1 (by rw[←e];exact hy))).2 (hs y (by simp[hy]));rw[List.length_erase_of_mem hx]at h1;have:=List.length_pos_of_mem hx;simp only[ey7];omega
theorem bk2{p:Pg}{procs:List A6}{f:Pr}{l:List It}{e:Int×Int}(h:V9 p procs f l=some e):e.1=5:=by
 unfold V9 at h;split at h
 ·obtain rfl:=ey4 h;rfl
 ·split at h
  ·obtain rfl:=ey4 h;rfl
  ·cases h
theorem az3{p:Pg}{s:Sh}{procs:List A6}:∀{l:List Pr} {i:Nat} {e:Int×Int},L6 p s procs i l=some e→e.1=5
 | [],i,e,h=>by cases h
 | f::l,i,e,h=>by
  rw[L6]at h;split at h
  ·next h'=>obtain rfl:=ey4 h;exact bk2 h'
  ·exact az3 h
theorem az4{p:Pg}{s:Sh}{procs:List A6}:∀{l:List Pr} {i:Nat},L6 p s procs i l=none→∀k (hk:k<l.length),V9 p procs l[k] (s.of (i+k:Nat))=none
 | [],i,_,k,hk=>by simp at hk
 | f::l,i,h,k,hk=>by
  rw[L6]at h;split at h
  ·cases h
  ·next h'=>
   cases k with
   | zero=>simpa using h'
   | succ k=>
    have:=az4 h k (by simpa using hk);rw[show i+1+k=i+(k+1) by omega]at this;simpa using this
structure Known (p:Pg):Prop where
 may:P9 p=true
 globals:p.globals.Nodup
 names:(p.procs.map (·.name)).Nodup
 main:∃(i:Nat) (q:Pr),p.procs[i]?=some q∧q.name=P8∧q.params=[]
 proc:∀i (hi:i<p.procs.length),(bj2 p.procs[i]).Nodup∧(∀n∈bj2 p.procs[i],n∉p.globals)∧∀it∈(b9 p).of i,ab9 p p.procs[i] (p.procs.map (·.name)) it.s=true
theorem bi2{p:Pg}(h:(N7 p).1=0):Known p:=by
 unfold N7 at h;cases hmay:P9 p
 ·rw[hmay]at h;simp at h
 rw[if_neg (by rw[hmay];simp)]at h;cases hb:(X6 p.globals||X6 (p.procs.map (·.name))||decide (R9 p.procs P8<0)||decide (0<(p.procs.getD (R9 p.procs P8).toNat bo8).params.length));rotate_left
 ·simp only[hb,eC9]at h;simp at h
 simp only[hb]at h;simp only[Bool.or_eq_false_iff]at hb;obtain⟨⟨⟨h1,h2⟩,h3⟩,h4⟩:=hb;have h3':0≤R9 p.procs P8:=by simpa using h3
 obtain⟨k,e,q,hq,hqn⟩:=aC3 _ p.procs 0 h3';have e':R9 p.procs P8=(k:Int):=by unfold R9;rw[e];simp
 rw[e',ez1,List.getD,hq]at h4;have hno:L6 p (b9 p) (p.procs.map (·.name)) 0 p.procs=none:=by
  cases hs:L6 p (b9 p) (p.procs.map (·.name)) 0 p.procs with
  | none=>rfl
  | some e=>
   have:=az3 hs;simp only[hs]at h;simp at h;omega
 refine⟨hmay,by simpa[X6]using h1,by simpa[X6]using h2,⟨k,q,hq,ew8 hqn,?_⟩,fun i hi=>?_⟩
 ·have:q.params.length=0:=by simpa using h4
  exact List.eq_nil_of_length_eq_zero this
 ·have hp:=az4 hno i hi;rw[ez8]at hp;unfold V9 at hp;split at hp
  ·cases hp
  ·next hc=>
   have hc':=eH0.2 hc;simp only[Bool.or_eq_false_iff]at hc';split at hp
   ·cases hp
   ·next hf=>
    refine⟨by simpa[X6]using hc'.1,fun n hn hg=>?_,fun it hit=>?_⟩
    ·have:=List.any_eq_false.1 hc'.2 n hn;exact this (ez2.2 hg)
    ·have:=eF0.1 hf it hit;simpa using this
theorem ae4{p:Pg}{n:A6}(h:n∈p.procs.map (·.name)):∃(i:Nat) (hi:i<p.procs.length),(b9 p).pr n=(i:Int)∧p.procs[i].name=n:=by
 obtain⟨q,hq,rfl⟩:=ez6.1 h;have hany:p.procs.any (fun f=>decide (f.name=q.name))=true:=eJ7.2 ⟨q,hq,by simp⟩;rw[←as5 (fun f:Pr=>decide (f.name=q.name)) p.procs 0]at hany;obtain⟨k,e,x,hx,hxn⟩:=aC3 _ p.procs 0 (ew8 hany);obtain⟨hk,e2⟩:=ex1.1 hx;refine⟨k,hk,?_,by rw[e2];exact ew8 hxn⟩;unfold Sh.pr R9;rw[I1,e,ez8]
theorem aX5{p:Pg}(K:Known p){m x:A6}(hm:m∈p.procs.map (·.name))(hx:x∈am5 (b9 p) m):x∈p.procs.map (·.name):=by
 obtain⟨i,hi,e,_⟩:=ae4 hm;unfold am5 at hx;rw[U8,e]at hx;obtain⟨it,hit,rfl⟩:=ez6.1 hx;obtain⟨hit,hk⟩:=eA8.1 hit;have:=(K.proc i hi).2.2 it hit;unfold ab9 at this;rw[hk]at this;simp only[Bool.not_true,eJ3,ey9]at this;exact ez2.1 this.2.2
theorem be4:∀(l out:List A6) (x:A6),x∈ah9 out l↔x∈out∨x∈l
 | [],out,x=>by simp[ah9]
 | n::l,out,x=>by
  rw[ah9,be4 l];split
  ·next h=>
   have:=ez2.1 h;constructor
   ·rintro(h|h)
    ·exact .inl h
    ·exact .inr (by simp[h])
   ·rintro(h|h)
    ·exact .inl h
    ·rcases ey3.1 h with rfl|h
     ·exact .inl this
     ·exact .inr h
  ·simp[or_assoc]
theorem aM7:∀(l out:List A6),out.Nodup→(ah9 out l).Nodup
 | [],out,h=>h
 | n::l,out,h=>by
  rw[ah9];refine aM7 l _ ?_;split
  ·exact h
  ·next hc=>
   rw[eD6];refine⟨h,by simp,fun a ha b hb=>?_⟩;simp only[ez7]at hb;subst hb;rintro rfl;exact hc (ez2.2 ha)
def ez0:=@List.length_filter_le
theorem cw5:ag0 prog 125=true:=by kernel_rfl
theorem ej5:ag0 prog 252=true:=by kernel_rfl
theorem ej6:ag0 prog 253=true:=by kernel_rfl
theorem ej7:ag0 prog 254=true:=by kernel_rfl
theorem bs0:ag0 prog 46=true:=by kernel_rfl
theorem bH9:ag0 prog 67=true:=by kernel_rfl
theorem A9.flatR{α:Type}[I7 α]{h k:Hp}{w:World}{T:TypeId}{v:Value}{xs:List α}(ho:A9 h w T v xs)(hb:∀b,A4 v b→k b=w.heap[b]?):R k v xs:=
 (ho.down (h:=fun _=>none) (fun b o e=>nomatch e)).ro (fun b o e=>nomatch e) hb
theorem al6{h:Hp}{w:World}{v:Value}{l:List A6}(ho:A9 h w 9 v l)(hl:l.length≤1000000000):
  Calls prog 67 #[v] w fun e w'=>∃u,e = .returned u∧(A9 h w' 9 v (U7 l)∧o9 (A4 v) w w'):=(co4 ho hl).mono fun e w' ⟨h1,h2⟩=>⟨_,h1,h2⟩
theorem bM8(sv:Value)(q:Pr)(n:A6)(a:Addr)(w:World)(hv:SV (d7 w) sv q)(hl:∀w',o6 w w'→(Instr.loadAt 9 (.pointer (some a))).run prog w' = .ok (o7 n) w'):
  Calls prog 253 #[sv,.pointer (some a)] w fun e w'=>∃u,e = .returned u∧(u = .bool (decide (q.name=n))∧o6 w w'):=by
 refine d9 (args:=[sv,.pointer (some a)]) hm func253 rfl (by kernel_rfl) (by show 2≤_;decide +kernel) ?_;obtain⟨b,w1,hb,hx,ha⟩:=bc8 hv (i4 _);obtain⟨_,_,_,_,_,_,_,_,ld,_⟩:=ha.pr;have l1:=ld w1 (i4 _);have l2:=hl w1 hx;simp only[n3,n8,simprocAttr,hb,l1,l2];refine n9 results253 ?_;simp only[p7,simprocAttr];exact⟨by trivial,hx⟩
theorem bW4(v:Value)(p:Pg)(n:A6)(w:World)(hv:SV (d7 w) v p)(hw:D6 p≤1000000):Calls prog 216 #[v,o7 n] w fun e w'=>∃u,e = .returned u∧(u = .bool (aU4 p n)∧o6 w w'):=by
 refine d9 (args:=[v,o7 n]) hm func216 rfl (by kernel_rfl) (by show 2≤_;decide +kernel) ?_;obtain⟨a,w1,hbx,hx1,ha⟩:=V2 (w:=w) (fun _=>False) hv (fun _ h=>h.elim);obtain⟨vg,vp,hg,hp,ld,_⟩:=I4.pg hv ha;obtain⟨lw,_⟩:=I4.pg_v hv ha;obtain⟨b,w2,hb2,hx2,hldn⟩:=cW9 n w1;have hlw:∀w',o6 w1 w'→B4 (B8 w1 fun _=>False) (d7 w'):=fun w' h=>p6 (B3 _ _) (b7 h);have lw2:=lw w2 (hlw _ hx2);have hpl:p.procs.length≤1000000:=by
  have:=aa9 p.procs;unfold D6 at hw;omega
 simp only[n3,n8,simprocAttr,hbx,hb2,lw2];refine B7 cx9 (ac4 v p w2 (hv.mono (b7 (hx1.trans hx2))) hw) (fun w3 hx3=>?_);have hx13:=hx2.trans hx3;have l3:=ld w3 (hlw _ hx13);rcases ew5 (decide ((N7 p).1=0))with hsc|hsc
 ·simp only[n3,n8,simprocAttr,aj8,hsc,l3];refine B7 ej5 (aM3 (fun f=>decide (f.name=n)) 253 #[.pointer (some b)] vp p.procs w3 ej6 (A3.mono (b7 (hx1.trans hx13)) hp) (by omega)
   (fun sv x w' hx' _ hsv=>bM8 sv x n b w' hsv fun w'' hx''=>hldn w'' (hx3.trans (hx'.trans hx'')))) (fun w4 hx4=>?_)
  simp only[n3,simprocAttr];refine n9 results216 ?_;simp only[p7,simprocAttr];exact⟨by rw[aU4,hsc,eG4],hx1.trans (hx13.trans hx4)⟩
 ·simp only[n3,n8,simprocAttr,aj8,hsc];refine n9 results216 ?_;simp only[p7,simprocAttr];exact⟨by rw[aU4,hsc];rfl,hx1.trans hx13⟩
theorem ci4(a:Addr)(p:Pg)(n:A6)(w:World)(hs:At (d7 w) a (b9 p))(hw:D6 p≤1000000)(hn:n∈p.procs.map (·.name)):
  Calls prog 254 #[.pointer (some a),o7 n] w fun e w'=>∃u,e = .returned u∧(A9 (d7 w) w' 9 u (am5 (b9 p) n)∧o6 w w'):=by
 refine d9 (args:=[.pointer (some a),o7 n]) hm func254 rfl (by kernel_rfl) (by show 2≤_;decide +kernel) ?_;obtain⟨i,hi,hpr,_⟩:=ae4 hn;obtain⟨x,hok,_⟩:=Y5 p hw i hi;obtain⟨hmem,hlen⟩:=aZ5 p hw i hi;have hpl:(b9 p).p.procs.length≤1000000:=by
  rw[I1];have:=aa9 p.procs;unfold D6 at hw;omega
 simp only[n3,n8,simprocAttr];refine B7 bs0 (Z9 a (b9 p) n w hs (by omega)) (fun w1 hx1=>?_);rw[hpr];simp only[n3,simprocAttr];refine z6 aZ1 (aQ5 a (b9 p) i x _ w1 (hs.mono (b7 hx1)) hok) ?_;rintro ul w2 ⟨hul,hx2⟩;have hx02:=hx1.trans hx2;have hF:am5 (b9 p) n=H4 (U7 ((((b9 p).of i).filter fun it=>decide (it.s.kind=4)).map (·.s.proc))):=by rw[am5,hpr];rfl
 generalize(b9 p).of i=l at hul hlen hF;have hSl:=hul.isS;have hnl:=hul.vlen;simp only[n3,n8,simprocAttr,hSl,hnl];refine n7 [12,13] (σ:=Nat×Value) (fun s f w'=>f 14 = .int .i64 s.1∧f 5=s.2∧s.1≤l.length∧A9 (d7 w2) w' 9 s.2 (((l.take s.1).filter fun it=>decide (it.s.kind=4)).map (·.s.proc))∧o6 w2 w') (fun s=>l.length-s.1) (0,.slice none 0 0) (by decide +kernel) ?_ ?_
 ·simp only[p7,simprocAttr];exact⟨by trivial,by trivial,ex6 _,by simpa using A9.nil _ _ _,o9.refl _⟩
 rintro⟨k,u⟩ f w3 hk ⟨h14,h5,hkl,ho,hx3⟩;simp only at h14 h5 hkl ho;simp only[ew6,p7,simprocAttr]at hk;obtain⟨e12,e13,_⟩:=hk;have hcnt:((l.take k).filter fun it=>decide (it.s.kind=4)).length≤k:=ex3 (ez0 _ _) (by rw[ex4];omega);simp only[n3,n8,simprocAttr,h14,e13];refine i5 (fun hc=>?_) (fun hc=>?_);rotate_left
 ·have hge:k=l.length:=by simp at hc;omega
  subst hge;rw[ex5]at ho hcnt;simp only[n3,simprocAttr,h5];refine z6 bH9 (al6 ho (by rw[ex7];omega)) ?_;rintro _ w4 ⟨ho4,hm4⟩;have hx24:=ho.ext2 hx3 hm4;simp only[n3,simprocAttr,h5];refine z6 cw5 (aT5 ho4 (by rw[Q8,ex7];omega)) ?_;rintro u5 w5 ⟨ho5,hm5,_⟩;have hx25:=ho4.ext2 hx24 hm5;simp only[n3,simprocAttr];refine n9 results254 ?_;simp only[p7,simprocAttr];exact⟨by rw[hF];exact ho5.back hx02,hx02.trans hx25⟩
 have hlt:k<l.length:=by simpa using hc
 have hin:=hul.inS hlt;obtain⟨sv,hsv,hld⟩:=F4 (P:=prog) (t:=121) hul (b7 hx3) (ew4 hlt) X7 X9 X8 I6;rw[I6]at hld;have htk:((l.take (k+1)).filter fun it=>decide (it.s.kind=4)).map (·.s.proc)=((l.take k).filter fun it=>decide (it.s.kind=4)).map (·.s.proc)++if l[k].s.kind=4 then[l[k].s.proc]else[]:=by
  rw[ex2 hlt,eD4,ez5]
  congr 1
  by_cases h:l[k].s.kind=4<;>simp[h]
 generalize l[k]=it at hsv htk;obtain⟨c,wz2,w4,hal,hst,hx4,hati⟩:=ay3 (hsv.mono (b7 hx3)) (i4 _);obtain⟨hats,_,_⟩:=hati.it;obtain⟨_,_,_,_,_,_,_,_,_,ldt,_⟩:=hats.st;have l4:=ldt w4 (i4 _);have ho4:=ho.ext hx4;have hx24:=hx3.trans hx4;rcases ew5 (decide (it.s.kind=4))with hq|hq
 ·obtain⟨p1,u',w5,p2,p3,p4,p5⟩:=push (e:=22) ar1 rfl ho4 (x:=o7 it.s.proc) (y:=it.s.proc) rfl (by rw[ex7];omega) (by rw[ex7];omega) (b7 hx24);simp only[n3,n8,v8,simprocAttr,h14,h5,e12,hin,hld,hal,hst,l4,hq,p1,p2];refine⟨(k+1,u'),by simp only[];omega,by simp only[];rw[B2 k (by omega)],by trivial,by simp only[];omega,?_,ho4.ext2 hx24 p4⟩;simp only[];rw[htk,if_pos (ew8 hq)];exact p3
 ·simp only[n3,n8,v8,simprocAttr,h14,h5,e12,hin,hld,hal,hst,l4,hq];refine⟨(k+1,u),by simp only[];omega,by simp only[];rw[B2 k (by omega)],by trivial,by simp only[];omega,?_,hx24⟩;simp only[];rw[htk,if_neg (ew9 hq),ez3];exact ho4
theorem bQ3(g:A6→List A6)(m i:Nat)(out:List A6)(h:out.length≤i):ad6 g m i out=out:=by
 cases m with
 | zero=>rfl
 | succ m=>rw[ad6,eD2 h]
theorem ci5(g:A6→List A6)(m i:Nat)(out:List A6)(h:i<out.length):ad6 g (m+1) i out=ad6 g m (i+1) (ah9 out (g out[i])):=by
 rw[ad6,ew4 h]
theorem bP9{p:Pg}(hw:D6 p≤1000000){n:A6}(hn:n∈p.procs.map (·.name)):(am5 (b9 p) n).length≤400000:=by
 obtain⟨i,hi,hpr,_⟩:=ae4 hn;obtain⟨_,hlen⟩:=aZ5 p hw i hi;unfold am5;rw[hpr];refine ex3 (aq5 _) ?_;rw[ex7];exact ex3 (ez0 _ _) hlen
theorem cK7(a:Addr)(p:Pg)(n:A6)(w:World)(hs:At (d7 w) a (b9 p))(hw:D6 p≤1000000)(K:Known p)(hn:n∈p.procs.map (·.name)):
  Calls prog 217 #[.pointer (some a),o7 n] w fun e w'=>∃u,e = .returned u∧(A9 (d7 w) w' 9 u (bn6 (b9 p) n)∧o6 w w'):=by
 refine d9 (args:=[.pointer (some a),o7 n]) hm func217 rfl (by kernel_rfl) (by show 2≤_;decide +kernel) ?_;have hpl:p.procs.length≤1000000:=by
  have:=aa9 p.procs;unfold D6 at hw;omega
 have hF:bn6 (b9 p) n=U7 (ad6 (am5 (b9 p)) (p.procs.length+1) 0 [n]):=by rw[bn6,I1]
 have hg:=fun m (hm:m∈p.procs.map (·.name))=>ci4 (p:=p) (n:=m) (a:=a) (hw:=hw) (hn:=hm);have hgk:=fun m x (hm:m∈p.procs.map (·.name)) hx=>aX5 K (m:=m) (x:=x) hm hx;have hgl:=fun m (hm:m∈p.procs.map (·.name))=>bP9 hw hm;have hnl:(p.procs.map (·.name)).length=p.procs.length:=ex7 _;generalize am5 (b9 p)=g at hF hg hgk hgl;generalize p.procs.map (·.name)=names at hn hg hgk hgl hnl;obtain⟨u1,w1,hlit,ho1,hx1,_⟩:=lit (P:=prog) (w:=w) (h:=d7 w) (α:=A6) (xs:=[o7 n]) (ys:=[n]) (parts:=#[(0,o7 n)]) (n:=1) ar1 rfl (aB3.2 rfl) (by simp[o7,Value.cells]) rfl rfl (by simp) (by simp) (i4 _);simp only[n3,n8,simprocAttr,hlit];refine n7 [0] (σ:=Nat×Value×List A6) (fun s f w'=>f 6 = .int .i64 s.1∧f 5=s.2.1∧s.1≤s.2.2.length∧A9 (d7 w) w' 9 s.2.1 s.2.2∧s.2.2.Nodup∧(∀x∈s.2.2,x∈names)∧ad6 g (p.procs.length+1) 0 [n]=ad6 g (p.procs.length+1-s.1) s.1 s.2.2∧o6 w w') (fun s=>p.procs.length+1-s.1) (0,u1,[n]) (by decide +kernel) ?_ ?_
 ·simp only[p7,simprocAttr];exact⟨by trivial,by trivial,ex6 _,ho1,by simp,by simpa using hn,by simp,hx1⟩
 rintro⟨i,u,out⟩ f w2 hk ⟨h6,h5,hil,ho,hnd,hsub,hcl,hx2⟩;simp only at h6 h5 hil ho hnd hsub hcl;simp only[ew6,p7,simprocAttr]at hk;obtain⟨e0,_⟩:=hk;have hol:out.length≤p.procs.length:=by rw[←hnl];exact M6 hnd hsub
 have hSo:=ho.isS;have hno:=ho.vlen;simp only[n3,n8,simprocAttr,h6,h5,hSo,hno];refine i5 (fun hc=>?_) (fun hc=>?_);rotate_left
 ·have hge:i=out.length:=by simp at hc;omega
  subst hge;rw[bQ3 g _ _ _ (ex9 _)]at hcl;simp only[n3,simprocAttr,h5];refine z6 bH9 (al6 ho (by omega)) ?_;rintro _ w4 ⟨ho4,hm4⟩;simp only[n3,simprocAttr,h5];refine n9 results217 ?_;simp only[p7,simprocAttr];exact⟨by rw[hF,hcl];exact ho4,ho.ext2 hx2 hm4⟩
 have hlt:i<out.length:=by simpa using hc
 have hin:=ho.inS hlt;have hld:=ldS (ho.rw_ (b7 hx2)) (i4 _) hlt;have hmi:=hsub _ (ex8 hlt);rw[show p.procs.length+1-i=(p.procs.length-i)+1 by omega,ci5 g _ _ _ hlt]at hcl;generalize out[i]=m at hld hmi hcl;simp only[n3,n8,v8,simprocAttr,h6,h5,e0,hin,hld];refine z6 ej7 (hg m hmi w2 (hs.mono (b7 hx2))) ?_;rintro uc w3 ⟨hoc,hx3⟩;have huc:R (B8 w3 (A4 u)) uc (g m):=hoc.flatR fun b hb=>D3 fun hbu=>by
  have h1:=ho.lt hbu;have h2:=C5 (hoc.free hb);omega
 have hx03:=hx2.trans hx3;have ho3:=ho.ext hx3;have hcll:=hgl m hmi;have hck:=fun x=>hgk m x hmi;generalize g m=cl at hoc huc hcll hcl hck;have hSc:=huc.isS;have hnc:=huc.vlen;simp only[n3,n8,simprocAttr,hSc,hnc];refine n7 [0,6,22,23] (σ:=Nat×Value×List A6) (fun s f w'=>f 24 = .int .i64 s.1∧f 5=s.2.1∧s.1≤cl.length∧A9 (d7 w) w' 9 s.2.1 s.2.2∧s.2.2.Nodup∧(∀x∈s.2.2,x∈names)∧ah9 out cl=ah9 s.2.2 (cl.drop s.1)∧out.length≤s.2.2.length∧o9 (A4 u) w3 w'∧E0 w3 u s.2.1) (fun s=>cl.length-s.1) (0,u,out) (by decide +kernel) ?_ ?_
 ·simp only[p7,simprocAttr];exact⟨by trivial,h5,ex6 _,ho.ext hx3,hnd,hsub,by rw[eE8],ex9 _,o9.refl _,fun b hb=>.inl hb⟩
 rintro⟨k,u4,o⟩ f4 w4 hk ⟨h24,h5',hkl,ho4,hnd4,hsub4,hadd,hlo,hm4,hmv4⟩;simp only at h24 h5' hkl ho4 hnd4 hsub4 hadd hlo hmv4;simp only[ew6,p7,simprocAttr]at hk;obtain⟨g0,g6,g22,g23,_⟩:=hk;have hx04:=ho3.ext2 hx03 hm4;have hol4:o.length≤p.procs.length:=by rw[←hnl];exact M6 hnd4 hsub4
 simp only[n3,n8,simprocAttr,h24,g23];refine i5 (fun hc=>?_) (fun hc=>?_);rotate_left
 ·have hge:k=cl.length:=by simp at hc;omega
  subst hge;rw[eF5,ah9]at hadd;rw[hadd]at hcl;simp only[n3,n8,simprocAttr,g6,h6];refine⟨(i+1,u4,o),by simp only[];omega,by simp only[];rw[B2 i (by omega)],h5',by simp only[];omega,ho4,hnd4,hsub4,?_,hx04⟩;simp only[];rw[hcl]
  congr 1
  omega
 have hlt4:k<cl.length:=by simpa using hc
 have hin4:=huc.inS hlt4;have hld4:=ldS huc (C9 hm4) hlt4;rw[eA2 hlt4,ah9]at hadd;have hck4:=hck _ (ex8 hlt4);generalize cl[k]=y at hld4 hadd hck4;simp only[n3,n8,v8,simprocAttr,h24,h5',g22,hin4,hld4];refine D1 ab7 (N5 u4 o y w4 (ho4.rw_ (b7 hx04)) (by omega)) ?_;rcases ew5 (o.contains y)with hq|hq
 ·rw[if_pos hq]at hadd;simp only[n3,n8,simprocAttr,hq,h24];refine⟨(k+1,u4,o),by simp only[];omega,by simp only[];rw[B2 k (by omega)],h5',by simp only[];omega,ho4,hnd4,hsub4,hadd,hlo,hm4,hmv4⟩
 ·obtain⟨p1,u5,w5,p2,p3,p4,p5⟩:=push (e:=22) ar1 rfl ho4 (x:=o7 y) (y:=y) rfl (by omega) (by omega) (b7 hx04);rw[if_neg (by rw[hq];simp)]at hadd;simp only[n3,n8,simprocAttr,hq,h24,h5',p1,p2];refine⟨(k+1,u5,o++[y]),by simp only[];omega,by simp only[];rw[B2 k (by omega)],by trivial,by simp only[];omega,p3,?_,?_,hadd,by simp only[ew7];omega,hm4.chain p4 fun b hb hbu=>?_,fun b hb=>?_⟩
  ·rw[eD6];refine⟨hnd4,by simp,fun a ha b hb=>?_⟩;simp only[ez7]at hb;subst hb;rintro rfl;rw[ez2.2 ha]at hq;cases hq
  ·intro x hx;simp only at hx;rcases ey1.1 hx with h|h
   ·exact hsub4 x h
   ·simp only[ez7]at h;subst h;exact hck4
  ·rcases hmv4 b hbu with h|h
   ·exact h
   ·omega
  ·rcases p5 b hb with h|h
   ·exact hmv4 b h
   ·exact .inr (ex3 hm4.size h)
theorem ei4:ag0 prog 216=true:=by kernel_rfl
theorem ei5:ag0 prog 217=true:=by kernel_rfl
theorem Q7{α β:Type}(f:α→List β)(B:Nat):∀(l:List α),(∀x∈l,(f x).length≤B)→(l.flatMap f).length≤l.length*B
 | [],_=>by simp
 | x::l,h=>by
  have h1:=Q7 f B l fun y hy=>h y (by simp[hy]);have h2:=h x (by simp);rw[eF7,ew7,ey7,Nat.succ_mul];omega
theorem cb7{α β:Type}(f:α→List β)(l:List α)(k:Nat):((l.take k).flatMap f).length≤(l.flatMap f).length:=by
 conv=>rhs;rw[←ez9 k l,eG2,ew7]
 omega
def aW1(g:St→Nat)(l:List It):Nat:=(l.map fun it=>g it.s).sum
theorem bM7(g:St→Nat)(l m:List It):aW1 g (l++m)=aW1 g l+aW1 g m:=by simp[aW1]
theorem bv2(g:St→Nat)(x:It)(m:List It):aW1 g (x::m)=g x.s+aW1 g m:=by simp[aW1]
mutual
theorem cQ5(g:St→Nat)(hg:∀t:St,g t+G5 t.thn+G5 t.els≤O0 t):∀(t:St) (k:Nat) (pr up nx lp:Int),aW1 g (U2 t k pr up nx lp)≤O0 t
 | .mk id kind labels name proc x has args thn els,k,pr,up,nx,lp=>by
  rw[O4,bv2,bM7];have h2:=fun k' nx' lp'=>aR2 g hg els k' pr (k+1) nx' lp';have h4:=fun k' nx' lp'=>aR2 g hg thn k' pr (k+1) nx' lp';have h5:=hg (.mk id kind labels name proc x has args thn els);simp only[St.thn,St.els]at h5 ⊢;refine ex3 (Nat.add_le_add_left (Nat.add_le_add (h4 _ _ _) (h2 _ _ _)) _) ?_;omega
theorem aR2(g:St→Nat)(hg:∀t:St,g t+G5 t.thn+G5 t.els≤O0 t):∀(l:List St) (k:Nat) (pr up nx lp:Int),aW1 g (C6 l k pr up nx lp)≤G5 l
 | [],_,_,_,_,_=>by simp[C6,aW1]
 | t::l,k,pr,up,nx,lp=>by
  rw[C6,bM7,G5];exact Nat.add_le_add (cQ5 g hg t _ _ _ _ _) (aR2 g hg l _ _ _ _ _)
end
theorem cO9(g:St→Nat)(hg:∀t:St,g t+G5 t.thn+G5 t.els≤O0 t)(p:Pg)(hw:D6 p≤1000000)(i:Nat)(hi:i<p.procs.length):aW1 g ((b9 p).of i)≤1000000:=by
 obtain⟨x,_,e⟩:=Y5 p hw i hi;have h1:=aR2 g hg p.procs[i].body x i 0 (-1) 0;have h2:=ao4 p hw _ (ex8 hi);unfold T3 at h2;rw[e];omega
theorem bM4(t:St):(K8 t).length+G5 t.thn+G5 t.els≤O0 t:=by
 rw[P4];have h1:=Z8 t.x;have h2:=L8 t.args;have h3:1≤wtT t.name:=by simp[wtT]
 have h4:(if t.kind≠10∧t.name≠e0 then[t.name]else[]).length≤1:=by split<;>simp
 unfold K8;rw[ew7,ew7];omega
theorem aY6(f:It→List A6)(g:St→Nat)(h:∀it,(f it).length≤g it.s):∀l:List It,(l.flatMap f).length≤aW1 g l
 | []=>by simp[aW1]
 | x::l=>by
  have:=aY6 f g h l;have:=h x;rw[eF7,ew7,bv2];omega
theorem be9{g:A6→List A6}{names:List A6}(hg:∀m∈names,∀x∈g m,x∈names):∀(m i:Nat) (out:List A6),out.Nodup→(∀x∈out,x∈names)→(ad6 g m i out).Nodup∧∀x∈ad6 g m i out,x∈names
 | 0,i,out,h1,h2=>⟨h1,h2⟩
 | m+1,i,out,h1,h2=>by
  rw[ad6];split
  ·exact⟨h1,h2⟩
  ·next n hn=>
   refine be9 hg m (i+1) _ (aM7 _ _ h1) fun x hx=>?_;rcases(be4 _ _ _).1 hx with h|h
   ·exact h2 x h
   ·exact hg n (h2 n (ey5 hn)) x h
theorem cq7{p:Pg}(K:Known p){n:A6}(hn:n∈p.procs.map (·.name)):(bn6 (b9 p) n).length≤p.procs.length∧∀x∈bn6 (b9 p) n,x∈p.procs.map (·.name):=by
 obtain⟨h1,h2⟩:=be9 (g:=am5 (b9 p)) (names:=p.procs.map (·.name)) (fun m hm x hx=>aX5 K hm hx) ((b9 p).p.procs.length+1) 0 [n] (by simp) (by simpa using hn);have h3:=M6 h1 h2;rw[ex7]at h3;unfold bn6;exact⟨by rw[Q8];exact h3,fun x hx=>h2 x ((ao7 _).mem_iff.1 hx)⟩
theorem bB0{p:Pg}(K:Known p):p.procs.length≤16∧p.globals.length≤16:=by
 have:=K.may;simp only[P9,ey9,eA7]at this;exact⟨this.1.1.2,this.1.1.1⟩
theorem aD6(h:Hp)(a:Addr)(s:Sh)(i x y:Nat)(w:World)(hs:At h a s)(hh:B4 h (d7 w))(hok:bn4 s i x y):Calls prog 57 #[.pointer (some a),.int .i64 i] w fun e w'=>∃u,e = .returned u∧(R h u (s.of i)∧o6 w w'):=by
 refine d9 (args:=[.pointer (some a),.int .i64 i]) hm func57 rfl (by kernel_rfl) (by show 2≤_;decide +kernel) ?_;obtain⟨vL,vlo,vhi,hL,hlo,hhi,hap,ld,sd⟩:=hs.sh;have hst:∀w',o6 w.drew w'→B4 h (d7 w'):=fun w' h=>p6 hh (b7 ((o6.drew w).trans h));have s1:=sd (fun w'=>o6 w.drew w') w.drew (o9.refl _) hst;have hi1:=hlo.inS (ex1.1 hok.lo).1;have hi2:=hhi.inS (ex1.1 hok.hi).1;have k1:∀K f d w0,B6 prog (fun w'=>o6 w.drew w') (Instr.loadAt 3 (.pointer (some (H1 vlo i)))) K f d w0=K (A7 f d (.int .i64 ((x:Int)+1))) w0:=fun K f d w0=>A0 (w0:=w.drew) (o9.refl _) fun w' h=>ldI hlo (hst w' h) hok.lo;have k2:∀K f d w0,B6 prog (fun w'=>o6 w.drew w') (Instr.loadAt 3 (.pointer (some (H1 vhi i)))) K f d w0=K (A7 f d (.int .i64 ((y:Int)+1))) w0:=fun K f d w0=>A0 (w0:=w.drew) (o9.refl _) fun w' h=>ldI hhi (hst w' h) hok.hi;have B4:=hok.le;have hlen:=hok.len;have hfit:=hok.fit;have e1:IntKind.i64.wrap ((x:Int)+1-1)=(x:Int):=by rw[K1 _ (by omega)];omega
 have e2:IntKind.i64.wrap ((y:Int)+1-1)=(y:Int):=by rw[K1 _ (by omega)];omega
 have hSL:=hL.isS;have hc:=hL.vcap;have c1:decide ((x:Int)≤(y:Int))=true:=by simp;omega
 have c2:decide ((y:Int)≤(vcap vL:Int))=true:=by simp;omega
 simp only[n3,n8,simprocAttr];refine C2 (fun w'=>o6 w.drew w') 22 (B0 [0,1,2,3,4,5,6,7,8,9,10,11,12,13,14,15,16,17,18,19,20,21]) (by decide +kernel) (o9.refl _) ?_;simp only[D5,B0,n3,n8,v8,H5,simprocAttr,s1,hi1,hi2,k1,k2,e1,e2,hSL,c1,c2];refine n9 results57 ?_;simp only[p7,simprocAttr];refine⟨?_,o6.drew w⟩;rw[hok.of_];exact bD8 hL B4 hlen
theorem bD5(v:Value)(p:Pg)(n:A6)(w:World)(hv:SV (d7 w) v p)(hw:D6 p≤1000000):Calls prog 154 #[v,o7 n] w fun e w'=>∃u,e = .returned u∧(A9 (d7 w) w' 9 u (U9 p n)∧o6 w w'):=by
 refine d9 (args:=[v,o7 n]) hm func154 rfl (by kernel_rfl) (by show 2≤_;decide +kernel) ?_;obtain⟨a,w1,hbx,hx1,ha⟩:=V2 (w:=w) (fun _=>False) hv (fun _ h=>h.elim);obtain⟨vg,vp,hg,hp,ld,_⟩:=I4.pg hv ha;obtain⟨lw,_⟩:=I4.pg_v hv ha;have hlw:∀w',o6 w1 w'→B4 (B8 w1 fun _=>False) (d7 w'):=fun w' h=>p6 (B3 _ _) (b7 h);have lw1:=lw w1 (hlw _ (o9.refl _));simp only[n3,n8,simprocAttr,hbx,lw1];refine B7 ei4 (bW4 v p n w1 (hv.mono (b7 hx1)) hw) (fun w2 hx2=>?_);rcases ew5 (aU4 p n)with hkn|hkn;rotate_left
 ·simp only[n3,n8,simprocAttr,hkn];refine n9 results154 ?_;simp only[p7,simprocAttr];exact⟨by rw[U9,if_neg (by rw[hkn];simp)];exact A9.nil _ _ _,hx1.trans hx2⟩
 have hF:U9 p n=H4 (U7 ((bn6 (b9 p) n).flatMap fun m=>((b9 p).of ((b9 p).pr m)).flatMap fun it=>(K8 it.s).filter fun v=>p.globals.contains v)):=by rw[U9,if_pos hkn];rfl
 have hkn2:=hkn;rw[aU4,ey9]at hkn2;have K:=bi2 (ew8 hkn2.1);have hn:n∈p.procs.map (·.name):=by
  obtain⟨q,hq,e⟩:=eJ7.1 hkn2.2;exact ez6.2 ⟨q,hq,ew8 e⟩
 have lw2:=lw w2 (hlw _ hx2);simp only[n3,n8,simprocAttr,hkn,lw2];refine z6 aO2 (ag5 v p w2 (hv.mono (b7 (hx1.trans hx2))) hw) ?_;rintro us w3 ⟨sh,rfl,hsh,hx3⟩;have hx13:=hx2.trans hx3;simp only[n3,simprocAttr];refine z6 ei5 (cK7 sh p n w3 hsh hw K hn) ?_;rintro ul w5 ⟨hol,hx5⟩;have hul:=hol.rw_ (b7 hx5);have hx15:=hx13.trans hx5;obtain⟨hll,hsub⟩:=cq7 K hn;obtain⟨hp16,hg16⟩:=bB0 K;have hpp:=I1 p;have hwl:=ac5 p hw;generalize bn6 (b9 p) n=l1 at hul hll hsub hF;have hA:∀m∈p.procs.map (·.name),(((b9 p).of ((b9 p).pr m)).flatMap fun it=>(K8 it.s).filter fun v=>p.globals.contains v).length≤1000000:=fun m hm=>by
  obtain⟨i,hi,hpr,_⟩:=ae4 hm;rw[hpr];refine ex3 (aY6 _ (fun t=>(K8 t).length) (fun it=>ez0 _ _) _) ?_;exact cO9 _ bM4 p hw i hi
 have hS1:=hul.isS;have hn1:=hul.vlen;generalize hAf:(fun m=>((b9 p).of ((b9 p).pr m)).flatMap fun it=>(K8 it.s).filter fun v=>p.globals.contains v)=A at hF;have hA':∀m∈p.procs.map (·.name),(A m).length≤1000000:=fun m hm=>by rw[←hAf];exact hA m hm
 have htot:(l1.flatMap A).length≤16000000:=by
  refine ex3 (Q7 A 1000000 l1 fun x hx=>hA' x (hsub x hx)) ?_;omega
 simp only[n3,n8,simprocAttr,hS1,hn1];refine n7 [2,5,21,22] (σ:=Nat×Value) (fun s f w'=>f 23 = .int .i64 s.1∧f 6=s.2∧s.1≤l1.length∧A9 (d7 w5) w' 9 s.2 ((l1.take s.1).flatMap A)∧o6 w5 w') (fun s=>l1.length-s.1) (0,.slice none 0 0) (by decide +kernel) ?_ ?_
 ·simp only[p7,simprocAttr];exact⟨by trivial,by trivial,ex6 _,by simpa using A9.nil _ _ _,o9.refl _⟩
 rintro⟨i,u⟩ f w6 hk ⟨h23,h6,hil,ho,hx6⟩;simp only at h23 h6 hil ho;simp only[ew6,p7,simprocAttr]at hk;obtain⟨e2,e5,e21,e22,_⟩:=hk;have hpre:=ex3 (cb7 A l1 i) htot;simp only[n3,n8,simprocAttr,h23,e22];refine i5 (fun hc=>?_) (fun hc=>?_);rotate_left
 ·have hge:i=l1.length:=by simp at hc;omega
  subst hge;rw[ex5]at ho;simp only[n3,simprocAttr,h6];refine z6 bH9 (al6 ho (by omega)) ?_;rintro _ w7 ⟨ho7,hm7⟩;have hx57:=ho.ext2 hx6 hm7;simp only[n3,simprocAttr,h6];refine z6 cw5 (aT5 ho7 (by rw[Q8];omega)) ?_;rintro u8 w8 ⟨ho8,hm8,_⟩;have hx58:=ho7.ext2 hx57 hm8;have hx08:=hx1.trans (hx15.trans hx58);simp only[n3,simprocAttr];refine n9 results154 ?_;simp only[p7,simprocAttr];exact⟨by rw[hF];exact ho8.back (hx1.trans hx15),hx08⟩
 have hlt:i<l1.length:=by simpa using hc
 have hin:=hul.inS hlt;have hld:=ldS hul (b7 hx6) hlt;have htk:=J0 A l1 hlt;have hmi:=hsub _ (ex8 hlt);have hAi:=hA' _ hmi;generalize l1[i]=m at hld htk hmi hAi;obtain⟨q,hq,hpr,_⟩:=ae4 hmi;obtain⟨x,hok,_⟩:=Y5 p hw q hq;obtain⟨hmem,hlen⟩:=aZ5 p hw q hq;have hx56:o6 w3 w6:=hx5.trans hx6;simp only[n3,n8,v8,simprocAttr,h23,e5,e21,hin,hld];refine B7 bs0 (Z9 sh (b9 p) m w6 (hsh.mono (b7 hx56)) (by rw[hpp];omega)) (fun w7 hx7=>?_);rw[hpr];simp only[n3,simprocAttr];refine z6 aZ1 (aD6 (d7 w3) sh (b9 p) q x _ w7 hsh (b7 (hx56.trans hx7)) hok) ?_;rintro ui w8 ⟨hui,hx8⟩;have hAm:A m=((b9 p).of q).flatMap fun it=>(K8 it.s).filter fun v=>p.globals.contains v:=by
  rw[←hAf];simp only[hpr]
 generalize(b9 p).of q=l at hui hmem hlen hAm;have hS2:=hui.isS;have hn2:=hui.vlen;have ho8:=ho.ext (hx7.trans hx8);have hx58:=hx6.trans (hx7.trans hx8);generalize hBf:(fun it:It=>(K8 it.s).filter fun v=>p.globals.contains v)=B at hAm;have hBt:(l.flatMap B).length≤1000000:=by rw[←hAm];exact hAi
 generalize(l1.take i).flatMap A=pre at ho8 hpre htk;simp only[n3,n8,simprocAttr,hS2,hn2];refine n7 [2,5,21,22,23,31,32] (σ:=Nat×Value) (fun s f w'=>f 33 = .int .i64 s.1∧f 6=s.2∧s.1≤l.length∧A9 (d7 w5) w' 9 s.2 (pre++(l.take s.1).flatMap B)∧o6 w5 w') (fun s=>l.length-s.1) (0,u) (by decide +kernel) ?_ ?_
 ·simp only[p7,simprocAttr];exact⟨by trivial,h6,ex6 _,by simpa using ho8,hx58⟩
 rintro⟨j,u9⟩ f9 w9 hk ⟨h33,h69,hjl,ho9,hx9⟩;simp only at h33 h69 hjl ho9;simp only[ew6,p7,simprocAttr]at hk;obtain⟨g2,g5,g21,g22,g23,g31,g32,_⟩:=hk;have hpre2:=ex3 (cb7 B l j) hBt;simp only[n3,n8,simprocAttr,h33,g32];refine i5 (fun hc=>?_) (fun hc=>?_);rotate_left
 ·have hge:j=l.length:=by simp at hc;omega
  subst hge;rw[ex5,←hAm]at ho9;simp only[n3,n8,simprocAttr,g23,h23];refine⟨(i+1,u9),by simp only[];omega,by simp only[];rw[B2 i (by omega)],h69,by simp only[];omega,?_,hx9⟩;simp only[];rw[htk];exact ho9
 have hlt9:j<l.length:=by simpa using hc
 clear hin hld;have hin:=hui.inS hlt9;obtain⟨sv,hsv,hld⟩:=F4 (P:=prog) (t:=121) hui (b7 (hx5.trans hx9)) (ew4 hlt9) X7 X9 X8 I6;rw[I6]at hld;have htk9:=J0 B l hlt9;have hwit:=hwl _ (hmem _ (ex8 hlt9));generalize l[j]=it at hsv htk9 hwit;obtain⟨c,wz2,w10,hal,hst,hx10,hati⟩:=ay3 (hsv.mono (b7 (hx5.trans hx9))) (i4 _);obtain⟨hats,_,_⟩:=hati.it;obtain⟨vt,hvt,ldT,_⟩:=hats.st_v;have k3:=ldT w10 (i4 _);have hBit:B it=(K8 it.s).filter fun v=>p.globals.contains v:=by rw[←hBf]
 simp only[n3,n8,v8,simprocAttr,h33,g31,hin,hld,hal,hst,k3];refine z6 de1 (ba6 vt it.s w10 hvt hwit) ?_;rintro uN w11 ⟨hoN,hx11⟩;have ho10:=ho9.ext hx10;have hoN2:R (B8 w11 (A4 u9)) uN (K8 it.s):=hoN.flatR fun b hb=>D3 fun hbu=>by
  have h1:=ho10.lt hbu;have h2:=C5 (hoN.free hb);omega
 have ho11:=ho10.ext hx11;have hx511:=hx9.trans (hx10.trans hx11);have hNl:=ex3 (ba7 it.s) hwit;generalize K8 it.s=nl at hoN2 hBit hNl;generalize(l.take j).flatMap B=pre2 at ho11 hpre2 htk9;have hS3:=hoN2.isS;have hn3:=hoN2.vlen;simp only[n3,n8,simprocAttr,hS3,hn3];refine n7 [2,5,21,22,23,31,32,33,39,40] (σ:=Nat×Value) (fun s f w'=>f 41 = .int .i64 s.1∧f 6=s.2∧s.1≤nl.length∧A9 (d7 w5) w' 9 s.2 (pre++pre2++(nl.take s.1).filter fun v=>p.globals.contains v)∧o9 (A4 u9) w11 w'∧E0 w11 u9 s.2) (fun s=>nl.length-s.1) (0,u9) (by decide +kernel) ?_ ?_
 ·simp only[p7,simprocAttr];exact⟨by trivial,h69,ex6 _,by simpa using ho11,o9.refl _,fun b hb=>.inl hb⟩
 rintro⟨k,u12⟩ f12 w12 hk ⟨h41,h612,hkl,ho12,hm12,hmv12⟩;simp only at h41 h612 hkl ho12 hmv12;simp only[ew6,p7,simprocAttr]at hk;obtain⟨q2,q5,q21,q22,q23,q31,q32,q33,q39,q40,_⟩:=hk;have hx512:=ho11.ext2 hx511 hm12;have hcnt:((nl.take k).filter fun v=>p.globals.contains v).length≤k:=ex3 (ez0 _ _) (by rw[ex4];omega);simp only[n3,n8,simprocAttr,h41,q40];refine i5 (fun hc=>?_) (fun hc=>?_);rotate_left
 ·have hge:k=nl.length:=by simp at hc;omega
  subst hge;rw[ex5,←hBit]at ho12;simp only[n3,n8,simprocAttr,q33,h33];refine⟨(j+1,u12),by simp only[];omega,by simp only[];rw[B2 j (by omega)],h612,by simp only[];omega,?_,hx512⟩;simp only[];rw[htk9,←ey6];exact ho12
 have hlt12:k<nl.length:=by simpa using hc
 clear hin hld;have hin:=hoN2.inS hlt12;have hld:=ldS hoN2 (C9 hm12) hlt12;have htk12:((nl.take (k+1)).filter fun v=>p.globals.contains v)=((nl.take k).filter fun v=>p.globals.contains v)++if p.globals.contains nl[k]then[nl[k]]else[]:=by
  rw[ex2 hlt12,eD4]
  congr 1
  by_cases h:p.globals.contains nl[k]=true<;>simp[List.filter_cons]
 generalize nl[k]=y at hld htk12;have lg:=ld w12 (hlw _ (hx15.trans hx512));simp only[n3,n8,v8,simprocAttr,h41,q2,g2,e2,q39,hin,hld,lg];refine D1 ab7 (N5 vg p.globals y w12 (A3.mono (b7 (hx1.trans (hx15.trans hx512))) hg) (by omega)) ?_;rcases ew5 (p.globals.contains y)with hq|hq
 ·obtain⟨p1,u13,w13,p2,p3,p4,p5⟩:=push (e:=22) ar1 rfl ho12 (x:=o7 y) (y:=y) rfl (by simp only[ew7];omega) (by simp only[ew7];omega) (b7 hx512);simp only[n3,n8,simprocAttr,hq,h41,h612,p1,p2];refine⟨(k+1,u13),by simp only[];omega,by simp only[];rw[B2 k (by omega)],by trivial,by simp only[];omega,?_,hm12.chain p4 fun b hb hbu=>?_,fun b hb=>?_⟩
  ·simp only[];rw[htk12,if_pos hq,←ey6];exact p3
  ·rcases hmv12 b hbu with h|h
   ·exact h
   ·omega
  ·rcases p5 b hb with h|h
   ·exact hmv12 b h
   ·exact .inr (ex3 hm12.size h)
 ·simp only[n3,n8,simprocAttr,hq,h41];refine⟨(k+1,u12),by simp only[];omega,by simp only[];rw[B2 k (by omega)],h612,by simp only[];omega,?_,hm12,hmv12⟩;simp only[];rw[htk12,if_neg (by rw[hq];simp),ez3];exact ho12
def eF6:=@List.getElem_map
def K9(kv:List (A6×Value))(k:A6):Option Value:=(kv.find? fun p=>decide (p.1=k)).map (·.2)
def aD3(kv:List (A6×Value))(k:A6)(v:Value):List (A6×Value):=if kv.any fun p=>decide (p.1=k)then kv.map fun p=>if p.1=k then(p.1,v)else p else kv++[(k,v)]
def aH3(w:World)(r:Nat)(kv:List (A6×Value)):Prop:=∃es clock,w.heap[r]?=some (.map es clock)∧es.toList.map (fun e=>(e.key,e.val))=kv.map (fun p=>(o7 p.1,p.2))∧(kv.map (·.1)).Nodup∧(∀x∈es.toList,x.born<clock)∧(es.toList.map (·.born)).Nodup
theorem cD0{a b:A6}(h:o7 a=o7 b):a=b:=by
 unfold o7 at h;simp only[Value.string.injEq,ByteArray.mk.injEq]at h;have:=ey2 Array.toList h;cases a;cases b;simpa using this
section
variable {P:Program} {w:World} {t k e:TypeId} {r:Nat} {kv:List (A6×Value)}
theorem aH3.lt(hm:aH3 w r kv):r<w.heap.size:=by
 obtain⟨es,c,h,_⟩:=hm;exact(ex0.1 h).1
theorem aH3.mod{M:Nat→Prop}{w':World}(hm:aH3 w r kv)(h:o9 M w w')(hr:¬M r):aH3 w' r kv:=by
 have hlt:=hm.lt;obtain⟨es,c,h1,h2⟩:=hm;exact⟨es,c,(h.block r hlt hr).trans h1,h2⟩
theorem aH3.new(w:World)(t:TypeId):(Instr.makeMap t none).run P w = .ok (.map (some w.heap.size)) (w.alloc (.map #[] 0))∧aH3 (w.alloc (.map #[] 0)) w.heap.size []∧o6 w (w.alloc (.map #[] 0)):=by
 refine⟨?_,⟨#[],0,eA5 w _,rfl,by simp,by simp,by simp⟩,o6.alloc _ _⟩;unfold Instr.makeMap;rfl
theorem aB8{d:TypeDesc}(hd:d = .string)(s:A6):∀(l:List MapEntry) (kv:List (A6×Value)) (i:Nat),l.map (fun e=>(e.key,e.val))=kv.map (fun p=>(o7 p.1,p.2)) →
  (K9 kv s=none∧(kv.any fun p=>decide (p.1=s))=false∧Instr.findNow d (o7 s) l i=some none) ∨
  ∃j v,kv[j]?  = some (s,v)∧K9 kv s=some v∧(kv.any fun p=>decide (p.1=s))=true∧Instr.findNow d (o7 s) l i=some (some (i+j,v))
 | [],kv,i,h=>by
  have:kv=[]:=by simpa using h.symm
  subst this;exact .inl ⟨rfl,rfl,rfl⟩
 | e::l,[],i,h=>by simp at h
 | e::l,p::kv,i,h=>by
  obtain⟨p1,p2⟩:=p;obtain⟨ek,ev,eb⟩:=e;simp only[eB1,eJ2,Prod.mk.injEq]at h;obtain⟨⟨rfl,rfl⟩,h2⟩:=h;subst hd;have hs:Instr.sameNow .string (o7 s) (o7 p1)=some (decide (p1=s)):=by
   have:=MapKept.bytes_beq ⟨s.b.toArray⟩ ⟨p1.b.toArray⟩;simp only[Instr.sameNow,o7]
   congr 1
   rw[eJ1,this,decide_eq_true_iff];constructor
   ·intro e;exact(cD0 (by unfold o7;rw[e])).symm
   ·rintro rfl;rfl
  by_cases hp:p1=s
  ·subst hp;refine .inr ⟨0,ev,by simp,by simp[K9],by simp,?_⟩;simp only[Instr.findNow,hs,decide_true];rfl
  ·have hd':decide (p1=s)=false:=by simp[hp]
   rcases aB8 rfl s l kv (i+1) h2 with⟨h3,h4,h5⟩|⟨j,v,h3,h4,h5,h6⟩
   ·refine .inl ⟨by unfold K9 at *;rw[List.find?_cons,hd'];exact h3,by rw[List.any_cons,hd',h4];rfl,?_⟩;simp only[Instr.findNow,hs,hd'];exact h5
   ·refine .inr ⟨j+1,v,by simpa using h3,by unfold K9 at *;rw[List.find?_cons,hd'];exact h4,by rw[List.any_cons,h5];simp,?_⟩;simp only[Instr.findNow,hs,hd',h6]
    congr 3;omega
theorem aH3.lookup(hm:aH3 w r kv)(ht:P.underlying t=some (.map k e))(hk:P.underlying k=some .string){z:Value}(hz:G2 P e=some z)(s:A6):
  (Instr.lookup t (.map (some r)) (o7 s) false).run P w = .ok ((K9 kv s).getD z) w:=by
 obtain⟨es,c,h1,h2,h3,_⟩:=hm;obtain⟨i,hi,hiz⟩:=p9 hz;have hck:=MapKept.run_checkKey (P:=P) (w:=w) (k:=o7 s) hk (show MapKept.IsKey .string (o7 s)from trivial) es.isEmpty 9999;have hzr:(zeroValue e).run P w = .ok z w:=by
  unfold zeroValue;simp[L5,hi,hiz]
 rcases aB8 rfl s es.toList kv 0 h2 with⟨h4,h5,h6⟩|⟨j,v,h4,h5,h6,h7⟩
 ·have hf:=MapKept.run_findKey (P:=P) (w:=w) hk h6;unfold Instr.lookup;simp only[ey8,run_underlying ht,ey0,MapKept.run_getObj_map h1,eA0,hck,hf,hzr,h4,Option.getD_none];rfl
 ·have hf:=MapKept.run_findKey (P:=P) (w:=w) hk h7;unfold Instr.lookup;simp only[ey8,run_underlying ht,ey0,MapKept.run_getObj_map h1,eA0,hck,hf,h5,eC5];rfl
theorem bB6(w:World)(r:Nat)(o:Obj):o9 (fun b=>b=r) w {w with heap:=w.heap.setIfInBounds r o}:=
 ⟨rfl,rfl,rfl,by simp,fun b hb hne=>by rw[Array.getElem?_setIfInBounds_ne (fun e=>hne e.symm)]⟩
theorem aH3.update(hm:aH3 w r kv)(ht:P.underlying t=some (.map k e))(hk:P.underlying k=some .string)(s:A6)(v:Value):
  ∃w',(Instr.mapUpdate t (.map (some r)) (o7 s) v).run P w = .ok () w'∧aH3 w' r (aD3 kv s v)∧o9 (fun b=>b=r) w w':=by
 obtain⟨es,c,h1,h2,h3,h4,h5⟩:=hm;have hck:=MapKept.run_checkKey (P:=P) (w:=w) (k:=o7 s) hk (show MapKept.IsKey .string (o7 s)from trivial) false 9999;have hlt:=(ex0.1 h1).1;rcases aB8 rfl s es.toList kv 0 h2 with⟨h6,h7,h8⟩|⟨j,v0,h6,h7,h8,h9⟩
 ·have hf:=MapKept.run_findKey (P:=P) (w:=w) hk h8;refine⟨{w with heap:=w.heap.setIfInBounds r (.map (es.push ⟨o7 s,v,c⟩) (c+1))},?_,⟨es.push ⟨o7 s,v,c⟩,c+1,by simp[hlt],?_,?_,?_,?_⟩,bB6 w r _⟩
  ·unfold Instr.mapUpdate;simp only[ey8,run_underlying ht,ey0,MapKept.run_getObj_map h1,hck,hf];exact MapKept.run_setObj_map _ h1
  ·rw[aD3,if_neg (by rw[h7];simp),Array.toList_push,ez5,ez5,h2];rfl
  ·rw[aD3,if_neg (by rw[h7];simp),ez5,eD6];refine⟨h3,by simp,fun a ha b hb=>?_⟩;simp only[eB1,List.map_nil,ez7]at hb;subst hb;rintro rfl;obtain⟨p,hp,hpe⟩:=ez6.1 ha;have:=List.any_eq_false.1 h7 p hp;simp[hpe]at this
  ·intro x hx;rw[Array.toList_push]at hx;rcases ey1.1 hx with h|h
   ·have:=h4 x h;omega
   ·simp only[ez7]at h;subst h;exact Nat.lt_succ_self _
  ·rw[Array.toList_push,ez5,eD6];refine⟨h5,by simp,fun a ha b hb=>?_⟩;simp only[eB1,List.map_nil,ez7]at hb;subst hb;rintro rfl;obtain⟨x,hx,hxe⟩:=ez6.1 ha;have:=h4 x hx;omega
 ·have hf:=MapKept.run_findKey (P:=P) (w:=w) hk h9;rw[ez8]at hf;have hej:∃e0,es[j]?=some e0∧e0.key=o7 s:=by
   have:=ey2 (fun z=>z[j]?) h2;simp only[eA3,h6,eC3]at this;cases hq:es.toList[j]? with
   | none=>rw[hq]at this;cases this
   | some e0=>
    rw[hq]at this;simp only[eC3,eH7,Prod.mk.injEq]at this;exact⟨e0,by rw[←eG9];exact hq,this.1⟩
  obtain⟨e0,he0,hek⟩:=hej;have hkt:(Instr.keyThatStays (o7 s) (o7 s)).run P w = .ok (o7 s) w:=MapKept.run_keyThatStays (d:=.string) trivial;have hmod:(es.modify j fun e=>{e with key:=o7 s,val:=v}).toList=es.toList.modify j (fun e=>{e with key:=o7 s,val:=v}):=by simp
  refine⟨{w with heap:=w.heap.setIfInBounds r (.map (es.modify j fun e=>{e with key:=o7 s,val:=v}) c)},?_,⟨es.modify j fun e=>{e with key:=o7 s,val:=v},c,by simp[hlt],?_,?_,?_,?_⟩,bB6 w r _⟩
  ·unfold Instr.mapUpdate;simp only[ey8,run_underlying ht,ey0,MapKept.run_getObj_map h1,hck,hf,he0,eC3,eC5,hek,hkt];exact MapKept.run_setObj_map _ h1
  ·rw[aD3,if_pos h8,hmod];apply eI6;intro n;have hn:=ey2 (fun z=>z[n]?) h2;simp only[eA3]at hn ⊢;rw[List.getElem?_modify];have hj1:=ex1.1 h6;by_cases hnj:j=n
   ·subst hnj;rw[eG9,he0,h6];simp
   ·simp only[hnj,eE5,Option.map_map];cases hkn:kv[n]? with
    | none=>rw[hkn]at hn;simpa using hn
    | some p=>
     rw[hkn]at hn;have hne:p.1≠s:=fun e=>by
      have hn1:=ex1.1 hkn;have a1:(kv.map (·.1))[j]'(by simpa using hj1.1)=(kv.map (·.1))[n]'(by simpa using hn1.1):=by
       simp only[eF6,hj1.2,hn1.2,e]
      have h3':=eF4.1 h3;rcases Nat.lt_trichotomy j n with h|h|h
      ·exact h3' j n _ _ h a1
      ·exact hnj h
      ·exact h3' n j _ _ h a1.symm
     cases he:es.toList[n]? with
     | none=>rw[he]at hn;simp at hn
     | some x=>
      rw[he]at hn;simp only[eC3,eH7]at hn ⊢;simp only[Function.comp,hne,eE5];show some _=some _;exact ey2 some hn
  ·rw[aD3,if_pos h8,List.map_map];have:((fun x:A6×Value=>x.1) ∘ fun p=>if p.1=s then(p.1,v)else p)=fun x=>x.1:=by
    funext p;simp only[Function.comp];split<;>rfl
   rw[this];exact h3
  ·intro x hx;rw[hmod]at hx;obtain⟨n,hn,rfl⟩:=eB5.1 hx;rw[List.getElem_modify];have hn':n<es.toList.length:=by simpa using hn
   split
   ·show es.toList[n].born<c;exact h4 es.toList[n] (ex8 hn')
   ·exact h4 _ (ex8 hn')
  ·rw[hmod];have:(es.toList.modify j (fun e=>{e with key:=o7 s,val:=v})).map (·.born)=es.toList.map (·.born):=by
    apply eI6;intro n;simp only[eA3,List.getElem?_modify];by_cases hjn:j=n<;>simp only[hjn,eC9,eE5]<;>(cases es.toList[n]?<;>rfl)
   rw[this];exact h5
end
theorem al0(kv:List (A6×Value))(k:A6)(v:Value)(j:A6):K9 (aD3 kv k v) j=if j=k then some v else K9 kv j:=by
 have key:∀l:List (A6×Value),K9 (l.map fun p=>if p.1=k then(p.1,v)else p) j=if j=k then(if l.any fun p=>decide (p.1=k)then some v else none)else K9 l j:=by
  intro l
  induction l with
  | nil=>simp[K9]
  | cons p l ih=>
   unfold K9 at *;rw[eB1,List.find?_cons,List.find?_cons,List.any_cons];by_cases h1:p.1=k
   ·by_cases h2:j=k
    ·subst h2;simp[h1]
    ·simp only[h1,eC9,h2,eE5]at ih ⊢;have h4:decide (k=j)=false:=by simp;exact fun e=>h2 e.symm
     rw[h4];exact ih
   ·by_cases h2:j=k
    ·subst h2;simp only[h1,eE5,decide_false,eJ3,eC9]at ih ⊢;exact ih
    ·by_cases h3:p.1=j
     ·simp only[eE5,h2,h3,decide_true]
     ·simp only[h1,eE5,h2,h3,decide_false]at ih ⊢;exact ih
 unfold aD3;split
 ·next h=>rw[key kv];simp only[h,eC9]
 ·next h=>
  have h':=eH0.2 h;unfold K9;rw[List.find?_append];by_cases h2:j=k
  ·subst h2;have:kv.find? (fun p=>decide (p.1=j))=none:=eF0.2 fun p hp=>List.any_eq_false.1 h' p hp;rw[this];simp
  ·rw[if_neg h2];have h3:¬k=j:=fun e=>h2 e.symm;simp[h3]
theorem bA1{P:Program}{S:World→Prop}{K:Fr→World→Prop}{f:Fr}{w:World}{d:Option Nat}{ty:TypeId}{pos:String}{aft:Array Edge}{t:Nat}{m k x:Operand}:B1 P (some S) ⟨d,.mapUpdate t m k x,ty,pos,aft,none⟩ K f w=aV1 ((Instr.mapUpdate t (ev f m) (ev f k) (ev f x)).run P w) (F6 S K) f d:=rfl
def eJ9:=@Decidable.byContradiction
def eB6:=@List.mem_flatMap
theorem eg5:ag0 prog 154=true:=by kernel_rfl
theorem eg6:ag0 prog 155=true:=by kernel_rfl
theorem dG4:ag0 prog 98=true:=by kernel_rfl
theorem cc7:prog.underlying 207=some (.map 9 22):=by kernel_rfl
theorem cf4:prog.underlying 9=some .string:=by kernel_rfl
theorem bV2(vt vl:Value)(t:St)(l:List A6)(w:World)(ht:SV (d7 w) vt t)(hl:R (d7 w) vl l)(hwt:O0 t≤1000000)(hll:l.length≤1000000000):
  Calls prog 155 #[vt,vl] w fun e w'=>∃u,e = .returned u∧(u = .bool (ac6 t l)∧o6 w w'):=by
 refine d9 (args:=[vt,vl]) hm func155 rfl (by kernel_rfl) (by show 2≤_;decide +kernel) ?_;obtain⟨b,w1,hb1,hx1,ha1⟩:=aj6 ht (i4 _);obtain⟨_,vas,_,_,_,hvas,_,_,_,ldt,_⟩:=ha1.st;have lt1:=ldt w1 (i4 _);have hS:=hvas.isS;have hn:=hvas.vlen;rw[P4]at hwt;have hal:=al9 t.args;have hF:ac6 t l=aq3 t.name l [] t.args:=rfl;simp only[n3,n8,simprocAttr,hb1,lt1,hS,hn];refine n7 [1,2,9,10] (σ:=Nat×Value×List A6) (fun s f w'=>f 11 = .int .i64 s.1∧f 5=s.2.1∧s.1≤t.args.length∧A9 (d7 w1) w' 9 s.2.1 s.2.2∧aq3 t.name l [] t.args=aq3 t.name l s.2.2 (t.args.drop s.1)∧s.2.2.length≤s.1∧o6 w1 w') (fun s=>t.args.length-s.1) (0,.slice none 0 0,[]) (by decide +kernel) ?_ ?_
 ·simp only[p7,simprocAttr];exact⟨by trivial,by trivial,ex6 _,A9.nil _ _ _,by rw[eE8],ex9 _,o9.refl _⟩
 rintro⟨k,u,seen⟩ f w2 hk ⟨h11,h5,hkl,ho,hsk,hsl,hx2⟩;simp only at h11 h5 hkl ho hsk hsl;simp only[ew6,p7,simprocAttr]at hk;obtain⟨e1,e2,e9,e10,_⟩:=hk;simp only[n3,n8,simprocAttr,h11,e10];refine i5 (fun hc=>?_) (fun hc=>?_);rotate_left
 ·have hge:k=t.args.length:=by simp at hc;omega
  subst hge;rw[eF5,aq3]at hsk;simp only[n3,simprocAttr];refine n9 results155 ?_;simp only[p7,simprocAttr];exact⟨by rw[hF,hsk],hx1.trans hx2⟩
 have hlt:k<t.args.length:=by simpa using hc
 have hin:=hvas.inS hlt;obtain⟨sv,hsv,hld⟩:=F4 (P:=prog) (t:=101) hvas (b7 hx2) (ew4 hlt) ax8 ay0 ax9 T2;rw[T2]at hld;rw[eA2 hlt,aq3]at hsk;generalize t.args[k]=y at hsv hsk;obtain⟨c,wz,w3,hal3,hst,hx3,hat⟩:=aS0 (hsv.mono (b7 hx2)) (i4 _);obtain⟨_,ldy,_⟩:=hat.ar;have l3:=ldy w3 (i4 _);have hx13:=hx2.trans hx3;have ho3:=ho.ext hx3;have lt3:=ldt w3 (b7 hx13);rcases ew5 y.ref with hr|hr;rotate_left
 ·rw[if_neg (by rw[hr];simp)]at hsk;simp only[n3,n8,v8,simprocAttr,h11,e9,hin,hld,hal3,hst,l3,hr];exact⟨(k+1,u,seen),by simp only[];omega,by simp only[];rw[B2 k (by omega)],h5,by simp only[];omega,ho3,hsk,by simp only[];omega,hx13⟩
 rw[if_pos hr]at hsk;simp only[n3,n8,v8,simprocAttr,h11,h5,e9,hin,hld,hal3,hst,l3,hr];refine D1 ab7 (N5 u seen y.name w3 (ho3.rw_ (b7 hx13)) (by omega)) ?_;rcases ew5 (seen.contains y.name)with q1|q1
 ·simp only[n3,simprocAttr,q1];refine n9 results155 ?_;simp only[p7,simprocAttr];exact⟨by rw[hF,hsk,q1];rfl,hx1.trans hx13⟩
 rcases ew5 (decide (y.name=t.name))with q2|q2
 ·simp only[n3,n8,simprocAttr,q1,q2,e2,l3,lt3];refine n9 results155 ?_;simp only[p7,simprocAttr];exact⟨by rw[hF,hsk,q1,q2];rfl,hx1.trans hx13⟩
 simp only[n3,n8,simprocAttr,q1,q2,e1,e2,l3,lt3];refine D1 ab7 (N5 vl l y.name w3 (A3.mono (b7 (hx1.trans hx13)) hl) (by omega)) ?_;rcases ew5 (l.contains y.name)with q3|q3
 ·simp only[n3,simprocAttr,q3];refine n9 results155 ?_;simp only[p7,simprocAttr];exact⟨by rw[hF,hsk,q1,q2,q3];rfl,hx1.trans hx13⟩
 rw[q1,q2,q3]at hsk;obtain⟨p1,u',w4,p2,p3,p4,p5⟩:=push (e:=22) ar1 rfl ho3 (x:=o7 y.name) (y:=y.name) rfl (by omega) (by omega) (b7 hx13);simp only[n3,n8,simprocAttr,q3,h11,h5,l3,p1,p2];exact⟨(k+1,u',seen++[y.name]),by simp only[];omega,by simp only[];rw[B2 k (by omega)],by trivial,by simp only[];omega,p3,hsk,by simp only[ew7,ez4];omega,ho3.ext2 hx13 p4⟩
theorem bu9:∀(l:List Pr) (s:Sh) (i:Nat) (it:It),it∈(F7 s i l).l→it∈s.l∨∃(k:Nat) (hk:k<l.length),∃x,it∈C6 l[k].body x (i+k:Nat) 0 (-1) 0
 | [],s,i,it,h=>.inl h
 | f::l,s,i,it,h=>by
  rw[F7]at h;rcases bu9 l _ _ it h with h|⟨k,hk,x,h⟩
  ·simp only[E7]at h;rcases ey1.1 h with h|h
   ·exact .inl h
   ·exact .inr ⟨0,by simp,s.l.length,by simpa using h⟩
  ·exact .inr ⟨k+1,by simpa using hk,x,by rw[show i+(k+1)=i+1+k by omega];simpa using h⟩
mutual
theorem bG2:∀(t:St) (k k':Nat) (pr up nx lp pr' up' nx' lp':Int),(U2 t k pr up nx lp).map (·.s)=(U2 t k' pr' up' nx' lp').map (·.s)
 | .mk id kind labels name proc x has args thn els,k,k',pr,up,nx,lp,pr',up',nx',lp'=>by
  rw[O4,O4];simp only[eB1,ez5]
  congr 2
  ·exact ak0 _ _ _ _ _ _ _ _ _ _ _
  ·exact ak0 _ _ _ _ _ _ _ _ _ _ _
theorem ak0:∀(l:List St) (k k':Nat) (pr up nx lp pr' up' nx' lp':Int),(C6 l k pr up nx lp).map (·.s)=(C6 l k' pr' up' nx' lp').map (·.s)
 | [],_,_,_,_,_,_,_,_,_,_=>by simp[C6]
 | t::l,k,k',pr,up,nx,lp,pr',up',nx',lp'=>by
  rw[C6,C6];simp only[ez5]
  congr 1
  ·exact bG2 _ _ _ _ _ _ _ _ _ _ _
  ·exact ak0 _ _ _ _ _ _ _ _ _ _ _
end
theorem bP7{p:Pg}(K:Known p)(hw:D6 p≤1000000){it:It}(hit:it∈(b9 p).l)(h4:it.s.kind=4):it.s.proc∈p.procs.map (·.name):=by
 rcases bu9 _ _ _ it hit with h|⟨k,hk,x,h⟩
 ·cases h
 ·obtain⟨x2,_,e⟩:=Y5 p hw k hk;have hs:it.s∈(C6 p.procs[k].body x (0+k:Nat) 0 (-1) 0).map (·.s):=ez6.2 ⟨it,h,rfl⟩;rw[ak0 _ _ x2 _ _ _ _ k 0 (-1) 0,←e]at hs;obtain⟨it2,hit2,e2⟩:=ez6.1 hs;have:=(K.proc k hk).2.2 it2 hit2;rw[e2]at this;unfold ab9 at this;rw[eD8 h4]at this;simp only[Bool.not_true,eJ3,ey9]at this;exact ez2.1 this.2.2
theorem bW5{p:Pg}(K:Known p)(n:A6):(U9 p n).length≤1000000000:=by
 unfold U9;split
 ·next h=>
  have h1:=M6 (l:=D2 ((bn6 (b9 p) n).flatMap fun m=>((b9 p).of ((b9 p).pr m)).flatMap fun it=>(K8 it.s).filter fun v=>p.globals.contains v)) (m:=p.globals) ?_ ?_
  ·have:=(bB0 K).2;exact ex3 h1 (by omega)
  ·exact(W2 _).imp fun{a b} hab=>by rintro rfl;rw[J9]at hab;cases hab
  ·intro x hx;rw[U8]at hx;obtain⟨m,_,hx⟩:=eB6.1 hx;obtain⟨it,_,hx⟩:=eB6.1 hx;exact ez2.1 (eA8.1 hx).2
 ·simp
theorem bE0{p:Pg}(h:(X0 p).1=0):(N7 p).1=0:=by
 unfold X0 at h;split at h
 ·simp at h
 ·next hs=>exact eJ9 hs
theorem be5(v:Value)(p:Pg)(w:World)(hv:SV (d7 w) v p)(hw:D6 p≤1000000):Calls prog 100 #[v] w fun e w'=>∃u,e = .returned u∧(u=R4 (aA7 p)∧o6 w w'):=by
 refine d9 (args:=[v]) hm func100 rfl (by kernel_rfl) (by show 1≤_;decide +kernel) ?_;obtain⟨a,w1,hbx,hx1,ha⟩:=V2 (w:=w) (fun _=>False) hv (fun _ h=>h.elim);obtain⟨vg,vp,hg,hp,ld,_⟩:=I4.pg hv ha;obtain⟨lw,slw⟩:=I4.pg_v hv ha;obtain⟨rb,w2,hal,hx2,hrb,hge1⟩:=ar8 w1;have hge:w.heap.size≤rb:=ex3 hx1.size hge1;have hx12:=hx1.trans hx2;have hlw:∀w',o6 w2 w'→B4 (B8 w1 fun _=>False) (d7 w'):=fun w' h=>p6 (B3 _ _) (b7 (hx2.trans h));have lw2:=lw w2 (hlw _ (o9.refl _));have hret:=fun(w':World) (h:o6 w2 w')=>ak9 hrb h hge hx12;simp only[n3,n8,simprocAttr,hbx,hal,lw2];refine B7 dG4 (aA8 v p w2 (hv.mono (b7 hx12)) hw) (fun w3 hx3=>?_);rcases ew5 (decide ((X0 p).1=0))with hsc|hsc;rotate_left
 ·obtain⟨w9,s1,s2,s3⟩:=hret w3 hx3 (1,0);simp only[n3,n8,simprocAttr,aj8,hsc,O3,s1];refine L0 results100 (by simp only[p7,simprocAttr]) s2 ?_;exact⟨by rw[aA7,if_pos (ew9 hsc)],s3⟩
 have K:=bi2 (bE0 (ew8 hsc));obtain⟨hp16,hg16⟩:=bB0 K;have hF:aA7 p=match(b9 p).l.find? fun it=>decide (it.s.kind=4) && !ac6 it.s (U9 p it.s.proc)with
  | some it=>(8,it.s.id)
  | none=>(0,0):=by rw[aA7,if_neg (by simpa using hsc)]<;>rfl
 obtain⟨hmk,hm0,hx4⟩:=aH3.new (P:=prog) w3 207;have hx24:=hx3.trans hx4;have l4:=ld _ (hlw _ hx24);have hS:=hp.isS;have hn:=hp.vlen;have hr1:w1.heap.size≤w3.heap.size:=(hx2.trans hx3).size;have hr2:w2.heap.size≤w3.heap.size:=hx3.size;have hr0:w.heap.size≤w3.heap.size:=(hx12.trans hx3).size;generalize hw4:w3.alloc (.map #[] 0)=w4 at hmk hm0 hx4 hx24 l4;generalize w3.heap.size=r at hmk hm0 hr1 hr2 hr0;simp only[n3,n8,simprocAttr,aj8,hsc,bj1,hmk,l4,hS,hn];refine n7 [1,2,3,15,16] (σ:=Nat×List (A6×Value)) (fun s f w'=>f 17 = .int .i64 s.1∧s.1≤p.procs.length∧aH3 w' r s.2∧(∀j (hj:j<p.procs.length),j<s.1→∃u,K9 s.2 p.procs[j].name=some u∧R (B8 w' fun b=>b=r) u (U9 p p.procs[j].name))∧o6 w2 w') (fun s=>p.procs.length-s.1) (0,[]) (by decide +kernel) ?_ ?_
 ·simp only[p7,simprocAttr];exact⟨by trivial,ex6 _,hm0,fun j _ h=>by omega,hx24⟩
 rintro⟨i,kv⟩ f w5 hk ⟨h17,hil,hm5,hkv,hx5⟩;simp only at h17 hil hm5 hkv;simp only[ew6,p7,simprocAttr]at hk;obtain⟨e1,e2,e3,e15,e16,_⟩:=hk;simp only[n3,n8,simprocAttr,h17,e16];refine i5 (fun hc=>?_) (fun hc=>?_)
 ·have hlt:i<p.procs.length:=by simpa using hc
  have hin:=hp.inS hlt;obtain⟨sv,hsv,hld⟩:=F4 (P:=prog) (t:=51) hp (b7 (hx12.trans hx5)) (ew4 hlt) aj1 aj3 aj2 N0;rw[N0]at hld;have hne:∀j (hj:j<p.procs.length),j<i→p.procs[j].name≠p.procs[i].name:=fun j hj hji e=>by
   have h3:=eF4.1 K.names;exact h3 j i (by simpa using hj) (by simpa using hlt) hji (by simpa using e)
  generalize hy:p.procs[i]=y at hsv hne;obtain⟨c,wz,w6,hal6,hst6,hx6,hat⟩:=aH0 (w:=w5) (fun b=>b=r) hsv (fun b hb=>by subst hb;exact hm5.lt);obtain⟨_,_,_,_,_,_,_,_,_,sdq⟩:=I4.pr hsv hat;have hm6:=(hm5.mod hx6 id).mod (o6.drew w6) id;have hx26:o6 w2 w6.drew:=hx5.trans (hx6.trans (o6.drew w6));have hstq:∀w',o9 (fun b=>b=r) w6.drew w'→B4 (B8 w6 fun b=>b=r) (d7 w'):=fun w' h=>C9 (o9.chain (o9.up (o6.drew w6)) h fun _ _ hb=>hb);have hstp:∀w',o9 (fun b=>b=r) w6.drew w'→B4 (B8 w1 fun _=>False) (d7 w'):=fun w' h=>I0 (hlw _ hx26) h fun b hb=>by
   subst hb;by_cases hq:B8 w1 (fun _=>False) b=none
   ·exact hq
   ·exfalso
    have:d7 w1 b≠none:=fun e=>hq (by rw[D3 (fun h=>h)];exact e);have:=Nat.lt_of_not_le fun h=>this (bd3 h);omega
  have s1:=sdq (fun w'=>o9 (fun b=>b=r) w6.drew w') w6.drew (o9.refl _) hstq;have s2:=slw (fun w'=>o9 (fun b=>b=r) w6.drew w') w6.drew (o9.refl _) hstp;simp only[n3,n8,v8,simprocAttr,h17,e15,hin,hld,hal6,hst6];refine C2 (fun w'=>o9 (fun b=>b=r) w6.drew w') 8 (B0 [0,1,2,3,4,5,6,7]) (by decide +kernel) (o9.refl _) ?_;simp only[D5,B0,n3,n8,simprocAttr,e1,e3,s1,s2];refine z6 eg5 (bD5 v p y.name w6.drew (hv.mono (b7 (hx12.trans hx26))) hw) ?_;rintro u w7 ⟨ho7,hx7⟩;obtain⟨w8,hup,hm8,hmod8⟩:=(hm6.mod hx7 id).update (P:=prog) cc7 cf4 y.name u;refine⟨o9.up hx7,?_⟩;simp only[D5,n3,simprocAttr,bA1,hup,F6];refine⟨(o9.up hx7).chain hmod8 fun _ _ hb=>hb,?_⟩;simp only[n3,n8,simprocAttr,h17];have hx28:o6 w2 w8:=o9.ext_of (hx26.trans hx7) hmod8 fun b hb=>by subst hb;omega
  refine⟨(i+1,aD3 kv y.name u),by simp only[];omega,by simp only[];rw[B2 i (by omega)],by simp only[];omega,hm8,fun j hj hji=>?_,hx28⟩;simp only at hji ⊢;rw[al0];rcases eA1 j i with h|h
  ·obtain⟨u2,hu2,hr2'⟩:=hkv j hj h;have hne':=hne j hj h;exact⟨u2,by rw[if_neg hne'];exact hu2,A3.mono (bH4 (o9.chain (o9.up (hx6.trans ((o6.drew w6).trans hx7))) hmod8 fun _ _ hb=>hb) (fun b hb=>by subst hb;exact hm5.lt)) hr2'⟩
  ·obtain rfl:j=i:=by omega
   refine⟨u,by rw[hy,if_pos rfl],?_⟩;rw[hy];refine ho7.flatR fun b hb=>?_;have hbr:b≠r:=fun e=>by
    subst e;have h1:=hm6.lt;have h2:=C5 (ho7.free hb);omega
   rw[D3 (N:=fun b=>b=r) hbr];exact hmod8.block b (ho7.lt hb) hbr
 have hge':i=p.procs.length:=by simp at hc;omega
 subst hge';have lw5:=lw w5 (hlw _ hx5);simp only[n3,simprocAttr,e1,lw5];refine z6 aO2 (ag5 v p w5 (hv.mono (b7 (hx12.trans hx5))) hw) ?_;rintro us w6 ⟨sh,rfl,hsh,hx6⟩;have hx26:=hx5.trans hx6;obtain⟨vL,vlo,vhi,hL,hlo,hhi,hap,ldsh,_⟩:=hsh.sh;have lsh:=ldsh w6 (i4 _);have hSl:=hL.isS;have hnl:=hL.vlen;have hsl:=au3 p;have hcl:=bx9 p;have hwl:=ac5 p hw;have hkn:∀it∈(b9 p).l,it.s.kind=4→it.s.proc∈p.procs.map (·.name):=fun it hit h4=>bP7 K hw hit h4;generalize(b9 p).l=l at hL hSl hnl hsl hwl hF hkn;simp only[n3,n8,simprocAttr,lsh,hSl,hnl];refine n7 [1,2,3,33,34] (σ:=Nat) (fun m f w'=>f 35 = .int .i64 m∧m≤l.length∧(∀j (hj:j<l.length),j<m→(decide (l[j].s.kind=4) && !ac6 l[j].s (U9 p l[j].s.proc))=false)∧o6 w6 w') (fun m=>l.length-m) 0 (by decide +kernel) ?_ ?_
 ·simp only[p7,simprocAttr];exact⟨by trivial,ex6 _,fun j _ h=>by omega,o9.refl _⟩
 rintro m f3 w7 hk ⟨h35,hml,hno,hx7⟩;simp only[ew6,p7,simprocAttr]at hk;obtain⟨g1,g2,g3,g33,g34,_⟩:=hk;rw[e2]at g2;rw[e3]at g3;have hx27:=hx26.trans hx7;simp only[n3,n8,simprocAttr,h35,g34];refine i5 (fun hc=>?_) (fun hc=>?_);rotate_left
 ·have hge2:m=l.length:=by simp at hc;omega
  subst hge2;have hfind:l.find? (fun it=>decide (it.s.kind=4) && !ac6 it.s (U9 p it.s.proc))=none:=eF0.2 fun it hit=>by
   obtain⟨j,hj,rfl⟩:=eB5.1 hit;rw[hno j hj hj];simp
  rw[hfind]at hF;obtain⟨w9,s1,s2,s3⟩:=hret w7 hx27 (0,0);simp only[n3,simprocAttr,g2,aE7,s1];refine L0 results100 (by simp only[p7,simprocAttr];exact g2) s2 ?_;exact⟨by rw[hF],s3⟩
 have hlt:m<l.length:=by simpa using hc
 have hin:=hL.inS hlt;obtain⟨sv,hsv,hld⟩:=F4 (P:=prog) (t:=121) hL (b7 hx7) (ew4 hlt) X7 X9 X8 I6;rw[I6]at hld;have hwit:=hwl _ (ex8 hlt);have hknm:=hkn _ (ex8 hlt);obtain⟨c,wz2,w8,hal8,hst8,hx8,hati⟩:=ay3 (hsv.mono (b7 hx7)) (i4 _);obtain⟨hats,_,_⟩:=hati.it;obtain⟨vt,hvt,ldT,_⟩:=hats.st_v;obtain⟨_,_,_,_,_,_,_,_,_,ldt,_⟩:=hats.st;have hx28:=hx27.trans hx8;have k2:=ldt w8 (i4 _);have k3:=ldT w8 (i4 _);have hm8:=((hm5.mod hx6 id).mod hx7 id).mod hx8 id;have hend:∀w',o6 w8 w'→(decide (l[m].s.kind=4) && !ac6 l[m].s (U9 p l[m].s.proc))=false→∃s:Nat,l.length-s<l.length-m∧(Value.int .i64 (IntKind.i64.wrap ((m:Int)+1))) = .int .i64 s∧s≤l.length∧(∀j (hj:j<l.length),j<s→(decide (l[j].s.kind=4) && !ac6 l[j].s (U9 p l[j].s.proc))=false)∧o6 w6 w':=fun w' hx' hq=>by
  refine⟨m+1,by omega,by rw[B2 m (by omega)],by omega,fun j hj hjm=>?_,hx7.trans (hx8.trans hx')⟩;rcases eA1 j m with h|h
  ·exact hno j hj h
  ·obtain rfl:j=m:=by omega
   exact hq
 rcases ew5 (decide (l[m].s.kind=4))with hk4|hk4;rotate_left
 ·simp only[n3,n8,v8,simprocAttr,h35,g33,hin,hld,hal8,hst8,k2,hk4];exact hend w8 (o9.refl _) (by rw[hk4];rfl)
 obtain⟨q,hq,hpr,hqn⟩:=ae4 (hknm (ew8 hk4));obtain⟨u,hu1,hu2⟩:=hkv q hq hq;rw[hqn]at hu1 hu2;have hlk:=hm8.lookup (P:=prog) cc7 cf4 (z:=.slice none 0 0) bO1 l[m].s.proc;rw[hu1,eC5]at hlk;simp only[n3,n8,v8,simprocAttr,h35,g3,g33,hin,hld,hal8,hst8,k2,k3,hk4,hlk];refine B7 eg6 (bV2 vt u l[m].s (U9 p l[m].s.proc) w8 hvt (A3.mono (p6 (B3 _ _) (b7 (hx6.trans (hx7.trans hx8)))) hu2) hwit (bW5 K _)) (fun w9 hx9=>?_);rcases ew5 (ac6 l[m].s (U9 p l[m].s.proc))with hsg|hsg
 ·simp only[n3,n8,simprocAttr,hsg,h35];exact hend w9 hx9 (by rw[hk4,hsg];rfl)
 ·have k4:=ldt w9 (b7 hx9);obtain⟨w10,s1,s2,s3⟩:=hret w9 (hx28.trans hx9) (8,l[m].s.id);simp only[n3,n8,simprocAttr,hsg,k4,g2,as0,s1];refine L0 results100 (by simp only[p7,simprocAttr];exact g2) s2 ?_;have hfind:l.find? (fun it=>decide (it.s.kind=4) && !ac6 it.s (U9 p it.s.proc))=some l[m]:=eE7.2 ⟨by rw[hk4,hsg];rfl,m,hlt,rfl,fun j hj=>by rw[hno j (by omega) hj];rfl⟩;rw[hfind]at hF;exact⟨by rw[hF],s3⟩
theorem ee2:ag0 prog 100=true:=by kernel_rfl
theorem es7:ag0 prog 53=true:=by kernel_rfl
theorem eu4:ag0 prog 99=true:=by kernel_rfl
theorem cc2{w:World}{b:Nat}{e:Int×Int}(h:w.heap[b]?=some (.cells #[.int .i64 e.1,.int .i64 e.2] 107 (0,0))):
  (Instr.loadAt 105 (.pointer (some ⟨b,0,none⟩))).run prog w = .ok (.int .i64 e.1) w∧(Instr.loadAt 107 (.pointer (some ⟨b,0,none⟩))).run prog w = .ok (R4 e) w:=
 ⟨F0 (i:=0) h rfl cG4,R2 h bW7 bX5 bW9 (by rw[bX3];rfl)⟩
theorem ce2{w:World}{b:Nat}{e:Int×Int}(h:w.heap[b]?=some (.cells #[.int .i64 e.1,.int .i64 e.2] 107 (0,0)))(e2:Int×Int):
  ∃w',(Instr.storeAt 107 (.pointer (some ⟨b,0,none⟩)) (R4 e2)).run prog w = .ok () w'∧w'.heap[b]?=some (.cells #[.int .i64 e2.1,.int .i64 e2.2] 107 (0,0))∧o9 (fun c=>c=b) w w':=
 ab3 (P:=prog) (cs:=#[.int .i64 e2.1,.int .i64 e2.2]) h bX7 rfl rfl (by simp[Value.oneCell'])
theorem bx6(v:Value)(p:Pg)(w:World)(hv:SV (d7 w) v p)(hw:D6 p≤1000000):Calls prog 53 #[v] w fun e w'=>∃u,e = .returned u∧(u=R4 (aJ9 p)∧o6 w w'):=by
 refine d9 (args:=[v]) hm func53 rfl (by kernel_rfl) (by show 1≤_;decide +kernel) ?_;obtain⟨a,w1,hbx,hx1,ha⟩:=V2 (w:=w) (fun _=>False) hv (fun _ h=>h.elim);obtain⟨lw,slw⟩:=I4.pg_v hv ha;obtain⟨rb,w2,hal,hx2,hrb,hge1⟩:=ar8 w1;have hge:w.heap.size≤rb:=ex3 hx1.size hge1;have hx12:=hx1.trans hx2;have hlw:∀w',o6 w1 w'→B4 (B8 w1 fun _=>False) (d7 w'):=fun w' h=>p6 (B3 _ _) (b7 h);have lw2:=lw w2 (hlw _ hx2);have hret:=fun(w':World) (h:o6 w2 w')=>ak9 hrb h hge hx12;simp only[n3,n8,simprocAttr,hbx,hal,lw2];refine B7 dG3 (bY5 v p w2 (hv.mono (b7 hx12)) hw) (fun w3 hx3=>?_);rcases ew5 (P9 p)with hmay|hmay;rotate_left
 ·obtain⟨w9,s1,s2,s3⟩:=hret w3 hx3 (1,0);simp only[n3,n8,simprocAttr,hmay,O3,s1];refine L0 results53 (by simp only[p7,simprocAttr]) s2 ?_;exact⟨by rw[aJ9,hmay];rfl,s3⟩
 have hF:aJ9 p=if(N7 p).1≠0 then N7 p else if(X0 p).1≠0 then X0 p else if(ay8 p).1≠0 then ay8 p else aA7 p:=by
  rw[aJ9,if_neg (by rw[hmay];simp)]
 have lw3:=lw w3 (hlw _ (hx2.trans hx3));simp only[n3,n8,simprocAttr,hmay,lw3];refine B7 cx9 (ac4 v p w3 (hv.mono (b7 (hx12.trans hx3))) hw) (fun w4 hx4=>?_);have hx24:=hx3.trans hx4;obtain⟨tb,w5,hal5,hx5,htb,hge5⟩:=ar8 w4;obtain⟨w6,st6,hh6,hm6⟩:=ce2 (e:=(0,0)) htb (N7 p);obtain⟨l6,l6'⟩:=cc2 hh6;have hge4:w2.heap.size≤tb:=ex3 hx24.size hge5;have hx26:o6 w2 w6:=o9.ext_of (hx24.trans hx5) hm6 fun b hb=>by subst hb;exact hge4
 have fin:∀(w':World) (e:Int×Int),o6 w2 w'→w'.heap[tb]?=some (.cells #[.int .i64 e.1,.int .i64 e.2] 107 (0,0))→aJ9 p=e→∃w'',(Instr.loadAt 107 (.pointer (some ⟨tb,0,none⟩))).run prog w' = .ok (R4 e) w'∧(Instr.storeAt 107 (.pointer (some ⟨rb,0,none⟩)) (R4 e)).run prog w' = .ok () w''∧(Instr.loadAt 107 (.pointer (some ⟨rb,0,none⟩))).run prog w'' = .ok (R4 e) w''∧o6 w w'':=fun w' e hx hh _=>by
  obtain⟨w'',h1,h2,h3⟩:=hret w' hx e;exact⟨w'',(cc2 hh).2,h1,h2,h3⟩
 rcases ew5 (decide ((N7 p).1=0))with d1|d1;rotate_left
 ·rw[if_pos (ew9 d1)]at hF;obtain⟨w9,s0,s1,s2,s3⟩:=fin w6 _ hx26 hh6 hF;simp only[n3,n8,simprocAttr,hal5,st6,l6,d1,s0,s1];refine L0 results53 (by simp only[p7,simprocAttr]) s2 ?_;exact⟨by rw[hF],s3⟩
 rw[if_neg (by simpa using d1)]at hF;have lw6:=lw w6 (hlw _ (hx2.trans hx26));simp only[n3,n8,simprocAttr,hal5,st6,l6,d1,lw6];refine B7 dG4 (aA8 v p w6 (hv.mono (b7 (hx12.trans hx26))) hw) (fun w7 hx7=>?_);obtain⟨w8,st8,hh8,hm8⟩:=ce2 ((hx7.block tb (ex0.1 hh6).1 id).trans hh6) (X0 p);obtain⟨l8,_⟩:=cc2 hh8;have hx28:o6 w2 w8:=o9.ext_of (hx26.trans hx7) hm8 fun b hb=>by subst hb;exact hge4
 rcases ew5 (decide ((X0 p).1=0))with d2|d2;rotate_left
 ·rw[if_pos (ew9 d2)]at hF;obtain⟨w9,s0,s1,s2,s3⟩:=fin w8 _ hx28 hh8 hF;simp only[n3,n8,simprocAttr,st8,l8,d2,s0,s1];refine L0 results53 (by simp only[p7,simprocAttr]) s2 ?_;exact⟨by rw[hF],s3⟩
 rw[if_neg (by simpa using d2)]at hF;have lw8:=lw w8 (hlw _ (hx2.trans hx28));simp only[n3,n8,simprocAttr,st8,l8,d2,lw8];refine B7 eu4 (bo5 v p w8 (hv.mono (b7 (hx12.trans hx28))) hw) (fun w9 hx9=>?_);obtain⟨w10,st10,hh10,hm10⟩:=ce2 ((hx9.block tb (ex0.1 hh8).1 id).trans hh8) (ay8 p);obtain⟨l10,_⟩:=cc2 hh10;have hx210:o6 w2 w10:=o9.ext_of (hx28.trans hx9) hm10 fun b hb=>by subst hb;exact hge4
 rcases ew5 (decide ((ay8 p).1=0))with d3|d3;rotate_left
 ·rw[if_pos (ew9 d3)]at hF;obtain⟨w11,s0,s1,s2,s3⟩:=fin w10 _ hx210 hh10 hF;simp only[n3,n8,simprocAttr,st10,l10,d3,s0,s1];refine L0 results53 (by simp only[p7,simprocAttr]) s2 ?_;exact⟨by rw[hF],s3⟩
 rw[if_neg (by simpa using d3)]at hF;have lw10:=lw w10 (hlw _ (hx2.trans hx210));simp only[n3,n8,simprocAttr,st10,l10,d3,lw10];refine B7 ee2 (be5 v p w10 (hv.mono (b7 (hx12.trans hx210))) hw) (fun w11 hx11=>?_);obtain⟨w12,st12,hh12,hm12⟩:=ce2 ((hx11.block tb (ex0.1 hh10).1 id).trans hh10) (aA7 p);have hx212:o6 w2 w12:=o9.ext_of (hx210.trans hx11) hm12 fun b hb=>by subst hb;exact hge4
 obtain⟨w13,s0,s1,s2,s3⟩:=fin w12 _ hx212 hh12 hF;simp only[n3,simprocAttr,st12,s0,s1];refine L0 results53 (by simp only[p7,simprocAttr]) s2 ?_;exact⟨by rw[hF],s3⟩
theorem aM2(v:Value)(p:Pg)(w:World)(hv:SV (d7 w) v p)(hw:D6 p≤1000000):Calls prog 35 #[v] w fun e w'=>∃u,e = .returned u∧(u = .bool (ac2 p)∧o6 w w'):=by
 refine d9 (args:=[v]) hm func35 rfl (by kernel_rfl) (by show 1≤_;decide +kernel) ?_;obtain⟨a,w1,hbx,hx1,ha⟩:=V2 (w:=w) (fun _=>False) hv (fun _ h=>h.elim);obtain⟨lw,slw⟩:=I4.pg_v hv ha;have lw1:=lw w1 (B3 _ _);simp only[n3,n8,simprocAttr,hbx,lw1];refine B7 es7 (bx6 v p w1 (hv.mono (b7 hx1)) hw) (fun w3 hx3=>?_);simp only[n3,n8,simprocAttr,aj8];refine n9 results35 ?_;simp only[p7,simprocAttr];exact⟨by trivial,hx1.trans hx3⟩
section
open Go.Sort Go.RowKit Go.Shelf
class t8 (α:Type) [A3 α] where
 cells:α→List Value
 iff_:∀(h:Hp) (cs:List Value) (x:α),A3.enc h cs x↔cs=cells x
instance:t8 Sp:=⟨Sp.cells,fun _ _ _=>eD5⟩
instance:t8 Fw:=⟨Fw.cells,fun _ _ _=>eD5⟩
instance:t8 Vx:=⟨Vx.cells,fun _ _ _=>eD5⟩
instance:t8 Eg:=⟨Eg.cells,fun _ _ _=>eD5⟩
instance:Inhabited Sp:=⟨⟨0,0,0⟩⟩
instance:Inhabited Fw:=⟨⟨0,0,e0⟩⟩
instance:Inhabited Vx:=⟨⟨e0,0,0,e0⟩⟩
instance:Inhabited Eg:=⟨⟨default,default,0⟩⟩
section
variable {α:Type} [A3 α] [t8 α]
theorem ak8(x:α):(t8.cells x).length=A3.sz α:=A3.len ((t8.iff_ (fun _=>none) _ x).2 rfl)
theorem S4(x:α):∀v∈t8.cells x,v.oneCell'=true:=A3.one ((t8.iff_ (fun _=>none) _ x).2 rfl)
theorem U0{h:Hp}:∀{cs:List Value} {l:List α},M7 h cs l↔cs=l.flatMap t8.cells
 | cs,[]=>by simp[M7]
 | cs,x::l=>by
  rw[M7,eF7];constructor
  ·rintro⟨c1,c2,rfl,h1,h2⟩;rw[(t8.iff_ _ _ _).1 h1,U0.1 h2]
  ·rintro rfl;exact⟨_,_,rfl,(t8.iff_ _ _ _).2 rfl,U0.2 rfl⟩
theorem A9.downN{h k:Hp}{w:World}{T:TypeId}{v:Value}{xs:List α}(ho:A9 k w T v xs)(hk:B4 h k):A9 h w T v xs:=by
 rcases ho with hn|⟨b,c,cur,rfl,h1,h2,h3,h4,h5,h6⟩
 ·exact .inl hn
 ·refine .inr ⟨b,c,cur,rfl,?_,h2,h3,h4,h5,U0.2 (U0.1 h6)⟩;cases hq:h b with
  | none=>rfl
  | some o=>have:=hk b o hq;rw[h1]at this;cases this
theorem A9.flatRN{h k:Hp}{w:World}{T:TypeId}{v:Value}{xs:List α}(ho:A9 h w T v xs)(hb:∀b,A4 v b→k b=w.heap[b]?):R k v xs:=
 (ho.downN (h:=fun _=>none) (fun b o e=>nomatch e)).ro (fun b o e=>nomatch e) hb
theorem A9.backN{w0 w1 w:World}{T:TypeId}{v:Value}{xs:List α}(ho:A9 (d7 w1) w T v xs)(hx:o6 w0 w1):A9 (d7 w0) w T v xs:=ho.downN (b7 hx)
theorem cd6{h:Hp}{w:World}{T:TypeId}{v:Value}{l:List α}(ho:A9 h w T v l):(v = .slice none 0 0∧l=[])∨∃b c cur,v = .slice (some ⟨b,0,none⟩) l.length c∧h b=none∧w.heap[b]?=some (.cells cur T (0,0))∧l.length≤c∧c≤maxLen∧cur.size=c*A3.sz α∧cur.toList.take (l.length*A3.sz α)=l.flatMap t8.cells:=by
 rcases ho with hn|⟨b,c,cur,rfl,h1,h2,h3,h4,h5,h6⟩
 ·exact .inl hn
 ·exact .inr ⟨b,c,cur,rfl,h1,h2,h3,h4,h5,U0.1 h6⟩
theorem aP2{h:Hp}{w:World}{T:TypeId}{l:List α}{b c:Nat}{cur:Array Value}(h1:h b=none)(h2:w.heap[b]?=some (.cells cur T (0,0)))(h3:l.length≤c)(h4:c≤maxLen)(h5:cur.size=c*A3.sz α)(h6:cur.toList.take (l.length*A3.sz α)=l.flatMap t8.cells):
  A9 h w T (.slice (some ⟨b,0,none⟩) l.length c) l:=.inr ⟨b,c,cur,rfl,h1,h2,h3,h4,h5,U0.2 h6⟩
theorem U1(l:List α):(l.flatMap t8.cells).length=l.length*A3.sz α:=by
 induction l with
 | nil=>simp
 | cons x l ih=>rw[eF7,ew7,ak8,ih,ey7,Nat.succ_mul,Nat.add_comm]
end
theorem aY4{α β:Type}(f:α→List β){k:Nat}(hk:0<k)(hf:∀x,(f x).length=k):∀(l:List α) (t:Nat),(l.flatMap f)[t]?=(l[t / k]?).bind fun x=>(f x)[t % k]?
 | [],t=>by simp
 | x::l,t=>by
  rw[eF7];rcases eA1 t k with h|h
  ·rw[eB3 (by rw[hf];exact h),Nat.div_eq_of_lt h,Nat.mod_eq_of_lt h];rfl
  ·rw[eA9 (by rw[hf];exact h),hf,aY4 f hk hf l];have h1:t / k=(t-k) / k+1:=by rw[Nat.div_eq_sub_div hk h]
   have h2:t % k=(t-k) % k:=Nat.mod_eq_sub_mod h;rw[h1,h2,List.getElem?_cons_succ]
theorem bg4{α:Type}[Inhabited α](f:α→List Value){k:Nat}(hk:0<k)(hf:∀x,(f x).length=k)(d:Array α):(flatK f k d).toList=d.toList.flatMap f:=by
 apply eI6;intro t;rw[aY4 f hk hf];unfold flatK;rw[eG9,Array.getElem?_map];rcases eA1 t (d.size*k)with h|h
 ·have h1:t / k<d.size:=Nat.div_lt_of_lt_mul (by rw[Nat.mul_comm];exact h);have h2:t % k<k:=Nat.mod_lt _ hk;rw[eF3 (by simpa using h),eG9,eF3 h1];simp only[Array.getElem_range,eC3,Option.bind_some];rw[getElem!_pos d _ h1,getElem!_pos _ _ (by rw[hf];exact h2),ew4 (by rw[hf];exact h2)]
 ·have h1:d.size≤t / k:=(Nat.le_div_iff_mul_le hk).2 h;rw[Array.getElem?_eq_none (by simpa using h),eG9,Array.getElem?_eq_none h1];rfl
structure Cm {α:Type} (c:α→α→Int):Prop where
 refl:∀x,c x x=0
 anti:∀x y,c y x = - c x y
 trans:∀x y z,c x y≤0→c y z≤0→c x z≤0
theorem Cm.swo{α:Type}{c:α→α→Int}(h:Cm c):SWO (ltOf c) where
 irrefl x:=by simp[ltOf,h.refl]
 trans x y z h1 h2:=by
  simp only[ltOf,eA7]at *;have h3:=h.trans x y z (by omega) (by omega);rcases Int.lt_or_eq_of_le h3 with h4|h4
  ·exact h4
  ·have h5:=h.anti x z;have h6:=h.trans y z x (by omega) (by omega);have h7:=h.anti x y;omega
 ntrans x y z h1 h2:=by
  simp only[ltOf,eJ6]at *;have a1:=h.anti x y;have a2:=h.anti y z;have a3:=h.anti x z;have:=h.trans z y x (by omega) (by omega);omega
theorem Cm.total{α:Type}{c:α→α→Int}(h:Cm c)(x y:α):decide (c x y≤0)=true∨decide (c y x≤0)=true:=by
 have:=h.anti x y;simp only[eA7];omega
theorem Cm.key{α β:Type}{c:β→β→Int}(h:Cm c)(f:α→β):Cm fun x y=>c (f x) (f y):=⟨fun x=>h.refl _,fun x y=>h.anti _ _,fun x y z=>h.trans _ _ _⟩
theorem Cm.zero{α:Type}:Cm fun(_ _:α)=>0:=⟨fun _=>rfl,fun _ _=>rfl,fun _ _ _ _ _=>by omega⟩
theorem Cm.lex{α:Type}{c d:α→α→Int}(h:Cm c)(k:Cm d):Cm fun x y=>if c x y=0 then d x y else c x y:=by
 refine⟨fun x=>by simp only[h.refl,eC9,k.refl],fun x y=>?_,fun x y z h1 h2=>?_⟩
 ·have a1:=h.anti x y;have a2:=k.anti x y;by_cases hq:c x y=0
  ·show(if c y x=0 then d y x else c y x) = - (if c x y=0 then d x y else c x y);rw[if_pos (show c y x=0 by omega),if_pos hq,a2]
  ·show(if c y x=0 then d y x else c y x) = - (if c x y=0 then d x y else c x y);rw[if_neg (show ¬c y x=0 by omega),if_neg hq,a1]
 ·have a1:=h.anti x y;have a2:=h.anti y z;have a3:=h.anti x z
  change (if c x y=0 then d x y else c x y)≤0 at h1
  change (if c y z=0 then d y z else c y z)≤0 at h2
  show(if c x z=0 then d x z else c x z)≤0;have b1:c x y≤0:=by split at h1<;>omega
  have b2:c y z≤0:=by split at h2<;>omega
  have b3:=h.trans x y z b1 b2;by_cases hq:c x z=0
  ·rw[if_pos hq];have e1:=h.trans y z x b2 (by omega);have e2:=h.trans z x y (by omega) b1;have q1:c x y=0:=by omega
   have q2:c y z=0:=by omega
   rw[if_pos q1]at h1;rw[if_pos q2]at h2;exact k.trans x y z h1 h2
  ·rw[if_neg hq];exact b3
theorem aA9:Cm I2:=by
 refine⟨fun x=>?_,fun x y=>?_,fun x y z=>?_⟩<;>unfold I2
 ·simp
 ·split<;>split<;>(try split)<;>omega
 ·intro h1 h2;split at h1<;>(try split at h1)<;>split at h2<;>(try split at h2)<;>split<;>(try split)<;>omega
def X1(a b:A6):Int:=if Z6 a b then -1 else if Z6 b a then 1 else 0
theorem bQ4:Cm X1:=by
 refine⟨fun x=>?_,fun x y=>?_,fun x y z=>?_⟩<;>unfold X1
 ·simp[J9]
 ·cases h1:Z6 x y<;>cases h2:Z6 y x<;>simp;have:=al2 h1 h2;rw[J9]at this;cases this
 ·intro h1 h2;cases h3:Z6 z x
  ·cases Z6 x z<;>simp
  ·exfalso
   cases h4:Z6 y x
   ·cases h5:Z6 z y
    ·have e1:=aU5 (V5.1 h4) (V5.1 h5);exact absurd h3 (by rw[V5.2 e1];simp)
    ·cases h6:Z6 y z
     ·rw[h6,h5]at h2;simp at h2
     ·have:=al2 h5 h6;rw[J9]at this;cases this
   ·cases h6:Z6 x y
    ·rw[h6,h4]at h1;simp at h1
    ·have:=al2 h4 h6;rw[J9]at this;cases this
theorem S5{a b:Int}(h:I2 a b=0):a=b:=by
 unfold I2 at h;split at h
 ·omega
 ·split at h<;>omega
theorem as3{a b:A6}(h:X1 a b=0):a=b:=by
 unfold X1 at h;cases h1:Z6 a b
 ·cases h2:Z6 b a
  ·exact cc6 h1 h2
  ·rw[h1,h2]at h;simp at h
 ·rw[h1]at h;simp at h
def Gr(w w':World):Prop:=∃q os,w'=grow (w.drewN q) os
theorem Gr.refl(w:World):Gr w w:=⟨0,#[],by rw[grow_empty];rfl⟩
theorem Gr.alloc(w:World)(o:Obj):Gr w (w.alloc o):=⟨0,#[o],by rw[alloc_eq_grow];rfl⟩
theorem Gr.drew(w:World):Gr w w.drew:=⟨1,#[],by rw[grow_empty];rfl⟩
theorem Gr.trans{a b c:World}(h:Gr a b)(k:Gr b c):Gr a c:=by
 obtain⟨q,os,rfl⟩:=h;obtain⟨p,ps,rfl⟩:=k;refine⟨q+p,os++ps,?_⟩;have e:(grow (a.drewN q) os).drewN p=grow (a.drewN (q+p)) os:=by
  show grow ((a.drewN q).drewN p) os=_
  congr 1
  simp[World.drewN,eF8]
 rw[e,grow_grow]
theorem Gr.ext{a b:World}(h:Gr a b):o6 a b:=by
 obtain⟨q,os,rfl⟩:=h;have h1:o6 a (a.drewN q):=⟨rfl,rfl,rfl,ex9 _,fun _ _ _=>rfl⟩;refine h1.trans ⟨rfl,rfl,rfl,?_,fun c hc _=>?_⟩
 ·show _≤((a.drewN q).heap++os).size;rw[Array.size_append];omega
 ·show((a.drewN q).heap++os)[c]?=_;rw[Array.getElem?_append_left hc]
section
variable {α:Type} [A3 α] [t8 α] [Inhabited α] {P:Program} {ρ:Ren} {h:Hp} {w:World} {T:TypeId} {v:Value} {xs:List α}
theorem cN3{b:Nat}{cur:Array Value}(h2:w.heap[b]?=some (.cells cur T (0,0)))(h6:cur.toList.take (xs.length*A3.sz α)=xs.flatMap t8.cells):HoldsK t8.cells (A3.sz α) w b 0 xs.toArray:=fun j hj=>by
 have hl:=bg4 t8.cells (A3.pos (α:=α)) ak8 xs.toArray;rw[List.toList_toArray,←h6]at hl;have hj':j<xs.length*A3.sz α:=by simpa using hj
 rw[ez8,eD9 w b j cur _ (0,0) h2];refine⟨?_,frozen_of_row w b j cur _ h2⟩;have h7:=ey2 (fun z=>z[j]?) hl;simp only[eG9,eF2,if_pos hj',eF3 hj]at h7;rw[getElem!_pos _ j hj];exact h7.symm
theorem aG0(L:SlLaysF0.n6 P ρ)(aE:∀w,(isAgg (ρ.t 24)).run P w = .ok true w)(zE:∀w,(Go.sizeOf (ρ.t 24)).run P w = .ok (A3.sz α) w)(cf:α→α→Int)(hC:Cm cf)(g:Nat)(eg:∀args w,(callFunc g args).run P w = .ok (.enter g args) w)
  (hcmp:∀x y w,Calls P g #[.agg (t8.cells x).toArray,.agg (t8.cells y).toArray] w fun e w'=>e = .returned (.int .i64 (cf x y))∧Gr w w')
  (ho:A9 h w T v xs) (hl:xs.length≤1000000000) (hanti:∀a∈xs,∀b∈xs,decide (cf a b≤0)=true→decide (cf b a≤0)=true→a=b) :
  Calls P (ρ.f 6) #[v,.func (.func g) #[] #[]] w fun e w'=>∃u,e = .returned u∧(A9 h w' T v (T6 (fun a b=>decide (cf a b≤0)) xs)∧o9 (A4 v) w w'):=by
 rcases cd6 ho with⟨rfl,rfl⟩|⟨b,c,cur,rfl,h1,h2,h3,h4,h5,h6⟩
 ·refine(AnyF.slices_SortFunc_none L none 0 _ w).mono ?_;rintro e w' ⟨rfl,rfl⟩;exact⟨_,rfl,A9.nil _ _ _,o9.refl _⟩
 ·have hb:b<w.heap.size:=(ex0.1 h2).1;have:=AnyQ.slices_SortFunc L (A3.sz α) aE zE t8.cells ak8 S4 cf hC.swo g #[] b 0 c xs.toArray w eg (fun m os dk _ x y=>hcmp x y _) (cN3 h2 h6) hb (by simp;omega);rw[eE9]at this;refine this.mono ?_;rintro e w' ⟨rfl,d',n,os,hp,hs,rfl⟩;obtain⟨hsz,_,hperm⟩:=hp;have hszd:d'.size=xs.length:=by simpa using hsz
  have hd:d'.toList=T6 (fun a b=>decide (cf a b≤0)) xs:=by
   have e1:d'.extract 0 xs.length=d':=by rw[←hszd];exact Array.extract_size
   rw[e1]at hperm;have e2:(xs.toArray.extract 0 xs.length).toList=xs:=by
    have:=@Array.extract_size _ xs.toArray;rw[eE9]at this;rw[this]
   rw[e2]at hperm;refine ax6 (le:=fun a b=>decide (cf a b≤0)) (hperm.trans (H6 _ _).symm) ?_ ?_ ?_
   ·intro a ha b hb;exact hanti a (hperm.mem_iff.1 ha) b (hperm.mem_iff.1 hb)
   ·rw[eF4];intro i j hi hj hij;have hi':i<d'.size:=by simpa using hi
    have hj':j<d'.size:=by simpa using hj
    have:=hs i j (ex6 _) hij (by omega);rw[getElem!_pos d' j hj',getElem!_pos d' i hi']at this;simp only[ltOf,eJ6]at this;have a1:=hC.anti d'[i] d'[j];simp only[Array.getElem_toList,eA7];omega
   ·exact ac8 (fun a _ b _=>hC.total a b) (fun a _ b _ c _ h1 h2=>eD8 (hC.trans a b c (ew8 h1) (ew8 h2)))
  have hfl:=bg4 t8.cells (A3.pos (α:=α)) ak8 d';have hfs:(flatK t8.cells (A3.sz α) d').size=xs.length*A3.sz α:=by rw[size_flatK,hszd]
  obtain⟨k1,k2⟩:=bB1 h2 id (flatK t8.cells (A3.sz α) d') (by rw[hfs,h5];exact eE0 _ h3) n os;refine⟨_,rfl,?_,k2.weaken fun _ _ e=>by subst e;rfl⟩;have hlen:(T6 (fun a b=>decide (cf a b≤0)) xs).length=xs.length:=(H6 _ _).length_eq;rw[List.map_id,hfl,hd]at k1;have:=aP2 (l:=T6 (fun a b=>decide (cf a b≤0)) xs) h1 k1 (by rw[hlen];exact h3) h4 ?_ ?_
  ·rw[hlen]at this;exact this
  ·have hml:=eE0 (A3.sz α) h3;simp only[eE9,ew7,U1,hlen,eB8,eI9,hfs,h5];omega
  ·simp only[];rw[←U1,eE3]
end
end
end Go.Proofs.YtcbnbgpphippoaaGreat

/- pdgCalls.proved: for every input the law returns true. No condition. Part 2 of 7. -/
import Derived.Ground.NamesProg
import Derived.Lib.SlicesCompact
import Derived.MapKept
import Derived.Maps.RangeRun
import Derived.Shelf.Slices.CompactS
import Derived.Shelf.Slices.In.SortNone
import Derived.Shelf.Sort.Plain
import Derived.Sort.Walk0
import Derived.Test.YtcbnbgpphippoaaGreatProg
import Derived.Test.YtcbnbgpphippoaaGreatZ1
set_option maxRecDepth 1000000
set_option maxHeartbeats 8000000
set_option linter.unusedVariables false
set_option linter.unusedSimpArgs false
set_option linter.unnecessarySimpa false
set_option linter.defProp false
namespace Go.Proofs.YtcbnbgpphippoaaGreat
open Go Tryz
def dA0:=@List.drop_length
def dr2:=@of_decide_eq_false
def dr0:=@of_decide_eq_true
mutual
theorem af7:∀(t:St) (k:Nat) (pr up nx lp:Int),(V4 t k pr up nx lp).length=V8 t
 | .mk id kind labels name proc x has args thn els,k,pr,up,nx,lp=>by
  simp only[V4,dt2,dr1,F7,V8];omega
theorem F7:∀(l:List St) (k:Nat) (pr up nx lp:Int),(C2 l k pr up nx lp).length=A5 l
 | [],_,_,_,_,_=>by simp[C2,A5]
 | t::l,k,pr,up,nx,lp=>by
  simp only[C2,dr1,af7,F7,A5]
end
theorem P5(t:St)(k:Nat)(pr up nx lp:Int):V4 t k pr up nx lp =
  ⟨t,pr,up,nx,lp⟩::(C2 t.thn (k+1) pr ((k:Int)+1) (if t.kind=6 then(k:Int)+1 else nx) (if t.kind=6 then(k:Int)+1 else lp) ++
   C2 t.els (k+1+A5 t.thn) pr ((k:Int)+1) (if t.kind=6 then(k:Int)+1 else nx) (if t.kind=6 then(k:Int)+1 else lp)):=by
 cases t;simp only[V4,F7,St.thn,St.els,St.kind];rfl
theorem cK5:∀(m:Nat) (l:List St) (ar:It) (va v:Value) (h:Hp) (gb:Nat) (vg vp vL vLo vHi:Value) (L:List It) (lo hi:List Int) (w:World),A5 l≤m→ShS h w gb vg vp vL vLo vHi L lo hi→B5 h (i4 w)→R h v l→SV h va ar→G3 l≤1000000→L.length+A5 l≤1000000 →
  p7 prog 121 #[.pointer (some ⟨gb,0,none⟩),v,va] w fun u w'=>(∃vL',ShS h w' gb vg vp vL' vLo vHi (L++C2 l L.length ar.proc ar.up ar.next ar.loop) lo hi∧t8 (fun b=>b=gb∨A4 vL b) w w'∧D7 w vL vL'):=by
 intro m
 induction m using Nat.strongRecOn with
 | ind m ih=>
 intro l ar va v h gb vg vp vL vLo vHi L lo hi w hsm hs hh hv hva hwt hLl;refine p8 [.pointer (some ⟨gb,0,none⟩),v,va] func121 rfl ?_;have hS:=hv.isS;have hn:=hv.vlen;have hN1:∀b,(b=gb∨A4 vL b)→b<w.heap.size:=fun b hb=>by
  rcases hb with rfl|hb
  ·exact hs.lt
  ·exact hs.oL.lt hb
 obtain⟨a,w1,hbx,hx1,ha⟩:=cG2 (w:=w) (fun b=>b=gb∨A4 vL b) hva hN1;have hN1':∀b,(b=gb∨A4 vL b)→b<w1.heap.size:=fun b hb=>dw9 (hN1 b hb) hx1.size;obtain⟨va_s,hva_s,_,lda,_⟩:=I2.it hva ha;obtain⟨ldw,_⟩:=I2.it_v hva ha;have hs1:=hs.ext hx1;have hfree:∀b,(b=gb∨A4 vL b)→h b=none:=fun b hb=>by
  rcases hb with rfl|hb
  ·exact hs.free
  ·exact hs.oL.free hb
 have hh1:B5 h (i4 w1):=p9 hh (b7 hx1);simp only[n7,n8,simprocAttr,hbx,hS,hn];refine n9 [0,1,5,11,12] (σ:=Nat×Value×List It) (fun s f w'=>f 13 = .int .i64 s.1∧s.1≤l.length∧ShS h w' gb vg vp s.2.1 vLo vHi (L++s.2.2) lo hi∧t8 (fun b=>b=gb∨A4 vL b) w1 w'∧D7 w1 vL s.2.1 ∧
  C2 l L.length ar.proc ar.up ar.next ar.loop=s.2.2++C2 (l.drop s.1) (L.length+s.2.2.length) ar.proc ar.up ar.next ar.loop∧s.2.2.length+A5 (l.drop s.1)=A5 l) (fun s=>l.length-s.1) (0,vL,[]) ?_ ?_
 ·simp only[p6,simprocAttr];exact⟨by trivial,dr8 _,by simpa using hs1,t8.refl _,fun b hb=>.inl hb,by simp,by simp⟩
 ·rintro⟨k,uL,pre⟩ f w2 hk ⟨h13,hkl,hs2,hx2,hmv2,hpre,hcnt⟩;simp only at h13 hkl hs2 hmv2 hpre hcnt;simp only[dq9,p6,simprocAttr]at hk;obtain⟨e0,e1,e5,e11,e12,_⟩:=hk;simp only[n7,n8,simprocAttr,h13,e12];refine m8 (fun hc=>?_) (fun hc=>?_)
  ·have hlt:k<l.length:=by simpa using hc
   have hin:=hv.inS hlt;have hh2:B5 h (i4 w2):=H9 hh1 hx2 hfree;obtain⟨sv,hsv,hld⟩:=E4 (P:=prog) (t:=45) hv hh2 (dq7 hlt) bc7 bd0 aK7 Y1;rw[Y1]at hld;have hdrop:l.drop k=l[k]::l.drop (k+1):=du8 hlt;have hwm:=ah2 (dr5 hlt);have hrest:(l.drop (k+1)).length=l.length-(k+1):=dy7;generalize l[k]=t at hsv hdrop hwm;rw[hdrop]at hpre hcnt;rw[A5]at hcnt;have heq:=aq8 t;have hwe:=P2 t;have hpL:(L++pre).length=L.length+pre.length:=dr1;have hfree2:∀b,(b=gb∨A4 uL b)→h b=none:=fun b hb=>by
    rcases hb with rfl|hb
    ·exact hs.free
    ·exact hs2.oL.free hb
   have hN2:∀b,(b=gb∨A4 uL b)→b<w2.heap.size:=fun b hb=>by
    rcases hb with rfl|hb
    ·exact hs2.lt
    ·exact hs2.oL.lt hb
   obtain⟨b,wz,w3,hal,hst,hx3,hat⟩:=cL9 (w:=w2) (fun b=>b=gb∨A4 uL b) hsv hN2;obtain⟨vl,ux,va',vt,ve,hvl,_,_,hva',hvt,hve,ldt,sdt⟩:=I2.st hsv hat;obtain⟨ldT,_⟩:=I2.st_v hsv hat;have hs3:=hs2.ext hx3;have hmod13:t8 (fun b=>b=gb∨A4 vL b) w1 w3:=hx2.trans (t8.up hx3);have hk3:B5 (B7 w3 fun b=>b=gb∨A4 uL b) (i4 w3):=B3 _ _;have hb3:B5 (B7 w1 fun b=>b=gb∨A4 vL b) (i4 w3):=C8 hmod13;have hgl3:=E9 (P:=prog) (t:=111) (i:=2) (u:=uL) hs3.cell rfl aX4;have hSu:=hs3.oL.isS;have hnu:=hs3.oL.vlen;rw[hpL]at hnu;have hid:IntKind.i64.wrap (((L.length+pre.length:Nat):Int)+1)=((L.length+pre.length+1:Nat):Int):=A8 _ (by omega);have lw3:=ldw w3 hb3;obtain⟨tb,wy,w4,hal4,hst4,hx4,hge4,htm4⟩:=U8.new (w:=w3) hva;have hs4:=hs3.ext hx4;have hk4:B5 (B7 w3 fun b=>b=gb∨A4 uL b) (i4 w4):=p9 hk3 (b7 hx4);have lT4:=ldT w4 hk4;obtain⟨w5,hst5,htm5,hx5⟩:=htm4.setS hsv;have hmod35:t8 (fun b=>b=gb∨A4 uL b) w3 w5:=(t8.up hx4).chain hx5 fun i hi hb=>by omega
   have hs5:ShS h w5 gb vg vp uL vLo vHi (L++pre) lo hi:=hs4.mod hx5 (by have:=hs3.lt;omega) (fun b hb=>by have:=hs3.oL.lt hb;omega) (fun b hb=>by have:=hs3.oLo.lt hb;omega) (fun b hb=>by have:=hs3.oHi.lt hb;omega);have hlen1:IntKind.i64.wrap ((k:Int)+1)=((k+1:Nat):Int):=A8 k (by have:=Q8 l;omega);have hk5:B5 (B7 w3 fun b=>b=gb∨A4 uL b) (i4 w5):=C8 hmod35;have lT5:=ldT w5 hk5;simp only[n7,n8,z6,simprocAttr,h13,e0,e1,e5,e11,hin,hld,hal,hst,hgl3,hSu,hnu,hid,lw3,hal4,hst4,lT4,hst5,hS,hn,hlen1];generalize hK:CW prog _ (T0 1 (W1 _ _))=K;have key:∀(nx:Int) (f6:Fr) (w6:World),nx=(if(l.drop (k+1)).length=0 then ar.next else((L.length+pre.length:Nat):Int)+1+(V8 t:Nat))→U8 h w6 tb ⟨t,ar.proc,ar.up,nx,ar.loop⟩→t8 (fun b=>b=tb) w5 w6 →
     f6 0 = .pointer (some ⟨gb,0,none⟩)→f6 5 = .pointer (some a)→f6 7 = .pointer (some b)→f6 8 = .int .i64 ((L.length+pre.length+1:Nat):Int)→f6 9 = .pointer (some ⟨tb,0,none⟩)→f6 13 = .int .i64 k→K f6 w6:=by
    intro nx f6 w6 hnx htm6 hx6 g0 g5 g7 g8 g9 g13;have hs6:ShS h w6 gb vg vp uL vLo vHi (L++pre) lo hi:=hs5.mod hx6 (by have:=hs3.lt;omega) (fun b hb=>by have:=hs3.oL.lt hb;omega) (fun b hb=>by have:=hs3.oLo.lt hb;omega) (fun b hb=>by have:=hs3.oHi.lt hb;omega);have hmod36:t8 (fun b=>b=gb∨A4 uL b) w3 w6:=hmod35.chain hx6 fun i hi hb=>by omega
    have hs6d:=hs6.ext (o7.drew w6);obtain⟨iv,hiv,ldi⟩:=htm6.ld;have hh6:B5 h (i4 w6.drew):=by
     have h3:B5 h (i4 w3):=p9 hh2 (b7 hx3);exact p9 (H9 h3 hmod36 hfree2) (b7 (o7.drew w6))
    obtain⟨p1,uL',w7,p2,p3,p4,p5⟩:=push (e:=111) dd1 rfl hs6d.oL (x:=iv) (y:=⟨t,ar.proc,ar.up,nx,ar.loop⟩) hiv.enc (by rw[hpL];omega) (by rw[hpL];omega) hh6;have hc7:w7.heap[gb]?=some (.cells #[vg,vp,uL,vLo,vHi] 114 (0,0)):=(p4.block gb hs6d.lt fun hb=>(hs6d.d1 gb hb).1 rfl).trans hs6d.cell;obtain⟨w8,s8,hc8,hx8⟩:=aj6 (P:=prog) (t:=111) (i:=2) (x:=uL') hc7 (by simp) (D8 p3.isS) (W9 p3.isS) (A0 cD0).choose_spec.1 (by rw[←C5 (A0 cD0).choose_spec.1];exact cU8);have hs8:ShS h w8 gb vg vp uL' vLo vHi ((L++pre)++[⟨t,ar.proc,ar.up,nx,ar.loop⟩]) lo hi:=hs6d.setL p4 p3 p5 hx8 (by simpa using hc8);have hsz36:w3.heap.size≤w6.drew.heap.size:=(hmod36.trans (t8.up (o7.drew w6))).size;have hmod38:t8 (fun b=>b=gb∨A4 uL b) w3 w8:=((hmod36.trans (t8.up (o7.drew w6))).chain p4 fun i hi hb=>.inr hb).chain hx8 fun i hi hb=>.inl hb;have hmod18:t8 (fun b=>b=gb∨A4 vL b) w1 w8:=hmod13.chain hmod38 fun i hi hb=>by
     rcases hb with hb|hb
     ·exact .inl hb
     ·rcases hmv2 i hb with hb|hb
      ·exact .inr hb
      ·omega
    have hmv8:∀i,i<w3.heap.size→A4 uL' i→A4 uL i:=fun i hi hb=>by
     rcases p5 i hb with hb|hb
     ·exact hb
     ·omega
    have htb6:tb<w6.heap.size:=htm6.lt;have hntb:¬A4 uL tb:=fun hb=>by have:=hs3.oL.lt hb;omega
    have sgl:∀K f d w,I1 prog (fun w'=>t8 (A4 uL) w6.drew w') (Instr.loadAt 111 (.pointer (some ⟨gb,2,none⟩))) K f d w=K (C4 f d uL) w:=fun K f d w=>D5 (w0:=w6.drew) (t8.refl _) fun w' hw'=>E9 (i:=2) ((hw'.block gb hs6d.lt fun hb=>(hs6d.d1 gb hb).1 rfl).trans hs6d.cell) rfl aX4;have sit:∀K f d w,I1 prog (fun w'=>t8 (A4 uL) w6.drew w') (Instr.loadAt 121 (.pointer (some ⟨tb,0,none⟩))) K f d w=K (C4 f d iv) w:=fun K f d w=>D5 (w0:=w6.drew) (t8.refl _) fun w' hw'=>(ldi w' (hw'.block tb htb6 hntb)).1;rw[←hK];simp only[n7,simprocAttr];refine C0 (fun w'=>t8 (A4 uL) w6.drew w') 8 (A9 [0,1,2,3,4,5,6,7]) ?_;simp only[D2,A9,n7,n8,simprocAttr,g0,g9,sgl,sit,p1,p2,F1];refine⟨t8.up (o7.alloc _ _),p4,?_⟩;have htm8:U8 h w8 tb ⟨t,ar.proc,ar.up,nx,ar.loop⟩:=((htm6.mod (t8.up (M:=A4 uL) (o7.drew w6)) hntb).mod p4 hntb).mod hx8 (by have:=hs3.lt;omega);obtain⟨iv8,_,ldi8⟩:=htm8.ld;have ln8:=(ldi8 w8 rfl).2;have la8:=lda w8 (C8 hmod18);obtain⟨bv,hbv,hbvS⟩:=ch1 h ar.proc ((L.length+pre.length+1:Nat):Int) nx ar.loop;obtain⟨ib,wq,w9,hal9,hst9,hx9,hge9,htm9⟩:=U8.new (w:=w8) hbvS;have hs9:=hs8.ext hx9;have hmod39:t8 (fun b=>b=gb∨A4 uL b) w3 w9:=hmod38.trans (t8.up hx9);have lt9:=ldt w9 (C8 hmod39);simp only[n7,n8,simprocAttr,g5,g7,g8,g9,s8,la8,ln8,hbv,hal9,hst9,lt9];generalize hK2:CW prog _ (T0 1 (W1 _ _))=K2;have hpL1:((L++pre)++[(⟨t,ar.proc,ar.up,nx,ar.loop⟩:It)]).length=L.length+pre.length+1:=by simp[dA5]
    have hib9:¬A4 uL' ib:=fun hb=>by have:=hs8.oL.lt hb;omega
    have hibg:ib≠gb:=fun e=>by have:=hs8.lt;omega
    have key2:∀(nx' lp':Int) (f9:Fr) (w10:World),nx'=(if t.kind=6 then((L.length+pre.length:Nat):Int)+1 else nx)→lp'=(if t.kind=6 then((L.length+pre.length:Nat):Int)+1 else ar.loop)→U8 h w10 ib ⟨cm4,ar.proc,((L.length+pre.length+1:Nat):Int),nx',lp'⟩→t8 (fun b=>b=ib) w9 w10 →
      f9 0 = .pointer (some ⟨gb,0,none⟩)→f9 7 = .pointer (some b)→f9 10 = .pointer (some ⟨ib,0,none⟩)→f9 13 = .int .i64 k→K2 f9 w10:=by
     intro nx' lp' f9 w10 hnx' hlp' htm10 hx10 q0 q7 q10 q13;have hs10:=hs9.mod hx10 (fun e=>hibg e.symm) (fun c hb e=>by subst e;exact hib9 hb) (fun c hb e=>by subst e;have:=hs8.oLo.lt hb;omega) (fun c hb e=>by subst e;have:=hs8.oHi.lt hb;omega);have hmod310:t8 (fun b=>b=gb∨A4 uL b) w3 w10:=hmod39.chain hx10 fun i hi hb=>by have:=hmod38.size;omega
     obtain⟨nv,hnv,ldn⟩:=htm10.ld;have lt10:=ldt w10 (C8 hmod310);have ln10:=(ldn w10 rfl).1;have h3:B5 h (i4 w3):=p9 hh2 (b7 hx3);have hh10:B5 h (i4 w10):=H9 h3 hmod310 hfree2;rw[←hK2];simp only[n7,n8,simprocAttr,q0,q7,q10,lt10,ln10];refine z7 (ih (A5 t.thn) (by omega) t.thn _ nv vt h gb vg vp uL' vLo vHi _ lo hi w10 (ds5 _) hs10 hh10 hvt hnv (by omega) (by rw[hpL1];omega)) ?_;rintro u w11 ⟨uL3,hs11,hx11,hmv11⟩;rw[hpL1]at hs11;have hsz310:=hmod310.size;have hmod311:t8 (fun b=>b=gb∨A4 uL b) w3 w11:=hmod310.chain hx11 fun i hi hb=>hb.imp id (hmv8 i hi);have hmv311:∀i,i<w3.heap.size→A4 uL3 i→A4 uL i:=fun i hi hb=>by
      rcases hmv11 i hb with hb|hb
      ·exact hmv8 i hi hb
      ·omega
     have htm11:U8 h w11 ib ⟨cm4,ar.proc,((L.length+pre.length+1:Nat):Int),nx',lp'⟩:=htm10.mod hx11 fun hb=>by
      rcases hb with hb|hb
      ·exact hibg hb
      ·exact hib9 hb
     obtain⟨nv2,hnv2,ldn2⟩:=htm11.ld;have lt11:=ldt w11 (C8 hmod311);have ln11:=(ldn2 w11 rfl).1;have hh11:B5 h (i4 w11):=H9 h3 hmod311 hfree2;have hpL2:∀X:List It,X.length=A5 t.thn→(((L++pre)++[(⟨t,ar.proc,ar.up,nx,ar.loop⟩:It)])++X).length=L.length+pre.length+1+A5 t.thn:=fun X hX=>by rw[dr1,hpL1,hX]
     simp only[n7,n8,simprocAttr,q0,q7,q10,lt11,ln11];refine z7 (ih (A5 t.els) (by omega) t.els _ nv2 ve h gb vg vp uL3 vLo vHi _ lo hi w11 (ds5 _) hs11 hh11 hve hnv2 (by omega) (by rw[hpL2 _ (F7 _ _ _ _ _ _)];omega)) ?_;rintro u w12 ⟨uL4,hs12,hx12,hmv12⟩;rw[hpL2 _ (F7 _ _ _ _ _ _)]at hs12;have hsz311:=hmod311.size;have hmod312:t8 (fun b=>b=gb∨A4 uL b) w3 w12:=hmod311.chain hx12 fun i hi hb=>hb.imp id (hmv311 i hi);have hmod112:t8 (fun b=>b=gb∨A4 vL b) w1 w12:=hmod13.chain hmod312 fun i hi hb=>by
      rcases hb with hb|hb
      ·exact .inl hb
      ·rcases hmv2 i hb with hb|hb
       ·exact .inr hb
       ·omega
     simp only[n7,n8,simprocAttr,q13];refine⟨(k+1,uL4,pre++V4 t (L.length+pre.length) ar.proc ar.up nx ar.loop),by simp only[];omega,by simp only[];rw[A8 k (by have:=Q8 l;omega)],by simp only[];omega,?_,hmod112,?_,?_,?_⟩
     ·simp only[];have e1:((L.length+pre.length+1:Nat):Int)=((L.length+pre.length:Nat):Int)+1:=by omega
      rw[P5,←hnx',←hlp',←e1];have e2:=hs12;simp only[dt4,dC0,dB0]at e2 ⊢;exact e2
     ·simp only[];intro i hb;rcases hmv12 i hb with hb|hb
      ·rcases hmv11 i hb with hb|hb
       ·rcases p5 i hb with hb|hb
        ·exact hmv2 i hb
        ·have:=hmod13.size;exact .inr (by omega)
       ·have:=hmod13.size;exact .inr (by omega)
      ·have:=hmod13.size;exact .inr (by omega)
     ·simp only[];rw[hpre,C2,←hnx];simp only[dt4,dr1,dA5]
     ·simp only[];rw[dr1,af7];omega
    refine m8 (fun h6=>?_) (fun h6=>?_)
    ·have k6:=dr0 h6;obtain⟨wr,hr1,htmr,hxr⟩:=htm9.setN (((L.length+pre.length+1:Nat):Int));obtain⟨wt,ht1,htmt,hxt⟩:=htmr.setLp (((L.length+pre.length+1:Nat):Int));simp only[n7,n8,simprocAttr,g8,hr1,ht1];refine key2 ((L.length+pre.length+1:Nat):Int) ((L.length+pre.length+1:Nat):Int) _ _ (by rw[if_pos k6];omega) (by rw[if_pos k6];omega) htmt (hxr.trans hxt) ?_ ?_ ?_ ?_<;>simp only[p6,↓reduceIte,Nat.reduceEqDiff,g0,g7,g13]
    ·have k6:=dr2 h6;simp only[n7,simprocAttr];refine key2 nx ar.loop _ _ (by rw[if_neg k6]) (by rw[if_neg k6]) htm9 (t8.refl _) ?_ ?_ ?_ ?_<;>simp only[p6,↓reduceIte,Nat.reduceEqDiff,g0,g7,g13]
   refine m8 (fun h6=>?_) (fun h6=>?_)
   ·have hne:¬(l.drop (k+1)).length=0:=by
     have:((k+1:Nat):Int)<(l.length:Nat):=by simpa using h6
     omega
    simp only[n7,simprocAttr,lT5];refine B2 (bm5 _ t sv w5 (ds5 _) (hsv.mono ?_) (by omega)) (fun w6 hx6=>?_)
    ·exact H9 (p9 hh2 (b7 hx3)) hmod35 hfree2
    have hlen:IntKind.i64.wrap (((L.length+pre.length+1:Nat):Int)+((V8 t:Nat):Int))=((L.length+pre.length:Nat):Int)+1+(V8 t:Nat):=by rw[K6 _ (by omega)];omega
    obtain⟨w7,k1,k2,k3⟩:=(htm5.mod (t8.up (M:=fun _=>False) hx6) id).setN (((L.length+pre.length:Nat):Int)+1+(V8 t:Nat));simp only[n7,n8,simprocAttr,hlen,k1];refine key _ _ _ (by rw[if_neg hne]) k2 ((t8.up hx6).trans k3) ?_ ?_ ?_ ?_ ?_ ?_<;>simp only[p6,↓reduceIte,Nat.reduceEqDiff,e0,e5,h13]
   ·have hz:(l.drop (k+1)).length=0:=by
     have:¬((k+1:Nat):Int)<(l.length:Nat):=by simpa using h6
     omega
    simp only[n7,simprocAttr];refine key _ _ _ (by rw[if_pos hz]) htm5 (t8.refl _) ?_ ?_ ?_ ?_ ?_ ?_<;>simp only[p6,↓reduceIte,Nat.reduceEqDiff,e0,e5,h13]
  ·have hge:k=l.length:=by simp at hc;omega
   subst hge;simp only[n7,simprocAttr];refine cA1 results121 ?_;rw[dA0]at hpre;simp only[C2,du2]at hpre;rw[hpre];exact⟨uL,hs2,(t8.up hx1).trans hx2,fun b hb=>(hmv2 b hb).imp id fun h=>dr7 hx1.size h⟩
mutual
def bA3:St→Int→Int→Bool→List Im
 | .mk id kind labels name proc x has args thn els,d,up,e=>⟨.mk id kind labels name proc x has args thn els,d,up,e⟩::(if d≤12 then G4 thn (d+1) id false++G4 els (d+1) id true else[])
def G4:List St→Int→Int→Bool→List Im
 | [],_,_,_=>[]
 | t::l,d,up,e=>bA3 t d up e++G4 l d up e
end
theorem cI2(t:St)(d up:Int)(e:Bool):bA3 t d up e=⟨t,d,up,e⟩::(if d≤12 then G4 t.thn (d+1) t.id false++G4 t.els (d+1) t.id true else[]):=by
 cases t;simp only[bA3,St.thn,St.els,St.id]
mutual
theorem cv8:∀(t:St) (d up:Int) (e:Bool),(bA3 t d up e).length≤V8 t
 | .mk id kind labels name proc x has args thn els,d,up,e=>by
  have h1:=an1 thn (d+1) id false;have h2:=an1 els (d+1) id true;simp only[bA3,V8];split<;>simp only[dt2,dr1,dx8]<;>omega
theorem an1:∀(l:List St) (d up:Int) (e:Bool),(G4 l d up e).length≤A5 l
 | [],_,_,_=>by simp[G4]
 | t::l,d,up,e=>by
  have h1:=cv8 t d up e;have h2:=an1 l d up e;simp only[G4,A5,dr1];omega
end
section
variable {P:Program} {Q:Exit→Fr→World→Prop} {K:Fr→World→Prop} {f:Fr} {w:World} {ops:Array Oper}
theorem cX2:CW P .skip Q f w=Q .normal f w:=propext dy2
theorem dg9{a b:Code}:CW P (.seq a b) Q f w=CW P a (W1 (CW P b Q) Q) f w:=propext dy2
theorem co5{c:Operand}{a b:Code}:CW P (.cond c a b) Q f w=aK0 (ev f c) (CW P a Q) (CW P b Q) f w:=propext dy2
theorem cV1{id:Nat}{a:Code}:CW P (.block id a) Q f w=CW P a (T0 id Q) f w:=propext dy2
theorem cX1{a:Code}:CW P (.loop a) Q f w=bX3 (CW P a) Q f w:=propext dy2
theorem cW9{id:Nat}:CW P (.region id ops true) Q f w=cp0 P ops (Q .normal) f w:=propext dy2
theorem cX0{id:Nat}:CW P (.exit id) Q f w=Q (.exit id) f w:=propext dy2
theorem dg8:CW P .ret Q f w=Q .ret f w:=propext dy2
theorem de0:W1 K Q .normal f w=K f w:=propext dy2
theorem de1:W1 K Q .ret f w=Q .ret f w:=propext dy2
theorem de2{i:Nat}:W1 K Q (.exit i) f w=Q (.exit i) f w:=propext dy2
theorem cV5{i:Nat}:T0 i Q .normal f w=Q .normal f w:=propext dy2
theorem cV6{i:Nat}:T0 i Q .ret f w=Q .ret f w:=propext dy2
theorem cV7{i j:Nat}:T0 i Q (.exit j) f w=if j=i then Q .normal f w else Q (.exit j) f w:=propext dy2
theorem cZ1{A B:Fr→World→Prop}:aK0 (.bool true) A B f w=A f w:=propext dy2
theorem cZ0{A B:Fr→World→Prop}:aK0 (.bool false) A B f w=B f w:=propext dy2
end
theorem bI1{P:Program}{c:Code}{Q:Exit→Fr→World→Prop}{f:Fr}{w:World}(keep:List Nat)(J:Fr→World→Prop)
  (h1:CW P c (W1 J Q) f w) (h2:∀f' w',(∀i∈keep,f' i=f i)→J f' w'→Q .normal f' w') (hkp:keep.all (fun i=>!(wrC c).contains i)=true:=by decide +kernel):CW P c Q f w:=by
 refine co6 c (W1 J Q) _ f w (fun e f' w' hf h=>?_) h1;have hk':∀i∈keep,f' i=f i:=fun i hi=>hf i fun hm=>by
  have:=dx6.1 hkp i hi;simp[hm]at this
 cases e
 case normal=>exact h2 f' w' hk' h
 all_goals exact h
def dq8:=@Bool.eq_false_or_eq_true
def du0:=@List.length_singleton
def i5:=zJ (zJ (zJ (zJ (zJ (zJ @dg9 @cX2) (zJ @co5 (zJ @cV1 @cX1))) (zJ (zJ @dg7 @cW9) (zJ @cX0 (zJ @dg8 @de0)))) (zJ (zJ (zJ @dd9 @de1) (zJ @de2 (zJ @cV5 @cV4))) (zJ (zJ @cV6 @cV7) (zJ @cZ1 (zJ @cZ0 @dh2))))) (zJ (zJ (zJ (zJ @dk6 @do4) (zJ @cW6 (zJ @dj6 @cW7))) (zJ (zJ @dj7 @dm8) (zJ @dp0 (zJ @cJ8 @db8)))) (zJ (zJ (zJ @cJ9 @db9) (zJ @dc0 (zJ @cT3 @cO5))) (zJ (zJ @cO4 @db7) (zJ @dn0 (zJ @dm9 @cT2)))))) (zJ (zJ (zJ (zJ (zJ @dn2 @dn1) (zJ @dj4 (zJ @cF0 @da9))) (zJ (zJ @dm4 @cJ6) (zJ @cW5 (zJ @cS8 @dl9)))) (zJ (zJ (zJ @dm5 @cW4) (zJ @dj3 (zJ @db1 @dj2))) (zJ (zJ @ev.eq_1 @ev.eq_2) (zJ @ev.eq_3 (zJ @ev.eq_4 @C4.eq_1))))) (zJ (zJ (zJ (zJ @C4.eq_2 @do2) (zJ @dm6 (zJ @dn4 @dn5))) (zJ (zJ @List.map_cons.{0,0} @List.map_nil.{0,0}) (zJ @List.map_toArray.{0,0} (zJ @bE1.eq_1 @bE1.eq_2)))) (zJ (zJ (zJ @cS0 @di4) (zJ @di5 (zJ @cv3.eq_1 @List.getElem?_toArray.{0}))) (zJ (zJ @List.getElem?_cons_zero.{0} (zJ @List.getElem?_cons_succ.{0} @Option.bind_some.{0,0})) (zJ @Option.some.injEq.{0} (zJ @dx4 @Bool.true_eq_false))))))
theorem cP3:E7 prog 54 57 16 232=true:=by kernel_rfl
theorem cr3{h:Hp}{v:Value}{t:St}(hv:SV h v t)(d up:Int)(e:Bool):∃u,B8 prog 57 [(0,v),(1,.int .i64 d),(2,.int .i64 up),(3,.bool e)]=some u∧SV h u (⟨t,d,up,e⟩:Im):=by
 obtain⟨cs,rfl,he⟩:=hv;have hl:cs.length=13:=A3.len he;obtain⟨a1,a2,a3,a4,a5,a6,a7,a8,a9,a10,a11,a12,a13,rfl⟩:=aE2 hl;refine⟨.agg #[a1,a2,a3,a4,a5,a6,a7,a8,a9,a10,a11,a12,a13,.int .i64 d,.int .i64 up,.bool e],?_,⟨_,rfl,⟨_,rfl,he⟩⟩⟩;simp[B8,cQ0,J5,Instr.fill,Value.cells]
theorem cn1:∀(m:Nat) (l:List St) (v vo:Value) (d up:Int) (e:Bool) (xs:List Im) (h:Hp) (w:World),A5 l≤m→R h v l→B0 h w 57 vo xs→B5 h (i4 w)→xs.length+A5 l≤200→0≤d→d≤13 →
  p7 prog 44 #[v,.int .i64 d,.int .i64 up,.bool e,vo] w fun u w'=>(B0 h w' 57 u (xs++G4 l d up e)∧t8 (A4 vo) w w'∧D7 w vo u):=by
 intro m
 induction m using Nat.strongRecOn with
 | ind m ih=>
 intro l v vo d up e xs h w hm0 hv ho hh hl hd0 hd;refine p8 [v,.int .i64 d,.int .i64 up,.bool e,vo] func44 rfl ?_;have hS:=hv.isS;have hn:=hv.vlen;have hll:l.length≤200:=by have:=Q8 l;omega
 simp only[i5,n8,simprocAttr];refine n9 [0,1,2,3] (σ:=Nat×Value×List Im) (fun s f w'=>f 11 = .int .i64 s.1∧f 4=s.2.1∧s.1≤l.length∧B0 h w' 57 s.2.1 (xs++s.2.2)∧t8 (A4 vo) w w'∧D7 w vo s.2.1 ∧
  G4 l d up e=s.2.2++G4 (l.drop s.1) d up e∧s.2.2.length+A5 (l.drop s.1)≤A5 l) (fun s=>l.length-s.1) (0,vo,[]) ?_ ?_
 ·simp only[p6,simprocAttr];exact⟨by trivial,by trivial,dr8 _,by simpa using ho,t8.refl _,fun b hb=>.inl hb,by simp,by simp⟩
 rintro⟨k,uL,pre⟩ f w2 hk ⟨h11,h4,hkl,ho2,hx2,hmv2,hpre,hcnt⟩;simp only at h11 h4 hkl ho2 hmv2 hpre hcnt;simp only[dq9,p6,simprocAttr]at hk;obtain⟨e0,e1,e2,e3,_⟩:=hk;have hSu:=ho2.isS;have hnu:=ho2.vlen;have hlu:(xs++pre).length≤200:=by rw[dr1];omega
 have h200:decide (((xs++pre).length:Int)≤200)=true:=by simp only[du7];omega
 rcases dq8 (decide ((k:Int)<(l.length:Int)))with hc|hc;rotate_left
 ·simp only[i5,n8,simprocAttr,h11,h4,e0,hS,hn,hc];refine o6 results44 ?_;simp only[p6,simprocAttr];have hkl':k=l.length:=by have:=dr2 hc;omega
  rw[hkl',dA0]at hpre;simp only[G4,du2]at hpre;exact⟨by rw[hpre];exact ho2,hx2,hmv2⟩
 have hlt:k<l.length:=by have:=dr0 hc;omega
 have hin:=hv.inS hlt;have hh2:B5 h (i4 w2):=H9 hh hx2 fun b hb=>ho.free hb;have hat:=hv.at_ (dq7 hlt);have hdrop:l.drop k=l[k]::l.drop (k+1):=du8 hlt;generalize l[k]=t at hat hdrop;rw[hdrop]at hpre hcnt;rw[A5]at hcnt;rw[G4,cI2]at hpre;have hsz:=aq8 t;have hz13:A3.sz St=13:=rfl;rw[hz13]at hat;obtain⟨sv,hsv,ldv,_⟩:=hat.st_v;obtain⟨vl,va,vt,ve,hvl,hva,hvt,hve,hax,ldf,sdf⟩:=hat.st;obtain⟨iu,hbi,hiu⟩:=cr3 hsv d up e;have ldw:=ldv w2 hh2;obtain⟨p1,uM,w3,p2,p3,p4,p5⟩:=push (e:=54) cP3 rfl ho2 (x:=iu) (y:=⟨t,d,up,e⟩) hiu.enc (by omega) (by omega) hh2;have hx3:t8 (A4 vo) w w3:=hx2.chain p4 fun b hb hu=>(hmv2 b hu).resolve_right (by omega);have hmv3:D7 w vo uM:=fun b hb=>by
  rcases p5 b hb with h1|h1
  ·exact hmv2 b h1
  ·have:=hx2.size;right;omega
 have hh3:B5 h (i4 w3):=H9 hh2 p4 fun b hb=>ho2.free hb;have hlp:(xs++pre++[(⟨t,d,up,e⟩:Im)]).length=xs.length+pre.length+1:=by simp only[dr1,du0]
 rcases dq8 (decide (d≤12))with h12|h12;rotate_left
 ·rw[if_neg (dr2 h12)]at hpre;simp only[i5,n8,z6,simprocAttr,h11,h4,e0,e1,e2,e3,hS,hn,hc,hSu,hnu,h200,hin,ldw,hbi,p1,p2,h12];refine⟨(k+1,uM,pre++[⟨t,d,up,e⟩]),by simp only[];omega,by simp only[];rw[A8 k (by omega)],by trivial,by simp only[];omega,by simpa using p3,hx3,hmv3,by simp only[];rw[hpre];simp,by simp only[dr1,du0];omega⟩
 ·have hd12:d≤12:=dr0 h12;rw[if_pos hd12]at hpre;have hwd:IntKind.i64.wrap (d+1)=d+1:=K6 _ (by omega);have hh3d:=p9 hh3 (b7 (o7.drew w3));have s3:=sdf (fun w'=>t8 (A4 uM) w3.drew w') w3.drew (t8.refl _) fun w' hm=>H9 hh3d hm fun b hb=>p3.free hb;obtain⟨t0,_,_,_,_,_,_,t7,_⟩:=s3;simp only[i5,n8,z6,simprocAttr,h11,h4,e0,e1,e2,e3,hS,hn,hc,hSu,hnu,h200,hin,ldw,hbi,p1,p2,h12];refine C0 (fun w'=>t8 (A4 uM) w3.drew w') 15 (A9 [0,1,2,3,4,5,6,7,8,9,10,11,12,13,14]) ?_;simp only[D2,A9,i5,n8,z6,simprocAttr,h11,e0,e1,hin,hwd,t0,t7];have hl4:(xs++pre++[(⟨t,d,up,e⟩:Im)]).length+A5 t.thn≤200:=by omega
  refine z7 (ih (A5 t.thn) (by omega) t.thn vt uM (d+1) t.id false (xs++pre++[⟨t,d,up,e⟩]) h w3.drew (ds5 _) hvt (by rw[dt4,←dt4];exact p3.ext (o7.drew w3)) hh3d hl4 (by omega) (by omega)) ?_;rintro u4 w4 ⟨ho4,hm4,hmv4⟩;refine⟨hm4,?_⟩;have hxd3:t8 (A4 vo) w w3.drew:=hx3.trans (t8.up (o7.drew w3));have hsz03:w.heap.size≤w3.drew.heap.size:=hxd3.size;have hx4:t8 (A4 vo) w w4:=hxd3.chain hm4 fun b hb hu=>(hmv3 b hu).resolve_right (by omega);have hmv4':D7 w vo u4:=fun b hb=>by
   rcases hmv4 b hb with h1|h1
   ·exact hmv3 b h1
   ·right;omega
  have hh4:B5 h (i4 w4):=H9 hh3d hm4 fun b hb=>p3.free hb;have hh4d:=p9 hh4 (b7 (o7.drew w4));have s4:=sdf (fun w'=>t8 (A4 u4) w4.drew w') w4.drew (t8.refl _) fun w' hm=>H9 hh4d hm fun b hb=>ho4.free hb;obtain⟨y0,_,_,_,_,_,_,_,y8⟩:=s4;have hthn:=an1 t.thn (d+1) t.id false;have hl5:(xs++pre++[(⟨t,d,up,e⟩:Im)]++G4 t.thn (d+1) t.id false).length+A5 t.els≤200:=by rw[dr1];omega
  simp only[D2,i5,simprocAttr];refine C0 (fun w'=>t8 (A4 u4) w4.drew w') 15 (A9 [0,1,2,3,4,5,6,7,8,9,10,11,12,13,14]) ?_;simp only[D2,A9,i5,n8,z6,simprocAttr,h11,e0,e1,hin,hwd,y0,y8];refine z7 (ih (A5 t.els) (by omega) t.els ve u4 (d+1) t.id true (xs++pre++[⟨t,d,up,e⟩]++G4 t.thn (d+1) t.id false) h w4.drew (ds5 _) hve (ho4.ext (o7.drew w4)) hh4d hl5 (by omega) (by omega)) ?_;rintro u5 w5 ⟨ho5,hm5,hmv5⟩;refine⟨hm5,?_⟩;have hxd4:t8 (A4 vo) w w4.drew:=hx4.trans (t8.up (o7.drew w4));have hsz04:w.heap.size≤w4.drew.heap.size:=hxd4.size;have hx5:t8 (A4 vo) w w5:=hxd4.chain hm5 fun b hb hu=>(hmv4' b hu).resolve_right (by omega);have hmv5':D7 w vo u5:=fun b hb=>by
   rcases hmv5 b hb with h1|h1
   ·exact hmv4' b h1
   ·right;omega
  have hels:=an1 t.els (d+1) t.id true;simp only[D2,i5,n8,simprocAttr,h11];refine⟨(k+1,u5,pre++(⟨t,d,up,e⟩::(G4 t.thn (d+1) t.id false++G4 t.els (d+1) t.id true))),by simp only[];omega,by simp only[];rw[A8 k (by omega)],by trivial,by simp only[];omega,by simpa using ho5,hx5,hmv5',by simp only[];rw[hpre];simp,by simp only[dr1,dt2];omega⟩
theorem aV9(h:Hp)(v:Value)(q:Pr)(w:World)(hv:SV h v q)(hh:B5 h (i4 w))(hb:A5 q.body≤200):
  p7 prog 21 #[v] w fun u w'=>(B0 h w' 57 u (G4 q.body 1 0 false)∧(∀b,A4 u b→w.heap.size≤b)∧o7 w w'):=by
 refine p8 [v] func21 rfl ?_;obtain⟨a,w1,hbx,hx1,hat⟩:=bY8 (w:=w) (fun _=>False) hv (fun _ h=>h.elim);obtain⟨v1,v2,v3,v4,_,_,hvb,_,ld,_⟩:=I2.pr hv hat;have l1:=ld w1 (B3 _ _);simp only[i5,n8,simprocAttr,hbx,l1];refine z7 (cn1 (A5 q.body) q.body v3 (.slice none 0 0) 1 0 false [] h w1 (ds5 _) hvb (B0.nil _ _ _) (p9 hh (b7 hx1)) (by simpa using hb) (by omega) (by omega)) ?_;rintro u w2 ⟨ho,hm,hmv⟩;simp only[i5,simprocAttr];refine o6 results21 ?_;simp only[p6,simprocAttr];exact⟨by simpa using ho,fun b hb=>(hmv b hb).elim (fun h=>absurd h C6) fun h=>dr7 hx1.size h,hx1.trans (hm.weaken fun _ _ h=>absurd h C6)⟩
def du9:=@decide_eq_true
def stZ:St:=.mk 0 0 [] e0 e0 (.mk 0 0 e0 []) false [] [] []
def imZ:Im:=⟨stZ,0,0,false⟩
def ap3(l:List Im)(id:Int):Option Im:=l.find? fun x=>decide (x.s.id=id)
def bt3(p:Pg)(id:Int):Option Im:=p.procs.findSome? fun q=>ap3 (G4 q.body 1 0 false) id
def al0(p:Pg)(id:Int):St:=((bt3 p id).getD imZ).s
theorem bQ6{l:List Im}{id:Int}{k:Nat}(h:k<l.length)(hn:ap3 (l.take k) id=none)(hd:l[k].s.id=id):ap3 l id=some l[k]:=by
 have e:l=l.take k++l[k]::l.drop (k+1):=by rw[←du8 h,dv5]
 unfold ap3 at hn ⊢;generalize hx:l[k]=x at e hd;rw[e,List.find?_append,hn,List.find?_cons,du9 hd];rfl
theorem bQ5{l:List Im}{id:Int}{k:Nat}(h:k<l.length)(hn:ap3 (l.take k) id=none)(hd:l[k].s.id≠id):ap3 (l.take (k+1)) id=none:=by
 unfold ap3 at hn ⊢;rw[dr6 h,List.find?_append,hn,List.find?_cons,du3 hd];rfl
theorem bQ4{p:Pg}{id:Int}{k:Nat}{x:Im}(h:k<p.procs.length)(hn:(p.procs.take k).findSome? (fun q=>ap3 (G4 q.body 1 0 false) id)=none)(hx:ap3 (G4 p.procs[k].body 1 0 false) id=some x):bt3 p id=some x:=by
 have e:p.procs=p.procs.take k++p.procs[k]::p.procs.drop (k+1):=by rw[←du8 h,dv5]
 unfold bt3;generalize hy:p.procs[k]=q at e hx;rw[e,List.findSome?_append,hn,List.findSome?_cons,hx];rfl
theorem bQ3{p:Pg}{id:Int}{k:Nat}(h:k<p.procs.length)(hn:(p.procs.take k).findSome? (fun q=>ap3 (G4 q.body 1 0 false) id)=none)(hx:ap3 (G4 p.procs[k].body 1 0 false) id=none):(p.procs.take (k+1)).findSome? (fun q=>ap3 (G4 q.body 1 0 false) id)=none:=by
 rw[dr6 h,List.findSome?_append,hn,List.findSome?_cons,hx];rfl
def aJ5(h:Hp)(w w':World):Hp:=fun b=>if b<w.heap.size then h b else w'.heap[b]?
section
variable {h:Hp} {w w':World}
theorem bH4{b:Nat}(hb:w.heap.size≤b):aJ5 h w w' b=w'.heap[b]?:=by unfold aJ5;rw[if_neg (by omega)]
theorem aU8(hh:B5 h (i4 w)):B5 h (aJ5 h w w'):=fun b o e=>by
 have hb:b<w.heap.size:=(dr3.1 (show w.heap[b]?=some o from hh b o e)).1;unfold aJ5;rw[if_pos hb];exact e
theorem bA2(hh:B5 h (i4 w))(hx:o7 w w'):B5 (aJ5 h w w') (i4 w'):=fun b o e=>by
 unfold aJ5 at e;split at e
 ·exact b7 hx b o (hh b o e)
 ·exact e
theorem ca7(hh:B5 h (i4 w))(hx:o7 w w'){N:Nat→Prop}(hN:∀b,N b→b<w.heap.size∧h b=none):B5 (aJ5 h w w') (B7 w' N):=fun b o e=>by
 have hn:¬N b:=fun hb=>by
  unfold aJ5 at e;rw[if_pos (hN b hb).1,(hN b hb).2]at e;cases e
 rw[D3 hn];exact bA2 hh hx b o e
end
theorem cc9{P:Program}{fn:Func}{R:Value→World→Prop}{f:Fr}{w:World}{v:Value}{a t s:Nat}{ty:TypeId}{ad:Addr}(h:fn.results=#[.cell a ty,.tmp t,.tmp s])(hf:f a = .pointer (some ad))(hl:(Instr.loadAt ty (.pointer (some ad))).run P w = .ok v w)(hR:R (.tuple #[v,f t,f s]) w):aJ3 P fn R .ret f w:=by
 refine⟨[v,f t,f s],?_,hR⟩;rw[h];refine⟨?_,rfl,rfl,trivial⟩;show(do loadVar ty (←asAddr (f a)):Sem Value).run P w = .ok v w;rw[hf];exact hl
def ah8:Array Value:=#[.int .i64 0,.int .i64 0,.slice none 0 0,o9 e0,o9 e0,.int .i64 0,.int .i64 0,o9 e0,.slice none 0 0,.bool false,.slice none 0 0,.slice none 0 0,.slice none 0 0,.int .i64 0,.int .i64 0,.bool false]
theorem cf0:G0 prog 57=some (.agg ah8):=cQ3
theorem cg8:B8 prog 57 []=some (.agg ah8):=by
 have h:=cf0
 first
 | (simp[B8,cQ0,J5,Instr.fill];done)
 | rfl
theorem cT7(h:Hp):SV h (.agg ah8) imZ:=
 ⟨_,rfl,_,rfl,aU4.2 ⟨.slice none 0 0,[.int .i64 0,.int .i64 0,o9 e0,.slice none 0 0],.slice none 0 0,.slice none 0 0,.slice none 0 0,rfl,aB4 _,bh4.2 ⟨_,rfl,aB4 _⟩,aB4 _,aB4 _,aB4 _⟩⟩
theorem ca8{h:Hp}{w w4 w5 w8:World}{M:Nat→Prop}(hh:B5 h (i4 w))(hsz:w.heap.size≤w4.heap.size)(hm:t8 M w5 w8)(hM:∀b,M b→b<w4.heap.size):B5 (aJ5 h w4 w5) (aJ5 h w w8):=fun b o e=>by
 unfold aJ5 at e ⊢;split at e
 ·have hb:b<w.heap.size:=(dr3.1 (show w.heap[b]?=some o from hh b o e)).1;rw[if_pos hb];exact e
 ·have hb5:b<w5.heap.size:=(dr3.1 e).1;rw[if_neg (by omega),hm.block b hb5 fun h=>by have:=hM b h;omega];exact e
theorem cp1(h:Hp)(v:Value)(p:Pg)(id:Int)(w:World)(hv:SV h v p)(hh:B5 h (i4 w))(hb:∀q∈p.procs,A5 q.body≤200)(hpn:p.procs.length≤1000000):
  p7 prog 41 #[v,.int .i64 id] w fun u w'=>(∃iv nv bv,u = .tuple #[iv,nv,bv]∧SV (aJ5 h w w') iv ((bt3 p id).getD imZ)∧o7 w w'):=by
 refine p8 [v,.int .i64 id] func41 rfl ?_;obtain⟨c,w1,hbx,hx1,hatp⟩:=W7 (w:=w) (fun _=>False) hv (fun _ h=>h.elim);obtain⟨vg,vp,hvg,hvp,ldp,_⟩:=I2.pg hv hatp;have hS:=hvp.isS;have hn:=hvp.vlen;have hz:=cf0;obtain⟨hal,_⟩:=aJ7 (P:=prog) (w:=w1) (T:=57) hz (by rw[ar1];rfl) (cs:=ah8) (by rw[ar1];rfl) (by simp[ah8,o9,Value.oneCell']);have hx2:=o7.alloc w1 (.cells (Value.agg ah8).cells 57);have hc2:=dv4 w1 (.cells (Value.agg ah8).cells 57);generalize hw2:w1.alloc (.cells (Value.agg ah8).cells 57)=w2 at hal hx2 hc2;have l2:=ldp w2 (p9 (B3 _ _) (b7 hx2));have hrb:w1.heap.size<w2.heap.size:=(dr3.1 hc2).1;generalize hrbe:w1.heap.size=rb at hal hc2 hrb;simp only[i5,n8,simprocAttr,hbx,hal,l2,hS,hn];refine n9 [1,4,12,13] (σ:=Nat) (fun k f w'=>f 14 = .int .i64 k∧k≤p.procs.length∧(p.procs.take k).findSome? (fun q=>ap3 (G4 q.body 1 0 false) id)=none∧o7 w2 w') (fun k=>p.procs.length-k) 0 ?_ ?_
 ·simp only[p6,simprocAttr];exact⟨by trivial,dr8 _,by simp,t8.refl _⟩
 rintro k f w3 hk ⟨h14,hkl,hno,hx3⟩;simp only[dq9,p6,simprocAttr]at hk;obtain⟨e1,e4,e12,e13,_⟩:=hk;simp only[i5,n8,simprocAttr,h14,e13];refine m8 (fun hc=>?_) (fun hc=>?_);rotate_left
 ·have hkL:k=p.procs.length:=by simp at hc;omega
  have hc3:=(hx3.block rb hrb (fun h=>h)).trans hc2;obtain⟨w4,q1,q2,q3⟩:=Z7 (P:=prog) (T:=57) (cs:=ah8) hc3 hz (by rw[ar1];rfl) (by rw[ar1];rfl) (by simp[ah8,o9,Value.oneCell']);rw[hkL,ds2]at hno;simp only[i5,simprocAttr,e4,cg8,q1];refine cc9 results41 (ad:=⟨rb,0,none⟩) (by simp only[p6,simprocAttr];exact e4) (S9 q2 bN0 bN3 bw8 (by rw[ar1];rfl)) ?_;refine⟨_,_,_,rfl,?_,?_⟩
  ·unfold bt3;rw[hno];exact cT7 _
  ·exact t8.ext_of (hx1.trans (hx2.trans hx3)) q3 fun b hb=>by have:=hx1.size;omega
 have hlt:k<p.procs.length:=by simpa using hc
 have hh3:B5 h (i4 w3):=p9 hh (b7 (hx1.trans (hx2.trans hx3)));have hin:=hvp.inS hlt;obtain⟨sv,hsv,hld⟩:=E4 (P:=prog) (t:=51) hvp (hh3) (dq7 hlt) ae2 ae5 ac8 I4;rw[I4]at hld;have hbq:=hb _ (dr5 hlt);have hfp:=fun x=>bQ4 (p:=p) (id:=id) (x:=x) hlt hno;have hfs:=bQ3 hlt hno;generalize p.procs[k]=q at hsv hbq hfp hfs;have hrb3:rb<w3.heap.size:=dw9 hrb hx3.size;obtain⟨d,wz,w4,hald,hst,hx4,hat⟩:=am3 (w:=w3) (fun b=>b=rb) hsv fun b hb=>by omega
 obtain⟨ldq,_⟩:=I2.pr_v hsv hat;have lq:=ldq w4 (B3 _ _);have hx14:=(hx2.trans hx3).trans hx4;simp only[i5,n8,z6,simprocAttr,h14,e12,hin,hld,hald,hst,lq];have hh4:B5 h (i4 w4):=p9 hh (b7 (hx1.trans hx14));refine z7 (aV9 h sv q w4 hsv hh4 hbq) ?_;rintro u w5 ⟨ho,hfr,hx5⟩;have hl2:=an1 q.body 1 0 false;generalize G4 q.body 1 0 false=l at ho hfp hfs hl2;have hrb4:rb<w4.heap.size:=dw9 hrb3 hx4.size;have hR:R (aJ5 h w4 w5) u l:=ho.ro (aU8 hh4) fun b hb=>bH4 (hfr b hb);have hSu:=hR.isS;have hnu:=hR.vlen;simp only[i5,n8,simprocAttr,hSu,hnu];refine n9 [1,4,8,12,13,14,19,20] (σ:=Nat) (fun j f w'=>f 21 = .int .i64 j∧j≤l.length∧ap3 (l.take j) id=none∧o7 w5 w') (fun j=>l.length-j) 0 ?_ ?_
 ·simp only[p6,simprocAttr];exact⟨by trivial,dr8 _,rfl,t8.refl _⟩
 rintro j f2 w6 hk ⟨h21,hjl,hnj,hx6⟩;simp only[dq9,p6,simprocAttr]at hk;obtain⟨g1,g4,g8,g12,g13,g14,g19,g20,_⟩:=hk;rw[e1]at g1;rw[e4]at g4;rw[e12]at g12;rw[e13]at g13;rw[h14]at g14;have hll:l.length≤1000000000:=by omega
 simp only[i5,n8,simprocAttr,h21,g20];refine m8 (fun hc=>?_) (fun hc=>?_);rotate_left
 ·have hjL:j=l.length:=by simp at hc;omega
  rw[hjL,ds2]at hnj;simp only[i5,n8,simprocAttr,g14];exact⟨k+1,by omega,by rw[A8 k (by omega)],by omega,hfs hnj,hx3.trans (hx4.trans (hx5.trans hx6))⟩
 have hltj:j<l.length:=by simpa using hc
 have hsv0:=hsv;clear hsv hin hld;have hin:=hR.inS hltj;obtain⟨sv,hsv,hld⟩:=E4 (P:=prog) (t:=57) hR (p9 (bA2 hh4 hx5) (b7 hx6)) (dq7 hltj) bN0 bN3 bw8 ar1;rw[ar1]at hld;have hft:=bQ6 (id:=id) hltj hnj;have hfj:=bQ5 (id:=id) hltj hnj;generalize l[j]=x at hsv hft hfj;have hsv2:=hsv;have hrb6:rb<w6.heap.size:=by have:=hx4.size;have:=hx5.size;have:=hx6.size;omega
 obtain⟨d2,wz2,w7,hal2,hst2,hx7,hat2⟩:=bD0 (w:=w6) (fun b=>b=rb) hsv2 fun b hb=>by omega
 obtain⟨us,hus,hats,_,_⟩:=I2.im hsv2 hat2;obtain⟨_,_,_,_,_,_,_,_,_,_,_,ldid,_⟩:=I2.st hus hats;have l7:=(ldid w7 (B3 _ _)).1;rcases dq8 (decide (x.s.id=id))with hd|hd;rotate_left
 ·simp only[i5,n8,z6,simprocAttr,h21,g19,hin,hld,hal2,hst2,l7,g1,hd];exact⟨j+1,by omega,by rw[A8 j (by omega)],by omega,hfj (dr2 hd),hx6.trans hx7⟩
 ·simp only[i5,n8,z6,simprocAttr,h21,g19,hin,hld,hal2,hst2,l7,g1,hd];have hx37:o7 w4 w7.drew:=hx5.trans (hx6.trans (hx7.trans (o7.drew w7)));have hc7:=(((hx3.trans hx4).trans hx37).block rb hrb (fun h=>h)).trans hc2;obtain⟨_,_,_,_,_,_,_,_,_,sdq⟩:=I2.pr hsv0 hat;obtain⟨_,sdi⟩:=I2.im_v hsv2 hat2;have s1:=sdq (fun w'=>t8 (fun b=>b=rb) w7.drew w') w7.drew (t8.refl _) fun w' hm=>C8 ((t8.up hx37).trans hm);have s2:=sdi (fun w'=>t8 (fun b=>b=rb) w7.drew w') w7.drew (t8.refl _) fun w' hm=>C8 ((t8.up (o7.drew w7)).trans hm);refine C0 (fun w'=>t8 (fun b=>b=rb) w7.drew w') 6 (A9 [0,1,2,3,4,5]) ?_;obtain⟨cs,rfl,he⟩:=hsv2;have hcl:cs.length=16:=A3.len he;obtain⟨w8,q1,q2,q3⟩:=Z7 (P:=prog) (T:=57) (cs:=cs.toArray) hc7 hz (by rw[ar1];rfl) (by rw[ar1];simpa using hcl) (fun u hu=>A3.one he u (by simpa using hu));simp only[D2,A9,i5,n8,simprocAttr,g8,g4,s1,s2,q1,F1];refine⟨q3,?_⟩;refine cc9 results41 (ad:=⟨rb,0,none⟩) (by simp only[p6,simprocAttr];exact g4) (S9 q2 bN0 bN3 bw8 (by rw[ar1];simpa using hcl.symm)) ?_;have hx7f:o7 w5 w7.drew:=hx6.trans (hx7.trans (o7.drew w7));refine⟨_,_,_,rfl,?_,?_⟩
  ·rw[hfp _ (hft (dr0 hd))];exact⟨cs,rfl,A3.mono (ca8 hh (hx1.trans hx14).size ((t8.up hx7f).trans q3) fun b hb=>by omega) he⟩
  ·exact t8.ext_of (hx1.trans (hx2.trans ((hx3.trans hx4).trans hx37))) q3 fun b hb=>by have:=hx1.size;omega
def aI3:Array Value:=#[.int .i64 0,.int .i64 0,.slice none 0 0,o9 e0,o9 e0,.int .i64 0,.int .i64 0,o9 e0,.slice none 0 0,.bool false,.slice none 0 0,.slice none 0 0,.slice none 0 0]
theorem cM7:G0 prog 45=some (.agg aI3):=ce3
theorem bh8{h:Hp}{v:Value}{s:St}(hv:SV h v s):aD0 prog 45 1 v=some (.int .i64 s.kind):=by
 obtain⟨cs,rfl,he⟩:=hv;obtain⟨vl,cx,va,vt,ve,rfl,_⟩:=aU4.1 he;have h1:B9 prog 45 1=some (1,3):=by kernel_rfl
 have h2:H6 prog 3=false:=by kernel_rfl
 simp[aD0,h1,bv4,h2]
theorem aN9(v:Value)(p:Pg)(id:Int)(w:World)(hv:SV (i4 w) v p)(hb:∀q∈p.procs,A5 q.body≤200)(hpn:p.procs.length≤1000000):
  p7 prog 16 #[v,.int .i64 id] w fun u w'=>(SV (i4 w') u (al0 p id)∧o7 w w'):=by
 refine p8 [v,.int .i64 id] func16 rfl ?_;obtain⟨c,w1,hbx,hx1,hatp⟩:=W7 (w:=w) (fun _=>False) hv (fun _ h=>h.elim);have ldp:=(I2.pg_v hv hatp).1;have hz:=cM7;obtain⟨hal,_⟩:=aJ7 (P:=prog) (w:=w1) (T:=45) hz (by rw[Y1];rfl) (cs:=aI3) (by rw[Y1];rfl) (by simp[aI3,o9,Value.oneCell']);have hx2:=o7.alloc w1 (.cells (Value.agg aI3).cells 45);have hc2:=dv4 w1 (.cells (Value.agg aI3).cells 45);generalize hw2:w1.alloc (.cells (Value.agg aI3).cells 45)=w2 at hal hx2 hc2;have l2:=ldp w2 (p9 (B3 _ _) (b7 hx2));have hrb:w1.heap.size<w2.heap.size:=(dr3.1 hc2).1;have hsz1:=hx1.size;generalize hrbe:w1.heap.size=rb at hal hc2 hrb hsz1;simp only[i5,n8,simprocAttr,hbx,hal,l2];refine z7 (cp1 (i4 w) v p id w2 hv (b7 (hx1.trans hx2)) hb hpn) ?_;rintro _ w3 ⟨iv,nv,bv,rfl,hsv,hx3⟩;have hrb3:rb<w3.heap.size:=dw9 hrb hx3.size;obtain⟨d,wz,w4,hald,hst,hx4,hat⟩:=bD0 (w:=w3) (fun b=>b=rb) hsv fun b hb=>by omega
 obtain⟨us,hus,hats,_,_⟩:=I2.im hsv hat;have l4:=(I2.st_v hus hats).1 w4 (B3 _ _);have hx24:=hx3.trans hx4;have hc4:=(hx24.block rb hrb (fun h=>h)).trans hc2;obtain⟨cs,rfl,he⟩:=hus;have hcl:cs.length=13:=A3.len he;obtain⟨w5,q1,q2,q3⟩:=Z7 (P:=prog) (T:=45) (cs:=cs.toArray) hc4 hz (by rw[Y1];rfl) (by rw[Y1];simpa using hcl) (fun u hu=>A3.one he u (by simpa using hu));have hx05:o7 w w5:=t8.ext_of (hx1.trans (hx2.trans hx24)) q3 fun b hb=>by omega
 simp only[i5,n8,simprocAttr,hald,hst,l4,q1];refine L6 results16 (ad:=⟨rb,0,none⟩) (by simp only[p6,simprocAttr]) (S9 q2 bc7 bd0 aK7 (by rw[Y1];simpa using hcl.symm)) ?_;refine⟨⟨cs,rfl,A3.mono ?_ he⟩,hx05⟩;exact p9 (ca8 (d7 _) (hx1.trans hx2).size ((t8.up hx4).trans q3) fun b hb=>by omega) (bA2 (d7 _) hx05)
theorem aM6:∀(l m:List Pr) (s:Sh) (i:Nat),F4 s i (l++m)=F4 (F4 s i l) (i+l.length) m
 | [],m,s,i=>by simp[F4]
 | f::l,m,s,i=>by simp only[dC0,F4,aM6 l m,dt2];congr 1;omega
theorem bL2(l:List Pr)(s:Sh){k:Nat}(hk:k<l.length):F4 s 0 (l.take (k+1))=E6 (F4 s 0 (l.take k)) k l[k]:=by
 rw[dr6 hk,aM6,ds3,dy0 (Nat.le_of_lt hk)];simp only[F4,du4]
theorem aR9:∀(l:List Pr) (s:Sh) (i:Nat),(F4 s i l).p=s.p
 | [],s,i=>rfl
 | f::l,s,i=>by rw[F4,aR9 l];rfl
theorem ay6:∀(l:List Pr) (s:Sh) (i:Nat),(F4 s i l).l.length=s.l.length+(l.map fun f=>A5 f.body).sum
 | [],s,i=>by simp[F4]
 | f::l,s,i=>by
  rw[F4,ay6 l];simp only[E6,dr1,F7,dv6,dB6];omega
theorem aW6:∀(l:List Pr) (s:Sh) (i:Nat),(F4 s i l).lo.length=s.lo.length+l.length∧(F4 s i l).hi.length=s.hi.length+l.length
 | [],s,i=>by simp[F4]
 | f::l,s,i=>by
  obtain⟨h1,h2⟩:=aW6 l (E6 s i f) (i+1);have e1:(E6 s i f).lo.length=s.lo.length+1:=by simp[E6]
  have e2:(E6 s i f).hi.length=s.hi.length+1:=by simp[E6]
  rw[F4,dt2];exact⟨by omega,by omega⟩
theorem cr6(vg vp:Value):B8 prog 114 [(0,.agg (List.toArray [vg,vp]))]=some (.agg #[vg,vp,.slice none 0 0,.slice none 0 0,.slice none 0 0]):=by
 simp[B8,cT9,J5,Instr.fill,Value.cells]
theorem cR2(w:World)(vg vp:Value):∃gb w',(Instr.box 114 (.agg #[vg,vp,.slice none 0 0,.slice none 0 0,.slice none 0 0])).run prog w = .ok (.pointer (some ⟨gb,0,none⟩)) w'∧o7 w w'∧w'.heap[gb]?=some (.cells #[vg,vp,.slice none 0 0,.slice none 0 0,.slice none 0 0] 114 (0,0))∧w.heap.size≤gb:=
 ⟨_,_,rfl,o7.alloc _ _,dv4 w _,ds5 _⟩
theorem ShS.at_{h:Hp}{w:World}{gb:Nat}{vg vp vL vLo vHi:Value}{L:List It}{lo hi:List Int}{p:Pg}(s:ShS h w gb vg vp vL vLo vHi L lo hi)(hh:B5 h (i4 w))(hg:R h vg p.globals)(hp:R h vp p.procs):At (i4 w) ⟨gb,0,none⟩ (⟨p,L,lo,hi⟩:Sh):=by
 refine⟨[vg,vp,vL,vLo,vHi],⟨[vg,vp],vL,vLo,vHi,rfl,⟨vg,vp,rfl,A3.mono hh hg,A3.mono hh hp⟩,s.oL.rw_ hh,s.oLo.rw_ hh,s.oHi.rw_ hh⟩,fun j u hj=>?_⟩;rw[←al4,add_lit,du4,dy8 w gb j _ 114 (0,0) s.cell];simpa using hj
theorem ab4(h:Hp)(v:Value)(p:Pg)(w:World)(hv:SV h v p)(hh:B5 h (i4 w))(hwt:D1 p≤1000000):p7 prog 72 #[v] w fun u w'=>(∃gb vg vp vL vLo vHi,u = .pointer (some ⟨gb,0,none⟩)∧ShS h w' gb vg vp vL vLo vHi (b9 p).l (b9 p).lo (b9 p).hi∧R h vg p.globals∧R h vp p.procs∧w.heap.size≤gb∧(∀b,(A4 vL b∨A4 vLo b∨A4 vHi b)→w.heap.size≤b)∧o7 w w'):=by
 refine p8 [v] func72 rfl ?_;obtain⟨a,w1,hbx,hx1,ha⟩:=W7 (w:=w) (fun _=>False) hv (fun _ h=>h.elim);obtain⟨vg,vp,hg,hp,ld,_⟩:=I2.pg hv ha;obtain⟨lw,_⟩:=I2.pg_v hv ha;have hv':v = .agg (List.toArray [vg,vp]):=by
  obtain⟨cs,rfl,he⟩:=hv;obtain⟨u1,u2,rfl,h1,h2⟩:=bz4 he;obtain⟨cs2,e2,hc⟩:=ha;obtain rfl:=ah3 e2;have l0:=(ld w1 (B3 _ _)).1;have l1:=(ld w1 (B3 _ _)).2;have k0:(Instr.loadAt 22 (.pointer (some a))).run prog w1 = .ok u1 w1:=E0 (h:=B7 w1 fun _=>False) hc rfl N0 w1 (B3 _ _);have k1:(Instr.loadAt 23 (.pointer (some (a.add 1)))).run prog w1 = .ok u2 w1:=v8 (h:=B7 w1 fun _=>False) hc (o:=1) rfl bM8 w1 (B3 _ _);have e0:=l0.symm.trans k0;have e1:=l1.symm.trans k1;simp only[Result.ok.injEq,and_true]at e0 e1;subst e0;subst e1;rfl
 have lw1:=lw w1 (B3 _ _);have hh1:B5 h (i4 w1):=p9 hh (b7 hx1);have hSp:=hp.isS;have hnp:=hp.vlen;have hwp:=ac9 p.procs;have hcp:=be4 p.procs;unfold D1 at hwt;obtain⟨gb,w2,hb2,hx2,hc2,hge2⟩:=cR2 w1 vg vp;have l2:=ld w2 (p9 (B3 _ _) (b7 hx2));have hs2:ShS h w2 gb vg vp (.slice none 0 0) (.slice none 0 0) (.slice none 0 0) [] [] []:=⟨ax2 hh1 hge2,hc2,B0.nil _ _ _,B0.nil _ _ _,B0.nil _ _ _,fun b hb=>absurd hb C6,fun b hb=>absurd hb C6,fun b hb=>absurd hb C6⟩;rw[hv']at lw1;simp only[n7,n8,simprocAttr,hbx,lw1,cr6,hb2,l2,hSp,hnp];refine n9 [3,10,11] (σ:=Nat×Value×Value×Value) (fun s f w'=>f 12 = .int .i64 s.1∧s.1≤p.procs.length∧ShS h w' gb vg vp s.2.1 s.2.2.1 s.2.2.2 (F4 ⟨p,[],[],[]⟩ 0 (p.procs.take s.1)).l (F4 ⟨p,[],[],[]⟩ 0 (p.procs.take s.1)).lo (F4 ⟨p,[],[],[]⟩ 0 (p.procs.take s.1)).hi∧o7 w1 w'∧(∀b,(A4 s.2.1 b∨A4 s.2.2.1 b∨A4 s.2.2.2 b)→w1.heap.size≤b)) (fun s=>p.procs.length-s.1) (0,.slice none 0 0,.slice none 0 0,.slice none 0 0) ?_ ?_
 ·simp only[p6,simprocAttr];exact⟨by trivial,dr8 _,by simpa[F4]using hs2,hx2,fun b hb=>by rcases hb with h|h|h<;>exact absurd h C6⟩
 ·rintro⟨k,vL,vLo,vHi⟩ f w3 hk ⟨h12,hkl,hs3,hx3,hge⟩;simp only at h12 hkl hs3 hge;simp only[dq9,p6,simprocAttr]at hk;obtain⟨e3,e10,e11,_⟩:=hk;simp only[n7,n8,simprocAttr,h12,e11];refine m8 (fun hc=>?_) (fun hc=>?_)
  ·have hlt:k<p.procs.length:=by simpa using hc
   have hp1:R h vp p.procs:=hp;have hin:=hp.inS hlt;obtain⟨sv,hsv,hld⟩:=E4 (P:=prog) (t:=51) hp1 (p9 hh1 (b7 hx3)) (dq7 hlt) ae2 ae5 ac8 I4;rw[I4]at hld;have hstep:=bL2 p.procs ⟨p,[],[],[]⟩ hlt;have hlen:=ay6 (p.procs.take k) ⟨p,[],[],[]⟩ 0;have hlen2:=ay6 (p.procs.take (k+1)) ⟨p,[],[],[]⟩ 0;have hlo:=aW6 (p.procs.take k) ⟨p,[],[],[]⟩ 0;have hsum:((p.procs.take (k+1)).map fun f=>A5 f.body).sum≤(p.procs.map fun f=>A5 f.body).sum:=by
    conv=>rhs;rw[←dv5 (k+1) p.procs,du1,List.sum_append]
    omega
   rw[hstep]at hlen2;have hwm:=ah1 (dr5 hlt);rw[ds3,dy0 hkl]at hlo;generalize hG:F4 ⟨p,[],[],[]⟩ 0 (p.procs.take k)=G at hs3 hlen hlo hstep hlen2;generalize p.procs[k]=q at hsv hstep hwm hlen2;simp only[E6,dr1,F7,dx8,du4]at hlen hlen2 hlo;obtain⟨b,wz,w4,hal,hst,hx4,hat⟩:=am3 (w:=w3) (fun b=>b=gb∨A4 vL b∨A4 vLo b∨A4 vHi b) hsv (fun b hb=>by
    rcases hb with rfl|hb|hb|hb
    ·exact hs3.lt
    ·exact hs3.oL.lt hb
    ·exact hs3.oLo.lt hb
    ·exact hs3.oHi.lt hb)
   obtain⟨_,_,vb,_,_,_,hvb,_,ldq,_⟩:=I2.pr hsv hat;have hs4:=hs3.ext hx4;have hs4d:=hs4.ext (o7.drew w4);have hx14:o7 w1 w4.drew:=hx3.trans (hx4.trans (o7.drew w4));have hS4:=hs4.oL.isS;have hn4:=hs4.oL.vlen;have sgLo:∀K f d w,I1 prog (fun w'=>t8 (A4 vLo) w4.drew w') (Instr.loadAt 112 (.pointer (some ⟨gb,3,none⟩))) K f d w=K (C4 f d vLo) w:=fun K f d w=>D5 (w0:=w4.drew) (t8.refl _) fun w' hw'=>E9 (i:=3) ((hw'.block gb hs4d.lt fun hb=>(hs4d.d2 gb hb).1 rfl).trans hs4d.cell) rfl R0;have sgL:∀K f d w,I1 prog (fun w'=>t8 (A4 vLo) w4.drew w') (Instr.loadAt 111 (.pointer (some ⟨gb,2,none⟩))) K f d w=K (C4 f d vL) w:=fun K f d w=>D5 (w0:=w4.drew) (t8.refl _) fun w' hw'=>E9 (i:=2) ((hw'.block gb hs4d.lt fun hb=>(hs4d.d2 gb hb).1 rfl).trans hs4d.cell) rfl aX4;have hw1':IntKind.i64.wrap ((G.l.length:Int)+1)=(G.l.length:Int)+1:=K6 _ (by omega);obtain⟨p1,vLo',w5,p2,p3,p4,p5⟩:=push (e:=112) cP2 rfl hs4d.oLo (x:=.int .i64 ((G.l.length:Int)+1)) (y:=(G.l.length:Int)+1) rfl (by omega) (by omega) (p9 hh1 (b7 hx14));simp only[Value.cells]at p1 p2;have hc5:w5.heap[gb]?=some (.cells #[vg,vp,vL,vLo,vHi] 114 (0,0)):=(p4.block gb hs4d.lt fun hb=>(hs4d.d2 gb hb).1 rfl).trans hs4d.cell;obtain⟨w6,s6,hc6,hx6⟩:=aj6 (P:=prog) (t:=112) (i:=3) (x:=vLo') hc5 (by simp) (D8 p3.isS) (W9 p3.isS) (A0 T7).choose_spec.1 (by rw[←C5 (A0 T7).choose_spec.1];exact aF5);have hs6:ShS h w6 gb vg vp vL vLo' vHi G.l (G.lo++[(G.l.length:Int)+1]) G.hi:=hs4d.setLo p4 p3 p5 hx6 (by simpa using hc6);have hx16:o7 w1 w6:=t8.ext_of (t8.ext_of hx14 p4 fun b hb=>hge b (.inr (.inl hb))) hx6 fun b hb=>by subst hb;exact hge2
   have hmod46:t8 (fun b=>b=gb∨A4 vL b∨A4 vLo b∨A4 vHi b) w4 w6:=((t8.up (o7.drew w4)).chain p4 fun i _ hb=>.inr (.inr (.inl hb))).chain hx6 fun i _ hb=>.inl hb;have lq6:=ldq w6 (C8 hmod46);obtain⟨bv,hbv,hbvS⟩:=ch0 h (k:Int) (-1);simp only[n7,n8,z6,simprocAttr,h12,e10,hin,hld,hal,hst];refine C0 (fun w'=>t8 (A4 vLo) w4.drew w') 13 (A9 [0,1,2,3,4,5,6,7,8,9,10,11,12]) ?_;simp only[D2,A9,n7,n8,simprocAttr,e3,sgLo,sgL,hS4,hn4,hw1',p1,p2,F1];refine⟨t8.up (o7.alloc _ _),p4,?_⟩;simp only[n7,n8,simprocAttr,s6,e3,lq6,hbv];refine z7 (cK5 (A5 q.body) q.body _ bv vb h gb vg vp vL vLo' vHi _ _ _ w6 (ds5 _) hs6 (p9 hh1 (b7 hx16)) hvb hbvS (by unfold U2 at hwm;omega) (by omega)) ?_;rintro u w7 ⟨vL',hs7,hx7,hmv7⟩;simp only at hs7;have hx17:o7 w1 w7:=t8.ext_of hx16 hx7 fun b hb=>by
    rcases hb with rfl|hb
    ·exact hge2
    ·exact hge b (.inl hb)
   have hs7d:=hs7.ext (o7.drew w7);have hx17d:o7 w1 w7.drew:=hx17.trans (o7.drew w7);have hS7:=hs7.oL.isS;have hn7:=hs7.oL.vlen;rw[dr1,F7]at hn7;have sgHi:∀K f d w,I1 prog (fun w'=>t8 (A4 vHi) w7.drew w') (Instr.loadAt 112 (.pointer (some ⟨gb,4,none⟩))) K f d w=K (C4 f d vHi) w:=fun K f d w=>D5 (w0:=w7.drew) (t8.refl _) fun w' hw'=>E9 (i:=4) ((hw'.block gb hs7d.lt fun hb=>hs7d.d3 gb hb rfl).trans hs7d.cell) rfl R0;have sgL7:∀K f d w,I1 prog (fun w'=>t8 (A4 vHi) w7.drew w') (Instr.loadAt 111 (.pointer (some ⟨gb,2,none⟩))) K f d w=K (C4 f d vL') w:=fun K f d w=>D5 (w0:=w7.drew) (t8.refl _) fun w' hw'=>E9 (i:=2) ((hw'.block gb hs7d.lt fun hb=>hs7d.d3 gb hb rfl).trans hs7d.cell) rfl aX4;have hw2':IntKind.i64.wrap (((G.l.length+A5 q.body:Nat):Int)+1)=(G.l.length:Int)+(A5 q.body:Nat)+1:=by rw[K6 _ (by omega)];omega
   obtain⟨q1,vHi',w8,q2,q3,q4,q5⟩:=push (e:=112) cP2 rfl hs7d.oHi (x:=.int .i64 ((G.l.length:Int)+(A5 q.body:Nat)+1)) (y:=(G.l.length:Int)+(A5 q.body:Nat)+1) rfl (by omega) (by omega) (p9 hh1 (b7 hx17d));simp only[Value.cells]at q1 q2;have hc8:w8.heap[gb]?=some (.cells #[vg,vp,vL',vLo',vHi] 114 (0,0)):=(q4.block gb hs7d.lt fun hb=>hs7d.d3 gb hb rfl).trans hs7d.cell;obtain⟨w9,s9,hc9,hx9⟩:=aj6 (P:=prog) (t:=112) (i:=4) (x:=vHi') hc8 (by simp) (D8 q3.isS) (W9 q3.isS) (A0 T7).choose_spec.1 (by rw[←C5 (A0 T7).choose_spec.1];exact aF5);have hs9:=hs7d.setHi q4 q3 q5 hx9 (by simpa using hc9);have hx19:o7 w1 w9:=t8.ext_of (t8.ext_of hx17d q4 fun b hb=>hge b (.inr (.inr hb))) hx9 fun b hb=>by subst hb;exact hge2
   simp only[n7,simprocAttr];refine C0 (fun w'=>t8 (A4 vHi) w7.drew w') 13 (A9 [0,1,2,3,4,5,6,7,8,9,10,11,12]) ?_;simp only[D2,A9,n7,n8,simprocAttr,e3,sgHi,sgL7,hS7,hn7,hw2',q1,q2,F1];refine⟨t8.up (o7.alloc _ _),q4,?_⟩;simp only[n7,n8,simprocAttr,s9,h12];refine⟨(k+1,vL',vLo',vHi'),by simp only[];omega,by simp only[];rw[A8 k (by omega)],by simp only[];omega,?_,hx19,fun b hb=>?_⟩;rotate_left
   ·rcases hb with hb|hb|hb
    ·rcases hmv7 b hb with h|h
     ·exact hge b (.inl h)
     ·exact dr7 hx16.size h
    ·rcases p5 b hb with h|h
     ·exact hge b (.inr (.inl h))
     ·exact dr7 hx14.size h
    ·rcases q5 b hb with h|h
     ·exact hge b (.inr (.inr h))
     ·exact dr7 hx17d.size h
   simp only[];rw[hstep];simp only[E6,F7];exact hs9
  ·have hge:k=p.procs.length:=by simp at hc;omega
   subst hge;simp only[n7,simprocAttr,e3];refine o6 results72 ?_;simp only[p6,simprocAttr];rw[ds2]at hs3;have hF:b9 p=⟨p,(F4 ⟨p,[],[],[]⟩ 0 p.procs).l,(F4 ⟨p,[],[],[]⟩ 0 p.procs).lo,(F4 ⟨p,[],[],[]⟩ 0 p.procs).hi⟩:=by
    have:=aR9 p.procs ⟨p,[],[],[]⟩ 0;unfold b9;cases hq:F4 ⟨p,[],[],[]⟩ 0 p.procs;rw[hq]at this;simp only at this;rw[this]
   rw[hF];exact⟨gb,vg,vp,vL,vLo,vHi,by trivial,hs3,hg,hp,dr7 hx1.size hge2,fun b hb=>dr7 hx1.size (hge b hb),hx1.trans hx3⟩
theorem ai1(v:Value)(p:Pg)(w:World)(hv:SV (i4 w) v p)(hwt:D1 p≤1000000):p7 prog 72 #[v] w fun u w'=>(∃a,u = .pointer (some a)∧At (i4 w') a (b9 p)∧o7 w w'):=by
 refine Calls.mono (ab4 (i4 w) v p w hv (d7 _) hwt) ?_;rintro e w' ⟨u,he,gb,vg,vp,vL,vLo,vHi,rfl,hs,hg,hp,_,_,hx⟩;refine⟨_,he,_,rfl,?_,hx⟩;have hF:b9 p=⟨p,(b9 p).l,(b9 p).lo,(b9 p).hi⟩:=by
  have:(b9 p).p=p:=by unfold b9;rw[aR9]
  cases hq:b9 p;rw[hq]at this;simp only at this;rw[this]
 rw[hF];exact hs.at_ (b7 hx) hg hp
theorem ar6:E7 prog 22 9 1 16=true:=by kernel_rfl
theorem ldS{h:Hp}{v:Value}{l:List A7}{w:World}(hv:R h v l)(hw:B5 h (i4 w)){k:Nat}(hk:k<l.length):(Instr.loadAt 9 (.pointer (some (H2 v k)))).run prog w = .ok (o9 l[k]) w:=
 M8 (P:=prog) (t:=9) hv hw (dq7 hk) W4
theorem be6{α:Type}{p:α→Bool}{l:List α}(h:∀j (hj:j<l.length),p l[j]=false):∀x∈l,p x=false:=fun x hx=>by
 obtain⟨j,hj,rfl⟩:=dw5.1 hx;exact h j hj
theorem bf5(v:Value)(l:List A7)(x:A7)(w:World)(hv:R (i4 w) v l)(hl:l.length≤1000000000):p7 prog 144 #[v,o9 x] w fun u w'=>(u = .int .i64 (V5 (fun y=>decide (x=y)) 0 l)∧w'=w):=by
 refine p8 [v,o9 x] func144 rfl ?_;have hS:=hv.isS;have hn:=hv.vlen;simp only[n7,n8,simprocAttr,hS,hn];refine n9 [0,1,6,7] (σ:=Nat) (fun k f w'=>f 8 = .int .i64 k∧k≤l.length∧(∀j (hj:j<l.length),j<k→decide (x=l[j])=false)∧w'=w) (fun k=>l.length-k) 0 ?_ ?_
 ·simp only[p6,simprocAttr];exact⟨by trivial,dr8 _,fun j _ h=>by omega,by trivial⟩
 ·rintro k f w' hk ⟨h8,hkl,hno,rfl⟩;simp only[dq9,p6,simprocAttr]at hk;obtain⟨e0,e1,e6,e7,_⟩:=hk;simp only[n7,n8,simprocAttr,h8,e7];refine m8 (fun hc=>?_) (fun hc=>?_)
  ·have hlt:k<l.length:=by simpa using hc
   have hin:=hv.inS hlt;have hld:=ldS hv (d7 _) hlt;simp only[n7,n8,z6,simprocAttr,h8,e0,e1,hin,hld];refine m8 (fun hc2=>?_) (fun hc2=>?_)
   ·simp only[n7,simprocAttr];refine o6 results144 ?_;simp only[p6,simprocAttr];exact⟨by rw[ap5 (fun y=>decide (x=y)) l 0 k hlt (fun j hj=>hno j (by omega) hj) hc2,du4],by trivial⟩
   ·simp only[n7,n8,simprocAttr,h8];refine⟨k+1,by omega,by rw[A8 k (by omega)],by omega,fun j hj hjk=>?_,by trivial⟩;rcases dv3 j k with h|h
    ·exact hno j hj h
    ·obtain rfl:j=k:=by omega
     exact hc2
  ·have hge:k=l.length:=by simp at hc;omega
   subst hge;simp only[n7,simprocAttr];refine o6 results144 ?_;simp only[p6,simprocAttr];exact⟨by rw[au8 _ _ _ (be6 fun j hj=>hno j hj hj)],by trivial⟩
theorem O3(v:Value)(l:List A7)(x:A7)(w:World)(hv:R (i4 w) v l)(hl:l.length≤1000000000):p7 prog 108 #[v,o9 x] w fun u w'=>(u = .bool (l.contains x)∧w'=w):=by
 refine p8 [v,o9 x] func108 rfl ?_;simp only[n7,n8,simprocAttr];refine C7 (bf5 v l x w hv hl) ?_;have hd:decide (0≤V5 (fun y=>decide (x=y)) 0 l)=l.contains x:=by
  rw[au6,←List.any_beq]
  congr 1
 simp only[n7,n8,simprocAttr,hd];refine o6 results108 ?_;simp only[p6,simprocAttr];exact⟨by trivial,by trivial⟩
theorem aB7(pred:Pr→Bool)(g:Nat)(cap:Array Value)(v:Value)(l:List Pr)(w:World)(hb:ah7 prog g=true)(hv:R (i4 w) v l)(hl:l.length≤1000000000)
  (hp:∀(sv:Value) (x:Pr) (w':World),o7 w w'→x∈l→SV (i4 w') sv x→Calls prog g ([sv]++cap.toList).toArray w' fun e w''=>∃u,e = .returned u∧(u = .bool (pred x)∧o7 w' w'')) :
  p7 prog 80 #[v,.func (.func g) #[] cap] w fun u w'=>(u = .int .i64 (V5 pred 0 l)∧o7 w w'):=by
 refine p8 [v,.func (.func g) #[] cap] func80 rfl ?_;have hS:=hv.isS;have hn:=hv.vlen;simp only[n7,n8,simprocAttr,hS,hn];refine n9 [0,1,6,7] (σ:=Nat) (fun k f w'=>f 8 = .int .i64 k∧k≤l.length∧(∀j (hj:j<l.length),j<k→pred l[j]=false)∧o7 w w') (fun k=>l.length-k) 0 ?_ ?_
 ·simp only[p6,simprocAttr];exact⟨by trivial,dr8 _,fun j _ h=>by omega,t8.refl _⟩
 ·rintro k f w1 hk ⟨h8,hkl,hno,hx⟩;simp only[dq9,p6,simprocAttr]at hk;obtain⟨e0,e1,e6,e7,_⟩:=hk;simp only[n7,n8,simprocAttr,h8,e7];refine m8 (fun hc=>?_) (fun hc=>?_)
  ·have hlt:k<l.length:=by simpa using hc
   have hin:=hv.inS hlt;obtain⟨sv,hsv,hld⟩:=E4 (P:=prog) (t:=51) hv (b7 hx) (dq7 hlt) ae2 ae5 ac8 I4;rw[I4]at hld;simp only[n7,n8,z6,simprocAttr,h8,e0,e1,hin,hld,dB0];refine B2 (hb:=hb) (hp sv l[k] w1 hx (dr5 hlt) (hsv.mono (b7 hx))) (fun w2 hx2=>?_);cases hq:pred l[k]
   ·simp only[n7,n8,simprocAttr,h8];refine⟨k+1,by omega,by rw[A8 k (by omega)],by omega,fun j hj hjk=>?_,hx.trans hx2⟩;rcases dv3 j k with h|h
    ·exact hno j hj h
    ·obtain rfl:j=k:=by omega
     exact hq
   ·simp only[n7,simprocAttr];refine o6 results80 ?_;simp only[p6,simprocAttr];exact⟨by rw[ap5 pred l 0 k hlt (fun j hj=>hno j (by omega) hj) hq,du4],hx.trans hx2⟩
  ·have hge:k=l.length:=by simp at hc;omega
   subst hge;simp only[n7,simprocAttr];refine o6 results80 ?_;simp only[p6,simprocAttr];exact⟨by rw[au8 _ _ _ (be6 fun j hj=>hno j hj hj)],hx⟩
theorem aB8(pred:A7→Bool)(g:Nat)(cap:Array Value)(v:Value)(l:List A7)(w:World)(hb:ah7 prog g=true)(hv:R (i4 w) v l)(hl:l.length≤1000000000)
  (hp:∀(x:A7) (w':World),o7 w w'→x∈l→Calls prog g ([o9 x]++cap.toList).toArray w' fun e w''=>∃u,e = .returned u∧(u = .bool (pred x)∧o7 w' w'')) :
  p7 prog 156 #[v,.func (.func g) #[] cap] w fun u w'=>(u = .int .i64 (V5 pred 0 l)∧o7 w w'):=by
 refine p8 [v,.func (.func g) #[] cap] func156 rfl ?_;have hS:=hv.isS;have hn:=hv.vlen;simp only[n7,n8,simprocAttr,hS,hn];refine n9 [0,1,6,7] (σ:=Nat) (fun k f w'=>f 8 = .int .i64 k∧k≤l.length∧(∀j (hj:j<l.length),j<k→pred l[j]=false)∧o7 w w') (fun k=>l.length-k) 0 ?_ ?_
 ·simp only[p6,simprocAttr];exact⟨by trivial,dr8 _,fun j _ h=>by omega,t8.refl _⟩
 ·rintro k f w1 hk ⟨h8,hkl,hno,hx⟩;simp only[dq9,p6,simprocAttr]at hk;obtain⟨e0,e1,e6,e7,_⟩:=hk;simp only[n7,n8,simprocAttr,h8,e7];refine m8 (fun hc=>?_) (fun hc=>?_)
  ·have hlt:k<l.length:=by simpa using hc
   have hin:=hv.inS hlt;have hld:=ldS hv (b7 hx) hlt;simp only[n7,n8,z6,simprocAttr,h8,e0,e1,hin,hld,dB0];refine B2 (hb:=hb) (hp l[k] w1 hx (dr5 hlt)) (fun w2 hx2=>?_);cases hq:pred l[k]
   ·simp only[n7,n8,simprocAttr,h8];refine⟨k+1,by omega,by rw[A8 k (by omega)],by omega,fun j hj hjk=>?_,hx.trans hx2⟩;rcases dv3 j k with h|h
    ·exact hno j hj h
    ·obtain rfl:j=k:=by omega
     exact hq
   ·simp only[n7,simprocAttr];refine o6 results156 ?_;simp only[p6,simprocAttr];exact⟨by rw[ap5 pred l 0 k hlt (fun j hj=>hno j (by omega) hj) hq,du4],hx.trans hx2⟩
  ·have hge:k=l.length:=by simp at hc;omega
   subst hge;simp only[n7,simprocAttr];refine o6 results156 ?_;simp only[p6,simprocAttr];exact⟨by rw[au8 _ _ _ (be6 fun j hj=>hno j hj hj)],hx⟩
theorem aN7(pred:A7→Bool)(g:Nat)(cap:Array Value)(v:Value)(l:List A7)(w:World)(hb:ah7 prog g=true)(hv:R (i4 w) v l)(hl:l.length≤1000000000)
  (hp:∀(x:A7) (w':World),o7 w w'→x∈l→Calls prog g ([o9 x]++cap.toList).toArray w' fun e w''=>∃u,e = .returned u∧(u = .bool (pred x)∧o7 w' w'')) :
  p7 prog 147 #[v,.func (.func g) #[] cap] w fun u w'=>(u = .bool (l.any pred)∧o7 w w'):=by
 refine p8 [v,.func (.func g) #[] cap] func147 rfl ?_;simp only[n7,n8,simprocAttr];refine B2 (aB8 pred g cap v l w hb hv hl hp) (fun w2 hx=>?_);have hd:=au6 pred l 0;simp only[n7,n8,simprocAttr,hd];refine o6 results147 ?_;simp only[p6,simprocAttr];exact⟨by trivial,hx⟩
theorem aN6(pred:Pr→Bool)(g:Nat)(cap:Array Value)(v:Value)(l:List Pr)(w:World)(hb:ah7 prog g=true)(hv:R (i4 w) v l)(hl:l.length≤1000000000)
  (hp:∀(sv:Value) (x:Pr) (w':World),o7 w w'→x∈l→SV (i4 w') sv x→Calls prog g ([sv]++cap.toList).toArray w' fun e w''=>∃u,e = .returned u∧(u = .bool (pred x)∧o7 w' w'')) :
  p7 prog 252 #[v,.func (.func g) #[] cap] w fun u w'=>(u = .bool (l.any pred)∧o7 w w'):=by
 refine p8 [v,.func (.func g) #[] cap] func252 rfl ?_;simp only[n7,n8,simprocAttr];refine B2 (aB7 pred g cap v l w hb hv hl hp) (fun w2 hx=>?_);have hd:=au6 pred l 0;simp only[n7,n8,simprocAttr,hd];refine o6 results252 ?_;simp only[p6,simprocAttr];exact⟨by trivial,hx⟩
def dz6:=@List.find?_eq_none
def dz3:=@List.find?_eq_some_iff_getElem
def dz5:=@List.mem_of_mem_take
theorem do8:ah7 prog 81=true:=by kernel_rfl
theorem cN1(n:A7)(w:World):∃a w',(Instr.box 9 (o9 n)).run prog w = .ok (.pointer (some a)) w'∧o7 w w'∧∀w'',o7 w' w''→(Instr.loadAt 9 (.pointer (some a))).run prog w'' = .ok (o9 n) w'':=by
 refine⟨⟨w.heap.size,0,none⟩,w.alloc (.cells #[o9 n] 9),rfl,o7.alloc _ _,fun w'' hx=>?_⟩;exact E9 (i:=0) (cs:=#[o9 n]) (T:=9) ((hx.block _ (by simp) id).trans (dv4 w _)) rfl W4
theorem bT5(sv:Value)(q:Pr)(n:A7)(a:Addr)(w:World)(hv:SV (i4 w) sv q)(hl:∀w',o7 w w'→(Instr.loadAt 9 (.pointer (some a))).run prog w' = .ok (o9 n) w'):
  p7 prog 81 #[sv,.pointer (some a)] w fun u w'=>(u = .bool (decide (q.name=n))∧o7 w w'):=by
 refine p8 [sv,.pointer (some a)] func81 rfl ?_;obtain⟨b,w1,hb,hx,ha⟩:=be1 hv (d7 _);obtain⟨_,_,_,_,_,_,_,_,ld,_⟩:=ha.pr;have l1:=ld w1 (d7 _);have l2:=hl w1 hx;simp only[n7,n8,simprocAttr,hb,l1,l2];refine o6 results81 ?_;simp only[p6,simprocAttr];exact⟨by trivial,hx⟩
theorem aq6(a:Addr)(s:Sh)(n:A7)(w:World)(hs:At (i4 w) a s)(hl:s.p.procs.length≤1000000000):p7 prog 46 #[.pointer (some a),o9 n] w fun u w'=>(u = .int .i64 (s.pr n)∧o7 w w'):=by
 refine p8 [.pointer (some a),o9 n] func46 rfl ?_;obtain⟨vL,vlo,vhi,hL,hlo,hhi,hap,ld,sd⟩:=hs.sh;obtain⟨vg,vp,hg,hp,ldp,sdp⟩:=hap.pg;obtain⟨b,w1,hb,hx,hld⟩:=cN1 n w;have l1:=ldp w1 (b7 hx);simp only[n7,n8,simprocAttr,hb,l1];refine B2 (aB7 (fun q=>decide (q.name=n)) 81 #[.pointer (some b)] vp s.p.procs w1 do8 (A3.mono (b7 hx) hp) hl
  (fun sv x w' hx' _ hsv=>bT5 sv x n b w' hsv fun w'' hx''=>hld w'' (hx'.trans hx''))) (fun w2 hx2=>?_)
 simp only[n7,simprocAttr];refine o6 results46 ?_;simp only[p6,simprocAttr];exact⟨by trivial,hx.trans hx2⟩
theorem bE0{α:Type}[A3 α]{h:Hp}{v:Value}{xs:List α}(hr:R h v xs){i j:Nat}(hij:i≤j)(hj:j≤xs.length):R h (reS v i j (A3.sz α)) ((xs.take j).drop i):=by
 obtain⟨a,n,c,he,hn,hc,es,hes,hce⟩:=hr;simp only[dD9,and_true]at he;subst he;have hsplit:xs=xs.take i++((xs.take j).drop i++xs.drop j):=by
  have h1:xs.take j=xs.take i++(xs.take j).drop i:=by
   have:=dv5 i (xs.take j);rw[List.take_take,dy0 hij]at this;exact this.symm
  rw[←dt4,←h1,dv5]
 rw[hsplit]at hes;obtain⟨c1,c2,rfl,h1,h2⟩:=aa4 _ _ hes;obtain⟨c3,c4,rfl,h3,h4⟩:=aa4 _ _ h2;have hl1:=J9 h1;rw[ds3,dy0 (by omega)]at hl1;have hlen:((xs.take j).drop i).length=j-i:=by rw[dy7,ds3,dy0 hj]
 refine⟨_,j-i,c-i,rfl,hlen.symm,by omega,c3,h3,fun k u hk=>?_⟩;have hk':(c1++(c3++c4))[i*A3.sz α+k]?=some u:=by
  rw[dv7 (by omega),hl1,Nat.add_sub_cancel_left,dw2 (dr4.1 hk).1];exact hk
 obtain⟨ad,e1,e2⟩:=hce _ u hk';subst e1;have hlt:i<j:=by
  rcases dv3 i j with h|h
  ·exact h
  ·have:c3.length=0:=by rw[J9 h3,hlen,show j-i=0 by omega,Nat.zero_mul]
   have:=(dr4.1 hk).1;omega
 refine⟨ad.add (i*A3.sz α),?_,by rw[Addr.add_add'];exact e2⟩;rw[if_neg (by omega)];rfl
structure bo8 (s:Sh) (i:Nat) (x y:Nat):Prop where
 lo:s.lo[i]?=some ((x:Int)+1)
 hi:s.hi[i]?=some ((y:Int)+1)
 le:x≤y
 len:y≤s.l.length
 fit:s.l.length≤1000000
theorem bo8.of_{s:Sh}{i x y:Nat}(h:bo8 s i x y):s.of i=(s.l.take y).drop x:=by
 unfold Sh.of V1;have h1:=h.lo;have h2:=h.hi;simp only[dt5,List.getD,h1,h2,dw8]
 congr 1
 ·omega
 ·congr 1;omega
theorem ldI{h:Hp}{v:Value}{l:List Int}{w:World}(hv:R h v l)(hw:B5 h (i4 w)){k:Nat}{x:Int}(hk:l[k]?=some x):(Instr.loadAt 3 (.pointer (some (H2 v k)))).run prog w = .ok (.int .i64 x) w:=
 M8 (P:=prog) (t:=3) hv hw hk F3
theorem aR8(a:Addr)(s:Sh)(i x y:Nat)(w:World)(hs:At (i4 w) a s)(hok:bo8 s i x y):p7 prog 57 #[.pointer (some a),.int .i64 i] w fun u w'=>(R (i4 w') u (s.of i)∧o7 w w'):=by
 refine p8 [.pointer (some a),.int .i64 i] func57 rfl ?_;obtain⟨vL,vlo,vhi,hL,hlo,hhi,hap,ld,sd⟩:=hs.sh;have hst:∀w',o7 w.drew w'→B5 (i4 w) (i4 w'):=fun w' h=>b7 ((o7.drew w).trans h);have s1:=sd (fun w'=>o7 w.drew w') w.drew (t8.refl _) hst;have hi1:=hlo.inS (dr4.1 hok.lo).1;have hi2:=hhi.inS (dr4.1 hok.hi).1;have k1:∀K f d w0,I1 prog (fun w'=>o7 w.drew w') (Instr.loadAt 3 (.pointer (some (H2 vlo i)))) K f d w0=K (C4 f d (.int .i64 ((x:Int)+1))) w0:=fun K f d w0=>D5 (w0:=w.drew) (t8.refl _) fun w' h=>ldI hlo (hst w' h) hok.lo;have k2:∀K f d w0,I1 prog (fun w'=>o7 w.drew w') (Instr.loadAt 3 (.pointer (some (H2 vhi i)))) K f d w0=K (C4 f d (.int .i64 ((y:Int)+1))) w0:=fun K f d w0=>D5 (w0:=w.drew) (t8.refl _) fun w' h=>ldI hhi (hst w' h) hok.hi;have B5:=hok.le;have hlen:=hok.len;have hfit:=hok.fit;have e1:IntKind.i64.wrap ((x:Int)+1-1)=(x:Int):=by rw[K6 _ (by omega)];omega
 have e2:IntKind.i64.wrap ((y:Int)+1-1)=(y:Int):=by rw[K6 _ (by omega)];omega
 have hSL:=hL.isS;have hc:=hL.vcap;have c1:decide ((x:Int)≤(y:Int))=true:=by simp;omega
 have c2:decide ((y:Int)≤(vcap vL:Int))=true:=by simp;omega
 simp only[n7,n8,simprocAttr];refine C0 (fun w'=>o7 w.drew w') 22 (A9 [0,1,2,3,4,5,6,7,8,9,10,11,12,13,14,15,16,17,18,19,20,21]) ?_;simp only[D2,A9,n7,n8,z6,I0,simprocAttr,s1,hi1,hi2,k1,k2,e1,e2,hSL,c1,c2];refine o6 results57 ?_;simp only[p6,simprocAttr];refine⟨?_,o7.drew w⟩;rw[hok.of_];exact A3.mono (b7 (o7.drew w)) (bE0 hL B5 hlen)
theorem bL1(a:Addr)(s:Sh)(i x y:Nat)(w:World)(hs:At (i4 w) a s)(hok:bo8 s i x y):p7 prog 183 #[.pointer (some a),.int .i64 i] w fun u w'=>(u = .int .i64 (s.first i)∧o7 w w'):=by
 refine p8 [.pointer (some a),.int .i64 i] func183 rfl ?_;obtain⟨vL,vlo,vhi,hL,hlo,hhi,hap,ld,sd⟩:=hs.sh;have hst:∀w',o7 w.drew w'→B5 (i4 w) (i4 w'):=fun w' h=>b7 ((o7.drew w).trans h);have s1:=sd (fun w'=>o7 w.drew w') w.drew (t8.refl _) hst;have l1:=ld w.drew (hst _ (t8.refl _));have hi1:=hlo.inS (dr4.1 hok.lo).1;have hi2:=hhi.inS (dr4.1 hok.hi).1;have k1:∀K f d w0,I1 prog (fun w'=>o7 w.drew w') (Instr.loadAt 3 (.pointer (some (H2 vlo i)))) K f d w0=K (C4 f d (.int .i64 ((x:Int)+1))) w0:=fun K f d w0=>D5 (w0:=w.drew) (t8.refl _) fun w' h=>ldI hlo (hst w' h) hok.lo;have k2:∀K f d w0,I1 prog (fun w'=>o7 w.drew w') (Instr.loadAt 3 (.pointer (some (H2 vhi i)))) K f d w0=K (C4 f d (.int .i64 ((y:Int)+1))) w0:=fun K f d w0=>D5 (w0:=w.drew) (t8.refl _) fun w' h=>ldI hhi (hst w' h) hok.hi;have k3:=ldI hlo (hst _ (t8.refl _)) hok.lo;have hF:s.first i=if(x:Int)+1<(y:Int)+1 then(x:Int)+1 else -1:=by
  unfold Sh.first V1;simp only[dt5,List.getD,hok.lo,hok.hi,dw8]
 generalize hX:(x:Int)+1=X at *;generalize hY:(y:Int)+1=Y at *;simp only[n7,n8,simprocAttr];refine C0 (fun w'=>o7 w.drew w') 15 (A9 [0,1,2,3,4,5,6,7,8,9,10,11,12,13,14]) ?_;simp only[D2,A9,n7,n8,z6,simprocAttr,s1,hi1,hi2,k1,k2];refine m8 (fun hc=>?_) (fun hc=>?_)
 ·simp only[n7,n8,z6,simprocAttr,l1,hi1,k3];refine o6 results183 ?_;simp only[p6,simprocAttr];exact⟨by rw[hF,if_pos (dr0 hc)],o7.drew w⟩
 ·simp only[n7,simprocAttr];refine o6 results183 ?_;simp only[p6,simprocAttr];exact⟨by rw[hF,if_neg (dr2 hc)],o7.drew w⟩
def bJ4(o:Option Int):Value:=match o with
 | some i=>.tuple #[.int .i64 i,.bool true]
 | none=>.tuple #[.int .i64 0,.bool false]
theorem bL0(a:Addr)(s:Sh)(i x y:Nat)(lb:A7)(w:World)(hs:At (i4 w) a s)(hok:bo8 s i x y)(hip:i<s.p.procs.length)(hwt:∀it∈s.l,O6 it.s≤1000000)(hwf:∀f∈s.p.procs,U2 f≤1000000):
  p7 prog 215 #[.pointer (some a),.int .i64 i,o9 lb] w fun u w'=>(u=bJ4 (s.at i lb)∧o7 w w'):=by
 refine p8 [.pointer (some a),.int .i64 i,o9 lb] func215 rfl ?_;obtain⟨vL,vlo,vhi,hL,hlo,hhi,hap,ld,sd⟩:=hs.sh;obtain⟨vg,vp,hg,hp,ldp,sdp⟩:=hap.pg;have hof:∀it∈s.of i,it∈s.l:=fun it h=>by
  rw[hok.of_]at h;exact dz5 (dB8 h)
 have hlen:(s.of i).length≤1000000:=by
  rw[hok.of_,dy7,ds3];have:=hok.fit;omega
 simp only[n7,n8,simprocAttr];refine z7 (aR8 a s i x y w hs hok) ?_;rintro u w1 ⟨hu,hx1⟩;generalize hof2:s.of i=l at hu hof hlen;have hS:=hu.isS;have hn:=hu.vlen;simp only[n7,n8,simprocAttr,hS,hn];refine n9 [0,1,2,12,13] (σ:=Nat) (fun k f w'=>f 14 = .int .i64 k∧k≤l.length∧(∀j (hj:j<l.length),j<k→l[j].s.labels.contains lb=false)∧o7 w1 w') (fun k=>l.length-k) 0 ?_ ?_
 ·simp only[p6,simprocAttr];exact⟨by trivial,dr8 _,fun j _ h=>by omega,t8.refl _⟩
 ·rintro k f w2 hk ⟨h14,hkl,hno,hx⟩;simp only[dq9,p6,simprocAttr]at hk;obtain⟨e0,e1,e2,e12,e13,_⟩:=hk;simp only[n7,n8,simprocAttr,h14,e13];refine m8 (fun hc=>?_) (fun hc=>?_)
  ·have hlt:k<l.length:=by simpa using hc
   have hin:=hu.inS hlt;obtain⟨sv,hsv,hld⟩:=E4 (P:=prog) (t:=121) hu (b7 hx) (dq7 hlt) ab1 ab2 Z1 I7;rw[I7]at hld;have hwt':=hwt _ (hof _ (dr5 hlt));rw[P2]at hwt';have hl1:=Q7 l[k].s.labels;obtain⟨b,wz,w3,hal,hst,hx3,hat⟩:=az6 (hsv.mono (b7 hx)) (d7 _);obtain⟨hats,_,_⟩:=hat.it;obtain⟨vl,_,_,_,hvl,_,_,_,_,ldt,_⟩:=hats.st;have l3:=ldt w3 (d7 _);simp only[n7,n8,z6,simprocAttr,h14,e2,e12,hin,hld,hal,hst,l3];refine C7 (O3 vl l[k].s.labels lb w3 hvl (by omega)) ?_;cases hq:l[k].s.labels.contains lb
   ·simp only[n7,n8,simprocAttr,h14];refine⟨k+1,by omega,by rw[A8 k (by omega)],by omega,fun j hj hjk=>?_,hx.trans hx3⟩;rcases dv3 j k with h|h
    ·exact hno j hj h
    ·obtain rfl:j=k:=by omega
     exact hq
   ·simp only[n7,n8,simprocAttr,l3];refine af0 results215 ?_;simp only[p6,simprocAttr];refine⟨?_,hx1.trans (hx.trans hx3)⟩;have hfind:l.find? (fun it=>it.s.labels.contains lb)=some l[k]:=dz3.2 ⟨hq,k,hlt,rfl,fun j hj=>by rw[hno j (by omega) hj];rfl⟩;rw[Sh.at,hof2,hfind];rfl
  ·have hge:k=l.length:=by simp at hc;omega
   subst hge;have hfind:l.find? (fun it=>it.s.labels.contains lb)=none:=dz6.2 fun it hit=>by
    obtain⟨j,hj,rfl⟩:=dw5.1 hit;rw[hno j hj hj];simp
   have hA:s.at i lb=if(s.fn i).fin.contains lb then some (-1)else none:=by rw[Sh.at,hof2,hfind]
   have hfn:s.p.procs[i]?=some (s.fn i):=by
    unfold Sh.fn;rw[dt5,List.getD,dq7 hip];rfl
   have hwf':=hwf _ (ds9 hfn);unfold U2 at hwf';have hl2:=Q7 (s.fn i).fin;have hatp:=hp.at_ hfn;obtain⟨_,_,_,vf,_,_,_,hvf,ldf,_⟩:=hatp.pr;have lp:=ldp w2 (b7 (hx1.trans hx));have lf:=ldf w2 (b7 (hx1.trans hx));have hz:A3.sz Pr=5:=rfl;rw[hz]at lf;have hin:=hp.inS hip;simp only[n7,n8,z6,simprocAttr,e0,e1,e2,lp,lf,hin];refine C7 (O3 vf (s.fn i).fin lb w2 (A3.mono (b7 (hx1.trans hx)) hvf) (by omega)) ?_;cases hq:(s.fn i).fin.contains lb
   ·simp only[n7,simprocAttr];refine af0 results215 ?_;simp only[p6,simprocAttr];exact⟨by rw[hA,hq];rfl,hx1.trans hx⟩
   ·simp only[n7,simprocAttr];refine af0 results215 ?_;simp only[p6,simprocAttr];exact⟨by rw[hA,hq];rfl,hx1.trans hx⟩
theorem bm4:∀(l:List Pr) (s:Sh) (i:Nat),∃L lo hi,F4 s i l=⟨s.p,s.l++L,s.lo++lo,s.hi++hi⟩
 | [],s,i=>⟨[],[],[],by simp[F4]⟩
 | f::l,s,i=>by
  obtain⟨L,lo,hi,e⟩:=bm4 l (E6 s i f) (i+1);refine⟨C2 f.body s.l.length i 0 (-1) 0++L,((s.l.length:Int)+1)::lo,((s.l.length:Int)+(A5 f.body:Nat)+1)::hi,?_⟩;rw[F4,e];simp[E6,F7]
theorem cA5(p:Pg)(i:Nat)(hi:i<p.procs.length):∃x:Nat,(b9 p).lo[i]?=some ((x:Int)+1)∧(b9 p).hi[i]?=some ((x:Int)+(A5 p.procs[i].body:Nat)+1) ∧
  ((b9 p).l.drop x).take (A5 p.procs[i].body)=C2 p.procs[i].body x i 0 (-1) 0∧x+A5 p.procs[i].body≤(b9 p).l.length:=by
 have hsplit:p.procs=p.procs.take i++(p.procs[i]::p.procs.drop (i+1)):=by
  have:=dv5 i p.procs;rw[du8 hi]at this;exact this.symm
 obtain⟨G,hG⟩:∃G,F4 ⟨p,[],[],[]⟩ 0 (p.procs.take i)=G:=⟨_,rfl⟩;have hlo:=aW6 (p.procs.take i) ⟨p,[],[],[]⟩ 0;rw[hG,ds3,dy0 (Nat.le_of_lt hi)]at hlo;simp only[dx8,du4]at hlo;obtain⟨L,lo,hi',e⟩:=bm4 (p.procs.drop (i+1)) (E6 G i p.procs[i]) (i+1);have hF:b9 p=⟨(E6 G i p.procs[i]).p,(E6 G i p.procs[i]).l++L,(E6 G i p.procs[i]).lo++lo,(E6 G i p.procs[i]).hi++hi'⟩:=by
  rw[←e];unfold b9
  conv=>lhs;rw[hsplit]
  rw[aM6,hG,ds3,dy0 (Nat.le_of_lt hi),F4,du4]
 rw[hF];refine⟨G.l.length,?_,?_,?_,?_⟩
 ·simp only[E6,dt4];rw[dv7 (by omega),hlo.1];simp
 ·simp only[E6,dt4];rw[dv7 (by omega),hlo.2,F7];simp
 ·simp only[E6,dt4];rw[List.drop_left,←F7 p.procs[i].body G.l.length i 0 (-1) 0,dA3]
 ·simp only[E6,dr1,F7];omega
theorem an6(p:Pg):(b9 p).l.length=bp5 p:=by
 unfold b9 bp5;rw[ay6];simp
theorem J0(p:Pg):(b9 p).p=p:=by
 unfold b9;rw[aR9]
theorem bz1(p:Pg):3*bp5 p≤D1 p:=by
 have:=be4 p.procs;unfold D1 bp5;omega
theorem V7(p:Pg)(hw:D1 p≤1000000)(i:Nat)(hi:i<p.procs.length):∃x:Nat,bo8 (b9 p) i x (x+A5 p.procs[i].body)∧(b9 p).of i=C2 p.procs[i].body x i 0 (-1) 0:=by
 obtain⟨x,h1,h2,h3,h4⟩:=cA5 p i hi;have h5:=an6 p;have h6:=bz1 p;have hok:bo8 (b9 p) i x (x+A5 p.procs[i].body):=⟨h1,by rw[h2];congr 1,by omega,h4,by omega⟩;refine⟨x,hok,?_⟩;rw[hok.of_,List.drop_take,Nat.add_sub_cancel_left];exact h3
mutual
theorem cj1:∀(t:St) (k:Nat) (pr up nx lp:Int),∀it∈V4 t k pr up nx lp,O6 it.s≤O6 t
 | .mk id kind labels name proc x has args thn els,k,pr,up,nx,lp,it,h=>by
  rw[P5]at h;rcases dt1.1 h with rfl|h
  ·exact ds5 _
  ·rw[O6];rcases ds4.1 h with h|h
   ·have:=ax0 thn _ _ _ _ _ it h;omega
   ·have:=ax0 els _ _ _ _ _ it h;omega
theorem ax0:∀(l:List St) (k:Nat) (pr up nx lp:Int),∀it∈C2 l k pr up nx lp,O6 it.s≤G3 l
 | [],_,_,_,_,_,it,h=>by simp[C2]at h
 | t::l,k,pr,up,nx,lp,it,h=>by
  rw[C2]at h;rw[G3];rcases ds4.1 h with h|h
  ·have:=cj1 t _ _ _ _ _ it h;omega
  ·have:=ax0 l _ _ _ _ _ it h;omega
end
theorem bw3:∀(l:List Pr) (s:Sh) (i:Nat) (W:Nat),(∀it∈s.l,O6 it.s≤W)→(∀f∈l,G3 f.body≤W)→∀it∈(F4 s i l).l,O6 it.s≤W
 | [],s,i,W,h1,h2,it,h=>h1 it h
 | f::l,s,i,W,h1,h2,it,h=>by
  rw[F4]at h;refine bw3 l _ _ W (fun it h=>?_) (fun g hg=>h2 g (dx9 _ hg)) it h;simp only[E6]at h;rcases ds4.1 h with h|h
  ·exact h1 it h
  ·exact dr7 (ax0 _ _ _ _ _ _ it h) (h2 f (by simp))
theorem Z5(p:Pg)(hw:D1 p≤1000000):∀it∈(b9 p).l,O6 it.s≤1000000:=by
 refine bw3 _ _ _ _ (fun it h=>by cases h) fun f hf=>?_;have:=ah1 hf;unfold D1 at hw;unfold U2 at this;omega
theorem aq7(p:Pg)(hw:D1 p≤1000000):∀f∈p.procs,U2 f≤1000000:=fun f hf=>by
 have:=ah1 hf;unfold D1 at hw;omega
theorem bH5{α β:Type}(g:α→β)(p:β→Bool):∀(l:List α) (i:Nat),V5 p i (l.map g)=V5 (fun x=>p (g x)) i l
 | [],i=>rfl
 | x::l,i=>by simp only[dv6,V5,bH5 g p l]
theorem bR9{α:Type}{p q:α→Bool}(h:∀x,p x=q x)(l:List α)(i:Nat):V5 p i l=V5 q i l:=by
 rw[show p=q from funext h]
def dx2:=@List.eq_of_mem_replicate
def dw4:=@List.mem_append_left
def dC9:=@List.mem_append_right
def dz1:=@List.mem_or_eq_of_mem_set
def dx5:=@List.pairwise_cons
def C1(nx:List (List Int))(a:Int):List Int:=if 0≤a∧a<nx.length then nx.getD a.toNat []else[]
def H1(n:Nat)(a:Int):Bool:=decide (0≤a)&&decide (a<n)
theorem C3{n:Nat}{a:Int}:H1 n a=true↔0≤a∧a<n:=by simp[H1]
theorem aR3{nx:List (List Int)}{a:Int}(h:H1 nx.length a=false):C1 nx a=[]:=by
 unfold C1;rw[if_neg (fun hh=>by rw[C3.2 hh]at h;cases h)]
theorem al9{nx:List (List Int)}{a:Int}(h:H1 nx.length a=true):nx[a.toNat]?=some (C1 nx a)∧a.toNat<nx.length:=by
 have hh:=C3.1 h;unfold C1;rw[if_pos hh];have:a.toNat<nx.length:=by omega
 exact⟨by simp[List.getD,this],this⟩
theorem aq4{nx:List (List Int)}{a:Int}(h:H1 nx.length a=true):C1 nx a∈nx:=ds9 (al9 h).1
def aP5(l:List Int)(x:Int):List Int:=l.take (l.countP (· < x))++x::l.drop (l.countP (· < x))
def ak5(nx:List (List Int))(a b:Int):Bool:=H1 nx.length a&&H1 nx.length b && !(C1 nx a).contains b
def bO3(nx:List (List Int))(a b:Int):List (List Int):=if ak5 nx a b then nx.set a.toNat (aP5 (C1 nx a) b)else nx
def bO4(nx pv:List (List Int))(a b:Int):List (List Int):=if ak5 nx a b then pv.set b.toNat (aP5 (C1 pv b) a)else pv
theorem cI4{y x:Int}{l:List Int}(h:y<x):aP5 (y::l) x=y::aP5 l x:=by
 simp[aP5,h]
theorem bF1{l:List Int}{x:Int}(h:∀y∈l,x≤y):l.countP (· < x)=0:=by
 rw[List.countP_eq_zero];intro y hy;have:=h y hy;simp;omega
theorem cI3{y x:Int}{l:List Int}(h:x≤y)(hs:(y::l).Pairwise (· < ·)):aP5 (y::l) x=x::y::l:=by
 have:=bF1 (l:=y::l) (x:=x) (by
  intro z hz;rcases dt1.1 hz with rfl|hz
  ·exact h
  ·have:=(dx5.1 hs).1 z hz;omega)
 unfold aP5;rw[this];simp
theorem au9{x y:Int}{l:List Int}:y∈aP5 l x↔y=x∨y∈l:=by
 unfold aP5;constructor
 ·intro h;rcases ds4.1 h with h|h
  ·exact .inr (dz5 h)
  ·rcases dt1.1 h with h|h
   ·exact .inl h
   ·exact .inr (dB8 h)
 ·rintro(rfl|h)
  ·simp
  ·rw[←dv5 (l.countP (· < x)) l]at h;rcases ds4.1 h with h|h
   ·exact dw4 _ h
   ·exact dC9 _ (dx9 _ h)
theorem ba9{x:Int}:∀{l:List Int},l.Pairwise (· < ·)→x∉l→(aP5 l x).Pairwise (· < ·)
 | [],_,_=>by simp[aP5]
 | y::l,hs,hn=>by
  have hs':=dx5.1 hs;rcases Int.lt_or_le y x with h|h
  ·rw[cI4 h,dx5];refine⟨fun z hz=>?_,ba9 hs'.2 fun hx=>hn (dx9 _ hx)⟩;rcases au9.1 hz with rfl|hz
   ·exact h
   ·exact hs'.1 z hz
  ·rw[cI3 h hs,dx5];refine⟨fun z hz=>?_,hs⟩;have hne:x≠y:=fun e=>hn (by simp[e]);rcases dt1.1 hz with rfl|hz
   ·omega
   ·have:=hs'.1 z hz;omega
theorem ay8{n:Int}:∀{l:List Int} {m:Int},l.Pairwise (· < ·)→(∀y∈l,m≤y∧y<n)→m≤n→(l.length:Int)≤n-m
 | [],m,_,_,hm=>by simp;omega
 | y::l,m,hs,hb,hm=>by
  have hs':=dx5.1 hs;have hy:=hb y (by simp);have:=ay8 (l:=l) (m:=y+1) hs'.2 (fun z hz=>⟨by have:=hs'.1 z hz;omega,(hb z (dx9 _ hz)).2⟩) (by omega);simp only[dt2];omega
structure D6 (n:Nat) (l:List (List Int)):Prop where
 len:l.length=n
 le:∀x∈l,x.Pairwise (· < ·)
 ok:∀x∈l,∀y∈x,H1 n y=true
theorem D6.row_len{n:Nat}{l:List (List Int)}(h:D6 n l){x:List Int}(hx:x∈l):x.length≤n:=by
 have:=ay8 (n:=n) (m:=0) (h.le x hx) (fun y hy=>C3.1 (h.ok x hx y hy)) (by omega);omega
theorem bi6(n:Nat):D6 n (List.replicate n []):=
 ⟨by simp,fun x hx=>by simp[dx2 hx],fun x hx y hy=>by simp[dx2 hx]at hy⟩
theorem D6.ins{n:Nat}{l:List (List Int)}(h:D6 n l){a b:Int}(hb:H1 n b=true)(ha:H1 n a=true)(hn:b∉C1 l a):D6 n (l.set a.toNat (aP5 (C1 l a) b)):=by
 have hm:=aq4 (nx:=l) (a:=a) (by rw[h.len];exact ha);refine⟨by simp[h.len],fun x hx=>?_,fun x hx y hy=>?_⟩
 ·rcases dz1 hx with h1|rfl
  ·exact h.le x h1
  ·exact ba9 (h.le _ hm) hn
 ·rcases dz1 hx with h1|rfl
  ·exact h.ok x h1 y hy
  ·rcases au9.1 hy with rfl|h1
   ·exact hb
   ·exact h.ok _ hm y h1
theorem bl2{n:Nat}{l:List (List Int)}(hl:l.length=n){a c:Int}{r:List Int}(ha:H1 n a=true):C1 (l.set a.toNat r) c=if c=a then r else C1 l c:=by
 have ha':=C3.1 ha;unfold C1;simp only[dy4];by_cases hc:0≤c∧c<l.length
 ·rw[if_pos hc,if_pos hc];by_cases h:c=a
  ·subst h;rw[if_pos rfl];have:c.toNat<l.length:=by omega
   simp[List.getD,this]
  ·rw[if_neg h];have:a.toNat≠c.toNat:=by omega
   simp[List.getD,this]
 ·rw[if_neg hc,if_neg hc,if_neg (by rintro rfl;exact hc (by omega))]
def ak9(g:List (List Int)×List (List Int))(e:Int×Int):List (List Int)×List (List Int):=(bO3 g.1 e.1 e.2,bO4 g.1 g.2 e.1 e.2)
def ai9(n:Nat)(edges:List (Int×Int)):List (List Int)×List (List Int):=edges.foldl ak9 (List.replicate n [],List.replicate n [])
structure aB6 (n:Nat) (g:List (List Int)×List (List Int)):Prop where
 nx:D6 n g.1
 pv:D6 n g.2
 both:∀a b,b∈C1 g.1 a↔a∈C1 g.2 b
theorem br3{n:Nat}{l:List (List Int)}(hl:l.length=n){a b:Int}:ak5 l a b=true↔H1 n a=true∧H1 n b=true∧b∉C1 l a:=by
 simp[ak5,hl,and_assoc]
theorem aB6.grow{n:Nat}{g:List (List Int)×List (List Int)}(h:aB6 n g)(e:Int×Int):aB6 n (ak9 g e) ∧
  ∀a b,b∈C1 (ak9 g e).1 a↔b∈C1 g.1 a∨((a,b)=e∧H1 n a=true∧H1 n b=true):=by
 obtain⟨x,y⟩:=e;by_cases hok:ak5 g.1 x y=true
 ·obtain⟨h1,h2,h3⟩:=(br3 h.nx.len).1 hok;have e1:ak9 g (x,y)=(g.1.set x.toNat (aP5 (C1 g.1 x) y),g.2.set y.toNat (aP5 (C1 g.2 y) x)):=by
   simp[ak9,bO3,bO4,hok]
  rw[e1];have h4:x∉C1 g.2 y:=fun hh=>h3 ((h.both x y).2 hh);refine⟨⟨h.nx.ins h2 h1 h3,h.pv.ins h1 h2 h4,fun a b=>?_⟩,fun a b=>?_⟩
  ·simp only[];rw[bl2 h.nx.len h1,bl2 h.pv.len h2];have:=h.both a b;by_cases ha:a=x<;>by_cases hb:b=y
   ·subst ha;subst hb;simp[au9]
   ·subst ha;rw[if_pos rfl,if_neg hb,au9,this];simp[hb]
   ·subst hb;rw[if_pos rfl,if_neg ha,au9,this];simp[ha]
   ·rw[if_neg ha,if_neg hb,this]
  ·simp only[];rw[bl2 h.nx.len h1];by_cases ha:a=x
   ·subst ha;rw[if_pos rfl,au9];constructor
    ·rintro(rfl|hh)
     ·exact .inr ⟨rfl,h1,h2⟩
     ·exact .inl hh
    ·rintro(hh|⟨hh,_⟩)
     ·exact .inr hh
     ·exact .inl (Prod.mk.inj hh).2
   ·rw[if_neg ha];constructor
    ·exact .inl
    ·rintro(hh|⟨hh,_⟩)
     ·exact hh
     ·exact absurd (Prod.mk.inj hh).1 ha
 ·have hno:ak5 g.1 x y=false:=by simpa using hok
  have e1:ak9 g (x,y)=g:=by
   simp[ak9,bO3,bO4,hno]
  rw[e1];refine⟨h,fun a b=>⟨.inl,?_⟩⟩;rintro(hh|⟨hh,h1,h2⟩)
  ·exact hh
  ·obtain⟨rfl,rfl⟩:=Prod.mk.inj hh;by_cases hb:b∈C1 g.1 a
   ·exact hb
   ·exact absurd ((br3 h.nx.len).2 ⟨h1,h2,hb⟩) hok
theorem bU1(n:Nat)(a:Int):C1 (List.replicate n []) a=[]:=by
 unfold C1;split
 ·simp[List.getD,dB1];split<;>rfl
 ·rfl
theorem ba7(n:Nat):aB6 n (List.replicate n [],List.replicate n []):=
 ⟨bi6 n,bi6 n,fun a b=>by simp[bU1]⟩
theorem aB6.grows{n:Nat}:∀(edges:List (Int×Int)) {g:List (List Int)×List (List Int)},aB6 n g→aB6 n (edges.foldl ak9 g) ∧
  ∀a b,b∈C1 (edges.foldl ak9 g).1 a↔b∈C1 g.1 a∨((a,b)∈edges∧H1 n a=true∧H1 n b=true)
 | [],g,h=>⟨h,fun a b=>by simp⟩
 | e::es,g,h=>by
  obtain⟨h1,h2⟩:=h.grow e;obtain⟨h3,h4⟩:=h1.grows es;refine⟨h3,fun a b=>?_⟩;rw[List.foldl_cons,h4,h2,dt1];constructor
  ·rintro((h|h)|h)
   ·exact .inl h
   ·exact .inr ⟨.inl h.1,h.2⟩
   ·exact .inr ⟨.inr h.1,h.2⟩
  ·rintro(h|⟨h|h,h5⟩)
   ·exact .inl (.inl h)
   ·exact .inl (.inr ⟨h,h5⟩)
   ·exact .inr ⟨h,h5⟩
theorem ag1(n:Nat)(edges:List (Int×Int)):aB6 n (ai9 n edges):=(ba7 n |>.grows edges).1
theorem D6.row{n:Nat}{l:List (List Int)}(h:D6 n l)(a:Int):(C1 l a).Pairwise (· < ·)∧(∀y∈C1 l a,H1 n y=true):=by
 by_cases ha:H1 l.length a=true
 ·exact⟨h.le _ (aq4 ha),h.ok _ (aq4 ha)⟩
 ·rw[aR3 (by simpa using ha)];exact⟨List.Pairwise.nil,fun y hy=>by cases hy⟩
section
variable {α:Type}
def bH7(le:α→α→Bool)(x:α):List α→List α
 | []=>[x]
 | y::l=>if le x y then x::y::l else y::bH7 le x l
def V9(le:α→α→Bool):List α→List α
 | []=>[]
 | x::l=>bH7 le x (V9 le l)
def ai4(eq:α→α→Bool)(p:α):List α→List α
 | []=>[]
 | y::l=>if eq y p then ai4 eq y l else y::ai4 eq y l
def ae8(eq:α→α→Bool):List α→List α
 | []=>[]
 | x::l=>x::ai4 eq x l
theorem aU9(le:α→α→Bool)(x:α):∀l,(bH7 le x l).Perm (x::l)
 | []=>by simp[bH7]
 | y::l=>by
  rw[bH7];split
  ·exact List.Perm.refl _
  ·exact(List.Perm.cons y (aU9 le x l)).trans (List.Perm.swap _ _ _)
theorem G5(le:α→α→Bool):∀l,(V9 le l).Perm l
 | []=>by simp[V9]
 | x::l=>by rw[V9];exact(aU9 le x _).trans (List.Perm.cons x (G5 le l))
theorem ba8{le:α→α→Bool}{x:α}:∀{l:List α},(∀a∈x::l,∀b∈x::l,le a b=true∨le b a=true)→(∀a∈x::l,∀b∈x::l,∀c∈x::l,le a b=true→le b c=true→le a c=true) →
  l.Pairwise (fun a b=>le a b=true)→(bH7 le x l).Pairwise (fun a b=>le a b=true)
 | [],_,_,_=>by simp[bH7]
 | y::l,ht,htr,hs=>by
  rw[bH7];rw[dx5]at hs;split
  ·next h=>
   rw[dx5];refine⟨fun z hz=>?_,by rw[dx5];exact hs⟩;rcases dt1.1 hz with rfl|hz
   ·exact h
   ·exact htr x (by simp) y (by simp) z (by simp[hz]) h (hs.1 z hz)
  ·next h=>
   have hyx:le y x=true:=by
    rcases ht x (by simp) y (by simp)with h1|h1
    ·exact absurd h1 h
    ·exact h1
   rw[dx5];refine⟨fun z hz=>?_,ba8 (fun a ha b hb=>ht a ?_ b ?_) (fun a ha b hb c hc=>htr a ?_ b ?_ c ?_) hs.2⟩
   ·have:=(aU9 le x l).mem_iff.1 hz;rcases dt1.1 this with rfl|hz
    ·exact hyx
    ·exact hs.1 z hz
   all_goals simp only[dt1]at *
   ·rcases ha with h|h<;>simp[h]
   ·rcases hb with h|h<;>simp[h]
   ·rcases ha with h|h<;>simp[h]
   ·rcases hb with h|h<;>simp[h]
   ·rcases hc with h|h<;>simp[h]
theorem am1{le:α→α→Bool}:∀{l:List α},(∀a∈l,∀b∈l,le a b=true∨le b a=true)→(∀a∈l,∀b∈l,∀c∈l,le a b=true→le b c=true→le a c=true) →
  (V9 le l).Pairwise (fun a b=>le a b=true)
 | [],_,_=>by simp[V9]
 | x::l,ht,htr=>by
  have hm:∀a,a∈x::V9 le l↔a∈x::l:=fun a=>by simp only[dt1,(G5 le l).mem_iff]
  rw[V9];refine ba8 (fun a ha b hb=>ht a ((hm a).1 ha) b ((hm b).1 hb)) (fun a ha b hb c hc=>htr a ((hm a).1 ha) b ((hm b).1 hb) c ((hm c).1 hc)) ?_;exact am1 (fun a ha b hb=>ht a (by simp[ha]) b (by simp[hb])) (fun a ha b hb c hc=>htr a (by simp[ha]) b (by simp[hb]) c (by simp[hc]))
theorem ay9{le:α→α→Bool}:∀{l m:List α},l.Perm m→(∀a∈l,∀b∈l,le a b=true→le b a=true→a=b)→l.Pairwise (fun a b=>le a b=true)→m.Pairwise (fun a b=>le a b=true)→l=m
 | [],m,hp,_,_,_=>by simpa using hp.symm
 | x::l,[],hp,_,_,_=>by simpa using hp
 | x::l,y::m,hp,ha,h1,h2=>by
  rw[dx5]at h1 h2;have hxy:x=y:=by
   have hx:x∈y::m:=hp.mem_iff.1 (by simp);have hy:y∈x::l:=hp.mem_iff.2 (by simp);rcases dt1.1 hx with h|hx
   ·exact h
   rcases dt1.1 hy with h|hy
   ·exact h.symm
   exact ha x (by simp) y (by simp[hy]) (h1.1 y hy) (h2.1 x hx)
  subst hxy;rw[ay9 ((List.perm_cons x).1 hp) (fun a h b h'=>ha a (by simp[h]) b (by simp[h'])) h1.2 h2.2]
end
def aA2(l:List St)(o:Int):Int:=match l with
 | []=>o
 | t::_=>t.id
def Sh.goes(s:Sh)(it:It):List Int:=
 if it.s.kind=5 then[aA2 it.s.thn it.next,aA2 it.s.els it.next]
 else if it.s.kind=6 then[aA2 it.s.thn it.s.id,it.next]
 else if it.s.kind=7 then[(s.it it.loop).next]
 else if it.s.kind=8 then[it.loop]
 else if it.s.kind=9 then[-1]
 else if it.s.kind=10 then[(s.at it.proc it.s.name).getD 0]
 else[it.next]
def E3(p:Int):Int:=if p = -1 then 9223372036854775807 else p
def J4(a b:Int):Int:=if a<b then -1 else if b<a then 1 else 0
def orF:List Int→Int
 | []=>0
 | x::l=>if x=0 then orF l else x
def spC(a b:Sp):Int:=orF [J4 (E3 a.src) (E3 b.src),J4 (E3 a.dst) (E3 b.dst),J4 a.kind b.kind]
def cK8(a b:Sp):Bool:=decide (spC a b≤0)
def aS1(a b:Sp):Bool:=decide (a.src=b.src)&&decide (a.dst=b.dst)
def ar0(l:List Sp):List Sp:=ae8 aS1 (V9 cK8 l)
def Sh.steps(s:Sh)(i:Nat):List Sp:=ar0 (⟨0,s.first i,1⟩::(s.of i).flatMap fun it=>(s.goes it).map fun t=>⟨it.s.id,t,1⟩)
structure Wy where
 s:Sh
 proc:Int
 n:Int
 real:List Sp
 live:List Bool
def Wy.index(w:Wy)(p:Int):Int:=if p=0 then 0 else if p = -1 then w.n-1 else if V1 w.s.lo w.proc≤p∧p<V1 w.s.hi w.proc then p-V1 w.s.lo w.proc+1 else -1
def Wy.place(w:Wy)(i:Int):Int:=if i=0 then 0 else if i=w.n-1 then -1 else V1 w.s.lo w.proc+i-1
def atB(l:List Bool)(i:Int):Bool:=l.getD i.toNat false
def Wy.lives(w:Wy)(id:Int):Bool:=atB w.live (w.index id)
def Wy.pairs(w:Wy)(l:List Sp):List (Int×Int):=l.map fun t=>(w.index t.src,w.index t.dst)
def O9(nx:List (List Int)):Nat→List Int→List Int
 | 0,l=>l
 | n+1,l=>O9 nx n (l++((l.flatMap (C1 nx)).filter fun b=>!l.contains b).eraseDups)
def T4(nx:List (List Int))(a:Int)(b:Int):Bool:=H1 nx.length a&&(O9 nx nx.length [a]).contains b
def bu2(nx:List (List Int)):List Bool:=(List.range nx.length).map fun b=>T4 nx 0 (b:Nat)
def ad6(nx:List (List Int)):List Int:=(List.range nx.length).map fun a=>(((List.range nx.length).find? fun b=>T4 nx (a:Nat) (b:Nat)&&T4 nx (b:Nat) (a:Nat)).getD 0:Nat)
def E2(s:Sh)(i:Nat):Wy:=
 let w:Wy:=⟨s,i,V1 s.hi i-V1 s.lo i+2,s.steps i,[]⟩
 {w with live:=bu2 (ai9 w.n.toNat (w.pairs w.real)).1}
def Wy.traps(w:Wy):List (List Int):=
 let part:=ad6 (ai9 w.n.toNat (w.pairs w.real)).1
 let op:=V1 part 0::V1 part (w.n-1)::((w.pairs w.real).filter fun t=>!decide (V1 part t.1=V1 part t.2)).map fun t=>V1 part t.1
 ((List.range part.length).filter fun(i:Nat)=>decide (V1 part (i:Int)=(i:Int)) && !op.contains (i:Int)).map fun(i:Nat)=>((List.range part.length).filter fun(j:Nat)=>decide (V1 part (j:Int)=(i:Int))).map fun(j:Nat)=>w.place (j:Int)
def Wy.virtual(w:Wy):List Sp:=w.traps.flatMap fun l=>(l.filter fun id=>decide ((w.s.it id).s.kind=10)).map fun id=>⟨id,-1,3⟩
def Wy.data(w:Wy):List Sp:=ar0 (w.virtual++w.real)
def U7(it:It):List Sp:=if it.s.kind=7∨it.s.kind=8∨it.s.kind=9∨it.s.kind=10 then[⟨it.s.id,it.next,2⟩]else[]
def Wy.aug(w:Wy):List Sp:=ar0 (w.virtual++w.real++[⟨0,-1,2⟩]++(w.s.of w.proc).flatMap U7)
def al8(n:Nat)(l:List (Int×Int)):List (List Int):=(List.range n).map fun(a:Nat)=>(l.filter fun t=>decide (t.1=(a:Int))).map (·.2)
def Wy.net(w:Wy):List (List Int):=al8 w.n.toNat (w.pairs w.data)
def X5(f:List (List Bool))(some_:List Int):List Bool:=(List.range f.length).map fun(b:Nat)=>some_.all fun a=>atB (f.getD a.toNat []) (b:Int)
def Q9(next:List (List Int))(f:List (List Bool))(a:Nat):List (List Bool):=f.set a ((X5 f (next.getD a [])).set a true)
def M3(next:List (List Int))(f:List (List Bool)):Nat→List (List Bool)
 | 0=>f
 | a+1=>M3 next (Q9 next f a) a
def Z9(next:List (List Int))(m:Nat):Nat→List (List Bool)→List (List Bool)
 | 0,f=>f
 | k+1,f=>Z9 next m k (M3 next f m)
def R7(n:Nat):List (List Bool):=(List.range n).map fun a=>(List.range n).map fun b=>decide (a+1<n)||decide (a=b)
def Wy.follow(w:Wy):List (List Bool):=Z9 (al8 w.n.toNat (w.pairs w.aug)) (w.n.toNat-1) (w.n.toNat*w.n.toNat+1) (R7 w.n.toNat)
def Wy.decides(w:Wy):List (Int×Int):=
 let f:=w.follow
 let ps:=w.pairs w.aug
 (List.range w.n.toNat).flatMap fun(a:Nat)=>((List.range w.n.toNat).filter fun(b:Nat)=>decide (1≤b)&&decide ((b:Int)<w.n-1)&&ps.any fun t=>decide (t.1=(a:Int))&&atB (f.getD t.2.toNat []) (b:Int)&&(decide (a=b) || !atB (f.getD a []) (b:Int))).map fun(b:Nat)=>(w.place (a:Int),w.place (b:Int))
def dy3:=@List.filter_append
def dB9:=@List.range_succ
def dE2:=@decide_eq_false_iff_not
theorem aP9{a b:A7}:ltS a b=true↔a.b<b.b:=by
 unfold ltS;rw[bytesLess_eq,decide_eq_true_iff]
theorem X0{a b:A7}:ltS a b=false↔b.b≤a.b:=by
 rw[←Bool.not_eq_true,aP9];exact dy2
theorem aV3{a b c:A7}(h1:a.b≤b.b)(h2:b.b≤c.b):a.b≤c.b:=List.le_trans h1 h2
theorem ax4{a b:A7}(h1:a.b≤b.b)(h2:b.b≤a.b):a=b:=by
 have:=List.le_antisymm h1 h2;cases a;cases b;simp_all
theorem N2(a:A7):ltS a a=false:=X0.2 (List.le_refl _)
theorem an2{a b c:A7}(h1:ltS a b=true)(h2:ltS b c=true):ltS a c=true:=aP9.2 (List.lt_trans (aP9.1 h1) (aP9.1 h2))
theorem cb9{a b:A7}(h1:ltS a b=false)(h2:ltS b a=false):a=b:=ax4 (X0.1 h2) (X0.1 h1)
theorem aV0(x:A7):∀l,(bH8 x l).Perm (x::l)
 | []=>by simp[bH8]
 | y::l=>by
  rw[bH8];split
  ·exact(List.Perm.cons y (aV0 x l)).trans (List.Perm.swap _ _ _)
  ·exact List.Perm.refl _
theorem W0:∀l,(S8 l).Perm l
 | []=>by simp[S8]
 | x::l=>by rw[S8];exact(aV0 x _).trans (List.Perm.cons x (W0 l))
theorem bb0(x:A7):∀{l:List A7},l.Pairwise (fun a b=>a.b≤b.b)→(bH8 x l).Pairwise (fun a b=>a.b≤b.b)
 | [],_=>by simp[bH8]
 | y::l,hs=>by
  rw[bH8];have hs':=hs;rw[dx5]at hs;split
  ·next h=>
   rw[dx5];refine⟨fun z hz=>?_,bb0 x hs.2⟩;rcases dt1.1 ((aV0 x l).mem_iff.1 hz)with rfl|hz
   ·exact List.le_of_lt (aP9.1 h)
   ·exact hs.1 z hz
  ·next h=>
   have h':=X0.1 (dB2.2 h);rw[dx5];refine⟨fun z hz=>?_,hs'⟩;rcases dt1.1 hz with rfl|hz
   ·exact h'
   ·exact aV3 h' (hs.1 z hz)
theorem ay7:∀l,(S8 l).Pairwise (fun a b=>a.b≤b.b)
 | []=>by simp[S8]
 | x::l=>by rw[S8];exact bb0 x (ay7 l)
theorem S3(l:List A7):(S8 l).length=l.length:=(W0 l).length_eq
theorem bL7(l:List A7):((l.map (·.b)).mergeSort fun x y=>decide (x≤y))=(S8 l).map (·.b):=by
 refine ay9 (le:=fun x y:List UInt8=>decide (x≤y)) ?_ ?_ ?_ ?_
 ·exact(List.mergeSort_perm _ _).trans ((W0 l).map _).symm
 ·intro a _ b _ h1 h2;have h1':a≤b:=dr0 h1;have h2':b≤a:=dr0 h2;exact List.le_antisymm h1' h2'
 ·refine List.pairwise_mergeSort (le:=fun x y:List UInt8=>decide (x≤y)) (fun a b c h1 h2=>?_) (fun a b=>?_) _
  ·have h1':a≤b:=dr0 h1;have h2':b≤c:=dr0 h2;exact du9 (List.le_trans h1' h2')
  ·rcases List.le_total a b with h|h<;>simp[h]
 ·rw[List.pairwise_map];exact(ay7 l).imp fun{a b} h=>du9 h
theorem bg6{α:Type}[DecidableEq α]:∀(l:List α) (y:α),I6 (l++[y])=if l.getLast?=some y then I6 l else I6 l++[y]
 | [],y=>by simp[I6]
 | [x],y=>by
  by_cases h:x=y
  ·subst h;simp[I6]
  ·simp[I6,h]
 | x::z::l,y=>by
  have ih:=bg6 (z::l) y;rw[dC0,dC0,I6,←dC0,ih,List.getLast?_cons_cons,I6];by_cases h1:x=z<;>by_cases h2:(z::l).getLast?=some y<;>simp only[h1,h2,dx1,dy5,dC0]
theorem bs8(d:Array (List UInt8)):∀m,m≤d.size→Lib.compactUpTo d m=I6 (d.toList.take m)
 | 0,_=>by simp[Lib.compactUpTo,I6]
 | m+1,hm=>by
  have ih:=bs8 d m (by omega);have hlt:m<d.toList.length:=by simp;omega
  have hg:d[m]! = d.toList[m]:=by
   rw[getElem!_pos d m (by omega)];simp
  rw[dr6 hlt,bg6,←ih];have h1:Lib.compactUpTo d (m+1)=Lib.compactUpTo d m++(if Lib.keeps d m then[d[m]!]else[]):=by
   simp only[Lib.compactUpTo,dB9,dy3,du1]
   congr 1
   by_cases hk:Lib.keeps d m=true
   ·simp[hk]
   ·simp[hk]
  rw[h1,hg];by_cases h0:m=0
  ·subst h0;simp[Lib.keeps,Lib.compactUpTo]
  ·have hlast:(d.toList.take m).getLast?=some d[m-1]!:=by
    rw[List.getLast?_eq_getElem?,ds3,dy0 (by omega),dA9,if_pos (by omega),getElem!_pos d (m-1) (by omega)];simp[show m-1<d.size by omega]
   rw[hlast];by_cases he:d.toList[m]=d[m-1]!
   ·have hk:Lib.keeps d m=false:=by simp only[Lib.keeps,dE2,hg,h0,false_or,ne_eq];exact fun h=>h he
    rw[hk,if_pos (ds7 some he.symm)];simp
   ·have hk:Lib.keeps d m=true:=by simp only[Lib.keeps,du7];rw[hg];exact .inr he
    rw[hk,if_neg (fun e=>he (ds8 e).symm)];simp
theorem bs9{α β:Type}[DecidableEq α][DecidableEq β]{g:α→β}(hg:∀a b,g a=g b→a=b):∀l:List α,I6 (l.map g)=(I6 l).map g
 | []=>by simp[I6]
 | [x]=>by simp[I6]
 | x::y::l=>by
  have ih:=bs9 hg (y::l);rw[dv6]at ih;rw[dv6,dv6,I6,I6,ih];by_cases h:x=y
  ·rw[if_pos h,if_pos (by rw[h])]
  ·rw[if_neg h,if_neg (fun e=>h (hg _ _ e)),dv6]
theorem bp7(l:List A7):Lib.compact (l.map (·.b))=(I6 l).map (·.b):=by
 unfold Lib.compact;have:=bs8 (l.map (·.b)).toArray (l.map (·.b)).length (by simp);rw[this];simp only[ds2];exact bs9 (fun a b h=>by cases a;cases b;simpa using h) l
theorem aG4{α:Type}[DecidableEq α]:∀l:List α,(I6 l).length≤l.length
 | []=>by simp[I6]
 | [x]=>by simp[I6]
 | x::y::l=>by
  have ih:=aG4 (y::l);rw[I6];split<;>simp only[dt2]at * <;> omega
theorem aG5{α:Type}[DecidableEq α]{z:α}:∀l:List α,z∈I6 l↔z∈l
 | []=>by simp[I6]
 | [x]=>by simp[I6]
 | x::y::l=>by
  have ih:=aG5 (z:=z) (y::l);rw[I6];split
  ·next h=>subst h;rw[ih];simp
  ·rw[dt1,ih,dt1 (b:=x)]
theorem aL6:∀{l:List A7},l.Pairwise (fun a b=>a.b≤b.b)→(I6 l).Pairwise (fun a b=>ltS a b=true)
 | [],_=>by simp[I6]
 | [x],_=>by simp[I6]
 | x::y::l,h=>by
  have h':=h;rw[dx5]at h;rw[I6];split
  ·exact aL6 h.2
  ·next hne=>
   rw[dx5];refine⟨fun z hz=>?_,aL6 h.2⟩;have hz':=(aG5 _).1 hz;have hxy:=h.1 y (by simp);have hlt:ltS x y=true:=by
    cases hq:ltS x y
    ·exact absurd (ax4 hxy (X0.1 hq)) hne
    ·rfl
   rcases dt1.1 hz' with rfl|hz'
   ·exact hlt
   ·rw[dx5]at h;have:=h.2.1 z hz';cases hq:ltS x z
    ·have h3:=X0.1 hq;have:y=x:=ax4 (aV3 this h3) hxy;exact absurd this.symm hne
    ·rfl
theorem Q5(l:List A7):(C9 l).Pairwise (fun a b=>ltS a b=true):=aL6 (ay7 l)
theorem Q4{l:List A7}{x:A7}:x∈C9 l↔x∈l:=by rw[C9,aG5,(W0 l).mem_iff]
theorem as5(l:List A7):(C9 l).length≤l.length:=dr7 (aG4 _) (by rw[S3];exact ds5 _)
theorem bK3:∀{l m:List A7},l.Pairwise (fun a b=>ltS a b=true)→m.Pairwise (fun a b=>ltS a b=true)→(∀x,x∈l↔x∈m)→l=m
 | [],[],_,_,_=>rfl
 | [],y::m,_,_,h=>by have:=(h y).2 (by simp);simp at this
 | x::l,[],_,_,h=>by have:=(h x).1 (by simp);simp at this
 | x::l,y::m,h1,h2,h=>by
  rw[dx5]at h1 h2;have hxy:x=y:=by
   rcases dt1.1 ((h x).1 (by simp))with e|hx
   ·exact e
   rcases dt1.1 ((h y).2 (by simp))with e|hy
   ·exact e.symm
   have a1:=h1.1 y hy;have a2:=h2.1 x hx;have:=an2 a1 a2;rw[N2]at this;cases this
  subst hxy;rw[bK3 h1.2 h2.2 fun z=>?_];have hz:=h z;simp only[dt1]at hz;constructor
  ·intro hm;rcases hz.1 (.inr hm)with e|hm'
   ·subst e;have:=h1.1 z hm;rw[N2]at this;cases this
   ·exact hm'
  ·intro hm;rcases hz.2 (.inr hm)with e|hm'
   ·subst e;have:=h2.1 z hm;rw[N2]at this;cases this
   ·exact hm'
end Go.Proofs.YtcbnbgpphippoaaGreat
namespace Go.Proofs
open Go.Shelf
def Tryz.lyS_ren:Go.Shelf.Ren:=⟨fun|190=>67|125=>105|258=>114|128=>165|129=>166|302=>170|303=>171|304=>172|305=>173|306=>174|307=>175|308=>176|309=>177|310=>178|333=>231|329=>219|330=>220|334=>232|335=>233|336=>140|344=>259|n=>n,fun|31=>22|9=>9|3=>3|46=>165|0=>0|51=>218|53=>220|4=>4|183=>212|182=>211|131=>192|5=>5|218=>257|222=>261|228=>285|229=>286|n=>n,fun|n=>n⟩
theorem Tryz.lyS:Go.Proofs.Lays.n190 Tryz.prog Tryz.lyS_ren:={
 mixed:=by kernel_rfl
 f125:=Tryz.func105.trans (congrArg some (by kernel_rfl))
 f128:=Tryz.func165.trans (congrArg some (by kernel_rfl))
 f129:=Tryz.func166.trans (congrArg some (by kernel_rfl))
 f190:=Tryz.func67.trans (congrArg some (by kernel_rfl))
 f258:=Tryz.func114.trans (congrArg some (by kernel_rfl))
 f302:=Tryz.func170.trans (congrArg some (by kernel_rfl))
 f303:=Tryz.func171.trans (congrArg some (by kernel_rfl))
 f304:=Tryz.func172.trans (congrArg some (by kernel_rfl))
 f305:=Tryz.func173.trans (congrArg some (by kernel_rfl))
 f306:=Tryz.func174.trans (congrArg some (by kernel_rfl))
 f307:=Tryz.func175.trans (congrArg some (by kernel_rfl))
 f308:=Tryz.func176.trans (congrArg some (by kernel_rfl))
 f309:=Tryz.func177.trans (congrArg some (by kernel_rfl))
 f310:=Tryz.func178.trans (congrArg some (by kernel_rfl))
 f329:=Tryz.func219.trans (congrArg some (by kernel_rfl))
 f330:=Tryz.func220.trans (congrArg some (by kernel_rfl))
 f333:=Tryz.func231.trans (congrArg some (by kernel_rfl))
 f334:=Tryz.func232.trans (congrArg some (by kernel_rfl))
 f335:=Tryz.func233.trans (congrArg some (by kernel_rfl))
 f336:=Tryz.func140.trans (congrArg some (by kernel_rfl))
 f344:=Tryz.func259.trans (congrArg some (by kernel_rfl))
 t0:=Tryz.underlying0
 a0:=Tryz.isAgg0
 z0:=Tryz.sizeOf0
 v0:=Tryz.zeroValue0
 t3:=Tryz.underlying3
 a3:=Tryz.isAgg3
 z3:=Tryz.sizeOf3
 v3:=Tryz.zeroValue3
 t4:=Tryz.underlying4
 a4:=Tryz.isAgg4
 z4:=Tryz.sizeOf4
 v4:=Tryz.zeroValue4
 t5:=Tryz.underlying5
 a5:=Tryz.isAgg5
 z5:=Tryz.sizeOf5
 v5:=Tryz.zeroValue5
 t9:=Tryz.underlying9
 a9:=Tryz.isAgg9
 z9:=Tryz.sizeOf9
 v9:=Tryz.zeroValue9
 t31:=Tryz.underlying22
 a31:=Tryz.isAgg22
 z31:=Tryz.sizeOf22
 v31:=Tryz.zeroValue22
 t46:=Tryz.underlying165
 a46:=Tryz.isAgg165
 z46:=Tryz.sizeOf165
 v46:=Tryz.zeroValue165
 t51:=Tryz.underlying218
 a51:=Tryz.isAgg218
 z51:=Tryz.sizeOf218
 v51:=Tryz.zeroValue218
 t53:=Tryz.underlying220
 a53:=Tryz.isAgg220
 z53:=Tryz.sizeOf220
 v53:=Tryz.zeroValue220
 t131:=Tryz.underlying192
 a131:=Tryz.isAgg192
 z131:=Tryz.sizeOf192
 v131:=Tryz.zeroValue192
 t182:=Tryz.underlying211
 a182:=Tryz.isAgg211
 z182:=Tryz.sizeOf211
 v182:=Tryz.zeroValue211
 t183:=Tryz.underlying212
 a183:=Tryz.isAgg212
 z183:=Tryz.sizeOf212
 v183:=Tryz.zeroValue212
 t218:=Tryz.underlying257
 a218:=Tryz.isAgg257
 z218:=Tryz.sizeOf257
 v218:=Tryz.zeroValue257
 t222:=Tryz.underlying261
 a222:=Tryz.isAgg261
 z222:=Tryz.sizeOf261
 v222:=Tryz.zeroValue261
 t228:=Tryz.underlying285
 a228:=Tryz.isAgg285
 z228:=Tryz.sizeOf285
 v228:=Tryz.zeroValue285
 t229:=Tryz.underlying286
 a229:=Tryz.isAgg286
 z229:=Tryz.sizeOf286
 v229:=Tryz.zeroValue286}
def Tryz.lyK_ren:Go.Shelf.Ren:=⟨fun|194=>125|n=>n,fun|31=>22|9=>9|3=>3|4=>4|0=>0|n=>n,fun|n=>n⟩
theorem Tryz.lyK:Go.Proofs.Lays.n194 Tryz.prog Tryz.lyK_ren:={
 mixed:=by kernel_rfl
 f194:=Tryz.func125.trans (congrArg some (by kernel_rfl))
 t0:=Tryz.underlying0
 a0:=Tryz.isAgg0
 z0:=Tryz.sizeOf0
 v0:=Tryz.zeroValue0
 t3:=Tryz.underlying3
 a3:=Tryz.isAgg3
 z3:=Tryz.sizeOf3
 v3:=Tryz.zeroValue3
 t4:=Tryz.underlying4
 a4:=Tryz.isAgg4
 z4:=Tryz.sizeOf4
 v4:=Tryz.zeroValue4
 t9:=Tryz.underlying9
 a9:=Tryz.isAgg9
 z9:=Tryz.sizeOf9
 v9:=Tryz.zeroValue9
 t31:=Tryz.underlying22
 a31:=Tryz.isAgg22
 z31:=Tryz.sizeOf22
 v31:=Tryz.zeroValue22}
end Go.Proofs
namespace Go.Proofs.YtcbnbgpphippoaaGreat
open Go Tryz
def dC8:=@Array.getElem?_toList
def dD7:=@List.ext_getElem?
def du5:=@List.getElem?_map
def dz7:=@List.take_append_of_le_length
section
open Go.Sort
theorem da5:(Tryz.lyS_ren.f 190)=67:=by kernel_rfl
theorem da4:(Tryz.lyK_ren.f 194)=125:=by kernel_rfl
section
variable {α:Type} [Inhabited α]
theorem bq7(enc:α→Value)(d:Array α)(cur:Array Value)(h:d.size≤cur.size):(putCells enc 0 d cur).toList=d.toList.map enc++cur.toList.drop d.size:=by
 apply dD7;intro k;rw[dC8];unfold putCells;rw[Array.getElem?_mapIdx];rcases dv3 k d.size with hk|hk
 ·rw[dw2 (by simpa using hk),dz9 (by omega)];simp[hk]
 ·rw[dv7 (by simpa using hk),dA8,dr9,dE0,show d.size+(k-d.size)=k by omega];rcases dv3 k cur.size with hc|hc
  ·simp[hc,show ¬k<d.size by omega]
  ·simp[show cur.size≤k by omega]
theorem bB8{w:World}{b:Nat}{T:TypeId}{cur:Array Value}(hh:w.heap[b]?=some (.cells cur T (0,0)))(enc:α→Value)(d:Array α)(h:d.size≤cur.size)(n:Nat)(os:Array Obj):
  (grow (putRow enc (Go.Sort.ahead w n) b 0 d) os).heap[b]?=some (.cells (d.toList.map enc++cur.toList.drop d.size).toArray T (0,0))∧t8 (fun c=>c=b) w (grow (putRow enc (Go.Sort.ahead w n) b 0 d) os):=by
 have hb:b<w.heap.size:=(dr3.1 hh).1;have hsz:(putRow enc (Go.Sort.ahead w n) b 0 d).heap.size=w.heap.size:=by rw[size_putRow];rfl
 have hg:∀c,(putRow enc (Go.Sort.ahead w n) b 0 d).heap[c]?=if b=c then(w.heap[c]?).map (onCells (putCells enc 0 d))else w.heap[c]?:=fun c=>by
  unfold putRow mapBlock;rw[Array.getElem?_modify];split<;>rfl
 refine⟨?_,⟨rfl,rfl,rfl,?_,fun c hc hne=>?_⟩⟩
 ·show((putRow enc (Go.Sort.ahead w n) b 0 d).heap++os)[b]?=_;rw[Array.getElem?_append_left (by rw[hsz];exact hb),hg b,if_pos rfl,hh];simp only[dx7,onCells,←bq7 enc d cur h,Array.toArray_toList]
 ·show w.heap.size≤((putRow enc (Go.Sort.ahead w n) b 0 d).heap++os).size;rw[Array.size_append,hsz];omega
 ·show((putRow enc (Go.Sort.ahead w n) b 0 d).heap++os)[c]?=_;rw[Array.getElem?_append_left (by rw[hsz];exact hc),hg c,if_neg (fun e=>hne e.symm)]
end
theorem au4{h:Hp}{cs:List Value}{l:List A7}:N1 h cs l↔cs=l.map o9:=by
 induction l generalizing cs with
 | nil=>simp[N1]
 | cons x l ih=>
  rw[N1];constructor
  ·rintro⟨c1,c2,rfl,h1,h2⟩;have:c1=[o9 x]:=h1;rw[this,ih.1 h2];rfl
  ·rintro rfl;exact⟨[o9 x],l.map o9,rfl,rfl,ih.2 rfl⟩
section
variable {h:Hp} {w:World} {v:Value} {l:List A7}
theorem bJ8(ho:B0 h w 9 v l):(v = .slice none 0 0∧l=[])∨∃b c cur,v = .slice (some ⟨b,0,none⟩) l.length c∧h b=none∧w.heap[b]?=some (.cells cur 9 (0,0))∧l.length≤c∧c≤maxLen∧cur.size=c∧cur.toList.take l.length=l.map o9:=by
 rcases ho with hn|⟨b,c,cur,rfl,h1,h2,h3,h4,h5,h6⟩
 ·exact .inl hn
 ·have e:A3.sz A7=1:=rfl;rw[e,dA7]at h5 h6;exact .inr ⟨b,c,cur,rfl,h1,h2,h3,h4,h5,au4.1 h6⟩
theorem bb5{b c:Nat}{cur:Array Value}(h1:h b=none)(h2:w.heap[b]?=some (.cells cur 9 (0,0)))(h3:l.length≤c)(h4:c≤maxLen)(h5:cur.size=c)(h6:cur.toList.take l.length=l.map o9):
  B0 h w 9 (.slice (some ⟨b,0,none⟩) l.length c) l:=by
 have e:A3.sz A7=1:=rfl;refine .inr ⟨b,c,cur,rfl,h1,h2,h3,h4,by rw[e,h5,dA7],?_⟩;rw[e,dA7,h6];exact au4.2 rfl
theorem bj0{b:Nat}{cur:Array Value}(h2:w.heap[b]?=some (.cells cur 9 (0,0)))(h6:cur.toList.take l.length=l.map o9):Holds encStr w b 0 (l.map A7.b).toArray:=fun j hj=>by
 have hj':j<l.length:=by simpa using hj
 rw[du4,dy8 w b j cur _ (0,0) h2];have h7:=ds7 (fun z=>z[j]?) h6;simp only[dA9,if_pos hj',du5,dq7 hj',dx7]at h7;refine⟨?_,frozen_of_row w b j cur _ h2⟩;rw[getElem!_pos _ j hj];simpa[o9]using h7
theorem cn9(ho:B0 h w 9 v l)(hl:l.length≤1000000000):
  Calls prog 67 #[v] w fun e w'=>e = .returned (.tuple #[])∧B0 h w' 9 v (S8 l)∧t8 (A4 v) w w':=by
 rw[←da5];rcases bJ8 ho with⟨rfl,rfl⟩|⟨b,c,cur,rfl,h1,h2,h3,h4,h5,h6⟩
 ·refine(Any.slices_Sort_string_none Tryz.lyS none 0 w).mono ?_;rintro e w' ⟨rfl,rfl⟩;exact⟨rfl,B0.nil _ _ _,t8.refl _⟩
 ·have hb:b<w.heap.size:=(dr3.1 h2).1;have:=Any.slices_Sort_string Tryz.lyS b 0 c (l.map A7.b) w (bj0 h2 h6) hb (by rw[dr9];omega);rw[dr9]at this;refine this.mono ?_;rintro e w' ⟨rfl,n,os,rfl⟩;rw[bL7];obtain⟨k1,k2⟩:=bB8 h2 encStr ((S8 l).map A7.b).toArray (by simp[S3];omega) n os;refine⟨rfl,?_,k2.weaken fun _ _ e=>by subst e;rfl⟩;have hlen:=S3 l;rw[←hlen]at h3 ⊢;refine bb5 h1 k1 h3 h4 ?_ ?_
  ·simp[S3];omega
  ·simp only[List.map_map];rw[dz7 (by simp),dv8 (by simp)];rfl
theorem aU3(ho:B0 h w 9 v l)(hl:l.length≤1000000000):
  p7 prog 125 #[v] w fun u w'=>(B0 h w' 9 u (I6 l)∧t8 (A4 v) w w'∧D7 w v u):=by
 rw[←da4];rcases bJ8 ho with⟨rfl,rfl⟩|⟨b,c,cur,rfl,h1,h2,h3,h4,h5,h6⟩
 ·refine(Any.slices_Compact_string_empty Tryz.lyK none 0 w).mono ?_;rintro e w' ⟨rfl,rfl⟩;exact⟨_,rfl,B0.nil _ _ _,t8.refl _,fun b hb=>.inl hb⟩
 ·have:=Any.slices_Compact_string Tryz.lyK b 0 c (l.map A7.b) w (bj0 h2 h6) (by rw[dr9];omega) (by rw[dr9];omega);rw[dr9]at this;refine this.mono ?_;rintro e w' ⟨rfl,q,rfl⟩;rw[bp7,dr9];have hlen:=aG4 l;have hsz:(((I6 l).map A7.b++List.replicate (l.length-(I6 l).length) []).toArray).size=l.length:=by simp;omega
  obtain⟨k1,k2⟩:=bB8 h2 encStr (((I6 l).map A7.b++List.replicate (l.length-(I6 l).length) []).toArray) (by rw[hsz];omega) q #[];rw[grow_empty]at k1 k2;refine⟨_,rfl,?_,k2.weaken fun _ _ e=>by subst e;rfl,fun b hb=>.inl hb⟩;refine bb5 h1 k1 (by omega) h4 ?_ ?_
  ·simp;omega
  ·simp only[du1,List.map_map,dt4];rw[dz7 (by simp),dv8 (by simp)];rfl
end
end
def dt6:=@List.contains_iff_mem
def dt7:=@List.mem_map
theorem bl7(c:UInt8)(w:World):p7 prog 115 #[.int .u8 c.toNat] w fun u w'=>(u = .bool (ad5 c)∧w'=w):=by
 refine p8 [.int .u8 c.toNat] func115 rfl ?_;unfold ad5;have h1:decide ((97:Int)≤(c.toNat:Int))=decide (97≤c.toNat):=dv1.2 (by omega);have h2:decide ((c.toNat:Int)≤(122:Int))=decide (c.toNat≤122):=dv1.2 (by omega);cases hb:decide (97≤c.toNat)
 ·simp only[i5,n8,simprocAttr,h1,hb];refine o6 results115 ?_;simp only[p6,simprocAttr];exact⟨by trivial,by trivial⟩
 ·simp only[i5,n8,simprocAttr,h1,h2,hb];refine o6 results115 ?_;simp only[p6,simprocAttr];exact⟨by simp,by trivial⟩
theorem bT8(c:UInt8)(w:World):p7 prog 116 #[.int .u8 c.toNat] w fun u w'=>(u = .bool (aL8 c)∧w'=w):=by
 refine p8 [.int .u8 c.toNat] func116 rfl ?_;unfold aL8;have h1:decide ((48:Int)≤(c.toNat:Int))=decide (48≤c.toNat):=dv1.2 (by omega);have h2:decide ((c.toNat:Int)≤(57:Int))=decide (c.toNat≤57):=dv1.2 (by omega);cases hb:decide (48≤c.toNat)
 ·simp only[i5,n8,simprocAttr,h1,hb];refine o6 results116 ?_;simp only[p6,simprocAttr];exact⟨by trivial,by trivial⟩
 ·simp only[i5,n8,simprocAttr,h1,h2,hb];refine o6 results116 ?_;simp only[p6,simprocAttr];exact⟨by simp,by trivial⟩
theorem bT7(w:World):p7 prog 179 #[] w fun u w'=>(R (i4 w') u ak2∧o7 w w'):=by
 refine p8 [] func179 rfl ?_;obtain⟨v,w1,hl,ho,hx,_⟩:=lit (P:=prog) (w:=w) (h:=i4 w) (α:=A7) (xs:=ak2.map o9) (ys:=ak2) (parts:=#[(0,.string ⟨#[103,108,111,98,97,108]⟩),(1,.string ⟨#[112,114,111,99]⟩),(2,.string ⟨#[118,97,114]⟩),(3,.string ⟨#[114,101,102]⟩),(4,.string ⟨#[105,102]⟩),(5,.string ⟨#[101,108,115,101]⟩),(6,.string ⟨#[119,104,105,108,101]⟩),(7,.string ⟨#[98,114,101,97,107]⟩),(8,.string ⟨#[99,111,110,116,105,110,117,101]⟩),(9,.string ⟨#[114,101,116,117,114,110]⟩),(10,.string ⟨#[103,111,116,111]⟩),(11,.string ⟨#[114,101,97,100]⟩),(12,.string ⟨#[112,114,105,110,116]⟩)]) (n:=13) ar6 rfl (au4.2 rfl) (fun x hx=>by obtain⟨s,_,rfl⟩:=dt7.1 hx;rfl) rfl rfl (by simp[ak2]) (by simp[ak2]) (d7 _);simp only[i5,simprocAttr,hl];refine o6 results179 ?_;simp only[p6,simprocAttr];exact⟨ho.rw_ (b7 hx),hx⟩
theorem cn0(s:A7)(w:World)(h:bo2 s=false):p7 prog 117 #[o9 s] w fun u w'=>(u = .bool false∧o7 w w'):=by
 refine p8 [o9 s] func117 rfl ?_;simp only[i5,n8,simprocAttr];refine z7 (bT7 w) ?_;rintro v w1 ⟨hv,hx1⟩;have hS:=hv.isS;have hn:=hv.vlen;have hno:∀x∈ak2,decide (x=s)=false:=fun x hx=>du3 fun e=>by
  unfold bo2 at h;rw[←e,dt6.2 hx]at h;cases h
 have hl:ak2.length≤1000000000:=by simp[ak2]
 generalize ak2=l at hv hS hn hno hl;simp only[i5,n8,simprocAttr,hS,hn];refine n9 [0,5,6] (σ:=Nat) (fun k f w'=>f 7 = .int .i64 k∧k≤l.length∧o7 w1 w') (fun k=>l.length-k) 0 ?_ ?_
 ·simp only[p6,simprocAttr];exact⟨by trivial,dr8 _,t8.refl _⟩
 rintro k f w2 hk ⟨h7,hkl,hx2⟩;simp only[dq9,p6,simprocAttr]at hk;obtain⟨e0,e5,e6,_⟩:=hk;simp only[i5,n8,simprocAttr,h7,e6];refine m8 (fun hc=>?_) (fun hc=>?_)
 ·have hlt:k<l.length:=by simpa using hc
  have hin:=hv.inS hlt;have hld:=ldS hv (b7 hx2) hlt;have hd:=hno _ (dr5 hlt);simp only[i5,n8,z6,simprocAttr,h7,e0,e5,hin,hld,hd];exact⟨k+1,by omega,by rw[A8 k (by omega)],by omega,hx2⟩
 ·simp only[i5,simprocAttr];refine o6 results117 ?_;simp only[p6,simprocAttr];exact⟨by trivial,hx1.trans hx2⟩
theorem ac5(s:A7)(w:World)(h:K8 s=true):p7 prog 69 #[o9 s] w fun u w'=>(u = .bool true∧o7 w w'):=by
 refine p8 [o9 s] func69 rfl ?_;unfold K8 at h;split at h
 ·cases h
 rename_i c l hs;simp only[dt0,du7,Bool.not_eq_true']at h;obtain⟨⟨⟨h8,hlet⟩,hall⟩,hwd⟩:=h;have hl:s.b.length=l.length+1:=by rw[hs];rfl
 have h1:decide (s=e0)=false:=du3 fun e=>by
  rw[e]at hl;have:(0:Nat)=l.length+1:=hl;omega
 have h2:decide ((8:Int)<((s.b.length:Nat):Int))=false:=du3 (by omega);have hc:chr s 0=some c:=by unfold chr;rw[hs];rfl
 have hix:U6 prog 9 (o9 s) (.int .i64 0)=some (.int .u8 (c.toNat:Int)):=cb0 (k:=.i64) (i:=0) cC5 cL2 hc;have hal:∀b∈s.b,ad5 b=true∨aL8 b=true:=fun b hb=>by
  rw[hs]at hb;rcases dt1.1 hb with rfl|hb
  ·exact .inl hlet
  ·have:=dx6.1 hall b hb;unfold Y4 at this
   rwa [dD2]at this
 simp only[i5,n8,simprocAttr,h1,h2,hix];refine C7 (bl7 c w) ?_;simp only[i5,n8,simprocAttr,hlet];refine n9 [0] (σ:=Nat) (fun k f w'=>f 3 = .int .i64 k∧k≤s.b.length∧w'=w) (fun k=>s.b.length-k) 1 ?_ ?_
 ·simp only[p6,simprocAttr];exact⟨by trivial,by omega,by trivial⟩
 rintro k f w2 hk ⟨h3,hkl,rfl⟩;simp only[dq9,p6,simprocAttr]at hk;obtain⟨e0',_⟩:=hk;by_cases hlt:k<s.b.length
 ·have hd:decide ((k:Int)<(s.b.length:Nat))=true:=by simpa using hlt
  obtain⟨b,hb,_,hmem⟩:=bZ2 hlt;have hixk:=cb0 (P:=prog) (t:=9) (k:=.i64) cC5 cL2 hb;simp only[i5,n8,simprocAttr,h3,e0',hd,hixk];refine C7 (bl7 b _) ?_;cases hq:ad5 b
  ·have hdg:=(hal b hmem).resolve_left (by rw[hq];simp);simp only[i5,n8,simprocAttr,h3,e0',hixk];refine C7 (bT8 b _) ?_;simp only[i5,n8,simprocAttr,h3,hdg];exact⟨k+1,by omega,by rw[A8 k (by omega)],by omega,by trivial⟩
  ·simp only[i5,n8,simprocAttr,h3];exact⟨k+1,by omega,by rw[A8 k (by omega)],by omega,by trivial⟩
 ·have hd:decide ((k:Int)<(s.b.length:Nat))=false:=by simpa using hlt
  simp only[i5,n8,simprocAttr,h3,e0',hd];refine B2 (cn0 s _ hwd) (fun w3 hx3=>?_);simp only[i5,n8,simprocAttr];refine o6 results69 ?_;simp only[p6,simprocAttr];exact⟨by trivial,hx3⟩
theorem ay3(v:Value)(l:List A7)(w:World)(hv:R (i4 w) v l)(hl:l.length≤1000000000)(h:O0 l=true):p7 prog 68 #[v] w fun u w'=>(u = .bool true∧o7 w w'):=by
 refine p8 [v] func68 rfl ?_;have hS:=hv.isS;have hn:=hv.vlen;simp only[i5,n8,simprocAttr,hS,hn];refine n9 [5,6] (σ:=Nat) (fun k f w'=>f 7 = .int .i64 k∧k≤l.length∧o7 w w') (fun k=>l.length-k) 0 ?_ ?_
 ·simp only[p6,simprocAttr];exact⟨by trivial,dr8 _,t8.refl _⟩
 rintro k f w2 hk ⟨h7,hkl,hx2⟩;simp only[dq9,p6,simprocAttr]at hk;obtain⟨e5,e6,_⟩:=hk;simp only[i5,n8,simprocAttr,h7,e6];refine m8 (fun hc=>?_) (fun hc=>?_)
 ·have hlt:k<l.length:=by simpa using hc
  have hin:=hv.inS hlt;have hld:=ldS hv (b7 hx2) hlt;simp only[i5,n8,z6,simprocAttr,h7,e5,hin,hld];refine B2 (ac5 _ _ (dx6.1 h _ (dr5 hlt))) (fun w3 hx3=>?_);simp only[i5,n8,simprocAttr,h7];exact⟨k+1,by omega,by rw[A8 k (by omega)],by omega,hx2.trans hx3⟩
 ·simp only[i5,simprocAttr];refine o6 results68 ?_;simp only[p6,simprocAttr];exact⟨by trivial,hx2⟩
theorem aH5(v:Value)(l:List A7)(w:World)(hv:R (i4 w) v l)(hl:l.length≤1000000):p7 prog 141 #[v] w fun u w'=>(u = .bool (O0 l)∧w'=w):=by
 refine p8 [v] func141 rfl ?_;have hS:=hv.isS;have hn:=hv.vlen;simp only[n7,n8,simprocAttr,hS,hn];refine n9 [5,6] (σ:=Nat) (fun k f w'=>f 7 = .int .i64 k∧k≤l.length∧(l.take k).all K8=true∧w'=w) (fun k=>l.length-k) 0 ?_ ?_
 ·simp only[p6,simprocAttr];exact⟨by trivial,dr8 _,by simp,by trivial⟩
 ·rintro k f w' hk ⟨h7,hkl,hall,rfl⟩;simp only[dq9,p6,simprocAttr]at hk;obtain⟨e5,e6,_⟩:=hk;simp only[n7,n8,simprocAttr,h7,e6];refine m8 (fun hc=>?_) (fun hc=>?_)
  ·have hlt:k<l.length:=by simpa using hc
   have hin:=hv.inS hlt;have hld:(Instr.loadAt 9 (.pointer (some (H2 v k)))).run prog w' = .ok (o9 l[k]) w':=M8 (P:=prog) (t:=9) hv (d7 _) (dq7 hlt) W4;have htk:(l.take (k+1)).all K8=((l.take k).all K8&&K8 l[k]):=by rw[dr6 hlt,List.all_append];simp
   have hmem:=dr5 hlt;generalize l[k]=s at hld htk hmem;simp only[n7,n8,z6,simprocAttr,h7,e5,hin,hld];refine z7 (aC0 s _) ?_;rintro u w1 ⟨rfl,rfl⟩;cases hn:K8 s
   ·simp only[n7,n8,simprocAttr];refine o6 results141 ?_;simp only[p6,simprocAttr];refine⟨?_,by trivial⟩;have:O0 l=false:=by
     rw[dB2];intro h;rw[dx6.1 h s hmem]at hn;cases hn
    rw[this]
   ·simp only[n7,n8,simprocAttr,h7];exact⟨k+1,by omega,by rw[A8 k (by omega)],by omega,by rw[htk,hall,hn];rfl,by trivial⟩
  ·have hge:k=l.length:=by simp at hc;omega
   subst hge;simp only[n7,simprocAttr];refine o6 results141 ?_;simp only[p6,simprocAttr];rw[ds2]at hall;exact⟨by rw[O0,hall],by trivial⟩
theorem cw5(op:Int)(w:World):p7 prog 262 #[.int .i64 op] w fun u w'=>(u = .int .i64 (ac1 op)∧w'=w):=by
 refine p8 [.int .i64 op] func262 rfl ?_;by_cases h1:op=1
 ·have d1:decide (op=1)=true:=by simp[h1]
  simp only[n7,n8,simprocAttr,d1];refine o6 results262 ?_;simp only[p6,simprocAttr];exact⟨by simp[ac1,h1],by trivial⟩
 have d1:decide (op=1)=false:=by simp[h1]
 by_cases h2:op=2
 ·have d2:decide (op=2)=true:=by simp[h2]
  simp only[n7,n8,simprocAttr,d1,d2];refine o6 results262 ?_;simp only[p6,simprocAttr];exact⟨by simp[ac1,h2],by trivial⟩
 have d2:decide (op=2)=false:=by simp[h2]
 by_cases h3:op=3
 ·have d3:decide (op=3)=true:=by simp[h3]
  simp only[n7,n8,simprocAttr,d1,d2,d3];refine o6 results262 ?_;simp only[p6,simprocAttr];exact⟨by simp[ac1,h3],by trivial⟩
 have d3:decide (op=3)=false:=by simp[h3]
 by_cases h4:op=4
 ·have d4:decide (op=4)=true:=by simp[h4]
  simp only[n7,n8,simprocAttr,d1,d2,d3,d4];refine o6 results262 ?_;simp only[p6,simprocAttr];exact⟨by simp[ac1,h4],by trivial⟩
 have d4:decide (op=4)=false:=by simp[h4]
 by_cases h5:5≤op
 ·have d5:decide (5≤op)=true:=by simp[h5]
  by_cases h6:op≤17
  ·have d6:decide (op≤17)=true:=by simp[h6]
   simp only[n7,n8,simprocAttr,d1,d2,d3,d4,d5,d6];refine o6 results262 ?_;simp only[p6,simprocAttr];exact⟨by rw[ac1,if_neg (by omega),if_neg (by omega),if_pos ⟨h5,h6⟩],by trivial⟩
  ·have d6:decide (op≤17)=false:=by simp[h6]
   simp only[n7,n8,simprocAttr,d1,d2,d3,d4,d5,d6];refine o6 results262 ?_;simp only[p6,simprocAttr];exact⟨by rw[ac1,if_neg (by omega),if_neg (by omega),if_neg (by omega)],by trivial⟩
 ·have d5:decide (5≤op)=false:=by simp[h5]
  simp only[n7,n8,simprocAttr,d1,d2,d3,d4,d5];refine o6 results262 ?_;simp only[p6,simprocAttr];exact⟨by rw[ac1,if_neg (by omega),if_neg (by omega),if_neg (by omega)],by trivial⟩
theorem cx9(v:Value)(x:Ex)(w:World)(hv:SV (i4 w) v x):p7 prog 275 #[v] w fun u w'=>(u = .bool (bv1 x)∧o7 w w'):=by
 refine p8 [v] func275 rfl ?_;obtain⟨a,w1,hb,hx,ha⟩:=ah4 hv (d7 _);obtain⟨vk,hk,ld,_⟩:=ha.ex;have l1:=ld w1 (d7 _);have hS:=hk.isS;have hn:=hk.vlen;have hl:decide ((x.kids.length:Int)=0)=decide (x.kids.length=0):=dv1.2 (by omega);unfold bv1;cases h1:decide (x.op=0)
 ·simp only[n7,n8,simprocAttr,hb,l1,h1];refine o6 results275 ?_;simp only[p6,simprocAttr];exact⟨by trivial,hx⟩
 cases h2:decide (x.n=0)
 ·simp only[n7,n8,simprocAttr,hb,l1,h1,h2];refine o6 results275 ?_;simp only[p6,simprocAttr];exact⟨by trivial,hx⟩
 cases h3:decide (x.name=e0)
 ·simp only[n7,n8,simprocAttr,hb,l1,h1,h2,h3];refine o6 results275 ?_;simp only[p6,simprocAttr];exact⟨by trivial,hx⟩
 simp only[n7,n8,simprocAttr,hb,l1,hS,hn,h1,h2,h3,hl];refine o6 results275 ?_;simp only[p6,simprocAttr];exact⟨by trivial,hx⟩
theorem aG2{α:Type}(p:α→Bool)(l:List α)(k:Nat)(hk:k<l.length):(l.take (k+1)).all p=((l.take k).all p&&p l[k]):=by
 rw[dr6 hk,List.all_append];simp
theorem aw4{α:Type}{p:α→Bool}{l:List α}{x:α}(hx:x∈l)(h:p x=false):l.all p=false:=by
 rw[dB2];intro ha;rw[dx6.1 ha _ hx]at h;cases h
theorem bF2:∀(n:Nat) (v:Value) (x:Ex) (w:World),n≤20→SV (i4 w) v x→p7 prog 237 #[v,.int .i64 n] w fun u w'=>(u = .bool (P3 n x)∧o7 w w')
 | 0,v,x,w,_,hv=>by
  refine p8 [v,.int .i64 ((0:Nat):Int)] func237 rfl ?_;obtain⟨a,w1,hb,hx,ha⟩:=ah4 hv (d7 _);have h0:decide ((((0:Nat):Int))<1)=true:=by decide
  simp only[n7,n8,simprocAttr,hb];refine C0 (fun w2=>o7 w1.drew w2) 11 (A9 [0,1,2,3,4,5,6,7,8,9,10]) ?_;simp only[D2,A9,n7,n8,simprocAttr];refine o6 results237 ?_;simp only[p6,simprocAttr];exact⟨by trivial,hx.trans (o7.drew _)⟩
 | n+1,v,x,w,hn,hv=>by
  refine p8 [v,.int .i64 ((n+1:Nat):Int)] func237 rfl ?_;obtain⟨a,w1,hb,hx,ha⟩:=ah4 hv (d7 _);obtain⟨vk,hk,ld,sd⟩:=ha.ex;have hxd:=hx.trans (o7.drew w1);have l1:=ld w1.drew (b7 (o7.drew w1));have s1:=sd (fun w2=>o7 w1.drew w2) w1.drew (t8.refl _) (fun w' h=>b7 ((o7.drew w1).trans h));have h0:decide ((((n+1:Nat):Int))<1)=false:=by simp;omega
  have hS:=hk.isS;have hl:=hk.vlen;simp only[n7,n8,simprocAttr,hb];refine C0 (fun w2=>o7 w1.drew w2) 11 (A9 [0,1,2,3,4,5,6,7,8,9,10]) ?_;simp only[D2,A9,n7,n8,simprocAttr,h0,s1,hS,hl];refine z7 (cw5 x.op _) ?_;rintro u w2 ⟨rfl,rfl⟩;cases h1:decide ((x.kids.length:Int)=ac1 x.op)
  ·simp only[D2,n7,n8,simprocAttr,F1,h1];refine⟨t8.refl _,?_⟩;refine o6 results237 ?_;simp only[p6,simprocAttr];exact⟨by rw[P3,if_pos (by simpa using h1)],hxd⟩
  have h1':¬(x.kids.length:Int)≠ac1 x.op:=by simpa using h1
  simp only[D2,n7,n8,simprocAttr,F1,h1];refine⟨t8.refl _,?_⟩;simp only[n7,n8,simprocAttr,l1];by_cases h2:x.op=1
  ·have d2:decide (x.op=1)=true:=by simp[h2]
   have hd:P3 (n+1) x=(decide (0≤x.n)&&decide (x.name=e0)):=by rw[P3,if_neg h1',if_pos h2]
   cases h3:decide (0≤x.n)
   ·simp only[n7,n8,simprocAttr,l1,d2,h3];refine o6 results237 ?_;simp only[p6,simprocAttr];exact⟨by rw[hd,h3];rfl,hxd⟩
   ·simp only[n7,n8,simprocAttr,l1,d2,h3];refine o6 results237 ?_;simp only[p6,simprocAttr];exact⟨by rw[hd,h3];rfl,hxd⟩
  have d2:decide (x.op=1)=false:=by simp[h2]
  by_cases h3:x.op=2
  ·have d3:decide (x.op=2)=true:=by simp[h3]
   have hd:P3 (n+1) x=(decide (x.n=0)&&K8 x.name):=by rw[P3,if_neg h1',if_neg h2,if_pos h3]
   cases h4:decide (x.n=0)
   ·simp only[n7,n8,simprocAttr,l1,d2,d3,h4];refine o6 results237 ?_;simp only[p6,simprocAttr];exact⟨by rw[hd,h4];rfl,hxd⟩
   ·simp only[n7,n8,simprocAttr,l1,d2,d3,h4];refine z7 (aC0 x.name _) ?_;rintro u w2 ⟨rfl,rfl⟩;simp only[n7,simprocAttr];refine o6 results237 ?_;simp only[p6,simprocAttr];exact⟨by rw[hd,h4];rfl,hxd⟩
  have d3:decide (x.op=2)=false:=by simp[h3]
  cases h4:decide (x.n=0)
  ·have hd:P3 (n+1) x=false:=by rw[P3,if_neg h1',if_neg h2,if_neg h3,if_pos (.inl (by simpa using h4))]
   simp only[n7,n8,simprocAttr,l1,d2,d3,h4];refine o6 results237 ?_;simp only[p6,simprocAttr];exact⟨by rw[hd],hxd⟩
  cases h5:decide (x.name=e0)
  ·have hd:P3 (n+1) x=false:=by rw[P3,if_neg h1',if_neg h2,if_neg h3,if_pos (.inr (by simpa using h5))]
   simp only[n7,n8,simprocAttr,l1,d2,d3,h4,h5];refine o6 results237 ?_;simp only[p6,simprocAttr];exact⟨by rw[hd],hxd⟩
  have hd:P3 (n+1) x=x.kids.all (P3 n):=by
   rw[P3,if_neg h1',if_neg h2,if_neg h3,if_neg (fun h=>by rcases h with h|h<;>simp_all)]
  have hkl:x.kids.length≤2:=by
   have:(x.kids.length:Int)=ac1 x.op:=by simpa using h1
   unfold ac1 at this;split at this
   ·omega
   ·split at this
    ·omega
    ·split at this<;>omega
  simp only[n7,n8,simprocAttr,l1,d2,d3,h4,h5,hS,hl];refine n9 [1,49,50] (σ:=Nat) (fun k f w'=>f 51 = .int .i64 k∧k≤x.kids.length∧(x.kids.take k).all (P3 n)=true∧o7 w1 w') (fun k=>x.kids.length-k) 0 ?_ ?_
  ·simp only[p6,simprocAttr];exact⟨by trivial,dr8 _,by simp,o7.drew _⟩
  ·rintro k f w3 hkp ⟨h51,hkk,hall,hx3⟩;simp only[dq9,p6,↓reduceIte,Nat.reduceEqDiff]at hkp;obtain⟨g1,g49,g50,_⟩:=hkp;simp only[n7,n8,simprocAttr,h51,g50];refine m8 (fun hc=>?_) (fun hc=>?_)
   ·have hlt:k<x.kids.length:=by simpa using hc
    have hin:=hk.inS hlt;obtain⟨sv,hsv,hld⟩:=E4 (P:=prog) (t:=41) hk (b7 hx3) (dq7 hlt) bc6 bc9 aS6 ae4;rw[ae4]at hld;have htk:=aG2 (P3 n) x.kids k hlt;have hmem:=dr5 hlt;generalize x.kids[k]=y at hsv htk hmem;obtain⟨b,wz,w4,hal,hst,hx4,hat⟩:=cL4 (hsv.mono (b7 hx3)) (d7 _);obtain⟨sy,hsy,ly,_⟩:=hat.ex_v;have l4:=ly w4 (d7 _);have hsub:IntKind.i64.wrap (((n+1:Nat):Int)-1)=(n:Int):=by rw[K6 _ (by omega)];omega
    simp only[n7,n8,z6,simprocAttr,h51,g49,g1,hin,hld,hal,hst,l4,hsub];refine z7 (bF2 n sy y w4 (by omega) hsy) ?_;rintro u w5 ⟨rfl,hx5⟩;cases hdy:P3 n y
    ·simp only[n7,n8,simprocAttr];refine o6 results237 ?_;simp only[p6,simprocAttr];exact⟨by rw[hd,aw4 hmem hdy],hx.trans (hx3.trans (hx4.trans hx5))⟩
    ·simp only[n7,n8,simprocAttr,h51];exact⟨k+1,by omega,by rw[A8 k (by omega)],by omega,by rw[htk,hall,hdy];rfl,hx3.trans (hx4.trans hx5)⟩
   ·have hge:k=x.kids.length:=by simp at hc;omega
    subst hge;simp only[n7,simprocAttr];refine o6 results237 ?_;simp only[p6,simprocAttr];rw[ds2]at hall;exact⟨by rw[hd,hall],hx.trans hx3⟩
theorem aY5(v:Value)(x:Ex)(w:World)(hv:SV (i4 w) v x):p7 prog 190 #[v] w fun u w'=>(u = .bool (P3 20 x)∧o7 w w'):=by
 refine p8 [v] func190 rfl ?_;obtain⟨a,w1,hb,hx,ha⟩:=ah4 hv (d7 _);obtain⟨sy,hsy,ly,_⟩:=ha.ex_v;have l1:=ly w1 (d7 _);simp only[n7,n8,simprocAttr,hb,l1];refine z7 (bF2 20 sy x w1 (by omega) hsy) ?_;rintro u w2 ⟨rfl,hx2⟩;simp only[n7,simprocAttr];refine o6 results190 ?_;simp only[p6,simprocAttr];exact⟨by trivial,hx.trans hx2⟩
theorem aV7(s:A7)(b:Bool)(w:World):p7 prog 249 #[o9 s,.bool b] w fun u w'=>(u = .bool (T3 s b)∧w'=w):=by
 refine p8 [o9 s,.bool b] func249 rfl ?_;cases b
 ·simp only[n7,n8,simprocAttr];refine o6 results249 ?_;simp only[p6,simprocAttr];exact⟨by simp[T3],by trivial⟩
 ·simp only[n7,n8,simprocAttr];refine z7 (aC0 s _) ?_;rintro u w1 ⟨rfl,rfl⟩;cases hn:K8 s
  ·simp only[n7,n8,simprocAttr];refine o6 results249 ?_;simp only[p6,simprocAttr];exact⟨by simp[T3,hn],by trivial⟩
  ·simp only[n7,simprocAttr];refine o6 results249 ?_;simp only[p6,simprocAttr];exact⟨by simp[T3,hn],by trivial⟩
theorem bx4(v:Value)(x:Ex)(b:Bool)(w:World)(hv:SV (i4 w) v x):p7 prog 250 #[v,.bool b] w fun u w'=>(u = .bool (Z2 x b)∧o7 w w'):=by
 refine p8 [v,.bool b] func250 rfl ?_;obtain⟨a,w1,hb,hx,ha⟩:=ah4 hv (d7 _);obtain⟨sy,hsy,ly,_⟩:=ha.ex_v;have l1:=ly w1 (d7 _);cases b
 ·simp only[n7,n8,simprocAttr,hb,l1];refine z7 (cx9 sy x _ hsy) ?_;rintro u w2 ⟨rfl,hx2⟩;simp only[n7,simprocAttr];refine o6 results250 ?_;simp only[p6,simprocAttr];exact⟨by simp[Z2],hx.trans hx2⟩
 ·simp only[n7,n8,simprocAttr,hb,l1];refine z7 (aY5 sy x _ hsy) ?_;rintro u w2 ⟨rfl,hx2⟩;cases hn:P3 20 x
  ·simp only[n7,n8,simprocAttr];refine o6 results250 ?_;simp only[p6,simprocAttr];exact⟨by simp[Z2,hn],hx.trans hx2⟩
  ·simp only[n7,simprocAttr];refine o6 results250 ?_;simp only[p6,simprocAttr];exact⟨by simp[Z2,hn],hx.trans hx2⟩
theorem bR7(v:Value)(l:List Ar)(w:World)(hv:R (i4 w) v l)(hl:l.length≤1000000):p7 prog 251 #[v] w fun u w'=>(u = .bool (aH0 l)∧o7 w w'):=by
 refine p8 [v] func251 rfl ?_;have hS:=hv.isS;have hn:=hv.vlen;simp only[n7,n8,simprocAttr,hS,hn];refine n9 [5,6] (σ:=Nat) (fun k f w'=>f 7 = .int .i64 k∧k≤l.length∧(l.take k).all (fun a=>T3 a.name a.ref&&Z2 a.x (!a.ref))=true∧o7 w w') (fun k=>l.length-k) 0 ?_ ?_
 ·simp only[p6,simprocAttr];exact⟨by trivial,dr8 _,by simp,t8.refl _⟩
 ·rintro k f w1 hk ⟨h7,hkl,hall,hx1⟩;simp only[dq9,p6,simprocAttr]at hk;obtain⟨e5,e6,_⟩:=hk;simp only[n7,n8,simprocAttr,h7,e6];refine m8 (fun hc=>?_) (fun hc=>?_)
  ·have hlt:k<l.length:=by simpa using hc
   have hin:=hv.inS hlt;obtain⟨sv,hsv,hld⟩:=E4 (P:=prog) (t:=101) hv (b7 hx1) (dq7 hlt) az1 az3 at1 S4;rw[S4]at hld;have htk:=aG2 (fun a:Ar=>T3 a.name a.ref&&Z2 a.x (!a.ref)) l k hlt;have hmem:=dr5 hlt;generalize l[k]=y at hsv htk hmem;obtain⟨b,wz,w2,hal,hst,hx2,hat⟩:=aI6 (hsv.mono (b7 hx1)) (d7 _);obtain⟨hatx,ld,_⟩:=hat.ar;obtain⟨sx,hsx,lx,_⟩:=hatx.ex_v;have l2:=ld w2 (d7 _);have lx2:=lx w2 (d7 _);have hfalse:(T3 y.name y.ref&&Z2 y.x (!y.ref))=false→aH0 l=false:=fun h=>aw4 (p:=fun a:Ar=>T3 a.name a.ref&&Z2 a.x (!a.ref)) hmem h;simp only[n7,n8,z6,simprocAttr,h7,e5,hin,hld,hal,hst,l2];refine z7 (aV7 y.name y.ref _) ?_;rintro u w3 ⟨rfl,rfl⟩;cases hnm:T3 y.name y.ref
   ·simp only[n7,n8,simprocAttr];refine o6 results251 ?_;simp only[p6,simprocAttr];exact⟨by rw[hfalse (by rw[hnm];rfl)],hx1.trans hx2⟩
   ·simp only[n7,n8,simprocAttr,l2,lx2];refine z7 (bx4 sx y.x (!y.ref) _ hsx) ?_;rintro u w4 ⟨rfl,hx4⟩;cases hwo:Z2 y.x (!y.ref)
    ·simp only[n7,n8,simprocAttr];refine o6 results251 ?_;simp only[p6,simprocAttr];exact⟨by rw[hfalse (by rw[hwo];simp)],hx1.trans (hx2.trans hx4)⟩
    ·simp only[n7,n8,simprocAttr,h7];exact⟨k+1,by omega,by rw[A8 k (by omega)],by omega,by rw[htk,hall,hnm,hwo];rfl,hx1.trans (hx2.trans hx4)⟩
  ·have hge:k=l.length:=by simp at hc;omega
   subst hge;simp only[n7,simprocAttr];refine o6 results251 ?_;simp only[p6,simprocAttr];rw[ds2]at hall;exact⟨by rw[aH0,hall],hx1⟩
def dC4:=@Bool.false_or
def dB4:=@Decidable.byContradiction
theorem bv8(v:Value)(x:Ex)(w:World)(hv:SV (i4 w) v x)(h:bv1 x=true):p7 prog 119 #[v] w fun u w'=>(u = .bool true∧o7 w w'):=by
 refine p8 [v] func119 rfl ?_;obtain⟨a,w1,hb,hx,ha⟩:=ah4 hv (d7 _);obtain⟨vk,hk,ld,_⟩:=ha.ex;have l1:=ld w1 (d7 _);have hS:=hk.isS;have hl:=hk.vlen;unfold bv1 at h;simp only[dt0]at h;obtain⟨⟨⟨h1,h2⟩,h3⟩,h4⟩:=h;have h5:decide ((x.kids.length:Int)=0)=true:=du9 (by have:=dr0 h4;omega);simp only[i5,n8,simprocAttr,hb,l1,hS,hl,h1,h2,h3,h5];refine o6 results119 ?_;simp only[p6,simprocAttr];exact⟨by trivial,hx⟩
theorem bT6(op:Int)(w:World):p7 prog 234 #[.int .i64 op] w fun u w'=>(u = .int .i64 (ac1 op)∧w'=w):=by
 refine p8 [.int .i64 op] func234 rfl ?_;unfold ac1;have go:∀b:Bool,b=true∨b=false:=fun b=>by cases b<;>simp
 rcases go (decide (op=1))with d1|d1
 ·rw[if_pos (.inl (dr0 d1))];simp only[i5,n8,simprocAttr,d1];refine o6 results234 ?_;simp only[p6,simprocAttr];exact⟨by trivial,by trivial⟩
 have n1:=dr2 d1;rcases go (decide (op=2))with d2|d2
 ·rw[if_pos (.inr (dr0 d2))];simp only[i5,n8,simprocAttr,d1,d2];refine o6 results234 ?_;simp only[p6,simprocAttr];exact⟨by trivial,by trivial⟩
 have n2:=dr2 d2;rw[if_neg (by omega)];rcases go (decide (op=3))with d3|d3
 ·rw[if_pos (.inl (dr0 d3))];simp only[i5,n8,simprocAttr,d1,d2,d3];refine o6 results234 ?_;simp only[p6,simprocAttr];exact⟨by trivial,by trivial⟩
 have n3:=dr2 d3;rcases go (decide (op=4))with d4|d4
 ·rw[if_pos (.inr (dr0 d4))];simp only[i5,n8,simprocAttr,d1,d2,d3,d4];refine o6 results234 ?_;simp only[p6,simprocAttr];exact⟨by trivial,by trivial⟩
 have n4:=dr2 d4;rw[if_neg (by omega)];rcases go (decide (5≤op))with d5|d5;rotate_left
 ·rw[if_neg (fun h=>dr2 d5 h.1)];simp only[i5,n8,simprocAttr,d1,d2,d3,d4,d5];refine o6 results234 ?_;simp only[p6,simprocAttr];exact⟨by trivial,by trivial⟩
 rcases go (decide (op≤17))with d6|d6
 ·rw[if_pos ⟨dr0 d5,dr0 d6⟩];simp only[i5,n8,simprocAttr,d1,d2,d3,d4,d5,d6];refine o6 results234 ?_;simp only[p6,simprocAttr];exact⟨by trivial,by trivial⟩
 ·rw[if_neg (fun h=>dr2 d6 h.2)];simp only[i5,n8,simprocAttr,d1,d2,d3,d4,d5,d6];refine o6 results234 ?_;simp only[p6,simprocAttr];exact⟨by trivial,by trivial⟩
theorem bt1{n:Nat}{x:Ex}(h:P3 (n+1) x=true):(x.kids.length:Int)=ac1 x.op∧x.kids.length≤2∧(x.op=1∨x.n=0)∧0≤x.n∧(if x.op=2 then K8 x.name=true else x.name=e0)∧∀y∈x.kids,P3 n y=true:=by
 rw[P3]at h;split at h
 ·cases h
 rename_i hk;have hk:(x.kids.length:Int)=ac1 x.op:=dB4 hk;have hk2:x.kids.length≤2:=by
  unfold ac1 at hk
  repeat' split at hk
  all_goals omega
 have h0:ac1 x.op=0→∀y∈x.kids,P3 n y=true:=fun e y hy=>by
  have:x.kids.length=0:=by omega
  rw[List.length_eq_zero_iff.1 this]at hy;cases hy
 refine⟨hk,hk2,?_⟩;split at h
 ·next h1=>
  rw[dt0]at h;exact⟨.inl h1,dr0 h.1,by rw[if_neg (by omega)];exact dr0 h.2,h0 (by rw[h1];rfl)⟩
 ·split at h
  ·next h2=>
   rw[dt0]at h;have:=dr0 h.1;exact⟨.inr this,by omega,by rw[if_pos h2];exact h.2,h0 (by rw[h2];rfl)⟩
  ·next h2=>
   split at h
   ·cases h
   ·next h3=>
    have a1:x.n=0:=dB4 fun e=>h3 (.inl e);have a2:x.name=e0:=dB4 fun e=>h3 (.inr e);exact⟨.inr a1,by omega,by rw[if_neg h2];exact a2,fun y hy=>dx6.1 h y hy⟩
theorem bv6:∀(n:Nat) (v:Value) (x:Ex) (w:World),n≤20→SV (i4 w) v x→P3 n x=true→p7 prog 180 #[v,.int .i64 n] w fun u w'=>(∃k:Nat,u = .int .i64 k∧k≤n∧o7 w w')
 | 0,v,x,w,_,_,h=>by cases h
 | n+1,v,x,w,hn,hv,h=>by
  obtain⟨_,hk2,_,_,_,hkids⟩:=bt1 h;refine p8 [v,.int .i64 ((n+1:Nat):Int)] func180 rfl ?_;obtain⟨a,w1,hb,hx,ha⟩:=ah4 hv (d7 _);obtain⟨vk,hk,ld,_⟩:=ha.ex;have hS:=hk.isS;have hl:=hk.vlen;have h0:decide (((n+1:Nat):Int)=0)=false:=du3 (by omega);have hsub:IntKind.i64.wrap (((n+1:Nat):Int)-1)=(n:Int):=by rw[K6 _ (by omega)];omega
  simp only[i5,n8,simprocAttr,hb,h0];refine n9 [1,2] (σ:=Nat×Nat) (fun s f w'=>f 6 = .int .i64 s.1∧f 5 = .int .i64 s.2∧s.1≤x.kids.length∧s.2≤n∧o7 w1 w') (fun s=>x.kids.length-s.1) (0,0) ?_ ?_
  ·simp only[p6,simprocAttr];exact⟨by trivial,by trivial,dr8 _,dr8 _,t8.refl _⟩
  rintro⟨k,m⟩ f w3 hkp ⟨h6,h5,hkk,hmn,hx3⟩;simp only at h6 h5 hkk hmn;simp only[dq9,p6,↓reduceIte,Nat.reduceEqDiff]at hkp;obtain⟨g1,g2,_⟩:=hkp;have l3:=ld w3 (b7 hx3);by_cases hlt:k<x.kids.length;rotate_left
  ·have hd:decide ((k:Int)<(x.kids.length:Int))=false:=du3 (by omega);have hw:IntKind.i64.wrap ((m:Int)+1)=((m+1:Nat):Int):=A8 m (by omega);simp only[i5,n8,simprocAttr,h6,h5,g2,l3,hS,hl,hd,hw];refine o6 results180 ?_;simp only[p6,simprocAttr];exact⟨m+1,by trivial,by omega,hx.trans hx3⟩
  have hd:decide ((k:Int)<(x.kids.length:Int))=true:=du9 (by omega);have hd2:decide ((m:Int)<((n+1:Nat):Int))=true:=du9 (by omega);have hw:IntKind.i64.wrap ((k:Int)+1)=((k+1:Nat):Int):=A8 k (by omega);have hin:=hk.inS hlt;obtain⟨sv,hsv,hld⟩:=E4 (P:=prog) (t:=41) hk (b7 hx3) (dq7 hlt) bc6 bc9 aS6 ae4;rw[ae4]at hld;have hyd:=hkids _ (dr5 hlt);generalize x.kids[k]=y at hsv hyd;simp only[i5,n8,z6,simprocAttr,h6,h5,g1,g2,l3,hS,hl,hd,hd2,hin,hld,hsub];refine z7 (bv6 n sv y w3 (by omega) (hsv.mono (b7 hx3)) hyd) ?_;rintro u w4 ⟨j,rfl,hj,hx4⟩;rcases dq8 (decide ((m:Int)<(j:Int)))with hq|hq
  ·simp only[i5,n8,simprocAttr,h5,h6,hq,hw];exact⟨(k+1,j),by simp only[];omega,by trivial,by trivial,by simp only[];omega,by simp only[];omega,hx3.trans hx4⟩
  ·simp only[i5,n8,simprocAttr,h5,h6,hq,hw];exact⟨(k+1,m),by simp only[];omega,by trivial,by trivial,by simp only[];omega,by simp only[];omega,hx3.trans hx4⟩
theorem aE5(b:Bool):B6 prog .neq 4 (.bool b) (.bool b)=some (.bool false):=by cases b<;>kernel_rfl
theorem bv7:∀(n:Nat) (v:Value) (x:Ex) (w:World),SV (i4 w) v x→P3 n x=true→p7 prog 181 #[v] w fun u w'=>(u = .bool true∧o7 w w')
 | 0,v,x,w,_,h=>by cases h
 | n+1,v,x,w,hv,h=>by
  obtain⟨hkd,hk2,hn1,hn2,hnm,hkids⟩:=bt1 h;refine p8 [v] func181 rfl ?_;obtain⟨a,w1,hb,hx,ha⟩:=ah4 hv (d7 _);obtain⟨vk,hk,ld,sd⟩:=ha.ex;have hS:=hk.isS;have hl:=hk.vlen;have s1:=sd (fun w2=>o7 w1.drew w2) w1.drew (t8.refl _) (fun w' h=>b7 ((o7.drew w1).trans h));have hd1:decide (ac1 x.op=(x.kids.length:Int))=true:=du9 hkd.symm;have hd2:decide (x.n<0)=false:=du3 (by omega);simp only[i5,n8,simprocAttr,hb];generalize hK:CW prog _ _=K;have tail:∀(f:Fr) (w2:World),f 1 = .pointer (some a)→f 45 = .bool false→o7 w1 w2→K f w2:=by
   intro f w2 g1 g45 hx2;rw[←hK];have l2:=ld w2 (b7 hx2);simp only[i5,n8,simprocAttr,g1,g45,l2,hS,hl];refine n9 [1,47,48] (σ:=Nat) (fun k f w'=>f 49 = .int .i64 k∧k≤x.kids.length∧o7 w1 w') (fun k=>x.kids.length-k) 0 ?_ ?_
   ·simp only[p6,simprocAttr];exact⟨by trivial,dr8 _,hx2⟩
   rintro k f3 w3 hkp ⟨h49,hkk,hx3⟩;simp only[dq9,p6,↓reduceIte,Nat.reduceEqDiff]at hkp;obtain⟨e1,e47,e48,_⟩:=hkp;simp only[i5,n8,simprocAttr,h49,e48];refine m8 (fun hc=>?_) (fun hc=>?_);rotate_left
   ·simp only[i5,simprocAttr];refine o6 results181 ?_;simp only[p6,simprocAttr];exact⟨by trivial,hx.trans hx3⟩
   have hlt:k<x.kids.length:=by simpa using hc
   have l3:=ld w3 (b7 hx3);have hin:=hk.inS hlt;obtain⟨sv,hsv,hld⟩:=E4 (P:=prog) (t:=41) hk (b7 hx3) (dq7 hlt) bc6 bc9 aS6 ae4;rw[ae4]at hld;have hyd:=hkids _ (dr5 hlt);generalize x.kids[k]=y at hsv hyd;simp only[i5,n8,z6,simprocAttr,h49,e1,g1,l3,hin,hld];refine B2 (bv7 n sv y w3 (hsv.mono (b7 hx3)) hyd) (fun w4 hx4=>?_);simp only[i5,n8,simprocAttr,h49];exact⟨k+1,by omega,by rw[A8 k (by omega)],by omega,hx3.trans hx4⟩
  refine C0 (fun w2=>o7 w1.drew w2) 42 (A9 [0,1,3,4,5,2,6,7,8,9,10,11,12,13,14,15,16,17,18,19,20,21,22,23,24,25,26,27,28,29,30,31,32,33,34,35,36,37,38,39,40,41]) ?_;simp only[D2,A9,i5,n8,simprocAttr,s1,hS,hl];refine C7 (bT6 x.op _) ?_;by_cases h2:x.op=2
  ·rw[if_pos h2]at hnm;have d1:decide (x.op=1)=false:=du3 (by omega);have d2:decide (x.op=2)=true:=du9 h2;have d3:decide (x.n=0)=true:=du9 (hn1.resolve_left (by omega));have d4:decide (x.name=e0)=false:=du3 fun e=>by rw[e]at hnm;cases hnm
   simp only[D2,i5,n8,simprocAttr,F1,s1,aE5,hd1,hd2,d1,d2,d3,d4];refine⟨t8.refl _,?_⟩;refine B2 (ac5 x.name _ hnm) (fun w2 hx2=>⟨hx2,?_⟩);simp only[D2,i5,n8,simprocAttr];exact tail _ _ (by simp only[p6,simprocAttr]) (by simp only[p6,simprocAttr]) ((o7.drew w1).trans hx2)
  ·rw[if_neg h2]at hnm;have d2:decide (x.op=2)=false:=du3 h2;have d4:decide (x.name=e0)=true:=du9 hnm;by_cases h1:x.op=1
   ·have d1:decide (x.op=1)=true:=du9 h1;simp only[D2,i5,n8,simprocAttr,F1,s1,aE5,hd1,hd2,d1,d2,d4];exact⟨t8.refl _,tail _ _ (by simp only[p6,simprocAttr]) (by simp only[p6,simprocAttr]) (o7.drew w1)⟩
   ·have d1:decide (x.op=1)=false:=du3 h1;have d3:decide (x.n=0)=true:=du9 (hn1.resolve_left h1);simp only[D2,i5,n8,simprocAttr,F1,s1,aE5,hd1,hd2,d1,d2,d3,d4];exact⟨t8.refl _,tail _ _ (by simp only[p6,simprocAttr]) (by simp only[p6,simprocAttr]) (o7.drew w1)⟩
theorem aR1(v:Value)(x:Ex)(w:World)(hv:SV (i4 w) v x)(h:P3 20 x=true):p7 prog 118 #[v] w fun u w'=>(u = .bool true∧o7 w w'):=by
 refine p8 [v] func118 rfl ?_;obtain⟨a,w1,hb,hx,ha⟩:=ah4 hv (d7 _);obtain⟨sy,hsy,ly,_⟩:=ha.ex_v;have l1:=ly w1 (d7 _);simp only[i5,n8,simprocAttr,hb,l1];refine z7 (bv6 20 sy x w1 (by omega) hsy h) ?_;rintro u w2 ⟨k,rfl,hk,hx2⟩;have hd:decide ((k:Int)≤20)=true:=du9 (by omega);have l2:=ly w2 (b7 hx2);simp only[i5,n8,simprocAttr,hd,l2];refine B2 (bv7 20 sy x w2 (hsy.mono (b7 hx2)) h) (fun w3 hx3=>?_);simp only[i5,simprocAttr];refine o6 results118 ?_;simp only[p6,simprocAttr];exact⟨by trivial,hx.trans (hx2.trans hx3)⟩
theorem cz5(v:Value)(a:Ar)(w:World)(hv:SV (i4 w) v a)(h1:T3 a.name a.ref=true)(h2:Z2 a.x (!a.ref)=true):p7 prog 120 #[v] w fun u w'=>(u = .bool true∧o7 w w'):=by
 refine p8 [v] func120 rfl ?_;obtain⟨c,w1,hb,hx,ha⟩:=bY4 hv (d7 _);obtain⟨hax,ld,_⟩:=ha.ar;obtain⟨sy,hsy,ly,_⟩:=hax.ex_v;have l1:=ld w1 (d7 _);unfold T3 at h1;unfold Z2 at h2;cases hr:a.ref
 ·simp only[hr,Bool.not_false,Bool.not_true,Bool.false_and,dy1,dC4,Bool.or_false]at h1 h2;have l2:=ly w1 (d7 _);simp only[i5,n8,simprocAttr,hb,l1,hr,h1,l2];refine B2 (aR1 sy a.x w1 hsy h2) (fun w2 hx2=>?_);simp only[i5,simprocAttr];refine o6 results120 ?_;simp only[p6,simprocAttr];exact⟨by trivial,hx.trans hx2⟩
 ·simp only[hr,Bool.not_false,Bool.not_true,Bool.false_and,dy1,dC4,Bool.or_false]at h1 h2;simp only[i5,n8,simprocAttr,hb,l1,hr];refine B2 (ac5 a.name w1 h1) (fun w2 hx2=>?_);have l2:=ly w2 (b7 hx2);simp only[i5,n8,simprocAttr,l2];refine B2 (bv8 sy a.x w2 (hsy.mono (b7 hx2)) h2) (fun w3 hx3=>?_);simp only[i5,simprocAttr];refine o6 results120 ?_;simp only[p6,simprocAttr];exact⟨by trivial,hx.trans (hx2.trans hx3)⟩
def bi9(s:St):Bool:=decide (s.kind=1)||(decide (s.kind=3)||(decide (s.kind=5)||(decide (s.kind=6)||(decide (s.kind=9)&&s.has))))
def bi8(s:St):Bool:=decide (s.kind=1)||(decide (s.kind=2)||decide (s.kind=10))
structure cX3 (s:St):Prop where
 lo:1≤s.kind
 hi:s.kind≤10
 x:bi9 s=true→P3 20 s.x=true
 nox:bi9 s=false→bv1 s.x=true
 has:s.has=true→s.kind=9
 name:bi8 s=true→K8 s.name=true
 noname:bi8 s=false→s.name=e0∨(s.kind=4∧K8 s.name=true)
 proc:s.kind=4→K8 s.proc=true
 noproc:s.kind≠4→s.proc=e0∧s.args.length=0
 args:aH0 s.args=true
 thn:s.thn.length=0∨s.kind=5∨s.kind=6
 els:s.els.length=0∨s.kind=5
theorem cT1{s:St}(h:R5 s=true):cX3 s:=by
 unfold R5 at h;split at h
 ·cases h
 rename_i k hk;simp only[dt0,Bool.not_eq_true',Bool.or_eq_false_iff]at h;obtain⟨⟨⟨⟨⟨⟨⟨a0,a1⟩,a2⟩,a3⟩,b1⟩,b2⟩,b3⟩,b4⟩:=h;have hin:s.kind=1∨s.kind=2∨s.kind=3∨s.kind=4∨s.kind=5∨s.kind=6∨s.kind=7∨s.kind=8∨s.kind=9∨s.kind=10:=by
  unfold R6 at hk
  repeat' split at hk
  all_goals first
   | omega
   | cases hk
 unfold R6 at hk;unfold T3 at b1 b2;unfold Z2 at b3;rcases hin with e|e|e|e|e|e|e|e|e|e<;>(
  simp[e]at hk;subst hk;simp only[e,Int.reduceEq,decide_true,decide_false,Bool.not_true,Bool.not_false,dy1,Bool.false_and,dC4,Bool.or_false]at a0 a1 a2 a3 b1 b2 b3;by_cases hN:s.name=e0<;>cases hH:s.has<;>constructor<;>simp_all [bi9,bi8])
theorem cz7(v:Value)(s:St)(w:World)(hv:SV (i4 w) v s)(hn:O0 s.labels=true)(hf:R5 s=true)(hb1:s.labels.length≤1000000000)(hb2:s.args.length≤1000000000):p7 prog 71 #[v] w fun u w'=>(u = .bool true∧o7 w w'):=by
 have hok:=cT1 hf;refine p8 [v] func71 rfl ?_;obtain⟨c,w1,hb,hx,ha⟩:=ah5 hv (d7 _);obtain⟨vl,va,vt,ve,hvl,hva,hvt,hve,hax,ld,_⟩:=ha.st;obtain⟨sx,hsx,lx,_⟩:=hax.ex_v;have l1:=ld w1 (d7 _);have hin:s.kind=1∨s.kind=2∨s.kind=3∨s.kind=4∨s.kind=5∨s.kind=6∨s.kind=7∨s.kind=8∨s.kind=9∨s.kind=10:=by
  have:=hok.lo;have:=hok.hi;omega
 have k1:decide (s.kind<1)=false:=du3 (by have:=hok.lo;omega);have k2:decide (10<s.kind)=false:=du3 (by have:=hok.hi;omega);simp only[i5,n8,simprocAttr,hb];generalize hK:CW prog _ (aJ3 _ _ _)=K;have tail:∀f:Fr,f 1 = .pointer (some c)→f 3 = .bool (bi9 s)→K f w1:=by
  intro f g1 g3;rw[←hK];simp only[i5,simprocAttr];generalize hK2:CW prog _ (aJ3 _ _ _)=K2;have tail2:∀f:Fr,f 1 = .pointer (some c)→f 3 = .bool (bi9 s)→f 4 = .bool (bi8 s)→K2 f w1:=by
   intro f g1 g3 g4;rw[←hK2];simp only[i5,n8,simprocAttr,g1,l1,k1,k2];generalize hK3:CW prog _ (aJ3 _ _ _)=K3;have tail3:∀(f:Fr) (w2:World),o7 w1 w2→f 1 = .pointer (some c)→f 4 = .bool (bi8 s)→f 5 = .bool (decide (s.kind=4))→K3 f w2:=by
    intro f w2 hx2 g1 g4 g5;rw[←hK3];have l2:=ld w2 (b7 hx2);simp only[i5,n8,simprocAttr,g1,g4];generalize hK4:CW prog _ (aJ3 _ _ _)=K4;have tail4:∀(f:Fr) (w3:World),o7 w1 w3→f 1 = .pointer (some c)→f 5 = .bool (decide (s.kind=4))→K4 f w3:=by
     intro f w3 hx3 g1 g5;rw[←hK4];have l3:=ld w3 (b7 hx3);simp only[i5,n8,simprocAttr,g1,g5,l3];generalize hK5:CW prog _ (aJ3 _ _ _)=K5;have tail5:∀(f:Fr) (w4:World),o7 w1 w4→f 1 = .pointer (some c)→K5 f w4:=by
      intro f w4 hx4 g1;rw[←hK5];have l4:=ld w4 (b7 hx4);have hSa:=hva.isS;have hna:=hva.vlen;simp only[i5,n8,simprocAttr,g1,l4,hSa,hna];refine n9 [1,143,144] (σ:=Nat) (fun k f w'=>f 145 = .int .i64 k∧k≤s.args.length∧o7 w1 w') (fun k=>s.args.length-k) 0 ?_ ?_
      ·simp only[p6,simprocAttr];exact⟨by trivial,dr8 _,hx4⟩
      rintro k f5 w5 hk ⟨h145,hkl,hx5⟩;simp only[dq9,p6,simprocAttr]at hk;obtain⟨e1,e143,e144,_⟩:=hk;rw[g1]at e1;simp only[i5,n8,simprocAttr,h145,e144];refine m8 (fun hc=>?_) (fun hc=>?_);rotate_left
      ·have l5:=ld w5 (b7 hx5);have hSt:=hvt.isS;have hnt:=hvt.vlen;have hSe:=hve.isS;have hne:=hve.vlen;have z0:∀{n:Nat},n=0→decide ((n:Int)=0)=true:=fun h=>du9 (by omega);have z1:∀{n:Nat},¬n=0→decide ((n:Int)=0)=false:=fun h=>du3 (by omega);by_cases ht:s.thn.length=0
       ·by_cases hq:s.els.length=0
        ·simp only[i5,n8,simprocAttr,e1,l5,hSt,hnt,hSe,hne,z0 ht,z0 hq];refine o6 results71 ?_;simp only[p6,simprocAttr];exact⟨by trivial,hx.trans hx5⟩
        ·have d5:decide (s.kind=5)=true:=du9 (hok.els.resolve_left hq);simp only[i5,n8,simprocAttr,e1,l5,hSt,hnt,hSe,hne,z0 ht,z1 hq,d5];refine o6 results71 ?_;simp only[p6,simprocAttr];exact⟨by trivial,hx.trans hx5⟩
       ·by_cases h5:s.kind=5
        ·have d5:decide (s.kind=5)=true:=du9 h5;by_cases hq:s.els.length=0
         ·simp only[i5,n8,simprocAttr,e1,l5,hSt,hnt,hSe,hne,z1 ht,z0 hq,d5];refine o6 results71 ?_;simp only[p6,simprocAttr];exact⟨by trivial,hx.trans hx5⟩
         ·simp only[i5,n8,simprocAttr,e1,l5,hSt,hnt,hSe,hne,z1 ht,z1 hq,d5];refine o6 results71 ?_;simp only[p6,simprocAttr];exact⟨by trivial,hx.trans hx5⟩
        ·have d5:decide (s.kind=5)=false:=du3 h5;have d6:decide (s.kind=6)=true:=du9 ((hok.thn.resolve_left ht).resolve_left h5);have hq:=hok.els.resolve_right h5;simp only[i5,n8,simprocAttr,e1,l5,hSt,hnt,hSe,hne,z1 ht,z0 hq,d5,d6];refine o6 results71 ?_;simp only[p6,simprocAttr];exact⟨by trivial,hx.trans hx5⟩
      have hlt:k<s.args.length:=by simpa using hc
      have hin:=hva.inS hlt;obtain⟨sv,hsv,hld⟩:=E4 (P:=prog) (t:=101) hva (b7 hx5) (dq7 hlt) az1 az3 at1 S4;rw[S4]at hld;have hya:=dx6.1 hok.args _ (dr5 hlt);rw[dt0]at hya;generalize s.args[k]=y at hsv hya;obtain⟨d,wz,w6,hal,hst,hx6,hat⟩:=aI6 (hsv.mono (b7 hx5)) (d7 _);obtain⟨sy,hsy,ly,_⟩:=hat.ar_v;have l6:=ly w6 (d7 _);simp only[i5,n8,z6,simprocAttr,h145,e143,hin,hld,hal,hst,l6];refine B2 (cz5 sy y w6 hsy hya.1 hya.2) (fun w7 hx7=>?_);simp only[i5,n8,simprocAttr,h145];exact⟨k+1,by omega,by rw[A8 k (by omega)],by omega,hx5.trans (hx6.trans hx7)⟩
     by_cases h4:s.kind=4
     ·have d4:decide (s.kind=4)=true:=du9 h4;have hp:=hok.proc h4;have dp:decide (s.proc=e0)=false:=du3 fun e=>by rw[e]at hp;cases hp
      simp only[i5,n8,simprocAttr,g1,g5,l3,d4,dp,aE5];refine B2 (ac5 s.proc w3 hp) (fun w4 hx4=>?_);simp only[i5,n8,simprocAttr,g5,d4];exact tail5 _ _ (hx3.trans hx4) (by simp only[p6,simprocAttr];exact g1)
     ·have d4:decide (s.kind=4)=false:=du3 h4;obtain⟨hp,ha0⟩:=hok.noproc h4;have dp:decide (s.proc=e0)=true:=du9 hp;have hSa:=hva.isS;have hna:=hva.vlen;have da:decide ((0:Int)<(s.args.length:Int))=false:=du3 (by omega);simp only[i5,n8,simprocAttr,g1,g5,l3,d4,dp,aE5,hSa,hna,da];exact tail5 _ _ hx3 (by simp only[p6,simprocAttr];exact g1)
    cases hbn:bi8 s
    ·rcases hok.noname hbn with h|⟨h4,h⟩
     ·have dn:decide (s.name=e0)=true:=du9 h;simp only[i5,n8,simprocAttr,l2,dn];exact tail4 _ _ hx2 (by simp only[p6,simprocAttr];exact g1) (by simp only[p6,simprocAttr];exact g5)
     ·have dn:decide (s.name=e0)=false:=du3 fun e=>by rw[e]at h;cases h
      have d4:decide (s.kind=4)=true:=du9 h4;simp only[i5,n8,simprocAttr,g1,g5,d4,l2,dn];refine B2 (ac5 s.name w2 h) (fun w3 hx3=>?_);simp only[i5,n8,simprocAttr];exact tail4 _ _ (hx2.trans hx3) (by simp only[p6,simprocAttr];exact g1) (by simp only[p6,simprocAttr];rw[g5,d4])
    ·simp only[i5,simprocAttr,l2];refine B2 (ac5 s.name w2 (hok.name hbn)) (fun w3 hx3=>?_);simp only[i5,n8,simprocAttr,g4,hbn];exact tail4 _ _ (hx2.trans hx3) (by simp only[p6,simprocAttr];exact g1) (by simp only[p6,simprocAttr];exact g5)
   refine B2 (ay3 vl s.labels w1 hvl hb1 hn) (fun w2 hx2=>?_);have l2:=lx w2 (b7 hx2);cases hbx:bi9 s
   ·simp only[i5,n8,simprocAttr,g3,hbx,l2,g1];refine B2 (bv8 sx s.x w2 (hsx.mono (b7 hx2)) (hok.nox hbx)) (fun w3 hx3=>?_);have l3:=ld w3 (b7 (hx2.trans hx3));cases hh:s.has
    ·simp only[i5,n8,simprocAttr,l3,hh,g1];exact tail3 _ _ (hx2.trans hx3) (by simp only[p6,simprocAttr];exact g1) (by simp only[p6,simprocAttr];exact g4) (by simp only[p6,simprocAttr])
    ·have d9:decide (s.kind=9)=true:=du9 (hok.has hh);simp only[i5,n8,simprocAttr,l3,hh,d9,g1];exact tail3 _ _ (hx2.trans hx3) (by simp only[p6,simprocAttr];exact g1) (by simp only[p6,simprocAttr];exact g4) (by simp only[p6,simprocAttr])
   ·simp only[i5,n8,simprocAttr,g3,hbx,l2,g1];refine B2 (aR1 sx s.x w2 (hsx.mono (b7 hx2)) (hok.x hbx)) (fun w3 hx3=>?_);have l3:=ld w3 (b7 (hx2.trans hx3));cases hh:s.has
    ·simp only[i5,n8,simprocAttr,l3,hh,g1,g3,hbx];exact tail3 _ _ (hx2.trans hx3) (by simp only[p6,simprocAttr];exact g1) (by simp only[p6,simprocAttr];exact g4) (by simp only[p6,simprocAttr])
    ·have d9:decide (s.kind=9)=true:=du9 (hok.has hh);simp only[i5,n8,simprocAttr,l3,hh,d9,g1,g3,hbx];exact tail3 _ _ (hx2.trans hx3) (by simp only[p6,simprocAttr];exact g1) (by simp only[p6,simprocAttr];exact g4) (by simp only[p6,simprocAttr])
  rcases hin with e|e|e|e|e|e|e|e|e|e<;>(
   rw[e]at l1;simp only[i5,n8,simprocAttr,g1,l1,Int.reduceEq,decide_false];refine tail2 _ (by simp only[p6,simprocAttr];exact g1) (by simp only[p6,simprocAttr];exact g3) (by simp only[p6,simprocAttr];simp[bi8,e]))
 rcases hin with e|e|e|e|e|e|e|e|e|e<;>(
  rw[e]at l1;simp only[i5,n8,simprocAttr,l1,Int.reduceEq,decide_false];refine tail _ (by simp only[p6,simprocAttr]) (by simp only[p6,simprocAttr];simp[bi9,e]))
def dg2:=zJ (zJ (zJ (zJ (zJ (zJ @dh0 @dg3) (zJ @cW8 (zJ @dg6 @dg7))) (zJ (zJ @dg4 @dg5) (zJ @dk4 (zJ @dk0 @dd9)))) (zJ (zJ (zJ @dk1 @dk2) (zJ @cX9 (zJ @cV4 @cY0))) (zJ (zJ @cY1 @di7) (zJ @di6 (zJ @dh2 @dk6))))) (zJ (zJ (zJ (zJ @do4 @cW6) (zJ @dj6 (zJ @cW7 @dj7))) (zJ (zJ @dm8 @dp0) (zJ @cJ8 (zJ @db8 @cJ9)))) (zJ (zJ (zJ @db9 @dc0) (zJ @cT3 (zJ @cO5 @cO4))) (zJ (zJ @db7 @dn0) (zJ @dm9 (zJ @cT2 @dn2)))))) (zJ (zJ (zJ (zJ (zJ @dn1 @dj4) (zJ @cF0 (zJ @da9 @dm4))) (zJ (zJ @cJ6 @cW5) (zJ @cS8 (zJ @dl9 @dm5)))) (zJ (zJ (zJ @cW4 @dj3) (zJ @db1 (zJ @dj2 @ev.eq_1))) (zJ (zJ @ev.eq_2 @ev.eq_3) (zJ @ev.eq_4 (zJ @C4.eq_1 @C4.eq_2))))) (zJ (zJ (zJ (zJ @do2 @dm6) (zJ @dn4 (zJ @dn5 @List.map_cons.{0,0}))) (zJ (zJ @List.map_nil.{0,0} @List.map_toArray.{0,0}) (zJ @bE1.eq_1 (zJ @bE1.eq_2 @cS0)))) (zJ (zJ (zJ @di4 @di5) (zJ @cv3.eq_1 (zJ @List.getElem?_toArray.{0} @List.getElem?_cons_zero.{0}))) (zJ (zJ @List.getElem?_cons_succ.{0} @Option.bind_some.{0,0}) (zJ @Option.some.injEq.{0} (zJ @dx4 @Bool.true_eq_false))))))
theorem bR0(x:Ex)(out:List A7):ah6 x out=al7 x.kids (if x.op=2∧out.contains x.name=false then out++[x.name]else out):=by
 cases x;simp only[ah6,Ex.kids,Ex.op,Ex.name];rfl
mutual
theorem aD8:∀(x:Ex) (out:List A7),(ah6 x out).length≤out.length+S6 x
 | .mk op n name kids,out=>by
  have h:=ba5 kids (if op=2∧out.contains name=false then out++[name]else out);have h2:(if op=2∧out.contains name=false then out++[name]else out).length≤out.length+1:=by
   split
   ·simp
   ·omega
  simp only[ah6,S6,wtT];omega
theorem ba5:∀(l:List Ex) (out:List A7),(al7 l out).length≤out.length+ar3 l
 | [],out=>by simp[al7,ar3]
 | x::l,out=>by
  have h1:=aD8 x out;have h2:=ba5 l (ah6 x out);simp only[al7,ar3];omega
end
theorem bR1:∀(m:Nat) (x:Ex) (v vo:Value) (out:List A7) (h:Hp) (w:World),S6 x≤m→SV h v x→B5 h (i4 w)→B0 h w 9 vo out→out.length+S6 x≤1000000 →
  p7 prog 191 #[v,vo] w fun u w'=>(B0 h w' 9 u (ah6 x out)∧t8 (A4 vo) w w'∧D7 w vo u):=by
 intro m
 induction m using Nat.strongRecOn with
 | ind m ih=>
 intro x v vo out h w hsm hv hh ho hl;refine p8 [v,vo] func191 rfl ?_;have hwx:=bD3 x;obtain⟨a,w1,hbx,hx1,ha⟩:=be3 (w:=w) (A4 vo) hv (fun b hb=>ho.lt hb);obtain⟨vk,hk,ld,_⟩:=I2.ex hv ha;have l1:=ld w1 (B3 _ _);have ho1:=ho.ext hx1;have hh1:=p9 hh (b7 hx1);have hSk:=hk.isS;have hnk:=hk.vlen;have hkl:=bx6 x.kids;rw[bf3];simp only[dg2,n8,simprocAttr,hbx];refine cZ2 [2] (fun f2 w2=>∃u,f2 1=u∧B0 h w2 9 u (if x.op=2∧out.contains x.name=false then out++[x.name]else out)∧t8 (A4 vo) w1 w2∧D7 w1 vo u) (by decide +kernel) ?_ ?_
 ·by_cases h1:x.op=2
  ·have d1:decide (x.op=2)=true:=by simp[h1]
   simp only[n7,n8,simprocAttr,l1,d1];refine C7 (O3 vo out x.name w1 (ho1.rw_ hh1) (by omega)) ?_;cases h2:out.contains x.name
   ·obtain⟨p1,u',w2,p2,p3,p4,p5⟩:=push (e:=22) ar6 rfl ho1 (x:=o9 x.name) (y:=x.name) rfl (by omega) (by omega) hh1;simp only[n7,n8,simprocAttr,l1,p1,p2];exact⟨u',by trivial,by rw[if_pos ⟨h1,by trivial⟩];exact p3,p4,p5⟩
   ·simp only[n7,n8,simprocAttr];exact⟨vo,by trivial,by rw[if_neg (by rintro⟨_,h⟩;cases h)];exact ho1,t8.refl _,fun b hb=>.inl hb⟩
  ·have d1:decide (x.op=2)=false:=by simp[h1]
   simp only[n7,n8,simprocAttr,l1,d1];exact⟨vo,by trivial,by rw[if_neg (fun h=>h1 h.1)];exact ho1,t8.refl _,fun b hb=>.inl hb⟩
 ·rintro f2 w2 hkp ⟨u0,g1,ho2,hm2,hmv2⟩;simp only[dq9,p6,↓reduceIte,Nat.reduceEqDiff]at hkp;obtain⟨g2,_⟩:=hkp;have hlen0:(if x.op=2∧out.contains x.name=false then out++[x.name]else out).length≤out.length+1:=by
   split
   ·simp
   ·omega
  have hgF:=bR0 x out;generalize(if x.op=2∧out.contains x.name=false then out++[x.name]else out)=o0 at ho2 hlen0 hgF;have l2:=ld w2 (C8 hm2);have hwn:1≤wtT x.name:=by simp[wtT]
  simp only[n7,n8,simprocAttr,g2,l2,hSk,hnk];refine n9 [23,24] (σ:=Nat×Value×List A7) (fun s f w'=>f 25 = .int .i64 s.1∧f 1=s.2.1∧s.1≤x.kids.length∧B0 h w' 9 s.2.1 s.2.2∧t8 (A4 vo) w1 w'∧D7 w1 vo s.2.1∧al7 x.kids o0=al7 (x.kids.drop s.1) s.2.2∧s.2.2.length+ar3 (x.kids.drop s.1)≤1000000) (fun s=>x.kids.length-s.1) (0,u0,o0) ?_ ?_
  ·simp only[p6,simprocAttr];exact⟨by trivial,by simpa using g1,dr8 _,ho2,hm2,hmv2,by simp,by simp;omega⟩
  ·rintro⟨k,u,o⟩ f w3 hkq ⟨h25,h1,hkl',ho3,hm3,hmv3,hg3,hlen3⟩;simp only at h25 h1 hkl' ho3 hmv3 hg3 hlen3;simp only[dq9,p6,↓reduceIte,Nat.reduceEqDiff]at hkq;obtain⟨g23,g24,_⟩:=hkq;simp only[n7,n8,simprocAttr,h25,g24];refine m8 (fun hc=>?_) (fun hc=>?_)
   ·have hlt:k<x.kids.length:=by simpa using hc
    have hin:=hk.inS hlt;have hh3:B5 h (i4 w3):=H9 hh1 hm3 fun b hb=>ho.free hb;obtain⟨sv,hsv,hld⟩:=E4 (P:=prog) (t:=41) hk hh3 (dq7 hlt) bc6 bc9 aS6 ae4;rw[ae4]at hld;have hdrop:x.kids.drop k=x.kids[k]::x.kids.drop (k+1):=du8 hlt;have hwm:=aY3 (dr5 hlt);generalize x.kids[k]=y at hsv hdrop hwm;rw[hdrop,al7]at hg3;rw[hdrop,ar3]at hlen3;have hgl:=aD8 y o;obtain⟨b,wz,w4,hal,hst,hx4,hat⟩:=cL8 (w:=w3) (A4 u) hsv (fun b hb=>ho3.lt hb);obtain⟨lw,_⟩:=I2.ex_v hsv hat;have l4:=lw w4 (B3 _ _);simp only[n7,n8,z6,simprocAttr,h25,h1,g23,hin,hld,hal,hst,l4];refine z7 (ih (S6 y) (by omega) y sv u o h w4 (ds5 _) hsv (p9 hh3 (b7 hx4)) (ho3.ext hx4) (by omega)) ?_;rintro u' w5 ⟨ho5,hm5,hmv5⟩;simp only[n7,n8,simprocAttr,h25];have hm15:t8 (A4 vo) w1 w5:=(hm3.trans (t8.up hx4)).chain hm5 fun i hi hb=>by
     rcases hmv3 i hb with hb|hb
     ·exact hb
     ·omega
    refine⟨(k+1,u',ah6 y o),by simp only[];omega,by simp only[];rw[A8 k (by omega)],by trivial,by simp only[];omega,ho5,hm15,fun b hb=>?_,hg3,by simp only[];omega⟩;rcases hmv5 b hb with hb|hb
    ·exact hmv3 b hb
    ·have:=(hm3.trans (t8.up (M:=A4 vo) hx4)).size;exact .inr (by omega)
   ·have hge:k=x.kids.length:=by simp at hc;omega
    subst hge;simp only[n7,simprocAttr,h1];refine o6 results191 ?_;simp only[p6,simprocAttr];rw[dA0]at hg3;have hgo:ah6 x out=o:=by rw[hgF,hg3];rfl
    exact⟨by rw[hgo];exact ho3,(t8.up hx1).trans hm3,fun b hb=>(hmv3 b hb).imp id fun h=>dr7 hx1.size h⟩
theorem ao1(v:Value)(x:Ex)(w:World)(hv:SV (i4 w) v x)(hl:S6 x≤1000000):p7 prog 129 #[v] w fun u w'=>(B0 (i4 w) w' 9 u (aa7 x)∧o7 w w'):=by
 refine p8 [v] func129 rfl ?_;obtain⟨a,w1,hbx,hx1,ha⟩:=be3 (w:=w) (fun _=>False) hv (fun _ h=>h.elim);obtain⟨lw,_⟩:=I2.ex_v hv ha;have l1:=lw w1 (B3 _ _);simp only[n7,n8,simprocAttr,hbx,l1];refine B2 (aY5 v x w1 (hv.mono (b7 hx1))) (fun w2 hx2=>?_);cases hd:P3 20 x
 ·simp only[n7,n8,simprocAttr];refine o6 results129 ?_;simp only[p6,simprocAttr];exact⟨by rw[aa7,hd];exact B0.nil _ _ _,hx1.trans hx2⟩
 ·have l2:=lw w2 (p9 (B3 _ _) (b7 hx2));have hx12:=hx1.trans hx2;simp only[n7,n8,simprocAttr,l2];refine z7 (bR1 _ x v (.slice none 0 0) [] (i4 w) w2 (ds5 _) hv (b7 hx12) (B0.nil _ _ _) (by simpa using hl)) ?_;rintro u w3 ⟨ho,hm3,hmv⟩;simp only[n7,simprocAttr];refine o6 results129 ?_;simp only[p6,simprocAttr];exact⟨by rw[aa7,hd];exact ho,t8.ext_of hx12 hm3 fun b hb=>absurd hb C6⟩
def dC2:=@List.flatMap_append
def dA4:=@List.flatMap_cons
def dD5:=@List.take_succ_cons
theorem aa8(x:Ex):(aa7 x).length≤S6 x:=by
 unfold aa7;split
 ·have:=aD8 x [];simpa using this
 ·simp
theorem by5(a:Ar):(J3 a).length≤ak3 a:=by
 have:=aa8 a.x;unfold J3 ak3 wtT;split<;>simp<;>omega
theorem I9{α β:Type}(g:α→List β)(l:List α){k:Nat}(hk:k<l.length):(l.take (k+1)).flatMap g=(l.take k).flatMap g++g l[k]:=by
 rw[dr6 hk,dC2];simp
theorem M1:∀(l:List Ar),(l.flatMap J3).length≤Z6 l
 | []=>by simp
 | a::l=>by
  have h1:=M1 l;have h2:=by5 a;simp only[dA4,dr1,Z6];omega
theorem ar2:∀(l:List Ar) (k:Nat),Z6 (l.take k)≤Z6 l
 | [],k=>by simp
 | a::l,0=>by simp[Z6]
 | a::l,k+1=>by have:=ar2 l k;simp only[dD5,Z6];omega
theorem bc1(v:Value)(t:St)(w:World)(hv:SV (i4 w) v t)(hl:O6 t≤1000000):p7 prog 212 #[v] w fun u w'=>(B0 (i4 w) w' 9 u (L4 t)∧o7 w w'):=by
 refine p8 [v] func212 rfl ?_;rw[P2]at hl;obtain⟨a,w1,hbx,hx1,ha⟩:=bY9 (w:=w) (fun _=>False) hv (fun _ h=>h.elim);obtain⟨vl,ux,va,vt,ve,_,hux,hatx,hva,_,_,ld,_⟩:=I2.st hv ha;have hle1:∀w',o7 w1 w'→B5 (B7 w1 fun _=>False) (i4 w'):=fun w' h=>p9 (B3 _ _) (b7 h);have l1:=ld w1 (hle1 _ (t8.refl _));have hnl:=aa8 t.x;rw[bf3];simp only[dg2,n8,simprocAttr,hbx];rw[bf3];simp only[dg2,simprocAttr];refine cZ2 [1] (fun f2 w2=>∃u,f2 3=u∧B0 (i4 w1) w2 9 u (if t.kind≠10∧t.name≠e0 then[t.name]else[])∧o7 w1 w2) (by decide +kernel) ?_ ?_
 ·by_cases h1:t.kind=10
  ·have d1:decide (t.kind=10)=true:=by simp[h1]
   simp only[n7,n8,simprocAttr,l1,d1];exact⟨_,by trivial,by rw[if_neg (fun h=>h.1 h1)];exact B0.nil _ _ _,t8.refl _⟩
  ·have d1:decide (t.kind=10)=false:=by simp[h1]
   by_cases h2:t.name=e0
   ·have d2:decide (t.name=e0)=true:=by simp[h2]
    simp only[n7,n8,simprocAttr,l1,d1,d2];exact⟨_,by trivial,by rw[if_neg (fun h=>h.2 h2)];exact B0.nil _ _ _,t8.refl _⟩
   ·have d2:decide (t.name=e0)=false:=by simp[h2]
    obtain⟨p1,u',w2,p2,p3,p4,p5⟩:=push (e:=22) ar6 rfl (B0.nil (i4 w1) w1 9) (x:=o9 t.name) (y:=t.name) rfl (by simp) (by simp) (d7 _);simp only[n7,n8,simprocAttr,l1,d1,d2,p1,p2];exact⟨u',by trivial,by rw[if_pos ⟨h1,h2⟩];exact p3,t8.ext_of (t8.refl _) p4 fun b hb=>absurd hb C6⟩
 ·rintro f2 w2 hkp ⟨u0,g3,ho2,hx2⟩;simp only[dq9,p6,↓reduceIte,Nat.reduceEqDiff]at hkp;obtain⟨g1,_⟩:=hkp;have hst:L4 t=(if t.kind≠10∧t.name≠e0 then[t.name]else[])++aa7 t.x++t.args.flatMap J3:=rfl;have hlen0:(if t.kind≠10∧t.name≠e0 then[t.name]else[]).length≤1:=by split<;>simp
  generalize(if t.kind≠10∧t.name≠e0 then[t.name]else[])=o0 at ho2 hlen0 hst;obtain⟨lwx,_⟩:=I2.ex_v hux hatx;have l2:=ld w2 (hle1 _ hx2);have lx2:=lwx w2 (hle1 _ hx2);have hx02:=hx1.trans hx2;simp only[n7,n8,simprocAttr,g1,g3,lx2];refine z7 (ao1 ux t.x w2 (hux.mono (b7 hx02)) (by omega)) ?_;rintro u3 w3 ⟨ho3,hx3⟩;have hwt1:1≤wtT t.name∧1≤wtT t.proc:=by simp[wtT]
  obtain⟨u4,w4,a1,a2,a3,a4⟩:=aj1 (P:=prog) (e:=22) ar6 (ho2.ext hx3) (ho3.rw_ (b7 hx3)) (d7 _) (by omega) (by omega) (b7 (hx2.trans hx3));have hx14:o7 w1 w4:=t8.ext_of (hx2.trans hx3) a3 fun b hb=>D0 ((ho2.ext hx3).free hb);have l4:=ld w4 (hle1 _ hx14);have hSa:=hva.isS;have hna:=hva.vlen;have hal:=ag9 t.args;simp only[n7,n8,simprocAttr,g1,a1,l4,hSa,hna];refine n9 [25,26] (σ:=Nat×Value) (fun s f w'=>f 27 = .int .i64 s.1∧f 3=s.2∧s.1≤t.args.length∧B0 (i4 w1) w' 9 s.2 (o0++aa7 t.x++(t.args.take s.1).flatMap J3)∧o7 w1 w') (fun s=>t.args.length-s.1) (0,u4) ?_ ?_
  ·simp only[p6,simprocAttr];exact⟨by trivial,by trivial,dr8 _,by simpa using a2,hx14⟩
  ·rintro⟨k,u⟩ f w5 hkq ⟨h27,h3,hkl,ho5,hx5⟩;simp only at h27 h3 hkl ho5;simp only[dq9,p6,↓reduceIte,Nat.reduceEqDiff]at hkq;obtain⟨g25,g26,_⟩:=hkq;simp only[n7,n8,simprocAttr,h27,g26];refine m8 (fun hc=>?_) (fun hc=>?_)
   ·have hlt:k<t.args.length:=by simpa using hc
    have hin:=hva.inS hlt;have hx05:=hx1.trans hx5;obtain⟨sv,hsv,hld⟩:=E4 (P:=prog) (t:=101) hva (b7 hx05) (dq7 hlt) az1 az3 at1 S4;rw[S4]at hld;have htk:=I9 J3 t.args hlt;have hwm:=aI9 (dr5 hlt);have hpre:((t.args.take k).flatMap J3).length≤Z6 t.args:=dr7 (M1 _) (ar2 _ _);have hpre2:((t.args.take (k+1)).flatMap J3).length≤Z6 t.args:=dr7 (M1 _) (ar2 _ _);rw[htk]at hpre2;generalize t.args[k]=y at hsv htk hwm hpre2;have hany:J3 y=(if y.ref then[y.name]else[])++aa7 y.x:=rfl;rw[hany]at hpre2;simp only[dr1]at hpre2;obtain⟨b,wz,w6,hal6,hst6,hx6,hat⟩:=ce7 (w:=w5) (A4 u) hsv (fun b hb=>ho5.lt hb);obtain⟨uy,huy,hatyx,ldy,_⟩:=I2.ar hsv hat;obtain⟨lwy,_⟩:=I2.ex_v huy hatyx;have ho6:=ho5.ext hx6;have hx16:=hx5.trans hx6;have l6:=ldy w6 (B3 _ _);simp only[n7,n8,z6,simprocAttr,h27,g25,hin,hld,hal6,hst6,l6];generalize hK:CW prog _ (T0 1 (W1 _ _))=K;have key:∀(u7:Value) (f7:Fr) (w7:World),f7 3=u7→f7 5 = .pointer (some b)→f7 27 = .int .i64 k→B0 (i4 w1) w7 9 u7 (o0++aa7 t.x++(t.args.take k).flatMap J3++(if y.ref then[y.name]else[]))→t8 (A4 u) w6 w7→K f7 w7:=by
     intro u7 f7 w7 q3 q5 q27 ho7 hm7;have hx17:o7 w1 w7:=t8.ext_of hx16 hm7 fun b hb=>D0 (ho6.free hb);have ly7:=lwy w7 (C8 hm7);rw[←hK];simp only[n7,n8,simprocAttr,q3,q5,ly7];refine z7 (ao1 uy y.x w7 (huy.mono (b7 (hx1.trans hx17))) (by unfold ak3 at hwm;omega)) ?_;rintro u8 w8 ⟨ho8,hx8⟩;obtain⟨u9,w9,c1,c2,c3,c4⟩:=aj1 (P:=prog) (e:=22) ar6 (ho7.ext hx8) (ho8.rw_ (b7 hx8)) (d7 _) (by simp only[dr1];omega) (by simp only[dr1];omega) (b7 (hx17.trans hx8));have hx19:o7 w1 w9:=t8.ext_of (hx17.trans hx8) c3 fun b hb=>D0 ((ho7.ext hx8).free hb);simp only[n7,n8,simprocAttr,c1,q27];refine⟨(k+1,u9),by simp only[];omega,by simp only[];rw[A8 k (by omega)],by trivial,by simp only[];omega,?_,hx19⟩;simp only[];rw[htk,hany];simp only[dt4]at c2 ⊢;exact c2
    cases hr:y.ref
    ·simp only[n7,simprocAttr];refine key u _ _ ?_ ?_ ?_ (by rw[hr];simpa using ho6) (t8.refl _)<;>simp only[p6,↓reduceIte,Nat.reduceEqDiff,h3,h27]
    ·obtain⟨p1,u7,w7,p2,p3,p4,p5⟩:=push (e:=22) ar6 rfl ho6 (x:=o9 y.name) (y:=y.name) rfl (by simp only[dr1];omega) (by simp only[dr1];omega) (b7 hx16);simp only[n7,n8,simprocAttr,h3,l6,p1,p2];refine key u7 _ _ ?_ ?_ ?_ (by rw[hr];exact p3) p4<;>simp only[p6,↓reduceIte,Nat.reduceEqDiff,h27]
   ·have hge:k=t.args.length:=by simp at hc;omega
    subst hge;simp only[n7,simprocAttr,h3];refine o6 results212 ?_;simp only[p6,simprocAttr];rw[ds2]at ho5;exact⟨by rw[hst];exact ho5.back hx1,hx1.trans hx5⟩
theorem bQ2(v:Value)(s:St)(w:World)(hv:SV (i4 w) v s)(hb:O6 s≤1000000):p7 prog 211 #[v] w fun u w'=>(u = .bool (R5 s)∧o7 w w'):=by
 refine p8 [v] func211 rfl ?_;obtain⟨a,w1,hbx,hx,ha⟩:=ah5 hv (d7 _);obtain⟨vl,va,vt,ve,hl,hra,ht,he,hatx,ld,sd⟩:=ha.st;have hxd:=hx.trans (o7.drew w1);have l1:=ld w1.drew (b7 (o7.drew w1));have s1:=sd (fun w2=>o7 w1.drew w2) w1.drew (t8.refl _) (fun w' h=>b7 ((o7.drew w1).trans h));simp only[n7,n8,simprocAttr,hbx];refine C0 (fun w2=>o7 w1.drew w2) 8 (A9 [0,1,2,3,4,5,6,7]) ?_;simp only[D2,A9,n7,n8,simprocAttr,s1];simp only[n7,n8,simprocAttr,l1];generalize hK:CW prog _ (aJ3 prog _ _)=K;have hS1:=hra.isS;have hn1:=hra.vlen;have hS2:=ht.isS;have hn2:=ht.vlen;have hS3:=he.isS;have hn3:=he.vlen;have c1:decide ((0:Int)<((s.args.length:Nat):Int))=decide (0<s.args.length):=dv1.2 (by omega);have c2:decide ((0:Int)<((s.thn.length:Nat):Int))=decide (0<s.thn.length):=dv1.2 (by omega);have c3:decide ((0:Int)<((s.els.length:Nat):Int))=decide (0<s.els.length):=dv1.2 (by omega);have tail:∀(k:Fl) (f:Fr),R6 s=some k→f 1 = .pointer (some a)→f 3 = .bool k.name→f 4 = .bool k.proc→f 5 = .bool k.x→f 6 = .bool k.has→f 7 = .bool k.thn→f 8 = .bool k.els→f 9 = .bool (decide (s.kind=4))→K f w1.drew:=by
  rintro⟨nm,pr,xx,hs,th,el⟩ f hk g1 g3 g4 g5 g6 g7 g8 g9;simp only at g3 g4 g5 g6 g7 g8;have hF:R5 s=(!(hs||(!th&&decide (0<s.thn.length))||(!el&&decide (0<s.els.length))||(!decide (s.kind=4)&&decide (0<s.args.length))) &&
   T3 s.name nm&&T3 s.proc pr&&Z2 s.x xx&&aH0 s.args):=by rw[R5,hk]
  clear hk;generalize decide (s.kind=4)=ar at hF g9;rw[←hK,bf3];generalize hK2:CW prog _ (aJ3 prog _ _)=K2;have tail2:∀(f:Fr),f 1 = .pointer (some a)→f 3 = .bool nm→f 4 = .bool pr→f 5 = .bool xx→(hs||(!th&&decide (0<s.thn.length))||(!el&&decide (0<s.els.length))||(!ar&&decide (0<s.args.length)))=false→K2 f w1.drew:=by
   intro f g1 g3 g4 g5 g70;rw[g70]at hF;rw[←hK2]
   ·simp only[n7,n8,simprocAttr,g1,g3,l1];refine z7 (aV7 s.name nm _) ?_;rintro u w3 ⟨rfl,rfl⟩;cases h1:T3 s.name nm
    ·simp only[n7,n8,simprocAttr];refine o6 results211 ?_;simp only[p6,simprocAttr];exact⟨by rw[hF,h1];rfl,hxd⟩
    simp only[n7,n8,simprocAttr,g1,g4,l1];refine z7 (aV7 s.proc pr _) ?_;rintro u w3 ⟨rfl,rfl⟩;cases h2:T3 s.proc pr
    ·simp only[n7,n8,simprocAttr];refine o6 results211 ?_;simp only[p6,simprocAttr];exact⟨by rw[hF,h1,h2];rfl,hxd⟩
    obtain⟨sx,hsx,lx,_⟩:=hatx.ex_v;have lx1:=lx w1.drew (b7 (o7.drew w1));simp only[n7,n8,simprocAttr,g1,g5,lx1];refine z7 (bx4 sx s.x xx _ (hsx.mono (b7 (o7.drew w1)))) ?_;rintro u w3 ⟨rfl,hx3⟩;cases h3:Z2 s.x xx
    ·simp only[n7,n8,simprocAttr];refine o6 results211 ?_;simp only[p6,simprocAttr];exact⟨by rw[hF,h1,h2,h3];rfl,hxd.trans hx3⟩
    have l3:=ld w3 (b7 ((o7.drew w1).trans hx3));simp only[n7,n8,simprocAttr,g1,l3];refine z7 (bR7 va s.args _ (A3.mono (b7 ((o7.drew w1).trans hx3)) hra) (by have:=ag9 s.args;rw[P2]at hb;omega)) ?_;rintro u w4 ⟨rfl,hx4⟩;simp only[n7,simprocAttr];refine o6 results211 ?_;simp only[p6,simprocAttr];exact⟨by rw[hF,h1,h2,h3];simp,hxd.trans (hx3.trans hx4)⟩
  have bad:(hs||(!th&&decide (0<s.thn.length))||(!el&&decide (0<s.els.length))||(!ar&&decide (0<s.args.length)))=true→R5 s=false:=fun h=>by rw[hF,h];rfl
  cases hs
  case true=>
   simp only[n7,simprocAttr,g6];refine o6 results211 ?_;simp only[p6,simprocAttr];exact⟨by rw[bad rfl],hxd⟩
  cases th<;>cases d2:decide (0<s.thn.length)<;>cases el<;>cases d3:decide (0<s.els.length)<;>cases ar<;>cases d1:decide (0<s.args.length) <;>
  ·rw[d1]at c1;rw[d2]at c2;rw[d3]at c3;simp only[n7,n8,simprocAttr,g1,g6,g7,g8,g9,l1,hS1,hn1,hS2,hn2,hS3,hn3,c1,c2,c3]
   first
   | refine tail2 _ ?_ ?_ ?_ ?_ (by rw[d1,d2,d3];rfl)<;>simp only[p6,↓reduceIte,Nat.reduceEqDiff,g1,g3,g4,g5]
   | refine o6 results211 ?_
     simp only[p6,simprocAttr];exact⟨by rw[bad (by rw[d1,d2,d3];rfl)],hxd⟩
 have n4:∀m:Int,m≠4→decide (s.kind=m)=true→decide (s.kind=4)=false:=fun m hm h=>by
  have:=dr0 h;exact du3 (by omega)
 refine m8 (fun h1=>?_) (fun h1=>?_)
 ·have d4:=n4 1 (by omega) h1;have k1:=dr0 h1;simp only[n7,simprocAttr,d4];refine tail ⟨true,false,true,s.has,false,false⟩ _ (by rw[R6,if_pos k1]) ?_ ?_ ?_ ?_ ?_ ?_ ?_ ?_<;>simp only[p6,↓reduceIte,Nat.reduceEqDiff,d4]
 have k1:=dr2 h1;simp only[n7,n8,simprocAttr];refine m8 (fun h2=>?_) (fun h2=>?_)
 ·have d4:=n4 2 (by omega) h2;have k2:=dr0 h2;simp only[n7,simprocAttr,h2,d4];refine tail ⟨true,false,false,s.has,false,false⟩ _ (by rw[R6,if_neg k1,if_pos (.inl k2)]) ?_ ?_ ?_ ?_ ?_ ?_ ?_ ?_<;>simp only[p6,↓reduceIte,Nat.reduceEqDiff,d4]
 have k2:=dr2 h2;simp only[n7,n8,simprocAttr];refine m8 (fun h10=>?_) (fun h10=>?_)
 ·have d4:=n4 10 (by omega) h10;have k10:=dr0 h10;simp only[n7,simprocAttr,d4];refine tail ⟨true,false,false,s.has,false,false⟩ _ (by rw[R6,if_neg k1,if_pos (.inr k10)]) ?_ ?_ ?_ ?_ ?_ ?_ ?_ ?_<;>simp only[p6,↓reduceIte,Nat.reduceEqDiff,d4]
 have k10:=dr2 h10;have n2:¬(s.kind=2∨s.kind=10):=by omega
 simp only[n7,n8,simprocAttr];refine m8 (fun h3=>?_) (fun h3=>?_)
 ·have d4:=n4 3 (by omega) h3;have k3:=dr0 h3;simp only[n7,simprocAttr,d4];refine tail ⟨false,false,true,s.has,false,false⟩ _ (by rw[R6,if_neg k1,if_neg n2,if_pos k3]) ?_ ?_ ?_ ?_ ?_ ?_ ?_ ?_<;>simp only[p6,↓reduceIte,Nat.reduceEqDiff,d4]
 have k3:=dr2 h3;simp only[n7,n8,simprocAttr];refine m8 (fun d4=>?_) (fun d4=>?_)
 ·have k4:=dr0 d4;simp only[n7,n8,simprocAttr,l1];refine tail ⟨decide (s.name≠e0),true,false,s.has,false,false⟩ _ (by rw[R6,if_neg k1,if_neg n2,if_neg k3,if_pos k4]) ?_ ?_ ?_ ?_ ?_ ?_ ?_ ?_<;>simp only[p6,↓reduceIte,Nat.reduceEqDiff,d4,decide_not]
 have k4:=dr2 d4;simp only[n7,n8,simprocAttr];refine m8 (fun h5=>?_) (fun h5=>?_)
 ·have k5:=dr0 h5;simp only[n7,simprocAttr];refine tail ⟨false,false,true,s.has,true,true⟩ _ (by rw[R6,if_neg k1,if_neg n2,if_neg k3,if_neg k4,if_pos k5]) ?_ ?_ ?_ ?_ ?_ ?_ ?_ ?_<;>simp only[p6,↓reduceIte,Nat.reduceEqDiff,d4]
 have k5:=dr2 h5;simp only[n7,n8,simprocAttr];refine m8 (fun h6=>?_) (fun h6=>?_)
 ·have k6:=dr0 h6;simp only[n7,simprocAttr];refine tail ⟨false,false,true,s.has,true,false⟩ _ (by rw[R6,if_neg k1,if_neg n2,if_neg k3,if_neg k4,if_neg k5,if_pos k6]) ?_ ?_ ?_ ?_ ?_ ?_ ?_ ?_<;>simp only[p6,↓reduceIte,Nat.reduceEqDiff,d4]
 have k6:=dr2 h6;simp only[n7,n8,simprocAttr];refine m8 (fun h9=>?_) (fun h9=>?_)
 ·have k9:=dr0 h9;simp only[n7,n8,simprocAttr,l1];refine tail ⟨false,false,s.has,false,false,false⟩ _ (by rw[R6,if_neg k1,if_neg n2,if_neg k3,if_neg k4,if_neg k5,if_neg k6,if_pos k9]) ?_ ?_ ?_ ?_ ?_ ?_ ?_ ?_<;>simp only[p6,↓reduceIte,Nat.reduceEqDiff,d4]
 have k9:=dr2 h9;simp only[n7,n8,simprocAttr];refine m8 (fun h7=>?_) (fun h7=>?_)
 ·have k7:=dr0 h7;simp only[n7,simprocAttr,h7];refine tail ⟨false,false,false,s.has,false,false⟩ _ (by rw[R6,if_neg k1,if_neg n2,if_neg k3,if_neg k4,if_neg k5,if_neg k6,if_neg k9,if_pos (.inl k7)]) ?_ ?_ ?_ ?_ ?_ ?_ ?_ ?_<;>simp only[p6,↓reduceIte,Nat.reduceEqDiff,d4]
 have k7:=dr2 h7;simp only[n7,n8,simprocAttr];refine m8 (fun h8=>?_) (fun h8=>?_)
 ·have k8:=dr0 h8;simp only[n7,simprocAttr];refine tail ⟨false,false,false,s.has,false,false⟩ _ (by rw[R6,if_neg k1,if_neg n2,if_neg k3,if_neg k4,if_neg k5,if_neg k6,if_neg k9,if_pos (.inr k8)]) ?_ ?_ ?_ ?_ ?_ ?_ ?_ ?_<;>simp only[p6,↓reduceIte,Nat.reduceEqDiff,d4]
 have k8:=dr2 h8;simp only[n7,simprocAttr];refine o6 results211 ?_;simp only[p6,simprocAttr];exact⟨by rw[R5,show R6 s=none by rw[R6,if_neg k1,if_neg n2,if_neg k3,if_neg k4,if_neg k5,if_neg k6,if_neg k9,if_neg (by omega)]],hxd⟩
def av8(d:Nat)(n:Int)(s:St):Option Int:=if n+1>200∨s.id≠n+1∨O0 s.labels=false∨R5 s=false then none else(G8 d s.thn (n+1)).bind fun m=>G8 d s.els m
theorem aM5(d:Nat)(l:List St)(n:Int):G8 (d+1) l n=l.foldlM (av8 d) n:=rfl
theorem ba4{α β:Type}(g:β→α→Option β)(l:List α)(n:β){k:Nat}(hk:k<l.length){m:β}(h:(l.take k).foldlM g n=some m):(l.take (k+1)).foldlM g n=g m l[k]:=by
 rw[dr6 hk,List.foldlM_append,h];simp
theorem ba3{α β:Type}(g:β→α→Option β)(l:List α)(n:β){k:Nat}(hk:k<l.length){m:β}(h:(l.take k).foldlM g n=some m)(h2:g m l[k]=none):l.foldlM g n=none:=by
 conv=>lhs;rw[←dv5 k l,du8 hk]
 rw[List.foldlM_append,h];show(do let s ←g m l[k];List.foldlM g s (l.drop (k+1)))=none;rw[h2];rfl
theorem aR5:∀(d:Nat) (l:List St) (n m:Int),G8 d l n=some m→n≤m∧(n≤200→m≤200)
 | 0,l,n,m,h=>by
  unfold G8 at h;split at h
  ·simp only[dC3]at h;subst h;exact⟨Int.le_refl _,fun h=>h⟩
  ·cases h
 | d+1,l,n,m,h=>by
  rw[aM5]at h
  induction l generalizing n with
  | nil=>simp only[List.foldlM_nil]at h;cases h;exact⟨Int.le_refl _,fun h=>h⟩
  | cons s l ih=>
   rw[List.foldlM_cons]at h;cases hs:av8 d n s with
   | none=>rw[hs]at h;cases h
   | some n1=>
    rw[hs]at h;have h1:=ih n1 h;unfold av8 at hs;split at hs
    ·cases hs
    ·rename_i hc;cases ht:G8 d s.thn (n+1)with
     | none=>rw[ht]at hs;cases hs
     | some n2=>
      rw[ht]at hs;have h2:=aR5 d _ _ _ ht;have h3:=aR5 d _ _ _ hs;omega
theorem bl6:∀(d:Nat) (l:List St) (n:Int) (v:Value) (h:Hp) (gb:Nat) (w:World),d≤12→B5 h (i4 w)→h gb=none→w.heap[gb]?=some (.cells #[.int .i64 n] 197 (0,0))→R h v l→G3 l≤1000000→0≤n→n≤200 →
  p7 prog 143 #[.pointer (some ⟨gb,0,none⟩),v,.int .i64 (13-(d:Int))] w fun u w'=>(u = .bool (G8 d l n).isSome∧(∀m,G8 d l n=some m→w'.heap[gb]?=some (.cells #[.int .i64 m] 197 (0,0)))∧t8 (fun b=>b=gb) w w')
 | 0,l,n,v,h,gb,w,_,hh,hgb,hcell,hv,_,_,_=>by
  generalize hN:(13:Int)-((0:Nat):Int)=N;refine p8 [.pointer (some ⟨gb,0,none⟩),v,.int .i64 N] func143 rfl ?_;have hS:=hv.isS;have hn:=hv.vlen;have d0:decide ((12:Int)<N)=true:=by subst hN;decide
  have c0:decide ((0:Int)<((l.length:Nat):Int))=decide (0<l.length):=dv1.2 (by omega);cases hl:decide (0<l.length)
  ·have hl0:l.length=0:=by simpa using hl
   have c1:decide ((0:Int)<((l.length:Nat):Int))=false:=c0.trans hl;simp only[n7,n8,simprocAttr,hS,hn,d0,c1];refine n9 [16,17] (σ:=Nat) (fun k f w'=>f 18 = .int .i64 0∧w'=w) (fun _=>0) 0 ?_ ?_
   ·simp only[p6,simprocAttr];exact⟨by trivial,by trivial⟩
   ·rintro k f w' hk ⟨h18,rfl⟩;simp only[dq9,p6,simprocAttr]at hk;obtain⟨e16,e17,_⟩:=hk;simp only[n7,n8,simprocAttr,h18,e17,c1];refine o6 results143 ?_;simp only[p6,simprocAttr];have hF:G8 0 l n=some n:=by unfold G8;rw[if_pos hl0]
    exact⟨by rw[hF];rfl,fun m hm=>by rw[hF]at hm;cases hm;exact hcell,t8.refl _⟩
  ·have hl0:¬l.length=0:=by have:0<l.length:=by simpa using hl
                            omega
   simp only[n7,n8,simprocAttr,hS,hn,d0,c0,hl];refine o6 results143 ?_;simp only[p6,simprocAttr];have hF:G8 0 l n=none:=by unfold G8;rw[if_neg hl0]
   exact⟨by rw[hF];rfl,fun m hm=>(by rw[hF]at hm;cases hm),t8.refl _⟩
 | d+1,l,n,v,h,gb,w,hd,hh,hgb,hcell,hv,hwt,hn0,hn2=>by
  generalize hN:(13:Int)-((d+1:Nat):Int)=N;refine p8 [.pointer (some ⟨gb,0,none⟩),v,.int .i64 N] func143 rfl ?_;have hS:=hv.isS;have hn:=hv.vlen;have d0:decide ((12:Int)<N)=false:=by simp;omega
  have hnest:IntKind.i64.wrap (N+1)=13-(d:Int):=by rw[K6 _ (by omega)];omega
  simp only[n7,n8,simprocAttr,hS,hn,d0];refine n9 [0,2,16,17] (σ:=Nat×Int) (fun s f w'=>f 18 = .int .i64 s.1∧s.1≤l.length∧(l.take s.1).foldlM (av8 d) n=some s.2∧0≤s.2∧s.2≤200∧w'.heap[gb]?=some (.cells #[.int .i64 s.2] 197 (0,0))∧t8 (fun b=>b=gb) w w') (fun s=>l.length-s.1) (0,n) ?_ ?_
  ·simp only[p6,simprocAttr];exact⟨by trivial,dr8 _,by simp,hn0,hn2,hcell,t8.refl _⟩
  ·rintro⟨k,m⟩ f w1 hk ⟨h18,hkl,hfold,hm0,hm2,hc1,hx1⟩;simp only at h18 hkl hfold hm0 hm2 hc1;simp only[dq9,p6,simprocAttr]at hk;obtain⟨e0,e2,e16,e17,_⟩:=hk;simp only[n7,n8,simprocAttr,h18,e17];refine m8 (fun hc=>?_) (fun hc=>?_)
   ·have hlt:k<l.length:=by simpa using hc
    have hin:=hv.inS hlt;have hhw:B5 h (i4 w1):=H9 hh hx1 fun b hb=>by subst hb;exact hgb
    have hgl:gb<w1.heap.size:=(dr3.1 hc1).1;have hNl:∀b,b=gb→b<w1.heap.size:=fun b hb=>by subst hb;exact hgl
    obtain⟨sv,hsv,hld⟩:=E4 (P:=prog) (t:=45) hv hhw (dq7 hlt) bc7 bd0 aK7 Y1;rw[Y1]at hld;have hstep:=ba4 (av8 d) l n hlt hfold;have hnone:=ba3 (av8 d) l n hlt hfold;have hws:O6 l[k]≤1000000:=dr7 (ah2 (dr5 hlt)) hwt;generalize l[k]=s at hsv hstep hnone hws;obtain⟨a,wz,w2,hal,hst,hx2,hat⟩:=dg0 (P:=prog) (T:=45) (N:=fun b=>b=gb) hsv (cv6 hhw fun b hb=>by subst hb;exact hgb) hNl ce3 rfl Y1;have hc2:w2.heap[gb]?=some (.cells #[.int .i64 m] 197 (0,0)):=(hx2.block gb hgl id).trans hc1;obtain⟨w3,hs3,hc3,hx3⟩:=aj6 (P:=prog) (t:=3) (i:=0) (x:=.int .i64 (m+1)) hc2 (by simp) rfl rfl (A0 az5).choose_spec.1 (by rw[←C5 (A0 az5).choose_spec.1];exact aS8);simp only[Array.setIfInBounds,dA6,dt2,dx8,du4,Nat.lt_add_one,↓reduceDIte,List.set_toArray,List.set_cons_zero]at hc3;have hl2:=E9 (P:=prog) (t:=3) (i:=0) (u:=.int .i64 m) hc2 rfl F3;have hw1:IntKind.i64.wrap (m+1)=m+1:=K6 _ (by omega);have hx3d:=hx3.trans ((o7.drew w3).weaken (N:=fun b=>b=gb) fun _ _ h=>h.elim);have hno:B5 (B7 w2 fun b=>b=gb) (i4 w3.drew):=C8 hx3d;obtain⟨vl,va,vt,ve,hrl,hra,hrt,hre,hatx,ld,sd⟩:=hat.st;obtain⟨ss,hss,lss,sss⟩:=hat.st_v;have hstd:∀w',o7 w3.drew w'→B5 (B7 w2 fun b=>b=gb) (i4 w'):=fun w' h=>p9 hno (b7 h);have s3:=sd (fun w'=>o7 w3.drew w') w3.drew (t8.refl _) hstd;have s4:=sss (fun w'=>o7 w3.drew w') w3.drew (t8.refl _) hstd;have hl3:∀K f d w,I1 prog (fun w'=>o7 w3.drew w') (Instr.loadAt 3 (.pointer (some ⟨gb,0,none⟩))) K f d w=K (C4 f d (.int .i64 (m+1))) w:=fun K f d w=>D5 (w0:=w3.drew) (t8.refl _) fun w' hw'=>E9 (i:=0) ((hw'.block gb (dr3.1 hc3).1 id).trans hc3) rfl F3;have hend:t8 (fun b=>b=gb) w w3.drew:=hx1.trans ((hx2.weaken fun _ _ h=>h.elim).trans hx3d);simp only[n7,n8,z6,simprocAttr,h18,e0,e16,hin,hld,hal,hst,hl2,hw1,hs3];refine C0 (fun w'=>o7 w3.drew w') 25 (A9 [0,1,2,3,4,5,6,7,8,9,10,11,12,13,14,15,16,17,18,19,20,21,22,23,24]) ?_;have bad:av8 d m s=none→G8 (d+1) l n=none:=fun h=>by rw[aM5];exact hnone h
    cases b1:decide ((200:Int)<m+1)
    case true=>
     simp only[D2,A9,n7,n8,simprocAttr,e0,hl3,b1];refine o6 results143 ?_;simp only[p6,simprocAttr];have hF:=bad (by rw[av8,if_pos (.inl (by simpa using b1))]);exact⟨by rw[hF];rfl,fun m hm=>(by rw[hF]at hm;cases hm),hend⟩
    cases b2:decide (s.id=m+1)
    case false=>
     simp only[D2,A9,n7,n8,simprocAttr,e0,hl3,s3,b1,b2];refine o6 results143 ?_;simp only[p6,simprocAttr];have hF:=bad (by rw[av8,if_pos (.inr (.inl (by simpa using b2)))]);exact⟨by rw[hF];rfl,fun m hm=>(by rw[hF]at hm;cases hm),hend⟩
    simp only[D2,A9,n7,n8,simprocAttr,e0,hl3,s3,b1,b2];refine z7 (aH5 vl s.labels _ (A3.mono hno hrl) (by have:=Q7 s.labels;rw[P2]at hws;omega)) ?_;rintro u w4 ⟨rfl,rfl⟩;cases b3:O0 s.labels
    case false=>
     simp only[D2,n7,n8,simprocAttr,F1];refine⟨t8.refl _,?_⟩;refine o6 results143 ?_;simp only[p6,simprocAttr];have hF:=bad (by rw[av8,if_pos (.inr (.inr (.inl b3)))]);exact⟨by rw[hF];rfl,fun m hm=>(by rw[hF]at hm;cases hm),hend⟩
    simp only[D2,n7,n8,simprocAttr,F1,s4];refine⟨t8.refl _,?_⟩;refine z7 (bQ2 ss s _ (hss.mono hno) hws) ?_;rintro u w5 ⟨rfl,hx5⟩;have hx35:t8 (fun b=>b=gb) w2 w5:=hx3d.trans (hx5.weaken fun _ _ h=>h.elim);have hend5:t8 (fun b=>b=gb) w w5:=hend.trans (hx5.weaken fun _ _ h=>h.elim);cases b4:R5 s
    case false=>
     simp only[D2,n7,n8,simprocAttr,F1];refine⟨hx5,?_⟩;refine o6 results143 ?_;simp only[p6,simprocAttr];have hF:=bad (by rw[av8,if_pos (.inr (.inr (.inr b4)))]);exact⟨by rw[hF];rfl,fun m hm=>(by rw[hF]at hm;cases hm),hend5⟩
    have hK:av8 d m s=(G8 d s.thn (m+1)).bind fun m=>G8 d s.els m:=by
     rw[av8,if_neg];simp only[dE2]at b1;have b2':s.id=m+1:=by simpa using b2
     rintro(h|h|h|h)
     ·exact b1 h
     ·exact h b2'
     ·rw[b3]at h;cases h
     ·rw[b4]at h;cases h
    have hm3:m+1≤200:=by have:=dr2 b1;omega
    have hc5:w5.heap[gb]?=some (.cells #[.int .i64 (m+1)] 197 (0,0)):=(hx5.block gb (dr3.1 hc3).1 id).trans hc3;have hno5:B5 (B7 w2 fun b=>b=gb) (i4 w5):=C8 hx35;have l5:=ld w5 hno5;rw[P2]at hws;simp only[D2,n7,n8,simprocAttr,F1];refine⟨hx5,?_⟩;simp only[n7,n8,simprocAttr,e0,e2,l5,hnest];refine z7 (bl6 d s.thn (m+1) vt _ gb w5 (by omega) hno5 (H3 rfl) hc5 hrt (by omega) (by omega) hm3) ?_;rintro u w6 ⟨rfl,hr6,hx6⟩;have hend6:=hend5.trans hx6;cases ht:G8 d s.thn (m+1)with
    | none=>
     simp only[n7,n8,simprocAttr,Option.isSome_none];refine o6 results143 ?_;simp only[p6,simprocAttr];have hF:=bad (by rw[hK,ht];rfl);exact⟨by rw[hF];rfl,fun m hm=>(by rw[hF]at hm;cases hm),hend6⟩
    | some m6=>
     have hc6:=hr6 m6 ht;have hle6:=aR5 d _ _ _ ht;have hno6:B5 (B7 w2 fun b=>b=gb) (i4 w6):=C8 (hx35.trans hx6);have l6:=ld w6 hno6;simp only[n7,n8,simprocAttr,e0,e2,l6,hnest];refine z7 (bl6 d s.els m6 ve _ gb w6 (by omega) hno6 (H3 rfl) hc6 hre (by omega) (by omega) (by omega)) ?_;rintro u w7 ⟨rfl,hr7,hx7⟩;have hend7:=hend6.trans hx7;cases he:G8 d s.els m6 with
     | none=>
      simp only[n7,n8,simprocAttr,Option.isSome_none];refine o6 results143 ?_;simp only[p6,simprocAttr];have hF:=bad (by rw[hK,ht];exact he);exact⟨by rw[hF];rfl,fun m hm=>(by rw[hF]at hm;cases hm),hend7⟩
     | some m7=>
      have hle7:=aR5 d _ _ _ he;simp only[n7,n8,simprocAttr,h18];exact⟨(k+1,m7),by simp only[];omega,by simp only[];rw[A8 k (by have:=by1 l;omega)],by simp only[];omega,by simp only[];rw[hstep,hK,ht];exact he,by simp only[];omega,by simp only[];omega,hr7 m7 he,hend7⟩
   ·have hge:k=l.length:=by simp at hc;omega
    subst hge;simp only[n7,simprocAttr];refine o6 results143 ?_;simp only[p6,simprocAttr];rw[ds2]at hfold;have hF:G8 (d+1) l n=some m:=by rw[aM5];exact hfold
    exact⟨by rw[hF];rfl,fun m' hm=>by rw[hF]at hm;cases hm;exact hc1,hx1⟩
theorem cr4:B8 prog 197 []=some (.agg #[.int .i64 0]):=by
 simp[B8,cU5,J5,Instr.fill]
theorem cR1(w:World):∃gb w',(Instr.box 197 (.agg #[.int .i64 0])).run prog w = .ok (.pointer (some ⟨gb,0,none⟩)) w'∧o7 w w'∧w'.heap[gb]?=some (.cells #[.int .i64 0] 197 (0,0))∧w.heap.size≤gb:=
 ⟨_,_,rfl,o7.alloc _ _,dv4 w _,ds5 _⟩
theorem bX4(v:Value)(p:Pg)(w:World)(hv:SV (i4 w) v p)(hwt:D1 p≤1000000):p7 prog 96 #[v] w fun u w'=>(u = .bool (J6 p)∧o7 w w'):=by
 refine p8 [v] func96 rfl ?_;obtain⟨a,w1,hbx,hx,ha⟩:=P7 hv (d7 _);obtain⟨vg,vp,hg,hp,ld,sd⟩:=ha.pg;have l1:=ld w1 (d7 _);have hS1:=hg.isS;have hn1:=hg.vlen;have hS2:=hp.isS;have hn2:=hp.vlen;have c1:decide ((16:Int)<((p.globals.length:Nat):Int)) = !decide (p.globals.length≤16):=by
  rw[←decide_not];exact dv1.2 (by omega)
 have c2:decide ((16:Int)<((p.procs.length:Nat):Int)) = !decide (p.procs.length≤16):=by
  rw[←decide_not];exact dv1.2 (by omega)
 cases h1:decide (p.globals.length≤16)
 ·rw[h1]at c1;simp only[n7,n8,simprocAttr,hbx,l1,hS1,hn1,c1];refine o6 results96 ?_;simp only[p6,simprocAttr];exact⟨by rw[J6,h1];rfl,hx⟩
 cases h2:decide (p.procs.length≤16)
 ·rw[h1]at c1;rw[h2]at c2;simp only[n7,n8,simprocAttr,hbx,l1,hS1,hn1,hS2,hn2,c1,c2];refine o6 results96 ?_;simp only[p6,simprocAttr];exact⟨by rw[J6,h1,h2];rfl,hx⟩
 rw[h1]at c1;rw[h2]at c2;simp only[n7,n8,simprocAttr,hbx,l1,hS1,hn1,hS2,hn2,c1,c2];refine C7 (aH5 vg p.globals _ hg (by have:=dr0 h1;omega)) ?_;cases h3:O0 p.globals
 ·simp only[n7,n8,simprocAttr];refine o6 results96 ?_;simp only[p6,simprocAttr];exact⟨by rw[J6,h1,h2,h3];rfl,hx⟩
 obtain⟨gb,w3,hbl,hx3,hc3,hge⟩:=cR1 w1;have hgn:i4 w1 gb=none:=be5 hge;have l3:=ld w3 (b7 hx3);have hF:J6 p=(p.procs.foldlM (fun n f=>R3 f n) 0).isSome:=by rw[J6,h1,h2,h3];rfl
 simp only[n7,n8,simprocAttr,cr4,hbl,l3,hS2,hn2];refine n9 [3,27,28] (σ:=Nat×Int) (fun s f w'=>f 29 = .int .i64 s.1∧s.1≤p.procs.length∧(p.procs.take s.1).foldlM (fun n f=>R3 f n) 0=some s.2∧0≤s.2∧s.2≤200∧w'.heap[gb]?=some (.cells #[.int .i64 s.2] 197 (0,0))∧t8 (fun b=>b=gb) w1 w') (fun s=>p.procs.length-s.1) (0,0) ?_ ?_
 ·simp only[p6,simprocAttr];exact⟨by trivial,dr8 _,by simp,by simp,by simp,hc3,hx3.weaken fun _ _ h=>h.elim⟩
 ·rintro⟨k,m⟩ f w4 hk ⟨h29,hkl,hfold,hm0,hm2,hc4,hx4⟩;simp only at h29 hkl hfold hm0 hm2 hc4;simp only[dq9,p6,simprocAttr]at hk;obtain⟨e3,e27,e28,_⟩:=hk;have hext:∀w',t8 (fun b=>b=gb) w1 w'→o7 w w':=fun w' h=>hx.trans (t8.ext_of (t8.refl _) h fun b hb=>by subst hb;exact hge);simp only[n7,n8,simprocAttr,h29,e28];refine m8 (fun hc=>?_) (fun hc=>?_)
  ·have hlt:k<p.procs.length:=by simpa using hc
   have hin:=hp.inS hlt;have hhw:B5 (i4 w1) (i4 w4):=H9 (d7 _) hx4 fun b hb=>by subst hb;exact hgn
   have hgl:gb<w4.heap.size:=(dr3.1 hc4).1;have hNl:∀b,b=gb→b<w4.heap.size:=fun b hb=>by subst hb;exact hgl
   obtain⟨sv,hsv,hld⟩:=E4 (P:=prog) (t:=51) hp hhw (dq7 hlt) ae2 ae5 ac8 I4;rw[I4]at hld;have hstep:=ba4 (fun n f=>R3 f n) p.procs 0 hlt hfold;have hnone:=ba3 (fun n f=>R3 f n) p.procs 0 hlt hfold;have hws:U2 p.procs[k]≤1000000:=dr7 (ah1 (dr5 hlt)) (by unfold D1 at hwt;omega);generalize p.procs[k]=q at hsv hstep hnone hws;obtain⟨b,wz,w5,hal,hst,hx5,hat⟩:=dg0 (P:=prog) (T:=51) (N:=fun b=>b=gb) hsv (cv6 hhw fun b hb=>by subst hb;exact hgn) hNl ce4 rfl I4;obtain⟨va,vv,vb,ve,hra,hrv,hrb,hre,ldq,_⟩:=hat.pr;have hno:B5 (B7 w5 fun b=>b=gb) (i4 w5):=B3 _ _;have l5:=ldq w5 hno;have hx15:t8 (fun b=>b=gb) w1 w5:=hx4.trans (hx5.weaken fun _ _ h=>h.elim);have hend:=hext w5 hx15;have hSa:=hra.isS;have hna:=hra.vlen;have hSv:=hrv.isS;have hnv:=hrv.vlen;have bad:R3 q m=none→J6 p=false:=fun h=>by rw[hF,hnone h];rfl
   unfold U2 at hws;have b1':decide ((8:Int)<((q.params.length:Nat):Int))=decide (8<q.params.length):=dv1.2 (by omega);have b2':decide ((16:Int)<((q.vars.length:Nat):Int))=decide (16<q.vars.length):=dv1.2 (by omega);cases b1:decide (8<q.params.length)
   case true=>
    rw[b1]at b1';simp only[n7,n8,z6,simprocAttr,h29,e27,hin,hld,hal,hst,l5,hSa,hna,b1'];refine o6 results96 ?_;simp only[p6,simprocAttr];exact⟨by rw[bad (by rw[R3,if_pos (.inl (dr0 b1))])],hend⟩
   rw[b1]at b1';cases b2:decide (16<q.vars.length)
   case true=>
    rw[b2]at b2';simp only[n7,n8,z6,simprocAttr,h29,e27,hin,hld,hal,hst,l5,hSa,hna,hSv,hnv,b1',b2'];refine o6 results96 ?_;simp only[p6,simprocAttr];exact⟨by rw[bad (by rw[R3,if_pos (.inr (.inl (dr0 b2)))])],hend⟩
   rw[b2]at b2';simp only[n7,n8,z6,simprocAttr,h29,e27,hin,hld,hal,hst,l5,hSa,hna,hSv,hnv,b1',b2'];refine C7 (aC0 q.name _) ?_;cases b3:K8 q.name
   ·simp only[n7,n8,simprocAttr];refine o6 results96 ?_;simp only[p6,simprocAttr];exact⟨by rw[bad (by rw[R3,if_pos (.inr (.inr (.inl b3)))])],hend⟩
   simp only[n7,n8,simprocAttr,l5];refine C7 (aH5 vv q.vars _ (A3.mono hno hrv) (by have:=Q7 q.vars;omega)) ?_;cases b4:O0 q.vars
   ·simp only[n7,n8,simprocAttr];refine o6 results96 ?_;simp only[p6,simprocAttr];exact⟨by rw[bad (by rw[R3,if_pos (.inr (.inr (.inr (.inl b4))))])],hend⟩
   simp only[n7,n8,simprocAttr,l5];refine C7 (aH5 ve q.fin _ (A3.mono hno hre) (by have:=Q7 q.fin;omega)) ?_;cases b5:O0 q.fin
   ·simp only[n7,n8,simprocAttr];refine o6 results96 ?_;simp only[p6,simprocAttr];exact⟨by rw[bad (by rw[R3,if_pos (.inr (.inr (.inr (.inr (.inl b5)))))])],hend⟩
   have hpl:=ah0 q.params;simp only[n7,n8,simprocAttr,l5,hSa,hna];refine n9 [3,5,27,28,29,62,63] (σ:=Nat) (fun j f w'=>f 64 = .int .i64 j∧j≤q.params.length∧(q.params.take j).all (fun a=>K8 a.name)=true∧o7 w5 w') (fun j=>q.params.length-j) 0 ?_ ?_
   ·simp only[p6,simprocAttr];exact⟨by trivial,dr8 _,by simp,t8.refl _⟩
   ·rintro j f7 w7 hk ⟨h64,hjl,hall,hx7⟩;simp only[dq9,p6,simprocAttr]at hk;obtain⟨g3,g5,g27,g28,g29,g62,g63,_⟩:=hk;rw[e3]at g3;rw[e27]at g27;rw[e28]at g28;rw[h29]at g29;have hx17:t8 (fun b=>b=gb) w1 w7:=hx15.trans (hx7.weaken fun _ _ h=>h.elim);simp only[n7,n8,simprocAttr,h64,g63];refine m8 (fun hc=>?_) (fun hc=>?_)
    ·have hjt:j<q.params.length:=by simpa using hc
     have hjn:=hra.inS hjt;obtain⟨sa,hsa,hlda⟩:=E4 (P:=prog) (t:=68) hra (p9 hno (b7 hx7)) (dq7 hjt) bc8 bd1 aS7 aj3;rw[aj3]at hlda;have htk:=aG2 (fun a:Pa=>K8 a.name) q.params j hjt;have hmem:=dr5 hjt;generalize q.params[j]=y at hsa htk hmem;obtain⟨c,wy,w8,hal8,hst8,hx8,hat8⟩:=az7 (hsa.mono (p9 hno (b7 hx7))) (d7 _);obtain⟨ld8,_⟩:=hat8.pa;have l8:=ld8 w8 (d7 _);simp only[n7,n8,z6,simprocAttr,h64,g62,hjn,hlda,hal8,hst8,l8];refine C7 (aC0 y.name _) ?_;cases b6:K8 y.name
     ·simp only[n7,n8,simprocAttr];refine o6 results96 ?_;simp only[p6,simprocAttr];refine⟨by rw[bad (by rw[R3,if_pos (.inr (.inr (.inr (.inr (.inr (aw4 (p:=fun a:Pa=>K8 a.name) hmem b6))))))])],hext _ (hx17.trans (hx8.weaken fun _ _ h=>h.elim))⟩
     ·simp only[n7,n8,simprocAttr,h64];exact⟨j+1,by omega,by rw[A8 j (by omega)],by omega,by rw[htk,hall,b6];rfl,hx7.trans hx8⟩
    ·have hjge:j=q.params.length:=by simp at hc;omega
     subst hjge;rw[ds2]at hall;have hc7:w7.heap[gb]?=some (.cells #[.int .i64 m] 197 (0,0)):=((hx5.trans hx7).block gb hgl id).trans hc4;have l7:=ldq w7 (p9 hno (b7 hx7));have hpf:R3 q m=G8 12 q.body m:=by
      rw[R3,if_neg];have d1:=dr2 b1;have d2:=dr2 b2;rintro(h|h|h|h|h|h)
      ·exact d1 h
      ·exact d2 h
      ·rw[b3]at h;cases h
      ·rw[b4]at h;cases h
      ·rw[b5]at h;cases h
      ·rw[hall]at h;cases h
     simp only[n7,n8,simprocAttr,g3,g5,l7];refine z7 (bl6 12 q.body m vb _ gb w7 (by omega) (p9 hno (b7 hx7)) (H3 rfl) hc7 hrb (by omega) hm0 hm2) ?_;rintro u w9 ⟨rfl,hr9,hx9⟩;have hx19:=hx17.trans hx9;cases hr:G8 12 q.body m with
     | none=>
      simp only[n7,n8,simprocAttr,Option.isSome_none];refine o6 results96 ?_;simp only[p6,simprocAttr];exact⟨by rw[bad (by rw[hpf,hr])],hext _ hx19⟩
     | some m9=>
      have hle9:=aR5 _ _ _ _ hr;simp only[n7,n8,simprocAttr,g29];exact⟨(k+1,m9),by simp only[];omega,by simp only[];rw[A8 k (by have:=dr0 h2;omega)],by simp only[];omega,by simp only[];rw[hstep,hpf,hr],by simp only[];omega,by simp only[];omega,hr9 m9 hr,hx19⟩
  ·have hge:k=p.procs.length:=by simp at hc;omega
   subst hge;simp only[n7,simprocAttr];refine o6 results96 ?_;simp only[p6,simprocAttr];rw[ds2]at hfold;exact⟨by rw[hF,hfold];rfl,hext _ hx4⟩
def dA1:=@List.drop_zero
def dt8:=@List.mem_singleton
def dw0:=@List.nodup_append
theorem cK0(v:Value)(q:Pr)(w:World)(hv:SV (i4 w) v q)(hw:U2 q≤1000000):p7 prog 146 #[v] w fun u w'=>(B0 (i4 w) w' 9 u (bd7 q)∧o7 w w'):=by
 refine p8 [v] func146 rfl ?_;obtain⟨a,w1,hbx,hx1,ha⟩:=be1 hv (d7 _);obtain⟨va,vv,vb,vf,hra,hrv,_,_,ld,_⟩:=ha.pr;have l1:=ld w1 (d7 _);have hSa:=hra.isS;have hna:=hra.vlen;have hpl:=ah0 q.params;have hvl:=Q7 q.vars;unfold U2 at hw;simp only[n7,n8,simprocAttr,hbx,l1,hSa,hna];refine n9 [1,7,8] (σ:=Nat×Value) (fun s f w'=>f 9 = .int .i64 s.1∧f 3=s.2∧s.1≤q.params.length∧B0 (i4 w1) w' 9 s.2 ((q.params.take s.1).map (·.name))∧o7 w1 w') (fun s=>q.params.length-s.1) (0,.slice none 0 0) ?_ ?_
 ·simp only[p6,simprocAttr];exact⟨by trivial,by trivial,dr8 _,by simpa using B0.nil _ _ _,t8.refl _⟩
 ·rintro⟨k,u⟩ f w2 hk ⟨h9,h3,hkl,ho,hx2⟩;simp only at h9 h3 hkl ho;simp only[dq9,p6,simprocAttr]at hk;obtain⟨e1,e7,e8,_⟩:=hk;simp only[n7,n8,simprocAttr,h9,e8];refine m8 (fun hc=>?_) (fun hc=>?_)
  ·have hlt:k<q.params.length:=by simpa using hc
   have hin:=hra.inS hlt;obtain⟨sv,hsv,hld⟩:=E4 (P:=prog) (t:=68) hra (b7 hx2) (dq7 hlt) bc8 bd1 aS7 aj3;rw[aj3]at hld;have htk:(q.params.take (k+1)).map (·.name)=(q.params.take k).map (·.name)++[q.params[k].name]:=by
    rw[dr6 hlt,du1];rfl
   generalize q.params[k]=y at hsv htk;obtain⟨b,wz,w3,hal,hst,hx3,hat⟩:=az7 (hsv.mono (b7 hx2)) (d7 _);obtain⟨ldy,_⟩:=hat.pa;have l3:=ldy w3 (d7 _);have ho3:=ho.ext hx3;have hx13:=hx2.trans hx3;obtain⟨p1,u',w4,p2,p3,p4,p5⟩:=push (e:=22) ar6 rfl ho3 (x:=o9 y.name) (y:=y.name) rfl (by simp;omega) (by simp;omega) (b7 hx13);simp only[n7,n8,z6,simprocAttr,h9,h3,e7,hin,hld,hal,hst,l3,p1,p2];exact⟨(k+1,u'),by simp only[];omega,by simp only[];rw[A8 k (by omega)],by trivial,by simp only[];omega,by simp only[];rw[htk];exact p3,ho3.ext2 hx13 p4⟩
  ·have hge:k=q.params.length:=by simp at hc;omega
   subst hge;rw[ds2]at ho;have l2:=ld w2 (b7 hx2);obtain⟨u',w4,c1,c2,c3,c4⟩:=aj1 (P:=prog) (e:=22) ar6 ho hrv (b7 hx2) (by simp;omega) (by simp;omega) (b7 hx2);simp only[n7,n8,simprocAttr,h3,e1,l2,c1];refine o6 results146 ?_;simp only[p6,simprocAttr];exact⟨c2.back hx1,hx1.trans (ho.ext2 hx2 c3)⟩
theorem aX3(v:Value)(l:List A7)(w:World)(hv:R (i4 w) v l)(hl:l.length≤1000000000):p7 prog 145 #[v] w fun u w'=>(u = .bool (Z0 l)∧w'=w):=by
 refine p8 [v] func145 rfl ?_;have hS:=hv.isS;have hn:=hv.vlen;have hvc:=hv.vcap;simp only[n7,n8,simprocAttr,hS,hn];refine n9 [0,5,6] (σ:=Nat) (fun k f w'=>f 7 = .int .i64 k∧k≤l.length∧(l.take k).Nodup∧w'=w) (fun k=>l.length-k) 0 ?_ ?_
 ·simp only[p6,simprocAttr];exact⟨by trivial,dr8 _,by simp,by trivial⟩
 ·rintro k f w' hk ⟨h7,hkl,hno,rfl⟩;simp only[dq9,p6,simprocAttr]at hk;obtain⟨e0,e5,e6,_⟩:=hk;simp only[n7,n8,simprocAttr,h7,e6];refine m8 (fun hc=>?_) (fun hc=>?_)
  ·have hlt:k<l.length:=by simpa using hc
   have hin:=hv.inS hlt;have hld:=ldS hv (d7 _) hlt;have hsub:=bE0 hv (dr8 k) (Nat.le_of_lt hlt);rw[dA1]at hsub;have c2:decide ((k:Int)≤(vcap v:Int))=true:=by simp;omega
   have hz:A3.sz A7=1:=rfl;rw[hz]at hsub;simp only[n7,n8,z6,I0,simprocAttr,h7,e0,e5,hin,hld,hS,c2];refine C7 (O3 _ (l.take k) l[k] _ hsub (by rw[ds3];omega)) ?_;cases hq:(l.take k).contains l[k]
   ·simp only[n7,n8,simprocAttr,h7];refine⟨k+1,by omega,by rw[A8 k (by omega)],by omega,?_,by trivial⟩;rw[dr6 hlt,dw0];refine⟨hno,by simp,fun a ha b hb=>?_⟩;simp only[dt8]at hb;subst hb;intro e;subst e;have:=dt6.2 ha;rw[hq]at this;cases this
   ·simp only[n7,simprocAttr];refine o6 results145 ?_;simp only[p6,simprocAttr];refine⟨?_,by trivial⟩;have:¬l.Nodup:=fun hnd=>by
     have hsp:l=l.take k++(l[k]::l.drop (k+1)):=by
      have:=dv5 k l;rw[du8 hlt]at this;exact this.symm
     have hnd2:=hnd;rw[hsp,dw0]at hnd2;exact hnd2.2.2 _ (dt6.1 hq) _ List.mem_cons_self rfl
    simp[Z0,this]
  ·have hge:k=l.length:=by simp at hc;omega
   subst hge;simp only[n7,simprocAttr];refine o6 results145 ?_;simp only[p6,simprocAttr];rw[ds2]at hno;exact⟨by simp[Z0,hno],by trivial⟩
theorem cw6(vp vq:Value)(p:Pg)(q:Pr)(n:A7)(w:World)(hp:SV (i4 w) vp p)(hq:SV (i4 w) vq q)(hwp:D1 p≤1000000)(hwq:U2 q≤1000000):
  p7 prog 213 #[vp,vq,o9 n] w fun u w'=>(u = .int .i64 (aA5 p q n)∧o7 w w'):=by
 refine p8 [vp,vq,o9 n] func213 rfl ?_;obtain⟨a,w1,hb1,hx1,ha1⟩:=P7 hp (d7 _);obtain⟨b,w2,hb2,hx2,ha2⟩:=be1 (hq.mono (b7 hx1)) (d7 _);obtain⟨vg,_,hg,_,ldp,_⟩:=ha1.pg;obtain⟨va,vv,_,_,hra,hrv,_,_,ldq,_⟩:=ha2.pr;have l2:=ldq w2 (d7 _);have hSa:=hra.isS;have hna:=hra.vlen;have hpl:=ah0 q.params;have hvl:=Q7 q.vars;have hgl:=Q7 p.globals;unfold U2 at hwq;unfold D1 at hwp;have hx12:=hx1.trans hx2;simp only[n7,n8,simprocAttr,hb1,hb2,l2,hSa,hna];refine n9 [2,3,4,10,11] (σ:=Nat) (fun k f w'=>f 12 = .int .i64 k∧k≤q.params.length∧(∀j (hj:j<q.params.length),j<k→decide (q.params[j].name=n)=false)∧o7 w2 w') (fun k=>q.params.length-k) 0 ?_ ?_
 ·simp only[p6,simprocAttr];exact⟨by trivial,dr8 _,fun j _ h=>by omega,t8.refl _⟩
 ·rintro k f w3 hk ⟨h12,hkl,hno,hx3⟩;simp only[dq9,p6,simprocAttr]at hk;obtain⟨e2,e3,e4,e10,e11,_⟩:=hk;simp only[n7,n8,simprocAttr,h12,e11];refine m8 (fun hc=>?_) (fun hc=>?_)
  ·have hlt:k<q.params.length:=by simpa using hc
   have hin:=hra.inS hlt;obtain⟨sv,hsv,hld⟩:=E4 (P:=prog) (t:=68) hra (b7 hx3) (dq7 hlt) bc8 bd1 aS7 aj3;rw[aj3]at hld;obtain⟨c,wz,w4,hal,hst,hx4,hat⟩:=az7 (hsv.mono (b7 hx3)) (d7 _);obtain⟨ldy,_⟩:=hat.pa;have l4:=ldy w4 (d7 _);have hend:=hx12.trans (hx3.trans hx4);cases hq1:decide (q.params[k].name=n)
   ·simp only[n7,n8,z6,simprocAttr,h12,e2,e10,hin,hld,hal,hst,l4,hq1];refine⟨k+1,by omega,by rw[A8 k (by omega)],by omega,fun j hj hjk=>?_,hx3.trans hx4⟩;rcases dv3 j k with h|h
    ·exact hno j hj h
    ·obtain rfl:j=k:=by omega
     exact hq1
   ·have hfind:q.params.find? (fun a=>decide (a.name=n))=some q.params[k]:=dz3.2 ⟨hq1,k,hlt,rfl,fun j hj=>by rw[hno j (by omega) hj];rfl⟩;cases hr:q.params[k].ref
    ·simp only[n7,n8,z6,simprocAttr,h12,e2,e10,hin,hld,hal,hst,l4,hq1,hr];refine o6 results213 ?_;simp only[p6,simprocAttr];exact⟨by rw[aA5,hfind];simp only[hr];rfl,hend⟩
    ·simp only[n7,n8,z6,simprocAttr,h12,e2,e10,hin,hld,hal,hst,l4,hq1,hr];refine o6 results213 ?_;simp only[p6,simprocAttr];exact⟨by rw[aA5,hfind];simp only[hr];rfl,hend⟩
  ·have hge:k=q.params.length:=by simp at hc;omega
   subst hge;have hfind:q.params.find? (fun a=>decide (a.name=n))=none:=dz6.2 fun it hit=>by
    obtain⟨j,hj,rfl⟩:=dw5.1 hit;rw[hno j hj hj];simp
   have hF:aA5 p q n=if q.vars.contains n then 4 else if p.globals.contains n then 1 else 0:=by rw[aA5,hfind]
   have l3:=ldq w3 (b7 hx3);have lp3:=ldp w3 (b7 (hx2.trans hx3));simp only[n7,n8,simprocAttr,e2,e4,l3];refine C7 (O3 vv q.vars n w3 (A3.mono (b7 hx3) hrv) (by omega)) ?_;cases h1:q.vars.contains n
   ·simp only[n7,n8,simprocAttr,e2,e3,lp3];refine C7 (O3 vg p.globals n w3 (A3.mono (b7 (hx2.trans hx3)) hg) (by omega)) ?_;cases h2:p.globals.contains n
    ·simp only[n7,simprocAttr];refine o6 results213 ?_;simp only[p6,simprocAttr];exact⟨by rw[hF,h1,h2];rfl,hx12.trans hx3⟩
    ·simp only[n7,simprocAttr];refine o6 results213 ?_;simp only[p6,simprocAttr];exact⟨by rw[hF,h1,h2];rfl,hx12.trans hx3⟩
   ·simp only[n7,simprocAttr];refine o6 results213 ?_;simp only[p6,simprocAttr];exact⟨by rw[hF,h1];rfl,hx12.trans hx3⟩
theorem bc2(t:St):(L4 t).length≤O6 t:=by
 rw[P2];have h1:=aa8 t.x;have h2:=M1 t.args;have h3:1≤wtT t.name:=by simp[wtT]
 have h4:(if t.kind≠10∧t.name≠e0 then[t.name]else[]).length≤1:=by split<;>simp
 unfold L4;rw[dr1,dr1];omega
theorem ck6(vp vq vl vt:Value)(p:Pg)(q:Pr)(procs:List A7)(t:St)(w:World)(hp:SV (i4 w) vp p)(hq:SV (i4 w) vq q)(hl:R (i4 w) vl procs)(ht:SV (i4 w) vt t)(hwp:D1 p≤1000000)(hwq:U2 q≤1000000)(hwt:O6 t≤1000000)(hll:procs.length≤1000000):
  p7 prog 149 #[vp,vq,vl,vt] w fun u w'=>(u = .bool (ad4 p q procs t)∧o7 w w'):=by
 refine p8 [vp,vq,vl,vt] func149 rfl ?_;obtain⟨a,w1,hb1,hx1,ha1⟩:=W7 (w:=w) (fun _=>False) hp (fun _ h=>h.elim);obtain⟨b,w2,hb2,hx2,ha2⟩:=bY8 (w:=w1) (fun _=>False) (hq.mono (b7 hx1)) (fun _ h=>h.elim);obtain⟨c,w3,hb3,hx3,ha3⟩:=bY9 (w:=w2) (fun _=>False) (ht.mono (b7 (hx1.trans hx2))) (fun _ h=>h.elim);obtain⟨ldP,_⟩:=I2.pg_v hp ha1;obtain⟨ldQ,_⟩:=I2.pr_v hq ha2;obtain⟨ldT,_⟩:=I2.st_v ht ha3;obtain⟨_,_,_,_,_,_,_,_,_,_,_,ldt,_⟩:=I2.st ht ha3;have hx13:=hx1.trans (hx2.trans hx3);have lT3:=ldT w3 (B3 _ _);have hlen:(L4 t).length≤1000000:=dr7 (bc2 t) hwt;simp only[n7,n8,simprocAttr,hb1,hb2,hb3,lT3];refine z7 (bc1 vt t w3 (ht.mono (b7 hx13)) hwt) ?_;rintro u w4 ⟨ho,hx4⟩;have hu:=ho.rw_ (b7 hx4);have hSu:=hu.isS;have hnu:=hu.vlen;have hx14:=hx13.trans hx4;have key:(L4 t).all (fun n=>!decide (aA5 p q n=0))=false→ad4 p q procs t=false:=fun h=>by rw[ad4,h];rfl
 have key2:(L4 t).all (fun n=>!decide (aA5 p q n=0))=true→ad4 p q procs t=(!decide (t.kind=4)||(!decide (t.proc=R2)&&procs.contains t.proc)):=fun h=>by rw[ad4,h];rfl
 generalize L4 t=l at hu hSu hnu hlen key key2;simp only[n7,n8,simprocAttr,hSu,hnu];refine n9 [2,4,5,7,12,13] (σ:=Nat) (fun k f w'=>f 14 = .int .i64 k∧k≤l.length∧(l.take k).all (fun n=>!decide (aA5 p q n=0))=true∧o7 w4 w') (fun k=>l.length-k) 0 ?_ ?_
 ·simp only[p6,simprocAttr];exact⟨by trivial,dr8 _,by simp,t8.refl _⟩
 ·rintro k f w5 hk ⟨h14,hkl,hall,hx5⟩;simp only[dq9,p6,simprocAttr]at hk;obtain⟨e2,e4,e5,e7,e12,e13,_⟩:=hk;have hx15:=hx14.trans hx5;simp only[n7,n8,simprocAttr,h14,e13];refine m8 (fun hc=>?_) (fun hc=>?_)
  ·have hlt:k<l.length:=by simpa using hc
   have hin:=hu.inS hlt;have hld:=ldS hu (b7 hx5) hlt;have htk:=aG2 (fun n=>!decide (aA5 p q n=0)) l k hlt;have hmem:=dr5 hlt;generalize l[k]=n at hld htk hmem;have lP:=ldP w5 (p9 (B3 _ _) (b7 (hx2.trans (hx3.trans (hx4.trans hx5)))));have lQ:=ldQ w5 (p9 (B3 _ _) (b7 (hx3.trans (hx4.trans hx5))));simp only[n7,n8,z6,simprocAttr,h14,e4,e5,e12,hin,hld,lP,lQ];refine B2 (cw6 vp vq p q n w5 (hp.mono (b7 hx15)) (hq.mono (b7 hx15)) hwp hwq) (fun w6 hx6=>?_);cases hd:decide (aA5 p q n=0)
   ·simp only[n7,n8,simprocAttr,h14,hd];exact⟨k+1,by omega,by rw[A8 k (by omega)],by omega,by rw[htk,hall,hd];rfl,hx5.trans hx6⟩
   ·simp only[n7,n8,simprocAttr,hd];refine o6 results149 ?_;simp only[p6,simprocAttr];exact⟨by rw[key (aw4 (p:=fun n=>!decide (aA5 p q n=0)) hmem (by simp only[hd];rfl))],hx15.trans hx6⟩
  ·have hge:k=l.length:=by simp at hc;omega
   subst hge;rw[ds2]at hall;have lt:=ldt w5 (p9 (B3 _ _) (b7 (hx4.trans hx5)));have hF:=key2 hall;cases h1:decide (t.kind=4)
   ·simp only[n7,n8,simprocAttr,e7,lt,h1];refine o6 results149 ?_;simp only[p6,simprocAttr];exact⟨by rw[hF,h1];rfl,hx15⟩
   have hms:decide (t.proc=ofA #[109,97,105,110])=decide (t.proc=R2):=rfl;cases h2:decide (t.proc=R2)
   ·simp only[n7,n8,simprocAttr,e2,e7,lt,h1,hms,h2];refine C7 (O3 vl procs t.proc w5 (A3.mono (b7 hx15) hl) (by omega)) ?_;simp only[n7,simprocAttr];refine o6 results149 ?_;simp only[p6,simprocAttr];exact⟨by rw[hF,h1,h2];rfl,hx15⟩
   ·simp only[n7,n8,simprocAttr,e7,lt,h1,hms,h2];refine o6 results149 ?_;simp only[p6,simprocAttr];exact⟨by rw[hF,h1,h2];rfl,hx15⟩
theorem dl0:ah7 prog 148=true:=by kernel_rfl
def T2(e:Int×Int):Value:=.agg #[.int .i64 e.1,.int .i64 e.2]
theorem P4(c:Int):B8 prog 107 [(0,.int .i64 c)]=some (T2 (c,0)):=by
 simp[B8,bW3,J5,Instr.fill,Value.cells,T2]
theorem au1(c a:Int):B8 prog 107 [(0,.int .i64 c),(1,.int .i64 a)]=some (T2 (c,a)):=by
 simp[B8,bW3,J5,Instr.fill,Value.cells,T2]
theorem aG3:B8 prog 107 []=some (T2 (0,0)):=by
 simp[B8,bW3,J5,Instr.fill,T2]
theorem at9(w:World):∃rb w',(Instr.alloc 107 true (.tuple #[])).run prog w = .ok (.pointer (some ⟨rb,0,none⟩)) w'∧o7 w w'∧w'.heap[rb]?=some (.cells #[.int .i64 0,.int .i64 0] 107 (0,0))∧w.heap.size≤rb:=by
 obtain⟨h1,_⟩:=aJ7 (P:=prog) (w:=w) (T:=107) bW6 rfl (cs:=#[.int .i64 0,.int .i64 0]) rfl (by simp[Value.oneCell']);exact⟨_,_,h1,o7.alloc _ _,dv4 w _,ds5 _⟩
theorem am9{w0 w2 w':World}{rb:Nat}(h0:w2.heap[rb]?=some (.cells #[.int .i64 0,.int .i64 0] 107 (0,0)))(hx:o7 w2 w')(hge:w0.heap.size≤rb)(hx0:o7 w0 w2)(e:Int×Int):
  ∃w'',(Instr.storeAt 107 (.pointer (some ⟨rb,0,none⟩)) (T2 e)).run prog w' = .ok () w''∧(Instr.loadAt 107 (.pointer (some ⟨rb,0,none⟩))).run prog w'' = .ok (T2 e) w''∧o7 w0 w'':=by
 have h1:=(hx.block rb (dr3.1 h0).1 id).trans h0;obtain⟨w'',s1,s2,s3⟩:=Z7 (P:=prog) (cs:=#[.int .i64 e.1,.int .i64 e.2]) h1 bW6 rfl rfl (by simp[Value.oneCell']);refine⟨w'',s1,?_,t8.ext_of (hx0.trans hx) s3 fun b hb=>by subst hb;exact hge⟩;exact S9 s2 cB1 cC6 cB5 (by rw[cC3];rfl)
theorem bS2(n:A7)(a:Addr)(p:Pg)(w:World)(ha:At (i4 w) a p)(hl:p.globals.length≤1000000):p7 prog 148 #[o9 n,.pointer (some a)] w fun u w'=>(u = .bool (p.globals.contains n)∧o7 w w'):=by
 refine p8 [o9 n,.pointer (some a)] func148 rfl ?_;obtain⟨vg,_,hg,_,ld,_⟩:=ha.pg;have l1:=ld w (d7 _);simp only[n7,n8,simprocAttr,l1];refine C7 (O3 vg p.globals n w hg (by omega)) ?_;simp only[n7,simprocAttr];refine o6 results148 ?_;simp only[p6,simprocAttr];exact⟨by trivial,t8.refl _⟩
theorem ad8(v:Value)(p:Pg)(w:World)(hv:SV (i4 w) v p)(hw:D1 p≤1000000):p7 prog 97 #[v] w fun u w'=>(u=T2 (O5 p)∧o7 w w'):=by
 refine p8 [v] func97 rfl ?_;obtain⟨a,w1,hbx,hx1,ha⟩:=W7 (w:=w) (fun _=>False) hv (fun _ h=>h.elim);obtain⟨vg,vp,hg,hp,ld,_⟩:=I2.pg hv ha;obtain⟨lw,_⟩:=I2.pg_v hv ha;obtain⟨rb,w2,hal,hx2,hrb,hge1⟩:=at9 w1;have hge:w.heap.size≤rb:=dr7 hx1.size hge1;have hx12:=hx1.trans hx2;have ha2:∀w',o7 w2 w'→At (i4 w') a p:=fun w' h=>by
  obtain⟨cs,e,hc⟩:=ha;obtain⟨cs2,e2,he⟩:=hv;subst e;obtain rfl:=ah3 e2;exact⟨cs2,A3.mono (b7 (hx12.trans h)) he,fun j u hj=>F6 (p9 (B3 _ _) (b7 (hx2.trans h))) (hc j u hj)⟩
 have hld:∀w',o7 w2 w'→B5 (B7 w1 fun _=>False) (i4 w'):=fun w' h=>p9 (B3 _ _) (b7 (hx2.trans h));have lw2:=lw w2 (hld _ (t8.refl _));have hret:=fun(w':World) (h:o7 w2 w')=>am9 hrb h hge hx12;simp only[n7,n8,simprocAttr,hbx,hal,lw2];refine B2 (bX4 v p w2 (hv.mono (b7 hx12)) hw) (fun w3 hx3=>?_);cases hmay:J6 p
 ·obtain⟨w9,s1,s2,s3⟩:=hret w3 hx3 (1,0);simp only[n7,n8,simprocAttr,P4,s1];refine L6 results97 (by simp only[p6,simprocAttr]) s2 ?_;exact⟨by rw[O5,hmay];rfl,s3⟩
 have l3:=ld w3 (hld _ hx3);have hSp:=hp.isS;have hnp:=hp.vlen;have hgl:p.globals.length≤16∧p.procs.length≤16:=by
  simp only[J6,dt0,du7]at hmay;exact⟨hmay.1.1.1,hmay.1.1.2⟩
 obtain⟨hgl1,hgl2⟩:=hgl;simp only[n7,n8,simprocAttr,l3,hSp,hnp];refine n9 [1,2,18,19] (σ:=Nat×Value) (fun s f w'=>f 20 = .int .i64 s.1∧f 3=s.2∧s.1≤p.procs.length∧B0 (i4 w2) w' 9 s.2 ((p.procs.take s.1).map (·.name))∧o7 w2 w') (fun s=>p.procs.length-s.1) (0,.slice none 0 0) ?_ ?_
 ·simp only[p6,simprocAttr];exact⟨by trivial,by trivial,dr8 _,by simpa using B0.nil _ _ _,hx3⟩
 rintro⟨k,u⟩ f w4 hk ⟨h20,h3,hkl,ho,hx4⟩;simp only at h20 h3 hkl ho;simp only[dq9,p6,simprocAttr]at hk;obtain⟨e1,e2,e18,e19,_⟩:=hk;simp only[n7,n8,simprocAttr,h20,e19];refine m8 (fun hc=>?_) (fun hc=>?_)
 ·have hlt:k<p.procs.length:=by simpa using hc
  have hin:=hp.inS hlt;obtain⟨sv,hsv,hld4⟩:=E4 (P:=prog) (t:=51) hp (b7 (hx12.trans hx4)) (dq7 hlt) ae2 ae5 ac8 I4;rw[I4]at hld4;have htk:(p.procs.take (k+1)).map (·.name)=(p.procs.take k).map (·.name)++[p.procs[k].name]:=by
   rw[dr6 hlt,du1];rfl
  generalize p.procs[k]=y at hsv htk;obtain⟨b,wz,w5,hal5,hst5,hx5,hat⟩:=az8 (hsv.mono (b7 (hx12.trans hx4))) (d7 _);obtain⟨_,_,_,_,_,_,_,_,ldy,_⟩:=hat.pr;have l5:=ldy w5 (d7 _);have ho5:=ho.ext hx5;have hx25:=hx4.trans hx5;obtain⟨p1,u',w6,p2,p3,p4,p5⟩:=push (e:=22) ar6 rfl ho5 (x:=o9 y.name) (y:=y.name) rfl (by simp;omega) (by simp;omega) (b7 hx25);simp only[n7,n8,z6,simprocAttr,h20,h3,e18,hin,hld4,hal5,hst5,l5,p1,p2];exact⟨(k+1,u'),by simp only[];omega,by simp only[];rw[A8 k (by omega)],by trivial,by simp only[];omega,by simp only[];rw[htk];exact p3,ho5.ext2 hx25 p4⟩
 have hge':k=p.procs.length:=by simp at hc;omega
 subst hge';rw[ds2]at ho;have hnl:(p.procs.map (·.name)).length=p.procs.length:=dr9 _;have hfirst:V5 (fun y=>decide (R2=y)) 0 (p.procs.map (·.name))=S5 p.procs R2:=by
  rw[bH5,S5];exact bR9 (fun x=>by rw[dv1];exact eq_comm) _ _
 have hsc:O5 p=if Z0 p.globals||Z0 (p.procs.map (·.name))||decide (S5 p.procs R2<0)||decide (0<(p.procs.getD (S5 p.procs R2).toNat bq6).params.length)then(5,0)
  else(M0 p (b9 p) (p.procs.map (·.name)) 0 p.procs).getD (0,0):=by rw[O5,if_neg (by rw[hmay];simp)]
 have hu:=ho.rw_ (b7 hx4);generalize p.procs.map (·.name)=names at hu hnl hfirst hsc;have l4:=ld w4 (hld _ hx4);have hstr:(Value.string ⟨#[109,97,105,110]⟩)=o9 R2:=rfl;have hgw:∀w',o7 w w'→R (i4 w') vg p.globals:=fun w' h=>A3.mono (b7 h) hg;have lw4:=lw w4 (hld _ hx4);simp only[n7,simprocAttr,h3,hstr];refine C7 (bf5 u names R2 w4 hu (by omega)) ?_;rw[hfirst];have hget:=au7 (fun f=>decide (f.name=R2)) p.procs 0
 change 0≤S5 p.procs R2→_ at hget
 change 0≤S5 p.procs R2→∃k,S5 p.procs R2=_∧_ at hget
 generalize S5 p.procs R2=first at hget hsc
 obtain⟨w9,s1,s2,s3⟩:=hret w4 hx4 (5,0);simp only[n7,n8,simprocAttr,e1,l4];refine C7 (aX3 vg p.globals w4 (hgw w4 (hx12.trans hx4)) (by omega)) ?_;rcases dq8 (Z0 p.globals)with ht1|ht1
 ·simp only[n7,simprocAttr,ht1,e2,P4,s1];refine L6 results97 (by simp only[p6,simprocAttr];exact e2) s2 ?_;exact⟨by rw[hsc,ht1];rfl,s3⟩
 simp only[n7,simprocAttr,ht1,h3];refine C7 (aX3 u names w4 hu (by omega)) ?_;rcases dq8 (Z0 names)with ht2|ht2
 ·simp only[n7,simprocAttr,ht2,e2,P4,s1];refine L6 results97 (by simp only[p6,simprocAttr];exact e2) s2 ?_;exact⟨by rw[hsc,ht1,ht2];rfl,s3⟩
 rcases dq8 (decide (first<0))with ht3|ht3
 ·simp only[n7,n8,simprocAttr,ht2,ht3,e2,P4,s1];refine L6 results97 (by simp only[p6,simprocAttr];exact e2) s2 ?_;exact⟨by rw[hsc,ht1,ht2,ht3];rfl,s3⟩
 obtain⟨k,rfl,q,hq,_⟩:=hget (by simpa using ht3);rw[du4]at hsc ht3;obtain⟨va,_,_,_,hva,_,_,_,ldq,_⟩:=(hp.at_ hq).pr;have hwq:U2 q≤1000000:=aq7 p hw q (ds9 hq);have hpl:=ah0 q.params;have lq:=ldq w4 (b7 (hx12.trans hx4));have hz:A3.sz Pr=5:=rfl;rw[hz]at lq;have hin:=hp.inS (dr4.1 hq).1;have hSa:=hva.isS;have hna:=hva.vlen;have hpar:(p.procs.getD (Int.toNat (k:Nat)) bq6).params=q.params:=by rw[dt5,List.getD,hq];rfl
 rw[hpar]at hsc;rcases dq8 (decide (0<(q.params.length:Int)))with ht4|ht4
 ·simp only[n7,n8,z6,simprocAttr,ht2,ht3,ht4,e1,l4,hin,lq,hSa,hna,e2,P4,s1];refine L6 results97 (by simp only[p6,simprocAttr];exact e2) s2 ?_;have ht5:decide (0<q.params.length)=true:=by simpa using ht4
  exact⟨by rw[hsc,ht1,ht2,ht3,ht5];rfl,s3⟩
 have ht5:decide (0<q.params.length)=false:=by simpa using ht4
 have hsc2:O5 p=(M0 p (b9 p) names 0 p.procs).getD (0,0):=by rw[hsc,ht1,ht2,ht3,ht5];rfl
 clear hsc hret s1 s2 s3;have hret:=fun(w':World) (h:o7 w2 w')=>am9 hrb h hge hx12;simp only[n7,n8,z6,simprocAttr,ht2,ht3,ht4,e1,l4,hin,lq,hSa,hna,lw4];refine z7 (ai1 v p w4 (hv.mono (b7 (hx12.trans hx4))) hw) ?_;rintro us w5 ⟨sh,rfl,hsh,hx5⟩;have hx25:=hx4.trans hx5;have l5:=ld w5 (hld _ hx25);simp only[n7,n8,simprocAttr,e1,l5,hSp,hnp];refine n9 [1,2,3,7,57,58] (σ:=Nat) (fun k f w'=>f 59 = .int .i64 k∧k≤p.procs.length∧M0 p (b9 p) names 0 p.procs=M0 p (b9 p) names k (p.procs.drop k)∧o7 w5 w') (fun k=>p.procs.length-k) 0 ?_ ?_
 ·simp only[p6,simprocAttr];exact⟨by trivial,dr8 _,by rw[dA1],t8.refl _⟩
 rintro i f2 w6 hk ⟨h59,hil,hsp,hx6⟩;simp only[dq9,p6,simprocAttr]at hk;obtain⟨e1',e2',e3,e7,e57,e58,_⟩:=hk;rw[e1]at e1';rw[e2]at e2';rw[h3]at e3;have hx26:=hx25.trans hx6;simp only[n7,n8,simprocAttr,h59,e58];refine m8 (fun hc=>?_) (fun hc=>?_);rotate_left
 ·have hge2:i=p.procs.length:=by simp at hc;omega
  subst hge2;rw[dA0]at hsp;obtain⟨w9,s1,s2,s3⟩:=hret w6 hx26 (0,0);simp only[n7,simprocAttr,e2',aG3,s1];refine L6 results97 (by simp only[p6,simprocAttr];exact e2') s2 ?_;exact⟨by rw[hsc2,hsp];rfl,s3⟩
 have hlt:i<p.procs.length:=by simpa using hc
 have hin:=hp.inS hlt;obtain⟨sv,hsv,hld⟩:=E4 (P:=prog) (t:=51) hp (b7 (hx12.trans hx26)) (dq7 hlt) ae2 ae5 ac8 I4;rw[I4]at hld;have hdrop:p.procs.drop i=p.procs[i]::p.procs.drop (i+1):=du8 hlt;obtain⟨x,hok,_⟩:=V7 p hw i hlt;have hwy:=aq7 p hw _ (dr5 hlt);have hwl:∀it∈(b9 p).of i,O6 it.s≤1000000:=fun it h=>by
  rw[hok.of_]at h;exact Z5 p hw it (dz5 (dB8 h))
 have hlen:((b9 p).of i).length≤1000000:=by
  rw[hok.of_,dy7,ds3];have:=hok.fit;omega
 generalize p.procs[i]=y at hsv hdrop hwy hok;rw[hdrop,M0]at hsp;obtain⟨b,wz,w7,hal7,hst7,hx7,hat⟩:=am3 (w:=w6) (fun _=>False) hsv (fun _ h=>h.elim);obtain⟨ldQ,_⟩:=I2.pr_v hsv hat;have lQ7:=ldQ w7 (B3 _ _);have hx27:=hx26.trans hx7;simp only[n7,n8,z6,simprocAttr,h59,e57,hin,hld,hal7,hst7,lQ7];refine z7 (cK0 sv y w7 (hsv.mono (b7 (hx12.trans hx27))) hwy) ?_;rintro uo w8 ⟨ho8,hx8⟩;have huo:=ho8.rw_ (b7 hx8);have hx28:=hx27.trans hx8;have hol:(bd7 y).length≤1000000:=by
  have h1:=ah0 y.params;have h2:=Q7 y.vars;unfold U2 at hwy;unfold bd7;rw[dr1,dr9];omega
 simp only[n7,simprocAttr];refine C7 (aX3 uo (bd7 y) w8 huo (by omega)) ?_;obtain⟨w9,s1,s2,s3⟩:=hret w8 hx28 (5,0);rcases dq8 (Z0 (bd7 y))with ht6|ht6
 ·simp only[n7,simprocAttr,ht6,e2',P4,s1];refine L6 results97 (by simp only[p6,simprocAttr];exact e2') s2 ?_;exact⟨by rw[hsc2,hsp,X3,ht6];rfl,s3⟩
 clear s1 s2 s3;simp only[n7,simprocAttr,ht6,e1'];refine B2 (aN7 (fun n=>p.globals.contains n) 148 #[.pointer (some a)] uo (bd7 y) w8 dl0 huo (by omega) (fun n w' hx' _=>bS2 n a p w' (ha2 w' (hx28.trans hx')) (by omega))) (fun w9 hx9=>?_);have hx29:=hx28.trans hx9;obtain⟨w10,s1,s2,s3⟩:=hret w9 hx29 (5,0);rcases dq8 ((bd7 y).any fun n=>p.globals.contains n)with ht7|ht7
 ·simp only[n7,simprocAttr,ht7,e2',P4,s1];refine L6 results97 (by simp only[p6,simprocAttr];exact e2') s2 ?_;exact⟨by rw[hsc2,hsp,X3,ht6,ht7];rfl,s3⟩
 clear s1 s2 s3;have hsp3:X3 p names y ((b9 p).of i)=match((b9 p).of i).find? fun it=>!ad4 p y names it.s with
   | some it=>some (5,it.s.id)
   | none=>none:=by rw[X3,ht6,ht7];rfl
 rw[hsp3]at hsp;simp only[n7,simprocAttr,ht7,e7];refine z7 (aR8 sh (b9 p) i x _ w9 (hsh.mono (b7 (hx6.trans (hx7.trans (hx8.trans hx9))))) hok) ?_;rintro ul w10 ⟨hul,hx10⟩;have hx210:=hx29.trans hx10;generalize(b9 p).of i=l at hul hwl hsp hlen;have hSl:=hul.isS;have hnl2:=hul.vlen;simp only[n7,n8,simprocAttr,hSl,hnl2];refine n9 [1,2,3,7,9,57,58,59,76,77] (σ:=Nat) (fun m f w'=>f 78 = .int .i64 m∧m≤l.length∧(∀j (hj:j<l.length),j<m→ad4 p y names l[j].s=true)∧o7 w10 w') (fun m=>l.length-m) 0 ?_ ?_
 ·simp only[p6,simprocAttr];exact⟨by trivial,dr8 _,fun j _ h=>by omega,t8.refl _⟩
 rintro m f3 w11 hk ⟨h78,hml,hno,hx11⟩;simp only[dq9,p6,simprocAttr]at hk;obtain⟨g1,g2,g3,g7,g9,g57,g58,g59,g76,g77,_⟩:=hk;rw[e1']at g1;rw[e2']at g2;rw[e3]at g3;rw[e7]at g7;rw[h59]at g59;have hx211:=hx210.trans hx11;simp only[n7,n8,simprocAttr,h78,g77];refine m8 (fun hc=>?_) (fun hc=>?_);rotate_left
 ·have hge2:m=l.length:=by simp at hc;omega
  subst hge2;have hfind:l.find? (fun it=>!ad4 p y names it.s)=none:=dz6.2 fun it hit=>by
   obtain⟨j,hj,rfl⟩:=dw5.1 hit;rw[hno j hj hj];simp
  rw[hfind]at hsp;simp only[n7,n8,simprocAttr,g59];refine⟨i+1,by omega,by rw[A8 i (by omega)],by omega,hsp,?_⟩;exact hx6.trans (hx7.trans (hx8.trans (hx9.trans (hx10.trans hx11))))
 have hmt:m<l.length:=by simpa using hc
 clear hin hld;have hin:=hul.inS hmt;obtain⟨sv2,hsv2,hld2⟩:=E4 (P:=prog) (t:=121) hul (b7 hx11) (dq7 hmt) ab1 ab2 Z1 I7;rw[I7]at hld2;have hwit:=hwl _ (dr5 hmt);obtain⟨c,wz2,w12,hal12,hst12,hx12',hati⟩:=az6 (hsv2.mono (b7 hx11)) (d7 _);obtain⟨hats,_,_⟩:=hati.it;obtain⟨vt,hvt,ldT,_⟩:=hats.st_v;obtain⟨_,_,_,_,_,_,_,_,_,ldt,_⟩:=hats.st;have hx212:=hx211.trans hx12';have k1:=lw w12 (hld _ hx212);have k2:=ldQ w12 (p9 (B3 _ _) (b7 (hx8.trans (hx9.trans (hx10.trans (hx11.trans hx12'))))));have k3:=ldT w12 (d7 _);simp only[n7,n8,z6,simprocAttr,h78,g1,g3,g9,g76,hin,hld2,hal12,hst12,k1,k2,k3];refine B2 (ck6 v sv u vt p y names l[m].s w12 (hv.mono (b7 (hx12.trans hx212))) (hsv.mono (b7 (hx12.trans hx212))) (A3.mono (b7 (hx5.trans (hx6.trans (hx7.trans (hx8.trans (hx9.trans (hx10.trans (hx11.trans hx12')))))))) hu) hvt hw hwy hwit (by omega)) (fun w13 hx13=>?_);have hx213:=hx212.trans hx13;rcases dq8 (ad4 p y names l[m].s)with hkn|hkn
 ·simp only[n7,n8,simprocAttr,hkn,h78];refine⟨m+1,by omega,by rw[A8 m (by omega)],by omega,fun j hj hjm=>?_,hx11.trans (hx12'.trans hx13)⟩;rcases dv3 j m with h|h
  ·exact hno j hj h
  ·obtain rfl:j=m:=by omega
   exact hkn
 ·have k4:=ldt w13 (b7 hx13);obtain⟨w14,s1,s2,s3⟩:=hret w13 hx213 (5,l[m].s.id);simp only[n7,n8,simprocAttr,hkn,k4,g2,au1,s1];refine L6 results97 (by simp only[p6,simprocAttr];exact g2) s2 ?_;have hfind:l.find? (fun it=>!ad4 p y names it.s)=some l[m]:=dz3.2 ⟨by rw[hkn];rfl,m,hmt,rfl,fun j hj=>by rw[hno j (by omega) hj];rfl⟩;rw[hfind]at hsp;exact⟨by rw[hsc2,hsp];rfl,s3⟩
theorem al5(e:Int×Int):aD0 prog 107 0 (T2 e)=some (.int .i64 e.1):=rfl
theorem cu0:eqT prog 4=1:=by kernel_rfl
theorem be0{a b:Bool}:B6 prog .neq 4 (.bool a) (.bool b)=some (.bool !(a==b)):=by
 simp only[B6,cu0,dx1]
theorem aL0{α β:Type}(p:α×β→Bool):∀(l:List α) (m:List β) (k:Nat) (h1:k<l.length) (h2:k<m.length),p (l[k],m[k])=false→(l.zip m).all p=false
 | [],_,_,h,_,_=>by simp at h
 | _::_,[],_,_,h,_=>by simp at h
 | a::l,b::m,0,_,_,h=>by
  have h':p (a,b)=false:=h;simp[h']
 | a::l,b::m,k+1,h1,h2,h=>by
  have:=aL0 p l m k (by simpa using h1) (by simpa using h2) h;simp only[List.zip_cons_cons,List.all_cons,this,Bool.and_false]
theorem aT1{α β:Type}(p:α×β→Bool):∀(l:List α) (m:List β),(∀k (h1:k<l.length) (h2:k<m.length),p (l[k],m[k])=true)→(l.zip m).all p=true
 | [],_,_=>by simp
 | _::_,[],_=>by simp
 | a::l,b::m,h=>by
  have h0:p (a,b)=true:=h 0 (by simp) (by simp);simp only[List.zip_cons_cons,List.all_cons,h0,dy1];exact aT1 p l m fun k h1 h2=>h (k+1) (by simpa using h1) (by simpa using h2)
theorem cA4(vl va:Value)(l:List Pa)(a:List Ar)(w:World)(hl:R (i4 w) vl l)(ha:R (i4 w) va a)(h1:l.length≤1000000)(h2:a.length≤1000000):
  p7 prog 214 #[vl,va] w fun u w'=>(u = .bool (bl9 l a)∧o7 w w'):=by
 refine p8 [vl,va] func214 rfl ?_;have hS1:=hl.isS;have hn1:=hl.vlen;have hS2:=ha.isS;have hn2:=ha.vlen;have hdn:decide ((l.length:Int)=(a.length:Int))=decide (l.length=a.length):=by rw[dv1];omega
 rcases dq8 (decide (l.length=a.length))with hlen|hlen;rotate_left
 ·simp only[n7,n8,simprocAttr,hS1,hn1,hS2,hn2,hdn,hlen];refine o6 results214 ?_;simp only[p6,simprocAttr];exact⟨by rw[bl9,hlen];rfl,t8.refl _⟩
 have hlen':l.length=a.length:=dr0 hlen;have hF:bl9 l a=(l.zip a).all fun x=>x.1.ref==x.2.ref:=by rw[bl9,hlen,dy1]
 simp only[n7,n8,simprocAttr,hS1,hn1,hS2,hn2,hdn,hlen];refine n9 [1,12,13] (σ:=Nat) (fun k f w'=>f 14 = .int .i64 k∧k≤l.length∧(∀j (hj:j<l.length) (hj2:j<a.length),j<k→(l[j].ref==a[j].ref)=true)∧o7 w w') (fun k=>l.length-k) 0 ?_ ?_
 ·simp only[p6,simprocAttr];exact⟨by trivial,dr8 _,fun j _ _ h=>by omega,t8.refl _⟩
 ·rintro k f w3 hk ⟨h14,hkl,hno,hx3⟩;simp only[dq9,p6,simprocAttr]at hk;obtain⟨e1,e12,e13,_⟩:=hk;simp only[n7,n8,simprocAttr,h14,e13];refine m8 (fun hc=>?_) (fun hc=>?_)
  ·have hlt:k<l.length:=by simpa using hc
   have hlt2:k<a.length:=by omega
   have hin:=hl.inS hlt;obtain⟨sv,hsv,hld⟩:=E4 (P:=prog) (t:=68) hl (b7 hx3) (dq7 hlt) bc8 bd1 aS7 aj3;rw[aj3]at hld;obtain⟨c,wz,w4,hal,hst,hx4,hat⟩:=az7 (hsv.mono (b7 hx3)) (d7 _);obtain⟨_,sdy⟩:=hat.pa;have hx4d:o7 w w4.drew:=hx3.trans (hx4.trans (o7.drew w4));obtain⟨_,_,sda⟩:=(ha.at_ (dq7 hlt2)).ar;have s1:=sdy (fun w'=>o7 w4.drew w') w4.drew (t8.refl _) fun w' h=>b7 ((o7.drew w4).trans h);have s2:=sda (fun w'=>o7 w4.drew w') w4.drew (t8.refl _) fun w' h=>b7 (hx4d.trans h);have hz:A3.sz Ar=6:=rfl;rw[hz]at s2;have hin2:=ha.inS hlt2;simp only[n7,n8,z6,simprocAttr,h14,e12,hin,hld,hal,hst];refine C0 (fun w'=>o7 w4.drew w') 8 (A9 [0,1,2,3,4,5,6,7]) ?_;rcases dq8 (l[k].ref==a[k].ref)with hq|hq
   ·simp only[D2,A9,n7,n8,z6,simprocAttr,s1,s2,hin2,be0,hq,h14,e1];refine⟨k+1,by omega,by rw[A8 k (by omega)],by omega,fun j hj hj2 hjk=>?_,hx4d⟩;rcases dv3 j k with h|h
    ·exact hno j hj hj2 h
    ·obtain rfl:j=k:=by omega
     exact hq
   ·simp only[D2,A9,n7,n8,z6,simprocAttr,s1,s2,hin2,be0,hq,e1];refine o6 results214 ?_;simp only[p6,simprocAttr];exact⟨by rw[hF,aL0 _ l a k hlt hlt2 hq],hx4d⟩
  ·have hge:k=l.length:=by simp at hc;omega
   subst hge;simp only[n7,simprocAttr];refine o6 results214 ?_;simp only[p6,simprocAttr];exact⟨by rw[hF,aT1 _ l a fun j hj hj2=>hno j hj hj2 hj],hx3⟩
theorem cu4(vp vt:Value)(p:Pg)(t:St)(w:World)(hp:SV (i4 w) vp p)(ht:SV (i4 w) vt t)(hwp:D1 p≤1000000)(hwt:O6 t≤1000000):
  p7 prog 150 #[vp,vt] w fun u w'=>(u = .bool (ad3 p t)∧o7 w w'):=by
 refine p8 [vp,vt] func150 rfl ?_;obtain⟨a,w1,hb1,hx1,ha1⟩:=P7 hp (d7 _);obtain⟨b,w2,hb2,hx2,ha2⟩:=ah5 (ht.mono (b7 hx1)) (d7 _);obtain⟨_,vps,_,hps,ldp,_⟩:=ha1.pg;obtain⟨_,vas,_,_,_,hvas,_,_,_,ldt,_⟩:=ha2.st;have hx12:=hx1.trans hx2;have lt2:=ldt w2 (d7 _);have lp2:=ldp w2 (b7 hx2);have hS:=hps.isS;have hn:=hps.vlen;rw[P2]at hwt;have hal:=ag9 t.args;have hlenp:=ac9 p.procs;have hwf:=aq7 p hwp;unfold D1 at hwp;rcases dq8 (decide (t.kind=4))with hk4|hk4;rotate_left
 ·simp only[n7,n8,simprocAttr,hb1,hb2,lt2,hk4];refine o6 results150 ?_;simp only[p6,simprocAttr];exact⟨by rw[ad3,hk4];rfl,hx12⟩
 have hF:ad3 p t=match p.procs.find? fun f=>decide (f.name=t.proc)with
  | some f=>bl9 f.params t.args
  | none=>false:=by rw[ad3,hk4,dy1]<;>rfl
 simp only[n7,n8,simprocAttr,hb1,hb2,lt2,lp2,hk4,hS,hn];refine n9 [3,11,12] (σ:=Nat) (fun k f w'=>f 13 = .int .i64 k∧k≤p.procs.length∧(∀j (hj:j<p.procs.length),j<k→decide (p.procs[j].name=t.proc)=false)∧o7 w2 w') (fun k=>p.procs.length-k) 0 ?_ ?_
 ·simp only[p6,simprocAttr];exact⟨by trivial,dr8 _,fun j _ h=>by omega,t8.refl _⟩
 ·rintro k f w3 hk ⟨h13,hkl,hno,hx3⟩;simp only[dq9,p6,simprocAttr]at hk;obtain⟨e3,e11,e12,_⟩:=hk;simp only[n7,n8,simprocAttr,h13,e12];refine m8 (fun hc=>?_) (fun hc=>?_)
  ·have hlt:k<p.procs.length:=by simpa using hc
   have hin:=hps.inS hlt;obtain⟨sv,hsv,hld⟩:=E4 (P:=prog) (t:=51) hps (b7 (hx2.trans hx3)) (dq7 hlt) ae2 ae5 ac8 I4;rw[I4]at hld;obtain⟨c,wz,w4,hal4,hst,hx4,hat⟩:=az8 (hsv.mono (b7 (hx2.trans hx3))) (d7 _);obtain⟨vpa,_,_,_,hvpa,_,_,_,ldy,_⟩:=hat.pr;have l4:=ldy w4 (d7 _);have lt4:=ldt w4 (b7 (hx3.trans hx4));have hend:=hx12.trans (hx3.trans hx4);rcases dq8 (decide (p.procs[k].name=t.proc))with hq|hq
   ·have hfind:p.procs.find? (fun f=>decide (f.name=t.proc))=some p.procs[k]:=dz3.2 ⟨hq,k,hlt,rfl,fun j hj=>by rw[hno j (by omega) hj];rfl⟩;have hwk:=hwf _ (dr5 hlt);have hpl:=ah0 p.procs[k].params;unfold U2 at hwk;simp only[n7,n8,z6,simprocAttr,h13,e3,e11,hin,hld,hal4,hst,l4,lt4,hq];refine B2 (cA4 vpa vas _ _ w4 hvpa (A3.mono (b7 (hx3.trans hx4)) hvas) (by omega) (by omega)) (fun w5 hx5=>?_);simp only[n7,simprocAttr];refine o6 results150 ?_;simp only[p6,simprocAttr];exact⟨by simp only[hF,hfind],hend.trans hx5⟩
   ·simp only[n7,n8,z6,simprocAttr,h13,e3,e11,hin,hld,hal4,hst,l4,lt4,hq];refine⟨k+1,by omega,by rw[A8 k (by omega)],by omega,fun j hj hjk=>?_,hx3.trans hx4⟩;rcases dv3 j k with h|h
    ·exact hno j hj h
    ·obtain rfl:j=k:=by omega
     exact hq
  ·have hge:k=p.procs.length:=by simp at hc;omega
   subst hge;have hfind:p.procs.find? (fun f=>decide (f.name=t.proc))=none:=dz6.2 fun it hit=>by
    obtain⟨j,hj,rfl⟩:=dw5.1 hit;rw[hno j hj hj];simp
   simp only[n7,simprocAttr];refine o6 results150 ?_;simp only[p6,simprocAttr];exact⟨by simp only[hF,hfind],hx12.trans hx3⟩
theorem aC4(v:Value)(p:Pg)(w:World)(hv:SV (i4 w) v p)(hw:D1 p≤1000000):p7 prog 98 #[v] w fun u w'=>(u=T2 (Y5 p)∧o7 w w'):=by
 refine p8 [v] func98 rfl ?_;obtain⟨a,w1,hbx,hx1,ha⟩:=W7 (w:=w) (fun _=>False) hv (fun _ h=>h.elim);obtain⟨lw,_⟩:=I2.pg_v hv ha;obtain⟨rb,w2,hal,hx2,hrb,hge1⟩:=at9 w1;have hge:w.heap.size≤rb:=dr7 hx1.size hge1;have hx12:=hx1.trans hx2;have hlw:∀w',o7 w2 w'→B5 (B7 w1 fun _=>False) (i4 w'):=fun w' h=>p9 (B3 _ _) (b7 (hx2.trans h));have lw2:=lw w2 (hlw _ (t8.refl _));have hret:=fun(w':World) (h:o7 w2 w')=>am9 hrb h hge hx12;simp only[n7,n8,simprocAttr,hbx,hal,lw2];refine B2 (ad8 v p w2 (hv.mono (b7 hx12)) hw) (fun w3 hx3=>?_);rcases dq8 (decide ((O5 p).1=0))with hsc|hsc;rotate_left
 ·obtain⟨w9,s1,s2,s3⟩:=hret w3 hx3 (1,0);simp only[n7,n8,simprocAttr,al5,hsc,P4,s1];refine L6 results98 (by simp only[p6,simprocAttr]) s2 ?_;exact⟨by rw[Y5,if_pos (dr2 hsc)],s3⟩
 have hF:Y5 p=match(b9 p).l.find? fun it=>decide (it.s.kind=4) && !ad3 p it.s with
  | some it=>(6,it.s.id)
  | none=>(0,0):=by rw[Y5,if_neg (by simpa using hsc)]<;>rfl
 have lw3:=lw w3 (hlw _ hx3);simp only[n7,n8,simprocAttr,al5,hsc,lw3];refine z7 (ai1 v p w3 (hv.mono (b7 (hx12.trans hx3))) hw) ?_;rintro us w4 ⟨sh,rfl,hsh,hx4⟩;have hx24:=hx3.trans hx4;obtain⟨vL,vlo,vhi,hL,hlo,hhi,hap,ldsh,_⟩:=hsh.sh;have lsh:=ldsh w4 (d7 _);have hS:=hL.isS;have hn:=hL.vlen;have hsl:=an6 p;have hcl:=bz1 p;have hwl:=Z5 p hw;generalize(b9 p).l=l at hL hS hn hsl hwl hF;simp only[n7,n8,simprocAttr,lsh,hS,hn];refine n9 [1,2,14,15] (σ:=Nat) (fun m f w'=>f 16 = .int .i64 m∧m≤l.length∧(∀j (hj:j<l.length),j<m→(decide (l[j].s.kind=4) && !ad3 p l[j].s)=false)∧o7 w4 w') (fun m=>l.length-m) 0 ?_ ?_
 ·simp only[p6,simprocAttr];exact⟨by trivial,dr8 _,fun j _ h=>by omega,t8.refl _⟩
 rintro m f3 w5 hk ⟨h16,hml,hno,hx5⟩;simp only[dq9,p6,simprocAttr]at hk;obtain⟨g1,g2,g14,g15,_⟩:=hk;have hx25:=hx24.trans hx5;simp only[n7,n8,simprocAttr,h16,g15];refine m8 (fun hc=>?_) (fun hc=>?_);rotate_left
 ·have hge2:m=l.length:=by simp at hc;omega
  subst hge2;have hfind:l.find? (fun it=>decide (it.s.kind=4) && !ad3 p it.s)=none:=dz6.2 fun it hit=>by
   obtain⟨j,hj,rfl⟩:=dw5.1 hit;rw[hno j hj hj];simp
  rw[hfind]at hF;obtain⟨w9,s1,s2,s3⟩:=hret w5 hx25 (0,0);simp only[n7,simprocAttr,g2,aG3,s1];refine L6 results98 (by simp only[p6,simprocAttr];exact g2) s2 ?_;exact⟨by rw[hF],s3⟩
 have hlt:m<l.length:=by simpa using hc
 have hin:=hL.inS hlt;obtain⟨sv,hsv,hld⟩:=E4 (P:=prog) (t:=121) hL (b7 hx5) (dq7 hlt) ab1 ab2 Z1 I7;rw[I7]at hld;have hwit:=hwl _ (dr5 hlt);obtain⟨c,wz2,w6,hal6,hst6,hx6,hati⟩:=az6 (hsv.mono (b7 hx5)) (d7 _);obtain⟨hats,_,_⟩:=hati.it;obtain⟨vt,hvt,ldT,_⟩:=hats.st_v;obtain⟨_,_,_,_,_,_,_,_,_,ldt,_⟩:=hats.st;have hx26:=hx25.trans hx6;have k1:=lw w6 (hlw _ hx26);have k2:=ldt w6 (d7 _);have k3:=ldT w6 (d7 _);have hend:∀w7,o7 w6 w7→(decide (l[m].s.kind=4) && !ad3 p l[m].s)=false→∃s:Nat,l.length-s<l.length-m∧(Value.int .i64 (IntKind.i64.wrap ((m:Int)+1))) = .int .i64 s∧s≤l.length∧(∀j (hj:j<l.length),j<s→(decide (l[j].s.kind=4) && !ad3 p l[j].s)=false)∧o7 w4 w7:=fun w7 hx7 hq=>by
  refine⟨m+1,by omega,by rw[A8 m (by omega)],by omega,fun j hj hjm=>?_,hx5.trans (hx6.trans hx7)⟩;rcases dv3 j m with h|h
  ·exact hno j hj h
  ·obtain rfl:j=m:=by omega
   exact hq
 rcases dq8 (decide (l[m].s.kind=4))with hk4|hk4
 ·simp only[n7,n8,z6,simprocAttr,h16,g1,g14,hin,hld,hal6,hst6,k1,k2,k3,hk4];refine B2 (cu4 v vt p l[m].s w6 (hv.mono (b7 (hx12.trans hx26))) hvt hw hwit) (fun w7 hx7=>?_);rcases dq8 (ad3 p l[m].s)with hq|hq
  ·simp only[n7,n8,simprocAttr,hq,h16];exact hend w7 hx7 (by rw[hk4,hq];rfl)
  ·have k4:=ldt w7 (b7 hx7);obtain⟨w9,s1,s2,s3⟩:=hret w7 (hx26.trans hx7) (6,l[m].s.id);simp only[n7,n8,simprocAttr,hq,k4,g2,au1,s1];refine L6 results98 (by simp only[p6,simprocAttr];exact g2) s2 ?_;have hfind:l.find? (fun it=>decide (it.s.kind=4) && !ad3 p it.s)=some l[m]:=dz3.2 ⟨by rw[hk4,hq];rfl,m,hlt,rfl,fun j hj=>by rw[hno j (by omega) hj];rfl⟩;rw[hfind]at hF;exact⟨by rw[hF],s3⟩
 ·simp only[n7,n8,z6,simprocAttr,h16,g14,hin,hld,hal6,hst6,k2,hk4];exact hend w6 (t8.refl _) (by rw[hk4];rfl)
def dz0:=@List.pairwise_iff_getElem
def zVC:=zJ (zJ (zJ (zJ (zJ @db0 @da7) (zJ @cY9 (zJ @Option.map_some.{0,0} @Option.map_none.{0,0}))) (zJ (zJ @Int.toNat_zero (zJ @Option.isNone_none.{0} @Option.isNone_some.{0})) (zJ @K0 (zJ @bz7.eq_1 @bz7.eq_2)))) (zJ (zJ (zJ @cG6.eq_1 (zJ @cx3.eq_1 @cx2.eq_1)) (zJ @TY (zJ @Option.isSome_some.{0} @dy1))) (zJ (zJ @Bool.and_true (zJ @dA7 @dt5)) (zJ @dl6 (zJ @Int.cast_ofNat_Int @decide_true))))) (zJ (zJ (zJ (zJ @add_lit (zJ @du4 @Nat.zero_mul)) (zJ @Nat.one_mul (zJ @Bool.not_true @Bool.not_false))) (zJ (zJ @dl7 (zJ @cZ9 @dh9)) (zJ @dh8 (zJ @dh7 @dh6)))) (zJ (zJ (zJ @dh5 (zJ @di2 @dh3)) (zJ @di3 (zJ @cX8 @cX7))) (zJ (zJ @dh4 (zJ @di1 @bY2)) (zJ @cG1 (zJ @di0 @do1)))))
theorem ldB{h:Hp}{v:Value}{l:List Bool}{w:World}(hv:R h v l)(hw:B5 h (i4 w)){k:Nat}(hk:k<l.length):(Instr.loadAt 4 (.pointer (some (H2 v k)))).run prog w = .ok (.bool l[k]) w:=
 M8 (P:=prog) (t:=4) hv hw (dq7 hk) ak1
theorem ao7(v:Value)(l:List A7)(w:World)(hv:R (i4 w) v l)(hl:l.length≤1000000000):
  p7 prog 66 #[v] w fun u w'=>(B0 (i4 w) w' 9 u l∧o7 w w'):=by
 refine p8 [v] func66 rfl ?_;have hS:=hv.isS;have hb:B6 prog .eql 22 v (.slice none 0 0)=some (.bool (bJ2 v)):=by
  obtain⟨a,n,c,he,_⟩:=hv;simp at he;subst he;simp[B6,Go.Proofs.YtcbnbgpphippoaaGreat.isS,de7]
 obtain⟨u0,w0,hb0,ho0,hx0,hf0⟩:=da1 (P:=prog) (w:=w) (h:=i4 w) (α:=A7) ar6 (d7 _);obtain⟨u1,w1,ha,ho1,hm1,hv1⟩:=ag3 (P:=prog) (e:=22) ar6 rfl ho0 hv (by simp;omega) (by simp;omega) (b7 hx0);rcases dq8 (bJ2 v)with hc|hc
 ·simp only[n7,n8,simprocAttr,hb,hc];refine o6 results66 ?_;simp only[p6,simprocAttr];obtain⟨a,n,c,he,hn,hnc,es,hes,hce⟩:=hv;simp at he;subst he;cases a with
  | some a=>simp[bJ2]at hc
  | none=>
   have hes0:es=[]:=by
    cases es with
    | nil=>rfl
    | cons x _=>obtain⟨ad,e,_⟩:=hce 0 x rfl;cases e
   subst hes0;have:=J9 hes;have hl0:l=[]:=by
    cases l with
    | nil=>rfl
    | cons _ _=>simp[A3.sz]at this
   subst hl0;exact⟨B0.nil _ _ _,t8.refl _⟩
 ·simp only[n7,n8,simprocAttr,hb,hc,hb0,ha];refine o6 results66 ?_;simp only[p6,simprocAttr];exact⟨by simpa using ho1,ho0.ext2 hx0 hm1⟩
theorem bk0{α:Type}:∀{l m:List α},l.length=m.length→(∀j (h1:j<l.length) (h2:j<m.length),l[j]=m[j])→l=m:=fun{l m} h1 h2=>dy6 h1 fun j h3 h4=>h2 j h3 h4
theorem bh7(va vb:Value)(a b:List A7)(w:World)(ha:R (i4 w) va a)(hb:R (i4 w) vb b)(h1:a.length≤1000000000)(h2:b.length≤1000000000):
  p7 prog 77 #[va,vb] w fun u w'=>(u = .bool (decide (a=b))∧o7 w w'):=by
 refine p8 [va,vb] func77 rfl ?_;have hSa:=ha.isS;have hna:=ha.vlen;have hSb:=hb.isS;have hnb:=hb.vlen;have hdn:decide ((a.length:Int)=(b.length:Int))=decide (a.length=b.length):=by rw[dv1];omega
 rcases dq8 (decide (a.length=b.length))with hlen|hlen;rotate_left
 ·simp only[n7,n8,simprocAttr,hSa,hna,hSb,hnb,hdn,hlen];refine o6 results77 ?_;simp only[p6,simprocAttr];have:a≠b:=fun e=>dr2 hlen (ds7 List.length e);exact⟨by simp[this],t8.refl _⟩
 have hlen':a.length=b.length:=dr0 hlen;simp only[n7,n8,simprocAttr,hSa,hna,hSb,hnb,hdn,hlen];refine n9 [0,1,11,12] (σ:=Nat) (fun k f w'=>f 13 = .int .i64 k∧k≤a.length∧(∀j (hj:j<a.length) (hj2:j<b.length),j<k→a[j]=b[j])∧o7 w w') (fun k=>a.length-k) 0 ?_ ?_
 ·simp only[p6,simprocAttr];exact⟨by trivial,dr8 _,fun j _ _ h=>by omega,t8.refl _⟩
 rintro k f w3 hk ⟨h13,hkl,hno,hx3⟩;simp only[dq9,p6,simprocAttr]at hk;obtain⟨e0,e1,e11,e12,_⟩:=hk;simp only[n7,n8,simprocAttr,h13,e12];refine m8 (fun hc=>?_) (fun hc=>?_);rotate_left
 ·have hge:k=a.length:=by simp at hc;omega
  subst hge;simp only[n7,simprocAttr];refine o6 results77 ?_;simp only[p6,simprocAttr];have:a=b:=bk0 hlen' fun j h1 h2=>hno j h1 h2 h1;exact⟨by simp[this],hx3⟩
 have hlt:k<a.length:=by simpa using hc
 have hlt2:k<b.length:=by omega
 have hin:=ha.inS hlt;have hin2:=hb.inS hlt2;have hst:∀w',o7 w3.drew w'→B5 (i4 w) (i4 w'):=fun w' h=>b7 (hx3.trans ((o7.drew w3).trans h));have k1:∀K f d w0,I1 prog (fun w'=>o7 w3.drew w') (Instr.loadAt 9 (.pointer (some (H2 va k)))) K f d w0=K (C4 f d (o9 a[k])) w0:=fun K f d w0=>D5 (w0:=w3.drew) (t8.refl _) fun w' h=>ldS ha (hst w' h) hlt;have k2:∀K f d w0,I1 prog (fun w'=>o7 w3.drew w') (Instr.loadAt 9 (.pointer (some (H2 vb k)))) K f d w0=K (C4 f d (o9 b[k])) w0:=fun K f d w0=>D5 (w0:=w3.drew) (t8.refl _) fun w' h=>ldS hb (hst w' h) hlt2;have hbb:(a[k]==b[k])=decide (a[k]=b[k]):=rfl;simp only[n7,simprocAttr,h13];refine C0 (fun w'=>o7 w3.drew w') 9 (A9 [0,1,2,3,4,5,6,7,8]) ?_;rcases dq8 (decide (a[k]=b[k]))with hq|hq
 ·simp only[D2,A9,n7,n8,z6,simprocAttr,e0,e1,hin,hin2,k1,k2,hq,h13];refine⟨k+1,by omega,by rw[A8 k (by omega)],by omega,fun j hj hj2 hjk=>?_,hx3.trans (o7.drew _)⟩;rcases dv3 j k with h|h
  ·exact hno j hj hj2 h
  ·obtain rfl:j=k:=by omega
   exact dr0 hq
 ·simp only[D2,A9,n7,n8,z6,simprocAttr,e0,e1,hin,hin2,k1,k2,hq];refine o6 results77 ?_;simp only[p6,simprocAttr];have:a≠b:=fun e=>dr2 hq (by subst e;rfl);exact⟨by simp[this],hx3.trans (o7.drew _)⟩
theorem bQ0(va vb:Value)(a b:List Bool)(w:World)(ha:R (i4 w) va a)(hb:R (i4 w) vb b)(h1:a.length≤1000000000)(h2:b.length≤1000000000):
  p7 prog 168 #[va,vb] w fun u w'=>(u = .bool (decide (a=b))∧o7 w w'):=by
 refine p8 [va,vb] func168 rfl ?_;have hSa:=ha.isS;have hna:=ha.vlen;have hSb:=hb.isS;have hnb:=hb.vlen;have hdn:decide ((a.length:Int)=(b.length:Int))=decide (a.length=b.length):=by rw[dv1];omega
 rcases dq8 (decide (a.length=b.length))with hlen|hlen;rotate_left
 ·simp only[n7,n8,simprocAttr,hSa,hna,hSb,hnb,hdn,hlen];refine o6 results168 ?_;simp only[p6,simprocAttr];have:a≠b:=fun e=>dr2 hlen (ds7 List.length e);exact⟨by simp[this],t8.refl _⟩
 have hlen':a.length=b.length:=dr0 hlen;simp only[n7,n8,simprocAttr,hSa,hna,hSb,hnb,hdn,hlen];refine n9 [0,1,11,12] (σ:=Nat) (fun k f w'=>f 13 = .int .i64 k∧k≤a.length∧(∀j (hj:j<a.length) (hj2:j<b.length),j<k→a[j]=b[j])∧o7 w w') (fun k=>a.length-k) 0 ?_ ?_
 ·simp only[p6,simprocAttr];exact⟨by trivial,dr8 _,fun j _ _ h=>by omega,t8.refl _⟩
 rintro k f w3 hk ⟨h13,hkl,hno,hx3⟩;simp only[dq9,p6,simprocAttr]at hk;obtain⟨e0,e1,e11,e12,_⟩:=hk;simp only[n7,n8,simprocAttr,h13,e12];refine m8 (fun hc=>?_) (fun hc=>?_);rotate_left
 ·have hge:k=a.length:=by simp at hc;omega
  subst hge;simp only[n7,simprocAttr];refine o6 results168 ?_;simp only[p6,simprocAttr];have:a=b:=bk0 hlen' fun j h1 h2=>hno j h1 h2 h1;exact⟨by simp[this],hx3⟩
 have hlt:k<a.length:=by simpa using hc
 have hlt2:k<b.length:=by omega
 have hin:=ha.inS hlt;have hin2:=hb.inS hlt2;have hst:∀w',o7 w3.drew w'→B5 (i4 w) (i4 w'):=fun w' h=>b7 (hx3.trans ((o7.drew w3).trans h));have k1:∀K f d w0,I1 prog (fun w'=>o7 w3.drew w') (Instr.loadAt 4 (.pointer (some (H2 va k)))) K f d w0=K (C4 f d (.bool a[k])) w0:=fun K f d w0=>D5 (w0:=w3.drew) (t8.refl _) fun w' h=>ldB ha (hst w' h) hlt;have k2:∀K f d w0,I1 prog (fun w'=>o7 w3.drew w') (Instr.loadAt 4 (.pointer (some (H2 vb k)))) K f d w0=K (C4 f d (.bool b[k])) w0:=fun K f d w0=>D5 (w0:=w3.drew) (t8.refl _) fun w' h=>ldB hb (hst w' h) hlt2;have hbb:(a[k]==b[k])=decide (a[k]=b[k]):=rfl;simp only[n7,simprocAttr,h13];refine C0 (fun w'=>o7 w3.drew w') 9 (A9 [0,1,2,3,4,5,6,7,8]) ?_;rcases dq8 (decide (a[k]=b[k]))with hq|hq
 ·simp only[D2,A9,n7,n8,z6,simprocAttr,e0,e1,hin,hin2,k1,k2,be0,hbb,hq,h13];refine⟨k+1,by omega,by rw[A8 k (by omega)],by omega,fun j hj hj2 hjk=>?_,hx3.trans (o7.drew _)⟩;rcases dv3 j k with h|h
  ·exact hno j hj hj2 h
  ·obtain rfl:j=k:=by omega
   exact dr0 hq
 ·simp only[D2,A9,n7,n8,z6,simprocAttr,e0,e1,hin,hin2,k1,k2,be0,hbb,hq];refine o6 results168 ?_;simp only[p6,simprocAttr];have:a≠b:=fun e=>dr2 hq (by subst e;rfl);exact⟨by simp[this],hx3.trans (o7.drew _)⟩
theorem bk4(s:A7)(w:World):p7 prog 140 #[o9 s] w fun u w'=>(u = .bool false∧w'=w):=by
 refine p8 [o9 s] func140 rfl ?_;have hd:decide (s=s)=true:=by simp
 simp only[n7,n8,simprocAttr];refine o6 results140 ?_;simp only[p6,simprocAttr];exact⟨by trivial,by trivial⟩
theorem cm2(s:A7)(w:World):p7 prog 199 #[o9 s] w fun u w'=>(u = .bool false∧w'=w):=by
 refine p8 [o9 s] func199 rfl ?_;have hd:decide (s=s)=true:=by simp
 simp only[n7,n8,simprocAttr];refine o6 results199 ?_;simp only[p6,simprocAttr];exact⟨by trivial,by trivial⟩
theorem cl0(a b:A7)(w:World):p7 prog 176 #[o9 a,o9 b] w fun u w'=>(u = .bool (ltS a b)∧w'=w):=by
 refine p8 [o9 a,o9 b] func176 rfl ?_;simp only[n7,n8,simprocAttr];refine C7 (bk4 a w) ?_;simp only[n7,n8,simprocAttr];refine o6 results176 ?_;simp only[p6,simprocAttr];exact⟨by trivial,by trivial⟩
theorem cG8{n:Nat}(h:n<4000000000000000000):aZ0 prog 3 165 (.int .i64 n)=some (.int .u64 n):=by
 have h1:cI6 prog 165=some .u64:=by kernel_rfl
 have h2:(prog.underlying 3).isSome=true:=by kernel_rfl
 simp only[aZ0,h1,h2,dx1]
 congr 2
 have:(n:Int) % 18446744073709551616=n:=by omega
 simp[IntKind.wrap,IntKind.bits,IntKind.signed];omega
theorem cG9{n:Nat}(h:n<4000000000000000000):aZ0 prog 165 3 (.int .u64 n)=some (.int .i64 n):=by
 have h1:cI6 prog 3=some .i64:=by kernel_rfl
 have h2:(prog.underlying 165).isSome=true:=by kernel_rfl
 simp only[aZ0,h1,h2,dx1]
 congr 2
 exact K6 _ (by omega)
theorem dc6{P:Program}{t:TypeId}{n:Nat}:B6 P .shr t (.int .u64 n) (.int .u64 1)=some (.int .u64 (n / 2:Nat)):=by
 simp only[B6];rw[if_neg (by decide)]
 congr 2
 have:min (Int.toNat 1) IntKind.u64.bits=1:=by decide
 rw[this,Int.fdiv_eq_ediv_of_nonneg _ (by decide)]
 norm_cast
theorem bK7(v:Value)(l:List A7)(x:A7)(w:World)(hv:R (i4 w) v l)(hl:l.length≤1000000000)(hs:l.Pairwise (fun a b=>ltS a b=true)):
  p7 prog 137 #[v,o9 x] w fun u w'=>(∃i:Int,u = .tuple #[.int .i64 i,.bool (l.contains x)]∧w'=w):=by
 refine p8 [v,o9 x] func137 rfl ?_;have hS:=hv.isS;have hn:=hv.vlen;have hs':=dz0.1 hs;simp only[n7,n8,simprocAttr,hS,hn];refine n9 [0,1,6] (σ:=Nat×Nat) (fun s f w'=>f 7 = .int .i64 s.1∧f 8 = .int .i64 s.2∧s.1≤s.2∧s.2≤l.length∧(∀j (hj:j<l.length),j<s.1→ltS l[j] x=true)∧(∀j (hj:j<l.length),s.2≤j→ltS l[j] x=false)∧w'=w) (fun s=>s.2-s.1) (0,l.length) ?_ ?_
 ·simp only[p6,simprocAttr];exact⟨by trivial,by trivial,dr8 _,ds5 _,fun j _ h=>by omega,fun j hj h=>by omega,by trivial⟩
 rintro⟨i,j⟩ f w2 hk ⟨h7,h8,hij,hjl,hlo,hhi,rfl⟩;simp only at h7 h8 hij hjl hlo hhi;simp only[dq9,p6,simprocAttr]at hk;obtain⟨e0,e1,e6,_⟩:=hk;simp only[n7,n8,simprocAttr,h7,h8];refine m8 (fun hc=>?_) (fun hc=>?_)
 ·have hlt:i<j:=by simpa using hc
  have hw1:IntKind.i64.wrap ((i:Int)+(j:Int))=((i+j:Nat):Int):=by rw[K6 _ (by omega)];omega
  have hm:(i+j) / 2<l.length:=by omega
  have hin:=hv.inS hm;have hld:=ldS hv (d7 _) hm;have cv1:=cG8 (n:=i+j) (by omega);have cv2:=cG9 (n:=(i+j) / 2) (by omega);generalize hM:(i+j) / 2=m at hm hin hld cv2;have hsh:B6 prog .shr 165 (.int .u64 ((i+j:Nat):Int)) (.int .u64 1)=some (.int .u64 (m:Nat)):=by rw[dc6,hM]
  simp only[n7,zVC,z6,simprocAttr,h7,h8,hw1,cv1,hsh,cv2,e0,e1,hin,hld];refine C7 (cl0 l[m] x w2) ?_;rcases dq8 (ltS l[m] x)with hq|hq
  ·simp only[n7,n8,simprocAttr,hq,h8];refine⟨(m+1,j),by simp only[];omega,by simp only[];rw[A8 m (by omega)],by trivial,by simp only[];omega,by simp only[];omega,fun k hk hkm=>?_,hhi,by trivial⟩;simp only at hkm;rcases dv3 k m with h|h
   ·exact an2 (hs' k m hk hm h) hq
   ·obtain rfl:k=m:=by omega
    exact hq
  ·simp only[n7,simprocAttr,hq,h7];refine⟨(i,m),by simp only[];omega,by trivial,by trivial,by simp only[];omega,by simp only[];omega,hlo,fun k hk hkm=>?_,by trivial⟩;simp only at hkm;rcases dv3 m k with h|h
   ·cases hz:ltS l[k] x
    ·rfl
    ·have:=an2 (hs' m k hm hk h) hz;rw[hq]at this;cases this
   ·obtain rfl:k=m:=by omega
    exact hq
 ·have hge:i=j:=by simp at hc;omega
  subst hge;rcases dq8 (decide ((i:Int)<(l.length:Int)))with hlt|hlt
  ·have hi:i<l.length:=by simpa using hlt
   have hin:=hv.inS hi;have hld:=ldS hv (d7 _) hi;rcases dq8 (decide (l[i]=x))with hq|hq
   ·have hc2:l.contains x=true:=dt6.2 (by rw[←dr0 hq];exact dr5 hi);simp only[n7,n8,z6,simprocAttr,h7,e0,e1,e6,hlt,hin,hld,hq];refine af0 results137 ?_;simp only[p6,simprocAttr];exact⟨i,by rw[hc2],by trivial⟩
   ·have hc2:l.contains x=false:=by
     cases hz:l.contains x
     ·rfl
     ·obtain⟨k,hk,e⟩:=dw5.1 (dt6.1 hz);rcases Nat.lt_trichotomy k i with h|h|h
      ·have:=hlo k hk h;rw[e,N2]at this;cases this
      ·subst h;exact absurd e (dr2 hq)
      ·have h2:=hs' i k hi hk h;rw[e,hhi i hi (ds5 _)]at h2;cases h2
    simp only[n7,n8,z6,simprocAttr,h7,e0,e1,e6,hlt,hin,hld,hq];refine C7 (cm2 l[i] w2) ?_;simp only[n7,simprocAttr];refine af0 results137 ?_;simp only[p6,simprocAttr];exact⟨i,by rw[hc2],by trivial⟩
  ·have hc2:l.contains x=false:=by
    cases hz:l.contains x
    ·rfl
    ·obtain⟨k,hk,e⟩:=dw5.1 (dt6.1 hz);have:=hlo k hk (by simp at hlt;omega);rw[e,N2]at this;cases this
   simp only[n7,n8,simprocAttr,h7,e6,hlt];refine af0 results137 ?_;simp only[p6,simprocAttr];exact⟨i,by rw[hc2],by trivial⟩
theorem ab9(v:Value)(l:List A7)(x:A7)(w:World)(hv:R (i4 w) v l)(hl:l.length≤1000000000)(hs:l.Pairwise (fun a b=>ltS a b=true)):
  p7 prog 87 #[v,o9 x] w fun u w'=>(u = .bool (l.contains x)∧w'=w):=by
 refine p8 [v,o9 x] func87 rfl ?_;simp only[n7,n8,simprocAttr];refine z7 (bK7 v l x w hv hl hs) ?_;rintro u w2 ⟨i,rfl,rfl⟩;simp only[n7,simprocAttr];refine o6 results87 ?_;simp only[p6,simprocAttr];exact⟨by trivial,by trivial⟩
mutual
theorem cj0:∀(t:St) (k:Nat) (pr up nx lp:Int),∀it∈V4 t k pr up nx lp,it.proc=pr
 | .mk id kind labels name proc x has args thn els,k,pr,up,nx,lp,it,h=>by
  rw[P5]at h;rcases dt1.1 h with rfl|h
  ·rfl
  ·rcases ds4.1 h with h|h
   ·exact aw9 thn _ _ _ _ _ it h
   ·exact aw9 els _ _ _ _ _ it h
theorem aw9:∀(l:List St) (k:Nat) (pr up nx lp:Int),∀it∈C2 l k pr up nx lp,it.proc=pr
 | [],_,_,_,_,_,it,h=>by simp[C2]at h
 | t::l,k,pr,up,nx,lp,it,h=>by
  rw[C2]at h;rcases ds4.1 h with h|h
  ·exact cj0 t _ _ _ _ _ it h
  ·exact aw9 l _ _ _ _ _ it h
end
theorem bB2(p:Pg)(hw:D1 p≤1000000)(i:Nat)(hi:i<p.procs.length):∀it∈(b9 p).of i,it.proc=(i:Int):=fun it h=>by
 obtain⟨x,_,e⟩:=V7 p hw i hi;rw[e]at h;exact aw9 _ _ _ _ _ _ it h
theorem bS3(v:Value)(p:Pg)(w:World)(hv:SV (i4 w) v p)(hw:D1 p≤1000000):p7 prog 151 #[v] w fun u w'=>((if(O5 p).1=0 then ∃a,u = .pointer (some a)∧At (i4 w') a (b9 p)else u = .pointer none)∧o7 w w'):=by
 refine p8 [v] func151 rfl ?_;obtain⟨a,w1,hbx,hx1,ha⟩:=W7 (w:=w) (fun _=>False) hv (fun _ h=>h.elim);obtain⟨lw,_⟩:=I2.pg_v hv ha;have hlw:∀w',o7 w1 w'→B5 (B7 w1 fun _=>False) (i4 w'):=fun w' h=>p9 (B3 _ _) (b7 h);have lw1:=lw w1 (hlw _ (t8.refl _));simp only[n7,n8,simprocAttr,hbx,lw1];refine B2 (ad8 v p w1 (hv.mono (b7 hx1)) hw) (fun w3 hx3=>?_);rcases dq8 (decide ((O5 p).1=0))with hsc|hsc;rotate_left
 ·simp only[n7,n8,simprocAttr,al5,hsc];refine o6 results151 ?_;simp only[p6,simprocAttr];exact⟨by rw[if_neg (dr2 hsc)];trivial,hx1.trans hx3⟩
 have lw3:=lw w3 (hlw _ hx3);simp only[n7,n8,simprocAttr,al5,hsc,lw3];refine z7 (ai1 v p w3 (hv.mono (b7 (hx1.trans hx3))) hw) ?_;rintro us w4 ⟨sh,rfl,hsh,hx4⟩;simp only[n7,simprocAttr];refine o6 results151 ?_;simp only[p6,simprocAttr];exact⟨by rw[if_pos (dr0 hsc)];exact⟨sh,rfl,hsh⟩,hx1.trans (hx3.trans hx4)⟩
theorem bt9(v vl:Value)(seen l:List A7)(h:Hp)(w:World)(ho:B0 h w 9 v seen)(hl:R h vl l)(hh:B5 h (i4 w))(h1:seen.length+l.length≤1000000):
  p7 prog 152 #[v,vl] w fun u w'=>((∃u' ok,u = .tuple #[u',.bool ok]∧ok=(ap6 seen l).isSome∧∀s,ap6 seen l=some s→B0 h w' 9 u' s∧s.length=seen.length+l.length)∧t8 (A4 v) w w'):=by
 refine p8 [v,vl] func152 rfl ?_;have hS:=hl.isS;have hn:=hl.vlen;simp only[n7,n8,simprocAttr,hS,hn];refine n9 [8,9] (σ:=Nat×Value×List A7) (fun s f w'=>f 10 = .int .i64 s.1∧f 0=s.2.1∧s.1≤l.length∧B0 h w' 9 s.2.1 s.2.2∧ap6 seen l=ap6 s.2.2 (l.drop s.1)∧s.2.2.length=seen.length+s.1∧t8 (A4 v) w w'∧D7 w v s.2.1) (fun s=>l.length-s.1) (0,v,seen) ?_ ?_
 ·simp only[p6,simprocAttr];exact⟨by trivial,by trivial,dr8 _,ho,by rw[dA1],rfl,t8.refl _,fun b hb=>.inl hb⟩
 rintro⟨k,u,s⟩ f w2 hk ⟨h10,h0,hkl,ho2,hj,hlen,hm2,hmv⟩;simp only at h10 h0 hkl ho2 hj hlen hmv;simp only[dq9,p6,simprocAttr]at hk;obtain⟨e8,e9,_⟩:=hk;have hh2:B5 h (i4 w2):=H9 hh hm2 fun b hb=>ho.free hb;simp only[n7,n8,simprocAttr,h10,e9];refine m8 (fun hc=>?_) (fun hc=>?_);rotate_left
 ·have hge:k=l.length:=by simp at hc;omega
  subst hge;rw[dA0,ap6]at hj;simp only[n7,simprocAttr,h0];refine af0 results152 ?_;simp only[p6,simprocAttr];refine⟨⟨u,true,rfl,by rw[hj];rfl,fun s' hs'=>?_⟩,hm2⟩;rw[hj]at hs';obtain rfl:=ds8 hs';exact⟨ho2,hlen⟩
 have hlt:k<l.length:=by simpa using hc
 have hin:=hl.inS hlt;have hld:=ldS hl hh2 hlt;rw[du8 hlt,ap6]at hj;generalize l[k]=n at hld hj;simp only[n7,n8,z6,simprocAttr,h10,h0,e8,hin,hld];refine C7 (O3 u s n w2 (ho2.rw_ hh2) (by omega)) ?_;rcases dq8 (s.contains n)with hq|hq
 ·simp only[n7,simprocAttr,hq,h0];refine af0 results152 ?_;simp only[p6,simprocAttr];refine⟨⟨u,false,rfl,by rw[hj,if_pos hq];rfl,fun s' hs'=>?_⟩,hm2⟩;rw[hj,if_pos hq]at hs';cases hs'
 ·obtain⟨p1,u',w3,p2,p3,p4,p5⟩:=push (e:=22) ar6 rfl ho2 (x:=o9 n) (y:=n) rfl (by omega) (by omega) hh2;rw[if_neg (by rw[hq];simp)]at hj;simp only[n7,n8,simprocAttr,hq,h0,h10,p1,p2];refine⟨(k+1,u',s++[n]),by simp only[];omega,by simp only[];rw[A8 k (by omega)],by trivial,by simp only[];omega,p3,hj,by simp only[dr1,du0];omega,hm2.chain p4 fun b hb hbu=>?_,fun b hb=>?_⟩
  ·rcases hmv b hbu with h|h
   ·exact h
   ·omega
  ·rcases p5 b hb with h|h
   ·exact hmv b h
   ·exact .inr (dr7 hm2.size h)
theorem ck8(a:Addr)(vit:Value)(s:Sh)(it:It)(i x y:Nat)(w:World)(hs:At (i4 w) a s)(hit:SV (i4 w) vit it)(hpr:it.proc=(i:Int))(hok:bo8 s i x y)(hip:i<s.p.procs.length)(hwt:∀it∈s.l,O6 it.s≤1000000)(hwf:∀f∈s.p.procs,U2 f≤1000000):
  p7 prog 153 #[.pointer (some a),vit] w fun u w'=>(u = .bool (ap8 s it)∧o7 w w'):=by
 refine p8 [.pointer (some a),vit] func153 rfl ?_;obtain⟨b,w1,hb1,hx1,hat⟩:=bY5 hit (d7 _);obtain⟨hats,ldi,_⟩:=hat.it;obtain⟨_,_,_,_,_,_,_,_,_,ldt,_⟩:=hats.st;have li:=ldi w1 (d7 _);have lt:=ldt w1 (d7 _);rw[hpr]at li;rcases dq8 (decide (it.s.kind=7))with h7|h7
 ·simp only[n7,n8,simprocAttr,hb1,li,lt,h7];refine o6 results153 ?_;simp only[p6,simprocAttr];exact⟨by rw[ap8,if_pos (.inl (dr0 h7))],hx1⟩
 rcases dq8 (decide (it.s.kind=8))with h8|h8
 ·simp only[n7,n8,simprocAttr,hb1,li,lt,h7,h8];refine o6 results153 ?_;simp only[p6,simprocAttr];exact⟨by rw[ap8,if_pos (.inr (dr0 h8))],hx1⟩
 have hF:ap8 s it=if it.s.kind=10 then(s.at it.proc it.s.name).isSome else true:=by
  rw[ap8,if_neg];rintro(h|h)
  ·exact dr2 h7 h
  ·exact dr2 h8 h
 rcases dq8 (decide (it.s.kind=10))with h10|h10
 ·simp only[n7,n8,simprocAttr,hb1,li,lt,h7,h8,h10];refine B2 (bL0 a s i x y it.s.name w1 (hs.mono (b7 hx1)) hok hip hwt hwf) (fun w2 hx2=>?_);rw[if_pos (dr0 h10),hpr]at hF;cases hq:s.at i it.s.name
  ·simp only[n7,simprocAttr,bJ4];refine o6 results153 ?_;simp only[p6,simprocAttr];exact⟨by rw[hF,hq];rfl,hx1.trans hx2⟩
  ·simp only[n7,simprocAttr,bJ4];refine o6 results153 ?_;simp only[p6,simprocAttr];exact⟨by rw[hF,hq];rfl,hx1.trans hx2⟩
 ·rw[if_neg (dr2 h10)]at hF;simp only[n7,n8,simprocAttr,hb1,lt,h7,h8,h10];refine o6 results153 ?_;simp only[p6,simprocAttr];exact⟨by rw[hF],hx1⟩
theorem cu1:eqT prog 89=2:=by kernel_rfl
theorem bb2(p:Pg)(hw:D1 p≤1000000)(i:Nat)(hi:i<p.procs.length):(∀it∈(b9 p).of i,it∈(b9 p).l)∧((b9 p).of i).length≤400000:=by
 obtain⟨x,hok,_⟩:=V7 p hw i hi;have h1:=an6 p;have h2:=bz1 p;refine⟨fun it h=>?_,?_⟩
 ·rw[hok.of_]at h;exact dz5 (dB8 h)
 ·rw[hok.of_,dy7,ds3];omega
def aE1(l:List It):Nat:=(l.map fun it=>it.s.labels.length).sum
theorem bI2(l m:List It):aE1 (l++m)=aE1 l+aE1 m:=by simp[aE1]
theorem bu0(x:It)(m:List It):aE1 (x::m)=x.s.labels.length+aE1 m:=by simp[aE1]
mutual
theorem cI7:∀(t:St) (k:Nat) (pr up nx lp:Int),aE1 (V4 t k pr up nx lp)≤O6 t
 | .mk id kind labels name proc x has args thn els,k,pr,up,nx,lp=>by
  rw[P5,bu0,bI2,O6];have h2:=fun k' nx' lp'=>aP7 els k' pr (k+1) nx' lp';have h3:=Q7 labels;have h4:=fun k' nx' lp'=>aP7 thn k' pr (k+1) nx' lp';simp only[St.labels,St.thn,St.els];refine dr7 (Nat.add_le_add_left (Nat.add_le_add (h4 _ _ _) (h2 _ _ _)) _) ?_;omega
theorem aP7:∀(l:List St) (k:Nat) (pr up nx lp:Int),aE1 (C2 l k pr up nx lp)≤G3 l
 | [],_,_,_,_,_=>by simp[C2,aE1]
 | t::l,k,pr,up,nx,lp=>by
  rw[C2,bI2,G3];exact Nat.add_le_add (cI7 t _ _ _ _ _) (aP7 l _ _ _ _ _)
end
theorem cJ3(p:Pg)(hw:D1 p≤1000000)(i:Nat)(hi:i<p.procs.length):aE1 ((b9 p).of i)+p.procs[i].fin.length≤1000000:=by
 obtain⟨x,_,e⟩:=V7 p hw i hi;have h1:=aP7 p.procs[i].body x i 0 (-1) 0;have h2:=aq7 p hw _ (dr5 hi);have h3:=Q7 p.procs[i].fin;unfold U2 at h2;rw[e];omega
theorem ck7{l:List It}{m:Nat}(h:m<l.length):aE1 (l.drop m)=l[m].s.labels.length+aE1 (l.drop (m+1)):=by
 rw[du8 h,bu0]
theorem bq3(v:Value)(p:Pg)(w:World)(hv:SV (i4 w) v p)(hw:D1 p≤1000000):p7 prog 99 #[v] w fun u w'=>(u=T2 (aA4 p)∧o7 w w'):=by
 refine p8 [v] func99 rfl ?_;obtain⟨a,w1,hbx,hx1,ha⟩:=W7 (w:=w) (fun _=>False) hv (fun _ h=>h.elim);obtain⟨vg,vp,hg,hp,ld,_⟩:=I2.pg hv ha;obtain⟨lw,_⟩:=I2.pg_v hv ha;obtain⟨rb,w2,hal,hx2,hrb,hge1⟩:=at9 w1;have hge:w.heap.size≤rb:=dr7 hx1.size hge1;have hx12:=hx1.trans hx2;have hlw:∀w',o7 w2 w'→B5 (B7 w1 fun _=>False) (i4 w'):=fun w' h=>p9 (B3 _ _) (b7 (hx2.trans h));have lw2:=lw w2 (hlw _ (t8.refl _));have hret:=fun(w':World) (h:o7 w2 w')=>am9 hrb h hge hx12;simp only[n7,n8,simprocAttr,hbx,hal,lw2];refine z7 (bS3 v p w2 (hv.mono (b7 hx12)) hw) ?_;rintro us w3 ⟨hus,hx3⟩;rcases dq8 (decide ((O5 p).1=0))with hsc|hsc;rotate_left
 ·rw[if_neg (dr2 hsc)]at hus;subst hus;obtain⟨w9,s1,s2,s3⟩:=hret w3 hx3 (1,0);simp only[n7,n8,simprocAttr,bg2 rfl cu1,P4,s1];refine L6 results99 (by simp only[p6,simprocAttr]) s2 ?_;exact⟨by rw[aA4,if_pos (dr2 hsc)],s3⟩
 rw[if_pos (dr0 hsc)]at hus;obtain⟨sh,rfl,hsh⟩:=hus;have hF:aA4 p=(P6 (b9 p) 0 p.procs).getD (0,0):=by rw[aA4,if_neg (by simpa using hsc)]
 have l3:=ld w3 (hlw _ hx3);have hS:=hp.isS;have hn:=hp.vlen;have hpp:=J0 p;have hwl:=Z5 p hw;have hwf:=aq7 p hw;have hpl:p.procs.length≤1000000:=by
  have:=ac9 p.procs;unfold D1 at hw;omega
 simp only[n7,n8,simprocAttr,bg2 rfl cu1,l3,hS,hn];refine n9 [1,2,3,16,17] (σ:=Nat) (fun k f w'=>f 18 = .int .i64 k∧k≤p.procs.length∧P6 (b9 p) 0 p.procs=P6 (b9 p) k (p.procs.drop k)∧o7 w3 w') (fun k=>p.procs.length-k) 0 ?_ ?_
 ·simp only[p6,simprocAttr];exact⟨by trivial,dr8 _,by rw[dA1],t8.refl _⟩
 rintro i f2 w6 hk ⟨h18,hil,hsp,hx6⟩;simp only[dq9,p6,simprocAttr]at hk;obtain⟨e1,e2,e3,e16,e17,_⟩:=hk;have hx26:=hx3.trans hx6;simp only[n7,n8,simprocAttr,h18,e17];refine m8 (fun hc=>?_) (fun hc=>?_);rotate_left
 ·have hge2:i=p.procs.length:=by simp at hc;omega
  subst hge2;rw[dA0]at hsp;obtain⟨w9,s1,s2,s3⟩:=hret w6 hx26 (0,0);simp only[n7,simprocAttr,e2,aG3,s1];refine L6 results99 (by simp only[p6,simprocAttr];exact e2) s2 ?_;exact⟨by rw[hF,hsp];rfl,s3⟩
 have hlt:i<p.procs.length:=by simpa using hc
 have hin:=hp.inS hlt;obtain⟨sv,hsv,hld⟩:=E4 (P:=prog) (t:=51) hp (b7 (hx12.trans hx26)) (dq7 hlt) ae2 ae5 ac8 I4;rw[I4]at hld;have hdrop:p.procs.drop i=p.procs[i]::p.procs.drop (i+1):=du8 hlt;obtain⟨x,hok,_⟩:=V7 p hw i hlt;have hwy:=hwf _ (dr5 hlt);obtain⟨hmem,hlen⟩:=bb2 p hw i hlt;have hpr:=bB2 p hw i hlt;have hlb:=cJ3 p hw i hlt;generalize p.procs[i]=y at hsv hdrop hwy hok hlb;rw[hdrop,P6,ap7]at hsp;obtain⟨b,wz,w7,hal7,hst7,hx7,hat⟩:=az8 (hsv.mono (b7 (hx12.trans hx26))) (d7 _);obtain⟨_,_,_,vf,_,_,_,hvf,ldq,_⟩:=hat.pr;have hx27:=hx26.trans hx7;simp only[n7,n8,z6,simprocAttr,h18,e3,e16,hin,hld,hal7,hst7];refine z7 (aR8 sh (b9 p) i x _ w7 (hsh.mono (b7 (hx6.trans hx7))) hok) ?_;rintro ul w10 ⟨hul,hx10⟩;have hx210:=hx27.trans hx10;generalize hof:(b9 p).of i=l at hul hmem hsp hlen hpr hlb;have hSl:=hul.isS;have hnl2:=hul.vlen;simp only[n7,n8,simprocAttr,hSl,hnl2];refine n9 [1,2,3,5,16,17,18,25,26] (σ:=Nat×Value×List A7) (fun s f w'=>f 27 = .int .i64 s.1∧f 6=s.2.1∧s.1≤l.length∧B0 (i4 w10) w' 9 s.2.1 s.2.2∧as0 (b9 p) [] l=as0 (b9 p) s.2.2 (l.drop s.1)∧s.2.2.length+aE1 (l.drop s.1)=aE1 l∧o7 w10 w') (fun s=>l.length-s.1) (0,.slice none 0 0,[]) ?_ ?_
 ·simp only[p6,simprocAttr];exact⟨by trivial,by trivial,dr8 _,B0.nil _ _ _,by rw[dA1],by rw[dA1];simp,t8.refl _⟩
 rintro⟨m,u,seen⟩ f3 w11 hk ⟨h27,h6,hml,ho,hj,hll,hx11⟩;simp only at h27 h6 hml ho hj hll;simp only[dq9,p6,simprocAttr]at hk;obtain⟨g1,g2,g3,g5,g16,g17,g18,g25,g26,_⟩:=hk;rw[e1]at g1;rw[e2]at g2;rw[e3]at g3;rw[h18]at g18;have hx211:=hx210.trans hx11;simp only[n7,n8,simprocAttr,h27,g26];refine m8 (fun hc=>?_) (fun hc=>?_);rotate_left
 ·have hge2:m=l.length:=by simp at hc;omega
  subst hge2;rw[dA0,as0]at hj;rw[hj]at hsp;rw[dA0]at hll;have hll2:seen.length+y.fin.length≤1000000:=by simp[aE1]at hll;unfold aE1 at hlb;omega
  have lq:=ldq w11 (b7 (hx10.trans hx11));simp only[n7,n8,simprocAttr,h6,g5,lq];refine z7 (bt9 u vf seen y.fin (i4 w10) w11 ho (A3.mono (b7 hx10) hvf) (b7 hx11) (by omega)) ?_;rintro _ w12 ⟨⟨u2,ok,rfl,hokq,hs2⟩,hm12⟩;have hx1012:o7 w10 w12:=ho.ext2 hx11 hm12;have hx212:=hx210.trans hx1012;rcases dq8 ok with hqk|hqk
  ·rw[hqk]at hokq;have hsome:∃s',ap6 seen y.fin=some s':=dw6.1 hokq.symm;obtain⟨s',hs'⟩:=hsome;simp only[hs']at hsp;simp only[n7,n8,simprocAttr,hqk,g18];refine⟨i+1,by omega,by rw[A8 i (by omega)],by omega,hsp,?_⟩;exact hx6.trans (hx7.trans (hx10.trans hx1012))
  ·rw[hqk]at hokq;have hnone:ap6 seen y.fin=none:=by
    cases h:ap6 seen y.fin
    ·rfl
    ·rw[h]at hokq;cases hokq
   simp only[hnone]at hsp;obtain⟨w9,s1,s2,s3⟩:=hret w12 hx212 (7,0);simp only[n7,n8,simprocAttr,hqk,g2,P4,s1];refine L6 results99 (by simp only[p6,simprocAttr];exact g2) s2 ?_;exact⟨by rw[hF,hsp];rfl,s3⟩
 have hmt:m<l.length:=by simpa using hc
 clear hin hld;have hin:=hul.inS hmt;obtain⟨sv2,hsv2,hld2⟩:=E4 (P:=prog) (t:=121) hul (b7 hx11) (dq7 hmt) ab1 ab2 Z1 I7;rw[I7]at hld2;have hpit:=hpr _ (dr5 hmt);have hdr:=ck7 hmt;rw[du8 hmt,as0]at hj;generalize l[m]=it at hsv2 hpit hj hdr;obtain⟨c,wz2,w12,hal12,hst12,hx12',hati⟩:=aI8 (w:=w11) (A4 u) hsv2 (fun b hb=>ho.lt hb);obtain⟨ldI,_⟩:=I2.it_v hsv2 hati;obtain⟨us,hus,hats,_,_⟩:=I2.it hsv2 hati;obtain⟨vlb,_,_,_,_,hvlb,_,_,_,_,_,ldt,_⟩:=I2.st hus hats;have ho12:=ho.ext hx12';have hx1012:=hx11.trans hx12';have k1:=ldt w12 (B3 _ _);simp only[n7,n8,z6,simprocAttr,h27,h6,g25,hin,hld2,hal12,hst12,k1];refine z7 (bt9 u vlb seen it.s.labels (i4 w10) w12 ho12 hvlb (b7 hx1012) (by omega)) ?_;rintro _ w13 ⟨⟨u2,ok,rfl,hokq,hs2⟩,hm13⟩;have hx1013:o7 w10 w13:=ho12.ext2 hx1012 hm13;have hx213:=hx210.trans hx1013;have k2:=ldt w13 (C8 hm13);have k3:=ldI w13 (C8 hm13);rcases dq8 ok with hqk|hqk;rotate_left
 ·rw[hqk]at hokq;have hnone:ap6 seen it.s.labels=none:=by
   cases h:ap6 seen it.s.labels
   ·rfl
   ·rw[h]at hokq;cases hokq
  simp only[hnone]at hj;rw[hj]at hsp;obtain⟨w9,s1,s2,s3⟩:=hret w13 hx213 (7,it.s.id);simp only[n7,n8,simprocAttr,hqk,k2,g2,au1,s1];refine L6 results99 (by simp only[p6,simprocAttr];exact g2) s2 ?_;exact⟨by rw[hF,hsp];rfl,s3⟩
 rw[hqk]at hokq;obtain⟨s',hs'⟩:∃s',ap6 seen it.s.labels=some s':=dw6.1 hokq.symm;simp only[hs']at hj;obtain⟨ho13,hl13⟩:=hs2 s' hs';simp only[n7,n8,simprocAttr,hqk,g3,k3];refine B2 (ck8 sh sv2 (b9 p) it i x _ w13 (hsh.mono (b7 (hx6.trans (hx7.trans (hx10.trans hx1013))))) (hsv2.mono (b7 hx1013)) hpit hok (by rw[hpp];exact hlt) hwl (by rw[hpp];exact hwf)) (fun w14 hx14=>?_);have k4:=ldt w14 (p9 (C8 hm13) (b7 hx14));rcases dq8 (ap8 (b9 p) it)with hle4|hle4
 ·rw[if_pos hle4]at hj;simp only[n7,n8,simprocAttr,hle4,h27];refine⟨(m+1,u2,s'),by simp only[];omega,by simp only[];rw[A8 m (by omega)],by trivial,by simp only[];omega,ho13.ext hx14,hj,by simp only[];omega,hx1013.trans hx14⟩
 ·rw[if_neg (by rw[hle4];simp)]at hj;rw[hj]at hsp;obtain⟨w9,s1,s2,s3⟩:=hret w14 (hx213.trans hx14) (7,it.s.id);simp only[n7,n8,simprocAttr,hle4,k4,g2,au1,s1];refine L6 results99 (by simp only[p6,simprocAttr];exact g2) s2 ?_;exact⟨by rw[hF,hsp];rfl,s3⟩
def dv2:=@List.mem_filter
def dD6:=@List.nodup_cons
theorem M9{α:Type}[DecidableEq α]:∀{l m:List α},l.Nodup→(∀x∈l,x∈m)→l.length≤m.length
 | [],m,_,_=>by simp
 | x::l,m,hn,hs=>by
  rw[dD6]at hn;have hx:=hs x (by simp);have h1:=M9 (l:=l) (m:=m.erase x) hn.2 fun y hy=>(List.mem_erase_of_ne (fun e=>hn.1 (by rw[←e];exact hy))).2 (hs y (by simp[hy]));rw[List.length_erase_of_mem hx]at h1;have:=List.length_pos_of_mem hx;simp only[dt2];omega
theorem bm0{p:Pg}{procs:List A7}{f:Pr}{l:List It}{e:Int×Int}(h:X3 p procs f l=some e):e.1=5:=by
 unfold X3 at h;split at h
 ·obtain rfl:=ds8 h;rfl
 ·split at h
  ·obtain rfl:=ds8 h;rfl
  ·cases h
theorem aA9{p:Pg}{s:Sh}{procs:List A7}:∀{l:List Pr} {i:Nat} {e:Int×Int},M0 p s procs i l=some e→e.1=5
 | [],i,e,h=>by cases h
 | f::l,i,e,h=>by
  rw[M0]at h;split at h
  ·next h'=>obtain rfl:=ds8 h;exact bm0 h'
  ·exact aA9 h
theorem aB0{p:Pg}{s:Sh}{procs:List A7}:∀{l:List Pr} {i:Nat},M0 p s procs i l=none→∀k (hk:k<l.length),X3 p procs l[k] (s.of (i+k:Nat))=none
 | [],i,_,k,hk=>by simp at hk
 | f::l,i,h,k,hk=>by
  rw[M0]at h;split at h
  ·cases h
  ·next h'=>
   cases k with
   | zero=>simpa using h'
   | succ k=>
    have:=aB0 h k (by simpa using hk);rw[show i+1+k=i+(k+1) by omega]at this;simpa using this
structure Known (p:Pg):Prop where
 may:J6 p=true
 globals:p.globals.Nodup
 names:(p.procs.map (·.name)).Nodup
 main:∃(i:Nat) (q:Pr),p.procs[i]?=some q∧q.name=R2∧q.params=[]
 proc:∀i (hi:i<p.procs.length),(bd7 p.procs[i]).Nodup∧(∀n∈bd7 p.procs[i],n∉p.globals)∧∀it∈(b9 p).of i,ad4 p p.procs[i] (p.procs.map (·.name)) it.s=true
theorem bj5{p:Pg}(h:(O5 p).1=0):Known p:=by
 unfold O5 at h;cases hmay:J6 p
 ·rw[hmay]at h;simp at h
 rw[if_neg (by rw[hmay];simp)]at h;cases hb:(Z0 p.globals||Z0 (p.procs.map (·.name))||decide (S5 p.procs R2<0)||decide (0<(p.procs.getD (S5 p.procs R2).toNat bq6).params.length));rotate_left
 ·simp only[hb,dx1]at h;simp at h
 simp only[hb]at h;simp only[Bool.or_eq_false_iff]at hb;obtain⟨⟨⟨h1,h2⟩,h3⟩,h4⟩:=hb;have h3':0≤S5 p.procs R2:=by simpa using h3
 obtain⟨k,e,q,hq,hqn⟩:=au7 _ p.procs 0 h3';have e':S5 p.procs R2=(k:Int):=by unfold S5;rw[e];simp
 rw[e',dt5,List.getD,hq]at h4;have hno:M0 p (b9 p) (p.procs.map (·.name)) 0 p.procs=none:=by
  cases hs:M0 p (b9 p) (p.procs.map (·.name)) 0 p.procs with
  | none=>rfl
  | some e=>
   have:=aA9 hs;simp only[hs]at h;simp at h;omega
 refine⟨hmay,by simpa[Z0]using h1,by simpa[Z0]using h2,⟨k,q,hq,dr0 hqn,?_⟩,fun i hi=>?_⟩
 ·have:q.params.length=0:=by simpa using h4
  exact List.eq_nil_of_length_eq_zero this
 ·have hp:=aB0 hno i hi;rw[du4]at hp;unfold X3 at hp;split at hp
  ·cases hp
  ·next hc=>
   have hc':=dB2.2 hc;simp only[Bool.or_eq_false_iff]at hc';split at hp
   ·cases hp
   ·next hf=>
    refine⟨by simpa[Z0]using hc'.1,fun n hn hg=>?_,fun it hit=>?_⟩
    ·have:=List.any_eq_false.1 hc'.2 n hn;exact this (dt6.2 hg)
    ·have:=dz6.1 hf it hit;simpa using this
theorem ac4{p:Pg}{n:A7}(h:n∈p.procs.map (·.name)):∃(i:Nat) (hi:i<p.procs.length),(b9 p).pr n=(i:Int)∧p.procs[i].name=n:=by
 obtain⟨q,hq,rfl⟩:=dt7.1 h;have hany:p.procs.any (fun f=>decide (f.name=q.name))=true:=dE3.2 ⟨q,hq,by simp⟩;rw[←au6 (fun f:Pr=>decide (f.name=q.name)) p.procs 0]at hany;obtain⟨k,e,x,hx,hxn⟩:=au7 _ p.procs 0 (dr0 hany);obtain⟨hk,e2⟩:=dr4.1 hx;refine⟨k,hk,?_,by rw[e2];exact dr0 hxn⟩;unfold Sh.pr S5;rw[J0,e,du4]
theorem aY7{p:Pg}(K:Known p){m x:A7}(hm:m∈p.procs.map (·.name))(hx:x∈ao5 (b9 p) m):x∈p.procs.map (·.name):=by
 obtain⟨i,hi,e,_⟩:=ac4 hm;unfold ao5 at hx;rw[Q4,e]at hx;obtain⟨it,hit,rfl⟩:=dt7.1 hx;obtain⟨hit,hk⟩:=dv2.1 hit;have:=(K.proc i hi).2.2 it hit;unfold ad4 at this;rw[hk]at this;simp only[Bool.not_true,dC4,dt0]at this;exact dt6.1 this.2.2
theorem bf8:∀(l out:List A7) (x:A7),x∈aj5 out l↔x∈out∨x∈l
 | [],out,x=>by simp[aj5]
 | n::l,out,x=>by
  rw[aj5,bf8 l];split
  ·next h=>
   have:=dt6.1 h;constructor
   ·rintro(h|h)
    ·exact .inl h
    ·exact .inr (by simp[h])
   ·rintro(h|h)
    ·exact .inl h
    ·rcases dt1.1 h with rfl|h
     ·exact .inl this
     ·exact .inr h
  ·simp[or_assoc]
theorem aO1:∀(l out:List A7),out.Nodup→(aj5 out l).Nodup
 | [],out,h=>h
 | n::l,out,h=>by
  rw[aj5];refine aO1 l _ ?_;split
  ·exact h
  ·next hc=>
   rw[dw0];refine⟨h,by simp,fun a ha b hb=>?_⟩;simp only[dt8]at hb;subst hb;rintro rfl;exact hc (dt6.2 ha)
def dt9:=@List.length_filter_le
theorem dl1:ah7 prog 253=true:=by kernel_rfl
theorem B0.flatR{α:Type}[I8 α]{h k:Hp}{w:World}{T:TypeId}{v:Value}{xs:List α}(ho:B0 h w T v xs)(hb:∀b,A4 v b→k b=w.heap[b]?):R k v xs:=
 (ho.down (h:=fun _=>none) (fun b o e=>nomatch e)).ro (fun b o e=>nomatch e) hb
theorem an7{h:Hp}{w:World}{v:Value}{l:List A7}(ho:B0 h w 9 v l)(hl:l.length≤1000000000):
  p7 prog 67 #[v] w fun u w'=>(B0 h w' 9 v (S8 l)∧t8 (A4 v) w w'):=(cn9 ho hl).mono fun e w' ⟨h1,h2⟩=>⟨_,h1,h2⟩
theorem bM4(sv:Value)(q:Pr)(n:A7)(a:Addr)(w:World)(hv:SV (i4 w) sv q)(hl:∀w',o7 w w'→(Instr.loadAt 9 (.pointer (some a))).run prog w' = .ok (o9 n) w'):
  p7 prog 253 #[sv,.pointer (some a)] w fun u w'=>(u = .bool (decide (q.name=n))∧o7 w w'):=by
 refine p8 [sv,.pointer (some a)] func253 rfl ?_;obtain⟨b,w1,hb,hx,ha⟩:=be1 hv (d7 _);obtain⟨_,_,_,_,_,_,_,_,ld,_⟩:=ha.pr;have l1:=ld w1 (d7 _);have l2:=hl w1 hx;simp only[n7,n8,simprocAttr,hb,l1,l2];refine o6 results253 ?_;simp only[p6,simprocAttr];exact⟨by trivial,hx⟩
theorem bV7(v:Value)(p:Pg)(n:A7)(w:World)(hv:SV (i4 w) v p)(hw:D1 p≤1000000):p7 prog 216 #[v,o9 n] w fun u w'=>(u = .bool (aV2 p n)∧o7 w w'):=by
 refine p8 [v,o9 n] func216 rfl ?_;obtain⟨a,w1,hbx,hx1,ha⟩:=W7 (w:=w) (fun _=>False) hv (fun _ h=>h.elim);obtain⟨vg,vp,hg,hp,ld,_⟩:=I2.pg hv ha;obtain⟨lw,_⟩:=I2.pg_v hv ha;obtain⟨b,w2,hb2,hx2,hldn⟩:=cN1 n w1;have hlw:∀w',o7 w1 w'→B5 (B7 w1 fun _=>False) (i4 w'):=fun w' h=>p9 (B3 _ _) (b7 h);have lw2:=lw w2 (hlw _ hx2);have hpl:p.procs.length≤1000000:=by
  have:=ac9 p.procs;unfold D1 at hw;omega
 simp only[n7,n8,simprocAttr,hbx,hb2,lw2];refine B2 (ad8 v p w2 (hv.mono (b7 (hx1.trans hx2))) hw) (fun w3 hx3=>?_);have hx13:=hx2.trans hx3;have l3:=ld w3 (hlw _ hx13);rcases dq8 (decide ((O5 p).1=0))with hsc|hsc
 ·simp only[n7,n8,simprocAttr,al5,hsc,l3];refine B2 (aN6 (fun f=>decide (f.name=n)) 253 #[.pointer (some b)] vp p.procs w3 dl1 (A3.mono (b7 (hx1.trans hx13)) hp) (by omega)
   (fun sv x w' hx' _ hsv=>bM4 sv x n b w' hsv fun w'' hx''=>hldn w'' (hx3.trans (hx'.trans hx'')))) (fun w4 hx4=>?_)
  simp only[n7,simprocAttr];refine o6 results216 ?_;simp only[p6,simprocAttr];exact⟨by rw[aV2,hsc,dy1],hx1.trans (hx13.trans hx4)⟩
 ·simp only[n7,n8,simprocAttr,al5,hsc];refine o6 results216 ?_;simp only[p6,simprocAttr];exact⟨by rw[aV2,hsc];rfl,hx1.trans hx13⟩
theorem ch6(a:Addr)(p:Pg)(n:A7)(w:World)(hs:At (i4 w) a (b9 p))(hw:D1 p≤1000000)(hn:n∈p.procs.map (·.name)):
  p7 prog 254 #[.pointer (some a),o9 n] w fun u w'=>(B0 (i4 w) w' 9 u (ao5 (b9 p) n)∧o7 w w'):=by
 refine p8 [.pointer (some a),o9 n] func254 rfl ?_;obtain⟨i,hi,hpr,_⟩:=ac4 hn;obtain⟨x,hok,_⟩:=V7 p hw i hi;obtain⟨hmem,hlen⟩:=bb2 p hw i hi;have hpl:(b9 p).p.procs.length≤1000000:=by
  rw[J0];have:=ac9 p.procs;unfold D1 at hw;omega
 simp only[n7,n8,simprocAttr];refine B2 (aq6 a (b9 p) n w hs (by omega)) (fun w1 hx1=>?_);rw[hpr];simp only[n7,simprocAttr];refine z7 (aR8 a (b9 p) i x _ w1 (hs.mono (b7 hx1)) hok) ?_;rintro ul w2 ⟨hul,hx2⟩;have hx02:=hx1.trans hx2;have hF:ao5 (b9 p) n=I6 (S8 ((((b9 p).of i).filter fun it=>decide (it.s.kind=4)).map (·.s.proc))):=by rw[ao5,hpr];rfl
 generalize(b9 p).of i=l at hul hlen hF;have hSl:=hul.isS;have hnl:=hul.vlen;simp only[n7,n8,simprocAttr,hSl,hnl];refine n9 [12,13] (σ:=Nat×Value) (fun s f w'=>f 14 = .int .i64 s.1∧f 5=s.2∧s.1≤l.length∧B0 (i4 w2) w' 9 s.2 (((l.take s.1).filter fun it=>decide (it.s.kind=4)).map (·.s.proc))∧o7 w2 w') (fun s=>l.length-s.1) (0,.slice none 0 0) ?_ ?_
 ·simp only[p6,simprocAttr];exact⟨by trivial,by trivial,dr8 _,by simpa using B0.nil _ _ _,t8.refl _⟩
 rintro⟨k,u⟩ f w3 hk ⟨h14,h5,hkl,ho,hx3⟩;simp only at h14 h5 hkl ho;simp only[dq9,p6,simprocAttr]at hk;obtain⟨e12,e13,_⟩:=hk;have hcnt:((l.take k).filter fun it=>decide (it.s.kind=4)).length≤k:=dr7 (dt9 _ _) (by rw[ds3];omega);simp only[n7,n8,simprocAttr,h14,e13];refine m8 (fun hc=>?_) (fun hc=>?_);rotate_left
 ·have hge:k=l.length:=by simp at hc;omega
  subst hge;rw[ds2]at ho hcnt;simp only[n7,simprocAttr,h5];refine z7 (an7 ho (by rw[dr9];omega)) ?_;rintro _ w4 ⟨ho4,hm4⟩;have hx24:=ho.ext2 hx3 hm4;simp only[n7,simprocAttr,h5];refine z7 (aU3 ho4 (by rw[S3,dr9];omega)) ?_;rintro u5 w5 ⟨ho5,hm5,_⟩;have hx25:=ho4.ext2 hx24 hm5;simp only[n7,simprocAttr];refine o6 results254 ?_;simp only[p6,simprocAttr];exact⟨by rw[hF];exact ho5.back hx02,hx02.trans hx25⟩
 have hlt:k<l.length:=by simpa using hc
 have hin:=hul.inS hlt;obtain⟨sv,hsv,hld⟩:=E4 (P:=prog) (t:=121) hul (b7 hx3) (dq7 hlt) ab1 ab2 Z1 I7;rw[I7]at hld;have htk:((l.take (k+1)).filter fun it=>decide (it.s.kind=4)).map (·.s.proc)=((l.take k).filter fun it=>decide (it.s.kind=4)).map (·.s.proc)++if l[k].s.kind=4 then[l[k].s.proc]else[]:=by
  rw[dr6 hlt,dy3,du1]
  congr 1
  by_cases h:l[k].s.kind=4<;>simp[h]
 generalize l[k]=it at hsv htk;obtain⟨c,wz2,w4,hal,hst,hx4,hati⟩:=az6 (hsv.mono (b7 hx3)) (d7 _);obtain⟨hats,_,_⟩:=hati.it;obtain⟨_,_,_,_,_,_,_,_,_,ldt,_⟩:=hats.st;have l4:=ldt w4 (d7 _);have ho4:=ho.ext hx4;have hx24:=hx3.trans hx4;rcases dq8 (decide (it.s.kind=4))with hq|hq
 ·obtain⟨p1,u',w5,p2,p3,p4,p5⟩:=push (e:=22) ar6 rfl ho4 (x:=o9 it.s.proc) (y:=it.s.proc) rfl (by rw[dr9];omega) (by rw[dr9];omega) (b7 hx24);simp only[n7,n8,z6,simprocAttr,h14,h5,e12,hin,hld,hal,hst,l4,hq,p1,p2];refine⟨(k+1,u'),by simp only[];omega,by simp only[];rw[A8 k (by omega)],by trivial,by simp only[];omega,?_,ho4.ext2 hx24 p4⟩;simp only[];rw[htk,if_pos (dr0 hq)];exact p3
 ·simp only[n7,n8,z6,simprocAttr,h14,h5,e12,hin,hld,hal,hst,l4,hq];refine⟨(k+1,u),by simp only[];omega,by simp only[];rw[A8 k (by omega)],by trivial,by simp only[];omega,?_,hx24⟩;simp only[];rw[htk,if_neg (dr2 hq),du2];exact ho4
theorem bP4(g:A7→List A7)(m i:Nat)(out:List A7)(h:out.length≤i):af2 g m i out=out:=by
 cases m with
 | zero=>rfl
 | succ m=>rw[af2,dy9 h]
theorem ch7(g:A7→List A7)(m i:Nat)(out:List A7)(h:i<out.length):af2 g (m+1) i out=af2 g m (i+1) (aj5 out (g out[i])):=by
 rw[af2,dq7 h]
theorem bP0{p:Pg}(hw:D1 p≤1000000){n:A7}(hn:n∈p.procs.map (·.name)):(ao5 (b9 p) n).length≤400000:=by
 obtain⟨i,hi,hpr,_⟩:=ac4 hn;obtain⟨_,hlen⟩:=bb2 p hw i hi;unfold ao5;rw[hpr];refine dr7 (as5 _) ?_;rw[dr9];exact dr7 (dt9 _ _) hlen
theorem cF9(a:Addr)(p:Pg)(n:A7)(w:World)(hs:At (i4 w) a (b9 p))(hw:D1 p≤1000000)(K:Known p)(hn:n∈p.procs.map (·.name)):
  p7 prog 217 #[.pointer (some a),o9 n] w fun u w'=>(B0 (i4 w) w' 9 u (bp0 (b9 p) n)∧o7 w w'):=by
 refine p8 [.pointer (some a),o9 n] func217 rfl ?_;have hpl:p.procs.length≤1000000:=by
  have:=ac9 p.procs;unfold D1 at hw;omega
 have hF:bp0 (b9 p) n=S8 (af2 (ao5 (b9 p)) (p.procs.length+1) 0 [n]):=by rw[bp0,J0]
 have hg:=fun m (hm:m∈p.procs.map (·.name))=>ch6 (p:=p) (n:=m) (a:=a) (hw:=hw) (hn:=hm);have hgk:=fun m x (hm:m∈p.procs.map (·.name)) hx=>aY7 K (m:=m) (x:=x) hm hx;have hgl:=fun m (hm:m∈p.procs.map (·.name))=>bP0 hw hm;have hnl:(p.procs.map (·.name)).length=p.procs.length:=dr9 _;generalize ao5 (b9 p)=g at hF hg hgk hgl;generalize p.procs.map (·.name)=names at hn hg hgk hgl hnl;obtain⟨u1,w1,hlit,ho1,hx1,_⟩:=lit (P:=prog) (w:=w) (h:=i4 w) (α:=A7) (xs:=[o9 n]) (ys:=[n]) (parts:=#[(0,o9 n)]) (n:=1) ar6 rfl (au4.2 rfl) (by simp[o9,Value.cells]) rfl rfl (by simp) (by simp) (d7 _);simp only[n7,n8,simprocAttr,hlit];refine n9 [0] (σ:=Nat×Value×List A7) (fun s f w'=>f 6 = .int .i64 s.1∧f 5=s.2.1∧s.1≤s.2.2.length∧B0 (i4 w) w' 9 s.2.1 s.2.2∧s.2.2.Nodup∧(∀x∈s.2.2,x∈names)∧af2 g (p.procs.length+1) 0 [n]=af2 g (p.procs.length+1-s.1) s.1 s.2.2∧o7 w w') (fun s=>p.procs.length+1-s.1) (0,u1,[n]) ?_ ?_
 ·simp only[p6,simprocAttr];exact⟨by trivial,by trivial,dr8 _,ho1,by simp,by simpa using hn,by simp,hx1⟩
 rintro⟨i,u,out⟩ f w2 hk ⟨h6,h5,hil,ho,hnd,hsub,hcl,hx2⟩;simp only at h6 h5 hil ho hnd hsub hcl;simp only[dq9,p6,simprocAttr]at hk;obtain⟨e0,_⟩:=hk;have hol:out.length≤p.procs.length:=by rw[←hnl];exact M9 hnd hsub
 have hSo:=ho.isS;have hno:=ho.vlen;simp only[n7,n8,simprocAttr,h6,h5,hSo,hno];refine m8 (fun hc=>?_) (fun hc=>?_);rotate_left
 ·have hge:i=out.length:=by simp at hc;omega
  subst hge;rw[bP4 g _ _ _ (ds5 _)]at hcl;simp only[n7,simprocAttr,h5];refine z7 (an7 ho (by omega)) ?_;rintro _ w4 ⟨ho4,hm4⟩;simp only[n7,simprocAttr,h5];refine o6 results217 ?_;simp only[p6,simprocAttr];exact⟨by rw[hF,hcl];exact ho4,ho.ext2 hx2 hm4⟩
 have hlt:i<out.length:=by simpa using hc
 have hin:=ho.inS hlt;have hld:=ldS (ho.rw_ (b7 hx2)) (d7 _) hlt;have hmi:=hsub _ (dr5 hlt);rw[show p.procs.length+1-i=(p.procs.length-i)+1 by omega,ch7 g _ _ _ hlt]at hcl;generalize out[i]=m at hld hmi hcl;simp only[n7,n8,z6,simprocAttr,h6,h5,e0,hin,hld];refine z7 (hg m hmi w2 (hs.mono (b7 hx2))) ?_;rintro uc w3 ⟨hoc,hx3⟩;have huc:R (B7 w3 (A4 u)) uc (g m):=hoc.flatR fun b hb=>D3 fun hbu=>by
  have h1:=ho.lt hbu;have h2:=D0 (hoc.free hb);omega
 have hx03:=hx2.trans hx3;have ho3:=ho.ext hx3;have hcll:=hgl m hmi;have hck:=fun x=>hgk m x hmi;generalize g m=cl at hoc huc hcll hcl hck;have hSc:=huc.isS;have hnc:=huc.vlen;simp only[n7,n8,simprocAttr,hSc,hnc];refine n9 [0,6,22,23] (σ:=Nat×Value×List A7) (fun s f w'=>f 24 = .int .i64 s.1∧f 5=s.2.1∧s.1≤cl.length∧B0 (i4 w) w' 9 s.2.1 s.2.2∧s.2.2.Nodup∧(∀x∈s.2.2,x∈names)∧aj5 out cl=aj5 s.2.2 (cl.drop s.1)∧out.length≤s.2.2.length∧t8 (A4 u) w3 w'∧D7 w3 u s.2.1) (fun s=>cl.length-s.1) (0,u,out) ?_ ?_
 ·simp only[p6,simprocAttr];exact⟨by trivial,h5,dr8 _,ho.ext hx3,hnd,hsub,by rw[dA1],ds5 _,t8.refl _,fun b hb=>.inl hb⟩
 rintro⟨k,u4,o⟩ f4 w4 hk ⟨h24,h5',hkl,ho4,hnd4,hsub4,hadd,hlo,hm4,hmv4⟩;simp only at h24 h5' hkl ho4 hnd4 hsub4 hadd hlo hmv4;simp only[dq9,p6,simprocAttr]at hk;obtain⟨g0,g6,g22,g23,_⟩:=hk;have hx04:=ho3.ext2 hx03 hm4;have hol4:o.length≤p.procs.length:=by rw[←hnl];exact M9 hnd4 hsub4
 simp only[n7,n8,simprocAttr,h24,g23];refine m8 (fun hc=>?_) (fun hc=>?_);rotate_left
 ·have hge:k=cl.length:=by simp at hc;omega
  subst hge;rw[dA0,aj5]at hadd;rw[hadd]at hcl;simp only[n7,n8,simprocAttr,g6,h6];refine⟨(i+1,u4,o),by simp only[];omega,by simp only[];rw[A8 i (by omega)],h5',by simp only[];omega,ho4,hnd4,hsub4,?_,hx04⟩;simp only[];rw[hcl]
  congr 1
  omega
 have hlt4:k<cl.length:=by simpa using hc
 have hin4:=huc.inS hlt4;have hld4:=ldS huc (C8 hm4) hlt4;rw[du8 hlt4,aj5]at hadd;have hck4:=hck _ (dr5 hlt4);generalize cl[k]=y at hld4 hadd hck4;simp only[n7,n8,z6,simprocAttr,h24,h5',g22,hin4,hld4];refine C7 (O3 u4 o y w4 (ho4.rw_ (b7 hx04)) (by omega)) ?_;rcases dq8 (o.contains y)with hq|hq
 ·rw[if_pos hq]at hadd;simp only[n7,n8,simprocAttr,hq,h24];refine⟨(k+1,u4,o),by simp only[];omega,by simp only[];rw[A8 k (by omega)],h5',by simp only[];omega,ho4,hnd4,hsub4,hadd,hlo,hm4,hmv4⟩
 ·obtain⟨p1,u5,w5,p2,p3,p4,p5⟩:=push (e:=22) ar6 rfl ho4 (x:=o9 y) (y:=y) rfl (by omega) (by omega) (b7 hx04);rw[if_neg (by rw[hq];simp)]at hadd;simp only[n7,n8,simprocAttr,hq,h24,h5',p1,p2];refine⟨(k+1,u5,o++[y]),by simp only[];omega,by simp only[];rw[A8 k (by omega)],by trivial,by simp only[];omega,p3,?_,?_,hadd,by simp only[dr1];omega,hm4.chain p4 fun b hb hbu=>?_,fun b hb=>?_⟩
  ·rw[dw0];refine⟨hnd4,by simp,fun a ha b hb=>?_⟩;simp only[dt8]at hb;subst hb;rintro rfl;rw[dt6.2 ha]at hq;cases hq
  ·intro x hx;simp only at hx;rcases ds4.1 hx with h|h
   ·exact hsub4 x h
   ·simp only[dt8]at h;subst h;exact hck4
  ·rcases hmv4 b hbu with h|h
   ·exact h
   ·omega
  ·rcases p5 b hb with h|h
   ·exact hmv4 b h
   ·exact .inr (dr7 hm4.size h)
theorem S1{α β:Type}(f:α→List β)(B:Nat):∀(l:List α),(∀x∈l,(f x).length≤B)→(l.flatMap f).length≤l.length*B
 | [],_=>by simp
 | x::l,h=>by
  have h1:=S1 f B l fun y hy=>h y (by simp[hy]);have h2:=h x (by simp);rw[dA4,dr1,dt2,Nat.succ_mul];omega
theorem ca5{α β:Type}(f:α→List β)(l:List α)(k:Nat):((l.take k).flatMap f).length≤(l.flatMap f).length:=by
 conv=>rhs;rw[←dv5 k l,dC2,dr1]
 omega
def aX1(g:St→Nat)(l:List It):Nat:=(l.map fun it=>g it.s).sum
theorem bM3(g:St→Nat)(l m:List It):aX1 g (l++m)=aX1 g l+aX1 g m:=by simp[aX1]
theorem bw5(g:St→Nat)(x:It)(m:List It):aX1 g (x::m)=g x.s+aX1 g m:=by simp[aX1]
mutual
theorem cL0(g:St→Nat)(hg:∀t:St,g t+G3 t.thn+G3 t.els≤O6 t):∀(t:St) (k:Nat) (pr up nx lp:Int),aX1 g (V4 t k pr up nx lp)≤O6 t
 | .mk id kind labels name proc x has args thn els,k,pr,up,nx,lp=>by
  rw[P5,bw5,bM3];have h2:=fun k' nx' lp'=>aS4 g hg els k' pr (k+1) nx' lp';have h4:=fun k' nx' lp'=>aS4 g hg thn k' pr (k+1) nx' lp';have h5:=hg (.mk id kind labels name proc x has args thn els);simp only[St.thn,St.els]at h5 ⊢;refine dr7 (Nat.add_le_add_left (Nat.add_le_add (h4 _ _ _) (h2 _ _ _)) _) ?_;omega
theorem aS4(g:St→Nat)(hg:∀t:St,g t+G3 t.thn+G3 t.els≤O6 t):∀(l:List St) (k:Nat) (pr up nx lp:Int),aX1 g (C2 l k pr up nx lp)≤G3 l
 | [],_,_,_,_,_=>by simp[C2,aX1]
 | t::l,k,pr,up,nx,lp=>by
  rw[C2,bM3,G3];exact Nat.add_le_add (cL0 g hg t _ _ _ _ _) (aS4 g hg l _ _ _ _ _)
end
theorem cJ5(g:St→Nat)(hg:∀t:St,g t+G3 t.thn+G3 t.els≤O6 t)(p:Pg)(hw:D1 p≤1000000)(i:Nat)(hi:i<p.procs.length):aX1 g ((b9 p).of i)≤1000000:=by
 obtain⟨x,_,e⟩:=V7 p hw i hi;have h1:=aS4 g hg p.procs[i].body x i 0 (-1) 0;have h2:=aq7 p hw _ (dr5 hi);unfold U2 at h2;rw[e];omega
theorem bM0(t:St):(L4 t).length+G3 t.thn+G3 t.els≤O6 t:=by
 rw[P2];have h1:=aa8 t.x;have h2:=M1 t.args;have h3:1≤wtT t.name:=by simp[wtT]
 have h4:(if t.kind≠10∧t.name≠e0 then[t.name]else[]).length≤1:=by split<;>simp
 unfold L4;rw[dr1,dr1];omega
theorem ba0(f:It→List A7)(g:St→Nat)(h:∀it,(f it).length≤g it.s):∀l:List It,(l.flatMap f).length≤aX1 g l
 | []=>by simp[aX1]
 | x::l=>by
  have:=ba0 f g h l;have:=h x;rw[dA4,dr1,bw5];omega
theorem bg4{g:A7→List A7}{names:List A7}(hg:∀m∈names,∀x∈g m,x∈names):∀(m i:Nat) (out:List A7),out.Nodup→(∀x∈out,x∈names)→(af2 g m i out).Nodup∧∀x∈af2 g m i out,x∈names
 | 0,i,out,h1,h2=>⟨h1,h2⟩
 | m+1,i,out,h1,h2=>by
  rw[af2];split
  ·exact⟨h1,h2⟩
  ·next n hn=>
   refine bg4 hg m (i+1) _ (aO1 _ _ h1) fun x hx=>?_;rcases(bf8 _ _ _).1 hx with h|h
   ·exact h2 x h
   ·exact hg n (h2 n (ds9 hn)) x h
theorem cq3{p:Pg}(K:Known p){n:A7}(hn:n∈p.procs.map (·.name)):(bp0 (b9 p) n).length≤p.procs.length∧∀x∈bp0 (b9 p) n,x∈p.procs.map (·.name):=by
 obtain⟨h1,h2⟩:=bg4 (g:=ao5 (b9 p)) (names:=p.procs.map (·.name)) (fun m hm x hx=>aY7 K hm hx) ((b9 p).p.procs.length+1) 0 [n] (by simp) (by simpa using hn);have h3:=M9 h1 h2;rw[dr9]at h3;unfold bp0;exact⟨by rw[S3];exact h3,fun x hx=>h2 x ((W0 _).mem_iff.1 hx)⟩
theorem bB7{p:Pg}(K:Known p):p.procs.length≤16∧p.globals.length≤16:=by
 have:=K.may;simp only[J6,dt0,du7]at this;exact⟨this.1.1.2,this.1.1.1⟩
theorem aF3(h:Hp)(a:Addr)(s:Sh)(i x y:Nat)(w:World)(hs:At h a s)(hh:B5 h (i4 w))(hok:bo8 s i x y):p7 prog 57 #[.pointer (some a),.int .i64 i] w fun u w'=>(R h u (s.of i)∧o7 w w'):=by
 refine p8 [.pointer (some a),.int .i64 i] func57 rfl ?_;obtain⟨vL,vlo,vhi,hL,hlo,hhi,hap,ld,sd⟩:=hs.sh;have hst:∀w',o7 w.drew w'→B5 h (i4 w'):=fun w' h=>p9 hh (b7 ((o7.drew w).trans h));have s1:=sd (fun w'=>o7 w.drew w') w.drew (t8.refl _) hst;have hi1:=hlo.inS (dr4.1 hok.lo).1;have hi2:=hhi.inS (dr4.1 hok.hi).1;have k1:∀K f d w0,I1 prog (fun w'=>o7 w.drew w') (Instr.loadAt 3 (.pointer (some (H2 vlo i)))) K f d w0=K (C4 f d (.int .i64 ((x:Int)+1))) w0:=fun K f d w0=>D5 (w0:=w.drew) (t8.refl _) fun w' h=>ldI hlo (hst w' h) hok.lo;have k2:∀K f d w0,I1 prog (fun w'=>o7 w.drew w') (Instr.loadAt 3 (.pointer (some (H2 vhi i)))) K f d w0=K (C4 f d (.int .i64 ((y:Int)+1))) w0:=fun K f d w0=>D5 (w0:=w.drew) (t8.refl _) fun w' h=>ldI hhi (hst w' h) hok.hi;have B5:=hok.le;have hlen:=hok.len;have hfit:=hok.fit;have e1:IntKind.i64.wrap ((x:Int)+1-1)=(x:Int):=by rw[K6 _ (by omega)];omega
 have e2:IntKind.i64.wrap ((y:Int)+1-1)=(y:Int):=by rw[K6 _ (by omega)];omega
 have hSL:=hL.isS;have hc:=hL.vcap;have c1:decide ((x:Int)≤(y:Int))=true:=by simp;omega
 have c2:decide ((y:Int)≤(vcap vL:Int))=true:=by simp;omega
 simp only[n7,n8,simprocAttr];refine C0 (fun w'=>o7 w.drew w') 22 (A9 [0,1,2,3,4,5,6,7,8,9,10,11,12,13,14,15,16,17,18,19,20,21]) ?_;simp only[D2,A9,n7,n8,z6,I0,simprocAttr,s1,hi1,hi2,k1,k2,e1,e2,hSL,c1,c2];refine o6 results57 ?_;simp only[p6,simprocAttr];refine⟨?_,o7.drew w⟩;rw[hok.of_];exact bE0 hL B5 hlen
theorem bD7(v:Value)(p:Pg)(n:A7)(w:World)(hv:SV (i4 w) v p)(hw:D1 p≤1000000):p7 prog 154 #[v,o9 n] w fun u w'=>(B0 (i4 w) w' 9 u (W2 p n)∧o7 w w'):=by
 refine p8 [v,o9 n] func154 rfl ?_;obtain⟨a,w1,hbx,hx1,ha⟩:=W7 (w:=w) (fun _=>False) hv (fun _ h=>h.elim);obtain⟨vg,vp,hg,hp,ld,_⟩:=I2.pg hv ha;obtain⟨lw,_⟩:=I2.pg_v hv ha;have hlw:∀w',o7 w1 w'→B5 (B7 w1 fun _=>False) (i4 w'):=fun w' h=>p9 (B3 _ _) (b7 h);have lw1:=lw w1 (hlw _ (t8.refl _));simp only[n7,n8,simprocAttr,hbx,lw1];refine B2 (bV7 v p n w1 (hv.mono (b7 hx1)) hw) (fun w2 hx2=>?_);rcases dq8 (aV2 p n)with hkn|hkn;rotate_left
 ·simp only[n7,n8,simprocAttr,hkn];refine o6 results154 ?_;simp only[p6,simprocAttr];exact⟨by rw[W2,if_neg (by rw[hkn];simp)];exact B0.nil _ _ _,hx1.trans hx2⟩
 have hF:W2 p n=I6 (S8 ((bp0 (b9 p) n).flatMap fun m=>((b9 p).of ((b9 p).pr m)).flatMap fun it=>(L4 it.s).filter fun v=>p.globals.contains v)):=by rw[W2,if_pos hkn];rfl
 have hkn2:=hkn;rw[aV2,dt0]at hkn2;have K:=bj5 (dr0 hkn2.1);have hn:n∈p.procs.map (·.name):=by
  obtain⟨q,hq,e⟩:=dE3.1 hkn2.2;exact dt7.2 ⟨q,hq,dr0 e⟩
 have lw2:=lw w2 (hlw _ hx2);simp only[n7,n8,simprocAttr,hkn,lw2];refine z7 (ai1 v p w2 (hv.mono (b7 (hx1.trans hx2))) hw) ?_;rintro us w3 ⟨sh,rfl,hsh,hx3⟩;have hx13:=hx2.trans hx3;simp only[n7,simprocAttr];refine z7 (cF9 sh p n w3 hsh hw K hn) ?_;rintro ul w5 ⟨hol,hx5⟩;have hul:=hol.rw_ (b7 hx5);have hx15:=hx13.trans hx5;obtain⟨hll,hsub⟩:=cq3 K hn;obtain⟨hp16,hg16⟩:=bB7 K;have hpp:=J0 p;have hwl:=Z5 p hw;generalize bp0 (b9 p) n=l1 at hul hll hsub hF;have hA:∀m∈p.procs.map (·.name),(((b9 p).of ((b9 p).pr m)).flatMap fun it=>(L4 it.s).filter fun v=>p.globals.contains v).length≤1000000:=fun m hm=>by
  obtain⟨i,hi,hpr,_⟩:=ac4 hm;rw[hpr];refine dr7 (ba0 _ (fun t=>(L4 t).length) (fun it=>dt9 _ _) _) ?_;exact cJ5 _ bM0 p hw i hi
 have hS1:=hul.isS;have hn1:=hul.vlen;generalize hAf:(fun m=>((b9 p).of ((b9 p).pr m)).flatMap fun it=>(L4 it.s).filter fun v=>p.globals.contains v)=A at hF;have hA':∀m∈p.procs.map (·.name),(A m).length≤1000000:=fun m hm=>by rw[←hAf];exact hA m hm
 have htot:(l1.flatMap A).length≤16000000:=by
  refine dr7 (S1 A 1000000 l1 fun x hx=>hA' x (hsub x hx)) ?_;omega
 simp only[n7,n8,simprocAttr,hS1,hn1];refine n9 [2,5,21,22] (σ:=Nat×Value) (fun s f w'=>f 23 = .int .i64 s.1∧f 6=s.2∧s.1≤l1.length∧B0 (i4 w5) w' 9 s.2 ((l1.take s.1).flatMap A)∧o7 w5 w') (fun s=>l1.length-s.1) (0,.slice none 0 0) ?_ ?_
 ·simp only[p6,simprocAttr];exact⟨by trivial,by trivial,dr8 _,by simpa using B0.nil _ _ _,t8.refl _⟩
 rintro⟨i,u⟩ f w6 hk ⟨h23,h6,hil,ho,hx6⟩;simp only at h23 h6 hil ho;simp only[dq9,p6,simprocAttr]at hk;obtain⟨e2,e5,e21,e22,_⟩:=hk;have hpre:=dr7 (ca5 A l1 i) htot;simp only[n7,n8,simprocAttr,h23,e22];refine m8 (fun hc=>?_) (fun hc=>?_);rotate_left
 ·have hge:i=l1.length:=by simp at hc;omega
  subst hge;rw[ds2]at ho;simp only[n7,simprocAttr,h6];refine z7 (an7 ho (by omega)) ?_;rintro _ w7 ⟨ho7,hm7⟩;have hx57:=ho.ext2 hx6 hm7;simp only[n7,simprocAttr,h6];refine z7 (aU3 ho7 (by rw[S3];omega)) ?_;rintro u8 w8 ⟨ho8,hm8,_⟩;have hx58:=ho7.ext2 hx57 hm8;have hx08:=hx1.trans (hx15.trans hx58);simp only[n7,simprocAttr];refine o6 results154 ?_;simp only[p6,simprocAttr];exact⟨by rw[hF];exact ho8.back (hx1.trans hx15),hx08⟩
 have hlt:i<l1.length:=by simpa using hc
 have hin:=hul.inS hlt;have hld:=ldS hul (b7 hx6) hlt;have htk:=I9 A l1 hlt;have hmi:=hsub _ (dr5 hlt);have hAi:=hA' _ hmi;generalize l1[i]=m at hld htk hmi hAi;obtain⟨q,hq,hpr,_⟩:=ac4 hmi;obtain⟨x,hok,_⟩:=V7 p hw q hq;obtain⟨hmem,hlen⟩:=bb2 p hw q hq;have hx56:o7 w3 w6:=hx5.trans hx6;simp only[n7,n8,z6,simprocAttr,h23,e5,e21,hin,hld];refine B2 (aq6 sh (b9 p) m w6 (hsh.mono (b7 hx56)) (by rw[hpp];omega)) (fun w7 hx7=>?_);rw[hpr];simp only[n7,simprocAttr];refine z7 (aF3 (i4 w3) sh (b9 p) q x _ w7 hsh (b7 (hx56.trans hx7)) hok) ?_;rintro ui w8 ⟨hui,hx8⟩;have hAm:A m=((b9 p).of q).flatMap fun it=>(L4 it.s).filter fun v=>p.globals.contains v:=by
  rw[←hAf];simp only[hpr]
 generalize(b9 p).of q=l at hui hmem hlen hAm;have hS2:=hui.isS;have hn2:=hui.vlen;have ho8:=ho.ext (hx7.trans hx8);have hx58:=hx6.trans (hx7.trans hx8);generalize hBf:(fun it:It=>(L4 it.s).filter fun v=>p.globals.contains v)=B at hAm;have hBt:(l.flatMap B).length≤1000000:=by rw[←hAm];exact hAi
 generalize(l1.take i).flatMap A=pre at ho8 hpre htk;simp only[n7,n8,simprocAttr,hS2,hn2];refine n9 [2,5,21,22,23,31,32] (σ:=Nat×Value) (fun s f w'=>f 33 = .int .i64 s.1∧f 6=s.2∧s.1≤l.length∧B0 (i4 w5) w' 9 s.2 (pre++(l.take s.1).flatMap B)∧o7 w5 w') (fun s=>l.length-s.1) (0,u) ?_ ?_
 ·simp only[p6,simprocAttr];exact⟨by trivial,h6,dr8 _,by simpa using ho8,hx58⟩
 rintro⟨j,u9⟩ f9 w9 hk ⟨h33,h69,hjl,ho9,hx9⟩;simp only at h33 h69 hjl ho9;simp only[dq9,p6,simprocAttr]at hk;obtain⟨g2,g5,g21,g22,g23,g31,g32,_⟩:=hk;have hpre2:=dr7 (ca5 B l j) hBt;simp only[n7,n8,simprocAttr,h33,g32];refine m8 (fun hc=>?_) (fun hc=>?_);rotate_left
 ·have hge:j=l.length:=by simp at hc;omega
  subst hge;rw[ds2,←hAm]at ho9;simp only[n7,n8,simprocAttr,g23,h23];refine⟨(i+1,u9),by simp only[];omega,by simp only[];rw[A8 i (by omega)],h69,by simp only[];omega,?_,hx9⟩;simp only[];rw[htk];exact ho9
 have hlt9:j<l.length:=by simpa using hc
 clear hin hld;have hin:=hui.inS hlt9;obtain⟨sv,hsv,hld⟩:=E4 (P:=prog) (t:=121) hui (b7 (hx5.trans hx9)) (dq7 hlt9) ab1 ab2 Z1 I7;rw[I7]at hld;have htk9:=I9 B l hlt9;have hwit:=hwl _ (hmem _ (dr5 hlt9));generalize l[j]=it at hsv htk9 hwit;obtain⟨c,wz2,w10,hal,hst,hx10,hati⟩:=az6 (hsv.mono (b7 (hx5.trans hx9))) (d7 _);obtain⟨hats,_,_⟩:=hati.it;obtain⟨vt,hvt,ldT,_⟩:=hats.st_v;have k3:=ldT w10 (d7 _);have hBit:B it=(L4 it.s).filter fun v=>p.globals.contains v:=by rw[←hBf]
 simp only[n7,n8,z6,simprocAttr,h33,g31,hin,hld,hal,hst,k3];refine z7 (bc1 vt it.s w10 hvt hwit) ?_;rintro uN w11 ⟨hoN,hx11⟩;have ho10:=ho9.ext hx10;have hoN2:R (B7 w11 (A4 u9)) uN (L4 it.s):=hoN.flatR fun b hb=>D3 fun hbu=>by
  have h1:=ho10.lt hbu;have h2:=D0 (hoN.free hb);omega
 have ho11:=ho10.ext hx11;have hx511:=hx9.trans (hx10.trans hx11);have hNl:=dr7 (bc2 it.s) hwit;generalize L4 it.s=nl at hoN2 hBit hNl;generalize(l.take j).flatMap B=pre2 at ho11 hpre2 htk9;have hS3:=hoN2.isS;have hn3:=hoN2.vlen;simp only[n7,n8,simprocAttr,hS3,hn3];refine n9 [2,5,21,22,23,31,32,33,39,40] (σ:=Nat×Value) (fun s f w'=>f 41 = .int .i64 s.1∧f 6=s.2∧s.1≤nl.length∧B0 (i4 w5) w' 9 s.2 (pre++pre2++(nl.take s.1).filter fun v=>p.globals.contains v)∧t8 (A4 u9) w11 w'∧D7 w11 u9 s.2) (fun s=>nl.length-s.1) (0,u9) ?_ ?_
 ·simp only[p6,simprocAttr];exact⟨by trivial,h69,dr8 _,by simpa using ho11,t8.refl _,fun b hb=>.inl hb⟩
 rintro⟨k,u12⟩ f12 w12 hk ⟨h41,h612,hkl,ho12,hm12,hmv12⟩;simp only at h41 h612 hkl ho12 hmv12;simp only[dq9,p6,simprocAttr]at hk;obtain⟨q2,q5,q21,q22,q23,q31,q32,q33,q39,q40,_⟩:=hk;have hx512:=ho11.ext2 hx511 hm12;have hcnt:((nl.take k).filter fun v=>p.globals.contains v).length≤k:=dr7 (dt9 _ _) (by rw[ds3];omega);simp only[n7,n8,simprocAttr,h41,q40];refine m8 (fun hc=>?_) (fun hc=>?_);rotate_left
 ·have hge:k=nl.length:=by simp at hc;omega
  subst hge;rw[ds2,←hBit]at ho12;simp only[n7,n8,simprocAttr,q33,h33];refine⟨(j+1,u12),by simp only[];omega,by simp only[];rw[A8 j (by omega)],h612,by simp only[];omega,?_,hx512⟩;simp only[];rw[htk9,←dt4];exact ho12
 have hlt12:k<nl.length:=by simpa using hc
 clear hin hld;have hin:=hoN2.inS hlt12;have hld:=ldS hoN2 (C8 hm12) hlt12;have htk12:((nl.take (k+1)).filter fun v=>p.globals.contains v)=((nl.take k).filter fun v=>p.globals.contains v)++if p.globals.contains nl[k]then[nl[k]]else[]:=by
  rw[dr6 hlt12,dy3]
  congr 1
  by_cases h:p.globals.contains nl[k]=true<;>simp[List.filter_cons]
 generalize nl[k]=y at hld htk12;have lg:=ld w12 (hlw _ (hx15.trans hx512));simp only[n7,n8,z6,simprocAttr,h41,q2,g2,e2,q39,hin,hld,lg];refine C7 (O3 vg p.globals y w12 (A3.mono (b7 (hx1.trans (hx15.trans hx512))) hg) (by omega)) ?_;rcases dq8 (p.globals.contains y)with hq|hq
 ·obtain⟨p1,u13,w13,p2,p3,p4,p5⟩:=push (e:=22) ar6 rfl ho12 (x:=o9 y) (y:=y) rfl (by simp only[dr1];omega) (by simp only[dr1];omega) (b7 hx512);simp only[n7,n8,simprocAttr,hq,h41,h612,p1,p2];refine⟨(k+1,u13),by simp only[];omega,by simp only[];rw[A8 k (by omega)],by trivial,by simp only[];omega,?_,hm12.chain p4 fun b hb hbu=>?_,fun b hb=>?_⟩
  ·simp only[];rw[htk12,if_pos hq,←dt4];exact p3
  ·rcases hmv12 b hbu with h|h
   ·exact h
   ·omega
  ·rcases p5 b hb with h|h
   ·exact hmv12 b h
   ·exact .inr (dr7 hm12.size h)
 ·simp only[n7,n8,simprocAttr,hq,h41];refine⟨(k+1,u12),by simp only[];omega,by simp only[];rw[A8 k (by omega)],h612,by simp only[];omega,?_,hm12,hmv12⟩;simp only[];rw[htk12,if_neg (by rw[hq];simp),du2];exact ho12
def dA2:=@List.getElem_map
def L5(kv:List (A7×Value))(k:A7):Option Value:=(kv.find? fun p=>decide (p.1=k)).map (·.2)
def aF0(kv:List (A7×Value))(k:A7)(v:Value):List (A7×Value):=if kv.any fun p=>decide (p.1=k)then kv.map fun p=>if p.1=k then(p.1,v)else p else kv++[(k,v)]
def aJ1(w:World)(r:Nat)(kv:List (A7×Value)):Prop:=∃es clock,w.heap[r]?=some (.map es clock)∧es.toList.map (fun e=>(e.key,e.val))=kv.map (fun p=>(o9 p.1,p.2))∧(kv.map (·.1)).Nodup∧(∀x∈es.toList,x.born<clock)∧(es.toList.map (·.born)).Nodup
theorem cA9{a b:A7}(h:o9 a=o9 b):a=b:=by
 unfold o9 at h;simp only[Value.string.injEq,ByteArray.mk.injEq]at h;have:=ds7 Array.toList h;cases a;cases b;simpa using this
section
variable {P:Program} {w:World} {t k e:TypeId} {r:Nat} {kv:List (A7×Value)}
theorem aJ1.lt(hm:aJ1 w r kv):r<w.heap.size:=by
 obtain⟨es,c,h,_⟩:=hm;exact(dr3.1 h).1
theorem aJ1.mod{M:Nat→Prop}{w':World}(hm:aJ1 w r kv)(h:t8 M w w')(hr:¬M r):aJ1 w' r kv:=by
 have hlt:=hm.lt;obtain⟨es,c,h1,h2⟩:=hm;exact⟨es,c,(h.block r hlt hr).trans h1,h2⟩
theorem aJ1.new(w:World)(t:TypeId):(Instr.makeMap t none).run P w = .ok (.map (some w.heap.size)) (w.alloc (.map #[] 0))∧aJ1 (w.alloc (.map #[] 0)) w.heap.size []∧o7 w (w.alloc (.map #[] 0)):=by
 refine⟨?_,⟨#[],0,dv4 w _,rfl,by simp,by simp,by simp⟩,o7.alloc _ _⟩;unfold Instr.makeMap;rfl
theorem aD3{d:TypeDesc}(hd:d = .string)(s:A7):∀(l:List MapEntry) (kv:List (A7×Value)) (i:Nat),l.map (fun e=>(e.key,e.val))=kv.map (fun p=>(o9 p.1,p.2)) →
  (L5 kv s=none∧(kv.any fun p=>decide (p.1=s))=false∧Instr.findNow d (o9 s) l i=some none) ∨
  ∃j v,kv[j]?  = some (s,v)∧L5 kv s=some v∧(kv.any fun p=>decide (p.1=s))=true∧Instr.findNow d (o9 s) l i=some (some (i+j,v))
 | [],kv,i,h=>by
  have:kv=[]:=by simpa using h.symm
  subst this;exact .inl ⟨rfl,rfl,rfl⟩
 | e::l,[],i,h=>by simp at h
 | e::l,p::kv,i,h=>by
  obtain⟨p1,p2⟩:=p;obtain⟨ek,ev,eb⟩:=e;simp only[dv6,dD9,Prod.mk.injEq]at h;obtain⟨⟨rfl,rfl⟩,h2⟩:=h;subst hd;have hs:Instr.sameNow .string (o9 s) (o9 p1)=some (decide (p1=s)):=by
   have:=MapKept.bytes_beq ⟨s.b.toArray⟩ ⟨p1.b.toArray⟩;simp only[Instr.sameNow,o9]
   congr 1
   rw[dD8,this,decide_eq_true_iff];constructor
   ·intro e;exact(cA9 (by unfold o9;rw[e])).symm
   ·rintro rfl;rfl
  by_cases hp:p1=s
  ·subst hp;refine .inr ⟨0,ev,by simp,by simp[L5],by simp,?_⟩;simp only[Instr.findNow,hs,decide_true];rfl
  ·have hd':decide (p1=s)=false:=by simp[hp]
   rcases aD3 rfl s l kv (i+1) h2 with⟨h3,h4,h5⟩|⟨j,v,h3,h4,h5,h6⟩
   ·refine .inl ⟨by unfold L5 at *;rw[List.find?_cons,hd'];exact h3,by rw[List.any_cons,hd',h4];rfl,?_⟩;simp only[Instr.findNow,hs,hd'];exact h5
   ·refine .inr ⟨j+1,v,by simpa using h3,by unfold L5 at *;rw[List.find?_cons,hd'];exact h4,by rw[List.any_cons,h5];simp,?_⟩;simp only[Instr.findNow,hs,hd',h6]
    congr 3;omega
theorem aJ1.lookup(hm:aJ1 w r kv)(ht:P.underlying t=some (.map k e))(hk:P.underlying k=some .string){z:Value}(hz:G0 P e=some z)(s:A7):
  (Instr.lookup t (.map (some r)) (o9 s) false).run P w = .ok ((L5 kv s).getD z) w:=by
 obtain⟨es,c,h1,h2,h3,_⟩:=hm;obtain⟨i,hi,hiz⟩:=A0 hz;have hck:=MapKept.run_checkKey (P:=P) (w:=w) (k:=o9 s) hk (show MapKept.IsKey .string (o9 s)from trivial) es.isEmpty 9999;have hzr:(zeroValue e).run P w = .ok z w:=by
  unfold zeroValue;simp[N3,hi,hiz]
 rcases aD3 rfl s es.toList kv 0 h2 with⟨h4,h5,h6⟩|⟨j,v,h4,h5,h6,h7⟩
 ·have hf:=MapKept.run_findKey (P:=P) (w:=w) hk h6;unfold Instr.lookup;simp only[dt3,run_underlying ht,ds6,MapKept.run_getObj_map h1,du6,hck,hf,hzr,h4,Option.getD_none];rfl
 ·have hf:=MapKept.run_findKey (P:=P) (w:=w) hk h7;unfold Instr.lookup;simp only[dt3,run_underlying ht,ds6,MapKept.run_getObj_map h1,du6,hck,hf,h5,dw8];rfl
theorem bC2(w:World)(r:Nat)(o:Obj):t8 (fun b=>b=r) w {w with heap:=w.heap.setIfInBounds r o}:=
 ⟨rfl,rfl,rfl,by simp,fun b hb hne=>by rw[Array.getElem?_setIfInBounds_ne (fun e=>hne e.symm)]⟩
theorem aJ1.update(hm:aJ1 w r kv)(ht:P.underlying t=some (.map k e))(hk:P.underlying k=some .string)(s:A7)(v:Value):
  ∃w',(Instr.mapUpdate t (.map (some r)) (o9 s) v).run P w = .ok () w'∧aJ1 w' r (aF0 kv s v)∧t8 (fun b=>b=r) w w':=by
 obtain⟨es,c,h1,h2,h3,h4,h5⟩:=hm;have hck:=MapKept.run_checkKey (P:=P) (w:=w) (k:=o9 s) hk (show MapKept.IsKey .string (o9 s)from trivial) false 9999;have hlt:=(dr3.1 h1).1;rcases aD3 rfl s es.toList kv 0 h2 with⟨h6,h7,h8⟩|⟨j,v0,h6,h7,h8,h9⟩
 ·have hf:=MapKept.run_findKey (P:=P) (w:=w) hk h8;refine⟨{w with heap:=w.heap.setIfInBounds r (.map (es.push ⟨o9 s,v,c⟩) (c+1))},?_,⟨es.push ⟨o9 s,v,c⟩,c+1,by simp[hlt],?_,?_,?_,?_⟩,bC2 w r _⟩
  ·unfold Instr.mapUpdate;simp only[dt3,run_underlying ht,ds6,MapKept.run_getObj_map h1,hck,hf];exact MapKept.run_setObj_map _ h1
  ·rw[aF0,if_neg (by rw[h7];simp),Array.toList_push,du1,du1,h2];rfl
  ·rw[aF0,if_neg (by rw[h7];simp),du1,dw0];refine⟨h3,by simp,fun a ha b hb=>?_⟩;simp only[dv6,List.map_nil,dt8]at hb;subst hb;rintro rfl;obtain⟨p,hp,hpe⟩:=dt7.1 ha;have:=List.any_eq_false.1 h7 p hp;simp[hpe]at this
  ·intro x hx;rw[Array.toList_push]at hx;rcases ds4.1 hx with h|h
   ·have:=h4 x h;omega
   ·simp only[dt8]at h;subst h;exact Nat.lt_succ_self _
  ·rw[Array.toList_push,du1,dw0];refine⟨h5,by simp,fun a ha b hb=>?_⟩;simp only[dv6,List.map_nil,dt8]at hb;subst hb;rintro rfl;obtain⟨x,hx,hxe⟩:=dt7.1 ha;have:=h4 x hx;omega
 ·have hf:=MapKept.run_findKey (P:=P) (w:=w) hk h9;rw[du4]at hf;have hej:∃e0,es[j]?=some e0∧e0.key=o9 s:=by
   have:=ds7 (fun z=>z[j]?) h2;simp only[du5,h6,dx7]at this;cases hq:es.toList[j]? with
   | none=>rw[hq]at this;cases this
   | some e0=>
    rw[hq]at this;simp only[dx7,dC3,Prod.mk.injEq]at this;exact⟨e0,by rw[←dC8];exact hq,this.1⟩
  obtain⟨e0,he0,hek⟩:=hej;have hkt:(Instr.keyThatStays (o9 s) (o9 s)).run P w = .ok (o9 s) w:=MapKept.run_keyThatStays (d:=.string) trivial;have hmod:(es.modify j fun e=>{e with key:=o9 s,val:=v}).toList=es.toList.modify j (fun e=>{e with key:=o9 s,val:=v}):=by simp
  refine⟨{w with heap:=w.heap.setIfInBounds r (.map (es.modify j fun e=>{e with key:=o9 s,val:=v}) c)},?_,⟨es.modify j fun e=>{e with key:=o9 s,val:=v},c,by simp[hlt],?_,?_,?_,?_⟩,bC2 w r _⟩
  ·unfold Instr.mapUpdate;simp only[dt3,run_underlying ht,ds6,MapKept.run_getObj_map h1,hck,hf,he0,dx7,dw8,hek,hkt];exact MapKept.run_setObj_map _ h1
  ·rw[aF0,if_pos h8,hmod];apply dD7;intro n;have hn:=ds7 (fun z=>z[n]?) h2;simp only[du5]at hn ⊢;rw[List.getElem?_modify];have hj1:=dr4.1 h6;by_cases hnj:j=n
   ·subst hnj;rw[dC8,he0,h6];simp
   ·simp only[hnj,dy5,Option.map_map];cases hkn:kv[n]? with
    | none=>rw[hkn]at hn;simpa using hn
    | some p=>
     rw[hkn]at hn;have hne:p.1≠s:=fun e=>by
      have hn1:=dr4.1 hkn;have a1:(kv.map (·.1))[j]'(by simpa using hj1.1)=(kv.map (·.1))[n]'(by simpa using hn1.1):=by
       simp only[dA2,hj1.2,hn1.2,e]
      have h3':=dz0.1 h3;rcases Nat.lt_trichotomy j n with h|h|h
      ·exact h3' j n _ _ h a1
      ·exact hnj h
      ·exact h3' n j _ _ h a1.symm
     cases he:es.toList[n]? with
     | none=>rw[he]at hn;simp at hn
     | some x=>
      rw[he]at hn;simp only[dx7,dC3]at hn ⊢;simp only[Function.comp,hne,dy5];show some _=some _;exact ds7 some hn
  ·rw[aF0,if_pos h8,List.map_map];have:((fun x:A7×Value=>x.1) ∘ fun p=>if p.1=s then(p.1,v)else p)=fun x=>x.1:=by
    funext p;simp only[Function.comp];split<;>rfl
   rw[this];exact h3
  ·intro x hx;rw[hmod]at hx;obtain⟨n,hn,rfl⟩:=dw5.1 hx;rw[List.getElem_modify];have hn':n<es.toList.length:=by simpa using hn
   split
   ·show es.toList[n].born<c;exact h4 es.toList[n] (dr5 hn')
   ·exact h4 _ (dr5 hn')
  ·rw[hmod];have:(es.toList.modify j (fun e=>{e with key:=o9 s,val:=v})).map (·.born)=es.toList.map (·.born):=by
    apply dD7;intro n;simp only[du5,List.getElem?_modify];by_cases hjn:j=n<;>simp only[hjn,dx1,dy5]<;>(cases es.toList[n]?<;>rfl)
   rw[this];exact h5
end
theorem an0(kv:List (A7×Value))(k:A7)(v:Value)(j:A7):L5 (aF0 kv k v) j=if j=k then some v else L5 kv j:=by
 have key:∀l:List (A7×Value),L5 (l.map fun p=>if p.1=k then(p.1,v)else p) j=if j=k then(if l.any fun p=>decide (p.1=k)then some v else none)else L5 l j:=by
  intro l
  induction l with
  | nil=>simp[L5]
  | cons p l ih=>
   unfold L5 at *;rw[dv6,List.find?_cons,List.find?_cons,List.any_cons];by_cases h1:p.1=k
   ·by_cases h2:j=k
    ·subst h2;simp[h1]
    ·simp only[h1,dx1,h2,dy5]at ih ⊢;have h4:decide (k=j)=false:=by simp;exact fun e=>h2 e.symm
     rw[h4];exact ih
   ·by_cases h2:j=k
    ·subst h2;simp only[h1,dy5,decide_false,dC4,dx1]at ih ⊢;exact ih
    ·by_cases h3:p.1=j
     ·simp only[dy5,h2,h3,decide_true]
     ·simp only[h1,dy5,h2,h3,decide_false]at ih ⊢;exact ih
 unfold aF0;split
 ·next h=>rw[key kv];simp only[h,dx1]
 ·next h=>
  have h':=dB2.2 h;unfold L5;rw[List.find?_append];by_cases h2:j=k
  ·subst h2;have:kv.find? (fun p=>decide (p.1=j))=none:=dz6.2 fun p hp=>List.any_eq_false.1 h' p hp;rw[this];simp
  ·rw[if_neg h2];have h3:¬k=j:=fun e=>h2 e.symm;simp[h3]
theorem bB1{P:Program}{S:World→Prop}{K:Fr→World→Prop}{f:Fr}{w:World}{d:Option Nat}{ty:TypeId}{pos:String}{aft:Array Edge}{t:Nat}{m k x:Operand}:B1 P (some S) ⟨d,.mapUpdate t m k x,ty,pos,aft,none⟩ K f w=aW0 ((Instr.mapUpdate t (ev f m) (ev f k) (ev f x)).run P w) (F1 S K) f d:=rfl
end Go.Proofs.YtcbnbgpphippoaaGreat

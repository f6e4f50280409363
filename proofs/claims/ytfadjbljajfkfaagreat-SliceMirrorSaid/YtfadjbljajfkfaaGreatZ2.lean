/- sliceMirror.proved: for every input the law returns true. No condition. Part 2 of 7. -/
import Derived.Ground.Names2Prog
import Derived.Ground.NamesProg
import Derived.Laws.StructEq
import Derived.Lib.SlicesCompact
import Derived.Shelf.SlSortCmp.NoneTotal
import Derived.Shelf.SlSortCmp.WholeK
import Derived.Shelf.Slices.Clone
import Derived.Shelf.Slices.CompactS
import Derived.Shelf.Slices.Empties
import Derived.Shelf.Slices.In.SortNone
import Derived.Shelf.Slices.SearchI
import Derived.Shelf.Sort.Plain
import Derived.Shelf.Spec.SlicesInsert
import Derived.Shelf.Spec.SlicesInsertGrow
import Derived.Sort.Walk0
import Derived.Test.YtfadjbljajfkfaaGreatProg
import Derived.WideKeyRuns
import Derived.Test.YtfadjbljajfkfaaGreatZ1
set_option maxRecDepth 1000000
set_option maxHeartbeats 8000000
set_option linter.unusedVariables false
set_option linter.unusedSimpArgs false
set_option linter.unnecessarySimpa false
set_option linter.defProp false
namespace Go.Proofs.YtfadjbljajfkfaaGreat
open Go Tryz
def dV9:=@List.drop_length
def dN2:=@of_decide_eq_false
def dM8:=@of_decide_eq_true
mutual
def ai9:∀(t:St) (k:Nat) (c d b a:Int),(Y9 t k c d b a).length=ac9 t
 | .mk id kind labels name proc x has args thn els,k,c,d,b,a=>by
  simp only[Y9,dP4,dM7,H3,ac9];omega
def H3:∀(l:List St) (k:Nat) (c d b a:Int),(D2 l k c d b a).length=A9 l
 | [],_,_,_,_,_=>by simp[D2,A9]
 | t::l,k,c,d,b,a=>by
  simp only[D2,dM7,ai9,H3,A9]
end
theorem R8(t:St)(k:Nat)(b up nx a:Int):Y9 t k b up nx a =
  ⟨t,b,up,nx,a⟩::(D2 t.thn (k+1) b ((k:Int)+1) (if t.kind=6 then(k:Int)+1 else nx) (if t.kind=6 then(k:Int)+1 else a) ++
   D2 t.els (k+1+A9 t.thn) b ((k:Int)+1) (if t.kind=6 then(k:Int)+1 else nx) (if t.kind=6 then(k:Int)+1 else a)):=by
 cases t;simp only[Y9,H3,St.thn,St.els,St.kind];rfl
def dd7:∀(m:Nat) (l:List St) (o:It) (va v:Value) (h:Hp) (n:Nat) (vg vp T F E:Value) (L:List It) (lo D:List Int) (w:World),A9 l<=m->ShS h w n vg vp T F E L lo D->B5 h (i4 w)->R h v l->SV h va o->I1 l<=1000000->L.length+A9 l<=1000000 ->
  p7 prog 147 #[.pointer (some ⟨n,0,none⟩),v,va] w λu V=>(∃bN,ShS h V n vg vp bN F E (L++D2 l L.length o.proc o.up o.next o.loop) lo D/\o9 (λb=>b=n\/A3 T b) w V/\F0 w T bN):=by
 intro m
 induction m using Nat.strongRecOn with
 | ind m ih=>
 intro l o va v h n vg vp T F E L lo D w dn hs hh hv aA dr dj;refine p9 [.pointer (some ⟨n,0,none⟩),v,va] func147 rfl ?_;have hS:=hv.isS;have hn:=hv.vlen;have a9:∀b,(b=n\/A3 T b)->b<w.heap.size:=λb g=>by
  rcases g with rfl|g
  ·exact hs.lt
  ·exact hs.oL.lt g
 obtain⟨a,w1,b6,an,ha⟩:=cY7 (w:=w) (λb=>b=n\/A3 T b) aA a9;have c1:∀b,(b=n\/A3 T b)->b<w1.heap.size:=λb g=>dS9 (a9 b g) an.size;obtain⟨dd,cz,_,cI,_⟩:=K7.it aA ha;obtain⟨cL,_⟩:=K7.it_v aA ha;have cr:=hs.ext an;have aT:∀b,(b=n\/A3 T b)->h b=none:=λb g=>by
  rcases g with rfl|g
  ·exact hs.free
  ·exact hs.oL.free g
 have cd:B5 h (i4 w1):=t8 hh (b7 an);simp only[n8,o6,simprocAttr,b6,hS,hn];refine n9 [0,1,5,11,12] (σ:=Nat×Value×List It) (λs f V=>f 13 = .int .i64 s.1/\s.1<=l.length/\ShS h V n vg vp s.2.1 F E (L++s.2.2) lo D/\o9 (λb=>b=n\/A3 T b) w1 V/\F0 w1 T s.2.1 /\
  D2 l L.length o.proc o.up o.next o.loop=s.2.2++D2 (l.drop s.1) (L.length+s.2.2.length) o.proc o.up o.next o.loop/\s.2.2.length+A9 (l.drop s.1)=A9 l) (λs=>l.length-s.1) (0,T,[]) ?_ ?_
 ·simp only[p8,simprocAttr];exact⟨by trivial,dN6 _,by simpa using cr,o9.refl _,λb g=>.inl g,by simp,by simp⟩
 ·rintro⟨k,B,j⟩ f w2 hk ⟨ab,cl,W,aZ,S,G,ac⟩;simp only at ab cl W S G ac;simp only[dM6,p8,simprocAttr]at hk;obtain⟨e0,e1,e5,bV,bW,_⟩:=hk;simp only[n8,o6,simprocAttr,ab,bW];refine n7 (λhc=>?_) (λhc=>?_)
  ·have ax:k<l.length:=by simpa using hc
   have cg:=hv.inS ax;have aw:B5 h (i4 w2):=H5 cd aZ aT;obtain⟨sv,Y,bh⟩:=F9 (P:=prog) (t:=109) hv aw (dM4 ax) aS7 aT1 aD9 Z7;rw[Z7]at bh;have ad:l.drop k=l[k]::l.drop (k+1):=dR1 ax;have cC:=ak2 (dN5 ax);have cq:(l.drop (k+1)).length=l.length-(k+1):=dU8;generalize l[k]=t at Y ad cC;rw[ad]at G ac;rw[A9]at ac;have dl:=az6 t;have dq:=S8 t;have aW:(L++j).length=L.length+j.length:=dM7;have C:∀b,(b=n\/A3 B b)->h b=none:=λb g=>by
    rcases g with rfl|g
    ·exact hs.free
    ·exact W.oL.free g
   have b1:∀b,(b=n\/A3 B b)->b<w2.heap.size:=λb g=>by
    rcases g with rfl|g
    ·exact W.lt
    ·exact W.oL.lt g
   obtain⟨b,wz,H,b3,cw,ao,bc⟩:=df5 (w:=w2) (λb=>b=n\/A3 B b) Y b1;obtain⟨vl,ux,dD,vt,ve,dp,_,_,c8,cB,cA,a2,dB⟩:=K7.st Y bc;obtain⟨bD,_⟩:=K7.st_v Y bc;have z:=W.ext ao;have p:o9 (λb=>b=n\/A3 T b) w1 H:=aZ.trans (o9.up ao);have ci:B5 (B6 H λb=>b=n\/A3 B b) (i4 H):=B2 _ _;have b4:B5 (B6 w1 λb=>b=n\/A3 T b) (i4 H):=E1 p;have be:=E2 (P:=prog) (t:=151) (i:=2) (u:=B) z.cell rfl bf1;have b2:=z.oL.isS;have bk:=z.oL.vlen;rw[aW]at bk;have cf:IntKind.i64.wrap (((L.length+j.length:Nat):Int)+1)=((L.length+j.length+1:Nat):Int):=B0 _ (by omega);have cO:=cL H b4;obtain⟨tb,wy,w4,ba,bo,a0,c4,bs⟩:=X4.new (w:=H) aA;have cs:=z.ext a0;have cj:B5 (B6 H λb=>b=n\/A3 B b) (i4 w4):=t8 ci (b7 a0);have cF:=bD w4 cj;obtain⟨w5,bp,aL,bz⟩:=bs.setS Y;have J:o9 (λb=>b=n\/A3 B b) H w5:=(o9.up a0).chain bz λi D g=>by omega
   have ct:ShS h w5 n vg vp B F E (L++j) lo D:=cs.mod bz (by have:=z.lt;omega) (λb g=>by have:=z.oL.lt g;omega) (λb g=>by have:=z.oLo.lt g;omega) (λb g=>by have:=z.oHi.lt g;omega);have aU:IntKind.i64.wrap ((k:Int)+1)=((k+1:Nat):Int):=B0 k (by have:=U7 l;omega);have ck:B5 (B6 H λb=>b=n\/A3 B b) (i4 w5):=E1 J;have cG:=bD w5 ck;simp only[n8,o6,y0,simprocAttr,ab,e0,e1,e5,bV,cg,bh,b3,cw,be,b2,bk,cf,cO,ba,bo,cF,bp,hS,hn,aU];generalize hK:CW prog _ (ab3 1 (af8 _ _))=K;have bC:∀(nx:Int) (f6:Fr) (I:World),nx=(if(l.drop (k+1)).length=0 then o.next else((L.length+j.length:Nat):Int)+1+(ac9 t:Nat))->X4 h I tb ⟨t,o.proc,o.up,nx,o.loop⟩->o9 (λb=>b=tb) w5 I ->
     f6 0 = .pointer (some ⟨n,0,none⟩)->f6 5 = .pointer (some a)->f6 7 = .pointer (some b)->f6 8 = .int .i64 ((L.length+j.length+1:Nat):Int)->f6 9 = .pointer (some ⟨tb,0,none⟩)->f6 13 = .int .i64 k->K f6 I:=by
    intro nx f6 I co am ap g0 g5 g7 g8 g9 a8;have cu:ShS h I n vg vp B F E (L++j) lo D:=ct.mod ap (by have:=z.lt;omega) (λb g=>by have:=z.oL.lt g;omega) (λb g=>by have:=z.oLo.lt g;omega) (λb g=>by have:=z.oHi.lt g;omega);have N:o9 (λb=>b=n\/A3 B b) H I:=J.chain ap λi D g=>by omega
    have A:=cu.ext (o7.drew I);obtain⟨iv,ch,cJ⟩:=am.ld;have ce:B5 h (i4 I.drew):=by
     have h3:B5 h (i4 H):=t8 aw (b7 ao);exact t8 (H5 h3 N C) (b7 (o7.drew I))
    obtain⟨p1,aq,w7,p2,p3,p4,p5⟩:=push (e:=151) dy9 rfl A.oL (x:=iv) (y:=⟨t,o.proc,o.up,nx,o.loop⟩) ch.enc (by rw[aW];omega) (by rw[aW];omega) ce;have ca:w7.heap[n]?=some (.cells #[vg,vp,B,F,E] 153 (0,0)):=(p4.block n A.lt λg=>(A.d1 n g).1 rfl).trans A.cell;obtain⟨w8,s8,cb,a1⟩:=ag5 (P:=prog) (t:=151) (i:=2) (x:=aq) ca (by simp) (E3 p3.isS) (X8 p3.isS) (z7 cU2).choose_spec.1 (by rw[<-D9 (z7 cU2).choose_spec.1];exact dp6);have ak:ShS h w8 n vg vp aq F E ((L++j)++[⟨t,o.proc,o.up,nx,o.loop⟩]) lo D:=A.setL p4 p3 p5 a1 (by simpa using cb);have cx:H.heap.size<=I.drew.heap.size:=(N.trans (o9.up (o7.drew I))).size;have O:o9 (λb=>b=n\/A3 B b) H w8:=((N.trans (o9.up (o7.drew I))).chain p4 λi D g=>.inr g).chain a1 λi D g=>.inl g;have ay:o9 (λb=>b=n\/A3 T b) w1 w8:=p.chain O λi D g=>by
     rcases g with g|g
     ·exact .inl g
     ·rcases S i g with g|g
      ·exact .inr g
      ·omega
    have aH:∀i,i<H.heap.size->A3 aq i->A3 B i:=λi D g=>by
     rcases p5 i g with g|g
     ·exact g
     ·omega
    have br:tb<I.heap.size:=am.lt;have ah:¬A3 B tb:=λg=>by have:=z.oL.lt g;omega
    have cT:∀K f d w,F3 prog (λV=>o9 (A3 B) I.drew V) (Instr.loadAt 151 (.pointer (some ⟨n,2,none⟩))) K f d w=K (C4 f d B) w:=λK f d w=>B7 (w0:=I.drew) (o9.refl _) λV aY=>E2 (i:=2) ((aY.block n A.lt λg=>(A.d1 n g).1 rfl).trans A.cell) rfl bf1;have cU:∀K f d w,F3 prog (λV=>o9 (A3 B) I.drew V) (Instr.loadAt 150 (.pointer (some ⟨tb,0,none⟩))) K f d w=K (C4 f d iv) w:=λK f d w=>B7 (w0:=I.drew) (o9.refl _) λV aY=>(cJ V (aY.block tb br ah)).1;rw[<-hK];simp only[n8,simprocAttr];refine C0 (λV=>o9 (A3 B) I.drew V) 8 (A5 [0,1,2,3,4,5,6,7]) ?_;simp only[D6,A5,n8,o6,simprocAttr,g0,g9,cT,cU,p1,p2,E8];refine⟨o9.up (o7.alloc _ _),p4,?_⟩;have bt:X4 h w8 tb ⟨t,o.proc,o.up,nx,o.loop⟩:=((am.mod (o9.up (M:=A3 B) (o7.drew I)) ah).mod p4 ah).mod a1 (by have:=z.lt;omega);obtain⟨dt,_,bE⟩:=bt.ld;have cM:=(bE w8 rfl).2;have cH:=cI w8 (E1 ay);obtain⟨bv,b5,bd⟩:=cx1 h o.proc ((L.length+j.length+1:Nat):Int) nx o.loop;obtain⟨ib,wq,w9,bb,bq,bA,c5,aM⟩:=X4.new (w:=w8) bd;have cv:=ak.ext bA;have U:o9 (λb=>b=n\/A3 B b) H w9:=O.trans (o9.up bA);have cN:=a2 w9 (E1 U);simp only[n8,o6,simprocAttr,g5,g7,g8,g9,s8,cH,cM,b5,bb,bq,cN];generalize b0:CW prog _ (ab3 1 (af8 _ _))=K2;have aj:((L++j)++[(⟨t,o.proc,o.up,nx,o.loop⟩:It)]).length=L.length+j.length+1:=by simp[dW3]
    have aF:¬A3 aq ib:=λg=>by have:=ak.oL.lt g;omega
    have aG:ib≠n:=λe=>by have:=ak.lt;omega
    have aP:∀(aD aC:Int) (f9:Fr) (Q:World),aD=(if t.kind=6 then((L.length+j.length:Nat):Int)+1 else nx)->aC=(if t.kind=6 then((L.length+j.length:Nat):Int)+1 else o.loop)->X4 h Q ib ⟨cC6,o.proc,((L.length+j.length+1:Nat):Int),aD,aC⟩->o9 (λb=>b=ib) w9 Q ->
      f9 0 = .pointer (some ⟨n,0,none⟩)->f9 7 = .pointer (some b)->f9 10 = .pointer (some ⟨ib,0,none⟩)->f9 13 = .int .i64 k->K2 f9 Q:=by
     intro aD aC f9 Q bm bj al aN q0 q7 bL cS;have bn:=cv.mod aN (λe=>aG e.symm) (λc g e=>by subst e;exact aF g) (λc g e=>by subst e;have:=ak.oLo.lt g;omega) (λc g e=>by subst e;have:=ak.oHi.lt g;omega);have q:o9 (λb=>b=n\/A3 B b) H Q:=U.chain aN λi D g=>by have:=O.size;omega
     obtain⟨nv,cn,cK⟩:=al.ld;have bI:=a2 Q (E1 q);have bG:=(cK Q rfl).1;have h3:B5 h (i4 H):=t8 aw (b7 ao);have bf:B5 h (i4 Q):=H5 h3 q C;rw[<-b0];simp only[n8,o6,simprocAttr,q0,q7,bL,bI,bG];refine y5 (ih (A9 t.thn) (by omega) t.thn _ nv vt h n vg vp aq F E _ lo D Q (dO0 _) bn bf cB cn (by omega) (by rw[aj];omega)) ?_;rintro u Z ⟨bM,aJ,aO,ag⟩;rw[aj]at aJ;have bQ:=q.size;have r:o9 (λb=>b=n\/A3 B b) H Z:=q.chain aO λi D g=>g.imp id (aH i D);have az:∀i,i<H.heap.size->A3 bM i->A3 B i:=λi D g=>by
      rcases ag i g with g|g
      ·exact aH i D g
      ·omega
     have aX:X4 h Z ib ⟨cC6,o.proc,((L.length+j.length+1:Nat):Int),aD,aC⟩:=al.mod aO λg=>by
      rcases g with g|g
      ·exact aG g
      ·exact aF g
     obtain⟨cP,bl,bF⟩:=aX.ld;have bJ:=a2 Z (E1 r);have bH:=(bF Z rfl).1;have bg:B5 h (i4 Z):=H5 h3 r C;have aI:∀X:List It,X.length=A9 t.thn->(((L++j)++[(⟨t,o.proc,o.up,nx,o.loop⟩:It)])++X).length=L.length+j.length+1+A9 t.thn:=λX hX=>by rw[dM7,aj,hX]
     simp only[n8,o6,simprocAttr,q0,q7,bL,bJ,bH];refine y5 (ih (A9 t.els) (by omega) t.els _ cP ve h n vg vp bM F E _ lo D Z (dO0 _) aJ bg cA bl (by omega) (by rw[aI _ (H3 _ _ _ _ _ _)];omega)) ?_;rintro u bO ⟨cV,aK,bx,aV⟩;rw[aI _ (H3 _ _ _ _ _ _)]at aK;have bR:=r.size;have af:o9 (λb=>b=n\/A3 B b) H bO:=r.chain bx λi D g=>g.imp id (az i D);have ae:o9 (λb=>b=n\/A3 T b) w1 bO:=p.chain af λi D g=>by
      rcases g with g|g
      ·exact .inl g
      ·rcases S i g with g|g
       ·exact .inr g
       ·omega
     simp only[n8,o6,simprocAttr,cS];refine⟨(k+1,cV,j++Y9 t (L.length+j.length) o.proc o.up nx o.loop),by omega,by rw[B0 k (by have:=U7 l;omega)],by omega,?_,ae,?_,?_,?_⟩
     ·simp only[];have e1:((L.length+j.length+1:Nat):Int)=((L.length+j.length:Nat):Int)+1:=by omega
      rw[R8,<-bm,<-bj,<-e1];have e2:=aK;simp only[dP5,dX6,dX5]at e2 ⊢;exact e2
     ·simp only[];intro i g;rcases aV i g with g|g
      ·rcases ag i g with g|g
       ·rcases p5 i g with g|g
        ·exact S i g
        ·have:=p.size;exact .inr (by omega)
       ·have:=p.size;exact .inr (by omega)
      ·have:=p.size;exact .inr (by omega)
     ·simp only[];rw[G,D2,<-co];simp only[dP5,dM7,dW3]
     ·simp only[];rw[dM7,ai9];omega
    refine n7 (λh6=>?_) (λh6=>?_)
    ·have k6:=dM8 h6;obtain⟨wr,cp,bu,cD⟩:=aM.setN (((L.length+j.length+1:Nat):Int));obtain⟨wt,cy,bw,cE⟩:=bu.setLp (((L.length+j.length+1:Nat):Int));simp only[n8,o6,simprocAttr,g8,cp,cy];refine aP ((L.length+j.length+1:Nat):Int) ((L.length+j.length+1:Nat):Int) _ _ (by rw[if_pos k6];omega) (by rw[if_pos k6];omega) bw (cD.trans cE) ?_ ?_ ?_ ?_<;>simp only[p8,↓reduceIte,Nat.reduceEqDiff,g0,g7,a8]
    ·have k6:=dN2 h6;simp only[n8,simprocAttr];refine aP nx o.loop _ _ (by rw[if_neg k6]) (by rw[if_neg k6]) aM (o9.refl _) ?_ ?_ ?_ ?_<;>simp only[p8,↓reduceIte,Nat.reduceEqDiff,g0,g7,a8]
   refine n7 (λh6=>?_) (λh6=>?_)
   ·have cm:¬(l.drop (k+1)).length=0:=by
     have:((k+1:Nat):Int)<(l.length:Nat):=by simpa using h6
     omega
    simp only[n8,simprocAttr,cG];refine B9 (bw7 _ t sv w5 (dO0 _) (Y.mono ?_) (by omega)) (λI ap=>?_)
    ·exact H5 (t8 aw (b7 ao)) J C
    have bi:IntKind.i64.wrap (((L.length+j.length+1:Nat):Int)+((ac9 t:Nat):Int))=((L.length+j.length:Nat):Int)+1+(ac9 t:Nat):=by rw[M3 _ (by omega)];omega
    obtain⟨w7,k1,k2,k3⟩:=(aL.mod (o9.up (M:=λ_=>False) ap) id).setN (((L.length+j.length:Nat):Int)+1+(ac9 t:Nat));simp only[n8,o6,simprocAttr,bi,k1];refine bC _ _ _ (by rw[if_neg cm]) k2 ((o9.up ap).trans k3) ?_ ?_ ?_ ?_ ?_ ?_<;>simp only[p8,↓reduceIte,Nat.reduceEqDiff,e0,e5,ab]
   ·have hz:(l.drop (k+1)).length=0:=by
     have:¬((k+1:Nat):Int)<(l.length:Nat):=by simpa using h6
     omega
    simp only[n8,simprocAttr];refine bC _ _ _ (by rw[if_pos hz]) aL (o9.refl _) ?_ ?_ ?_ ?_ ?_ ?_<;>simp only[p8,↓reduceIte,Nat.reduceEqDiff,e0,e5,ab]
  ·have cc:k=l.length:=by simp at hc;omega
   subst cc;simp only[n8,simprocAttr];refine bG3 results147 ?_;rw[dV9]at G;simp only[D2,dP8]at G;rw[G];exact⟨B,W,(o9.up an).trans aZ,λb g=>(S b g).imp id λh=>dN1 an.size h⟩
def aS0:∀(l m:List Pr) (s:Sh) (i:Nat),H6 s i (l++m)=H6 (H6 s i l) (i+l.length) m
 | [],m,s,i=>by simp[H6]
 | f::l,m,s,i=>by simp only[dX6,H6,aS0 l m,dP4];congr 1;omega
def ca2(l:List Pr)(s:Sh){k:Nat}(a:k<l.length):H6 s 0 (l.take (k+1))=F7 (H6 s 0 (l.take k)) k l[k]:=by
 rw[dN3 a,aS0,dN9,dT1 (Nat.le_of_lt a)];simp only[H6,dQ2]
theorem aY7:∀(l:List Pr) (s:Sh) (i:Nat),(H6 s i l).p=s.p
 | [],s,i=>rfl
 | f::l,s,i=>by rw[H6,aY7 l];rfl
def aD4:∀(l:List Pr) (s:Sh) (i:Nat),(H6 s i l).l.length=s.l.length+(l.map λf=>A9 f.body).sum
 | [],s,i=>by simp[H6]
 | f::l,s,i=>by
  rw[H6,aD4 l];simp only[F7,dM7,H3,dQ8,dX8];omega
def be2:∀(l:List Pr) (s:Sh) (i:Nat),(H6 s i l).lo.length=s.lo.length+l.length/\(H6 s i l).hi.length=s.hi.length+l.length
 | [],s,i=>by simp[H6]
 | f::l,s,i=>by
  obtain⟨c,d⟩:=be2 l (F7 s i f) (i+1);have a:(F7 s i f).lo.length=s.lo.length+1:=by simp[F7]
  have b:(F7 s i f).hi.length=s.hi.length+1:=by simp[F7]
  rw[H6,dP4];exact⟨by omega,by omega⟩
def cI4(a vp:Value):B8 prog 153 [(0,.agg (List.toArray [a,vp]))]=some (.agg #[a,vp,.slice none 0 0,.slice none 0 0,.slice none 0 0]):=by
 simp[B8,do5,K8,Instr.fill,Value.cells]
def dl3(w:World)(c vp:Value):∃a b,(Instr.box 153 (.agg #[c,vp,.slice none 0 0,.slice none 0 0,.slice none 0 0])).run prog w = .ok (.pointer (some ⟨a,0,none⟩)) b/\o7 w b/\b.heap[a]?=some (.cells #[c,vp,.slice none 0 0,.slice none 0 0,.slice none 0 0] 153 (0,0))/\w.heap.size<=a:=
 ⟨_,_,rfl,o7.alloc _ _,dQ5 w _,dO0 _⟩
def ShS.at_{h:Hp}{w:World}{e:Nat}{d vp f b a:Value}{L:List It}{i g:List Int}{p:Pg}(s:ShS h w e d vp f b a L i g)(c:B5 h (i4 w))(k:R h d p.globals)(m:R h vp p.procs):At (i4 w) ⟨e,0,none⟩ (⟨p,L,i,g⟩:Sh):=by
 refine⟨[d,vp,f,b,a],⟨[d,vp],f,b,a,rfl,⟨d,vp,rfl,A4.mono c k,A4.mono c m⟩,s.oL.rw_ c,s.oLo.rw_ c,s.oHi.rw_ c⟩,λj u l=>?_⟩;rw[<-ak4,add_lit,dQ2,dU3 w e j _ 153 (0,0) s.cell];simpa using l
def ae7(h:Hp)(v:Value)(p:Pg)(w:World)(hv:SV h v p)(hh:B5 h (i4 w))(a7:C5 p<=1000000):p7 prog 90 #[v] w λu z=>(∃l L J Q n m,u = .pointer (some ⟨l,0,none⟩)/\ShS h z l L J Q n m (b9 p).l (b9 p).lo (b9 p).hi/\R h L p.globals/\R h J p.procs/\w.heap.size<=l/\(∀b,(A3 Q b\/A3 n b\/A3 m b)->w.heap.size<=b)/\o7 w z):=by
 refine p9 [v] func90 rfl ?_;obtain⟨a,A,aR,X,ha⟩:=ag6 (w:=w) (λ_=>False) hv (λ_ h=>h.elim);obtain⟨L,J,hg,hp,ld,_⟩:=K7.pg hv ha;obtain⟨lw,_⟩:=K7.pg_v hv ha;have a5:v = .agg (List.toArray [L,J]):=by
  obtain⟨cs,rfl,he⟩:=hv;obtain⟨u1,u2,rfl,h1,h2⟩:=bK8 he;obtain⟨bq,e2,hc⟩:=ha;obtain rfl:=ag2 e2;have l0:=(ld A (B2 _ _)).1;have l1:=(ld A (B2 _ _)).2;have k0:(Instr.loadAt 31 (.pointer (some a))).run prog A = .ok u1 A:=E7 (h:=B6 A λ_=>False) hc rfl O0 A (B2 _ _);have k1:(Instr.loadAt 32 (.pointer (some (a.add 1)))).run prog A = .ok u2 A:=z6 (h:=B6 A λ_=>False) hc (o:=1) rfl cb7 A (B2 _ _);have e0:=l0.symm.trans k0;have e1:=l1.symm.trans k1;simp only[Result.ok.injEq,and_true]at e0 e1;subst e0;subst e1;rfl
 have az:=lw A (B2 _ _);have M:B5 h (i4 A):=t8 hh (b7 X);have aL:=hp.isS;have aZ:=hp.vlen;have bz:=ag0 p.procs;have bt:=bm8 p.procs;unfold C5 at a7;obtain⟨l,w2,aP,aw,aS,E⟩:=dl3 A L J;have l2:=ld w2 (t8 (B2 _ _) (b7 aw));have a1:ShS h w2 l L J (.slice none 0 0) (.slice none 0 0) (.slice none 0 0) [] [] []:=⟨aB8 M E,aS,A8.nil _ _ _,A8.nil _ _ _,A8.nil _ _ _,λb c=>absurd c D1,λb c=>absurd c D1,λb c=>absurd c D1⟩;rw[a5]at az;simp only[n8,o6,simprocAttr,aR,az,cI4,aP,l2,aL,aZ];refine n9 [3,10,11] (σ:=Nat×Value×Value×Value) (λs f z=>f 12 = .int .i64 s.1/\s.1<=p.procs.length/\ShS h z l L J s.2.1 s.2.2.1 s.2.2.2 (H6 ⟨p,[],[],[]⟩ 0 (p.procs.take s.1)).l (H6 ⟨p,[],[],[]⟩ 0 (p.procs.take s.1)).lo (H6 ⟨p,[],[],[]⟩ 0 (p.procs.take s.1)).hi/\o7 A z/\(∀b,(A3 s.2.1 b\/A3 s.2.2.1 b\/A3 s.2.2.2 b)->A.heap.size<=b)) (λs=>p.procs.length-s.1) (0,.slice none 0 0,.slice none 0 0,.slice none 0 0) ?_ ?_
 ·simp only[p8,simprocAttr];exact⟨by trivial,dN6 _,by simpa[H6]using a1,aw,λb c=>by rcases c with h|h|h<;>exact absurd h D1⟩
 ·rintro⟨k,Q,n,m⟩ f w3 hk ⟨T,ak,C,ae,r⟩;simp only at T ak C r;simp only[dM6,p8,simprocAttr]at hk;obtain⟨e3,aH,aI,_⟩:=hk;simp only[n8,o6,simprocAttr,T,aI];refine n7 (λhc=>?_) (λhc=>?_)
  ·have U:k<p.procs.length:=by simpa using hc
   have a0:R h J p.procs:=hp;have aX:=hp.inS U;obtain⟨sv,ad,al⟩:=F9 (P:=prog) (t:=75) a0 (t8 M (b7 ae)) (dM4 U) av8 av9 at7 R2;rw[R2]at al;have D:=ca2 p.procs ⟨p,[],[],[]⟩ U;have Z:=aD4 (p.procs.take k) ⟨p,[],[],[]⟩ 0;have B:=aD4 (p.procs.take (k+1)) ⟨p,[],[],[]⟩ 0;have ab:=be2 (p.procs.take k) ⟨p,[],[],[]⟩ 0;have bh:((p.procs.take (k+1)).map λf=>A9 f.body).sum<=(p.procs.map λf=>A9 f.body).sum:=by
    conv=>rhs;rw[<-dR8 (k+1) p.procs,dP6,List.sum_append]
    omega
   rw[D]at B;have ar:=aq7 (dN5 U);rw[dN9,dT1 ak]at ab;generalize hG:H6 ⟨p,[],[],[]⟩ 0 (p.procs.take k)=G at C Z ab D B;generalize p.procs[k]=q at ad D ar B;simp only[F7,dM7,H3,dT9,dQ2]at Z B ab;obtain⟨b,wz,S,aN,a4,ax,aO⟩:=ba4 (w:=w3) (λb=>b=l\/A3 Q b\/A3 n b\/A3 m b) ad (λb c=>by
    rcases c with rfl|c|c|c
    ·exact C.lt
    ·exact C.oL.lt c
    ·exact C.oLo.lt c
    ·exact C.oHi.lt c)
   obtain⟨_,_,vb,_,_,_,a6,_,ba,_⟩:=K7.pr ad aO;have ac:=C.ext ax;have g:=ac.ext (o7.drew S);have N:o7 A S.drew:=ae.trans (ax.trans (o7.drew S));have aJ:=ac.oL.isS;have aY:=ac.oL.vlen;have aD:∀K f d w,F3 prog (λz=>o9 (A3 n) S.drew z) (Instr.loadAt 24 (.pointer (some ⟨l,3,none⟩))) K f d w=K (C4 f d n) w:=λK f d w=>B7 (w0:=S.drew) (o9.refl _) λz H=>E2 (i:=3) ((H.block l g.lt λc=>(g.d2 l c).1 rfl).trans g.cell) rfl ad0;have be:∀K f d w,F3 prog (λz=>o9 (A3 n) S.drew z) (Instr.loadAt 151 (.pointer (some ⟨l,2,none⟩))) K f d w=K (C4 f d Q) w:=λK f d w=>B7 (w0:=S.drew) (o9.refl _) λz H=>E2 (i:=2) ((H.block l g.lt λc=>(g.d2 l c).1 rfl).trans g.cell) rfl bf1;have ap:IntKind.i64.wrap ((G.l.length:Int)+1)=(G.l.length:Int)+1:=M3 _ (by omega);obtain⟨p1,F,w5,p2,p3,p4,p5⟩:=push (e:=24) dj1 rfl g.oLo (x:=.int .i64 ((G.l.length:Int)+1)) (y:=(G.l.length:Int)+1) rfl (by omega) (by omega) (t8 M (b7 N));simp only[Value.cells]at p1 p2;have aT:w5.heap[l]?=some (.cells #[L,J,Q,n,m] 153 (0,0)):=(p4.block l g.lt λc=>(g.d2 l c).1 rfl).trans g.cell;obtain⟨w6,s6,aU,af⟩:=ag5 (P:=prog) (t:=24) (i:=3) (x:=F) aT (by simp) (E3 p3.isS) (X8 p3.isS) (z7 ai0).choose_spec.1 (by rw[<-D9 (z7 ai0).choose_spec.1];exact bl2);have a2:ShS h w6 l L J Q F m G.l (G.lo++[(G.l.length:Int)+1]) G.hi:=g.setLo p4 p3 p5 af (by simpa using aU);have O:o7 A w6:=o9.ext_of (o9.ext_of N p4 λb c=>r b (.inr (.inl c))) af λb c=>by subst c;exact E
   have V:o9 (λb=>b=l\/A3 Q b\/A3 n b\/A3 m b) S w6:=((o9.up (o7.drew S)).chain p4 λi _ c=>.inr (.inr (.inl c))).chain af λi _ c=>.inl c;have bb:=ba w6 (E1 V);obtain⟨bv,aQ,aj⟩:=cx0 h (k:Int) (-1);simp only[n8,o6,y0,simprocAttr,T,aH,aX,al,aN,a4];refine C0 (λz=>o9 (A3 n) S.drew z) 13 (A5 [0,1,2,3,4,5,6,7,8,9,10,11,12]) ?_;simp only[D6,A5,n8,o6,simprocAttr,e3,aD,be,aJ,aY,ap,p1,p2,E8];refine⟨o9.up (o7.alloc _ _),p4,?_⟩;simp only[n8,o6,simprocAttr,s6,e3,bb,aQ];refine y5 (dd7 (A9 q.body) q.body _ bv vb h l L J Q F m _ _ _ w6 (dO0 _) a2 (t8 M (b7 O)) a6 aj (by unfold X3 at ar;omega) (by omega)) ?_;rintro u Y ⟨ag,W,a8,am⟩;simp only at W;have au:o7 A Y:=o9.ext_of O a8 λb c=>by
    rcases c with rfl|c
    ·exact E
    ·exact r b (.inl c)
   have j:=W.ext (o7.drew Y);have I:o7 A Y.drew:=au.trans (o7.drew Y);have aK:=W.oL.isS;have an:=W.oL.vlen;rw[dM7,H3]at an;have aB:∀K f d w,F3 prog (λz=>o9 (A3 m) Y.drew z) (Instr.loadAt 24 (.pointer (some ⟨l,4,none⟩))) K f d w=K (C4 f d m) w:=λK f d w=>B7 (w0:=Y.drew) (o9.refl _) λz H=>E2 (i:=4) ((H.block l j.lt λc=>j.d3 l c rfl).trans j.cell) rfl ad0;have aC:∀K f d w,F3 prog (λz=>o9 (A3 m) Y.drew z) (Instr.loadAt 151 (.pointer (some ⟨l,2,none⟩))) K f d w=K (C4 f d ag) w:=λK f d w=>B7 (w0:=Y.drew) (o9.refl _) λz H=>E2 (i:=2) ((H.block l j.lt λc=>j.d3 l c rfl).trans j.cell) rfl bf1;have aq:IntKind.i64.wrap (((G.l.length+A9 q.body:Nat):Int)+1)=(G.l.length:Int)+(A9 q.body:Nat)+1:=by rw[M3 _ (by omega)];omega
   obtain⟨q1,aa,w8,q2,q3,q4,q5⟩:=push (e:=24) dj1 rfl j.oHi (x:=.int .i64 ((G.l.length:Int)+(A9 q.body:Nat)+1)) (y:=(G.l.length:Int)+(A9 q.body:Nat)+1) rfl (by omega) (by omega) (t8 M (b7 I));simp only[Value.cells]at q1 q2;have aV:w8.heap[l]?=some (.cells #[L,J,ag,F,m] 153 (0,0)):=(q4.block l j.lt λc=>j.d3 l c rfl).trans j.cell;obtain⟨w9,s9,aW,ay⟩:=ag5 (P:=prog) (t:=24) (i:=4) (x:=aa) aV (by simp) (E3 q3.isS) (X8 q3.isS) (z7 ai0).choose_spec.1 (by rw[<-D9 (z7 ai0).choose_spec.1];exact bl2);have a3:=j.setHi q4 q3 q5 ay (by simpa using aW);have av:o7 A w9:=o9.ext_of (o9.ext_of I q4 λb c=>r b (.inr (.inr c))) ay λb c=>by subst c;exact E
   simp only[n8,simprocAttr];refine C0 (λz=>o9 (A3 m) Y.drew z) 13 (A5 [0,1,2,3,4,5,6,7,8,9,10,11,12]) ?_;simp only[D6,A5,n8,o6,simprocAttr,e3,aB,aC,aK,an,aq,q1,q2,E8];refine⟨o9.up (o7.alloc _ _),q4,?_⟩;simp only[n8,o6,simprocAttr,s9,T];refine⟨(k+1,ag,F,aa),by omega,dO2 _ (B0 k (by omega)),by omega,?_,av,λb c=>?_⟩;rotate_left
   ·rcases c with c|c|c
    ·rcases am b c with h|h
     ·exact r b (.inl h)
     ·exact dN1 O.size h
    ·rcases p5 b c with h|h
     ·exact r b (.inr (.inl h))
     ·exact dN1 N.size h
    ·rcases q5 b c with h|h
     ·exact r b (.inr (.inr h))
     ·exact dN1 I.size h
   simp only[];rw[D];simp only[F7,H3];exact a3
  ·have r:k=p.procs.length:=by simp at hc;omega
   subst r;simp only[n8,simprocAttr,e3];refine o8 results90 ?_;simp only[p8,simprocAttr];rw[dN8]at C;have hF:b9 p=⟨p,(H6 ⟨p,[],[],[]⟩ 0 p.procs).l,(H6 ⟨p,[],[],[]⟩ 0 p.procs).lo,(H6 ⟨p,[],[],[]⟩ 0 p.procs).hi⟩:=by
    have:=aY7 p.procs ⟨p,[],[],[]⟩ 0;unfold b9;cases hq:H6 ⟨p,[],[],[]⟩ 0 p.procs;rw[hq]at this;simp only at this;rw[this]
   rw[hF];exact⟨l,L,J,Q,n,m,by trivial,C,hg,hp,dN1 X.size E,λb c=>dN1 X.size (r b c),X.trans ae⟩
def al0(v:Value)(p:Pg)(w:World)(hv:SV (i4 w) v p)(b:C5 p<=1000000):p7 prog 90 #[v] w λu c=>(∃a,u = .pointer (some a)/\At (i4 c) a (b9 p)/\o7 w c):=by
 refine Calls.mono (ae7 (i4 w) v p w hv (i5 _) b) ?_;rintro e c ⟨u,g,m,o,q,n,l,k,rfl,j,h,i,_,_,d⟩;refine⟨_,g,_,rfl,?_,d⟩;have f:b9 p=⟨p,(b9 p).l,(b9 p).lo,(b9 p).hi⟩:=by
  have:(b9 p).p=p:=by unfold b9;rw[aY7]
  cases hq:b9 p;rw[hq]at this;simp only at this;rw[this]
 rw[f];exact j.at_ (b7 d) h i
def at4:F4 prog 31 9 1 16=true:=by kernel_rfl
def ldS{h:Hp}{v:Value}{l:List A6}{w:World}(hv:R h v l)(hw:B5 h (i4 w)){k:Nat}(a:k<l.length):(Instr.loadAt 9 (.pointer (some (G4 v k)))).run prog w = .ok (p6 l[k]) w:=
 M4 (P:=prog) (t:=9) hv hw (dM4 a) V4
def bn0{α:Type}{p:α->Bool}{l:List α}(h:∀j (a:j<l.length),p l[j]=false):∀x∈l,p x=false:=λx b=>by
 obtain⟨j,a,rfl⟩:=dT0.1 b;exact h j a
def bo1(v:Value)(l:List A6)(x:A6)(w:World)(hv:R (i4 w) v l)(C:l.length<=1000000000):p7 prog 106 #[v,p6 x] w λu e=>(u = .int .i64 (aa1 (λy=>decide (x=y)) 0 l)/\e=w):=by
 refine p9 [v,p6 x] func106 rfl ?_;have s:=hv.isS;have A:=hv.vlen;simp only[n8,o6,simprocAttr,s,A];refine n9 [0,1,6,7] (σ:=Nat) (λk f e=>f 8 = .int .i64 k/\k<=l.length/\(∀j (b:j<l.length),j<k->decide (x=l[j])=false)/\e=w) (λk=>l.length-k) 0 ?_ ?_
 ·simp only[p8,simprocAttr];exact⟨by trivial,dN6 _,λj _ h=>by omega,by trivial⟩
 ·rintro k f e p ⟨g,z,d,rfl⟩;simp only[dM6,p8,simprocAttr]at p;obtain⟨e0,q,B,r,_⟩:=p;simp only[n8,o6,simprocAttr,g,r];refine n7 (λi=>?_) (λi=>?_)
  ·have c:k<l.length:=by simpa using i
   have n:=hv.inS c;have o:=ldS hv (i5 _) c;simp only[n8,o6,y0,simprocAttr,g,e0,q,n,o];refine n7 (λa=>?_) (λa=>?_)
   ·simp only[n8,simprocAttr];refine o8 results106 ?_;simp only[p8,simprocAttr];exact⟨by rw[as1 (λy=>decide (x=y)) l 0 k c (λj b=>d j (by omega) b) a,dQ2],by trivial⟩
   ·simp only[n8,o6,simprocAttr,g];refine⟨k+1,by omega,dO2 _ (B0 k (by omega)),by omega,λj b t=>?_,by trivial⟩;rcases dQ7 j k with h|h
    ·exact d j b h
    ·obtain rfl:j=k:=by omega
     exact a
  ·have m:k=l.length:=by simp at i;omega
   subst m;simp only[n8,simprocAttr];refine o8 results106 ?_;simp only[p8,simprocAttr];exact⟨by rw[ay3 _ _ _ (bn0 λj b=>d j b b)],by trivial⟩
def P6(v:Value)(l:List A6)(x:A6)(w:World)(hv:R (i4 w) v l)(b:l.length<=1000000000):p7 prog 111 #[v,p6 x] w λu c=>(u = .bool (l.contains x)/\c=w):=by
 refine p9 [v,p6 x] func111 rfl ?_;simp only[n8,o6,simprocAttr];refine E0 (bo1 v l x w hv b) ?_;have a:decide (0<=aa1 (λy=>decide (x=y)) 0 l)=l.contains x:=by
  rw[ay2,<-List.any_beq]
  congr 1
 simp only[n8,o6,simprocAttr,a];exact o8 results111 ⟨rfl,by trivial⟩
def aG1(a:Pr->Bool)(g:Nat)(d:Array Value)(v:Value)(l:List Pr)(w:World)(hb:ak6 prog g=true)(hv:R (i4 w) v l)(M:l.length<=1000000000)
  (J:∀(q:Value) (x:Pr) (c:World),o7 w c->x∈l->SV (i4 c) q x->Calls prog g ([q]++d.toList).toArray c λe B=>∃u,e = .returned u/\(u = .bool (a x)/\o7 c B)) :
  p7 prog 127 #[v,.func (.func g) #[] d] w λu c=>(u = .int .i64 (aa1 a 0 l)/\o7 w c):=by
 refine p9 [v,.func (.func g) #[] d] func127 rfl ?_;have F:=hv.isS;have I:=hv.vlen;simp only[n8,o6,simprocAttr,F,I];refine n9 [0,1,6,7] (σ:=Nat) (λk f c=>f 8 = .int .i64 k/\k<=l.length/\(∀j (i:j<l.length),j<k->a l[j]=false)/\o7 w c) (λk=>l.length-k) 0 ?_ ?_
 ·simp only[p8,simprocAttr];exact⟨by trivial,dN6 _,λj _ h=>by omega,o9.refl _⟩
 ·rintro k f K C ⟨r,H,m,n⟩;simp only[dM6,p8,simprocAttr]at C;obtain⟨e0,D,L,E,_⟩:=C;simp only[n8,o6,simprocAttr,r,E];refine n7 (λs=>?_) (λs=>?_)
  ·have b:k<l.length:=by simpa using s
   have z:=hv.inS b;obtain⟨q,A,o⟩:=F9 (P:=prog) (t:=75) hv (b7 n) (dM4 b) av8 av9 at7 R2;rw[R2]at o;simp only[n8,o6,y0,simprocAttr,r,e0,D,z,o,dX5];refine B9 (hb:=hb) (J q l[k] K n (dN5 b) (A.mono (b7 n))) (λN p=>?_);cases hq:a l[k]
   ·simp only[n8,o6,simprocAttr,r];refine⟨k+1,by omega,dO2 _ (B0 k (by omega)),by omega,λj i G=>?_,n.trans p⟩;rcases dQ7 j k with h|h
    ·exact m j i h
    ·obtain rfl:j=k:=by omega
     exact hq
   ·simp only[n8,simprocAttr];refine o8 results127 ?_;simp only[p8,simprocAttr];exact⟨by rw[as1 a l 0 k b (λj i=>m j (by omega) i) hq,dQ2],n.trans p⟩
  ·have y:k=l.length:=by simp at s;omega
   subst y;simp only[n8,simprocAttr];refine o8 results127 ?_;simp only[p8,simprocAttr];exact⟨by rw[ay3 _ _ _ (bn0 λj i=>m j i i)],n⟩
def aG2(a:A6->Bool)(g:Nat)(c:Array Value)(v:Value)(l:List A6)(w:World)(hb:ak6 prog g=true)(hv:R (i4 w) v l)(J:l.length<=1000000000)
  (G:∀(x:A6) (m:World),o7 w m->x∈l->Calls prog g ([p6 x]++c.toList).toArray m λe y=>∃u,e = .returned u/\(u = .bool (a x)/\o7 m y)) :
  p7 prog 161 #[v,.func (.func g) #[] c] w λu m=>(u = .int .i64 (aa1 a 0 l)/\o7 w m):=by
 refine p9 [v,.func (.func g) #[] c] func161 rfl ?_;have C:=hv.isS;have F:=hv.vlen;simp only[n8,o6,simprocAttr,C,F];refine n9 [0,1,6,7] (σ:=Nat) (λk f m=>f 8 = .int .i64 k/\k<=l.length/\(∀j (d:j<l.length),j<k->a l[j]=false)/\o7 w m) (λk=>l.length-k) 0 ?_ ?_
 ·simp only[p8,simprocAttr];exact⟨by trivial,dN6 _,λj _ h=>by omega,o9.refl _⟩
 ·rintro k f H z ⟨p,E,i,n⟩;simp only[dM6,p8,simprocAttr]at z;obtain⟨e0,A,I,B,_⟩:=z;simp only[n8,o6,simprocAttr,p,B];refine n7 (λq=>?_) (λq=>?_)
  ·have b:k<l.length:=by simpa using q
   have s:=hv.inS b;have t:=ldS hv (b7 n) b;simp only[n8,o6,y0,simprocAttr,p,e0,A,s,t,dX5];refine B9 (hb:=hb) (G l[k] H n (dN5 b)) (λK o=>?_);cases hq:a l[k]
   ·simp only[n8,o6,simprocAttr,p];refine⟨k+1,by omega,dO2 _ (B0 k (by omega)),by omega,λj d D=>?_,n.trans o⟩;rcases dQ7 j k with h|h
    ·exact i j d h
    ·obtain rfl:j=k:=by omega
     exact hq
   ·simp only[n8,simprocAttr];refine o8 results161 ?_;simp only[p8,simprocAttr];exact⟨by rw[as1 a l 0 k b (λj d=>i j (by omega) d) hq,dQ2],n.trans o⟩
  ·have r:k=l.length:=by simp at q;omega
   subst r;simp only[n8,simprocAttr];refine o8 results161 ?_;simp only[p8,simprocAttr];exact⟨by rw[ay3 _ _ _ (bn0 λj d=>i j d d)],n⟩
def aT6(a:A6->Bool)(g:Nat)(b:Array Value)(v:Value)(l:List A6)(w:World)(hb:ak6 prog g=true)(hv:R (i4 w) v l)(h:l.length<=1000000000)
  (i:∀(x:A6) (c:World),o7 w c->x∈l->Calls prog g ([p6 x]++b.toList).toArray c λe d=>∃u,e = .returned u/\(u = .bool (a x)/\o7 c d)) :
  p7 prog 109 #[v,.func (.func g) #[] b] w λu c=>(u = .bool (l.any a)/\o7 w c):=by
 refine p9 [v,.func (.func g) #[] b] func109 rfl ?_;simp only[n8,o6,simprocAttr];refine B9 (aG2 a g b v l w hb hv h i) (λk j=>?_);have f:=ay2 a l 0;simp only[n8,o6,simprocAttr,f];exact o8 results109 ⟨rfl,j⟩
def aT5(a:Pr->Bool)(g:Nat)(b:Array Value)(v:Value)(l:List Pr)(w:World)(hb:ak6 prog g=true)(hv:R (i4 w) v l)(i:l.length<=1000000000)
  (j:∀(f:Value) (x:Pr) (c:World),o7 w c->x∈l->SV (i4 c) f x->Calls prog g ([f]++b.toList).toArray c λe d=>∃u,e = .returned u/\(u = .bool (a x)/\o7 c d)) :
  p7 prog 208 #[v,.func (.func g) #[] b] w λu c=>(u = .bool (l.any a)/\o7 w c):=by
 refine p9 [v,.func (.func g) #[] b] func208 rfl ?_;simp only[n8,o6,simprocAttr];refine B9 (aG1 a g b v l w hb hv i j) (λm k=>?_);have h:=ay2 a l 0;simp only[n8,o6,simprocAttr,h];exact o8 results208 ⟨rfl,k⟩
def dV5:=@List.find?_eq_some_iff_getElem
def dU2:=@List.mem_of_mem_take
def dG6:ak6 prog 128=true:=by kernel_rfl
def dg8(n:A6)(w:World):∃a c,(Instr.box 9 (p6 n)).run prog w = .ok (.pointer (some a)) c/\o7 w c/\∀b,o7 c b->(Instr.loadAt 9 (.pointer (some a))).run prog b = .ok (p6 n) b:=by
 refine⟨⟨w.heap.size,0,none⟩,w.alloc (.cells #[p6 n] 9),rfl,o7.alloc _ _,λb d=>?_⟩;exact E2 (i:=0) (cs:=#[p6 n]) (T:=9) ((d.block _ (by simp) id).trans (dQ5 w _)) rfl V4
def cj3(d:Value)(q:Pr)(n:A6)(a:Addr)(w:World)(hv:SV (i4 w) d q)(i:∀c,o7 w c->(Instr.loadAt 9 (.pointer (some a))).run prog c = .ok (p6 n) c):
  p7 prog 128 #[d,.pointer (some a)] w λu c=>(u = .bool (decide (q.name=n))/\o7 w c):=by
 refine p9 [d,.pointer (some a)] func128 rfl ?_;obtain⟨b,f,h,e,g⟩:=bm6 hv (i5 _);obtain⟨_,_,_,_,_,_,_,_,l,_⟩:=g.pr;have j:=l f (i5 _);have k:=i f e;simp only[n8,o6,simprocAttr,h,j,k];exact o8 results128 ⟨rfl,e⟩
def at0(a:Addr)(s:Sh)(n:A6)(w:World)(y:At (i4 w) a s)(r:s.p.procs.length<=1000000000):p7 prog 76 #[.pointer (some a),p6 n] w λu k=>(u = .int .i64 (s.pr n)/\o7 w k):=by
 refine p9 [.pointer (some a),p6 n] func76 rfl ?_;obtain⟨J,D,C,F,t,p,d,H,I⟩:=y.sh;obtain⟨K,E,G,v,j,A⟩:=d.pg;obtain⟨b,m,o,g,e⟩:=dg8 n w;have z:=j m (b7 g);simp only[n8,o6,simprocAttr,o,z];refine B9 (aG1 (λq=>decide (q.name=n)) 128 #[.pointer (some b)] E s.p.procs m dG6 (A4.mono (b7 g) v) r
  (λB x k h _ f=>cj3 B x n b k f λl c=>e l (h.trans c))) (λL i=>?_)
 simp only[n8,simprocAttr];exact o8 results76 ⟨rfl,g.trans i⟩
theorem bQ7{α:Type}[A4 α]{h:Hp}{v:Value}{xs:List α}(D:R h v xs){i j:Nat}(o:i<=j)(B:j<=xs.length):R h (reS v i j (A4.sz α)) ((xs.take j).drop i):=by
 obtain⟨a,n,c,s,I,H,F,e,m⟩:=D;simp only[dZ3,and_true]at s;subst s;have b:xs=xs.take i++((xs.take j).drop i++xs.drop j):=by
  have l:xs.take j=xs.take i++(xs.take j).drop i:=by
   have:=dR8 i (xs.take j);rw[List.take_take,dT1 o]at this;exact this.symm
  rw[<-dP5,<-l,dR8]
 rw[b]at e;obtain⟨w,E,rfl,l,A⟩:=ad7 _ _ e;obtain⟨g,x,rfl,r,G⟩:=ad7 _ _ A;have f:=M2 l;rw[dN9,dT1 (by omega)]at f;have d:((xs.take j).drop i).length=j-i:=by rw[dU8,dN9,dT1 B]
 refine⟨_,j-i,c-i,rfl,d.symm,by omega,g,r,λk u p=>?_⟩;have q:(w++(g++x))[i*A4.sz α+k]?=some u:=by
  rw[dR4 (by omega),f,Nat.add_sub_cancel_left,dR6 (dM9.1 p).1];exact p
 obtain⟨t,y,z⟩:=m _ u q;subst y;have C:i<j:=by
  rcases dQ7 i j with h|h
  ·exact h
  ·have:g.length=0:=by rw[M2 r,d,show j-i=0 by omega,Nat.zero_mul]
   have:=(dM9.1 p).1;omega
 refine⟨t.add (i*A4.sz α),?_,by rw[Addr.add_add'];exact z⟩;rw[if_neg (by omega)];rfl
structure bz1 (s:Sh) (i:Nat) (x y:Nat):Prop where
 lo:s.lo[i]?=some ((x:Int)+1)
 hi:s.hi[i]?=some ((y:Int)+1)
 le:x<=y
 len:y<=s.l.length
 fit:s.l.length<=1000000
def bz1.of_{s:Sh}{i x y:Nat}(h:bz1 s i x y):s.of i=(s.l.take y).drop x:=by
 unfold Sh.of Y4;have a:=h.lo;have b:=h.hi;simp only[dP0,List.getD,a,b,dR9]
 congr 1
 ·omega
 ·congr 1;omega
def ldI{h:Hp}{v:Value}{l:List Int}{w:World}(hv:R h v l)(hw:B5 h (i4 w)){k:Nat}{x:Int}(a:l[k]?=some x):(Instr.loadAt 3 (.pointer (some (G4 v k)))).run prog w = .ok (.int .i64 x) w:=
 M4 (P:=prog) (t:=3) hv hw a G3
def aY6(a:Addr)(s:Sh)(i x y:Nat)(w:World)(C:At (i4 w) a s)(c:bz1 s i x y):p7 prog 112 #[.pointer (some a),.int .i64 i] w λu b=>(R (i4 b) u (s.of i)/\o7 w b):=by
 refine p9 [.pointer (some a),.int .i64 i] func112 rfl ?_;obtain⟨H,q,p,l,k,g,B,J,G⟩:=C.sh;have e:∀b,o7 w.drew b->B5 (i4 w) (i4 b):=λb h=>b7 ((o7.drew w).trans h);have F:=G (λb=>o7 w.drew b) w.drew (o9.refl _) e;have n:=k.inS (dM9.1 c.lo).1;have o:=g.inS (dM9.1 c.hi).1;have D:∀K f d w0,F3 prog (λb=>o7 w.drew b) (Instr.loadAt 3 (.pointer (some (G4 q i)))) K f d w0=K (C4 f d (.int .i64 ((x:Int)+1))) w0:=λK f d w0=>B7 (w0:=w.drew) (o9.refl _) λb h=>ldI k (e b h) c.lo;have E:∀K f d w0,F3 prog (λb=>o7 w.drew b) (Instr.loadAt 3 (.pointer (some (G4 p i)))) K f d w0=K (C4 f d (.int .i64 ((y:Int)+1))) w0:=λK f d w0=>B7 (w0:=w.drew) (o9.refl _) λb h=>ldI g (e b h) c.hi;have B5:=c.le;have j:=c.len;have r:=c.fit;have z:IntKind.i64.wrap ((x:Int)+1-1)=(x:Int):=by rw[M3 _ (by omega)];omega
 have A:IntKind.i64.wrap ((y:Int)+1-1)=(y:Int):=by rw[M3 _ (by omega)];omega
 have m:=l.isS;have I:=l.vcap;have t:decide ((x:Int)<=(y:Int))=true:=by simp;omega
 have v:decide ((y:Int)<=(vcap H:Int))=true:=by simp;omega
 simp only[n8,o6,simprocAttr];refine C0 (λb=>o7 w.drew b) 22 (A5 [0,1,2,3,4,5,6,7,8,9,10,11,12,13,14,15,16,17,18,19,20,21]) ?_;simp only[D6,A5,n8,o6,y0,F8,simprocAttr,F,n,o,D,E,z,A,m,t,v];refine o8 results112 ?_;simp only[p8,simprocAttr];refine⟨?_,o7.drew w⟩;rw[c.of_];exact A4.mono (b7 (o7.drew w)) (bQ7 l B5 j)
def ca1(a:Addr)(s:Sh)(i x y:Nat)(w:World)(r:At (i4 w) a s)(c:bz1 s i x y):p7 prog 196 #[.pointer (some a),.int .i64 i] w λu b=>(u = .int .i64 (s.first i)/\o7 w b):=by
 refine p9 [.pointer (some a),.int .i64 i] func196 rfl ?_;obtain⟨H,o,n,E,g,j,q,B,D⟩:=r.sh;have e:∀b,o7 w.drew b->B5 (i4 w) (i4 b):=λb h=>b7 ((o7.drew w).trans h);have C:=D (λb=>o7 w.drew b) w.drew (o9.refl _) e;have A:=B w.drew (e _ (o9.refl _));have k:=g.inS (dM9.1 c.lo).1;have m:=j.inS (dM9.1 c.hi).1;have t:∀K f d w0,F3 prog (λb=>o7 w.drew b) (Instr.loadAt 3 (.pointer (some (G4 o i)))) K f d w0=K (C4 f d (.int .i64 ((x:Int)+1))) w0:=λK f d w0=>B7 (w0:=w.drew) (o9.refl _) λb h=>ldI g (e b h) c.lo;have v:∀K f d w0,F3 prog (λb=>o7 w.drew b) (Instr.loadAt 3 (.pointer (some (G4 n i)))) K f d w0=K (C4 f d (.int .i64 ((y:Int)+1))) w0:=λK f d w0=>B7 (w0:=w.drew) (o9.refl _) λb h=>ldI j (e b h) c.hi;have z:=ldI g (e _ (o9.refl _)) c.lo;have p:s.first i=if(x:Int)+1<(y:Int)+1 then(x:Int)+1 else -1:=by
  unfold Sh.first Y4;simp only[dP0,List.getD,c.lo,c.hi,dR9]
 generalize F:(x:Int)+1=X at *;generalize G:(y:Int)+1=Y at *;simp only[n8,o6,simprocAttr];refine C0 (λb=>o7 w.drew b) 15 (A5 [0,1,2,3,4,5,6,7,8,9,10,11,12,13,14]) ?_;simp only[D6,A5,n8,o6,y0,simprocAttr,C,k,m,t,v];refine n7 (λl=>?_) (λl=>?_)
 ·simp only[n8,o6,y0,simprocAttr,A,k,z];refine o8 results196 ?_;simp only[p8,simprocAttr];exact⟨by rw[p,if_pos (dM8 l)],o7.drew w⟩
 ·simp only[n8,simprocAttr];refine o8 results196 ?_;simp only[p8,simprocAttr];exact⟨by rw[p,if_neg (dN2 l)],o7.drew w⟩
def bX8(o:Option Int):Value:=match o with
 | some i=>.tuple #[.int .i64 i,.bool true]
 | none=>.tuple #[.int .i64 0,.bool false]
def ca0(a:Addr)(s:Sh)(i x y:Nat)(e:A6)(w:World)(hs:At (i4 w) a s)(m:bz1 s i x y)(C:i<s.p.procs.length)(Y:∀it∈s.l,R4 it.s<=1000000)(X:∀f∈s.p.procs,X3 f<=1000000):
  p7 prog 165 #[.pointer (some a),.int .i64 i,p6 e] w λu w'=>(u=bX8 (s.at i e)/\o7 w w'):=by
 refine p9 [.pointer (some a),.int .i64 i,p6 e] func165 rfl ?_;obtain⟨vL,aE,aC,hL,aw,ap,N,ld,sd⟩:=hs.sh;obtain⟨vg,vp,hg,hp,aa,aA⟩:=N.pg;have F:∀it∈s.of i,it∈s.l:=λit h=>by
  rw[m.of_]at h;exact dU2 (dX9 h)
 have E:(s.of i).length<=1000000:=by
  rw[m.of_,dU8,dN9];have:=m.fit;omega
 simp only[n8,o6,simprocAttr];refine y5 (aY6 a s i x y w hs m) ?_;rintro u w1 ⟨G,d⟩;generalize o:s.of i=l at G F E;have hS:=G.isS;have hn:=G.vlen;simp only[n8,o6,simprocAttr,hS,hn];refine n9 [0,1,2,12,13] (σ:=Nat) (λk f w'=>f 14 = .int .i64 k/\k<=l.length/\(∀j (r:j<l.length),j<k->l[j].s.labels.contains e=false)/\o7 w1 w') (λk=>l.length-k) 0 ?_ ?_
 ·simp only[p8,simprocAttr];exact⟨by trivial,dN6 _,λj _ h=>by omega,o9.refl _⟩
 ·rintro k f w2 hk ⟨p,ar,v,n⟩;simp only[dM6,p8,simprocAttr]at hk;obtain⟨e0,e1,e2,K,L,_⟩:=hk;simp only[n8,o6,simprocAttr,p,L];refine n7 (λQ=>?_) (λQ=>?_)
  ·have g:k<l.length:=by simpa using Q
   have q:=G.inS g;obtain⟨sv,U,D⟩:=F9 (P:=prog) (t:=150) G (b7 n) (dM4 g) X0 X2 V5 H9;rw[H9]at D;have I:=Y _ (F _ (dN5 g));rw[S8]at I;have au:=W0 l[k].s.labels;obtain⟨b,wz,w3,M,T,J,O⟩:=ak8 (U.mono (b7 n)) (i5 _);obtain⟨A,_,_⟩:=O.it;obtain⟨vl,_,_,_,W,_,_,_,_,ab,_⟩:=A.st;have l3:=ab w3 (i5 _);simp only[n8,o6,y0,simprocAttr,p,e2,K,q,D,M,T,l3];refine E0 (P6 vl l[k].s.labels e w3 W (by omega)) ?_;cases hq:l[k].s.labels.contains e
   ·simp only[n8,o6,simprocAttr,p];refine⟨k+1,by omega,dO2 _ (B0 k (by omega)),by omega,λj r aq=>?_,n.trans J⟩;rcases dQ7 j k with h|h
    ·exact v j r h
    ·obtain rfl:j=k:=by omega
     exact hq
   ·simp only[n8,o6,simprocAttr,l3];refine T3 results165 ?_;simp only[p8,simprocAttr];refine⟨?_,d.trans (n.trans J)⟩;have c:l.find? (λit=>it.s.labels.contains e)=some l[k]:=dV5.2 ⟨hq,k,g,rfl,λj r=>by rw[v j (by omega) r];rfl⟩;rw[Sh.at,o,c];rfl
  ·have R:k=l.length:=by simp at Q;omega
   subst R;have c:l.find? (λit=>it.s.labels.contains e)=none:=dW5.2 λit S=>by
    obtain⟨j,r,rfl⟩:=dT0.1 S;rw[v j r r];simp
   have hA:s.at i e=if(s.fn i).fin.contains e then some (-1)else none:=by rw[Sh.at,o,c]
   have B:s.p.procs[i]?=some (s.fn i):=by
    unfold Sh.fn;rw[dP0,List.getD,dM4 C];rfl
   have H:=X _ (dO4 B);unfold X3 at H;have av:=W0 (s.fn i).fin;have z:=hp.at_ B;obtain⟨_,_,_,vf,_,_,_,V,Z,_⟩:=z.pr;have lp:=aa w2 (b7 (d.trans n));have lf:=Z w2 (b7 (d.trans n));have hz:A4.sz Pr=5:=rfl;rw[hz]at lf;have q:=hp.inS C;simp only[n8,o6,y0,simprocAttr,e0,e1,e2,lp,lf,q];refine E0 (P6 vf (s.fn i).fin e w2 (A4.mono (b7 (d.trans n)) V) (by omega)) ?_;cases hq:(s.fn i).fin.contains e
   ·simp only[n8,simprocAttr];exact T3 results165 ⟨by rw[hA,hq];rfl,d.trans n⟩
   ·simp only[n8,simprocAttr];exact T3 results165 ⟨by rw[hA,hq];rfl,d.trans n⟩
def bw6:∀(l:List Pr) (s:Sh) (i:Nat),∃L b a,H6 s i l=⟨s.p,s.l++L,s.lo++b,s.hi++a⟩
 | [],s,i=>⟨[],[],[],by simp[H6]⟩
 | f::l,s,i=>by
  obtain⟨L,b,a,e⟩:=bw6 l (F7 s i f) (i+1);refine⟨D2 f.body s.l.length i 0 (-1) 0++L,((s.l.length:Int)+1)::b,((s.l.length:Int)+(A9 f.body:Nat)+1)::a,?_⟩;rw[H6,e];simp[F7,H3]
def cR6(p:Pg)(i:Nat)(c:i<p.procs.length):∃x:Nat,(b9 p).lo[i]?=some ((x:Int)+1)/\(b9 p).hi[i]?=some ((x:Int)+(A9 p.procs[i].body:Nat)+1) /\
  ((b9 p).l.drop x).take (A9 p.procs[i].body)=D2 p.procs[i].body x i 0 (-1) 0/\x+A9 p.procs[i].body<=(b9 p).l.length:=by
 have b:p.procs=p.procs.take i++(p.procs[i]::p.procs.drop (i+1)):=by
  have:=dR8 i p.procs;rw[dR1 c]at this;exact this.symm
 obtain⟨G,f⟩:∃G,H6 ⟨p,[],[],[]⟩ 0 (p.procs.take i)=G:=⟨_,rfl⟩;have a:=be2 (p.procs.take i) ⟨p,[],[],[]⟩ 0;rw[f,dN9,dT1 (Nat.le_of_lt c)]at a;simp only[dT9,dQ2]at a;obtain⟨L,h,d,e⟩:=bw6 (p.procs.drop (i+1)) (F7 G i p.procs[i]) (i+1);have g:b9 p=⟨(F7 G i p.procs[i]).p,(F7 G i p.procs[i]).l++L,(F7 G i p.procs[i]).lo++h,(F7 G i p.procs[i]).hi++d⟩:=by
  rw[<-e];unfold b9
  conv=>lhs;rw[b]
  rw[aS0,f,dN9,dT1 (Nat.le_of_lt c),H6,dQ2]
 rw[g];refine⟨G.l.length,?_,?_,?_,?_⟩
 ·simp only[F7,dP5];rw[dR4 (by omega),a.1];simp
 ·simp only[F7,dP5];rw[dR4 (by omega),a.2,H3];simp
 ·simp only[F7,dP5];rw[List.drop_left,<-H3 p.procs[i].body G.l.length i 0 (-1) 0,dW1]
 ·simp only[F7,dM7,H3];omega
def az5(p:Pg):(b9 p).l.length=bS1 p:=by
 unfold b9 bS1;rw[aD4];simp
def K9(p:Pg):(b9 p).p=p:=by
 unfold b9;rw[aY7]
def bK4(p:Pg):3*bS1 p<=C5 p:=by
 have:=bm8 p.procs;unfold C5 bS1;omega
def V9(p:Pg)(hw:C5 p<=1000000)(i:Nat)(f:i<p.procs.length):∃x:Nat,bz1 (b9 p) i x (x+A9 p.procs[i].body)/\(b9 p).of i=D2 p.procs[i].body x i 0 (-1) 0:=by
 obtain⟨x,b,c,d,e⟩:=cR6 p i f;have g:=az5 p;have h:=bK4 p;have a:bz1 (b9 p) i x (x+A9 p.procs[i].body):=⟨b,by rw[c];congr 1,by omega,e,by omega⟩;refine⟨x,a,?_⟩;rw[a.of_,List.drop_take,Nat.add_sub_cancel_left];exact d
mutual
def cz2:∀(t:St) (k:Nat) (c d b a:Int),∀it∈Y9 t k c d b a,R4 it.s<=R4 t
 | .mk id kind labels name proc x has args thn els,k,c,d,b,a,it,h=>by
  rw[R8]at h;rcases dO6.1 h with rfl|h
  ·exact dO0 _
  ·rw[R4];rcases dN7.1 h with h|h
   ·have:=aB6 thn _ _ _ _ _ it h;omega
   ·have:=aB6 els _ _ _ _ _ it h;omega
def aB6:∀(l:List St) (k:Nat) (c d b a:Int),∀it∈D2 l k c d b a,R4 it.s<=I1 l
 | [],_,_,_,_,_,it,h=>by simp[D2]at h
 | t::l,k,c,d,b,a,it,h=>by
  rw[D2]at h;rw[I1];rcases dN7.1 h with h|h
  ·have:=cz2 t _ _ _ _ _ it h;omega
  ·have:=aB6 l _ _ _ _ _ it h;omega
end
def bG6:∀(l:List Pr) (s:Sh) (i:Nat) (W:Nat),(∀it∈s.l,R4 it.s<=W)->(∀f∈l,I1 f.body<=W)->∀it∈(H6 s i l).l,R4 it.s<=W
 | [],s,i,W,h1,h2,it,h=>h1 it h
 | f::l,s,i,W,h1,h2,it,h=>by
  rw[H6]at h;refine bG6 l _ _ W (λit h=>?_) (λg a=>h2 g (dS2 _ a)) it h;simp only[F7]at h;rcases dN7.1 h with h|h
  ·exact h1 it h
  ·exact dN1 (aB6 _ _ _ _ _ _ it h) (h2 f (by simp))
def ah5(p:Pg)(hw:C5 p<=1000000):∀it∈(b9 p).l,R4 it.s<=1000000:=by
 refine bG6 _ _ _ _ (λit h=>by cases h) λf a=>?_;have:=aq7 a;unfold C5 at hw;unfold X3 at this;omega
def at1(p:Pg)(hw:C5 p<=1000000):∀f∈p.procs,X3 f<=1000000:=λf a=>by
 have:=aq7 a;unfold C5 at hw;omega
def bV1{α β:Type}(g:α->β)(p:β->Bool):∀(l:List α) (i:Nat),aa1 p i (l.map g)=aa1 (λx=>p (g x)) i l
 | [],i=>rfl
 | x::l,i=>by simp only[dQ8,aa1,bV1 g p l]
def ch1{α:Type}{p q:α->Bool}(h:∀x,p x=q x)(l:List α)(i:Nat):aa1 p i l=aa1 q i l:=by
 rw[show p=q from funext h]
def dT2:=@List.eq_of_mem_replicate
def dQ1:=@List.mem_append_left
def dS0:=@List.mem_append_right
def dU4:=@List.mem_or_eq_of_mem_set
def dS3:=@List.pairwise_cons
def C9(nx:List (List Int))(a:Int):List Int:=if 0<=a/\a<nx.length then nx.getD a.toNat []else[]
def H1(n:Nat)(a:Int):Bool:=decide (0<=a)&&decide (a<n)
def B3{n:Nat}{a:Int}:H1 n a=true↔0<=a/\a<n:=by simp[H1]
def aY0{nx:List (List Int)}{a:Int}(h:H1 nx.length a=false):C9 nx a=[]:=by
 unfold C9;rw[if_neg (λb=>by rw[B3.2 b]at h;cases h)]
def ao7{nx:List (List Int)}{a:Int}(h:H1 nx.length a=true):nx[a.toNat]?=some (C9 nx a)/\a.toNat<nx.length:=by
 have b:=B3.1 h;unfold C9;rw[if_pos b];have:a.toNat<nx.length:=by omega
 exact⟨by simp[List.getD,this],this⟩
def as8{nx:List (List Int)}{a:Int}(h:H1 nx.length a=true):C9 nx a∈nx:=dO4 (ao7 h).1
def aV7(l:List Int)(x:Int):List Int:=l.take (l.countP (· < x))++x::l.drop (l.countP (· < x))
def an4(nx:List (List Int))(a b:Int):Bool:=H1 nx.length a&&H1 nx.length b && !(C9 nx a).contains b
def cd4(nx:List (List Int))(a b:Int):List (List Int):=if an4 nx a b then nx.set a.toNat (aV7 (C9 nx a) b)else nx
def cd5(nx c:List (List Int))(a b:Int):List (List Int):=if an4 nx a b then c.set b.toNat (aV7 (C9 c b) a)else c
def db3{y x:Int}{l:List Int}(h:y<x):aV7 (y::l) x=y::aV7 l x:=by
 simp[aV7,h]
def bS4{l:List Int}{x:Int}(h:∀y∈l,x<=y):l.countP (· < x)=0:=by
 rw[List.countP_eq_zero];intro y a;have:=h y a;simp;omega
def db2{y x:Int}{l:List Int}(h:x<=y)(b:(y::l).Pairwise (· < ·)):aV7 (y::l) x=x::y::l:=by
 have:=bS4 (l:=y::l) (x:=x) (by
  intro z a;rcases dO6.1 a with rfl|a
  ·exact h
  ·have:=(dS3.1 b).1 z a;omega)
 unfold aV7;rw[this];simp
def ay6{x y:Int}{l:List Int}:y∈aV7 l x↔y=x\/y∈l:=by
 unfold aV7;constructor
 ·intro h;rcases dN7.1 h with h|h
  ·exact .inr (dU2 h)
  ·rcases dO6.1 h with h|h
   ·exact .inl h
   ·exact .inr (dX9 h)
 ·rintro(rfl|h)
  ·simp
  ·rw[<-dR8 (l.countP (· < x)) l]at h;rcases dN7.1 h with h|h
   ·exact dQ1 _ h
   ·exact dS0 _ (dS2 _ h)
def bi5{x:Int}:∀{l:List Int},l.Pairwise (· < ·)->x∉l->(aV7 l x).Pairwise (· < ·)
 | [],_,_=>by simp[aV7]
 | y::l,hs,hn=>by
  have a:=dS3.1 hs;rcases Int.lt_or_le y x with h|h
  ·rw[db3 h,dS3];refine⟨λz b=>?_,bi5 a.2 λd=>hn (dS2 _ d)⟩;rcases ay6.1 b with rfl|b
   ·exact h
   ·exact a.1 z b
  ·rw[db2 h hs,dS3];refine⟨λz b=>?_,hs⟩;have c:x≠y:=λe=>hn (by simp[e]);rcases dO6.1 b with rfl|b
   ·omega
   ·have:=a.1 z b;omega
def aD6{n:Int}:∀{l:List Int} {m:Int},l.Pairwise (· < ·)->(∀y∈l,m<=y/\y<n)->m<=n->(l.length:Int)<=n-m
 | [],m,_,_,hm=>by simp;omega
 | y::l,m,hs,hb,hm=>by
  have a:=dS3.1 hs;have c:=hb y (by simp);have:=aD6 (l:=l) (m:=y+1) a.2 (λz b=>⟨by have:=a.1 z b;omega,(hb z (dS2 _ b)).2⟩) (by omega);simp only[dP4];omega
structure E6 (n:Nat) (l:List (List Int)):Prop where
 len:l.length=n
 le:∀x∈l,x.Pairwise (· < ·)
 ok:∀x∈l,∀y∈x,H1 n y=true
def E6.row_len{n:Nat}{l:List (List Int)}(h:E6 n l){x:List Int}(a:x∈l):x.length<=n:=by
 have:=aD6 (n:=n) (m:=0) (h.le x a) (λy b=>B3.1 (h.ok x a y b)) (by omega);omega
def br6(n:Nat):E6 n (List.replicate n []):=
 ⟨by simp,λx a=>by simp[dT2 a],λx a y b=>by simp[dT2 a]at b⟩
def E6.ins{n:Nat}{l:List (List Int)}(h:E6 n l){a b:Int}(hb:H1 n b=true)(f:H1 n a=true)(hn:b∉C9 l a):E6 n (l.set a.toNat (aV7 (C9 l a) b)):=by
 have hm:=as8 (nx:=l) (a:=a) (by rw[h.len];exact f);refine⟨by simp[h.len],λx d=>?_,λx d y e=>?_⟩
 ·rcases dU4 d with c|rfl
  ·exact h.le x c
  ·exact bi5 (h.le _ hm) hn
 ·rcases dU4 d with c|rfl
  ·exact h.ok x c y e
  ·rcases ay6.1 e with rfl|c
   ·exact hb
   ·exact h.ok _ hm y c
def bv4{n:Nat}{l:List (List Int)}(e:l.length=n){a c:Int}{r:List Int}(b:H1 n a=true):C9 (l.set a.toNat r) c=if c=a then r else C9 l c:=by
 have d:=B3.1 b;unfold C9;simp only[dU0];by_cases hc:0<=c/\c<l.length
 ·rw[if_pos hc,if_pos hc];by_cases h:c=a
  ·subst h;rw[if_pos rfl];have:c.toNat<l.length:=by omega
   simp[List.getD,this]
  ·rw[if_neg h];have:a.toNat≠c.toNat:=by omega
   simp[List.getD,this]
 ·rw[if_neg hc,if_neg hc,if_neg (by rintro rfl;exact hc (by omega))]
def an7(g:List (List Int)×List (List Int))(e:Int×Int):List (List Int)×List (List Int):=(cd4 g.1 e.1 e.2,cd5 g.1 g.2 e.1 e.2)
def am0(n:Nat)(a:List (Int×Int)):List (List Int)×List (List Int):=a.foldl an7 (List.replicate n [],List.replicate n [])
structure aF9 (n:Nat) (g:List (List Int)×List (List Int)):Prop where
 nx:E6 n g.1
 pv:E6 n g.2
 both:∀a b,b∈C9 g.1 a↔a∈C9 g.2 b
def bB1{n:Nat}{l:List (List Int)}(c:l.length=n){a b:Int}:an4 l a b=true↔H1 n a=true/\H1 n b=true/\b∉C9 l a:=by
 simp[an4,c,and_assoc]
def aF9.grow{n:Nat}{g:List (List Int)×List (List Int)}(h:aF9 n g)(e:Int×Int):aF9 n (an7 g e) /\
  ∀a b,b∈C9 (an7 g e).1 a↔b∈C9 g.1 a\/((a,b)=e/\H1 n a=true/\H1 n b=true):=by
 obtain⟨x,y⟩:=e;by_cases hok:an4 g.1 x y=true
 ·obtain⟨d,f,k⟩:=(bB1 h.nx.len).1 hok;have i:an7 g (x,y)=(g.1.set x.toNat (aV7 (C9 g.1 x) y),g.2.set y.toNat (aV7 (C9 g.2 y) x)):=by
   simp[an7,cd4,cd5,hok]
  rw[i];have l:x∉C9 g.2 y:=λc=>k ((h.both x y).2 c);refine⟨⟨h.nx.ins f d k,h.pv.ins d f l,λa b=>?_⟩,λa b=>?_⟩
  ·simp only[];rw[bv4 h.nx.len d,bv4 h.pv.len f];have:=h.both a b;by_cases ha:a=x<;>by_cases hb:b=y
   ·subst ha;subst hb;simp[ay6]
   ·subst ha;rw[if_pos rfl,if_neg hb,ay6,this];simp[hb]
   ·subst hb;rw[if_pos rfl,if_neg ha,ay6,this];simp[ha]
   ·rw[if_neg ha,if_neg hb,this]
  ·simp only[];rw[bv4 h.nx.len d];by_cases ha:a=x
   ·subst ha;rw[if_pos rfl,ay6];constructor
    ·rintro(rfl|c)
     ·exact .inr ⟨rfl,d,f⟩
     ·exact .inl c
    ·rintro(c|⟨c,_⟩)
     ·exact .inr c
     ·exact .inl (Prod.mk.inj c).2
   ·rw[if_neg ha];constructor
    ·exact .inl
    ·rintro(c|⟨c,_⟩)
     ·exact c
     ·exact absurd (Prod.mk.inj c).1 ha
 ·have j:an4 g.1 x y=false:=by simpa using hok
  have i:an7 g (x,y)=g:=by
   simp[an7,cd4,cd5,j]
  rw[i];refine⟨h,λa b=>⟨.inl,?_⟩⟩;rintro(c|⟨c,d,f⟩)
  ·exact c
  ·obtain⟨rfl,rfl⟩:=Prod.mk.inj c;by_cases hb:b∈C9 g.1 a
   ·exact hb
   ·exact absurd ((bB1 h.nx.len).2 ⟨d,f,hb⟩) hok
theorem cj6(n:Nat)(a:Int):C9 (List.replicate n []) a=[]:=by
 unfold C9;split
 ·simp[List.getD,dW9];split<;>rfl
 ·rfl
def bi2(n:Nat):aF9 n (List.replicate n [],List.replicate n []):=
 ⟨br6 n,br6 n,λa b=>by simp[cj6]⟩
def aF9.grows{n:Nat}:∀(c:List (Int×Int)) {g:List (List Int)×List (List Int)},aF9 n g->aF9 n (c.foldl an7 g) /\
  ∀a b,b∈C9 (c.foldl an7 g).1 a↔b∈C9 g.1 a\/((a,b)∈c/\H1 n a=true/\H1 n b=true)
 | [],g,h=>⟨h,λa b=>by simp⟩
 | e::es,g,h=>by
  obtain⟨f,i⟩:=h.grow e;obtain⟨j,k⟩:=f.grows es;refine⟨j,λa b=>?_⟩;rw[List.foldl_cons,k,i,dO6];constructor
  ·rintro((h|h)|h)
   ·exact .inl h
   ·exact .inr ⟨.inl h.1,h.2⟩
   ·exact .inr ⟨.inr h.1,h.2⟩
  ·rintro(h|⟨h|h,d⟩)
   ·exact .inl (.inl h)
   ·exact .inl (.inr ⟨h,d⟩)
   ·exact .inr ⟨h,d⟩
def aj1(n:Nat)(a:List (Int×Int)):aF9 n (am0 n a):=(bi2 n |>.grows a).1
def E6.row{n:Nat}{l:List (List Int)}(h:E6 n l)(a:Int):(C9 l a).Pairwise (· < ·)/\(∀y∈C9 l a,H1 n y=true):=by
 by_cases ha:H1 l.length a=true
 ·exact⟨h.le _ (as8 ha),h.ok _ (as8 ha)⟩
 ·rw[aY0 (by simpa using ha)];exact⟨List.Pairwise.nil,λy b=>by cases b⟩
section
variable {α:Type}
def bV4(le:α->α->Bool)(x:α):List α->List α
 | []=>[x]
 | y::l=>if le x y then x::y::l else y::bV4 le x l
def Y0(le:α->α->Bool):List α->List α
 | []=>[]
 | x::l=>bV4 le x (Y0 le l)
def al3(a:α->α->Bool)(p:α):List α->List α
 | []=>[]
 | y::l=>if a y p then al3 a y l else y::al3 a y l
def ai5(a:α->α->Bool):List α->List α
 | []=>[]
 | x::l=>x::al3 a x l
def bc5(le:α->α->Bool)(x:α):∀l,(bV4 le x l).Perm (x::l)
 | []=>by simp[bV4]
 | y::l=>by
  rw[bV4];split
  ·exact List.Perm.refl _
  ·exact(List.Perm.cons y (bc5 le x l)).trans (List.Perm.swap _ _ _)
def F5(le:α->α->Bool):∀l,(Y0 le l).Perm l
 | []=>by simp[Y0]
 | x::l=>by rw[Y0];exact(bc5 le x _).trans (List.Perm.cons x (F5 le l))
def bi4{le:α->α->Bool}{x:α}:∀{l:List α},(∀a∈x::l,∀b∈x::l,le a b=true\/le b a=true)->(∀a∈x::l,∀b∈x::l,∀c∈x::l,le a b=true->le b c=true->le a c=true) ->
  l.Pairwise (λa b=>le a b=true)->(bV4 le x l).Pairwise (λa b=>le a b=true)
 | [],_,_,_=>by simp[bV4]
 | y::l,ht,htr,hs=>by
  rw[bV4];rw[dS3]at hs;split
  ·next h=>
   rw[dS3];refine⟨λz d=>?_,by rw[dS3];exact hs⟩;rcases dO6.1 d with rfl|d
   ·exact h
   ·exact htr x (by simp) y (by simp) z (by simp[d]) h (hs.1 z d)
  ·next h=>
   have g:le y x=true:=by
    rcases ht x (by simp) y (by simp)with h1|h1
    ·exact absurd h1 h
    ·exact h1
   rw[dS3];refine⟨λz d=>?_,bi4 (λa e b f=>ht a ?_ b ?_) (λa e b f c i=>htr a ?_ b ?_ c ?_) hs.2⟩
   ·have:=(bc5 le x l).mem_iff.1 d;rcases dO6.1 this with rfl|d
    ·exact g
    ·exact hs.1 z d
   all_goals simp only[dO6]at *
   ·rcases e with h|h<;>simp[h]
   ·rcases f with h|h<;>simp[h]
   ·rcases e with h|h<;>simp[h]
   ·rcases f with h|h<;>simp[h]
   ·rcases i with h|h<;>simp[h]
def ah8{le:α->α->Bool}:∀{l:List α},(∀a∈l,∀b∈l,le a b=true\/le b a=true)->(∀a∈l,∀b∈l,∀c∈l,le a b=true->le b c=true->le a c=true) ->
  (Y0 le l).Pairwise (λa b=>le a b=true)
 | [],_,_=>by simp[Y0]
 | x::l,ht,htr=>by
  have hm:∀a,a∈x::Y0 le l↔a∈x::l:=λa=>by simp only[dO6,(F5 le l).mem_iff]
  rw[Y0];refine bi4 (λa d b e=>ht a ((hm a).1 d) b ((hm b).1 e)) (λa d b e c f=>htr a ((hm a).1 d) b ((hm b).1 e) c ((hm c).1 f)) ?_;exact ah8 (λa d b e=>ht a (by simp[d]) b (by simp[e])) (λa d b e c f=>htr a (by simp[d]) b (by simp[e]) c (by simp[f]))
def aD7{le:α->α->Bool}:∀{l m:List α},l.Perm m->(∀a∈l,∀b∈l,le a b=true->le b a=true->a=b)->l.Pairwise (λa b=>le a b=true)->m.Pairwise (λa b=>le a b=true)->l=m
 | [],m,hp,_,_,_=>by simpa using hp.symm
 | x::l,[],hp,_,_,_=>by simpa using hp
 | x::l,y::m,hp,ha,h1,h2=>by
  rw[dS3]at h1 h2;have e:x=y:=by
   have d:x∈y::m:=hp.mem_iff.1 (by simp);have c:y∈x::l:=hp.mem_iff.2 (by simp);rcases dO6.1 d with h|d
   ·exact h
   rcases dO6.1 c with h|c
   ·exact h.symm
   exact ha x (by simp) y (by simp[c]) (h1.1 y c) (h2.1 x d)
  subst e;rw[aD7 ((List.perm_cons x).1 hp) (λa h b f=>ha a (by simp[h]) b (by simp[f])) h1.2 h2.2]
end
def aE6(l:List St)(o:Int):Int:=match l with
 | []=>o
 | t::_=>t.id
def Sh.goes(s:Sh)(it:It):List Int:=
 if it.s.kind=5 then[aE6 it.s.thn it.next,aE6 it.s.els it.next]
 else if it.s.kind=6 then[aE6 it.s.thn it.s.id,it.next]
 else if it.s.kind=7 then[(s.it it.loop).next]
 else if it.s.kind=8 then[it.loop]
 else if it.s.kind=9 then[-1]
 else if it.s.kind=10 then[(s.at it.proc it.s.name).getD 0]
 else[it.next]
def F1(p:Int):Int:=if p = -1 then 9223372036854775807 else p
def K6(a b:Int):Int:=if a<b then -1 else if b<a then 1 else 0
def orF:List Int->Int
 | []=>0
 | x::l=>if x=0 then orF l else x
def spC(a b:Sp):Int:=orF [K6 (F1 a.src) (F1 b.src),K6 (F1 a.dst) (F1 b.dst),K6 a.kind b.kind]
def de1(a b:Sp):Bool:=decide (spC a b<=0)
def aZ1(a b:Sp):Bool:=decide (a.src=b.src)&&decide (a.dst=b.dst)
def at5(l:List Sp):List Sp:=ai5 aZ1 (Y0 de1 l)
def Sh.steps(s:Sh)(i:Nat):List Sp:=at5 (⟨0,s.first i,1⟩::(s.of i).flatMap λit=>(s.goes it).map λt=>⟨it.s.id,t,1⟩)
structure Wy where
 s:Sh
 proc:Int
 n:Int
 real:List Sp
 live:List Bool
def Wy.index(w:Wy)(p:Int):Int:=if p=0 then 0 else if p = -1 then w.n-1 else if Y4 w.s.lo w.proc<=p/\p<Y4 w.s.hi w.proc then p-Y4 w.s.lo w.proc+1 else -1
def Wy.place(w:Wy)(i:Int):Int:=if i=0 then 0 else if i=w.n-1 then -1 else Y4 w.s.lo w.proc+i-1
def atB(l:List Bool)(i:Int):Bool:=l.getD i.toNat false
def Wy.lives(w:Wy)(id:Int):Bool:=atB w.live (w.index id)
def Wy.pairs(w:Wy)(l:List Sp):List (Int×Int):=l.map λt=>(w.index t.src,w.index t.dst)
def O2(nx:List (List Int)):Nat->List Int->List Int
 | 0,l=>l
 | n+1,l=>O2 nx n (l++((l.flatMap (C9 nx)).filter λb=>!l.contains b).eraseDups)
def V0(nx:List (List Int))(a:Int)(b:Int):Bool:=H1 nx.length a&&(O2 nx nx.length [a]).contains b
def bE4(nx:List (List Int)):List Bool:=(List.range nx.length).map λb=>V0 nx 0 (b:Nat)
def ah1(nx:List (List Int)):List Int:=(List.range nx.length).map λa=>(((List.range nx.length).find? λb=>V0 nx (a:Nat) (b:Nat)&&V0 nx (b:Nat) (a:Nat)).getD 0:Nat)
def D5(s:Sh)(i:Nat):Wy:=
 let w:Wy:=⟨s,i,Y4 s.hi i-Y4 s.lo i+2,s.steps i,[]⟩
 {w with live:=bE4 (am0 w.n.toNat (w.pairs w.real)).1}
def Wy.traps(w:Wy):List (List Int):=
 let part:=ah1 (am0 w.n.toNat (w.pairs w.real)).1
 let op:=Y4 part 0::Y4 part (w.n-1)::((w.pairs w.real).filter λt=>!decide (Y4 part t.1=Y4 part t.2)).map λt=>Y4 part t.1
 ((List.range part.length).filter λ(i:Nat)=>decide (Y4 part (i:Int)=(i:Int)) && !op.contains (i:Int)).map λ(i:Nat)=>((List.range part.length).filter λ(j:Nat)=>decide (Y4 part (j:Int)=(i:Int))).map λ(j:Nat)=>w.place (j:Int)
def Wy.virtual(w:Wy):List Sp:=w.traps.flatMap λl=>(l.filter λid=>decide ((w.s.it id).s.kind=10)).map λid=>⟨id,-1,3⟩
def Wy.data(w:Wy):List Sp:=at5 (w.virtual++w.real)
def W8(it:It):List Sp:=if it.s.kind=7\/it.s.kind=8\/it.s.kind=9\/it.s.kind=10 then[⟨it.s.id,it.next,2⟩]else[]
def Wy.aug(w:Wy):List Sp:=at5 (w.virtual++w.real++[⟨0,-1,2⟩]++(w.s.of w.proc).flatMap W8)
def ao6(n:Nat)(l:List (Int×Int)):List (List Int):=(List.range n).map λ(a:Nat)=>(l.filter λt=>decide (t.1=(a:Int))).map (·.2)
def Wy.net(w:Wy):List (List Int):=ao6 w.n.toNat (w.pairs w.data)
def aa7(f:List (List Bool))(c:List Int):List Bool:=(List.range f.length).map λ(b:Nat)=>c.all λa=>atB (f.getD a.toNat []) (b:Int)
def S9(next:List (List Int))(f:List (List Bool))(a:Nat):List (List Bool):=f.set a ((aa7 f (next.getD a [])).set a true)
def O4(next:List (List Int))(f:List (List Bool)):Nat->List (List Bool)
 | 0=>f
 | a+1=>O4 next (S9 next f a) a
def ad2(next:List (List Int))(m:Nat):Nat->List (List Bool)->List (List Bool)
 | 0,f=>f
 | k+1,f=>ad2 next m k (O4 next f m)
def T6(n:Nat):List (List Bool):=(List.range n).map λa=>(List.range n).map λb=>decide (a+1<n)||decide (a=b)
def Wy.follow(w:Wy):List (List Bool):=ad2 (ao6 w.n.toNat (w.pairs w.aug)) (w.n.toNat-1) (w.n.toNat*w.n.toNat+1) (T6 w.n.toNat)
def Wy.decides(w:Wy):List (Int×Int):=
 let f:=w.follow
 let ps:=w.pairs w.aug
 (List.range w.n.toNat).flatMap λ(a:Nat)=>((List.range w.n.toNat).filter λ(b:Nat)=>decide (1<=b)&&decide ((b:Int)<w.n-1)&&ps.any λt=>decide (t.1=(a:Int))&&atB (f.getD t.2.toNat []) (b:Int)&&(decide (a=b) || !atB (f.getD a []) (b:Int))).map λ(b:Nat)=>(w.place (a:Int),w.place (b:Int))
def dS4:=@List.filter_append
def dW7:=@List.range_succ
def dY8:=@decide_eq_false_iff_not
def dV2:=@decide_eq_true
def aW2{a b:A6}:ltS a b=true↔a.b<b.b:=by
 unfold ltS;rw[bytesLess_eq,decide_eq_true_iff]
def W3{a b:A6}:ltS a b=false↔b.b<=a.b:=by
 rw[<-Bool.not_eq_true,aW2];exact dU5
def bc8{a b c:A6}(d:a.b<=b.b)(e:b.b<=c.b):a.b<=c.b:=List.le_trans d e
def aC0{a b:A6}(c:a.b<=b.b)(d:b.b<=a.b):a=b:=by
 have:=List.le_antisymm c d;cases a;cases b;simp_all
def L5(a:A6):ltS a a=false:=W3.2 (List.le_refl _)
def aq1{a b c:A6}(d:ltS a b=true)(e:ltS b c=true):ltS a c=true:=aW2.2 (List.lt_trans (aW2.1 d) (aW2.1 e))
def bM2{a b:A6}(c:ltS a b=false)(d:ltS b a=false):a=b:=aC0 (W3.1 d) (W3.1 c)
def bc6(x:A6):∀l,(bV5 x l).Perm (x::l)
 | []=>by simp[bV5]
 | y::l=>by
  rw[bV5];split
  ·exact(List.Perm.cons y (bc6 x l)).trans (List.Perm.swap _ _ _)
  ·exact List.Perm.refl _
def T0:∀l,(T4 l).Perm l
 | []=>by simp[T4]
 | x::l=>by rw[T4];exact(bc6 x _).trans (List.Perm.cons x (T0 l))
def bi6(x:A6):∀{l:List A6},l.Pairwise (λa b=>a.b<=b.b)->(bV5 x l).Pairwise (λa b=>a.b<=b.b)
 | [],_=>by simp[bV5]
 | y::l,hs=>by
  rw[bV5];have d:=hs;rw[dS3]at hs;split
  ·next h=>
   rw[dS3];refine⟨λz c=>?_,bi6 x hs.2⟩;rcases dO6.1 ((bc6 x l).mem_iff.1 c)with rfl|c
   ·exact List.le_of_lt (aW2.1 h)
   ·exact hs.1 z c
  ·next h=>
   have e:=W3.1 (dX7.2 h);rw[dS3];refine⟨λz c=>?_,d⟩;rcases dO6.1 c with rfl|c
   ·exact e
   ·exact bc8 e (hs.1 z c)
def ao8:∀l,(T4 l).Pairwise (λa b=>a.b<=b.b)
 | []=>by simp[T4]
 | x::l=>by rw[T4];exact bi6 x (ao8 l)
def U0(l:List A6):(T4 l).length=l.length:=(T0 l).length_eq
def ca8(l:List A6):((l.map (·.b)).mergeSort λx y=>decide (x<=y))=(T4 l).map (·.b):=by
 refine aD7 (le:=λx y:List UInt8=>decide (x<=y)) ?_ ?_ ?_ ?_
 ·exact(List.mergeSort_perm _ _).trans ((T0 l).map _).symm
 ·intro a _ b _ f g;have d:a<=b:=dM8 f;have e:b<=a:=dM8 g;exact List.le_antisymm d e
 ·refine List.pairwise_mergeSort (le:=λx y:List UInt8=>decide (x<=y)) (λa b c f g=>?_) (λa b=>?_) _
  ·have d:a<=b:=dM8 f;have e:b<=c:=dM8 g;exact dV2 (List.le_trans d e)
  ·rcases List.le_total a b with h|h<;>simp[h]
 ·rw[List.pairwise_map];exact(ao8 l).imp fun{a b} h=>dV2 h
def aQ6{α:Type}[DecidableEq α]:∀(l:List α) (y:α),G7 (l++[y])=if l.getLast?=some y then G7 l else G7 l++[y]
 | [],y=>by simp[G7]
 | [x],y=>by
  by_cases h:x=y
  ·subst h;simp[G7]
  ·simp[G7,h]
 | x::z::l,y=>by
  have a:=aQ6 (z::l) y;rw[dX6,dX6,G7,<-dX6,a,List.getLast?_cons_cons,G7];by_cases h1:x=z<;>by_cases h2:(z::l).getLast?=some y<;>simp only[h1,h2,dS6,dU1,dX6]
def bC4(d:Array (List UInt8)):∀m,m<=d.size->Lib.compactUpTo d m=G7 (d.toList.take m)
 | 0,_=>by simp[Lib.compactUpTo,G7]
 | m+1,hm=>by
  have i:=bC4 d m (by omega);have f:m<d.toList.length:=by simp;omega
  have c:d[m]! = d.toList[m]:=by
   rw[getElem!_pos d m (by omega)];simp
  rw[dN3 f,aQ6,<-i];have g:Lib.compactUpTo d (m+1)=Lib.compactUpTo d m++(if Lib.keeps d m then[d[m]!]else[]):=by
   simp only[Lib.compactUpTo,dW7,dS4,dP6]
   congr 1
   by_cases b:Lib.keeps d m=true
   ·simp[b]
   ·simp[b]
  rw[g,c];by_cases h0:m=0
  ·subst h0;simp[Lib.keeps,Lib.compactUpTo]
  ·have a:(d.toList.take m).getLast?=some d[m-1]!:=by
    rw[List.getLast?_eq_getElem?,dN9,dT1 (by omega),dV1,if_pos (by omega),getElem!_pos d (m-1) (by omega)];simp[show m-1<d.size by omega]
   rw[a];by_cases he:d.toList[m]=d[m-1]!
   ·have b:Lib.keeps d m=false:=by simp only[Lib.keeps,dY8,c,h0,false_or,ne_eq];exact λh=>h he
    rw[b,if_pos (dO2 some he.symm)];simp
   ·have b:Lib.keeps d m=true:=by simp only[Lib.keeps,dQ3];rw[c];exact .inr he
    rw[b,if_neg (λe=>he (dO3 e).symm)];simp
def bC5{α β:Type}[DecidableEq α][DecidableEq β]{g:α->β}(c:∀a b,g a=g b->a=b):∀l:List α,G7 (l.map g)=(G7 l).map g
 | []=>by simp[G7]
 | [x]=>by simp[G7]
 | x::y::l=>by
  have d:=bC5 c (y::l);rw[dQ8]at d;rw[dQ8,dQ8,G7,G7,d];by_cases h:x=y
  ·rw[if_pos h,if_pos (by rw[h])]
  ·rw[if_neg h,if_neg (λe=>h (c _ _ e)),dQ8]
def bz8(l:List A6):Lib.compact (l.map (·.b))=(G7 l).map (·.b):=by
 unfold Lib.compact;have:=bC4 (l.map (·.b)).toArray (l.map (·.b)).length (by simp);rw[this];simp only[dN8];exact bC5 (λa b h=>by cases a;cases b;simpa using h) l
def ap8{α:Type}[DecidableEq α]:∀l:List α,(G7 l).length<=l.length
 | []=>by simp[G7]
 | [x]=>by simp[G7]
 | x::y::l=>by
  have a:=ap8 (y::l);rw[G7];split<;>simp only[dP4]at * <;> omega
def ai8{α:Type}[DecidableEq α]{z:α}:∀l:List α,z∈G7 l↔z∈l
 | []=>by simp[G7]
 | [x]=>by simp[G7]
 | x::y::l=>by
  have a:=ai8 (z:=z) (y::l);rw[G7];split
  ·next h=>subst h;rw[a];simp
  ·rw[dO6,a,dO6 (b:=x)]
theorem aQ5:∀{l:List A6},l.Pairwise (λa b=>a.b<=b.b)->(G7 l).Pairwise (λa b=>ltS a b=true)
 | [],_=>by simp[G7]
 | [x],_=>by simp[G7]
 | x::y::l,h=>by
  have j:=h;rw[dS3]at h;rw[G7];split
  ·exact aQ5 h.2
  ·next d=>
   rw[dS3];refine⟨λz i=>?_,aQ5 h.2⟩;have c:=(ai8 _).1 i;have e:=h.1 y (by simp);have f:ltS x y=true:=by
    cases hq:ltS x y
    ·exact absurd (aC0 e (W3.1 hq)) d
    ·rfl
   rcases dO6.1 c with rfl|c
   ·exact f
   ·rw[dS3]at h;have:=h.2.1 z c;cases hq:ltS x z
    ·have g:=W3.1 hq;have:y=x:=aC0 (bc8 this g) e;exact absurd this.symm d
    ·rfl
def S6(l:List A6):(D7 l).Pairwise (λa b=>ltS a b=true):=aQ5 (ao8 l)
def I3{l:List A6}{x:A6}:x∈D7 l↔x∈l:=by rw[D7,ai8,(T0 l).mem_iff]
def av5(l:List A6):(D7 l).length<=l.length:=dN1 (ap8 _) (by rw[U0];exact dO0 _)
def bZ4:∀{l m:List A6},l.Pairwise (λa b=>ltS a b=true)->m.Pairwise (λa b=>ltS a b=true)->(∀x,x∈l↔x∈m)->l=m
 | [],[],_,_,_=>rfl
 | [],y::m,_,_,h=>by have:=(h y).2 (by simp);simp at this
 | x::l,[],_,_,h=>by have:=(h x).1 (by simp);simp at this
 | x::l,y::m,h1,h2,h=>by
  rw[dS3]at h1 h2;have c:x=y:=by
   rcases dO6.1 ((h x).1 (by simp))with e|hx
   ·exact e
   rcases dO6.1 ((h y).2 (by simp))with e|hy
   ·exact e.symm
   have f:=h1.1 y hy;have g:=h2.1 x hx;have:=aq1 f g;rw[L5]at this;cases this
  subst c;rw[bZ4 h1.2 h2.2 λz=>?_];have d:=h z;simp only[dO6]at d;constructor
  ·intro hm;rcases d.1 (.inr hm)with e|hm'
   ·subst e;have:=h1.1 z hm;rw[L5]at this;cases this
   ·exact hm'
  ·intro hm;rcases d.2 (.inr hm)with e|hm'
   ·subst e;have:=h2.1 z hm;rw[L5]at this;cases this
   ·exact hm'
end Go.Proofs.YtfadjbljajfkfaaGreat
namespace Go.Proofs
open Go.Shelf
def Tryz.lyS_ren:Go.Shelf.Ren:=⟨fun|190=>126|125=>66|258=>177|128=>101|129=>102|302=>214|303=>215|304=>216|305=>217|306=>218|307=>219|308=>220|309=>221|310=>222|333=>255|329=>152|330=>153|334=>256|335=>257|336=>231|344=>280|n=>n,fun|31=>31|9=>9|3=>3|46=>129|0=>0|51=>165|53=>167|4=>4|183=>158|182=>157|131=>98|5=>5|218=>225|222=>229|228=>271|229=>272|n=>n,fun|n=>n⟩
def Tryz.lyS:Go.Proofs.Lays.n190 Tryz.prog Tryz.lyS_ren:={
 mixed:=by kernel_rfl
 f125:=Tryz.func66.trans (congrArg some (by kernel_rfl))
 f128:=Tryz.func101.trans (congrArg some (by kernel_rfl))
 f129:=Tryz.func102.trans (congrArg some (by kernel_rfl))
 f190:=Tryz.func126.trans (congrArg some (by kernel_rfl))
 f258:=Tryz.func177.trans (congrArg some (by kernel_rfl))
 f302:=Tryz.func214.trans (congrArg some (by kernel_rfl))
 f303:=Tryz.func215.trans (congrArg some (by kernel_rfl))
 f304:=Tryz.func216.trans (congrArg some (by kernel_rfl))
 f305:=Tryz.func217.trans (congrArg some (by kernel_rfl))
 f306:=Tryz.func218.trans (congrArg some (by kernel_rfl))
 f307:=Tryz.func219.trans (congrArg some (by kernel_rfl))
 f308:=Tryz.func220.trans (congrArg some (by kernel_rfl))
 f309:=Tryz.func221.trans (congrArg some (by kernel_rfl))
 f310:=Tryz.func222.trans (congrArg some (by kernel_rfl))
 f329:=Tryz.func152.trans (congrArg some (by kernel_rfl))
 f330:=Tryz.func153.trans (congrArg some (by kernel_rfl))
 f333:=Tryz.func255.trans (congrArg some (by kernel_rfl))
 f334:=Tryz.func256.trans (congrArg some (by kernel_rfl))
 f335:=Tryz.func257.trans (congrArg some (by kernel_rfl))
 f336:=Tryz.func231.trans (congrArg some (by kernel_rfl))
 f344:=Tryz.func280.trans (congrArg some (by kernel_rfl))
 t0:=Tryz.underlying0
 a0:=Tryz.isAgg0
 z0:=Tryz.sizeOf0
 v0:=Tryz.zeroValue0
 t3:=Tryz.underlying3
 a3:=Tryz.isAgg3
 z3:=Tryz.sizeOf3
 v3:=Tryz.zeroValue3
 t4:=Tryz.underlying4
 a4:=Tryz.isAgg4
 z4:=Tryz.sizeOf4
 v4:=Tryz.zeroValue4
 t5:=Tryz.underlying5
 a5:=Tryz.isAgg5
 z5:=Tryz.sizeOf5
 v5:=Tryz.zeroValue5
 t9:=Tryz.underlying9
 a9:=Tryz.isAgg9
 z9:=Tryz.sizeOf9
 v9:=Tryz.zeroValue9
 t31:=Tryz.underlying31
 a31:=Tryz.isAgg31
 z31:=Tryz.sizeOf31
 v31:=Tryz.zeroValue31
 t46:=Tryz.underlying129
 a46:=Tryz.isAgg129
 z46:=Tryz.sizeOf129
 v46:=Tryz.zeroValue129
 t51:=Tryz.underlying165
 a51:=Tryz.isAgg165
 z51:=Tryz.sizeOf165
 v51:=Tryz.zeroValue165
 t53:=Tryz.underlying167
 a53:=Tryz.isAgg167
 z53:=Tryz.sizeOf167
 v53:=Tryz.zeroValue167
 t131:=Tryz.underlying98
 a131:=Tryz.isAgg98
 z131:=Tryz.sizeOf98
 v131:=Tryz.zeroValue98
 t182:=Tryz.underlying157
 a182:=Tryz.isAgg157
 z182:=Tryz.sizeOf157
 v182:=Tryz.zeroValue157
 t183:=Tryz.underlying158
 a183:=Tryz.isAgg158
 z183:=Tryz.sizeOf158
 v183:=Tryz.zeroValue158
 t218:=Tryz.underlying225
 a218:=Tryz.isAgg225
 z218:=Tryz.sizeOf225
 v218:=Tryz.zeroValue225
 t222:=Tryz.underlying229
 a222:=Tryz.isAgg229
 z222:=Tryz.sizeOf229
 v222:=Tryz.zeroValue229
 t228:=Tryz.underlying271
 a228:=Tryz.isAgg271
 z228:=Tryz.sizeOf271
 v228:=Tryz.zeroValue271
 t229:=Tryz.underlying272
 a229:=Tryz.isAgg272
 z229:=Tryz.sizeOf272
 v229:=Tryz.zeroValue272}
def Tryz.lyK_ren:Go.Shelf.Ren:=⟨fun|194=>168|n=>n,fun|31=>31|9=>9|3=>3|4=>4|0=>0|n=>n,fun|n=>n⟩
def Tryz.lyK:Go.Proofs.Lays.n194 Tryz.prog Tryz.lyK_ren:={
 mixed:=by kernel_rfl
 f194:=Tryz.func168.trans (congrArg some (by kernel_rfl))
 t0:=Tryz.underlying0
 a0:=Tryz.isAgg0
 z0:=Tryz.sizeOf0
 v0:=Tryz.zeroValue0
 t3:=Tryz.underlying3
 a3:=Tryz.isAgg3
 z3:=Tryz.sizeOf3
 v3:=Tryz.zeroValue3
 t4:=Tryz.underlying4
 a4:=Tryz.isAgg4
 z4:=Tryz.sizeOf4
 v4:=Tryz.zeroValue4
 t9:=Tryz.underlying9
 a9:=Tryz.isAgg9
 z9:=Tryz.sizeOf9
 v9:=Tryz.zeroValue9
 t31:=Tryz.underlying31
 a31:=Tryz.isAgg31
 z31:=Tryz.sizeOf31
 v31:=Tryz.zeroValue31}
end Go.Proofs
namespace Go.Proofs.YtfadjbljajfkfaaGreat
open Go Tryz
def dT6:=@List.take_append_of_le_length
section
open Go.Sort
def dw4:(Tryz.lyS_ren.f 190)=126:=by kernel_rfl
def dw3:(Tryz.lyK_ren.f 194)=168:=by kernel_rfl
section
variable {α:Type} [Inhabited α]
def bA5(enc:α->Value)(d:Array α)(a:Array Value)(h:d.size<=a.size):(putCells enc 0 d a).toList=d.toList.map enc++a.toList.drop d.size:=by
 apply dZ5;intro k;rw[dY3];unfold putCells;rw[Array.getElem?_mapIdx];rcases dQ7 k d.size with b|b
 ·rw[dR6 (by simpa using b),dV8 (by omega)];simp[b]
 ·rw[dR4 (by simpa using b),dW6,dN4,dZ7,show d.size+(k-d.size)=k by omega];rcases dQ7 k a.size with c|c
  ·simp[c,show ¬k<d.size by omega]
  ·simp[show a.size<=k by omega]
def aX5{w:World}{b:Nat}{T:TypeId}{a:Array Value}(k:w.heap[b]?=some (.cells a T (0,0)))(enc:α->Value)(d:Array α)(h:d.size<=a.size)(n:Nat)(g:Array Obj):
  (grow (putRow enc (Go.Sort.ahead w n) b 0 d) g).heap[b]?=some (.cells (d.toList.map enc++a.toList.drop d.size).toArray T (0,0))/\o9 (λc=>c=b) w (grow (putRow enc (Go.Sort.ahead w n) b 0 d) g):=by
 have l:b<w.heap.size:=(dN0.1 k).1;have f:(putRow enc (Go.Sort.ahead w n) b 0 d).heap.size=w.heap.size:=by rw[size_putRow];rfl
 have j:∀c,(putRow enc (Go.Sort.ahead w n) b 0 d).heap[c]?=if b=c then(w.heap[c]?).map (onCells (putCells enc 0 d))else w.heap[c]?:=λc=>by
  unfold putRow mapBlock;rw[Array.getElem?_modify];split<;>rfl
 refine⟨?_,⟨rfl,rfl,rfl,?_,λc m i=>?_⟩⟩
 ·show((putRow enc (Go.Sort.ahead w n) b 0 d).heap++g)[b]?=_;rw[Array.getElem?_append_left (by rw[f];exact l),j b,if_pos rfl,k];simp only[dS5,onCells,<-bA5 enc d a h,Array.toArray_toList]
 ·show w.heap.size<=((putRow enc (Go.Sort.ahead w n) b 0 d).heap++g).size;rw[Array.size_append,f];omega
 ·show((putRow enc (Go.Sort.ahead w n) b 0 d).heap++g)[c]?=_;rw[Array.getElem?_append_left (by rw[f];exact m),j c,if_neg (λe=>i e.symm)]
end
def ay0{h:Hp}{cs:List Value}{l:List A6}:O3 h cs l↔cs=l.map p6:=by
 induction l generalizing cs with
 | nil=>simp[O3]
 | cons x l a=>
  rw[O3];constructor
  ·rintro⟨b,e,rfl,c,d⟩;have:b=[p6 x]:=c;rw[this,a.1 d];rfl
  ·rintro rfl;exact⟨[p6 x],l.map p6,rfl,rfl,a.2 rfl⟩
section
variable {h:Hp} {w:World} {v:Value} {l:List A6}
def bY3(n:A8 h w 9 v l):(v = .slice none 0 0/\l=[])\/∃b c a,v = .slice (some ⟨b,0,none⟩) l.length c/\h b=none/\w.heap[b]?=some (.cells a 9 (0,0))/\l.length<=c/\c<=maxLen/\a.size=c/\a.toList.take l.length=l.map p6:=by
 rcases n with m|⟨b,c,a,rfl,g,i,j,k,d,f⟩
 ·exact .inl m
 ·have e:A4.sz A6=1:=rfl;rw[e,dT8]at d f;exact .inr ⟨b,c,a,rfl,g,i,j,k,d,ay0.1 f⟩
theorem bj3{b c:Nat}{a:Array Value}(d:h b=none)(f:w.heap[b]?=some (.cells a 9 (0,0)))(g:l.length<=c)(i:c<=maxLen)(j:a.size=c)(k:a.toList.take l.length=l.map p6):
  A8 h w 9 (.slice (some ⟨b,0,none⟩) l.length c) l:=by
 have e:A4.sz A6=1:=rfl;refine .inr ⟨b,c,a,rfl,d,f,g,i,by rw[e,j,dT8],?_⟩;rw[e,dT8,k];exact ay0.2 rfl
def br9{b:Nat}{a:Array Value}(d:w.heap[b]?=some (.cells a 9 (0,0)))(g:a.toList.take l.length=l.map p6):Holds encStr w b 0 (l.map A6.b).toArray:=λj f=>by
 have c:j<l.length:=by simpa using f
 rw[dQ2,dU3 w b j a _ (0,0) d];have e:=dO2 (λz=>z[j]?) g;simp only[dV1,if_pos c,dP9,dM4 c,dS5]at e;refine⟨?_,frozen_of_row w b j a _ d⟩;rw[getElem!_pos _ j f];simpa[p6]using e
theorem cE0(p:A8 h w 9 v l)(u:l.length<=1000000000):
  Calls prog 126 #[v] w λe d=>e = .returned (.tuple #[])/\A8 h d 9 v (T4 l)/\o9 (A3 v) w d:=by
 rw[<-dw4];rcases bY3 p with⟨rfl,rfl⟩|⟨b,c,i,rfl,j,f,g,k,t,m⟩
 ·refine(Any.slices_Sort_string_none Tryz.lyS none 0 w).mono ?_;rintro e d ⟨rfl,rfl⟩;exact⟨rfl,A8.nil _ _ _,o9.refl _⟩
 ·have o:b<w.heap.size:=(dN0.1 f).1;have:=Any.slices_Sort_string Tryz.lyS b 0 c (l.map A6.b) w (br9 f m) o (by rw[dN4];omega);rw[dN4]at this;refine this.mono ?_;rintro e d ⟨rfl,n,s,rfl⟩;rw[ca8];obtain⟨q,r⟩:=aX5 f encStr ((T4 l).map A6.b).toArray (by simp[U0];omega) n s;refine⟨rfl,?_,r.weaken λ_ _ e=>by subst e;rfl⟩;have a:=U0 l;rw[<-a]at g ⊢;refine bj3 j q g k ?_ ?_
  ·simp[U0];omega
  ·simp only[List.map_map];rw[dT6 (by simp),dQ9 (by simp)];rfl
theorem bc1(r:A8 h w 9 v l)(x:l.length<=1000000000):
  p7 prog 168 #[v] w λu a=>(A8 h a 9 u (G7 l)/\o9 (A3 v) w a/\F0 w v u):=by
 rw[<-dw3];rcases bY3 r with⟨rfl,rfl⟩|⟨b,c,m,rfl,n,g,s,o,t,p⟩
 ·refine(Any.slices_Compact_string_empty Tryz.lyK none 0 w).mono ?_;rintro e a ⟨rfl,rfl⟩;exact⟨_,rfl,A8.nil _ _ _,o9.refl _,λb d=>.inl d⟩
 ·have:=Any.slices_Compact_string Tryz.lyK b 0 c (l.map A6.b) w (br9 g p) (by rw[dN4];omega) (by rw[dN4];omega);rw[dN4]at this;refine this.mono ?_;rintro e a ⟨rfl,q,rfl⟩;rw[bz8,dN4];have i:=ap8 l;have f:(((G7 l).map A6.b++List.replicate (l.length-(G7 l).length) []).toArray).size=l.length:=by simp;omega
  obtain⟨j,k⟩:=aX5 g encStr (((G7 l).map A6.b++List.replicate (l.length-(G7 l).length) []).toArray) (by rw[f];omega) q #[];rw[grow_empty]at j k;refine⟨_,rfl,?_,k.weaken λ_ _ e=>by subst e;rfl,λb d=>.inl d⟩;refine bj3 n j (by omega) o ?_ ?_
  ·simp;omega
  ·simp only[dP6,List.map_map,dP5];rw[dT6 (by simp),dQ9 (by simp)];rfl
end
end
def dW2:=@List.flatMap_cons
section
open Go.Sort Go.RowKit Go.Shelf
class A0 (α:Type) [A4 α] where
 cells:α->List Value
 iff_:∀(h:Hp) (cs:List Value) (x:α),A4.enc h cs x↔cs=cells x
instance:A0 Sp:=⟨Sp.cells,λ_ _ _=>dU5⟩
instance:A0 Fw:=⟨Fw.cells,λ_ _ _=>dU5⟩
instance:A0 Vx:=⟨Vx.cells,λ_ _ _=>dU5⟩
instance:A0 Eg:=⟨Eg.cells,λ_ _ _=>dU5⟩
instance:Inhabited Sp:=⟨⟨0,0,0⟩⟩
instance:Inhabited Fw:=⟨⟨0,0,e0⟩⟩
instance:Inhabited Vx:=⟨⟨e0,0,0,e0⟩⟩
instance:Inhabited Eg:=⟨⟨default,default,0⟩⟩
section
variable {α:Type} [A4 α] [A0 α]
def ap6(x:α):(A0.cells x).length=A4.sz α:=A4.len ((A0.iff_ (λ_=>none) _ x).2 rfl)
def W1(x:α):∀v∈A0.cells x,v.oneCell'=true:=A4.one ((A0.iff_ (λ_=>none) _ x).2 rfl)
def Y8{h:Hp}:∀{a:List Value} {l:List α},O3 h a l↔a=l.flatMap A0.cells
 | a,[]=>by simp[O3]
 | a,x::l=>by
  rw[O3,dW2];constructor
  ·rintro⟨d,e,rfl,b,c⟩;rw[(A0.iff_ _ _ _).1 b,Y8.1 c]
  ·rintro rfl;exact⟨_,_,rfl,(A0.iff_ _ _ _).2 rfl,Y8.2 rfl⟩
def A8.downN{h k:Hp}{w:World}{T:TypeId}{v:Value}{xs:List α}(n:A8 k w T v xs)(l:B5 h k):A8 h w T v xs:=by
 rcases n with m|⟨b,c,a,rfl,d,e,f,g,i,j⟩
 ·exact .inl m
 ·refine .inr ⟨b,c,a,rfl,?_,e,f,g,i,Y8.2 (Y8.1 j)⟩;cases hq:h b with
  | none=>rfl
  | some o=>have:=l b o hq;rw[d]at this;cases this
def A8.flatRN{h k:Hp}{w:World}{T:TypeId}{v:Value}{xs:List α}(a:A8 h w T v xs)(hb:∀b,A3 v b->k b=w.heap[b]?):R k v xs:=
 (a.downN (h:=λ_=>none) (λb o e=>nomatch e)).ro (λb o e=>nomatch e) hb
def A8.backN{w0 a w:World}{T:TypeId}{v:Value}{xs:List α}(b:A8 (i4 a) w T v xs)(c:o7 w0 a):A8 (i4 w0) w T v xs:=b.downN (b7 c)
def cQ1{h:Hp}{w:World}{T:TypeId}{v:Value}{l:List α}(m:A8 h w T v l):(v = .slice none 0 0/\l=[])\/∃b c a,v = .slice (some ⟨b,0,none⟩) l.length c/\h b=none/\w.heap[b]?=some (.cells a T (0,0))/\l.length<=c/\c<=maxLen/\a.size=c*A4.sz α/\a.toList.take (l.length*A4.sz α)=l.flatMap A0.cells:=by
 rcases m with k|⟨b,c,a,rfl,d,e,f,g,i,j⟩
 ·exact .inl k
 ·exact .inr ⟨b,c,a,rfl,d,e,f,g,i,Y8.1 j⟩
def bu8{h:Hp}{w:World}{T:TypeId}{l:List α}{b c:Nat}{a:Array Value}(d:h b=none)(e:w.heap[b]?=some (.cells a T (0,0)))(f:l.length<=c)(g:c<=maxLen)(i:a.size=c*A4.sz α)(j:a.toList.take (l.length*A4.sz α)=l.flatMap A0.cells):
  A8 h w T (.slice (some ⟨b,0,none⟩) l.length c) l:=.inr ⟨b,c,a,rfl,d,e,f,g,i,Y8.2 j⟩
def af1(l:List α):(l.flatMap A0.cells).length=l.length*A4.sz α:=by
 induction l with
 | nil=>simp
 | cons x l a=>rw[dW2,dM7,ap6,a,dP4,Nat.succ_mul,Nat.add_comm]
end
def bh5{α β:Type}(f:α->List β){k:Nat}(b:0<k)(a:∀x,(f x).length=k):∀(l:List α) (t:Nat),(l.flatMap f)[t]?=(l[t / k]?).bind λx=>(f x)[t % k]?
 | [],t=>by simp
 | x::l,t=>by
  rw[dW2];rcases dQ7 t k with h|h
  ·rw[dR6 (by rw[a];exact h),Nat.div_eq_of_lt h,Nat.mod_eq_of_lt h];rfl
  ·rw[dR4 (by rw[a];exact h),a,bh5 f b a l];have c:t / k=(t-k) / k+1:=by rw[Nat.div_eq_sub_div b h]
   have d:t % k=(t-k) % k:=Nat.mod_eq_sub_mod h;rw[c,d,List.getElem?_cons_succ]
theorem bq9{α:Type}[Inhabited α](f:α->List Value){k:Nat}(c:0<k)(b:∀x,(f x).length=k)(d:Array α):(flatK f k d).toList=d.toList.flatMap f:=by
 apply dZ5;intro t;rw[bh5 f c b];unfold flatK;rw[dY3,Array.getElem?_map];rcases dQ7 t (d.size*k)with h|h
 ·have a:t / k<d.size:=Nat.div_lt_of_lt_mul (by rw[Nat.mul_comm];exact h);have e:t % k<k:=Nat.mod_lt _ c;rw[dV8 (by simpa using h),dY3,dV8 a];simp only[Array.getElem_range,dS5,Option.bind_some];rw[getElem!_pos d _ a,getElem!_pos _ _ (by rw[b];exact e),dM4 (by rw[b];exact e)]
 ·have a:d.size<=t / k:=(Nat.le_div_iff_mul_le c).2 h;rw[Array.getElem?_eq_none (by simpa using h),dY3,Array.getElem?_eq_none a];rfl
structure Cm {α:Type} (c:α->α->Int):Prop where
 refl:∀x,c x x=0
 anti:∀x y,c y x = - c x y
 trans:∀x y z,c x y<=0->c y z<=0->c x z<=0
def Cm.swo{α:Type}{c:α->α->Int}(h:Cm c):SWO (ltOf c) where
 irrefl x:=by simp[ltOf,h.refl]
 trans x y z h1 h2:=by
  simp only[ltOf,dQ3]at *;have b:=h.trans x y z (by omega) (by omega);rcases Int.lt_or_eq_of_le b with a|a
  ·exact a
  ·have g:=h.anti x z;have i:=h.trans y z x (by omega) (by omega);have j:=h.anti x y;omega
 ntrans x y z h1 h2:=by
  simp only[ltOf,dY8]at *;have d:=h.anti x y;have e:=h.anti y z;have f:=h.anti x z;have:=h.trans z y x (by omega) (by omega);omega
def Cm.total{α:Type}{c:α->α->Int}(h:Cm c)(x y:α):decide (c x y<=0)=true\/decide (c y x<=0)=true:=by
 have:=h.anti x y;simp only[dQ3];omega
def Cm.key{α β:Type}{c:β->β->Int}(h:Cm c)(f:α->β):Cm λx y=>c (f x) (f y):=⟨λx=>h.refl _,λx y=>h.anti _ _,λx y z=>h.trans _ _ _⟩
def Cm.zero{α:Type}:Cm λ(_ _:α)=>0:=⟨λ_=>rfl,λ_ _=>rfl,λ_ _ _ _ _=>by omega⟩
def Cm.lex{α:Type}{c d:α->α->Int}(h:Cm c)(k:Cm d):Cm λx y=>if c x y=0 then d x y else c x y:=by
 refine⟨λx=>by simp only[h.refl,dS6,k.refl],λx y=>?_,λx y z a b=>?_⟩
 ·have e:=h.anti x y;have f:=k.anti x y;by_cases hq:c x y=0
  ·show(if c y x=0 then d y x else c y x) = - (if c x y=0 then d x y else c x y);rw[if_pos (show c y x=0 by omega),if_pos hq,f]
  ·show(if c y x=0 then d y x else c y x) = - (if c x y=0 then d x y else c x y);rw[if_neg (show ¬c y x=0 by omega),if_neg hq,e]
 ·have e:=h.anti x y;have f:=h.anti y z;have n:=h.anti x z
  change (if c x y=0 then d x y else c x y)<=0 at a
  change (if c y z=0 then d y z else c y z)<=0 at b
  show(if c x z=0 then d x z else c x z)<=0;have g:c x y<=0:=by split at a<;>omega
  have i:c y z<=0:=by split at b<;>omega
  have j:=h.trans x y z g i;by_cases hq:c x z=0
  ·rw[if_pos hq];have o:=h.trans y z x i (by omega);have p:=h.trans z x y (by omega) g;have l:c x y=0:=by omega
   have m:c y z=0:=by omega
   rw[if_pos l]at a;rw[if_pos m]at b;exact k.trans x y z a b
  ·rw[if_neg hq];exact j
def aH2:Cm K6:=by
 refine⟨λx=>?_,λx y=>?_,λx y z=>?_⟩<;>unfold K6
 ·simp
 ·split<;>split<;>(try split)<;>omega
 ·intro a b;split at a<;>(try split at a)<;>split at b<;>(try split at b)<;>split<;>(try split)<;>omega
def ab4(a b:A6):Int:=if ltS a b then -1 else if ltS b a then 1 else 0
def ce6:Cm ab4:=by
 refine⟨λx=>?_,λx y=>?_,λx y z=>?_⟩<;>unfold ab4
 ·simp[L5]
 ·cases a:ltS x y<;>cases b:ltS y x<;>simp;have:=aq1 a b;rw[L5]at this;cases this
 ·intro a b;cases h3:ltS z x
  ·cases ltS x z<;>simp
  ·exfalso
   cases h4:ltS y x
   ·cases h5:ltS z y
    ·have c:=bc8 (W3.1 h4) (W3.1 h5);exact absurd h3 (by rw[W3.2 c];simp)
    ·cases h6:ltS y z
     ·rw[h6,h5]at b;simp at b
     ·have:=aq1 h5 h6;rw[L5]at this;cases this
   ·cases h6:ltS x y
    ·rw[h6,h4]at a;simp at a
    ·have:=aq1 h4 h6;rw[L5]at this;cases this
def aa0{a b:Int}(h:K6 a b=0):a=b:=by
 unfold K6 at h;split at h
 ·omega
 ·split at h<;>omega
def ax9{a b:A6}(h:ab4 a b=0):a=b:=by
 unfold ab4 at h;cases h1:ltS a b
 ·cases h2:ltS b a
  ·exact bM2 h1 h2
  ·rw[h1,h2]at h;simp at h
 ·rw[h1]at h;simp at h
def Gr(w b:World):Prop:=∃q a,b=grow (w.drewN q) a
def Gr.refl(w:World):Gr w w:=⟨0,#[],by rw[grow_empty];rfl⟩
def Gr.alloc(w:World)(o:Obj):Gr w (w.alloc o):=⟨0,#[o],by rw[alloc_eq_grow];rfl⟩
def Gr.drew(w:World):Gr w w.drew:=⟨1,#[],by rw[grow_empty];rfl⟩
def Gr.trans{a b c:World}(h:Gr a b)(k:Gr b c):Gr a c:=by
 obtain⟨q,d,rfl⟩:=h;obtain⟨p,f,rfl⟩:=k;refine⟨q+p,d++f,?_⟩;have e:(grow (a.drewN q) d).drewN p=grow (a.drewN (q+p)) d:=by
  show grow ((a.drewN q).drewN p) d=_
  congr 1
  simp[World.drewN,dW3]
 rw[e,grow_grow]
def Gr.ext{a b:World}(h:Gr a b):o7 a b:=by
 obtain⟨q,d,rfl⟩:=h;have e:o7 a (a.drewN q):=⟨rfl,rfl,rfl,dO0 _,λ_ _ _=>rfl⟩;refine e.trans ⟨rfl,rfl,rfl,?_,λc f _=>?_⟩
 ·show _<=((a.drewN q).heap++d).size;rw[Array.size_append];omega
 ·show((a.drewN q).heap++d)[c]?=_;rw[Array.getElem?_append_left f]
section
variable {α:Type} [A4 α] [A0 α] [Inhabited α] {P:Program} {ρ:Ren} {h:Hp} {w:World} {T:TypeId} {v:Value} {xs:List α}
def db0{b:Nat}{a:Array Value}(e:w.heap[b]?=some (.cells a T (0,0)))(h:a.toList.take (xs.length*A4.sz α)=xs.flatMap A0.cells):HoldsK A0.cells (A4.sz α) w b 0 xs.toArray:=λj c=>by
 have g:=bq9 A0.cells (A4.pos (α:=α)) ap6 xs.toArray;rw[List.toList_toArray,<-h]at g;have d:j<xs.length*A4.sz α:=by simpa using c
 rw[dQ2,dU3 w b j a _ (0,0) e];refine⟨?_,frozen_of_row w b j a _ e⟩;have f:=dO2 (λz=>z[j]?) g;simp only[dY3,dV1,if_pos d,dV8 c]at f;rw[getElem!_pos _ j c];exact f.symm
def aM7(L:SlLaysF0.n6 P ρ)(N:∀w,(isAgg (ρ.t 24)).run P w = .ok true w)(zE:∀w,(Go.sizeOf (ρ.t 24)).run P w = .ok (A4.sz α) w)(o:α->α->Int)(A:Cm o)(g:Nat)(S:∀args w,(callFunc g args).run P w = .ok (.enter g args) w)
  (t:∀x y w,Calls P g #[.agg (A0.cells x).toArray,.agg (A0.cells y).toArray] w λe r=>e = .returned (.int .i64 (o x y))/\Gr w r)
  (ho:A8 h w T v xs) (hl:xs.length<=1000000000) (q:∀a∈xs,∀b∈xs,decide (o a b<=0)=true->decide (o b a<=0)=true->a=b) :
  Calls P (ρ.f 6) #[v,.func (.func g) #[] #[]] w λe r=>∃u,e = .returned u/\(A8 h r T v (Y0 (λa b=>decide (o a b<=0)) xs)/\o9 (A3 v) w r):=by
 rcases cQ1 ho with⟨rfl,rfl⟩|⟨b,c,O,rfl,B,s,C,U,J,V⟩
 ·refine(AnyF.slices_SortFunc_none L none 0 _ w).mono ?_;rintro e r ⟨rfl,rfl⟩;exact⟨_,rfl,A8.nil _ _ _,o9.refl _⟩
 ·have D:b<w.heap.size:=(dN0.1 s).1;have:=AnyQ.slices_SortFunc L (A4.sz α) N zE A0.cells ap6 W1 o A.swo g #[] b 0 c xs.toArray w S (λm M dk _ x y=>t x y _) (db0 s V) D (by simp;omega);rw[dW4]at this;refine this.mono ?_;rintro e r ⟨rfl,f,n,M,hp,hs,rfl⟩;obtain⟨I,_,d⟩:=hp;have p:f.size=xs.length:=by simpa using I
  have X:f.toList=Y0 (λa b=>decide (o a b<=0)) xs:=by
   have Q:f.extract 0 xs.length=f:=by rw[<-p];exact Array.extract_size
   rw[Q]at d;have R:(xs.toArray.extract 0 xs.length).toList=xs:=by
    have:=@Array.extract_size _ xs.toArray;rw[dW4]at this;rw[this]
   rw[R]at d;refine aD7 (le:=λa b=>decide (o a b<=0)) (d.trans (F5 _ _).symm) ?_ ?_ ?_
   ·intro a W b D;exact q a (d.mem_iff.1 W) b (d.mem_iff.1 D)
   ·rw[dT5];intro i j Y Z G;have F:i<f.size:=by simpa using Y
    have H:j<f.size:=by simpa using Z
    have:=hs i j (dN6 _) G (by omega);rw[getElem!_pos f j H,getElem!_pos f i F]at this;simp only[ltOf,dY8]at this;have a1:=A.anti f[i] f[j];simp only[Array.getElem_toList,dQ3];omega
   ·exact ah8 (λa _ b _=>A.total a b) (λa _ b _ c _ B s=>dV2 (A.trans a b c (dM8 B) (dM8 s)))
  have E:=bq9 A0.cells (A4.pos (α:=α)) ap6 f;have z:(flatK A0.cells (A4.sz α) f).size=xs.length*A4.sz α:=by rw[size_flatK,p]
  obtain⟨K,k2⟩:=aX5 s id (flatK A0.cells (A4.sz α) f) (by rw[z,J];exact dV6 _ C) n M;refine⟨_,rfl,?_,k2.weaken λ_ _ e=>by subst e;rfl⟩;have k:(Y0 (λa b=>decide (o a b<=0)) xs).length=xs.length:=(F5 _ _).length_eq;rw[List.map_id,E,X]at K;have:=bu8 (l:=Y0 (λa b=>decide (o a b<=0)) xs) B K (by rw[k];exact C) U ?_ ?_
  ·rw[k]at this;exact this
  ·have aa:=dV6 (A4.sz α) C;simp only[dW4,dM7,af1,k,dU8,dZ7,z,J];omega
  ·simp only[];rw[<-af1,dW1]
end
end
def L4:=zJ (zJ (zJ (zJ (zJ (zJ @bn7 @dC4) (zJ @dB7 @ds5)) (zJ (zJ @dC0 @dF9) (zJ @dB8 (zJ @dB9 @dG0)))) (zJ (zJ (zJ @dF6 @dz6) (zJ @dF7 (zJ @dF8 @dt6))) (zJ (zJ @dq9 @dt7) (zJ @dt8 (zJ @dE3 @dE2))))) (zJ (zJ (zJ (zJ @dG3 @dK3) (zJ @dK8 (zJ @ds3 @dF2))) (zJ (zJ @ds4 @dF3) (zJ @dI5 (zJ @dK7 @dd0)))) (zJ (zJ (zJ @dx8 @dd1) (zJ @dx9 (zJ @dy0 @dn8))) (zJ (zJ @di4 @di3) (zJ @dx7 (zJ @dI7 @dI6)))))) (zJ (zJ (zJ (zJ (zJ @dn7 @dI9) (zJ @dI8 (zJ @dF0 @cW7))) (zJ (zJ @dw9 @dI0) (zJ @dc8 (zJ @dr9 @dn3)))) (zJ (zJ (zJ @dH5 @dI1) (zJ @dr8 (zJ @dE9 @dx1))) (zJ (zJ @dE8 @ev.eq_1) (zJ @ev.eq_2 (zJ @ev.eq_3 @ev.eq_4))))) (zJ (zJ (zJ (zJ @C4.eq_1 @C4.eq_2) (zJ @dK1 (zJ @dI3 @dF4))) (zJ (zJ @dF5 @List.map_cons.{0,0}) (zJ @List.map_nil.{0,0} (zJ @List.map_toArray.{0,0} @bQ9.eq_1)))) (zJ (zJ (zJ @bQ9.eq_2 @dr5) (zJ @cL6.eq_1 (zJ @List.getElem?_toArray.{0} @List.getElem?_cons_zero.{0}))) (zJ (zJ @List.getElem?_cons_succ.{0} @Option.bind_some.{0,0}) (zJ @Option.some.injEq.{0} (zJ @dS7 @Bool.true_eq_false))))))
def O5:=zJ (zJ (zJ (zJ @Option.map_some.{0,0} (zJ @Option.map_none.{0,0} @Int.toNat_zero)) (zJ (zJ @Option.isNone_none.{0} @Option.isNone_some.{0}) (zJ @L7 @bL3.eq_1))) (zJ (zJ @bL3.eq_2 (zJ @cZ3.eq_1 @bg9.eq_1)) (zJ (zJ @bg9.eq_2 @cO4.eq_1) (zJ @cO2.eq_1 @TY)))) (zJ (zJ (zJ @Option.isSome_some.{0} (zJ @dT7 @Bool.and_true)) (zJ (zJ @dT8 @dP0) (zJ @dH2 @Int.cast_ofNat_Int))) (zJ (zJ @decide_true (zJ @add_lit @dQ2)) (zJ (zJ @Nat.zero_mul @Nat.one_mul) (zJ @Bool.not_true @Bool.not_false))))
def ci2(n m:Int):Int:=if m<1 then 0 else if n.tmod m<0 then n.tmod m+m else n.tmod m
def dc3(n m:Int)(w:World)(e:m<=1000000000):p7 prog 46 #[.int .i64 n,.int .i64 m] w λv g=>(v = .int .i64 (ci2 n m)/\g=w):=by
 refine p9 [.int .i64 n,.int .i64 m] func46 rfl ?_;simp only[L4,O5,B4,E5,simprocAttr];refine n7 (λh=>?_) (λh=>?_)
 ·simp only[L4,simprocAttr];refine o8 results46 ?_;simp only[p8,simprocAttr];have b:m<1:=by simpa using h
  exact⟨by rw[ci2,if_pos b],by trivial⟩
 ·have b:¬m<1:=by simpa using h
  have d:¬m=0:=by omega
  simp only[L4,B4,E5,simprocAttr,d];refine n7 (λc=>?_) (λc=>?_)
  ·have a:n.tmod m<0:=by simpa using c
   have i : -m<n.tmod m:=by have:=Int.lt_tmod_of_pos n (show 0<m by omega);omega
   have f:IntKind.i64.wrap (n.tmod m+m)=n.tmod m+m:=M3 _ (by omega);simp only[L4,B4,E5,simprocAttr,f];refine o8 results46 ?_;simp only[p8,simprocAttr];exact⟨by rw[ci2,if_neg b,if_pos a],by trivial⟩
  ·have a:¬n.tmod m<0:=by simpa using c
   simp only[L4,simprocAttr];refine o8 results46 ?_;simp only[p8,simprocAttr];exact⟨by rw[ci2,if_neg b,if_neg a],by trivial⟩
def de7{α:Type}{a b:List α}{k:Nat}(d:k<a.length)(hb:a.length=b.length)(h:a.take k=b.take k)(e:a[k]?=b[k]?):a.take (k+1)=b.take (k+1):=by
 have c:k<b.length:=by omega
 rw[dN3 d,dN3 c,h];rw[dM4 d,dM4 c]at e;rw[dO3 e]
def cf3(v u:Value)(a b:List Int)(w:World)(hv:R (i4 w) v a)(x:R (i4 w) u b)(G:a.length<=1000000000000):
  p7 prog 12 #[v,u] w λr t=>(r = .bool (decide (a=b))/\o7 w t):=by
 refine p9 [v,u] func12 rfl ?_;have B:=hv.isS;have D:=hv.vlen;have p:=x.isS;have q:=x.vlen;simp only[L4,O5,B4,E5,unV,al5,y0,M9,F8,N7,I4.val,simprocAttr,B,D,p,q];refine n7 (λi=>?_) (λi=>?_)
 ·simp only[L4,O5,B4,E5,unV,al5,y0,M9,F8,N7,I4.val,simprocAttr];refine o8 results12 ?_;simp only[p8,simprocAttr];have n:¬a.length=b.length:=by simp at i;omega
  exact⟨by rw[dW8 (λe=>n (by rw[e]))],o9.refl _⟩
 ·have B5:a.length=b.length:=by simp at i;omega
  simp only[L4,O5,B4,E5,unV,al5,y0,M9,F8,N7,I4.val,simprocAttr,B,D,p,q];refine n9 [0,1,12] (σ:=Nat) (λk f t=>f 13 = .int .i64 k/\k<=a.length/\a.take k=b.take k/\o7 w t) (λk=>a.length-k) 0 ?_ ?_
  ·simp only[p8,simprocAttr];exact⟨by first|rfl|trivial,dN6 _,by simp,o9.refl _⟩
  ·rintro k f t C ⟨c,F,l,s⟩;simp only[dM6,p8,simprocAttr]at C;obtain⟨e0,y,o,_⟩:=C;simp only[L4,O5,B4,E5,unV,al5,y0,M9,F8,N7,I4.val,simprocAttr,c,o];refine n7 (λi=>?_) (λi=>?_)
   ·have h:k<a.length:=by simpa using i
    have g:k<b.length:=by omega
    have m:=hv.inS h;have d:=x.inS g;simp only[L4,O5,B4,E5,unV,al5,y0,M9,F8,N7,I4.val,simprocAttr,c,o];refine C0 (λA=>A=t.drew) 9 (A5 [0,1,2,3,4,5,6,7,8]) ?_;simp only[D6,A5,L4,O5,B4,E5,unV,al5,y0,M9,F8,N7,I4.val,simprocAttr,c,e0,y,m,d];refine⟨.int .i64 a[k],λA e=>by subst e;exact M4 hv (b7 (s.trans (o7.drew _))) (dM4 h) G3,?_⟩;simp only[D6,A5,L4,O5,B4,E5,unV,al5,y0,M9,F8,N7,I4.val,simprocAttr,c,e0,y,m,d];refine⟨.int .i64 b[k],λA e=>by subst e;exact M4 x (b7 (s.trans (o7.drew _))) (dM4 g) G3,?_⟩;simp only[D6,A5,L4,O5,B4,E5,unV,al5,y0,M9,F8,N7,I4.val,simprocAttr,c,e0,y,m,d];refine n7 (λj=>?_) (λj=>?_)
    ·simp only[L4,O5,B4,E5,unV,al5,y0,M9,F8,N7,I4.val,simprocAttr];refine o8 results12 ?_;simp only[p8,simprocAttr];have n:¬a[k]=b[k]:=by simpa using j
     exact⟨by rw[dW8 (λe=>n (by subst e;rfl))],s.trans (o7.drew _)⟩
    ·simp only[L4,O5,B4,E5,unV,al5,y0,M9,F8,N7,I4.val,simprocAttr,c];have E:a[k]=b[k]:=by simpa using j
     exact⟨k+1,by omega,dO2 _ (B0 k (by omega)),by omega,de7 h B5 l (by rw[dM4 h,dM4 g,E]),s.trans (o7.drew _)⟩
   ·have z:k=a.length:=by simp at i;omega
    subst z;simp only[L4,O5,B4,E5,unV,al5,y0,M9,F8,N7,I4.val,simprocAttr];refine o8 results12 ?_;simp only[p8,simprocAttr];rw[dN8,B5,dN8]at l;exact⟨by rw[l];simp,s⟩
def dP3:=@List.length_filter_le
def U2:F4 prog 24 3 1 8=true:=by kernel_rfl
def bw9:F4 prog 95 4 1 1=true:=by kernel_rfl
def dz0:F4 prog 203 205 2 16=true:=by kernel_rfl
def ck2:F4 prog 242 24 1 24=true:=by kernel_rfl
theorem br2{α β:Type}(g:β->α->β)(b:β)(l:List α)(k:Nat)(a:k<l.length):(l.take (k+1)).foldl g b=g ((l.take k).foldl g b) l[k]:=by
 rw[dN3 a,List.foldl_append];rfl
def ad3(l:List Bool)(k:Nat):List Int:=((List.range k).filter λi=>l[i]?.getD false).map λ(i:Nat)=>(i:Int)
def aW1(l:List Bool)(k:Nat):ad3 l (k+1)=if l[k]?.getD false then ad3 l k++[(k:Int)]else ad3 l k:=by
 unfold ad3;rw[dW7,dS4,dP6];by_cases h:l[k]?.getD false=true<;>simp[h]
def bW2(l:List Bool)(k:Nat):(ad3 l k).length<=k:=by
 unfold ad3;rw[dN4];exact dN1 (dP3 _ _) (by simp)
def ch8(v:Value)(l:List Bool)(w:World)(hv:R (i4 w) v l)(G:l.length<=1000000):p7 prog 202 #[v] w λu c=>(A8 (i4 w) c 3 u (ad3 l l.length)/\o7 w c):=by
 refine p9 [v] func202 rfl ?_;have C:=hv.isS;have E:=hv.vlen;simp only[L4,O5,B4,E5,unV,al5,y0,M9,F8,N7,I4.val,simprocAttr,C,E];refine n9 [6,7] (σ:=Nat) (λk f c=>f 8 = .int .i64 k/\k<=l.length/\A8 (i4 w) c 3 (f 3) (ad3 l k)/\o7 w c) (λk=>l.length-k) 0 ?_ ?_
 ·simp only[p8,simprocAttr];exact⟨by first|rfl|trivial,dN6 _,A8.nil _ _ _,o9.refl _⟩
 ·rintro k f c s ⟨i,D,j,d⟩;simp only[dM6,p8,simprocAttr]at s;obtain⟨g,h,_⟩:=s;simp only[L4,O5,B4,E5,unV,al5,y0,M9,F8,N7,I4.val,simprocAttr,i,g,h];refine n7 (λm=>?_) (λm=>?_)
  ·have a:k<l.length:=by simpa using m
   have o:=hv.inS a;have p:=M4 (P:=prog) (t:=4) hv (b7 d) (dM4 a) am6;simp only[L4,O5,B4,E5,unV,al5,y0,M9,F8,N7,I4.val,simprocAttr,i,g,h,o,p];refine n7 (λb=>?_) (λb=>?_)
   ·have z:=bW2 l k;obtain⟨q,H,I,r,A,B,F⟩:=push (e:=24) U2 rfl j (x:=.int .i64 k) (y:=(k:Int)) rfl (by omega) (by omega) (b7 d);simp only[Value.cells]at q r;simp only[L4,O5,B4,E5,unV,al5,y0,M9,F8,N7,I4.val,simprocAttr,i,g,h,q,r,Value.cells];refine⟨k+1,by omega,dO2 _ (B0 k (by omega)),by omega,?_,j.ext2 d B⟩;rw[aW1,if_pos (by simp[a,b])];exact A
   ·simp only[L4,O5,B4,E5,unV,al5,y0,M9,F8,N7,I4.val,simprocAttr,i,g,h];refine⟨k+1,by omega,dO2 _ (B0 k (by omega)),by omega,?_,d⟩;rw[aW1,if_neg (by simp[a,b])];exact j
  ·have n:k=l.length:=by simp at m;omega
   subst n;simp only[L4,O5,B4,E5,unV,al5,y0,M9,F8,N7,I4.val,simprocAttr];exact o8 results202 ⟨j,d⟩
def di7(w:World)(a b:Int):
  (Instr.alloc 205 true (.tuple #[])).run prog w = .ok (.pointer (some ⟨w.heap.size,0,none⟩)) (w.alloc (.cells #[.int .i64 0,.int .i64 0] 205)) /\
  (Instr.storeAt 205 (.pointer (some ⟨w.heap.size,0,none⟩)) (.agg #[.int .i64 a,.int .i64 b])).run prog (w.alloc (.cells #[.int .i64 0,.int .i64 0] 205)) =
   .ok () (w.alloc (.cells #[.int .i64 a,.int .i64 b] 205)):=
 aJ0 (P:=prog) (T:=205) cU3 (by rw[by1];rfl) (cs:=#[.int .i64 a,.int .i64 b]) (by rw[by1];rfl) (by simp[Value.oneCell'])
def di5(w:World)(a b:Int):(Instr.loadAt 3 (.pointer (some ⟨w.heap.size,0,none⟩))).run prog (w.alloc (.cells #[.int .i64 a,.int .i64 b] 205)) = .ok (.int .i64 a) (w.alloc (.cells #[.int .i64 a,.int .i64 b] 205)):=
 cN8 (by rfl) G3
def di6(w:World)(a b:Int):(Instr.loadAt 3 (.pointer (some ⟨w.heap.size,1,none⟩))).run prog (w.alloc (.cells #[.int .i64 a,.int .i64 b] 205)) = .ok (.int .i64 b) (w.alloc (.cells #[.int .i64 a,.int .i64 b] 205)):=
 cN8 (by rfl) G3
def ldP{h:Hp}{w:World}{v:Value}{xs:List (Int×Int)}(b:R h v xs)(hw:B5 h (i4 w)){k:Nat}{x:Int×Int}(a:xs[k]?=some x):
  (Instr.loadAt 205 (.pointer (some (G4 v (k*2))))).run prog w = .ok (.agg #[.int .i64 x.1,.int .i64 x.2]) w:=
 bM1 b hw a cS6 cT8 cl9 by1
def bf8(n:Nat)(e:Int×Int):Prop:=0<=e.1/\e.1<n/\0<=e.2/\e.2<n
end Go.Proofs.YtfadjbljajfkfaaGreat
namespace Go.Proofs
open Go.Shelf
def Tryz.layI_ren:Go.Shelf.Ren:=⟨fun|21=>278|27=>301|28=>302|35=>310|39=>312|n=>n,fun|22=>24|3=>3|4=>4|0=>0|n=>n,fun|n=>n⟩
def Tryz.layI:Go.Proofs.Lays2.n21 Tryz.prog Tryz.layI_ren:={
 mixed:=by kernel_rfl
 f21:=Tryz.func278.trans (congrArg some (by kernel_rfl))
 f27:=Tryz.func301.trans (congrArg some (by kernel_rfl))
 f28:=Tryz.func302.trans (congrArg some (by kernel_rfl))
 f35:=Tryz.func310.trans (congrArg some (by kernel_rfl))
 f39:=Tryz.func312.trans (congrArg some (by kernel_rfl))
 t0:=Tryz.underlying0
 a0:=Tryz.isAgg0
 z0:=Tryz.sizeOf0
 v0:=Tryz.zeroValue0
 t3:=Tryz.underlying3
 a3:=Tryz.isAgg3
 z3:=Tryz.sizeOf3
 v3:=Tryz.zeroValue3
 t4:=Tryz.underlying4
 a4:=Tryz.isAgg4
 z4:=Tryz.sizeOf4
 v4:=Tryz.zeroValue4
 t22:=Tryz.underlying24
 a22:=Tryz.isAgg24
 z22:=Tryz.sizeOf24
 v22:=Tryz.zeroValue24
 i3:=by kernel_rfl}
def Tryz.layB_ren:Go.Shelf.Ren:=⟨fun|25=>277|31=>98|32=>300|37=>156|n=>n,fun|22=>24|3=>3|4=>4|40=>129|0=>0|n=>n,fun|n=>n⟩
def Tryz.layB:Go.Proofs.Lays2.n25 Tryz.prog Tryz.layB_ren:={
 mixed:=by kernel_rfl
 f25:=Tryz.func277.trans (congrArg some (by kernel_rfl))
 f31:=Tryz.func98.trans (congrArg some (by kernel_rfl))
 f32:=Tryz.func300.trans (congrArg some (by kernel_rfl))
 f37:=Tryz.func156.trans (congrArg some (by kernel_rfl))
 t0:=Tryz.underlying0
 a0:=Tryz.isAgg0
 z0:=Tryz.sizeOf0
 v0:=Tryz.zeroValue0
 t3:=Tryz.underlying3
 a3:=Tryz.isAgg3
 z3:=Tryz.sizeOf3
 v3:=Tryz.zeroValue3
 t4:=Tryz.underlying4
 a4:=Tryz.isAgg4
 z4:=Tryz.sizeOf4
 v4:=Tryz.zeroValue4
 t22:=Tryz.underlying24
 a22:=Tryz.isAgg24
 z22:=Tryz.sizeOf24
 v22:=Tryz.zeroValue24
 t40:=Tryz.underlying129
 a40:=Tryz.isAgg129
 z40:=Tryz.sizeOf129
 v40:=Tryz.zeroValue129}
end Go.Proofs
namespace Go.Proofs.YtfadjbljajfkfaaGreat
open Go Tryz
def dP7:=@List.length_singleton
def N6(l:List Int):List Value:=l.map (Value.int .i64)
def G5{h:Hp}:∀{l:List Int} {a:List Value},O3 h a l↔a=N6 l
 | [],a=>dU5
 | x::l,a=>by
  constructor
  ·rintro⟨c,f,rfl,d,e⟩;have b:c=[.int .i64 x]:=d;rw[b,G5.1 e];rfl
  ·rintro rfl;exact⟨[.int .i64 x],N6 l,rfl,rfl,G5.2 rfl⟩
theorem bV6(l:List Int):∀v∈N6 l,v.oneCell'=true:=by
 intro v a;obtain⟨x,_,rfl⟩:=dO7.1 a;rfl
def cN0{l:List Int}{j:Nat}(a:j<l.length):(N6 l)[j]?=some (.int .i64 (l.getD j 0)):=by
 simp[N6,dP9,dM4 a,List.getD]
def W6{b:Nat}{T:TypeId}:∀(d:List Value) (c:Nat) (w:World) (a:Array Value),w.heap[b]?=some (.cells a T (0,0))->c+d.length<=a.size ->
  (w.setCells b c d).heap[b]?=some (.cells (a.toList.take c++d++a.toList.drop (c+d.length)).toArray T (0,0))
 | [],c,w,a,hb,_=>by simp[World.setCells,hb]
 | v::d,c,w,a,hb,hl=>by
  simp only[dP4]at hl;have g:=heap_setCell_same w b c a T v hb;rw[World.setCells,W6 d (c+1) _ _ g (by simp;omega)];have e:a.toList.length=a.size:=by simp
  simp only[Array.toList_setIfInBounds,dP4]
  congr 3
  rw[List.take_set,dN3 (by omega),List.set_append_right (h:=by simp;omega)];have f:c-(a.toList.take c).length=0:=by simp;omega
  rw[f,List.drop_set_of_lt (by omega)];simp[dP5,dW3,Nat.add_comm 1]
def aa6{b:Nat}{M:Nat->Prop}(d:M b):∀(c:List Value) (a:Nat) (w:World),o9 M w (w.setCells b a c)
 | [],_,w=>o9.refl w
 | v::c,a,w=>(o9.setCell w ⟨b,a,none⟩ v d).trans (aa6 d c (a+1) _)
def o9.drew{M:Nat->Prop}(w:World):o9 M w w.drew:=(o7.drew w).weaken λ_ _ h=>h.elim
def o9.alloc{M:Nat->Prop}(w:World)(o:Obj):o9 M w (w.alloc o):=(o7.alloc w o).weaken λ_ _ h=>h.elim
def o9.drewN{M:Nat->Prop}(w:World)(q:Nat):o9 M w (w.drewN q):=⟨rfl,rfl,rfl,dO0 _,λ_ _ _=>rfl⟩
section
variable {h:Hp} {w:World} {v:Value} {l:List Int}
def bY2(o:A8 h w 3 v l):(v = .slice none 0 0/\l=[])\/∃b c a,v = .slice (some ⟨b,0,none⟩) l.length c/\h b=none/\w.heap[b]?=some (.cells a 3 (0,0))/\l.length<=c/\c<=maxLen/\a.size=c/\a.toList.take l.length=N6 l:=by
 rcases o with n|⟨b,c,a,e,d,f,g,i,j,k⟩
 ·exact .inl n
 ·refine .inr ⟨b,c,a,e,d,f,g,i,by simpa[A4.sz]using j,?_⟩;have:=G5.1 k;have m:l.length*A4.sz Int=l.length:=dT8 _;rw[m]at this;exact this
theorem bj2{b c:Nat}{a:Array Value}(d:h b=none)(e:w.heap[b]?=some (.cells a 3 (0,0)))(f:l.length<=c)(g:c<=maxLen)(i:a.size=c)(j:a.toList.take l.length=N6 l):
  A8 h w 3 (.slice (some ⟨b,0,none⟩) l.length c) l:=by
 refine .inr ⟨b,c,a,rfl,d,e,f,g,by rw[i];exact(dT8 c).symm,?_⟩;have k:l.length*A4.sz Int=l.length:=dT8 _;rw[k,j];exact G5.2 rfl
def dm8:(Tryz.layI_ren.f 21)=278:=by kernel_rfl
def dm7:(Tryz.layB_ren.f 25)=277:=by kernel_rfl
def bt4:(Tryz.layI_ren.t 3)=3:=by kernel_rfl
def bw3(x:Int)(k:A8 h w 3 v l)(s:l.length<=1000000000)(m:l.Pairwise (· <= ·)):
  p7 prog 277 #[v,.int .i64 x] w λu d=>(u = .tuple #[.int .i64 (l.countP (· < x):Nat),.bool (l.contains x)]/\o7 w d):=by
 rw[<-dm7];rcases bY2 k with⟨rfl,rfl⟩|⟨b,c,a,rfl,n,g,o,p,r,i⟩
 ·refine(Any.slices_BinarySearch_int_empty Tryz.layB none 0 x w).mono ?_;rintro e d ⟨rfl,rfl⟩;exact⟨_,rfl,rfl,o9.refl _⟩
 ·refine(Any.slices_BinarySearch_int Tryz.layB b 0 l.length c l x w (dO0 _) (by omega) ?_ (by rw[dN8];exact m)).mono ?_
  ·intro j f;rw[dQ2,dU3 w b j a _ (0,0) g];have:=cN0 f;rw[<-i,dV1,if_pos f]at this;simpa using this
  ·rintro e d ⟨rfl,q,rfl⟩;rw[dN8];exact⟨_,rfl,rfl,o9.drewN _ _⟩
def bs8(x:Int)(i J:Nat)(w0:World)(F:w=w0.alloc (.cells #[.int .i64 x] 3))(ho:A8 h w0 3 v l)(hi:i<=l.length)(hl:l.length<=1000000000)(hw:B5 h (i4 w0)):
  p7 prog 278 #[v,.int .i64 i,.slice (some ⟨w0.heap.size,0,none⟩) 1 J] w λu o=>(A8 h o 3 u (l.take i++x::l.drop i)/\o9 (A3 v) w0 o/\F0 w0 v u):=by
 rw[<-dm8];have Z:o9 (A3 v) w0 w:=by rw[F];exact o9.alloc _ _
 have E:w.heap[w0.heap.size]?=some (.cells #[.int .i64 x] 3 (0,0)):=by rw[F];exact dQ5 w0 _
 have aB:w.heap.size=w0.heap.size+1:=by rw[F];simp
 have D:∀(j:Nat) (u:Value),[Value.int .i64 x][j]?=some u->w.cell? ⟨w0.heap.size,0+j,none⟩=some u:=by
  intro j u t;rw[dQ2,dU3 w _ j _ _ (0,0) E];simpa using t
 have z:∀v∈[Value.int .i64 x],v.oneCell'=true:=by simp[Value.oneCell']
 have hE:o7 w0 w:=by rw[F];exact o7.alloc _ _
 have al:A8 h w 3 v l:=ho.ext hE;have an:B5 h (i4 w):=t8 hw (b7 hE);have s:∀(o:World) (d:Array Value) (n c:Nat),o7 w o->o.heap[w.heap.size]?=some (.cells d 3 (0,0))->n=l.length+1->n<=c->c<=maxLen->d.size=c ->
   d.toList.take n=N6 (l.take i++x::l.drop i) ->
   A8 h o 3 (.slice (some ⟨w.heap.size,0,none⟩) n c) (l.take i++x::l.drop i)/\o9 (A3 v) w0 o/\F0 w0 v (.slice (some ⟨w.heap.size,0,none⟩) n c):=by
  intro o d n c he X hn hc ah hs B;have q:(l.take i++x::l.drop i).length=n:=by simp;omega
  refine⟨?_,Z.trans (he.weaken λ_ _ h=>h.elim),λb hb=>by simp[A3,Value.ownBlock]at hb;exact .inr (by omega)⟩;have:=bj2 (h:=h) (w:=o) (l:=l.take i++x::l.drop i) (aB8 an (dO0 _)) X (by omega) ah hs (by rw[q];exact B);rw[q]at this;exact this
 rcases bY2 al with⟨rfl,rfl⟩|⟨b,c,g,rfl,h1,P,h3,h4,h5,h6⟩
 ·have ak:i=0:=by simpa using hi
  subst ak;refine(Any2.slices_Insert_int_end_grow Tryz.layI none 0 0 w0.heap.size 0 1 J [] [.int .i64 x] w (by omega) (by omega) (by omega) (by omega) rfl rfl (λ_=>rfl) (λa ha=>by cases ha) D z).mono ?_;rintro e o ⟨rfl,rfl⟩;refine⟨_,rfl,s _ _ _ _ ((o7.drew w).trans (o7.alloc _ _)) (by rw[bt4];exact dQ5 w.drew _) rfl (grownCap_ge _ _ _ _) (grownCap_le_maxLen _ _ _ _ (by decide)) ?_ ?_⟩
  ·have:=grownCap_ge w 1 0 (Tryz.layI_ren.t 3);rw[bt4]at this ⊢;simp[size_zeroCells,Value.cells]at this ⊢;omega
  ·simp[N6]
 ·have f:(N6 l).length=l.length:=by simp[N6]
  have A:∀j,w.cell? ⟨b,j,none⟩=g[j]?:=λj=>dU3 w b j g _ (0,0) P;have p:∀(j:Nat) (u:Value),(N6 l)[j]?=some u->w.cell? ⟨b,0+j,none⟩=some u:=by
   intro j u t;rw[dQ2,A];rw[<-h6,dV1]at t;split at t
   ·simpa using t
   ·cases t
  have C:∀j,j<c->(w.cell? ⟨b,0+j,none⟩).isSome=true:=by
   intro j t;rw[dQ2,A];simp[h5,t]
  have V:∀j,w.frozen? ⟨b,j,none⟩=false:=λj=>by simp[World.frozen?,P]
  have B:g.toList.length=c:=by simpa using h5
  have Q:w0.heap.size≠b:=by
   intro e;have:=ho.lt (b:=b) (by simp[A3,Value.ownBlock]);omega
  have r:∀(o:World) (d:Array Value),o9 (λk=>k=b) w o->o.heap[b]?=some (.cells d 3 (0,0))->l.length+1<=c->d.size=c ->
    d.toList.take (l.length+1)=N6 (l.take i++x::l.drop i) ->
    A8 h o 3 (.slice (some ⟨b,0,none⟩) (l.length+1) c) (l.take i++x::l.drop i)/\o9 (A3 (.slice (some ⟨b,0,none⟩) l.length c)) w0 o/\F0 w0 (.slice (some ⟨b,0,none⟩) l.length c) (.slice (some ⟨b,0,none⟩) (l.length+1) c):=by
   intro o d hm X hc hs B;have q:(l.take i++x::l.drop i).length=l.length+1:=by simp;omega
   refine⟨?_,Z.trans (hm.weaken λk _ hk=>by simp[A3,Value.ownBlock,hk]),λk hk=>.inl (by simpa[A3,Value.ownBlock]using hk)⟩;have:=bj2 (h:=h) (w:=o) (l:=l.take i++x::l.drop i) (c:=c) h1 X (by omega) h4 hs (by rw[q];exact B);rw[q]at this;exact this
  have m:N6 (l.take i++x::l.drop i)=(N6 l).take i ++ .int .i64 x::(N6 l).drop i:=by simp[N6]
  by_cases hin:i=l.length
  ·subst hin;by_cases hroom:l.length+1<=c
   ·refine(Any2.slices_Insert_int_end_room Tryz.layI b 0 l.length c w0.heap.size 0 1 J [.int .i64 x] w (by omega) hroom h4 rfl (λj t=>?_) (λj t=>V _) D z).mono ?_
    ·rw[dQ2];have:=C (l.length+j) (by omega)
     rwa [dQ2]at this
    ·rintro e o ⟨rfl,rfl⟩;have X:=W6 [Value.int .i64 x] (0+l.length) w g P (by simp;omega);refine⟨_,rfl,r _ _ (aa6 (M:=λk=>k=b) rfl _ _ _) X hroom ?_ ?_⟩
     ·simp[h5];omega
     ·rw[m,dQ2,h6];have N:(N6 l).take l.length=N6 l:=by rw[<-f,dN8]
      have e2:(N6 l).drop l.length=[]:=by rw[<-f,dV9]
      rw[N,e2];have O:(N6 l++[Value.int .i64 x]).length=l.length+1:=by simp[f]
      simp only[];rw[<-O,dW1]
   ·refine(Any2.slices_Insert_int_end_grow Tryz.layI (some ⟨b,0,none⟩) l.length c w0.heap.size 0 1 J (N6 l) [.int .i64 x] w (by omega) h3 (by omega) (by omega) f rfl (λh=>by cases h) (λa ha j u t=>?_) D z).mono ?_
    ·obtain rfl:=dO3 ha;rw[Addr.add_lit];exact p j u t
    ·rintro e o ⟨rfl,rfl⟩;have L:=grownCap_ge w (l.length+1) c (Tryz.layI_ren.t 3);refine⟨_,rfl,s _ _ _ _ ((o7.drew w).trans (o7.alloc _ _)) (by rw[bt4];exact dQ5 w.drew _) rfl L (grownCap_le_maxLen _ _ _ _ (by simp only[maxLen];omega)) ?_ ?_⟩
     ·rw[bt4]at L ⊢;simp[size_zeroCells,Value.cells,f]at L ⊢;omega
     ·rw[m];have N:(N6 l).take l.length=N6 l:=by rw[<-f,dN8]
      have e2:(N6 l).drop l.length=[]:=by rw[<-f,dV9]
      rw[N,e2];simp only[Array.toList_append];rw[dT6 (by simp[f])];rw[dQ9 (by simp[f])]
  ·have Y:i<l.length:=by omega
   by_cases hroom:l.length+1<=c
   ·refine(Any2.slices_Insert_int_shift Tryz.layI b 0 l.length c i w0.heap.size 0 1 J (N6 l) [.int .i64 x] w Y (by omega) hroom h4 Q f rfl p (λj t=>C j (by omega)) (λj _=>V _) D (bV6 l) z
     3 3 1 c (by simp[World.shape?,E]) (by simp[World.shape?,P,h5]) (by omega) (by simp[World.frozen?,E]) (by simp[World.frozen?,E])).mono ?_
    rintro e o ⟨rfl,rfl⟩;have K:((N6 l).drop i).length=l.length-i:=by simp[f]
    have H:=W6 ((N6 l).drop i) (0+(i+1)) w.drew g P (by rw[K];omega);have I:=W6 [Value.int .i64 x] (0+i) _ _ H (by simp[K];omega);refine⟨_,rfl,r _ _ ((o9.drew w).trans ((aa6 (M:=λk=>k=b) rfl _ _ _).trans (aa6 (M:=λk=>k=b) rfl _ _ _))) I hroom ?_ ?_⟩
    ·simp[K];omega
    ·rw[m];simp only[dQ2,dP7];have N:(N6 l).take i=g.toList.take i:=by rw[<-h6,List.take_take];congr 1;omega
     have e3:(g.toList.take (i+1)).length=i+1:=by rw[dN9,B];omega
     have e4:(g.toList.take (i+1)++(N6 l).drop i++g.toList.drop (i+1+((N6 l).drop i).length)).take i=g.toList.take i:=by
      rw[dP5,dT6 (by omega),List.take_take];congr 1;omega
     have e5:(g.toList.take (i+1)++(N6 l).drop i++g.toList.drop (i+1+((N6 l).drop i).length)).drop (i+1)=(N6 l).drop i++g.toList.drop (i+1+((N6 l).drop i).length):=by
      rw[dP5,List.drop_append_of_le_length (by omega),List.drop_of_length_le (by omega),dX5]
     rw[e4,e5,N];have O:(g.toList.take i++[Value.int .i64 x]++(N6 l).drop i).length=l.length+1:=by simp[f];omega
     rw[<-dP5,<-O,dW1];simp
   ·refine(Any2.slices_Insert_int_grow Tryz.layI b 0 l.length c i w0.heap.size 0 1 J (N6 l) [.int .i64 x] w Y (by omega) h3 (by omega) (by omega) f rfl p D (bV6 l) z).mono ?_;rintro e o ⟨rfl,rfl⟩;have L:=grownCap_ge w (l.length+1) c (Tryz.layI_ren.t 3);have W:=grownCap_le_maxLen w (l.length+1) c (Tryz.layI_ren.t 3) (by simp only[maxLen];omega);generalize grownCap w (l.length+1) c (Tryz.layI_ren.t 3)=G at L W;have ao:(Value.int .i64 0).cells.size=1:=rfl;generalize R:((N6 l).take i).toArray++Builtin.zeroCells (Value.int .i64 0).cells (l.length+1-i)++Builtin.zeroCells (Value.int .i64 0).cells (G-(l.length+1))=y;have T:y.size=G:=by
     rw[<-R];simp[size_zeroCells,ao,f];omega
    have U:y.toList.take i=(N6 l).take i:=by
     rw[<-R];simp only[Array.toList_append,dP5];rw[dT6 (by simp[f];omega),dQ9 (by simp;omega)]
    have S:y.toList.length=G:=by simpa using T
    have aj:((w.alloc (.cells y (Tryz.layI_ren.t 3))).drew).heap[w.heap.size]?=some (.cells y 3 (0,0)):=by rw[bt4];exact dQ5 w _
    have K:((N6 l).drop i).length=l.length-i:=by simp[f]
    have H:=W6 [Value.int .i64 x] i _ _ aj (by simp;omega);have I:=W6 ((N6 l).drop i) (i+1) _ _ (show((((w.alloc (.cells y (Tryz.layI_ren.t 3))).drew).setCells w.heap.size i [Value.int .i64 x]).drew).heap[w.heap.size]?=_ from H) (by simp[K];omega);refine⟨_,rfl,s _ _ _ _ ?_ I rfl L W ?_ ?_⟩
    ·refine o9.ext_of (o7.alloc w (.cells y (Tryz.layI_ren.t 3))) (M:=λk=>k=w.heap.size) ?_ (λk hk=>by omega);exact(o9.drew _).trans ((aa6 (M:=λk=>k=w.heap.size) rfl _ _ _).trans ((o9.drew _).trans (aa6 (M:=λk=>k=w.heap.size) rfl _ _ _)))
    ·simp[K];omega
    ·rw[m];simp only[dP7];have e3:(y.toList.take i++[Value.int .i64 x]).length=i+1:=by simp[S];omega
     have e4:(y.toList.take i++[Value.int .i64 x]++y.toList.drop (i+1)).take (i+1)=y.toList.take i++[Value.int .i64 x]:=by
      rw[<-e3,dW1]
     rw[e4,U];have O:((N6 l).take i++[Value.int .i64 x]++(N6 l).drop i).length=l.length+1:=by simp[f];omega
     rw[<-O,dW1];simp
end
def dc2(v:Value)(x:Int)(l:List Int)(w:World)(hv:R (i4 w) v (x::l))(B:l.length<=1000000000):
  p7 prog 304 #[v] w λu i=>(u = .int .i64 (l.foldl min x)/\i=w):=by
 refine p9 [v] func304 rfl ?_;have j:=hv.isS;have h:=hv.vlen;simp only[dP4]at h;have z:decide (((l.length+1:Nat):Int)<1)=false:=by simp;omega
 have o:=hv.inS (k:=0) (by simp);have p:=M4 (P:=prog) (t:=3) hv (i5 _) (k:=0) (x:=x) (by rfl) G3;simp only[L4,O5,B4,E5,unV,al5,y0,M9,F8,N7,I4.val,simprocAttr,j,h,z,o,p];refine n9 [0] (σ:=Nat) (λk f i=>f 4 = .int .i64 ((k+1:Nat):Int)/\k<=l.length/\f 3 = .int .i64 ((l.take k).foldl min x)/\i=w) (λk=>l.length-k) 0 ?_ ?_
 ·simp only[p8,simprocAttr];exact⟨by first|rfl|trivial,dN6 _,by simp[I4.val],by trivial⟩
 ·rintro k f i y ⟨s,A,r,rfl⟩;simp only[dM6,p8,simprocAttr]at y;obtain⟨e0,_⟩:=y;simp only[L4,O5,B4,E5,unV,al5,y0,M9,F8,N7,I4.val,simprocAttr,s,e0,j,h];refine n7 (λm=>?_) (λm=>?_)
  ·have e:k<l.length:=by simp at m;omega
   have c:=hv.inS (k:=k+1) (by simp;omega);have d:=M4 (P:=prog) (t:=3) hv (i5 _) (k:=k+1) (x:=l[k]) (by simp[e]) G3;have q:=br2 min x l k e;simp only[L4,O5,B4,E5,unV,al5,y0,M9,F8,N7,I4.val,simprocAttr,s,r,e0,j,h,c,d];have g:∀a b:Int,(if b<a then b else a)=min a b:=λa b=>by
    simp only[Int.min_def];split<;>split<;>omega
   refine⟨k+1,by omega,by rw[B0 (k+1) (by omega)],by omega,by rw[q,g],by trivial⟩
  ·have n:k=l.length:=by simp at m;omega
   subst n;simp only[L4,O5,B4,E5,unV,al5,y0,M9,F8,N7,I4.val,simprocAttr,r];refine o8 results304 ?_;simp only[p8,simprocAttr];rw[dN8];exact⟨by trivial,by trivial⟩
def ce5(v:Value)(l:List Int)(w:World)(hv:R (i4 w) v l)(E:l.length<=1000000000):
  p7 prog 305 #[v] w λu s=>(A8 (i4 w) s 3 u l/\o7 w s):=by
 refine p9 [v] func305 rfl ?_;have D:=hv.isS;have y:B4 prog .eql 24 v (.slice none 0 0)=some (.bool (bX4 v)):=by
  obtain⟨a,n,c,b,_⟩:=hv;simp at b;subst b;simp[B4,Go.Proofs.YtfadjbljajfkfaaGreat.isS,dA5]
 obtain⟨G,I,i,f,g,z⟩:=dv7 (P:=prog) (w:=w) (h:=i4 w) (α:=Int) U2 (i5 _);obtain⟨H,J,t,p,o,B⟩:=ae4 (P:=prog) (e:=24) U2 rfl f hv (by simp;omega) (by simp;omega) (b7 g);simp only[L4,simprocAttr,y];refine n7 (λr=>?_) (λr=>?_)
 ·simp only[L4,simprocAttr];refine o8 results305 ?_;simp only[p8,simprocAttr];obtain⟨a,n,c,b,F,A,q,k,j⟩:=hv;simp at b;subst b;cases a with
  | some a=>simp[bX4]at r
  | none=>
   have d:q=[]:=by
    cases q with
    | nil=>rfl
    | cons x _=>obtain⟨C,e,_⟩:=j 0 x rfl;cases e
   subst d;have:=M2 k;have m:l=[]:=by
    cases l with
    | nil=>rfl
    | cons _ _=>simp[A4.sz]at this
   subst m;exact⟨A8.nil _ _ _,o9.refl _⟩
 ·simp only[L4,simprocAttr,i,t];refine o8 results305 ?_;simp only[p8,simprocAttr];exact⟨by simpa using p,f.ext2 g o⟩
def GR(h:Hp)(d:Value)(nx e:List (List Int)):Prop:=
 ∃a b c,d = .pointer (some ⟨a,0,none⟩)/\L3 h ⟨a,0,none⟩=some b/\L3 h ⟨a,1,none⟩=some c/\R h b nx/\R h c e
def GR.mono{h k:Hp}{b:Value}{nx c:List (List Int)}(l:GR h b nx c)(a:B5 h k):GR k b nx c:=by
 obtain⟨d,m,n,e,f,g,i,j⟩:=l;exact⟨d,m,n,e,H2 a f,H2 a g,A4.mono a i,A4.mono a j⟩
def dv0(a:Int)(w:World):p7 prog 200 #[.pointer none,.int .i64 a] w λu b=>(u = .bool false/\b=w):=by
 refine p9 [.pointer none,.int .i64 a] func200 rfl ?_;simp only[L4,O5,B4,simprocAttr];exact o8 results200 ⟨rfl,by trivial⟩
def aV1(e:Value)(nx k:List (List Int))(a:Int)(w:World)(i:GR (i4 w) e nx k):
  p7 prog 200 #[e,.int .i64 a] w λu l=>(u = .bool (H1 nx.length a)/\l=w):=by
 obtain⟨f,o,p,rfl,g,m,d,n⟩:=i;refine p9 [.pointer (some ⟨f,0,none⟩),.int .i64 a] func200 rfl ?_;have c:=H7 (P:=prog) (t:=242) g (i5 _) V3;have h:=d.isS;have j:=d.vlen;by_cases ha:0<=a
 ·have b:decide (0<=a)=true:=by simpa using ha
  simp only[L4,O5,B4,E5,N7,simprocAttr,b,c,h,j];refine o8 results200 ?_;simp only[p8,simprocAttr];exact⟨by simp[H1,b],by trivial⟩
 ·have b:decide (0<=a)=false:=by simpa using ha
  simp only[L4,O5,B4,E5,simprocAttr,b];refine o8 results200 ?_;simp only[p8,simprocAttr];exact⟨by simp[H1,b],by trivial⟩
def cX0(c:Value)(nx i:List (List Int))(w:World)(g:GR (i4 w) c nx i):
  p7 prog 284 #[c] w λu j=>(u = .int .i64 (nx.length:Nat)/\j=w):=by
 obtain⟨d,m,n,rfl,e,k,b,l⟩:=g;refine p9 [.pointer (some ⟨d,0,none⟩)] func284 rfl ?_;have a:=H7 (P:=prog) (t:=242) e (i5 _) V3;have f:=b.isS;have h:=b.vlen;simp only[L4,O5,B4,N7,simprocAttr,a,f,h];exact o8 results284 ⟨rfl,by trivial⟩
def cG3(s:Value)(nx o:List (List Int))(a:Int)(w:World)(p:GR (i4 w) s nx o)(q:o.length=nx.length)(A:∀x∈nx,x.length<=1000000000):
  p7 prog 285 #[s,.int .i64 a] w λu g=>(A8 (i4 w) g 3 u (C9 nx a)/\o7 w g):=by
 have i:=p;obtain⟨v,H,I,rfl,z,D,f,E⟩:=p;refine p9 [.pointer (some ⟨v,0,none⟩),.int .i64 a] func285 rfl ?_;have k:=H7 (P:=prog) (t:=242) z (i5 _) V3;have F:=f.isS;have G:=f.vlen;simp only[L4,O5,simprocAttr];refine y5 (aV1 _ nx o a w i) ?_;rintro u g ⟨rfl,rfl⟩;have d:nx.length=nx.length:=rfl;by_cases ha:H1 nx.length a=true
 ·have h:H1 nx.length a=true:=by rw[d];exact ha
  obtain⟨e,l⟩:=ao7 h;have j:=f.inS l;have y:decide (0<=a)=true:=by simpa using(B3.1 ha).1
  obtain⟨x,m,n⟩:=f.row e;have c:=H7 (P:=prog) (t:=24) n (i5 _) ad0;simp only[L4,O5,unV,y0,simprocAttr,ha,k,j,y,c];refine y5 (ce5 x _ g m (A _ (dO4 e))) ?_;rintro r J ⟨B,C⟩;simp only[L4,simprocAttr];exact o8 results285 ⟨B,C⟩
 ·have b:H1 nx.length a=false:=by simpa using ha
  simp only[L4,O5,unV,simprocAttr,b];refine o8 results285 ?_;simp only[p8,simprocAttr];rw[aY0 (by rw[d];exact b)];exact⟨A8.nil _ _ _,o9.refl _⟩
structure GX (h:Hp) (w:World) (gb:Nat) (cs:Array Value) (vn:Value) (us:List U1) (nx:List (List Int)) (vp:Value) (us':List U1) (pv:List (List Int)):Prop where
 free:h gb=none
 cell:w.heap[gb]?=some (.cells cs 268 (0,0))
 rn:I6 h w 24 3 vn us nx
 rp:I6 h w 24 3 vp us' pv
 gn:¬L6 vn us gb
 gp:¬L6 vp us' gb
 dis:∀b,L6 vn us b->¬L6 vp us' b
section
variable {h:Hp} {w:World} {gb:Nat} {cs:Array Value} {vn vp:Value} {us us':List U1} {nx pv:List (List Int)}
def GX.swap(a:GX h w gb cs vn us nx vp us' pv):GX h w gb cs vp us' pv vn us nx:=
 ⟨a.free,a.cell,a.rp,a.rn,a.gp,a.gn,λb c d=>a.dis b d c⟩
def GX.lt(a:GX h w gb cs vn us nx vp us' pv):gb<w.heap.size:=(dN0.1 a.cell).1
def GX.mod{M:Nat->Prop}{e:World}(a:GX h w gb cs vn us nx vp us' pv)(hm:o9 M w e)(c:∀b,(b=gb\/L6 vn us b\/L6 vp us' b)->¬M b):GX h e gb cs vn us nx vp us' pv:=
 ⟨a.free,(hm.block gb a.lt (c gb (.inl rfl))).trans a.cell,a.rn.mod hm λb d=>c b (.inr (.inl d)),a.rp.mod hm λb d=>c b (.inr (.inr d)),a.gn,a.gp,a.dis⟩
def GX.set{o j:World}(c:GX h w gb cs vn us nx vp us' pv){i:Nat}{u:U1}(p:us[i]?=some u){u':Value}{xs:List Int}
  (hm:o9 (A3 u.v) w o) (s:A8 h o 3 u' xs) (hv:F0 w u.v u') (g:o9 (A3 vn) o j) (m:A8 h j 24 vn (us.set i ⟨u'⟩)) :
  GX h j gb cs vn (us.set i ⟨u'⟩) (nx.set i xs) vp us' pv:=by
 have l:u∈us:=dO4 p;have f:∀b,L6 vn (us.set i ⟨u'⟩) b->L6 vn us b\/w.heap.size<=b:=by
  rintro b (a|⟨x,n,a⟩)
  ·exact .inl (.inl a)
  ·rcases dU4 n with e|e
   ·exact .inl (.inr ⟨x,e,a⟩)
   ·subst e;rcases hv b a with k|k
    ·exact .inl (.inr ⟨u,l,k⟩)
    ·exact .inr k
 have q:∀b,A3 u.v b->L6 vn us b:=λb a=>.inr ⟨u,l,a⟩;have r:∀b,A3 vn b->L6 vn us b:=λb a=>.inl a;refine⟨c.free,?_,c.rn.set p hm s hv g m,?_,?_,c.gp,?_⟩
 ·have e:=hm.block gb c.lt (λa=>c.gn (q _ a));have k:=g.block gb (dS9 c.lt hm.size) (λa=>c.gn (r _ a));exact k.trans (e.trans c.cell)
 ·exact(c.rp.mod hm λb a d=>c.dis b (q b d) a).mod g λb a d=>c.dis b (r b d) a
 ·intro a;rcases f gb a with e|e
  ·exact c.gn e
  ·have:=c.lt;omega
 ·intro b a d;rcases f b a with e|e
  ·exact c.dis b e d
  ·have:=c.rp.lt d;omega
theorem GX.read(a:GX h w gb #[vn,vp] vn us nx vp us' pv)(hw:B5 h (i4 w)):GR (i4 w) (.pointer (some ⟨gb,0,none⟩)) nx pv:=by
 refine⟨gb,vn,vp,rfl,?_,?_,a.rn.ro hw,a.rp.ro hw⟩
 ·rw[<-ak4,dU3 w gb 0 _ _ (0,0) a.cell];rfl
 ·rw[<-ak4,dU3 w gb 1 _ _ (0,0) a.cell];rfl
end
def aD3{P:Program}{α:Type}[A4 α]{h:Hp}{w:World}{T T' t:TypeId}{v:Value}{us:List U1}{a:List (List α)}(f:I6 h w T T' v us a){i:Nat}{u:U1}(e:us[i]?=some u)(g:I7 P t=false):
  (Instr.loadAt t (.pointer (some (G4 v i)))).run P w = .ok u.v w:=by
 obtain⟨j,⟨d,_⟩,c⟩:=f.outer.get e;have:=c 0 u.v (by rw[d];rfl);rw[L7]at this;have b:(i*A4.sz U1)=i:=dT8 i;rw[b]at this;exact S3 g this
def bG4{P:Program}{h:Hp}{w:World}{t:TypeId}{v u':Value}{us:List U1}(f:A8 h w 24 v us){i:Nat}(e:i<us.length)(d:isS u'=true){b:TypeInfo}(a:P.info? t=some b)(g:b.size=1):
  ∃c,(Instr.storeAt t (.pointer (some (G4 v i))) u').run P w = .ok () c/\A8 h c 24 v (us.set i ⟨u'⟩)/\o9 (A3 v) w c/\c.heap.size=w.heap.size:=
 E4 f rfl e (y:=(⟨u'⟩:U1)) ⟨rfl,X8 d⟩ (E3 d) a g
def GO(h:Hp)(w:World)(f:Value)(nx g:List (List Int))(M:Nat->Prop):Prop:=
 ∃c d us e a,f = .pointer (some ⟨c,0,none⟩)/\GX h w c #[d,e] d us nx e a g/\∀b,M b↔b=c\/L6 d us b\/L6 e a b
def GO.read{h:Hp}{w:World}{a:Value}{nx b:List (List Int)}{M:Nat->Prop}(c:GO h w a nx b M)(hw:B5 h (i4 w)):GR (i4 w) a nx b:=by
 obtain⟨f,g,us,i,e,rfl,d,_⟩:=c;exact d.read hw
def GO.free{h:Hp}{w:World}{f:Value}{nx g:List (List Int)}{M:Nat->Prop}(e:GO h w f nx g M):∀b,M b->h b=none:=by
 obtain⟨j,k,us,l,i,rfl,c,d⟩:=e;intro b a;rcases(d b).1 a with rfl|a|a
 ·exact c.free
 ·exact c.rn.free a
 ·exact c.rp.free a
def GO.mod{h:Hp}{w f:World}{d:Value}{nx e:List (List Int)}{M N:Nat->Prop}(j:GO h w d nx e M)(hm:o9 N w f)(hN:∀b,M b->¬N b):GO h f d nx e M:=by
 obtain⟨g,l,us,m,a,rfl,k,c⟩:=j;exact⟨g,l,us,m,a,rfl,k.mod hm λb i=>hN b ((c b).2 i),c⟩
structure bo3 (l:List (List Int)):Prop where
 le:∀x∈l,x.Pairwise (· < ·)
 len:∀x∈l,x.length<=100000000
def bo3.le'{l:List (List Int)}(h:bo3 l){x:List Int}(a:x∈l):x.Pairwise (· <= ·):=(h.le x a).imp λh=>Int.le_of_lt h
def cX8(h:Hp)(pg:Value)(nx S:List (List Int))(M:Nat->Prop)(a b:Int)(w:World)(hg:GO h w pg nx S M)(hw:B5 h (i4 w))(hl:S.length=nx.length)(ad:bo3 nx)(ae:bo3 S):
  p7 prog 252 #[pg,.int .i64 a,.int .i64 b] w λu w'=>(u = .bool (an4 nx a b)/\∃M',GO h w' pg (cd4 nx a b) (cd5 nx S a b) M'/\o9 M w w'/\∀b,M' b->M b\/w.heap.size<=b):=by
 have ap:=hg.read hw;obtain⟨p,B,us,T,A,rfl,G,L⟩:=hg;refine p9 [.pointer (some ⟨p,0,none⟩),.int .i64 a,.int .i64 b] func252 rfl ?_;simp only[L4,O5,simprocAttr];refine y5 (aV1 _ nx S a w ap) ?_;rintro u w' ⟨rfl,rfl⟩;have I:an4 nx a b=false->∀c,o7 w' c->∃M',GO h c (.pointer (some ⟨p,0,none⟩)) (cd4 nx a b) (cd5 nx S a b) M'/\o9 M w' c/\∀b,M' b->M b\/w'.heap.size<=b:=by
  intro g c he;refine⟨M,?_,he.weaken λ_ _ h=>h.elim,λb f=>.inl f⟩;unfold cd4 cd5;rw[g];exact⟨p,B,us,T,A,rfl,G.mod he λ_ _ h=>h.elim,L⟩
 by_cases ha:H1 nx.length a=true
 ·have Z:(!H1 nx.length a)=false:=by rw[ha];rfl
  simp only[L4,unV,simprocAttr,Z];refine y5 (aV1 _ nx S b w' ap) ?_;rintro u w ⟨rfl,rfl⟩;by_cases f:H1 nx.length b=true
  ·have aa:(!H1 nx.length b)=false:=by rw[f];rfl
   have c0:w.cell? ⟨p,0,none⟩=some B:=by rw[dU3 w p 0 _ _ (0,0) G.cell];rfl
   have l0:=S3 (P:=prog) (t:=242) V3 c0;have a0:=G.rn.outer.isS;obtain⟨H,a4⟩:=ao7 ha;have a3:us.length=nx.length:=G.rn.len;have Y:=G.rn.outer.inS (k:=a.toNat) (by omega);have d0:decide (0<=a)=true:=by simpa using(B3.1 ha).1
   obtain⟨J,l⟩:∃J,us[a.toNat]?=some J:=⟨us[a.toNat]'(by omega),dM4 (by omega)⟩;have au:=G.rn.row _ _ _ l H;have la:=aD3 (P:=prog) (t:=24) G.rn l ad0;have F:=dO4 H;simp only[L4,O5,unV,y0,simprocAttr,aa,l0,Y,d0,la];refine y5 (bw3 b au (dN1 (ad.len _ F) (by omega)) (ad.le' F)) ?_;rintro u o ⟨rfl,D⟩;by_cases hc:(C9 nx a).contains b=true
   ·simp only[L4,simprocAttr,hc];refine o8 results252 ?_;simp only[p8,simprocAttr];have g:an4 nx a b=false:=by simp only[an4,hc,Bool.not_true,Bool.and_false]
    exact⟨by rw[g],I g o D⟩
   ·have ao:(C9 nx a).contains b=false:=by simpa using hc
    have V:an4 nx a b=true:=by simp only[an4,ao,ha,f,Bool.not_false,Bool.and_true]
    have ay:B5 h (i4 o):=t8 hw (b7 D);have aK:=G.mod D λ_ _ h=>h.elim;simp only[L4,simprocAttr,ao];refine C0 (λc=>o9 (A3 J.v) o.drew c) 16 (A5 [0,1,2,3,4,5,6,7,8,9,10,11,12,13,14,15]) ?_;have d:=aK.mod (o7.drew o) λ_ _ h=>h.elim;have av:∀b,A3 J.v b->L6 B us b:=λb f=>.inr ⟨J,dO4 l,f⟩;have aC:∀c,o9 (A3 J.v) o.drew c->(Instr.loadAt 242 (.pointer (some ⟨p,0,none⟩))).run prog c = .ok B c:=λc s=>by
     refine S3 V3 ?_;rw[dU3 c p 0 _ _ (0,0) ((s.block p d.lt (λf=>d.gn (av _ f))).trans d.cell)];rfl
    have aN:∀c,o9 (A3 J.v) o.drew c->(Instr.loadAt 24 (.pointer (some (G4 B a.toNat)))).run prog c = .ok J.v c:=λc s=>by
     have ho:=d.rn.outer.mod s (λb f j=>d.rn.off _ _ l b j f);obtain⟨es,⟨he,_⟩,X⟩:=ho.get l;have:=X 0 J.v (by rw[he];rfl);rw[L7]at this;have r:(a.toNat*A4.sz U1)=a.toNat:=dT8 _;rw[r]at this;exact S3 ad0 this
    simp only[D6,A5,L4,O5,simprocAttr];refine⟨B,aC,?_⟩;simp only[D6,L4,O5,simprocAttr];refine⟨B,aC,?_⟩;simp only[D6,L4,O5,y0,simprocAttr,Y,d0];refine⟨J.v,aN,?_⟩;have aH:=an0 (P:=prog) (w:=o.drew) (t:=24) cS5 aw5 (by rw[aZ7];omega) (by rw[aZ7];omega) (x:=.int .i64 b) (by rw[aZ7];rfl);simp only[D6,L4,simprocAttr,aH,E8,Value.cells];refine⟨o9.alloc _ _,?_⟩;have ab:=d.rn.row _ _ _ l H;refine y5 (bs8 b _ 1 o.drew rfl ab List.countP_le_length (dN1 (ad.len _ F) (by omega)) (t8 ay (b7 (o7.drew o)))) ?_;rintro u1 w3 ⟨aq,O,aw⟩;refine⟨O,?_⟩;have aA:=d.rn.outer.mod O (λb f j=>d.rn.off _ _ l b j f);obtain⟨w4,s1,s2,s3,s4⟩:=bG4 (P:=prog) (t:=24) aA (i:=a.toNat) (by omega) aq.isS (z7 ai0).choose_spec.1 (by rw[<-D9 (z7 ai0).choose_spec.1];exact bl2);have z:=d.set l O aq aw s3 s2;have af:o9 M o.drew w4:=(O.weaken λk _ e=>(L k).2 (.inr (.inl (av k e)))).trans (s3.weaken λk _ e=>(L k).2 (.inr (.inl (.inl e))));have az:B5 h (i4 w4):=H5 (t8 ay (b7 (o7.drew o))) af λk e=>by
     rcases(L k).1 e with rfl|e|e
     ·exact G.free
     ·exact G.rn.free e
     ·exact G.rp.free e
    have e1:w4.cell? ⟨p,1,none⟩=some T:=by rw[dU3 w4 p 1 _ _ (0,0) z.cell];rfl
    have m0:=S3 (P:=prog) (t:=242) V3 e1;have a1:=z.rp.outer.isS;have j:H1 S.length b=true:=by rw[hl];exact f
    obtain⟨ag,a5⟩:=ao7 j;have aS:A.length=S.length:=z.rp.len;have E:=z.rp.outer.inS (k:=b.toNat) (by omega);have d1:decide (0<=b)=true:=by simpa using(B3.1 f).1
    obtain⟨K,m⟩:∃K,A[b.toNat]?=some K:=⟨A[b.toNat]'(by omega),dM4 (by omega)⟩;have ac:=z.rp.row _ _ _ m ag;have lb:=aD3 (P:=prog) (t:=24) z.rp m ad0;have y:=dO4 ag;simp only[D6,L4,O5,y0,simprocAttr,Y,d0,s1,m0,E,d1,lb];refine y5 (bw3 a ac (dN1 (ae.len _ y) (by omega)) (ae.le' y)) ?_;rintro u C ⟨rfl,N⟩;have aJ:B5 h (i4 C):=t8 az (b7 N);have aL:=z.mod N λ_ _ h=>h.elim;simp only[L4,simprocAttr];refine C0 (λc=>o9 (A3 K.v) C.drew c) 16 (A5 [0,1,2,3,4,5,6,7,8,9,10,11,12,13,14,15]) ?_;have n:=aL.mod (o7.drew C) λ_ _ h=>h.elim;have U:∀b,A3 K.v b->L6 T A b:=λb f=>.inr ⟨K,dO4 m,f⟩;have aD:∀c,o9 (A3 K.v) C.drew c->(Instr.loadAt 242 (.pointer (some ⟨p,1,none⟩))).run prog c = .ok T c:=λc s=>by
     refine S3 V3 ?_;rw[dU3 c p 1 _ _ (0,0) ((s.block p n.lt (λf=>n.gp (U _ f))).trans n.cell)];rfl
    have aO:∀c,o9 (A3 K.v) C.drew c->(Instr.loadAt 24 (.pointer (some (G4 T b.toNat)))).run prog c = .ok K.v c:=λc s=>by
     have ho:=n.rp.outer.mod s (λb f j=>n.rp.off _ _ m b j f);obtain⟨es,⟨he,_⟩,X⟩:=ho.get m;have:=X 0 K.v (by rw[he];rfl);rw[L7]at this;have r:(b.toNat*A4.sz U1)=b.toNat:=dT8 _;rw[r]at this;exact S3 ad0 this
    simp only[D6,A5,L4,O5,simprocAttr];refine⟨T,aD,?_⟩;simp only[D6,L4,O5,simprocAttr];refine⟨T,aD,?_⟩;simp only[D6,L4,O5,y0,simprocAttr,E,d1];refine⟨K.v,aO,?_⟩;have an:=an0 (P:=prog) (w:=C.drew) (t:=24) cS5 aw5 (by rw[aZ7];omega) (by rw[aZ7];omega) (x:=.int .i64 a) (by rw[aZ7];rfl);simp only[D6,L4,simprocAttr,an,E8,Value.cells];refine⟨o9.alloc _ _,?_⟩;have R:=n.rp.row _ _ _ m ag;refine y5 (bs8 a _ 1 C.drew rfl R List.countP_le_length (dN1 (ae.len _ y) (by omega)) (t8 aJ (b7 (o7.drew C)))) ?_;rintro u2 w7 ⟨ar,Q,ax⟩;refine⟨Q,?_⟩;have aB:=n.rp.outer.mod Q (λb f j=>n.rp.off _ _ m b j f);obtain⟨w8,t1,t2,t3,t4⟩:=bG4 (P:=prog) (t:=24) aB (i:=b.toNat) (by omega) ar.isS (z7 ai0).choose_spec.1 (by rw[<-D9 (z7 ai0).choose_spec.1];exact bl2);have aM:=(n.swap.set m Q ar ax t3 t2).swap;simp only[D6,L4,O5,y0,simprocAttr,E,d1,t1];refine o8 results252 ?_;simp only[p8,simprocAttr];refine⟨by rw[V],λk=>k=p\/L6 B (us.set a.toNat ⟨u1⟩) k\/L6 T (A.set b.toNat ⟨u2⟩) k,⟨p,B,us.set a.toNat ⟨u1⟩,T,A.set b.toNat ⟨u2⟩,rfl,?_,λ_=>dU5⟩,?_,?_⟩
    ·unfold cd4 cd5;rw[V];exact aM
    ·have k1:o9 M w o.drew:=(D.trans (o7.drew o)).weaken λ_ _ h=>h.elim;have k2:o9 M w4 C.drew:=(N.trans (o7.drew C)).weaken λ_ _ h=>h.elim;have k3:o9 M C.drew w8:=(Q.weaken λk _ e=>(L k).2 (.inr (.inr (U k e)))).trans (t3.weaken λk _ e=>(L k).2 (.inr (.inr (.inl e))));exact(k1.trans af).trans (k2.trans k3)
    ·have z1:w.heap.size<=o.drew.heap.size:=(D.trans (o7.drew o)).size;have z2:o.drew.heap.size<=C.drew.heap.size:=dN1 af.size (N.trans (o7.drew C)).size;have q:∀(us:List U1) (i:Nat) (u:Value) (v:U1) (W:World),us[i]?=some v->F0 W v.v u->w.heap.size<=W.heap.size->∀(B:Value) (k:Nat),L6 B (us.set i ⟨u⟩) k->L6 B us k\/w.heap.size<=k:=by
      intro us i u v W hi hv hW B k e;rcases e with e|⟨x,H,e⟩
      ·exact .inl (.inl e)
      ·rcases dU4 H with r|r
       ·exact .inl (.inr ⟨x,r,e⟩)
       ·subst r;rcases hv k e with h2|h2
        ·exact .inl (.inr ⟨v,dO4 hi,h2⟩)
        ·exact .inr (by omega)
     rintro k (rfl|e|e)
     ·exact .inl ((L _).2 (.inl rfl))
     ·rcases q _ _ _ _ _ l aw z1 _ _ e with r|r
      ·exact .inl ((L _).2 (.inr (.inl r)))
      ·exact .inr r
     ·rcases q _ _ _ _ _ m ax (by omega) _ _ e with r|r
      ·exact .inl ((L _).2 (.inr (.inr r)))
      ·exact .inr r
  ·have am:H1 nx.length b=false:=by simpa using f
   have aa:(!H1 nx.length b)=true:=by rw[am];rfl
   simp only[L4,unV,simprocAttr,aa];refine o8 results252 ?_;simp only[p8,simprocAttr];have g:an4 nx a b=false:=by simp only[an4,am,Bool.and_false,Bool.false_and]
   exact⟨by rw[g],I g w (o9.refl _)⟩
 ·have al:H1 nx.length a=false:=by simpa using ha
  have Z:(!H1 nx.length a)=true:=by rw[al];rfl
  simp only[L4,unV,simprocAttr,Z];refine o8 results252 ?_;simp only[p8,simprocAttr];have g:an4 nx a b=false:=by simp only[an4,al,Bool.false_and]
  exact⟨by rw[g],I g _ (o9.refl _)⟩
def E6.rising{n:Nat}{l:List (List Int)}(h:E6 n l)(hn:n<=100000000):bo3 l:=
 ⟨h.le,λx a=>dN1 (h.row_len a) hn⟩
def C8:U1:=⟨.slice none 0 0⟩
def bZ6{h:Hp}{w:World}{T T':TypeId}{v:Value}{n:Nat}(e:A8 h w T v (List.replicate n C8)):I6 h w T T' v (List.replicate n C8) (List.replicate n ([]:List Int)):=by
 have d:∀(i:Nat) (u:U1),(List.replicate n C8)[i]?=some u->u=C8:=λi u a=>dT2 (dO4 a);refine⟨e,by simp,λi u k a f=>?_,λi j u g _ a _ b c=>?_,λi u a b c=>?_⟩
 ·rw[d i u a,dT2 (dO4 f)];exact A8.nil _ _ _
 ·rw[d i u a]at c;exact absurd c D1
 ·rw[d i u a]at c;exact absurd c D1
def ac8{v:Value}{n b:Nat}:L6 v (List.replicate n C8) b->A3 v b:=by
 rintro(a|⟨u,c,a⟩)
 ·exact a
 ·rw[dT2 c]at a;exact absurd a D1
def GO.fresh{h:Hp}{w:World}{a c:Value}{n:Nat}(hw:B5 h (i4 w))(f:A8 h w 24 a (List.replicate n C8))(g:A8 h w 24 c (List.replicate n C8))(j:∀b,A3 a b->¬A3 c b):
  GO h (w.alloc (.cells #[a,c] 268)) (.pointer (some ⟨w.heap.size,0,none⟩)) (List.replicate n []) (List.replicate n []) (λb=>b=w.heap.size\/L6 a (List.replicate n C8) b\/L6 c (List.replicate n C8) b):=by
 have i:=o7.alloc w (.cells #[a,c] 268);refine⟨w.heap.size,a,List.replicate n C8,c,List.replicate n C8,rfl,⟨aB8 hw (dO0 _),dQ5 w _,bZ6 (f.ext i),bZ6 (g.ext i),λd=>?_,λd=>?_,λb d e=>j b (ac8 d) (ac8 e)⟩,λ_=>dU5⟩
 ·have:=f.lt (ac8 d);omega
 ·have:=g.lt (ac8 d);omega
def cI1{a b:Value}(c:isS a=true)(d:isS b=true):B8 prog 268 [(0,a),(1,b)]=some (.agg #[a,b]):=by
 simp[B8,dp2,K8,Instr.fill,E3 c,E3 d]
def cg5(a:List (Int×Int))(k:Nat)(g:List (List Int)×List (List Int))(b:k<a.length):(a.take (k+1)).foldl an7 g=an7 ((a.take k).foldl an7 g) a[k]:=br2 an7 g a k b
def dH6(n:Int)(v:Value)(w:World)(hn:n<0\/5000<n):p7 prog 199 #[.int .i64 n,v] w λu c=>(u = .pointer none/\c=w):=by
 refine p9 [.int .i64 n,v] func199 rfl ?_;by_cases h0:n<0
 ·have a:decide (n<0)=true:=by simpa using h0
  simp only[L4,O5,B4,E5,simprocAttr,a];exact o8 results199 ⟨rfl,by trivial⟩
 ·have a:decide (n<0)=false:=by simpa using h0
  have b:decide (n>5000)=true:=by simp;omega
  simp only[L4,O5,B4,E5,simprocAttr,a,b];exact o8 results199 ⟨rfl,by trivial⟩
def cs3(n:Nat)(v:Value)(a:List (Int×Int))(w:World)(hn:n<=5000)(hv:R (i4 w) v a)(hl:a.length<=1000000000000):
  p7 prog 199 #[.int .i64 n,v] w λu q=>((∃M,GO (i4 w) q u (am0 n a).1 (am0 n a).2 M)/\o7 w q):=by
 refine p9 [.int .i64 n,v] func199 rfl ?_;have U:decide ((n:Int)<0)=false:=by simp
 have W:decide ((n:Int)>5000)=false:=by simp;omega
 have hS:=hv.isS;have ah:=hv.vlen;simp only[L4,O5,B4,E5,simprocAttr,U,W];refine bS7 [1] (λp=>o7 w p) 4 (.op 0 (.op 2 (.fork [1,3] (λi=>if i=1 then A5 [3]else A5 [1]))))
  (λO q=>A8 (i4 w) q 24 (O 15) (List.replicate n C8)/\A8 (i4 w) q 24 (O 17) (List.replicate n C8)/\(∀b,A3 (O 15) b->¬A3 (O 17) b)/\o7 w q) (by decide +kernel) (by decide +kernel) (o7.drew w) ?_ ?_
 ·simp only[D6,A5,L4,simprocAttr];have hz:A4.enc (i4 w) (Value.slice none 0 0).cells.toList C8:=⟨rfl,rfl⟩;have ak:∀o,o7 w o->∃C p D d,(Instr.makeSlice 242 (.int .i64 n) (.int .i64 n)).run prog o = .ok C p/\(Instr.makeSlice 242 (.int .i64 n) (.int .i64 n)).run prog p = .ok D d /\
    A8 (i4 w) d 24 C (List.replicate n C8)/\A8 (i4 w) d 24 D (List.replicate n C8)/\(∀b,A3 C b->¬A3 D b)/\o7 w p/\o7 w d:=by
   intro o s;obtain⟨C,p,V,Q,X,h4,_⟩:=mk (P:=prog) (w:=o) (h:=i4 w) ck2 ai0 (α:=U1) (y:=C8) hz (n:=n) (by omega) (by omega) (b7 s);obtain⟨D,d,k1,k2,k3,k4,_⟩:=mk (P:=prog) (w:=p) (h:=i4 w) ck2 ai0 (α:=U1) (y:=C8) hz (n:=n) (by omega) (by omega) (b7 (s.trans X));exact⟨C,p,D,d,V,k1,Q.ext k3,k2,λb hb ab=>by have:=k4 b ab;have:=Q.lt hb;omega,s.trans X,(s.trans X).trans k3⟩
  obtain⟨C,p,D,d,m1,m2,J,K,L,e2,N⟩:=ak w.drew (o7.drew w);refine ah3 (by decide +kernel) (λi hi=>?_);simp only[dO6,dR2,dX1]at hi;rcases hi with rfl|rfl
  ·simp only[D6,L4,simprocAttr,m1,m2,E8];exact⟨e2,N,J,K,L,N⟩
  ·simp only[D6,L4,simprocAttr,m1,m2,E8];exact⟨e2,N,K,J,λb V Q=>L b Q V,N⟩
 ·rintro f o G ⟨J,K,L,s⟩;simp only[dM6,p8,simprocAttr]at G;obtain⟨e1,_⟩:=G;have Y:=J.isS;have Z:=K.isS;have ac:=cI1 Y Z;have j:(Instr.box 268 (.agg #[f 15,f 17])).run prog o = .ok (.pointer (some ⟨o.heap.size,0,none⟩)) (o.alloc (.cells #[f 15,f 17] 268)):=rfl;have z:=GO.fresh (b7 s) J K L;have E:=s.trans (o7.alloc o (.cells #[f 15,f 17] 268));generalize aB:Value.pointer (some ⟨o.heap.size,0,none⟩)=pg at j z;generalize o.alloc (.cells #[f 15,f 17] 268)=p at j z E;simp only[D6,L4,O5,N7,simprocAttr,ac,j,e1,hS,ah];refine n9 [5,20,21] (σ:=Nat) (λk f q=>f 22 = .int .i64 k/\k<=a.length/\(∃M,GO (i4 w) q pg ((a.take k).foldl an7 (List.replicate n [],List.replicate n [])).1 ((a.take k).foldl an7 (List.replicate n [],List.replicate n [])).2 M)/\o7 w q) (λk=>a.length-k) 0 ?_ ?_
  ·simp only[p8,simprocAttr];exact⟨by trivial,dN6 _,⟨_,z⟩,E⟩
  ·rintro k f3 d G ⟨r,aA,⟨M,hg⟩,hx⟩;simp only[dM6,p8,simprocAttr]at G;obtain⟨g5,S,T,_⟩:=G;have c:=((bi2 n).grows (a.take k)).1;have m:=cg5 a k (List.replicate n [],List.replicate n []);generalize hG:(a.take k).foldl an7 (List.replicate n [],List.replicate n [])=g at hg c m;simp only[L4,B4,E5,simprocAttr,r,T];refine n7 (λhc=>?_) (λhc=>?_)
   ·have l:k<a.length:=by simpa using hc
    have ag:=hv.inS l;have A:=ldP hv (b7 hx) (dM4 l);have B:=m l;generalize a[k]=e at A B;obtain⟨x,y⟩:=e;simp only at A B;obtain⟨p1,p2⟩:=di7 d x y;have q0:=di5 d x y;have q1:=di6 d x y;have I:=o7.alloc d (.cells #[.int .i64 x,.int .i64 y] 205);have H:=hx.trans I;have F:=hg.mod I λ_ _ h=>h.elim;generalize d.alloc (.cells #[.int .i64 x,.int .i64 y] 205)=w4 at *;simp only[L4,O5,y0,simprocAttr,r,S,g5,ag,A,p1,p2,q0,q1];refine y5 (cX8 (i4 w) pg g.1 g.2 M x y w4 F (b7 H) (by rw[c.pv.len,c.nx.len]) (c.nx.rising (by omega)) (c.pv.rising (by omega))) ?_;rintro u w5 ⟨rfl,M',af,hm,ay⟩;simp only[L4,B4,E5,simprocAttr,r];refine⟨k+1,by omega,dO2 _ (B0 k (by omega)),by omega,⟨M',?_⟩,?_⟩
    ·rw[B];exact af
    ·refine o9.ext_of H hm λb hb=>?_;rcases dQ7 b w.heap.size with l|t
     ·have:=F.free b hb;simp[i4,l]at this
     ·exact t
   ·have t:k=a.length:=by simp at hc;omega
    subst t;rw[dN8]at hG;simp only[L4,simprocAttr,g5];refine o8 results199 ?_;simp only[p8,simprocAttr];have:am0 n a=g:=hG;rw[this];exact⟨⟨M,hg⟩,hx⟩
def dX2:=@List.getElem_cons_succ
def dY9:=@List.getElem_cons_zero
def A7(l:List Bool)(b:Int):Bool:=H1 l.length b&&l.getD b.toNat false
def N0{l:List Bool}{b:Int}(h:H1 l.length b=true):b.toNat<l.length/\A7 l b=l.getD b.toNat false:=by
 have:=B3.1 h;exact⟨by omega,by simp[A7,h]⟩
def Y6{l:List Bool}{b:Int}(h:A7 l b=true):H1 l.length b=true:=by
 simp[A7]at h;exact h.1
def M6{l:List Bool}{a b:Int}{v:Bool}(c:H1 l.length a=true):A7 (l.set a.toNat v) b=if b=a then v else A7 l b:=by
 have d:=B3.1 c;unfold A7;simp only[dU0];by_cases h:b=a
 ·subst h;rw[if_pos rfl,c];have:b.toNat<l.length:=by omega
  simp[List.getD,this]
 ·rw[if_neg h];by_cases hb:H1 l.length b=true
  ·have e:=B3.1 hb;have:a.toNat≠b.toNat:=by omega
   simp[List.getD,this]
  ·simp[hb]
theorem ax5{n:Nat}{b:Int}:A7 (List.replicate n false) b=false:=by
 simp only[A7,dR7,Bool.and_eq_false_iff];right;simp[List.getD,dW9];split<;>rfl
inductive Via (nx:List (List Int)) (seen:List Bool) (todo:List Int):Int->Prop
 | base {a:Int}:a∈todo->Via nx seen todo a
 | step {a b:Int}:Via nx seen todo a->b∈C9 nx a->A7 seen b=false->Via nx seen todo b
structure cG9 (nx:List (List Int)) (seen:List Bool) (todo:List Int) (seen':List Bool) (todo':List Int):Prop where
 len:seen'.length=seen.length
 via:∀b,b∈todo'↔Via nx seen todo b
 mark:∀b,A7 seen' b=true↔A7 seen b=true\/b∈todo'
 size:todo'.length<=todo.length+seen.length
structure WI (nx:List (List Int)) (seen:List Bool) (todo:List Int) (td:List Int) (sn:List Bool) (i:Nat):Prop where
 len:sn.length=seen.length
 via:∀b∈td,Via nx seen todo b
 old:∀b∈todo,b∈td
 mark:∀b,A7 sn b=true↔A7 seen b=true\/b∈td
 count:td.length+sn.count false=todo.length+seen.count false
 done:∀k a,k<i->td[k]?=some a->∀b∈C9 nx a,A7 sn b=true
 le:i<=td.length
section
variable {nx:List (List Int)} {seen:List Bool} {todo td:List Int} {sn:List Bool} {i:Nat}
def WI.start(h:∀a∈todo,A7 seen a=true):WI nx seen todo todo seen 0:=
 ⟨rfl,λ_ c=>.base c,λ_ c=>c,λb=>⟨.inl,λd=>d.elim id (h b)⟩,rfl,λk a e=>by omega,dN6 _⟩
def Y7{l:List Bool}{k:Nat}(a:k<l.length)(h:l[k]=false):(l.set k true).count false+1=l.count false:=by
 induction l generalizing k with
 | nil=>simp at a
 | cons x l b=>
  cases k with
  | zero=>
   simp only[dY9]at h;subst h;simp
  | succ k=>
   simp only[dX2]at h;have:=b (by simpa using a) h;simp only[List.set_cons_succ,List.count_cons];omega
def WI.push(h:WI nx seen todo td sn i){b:Int}(hb:H1 seen.length b=true)(hn:A7 sn b=false)(hv:Via nx seen todo b):WI nx seen todo (td++[b]) (sn.set b.toNat true) i:=by
 have f:H1 sn.length b=true:=by rw[h.len];exact hb
 have e:∀c,A7 (sn.set b.toNat true) c=if c=b then true else A7 sn c:=λc=>M6 f;have j:=(N0 f).1;have g:sn[b.toNat]=false:=by
  have:=(N0 f).2;rw[hn]at this;simp[List.getD,j]at this;exact this
 refine⟨by simp[h.len],λc d=>?_,λc d=>dQ1 _ (h.old c d),λc=>?_,?_,λk a m l c d=>?_,?_⟩
 ·rcases dN7.1 d with d|d
  ·exact h.via c d
  ·simp at d;subst d;exact hv
 ·rw[e];by_cases hcb:c=b
  ·subst hcb;simp
  ·simp[hcb,h.mark c]
 ·have:=h.count;have:=Y7 j g;simp only[dM7,dP7];omega
 ·rw[e];split
  ·rfl
  ·have B5:=h.le;rw[dR6 (by omega)]at l;exact h.done k a m l c d
 ·have:=h.le;simp;omega
def aN0{b c:Int}(hb:H1 sn.length b=true)(a:A7 sn c=true):A7 (sn.set b.toNat true) c=true:=by
 rw[M6 hb];split
 ·rfl
 ·exact a
def WI.next(h:WI nx seen todo td sn i){a:Int}(e:td[i]?=some a)(g:∀b∈C9 nx a,A7 sn b=true):WI nx seen todo td sn (i+1):=by
 refine⟨h.len,h.via,h.old,h.mark,h.count,λk c j d b f=>?_,(dM9.1 e).1⟩;by_cases hki:k=i
 ·subst hki;rw[e]at d;obtain rfl:=dO3 d;exact g b f
 ·exact h.done k c (by omega) d b f
def WI.fin(h:WI nx seen todo td sn td.length):cG9 nx seen todo sn td:=by
 refine⟨h.len,λb=>⟨h.via b,λi=>?_⟩,h.mark,?_⟩
 ·induction i with
  | base e=>exact h.old _ e
  | step _ f g j=>
   obtain⟨k,d⟩:=dV3.1 j;have:=h.done k _ (dM9.1 d).1 d _ f;rcases(h.mark _).1 this with c|c
   ·rw[g]at c;cases c
   ·exact c
 ·have:=h.count;have:=List.count_le_length (a:=false) (l:=seen);omega
end
def cc2(h:Hp)(vn vs E:Value)(nx:List (List Int))(d:List Bool)(g:List Int)(w:World)(hw:B5 h (i4 w))(hn:R h vn nx)(hg:E6 nx.length nx)(hs:A8 h w 4 vs d)(ht:A8 h w 3 E g)
  (hd:∀b,A3 vs b->¬A3 E b) (K:d.length=nx.length) (aP:∀a∈g,A7 d a=true) (bf:nx.length<=5000) (Q:g.length<=1000000) :
  p7 prog 201 #[vn,vs,E] w λu N=>∃M L,A8 h N 3 u M/\A8 h N 4 vs L/\(∀b,A3 vs b->¬A3 u b)/\o9 (λb=>A3 vs b\/A3 E b) w N/\F0 w E u/\cG9 nx d g L M:=by
 refine p9 [vn,vs,E] func201 rfl ?_;simp only[L4,O5,simprocAttr];have bd:=hn.isS;refine n9 [0,1] (σ:=List Int×List Bool×Nat) (λs f N=>f 7 = .int .i64 s.2.2/\A8 h N 3 (f 2) s.1/\A8 h N 4 vs s.2.1/\(∀b,A3 vs b->¬A3 (f 2) b)/\o9 (λb=>A3 vs b\/A3 E b) w N/\F0 w E (f 2)/\WI nx d g s.1 s.2.1 s.2.2)
  (λs=>g.length+d.count false-s.2.2) (g,d,0) ?_ ?_
 ·simp only[p8,simprocAttr];exact⟨by trivial,ht,hs,hd,o9.refl _,λb D=>.inl D,WI.start aP⟩
 ·rintro⟨td,sn,i⟩ f w1 hk ⟨h7,B,ak,au,hm,aB,hi⟩;simp only at h7 B ak hi;simp only[dM6,p8,simprocAttr]at hk;obtain⟨e0,e1,_⟩:=hk;have aq:=B.isS;have aA:=B.vlen;have aZ:=hi.count;have bj:=List.count_le_length (a:=false) (l:=d);have aj:∀b,(A3 vs b\/A3 E b)->h b=none:=λb D=>D.elim hs.free ht.free;simp only[L4,O5,B4,E5,N7,simprocAttr,h7,aq,aA];refine n7 (λo=>?_) (λo=>?_)
  ·have ah:i<td.length:=by simpa using o
   have aw:=B.inS ah;have Z:=D3 (P:=prog) (t:=3) B (dM4 ah) G3;generalize aO:td[i]=a at Z;have aa:td[i]?=some a:=by rw[dM4 ah,aO]
   have aL:a∈td:=dO4 aa;have ab:H1 nx.length a=true:=by
    have:=Y6 ((hi.mark a).2 (.inr aL));rw[hi.len,K]at this;exact this
   obtain⟨aR,aS⟩:=ao7 ab;have av:=hn.inS aS;have d0:decide (0<=a)=true:=by simpa using(B3.1 ab).1
   obtain⟨x,U,aT⟩:=hn.row aR;have aQ:B5 h (i4 w1):=H5 hw hm aj;have az:=H7 (P:=prog) (t:=24) aT aQ ad0;have aU:=U.isS;have aV:=U.vlen;have aF:=as8 ab;have bl:=hg.row_len aF;simp only[L4,O5,y0,N7,I4.val,simprocAttr,h7,e0,aw,Z,av,d0,az,aU,aV];refine n9 [0,1,7,22,23] (σ:=List Int×List Bool×Nat) (λs f N=>f 24 = .int .i64 s.2.2/\s.2.2<=(C9 nx a).length/\A8 h N 3 (f 2) s.1/\A8 h N 4 vs s.2.1/\(∀b,A3 vs b->¬A3 (f 2) b)/\o9 (λb=>A3 vs b\/A3 E b) w N/\F0 w E (f 2)/\WI nx d g s.1 s.2.1 i/\s.1[i]?=some a/\∀b∈(C9 nx a).take s.2.2,A7 s.2.1 b=true)
    (λs=>(C9 nx a).length-s.2.2) (td,sn,0) ?_ ?_
   ·simp only[p8,simprocAttr];exact⟨by trivial,dN6 _,B,ak,au,hm,aB,hi,aa,λb D=>by simp at D⟩
   ·rintro⟨an,q,j⟩ f2 w2 ay ⟨O,aN,C,m,r,T,z,p,n,A⟩;simp only at O aN C m p n A;simp only[dM6,p8,↓reduceIte,Nat.reduceEqDiff]at ay;obtain⟨g0,g1,g7,ap,aK,_⟩:=ay;rw[e0]at g0;rw[e1]at g1;rw[h7]at g7;simp only[L4,B4,E5,simprocAttr,O,aK];refine n7 (λI=>?_) (λI=>?_)
    ·have hj:j<(C9 nx a).length:=by simpa using I
     have X:=U.inS hj;have aD:B5 h (i4 w2):=H5 hw T aj;have J:=M4 (P:=prog) (t:=3) U aD (dM4 hj) G3;have ad:(C9 nx a)[j]∈C9 nx a:=dN5 hj;have al:=dN3 hj;generalize bg:(C9 nx a)[j]=b at J ad al;have ac:H1 nx.length b=true:=hg.ok _ aF b ad;have F:H1 q.length b=true:=by rw[p.len,K];exact ac
     obtain⟨G,aM⟩:=N0 F;have W:=m.inS G;have d1:decide (0<=b)=true:=by simpa using(B3.1 ac).1
     have Y:=D3 (P:=prog) (t:=4) m (k:=b.toNat) (x:=A7 q b) (by rw[aM];simp[List.getD,G]) am6;have be:=m.isS;by_cases hbs:A7 q b=true
     ·have H:(!A7 q b)=false:=by rw[hbs];rfl
      simp only[L4,O5,B4,E5,unV,y0,I4.val,simprocAttr,O,ap,g1,X,J,W,d1,Y,H];refine⟨(an,q,j+1),by simp only[];omega,by simp only[];rw[B0 j (by omega)],by simp only[];omega,C,m,r,T,z,p,n,?_⟩;simp only[];rw[al];intro c o;rcases dN7.1 o with o|o
      ·exact A c o
      ·simp at o;subst o;exact hbs
     ·have S:A7 q b=false:=by simpa using hbs
      have H:(!A7 q b)=true:=by rw[S];rfl
      have ae:=p.count;obtain⟨w3,s1,s2,s3,s4⟩:=E4 (P:=prog) (t:=4) m rfl (k:=b.toNat) G (x:=.bool true) (y:=true) rfl rfl (z7 T5).choose_spec.1 (by rw[<-D9 (z7 T5).choose_spec.1];exact aE1);have aC:=C.mod s3 λb D Q=>r b Q D;have v:o9 (λb=>A3 vs b\/A3 E b) w w3:=T.trans (s3.weaken λb _ D=>.inl D);have aE:B5 h (i4 w3):=H5 hw v aj;obtain⟨p1,u',w4,p2,p3,p4,p5⟩:=push (e:=24) U2 rfl aC (x:=.int .i64 b) (y:=b) rfl (by omega) (by omega) aE;simp only[Value.cells]at p1 p2;simp only[L4,O5,B4,E5,unV,y0,I4.val,simprocAttr,O,ap,g1,X,J,W,d1,Y,H,s1,p1,p2];have bk:w.heap.size<=w3.heap.size:=v.size;have aH:∀b,A3 (f2 2) b->A3 E b\/w.heap.size<=b:=z;refine⟨(an++[b],q.set b.toNat true,j+1),by simp only[];omega,by simp only[];rw[B0 j (by omega)],by simp only[];omega,p3,s2.mod p4 (λb D Q=>r b D Q),?_,?_,?_,?_,?_,?_⟩
      ·intro c ar I;rcases p5 c I with V|V
       ·exact r c ar V
       ·have:=s2.lt ar;omega
      ·refine⟨p4.os.trans v.os,p4.tape.trans v.tape,p4.output.trans v.output,dN1 v.size p4.size,λk hk hn=>?_⟩;refine(p4.block k (dS9 hk v.size) λD=>?_).trans (v.block k hk hn);rcases z k D with V|V
       ·exact hn (.inr V)
       ·omega
      ·intro c o;rcases p5 c o with V|V
       ·exact z c V
       ·exact .inr (by omega)
      ·refine p.push (by rw[K];exact ac) S (.step (p.via a (dO4 n)) ad ?_);rw[dX7];intro hh;rw[(p.mark b).2 (.inl hh)]at S;cases S
      ·simp only[];rw[dR6 (dM9.1 n).1];exact n
      ·simp only[];rw[al];intro c o;rcases dN7.1 o with o|o
       ·exact aN0 F (A c o)
       ·simp at o;subst o;rw[M6 F,if_pos rfl]
    ·have af:j=(C9 nx a).length:=by simp at I;omega
     subst af;rw[dN8]at A;simp only[L4,B4,E5,simprocAttr,g7];have ae:=p.count;refine⟨(an,q,i+1),by simp only[];omega,by simp only[];rw[B0 i (by omega)],C,m,r,T,z,p.next n A⟩
  ·have af:i=td.length:=by have:=hi.le;simp at o;omega
   subst af;simp only[L4,simprocAttr];exact o8 results201 ⟨td,sn,B,ak,au,hm,aB,hi.fin⟩
def dP2:=@List.mem_filter
def dQ6:=@List.mem_range
inductive Rch (nx:List (List Int)) (from_:List Int):Int->Prop
 | base {a:Int}:a∈from_->H1 nx.length a=true->Rch nx from_ a
 | step {a b:Int}:Rch nx from_ a->b∈C9 nx a->Rch nx from_ b
def Rch.ok{nx:List (List Int)}{l:List Int}(c:E6 nx.length nx){b:Int}(h:Rch nx l b):H1 nx.length b=true:=by
 cases h with
 | base _ h=>exact h
 | step _ a=>exact(c.row _).2 _ a
def df6{nx:List (List Int)}{f:List Bool}{g l:List Int}(hm:∀b,A7 f b=true↔b∈g)(d:∀b,b∈g↔b∈l/\H1 nx.length b=true)(b:Int):Via nx f g b↔Rch nx l b:=by
 constructor
 ·intro h
  induction h with
  | base i=>exact .base ((d _).1 i).1 ((d _).1 i).2
  | step _ c _ e=>exact .step e c
 ·intro h
  induction h with
  | base j k=>exact .base ((d _).2 ⟨j,k⟩)
  | @step a b _ c e=>
   cases hs:A7 f b with
   | true=>exact .base ((hm b).1 hs)
   | false=>exact .step e c hs
def bW7{l:List Bool}{b:Int}:b∈ad3 l l.length↔A7 l b=true:=by
 unfold ad3;rw[dO7];constructor
 ·rintro⟨i,c,rfl⟩;rw[dP2,dQ6]at c;have a:H1 l.length (i:Int)=true:=B3.2 ⟨by omega,by omega⟩;rw[(N0 a).2];simpa[List.getD]using c.2
 ·intro h;have a:=Y6 h;obtain⟨d,e⟩:=N0 a;have f:=B3.1 a;refine⟨b.toNat,?_,by omega⟩;rw[dP2,dQ6];rw[e]at h;exact⟨d,by simpa[List.getD]using h⟩
def bt9(l:List Bool)(k:Nat):(ad3 l k).Pairwise (· < ·):=by
 unfold ad3;rw[List.pairwise_map];refine List.Pairwise.filter _ ?_;exact(List.pairwise_lt_range (n:=k)).imp λh=>by omega
structure dg5 (l:List Int) (p:Int->Prop):Prop where
 le:l.Pairwise (· < ·)
 mem:∀b,b∈l↔p b
def dq8(v:Value)(w:World):p7 prog 150 #[.pointer none,v] w λu a=>(u = .slice none 0 0/\a=w):=by
 refine p9 [.pointer none,v] func150 rfl ?_;simp only[L4,O5,B4,simprocAttr];exact o8 results150 ⟨rfl,by trivial⟩
structure FI (n:Nat) (l:List Int) (td:List Int) (sn:List Bool):Prop where
 len:sn.length=n
 mark:∀b,A7 sn b=true↔b∈td
 mem:∀b,b∈td↔b∈l/\H1 n b=true
 count:td.length+sn.count false=n
def FI.start(n:Nat):FI n [] [] (List.replicate n false):=
 ⟨by simp,λb=>by simp[ax5],λb=>by simp,by simp⟩
def FI.old{n:Nat}{l g:List Int}{f:List Bool}(h:FI n l g f){a:Int}(c:H1 n a=false\/A7 f a=true):FI n (l++[a]) g f:=by
 refine⟨h.len,h.mark,λb=>?_,h.count⟩;rw[h.mem,dN7,dP1];constructor
 ·rintro⟨d,e⟩;exact⟨.inl d,e⟩
 ·rintro⟨d|d,e⟩
  ·exact⟨d,e⟩
  ·subst d;rcases c with c|c
   ·rw[e]at c;cases c
   ·exact(h.mem b).1 ((h.mark b).1 c)
def FI.new{n:Nat}{l k:List Int}{g:List Bool}(h:FI n l k g){a:Int}(j:H1 n a=true)(m:A7 g a=false):FI n (l++[a]) (k++[a]) (g.set a.toNat true):=by
 have c:H1 g.length a=true:=by rw[h.len];exact j
 have f:=(N0 c).1;have e:g[a.toNat]=false:=by
  have:=(N0 c).2;rw[m]at this;simp[List.getD,f]at this;exact this
 refine⟨by simp[h.len],λb=>?_,λb=>?_,?_⟩
 ·rw[M6 c,dN7,dP1];by_cases hb:b=a
  ·subst hb;simp
  ·simp[hb,h.mark b]
 ·rw[dN7,dN7,dP1,h.mem];constructor
  ·rintro(⟨d,i⟩|rfl)
   ·exact⟨.inl d,i⟩
   ·exact⟨.inr rfl,j⟩
  ·rintro⟨d|d,i⟩
   ·exact .inl ⟨d,i⟩
   ·exact .inr d
 ·have:=h.count;have:=Y7 f e;simp only[dM7,dP7];omega
def cw3(pg:Value)(nx pv:List (List Int))(v:Value)(l:List Int)(w:World)(V:GR (i4 w) pg nx pv)(hg:E6 nx.length nx)(aq:nx.length<=5000)(hv:R (i4 w) v l)(hl:l.length<=1000000000):
  p7 prog 150 #[pg,v] w λu N=>((∃r,A8 (i4 w) N 3 u r/\dg5 r (Rch nx l))/\o7 w N):=by
 have W:=V;obtain⟨gb,vn,vp,rfl,O,h2,h3,h4⟩:=V;refine p9 [.pointer (some ⟨gb,0,none⟩),v] func150 rfl ?_;have an:=H7 (P:=prog) (t:=242) O (i5 _) V3;have ag:=h3.isS;have ar:=h3.vlen;have hS:=hv.isS;have av:=hv.vlen;obtain⟨u0,w0,ap,au,aw,aP,_⟩:=mk (P:=prog) (w:=w) (h:=i4 w) bw9 T5 (α:=Bool) (y:=false) rfl (n:=nx.length) (by omega) (by omega) (i5 _);simp only[L4,O5,B4,N7,simprocAttr,an,ag,ar,ap,hS,av];refine n9 [0,1,5,17,18] (σ:=List Int×List Bool×Nat) (λs f N=>f 19 = .int .i64 s.2.2/\s.2.2<=l.length/\A8 (i4 w) N 3 (f 6) s.1/\A8 (i4 w) N 4 u0 s.2.1/\(∀b,A3 u0 b->¬A3 (f 6) b)/\o7 w N/\FI nx.length (l.take s.2.2) s.1 s.2.1)
  (λs=>l.length-s.2.2) ([],List.replicate nx.length false,0) ?_ ?_
 ·simp only[p8,simprocAttr];exact⟨by trivial,dN6 _,A8.nil _ _ _,au,λb _ i=>D1 i,aw,FI.start _⟩
 ·rintro⟨td,A,k⟩ f w1 hk ⟨g,am,o,d,j,J,m⟩;simp only at g am o d m;simp only[dM6,p8,simprocAttr]at hk;obtain⟨e0,e1,e5,ad,ae,_⟩:=hk;have az:=m.count;simp only[L4,B4,E5,simprocAttr,g,ae];refine n7 (λhc=>?_) (λhc=>?_)
  ·have z:k<l.length:=by simpa using hc
   have al:=hv.inS z;have G:=M4 (P:=prog) (t:=3) hv (b7 J) (dM4 z) G3;have C:=dN3 z;generalize aS:l[k]=a at G C;simp only[L4,O5,y0,I4.val,simprocAttr,g,ad,e0,al,G];refine y5 (aV1 _ nx pv a w1 (W.mono (b7 J))) ?_;rintro u w1 ⟨rfl,rfl⟩;by_cases E:H1 nx.length a=true
   ·have S:H1 A.length a=true:=by rw[m.len];exact E
    obtain⟨p,ah⟩:=N0 S;have F:=d.inS p;have d1:decide (0<=a)=true:=by simpa using(B3.1 E).1
    have H:=D3 (P:=prog) (t:=4) d (k:=a.toNat) (x:=A7 A a) (by rw[ah];simp[List.getD,p]) am6;have aO:=d.isS;by_cases hbs:A7 A a=true
    ·have q:(!A7 A a)=false:=by rw[hbs];rfl
     simp only[L4,O5,B4,E5,unV,y0,I4.val,simprocAttr,E,g,e5,F,d1,H,q];refine⟨(td,A,k+1),by simp only[];omega,by simp only[];rw[B0 k (by omega)],by simp only[];omega,o,d,j,J,?_⟩;simp only[];rw[C];exact m.old (.inr hbs)
    ·have T:A7 A a=false:=by simpa using hbs
     have q:(!A7 A a)=true:=by rw[T];rfl
     obtain⟨w3,s1,s2,s3,s4⟩:=E4 (P:=prog) (t:=4) d rfl (k:=a.toNat) p (x:=.bool true) (y:=true) rfl rfl (z7 T5).choose_spec.1 (by rw[<-D9 (z7 T5).choose_spec.1];exact aE1);have I:=o.mod s3 λb i K=>j b K i;have D:=d.ext2 J s3;obtain⟨p1,u',w4,p2,p3,p4,p5⟩:=push (e:=24) U2 rfl I (x:=.int .i64 a) (y:=a) rfl (by omega) (by omega) (b7 D);simp only[Value.cells]at p1 p2;simp only[L4,O5,B4,E5,unV,y0,I4.val,simprocAttr,E,g,e5,F,d1,H,q,s1,p1,p2];refine⟨(td++[a],A.set a.toNat true,k+1),by simp only[];omega,by simp only[];rw[B0 k (by omega)],by simp only[];omega,p3,s2.mod p4 (λb i K=>j b i K),?_,I.ext2 D p4,?_⟩
     ·intro c U ak;rcases p5 c ak with O|O
      ·exact j c U O
      ·have:=s2.lt U;omega
     ·simp only[];rw[C];exact m.new E T
   ·have Q:H1 nx.length a=false:=by simpa using E
    simp only[L4,B4,E5,simprocAttr,Q,g];refine⟨(td,A,k+1),by simp only[];omega,by simp only[];rw[B0 k (by omega)],by simp only[];omega,o,d,j,J,?_⟩;simp only[];rw[C];exact m.old (.inl Q)
  ·have L:k=l.length:=by simp at hc;omega
   subst L;rw[dN8]at m;have X:=H7 (P:=prog) (t:=242) O (b7 J) V3;simp only[L4,O5,simprocAttr,e0,e5,X];refine y5 (cc2 (i4 w) vn u0 (f 6) nx A td w1 (b7 J) h3 hg d o j m.len (λa E=>(m.mark a).2 E) aq (by omega)) ?_;rintro u w2 ⟨aX,Z,aD,Y,aA,ao,aC,B⟩;have M:o7 w w2:=o9.ext_of J ao λb i=>by
    rcases dQ7 b w.heap.size with z|L
    ·have:(i4 w) b=none:=i.elim d.free o.free;simp[i4,z]at this
    ·exact L
   have aR:Z.length=nx.length:=by rw[B.len,m.len]
   simp only[L4,simprocAttr,e5];refine y5 (ch8 u0 Z w2 (Y.rw_ (b7 M)) (by omega)) ?_;rintro r w3 ⟨hr,D⟩;simp only[L4,simprocAttr];refine o8 results150 ?_;simp only[p8,simprocAttr];refine⟨⟨_,hr.back M,bt9 _ _,λb=>?_⟩,M.trans D⟩;rw[bW7,B.mark,<-df6 m.mark m.mem];constructor
   ·rintro(i|i)
    ·exact .base ((m.mark b).1 i)
    ·exact(B.via b).1 i
   ·exact λi=>.inr ((B.via b).2 i)
def dZ0:=@List.take_add_one
inductive Y5 (nx:List (List Int)) (a:Int):Int->Prop
 | refl:Y5 nx a a
 | step {b c:Int}:Y5 nx a b->c∈C9 nx b->Y5 nx a c
def Y5.trans{nx:List (List Int)}{a b c:Int}(h:Y5 nx a b)(k:Y5 nx b c):Y5 nx a c:=by
 induction k with
 | refl=>exact h
 | step _ d e=>exact .step e d
def Y5.one{nx:List (List Int)}{a b:Int}(h:b∈C9 nx a):Y5 nx a b:=.step .refl h
def ao0(nx:List (List Int))(a b:Int):Prop:=Y5 nx a b/\Y5 nx b a
def ao0.refl{nx:List (List Int)}(a:Int):ao0 nx a a:=⟨.refl,.refl⟩
def ao0.symm{nx:List (List Int)}{a b:Int}(h:ao0 nx a b):ao0 nx b a:=⟨h.2,h.1⟩
def ao0.trans{nx:List (List Int)}{a b c:Int}(h:ao0 nx a b)(k:ao0 nx b c):ao0 nx a c:=⟨h.1.trans k.1,k.2.trans h.2⟩
def ai(l:List Int)(a:Int):Int:=l.getD a.toNat 0
def bb2{l:List Int}{n:Nat}(f:l.length=n){a b v:Int}(c:H1 n a=true)(hb:H1 n b=true):ai (l.set a.toNat v) b=if b=a then v else ai l b:=by
 have d:=B3.1 c;have e:=B3.1 hb;unfold ai;by_cases h:b=a
 ·subst h;rw[if_pos rfl];have:b.toNat<l.length:=by omega
  simp[List.getD,this]
 ·rw[if_neg h];have:a.toNat≠b.toNat:=by omega
  simp[List.getD,this]
def dh8{nx:List (List Int)}{a d:List Int}(hb:∀x∈a,∀y∈C9 nx x,y∈a\/y∈d){x r:Int}(j:x∈a)(hw:Y5 nx x r)(i:r∉a):∃g∈d,Y5 nx x g:=by
 induction hw with
 | refl=>exact absurd j i
 | @step b c hw f k=>
  by_cases h:b∈a
  ·rcases hb b h c f with e|e
   ·exact absurd e i
   ·exact⟨c,e,.step hw f⟩
  ·exact k h
structure DI (nx:List (List Int)) (n:Nat) (out stack:List Int) (seen:List Bool) (at_:List Int):Prop where
 slen:seen.length=n
 alen:at_.length=n
 mark:∀b,A7 seen b=true↔b∈out\/b∈stack
 count:out.length+stack.length+seen.count false=n
 apart:∀b∈out,b∉stack
 onod:out.Nodup
 snod:stack.Nodup
 path:stack.Pairwise (Y5 nx)
 black:∀x∈out,∀y∈C9 nx x,y∈out\/y∈stack
 atok:∀a,H1 n a=true->0<=ai at_ a/\ai at_ a<=(C9 nx a).length
 white:∀a,H1 n a=true->A7 seen a=false->ai at_ a=0
 grey:∀g∈stack,∀y∈(C9 nx g).take (ai at_ g).toNat,A7 seen y=true
 low:∀x∈out,∀g∈stack,Y5 nx x g->∃c∈stack,ao0 nx c x
 cut:∀k,∀x∈out.take k,∀r,r∉out.take k->Y5 nx x r->∃c,c∉out.take k/\ao0 nx c x
section
variable {nx:List (List Int)} {n:Nat} {out stack:List Int} {seen:List Bool} {at_:List Int}
def DI.start(hn:nx.length=n):DI nx n [] [] (List.replicate n false) (List.replicate n 0):=by
 have d:∀a,ai (List.replicate n 0) a=0:=λa=>by
  simp[ai,List.getD,dW9];split<;>rfl
 have no:∀(x:Int) {p:Prop},x∈([]:List Int)->p:=λx p h=>absurd h (dR2);exact⟨by simp,by simp,λb=>by simp[ax5],by simp,λb e=>no b e,List.nodup_nil,List.nodup_nil,List.Pairwise.nil,λx c=>no x c,
  λa _=>(by rw[d];omega),λa _ _=>d a,λg f=>no g f,λx c=>no x c,λk x c=>no x (by simpa using c)⟩
def DI.ok(h:DI nx n out stack seen at_){b:Int}(hb:b∈out\/b∈stack):H1 n b=true:=by
 have:=Y6 ((h.mark b).2 hb)
 rwa [h.slen]at this
def DI.push(h:DI nx n out stack seen at_){y:Int}(E:H1 n y=true)(k:A7 seen y=false)(hw:∀g∈stack,Y5 nx g y):DI nx n out (stack++[y]) (seen.set y.toNat true) at_:=by
 have i:H1 seen.length y=true:=by rw[h.slen];exact E
 have j:∀c,A7 (seen.set y.toNat true) c=if c=y then true else A7 seen c:=λc=>M6 i;have o:=(N0 i).1;have m:seen[y.toNat]=false:=by
  have:=(N0 i).2;rw[k]at this;simp[List.getD,o]at this;exact this
 have p:y∉out:=λA=>by rw[(h.mark y).2 (.inl A)]at k;cases k
 have B:y∉stack:=λA=>by rw[(h.mark y).2 (.inr A)]at k;cases k
 refine⟨by simp[h.slen],h.alen,λc=>?_,?_,λb e u=>?_,h.onod,?_,?_,λx t z r=>?_,h.atok,λa l f=>?_,λg v z r=>?_,λx t g v q=>?_,h.cut⟩
 ·rw[j,dN7,dP1];by_cases s:c=y
  ·subst s;simp
  ·simp[s,h.mark c]
 ·have:=h.count;have:=Y7 o m;simp only[dM7,dP7];omega
 ·rcases dN7.1 u with d|d
  ·exact h.apart b e d
  ·simp at d;subst d;exact p e
 ·rw[dR0];refine⟨h.snod,by simp,λa l b e=>?_⟩;simp at e;subst e;rintro rfl;exact B l
 ·rw[List.pairwise_append];refine⟨h.path,by simp,λa l b e=>?_⟩;simp at e;subst e;exact hw a l
 ·rcases h.black x t z r with d|d
  ·exact .inl d
  ·exact .inr (dQ1 _ d)
 ·rw[j]at f;split at f
  ·cases f
  ·exact h.white a l f
 ·rcases dN7.1 v with d|d
  ·exact aN0 i (h.grey g d z r)
  ·simp at d;subst d;rw[h.white g E k]at r;simp at r
 ·have D:∃g∈stack,Y5 nx x g:=by
   rcases dN7.1 v with d|d
   ·exact⟨g,d,q⟩
   ·simp at d;subst d;exact dh8 h.black t q p
  obtain⟨F,w,C⟩:=D;obtain⟨c,s,e⟩:=h.low x t F w C;exact⟨c,dQ1 _ s,e⟩
def DI.adv(h:DI nx n out stack seen at_){a y:Int}(j:H1 n a=true){k:Nat}(q:ai at_ a=k)(p:(C9 nx a)[k]?=some y)(s:A7 seen y=true)(o:A7 seen a=true):DI nx n out stack seen (at_.set a.toNat (k+1:Nat)):=by
 have r:=(dM9.1 p).1;refine⟨h.slen,by simp[h.alen],h.mark,h.count,h.apart,h.onod,h.snod,h.path,h.black,λb d=>?_,λb d c=>?_,λg l z f=>?_,h.low,h.cut⟩
 ·rw[bb2 h.alen j d];split
  ·rename_i e;subst e;omega
  ·exact h.atok b d
 ·rw[bb2 h.alen j d];split
  ·rename_i e;subst e;rw[o]at c;cases c
  ·exact h.white b d c
 ·have m:=h.ok (.inr l);rw[bb2 h.alen j m]at f;split at f
  ·rename_i e;subst e;rw[dP0,dZ0,p]at f;rcases dN7.1 f with i|i
   ·refine h.grey g l z ?_;rw[q,dP0];exact i
   ·simp at i;subst i;exact s
  ·exact h.grey g l z f
def DI.pop{s:List Int}{a:Int}(h:DI nx n out (s++[a]) seen at_)(F:ai at_ a=(C9 nx a).length):DI nx n (out++[a]) s seen at_:=by
 have has:a∈s++[a]:=by simp
 have C:a∉out:=λt=>h.apart a t has;have v:=dR0.1 h.snod;have u:a∉s:=λt=>v.2.2 a t a (by simp) rfl;have w:=List.pairwise_append.1 h.path;have q:∀g∈s,Y5 nx g a:=λg f=>w.2.2 g f a (by simp);have e:∀x∈out++[a],∀y∈C9 nx x,y∈out++[a]\/y∈s:=by
  intro x i y z;have hm:y∈out\/y∈s++[a]:=by
   rcases dN7.1 i with d|d
   ·exact h.black x d y z
   ·simp at d;subst d;refine(h.mark y).1 (h.grey x has y ?_);rw[F,dP0,dN8];exact z
  rcases hm with d|d
  ·exact .inl (dQ1 _ d)
  ·rcases dN7.1 d with j|j
   ·exact .inr j
   ·exact .inl (dS0 _ j)
 have l:∀x∈out++[a],∀g∈s,Y5 nx x g->∃c∈s,ao0 nx c x:=by
  intro x i g f o;rcases dN7.1 i with d|d
  ·obtain⟨c,B,m⟩:=h.low x d g (dQ1 _ f) o;rcases dN7.1 B with j|j
   ·exact⟨c,j,m⟩
   ·simp at j;subst j;exact⟨g,f,⟨(q g f).trans m.1,o⟩⟩
  ·simp at d;subst d;exact⟨g,f,⟨q g f,o⟩⟩
 have p:∀b∈out++[a],b∉s:=by
  intro b m E;rcases dN7.1 m with d|d
  ·exact h.apart b d (dQ1 _ E)
  ·simp at d;subst d;exact u E
 refine⟨h.slen,h.alen,λb=>?_,?_,p,?_,v.1,w.1,e,h.atok,h.white,λg f=>h.grey g (dQ1 _ f),l,λk x i r A o=>?_⟩
 ·rw[h.mark,dN7,dN7];constructor
  ·rintro(d|d|d)
   ·exact .inl (.inl d)
   ·exact .inr d
   ·exact .inl (.inr d)
  ·rintro((d|d)|d)
   ·exact .inl d
   ·exact .inr (.inr d)
   ·exact .inr (.inl d)
 ·have:=h.count;simp only[dM7,dP7]at this ⊢;omega
 ·rw[dR0];refine⟨h.onod,by simp,λx i y z=>?_⟩;simp at z;subst z;rintro rfl;exact C i
 ·by_cases hkl:k<=out.length
  ·rw[dT6 hkl]at i A ⊢;exact h.cut k x i r A o
  ·rw[dQ9 (by simp;omega)]at i A ⊢;obtain⟨g,f,D⟩:=dh8 e i o A;obtain⟨c,B,m⟩:=l x i g f D;exact⟨c,λt=>p c t B,m⟩
end
structure aT7 (nx:List (List Int)) (n:Nat) (out:List Int):Prop where
 nod:out.Nodup
 mem:∀b,b∈out↔H1 n b=true
 cut:∀k,∀x∈out.take k,∀r,r∉out.take k->Y5 nx x r->∃c,c∉out.take k/\ao0 nx c x
 len:out.length=n
def DI.fin{nx:List (List Int)}{n:Nat}{d:List Int}{a:List Bool}{f:List Int}(h:DI nx n d [] a f)(c:∀b,H1 n b=true->A7 a b=true):aT7 nx n d:=by
 have hm:∀b,b∈d↔H1 n b=true:=λb=>⟨λg=>h.ok (.inl g),λg=>by
  rcases(h.mark b).1 (c b g)with e|e
  ·exact e
  ·cases e⟩
 refine⟨h.onod,hm,h.cut,?_⟩;have o:a.count false=0:=by
  rw[List.count_eq_zero];intro l;obtain⟨i,m,k⟩:=List.getElem_of_mem l;have j:H1 a.length (i:Int)=true:=B3.2 ⟨by omega,by omega⟩;have e:=c i (by rw[<-h.slen];exact j);rw[(N0 j).2]at e;simp[List.getD,m,k]at e
 have:=h.count;simp only[dT9]at this;omega
def cr2(nx:List (List Int))(a:List Int)(n:Nat):Nat:=((List.range n).map λ(i:Nat)=>(C9 nx (i:Int)).length-(ai a (i:Int)).toNat).sum
def cS3{f g:Nat->Nat}{i:Nat}:∀{n:Nat},i<n->(∀j,j<n->j≠i->f j=g j)->f i<g i->((List.range n).map f).sum<((List.range n).map g).sum
 | 0,h,_,_=>by omega
 | n+1,h,he,hl=>by
  have B5:∀m,(∀j,j<m->j≠i->f j=g j)->((List.range m).map f).sum<=((List.range m).map g).sum:=by
   intro m
   induction m with
   | zero=>intro _;simp
   | succ m c=>
    intro a;have:=c λj b=>a j (by omega);rw[dW7];simp only[dP6,List.sum_append,dQ8,List.map_nil,dX8,List.sum_nil];by_cases hm:m=i
    ·subst hm;omega
    ·have:=a m (by omega) hm;omega
  rw[dW7];simp only[dP6,List.sum_append,dQ8,List.map_nil,dX8,List.sum_nil];by_cases hn:n=i
  ·subst hn;have:=B5 n λj b=>he j (by omega);omega
  ·have:=cS3 (n:=n) (by omega) (λj b=>he j (by omega)) hl;have:=he n (by omega) hn;omega
def cB2{nx:List (List Int)}{b:List Int}{n:Nat}(f:b.length=n){a:Int}(c:H1 n a=true){k:Nat}(h:ai b a=k)(l:k<(C9 nx a).length):cr2 nx (b.set a.toNat (k+1:Nat)) n<cr2 nx b n:=by
 have g:=B3.1 c;refine cS3 (i:=a.toNat) (by omega) (λj o m=>?_) ?_
 ·have d:H1 n (j:Int)=true:=B3.2 ⟨by omega,by omega⟩;rw[bb2 f c d,if_neg (by omega)]
 ·have e:((a.toNat:Nat):Int)=a:=by omega
  rw[e,bb2 f c c,if_pos rfl,h];omega
def dM5:=@Bool.eq_false_or_eq_true
def Dj(u v:Value):Prop:=∀b,A3 u b->¬A3 v b
def Dj.symm{u v:Value}(h:Dj u v):Dj v u:=λb a c=>h b c a
def Dj.nil(u:Value):Dj u (.slice none 0 0):=λb _ h=>D1 h
section
variable {α:Type} [A4 α] {h:Hp} {w:World} {T:TypeId} {x y y' v:Value} {xs:List α}
def Dj.move(e:Dj x y)(f:A8 h w T x xs)(hm:F0 w y y'):Dj x y':=λb d a=>by
 rcases hm b a with c|c
 ·exact e b d c
 ·have:=f.lt d;omega
def Dj.fresh(e:A8 h w T x xs)(d:∀b,A3 y b->w.heap.size<=b):Dj x y:=λb c a=>by
 have:=e.lt c;have:=d b a;omega
def A8.apart{c:World}(f:A8 h w T x xs)(hm:o9 (A3 y) w c)(e:Dj x y):A8 h c T x xs:=f.mod hm λb d a=>e b d a
def dd6{v:Value}{k sz:Nat}(hS:isS v=true)(d:0<vcap v):∃a n c,v = .slice a n c/\reS v 0 k sz = .slice a k c:=by
 cases v<;>simp[Go.Proofs.YtfadjbljajfkfaaGreat.isS]at hS;rename_i a n c;refine⟨a,n,c,rfl,?_⟩;simp only[vcap]at d;have b:¬c=0:=by omega
 cases a<;>simp[reS,L7,b]
def A8.pre(y:A8 h w T v xs){k:Nat}(f:k<=xs.length)(r:0<xs.length):A8 h w T (reS v 0 k (A4.sz α)) (xs.take k)/\∀b,A3 (reS v 0 k (A4.sz α)) b↔A3 v b:=by
 rcases y with⟨rfl,rfl⟩|⟨b,c,d,rfl,s,t,D,u,x,l⟩
 ·simp at r
 ·obtain⟨a,n,A,e,q⟩:=dd6 (v:=.slice (some ⟨b,0,none⟩) xs.length c) (k:=k) (sz:=A4.sz α) rfl (by show 0<c;omega);cases e;rw[q];refine⟨.inr ⟨b,c,d,by rw[dN9,dT1 f],s,t,by rw[dN9];omega,u,x,?_⟩,λz=>by simp[A3,Value.ownBlock]⟩;rw[dN9,dT1 f];have o:xs=xs.take k++xs.drop k:=(dR8 k xs).symm;rw[o]at l;obtain⟨p,B,i,j,C⟩:=ad7 _ _ l;have g:=M2 j;rw[dN9,dT1 f]at g;rw[<-o]at i;have:d.toList.take (k*A4.sz α)=p:=by
   have m:=dO2 (List.take (k*A4.sz α)) i;rw[List.take_take,dT1 (dV6 _ f),<-g,dW1]at m;rw[<-g];exact m
  rw[this];exact j
end
def bX5{α:Type}(l:List α):l=[]\/∃s a,l=s++[a]:=by
 rcases List.eq_nil_or_concat l with h|⟨s,a,h⟩
 ·exact .inl h
 ·exact .inr ⟨s,a,by rw[h,List.concat_eq_append]⟩
def cy8(pg:Value)(nx pv:List (List Int))(w:World)(a7:GR (i4 w) pg nx pv)(hg:E6 nx.length nx)(cm:nx.length<=5000):
  p7 prog 303 #[pg] w λu B=>((∃r,A8 (i4 w) B 3 u r/\aT7 nx nx.length r)/\o7 w B):=by
 have bY:=a7;obtain⟨gb,vn,vp,rfl,h1,h2,h3,h4⟩:=a7;refine p9 [.pointer (some ⟨gb,0,none⟩)] func303 rfl ?_;have bO:=H7 (P:=prog) (t:=242) h1 (i5 _) V3;have bG:=h3.isS;have bQ:=h3.vlen;obtain⟨u0,w0,bP,be,aS,ci,_⟩:=mk (P:=prog) (w:=w) (h:=i4 w) bw9 T5 (α:=Bool) (y:=false) rfl (n:=nx.length) (by omega) (by omega) (i5 _);have a9:=H7 (P:=prog) (t:=242) h1 (b7 aS) V3;obtain⟨u1,w1,bd,bR,au,bL,_⟩:=mk (P:=prog) (w:=w0) (h:=i4 w) U2 aw5 (α:=Int) (y:=0) rfl (n:=nx.length) (by omega) (by omega) (b7 aS);have aM:=aS.trans au;have ba:=H7 (P:=prog) (t:=242) h1 (b7 aM) V3;have ab:Dj u0 u1:=Dj.fresh be bL;simp only[L4,O5,N7,simprocAttr,bO,bG,bQ,bP,a9,bd,ba];refine n9 [0,5,6,26] (σ:=List Int×List Bool×List Int×Nat) (λs f B=>f 27 = .int .i64 s.2.2.2/\s.2.2.2<=nx.length/\A8 (i4 w) B 3 (f 3) s.1/\A8 (i4 w) B 3 (f 4) ([]:List Int)/\A8 (i4 w) B 4 u0 s.2.1/\A8 (i4 w) B 3 u1 s.2.2.1 /\
   Dj (f 3) (f 4)/\Dj u0 (f 3)/\Dj u0 (f 4)/\Dj u1 (f 3)/\Dj u1 (f 4)/\o7 w B/\DI nx nx.length s.1 [] s.2.1 s.2.2.1/\∀r:Nat,r<s.2.2.2->A7 s.2.1 r=true)
  (λs=>nx.length-s.2.2.2) ([],List.replicate nx.length false,List.replicate nx.length 0,0) ?_ ?_
 ·simp only[p8,simprocAttr];exact⟨by trivial,dN6 _,A8.nil _ _ _,A8.nil _ _ _,be.ext au,bR,Dj.nil _,Dj.nil _,Dj.nil _,Dj.nil _,Dj.nil _,aM,DI.start rfl,λr hr=>by omega⟩
 ·rintro⟨aV,sn,aZ,r⟩ f w2 hk ⟨X,bT,F,i,o,m,z,p,j,C,q,hx,l,d⟩;simp only at X bT F i o m l d;simp only[dM6,p8,simprocAttr]at hk;obtain⟨e0,e5,e6,a0,_⟩:=hk;simp only[L4,B4,E5,simprocAttr,X,a0];refine n7 (λhc=>?_) (λhc=>?_)
  ·have cl:r<nx.length:=by simpa using hc
   have bi:H1 nx.length (r:Int)=true:=B3.2 ⟨by omega,by omega⟩;have aI:H1 sn.length (r:Int)=true:=by rw[l.slen];exact bi
   obtain⟨O,bh⟩:=N0 aI;simp only[dP0]at O bh;have ay:=o.inS O;have aC:=D3 (P:=prog) (t:=4) o (k:=r) (x:=A7 sn r) (by rw[bh];simp[List.getD,O]) am6;have cf:=o.isS;rcases dM5 (A7 sn r)with hbs|hbs
   case' inl=>
    have Z:(!A7 sn r)=false:=by rw[hbs];rfl
    simp only[L4,O5,unV,y0,I4.val,simprocAttr,X,e5,ay,aC,Z];refine n9 [0,5,6,26,27] (σ:=List Int×List Int×List Bool×List Int) (λs f B=>A8 (i4 w) B 3 (f 3) s.1/\A8 (i4 w) B 3 (f 4) s.2.1/\A8 (i4 w) B 4 u0 s.2.2.1/\A8 (i4 w) B 3 u1 s.2.2.2 /\
      Dj (f 3) (f 4)/\Dj u0 (f 3)/\Dj u0 (f 4)/\Dj u1 (f 3)/\Dj u1 (f 4)/\o7 w B/\DI nx nx.length s.1 s.2.1 s.2.2.1 s.2.2.2/\∀V:Nat,V<r+1->A7 s.2.2.1 V=true)
     (λs=>cr2 nx s.2.2.2 nx.length+(nx.length-s.1.length)) (aV,[],sn,aZ) ?_ ?_
    ·simp only[p8,simprocAttr];refine⟨F,i,o,m,z,p,j,C,q,hx,l,λV aR=>?_⟩;by_cases hrr:V=r
     ·subst hrr;exact hbs
     ·exact d V (by omega)
   case' inr=>
    have Z:(!A7 sn r)=true:=by rw[hbs];rfl
    obtain⟨w3,s1,s2,s3,s4⟩:=E4 (P:=prog) (t:=4) o rfl (k:=r) O (x:=.bool true) (y:=true) rfl rfl (z7 T5).choose_spec.1 (by rw[<-D9 (z7 T5).choose_spec.1];exact aE1);have L:=o.ext2 hx s3;have aF:=F.apart s3 p.symm;have aJ:=i.apart s3 j.symm;have aD:=m.apart s3 ab.symm;obtain⟨p1,u',w4,p2,p3,T,p5⟩:=push (e:=24) U2 rfl aJ (x:=.int .i64 r) (y:=(r:Int)) rfl (by simp) (by simp) (b7 L);simp only[Value.cells]at p1 p2;have av:=aJ.ext2 L T;simp only[L4,O5,unV,y0,I4.val,simprocAttr,X,e5,ay,aC,Z,s1,p1,p2];refine n9 [0,5,6,26,27] (σ:=List Int×List Int×List Bool×List Int) (λs f B=>A8 (i4 w) B 3 (f 3) s.1/\A8 (i4 w) B 3 (f 4) s.2.1/\A8 (i4 w) B 4 u0 s.2.2.1/\A8 (i4 w) B 3 u1 s.2.2.2 /\
      Dj (f 3) (f 4)/\Dj u0 (f 3)/\Dj u0 (f 4)/\Dj u1 (f 3)/\Dj u1 (f 4)/\o7 w B/\DI nx nx.length s.1 s.2.1 s.2.2.1 s.2.2.2/\∀V:Nat,V<r+1->A7 s.2.2.1 V=true)
     (λs=>cr2 nx s.2.2.2 nx.length+(nx.length-s.1.length)) (aV,[(r:Int)],sn.set r true,aZ) ?_ ?_
    ·simp only[p8,simprocAttr];have bk:∀c,A7 (sn.set r true) c=if c=(r:Int)then true else A7 sn c:=λc=>by
      have:=M6 (v:=true) (b:=c) aI;simpa only[dP0]using this
     refine⟨aF.apart T z,by simpa using p3,s2.apart T j,aD.apart T q,z.move aF p5,p,j.move s2 p5,C,q.move aD p5,av,?_,λV aR=>?_⟩
     ·have:=l.push bi hbs (λg hg=>by cases hg);simpa using this
     ·rw[bk];by_cases hrr:V=r
      ·subst hrr;simp
      ·rw[if_neg (by omega)];exact d V (by omega)
   all_goals
    rintro⟨S,bu,A,H⟩ f2 W a8 ⟨F,i,o,m,z,p,j,C,q,hx,l,d⟩;simp only at F i o m l d;simp only[dM6,p8,↓reduceIte,Nat.reduceEqDiff]at a8;obtain⟨g0,g5,g6,bE,a1,_⟩:=a8;rw[e0]at g0;rw[X]at a1;rw[e5]at g5;rw[e6]at g6;rw[a0]at bE;have Y:=i.isS;have N:=i.vlen;have a6:=l.count;simp only[L4,O5,B4,E5,N7,simprocAttr,Y,N];refine n7 (λar=>?_) (λar=>?_)
    ·rcases bX5 bu with rfl|⟨s,a,rfl⟩
     ·simp at ar
     rw[show(s++[a]).length=s.length+1 by simp]at N a6;have bn:IntKind.i64.wrap (((s.length+1:Nat):Int)-1)=(s.length:Int):=by rw[M3 _ (by omega)];omega
     have aP:=i.inS (k:=s.length) (by simp);have bb:=D3 (P:=prog) (t:=3) i (k:=s.length) (x:=a) (by simp) G3;have D:H1 nx.length a=true:=l.ok (.inr (by simp));have a4:=B3.1 D;have d0:decide (0<=a)=true:=by simpa using a4.1
     obtain⟨au,U⟩:=ao7 D;have bH:=l.atok a D;have ce:=m.isS;have M:=m.inS (k:=a.toNat) (by rw[l.alen];exact U);have bc:=D3 (P:=prog) (t:=3) m (k:=a.toNat) (x:=ai H a) (by simp[ai,List.getD,l.alen,U]) G3;obtain⟨k,I⟩:∃k:Nat,ai H a=k:=⟨(ai H a).toNat,by omega⟩;rw[I]at bc bH;have cj:k<=(C9 nx a).length:=by omega
     have ax:=h3.inS U;obtain⟨x,L,av⟩:=h3.row au;have br:=L.isS;have bs:=L.vlen;have b1:=hg.row_len (as8 D);simp only[L4,O5,B4,E5,y0,N7,I4.val,simprocAttr,Y,N,bn,aP,bb];refine C0 (λw2=>w2=W.drew) 12 (A5 [0,1,2,3,4,5,6,7,8,9,10,11]) ?_;have ak:=hx.trans (o7.drew W);have aQ:=D3 (P:=prog) (t:=3) (m.ext (o7.drew W)) (k:=a.toNat) (x:=(k:Int)) (by rw[<-I];simp[ai,List.getD,l.alen,U]) G3;simp only[D6,A5,L4,O5,y0,simprocAttr,g6,M,d0];refine⟨.int .i64 k,λw2 e=>by subst e;exact aQ,?_⟩;simp only[D6,L4,O5,simprocAttr,g0];refine⟨vn,λw2 e=>by subst e;exact H7 h1 (b7 ak) V3,?_⟩;simp only[D6,L4,O5,y0,simprocAttr,ax,d0];refine⟨x,λw2 e=>by subst e;exact H7 av (b7 ak) ad0,?_⟩;have ag:=F.ext (o7.drew W);have aj:=i.ext (o7.drew W);have ah:=o.ext (o7.drew W);have ae:=m.ext (o7.drew W);by_cases hke:k=(C9 nx a).length
     ·have ac:((k:Int)==((C9 nx a).length:Int))=true:=by simp[hke]
      obtain⟨p1,u',w6,p2,p3,T,p5⟩:=push (e:=24) U2 rfl ag (x:=.int .i64 a) (y:=a) rfl (by omega) (by omega) (b7 ak);simp only[Value.cells]at p1 p2;have bU:=i.vcap;simp only[dM7,dP7]at bU;have a5:decide ((s.length:Int)<=((vcap (f2 4):Nat):Int))=true:=by simp;omega
      simp only[D6,L4,O5,B4,E5,F8,N7,simprocAttr,br,bs,ac,p1,p2,Y,N,bn,a5];obtain⟨q1,q2⟩:=(aj.apart T z.symm).pre (k:=s.length) (by simp) (by simp);have bW:A8 (i4 w) w6 3 (reS (f2 4) 0 s.length 1) s:=by
       have h9:(s++[a]).take s.length=s:=dW1;rw[h9]at q1;exact q1
      have K:∀v:Value,Dj v (f2 4)->Dj v (reS (f2 4) 0 s.length 1):=λv hd b hb bJ=>hd b hb ((q2 b).1 bJ);refine⟨(S++[a],s,A,H),?_,p3,bW,ah.apart T p,ae.apart T C,(K _ (z.symm.move aj p5).symm),p.move ah p5,K _ j,C.move ae p5,K _ q,ag.ext2 ak T,l.pop (by rw[I,hke]),d⟩;simp only[dM7,dP7];omega
     ·have ac:((k:Int)==((C9 nx a).length:Int))=false:=by simp;omega
      have E:k<(C9 nx a).length:=by omega
      simp only[D6,L4,O5,B4,E5,N7,simprocAttr,br,bs,ac];refine C0 (λw2=>w2=W.drew.drew) 11 (A5 [0,1,2,3,4,5,6,7,8,9,10]) ?_;have Q:=ak.trans (o7.drew W.drew);have bf:=ag.ext (o7.drew W.drew);have bm:=aj.ext (o7.drew W.drew);have bg:=ah.ext (o7.drew W.drew);have af:=ae.ext (o7.drew W.drew);have J:=D3 (P:=prog) (t:=3) af (k:=a.toNat) (x:=(k:Int)) (by rw[<-I];simp[ai,List.getD,l.alen,U]) G3;simp only[D6,A5,L4,O5,simprocAttr,g0];refine⟨vn,λw2 e=>by subst e;exact H7 h1 (b7 Q) V3,?_⟩;simp only[D6,L4,O5,y0,simprocAttr,ax,d0];refine⟨x,λw2 e=>by subst e;exact H7 av (b7 Q) ad0,?_⟩;simp only[D6,L4,O5,y0,simprocAttr,g6,M,d0];refine⟨.int .i64 k,λw2 e=>by subst e;exact J,?_⟩;have az:=L.inS E;have ad:=M4 (P:=prog) (t:=3) L (b7 Q) (dM4 E) G3;have aT:(C9 nx a)[k]?=some (C9 nx a)[k]:=dM4 E;have am:(C9 nx a)[k]∈C9 nx a:=dN5 E;generalize(C9 nx a)[k]=y at ad aT am;have aU:H1 nx.length y=true:=hg.ok _ (as8 D) y am;have R:H1 A.length y=true:=by rw[l.slen];exact aU
      obtain⟨al,bV⟩:=N0 R;have dy:decide (0<=y)=true:=by simpa using(B3.1 aU).1
      have bo:IntKind.i64.wrap ((k:Int)+1)=((k+1:Nat):Int):=B0 k (by omega);obtain⟨w7,t1,t2,t3,t4⟩:=E4 (P:=prog) (t:=3) af rfl (k:=a.toNat) (by rw[l.alen];exact U) (x:=.int .i64 ((k+1:Nat):Int)) (y:=((k+1:Nat):Int)) rfl rfl (z7 aw5).choose_spec.1 (by rw[<-D9 (z7 aw5).choose_spec.1];exact aZ7);have bp:=af.ext2 Q t3;have aG:=bf.apart t3 C.symm;have aK:=bm.apart t3 q.symm;have G:=bg.apart t3 ab;have aA:=G.inS al;have aB:=D3 (P:=prog) (t:=4) G (k:=y.toNat) (x:=A7 A y) (by rw[bV];simp[List.getD,al]) am6;have ck:=cB2 (nx:=nx) l.alen D I E;have bj:A7 A a=true:=(l.mark a).2 (.inr (by simp));have b0:y∈C9 nx a:=am;rcases dM5 (A7 A y)with hby|hby
      ·have aa:(!A7 A y)=false:=by rw[hby];rfl
       simp only[D6,L4,O5,B4,E5,unV,y0,I4.val,simprocAttr,az,ad,g6,g5,M,d0,J,bo,t1,aA,dy,aB,aa];exact⟨(S,s++[a],A,H.set a.toNat ((k+1:Nat):Int)),by simp only[];omega,aG,aK,G,t2,z,p,j,C,q,bp,l.adv D I aT hby bj,d⟩
      ·have aa:(!A7 A y)=true:=by rw[hby];rfl
       obtain⟨w8,v1,v2,v3,v4⟩:=E4 (P:=prog) (t:=4) G rfl (k:=y.toNat) al (x:=.bool true) (y:=true) rfl rfl (z7 T5).choose_spec.1 (by rw[<-D9 (z7 T5).choose_spec.1];exact aE1);have bq:=G.ext2 bp v3;have aH:=aG.apart v3 p.symm;have aL:=aK.apart v3 j.symm;have aE:=t2.apart v3 ab.symm;obtain⟨p1,u',w9,p2,p3,T,p5⟩:=push (e:=24) U2 rfl aL (x:=.int .i64 y) (y:=y) rfl (by simp;omega) (by simp;omega) (b7 bq);simp only[Value.cells]at p1 p2;simp only[D6,L4,O5,B4,E5,unV,y0,I4.val,simprocAttr,az,ad,g6,g5,M,d0,J,bo,t1,aA,dy,aB,aa,v1,p1,p2];refine⟨(S,(s++[a])++[y],A.set y.toNat true,H.set a.toNat ((k+1:Nat):Int)),by simp only[];omega,aH.apart T z,p3,v2.apart T j,aE.apart T q,z.move aH p5,p,j.move v2 p5,C,q.move aE p5,aL.ext2 bq T,?_,λV aR=>?_⟩
       ·have bS:=l.push aU hby λg bN=>by
         rcases dN7.1 bN with h9|h9
         ·exact .step ((List.pairwise_append.1 l.path).2.2 g h9 a (by simp)) am
         ·simp at h9;subst h9;exact Y5.one am
        refine bS.adv D I aT ?_ (aN0 R bj);rw[M6 R,if_pos rfl]
       ·exact aN0 R (d V aR)
    ·have bl:bu=[]:=by
      simp at ar;exact ar
     subst bl;simp only[L4,B4,E5,simprocAttr,a1];refine⟨(S,A,H,r+1),by simp only[];omega,by simp only[];rw[B0 r (by omega)],by simp only[];omega,F,i,o,m,z,p,j,C,q,hx,l,d⟩
  ·have bM:r=nx.length:=by simp at hc;omega
   subst bM;simp only[L4,simprocAttr];refine o8 results303 ?_;simp only[p8,simprocAttr];refine⟨⟨aV,F,l.fin λb hb=>?_⟩,hx⟩;have cg:=B3.1 hb;have:=d b.toNat (by omega)
   rwa [show((b.toNat:Nat):Int)=b by omega]at this
def dV7:=@List.drop_zero
def aG3(nx:List (List Int))(b m:Int):Prop:=ao0 nx b m/\∀c,ao0 nx b c->m<=c
def aG3.uniq{nx:List (List Int)}{b m c:Int}(h:aG3 nx b m)(a:aG3 nx b c):m=c:=
 Int.le_antisymm (h.2 _ a.1) (a.2 _ h.1)
def cn0{n:Nat}{nx:List (List Int)}(e:E6 n nx){a b:Int}(h:Y5 nx a b)(c:H1 n a=true):H1 n b=true:=by
 cases h with
 | refl=>exact c
 | step _ d=>exact(e.row _).2 _ d
inductive bz2 (nx:List (List Int)):Int->Int->Prop
 | refl {a:Int}:bz2 nx a a
 | head {a b c:Int}:b∈C9 nx a->bz2 nx b c->bz2 nx a c
def bz2.snoc{nx:List (List Int)}{a b c:Int}(h:bz2 nx a b)(d:c∈C9 nx b):bz2 nx a c:=by
 induction h with
 | refl=>exact .head d .refl
 | head e _ f=>exact .head e (f d)
def Y5.toL{nx:List (List Int)}{a b:Int}(h:Y5 nx a b):bz2 nx a b:=by
 induction h with
 | refl=>exact .refl
 | step _ c d=>exact d.snoc c
def bz2.way{nx:List (List Int)}{a b:Int}(h:bz2 nx a b):Y5 nx a b:=by
 induction h with
 | refl=>exact .refl
 | head c _ d=>exact(Y5.one c).trans d
structure PI (nx:List (List Int)) (n:Nat) (order:List Int) (seen:List Bool) (part:List Int) (k:Nat):Prop where
 slen:seen.length=n
 plen:part.length=n
 mark:∀b,A7 seen b=true↔∃c∈order.drop k,ao0 nx c b
 part:∀b,A7 seen b=true->aG3 nx b (ai part b)
section
variable {nx pv:List (List Int)} {n:Nat} {order:List Int} {seen:List Bool} {part:List Int} {k:Nat}
def PI.start(c:aT7 nx n order):PI nx n order (List.replicate n false) (List.replicate n 0) n:=
 ⟨by simp,by simp,λb=>by simp[ax5,<-c.len],λb a=>by rw[ax5]at a;cases a⟩
def bK7{l:List Int}{k:Nat}{r:Int}(h:l[k]?=some r):l.drop k=r::l.drop (k+1):=by
 obtain⟨a,e⟩:=dM9.1 h;rw[dR1 a,e]
def PI.old(h:PI nx n order seen part (k+1)){r:Int}(i:order[k]?=some r)(j:A7 seen r=true):PI nx n order seen part k:=by
 refine⟨h.slen,h.plen,λb=>?_,h.part⟩;rw[h.mark,bK7 i];constructor
 ·rintro⟨c,a,e⟩;exact⟨c,dS2 _ a,e⟩
 ·rintro⟨c,a,e⟩;rcases dO6.1 a with rfl|a
  ·obtain⟨d,g,f⟩:=(h.mark c).1 j;exact⟨d,g,f.trans e⟩
  ·exact⟨c,a,e⟩
def PI.walk(h:PI nx n order seen part (k+1))(u:aT7 nx n order)(P:E6 n nx)(hb:∀a b,b∈C9 nx a↔a∈C9 pv b){r:Int}(Q:order[k]?=some r)(R:A7 seen r=false)(b:Int):
  Via pv (seen.set r.toNat true) [r] b↔ao0 nx r b:=by
 have G:r∈order:=dO4 Q;have F:=(u.mem r).1 G;have v:H1 seen.length r=true:=by rw[h.slen];exact F
 have i:∀c,A7 (seen.set r.toNat true) c=if c=r then true else A7 seen c:=λc=>M6 v;have d:order=order.take k++r::order.drop (k+1):=by rw[<-bK7 Q,dR8]
 have E:r∉order.take k:=by
  have:=u.nod;rw[d,dR0]at this;exact λT=>this.2.2 r T r (by simp) rfl
 constructor
 ·intro I
  induction I with
  | base O=>simp at O;subst O;exact .refl _
  | @step a b _ z g M=>
   have l:a∈C9 nx b:=(hb b a).2 z;have J:Y5 nx b r:=(Y5.one l).trans M.2;have t:b≠r:=by
    rintro rfl;rw[i,if_pos rfl]at g;cases g
   rw[i,if_neg t]at g;have o:H1 n b=true:=by
    cases hq:H1 n b with
    | true=>rfl
    | false=>
     rw[aY0 (by rw[P.len];exact hq)]at l;cases l
   have j:∀c∈order.drop (k+1),¬ao0 nx c b:=λc q f=>by
    rw[(h.mark b).2 ⟨c,q,f⟩]at g;cases g
   have p:=(u.mem b).2 o;rw[d]at p;have A:b∈order.take k:=by
    rcases dN7.1 p with e|e
    ·exact e
    ·rcases dO6.1 e with e|e
     ·exact absurd e t
     ·exact absurd (ao0.refl b) (j b e)
   obtain⟨c,q,f⟩:=u.cut k b A r E J;have C:H1 n c=true:=cn0 P f.2 o;have s:=(u.mem c).2 C;rw[d]at s;rcases dN7.1 s with e|e
   ·exact absurd e q
   ·rcases dO6.1 e with e|e
    ·subst e;exact f
    ·exact absurd f (j c e)
 ·rintro⟨e,S⟩;have N:∀x y,bz2 nx x y->y=r->Y5 nx r x->Via pv (seen.set r.toNat true) [r] x:=by
   intro x y K
   induction K with
   | refl=>rintro rfl _;exact .base (by simp)
   | @head x b y m B M=>
    rintro rfl w;by_cases hxr:x=y
    ·subst hxr;exact .base (by simp)
    ·have I:=M rfl (w.trans (Y5.one m));refine .step I ((hb x b).1 m) ?_;rw[i,if_neg hxr];rw[dX7];intro H;obtain⟨c,q,D⟩:=(h.mark x).1 H;have L:ao0 nx x y:=⟨(Y5.one m).trans B.way,w⟩;rw[(h.mark y).2 ⟨c,q,D.trans L⟩]at R;cases R
  exact N b r S.toL rfl e
def PI.new(h:PI nx n order seen part (k+1)){r:Int}(q:order[k]?=some r){a:List Bool}{d:List Int}{m:Int}(o:a.length=n)(j:d.length=n)
  (hm:∀b,A7 a b=true↔A7 seen b=true\/ao0 nx r b) (e:aG3 nx r m) (p:∀b,A7 a b=true->ai d b=if A7 seen b=true then ai part b else m):PI nx n order a d k:=by
 refine⟨o,j,λb=>?_,λb f=>?_⟩
 ·rw[hm,h.mark,bK7 q];constructor
  ·rintro(⟨c,g,f⟩|f)
   ·exact⟨c,dS2 _ g,f⟩
   ·exact⟨r,by simp,f⟩
  ·rintro⟨c,g,f⟩;rcases dO6.1 g with rfl|g
   ·exact .inr f
   ·exact .inl ⟨c,g,f⟩
 ·rw[p b f];split
  ·rename_i l;exact h.part b l
  ·rename_i l;rcases(hm b).1 f with i|i
   ·exact absurd i l
   ·exact⟨i.symm.trans e.1,λc g=>e.2 c (i.trans g)⟩
def PI.fin(h:PI nx n order seen part 0)(c:aT7 nx n order):part.length=n/\∀b,H1 n b=true->aG3 nx b (ai part b):=
 ⟨h.plen,λb a=>h.part b ((h.mark b).2 ⟨b,by rw[dV7];exact(c.mem b).2 a,.refl b⟩)⟩
def cz6(l:List Int):∀x:Int,l.foldl min x<=x/\(∀y∈l,l.foldl min x<=y)/\(l.foldl min x=x\/l.foldl min x∈l):=by
 induction l with
 | nil=>intro x;exact⟨Int.le_refl _,λy b=>absurd b dR2,.inl rfl⟩
 | cons z l d=>
  intro x;obtain⟨e,c,a⟩:=d (min x z);rw[List.foldl_cons];refine⟨by omega,λy b=>?_,?_⟩
  ·rcases dO6.1 b with rfl|b
   ·omega
   ·exact c y b
  ·rcases a with a|a
   ·rw[a];rcases Int.le_total x z with h|h
    ·exact .inl (Int.min_eq_left h)
    ·exact .inr (by rw[Int.min_eq_right h];simp)
   ·exact .inr (dS2 _ a)
end
def dq7(w:World):p7 prog 282 #[.pointer none] w λu a=>(u = .slice none 0 0/\a=w):=by
 refine p9 [.pointer none] func282 rfl ?_;simp only[L4,O5,B4,simprocAttr];exact o8 results282 ⟨rfl,by trivial⟩
def cw2(pg:Value)(nx pv:List (List Int))(w:World)(aR:GR (i4 w) pg nx pv)(au:aF9 nx.length (nx,pv))(bM:nx.length<=5000):
  p7 prog 282 #[pg] w λu H=>((∃p,A8 (i4 w) H 3 u p/\p.length=nx.length/\∀b,H1 nx.length b=true->aG3 nx b (ai p b))/\o7 w H):=by
 have aS:=aR;have hg:E6 nx.length nx:=au.nx;have av:E6 nx.length pv:=au.pv;have aQ:E6 pv.length pv:=by rw[av.len];exact av
 have aA:pv.length=nx.length:=av.len;obtain⟨gb,vn,vp,rfl,h1,h2,h3,h4⟩:=aR;refine p9 [.pointer (some ⟨gb,0,none⟩)] func282 rfl ?_;have bJ:=H7 (P:=prog) (t:=242) h1 (i5 _) V3;have bz:=h3.isS;have bN:=h3.vlen;obtain⟨u0,w0,bL,ay,aD,cn,_⟩:=mk (P:=prog) (w:=w) (h:=i4 w) U2 aw5 (α:=Int) (y:=0) rfl (n:=nx.length) (by omega) (by omega) (i5 _);have aY:=H7 (P:=prog) (t:=242) h1 (b7 aD) V3;obtain⟨u1,w1,a0,a3,aE,bD,_⟩:=mk (P:=prog) (w:=w0) (h:=i4 w) bw9 T5 (α:=Bool) (y:=false) rfl (n:=nx.length) (by omega) (by omega) (b7 aD);have R:=aD.trans aE;have I:Dj u0 u1:=Dj.fresh ay bD;simp only[L4,O5,B4,N7,simprocAttr,bJ,bz,bN,bL,aY,a0];refine y5 (cy8 _ nx pv w1 (aS.mono (b7 R)) hg bM) ?_;rintro u2 w2 ⟨⟨d,i,q⟩,aF⟩;have bf:=R.trans aF;have a4:=i.back R;have bw:=i.isS;have aX:=i.vlen;have bO:=q.len;rw[bO]at aX;have a2:∀b,A3 u2 b->w1.heap.size<=b:=λb g=>by
  have:=i.free g;simpa[i4]using this
 have aN:Dj u0 u2:=Dj.fresh (ay.ext aE) a2;have X:Dj u1 u2:=Dj.fresh a3 a2;have bR:IntKind.i64.wrap ((nx.length:Int)-1)=(nx.length:Int)-1:=M3 _ (by omega);simp only[L4,O5,B4,E5,N7,simprocAttr,bw,aX,bR];refine n9 [0,3,4,5] (σ:=List Bool×List Int×Nat) (λs f H=>f 6 = .int .i64 ((s.2.2:Int)-1)/\s.2.2<=nx.length/\A8 (i4 w) H 4 u1 s.1/\A8 (i4 w) H 3 u0 s.2.1/\A8 (i4 w) H 3 u2 d/\o7 w H/\PI nx nx.length d s.1 s.2.1 s.2.2)
  (λs=>s.2.2) (List.replicate nx.length false,List.replicate nx.length 0,nx.length) ?_ ?_
 ·simp only[p8,simprocAttr];exact⟨by trivial,dO0 _,a3.ext aF,(ay.ext aE).ext aF,a4,bf,PI.start q⟩
 ·rintro⟨V,pt,k⟩ f w3 hk ⟨h6,bH,v,T,i,hx,F⟩;simp only at h6 bH v T F;simp only[dM6,p8,simprocAttr]at hk;obtain⟨e0,e3,e4,e5,_⟩:=hk;simp only[L4,B4,E5,simprocAttr,h6];refine n7 (λhc=>?_) (λhc=>?_)
  ·obtain⟨k,rfl⟩:∃j,k=j+1:=⟨k-1,by simp at hc;omega⟩;have bG:((k+1:Nat):Int)-1=(k:Int):=by omega
   rw[bG]at h6;have K:k<d.length:=by omega
   have J:=i.inS K;have L:=D3 (P:=prog) (t:=3) i (dM4 K) G3;have z:d[k]?=some d[k]:=dM4 K;generalize d[k]=r at L z;have aB:H1 nx.length r=true:=(q.mem r).1 (dO4 z);have ah:H1 V.length r=true:=by rw[F.slen];exact aB
   obtain⟨O,bQ⟩:=N0 ah;have dr:decide (0<=r)=true:=by simpa using(B3.1 aB).1
   have Y:=v.inS O;have aa:=D3 (P:=prog) (t:=4) v (k:=r.toNat) (x:=A7 V r) (by rw[bQ];simp[List.getD,O]) am6;have cm:=v.isS;have ck:=i.isS;have be:IntKind.i64.wrap ((k:Int)-1)=(k:Int)-1:=M3 _ (by omega);rcases dM5 (A7 V r)with hbs|hbs
   ·simp only[L4,O5,B4,E5,y0,I4.val,simprocAttr,h6,e4,e5,J,L,Y,dr,aa,hbs,be];exact⟨(V,pt,k),by simp only[];omega,by trivial,by simp only[];omega,v,T,i,hx,F.old z hbs⟩
   ·obtain⟨S,s1,s2,s3,s4⟩:=E4 (P:=prog) (t:=4) v rfl (k:=r.toNat) O (x:=.bool true) (y:=true) rfl rfl (z7 T5).choose_spec.1 (by rw[<-D9 (z7 T5).choose_spec.1];exact aE1);have bT:=v.ext2 hx s3;have ad:=T.apart s3 I;have B:=i.apart s3 X.symm;have bK:=D3 (P:=prog) (t:=3) B z G3;simp only[L4,O5,y0,I4.val,simprocAttr,h6,e4,e5,J,L,Y,dr,aa,hbs,s1];refine C0 (λw2=>o7 S.drew w2) 10 (A5 [0,1,2,3,4,5,6,7,8,9]) ?_;have U:=bT.trans (o7.drew S);have a5:=B.ext (o7.drew S);simp only[D6,A5,L4,O5,simprocAttr,e0];refine⟨vp,λw2 e=>H7 h2 (b7 (U.trans e)) V3,?_⟩;simp only[D6,L4,O5,y0,simprocAttr,e4,e5,h6,J];refine⟨.int .i64 r,λw2 e=>D3 (a5.ext e) z G3,?_⟩;obtain⟨vt,w5,aZ,a9,G,aq⟩:=lit (P:=prog) (w:=S.drew) (h:=i4 w) (α:=Int) (xs:=[.int .i64 r]) (ys:=[r]) (parts:=#[(0,.int .i64 r)]) (n:=1) U2 rfl (G5.2 rfl) (by simp[Value.cells]) rfl rfl (by simp) (by simp) (b7 U);have af:=s2.ext ((o7.drew S).trans G);have aP:Dj u1 vt:=Dj.fresh (s2.ext (o7.drew S)) aq;have Q:∀c,A7 (V.set r.toNat true) c=if c=r then true else A7 V c:=λc=>M6 ah;simp only[D6,L4,simprocAttr,aZ,E8];refine⟨G,?_⟩;refine y5 (cc2 (i4 w) vp u1 vt pv (V.set r.toNat true) [r] w5 (b7 (U.trans G)) h4 aQ af a9 aP (by simp[F.slen,aA]) (λa ha=>by simp at ha;subst ha;rw[Q,if_pos rfl]) (by omega) (by simp)) ?_;rintro u3 w6 ⟨td,aG,C,a8,b3,ax,a1,M⟩;have bi:=U.trans G;have bd:∀b,A3 vt b->w.heap.size<=b:=λb g=>by
     have:=a9.free g;exact dZ9 λaw=>by simp[i4,aw]at this
    have bg:o7 w w6:=o9.ext_of bi ax λb g=>by
     rcases g with g|g
     ·have:=af.free g;exact dZ9 λaw=>by simp[i4,aw]at this
     ·exact bd b g
    have ae:=ad.ext ((o7.drew S).trans G);have az:=B.ext ((o7.drew S).trans G);have W:Dj u0 vt:=Dj.fresh (ad.ext (o7.drew S)) aq;have aO:Dj u2 vt:=Dj.fresh (B.ext (o7.drew S)) aq;have a7:=ae.mod ax λb g am=>am.elim (I b g) (W b g);have a6:=az.mod ax λb g am=>am.elim (λh=>X b h g) (aO b g);have ap:Dj u0 u3:=W.move ae a1;have aC:=F.walk q hg au.both z hbs;have A:∀b,b∈td↔ao0 nx r b:=λb=>by rw[M.via,aC]
    have ba:r∈td:=(A r).2 (.refl r);have bc:=M.size;simp only[dP7,dU0]at bc;have co:=F.slen;obtain⟨x,l,rfl⟩:∃x l,td=x::l:=by
     cases td with
     | nil=>cases ba
     | cons x l=>exact⟨x,l,rfl⟩
    simp only[dP4]at bc;simp only[L4,simprocAttr];refine y5 (dc2 u3 x l w6 (C.rw_ (b7 bg)) (by omega)) ?_;rintro u4 w7 ⟨rfl,rfl⟩;obtain⟨bj,bk,bl⟩:=cz6 l x;generalize l.foldl min x=m at bj bk bl;have bx:=C.isS;have bI:=C.vlen;simp only[L4,O5,N7,simprocAttr,bx,bI];refine n9 [0,3,4,5,6,8,60,61] (σ:=List Int×Nat) (λs f H=>f 62 = .int .i64 s.2/\s.2<=(x::l).length/\A8 (i4 w) H 3 u0 s.1/\A8 (i4 w) H 4 u1 aG/\A8 (i4 w) H 3 u2 d/\A8 (i4 w) H 3 u3 (x::l)/\o7 w H/\s.1.length=nx.length /\
      ∀b,H1 nx.length b=true->ai s.1 b=if b∈(x::l).take s.2 then m else ai pt b)
     (λs=>(x::l).length-s.2) (pt,0) ?_ ?_
    ·simp only[p8,simprocAttr];exact⟨by trivial,dN6 _,a7,a8,a6,C,bg,F.plen,λb _=>by simp⟩
    ·rintro⟨bm,j⟩ f2 w8 aW ⟨al,bF,o,ag,ac,N,bh,D,E⟩;simp only at al bF o D E;simp only[dM6,p8,↓reduceIte,Nat.reduceEqDiff]at aW;obtain⟨g0,g3,g4,g5,g6,g8,bu,bv,_⟩:=aW;rw[e0]at g0;rw[e3]at g3;rw[e4]at g4;rw[e5]at g5;rw[h6]at g6;simp only[L4,B4,E5,simprocAttr,al,bv];refine n7 (λao=>?_) (λao=>?_)
     ·have hj:j<(x::l).length:=by simp only[dQ3]at ao;omega
      have aT:=N.inS hj;have Z:=D3 (P:=prog) (t:=3) N (dM4 hj) G3;have bb:=dN3 hj;have aM:(x::l)[j]∈(x::l):=dN5 hj;generalize(x::l)[j]=a at Z bb aM;have aK:H1 nx.length a=true:=cn0 hg ((A a).1 aM).1 aB;have aL:=B3.1 aK;have da:decide (0<=a)=true:=by simpa using aL.1
      have cl:=o.isS;have aU:=o.inS (k:=a.toNat) (by omega);obtain⟨w9,t1,t2,t3,t4⟩:=E4 (P:=prog) (t:=3) o rfl (k:=a.toNat) (by omega) (x:=.int .i64 m) (y:=m) rfl rfl (z7 aw5).choose_spec.1 (by rw[<-D9 (z7 aw5).choose_spec.1];exact aZ7);simp only[L4,O5,B4,E5,y0,I4.val,simprocAttr,al,bu,g3,g8,aT,Z,aU,da,t1];refine⟨(bm.set a.toNat m,j+1),by simp only[];omega,by simp only[];rw[B0 j (by simp at hj;omega)],by simp only[];omega,t2,ag.apart t3 I.symm,ac.apart t3 aN.symm,N.apart t3 ap.symm,o.ext2 bh t3,by simp[D],λb g=>?_⟩;simp only[];rw[bb2 D aK g,bb];by_cases hba:b=a
      ·subst hba;simp
      ·rw[if_neg hba,E b g];simp[hba]
     ·have ar:j=(x::l).length:=by
       simp only[dY8]at ao;omega
      subst ar;rw[dN8]at E;simp only[L4,B4,E5,simprocAttr,g6,be];have ab:∀b,A7 aG b=true↔A7 V b=true\/ao0 nx r b:=λb=>by
       rw[M.mark,Q,A];by_cases hbr:b=r
       ·subst hbr;simp[ao0.refl]
       ·simp[hbr]
      refine⟨(aG,bm,k),by simp only[];omega,by trivial,by simp only[];omega,ag,o,ac,bh,F.new z (by rw[M.len];simp[F.slen]) D ab (m:=m) ⟨(A m).1 ?_,λc hc=>?_⟩ λb g=>?_⟩
      ·rcases bl with h|h
       ·rw[h];simp
       ·exact dS2 _ h
      ·rcases dO6.1 ((A c).2 hc)with h|h
       ·rw[h];exact bj
       ·exact bk c h
      ·have bA:H1 nx.length b=true:=by
        have:=Y6 g;rw[M.len]at this;simpa[F.slen]using this
       rw[E b bA];by_cases hsb:A7 V b=true
       ·rw[if_pos hsb,if_neg];intro bB;have bP:=(A b).1 bB;obtain⟨c,hc,bC⟩:=(F.mark b).1 hsb;rw[(F.mark r).2 ⟨c,hc,bC.trans bP.symm⟩]at hbs;cases hbs
       ·rw[if_neg hsb,if_pos];rcases(ab b).1 g with h|h
        ·exact absurd h hsb
        ·exact(A b).2 h
  ·have ar:k=0:=by simp at hc;omega
   subst ar;simp only[L4,O5,simprocAttr];refine o8 results282 ?_;simp only[p8,simprocAttr];obtain⟨q1,q2⟩:=F.fin q;rw[e3];exact⟨⟨pt,T,q1,q2⟩,hx⟩
def bz3(n:Int)(e:Int×Int):Bool:=decide (e.1<0)||decide (e.1≥n)||decide (e.2<0)||decide (e.2≥n)
def cd7{n:Nat}{e:Int×Int}:bz3 n e=false↔bf8 n e:=by
 simp[bz3,bf8];omega
def be0{P:Program}{t:TypeId}(a:I7 P t=false)(b:(P.underlying t).isSome=true){cs:Array Value}{i:Nat}{v:Value}(h:cs[i]?=some v)(w:World):(part t cs i).run P w = .ok v w:=by
 unfold part;simp only[dO9,aa4 t b,dO1,a,dS7,dU1,h,dQ4]
def cw9(m x y:Int):(decide (x<0)=true/\bz3 m (x,y)=true)\/(decide (x<0)=false/\decide (x≥m)=true/\bz3 m (x,y)=true) \/
  (decide (x<0)=false/\decide (x≥m)=false/\decide (y<0)=true/\bz3 m (x,y)=true)\/(decide (x<0)=false/\decide (x≥m)=false/\decide (y<0)=false/\decide (y≥m)=true/\bz3 m (x,y)=true) \/
  (decide (x<0)=false/\decide (x≥m)=false/\decide (y<0)=false/\decide (y≥m)=false/\bz3 m (x,y)=false):=by
 unfold bz3;cases decide (x<0)<;>cases decide (x≥m)<;>cases decide (y<0)<;>cases decide (y≥m)<;>simp
def au8(d:Nat)(xs ys:Array Value):List (Bool×TypeId×Nat)->Sem Bool
 | []=>pure true
 | (b,t,o)::l=>if b=true then do
   let x <-part t xs o
   let y <-part t ys o
   let r <-Op.equalIn d t x y
   if(!r)=true then pure false else au8 d xs ys l
  else au8 d xs ys l
def au7(d:Nat)(xs ys:Array Value):∀fs:List Field,Op.eqFields d xs ys fs=au8 d xs ys (fs.map λf=>(decide (f.name ≠ "_"),f.type,f.offset))
 | []=>rfl
 | f::fs=>by
  rw[Op.eqFields,dQ8,au8,au7 d xs ys fs];by_cases h:f.name = "_" <;> simp[h]
def S1{P:Program}{d:Nat}{xs ys:Array Value}{t o:Nat}{l:List (Bool×TypeId×Nat)}{a b:Value}{r c:Bool}(w:World)(g:(part t xs o).run P w = .ok a w)(h:(part t ys o).run P w = .ok b w)(f:(Op.equalIn d t a b).run P w = .ok r w)(e:(au8 d xs ys l).run P w = .ok c w):
  (au8 d xs ys ((true,t,o)::l)).run P w = .ok (r&&c) w:=by
 rw[au8,if_pos rfl];simp only[dO9,g,h,f,dO1];cases r
 ·simp
 ·simpa using e
theorem aH7{P:Program}{d:Nat}{xs ys:Array Value}(w:World):(au8 d xs ys []).run P w = .ok true w:=rfl
def bq7(w:World)(d:Nat)(a b:A6):(Op.equalIn (d+1) 9 (p6 a) (p6 b)).run prog w = .ok (decide (a=b)) w:=by
 have:=run_equalIn_string (P:=prog) w d 9 ⟨a.b.toArray⟩ ⟨b.b.toArray⟩ Tryz.underlying9;rw[aq4,aq4,bn5]at this;exact this
def aH6(w:World)(d:Nat)(a b:Int):(Op.equalIn (d+1) 3 (.int .i64 a) (.int .i64 b)).run prog w = .ok (decide (a=b)) w:=by
 have:=run_equalIn_int (P:=prog) w d 3 .i64 .i64 a b Tryz.underlying3;rw[this];congr 1
theorem cy9(w:World)(d:Nat)(a b:Bool):(Op.equalIn (d+1) 4 (.bool a) (.bool b)).run prog w = .ok (decide (a=b)) w:=by
 have:=run_equalIn_bool' (P:=prog) w d 4 a b Tryz.underlying4;rw[this];cases a<;>cases b<;>rfl
def am4(cs:Array Value)(i:Nat)(v:Value)(h:cs[i]?=some v)(w:World):(part 9 cs i).run prog w = .ok v w:=be0 (P:=prog) (t:=9) V4 (by kernel_rfl) h w
def ac6(cs:Array Value)(i:Nat)(v:Value)(h:cs[i]?=some v)(w:World):(part 3 cs i).run prog w = .ok v w:=be0 (P:=prog) (t:=3) G3 (by kernel_rfl) h w
def bG0(cs:Array Value)(i:Nat)(v:Value)(h:cs[i]?=some v)(w:World):(part 4 cs i).run prog w = .ok v w:=be0 (P:=prog) (t:=4) am6 (by kernel_rfl) h w
def da7(w:World)(d:Nat)(p q:Pa):(Op.equalIn (d+2) 78 (.agg p.cells.toArray) (.agg q.cells.toArray)).run prog w = .ok (decide (p=q)) w:=by
 rw[run_equalIn_struct (P:=prog) w (d+1) 78 _ _ (by kernel_rfl) (by kernel_rfl),au7];have hf:(prog.fieldsOf 78).toList.map (λf=>(decide (f.name ≠ "_"),f.type,f.offset))=[(true,9,0),(true,4,1)]:=by kernel_rfl
 rw[hf,S1 w (am4 _ _ _ rfl w) (am4 _ _ _ rfl w) (bq7 w d _ _) (S1 w (bG0 _ _ _ rfl w) (bG0 _ _ _ rfl w) (cy9 w d _ _) (aH7 w))]
 congr 1
 cases p;cases q;simp[Pa.mk.injEq,Bool.decide_and]
def aU5(w:World)(d:Nat)(p q:Vx):(Op.equalIn (d+2) 26 (.agg p.cells.toArray) (.agg q.cells.toArray)).run prog w = .ok (decide (p=q)) w:=by
 rw[run_equalIn_struct (P:=prog) w (d+1) 26 _ _ (by kernel_rfl) (by kernel_rfl),au7];have hf:(prog.fieldsOf 26).toList.map (λf=>(decide (f.name ≠ "_"),f.type,f.offset))=[(true,9,0),(true,3,1),(true,3,2),(true,9,3)]:=by kernel_rfl
 rw[hf,S1 w (am4 _ _ _ rfl w) (am4 _ _ _ rfl w) (bq7 w d _ _) (S1 w (ac6 _ _ _ rfl w) (ac6 _ _ _ rfl w) (aH6 w d _ _) (S1 w (ac6 _ _ _ rfl w) (ac6 _ _ _ rfl w) (aH6 w d _ _) (S1 w (am4 _ _ _ rfl w) (am4 _ _ _ rfl w) (bq7 w d _ _) (aH7 w))))]
 congr 1
 cases p;cases q;simp[Vx.mk.injEq,Bool.decide_and]
theorem bn3(cs:Array Value)(i:Nat)(v:Vx)(h:(cs.extract i (i+4))=v.cells.toArray)(w:World):(part 26 cs i).run prog w = .ok (.agg v.cells.toArray) w:=by
 refine bv9 (P:=prog) ?_ w;unfold bY5;rw[if_pos at6,an8,at9,O9,h];rfl
def cq2(w:World)(d:Nat)(p q:Eg):(Op.equalIn (d+3) 67 (.agg p.cells.toArray) (.agg q.cells.toArray)).run prog w = .ok (decide (p=q)) w:=by
 rw[run_equalIn_struct (P:=prog) w (d+2) 67 _ _ (by kernel_rfl) (by kernel_rfl),au7];have hf:(prog.fieldsOf 67).toList.map (λf=>(decide (f.name ≠ "_"),f.type,f.offset))=[(true,26,0),(true,26,4),(true,3,8)]:=by kernel_rfl
 have e0:∀p:Eg,p.cells.toArray.extract 0 (0+4)=p.src.cells.toArray:=λp=>rfl;have e4:∀p:Eg,p.cells.toArray.extract 4 (4+4)=p.dst.cells.toArray:=λp=>rfl;rw[hf,S1 w (bn3 _ _ _ (e0 p) w) (bn3 _ _ _ (e0 q) w) (aU5 w d _ _) (S1 w (bn3 _ _ _ (e4 p) w) (bn3 _ _ _ (e4 q) w) (aU5 w d _ _) (S1 w (ac6 _ _ _ rfl w) (ac6 _ _ _ rfl w) (aH6 w (d+1) _ _) (aH7 w)))]
 congr 1
 cases p;cases q;simp[Eg.mk.injEq,Bool.decide_and]
def dl9(w:World)(x y:Operand)(p q:Pa):(do eqGuard .eql 78 x y (.agg p.cells.toArray) (.agg q.cells.toArray);binOp .eql 78 (.agg p.cells.toArray) (.agg q.cells.toArray):Sem Value).run prog w = .ok (.bool (decide (p=q))) w:=by
 have b:=run_eqGuard_agg (P:=prog) w .eql 78 x y p.cells.toArray q.cells.toArray (by kernel_rfl);have a:=run_eql_struct (P:=prog) w 78 p.cells.toArray q.cells.toArray;simp only[dO9,b,dO1,a,da7 w 9998 p q]
def cK6(w:World)(x y:Operand)(p q:Vx):(do eqGuard .eql 26 x y (.agg p.cells.toArray) (.agg q.cells.toArray);binOp .eql 26 (.agg p.cells.toArray) (.agg q.cells.toArray):Sem Value).run prog w = .ok (.bool (decide (p=q))) w:=by
 have b:=run_eqGuard_agg (P:=prog) w .eql 26 x y p.cells.toArray q.cells.toArray (by kernel_rfl);have a:=run_eql_struct (P:=prog) w 26 p.cells.toArray q.cells.toArray;simp only[dO9,b,dO1,a,aU5 w 9998 p q]
def dn5(w:World)(x y:Operand)(p q:Vx):(do eqGuard .neq 26 x y (.agg p.cells.toArray) (.agg q.cells.toArray);binOp .neq 26 (.agg p.cells.toArray) (.agg q.cells.toArray):Sem Value).run prog w = .ok (.bool (!decide (p=q))) w:=by
 have b:=run_eqGuard_agg (P:=prog) w .neq 26 x y p.cells.toArray q.cells.toArray (by kernel_rfl);have a:=run_neq_struct (P:=prog) w 26 p.cells.toArray q.cells.toArray;simp only[dO9,b,dO1,a,aU5 w 9998 p q]
def dl8(w:World)(x y:Operand)(p q:Eg):(do eqGuard .eql 67 x y (.agg p.cells.toArray) (.agg q.cells.toArray);binOp .eql 67 (.agg p.cells.toArray) (.agg q.cells.toArray):Sem Value).run prog w = .ok (.bool (decide (p=q))) w:=by
 have b:=run_eqGuard_agg (P:=prog) w .eql 67 x y p.cells.toArray q.cells.toArray (by kernel_rfl);have a:=run_eql_struct (P:=prog) w 67 p.cells.toArray q.cells.toArray;simp only[dO9,b,dO1,a,cq2 w 9997 p q]
def dn4(w:World)(x y:Operand)(p q:Eg):(do eqGuard .neq 67 x y (.agg p.cells.toArray) (.agg q.cells.toArray);binOp .neq 67 (.agg p.cells.toArray) (.agg q.cells.toArray):Sem Value).run prog w = .ok (.bool (!decide (p=q))) w:=by
 have b:=run_eqGuard_agg (P:=prog) w .neq 67 x y p.cells.toArray q.cells.toArray (by kernel_rfl);have a:=run_neq_struct (P:=prog) w 67 p.cells.toArray q.cells.toArray;simp only[dO9,b,dO1,a,cq2 w 9997 p q]
structure cd2 (P:Program) (k:TypeId) {α:Type} [DecidableEq α] (enc:α->Value):Prop where
 chk:∀(em:Bool) (a:α) (w:World),(Instr.checkKey em 10000 k (enc a)).run P w = .ok () w
 find:∀(a:α) (l:List MapEntry) (w:World),(Instr.findKey k (enc a) l).run P w=(Instr.findAsking k (enc a) l).run P w
 eq:∀(a b:α) (w:World),(Op.equal k (enc a) (enc b)).run P w = .ok (decide (a=b)) w
def ai3{α:Type}[DecidableEq α](kv:List (α×Value))(k:α):Option Value:=(kv.find? λp=>decide (k=p.1)).map (·.2)
def aq9{α:Type}(enc:α->Value)(w:World)(r:Nat)(kv:List (α×Value)):Prop:=∃b a,w.heap[r]?=some (.map b a)/\b.toList.map (λe=>(e.key,e.val))=kv.map (λp=>(enc p.1,p.2))
section
variable {P:Program} {w:World} {t k e:TypeId} {r:Nat} {α:Type} [DecidableEq α] {enc:α->Value} {kv:List (α×Value)}
def aq9.lt(hm:aq9 enc w r kv):r<w.heap.size:=by
 obtain⟨a,c,h,_⟩:=hm;exact(dN0.1 h).1
def aq9.mod{M:Nat->Prop}{b:World}(hm:aq9 enc w r kv)(h:o9 M w b)(g:¬M r):aq9 enc b r kv:=by
 have a:=hm.lt;obtain⟨d,c,e,f⟩:=hm;exact⟨d,c,(h.block r a g).trans e,f⟩
def aq9.new(w:World)(t:TypeId):(Instr.makeMap t none).run P w = .ok (.map (some w.heap.size)) (w.alloc (.map #[] 0))/\aq9 enc (w.alloc (.map #[] 0)) w.heap.size ([]:List (α×Value))/\o7 w (w.alloc (.map #[] 0)):=by
 refine⟨?_,⟨#[],0,dQ5 w _,rfl⟩,o7.alloc _ _⟩;unfold Instr.makeMap;rfl
def dg6(K:cd2 P k enc)(a:α):∀(l:List MapEntry) (kv:List (α×Value)) (i:Nat),l.map (λe=>(e.key,e.val))=kv.map (λp=>(enc p.1,p.2)) ->
  ∃o:Option (Nat×Value),(Instr.findAsking k (enc a) l i).run P w = .ok o w/\o.map (·.2)=ai3 kv a
 | [],kv,i,h=>by
  have:kv=[]:=by simpa using h.symm
  subst this;exact⟨none,rfl,rfl⟩
 | e::l,[],i,h=>by simp at h
 | e::l,p::kv,i,h=>by
  obtain⟨f,m⟩:=p;obtain⟨j,ev,g⟩:=e;simp only[dQ8,dZ3,Prod.mk.injEq]at h;obtain⟨⟨rfl,rfl⟩,b⟩:=h;unfold Instr.findAsking ai3;simp only[dO9,K.eq,dO1,List.find?_cons];by_cases hp:a=f
  ·subst hp;exact⟨some (i,ev),by simp,by simp⟩
  ·obtain⟨o,c,d⟩:=dg6 K a l kv (i+1) b;exact⟨o,by simp[hp,c],by simp only[hp,decide_false];exact d⟩
def aq9.found(K:cd2 P k enc)(a:α){b:List MapEntry}(h:b.map (λe=>(e.key,e.val))=kv.map (λp=>(enc p.1,p.2))):
  ∃o:Option (Nat×Value),(Instr.findKey k (enc a) b).run P w = .ok o w/\o.map (·.2)=ai3 kv a:=by
 rw[K.find];exact dg6 K a b kv 0 h
theorem aq9.lookup(hm:aq9 enc w r kv)(K:cd2 P k enc)(m:P.underlying t=some (.map k e)){z:Value}(n:G8 P e=some z)(a:α):
  (Instr.lookup t (.map (some r)) (enc a) false).run P w = .ok ((ai3 kv a).getD z) w:=by
 obtain⟨p,c,f,g⟩:=hm;obtain⟨i,j,b⟩:=z7 n;have d:(zeroValue e).run P w = .ok z w:=by
  unfold zeroValue;simp[M5,j,b]
 obtain⟨o,h,l⟩:=aq9.found (w:=w) K a g;unfold Instr.lookup;simp only[dO9,run_underlying m,dO1,MapKept.run_getObj_map f,dQ4,K.chk,h];rw[<-l];cases o with
 | none=>simp only[dO9,d,dO1,dQ4];rfl
 | some x=>rfl
theorem aq9.lookupOk(hm:aq9 enc w r kv)(K:cd2 P k enc)(m:P.underlying t=some (.map k e)){z:Value}(n:G8 P e=some z)(a:α):
  (Instr.lookup t (.map (some r)) (enc a) true).run P w = .ok (.tuple #[(ai3 kv a).getD z,.bool (ai3 kv a).isSome]) w:=by
 obtain⟨p,c,f,g⟩:=hm;obtain⟨i,j,b⟩:=z7 n;have d:(zeroValue e).run P w = .ok z w:=by
  unfold zeroValue;simp[M5,j,b]
 obtain⟨o,h,l⟩:=aq9.found (w:=w) K a g;unfold Instr.lookup;simp only[dO9,run_underlying m,dO1,MapKept.run_getObj_map f,dQ4,K.chk,h];rw[<-l];cases o with
 | none=>simp only[dO9,d,dO1,dQ4];rfl
 | some x=>rfl
theorem aq9.push(hm:aq9 enc w r kv)(K:cd2 P k enc)(n:P.underlying t=some (.map k e)){a:α}(l:ai3 kv a=none)(v:Value):
  ∃g,(Instr.mapUpdate t (.map (some r)) (enc a) v).run P w = .ok () g/\aq9 enc g r (kv++[(a,v)])/\o9 (λb=>b=r) w g:=by
 obtain⟨h,c,d,i⟩:=hm;have f:=(dN0.1 d).1;obtain⟨o,m,j⟩:=aq9.found (w:=w) K a i;rw[l]at j;cases o with
 | some x=>cases j
 | none=>
  refine⟨{w with heap:=w.heap.setIfInBounds r (.map (h.push ⟨enc a,v,c⟩) (c+1))},?_,⟨h.push ⟨enc a,v,c⟩,c+1,by simp[f],?_⟩,bn4 w r _⟩
  ·unfold Instr.mapUpdate;simp only[dO9,run_underlying n,dO1,MapKept.run_getObj_map d,K.chk,m];exact MapKept.run_setObj_map _ d
  ·rw[Array.toList_push,dP6,dP6,i];rfl
end
def ce4{P:Program}{t:TypeId}{fs:Array Field}(hu:P.underlying t=some (.struct fs))(em:Bool)(n:Nat)(cs:Array Value)(w:World)
  (h:∀x∈fs.toList.map λf=>(f.type,f.offset),∃v,(part x.1 cs x.2).run P w = .ok v w/\(Instr.checkKey em n x.1 v).run P w = .ok () w) :
  (Instr.checkKey em (n+1) t (.agg cs)).run P w = .ok () w:=by
 rw[Instr.checkKey];simp only[dO9,run_underlying hu,dO1];rw[<-Array.forIn_toList];generalize fs.toList=L at h
 induction L with
 | nil=>simp
 | cons f L ih=>
  obtain⟨v,p1,p2⟩:=h (f.type,f.offset) (by simp);have ih':=ih λx hx=>h x (by rw[dQ8];exact dS2 _ hx);rw[List.forIn_cons];by_cases hn:f.name = "_"
  ·simp only[hn,ne_eq,not_true_eq_false,dU1,dO9,dQ4,dO1];exact ih'
  ·simp only[hn,ne_eq,not_false_eq_true,dS6,dO9,p1,p2,dQ4,dO1];exact ih'
def ap7{t:TypeId}{v:Value}{d:TypeDesc}(b:prog.underlying t=some d)(c:MapKept.IsKey d v)(a:Bool)(n:Nat)(w:World):(Instr.checkKey a (n+1) t v).run prog w = .ok () w:=MapKept.run_checkKey b c a n
def Vx.enc(v:Vx):Value:=.agg v.cells.toArray
def dm4:cd2 prog 26 Vx.enc where
 chk em a w:=by
  refine ce4 (P:=prog) (fs:=prog.fieldsOf 26) (by kernel_rfl) em 9999 _ w ?_;have d:(prog.fieldsOf 26).toList.map (λf=>(f.type,f.offset))=[(9,0),(3,1),(3,2),(9,3)]:=by kernel_rfl
  rw[d];intro x c;simp only[dO6,dR2,dX1]at c;rcases c with rfl|rfl|rfl|rfl
  ·exact⟨p6 a.proc,am4 _ _ _ rfl w,ap7 Tryz.underlying9 (show MapKept.IsKey .string (p6 _)from trivial) em _ w⟩
  ·exact⟨.int .i64 a.kind,ac6 _ _ _ rfl w,ap7 Tryz.underlying3 (show MapKept.IsKey (.int .i64) (.int .i64 _)from rfl) em _ w⟩
  ·exact⟨.int .i64 a.id,ac6 _ _ _ rfl w,ap7 Tryz.underlying3 (show MapKept.IsKey (.int .i64) (.int .i64 _)from rfl) em _ w⟩
  ·exact⟨p6 a.slot,am4 _ _ _ rfl w,ap7 Tryz.underlying9 (show MapKept.IsKey .string (p6 _)from trivial) em _ w⟩
 find a l w:=run_findKey_eq (P:=prog) (w:=w) (by kernel_rfl) _ _
 eq a b w:=aU5 w 9998 a b
def cf2(p:Int×Int):Value:=.agg #[.int .i64 p.1,.int .i64 p.2]
def ca4(w:World):(sizeOf 3).run prog w = .ok 1 w:=Tryz.sizeOf3 w
def cs9(a b:Value)(w:World):(part 3 #[a,b] 0).run prog w = .ok a w:=ac6 _ _ _ rfl w
def ct0(a b:Value)(w:World):(part 3 #[a,b] 1).run prog w = .ok b w:=ac6 _ _ _ rfl w
def dv3:cd2 prog 205 cf2 where
 chk em a w:=by
  rw[show(10000:Nat)=9999+1 from rfl,cf2,Instr.checkKey];simp only[dO9,run_underlying Tryz.underlying205,dO1];simp only[Std.Legacy.Range.forIn_eq_forIn_range',Std.Legacy.Range.size,Nat.sub_zero,Nat.add_sub_cancel,Nat.div_one,List.range'_succ,List.range'_zero,List.forIn_cons,List.forIn_nil];simp only[dO9,ca4,dO1,cs9,ct0,Nat.zero_mul,dT8,dQ2,ap7 (v:=.int .i64 a.1) Tryz.underlying3 (show MapKept.IsKey (.int .i64) (.int .i64 _)from rfl) em _ w,ap7 (v:=.int .i64 a.2) Tryz.underlying3 (show MapKept.IsKey (.int .i64) (.int .i64 _)from rfl) em _ w,dQ4]
 find a l w:=run_findKey_eq (P:=prog) (w:=w) (by kernel_rfl) _ _
 eq a b w:=by
  obtain⟨c,d⟩:=a;obtain⟨e,f⟩:=b;unfold Op.equal;rw[show Op.maxDepth=9999+1 from rfl,cf2,cf2,Op.equalIn];simp only[dO9,run_underlying Tryz.underlying205,dO1];simp only[Std.Legacy.Range.forIn_eq_forIn_range',Std.Legacy.Range.size,Nat.sub_zero,Nat.add_sub_cancel,Nat.div_one,List.range'_succ,List.range'_zero,List.forIn_cons,List.forIn_nil];simp only[dO9,ca4,dO1,cs9,Nat.zero_mul,dT8,dQ2,aH6 w 9998];by_cases h1:c=e<;>by_cases h2:d=f<;>simp[h1,h2,ct0,aH6 w 9998]
def bs0(h:Hp)(w a:World):Hp:=λb=>if b<w.heap.size then h b else a.heap[b]?
section
variable {h:Hp} {w w':World}
def cM5{b:Nat}(hb:w.heap.size<=b):bs0 h w w' b=w'.heap[b]?:=by unfold bs0;rw[if_neg (by omega)]
def bD6(c:B5 h (i4 w)):B5 h (bs0 h w w'):=λb o e=>by
 have a:b<w.heap.size:=(dN0.1 (show w.heap[b]?=some o from c b o e)).1;unfold bs0;rw[if_pos a];exact e
def db1(a:B5 h (i4 w))(c:o7 w w'):B5 (bs0 h w w') (i4 w'):=λb o e=>by
 unfold bs0 at e;split at e
 ·exact b7 c b o (a b o e)
 ·exact e
def cq7(c:B5 h (i4 w))(f:o7 w w'){N:Nat->Prop}(hN:∀b,N b->b<w.heap.size/\h b=none):B5 (bs0 h w w') (B6 w' N):=λb o e=>by
 have d:¬N b:=λa=>by
  unfold bs0 at e;rw[if_pos (hN b a).1,(hN b a).2]at e;cases e
 rw[D8 d];exact db1 c f b o e
end
section
variable {h:Hp} {w w':World}
def A8.upR{α:Type}[I4 α]{T:TypeId}{u:Value}{l:List α}(a:A8 (i4 w) w' T u l):R (bs0 h w w') u l:=
 (a.down (h:=λ_=>none) (λ_ _ h=>by cases h)).ro (λ_ _ h=>by cases h) λb c=>cM5 (D0 (a.free c))
end
def Wy.sp(w:Wy):Ptr Sh:=⟨w.s⟩
instance:A4 Wy where
 sz:=5
 pos:=by omega
 enc h cs x:=∃v1 v2 v3,cs=[v1,.int .i64 x.proc,.int .i64 x.n,v2,v3]/\R h v1 x.sp/\R h v2 x.real/\R h v3 x.live
 len:=by rintro h cs a ⟨v1,v2,v3,rfl,_⟩;rfl
 mono:=by rintro h k cs a hk ⟨v1,v2,v3,rfl,h1,h2,h3⟩;exact⟨v1,v2,v3,rfl,A4.mono hk h1,A4.mono hk h2,A4.mono hk h3⟩
 one:=by
  rintro h cs a ⟨v1,v2,v3,rfl,h1,h2,h3⟩ v hv;simp only[dO6,dR2,dX1]at hv;rcases hv with rfl|rfl|rfl|rfl|rfl
  ·exact aa9 h1
  ·rfl
  ·rfl
  ·exact aa9 h2
  ·exact aa9 h3
structure Bk where
 s:Sh
 ways:List Wy
 defs:List (List A6)
 uses:List (List A6)
 ins:List (List A6)
 outs:List (List A6)
def Bk.sp(b:Bk):Ptr Sh:=⟨b.s⟩
def Bk.wp(b:Bk):List (Ptr Wy):=b.ways.map λw=>⟨w⟩
instance:A4 Bk where
 sz:=6
 pos:=by omega
 enc h cs x:=∃v1 v2 v3 v4 v5 v6,cs=[v1,v2,v3,v4,v5,v6]/\R h v1 x.sp/\R h v2 x.wp/\R h v3 x.defs/\R h v4 x.uses/\R h v5 x.ins/\R h v6 x.outs
 len:=by rintro h cs a ⟨v1,v2,v3,v4,v5,v6,rfl,_⟩;rfl
 mono:=by rintro h k cs a hk ⟨v1,v2,v3,v4,v5,v6,rfl,h1,h2,h3,h4,h5,h6⟩;exact⟨v1,v2,v3,v4,v5,v6,rfl,A4.mono hk h1,A4.mono hk h2,A4.mono hk h3,A4.mono hk h4,A4.mono hk h5,A4.mono hk h6⟩
 one:=by
  rintro h cs a ⟨v1,v2,v3,v4,v5,v6,rfl,h1,h2,h3,h4,h5,h6⟩ v hv;simp only[dO6,dR2,dX1]at hv;rcases hv with rfl|rfl|rfl|rfl|rfl|rfl
  ·exact aa9 h1
  ·exact aa9 h2
  ·exact aa9 h3
  ·exact aa9 h4
  ·exact aa9 h5
  ·exact aa9 h6
def ab1:A6:=ofA #[36,105,110]
def R5:A6:=ofA #[36,114,101,116]
def O7(p:Pg)(n:A6):Bool:=decide (n=ab1)||p.globals.contains n
def G2{α:Type}(l:List (List α))(i:Int):List α:=l.getD i.toNat []
def dm0(p:Pg)(n:A6):Pr:=p.procs.getD (ac4 p.procs n).toNat bM5
def ao3(p:Pg)(outs:List (List A6))(s:St):List A6:=
 (if s.name=e0 then[]else[s.name])++(((s.args.zip (dm0 p s.proc).params).filter λx=>x.1.ref&&(G2 outs (ac4 p.procs s.proc)).contains x.2.name).map λx=>x.1.name)++(G2 outs (ac4 p.procs s.proc)).filter (O7 p)
def af0(p:Pg)(outs:List (List A6))(s:St):List A6:=
 if s.kind=1 then[s.name]else if s.kind=2 then[s.name,ab1]else if s.kind=9 then[R5]else if s.kind=4 then ao3 p outs s else[]
def an9(p:Pg)(a:List (List A6))(s:St):List A6:=
 ae2 s.x++(if s.kind=2 then[ab1]else[])++if s.kind=4 then s.args.flatMap L0++G2 a (ac4 p.procs s.proc)else[]
def I8(p:Pg)(outs:List (List A6)):List (List A6):=(b9 p).l.map λit=>D7 (af0 p outs it.s)
def O6(p:Pg)(a:List (List A6)):List (List A6):=(b9 p).l.map λit=>D7 (an9 p a it.s)
def Z6(p:Pg)(i:Nat)(n:A6):Bool:=O7 p n||(p.procs.getD i bM5).params.contains ⟨n,true⟩
def ac0(p:Pg)(defs:List (List A6))(i:Nat):List A6:=
 (((b9 p).of i).filter λit=>(D5 (b9 p) i).lives it.s.id).flatMap λit=>(G2 defs (it.s.id-1)).filter (Z6 p i)
def G0(p:Pg)(outs:List (List A6)):List (List A6):=(List.range p.procs.length).map λi=>D7 (ac0 p (I8 p outs) i)
def cf7{α:Type}[DecidableEq α](g:α->α):Nat->α->α
 | 0,x=>x
 | k+1,x=>if g x=x then x else cf7 g k (g x)
def cP0(p:Pg):List (List A6):=List.replicate p.procs.length []
def J3(p:Pg):List (List A6):=cf7 (G0 p) 1000 (cP0 p)
def av6(nx:List (List Int))(stop:Nat->Bool):List (List Int):=(List.range nx.length).map λa=>if stop a then[]else nx.getD a []
def ch0(wy:Wy)(outs:List A6)(uses:List (List A6))(name:A6)(a:Nat):Bool:=
 if(a:Int)=wy.n-1 then outs.contains name else !decide (a=0)&&(G2 uses (wy.place a-1)).contains name
def aV3(wy:Wy)(uses defs:List (List A6))(name:A6)(a:Nat):Bool:=
 decide ((a:Int)=wy.n-1) || !decide (a=0)&&((G2 uses (wy.place a-1)).contains name||(G2 defs (wy.place a-1)).contains name)
def aC5(wy:Wy)(outs:List A6)(uses defs:List (List A6))(name:A6):Bool:=
 (List.range wy.n.toNat).any λa=>ch0 wy outs uses name a&&V0 (av6 wy.net (aV3 wy uses defs name)) 0 a
def aE7(p:Pg)(outs uses defs:List (List A6))(i:Nat):List A6:=(p.globals++[ab1]).filter (aC5 (D5 (b9 p) i) (G2 outs i) uses defs)
def Q6(p:Pg)(outs defs a:List (List A6)):List (List A6):=(List.range p.procs.length).map λi=>D7 (aE7 p outs (O6 p a) defs i)
def ab7(p:Pg):List (List A6):=cf7 (Q6 p (J3 p) (I8 p (J3 p))) 1000 (cP0 p)
def I0(p:Pg):List Wy:=(List.range p.procs.length).map (D5 (b9 p))
def d9(p:Pg):Bk:=⟨b9 p,I0 p,I8 p (J3 p),O6 p (ab7 p),ab7 p,J3 p⟩
def dH8(s:Sh):Wy:=⟨s,0,0,[],[]⟩
def Bk.way(b:Bk)(i:Int):Wy:=b.ways.getD i.toNat (dH8 b.s)
def Bk.gives(b:Bk)(i a:Int):List A6:=
 if a=0 then D7 (G2 b.ins i++(b.s.fn i).params.map (·.name))
 else if a=(b.way i).n-1\/atB (b.way i).live a=false then[]else G2 b.defs ((b.way i).place a-1)
def Bk.takes(b:Bk)(i a:Int):List A6:=
 if a=(b.way i).n-1 then D7 (G2 b.outs i++[R5])
 else if a=0\/atB (b.way i).live a=false then[]else G2 b.uses ((b.way i).place a-1)
def Bk.givers(b:Bk)(i:Int)(n:A6):List Nat:=(List.range (b.way i).n.toNat).filter λ(a:Nat)=>(b.gives i a).contains n
def bb9(nx:List (List Int))(b:List Nat)(a c:Nat):Bool:=(C9 nx a).any λd=>V0 (av6 nx λq=>b.contains q) d c
def fwC(x y:Fw):Int:=orF [K6 (F1 x.src) (F1 y.src),K6 (F1 x.dst) (F1 y.dst),ab4 x.var y.var]
def bA1(x y:Fw):Bool:=decide (fwC x y<=0)
def Bk.nx(b:Bk)(i:Int):List (List Int):=(am0 (b.way i).n.toNat ((b.way i).pairs (b.way i).data)).1
def Bk.flow0(b:Bk)(i:Int):List Fw:=(List.range (b.way i).n.toNat).flatMap λ(a:Nat)=>(b.gives i a).flatMap λn=>
 ((List.range (b.way i).n.toNat).filter λ(c:Nat)=>(b.takes i c).contains n&&bb9 (b.nx i) (b.givers i n) a c).map λ(c:Nat)=>(⟨(b.way i).place a,(b.way i).place c,n⟩:Fw)
def Bk.flows(b:Bk)(i:Int):List Fw:=Y0 bA1 (b.flow0 i)
def vxC(a b:Vx):Int:=orF [ab4 a.proc b.proc,K6 a.kind b.kind,K6 a.id b.id,ab4 a.slot b.slot]
def cF0(a b:Vx):Bool:=decide (vxC a b<=0)
def egC(a b:Eg):Int:=orF [vxC a.src b.src,vxC a.dst b.dst,K6 a.kind b.kind]
def cy7(a b:Eg):Bool:=decide (egC a b<=0)
def aw4(l:List Eg):List Eg:=G7 (Y0 cy7 l)
def Bk.slotsIn(b:Bk)(i:Int):List A6:=T4 (G2 b.ins i++(b.s.fn i).params.map (·.name))
def Bk.slotsOut(b:Bk)(i:Int):List A6:=T4 (G2 b.outs i++[R5])
def Bk.callOut(b:Bk)(s:St):List A6:=if s.name=e0 then(b.slotsOut (b.s.pr s.proc)).filter λn=>!decide (n=R5)else b.slotsOut (b.s.pr s.proc)
def Bk.vert0(b:Bk)(i:Int):List Vx:=
 ([⟨(b.s.fn i).name,1,0,e0⟩]++(b.slotsIn i).map λn=>⟨(b.s.fn i).name,3,0,n⟩)++((b.slotsOut i).map λn=>⟨(b.s.fn i).name,4,0,n⟩) ++
 (b.s.of i).flatMap λit=>[⟨(b.s.fn i).name,2,it.s.id,e0⟩]++if it.s.kind=4 then((b.slotsIn (b.s.pr it.s.proc)).map λn=>⟨(b.s.fn i).name,5,it.s.id,n⟩)++(b.callOut it.s).map λn=>⟨(b.s.fn i).name,6,it.s.id,n⟩else[]
def Bk.verts(b:Bk)(i:Int):List Vx:=Y0 cF0 (b.vert0 i)
def Y1(a:Ar):List A6:=if a.ref then[a.name]else ae2 a.x
def Bk.callee(b:Bk)(s:St):Pr:=b.s.fn (b.s.pr s.proc)
def Bk.giver(b:Bk)(q:A6)(a:Int)(n:A6):Vx:=
 if a=0 then⟨q,3,0,n⟩
 else if(b.s.it a).s.kind≠4 then⟨q,2,a,e0⟩
 else if(b.s.it a).s.name=n then⟨q,6,a,R5⟩
 else match((b.s.it a).s.args.zip (b.callee (b.s.it a).s).params).find? λx=>x.1.ref&&decide (x.1.name=n)with
  | some x=>⟨q,6,a,x.2.name⟩
  | none=>⟨q,6,a,n⟩
def Bk.takers(b:Bk)(q:A6)(a:Int)(n:A6):List Vx:=
 if a = -1 then[⟨q,4,0,n⟩]
 else if(b.s.it a).s.kind≠4 then[⟨q,2,a,e0⟩]
 else((((b.s.it a).s.args.zip (b.callee (b.s.it a).s).params).filter λx=>(Y1 x.1).contains n).map λx=>⟨q,5,a,x.2.name⟩) ++
  if(O7 b.s.p n&&(G2 b.ins (b.s.pr (b.s.it a).s.proc)).contains n)=true then[⟨q,5,a,n⟩]else[]
def ag8(q:A6)(d:Int×Int):Eg:=⟨if d.1=0 then⟨q,1,0,e0⟩else⟨q,2,d.1,e0⟩,⟨q,2,d.2,e0⟩,1⟩
def H8(q:A6)(v:Vx):List Eg:=
 if v.kind=3\/v.kind=4 then[⟨⟨q,1,0,e0⟩,v,1⟩]else if v.kind=5\/v.kind=6 then[⟨⟨q,2,v.id,e0⟩,v,1⟩]else[]
def Bk.edge0(b:Bk)(i:Int):List Eg:=
 (b.way i).decides.map (ag8 (b.s.fn i).name)++(b.verts i).flatMap (H8 (b.s.fn i).name) ++
 (b.flows i).flatMap λf=>(b.takers (b.s.fn i).name f.dst f.var).map λv=>⟨b.giver (b.s.fn i).name f.src f.var,v,2⟩
def Bk.edges(b:Bk)(i:Int):List Eg:=aw4 (b.edge0 i)
def bh2(n:Int):Ex:=.mk 1 n e0 []
def ad8(s:A6):Ex:=.mk 2 0 s []
def cq3(op:Int)(a b:Ex):Ex:=.mk op 0 e0 [a,b]
def sV:A6:=ofA #[118]
def sG:A6:=ofA #[103]
def sP:A6:=ofA #[112]
def sX:A6:=ofA #[120]
def sY:A6:=ofA #[121]
def sE:A6:=ofA #[101]
def bx1:Pr:=⟨J8,[],[sV],[.mk 1 1 [] sV e0 (bh2 2) false [] [] [],.mk 2 4 [] sG sP (.mk 0 0 e0 []) false [⟨false,e0,bh2 3⟩,⟨true,sV,.mk 0 0 e0 []⟩] [] [],
 .mk 3 3 [] e0 e0 (ad8 sV) false [] [] [],.mk 4 3 [] e0 e0 (ad8 sG) false [] [] []],[]⟩
def bx2:Pr:=⟨sP,[⟨sX,false⟩,⟨sY,true⟩],[],[.mk 5 1 [] sY e0 (cq3 8 (ad8 sY) (ad8 sX)) false [] [] [],
 .mk 6 5 [] e0 e0 (cq3 12 (ad8 sY) (bh2 9)) false [] [.mk 7 10 [] sE e0 (.mk 0 0 e0 []) false [] [] []] [],.mk 8 9 [] e0 e0 (ad8 sY) true [] [] []],[sE]⟩
def aY9:Pg:=⟨[sG],[bx1,bx2]⟩
def Bk.calledBy(b:Bk)(n:A6):List A6:=((b.s.of (b.s.pr n)).filter λit=>decide (it.s.kind=4)&&(b.way (b.s.pr n)).lives it.s.id).map (·.s.proc)
def Bk.reached(b:Bk):List A6:=T4 (P4 b.calledBy 1000 0 [J8])
def Bk.wv(b:Bk):List Vx:=b.reached.flatMap λn=>b.verts (b.s.pr n)
def Bk.isCall(b:Bk)(id:Int):Bool:=decide ((b.s.it id).s.kind=4)&&(b.way (b.s.it id).proc).lives id
def Bk.joinOf(b:Bk)(v:Vx):List Eg:=
 if v.id=0\/b.isCall v.id=false then[]
 else if v.kind=2 then[⟨v,⟨(b.s.it v.id).s.proc,1,0,e0⟩,4⟩]
 else if v.kind=5 then[⟨v,⟨(b.s.it v.id).s.proc,3,0,v.slot⟩,5⟩]
 else if v.kind=6 then[⟨⟨(b.s.it v.id).s.proc,4,0,v.slot⟩,v,6⟩]
 else[]
def Bk.we0(b:Bk):List Eg:=(b.reached.flatMap λn=>b.edges (b.s.pr n))++b.wv.flatMap b.joinOf
def Bk.we(b:Bk):List Eg:=aw4 b.we0
def atV(V:List Vx)(v:Vx):Option Nat:=V.findIdx? λx=>decide (x=v)
def E9(V:List Vx)(v:Vx):Nat:=(atV V v).getD 0
def S4(V:List Vx)(L:List Eg)(ks:List Int):List (List Int):=
 (List.range V.length).map λa=>(L.filter λe=>ks.contains e.kind&&decide (E9 V e.src=a)).map λe=>((E9 V e.dst:Nat):Int)
def X9(V:List Vx)(L:List Eg)(ks:List Int):List (List Int):=
 (List.range V.length).map λa=>(L.filter λe=>ks.contains e.kind&&decide (E9 V e.dst=a)).map λe=>((E9 V e.src:Nat):Int)
def af4(S:List Bool):List Int:=((List.range S.length).filter λa=>S.getD a false).map λ(a:Nat)=>(a:Int)
def U5(n:Nat)(l:List Int):List Bool:=(List.range n).map λ(a:Nat)=>l.contains (a:Int)
def J2(nx:List (List Int))(S:List Bool):List Bool:=U5 S.length (O2 nx nx.length (af4 S))
def as0(V:List Vx)(b:Nat)(a:A6)(e:Eg):List Eg:=
 if e.kind=(6:Int)/\E9 V e.src=b then
  match V[(E9 V e.dst:Nat)]? with
  | none=>[]
  | some v=>if(atV V ⟨v.proc,5,v.id,a⟩).isSome then[⟨⟨v.proc,5,v.id,a⟩,v,3⟩]else[]
 else[]
def bO6(V:List Vx)(L:List Eg)(a:Nat):List Eg:=
 (af4 (J2 (X9 V L [1,2,3]) (U5 V.length [(a:Int)]))).flatMap λi=>match V[i.toNat]? with
  | none=>[]
  | some b=>if b.kind≠(3:Int)then[]else L.flatMap (as0 V a b.slot)
def bO5(V:List Vx)(L:List Eg):List Eg:=
 (List.range V.length).flatMap λ(a:Nat)=>match V[a]? with
  | none=>[]
  | some b=>if b.kind≠(4:Int)then[]else bO6 V L a
def V2(V:List Vx)(E S:List Eg):List Eg:=S++((bO5 V (E++S)).filter λe=>!S.contains e).eraseDups
def aZ6(V:List Vx)(E:List Eg):List Eg:=cf7 (V2 V E) (V.length*V.length+1) []
def Bk.sums(b:Bk):List Eg:=aZ6 b.wv b.we
def Bk.all(b:Bk):List Eg:=b.we++b.sums
def Bk.backB(b:Bk)(l:List Int):List Bool:=J2 (X9 b.wv b.all [1,2,3,6]) (J2 (X9 b.wv b.all [1,2,3,4,5]) (U5 b.wv.length l))
def Bk.forwB(b:Bk)(l:List Int):List Bool:=J2 (S4 b.wv b.all [1,2,3,4,5]) (J2 (S4 b.wv b.all [1,2,3,6]) (U5 b.wv.length l))
def J4(V:List Vx)(S:List Bool):List Vx:=(af4 S).filterMap λi=>V[i.toNat]?
def P7(V:List Vx):List Vx->Option (List Int)
 | []=>some []
 | v::l=>match atV V v,P7 V l with
   | some a,some r=>some ((a:Int)::r)
   | _,_=>none
def aP7:Vx:=⟨e0,0,0,e0⟩
def Bk.crit(b:Bk)(id:Int):Option Vx:=
 if 1<=id/\id<=b.s.l.length/\(b.way (b.s.it id).proc).lives id=true then
  (if(atV b.wv ⟨(b.s.fn (b.s.it id).proc).name,2,id,e0⟩).isSome then some ⟨(b.s.fn (b.s.it id).proc).name,2,id,e0⟩else none)else none
def ap0(p:Pg)(id:Int):Vx×Int:=
 if I5 p=false then(aP7,1)else match(d9 p).crit id with
  | none=>(aP7,9)
  | some v=>(v,0)
def ar3(p:Pg)(vs:List Vx):List Vx×Int:=
 if I5 p=false then([],1)else match P7 (d9 p).wv vs with
  | none=>([],9)
  | some l=>(J4 (d9 p).wv ((d9 p).backB l),0)
def ay1(p:Pg)(vs:List Vx):List Vx×Int:=
 if I5 p=false then([],1)else match P7 (d9 p).wv vs with
  | none=>([],9)
  | some l=>(J4 (d9 p).wv ((d9 p).forwB l),0)
def aM5(v:Value)(l:List A6)(w:World)(hv:R (i4 w) v l)(z:l.length<=1000000):p7 prog 103 #[v] w λu d=>(u = .bool (ae1 l)/\d=w):=by
 refine p9 [v] func103 rfl ?_;have x:=hv.isS;have g:=hv.vlen;simp only[n8,o6,simprocAttr,x,g];refine n9 [5,6] (σ:=Nat) (λk f d=>f 7 = .int .i64 k/\k<=l.length/\(l.take k).all R0=true/\d=w) (λk=>l.length-k) 0 ?_ ?_
 ·simp only[p8,simprocAttr];exact⟨by trivial,dN6 _,by simp,by trivial⟩
 ·rintro k f d p ⟨j,y,a,rfl⟩;simp only[dM6,p8,simprocAttr]at p;obtain⟨q,r,_⟩:=p;simp only[n8,o6,simprocAttr,j,r];refine n7 (λm=>?_) (λm=>?_)
  ·have b:k<l.length:=by simpa using m
   have o:=hv.inS b;have e:(Instr.loadAt 9 (.pointer (some (G4 v k)))).run prog d = .ok (p6 l[k]) d:=M4 (P:=prog) (t:=9) hv (i5 _) (dM4 b) V4;have i:(l.take (k+1)).all R0=((l.take k).all R0&&R0 l[k]):=by rw[dN3 b,List.all_append];simp
   have c:=dN5 b;generalize l[k]=s at e i c;simp only[n8,o6,y0,simprocAttr,j,q,o,e];refine y5 (aG4 s _) ?_;rintro u A ⟨rfl,rfl⟩;cases g:R0 s
   ·simp only[n8,o6,simprocAttr];refine o8 results103 ?_;simp only[p8,simprocAttr];refine⟨?_,by trivial⟩;have:ae1 l=false:=by
     rw[dX7];intro h;rw[dW0.1 h s c]at g;cases g
    rw[this]
   ·simp only[n8,o6,simprocAttr,j];exact⟨k+1,by omega,dO2 _ (B0 k (by omega)),by omega,by rw[i,a,g];rfl,by trivial⟩
  ·have n:k=l.length:=by simp at m;omega
   subst n;simp only[n8,simprocAttr];refine o8 results103 ?_;simp only[p8,simprocAttr];rw[dN8]at a;exact⟨by rw[ae1,a],by trivial⟩
def cN4(op:Int)(w:World):p7 prog 279 #[.int .i64 op] w λu g=>(u = .int .i64 (ay4 op)/\g=w):=by
 refine p9 [.int .i64 op] func279 rfl ?_;by_cases h1:op=1
 ·have a:decide (op=1)=true:=by simp[h1]
  simp only[n8,o6,simprocAttr,a];refine o8 results279 ?_;simp only[p8,simprocAttr];exact⟨by simp[ay4,h1],by trivial⟩
 have a:decide (op=1)=false:=by simp[h1]
 by_cases h2:op=2
 ·have b:decide (op=2)=true:=by simp[h2]
  simp only[n8,o6,simprocAttr,a,b];refine o8 results279 ?_;simp only[p8,simprocAttr];exact⟨by simp[ay4,h2],by trivial⟩
 have b:decide (op=2)=false:=by simp[h2]
 by_cases h3:op=3
 ·have c:decide (op=3)=true:=by simp[h3]
  simp only[n8,o6,simprocAttr,a,b,c];refine o8 results279 ?_;simp only[p8,simprocAttr];exact⟨by simp[ay4,h3],by trivial⟩
 have c:decide (op=3)=false:=by simp[h3]
 by_cases h4:op=4
 ·have d:decide (op=4)=true:=by simp[h4]
  simp only[n8,o6,simprocAttr,a,b,c,d];refine o8 results279 ?_;simp only[p8,simprocAttr];exact⟨by simp[ay4,h4],by trivial⟩
 have d:decide (op=4)=false:=by simp[h4]
 by_cases h5:5<=op
 ·have e:decide (5<=op)=true:=by simp[h5]
  by_cases h6:op<=17
  ·have f:decide (op<=17)=true:=by simp[h6]
   simp only[n8,o6,simprocAttr,a,b,c,d,e,f];refine o8 results279 ?_;simp only[p8,simprocAttr];exact⟨by rw[ay4,if_neg (by omega),if_neg (by omega),if_pos ⟨h5,h6⟩],by trivial⟩
  ·have f:decide (op<=17)=false:=by simp[h6]
   simp only[n8,o6,simprocAttr,a,b,c,d,e,f];refine o8 results279 ?_;simp only[p8,simprocAttr];exact⟨by rw[ay4,if_neg (by omega),if_neg (by omega),if_neg (by omega)],by trivial⟩
 ·have e:decide (5<=op)=false:=by simp[h5]
  simp only[n8,o6,simprocAttr,a,b,c,d,e];refine o8 results279 ?_;simp only[p8,simprocAttr];exact⟨by rw[ay4,if_neg (by omega),if_neg (by omega),if_neg (by omega)],by trivial⟩
def cP2(v:Value)(x:Ex)(w:World)(hv:SV (i4 w) v x):p7 prog 253 #[v] w λu k=>(u = .bool (cP1 x)/\o7 w k):=by
 refine p9 [v] func253 rfl ?_;obtain⟨a,l,b,c,g⟩:=aL0 hv (i5 _);obtain⟨m,e,j,_⟩:=g.ex;have d:=j l (i5 _);have f:=e.isS;have i:=e.vlen;have h:decide ((x.kids.length:Int)=0)=decide (x.kids.length=0):=dR5.2 (by omega);unfold cP1;cases h1:decide (x.op=0)
 ·simp only[n8,o6,simprocAttr,b,d,h1];exact o8 results253 ⟨rfl,c⟩
 cases h2:decide (x.n=0)
 ·simp only[n8,o6,simprocAttr,b,d,h1,h2];exact o8 results253 ⟨rfl,c⟩
 cases h3:decide (x.name=e0)
 ·simp only[n8,o6,simprocAttr,b,d,h1,h2,h3];exact o8 results253 ⟨rfl,c⟩
 simp only[n8,o6,simprocAttr,b,d,f,i,h1,h2,h3,h];exact o8 results253 ⟨rfl,c⟩
def aK9{α:Type}(p:α->Bool)(l:List α)(k:Nat)(a:k<l.length):(l.take (k+1)).all p=((l.take k).all p&&p l[k]):=by
 rw[dN3 a,List.all_append];simp
def aA7{α:Type}{p:α->Bool}{l:List α}{x:α}(b:x∈l)(h:p x=false):l.all p=false:=by
 rw[dX7];intro a;rw[dW0.1 a _ b]at h;cases h
def bS5:∀(n:Nat) (v:Value) (x:Ex) (w:World),n<=20->SV (i4 w) v x->p7 prog 254 #[v,.int .i64 n] w λu I=>(u = .bool (ab0 n x)/\o7 w I)
 | 0,v,x,w,_,hv=>by
  refine p9 [v,.int .i64 ((0:Nat):Int)] func254 rfl ?_;obtain⟨a,j,N,E,W⟩:=aL0 hv (i5 _);have U:decide ((((0:Nat):Int))<1)=true:=by decide
  simp only[n8,o6,simprocAttr,N];refine C0 (λr=>o7 j.drew r) 11 (A5 [0,1,2,3,4,5,6,7,8,9,10]) ?_;simp only[D6,A5,n8,o6,simprocAttr];exact o8 results254 ⟨rfl,E.trans (o7.drew _)⟩
 | n+1,v,x,w,hn,hv=>by
  refine p9 [v,.int .i64 ((n+1:Nat):Int)] func254 rfl ?_;obtain⟨a,j,N,E,W⟩:=aL0 hv (i5 _);obtain⟨vk,H,ld,sd⟩:=W.ex;have c:=E.trans (o7.drew j);have p:=ld j.drew (b7 (o7.drew j));have s1:=sd (λr=>o7 j.drew r) j.drew (o9.refl _) (λI h=>b7 ((o7.drew j).trans h));have U:decide ((((n+1:Nat):Int))<1)=false:=by simp;omega
  have V:=H.isS;have X:=H.vlen;simp only[n8,o6,simprocAttr,N];refine C0 (λr=>o7 j.drew r) 11 (A5 [0,1,2,3,4,5,6,7,8,9,10]) ?_;simp only[D6,A5,n8,o6,simprocAttr,U,s1,V,X];refine y5 (cN4 x.op _) ?_;rintro u r ⟨rfl,rfl⟩;cases h1:decide ((x.kids.length:Int)=ay4 x.op)
  ·simp only[D6,n8,o6,simprocAttr,E8,h1];refine⟨o9.refl _,?_⟩;refine o8 results254 ?_;simp only[p8,simprocAttr];exact⟨by rw[ab0,if_pos (by simpa using h1)],c⟩
  have e:¬(x.kids.length:Int)≠ay4 x.op:=by simpa using h1
  simp only[D6,n8,o6,simprocAttr,E8,h1];refine⟨o9.refl _,?_⟩;simp only[n8,o6,simprocAttr,p];by_cases h2:x.op=1
  ·have m:decide (x.op=1)=true:=by simp[h2]
   have d:ab0 (n+1) x=(decide (0<=x.n)&&decide (x.name=e0)):=by rw[ab0,if_neg e,if_pos h2]
   cases h3:decide (0<=x.n)
   ·simp only[n8,o6,simprocAttr,p,m,h3];refine o8 results254 ?_;simp only[p8,simprocAttr];exact⟨by rw[d,h3];rfl,c⟩
   ·simp only[n8,o6,simprocAttr,p,m,h3];refine o8 results254 ?_;simp only[p8,simprocAttr];exact⟨by rw[d,h3];rfl,c⟩
  have m:decide (x.op=1)=false:=by simp[h2]
  by_cases h3:x.op=2
  ·have s:decide (x.op=2)=true:=by simp[h3]
   have d:ab0 (n+1) x=(decide (x.n=0)&&R0 x.name):=by rw[ab0,if_neg e,if_neg h2,if_pos h3]
   cases h4:decide (x.n=0)
   ·simp only[n8,o6,simprocAttr,p,m,s,h4];refine o8 results254 ?_;simp only[p8,simprocAttr];exact⟨by rw[d,h4];rfl,c⟩
   ·simp only[n8,o6,simprocAttr,p,m,s,h4];refine y5 (aG4 x.name _) ?_;rintro u r ⟨rfl,rfl⟩;simp only[n8,simprocAttr];refine o8 results254 ?_;simp only[p8,simprocAttr];exact⟨by rw[d,h4];rfl,c⟩
  have s:decide (x.op=2)=false:=by simp[h3]
  cases h4:decide (x.n=0)
  ·have d:ab0 (n+1) x=false:=by rw[ab0,if_neg e,if_neg h2,if_neg h3,if_pos (.inl (by simpa using h4))]
   simp only[n8,o6,simprocAttr,p,m,s,h4];refine o8 results254 ?_;simp only[p8,simprocAttr];exact⟨by rw[d],c⟩
  cases h5:decide (x.name=e0)
  ·have d:ab0 (n+1) x=false:=by rw[ab0,if_neg e,if_neg h2,if_neg h3,if_pos (.inr (by simpa using h5))]
   simp only[n8,o6,simprocAttr,p,m,s,h4,h5];refine o8 results254 ?_;simp only[p8,simprocAttr];exact⟨by rw[d],c⟩
  have d:ab0 (n+1) x=x.kids.all (ab0 n):=by
   rw[ab0,if_neg e,if_neg h2,if_neg h3,if_neg (λh=>by rcases h with h|h<;>simp_all)]
  have ab:x.kids.length<=2:=by
   have:(x.kids.length:Int)=ay4 x.op:=by simpa using h1
   unfold ay4 at this;split at this
   ·omega
   ·split at this
    ·omega
    ·split at this<;>omega
  simp only[n8,o6,simprocAttr,p,m,s,h4,h5,V,X];refine n9 [1,49,50] (σ:=Nat) (λk f I=>f 51 = .int .i64 k/\k<=x.kids.length/\(x.kids.take k).all (ab0 n)=true/\o7 j I) (λk=>x.kids.length-k) 0 ?_ ?_
  ·simp only[p8,simprocAttr];exact⟨by trivial,dN6 _,by simp,o7.drew _⟩
  ·rintro k f w3 z ⟨q,aa,g,i⟩;simp only[dM6,p8,↓reduceIte,Nat.reduceEqDiff]at z;obtain⟨Z,J,K,_⟩:=z;simp only[n8,o6,simprocAttr,q,K];refine n7 (λO=>?_) (λO=>?_)
   ·have l:k<x.kids.length:=by simpa using O
    have R:=H.inS l;obtain⟨sv,C,A⟩:=F9 (P:=prog) (t:=106) H (b7 i) (dM4 l) bf0 bf4 aS9 ae5;rw[ae5]at A;have D:=aK9 (ab0 n) x.kids k l;have o:=dN5 l;generalize x.kids[k]=y at C D o;obtain⟨b,wz,Y,L,S,F,M⟩:=de9 (C.mono (b7 i)) (i5 _);obtain⟨sy,T,ly,_⟩:=M.ex_v;have l4:=ly Y (i5 _);have B:IntKind.i64.wrap (((n+1:Nat):Int)-1)=(n:Int):=by rw[M3 _ (by omega)];omega
    simp only[n8,o6,y0,simprocAttr,q,J,Z,R,A,L,S,l4,B];refine y5 (bS5 n sy y Y (by omega) T) ?_;rintro u w5 ⟨rfl,G⟩;cases hdy:ab0 n y
    ·simp only[n8,o6,simprocAttr];refine o8 results254 ?_;simp only[p8,simprocAttr];exact⟨by rw[d,aA7 o hdy],E.trans (i.trans (F.trans G))⟩
    ·simp only[n8,o6,simprocAttr,q];exact⟨k+1,by omega,dO2 _ (B0 k (by omega)),by omega,by rw[D,g,hdy];rfl,i.trans (F.trans G)⟩
   ·have Q:k=x.kids.length:=by simp at O;omega
    subst Q;simp only[n8,simprocAttr];refine o8 results254 ?_;simp only[p8,simprocAttr];rw[dN8]at g;exact⟨by rw[d,g],E.trans i⟩
def bg3(v:Value)(x:Ex)(w:World)(hv:SV (i4 w) v x):p7 prog 212 #[v] w λu k=>(u = .bool (ab0 20 x)/\o7 w k):=by
 refine p9 [v] func212 rfl ?_;obtain⟨a,d,f,g,e⟩:=aL0 hv (i5 _);obtain⟨j,b,i,_⟩:=e.ex_v;have h:=i d (i5 _);simp only[n8,o6,simprocAttr,f,h];refine y5 (bS5 20 j x d (by omega) b) ?_;rintro u l ⟨rfl,c⟩;simp only[n8,simprocAttr];exact o8 results212 ⟨rfl,g.trans c⟩
def bc9(s:A6)(b:Bool)(w:World):p7 prog 205 #[p6 s,.bool b] w λu a=>(u = .bool (Z3 s b)/\a=w):=by
 refine p9 [p6 s,.bool b] func205 rfl ?_;cases b
 ·simp only[n8,o6,simprocAttr];refine o8 results205 ?_;simp only[p8,simprocAttr];exact⟨by simp[Z3],by trivial⟩
 ·simp only[n8,o6,simprocAttr];refine y5 (aG4 s _) ?_;rintro u c ⟨rfl,rfl⟩;cases hn:R0 s
  ·simp only[n8,o6,simprocAttr];refine o8 results205 ?_;simp only[p8,simprocAttr];exact⟨by simp[Z3,hn],by trivial⟩
  ·simp only[n8,simprocAttr];refine o8 results205 ?_;simp only[p8,simprocAttr];exact⟨by simp[Z3,hn],by trivial⟩
def bH8(v:Value)(x:Ex)(b:Bool)(w:World)(hv:SV (i4 w) v x):p7 prog 206 #[v,.bool b] w λu k=>(u = .bool (ak0 x b)/\o7 w k):=by
 refine p9 [v,.bool b] func206 rfl ?_;obtain⟨a,l,f,e,i⟩:=aL0 hv (i5 _);obtain⟨h,d,j,_⟩:=i.ex_v;have g:=j l (i5 _);cases b
 ·simp only[n8,o6,simprocAttr,f,g];refine y5 (cP2 h x _ d) ?_;rintro u m ⟨rfl,c⟩;simp only[n8,simprocAttr];refine o8 results206 ?_;simp only[p8,simprocAttr];exact⟨by simp[ak0],e.trans c⟩
 ·simp only[n8,o6,simprocAttr,f,g];refine y5 (bg3 h x _ d) ?_;rintro u m ⟨rfl,c⟩;cases hn:ab0 20 x
  ·simp only[n8,o6,simprocAttr];refine o8 results206 ?_;simp only[p8,simprocAttr];exact⟨by simp[ak0,hn],e.trans c⟩
  ·simp only[n8,simprocAttr];refine o8 results206 ?_;simp only[p8,simprocAttr];exact⟨by simp[ak0,hn],e.trans c⟩
def cg8(v:Value)(l:List Ar)(w:World)(hv:R (i4 w) v l)(U:l.length<=1000000):p7 prog 207 #[v] w λu G=>(u = .bool (aL6 l)/\o7 w G):=by
 refine p9 [v] func207 rfl ?_;have M:=hv.isS;have O:=hv.vlen;simp only[n8,o6,simprocAttr,M,O];refine n9 [5,6] (σ:=Nat) (λk f G=>f 7 = .int .i64 k/\k<=l.length/\(l.take k).all (λa=>Z3 a.name a.ref&&ak0 a.x (!a.ref))=true/\o7 w G) (λk=>l.length-k) 0 ?_ ?_
 ·simp only[p8,simprocAttr];exact⟨by trivial,dN6 _,by simp,o9.refl _⟩
 ·rintro k f W H ⟨s,N,e,d⟩;simp only[dM6,p8,simprocAttr]at H;obtain⟨K,L,_⟩:=H;simp only[n8,o6,simprocAttr,s,L];refine n7 (λA=>?_) (λA=>?_)
  ·have g:k<l.length:=by simpa using A
   have C:=hv.inS g;obtain⟨V,o,n⟩:=F9 (P:=prog) (t:=124) hv (b7 d) (dM4 g) aK3 aK4 aE0 X1;rw[X1]at n;have q:=aK9 (λa:Ar=>Z3 a.name a.ref&&ak0 a.x (!a.ref)) l k g;have i:=dN5 g;generalize l[k]=y at o q i;obtain⟨b,Z,J,x,D,j,z⟩:=ba0 (o.mono (b7 d)) (i5 _);obtain⟨m,Q,_⟩:=z.ar;obtain⟨T,E,S,_⟩:=m.ex_v;have I:=Q J (i5 _);have F:=S J (i5 _);have c:(Z3 y.name y.ref&&ak0 y.x (!y.ref))=false->aL6 l=false:=λh=>aA7 (p:=λa:Ar=>Z3 a.name a.ref&&ak0 a.x (!a.ref)) i h;simp only[n8,o6,y0,simprocAttr,s,K,C,n,x,D,I];refine y5 (bc9 y.name y.ref _) ?_;rintro u X ⟨rfl,rfl⟩;cases hnm:Z3 y.name y.ref
   ·simp only[n8,o6,simprocAttr];refine o8 results207 ?_;simp only[p8,simprocAttr];exact⟨by rw[c (by rw[hnm];rfl)],d.trans j⟩
   ·simp only[n8,o6,simprocAttr,I,F];refine y5 (bH8 T y.x (!y.ref) _ E) ?_;rintro u Y ⟨rfl,r⟩;cases hwo:ak0 y.x (!y.ref)
    ·simp only[n8,o6,simprocAttr];refine o8 results207 ?_;simp only[p8,simprocAttr];exact⟨by rw[c (by rw[hwo];simp)],d.trans (j.trans r)⟩
    ·simp only[n8,o6,simprocAttr,s];exact⟨k+1,by omega,dO2 _ (B0 k (by omega)),by omega,by rw[q,e,hnm,hwo];rfl,d.trans (j.trans r)⟩
  ·have B:k=l.length:=by simp at A;omega
   subst B;simp only[n8,simprocAttr];refine o8 results207 ?_;simp only[p8,simprocAttr];rw[dN8]at e;exact⟨by rw[aL6,e],d⟩
def dB6:=zJ (zJ (zJ (zJ (zJ (zJ @dC4 @dB7) (zJ @ds5 (zJ @dC0 @dC1))) (zJ (zJ @dB8 @dB9) (zJ @dG0 (zJ @dF6 @dz6)))) (zJ (zJ (zJ @dF7 @dF8) (zJ @dt6 (zJ @dq9 @dt7))) (zJ (zJ @dt8 @dE3) (zJ @dE2 (zJ @dC6 @dG2))))) (zJ (zJ (zJ (zJ @dK2 @ds3) (zJ @dF2 (zJ @ds4 @dF3))) (zJ (zJ @dI5 @dK7) (zJ @dd0 (zJ @dx8 @dd1)))) (zJ (zJ (zJ @dx9 @dy0) (zJ @dn8 (zJ @di4 @di3))) (zJ (zJ @dx7 @dI7) (zJ @dI6 (zJ @dn7 @dI9)))))) (zJ (zJ (zJ (zJ (zJ @dI8 @dF0) (zJ @cW7 (zJ @dw9 @dI0))) (zJ (zJ @dc8 @dr9) (zJ @dn3 (zJ @dH5 @dI1)))) (zJ (zJ (zJ @dr8 @dE9) (zJ @dx1 (zJ @dE8 @ev.eq_1))) (zJ (zJ @ev.eq_2 @ev.eq_3) (zJ @ev.eq_4 (zJ @C4.eq_1 @C4.eq_2))))) (zJ (zJ (zJ (zJ @dK1 @dI2) (zJ @dJ1 (zJ @dJ2 @List.map_cons.{0,0}))) (zJ (zJ @List.map_nil.{0,0} @List.map_toArray.{0,0}) (zJ @bQ9.eq_1 (zJ @bQ9.eq_2 @dm1)))) (zJ (zJ (zJ @dD9 @dE0) (zJ @cL6.eq_1 (zJ @List.getElem?_toArray.{0} @List.getElem?_cons_zero.{0}))) (zJ (zJ @List.getElem?_cons_succ.{0} @Option.bind_some.{0,0}) (zJ @Option.some.injEq.{0} (zJ @dS7 @Bool.true_eq_false))))))
theorem cg1(x:Ex)(a:List A6):ak5 x a=ao5 x.kids (if x.op=2/\a.contains x.name=false then a++[x.name]else a):=by
 cases x;simp only[ak5,Ex.kids,Ex.op,Ex.name];rfl
mutual
def aI4:∀(x:Ex) (a:List A6),(ak5 x a).length<=a.length+U3 x
 | .mk op n name kids,a=>by
  have h:=bi1 kids (if op=2/\a.contains name=false then a++[name]else a);have b:(if op=2/\a.contains name=false then a++[name]else a).length<=a.length+1:=by
   split
   ·simp
   ·omega
  simp only[ak5,U3,wtT];omega
def bi1:∀(l:List Ex) (a:List A6),(ao5 l a).length<=a.length+au1 l
 | [],a=>by simp[ao5,au1]
 | x::l,a=>by
  have b:=aI4 x a;have c:=bi1 l (ak5 x a);simp only[ao5,au1];omega
end
def cg2:∀(m:Nat) (x:Ex) (v g:Value) (c:List A6) (h:Hp) (w:World),U3 x<=m->SV h v x->B5 h (i4 w)->A8 h w 9 g c->c.length+U3 x<=1000000 ->
  p7 prog 213 #[v,g] w λu W=>(A8 h W 9 u (ak5 x c)/\o9 (A3 g) w W/\F0 w g u):=by
 intro m
 induction m using Nat.strongRecOn with
 | ind m ih=>
 intro x v g c h w aG hv hh ho hl;refine p9 [v,g] func213 rfl ?_;have aI:=bQ0 x;obtain⟨a,I,af,D,ha⟩:=bm7 (w:=w) (A3 g) hv (λb d=>ho.lt d);obtain⟨vk,Y,ld,_⟩:=K7.ex hv ha;have l1:=ld I (B2 _ _);have A:=ho.ext D;have G:=t8 hh (b7 D);have ac:=Y.isS;have am:=Y.vlen;have aF:=bI0 x.kids;rw[bn7];simp only[dB6,o6,simprocAttr,af];refine du9 [2] (λf2 X=>∃u,f2 1=u/\A8 h X 9 u (if x.op=2/\c.contains x.name=false then c++[x.name]else c)/\o9 (A3 g) I X/\F0 I g u) (by decide +kernel) ?_ ?_
 ·by_cases F:x.op=2
  ·have Z:decide (x.op=2)=true:=by simp[F]
   simp only[n8,o6,simprocAttr,l1,Z];refine E0 (P6 g c x.name I (A.rw_ G) (by omega)) ?_;cases h2:c.contains x.name
   ·obtain⟨p1,u',X,p2,p3,p4,p5⟩:=push (e:=31) at4 rfl A (x:=p6 x.name) (y:=x.name) rfl (by omega) (by omega) G;simp only[n8,o6,simprocAttr,l1,p1,p2];exact⟨u',by trivial,by rw[if_pos ⟨F,by trivial⟩];exact p3,p4,p5⟩
   ·simp only[n8,o6,simprocAttr];exact⟨g,by trivial,by rw[if_neg (by rintro⟨_,h⟩;cases h)];exact A,o9.refl _,λb d=>.inl d⟩
  ·have Z:decide (x.op=2)=false:=by simp[F]
   simp only[n8,o6,simprocAttr,l1,Z];exact⟨g,by trivial,by rw[if_neg (λh=>F h.1)];exact A,o9.refl _,λb d=>.inl d⟩
 ·rintro f2 X N ⟨u0,g1,V,S,T⟩;simp only[dM6,p8,↓reduceIte,Nat.reduceEqDiff]at N;obtain⟨g2,_⟩:=N;have H:(if x.op=2/\c.contains x.name=false then c++[x.name]else c).length<=c.length+1:=by
   split
   ·simp
   ·omega
  have J:=cg1 x c;generalize(if x.op=2/\c.contains x.name=false then c++[x.name]else c)=o0 at V H J;have l2:=ld X (E1 S);have aH:1<=wtT x.name:=by simp[wtT]
  simp only[n8,o6,simprocAttr,g2,l2,ac,am];refine n9 [23,24] (σ:=Nat×Value×List A6) (λs f W=>f 25 = .int .i64 s.1/\f 1=s.2.1/\s.1<=x.kids.length/\A8 h W 9 s.2.1 s.2.2/\o9 (A3 g) I W/\F0 I g s.2.1/\ao5 x.kids o0=ao5 (x.kids.drop s.1) s.2.2/\s.2.2.length+au1 (x.kids.drop s.1)<=1000000) (λs=>x.kids.length-s.1) (0,u0,o0) ?_ ?_
  ·simp only[p8,simprocAttr];exact⟨by trivial,by simpa using g1,dN6 _,V,S,T,by simp,by simp;omega⟩
  ·rintro⟨k,u,o⟩ f w3 O ⟨q,F,L,B,z,l,n,p⟩;simp only at q F L B l n p;simp only[dM6,p8,↓reduceIte,Nat.reduceEqDiff]at O;obtain⟨aa,ab,_⟩:=O;simp only[n8,o6,simprocAttr,q,ab];refine n7 (λhc=>?_) (λhc=>?_)
   ·have r:k<x.kids.length:=by simpa using hc
    have ak:=Y.inS r;have K:B5 h (i4 w3):=H5 G z λb d=>ho.free d;obtain⟨sv,C,Q⟩:=F9 (P:=prog) (t:=106) Y K (dM4 r) bf0 bf4 aS9 ae5;rw[ae5]at Q;have j:x.kids.drop k=x.kids[k]::x.kids.drop (k+1):=dR1 r;have aq:=bg0 (dN5 r);generalize x.kids[k]=y at C j aq;rw[j,ao5]at n;rw[j,au1]at p;have aD:=aI4 y o;obtain⟨b,wz,w4,ad,ap,E,ae⟩:=df4 (w:=w3) (A3 u) C (λb d=>B.lt d);obtain⟨lw,_⟩:=K7.ex_v C ae;have l4:=lw w4 (B2 _ _);simp only[n8,o6,y0,simprocAttr,q,F,aa,ak,Q,ad,ap,l4];refine y5 (ih (U3 y) (by omega) y sv u o h w4 (dO0 _) C (t8 K (b7 E)) (B.ext E) (by omega)) ?_;rintro u' w5 ⟨ao,al,U⟩;simp only[n8,o6,simprocAttr,q];have R:o9 (A3 g) I w5:=(z.trans (o9.up E)).chain al λi hi d=>by
     rcases l i d with d|d
     ·exact d
     ·omega
    refine⟨(k+1,u',ak5 y o),by simp only[];omega,by simp only[];rw[B0 k (by omega)],by trivial,by simp only[];omega,ao,R,λb d=>?_,n,by simp only[];omega⟩;rcases U b d with d|d
    ·exact l b d
    ·have:=(z.trans (o9.up (M:=A3 g) E)).size;exact .inr (by omega)
   ·have ah:k=x.kids.length:=by simp at hc;omega
    subst ah;simp only[n8,simprocAttr,F];refine o8 results213 ?_;simp only[p8,simprocAttr];rw[dV9]at n;have aj:ak5 x c=o:=by rw[J,n];rfl
    exact⟨by rw[aj];exact B,(o9.up D).trans z,λb d=>(l b d).imp id λh=>dN1 D.size h⟩
def ar0(v:Value)(x:Ex)(w:World)(hv:SV (i4 w) v x)(o:U3 x<=1000000):p7 prog 172 #[v] w λu j=>(A8 (i4 w) j 9 u (ae2 x)/\o7 w j):=by
 refine p9 [v] func172 rfl ?_;obtain⟨a,k,f,d,m⟩:=bm7 (w:=w) (λ_=>False) hv (λ_ h=>h.elim);obtain⟨i,_⟩:=K7.ex_v hv m;have r:=i k (B2 _ _);simp only[n8,o6,simprocAttr,f,r];refine B9 (bg3 v x k (hv.mono (b7 d))) (λl e=>?_);cases hd:ab0 20 x
 ·simp only[n8,o6,simprocAttr];exact o8 results172 ⟨by rw[ae2,hd];exact A8.nil _ _ _,d.trans e⟩
 ·have s:=i l (t8 (B2 _ _) (b7 e));have c:=d.trans e;simp only[n8,o6,simprocAttr,s];refine y5 (cg2 _ x v (.slice none 0 0) [] (i4 w) l (dO0 _) hv (b7 c) (A8.nil _ _ _) (by simpa using o)) ?_;rintro u t ⟨q,g,p⟩;simp only[n8,simprocAttr];exact o8 results172 ⟨by rw[ae2,hd];exact q,o9.ext_of c g λb n=>absurd n D1⟩
def dZ6:=@List.flatMap_append
def dZ1:=@List.take_succ_cons
def ae3(x:Ex):(ae2 x).length<=U3 x:=by
 unfold ae2;split
 ·have:=aI4 x [];simpa using this
 ·simp
def bJ1(a:Ar):(L0 a).length<=an3 a:=by
 have:=ae3 a.x;unfold L0 an3 wtT;split<;>simp<;>omega
def H4{α β:Type}(g:α->List β)(l:List α){k:Nat}(a:k<l.length):(l.take (k+1)).flatMap g=(l.take k).flatMap g++g l[k]:=by
 rw[dN3 a,dZ6];simp
def O1:∀(l:List Ar),(l.flatMap L0).length<=ad1 l
 | []=>by simp
 | a::l=>by
  have b:=O1 l;have c:=bJ1 a;simp only[dW2,dM7,ad1];omega
def au0:∀(l:List Ar) (k:Nat),ad1 (l.take k)<=ad1 l
 | [],k=>by simp
 | a::l,0=>by simp[ad1]
 | a::l,k+1=>by have:=au0 l k;simp only[dZ1,ad1];omega
def bk3(v:Value)(t:St)(w:World)(hv:SV (i4 w) v t)(hl:R4 t<=1000000):p7 prog 162 #[v] w λu A=>(A8 (i4 w) A 9 u (K1 t)/\o7 w A):=by
 refine p9 [v] func162 rfl ?_;rw[S8]at hl;obtain⟨a,g,aq,l,ha⟩:=co9 (w:=w) (λ_=>False) hv (λ_ h=>h.elim);obtain⟨vl,ux,va,vt,ve,_,Z,R,z,_,_,ld,_⟩:=K7.st hv ha;have d:∀A,o7 g A->B5 (B6 g λ_=>False) (i4 A):=λA h=>t8 (B2 _ _) (b7 h);have l1:=ld g (d _ (o9.refl _));have a8:=ae3 t.x;rw[bn7];simp only[dB6,o6,simprocAttr,aq];rw[bn7];simp only[dB6,simprocAttr];refine du9 [1] (λf2 N=>∃u,f2 3=u/\A8 (i4 g) N 9 u (if t.kind≠10/\t.name≠e0 then[t.name]else[])/\o7 g N) (by decide +kernel) ?_ ?_
 ·by_cases h1:t.kind=10
  ·have d1:decide (t.kind=10)=true:=by simp[h1]
   simp only[n8,o6,simprocAttr,l1,d1];exact⟨_,by trivial,by rw[if_neg (λh=>h.1 h1)];exact A8.nil _ _ _,o9.refl _⟩
  ·have d1:decide (t.kind=10)=false:=by simp[h1]
   by_cases h2:t.name=e0
   ·have d2:decide (t.name=e0)=true:=by simp[h2]
    simp only[n8,o6,simprocAttr,l1,d1,d2];exact⟨_,by trivial,by rw[if_neg (λh=>h.2 h2)];exact A8.nil _ _ _,o9.refl _⟩
   ·have d2:decide (t.name=e0)=false:=by simp[h2]
    obtain⟨p1,u',N,p2,p3,p4,p5⟩:=push (e:=31) at4 rfl (A8.nil (i4 g) g 9) (x:=p6 t.name) (y:=t.name) rfl (by simp) (by simp) (i5 _);simp only[n8,o6,simprocAttr,l1,d1,d2,p1,p2];exact⟨u',by trivial,by rw[if_pos ⟨h1,h2⟩];exact p3,o9.ext_of (o9.refl _) p4 λb q=>absurd q D1⟩
 ·rintro f2 N S ⟨u0,g3,H,n⟩;simp only[dM6,p8,↓reduceIte,Nat.reduceEqDiff]at S;obtain⟨g1,_⟩:=S;have X:K1 t=(if t.kind≠10/\t.name≠e0 then[t.name]else[])++ae2 t.x++t.args.flatMap L0:=rfl;have G:(if t.kind≠10/\t.name≠e0 then[t.name]else[]).length<=1:=by split<;>simp
  generalize(if t.kind≠10/\t.name≠e0 then[t.name]else[])=o0 at H G X;obtain⟨aD,_⟩:=K7.ex_v Z R;have l2:=ld N (d _ n);have aF:=aD N (d _ n);have ac:=l.trans n;simp only[n8,o6,simprocAttr,g1,g3,aF];refine y5 (ar0 ux t.x N (Z.mono (b7 ac)) (by omega)) ?_;rintro u3 w3 ⟨ay,o⟩;have aQ:1<=wtT t.name/\1<=wtT t.proc:=by simp[wtT]
  obtain⟨u4,w4,a1,a2,a3,a4⟩:=am3 (P:=prog) (e:=31) at4 (H.ext o) (ay.rw_ (b7 o)) (i5 _) (by omega) (by omega) (b7 (n.trans o));have C:o7 g w4:=o9.ext_of (n.trans o) a3 λb q=>D0 ((H.ext o).free q);have l4:=ld w4 (d _ C);have ao:=z.isS;have ax:=z.vlen;have a6:=aq6 t.args;simp only[n8,o6,simprocAttr,g1,a1,l4,ao,ax];refine n9 [25,26] (σ:=Nat×Value) (λs f A=>f 27 = .int .i64 s.1/\f 3=s.2/\s.1<=t.args.length/\A8 (i4 g) A 9 s.2 (o0++ae2 t.x++(t.args.take s.1).flatMap L0)/\o7 g A) (λs=>t.args.length-s.1) (0,u4) ?_ ?_
  ·simp only[p8,simprocAttr];exact⟨by trivial,by trivial,dN6 _,by simpa using a2,C⟩
  ·rintro⟨k,u⟩ f w5 T ⟨i,h3,aw,j,M⟩;simp only at i h3 aw j;simp only[dM6,p8,↓reduceIte,Nat.reduceEqDiff]at T;obtain⟨am,an,_⟩:=T;simp only[n8,o6,simprocAttr,i,an];refine n7 (λhc=>?_) (λhc=>?_)
   ·have r:k<t.args.length:=by simpa using hc
    have av:=z.inS r;have ad:=l.trans M;obtain⟨sv,J,U⟩:=F9 (P:=prog) (t:=124) z (b7 ad) (dM4 r) aK3 aK4 aE0 X1;rw[X1]at U;have L:=H4 L0 t.args r;have ab:=aO0 (dN5 r);have aP:((t.args.take k).flatMap L0).length<=ad1 t.args:=dN1 (O1 _) (au0 _ _);have c:((t.args.take (k+1)).flatMap L0).length<=ad1 t.args:=dN1 (O1 _) (au0 _ _);rw[L]at c;generalize t.args[k]=y at J L ab c;have B:L0 y=(if y.ref then[y.name]else[])++ae2 y.x:=rfl;rw[B]at c;simp only[dM7]at c;obtain⟨b,wz,w6,Q,Y,af,ap⟩:=cu5 (w:=w5) (A3 u) J (λb q=>j.lt q);obtain⟨uy,aa,F,aC,_⟩:=K7.ar J ap;obtain⟨aE,_⟩:=K7.ex_v aa F;have I:=j.ext af;have D:=M.trans af;have l6:=aC w6 (B2 _ _);simp only[n8,o6,y0,simprocAttr,i,am,av,U,Q,Y,l6];generalize hK:CW prog _ (ab3 1 (af8 _ _))=K;have ag:∀(u7:Value) (O:Fr) (E:World),O 3=u7->O 5 = .pointer (some b)->O 27 = .int .i64 k->A8 (i4 g) E 9 u7 (o0++ae2 t.x++(t.args.take k).flatMap L0++(if y.ref then[y.name]else[]))->o9 (A3 u) w6 E->K O E:=by
     intro u7 O E q3 q5 aL W V;have m:o7 g E:=o9.ext_of D V λb q=>D0 (I.free q);have aG:=aE E (E1 V);rw[<-hK];simp only[n8,o6,simprocAttr,q3,q5,aG];refine y5 (ar0 uy y.x E (aa.mono (b7 (l.trans m))) (by unfold an3 at ab;omega)) ?_;rintro u8 w8 ⟨az,p⟩;obtain⟨u9,w9,c1,c2,c3,c4⟩:=am3 (P:=prog) (e:=31) at4 (W.ext p) (az.rw_ (b7 p)) (i5 _) (by simp only[dM7];omega) (by simp only[dM7];omega) (b7 (m.trans p));have ae:o7 g w9:=o9.ext_of (m.trans p) c3 λb q=>D0 ((W.ext p).free q);simp only[n8,o6,simprocAttr,c1,aL];refine⟨(k+1,u9),by omega,dO2 _ (B0 k (by omega)),by trivial,by omega,?_,ae⟩;simp only[];rw[L,B];simp only[dP5]at c2 ⊢;exact c2
    cases hr:y.ref
    ·simp only[n8,simprocAttr];refine ag u _ _ ?_ ?_ ?_ (by rw[hr];simpa using I) (o9.refl _)<;>simp only[p8,↓reduceIte,Nat.reduceEqDiff,h3,i]
    ·obtain⟨p1,u7,E,p2,p3,p4,p5⟩:=push (e:=31) at4 rfl I (x:=p6 y.name) (y:=y.name) rfl (by simp only[dM7];omega) (by simp only[dM7];omega) (b7 D);simp only[n8,o6,simprocAttr,h3,l6,p1,p2];refine ag u7 _ _ ?_ ?_ ?_ (by rw[hr];exact p3) p4<;>simp only[p8,↓reduceIte,Nat.reduceEqDiff,i]
   ·have au:k=t.args.length:=by simp at hc;omega
    subst au;simp only[n8,simprocAttr,h3];refine o8 results162 ?_;simp only[p8,simprocAttr];rw[dN8]at j;exact⟨by rw[X];exact j.back l,l.trans M⟩
def cf6(v:Value)(s:St)(w:World)(hv:SV (i4 w) v s)(hb:R4 s<=1000000):p7 prog 160 #[v] w λu w'=>(u = .bool (U9 s)/\o7 w w'):=by
 refine p9 [v] func160 rfl ?_;obtain⟨a,e,ab,hx,ha⟩:=ao2 hv (i5 _);obtain⟨vl,va,vt,ve,hl,y,ht,he,E,ld,sd⟩:=ha.st;have d:=hx.trans (o7.drew e);have C:=ld e.drew (b7 (o7.drew e));have s1:=sd (λw2=>o7 e.drew w2) e.drew (o9.refl _) (λw' h=>b7 ((o7.drew e).trans h));simp only[n8,o6,simprocAttr,ab];refine C0 (λw2=>o7 e.drew w2) 8 (A5 [0,1,2,3,4,5,6,7]) ?_;simp only[D6,A5,n8,o6,simprocAttr,s1];simp only[n8,o6,simprocAttr,C];generalize hK:CW prog _ (bz0 prog _ _)=K;have Y:=y.isS;have ac:=y.vlen;have Z:=ht.isS;have ad:=ht.vlen;have aa:=he.isS;have ae:=he.vlen;have c1:decide ((0:Int)<((s.args.length:Nat):Int))=decide (0<s.args.length):=dR5.2 (by omega);have c2:decide ((0:Int)<((s.thn.length:Nat):Int))=decide (0<s.thn.length):=dR5.2 (by omega);have c3:decide ((0:Int)<((s.els.length:Nat):Int))=decide (0<s.els.length):=dR5.2 (by omega);have b:∀(k:Fl) (f:Fr),X6 s=some k->f 1 = .pointer (some a)->f 3 = .bool k.name->f 4 = .bool k.proc->f 5 = .bool k.x->f 6 = .bool k.has->f 7 = .bool k.thn->f 8 = .bool k.els->f 9 = .bool (decide (s.kind=4))->K f e.drew:=by
  rintro⟨O,P,Q,M,th,el⟩ f hk r H I J R g7 g8 g9;simp only at H I J R g7 g8;have x:U9 s=(!(M||(!th&&decide (0<s.thn.length))||(!el&&decide (0<s.els.length))||(!decide (s.kind=4)&&decide (0<s.args.length))) &&
   Z3 s.name O&&Z3 s.proc P&&ak0 s.x Q&&aL6 s.args):=by rw[U9,hk]
  clear hk;generalize decide (s.kind=4)=ar at x g9;rw[<-hK,bn7];generalize X:CW prog _ (bz0 prog _ _)=K2;have A:∀(f:Fr),f 1 = .pointer (some a)->f 3 = .bool O->f 4 = .bool P->f 5 = .bool Q->(M||(!th&&decide (0<s.thn.length))||(!el&&decide (0<s.els.length))||(!ar&&decide (0<s.args.length)))=false->K2 f e.drew:=by
   intro f r H I J S;rw[S]at x;rw[<-X]
   ·simp only[n8,o6,simprocAttr,r,H,C];refine y5 (bc9 s.name O _) ?_;rintro u w3 ⟨rfl,rfl⟩;cases i:Z3 s.name O
    ·simp only[n8,o6,simprocAttr];refine o8 results160 ?_;simp only[p8,simprocAttr];exact⟨by rw[x,i];rfl,d⟩
    simp only[n8,o6,simprocAttr,r,I,C];refine y5 (bc9 s.proc P _) ?_;rintro u w3 ⟨rfl,rfl⟩;cases l:Z3 s.proc P
    ·simp only[n8,o6,simprocAttr];refine o8 results160 ?_;simp only[p8,simprocAttr];exact⟨by rw[x,i,l];rfl,d⟩
    obtain⟨sx,af,lx,_⟩:=E.ex_v;have ah:=lx e.drew (b7 (o7.drew e));simp only[n8,o6,simprocAttr,r,J,ah];refine y5 (bH8 sx s.x Q _ (af.mono (b7 (o7.drew e)))) ?_;rintro u w3 ⟨rfl,n⟩;cases t:ak0 s.x Q
    ·simp only[n8,o6,simprocAttr];refine o8 results160 ?_;simp only[p8,simprocAttr];exact⟨by rw[x,i,l,t];rfl,d.trans n⟩
    have l3:=ld w3 (b7 ((o7.drew e).trans n));simp only[n8,o6,simprocAttr,r,l3];refine y5 (cg8 va s.args _ (A4.mono (b7 ((o7.drew e).trans n)) y) (by have:=aq6 s.args;rw[S8]at hb;omega)) ?_;rintro u w4 ⟨rfl,ag⟩;simp only[n8,simprocAttr];refine o8 results160 ?_;simp only[p8,simprocAttr];exact⟨by rw[x,i,l,t];simp,d.trans (n.trans ag)⟩
  have D:(M||(!th&&decide (0<s.thn.length))||(!el&&decide (0<s.els.length))||(!ar&&decide (0<s.args.length)))=true->U9 s=false:=λh=>by rw[x,h];rfl
  cases M
  case true=>
   simp only[n8,simprocAttr,R];refine o8 results160 ?_;simp only[p8,simprocAttr];exact⟨by rw[D rfl],d⟩
  cases th<;>cases d2:decide (0<s.thn.length)<;>cases el<;>cases d3:decide (0<s.els.length)<;>cases ar<;>cases d1:decide (0<s.args.length) <;>
  ·rw[d1]at c1;rw[d2]at c2;rw[d3]at c3;simp only[n8,o6,simprocAttr,r,R,g7,g8,g9,C,Y,ac,Z,ad,aa,ae,c1,c2,c3]
   first
   | refine A _ ?_ ?_ ?_ ?_ (by rw[d1,d2,d3];rfl)<;>simp only[p8,↓reduceIte,Nat.reduceEqDiff,r,H,I,J]
   | refine o8 results160 ?_
     simp only[p8,simprocAttr];exact⟨by rw[D (by rw[d1,d2,d3];rfl)],d⟩
 have N:∀m:Int,m≠4->decide (s.kind=m)=true->decide (s.kind=4)=false:=λm hm h=>by
  have:=dM8 h;exact dW8 (by omega)
 refine n7 (λi=>?_) (λi=>?_)
 ·have c:=N 1 (by omega) i;have g:=dM8 i;simp only[n8,simprocAttr,c];refine b ⟨true,false,true,s.has,false,false⟩ _ (by rw[X6,if_pos g]) ?_ ?_ ?_ ?_ ?_ ?_ ?_ ?_<;>simp only[p8,↓reduceIte,Nat.reduceEqDiff,c]
 have g:=dN2 i;simp only[n8,o6,simprocAttr];refine n7 (λl=>?_) (λl=>?_)
 ·have c:=N 2 (by omega) l;have k2:=dM8 l;simp only[n8,simprocAttr,l,c];refine b ⟨true,false,false,s.has,false,false⟩ _ (by rw[X6,if_neg g,if_pos (.inl k2)]) ?_ ?_ ?_ ?_ ?_ ?_ ?_ ?_<;>simp only[p8,↓reduceIte,Nat.reduceEqDiff,c]
 have k2:=dN2 l;simp only[n8,o6,simprocAttr];refine n7 (λj=>?_) (λj=>?_)
 ·have c:=N 10 (by omega) j;have F:=dM8 j;simp only[n8,simprocAttr,c];refine b ⟨true,false,false,s.has,false,false⟩ _ (by rw[X6,if_neg g,if_pos (.inr F)]) ?_ ?_ ?_ ?_ ?_ ?_ ?_ ?_<;>simp only[p8,↓reduceIte,Nat.reduceEqDiff,c]
 have F:=dN2 j;have q:¬(s.kind=2\/s.kind=10):=by omega
 simp only[n8,o6,simprocAttr];refine n7 (λt=>?_) (λt=>?_)
 ·have c:=N 3 (by omega) t;have o:=dM8 t;simp only[n8,simprocAttr,c];refine b ⟨false,false,true,s.has,false,false⟩ _ (by rw[X6,if_neg g,if_neg q,if_pos o]) ?_ ?_ ?_ ?_ ?_ ?_ ?_ ?_<;>simp only[p8,↓reduceIte,Nat.reduceEqDiff,c]
 have o:=dN2 t;simp only[n8,o6,simprocAttr];refine n7 (λc=>?_) (λc=>?_)
 ·have p:=dM8 c;simp only[n8,o6,simprocAttr,C];refine b ⟨decide (s.name≠e0),true,false,s.has,false,false⟩ _ (by rw[X6,if_neg g,if_neg q,if_neg o,if_pos p]) ?_ ?_ ?_ ?_ ?_ ?_ ?_ ?_<;>simp only[p8,↓reduceIte,Nat.reduceEqDiff,c,decide_not]
 have p:=dN2 c;simp only[n8,o6,simprocAttr];refine n7 (λT=>?_) (λT=>?_)
 ·have z:=dM8 T;simp only[n8,simprocAttr];refine b ⟨false,false,true,s.has,true,true⟩ _ (by rw[X6,if_neg g,if_neg q,if_neg o,if_neg p,if_pos z]) ?_ ?_ ?_ ?_ ?_ ?_ ?_ ?_<;>simp only[p8,↓reduceIte,Nat.reduceEqDiff,c]
 have z:=dN2 T;simp only[n8,o6,simprocAttr];refine n7 (λU=>?_) (λU=>?_)
 ·have B:=dM8 U;simp only[n8,simprocAttr];refine b ⟨false,false,true,s.has,true,false⟩ _ (by rw[X6,if_neg g,if_neg q,if_neg o,if_neg p,if_neg z,if_pos B]) ?_ ?_ ?_ ?_ ?_ ?_ ?_ ?_<;>simp only[p8,↓reduceIte,Nat.reduceEqDiff,c]
 have B:=dN2 U;simp only[n8,o6,simprocAttr];refine n7 (λW=>?_) (λW=>?_)
 ·have G:=dM8 W;simp only[n8,o6,simprocAttr,C];refine b ⟨false,false,s.has,false,false,false⟩ _ (by rw[X6,if_neg g,if_neg q,if_neg o,if_neg p,if_neg z,if_neg B,if_pos G]) ?_ ?_ ?_ ?_ ?_ ?_ ?_ ?_<;>simp only[p8,↓reduceIte,Nat.reduceEqDiff,c]
 have G:=dN2 W;simp only[n8,o6,simprocAttr];refine n7 (λL=>?_) (λL=>?_)
 ·have k7:=dM8 L;simp only[n8,simprocAttr,L];refine b ⟨false,false,false,s.has,false,false⟩ _ (by rw[X6,if_neg g,if_neg q,if_neg o,if_neg p,if_neg z,if_neg B,if_neg G,if_pos (.inl k7)]) ?_ ?_ ?_ ?_ ?_ ?_ ?_ ?_<;>simp only[p8,↓reduceIte,Nat.reduceEqDiff,c]
 have k7:=dN2 L;simp only[n8,o6,simprocAttr];refine n7 (λV=>?_) (λV=>?_)
 ·have k8:=dM8 V;simp only[n8,simprocAttr];refine b ⟨false,false,false,s.has,false,false⟩ _ (by rw[X6,if_neg g,if_neg q,if_neg o,if_neg p,if_neg z,if_neg B,if_neg G,if_pos (.inr k8)]) ?_ ?_ ?_ ?_ ?_ ?_ ?_ ?_<;>simp only[p8,↓reduceIte,Nat.reduceEqDiff,c]
 have k8:=dN2 V;simp only[n8,simprocAttr];refine o8 results160 ?_;simp only[p8,simprocAttr];exact⟨by rw[U9,show X6 s=none by rw[X6,if_neg g,if_neg q,if_neg o,if_neg p,if_neg z,if_neg B,if_neg G,if_neg (by omega)]],d⟩
def az1(d:Nat)(n:Int)(s:St):Option Int:=if n+1>200\/s.id≠n+1\/ae1 s.labels=false\/U9 s=false then none else(K5 d s.thn (n+1)).bind λm=>K5 d s.els m
theorem aR9(d:Nat)(l:List St)(n:Int):K5 (d+1) l n=l.foldlM (az1 d) n:=rfl
def bi0{α β:Type}(g:β->α->Option β)(l:List α)(n:β){k:Nat}(a:k<l.length){m:β}(h:(l.take k).foldlM g n=some m):(l.take (k+1)).foldlM g n=g m l[k]:=by
 rw[dN3 a,List.foldlM_append,h];simp
theorem bh9{α β:Type}(g:β->α->Option β)(l:List α)(n:β){k:Nat}(b:k<l.length){m:β}(h:(l.take k).foldlM g n=some m)(a:g m l[k]=none):l.foldlM g n=none:=by
 conv=>lhs;rw[<-dR8 k l,dR1 b]
 rw[List.foldlM_append,h];show(do let s <-g m l[k];List.foldlM g s (l.drop (k+1)))=none;rw[a];rfl
def aY3:∀(d:Nat) (l:List St) (n m:Int),K5 d l n=some m->n<=m/\(n<=200->m<=200)
 | 0,l,n,m,h=>by
  unfold K5 at h;split at h
  ·simp only[dX0]at h;subst h;exact⟨Int.le_refl _,λh=>h⟩
  ·cases h
 | d+1,l,n,m,h=>by
  rw[aR9]at h
  induction l generalizing n with
  | nil=>simp only[List.foldlM_nil]at h;cases h;exact⟨Int.le_refl _,λh=>h⟩
  | cons s l a=>
   rw[List.foldlM_cons]at h;cases hs:az1 d n s with
   | none=>rw[hs]at h;cases h
   | some b=>
    rw[hs]at h;have c:=a b h;unfold az1 at hs;split at hs
    ·cases hs
    ·rename_i g;cases ht:K5 d s.thn (n+1)with
     | none=>rw[ht]at hs;cases hs
     | some i=>
      rw[ht]at hs;have e:=aY3 d _ _ _ ht;have f:=aY3 d _ _ _ hs;omega
def bv8:∀(d:Nat) (l:List St) (n:Int) (v:Value) (h:Hp) (c:Nat) (w:World),d<=12->B5 h (i4 w)->h c=none->w.heap[c]?=some (.cells #[.int .i64 n] 171 (0,0))->R h v l->I1 l<=1000000->0<=n->n<=200 ->
  p7 prog 105 #[.pointer (some ⟨c,0,none⟩),v,.int .i64 (13-(d:Int))] w λu j=>(u = .bool (K5 d l n).isSome/\(∀m,K5 d l n=some m->j.heap[c]?=some (.cells #[.int .i64 m] 171 (0,0)))/\o9 (λb=>b=c) w j)
 | 0,l,n,v,h,c,w,_,hh,hgb,hcell,hv,_,_,_=>by
  generalize hN:(13:Int)-((0:Nat):Int)=N;refine p9 [.pointer (some ⟨c,0,none⟩),v,.int .i64 N] func105 rfl ?_;have hS:=hv.isS;have hn:=hv.vlen;have d0:decide ((12:Int)<N)=true:=by subst hN;decide
  have c0:decide ((0:Int)<((l.length:Nat):Int))=decide (0<l.length):=dR5.2 (by omega);cases hl:decide (0<l.length)
  ·have U:l.length=0:=by simpa using hl
   have c1:decide ((0:Int)<((l.length:Nat):Int))=false:=c0.trans hl;simp only[n8,o6,simprocAttr,hS,hn,d0,c1];refine n9 [16,17] (σ:=Nat) (λk f j=>f 18 = .int .i64 0/\j=w) (λ_=>0) 0 ?_ ?_
   ·simp only[p8,simprocAttr];exact⟨by trivial,by trivial⟩
   ·rintro k f j hk ⟨q,rfl⟩;simp only[dM6,p8,simprocAttr]at hk;obtain⟨aa,S,_⟩:=hk;simp only[n8,o6,simprocAttr,q,S,c1];refine o8 results105 ?_;simp only[p8,simprocAttr];have e:K5 0 l n=some n:=by unfold K5;rw[if_pos U]
    exact⟨by rw[e];rfl,λm hm=>by rw[e]at hm;cases hm;exact hcell,o9.refl _⟩
  ·have U:¬l.length=0:=by have:0<l.length:=by simpa using hl
                          omega
   simp only[n8,o6,simprocAttr,hS,hn,d0,c0,hl];refine o8 results105 ?_;simp only[p8,simprocAttr];have e:K5 0 l n=none:=by unfold K5;rw[if_neg U]
   exact⟨by rw[e];rfl,λm hm=>(by rw[e]at hm;cases hm),o9.refl _⟩
 | d+1,l,n,v,h,c,w,hd,hh,hgb,hcell,hv,hwt,hn0,hn2=>by
  generalize hN:(13:Int)-((d+1:Nat):Int)=N;refine p9 [.pointer (some ⟨c,0,none⟩),v,.int .i64 N] func105 rfl ?_;have hS:=hv.isS;have hn:=hv.vlen;have d0:decide ((12:Int)<N)=false:=by simp;omega
  have C:IntKind.i64.wrap (N+1)=13-(d:Int):=by rw[M3 _ (by omega)];omega
  simp only[n8,o6,simprocAttr,hS,hn,d0];refine n9 [0,2,16,17] (σ:=Nat×Int) (λs f j=>f 18 = .int .i64 s.1/\s.1<=l.length/\(l.take s.1).foldlM (az1 d) n=some s.2/\0<=s.2/\s.2<=200/\j.heap[c]?=some (.cells #[.int .i64 s.2] 171 (0,0))/\o9 (λb=>b=c) w j) (λs=>l.length-s.1) (0,n) ?_ ?_
  ·simp only[p8,simprocAttr];exact⟨by trivial,dN6 _,by simp,hn0,hn2,hcell,o9.refl _⟩
  ·rintro⟨k,m⟩ f w1 hk ⟨q,aA,g,aC,aD,I,X⟩;simp only at q aA g aC aD I;simp only[dM6,p8,simprocAttr]at hk;obtain⟨e0,e2,aa,S,_⟩:=hk;simp only[n8,o6,simprocAttr,q,S];refine n7 (λhc=>?_) (λhc=>?_)
   ·have B:k<l.length:=by simpa using hc
    have az:=hv.inS B;have af:B5 h (i4 w1):=H5 hh X λb hb=>by subst hb;exact hgb
    have ae:c<w1.heap.size:=(dN0.1 I).1;have ar:∀b,b=c->b<w1.heap.size:=λb hb=>by subst hb;exact ae
    obtain⟨sv,aj,ah⟩:=F9 (P:=prog) (t:=109) hv af (dM4 B) aS7 aT1 aD9 Z7;rw[Z7]at ah;have E:=bi0 (az1 d) l n B g;have D:=bh9 (az1 d) l n B g;have J:R4 l[k]<=1000000:=dN1 (ak2 (dN5 B)) hwt;generalize l[k]=s at aj E D J;obtain⟨a,wz,Y,au,aM,ak,ab⟩:=dB2 (P:=prog) (T:=109) (N:=λb=>b=c) aj (cM3 af λb hb=>by subst hb;exact hgb) ar cm5 rfl Z7;have ad:Y.heap[c]?=some (.cells #[.int .i64 m] 171 (0,0)):=(ak.block c ae id).trans I;obtain⟨H,aK,r,aP⟩:=ag5 (P:=prog) (t:=3) (i:=0) (x:=.int .i64 (m+1)) ad (by simp) rfl rfl (z7 aw5).choose_spec.1 (by rw[<-D9 (z7 aw5).choose_spec.1];exact aZ7);simp only[Array.setIfInBounds,dW4,dP4,dT9,dQ2,Nat.lt_add_one,↓reduceDIte,List.set_toArray,List.set_cons_zero]at r;have aB:=E2 (P:=prog) (t:=3) (i:=0) (u:=.int .i64 m) ad rfl G3;have aO:IntKind.i64.wrap (m+1)=m+1:=M3 _ (by omega);have F:=aP.trans ((o7.drew H).weaken (N:=λb=>b=c) λ_ _ h=>h.elim);have W:B5 (B6 Y λb=>b=c) (i4 H.drew):=E1 F;obtain⟨vl,va,vt,ve,aI,a4,aJ,aH,aY,ld,sd⟩:=ab.st;obtain⟨ss,aL,a7,aS⟩:=ab.st_v;have O:∀j,o7 H.drew j->B5 (B6 Y λb=>b=c) (i4 j):=λj h=>t8 W (b7 h);have s3:=sd (λj=>o7 H.drew j) H.drew (o9.refl _) O;have s4:=aS (λj=>o7 H.drew j) H.drew (o9.refl _) O;have V:∀K f d w,F3 prog (λj=>o7 H.drew j) (Instr.loadAt 3 (.pointer (some ⟨c,0,none⟩))) K f d w=K (C4 f d (.int .i64 (m+1))) w:=λK f d w=>B7 (w0:=H.drew) (o9.refl _) λj aN=>E2 (i:=0) ((aN.block c (dN0.1 r).1 id).trans r) rfl G3;have o:o9 (λb=>b=c) w H.drew:=X.trans ((ak.weaken λ_ _ h=>h.elim).trans F);simp only[n8,o6,y0,simprocAttr,q,e0,aa,az,ah,au,aM,aB,aO,aK];refine C0 (λj=>o7 H.drew j) 25 (A5 [0,1,2,3,4,5,6,7,8,9,10,11,12,13,14,15,16,17,18,19,20,21,22,23,24]) ?_;have p:az1 d m s=none->K5 (d+1) l n=none:=λh=>by rw[aR9];exact D h
    cases b1:decide ((200:Int)<m+1)
    case true=>
     simp only[D6,A5,n8,o6,simprocAttr,e0,V,b1];refine o8 results105 ?_;simp only[p8,simprocAttr];have e:=p (by rw[az1,if_pos (.inl (by simpa using b1))]);exact⟨by rw[e];rfl,λm hm=>(by rw[e]at hm;cases hm),o⟩
    cases b2:decide (s.id=m+1)
    case false=>
     simp only[D6,A5,n8,o6,simprocAttr,e0,V,s3,b1,b2];refine o8 results105 ?_;simp only[p8,simprocAttr];have e:=p (by rw[az1,if_pos (.inr (.inl (by simpa using b2)))]);exact⟨by rw[e];rfl,λm hm=>(by rw[e]at hm;cases hm),o⟩
    simp only[D6,A5,n8,o6,simprocAttr,e0,V,s3,b1,b2];refine y5 (aM5 vl s.labels _ (A4.mono W aI) (by have:=W0 s.labels;rw[S8]at J;omega)) ?_;rintro u w4 ⟨rfl,rfl⟩;cases b3:ae1 s.labels
    case false=>
     simp only[D6,n8,o6,simprocAttr,E8];refine⟨o9.refl _,?_⟩;refine o8 results105 ?_;simp only[p8,simprocAttr];have e:=p (by rw[az1,if_pos (.inr (.inr (.inl b3)))]);exact⟨by rw[e];rfl,λm hm=>(by rw[e]at hm;cases hm),o⟩
    simp only[D6,n8,o6,simprocAttr,E8,s4];refine⟨o9.refl _,?_⟩;refine y5 (cf6 ss s _ (aL.mono W) J) ?_;rintro u Z ⟨rfl,G⟩;have Q:o9 (λb=>b=c) Y Z:=F.trans (G.weaken λ_ _ h=>h.elim);have y:o9 (λb=>b=c) w Z:=o.trans (G.weaken λ_ _ h=>h.elim);cases b4:U9 s
    case false=>
     simp only[D6,n8,o6,simprocAttr,E8];refine⟨G,?_⟩;refine o8 results105 ?_;simp only[p8,simprocAttr];have e:=p (by rw[az1,if_pos (.inr (.inr (.inr b4)))]);exact⟨by rw[e];rfl,λm hm=>(by rw[e]at hm;cases hm),y⟩
    have hK:az1 d m s=(K5 d s.thn (m+1)).bind λm=>K5 d s.els m:=by
     rw[az1,if_neg];simp only[dY8]at b1;have ap:s.id=m+1:=by simpa using b2
     rintro(h|h|h|h)
     ·exact b1 h
     ·exact h ap
     ·rw[b3]at h;cases h
     ·rw[b4]at h;cases h
    have aE:m+1<=200:=by have:=dN2 b1;omega
    have aw:Z.heap[c]?=some (.cells #[.int .i64 (m+1)] 171 (0,0)):=(G.block c (dN0.1 r).1 id).trans r;have L:B5 (B6 Y λb=>b=c) (i4 Z):=E1 Q;have l5:=ld Z L;rw[S8]at J;simp only[D6,n8,o6,simprocAttr,E8];refine⟨G,?_⟩;simp only[n8,o6,simprocAttr,e0,e2,l5,C];refine y5 (bv8 d s.thn (m+1) vt _ c Z (by omega) L (F2 rfl) aw aJ (by omega) (by omega) aE) ?_;rintro u w6 ⟨rfl,aF,al⟩;have z:=y.trans al;cases ht:K5 d s.thn (m+1)with
    | none=>
     simp only[n8,o6,simprocAttr,Option.isSome_none];refine o8 results105 ?_;simp only[p8,simprocAttr];have e:=p (by rw[hK,ht];rfl);exact⟨by rw[e];rfl,λm hm=>(by rw[e]at hm;cases hm),z⟩
    | some m6=>
     have ax:=aF m6 ht;have aZ:=aY3 d _ _ _ ht;have M:B5 (B6 Y λb=>b=c) (i4 w6):=E1 (Q.trans al);have l6:=ld w6 M;simp only[n8,o6,simprocAttr,e0,e2,l6,C];refine y5 (bv8 d s.els m6 ve _ c w6 (by omega) M (F2 rfl) ax aH (by omega) (by omega) (by omega)) ?_;rintro u w7 ⟨rfl,aG,aQ⟩;have A:=z.trans aQ;cases he:K5 d s.els m6 with
     | none=>
      simp only[n8,o6,simprocAttr,Option.isSome_none];refine o8 results105 ?_;simp only[p8,simprocAttr];have e:=p (by rw[hK,ht];exact he);exact⟨by rw[e];rfl,λm hm=>(by rw[e]at hm;cases hm),A⟩
     | some m7=>
      have a0:=aY3 d _ _ _ he;simp only[n8,o6,simprocAttr,q];exact⟨(k+1,m7),by omega,by rw[B0 k (by have:=bI5 l;omega)],by omega,by rw[E,hK,ht];exact he,by omega,by omega,aG m7 he,A⟩
   ·have ay:k=l.length:=by simp at hc;omega
    subst ay;simp only[n8,simprocAttr];refine o8 results105 ?_;simp only[p8,simprocAttr];rw[dN8]at g;have e:K5 (d+1) l n=some m:=by rw[aR9];exact g
    exact⟨by rw[e];rfl,λm' hm=>by rw[e]at hm;cases hm;exact I,X⟩
def cI2:B8 prog 171 []=some (.agg #[.int .i64 0]):=by
 simp[B8,do6,K8,Instr.fill]
def dl2(w:World):∃a b,(Instr.box 171 (.agg #[.int .i64 0])).run prog w = .ok (.pointer (some ⟨a,0,none⟩)) b/\o7 w b/\b.heap[a]?=some (.cells #[.int .i64 0] 171 (0,0))/\w.heap.size<=a:=
 ⟨_,_,rfl,o7.alloc _ _,dQ5 w _,dO0 _⟩
def cn7(v:Value)(p:Pg)(w:World)(hv:SV (i4 w) v p)(a6:C5 p<=1000000):p7 prog 68 #[v] w λu E=>(u = .bool (N2 p)/\o7 w E):=by
 refine p9 [v] func68 rfl ?_;obtain⟨a,V,ab,hx,ha⟩:=X5 hv (i5 _);obtain⟨vg,vp,hg,hp,ld,sd⟩:=ha.pg;have l1:=ld V (i5 _);have X:=hg.isS;have af:=hg.vlen;have Y:=hp.isS;have ag:=hp.vlen;have c1:decide ((16:Int)<((p.globals.length:Nat):Int)) = !decide (p.globals.length<=16):=by
  rw[<-decide_not];exact dR5.2 (by omega)
 have c2:decide ((16:Int)<((p.procs.length:Nat):Int)) = !decide (p.procs.length<=16):=by
  rw[<-decide_not];exact dR5.2 (by omega)
 cases h1:decide (p.globals.length<=16)
 ·rw[h1]at c1;simp only[n8,o6,simprocAttr,ab,l1,X,af,c1];refine o8 results68 ?_;simp only[p8,simprocAttr];exact⟨by rw[N2,h1];rfl,hx⟩
 cases h2:decide (p.procs.length<=16)
 ·rw[h1]at c1;rw[h2]at c2;simp only[n8,o6,simprocAttr,ab,l1,X,af,Y,ag,c1,c2];refine o8 results68 ?_;simp only[p8,simprocAttr];exact⟨by rw[N2,h1,h2];rfl,hx⟩
 rw[h1]at c1;rw[h2]at c2;simp only[n8,o6,simprocAttr,ab,l1,X,af,Y,ag,c1,c2];refine E0 (aM5 vg p.globals _ hg (by have:=dM8 h1;omega)) ?_;cases h3:ae1 p.globals
 ·simp only[n8,o6,simprocAttr];refine o8 results68 ?_;simp only[p8,simprocAttr];exact⟨by rw[N2,h1,h2,h3];rfl,hx⟩
 obtain⟨r,w3,aX,aJ,aY,I⟩:=dl2 V;have aw:i4 V r=none:=aV5 I;have l3:=ld w3 (b7 aJ);have hF:N2 p=(p.procs.foldlM (λn f=>V8 f n) 0).isSome:=by rw[N2,h1,h2,h3];rfl
 simp only[n8,o6,simprocAttr,cI2,aX,l3,Y,ag];refine n9 [3,27,28] (σ:=Nat×Int) (λs f E=>f 29 = .int .i64 s.1/\s.1<=p.procs.length/\(p.procs.take s.1).foldlM (λn f=>V8 f n) 0=some s.2/\0<=s.2/\s.2<=200/\E.heap[r]?=some (.cells #[.int .i64 s.2] 171 (0,0))/\o9 (λb=>b=r) V E) (λs=>p.procs.length-s.1) (0,0) ?_ ?_
 ·simp only[p8,simprocAttr];exact⟨by trivial,dN6 _,by simp,by simp,by simp,aY,aJ.weaken λ_ _ h=>h.elim⟩
 ·rintro⟨k,m⟩ f w4 hk ⟨x,a2,d,aA,aB,ad,ak⟩;simp only at x a2 d aA aB ad;simp only[dM6,p8,simprocAttr]at hk;obtain⟨e3,G,ao,_⟩:=hk;have o:∀E,o9 (λb=>b=r) V E->o7 w E:=λE h=>hx.trans (o9.ext_of (o9.refl _) h λb hb=>by subst hb;exact I);simp only[n8,o6,simprocAttr,x,ao];refine n7 (λhc=>?_) (λhc=>?_)
  ·have B:k<p.procs.length:=by simpa using hc
   have ae:=hp.inS B;have ax:B5 (i4 V) (i4 w4):=H5 (i5 _) ak λb hb=>by subst hb;exact aw
   have av:r<w4.heap.size:=(dN0.1 ad).1;have aV:∀b,b=r->b<w4.heap.size:=λb hb=>by subst hb;exact av
   obtain⟨sv,aG,K⟩:=F9 (P:=prog) (t:=75) hp ax (dM4 B) av8 av9 at7 R2;rw[R2]at K;have D:=bi0 (λn f=>V8 f n) p.procs 0 B d;have C:=bh9 (λn f=>V8 f n) p.procs 0 B d;have aI:X3 p.procs[k]<=1000000:=dN1 (aq7 (dN5 B)) (by unfold C5 at a6;omega);generalize p.procs[k]=q at aG D C aI;obtain⟨b,wz,w5,Z,aj,aK,aW⟩:=dB2 (P:=prog) (T:=75) (N:=λb=>b=r) aG (cM3 ax λb hb=>by subst hb;exact aw) aV cU8 rfl R2;obtain⟨va,vv,vb,ve,M,ah,a4,a5,aM,_⟩:=aW.pr;have i:B5 (B6 w5 λb=>b=r) (i4 w5):=B2 _ _;have l5:=aM w5 i;have R:o9 (λb=>b=r) V w5:=ak.trans (aK.weaken λ_ _ h=>h.elim);have e:=o w5 R;have H:=M.isS;have L:=M.vlen;have aq:=ah.isS;have aC:=ah.vlen;have g:V8 q m=none->N2 p=false:=λh=>by rw[hF,C h];rfl
   unfold X3 at aI;have z:decide ((8:Int)<((q.params.length:Nat):Int))=decide (8<q.params.length):=dR5.2 (by omega);have F:decide ((16:Int)<((q.vars.length:Nat):Int))=decide (16<q.vars.length):=dR5.2 (by omega);cases b1:decide (8<q.params.length)
   case true=>
    rw[b1]at z;simp only[n8,o6,y0,simprocAttr,x,G,ae,K,Z,aj,l5,H,L,z];refine o8 results68 ?_;simp only[p8,simprocAttr];exact⟨by rw[g (by rw[V8,if_pos (.inl (dM8 b1))])],e⟩
   rw[b1]at z;cases b2:decide (16<q.vars.length)
   case true=>
    rw[b2]at F;simp only[n8,o6,y0,simprocAttr,x,G,ae,K,Z,aj,l5,H,L,aq,aC,z,F];refine o8 results68 ?_;simp only[p8,simprocAttr];exact⟨by rw[g (by rw[V8,if_pos (.inr (.inl (dM8 b2)))])],e⟩
   rw[b2]at F;simp only[n8,o6,y0,simprocAttr,x,G,ae,K,Z,aj,l5,H,L,aq,aC,z,F];refine E0 (aG4 q.name _) ?_;cases b3:R0 q.name
   ·simp only[n8,o6,simprocAttr];refine o8 results68 ?_;simp only[p8,simprocAttr];exact⟨by rw[g (by rw[V8,if_pos (.inr (.inr (.inl b3)))])],e⟩
   simp only[n8,o6,simprocAttr,l5];refine E0 (aM5 vv q.vars _ (A4.mono i ah) (by have:=W0 q.vars;omega)) ?_;cases b4:ae1 q.vars
   ·simp only[n8,o6,simprocAttr];refine o8 results68 ?_;simp only[p8,simprocAttr];exact⟨by rw[g (by rw[V8,if_pos (.inr (.inr (.inr (.inl b4))))])],e⟩
   simp only[n8,o6,simprocAttr,l5];refine E0 (aM5 ve q.fin _ (A4.mono i a5) (by have:=W0 q.fin;omega)) ?_;cases b5:ae1 q.fin
   ·simp only[n8,o6,simprocAttr];refine o8 results68 ?_;simp only[p8,simprocAttr];exact⟨by rw[g (by rw[V8,if_pos (.inr (.inr (.inr (.inr (.inl b5)))))])],e⟩
   have bm:=ak1 q.params;simp only[n8,o6,simprocAttr,l5,H,L];refine n9 [3,5,27,28,29,62,63] (σ:=Nat) (λj f E=>f 64 = .int .i64 j/\j<=q.params.length/\(q.params.take j).all (λa=>R0 a.name)=true/\o7 w5 E) (λj=>q.params.length-j) 0 ?_ ?_
   ·simp only[p8,simprocAttr];exact⟨by trivial,dN6 _,by simp,o9.refl _⟩
   ·rintro j f7 w7 hk ⟨W,bl,A,l⟩;simp only[dM6,p8,simprocAttr]at hk;obtain⟨g3,g5,aR,aS,ap,aT,aU,_⟩:=hk;rw[e3]at g3;rw[G]at aR;rw[ao]at aS;rw[x]at ap;have S:o9 (λb=>b=r) V w7:=R.trans (l.weaken λ_ _ h=>h.elim);simp only[n8,o6,simprocAttr,W,aU];refine n7 (λhc=>?_) (λhc=>?_)
    ·have J:j<q.params.length:=by simpa using hc
     have a1:=M.inS J;obtain⟨sa,aE,O⟩:=F9 (P:=prog) (t:=78) M (t8 i (b7 l)) (dM4 J) bx9 by3 bl1 at8;rw[at8]at O;have aH:=aK9 (λa:Pa=>R0 a.name) q.params j J;have Q:=dN5 J;generalize q.params[j]=y at aE aH Q;obtain⟨c,wy,w8,ar,aF,aL,au⟩:=aN6 (aE.mono (t8 i (b7 l))) (i5 _);obtain⟨a9,_⟩:=au.pa;have l8:=a9 w8 (i5 _);simp only[n8,o6,y0,simprocAttr,W,aT,a1,O,ar,aF,l8];refine E0 (aG4 y.name _) ?_;cases b6:R0 y.name
     ·simp only[n8,o6,simprocAttr];refine o8 results68 ?_;simp only[p8,simprocAttr];refine⟨by rw[g (by rw[V8,if_pos (.inr (.inr (.inr (.inr (.inr (aA7 (p:=λa:Pa=>R0 a.name) Q b6))))))])],o _ (S.trans (aL.weaken λ_ _ h=>h.elim))⟩
     ·simp only[n8,o6,simprocAttr,W];exact⟨j+1,by omega,dO2 _ (B0 j (by omega)),by omega,by rw[aH,A,b6];rfl,l.trans aL⟩
    ·have ay:j=q.params.length:=by simp at hc;omega
     subst ay;rw[dN8]at A;have aZ:w7.heap[r]?=some (.cells #[.int .i64 m] 171 (0,0)):=((aK.trans l).block r av id).trans ad;have l7:=aM w7 (t8 i (b7 l));have aD:V8 q m=K5 12 q.body m:=by
      rw[V8,if_neg];have d1:=dN2 b1;have d2:=dN2 b2;rintro(h|h|h|h|h|h)
      ·exact d1 h
      ·exact d2 h
      ·rw[b3]at h;cases h
      ·rw[b4]at h;cases h
      ·rw[b5]at h;cases h
      ·rw[A]at h;cases h
     simp only[n8,o6,simprocAttr,g3,g5,l7];refine y5 (bv8 12 q.body m vb _ r w7 (by omega) (t8 i (b7 l)) (F2 rfl) aZ a4 (by omega) aA aB) ?_;rintro u w9 ⟨rfl,a3,a7⟩;have U:=S.trans a7;cases hr:K5 12 q.body m with
     | none=>
      simp only[n8,o6,simprocAttr,Option.isSome_none];refine o8 results68 ?_;simp only[p8,simprocAttr];exact⟨by rw[g (by rw[aD,hr])],o _ U⟩
     | some m9=>
      have bd:=aY3 _ _ _ _ hr;simp only[n8,o6,simprocAttr,ap];exact⟨(k+1,m9),by omega,by rw[B0 k (by have:=dM8 h2;omega)],by omega,by rw[D,aD,hr],by omega,by omega,a3 m9 hr,U⟩
  ·have I:k=p.procs.length:=by simp at hc;omega
   subst I;simp only[n8,simprocAttr];refine o8 results68 ?_;simp only[p8,simprocAttr];rw[dN8]at d;exact⟨by rw[hF,d];rfl,o _ ak⟩
def dO5:=@List.contains_iff_mem
def dd2(v:Value)(q:Pr)(w:World)(hv:SV (i4 w) v q)(hw:X3 q<=1000000):p7 prog 108 #[v] w λu r=>(A8 (i4 w) r 9 u (bm0 q)/\o7 w r):=by
 refine p9 [v] func108 rfl ?_;obtain⟨a,N,E,o,Y⟩:=bm6 hv (i5 _);obtain⟨va,vv,vb,vf,d,K,_,_,Q,_⟩:=Y.pr;have l1:=Q N (i5 _);have B:=d.isS;have J:=d.vlen;have Z:=ak1 q.params;have aa:=W0 q.vars;unfold X3 at hw;simp only[n8,o6,simprocAttr,E,l1,B,J];refine n9 [1,7,8] (σ:=Nat×Value) (λs f r=>f 9 = .int .i64 s.1/\f 3=s.2/\s.1<=q.params.length/\A8 (i4 N) r 9 s.2 ((q.params.take s.1).map (·.name))/\o7 N r) (λs=>q.params.length-s.1) (0,.slice none 0 0) ?_ ?_
 ·simp only[p8,simprocAttr];exact⟨by trivial,by trivial,dN6 _,by simpa using A8.nil _ _ _,o9.refl _⟩
 ·rintro⟨k,u⟩ f w2 O ⟨A,z,I,j,c⟩;simp only at A z I j;simp only[dM6,p8,simprocAttr]at O;obtain⟨V,W,X,_⟩:=O;simp only[n8,o6,simprocAttr,A,X];refine n7 (λF=>?_) (λF=>?_)
  ·have h:k<q.params.length:=by simpa using F
   have H:=d.inS h;obtain⟨sv,m,i⟩:=F9 (P:=prog) (t:=78) d (b7 c) (dM4 h) bx9 by3 bl1 at8;rw[at8]at i;have n:(q.params.take (k+1)).map (·.name)=(q.params.take k).map (·.name)++[q.params[k].name]:=by
    rw[dN3 h,dP6];rfl
   generalize q.params[k]=y at m n;obtain⟨b,wz,w3,C,L,p,D⟩:=aN6 (m.mono (b7 c)) (i5 _);obtain⟨M,_⟩:=D.pa;have l3:=M w3 (i5 _);have l:=j.ext p;have g:=c.trans p;obtain⟨p1,R,w4,p2,p3,p4,p5⟩:=push (e:=31) at4 rfl l (x:=p6 y.name) (y:=y.name) rfl (by simp;omega) (by simp;omega) (b7 g);simp only[n8,o6,y0,simprocAttr,A,z,W,H,i,C,L,l3,p1,p2];exact⟨(k+1,R),by omega,dO2 _ (B0 k (by omega)),by trivial,by omega,by rw[n];exact p3,l.ext2 g p4⟩
  ·have G:k=q.params.length:=by simp at F;omega
   subst G;rw[dN8]at j;have l2:=Q w2 (b7 c);obtain⟨R,w4,S,T,U,c4⟩:=am3 (P:=prog) (e:=31) at4 j K (b7 c) (by simp;omega) (by simp;omega) (b7 c);simp only[n8,o6,simprocAttr,z,V,l2,S];exact o8 results108 ⟨T.back o,o.trans (j.ext2 c U)⟩
def be9(v:Value)(l:List A6)(w:World)(hv:R (i4 w) v l)(G:l.length<=1000000000):p7 prog 107 #[v] w λu i=>(u = .bool (ac1 l)/\i=w):=by
 refine p9 [v] func107 rfl ?_;have s:=hv.isS;have D:=hv.vlen;have E:=hv.vcap;simp only[n8,o6,simprocAttr,s,D];refine n9 [0,5,6] (σ:=Nat) (λk f i=>f 7 = .int .i64 k/\k<=l.length/\(l.take k).Nodup/\i=w) (λk=>l.length-k) 0 ?_ ?_
 ·simp only[p8,simprocAttr];exact⟨by trivial,dN6 _,by simp,by trivial⟩
 ·rintro k f i x ⟨j,C,h,rfl⟩;simp only[dM6,p8,simprocAttr]at x;obtain⟨e0,z,A,_⟩:=x;simp only[n8,o6,simprocAttr,j,A];refine n7 (λm=>?_) (λm=>?_)
  ·have c:k<l.length:=by simpa using m
   have o:=hv.inS c;have p:=ldS hv (i5 _) c;have d:=bQ7 hv (dN6 k) (Nat.le_of_lt c);rw[dV7]at d;have y:decide ((k:Int)<=(vcap v:Int))=true:=by simp;omega
   have F:A4.sz A6=1:=rfl;rw[F]at d;simp only[n8,o6,y0,F8,simprocAttr,j,e0,z,o,p,s,y];refine E0 (P6 _ (l.take k) l[k] _ d (by rw[dN9];omega)) ?_;cases hq:(l.take k).contains l[k]
   ·simp only[n8,o6,simprocAttr,j];refine⟨k+1,by omega,dO2 _ (B0 k (by omega)),by omega,?_,by trivial⟩;rw[dN3 c,dR0];refine⟨h,by simp,λa B b t=>?_⟩;simp only[dP1]at t;subst t;intro e;subst e;have:=dO5.2 B;rw[hq]at this;cases this
   ·simp only[n8,simprocAttr];refine o8 results107 ?_;simp only[p8,simprocAttr];refine⟨?_,by trivial⟩;have:¬l.Nodup:=λq=>by
     have r:l=l.take k++(l[k]::l.drop (k+1)):=by
      have:=dR8 k l;rw[dR1 c]at this;exact this.symm
     have g:=q;rw[r,dR0]at g;exact g.2.2 _ (dO5.1 hq) _ List.mem_cons_self rfl
    simp[ac1,this]
  ·have n:k=l.length:=by simp at m;omega
   subst n;simp only[n8,simprocAttr];refine o8 results107 ?_;simp only[p8,simprocAttr];rw[dN8]at h;exact⟨by simp[ac1,h],by trivial⟩
end Go.Proofs.YtfadjbljajfkfaaGreat

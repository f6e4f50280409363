/- What the functions of the program do, for every input; plain facts. No condition, no statement of its own. Part 2. -/
import Derived.Ground.Names2Prog
import Derived.Ground.NamesProg
import Derived.Laws.StructEq
import Derived.Lib.SlicesCompact
import Derived.Shelf.SlSortCmp.NoneTotal
import Derived.Shelf.SlSortCmp.WholeK
import Derived.Shelf.Slices.Clone
import Derived.Shelf.Slices.CompactS
import Derived.Shelf.Slices.Empties
import Derived.Shelf.Slices.In.SortNone
import Derived.Shelf.Slices.SearchI
import Derived.Shelf.Sort.Plain
import Derived.Shelf.Spec.SlicesInsert
import Derived.Shelf.Spec.SlicesInsertGrow
import Derived.Sort.Walk0
import Derived.Test.YtggahhenbbgffaaGreatProg
import Derived.WideKeyRuns
import Derived.Test.YtggahhenbbgffaaGreatZ1
set_option maxRecDepth 1000000
set_option maxHeartbeats 8000000
set_option linter.unusedVariables false
set_option linter.unusedSimpArgs false
set_option linter.unnecessarySimpa false
set_option linter.defProp false
namespace Go.Proofs.YtggahhenbbgffaaGreat
open Go Tryz
def eo9:=@List.drop_length
def ei3:=@List.forall_mem_cons
def ef7:=@of_decide_eq_false
def ef3:=@of_decide_eq_true
mutual
def ac5:∀(t:St) (k:Nat) (c d b a:Int),(W0 t k c d b a).length=X7 t
 | .mk id kind labels name proc x has args thn els,k,c,d,b,a=>by
  simp only[W0,ei2,ef4,I8,X7];omega
def I8:∀(l:List St) (k:Nat) (c d b a:Int),(C8 l k c d b a).length=A7 l
 | [],_,_,_,_,_=>by simp[C8,A7]
 | t::l,k,c,d,b,a=>by
  simp only[C8,ef4,ac5,I8,A7]
end
def P3(t:St)(k:Nat)(b up nx a:Int):W0 t k b up nx a =
  ⟨t,b,up,nx,a⟩::(C8 t.thn (k+1) b ((k:Int)+1) (if t.kind=6 then(k:Int)+1 else nx) (if t.kind=6 then(k:Int)+1 else a) ++
   C8 t.els (k+1+A7 t.thn) b ((k:Int)+1) (if t.kind=6 then(k:Int)+1 else nx) (if t.kind=6 then(k:Int)+1 else a)):=by
 cases t;simp only[W0,I8,St.thn,St.els,St.kind];rfl
def dw1:∀(m:Nat) (l:List St) (o:It) (va v:Value) (h:Hp) (n:Nat) (vg vp T F E:Value) (L:List It) (lo D:List Int) (w:World),A7 l<=m->ShS h w n vg vp T F E L lo D->B8 h (m8 w)->R h v l->SV h va o->J4 l<=1000000->L.length+A7 l<=1000000 ->
  o9 prog 146 #[.pointer (some ⟨n,0,none⟩),v,va] w λu V=>(∃bL,ShS h V n vg vp bL F E (L++C8 l L.length o.proc o.up o.next o.loop) lo D/\o8 (λb=>b=n\/A0 T b) w V/\E9 w T bL):=by
 intro m
 induction m using Nat.strongRecOn with
 | ind m ih=>
 intro l o va v h n vg vp T F E L lo D w dd hs hh hv aA dg c9;refine p9 [.pointer (some ⟨n,0,none⟩),v,va] func146 rfl ?_;have hS:=hv.isS;have hn:=hv.vlen;have a9:∀b,(b=n\/A0 T b)->b<w.heap.size:=λb g=>by
  rcases g with rfl|g
  .exact hs.lt
  .exact hs.oL.lt g
 obtain⟨a,w1,b4,an,ha⟩:=dq4 (w:=w) (λb=>b=n\/A0 T b) aA a9;have cR:∀b,(b=n\/A0 T b)->b<w1.heap.size:=λb g=>el8 (a9 b g) an.size;obtain⟨c3,cu,_,cB,_⟩:=I6.it aA ha;obtain⟨cE,_⟩:=I6.it_v aA ha;have cm:=hs.ext an;have aT:∀b,(b=n\/A0 T b)->h b=none:=λb g=>by
  rcases g with rfl|g
  .exact hs.free
  .exact hs.oL.free g
 have b8:B8 h (m8 w1):=p7 hh (b7 an);simp only[n8,n9,simprocAttr,b4,hS,hn];refine D9 [0,1,5,11,12] (σ:=Nat×Value×List It) (λs f V=>f 13 = .int .i64 s.1/\s.1<=l.length/\ShS h V n vg vp s.2.1 F E (L++s.2.2) lo D/\o8 (λb=>b=n\/A0 T b) w1 V/\E9 w1 T s.2.1 /\
  C8 l L.length o.proc o.up o.next o.loop=s.2.2++C8 (l.drop s.1) (L.length+s.2.2.length) o.proc o.up o.next o.loop/\s.2.2.length+A7 (l.drop s.1)=A7 l) (λs=>l.length-s.1) (0,T,[]) ?_ ?_
 .simp only[B3,simprocAttr];exact⟨by trivial,eg3 _,by simpa using cm,o8.refl _,λb g=>.inl g,by simp,by simp⟩
 .rintro⟨k,B,j⟩ f w2 hk ⟨ab,cg,W,aZ,S,G,ac⟩;simp only at ab cg W S G ac;simp only[ei3,B3,simprocAttr]at hk;obtain⟨e0,e1,e5,bT,bU,_⟩:=hk;simp only[n8,n9,simprocAttr,ab,bU];refine y5 (λax=>?_) ?_
  .have cb:=hv.inS ax;have aw:B8 h (m8 w2):=H2 b8 aZ aT;obtain⟨sv,Y,bh⟩:=F5 (P:=prog) (t:=109) hv aw (ef1 ax) bc0 bc4 aL0 ad2;rw[ad2]at bh;have ad:l.drop k=l[k]::l.drop (k+1):=ej8 ax;have cx:=ap0 (eg2 ax);have cl:(l.drop (k+1)).length=l.length-(k+1):=el6;generalize l[k]=t at Y ad cx;rw[ad]at G ac;rw[A7]at ac;have db:=az4 t;have df:=V7 t;have aW:(L++j).length=L.length+j.length:=ef4;have C:∀b,(b=n\/A0 B b)->h b=none:=λb g=>by
    rcases g with rfl|g
    .exact hs.free
    .exact W.oL.free g
   have bZ:∀b,(b=n\/A0 B b)->b<w2.heap.size:=λb g=>by
    rcases g with rfl|g
    .exact W.lt
    .exact W.oL.lt g
   obtain⟨b,wz,H,b1,cr,ao,bc⟩:=dx7 (w:=w2) (λb=>b=n\/A0 B b) Y bZ;obtain⟨vl,ux,dt,vt,ve,de,_,_,cY,cw,cv,a2,dr⟩:=I6.st Y bc;obtain⟨bD,_⟩:=I6.st_v Y bc;have z:=W.ext ao;have p:o8 (λb=>b=n\/A0 T b) w1 H:=aZ.trans (o8.up ao);have cd:B8 (C1 H λb=>b=n\/A0 B b) (m8 H):=A8 _ _;have b2:B8 (C1 w1 λb=>b=n\/A0 T b) (m8 H):=D8 p;have be:=E7 (P:=prog) (t:=151) (i:=2) (u:=B) z.cell rfl bo6;have b0:=z.oL.isS;have bk:=z.oL.vlen;rw[aW]at bk;have ca:IntKind.i64.wrap (((L.length+j.length:Nat):Int)+1)=((L.length+j.length+1:Nat):Int):=H8 _;obtain⟨tb,wy,w4,ba,bo,a0,cU,bs⟩:=ab1.new (w:=H) aA;have cn:=z.ext a0;have ce:B8 (C1 H λb=>b=n\/A0 B b) (m8 w4):=p7 cd (b7 a0);obtain⟨w5,bp,aL,bz⟩:=bs.setS Y;have J:o8 (λb=>b=n\/A0 B b) H w5:=(o8.up a0).chain bz λi D g=>by omega
   have co:ShS h w5 n vg vp B F E (L++j) lo D:=cn.mod bz (by have:=z.lt;omega) (λb g=>by have:=z.oL.lt g;omega) (λb g=>by have:=z.oLo.lt g;omega) (λb g=>by have:=z.oHi.lt g;omega);have aU:IntKind.i64.wrap ((k:Int)+1)=((k+1:Nat):Int):=H8 k (by have:=V9 l;omega);have cf:B8 (C1 H λb=>b=n\/A0 B b) (m8 w5):=D8 J;have cA:=bD w5 cf;simp only[n8,n9,y4,simprocAttr,ab,e0,e1,e5,bT,cb,bh,b1,cr,be,b0,bk,ca,cE H b2,ba,bo,bD w4 ce,bp,hS,hn,aU];generalize hK:CW prog _ (aa5 1 (ad0 _ _))=K;have bC:∀(nx:Int) (f6:Fr) (I:World),nx=(if(l.drop (k+1)).length=0 then o.next else((L.length+j.length:Nat):Int)+1+(X7 t:Nat))->ab1 h I tb ⟨t,o.proc,o.up,nx,o.loop⟩->o8 (λb=>b=tb) w5 I ->
     f6 0 = .pointer (some ⟨n,0,none⟩)->f6 5 = .pointer (some a)->f6 7 = .pointer (some b)->f6 8 = .int .i64 ((L.length+j.length+1:Nat):Int)->f6 9 = .pointer (some ⟨tb,0,none⟩)->f6 13 = .int .i64 k->K f6 I:=by
    intro nx f6 I cj am ap g0 g5 g7 g8 g9 a8;have cp:ShS h I n vg vp B F E (L++j) lo D:=co.mod ap (by have:=z.lt;omega) (λb g=>by have:=z.oL.lt g;omega) (λb g=>by have:=z.oLo.lt g;omega) (λb g=>by have:=z.oHi.lt g;omega);have N:o8 (λb=>b=n\/A0 B b) H I:=J.chain ap λi D g=>by omega
    have A:=cp.ext (o6.drew I);obtain⟨iv,cc,cC⟩:=am.ld;have b9:B8 h (m8 I.drew):=by
     have h3:B8 h (m8 H):=p7 aw (b7 ao);exact p7 (H2 h3 N C) (b7 (o6.drew I))
    obtain⟨p1,aq,w7,p2,p3,p4,p5⟩:=push (e:=151) dR6 rfl A.oL (x:=iv) (y:=⟨t,o.proc,o.up,nx,o.loop⟩) cc.enc (by rw[aW];omega) (by rw[aW];omega) b9;have b5:w7.heap[n]?=some (.cells #[vg,vp,B,F,E] 153 (0,0)):=(p4.block n A.lt λg=>(A.d1 n g).1 rfl).trans A.cell;obtain⟨w8,s8,b6,a1⟩:=af3 (P:=prog) (t:=151) (i:=2) (x:=aq) b5 (by simp) (F0 p3.isS) (X1 p3.isS) (z7 dm1).choose_spec.1 (by rw[<-E1 (z7 dm1).choose_spec.1];exact dI3);have ak:ShS h w8 n vg vp aq F E ((L++j)++[⟨t,o.proc,o.up,nx,o.loop⟩]) lo D:=A.setL p4 p3 p5 a1 (by simpa using b6);have cs:H.heap.size<=I.drew.heap.size:=(N.trans (o8.up (o6.drew I))).size;have O:o8 (λb=>b=n\/A0 B b) H w8:=((N.trans (o8.up (o6.drew I))).chain p4 λi D g=>.inr g).chain a1 λi D g=>.inl g;have ay:o8 (λb=>b=n\/A0 T b) w1 w8:=p.chain O λi D g=>by
     rcases g with g|g
     .exact .inl g
     .rcases S i g with g|g
      .exact .inr g
      .omega
    have aH:∀i,i<H.heap.size->A0 aq i->A0 B i:=λi D g=>by
     rcases p5 i g with g|g
     .exact g
     .omega
    have br:tb<I.heap.size:=am.lt;have ah:¬A0 B tb:=λg=>by have:=z.oL.lt g;omega
    have cJ:∀K f d w,F7 prog (λV=>o8 (A0 B) I.drew V) (Instr.loadAt 151 (.pointer (some ⟨n,2,none⟩))) K f d w=K (C9 f d B) w:=λK f d w=>C0 (w0:=I.drew) (o8.refl _) λV aY=>E7 (i:=2) ((aY.block n A.lt λg=>(A.d1 n g).1 rfl).trans A.cell) rfl bo6;have cK:∀K f d w,F7 prog (λV=>o8 (A0 B) I.drew V) (Instr.loadAt 150 (.pointer (some ⟨tb,0,none⟩))) K f d w=K (C9 f d iv) w:=λK f d w=>C0 (w0:=I.drew) (o8.refl _) λV aY=>(cC V (aY.block tb br ah)).1;rw[<-hK];simp only[n8,simprocAttr];refine B9 (λV=>o8 (A0 B) I.drew V) 8 (A5 [0,1,2,3,4,5,6,7]) ?_;simp only[D0,A5,n8,n9,simprocAttr,g0,g9,cJ,cK,p1,p2,F2];refine⟨o8.up (o6.alloc _ _),p4,?_⟩;have bt:ab1 h w8 tb ⟨t,o.proc,o.up,nx,o.loop⟩:=((am.mod (o8.up (M:=A0 B) (o6.drew I)) ah).mod p4 ah).mod a1 (by have:=z.lt;omega);obtain⟨di,_,bE⟩:=bt.ld;obtain⟨bv,b3,bd⟩:=cN1 h o.proc ((L.length+j.length+1:Nat):Int) nx o.loop;obtain⟨ib,wq,w9,bb,bq,bA,cV,aM⟩:=ab1.new (w:=w8) bd;have cq:=ak.ext bA;have U:o8 (λb=>b=n\/A0 B b) H w9:=O.trans (o8.up bA);simp only[n8,n9,simprocAttr,g5,g7,g8,g9,s8,cB w8 (D8 ay),(bE w8 rfl).2,b3,bb,bq,a2 w9 (D8 U)];generalize bY:CW prog _ (aa5 1 (ad0 _ _))=K2;have aj:((L++j)++[(⟨t,o.proc,o.up,nx,o.loop⟩:It)]).length=L.length+j.length+1:=by simp[ep8]
    have aF:¬A0 aq ib:=λg=>by have:=ak.oL.lt g;omega
    have aG:ib≠n:=λe=>by have:=ak.lt;omega
    have aP:∀(aD aC:Int) (f9:Fr) (Q:World),aD=(if t.kind=6 then((L.length+j.length:Nat):Int)+1 else nx)->aC=(if t.kind=6 then((L.length+j.length:Nat):Int)+1 else o.loop)->ab1 h Q ib ⟨cT0,o.proc,((L.length+j.length+1:Nat):Int),aD,aC⟩->o8 (λb=>b=ib) w9 Q ->
      f9 0 = .pointer (some ⟨n,0,none⟩)->f9 7 = .pointer (some b)->f9 10 = .pointer (some ⟨ib,0,none⟩)->f9 13 = .int .i64 k->K2 f9 Q:=by
     intro aD aC f9 Q bm bj al aN q0 q7 bJ cI;have bn:=cq.mod aN (λe=>aG e.symm) (λc g e=>by subst e;exact aF g) (λc g e=>by subst e;have:=ak.oLo.lt g;omega) (λc g e=>by subst e;have:=ak.oHi.lt g;omega);have q:o8 (λb=>b=n\/A0 B b) H Q:=U.chain aN λi D g=>by have:=O.size;omega
     obtain⟨nv,ci,cD⟩:=al.ld;have bH:=a2 Q (D8 q);have bG:=(cD Q rfl).1;have h3:B8 h (m8 H):=p7 aw (b7 ao);have bf:B8 h (m8 Q):=H2 h3 q C;rw[<-bY];simp only[n8,n9,simprocAttr,q0,q7,bJ,bH,bG];refine t8 (ih (A7 t.thn) (by omega) t.thn _ nv vt h n vg vp aq F E _ lo D Q (eg6 _) bn bf cw ci (by omega) (by rw[aj];omega)) ?_;rintro u Z ⟨bK,aJ,aO,ag⟩;rw[aj]at aJ;have bO:=q.size;have r:o8 (λb=>b=n\/A0 B b) H Z:=q.chain aO λi D g=>g.imp id (aH i D);have az:∀i,i<H.heap.size->A0 bK i->A0 B i:=λi D g=>by
      rcases ag i g with g|g
      .exact aH i D g
      .omega
     have aX:ab1 h Z ib ⟨cT0,o.proc,((L.length+j.length+1:Nat):Int),aD,aC⟩:=al.mod aO λg=>by
      rcases g with g|g
      .exact aG g
      .exact aF g
     obtain⟨cF,bl,bF⟩:=aX.ld;have bg:B8 h (m8 Z):=H2 h3 r C;have aI:∀X:List It,X.length=A7 t.thn->(((L++j)++[(⟨t,o.proc,o.up,nx,o.loop⟩:It)])++X).length=L.length+j.length+1+A7 t.thn:=λX hX=>by rw[ef4,aj,hX]
     simp only[n8,n9,simprocAttr,q0,q7,bJ,a2 Z (D8 r),(bF Z rfl).1];refine t8 (ih (A7 t.els) (by omega) t.els _ cF ve h n vg vp bK F E _ lo D Z (eg6 _) aJ bg cv bl (by omega) (by rw[aI _ (I8 _ _ _ _ _ _)];omega)) ?_;rintro u bM ⟨cL,aK,bx,aV⟩;rw[aI _ (I8 _ _ _ _ _ _)]at aK;have bP:=r.size;have af:o8 (λb=>b=n\/A0 B b) H bM:=r.chain bx λi D g=>g.imp id (az i D);have ae:o8 (λb=>b=n\/A0 T b) w1 bM:=p.chain af λi D g=>by
      rcases g with g|g
      .exact .inl g
      .rcases S i g with g|g
       .exact .inr g
       .omega
     simp only[n8,n9,simprocAttr,cI];refine⟨(k+1,cL,j++W0 t (L.length+j.length) o.proc o.up nx o.loop),by omega,by rw[H8 k (by have:=V9 l;omega)],by omega,?_,ae,?_,?_,?_⟩
     .simp only[];have e1:((L.length+j.length+1:Nat):Int)=((L.length+j.length:Nat):Int)+1:=by omega
      rw[P3,<-bm,<-bj,<-e1];have e2:=aK;simp only[ei0,er0,ep1]at e2 ⊢;exact e2
     .simp only[];intro i g;rcases aV i g with g|g
      .rcases ag i g with g|g
       .rcases p5 i g with g|g
        .exact S i g
        .have:=p.size;exact .inr (by omega)
       .have:=p.size;exact .inr (by omega)
      .have:=p.size;exact .inr (by omega)
     .simp only[];rw[G,C8,<-cj];simp only[ei0,ef4,ep8]
     .simp only[];rw[ef4,ac5];omega
    refine A4 (λh6=>?_) (λh6=>?_)
    .have k6:=ef3 h6;obtain⟨wr,ck,bu,cy⟩:=aM.setN (((L.length+j.length+1:Nat):Int));obtain⟨wt,ct,bw,cz⟩:=bu.setLp (((L.length+j.length+1:Nat):Int));simp only[n8,n9,simprocAttr,g8,ck,ct];refine aP ((L.length+j.length+1:Nat):Int) ((L.length+j.length+1:Nat):Int) _ _ (by rw[if_pos k6];omega) (by rw[if_pos k6];omega) bw (cy.trans cz) ?_ ?_ ?_ ?_<;>simp only[B3,↓reduceIte,Nat.reduceEqDiff,g0,g7,a8]
    .have k6:=ef7 h6;simp only[n8,simprocAttr];refine aP nx o.loop _ _ (by rw[if_neg k6]) (by rw[if_neg k6]) aM (o8.refl _) ?_ ?_ ?_ ?_<;>simp only[B3,↓reduceIte,Nat.reduceEqDiff,g0,g7,a8]
   refine A4 (λh6=>?_) (λh6=>?_)
   .have ch:¬(l.drop (k+1)).length=0:=by
     have:((k+1:Nat):Int)<(l.length:Nat):=by simpa using h6
     omega
    simp only[n8,simprocAttr,cA];refine B2 (bH8 _ t sv w5 (eg6 _) (Y.mono ?_) (by omega)) (λI ap=>?_)
    .exact H2 (p7 aw (b7 ao)) J C
    have bi:IntKind.i64.wrap (((L.length+j.length+1:Nat):Int)+((X7 t:Nat):Int))=((L.length+j.length:Nat):Int)+1+(X7 t:Nat):=by rw[M2 _ (by omega)];omega
    obtain⟨w7,k1,k2,k3⟩:=(aL.mod (o8.up (M:=λ_=>False) ap) id).setN (((L.length+j.length:Nat):Int)+1+(X7 t:Nat));simp only[n8,n9,simprocAttr,bi,k1];refine bC _ _ _ (by rw[if_neg ch]) k2 ((o8.up ap).trans k3) ?_ ?_ ?_ ?_ ?_ ?_<;>simp only[B3,↓reduceIte,Nat.reduceEqDiff,e0,e5,ab]
   .have hz:(l.drop (k+1)).length=0:=by
     have:¬((k+1:Nat):Int)<(l.length:Nat):=by simpa using h6
     omega
    simp only[n8,simprocAttr];refine bC _ _ _ (by rw[if_pos hz]) aL (o8.refl _) ?_ ?_ ?_ ?_ ?_ ?_<;>simp only[B3,↓reduceIte,Nat.reduceEqDiff,e0,e5,ab]
  .rintro rfl;simp only[n8,simprocAttr];refine bS5 results146 ?_;rw[eo9]at G;simp only[C8,ei5]at G;rw[G];exact⟨B,W,(o8.up an).trans aZ,λb g=>(S b g).imp id λh=>ef9 an.size h⟩
def bb3:∀(l m:List Pr) (s:Sh) (i:Nat),H9 s i (l++m)=H9 (H9 s i l) (i+l.length) m
 | [],m,s,i=>by simp[H9]
 | f::l,m,s,i=>by simp only[er0,H9,bb3 l m,ei2];congr 1;omega
def cn9(l:List Pr)(s:Sh){k:Nat}(a:k<l.length):H9 s 0 (l.take (k+1))=G5 (H9 s 0 (l.take k)) k l[k]:=by
 rw[ef8 a,bb3,eg0,el2 (Nat.le_of_lt a)];simp only[H9,ej1]
theorem bi4:∀(l:List Pr) (s:Sh) (i:Nat),(H9 s i l).p=s.p
 | [],s,i=>rfl
 | f::l,s,i=>by rw[H9,bi4 l];rfl
def aK4:∀(l:List Pr) (s:Sh) (i:Nat),(H9 s i l).l.length=s.l.length+(l.map λf=>A7 f.body).sum
 | [],s,i=>by simp[H9]
 | f::l,s,i=>by
  rw[H9,aK4 l];simp only[G5,ef4,I8,ej9,eq8];omega
def bn7:∀(l:List Pr) (s:Sh) (i:Nat),(H9 s i l).lo.length=s.lo.length+l.length/\(H9 s i l).hi.length=s.hi.length+l.length
 | [],s,i=>by simp[H9]
 | f::l,s,i=>by
  obtain⟨c,d⟩:=bn7 l (G5 s i f) (i+1);have a:(G5 s i f).lo.length=s.lo.length+1:=by simp[G5]
  have b:(G5 s i f).hi.length=s.hi.length+1:=by simp[G5]
  rw[H9,ei2];exact⟨by omega,by omega⟩
def cZ5(a vp:Value):B6 prog 153 [(0,.agg (List.toArray [a,vp]))]=some (.agg #[a,vp,.slice none 0 0,.slice none 0 0,.slice none 0 0]):=by
 simp[B6,dH2,J9,Instr.fill,Value.cells]
def dD9(w:World)(c vp:Value):∃a b,(Instr.box 153 (.agg #[c,vp,.slice none 0 0,.slice none 0 0,.slice none 0 0])).run prog w = .ok (.pointer (some ⟨a,0,none⟩)) b/\o6 w b/\b.heap[a]?=some (.cells #[c,vp,.slice none 0 0,.slice none 0 0,.slice none 0 0] 153 (0,0))/\w.heap.size<=a:=
 ⟨_,_,rfl,o6.alloc _ _,ej0 w _,eg6 _⟩
def ShS.at_{h:Hp}{w:World}{e:Nat}{d vp f b a:Value}{L:List It}{i g:List Int}{p:Pg}(s:ShS h w e d vp f b a L i g)(c:B8 h (m8 w))(k:R h d p.globals)(m:R h vp p.procs):At (m8 w) ⟨e,0,none⟩ (⟨p,L,i,g⟩:Sh):=by
 refine⟨[d,vp,f,b,a],⟨[d,vp],f,b,a,rfl,⟨d,vp,rfl,A3.mono c k,A3.mono c m⟩,s.oL.rw_ c,s.oLo.rw_ c,s.oHi.rw_ c⟩,λj u l=>?_⟩;rw[<-al0,add_lit,ej1,en2 w e j _ 153 (0,0) s.cell];simpa using l
def aj2(h:Hp)(v:Value)(p:Pg)(w:World)(hv:SV h v p)(hh:B8 h (m8 w))(a6:B7 p<=1000000):o9 prog 89 #[v] w λu r=>(∃l L J Q n m,u = .pointer (some ⟨l,0,none⟩)/\ShS h r l L J Q n m (d9 p).l (d9 p).lo (d9 p).hi/\R h L p.globals/\R h J p.procs/\w.heap.size<=l/\(∀b,(A0 Q b\/A0 n b\/A0 m b)->w.heap.size<=b)/\o6 w r):=by
 refine p9 [v] func89 rfl ?_;obtain⟨a,z,aQ,X,ha⟩:=W9 (w:=w) (λ_=>False) hv (λ_ h=>h.elim);obtain⟨L,J,hg,hp,ld,_⟩:=I6.pg hv ha;obtain⟨lw,_⟩:=I6.pg_v hv ha;have a4:v = .agg (List.toArray [L,J]):=by
  obtain⟨cs,rfl,he⟩:=hv;obtain⟨u1,u2,rfl,h1,h2⟩:=bX1 he;obtain⟨bo,e2,hc⟩:=ha;obtain rfl:=ah6 e2;have k0:(Instr.loadAt 31 (.pointer (some a))).run prog z = .ok u1 z:=F4 (h:=C1 z λ_=>False) hc rfl P8 z (A8 _ _);have k1:(Instr.loadAt 32 (.pointer (some (a.add 1)))).run prog z = .ok u2 z:=z6 (h:=C1 z λ_=>False) hc (o:=1) rfl cp4 z (A8 _ _);have e0:=((ld z (A8 _ _)).1).symm.trans k0;have e1:=((ld z (A8 _ _)).2).symm.trans k1;simp only[Result.ok.injEq,and_true]at e0 e1;subst e0;subst e1;rfl
 have ay:=lw z (A8 _ _);have M:B8 h (m8 z):=p7 hh (b7 X);have aK:=hp.isS;have aY:=hp.vlen;have bw:=ak3 p.procs;have br:=bx9 p.procs;unfold B7 at a6;obtain⟨l,w2,aO,av,aR,E⟩:=dD9 z L J;have l2:=ld w2 (p7 (A8 _ _) (b7 av));have a0:ShS h w2 l L J (.slice none 0 0) (.slice none 0 0) (.slice none 0 0) [] [] []:=⟨aI3 M E,aR,B0.nil _ _ _,B0.nil _ _ _,B0.nil _ _ _,λb c=>absurd c D5,λb c=>absurd c D5,λb c=>absurd c D5⟩;rw[a4]at ay;simp only[n8,n9,simprocAttr,aQ,ay,cZ5,aO,l2,aK,aY];refine A6 [3,10,11] (σ:=Nat×Value×Value×Value) (λs f r=>f 12 = .int .i64 s.1/\s.1<=p.procs.length/\ShS h r l L J s.2.1 s.2.2.1 s.2.2.2 (H9 ⟨p,[],[],[]⟩ 0 (p.procs.take s.1)).l (H9 ⟨p,[],[],[]⟩ 0 (p.procs.take s.1)).lo (H9 ⟨p,[],[],[]⟩ 0 (p.procs.take s.1)).hi/\o6 z r/\(∀b,(A0 s.2.1 b\/A0 s.2.2.1 b\/A0 s.2.2.2 b)->z.heap.size<=b)) (λs=>p.procs.length-s.1) (0,.slice none 0 0,.slice none 0 0,.slice none 0 0) ?_ ?_
 .exact⟨rfl,eg3 _,by simpa[H9]using a0,av,λb c=>by rcases c with h|h|h<;>exact absurd h D5⟩
 .rintro⟨k,Q,n,m⟩ f w3 ⟨e3,aG,aH,_⟩ ⟨T,aj,B,ae,D⟩;simp only at T aj B D;simp only[n8,n9,simprocAttr,T,aH];refine y5 (λU=>?_) ?_
  .have aZ:R h J p.procs:=hp;have aW:=hp.inS U;obtain⟨sv,ad,ak⟩:=F5 (P:=prog) (t:=75) aZ (p7 M (b7 ae)) (ef1 U) at8 at9 ar9 Q9;rw[Q9]at ak;have C:=cn9 p.procs ⟨p,[],[],[]⟩ U;have Z:=aK4 (p.procs.take k) ⟨p,[],[],[]⟩ 0;have A:=aK4 (p.procs.take (k+1)) ⟨p,[],[],[]⟩ 0;have ab:=bn7 (p.procs.take k) ⟨p,[],[],[]⟩ 0;have bf:((p.procs.take (k+1)).map λf=>A7 f.body).sum<=(p.procs.map λf=>A7 f.body).sum:=by
    conv=>rhs;rw[<-ej2 (k+1) p.procs,ei4,List.sum_append]
    omega
   rw[C]at A;have aq:=aw8 (eg2 U);rw[eg0,el2 aj]at ab;generalize hG:H9 ⟨p,[],[],[]⟩ 0 (p.procs.take k)=G at B Z ab C A;generalize p.procs[k]=q at ad C aq A;simp only[G5,ef4,I8,em2,ej1]at Z A ab;obtain⟨b,wz,S,aM,a3,aw,aN⟩:=aL4 (w:=w3) (λb=>b=l\/A0 Q b\/A0 n b\/A0 m b) ad (λb c=>by
    rcases c with rfl|c|c|c
    .exact B.lt
    .exact B.oL.lt c
    .exact B.oLo.lt c
    .exact B.oHi.lt c)
   obtain⟨_,_,vb,_,_,_,a5,_,a9,_⟩:=I6.pr ad aN;have ac:=B.ext aw;have g:=ac.ext (o6.drew S);have N:o6 z S.drew:=ae.trans (aw.trans (o6.drew S));have aI:=ac.oL.isS;have aX:=ac.oL.vlen;have aC:∀K f d w,F7 prog (λr=>o8 (A0 n) S.drew r) (Instr.loadAt 24 (.pointer (some ⟨l,3,none⟩))) K f d w=K (C9 f d n) w:=λK f d w=>C0 (w0:=S.drew) (o8.refl _) λr H=>E7 (i:=3) ((H.block l g.lt λc=>(g.d2 l c).1 rfl).trans g.cell) rfl ah2;have bc:∀K f d w,F7 prog (λr=>o8 (A0 n) S.drew r) (Instr.loadAt 151 (.pointer (some ⟨l,2,none⟩))) K f d w=K (C9 f d Q) w:=λK f d w=>C0 (w0:=S.drew) (o8.refl _) λr H=>E7 (i:=2) ((H.block l g.lt λc=>(g.d2 l c).1 rfl).trans g.cell) rfl bo6;have ao:IntKind.i64.wrap ((G.l.length:Int)+1)=(G.l.length:Int)+1:=M2 _ (by omega);obtain⟨p1,F,w5,p2,p3,p4,p5⟩:=push (e:=24) dB4 rfl g.oLo (x:=.int .i64 ((G.l.length:Int)+1)) (y:=(G.l.length:Int)+1) rfl (by omega) (by omega) (p7 M (b7 N));simp only[Value.cells]at p1 p2;have aS:w5.heap[l]?=some (.cells #[L,J,Q,n,m] 153 (0,0)):=(p4.block l g.lt λc=>(g.d2 l c).1 rfl).trans g.cell;obtain⟨w6,s6,aT,af⟩:=af3 (P:=prog) (t:=24) (i:=3) (x:=F) aS (by simp) (F0 p3.isS) (X1 p3.isS) (z7 am6).choose_spec.1 (by rw[<-E1 (z7 am6).choose_spec.1];exact bv7);have a1:ShS h w6 l L J Q F m G.l (G.lo++[(G.l.length:Int)+1]) G.hi:=g.setLo p4 p3 p5 af (by simpa using aT);have O:o6 z w6:=o8.ext_of (o8.ext_of N p4 λb c=>D b (.inr (.inl c))) af λb c=>by subst c;exact E
   have V:o8 (λb=>b=l\/A0 Q b\/A0 n b\/A0 m b) S w6:=((o8.up (o6.drew S)).chain p4 λi _ c=>.inr (.inr (.inl c))).chain af λi _ c=>.inl c;obtain⟨bv,aP,ah⟩:=cN0 h (k:Int) (-1);simp only[n8,n9,y4,simprocAttr,T,aG,aW,ak,aM,a3];refine B9 (λr=>o8 (A0 n) S.drew r) 13 (A5 [0,1,2,3,4,5,6,7,8,9,10,11,12]) ?_;simp only[D0,A5,n8,n9,simprocAttr,e3,aC,bc,aI,aX,ao,p1,p2,F2];refine⟨o8.up (o6.alloc _ _),p4,?_⟩;simp only[n8,n9,simprocAttr,s6,e3,a9 w6 (D8 V),aP];refine t8 (dw1 (A7 q.body) q.body _ bv vb h l L J Q F m _ _ _ w6 (eg6 _) a1 (p7 M (b7 O)) a5 ah (by unfold ab0 at aq;omega) (by omega)) ?_;rintro u Y ⟨ag,W,a7,al⟩;simp only at W;have ar:o6 z Y:=o8.ext_of O a7 λb c=>by
    rcases c with rfl|c
    .exact E
    .exact D b (.inl c)
   have j:=W.ext (o6.drew Y);have I:o6 z Y.drew:=ar.trans (o6.drew Y);have aJ:=W.oL.isS;have am:=W.oL.vlen;rw[ef4,I8]at am;have aA:∀K f d w,F7 prog (λr=>o8 (A0 m) Y.drew r) (Instr.loadAt 24 (.pointer (some ⟨l,4,none⟩))) K f d w=K (C9 f d m) w:=λK f d w=>C0 (w0:=Y.drew) (o8.refl _) λr H=>E7 (i:=4) ((H.block l j.lt λc=>j.d3 l c rfl).trans j.cell) rfl ah2;have aB:∀K f d w,F7 prog (λr=>o8 (A0 m) Y.drew r) (Instr.loadAt 151 (.pointer (some ⟨l,2,none⟩))) K f d w=K (C9 f d ag) w:=λK f d w=>C0 (w0:=Y.drew) (o8.refl _) λr H=>E7 (i:=2) ((H.block l j.lt λc=>j.d3 l c rfl).trans j.cell) rfl bo6;have ap:IntKind.i64.wrap (((G.l.length+A7 q.body:Nat):Int)+1)=(G.l.length:Int)+(A7 q.body:Nat)+1:=by rw[M2 _ (by omega)];omega
   obtain⟨q1,aa,w8,q2,q3,q4,q5⟩:=push (e:=24) dB4 rfl j.oHi (x:=.int .i64 ((G.l.length:Int)+(A7 q.body:Nat)+1)) (y:=(G.l.length:Int)+(A7 q.body:Nat)+1) rfl (by omega) (by omega) (p7 M (b7 I));simp only[Value.cells]at q1 q2;have aU:w8.heap[l]?=some (.cells #[L,J,ag,F,m] 153 (0,0)):=(q4.block l j.lt λc=>j.d3 l c rfl).trans j.cell;obtain⟨w9,s9,aV,ax⟩:=af3 (P:=prog) (t:=24) (i:=4) (x:=aa) aU (by simp) (F0 q3.isS) (X1 q3.isS) (z7 am6).choose_spec.1 (by rw[<-E1 (z7 am6).choose_spec.1];exact bv7);have a2:=j.setHi q4 q3 q5 ax (by simpa using aV);have au:o6 z w9:=o8.ext_of (o8.ext_of I q4 λb c=>D b (.inr (.inr c))) ax λb c=>by subst c;exact E
   simp only[n8,simprocAttr];refine B9 (λr=>o8 (A0 m) Y.drew r) 13 (A5 [0,1,2,3,4,5,6,7,8,9,10,11,12]) ?_;simp only[D0,A5,n8,n9,simprocAttr,e3,aA,aB,aJ,am,ap,q1,q2,F2];refine⟨o8.up (o6.alloc _ _),q4,?_⟩;simp only[n8,n9,simprocAttr,s9,T];refine T4 (k+1,ag,F,aa) ⟨?_,au,λb c=>?_⟩;rotate_left
   .rcases c with c|c|c
    .rcases al b c with h|h
     .exact D b (.inl h)
     .exact ef9 O.size h
    .rcases p5 b c with h|h
     .exact D b (.inr (.inl h))
     .exact ef9 N.size h
    .rcases q5 b c with h|h
     .exact D b (.inr (.inr h))
     .exact ef9 I.size h
   simp only[];rw[C];simp only[G5,I8];exact a2
  .rintro rfl;simp only[n8,simprocAttr,e3];refine o7 results89 ?_;simp only[B3,simprocAttr];rw[eg4]at B;have hF:d9 p=⟨p,(H9 ⟨p,[],[],[]⟩ 0 p.procs).l,(H9 ⟨p,[],[],[]⟩ 0 p.procs).lo,(H9 ⟨p,[],[],[]⟩ 0 p.procs).hi⟩:=by
    have:=bi4 p.procs ⟨p,[],[],[]⟩ 0;unfold d9;cases hq:H9 ⟨p,[],[],[]⟩ 0 p.procs;rw[hq]at this;simp only at this;rw[this]
   rw[hF];exact⟨l,L,J,Q,n,m,by trivial,B,hg,hp,ef9 X.size E,λb c=>ef9 X.size (D b c),X.trans ae⟩
def aj1(v:Value)(p:Pg)(w:World)(hv:SV (m8 w) v p)(b:B7 p<=1000000):o9 prog 89 #[v] w λu c=>(∃a,u = .pointer (some a)/\At (m8 c) a (d9 p)/\o6 w c):=by
 refine Calls.mono (aj2 (m8 w) v p w hv (n7 _) b) ?_;rintro e c ⟨u,g,m,o,q,n,l,k,rfl,j,h,i,_,_,d⟩;refine⟨_,g,_,rfl,?_,d⟩;have f:d9 p=⟨p,(d9 p).l,(d9 p).lo,(d9 p).hi⟩:=by
  have:(d9 p).p=p:=by unfold d9;rw[bi4]
  cases hq:d9 p;rw[hq]at this;simp only at this;rw[this]
 rw[f];exact j.at_ (b7 d) h i
def az7:G0 prog 31 9 1 16=true:=by kernel_rfl
def ldS{h:Hp}{v:Value}{l:List A9}{w:World}(hv:R h v l)(hw:B8 h (m8 w)){k:Nat}(a:k<l.length):(Instr.loadAt 9 (.pointer (some (G9 v k)))).run prog w = .ok (p6 l[k]) w:=
 N7 (P:=prog) (t:=9) hv hw (ef1 a) Z2
def by1{α:Type}{p:α->Bool}{l:List α}(h:∀j (a:j<l.length),p l[j]=false):∀x∈l,p x=false:=λx b=>by
 obtain⟨j,a,rfl⟩:=em3.1 b;exact h j a
def bz0(v:Value)(l:List A9)(x:A9)(w:World)(hv:R (m8 w) v l)(q:l.length<=1000000000):o9 prog 105 #[v,p6 x] w λu e=>(u = .int .i64 (ad6 (λy=>decide (x=y)) 0 l)/\e=w):=by
 refine p9 [v,p6 x] func105 rfl ?_;simp only[n8,n9,simprocAttr,hv.isS,hv.vlen];refine A6 [0,1,6,7] (σ:=Nat) (λk f e=>f 8 = .int .i64 k/\k<=l.length/\(∀j (b:j<l.length),j<k->decide (x=l[j])=false)/\e=w) (λk=>l.length-k) 0 ?_ ?_
 .exact⟨rfl,eg3 _,λj _ h=>by omega,rfl⟩
 .rintro k f e ⟨e0,i,p,m,_⟩ ⟨g,o,d,rfl⟩;simp only[n8,n9,simprocAttr,g,m];refine y5 (λc=>?_) ?_
  .simp only[n8,n9,y4,simprocAttr,g,e0,i,hv.inS c,ldS hv (n7 _) c];refine A4 (λa=>?_) (λa=>?_)
   .simp only[n8,simprocAttr];refine o7 results105 ?_;simp only[B3,simprocAttr];exact⟨by rw[ay0 (λy=>decide (x=y)) l 0 k c (λj b=>d j (by omega) b) a,ej1],by trivial⟩
   .simp only[n8,n9,simprocAttr,g];refine T4 (k+1) ⟨λj b n=>?_,by trivial⟩;rcases ej6 j k with h|h
    .exact d j b h
    .obtain rfl:j=k:=by omega
     exact a
  .rintro rfl;simp only[n8,simprocAttr];refine o7 results105 ?_;simp only[B3,simprocAttr];exact⟨by rw[aE4 _ _ _ (by1 λj b=>d j b b)],by trivial⟩
def S1(v:Value)(l:List A9)(x:A9)(w:World)(hv:R (m8 w) v l)(b:l.length<=1000000000):o9 prog 110 #[v,p6 x] w λu c=>(u = .bool (l.contains x)/\c=w):=by
 refine p9 [v,p6 x] func110 rfl ?_;simp only[n8,n9,simprocAttr];refine E6 (bz0 v l x w hv b) ?_;have a:decide (0<=ad6 (λy=>decide (x=y)) 0 l)=l.contains x:=by
  rw[aE3,<-List.any_beq]
  congr 1
 simp only[n8,n9,simprocAttr,a];exact o7 results110 ⟨rfl,rfl⟩
def aN6(a:Pr->Bool)(g:Nat)(d:Array Value)(v:Value)(l:List Pr)(w:World)(hb:ap4 prog g=true)(hv:R (m8 w) v l)(H:l.length<=1000000000)
  (E:∀(q:Value) (x:Pr) (c:World),o6 w c->x∈l->SV (m8 c) q x->Calls prog g ([q]++d.toList).toArray c λe z=>∃u,e = .returned u/\(u = .bool (a x)/\o6 c z)) :
  o9 prog 126 #[v,.func (.func g) #[] d] w λu c=>(u = .int .i64 (ad6 a 0 l)/\o6 w c):=by
 refine p9 [v,.func (.func g) #[] d] func126 rfl ?_;simp only[n8,n9,simprocAttr,hv.isS,hv.vlen];refine A6 [0,1,6,7] (σ:=Nat) (λk f c=>f 8 = .int .i64 k/\k<=l.length/\(∀j (i:j<l.length),j<k->a l[j]=false)/\o6 w c) (λk=>l.length-k) 0 ?_ ?_
 .exact⟨rfl,eg3 _,λj _ h=>by omega,o8.refl _⟩
 .rintro k f F ⟨e0,A,G,B,_⟩ ⟨r,D,m,n⟩;simp only[n8,n9,simprocAttr,r,B];refine y5 (λb=>?_) ?_
  .have s:=hv.inS b;obtain⟨q,y,o⟩:=F5 (P:=prog) (t:=75) hv (b7 n) (ef1 b) at8 at9 ar9 Q9;rw[Q9]at o;simp only[n8,n9,y4,simprocAttr,r,e0,A,s,o,ep1];refine B2 (hb:=hb) (E q l[k] F n (eg2 b) (y.mono (b7 n))) (λI p=>?_);cases hq:a l[k]
   .simp only[n8,n9,simprocAttr,r];refine T4 (k+1) ⟨λj i C=>?_,n.trans p⟩;rcases ej6 j k with h|h
    .exact m j i h
    .obtain rfl:j=k:=by omega
     exact hq
   .simp only[n8,simprocAttr];refine o7 results126 ?_;simp only[B3,simprocAttr];exact⟨by rw[ay0 a l 0 k b (λj i=>m j (by omega) i) hq,ej1],n.trans p⟩
  .rintro rfl;simp only[n8,simprocAttr];refine o7 results126 ?_;simp only[B3,simprocAttr];exact⟨by rw[aE4 _ _ _ (by1 λj i=>m j i i)],n⟩
def aN7(a:A9->Bool)(g:Nat)(c:Array Value)(v:Value)(l:List A9)(w:World)(hb:ap4 prog g=true)(hv:R (m8 w) v l)(C:l.length<=1000000000)
  (z:∀(x:A9) (m:World),o6 w m->x∈l->Calls prog g ([p6 x]++c.toList).toArray m λe q=>∃u,e = .returned u/\(u = .bool (a x)/\o6 m q)) :
  o9 prog 160 #[v,.func (.func g) #[] c] w λu m=>(u = .int .i64 (ad6 a 0 l)/\o6 w m):=by
 refine p9 [v,.func (.func g) #[] c] func160 rfl ?_;simp only[n8,n9,simprocAttr,hv.isS,hv.vlen];refine A6 [0,1,6,7] (σ:=Nat) (λk f m=>f 8 = .int .i64 k/\k<=l.length/\(∀j (d:j<l.length),j<k->a l[j]=false)/\o6 w m) (λk=>l.length-k) 0 ?_ ?_
 .exact⟨rfl,eg3 _,λj _ h=>by omega,o8.refl _⟩
 .rintro k f A ⟨e0,r,B,s,_⟩ ⟨p,y,i,n⟩;simp only[n8,n9,simprocAttr,p,s];refine y5 (λb=>?_) ?_
  .simp only[n8,n9,y4,simprocAttr,p,e0,r,hv.inS b,ldS hv (b7 n) b,ep1];refine B2 (hb:=hb) (z l[k] A n (eg2 b)) (λD o=>?_);cases hq:a l[k]
   .simp only[n8,n9,simprocAttr,p];refine T4 (k+1) ⟨λj d t=>?_,n.trans o⟩;rcases ej6 j k with h|h
    .exact i j d h
    .obtain rfl:j=k:=by omega
     exact hq
   .simp only[n8,simprocAttr];refine o7 results160 ?_;simp only[B3,simprocAttr];exact⟨by rw[ay0 a l 0 k b (λj d=>i j (by omega) d) hq,ej1],n.trans o⟩
  .rintro rfl;simp only[n8,simprocAttr];refine o7 results160 ?_;simp only[B3,simprocAttr];exact⟨by rw[aE4 _ _ _ (by1 λj d=>i j d d)],n⟩
def bc9(a:A9->Bool)(g:Nat)(b:Array Value)(v:Value)(l:List A9)(w:World)(hb:ap4 prog g=true)(hv:R (m8 w) v l)(f:l.length<=1000000000)
  (h:∀(x:A9) (c:World),o6 w c->x∈l->Calls prog g ([p6 x]++b.toList).toArray c λe d=>∃u,e = .returned u/\(u = .bool (a x)/\o6 c d)) :
  o9 prog 108 #[v,.func (.func g) #[] b] w λu c=>(u = .bool (l.any a)/\o6 w c):=by
 refine p9 [v,.func (.func g) #[] b] func108 rfl ?_;simp only[n8,n9,simprocAttr];refine B2 (aN7 a g b v l w hb hv f h) (λj i=>?_);simp only[n8,n9,simprocAttr,aE3 a l 0];exact o7 results108 ⟨rfl,i⟩
def bc8(a:Pr->Bool)(g:Nat)(b:Array Value)(v:Value)(l:List Pr)(w:World)(hb:ap4 prog g=true)(hv:R (m8 w) v l)(h:l.length<=1000000000)
  (i:∀(f:Value) (x:Pr) (c:World),o6 w c->x∈l->SV (m8 c) f x->Calls prog g ([f]++b.toList).toArray c λe d=>∃u,e = .returned u/\(u = .bool (a x)/\o6 c d)) :
  o9 prog 207 #[v,.func (.func g) #[] b] w λu c=>(u = .bool (l.any a)/\o6 w c):=by
 refine p9 [v,.func (.func g) #[] b] func207 rfl ?_;simp only[n8,n9,simprocAttr];refine B2 (aN6 a g b v l w hb hv h i) (λk j=>?_);simp only[n8,n9,simprocAttr,aE3 a l 0];exact o7 results207 ⟨rfl,j⟩
def ep0:=@List.find?_eq_some_iff_getElem
def em8:=@List.mem_of_mem_take
def dZ5:ap4 prog 127=true:=by kernel_rfl
def dz3(n:A9)(w:World):∃a c,(Instr.box 9 (p6 n)).run prog w = .ok (.pointer (some a)) c/\o6 w c/\∀b,o6 c b->(Instr.loadAt 9 (.pointer (some a))).run prog b = .ok (p6 n) b:=by
 refine⟨⟨w.heap.size,0,none⟩,w.alloc (.cells #[p6 n] 9),rfl,o6.alloc _ _,λb d=>?_⟩;exact E7 (i:=0) (cs:=#[p6 n]) (T:=9) ((d.block _ (by simp) id).trans (ej0 w _)) rfl Z2
def cz0(d:Value)(q:Pr)(n:A9)(a:Addr)(w:World)(hv:SV (m8 w) d q)(i:∀c,o6 w c->(Instr.loadAt 9 (.pointer (some a))).run prog c = .ok (p6 n) c):
  o9 prog 127 #[d,.pointer (some a)] w λu c=>(u = .bool (decide (q.name=n))/\o6 w c):=by
 refine p9 [d,.pointer (some a)] func127 rfl ?_;obtain⟨b,f,h,e,g⟩:=bx6 hv (n7 _);obtain⟨_,_,_,_,_,_,_,_,j,_⟩:=g.pr;simp only[n8,n9,simprocAttr,h,j f (n7 _),i f e];exact o7 results127 ⟨rfl,e⟩
def ai7(a:Addr)(s:Sh)(n:A9)(w:World)(y:At (m8 w) a s)(r:s.p.procs.length<=1000000000):o9 prog 75 #[.pointer (some a),p6 n] w λu k=>(u = .int .i64 (s.pr n)/\o6 w k):=by
 refine p9 [.pointer (some a),p6 n] func75 rfl ?_;obtain⟨I,C,B,E,t,p,d,G,H⟩:=y.sh;obtain⟨J,D,F,v,j,z⟩:=d.pg;obtain⟨b,m,o,g,e⟩:=dz3 n w;simp only[n8,n9,simprocAttr,o,j m (b7 g)];refine B2 (aN6 (λq=>decide (q.name=n)) 127 #[.pointer (some b)] D s.p.procs m dZ5 (A3.mono (b7 g) v) r
  (λA x k h _ f=>cz0 A x n b k f λl c=>e l (h.trans c))) (λK i=>?_)
 simp only[n8,simprocAttr];exact o7 results75 ⟨rfl,g.trans i⟩
def ce1{α:Type}[A3 α]{h:Hp}{v:Value}{xs:List α}(D:R h v xs){i j:Nat}(o:i<=j)(B:j<=xs.length):R h (reS v i j (A3.sz α)) ((xs.take j).drop i):=by
 obtain⟨a,n,c,s,I,H,F,e,m⟩:=D;simp only[eq9,and_true]at s;subst s;have b:xs=xs.take i++((xs.take j).drop i++xs.drop j):=by
  have l:xs.take j=xs.take i++(xs.take j).drop i:=by
   have:=ej2 i (xs.take j);rw[List.take_take,el2 o]at this;exact this.symm
  rw[<-ei0,<-l,ej2]
 rw[b]at e;obtain⟨w,E,rfl,l,A⟩:=ac3 _ _ e;obtain⟨g,x,rfl,r,G⟩:=ac3 _ _ A;have f:=O5 l;rw[eg0,el2 (by omega)]at f;have d:((xs.take j).drop i).length=j-i:=by rw[el6,eg0,el2 B]
 refine⟨_,j-i,c-i,rfl,d.symm,by omega,g,r,λk u p=>?_⟩;have q:(w++(g++x))[i*A3.sz α+k]?=some u:=by
  rw[ek7 (by omega),f,Nat.add_sub_cancel_left,ek3 (ef6.1 p).1];exact p
 obtain⟨t,y,z⟩:=m _ u q;subst y;have C:i<j:=by
  rcases ej6 i j with h|h
  .exact h
  .have:g.length=0:=by rw[O5 r,d,show j-i=0 by omega,Nat.zero_mul]
   have:=(ef6.1 p).1;omega
 refine⟨t.add (i*A3.sz α),?_,by rw[Addr.add_add'];exact z⟩;rw[if_neg (by omega)];rfl
structure bK7 (s:Sh) (i:Nat) (x y:Nat):Prop where
 lo:s.lo[i]?=some ((x:Int)+1)
 hi:s.hi[i]?=some ((y:Int)+1)
 le:x<=y
 len:y<=s.l.length
 fit:s.l.length<=1000000
def bK7.of_{s:Sh}{i x y:Nat}(h:bK7 s i x y):s.of i=(s.l.take y).drop x:=by
 unfold Sh.of atI;simp only[eh6,List.getD,h.lo,h.hi,ek4]
 congr 1
 .omega
 .congr 1;omega
def ldI{h:Hp}{v:Value}{l:List Int}{w:World}(hv:R h v l)(hw:B8 h (m8 w)){k:Nat}{x:Int}(a:l[k]?=some x):(Instr.loadAt 3 (.pointer (some (G9 v k)))).run prog w = .ok (.int .i64 x) w:=
 N7 (P:=prog) (t:=3) hv hw a G3
def bi3(a:Addr)(s:Sh)(i x y:Nat)(w:World)(z:At (m8 w) a s)(c:bK7 s i x y):o9 prog 111 #[.pointer (some a),.int .i64 i] w λu b=>(R (m8 b) u (s.of i)/\o6 w b):=by
 refine p9 [.pointer (some a),.int .i64 i] func111 rfl ?_;obtain⟨D,n,m,l,k,g,v,F,C⟩:=z.sh;have e:∀b,o6 w.drew b->B8 (m8 w) (m8 b):=λb h=>b7 ((o6.drew w).trans h);have A:∀K f d w0,F7 prog (λb=>o6 w.drew b) (Instr.loadAt 3 (.pointer (some (G9 n i)))) K f d w0=K (C9 f d (.int .i64 ((x:Int)+1))) w0:=λK f d w0=>C0 (w0:=w.drew) (o8.refl _) λb h=>ldI k (e b h) c.lo;have B:∀K f d w0,F7 prog (λb=>o6 w.drew b) (Instr.loadAt 3 (.pointer (some (G9 m i)))) K f d w0=K (C9 f d (.int .i64 ((y:Int)+1))) w0:=λK f d w0=>C0 (w0:=w.drew) (o8.refl _) λb h=>ldI g (e b h) c.hi;have B8:=c.le;have j:=c.len;have o:=c.fit;have r:IntKind.i64.wrap ((x:Int)+1-1)=(x:Int):=by rw[M2 _ (by omega)];omega
 have t:IntKind.i64.wrap ((y:Int)+1-1)=(y:Int):=by rw[M2 _ (by omega)];omega
 have E:=l.vcap;have p:decide ((x:Int)<=(y:Int))=true:=by simp;omega
 have q:decide ((y:Int)<=(vcap D:Int))=true:=by simp;omega
 simp only[n8,n9,simprocAttr];refine B9 (λb=>o6 w.drew b) 22 (A5 [0,1,2,3,4,5,6,7,8,9,10,11,12,13,14,15,16,17,18,19,20,21]) ?_;simp only[D0,A5,n8,n9,y4,J0,simprocAttr,C (λb=>o6 w.drew b) w.drew (o8.refl _) e,k.inS (ef6.1 c.lo).1,g.inS (ef6.1 c.hi).1,A,B,r,t,l.isS,p,q];refine o7 results111 ⟨?_,o6.drew w⟩;rw[c.of_];exact A3.mono (b7 (o6.drew w)) (ce1 l B8 j)
def cn8(a:Addr)(s:Sh)(i x y:Nat)(w:World)(r:At (m8 w) a s)(c:bK7 s i x y):o9 prog 195 #[.pointer (some a),.int .i64 i] w λu b=>(u = .int .i64 (s.first i)/\o6 w b):=by
 refine p9 [.pointer (some a),.int .i64 i] func195 rfl ?_;obtain⟨H,o,n,E,g,j,q,B,D⟩:=r.sh;have e:∀b,o6 w.drew b->B8 (m8 w) (m8 b):=λb h=>b7 ((o6.drew w).trans h);have C:=D (λb=>o6 w.drew b) w.drew (o8.refl _) e;have A:=B w.drew (e _ (o8.refl _));have k:=g.inS (ef6.1 c.lo).1;have m:=j.inS (ef6.1 c.hi).1;have t:∀K f d w0,F7 prog (λb=>o6 w.drew b) (Instr.loadAt 3 (.pointer (some (G9 o i)))) K f d w0=K (C9 f d (.int .i64 ((x:Int)+1))) w0:=λK f d w0=>C0 (w0:=w.drew) (o8.refl _) λb h=>ldI g (e b h) c.lo;have v:∀K f d w0,F7 prog (λb=>o6 w.drew b) (Instr.loadAt 3 (.pointer (some (G9 n i)))) K f d w0=K (C9 f d (.int .i64 ((y:Int)+1))) w0:=λK f d w0=>C0 (w0:=w.drew) (o8.refl _) λb h=>ldI j (e b h) c.hi;have z:=ldI g (e _ (o8.refl _)) c.lo;have p:s.first i=if(x:Int)+1<(y:Int)+1 then(x:Int)+1 else -1:=by
  unfold Sh.first atI;simp only[eh6,List.getD,c.lo,c.hi,ek4]
 generalize F:(x:Int)+1=X at *;generalize G:(y:Int)+1=Y at *;simp only[n8,n9,simprocAttr];refine B9 (λb=>o6 w.drew b) 15 (A5 [0,1,2,3,4,5,6,7,8,9,10,11,12,13,14]) ?_;simp only[D0,A5,n8,n9,y4,simprocAttr,C,k,m,t,v];refine A4 (λl=>?_) (λl=>?_)
 .simp only[n8,n9,y4,simprocAttr,A,k,z];refine o7 results195 ?_;simp only[B3,simprocAttr];exact⟨by rw[p,if_pos (ef3 l)],o6.drew w⟩
 .simp only[n8,simprocAttr];refine o7 results195 ?_;simp only[B3,simprocAttr];exact⟨by rw[p,if_neg (ef7 l)],o6.drew w⟩
def cl5(o:Option Int):Value:=match o with
 | some i=>.tuple #[.int .i64 i,.bool true]
 | none=>.tuple #[.int .i64 0,.bool false]
def cn7(a:Addr)(s:Sh)(i x y:Nat)(e:A9)(w:World)(hs:At (m8 w) a s)(m:bK7 s i x y)(A:i<s.p.procs.length)(V:∀it∈s.l,U1 it.s<=1000000)(U:∀f∈s.p.procs,ab0 f<=1000000):
  o9 prog 164 #[.pointer (some a),.int .i64 i,p6 e] w λu Z=>(u=cl5 (s.at i e)/\o6 w Z):=by
 refine p9 [.pointer (some a),.int .i64 i,p6 e] func164 rfl ?_;obtain⟨vL,ay,aw,hL,ap,ak,L,ld,sd⟩:=hs.sh;obtain⟨vg,vp,hg,hp,X,au⟩:=L.pg;have D:∀it∈s.of i,it∈s.l:=λit h=>by
  rw[m.of_]at h;exact em8 (er4 h)
 have C:(s.of i).length<=1000000:=by
  rw[m.of_,el6,eg0];have:=m.fit;omega
 simp only[n8,n9,simprocAttr];refine t8 (bi3 a s i x y w hs m) ?_;rintro u w1 ⟨E,d⟩;generalize o:s.of i=l at E D C;simp only[n8,n9,simprocAttr,E.isS,E.vlen];refine A6 [0,1,2,12,13] (σ:=Nat) (λk f Z=>f 14 = .int .i64 k/\k<=l.length/\(∀j (q:j<l.length),j<k->l[j].s.labels.contains e=false)/\o6 w1 Z) (λk=>l.length-k) 0 ?_ ?_
 .exact⟨rfl,eg3 _,λj _ h=>by omega,o8.refl _⟩
 .rintro k f w2 ⟨e0,e1,e2,I,J,_⟩ ⟨p,am,r,n⟩;simp only[n8,n9,simprocAttr,p,J];refine y5 (λg=>?_) ?_
  .have N:=E.inS g;obtain⟨sv,R,B⟩:=F5 (P:=prog) (t:=150) E (b7 n) (ef1 g) aa7 aa9 Z3 J3;rw[J3]at B;have G:=V _ (D _ (eg2 g));rw[V7]at G;have an:=Z7 l[k].s.labels;obtain⟨b,wz,w3,K,Q,H,M⟩:=ap8 (R.mono (b7 n)) (n7 _);obtain⟨v,_,_⟩:=M.it;obtain⟨vl,_,_,_,T,_,_,_,_,Y,_⟩:=v.st;have l3:=Y w3 (n7 _);simp only[n8,n9,y4,simprocAttr,p,e2,I,N,B,K,Q,l3];refine E6 (S1 vl l[k].s.labels e w3 T (by omega)) ?_;cases hq:l[k].s.labels.contains e
   .simp only[n8,n9,simprocAttr,p];refine T4 (k+1) ⟨λj q al=>?_,n.trans H⟩;rcases ej6 j k with h|h
    .exact r j q h
    .obtain rfl:j=k:=by omega
     exact hq
   .simp only[n8,n9,simprocAttr,l3];refine W7 results164 ?_;simp only[B3,simprocAttr];refine⟨?_,d.trans (n.trans H)⟩;have c:l.find? (λit=>it.s.labels.contains e)=some l[k]:=ep0.2 ⟨hq,k,g,rfl,λj q=>by rw[r j (by omega) q];rfl⟩;rw[Sh.at,o,c];rfl
  .rintro rfl;have c:l.find? (λit=>it.s.labels.contains e)=none:=ep4.2 λit O=>by
    obtain⟨j,q,rfl⟩:=em3.1 O;rw[r j q q];simp
   have hA:s.at i e=if(s.fn i).fin.contains e then some (-1)else none:=by rw[Sh.at,o,c]
   have z:s.p.procs[i]?=some (s.fn i):=by
    unfold Sh.fn;rw[eh6,List.getD,ef1 A];rfl
   have F:=U _ (eh3 z);unfold ab0 at F;have ao:=Z7 (s.fn i).fin;obtain⟨_,_,_,vf,_,_,_,S,W,_⟩:=(hp.at_ z).pr;have lp:=X w2 (b7 (d.trans n));have lf:=W w2 (b7 (d.trans n));have hz:A3.sz Pr=5:=rfl;rw[hz]at lf;simp only[n8,n9,y4,simprocAttr,e0,e1,e2,lp,lf,hp.inS A];refine E6 (S1 vf (s.fn i).fin e w2 (A3.mono (b7 (d.trans n)) S) (by omega)) ?_;cases hq:(s.fn i).fin.contains e
   .simp only[n8,simprocAttr];exact W7 results164 ⟨by rw[hA,hq];rfl,d.trans n⟩
   .simp only[n8,simprocAttr];exact W7 results164 ⟨by rw[hA,hq];rfl,d.trans n⟩
def bH7:∀(l:List Pr) (s:Sh) (i:Nat),∃L b a,H9 s i l=⟨s.p,s.l++L,s.lo++b,s.hi++a⟩
 | [],s,i=>⟨[],[],[],by simp[H9]⟩
 | f::l,s,i=>by
  obtain⟨L,b,a,e⟩:=bH7 l (G5 s i f) (i+1);refine⟨C8 f.body s.l.length i 0 (-1) 0++L,((s.l.length:Int)+1)::b,((s.l.length:Int)+(A7 f.body:Nat)+1)::a,?_⟩;rw[H9,e];simp[G5,I8]
def dj1(p:Pg)(i:Nat)(c:i<p.procs.length):∃x:Nat,(d9 p).lo[i]?=some ((x:Int)+1)/\(d9 p).hi[i]?=some ((x:Int)+(A7 p.procs[i].body:Nat)+1) /\
  ((d9 p).l.drop x).take (A7 p.procs[i].body)=C8 p.procs[i].body x i 0 (-1) 0/\x+A7 p.procs[i].body<=(d9 p).l.length:=by
 have b:p.procs=p.procs.take i++(p.procs[i]::p.procs.drop (i+1)):=by
  have:=ej2 i p.procs;rw[ej8 c]at this;exact this.symm
 obtain⟨G,f⟩:∃G,H9 ⟨p,[],[],[]⟩ 0 (p.procs.take i)=G:=⟨_,rfl⟩;have a:=bn7 (p.procs.take i) ⟨p,[],[],[]⟩ 0;rw[f,eg0,el2 (Nat.le_of_lt c)]at a;simp only[em2,ej1]at a;obtain⟨L,h,d,e⟩:=bH7 (p.procs.drop (i+1)) (G5 G i p.procs[i]) (i+1);have g:d9 p=⟨(G5 G i p.procs[i]).p,(G5 G i p.procs[i]).l++L,(G5 G i p.procs[i]).lo++h,(G5 G i p.procs[i]).hi++d⟩:=by
  rw[<-e];unfold d9
  conv=>lhs;rw[b]
  rw[bb3,f,eg0,el2 (Nat.le_of_lt c),H9,ej1]
 rw[g];refine⟨G.l.length,?_,?_,?_,?_⟩
 .simp only[G5,ei0];rw[ek7 (by omega),a.1];simp
 .simp only[G5,ei0];rw[ek7 (by omega),a.2,I8];simp
 .simp only[G5,ei0];rw[List.drop_left,<-I8 p.procs[i].body G.l.length i 0 (-1) 0,eo6]
 .simp only[G5,ef4,I8];omega
def aw4(p:Pg):(d9 p).l.length=bB0 p:=by
 unfold d9 bB0;rw[aK4];simp
def K5(p:Pg):(d9 p).p=p:=by
 unfold d9;rw[bi4]
def bW7(p:Pg):3*bB0 p<=B7 p:=by
 have:=bx9 p.procs;unfold B7 bB0;omega
def V2(p:Pg)(hw:B7 p<=1000000)(i:Nat)(f:i<p.procs.length):∃x:Nat,bK7 (d9 p) i x (x+A7 p.procs[i].body)/\(d9 p).of i=C8 p.procs[i].body x i 0 (-1) 0:=by
 obtain⟨x,b,c,d,e⟩:=dj1 p i f;have g:=aw4 p;have h:=bW7 p;have a:bK7 (d9 p) i x (x+A7 p.procs[i].body):=⟨b,by rw[c];congr 1,by omega,e,by omega⟩;refine⟨x,a,?_⟩;rw[a.of_,List.drop_take,Nat.add_sub_cancel_left];exact d
mutual
def cP2:∀(t:St) (k:Nat) (c d b a:Int),∀it∈W0 t k c d b a,U1 it.s<=U1 t
 | .mk id kind labels name proc x has args thn els,k,c,d,b,a,it,h=>by
  rw[P3]at h;rcases eh0.1 h with rfl|h
  .exact eg6 _
  .rw[U1];rcases eg1.1 h with h|h
   .have:=aI0 thn _ _ _ _ _ it h;omega
   .have:=aI0 els _ _ _ _ _ it h;omega
def aI0:∀(l:List St) (k:Nat) (c d b a:Int),∀it∈C8 l k c d b a,U1 it.s<=J4 l
 | [],_,_,_,_,_,it,h=>by simp[C8]at h
 | t::l,k,c,d,b,a,it,h=>by
  rw[C8]at h;rw[J4];rcases eg1.1 h with h|h
  .have:=cP2 t _ _ _ _ _ it h;omega
  .have:=aI0 l _ _ _ _ _ it h;omega
end
def bS8:∀(l:List Pr) (s:Sh) (i:Nat) (W:Nat),(∀it∈s.l,U1 it.s<=W)->(∀f∈l,J4 f.body<=W)->∀it∈(H9 s i l).l,U1 it.s<=W
 | [],s,i,W,h1,h2,it,h=>h1 it h
 | f::l,s,i,W,h1,h2,it,h=>by
  rw[H9]at h;refine bS8 l _ _ W (λit h=>?_) (λg a=>h2 g (ek0 _ a)) it h;simp only[G5]at h;rcases eg1.1 h with h|h
  .exact h1 it h
  .exact ef9 (aI0 _ _ _ _ _ _ it h) (h2 f (by simp))
def am0(p:Pg)(hw:B7 p<=1000000):∀it∈(d9 p).l,U1 it.s<=1000000:=by
 refine bS8 _ _ _ _ (λit h=>by cases h) λf a=>?_;have:=aw8 a;unfold B7 at hw;unfold ab0 at this;omega
def az3(p:Pg)(hw:B7 p<=1000000):∀f∈p.procs,ab0 f<=1000000:=λf a=>by
 have:=aw8 a;unfold B7 at hw;omega
def ci7{α β:Type}(g:α->β)(p:β->Bool):∀(l:List α) (i:Nat),ad6 p i (l.map g)=ad6 (λx=>p (g x)) i l
 | [],i=>rfl
 | x::l,i=>by simp only[ej9,ad6,ci7 g p l]
def cw5{α:Type}{p q:α->Bool}(h:∀x,p x=q x)(l:List α)(i:Nat):ad6 p i l=ad6 q i l:=by
 rw[show p=q from funext h]
def em9:=@List.eq_of_mem_replicate
def ei1:=@List.mem_append_left
def ej4:=@List.mem_append_right
def en6:=@List.mem_or_eq_of_mem_set
def el0:=@List.pairwise_cons
def D4(nx:List (List Int))(a:Int):List Int:=if 0<=a/\a<nx.length then nx.getD a.toNat []else[]
def I2(n:Nat)(a:Int):Bool:=decide (0<=a)&&decide (a<n)
def B4{n:Nat}{a:Int}:I2 n a=true↔0<=a/\a<n:=by simp[I2]
def bh8{nx:List (List Int)}{a:Int}(h:I2 nx.length a=false):D4 nx a=[]:=by
 unfold D4;rw[if_neg (λb=>by rw[B4.2 b]at h;cases h)]
def au7{nx:List (List Int)}{a:Int}(h:I2 nx.length a=true):nx[a.toNat]?=some (D4 nx a)/\a.toNat<nx.length:=by
 have b:=B4.1 h;unfold D4;rw[if_pos b];have:a.toNat<nx.length:=by omega
 exact⟨by simp[List.getD,this],this⟩
def az1{nx:List (List Int)}{a:Int}(h:I2 nx.length a=true):D4 nx a∈nx:=eh3 (au7 h).1
def bf1(l:List Int)(x:Int):List Int:=l.take (l.countP (· < x))++x::l.drop (l.countP (· < x))
def at3(nx:List (List Int))(a b:Int):Bool:=I2 nx.length a&&I2 nx.length b && !(D4 nx a).contains b
def cr6(nx:List (List Int))(a b:Int):List (List Int):=if at3 nx a b then nx.set a.toNat (bf1 (D4 nx a) b)else nx
def cr7(nx c:List (List Int))(a b:Int):List (List Int):=if at3 nx a b then c.set b.toNat (bf1 (D4 c b) a)else c
def dt5{y x:Int}{l:List Int}(h:y<x):bf1 (y::l) x=y::bf1 l x:=by
 simp[bf1,h]
def cf6{l:List Int}{x:Int}(h:∀y∈l,x<=y):l.countP (· < x)=0:=by
 rw[List.countP_eq_zero];intro y a;have:=h y a;simp;omega
def dt4{y x:Int}{l:List Int}(h:x<=y)(b:(y::l).Pairwise (· < ·)):bf1 (y::l) x=x::y::l:=by
 have:=cf6 (l:=y::l) (x:=x) (by
  intro z a;rcases eh0.1 a with rfl|a
  .exact h
  .have:=(el0.1 b).1 z a;omega)
 unfold bf1;rw[this];simp
def aE8{x y:Int}{l:List Int}:y∈bf1 l x↔y=x\/y∈l:=by
 unfold bf1;constructor
 .intro h;rcases eg1.1 h with h|h
  .exact .inr (em8 h)
  .rcases eh0.1 h with h|h
   .exact .inl h
   .exact .inr (er4 h)
 .rintro(rfl|h)
  .simp
  .rw[<-ej2 (l.countP (· < x)) l]at h;rcases eg1.1 h with h|h
   .exact ei1 _ h
   .exact ej4 _ (ek0 _ h)
def bt1{x:Int}:∀{l:List Int},l.Pairwise (· < ·)->x∉l->(bf1 l x).Pairwise (· < ·)
 | [],_,_=>by simp[bf1]
 | y::l,hs,hn=>by
  have a:=el0.1 hs;rcases Int.lt_or_le y x with h|h
  .rw[dt5 h,el0];refine⟨λz b=>?_,bt1 a.2 λd=>hn (ek0 _ d)⟩;rcases aE8.1 b with rfl|b
   .exact h
   .exact a.1 z b
  .rw[dt4 h hs,el0];refine⟨λz b=>?_,hs⟩;have c:x≠y:=λe=>hn (by simp[e]);rcases eh0.1 b with rfl|b
   .omega
   .have:=a.1 z b;omega
def aK7{n:Int}:∀{l:List Int} {m:Int},l.Pairwise (· < ·)->(∀y∈l,m<=y/\y<n)->m<=n->(l.length:Int)<=n-m
 | [],m,_,_,hm=>by simp;omega
 | y::l,m,hs,hb,hm=>by
  have a:=el0.1 hs;have c:=hb y (by simp);have:=aK7 (l:=l) (m:=y+1) a.2 (λz b=>⟨by have:=a.1 z b;omega,(hb z (ek0 _ b)).2⟩) (by omega);simp only[ei2];omega
structure F3 (n:Nat) (l:List (List Int)):Prop where
 len:l.length=n
 le:∀x∈l,x.Pairwise (· < ·)
 ok:∀x∈l,∀y∈x,I2 n y=true
def F3.row_len{n:Nat}{l:List (List Int)}(h:F3 n l){x:List Int}(a:x∈l):x.length<=n:=by
 have:=aK7 (n:=n) (m:=0) (h.le x a) (λy b=>B4.1 (h.ok x a y b)) (by omega);omega
def bD0(n:Nat):F3 n (List.replicate n []):=
 ⟨by simp,λx a=>by simp[em9 a],λx a y b=>by simp[em9 a]at b⟩
def F3.ins{n:Nat}{l:List (List Int)}(h:F3 n l){a b:Int}(hb:I2 n b=true)(f:I2 n a=true)(hn:b∉D4 l a):F3 n (l.set a.toNat (bf1 (D4 l a) b)):=by
 have hm:=az1 (nx:=l) (a:=a) (by rw[h.len];exact f);refine⟨by simp[h.len],λx d=>?_,λx d y e=>?_⟩
 .rcases en6 d with c|rfl
  .exact h.le x c
  .exact bt1 (h.le _ hm) hn
 .rcases en6 d with c|rfl
  .exact h.ok x c y e
  .rcases aE8.1 e with rfl|c
   .exact hb
   .exact h.ok _ hm y c
def bG4{n:Nat}{l:List (List Int)}(e:l.length=n){a c:Int}{r:List Int}(b:I2 n a=true):D4 (l.set a.toNat r) c=if c=a then r else D4 l c:=by
 have d:=B4.1 b;unfold D4;simp only[en4];by_cases hc:0<=c/\c<l.length
 .rw[if_pos hc,if_pos hc];by_cases h:c=a
  .subst h;rw[if_pos rfl];have:c.toNat<l.length:=by omega
   simp[List.getD,this]
  .rw[if_neg h];have:a.toNat≠c.toNat:=by omega
   simp[List.getD,this]
 .rw[if_neg hc,if_neg hc,if_neg (by rintro rfl;exact hc (by omega))]
def at6(g:List (List Int)×List (List Int))(e:Int×Int):List (List Int)×List (List Int):=(cr6 g.1 e.1 e.2,cr7 g.1 g.2 e.1 e.2)
def aq9(n:Nat)(a:List (Int×Int)):List (List Int)×List (List Int):=a.foldl at6 (List.replicate n [],List.replicate n [])
structure aN4 (n:Nat) (g:List (List Int)×List (List Int)):Prop where
 nx:F3 n g.1
 pv:F3 n g.2
 both:∀a b,b∈D4 g.1 a↔a∈D4 g.2 b
def bM8{n:Nat}{l:List (List Int)}(c:l.length=n){a b:Int}:at3 l a b=true↔I2 n a=true/\I2 n b=true/\b∉D4 l a:=by
 simp[at3,c,and_assoc]
def aN4.grow{n:Nat}{g:List (List Int)×List (List Int)}(h:aN4 n g)(e:Int×Int):aN4 n (at6 g e) /\
  ∀a b,b∈D4 (at6 g e).1 a↔b∈D4 g.1 a\/((a,b)=e/\I2 n a=true/\I2 n b=true):=by
 obtain⟨x,y⟩:=e;by_cases hok:at3 g.1 x y=true
 .obtain⟨d,f,k⟩:=(bM8 h.nx.len).1 hok;have i:at6 g (x,y)=(g.1.set x.toNat (bf1 (D4 g.1 x) y),g.2.set y.toNat (bf1 (D4 g.2 y) x)):=by
   simp[at6,cr6,cr7,hok]
  rw[i];have l:x∉D4 g.2 y:=λc=>k ((h.both x y).2 c);refine⟨⟨h.nx.ins f d k,h.pv.ins d f l,λa b=>?_⟩,λa b=>?_⟩
  .simp only[];rw[bG4 h.nx.len d,bG4 h.pv.len f];have:=h.both a b;by_cases ha:a=x<;>by_cases hb:b=y
   .subst ha;subst hb;simp[aE8]
   .subst ha;rw[if_pos rfl,if_neg hb,aE8,this];simp[hb]
   .subst hb;rw[if_pos rfl,if_neg ha,aE8,this];simp[ha]
   .rw[if_neg ha,if_neg hb,this]
  .simp only[];rw[bG4 h.nx.len d];by_cases ha:a=x
   .subst ha;rw[if_pos rfl,aE8];constructor
    .rintro(rfl|c)
     .exact .inr ⟨rfl,d,f⟩
     .exact .inl c
    .rintro(c|⟨c,_⟩)
     .exact .inr c
     .exact .inl (Prod.mk.inj c).2
   .rw[if_neg ha];constructor
    .exact .inl
    .rintro(c|⟨c,_⟩)
     .exact c
     .exact absurd (Prod.mk.inj c).1 ha
 .have j:at3 g.1 x y=false:=by simpa using hok
  have i:at6 g (x,y)=g:=by
   simp[at6,cr6,cr7,j]
  rw[i];refine⟨h,λa b=>⟨.inl,?_⟩⟩;rintro(c|⟨c,d,f⟩)
  .exact c
  .obtain⟨rfl,rfl⟩:=Prod.mk.inj c;by_cases hb:b∈D4 g.1 a
   .exact hb
   .exact absurd ((bM8 h.nx.len).2 ⟨d,f,hb⟩) hok
def cz4(n:Nat)(a:Int):D4 (List.replicate n []) a=[]:=by
 unfold D4;split
 .simp[List.getD,eq3];split<;>rfl
 .rfl
def bs8(n:Nat):aN4 n (List.replicate n [],List.replicate n []):=
 ⟨bD0 n,bD0 n,λa b=>by simp[cz4]⟩
def aN4.grows{n:Nat}:∀(c:List (Int×Int)) {g:List (List Int)×List (List Int)},aN4 n g->aN4 n (c.foldl at6 g) /\
  ∀a b,b∈D4 (c.foldl at6 g).1 a↔b∈D4 g.1 a\/((a,b)∈c/\I2 n a=true/\I2 n b=true)
 | [],g,h=>⟨h,λa b=>by simp⟩
 | e::es,g,h=>by
  obtain⟨f,i⟩:=h.grow e;obtain⟨j,k⟩:=f.grows es;refine⟨j,λa b=>?_⟩;rw[List.foldl_cons,k,i,eh0];constructor
  .rintro((h|h)|h)
   .exact .inl h
   .exact .inr ⟨.inl h.1,h.2⟩
   .exact .inr ⟨.inr h.1,h.2⟩
  .rintro(h|⟨h|h,d⟩)
   .exact .inl (.inl h)
   .exact .inl (.inr ⟨h,d⟩)
   .exact .inr ⟨h,d⟩
def an7(n:Nat)(a:List (Int×Int)):aN4 n (aq9 n a):=(bs8 n |>.grows a).1
def F3.row{n:Nat}{l:List (List Int)}(h:F3 n l)(a:Int):(D4 l a).Pairwise (· < ·)/\(∀y∈D4 l a,I2 n y=true):=by
 by_cases ha:I2 l.length a=true
 .exact⟨h.le _ (az1 ha),h.ok _ (az1 ha)⟩
 .rw[bh8 (by simpa using ha)];exact⟨List.Pairwise.nil,λy b=>by cases b⟩
section
variable {α:Type}
def cj1(le:α->α->Bool)(x:α):List α->List α
 | []=>[x]
 | y::l=>if le x y then x::y::l else y::cj1 le x l
def Y4(le:α->α->Bool):List α->List α
 | []=>[]
 | x::l=>cj1 le x (Y4 le l)
def al2(a:α->α->Bool)(p:α):List α->List α
 | []=>[]
 | y::l=>if a y p then al2 a y l else y::al2 a y l
def al1(a:α->α->Bool):List α->List α
 | []=>[]
 | x::l=>x::al2 a x l
def bm2(le:α->α->Bool)(x:α):∀l,(cj1 le x l).Perm (x::l)
 | []=>by simp[cj1]
 | y::l=>by
  rw[cj1];split
  .exact List.Perm.refl _
  .exact(List.Perm.cons y (bm2 le x l)).trans (List.Perm.swap _ _ _)
def G1(le:α->α->Bool):∀l,(Y4 le l).Perm l
 | []=>by simp[Y4]
 | x::l=>by rw[Y4];exact(bm2 le x _).trans (List.Perm.cons x (G1 le l))
def bt0{le:α->α->Bool}{x:α}:∀{l:List α},(∀a∈x::l,∀b∈x::l,le a b=true\/le b a=true)->(∀a∈x::l,∀b∈x::l,∀c∈x::l,le a b=true->le b c=true->le a c=true) ->
  l.Pairwise (λa b=>le a b=true)->(cj1 le x l).Pairwise (λa b=>le a b=true)
 | [],_,_,_=>by simp[cj1]
 | y::l,ht,htr,hs=>by
  rw[cj1];rw[el0]at hs;split
  .next h=>
   rw[el0];refine⟨λz d=>?_,by rw[el0];exact hs⟩;rcases eh0.1 d with rfl|d
   .exact h
   .exact htr x (by simp) y (by simp) z (by simp[d]) h (hs.1 z d)
  .next h=>
   have g:le y x=true:=by
    rcases ht x (by simp) y (by simp)with h1|h1
    .exact absurd h1 h
    .exact h1
   rw[el0];refine⟨λz d=>?_,bt0 (λa e b f=>ht a ?_ b ?_) (λa e b f c i=>htr a ?_ b ?_ c ?_) hs.2⟩
   .have:=(bm2 le x l).mem_iff.1 d;rcases eh0.1 this with rfl|d
    .exact g
    .exact hs.1 z d
   all_goals simp only[eh0]at *
   .rcases e with h|h<;>simp[h]
   .rcases f with h|h<;>simp[h]
   .rcases e with h|h<;>simp[h]
   .rcases f with h|h<;>simp[h]
   .rcases i with h|h<;>simp[h]
def am3{le:α->α->Bool}:∀{l:List α},(∀a∈l,∀b∈l,le a b=true\/le b a=true)->(∀a∈l,∀b∈l,∀c∈l,le a b=true->le b c=true->le a c=true) ->
  (Y4 le l).Pairwise (λa b=>le a b=true)
 | [],_,_=>by simp[Y4]
 | x::l,ht,htr=>by
  have hm:∀a,a∈x::Y4 le l↔a∈x::l:=λa=>by simp only[eh0,(G1 le l).mem_iff]
  rw[Y4];refine bt0 (λa d b e=>ht a ((hm a).1 d) b ((hm b).1 e)) (λa d b e c f=>htr a ((hm a).1 d) b ((hm b).1 e) c ((hm c).1 f)) ?_;exact am3 (λa d b e=>ht a (by simp[d]) b (by simp[e])) (λa d b e c f=>htr a (by simp[d]) b (by simp[e]) c (by simp[f]))
def aK8{le:α->α->Bool}:∀{l m:List α},l.Perm m->(∀a∈l,∀b∈l,le a b=true->le b a=true->a=b)->l.Pairwise (λa b=>le a b=true)->m.Pairwise (λa b=>le a b=true)->l=m
 | [],m,hp,_,_,_=>by simpa using hp.symm
 | x::l,[],hp,_,_,_=>by simpa using hp
 | x::l,y::m,hp,ha,h1,h2=>by
  rw[el0]at h1 h2;have e:x=y:=by
   have d:x∈y::m:=hp.mem_iff.1 (by simp);have c:y∈x::l:=hp.mem_iff.2 (by simp);rcases eh0.1 d with h|d
   .exact h
   rcases eh0.1 c with h|c
   .exact h.symm
   exact ha x (by simp) y (by simp[c]) (h1.1 y c) (h2.1 x d)
  subst e;rw[aK8 ((List.perm_cons x).1 hp) (λa h b f=>ha a (by simp[h]) b (by simp[f])) h1.2 h2.2]
end
def an1(l:List St)(o:Int):Int:=match l with
 | []=>o
 | t::_=>t.id
def Sh.goes(s:Sh)(it:It):List Int:=
 if it.s.kind=5 then[an1 it.s.thn it.next,an1 it.s.els it.next]
 else if it.s.kind=6 then[an1 it.s.thn it.s.id,it.next]
 else if it.s.kind=7 then[(s.it it.loop).next]
 else if it.s.kind=8 then[it.loop]
 else if it.s.kind=9 then[-1]
 else if it.s.kind=10 then[(s.at it.proc it.s.name).getD 0]
 else[it.next]
def F8(p:Int):Int:=if p = -1 then 9223372036854775807 else p
def M1(a b:Int):Int:=if a<b then -1 else if b<a then 1 else 0
def orF:List Int->Int
 | []=>0
 | x::l=>if x=0 then orF l else x
def spC(a b:Sp):Int:=orF [M1 (F8 a.src) (F8 b.src),M1 (F8 a.dst) (F8 b.dst),M1 a.kind b.kind]
def cV1(a b:Sp):Bool:=decide (spC a b<=0)
def ar7(a b:Sp):Bool:=decide (a.src=b.src)&&decide (a.dst=b.dst)
def ag2(l:List Sp):List Sp:=al1 ar7 (Y4 cV1 l)
def Sh.steps(s:Sh)(i:Nat):List Sp:=ag2 (⟨0,s.first i,1⟩::(s.of i).flatMap λit=>(s.goes it).map λt=>⟨it.s.id,t,1⟩)
structure Wy where
 s:Sh
 proc:Int
 n:Int
 real:List Sp
 live:List Bool
def Wy.index(w:Wy)(p:Int):Int:=if p=0 then 0 else if p = -1 then w.n-1 else if atI w.s.lo w.proc<=p/\p<atI w.s.hi w.proc then p-atI w.s.lo w.proc+1 else -1
def Wy.place(w:Wy)(i:Int):Int:=if i=0 then 0 else if i=w.n-1 then -1 else atI w.s.lo w.proc+i-1
def atB(l:List Bool)(i:Int):Bool:=l.getD i.toNat false
def Wy.lives(w:Wy)(id:Int):Bool:=atB w.live (w.index id)
def Wy.pairs(w:Wy)(l:List Sp):List (Int×Int):=l.map λt=>(w.index t.src,w.index t.dst)
def Q6(nx:List (List Int)):Nat->List Int->List Int
 | 0,l=>l
 | n+1,l=>Q6 nx n (l++((l.flatMap (D4 nx)).filter λb=>!l.contains b).eraseDups)
def Y8(nx:List (List Int))(a:Int)(b:Int):Bool:=I2 nx.length a&&(Q6 nx nx.length [a]).contains b
def bQ4(nx:List (List Int)):List Bool:=(List.range nx.length).map λb=>Y8 nx 0 (b:Nat)
def al7(nx:List (List Int)):List Int:=(List.range nx.length).map λa=>(((List.range nx.length).find? λb=>Y8 nx (a:Nat) (b:Nat)&&Y8 nx (b:Nat) (a:Nat)).getD 0:Nat)
def D7(s:Sh)(i:Nat):Wy:=
 let w:Wy:=⟨s,i,atI s.hi i-atI s.lo i+2,s.steps i,[]⟩
 {w with live:=bQ4 (aq9 w.n.toNat (w.pairs w.real)).1}
def Wy.traps(w:Wy):List (List Int):=
 let part:=al7 (aq9 w.n.toNat (w.pairs w.real)).1
 let op:=atI part 0::atI part (w.n-1)::((w.pairs w.real).filter λt=>!decide (atI part t.1=atI part t.2)).map λt=>atI part t.1
 ((List.range part.length).filter λ(i:Nat)=>decide (atI part (i:Int)=(i:Int)) && !op.contains (i:Int)).map λ(i:Nat)=>((List.range part.length).filter λ(j:Nat)=>decide (atI part (j:Int)=(i:Int))).map λ(j:Nat)=>w.place (j:Int)
def Wy.virtual(w:Wy):List Sp:=w.traps.flatMap λl=>(l.filter λid=>decide ((w.s.it id).s.kind=10)).map λid=>⟨id,-1,3⟩
def Wy.data(w:Wy):List Sp:=ag2 (w.virtual++w.real)
def T5(it:It):List Sp:=if it.s.kind=7\/it.s.kind=8\/it.s.kind=9\/it.s.kind=10 then[⟨it.s.id,it.next,2⟩]else[]
def Wy.aug(w:Wy):List Sp:=ag2 (w.virtual++w.real++[⟨0,-1,2⟩]++(w.s.of w.proc).flatMap T5)
def ak6(n:Nat)(l:List (Int×Int)):List (List Int):=(List.range n).map λ(a:Nat)=>(l.filter λt=>decide (t.1=(a:Int))).map (·.2)
def Wy.net(w:Wy):List (List Int):=ak6 w.n.toNat (w.pairs w.data)
def ae5(f:List (List Bool))(c:List Int):List Bool:=(List.range f.length).map λ(b:Nat)=>c.all λa=>atB (f.getD a.toNat []) (b:Int)
def W1(next:List (List Int))(f:List (List Bool))(a:Nat):List (List Bool):=f.set a ((ae5 f (next.getD a [])).set a true)
def H5(next:List (List Int))(f:List (List Bool)):Nat->List (List Bool)
 | 0=>f
 | a+1=>H5 next (W1 next f a) a
def S6(next:List (List Int))(m:Nat):Nat->List (List Bool)->List (List Bool)
 | 0,f=>f
 | k+1,f=>S6 next m k (H5 next f m)
def Q5(n:Nat):List (List Bool):=(List.range n).map λa=>(List.range n).map λb=>decide (a+1<n)||decide (a=b)
def Wy.follow(w:Wy):List (List Bool):=S6 (ak6 w.n.toNat (w.pairs w.aug)) (w.n.toNat-1) (w.n.toNat*w.n.toNat+1) (Q5 w.n.toNat)
def Wy.decides(w:Wy):List (Int×Int):=
 let f:=w.follow
 let ps:=w.pairs w.aug
 (List.range w.n.toNat).flatMap λ(a:Nat)=>((List.range w.n.toNat).filter λ(b:Nat)=>decide (1<=b)&&decide ((b:Int)<w.n-1)&&ps.any λt=>decide (t.1=(a:Int))&&atB (f.getD t.2.toNat []) (b:Int)&&(decide (a=b) || !atB (f.getD a []) (b:Int))).map λ(b:Nat)=>(w.place (a:Int),w.place (b:Int))
def el7:=@List.filter_append
def eq1:=@List.range_succ
def es2:=@decide_eq_false_iff_not
def ek5:=@decide_eq_true
def bf7{a b:A9}:ltS a b=true↔a.b<b.b:=by
 unfold ltS;rw[bytesLess_eq,decide_eq_true_iff]
def aa0{a b:A9}:ltS a b=false↔b.b<=a.b:=by
 rw[<-Bool.not_eq_true,bf7];exact en7
def bm5{a b c:A9}(d:a.b<=b.b)(e:b.b<=c.b):a.b<=c.b:=List.le_trans d e
def aI6{a b:A9}(c:a.b<=b.b)(d:b.b<=a.b):a=b:=by
 have:=List.le_antisymm c d;cases a;cases b;simp_all
def N1(a:A9):ltS a a=false:=aa0.2 (List.le_refl _)
def aw0{a b c:A9}(d:ltS a b=true)(e:ltS b c=true):ltS a c=true:=bf7.2 (List.lt_trans (bf7.1 d) (bf7.1 e))
def bY5{a b:A9}(c:ltS a b=false)(d:ltS b a=false):a=b:=aI6 (aa0.1 d) (aa0.1 c)
def bm3(x:A9):∀l,(cj2 x l).Perm (x::l)
 | []=>by simp[cj2]
 | y::l=>by
  rw[cj2];split
  .exact(List.Perm.cons y (bm3 x l)).trans (List.Perm.swap _ _ _)
  .exact List.Perm.refl _
def W4:∀l,(W8 l).Perm l
 | []=>by simp[W8]
 | x::l=>by rw[W8];exact(bm3 x _).trans (List.Perm.cons x (W4 l))
def bt2(x:A9):∀{l:List A9},l.Pairwise (λa b=>a.b<=b.b)->(cj2 x l).Pairwise (λa b=>a.b<=b.b)
 | [],_=>by simp[cj2]
 | y::l,hs=>by
  rw[cj2];have d:=hs;rw[el0]at hs;split
  .next h=>
   rw[el0];refine⟨λz c=>?_,bt2 x hs.2⟩;rcases eh0.1 ((bm3 x l).mem_iff.1 c)with rfl|c
   .exact List.le_of_lt (bf7.1 h)
   .exact hs.1 z c
  .next h=>
   have e:=aa0.1 (ep7.2 h);rw[el0];refine⟨λz c=>?_,d⟩;rcases eh0.1 c with rfl|c
   .exact e
   .exact bm5 e (hs.1 z c)
def au8:∀l,(W8 l).Pairwise (λa b=>a.b<=b.b)
 | []=>by simp[W8]
 | x::l=>by rw[W8];exact bt2 x (au8 l)
def X8(l:List A9):(W8 l).length=l.length:=(W4 l).length_eq
def co5(l:List A9):((l.map (·.b)).mergeSort λx y=>decide (x<=y))=(W8 l).map (·.b):=by
 refine aK8 (le:=λx y:List UInt8=>decide (x<=y)) ?_ ?_ ?_ ?_
 .exact(List.mergeSort_perm _ _).trans ((W4 l).map _).symm
 .intro a _ b _ f g;have d:a<=b:=ef3 f;have e:b<=a:=ef3 g;exact List.le_antisymm d e
 .refine List.pairwise_mergeSort (le:=λx y:List UInt8=>decide (x<=y)) (λa b c f g=>?_) (λa b=>?_) _
  .have d:a<=b:=ef3 f;have e:b<=c:=ef3 g;exact ek5 (List.le_trans d e)
  .rcases List.le_total a b with h|h<;>simp[h]
 .rw[List.pairwise_map];exact(au8 l).imp fun{a b} h=>ek5 h
def aZ3{α:Type}[DecidableEq α]:∀(l:List α) (y:α),I0 (l++[y])=if l.getLast?=some y then I0 l else I0 l++[y]
 | [],y=>by simp[I0]
 | [x],y=>by
  by_cases h:x=y
  .subst h;simp[I0]
  .simp[I0,h]
 | x::z::l,y=>by
  have a:=aZ3 (z::l) y;rw[er0,er0,I0,<-er0,a,List.getLast?_cons_cons,I0];by_cases h1:x=z<;>by_cases h2:(z::l).getLast?=some y<;>simp only[h1,h2,em4,en5,er0]
def bO2(d:Array (List UInt8)):∀m,m<=d.size->Lib.compactUpTo d m=I0 (d.toList.take m)
 | 0,_=>by simp[Lib.compactUpTo,I0]
 | m+1,hm=>by
  have i:=bO2 d m (by omega);have f:m<d.toList.length:=by simp;omega
  have c:d[m]! = d.toList[m]:=by
   rw[getElem!_pos d m (by omega)];simp
  rw[ef8 f,aZ3,<-i];have g:Lib.compactUpTo d (m+1)=Lib.compactUpTo d m++(if Lib.keeps d m then[d[m]!]else[]):=by
   simp only[Lib.compactUpTo,eq1,el7,ei4]
   congr 1
   by_cases b:Lib.keeps d m=true
   .simp[b]
   .simp[b]
  rw[g,c];by_cases h0:m=0
  .subst h0;simp[Lib.keeps,Lib.compactUpTo]
  .have a:(d.toList.take m).getLast?=some d[m-1]!:=by
    rw[List.getLast?_eq_getElem?,eg0,el2 (by omega),en1,if_pos (by omega),getElem!_pos d (m-1) (by omega)];simp[show m-1<d.size by omega]
   rw[a];by_cases he:d.toList[m]=d[m-1]!
   .have b:Lib.keeps d m=false:=by simp only[Lib.keeps,es2,c,h0,false_or,ne_eq];exact λh=>h he
    rw[b,if_pos (eg8 some he.symm)];simp
   .have b:Lib.keeps d m=true:=by simp only[Lib.keeps,ei8];rw[c];exact .inr he
    rw[b,if_neg (λe=>he (eh1 e).symm)];simp
def bO3{α β:Type}[DecidableEq α][DecidableEq β]{g:α->β}(c:∀a b,g a=g b->a=b):∀l:List α,I0 (l.map g)=(I0 l).map g
 | []=>by simp[I0]
 | [x]=>by simp[I0]
 | x::y::l=>by
  have d:=bO3 c (y::l);rw[ej9]at d;rw[ej9,ej9,I0,I0,d];by_cases h:x=y
  .rw[if_pos h,if_pos (by rw[h])]
  .rw[if_neg h,if_neg (λe=>h (c _ _ e)),ej9]
def bL5(l:List A9):Lib.compact (l.map (·.b))=(I0 l).map (·.b):=by
 unfold Lib.compact;have:=bO2 (l.map (·.b)).toArray (l.map (·.b)).length (by simp);rw[this];simp only[eg4];exact bO3 (λa b h=>by cases a;cases b;simpa using h) l
def av6{α:Type}[DecidableEq α]:∀l:List α,(I0 l).length<=l.length
 | []=>by simp[I0]
 | [x]=>by simp[I0]
 | x::y::l=>by
  have a:=av6 (y::l);rw[I0];split<;>simp only[ei2]at * <;> omega
def an5{α:Type}[DecidableEq α]{z:α}:∀l:List α,z∈I0 l↔z∈l
 | []=>by simp[I0]
 | [x]=>by simp[I0]
 | x::y::l=>by
  have a:=an5 (z:=z) (y::l);rw[I0];split
  .next h=>subst h;rw[a];simp
  .rw[eh0,a,eh0 (b:=x)]
def aZ2:∀{l:List A9},l.Pairwise (λa b=>a.b<=b.b)->(I0 l).Pairwise (λa b=>ltS a b=true)
 | [],_=>by simp[I0]
 | [x],_=>by simp[I0]
 | x::y::l,h=>by
  have i:=h;rw[el0]at h;rw[I0];split
  .exact aZ2 h.2
  .next d=>
   rw[el0];refine⟨λz g=>?_,aZ2 h.2⟩;have c:=(an5 _).1 g;have e:=h.1 y (by simp);have f:ltS x y=true:=by
    cases hq:ltS x y
    .exact absurd (aI6 e (aa0.1 hq)) d
    .rfl
   rcases eh0.1 c with rfl|c
   .exact f
   .rw[el0]at h;have:=h.2.1 z c;cases hq:ltS x z
    .have:y=x:=aI6 (bm5 this (aa0.1 hq)) e;exact absurd this.symm d
    .rfl
def V5(l:List A9):(E3 l).Pairwise (λa b=>ltS a b=true):=aZ2 (au8 l)
def J7{l:List A9}{x:A9}:x∈E3 l↔x∈l:=by rw[E3,an5,(W4 l).mem_iff]
def aB6(l:List A9):(E3 l).length<=l.length:=ef9 (av6 _) (by rw[X8];exact eg6 _)
def cn1:∀{l m:List A9},l.Pairwise (λa b=>ltS a b=true)->m.Pairwise (λa b=>ltS a b=true)->(∀x,x∈l↔x∈m)->l=m
 | [],[],_,_,_=>rfl
 | [],y::m,_,_,h=>by have:=(h y).2 (by simp);simp at this
 | x::l,[],_,_,h=>by have:=(h x).1 (by simp);simp at this
 | x::l,y::m,h1,h2,h=>by
  rw[el0]at h1 h2;have c:x=y:=by
   rcases eh0.1 ((h x).1 (by simp))with e|hx
   .exact e
   rcases eh0.1 ((h y).2 (by simp))with e|hy
   .exact e.symm
   have:=aw0 (h1.1 y hy) (h2.1 x hx);rw[N1]at this;cases this
  subst c;rw[cn1 h1.2 h2.2 λz=>?_];have d:=h z;simp only[eh0]at d;constructor
  .intro hm;rcases d.1 (.inr hm)with e|hm'
   .subst e;have:=h1.1 z hm;rw[N1]at this;cases this
   .exact hm'
  .intro hm;rcases d.2 (.inr hm)with e|hm'
   .subst e;have:=h2.1 z hm;rw[N1]at this;cases this
   .exact hm'
end Go.Proofs.YtggahhenbbgffaaGreat
namespace Go.Proofs
open Go.Shelf
def Tryz.lyS_ren:Go.Shelf.Ren:=⟨fun|190=>125|125=>65|258=>176|128=>100|129=>101|302=>213|303=>214|304=>215|305=>216|306=>217|307=>218|308=>219|309=>220|310=>221|333=>254|329=>151|330=>152|334=>255|335=>256|336=>230|344=>279|n=>n,fun|31=>31|9=>9|3=>3|46=>129|0=>0|51=>165|53=>167|4=>4|183=>158|182=>157|131=>98|5=>5|218=>225|222=>229|228=>271|229=>272|n=>n,fun|n=>n⟩
def Tryz.lyS:Go.Proofs.Lays.n190 Tryz.prog Tryz.lyS_ren:={
 mixed:=by kernel_rfl
 f125:=Tryz.func65.trans (congrArg some (by kernel_rfl))
 f128:=Tryz.func100.trans (congrArg some (by kernel_rfl))
 f129:=Tryz.func101.trans (congrArg some (by kernel_rfl))
 f190:=Tryz.func125.trans (congrArg some (by kernel_rfl))
 f258:=Tryz.func176.trans (congrArg some (by kernel_rfl))
 f302:=Tryz.func213.trans (congrArg some (by kernel_rfl))
 f303:=Tryz.func214.trans (congrArg some (by kernel_rfl))
 f304:=Tryz.func215.trans (congrArg some (by kernel_rfl))
 f305:=Tryz.func216.trans (congrArg some (by kernel_rfl))
 f306:=Tryz.func217.trans (congrArg some (by kernel_rfl))
 f307:=Tryz.func218.trans (congrArg some (by kernel_rfl))
 f308:=Tryz.func219.trans (congrArg some (by kernel_rfl))
 f309:=Tryz.func220.trans (congrArg some (by kernel_rfl))
 f310:=Tryz.func221.trans (congrArg some (by kernel_rfl))
 f329:=Tryz.func151.trans (congrArg some (by kernel_rfl))
 f330:=Tryz.func152.trans (congrArg some (by kernel_rfl))
 f333:=Tryz.func254.trans (congrArg some (by kernel_rfl))
 f334:=Tryz.func255.trans (congrArg some (by kernel_rfl))
 f335:=Tryz.func256.trans (congrArg some (by kernel_rfl))
 f336:=Tryz.func230.trans (congrArg some (by kernel_rfl))
 f344:=Tryz.func279.trans (congrArg some (by kernel_rfl))
 t0:=Tryz.underlying0
 a0:=Tryz.isAgg0
 z0:=Tryz.sizeOf0
 v0:=Tryz.zeroValue0
 t3:=Tryz.underlying3
 a3:=Tryz.isAgg3
 z3:=Tryz.sizeOf3
 v3:=Tryz.zeroValue3
 t4:=Tryz.underlying4
 a4:=Tryz.isAgg4
 z4:=Tryz.sizeOf4
 v4:=Tryz.zeroValue4
 t5:=Tryz.underlying5
 a5:=Tryz.isAgg5
 z5:=Tryz.sizeOf5
 v5:=Tryz.zeroValue5
 t9:=Tryz.underlying9
 a9:=Tryz.isAgg9
 z9:=Tryz.sizeOf9
 v9:=Tryz.zeroValue9
 t31:=Tryz.underlying31
 a31:=Tryz.isAgg31
 z31:=Tryz.sizeOf31
 v31:=Tryz.zeroValue31
 t46:=Tryz.underlying129
 a46:=Tryz.isAgg129
 z46:=Tryz.sizeOf129
 v46:=Tryz.zeroValue129
 t51:=Tryz.underlying165
 a51:=Tryz.isAgg165
 z51:=Tryz.sizeOf165
 v51:=Tryz.zeroValue165
 t53:=Tryz.underlying167
 a53:=Tryz.isAgg167
 z53:=Tryz.sizeOf167
 v53:=Tryz.zeroValue167
 t131:=Tryz.underlying98
 a131:=Tryz.isAgg98
 z131:=Tryz.sizeOf98
 v131:=Tryz.zeroValue98
 t182:=Tryz.underlying157
 a182:=Tryz.isAgg157
 z182:=Tryz.sizeOf157
 v182:=Tryz.zeroValue157
 t183:=Tryz.underlying158
 a183:=Tryz.isAgg158
 z183:=Tryz.sizeOf158
 v183:=Tryz.zeroValue158
 t218:=Tryz.underlying225
 a218:=Tryz.isAgg225
 z218:=Tryz.sizeOf225
 v218:=Tryz.zeroValue225
 t222:=Tryz.underlying229
 a222:=Tryz.isAgg229
 z222:=Tryz.sizeOf229
 v222:=Tryz.zeroValue229
 t228:=Tryz.underlying271
 a228:=Tryz.isAgg271
 z228:=Tryz.sizeOf271
 v228:=Tryz.zeroValue271
 t229:=Tryz.underlying272
 a229:=Tryz.isAgg272
 z229:=Tryz.sizeOf272
 v229:=Tryz.zeroValue272}
def Tryz.lyK_ren:Go.Shelf.Ren:=⟨fun|194=>167|n=>n,fun|31=>31|9=>9|3=>3|4=>4|0=>0|n=>n,fun|n=>n⟩
def Tryz.lyK:Go.Proofs.Lays.n194 Tryz.prog Tryz.lyK_ren:={
 mixed:=by kernel_rfl
 f194:=Tryz.func167.trans (congrArg some (by kernel_rfl))
 t0:=Tryz.underlying0
 a0:=Tryz.isAgg0
 z0:=Tryz.sizeOf0
 v0:=Tryz.zeroValue0
 t3:=Tryz.underlying3
 a3:=Tryz.isAgg3
 z3:=Tryz.sizeOf3
 v3:=Tryz.zeroValue3
 t4:=Tryz.underlying4
 a4:=Tryz.isAgg4
 z4:=Tryz.sizeOf4
 v4:=Tryz.zeroValue4
 t9:=Tryz.underlying9
 a9:=Tryz.isAgg9
 z9:=Tryz.sizeOf9
 v9:=Tryz.zeroValue9
 t31:=Tryz.underlying31
 a31:=Tryz.isAgg31
 z31:=Tryz.sizeOf31
 v31:=Tryz.zeroValue31}
end Go.Proofs
namespace Go.Proofs.YtggahhenbbgffaaGreat
open Go Tryz
def el9:=@List.take_append_of_le_length
section
open Go.Sort
def dO8:(Tryz.lyS_ren.f 190)=125:=by kernel_rfl
def dO7:(Tryz.lyK_ren.f 194)=167:=by kernel_rfl
section
variable {α:Type} [Inhabited α]
def bM2(enc:α->Value)(d:Array α)(a:Array Value)(h:d.size<=a.size):(putCells enc 0 d a).toList=d.toList.map enc++a.toList.drop d.size:=by
 apply es6;intro k;rw[er1];unfold putCells;rw[Array.getElem?_mapIdx];rcases ej6 k d.size with b|b
 .rw[ek3 (by simpa using b),ep5 (by omega)];simp[b]
 .rw[ek7 (by simpa using b),eo3,eg5,es4,show d.size+(k-d.size)=k by omega];rcases ej6 k a.size with c|c
  .simp[c,show ¬k<d.size by omega]
  .simp[show a.size<=k by omega]
def bh3{w:World}{b:Nat}{T:TypeId}{a:Array Value}(k:w.heap[b]?=some (.cells a T (0,0)))(enc:α->Value)(d:Array α)(h:d.size<=a.size)(n:Nat)(g:Array Obj):
  (grow (putRow enc (Go.Sort.ahead w n) b 0 d) g).heap[b]?=some (.cells (d.toList.map enc++a.toList.drop d.size).toArray T (0,0))/\o8 (λc=>c=b) w (grow (putRow enc (Go.Sort.ahead w n) b 0 d) g):=by
 have l:b<w.heap.size:=(ef5.1 k).1;have f:(putRow enc (Go.Sort.ahead w n) b 0 d).heap.size=w.heap.size:=by rw[size_putRow];rfl
 have j:∀c,(putRow enc (Go.Sort.ahead w n) b 0 d).heap[c]?=if b=c then(w.heap[c]?).map (onCells (putCells enc 0 d))else w.heap[c]?:=λc=>by
  unfold putRow mapBlock;rw[Array.getElem?_modify];split<;>rfl
 refine⟨?_,⟨rfl,rfl,rfl,?_,λc m i=>?_⟩⟩
 .show((putRow enc (Go.Sort.ahead w n) b 0 d).heap++g)[b]?=_;rw[Array.getElem?_append_left (by rw[f];exact l),j b,if_pos rfl,k];simp only[el5,onCells,<-bM2 enc d a h,Array.toArray_toList]
 .show w.heap.size<=((putRow enc (Go.Sort.ahead w n) b 0 d).heap++g).size;rw[Array.size_append,f];omega
 .show((putRow enc (Go.Sort.ahead w n) b 0 d).heap++g)[c]?=_;rw[Array.getElem?_append_left (by rw[f];exact m),j c,if_neg (λe=>i e.symm)]
end
def aE0{h:Hp}{cs:List Value}{l:List A9}:Q8 h cs l↔cs=l.map p6:=by
 induction l generalizing cs with
 | nil=>simp[Q8]
 | cons x l a=>
  rw[Q8];constructor
  .rintro⟨b,e,rfl,c,d⟩;have:b=[p6 x]:=c;rw[this,a.1 d];rfl
  .rintro rfl;exact⟨[p6 x],l.map p6,rfl,rfl,a.2 rfl⟩
section
variable {h:Hp} {w:World} {v:Value} {l:List A9}
def cm0(n:B0 h w 9 v l):(v = .slice none 0 0/\l=[])\/∃b c a,v = .slice (some ⟨b,0,none⟩) l.length c/\h b=none/\w.heap[b]?=some (.cells a 9 (0,0))/\l.length<=c/\c<=maxLen/\a.size=c/\a.toList.take l.length=l.map p6:=by
 rcases n with m|⟨b,c,a,rfl,g,i,j,k,d,f⟩
 .exact .inl m
 .have e:A3.sz A9=1:=rfl;rw[e,en3]at d f;exact .inr ⟨b,c,a,rfl,g,i,j,k,d,aE0.1 f⟩
def bu0{b c:Nat}{a:Array Value}(d:h b=none)(f:w.heap[b]?=some (.cells a 9 (0,0)))(g:l.length<=c)(i:c<=maxLen)(j:a.size=c)(k:a.toList.take l.length=l.map p6):
  B0 h w 9 (.slice (some ⟨b,0,none⟩) l.length c) l:=by
 have e:A3.sz A9=1:=rfl;refine .inr ⟨b,c,a,rfl,d,f,g,i,by rw[e,j,en3],?_⟩;rw[e,en3,k];exact aE0.2 rfl
def bD4{b:Nat}{a:Array Value}(d:w.heap[b]?=some (.cells a 9 (0,0)))(g:a.toList.take l.length=l.map p6):Holds encStr w b 0 (l.map A9.b).toArray:=λj f=>by
 have c:j<l.length:=by simpa using f
 rw[ej1,en2 w b j a _ (0,0) d];have e:=eg8 (λz=>z[j]?) g;simp only[en1,if_pos c,ei9,ef1 c,el5]at e;refine⟨?_,frozen_of_row w b j a _ d⟩;rw[getElem!_pos _ j f];simpa[p6]using e
def cU9(p:B0 h w 9 v l)(u:l.length<=1000000000):
  Calls prog 125 #[v] w λe d=>e = .returned (.tuple #[])/\B0 h d 9 v (W8 l)/\o8 (A0 v) w d:=by
 rw[<-dO8];rcases cm0 p with⟨rfl,rfl⟩|⟨b,c,i,rfl,j,f,g,k,t,m⟩
 .refine(Any.slices_Sort_string_none Tryz.lyS none 0 w).mono ?_;rintro e d ⟨rfl,rfl⟩;exact⟨rfl,B0.nil _ _ _,o8.refl _⟩
 .have o:b<w.heap.size:=(ef5.1 f).1;have:=Any.slices_Sort_string Tryz.lyS b 0 c (l.map A9.b) w (bD4 f m) o (by rw[eg5];omega);rw[eg5]at this;refine this.mono ?_;rintro e d ⟨rfl,n,s,rfl⟩;rw[co5];obtain⟨q,r⟩:=bh3 f encStr ((W8 l).map A9.b).toArray (by simp[X8];omega) n s;refine⟨rfl,?_,r.weaken λ_ _ e=>by subst e;rfl⟩;have a:=X8 l;rw[<-a]at g ⊢;refine bu0 j q g k ?_ ?_
  .simp[X8];omega
  .simp only[List.map_map];rw[el9 (by simp),ej5 (by simp)];rfl
def bl6(r:B0 h w 9 v l)(x:l.length<=1000000000):
  o9 prog 167 #[v] w λu a=>(B0 h a 9 u (I0 l)/\o8 (A0 v) w a/\E9 w v u):=by
 rw[<-dO7];rcases cm0 r with⟨rfl,rfl⟩|⟨b,c,m,rfl,n,g,s,o,t,p⟩
 .refine(Any.slices_Compact_string_empty Tryz.lyK none 0 w).mono ?_;rintro e a ⟨rfl,rfl⟩;exact⟨_,rfl,B0.nil _ _ _,o8.refl _,λb d=>.inl d⟩
 .have:=Any.slices_Compact_string Tryz.lyK b 0 c (l.map A9.b) w (bD4 g p) (by rw[eg5];omega) (by rw[eg5];omega);rw[eg5]at this;refine this.mono ?_;rintro e a ⟨rfl,q,rfl⟩;rw[bL5,eg5];have i:=av6 l;have f:(((I0 l).map A9.b++List.replicate (l.length-(I0 l).length) []).toArray).size=l.length:=by simp;omega
  obtain⟨j,k⟩:=bh3 g encStr (((I0 l).map A9.b++List.replicate (l.length-(I0 l).length) []).toArray) (by rw[f];omega) q #[];rw[grow_empty]at j k;refine⟨_,rfl,?_,k.weaken λ_ _ e=>by subst e;rfl,λb d=>.inl d⟩;refine bu0 n j (by omega) o ?_ ?_
  .simp;omega
  .simp only[ei4,List.map_map,ei0];rw[el9 (by simp),ej5 (by simp)];rfl
end
end
def ep2:=@List.flatMap_cons
section
open Go.Sort Go.RowKit Go.Shelf
class p8 (α:Type) [A3 α] where
 cells:α->List Value
 iff_:∀(h:Hp) (cs:List Value) (x:α),A3.enc h cs x↔cs=cells x
instance:p8 Sp:=⟨Sp.cells,λ_ _ _=>en7⟩
instance:p8 Fw:=⟨Fw.cells,λ_ _ _=>en7⟩
instance:p8 Vx:=⟨Vx.cells,λ_ _ _=>en7⟩
instance:p8 Eg:=⟨Eg.cells,λ_ _ _=>en7⟩
instance:Inhabited Sp:=⟨⟨0,0,0⟩⟩
instance:Inhabited Fw:=⟨⟨0,0,e0⟩⟩
instance:Inhabited Vx:=⟨⟨e0,0,0,e0⟩⟩
instance:Inhabited Eg:=⟨⟨default,default,0⟩⟩
section
variable {α:Type} [A3 α] [p8 α]
def av4(x:α):(p8.cells x).length=A3.sz α:=A3.len ((p8.iff_ (λ_=>none) _ x).2 rfl)
def U5(x:α):∀v∈p8.cells x,v.oneCell'=true:=A3.one ((p8.iff_ (λ_=>none) _ x).2 rfl)
def ac2{h:Hp}:∀{a:List Value} {l:List α},Q8 h a l↔a=l.flatMap p8.cells
 | a,[]=>by simp[Q8]
 | a,x::l=>by
  rw[Q8,ep2];constructor
  .rintro⟨d,e,rfl,b,c⟩;rw[(p8.iff_ _ _ _).1 b,ac2.1 c]
  .rintro rfl;exact⟨_,_,rfl,(p8.iff_ _ _ _).2 rfl,ac2.2 rfl⟩
def B0.downN{h k:Hp}{w:World}{T:TypeId}{v:Value}{xs:List α}(n:B0 k w T v xs)(l:B8 h k):B0 h w T v xs:=by
 rcases n with m|⟨b,c,a,rfl,d,e,f,g,i,j⟩
 .exact .inl m
 .refine .inr ⟨b,c,a,rfl,?_,e,f,g,i,ac2.2 (ac2.1 j)⟩;cases hq:h b with
  | none=>rfl
  | some o=>have:=l b o hq;rw[d]at this;cases this
def B0.flatRN{h k:Hp}{w:World}{T:TypeId}{v:Value}{xs:List α}(a:B0 h w T v xs)(hb:∀b,A0 v b->k b=w.heap[b]?):R k v xs:=
 (a.downN (h:=λ_=>none) (λb o e=>nomatch e)).ro (λb o e=>nomatch e) hb
def B0.backN{w0 a w:World}{T:TypeId}{v:Value}{xs:List α}(b:B0 (m8 a) w T v xs)(c:o6 w0 a):B0 (m8 w0) w T v xs:=b.downN (b7 c)
def cI3{h:Hp}{w:World}{T:TypeId}{v:Value}{l:List α}(m:B0 h w T v l):(v = .slice none 0 0/\l=[])\/∃b c a,v = .slice (some ⟨b,0,none⟩) l.length c/\h b=none/\w.heap[b]?=some (.cells a T (0,0))/\l.length<=c/\c<=maxLen/\a.size=c*A3.sz α/\a.toList.take (l.length*A3.sz α)=l.flatMap p8.cells:=by
 rcases m with k|⟨b,c,a,rfl,d,e,f,g,i,j⟩
 .exact .inl k
 .exact .inr ⟨b,c,a,rfl,d,e,f,g,i,ac2.1 j⟩
def bg5{h:Hp}{w:World}{T:TypeId}{l:List α}{b c:Nat}{a:Array Value}(d:h b=none)(e:w.heap[b]?=some (.cells a T (0,0)))(f:l.length<=c)(g:c<=maxLen)(i:a.size=c*A3.sz α)(j:a.toList.take (l.length*A3.sz α)=l.flatMap p8.cells):
  B0 h w T (.slice (some ⟨b,0,none⟩) l.length c) l:=.inr ⟨b,c,a,rfl,d,e,f,g,i,ac2.2 j⟩
def ac4(l:List α):(l.flatMap p8.cells).length=l.length*A3.sz α:=by
 induction l with
 | nil=>simp
 | cons x l a=>rw[ep2,ef4,av4,a,ei2,Nat.succ_mul,Nat.add_comm]
end
def br5{α β:Type}(f:α->List β){k:Nat}(b:0<k)(a:∀x,(f x).length=k):∀(l:List α) (t:Nat),(l.flatMap f)[t]?=(l[t / k]?).bind λx=>(f x)[t % k]?
 | [],t=>by simp
 | x::l,t=>by
  rw[ep2];rcases ej6 t k with h|h
  .rw[ek3 (by rw[a];exact h),Nat.div_eq_of_lt h,Nat.mod_eq_of_lt h];rfl
  .rw[ek7 (by rw[a];exact h),a,br5 f b a l];have c:t / k=(t-k) / k+1:=by rw[Nat.div_eq_sub_div b h]
   have d:t % k=(t-k) % k:=Nat.mod_eq_sub_mod h;rw[c,d,List.getElem?_cons_succ]
def bC4{α:Type}[Inhabited α](f:α->List Value){k:Nat}(c:0<k)(b:∀x,(f x).length=k)(d:Array α):(flatK f k d).toList=d.toList.flatMap f:=by
 apply es6;intro t;rw[br5 f c b];unfold flatK;rw[er1,Array.getElem?_map];rcases ej6 t (d.size*k)with h|h
 .have a:t / k<d.size:=Nat.div_lt_of_lt_mul (by rw[Nat.mul_comm];exact h);have e:t % k<k:=Nat.mod_lt _ c;rw[ep5 (by simpa using h),er1,ep5 a];simp only[Array.getElem_range,el5,Option.bind_some];rw[getElem!_pos d _ a,getElem!_pos _ _ (by rw[b];exact e),ef1 (by rw[b];exact e)]
 .have a:d.size<=t / k:=(Nat.le_div_iff_mul_le c).2 h;rw[Array.getElem?_eq_none (by simpa using h),er1,Array.getElem?_eq_none a];rfl
structure Cm {α:Type} (c:α->α->Int):Prop where
 refl:∀x,c x x=0
 anti:∀x y,c y x = - c x y
 trans:∀x y z,c x y<=0->c y z<=0->c x z<=0
def Cm.swo{α:Type}{c:α->α->Int}(h:Cm c):SWO (ltOf c) where
 irrefl x:=by simp[ltOf,h.refl]
 trans x y z h1 h2:=by
  simp only[ltOf,ei8]at *;have b:=h.trans x y z (by omega) (by omega);rcases Int.lt_or_eq_of_le b with a|a
  .exact a
  .have g:=h.anti x z;have i:=h.trans y z x (by omega) (by omega);have j:=h.anti x y;omega
 ntrans x y z h1 h2:=by
  simp only[ltOf,es2]at *;have d:=h.anti x y;have e:=h.anti y z;have f:=h.anti x z;have:=h.trans z y x (by omega) (by omega);omega
def Cm.total{α:Type}{c:α->α->Int}(h:Cm c)(x y:α):decide (c x y<=0)=true\/decide (c y x<=0)=true:=by
 have:=h.anti x y;simp only[ei8];omega
def Cm.key{α β:Type}{c:β->β->Int}(h:Cm c)(f:α->β):Cm λx y=>c (f x) (f y):=⟨λx=>h.refl _,λx y=>h.anti _ _,λx y z=>h.trans _ _ _⟩
def Cm.zero{α:Type}:Cm λ(_ _:α)=>0:=⟨λ_=>rfl,λ_ _=>rfl,λ_ _ _ _ _=>by omega⟩
def Cm.lex{α:Type}{c d:α->α->Int}(h:Cm c)(k:Cm d):Cm λx y=>if c x y=0 then d x y else c x y:=by
 refine⟨λx=>by simp only[h.refl,em4,k.refl],λx y=>?_,λx y z a b=>?_⟩
 .have e:=h.anti x y;have f:=k.anti x y;by_cases hq:c x y=0
  .show(if c y x=0 then d y x else c y x) = - (if c x y=0 then d x y else c x y);rw[if_pos (show c y x=0 by omega),if_pos hq,f]
  .show(if c y x=0 then d y x else c y x) = - (if c x y=0 then d x y else c x y);rw[if_neg (show ¬c y x=0 by omega),if_neg hq,e]
 .have e:=h.anti x y;have f:=h.anti y z;have n:=h.anti x z
  change (if c x y=0 then d x y else c x y)<=0 at a
  change (if c y z=0 then d y z else c y z)<=0 at b
  show(if c x z=0 then d x z else c x z)<=0;have g:c x y<=0:=by split at a<;>omega
  have i:c y z<=0:=by split at b<;>omega
  have j:=h.trans x y z g i;by_cases hq:c x z=0
  .rw[if_pos hq];have o:=h.trans y z x i (by omega);have p:=h.trans z x y (by omega) g;have l:c x y=0:=by omega
   have m:c y z=0:=by omega
   rw[if_pos l]at a;rw[if_pos m]at b;exact k.trans x y z a b
  .rw[if_neg hq];exact j
def aO8:Cm M1:=by
 refine⟨λx=>?_,λx y=>?_,λx y z=>?_⟩<;>unfold M1
 .simp
 .split<;>split<;>(try split)<;>omega
 .intro a b;split at a<;>(try split at a)<;>split at b<;>(try split at b)<;>split<;>(try split)<;>omega
def af4(a b:A9):Int:=if ltS a b then -1 else if ltS b a then 1 else 0
def ct3:Cm af4:=by
 refine⟨λx=>?_,λx y=>?_,λx y z=>?_⟩<;>unfold af4
 .simp[N1]
 .cases a:ltS x y<;>cases b:ltS y x<;>simp;have:=aw0 a b;rw[N1]at this;cases this
 .intro a b;cases h3:ltS z x
  .cases ltS x z<;>simp
  .exfalso
   cases h4:ltS y x
   .cases h5:ltS z y
    .have c:=bm5 (aa0.1 h4) (aa0.1 h5);exact absurd h3 (by rw[aa0.2 c];simp)
    .cases h6:ltS y z
     .rw[h6,h5]at b;simp at b
     .have:=aw0 h5 h6;rw[N1]at this;cases this
   .cases h6:ltS x y
    .rw[h6,h4]at a;simp at a
    .have:=aw0 h4 h6;rw[N1]at this;cases this
def ad4{a b:Int}(h:M1 a b=0):a=b:=by
 unfold M1 at h;split at h
 .omega
 .split at h<;>omega
def aD8{a b:A9}(h:af4 a b=0):a=b:=by
 unfold af4 at h;cases h1:ltS a b
 .cases h2:ltS b a
  .exact bY5 h1 h2
  .rw[h1,h2]at h;simp at h
 .rw[h1]at h;simp at h
def Gr(w b:World):Prop:=∃q a,b=grow (w.drewN q) a
def Gr.refl(w:World):Gr w w:=⟨0,#[],by rw[grow_empty];rfl⟩
def Gr.alloc(w:World)(o:Obj):Gr w (w.alloc o):=⟨0,#[o],by rw[alloc_eq_grow];rfl⟩
def Gr.drew(w:World):Gr w w.drew:=⟨1,#[],by rw[grow_empty];rfl⟩
def Gr.trans{a b c:World}(h:Gr a b)(k:Gr b c):Gr a c:=by
 obtain⟨q,d,rfl⟩:=h;obtain⟨p,f,rfl⟩:=k;refine⟨q+p,d++f,?_⟩;have e:(grow (a.drewN q) d).drewN p=grow (a.drewN (q+p)) d:=by
  show grow ((a.drewN q).drewN p) d=_
  congr 1
  simp[World.drewN,ep8]
 rw[e,grow_grow]
def Gr.ext{a b:World}(h:Gr a b):o6 a b:=by
 obtain⟨q,d,rfl⟩:=h;have e:o6 a (a.drewN q):=⟨rfl,rfl,rfl,eg6 _,λ_ _ _=>rfl⟩;refine e.trans ⟨rfl,rfl,rfl,?_,λc f _=>?_⟩
 .show _<=((a.drewN q).heap++d).size;rw[Array.size_append];omega
 .show((a.drewN q).heap++d)[c]?=_;rw[Array.getElem?_append_left f]
section
variable {α:Type} [A3 α] [p8 α] [Inhabited α] {P:Program} {ρ:Ren} {h:Hp} {w:World} {T:TypeId} {v:Value} {xs:List α}
def dt0{b:Nat}{a:Array Value}(e:w.heap[b]?=some (.cells a T (0,0)))(h:a.toList.take (xs.length*A3.sz α)=xs.flatMap p8.cells):HoldsK p8.cells (A3.sz α) w b 0 xs.toArray:=λj c=>by
 have g:=bC4 p8.cells (A3.pos (α:=α)) av4 xs.toArray;rw[List.toList_toArray,<-h]at g;have d:j<xs.length*A3.sz α:=by simpa using c
 rw[ej1,en2 w b j a _ (0,0) e];refine⟨?_,frozen_of_row w b j a _ e⟩;have f:=eg8 (λz=>z[j]?) g;simp only[er1,en1,if_pos d,ep5 c]at f;rw[getElem!_pos _ j c];exact f.symm
def aU5(L:SlLaysF0.n6 P ρ)(N:∀w,(isAgg (ρ.t 24)).run P w = .ok true w)(zE:∀w,(Go.sizeOf (ρ.t 24)).run P w = .ok (A3.sz α) w)(o:α->α->Int)(A:Cm o)(g:Nat)(S:∀args w,(callFunc g args).run P w = .ok (.enter g args) w)
  (t:∀x y w,Calls P g #[.agg (p8.cells x).toArray,.agg (p8.cells y).toArray] w λe r=>e = .returned (.int .i64 (o x y))/\Gr w r)
  (ho:B0 h w T v xs) (hl:xs.length<=1000000000) (q:∀a∈xs,∀b∈xs,decide (o a b<=0)=true->decide (o b a<=0)=true->a=b) :
  Calls P (ρ.f 6) #[v,.func (.func g) #[] #[]] w λe r=>∃u,e = .returned u/\(B0 h r T v (Y4 (λa b=>decide (o a b<=0)) xs)/\o8 (A0 v) w r):=by
 rcases cI3 ho with⟨rfl,rfl⟩|⟨b,c,O,rfl,B,s,C,U,J,V⟩
 .refine(AnyF.slices_SortFunc_none L none 0 _ w).mono ?_;rintro e r ⟨rfl,rfl⟩;exact⟨_,rfl,B0.nil _ _ _,o8.refl _⟩
 .have D:b<w.heap.size:=(ef5.1 s).1;have:=AnyQ.slices_SortFunc L (A3.sz α) N zE p8.cells av4 U5 o A.swo g #[] b 0 c xs.toArray w S (λm M dk _ x y=>t x y _) (dt0 s V) D (by simp;omega);rw[ep3]at this;refine this.mono ?_;rintro e r ⟨rfl,f,n,M,hp,hs,rfl⟩;obtain⟨I,_,d⟩:=hp;have p:f.size=xs.length:=by simpa using I
  have X:f.toList=Y4 (λa b=>decide (o a b<=0)) xs:=by
   have Q:f.extract 0 xs.length=f:=by rw[<-p];exact Array.extract_size
   rw[Q]at d;have R:(xs.toArray.extract 0 xs.length).toList=xs:=by
    have:=@Array.extract_size _ xs.toArray;rw[ep3]at this;rw[this]
   rw[R]at d;refine aK8 (le:=λa b=>decide (o a b<=0)) (d.trans (G1 _ _).symm) ?_ ?_ ?_
   .intro a W b D;exact q a (d.mem_iff.1 W) b (d.mem_iff.1 D)
   .rw[em0];intro i j Y Z G;have F:i<f.size:=by simpa using Y
    have H:j<f.size:=by simpa using Z
    have:=hs i j (eg3 _) G (by omega);rw[getElem!_pos f j H,getElem!_pos f i F]at this;simp only[ltOf,es2]at this;have a1:=A.anti f[i] f[j];simp only[Array.getElem_toList,ei8];omega
   .exact am3 (λa _ b _=>A.total a b) (λa _ b _ c _ B s=>ek5 (A.trans a b c (ef3 B) (ef3 s)))
  have E:=bC4 p8.cells (A3.pos (α:=α)) av4 f;have z:(flatK p8.cells (A3.sz α) f).size=xs.length*A3.sz α:=by rw[size_flatK,p]
  obtain⟨K,k2⟩:=bh3 s id (flatK p8.cells (A3.sz α) f) (by rw[z,J];exact eo2 _ C) n M;refine⟨_,rfl,?_,k2.weaken λ_ _ e=>by subst e;rfl⟩;have k:(Y4 (λa b=>decide (o a b<=0)) xs).length=xs.length:=(G1 _ _).length_eq;rw[List.map_id,E,X]at K;have:=bg5 (l:=Y4 (λa b=>decide (o a b<=0)) xs) B K (by rw[k];exact C) U ?_ ?_
  .rw[k]at this;exact this
  .have aa:=eo2 (A3.sz α) C;simp only[ep3,ef4,ac4,k,el6,es4,z,J];omega
  .simp only[];rw[<-ac4,eo6]
end
end
def eg7:=@List.contains_iff_mem
def L7:=zJ (zJ (zJ (zJ (zJ (zJ @by6 @dV2) (zJ @dU5 @dK9)) (zJ (zJ @dU8 @dY6) (zJ @dU6 (zJ @dU7 @dY7)))) (zJ (zJ (zJ @dY3 @dS4) (zJ @dY4 (zJ @dY5 @dM1))) (zJ (zJ @dJ6 @dM2) (zJ @dM3 (zJ @dX0 @dW9))))) (zJ (zJ (zJ (zJ @dZ0 @ed0) (zJ @ed5 (zJ @dK7 @dX9))) (zJ (zJ @dK8 @dY0) (zJ @eb4 (zJ @ed4 @dv3)))) (zJ (zJ (zJ @dQ4 @dv4) (zJ @dQ5 (zJ @dQ6 @dG4))) (zJ (zJ @dA9 @dA8) (zJ @dQ3 (zJ @eb6 @eb5)))))) (zJ (zJ (zJ (zJ (zJ @dG3 @eb8) (zJ @eb7 (zJ @dX7 @do5))) (zJ (zJ @dP3 @ea9) (zJ @dv0 (zJ @dK6 @dF8)))) (zJ (zJ (zJ @ea3 @eb0) (zJ @dK5 (zJ @dX6 @dP6))) (zJ (zJ @dX5 @ev.eq_1) (zJ @ev.eq_2 (zJ @ev.eq_3 @ev.eq_4))))) (zJ (zJ (zJ (zJ @C9.eq_1 @C9.eq_2) (zJ @ec8 (zJ @eb2 @dY1))) (zJ (zJ @dY2 @List.map_cons.{0,0}) (zJ @List.map_nil.{0,0} (zJ @List.map_toArray.{0,0} @ce3.eq_1)))) (zJ (zJ (zJ @ce3.eq_2 @dK2) (zJ @dc9.eq_1 (zJ @List.getElem?_toArray.{0} @List.getElem?_cons_zero.{0}))) (zJ (zJ @List.getElem?_cons_succ.{0} @Option.bind_some.{0,0}) (zJ @Option.some.injEq.{0} (zJ @em5 @Bool.true_eq_false))))))
def R9:=zJ (zJ (zJ (zJ @Option.map_some.{0,0} (zJ @Option.map_none.{0,0} @Int.toNat_zero)) (zJ (zJ @Option.isNone_none.{0} @Option.isNone_some.{0}) (zJ @M4 @bX4.eq_1))) (zJ (zJ @bX4.eq_2 (zJ @dq9.eq_1 @bq9.eq_1)) (zJ (zJ @bq9.eq_2 @dg0.eq_1) (zJ @df7.eq_1 @TY)))) (zJ (zJ (zJ @Option.isSome_some.{0} (zJ @em1 @Bool.and_true)) (zJ (zJ @en3 @eh6) (zJ @ea0 @Int.cast_ofNat_Int))) (zJ (zJ @decide_true (zJ @add_lit @ej1)) (zJ (zJ @Nat.zero_mul @Nat.one_mul) (zJ @Bool.not_true @Bool.not_false))))
def dx0{α:Type}{a b:List α}{k:Nat}(d:k<a.length)(hb:a.length=b.length)(h:a.take k=b.take k)(e:a[k]?=b[k]?):a.take (k+1)=b.take (k+1):=by
 have c:k<b.length:=by omega
 rw[ef8 d,ef8 c,h];rw[ef1 d,ef1 c]at e;rw[eh1 e]
def ct9(v u:Value)(a b:List Int)(w:World)(hv:R (m8 w) v a)(o:R (m8 w) u b)(E:a.length<=1000000000000):
  o9 prog 11 #[v,u] w λr n=>(r = .bool (decide (a=b))/\o6 w n):=by
 refine p9 [v,u] func11 rfl ?_;have z:=hv.isS;have A:=hv.vlen;have q:=o.isS;have x:=o.vlen;simp only[L7,R9,C4,F6,T6,simprocAttr,z,A,q,x];refine A4 (λs=>?_) (λs=>?_)
 .simp only[L7,simprocAttr];refine o7 results11 ?_;simp only[B3,simprocAttr];have j:¬a.length=b.length:=by simp at s;omega
  exact⟨by rw[el3 (λe=>j (by rw[e]))],o8.refl _⟩
 .have B8:a.length=b.length:=by simp at s;omega
  simp only[L7,R9,T6,simprocAttr,z,A];refine A6 [0,1,12] (σ:=Nat) (λk f n=>f 13 = .int .i64 k/\k<=a.length/\a.take k=b.take k/\o6 w n) (λk=>a.length-k) 0 ?_ ?_
  .exact⟨rfl,eg3 _,by simp,o8.refl _⟩
  .rintro k f n ⟨e0,B,p,_⟩ ⟨g,D,i,m⟩;simp only[L7,C4,F6,simprocAttr,g,p];refine y5 (λd=>?_) ?_
   .have c:k<b.length:=by omega
    have t:=hv.inS d;have l:=o.inS c;simp only[L7,simprocAttr,g];refine B9 (λy=>y=n.drew) 9 (A5 [0,1,2,3,4,5,6,7,8]) ?_;simp only[D0,A5,L7,R9,y4,simprocAttr,e0,t];refine⟨.int .i64 a[k],λy e=>by subst e;exact N7 hv (b7 (m.trans (o6.drew _))) (ef1 d) G3,?_⟩;simp only[D0,L7,R9,y4,simprocAttr,B,l];refine⟨.int .i64 b[k],λy e=>by subst e;exact N7 o (b7 (m.trans (o6.drew _))) (ef1 c) G3,?_⟩;simp only[D0,L7,C4,F6,simprocAttr];refine A4 (λh=>?_) (λh=>?_)
    .simp only[L7,simprocAttr];refine o7 results11 ?_;simp only[B3,simprocAttr];have j:¬a[k]=b[k]:=by simpa using h
     exact⟨by rw[el3 (λe=>j (by subst e;rfl))],m.trans (o6.drew _)⟩
    .simp only[L7,C4,F6,simprocAttr,g];have C:a[k]=b[k]:=by simpa using h
     exact T4 (k+1) ⟨dx0 d B8 i (by rw[ef1 d,ef1 c,C]),m.trans (o6.drew _)⟩
   .rintro rfl;simp only[L7,simprocAttr];refine o7 results11 ?_;simp only[B3,simprocAttr];rw[eg4,B8,eg4]at i;exact⟨by rw[i];simp,m⟩
def eh9:=@List.length_filter_le
def V4:G0 prog 24 3 1 8=true:=by kernel_rfl
def bI1:G0 prog 95 4 1 1=true:=by kernel_rfl
def dR7:G0 prog 203 205 2 16=true:=by kernel_rfl
def cz8:G0 prog 242 24 1 24=true:=by kernel_rfl
def bC7{α β:Type}(g:β->α->β)(b:β)(l:List α)(k:Nat)(a:k<l.length):(l.take (k+1)).foldl g b=g ((l.take k).foldl g b) l[k]:=by
 rw[ef8 a,List.foldl_append];rfl
def ah7(l:List Bool)(k:Nat):List Int:=((List.range k).filter λi=>l[i]?.getD false).map λ(i:Nat)=>(i:Int)
def bf5(l:List Bool)(k:Nat):ah7 l (k+1)=if l[k]?.getD false then ah7 l k++[(k:Int)]else ah7 l k:=by
 unfold ah7;rw[eq1,el7,ei4];by_cases h:l[k]?.getD false=true<;>simp[h]
def cj9(l:List Bool)(k:Nat):(ah7 l k).length<=k:=by
 unfold ah7;rw[eg5];exact ef9 (eh9 _ _) (by simp)
def cx5(v:Value)(l:List Bool)(w:World)(hv:R (m8 w) v l)(A:l.length<=1000000):o9 prog 201 #[v] w λu c=>(B0 (m8 w) c 3 u (ah7 l l.length)/\o6 w c):=by
 refine p9 [v] func201 rfl ?_;simp only[L7,R9,T6,simprocAttr,hv.isS,hv.vlen];refine A6 [6,7] (σ:=Nat) (λk f c=>f 8 = .int .i64 k/\k<=l.length/\B0 (m8 w) c 3 (f 3) (ah7 l k)/\o6 w c) (λk=>l.length-k) 0 ?_ ?_
 .exact⟨rfl,eg3 _,B0.nil _ _ _,o8.refl _⟩
 .rintro k f c ⟨o,p,_⟩ ⟨g,s,h,d⟩;simp only[L7,C4,F6,simprocAttr,g,p];refine y5 (λa=>?_) ?_
  .have i:=N7 (P:=prog) (t:=4) hv (b7 d) (ef1 a) ah3;simp only[L7,R9,y4,M5.val,simprocAttr,g,o,hv.inS a,i];refine A4 (λb=>?_) (λb=>?_)
   .have n:=cj9 l k;obtain⟨j,B,C,m,q,r,z⟩:=push (e:=24) V4 rfl h (x:=.int .i64 k) (y:=(k:Int)) rfl (by omega) (by omega) (b7 d);simp only[Value.cells]at j m;simp only[L7,C4,F6,simprocAttr,g,j,m];refine T4 (k+1) ⟨?_,h.ext2 d r⟩;rw[bf5,if_pos (by simp[a,b])];exact q
   .simp only[L7,C4,F6,simprocAttr,g];refine T4 (k+1) ⟨?_,d⟩;rw[bf5,if_neg (by simp[a,b])];exact h
  .rintro rfl;simp only[L7,simprocAttr];exact o7 results201 ⟨h,d⟩
def dB2(w:World)(a b:Int):
  (Instr.alloc 205 true (.tuple #[])).run prog w = .ok (.pointer (some ⟨w.heap.size,0,none⟩)) (w.alloc (.cells #[.int .i64 0,.int .i64 0] 205)) /\
  (Instr.storeAt 205 (.pointer (some ⟨w.heap.size,0,none⟩)) (.agg #[.int .i64 a,.int .i64 b])).run prog (w.alloc (.cells #[.int .i64 0,.int .i64 0] 205)) =
   .ok () (w.alloc (.cells #[.int .i64 a,.int .i64 b] 205)):=
 aA5 (P:=prog) (T:=205) dm2 (by rw[bJ5];rfl) (cs:=#[.int .i64 a,.int .i64 b]) (by rw[bJ5];rfl) (by simp[Value.oneCell'])
def dB0(w:World)(a b:Int):(Instr.loadAt 3 (.pointer (some ⟨w.heap.size,0,none⟩))).run prog (w.alloc (.cells #[.int .i64 a,.int .i64 b] 205)) = .ok (.int .i64 a) (w.alloc (.cells #[.int .i64 a,.int .i64 b] 205)):=
 df3 (by rfl) G3
def dB1(w:World)(a b:Int):(Instr.loadAt 3 (.pointer (some ⟨w.heap.size,1,none⟩))).run prog (w.alloc (.cells #[.int .i64 a,.int .i64 b] 205)) = .ok (.int .i64 b) (w.alloc (.cells #[.int .i64 a,.int .i64 b] 205)):=
 df3 (by rfl) G3
def ldP{h:Hp}{w:World}{v:Value}{xs:List (Int×Int)}(b:R h v xs)(hw:B8 h (m8 w)){k:Nat}{x:Int×Int}(a:xs[k]?=some x):
  (Instr.loadAt 205 (.pointer (some (G9 v (k*2))))).run prog w = .ok (.agg #[.int .i64 x.1,.int .i64 x.2]) w:=
 bY4 b hw a dk2 dl6 cB4 bJ5
def bp5(n:Nat)(e:Int×Int):Prop:=0<=e.1/\e.1<n/\0<=e.2/\e.2<n
end Go.Proofs.YtggahhenbbgffaaGreat
namespace Go.Proofs
open Go.Shelf
def Tryz.layI_ren:Go.Shelf.Ren:=⟨fun|21=>277|27=>300|28=>301|35=>309|39=>311|n=>n,fun|22=>24|3=>3|4=>4|0=>0|n=>n,fun|n=>n⟩
def Tryz.layI:Go.Proofs.Lays2.n21 Tryz.prog Tryz.layI_ren:={
 mixed:=by kernel_rfl
 f21:=Tryz.func277.trans (congrArg some (by kernel_rfl))
 f27:=Tryz.func300.trans (congrArg some (by kernel_rfl))
 f28:=Tryz.func301.trans (congrArg some (by kernel_rfl))
 f35:=Tryz.func309.trans (congrArg some (by kernel_rfl))
 f39:=Tryz.func311.trans (congrArg some (by kernel_rfl))
 t0:=Tryz.underlying0
 a0:=Tryz.isAgg0
 z0:=Tryz.sizeOf0
 v0:=Tryz.zeroValue0
 t3:=Tryz.underlying3
 a3:=Tryz.isAgg3
 z3:=Tryz.sizeOf3
 v3:=Tryz.zeroValue3
 t4:=Tryz.underlying4
 a4:=Tryz.isAgg4
 z4:=Tryz.sizeOf4
 v4:=Tryz.zeroValue4
 t22:=Tryz.underlying24
 a22:=Tryz.isAgg24
 z22:=Tryz.sizeOf24
 v22:=Tryz.zeroValue24
 i3:=by kernel_rfl}
def Tryz.layB_ren:Go.Shelf.Ren:=⟨fun|25=>276|31=>97|32=>299|37=>155|n=>n,fun|22=>24|3=>3|4=>4|40=>129|0=>0|n=>n,fun|n=>n⟩
def Tryz.layB:Go.Proofs.Lays2.n25 Tryz.prog Tryz.layB_ren:={
 mixed:=by kernel_rfl
 f25:=Tryz.func276.trans (congrArg some (by kernel_rfl))
 f31:=Tryz.func97.trans (congrArg some (by kernel_rfl))
 f32:=Tryz.func299.trans (congrArg some (by kernel_rfl))
 f37:=Tryz.func155.trans (congrArg some (by kernel_rfl))
 t0:=Tryz.underlying0
 a0:=Tryz.isAgg0
 z0:=Tryz.sizeOf0
 v0:=Tryz.zeroValue0
 t3:=Tryz.underlying3
 a3:=Tryz.isAgg3
 z3:=Tryz.sizeOf3
 v3:=Tryz.zeroValue3
 t4:=Tryz.underlying4
 a4:=Tryz.isAgg4
 z4:=Tryz.sizeOf4
 v4:=Tryz.zeroValue4
 t22:=Tryz.underlying24
 a22:=Tryz.isAgg24
 z22:=Tryz.sizeOf24
 v22:=Tryz.zeroValue24
 t40:=Tryz.underlying129
 a40:=Tryz.isAgg129
 z40:=Tryz.sizeOf129
 v40:=Tryz.zeroValue129}
end Go.Proofs
namespace Go.Proofs.YtggahhenbbgffaaGreat
open Go Tryz
def ei6:=@List.length_singleton
def P5(l:List Int):List Value:=l.map (Value.int .i64)
def G4{h:Hp}:∀{l:List Int} {a:List Value},Q8 h a l↔a=P5 l
 | [],a=>en7
 | x::l,a=>by
  constructor
  .rintro⟨c,f,rfl,d,e⟩;have b:c=[.int .i64 x]:=d;rw[b,G4.1 e];rfl
  .rintro rfl;exact⟨[.int .i64 x],P5 l,rfl,rfl,G4.2 rfl⟩
def cj3(l:List Int):∀v∈P5 l,v.oneCell'=true:=by
 intro v a;obtain⟨x,_,rfl⟩:=eh4.1 a;rfl
def de5{l:List Int}{j:Nat}(a:j<l.length):(P5 l)[j]?=some (.int .i64 (l.getD j 0)):=by
 simp[P5,ei9,ef1 a,List.getD]
def aa3{b:Nat}{T:TypeId}:∀(d:List Value) (c:Nat) (w:World) (a:Array Value),w.heap[b]?=some (.cells a T (0,0))->c+d.length<=a.size ->
  (w.setCells b c d).heap[b]?=some (.cells (a.toList.take c++d++a.toList.drop (c+d.length)).toArray T (0,0))
 | [],c,w,a,hb,_=>by simp[World.setCells,hb]
 | v::d,c,w,a,hb,hl=>by
  simp only[ei2]at hl;have g:=heap_setCell_same w b c a T v hb;rw[World.setCells,aa3 d (c+1) _ _ g (by simp;omega)];have e:a.toList.length=a.size:=by simp
  simp only[Array.toList_setIfInBounds,ei2]
  congr 3
  rw[List.take_set,ef8 (by omega),List.set_append_right (h:=by simp;omega)];have f:c-(a.toList.take c).length=0:=by simp;omega
  rw[f,List.drop_set_of_lt (by omega)];simp[ei0,ep8,Nat.add_comm 1]
def ae4{b:Nat}{M:Nat->Prop}(d:M b):∀(c:List Value) (a:Nat) (w:World),o8 M w (w.setCells b a c)
 | [],_,w=>o8.refl w
 | v::c,a,w=>(o8.setCell w ⟨b,a,none⟩ v d).trans (ae4 d c (a+1) _)
def o8.drew{M:Nat->Prop}(w:World):o8 M w w.drew:=(o6.drew w).weaken λ_ _ h=>h.elim
def o8.alloc{M:Nat->Prop}(w:World)(o:Obj):o8 M w (w.alloc o):=(o6.alloc w o).weaken λ_ _ h=>h.elim
def o8.drewN{M:Nat->Prop}(w:World)(q:Nat):o8 M w (w.drewN q):=⟨rfl,rfl,rfl,eg6 _,λ_ _ _=>rfl⟩
section
variable {h:Hp} {w:World} {v:Value} {l:List Int}
def cl9(o:B0 h w 3 v l):(v = .slice none 0 0/\l=[])\/∃b c a,v = .slice (some ⟨b,0,none⟩) l.length c/\h b=none/\w.heap[b]?=some (.cells a 3 (0,0))/\l.length<=c/\c<=maxLen/\a.size=c/\a.toList.take l.length=P5 l:=by
 rcases o with n|⟨b,c,a,e,d,f,g,i,j,k⟩
 .exact .inl n
 .refine .inr ⟨b,c,a,e,d,f,g,i,by simpa[A3.sz]using j,?_⟩;have:=G4.1 k;have m:l.length*A3.sz Int=l.length:=en3 _;rw[m]at this;exact this
def bt9{b c:Nat}{a:Array Value}(d:h b=none)(e:w.heap[b]?=some (.cells a 3 (0,0)))(f:l.length<=c)(g:c<=maxLen)(i:a.size=c)(j:a.toList.take l.length=P5 l):
  B0 h w 3 (.slice (some ⟨b,0,none⟩) l.length c) l:=by
 refine .inr ⟨b,c,a,rfl,d,e,f,g,by rw[i];exact(en3 c).symm,?_⟩;have k:l.length*A3.sz Int=l.length:=en3 _;rw[k,j];exact G4.2 rfl
def dF3:(Tryz.layI_ren.f 21)=277:=by kernel_rfl
def dF2:(Tryz.layB_ren.f 25)=276:=by kernel_rfl
def bE2:(Tryz.layI_ren.t 3)=3:=by kernel_rfl
def bH4(x:Int)(k:B0 h w 3 v l)(s:l.length<=1000000000)(m:l.Pairwise (· <= ·)):
  o9 prog 276 #[v,.int .i64 x] w λu d=>(u = .tuple #[.int .i64 (l.countP (· < x):Nat),.bool (l.contains x)]/\o6 w d):=by
 rw[<-dF2];rcases cl9 k with⟨rfl,rfl⟩|⟨b,c,a,rfl,n,g,o,p,r,i⟩
 .refine(Any.slices_BinarySearch_int_empty Tryz.layB none 0 x w).mono ?_;rintro e d ⟨rfl,rfl⟩;exact⟨_,rfl,rfl,o8.refl _⟩
 .refine(Any.slices_BinarySearch_int Tryz.layB b 0 l.length c l x w (eg6 _) (by omega) ?_ (by rw[eg4];exact m)).mono ?_
  .intro j f;rw[ej1,en2 w b j a _ (0,0) g];have:=de5 f;rw[<-i,en1,if_pos f]at this;simpa using this
  .rintro e d ⟨rfl,q,rfl⟩;rw[eg4];exact⟨_,rfl,rfl,o8.drewN _ _⟩
def bD7(x:Int)(i J:Nat)(w0:World)(F:w=w0.alloc (.cells #[.int .i64 x] 3))(ho:B0 h w0 3 v l)(hi:i<=l.length)(hl:l.length<=1000000000)(hw:B8 h (m8 w0)):
  o9 prog 277 #[v,.int .i64 i,.slice (some ⟨w0.heap.size,0,none⟩) 1 J] w λu o=>(B0 h o 3 u (l.take i++x::l.drop i)/\o8 (A0 v) w0 o/\E9 w0 v u):=by
 rw[<-dF3];have Z:o8 (A0 v) w0 w:=by rw[F];exact o8.alloc _ _
 have E:w.heap[w0.heap.size]?=some (.cells #[.int .i64 x] 3 (0,0)):=by rw[F];exact ej0 w0 _
 have aB:w.heap.size=w0.heap.size+1:=by rw[F];simp
 have D:∀(j:Nat) (u:Value),[Value.int .i64 x][j]?=some u->w.cell? ⟨w0.heap.size,0+j,none⟩=some u:=by
  intro j u t;rw[ej1,en2 w _ j _ _ (0,0) E];simpa using t
 have z:∀v∈[Value.int .i64 x],v.oneCell'=true:=by simp[Value.oneCell']
 have hE:o6 w0 w:=by rw[F];exact o6.alloc _ _
 have al:B0 h w 3 v l:=ho.ext hE;have an:B8 h (m8 w):=p7 hw (b7 hE);have s:∀(o:World) (d:Array Value) (n c:Nat),o6 w o->o.heap[w.heap.size]?=some (.cells d 3 (0,0))->n=l.length+1->n<=c->c<=maxLen->d.size=c ->
   d.toList.take n=P5 (l.take i++x::l.drop i) ->
   B0 h o 3 (.slice (some ⟨w.heap.size,0,none⟩) n c) (l.take i++x::l.drop i)/\o8 (A0 v) w0 o/\E9 w0 v (.slice (some ⟨w.heap.size,0,none⟩) n c):=by
  intro o d n c he X hn hc ah hs B;have q:(l.take i++x::l.drop i).length=n:=by simp;omega
  refine⟨?_,Z.trans (he.weaken λ_ _ h=>h.elim),λb hb=>by simp[A0,Value.ownBlock]at hb;exact .inr (by omega)⟩;have:=bt9 (h:=h) (w:=o) (l:=l.take i++x::l.drop i) (aI3 an (eg6 _)) X (by omega) ah hs (by rw[q];exact B);rw[q]at this;exact this
 rcases cl9 al with⟨rfl,rfl⟩|⟨b,c,g,rfl,h1,P,h3,h4,h5,h6⟩
 .have ak:i=0:=by simpa using hi
  subst ak;refine(Any2.slices_Insert_int_end_grow Tryz.layI none 0 0 w0.heap.size 0 1 J [] [.int .i64 x] w (by omega) (by omega) (by omega) (by omega) rfl rfl (λ_=>rfl) (λa ha=>by cases ha) D z).mono ?_;rintro e o ⟨rfl,rfl⟩;refine⟨_,rfl,s _ _ _ _ ((o6.drew w).trans (o6.alloc _ _)) (by rw[bE2];exact ej0 w.drew _) rfl (grownCap_ge _ _ _ _) (grownCap_le_maxLen _ _ _ _ (by decide)) ?_ ?_⟩
  .have:=grownCap_ge w 1 0 (Tryz.layI_ren.t 3);rw[bE2]at this ⊢;simp[size_zeroCells,Value.cells]at this ⊢;omega
  .simp[P5]
 .have f:(P5 l).length=l.length:=by simp[P5]
  have A:∀j,w.cell? ⟨b,j,none⟩=g[j]?:=λj=>en2 w b j g _ (0,0) P;have p:∀(j:Nat) (u:Value),(P5 l)[j]?=some u->w.cell? ⟨b,0+j,none⟩=some u:=by
   intro j u t;rw[ej1,A];rw[<-h6,en1]at t;split at t
   .simpa using t
   .cases t
  have C:∀j,j<c->(w.cell? ⟨b,0+j,none⟩).isSome=true:=by
   intro j t;rw[ej1,A];simp[h5,t]
  have V:∀j,w.frozen? ⟨b,j,none⟩=false:=λj=>by simp[World.frozen?,P]
  have B:g.toList.length=c:=by simpa using h5
  have Q:w0.heap.size≠b:=by
   intro e;have:=ho.lt (b:=b) (by simp[A0,Value.ownBlock]);omega
  have r:∀(o:World) (d:Array Value),o8 (λk=>k=b) w o->o.heap[b]?=some (.cells d 3 (0,0))->l.length+1<=c->d.size=c ->
    d.toList.take (l.length+1)=P5 (l.take i++x::l.drop i) ->
    B0 h o 3 (.slice (some ⟨b,0,none⟩) (l.length+1) c) (l.take i++x::l.drop i)/\o8 (A0 (.slice (some ⟨b,0,none⟩) l.length c)) w0 o/\E9 w0 (.slice (some ⟨b,0,none⟩) l.length c) (.slice (some ⟨b,0,none⟩) (l.length+1) c):=by
   intro o d hm X hc hs B;have q:(l.take i++x::l.drop i).length=l.length+1:=by simp;omega
   refine⟨?_,Z.trans (hm.weaken λk _ hk=>by simp[A0,Value.ownBlock,hk]),λk hk=>.inl (by simpa[A0,Value.ownBlock]using hk)⟩;have:=bt9 (h:=h) (w:=o) (l:=l.take i++x::l.drop i) (c:=c) h1 X (by omega) h4 hs (by rw[q];exact B);rw[q]at this;exact this
  have m:P5 (l.take i++x::l.drop i)=(P5 l).take i ++ .int .i64 x::(P5 l).drop i:=by simp[P5]
  by_cases hin:i=l.length
  .subst hin;by_cases hroom:l.length+1<=c
   .refine(Any2.slices_Insert_int_end_room Tryz.layI b 0 l.length c w0.heap.size 0 1 J [.int .i64 x] w (by omega) hroom h4 rfl (λj t=>?_) (λj t=>V _) D z).mono ?_
    .rw[ej1];have:=C (l.length+j) (by omega)
     rwa [ej1]at this
    .rintro e o ⟨rfl,rfl⟩;have X:=aa3 [Value.int .i64 x] (0+l.length) w g P (by simp;omega);refine⟨_,rfl,r _ _ (ae4 (M:=λk=>k=b) rfl _ _ _) X hroom ?_ ?_⟩
     .simp[h5];omega
     .rw[m,ej1,h6];have N:(P5 l).take l.length=P5 l:=by rw[<-f,eg4]
      have e2:(P5 l).drop l.length=[]:=by rw[<-f,eo9]
      rw[N,e2];have O:(P5 l++[Value.int .i64 x]).length=l.length+1:=by simp[f]
      simp only[];rw[<-O,eo6]
   .refine(Any2.slices_Insert_int_end_grow Tryz.layI (some ⟨b,0,none⟩) l.length c w0.heap.size 0 1 J (P5 l) [.int .i64 x] w (by omega) h3 (by omega) (by omega) f rfl (λh=>by cases h) (λa ha j u t=>?_) D z).mono ?_
    .obtain rfl:=eh1 ha;rw[Addr.add_lit];exact p j u t
    .rintro e o ⟨rfl,rfl⟩;have L:=grownCap_ge w (l.length+1) c (Tryz.layI_ren.t 3);refine⟨_,rfl,s _ _ _ _ ((o6.drew w).trans (o6.alloc _ _)) (by rw[bE2];exact ej0 w.drew _) rfl L (grownCap_le_maxLen _ _ _ _ (by simp only[maxLen];omega)) ?_ ?_⟩
     .rw[bE2]at L ⊢;simp[size_zeroCells,Value.cells,f]at L ⊢;omega
     .rw[m];have N:(P5 l).take l.length=P5 l:=by rw[<-f,eg4]
      have e2:(P5 l).drop l.length=[]:=by rw[<-f,eo9]
      rw[N,e2];simp only[Array.toList_append];rw[el9 (by simp[f])];rw[ej5 (by simp[f])]
  .have Y:i<l.length:=by omega
   by_cases hroom:l.length+1<=c
   .refine(Any2.slices_Insert_int_shift Tryz.layI b 0 l.length c i w0.heap.size 0 1 J (P5 l) [.int .i64 x] w Y (by omega) hroom h4 Q f rfl p (λj t=>C j (by omega)) (λj _=>V _) D (cj3 l) z
     3 3 1 c (by simp[World.shape?,E]) (by simp[World.shape?,P,h5]) (by omega) (by simp[World.frozen?,E]) (by simp[World.frozen?,E])).mono ?_
    rintro e o ⟨rfl,rfl⟩;have K:((P5 l).drop i).length=l.length-i:=by simp[f]
    have H:=aa3 ((P5 l).drop i) (0+(i+1)) w.drew g P (by rw[K];omega);have I:=aa3 [Value.int .i64 x] (0+i) _ _ H (by simp[K];omega);refine⟨_,rfl,r _ _ ((o8.drew w).trans ((ae4 (M:=λk=>k=b) rfl _ _ _).trans (ae4 (M:=λk=>k=b) rfl _ _ _))) I hroom ?_ ?_⟩
    .simp[K];omega
    .rw[m];simp only[ej1,ei6];have N:(P5 l).take i=g.toList.take i:=by rw[<-h6,List.take_take];congr 1;omega
     have e3:(g.toList.take (i+1)).length=i+1:=by rw[eg0,B];omega
     have e4:(g.toList.take (i+1)++(P5 l).drop i++g.toList.drop (i+1+((P5 l).drop i).length)).take i=g.toList.take i:=by
      rw[ei0,el9 (by omega),List.take_take];congr 1;omega
     have e5:(g.toList.take (i+1)++(P5 l).drop i++g.toList.drop (i+1+((P5 l).drop i).length)).drop (i+1)=(P5 l).drop i++g.toList.drop (i+1+((P5 l).drop i).length):=by
      rw[ei0,List.drop_append_of_le_length (by omega),List.drop_of_length_le (by omega),ep1]
     rw[e4,e5,N];have O:(g.toList.take i++[Value.int .i64 x]++(P5 l).drop i).length=l.length+1:=by simp[f];omega
     rw[<-ei0,<-O,eo6];simp
   .refine(Any2.slices_Insert_int_grow Tryz.layI b 0 l.length c i w0.heap.size 0 1 J (P5 l) [.int .i64 x] w Y (by omega) h3 (by omega) (by omega) f rfl p D (cj3 l) z).mono ?_;rintro e o ⟨rfl,rfl⟩;have L:=grownCap_ge w (l.length+1) c (Tryz.layI_ren.t 3);have W:=grownCap_le_maxLen w (l.length+1) c (Tryz.layI_ren.t 3) (by simp only[maxLen];omega);generalize grownCap w (l.length+1) c (Tryz.layI_ren.t 3)=G at L W;have ao:(Value.int .i64 0).cells.size=1:=rfl;generalize R:((P5 l).take i).toArray++Builtin.zeroCells (Value.int .i64 0).cells (l.length+1-i)++Builtin.zeroCells (Value.int .i64 0).cells (G-(l.length+1))=y;have T:y.size=G:=by
     rw[<-R];simp[size_zeroCells,ao,f];omega
    have U:y.toList.take i=(P5 l).take i:=by
     rw[<-R];simp only[Array.toList_append,ei0];rw[el9 (by simp[f];omega),ej5 (by simp;omega)]
    have S:y.toList.length=G:=by simpa using T
    have aj:((w.alloc (.cells y (Tryz.layI_ren.t 3))).drew).heap[w.heap.size]?=some (.cells y 3 (0,0)):=by rw[bE2];exact ej0 w _
    have K:((P5 l).drop i).length=l.length-i:=by simp[f]
    have H:=aa3 [Value.int .i64 x] i _ _ aj (by simp;omega);have I:=aa3 ((P5 l).drop i) (i+1) _ _ (show((((w.alloc (.cells y (Tryz.layI_ren.t 3))).drew).setCells w.heap.size i [Value.int .i64 x]).drew).heap[w.heap.size]?=_ from H) (by simp[K];omega);refine⟨_,rfl,s _ _ _ _ ?_ I rfl L W ?_ ?_⟩
    .refine o8.ext_of (o6.alloc w (.cells y (Tryz.layI_ren.t 3))) (M:=λk=>k=w.heap.size) ?_ (λk hk=>by omega);exact(o8.drew _).trans ((ae4 (M:=λk=>k=w.heap.size) rfl _ _ _).trans ((o8.drew _).trans (ae4 (M:=λk=>k=w.heap.size) rfl _ _ _)))
    .simp[K];omega
    .rw[m];simp only[ei6];have e3:(y.toList.take i++[Value.int .i64 x]).length=i+1:=by simp[S];omega
     have e4:(y.toList.take i++[Value.int .i64 x]++y.toList.drop (i+1)).take (i+1)=y.toList.take i++[Value.int .i64 x]:=by
      rw[<-e3,eo6]
     rw[e4,U];have O:((P5 l).take i++[Value.int .i64 x]++(P5 l).drop i).length=l.length+1:=by simp[f];omega
     rw[<-O,eo6];simp
end
def du5(v:Value)(x:Int)(l:List Int)(w:World)(hv:R (m8 w) v (x::l))(z:l.length<=1000000000):
  o9 prog 303 #[v] w λu i=>(u = .int .i64 (l.foldl min x)/\i=w):=by
 refine p9 [v] func303 rfl ?_;have j:=hv.isS;have h:=hv.vlen;simp only[ei2]at h;have s:decide (((l.length+1:Nat):Int)<1)=false:=by simp;omega
 have o:=N7 (P:=prog) (t:=3) hv (n7 _) (k:=0) (x:=x) (by rfl) G3;simp only[L7,R9,C4,F6,unV,aZ6,y4,ac6,J0,T6,M5.val,simprocAttr,j,h,s,hv.inS (k:=0) (by simp),o];refine A6 [0] (σ:=Nat) (λk f i=>f 4 = .int .i64 ((k+1:Nat):Int)/\k<=l.length/\f 3 = .int .i64 ((l.take k).foldl min x)/\i=w) (λk=>l.length-k) 0 ?_ ?_
 .simp only[B3,simprocAttr];exact⟨by first|rfl|trivial,eg3 _,by simp[M5.val],by trivial⟩
 .rintro k f i ⟨e0,_⟩ ⟨r,y,q,rfl⟩;simp only[L7,R9,C4,F6,unV,aZ6,y4,ac6,J0,T6,M5.val,simprocAttr,r,e0,j,h];refine A4 (λm=>?_) (λm=>?_)
  .have e:k<l.length:=by simp at m;omega
   have c:=hv.inS (k:=k+1) (by simp;omega);have d:=N7 (P:=prog) (t:=3) hv (n7 _) (k:=k+1) (x:=l[k]) (by simp[e]) G3;have p:=bC7 min x l k e;simp only[L7,R9,C4,F6,unV,aZ6,y4,ac6,J0,T6,M5.val,simprocAttr,r,q,e0,j,h,c,d];have g:∀a b:Int,(if b<a then b else a)=min a b:=λa b=>by
    simp only[Int.min_def];split<;>split<;>omega
   refine⟨k+1,by omega,by rw[H8 (k+1)],by omega,by rw[p,g],by trivial⟩
  .have n:k=l.length:=by simp at m;omega
   subst n;simp only[L7,R9,C4,F6,unV,aZ6,y4,ac6,J0,T6,M5.val,simprocAttr,q];refine o7 results303 ?_;simp only[B3,simprocAttr];rw[eg4];exact⟨by trivial,by trivial⟩
def ct2(v:Value)(l:List Int)(w:World)(hv:R (m8 w) v l)(E:l.length<=1000000000):
  o9 prog 304 #[v] w λu s=>(B0 (m8 w) s 3 u l/\o6 w s):=by
 refine p9 [v] func304 rfl ?_;have D:=hv.isS;have y:C4 prog .eql 24 v (.slice none 0 0)=some (.bool (cl2 v)):=by
  obtain⟨a,n,c,b,_⟩:=hv;simp at b;subst b;simp[C4,Go.Proofs.YtggahhenbbgffaaGreat.isS,dT3]
 obtain⟨G,I,i,f,g,z⟩:=dF5 (P:=prog) (w:=w) (h:=m8 w) (α:=Int) V4 (n7 _);obtain⟨H,J,t,p,o,B⟩:=W2 (P:=prog) (e:=24) V4 rfl f hv (by simp;omega) (by simp;omega) (b7 g);simp only[L7,simprocAttr,y];refine A4 (λr=>?_) (λr=>?_)
 .simp only[L7,simprocAttr];refine o7 results304 ?_;simp only[B3,simprocAttr];obtain⟨a,n,c,b,F,A,q,k,j⟩:=hv;simp at b;subst b;cases a with
  | some a=>simp[cl2]at r
  | none=>
   have d:q=[]:=by
    cases q with
    | nil=>rfl
    | cons x _=>obtain⟨C,e,_⟩:=j 0 x rfl;cases e
   subst d;have:=O5 k;have m:l=[]:=by
    cases l with
    | nil=>rfl
    | cons _ _=>simp[A3.sz]at this
   subst m;exact⟨B0.nil _ _ _,o8.refl _⟩
 .simp only[L7,simprocAttr,i,t];refine o7 results304 ?_;simp only[B3,simprocAttr];exact⟨by simpa using p,f.ext2 g o⟩
def GR(h:Hp)(d:Value)(nx e:List (List Int)):Prop:=
 ∃a b c,d = .pointer (some ⟨a,0,none⟩)/\M7 h ⟨a,0,none⟩=some b/\M7 h ⟨a,1,none⟩=some c/\R h b nx/\R h c e
def GR.mono{h k:Hp}{b:Value}{nx c:List (List Int)}(l:GR h b nx c)(a:B8 h k):GR k b nx c:=by
 obtain⟨d,m,n,e,f,g,i,j⟩:=l;exact⟨d,m,n,e,I7 a f,I7 a g,A3.mono a i,A3.mono a j⟩
def be5(e:Value)(nx i:List (List Int))(a:Int)(w:World)(h:GR (m8 w) e nx i):
  o9 prog 199 #[e,.int .i64 a] w λu j=>(u = .bool (I2 nx.length a)/\j=w):=by
 obtain⟨f,m,n,rfl,g,k,d,l⟩:=h;refine p9 [.pointer (some ⟨f,0,none⟩),.int .i64 a] func199 rfl ?_;have c:=J1 (P:=prog) (t:=242) g (n7 _) Z1;by_cases ha:0<=a
 .have b:decide (0<=a)=true:=by simpa using ha
  simp only[L7,R9,C4,F6,T6,simprocAttr,b,c,d.isS,d.vlen];refine o7 results199 ?_;simp only[B3,simprocAttr];exact⟨by simp[I2,b],by trivial⟩
 .have b:decide (0<=a)=false:=by simpa using ha
  simp only[L7,R9,C4,F6,simprocAttr,b];refine o7 results199 ?_;simp only[B3,simprocAttr];exact⟨by simp[I2,b],by trivial⟩
def do8(c:Value)(nx g:List (List Int))(w:World)(f:GR (m8 w) c nx g):
  o9 prog 283 #[c] w λu h=>(u = .int .i64 (nx.length:Nat)/\h=w):=by
 obtain⟨d,k,l,rfl,e,i,b,j⟩:=f;refine p9 [.pointer (some ⟨d,0,none⟩)] func283 rfl ?_;have a:=J1 (P:=prog) (t:=242) e (n7 _) Z1;simp only[L7,R9,C4,T6,simprocAttr,a,b.isS,b.vlen];exact o7 results283 ⟨rfl,rfl⟩
def cX3(q:Value)(nx n:List (List Int))(a:Int)(w:World)(o:GR (m8 w) q nx n)(p:n.length=nx.length)(z:∀x∈nx,x.length<=1000000000):
  o9 prog 284 #[q,.int .i64 a] w λu g=>(B0 (m8 w) g 3 u (D4 nx a)/\o6 w g):=by
 have i:=o;obtain⟨s,G,H,rfl,y,C,f,D⟩:=o;refine p9 [.pointer (some ⟨s,0,none⟩),.int .i64 a] func284 rfl ?_;have j:=J1 (P:=prog) (t:=242) y (n7 _) Z1;have E:=f.isS;have F:=f.vlen;simp only[L7,R9,simprocAttr];refine t8 (be5 _ nx n a w i) ?_;rintro u g ⟨rfl,rfl⟩;have d:nx.length=nx.length:=rfl;by_cases ha:I2 nx.length a=true
 .have h:I2 nx.length a=true:=by rw[d];exact ha
  obtain⟨e,k⟩:=au7 h;have v:decide (0<=a)=true:=by simpa using(B4.1 ha).1
  obtain⟨x,l,m⟩:=f.row e;have c:=J1 (P:=prog) (t:=24) m (n7 _) ah2;simp only[L7,R9,unV,y4,simprocAttr,ha,j,f.inS k,v,c];refine t8 (ct2 x _ g l (z _ (eh3 e))) ?_;rintro r I ⟨A,B⟩;simp only[L7,simprocAttr];exact o7 results284 ⟨A,B⟩
 .have b:I2 nx.length a=false:=by simpa using ha
  simp only[L7,R9,unV,simprocAttr,b];refine o7 results284 ?_;simp only[B3,simprocAttr];rw[bh8 (by rw[d];exact b)];exact⟨B0.nil _ _ _,o8.refl _⟩
structure GX (h:Hp) (w:World) (gb:Nat) (cs:Array Value) (vn:Value) (us:List X9) (nx:List (List Int)) (vp:Value) (us':List X9) (pv:List (List Int)):Prop where
 free:h gb=none
 cell:w.heap[gb]?=some (.cells cs 268 (0,0))
 rn:E2 h w 24 3 vn us nx
 rp:E2 h w 24 3 vp us' pv
 gn:¬N2 vn us gb
 gp:¬N2 vp us' gb
 dis:∀b,N2 vn us b->¬N2 vp us' b
section
variable {h:Hp} {w:World} {gb:Nat} {cs:Array Value} {vn vp:Value} {us us':List X9} {nx pv:List (List Int)}
def GX.swap(a:GX h w gb cs vn us nx vp us' pv):GX h w gb cs vp us' pv vn us nx:=
 ⟨a.free,a.cell,a.rp,a.rn,a.gp,a.gn,λb c d=>a.dis b d c⟩
def GX.lt(a:GX h w gb cs vn us nx vp us' pv):gb<w.heap.size:=(ef5.1 a.cell).1
def GX.mod{M:Nat->Prop}{e:World}(a:GX h w gb cs vn us nx vp us' pv)(hm:o8 M w e)(c:∀b,(b=gb\/N2 vn us b\/N2 vp us' b)->¬M b):GX h e gb cs vn us nx vp us' pv:=
 ⟨a.free,(hm.block gb a.lt (c gb (.inl rfl))).trans a.cell,a.rn.mod hm λb d=>c b (.inr (.inl d)),a.rp.mod hm λb d=>c b (.inr (.inr d)),a.gn,a.gp,a.dis⟩
def GX.set{o j:World}(c:GX h w gb cs vn us nx vp us' pv){i:Nat}{u:X9}(p:us[i]?=some u){u':Value}{xs:List Int}
  (hm:o8 (A0 u.v) w o) (s:B0 h o 3 u' xs) (hv:E9 w u.v u') (g:o8 (A0 vn) o j) (m:B0 h j 24 vn (us.set i ⟨u'⟩)) :
  GX h j gb cs vn (us.set i ⟨u'⟩) (nx.set i xs) vp us' pv:=by
 have l:u∈us:=eh3 p;have f:∀b,N2 vn (us.set i ⟨u'⟩) b->N2 vn us b\/w.heap.size<=b:=by
  rintro b (a|⟨x,n,a⟩)
  .exact .inl (.inl a)
  .rcases en6 n with e|e
   .exact .inl (.inr ⟨x,e,a⟩)
   .subst e;rcases hv b a with k|k
    .exact .inl (.inr ⟨u,l,k⟩)
    .exact .inr k
 have q:∀b,A0 u.v b->N2 vn us b:=λb a=>.inr ⟨u,l,a⟩;have r:∀b,A0 vn b->N2 vn us b:=λb a=>.inl a;refine⟨c.free,?_,c.rn.set p hm s hv g m,?_,?_,c.gp,?_⟩
 .have k:=g.block gb (el8 c.lt hm.size) (λa=>c.gn (r _ a));exact k.trans ((hm.block gb c.lt (λa=>c.gn (q _ a))).trans c.cell)
 .exact(c.rp.mod hm λb a d=>c.dis b (q b d) a).mod g λb a d=>c.dis b (r b d) a
 .intro a;rcases f gb a with e|e
  .exact c.gn e
  .have:=c.lt;omega
 .intro b a d;rcases f b a with e|e
  .exact c.dis b e d
  .have:=c.rp.lt d;omega
def GX.read(a:GX h w gb #[vn,vp] vn us nx vp us' pv)(hw:B8 h (m8 w)):GR (m8 w) (.pointer (some ⟨gb,0,none⟩)) nx pv:=by
 refine⟨gb,vn,vp,rfl,?_,?_,a.rn.ro hw,a.rp.ro hw⟩
 .rw[<-al0,en2 w gb 0 _ _ (0,0) a.cell];rfl
 .rw[<-al0,en2 w gb 1 _ _ (0,0) a.cell];rfl
end
def aK2{P:Program}{α:Type}[A3 α]{h:Hp}{w:World}{T T' t:TypeId}{v:Value}{us:List X9}{a:List (List α)}(f:E2 h w T T' v us a){i:Nat}{u:X9}(e:us[i]?=some u)(g:J5 P t=false):
  (Instr.loadAt t (.pointer (some (G9 v i)))).run P w = .ok u.v w:=by
 obtain⟨j,⟨d,_⟩,c⟩:=f.outer.get e;have:=c 0 u.v (by rw[d];rfl);rw[M4]at this;have b:(i*A3.sz X9)=i:=en3 i;rw[b]at this;exact U9 g this
def bS6{P:Program}{h:Hp}{w:World}{t:TypeId}{v u':Value}{us:List X9}(f:B0 h w 24 v us){i:Nat}(e:i<us.length)(d:isS u'=true){b:TypeInfo}(a:P.info? t=some b)(g:b.size=1):
  ∃c,(Instr.storeAt t (.pointer (some (G9 v i))) u').run P w = .ok () c/\B0 h c 24 v (us.set i ⟨u'⟩)/\o8 (A0 v) w c/\c.heap.size=w.heap.size:=
 F1 f rfl e (y:=(⟨u'⟩:X9)) ⟨rfl,X1 d⟩ (F0 d) a g
def GO(h:Hp)(w:World)(f:Value)(nx g:List (List Int))(M:Nat->Prop):Prop:=
 ∃c d us e a,f = .pointer (some ⟨c,0,none⟩)/\GX h w c #[d,e] d us nx e a g/\∀b,M b↔b=c\/N2 d us b\/N2 e a b
def GO.read{h:Hp}{w:World}{a:Value}{nx b:List (List Int)}{M:Nat->Prop}(c:GO h w a nx b M)(hw:B8 h (m8 w)):GR (m8 w) a nx b:=by
 obtain⟨f,g,us,i,e,rfl,d,_⟩:=c;exact d.read hw
def GO.free{h:Hp}{w:World}{f:Value}{nx g:List (List Int)}{M:Nat->Prop}(e:GO h w f nx g M):∀b,M b->h b=none:=by
 obtain⟨j,k,us,l,i,rfl,c,d⟩:=e;intro b a;rcases(d b).1 a with rfl|a|a
 .exact c.free
 .exact c.rn.free a
 .exact c.rp.free a
def GO.mod{h:Hp}{w f:World}{d:Value}{nx e:List (List Int)}{M N:Nat->Prop}(j:GO h w d nx e M)(hm:o8 N w f)(hN:∀b,M b->¬N b):GO h f d nx e M:=by
 obtain⟨g,l,us,m,a,rfl,k,c⟩:=j;exact⟨g,l,us,m,a,rfl,k.mod hm λb i=>hN b ((c b).2 i),c⟩
structure bz3 (l:List (List Int)):Prop where
 le:∀x∈l,x.Pairwise (· < ·)
 len:∀x∈l,x.length<=100000000
def bz3.le'{l:List (List Int)}(h:bz3 l){x:List Int}(a:x∈l):x.Pairwise (· <= ·):=(h.le x a).imp λh=>Int.le_of_lt h
def dp7(h:Hp)(pg:Value)(nx S:List (List Int))(M:Nat->Prop)(a b:Int)(w:World)(hg:GO h w pg nx S M)(hw:B8 h (m8 w))(hl:S.length=nx.length)(ad:bz3 nx)(ae:bz3 S):
  o9 prog 251 #[pg,.int .i64 a,.int .i64 b] w λu w'=>(u = .bool (at3 nx a b)/\∃M',GO h w' pg (cr6 nx a b) (cr7 nx S a b) M'/\o8 M w w'/\∀b,M' b->M b\/w.heap.size<=b):=by
 have ap:=hg.read hw;obtain⟨p,B,us,T,A,rfl,G,L⟩:=hg;refine p9 [.pointer (some ⟨p,0,none⟩),.int .i64 a,.int .i64 b] func251 rfl ?_;simp only[L7,R9,simprocAttr];refine t8 (be5 _ nx S a w ap) ?_;rintro u w' ⟨rfl,rfl⟩;have I:at3 nx a b=false->∀c,o6 w' c->∃M',GO h c (.pointer (some ⟨p,0,none⟩)) (cr6 nx a b) (cr7 nx S a b) M'/\o8 M w' c/\∀b,M' b->M b\/w'.heap.size<=b:=by
  intro g c he;refine⟨M,?_,he.weaken λ_ _ h=>h.elim,λb f=>.inl f⟩;unfold cr6 cr7;rw[g];exact⟨p,B,us,T,A,rfl,G.mod he λ_ _ h=>h.elim,L⟩
 by_cases ha:I2 nx.length a=true
 .have Z:(!I2 nx.length a)=false:=by rw[ha];rfl
  simp only[L7,unV,simprocAttr,Z];refine t8 (be5 _ nx S b w' ap) ?_;rintro u w ⟨rfl,rfl⟩;by_cases f:I2 nx.length b=true
  .have aa:(!I2 nx.length b)=false:=by rw[f];rfl
   have c0:w.cell? ⟨p,0,none⟩=some B:=by rw[en2 w p 0 _ _ (0,0) G.cell];rfl
   have aY:=G.rn.outer.isS;obtain⟨H,a2⟩:=au7 ha;have a1:us.length=nx.length:=G.rn.len;have Y:=G.rn.outer.inS (k:=a.toNat) (by omega);have d0:decide (0<=a)=true:=by simpa using(B4.1 ha).1
   obtain⟨J,l⟩:∃J,us[a.toNat]?=some J:=⟨us[a.toNat]'(by omega),ef1 (by omega)⟩;have au:=G.rn.row _ _ _ l H;have la:=aK2 (P:=prog) (t:=24) G.rn l ah2;have F:=eh3 H;simp only[L7,R9,unV,y4,simprocAttr,aa,U9 (P:=prog) (t:=242) Z1 c0,Y,d0,la];refine t8 (bH4 b au (ef9 (ad.len _ F) (by omega)) (ad.le' F)) ?_;rintro u o ⟨rfl,D⟩;by_cases hc:(D4 nx a).contains b=true
   .simp only[L7,simprocAttr,hc];refine o7 results251 ?_;simp only[B3,simprocAttr];have g:at3 nx a b=false:=by simp only[at3,hc,Bool.not_true,Bool.and_false]
    exact⟨by rw[g],I g o D⟩
   .have ao:(D4 nx a).contains b=false:=by simpa using hc
    have V:at3 nx a b=true:=by simp only[at3,ao,ha,f,Bool.not_false,Bool.and_true]
    have ay:B8 h (m8 o):=p7 hw (b7 D);simp only[L7,simprocAttr,ao];refine B9 (λc=>o8 (A0 J.v) o.drew c) 16 (A5 [0,1,2,3,4,5,6,7,8,9,10,11,12,13,14,15]) ?_;have d:=(G.mod D λ_ _ h=>h.elim).mod (o6.drew o) λ_ _ h=>h.elim;have av:∀b,A0 J.v b->N2 B us b:=λb f=>.inr ⟨J,eh3 l,f⟩;have aC:∀c,o8 (A0 J.v) o.drew c->(Instr.loadAt 242 (.pointer (some ⟨p,0,none⟩))).run prog c = .ok B c:=λc s=>by
     refine U9 Z1 ?_;rw[en2 c p 0 _ _ (0,0) ((s.block p d.lt (λf=>d.gn (av _ f))).trans d.cell)];rfl
    have aL:∀c,o8 (A0 J.v) o.drew c->(Instr.loadAt 24 (.pointer (some (G9 B a.toNat)))).run prog c = .ok J.v c:=λc s=>by
     have ho:=d.rn.outer.mod s (λb f j=>d.rn.off _ _ l b j f);obtain⟨es,⟨he,_⟩,X⟩:=ho.get l;have:=X 0 J.v (by rw[he];rfl);rw[M4]at this;have r:(a.toNat*A3.sz X9)=a.toNat:=en3 _;rw[r]at this;exact U9 ah2 this
    simp only[D0,A5,L7,R9,simprocAttr];refine⟨B,aC,?_⟩;simp only[D0,L7,R9,simprocAttr];refine⟨B,aC,?_⟩;simp only[D0,L7,R9,y4,simprocAttr,Y,d0];refine⟨J.v,aL,?_⟩;have aH:=as6 (P:=prog) (w:=o.drew) (t:=24) dk1 aC6 (by rw[bj6];omega) (by rw[bj6];omega) (x:=.int .i64 b) (by rw[bj6];rfl);simp only[D0,L7,simprocAttr,aH,F2,Value.cells];refine⟨o8.alloc _ _,?_⟩;have ab:=d.rn.row _ _ _ l H;refine t8 (bD7 b _ 1 o.drew rfl ab List.countP_le_length (ef9 (ad.len _ F) (by omega)) (p7 ay (b7 (o6.drew o)))) ?_;rintro u1 w3 ⟨aq,O,aw⟩;refine⟨O,?_⟩;have aA:=d.rn.outer.mod O (λb f j=>d.rn.off _ _ l b j f);obtain⟨w4,s1,s2,s3,s4⟩:=bS6 (P:=prog) (t:=24) aA (i:=a.toNat) (by omega) aq.isS (z7 am6).choose_spec.1 (by rw[<-E1 (z7 am6).choose_spec.1];exact bv7);have z:=d.set l O aq aw s3 s2;have af:o8 M o.drew w4:=(O.weaken λk _ e=>(L k).2 (.inr (.inl (av k e)))).trans (s3.weaken λk _ e=>(L k).2 (.inr (.inl (.inl e))));have az:B8 h (m8 w4):=H2 (p7 ay (b7 (o6.drew o))) af λk e=>by
     rcases(L k).1 e with rfl|e|e
     .exact G.free
     .exact G.rn.free e
     .exact G.rp.free e
    have e1:w4.cell? ⟨p,1,none⟩=some T:=by rw[en2 w4 p 1 _ _ (0,0) z.cell];rfl
    have aZ:=z.rp.outer.isS;have j:I2 S.length b=true:=by rw[hl];exact f
    obtain⟨ag,a3⟩:=au7 j;have aQ:A.length=S.length:=z.rp.len;have E:=z.rp.outer.inS (k:=b.toNat) (by omega);have d1:decide (0<=b)=true:=by simpa using(B4.1 f).1
    obtain⟨K,m⟩:∃K,A[b.toNat]?=some K:=⟨A[b.toNat]'(by omega),ef1 (by omega)⟩;have ac:=z.rp.row _ _ _ m ag;have lb:=aK2 (P:=prog) (t:=24) z.rp m ah2;have y:=eh3 ag;simp only[D0,L7,R9,y4,simprocAttr,Y,d0,s1,U9 (P:=prog) (t:=242) Z1 e1,E,d1,lb];refine t8 (bH4 a ac (ef9 (ae.len _ y) (by omega)) (ae.le' y)) ?_;rintro u C ⟨rfl,N⟩;have aJ:B8 h (m8 C):=p7 az (b7 N);simp only[L7,simprocAttr];refine B9 (λc=>o8 (A0 K.v) C.drew c) 16 (A5 [0,1,2,3,4,5,6,7,8,9,10,11,12,13,14,15]) ?_;have n:=(z.mod N λ_ _ h=>h.elim).mod (o6.drew C) λ_ _ h=>h.elim;have U:∀b,A0 K.v b->N2 T A b:=λb f=>.inr ⟨K,eh3 m,f⟩;have aD:∀c,o8 (A0 K.v) C.drew c->(Instr.loadAt 242 (.pointer (some ⟨p,1,none⟩))).run prog c = .ok T c:=λc s=>by
     refine U9 Z1 ?_;rw[en2 c p 1 _ _ (0,0) ((s.block p n.lt (λf=>n.gp (U _ f))).trans n.cell)];rfl
    have aM:∀c,o8 (A0 K.v) C.drew c->(Instr.loadAt 24 (.pointer (some (G9 T b.toNat)))).run prog c = .ok K.v c:=λc s=>by
     have ho:=n.rp.outer.mod s (λb f j=>n.rp.off _ _ m b j f);obtain⟨es,⟨he,_⟩,X⟩:=ho.get m;have:=X 0 K.v (by rw[he];rfl);rw[M4]at this;have r:(b.toNat*A3.sz X9)=b.toNat:=en3 _;rw[r]at this;exact U9 ah2 this
    simp only[D0,A5,L7,R9,simprocAttr];refine⟨T,aD,?_⟩;simp only[D0,L7,R9,simprocAttr];refine⟨T,aD,?_⟩;simp only[D0,L7,R9,y4,simprocAttr,E,d1];refine⟨K.v,aM,?_⟩;have an:=as6 (P:=prog) (w:=C.drew) (t:=24) dk1 aC6 (by rw[bj6];omega) (by rw[bj6];omega) (x:=.int .i64 a) (by rw[bj6];rfl);simp only[D0,L7,simprocAttr,an,F2,Value.cells];refine⟨o8.alloc _ _,?_⟩;have R:=n.rp.row _ _ _ m ag;refine t8 (bD7 a _ 1 C.drew rfl R List.countP_le_length (ef9 (ae.len _ y) (by omega)) (p7 aJ (b7 (o6.drew C)))) ?_;rintro u2 w7 ⟨ar,Q,ax⟩;refine⟨Q,?_⟩;have aB:=n.rp.outer.mod Q (λb f j=>n.rp.off _ _ m b j f);obtain⟨w8,t1,t2,t3,t4⟩:=bS6 (P:=prog) (t:=24) aB (i:=b.toNat) (by omega) ar.isS (z7 am6).choose_spec.1 (by rw[<-E1 (z7 am6).choose_spec.1];exact bv7);have aK:=(n.swap.set m Q ar ax t3 t2).swap;simp only[D0,L7,R9,y4,simprocAttr,E,d1,t1];refine o7 results251 ?_;simp only[B3,simprocAttr];refine⟨by rw[V],λk=>k=p\/N2 B (us.set a.toNat ⟨u1⟩) k\/N2 T (A.set b.toNat ⟨u2⟩) k,⟨p,B,us.set a.toNat ⟨u1⟩,T,A.set b.toNat ⟨u2⟩,rfl,?_,λ_=>en7⟩,?_,?_⟩
    .unfold cr6 cr7;rw[V];exact aK
    .have k1:o8 M w o.drew:=(D.trans (o6.drew o)).weaken λ_ _ h=>h.elim;have k2:o8 M w4 C.drew:=(N.trans (o6.drew C)).weaken λ_ _ h=>h.elim;have k3:o8 M C.drew w8:=(Q.weaken λk _ e=>(L k).2 (.inr (.inr (U k e)))).trans (t3.weaken λk _ e=>(L k).2 (.inr (.inr (.inl e))));exact(k1.trans af).trans (k2.trans k3)
    .have z1:w.heap.size<=o.drew.heap.size:=(D.trans (o6.drew o)).size;have z2:o.drew.heap.size<=C.drew.heap.size:=ef9 af.size (N.trans (o6.drew C)).size;have q:∀(us:List X9) (i:Nat) (u:Value) (v:X9) (W:World),us[i]?=some v->E9 W v.v u->w.heap.size<=W.heap.size->∀(B:Value) (k:Nat),N2 B (us.set i ⟨u⟩) k->N2 B us k\/w.heap.size<=k:=by
      intro us i u v W hi hv hW B k e;rcases e with e|⟨x,H,e⟩
      .exact .inl (.inl e)
      .rcases en6 H with r|r
       .exact .inl (.inr ⟨x,r,e⟩)
       .subst r;rcases hv k e with h2|h2
        .exact .inl (.inr ⟨v,eh3 hi,h2⟩)
        .exact .inr (by omega)
     rintro k (rfl|e|e)
     .exact .inl ((L _).2 (.inl rfl))
     .rcases q _ _ _ _ _ l aw z1 _ _ e with r|r
      .exact .inl ((L _).2 (.inr (.inl r)))
      .exact .inr r
     .rcases q _ _ _ _ _ m ax (by omega) _ _ e with r|r
      .exact .inl ((L _).2 (.inr (.inr r)))
      .exact .inr r
  .have am:I2 nx.length b=false:=by simpa using f
   have aa:(!I2 nx.length b)=true:=by rw[am];rfl
   simp only[L7,unV,simprocAttr,aa];refine o7 results251 ?_;simp only[B3,simprocAttr];have g:at3 nx a b=false:=by simp only[at3,am,Bool.and_false,Bool.false_and]
   exact⟨by rw[g],I g w (o8.refl _)⟩
 .have al:I2 nx.length a=false:=by simpa using ha
  have Z:(!I2 nx.length a)=true:=by rw[al];rfl
  simp only[L7,unV,simprocAttr,Z];refine o7 results251 ?_;simp only[B3,simprocAttr];have g:at3 nx a b=false:=by simp only[at3,al,Bool.false_and]
  exact⟨by rw[g],I g _ (o8.refl _)⟩
def F3.rising{n:Nat}{l:List (List Int)}(h:F3 n l)(hn:n<=100000000):bz3 l:=
 ⟨h.le,λx a=>ef9 (h.row_len a) hn⟩
def D2:X9:=⟨.slice none 0 0⟩
def cn3{h:Hp}{w:World}{T T':TypeId}{v:Value}{n:Nat}(e:B0 h w T v (List.replicate n D2)):E2 h w T T' v (List.replicate n D2) (List.replicate n ([]:List Int)):=by
 have d:∀(i:Nat) (u:X9),(List.replicate n D2)[i]?=some u->u=D2:=λi u a=>em9 (eh3 a);refine⟨e,by simp,λi u k a f=>?_,λi j u g _ a _ b c=>?_,λi u a b c=>?_⟩
 .rw[d i u a,em9 (eh3 f)];exact B0.nil _ _ _
 .rw[d i u a]at c;exact absurd c D5
 .rw[d i u a]at c;exact absurd c D5
def ah1{v:Value}{n b:Nat}:N2 v (List.replicate n D2) b->A0 v b:=by
 rintro(a|⟨u,c,a⟩)
 .exact a
 .rw[em9 c]at a;exact absurd a D5
def GO.fresh{h:Hp}{w:World}{a c:Value}{n:Nat}(hw:B8 h (m8 w))(f:B0 h w 24 a (List.replicate n D2))(g:B0 h w 24 c (List.replicate n D2))(j:∀b,A0 a b->¬A0 c b):
  GO h (w.alloc (.cells #[a,c] 268)) (.pointer (some ⟨w.heap.size,0,none⟩)) (List.replicate n []) (List.replicate n []) (λb=>b=w.heap.size\/N2 a (List.replicate n D2) b\/N2 c (List.replicate n D2) b):=by
 have i:=o6.alloc w (.cells #[a,c] 268);refine⟨w.heap.size,a,List.replicate n D2,c,List.replicate n D2,rfl,⟨aI3 hw (eg6 _),ej0 w _,cn3 (f.ext i),cn3 (g.ext i),λd=>?_,λd=>?_,λb d e=>j b (ah1 d) (ah1 e)⟩,λ_=>en7⟩
 .have:=f.lt (ah1 d);omega
 .have:=g.lt (ah1 d);omega
def cZ1{a b:Value}(c:isS a=true)(d:isS b=true):B6 prog 268 [(0,a),(1,b)]=some (.agg #[a,b]):=by
 simp[B6,dH9,J9,Instr.fill,F0 c,F0 d]
def cw0(a:List (Int×Int))(k:Nat)(g:List (List Int)×List (List Int))(b:k<a.length):(a.take (k+1)).foldl at6 g=at6 ((a.take k).foldl at6 g) a[k]:=bC7 at6 g a k b
def cH9(n:Nat)(v:Value)(a:List (Int×Int))(w:World)(hn:n<=5000)(hv:R (m8 w) v a)(hl:a.length<=1000000000000):
  o9 prog 198 #[.int .i64 n,v] w λu q=>((∃M,GO (m8 w) q u (aq9 n a).1 (aq9 n a).2 M)/\o6 w q):=by
 refine p9 [.int .i64 n,v] func198 rfl ?_;have S:decide ((n:Int)<0)=false:=by simp
 have U:decide ((n:Int)>5000)=false:=by simp;omega
 have hS:=hv.isS;have ad:=hv.vlen;simp only[L7,R9,C4,F6,simprocAttr,S,U];refine bB5 [1] (λp=>o6 w p) 4 (.op 0 (.op 2 (.fork [1,3] (λi=>if i=1 then A5 [3]else A5 [1]))))
  (λL q=>B0 (m8 w) q 24 (L 15) (List.replicate n D2)/\B0 (m8 w) q 24 (L 17) (List.replicate n D2)/\(∀b,A0 (L 15) b->¬A0 (L 17) b)/\o6 w q) (by decide +kernel) (by decide +kernel) (o6.drew w) ?_ ?_
 .simp only[D0,A5,L7,simprocAttr];have hz:A3.enc (m8 w) (Value.slice none 0 0).cells.toList D2:=⟨rfl,rfl⟩;have af:∀o,o6 w o->∃B p C d,(Instr.makeSlice 242 (.int .i64 n) (.int .i64 n)).run prog o = .ok B p/\(Instr.makeSlice 242 (.int .i64 n) (.int .i64 n)).run prog p = .ok C d /\
    B0 (m8 w) d 24 B (List.replicate n D2)/\B0 (m8 w) d 24 C (List.replicate n D2)/\(∀b,A0 B b->¬A0 C b)/\o6 w p/\o6 w d:=by
   intro o s;obtain⟨B,p,T,N,V,h4,_⟩:=mk (P:=prog) (w:=o) (h:=m8 w) cz8 am6 (α:=X9) (y:=D2) hz (n:=n) (by omega) (by omega) (b7 s);obtain⟨C,d,k1,k2,k3,k4,_⟩:=mk (P:=prog) (w:=p) (h:=m8 w) cz8 am6 (α:=X9) (y:=D2) hz (n:=n) (by omega) (by omega) (b7 (s.trans V));exact⟨B,p,C,d,T,k1,N.ext k3,k2,λb W X=>by have:=k4 b X;have:=N.lt W;omega,s.trans V,(s.trans V).trans k3⟩
  obtain⟨B,p,C,d,m1,m2,H,I,J,e2,K⟩:=af w.drew (o6.drew w);refine V1 (by decide +kernel) (λi hi=>?_);simp only[eh0,ek1,eq2]at hi;rcases hi with rfl|rfl
  .simp only[D0,L7,simprocAttr,m1,m2,F2];exact⟨e2,K,H,I,J,K⟩
  .simp only[D0,L7,simprocAttr,m1,m2,F2];exact⟨e2,K,I,H,λb T N=>J b N T,K⟩
 .rintro f o hk ⟨H,I,J,s⟩;simp only[ei3,B3,simprocAttr]at hk;obtain⟨e1,_⟩:=hk;have Y:=cZ1 H.isS I.isS;have j:(Instr.box 268 (.agg #[f 15,f 17])).run prog o = .ok (.pointer (some ⟨o.heap.size,0,none⟩)) (o.alloc (.cells #[f 15,f 17] 268)):=rfl;have t:=GO.fresh (b7 s) H I J;have D:=s.trans (o6.alloc o (.cells #[f 15,f 17] 268));generalize ay:Value.pointer (some ⟨o.heap.size,0,none⟩)=pg at j t;generalize o.alloc (.cells #[f 15,f 17] 268)=p at j t D;simp only[D0,L7,R9,T6,simprocAttr,Y,j,e1,hS,ad];refine A6 [5,20,21] (σ:=Nat) (λk f q=>f 22 = .int .i64 k/\k<=a.length/\(∃M,GO (m8 w) q pg ((a.take k).foldl at6 (List.replicate n [],List.replicate n [])).1 ((a.take k).foldl at6 (List.replicate n [],List.replicate n [])).2 M)/\o6 w q) (λk=>a.length-k) 0 ?_ ?_
  .exact⟨rfl,eg3 _,⟨_,t⟩,D⟩
  .rintro k f3 d ⟨g5,O,Q,_⟩ ⟨r,ax,⟨M,Z⟩,hx⟩;have c:=((bs8 n).grows (a.take k)).1;have m:=cw0 a k (List.replicate n [],List.replicate n []);generalize hG:(a.take k).foldl at6 (List.replicate n [],List.replicate n [])=g at Z c m;simp only[L7,C4,F6,simprocAttr,r,Q];refine y5 (λl=>?_) ?_
   .have ac:=hv.inS l;have z:=ldP hv (b7 hx) (ef1 l);have A:=m l;generalize a[k]=e at z A;obtain⟨x,y⟩:=e;simp only at z A;obtain⟨p1,p2⟩:=dB2 d x y;have q0:=dB0 d x y;have q1:=dB1 d x y;have G:=o6.alloc d (.cells #[.int .i64 x,.int .i64 y] 205);have F:=hx.trans G;have E:=Z.mod G λ_ _ h=>h.elim;generalize d.alloc (.cells #[.int .i64 x,.int .i64 y] 205)=w4 at *;simp only[L7,R9,y4,simprocAttr,r,O,g5,ac,z,p1,p2,q0,q1];refine t8 (dp7 (m8 w) pg g.1 g.2 M x y w4 E (b7 F) (by rw[c.pv.len,c.nx.len]) (c.nx.rising (by omega)) (c.pv.rising (by omega))) ?_;rintro u w5 ⟨rfl,M',aa,hm,av⟩;simp only[L7,C4,F6,simprocAttr,r];refine T4 (k+1) ⟨⟨M',?_⟩,?_⟩
    .rw[A];exact aa
    .refine o8.ext_of F hm λb W=>?_;rcases ej6 b w.heap.size with l|ab
     .have:=E.free b W;simp[m8,l]at this
     .exact ab
   .rintro rfl;rw[eg4]at hG;simp only[L7,simprocAttr,g5];refine o7 results198 ?_;simp only[B3,simprocAttr];have:aq9 n a=g:=hG;rw[this];exact⟨⟨M,Z⟩,hx⟩
def ep9:=@List.getElem_cons_succ
def er5:=@List.getElem_cons_zero
def B1(l:List Bool)(b:Int):Bool:=I2 l.length b&&l.getD b.toNat false
def O0{l:List Bool}{b:Int}(h:I2 l.length b=true):b.toNat<l.length/\B1 l b=l.getD b.toNat false:=by
 have:=B4.1 h;exact⟨by omega,by simp[B1,h]⟩
def V8{l:List Bool}{b:Int}(h:B1 l b=true):I2 l.length b=true:=by
 simp[B1]at h;exact h.1
def O6{l:List Bool}{a b:Int}{v:Bool}(c:I2 l.length a=true):B1 (l.set a.toNat v) b=if b=a then v else B1 l b:=by
 have d:=B4.1 c;unfold B1;simp only[en4];by_cases h:b=a
 .subst h;rw[if_pos rfl,c];have:b.toNat<l.length:=by omega
  simp[List.getD,this]
 .rw[if_neg h];by_cases hb:I2 l.length b=true
  .have e:=B4.1 hb;have:a.toNat≠b.toNat:=by omega
   simp[List.getD,this]
  .simp[hb]
def aD4{n:Nat}{b:Int}:B1 (List.replicate n false) b=false:=by
 simp only[B1,ek9,Bool.and_eq_false_iff];right;simp[List.getD,eq3];split<;>rfl
inductive Via (nx:List (List Int)) (seen:List Bool) (todo:List Int):Int->Prop
 | base {a:Int}:a∈todo->Via nx seen todo a
 | step {a b:Int}:Via nx seen todo a->b∈D4 nx a->B1 seen b=false->Via nx seen todo b
structure cX8 (nx:List (List Int)) (seen:List Bool) (todo:List Int) (seen':List Bool) (todo':List Int):Prop where
 len:seen'.length=seen.length
 via:∀b,b∈todo'↔Via nx seen todo b
 mark:∀b,B1 seen' b=true↔B1 seen b=true\/b∈todo'
 size:todo'.length<=todo.length+seen.length
structure WI (nx:List (List Int)) (seen:List Bool) (todo:List Int) (td:List Int) (sn:List Bool) (i:Nat):Prop where
 len:sn.length=seen.length
 via:∀b∈td,Via nx seen todo b
 old:∀b∈todo,b∈td
 mark:∀b,B1 sn b=true↔B1 seen b=true\/b∈td
 count:td.length+sn.count false=todo.length+seen.count false
 done:∀k a,k<i->td[k]?=some a->∀b∈D4 nx a,B1 sn b=true
 le:i<=td.length
section
variable {nx:List (List Int)} {seen:List Bool} {todo td:List Int} {sn:List Bool} {i:Nat}
def WI.start(h:∀a∈todo,B1 seen a=true):WI nx seen todo todo seen 0:=
 ⟨rfl,λ_ c=>.base c,λ_ c=>c,λb=>⟨.inl,λd=>d.elim id (h b)⟩,rfl,λk a e=>by omega,eg3 _⟩
def ac1{l:List Bool}{k:Nat}(a:k<l.length)(h:l[k]=false):(l.set k true).count false+1=l.count false:=by
 induction l generalizing k with
 | nil=>simp at a
 | cons x l b=>
  cases k with
  | zero=>
   simp only[er5]at h;subst h;simp
  | succ k=>
   simp only[ep9]at h;have:=b (by simpa using a) h;simp only[List.set_cons_succ,List.count_cons];omega
def WI.push(h:WI nx seen todo td sn i){b:Int}(hb:I2 seen.length b=true)(hn:B1 sn b=false)(hv:Via nx seen todo b):WI nx seen todo (td++[b]) (sn.set b.toNat true) i:=by
 have f:I2 sn.length b=true:=by rw[h.len];exact hb
 have e:∀c,B1 (sn.set b.toNat true) c=if c=b then true else B1 sn c:=λc=>O6 f;have j:=(O0 f).1;have g:sn[b.toNat]=false:=by
  have:=(O0 f).2;rw[hn]at this;simp[List.getD,j]at this;exact this
 refine⟨by simp[h.len],λc d=>?_,λc d=>ei1 _ (h.old c d),λc=>?_,?_,λk a m l c d=>?_,?_⟩
 .rcases eg1.1 d with d|d
  .exact h.via c d
  .simp at d;subst d;exact hv
 .rw[e];by_cases hcb:c=b
  .subst hcb;simp
  .simp[hcb,h.mark c]
 .have:=h.count;have:=ac1 j g;simp only[ef4,ei6];omega
 .rw[e];split
  .rfl
  .have B8:=h.le;rw[ek3 (by omega)]at l;exact h.done k a m l c d
 .have:=h.le;simp;omega
def aU9{b c:Int}(hb:I2 sn.length b=true)(a:B1 sn c=true):B1 (sn.set b.toNat true) c=true:=by
 rw[O6 hb];split
 .rfl
 .exact a
def WI.next(h:WI nx seen todo td sn i){a:Int}(e:td[i]?=some a)(g:∀b∈D4 nx a,B1 sn b=true):WI nx seen todo td sn (i+1):=by
 refine⟨h.len,h.via,h.old,h.mark,h.count,λk c j d b f=>?_,(ef6.1 e).1⟩;by_cases hki:k=i
 .subst hki;rw[e]at d;obtain rfl:=eh1 d;exact g b f
 .exact h.done k c (by omega) d b f
def WI.fin(h:WI nx seen todo td sn td.length):cX8 nx seen todo sn td:=by
 refine⟨h.len,λb=>⟨h.via b,λi=>?_⟩,h.mark,?_⟩
 .induction i with
  | base e=>exact h.old _ e
  | step _ f g j=>
   obtain⟨k,d⟩:=eo5.1 j;have:=h.done k _ (ef6.1 d).1 d _ f;rcases(h.mark _).1 this with c|c
   .rw[g]at c;cases c
   .exact c
 .have:=h.count;have:=List.count_le_length (a:=false) (l:=seen);omega
end
def cq0(h:Hp)(vn vs E:Value)(nx:List (List Int))(d:List Bool)(g:List Int)(w:World)(hw:B8 h (m8 w))(hn:R h vn nx)(hg:F3 nx.length nx)(hs:B0 h w 4 vs d)(ht:B0 h w 3 E g)
  (hd:∀b,A0 vs b->¬A0 E b) (J:d.length=nx.length) (aN:∀a∈g,B1 d a=true) (bb:nx.length<=5000) (O:g.length<=1000000) :
  o9 prog 200 #[vn,vs,E] w λu M=>∃L K,B0 h M 3 u L/\B0 h M 4 vs K/\(∀b,A0 vs b->¬A0 u b)/\o8 (λb=>A0 vs b\/A0 E b) w M/\E9 w E u/\cX8 nx d g K L:=by
 refine p9 [vn,vs,E] func200 rfl ?_;simp only[L7,R9,simprocAttr];have a9:=hn.isS;refine D9 [0,1] (σ:=List Int×List Bool×Nat) (λs f M=>f 7 = .int .i64 s.2.2/\B0 h M 3 (f 2) s.1/\B0 h M 4 vs s.2.1/\(∀b,A0 vs b->¬A0 (f 2) b)/\o8 (λb=>A0 vs b\/A0 E b) w M/\E9 w E (f 2)/\WI nx d g s.1 s.2.1 s.2.2)
  (λs=>g.length+d.count false-s.2.2) (g,d,0) ?_ ?_
 .simp only[B3,simprocAttr];exact⟨by trivial,ht,hs,hd,o8.refl _,λb D=>.inl D,WI.start aN⟩
 .rintro⟨td,sn,i⟩ f w1 hk ⟨h7,B,ah,aq,hm,ax,hi⟩;simp only at h7 B ah hi;simp only[ei3,B3,simprocAttr]at hk;obtain⟨e0,e1,_⟩:=hk;have ao:=B.isS;have aw:=B.vlen;have aV:=hi.count;have bf:=List.count_le_length (a:=false) (l:=d);have ag:∀b,(A0 vs b\/A0 E b)->h b=none:=λb D=>D.elim hs.free ht.free;simp only[L7,R9,C4,F6,T6,simprocAttr,h7,ao,aw];refine A4 (λo=>?_) (λo=>?_)
  .have af:i<td.length:=by simpa using o
   have ar:=B.inS af;have Y:=D6 (P:=prog) (t:=3) B (ef1 af) G3;generalize aM:td[i]=a at Y;have Z:td[i]?=some a:=by rw[ef1 af,aM]
   have aH:a∈td:=eh3 Z;have aa:I2 nx.length a=true:=by
    have:=V8 ((hi.mark a).2 (.inr aH));rw[hi.len,J]at this;exact this
   obtain⟨aP,aQ⟩:=au7 aa;have d0:decide (0<=a)=true:=by simpa using(B4.1 aa).1
   obtain⟨x,T,aR⟩:=hn.row aP;have aO:B8 h (m8 w1):=H2 hw hm ag;have aB:=az1 aa;have bh:=hg.row_len aB;simp only[L7,R9,y4,T6,M5.val,simprocAttr,h7,e0,ar,Y,hn.inS aQ,d0,J1 (P:=prog) (t:=24) aR aO ah2,T.isS,T.vlen];refine D9 [0,1,7,22,23] (σ:=List Int×List Bool×Nat) (λs f M=>f 24 = .int .i64 s.2.2/\s.2.2<=(D4 nx a).length/\B0 h M 3 (f 2) s.1/\B0 h M 4 vs s.2.1/\(∀b,A0 vs b->¬A0 (f 2) b)/\o8 (λb=>A0 vs b\/A0 E b) w M/\E9 w E (f 2)/\WI nx d g s.1 s.2.1 i/\s.1[i]?=some a/\∀b∈(D4 nx a).take s.2.2,B1 s.2.1 b=true)
    (λs=>(D4 nx a).length-s.2.2) (td,sn,0) ?_ ?_
   .simp only[B3,simprocAttr];exact⟨by trivial,eg3 _,B,ah,aq,hm,ax,hi,Z,λb D=>by simp at D⟩
   .rintro⟨al,q,j⟩ f2 w2 av ⟨N,aL,C,m,r,S,z,p,n,A⟩;simp only at N aL C m p n A;simp only[ei3,B3,↓reduceIte,Nat.reduceEqDiff]at av;obtain⟨g0,g1,g7,an,aG,_⟩:=av;rw[e0]at g0;rw[e1]at g1;rw[h7]at g7;simp only[L7,C4,F6,simprocAttr,N,aG];refine y5 (λhj=>?_) ?_
    .have W:=T.inS hj;have az:B8 h (m8 w2):=H2 hw S ag;have I:=N7 (P:=prog) (t:=3) T az (ef1 hj) G3;have ac:(D4 nx a)[j]∈D4 nx a:=eg2 hj;have aj:=ef8 hj;generalize bc:(D4 nx a)[j]=b at I ac aj;have ab:I2 nx.length b=true:=hg.ok _ aB b ac;have F:I2 q.length b=true:=by rw[p.len,J];exact ab
     obtain⟨G,aI⟩:=O0 F;have V:=m.inS G;have d1:decide (0<=b)=true:=by simpa using(B4.1 ab).1
     have X:=D6 (P:=prog) (t:=4) m (k:=b.toNat) (x:=B1 q b) (by rw[aI];simp[List.getD,G]) ah3;have ba:=m.isS;by_cases hbs:B1 q b=true
     .have H:(!B1 q b)=false:=by rw[hbs];rfl
      simp only[L7,R9,C4,F6,unV,y4,M5.val,simprocAttr,N,an,g1,W,I,V,d1,X,H];refine T4 (al,q,j+1) ⟨C,m,r,S,z,p,n,?_⟩;simp only[];rw[aj];intro c o;rcases eg1.1 o with o|o
      .exact A c o
      .simp at o;subst o;exact hbs
     .have Q:B1 q b=false:=by simpa using hbs
      have H:(!B1 q b)=true:=by rw[Q];rfl
      have ad:=p.count;obtain⟨w3,s1,s2,s3,s4⟩:=F1 (P:=prog) (t:=4) m rfl (k:=b.toNat) G (x:=.bool true) (y:=true) rfl rfl (z7 W5).choose_spec.1 (by rw[<-E1 (z7 W5).choose_spec.1];exact aG0);have ay:=C.mod s3 λb D O=>r b O D;have v:o8 (λb=>A0 vs b\/A0 E b) w w3:=S.trans (s3.weaken λb _ D=>.inl D);have aA:B8 h (m8 w3):=H2 hw v ag;obtain⟨p1,u',w4,p2,p3,p4,p5⟩:=push (e:=24) V4 rfl ay (x:=.int .i64 b) (y:=b) rfl (by omega) (by omega) aA;simp only[Value.cells]at p1 p2;simp only[L7,R9,C4,F6,unV,y4,M5.val,simprocAttr,N,an,g1,W,I,V,d1,X,H,s1,p1,p2];have bg:w.heap.size<=w3.heap.size:=v.size;have aD:∀b,A0 (f2 2) b->A0 E b\/w.heap.size<=b:=z;refine T4 (al++[b],q.set b.toNat true,j+1) ⟨p3,s2.mod p4 (λb D O=>r b D O),?_,?_,?_,?_,?_,?_⟩
      .intro c ap aJ;rcases p5 c aJ with U|U
       .exact r c ap U
       .have:=s2.lt ap;omega
      .refine⟨p4.os.trans v.os,p4.tape.trans v.tape,p4.output.trans v.output,ef9 v.size p4.size,λk hk hn=>?_⟩;refine(p4.block k (el8 hk v.size) λD=>?_).trans (v.block k hk hn);rcases z k D with U|U
       .exact hn (.inr U)
       .omega
      .intro c o;rcases p5 c o with U|U
       .exact z c U
       .exact .inr (by omega)
      .refine p.push (by rw[J];exact ab) Q (.step (p.via a (eh3 n)) ac ?_);rw[ep7];intro hh;rw[(p.mark b).2 (.inl hh)]at Q;cases Q
      .simp only[];rw[ek3 (ef6.1 n).1];exact n
      .simp only[];rw[aj];intro c o;rcases eg1.1 o with o|o
       .exact aU9 F (A c o)
       .simp at o;subst o;rw[O6 F,if_pos rfl]
    .rintro rfl;rw[eg4]at A;simp only[L7,C4,F6,simprocAttr,g7];have ad:=p.count;refine nx2 (al,q,i+1) ⟨C,m,r,S,z,p.next n A⟩
  .have aK:i=td.length:=by have:=hi.le;simp at o;omega
   subst aK;simp only[L7,simprocAttr];exact o7 results200 ⟨td,sn,B,ah,aq,hm,ax,hi.fin⟩
def eh8:=@List.mem_filter
def ej7:=@List.mem_range
inductive Rch (nx:List (List Int)) (from_:List Int):Int->Prop
 | base {a:Int}:a∈from_->I2 nx.length a=true->Rch nx from_ a
 | step {a b:Int}:Rch nx from_ a->b∈D4 nx a->Rch nx from_ b
def Rch.ok{nx:List (List Int)}{l:List Int}(c:F3 nx.length nx){b:Int}(h:Rch nx l b):I2 nx.length b=true:=by
 cases h with
 | base _ h=>exact h
 | step _ a=>exact(c.row _).2 _ a
def dx8{nx:List (List Int)}{f:List Bool}{g l:List Int}(hm:∀b,B1 f b=true↔b∈g)(d:∀b,b∈g↔b∈l/\I2 nx.length b=true)(b:Int):Via nx f g b↔Rch nx l b:=by
 constructor
 .intro h
  induction h with
  | base i=>exact .base ((d _).1 i).1 ((d _).1 i).2
  | step _ c _ e=>exact .step e c
 .intro h
  induction h with
  | base j k=>exact .base ((d _).2 ⟨j,k⟩)
  | @step a b _ c e=>
   cases hs:B1 f b with
   | true=>exact .base ((hm b).1 hs)
   | false=>exact .step e c hs
def ck6{l:List Bool}{b:Int}:b∈ah7 l l.length↔B1 l b=true:=by
 unfold ah7;rw[eh4];constructor
 .rintro⟨i,c,rfl⟩;rw[eh8,ej7]at c;have a:I2 l.length (i:Int)=true:=B4.2 ⟨by omega,by omega⟩;rw[(O0 a).2];simpa[List.getD]using c.2
 .intro h;have a:=V8 h;obtain⟨d,e⟩:=O0 a;have f:=B4.1 a;refine⟨b.toNat,?_,by omega⟩;rw[eh8,ej7];rw[e]at h;exact⟨d,by simpa[List.getD]using h⟩
def bE7(l:List Bool)(k:Nat):(ah7 l k).Pairwise (· < ·):=by
 unfold ah7;rw[List.pairwise_map];refine List.Pairwise.filter _ ?_;exact(List.pairwise_lt_range (n:=k)).imp λh=>by omega
structure dy9 (l:List Int) (p:Int->Prop):Prop where
 le:l.Pairwise (· < ·)
 mem:∀b,b∈l↔p b
structure FI (n:Nat) (l:List Int) (td:List Int) (sn:List Bool):Prop where
 len:sn.length=n
 mark:∀b,B1 sn b=true↔b∈td
 mem:∀b,b∈td↔b∈l/\I2 n b=true
 count:td.length+sn.count false=n
def FI.start(n:Nat):FI n [] [] (List.replicate n false):=
 ⟨by simp,λb=>by simp[aD4],λb=>by simp,by simp⟩
def FI.old{n:Nat}{l g:List Int}{f:List Bool}(h:FI n l g f){a:Int}(c:I2 n a=false\/B1 f a=true):FI n (l++[a]) g f:=by
 refine⟨h.len,h.mark,λb=>?_,h.count⟩;rw[h.mem,eg1,eh2];constructor
 .rintro⟨d,e⟩;exact⟨.inl d,e⟩
 .rintro⟨d|d,e⟩
  .exact⟨d,e⟩
  .subst d;rcases c with c|c
   .rw[e]at c;cases c
   .exact(h.mem b).1 ((h.mark b).1 c)
def FI.new{n:Nat}{l k:List Int}{g:List Bool}(h:FI n l k g){a:Int}(j:I2 n a=true)(m:B1 g a=false):FI n (l++[a]) (k++[a]) (g.set a.toNat true):=by
 have c:I2 g.length a=true:=by rw[h.len];exact j
 have f:=(O0 c).1;have e:g[a.toNat]=false:=by
  have:=(O0 c).2;rw[m]at this;simp[List.getD,f]at this;exact this
 refine⟨by simp[h.len],λb=>?_,λb=>?_,?_⟩
 .rw[O6 c,eg1,eh2];by_cases hb:b=a
  .subst hb;simp
  .simp[hb,h.mark b]
 .rw[eg1,eg1,eh2,h.mem];constructor
  .rintro(⟨d,i⟩|rfl)
   .exact⟨.inl d,i⟩
   .exact⟨.inr rfl,j⟩
  .rintro⟨d|d,i⟩
   .exact .inl ⟨d,i⟩
   .exact .inr d
 .have:=h.count;have:=ac1 f e;simp only[ef4,ei6];omega
def cM0(pg:Value)(nx pv:List (List Int))(v:Value)(l:List Int)(w:World)(U:GR (m8 w) pg nx pv)(hg:F3 nx.length nx)(ap:nx.length<=5000)(hv:R (m8 w) v l)(hl:l.length<=1000000000):
  o9 prog 149 #[pg,v] w λu M=>((∃r,B0 (m8 w) M 3 u r/\dy9 r (Rch nx l))/\o6 w M):=by
 have V:=U;obtain⟨gb,vn,vp,rfl,N,h2,h3,h4⟩:=U;refine p9 [.pointer (some ⟨gb,0,none⟩),v] func149 rfl ?_;have am:=J1 (P:=prog) (t:=242) N (n7 _) Z1;have af:=h3.isS;have aq:=h3.vlen;have hS:=hv.isS;have au:=hv.vlen;obtain⟨u0,w0,ao,ar,av,aO,_⟩:=mk (P:=prog) (w:=w) (h:=m8 w) bI1 W5 (α:=Bool) (y:=false) rfl (n:=nx.length) (by omega) (by omega) (n7 _);simp only[L7,R9,C4,T6,simprocAttr,am,af,aq,ao,hS,au];refine D9 [0,1,5,17,18] (σ:=List Int×List Bool×Nat) (λs f M=>f 19 = .int .i64 s.2.2/\s.2.2<=l.length/\B0 (m8 w) M 3 (f 6) s.1/\B0 (m8 w) M 4 u0 s.2.1/\(∀b,A0 u0 b->¬A0 (f 6) b)/\o6 w M/\FI nx.length (l.take s.2.2) s.1 s.2.1)
  (λs=>l.length-s.2.2) ([],List.replicate nx.length false,0) ?_ ?_
 .simp only[B3,simprocAttr];exact⟨by trivial,eg3 _,B0.nil _ _ _,ar,λb _ i=>D5 i,av,FI.start _⟩
 .rintro⟨td,A,k⟩ f w1 hk ⟨g,al,o,d,j,J,m⟩;simp only at g al o d m;simp only[ei3,B3,simprocAttr]at hk;obtain⟨e0,e1,Z,ac,ad,_⟩:=hk;have ay:=m.count;simp only[L7,C4,F6,simprocAttr,g,ad];refine y5 (λz=>?_) ?_
  .have ak:=hv.inS z;have G:=N7 (P:=prog) (t:=3) hv (b7 J) (ef1 z) G3;have C:=ef8 z;generalize aR:l[k]=a at G C;simp only[L7,R9,y4,M5.val,simprocAttr,g,ac,e0,ak,G];refine t8 (be5 _ nx pv a w1 (V.mono (b7 J))) ?_;rintro u w1 ⟨rfl,rfl⟩;by_cases E:I2 nx.length a=true
   .have Q:I2 A.length a=true:=by rw[m.len];exact E
    obtain⟨p,ag⟩:=O0 Q;have F:=d.inS p;have d1:decide (0<=a)=true:=by simpa using(B4.1 E).1
    have H:=D6 (P:=prog) (t:=4) d (k:=a.toNat) (x:=B1 A a) (by rw[ag];simp[List.getD,p]) ah3;have aN:=d.isS;by_cases hbs:B1 A a=true
    .have q:(!B1 A a)=false:=by rw[hbs];rfl
     simp only[L7,R9,C4,F6,unV,y4,M5.val,simprocAttr,E,g,Z,F,d1,H,q];refine T4 (td,A,k+1) ⟨o,d,j,J,?_⟩;simp only[];rw[C];exact m.old (.inr hbs)
    .have S:B1 A a=false:=by simpa using hbs
     have q:(!B1 A a)=true:=by rw[S];rfl
     obtain⟨w3,s1,s2,s3,s4⟩:=F1 (P:=prog) (t:=4) d rfl (k:=a.toNat) p (x:=.bool true) (y:=true) rfl rfl (z7 W5).choose_spec.1 (by rw[<-E1 (z7 W5).choose_spec.1];exact aG0);have I:=o.mod s3 λb i K=>j b K i;have D:=d.ext2 J s3;obtain⟨p1,u',w4,p2,p3,p4,p5⟩:=push (e:=24) V4 rfl I (x:=.int .i64 a) (y:=a) rfl (by omega) (by omega) (b7 D);simp only[Value.cells]at p1 p2;simp only[L7,R9,C4,F6,unV,y4,M5.val,simprocAttr,E,g,Z,F,d1,H,q,s1,p1,p2];refine T4 (td++[a],A.set a.toNat true,k+1) ⟨p3,s2.mod p4 (λb i K=>j b i K),?_,I.ext2 D p4,?_⟩
     .intro c T ah;rcases p5 c ah with N|N
      .exact j c T N
      .have:=s2.lt T;omega
     .simp only[];rw[C];exact m.new E S
   .have O:I2 nx.length a=false:=by simpa using E
    simp only[L7,C4,F6,simprocAttr,O,g];refine T4 (td,A,k+1) ⟨o,d,j,J,?_⟩;simp only[];rw[C];exact m.old (.inl O)
  .rintro rfl;rw[eg4]at m;have W:=J1 (P:=prog) (t:=242) N (b7 J) Z1;simp only[L7,R9,simprocAttr,e0,Z,W];refine t8 (cq0 (m8 w) vn u0 (f 6) nx A td w1 (b7 J) h3 hg d o j m.len (λa E=>(m.mark a).2 E) ap (by omega)) ?_;rintro u w2 ⟨aW,Y,aC,X,az,an,aB,B⟩;have L:o6 w w2:=o8.ext_of J an λb i=>by
    rcases ej6 b w.heap.size with z|aj
    .have:(m8 w) b=none:=i.elim d.free o.free;simp[m8,z]at this
    .exact aj
   have aQ:Y.length=nx.length:=by rw[B.len,m.len]
   simp only[L7,simprocAttr,Z];refine t8 (cx5 u0 Y w2 (X.rw_ (b7 L)) (by omega)) ?_;rintro r w3 ⟨hr,D⟩;simp only[L7,simprocAttr];refine o7 results149 ⟨⟨_,hr.back L,bE7 _ _,λb=>?_⟩,L.trans D⟩;rw[ck6,B.mark,<-dx8 m.mark m.mem];constructor
   .rintro(i|i)
    .exact .base ((m.mark b).1 i)
    .exact(B.via b).1 i
   .exact λi=>.inr ((B.via b).2 i)
def es3:=@List.take_add_one
inductive Z5 (nx:List (List Int)) (a:Int):Int->Prop
 | refl:Z5 nx a a
 | step {b c:Int}:Z5 nx a b->c∈D4 nx b->Z5 nx a c
def Z5.trans{nx:List (List Int)}{a b c:Int}(h:Z5 nx a b)(k:Z5 nx b c):Z5 nx a c:=by
 induction k with
 | refl=>exact h
 | step _ d e=>exact .step e d
def Z5.one{nx:List (List Int)}{a b:Int}(h:b∈D4 nx a):Z5 nx a b:=.step .refl h
def au1(nx:List (List Int))(a b:Int):Prop:=Z5 nx a b/\Z5 nx b a
def au1.refl{nx:List (List Int)}(a:Int):au1 nx a a:=⟨.refl,.refl⟩
def au1.symm{nx:List (List Int)}{a b:Int}(h:au1 nx a b):au1 nx b a:=⟨h.2,h.1⟩
def au1.trans{nx:List (List Int)}{a b c:Int}(h:au1 nx a b)(k:au1 nx b c):au1 nx a c:=⟨h.1.trans k.1,k.2.trans h.2⟩
def ai(l:List Int)(a:Int):Int:=l.getD a.toNat 0
def bk7{l:List Int}{n:Nat}(f:l.length=n){a b v:Int}(c:I2 n a=true)(hb:I2 n b=true):ai (l.set a.toNat v) b=if b=a then v else ai l b:=by
 have d:=B4.1 c;have e:=B4.1 hb;unfold ai;by_cases h:b=a
 .subst h;rw[if_pos rfl];have:b.toNat<l.length:=by omega
  simp[List.getD,this]
 .rw[if_neg h];have:a.toNat≠b.toNat:=by omega
  simp[List.getD,this]
def dA3{nx:List (List Int)}{a d:List Int}(hb:∀x∈a,∀y∈D4 nx x,y∈a\/y∈d){x r:Int}(j:x∈a)(hw:Z5 nx x r)(i:r∉a):∃g∈d,Z5 nx x g:=by
 induction hw with
 | refl=>exact absurd j i
 | @step b c hw f k=>
  by_cases h:b∈a
  .rcases hb b h c f with e|e
   .exact absurd e i
   .exact⟨c,e,.step hw f⟩
  .exact k h
structure DI (nx:List (List Int)) (n:Nat) (out stack:List Int) (seen:List Bool) (at_:List Int):Prop where
 slen:seen.length=n
 alen:at_.length=n
 mark:∀b,B1 seen b=true↔b∈out\/b∈stack
 count:out.length+stack.length+seen.count false=n
 apart:∀b∈out,b∉stack
 onod:out.Nodup
 snod:stack.Nodup
 path:stack.Pairwise (Z5 nx)
 black:∀x∈out,∀y∈D4 nx x,y∈out\/y∈stack
 atok:∀a,I2 n a=true->0<=ai at_ a/\ai at_ a<=(D4 nx a).length
 white:∀a,I2 n a=true->B1 seen a=false->ai at_ a=0
 grey:∀g∈stack,∀y∈(D4 nx g).take (ai at_ g).toNat,B1 seen y=true
 low:∀x∈out,∀g∈stack,Z5 nx x g->∃c∈stack,au1 nx c x
 cut:∀k,∀x∈out.take k,∀r,r∉out.take k->Z5 nx x r->∃c,c∉out.take k/\au1 nx c x
section
variable {nx:List (List Int)} {n:Nat} {out stack:List Int} {seen:List Bool} {at_:List Int}
def DI.start(hn:nx.length=n):DI nx n [] [] (List.replicate n false) (List.replicate n 0):=by
 have d:∀a,ai (List.replicate n 0) a=0:=λa=>by
  simp[ai,List.getD,eq3];split<;>rfl
 have no:∀(x:Int) {p:Prop},x∈([]:List Int)->p:=λx p h=>absurd h (ek1);exact⟨by simp,by simp,λb=>by simp[aD4],by simp,λb e=>no b e,List.nodup_nil,List.nodup_nil,List.Pairwise.nil,λx c=>no x c,
  λa _=>(by rw[d];omega),λa _ _=>d a,λg f=>no g f,λx c=>no x c,λk x c=>no x (by simpa using c)⟩
def DI.ok(h:DI nx n out stack seen at_){b:Int}(hb:b∈out\/b∈stack):I2 n b=true:=by
 have:=V8 ((h.mark b).2 hb)
 rwa [h.slen]at this
def DI.push(h:DI nx n out stack seen at_){y:Int}(E:I2 n y=true)(k:B1 seen y=false)(hw:∀g∈stack,Z5 nx g y):DI nx n out (stack++[y]) (seen.set y.toNat true) at_:=by
 have i:I2 seen.length y=true:=by rw[h.slen];exact E
 have j:∀c,B1 (seen.set y.toNat true) c=if c=y then true else B1 seen c:=λc=>O6 i;have o:=(O0 i).1;have m:seen[y.toNat]=false:=by
  have:=(O0 i).2;rw[k]at this;simp[List.getD,o]at this;exact this
 have p:y∉out:=λA=>by rw[(h.mark y).2 (.inl A)]at k;cases k
 have B:y∉stack:=λA=>by rw[(h.mark y).2 (.inr A)]at k;cases k
 refine⟨by simp[h.slen],h.alen,λc=>?_,?_,λb e u=>?_,h.onod,?_,?_,λx t z r=>?_,h.atok,λa l f=>?_,λg v z r=>?_,λx t g v q=>?_,h.cut⟩
 .rw[j,eg1,eh2];by_cases s:c=y
  .subst s;simp
  .simp[s,h.mark c]
 .have:=h.count;have:=ac1 o m;simp only[ef4,ei6];omega
 .rcases eg1.1 u with d|d
  .exact h.apart b e d
  .simp at d;subst d;exact p e
 .rw[ek2];refine⟨h.snod,by simp,λa l b e=>?_⟩;simp at e;subst e;rintro rfl;exact B l
 .rw[List.pairwise_append];refine⟨h.path,by simp,λa l b e=>?_⟩;simp at e;subst e;exact hw a l
 .rcases h.black x t z r with d|d
  .exact .inl d
  .exact .inr (ei1 _ d)
 .rw[j]at f;split at f
  .cases f
  .exact h.white a l f
 .rcases eg1.1 v with d|d
  .exact aU9 i (h.grey g d z r)
  .simp at d;subst d;rw[h.white g E k]at r;simp at r
 .have D:∃g∈stack,Z5 nx x g:=by
   rcases eg1.1 v with d|d
   .exact⟨g,d,q⟩
   .simp at d;subst d;exact dA3 h.black t q p
  obtain⟨F,w,C⟩:=D;obtain⟨c,s,e⟩:=h.low x t F w C;exact⟨c,ei1 _ s,e⟩
def DI.adv(h:DI nx n out stack seen at_){a y:Int}(j:I2 n a=true){k:Nat}(q:ai at_ a=k)(p:(D4 nx a)[k]?=some y)(s:B1 seen y=true)(o:B1 seen a=true):DI nx n out stack seen (at_.set a.toNat (k+1:Nat)):=by
 have r:=(ef6.1 p).1;refine⟨h.slen,by simp[h.alen],h.mark,h.count,h.apart,h.onod,h.snod,h.path,h.black,λb d=>?_,λb d c=>?_,λg l z f=>?_,h.low,h.cut⟩
 .rw[bk7 h.alen j d];split
  .rename_i e;subst e;omega
  .exact h.atok b d
 .rw[bk7 h.alen j d];split
  .rename_i e;subst e;rw[o]at c;cases c
  .exact h.white b d c
 .have m:=h.ok (.inr l);rw[bk7 h.alen j m]at f;split at f
  .rename_i e;subst e;rw[eh6,es3,p]at f;rcases eg1.1 f with i|i
   .refine h.grey g l z ?_;rw[q,eh6];exact i
   .simp at i;subst i;exact s
  .exact h.grey g l z f
def DI.pop{s:List Int}{a:Int}(h:DI nx n out (s++[a]) seen at_)(F:ai at_ a=(D4 nx a).length):DI nx n (out++[a]) s seen at_:=by
 have has:a∈s++[a]:=by simp
 have C:a∉out:=λt=>h.apart a t has;have v:=ek2.1 h.snod;have u:a∉s:=λt=>v.2.2 a t a (by simp) rfl;have w:=List.pairwise_append.1 h.path;have q:∀g∈s,Z5 nx g a:=λg f=>w.2.2 g f a (by simp);have e:∀x∈out++[a],∀y∈D4 nx x,y∈out++[a]\/y∈s:=by
  intro x i y z;have hm:y∈out\/y∈s++[a]:=by
   rcases eg1.1 i with d|d
   .exact h.black x d y z
   .simp at d;subst d;refine(h.mark y).1 (h.grey x has y ?_);rw[F,eh6,eg4];exact z
  rcases hm with d|d
  .exact .inl (ei1 _ d)
  .rcases eg1.1 d with j|j
   .exact .inr j
   .exact .inl (ej4 _ j)
 have l:∀x∈out++[a],∀g∈s,Z5 nx x g->∃c∈s,au1 nx c x:=by
  intro x i g f o;rcases eg1.1 i with d|d
  .obtain⟨c,B,m⟩:=h.low x d g (ei1 _ f) o;rcases eg1.1 B with j|j
   .exact⟨c,j,m⟩
   .simp at j;subst j;exact⟨g,f,⟨(q g f).trans m.1,o⟩⟩
  .simp at d;subst d;exact⟨g,f,⟨q g f,o⟩⟩
 have p:∀b∈out++[a],b∉s:=by
  intro b m E;rcases eg1.1 m with d|d
  .exact h.apart b d (ei1 _ E)
  .simp at d;subst d;exact u E
 refine⟨h.slen,h.alen,λb=>?_,?_,p,?_,v.1,w.1,e,h.atok,h.white,λg f=>h.grey g (ei1 _ f),l,λk x i r A o=>?_⟩
 .rw[h.mark,eg1,eg1];constructor
  .rintro(d|d|d)
   .exact .inl (.inl d)
   .exact .inr d
   .exact .inl (.inr d)
  .rintro((d|d)|d)
   .exact .inl d
   .exact .inr (.inr d)
   .exact .inr (.inl d)
 .have:=h.count;simp only[ef4,ei6]at this ⊢;omega
 .rw[ek2];refine⟨h.onod,by simp,λx i y z=>?_⟩;simp at z;subst z;rintro rfl;exact C i
 .by_cases hkl:k<=out.length
  .rw[el9 hkl]at i A ⊢;exact h.cut k x i r A o
  .rw[ej5 (by simp;omega)]at i A ⊢;obtain⟨g,f,D⟩:=dA3 e i o A;obtain⟨c,B,m⟩:=l x i g f D;exact⟨c,λt=>p c t B,m⟩
end
structure bd0 (nx:List (List Int)) (n:Nat) (out:List Int):Prop where
 nod:out.Nodup
 mem:∀b,b∈out↔I2 n b=true
 cut:∀k,∀x∈out.take k,∀r,r∉out.take k->Z5 nx x r->∃c,c∉out.take k/\au1 nx c x
 len:out.length=n
def DI.fin{nx:List (List Int)}{n:Nat}{d:List Int}{a:List Bool}{f:List Int}(h:DI nx n d [] a f)(c:∀b,I2 n b=true->B1 a b=true):bd0 nx n d:=by
 have hm:∀b,b∈d↔I2 n b=true:=λb=>⟨λg=>h.ok (.inl g),λg=>by
  rcases(h.mark b).1 (c b g)with e|e
  .exact e
  .cases e⟩
 refine⟨h.onod,hm,h.cut,?_⟩;have o:a.count false=0:=by
  rw[List.count_eq_zero];intro l;obtain⟨i,m,k⟩:=List.getElem_of_mem l;have j:I2 a.length (i:Int)=true:=B4.2 ⟨by omega,by omega⟩;have e:=c i (by rw[<-h.slen];exact j);rw[(O0 j).2]at e;simp[List.getD,m,k]at e
 have:=h.count;simp only[em2]at this;omega
def cH0(nx:List (List Int))(a:List Int)(n:Nat):Nat:=((List.range n).map λ(i:Nat)=>(D4 nx (i:Int)).length-(ai a (i:Int)).toNat).sum
def dj8{f g:Nat->Nat}{i:Nat}:∀{n:Nat},i<n->(∀j,j<n->j≠i->f j=g j)->f i<g i->((List.range n).map f).sum<((List.range n).map g).sum
 | 0,h,_,_=>by omega
 | n+1,h,he,hl=>by
  have B8:∀m,(∀j,j<m->j≠i->f j=g j)->((List.range m).map f).sum<=((List.range m).map g).sum:=by
   intro m
   induction m with
   | zero=>intro _;simp
   | succ m c=>
    intro a;have:=c λj b=>a j (by omega);rw[eq1];simp only[ei4,List.sum_append,ej9,List.map_nil,eq8,List.sum_nil];by_cases hm:m=i
    .subst hm;omega
    .have:=a m (by omega) hm;omega
  rw[eq1];simp only[ei4,List.sum_append,ej9,List.map_nil,eq8,List.sum_nil];by_cases hn:n=i
  .subst hn;have:=B8 n λj b=>he j (by omega);omega
  .have:=dj8 (n:=n) (by omega) (λj b=>he j (by omega)) hl;have:=he n (by omega) hn;omega
def cR6{nx:List (List Int)}{b:List Int}{n:Nat}(f:b.length=n){a:Int}(c:I2 n a=true){k:Nat}(h:ai b a=k)(l:k<(D4 nx a).length):cH0 nx (b.set a.toNat (k+1:Nat)) n<cH0 nx b n:=by
 have g:=B4.1 c;refine dj8 (i:=a.toNat) (by omega) (λj o m=>?_) ?_
 .have d:I2 n (j:Int)=true:=B4.2 ⟨by omega,by omega⟩;rw[bk7 f c d,if_neg (by omega)]
 .have e:((a.toNat:Nat):Int)=a:=by omega
  rw[e,bk7 f c c,if_pos rfl,h];omega
def ef2:=@Bool.eq_false_or_eq_true
def Dj(u v:Value):Prop:=∀b,A0 u b->¬A0 v b
def Dj.symm{u v:Value}(h:Dj u v):Dj v u:=λb a c=>h b c a
def Dj.nil(u:Value):Dj u (.slice none 0 0):=λb _ h=>D5 h
section
variable {α:Type} [A3 α] {h:Hp} {w:World} {T:TypeId} {x y y' v:Value} {xs:List α}
def Dj.move(e:Dj x y)(f:B0 h w T x xs)(hm:E9 w y y'):Dj x y':=λb d a=>by
 rcases hm b a with c|c
 .exact e b d c
 .have:=f.lt d;omega
def Dj.fresh(e:B0 h w T x xs)(d:∀b,A0 y b->w.heap.size<=b):Dj x y:=λb c a=>by
 have:=e.lt c;have:=d b a;omega
def B0.apart{c:World}(f:B0 h w T x xs)(hm:o8 (A0 y) w c)(e:Dj x y):B0 h c T x xs:=f.mod hm λb d a=>e b d a
def dw0{v:Value}{k sz:Nat}(hS:isS v=true)(d:0<vcap v):∃a n c,v = .slice a n c/\reS v 0 k sz = .slice a k c:=by
 cases v<;>simp[Go.Proofs.YtggahhenbbgffaaGreat.isS]at hS;rename_i a n c;refine⟨a,n,c,rfl,?_⟩;simp only[vcap]at d;have b:¬c=0:=by omega
 cases a<;>simp[reS,M4,b]
def B0.pre(y:B0 h w T v xs){k:Nat}(f:k<=xs.length)(r:0<xs.length):B0 h w T (reS v 0 k (A3.sz α)) (xs.take k)/\∀b,A0 (reS v 0 k (A3.sz α)) b↔A0 v b:=by
 rcases y with⟨rfl,rfl⟩|⟨b,c,d,rfl,s,t,D,u,x,l⟩
 .simp at r
 .obtain⟨a,n,A,e,q⟩:=dw0 (v:=.slice (some ⟨b,0,none⟩) xs.length c) (k:=k) (sz:=A3.sz α) rfl (by show 0<c;omega);cases e;rw[q];refine⟨.inr ⟨b,c,d,by rw[eg0,el2 f],s,t,by rw[eg0];omega,u,x,?_⟩,λz=>by simp[A0,Value.ownBlock]⟩;rw[eg0,el2 f];have o:xs=xs.take k++xs.drop k:=(ej2 k xs).symm;rw[o]at l;obtain⟨p,B,i,j,C⟩:=ac3 _ _ l;have g:=O5 j;rw[eg0,el2 f]at g;rw[<-o]at i;have:d.toList.take (k*A3.sz α)=p:=by
   have m:=eg8 (List.take (k*A3.sz α)) i;rw[List.take_take,el2 (eo2 _ f),<-g,eo6]at m;rw[<-g];exact m
  rw[this];exact j
end
def cl3{α:Type}(l:List α):l=[]\/∃s a,l=s++[a]:=by
 rcases List.eq_nil_or_concat l with h|⟨s,a,h⟩
 .exact .inl h
 .exact .inr ⟨s,a,by rw[h,List.concat_eq_append]⟩
def cO8(pg:Value)(nx pv:List (List Int))(w:World)(a7:GR (m8 w) pg nx pv)(hg:F3 nx.length nx)(cj:nx.length<=5000):
  o9 prog 302 #[pg] w λu B=>((∃r,B0 (m8 w) B 3 u r/\bd0 nx nx.length r)/\o6 w B):=by
 have bW:=a7;obtain⟨gb,vn,vp,rfl,h1,h2,h3,h4⟩:=a7;refine p9 [.pointer (some ⟨gb,0,none⟩)] func302 rfl ?_;have bM:=J1 (P:=prog) (t:=242) h1 (n7 _) Z1;have bG:=h3.isS;have bO:=h3.vlen;obtain⟨u0,w0,bN,be,aS,cf,_⟩:=mk (P:=prog) (w:=w) (h:=m8 w) bI1 W5 (α:=Bool) (y:=false) rfl (n:=nx.length) (by omega) (by omega) (n7 _);have a9:=J1 (P:=prog) (t:=242) h1 (b7 aS) Z1;obtain⟨u1,w1,bd,bP,au,bK,_⟩:=mk (P:=prog) (w:=w0) (h:=m8 w) V4 aC6 (α:=Int) (y:=0) rfl (n:=nx.length) (by omega) (by omega) (b7 aS);have aM:=aS.trans au;have ba:=J1 (P:=prog) (t:=242) h1 (b7 aM) Z1;have ab:Dj u0 u1:=Dj.fresh be bK;simp only[L7,R9,T6,simprocAttr,bM,bG,bO,bN,a9,bd,ba];refine D9 [0,5,6,26] (σ:=List Int×List Bool×List Int×Nat) (λs f B=>f 27 = .int .i64 s.2.2.2/\s.2.2.2<=nx.length/\B0 (m8 w) B 3 (f 3) s.1/\B0 (m8 w) B 3 (f 4) ([]:List Int)/\B0 (m8 w) B 4 u0 s.2.1/\B0 (m8 w) B 3 u1 s.2.2.1 /\
   Dj (f 3) (f 4)/\Dj u0 (f 3)/\Dj u0 (f 4)/\Dj u1 (f 3)/\Dj u1 (f 4)/\o6 w B/\DI nx nx.length s.1 [] s.2.1 s.2.2.1/\∀r:Nat,r<s.2.2.2->B1 s.2.1 r=true)
  (λs=>nx.length-s.2.2.2) ([],List.replicate nx.length false,List.replicate nx.length 0,0) ?_ ?_
 .simp only[B3,simprocAttr];exact⟨by trivial,eg3 _,B0.nil _ _ _,B0.nil _ _ _,be.ext au,bP,Dj.nil _,Dj.nil _,Dj.nil _,Dj.nil _,Dj.nil _,aM,DI.start rfl,λr hr=>by omega⟩
 .rintro⟨aV,sn,aZ,r⟩ f w2 hk ⟨X,bR,F,i,o,m,z,p,j,C,q,hx,l,d⟩;simp only at X bR F i o m l d;simp only[ei3,B3,simprocAttr]at hk;obtain⟨e0,e5,e6,a0,_⟩:=hk;simp only[L7,C4,F6,simprocAttr,X,a0];refine y5 (λci=>?_) ?_
  .have bi:I2 nx.length (r:Int)=true:=B4.2 ⟨by omega,by omega⟩;have aI:I2 sn.length (r:Int)=true:=by rw[l.slen];exact bi
   obtain⟨O,bh⟩:=O0 aI;simp only[eh6]at O bh;have ay:=o.inS O;have aC:=D6 (P:=prog) (t:=4) o (k:=r) (x:=B1 sn r) (by rw[bh];simp[List.getD,O]) ah3;have cc:=o.isS;rcases ef2 (B1 sn r)with hbs|hbs
   case' inl=>
    have Z:(!B1 sn r)=false:=by rw[hbs];rfl
    simp only[L7,R9,unV,y4,M5.val,simprocAttr,X,e5,ay,aC,Z];refine D9 [0,5,6,26,27] (σ:=List Int×List Int×List Bool×List Int) (λs f B=>B0 (m8 w) B 3 (f 3) s.1/\B0 (m8 w) B 3 (f 4) s.2.1/\B0 (m8 w) B 4 u0 s.2.2.1/\B0 (m8 w) B 3 u1 s.2.2.2 /\
      Dj (f 3) (f 4)/\Dj u0 (f 3)/\Dj u0 (f 4)/\Dj u1 (f 3)/\Dj u1 (f 4)/\o6 w B/\DI nx nx.length s.1 s.2.1 s.2.2.1 s.2.2.2/\∀V:Nat,V<r+1->B1 s.2.2.1 V=true)
     (λs=>cH0 nx s.2.2.2 nx.length+(nx.length-s.1.length)) (aV,[],sn,aZ) ?_ ?_
    .simp only[B3,simprocAttr];refine⟨F,i,o,m,z,p,j,C,q,hx,l,λV aR=>?_⟩;by_cases hrr:V=r
     .subst hrr;exact hbs
     .exact d V (by omega)
   case' inr=>
    have Z:(!B1 sn r)=true:=by rw[hbs];rfl
    obtain⟨w3,s1,s2,s3,s4⟩:=F1 (P:=prog) (t:=4) o rfl (k:=r) O (x:=.bool true) (y:=true) rfl rfl (z7 W5).choose_spec.1 (by rw[<-E1 (z7 W5).choose_spec.1];exact aG0);have L:=o.ext2 hx s3;have aF:=F.apart s3 p.symm;have aJ:=i.apart s3 j.symm;have aD:=m.apart s3 ab.symm;obtain⟨p1,u',w4,p2,p3,T,p5⟩:=push (e:=24) V4 rfl aJ (x:=.int .i64 r) (y:=(r:Int)) rfl (by simp) (by simp) (b7 L);simp only[Value.cells]at p1 p2;have av:=aJ.ext2 L T;simp only[L7,R9,unV,y4,M5.val,simprocAttr,X,e5,ay,aC,Z,s1,p1,p2];refine D9 [0,5,6,26,27] (σ:=List Int×List Int×List Bool×List Int) (λs f B=>B0 (m8 w) B 3 (f 3) s.1/\B0 (m8 w) B 3 (f 4) s.2.1/\B0 (m8 w) B 4 u0 s.2.2.1/\B0 (m8 w) B 3 u1 s.2.2.2 /\
      Dj (f 3) (f 4)/\Dj u0 (f 3)/\Dj u0 (f 4)/\Dj u1 (f 3)/\Dj u1 (f 4)/\o6 w B/\DI nx nx.length s.1 s.2.1 s.2.2.1 s.2.2.2/\∀V:Nat,V<r+1->B1 s.2.2.1 V=true)
     (λs=>cH0 nx s.2.2.2 nx.length+(nx.length-s.1.length)) (aV,[(r:Int)],sn.set r true,aZ) ?_ ?_
    .simp only[B3,simprocAttr];have bk:∀c,B1 (sn.set r true) c=if c=(r:Int)then true else B1 sn c:=λc=>by
      have:=O6 (v:=true) (b:=c) aI;simpa only[eh6]using this
     refine⟨aF.apart T z,by simpa using p3,s2.apart T j,aD.apart T q,z.move aF p5,p,j.move s2 p5,C,q.move aD p5,av,?_,λV aR=>?_⟩
     .have:=l.push bi hbs (λg hg=>by cases hg);simpa using this
     .rw[bk];by_cases hrr:V=r
      .subst hrr;simp
      .rw[if_neg (by omega)];exact d V (by omega)
   all_goals
    rintro⟨S,bu,A,H⟩ f2 W a8 ⟨F,i,o,m,z,p,j,C,q,hx,l,d⟩;simp only at F i o m l d;simp only[ei3,B3,↓reduceIte,Nat.reduceEqDiff]at a8;obtain⟨g0,g5,g6,bE,a1,_⟩:=a8;rw[e0]at g0;rw[X]at a1;rw[e5]at g5;rw[e6]at g6;rw[a0]at bE;have Y:=i.isS;have N:=i.vlen;have a6:=l.count;simp only[L7,R9,C4,F6,T6,simprocAttr,Y,N];refine A4 (λar=>?_) (λar=>?_)
    .rcases cl3 bu with rfl|⟨s,a,rfl⟩
     .simp at ar
     rw[show(s++[a]).length=s.length+1 by simp]at N a6;have bn:IntKind.i64.wrap (((s.length+1:Nat):Int)-1)=(s.length:Int):=by rw[M2 _ (by omega)];omega
     have aP:=i.inS (k:=s.length) (by simp);have bb:=D6 (P:=prog) (t:=3) i (k:=s.length) (x:=a) (by simp) G3;have D:I2 nx.length a=true:=l.ok (.inr (by simp));have a4:=B4.1 D;have d0:decide (0<=a)=true:=by simpa using a4.1
     obtain⟨au,U⟩:=au7 D;have bH:=l.atok a D;have cb:=m.isS;have M:=m.inS (k:=a.toNat) (by rw[l.alen];exact U);have bc:=D6 (P:=prog) (t:=3) m (k:=a.toNat) (x:=ai H a) (by simp[ai,List.getD,l.alen,U]) G3;obtain⟨k,I⟩:∃k:Nat,ai H a=k:=⟨(ai H a).toNat,by omega⟩;rw[I]at bc bH;have cg:k<=(D4 nx a).length:=by omega
     have ax:=h3.inS U;obtain⟨x,L,av⟩:=h3.row au;have br:=L.isS;have bs:=L.vlen;have bZ:=hg.row_len (az1 D);simp only[L7,R9,C4,F6,y4,T6,M5.val,simprocAttr,Y,N,bn,aP,bb];refine B9 (λw2=>w2=W.drew) 12 (A5 [0,1,2,3,4,5,6,7,8,9,10,11]) ?_;have ak:=hx.trans (o6.drew W);have aQ:=D6 (P:=prog) (t:=3) (m.ext (o6.drew W)) (k:=a.toNat) (x:=(k:Int)) (by rw[<-I];simp[ai,List.getD,l.alen,U]) G3;simp only[D0,A5,L7,R9,y4,simprocAttr,g6,M,d0];refine⟨.int .i64 k,λw2 e=>by subst e;exact aQ,?_⟩;simp only[D0,L7,R9,simprocAttr,g0];refine⟨vn,λw2 e=>by subst e;exact J1 h1 (b7 ak) Z1,?_⟩;simp only[D0,L7,R9,y4,simprocAttr,ax,d0];refine⟨x,λw2 e=>by subst e;exact J1 av (b7 ak) ah2,?_⟩;have ag:=F.ext (o6.drew W);have aj:=i.ext (o6.drew W);have ah:=o.ext (o6.drew W);have ae:=m.ext (o6.drew W);by_cases hke:k=(D4 nx a).length
     .have ac:((k:Int)==((D4 nx a).length:Int))=true:=by simp[hke]
      obtain⟨p1,u',w6,p2,p3,T,p5⟩:=push (e:=24) V4 rfl ag (x:=.int .i64 a) (y:=a) rfl (by omega) (by omega) (b7 ak);simp only[Value.cells]at p1 p2;have bS:=i.vcap;simp only[ef4,ei6]at bS;have a5:decide ((s.length:Int)<=((vcap (f2 4):Nat):Int))=true:=by simp;omega
      simp only[D0,L7,R9,C4,F6,J0,T6,simprocAttr,br,bs,ac,p1,p2,Y,N,bn,a5];obtain⟨q1,q2⟩:=(aj.apart T z.symm).pre (k:=s.length) (by simp) (by simp);have bU:B0 (m8 w) w6 3 (reS (f2 4) 0 s.length 1) s:=by
       have h9:(s++[a]).take s.length=s:=eo6;rw[h9]at q1;exact q1
      have K:∀v:Value,Dj v (f2 4)->Dj v (reS (f2 4) 0 s.length 1):=λv hd b hb bJ=>hd b hb ((q2 b).1 bJ);refine⟨(S++[a],s,A,H),?_,p3,bU,ah.apart T p,ae.apart T C,(K _ (z.symm.move aj p5).symm),p.move ah p5,K _ j,C.move ae p5,K _ q,ag.ext2 ak T,l.pop (by rw[I,hke]),d⟩;simp only[ef4,ei6];omega
     .have ac:((k:Int)==((D4 nx a).length:Int))=false:=by simp;omega
      have E:k<(D4 nx a).length:=by omega
      simp only[D0,L7,R9,C4,F6,T6,simprocAttr,br,bs,ac];refine B9 (λw2=>w2=W.drew.drew) 11 (A5 [0,1,2,3,4,5,6,7,8,9,10]) ?_;have Q:=ak.trans (o6.drew W.drew);have bf:=ag.ext (o6.drew W.drew);have bm:=aj.ext (o6.drew W.drew);have bg:=ah.ext (o6.drew W.drew);have af:=ae.ext (o6.drew W.drew);have J:=D6 (P:=prog) (t:=3) af (k:=a.toNat) (x:=(k:Int)) (by rw[<-I];simp[ai,List.getD,l.alen,U]) G3;simp only[D0,A5,L7,R9,simprocAttr,g0];refine⟨vn,λw2 e=>by subst e;exact J1 h1 (b7 Q) Z1,?_⟩;simp only[D0,L7,R9,y4,simprocAttr,ax,d0];refine⟨x,λw2 e=>by subst e;exact J1 av (b7 Q) ah2,?_⟩;simp only[D0,L7,R9,y4,simprocAttr,g6,M,d0];refine⟨.int .i64 k,λw2 e=>by subst e;exact J,?_⟩;have az:=L.inS E;have ad:=N7 (P:=prog) (t:=3) L (b7 Q) (ef1 E) G3;have aT:(D4 nx a)[k]?=some (D4 nx a)[k]:=ef1 E;have am:(D4 nx a)[k]∈D4 nx a:=eg2 E;generalize(D4 nx a)[k]=y at ad aT am;have aU:I2 nx.length y=true:=hg.ok _ (az1 D) y am;have R:I2 A.length y=true:=by rw[l.slen];exact aU
      obtain⟨al,bT⟩:=O0 R;have dy:decide (0<=y)=true:=by simpa using(B4.1 aU).1
      have bo:IntKind.i64.wrap ((k:Int)+1)=((k+1:Nat):Int):=H8 k;obtain⟨w7,t1,t2,t3,t4⟩:=F1 (P:=prog) (t:=3) af rfl (k:=a.toNat) (by rw[l.alen];exact U) (x:=.int .i64 ((k+1:Nat):Int)) (y:=((k+1:Nat):Int)) rfl rfl (z7 aC6).choose_spec.1 (by rw[<-E1 (z7 aC6).choose_spec.1];exact bj6);have bp:=af.ext2 Q t3;have aG:=bf.apart t3 C.symm;have aK:=bm.apart t3 q.symm;have G:=bg.apart t3 ab;have aA:=G.inS al;have aB:=D6 (P:=prog) (t:=4) G (k:=y.toNat) (x:=B1 A y) (by rw[bT];simp[List.getD,al]) ah3;have ch:=cR6 (nx:=nx) l.alen D I E;have bj:B1 A a=true:=(l.mark a).2 (.inr (by simp));have bY:y∈D4 nx a:=am;rcases ef2 (B1 A y)with hby|hby
      .have aa:(!B1 A y)=false:=by rw[hby];rfl
       simp only[D0,L7,R9,C4,F6,unV,y4,M5.val,simprocAttr,az,ad,g6,g5,M,d0,J,bo,t1,aA,dy,aB,aa];exact⟨(S,s++[a],A,H.set a.toNat ((k+1:Nat):Int)),by simp only[];omega,aG,aK,G,t2,z,p,j,C,q,bp,l.adv D I aT hby bj,d⟩
      .have aa:(!B1 A y)=true:=by rw[hby];rfl
       obtain⟨w8,v1,v2,v3,v4⟩:=F1 (P:=prog) (t:=4) G rfl (k:=y.toNat) al (x:=.bool true) (y:=true) rfl rfl (z7 W5).choose_spec.1 (by rw[<-E1 (z7 W5).choose_spec.1];exact aG0);have bq:=G.ext2 bp v3;have aH:=aG.apart v3 p.symm;have aL:=aK.apart v3 j.symm;have aE:=t2.apart v3 ab.symm;obtain⟨p1,u',w9,p2,p3,T,p5⟩:=push (e:=24) V4 rfl aL (x:=.int .i64 y) (y:=y) rfl (by simp;omega) (by simp;omega) (b7 bq);simp only[Value.cells]at p1 p2;simp only[D0,L7,R9,C4,F6,unV,y4,M5.val,simprocAttr,az,ad,g6,g5,M,d0,J,bo,t1,aA,dy,aB,aa,v1,p1,p2];refine⟨(S,(s++[a])++[y],A.set y.toNat true,H.set a.toNat ((k+1:Nat):Int)),by simp only[];omega,aH.apart T z,p3,v2.apart T j,aE.apart T q,z.move aH p5,p,j.move v2 p5,C,q.move aE p5,aL.ext2 bq T,?_,λV aR=>?_⟩
       .have bQ:=l.push aU hby λg bL=>by
         rcases eg1.1 bL with h9|h9
         .exact .step ((List.pairwise_append.1 l.path).2.2 g h9 a (by simp)) am
         .simp at h9;subst h9;exact Z5.one am
        refine bQ.adv D I aT ?_ (aU9 R bj);rw[O6 R,if_pos rfl]
       .exact aU9 R (d V aR)
    .have bl:bu=[]:=by
      simp at ar;exact ar
     subst bl;simp only[L7,C4,F6,simprocAttr,a1];refine T4 (S,A,H,r+1) ⟨F,i,o,m,z,p,j,C,q,hx,l,d⟩
  .rintro rfl;simp only[L7,simprocAttr];refine o7 results302 ⟨⟨aV,F,l.fin λb hb=>?_⟩,hx⟩;have cd:=B4.1 hb;have:=d b.toNat (by omega)
   rwa [show((b.toNat:Nat):Int)=b by omega]at this
def en9:=@List.drop_zero
def aN8(nx:List (List Int))(b m:Int):Prop:=au1 nx b m/\∀c,au1 nx b c->m<=c
def aN8.uniq{nx:List (List Int)}{b m c:Int}(h:aN8 nx b m)(a:aN8 nx b c):m=c:=
 Int.le_antisymm (h.2 _ a.1) (a.2 _ h.1)
def cC5{n:Nat}{nx:List (List Int)}(e:F3 n nx){a b:Int}(h:Z5 nx a b)(c:I2 n a=true):I2 n b=true:=by
 cases h with
 | refl=>exact c
 | step _ d=>exact(e.row _).2 _ d
inductive bK9 (nx:List (List Int)):Int->Int->Prop
 | refl {a:Int}:bK9 nx a a
 | head {a b c:Int}:b∈D4 nx a->bK9 nx b c->bK9 nx a c
def bK9.snoc{nx:List (List Int)}{a b c:Int}(h:bK9 nx a b)(d:c∈D4 nx b):bK9 nx a c:=by
 induction h with
 | refl=>exact .head d .refl
 | head e _ f=>exact .head e (f d)
def Z5.toL{nx:List (List Int)}{a b:Int}(h:Z5 nx a b):bK9 nx a b:=by
 induction h with
 | refl=>exact .refl
 | step _ c d=>exact d.snoc c
def bK9.way{nx:List (List Int)}{a b:Int}(h:bK9 nx a b):Z5 nx a b:=by
 induction h with
 | refl=>exact .refl
 | head c _ d=>exact(Z5.one c).trans d
structure PI (nx:List (List Int)) (n:Nat) (order:List Int) (seen:List Bool) (part:List Int) (k:Nat):Prop where
 slen:seen.length=n
 plen:part.length=n
 mark:∀b,B1 seen b=true↔∃c∈order.drop k,au1 nx c b
 part:∀b,B1 seen b=true->aN8 nx b (ai part b)
section
variable {nx pv:List (List Int)} {n:Nat} {order:List Int} {seen:List Bool} {part:List Int} {k:Nat}
def PI.start(c:bd0 nx n order):PI nx n order (List.replicate n false) (List.replicate n 0) n:=
 ⟨by simp,by simp,λb=>by simp[aD4,<-c.len],λb a=>by rw[aD4]at a;cases a⟩
def bX0{l:List Int}{k:Nat}{r:Int}(h:l[k]?=some r):l.drop k=r::l.drop (k+1):=by
 obtain⟨a,e⟩:=ef6.1 h;rw[ej8 a,e]
def PI.old(h:PI nx n order seen part (k+1)){r:Int}(i:order[k]?=some r)(j:B1 seen r=true):PI nx n order seen part k:=by
 refine⟨h.slen,h.plen,λb=>?_,h.part⟩;rw[h.mark,bX0 i];constructor
 .rintro⟨c,a,e⟩;exact⟨c,ek0 _ a,e⟩
 .rintro⟨c,a,e⟩;rcases eh0.1 a with rfl|a
  .obtain⟨d,g,f⟩:=(h.mark c).1 j;exact⟨d,g,f.trans e⟩
  .exact⟨c,a,e⟩
def PI.walk(h:PI nx n order seen part (k+1))(u:bd0 nx n order)(O:F3 n nx)(hb:∀a b,b∈D4 nx a↔a∈D4 pv b){r:Int}(P:order[k]?=some r)(Q:B1 seen r=false)(b:Int):
  Via pv (seen.set r.toNat true) [r] b↔au1 nx r b:=by
 have G:r∈order:=eh3 P;have F:=(u.mem r).1 G;have v:I2 seen.length r=true:=by rw[h.slen];exact F
 have i:∀c,B1 (seen.set r.toNat true) c=if c=r then true else B1 seen c:=λc=>O6 v;have d:order=order.take k++r::order.drop (k+1):=by rw[<-bX0 P,ej2]
 have E:r∉order.take k:=by
  have:=u.nod;rw[d,ek2]at this;exact λS=>this.2.2 r S r (by simp) rfl
 constructor
 .intro T
  induction T with
  | base N=>simp at N;subst N;exact .refl _
  | @step a b _ z g L=>
   have l:a∈D4 nx b:=(hb b a).2 z;have I:Z5 nx b r:=(Z5.one l).trans L.2;have t:b≠r:=by
    rintro rfl;rw[i,if_pos rfl]at g;cases g
   rw[i,if_neg t]at g;have o:I2 n b=true:=by
    cases hq:I2 n b with
    | true=>rfl
    | false=>
     rw[bh8 (by rw[O.len];exact hq)]at l;cases l
   have j:∀c∈order.drop (k+1),¬au1 nx c b:=λc q f=>by
    rw[(h.mark b).2 ⟨c,q,f⟩]at g;cases g
   have p:=(u.mem b).2 o;rw[d]at p;have A:b∈order.take k:=by
    rcases eg1.1 p with e|e
    .exact e
    .rcases eh0.1 e with e|e
     .exact absurd e t
     .exact absurd (au1.refl b) (j b e)
   obtain⟨c,q,f⟩:=u.cut k b A r E I;have C:I2 n c=true:=cC5 O f.2 o;have s:=(u.mem c).2 C;rw[d]at s;rcases eg1.1 s with e|e
   .exact absurd e q
   .rcases eh0.1 e with e|e
    .subst e;exact f
    .exact absurd f (j c e)
 .rintro⟨e,R⟩;have M:∀x y,bK9 nx x y->y=r->Z5 nx r x->Via pv (seen.set r.toNat true) [r] x:=by
   intro x y J
   induction J with
   | refl=>rintro rfl _;exact .base (by simp)
   | @head x b y m B L=>
    rintro rfl w;by_cases hxr:x=y
    .subst hxr;exact .base (by simp)
    .refine .step (L rfl (w.trans (Z5.one m))) ((hb x b).1 m) ?_;rw[i,if_neg hxr];rw[ep7];intro H;obtain⟨c,q,D⟩:=(h.mark x).1 H;have K:au1 nx x y:=⟨(Z5.one m).trans B.way,w⟩;rw[(h.mark y).2 ⟨c,q,D.trans K⟩]at Q;cases Q
  exact M b r R.toL rfl e
def PI.new(h:PI nx n order seen part (k+1)){r:Int}(q:order[k]?=some r){a:List Bool}{d:List Int}{m:Int}(o:a.length=n)(j:d.length=n)
  (hm:∀b,B1 a b=true↔B1 seen b=true\/au1 nx r b) (e:aN8 nx r m) (p:∀b,B1 a b=true->ai d b=if B1 seen b=true then ai part b else m):PI nx n order a d k:=by
 refine⟨o,j,λb=>?_,λb f=>?_⟩
 .rw[hm,h.mark,bX0 q];constructor
  .rintro(⟨c,g,f⟩|f)
   .exact⟨c,ek0 _ g,f⟩
   .exact⟨r,by simp,f⟩
  .rintro⟨c,g,f⟩;rcases eh0.1 g with rfl|g
   .exact .inr f
   .exact .inl ⟨c,g,f⟩
 .rw[p b f];split
  .rename_i l;exact h.part b l
  .rename_i l;rcases(hm b).1 f with i|i
   .exact absurd i l
   .exact⟨i.symm.trans e.1,λc g=>e.2 c (i.trans g)⟩
def PI.fin(h:PI nx n order seen part 0)(c:bd0 nx n order):part.length=n/\∀b,I2 n b=true->aN8 nx b (ai part b):=
 ⟨h.plen,λb a=>h.part b ((h.mark b).2 ⟨b,by rw[en9];exact(c.mem b).2 a,.refl b⟩)⟩
def cP6(l:List Int):∀x:Int,l.foldl min x<=x/\(∀y∈l,l.foldl min x<=y)/\(l.foldl min x=x\/l.foldl min x∈l):=by
 induction l with
 | nil=>intro x;exact⟨Int.le_refl _,λy b=>absurd b ek1,.inl rfl⟩
 | cons z l d=>
  intro x;obtain⟨e,c,a⟩:=d (min x z);rw[List.foldl_cons];refine⟨by omega,λy b=>?_,?_⟩
  .rcases eh0.1 b with rfl|b
   .omega
   .exact c y b
  .rcases a with a|a
   .rw[a];rcases Int.le_total x z with h|h
    .exact .inl (Int.min_eq_left h)
    .exact .inr (by rw[Int.min_eq_right h];simp)
   .exact .inr (ek0 _ a)
end
def cL9(pg:Value)(nx pv:List (List Int))(w:World)(aQ:GR (m8 w) pg nx pv)(au:aN4 nx.length (nx,pv))(bI:nx.length<=5000):
  o9 prog 281 #[pg] w λu H=>((∃p,B0 (m8 w) H 3 u p/\p.length=nx.length/\∀b,I2 nx.length b=true->aN8 nx b (ai p b))/\o6 w H):=by
 have aR:=aQ;have hg:F3 nx.length nx:=au.nx;have av:F3 nx.length pv:=au.pv;have aP:F3 pv.length pv:=by rw[av.len];exact av
 have az:pv.length=nx.length:=av.len;obtain⟨gb,vn,vp,rfl,h1,h2,h3,h4⟩:=aQ;refine p9 [.pointer (some ⟨gb,0,none⟩)] func281 rfl ?_;have bF:=J1 (P:=prog) (t:=242) h1 (n7 _) Z1;have bv:=h3.isS;have bJ:=h3.vlen;obtain⟨u0,w0,bH,ay,aC,ch,_⟩:=mk (P:=prog) (w:=w) (h:=m8 w) V4 aC6 (α:=Int) (y:=0) rfl (n:=nx.length) (by omega) (by omega) (n7 _);have aX:=J1 (P:=prog) (t:=242) h1 (b7 aC) Z1;obtain⟨u1,w1,aZ,a2,aD,bA,_⟩:=mk (P:=prog) (w:=w0) (h:=m8 w) bI1 W5 (α:=Bool) (y:=false) rfl (n:=nx.length) (by omega) (by omega) (b7 aC);have R:=aC.trans aD;have I:Dj u0 u1:=Dj.fresh ay bA;simp only[L7,R9,C4,T6,simprocAttr,bF,bv,bJ,bH,aX,aZ];refine t8 (cO8 _ nx pv w1 (aR.mono (b7 R)) hg bI) ?_;rintro u2 w2 ⟨⟨d,i,q⟩,aE⟩;have bd:=R.trans aE;have a3:=i.back R;have bt:=i.isS;have aW:=i.vlen;have bK:=q.len;rw[bK]at aW;have a1:∀b,A0 u2 b->w1.heap.size<=b:=λb g=>by
  have:=i.free g;simpa[m8]using this
 have aM:Dj u0 u2:=Dj.fresh (ay.ext aD) a1;have X:Dj u1 u2:=Dj.fresh a2 a1;have bN:IntKind.i64.wrap ((nx.length:Int)-1)=(nx.length:Int)-1:=M2 _ (by omega);simp only[L7,R9,C4,F6,T6,simprocAttr,bt,aW,bN];refine D9 [0,3,4,5] (σ:=List Bool×List Int×Nat) (λs f H=>f 6 = .int .i64 ((s.2.2:Int)-1)/\s.2.2<=nx.length/\B0 (m8 w) H 4 u1 s.1/\B0 (m8 w) H 3 u0 s.2.1/\B0 (m8 w) H 3 u2 d/\o6 w H/\PI nx nx.length d s.1 s.2.1 s.2.2)
  (λs=>s.2.2) (List.replicate nx.length false,List.replicate nx.length 0,nx.length) ?_ ?_
 .simp only[B3,simprocAttr];exact⟨by trivial,eg6 _,a2.ext aE,(ay.ext aD).ext aE,a3,bd,PI.start q⟩
 .rintro⟨V,pt,k⟩ f w3 hk ⟨h6,bE,v,T,i,hx,F⟩;simp only at h6 bE v T F;simp only[ei3,B3,simprocAttr]at hk;obtain⟨e0,e3,e4,e5,_⟩:=hk;simp only[L7,C4,F6,simprocAttr,h6];refine A4 (λhc=>?_) (λhc=>?_)
  .obtain⟨k,rfl⟩:∃j,k=j+1:=⟨k-1,by simp at hc;omega⟩;have bD:((k+1:Nat):Int)-1=(k:Int):=by omega
   rw[bD]at h6;have K:k<d.length:=by omega
   have J:=i.inS K;have L:=D6 (P:=prog) (t:=3) i (ef1 K) G3;have z:d[k]?=some d[k]:=ef1 K;generalize d[k]=r at L z;have aA:I2 nx.length r=true:=(q.mem r).1 (eh3 z);have ah:I2 V.length r=true:=by rw[F.slen];exact aA
   obtain⟨O,bM⟩:=O0 ah;have dr:decide (0<=r)=true:=by simpa using(B4.1 aA).1
   have Y:=v.inS O;have aa:=D6 (P:=prog) (t:=4) v (k:=r.toNat) (x:=B1 V r) (by rw[bM];simp[List.getD,O]) ah3;have cg:=v.isS;have ce:=i.isS;have bc:IntKind.i64.wrap ((k:Int)-1)=(k:Int)-1:=M2 _ (by omega);rcases ef2 (B1 V r)with hbs|hbs
   .simp only[L7,R9,C4,F6,y4,M5.val,simprocAttr,h6,e4,e5,J,L,Y,dr,aa,hbs,bc];exact T4 (V,pt,k) ⟨v,T,i,hx,F.old z hbs⟩
   .obtain⟨S,s1,s2,s3,s4⟩:=F1 (P:=prog) (t:=4) v rfl (k:=r.toNat) O (x:=.bool true) (y:=true) rfl rfl (z7 W5).choose_spec.1 (by rw[<-E1 (z7 W5).choose_spec.1];exact aG0);have ad:=T.apart s3 I;have B:=i.apart s3 X.symm;have bG:=D6 (P:=prog) (t:=3) B z G3;simp only[L7,R9,y4,M5.val,simprocAttr,h6,e4,e5,J,L,Y,dr,aa,hbs,s1];refine B9 (λw2=>o6 S.drew w2) 10 (A5 [0,1,2,3,4,5,6,7,8,9]) ?_;have U:=(v.ext2 hx s3).trans (o6.drew S);simp only[D0,A5,L7,R9,simprocAttr,e0];refine⟨vp,λw2 e=>J1 h2 (b7 (U.trans e)) Z1,?_⟩;simp only[D0,L7,R9,y4,simprocAttr,e4,e5,h6,J];refine⟨.int .i64 r,λw2 e=>D6 ((B.ext (o6.drew S)).ext e) z G3,?_⟩;obtain⟨vt,w5,aY,a7,G,aq⟩:=lit (P:=prog) (w:=S.drew) (h:=m8 w) (α:=Int) (xs:=[.int .i64 r]) (ys:=[r]) (parts:=#[(0,.int .i64 r)]) (n:=1) V4 rfl (G4.2 rfl) (by simp[Value.cells]) rfl rfl (by simp) (by simp) (b7 U);have af:=s2.ext ((o6.drew S).trans G);have aO:Dj u1 vt:=Dj.fresh (s2.ext (o6.drew S)) aq;have Q:∀c,B1 (V.set r.toNat true) c=if c=r then true else B1 V c:=λc=>O6 ah;simp only[D0,L7,simprocAttr,aY,F2];refine⟨G,?_⟩;refine t8 (cq0 (m8 w) vp u1 vt pv (V.set r.toNat true) [r] w5 (b7 (U.trans G)) h4 aP af a7 aO (by simp[F.slen,az]) (λa ha=>by simp at ha;subst ha;rw[Q,if_pos rfl]) (by omega) (by simp)) ?_;rintro u3 w6 ⟨td,aF,C,a6,bY,ax,a0,M⟩;have bb:∀b,A0 vt b->w.heap.size<=b:=λb g=>by
     have:=a7.free g;exact es7 λaw=>by simp[m8,aw]at this
    have be:o6 w w6:=o8.ext_of (U.trans G) ax λb g=>by
     rcases g with g|g
     .have:=af.free g;exact es7 λaw=>by simp[m8,aw]at this
     .exact bb b g
    have ae:=ad.ext ((o6.drew S).trans G);have W:Dj u0 vt:=Dj.fresh (ad.ext (o6.drew S)) aq;have aN:Dj u2 vt:=Dj.fresh (B.ext (o6.drew S)) aq;have a5:=ae.mod ax λb g am=>am.elim (I b g) (W b g);have a4:=(B.ext ((o6.drew S).trans G)).mod ax λb g am=>am.elim (λh=>X b h g) (aN b g);have ap:Dj u0 u3:=W.move ae a0;have aB:=F.walk q hg au.both z hbs;have A:∀b,b∈td↔au1 nx r b:=λb=>by rw[M.via,aB]
    have a8:r∈td:=(A r).2 (.refl r);have ba:=M.size;simp only[ei6,en4]at ba;have ci:=F.slen;obtain⟨x,l,rfl⟩:∃x l,td=x::l:=by
     cases td with
     | nil=>cases a8
     | cons x l=>exact⟨x,l,rfl⟩
    simp only[ei2]at ba;simp only[L7,simprocAttr];refine t8 (du5 u3 x l w6 (C.rw_ (b7 be)) (by omega)) ?_;rintro u4 w7 ⟨rfl,rfl⟩;obtain⟨bg,bh,bi⟩:=cP6 l x;generalize l.foldl min x=m at bg bh bi;have bu:=C.isS;simp only[L7,R9,T6,simprocAttr,bu,C.vlen];refine D9 [0,3,4,5,6,8,60,61] (σ:=List Int×Nat) (λs f H=>f 62 = .int .i64 s.2/\s.2<=(x::l).length/\B0 (m8 w) H 3 u0 s.1/\B0 (m8 w) H 4 u1 aF/\B0 (m8 w) H 3 u2 d/\B0 (m8 w) H 3 u3 (x::l)/\o6 w H/\s.1.length=nx.length /\
      ∀b,I2 nx.length b=true->ai s.1 b=if b∈(x::l).take s.2 then m else ai pt b)
     (λs=>(x::l).length-s.2) (pt,0) ?_ ?_
    .simp only[B3,simprocAttr];exact⟨by trivial,eg3 _,a5,a6,a4,C,be,F.plen,λb _=>by simp⟩
    .rintro⟨bj,j⟩ f2 w8 aV ⟨al,bC,o,ag,ac,N,bf,D,E⟩;simp only at al bC o D E;simp only[ei3,B3,↓reduceIte,Nat.reduceEqDiff]at aV;obtain⟨g0,g3,g4,g5,g6,g8,br,bs,_⟩:=aV;rw[e0]at g0;rw[e3]at g3;rw[e4]at g4;rw[e5]at g5;rw[h6]at g6;simp only[L7,C4,F6,simprocAttr,al,bs];refine A4 (λao=>?_) (λao=>?_)
     .have hj:j<(x::l).length:=by simp only[ei8]at ao;omega
      have aS:=N.inS hj;have Z:=D6 (P:=prog) (t:=3) N (ef1 hj) G3;have a9:=ef8 hj;have aL:(x::l)[j]∈(x::l):=eg2 hj;generalize(x::l)[j]=a at Z a9 aL;have aJ:I2 nx.length a=true:=cC5 hg ((A a).1 aL).1 aA;have aK:=B4.1 aJ;have da:decide (0<=a)=true:=by simpa using aK.1
      have cf:=o.isS;have aT:=o.inS (k:=a.toNat) (by omega);obtain⟨w9,t1,t2,t3,t4⟩:=F1 (P:=prog) (t:=3) o rfl (k:=a.toNat) (by omega) (x:=.int .i64 m) (y:=m) rfl rfl (z7 aC6).choose_spec.1 (by rw[<-E1 (z7 aC6).choose_spec.1];exact bj6);simp only[L7,R9,C4,F6,y4,M5.val,simprocAttr,al,br,g3,g8,aS,Z,aT,da,t1];refine⟨(bj.set a.toNat m,j+1),by omega,by rw[H8 j (by simp at hj;omega)],by omega,t2,ag.apart t3 I.symm,ac.apart t3 aM.symm,N.apart t3 ap.symm,o.ext2 bf t3,by simp[D],λb g=>?_⟩;simp only[];rw[bk7 D aJ g,a9];by_cases hba:b=a
      .subst hba;simp
      .rw[if_neg hba,E b g];simp[hba]
     .have ar:j=(x::l).length:=by
       simp only[es2]at ao;omega
      subst ar;rw[eg4]at E;simp only[L7,C4,F6,simprocAttr,g6,bc];have ab:∀b,B1 aF b=true↔B1 V b=true\/au1 nx r b:=λb=>by
       rw[M.mark,Q,A];by_cases hbr:b=r
       .subst hbr;simp[au1.refl]
       .simp[hbr]
      refine T4 (aF,bj,k) ⟨ag,o,ac,bf,F.new z (by rw[M.len];simp[F.slen]) D ab (m:=m) ⟨(A m).1 ?_,λc hc=>?_⟩ λb g=>?_⟩
      .rcases bi with h|h
       .rw[h];simp
       .exact ek0 _ h
      .rcases eh0.1 ((A c).2 hc)with h|h
       .rw[h];exact bg
       .exact bh c h
      .have bw:I2 nx.length b=true:=by
        have:=V8 g;rw[M.len]at this;simpa[F.slen]using this
       rw[E b bw];by_cases hsb:B1 V b=true
       .rw[if_pos hsb,if_neg];intro bx;have bL:=(A b).1 bx;obtain⟨c,hc,bz⟩:=(F.mark b).1 hsb;rw[(F.mark r).2 ⟨c,hc,bz.trans bL.symm⟩]at hbs;cases hbs
       .rw[if_neg hsb,if_pos];rcases(ab b).1 g with h|h
        .exact absurd h hsb
        .exact(A b).2 h
  .have ar:k=0:=by simp at hc;omega
   subst ar;simp only[L7,R9,simprocAttr];refine o7 results281 ?_;simp only[B3,simprocAttr];obtain⟨q1,q2⟩:=F.fin q;rw[e3];exact⟨⟨pt,T,q1,q2⟩,hx⟩
def bL0(n:Int)(e:Int×Int):Bool:=decide (e.1<0)||decide (e.1≥n)||decide (e.2<0)||decide (e.2≥n)
def cs1{n:Nat}{e:Int×Int}:bL0 n e=false↔bp5 n e:=by
 simp[bL0,bp5];omega
def bn5{P:Program}{t:TypeId}(a:J5 P t=false)(b:(P.underlying t).isSome=true){cs:Array Value}{i:Nat}{v:Value}(h:cs[i]?=some v)(w:World):(part t cs i).run P w = .ok v w:=by
 unfold part;simp only[eh7,ae2 t b,eg9,a,em5,en5,h,ej3]
def R.pre{α:Type}[A3 α]{h:Hp}{v:Value}{xs:List α}(q:R h v xs){k:Nat}(y:k<=xs.length):R h (reS v 0 k (A3.sz α)) (xs.take k):=by
 obtain⟨a,n,c,e,w,x,u,b,p⟩:=q;simp at e;subst e;have r:xs=xs.take k++xs.drop k:=(ej2 k xs).symm;rw[r]at b;obtain⟨g,s,i,l,t⟩:=ac3 _ _ b;refine⟨if c=0 then a else a.map (·.add (0*A3.sz α)),k-0,c-0,rfl,by rw[eg0];omega,by omega,g,l,λj v d=>?_⟩;obtain⟨f,m,o⟩:=p j v (by rw[i,ek3 (ef6.1 d).1];exact d);refine⟨f,?_,o⟩;subst m;split<;>simp[M4]
def cM8(m x y:Int):(decide (x<0)=true/\bL0 m (x,y)=true)\/(decide (x<0)=false/\decide (x≥m)=true/\bL0 m (x,y)=true) \/
  (decide (x<0)=false/\decide (x≥m)=false/\decide (y<0)=true/\bL0 m (x,y)=true)\/(decide (x<0)=false/\decide (x≥m)=false/\decide (y<0)=false/\decide (y≥m)=true/\bL0 m (x,y)=true) \/
  (decide (x<0)=false/\decide (x≥m)=false/\decide (y<0)=false/\decide (y≥m)=false/\bL0 m (x,y)=false):=by
 unfold bL0;cases decide (x<0)<;>cases decide (x≥m)<;>cases decide (y<0)<;>cases decide (y≥m)<;>simp
def aA8(d:Nat)(xs ys:Array Value):List (Bool×TypeId×Nat)->Sem Bool
 | []=>pure true
 | (b,t,o)::l=>if b=true then do
   let x <-part t xs o
   let y <-part t ys o
   let r <-Op.equalIn d t x y
   if(!r)=true then pure false else aA8 d xs ys l
  else aA8 d xs ys l
def aA7(d:Nat)(xs ys:Array Value):∀fs:List Field,Op.eqFields d xs ys fs=aA8 d xs ys (fs.map λf=>(decide (f.name ≠ "_"),f.type,f.offset))
 | []=>rfl
 | f::fs=>by
  rw[Op.eqFields,ej9,aA8,aA7 d xs ys fs];by_cases h:f.name = "_" <;> simp[h]
def U8{P:Program}{d:Nat}{xs ys:Array Value}{t o:Nat}{l:List (Bool×TypeId×Nat)}{a b:Value}{r c:Bool}(w:World)(g:(part t xs o).run P w = .ok a w)(h:(part t ys o).run P w = .ok b w)(f:(Op.equalIn d t a b).run P w = .ok r w)(e:(aA8 d xs ys l).run P w = .ok c w):
  (aA8 d xs ys ((true,t,o)::l)).run P w = .ok (r&&c) w:=by
 rw[aA8,if_pos rfl];simp only[eh7,g,h,f,eg9];cases r
 .simp
 .simpa using e
theorem aP3{P:Program}{d:Nat}{xs ys:Array Value}(w:World):(aA8 d xs ys []).run P w = .ok true w:=rfl
def bC2(w:World)(d:Nat)(a b:A9):(Op.equalIn (d+1) 9 (p6 a) (p6 b)).run prog w = .ok (decide (a=b)) w:=by
 have:=run_equalIn_string (P:=prog) w d 9 ⟨a.b.toArray⟩ ⟨b.b.toArray⟩ Tryz.underlying9;rw[aw5,aw5,by5]at this;exact this
def aP2(w:World)(d:Nat)(a b:Int):(Op.equalIn (d+1) 3 (.int .i64 a) (.int .i64 b)).run prog w = .ok (decide (a=b)) w:=by
 have:=run_equalIn_int (P:=prog) w d 3 .i64 .i64 a b Tryz.underlying3;rw[this];congr 1
def cO9(w:World)(d:Nat)(a b:Bool):(Op.equalIn (d+1) 4 (.bool a) (.bool b)).run prog w = .ok (decide (a=b)) w:=by
 have:=run_equalIn_bool' (P:=prog) w d 4 a b Tryz.underlying4;rw[this];cases a<;>cases b<;>rfl
def ar4(cs:Array Value)(i:Nat)(v:Value)(h:cs[i]?=some v)(w:World):(part 9 cs i).run prog w = .ok v w:=bn5 (P:=prog) (t:=9) Z2 (by kernel_rfl) h w
def ag9(cs:Array Value)(i:Nat)(v:Value)(h:cs[i]?=some v)(w:World):(part 3 cs i).run prog w = .ok v w:=bn5 (P:=prog) (t:=3) G3 (by kernel_rfl) h w
def bS1(cs:Array Value)(i:Nat)(v:Value)(h:cs[i]?=some v)(w:World):(part 4 cs i).run prog w = .ok v w:=bn5 (P:=prog) (t:=4) ah3 (by kernel_rfl) h w
def ds8(w:World)(d:Nat)(p q:Pa):(Op.equalIn (d+2) 78 (.agg p.cells.toArray) (.agg q.cells.toArray)).run prog w = .ok (decide (p=q)) w:=by
 rw[run_equalIn_struct (P:=prog) w (d+1) 78 _ _ (by kernel_rfl) (by kernel_rfl),aA7];have hf:(prog.fieldsOf 78).toList.map (λf=>(decide (f.name ≠ "_"),f.type,f.offset))=[(true,9,0),(true,4,1)]:=by kernel_rfl
 rw[hf,U8 w (ar4 _ _ _ rfl w) (ar4 _ _ _ rfl w) (bC2 w d _ _) (U8 w (bS1 _ _ _ rfl w) (bS1 _ _ _ rfl w) (cO9 w d _ _) (aP3 w))]
 congr 1
 cases p;cases q;simp[Pa.mk.injEq,Bool.decide_and]
def be0(w:World)(d:Nat)(p q:Vx):(Op.equalIn (d+2) 26 (.agg p.cells.toArray) (.agg q.cells.toArray)).run prog w = .ok (decide (p=q)) w:=by
 rw[run_equalIn_struct (P:=prog) w (d+1) 26 _ _ (by kernel_rfl) (by kernel_rfl),aA7];have hf:(prog.fieldsOf 26).toList.map (λf=>(decide (f.name ≠ "_"),f.type,f.offset))=[(true,9,0),(true,3,1),(true,3,2),(true,9,3)]:=by kernel_rfl
 rw[hf,U8 w (ar4 _ _ _ rfl w) (ar4 _ _ _ rfl w) (bC2 w d _ _) (U8 w (ag9 _ _ _ rfl w) (ag9 _ _ _ rfl w) (aP2 w d _ _) (U8 w (ag9 _ _ _ rfl w) (ag9 _ _ _ rfl w) (aP2 w d _ _) (U8 w (ar4 _ _ _ rfl w) (ar4 _ _ _ rfl w) (bC2 w d _ _) (aP3 w))))]
 congr 1
 cases p;cases q;simp[Vx.mk.injEq,Bool.decide_and]
def by3(cs:Array Value)(i:Nat)(v:Vx)(h:(cs.extract i (i+4))=v.cells.toArray)(w:World):(part 26 cs i).run prog w = .ok (.agg v.cells.toArray) w:=by
 refine bG9 (P:=prog) ?_ w;unfold cm2;rw[if_pos ar8,am4,as0,N6,h];rfl
def cF6(w:World)(d:Nat)(p q:Eg):(Op.equalIn (d+3) 66 (.agg p.cells.toArray) (.agg q.cells.toArray)).run prog w = .ok (decide (p=q)) w:=by
 rw[run_equalIn_struct (P:=prog) w (d+2) 66 _ _ (by kernel_rfl) (by kernel_rfl),aA7];have hf:(prog.fieldsOf 66).toList.map (λf=>(decide (f.name ≠ "_"),f.type,f.offset))=[(true,26,0),(true,26,4),(true,3,8)]:=by kernel_rfl
 have e0:∀p:Eg,p.cells.toArray.extract 0 (0+4)=p.src.cells.toArray:=λp=>rfl;have e4:∀p:Eg,p.cells.toArray.extract 4 (4+4)=p.dst.cells.toArray:=λp=>rfl;rw[hf,U8 w (by3 _ _ _ (e0 p) w) (by3 _ _ _ (e0 q) w) (be0 w d _ _) (U8 w (by3 _ _ _ (e4 p) w) (by3 _ _ _ (e4 q) w) (be0 w d _ _) (U8 w (ag9 _ _ _ rfl w) (ag9 _ _ _ rfl w) (aP2 w (d+1) _ _) (aP3 w)))]
 congr 1
 cases p;cases q;simp[Eg.mk.injEq,Bool.decide_and]
def dE6(w:World)(x y:Operand)(p q:Pa):(do eqGuard .eql 78 x y (.agg p.cells.toArray) (.agg q.cells.toArray);binOp .eql 78 (.agg p.cells.toArray) (.agg q.cells.toArray):Sem Value).run prog w = .ok (.bool (decide (p=q))) w:=by
 have b:=run_eqGuard_agg (P:=prog) w .eql 78 x y p.cells.toArray q.cells.toArray (by kernel_rfl);have a:=run_eql_struct (P:=prog) w 78 p.cells.toArray q.cells.toArray;simp only[eh7,b,eg9,a,ds8 w 9998 p q]
def bl8(w:World)(x y:Operand)(p q:Vx):(do eqGuard .eql 26 x y (.agg p.cells.toArray) (.agg q.cells.toArray);binOp .eql 26 (.agg p.cells.toArray) (.agg q.cells.toArray):Sem Value).run prog w = .ok (.bool (decide (p=q))) w:=by
 have b:=run_eqGuard_agg (P:=prog) w .eql 26 x y p.cells.toArray q.cells.toArray (by kernel_rfl);have a:=run_eql_struct (P:=prog) w 26 p.cells.toArray q.cells.toArray;simp only[eh7,b,eg9,a,be0 w 9998 p q]
def dE5(w:World)(x y:Operand)(p q:Eg):(do eqGuard .eql 66 x y (.agg p.cells.toArray) (.agg q.cells.toArray);binOp .eql 66 (.agg p.cells.toArray) (.agg q.cells.toArray):Sem Value).run prog w = .ok (.bool (decide (p=q))) w:=by
 have b:=run_eqGuard_agg (P:=prog) w .eql 66 x y p.cells.toArray q.cells.toArray (by kernel_rfl);have a:=run_eql_struct (P:=prog) w 66 p.cells.toArray q.cells.toArray;simp only[eh7,b,eg9,a,cF6 w 9997 p q]
def dF9(w:World)(x y:Operand)(p q:Eg):(do eqGuard .neq 66 x y (.agg p.cells.toArray) (.agg q.cells.toArray);binOp .neq 66 (.agg p.cells.toArray) (.agg q.cells.toArray):Sem Value).run prog w = .ok (.bool (!decide (p=q))) w:=by
 have b:=run_eqGuard_agg (P:=prog) w .neq 66 x y p.cells.toArray q.cells.toArray (by kernel_rfl);have a:=run_neq_struct (P:=prog) w 66 p.cells.toArray q.cells.toArray;simp only[eh7,b,eg9,a,cF6 w 9997 p q]
structure cr3 (P:Program) (k:TypeId) {α:Type} [DecidableEq α] (enc:α->Value):Prop where
 chk:∀(em:Bool) (a:α) (w:World),(Instr.checkKey em 10000 k (enc a)).run P w = .ok () w
 find:∀(a:α) (l:List MapEntry) (w:World),(Instr.findKey k (enc a) l).run P w=(Instr.findAsking k (enc a) l).run P w
 eq:∀(a b:α) (w:World),(Op.equal k (enc a) (enc b)).run P w = .ok (decide (a=b)) w
def al6{α:Type}[DecidableEq α](kv:List (α×Value))(k:α):Option Value:=(kv.find? λp=>decide (k=p.1)).map (·.2)
def ax0{α:Type}(enc:α->Value)(w:World)(r:Nat)(kv:List (α×Value)):Prop:=∃b a,w.heap[r]?=some (.map b a)/\b.toList.map (λe=>(e.key,e.val))=kv.map (λp=>(enc p.1,p.2))
section
variable {P:Program} {w:World} {t k e:TypeId} {r:Nat} {α:Type} [DecidableEq α] {enc:α->Value} {kv:List (α×Value)}
def ax0.lt(hm:ax0 enc w r kv):r<w.heap.size:=by
 obtain⟨a,c,h,_⟩:=hm;exact(ef5.1 h).1
def ax0.mod{M:Nat->Prop}{b:World}(hm:ax0 enc w r kv)(h:o8 M w b)(g:¬M r):ax0 enc b r kv:=by
 have a:=hm.lt;obtain⟨d,c,e,f⟩:=hm;exact⟨d,c,(h.block r a g).trans e,f⟩
def ax0.new(w:World)(t:TypeId):(Instr.makeMap t none).run P w = .ok (.map (some w.heap.size)) (w.alloc (.map #[] 0))/\ax0 enc (w.alloc (.map #[] 0)) w.heap.size ([]:List (α×Value))/\o6 w (w.alloc (.map #[] 0)):=by
 refine⟨?_,⟨#[],0,ej0 w _,rfl⟩,o6.alloc _ _⟩;unfold Instr.makeMap;rfl
def dz1(K:cr3 P k enc)(a:α):∀(l:List MapEntry) (kv:List (α×Value)) (i:Nat),l.map (λe=>(e.key,e.val))=kv.map (λp=>(enc p.1,p.2)) ->
  ∃o:Option (Nat×Value),(Instr.findAsking k (enc a) l i).run P w = .ok o w/\o.map (·.2)=al6 kv a
 | [],kv,i,h=>by
  have:kv=[]:=by simpa using h.symm
  subst this;exact⟨none,rfl,rfl⟩
 | e::l,[],i,h=>by simp at h
 | e::l,p::kv,i,h=>by
  obtain⟨f,m⟩:=p;obtain⟨j,ev,g⟩:=e;simp only[ej9,eq9,Prod.mk.injEq]at h;obtain⟨⟨rfl,rfl⟩,b⟩:=h;unfold Instr.findAsking al6;simp only[eh7,K.eq,eg9,List.find?_cons];by_cases hp:a=f
  .subst hp;exact⟨some (i,ev),by simp,by simp⟩
  .obtain⟨o,c,d⟩:=dz1 K a l kv (i+1) b;exact⟨o,by simp[hp,c],by simp only[hp,decide_false];exact d⟩
def ax0.found(K:cr3 P k enc)(a:α){b:List MapEntry}(h:b.map (λe=>(e.key,e.val))=kv.map (λp=>(enc p.1,p.2))):
  ∃o:Option (Nat×Value),(Instr.findKey k (enc a) b).run P w = .ok o w/\o.map (·.2)=al6 kv a:=by
 rw[K.find];exact dz1 K a b kv 0 h
def ax0.lookup(hm:ax0 enc w r kv)(K:cr3 P k enc)(m:P.underlying t=some (.map k e)){z:Value}(n:H3 P e=some z)(a:α):
  (Instr.lookup t (.map (some r)) (enc a) false).run P w = .ok ((al6 kv a).getD z) w:=by
 obtain⟨p,c,f,g⟩:=hm;obtain⟨i,j,b⟩:=z7 n;have d:(zeroValue e).run P w = .ok z w:=by
  unfold zeroValue;simp[N3,j,b]
 obtain⟨o,h,l⟩:=ax0.found (w:=w) K a g;unfold Instr.lookup;simp only[eh7,run_underlying m,eg9,MapKept.run_getObj_map f,ej3,K.chk,h];rw[<-l];cases o with
 | none=>simp only[eh7,d,eg9,ej3];rfl
 | some x=>rfl
def ax0.lookupOk(hm:ax0 enc w r kv)(K:cr3 P k enc)(m:P.underlying t=some (.map k e)){z:Value}(n:H3 P e=some z)(a:α):
  (Instr.lookup t (.map (some r)) (enc a) true).run P w = .ok (.tuple #[(al6 kv a).getD z,.bool (al6 kv a).isSome]) w:=by
 obtain⟨p,c,f,g⟩:=hm;obtain⟨i,j,b⟩:=z7 n;have d:(zeroValue e).run P w = .ok z w:=by
  unfold zeroValue;simp[N3,j,b]
 obtain⟨o,h,l⟩:=ax0.found (w:=w) K a g;unfold Instr.lookup;simp only[eh7,run_underlying m,eg9,MapKept.run_getObj_map f,ej3,K.chk,h];rw[<-l];cases o with
 | none=>simp only[eh7,d,eg9,ej3];rfl
 | some x=>rfl
def ax0.push(hm:ax0 enc w r kv)(K:cr3 P k enc)(n:P.underlying t=some (.map k e)){a:α}(l:al6 kv a=none)(v:Value):
  ∃g,(Instr.mapUpdate t (.map (some r)) (enc a) v).run P w = .ok () g/\ax0 enc g r (kv++[(a,v)])/\o8 (λb=>b=r) w g:=by
 obtain⟨h,c,d,i⟩:=hm;have f:=(ef5.1 d).1;obtain⟨o,m,j⟩:=ax0.found (w:=w) K a i;rw[l]at j;cases o with
 | some x=>cases j
 | none=>
  refine⟨{w with heap:=w.heap.setIfInBounds r (.map (h.push ⟨enc a,v,c⟩) (c+1))},?_,⟨h.push ⟨enc a,v,c⟩,c+1,by simp[f],?_⟩,by4 w r _⟩
  .unfold Instr.mapUpdate;simp only[eh7,run_underlying n,eg9,MapKept.run_getObj_map d,K.chk,m];exact MapKept.run_setObj_map _ d
  .rw[Array.toList_push,ei4,ei4,i];rfl
end
def ct1{P:Program}{t:TypeId}{fs:Array Field}(hu:P.underlying t=some (.struct fs))(em:Bool)(n:Nat)(cs:Array Value)(w:World)
  (h:∀x∈fs.toList.map λf=>(f.type,f.offset),∃v,(part x.1 cs x.2).run P w = .ok v w/\(Instr.checkKey em n x.1 v).run P w = .ok () w) :
  (Instr.checkKey em (n+1) t (.agg cs)).run P w = .ok () w:=by
 rw[Instr.checkKey];simp only[eh7,run_underlying hu,eg9];rw[<-Array.forIn_toList];generalize fs.toList=L at h
 induction L with
 | nil=>simp
 | cons f L ih=>
  obtain⟨v,p1,p2⟩:=h (f.type,f.offset) (by simp);have ih':=ih λx hx=>h x (by rw[ej9];exact ek0 _ hx);rw[List.forIn_cons];by_cases hn:f.name = "_"
  .simp only[hn,ne_eq,not_true_eq_false,en5,eh7,ej3,eg9];exact ih'
  .simp only[hn,ne_eq,not_false_eq_true,em4,eh7,p1,p2,ej3,eg9];exact ih'
def av5{t:TypeId}{v:Value}{d:TypeDesc}(b:prog.underlying t=some d)(c:MapKept.IsKey d v)(a:Bool)(n:Nat)(w:World):(Instr.checkKey a (n+1) t v).run prog w = .ok () w:=MapKept.run_checkKey b c a n
def Vx.enc(v:Vx):Value:=.agg v.cells.toArray
def dF0:cr3 prog 26 Vx.enc where
 chk em a w:=by
  refine ct1 (P:=prog) (fs:=prog.fieldsOf 26) (by kernel_rfl) em 9999 _ w ?_;have d:(prog.fieldsOf 26).toList.map (λf=>(f.type,f.offset))=[(9,0),(3,1),(3,2),(9,3)]:=by kernel_rfl
  rw[d];intro x c;simp only[eh0,ek1,eq2]at c;rcases c with rfl|rfl|rfl|rfl
  .exact⟨p6 a.proc,ar4 _ _ _ rfl w,av5 Tryz.underlying9 (show MapKept.IsKey .string (p6 _)from trivial) em _ w⟩
  .exact⟨.int .i64 a.kind,ag9 _ _ _ rfl w,av5 Tryz.underlying3 (show MapKept.IsKey (.int .i64) (.int .i64 _)from rfl) em _ w⟩
  .exact⟨.int .i64 a.id,ag9 _ _ _ rfl w,av5 Tryz.underlying3 (show MapKept.IsKey (.int .i64) (.int .i64 _)from rfl) em _ w⟩
  .exact⟨p6 a.slot,ar4 _ _ _ rfl w,av5 Tryz.underlying9 (show MapKept.IsKey .string (p6 _)from trivial) em _ w⟩
 find a l w:=run_findKey_eq (P:=prog) (w:=w) (by kernel_rfl) _ _
 eq a b w:=be0 w 9998 a b
def ct8(p:Int×Int):Value:=.agg #[.int .i64 p.1,.int .i64 p.2]
def co1(w:World):(sizeOf 3).run prog w = .ok 1 w:=Tryz.sizeOf3 w
def cI4(a b:Value)(w:World):(part 3 #[a,b] 0).run prog w = .ok a w:=ag9 _ _ _ rfl w
def cI5(a b:Value)(w:World):(part 3 #[a,b] 1).run prog w = .ok b w:=ag9 _ _ _ rfl w
def dN9:cr3 prog 205 ct8 where
 chk em a w:=by
  rw[show(10000:Nat)=9999+1 from rfl,ct8,Instr.checkKey];simp only[eh7,run_underlying Tryz.underlying205,eg9];simp only[Std.Legacy.Range.forIn_eq_forIn_range',Std.Legacy.Range.size,Nat.sub_zero,Nat.add_sub_cancel,Nat.div_one,List.range'_succ,List.range'_zero,List.forIn_cons,List.forIn_nil];simp only[eh7,co1,eg9,cI4,cI5,Nat.zero_mul,en3,ej1,av5 (v:=.int .i64 a.1) Tryz.underlying3 (show MapKept.IsKey (.int .i64) (.int .i64 _)from rfl) em _ w,av5 (v:=.int .i64 a.2) Tryz.underlying3 (show MapKept.IsKey (.int .i64) (.int .i64 _)from rfl) em _ w,ej3]
 find a l w:=run_findKey_eq (P:=prog) (w:=w) (by kernel_rfl) _ _
 eq a b w:=by
  obtain⟨c,d⟩:=a;obtain⟨e,f⟩:=b;unfold Op.equal;rw[show Op.maxDepth=9999+1 from rfl,ct8,ct8,Op.equalIn];simp only[eh7,run_underlying Tryz.underlying205,eg9];simp only[Std.Legacy.Range.forIn_eq_forIn_range',Std.Legacy.Range.size,Nat.sub_zero,Nat.add_sub_cancel,Nat.div_one,List.range'_succ,List.range'_zero,List.forIn_cons,List.forIn_nil];simp only[eh7,co1,eg9,cI4,Nat.zero_mul,en3,ej1,aP2 w 9998];by_cases h1:c=e<;>by_cases h2:d=f<;>simp[h1,h2,cI5,aP2 w 9998]
def aW6(h:Hp)(w a:World):Hp:=λb=>if b<w.heap.size then h b else a.heap[b]?
section
variable {h:Hp} {w w':World}
def ci6{b:Nat}(hb:w.heap.size<=b):aW6 h w w' b=w'.heap[b]?:=by unfold aW6;rw[if_neg (by omega)]
def bm1(c:B8 h (m8 w)):B8 h (aW6 h w w'):=λb o e=>by
 have a:b<w.heap.size:=(ef5.1 (show w.heap[b]?=some o from c b o e)).1;unfold aW6;rw[if_pos a];exact e
def cG4(a:B8 h (m8 w))(c:o6 w w'):B8 (aW6 h w w') (m8 w'):=λb o e=>by
 unfold aW6 at e;split at e
 .exact b7 c b o (a b o e)
 .exact e
def cG5(c:B8 h (m8 w))(f:o6 w w'){N:Nat->Prop}(hN:∀b,N b->b<w.heap.size/\h b=none):B8 (aW6 h w w') (C1 w' N):=λb o e=>by
 have d:¬N b:=λa=>by
  unfold aW6 at e;rw[if_pos (hN b a).1,(hN b a).2]at e;cases e
 rw[E4 d];exact cG4 c f b o e
end
section
variable {h:Hp} {w w':World}
def B0.upR{α:Type}[M5 α]{T:TypeId}{u:Value}{l:List α}(a:B0 (m8 w) w' T u l):R (aW6 h w w') u l:=
 (a.down (h:=λ_=>none) (λ_ _ h=>by cases h)).ro (λ_ _ h=>by cases h) λb c=>ci6 (D1 (a.free c))
end
def Wy.sp(w:Wy):Ptr Sh:=⟨w.s⟩
instance:A3 Wy where
 sz:=5
 pos:=by omega
 enc h cs x:=∃v1 v2 v3,cs=[v1,.int .i64 x.proc,.int .i64 x.n,v2,v3]/\R h v1 x.sp/\R h v2 x.real/\R h v3 x.live
 len:=by rintro h cs a ⟨v1,v2,v3,rfl,_⟩;rfl
 mono:=by rintro h k cs a hk ⟨v1,v2,v3,rfl,h1,h2,h3⟩;exact⟨v1,v2,v3,rfl,A3.mono hk h1,A3.mono hk h2,A3.mono hk h3⟩
 one:=by
  rintro h cs a ⟨v1,v2,v3,rfl,h1,h2,h3⟩ v hv;simp only[eh0,ek1,eq2]at hv;rcases hv with rfl|rfl|rfl|rfl|rfl
  .exact ae7 h1
  .rfl
  .rfl
  .exact ae7 h2
  .exact ae7 h3
structure Bk where
 s:Sh
 ways:List Wy
 defs:List (List A9)
 uses:List (List A9)
 ins:List (List A9)
 outs:List (List A9)
def Bk.sp(b:Bk):Ptr Sh:=⟨b.s⟩
def Bk.wp(b:Bk):List (Ptr Wy):=b.ways.map λw=>⟨w⟩
instance:A3 Bk where
 sz:=6
 pos:=by omega
 enc h cs x:=∃v1 v2 v3 v4 v5 v6,cs=[v1,v2,v3,v4,v5,v6]/\R h v1 x.sp/\R h v2 x.wp/\R h v3 x.defs/\R h v4 x.uses/\R h v5 x.ins/\R h v6 x.outs
 len:=by rintro h cs a ⟨v1,v2,v3,v4,v5,v6,rfl,_⟩;rfl
 mono:=by rintro h k cs a hk ⟨v1,v2,v3,v4,v5,v6,rfl,h1,h2,h3,h4,h5,h6⟩;exact⟨v1,v2,v3,v4,v5,v6,rfl,A3.mono hk h1,A3.mono hk h2,A3.mono hk h3,A3.mono hk h4,A3.mono hk h5,A3.mono hk h6⟩
 one:=by
  rintro h cs a ⟨v1,v2,v3,v4,v5,v6,rfl,h1,h2,h3,h4,h5,h6⟩ v hv;simp only[eh0,ek1,eq2]at hv;rcases hv with rfl|rfl|rfl|rfl|rfl|rfl
  .exact ae7 h1
  .exact ae7 h2
  .exact ae7 h3
  .exact ae7 h4
  .exact ae7 h5
  .exact ae7 h6
def af1:A9:=ofA #[36,105,110]
def U2:A9:=ofA #[36,114,101,116]
def R2(p:Pg)(n:A9):Bool:=decide (n=af1)||p.globals.contains n
def H6{α:Type}(l:List (List α))(i:Int):List α:=l.getD i.toNat []
def dE7(p:Pg)(n:A9):Pr:=p.procs.getD (af8 p.procs n).toNat bY8
def au3(p:Pg)(outs:List (List A9))(s:St):List A9:=
 (if s.name=e0 then[]else[s.name])++(((s.args.zip (dE7 p s.proc).params).filter λx=>x.1.ref&&(H6 outs (af8 p.procs s.proc)).contains x.2.name).map λx=>x.1.name)++(H6 outs (af8 p.procs s.proc)).filter (R2 p)
def aj5(p:Pg)(outs:List (List A9))(s:St):List A9:=
 if s.kind=1 then[s.name]else if s.kind=2 then[s.name,af1]else if s.kind=9 then[U2]else if s.kind=4 then au3 p outs s else[]
def au0(p:Pg)(a:List (List A9))(s:St):List A9:=
 ai5 s.x++(if s.kind=2 then[af1]else[])++if s.kind=4 then s.args.flatMap M6++H6 a (af8 p.procs s.proc)else[]
def J8(p:Pg)(outs:List (List A9)):List (List A9):=(d9 p).l.map λit=>E3 (aj5 p outs it.s)
def R0(p:Pg)(a:List (List A9)):List (List A9):=(d9 p).l.map λit=>E3 (au0 p a it.s)
def ad1(p:Pg)(i:Nat)(n:A9):Bool:=R2 p n||(p.procs.getD i bY8).params.contains ⟨n,true⟩
def ag1(p:Pg)(defs:List (List A9))(i:Nat):List A9:=
 (((d9 p).of i).filter λit=>(D7 (d9 p) i).lives it.s.id).flatMap λit=>(H6 defs (it.s.id-1)).filter (ad1 p i)
def G8(p:Pg)(outs:List (List A9)):List (List A9):=(List.range p.procs.length).map λi=>E3 (ag1 p (J8 p outs) i)
def cu8{α:Type}[DecidableEq α](g:α->α):Nat->α->α
 | 0,x=>x
 | k+1,x=>if g x=x then x else cu8 g k (g x)
def dg6(p:Pg):List (List A9):=List.replicate p.procs.length []
def K8(p:Pg):List (List A9):=cu8 (G8 p) 1000 (dg6 p)
def aB7(nx:List (List Int))(stop:Nat->Bool):List (List Int):=(List.range nx.length).map λa=>if stop a then[]else nx.getD a []
def cw4(wy:Wy)(outs:List A9)(uses:List (List A9))(name:A9)(a:Nat):Bool:=
 if(a:Int)=wy.n-1 then outs.contains name else !decide (a=0)&&(H6 uses (wy.place a-1)).contains name
def be7(wy:Wy)(uses defs:List (List A9))(name:A9)(a:Nat):Bool:=
 decide ((a:Int)=wy.n-1) || !decide (a=0)&&((H6 uses (wy.place a-1)).contains name||(H6 defs (wy.place a-1)).contains name)
def aJ2(wy:Wy)(outs:List A9)(uses defs:List (List A9))(name:A9):Bool:=
 (List.range wy.n.toNat).any λa=>cw4 wy outs uses name a&&Y8 (aB7 wy.net (be7 wy uses defs name)) 0 a
def aL8(p:Pg)(outs uses defs:List (List A9))(i:Nat):List A9:=(p.globals++[af1]).filter (aJ2 (D7 (d9 p) i) (H6 outs i) uses defs)
def S7(p:Pg)(outs defs a:List (List A9)):List (List A9):=(List.range p.procs.length).map λi=>E3 (aL8 p outs (R0 p a) defs i)
def af9(p:Pg):List (List A9):=cu8 (S7 p (K8 p) (J8 p (K8 p))) 1000 (dg6 p)
def J2(p:Pg):List Wy:=(List.range p.procs.length).map (D7 (d9 p))
def i4(p:Pg):Bk:=⟨d9 p,J2 p,J8 p (K8 p),R0 p (af9 p),af9 p,K8 p⟩
def ea6(s:Sh):Wy:=⟨s,0,0,[],[]⟩
def Bk.way(b:Bk)(i:Int):Wy:=b.ways.getD i.toNat (ea6 b.s)
def Bk.gives(b:Bk)(i a:Int):List A9:=
 if a=0 then E3 (H6 b.ins i++(b.s.fn i).params.map (·.name))
 else if a=(b.way i).n-1\/atB (b.way i).live a=false then[]else H6 b.defs ((b.way i).place a-1)
def Bk.takes(b:Bk)(i a:Int):List A9:=
 if a=(b.way i).n-1 then E3 (H6 b.outs i++[U2])
 else if a=0\/atB (b.way i).live a=false then[]else H6 b.uses ((b.way i).place a-1)
def Bk.givers(b:Bk)(i:Int)(n:A9):List Nat:=(List.range (b.way i).n.toNat).filter λ(a:Nat)=>(b.gives i a).contains n
def bl3(nx:List (List Int))(b:List Nat)(a c:Nat):Bool:=(D4 nx a).any λd=>Y8 (aB7 nx λq=>b.contains q) d c
def fwC(x y:Fw):Int:=orF [M1 (F8 x.src) (F8 y.src),M1 (F8 x.dst) (F8 y.dst),af4 x.var y.var]
def bL8(x y:Fw):Bool:=decide (fwC x y<=0)
def Bk.nx(b:Bk)(i:Int):List (List Int):=(aq9 (b.way i).n.toNat ((b.way i).pairs (b.way i).data)).1
def Bk.flow0(b:Bk)(i:Int):List Fw:=(List.range (b.way i).n.toNat).flatMap λ(a:Nat)=>(b.gives i a).flatMap λn=>
 ((List.range (b.way i).n.toNat).filter λ(c:Nat)=>(b.takes i c).contains n&&bl3 (b.nx i) (b.givers i n) a c).map λ(c:Nat)=>(⟨(b.way i).place a,(b.way i).place c,n⟩:Fw)
def Bk.flows(b:Bk)(i:Int):List Fw:=Y4 bL8 (b.flow0 i)
def vxC(a b:Vx):Int:=orF [af4 a.proc b.proc,M1 a.kind b.kind,M1 a.id b.id,af4 a.slot b.slot]
def cW0(a b:Vx):Bool:=decide (vxC a b<=0)
def egC(a b:Eg):Int:=orF [vxC a.src b.src,vxC a.dst b.dst,M1 a.kind b.kind]
def cO7(a b:Eg):Bool:=decide (egC a b<=0)
def aC5(l:List Eg):List Eg:=I0 (Y4 cO7 l)
def Bk.slotsIn(b:Bk)(i:Int):List A9:=W8 (H6 b.ins i++(b.s.fn i).params.map (·.name))
def Bk.slotsOut(b:Bk)(i:Int):List A9:=W8 (H6 b.outs i++[U2])
def Bk.callOut(b:Bk)(s:St):List A9:=if s.name=e0 then(b.slotsOut (b.s.pr s.proc)).filter λn=>!decide (n=U2)else b.slotsOut (b.s.pr s.proc)
def Bk.vert0(b:Bk)(i:Int):List Vx:=
 ([⟨(b.s.fn i).name,1,0,e0⟩]++(b.slotsIn i).map λn=>⟨(b.s.fn i).name,3,0,n⟩)++((b.slotsOut i).map λn=>⟨(b.s.fn i).name,4,0,n⟩) ++
 (b.s.of i).flatMap λit=>[⟨(b.s.fn i).name,2,it.s.id,e0⟩]++if it.s.kind=4 then((b.slotsIn (b.s.pr it.s.proc)).map λn=>⟨(b.s.fn i).name,5,it.s.id,n⟩)++(b.callOut it.s).map λn=>⟨(b.s.fn i).name,6,it.s.id,n⟩else[]
def Bk.verts(b:Bk)(i:Int):List Vx:=Y4 cW0 (b.vert0 i)
def ab8(a:Ar):List A9:=if a.ref then[a.name]else ai5 a.x
def Bk.callee(b:Bk)(s:St):Pr:=b.s.fn (b.s.pr s.proc)
def Bk.giver(b:Bk)(q:A9)(a:Int)(n:A9):Vx:=
 if a=0 then⟨q,3,0,n⟩
 else if(b.s.it a).s.kind≠4 then⟨q,2,a,e0⟩
 else if(b.s.it a).s.name=n then⟨q,6,a,U2⟩
 else match((b.s.it a).s.args.zip (b.callee (b.s.it a).s).params).find? λx=>x.1.ref&&decide (x.1.name=n)with
  | some x=>⟨q,6,a,x.2.name⟩
  | none=>⟨q,6,a,n⟩
def Bk.takers(b:Bk)(q:A9)(a:Int)(n:A9):List Vx:=
 if a = -1 then[⟨q,4,0,n⟩]
 else if(b.s.it a).s.kind≠4 then[⟨q,2,a,e0⟩]
 else((((b.s.it a).s.args.zip (b.callee (b.s.it a).s).params).filter λx=>(ab8 x.1).contains n).map λx=>⟨q,5,a,x.2.name⟩) ++
  if(R2 b.s.p n&&(H6 b.ins (b.s.pr (b.s.it a).s.proc)).contains n)=true then[⟨q,5,a,n⟩]else[]
def af5(q:A9)(d:Int×Int):Eg:=⟨if d.1=0 then⟨q,1,0,e0⟩else⟨q,2,d.1,e0⟩,⟨q,2,d.2,e0⟩,1⟩
def I5(q:A9)(v:Vx):List Eg:=
 if v.kind=3\/v.kind=4 then[⟨⟨q,1,0,e0⟩,v,1⟩]else if v.kind=5\/v.kind=6 then[⟨⟨q,2,v.id,e0⟩,v,1⟩]else[]
def Bk.edge0(b:Bk)(i:Int):List Eg:=
 (b.way i).decides.map (af5 (b.s.fn i).name)++(b.verts i).flatMap (I5 (b.s.fn i).name) ++
 (b.flows i).flatMap λf=>(b.takers (b.s.fn i).name f.dst f.var).map λv=>⟨b.giver (b.s.fn i).name f.src f.var,v,2⟩
def Bk.edges(b:Bk)(i:Int):List Eg:=aC5 (b.edge0 i)
def br2(n:Int):Ex:=.mk 1 n e0 []
def ai1(s:A9):Ex:=.mk 2 0 s []
def cF7(op:Int)(a b:Ex):Ex:=.mk op 0 e0 [a,b]
def sV:A9:=ofA #[118]
def sG:A9:=ofA #[103]
def sP:A9:=ofA #[112]
def sX:A9:=ofA #[120]
def sY:A9:=ofA #[121]
def sE:A9:=ofA #[101]
def bI3:Pr:=⟨L5,[],[sV],[.mk 1 1 [] sV e0 (br2 2) false [] [] [],.mk 2 4 [] sG sP (.mk 0 0 e0 []) false [⟨false,e0,br2 3⟩,⟨true,sV,.mk 0 0 e0 []⟩] [] [],
 .mk 3 3 [] e0 e0 (ai1 sV) false [] [] [],.mk 4 3 [] e0 e0 (ai1 sG) false [] [] []],[]⟩
def bI4:Pr:=⟨sP,[⟨sX,false⟩,⟨sY,true⟩],[],[.mk 5 1 [] sY e0 (cF7 8 (ai1 sY) (ai1 sX)) false [] [] [],
 .mk 6 5 [] e0 e0 (cF7 12 (ai1 sY) (br2 9)) false [] [.mk 7 10 [] sE e0 (.mk 0 0 e0 []) false [] [] []] [],.mk 8 9 [] e0 e0 (ai1 sY) true [] [] []],[sE]⟩
def bi7:Pg:=⟨[sG],[bI3,bI4]⟩
def Bk.calledBy(b:Bk)(n:A9):List A9:=((b.s.of (b.s.pr n)).filter λit=>decide (it.s.kind=4)&&(b.way (b.s.pr n)).lives it.s.id).map (·.s.proc)
def Bk.reached(b:Bk):List A9:=W8 (R5 b.calledBy 1000 0 [L5])
def Bk.wv(b:Bk):List Vx:=b.reached.flatMap λn=>b.verts (b.s.pr n)
def Bk.isCall(b:Bk)(id:Int):Bool:=decide ((b.s.it id).s.kind=4)&&(b.way (b.s.it id).proc).lives id
def Bk.joinOf(b:Bk)(v:Vx):List Eg:=
 if v.id=0\/b.isCall v.id=false then[]
 else if v.kind=2 then[⟨v,⟨(b.s.it v.id).s.proc,1,0,e0⟩,4⟩]
 else if v.kind=5 then[⟨v,⟨(b.s.it v.id).s.proc,3,0,v.slot⟩,5⟩]
 else if v.kind=6 then[⟨⟨(b.s.it v.id).s.proc,4,0,v.slot⟩,v,6⟩]
 else[]
def Bk.we0(b:Bk):List Eg:=(b.reached.flatMap λn=>b.edges (b.s.pr n))++b.wv.flatMap b.joinOf
def Bk.we(b:Bk):List Eg:=aC5 b.we0
def atV(V:List Vx)(v:Vx):Option Nat:=V.findIdx? λx=>decide (x=v)
def E5(V:List Vx)(v:Vx):Nat:=(atV V v).getD 0
def R4(V:List Vx)(L:List Eg)(ks:List Int):List (List Int):=
 (List.range V.length).map λa=>(L.filter λe=>ks.contains e.kind&&decide (E5 V e.src=a)).map λe=>((E5 V e.dst:Nat):Int)
def ab7(V:List Vx)(L:List Eg)(ks:List Int):List (List Int):=
 (List.range V.length).map λa=>(L.filter λe=>ks.contains e.kind&&decide (E5 V e.dst=a)).map λe=>((E5 V e.src:Nat):Int)
def af0(S:List Bool):List Int:=((List.range S.length).filter λa=>S.getD a false).map λ(a:Nat)=>(a:Int)
def T7(n:Nat)(l:List Int):List Bool:=(List.range n).map λ(a:Nat)=>l.contains (a:Int)
def I3(nx:List (List Int))(S:List Bool):List Bool:=T7 S.length (Q6 nx nx.length (af0 S))
def ax9(V:List Vx)(b:Nat)(a:A9)(e:Eg):List Eg:=
 if e.kind=(6:Int)/\E5 V e.src=b then
  match V[(E5 V e.dst:Nat)]? with
  | none=>[]
  | some v=>if(atV V ⟨v.proc,5,v.id,a⟩).isSome then[⟨⟨v.proc,5,v.id,a⟩,v,3⟩]else[]
 else[]
def cb2(V:List Vx)(L:List Eg)(a:Nat):List Eg:=
 (af0 (I3 (ab7 V L [1,2,3]) (T7 V.length [(a:Int)]))).flatMap λi=>match V[i.toNat]? with
  | none=>[]
  | some b=>if b.kind≠(3:Int)then[]else L.flatMap (ax9 V a b.slot)
def cb1(V:List Vx)(L:List Eg):List Eg:=
 (List.range V.length).flatMap λ(a:Nat)=>match V[a]? with
  | none=>[]
  | some b=>if b.kind≠(4:Int)then[]else cb2 V L a
def Z0(V:List Vx)(E S:List Eg):List Eg:=S++((cb1 V (E++S)).filter λe=>!S.contains e).eraseDups
def bj3(V:List Vx)(E:List Eg):List Eg:=cu8 (Z0 V E) (V.length*V.length+1) []
def Bk.sums(b:Bk):List Eg:=bj3 b.wv b.we
def Bk.all(b:Bk):List Eg:=b.we++b.sums
def Bk.backB(b:Bk)(l:List Int):List Bool:=I3 (ab7 b.wv b.all [1,2,3,6]) (I3 (ab7 b.wv b.all [1,2,3,4,5]) (T7 b.wv.length l))
def Bk.forwB(b:Bk)(l:List Int):List Bool:=I3 (R4 b.wv b.all [1,2,3,4,5]) (I3 (R4 b.wv b.all [1,2,3,6]) (T7 b.wv.length l))
def E8(V:List Vx)(S:List Bool):List Vx:=(af0 S).filterMap λi=>V[i.toNat]?
def N8(V:List Vx):List Vx->Option (List Int)
 | []=>some []
 | v::l=>match atV V v,N8 V l with
   | some a,some r=>some ((a:Int)::r)
   | _,_=>none
def ah5:Vx:=⟨e0,0,0,e0⟩
def Bk.crit(b:Bk)(id:Int):Option Vx:=
 if 1<=id/\id<=b.s.l.length/\(b.way (b.s.it id).proc).lives id=true then
  (if(atV b.wv ⟨(b.s.fn (b.s.it id).proc).name,2,id,e0⟩).isSome then some ⟨(b.s.fn (b.s.it id).proc).name,2,id,e0⟩else none)else none
def X3(p:Pg)(id:Int):Vx×Int:=
 if E0 p=false then(ah5,1)else match(i4 p).crit id with
  | none=>(ah5,9)
  | some v=>(v,0)
def ab3(p:Pg)(vs:List Vx):List Vx×Int:=
 if E0 p=false then([],1)else match N8 (i4 p).wv vs with
  | none=>([],9)
  | some l=>(E8 (i4 p).wv ((i4 p).backB l),0)
def ae9(p:Pg)(vs:List Vx):List Vx×Int:=
 if E0 p=false then([],1)else match N8 (i4 p).wv vs with
  | none=>([],9)
  | some l=>(E8 (i4 p).wv ((i4 p).forwB l),0)
def aU2(v:Value)(l:List A9)(w:World)(hv:R (m8 w) v l)(q:l.length<=1000000):o9 prog 102 #[v] w λu d=>(u = .bool (ai4 l)/\d=w):=by
 refine p9 [v] func102 rfl ?_;have g:=hv.vlen;simp only[n8,n9,simprocAttr,hv.isS,g];refine A6 [5,6] (σ:=Nat) (λk f d=>f 7 = .int .i64 k/\k<=l.length/\(l.take k).all T8=true/\d=w) (λk=>l.length-k) 0 ?_ ?_
 .simp only[B3,simprocAttr];exact⟨by trivial,eg3 _,by simp,by trivial⟩
 .rintro k f d ⟨n,o,_⟩ ⟨j,p,a,rfl⟩;simp only[n8,n9,simprocAttr,j,o];refine y5 (λb=>?_) ?_
  .have m:=hv.inS b;have e:(Instr.loadAt 9 (.pointer (some (G9 v k)))).run prog d = .ok (p6 l[k]) d:=N7 (P:=prog) (t:=9) hv (n7 _) (ef1 b) Z2;have i:(l.take (k+1)).all T8=((l.take k).all T8&&T8 l[k]):=by rw[ef8 b,List.all_append];simp
   have c:=eg2 b;generalize l[k]=s at e i c;simp only[n8,n9,y4,simprocAttr,j,n,m,e];refine t8 (aO0 s _) ?_;rintro u r ⟨rfl,rfl⟩;cases g:T8 s
   .simp only[n8,n9,simprocAttr];refine o7 results102 ?_;simp only[B3,simprocAttr];refine⟨?_,by trivial⟩;have:ai4 l=false:=by
     rw[ep7];intro h;rw[en8.1 h s c]at g;cases g
    rw[this]
   .simp only[n8,n9,simprocAttr,j];exact T4 (k+1) ⟨by rw[i,a,g];rfl,by trivial⟩
  .rintro rfl;simp only[n8,simprocAttr];refine o7 results102 ?_;simp only[B3,simprocAttr];rw[eg4]at a;exact⟨by rw[ai4,a],by trivial⟩
def de9(op:Int)(w:World):o9 prog 278 #[.int .i64 op] w λu g=>(u = .int .i64 (aE5 op)/\g=w):=by
 refine p9 [.int .i64 op] func278 rfl ?_;by_cases h1:op=1
 .have a:decide (op=1)=true:=by simp[h1]
  simp only[n8,n9,simprocAttr,a];refine o7 results278 ?_;simp only[B3,simprocAttr];exact⟨by simp[aE5,h1],by trivial⟩
 have a:decide (op=1)=false:=by simp[h1]
 by_cases h2:op=2
 .have b:decide (op=2)=true:=by simp[h2]
  simp only[n8,n9,simprocAttr,a,b];refine o7 results278 ?_;simp only[B3,simprocAttr];exact⟨by simp[aE5,h2],by trivial⟩
 have b:decide (op=2)=false:=by simp[h2]
 by_cases h3:op=3
 .have c:decide (op=3)=true:=by simp[h3]
  simp only[n8,n9,simprocAttr,a,b,c];refine o7 results278 ?_;simp only[B3,simprocAttr];exact⟨by simp[aE5,h3],by trivial⟩
 have c:decide (op=3)=false:=by simp[h3]
 by_cases h4:op=4
 .have d:decide (op=4)=true:=by simp[h4]
  simp only[n8,n9,simprocAttr,a,b,c,d];refine o7 results278 ?_;simp only[B3,simprocAttr];exact⟨by simp[aE5,h4],by trivial⟩
 have d:decide (op=4)=false:=by simp[h4]
 by_cases h5:5<=op
 .have e:decide (5<=op)=true:=by simp[h5]
  by_cases h6:op<=17
  .have f:decide (op<=17)=true:=by simp[h6]
   simp only[n8,n9,simprocAttr,a,b,c,d,e,f];refine o7 results278 ?_;simp only[B3,simprocAttr];exact⟨by rw[aE5,if_neg (by omega),if_neg (by omega),if_pos ⟨h5,h6⟩],by trivial⟩
  .have f:decide (op<=17)=false:=by simp[h6]
   simp only[n8,n9,simprocAttr,a,b,c,d,e,f];refine o7 results278 ?_;simp only[B3,simprocAttr];exact⟨by rw[aE5,if_neg (by omega),if_neg (by omega),if_neg (by omega)],by trivial⟩
 .have e:decide (5<=op)=false:=by simp[h5]
  simp only[n8,n9,simprocAttr,a,b,c,d,e];refine o7 results278 ?_;simp only[B3,simprocAttr];exact⟨by rw[aE5,if_neg (by omega),if_neg (by omega),if_neg (by omega)],by trivial⟩
def dg8(v:Value)(x:Ex)(w:World)(hv:SV (m8 w) v x):o9 prog 252 #[v] w λu k=>(u = .bool (dg7 x)/\o6 w k):=by
 refine p9 [v] func252 rfl ?_;obtain⟨a,l,b,c,g⟩:=aS8 hv (n7 _);obtain⟨m,e,j,_⟩:=g.ex;have d:=j l (n7 _);have f:=e.isS;have i:=e.vlen;have h:decide ((x.kids.length:Int)=0)=decide (x.kids.length=0):=ek8.2 (by omega);unfold dg7;cases h1:decide (x.op=0)
 .simp only[n8,n9,simprocAttr,b,d,h1];exact o7 results252 ⟨rfl,c⟩
 cases h2:decide (x.n=0)
 .simp only[n8,n9,simprocAttr,b,d,h1,h2];exact o7 results252 ⟨rfl,c⟩
 cases h3:decide (x.name=e0)
 .simp only[n8,n9,simprocAttr,b,d,h1,h2,h3];exact o7 results252 ⟨rfl,c⟩
 simp only[n8,n9,simprocAttr,b,d,f,i,h1,h2,h3,h];exact o7 results252 ⟨rfl,c⟩
def aS7{α:Type}(p:α->Bool)(l:List α)(k:Nat)(a:k<l.length):(l.take (k+1)).all p=((l.take k).all p&&p l[k]):=by
 rw[ef8 a,List.all_append];simp
def aG8{α:Type}{p:α->Bool}{l:List α}{x:α}(b:x∈l)(h:p x=false):l.all p=false:=by
 rw[ep7];intro a;rw[en8.1 a _ b]at h;cases h
def cf9:∀(n:Nat) (v:Value) (x:Ex) (w:World),n<=20->SV (m8 w) v x->o9 prog 253 #[v,.int .i64 n] w λu I=>(u = .bool (ae8 n x)/\o6 w I)
 | 0,v,x,w,_,hv=>by
  refine p9 [v,.int .i64 ((0:Nat):Int)] func253 rfl ?_;obtain⟨a,j,N,E,U⟩:=aS8 hv (n7 _);have S:decide ((((0:Nat):Int))<1)=true:=by decide
  simp only[n8,n9,simprocAttr,N];refine B9 (λr=>o6 j.drew r) 11 (A5 [0,1,2,3,4,5,6,7,8,9,10]) ?_;simp only[D0,A5,n8,n9,simprocAttr];exact o7 results253 ⟨rfl,E.trans (o6.drew _)⟩
 | n+1,v,x,w,hn,hv=>by
  refine p9 [v,.int .i64 ((n+1:Nat):Int)] func253 rfl ?_;obtain⟨a,j,N,E,U⟩:=aS8 hv (n7 _);obtain⟨vk,H,ld,sd⟩:=U.ex;have c:=E.trans (o6.drew j);have p:=ld j.drew (b7 (o6.drew j));have s1:=sd (λr=>o6 j.drew r) j.drew (o8.refl _) (λI h=>b7 ((o6.drew j).trans h));have S:decide ((((n+1:Nat):Int))<1)=false:=by simp;omega
  have T:=H.isS;have V:=H.vlen;simp only[n8,n9,simprocAttr,N];refine B9 (λr=>o6 j.drew r) 11 (A5 [0,1,2,3,4,5,6,7,8,9,10]) ?_;simp only[D0,A5,n8,n9,simprocAttr,S,s1,T,V];refine t8 (de9 x.op _) ?_;rintro u r ⟨rfl,rfl⟩;cases h1:decide ((x.kids.length:Int)=aE5 x.op)
  .simp only[D0,n8,n9,simprocAttr,F2,h1];refine⟨o8.refl _,?_⟩;refine o7 results253 ?_;simp only[B3,simprocAttr];exact⟨by rw[ae8,if_pos (by simpa using h1)],c⟩
  have e:¬(x.kids.length:Int)≠aE5 x.op:=by simpa using h1
  simp only[D0,n8,n9,simprocAttr,F2,h1];refine⟨o8.refl _,?_⟩;simp only[n8,n9,simprocAttr,p];by_cases h2:x.op=1
  .have m:decide (x.op=1)=true:=by simp[h2]
   have d:ae8 (n+1) x=(decide (0<=x.n)&&decide (x.name=e0)):=by rw[ae8,if_neg e,if_pos h2]
   cases h3:decide (0<=x.n)
   .simp only[n8,n9,simprocAttr,p,m,h3];refine o7 results253 ?_;simp only[B3,simprocAttr];exact⟨by rw[d,h3];rfl,c⟩
   .simp only[n8,n9,simprocAttr,p,m,h3];refine o7 results253 ?_;simp only[B3,simprocAttr];exact⟨by rw[d,h3];rfl,c⟩
  have m:decide (x.op=1)=false:=by simp[h2]
  by_cases h3:x.op=2
  .have s:decide (x.op=2)=true:=by simp[h3]
   have d:ae8 (n+1) x=(decide (x.n=0)&&T8 x.name):=by rw[ae8,if_neg e,if_neg h2,if_pos h3]
   cases h4:decide (x.n=0)
   .simp only[n8,n9,simprocAttr,p,m,s,h4];refine o7 results253 ?_;simp only[B3,simprocAttr];exact⟨by rw[d,h4];rfl,c⟩
   .simp only[n8,n9,simprocAttr,p,m,s,h4];refine t8 (aO0 x.name _) ?_;rintro u r ⟨rfl,rfl⟩;simp only[n8,simprocAttr];refine o7 results253 ?_;simp only[B3,simprocAttr];exact⟨by rw[d,h4];rfl,c⟩
  have s:decide (x.op=2)=false:=by simp[h3]
  cases h4:decide (x.n=0)
  .have d:ae8 (n+1) x=false:=by rw[ae8,if_neg e,if_neg h2,if_neg h3,if_pos (.inl (by simpa using h4))]
   simp only[n8,n9,simprocAttr,p,m,s,h4];refine o7 results253 ?_;simp only[B3,simprocAttr];exact⟨by rw[d],c⟩
  cases h5:decide (x.name=e0)
  .have d:ae8 (n+1) x=false:=by rw[ae8,if_neg e,if_neg h2,if_neg h3,if_pos (.inr (by simpa using h5))]
   simp only[n8,n9,simprocAttr,p,m,s,h4,h5];refine o7 results253 ?_;simp only[B3,simprocAttr];exact⟨by rw[d],c⟩
  have d:ae8 (n+1) x=x.kids.all (ae8 n):=by
   rw[ae8,if_neg e,if_neg h2,if_neg h3,if_neg (λh=>by rcases h with h|h<;>simp_all)]
  have Z:x.kids.length<=2:=by
   have:(x.kids.length:Int)=aE5 x.op:=by simpa using h1
   unfold aE5 at this;split at this
   .omega
   .split at this
    .omega
    .split at this<;>omega
  simp only[n8,n9,simprocAttr,p,m,s,h4,h5,T,V];refine D9 [1,49,50] (σ:=Nat) (λk f I=>f 51 = .int .i64 k/\k<=x.kids.length/\(x.kids.take k).all (ae8 n)=true/\o6 j I) (λk=>x.kids.length-k) 0 ?_ ?_
  .simp only[B3,simprocAttr];exact⟨by trivial,eg3 _,by simp,o6.drew _⟩
  .rintro k f w3 z ⟨q,Y,g,i⟩;simp only[ei3,B3,↓reduceIte,Nat.reduceEqDiff]at z;obtain⟨X,J,K,_⟩:=z;simp only[n8,n9,simprocAttr,q,K];refine y5 (λl=>?_) ?_
   .have O:=H.inS l;obtain⟨sv,C,A⟩:=F5 (P:=prog) (t:=106) H (b7 i) (ef1 l) bo5 bo9 bc2 ai9;rw[ai9]at A;have D:=aS7 (ae8 n) x.kids k l;have o:=eg2 l;generalize x.kids[k]=y at C D o;obtain⟨b,wz,W,L,Q,F,M⟩:=dx2 (C.mono (b7 i)) (n7 _);obtain⟨sy,R,ly,_⟩:=M.ex_v;have B:IntKind.i64.wrap (((n+1:Nat):Int)-1)=(n:Int):=by rw[M2 _ (by omega)];omega
    simp only[n8,n9,y4,simprocAttr,q,J,X,O,A,L,Q,ly W (n7 _),B];refine t8 (cf9 n sy y W (by omega) R) ?_;rintro u w5 ⟨rfl,G⟩;cases hdy:ae8 n y
    .simp only[n8,n9,simprocAttr];refine o7 results253 ?_;simp only[B3,simprocAttr];exact⟨by rw[d,aG8 o hdy],E.trans (i.trans (F.trans G))⟩
    .simp only[n8,n9,simprocAttr,q];exact T4 (k+1) ⟨by rw[D,g,hdy];rfl,i.trans (F.trans G)⟩
   .rintro rfl;simp only[n8,simprocAttr];refine o7 results253 ?_;simp only[B3,simprocAttr];rw[eg4]at g;exact⟨by rw[d,g],E.trans i⟩
def bq0(v:Value)(x:Ex)(w:World)(hv:SV (m8 w) v x):o9 prog 211 #[v] w λu j=>(u = .bool (ae8 20 x)/\o6 w j):=by
 refine p9 [v] func211 rfl ?_;obtain⟨a,d,f,g,e⟩:=aS8 hv (n7 _);obtain⟨i,b,h,_⟩:=e.ex_v;simp only[n8,n9,simprocAttr,f,h d (n7 _)];refine t8 (cf9 20 i x d (by omega) b) ?_;rintro u k ⟨rfl,c⟩;simp only[n8,simprocAttr];exact o7 results211 ⟨rfl,g.trans c⟩
def bm7(s:A9)(b:Bool)(w:World):o9 prog 204 #[p6 s,.bool b] w λu a=>(u = .bool (ac9 s b)/\a=w):=by
 refine p9 [p6 s,.bool b] func204 rfl ?_;cases b
 .simp only[n8,n9,simprocAttr];refine o7 results204 ?_;simp only[B3,simprocAttr];exact⟨by simp[ac9],by trivial⟩
 .simp only[n8,n9,simprocAttr];refine t8 (aO0 s _) ?_;rintro u c ⟨rfl,rfl⟩;cases hn:T8 s
  .simp only[n8,n9,simprocAttr];refine o7 results204 ?_;simp only[B3,simprocAttr];exact⟨by simp[ac9,hn],by trivial⟩
  .simp only[n8,simprocAttr];refine o7 results204 ?_;simp only[B3,simprocAttr];exact⟨by simp[ac9,hn],by trivial⟩
def bU0(v:Value)(x:Ex)(b:Bool)(w:World)(hv:SV (m8 w) v x):o9 prog 205 #[v,.bool b] w λu k=>(u = .bool (ao8 x b)/\o6 w k):=by
 refine p9 [v,.bool b] func205 rfl ?_;obtain⟨a,l,f,e,i⟩:=aS8 hv (n7 _);obtain⟨h,d,j,_⟩:=i.ex_v;have g:=j l (n7 _);cases b
 .simp only[n8,n9,simprocAttr,f,g];refine t8 (dg8 h x _ d) ?_;rintro u m ⟨rfl,c⟩;simp only[n8,simprocAttr];refine o7 results205 ?_;simp only[B3,simprocAttr];exact⟨by simp[ao8],e.trans c⟩
 .simp only[n8,n9,simprocAttr,f,g];refine t8 (bq0 h x _ d) ?_;rintro u m ⟨rfl,c⟩;cases hn:ae8 20 x
  .simp only[n8,n9,simprocAttr];refine o7 results205 ?_;simp only[B3,simprocAttr];exact⟨by simp[ao8,hn],e.trans c⟩
  .simp only[n8,simprocAttr];refine o7 results205 ?_;simp only[B3,simprocAttr];exact⟨by simp[ao8,hn],e.trans c⟩
def cw3(v:Value)(l:List Ar)(w:World)(hv:R (m8 w) v l)(N:l.length<=1000000):o9 prog 206 #[v] w λu E=>(u = .bool (aT5 l)/\o6 w E):=by
 refine p9 [v] func206 rfl ?_;simp only[n8,n9,simprocAttr,hv.isS,hv.vlen];refine A6 [5,6] (σ:=Nat) (λk f E=>f 7 = .int .i64 k/\k<=l.length/\(l.take k).all (λa=>ac9 a.name a.ref&&ao8 a.x (!a.ref))=true/\o6 w E) (λk=>l.length-k) 0 ?_ ?_
 .simp only[B3,simprocAttr];exact⟨by trivial,eg3 _,by simp,o8.refl _⟩
 .rintro k f Q ⟨H,I,_⟩ ⟨s,J,e,d⟩;simp only[n8,n9,simprocAttr,s,I];refine y5 (λg=>?_) ?_
  .have A:=hv.inS g;obtain⟨O,o,n⟩:=F5 (P:=prog) (t:=124) hv (b7 d) (ef1 g) aS1 aS2 aL1 aa8;rw[aa8]at n;have q:=aS7 (λa:Ar=>ac9 a.name a.ref&&ao8 a.x (!a.ref)) l k g;have i:=eg2 g;generalize l[k]=y at o q i;obtain⟨b,U,G,x,B,j,z⟩:=bj8 (o.mono (b7 d)) (n7 _);obtain⟨m,K,_⟩:=z.ar;obtain⟨M,C,L,_⟩:=m.ex_v;have F:=K G (n7 _);have D:=L G (n7 _);have c:(ac9 y.name y.ref&&ao8 y.x (!y.ref))=false->aT5 l=false:=λh=>aG8 (p:=λa:Ar=>ac9 a.name a.ref&&ao8 a.x (!a.ref)) i h;simp only[n8,n9,y4,simprocAttr,s,H,A,n,x,B,F];refine t8 (bm7 y.name y.ref _) ?_;rintro u S ⟨rfl,rfl⟩;cases hnm:ac9 y.name y.ref
   .simp only[n8,n9,simprocAttr];refine o7 results206 ?_;simp only[B3,simprocAttr];exact⟨by rw[c (by rw[hnm];rfl)],d.trans j⟩
   .simp only[n8,n9,simprocAttr,F,D];refine t8 (bU0 M y.x (!y.ref) _ C) ?_;rintro u T ⟨rfl,r⟩;cases hwo:ao8 y.x (!y.ref)
    .simp only[n8,n9,simprocAttr];refine o7 results206 ?_;simp only[B3,simprocAttr];exact⟨by rw[c (by rw[hwo];simp)],d.trans (j.trans r)⟩
    .simp only[n8,n9,simprocAttr,s];exact T4 (k+1) ⟨by rw[q,e,hnm,hwo];rfl,d.trans (j.trans r)⟩
  .rintro rfl;simp only[n8,simprocAttr];refine o7 results206 ?_;simp only[B3,simprocAttr];rw[eg4]at e;exact⟨by rw[aT5,e],d⟩
def dU4:=zJ (zJ (zJ (zJ (zJ (zJ @dV2 @dU5) (zJ @dK9 (zJ @dU8 @dU9))) (zJ (zJ @dU6 @dU7) (zJ @dY7 (zJ @dY3 @dS4)))) (zJ (zJ (zJ @dY4 @dY5) (zJ @dM1 (zJ @dJ6 @dM2))) (zJ (zJ @dM3 @dX0) (zJ @dW9 (zJ @dV4 @dY9))))) (zJ (zJ (zJ (zJ @ec9 @dK7) (zJ @dX9 (zJ @dK8 @dY0))) (zJ (zJ @eb4 @ed4) (zJ @dv3 (zJ @dQ4 @dv4)))) (zJ (zJ (zJ @dQ5 @dQ6) (zJ @dG4 (zJ @dA9 @dA8))) (zJ (zJ @dQ3 @eb6) (zJ @eb5 (zJ @dG3 @eb8)))))) (zJ (zJ (zJ (zJ (zJ @eb7 @dX7) (zJ @do5 (zJ @dP3 @ea9))) (zJ (zJ @dv0 @dK6) (zJ @dF8 (zJ @ea3 @eb0)))) (zJ (zJ (zJ @dK5 @dX6) (zJ @dP6 (zJ @dX5 @ev.eq_1))) (zJ (zJ @ev.eq_2 @ev.eq_3) (zJ @ev.eq_4 (zJ @C9.eq_1 @C9.eq_2))))) (zJ (zJ (zJ (zJ @ec8 @eb1) (zJ @eb9 (zJ @ec0 @List.map_cons.{0,0}))) (zJ (zJ @List.map_nil.{0,0} @List.map_toArray.{0,0}) (zJ @ce3.eq_1 (zJ @ce3.eq_2 @dE8)))) (zJ (zJ (zJ @dW6 @dW7) (zJ @dc9.eq_1 (zJ @List.getElem?_toArray.{0} @List.getElem?_cons_zero.{0}))) (zJ (zJ @List.getElem?_cons_succ.{0} @Option.bind_some.{0,0}) (zJ @Option.some.injEq.{0} (zJ @em5 @Bool.true_eq_false))))))
def cv6(x:Ex)(a:List A9):ap3 x a=au5 x.kids (if x.op=2/\a.contains x.name=false then a++[x.name]else a):=by
 cases x;simp only[ap3,Ex.kids,Ex.op,Ex.name];rfl
mutual
def aQ2:∀(x:Ex) (a:List A9),(ap3 x a).length<=a.length+Y0 x
 | .mk op n name kids,a=>by
  have h:=bs7 kids (if op=2/\a.contains name=false then a++[name]else a);have b:(if op=2/\a.contains name=false then a++[name]else a).length<=a.length+1:=by
   split
   .simp
   .omega
  simp only[ap3,Y0,wtT];omega
def bs7:∀(l:List Ex) (a:List A9),(au5 l a).length<=a.length+aA0 l
 | [],a=>by simp[au5,aA0]
 | x::l,a=>by
  have b:=aQ2 x a;have c:=bs7 l (ap3 x a);simp only[au5,aA0];omega
end
def cv7:∀(m:Nat) (x:Ex) (v g:Value) (c:List A9) (h:Hp) (w:World),Y0 x<=m->SV h v x->B8 h (m8 w)->B0 h w 9 g c->c.length+Y0 x<=1000000 ->
  o9 prog 212 #[v,g] w λu W=>(B0 h W 9 u (ap3 x c)/\o8 (A0 g) w W/\E9 w g u):=by
 intro m
 induction m using Nat.strongRecOn with
 | ind m ih=>
 intro x v g c h w aE hv hh ho hl;refine p9 [v,g] func212 rfl ?_;have aG:=cc9 x;obtain⟨a,I,af,D,ha⟩:=bx7 (w:=w) (A0 g) hv (λb d=>ho.lt d);obtain⟨vk,Y,ld,_⟩:=I6.ex hv ha;have l1:=ld I (A8 _ _);have A:=ho.ext D;have G:=p7 hh (b7 D);have ac:=Y.isS;have ak:=Y.vlen;have aD:=bU2 x.kids;rw[by6];simp only[dU4,n9,simprocAttr,af];refine dN4 [2] (λf2 X=>∃u,f2 1=u/\B0 h X 9 u (if x.op=2/\c.contains x.name=false then c++[x.name]else c)/\o8 (A0 g) I X/\E9 I g u) (by decide +kernel) ?_ ?_
 .by_cases F:x.op=2
  .have Z:decide (x.op=2)=true:=by simp[F]
   simp only[n8,n9,simprocAttr,l1,Z];refine E6 (S1 g c x.name I (A.rw_ G) (by omega)) ?_;cases h2:c.contains x.name
   .obtain⟨p1,u',X,p2,p3,p4,p5⟩:=push (e:=31) az7 rfl A (x:=p6 x.name) (y:=x.name) rfl (by omega) (by omega) G;simp only[n8,n9,simprocAttr,l1,p1,p2];exact⟨u',by trivial,by rw[if_pos ⟨F,by trivial⟩];exact p3,p4,p5⟩
   .simp only[n8,n9,simprocAttr];exact⟨g,by trivial,by rw[if_neg (by rintro⟨_,h⟩;cases h)];exact A,o8.refl _,λb d=>.inl d⟩
  .have Z:decide (x.op=2)=false:=by simp[F]
   simp only[n8,n9,simprocAttr,l1,Z];exact⟨g,by trivial,by rw[if_neg (λh=>F h.1)];exact A,o8.refl _,λb d=>.inl d⟩
 .rintro f2 X N ⟨u0,g1,V,S,T⟩;simp only[ei3,B3,↓reduceIte,Nat.reduceEqDiff]at N;obtain⟨g2,_⟩:=N;have H:(if x.op=2/\c.contains x.name=false then c++[x.name]else c).length<=c.length+1:=by
   split
   .simp
   .omega
  have J:=cv6 x c;generalize(if x.op=2/\c.contains x.name=false then c++[x.name]else c)=o0 at V H J;have aF:1<=wtT x.name:=by simp[wtT]
  simp only[n8,n9,simprocAttr,g2,ld X (D8 S),ac,ak];refine D9 [23,24] (σ:=Nat×Value×List A9) (λs f W=>f 25 = .int .i64 s.1/\f 1=s.2.1/\s.1<=x.kids.length/\B0 h W 9 s.2.1 s.2.2/\o8 (A0 g) I W/\E9 I g s.2.1/\au5 x.kids o0=au5 (x.kids.drop s.1) s.2.2/\s.2.2.length+aA0 (x.kids.drop s.1)<=1000000) (λs=>x.kids.length-s.1) (0,u0,o0) ?_ ?_
  .simp only[B3,simprocAttr];exact⟨by trivial,by simpa using g1,eg3 _,V,S,T,by simp,by simp;omega⟩
  .rintro⟨k,u,o⟩ f w3 O ⟨q,F,L,B,z,l,n,p⟩;simp only at q F L B l n p;simp only[ei3,B3,↓reduceIte,Nat.reduceEqDiff]at O;obtain⟨aa,ab,_⟩:=O;simp only[n8,n9,simprocAttr,q,ab];refine y5 (λr=>?_) ?_
   .have ah:=Y.inS r;have K:B8 h (m8 w3):=H2 G z λb d=>ho.free d;obtain⟨sv,C,Q⟩:=F5 (P:=prog) (t:=106) Y K (ef1 r) bo5 bo9 bc2 ai9;rw[ai9]at Q;have j:x.kids.drop k=x.kids[k]::x.kids.drop (k+1):=ej8 r;have ao:=bp8 (eg2 r);generalize x.kids[k]=y at C j ao;rw[j,au5]at n;rw[j,aA0]at p;have aB:=aQ2 y o;obtain⟨b,wz,w4,ad,an,E,ae⟩:=dx6 (w:=w3) (A0 u) C (λb d=>B.lt d);obtain⟨lw,_⟩:=I6.ex_v C ae;simp only[n8,n9,y4,simprocAttr,q,F,aa,ah,Q,ad,an,lw w4 (A8 _ _)];refine t8 (ih (Y0 y) (by omega) y sv u o h w4 (eg6 _) C (p7 K (b7 E)) (B.ext E) (by omega)) ?_;rintro u' w5 ⟨am,aj,U⟩;simp only[n8,n9,simprocAttr,q];have R:o8 (A0 g) I w5:=(z.trans (o8.up E)).chain aj λi hi d=>by
     rcases l i d with d|d
     .exact d
     .omega
    refine nx4 (k+1,u',ap3 y o) ⟨am,R,λb d=>?_,n,by simp only[];omega⟩;rcases U b d with d|d
    .exact l b d
    .have:=(z.trans (o8.up (M:=A0 g) E)).size;exact .inr (by omega)
   .rintro rfl;simp only[n8,simprocAttr,F];refine o7 results212 ?_;simp only[B3,simprocAttr];rw[eo9]at n;have ag:ap3 x c=o:=by rw[J,n];rfl
    exact⟨by rw[ag];exact B,(o8.up D).trans z,λb d=>(l b d).imp id λh=>ef9 D.size h⟩
def ax1(v:Value)(x:Ex)(w:World)(hv:SV (m8 w) v x)(o:Y0 x<=1000000):o9 prog 171 #[v] w λu j=>(B0 (m8 w) j 9 u (ai5 x)/\o6 w j):=by
 refine p9 [v] func171 rfl ?_;obtain⟨a,k,f,d,m⟩:=bx7 (w:=w) (λ_=>False) hv (λ_ h=>h.elim);obtain⟨i,_⟩:=I6.ex_v hv m;simp only[n8,n9,simprocAttr,f,i k (A8 _ _)];refine B2 (bq0 v x k (hv.mono (b7 d))) (λl e=>?_);cases hd:ae8 20 x
 .simp only[n8,n9,simprocAttr];exact o7 results171 ⟨by rw[ai5,hd];exact B0.nil _ _ _,d.trans e⟩
 .have c:=d.trans e;simp only[n8,n9,simprocAttr,i l (p7 (A8 _ _) (b7 e))];refine t8 (cv7 _ x v (.slice none 0 0) [] (m8 w) l (eg6 _) hv (b7 c) (B0.nil _ _ _) (by simpa using o)) ?_;rintro u r ⟨q,g,p⟩;simp only[n8,simprocAttr];exact o7 results171 ⟨by rw[ai5,hd];exact q,o8.ext_of c g λb n=>absurd n D5⟩
def eo8:=@List.flatMap_append
def er6:=@List.take_succ_cons
def ai6(x:Ex):(ai5 x).length<=Y0 x:=by
 unfold ai5;split
 .have:=aQ2 x [];simpa using this
 .simp
def bV6(a:Ar):(M6 a).length<=at0 a:=by
 have:=ai6 a.x;unfold M6 at0 wtT;split<;>simp<;>omega
def I9{α β:Type}(g:α->List β)(l:List α){k:Nat}(a:k<l.length):(l.take (k+1)).flatMap g=(l.take k).flatMap g++g l[k]:=by
 rw[ef8 a,eo8];simp
def Q0:∀(l:List Ar),(l.flatMap M6).length<=ah4 l
 | []=>by simp
 | a::l=>by
  have b:=Q0 l;have c:=bV6 a;simp only[ep2,ef4,ah4];omega
def az9:∀(l:List Ar) (k:Nat),ah4 (l.take k)<=ah4 l
 | [],k=>by simp
 | a::l,0=>by simp[ah4]
 | a::l,k+1=>by have:=az9 l k;simp only[er6,ah4];omega
def bv0(v:Value)(t:St)(w:World)(hv:SV (m8 w) v t)(hl:U1 t<=1000000):o9 prog 161 #[v] w λu A=>(B0 (m8 w) A 9 u (L6 t)/\o6 w A):=by
 refine p9 [v] func161 rfl ?_;rw[V7]at hl;obtain⟨a,d,ao,l,ha⟩:=cE3 (w:=w) (λ_=>False) hv (λ_ h=>h.elim);obtain⟨vl,ux,va,vt,ve,_,Z,R,r,_,_,ld,_⟩:=I6.st hv ha;have i:∀A,o6 d A->B8 (C1 d λ_=>False) (m8 A):=λA h=>p7 (A8 _ _) (b7 h);have l1:=ld d (i _ (o8.refl _));have aY:=ai6 t.x;rw[by6];simp only[dU4,n9,simprocAttr,ao];rw[by6];simp only[dU4,simprocAttr];refine dN4 [1] (λf2 N=>∃u,f2 3=u/\B0 (m8 d) N 9 u (if t.kind≠10/\t.name≠e0 then[t.name]else[])/\o6 d N) (by decide +kernel) ?_ ?_
 .by_cases h1:t.kind=10
  .have d1:decide (t.kind=10)=true:=by simp[h1]
   simp only[n8,n9,simprocAttr,l1,d1];exact⟨_,by trivial,by rw[if_neg (λh=>h.1 h1)];exact B0.nil _ _ _,o8.refl _⟩
  .have d1:decide (t.kind=10)=false:=by simp[h1]
   by_cases h2:t.name=e0
   .have d2:decide (t.name=e0)=true:=by simp[h2]
    simp only[n8,n9,simprocAttr,l1,d1,d2];exact⟨_,by trivial,by rw[if_neg (λh=>h.2 h2)];exact B0.nil _ _ _,o8.refl _⟩
   .have d2:decide (t.name=e0)=false:=by simp[h2]
    obtain⟨p1,u',N,p2,p3,p4,p5⟩:=push (e:=31) az7 rfl (B0.nil (m8 d) d 9) (x:=p6 t.name) (y:=t.name) rfl (by simp) (by simp) (n7 _);simp only[n8,n9,simprocAttr,l1,d1,d2,p1,p2];exact⟨u',by trivial,by rw[if_pos ⟨h1,h2⟩];exact p3,o8.ext_of (o8.refl _) p4 λb p=>absurd p D5⟩
 .rintro f2 N S ⟨u0,g3,H,z⟩;simp only[ei3,B3,↓reduceIte,Nat.reduceEqDiff]at S;obtain⟨g1,_⟩:=S;have X:L6 t=(if t.kind≠10/\t.name≠e0 then[t.name]else[])++ai5 t.x++t.args.flatMap M6:=rfl;have G:(if t.kind≠10/\t.name≠e0 then[t.name]else[]).length<=1:=by split<;>simp
  generalize(if t.kind≠10/\t.name≠e0 then[t.name]else[])=o0 at H G X;obtain⟨ax,_⟩:=I6.ex_v Z R;have ac:=l.trans z;simp only[n8,n9,simprocAttr,g1,g3,ax N (i _ z)];refine t8 (ax1 ux t.x N (Z.mono (b7 ac)) (by omega)) ?_;rintro u3 w3 ⟨ar,n⟩;have aJ:1<=wtT t.name/\1<=wtT t.proc:=by simp[wtT]
  obtain⟨u4,w4,a1,a2,a3,a4⟩:=ar3 (P:=prog) (e:=31) az7 (H.ext n) (ar.rw_ (b7 n)) (n7 _) (by omega) (by omega) (b7 (z.trans n));have C:o6 d w4:=o8.ext_of (z.trans n) a3 λb p=>D1 ((H.ext n).free p);have aW:=aw7 t.args;simp only[n8,n9,simprocAttr,g1,a1,ld w4 (i _ C),r.isS,r.vlen];refine D9 [25,26] (σ:=Nat×Value) (λs f A=>f 27 = .int .i64 s.1/\f 3=s.2/\s.1<=t.args.length/\B0 (m8 d) A 9 s.2 (o0++ai5 t.x++(t.args.take s.1).flatMap M6)/\o6 d A) (λs=>t.args.length-s.1) (0,u4) ?_ ?_
  .exact⟨rfl,rfl,eg3 _,by simpa using a2,C⟩
  .rintro⟨k,u⟩ f w5 T ⟨g,h3,aq,j,M⟩;simp only at g h3 aq j;simp only[ei3,B3,↓reduceIte,Nat.reduceEqDiff]at T;obtain⟨al,am,_⟩:=T;simp only[n8,n9,simprocAttr,g,am];refine y5 (λq=>?_) ?_
   .have ap:=r.inS q;obtain⟨sv,J,U⟩:=F5 (P:=prog) (t:=124) r (b7 (l.trans M)) (ef1 q) aS1 aS2 aL1 aa8;rw[aa8]at U;have L:=I9 M6 t.args q;have ab:=aW2 (eg2 q);have aI:((t.args.take k).flatMap M6).length<=ah4 t.args:=ef9 (Q0 _) (az9 _ _);have c:((t.args.take (k+1)).flatMap M6).length<=ah4 t.args:=ef9 (Q0 _) (az9 _ _);rw[L]at c;generalize t.args[k]=y at J L ab c;have B:M6 y=(if y.ref then[y.name]else[])++ai5 y.x:=rfl;rw[B]at c;simp only[ef4]at c;obtain⟨b,wz,w6,Q,Y,ae,an⟩:=cJ9 (w:=w5) (A0 u) J (λb p=>j.lt p);obtain⟨uy,aa,F,aw,_⟩:=I6.ar J an;obtain⟨ay,_⟩:=I6.ex_v aa F;have I:=j.ext ae;have D:=M.trans ae;have l6:=aw w6 (A8 _ _);simp only[n8,n9,y4,simprocAttr,g,al,ap,U,Q,Y,l6];generalize hK:CW prog _ (aa5 1 (ad0 _ _))=K;have af:∀(u7:Value) (O:Fr) (E:World),O 3=u7->O 5 = .pointer (some b)->O 27 = .int .i64 k->B0 (m8 d) E 9 u7 (o0++ai5 t.x++(t.args.take k).flatMap M6++(if y.ref then[y.name]else[]))->o8 (A0 u) w6 E->K O E:=by
     intro u7 O E q3 q5 aE W V;have m:o6 d E:=o8.ext_of D V λb p=>D1 (I.free p);have az:=ay E (D8 V);rw[<-hK];simp only[n8,n9,simprocAttr,q3,q5,az];refine t8 (ax1 uy y.x E (aa.mono (b7 (l.trans m))) (by unfold at0 at ab;omega)) ?_;rintro u8 w8 ⟨au,o⟩;obtain⟨u9,w9,c1,c2,c3,c4⟩:=ar3 (P:=prog) (e:=31) az7 (W.ext o) (au.rw_ (b7 o)) (n7 _) (by simp only[ef4];omega) (by simp only[ef4];omega) (b7 (m.trans o));have ad:o6 d w9:=o8.ext_of (m.trans o) c3 λb p=>D1 ((W.ext o).free p);simp only[n8,n9,simprocAttr,c1,aE];refine nx4 (k+1,u9) ⟨?_,ad⟩;simp only[];rw[L,B];simp only[ei0]at c2 ⊢;exact c2
    cases hr:y.ref
    .simp only[n8,simprocAttr];refine af u _ _ ?_ ?_ ?_ (by rw[hr];simpa using I) (o8.refl _)<;>simp only[B3,↓reduceIte,Nat.reduceEqDiff,h3,g]
    .obtain⟨p1,u7,E,p2,p3,p4,p5⟩:=push (e:=31) az7 rfl I (x:=p6 y.name) (y:=y.name) rfl (by simp only[ef4];omega) (by simp only[ef4];omega) (b7 D);simp only[n8,n9,simprocAttr,h3,l6,p1,p2];refine af u7 _ _ ?_ ?_ ?_ (by rw[hr];exact p3) p4<;>simp only[B3,↓reduceIte,Nat.reduceEqDiff,g]
   .rintro rfl;simp only[n8,simprocAttr,h3];refine o7 results161 ?_;simp only[B3,simprocAttr];rw[eg4]at j;exact⟨by rw[X];exact j.back l,l.trans M⟩
def cu2(v:Value)(s:St)(w:World)(hv:SV (m8 w) v s)(hb:U1 s<=1000000):o9 prog 159 #[v] w λu w'=>(u = .bool (R3 s)/\o6 w w'):=by
 refine p9 [v] func159 rfl ?_;obtain⟨a,e,ab,hx,ha⟩:=au2 hv (n7 _);obtain⟨vl,va,vt,ve,hl,y,ht,he,E,ld,sd⟩:=ha.st;have d:=hx.trans (o6.drew e);have C:=ld e.drew (b7 (o6.drew e));have s1:=sd (λw2=>o6 e.drew w2) e.drew (o8.refl _) (λw' h=>b7 ((o6.drew e).trans h));simp only[n8,n9,simprocAttr,ab];refine B9 (λw2=>o6 e.drew w2) 8 (A5 [0,1,2,3,4,5,6,7]) ?_;simp only[D0,A5,n8,n9,simprocAttr,s1];simp only[n8,n9,simprocAttr,C];generalize hK:CW prog _ (bk5 prog _ _)=K;have Y:=y.isS;have ac:=y.vlen;have Z:=ht.isS;have ad:=ht.vlen;have aa:=he.isS;have ae:=he.vlen;have c1:decide ((0:Int)<((s.args.length:Nat):Int))=decide (0<s.args.length):=ek8.2 (by omega);have c2:decide ((0:Int)<((s.thn.length:Nat):Int))=decide (0<s.thn.length):=ek8.2 (by omega);have c3:decide ((0:Int)<((s.els.length:Nat):Int))=decide (0<s.els.length):=ek8.2 (by omega);have b:∀(k:Fl) (f:Fr),X0 s=some k->f 1 = .pointer (some a)->f 3 = .bool k.name->f 4 = .bool k.proc->f 5 = .bool k.x->f 6 = .bool k.has->f 7 = .bool k.thn->f 8 = .bool k.els->f 9 = .bool (decide (s.kind=4))->K f e.drew:=by
  rintro⟨O,P,Q,M,th,el⟩ f hk r H I J R g7 g8 g9;simp only at H I J R g7 g8;have x:R3 s=(!(M||(!th&&decide (0<s.thn.length))||(!el&&decide (0<s.els.length))||(!decide (s.kind=4)&&decide (0<s.args.length))) &&
   ac9 s.name O&&ac9 s.proc P&&ao8 s.x Q&&aT5 s.args):=by rw[R3,hk]
  clear hk;generalize decide (s.kind=4)=ar at x g9;rw[<-hK,by6];generalize X:CW prog _ (bk5 prog _ _)=K2;have A:∀(f:Fr),f 1 = .pointer (some a)->f 3 = .bool O->f 4 = .bool P->f 5 = .bool Q->(M||(!th&&decide (0<s.thn.length))||(!el&&decide (0<s.els.length))||(!ar&&decide (0<s.args.length)))=false->K2 f e.drew:=by
   intro f r H I J S;rw[S]at x;rw[<-X]
   .simp only[n8,n9,simprocAttr,r,H,C];refine t8 (bm7 s.name O _) ?_;rintro u w3 ⟨rfl,rfl⟩;cases i:ac9 s.name O
    .simp only[n8,n9,simprocAttr];refine o7 results159 ?_;simp only[B3,simprocAttr];exact⟨by rw[x,i];rfl,d⟩
    simp only[n8,n9,simprocAttr,r,I,C];refine t8 (bm7 s.proc P _) ?_;rintro u w3 ⟨rfl,rfl⟩;cases l:ac9 s.proc P
    .simp only[n8,n9,simprocAttr];refine o7 results159 ?_;simp only[B3,simprocAttr];exact⟨by rw[x,i,l];rfl,d⟩
    obtain⟨sx,af,lx,_⟩:=E.ex_v;simp only[n8,n9,simprocAttr,r,J,lx e.drew (b7 (o6.drew e))];refine t8 (bU0 sx s.x Q _ (af.mono (b7 (o6.drew e)))) ?_;rintro u w3 ⟨rfl,n⟩;cases t:ao8 s.x Q
    .simp only[n8,n9,simprocAttr];refine o7 results159 ?_;simp only[B3,simprocAttr];exact⟨by rw[x,i,l,t];rfl,d.trans n⟩
    simp only[n8,n9,simprocAttr,r,ld w3 (b7 ((o6.drew e).trans n))];refine t8 (cw3 va s.args _ (A3.mono (b7 ((o6.drew e).trans n)) y) (by have:=aw7 s.args;rw[V7]at hb;omega)) ?_;rintro u w4 ⟨rfl,ag⟩;simp only[n8,simprocAttr];refine o7 results159 ?_;simp only[B3,simprocAttr];exact⟨by rw[x,i,l,t];simp,d.trans (n.trans ag)⟩
  have D:(M||(!th&&decide (0<s.thn.length))||(!el&&decide (0<s.els.length))||(!ar&&decide (0<s.args.length)))=true->R3 s=false:=λh=>by rw[x,h];rfl
  cases M
  case true=>
   simp only[n8,simprocAttr,R];refine o7 results159 ?_;simp only[B3,simprocAttr];exact⟨by rw[D rfl],d⟩
  cases th<;>cases d2:decide (0<s.thn.length)<;>cases el<;>cases d3:decide (0<s.els.length)<;>cases ar<;>cases d1:decide (0<s.args.length) <;>
  .rw[d1]at c1;rw[d2]at c2;rw[d3]at c3;simp only[n8,n9,simprocAttr,r,R,g7,g8,g9,C,Y,ac,Z,ad,aa,ae,c1,c2,c3]
   first
   | refine A _ ?_ ?_ ?_ ?_ (by rw[d1,d2,d3];rfl)<;>simp only[B3,↓reduceIte,Nat.reduceEqDiff,r,H,I,J]
   | refine o7 results159 ?_
     simp only[B3,simprocAttr];exact⟨by rw[D (by rw[d1,d2,d3];rfl)],d⟩
 have N:∀m:Int,m≠4->decide (s.kind=m)=true->decide (s.kind=4)=false:=λm hm h=>by
  have:=ef3 h;exact el3 (by omega)
 refine A4 (λi=>?_) (λi=>?_)
 .have c:=N 1 (by omega) i;have g:=ef3 i;simp only[n8,simprocAttr,c];refine b ⟨true,false,true,s.has,false,false⟩ _ (by rw[X0,if_pos g]) ?_ ?_ ?_ ?_ ?_ ?_ ?_ ?_<;>simp only[B3,↓reduceIte,Nat.reduceEqDiff,c]
 have g:=ef7 i;simp only[n8,n9,simprocAttr];refine A4 (λl=>?_) (λl=>?_)
 .have c:=N 2 (by omega) l;have k2:=ef3 l;simp only[n8,simprocAttr,l,c];refine b ⟨true,false,false,s.has,false,false⟩ _ (by rw[X0,if_neg g,if_pos (.inl k2)]) ?_ ?_ ?_ ?_ ?_ ?_ ?_ ?_<;>simp only[B3,↓reduceIte,Nat.reduceEqDiff,c]
 have k2:=ef7 l;simp only[n8,n9,simprocAttr];refine A4 (λj=>?_) (λj=>?_)
 .have c:=N 10 (by omega) j;have F:=ef3 j;simp only[n8,simprocAttr,c];refine b ⟨true,false,false,s.has,false,false⟩ _ (by rw[X0,if_neg g,if_pos (.inr F)]) ?_ ?_ ?_ ?_ ?_ ?_ ?_ ?_<;>simp only[B3,↓reduceIte,Nat.reduceEqDiff,c]
 have F:=ef7 j;have q:¬(s.kind=2\/s.kind=10):=by omega
 simp only[n8,n9,simprocAttr];refine A4 (λt=>?_) (λt=>?_)
 .have c:=N 3 (by omega) t;have o:=ef3 t;simp only[n8,simprocAttr,c];refine b ⟨false,false,true,s.has,false,false⟩ _ (by rw[X0,if_neg g,if_neg q,if_pos o]) ?_ ?_ ?_ ?_ ?_ ?_ ?_ ?_<;>simp only[B3,↓reduceIte,Nat.reduceEqDiff,c]
 have o:=ef7 t;simp only[n8,n9,simprocAttr];refine A4 (λc=>?_) (λc=>?_)
 .have p:=ef3 c;simp only[n8,n9,simprocAttr,C];refine b ⟨decide (s.name≠e0),true,false,s.has,false,false⟩ _ (by rw[X0,if_neg g,if_neg q,if_neg o,if_pos p]) ?_ ?_ ?_ ?_ ?_ ?_ ?_ ?_<;>simp only[B3,↓reduceIte,Nat.reduceEqDiff,c,decide_not]
 have p:=ef7 c;simp only[n8,n9,simprocAttr];refine A4 (λT=>?_) (λT=>?_)
 .have z:=ef3 T;simp only[n8,simprocAttr];refine b ⟨false,false,true,s.has,true,true⟩ _ (by rw[X0,if_neg g,if_neg q,if_neg o,if_neg p,if_pos z]) ?_ ?_ ?_ ?_ ?_ ?_ ?_ ?_<;>simp only[B3,↓reduceIte,Nat.reduceEqDiff,c]
 have z:=ef7 T;simp only[n8,n9,simprocAttr];refine A4 (λU=>?_) (λU=>?_)
 .have B:=ef3 U;simp only[n8,simprocAttr];refine b ⟨false,false,true,s.has,true,false⟩ _ (by rw[X0,if_neg g,if_neg q,if_neg o,if_neg p,if_neg z,if_pos B]) ?_ ?_ ?_ ?_ ?_ ?_ ?_ ?_<;>simp only[B3,↓reduceIte,Nat.reduceEqDiff,c]
 have B:=ef7 U;simp only[n8,n9,simprocAttr];refine A4 (λW=>?_) (λW=>?_)
 .have G:=ef3 W;simp only[n8,n9,simprocAttr,C];refine b ⟨false,false,s.has,false,false,false⟩ _ (by rw[X0,if_neg g,if_neg q,if_neg o,if_neg p,if_neg z,if_neg B,if_pos G]) ?_ ?_ ?_ ?_ ?_ ?_ ?_ ?_<;>simp only[B3,↓reduceIte,Nat.reduceEqDiff,c]
 have G:=ef7 W;simp only[n8,n9,simprocAttr];refine A4 (λL=>?_) (λL=>?_)
 .have k7:=ef3 L;simp only[n8,simprocAttr,L];refine b ⟨false,false,false,s.has,false,false⟩ _ (by rw[X0,if_neg g,if_neg q,if_neg o,if_neg p,if_neg z,if_neg B,if_neg G,if_pos (.inl k7)]) ?_ ?_ ?_ ?_ ?_ ?_ ?_ ?_<;>simp only[B3,↓reduceIte,Nat.reduceEqDiff,c]
 have k7:=ef7 L;simp only[n8,n9,simprocAttr];refine A4 (λV=>?_) (λV=>?_)
 .have k8:=ef3 V;simp only[n8,simprocAttr];refine b ⟨false,false,false,s.has,false,false⟩ _ (by rw[X0,if_neg g,if_neg q,if_neg o,if_neg p,if_neg z,if_neg B,if_neg G,if_pos (.inr k8)]) ?_ ?_ ?_ ?_ ?_ ?_ ?_ ?_<;>simp only[B3,↓reduceIte,Nat.reduceEqDiff,c]
 have k8:=ef7 V;simp only[n8,simprocAttr];refine o7 results159 ?_;simp only[B3,simprocAttr];exact⟨by rw[R3,show X0 s=none by rw[X0,if_neg g,if_neg q,if_neg o,if_neg p,if_neg z,if_neg B,if_neg G,if_neg (by omega)]],d⟩
def aF4(d:Nat)(n:Int)(s:St):Option Int:=if n+1>200\/s.id≠n+1\/ai4 s.labels=false\/R3 s=false then none else(I4 d s.thn (n+1)).bind λm=>I4 d s.els m
theorem bb2(d:Nat)(l:List St)(n:Int):I4 (d+1) l n=l.foldlM (aF4 d) n:=rfl
def bs0{α β:Type}(g:β->α->Option β)(l:List α)(n:β){k:Nat}(a:k<l.length){m:β}(h:(l.take k).foldlM g n=some m):(l.take (k+1)).foldlM g n=g m l[k]:=by
 rw[ef8 a,List.foldlM_append,h];simp
def br9{α β:Type}(g:β->α->Option β)(l:List α)(n:β){k:Nat}(b:k<l.length){m:β}(h:(l.take k).foldlM g n=some m)(a:g m l[k]=none):l.foldlM g n=none:=by
 conv=>lhs;rw[<-ej2 k l,ej8 b]
 rw[List.foldlM_append,h];show(do let s <-g m l[k];List.foldlM g s (l.drop (k+1)))=none;rw[a];rfl
def bi1:∀(d:Nat) (l:List St) (n m:Int),I4 d l n=some m->n<=m/\(n<=200->m<=200)
 | 0,l,n,m,h=>by
  unfold I4 at h;split at h
  .simp only[eq4]at h;subst h;exact⟨Int.le_refl _,λh=>h⟩
  .cases h
 | d+1,l,n,m,h=>by
  rw[bb2]at h
  induction l generalizing n with
  | nil=>simp only[List.foldlM_nil]at h;cases h;exact⟨Int.le_refl _,λh=>h⟩
  | cons s l a=>
   rw[List.foldlM_cons]at h;cases hs:aF4 d n s with
   | none=>rw[hs]at h;cases h
   | some b=>
    rw[hs]at h;have c:=a b h;unfold aF4 at hs;split at hs
    .cases hs
    .rename_i g;cases ht:I4 d s.thn (n+1)with
     | none=>rw[ht]at hs;cases hs
     | some i=>
      rw[ht]at hs;have e:=bi1 d _ _ _ ht;have f:=bi1 d _ _ _ hs;omega
def bG8:∀(d:Nat) (l:List St) (n:Int) (v:Value) (h:Hp) (c:Nat) (w:World),d<=12->B8 h (m8 w)->h c=none->w.heap[c]?=some (.cells #[.int .i64 n] 171 (0,0))->R h v l->J4 l<=1000000->0<=n->n<=200 ->
  o9 prog 104 #[.pointer (some ⟨c,0,none⟩),v,.int .i64 (13-(d:Int))] w λu j=>(u = .bool (I4 d l n).isSome/\(∀m,I4 d l n=some m->j.heap[c]?=some (.cells #[.int .i64 m] 171 (0,0)))/\o8 (λb=>b=c) w j)
 | 0,l,n,v,h,c,w,_,hh,hgb,hcell,hv,_,_,_=>by
  generalize hN:(13:Int)-((0:Nat):Int)=N;refine p9 [.pointer (some ⟨c,0,none⟩),v,.int .i64 N] func104 rfl ?_;have hS:=hv.isS;have hn:=hv.vlen;have d0:decide ((12:Int)<N)=true:=by subst hN;decide
  have c0:decide ((0:Int)<((l.length:Nat):Int))=decide (0<l.length):=ek8.2 (by omega);cases hl:decide (0<l.length)
  .have U:l.length=0:=by simpa using hl
   have c1:decide ((0:Int)<((l.length:Nat):Int))=false:=c0.trans hl;simp only[n8,n9,simprocAttr,hS,hn,d0,c1];refine A6 [16,17] (σ:=Nat) (λk f j=>f 18 = .int .i64 0/\j=w) (λ_=>0) 0 ?_ ?_
   .exact⟨rfl,rfl⟩
   .rintro k f j ⟨aa,S,_⟩ ⟨q,rfl⟩;simp only[n8,n9,simprocAttr,q,S,c1];refine o7 results104 ?_;simp only[B3,simprocAttr];have e:I4 0 l n=some n:=by unfold I4;rw[if_pos U]
    exact⟨by rw[e];rfl,λm hm=>by rw[e]at hm;cases hm;exact hcell,o8.refl _⟩
  .have U:¬l.length=0:=by have:0<l.length:=by simpa using hl
                          omega
   simp only[n8,n9,simprocAttr,hS,hn,d0,c0,hl];refine o7 results104 ?_;simp only[B3,simprocAttr];have e:I4 0 l n=none:=by unfold I4;rw[if_neg U]
   exact⟨by rw[e];rfl,λm hm=>(by rw[e]at hm;cases hm),o8.refl _⟩
 | d+1,l,n,v,h,c,w,hd,hh,hgb,hcell,hv,hwt,hn0,hn2=>by
  generalize hN:(13:Int)-((d+1:Nat):Int)=N;refine p9 [.pointer (some ⟨c,0,none⟩),v,.int .i64 N] func104 rfl ?_;have d0:decide ((12:Int)<N)=false:=by simp;omega
  have C:IntKind.i64.wrap (N+1)=13-(d:Int):=by rw[M2 _ (by omega)];omega
  simp only[n8,n9,simprocAttr,hv.isS,hv.vlen,d0];refine A6 [0,2,16,17] (σ:=Nat×Int) (λs f j=>f 18 = .int .i64 s.1/\s.1<=l.length/\(l.take s.1).foldlM (aF4 d) n=some s.2/\0<=s.2/\s.2<=200/\j.heap[c]?=some (.cells #[.int .i64 s.2] 171 (0,0))/\o8 (λb=>b=c) w j) (λs=>l.length-s.1) (0,n) ?_ ?_
  .exact⟨rfl,eg3 _,by simp,hn0,hn2,hcell,o8.refl _⟩
  .rintro⟨k,m⟩ f w1 ⟨e0,e2,aa,S,_⟩ ⟨q,av,g,ax,ay,I,X⟩;simp only at q av g ax ay I;simp only[n8,n9,simprocAttr,q,S];refine y5 (λB=>?_) ?_
   .have au:=hv.inS B;have af:B8 h (m8 w1):=H2 hh X λb hb=>by subst hb;exact hgb
    have ae:c<w1.heap.size:=(ef5.1 I).1;have ao:∀b,b=c->b<w1.heap.size:=λb hb=>by subst hb;exact ae
    obtain⟨sv,ah,ag⟩:=F5 (P:=prog) (t:=109) hv af (ef1 B) bc0 bc4 aL0 ad2;rw[ad2]at ag;have E:=bs0 (aF4 d) l n B g;have D:=br9 (aF4 d) l n B g;have J:U1 l[k]<=1000000:=ef9 (ap0 (eg2 B)) hwt;generalize l[k]=s at ah E D J;obtain⟨a,wz,Y,ap,aH,aj,ab⟩:=dU1 (P:=prog) (T:=109) (N:=λb=>b=c) ah (dd7 af λb hb=>by subst hb;exact hgb) ao cC0 rfl ad2;have ad:Y.heap[c]?=some (.cells #[.int .i64 m] 171 (0,0)):=(aj.block c ae id).trans I;obtain⟨H,aF,r,aK⟩:=af3 (P:=prog) (t:=3) (i:=0) (x:=.int .i64 (m+1)) ad (by simp) rfl rfl (z7 aC6).choose_spec.1 (by rw[<-E1 (z7 aC6).choose_spec.1];exact bj6);simp only[Array.setIfInBounds,ep3,ei2,em2,ej1,Nat.lt_add_one,↓reduceDIte,List.set_toArray,List.set_cons_zero]at r;have aw:=E7 (P:=prog) (t:=3) (i:=0) (u:=.int .i64 m) ad rfl G3;have aJ:IntKind.i64.wrap (m+1)=m+1:=M2 _ (by omega);have F:=aK.trans ((o6.drew H).weaken (N:=λb=>b=c) λ_ _ h=>h.elim);have W:B8 (C1 Y λb=>b=c) (m8 H.drew):=D8 F;obtain⟨vl,va,vt,ve,aD,a1,aE,aC,aU,ld,sd⟩:=ab.st;obtain⟨ss,aG,a3,aN⟩:=ab.st_v;have O:∀j,o6 H.drew j->B8 (C1 Y λb=>b=c) (m8 j):=λj h=>p7 W (b7 h);have s3:=sd (λj=>o6 H.drew j) H.drew (o8.refl _) O;have s4:=aN (λj=>o6 H.drew j) H.drew (o8.refl _) O;have V:∀K f d w,F7 prog (λj=>o6 H.drew j) (Instr.loadAt 3 (.pointer (some ⟨c,0,none⟩))) K f d w=K (C9 f d (.int .i64 (m+1))) w:=λK f d w=>C0 (w0:=H.drew) (o8.refl _) λj aI=>E7 (i:=0) ((aI.block c (ef5.1 r).1 id).trans r) rfl G3;have o:o8 (λb=>b=c) w H.drew:=X.trans ((aj.weaken λ_ _ h=>h.elim).trans F);simp only[n8,n9,y4,simprocAttr,q,e0,aa,au,ag,ap,aH,aw,aJ,aF];refine B9 (λj=>o6 H.drew j) 25 (A5 [0,1,2,3,4,5,6,7,8,9,10,11,12,13,14,15,16,17,18,19,20,21,22,23,24]) ?_;have p:aF4 d m s=none->I4 (d+1) l n=none:=λh=>by rw[bb2];exact D h
    cases b1:decide ((200:Int)<m+1)
    case true=>
     simp only[D0,A5,n8,n9,simprocAttr,e0,V,b1];refine o7 results104 ?_;simp only[B3,simprocAttr];have e:=p (by rw[aF4,if_pos (.inl (by simpa using b1))]);exact⟨by rw[e];rfl,λm hm=>(by rw[e]at hm;cases hm),o⟩
    cases b2:decide (s.id=m+1)
    case false=>
     simp only[D0,A5,n8,n9,simprocAttr,e0,V,s3,b1,b2];refine o7 results104 ?_;simp only[B3,simprocAttr];have e:=p (by rw[aF4,if_pos (.inr (.inl (by simpa using b2)))]);exact⟨by rw[e];rfl,λm hm=>(by rw[e]at hm;cases hm),o⟩
    simp only[D0,A5,n8,n9,simprocAttr,e0,V,s3,b1,b2];refine t8 (aU2 vl s.labels _ (A3.mono W aD) (by have:=Z7 s.labels;rw[V7]at J;omega)) ?_;rintro u w4 ⟨rfl,rfl⟩;cases b3:ai4 s.labels
    case false=>
     simp only[D0,n8,n9,simprocAttr,F2];refine⟨o8.refl _,?_⟩;refine o7 results104 ?_;simp only[B3,simprocAttr];have e:=p (by rw[aF4,if_pos (.inr (.inr (.inl b3)))]);exact⟨by rw[e];rfl,λm hm=>(by rw[e]at hm;cases hm),o⟩
    simp only[D0,n8,n9,simprocAttr,F2,s4];refine⟨o8.refl _,?_⟩;refine t8 (cu2 ss s _ (aG.mono W) J) ?_;rintro u Z ⟨rfl,G⟩;have Q:o8 (λb=>b=c) Y Z:=F.trans (G.weaken λ_ _ h=>h.elim);have y:o8 (λb=>b=c) w Z:=o.trans (G.weaken λ_ _ h=>h.elim);cases b4:R3 s
    case false=>
     simp only[D0,n8,n9,simprocAttr,F2];refine⟨G,?_⟩;refine o7 results104 ?_;simp only[B3,simprocAttr];have e:=p (by rw[aF4,if_pos (.inr (.inr (.inr b4)))]);exact⟨by rw[e];rfl,λm hm=>(by rw[e]at hm;cases hm),y⟩
    have hK:aF4 d m s=(I4 d s.thn (m+1)).bind λm=>I4 d s.els m:=by
     rw[aF4,if_neg];simp only[es2]at b1;have am:s.id=m+1:=by simpa using b2
     rintro(h|h|h|h)
     .exact b1 h
     .exact h am
     .rw[b3]at h;cases h
     .rw[b4]at h;cases h
    have az:m+1<=200:=by have:=ef7 b1;omega
    have aq:Z.heap[c]?=some (.cells #[.int .i64 (m+1)] 171 (0,0)):=(G.block c (ef5.1 r).1 id).trans r;have L:B8 (C1 Y λb=>b=c) (m8 Z):=D8 Q;have l5:=ld Z L;rw[V7]at J;simp only[D0,n8,n9,simprocAttr,F2];refine⟨G,?_⟩;simp only[n8,n9,simprocAttr,e0,e2,l5,C];refine t8 (bG8 d s.thn (m+1) vt _ c Z (by omega) L (F9 rfl) aq aE (by omega) (by omega) az) ?_;rintro u w6 ⟨rfl,aA,ak⟩;have z:=y.trans ak;cases ht:I4 d s.thn (m+1)with
    | none=>
     simp only[n8,n9,simprocAttr,Option.isSome_none];refine o7 results104 ?_;simp only[B3,simprocAttr];have e:=p (by rw[hK,ht];rfl);exact⟨by rw[e];rfl,λm hm=>(by rw[e]at hm;cases hm),z⟩
    | some m6=>
     have ar:=aA m6 ht;have aV:=bi1 d _ _ _ ht;have M:B8 (C1 Y λb=>b=c) (m8 w6):=D8 (Q.trans ak);simp only[n8,n9,simprocAttr,e0,e2,ld w6 M,C];refine t8 (bG8 d s.els m6 ve _ c w6 (by omega) M (F9 rfl) ar aC (by omega) (by omega) (by omega)) ?_;rintro u w7 ⟨rfl,aB,aL⟩;have A:=z.trans aL;cases he:I4 d s.els m6 with
     | none=>
      simp only[n8,n9,simprocAttr,Option.isSome_none];refine o7 results104 ?_;simp only[B3,simprocAttr];have e:=p (by rw[hK,ht];exact he);exact⟨by rw[e];rfl,λm hm=>(by rw[e]at hm;cases hm),A⟩
     | some m7=>
      have aW:=bi1 d _ _ _ he;simp only[n8,n9,simprocAttr,q];exact⟨(k+1,m7),by omega,by rw[H8 k (by have:=bU7 l;omega)],by omega,by rw[E,hK,ht];exact he,by omega,by omega,aB m7 he,A⟩
   .rintro rfl;simp only[n8,simprocAttr];refine o7 results104 ?_;simp only[B3,simprocAttr];rw[eg4]at g;have e:I4 (d+1) l n=some m:=by rw[bb2];exact g
    exact⟨by rw[e];rfl,λm' hm=>by rw[e]at hm;cases hm;exact I,X⟩
def cZ3:B6 prog 171 []=some (.agg #[.int .i64 0]):=by
 simp[B6,dH3,J9,Instr.fill]
def dD8(w:World):∃a b,(Instr.box 171 (.agg #[.int .i64 0])).run prog w = .ok (.pointer (some ⟨a,0,none⟩)) b/\o6 w b/\b.heap[a]?=some (.cells #[.int .i64 0] 171 (0,0))/\w.heap.size<=a:=
 ⟨_,_,rfl,o6.alloc _ _,ej0 w _,eg6 _⟩
def cD0(v:Value)(p:Pg)(w:World)(hv:SV (m8 w) v p)(a3:B7 p<=1000000):o9 prog 67 #[v] w λu E=>(u = .bool (M8 p)/\o6 w E):=by
 refine p9 [v] func67 rfl ?_;obtain⟨a,U,aa,hx,ha⟩:=Q4 hv (n7 _);obtain⟨vg,vp,hg,hp,ld,sd⟩:=ha.pg;have l1:=ld U (n7 _);have W:=hg.isS;have ad:=hg.vlen;have X:=hp.isS;have ae:=hp.vlen;have c1:decide ((16:Int)<((p.globals.length:Nat):Int)) = !decide (p.globals.length<=16):=by
  rw[<-decide_not];exact ek8.2 (by omega)
 have c2:decide ((16:Int)<((p.procs.length:Nat):Int)) = !decide (p.procs.length<=16):=by
  rw[<-decide_not];exact ek8.2 (by omega)
 cases h1:decide (p.globals.length<=16)
 .rw[h1]at c1;simp only[n8,n9,simprocAttr,aa,l1,W,ad,c1];refine o7 results67 ?_;simp only[B3,simprocAttr];exact⟨by rw[M8,h1];rfl,hx⟩
 cases h2:decide (p.procs.length<=16)
 .rw[h1]at c1;rw[h2]at c2;simp only[n8,n9,simprocAttr,aa,l1,W,ad,X,ae,c1,c2];refine o7 results67 ?_;simp only[B3,simprocAttr];exact⟨by rw[M8,h1,h2];rfl,hx⟩
 rw[h1]at c1;rw[h2]at c2;simp only[n8,n9,simprocAttr,aa,l1,W,ad,X,ae,c1,c2];refine E6 (aU2 vg p.globals _ hg (by have:=ef3 h1;omega)) ?_;cases h3:ai4 p.globals
 .simp only[n8,n9,simprocAttr];refine o7 results67 ?_;simp only[B3,simprocAttr];exact⟨by rw[M8,h1,h2,h3];rfl,hx⟩
 obtain⟨r,w3,aU,aG,aV,ar⟩:=dD8 U;have av:m8 U r=none:=bf0 ar;have hF:M8 p=(p.procs.foldlM (λn f=>X6 f n) 0).isSome:=by rw[M8,h1,h2,h3];rfl
 simp only[n8,n9,simprocAttr,cZ3,aU,ld w3 (b7 aG),X,ae];refine A6 [3,27,28] (σ:=Nat×Int) (λs f E=>f 29 = .int .i64 s.1/\s.1<=p.procs.length/\(p.procs.take s.1).foldlM (λn f=>X6 f n) 0=some s.2/\0<=s.2/\s.2<=200/\E.heap[r]?=some (.cells #[.int .i64 s.2] 171 (0,0))/\o8 (λb=>b=r) U E) (λs=>p.procs.length-s.1) (0,0) ?_ ?_
 .exact⟨rfl,eg3 _,by simp,by simp,by simp,aV,aG.weaken λ_ _ h=>h.elim⟩
 .rintro⟨k,m⟩ f w4 ⟨e3,G,am,_⟩ ⟨x,aZ,d,ax,ay,ab,ah⟩;simp only at x aZ d ax ay ab;have o:∀E,o8 (λb=>b=r) U E->o6 w E:=λE h=>hx.trans (o8.ext_of (o8.refl _) h λb Z=>by subst Z;exact ar);simp only[n8,n9,simprocAttr,x,am];refine y5 (λB=>?_) ?_
  .have ac:=hp.inS B;have aw:B8 (m8 U) (m8 w4):=H2 (n7 _) ah λb Z=>by subst Z;exact av
   have au:r<w4.heap.size:=(ef5.1 ab).1;have aS:∀b,b=r->b<w4.heap.size:=λb Z=>by subst Z;exact au
   obtain⟨sv,aD,J⟩:=F5 (P:=prog) (t:=75) hp aw (ef1 B) at8 at9 ar9 Q9;rw[Q9]at J;have D:=bs0 (λn f=>X6 f n) p.procs 0 B d;have C:=br9 (λn f=>X6 f n) p.procs 0 B d;have aF:ab0 p.procs[k]<=1000000:=ef9 (aw8 (eg2 B)) (by unfold B7 at a3;omega);generalize p.procs[k]=q at aD D C aF;obtain⟨b,wz,w5,Y,ag,aH,aT⟩:=dU1 (P:=prog) (T:=75) (N:=λb=>b=r) aD (dd7 aw λb Z=>by subst Z;exact av) aS dm7 rfl Q9;obtain⟨va,vv,vb,ve,L,af,a1,a2,aJ,_⟩:=aT.pr;have i:B8 (C1 w5 λb=>b=r) (m8 w5):=A8 _ _;have l5:=aJ w5 i;have Q:o8 (λb=>b=r) U w5:=ah.trans (aH.weaken λ_ _ h=>h.elim);have e:=o w5 Q;have H:=L.isS;have K:=L.vlen;have ao:=af.isS;have az:=af.vlen;have g:X6 q m=none->M8 p=false:=λh=>by rw[hF,C h];rfl
   unfold ab0 at aF;have z:decide ((8:Int)<((q.params.length:Nat):Int))=decide (8<q.params.length):=ek8.2 (by omega);have F:decide ((16:Int)<((q.vars.length:Nat):Int))=decide (16<q.vars.length):=ek8.2 (by omega);cases b1:decide (8<q.params.length)
   case true=>
    rw[b1]at z;simp only[n8,n9,y4,simprocAttr,x,G,ac,J,Y,ag,l5,H,K,z];refine o7 results67 ?_;simp only[B3,simprocAttr];exact⟨by rw[g (by rw[X6,if_pos (.inl (ef3 b1))])],e⟩
   rw[b1]at z;cases b2:decide (16<q.vars.length)
   case true=>
    rw[b2]at F;simp only[n8,n9,y4,simprocAttr,x,G,ac,J,Y,ag,l5,H,K,ao,az,z,F];refine o7 results67 ?_;simp only[B3,simprocAttr];exact⟨by rw[g (by rw[X6,if_pos (.inr (.inl (ef3 b2)))])],e⟩
   rw[b2]at F;simp only[n8,n9,y4,simprocAttr,x,G,ac,J,Y,ag,l5,H,K,ao,az,z,F];refine E6 (aO0 q.name _) ?_;cases b3:T8 q.name
   .simp only[n8,n9,simprocAttr];refine o7 results67 ?_;simp only[B3,simprocAttr];exact⟨by rw[g (by rw[X6,if_pos (.inr (.inr (.inl b3)))])],e⟩
   simp only[n8,n9,simprocAttr,l5];refine E6 (aU2 vv q.vars _ (A3.mono i af) (by have:=Z7 q.vars;omega)) ?_;cases b4:ai4 q.vars
   .simp only[n8,n9,simprocAttr];refine o7 results67 ?_;simp only[B3,simprocAttr];exact⟨by rw[g (by rw[X6,if_pos (.inr (.inr (.inr (.inl b4))))])],e⟩
   simp only[n8,n9,simprocAttr,l5];refine E6 (aU2 ve q.fin _ (A3.mono i a2) (by have:=Z7 q.fin;omega)) ?_;cases b5:ai4 q.fin
   .simp only[n8,n9,simprocAttr];refine o7 results67 ?_;simp only[B3,simprocAttr];exact⟨by rw[g (by rw[X6,if_pos (.inr (.inr (.inr (.inr (.inl b5)))))])],e⟩
   have bh:=ao9 q.params;simp only[n8,n9,simprocAttr,l5,H,K];refine A6 [3,5,27,28,29,62,63] (σ:=Nat) (λj f E=>f 64 = .int .i64 j/\j<=q.params.length/\(q.params.take j).all (λa=>T8 a.name)=true/\o6 w5 E) (λj=>q.params.length-j) 0 ?_ ?_
   .exact⟨rfl,eg3 _,by simp,o8.refl _⟩
   .rintro j f7 w7 ⟨g3,g5,aO,aP,an,aQ,aR,_⟩ ⟨V,bg,A,l⟩;rw[e3]at g3;rw[G]at aO;rw[am]at aP;rw[x]at an;have R:o8 (λb=>b=r) U w7:=Q.trans (l.weaken λ_ _ h=>h.elim);simp only[n8,n9,simprocAttr,V,aR];refine y5 (λI=>?_) ?_
    .have aY:=L.inS I;obtain⟨sa,aB,M⟩:=F5 (P:=prog) (t:=78) L (p7 i (b7 l)) (ef1 I) bJ1 bJ7 bv6 az8;rw[az8]at M;have aE:=aS7 (λa:Pa=>T8 a.name) q.params j I;have O:=eg2 I;generalize q.params[j]=y at aB aE O;obtain⟨c,wy,w8,ap,aC,aI,aq⟩:=aV7 (aB.mono (p7 i (b7 l))) (n7 _);obtain⟨a6,_⟩:=aq.pa;simp only[n8,n9,y4,simprocAttr,V,aQ,aY,M,ap,aC,a6 w8 (n7 _)];refine E6 (aO0 y.name _) ?_;cases b6:T8 y.name
     .simp only[n8,n9,simprocAttr];refine o7 results67 ?_;simp only[B3,simprocAttr];refine⟨by rw[g (by rw[X6,if_pos (.inr (.inr (.inr (.inr (.inr (aG8 (p:=λa:Pa=>T8 a.name) O b6))))))])],o _ (R.trans (aI.weaken λ_ _ h=>h.elim))⟩
     .simp only[n8,n9,simprocAttr,V];exact T4 (j+1) ⟨by rw[aE,A,b6];rfl,l.trans aI⟩
    .rintro rfl;rw[eg4]at A;have aW:w7.heap[r]?=some (.cells #[.int .i64 m] 171 (0,0)):=((aH.trans l).block r au id).trans ab;have l7:=aJ w7 (p7 i (b7 l));have aA:X6 q m=I4 12 q.body m:=by
      rw[X6,if_neg];rintro(h|h|h|h|h|h)
      .exact(ef7 b1) h
      .exact(ef7 b2) h
      .rw[b3]at h;cases h
      .rw[b4]at h;cases h
      .rw[b5]at h;cases h
      .rw[A]at h;cases h
     simp only[n8,n9,simprocAttr,g3,g5,l7];refine t8 (bG8 12 q.body m vb _ r w7 (by omega) (p7 i (b7 l)) (F9 rfl) aW a1 (by omega) ax ay) ?_;rintro u w9 ⟨rfl,a0,a4⟩;have S:=R.trans a4;cases hr:I4 12 q.body m with
     | none=>
      simp only[n8,n9,simprocAttr,Option.isSome_none];refine o7 results67 ?_;simp only[B3,simprocAttr];exact⟨by rw[g (by rw[aA,hr])],o _ S⟩
     | some m9=>
      have ba:=bi1 _ _ _ _ hr;simp only[n8,n9,simprocAttr,an];exact⟨(k+1,m9),by omega,by rw[H8 k (by have:=ef3 h2;omega)],by omega,by rw[D,aA,hr],by omega,by omega,a0 m9 hr,S⟩
  .rintro rfl;simp only[n8,simprocAttr];refine o7 results67 ?_;simp only[B3,simprocAttr];rw[eg4]at d;exact⟨by rw[hF,d];rfl,o _ ah⟩
def dv5(v:Value)(q:Pr)(w:World)(hv:SV (m8 w) v q)(hw:ab0 q<=1000000):o9 prog 107 #[v] w λu r=>(B0 (m8 w) r 9 u (bw7 q)/\o6 w r):=by
 refine p9 [v] func107 rfl ?_;obtain⟨a,L,E,o,V⟩:=bx6 hv (n7 _);obtain⟨va,vv,vb,vf,d,I,_,_,M,_⟩:=V.pr;have Y:=M L (n7 _);have B:=d.isS;have H:=d.vlen;have W:=ao9 q.params;have X:=Z7 q.vars;unfold ab0 at hw;simp only[n8,n9,simprocAttr,E,Y,B,H];refine A6 [1,7,8] (σ:=Nat×Value) (λs f r=>f 9 = .int .i64 s.1/\f 3=s.2/\s.1<=q.params.length/\B0 (m8 L) r 9 s.2 ((q.params.take s.1).map (·.name))/\o6 L r) (λs=>q.params.length-s.1) (0,.slice none 0 0) ?_ ?_
 .exact⟨rfl,rfl,eg3 _,by simpa using B0.nil _ _ _,o8.refl _⟩
 .rintro⟨k,u⟩ f w2 ⟨S,T,U,_⟩ ⟨A,z,G,j,c⟩;simp only at A z G j;simp only[n8,n9,simprocAttr,A,U];refine y5 (λh=>?_) ?_
  .have F:=d.inS h;obtain⟨sv,m,i⟩:=F5 (P:=prog) (t:=78) d (b7 c) (ef1 h) bJ1 bJ7 bv6 az8;rw[az8]at i;have n:(q.params.take (k+1)).map (·.name)=(q.params.take k).map (·.name)++[q.params[k].name]:=by
    rw[ef8 h,ei4];rfl
   generalize q.params[k]=y at m n;obtain⟨b,wz,w3,C,J,p,D⟩:=aV7 (m.mono (b7 c)) (n7 _);obtain⟨K,_⟩:=D.pa;have Z:=K w3 (n7 _);have l:=j.ext p;have g:=c.trans p;obtain⟨p1,N,w4,p2,p3,p4,p5⟩:=push (e:=31) az7 rfl l (x:=p6 y.name) (y:=y.name) rfl (by simp;omega) (by simp;omega) (b7 g);simp only[n8,n9,y4,simprocAttr,A,z,T,F,i,C,J,Z,p1,p2];exact nx4 (k+1,N) ⟨by rw[n];exact p3,l.ext2 g p4⟩
  .rintro rfl;rw[eg4]at j;obtain⟨N,w4,O,Q,R,c4⟩:=ar3 (P:=prog) (e:=31) az7 j I (b7 c) (by simp;omega) (by simp;omega) (b7 c);simp only[n8,n9,simprocAttr,z,S,M w2 (b7 c),O];exact o7 results107 ⟨Q.back o,o.trans (j.ext2 c R)⟩
def bo4(v:Value)(l:List A9)(w:World)(hv:R (m8 w) v l)(C:l.length<=1000000000):o9 prog 106 #[v] w λu i=>(u = .bool (ag3 l)/\i=w):=by
 refine p9 [v] func106 rfl ?_;have q:=hv.isS;have A:=hv.vcap;simp only[n8,n9,simprocAttr,q,hv.vlen];refine A6 [0,5,6] (σ:=Nat) (λk f i=>f 7 = .int .i64 k/\k<=l.length/\(l.take k).Nodup/\i=w) (λk=>l.length-k) 0 ?_ ?_
 .simp only[B3,simprocAttr];exact⟨by trivial,eg3 _,by simp,by trivial⟩
 .rintro k f i ⟨e0,t,x,_⟩ ⟨j,z,h,rfl⟩;simp only[n8,n9,simprocAttr,j,x];refine y5 (λc=>?_) ?_
  .have m:=hv.inS c;have n:=ldS hv (n7 _) c;have d:=ce1 hv (eg3 k) (Nat.le_of_lt c);rw[en9]at d;have s:decide ((k:Int)<=(vcap v:Int))=true:=by simp;omega
   have B:A3.sz A9=1:=rfl;rw[B]at d;simp only[n8,n9,y4,J0,simprocAttr,j,e0,t,m,n,q,s];refine E6 (S1 _ (l.take k) l[k] _ d (by rw[eg0];omega)) ?_;cases hq:(l.take k).contains l[k]
   .simp only[n8,n9,simprocAttr,j];refine T4 (k+1) ⟨?_,by trivial⟩;rw[ef8 c,ek2];refine⟨h,by simp,λa y b r=>?_⟩;simp only[eh2]at r;subst r;intro e;subst e;have:=eg7.2 y;rw[hq]at this;cases this
   .simp only[n8,simprocAttr];refine o7 results106 ?_;simp only[B3,simprocAttr];refine⟨?_,by trivial⟩;have:¬l.Nodup:=λo=>by
     have p:l=l.take k++(l[k]::l.drop (k+1)):=by
      have:=ej2 k l;rw[ej8 c]at this;exact this.symm
     have g:=o;rw[p,ek2]at g;exact g.2.2 _ (eg7.1 hq) _ List.mem_cons_self rfl
    simp[ag3,this]
  .rintro rfl;simp only[n8,simprocAttr];refine o7 results106 ?_;simp only[B3,simprocAttr];rw[eg4]at h;exact⟨by simp[ag3,h],by trivial⟩
end Go.Proofs.YtggahhenbbgffaaGreat

/- What the functions of the program do, for every input; plain facts. No condition, no statement of its own. Part 2. -/
import Derived.Ground.Names2Prog
import Derived.Ground.NamesProg
import Derived.Laws.StructEq
import Derived.Lib.SlicesCompact
import Derived.Shelf.SlSortCmp.NoneTotal
import Derived.Shelf.SlSortCmp.WholeK
import Derived.Shelf.Slices.Clone
import Derived.Shelf.Slices.CompactS
import Derived.Shelf.Slices.Empties
import Derived.Shelf.Slices.In.SortNone
import Derived.Shelf.Slices.SearchI
import Derived.Shelf.Sort.Plain
import Derived.Shelf.Spec.SlicesInsert
import Derived.Shelf.Spec.SlicesInsertGrow
import Derived.Sort.Walk0
import Derived.Test.YtpebpfiglfmegaaGreatProg
import Derived.WideKeyRuns
import Derived.Test.YtpebpfiglfmegaaGreatZ1
set_option maxRecDepth 1000000
set_option maxHeartbeats 8000000
set_option linter.unusedVariables false
set_option linter.unusedSimpArgs false
set_option linter.unnecessarySimpa false
set_option linter.defProp false
namespace Go.Proofs.YtpebpfiglfmegaaGreat
open Go Tryz
def et1:=@List.drop_length
def em0:=@List.forall_mem_cons
def ej6:=@of_decide_eq_false
def ej3:=@of_decide_eq_true
mutual
def ap8:∀(t:St) (k:Nat) (c d b a:Int),(ac7 t k c d b a).length=ae8 t
 | .mk id kind labels name proc x has args thn els,k,c,d,b,a=>by
  simp only[ac7,em1,ej2,J6,ae8];omega
def J6:∀(l:List St) (k:Nat) (c d b a:Int),(E5 l k c d b a).length=B2 l
 | [],_,_,_,_,_=>by simp[E5,B2]
 | t::l,k,c,d,b,a=>by
  simp only[E5,ej2,ap8,J6,B2]
end
def U6(t:St)(k:Nat)(b up nx a:Int):ac7 t k b up nx a =
  ⟨t,b,up,nx,a⟩::(E5 t.thn (k+1) b ((k:Int)+1) (if t.kind=6 then(k:Int)+1 else nx) (if t.kind=6 then(k:Int)+1 else a) ++
   E5 t.els (k+1+B2 t.thn) b ((k:Int)+1) (if t.kind=6 then(k:Int)+1 else nx) (if t.kind=6 then(k:Int)+1 else a)):=by
 cases t;simp only[ac7,J6,St.thn,St.els,St.kind];rfl
def dz5:∀(m:Nat) (l:List St) (o:It) (va v:Value) (h:Hp) (n:Nat) (vg vp T F E:Value) (L:List It) (lo D:List Int) (w:World),B2 l<=m->ShS h w n vg vp T F E L lo D->E2 h (i5 w)->R h v l->SV h va o->K0 l<=1000000->L.length+B2 l<=1000000 ->
  y5 prog 187 #[.pointer (some ⟨n,0,none⟩),v,va] w λu V=>(∃bL,ShS h V n vg vp bL F E (L++E5 l L.length o.proc o.up o.next o.loop) lo D/\p6 (λb=>b=n\/A5 T b) w V/\E7 w T bL):=by
 intro m
 induction m using Nat.strongRecOn with
 | ind m ih=>
 intro l o va v h n vg vp T F E L lo D w df hs hh hv aA di db;refine z6 [.pointer (some ⟨n,0,none⟩),v,va] func187 rfl ?_;have hS:=hv.isS;have hn:=hv.vlen;have a9:∀b,(b=n\/A5 T b)->b<w.heap.size:=λb g=>by
  rcases g with rfl|g
  .exact hs.lt
  .exact hs.oL.lt g
 obtain⟨a,w1,b4,an,ha⟩:=du7 (w:=w) (λb=>b=n\/A5 T b) aA a9;have cT:∀b,(b=n\/A5 T b)->b<w1.heap.size:=λb g=>eq5 (a9 b g) an.size;obtain⟨c5,cv,_,cC,_⟩:=L8.it aA ha;obtain⟨cF,_⟩:=L8.it_v aA ha;have cn:=hs.ext an;have aT:∀b,(b=n\/A5 T b)->h b=none:=λb g=>by
  rcases g with rfl|g
  .exact hs.free
  .exact hs.oL.free g
 have b8:E2 h (i5 w1):=p7 hh (b7 an);simp only[eS,simprocAttr,b4,hS,hn];refine E8 [0,1,5,11,12] (σ:=Nat×Value×List It) (λs f V=>f 13 = .int .i64 s.1/\s.1<=l.length/\ShS h V n vg vp s.2.1 F E (L++s.2.2) lo D/\p6 (λb=>b=n\/A5 T b) w1 V/\E7 w1 T s.2.1 /\
  E5 l L.length o.proc o.up o.next o.loop=s.2.2++E5 (l.drop s.1) (L.length+s.2.2.length) o.proc o.up o.next o.loop/\s.2.2.length+B2 (l.drop s.1)=B2 l) (λs=>l.length-s.1) (0,T,[]) ?_ ?_
 .simp only[B8,simprocAttr];exact⟨tt,ek1 _,by simpa using cn,p6.refl _,λb g=>.inl g,dP,dP⟩
 .rintro⟨k,B,j⟩ f w2 hk ⟨ab,ch,W,aZ,S,G,ac⟩;simp only at ab ch W S G ac;simp only[em0,B8,simprocAttr]at hk;obtain⟨e0,e1,e5,bT,bU,_⟩:=hk;simp only[eS,simprocAttr,ab,bU];refine A3 (λax=>?_) ?_
  .have cc:=hv.inS ax;have aw:E2 h (i5 w2):=G4 b8 aZ aT;obtain⟨sv,Y,bh⟩:=H1 (P:=prog) (t:=113) hv aw (ej0 ax) be4 be7 aO3 af3;rw[af3]at bh;have ad:l.drop k=l[k]::l.drop (k+1):=eo1 ax;have cy:=ar5 (ek0 ax);have cm:(l.drop (k+1)).length=l.length-(k+1):=eo9;generalize l[k]=t at Y ad cy;rw[ad]at G ac;rw[B2]at ac;have dd:=aC7 t;have dh:=X3 t;have aW:(L++j).length=L.length+j.length:=ej2;have C:∀b,(b=n\/A5 B b)->h b=none:=λb g=>by
    rcases g with rfl|g
    .exact hs.free
    .exact W.oL.free g
   have bZ:∀b,(b=n\/A5 B b)->b<w2.heap.size:=λb g=>by
    rcases g with rfl|g
    .exact W.lt
    .exact W.oL.lt g
   obtain⟨b,wz,H,b1,cs,ao,bc⟩:=dB0 (w:=w2) (λb=>b=n\/A5 B b) Y bZ;obtain⟨vl,ux,dv,vt,ve,dg,_,_,c0,cx,cw,a2,dt⟩:=L8.st Y bc;obtain⟨bD,_⟩:=L8.st_v Y bc;have z:=W.ext ao;have p:p6 (λb=>b=n\/A5 T b) w1 H:=aZ.trans (p6.up ao);have ce:E2 (D0 H λb=>b=n\/A5 B b) (i5 H):=B4 _ _;have b2:E2 (D0 w1 λb=>b=n\/A5 T b) (i5 H):=F3 p;have be:=F4 (P:=prog) (t:=157) (i:=2) (u:=B) z.cell rfl bt3;have b0:=z.oL.isS;have bk:=z.oL.vlen;rw[aW]at bk;have cb:IntKind.i64.wrap (((L.length+j.length:Nat):Int)+1)=((L.length+j.length+1:Nat):Int):=J2 _;obtain⟨tb,wy,w4,ba,bo,a0,cW,bs⟩:=ad2.new (w:=H) aA;have co:=z.ext a0;have cf:E2 (D0 H λb=>b=n\/A5 B b) (i5 w4):=p7 ce (b7 a0);obtain⟨w5,bp,aL,bz⟩:=bs.setS Y;have J:p6 (λb=>b=n\/A5 B b) H w5:=(p6.up a0).chain bz λi D g=>om
   have cp:ShS h w5 n vg vp B F E (L++j) lo D:=co.mod bz (by have:=z.lt;omega) (λb g=>by have:=z.oL.lt g;omega) (λb g=>by have:=z.oLo.lt g;omega) (λb g=>by have:=z.oHi.lt g;omega);have aU:IntKind.i64.wrap ((k:Int)+1)=((k+1:Nat):Int):=J2 k (by have:=X7 l;omega);have cg:E2 (D0 H λb=>b=n\/A5 B b) (i5 w5):=F3 J;have cB:=bD w5 cg;simp only[n8,n9,A0,simprocAttr,ab,e0,e1,e5,bT,cc,bh,b1,cs,be,b0,bk,cb,cF H b2,ba,bo,bD w4 cf,bp,hS,hn,aU];generalize hK:CW prog _ (ac6 1 (ae9 _ _))=K;have bC:∀(nx:Int) (f6:Fr) (I:World),nx=(if(l.drop (k+1)).length=0 then o.next else((L.length+j.length:Nat):Int)+1+(ae8 t:Nat))->ad2 h I tb ⟨t,o.proc,o.up,nx,o.loop⟩->p6 (λb=>b=tb) w5 I ->
     f6 0 = .pointer (some ⟨n,0,none⟩)->f6 5 = .pointer (some a)->f6 7 = .pointer (some b)->f6 8 = .int .i64 ((L.length+j.length+1:Nat):Int)->f6 9 = .pointer (some ⟨tb,0,none⟩)->f6 13 = .int .i64 k->K f6 I:=by
    intro nx f6 I ck am ap g0 g5 g7 g8 g9 a8;have cq:ShS h I n vg vp B F E (L++j) lo D:=cp.mod ap (by have:=z.lt;omega) (λb g=>by have:=z.oL.lt g;omega) (λb g=>by have:=z.oLo.lt g;omega) (λb g=>by have:=z.oHi.lt g;omega);have N:p6 (λb=>b=n\/A5 B b) H I:=J.chain ap λi D g=>om
    have A:=cq.ext (o6.drew I);obtain⟨iv,cd,cD⟩:=am.ld;have ca:E2 h (i5 I.drew):=by
     have h3:E2 h (i5 H):=p7 aw (b7 ao);exact p7 (G4 h3 N C) (b7 (o6.drew I))
    obtain⟨p1,aq,w7,p2,p3,p4,p5⟩:=push (e:=157) dV5 rfl A.oL (x:=iv) (y:=⟨t,o.proc,o.up,nx,o.loop⟩) cd.enc (by rw[aW];omega) (by rw[aW];omega) ca;have b5:w7.heap[n]?=some (.cells #[vg,vp,B,F,E] 159 (0,0)):=(p4.block n A.lt λg=>(A.d1 n g).1 rfl).trans A.cell;obtain⟨w8,s8,b6,a1⟩:=ad7 (P:=prog) (t:=157) (i:=2) (x:=aq) b5 dP (F7 p3.isS) (W8 p3.isS) (A4 dp7).choose_spec.1 (by rw[<-F0 (A4 dp7).choose_spec.1];exact dM2);have ak:ShS h w8 n vg vp aq F E ((L++j)++[⟨t,o.proc,o.up,nx,o.loop⟩]) lo D:=A.setL p4 p3 p5 a1 (by simpa using b6);have ct:H.heap.size<=I.drew.heap.size:=(N.trans (p6.up (o6.drew I))).size;have O:p6 (λb=>b=n\/A5 B b) H w8:=((N.trans (p6.up (o6.drew I))).chain p4 λi D g=>.inr g).chain a1 λi D g=>.inl g;have ay:p6 (λb=>b=n\/A5 T b) w1 w8:=p.chain O λi D g=>by
     rcases g with g|g
     .exact .inl g
     .rcases S i g with g|g
      .exact .inr g
      .omega
    have aH:∀i,i<H.heap.size->A5 aq i->A5 B i:=λi D g=>by
     rcases p5 i g with g|g
     .exact g
     .omega
    have br:tb<I.heap.size:=am.lt;have ah:¬A5 B tb:=λg=>by have:=z.oL.lt g;omega
    have cK:∀K f d w,F8 prog (λV=>p6 (A5 B) I.drew V) (Instr.loadAt 157 (.pointer (some ⟨n,2,none⟩))) K f d w=K (C5 f d B) w:=λK f d w=>B7 (w0:=I.drew) (p6.refl _) λV aY=>F4 (i:=2) ((aY.block n A.lt λg=>(A.d1 n g).1 rfl).trans A.cell) rfl bt3;have cL:∀K f d w,F8 prog (λV=>p6 (A5 B) I.drew V) (Instr.loadAt 156 (.pointer (some ⟨tb,0,none⟩))) K f d w=K (C5 f d iv) w:=λK f d w=>B7 (w0:=I.drew) (p6.refl _) λV aY=>(cD V (aY.block tb br ah)).1;rw[<-hK];simp only[n8,simprocAttr];refine C0 (λV=>p6 (A5 B) I.drew V) 8 (A7 [0,1,2,3,4,5,6,7]) ?_;simp only[D7,A7,n8,n9,simprocAttr,g0,g9,cK,cL,p1,p2,G0];refine⟨p6.up (o6.alloc _ _),p4,?_⟩;have bt:ad2 h w8 tb ⟨t,o.proc,o.up,nx,o.loop⟩:=((am.mod (p6.up (M:=A5 B) (o6.drew I)) ah).mod p4 ah).mod a1 (by have:=z.lt;omega);obtain⟨dk,_,bE⟩:=bt.ld;obtain⟨bv,b3,bd⟩:=cP4 h o.proc ((L.length+j.length+1:Nat):Int) nx o.loop;obtain⟨ib,wq,w9,bb,bq,bA,cX,aM⟩:=ad2.new (w:=w8) bd;have cr:=ak.ext bA;have U:p6 (λb=>b=n\/A5 B b) H w9:=O.trans (p6.up bA);simp only[eS,simprocAttr,g5,g7,g8,g9,s8,cC w8 (F3 ay),(bE w8 rfl).2,b3,bb,bq,a2 w9 (F3 U)];generalize bY:CW prog _ (ac6 1 (ae9 _ _))=K2;have aj:((L++j)++[(⟨t,o.proc,o.up,nx,o.loop⟩:It)]).length=L.length+j.length+1:=by simp[et9]
    have aF:¬A5 aq ib:=λg=>by have:=ak.oL.lt g;omega
    have aG:ib≠n:=λe=>by have:=ak.lt;omega
    have aP:∀(aD aC:Int) (f9:Fr) (Q:World),aD=(if t.kind=6 then((L.length+j.length:Nat):Int)+1 else nx)->aC=(if t.kind=6 then((L.length+j.length:Nat):Int)+1 else o.loop)->ad2 h Q ib ⟨cV6,o.proc,((L.length+j.length+1:Nat):Int),aD,aC⟩->p6 (λb=>b=ib) w9 Q ->
      f9 0 = .pointer (some ⟨n,0,none⟩)->f9 7 = .pointer (some b)->f9 10 = .pointer (some ⟨ib,0,none⟩)->f9 13 = .int .i64 k->K2 f9 Q:=by
     intro aD aC f9 Q bm bj al aN q0 q7 bJ cJ;have bn:=cr.mod aN (λe=>aG e.symm) (λc g e=>by subst e;exact aF g) (λc g e=>by subst e;have:=ak.oLo.lt g;omega) (λc g e=>by subst e;have:=ak.oHi.lt g;omega);have q:p6 (λb=>b=n\/A5 B b) H Q:=U.chain aN λi D g=>by have:=O.size;omega
     obtain⟨nv,cj,cE⟩:=al.ld;have bH:=a2 Q (F3 q);have bG:=(cE Q rfl).1;have h3:E2 h (i5 H):=p7 aw (b7 ao);have bf:E2 h (i5 Q):=G4 h3 q C;rw[<-bY];simp only[eS,simprocAttr,q0,q7,bJ,bH,bG];refine y4 (ih (B2 t.thn) om t.thn _ nv vt h n vg vp aq F E _ lo D Q (ek6 _) bn bf cx cj om (by rw[aj];omega)) ?_;rintro u Z ⟨bK,aJ,aO,ag⟩;rw[aj]at aJ;have bO:=q.size;have r:p6 (λb=>b=n\/A5 B b) H Z:=q.chain aO λi D g=>g.imp id (aH i D);have az:∀i,i<H.heap.size->A5 bK i->A5 B i:=λi D g=>by
      rcases ag i g with g|g
      .exact aH i D g
      .omega
     have aX:ad2 h Z ib ⟨cV6,o.proc,((L.length+j.length+1:Nat):Int),aD,aC⟩:=al.mod aO λg=>by
      rcases g with g|g
      .exact aG g
      .exact aF g
     obtain⟨cG,bl,bF⟩:=aX.ld;have bg:E2 h (i5 Z):=G4 h3 r C;have aI:∀X:List It,X.length=B2 t.thn->(((L++j)++[(⟨t,o.proc,o.up,nx,o.loop⟩:It)])++X).length=L.length+j.length+1+B2 t.thn:=λX hX=>by rw[ej2,aj,hX]
     simp only[eS,simprocAttr,q0,q7,bJ,a2 Z (F3 r),(bF Z rfl).1];refine y4 (ih (B2 t.els) om t.els _ cG ve h n vg vp bK F E _ lo D Z (ek6 _) aJ bg cw bl om (by rw[aI _ (J6 _ _ _ _ _ _)];omega)) ?_;rintro u bM ⟨cM,aK,bx,aV⟩;rw[aI _ (J6 _ _ _ _ _ _)]at aK;have bP:=r.size;have af:p6 (λb=>b=n\/A5 B b) H bM:=r.chain bx λi D g=>g.imp id (az i D);have ae:p6 (λb=>b=n\/A5 T b) w1 bM:=p.chain af λi D g=>by
      rcases g with g|g
      .exact .inl g
      .rcases S i g with g|g
       .exact .inr g
       .omega
     simp only[eS,simprocAttr,cJ];refine⟨(k+1,cM,j++ac7 t (L.length+j.length) o.proc o.up nx o.loop),om,by rw[J2 k (by have:=X7 l;omega)],om,?_,ae,?_,?_,?_⟩
     .simp only[];have e1:((L.length+j.length+1:Nat):Int)=((L.length+j.length:Nat):Int)+1:=om
      rw[U6,<-bm,<-bj,<-e1];have e2:=aK;simp only[el9,eu8,er6]at e2 ⊢;exact e2
     .simp only[];intro i g;rcases aV i g with g|g
      .rcases ag i g with g|g
       .rcases p5 i g with g|g
        .exact S i g
        .have:=p.size;exact .inr om
       .have:=p.size;exact .inr om
      .have:=p.size;exact .inr om
     .simp only[];rw[G,E5,<-ck];simp only[el9,ej2,et9]
     .simp only[];rw[ej2,ap8];omega
    refine A8 (λh6=>?_) (λh6=>?_)
    .have k6:=ej3 h6;obtain⟨wr,cl,bu,cz⟩:=aM.setN (((L.length+j.length+1:Nat):Int));obtain⟨wt,cu,bw,cA⟩:=bu.setLp (((L.length+j.length+1:Nat):Int));simp only[eS,simprocAttr,g8,cl,cu];refine aP ((L.length+j.length+1:Nat):Int) ((L.length+j.length+1:Nat):Int) _ _ (by rw[if_pos k6];omega) (by rw[if_pos k6];omega) bw (cz.trans cA) ?_ ?_ ?_ ?_<;>simp only[B8,↓reduceIte,Nat.reduceEqDiff,g0,g7,a8]
    .have k6:=ej6 h6;simp only[n8,simprocAttr];refine aP nx o.loop _ _ (by rw[if_neg k6]) (by rw[if_neg k6]) aM (p6.refl _) ?_ ?_ ?_ ?_<;>simp only[B8,↓reduceIte,Nat.reduceEqDiff,g0,g7,a8]
   refine A8 (λh6=>?_) (λh6=>?_)
   .have ci:¬(l.drop (k+1)).length=0:=by
     have:((k+1:Nat):Int)<(l.length:Nat):=by simpa using h6
     omega
    simp only[n8,simprocAttr,cB];refine B6 (bK0 _ t sv w5 (ek6 _) (Y.mono ?_) om) (λI ap=>?_)
    .exact G4 (p7 aw (b7 ao)) J C
    have bi:IntKind.i64.wrap (((L.length+j.length+1:Nat):Int)+((ae8 t:Nat):Int))=((L.length+j.length:Nat):Int)+1+(ae8 t:Nat):=by rw[M7 _ om];omega
    obtain⟨w7,k1,k2,k3⟩:=(aL.mod (p6.up (M:=λ_=>False) ap) id).setN (((L.length+j.length:Nat):Int)+1+(ae8 t:Nat));simp only[eS,simprocAttr,bi,k1];refine bC _ _ _ (by rw[if_neg ci]) k2 ((p6.up ap).trans k3) ?_ ?_ ?_ ?_ ?_ ?_<;>simp only[B8,↓reduceIte,Nat.reduceEqDiff,e0,e5,ab]
   .have hz:(l.drop (k+1)).length=0:=by
     have:¬((k+1:Nat):Int)<(l.length:Nat):=by simpa using h6
     omega
    simp only[n8,simprocAttr];refine bC _ _ _ (by rw[if_pos hz]) aL (p6.refl _) ?_ ?_ ?_ ?_ ?_ ?_<;>simp only[B8,↓reduceIte,Nat.reduceEqDiff,e0,e5,ab]
  .rintro rfl;simp only[n8,simprocAttr];refine bk5 results187 ?_;rw[et1]at G;simp only[E5,em5]at G;rw[G];exact⟨B,W,(p6.up an).trans aZ,λb g=>(S b g).imp id λh=>ej7 an.size h⟩
def bd6:∀(l m:List Pr) (s:Sh) (i:Nat),J1 s i (l++m)=J1 (J1 s i l) (i+l.length) m
 | [],m,s,i=>by simp[J1]
 | f::l,m,s,i=>by simp only[eu8,J1,bd6 l m,em1];congr 1;omega
def cr7(l:List Pr)(s:Sh){k:Nat}(a:k<l.length):J1 s 0 (l.take (k+1))=H9 (J1 s 0 (l.take k)) k l[k]:=by
 rw[ej8 a,bd6,ek3,eo8 (Nat.le_of_lt a)];simp only[J1,en0]
theorem bl3:∀(l:List Pr) (s:Sh) (i:Nat),(J1 s i l).p=s.p
 | [],s,i=>rfl
 | f::l,s,i=>by rw[J1,bl3 l];rfl
def aN8:∀(l:List Pr) (s:Sh) (i:Nat),(J1 s i l).l.length=s.l.length+(l.map λf=>B2 f.body).sum
 | [],s,i=>by simp[J1]
 | f::l,s,i=>by
  rw[J1,aN8 l];simp only[H9,ej2,J6,en8,eu6];omega
def br8:∀(l:List Pr) (s:Sh) (i:Nat),(J1 s i l).lo.length=s.lo.length+l.length/\(J1 s i l).hi.length=s.hi.length+l.length
 | [],s,i=>by simp[J1]
 | f::l,s,i=>by
  obtain⟨c,d⟩:=br8 l (H9 s i f) (i+1);have a:(H9 s i f).lo.length=s.lo.length+1:=by simp[H9]
  have b:(H9 s i f).hi.length=s.hi.length+1:=by simp[H9]
  rw[J1,em1];exact⟨om,om⟩
def dc4(a vp:Value):C1 prog 159 [(0,.agg (List.toArray [a,vp]))]=some (.agg #[a,vp,.slice none 0 0,.slice none 0 0,.slice none 0 0]):=by
 simp[C1,dK9,K7,Instr.fill,Value.cells]
def dH3(w:World)(c vp:Value):∃a b,(Instr.box 159 (.agg #[c,vp,.slice none 0 0,.slice none 0 0,.slice none 0 0])).run prog w = .ok (.pointer (some ⟨a,0,none⟩)) b/\o6 w b/\b.heap[a]?=some (.cells #[c,vp,.slice none 0 0,.slice none 0 0,.slice none 0 0] 159 (0,0))/\w.heap.size<=a:=
 ⟨_,_,rfl,o6.alloc _ _,em9 w _,ek6 _⟩
def ShS.at_{h:Hp}{w:World}{e:Nat}{d vp f b a:Value}{L:List It}{i g:List Int}{p:Pg}(s:ShS h w e d vp f b a L i g)(c:E2 h (i5 w))(k:R h d p.globals)(m:R h vp p.procs):At (i5 w) ⟨e,0,none⟩ (⟨p,L,i,g⟩:Sh):=by
 refine⟨[d,vp,f,b,a],⟨[d,vp],f,b,a,rfl,⟨d,vp,rfl,A6.mono c k,A6.mono c m⟩,s.oL.rw_ c,s.oLo.rw_ c,s.oHi.rw_ c⟩,λj u l=>?_⟩;rw[<-an1,add_lit,en0,er9 w e j _ 159 (0,0) s.cell];simpa using l
def ak8(h:Hp)(v:Value)(p:Pg)(w:World)(hv:SV h v p)(hh:E2 h (i5 w))(a6:C4 p<=1000000):y5 prog 119 #[v] w λu r=>(∃l L J Q n m,u = .pointer (some ⟨l,0,none⟩)/\ShS h r l L J Q n m (d9 p).l (d9 p).lo (d9 p).hi/\R h L p.globals/\R h J p.procs/\w.heap.size<=l/\(∀b,(A5 Q b\/A5 n b\/A5 m b)->w.heap.size<=b)/\o6 w r):=by
 refine z6 [v] func119 rfl ?_;obtain⟨a,z,aQ,X,ha⟩:=af7 (w:=w) (λ_=>False) hv (λ_ h=>h.elim);obtain⟨L,J,hg,hp,ld,_⟩:=L8.pg hv ha;obtain⟨lw,_⟩:=L8.pg_v hv ha;have a4:v = .agg (List.toArray [L,J]):=by
  obtain⟨cs,rfl,he⟩:=hv;obtain⟨u1,u2,rfl,h1,h2⟩:=ca0 he;obtain⟨bo,e2,hc⟩:=ha;obtain rfl:=aj2 e2;have k0:(Instr.loadAt 22 (.pointer (some a))).run prog z = .ok u1 z:=L9 (h:=D0 z λ_=>False) hc rfl X2 z (B4 _ _);have k1:(Instr.loadAt 23 (.pointer (some (a.add 1)))).run prog z = .ok u2 z:=B1 (h:=D0 z λ_=>False) hc (o:=1) rfl do0 z (B4 _ _);have e0:=((ld z (B4 _ _)).1).symm.trans k0;have e1:=((ld z (B4 _ _)).2).symm.trans k1;simp only[Result.ok.injEq,and_true]at e0 e1;subst e0;subst e1;rfl
 have ay:=lw z (B4 _ _);have M:E2 h (i5 z):=p7 hh (b7 X);have aK:=hp.isS;have aY:=hp.vlen;have bw:=am6 p.procs;have br:=bA9 p.procs;unfold C4 at a6;obtain⟨l,w2,aO,av,aR,E⟩:=dH3 z L J;have l2:=ld w2 (p7 (B4 _ _) (b7 av));have a0:ShS h w2 l L J (.slice none 0 0) (.slice none 0 0) (.slice none 0 0) [] [] []:=⟨aM1 M E,aR,B0.nil _ _ _,B0.nil _ _ _,B0.nil _ _ _,λb c=>absurd c D8,λb c=>absurd c D8,λb c=>absurd c D8⟩;rw[a4]at ay;simp only[eS,simprocAttr,aQ,ay,dc4,aO,l2,aK,aY];refine A9 [3,10,11] (σ:=Nat×Value×Value×Value) (λs f r=>f 12 = .int .i64 s.1/\s.1<=p.procs.length/\ShS h r l L J s.2.1 s.2.2.1 s.2.2.2 (J1 ⟨p,[],[],[]⟩ 0 (p.procs.take s.1)).l (J1 ⟨p,[],[],[]⟩ 0 (p.procs.take s.1)).lo (J1 ⟨p,[],[],[]⟩ 0 (p.procs.take s.1)).hi/\o6 z r/\(∀b,(A5 s.2.1 b\/A5 s.2.2.1 b\/A5 s.2.2.2 b)->z.heap.size<=b)) (λs=>p.procs.length-s.1) (0,.slice none 0 0,.slice none 0 0,.slice none 0 0) ?_ ?_
 .exact⟨rfl,ek1 _,by simpa[J1]using a0,av,λb c=>by rcases c with h|h|h<;>exact absurd h D8⟩
 .rintro⟨k,Q,n,m⟩ f w3 ⟨e3,aG,aH,_⟩ ⟨T,aj,B,ae,D⟩;simp only at T aj B D;simp only[eS,simprocAttr,T,aH];refine A3 (λU=>?_) ?_
  .have aZ:R h J p.procs:=hp;have aW:=hp.inS U;obtain⟨sv,ad,ak⟩:=H1 (P:=prog) (t:=68) aZ (p7 M (b7 ae)) (ej0 U) aD3 aD5 aw4 U0;rw[U0]at ak;have C:=cr7 p.procs ⟨p,[],[],[]⟩ U;have Z:=aN8 (p.procs.take k) ⟨p,[],[],[]⟩ 0;have A:=aN8 (p.procs.take (k+1)) ⟨p,[],[],[]⟩ 0;have ab:=br8 (p.procs.take k) ⟨p,[],[],[]⟩ 0;have bf:((p.procs.take (k+1)).map λf=>B2 f.body).sum<=(p.procs.map λf=>B2 f.body).sum:=by
    conv=>rhs;rw[<-en4 (k+1) p.procs,em6,List.sum_append]
    omega
   rw[C]at A;have aq:=az4 (ek0 U);rw[ek3,eo8 aj]at ab;generalize hG:J1 ⟨p,[],[],[]⟩ 0 (p.procs.take k)=G at B Z ab C A;generalize p.procs[k]=q at ad C aq A;simp only[H9,ej2,J6,ep7,en0]at Z A ab;obtain⟨b,wz,S,aM,a3,aw,aN⟩:=aY5 (w:=w3) (λb=>b=l\/A5 Q b\/A5 n b\/A5 m b) ad (λb c=>by
    rcases c with rfl|c|c|c
    .exact B.lt
    .exact B.oL.lt c
    .exact B.oLo.lt c
    .exact B.oHi.lt c)
   obtain⟨_,_,vb,_,_,_,a5,_,a9,_⟩:=L8.pr ad aN;have ac:=B.ext aw;have g:=ac.ext (o6.drew S);have N:o6 z S.drew:=ae.trans (aw.trans (o6.drew S));have aI:=ac.oL.isS;have aX:=ac.oL.vlen;have aC:∀K f d w,F8 prog (λr=>p6 (A5 n) S.drew r) (Instr.loadAt 45 (.pointer (some ⟨l,3,none⟩))) K f d w=K (C5 f d n) w:=λK f d w=>B7 (w0:=S.drew) (p6.refl _) λr H=>F4 (i:=3) ((H.block l g.lt λc=>(g.d2 l c).1 rfl).trans g.cell) rfl aj0;have bc:∀K f d w,F8 prog (λr=>p6 (A5 n) S.drew r) (Instr.loadAt 157 (.pointer (some ⟨l,2,none⟩))) K f d w=K (C5 f d Q) w:=λK f d w=>B7 (w0:=S.drew) (p6.refl _) λr H=>F4 (i:=2) ((H.block l g.lt λc=>(g.d2 l c).1 rfl).trans g.cell) rfl bt3;have ao:IntKind.i64.wrap ((G.l.length:Int)+1)=(G.l.length:Int)+1:=M7 _ om;obtain⟨p1,F,w5,p2,p3,p4,p5⟩:=push (e:=45) dE6 rfl g.oLo (x:=.int .i64 ((G.l.length:Int)+1)) (y:=(G.l.length:Int)+1) rfl om om (p7 M (b7 N));simp only[Value.cells]at p1 p2;have aS:w5.heap[l]?=some (.cells #[L,J,Q,n,m] 159 (0,0)):=(p4.block l g.lt λc=>(g.d2 l c).1 rfl).trans g.cell;obtain⟨w6,s6,aT,af⟩:=ad7 (P:=prog) (t:=45) (i:=3) (x:=F) aS dP (F7 p3.isS) (W8 p3.isS) (A4 ao7).choose_spec.1 (by rw[<-F0 (A4 ao7).choose_spec.1];exact bz1);have a1:ShS h w6 l L J Q F m G.l (G.lo++[(G.l.length:Int)+1]) G.hi:=g.setLo p4 p3 p5 af (by simpa using aT);have O:o6 z w6:=p6.ext_of (p6.ext_of N p4 λb c=>D b (.inr (.inl c))) af λb c=>by subst c;exact E
   have V:p6 (λb=>b=l\/A5 Q b\/A5 n b\/A5 m b) S w6:=((p6.up (o6.drew S)).chain p4 λi _ c=>.inr (.inr (.inl c))).chain af λi _ c=>.inl c;obtain⟨bv,aP,ah⟩:=cP3 h (k:Int) (-1);simp only[n8,n9,A0,simprocAttr,T,aG,aW,ak,aM,a3];refine C0 (λr=>p6 (A5 n) S.drew r) 13 (A7 [0,1,2,3,4,5,6,7,8,9,10,11,12]) ?_;simp only[D7,A7,n8,n9,simprocAttr,e3,aC,bc,aI,aX,ao,p1,p2,G0];refine⟨p6.up (o6.alloc _ _),p4,?_⟩;simp only[eS,simprocAttr,s6,e3,a9 w6 (F3 V),aP];refine y4 (dz5 (B2 q.body) q.body _ bv vb h l L J Q F m _ _ _ w6 (ek6 _) a1 (p7 M (b7 O)) a5 ah (by unfold ad1 at aq;omega) om) ?_;rintro u Y ⟨ag,W,a7,al⟩;simp only at W;have ar:o6 z Y:=p6.ext_of O a7 λb c=>by
    rcases c with rfl|c
    .exact E
    .exact D b (.inl c)
   have j:=W.ext (o6.drew Y);have I:o6 z Y.drew:=ar.trans (o6.drew Y);have aJ:=W.oL.isS;have am:=W.oL.vlen;rw[ej2,J6]at am;have aA:∀K f d w,F8 prog (λr=>p6 (A5 m) Y.drew r) (Instr.loadAt 45 (.pointer (some ⟨l,4,none⟩))) K f d w=K (C5 f d m) w:=λK f d w=>B7 (w0:=Y.drew) (p6.refl _) λr H=>F4 (i:=4) ((H.block l j.lt λc=>j.d3 l c rfl).trans j.cell) rfl aj0;have aB:∀K f d w,F8 prog (λr=>p6 (A5 m) Y.drew r) (Instr.loadAt 157 (.pointer (some ⟨l,2,none⟩))) K f d w=K (C5 f d ag) w:=λK f d w=>B7 (w0:=Y.drew) (p6.refl _) λr H=>F4 (i:=2) ((H.block l j.lt λc=>j.d3 l c rfl).trans j.cell) rfl bt3;have ap:IntKind.i64.wrap (((G.l.length+B2 q.body:Nat):Int)+1)=(G.l.length:Int)+(B2 q.body:Nat)+1:=by rw[M7 _ om];omega
   obtain⟨q1,aa,w8,q2,q3,q4,q5⟩:=push (e:=45) dE6 rfl j.oHi (x:=.int .i64 ((G.l.length:Int)+(B2 q.body:Nat)+1)) (y:=(G.l.length:Int)+(B2 q.body:Nat)+1) rfl om om (p7 M (b7 I));simp only[Value.cells]at q1 q2;have aU:w8.heap[l]?=some (.cells #[L,J,ag,F,m] 159 (0,0)):=(q4.block l j.lt λc=>j.d3 l c rfl).trans j.cell;obtain⟨w9,s9,aV,ax⟩:=ad7 (P:=prog) (t:=45) (i:=4) (x:=aa) aU dP (F7 q3.isS) (W8 q3.isS) (A4 ao7).choose_spec.1 (by rw[<-F0 (A4 ao7).choose_spec.1];exact bz1);have a2:=j.setHi q4 q3 q5 ax (by simpa using aV);have au:o6 z w9:=p6.ext_of (p6.ext_of I q4 λb c=>D b (.inr (.inr c))) ax λb c=>by subst c;exact E
   simp only[n8,simprocAttr];refine C0 (λr=>p6 (A5 m) Y.drew r) 13 (A7 [0,1,2,3,4,5,6,7,8,9,10,11,12]) ?_;simp only[D7,A7,n8,n9,simprocAttr,e3,aA,aB,aJ,am,ap,q1,q2,G0];refine⟨p6.up (o6.alloc _ _),q4,?_⟩;simp only[eS,simprocAttr,s9,T];refine V1 (k+1,ag,F,aa) ⟨?_,au,λb c=>?_⟩;rotate_left
   .rcases c with c|c|c
    .rcases al b c with h|h
     .exact D b (.inl h)
     .exact ej7 O.size h
    .rcases p5 b c with h|h
     .exact D b (.inr (.inl h))
     .exact ej7 N.size h
    .rcases q5 b c with h|h
     .exact D b (.inr (.inr h))
     .exact ej7 I.size h
   simp only[];rw[C];simp only[H9,J6];exact a2
  .rintro rfl;simp only[n8,simprocAttr,e3];refine o8 results119 ?_;simp only[B8,simprocAttr];rw[ek4]at B;have hF:d9 p=⟨p,(J1 ⟨p,[],[],[]⟩ 0 p.procs).l,(J1 ⟨p,[],[],[]⟩ 0 p.procs).lo,(J1 ⟨p,[],[],[]⟩ 0 p.procs).hi⟩:=by
    have:=bl3 p.procs ⟨p,[],[],[]⟩ 0;unfold d9;cases hq:J1 ⟨p,[],[],[]⟩ 0 p.procs;rw[hq]at this;simp only at this;rw[this]
   rw[hF];exact⟨l,L,J,Q,n,m,tt,B,hg,hp,ej7 X.size E,λb c=>ej7 X.size (D b c),X.trans ae⟩
def as2(v:Value)(p:Pg)(w:World)(hv:SV (i5 w) v p)(b:C4 p<=1000000):y5 prog 119 #[v] w λu c=>(∃a,u = .pointer (some a)/\At (i5 c) a (d9 p)/\o6 w c):=by
 refine Calls.mono (ak8 (i5 w) v p w hv (n7 _) b) ?_;rintro e c ⟨u,g,m,o,q,n,l,k,rfl,j,h,i,_,_,d⟩;refine⟨_,g,_,rfl,?_,d⟩;have f:d9 p=⟨p,(d9 p).l,(d9 p).lo,(d9 p).hi⟩:=by
  have:(d9 p).p=p:=by unfold d9;rw[bl3]
  cases hq:d9 p;rw[hq]at this;simp only at this;rw[this]
 rw[f];exact j.at_ (b7 d) h i
def aC9:G7 prog 22 9 1 16=true:=kr
def ldS{h:Hp}{v:Value}{l:List B3}{w:World}(hv:R h v l)(hw:E2 h (i5 w)){k:Nat}(a:k<l.length):(Instr.loadAt 9 (.pointer (some (G8 v k)))).run prog w = .ok (t8 l[k]) w:=
 O4 (P:=prog) (t:=9) hv hw (ej0 a) ao5
def bB0{α:Type}{p:α->Bool}{l:List α}(h:∀j (a:j<l.length),p l[j]=false):∀x∈l,p x=false:=λx b=>by
 obtain⟨j,a,rfl⟩:=ep2.1 b;exact h j a
def bC2(v:Value)(l:List B3)(x:B3)(w:World)(hv:R (i5 w) v l)(q:l.length<=1000000000):y5 prog 117 #[v,t8 x] w λu e=>(u = .int .i64 (ag3 (λy=>decide (x=y)) 0 l)/\e=w):=by
 refine z6 [v,t8 x] func117 rfl ?_;simp only[eS,simprocAttr,hv.isS,hv.vlen];refine A9 [0,1,6,7] (σ:=Nat) (λk f e=>f 8 = .int .i64 k/\k<=l.length/\(∀j (b:j<l.length),j<k->decide (x=l[j])=false)/\e=w) (λk=>l.length-k) 0 ?_ ?_
 .exact⟨rfl,ek1 _,λj _ h=>om,rfl⟩
 .rintro k f e ⟨e0,i,p,m,_⟩ ⟨g,o,d,rfl⟩;simp only[eS,simprocAttr,g,m];refine A3 (λc=>?_) ?_
  .simp only[n8,n9,A0,simprocAttr,g,e0,i,hv.inS c,ldS hv (n7 _) c];refine A8 (λa=>?_) (λa=>?_)
   .simp only[n8,simprocAttr];refine o8 results117 ?_;simp only[B8,simprocAttr];exact⟨by rw[aB0 (λy=>decide (x=y)) l 0 k c (λj b=>d j om b) a,en0],tt⟩
   .simp only[eS,simprocAttr,g];refine V1 (k+1) ⟨λj b n=>?_,tt⟩;rcases en2 j k with h|h
    .exact d j b h
    .obtain rfl:j=k:=om
     exact a
  .rintro rfl;simp only[n8,simprocAttr];refine o8 results117 ?_;simp only[B8,simprocAttr];exact⟨by rw[aI4 _ _ _ (bB0 λj b=>d j b b)],tt⟩
def S7(v:Value)(l:List B3)(x:B3)(w:World)(hv:R (i5 w) v l)(b:l.length<=1000000000):y5 prog 123 #[v,t8 x] w λu c=>(u = .bool (l.contains x)/\c=w):=by
 refine z6 [v,t8 x] func123 rfl ?_;simp only[eS,simprocAttr];refine F6 (bC2 v l x w hv b) ?_;have a:decide (0<=ag3 (λy=>decide (x=y)) 0 l)=l.contains x:=by
  rw[aI3,<-List.any_beq]
  congr 1
 simp only[eS,simprocAttr,a];exact o8 results123 ⟨rfl,rfl⟩
def aR0(a:Pr->Bool)(g:Nat)(d:Array Value)(v:Value)(l:List Pr)(w:World)(hb:ar7 prog g=true)(hv:R (i5 w) v l)(H:l.length<=1000000000)
  (E:∀(q:Value) (x:Pr) (c:World),o6 w c->x∈l->SV (i5 c) q x->Calls prog g ([q]++d.toList).toArray c λe z=>∃u,e = .returned u/\(u = .bool (a x)/\o6 c z)) :
  y5 prog 139 #[v,.func (.func g) #[] d] w λu c=>(u = .int .i64 (ag3 a 0 l)/\o6 w c):=by
 refine z6 [v,.func (.func g) #[] d] func139 rfl ?_;simp only[eS,simprocAttr,hv.isS,hv.vlen];refine A9 [0,1,6,7] (σ:=Nat) (λk f c=>f 8 = .int .i64 k/\k<=l.length/\(∀j (i:j<l.length),j<k->a l[j]=false)/\o6 w c) (λk=>l.length-k) 0 ?_ ?_
 .exact⟨rfl,ek1 _,λj _ h=>om,p6.refl _⟩
 .rintro k f F ⟨e0,A,G,B,_⟩ ⟨r,D,m,n⟩;simp only[eS,simprocAttr,r,B];refine A3 (λb=>?_) ?_
  .have s:=hv.inS b;obtain⟨q,y,o⟩:=H1 (P:=prog) (t:=68) hv (b7 n) (ej0 b) aD3 aD5 aw4 U0;rw[U0]at o;simp only[n8,n9,A0,simprocAttr,r,e0,A,s,o,er6];refine B6 (hb:=hb) (E q l[k] F n (ek0 b) (y.mono (b7 n))) (λI p=>?_);cases hq:a l[k]
   .simp only[eS,simprocAttr,r];refine V1 (k+1) ⟨λj i C=>?_,n.trans p⟩;rcases en2 j k with h|h
    .exact m j i h
    .obtain rfl:j=k:=om
     exact hq
   .simp only[n8,simprocAttr];refine o8 results139 ?_;simp only[B8,simprocAttr];exact⟨by rw[aB0 a l 0 k b (λj i=>m j om i) hq,en0],n.trans p⟩
  .rintro rfl;simp only[n8,simprocAttr];refine o8 results139 ?_;simp only[B8,simprocAttr];exact⟨by rw[aI4 _ _ _ (bB0 λj i=>m j i i)],n⟩
def aR1(a:B3->Bool)(g:Nat)(c:Array Value)(v:Value)(l:List B3)(w:World)(hb:ar7 prog g=true)(hv:R (i5 w) v l)(C:l.length<=1000000000)
  (z:∀(x:B3) (m:World),o6 w m->x∈l->Calls prog g ([t8 x]++c.toList).toArray m λe q=>∃u,e = .returned u/\(u = .bool (a x)/\o6 m q)) :
  y5 prog 188 #[v,.func (.func g) #[] c] w λu m=>(u = .int .i64 (ag3 a 0 l)/\o6 w m):=by
 refine z6 [v,.func (.func g) #[] c] func188 rfl ?_;simp only[eS,simprocAttr,hv.isS,hv.vlen];refine A9 [0,1,6,7] (σ:=Nat) (λk f m=>f 8 = .int .i64 k/\k<=l.length/\(∀j (d:j<l.length),j<k->a l[j]=false)/\o6 w m) (λk=>l.length-k) 0 ?_ ?_
 .exact⟨rfl,ek1 _,λj _ h=>om,p6.refl _⟩
 .rintro k f A ⟨e0,r,B,s,_⟩ ⟨p,y,i,n⟩;simp only[eS,simprocAttr,p,s];refine A3 (λb=>?_) ?_
  .simp only[n8,n9,A0,simprocAttr,p,e0,r,hv.inS b,ldS hv (b7 n) b,er6];refine B6 (hb:=hb) (z l[k] A n (ek0 b)) (λD o=>?_);cases hq:a l[k]
   .simp only[eS,simprocAttr,p];refine V1 (k+1) ⟨λj d t=>?_,n.trans o⟩;rcases en2 j k with h|h
    .exact i j d h
    .obtain rfl:j=k:=om
     exact hq
   .simp only[n8,simprocAttr];refine o8 results188 ?_;simp only[B8,simprocAttr];exact⟨by rw[aB0 a l 0 k b (λj d=>i j om d) hq,en0],n.trans o⟩
  .rintro rfl;simp only[n8,simprocAttr];refine o8 results188 ?_;simp only[B8,simprocAttr];exact⟨by rw[aI4 _ _ _ (bB0 λj d=>i j d d)],n⟩
def bf2(a:B3->Bool)(g:Nat)(b:Array Value)(v:Value)(l:List B3)(w:World)(hb:ar7 prog g=true)(hv:R (i5 w) v l)(f:l.length<=1000000000)
  (h:∀(x:B3) (c:World),o6 w c->x∈l->Calls prog g ([t8 x]++b.toList).toArray c λe d=>∃u,e = .returned u/\(u = .bool (a x)/\o6 c d)) :
  y5 prog 121 #[v,.func (.func g) #[] b] w λu c=>(u = .bool (l.any a)/\o6 w c):=by
 refine z6 [v,.func (.func g) #[] b] func121 rfl ?_;simp only[eS,simprocAttr];refine B6 (aR1 a g b v l w hb hv f h) (λj i=>?_);simp only[eS,simprocAttr,aI3 a l 0];exact o8 results121 ⟨rfl,i⟩
def bf1(a:Pr->Bool)(g:Nat)(b:Array Value)(v:Value)(l:List Pr)(w:World)(hb:ar7 prog g=true)(hv:R (i5 w) v l)(h:l.length<=1000000000)
  (i:∀(f:Value) (x:Pr) (c:World),o6 w c->x∈l->SV (i5 c) f x->Calls prog g ([f]++b.toList).toArray c λe d=>∃u,e = .returned u/\(u = .bool (a x)/\o6 c d)) :
  y5 prog 251 #[v,.func (.func g) #[] b] w λu c=>(u = .bool (l.any a)/\o6 w c):=by
 refine z6 [v,.func (.func g) #[] b] func251 rfl ?_;simp only[eS,simprocAttr];refine B6 (aR0 a g b v l w hb hv h i) (λk j=>?_);simp only[eS,simprocAttr,aI3 a l 0];exact o8 results251 ⟨rfl,j⟩
def et2:=@List.find?_eq_some_iff_getElem
def er2:=@List.mem_of_mem_take
def ed6:ar7 prog 140=true:=kr
def dC4(n:B3)(w:World):∃a c,(Instr.box 9 (t8 n)).run prog w = .ok (.pointer (some a)) c/\o6 w c/\∀b,o6 c b->(Instr.loadAt 9 (.pointer (some a))).run prog b = .ok (t8 n) b:=by
 refine⟨⟨w.heap.size,0,none⟩,w.alloc (.cells #[t8 n] 9),rfl,o6.alloc _ _,λb d=>?_⟩;exact F4 (i:=0) (cs:=#[t8 n]) (T:=9) ((d.block _ dP id).trans (em9 w _)) rfl ao5
def cB8(d:Value)(q:Pr)(n:B3)(a:Addr)(w:World)(hv:SV (i5 w) d q)(i:∀c,o6 w c->(Instr.loadAt 9 (.pointer (some a))).run prog c = .ok (t8 n) c):
  y5 prog 140 #[d,.pointer (some a)] w λu c=>(u = .bool (decide (q.name=n))/\o6 w c):=by
 refine z6 [d,.pointer (some a)] func140 rfl ?_;obtain⟨b,f,h,e,g⟩:=bA7 hv (n7 _);obtain⟨_,_,_,_,_,_,_,_,j,_⟩:=g.pr;simp only[eS,simprocAttr,h,j f (n7 _),i f e];exact o8 results140 ⟨rfl,e⟩
def aC5(a:Addr)(s:Sh)(n:B3)(w:World)(y:At (i5 w) a s)(r:s.p.procs.length<=1000000000):y5 prog 85 #[.pointer (some a),t8 n] w λu k=>(u = .int .i64 (s.pr n)/\o6 w k):=by
 refine z6 [.pointer (some a),t8 n] func85 rfl ?_;obtain⟨I,C,B,E,t,p,d,G,H⟩:=y.sh;obtain⟨J,D,F,v,j,z⟩:=d.pg;obtain⟨b,m,o,g,e⟩:=dC4 n w;simp only[eS,simprocAttr,o,j m (b7 g)];refine B6 (aR0 (λq=>decide (q.name=n)) 140 #[.pointer (some b)] D s.p.procs m ed6 (A6.mono (b7 g) v) r
  (λA x k h _ f=>cB8 A x n b k f λl c=>e l (h.trans c))) (λK i=>?_)
 simp only[n8,simprocAttr];exact o8 results85 ⟨rfl,g.trans i⟩
def ch2{α:Type}[A6 α]{h:Hp}{v:Value}{xs:List α}(D:R h v xs){i j:Nat}(o:i<=j)(B:j<=xs.length):R h (reS v i j (A6.sz α)) ((xs.take j).drop i):=by
 obtain⟨a,n,c,s,I,H,F,e,m⟩:=D;simp only[eu7,and_true]at s;subst s;have b:xs=xs.take i++((xs.take j).drop i++xs.drop j):=by
  have l:xs.take j=xs.take i++(xs.take j).drop i:=by
   have:=en4 i (xs.take j);rw[List.take_take,eo8 o]at this;exact this.symm
  rw[<-el9,<-l,en4]
 rw[b]at e;obtain⟨w,E,rfl,l,A⟩:=aa6 _ _ e;obtain⟨g,x,rfl,r,G⟩:=aa6 _ _ A;have f:=O2 l;rw[ek3,eo8 om]at f;have d:((xs.take j).drop i).length=j-i:=by rw[eo9,ek3,eo8 B]
 refine⟨_,j-i,c-i,rfl,d.symm,om,g,r,λk u p=>?_⟩;have q:(w++(g++x))[i*A6.sz α+k]?=some u:=by
  rw[eo3 om,f,Nat.add_sub_cancel_left,eo2 (ej5.1 p).1];exact p
 obtain⟨t,y,z⟩:=m _ u q;subst y;have C:i<j:=by
  rcases en2 i j with h|h
  .exact h
  .have:g.length=0:=by rw[O2 r,d,show j-i=0 by omega,Nat.zero_mul]
   have:=(ej5.1 p).1;omega
 refine⟨t.add (i*A6.sz α),?_,by rw[Addr.add_add'];exact z⟩;rw[if_neg om];rfl
structure bM9 (s:Sh) (i:Nat) (x y:Nat):Prop where
 lo:s.lo[i]?=some ((x:Int)+1)
 hi:s.hi[i]?=some ((y:Int)+1)
 le:x<=y
 len:y<=s.l.length
 fit:s.l.length<=1000000
def bM9.of_{s:Sh}{i x y:Nat}(h:bM9 s i x y):s.of i=(s.l.take y).drop x:=by
 unfold Sh.of atI;simp only[el5,List.getD,h.lo,h.hi,eo5]
 congr 1
 .omega
 .congr 1;omega
def ldI{h:Hp}{v:Value}{l:List Int}{w:World}(hv:R h v l)(hw:E2 h (i5 w)){k:Nat}{x:Int}(a:l[k]?=some x):(Instr.loadAt 3 (.pointer (some (G8 v k)))).run prog w = .ok (.int .i64 x) w:=
 O4 (P:=prog) (t:=3) hv hw a K1
def bl2(a:Addr)(s:Sh)(i x y:Nat)(w:World)(z:At (i5 w) a s)(c:bM9 s i x y):y5 prog 124 #[.pointer (some a),.int .i64 i] w λu b=>(R (i5 b) u (s.of i)/\o6 w b):=by
 refine z6 [.pointer (some a),.int .i64 i] func124 rfl ?_;obtain⟨D,n,m,l,k,g,v,F,C⟩:=z.sh;have e:∀b,o6 w.drew b->E2 (i5 w) (i5 b):=λb h=>b7 ((o6.drew w).trans h);have A:∀K f d w0,F8 prog (λb=>o6 w.drew b) (Instr.loadAt 3 (.pointer (some (G8 n i)))) K f d w0=K (C5 f d (.int .i64 ((x:Int)+1))) w0:=λK f d w0=>B7 (w0:=w.drew) (p6.refl _) λb h=>ldI k (e b h) c.lo;have B:∀K f d w0,F8 prog (λb=>o6 w.drew b) (Instr.loadAt 3 (.pointer (some (G8 m i)))) K f d w0=K (C5 f d (.int .i64 ((y:Int)+1))) w0:=λK f d w0=>B7 (w0:=w.drew) (p6.refl _) λb h=>ldI g (e b h) c.hi;have E2:=c.le;have j:=c.len;have o:=c.fit;have r:IntKind.i64.wrap ((x:Int)+1-1)=(x:Int):=by rw[M7 _ om];omega
 have t:IntKind.i64.wrap ((y:Int)+1-1)=(y:Int):=by rw[M7 _ om];omega
 have E:=l.vcap;have p:decide ((x:Int)<=(y:Int))=true:=by simp;omega
 have q:decide ((y:Int)<=(vcap D:Int))=true:=by simp;omega
 simp only[eS,simprocAttr];refine C0 (λb=>o6 w.drew b) 22 (A7 [0,1,2,3,4,5,6,7,8,9,10,11,12,13,14,15,16,17,18,19,20,21]) ?_;simp only[D7,A7,n8,n9,A0,M4,simprocAttr,C (λb=>o6 w.drew b) w.drew (p6.refl _) e,k.inS (ej5.1 c.lo).1,g.inS (ej5.1 c.hi).1,A,B,r,t,l.isS,p,q];refine o8 results124 ⟨?_,o6.drew w⟩;rw[c.of_];exact A6.mono (b7 (o6.drew w)) (ch2 l E2 j)
def cr6(a:Addr)(s:Sh)(i x y:Nat)(w:World)(r:At (i5 w) a s)(c:bM9 s i x y):y5 prog 254 #[.pointer (some a),.int .i64 i] w λu b=>(u = .int .i64 (s.first i)/\o6 w b):=by
 refine z6 [.pointer (some a),.int .i64 i] func254 rfl ?_;obtain⟨H,o,n,E,g,j,q,B,D⟩:=r.sh;have e:∀b,o6 w.drew b->E2 (i5 w) (i5 b):=λb h=>b7 ((o6.drew w).trans h);have C:=D (λb=>o6 w.drew b) w.drew (p6.refl _) e;have A:=B w.drew (e _ (p6.refl _));have k:=g.inS (ej5.1 c.lo).1;have m:=j.inS (ej5.1 c.hi).1;have t:∀K f d w0,F8 prog (λb=>o6 w.drew b) (Instr.loadAt 3 (.pointer (some (G8 o i)))) K f d w0=K (C5 f d (.int .i64 ((x:Int)+1))) w0:=λK f d w0=>B7 (w0:=w.drew) (p6.refl _) λb h=>ldI g (e b h) c.lo;have v:∀K f d w0,F8 prog (λb=>o6 w.drew b) (Instr.loadAt 3 (.pointer (some (G8 n i)))) K f d w0=K (C5 f d (.int .i64 ((y:Int)+1))) w0:=λK f d w0=>B7 (w0:=w.drew) (p6.refl _) λb h=>ldI j (e b h) c.hi;have z:=ldI g (e _ (p6.refl _)) c.lo;have p:s.first i=if(x:Int)+1<(y:Int)+1 then(x:Int)+1 else -1:=by
  unfold Sh.first atI;simp only[el5,List.getD,c.lo,c.hi,eo5]
 generalize F:(x:Int)+1=X at *;generalize G:(y:Int)+1=Y at *;simp only[eS,simprocAttr];refine C0 (λb=>o6 w.drew b) 15 (A7 [0,1,2,3,4,5,6,7,8,9,10,11,12,13,14]) ?_;simp only[D7,A7,n8,n9,A0,simprocAttr,C,k,m,t,v];refine A8 (λl=>?_) (λl=>?_)
 .simp only[n8,n9,A0,simprocAttr,A,k,z];refine o8 results254 ?_;simp only[B8,simprocAttr];exact⟨by rw[p,if_pos (ej3 l)],o6.drew w⟩
 .simp only[n8,simprocAttr];refine o8 results254 ?_;simp only[B8,simprocAttr];exact⟨by rw[p,if_neg (ej6 l)],o6.drew w⟩
def cp2(o:Option Int):Value:=match o with
 | some i=>.tuple #[.int .i64 i,.bool true]
 | none=>.tuple #[.int .i64 0,.bool false]
def cr5(a:Addr)(s:Sh)(i x y:Nat)(e:B3)(w:World)(hs:At (i5 w) a s)(m:bM9 s i x y)(A:i<s.p.procs.length)(V:∀it∈s.l,V7 it.s<=1000000)(U:∀f∈s.p.procs,ad1 f<=1000000):
  y5 prog 191 #[.pointer (some a),.int .i64 i,t8 e] w λu Z=>(u=cp2 (s.at i e)/\o6 w Z):=by
 refine z6 [.pointer (some a),.int .i64 i,t8 e] func191 rfl ?_;obtain⟨vL,ay,aw,hL,ap,ak,L,ld,sd⟩:=hs.sh;obtain⟨vg,vp,hg,hp,X,au⟩:=L.pg;have D:∀it∈s.of i,it∈s.l:=λit h=>by
  rw[m.of_]at h;exact er2 (ev1 h)
 have C:(s.of i).length<=1000000:=by
  rw[m.of_,eo9,ek3];have:=m.fit;omega
 simp only[eS,simprocAttr];refine y4 (bl2 a s i x y w hs m) ?_;rintro u w1 ⟨E,d⟩;generalize o:s.of i=l at E D C;simp only[eS,simprocAttr,E.isS,E.vlen];refine A9 [0,1,2,12,13] (σ:=Nat) (λk f Z=>f 14 = .int .i64 k/\k<=l.length/\(∀j (q:j<l.length),j<k->l[j].s.labels.contains e=false)/\o6 w1 Z) (λk=>l.length-k) 0 ?_ ?_
 .exact⟨rfl,ek1 _,λj _ h=>om,p6.refl _⟩
 .rintro k f w2 ⟨e0,e1,e2,I,J,_⟩ ⟨p,am,r,n⟩;simp only[eS,simprocAttr,p,J];refine A3 (λg=>?_) ?_
  .have N:=E.inS g;obtain⟨sv,R,B⟩:=H1 (P:=prog) (t:=156) E (b7 n) (ej0 g) af2 af4 ac9 L4;rw[L4]at B;have G:=V _ (D _ (ek0 g));rw[X3]at G;have an:=ac0 l[k].s.labels;obtain⟨b,wz,w3,K,Q,H,M⟩:=ax9 (R.mono (b7 n)) (n7 _);obtain⟨v,_,_⟩:=M.it;obtain⟨vl,_,_,_,T,_,_,_,_,Y,_⟩:=v.st;have l3:=Y w3 (n7 _);simp only[n8,n9,A0,simprocAttr,p,e2,I,N,B,K,Q,l3];refine F6 (S7 vl l[k].s.labels e w3 T om) ?_;cases hq:l[k].s.labels.contains e
   .simp only[eS,simprocAttr,p];refine V1 (k+1) ⟨λj q al=>?_,n.trans H⟩;rcases en2 j k with h|h
    .exact r j q h
    .obtain rfl:j=k:=om
     exact hq
   .simp only[eS,simprocAttr,l3];refine U5 results191 ?_;simp only[B8,simprocAttr];refine⟨?_,d.trans (n.trans H)⟩;have c:l.find? (λit=>it.s.labels.contains e)=some l[k]:=et2.2 ⟨hq,k,g,rfl,λj q=>by rw[r j om q];rfl⟩;rw[Sh.at,o,c];rfl
  .rintro rfl;have c:l.find? (λit=>it.s.labels.contains e)=none:=es7.2 λit O=>by
    obtain⟨j,q,rfl⟩:=ep2.1 O;rw[r j q q];simp
   have hA:s.at i e=if(s.fn i).fin.contains e then some (-1)else none:=by rw[Sh.at,o,c]
   have z:s.p.procs[i]?=some (s.fn i):=by
    unfold Sh.fn;rw[el5,List.getD,ej0 A];rfl
   have F:=U _ (el0 z);unfold ad1 at F;have ao:=ac0 (s.fn i).fin;obtain⟨_,_,_,vf,_,_,_,S,W,_⟩:=(hp.at_ z).pr;have lp:=X w2 (b7 (d.trans n));have lf:=W w2 (b7 (d.trans n));have hz:A6.sz Pr=5:=rfl;rw[hz]at lf;simp only[n8,n9,A0,simprocAttr,e0,e1,e2,lp,lf,hp.inS A];refine F6 (S7 vf (s.fn i).fin e w2 (A6.mono (b7 (d.trans n)) S) om) ?_;cases hq:(s.fn i).fin.contains e
   .simp only[n8,simprocAttr];exact U5 results191 ⟨by rw[hA,hq];rfl,d.trans n⟩
   .simp only[n8,simprocAttr];exact U5 results191 ⟨by rw[hA,hq];rfl,d.trans n⟩
def bJ9:∀(l:List Pr) (s:Sh) (i:Nat),∃L b a,J1 s i l=⟨s.p,s.l++L,s.lo++b,s.hi++a⟩
 | [],s,i=>⟨[],[],[],by simp[J1]⟩
 | f::l,s,i=>by
  obtain⟨L,b,a,e⟩:=bJ9 l (H9 s i f) (i+1);refine⟨E5 f.body s.l.length i 0 (-1) 0++L,((s.l.length:Int)+1)::b,((s.l.length:Int)+(B2 f.body:Nat)+1)::a,?_⟩;rw[J1,e];simp[H9,J6]
def dm2(p:Pg)(i:Nat)(c:i<p.procs.length):∃x:Nat,(d9 p).lo[i]?=some ((x:Int)+1)/\(d9 p).hi[i]?=some ((x:Int)+(B2 p.procs[i].body:Nat)+1) /\
  ((d9 p).l.drop x).take (B2 p.procs[i].body)=E5 p.procs[i].body x i 0 (-1) 0/\x+B2 p.procs[i].body<=(d9 p).l.length:=by
 have b:p.procs=p.procs.take i++(p.procs[i]::p.procs.drop (i+1)):=by
  have:=en4 i p.procs;rw[eo1 c]at this;exact this.symm
 obtain⟨G,f⟩:∃G,J1 ⟨p,[],[],[]⟩ 0 (p.procs.take i)=G:=⟨_,rfl⟩;have a:=br8 (p.procs.take i) ⟨p,[],[],[]⟩ 0;rw[f,ek3,eo8 (Nat.le_of_lt c)]at a;simp only[ep7,en0]at a;obtain⟨L,h,d,e⟩:=bJ9 (p.procs.drop (i+1)) (H9 G i p.procs[i]) (i+1);have g:d9 p=⟨(H9 G i p.procs[i]).p,(H9 G i p.procs[i]).l++L,(H9 G i p.procs[i]).lo++h,(H9 G i p.procs[i]).hi++d⟩:=by
  rw[<-e];unfold d9
  conv=>lhs;rw[b]
  rw[bd6,f,ek3,eo8 (Nat.le_of_lt c),J1,en0]
 rw[g];refine⟨G.l.length,?_,?_,?_,?_⟩
 .simp only[H9,el9];rw[eo3 om,a.1];simp
 .simp only[H9,el9];rw[eo3 om,a.2,J6];simp
 .simp only[H9,el9];rw[List.drop_left,<-J6 p.procs[i].body G.l.length i 0 (-1) 0,es9]
 .simp only[H9,ej2,J6];omega
def az0(p:Pg):(d9 p).l.length=bz8 p:=by
 unfold d9 bz8;rw[aN8];simp
def N7(p:Pg):(d9 p).p=p:=by
 unfold d9;rw[bl3]
def bZ6(p:Pg):3*bz8 p<=C4 p:=by
 have:=bA9 p.procs;unfold C4 bz8;omega
def ab9(p:Pg)(hw:C4 p<=1000000)(i:Nat)(f:i<p.procs.length):∃x:Nat,bM9 (d9 p) i x (x+B2 p.procs[i].body)/\(d9 p).of i=E5 p.procs[i].body x i 0 (-1) 0:=by
 obtain⟨x,b,c,d,e⟩:=dm2 p i f;have g:=az0 p;have h:=bZ6 p;have a:bM9 (d9 p) i x (x+B2 p.procs[i].body):=⟨b,by rw[c];congr 1,om,e,om⟩;refine⟨x,a,?_⟩;rw[a.of_,List.drop_take,Nat.add_sub_cancel_left];exact d
mutual
def cR7:∀(t:St) (k:Nat) (c d b a:Int),∀it∈ac7 t k c d b a,V7 it.s<=V7 t
 | .mk id kind labels name proc x has args thn els,k,c,d,b,a,it,h=>by
  rw[U6]at h;rcases ek9.1 h with rfl|h
  .exact ek6 _
  .rw[V7];rcases ej9.1 h with h|h
   .have:=aL9 thn _ _ _ _ _ it h;omega
   .have:=aL9 els _ _ _ _ _ it h;omega
def aL9:∀(l:List St) (k:Nat) (c d b a:Int),∀it∈E5 l k c d b a,V7 it.s<=K0 l
 | [],_,_,_,_,_,it,h=>by simp[E5]at h
 | t::l,k,c,d,b,a,it,h=>by
  rw[E5]at h;rw[K0];rcases ej9.1 h with h|h
  .have:=cR7 t _ _ _ _ _ it h;omega
  .have:=aL9 l _ _ _ _ _ it h;omega
end
def bV7:∀(l:List Pr) (s:Sh) (i:Nat) (W:Nat),(∀it∈s.l,V7 it.s<=W)->(∀f∈l,K0 f.body<=W)->∀it∈(J1 s i l).l,V7 it.s<=W
 | [],s,i,W,h1,h2,it,h=>h1 it h
 | f::l,s,i,W,h1,h2,it,h=>by
  rw[J1]at h;refine bV7 l _ _ W (λit h=>?_) (λg a=>h2 g (ep3 _ a)) it h;simp only[H9]at h;rcases ej9.1 h with h|h
  .exact h1 it h
  .exact ej7 (aL9 _ _ _ _ _ _ it h) (h2 f dP)
def ao1(p:Pg)(hw:C4 p<=1000000):∀it∈(d9 p).l,V7 it.s<=1000000:=by
 refine bV7 _ _ _ _ (λit h=>by cases h) λf a=>?_;have:=az4 a;unfold C4 at hw;unfold ad1 at this;omega
def aC6(p:Pg)(hw:C4 p<=1000000):∀f∈p.procs,ad1 f<=1000000:=λf a=>by
 have:=az4 a;unfold C4 at hw;omega
def cm0{α β:Type}(g:α->β)(p:β->Bool):∀(l:List α) (i:Nat),ag3 p i (l.map g)=ag3 (λx=>p (g x)) i l
 | [],i=>rfl
 | x::l,i=>by simp only[en8,ag3,cm0 g p l]
def cz5{α:Type}{p q:α->Bool}(h:∀x,p x=q x)(l:List α)(i:Nat):ag3 p i l=ag3 q i l:=by
 rw[show p=q from funext h]
def eq7:=@List.eq_of_mem_replicate
def em4:=@List.mem_append_left
def en7:=@List.mem_append_right
def es0:=@List.mem_or_eq_of_mem_set
def eq1:=@List.pairwise_cons
def E3(nx:List (List Int))(a:Int):List Int:=if 0<=a/\a<nx.length then nx.getD a.toNat []else[]
def I9(n:Nat)(a:Int):Bool:=decide (0<=a)&&decide (a<n)
def B5{n:Nat}{a:Int}:I9 n a=true↔0<=a/\a<n:=by simp[I9]
def bk6{nx:List (List Int)}{a:Int}(h:I9 nx.length a=false):E3 nx a=[]:=by
 unfold E3;rw[if_neg (λb=>by rw[B5.2 b]at h;cases h)]
def ax7{nx:List (List Int)}{a:Int}(h:I9 nx.length a=true):nx[a.toNat]?=some (E3 nx a)/\a.toNat<nx.length:=by
 have b:=B5.1 h;unfold E3;rw[if_pos b];have:a.toNat<nx.length:=om
 exact⟨by simp[List.getD,this],this⟩
def aC3{nx:List (List Int)}{a:Int}(h:I9 nx.length a=true):E3 nx a∈nx:=el0 (ax7 h).1
def bi1(l:List Int)(x:Int):List Int:=l.take (l.countP (· < x))++x::l.drop (l.countP (· < x))
def av7(nx:List (List Int))(a b:Int):Bool:=I9 nx.length a&&I9 nx.length b && !(E3 nx a).contains b
def cv6(nx:List (List Int))(a b:Int):List (List Int):=if av7 nx a b then nx.set a.toNat (bi1 (E3 nx a) b)else nx
def cv7(nx c:List (List Int))(a b:Int):List (List Int):=if av7 nx a b then c.set b.toNat (bi1 (E3 c b) a)else c
def dx2{y x:Int}{l:List Int}(h:y<x):bi1 (y::l) x=y::bi1 l x:=by
 simp[bi1,h]
def cj2{l:List Int}{x:Int}(h:∀y∈l,x<=y):l.countP (· < x)=0:=by
 rw[List.countP_eq_zero];intro y a;have:=h y a;simp;omega
def dx1{y x:Int}{l:List Int}(h:x<=y)(b:(y::l).Pairwise (· < ·)):bi1 (y::l) x=x::y::l:=by
 have:=cj2 (l:=y::l) (x:=x) (by
  intro z a;rcases ek9.1 a with rfl|a
  .exact h
  .have:=(eq1.1 b).1 z a;omega)
 unfold bi1;rw[this];simp
def aI9{x y:Int}{l:List Int}:y∈bi1 l x↔y=x\/y∈l:=by
 unfold bi1;constructor
 .intro h;rcases ej9.1 h with h|h
  .exact .inr (er2 h)
  .rcases ek9.1 h with h|h
   .exact .inl h
   .exact .inr (ev1 h)
 .rintro(rfl|h)
  .simp
  .rw[<-en4 (l.countP (· < x)) l]at h;rcases ej9.1 h with h|h
   .exact em4 _ h
   .exact en7 _ (ep3 _ h)
def bw7{x:Int}:∀{l:List Int},l.Pairwise (· < ·)->x∉l->(bi1 l x).Pairwise (· < ·)
 | [],_,_=>by simp[bi1]
 | y::l,hs,hn=>by
  have a:=eq1.1 hs;rcases Int.lt_or_le y x with h|h
  .rw[dx2 h,eq1];refine⟨λz b=>?_,bw7 a.2 λd=>hn (ep3 _ d)⟩;rcases aI9.1 b with rfl|b
   .exact h
   .exact a.1 z b
  .rw[dx1 h hs,eq1];refine⟨λz b=>?_,hs⟩;have c:x≠y:=λe=>hn (by simp[e]);rcases ek9.1 b with rfl|b
   .omega
   .have:=a.1 z b;omega
def aO0{n:Int}:∀{l:List Int} {m:Int},l.Pairwise (· < ·)->(∀y∈l,m<=y/\y<n)->m<=n->(l.length:Int)<=n-m
 | [],m,_,_,hm=>by simp;omega
 | y::l,m,hs,hb,hm=>by
  have a:=eq1.1 hs;have c:=hb y dP;have:=aO0 (l:=l) (m:=y+1) a.2 (λz b=>⟨by have:=a.1 z b;omega,(hb z (ep3 _ b)).2⟩) om;simp only[em1];omega
structure G2 (n:Nat) (l:List (List Int)):Prop where
 len:l.length=n
 le:∀x∈l,x.Pairwise (· < ·)
 ok:∀x∈l,∀y∈x,I9 n y=true
def G2.row_len{n:Nat}{l:List (List Int)}(h:G2 n l){x:List Int}(a:x∈l):x.length<=n:=by
 have:=aO0 (n:=n) (m:=0) (h.le x a) (λy b=>B5.1 (h.ok x a y b)) om;omega
def bG0(n:Nat):G2 n (List.replicate n []):=
 ⟨dP,λx a=>by simp[eq7 a],λx a y b=>by simp[eq7 a]at b⟩
def G2.ins{n:Nat}{l:List (List Int)}(h:G2 n l){a b:Int}(hb:I9 n b=true)(f:I9 n a=true)(hn:b∉E3 l a):G2 n (l.set a.toNat (bi1 (E3 l a) b)):=by
 have hm:=aC3 (nx:=l) (a:=a) (by rw[h.len];exact f);refine⟨by simp[h.len],λx d=>?_,λx d y e=>?_⟩
 .rcases es0 d with c|rfl
  .exact h.le x c
  .exact bw7 (h.le _ hm) hn
 .rcases es0 d with c|rfl
  .exact h.ok x c y e
  .rcases aI9.1 e with rfl|c
   .exact hb
   .exact h.ok _ hm y c
def bI7{n:Nat}{l:List (List Int)}(e:l.length=n){a c:Int}{r:List Int}(b:I9 n a=true):E3 (l.set a.toNat r) c=if c=a then r else E3 l c:=by
 have d:=B5.1 b;unfold E3;simp only[eq3];by_cases hc:0<=c/\c<l.length
 .rw[if_pos hc,if_pos hc];by_cases h:c=a
  .subst h;rw[if_pos rfl];have:c.toNat<l.length:=om
   simp[List.getD,this]
  .rw[if_neg h];have:a.toNat≠c.toNat:=om
   simp[List.getD,this]
 .rw[if_neg hc,if_neg hc,if_neg (by rintro rfl;exact hc om)]
def aw0(g:List (List Int)×List (List Int))(e:Int×Int):List (List Int)×List (List Int):=(cv6 g.1 e.1 e.2,cv7 g.1 g.2 e.1 e.2)
def at6(n:Nat)(a:List (Int×Int)):List (List Int)×List (List Int):=a.foldl aw0 (List.replicate n [],List.replicate n [])
structure aQ9 (n:Nat) (g:List (List Int)×List (List Int)):Prop where
 nx:G2 n g.1
 pv:G2 n g.2
 both:∀a b,b∈E3 g.1 a↔a∈E3 g.2 b
def bP1{n:Nat}{l:List (List Int)}(c:l.length=n){a b:Int}:av7 l a b=true↔I9 n a=true/\I9 n b=true/\b∉E3 l a:=by
 simp[av7,c,and_assoc]
def aQ9.grow{n:Nat}{g:List (List Int)×List (List Int)}(h:aQ9 n g)(e:Int×Int):aQ9 n (aw0 g e) /\
  ∀a b,b∈E3 (aw0 g e).1 a↔b∈E3 g.1 a\/((a,b)=e/\I9 n a=true/\I9 n b=true):=by
 obtain⟨x,y⟩:=e;by_cases hok:av7 g.1 x y=true
 .obtain⟨d,f,k⟩:=(bP1 h.nx.len).1 hok;have i:aw0 g (x,y)=(g.1.set x.toNat (bi1 (E3 g.1 x) y),g.2.set y.toNat (bi1 (E3 g.2 y) x)):=by
   simp[aw0,cv6,cv7,hok]
  rw[i];have l:x∉E3 g.2 y:=λc=>k ((h.both x y).2 c);refine⟨⟨h.nx.ins f d k,h.pv.ins d f l,λa b=>?_⟩,λa b=>?_⟩
  .simp only[];rw[bI7 h.nx.len d,bI7 h.pv.len f];have:=h.both a b;by_cases ha:a=x<;>by_cases hb:b=y
   .subst ha;subst hb;simp[aI9]
   .subst ha;rw[if_pos rfl,if_neg hb,aI9,this];simp[hb]
   .subst hb;rw[if_pos rfl,if_neg ha,aI9,this];simp[ha]
   .rw[if_neg ha,if_neg hb,this]
  .simp only[];rw[bI7 h.nx.len d];by_cases ha:a=x
   .subst ha;rw[if_pos rfl,aI9];constructor
    .rintro(rfl|c)
     .exact .inr ⟨rfl,d,f⟩
     .exact .inl c
    .rintro(c|⟨c,_⟩)
     .exact .inr c
     .exact .inl (Prod.mk.inj c).2
   .rw[if_neg ha];constructor
    .exact .inl
    .rintro(c|⟨c,_⟩)
     .exact c
     .exact absurd (Prod.mk.inj c).1 ha
 .have j:av7 g.1 x y=false:=by simpa using hok
  have i:aw0 g (x,y)=g:=by
   simp[aw0,cv6,cv7,j]
  rw[i];refine⟨h,λa b=>⟨.inl,?_⟩⟩;rintro(c|⟨c,d,f⟩)
  .exact c
  .obtain⟨rfl,rfl⟩:=Prod.mk.inj c;by_cases hb:b∈E3 g.1 a
   .exact hb
   .exact absurd ((bP1 h.nx.len).2 ⟨d,f,hb⟩) hok
def cC1(n:Nat)(a:Int):E3 (List.replicate n []) a=[]:=by
 unfold E3;split
 .simp[List.getD,eu3];split<;>rfl
 .rfl
def bw4(n:Nat):aQ9 n (List.replicate n [],List.replicate n []):=
 ⟨bG0 n,bG0 n,λa b=>by simp[cC1]⟩
def aQ9.grows{n:Nat}:∀(c:List (Int×Int)) {g:List (List Int)×List (List Int)},aQ9 n g->aQ9 n (c.foldl aw0 g) /\
  ∀a b,b∈E3 (c.foldl aw0 g).1 a↔b∈E3 g.1 a\/((a,b)∈c/\I9 n a=true/\I9 n b=true)
 | [],g,h=>⟨h,λa b=>dP⟩
 | e::es,g,h=>by
  obtain⟨f,i⟩:=h.grow e;obtain⟨j,k⟩:=f.grows es;refine⟨j,λa b=>?_⟩;rw[List.foldl_cons,k,i,ek9];constructor
  .rintro((h|h)|h)
   .exact .inl h
   .exact .inr ⟨.inl h.1,h.2⟩
   .exact .inr ⟨.inr h.1,h.2⟩
  .rintro(h|⟨h|h,d⟩)
   .exact .inl (.inl h)
   .exact .inl (.inr ⟨h,d⟩)
   .exact .inr ⟨h,d⟩
def aq4(n:Nat)(a:List (Int×Int)):aQ9 n (at6 n a):=(bw4 n |>.grows a).1
def G2.row{n:Nat}{l:List (List Int)}(h:G2 n l)(a:Int):(E3 l a).Pairwise (· < ·)/\(∀y∈E3 l a,I9 n y=true):=by
 by_cases ha:I9 l.length a=true
 .exact⟨h.le _ (aC3 ha),h.ok _ (aC3 ha)⟩
 .rw[bk6 (by simpa using ha)];exact⟨List.Pairwise.nil,λy b=>by cases b⟩
section
variable {α:Type}
def cm3(le:α->α->Bool)(x:α):List α->List α
 | []=>[x]
 | y::l=>if le x y then x::y::l else y::cm3 le x l
def ad5(le:α->α->Bool):List α->List α
 | []=>[]
 | x::l=>cm3 le x (ad5 le l)
def as7(a:α->α->Bool)(p:α):List α->List α
 | []=>[]
 | y::l=>if a y p then as7 a y l else y::as7 a y l
def ap3(a:α->α->Bool):List α->List α
 | []=>[]
 | x::l=>x::as7 a x l
def bp8(le:α->α->Bool)(x:α):∀l,(cm3 le x l).Perm (x::l)
 | []=>by simp[cm3]
 | y::l=>by
  rw[cm3];split
  .exact List.Perm.refl _
  .exact(List.Perm.cons y (bp8 le x l)).trans (List.Perm.swap _ _ _)
def I0(le:α->α->Bool):∀l,(ad5 le l).Perm l
 | []=>by simp[ad5]
 | x::l=>by rw[ad5];exact(bp8 le x _).trans (List.Perm.cons x (I0 le l))
def bw6{le:α->α->Bool}{x:α}:∀{l:List α},(∀a∈x::l,∀b∈x::l,le a b=true\/le b a=true)->(∀a∈x::l,∀b∈x::l,∀c∈x::l,le a b=true->le b c=true->le a c=true) ->
  l.Pairwise (λa b=>le a b=true)->(cm3 le x l).Pairwise (λa b=>le a b=true)
 | [],_,_,_=>by simp[cm3]
 | y::l,ht,htr,hs=>by
  rw[cm3];rw[eq1]at hs;split
  .next h=>
   rw[eq1];refine⟨λz d=>?_,by rw[eq1];exact hs⟩;rcases ek9.1 d with rfl|d
   .exact h
   .exact htr x dP y dP z (by simp[d]) h (hs.1 z d)
  .next h=>
   have g:le y x=true:=by
    rcases ht x dP y dP with h1|h1
    .exact absurd h1 h
    .exact h1
   rw[eq1];refine⟨λz d=>?_,bw6 (λa e b f=>ht a ?_ b ?_) (λa e b f c i=>htr a ?_ b ?_ c ?_) hs.2⟩
   .have:=(bp8 le x l).mem_iff.1 d;rcases ek9.1 this with rfl|d
    .exact g
    .exact hs.1 z d
   all_goals simp only[ek9]at *
   .rcases e with h|h<;>simp[h]
   .rcases f with h|h<;>simp[h]
   .rcases e with h|h<;>simp[h]
   .rcases f with h|h<;>simp[h]
   .rcases i with h|h<;>simp[h]
def ao4{le:α->α->Bool}:∀{l:List α},(∀a∈l,∀b∈l,le a b=true\/le b a=true)->(∀a∈l,∀b∈l,∀c∈l,le a b=true->le b c=true->le a c=true) ->
  (ad5 le l).Pairwise (λa b=>le a b=true)
 | [],_,_=>by simp[ad5]
 | x::l,ht,htr=>by
  have hm:∀a,a∈x::ad5 le l↔a∈x::l:=λa=>by simp only[ek9,(I0 le l).mem_iff]
  rw[ad5];refine bw6 (λa d b e=>ht a ((hm a).1 d) b ((hm b).1 e)) (λa d b e c f=>htr a ((hm a).1 d) b ((hm b).1 e) c ((hm c).1 f)) ?_;exact ao4 (λa d b e=>ht a (by simp[d]) b (by simp[e])) (λa d b e c f=>htr a (by simp[d]) b (by simp[e]) c (by simp[f]))
def aO1{le:α->α->Bool}:∀{l m:List α},l.Perm m->(∀a∈l,∀b∈l,le a b=true->le b a=true->a=b)->l.Pairwise (λa b=>le a b=true)->m.Pairwise (λa b=>le a b=true)->l=m
 | [],m,hp,_,_,_=>by simpa using hp.symm
 | x::l,[],hp,_,_,_=>by simpa using hp
 | x::l,y::m,hp,ha,h1,h2=>by
  rw[eq1]at h1 h2;have e:x=y:=by
   have d:x∈y::m:=hp.mem_iff.1 dP;have c:y∈x::l:=hp.mem_iff.2 dP;rcases ek9.1 d with h|d
   .exact h
   rcases ek9.1 c with h|c
   .exact h.symm
   exact ha x dP y (by simp[c]) (h1.1 y c) (h2.1 x d)
  subst e;rw[aO1 ((List.perm_cons x).1 hp) (λa h b f=>ha a (by simp[h]) b (by simp[f])) h1.2 h2.2]
end
def aP2(l:List St)(o:Int):Int:=match l with
 | []=>o
 | t::_=>t.id
def Sh.goes(s:Sh)(it:It):List Int:=
 if it.s.kind=5 then[aP2 it.s.thn it.next,aP2 it.s.els it.next]
 else if it.s.kind=6 then[aP2 it.s.thn it.s.id,it.next]
 else if it.s.kind=7 then[(s.it it.loop).next]
 else if it.s.kind=8 then[it.loop]
 else if it.s.kind=9 then[-1]
 else if it.s.kind=10 then[(s.at it.proc it.s.name).getD 0]
 else[it.next]
def H7(p:Int):Int:=if p = -1 then 9223372036854775807 else p
def M6(a b:Int):Int:=if a<b then -1 else if b<a then 1 else 0
def orF:List Int->Int
 | []=>0
 | x::l=>if x=0 then orF l else x
def spC(a b:Sp):Int:=orF [M6 (H7 a.src) (H7 b.src),M6 (H7 a.dst) (H7 b.dst),M6 a.kind b.kind]
def dz8(a b:Sp):Bool:=decide (spC a b<=0)
def bl7(a b:Sp):Bool:=decide (a.src=b.src)&&decide (a.dst=b.dst)
def aD1(l:List Sp):List Sp:=ap3 bl7 (ad5 dz8 l)
def Sh.steps(s:Sh)(i:Nat):List Sp:=aD1 (⟨0,s.first i,1⟩::(s.of i).flatMap λit=>(s.goes it).map λt=>⟨it.s.id,t,1⟩)
structure Wy where
 s:Sh
 proc:Int
 n:Int
 real:List Sp
 live:List Bool
def Wy.index(w:Wy)(p:Int):Int:=if p=0 then 0 else if p = -1 then w.n-1 else if atI w.s.lo w.proc<=p/\p<atI w.s.hi w.proc then p-atI w.s.lo w.proc+1 else -1
def Wy.place(w:Wy)(i:Int):Int:=if i=0 then 0 else if i=w.n-1 then -1 else atI w.s.lo w.proc+i-1
def atB(l:List Bool)(i:Int):Bool:=l.getD i.toNat false
def Wy.lives(w:Wy)(id:Int):Bool:=atB w.live (w.index id)
def Wy.pairs(w:Wy)(l:List Sp):List (Int×Int):=l.map λt=>(w.index t.src,w.index t.dst)
def Q8(nx:List (List Int)):Nat->List Int->List Int
 | 0,l=>l
 | n+1,l=>Q8 nx n (l++((l.flatMap (E3 nx)).filter λb=>!l.contains b).eraseDups)
def ab2(nx:List (List Int))(a:Int)(b:Int):Bool:=I9 nx.length a&&(Q8 nx nx.length [a]).contains b
def bT5(nx:List (List Int)):List Bool:=(List.range nx.length).map λb=>ab2 nx 0 (b:Nat)
def an8(nx:List (List Int)):List Int:=(List.range nx.length).map λa=>(((List.range nx.length).find? λb=>ab2 nx (a:Nat) (b:Nat)&&ab2 nx (b:Nat) (a:Nat)).getD 0:Nat)
def F5(s:Sh)(i:Nat):Wy:=
 let w:Wy:=⟨s,i,atI s.hi i-atI s.lo i+2,s.steps i,[]⟩
 {w with live:=bT5 (at6 w.n.toNat (w.pairs w.real)).1}
def Wy.traps(w:Wy):List (List Int):=
 let part:=an8 (at6 w.n.toNat (w.pairs w.real)).1
 let op:=atI part 0::atI part (w.n-1)::((w.pairs w.real).filter λt=>!decide (atI part t.1=atI part t.2)).map λt=>atI part t.1
 ((List.range part.length).filter λ(i:Nat)=>decide (atI part (i:Int)=(i:Int)) && !op.contains (i:Int)).map λ(i:Nat)=>((List.range part.length).filter λ(j:Nat)=>decide (atI part (j:Int)=(i:Int))).map λ(j:Nat)=>w.place (j:Int)
def Wy.virtual(w:Wy):List Sp:=w.traps.flatMap λl=>(l.filter λid=>decide ((w.s.it id).s.kind=10)).map λid=>⟨id,-1,3⟩
def Wy.data(w:Wy):List Sp:=aD1 (w.virtual++w.real)
def ac8(it:It):List Sp:=if it.s.kind=7\/it.s.kind=8\/it.s.kind=9\/it.s.kind=10 then[⟨it.s.id,it.next,2⟩]else[]
def Wy.aug(w:Wy):List Sp:=aD1 (w.virtual++w.real++[⟨0,-1,2⟩]++(w.s.of w.proc).flatMap ac8)
def ax4(n:Nat)(l:List (Int×Int)):List (List Int):=(List.range n).map λ(a:Nat)=>(l.filter λt=>decide (t.1=(a:Int))).map (·.2)
def Wy.net(w:Wy):List (List Int):=ax4 w.n.toNat (w.pairs w.data)
def ah0(f:List (List Bool))(c:List Int):List Bool:=(List.range f.length).map λ(b:Nat)=>c.all λa=>atB (f.getD a.toNat []) (b:Int)
def X8(next:List (List Int))(f:List (List Bool))(a:Nat):List (List Bool):=f.set a ((ah0 f (next.getD a [])).set a true)
def R1(next:List (List Int))(f:List (List Bool)):Nat->List (List Bool)
 | 0=>f
 | a+1=>R1 next (X8 next f a) a
def aj4(next:List (List Int))(m:Nat):Nat->List (List Bool)->List (List Bool)
 | 0,f=>f
 | k+1,f=>aj4 next m k (R1 next f m)
def Y7(n:Nat):List (List Bool):=(List.range n).map λa=>(List.range n).map λb=>decide (a+1<n)||decide (a=b)
def Wy.follow(w:Wy):List (List Bool):=aj4 (ax4 w.n.toNat (w.pairs w.aug)) (w.n.toNat-1) (w.n.toNat*w.n.toNat+1) (Y7 w.n.toNat)
def Wy.decides(w:Wy):List (Int×Int):=
 let f:=w.follow
 let ps:=w.pairs w.aug
 (List.range w.n.toNat).flatMap λ(a:Nat)=>((List.range w.n.toNat).filter λ(b:Nat)=>decide (1<=b)&&decide ((b:Int)<w.n-1)&&ps.any λt=>decide (t.1=(a:Int))&&atB (f.getD t.2.toNat []) (b:Int)&&(decide (a=b) || !atB (f.getD a []) (b:Int))).map λ(b:Nat)=>(w.place (a:Int),w.place (b:Int))
def ep9:=@List.filter_append
def eu5:=@List.range_succ
def ew5:=@decide_eq_false_iff_not
def ep1:=@decide_eq_true
def bi6{a b:B3}:ltS a b=true↔a.b<b.b:=by
 unfold ltS;rw[bytesLess_eq,decide_eq_true_iff]
def ac1{a b:B3}:ltS a b=false↔b.b<=a.b:=by
 rw[<-Bool.not_eq_true,bi6];exact er4
def bq3{a b c:B3}(d:a.b<=b.b)(e:b.b<=c.b):a.b<=c.b:=List.le_trans d e
def aM3{a b:B3}(c:a.b<=b.b)(d:b.b<=a.b):a=b:=by
 have:=List.le_antisymm c d;cases a;cases b;simp_all
def N8(a:B3):ltS a a=false:=ac1.2 (List.le_refl _)
def ay7{a b c:B3}(d:ltS a b=true)(e:ltS b c=true):ltS a c=true:=bi6.2 (List.lt_trans (bi6.1 d) (bi6.1 e))
def cc1{a b:B3}(c:ltS a b=false)(d:ltS b a=false):a=b:=aM3 (ac1.1 d) (ac1.1 c)
def bp9(x:B3):∀l,(cm4 x l).Perm (x::l)
 | []=>by simp[cm4]
 | y::l=>by
  rw[cm4];split
  .exact(List.Perm.cons y (bp9 x l)).trans (List.Perm.swap _ _ _)
  .exact List.Perm.refl _
def Y1:∀l,(Y5 l).Perm l
 | []=>by simp[Y5]
 | x::l=>by rw[Y5];exact(bp9 x _).trans (List.Perm.cons x (Y1 l))
def bw8(x:B3):∀{l:List B3},l.Pairwise (λa b=>a.b<=b.b)->(cm4 x l).Pairwise (λa b=>a.b<=b.b)
 | [],_=>by simp[cm4]
 | y::l,hs=>by
  rw[cm4];have d:=hs;rw[eq1]at hs;split
  .next h=>
   rw[eq1];refine⟨λz c=>?_,bw8 x hs.2⟩;rcases ek9.1 ((bp9 x l).mem_iff.1 c)with rfl|c
   .exact List.le_of_lt (bi6.1 h)
   .exact hs.1 z c
  .next h=>
   have e:=ac1.1 (et8.2 h);rw[eq1];refine⟨λz c=>?_,d⟩;rcases ek9.1 c with rfl|c
   .exact e
   .exact bq3 e (hs.1 z c)
def ax8:∀l,(Y5 l).Pairwise (λa b=>a.b<=b.b)
 | []=>by simp[Y5]
 | x::l=>by rw[Y5];exact bw8 x (ax8 l)
def aa0(l:List B3):(Y5 l).length=l.length:=(Y1 l).length_eq
def cs6(l:List B3):((l.map (·.b)).mergeSort λx y=>decide (x<=y))=(Y5 l).map (·.b):=by
 refine aO1 (le:=λx y:List UInt8=>decide (x<=y)) ?_ ?_ ?_ ?_
 .exact(List.mergeSort_perm _ _).trans ((Y1 l).map _).symm
 .intro a _ b _ f g;have d:a<=b:=ej3 f;have e:b<=a:=ej3 g;exact List.le_antisymm d e
 .refine List.pairwise_mergeSort (le:=λx y:List UInt8=>decide (x<=y)) (λa b c f g=>?_) (λa b=>?_) _
  .have d:a<=b:=ej3 f;have e:b<=c:=ej3 g;exact ep1 (List.le_trans d e)
  .rcases List.le_total a b with h|h<;>simp[h]
 .rw[List.pairwise_map];exact(ax8 l).imp fun{a b} h=>ep1 h
def bE1{α:Type}[DecidableEq α]:∀(l:List α) (y:α),N4 (l++[y])=if l.getLast?=some y then N4 l else N4 l++[y]
 | [],y=>by simp[N4]
 | [x],y=>by
  by_cases h:x=y
  .subst h;simp[N4]
  .simp[N4,h]
 | x::z::l,y=>by
  have a:=bE1 (z::l) y;rw[eu8,eu8,N4,<-eu8,a,List.getLast?_cons_cons,N4];by_cases h1:x=z<;>by_cases h2:(z::l).getLast?=some y<;>simp only[h1,h2,ep4,er8,eu8]
def bR1(d:Array (List UInt8)):∀m,m<=d.size->Lib.compactUpTo d m=N4 (d.toList.take m)
 | 0,_=>by simp[Lib.compactUpTo,N4]
 | m+1,hm=>by
  have i:=bR1 d m om;have f:m<d.toList.length:=by simp;omega
  have c:d[m]! = d.toList[m]:=by
   rw[getElem!_pos d m om];simp
  rw[ej8 f,bE1,<-i];have g:Lib.compactUpTo d (m+1)=Lib.compactUpTo d m++(if Lib.keeps d m then[d[m]!]else[]):=by
   simp only[Lib.compactUpTo,eu5,ep9,em6]
   congr 1
   by_cases b:Lib.keeps d m=true
   .simp[b]
   .simp[b]
  rw[g,c];by_cases h0:m=0
  .subst h0;simp[Lib.keeps,Lib.compactUpTo]
  .have a:(d.toList.take m).getLast?=some d[m-1]!:=by
    rw[List.getLast?_eq_getElem?,ek3,eo8 om,et6,if_pos om,getElem!_pos d (m-1) om];simp[show m-1<d.size by omega]
   rw[a];by_cases he:d.toList[m]=d[m-1]!
   .have b:Lib.keeps d m=false:=by simp only[Lib.keeps,ew5,c,h0,false_or,ne_eq];exact λh=>h he
    rw[b,if_pos (el1 some he.symm)];simp
   .have b:Lib.keeps d m=true:=by simp only[Lib.keeps,em7];rw[c];exact .inr he
    rw[b,if_neg (λe=>he (el4 e).symm)];simp
def bR2{α β:Type}[DecidableEq α][DecidableEq β]{g:α->β}(c:∀a b,g a=g b->a=b):∀l:List α,N4 (l.map g)=(N4 l).map g
 | []=>by simp[N4]
 | [x]=>by simp[N4]
 | x::y::l=>by
  have d:=bR2 c (y::l);rw[en8]at d;rw[en8,en8,N4,N4,d];by_cases h:x=y
  .rw[if_pos h,if_pos (by rw[h])]
  .rw[if_neg h,if_neg (λe=>h (c _ _ e)),en8]
def bN7(l:List B3):Lib.compact (l.map (·.b))=(N4 l).map (·.b):=by
 unfold Lib.compact;have:=bR1 (l.map (·.b)).toArray (l.map (·.b)).length dP;rw[this];simp only[ek4];exact bR2 (λa b h=>by cases a;cases b;simpa using h) l
def aH8{α:Type}[DecidableEq α]:∀l:List α,(N4 l).length<=l.length
 | []=>by simp[N4]
 | [x]=>by simp[N4]
 | x::y::l=>by
  have a:=aH8 (y::l);rw[N4];split<;>simp only[em1]at * <;> omega
def aH9{α:Type}[DecidableEq α]{z:α}:∀l:List α,z∈N4 l↔z∈l
 | []=>by simp[N4]
 | [x]=>by simp[N4]
 | x::y::l=>by
  have a:=aH9 (z:=z) (y::l);rw[N4];split
  .next h=>subst h;rw[a];simp
  .rw[ek9,a,ek9 (b:=x)]
def bc3:∀{l:List B3},l.Pairwise (λa b=>a.b<=b.b)->(N4 l).Pairwise (λa b=>ltS a b=true)
 | [],_=>by simp[N4]
 | [x],_=>by simp[N4]
 | x::y::l,h=>by
  have i:=h;rw[eq1]at h;rw[N4];split
  .exact bc3 h.2
  .next d=>
   rw[eq1];refine⟨λz g=>?_,bc3 h.2⟩;have c:=(aH9 _).1 g;have e:=h.1 y dP;have f:ltS x y=true:=by
    cases hq:ltS x y
    .exact absurd (aM3 e (ac1.1 hq)) d
    .rfl
   rcases ek9.1 c with rfl|c
   .exact f
   .rw[eq1]at h;have:=h.2.1 z c;cases hq:ltS x z
    .have:y=x:=aM3 (bq3 this (ac1.1 hq)) e;exact absurd this.symm d
    .rfl
def X1(l:List B3):(F2 l).Pairwise (λa b=>ltS a b=true):=bc3 (ax8 l)
def K5{l:List B3}{x:B3}:x∈F2 l↔x∈l:=by rw[F2,aH9,(Y1 l).mem_iff]
def aF1(l:List B3):(F2 l).length<=l.length:=ej7 (aH8 _) (by rw[aa0];exact ek6 _)
def cq9:∀{l m:List B3},l.Pairwise (λa b=>ltS a b=true)->m.Pairwise (λa b=>ltS a b=true)->(∀x,x∈l↔x∈m)->l=m
 | [],[],_,_,_=>rfl
 | [],y::m,_,_,h=>by have:=(h y).2 dP;simp at this
 | x::l,[],_,_,h=>by have:=(h x).1 dP;simp at this
 | x::l,y::m,h1,h2,h=>by
  rw[eq1]at h1 h2;have c:x=y:=by
   rcases ek9.1 ((h x).1 dP)with e|hx
   .exact e
   rcases ek9.1 ((h y).2 dP)with e|hy
   .exact e.symm
   have:=ay7 (h1.1 y hy) (h2.1 x hx);rw[N8]at this;cases this
  subst c;rw[cq9 h1.2 h2.2 λz=>?_];have d:=h z;simp only[ek9]at d;constructor
  .intro hm;rcases d.1 (.inr hm)with e|hm'
   .subst e;have:=h1.1 z hm;rw[N8]at this;cases this
   .exact hm'
  .intro hm;rcases d.2 (.inr hm)with e|hm'
   .subst e;have:=h2.1 z hm;rw[N8]at this;cases this
   .exact hm'
end Go.Proofs.YtpebpfiglfmegaaGreat
namespace Go.Proofs
open Go.Shelf
def Tryz.lyS_ren:Go.Shelf.Ren:=⟨fun|190=>106|125=>101|258=>179|128=>168|129=>169|302=>228|303=>229|304=>230|305=>231|306=>232|307=>233|308=>234|309=>235|310=>236|333=>280|329=>221|330=>222|334=>281|335=>282|336=>245|344=>309|n=>n,fun|31=>22|9=>9|3=>3|46=>164|0=>0|51=>238|53=>240|4=>4|183=>231|182=>230|131=>85|5=>5|218=>279|222=>283|228=>324|229=>325|n=>n,fun|n=>n⟩
def Tryz.lyS:Go.Proofs.Lays.n190 Tryz.prog Tryz.lyS_ren:={
 mixed:=kr
 f125:=tT Tryz.func101
 f128:=tT Tryz.func168
 f129:=tT Tryz.func169
 f190:=tT Tryz.func106
 f258:=tT Tryz.func179
 f302:=tT Tryz.func228
 f303:=tT Tryz.func229
 f304:=tT Tryz.func230
 f305:=tT Tryz.func231
 f306:=tT Tryz.func232
 f307:=tT Tryz.func233
 f308:=tT Tryz.func234
 f309:=tT Tryz.func235
 f310:=tT Tryz.func236
 f329:=tT Tryz.func221
 f330:=tT Tryz.func222
 f333:=tT Tryz.func280
 f334:=tT Tryz.func281
 f335:=tT Tryz.func282
 f336:=tT Tryz.func245
 f344:=tT Tryz.func309
 t0:=Tryz.underlying0
 a0:=Tryz.isAgg0
 z0:=Tryz.sizeOf0
 v0:=Tryz.zeroValue0
 t3:=Tryz.underlying3
 a3:=Tryz.isAgg3
 z3:=Tryz.sizeOf3
 v3:=Tryz.zeroValue3
 t4:=Tryz.underlying4
 a4:=Tryz.isAgg4
 z4:=Tryz.sizeOf4
 v4:=Tryz.zeroValue4
 t5:=Tryz.underlying5
 a5:=Tryz.isAgg5
 z5:=Tryz.sizeOf5
 v5:=Tryz.zeroValue5
 t9:=Tryz.underlying9
 a9:=Tryz.isAgg9
 z9:=Tryz.sizeOf9
 v9:=Tryz.zeroValue9
 t31:=Tryz.underlying22
 a31:=Tryz.isAgg22
 z31:=Tryz.sizeOf22
 v31:=Tryz.zeroValue22
 t46:=Tryz.underlying164
 a46:=Tryz.isAgg164
 z46:=Tryz.sizeOf164
 v46:=Tryz.zeroValue164
 t51:=Tryz.underlying238
 a51:=Tryz.isAgg238
 z51:=Tryz.sizeOf238
 v51:=Tryz.zeroValue238
 t53:=Tryz.underlying240
 a53:=Tryz.isAgg240
 z53:=Tryz.sizeOf240
 v53:=Tryz.zeroValue240
 t131:=Tryz.underlying85
 a131:=Tryz.isAgg85
 z131:=Tryz.sizeOf85
 v131:=Tryz.zeroValue85
 t182:=Tryz.underlying230
 a182:=Tryz.isAgg230
 z182:=Tryz.sizeOf230
 v182:=Tryz.zeroValue230
 t183:=Tryz.underlying231
 a183:=Tryz.isAgg231
 z183:=Tryz.sizeOf231
 v183:=Tryz.zeroValue231
 t218:=Tryz.underlying279
 a218:=Tryz.isAgg279
 z218:=Tryz.sizeOf279
 v218:=Tryz.zeroValue279
 t222:=Tryz.underlying283
 a222:=Tryz.isAgg283
 z222:=Tryz.sizeOf283
 v222:=Tryz.zeroValue283
 t228:=Tryz.underlying324
 a228:=Tryz.isAgg324
 z228:=Tryz.sizeOf324
 v228:=Tryz.zeroValue324
 t229:=Tryz.underlying325
 a229:=Tryz.isAgg325
 z229:=Tryz.sizeOf325
 v229:=Tryz.zeroValue325}
def Tryz.lyK_ren:Go.Shelf.Ren:=⟨fun|194=>107|n=>n,fun|31=>22|9=>9|3=>3|4=>4|0=>0|n=>n,fun|n=>n⟩
def Tryz.lyK:Go.Proofs.Lays.n194 Tryz.prog Tryz.lyK_ren:={
 mixed:=kr
 f194:=tT Tryz.func107
 t0:=Tryz.underlying0
 a0:=Tryz.isAgg0
 z0:=Tryz.sizeOf0
 v0:=Tryz.zeroValue0
 t3:=Tryz.underlying3
 a3:=Tryz.isAgg3
 z3:=Tryz.sizeOf3
 v3:=Tryz.zeroValue3
 t4:=Tryz.underlying4
 a4:=Tryz.isAgg4
 z4:=Tryz.sizeOf4
 v4:=Tryz.zeroValue4
 t9:=Tryz.underlying9
 a9:=Tryz.isAgg9
 z9:=Tryz.sizeOf9
 v9:=Tryz.zeroValue9
 t31:=Tryz.underlying22
 a31:=Tryz.isAgg22
 z31:=Tryz.sizeOf22
 v31:=Tryz.zeroValue22}
end Go.Proofs
namespace Go.Proofs.YtpebpfiglfmegaaGreat
open Go Tryz
def ep6:=@List.take_append_of_le_length
section
open Go.Sort
def dS5:(Tryz.lyS_ren.f 190)=106:=kr
def dS4:(Tryz.lyK_ren.f 194)=107:=kr
section
variable {α:Type} [Inhabited α]
def bO3(enc:α->Value)(d:Array α)(a:Array Value)(h:d.size<=a.size):(putCells enc 0 d a).toList=d.toList.map enc++a.toList.drop d.size:=by
 apply ev9;intro k;rw[eu9];unfold putCells;rw[Array.getElem?_mapIdx];rcases en2 k d.size with b|b
 .rw[eo2 (by simpa using b),et7 om];simp[b]
 .rw[eo3 (by simpa using b),et5,ek2,ew1,show d.size+(k-d.size)=k by omega];rcases en2 k a.size with c|c
  .simp[c,show ¬k<d.size by omega]
  .simp[show a.size<=k by omega]
def cd6{w:World}{b:Nat}{T:TypeId}{a:Array Value}(k:w.heap[b]?=some (.cells a T (0,0)))(enc:α->Value)(d:Array α)(h:d.size<=a.size)(n:Nat)(g:Array Obj):
  (grow (putRow enc (Go.Sort.ahead w n) b 0 d) g).heap[b]?=some (.cells (d.toList.map enc++a.toList.drop d.size).toArray T (0,0))/\p6 (λc=>c=b) w (grow (putRow enc (Go.Sort.ahead w n) b 0 d) g):=by
 have l:b<w.heap.size:=(ej4.1 k).1;have f:(putRow enc (Go.Sort.ahead w n) b 0 d).heap.size=w.heap.size:=by rw[size_putRow];rfl
 have j:∀c,(putRow enc (Go.Sort.ahead w n) b 0 d).heap[c]?=if b=c then(w.heap[c]?).map (onCells (putCells enc 0 d))else w.heap[c]?:=λc=>by
  unfold putRow mapBlock;rw[Array.getElem?_modify];split<;>rfl
 refine⟨?_,⟨rfl,rfl,rfl,?_,λc m i=>?_⟩⟩
 .show((putRow enc (Go.Sort.ahead w n) b 0 d).heap++g)[b]?=_;rw[Array.getElem?_append_left (by rw[f];exact l),j b,if_pos rfl,k];simp only[ep0,onCells,<-bO3 enc d a h,Array.toArray_toList]
 .show w.heap.size<=((putRow enc (Go.Sort.ahead w n) b 0 d).heap++g).size;rw[Array.size_append,f];omega
 .show((putRow enc (Go.Sort.ahead w n) b 0 d).heap++g)[c]?=_;rw[Array.getElem?_append_left (by rw[f];exact m),j c,if_neg (λe=>i e.symm)]
end
def aI0{h:Hp}{cs:List Value}{l:List B3}:Q9 h cs l↔cs=l.map t8:=by
 induction l generalizing cs with
 | nil=>simp[Q9]
 | cons x l a=>
  rw[Q9];constructor
  .rintro⟨b,e,rfl,c,d⟩;have:b=[t8 x]:=c;rw[this,a.1 d];rfl
  .rintro rfl;exact⟨[t8 x],l.map t8,rfl,rfl,a.2 rfl⟩
section
variable {h:Hp} {w:World} {v:Value} {l:List B3}
def cp6(n:B0 h w 9 v l):(v = .slice none 0 0/\l=[])\/∃b c a,v = .slice (some ⟨b,0,none⟩) l.length c/\h b=none/\w.heap[b]?=some (.cells a 9 (0,0))/\l.length<=c/\c<=maxLen/\a.size=c/\a.toList.take l.length=l.map t8:=by
 rcases n with m|⟨b,c,a,rfl,g,i,j,k,d,f⟩
 .exact .inl m
 .have e:A6.sz B3=1:=rfl;rw[e,es6]at d f;exact .inr ⟨b,c,a,rfl,g,i,j,k,d,aI0.1 f⟩
def bx6{b c:Nat}{a:Array Value}(d:h b=none)(f:w.heap[b]?=some (.cells a 9 (0,0)))(g:l.length<=c)(i:c<=maxLen)(j:a.size=c)(k:a.toList.take l.length=l.map t8):
  B0 h w 9 (.slice (some ⟨b,0,none⟩) l.length c) l:=by
 have e:A6.sz B3=1:=rfl;refine .inr ⟨b,c,a,rfl,d,f,g,i,by rw[e,j,es6],?_⟩;rw[e,es6,k];exact aI0.2 rfl
def bG2{b:Nat}{a:Array Value}(d:w.heap[b]?=some (.cells a 9 (0,0)))(g:a.toList.take l.length=l.map t8):Holds encStr w b 0 (l.map B3.b).toArray:=λj f=>by
 have c:j<l.length:=by simpa using f
 rw[en0,er9 w b j a _ (0,0) d];have e:=el1 (λz=>z[j]?) g;simp only[et6,if_pos c,em8,ej0 c,ep0]at e;refine⟨?_,frozen_of_row w b j a _ d⟩;rw[getElem!_pos _ j f];simpa[t8]using e
def cX4(p:B0 h w 9 v l)(u:l.length<=1000000000):
  Calls prog 106 #[v] w λe d=>e = .returned (.tuple #[])/\B0 h d 9 v (Y5 l)/\p6 (A5 v) w d:=by
 rw[<-dS5];rcases cp6 p with⟨rfl,rfl⟩|⟨b,c,i,rfl,j,f,g,k,t,m⟩
 .refine(Any.slices_Sort_string_none Tryz.lyS none 0 w).mono ?_;rintro e d ⟨rfl,rfl⟩;exact⟨rfl,B0.nil _ _ _,p6.refl _⟩
 .have o:b<w.heap.size:=(ej4.1 f).1;have:=Any.slices_Sort_string Tryz.lyS b 0 c (l.map B3.b) w (bG2 f m) o (by rw[ek2];omega);rw[ek2]at this;refine this.mono ?_;rintro e d ⟨rfl,n,s,rfl⟩;rw[cs6];obtain⟨q,r⟩:=cd6 f encStr ((Y5 l).map B3.b).toArray (by simp[aa0];omega) n s;refine⟨rfl,?_,r.weaken λ_ _ e=>by subst e;rfl⟩;have a:=aa0 l;rw[<-a]at g ⊢;refine bx6 j q g k ?_ ?_
  .simp[aa0];omega
  .simp only[List.map_map];rw[ep6 dP,en6 dP];rfl
def bp3(r:B0 h w 9 v l)(x:l.length<=1000000000):
  y5 prog 107 #[v] w λu a=>(B0 h a 9 u (N4 l)/\p6 (A5 v) w a/\E7 w v u):=by
 rw[<-dS4];rcases cp6 r with⟨rfl,rfl⟩|⟨b,c,m,rfl,n,g,s,o,t,p⟩
 .refine(Any.slices_Compact_string_empty Tryz.lyK none 0 w).mono ?_;rintro e a ⟨rfl,rfl⟩;exact⟨_,rfl,B0.nil _ _ _,p6.refl _,λb d=>.inl d⟩
 .have:=Any.slices_Compact_string Tryz.lyK b 0 c (l.map B3.b) w (bG2 g p) (by rw[ek2];omega) (by rw[ek2];omega);rw[ek2]at this;refine this.mono ?_;rintro e a ⟨rfl,q,rfl⟩;rw[bN7,ek2];have i:=aH8 l;have f:(((N4 l).map B3.b++List.replicate (l.length-(N4 l).length) []).toArray).size=l.length:=by simp;omega
  obtain⟨j,k⟩:=cd6 g encStr (((N4 l).map B3.b++List.replicate (l.length-(N4 l).length) []).toArray) (by rw[f];omega) q #[];rw[grow_empty]at j k;refine⟨_,rfl,?_,k.weaken λ_ _ e=>by subst e;rfl,λb d=>.inl d⟩;refine bx6 n j om o ?_ ?_
  .simp;omega
  .simp only[em6,List.map_map,el9];rw[ep6 dP,en6 dP];rfl
end
end
def es5:=@List.flatMap_cons
section
open Go.Sort Go.RowKit Go.Shelf
class p8 (α:Type) [A6 α] where
 cells:α->List Value
 iff_:∀(h:Hp) (cs:List Value) (x:α),A6.enc h cs x↔cs=cells x
instance:p8 Sp:=⟨Sp.cells,λ_ _ _=>er4⟩
instance:p8 Fw:=⟨Fw.cells,λ_ _ _=>er4⟩
instance:p8 Vx:=⟨Vx.cells,λ_ _ _=>er4⟩
instance:p8 Eg:=⟨Eg.cells,λ_ _ _=>er4⟩
instance:Inhabited Sp:=⟨⟨0,0,0⟩⟩
instance:Inhabited Fw:=⟨⟨0,0,e0⟩⟩
instance:Inhabited Vx:=⟨⟨e0,0,0,e0⟩⟩
instance:Inhabited Eg:=⟨⟨default,default,0⟩⟩
section
variable {α:Type} [A6 α] [p8 α]
def ay4(x:α):(p8.cells x).length=A6.sz α:=A6.len ((p8.iff_ (λ_=>none) _ x).2 rfl)
def Z0(x:α):∀v∈p8.cells x,v.oneCell'=true:=A6.one ((p8.iff_ (λ_=>none) _ x).2 rfl)
def ae0{h:Hp}:∀{a:List Value} {l:List α},Q9 h a l↔a=l.flatMap p8.cells
 | a,[]=>by simp[Q9]
 | a,x::l=>by
  rw[Q9,es5];constructor
  .rintro⟨d,e,rfl,b,c⟩;rw[(p8.iff_ _ _ _).1 b,ae0.1 c]
  .rintro rfl;exact⟨_,_,rfl,(p8.iff_ _ _ _).2 rfl,ae0.2 rfl⟩
def B0.downN{h k:Hp}{w:World}{T:TypeId}{v:Value}{xs:List α}(n:B0 k w T v xs)(l:E2 h k):B0 h w T v xs:=by
 rcases n with m|⟨b,c,a,rfl,d,e,f,g,i,j⟩
 .exact .inl m
 .refine .inr ⟨b,c,a,rfl,?_,e,f,g,i,ae0.2 (ae0.1 j)⟩;cases hq:h b with
  | none=>rfl
  | some o=>have:=l b o hq;rw[d]at this;cases this
def B0.flatRN{h k:Hp}{w:World}{T:TypeId}{v:Value}{xs:List α}(a:B0 h w T v xs)(hb:∀b,A5 v b->k b=w.heap[b]?):R k v xs:=
 (a.downN (h:=λ_=>none) (λb o e=>nomatch e)).ro (λb o e=>nomatch e) hb
def B0.backN{w0 a w:World}{T:TypeId}{v:Value}{xs:List α}(b:B0 (i5 a) w T v xs)(c:o6 w0 a):B0 (i5 w0) w T v xs:=b.downN (b7 c)
def cK9{h:Hp}{w:World}{T:TypeId}{v:Value}{l:List α}(m:B0 h w T v l):(v = .slice none 0 0/\l=[])\/∃b c a,v = .slice (some ⟨b,0,none⟩) l.length c/\h b=none/\w.heap[b]?=some (.cells a T (0,0))/\l.length<=c/\c<=maxLen/\a.size=c*A6.sz α/\a.toList.take (l.length*A6.sz α)=l.flatMap p8.cells:=by
 rcases m with k|⟨b,c,a,rfl,d,e,f,g,i,j⟩
 .exact .inl k
 .exact .inr ⟨b,c,a,rfl,d,e,f,g,i,ae0.1 j⟩
def bj6{h:Hp}{w:World}{T:TypeId}{l:List α}{b c:Nat}{a:Array Value}(d:h b=none)(e:w.heap[b]?=some (.cells a T (0,0)))(f:l.length<=c)(g:c<=maxLen)(i:a.size=c*A6.sz α)(j:a.toList.take (l.length*A6.sz α)=l.flatMap p8.cells):
  B0 h w T (.slice (some ⟨b,0,none⟩) l.length c) l:=.inr ⟨b,c,a,rfl,d,e,f,g,i,ae0.2 j⟩
def ae1(l:List α):(l.flatMap p8.cells).length=l.length*A6.sz α:=by
 induction l with
 | nil=>simp
 | cons x l a=>rw[es5,ej2,ay4,a,em1,Nat.succ_mul,Nat.add_comm]
end
def bv7{α β:Type}(f:α->List β){k:Nat}(b:0<k)(a:∀x,(f x).length=k):∀(l:List α) (t:Nat),(l.flatMap f)[t]?=(l[t / k]?).bind λx=>(f x)[t % k]?
 | [],t=>dP
 | x::l,t=>by
  rw[es5];rcases en2 t k with h|h
  .rw[eo2 (by rw[a];exact h),Nat.div_eq_of_lt h,Nat.mod_eq_of_lt h];rfl
  .rw[eo3 (by rw[a];exact h),a,bv7 f b a l];have c:t / k=(t-k) / k+1:=by rw[Nat.div_eq_sub_div b h]
   have d:t % k=(t-k) % k:=Nat.mod_eq_sub_mod h;rw[c,d,List.getElem?_cons_succ]
def bF2{α:Type}[Inhabited α](f:α->List Value){k:Nat}(c:0<k)(b:∀x,(f x).length=k)(d:Array α):(flatK f k d).toList=d.toList.flatMap f:=by
 apply ev9;intro t;rw[bv7 f c b];unfold flatK;rw[eu9,Array.getElem?_map];rcases en2 t (d.size*k)with h|h
 .have a:t / k<d.size:=Nat.div_lt_of_lt_mul (by rw[Nat.mul_comm];exact h);have e:t % k<k:=Nat.mod_lt _ c;rw[et7 (by simpa using h),eu9,et7 a];simp only[Array.getElem_range,ep0,Option.bind_some];rw[getElem!_pos d _ a,getElem!_pos _ _ (by rw[b];exact e),ej0 (by rw[b];exact e)]
 .have a:d.size<=t / k:=(Nat.le_div_iff_mul_le c).2 h;rw[Array.getElem?_eq_none (by simpa using h),eu9,Array.getElem?_eq_none a];rfl
structure Cm {α:Type} (c:α->α->Int):Prop where
 refl:∀x,c x x=0
 anti:∀x y,c y x = - c x y
 trans:∀x y z,c x y<=0->c y z<=0->c x z<=0
def Cm.swo{α:Type}{c:α->α->Int}(h:Cm c):SWO (ltOf c) where
 irrefl x:=by simp[ltOf,h.refl]
 trans x y z h1 h2:=by
  simp only[ltOf,em7]at *;have b:=h.trans x y z om om;rcases Int.lt_or_eq_of_le b with a|a
  .exact a
  .have g:=h.anti x z;have i:=h.trans y z x om om;have j:=h.anti x y;omega
 ntrans x y z h1 h2:=by
  simp only[ltOf,ew5]at *;have d:=h.anti x y;have e:=h.anti y z;have f:=h.anti x z;have:=h.trans z y x om om;omega
def Cm.total{α:Type}{c:α->α->Int}(h:Cm c)(x y:α):decide (c x y<=0)=true\/decide (c y x<=0)=true:=by
 have:=h.anti x y;simp only[em7];omega
def Cm.key{α β:Type}{c:β->β->Int}(h:Cm c)(f:α->β):Cm λx y=>c (f x) (f y):=⟨λx=>h.refl _,λx y=>h.anti _ _,λx y z=>h.trans _ _ _⟩
def Cm.zero{α:Type}:Cm λ(_ _:α)=>0:=⟨λ_=>rfl,λ_ _=>rfl,λ_ _ _ _ _=>om⟩
def Cm.lex{α:Type}{c d:α->α->Int}(h:Cm c)(k:Cm d):Cm λx y=>if c x y=0 then d x y else c x y:=by
 refine⟨λx=>by simp only[h.refl,ep4,k.refl],λx y=>?_,λx y z a b=>?_⟩
 .have e:=h.anti x y;have f:=k.anti x y;by_cases hq:c x y=0
  .show(if c y x=0 then d y x else c y x) = - (if c x y=0 then d x y else c x y);rw[if_pos (show c y x=0 by omega),if_pos hq,f]
  .show(if c y x=0 then d y x else c y x) = - (if c x y=0 then d x y else c x y);rw[if_neg (show ¬c y x=0 by omega),if_neg hq,e]
 .have e:=h.anti x y;have f:=h.anti y z;have n:=h.anti x z
  change (if c x y=0 then d x y else c x y)<=0 at a
  change (if c y z=0 then d y z else c y z)<=0 at b
  show(if c x z=0 then d x z else c x z)<=0;have g:c x y<=0:=by split at a<;>omega
  have i:c y z<=0:=by split at b<;>omega
  have j:=h.trans x y z g i;by_cases hq:c x z=0
  .rw[if_pos hq];have o:=h.trans y z x i om;have p:=h.trans z x y om g;have l:c x y=0:=om
   have m:c y z=0:=om
   rw[if_pos l]at a;rw[if_pos m]at b;exact k.trans x y z a b
  .rw[if_neg hq];exact j
def aS2:Cm M6:=by
 refine⟨λx=>?_,λx y=>?_,λx y z=>?_⟩<;>unfold M6
 .simp
 .split<;>split<;>(try split)<;>omega
 .intro a b;split at a<;>(try split at a)<;>split at b<;>(try split at b)<;>split<;>(try split)<;>omega
def ah6(a b:B3):Int:=if ltS a b then -1 else if ltS b a then 1 else 0
def cx3:Cm ah6:=by
 refine⟨λx=>?_,λx y=>?_,λx y z=>?_⟩<;>unfold ah6
 .simp[N8]
 .cases a:ltS x y<;>cases b:ltS y x<;>simp;have:=ay7 a b;rw[N8]at this;cases this
 .intro a b;cases h3:ltS z x
  .cases ltS x z<;>simp
  .exfalso
   cases h4:ltS y x
   .cases h5:ltS z y
    .have c:=bq3 (ac1.1 h4) (ac1.1 h5);exact absurd h3 (by rw[ac1.2 c];simp)
    .cases h6:ltS y z
     .rw[h6,h5]at b;simp at b
     .have:=ay7 h5 h6;rw[N8]at this;cases this
   .cases h6:ltS x y
    .rw[h6,h4]at a;simp at a
    .have:=ay7 h4 h6;rw[N8]at this;cases this
def ag0{a b:Int}(h:M6 a b=0):a=b:=by
 unfold M6 at h;split at h
 .omega
 .split at h<;>omega
def aH7{a b:B3}(h:ah6 a b=0):a=b:=by
 unfold ah6 at h;cases h1:ltS a b
 .cases h2:ltS b a
  .exact cc1 h1 h2
  .rw[h1,h2]at h;simp at h
 .rw[h1]at h;simp at h
def Gr(w b:World):Prop:=∃q a,b=grow (w.drewN q) a
def Gr.refl(w:World):Gr w w:=⟨0,#[],by rw[grow_empty];rfl⟩
def Gr.alloc(w:World)(o:Obj):Gr w (w.alloc o):=⟨0,#[o],by rw[alloc_eq_grow];rfl⟩
def Gr.drew(w:World):Gr w w.drew:=⟨1,#[],by rw[grow_empty];rfl⟩
def Gr.trans{a b c:World}(h:Gr a b)(k:Gr b c):Gr a c:=by
 obtain⟨q,d,rfl⟩:=h;obtain⟨p,f,rfl⟩:=k;refine⟨q+p,d++f,?_⟩;have e:(grow (a.drewN q) d).drewN p=grow (a.drewN (q+p)) d:=by
  show grow ((a.drewN q).drewN p) d=_
  congr 1
  simp[World.drewN,et9]
 rw[e,grow_grow]
def Gr.ext{a b:World}(h:Gr a b):o6 a b:=by
 obtain⟨q,d,rfl⟩:=h;have e:o6 a (a.drewN q):=⟨rfl,rfl,rfl,ek6 _,λ_ _ _=>rfl⟩;refine e.trans ⟨rfl,rfl,rfl,?_,λc f _=>?_⟩
 .show _<=((a.drewN q).heap++d).size;rw[Array.size_append];omega
 .show((a.drewN q).heap++d)[c]?=_;rw[Array.getElem?_append_left f]
section
variable {α:Type} [A6 α] [p8 α] [Inhabited α] {P:Program} {ρ:Ren} {h:Hp} {w:World} {T:TypeId} {v:Value} {xs:List α}
def dw8{b:Nat}{a:Array Value}(e:w.heap[b]?=some (.cells a T (0,0)))(h:a.toList.take (xs.length*A6.sz α)=xs.flatMap p8.cells):HoldsK p8.cells (A6.sz α) w b 0 xs.toArray:=λj c=>by
 have g:=bF2 p8.cells (A6.pos (α:=α)) ay4 xs.toArray;rw[List.toList_toArray,<-h]at g;have d:j<xs.length*A6.sz α:=by simpa using c
 rw[en0,er9 w b j a _ (0,0) e];refine⟨?_,frozen_of_row w b j a _ e⟩;have f:=el1 (λz=>z[j]?) g;simp only[eu9,et6,if_pos d,et7 c]at f;rw[getElem!_pos _ j c];exact f.symm
def aX6(L:SlLaysF0.n6 P ρ)(N:∀w,(isAgg (ρ.t 24)).run P w = .ok true w)(zE:∀w,(Go.sizeOf (ρ.t 24)).run P w = .ok (A6.sz α) w)(o:α->α->Int)(A:Cm o)(g:Nat)(S:∀args w,(callFunc g args).run P w = .ok (.enter g args) w)
  (t:∀x y w,Calls P g #[.agg (p8.cells x).toArray,.agg (p8.cells y).toArray] w λe r=>e = .returned (.int .i64 (o x y))/\Gr w r)
  (ho:B0 h w T v xs) (hl:xs.length<=1000000000) (q:∀a∈xs,∀b∈xs,decide (o a b<=0)=true->decide (o b a<=0)=true->a=b) :
  Calls P (ρ.f 6) #[v,.func (.func g) #[] #[]] w λe r=>∃u,e = .returned u/\(B0 h r T v (ad5 (λa b=>decide (o a b<=0)) xs)/\p6 (A5 v) w r):=by
 rcases cK9 ho with⟨rfl,rfl⟩|⟨b,c,O,rfl,B,s,C,U,J,V⟩
 .refine(AnyF.slices_SortFunc_none L none 0 _ w).mono ?_;rintro e r ⟨rfl,rfl⟩;exact⟨_,rfl,B0.nil _ _ _,p6.refl _⟩
 .have D:b<w.heap.size:=(ej4.1 s).1;have:=AnyQ.slices_SortFunc L (A6.sz α) N zE p8.cells ay4 Z0 o A.swo g #[] b 0 c xs.toArray w S (λm M dk _ x y=>t x y _) (dw8 s V) D (by simp;omega);rw[et4]at this;refine this.mono ?_;rintro e r ⟨rfl,f,n,M,hp,hs,rfl⟩;obtain⟨I,_,d⟩:=hp;have p:f.size=xs.length:=by simpa using I
  have X:f.toList=ad5 (λa b=>decide (o a b<=0)) xs:=by
   have Q:f.extract 0 xs.length=f:=by rw[<-p];exact Array.extract_size
   rw[Q]at d;have R:(xs.toArray.extract 0 xs.length).toList=xs:=by
    have:=@Array.extract_size _ xs.toArray;rw[et4]at this;rw[this]
   rw[R]at d;refine aO1 (le:=λa b=>decide (o a b<=0)) (d.trans (I0 _ _).symm) ?_ ?_ ?_
   .intro a W b D;exact q a (d.mem_iff.1 W) b (d.mem_iff.1 D)
   .rw[ep5];intro i j Y Z G;have F:i<f.size:=by simpa using Y
    have H:j<f.size:=by simpa using Z
    have:=hs i j (ek1 _) G om;rw[getElem!_pos f j H,getElem!_pos f i F]at this;simp only[ltOf,ew5]at this;have a1:=A.anti f[i] f[j];simp only[Array.getElem_toList,em7];omega
   .exact ao4 (λa _ b _=>A.total a b) (λa _ b _ c _ B s=>ep1 (A.trans a b c (ej3 B) (ej3 s)))
  have E:=bF2 p8.cells (A6.pos (α:=α)) ay4 f;have z:(flatK p8.cells (A6.sz α) f).size=xs.length*A6.sz α:=by rw[size_flatK,p]
  obtain⟨K,k2⟩:=cd6 s id (flatK p8.cells (A6.sz α) f) (by rw[z,J];exact es3 _ C) n M;refine⟨_,rfl,?_,k2.weaken λ_ _ e=>by subst e;rfl⟩;have k:(ad5 (λa b=>decide (o a b<=0)) xs).length=xs.length:=(I0 _ _).length_eq;rw[List.map_id,E,X]at K;have:=bj6 (l:=ad5 (λa b=>decide (o a b<=0)) xs) B K (by rw[k];exact C) U ?_ ?_
  .rw[k]at this;exact this
  .have aa:=es3 (A6.sz α) C;simp only[et4,ej2,ae1,k,eo9,ew1,z,J];omega
  .simp only[];rw[<-ae1,es9]
end
end
def O7:=zJ (zJ (zJ (zJ (zJ (zJ @bB8 @dZ2) (zJ @dY5 @dO7)) (zJ (zJ @dY8 @ec6) (zJ @dY6 (zJ @dY7 @ec7)))) (zJ (zJ (zJ @ec3 @dW3) (zJ @ec4 (zJ @ec5 @dP9))) (zJ (zJ @dN4 @dQ0) (zJ @dQ1 (zJ @eb0 @ea9))))) (zJ (zJ (zJ (zJ @ed1 @eh1) (zJ @eh5 (zJ @dO5 @eb9))) (zJ (zJ @dO6 @ec0) (zJ @ef5 (zJ @eh4 @dy8)))) (zJ (zJ (zJ @dU2 @dy9) (zJ @dU3 (zJ @dU4 @dK1))) (zJ (zJ @dE0 @dD9) (zJ @dU1 (zJ @ef7 @ef6)))))) (zJ (zJ (zJ (zJ (zJ @dK0 @ef9) (zJ @ef8 (zJ @eb7 @ds9))) (zJ (zJ @dT1 @ef0) (zJ @dy5 (zJ @dO4 @dJ6)))) (zJ (zJ (zJ @ee4 @ef1) (zJ @dO3 (zJ @eb6 @dT4))) (zJ (zJ @eb5 @ev.eq_1) (zJ @ev.eq_2 (zJ @ev.eq_3 @ev.eq_4))))) (zJ (zJ (zJ (zJ @C5.eq_1 @C5.eq_2) (zJ @eg9 (zJ @ef3 @ec1))) (zJ (zJ @ec2 @List.map_cons.{0,0}) (zJ @List.map_nil.{0,0} (zJ @List.map_toArray.{0,0} @ch4.eq_1)))) (zJ (zJ (zJ @ch4.eq_2 @dO0) (zJ @df7.eq_1 (zJ @List.getElem?_toArray.{0} @List.getElem?_cons_zero.{0}))) (zJ (zJ @List.getElem?_cons_succ.{0} @Option.bind_some.{0,0}) (zJ @Option.some.injEq.{0} (zJ @ep8 @Bool.true_eq_false))))))
def W0:=zJ (zJ (zJ (zJ @Option.map_some.{0,0} (zJ @Option.map_none.{0,0} @Int.toNat_zero)) (zJ (zJ @Option.isNone_none.{0} @Option.isNone_some.{0}) (zJ @M8 @ca6.eq_1))) (zJ (zJ @ca6.eq_2 (zJ @dv2.eq_1 @bv1.eq_1)) (zJ (zJ @bv1.eq_2 @dj0.eq_1) (zJ @di7.eq_1 @TY)))) (zJ (zJ (zJ @Option.isSome_some.{0} (zJ @eq4 @Bool.and_true)) (zJ (zJ @es6 @el5) (zJ @ee1 @Int.cast_ofNat_Int))) (zJ (zJ @decide_true (zJ @add_lit @en0)) (zJ (zJ @Nat.zero_mul @Nat.one_mul) (zJ @Bool.not_true @Bool.not_false))))
def cA7(n m:Int):Int:=if m<1 then 0 else if n.tmod m<0 then n.tmod m+m else n.tmod m
def cc3(n m:Int)(w:World)(e:m<=1000000000):y5 prog 27 #[.int .i64 n,.int .i64 m] w λv g=>(v = .int .i64 (cA7 n m)/\g=w):=by
 refine z6 [.int .i64 n,.int .i64 m] func27 rfl ?_;simp only[O7,W0,D1,I1,simprocAttr];refine A8 (λh=>?_) (λh=>?_)
 .simp only[O7,simprocAttr];refine o8 results27 ?_;simp only[B8,simprocAttr];have b:m<1:=by simpa using h
  exact⟨by rw[cA7,if_pos b],tt⟩
 .have b:¬m<1:=by simpa using h
  have d:¬m=0:=om
  simp only[O7,D1,I1,simprocAttr,d];refine A8 (λc=>?_) (λc=>?_)
  .have a:n.tmod m<0:=by simpa using c
   have i : -m<n.tmod m:=by have:=Int.lt_tmod_of_pos n (show 0<m by omega);omega
   have f:IntKind.i64.wrap (n.tmod m+m)=n.tmod m+m:=M7 _ om;simp only[O7,D1,I1,simprocAttr,f];refine o8 results27 ?_;simp only[B8,simprocAttr];exact⟨by rw[cA7,if_neg b,if_pos a],tt⟩
  .have a:¬n.tmod m<0:=by simpa using c
   simp only[O7,simprocAttr];refine o8 results27 ?_;simp only[B8,simprocAttr];exact⟨by rw[cA7,if_neg b,if_neg a],tt⟩
def el8:=@List.length_filter_le
def W3:G7 prog 45 3 1 8=true:=kr
def bl6:G7 prog 95 4 1 1=true:=kr
def dV6:G7 prog 206 208 2 16=true:=kr
def cC5:G7 prog 261 45 1 24=true:=kr
def bF5{α β:Type}(g:β->α->β)(b:β)(l:List α)(k:Nat)(a:k<l.length):(l.take (k+1)).foldl g b=g ((l.take k).foldl g b) l[k]:=by
 rw[ej8 a,List.foldl_append];rfl
def aj5(l:List Bool)(k:Nat):List Int:=((List.range k).filter λi=>l[i]?.getD false).map λ(i:Nat)=>(i:Int)
def bi5(l:List Bool)(k:Nat):aj5 l (k+1)=if l[k]?.getD false then aj5 l k++[(k:Int)]else aj5 l k:=by
 unfold aj5;rw[eu5,ep9,em6];by_cases h:l[k]?.getD false=true<;>simp[h]
def cn4(l:List Bool)(k:Nat):(aj5 l k).length<=k:=by
 unfold aj5;rw[ek2];exact ej7 (el8 _ _) dP
def cA3(v:Value)(l:List Bool)(w:World)(hv:R (i5 w) v l)(A:l.length<=1000000):y5 prog 260 #[v] w λu c=>(B0 (i5 w) c 3 u (aj5 l l.length)/\o6 w c):=by
 refine z6 [v] func260 rfl ?_;simp only[O7,W0,ab0,simprocAttr,hv.isS,hv.vlen];refine A9 [6,7] (σ:=Nat) (λk f c=>f 8 = .int .i64 k/\k<=l.length/\B0 (i5 w) c 3 (f 3) (aj5 l k)/\o6 w c) (λk=>l.length-k) 0 ?_ ?_
 .exact⟨rfl,ek1 _,B0.nil _ _ _,p6.refl _⟩
 .rintro k f c ⟨o,p,_⟩ ⟨g,s,h,d⟩;simp only[O7,D1,I1,simprocAttr,g,p];refine A3 (λa=>?_) ?_
  .have i:=O4 (P:=prog) (t:=4) hv (b7 d) (ej0 a) ai9;simp only[O7,W0,A0,O8.val,simprocAttr,g,o,hv.inS a,i];refine A8 (λb=>?_) (λb=>?_)
   .have n:=cn4 l k;obtain⟨j,B,C,m,q,r,z⟩:=push (e:=45) W3 rfl h (x:=.int .i64 k) (y:=(k:Int)) rfl om om (b7 d);simp only[Value.cells]at j m;simp only[O7,D1,I1,simprocAttr,g,j,m];refine V1 (k+1) ⟨?_,h.ext2 d r⟩;rw[bi5,if_pos (by simp[a,b])];exact q
   .simp only[O7,D1,I1,simprocAttr,g];refine V1 (k+1) ⟨?_,d⟩;rw[bi5,if_neg (by simp[a,b])];exact h
  .rintro rfl;simp only[O7,simprocAttr];exact o8 results260 ⟨h,d⟩
def dE3(w:World)(a b:Int):
  (Instr.alloc 208 true (.tuple #[])).run prog w = .ok (.pointer (some ⟨w.heap.size,0,none⟩)) (w.alloc (.cells #[.int .i64 0,.int .i64 0] 208)) /\
  (Instr.storeAt 208 (.pointer (some ⟨w.heap.size,0,none⟩)) (.agg #[.int .i64 a,.int .i64 b])).run prog (w.alloc (.cells #[.int .i64 0,.int .i64 0] 208)) =
   .ok () (w.alloc (.cells #[.int .i64 a,.int .i64 b] 208)):=
 aI8 (P:=prog) (T:=208) dp8 (by rw[bL4];rfl) (cs:=#[.int .i64 a,.int .i64 b]) (by rw[bL4];rfl) (by simp[Value.oneCell'])
def dE1(w:World)(a b:Int):(Instr.loadAt 3 (.pointer (some ⟨w.heap.size,0,none⟩))).run prog (w.alloc (.cells #[.int .i64 a,.int .i64 b] 208)) = .ok (.int .i64 a) (w.alloc (.cells #[.int .i64 a,.int .i64 b] 208)):=
 di2 (by rfl) K1
def dE2(w:World)(a b:Int):(Instr.loadAt 3 (.pointer (some ⟨w.heap.size,1,none⟩))).run prog (w.alloc (.cells #[.int .i64 a,.int .i64 b] 208)) = .ok (.int .i64 b) (w.alloc (.cells #[.int .i64 a,.int .i64 b] 208)):=
 di2 (by rfl) K1
def ldP{h:Hp}{w:World}{v:Value}{xs:List (Int×Int)}(b:R h v xs)(hw:E2 h (i5 w)){k:Nat}{x:Int×Int}(a:xs[k]?=some x):
  (Instr.loadAt 208 (.pointer (some (G8 v (k*2))))).run prog w = .ok (.agg #[.int .i64 x.1,.int .i64 x.2]) w:=
 cc0 b hw a dn6 dp1 cE1 bL4
def bu1(n:Nat)(e:Int×Int):Prop:=0<=e.1/\e.1<n/\0<=e.2/\e.2<n
end Go.Proofs.YtpebpfiglfmegaaGreat
namespace Go.Proofs
open Go.Shelf
def Tryz.layI_ren:Go.Shelf.Ren:=⟨fun|21=>313|27=>334|28=>335|35=>343|39=>345|n=>n,fun|22=>45|3=>3|4=>4|0=>0|n=>n,fun|n=>n⟩
def Tryz.layI:Go.Proofs.Lays2.n21 Tryz.prog Tryz.layI_ren:={
 mixed:=kr
 f21:=tT Tryz.func313
 f27:=tT Tryz.func334
 f28:=tT Tryz.func335
 f35:=tT Tryz.func343
 f39:=tT Tryz.func345
 t0:=Tryz.underlying0
 a0:=Tryz.isAgg0
 z0:=Tryz.sizeOf0
 v0:=Tryz.zeroValue0
 t3:=Tryz.underlying3
 a3:=Tryz.isAgg3
 z3:=Tryz.sizeOf3
 v3:=Tryz.zeroValue3
 t4:=Tryz.underlying4
 a4:=Tryz.isAgg4
 z4:=Tryz.sizeOf4
 v4:=Tryz.zeroValue4
 t22:=Tryz.underlying45
 a22:=Tryz.isAgg45
 z22:=Tryz.sizeOf45
 v22:=Tryz.zeroValue45
 i3:=by kernel_rfl}
def Tryz.layB_ren:Go.Shelf.Ren:=⟨fun|25=>312|31=>165|32=>333|37=>182|n=>n,fun|22=>45|3=>3|4=>4|40=>164|0=>0|n=>n,fun|n=>n⟩
def Tryz.layB:Go.Proofs.Lays2.n25 Tryz.prog Tryz.layB_ren:={
 mixed:=kr
 f25:=tT Tryz.func312
 f31:=tT Tryz.func165
 f32:=tT Tryz.func333
 f37:=tT Tryz.func182
 t0:=Tryz.underlying0
 a0:=Tryz.isAgg0
 z0:=Tryz.sizeOf0
 v0:=Tryz.zeroValue0
 t3:=Tryz.underlying3
 a3:=Tryz.isAgg3
 z3:=Tryz.sizeOf3
 v3:=Tryz.zeroValue3
 t4:=Tryz.underlying4
 a4:=Tryz.isAgg4
 z4:=Tryz.sizeOf4
 v4:=Tryz.zeroValue4
 t22:=Tryz.underlying45
 a22:=Tryz.isAgg45
 z22:=Tryz.sizeOf45
 v22:=Tryz.zeroValue45
 t40:=Tryz.underlying164
 a40:=Tryz.isAgg164
 z40:=Tryz.sizeOf164
 v40:=Tryz.zeroValue164}
end Go.Proofs
namespace Go.Proofs.YtpebpfiglfmegaaGreat
open Go Tryz
def em3:=@List.length_singleton
def Q0(l:List Int):List Value:=l.map (Value.int .i64)
def G9{h:Hp}:∀{l:List Int} {a:List Value},Q9 h a l↔a=Q0 l
 | [],a=>er4
 | x::l,a=>by
  constructor
  .rintro⟨c,f,rfl,d,e⟩;have b:c=[.int .i64 x]:=d;rw[b,G9.1 e];rfl
  .rintro rfl;exact⟨[.int .i64 x],Q0 l,rfl,rfl,G9.2 rfl⟩
def cm5(l:List Int):∀v∈Q0 l,v.oneCell'=true:=by
 intro v a;obtain⟨x,_,rfl⟩:=el2.1 a;rfl
def dh3{l:List Int}{j:Nat}(a:j<l.length):(Q0 l)[j]?=some (.int .i64 (l.getD j 0)):=by
 simp[Q0,em8,ej0 a,List.getD]
def ac4{b:Nat}{T:TypeId}:∀(d:List Value) (c:Nat) (w:World) (a:Array Value),w.heap[b]?=some (.cells a T (0,0))->c+d.length<=a.size ->
  (w.setCells b c d).heap[b]?=some (.cells (a.toList.take c++d++a.toList.drop (c+d.length)).toArray T (0,0))
 | [],c,w,a,hb,_=>by simp[World.setCells,hb]
 | v::d,c,w,a,hb,hl=>by
  simp only[em1]at hl;have g:=heap_setCell_same w b c a T v hb;rw[World.setCells,ac4 d (c+1) _ _ g (by simp;omega)];have e:a.toList.length=a.size:=dP
  simp only[Array.toList_setIfInBounds,em1]
  congr 3
  rw[List.take_set,ej8 om,List.set_append_right (h:=by simp;omega)];have f:c-(a.toList.take c).length=0:=by simp;omega
  rw[f,List.drop_set_of_lt om];simp[el9,et9,Nat.add_comm 1]
def ag9{b:Nat}{M:Nat->Prop}(d:M b):∀(c:List Value) (a:Nat) (w:World),p6 M w (w.setCells b a c)
 | [],_,w=>p6.refl w
 | v::c,a,w=>(p6.setCell w ⟨b,a,none⟩ v d).trans (ag9 d c (a+1) _)
def p6.drew{M:Nat->Prop}(w:World):p6 M w w.drew:=(o6.drew w).weaken λ_ _ h=>h.elim
def p6.alloc{M:Nat->Prop}(w:World)(o:Obj):p6 M w (w.alloc o):=(o6.alloc w o).weaken λ_ _ h=>h.elim
def p6.drewN{M:Nat->Prop}(w:World)(q:Nat):p6 M w (w.drewN q):=⟨rfl,rfl,rfl,ek6 _,λ_ _ _=>rfl⟩
section
variable {h:Hp} {w:World} {v:Value} {l:List Int}
def cp5(o:B0 h w 3 v l):(v = .slice none 0 0/\l=[])\/∃b c a,v = .slice (some ⟨b,0,none⟩) l.length c/\h b=none/\w.heap[b]?=some (.cells a 3 (0,0))/\l.length<=c/\c<=maxLen/\a.size=c/\a.toList.take l.length=Q0 l:=by
 rcases o with n|⟨b,c,a,e,d,f,g,i,j,k⟩
 .exact .inl n
 .refine .inr ⟨b,c,a,e,d,f,g,i,by simpa[A6.sz]using j,?_⟩;have:=G9.1 k;have m:l.length*A6.sz Int=l.length:=es6 _;rw[m]at this;exact this
def bx5{b c:Nat}{a:Array Value}(d:h b=none)(e:w.heap[b]?=some (.cells a 3 (0,0)))(f:l.length<=c)(g:c<=maxLen)(i:a.size=c)(j:a.toList.take l.length=Q0 l):
  B0 h w 3 (.slice (some ⟨b,0,none⟩) l.length c) l:=by
 refine .inr ⟨b,c,a,rfl,d,e,f,g,by rw[i];exact(es6 c).symm,?_⟩;have k:l.length*A6.sz Int=l.length:=es6 _;rw[k,j];exact G9.2 rfl
def dJ0:(Tryz.layI_ren.f 21)=313:=kr
def dI9:(Tryz.layB_ren.f 25)=312:=kr
def bH1:(Tryz.layI_ren.t 3)=3:=kr
def bJ6(x:Int)(k:B0 h w 3 v l)(s:l.length<=1000000000)(m:l.Pairwise (· <= ·)):
  y5 prog 312 #[v,.int .i64 x] w λu d=>(u = .tuple #[.int .i64 (l.countP (· < x):Nat),.bool (l.contains x)]/\o6 w d):=by
 rw[<-dI9];rcases cp5 k with⟨rfl,rfl⟩|⟨b,c,a,rfl,n,g,o,p,r,i⟩
 .refine(Any.slices_BinarySearch_int_empty Tryz.layB none 0 x w).mono ?_;rintro e d ⟨rfl,rfl⟩;exact⟨_,rfl,rfl,p6.refl _⟩
 .refine(Any.slices_BinarySearch_int Tryz.layB b 0 l.length c l x w (ek6 _) om ?_ (by rw[ek4];exact m)).mono ?_
  .intro j f;rw[en0,er9 w b j a _ (0,0) g];have:=dh3 f;rw[<-i,et6,if_pos f]at this;simpa using this
  .rintro e d ⟨rfl,q,rfl⟩;rw[ek4];exact⟨_,rfl,rfl,p6.drewN _ _⟩
def bG6(x:Int)(i J:Nat)(w0:World)(F:w=w0.alloc (.cells #[.int .i64 x] 3))(ho:B0 h w0 3 v l)(hi:i<=l.length)(hl:l.length<=1000000000)(hw:E2 h (i5 w0)):
  y5 prog 313 #[v,.int .i64 i,.slice (some ⟨w0.heap.size,0,none⟩) 1 J] w λu o=>(B0 h o 3 u (l.take i++x::l.drop i)/\p6 (A5 v) w0 o/\E7 w0 v u):=by
 rw[<-dJ0];have Z:p6 (A5 v) w0 w:=by rw[F];exact p6.alloc _ _
 have E:w.heap[w0.heap.size]?=some (.cells #[.int .i64 x] 3 (0,0)):=by rw[F];exact em9 w0 _
 have aB:w.heap.size=w0.heap.size+1:=by rw[F];simp
 have D:∀(j:Nat) (u:Value),[Value.int .i64 x][j]?=some u->w.cell? ⟨w0.heap.size,0+j,none⟩=some u:=by
  intro j u t;rw[en0,er9 w _ j _ _ (0,0) E];simpa using t
 have z:∀v∈[Value.int .i64 x],v.oneCell'=true:=by simp[Value.oneCell']
 have hE:o6 w0 w:=by rw[F];exact o6.alloc _ _
 have al:B0 h w 3 v l:=ho.ext hE;have an:E2 h (i5 w):=p7 hw (b7 hE);have s:∀(o:World) (d:Array Value) (n c:Nat),o6 w o->o.heap[w.heap.size]?=some (.cells d 3 (0,0))->n=l.length+1->n<=c->c<=maxLen->d.size=c ->
   d.toList.take n=Q0 (l.take i++x::l.drop i) ->
   B0 h o 3 (.slice (some ⟨w.heap.size,0,none⟩) n c) (l.take i++x::l.drop i)/\p6 (A5 v) w0 o/\E7 w0 v (.slice (some ⟨w.heap.size,0,none⟩) n c):=by
  intro o d n c he X hn hc ah hs B;have q:(l.take i++x::l.drop i).length=n:=by simp;omega
  refine⟨?_,Z.trans (he.weaken λ_ _ h=>h.elim),λb hb=>by simp[A5,Value.ownBlock]at hb;exact .inr om⟩;have:=bx5 (h:=h) (w:=o) (l:=l.take i++x::l.drop i) (aM1 an (ek6 _)) X om ah hs (by rw[q];exact B);rw[q]at this;exact this
 rcases cp5 al with⟨rfl,rfl⟩|⟨b,c,g,rfl,h1,P,h3,h4,h5,h6⟩
 .have ak:i=0:=by simpa using hi
  subst ak;refine(Any2.slices_Insert_int_end_grow Tryz.layI none 0 0 w0.heap.size 0 1 J [] [.int .i64 x] w om om om om rfl rfl (λ_=>rfl) (λa ha=>by cases ha) D z).mono ?_;rintro e o ⟨rfl,rfl⟩;refine⟨_,rfl,s _ _ _ _ ((o6.drew w).trans (o6.alloc _ _)) (by rw[bH1];exact em9 w.drew _) rfl (grownCap_ge _ _ _ _) (grownCap_le_maxLen _ _ _ _ dQ) ?_ ?_⟩
  .have:=grownCap_ge w 1 0 (Tryz.layI_ren.t 3);rw[bH1]at this ⊢;simp[size_zeroCells,Value.cells]at this ⊢;omega
  .simp[Q0]
 .have f:(Q0 l).length=l.length:=by simp[Q0]
  have A:∀j,w.cell? ⟨b,j,none⟩=g[j]?:=λj=>er9 w b j g _ (0,0) P;have p:∀(j:Nat) (u:Value),(Q0 l)[j]?=some u->w.cell? ⟨b,0+j,none⟩=some u:=by
   intro j u t;rw[en0,A];rw[<-h6,et6]at t;split at t
   .simpa using t
   .cases t
  have C:∀j,j<c->(w.cell? ⟨b,0+j,none⟩).isSome=true:=by
   intro j t;rw[en0,A];simp[h5,t]
  have V:∀j,w.frozen? ⟨b,j,none⟩=false:=λj=>by simp[World.frozen?,P]
  have B:g.toList.length=c:=by simpa using h5
  have Q:w0.heap.size≠b:=by
   intro e;have:=ho.lt (b:=b) (by simp[A5,Value.ownBlock]);omega
  have r:∀(o:World) (d:Array Value),p6 (λk=>k=b) w o->o.heap[b]?=some (.cells d 3 (0,0))->l.length+1<=c->d.size=c ->
    d.toList.take (l.length+1)=Q0 (l.take i++x::l.drop i) ->
    B0 h o 3 (.slice (some ⟨b,0,none⟩) (l.length+1) c) (l.take i++x::l.drop i)/\p6 (A5 (.slice (some ⟨b,0,none⟩) l.length c)) w0 o/\E7 w0 (.slice (some ⟨b,0,none⟩) l.length c) (.slice (some ⟨b,0,none⟩) (l.length+1) c):=by
   intro o d hm X hc hs B;have q:(l.take i++x::l.drop i).length=l.length+1:=by simp;omega
   refine⟨?_,Z.trans (hm.weaken λk _ hk=>by simp[A5,Value.ownBlock,hk]),λk hk=>.inl (by simpa[A5,Value.ownBlock]using hk)⟩;have:=bx5 (h:=h) (w:=o) (l:=l.take i++x::l.drop i) (c:=c) h1 X om h4 hs (by rw[q];exact B);rw[q]at this;exact this
  have m:Q0 (l.take i++x::l.drop i)=(Q0 l).take i ++ .int .i64 x::(Q0 l).drop i:=by simp[Q0]
  by_cases hin:i=l.length
  .subst hin;by_cases hroom:l.length+1<=c
   .refine(Any2.slices_Insert_int_end_room Tryz.layI b 0 l.length c w0.heap.size 0 1 J [.int .i64 x] w om hroom h4 rfl (λj t=>?_) (λj t=>V _) D z).mono ?_
    .rw[en0];have:=C (l.length+j) om
     rwa [en0]at this
    .rintro e o ⟨rfl,rfl⟩;have X:=ac4 [Value.int .i64 x] (0+l.length) w g P (by simp;omega);refine⟨_,rfl,r _ _ (ag9 (M:=λk=>k=b) rfl _ _ _) X hroom ?_ ?_⟩
     .simp[h5];omega
     .rw[m,en0,h6];have N:(Q0 l).take l.length=Q0 l:=by rw[<-f,ek4]
      have e2:(Q0 l).drop l.length=[]:=by rw[<-f,et1]
      rw[N,e2];have O:(Q0 l++[Value.int .i64 x]).length=l.length+1:=by simp[f]
      simp only[];rw[<-O,es9]
   .refine(Any2.slices_Insert_int_end_grow Tryz.layI (some ⟨b,0,none⟩) l.length c w0.heap.size 0 1 J (Q0 l) [.int .i64 x] w om h3 om om f rfl (λh=>by cases h) (λa ha j u t=>?_) D z).mono ?_
    .obtain rfl:=el4 ha;rw[Addr.add_lit];exact p j u t
    .rintro e o ⟨rfl,rfl⟩;have L:=grownCap_ge w (l.length+1) c (Tryz.layI_ren.t 3);refine⟨_,rfl,s _ _ _ _ ((o6.drew w).trans (o6.alloc _ _)) (by rw[bH1];exact em9 w.drew _) rfl L (grownCap_le_maxLen _ _ _ _ (by simp only[maxLen];omega)) ?_ ?_⟩
     .rw[bH1]at L ⊢;simp[size_zeroCells,Value.cells,f]at L ⊢;omega
     .rw[m];have N:(Q0 l).take l.length=Q0 l:=by rw[<-f,ek4]
      have e2:(Q0 l).drop l.length=[]:=by rw[<-f,et1]
      rw[N,e2];simp only[Array.toList_append];rw[ep6 (by simp[f])];rw[en6 (by simp[f])]
  .have Y:i<l.length:=om
   by_cases hroom:l.length+1<=c
   .refine(Any2.slices_Insert_int_shift Tryz.layI b 0 l.length c i w0.heap.size 0 1 J (Q0 l) [.int .i64 x] w Y om hroom h4 Q f rfl p (λj t=>C j om) (λj _=>V _) D (cm5 l) z
     3 3 1 c (by simp[World.shape?,E]) (by simp[World.shape?,P,h5]) om (by simp[World.frozen?,E]) (by simp[World.frozen?,E])).mono ?_
    rintro e o ⟨rfl,rfl⟩;have K:((Q0 l).drop i).length=l.length-i:=by simp[f]
    have H:=ac4 ((Q0 l).drop i) (0+(i+1)) w.drew g P (by rw[K];omega);have I:=ac4 [Value.int .i64 x] (0+i) _ _ H (by simp[K];omega);refine⟨_,rfl,r _ _ ((p6.drew w).trans ((ag9 (M:=λk=>k=b) rfl _ _ _).trans (ag9 (M:=λk=>k=b) rfl _ _ _))) I hroom ?_ ?_⟩
    .simp[K];omega
    .rw[m];simp only[en0,em3];have N:(Q0 l).take i=g.toList.take i:=by rw[<-h6,List.take_take];congr 1;omega
     have e3:(g.toList.take (i+1)).length=i+1:=by rw[ek3,B];omega
     have e4:(g.toList.take (i+1)++(Q0 l).drop i++g.toList.drop (i+1+((Q0 l).drop i).length)).take i=g.toList.take i:=by
      rw[el9,ep6 om,List.take_take];congr 1;omega
     have e5:(g.toList.take (i+1)++(Q0 l).drop i++g.toList.drop (i+1+((Q0 l).drop i).length)).drop (i+1)=(Q0 l).drop i++g.toList.drop (i+1+((Q0 l).drop i).length):=by
      rw[el9,List.drop_append_of_le_length om,List.drop_of_length_le om,er6]
     rw[e4,e5,N];have O:(g.toList.take i++[Value.int .i64 x]++(Q0 l).drop i).length=l.length+1:=by simp[f];omega
     rw[<-el9,<-O,es9];simp
   .refine(Any2.slices_Insert_int_grow Tryz.layI b 0 l.length c i w0.heap.size 0 1 J (Q0 l) [.int .i64 x] w Y om h3 om om f rfl p D (cm5 l) z).mono ?_;rintro e o ⟨rfl,rfl⟩;have L:=grownCap_ge w (l.length+1) c (Tryz.layI_ren.t 3);have W:=grownCap_le_maxLen w (l.length+1) c (Tryz.layI_ren.t 3) (by simp only[maxLen];omega);generalize grownCap w (l.length+1) c (Tryz.layI_ren.t 3)=G at L W;have ao:(Value.int .i64 0).cells.size=1:=rfl;generalize R:((Q0 l).take i).toArray++Builtin.zeroCells (Value.int .i64 0).cells (l.length+1-i)++Builtin.zeroCells (Value.int .i64 0).cells (G-(l.length+1))=y;have T:y.size=G:=by
     rw[<-R];simp[size_zeroCells,ao,f];omega
    have U:y.toList.take i=(Q0 l).take i:=by
     rw[<-R];simp only[Array.toList_append,el9];rw[ep6 (by simp[f];omega),en6 (by simp;omega)]
    have S:y.toList.length=G:=by simpa using T
    have aj:((w.alloc (.cells y (Tryz.layI_ren.t 3))).drew).heap[w.heap.size]?=some (.cells y 3 (0,0)):=by rw[bH1];exact em9 w _
    have K:((Q0 l).drop i).length=l.length-i:=by simp[f]
    have H:=ac4 [Value.int .i64 x] i _ _ aj (by simp;omega);have I:=ac4 ((Q0 l).drop i) (i+1) _ _ (show((((w.alloc (.cells y (Tryz.layI_ren.t 3))).drew).setCells w.heap.size i [Value.int .i64 x]).drew).heap[w.heap.size]?=_ from H) (by simp[K];omega);refine⟨_,rfl,s _ _ _ _ ?_ I rfl L W ?_ ?_⟩
    .refine p6.ext_of (o6.alloc w (.cells y (Tryz.layI_ren.t 3))) (M:=λk=>k=w.heap.size) ?_ (λk hk=>om);exact(p6.drew _).trans ((ag9 (M:=λk=>k=w.heap.size) rfl _ _ _).trans ((p6.drew _).trans (ag9 (M:=λk=>k=w.heap.size) rfl _ _ _)))
    .simp[K];omega
    .rw[m];simp only[em3];have e3:(y.toList.take i++[Value.int .i64 x]).length=i+1:=by simp[S];omega
     have e4:(y.toList.take i++[Value.int .i64 x]++y.toList.drop (i+1)).take (i+1)=y.toList.take i++[Value.int .i64 x]:=by
      rw[<-e3,es9]
     rw[e4,U];have O:((Q0 l).take i++[Value.int .i64 x]++(Q0 l).drop i).length=l.length+1:=by simp[f];omega
     rw[<-O,es9];simp
end
def dy0(v:Value)(x:Int)(l:List Int)(w:World)(hv:R (i5 w) v (x::l))(z:l.length<=1000000000):
  y5 prog 337 #[v] w λu i=>(u = .int .i64 (l.foldl min x)/\i=w):=by
 refine z6 [v] func337 rfl ?_;have j:=hv.isS;have h:=hv.vlen;simp only[em1]at h;have s:decide (((l.length+1:Nat):Int)<1)=false:=by simp;omega
 have o:=O4 (P:=prog) (t:=3) hv (n7 _) (k:=0) (x:=x) (by rfl) K1;simp only[O7,W0,D1,I1,unV,ca5,A0,aB1,M4,ab0,O8.val,simprocAttr,j,h,s,hv.inS (k:=0) dP,o];refine A9 [0] (σ:=Nat) (λk f i=>f 4 = .int .i64 ((k+1:Nat):Int)/\k<=l.length/\f 3 = .int .i64 ((l.take k).foldl min x)/\i=w) (λk=>l.length-k) 0 ?_ ?_
 .simp only[B8,simprocAttr];exact⟨by first|rfl|trivial,ek1 _,by simp[O8.val],tt⟩
 .rintro k f i ⟨e0,_⟩ ⟨r,y,q,rfl⟩;simp only[O7,W0,D1,I1,unV,ca5,A0,aB1,M4,ab0,O8.val,simprocAttr,r,e0,j,h];refine A8 (λm=>?_) (λm=>?_)
  .have e:k<l.length:=by simp at m;omega
   have c:=hv.inS (k:=k+1) (by simp;omega);have d:=O4 (P:=prog) (t:=3) hv (n7 _) (k:=k+1) (x:=l[k]) (by simp[e]) K1;have p:=bF5 min x l k e;simp only[O7,W0,D1,I1,unV,ca5,A0,aB1,M4,ab0,O8.val,simprocAttr,r,q,e0,j,h,c,d];have g:∀a b:Int,(if b<a then b else a)=min a b:=λa b=>by
    simp only[Int.min_def];split<;>split<;>omega
   refine⟨k+1,om,by rw[J2 (k+1)],om,by rw[p,g],tt⟩
  .have n:k=l.length:=by simp at m;omega
   subst n;simp only[O7,W0,D1,I1,unV,ca5,A0,aB1,M4,ab0,O8.val,simprocAttr,q];refine o8 results337 ?_;simp only[B8,simprocAttr];rw[ek4];exact⟨tt,tt⟩
def cx2(v:Value)(l:List Int)(w:World)(hv:R (i5 w) v l)(E:l.length<=1000000000):
  y5 prog 338 #[v] w λu s=>(B0 (i5 w) s 3 u l/\o6 w s):=by
 refine z6 [v] func338 rfl ?_;have D:=hv.isS;have y:D1 prog .eql 45 v (.slice none 0 0)=some (.bool (co8 v)):=by
  obtain⟨a,n,c,b,_⟩:=hv;simp at b;subst b;simp[D1,Go.Proofs.YtpebpfiglfmegaaGreat.isS,dX4]
 obtain⟨G,I,i,f,g,z⟩:=dJ2 (P:=prog) (w:=w) (h:=i5 w) (α:=Int) W3 (n7 _);obtain⟨H,J,t,p,o,B⟩:=X9 (P:=prog) (e:=45) W3 rfl f hv (by simp;omega) (by simp;omega) (b7 g);simp only[O7,simprocAttr,y];refine A8 (λr=>?_) (λr=>?_)
 .simp only[O7,simprocAttr];refine o8 results338 ?_;simp only[B8,simprocAttr];obtain⟨a,n,c,b,F,A,q,k,j⟩:=hv;simp at b;subst b;cases a with
  | some a=>simp[co8]at r
  | none=>
   have d:q=[]:=by
    cases q with
    | nil=>rfl
    | cons x _=>obtain⟨C,e,_⟩:=j 0 x rfl;cases e
   subst d;have:=O2 k;have m:l=[]:=by
    cases l with
    | nil=>rfl
    | cons _ _=>simp[A6.sz]at this
   subst m;exact⟨B0.nil _ _ _,p6.refl _⟩
 .simp only[O7,simprocAttr,i,t];refine o8 results338 ?_;simp only[B8,simprocAttr];exact⟨by simpa using p,f.ext2 g o⟩
def GR(h:Hp)(d:Value)(nx e:List (List Int)):Prop:=
 ∃a b c,d = .pointer (some ⟨a,0,none⟩)/\N2 h ⟨a,0,none⟩=some b/\N2 h ⟨a,1,none⟩=some c/\R h b nx/\R h c e
def GR.mono{h k:Hp}{b:Value}{nx c:List (List Int)}(l:GR h b nx c)(a:E2 h k):GR k b nx c:=by
 obtain⟨d,m,n,e,f,g,i,j⟩:=l;exact⟨d,m,n,e,J5 a f,J5 a g,A6.mono a i,A6.mono a j⟩
def bh4(e:Value)(nx i:List (List Int))(a:Int)(w:World)(h:GR (i5 w) e nx i):
  y5 prog 258 #[e,.int .i64 a] w λu j=>(u = .bool (I9 nx.length a)/\j=w):=by
 obtain⟨f,m,n,rfl,g,k,d,l⟩:=h;refine z6 [.pointer (some ⟨f,0,none⟩),.int .i64 a] func258 rfl ?_;have c:=J7 (P:=prog) (t:=261) g (n7 _) ab6;by_cases ha:0<=a
 .have b:decide (0<=a)=true:=by simpa using ha
  simp only[O7,W0,D1,I1,ab0,simprocAttr,b,c,d.isS,d.vlen];refine o8 results258 ?_;simp only[B8,simprocAttr];exact⟨by simp[I9,b],tt⟩
 .have b:decide (0<=a)=false:=by simpa using ha
  simp only[O7,W0,D1,I1,simprocAttr,b];refine o8 results258 ?_;simp only[B8,simprocAttr];exact⟨by simp[I9,b],tt⟩
def dt1(c:Value)(nx g:List (List Int))(w:World)(f:GR (i5 w) c nx g):
  y5 prog 318 #[c] w λu h=>(u = .int .i64 (nx.length:Nat)/\h=w):=by
 obtain⟨d,k,l,rfl,e,i,b,j⟩:=f;refine z6 [.pointer (some ⟨d,0,none⟩)] func318 rfl ?_;have a:=J7 (P:=prog) (t:=261) e (n7 _) ab6;simp only[O7,W0,D1,ab0,simprocAttr,a,b.isS,b.vlen];exact o8 results318 ⟨rfl,rfl⟩
def cZ8(q:Value)(nx n:List (List Int))(a:Int)(w:World)(o:GR (i5 w) q nx n)(p:n.length=nx.length)(z:∀x∈nx,x.length<=1000000000):
  y5 prog 319 #[q,.int .i64 a] w λu g=>(B0 (i5 w) g 3 u (E3 nx a)/\o6 w g):=by
 have i:=o;obtain⟨s,G,H,rfl,y,C,f,D⟩:=o;refine z6 [.pointer (some ⟨s,0,none⟩),.int .i64 a] func319 rfl ?_;have j:=J7 (P:=prog) (t:=261) y (n7 _) ab6;have E:=f.isS;have F:=f.vlen;simp only[O7,W0,simprocAttr];refine y4 (bh4 _ nx n a w i) ?_;rintro u g ⟨rfl,rfl⟩;have d:nx.length=nx.length:=rfl;by_cases ha:I9 nx.length a=true
 .have h:I9 nx.length a=true:=by rw[d];exact ha
  obtain⟨e,k⟩:=ax7 h;have v:decide (0<=a)=true:=by simpa using(B5.1 ha).1
  obtain⟨x,l,m⟩:=f.row e;have c:=J7 (P:=prog) (t:=45) m (n7 _) aj0;simp only[O7,W0,unV,A0,simprocAttr,ha,j,f.inS k,v,c];refine y4 (cx2 x _ g l (z _ (el0 e))) ?_;rintro r I ⟨A,B⟩;simp only[O7,simprocAttr];exact o8 results319 ⟨A,B⟩
 .have b:I9 nx.length a=false:=by simpa using ha
  simp only[O7,W0,unV,simprocAttr,b];refine o8 results319 ?_;simp only[B8,simprocAttr];rw[bk6 (by rw[d];exact b)];exact⟨B0.nil _ _ _,p6.refl _⟩
structure GX (h:Hp) (w:World) (gb:Nat) (cs:Array Value) (vn:Value) (us:List Raw) (nx:List (List Int)) (vp:Value) (us':List Raw) (pv:List (List Int)):Prop where
 free:h gb=none
 cell:w.heap[gb]?=some (.cells cs 307 (0,0))
 rn:F1 h w 45 3 vn us nx
 rp:F1 h w 45 3 vp us' pv
 gn:¬N9 vn us gb
 gp:¬N9 vp us' gb
 dis:∀b,N9 vn us b->¬N9 vp us' b
section
variable {h:Hp} {w:World} {gb:Nat} {cs:Array Value} {vn vp:Value} {us us':List Raw} {nx pv:List (List Int)}
def GX.swap(a:GX h w gb cs vn us nx vp us' pv):GX h w gb cs vp us' pv vn us nx:=
 ⟨a.free,a.cell,a.rp,a.rn,a.gp,a.gn,λb c d=>a.dis b d c⟩
def GX.lt(a:GX h w gb cs vn us nx vp us' pv):gb<w.heap.size:=(ej4.1 a.cell).1
def GX.mod{M:Nat->Prop}{e:World}(a:GX h w gb cs vn us nx vp us' pv)(hm:p6 M w e)(c:∀b,(b=gb\/N9 vn us b\/N9 vp us' b)->¬M b):GX h e gb cs vn us nx vp us' pv:=
 ⟨a.free,(hm.block gb a.lt (c gb (.inl rfl))).trans a.cell,a.rn.mod hm λb d=>c b (.inr (.inl d)),a.rp.mod hm λb d=>c b (.inr (.inr d)),a.gn,a.gp,a.dis⟩
def GX.set{o j:World}(c:GX h w gb cs vn us nx vp us' pv){i:Nat}{u:Raw}(p:us[i]?=some u){u':Value}{xs:List Int}
  (hm:p6 (A5 u.v) w o) (s:B0 h o 3 u' xs) (hv:E7 w u.v u') (g:p6 (A5 vn) o j) (m:B0 h j 45 vn (us.set i ⟨u'⟩)) :
  GX h j gb cs vn (us.set i ⟨u'⟩) (nx.set i xs) vp us' pv:=by
 have l:u∈us:=el0 p;have f:∀b,N9 vn (us.set i ⟨u'⟩) b->N9 vn us b\/w.heap.size<=b:=by
  rintro b (a|⟨x,n,a⟩)
  .exact .inl (.inl a)
  .rcases es0 n with e|e
   .exact .inl (.inr ⟨x,e,a⟩)
   .subst e;rcases hv b a with k|k
    .exact .inl (.inr ⟨u,l,k⟩)
    .exact .inr k
 have q:∀b,A5 u.v b->N9 vn us b:=λb a=>.inr ⟨u,l,a⟩;have r:∀b,A5 vn b->N9 vn us b:=λb a=>.inl a;refine⟨c.free,?_,c.rn.set p hm s hv g m,?_,?_,c.gp,?_⟩
 .have k:=g.block gb (eq5 c.lt hm.size) (λa=>c.gn (r _ a));exact k.trans ((hm.block gb c.lt (λa=>c.gn (q _ a))).trans c.cell)
 .exact(c.rp.mod hm λb a d=>c.dis b (q b d) a).mod g λb a d=>c.dis b (r b d) a
 .intro a;rcases f gb a with e|e
  .exact c.gn e
  .have:=c.lt;omega
 .intro b a d;rcases f b a with e|e
  .exact c.dis b e d
  .have:=c.rp.lt d;omega
def GX.read(a:GX h w gb #[vn,vp] vn us nx vp us' pv)(hw:E2 h (i5 w)):GR (i5 w) (.pointer (some ⟨gb,0,none⟩)) nx pv:=by
 refine⟨gb,vn,vp,rfl,?_,?_,a.rn.ro hw,a.rp.ro hw⟩
 .rw[<-an1,er9 w gb 0 _ _ (0,0) a.cell];rfl
 .rw[<-an1,er9 w gb 1 _ _ (0,0) a.cell];rfl
end
def aN6{P:Program}{α:Type}[A6 α]{h:Hp}{w:World}{T T' t:TypeId}{v:Value}{us:List Raw}{a:List (List α)}(f:F1 h w T T' v us a){i:Nat}{u:Raw}(e:us[i]?=some u)(g:J4 P t=false):
  (Instr.loadAt t (.pointer (some (G8 v i)))).run P w = .ok u.v w:=by
 obtain⟨j,⟨d,_⟩,c⟩:=f.outer.get e;have:=c 0 u.v (by rw[d];rfl);rw[M8]at this;have b:(i*A6.sz Raw)=i:=es6 i;rw[b]at this;exact W9 g this
def bV2{P:Program}{h:Hp}{w:World}{t:TypeId}{v u':Value}{us:List Raw}(f:B0 h w 45 v us){i:Nat}(e:i<us.length)(d:isS u'=true){b:TypeInfo}(a:P.info? t=some b)(g:b.size=1):
  ∃c,(Instr.storeAt t (.pointer (some (G8 v i))) u').run P w = .ok () c/\B0 h c 45 v (us.set i ⟨u'⟩)/\p6 (A5 v) w c/\c.heap.size=w.heap.size:=
 F9 f rfl e (y:=(⟨u'⟩:Raw)) ⟨rfl,W8 d⟩ (F7 d) a g
def GO(h:Hp)(w:World)(f:Value)(nx g:List (List Int))(M:Nat->Prop):Prop:=
 ∃c d us e a,f = .pointer (some ⟨c,0,none⟩)/\GX h w c #[d,e] d us nx e a g/\∀b,M b↔b=c\/N9 d us b\/N9 e a b
def GO.read{h:Hp}{w:World}{a:Value}{nx b:List (List Int)}{M:Nat->Prop}(c:GO h w a nx b M)(hw:E2 h (i5 w)):GR (i5 w) a nx b:=by
 obtain⟨f,g,us,i,e,rfl,d,_⟩:=c;exact d.read hw
def GO.free{h:Hp}{w:World}{f:Value}{nx g:List (List Int)}{M:Nat->Prop}(e:GO h w f nx g M):∀b,M b->h b=none:=by
 obtain⟨j,k,us,l,i,rfl,c,d⟩:=e;intro b a;rcases(d b).1 a with rfl|a|a
 .exact c.free
 .exact c.rn.free a
 .exact c.rp.free a
def GO.mod{h:Hp}{w f:World}{d:Value}{nx e:List (List Int)}{M N:Nat->Prop}(j:GO h w d nx e M)(hm:p6 N w f)(hN:∀b,M b->¬N b):GO h f d nx e M:=by
 obtain⟨g,l,us,m,a,rfl,k,c⟩:=j;exact⟨g,l,us,m,a,rfl,k.mod hm λb i=>hN b ((c b).2 i),c⟩
structure bC3 (l:List (List Int)):Prop where
 le:∀x∈l,x.Pairwise (· < ·)
 len:∀x∈l,x.length<=100000000
def bC3.le'{l:List (List Int)}(h:bC3 l){x:List Int}(a:x∈l):x.Pairwise (· <= ·):=(h.le x a).imp λh=>Int.le_of_lt h
def dt9(h:Hp)(pg:Value)(nx S:List (List Int))(M:Nat->Prop)(a b:Int)(w:World)(hg:GO h w pg nx S M)(hw:E2 h (i5 w))(hl:S.length=nx.length)(ad:bC3 nx)(ae:bC3 S):
  y5 prog 292 #[pg,.int .i64 a,.int .i64 b] w λu w'=>(u = .bool (av7 nx a b)/\∃M',GO h w' pg (cv6 nx a b) (cv7 nx S a b) M'/\p6 M w w'/\∀b,M' b->M b\/w.heap.size<=b):=by
 have ap:=hg.read hw;obtain⟨p,B,us,T,A,rfl,G,L⟩:=hg;refine z6 [.pointer (some ⟨p,0,none⟩),.int .i64 a,.int .i64 b] func292 rfl ?_;simp only[O7,W0,simprocAttr];refine y4 (bh4 _ nx S a w ap) ?_;rintro u w' ⟨rfl,rfl⟩;have I:av7 nx a b=false->∀c,o6 w' c->∃M',GO h c (.pointer (some ⟨p,0,none⟩)) (cv6 nx a b) (cv7 nx S a b) M'/\p6 M w' c/\∀b,M' b->M b\/w'.heap.size<=b:=by
  intro g c he;refine⟨M,?_,he.weaken λ_ _ h=>h.elim,λb f=>.inl f⟩;unfold cv6 cv7;rw[g];exact⟨p,B,us,T,A,rfl,G.mod he λ_ _ h=>h.elim,L⟩
 by_cases ha:I9 nx.length a=true
 .have Z:(!I9 nx.length a)=false:=by rw[ha];rfl
  simp only[O7,unV,simprocAttr,Z];refine y4 (bh4 _ nx S b w' ap) ?_;rintro u w ⟨rfl,rfl⟩;by_cases f:I9 nx.length b=true
  .have aa:(!I9 nx.length b)=false:=by rw[f];rfl
   have c0:w.cell? ⟨p,0,none⟩=some B:=by rw[er9 w p 0 _ _ (0,0) G.cell];rfl
   have aY:=G.rn.outer.isS;obtain⟨H,a2⟩:=ax7 ha;have a1:us.length=nx.length:=G.rn.len;have Y:=G.rn.outer.inS (k:=a.toNat) om;have d0:decide (0<=a)=true:=by simpa using(B5.1 ha).1
   obtain⟨J,l⟩:∃J,us[a.toNat]?=some J:=⟨us[a.toNat]' om,ej0 om⟩;have au:=G.rn.row _ _ _ l H;have la:=aN6 (P:=prog) (t:=45) G.rn l aj0;have F:=el0 H;simp only[O7,W0,unV,A0,simprocAttr,aa,W9 (P:=prog) (t:=261) ab6 c0,Y,d0,la];refine y4 (bJ6 b au (ej7 (ad.len _ F) om) (ad.le' F)) ?_;rintro u o ⟨rfl,D⟩;by_cases hc:(E3 nx a).contains b=true
   .simp only[O7,simprocAttr,hc];refine o8 results292 ?_;simp only[B8,simprocAttr];have g:av7 nx a b=false:=by simp only[av7,hc,Bool.not_true,Bool.and_false]
    exact⟨by rw[g],I g o D⟩
   .have ao:(E3 nx a).contains b=false:=by simpa using hc
    have V:av7 nx a b=true:=by simp only[av7,ao,ha,f,Bool.not_false,Bool.and_true]
    have ay:E2 h (i5 o):=p7 hw (b7 D);simp only[O7,simprocAttr,ao];refine C0 (λc=>p6 (A5 J.v) o.drew c) 16 (A7 [0,1,2,3,4,5,6,7,8,9,10,11,12,13,14,15]) ?_;have d:=(G.mod D λ_ _ h=>h.elim).mod (o6.drew o) λ_ _ h=>h.elim;have av:∀b,A5 J.v b->N9 B us b:=λb f=>.inr ⟨J,el0 l,f⟩;have aC:∀c,p6 (A5 J.v) o.drew c->(Instr.loadAt 261 (.pointer (some ⟨p,0,none⟩))).run prog c = .ok B c:=λc s=>by
     refine W9 ab6 ?_;rw[er9 c p 0 _ _ (0,0) ((s.block p d.lt (λf=>d.gn (av _ f))).trans d.cell)];rfl
    have aL:∀c,p6 (A5 J.v) o.drew c->(Instr.loadAt 45 (.pointer (some (G8 B a.toNat)))).run prog c = .ok J.v c:=λc s=>by
     have ho:=d.rn.outer.mod s (λb f j=>d.rn.off _ _ l b j f);obtain⟨es,⟨he,_⟩,X⟩:=ho.get l;have:=X 0 J.v (by rw[he];rfl);rw[M8]at this;have r:(a.toNat*A6.sz Raw)=a.toNat:=es6 _;rw[r]at this;exact W9 aj0 this
    simp only[D7,A7,O7,W0,simprocAttr];refine⟨B,aC,?_⟩;simp only[D7,O7,W0,simprocAttr];refine⟨B,aC,?_⟩;simp only[D7,O7,W0,A0,simprocAttr,Y,d0];refine⟨J.v,aL,?_⟩;have aH:=av1 (P:=prog) (w:=o.drew) (t:=45) dn1 aG4 (by rw[bm5];omega) (by rw[bm5];omega) (x:=.int .i64 b) (by rw[bm5];rfl);simp only[D7,O7,simprocAttr,aH,G0,Value.cells];refine⟨p6.alloc _ _,?_⟩;have ab:=d.rn.row _ _ _ l H;refine y4 (bG6 b _ 1 o.drew rfl ab List.countP_le_length (ej7 (ad.len _ F) om) (p7 ay (b7 (o6.drew o)))) ?_;rintro u1 w3 ⟨aq,O,aw⟩;refine⟨O,?_⟩;have aA:=d.rn.outer.mod O (λb f j=>d.rn.off _ _ l b j f);obtain⟨w4,s1,s2,s3,s4⟩:=bV2 (P:=prog) (t:=45) aA (i:=a.toNat) om aq.isS (A4 ao7).choose_spec.1 (by rw[<-F0 (A4 ao7).choose_spec.1];exact bz1);have z:=d.set l O aq aw s3 s2;have af:p6 M o.drew w4:=(O.weaken λk _ e=>(L k).2 (.inr (.inl (av k e)))).trans (s3.weaken λk _ e=>(L k).2 (.inr (.inl (.inl e))));have az:E2 h (i5 w4):=G4 (p7 ay (b7 (o6.drew o))) af λk e=>by
     rcases(L k).1 e with rfl|e|e
     .exact G.free
     .exact G.rn.free e
     .exact G.rp.free e
    have e1:w4.cell? ⟨p,1,none⟩=some T:=by rw[er9 w4 p 1 _ _ (0,0) z.cell];rfl
    have aZ:=z.rp.outer.isS;have j:I9 S.length b=true:=by rw[hl];exact f
    obtain⟨ag,a3⟩:=ax7 j;have aQ:A.length=S.length:=z.rp.len;have E:=z.rp.outer.inS (k:=b.toNat) om;have d1:decide (0<=b)=true:=by simpa using(B5.1 f).1
    obtain⟨K,m⟩:∃K,A[b.toNat]?=some K:=⟨A[b.toNat]' om,ej0 om⟩;have ac:=z.rp.row _ _ _ m ag;have lb:=aN6 (P:=prog) (t:=45) z.rp m aj0;have y:=el0 ag;simp only[D7,O7,W0,A0,simprocAttr,Y,d0,s1,W9 (P:=prog) (t:=261) ab6 e1,E,d1,lb];refine y4 (bJ6 a ac (ej7 (ae.len _ y) om) (ae.le' y)) ?_;rintro u C ⟨rfl,N⟩;have aJ:E2 h (i5 C):=p7 az (b7 N);simp only[O7,simprocAttr];refine C0 (λc=>p6 (A5 K.v) C.drew c) 16 (A7 [0,1,2,3,4,5,6,7,8,9,10,11,12,13,14,15]) ?_;have n:=(z.mod N λ_ _ h=>h.elim).mod (o6.drew C) λ_ _ h=>h.elim;have U:∀b,A5 K.v b->N9 T A b:=λb f=>.inr ⟨K,el0 m,f⟩;have aD:∀c,p6 (A5 K.v) C.drew c->(Instr.loadAt 261 (.pointer (some ⟨p,1,none⟩))).run prog c = .ok T c:=λc s=>by
     refine W9 ab6 ?_;rw[er9 c p 1 _ _ (0,0) ((s.block p n.lt (λf=>n.gp (U _ f))).trans n.cell)];rfl
    have aM:∀c,p6 (A5 K.v) C.drew c->(Instr.loadAt 45 (.pointer (some (G8 T b.toNat)))).run prog c = .ok K.v c:=λc s=>by
     have ho:=n.rp.outer.mod s (λb f j=>n.rp.off _ _ m b j f);obtain⟨es,⟨he,_⟩,X⟩:=ho.get m;have:=X 0 K.v (by rw[he];rfl);rw[M8]at this;have r:(b.toNat*A6.sz Raw)=b.toNat:=es6 _;rw[r]at this;exact W9 aj0 this
    simp only[D7,A7,O7,W0,simprocAttr];refine⟨T,aD,?_⟩;simp only[D7,O7,W0,simprocAttr];refine⟨T,aD,?_⟩;simp only[D7,O7,W0,A0,simprocAttr,E,d1];refine⟨K.v,aM,?_⟩;have an:=av1 (P:=prog) (w:=C.drew) (t:=45) dn1 aG4 (by rw[bm5];omega) (by rw[bm5];omega) (x:=.int .i64 a) (by rw[bm5];rfl);simp only[D7,O7,simprocAttr,an,G0,Value.cells];refine⟨p6.alloc _ _,?_⟩;have R:=n.rp.row _ _ _ m ag;refine y4 (bG6 a _ 1 C.drew rfl R List.countP_le_length (ej7 (ae.len _ y) om) (p7 aJ (b7 (o6.drew C)))) ?_;rintro u2 w7 ⟨ar,Q,ax⟩;refine⟨Q,?_⟩;have aB:=n.rp.outer.mod Q (λb f j=>n.rp.off _ _ m b j f);obtain⟨w8,t1,t2,t3,t4⟩:=bV2 (P:=prog) (t:=45) aB (i:=b.toNat) om ar.isS (A4 ao7).choose_spec.1 (by rw[<-F0 (A4 ao7).choose_spec.1];exact bz1);have aK:=(n.swap.set m Q ar ax t3 t2).swap;simp only[D7,O7,W0,A0,simprocAttr,E,d1,t1];refine o8 results292 ?_;simp only[B8,simprocAttr];refine⟨by rw[V],λk=>k=p\/N9 B (us.set a.toNat ⟨u1⟩) k\/N9 T (A.set b.toNat ⟨u2⟩) k,⟨p,B,us.set a.toNat ⟨u1⟩,T,A.set b.toNat ⟨u2⟩,rfl,?_,λ_=>er4⟩,?_,?_⟩
    .unfold cv6 cv7;rw[V];exact aK
    .have k1:p6 M w o.drew:=(D.trans (o6.drew o)).weaken λ_ _ h=>h.elim;have k2:p6 M w4 C.drew:=(N.trans (o6.drew C)).weaken λ_ _ h=>h.elim;have k3:p6 M C.drew w8:=(Q.weaken λk _ e=>(L k).2 (.inr (.inr (U k e)))).trans (t3.weaken λk _ e=>(L k).2 (.inr (.inr (.inl e))));exact(k1.trans af).trans (k2.trans k3)
    .have z1:w.heap.size<=o.drew.heap.size:=(D.trans (o6.drew o)).size;have z2:o.drew.heap.size<=C.drew.heap.size:=ej7 af.size (N.trans (o6.drew C)).size;have q:∀(us:List Raw) (i:Nat) (u:Value) (v:Raw) (W:World),us[i]?=some v->E7 W v.v u->w.heap.size<=W.heap.size->∀(B:Value) (k:Nat),N9 B (us.set i ⟨u⟩) k->N9 B us k\/w.heap.size<=k:=by
      intro us i u v W hi hv hW B k e;rcases e with e|⟨x,H,e⟩
      .exact .inl (.inl e)
      .rcases es0 H with r|r
       .exact .inl (.inr ⟨x,r,e⟩)
       .subst r;rcases hv k e with h2|h2
        .exact .inl (.inr ⟨v,el0 hi,h2⟩)
        .exact .inr om
     rintro k (rfl|e|e)
     .exact .inl ((L _).2 (.inl rfl))
     .rcases q _ _ _ _ _ l aw z1 _ _ e with r|r
      .exact .inl ((L _).2 (.inr (.inl r)))
      .exact .inr r
     .rcases q _ _ _ _ _ m ax om _ _ e with r|r
      .exact .inl ((L _).2 (.inr (.inr r)))
      .exact .inr r
  .have am:I9 nx.length b=false:=by simpa using f
   have aa:(!I9 nx.length b)=true:=by rw[am];rfl
   simp only[O7,unV,simprocAttr,aa];refine o8 results292 ?_;simp only[B8,simprocAttr];have g:av7 nx a b=false:=by simp only[av7,am,Bool.and_false,Bool.false_and]
   exact⟨by rw[g],I g w (p6.refl _)⟩
 .have al:I9 nx.length a=false:=by simpa using ha
  have Z:(!I9 nx.length a)=true:=by rw[al];rfl
  simp only[O7,unV,simprocAttr,Z];refine o8 results292 ?_;simp only[B8,simprocAttr];have g:av7 nx a b=false:=by simp only[av7,al,Bool.false_and]
  exact⟨by rw[g],I g _ (p6.refl _)⟩
def G2.rising{n:Nat}{l:List (List Int)}(h:G2 n l)(hn:n<=100000000):bC3 l:=
 ⟨h.le,λx a=>ej7 (h.row_len a) hn⟩
def D9:Raw:=⟨.slice none 0 0⟩
def cr1{h:Hp}{w:World}{T T':TypeId}{v:Value}{n:Nat}(e:B0 h w T v (List.replicate n D9)):F1 h w T T' v (List.replicate n D9) (List.replicate n ([]:List Int)):=by
 have d:∀(i:Nat) (u:Raw),(List.replicate n D9)[i]?=some u->u=D9:=λi u a=>eq7 (el0 a);refine⟨e,dP,λi u k a f=>?_,λi j u g _ a _ b c=>?_,λi u a b c=>?_⟩
 .rw[d i u a,eq7 (el0 f)];exact B0.nil _ _ _
 .rw[d i u a]at c;exact absurd c D8
 .rw[d i u a]at c;exact absurd c D8
def ai8{v:Value}{n b:Nat}:N9 v (List.replicate n D9) b->A5 v b:=by
 rintro(a|⟨u,c,a⟩)
 .exact a
 .rw[eq7 c]at a;exact absurd a D8
def GO.fresh{h:Hp}{w:World}{a c:Value}{n:Nat}(hw:E2 h (i5 w))(f:B0 h w 45 a (List.replicate n D9))(g:B0 h w 45 c (List.replicate n D9))(j:∀b,A5 a b->¬A5 c b):
  GO h (w.alloc (.cells #[a,c] 307)) (.pointer (some ⟨w.heap.size,0,none⟩)) (List.replicate n []) (List.replicate n []) (λb=>b=w.heap.size\/N9 a (List.replicate n D9) b\/N9 c (List.replicate n D9) b):=by
 have i:=o6.alloc w (.cells #[a,c] 307);refine⟨w.heap.size,a,List.replicate n D9,c,List.replicate n D9,rfl,⟨aM1 hw (ek6 _),em9 w _,cr1 (f.ext i),cr1 (g.ext i),λd=>?_,λd=>?_,λb d e=>j b (ai8 d) (ai8 e)⟩,λ_=>er4⟩
 .have:=f.lt (ai8 d);omega
 .have:=g.lt (ai8 d);omega
def db9{a b:Value}(c:isS a=true)(d:isS b=true):C1 prog 307 [(0,a),(1,b)]=some (.agg #[a,b]):=by
 simp[C1,dL7,K7,Instr.fill,F7 c,F7 d]
def cz0(a:List (Int×Int))(k:Nat)(g:List (List Int)×List (List Int))(b:k<a.length):(a.take (k+1)).foldl aw0 g=aw0 ((a.take k).foldl aw0 g) a[k]:=bF5 aw0 g a k b
def cK5(n:Nat)(v:Value)(a:List (Int×Int))(w:World)(hn:n<=5000)(hv:R (i5 w) v a)(hl:a.length<=1000000000000):
  y5 prog 257 #[.int .i64 n,v] w λu q=>((∃M,GO (i5 w) q u (at6 n a).1 (at6 n a).2 M)/\o6 w q):=by
 refine z6 [.int .i64 n,v] func257 rfl ?_;have S:decide ((n:Int)<0)=false:=dP
 have U:decide ((n:Int)>5000)=false:=by simp;omega
 have hS:=hv.isS;have ad:=hv.vlen;simp only[O7,W0,D1,I1,simprocAttr,S,U];refine bg5 [1] (λp=>o6 w p) 4 (.op 0 (.op 2 (.fork [1,3] (λi=>if i=1 then A7 [3]else A7 [1]))))
  (λL q=>B0 (i5 w) q 45 (L 15) (List.replicate n D9)/\B0 (i5 w) q 45 (L 17) (List.replicate n D9)/\(∀b,A5 (L 15) b->¬A5 (L 17) b)/\o6 w q) (by decide +kernel) (by decide +kernel) (o6.drew w) ?_ ?_
 .simp only[D7,A7,O7,simprocAttr];have hz:A6.enc (i5 w) (Value.slice none 0 0).cells.toList D9:=⟨rfl,rfl⟩;have af:∀o,o6 w o->∃B p C d,(Instr.makeSlice 261 (.int .i64 n) (.int .i64 n)).run prog o = .ok B p/\(Instr.makeSlice 261 (.int .i64 n) (.int .i64 n)).run prog p = .ok C d /\
    B0 (i5 w) d 45 B (List.replicate n D9)/\B0 (i5 w) d 45 C (List.replicate n D9)/\(∀b,A5 B b->¬A5 C b)/\o6 w p/\o6 w d:=by
   intro o s;obtain⟨B,p,T,N,V,h4,_⟩:=mk (P:=prog) (w:=o) (h:=i5 w) cC5 ao7 (α:=Raw) (y:=D9) hz (n:=n) om om (b7 s);obtain⟨C,d,k1,k2,k3,k4,_⟩:=mk (P:=prog) (w:=p) (h:=i5 w) cC5 ao7 (α:=Raw) (y:=D9) hz (n:=n) om om (b7 (s.trans V));exact⟨B,p,C,d,T,k1,N.ext k3,k2,λb W X=>by have:=k4 b X;have:=N.lt W;omega,s.trans V,(s.trans V).trans k3⟩
  obtain⟨B,p,C,d,m1,m2,H,I,J,e2,K⟩:=af w.drew (o6.drew w);refine V3 (by decide +kernel) (λi hi=>?_);simp only[ek9,en5,es4]at hi;rcases hi with rfl|rfl
  .simp only[D7,O7,simprocAttr,m1,m2,G0];exact⟨e2,K,H,I,J,K⟩
  .simp only[D7,O7,simprocAttr,m1,m2,G0];exact⟨e2,K,I,H,λb T N=>J b N T,K⟩
 .rintro f o hk ⟨H,I,J,s⟩;simp only[em0,B8,simprocAttr]at hk;obtain⟨e1,_⟩:=hk;have Y:=db9 H.isS I.isS;have j:(Instr.box 307 (.agg #[f 15,f 17])).run prog o = .ok (.pointer (some ⟨o.heap.size,0,none⟩)) (o.alloc (.cells #[f 15,f 17] 307)):=rfl;have t:=GO.fresh (b7 s) H I J;have D:=s.trans (o6.alloc o (.cells #[f 15,f 17] 307));generalize ay:Value.pointer (some ⟨o.heap.size,0,none⟩)=pg at j t;generalize o.alloc (.cells #[f 15,f 17] 307)=p at j t D;simp only[D7,O7,W0,ab0,simprocAttr,Y,j,e1,hS,ad];refine A9 [5,20,21] (σ:=Nat) (λk f q=>f 22 = .int .i64 k/\k<=a.length/\(∃M,GO (i5 w) q pg ((a.take k).foldl aw0 (List.replicate n [],List.replicate n [])).1 ((a.take k).foldl aw0 (List.replicate n [],List.replicate n [])).2 M)/\o6 w q) (λk=>a.length-k) 0 ?_ ?_
  .exact⟨rfl,ek1 _,⟨_,t⟩,D⟩
  .rintro k f3 d ⟨g5,O,Q,_⟩ ⟨r,ax,⟨M,Z⟩,hx⟩;have c:=((bw4 n).grows (a.take k)).1;have m:=cz0 a k (List.replicate n [],List.replicate n []);generalize hG:(a.take k).foldl aw0 (List.replicate n [],List.replicate n [])=g at Z c m;simp only[O7,D1,I1,simprocAttr,r,Q];refine A3 (λl=>?_) ?_
   .have ac:=hv.inS l;have z:=ldP hv (b7 hx) (ej0 l);have A:=m l;generalize a[k]=e at z A;obtain⟨x,y⟩:=e;simp only at z A;obtain⟨p1,p2⟩:=dE3 d x y;have q0:=dE1 d x y;have q1:=dE2 d x y;have G:=o6.alloc d (.cells #[.int .i64 x,.int .i64 y] 208);have F:=hx.trans G;have E:=Z.mod G λ_ _ h=>h.elim;generalize d.alloc (.cells #[.int .i64 x,.int .i64 y] 208)=w4 at *;simp only[O7,W0,A0,simprocAttr,r,O,g5,ac,z,p1,p2,q0,q1];refine y4 (dt9 (i5 w) pg g.1 g.2 M x y w4 E (b7 F) (by rw[c.pv.len,c.nx.len]) (c.nx.rising om) (c.pv.rising om)) ?_;rintro u w5 ⟨rfl,M',aa,hm,av⟩;simp only[O7,D1,I1,simprocAttr,r];refine V1 (k+1) ⟨⟨M',?_⟩,?_⟩
    .rw[A];exact aa
    .refine p6.ext_of F hm λb W=>?_;rcases en2 b w.heap.size with l|ab
     .have:=E.free b W;simp[i5,l]at this
     .exact ab
   .rintro rfl;rw[ek4]at hG;simp only[O7,simprocAttr,g5];refine o8 results257 ?_;simp only[B8,simprocAttr];have:at6 n a=g:=hG;rw[this];exact⟨⟨M,Z⟩,hx⟩
def eu1:=@List.getElem_cons_succ
def ev2:=@List.getElem_cons_zero
def z7(l:List Bool)(b:Int):Bool:=I9 l.length b&&l.getD b.toNat false
def N1{l:List Bool}{b:Int}(h:I9 l.length b=true):b.toNat<l.length/\z7 l b=l.getD b.toNat false:=by
 have:=B5.1 h;exact⟨om,by simp[z7,h]⟩
def X5{l:List Bool}{b:Int}(h:z7 l b=true):I9 l.length b=true:=by
 simp[z7]at h;exact h.1
def M9{l:List Bool}{a b:Int}{v:Bool}(c:I9 l.length a=true):z7 (l.set a.toNat v) b=if b=a then v else z7 l b:=by
 have d:=B5.1 c;unfold z7;simp only[eq3];by_cases h:b=a
 .subst h;rw[if_pos rfl,c];have:b.toNat<l.length:=om
  simp[List.getD,this]
 .rw[if_neg h];by_cases hb:I9 l.length b=true
  .have e:=B5.1 hb;have:a.toNat≠b.toNat:=om
   simp[List.getD,this]
  .simp[hb]
def aH3{n:Nat}{b:Int}:z7 (List.replicate n false) b=false:=by
 simp only[z7,eo7,Bool.and_eq_false_iff];right;simp[List.getD,eu3];split<;>rfl
inductive Via (nx:List (List Int)) (seen:List Bool) (todo:List Int):Int->Prop
 | base {a:Int}:a∈todo->Via nx seen todo a
 | step {a b:Int}:Via nx seen todo a->b∈E3 nx a->z7 seen b=false->Via nx seen todo b
structure da4 (nx:List (List Int)) (seen:List Bool) (todo:List Int) (seen':List Bool) (todo':List Int):Prop where
 len:seen'.length=seen.length
 via:∀b,b∈todo'↔Via nx seen todo b
 mark:∀b,z7 seen' b=true↔z7 seen b=true\/b∈todo'
 size:todo'.length<=todo.length+seen.length
structure WI (nx:List (List Int)) (seen:List Bool) (todo:List Int) (td:List Int) (sn:List Bool) (i:Nat):Prop where
 len:sn.length=seen.length
 via:∀b∈td,Via nx seen todo b
 old:∀b∈todo,b∈td
 mark:∀b,z7 sn b=true↔z7 seen b=true\/b∈td
 count:td.length+sn.count false=todo.length+seen.count false
 done:∀k a,k<i->td[k]?=some a->∀b∈E3 nx a,z7 sn b=true
 le:i<=td.length
section
variable {nx:List (List Int)} {seen:List Bool} {todo td:List Int} {sn:List Bool} {i:Nat}
def WI.start(h:∀a∈todo,z7 seen a=true):WI nx seen todo todo seen 0:=
 ⟨rfl,λ_ c=>.base c,λ_ c=>c,λb=>⟨.inl,λd=>d.elim id (h b)⟩,rfl,λk a e=>om,ek1 _⟩
def ad8{l:List Bool}{k:Nat}(a:k<l.length)(h:l[k]=false):(l.set k true).count false+1=l.count false:=by
 induction l generalizing k with
 | nil=>simp at a
 | cons x l b=>
  cases k with
  | zero=>
   simp only[ev2]at h;subst h;simp
  | succ k=>
   simp only[eu1]at h;have:=b (by simpa using a) h;simp only[List.set_cons_succ,List.count_cons];omega
def WI.push(h:WI nx seen todo td sn i){b:Int}(hb:I9 seen.length b=true)(hn:z7 sn b=false)(hv:Via nx seen todo b):WI nx seen todo (td++[b]) (sn.set b.toNat true) i:=by
 have f:I9 sn.length b=true:=by rw[h.len];exact hb
 have e:∀c,z7 (sn.set b.toNat true) c=if c=b then true else z7 sn c:=λc=>M9 f;have j:=(N1 f).1;have g:sn[b.toNat]=false:=by
  have:=(N1 f).2;rw[hn]at this;simp[List.getD,j]at this;exact this
 refine⟨by simp[h.len],λc d=>?_,λc d=>em4 _ (h.old c d),λc=>?_,?_,λk a m l c d=>?_,?_⟩
 .rcases ej9.1 d with d|d
  .exact h.via c d
  .simp at d;subst d;exact hv
 .rw[e];by_cases hcb:c=b
  .subst hcb;simp
  .simp[hcb,h.mark c]
 .have:=h.count;have:=ad8 j g;simp only[ej2,em3];omega
 .rw[e];split
  .rfl
  .have E2:=h.le;rw[eo2 om]at l;exact h.done k a m l c d
 .have:=h.le;simp;omega
def aX8{b c:Int}(hb:I9 sn.length b=true)(a:z7 sn c=true):z7 (sn.set b.toNat true) c=true:=by
 rw[M9 hb];split
 .rfl
 .exact a
def WI.next(h:WI nx seen todo td sn i){a:Int}(e:td[i]?=some a)(g:∀b∈E3 nx a,z7 sn b=true):WI nx seen todo td sn (i+1):=by
 refine⟨h.len,h.via,h.old,h.mark,h.count,λk c j d b f=>?_,(ej5.1 e).1⟩;by_cases hki:k=i
 .subst hki;rw[e]at d;obtain rfl:=el4 d;exact g b f
 .exact h.done k c om d b f
def WI.fin(h:WI nx seen todo td sn td.length):da4 nx seen todo sn td:=by
 refine⟨h.len,λb=>⟨h.via b,λi=>?_⟩,h.mark,?_⟩
 .induction i with
  | base e=>exact h.old _ e
  | step _ f g j=>
   obtain⟨k,d⟩:=es8.1 j;have:=h.done k _ (ej5.1 d).1 d _ f;rcases(h.mark _).1 this with c|c
   .rw[g]at c;cases c
   .exact c
 .have:=h.count;have:=List.count_le_length (a:=false) (l:=seen);omega
end
def ct9(h:Hp)(vn vs E:Value)(nx:List (List Int))(d:List Bool)(g:List Int)(w:World)(hw:E2 h (i5 w))(hn:R h vn nx)(hg:G2 nx.length nx)(hs:B0 h w 4 vs d)(ht:B0 h w 3 E g)
  (hd:∀b,A5 vs b->¬A5 E b) (J:d.length=nx.length) (aN:∀a∈g,z7 d a=true) (bb:nx.length<=5000) (O:g.length<=1000000) :
  y5 prog 259 #[vn,vs,E] w λu M=>∃L K,B0 h M 3 u L/\B0 h M 4 vs K/\(∀b,A5 vs b->¬A5 u b)/\p6 (λb=>A5 vs b\/A5 E b) w M/\E7 w E u/\da4 nx d g K L:=by
 refine z6 [vn,vs,E] func259 rfl ?_;simp only[O7,W0,simprocAttr];have a9:=hn.isS;refine E8 [0,1] (σ:=List Int×List Bool×Nat) (λs f M=>f 7 = .int .i64 s.2.2/\B0 h M 3 (f 2) s.1/\B0 h M 4 vs s.2.1/\(∀b,A5 vs b->¬A5 (f 2) b)/\p6 (λb=>A5 vs b\/A5 E b) w M/\E7 w E (f 2)/\WI nx d g s.1 s.2.1 s.2.2)
  (λs=>g.length+d.count false-s.2.2) (g,d,0) ?_ ?_
 .simp only[B8,simprocAttr];exact⟨tt,ht,hs,hd,p6.refl _,λb D=>.inl D,WI.start aN⟩
 .rintro⟨td,sn,i⟩ f w1 hk ⟨h7,B,ah,aq,hm,ax,hi⟩;simp only at h7 B ah hi;simp only[em0,B8,simprocAttr]at hk;obtain⟨e0,e1,_⟩:=hk;have ao:=B.isS;have aw:=B.vlen;have aV:=hi.count;have bf:=List.count_le_length (a:=false) (l:=d);have ag:∀b,(A5 vs b\/A5 E b)->h b=none:=λb D=>D.elim hs.free ht.free;simp only[O7,W0,D1,I1,ab0,simprocAttr,h7,ao,aw];refine A8 (λo=>?_) (λo=>?_)
  .have af:i<td.length:=by simpa using o
   have ar:=B.inS af;have Y:=E1 (P:=prog) (t:=3) B (ej0 af) K1;generalize aM:td[i]=a at Y;have Z:td[i]?=some a:=by rw[ej0 af,aM]
   have aH:a∈td:=el0 Z;have aa:I9 nx.length a=true:=by
    have:=X5 ((hi.mark a).2 (.inr aH));rw[hi.len,J]at this;exact this
   obtain⟨aP,aQ⟩:=ax7 aa;have d0:decide (0<=a)=true:=by simpa using(B5.1 aa).1
   obtain⟨x,T,aR⟩:=hn.row aP;have aO:E2 h (i5 w1):=G4 hw hm ag;have aB:=aC3 aa;have bh:=hg.row_len aB;simp only[O7,W0,A0,ab0,O8.val,simprocAttr,h7,e0,ar,Y,hn.inS aQ,d0,J7 (P:=prog) (t:=45) aR aO aj0,T.isS,T.vlen];refine E8 [0,1,7,22,23] (σ:=List Int×List Bool×Nat) (λs f M=>f 24 = .int .i64 s.2.2/\s.2.2<=(E3 nx a).length/\B0 h M 3 (f 2) s.1/\B0 h M 4 vs s.2.1/\(∀b,A5 vs b->¬A5 (f 2) b)/\p6 (λb=>A5 vs b\/A5 E b) w M/\E7 w E (f 2)/\WI nx d g s.1 s.2.1 i/\s.1[i]?=some a/\∀b∈(E3 nx a).take s.2.2,z7 s.2.1 b=true)
    (λs=>(E3 nx a).length-s.2.2) (td,sn,0) ?_ ?_
   .simp only[B8,simprocAttr];exact⟨tt,ek1 _,B,ah,aq,hm,ax,hi,Z,λb D=>by simp at D⟩
   .rintro⟨al,q,j⟩ f2 w2 av ⟨N,aL,C,m,r,S,z,p,n,A⟩;simp only at N aL C m p n A;simp only[em0,B8,↓reduceIte,Nat.reduceEqDiff]at av;obtain⟨g0,g1,g7,an,aG,_⟩:=av;rw[e0]at g0;rw[e1]at g1;rw[h7]at g7;simp only[O7,D1,I1,simprocAttr,N,aG];refine A3 (λhj=>?_) ?_
    .have W:=T.inS hj;have az:E2 h (i5 w2):=G4 hw S ag;have I:=O4 (P:=prog) (t:=3) T az (ej0 hj) K1;have ac:(E3 nx a)[j]∈E3 nx a:=ek0 hj;have aj:=ej8 hj;generalize bc:(E3 nx a)[j]=b at I ac aj;have ab:I9 nx.length b=true:=hg.ok _ aB b ac;have F:I9 q.length b=true:=by rw[p.len,J];exact ab
     obtain⟨G,aI⟩:=N1 F;have V:=m.inS G;have d1:decide (0<=b)=true:=by simpa using(B5.1 ab).1
     have X:=E1 (P:=prog) (t:=4) m (k:=b.toNat) (x:=z7 q b) (by rw[aI];simp[List.getD,G]) ai9;have ba:=m.isS;by_cases hbs:z7 q b=true
     .have H:(!z7 q b)=false:=by rw[hbs];rfl
      simp only[O7,W0,D1,I1,unV,A0,O8.val,simprocAttr,N,an,g1,W,I,V,d1,X,H];refine V1 (al,q,j+1) ⟨C,m,r,S,z,p,n,?_⟩;simp only[];rw[aj];intro c o;rcases ej9.1 o with o|o
      .exact A c o
      .simp at o;subst o;exact hbs
     .have Q:z7 q b=false:=by simpa using hbs
      have H:(!z7 q b)=true:=by rw[Q];rfl
      have ad:=p.count;obtain⟨w3,s1,s2,s3,s4⟩:=F9 (P:=prog) (t:=4) m rfl (k:=b.toNat) G (x:=.bool true) (y:=true) rfl rfl (A4 V4).choose_spec.1 (by rw[<-F0 (A4 V4).choose_spec.1];exact aE0);have ay:=C.mod s3 λb D O=>r b O D;have v:p6 (λb=>A5 vs b\/A5 E b) w w3:=S.trans (s3.weaken λb _ D=>.inl D);have aA:E2 h (i5 w3):=G4 hw v ag;obtain⟨p1,u',w4,p2,p3,p4,p5⟩:=push (e:=45) W3 rfl ay (x:=.int .i64 b) (y:=b) rfl om om aA;simp only[Value.cells]at p1 p2;simp only[O7,W0,D1,I1,unV,A0,O8.val,simprocAttr,N,an,g1,W,I,V,d1,X,H,s1,p1,p2];have bg:w.heap.size<=w3.heap.size:=v.size;have aD:∀b,A5 (f2 2) b->A5 E b\/w.heap.size<=b:=z;refine V1 (al++[b],q.set b.toNat true,j+1) ⟨p3,s2.mod p4 (λb D O=>r b D O),?_,?_,?_,?_,?_,?_⟩
      .intro c ap aJ;rcases p5 c aJ with U|U
       .exact r c ap U
       .have:=s2.lt ap;omega
      .refine⟨p4.os.trans v.os,p4.tape.trans v.tape,p4.output.trans v.output,ej7 v.size p4.size,λk hk hn=>?_⟩;refine(p4.block k (eq5 hk v.size) λD=>?_).trans (v.block k hk hn);rcases z k D with U|U
       .exact hn (.inr U)
       .omega
      .intro c o;rcases p5 c o with U|U
       .exact z c U
       .exact .inr om
      .refine p.push (by rw[J];exact ab) Q (.step (p.via a (el0 n)) ac ?_);rw[et8];intro hh;rw[(p.mark b).2 (.inl hh)]at Q;cases Q
      .simp only[];rw[eo2 (ej5.1 n).1];exact n
      .simp only[];rw[aj];intro c o;rcases ej9.1 o with o|o
       .exact aX8 F (A c o)
       .simp at o;subst o;rw[M9 F,if_pos rfl]
    .rintro rfl;rw[ek4]at A;simp only[O7,D1,I1,simprocAttr,g7];have ad:=p.count;refine nx2 (al,q,i+1) ⟨C,m,r,S,z,p.next n A⟩
  .have aK:i=td.length:=by have:=hi.le;simp at o;omega
   subst aK;simp only[O7,simprocAttr];exact o8 results259 ⟨td,sn,B,ah,aq,hm,ax,hi.fin⟩
def el6:=@List.mem_filter
def en3:=@List.mem_range
inductive Rch (nx:List (List Int)) (from_:List Int):Int->Prop
 | base {a:Int}:a∈from_->I9 nx.length a=true->Rch nx from_ a
 | step {a b:Int}:Rch nx from_ a->b∈E3 nx a->Rch nx from_ b
def Rch.ok{nx:List (List Int)}{l:List Int}(c:G2 nx.length nx){b:Int}(h:Rch nx l b):I9 nx.length b=true:=by
 cases h with
 | base _ h=>exact h
 | step _ a=>exact(c.row _).2 _ a
def dB1{nx:List (List Int)}{f:List Bool}{g l:List Int}(hm:∀b,z7 f b=true↔b∈g)(d:∀b,b∈g↔b∈l/\I9 nx.length b=true)(b:Int):Via nx f g b↔Rch nx l b:=by
 constructor
 .intro h
  induction h with
  | base i=>exact .base ((d _).1 i).1 ((d _).1 i).2
  | step _ c _ e=>exact .step e c
 .intro h
  induction h with
  | base j k=>exact .base ((d _).2 ⟨j,k⟩)
  | @step a b _ c e=>
   cases hs:z7 f b with
   | true=>exact .base ((hm b).1 hs)
   | false=>exact .step e c hs
def co0{l:List Bool}{b:Int}:b∈aj5 l l.length↔z7 l b=true:=by
 unfold aj5;rw[el2];constructor
 .rintro⟨i,c,rfl⟩;rw[el6,en3]at c;have a:I9 l.length (i:Int)=true:=B5.2 ⟨om,om⟩;rw[(N1 a).2];simpa[List.getD]using c.2
 .intro h;have a:=X5 h;obtain⟨d,e⟩:=N1 a;have f:=B5.1 a;refine⟨b.toNat,?_,om⟩;rw[el6,en3];rw[e]at h;exact⟨d,by simpa[List.getD]using h⟩
def bH6(l:List Bool)(k:Nat):(aj5 l k).Pairwise (· < ·):=by
 unfold aj5;rw[List.pairwise_map];refine List.Pairwise.filter _ ?_;exact(List.pairwise_lt_range (n:=k)).imp λh=>om
structure dC1 (l:List Int) (p:Int->Prop):Prop where
 le:l.Pairwise (· < ·)
 mem:∀b,b∈l↔p b
structure FI (n:Nat) (l:List Int) (td:List Int) (sn:List Bool):Prop where
 len:sn.length=n
 mark:∀b,z7 sn b=true↔b∈td
 mem:∀b,b∈td↔b∈l/\I9 n b=true
 count:td.length+sn.count false=n
def FI.start(n:Nat):FI n [] [] (List.replicate n false):=
 ⟨dP,λb=>by simp[aH3],λb=>dP,dP⟩
def FI.old{n:Nat}{l g:List Int}{f:List Bool}(h:FI n l g f){a:Int}(c:I9 n a=false\/z7 f a=true):FI n (l++[a]) g f:=by
 refine⟨h.len,h.mark,λb=>?_,h.count⟩;rw[h.mem,ej9,ek5];constructor
 .rintro⟨d,e⟩;exact⟨.inl d,e⟩
 .rintro⟨d|d,e⟩
  .exact⟨d,e⟩
  .subst d;rcases c with c|c
   .rw[e]at c;cases c
   .exact(h.mem b).1 ((h.mark b).1 c)
def FI.new{n:Nat}{l k:List Int}{g:List Bool}(h:FI n l k g){a:Int}(j:I9 n a=true)(m:z7 g a=false):FI n (l++[a]) (k++[a]) (g.set a.toNat true):=by
 have c:I9 g.length a=true:=by rw[h.len];exact j
 have f:=(N1 c).1;have e:g[a.toNat]=false:=by
  have:=(N1 c).2;rw[m]at this;simp[List.getD,f]at this;exact this
 refine⟨by simp[h.len],λb=>?_,λb=>?_,?_⟩
 .rw[M9 c,ej9,ek5];by_cases hb:b=a
  .subst hb;simp
  .simp[hb,h.mark b]
 .rw[ej9,ej9,ek5,h.mem];constructor
  .rintro(⟨d,i⟩|rfl)
   .exact⟨.inl d,i⟩
   .exact⟨.inr rfl,j⟩
  .rintro⟨d|d,i⟩
   .exact .inl ⟨d,i⟩
   .exact .inr d
 .have:=h.count;have:=ad8 f e;simp only[ej2,em3];omega
def cO2(pg:Value)(nx pv:List (List Int))(v:Value)(l:List Int)(w:World)(U:GR (i5 w) pg nx pv)(hg:G2 nx.length nx)(ap:nx.length<=5000)(hv:R (i5 w) v l)(hl:l.length<=1000000000):
  y5 prog 196 #[pg,v] w λu M=>((∃r,B0 (i5 w) M 3 u r/\dC1 r (Rch nx l))/\o6 w M):=by
 have V:=U;obtain⟨gb,vn,vp,rfl,N,h2,h3,h4⟩:=U;refine z6 [.pointer (some ⟨gb,0,none⟩),v] func196 rfl ?_;have am:=J7 (P:=prog) (t:=261) N (n7 _) ab6;have af:=h3.isS;have aq:=h3.vlen;have hS:=hv.isS;have au:=hv.vlen;obtain⟨u0,w0,ao,ar,av,aO,_⟩:=mk (P:=prog) (w:=w) (h:=i5 w) bl6 V4 (α:=Bool) (y:=false) rfl (n:=nx.length) om om (n7 _);simp only[O7,W0,D1,ab0,simprocAttr,am,af,aq,ao,hS,au];refine E8 [0,1,5,17,18] (σ:=List Int×List Bool×Nat) (λs f M=>f 19 = .int .i64 s.2.2/\s.2.2<=l.length/\B0 (i5 w) M 3 (f 6) s.1/\B0 (i5 w) M 4 u0 s.2.1/\(∀b,A5 u0 b->¬A5 (f 6) b)/\o6 w M/\FI nx.length (l.take s.2.2) s.1 s.2.1)
  (λs=>l.length-s.2.2) ([],List.replicate nx.length false,0) ?_ ?_
 .simp only[B8,simprocAttr];exact⟨tt,ek1 _,B0.nil _ _ _,ar,λb _ i=>D8 i,av,FI.start _⟩
 .rintro⟨td,A,k⟩ f w1 hk ⟨g,al,o,d,j,J,m⟩;simp only at g al o d m;simp only[em0,B8,simprocAttr]at hk;obtain⟨e0,e1,Z,ac,ad,_⟩:=hk;have ay:=m.count;simp only[O7,D1,I1,simprocAttr,g,ad];refine A3 (λz=>?_) ?_
  .have ak:=hv.inS z;have G:=O4 (P:=prog) (t:=3) hv (b7 J) (ej0 z) K1;have C:=ej8 z;generalize aR:l[k]=a at G C;simp only[O7,W0,A0,O8.val,simprocAttr,g,ac,e0,ak,G];refine y4 (bh4 _ nx pv a w1 (V.mono (b7 J))) ?_;rintro u w1 ⟨rfl,rfl⟩;by_cases E:I9 nx.length a=true
   .have Q:I9 A.length a=true:=by rw[m.len];exact E
    obtain⟨p,ag⟩:=N1 Q;have F:=d.inS p;have d1:decide (0<=a)=true:=by simpa using(B5.1 E).1
    have H:=E1 (P:=prog) (t:=4) d (k:=a.toNat) (x:=z7 A a) (by rw[ag];simp[List.getD,p]) ai9;have aN:=d.isS;by_cases hbs:z7 A a=true
    .have q:(!z7 A a)=false:=by rw[hbs];rfl
     simp only[O7,W0,D1,I1,unV,A0,O8.val,simprocAttr,E,g,Z,F,d1,H,q];refine V1 (td,A,k+1) ⟨o,d,j,J,?_⟩;simp only[];rw[C];exact m.old (.inr hbs)
    .have S:z7 A a=false:=by simpa using hbs
     have q:(!z7 A a)=true:=by rw[S];rfl
     obtain⟨w3,s1,s2,s3,s4⟩:=F9 (P:=prog) (t:=4) d rfl (k:=a.toNat) p (x:=.bool true) (y:=true) rfl rfl (A4 V4).choose_spec.1 (by rw[<-F0 (A4 V4).choose_spec.1];exact aE0);have I:=o.mod s3 λb i K=>j b K i;have D:=d.ext2 J s3;obtain⟨p1,u',w4,p2,p3,p4,p5⟩:=push (e:=45) W3 rfl I (x:=.int .i64 a) (y:=a) rfl om om (b7 D);simp only[Value.cells]at p1 p2;simp only[O7,W0,D1,I1,unV,A0,O8.val,simprocAttr,E,g,Z,F,d1,H,q,s1,p1,p2];refine V1 (td++[a],A.set a.toNat true,k+1) ⟨p3,s2.mod p4 (λb i K=>j b i K),?_,I.ext2 D p4,?_⟩
     .intro c T ah;rcases p5 c ah with N|N
      .exact j c T N
      .have:=s2.lt T;omega
     .simp only[];rw[C];exact m.new E S
   .have O:I9 nx.length a=false:=by simpa using E
    simp only[O7,D1,I1,simprocAttr,O,g];refine V1 (td,A,k+1) ⟨o,d,j,J,?_⟩;simp only[];rw[C];exact m.old (.inl O)
  .rintro rfl;rw[ek4]at m;have W:=J7 (P:=prog) (t:=261) N (b7 J) ab6;simp only[O7,W0,simprocAttr,e0,Z,W];refine y4 (ct9 (i5 w) vn u0 (f 6) nx A td w1 (b7 J) h3 hg d o j m.len (λa E=>(m.mark a).2 E) ap om) ?_;rintro u w2 ⟨aW,Y,aC,X,az,an,aB,B⟩;have L:o6 w w2:=p6.ext_of J an λb i=>by
    rcases en2 b w.heap.size with z|aj
    .have:(i5 w) b=none:=i.elim d.free o.free;simp[i5,z]at this
    .exact aj
   have aQ:Y.length=nx.length:=by rw[B.len,m.len]
   simp only[O7,simprocAttr,Z];refine y4 (cA3 u0 Y w2 (X.rw_ (b7 L)) om) ?_;rintro r w3 ⟨hr,D⟩;simp only[O7,simprocAttr];refine o8 results196 ⟨⟨_,hr.back L,bH6 _ _,λb=>?_⟩,L.trans D⟩;rw[co0,B.mark,<-dB1 m.mark m.mem];constructor
   .rintro(i|i)
    .exact .base ((m.mark b).1 i)
    .exact(B.via b).1 i
   .exact λi=>.inr ((B.via b).2 i)
def ew0:=@List.take_add_one
inductive W1 (nx:List (List Int)) (a:Int):Int->Prop
 | refl:W1 nx a a
 | step {b c:Int}:W1 nx a b->c∈E3 nx b->W1 nx a c
def W1.trans{nx:List (List Int)}{a b c:Int}(h:W1 nx a b)(k:W1 nx b c):W1 nx a c:=by
 induction k with
 | refl=>exact h
 | step _ d e=>exact .step e d
def W1.one{nx:List (List Int)}{a b:Int}(h:b∈E3 nx a):W1 nx a b:=.step .refl h
def aw8(nx:List (List Int))(a b:Int):Prop:=W1 nx a b/\W1 nx b a
def aw8.refl{nx:List (List Int)}(a:Int):aw8 nx a a:=⟨.refl,.refl⟩
def aw8.symm{nx:List (List Int)}{a b:Int}(h:aw8 nx a b):aw8 nx b a:=⟨h.2,h.1⟩
def aw8.trans{nx:List (List Int)}{a b c:Int}(h:aw8 nx a b)(k:aw8 nx b c):aw8 nx a c:=⟨h.1.trans k.1,k.2.trans h.2⟩
def ai(l:List Int)(a:Int):Int:=l.getD a.toNat 0
def bo3{l:List Int}{n:Nat}(f:l.length=n){a b v:Int}(c:I9 n a=true)(hb:I9 n b=true):ai (l.set a.toNat v) b=if b=a then v else ai l b:=by
 have d:=B5.1 c;have e:=B5.1 hb;unfold ai;by_cases h:b=a
 .subst h;rw[if_pos rfl];have:b.toNat<l.length:=om
  simp[List.getD,this]
 .rw[if_neg h];have:a.toNat≠b.toNat:=om
  simp[List.getD,this]
def dD3{nx:List (List Int)}{a d:List Int}(hb:∀x∈a,∀y∈E3 nx x,y∈a\/y∈d){x r:Int}(j:x∈a)(hw:W1 nx x r)(i:r∉a):∃g∈d,W1 nx x g:=by
 induction hw with
 | refl=>exact absurd j i
 | @step b c hw f k=>
  by_cases h:b∈a
  .rcases hb b h c f with e|e
   .exact absurd e i
   .exact⟨c,e,.step hw f⟩
  .exact k h
structure DI (nx:List (List Int)) (n:Nat) (out stack:List Int) (seen:List Bool) (at_:List Int):Prop where
 slen:seen.length=n
 alen:at_.length=n
 mark:∀b,z7 seen b=true↔b∈out\/b∈stack
 count:out.length+stack.length+seen.count false=n
 apart:∀b∈out,b∉stack
 onod:out.Nodup
 snod:stack.Nodup
 path:stack.Pairwise (W1 nx)
 black:∀x∈out,∀y∈E3 nx x,y∈out\/y∈stack
 atok:∀a,I9 n a=true->0<=ai at_ a/\ai at_ a<=(E3 nx a).length
 white:∀a,I9 n a=true->z7 seen a=false->ai at_ a=0
 grey:∀g∈stack,∀y∈(E3 nx g).take (ai at_ g).toNat,z7 seen y=true
 low:∀x∈out,∀g∈stack,W1 nx x g->∃c∈stack,aw8 nx c x
 cut:∀k,∀x∈out.take k,∀r,r∉out.take k->W1 nx x r->∃c,c∉out.take k/\aw8 nx c x
section
variable {nx:List (List Int)} {n:Nat} {out stack:List Int} {seen:List Bool} {at_:List Int}
def DI.start(hn:nx.length=n):DI nx n [] [] (List.replicate n false) (List.replicate n 0):=by
 have d:∀a,ai (List.replicate n 0) a=0:=λa=>by
  simp[ai,List.getD,eu3];split<;>rfl
 have no:∀(x:Int) {p:Prop},x∈([]:List Int)->p:=λx p h=>absurd h (en5);exact⟨dP,dP,λb=>by simp[aH3],dP,λb e=>no b e,List.nodup_nil,List.nodup_nil,List.Pairwise.nil,λx c=>no x c,
  λa _=>(by rw[d];omega),λa _ _=>d a,λg f=>no g f,λx c=>no x c,λk x c=>no x (by simpa using c)⟩
def DI.ok(h:DI nx n out stack seen at_){b:Int}(hb:b∈out\/b∈stack):I9 n b=true:=by
 have:=X5 ((h.mark b).2 hb)
 rwa [h.slen]at this
def DI.push(h:DI nx n out stack seen at_){y:Int}(E:I9 n y=true)(k:z7 seen y=false)(hw:∀g∈stack,W1 nx g y):DI nx n out (stack++[y]) (seen.set y.toNat true) at_:=by
 have i:I9 seen.length y=true:=by rw[h.slen];exact E
 have j:∀c,z7 (seen.set y.toNat true) c=if c=y then true else z7 seen c:=λc=>M9 i;have o:=(N1 i).1;have m:seen[y.toNat]=false:=by
  have:=(N1 i).2;rw[k]at this;simp[List.getD,o]at this;exact this
 have p:y∉out:=λA=>by rw[(h.mark y).2 (.inl A)]at k;cases k
 have B:y∉stack:=λA=>by rw[(h.mark y).2 (.inr A)]at k;cases k
 refine⟨by simp[h.slen],h.alen,λc=>?_,?_,λb e u=>?_,h.onod,?_,?_,λx t z r=>?_,h.atok,λa l f=>?_,λg v z r=>?_,λx t g v q=>?_,h.cut⟩
 .rw[j,ej9,ek5];by_cases s:c=y
  .subst s;simp
  .simp[s,h.mark c]
 .have:=h.count;have:=ad8 o m;simp only[ej2,em3];omega
 .rcases ej9.1 u with d|d
  .exact h.apart b e d
  .simp at d;subst d;exact p e
 .rw[eo0];refine⟨h.snod,dP,λa l b e=>?_⟩;simp at e;subst e;rintro rfl;exact B l
 .rw[List.pairwise_append];refine⟨h.path,dP,λa l b e=>?_⟩;simp at e;subst e;exact hw a l
 .rcases h.black x t z r with d|d
  .exact .inl d
  .exact .inr (em4 _ d)
 .rw[j]at f;split at f
  .cases f
  .exact h.white a l f
 .rcases ej9.1 v with d|d
  .exact aX8 i (h.grey g d z r)
  .simp at d;subst d;rw[h.white g E k]at r;simp at r
 .have D:∃g∈stack,W1 nx x g:=by
   rcases ej9.1 v with d|d
   .exact⟨g,d,q⟩
   .simp at d;subst d;exact dD3 h.black t q p
  obtain⟨F,w,C⟩:=D;obtain⟨c,s,e⟩:=h.low x t F w C;exact⟨c,em4 _ s,e⟩
def DI.adv(h:DI nx n out stack seen at_){a y:Int}(j:I9 n a=true){k:Nat}(q:ai at_ a=k)(p:(E3 nx a)[k]?=some y)(s:z7 seen y=true)(o:z7 seen a=true):DI nx n out stack seen (at_.set a.toNat (k+1:Nat)):=by
 have r:=(ej5.1 p).1;refine⟨h.slen,by simp[h.alen],h.mark,h.count,h.apart,h.onod,h.snod,h.path,h.black,λb d=>?_,λb d c=>?_,λg l z f=>?_,h.low,h.cut⟩
 .rw[bo3 h.alen j d];split
  .rename_i e;subst e;omega
  .exact h.atok b d
 .rw[bo3 h.alen j d];split
  .rename_i e;subst e;rw[o]at c;cases c
  .exact h.white b d c
 .have m:=h.ok (.inr l);rw[bo3 h.alen j m]at f;split at f
  .rename_i e;subst e;rw[el5,ew0,p]at f;rcases ej9.1 f with i|i
   .refine h.grey g l z ?_;rw[q,el5];exact i
   .simp at i;subst i;exact s
  .exact h.grey g l z f
def DI.pop{s:List Int}{a:Int}(h:DI nx n out (s++[a]) seen at_)(F:ai at_ a=(E3 nx a).length):DI nx n (out++[a]) s seen at_:=by
 have has:a∈s++[a]:=dP
 have C:a∉out:=λt=>h.apart a t has;have v:=eo0.1 h.snod;have u:a∉s:=λt=>v.2.2 a t a dP rfl;have w:=List.pairwise_append.1 h.path;have q:∀g∈s,W1 nx g a:=λg f=>w.2.2 g f a dP;have e:∀x∈out++[a],∀y∈E3 nx x,y∈out++[a]\/y∈s:=by
  intro x i y z;have hm:y∈out\/y∈s++[a]:=by
   rcases ej9.1 i with d|d
   .exact h.black x d y z
   .simp at d;subst d;refine(h.mark y).1 (h.grey x has y ?_);rw[F,el5,ek4];exact z
  rcases hm with d|d
  .exact .inl (em4 _ d)
  .rcases ej9.1 d with j|j
   .exact .inr j
   .exact .inl (en7 _ j)
 have l:∀x∈out++[a],∀g∈s,W1 nx x g->∃c∈s,aw8 nx c x:=by
  intro x i g f o;rcases ej9.1 i with d|d
  .obtain⟨c,B,m⟩:=h.low x d g (em4 _ f) o;rcases ej9.1 B with j|j
   .exact⟨c,j,m⟩
   .simp at j;subst j;exact⟨g,f,⟨(q g f).trans m.1,o⟩⟩
  .simp at d;subst d;exact⟨g,f,⟨q g f,o⟩⟩
 have p:∀b∈out++[a],b∉s:=by
  intro b m E;rcases ej9.1 m with d|d
  .exact h.apart b d (em4 _ E)
  .simp at d;subst d;exact u E
 refine⟨h.slen,h.alen,λb=>?_,?_,p,?_,v.1,w.1,e,h.atok,h.white,λg f=>h.grey g (em4 _ f),l,λk x i r A o=>?_⟩
 .rw[h.mark,ej9,ej9];constructor
  .rintro(d|d|d)
   .exact .inl (.inl d)
   .exact .inr d
   .exact .inl (.inr d)
  .rintro((d|d)|d)
   .exact .inl d
   .exact .inr (.inr d)
   .exact .inr (.inl d)
 .have:=h.count;simp only[ej2,em3]at this ⊢;omega
 .rw[eo0];refine⟨h.onod,dP,λx i y z=>?_⟩;simp at z;subst z;rintro rfl;exact C i
 .by_cases hkl:k<=out.length
  .rw[ep6 hkl]at i A ⊢;exact h.cut k x i r A o
  .rw[en6 (by simp;omega)]at i A ⊢;obtain⟨g,f,D⟩:=dD3 e i o A;obtain⟨c,B,m⟩:=l x i g f D;exact⟨c,λt=>p c t B,m⟩
end
structure bf4 (nx:List (List Int)) (n:Nat) (out:List Int):Prop where
 nod:out.Nodup
 mem:∀b,b∈out↔I9 n b=true
 cut:∀k,∀x∈out.take k,∀r,r∉out.take k->W1 nx x r->∃c,c∉out.take k/\aw8 nx c x
 len:out.length=n
def DI.fin{nx:List (List Int)}{n:Nat}{d:List Int}{a:List Bool}{f:List Int}(h:DI nx n d [] a f)(c:∀b,I9 n b=true->z7 a b=true):bf4 nx n d:=by
 have hm:∀b,b∈d↔I9 n b=true:=λb=>⟨λg=>h.ok (.inl g),λg=>by
  rcases(h.mark b).1 (c b g)with e|e
  .exact e
  .cases e⟩
 refine⟨h.onod,hm,h.cut,?_⟩;have o:a.count false=0:=by
  rw[List.count_eq_zero];intro l;obtain⟨i,m,k⟩:=List.getElem_of_mem l;have j:I9 a.length (i:Int)=true:=B5.2 ⟨om,om⟩;have e:=c i (by rw[<-h.slen];exact j);rw[(N1 j).2]at e;simp[List.getD,m,k]at e
 have:=h.count;simp only[ep7]at this;omega
def cJ6(nx:List (List Int))(a:List Int)(n:Nat):Nat:=((List.range n).map λ(i:Nat)=>(E3 nx (i:Int)).length-(ai a (i:Int)).toNat).sum
def dm9{f g:Nat->Nat}{i:Nat}:∀{n:Nat},i<n->(∀j,j<n->j≠i->f j=g j)->f i<g i->((List.range n).map f).sum<((List.range n).map g).sum
 | 0,h,_,_=>om
 | n+1,h,he,hl=>by
  have E2:∀m,(∀j,j<m->j≠i->f j=g j)->((List.range m).map f).sum<=((List.range m).map g).sum:=by
   intro m
   induction m with
   | zero=>intro _;simp
   | succ m c=>
    intro a;have:=c λj b=>a j om;rw[eu5];simp only[em6,List.sum_append,en8,List.map_nil,eu6,List.sum_nil];by_cases hm:m=i
    .subst hm;omega
    .have:=a m om hm;omega
  rw[eu5];simp only[em6,List.sum_append,en8,List.map_nil,eu6,List.sum_nil];by_cases hn:n=i
  .subst hn;have:=E2 n λj b=>he j om;omega
  .have:=dm9 (n:=n) om (λj b=>he j om) hl;have:=he n om hn;omega
def cU1{nx:List (List Int)}{b:List Int}{n:Nat}(f:b.length=n){a:Int}(c:I9 n a=true){k:Nat}(h:ai b a=k)(l:k<(E3 nx a).length):cJ6 nx (b.set a.toNat (k+1:Nat)) n<cJ6 nx b n:=by
 have g:=B5.1 c;refine dm9 (i:=a.toNat) om (λj o m=>?_) ?_
 .have d:I9 n (j:Int)=true:=B5.2 ⟨om,om⟩;rw[bo3 f c d,if_neg om]
 .have e:((a.toNat:Nat):Int)=a:=om
  rw[e,bo3 f c c,if_pos rfl,h];omega
def ej1:=@Bool.eq_false_or_eq_true
def Dj(u v:Value):Prop:=∀b,A5 u b->¬A5 v b
def Dj.symm{u v:Value}(h:Dj u v):Dj v u:=λb a c=>h b c a
def Dj.nil(u:Value):Dj u (.slice none 0 0):=λb _ h=>D8 h
section
variable {α:Type} [A6 α] {h:Hp} {w:World} {T:TypeId} {x y y' v:Value} {xs:List α}
def Dj.move(e:Dj x y)(f:B0 h w T x xs)(hm:E7 w y y'):Dj x y':=λb d a=>by
 rcases hm b a with c|c
 .exact e b d c
 .have:=f.lt d;omega
def Dj.fresh(e:B0 h w T x xs)(d:∀b,A5 y b->w.heap.size<=b):Dj x y:=λb c a=>by
 have:=e.lt c;have:=d b a;omega
def B0.apart{c:World}(f:B0 h w T x xs)(hm:p6 (A5 y) w c)(e:Dj x y):B0 h c T x xs:=f.mod hm λb d a=>e b d a
def dz4{v:Value}{k sz:Nat}(hS:isS v=true)(d:0<vcap v):∃a n c,v = .slice a n c/\reS v 0 k sz = .slice a k c:=by
 cases v<;>simp[Go.Proofs.YtpebpfiglfmegaaGreat.isS]at hS;rename_i a n c;refine⟨a,n,c,rfl,?_⟩;simp only[vcap]at d;have b:¬c=0:=om
 cases a<;>simp[reS,M8,b]
def B0.pre(y:B0 h w T v xs){k:Nat}(f:k<=xs.length)(r:0<xs.length):B0 h w T (reS v 0 k (A6.sz α)) (xs.take k)/\∀b,A5 (reS v 0 k (A6.sz α)) b↔A5 v b:=by
 rcases y with⟨rfl,rfl⟩|⟨b,c,d,rfl,s,t,D,u,x,l⟩
 .simp at r
 .obtain⟨a,n,A,e,q⟩:=dz4 (v:=.slice (some ⟨b,0,none⟩) xs.length c) (k:=k) (sz:=A6.sz α) rfl (by show 0<c;omega);cases e;rw[q];refine⟨.inr ⟨b,c,d,by rw[ek3,eo8 f],s,t,by rw[ek3];omega,u,x,?_⟩,λz=>by simp[A5,Value.ownBlock]⟩;rw[ek3,eo8 f];have o:xs=xs.take k++xs.drop k:=(en4 k xs).symm;rw[o]at l;obtain⟨p,B,i,j,C⟩:=aa6 _ _ l;have g:=O2 j;rw[ek3,eo8 f]at g;rw[<-o]at i;have:d.toList.take (k*A6.sz α)=p:=by
   have m:=el1 (List.take (k*A6.sz α)) i;rw[List.take_take,eo8 (es3 _ f),<-g,es9]at m;rw[<-g];exact m
  rw[this];exact j
end
def co9{α:Type}(l:List α):l=[]\/∃s a,l=s++[a]:=by
 rcases List.eq_nil_or_concat l with h|⟨s,a,h⟩
 .exact .inl h
 .exact .inr ⟨s,a,by rw[h,List.concat_eq_append]⟩
def cR3(pg:Value)(nx pv:List (List Int))(w:World)(a7:GR (i5 w) pg nx pv)(hg:G2 nx.length nx)(ck:nx.length<=5000):
  y5 prog 336 #[pg] w λu B=>((∃r,B0 (i5 w) B 3 u r/\bf4 nx nx.length r)/\o6 w B):=by
 have bW:=a7;obtain⟨gb,vn,vp,rfl,h1,h2,h3,h4⟩:=a7;refine z6 [.pointer (some ⟨gb,0,none⟩)] func336 rfl ?_;have bM:=J7 (P:=prog) (t:=261) h1 (n7 _) ab6;have bG:=h3.isS;have bO:=h3.vlen;obtain⟨u0,w0,bN,be,aS,cg,_⟩:=mk (P:=prog) (w:=w) (h:=i5 w) bl6 V4 (α:=Bool) (y:=false) rfl (n:=nx.length) om om (n7 _);have a9:=J7 (P:=prog) (t:=261) h1 (b7 aS) ab6;obtain⟨u1,w1,bd,bP,au,bK,_⟩:=mk (P:=prog) (w:=w0) (h:=i5 w) W3 aG4 (α:=Int) (y:=0) rfl (n:=nx.length) om om (b7 aS);have aM:=aS.trans au;have ba:=J7 (P:=prog) (t:=261) h1 (b7 aM) ab6;have ab:Dj u0 u1:=Dj.fresh be bK;simp only[O7,W0,ab0,simprocAttr,bM,bG,bO,bN,a9,bd,ba];refine E8 [0,5,6,26] (σ:=List Int×List Bool×List Int×Nat) (λs f B=>f 27 = .int .i64 s.2.2.2/\s.2.2.2<=nx.length/\B0 (i5 w) B 3 (f 3) s.1/\B0 (i5 w) B 3 (f 4) ([]:List Int)/\B0 (i5 w) B 4 u0 s.2.1/\B0 (i5 w) B 3 u1 s.2.2.1 /\
   Dj (f 3) (f 4)/\Dj u0 (f 3)/\Dj u0 (f 4)/\Dj u1 (f 3)/\Dj u1 (f 4)/\o6 w B/\DI nx nx.length s.1 [] s.2.1 s.2.2.1/\∀r:Nat,r<s.2.2.2->z7 s.2.1 r=true)
  (λs=>nx.length-s.2.2.2) ([],List.replicate nx.length false,List.replicate nx.length 0,0) ?_ ?_
 .simp only[B8,simprocAttr];exact⟨tt,ek1 _,B0.nil _ _ _,B0.nil _ _ _,be.ext au,bP,Dj.nil _,Dj.nil _,Dj.nil _,Dj.nil _,Dj.nil _,aM,DI.start rfl,λr hr=>om⟩
 .rintro⟨aV,sn,aZ,r⟩ f w2 hk ⟨X,bR,F,i,o,m,z,p,j,C,q,hx,l,d⟩;simp only at X bR F i o m l d;simp only[em0,B8,simprocAttr]at hk;obtain⟨e0,e5,e6,a0,_⟩:=hk;simp only[O7,D1,I1,simprocAttr,X,a0];refine A3 (λcj=>?_) ?_
  .have bi:I9 nx.length (r:Int)=true:=B5.2 ⟨om,om⟩;have aI:I9 sn.length (r:Int)=true:=by rw[l.slen];exact bi
   obtain⟨O,bh⟩:=N1 aI;simp only[el5]at O bh;have ay:=o.inS O;have aC:=E1 (P:=prog) (t:=4) o (k:=r) (x:=z7 sn r) (by rw[bh];simp[List.getD,O]) ai9;have cd:=o.isS;rcases ej1 (z7 sn r)with hbs|hbs
   case' inl=>
    have Z:(!z7 sn r)=false:=by rw[hbs];rfl
    simp only[O7,W0,unV,A0,O8.val,simprocAttr,X,e5,ay,aC,Z];refine E8 [0,5,6,26,27] (σ:=List Int×List Int×List Bool×List Int) (λs f B=>B0 (i5 w) B 3 (f 3) s.1/\B0 (i5 w) B 3 (f 4) s.2.1/\B0 (i5 w) B 4 u0 s.2.2.1/\B0 (i5 w) B 3 u1 s.2.2.2 /\
      Dj (f 3) (f 4)/\Dj u0 (f 3)/\Dj u0 (f 4)/\Dj u1 (f 3)/\Dj u1 (f 4)/\o6 w B/\DI nx nx.length s.1 s.2.1 s.2.2.1 s.2.2.2/\∀V:Nat,V<r+1->z7 s.2.2.1 V=true)
     (λs=>cJ6 nx s.2.2.2 nx.length+(nx.length-s.1.length)) (aV,[],sn,aZ) ?_ ?_
    .simp only[B8,simprocAttr];refine⟨F,i,o,m,z,p,j,C,q,hx,l,λV aR=>?_⟩;by_cases hrr:V=r
     .subst hrr;exact hbs
     .exact d V om
   case' inr=>
    have Z:(!z7 sn r)=true:=by rw[hbs];rfl
    obtain⟨w3,s1,s2,s3,s4⟩:=F9 (P:=prog) (t:=4) o rfl (k:=r) O (x:=.bool true) (y:=true) rfl rfl (A4 V4).choose_spec.1 (by rw[<-F0 (A4 V4).choose_spec.1];exact aE0);have L:=o.ext2 hx s3;have aF:=F.apart s3 p.symm;have aJ:=i.apart s3 j.symm;have aD:=m.apart s3 ab.symm;obtain⟨p1,u',w4,p2,p3,T,p5⟩:=push (e:=45) W3 rfl aJ (x:=.int .i64 r) (y:=(r:Int)) rfl dP dP (b7 L);simp only[Value.cells]at p1 p2;have av:=aJ.ext2 L T;simp only[O7,W0,unV,A0,O8.val,simprocAttr,X,e5,ay,aC,Z,s1,p1,p2];refine E8 [0,5,6,26,27] (σ:=List Int×List Int×List Bool×List Int) (λs f B=>B0 (i5 w) B 3 (f 3) s.1/\B0 (i5 w) B 3 (f 4) s.2.1/\B0 (i5 w) B 4 u0 s.2.2.1/\B0 (i5 w) B 3 u1 s.2.2.2 /\
      Dj (f 3) (f 4)/\Dj u0 (f 3)/\Dj u0 (f 4)/\Dj u1 (f 3)/\Dj u1 (f 4)/\o6 w B/\DI nx nx.length s.1 s.2.1 s.2.2.1 s.2.2.2/\∀V:Nat,V<r+1->z7 s.2.2.1 V=true)
     (λs=>cJ6 nx s.2.2.2 nx.length+(nx.length-s.1.length)) (aV,[(r:Int)],sn.set r true,aZ) ?_ ?_
    .simp only[B8,simprocAttr];have bk:∀c,z7 (sn.set r true) c=if c=(r:Int)then true else z7 sn c:=λc=>by
      have:=M9 (v:=true) (b:=c) aI;simpa only[el5]using this
     refine⟨aF.apart T z,by simpa using p3,s2.apart T j,aD.apart T q,z.move aF p5,p,j.move s2 p5,C,q.move aD p5,av,?_,λV aR=>?_⟩
     .have:=l.push bi hbs (λg hg=>by cases hg);simpa using this
     .rw[bk];by_cases hrr:V=r
      .subst hrr;simp
      .rw[if_neg om];exact d V om
   all_goals
    rintro⟨S,bu,A,H⟩ f2 W a8 ⟨F,i,o,m,z,p,j,C,q,hx,l,d⟩;simp only at F i o m l d;simp only[em0,B8,↓reduceIte,Nat.reduceEqDiff]at a8;obtain⟨g0,g5,g6,bE,a1,_⟩:=a8;rw[e0]at g0;rw[X]at a1;rw[e5]at g5;rw[e6]at g6;rw[a0]at bE;have Y:=i.isS;have N:=i.vlen;have a6:=l.count;simp only[O7,W0,D1,I1,ab0,simprocAttr,Y,N];refine A8 (λar=>?_) (λar=>?_)
    .rcases co9 bu with rfl|⟨s,a,rfl⟩
     .simp at ar
     rw[show(s++[a]).length=s.length+1 by simp]at N a6;have bn:IntKind.i64.wrap (((s.length+1:Nat):Int)-1)=(s.length:Int):=by rw[M7 _ om];omega
     have aP:=i.inS (k:=s.length) dP;have bb:=E1 (P:=prog) (t:=3) i (k:=s.length) (x:=a) dP K1;have D:I9 nx.length a=true:=l.ok (.inr dP);have a4:=B5.1 D;have d0:decide (0<=a)=true:=by simpa using a4.1
     obtain⟨au,U⟩:=ax7 D;have bH:=l.atok a D;have cc:=m.isS;have M:=m.inS (k:=a.toNat) (by rw[l.alen];exact U);have bc:=E1 (P:=prog) (t:=3) m (k:=a.toNat) (x:=ai H a) (by simp[ai,List.getD,l.alen,U]) K1;obtain⟨k,I⟩:∃k:Nat,ai H a=k:=⟨(ai H a).toNat,om⟩;rw[I]at bc bH;have ch:k<=(E3 nx a).length:=om
     have ax:=h3.inS U;obtain⟨x,L,av⟩:=h3.row au;have br:=L.isS;have bs:=L.vlen;have bZ:=hg.row_len (aC3 D);simp only[O7,W0,D1,I1,A0,ab0,O8.val,simprocAttr,Y,N,bn,aP,bb];refine C0 (λw2=>w2=W.drew) 12 (A7 [0,1,2,3,4,5,6,7,8,9,10,11]) ?_;have ak:=hx.trans (o6.drew W);have aQ:=E1 (P:=prog) (t:=3) (m.ext (o6.drew W)) (k:=a.toNat) (x:=(k:Int)) (by rw[<-I];simp[ai,List.getD,l.alen,U]) K1;simp only[D7,A7,O7,W0,A0,simprocAttr,g6,M,d0];refine⟨.int .i64 k,λw2 e=>by subst e;exact aQ,?_⟩;simp only[D7,O7,W0,simprocAttr,g0];refine⟨vn,λw2 e=>by subst e;exact J7 h1 (b7 ak) ab6,?_⟩;simp only[D7,O7,W0,A0,simprocAttr,ax,d0];refine⟨x,λw2 e=>by subst e;exact J7 av (b7 ak) aj0,?_⟩;have ag:=F.ext (o6.drew W);have aj:=i.ext (o6.drew W);have ah:=o.ext (o6.drew W);have ae:=m.ext (o6.drew W);by_cases hke:k=(E3 nx a).length
     .have ac:((k:Int)==((E3 nx a).length:Int))=true:=by simp[hke]
      obtain⟨p1,u',w6,p2,p3,T,p5⟩:=push (e:=45) W3 rfl ag (x:=.int .i64 a) (y:=a) rfl om om (b7 ak);simp only[Value.cells]at p1 p2;have bS:=i.vcap;simp only[ej2,em3]at bS;have a5:decide ((s.length:Int)<=((vcap (f2 4):Nat):Int))=true:=by simp;omega
      simp only[D7,O7,W0,D1,I1,M4,ab0,simprocAttr,br,bs,ac,p1,p2,Y,N,bn,a5];obtain⟨q1,q2⟩:=(aj.apart T z.symm).pre (k:=s.length) dP dP;have bU:B0 (i5 w) w6 3 (reS (f2 4) 0 s.length 1) s:=by
       have h9:(s++[a]).take s.length=s:=es9;rw[h9]at q1;exact q1
      have K:∀v:Value,Dj v (f2 4)->Dj v (reS (f2 4) 0 s.length 1):=λv hd b hb bJ=>hd b hb ((q2 b).1 bJ);refine⟨(S++[a],s,A,H),?_,p3,bU,ah.apart T p,ae.apart T C,(K _ (z.symm.move aj p5).symm),p.move ah p5,K _ j,C.move ae p5,K _ q,ag.ext2 ak T,l.pop (by rw[I,hke]),d⟩;simp only[ej2,em3];omega
     .have ac:((k:Int)==((E3 nx a).length:Int))=false:=by simp;omega
      have E:k<(E3 nx a).length:=om
      simp only[D7,O7,W0,D1,I1,ab0,simprocAttr,br,bs,ac];refine C0 (λw2=>w2=W.drew.drew) 11 (A7 [0,1,2,3,4,5,6,7,8,9,10]) ?_;have Q:=ak.trans (o6.drew W.drew);have bf:=ag.ext (o6.drew W.drew);have bm:=aj.ext (o6.drew W.drew);have bg:=ah.ext (o6.drew W.drew);have af:=ae.ext (o6.drew W.drew);have J:=E1 (P:=prog) (t:=3) af (k:=a.toNat) (x:=(k:Int)) (by rw[<-I];simp[ai,List.getD,l.alen,U]) K1;simp only[D7,A7,O7,W0,simprocAttr,g0];refine⟨vn,λw2 e=>by subst e;exact J7 h1 (b7 Q) ab6,?_⟩;simp only[D7,O7,W0,A0,simprocAttr,ax,d0];refine⟨x,λw2 e=>by subst e;exact J7 av (b7 Q) aj0,?_⟩;simp only[D7,O7,W0,A0,simprocAttr,g6,M,d0];refine⟨.int .i64 k,λw2 e=>by subst e;exact J,?_⟩;have az:=L.inS E;have ad:=O4 (P:=prog) (t:=3) L (b7 Q) (ej0 E) K1;have aT:(E3 nx a)[k]?=some (E3 nx a)[k]:=ej0 E;have am:(E3 nx a)[k]∈E3 nx a:=ek0 E;generalize(E3 nx a)[k]=y at ad aT am;have aU:I9 nx.length y=true:=hg.ok _ (aC3 D) y am;have R:I9 A.length y=true:=by rw[l.slen];exact aU
      obtain⟨al,bT⟩:=N1 R;have dy:decide (0<=y)=true:=by simpa using(B5.1 aU).1
      have bo:IntKind.i64.wrap ((k:Int)+1)=((k+1:Nat):Int):=J2 k;obtain⟨w7,t1,t2,t3,t4⟩:=F9 (P:=prog) (t:=3) af rfl (k:=a.toNat) (by rw[l.alen];exact U) (x:=.int .i64 ((k+1:Nat):Int)) (y:=((k+1:Nat):Int)) rfl rfl (A4 aG4).choose_spec.1 (by rw[<-F0 (A4 aG4).choose_spec.1];exact bm5);have bp:=af.ext2 Q t3;have aG:=bf.apart t3 C.symm;have aK:=bm.apart t3 q.symm;have G:=bg.apart t3 ab;have aA:=G.inS al;have aB:=E1 (P:=prog) (t:=4) G (k:=y.toNat) (x:=z7 A y) (by rw[bT];simp[List.getD,al]) ai9;have ci:=cU1 (nx:=nx) l.alen D I E;have bj:z7 A a=true:=(l.mark a).2 (.inr dP);have bY:y∈E3 nx a:=am;rcases ej1 (z7 A y)with hby|hby
      .have aa:(!z7 A y)=false:=by rw[hby];rfl
       simp only[D7,O7,W0,D1,I1,unV,A0,O8.val,simprocAttr,az,ad,g6,g5,M,d0,J,bo,t1,aA,dy,aB,aa];exact⟨(S,s++[a],A,H.set a.toNat ((k+1:Nat):Int)),so,aG,aK,G,t2,z,p,j,C,q,bp,l.adv D I aT hby bj,d⟩
      .have aa:(!z7 A y)=true:=by rw[hby];rfl
       obtain⟨w8,v1,v2,v3,v4⟩:=F9 (P:=prog) (t:=4) G rfl (k:=y.toNat) al (x:=.bool true) (y:=true) rfl rfl (A4 V4).choose_spec.1 (by rw[<-F0 (A4 V4).choose_spec.1];exact aE0);have bq:=G.ext2 bp v3;have aH:=aG.apart v3 p.symm;have aL:=aK.apart v3 j.symm;have aE:=t2.apart v3 ab.symm;obtain⟨p1,u',w9,p2,p3,T,p5⟩:=push (e:=45) W3 rfl aL (x:=.int .i64 y) (y:=y) rfl (by simp;omega) (by simp;omega) (b7 bq);simp only[Value.cells]at p1 p2;simp only[D7,O7,W0,D1,I1,unV,A0,O8.val,simprocAttr,az,ad,g6,g5,M,d0,J,bo,t1,aA,dy,aB,aa,v1,p1,p2];refine⟨(S,(s++[a])++[y],A.set y.toNat true,H.set a.toNat ((k+1:Nat):Int)),so,aH.apart T z,p3,v2.apart T j,aE.apart T q,z.move aH p5,p,j.move v2 p5,C,q.move aE p5,aL.ext2 bq T,?_,λV aR=>?_⟩
       .have bQ:=l.push aU hby λg bL=>by
         rcases ej9.1 bL with h9|h9
         .exact .step ((List.pairwise_append.1 l.path).2.2 g h9 a dP) am
         .simp at h9;subst h9;exact W1.one am
        refine bQ.adv D I aT ?_ (aX8 R bj);rw[M9 R,if_pos rfl]
       .exact aX8 R (d V aR)
    .have bl:bu=[]:=by
      simp at ar;exact ar
     subst bl;simp only[O7,D1,I1,simprocAttr,a1];refine V1 (S,A,H,r+1) ⟨F,i,o,m,z,p,j,C,q,hx,l,d⟩
  .rintro rfl;simp only[O7,simprocAttr];refine o8 results336 ⟨⟨aV,F,l.fin λb hb=>?_⟩,hx⟩;have ce:=B5.1 hb;have:=d b.toNat om
   rwa [show((b.toNat:Nat):Int)=b by omega]at this
def es1:=@List.drop_zero
def aR2(nx:List (List Int))(b m:Int):Prop:=aw8 nx b m/\∀c,aw8 nx b c->m<=c
def aR2.uniq{nx:List (List Int)}{b m c:Int}(h:aR2 nx b m)(a:aR2 nx b c):m=c:=
 Int.le_antisymm (h.2 _ a.1) (a.2 _ h.1)
def cF3{n:Nat}{nx:List (List Int)}(e:G2 n nx){a b:Int}(h:W1 nx a b)(c:I9 n a=true):I9 n b=true:=by
 cases h with
 | refl=>exact c
 | step _ d=>exact(e.row _).2 _ d
inductive bN0 (nx:List (List Int)):Int->Int->Prop
 | refl {a:Int}:bN0 nx a a
 | head {a b c:Int}:b∈E3 nx a->bN0 nx b c->bN0 nx a c
def bN0.snoc{nx:List (List Int)}{a b c:Int}(h:bN0 nx a b)(d:c∈E3 nx b):bN0 nx a c:=by
 induction h with
 | refl=>exact .head d .refl
 | head e _ f=>exact .head e (f d)
def W1.toL{nx:List (List Int)}{a b:Int}(h:W1 nx a b):bN0 nx a b:=by
 induction h with
 | refl=>exact .refl
 | step _ c d=>exact d.snoc c
def bN0.way{nx:List (List Int)}{a b:Int}(h:bN0 nx a b):W1 nx a b:=by
 induction h with
 | refl=>exact .refl
 | head c _ d=>exact(W1.one c).trans d
structure PI (nx:List (List Int)) (n:Nat) (order:List Int) (seen:List Bool) (part:List Int) (k:Nat):Prop where
 slen:seen.length=n
 plen:part.length=n
 mark:∀b,z7 seen b=true↔∃c∈order.drop k,aw8 nx c b
 part:∀b,z7 seen b=true->aR2 nx b (ai part b)
section
variable {nx pv:List (List Int)} {n:Nat} {order:List Int} {seen:List Bool} {part:List Int} {k:Nat}
def PI.start(c:bf4 nx n order):PI nx n order (List.replicate n false) (List.replicate n 0) n:=
 ⟨dP,dP,λb=>by simp[aH3,<-c.len],λb a=>by rw[aH3]at a;cases a⟩
def bZ9{l:List Int}{k:Nat}{r:Int}(h:l[k]?=some r):l.drop k=r::l.drop (k+1):=by
 obtain⟨a,e⟩:=ej5.1 h;rw[eo1 a,e]
def PI.old(h:PI nx n order seen part (k+1)){r:Int}(i:order[k]?=some r)(j:z7 seen r=true):PI nx n order seen part k:=by
 refine⟨h.slen,h.plen,λb=>?_,h.part⟩;rw[h.mark,bZ9 i];constructor
 .rintro⟨c,a,e⟩;exact⟨c,ep3 _ a,e⟩
 .rintro⟨c,a,e⟩;rcases ek9.1 a with rfl|a
  .obtain⟨d,g,f⟩:=(h.mark c).1 j;exact⟨d,g,f.trans e⟩
  .exact⟨c,a,e⟩
def PI.walk(h:PI nx n order seen part (k+1))(u:bf4 nx n order)(O:G2 n nx)(hb:∀a b,b∈E3 nx a↔a∈E3 pv b){r:Int}(P:order[k]?=some r)(Q:z7 seen r=false)(b:Int):
  Via pv (seen.set r.toNat true) [r] b↔aw8 nx r b:=by
 have G:r∈order:=el0 P;have F:=(u.mem r).1 G;have v:I9 seen.length r=true:=by rw[h.slen];exact F
 have i:∀c,z7 (seen.set r.toNat true) c=if c=r then true else z7 seen c:=λc=>M9 v;have d:order=order.take k++r::order.drop (k+1):=by rw[<-bZ9 P,en4]
 have E:r∉order.take k:=by
  have:=u.nod;rw[d,eo0]at this;exact λS=>this.2.2 r S r dP rfl
 constructor
 .intro T
  induction T with
  | base N=>simp at N;subst N;exact .refl _
  | @step a b _ z g L=>
   have l:a∈E3 nx b:=(hb b a).2 z;have I:W1 nx b r:=(W1.one l).trans L.2;have t:b≠r:=by
    rintro rfl;rw[i,if_pos rfl]at g;cases g
   rw[i,if_neg t]at g;have o:I9 n b=true:=by
    cases hq:I9 n b with
    | true=>rfl
    | false=>
     rw[bk6 (by rw[O.len];exact hq)]at l;cases l
   have j:∀c∈order.drop (k+1),¬aw8 nx c b:=λc q f=>by
    rw[(h.mark b).2 ⟨c,q,f⟩]at g;cases g
   have p:=(u.mem b).2 o;rw[d]at p;have A:b∈order.take k:=by
    rcases ej9.1 p with e|e
    .exact e
    .rcases ek9.1 e with e|e
     .exact absurd e t
     .exact absurd (aw8.refl b) (j b e)
   obtain⟨c,q,f⟩:=u.cut k b A r E I;have C:I9 n c=true:=cF3 O f.2 o;have s:=(u.mem c).2 C;rw[d]at s;rcases ej9.1 s with e|e
   .exact absurd e q
   .rcases ek9.1 e with e|e
    .subst e;exact f
    .exact absurd f (j c e)
 .rintro⟨e,R⟩;have M:∀x y,bN0 nx x y->y=r->W1 nx r x->Via pv (seen.set r.toNat true) [r] x:=by
   intro x y J
   induction J with
   | refl=>rintro rfl _;exact .base dP
   | @head x b y m B L=>
    rintro rfl w;by_cases hxr:x=y
    .subst hxr;exact .base dP
    .refine .step (L rfl (w.trans (W1.one m))) ((hb x b).1 m) ?_;rw[i,if_neg hxr];rw[et8];intro H;obtain⟨c,q,D⟩:=(h.mark x).1 H;have K:aw8 nx x y:=⟨(W1.one m).trans B.way,w⟩;rw[(h.mark y).2 ⟨c,q,D.trans K⟩]at Q;cases Q
  exact M b r R.toL rfl e
def PI.new(h:PI nx n order seen part (k+1)){r:Int}(q:order[k]?=some r){a:List Bool}{d:List Int}{m:Int}(o:a.length=n)(j:d.length=n)
  (hm:∀b,z7 a b=true↔z7 seen b=true\/aw8 nx r b) (e:aR2 nx r m) (p:∀b,z7 a b=true->ai d b=if z7 seen b=true then ai part b else m):PI nx n order a d k:=by
 refine⟨o,j,λb=>?_,λb f=>?_⟩
 .rw[hm,h.mark,bZ9 q];constructor
  .rintro(⟨c,g,f⟩|f)
   .exact⟨c,ep3 _ g,f⟩
   .exact⟨r,dP,f⟩
  .rintro⟨c,g,f⟩;rcases ek9.1 g with rfl|g
   .exact .inr f
   .exact .inl ⟨c,g,f⟩
 .rw[p b f];split
  .rename_i l;exact h.part b l
  .rename_i l;rcases(hm b).1 f with i|i
   .exact absurd i l
   .exact⟨i.symm.trans e.1,λc g=>e.2 c (i.trans g)⟩
def PI.fin(h:PI nx n order seen part 0)(c:bf4 nx n order):part.length=n/\∀b,I9 n b=true->aR2 nx b (ai part b):=
 ⟨h.plen,λb a=>h.part b ((h.mark b).2 ⟨b,by rw[es1];exact(c.mem b).2 a,.refl b⟩)⟩
def cS1(l:List Int):∀x:Int,l.foldl min x<=x/\(∀y∈l,l.foldl min x<=y)/\(l.foldl min x=x\/l.foldl min x∈l):=by
 induction l with
 | nil=>intro x;exact⟨Int.le_refl _,λy b=>absurd b en5,.inl rfl⟩
 | cons z l d=>
  intro x;obtain⟨e,c,a⟩:=d (min x z);rw[List.foldl_cons];refine⟨om,λy b=>?_,?_⟩
  .rcases ek9.1 b with rfl|b
   .omega
   .exact c y b
  .rcases a with a|a
   .rw[a];rcases Int.le_total x z with h|h
    .exact .inl (Int.min_eq_left h)
    .exact .inr (by rw[Int.min_eq_right h];simp)
   .exact .inr (ep3 _ a)
end
def cO1(pg:Value)(nx pv:List (List Int))(w:World)(aQ:GR (i5 w) pg nx pv)(au:aQ9 nx.length (nx,pv))(bI:nx.length<=5000):
  y5 prog 316 #[pg] w λu H=>((∃p,B0 (i5 w) H 3 u p/\p.length=nx.length/\∀b,I9 nx.length b=true->aR2 nx b (ai p b))/\o6 w H):=by
 have aR:=aQ;have hg:G2 nx.length nx:=au.nx;have av:G2 nx.length pv:=au.pv;have aP:G2 pv.length pv:=by rw[av.len];exact av
 have az:pv.length=nx.length:=av.len;obtain⟨gb,vn,vp,rfl,h1,h2,h3,h4⟩:=aQ;refine z6 [.pointer (some ⟨gb,0,none⟩)] func316 rfl ?_;have bF:=J7 (P:=prog) (t:=261) h1 (n7 _) ab6;have bv:=h3.isS;have bJ:=h3.vlen;obtain⟨u0,w0,bH,ay,aC,ci,_⟩:=mk (P:=prog) (w:=w) (h:=i5 w) W3 aG4 (α:=Int) (y:=0) rfl (n:=nx.length) om om (n7 _);have aX:=J7 (P:=prog) (t:=261) h1 (b7 aC) ab6;obtain⟨u1,w1,aZ,a2,aD,bA,_⟩:=mk (P:=prog) (w:=w0) (h:=i5 w) bl6 V4 (α:=Bool) (y:=false) rfl (n:=nx.length) om om (b7 aC);have R:=aC.trans aD;have I:Dj u0 u1:=Dj.fresh ay bA;simp only[O7,W0,D1,ab0,simprocAttr,bF,bv,bJ,bH,aX,aZ];refine y4 (cR3 _ nx pv w1 (aR.mono (b7 R)) hg bI) ?_;rintro u2 w2 ⟨⟨d,i,q⟩,aE⟩;have bd:=R.trans aE;have a3:=i.back R;have bt:=i.isS;have aW:=i.vlen;have bK:=q.len;rw[bK]at aW;have a1:∀b,A5 u2 b->w1.heap.size<=b:=λb g=>by
  have:=i.free g;simpa[i5]using this
 have aM:Dj u0 u2:=Dj.fresh (ay.ext aD) a1;have X:Dj u1 u2:=Dj.fresh a2 a1;have bN:IntKind.i64.wrap ((nx.length:Int)-1)=(nx.length:Int)-1:=M7 _ om;simp only[O7,W0,D1,I1,ab0,simprocAttr,bt,aW,bN];refine E8 [0,3,4,5] (σ:=List Bool×List Int×Nat) (λs f H=>f 6 = .int .i64 ((s.2.2:Int)-1)/\s.2.2<=nx.length/\B0 (i5 w) H 4 u1 s.1/\B0 (i5 w) H 3 u0 s.2.1/\B0 (i5 w) H 3 u2 d/\o6 w H/\PI nx nx.length d s.1 s.2.1 s.2.2)
  (λs=>s.2.2) (List.replicate nx.length false,List.replicate nx.length 0,nx.length) ?_ ?_
 .simp only[B8,simprocAttr];exact⟨tt,ek6 _,a2.ext aE,(ay.ext aD).ext aE,a3,bd,PI.start q⟩
 .rintro⟨V,pt,k⟩ f w3 hk ⟨h6,bE,v,T,i,hx,F⟩;simp only at h6 bE v T F;simp only[em0,B8,simprocAttr]at hk;obtain⟨e0,e3,e4,e5,_⟩:=hk;simp only[O7,D1,I1,simprocAttr,h6];refine A8 (λhc=>?_) (λhc=>?_)
  .obtain⟨k,rfl⟩:∃j,k=j+1:=⟨k-1,by simp at hc;omega⟩;have bD:((k+1:Nat):Int)-1=(k:Int):=om
   rw[bD]at h6;have K:k<d.length:=om
   have J:=i.inS K;have L:=E1 (P:=prog) (t:=3) i (ej0 K) K1;have z:d[k]?=some d[k]:=ej0 K;generalize d[k]=r at L z;have aA:I9 nx.length r=true:=(q.mem r).1 (el0 z);have ah:I9 V.length r=true:=by rw[F.slen];exact aA
   obtain⟨O,bM⟩:=N1 ah;have dr:decide (0<=r)=true:=by simpa using(B5.1 aA).1
   have Y:=v.inS O;have aa:=E1 (P:=prog) (t:=4) v (k:=r.toNat) (x:=z7 V r) (by rw[bM];simp[List.getD,O]) ai9;have ch:=v.isS;have cf:=i.isS;have bc:IntKind.i64.wrap ((k:Int)-1)=(k:Int)-1:=M7 _ om;rcases ej1 (z7 V r)with hbs|hbs
   .simp only[O7,W0,D1,I1,A0,O8.val,simprocAttr,h6,e4,e5,J,L,Y,dr,aa,hbs,bc];exact V1 (V,pt,k) ⟨v,T,i,hx,F.old z hbs⟩
   .obtain⟨S,s1,s2,s3,s4⟩:=F9 (P:=prog) (t:=4) v rfl (k:=r.toNat) O (x:=.bool true) (y:=true) rfl rfl (A4 V4).choose_spec.1 (by rw[<-F0 (A4 V4).choose_spec.1];exact aE0);have ad:=T.apart s3 I;have B:=i.apart s3 X.symm;have bG:=E1 (P:=prog) (t:=3) B z K1;simp only[O7,W0,A0,O8.val,simprocAttr,h6,e4,e5,J,L,Y,dr,aa,hbs,s1];refine C0 (λw2=>o6 S.drew w2) 10 (A7 [0,1,2,3,4,5,6,7,8,9]) ?_;have U:=(v.ext2 hx s3).trans (o6.drew S);simp only[D7,A7,O7,W0,simprocAttr,e0];refine⟨vp,λw2 e=>J7 h2 (b7 (U.trans e)) ab6,?_⟩;simp only[D7,O7,W0,A0,simprocAttr,e4,e5,h6,J];refine⟨.int .i64 r,λw2 e=>E1 ((B.ext (o6.drew S)).ext e) z K1,?_⟩;obtain⟨vt,w5,aY,a7,G,aq⟩:=lit (P:=prog) (w:=S.drew) (h:=i5 w) (α:=Int) (xs:=[.int .i64 r]) (ys:=[r]) (parts:=#[(0,.int .i64 r)]) (n:=1) W3 rfl (G9.2 rfl) (by simp[Value.cells]) rfl rfl dP dP (b7 U);have af:=s2.ext ((o6.drew S).trans G);have aO:Dj u1 vt:=Dj.fresh (s2.ext (o6.drew S)) aq;have Q:∀c,z7 (V.set r.toNat true) c=if c=r then true else z7 V c:=λc=>M9 ah;simp only[D7,O7,simprocAttr,aY,G0];refine⟨G,?_⟩;refine y4 (ct9 (i5 w) vp u1 vt pv (V.set r.toNat true) [r] w5 (b7 (U.trans G)) h4 aP af a7 aO (by simp[F.slen,az]) (λa ha=>by simp at ha;subst ha;rw[Q,if_pos rfl]) om dP) ?_;rintro u3 w6 ⟨td,aF,C,a6,bY,ax,a0,M⟩;have bb:∀b,A5 vt b->w.heap.size<=b:=λb g=>by
     have:=a7.free g;exact ew6 λaw=>by simp[i5,aw]at this
    have be:o6 w w6:=p6.ext_of (U.trans G) ax λb g=>by
     rcases g with g|g
     .have:=af.free g;exact ew6 λaw=>by simp[i5,aw]at this
     .exact bb b g
    have ae:=ad.ext ((o6.drew S).trans G);have W:Dj u0 vt:=Dj.fresh (ad.ext (o6.drew S)) aq;have aN:Dj u2 vt:=Dj.fresh (B.ext (o6.drew S)) aq;have a5:=ae.mod ax λb g am=>am.elim (I b g) (W b g);have a4:=(B.ext ((o6.drew S).trans G)).mod ax λb g am=>am.elim (λh=>X b h g) (aN b g);have ap:Dj u0 u3:=W.move ae a0;have aB:=F.walk q hg au.both z hbs;have A:∀b,b∈td↔aw8 nx r b:=λb=>by rw[M.via,aB]
    have a8:r∈td:=(A r).2 (.refl r);have ba:=M.size;simp only[em3,eq3]at ba;have cj:=F.slen;obtain⟨x,l,rfl⟩:∃x l,td=x::l:=by
     cases td with
     | nil=>cases a8
     | cons x l=>exact⟨x,l,rfl⟩
    simp only[em1]at ba;simp only[O7,simprocAttr];refine y4 (dy0 u3 x l w6 (C.rw_ (b7 be)) om) ?_;rintro u4 w7 ⟨rfl,rfl⟩;obtain⟨bg,bh,bi⟩:=cS1 l x;generalize l.foldl min x=m at bg bh bi;have bu:=C.isS;simp only[O7,W0,ab0,simprocAttr,bu,C.vlen];refine E8 [0,3,4,5,6,8,60,61] (σ:=List Int×Nat) (λs f H=>f 62 = .int .i64 s.2/\s.2<=(x::l).length/\B0 (i5 w) H 3 u0 s.1/\B0 (i5 w) H 4 u1 aF/\B0 (i5 w) H 3 u2 d/\B0 (i5 w) H 3 u3 (x::l)/\o6 w H/\s.1.length=nx.length /\
      ∀b,I9 nx.length b=true->ai s.1 b=if b∈(x::l).take s.2 then m else ai pt b)
     (λs=>(x::l).length-s.2) (pt,0) ?_ ?_
    .simp only[B8,simprocAttr];exact⟨tt,ek1 _,a5,a6,a4,C,be,F.plen,λb _=>dP⟩
    .rintro⟨bj,j⟩ f2 w8 aV ⟨al,bC,o,ag,ac,N,bf,D,E⟩;simp only at al bC o D E;simp only[em0,B8,↓reduceIte,Nat.reduceEqDiff]at aV;obtain⟨g0,g3,g4,g5,g6,g8,br,bs,_⟩:=aV;rw[e0]at g0;rw[e3]at g3;rw[e4]at g4;rw[e5]at g5;rw[h6]at g6;simp only[O7,D1,I1,simprocAttr,al,bs];refine A8 (λao=>?_) (λao=>?_)
     .have hj:j<(x::l).length:=by simp only[em7]at ao;omega
      have aS:=N.inS hj;have Z:=E1 (P:=prog) (t:=3) N (ej0 hj) K1;have a9:=ej8 hj;have aL:(x::l)[j]∈(x::l):=ek0 hj;generalize(x::l)[j]=a at Z a9 aL;have aJ:I9 nx.length a=true:=cF3 hg ((A a).1 aL).1 aA;have aK:=B5.1 aJ;have da:decide (0<=a)=true:=by simpa using aK.1
      have cg:=o.isS;have aT:=o.inS (k:=a.toNat) om;obtain⟨w9,t1,t2,t3,t4⟩:=F9 (P:=prog) (t:=3) o rfl (k:=a.toNat) om (x:=.int .i64 m) (y:=m) rfl rfl (A4 aG4).choose_spec.1 (by rw[<-F0 (A4 aG4).choose_spec.1];exact bm5);simp only[O7,W0,D1,I1,A0,O8.val,simprocAttr,al,br,g3,g8,aS,Z,aT,da,t1];refine⟨(bj.set a.toNat m,j+1),om,by rw[J2 j (by simp at hj;omega)],om,t2,ag.apart t3 I.symm,ac.apart t3 aM.symm,N.apart t3 ap.symm,o.ext2 bf t3,by simp[D],λb g=>?_⟩;simp only[];rw[bo3 D aJ g,a9];by_cases hba:b=a
      .subst hba;simp
      .rw[if_neg hba,E b g];simp[hba]
     .have ar:j=(x::l).length:=by
       simp only[ew5]at ao;omega
      subst ar;rw[ek4]at E;simp only[O7,D1,I1,simprocAttr,g6,bc];have ab:∀b,z7 aF b=true↔z7 V b=true\/aw8 nx r b:=λb=>by
       rw[M.mark,Q,A];by_cases hbr:b=r
       .subst hbr;simp[aw8.refl]
       .simp[hbr]
      refine V1 (aF,bj,k) ⟨ag,o,ac,bf,F.new z (by rw[M.len];simp[F.slen]) D ab (m:=m) ⟨(A m).1 ?_,λc hc=>?_⟩ λb g=>?_⟩
      .rcases bi with h|h
       .rw[h];simp
       .exact ep3 _ h
      .rcases ek9.1 ((A c).2 hc)with h|h
       .rw[h];exact bg
       .exact bh c h
      .have bw:I9 nx.length b=true:=by
        have:=X5 g;rw[M.len]at this;simpa[F.slen]using this
       rw[E b bw];by_cases hsb:z7 V b=true
       .rw[if_pos hsb,if_neg];intro bx;have bL:=(A b).1 bx;obtain⟨c,hc,bz⟩:=(F.mark b).1 hsb;rw[(F.mark r).2 ⟨c,hc,bz.trans bL.symm⟩]at hbs;cases hbs
       .rw[if_neg hsb,if_pos];rcases(ab b).1 g with h|h
        .exact absurd h hsb
        .exact(A b).2 h
  .have ar:k=0:=by simp at hc;omega
   subst ar;simp only[O7,W0,simprocAttr];refine o8 results316 ?_;simp only[B8,simprocAttr];obtain⟨q1,q2⟩:=F.fin q;rw[e3];exact⟨⟨pt,T,q1,q2⟩,hx⟩
def bN1(n:Int)(e:Int×Int):Bool:=decide (e.1<0)||decide (e.1≥n)||decide (e.2<0)||decide (e.2≥n)
def cw1{n:Nat}{e:Int×Int}:bN1 n e=false↔bu1 n e:=by
 simp[bN1,bu1];omega
def br6{P:Program}{t:TypeId}(a:J4 P t=false)(b:(P.underlying t).isSome=true){cs:Array Value}{i:Nat}{v:Value}(h:cs[i]?=some v)(w:World):(part t cs i).run P w = .ok v w:=by
 unfold part;simp only[el7,ag7 t b,ek8,a,ep8,er8,h,en1]
def R.pre{α:Type}[A6 α]{h:Hp}{v:Value}{xs:List α}(q:R h v xs){k:Nat}(y:k<=xs.length):R h (reS v 0 k (A6.sz α)) (xs.take k):=by
 obtain⟨a,n,c,e,w,x,u,b,p⟩:=q;simp at e;subst e;have r:xs=xs.take k++xs.drop k:=(en4 k xs).symm;rw[r]at b;obtain⟨g,s,i,l,t⟩:=aa6 _ _ b;refine⟨if c=0 then a else a.map (·.add (0*A6.sz α)),k-0,c-0,rfl,by rw[ek3];omega,om,g,l,λj v d=>?_⟩;obtain⟨f,m,o⟩:=p j v (by rw[i,eo2 (ej5.1 d).1];exact d);refine⟨f,?_,o⟩;subst m;split<;>simp[M8]
def cP2(m x y:Int):(decide (x<0)=true/\bN1 m (x,y)=true)\/(decide (x<0)=false/\decide (x≥m)=true/\bN1 m (x,y)=true) \/
  (decide (x<0)=false/\decide (x≥m)=false/\decide (y<0)=true/\bN1 m (x,y)=true)\/(decide (x<0)=false/\decide (x≥m)=false/\decide (y<0)=false/\decide (y≥m)=true/\bN1 m (x,y)=true) \/
  (decide (x<0)=false/\decide (x≥m)=false/\decide (y<0)=false/\decide (y≥m)=false/\bN1 m (x,y)=false):=by
 unfold bN1;cases decide (x<0)<;>cases decide (x≥m)<;>cases decide (y<0)<;>cases decide (y≥m)<;>simp
def aE3(d:Nat)(xs ys:Array Value):List (Bool×TypeId×Nat)->Sem Bool
 | []=>pure true
 | (b,t,o)::l=>if b=true then do
   let x <-part t xs o
   let y <-part t ys o
   let r <-Op.equalIn d t x y
   if(!r)=true then pure false else aE3 d xs ys l
  else aE3 d xs ys l
def as8(d:Nat)(xs ys:Array Value):∀fs:List Field,Op.eqFields d xs ys fs=aE3 d xs ys (fs.map λf=>(decide (f.name ≠ "_"),f.type,f.offset))
 | []=>rfl
 | f::fs=>by
  rw[Op.eqFields,en8,aE3,as8 d xs ys fs];by_cases h:f.name = "_" <;> simp[h]
def R0{P:Program}{d:Nat}{xs ys:Array Value}{t o:Nat}{l:List (Bool×TypeId×Nat)}{a b:Value}{r c:Bool}(w:World)(g:(part t xs o).run P w = .ok a w)(h:(part t ys o).run P w = .ok b w)(f:(Op.equalIn d t a b).run P w = .ok r w)(e:(aE3 d xs ys l).run P w = .ok c w):
  (aE3 d xs ys ((true,t,o)::l)).run P w = .ok (r&&c) w:=by
 rw[aE3,if_pos rfl];simp only[el7,g,h,f,ek8];cases r
 .simp
 .simpa using e
theorem aE4{P:Program}{d:Nat}{xs ys:Array Value}(w:World):(aE3 d xs ys []).run P w = .ok true w:=rfl
def bE9(w:World)(d:Nat)(a b:B3):(Op.equalIn (d+1) 9 (t8 a) (t8 b)).run prog w = .ok (decide (a=b)) w:=by
 have:=run_equalIn_string (P:=prog) w d 9 ⟨a.b.toArray⟩ ⟨b.b.toArray⟩ Tryz.underlying9;rw[az1,az1,bB6]at this;exact this
def aA7(w:World)(d:Nat)(a b:Int):(Op.equalIn (d+1) 3 (.int .i64 a) (.int .i64 b)).run prog w = .ok (decide (a=b)) w:=by
 have:=run_equalIn_int (P:=prog) w d 3 .i64 .i64 a b Tryz.underlying3;rw[this];congr 1
def cR4(w:World)(d:Nat)(a b:Bool):(Op.equalIn (d+1) 4 (.bool a) (.bool b)).run prog w = .ok (decide (a=b)) w:=by
 have:=run_equalIn_bool' (P:=prog) w d 4 a b Tryz.underlying4;rw[this];cases a<;>cases b<;>rfl
def at9(cs:Array Value)(i:Nat)(v:Value)(h:cs[i]?=some v)(w:World):(part 9 cs i).run prog w = .ok v w:=br6 (P:=prog) (t:=9) ao5 kr h w
def T7(cs:Array Value)(i:Nat)(v:Value)(h:cs[i]?=some v)(w:World):(part 3 cs i).run prog w = .ok v w:=br6 (P:=prog) (t:=3) K1 kr h w
def bV0(cs:Array Value)(i:Nat)(v:Value)(h:cs[i]?=some v)(w:World):(part 4 cs i).run prog w = .ok v w:=br6 (P:=prog) (t:=4) ai9 kr h w
def dw6(w:World)(d:Nat)(p q:Pa):(Op.equalIn (d+2) 72 (.agg p.cells.toArray) (.agg q.cells.toArray)).run prog w = .ok (decide (p=q)) w:=by
 rw[run_equalIn_struct (P:=prog) w (d+1) 72 _ _ kr kr,as8];have hf:(prog.fieldsOf 72).toList.map (λf=>(decide (f.name ≠ "_"),f.type,f.offset))=[(true,9,0),(true,4,1)]:=kr
 rw[hf,R0 w (at9 _ _ _ rfl w) (at9 _ _ _ rfl w) (bE9 w d _ _) (R0 w (bV0 _ _ _ rfl w) (bV0 _ _ _ rfl w) (cR4 w d _ _) (aE4 w))]
 congr 1
 cases p;cases q;simp[Pa.mk.injEq,Bool.decide_and]
def bg8(w:World)(d:Nat)(p q:Vx):(Op.equalIn (d+2) 27 (.agg p.cells.toArray) (.agg q.cells.toArray)).run prog w = .ok (decide (p=q)) w:=by
 rw[run_equalIn_struct (P:=prog) w (d+1) 27 _ _ kr kr,as8];have hf:(prog.fieldsOf 27).toList.map (λf=>(decide (f.name ≠ "_"),f.type,f.offset))=[(true,9,0),(true,3,1),(true,3,2),(true,9,3)]:=kr
 rw[hf,R0 w (at9 _ _ _ rfl w) (at9 _ _ _ rfl w) (bE9 w d _ _) (R0 w (T7 _ _ _ rfl w) (T7 _ _ _ rfl w) (aA7 w d _ _) (R0 w (T7 _ _ _ rfl w) (T7 _ _ _ rfl w) (aA7 w d _ _) (R0 w (at9 _ _ _ rfl w) (at9 _ _ _ rfl w) (bE9 w d _ _) (aE4 w))))]
 congr 1
 cases p;cases q;simp[Vx.mk.injEq,Bool.decide_and]
def bB3(cs:Array Value)(i:Nat)(v:Vx)(h:(cs.extract i (i+4))=v.cells.toArray)(w:World):(part 27 cs i).run prog w = .ok (.agg v.cells.toArray) w:=by
 refine bJ2 (P:=prog) ?_ w;unfold cp8;rw[if_pos aw3,ap5,aw6,P5,h];rfl
def cI6(w:World)(d:Nat)(p q:Eg):(Op.equalIn (d+3) 54 (.agg p.cells.toArray) (.agg q.cells.toArray)).run prog w = .ok (decide (p=q)) w:=by
 rw[run_equalIn_struct (P:=prog) w (d+2) 54 _ _ kr kr,as8];have hf:(prog.fieldsOf 54).toList.map (λf=>(decide (f.name ≠ "_"),f.type,f.offset))=[(true,27,0),(true,27,4),(true,3,8)]:=kr
 have e0:∀p:Eg,p.cells.toArray.extract 0 (0+4)=p.src.cells.toArray:=λp=>rfl;have e4:∀p:Eg,p.cells.toArray.extract 4 (4+4)=p.dst.cells.toArray:=λp=>rfl;rw[hf,R0 w (bB3 _ _ _ (e0 p) w) (bB3 _ _ _ (e0 q) w) (bg8 w d _ _) (R0 w (bB3 _ _ _ (e4 p) w) (bB3 _ _ _ (e4 q) w) (bg8 w d _ _) (R0 w (T7 _ _ _ rfl w) (T7 _ _ _ rfl w) (aA7 w (d+1) _ _) (aE4 w)))]
 congr 1
 cases p;cases q;simp[Eg.mk.injEq,Bool.decide_and]
def dH9(w:World)(x y:Operand)(p q:Pa):(do eqGuard .eql 72 x y (.agg p.cells.toArray) (.agg q.cells.toArray);binOp .eql 72 (.agg p.cells.toArray) (.agg q.cells.toArray):Sem Value).run prog w = .ok (.bool (decide (p=q))) w:=by
 have b:=run_eqGuard_agg (P:=prog) w .eql 72 x y p.cells.toArray q.cells.toArray kr;have a:=run_eql_struct (P:=prog) w 72 p.cells.toArray q.cells.toArray;simp only[el7,b,ek8,a,dw6 w 9998 p q]
def bF0(w:World)(x y:Operand)(p q:Vx):(do eqGuard .eql 27 x y (.agg p.cells.toArray) (.agg q.cells.toArray);binOp .eql 27 (.agg p.cells.toArray) (.agg q.cells.toArray):Sem Value).run prog w = .ok (.bool (decide (p=q))) w:=by
 have b:=run_eqGuard_agg (P:=prog) w .eql 27 x y p.cells.toArray q.cells.toArray kr;have a:=run_eql_struct (P:=prog) w 27 p.cells.toArray q.cells.toArray;simp only[el7,b,ek8,a,bg8 w 9998 p q]
def dH8(w:World)(x y:Operand)(p q:Eg):(do eqGuard .eql 54 x y (.agg p.cells.toArray) (.agg q.cells.toArray);binOp .eql 54 (.agg p.cells.toArray) (.agg q.cells.toArray):Sem Value).run prog w = .ok (.bool (decide (p=q))) w:=by
 have b:=run_eqGuard_agg (P:=prog) w .eql 54 x y p.cells.toArray q.cells.toArray kr;have a:=run_eql_struct (P:=prog) w 54 p.cells.toArray q.cells.toArray;simp only[el7,b,ek8,a,cI6 w 9997 p q]
def dJ7(w:World)(x y:Operand)(p q:Eg):(do eqGuard .neq 54 x y (.agg p.cells.toArray) (.agg q.cells.toArray);binOp .neq 54 (.agg p.cells.toArray) (.agg q.cells.toArray):Sem Value).run prog w = .ok (.bool (!decide (p=q))) w:=by
 have b:=run_eqGuard_agg (P:=prog) w .neq 54 x y p.cells.toArray q.cells.toArray kr;have a:=run_neq_struct (P:=prog) w 54 p.cells.toArray q.cells.toArray;simp only[el7,b,ek8,a,cI6 w 9997 p q]
structure ch0 (P:Program) (k:TypeId) {α:Type} [DecidableEq α] (enc:α->Value):Prop where
 chk:∀(em:Bool) (a:α) (w:World),(Instr.checkKey em 10000 k (enc a)).run P w = .ok () w
 find:∀(a:α) (l:List MapEntry) (w:World),(Instr.findKey k (enc a) l).run P w=(Instr.findAsking k (enc a) l).run P w
 eq:∀(a b:α) (w:World),(Op.equal k (enc a) (enc b)).run P w = .ok (decide (a=b)) w
def ag1{α:Type}[DecidableEq α](kv:List (α×Value))(k:α):Option Value:=(kv.find? λp=>decide (k=p.1)).map (·.2)
def au6{α:Type}(enc:α->Value)(w:World)(r:Nat)(kv:List (α×Value)):Prop:=∃b a,w.heap[r]?=some (.map b a)/\b.toList.map (λe=>(e.key,e.val))=kv.map (λp=>(enc p.1,p.2))
section
variable {P:Program} {w:World} {t k e:TypeId} {r:Nat} {α:Type} [DecidableEq α] {enc:α->Value} {kv:List (α×Value)}
def au6.lt(hm:au6 enc w r kv):r<w.heap.size:=by
 obtain⟨a,c,h,_⟩:=hm;exact(ej4.1 h).1
def au6.mod{M:Nat->Prop}{b:World}(hm:au6 enc w r kv)(h:p6 M w b)(g:¬M r):au6 enc b r kv:=by
 have a:=hm.lt;obtain⟨d,c,e,f⟩:=hm;exact⟨d,c,(h.block r a g).trans e,f⟩
def au6.new(w:World)(t:TypeId):(Instr.makeMap t none).run P w = .ok (.map (some w.heap.size)) (w.alloc (.map #[] 0))/\au6 enc (w.alloc (.map #[] 0)) w.heap.size ([]:List (α×Value))/\o6 w (w.alloc (.map #[] 0)):=by
 refine⟨?_,⟨#[],0,em9 w _,rfl⟩,o6.alloc _ _⟩;unfold Instr.makeMap;rfl
def dC2(K:ch0 P k enc)(a:α):∀(l:List MapEntry) (kv:List (α×Value)) (i:Nat),l.map (λe=>(e.key,e.val))=kv.map (λp=>(enc p.1,p.2)) ->
  ∃o:Option (Nat×Value),(Instr.findAsking k (enc a) l i).run P w = .ok o w/\o.map (·.2)=ag1 kv a
 | [],kv,i,h=>by
  have:kv=[]:=by simpa using h.symm
  subst this;exact⟨none,rfl,rfl⟩
 | e::l,[],i,h=>by simp at h
 | e::l,p::kv,i,h=>by
  obtain⟨f,m⟩:=p;obtain⟨j,ev,g⟩:=e;simp only[en8,eu7,Prod.mk.injEq]at h;obtain⟨⟨rfl,rfl⟩,b⟩:=h;unfold Instr.findAsking ag1;simp only[el7,K.eq,ek8,List.find?_cons];by_cases hp:a=f
  .subst hp;exact⟨some (i,ev),dP,dP⟩
  .obtain⟨o,c,d⟩:=dC2 K a l kv (i+1) b;exact⟨o,by simp[hp,c],by simp only[hp,decide_false];exact d⟩
def au6.found(K:ch0 P k enc)(a:α){b:List MapEntry}(h:b.map (λe=>(e.key,e.val))=kv.map (λp=>(enc p.1,p.2))):
  ∃o:Option (Nat×Value),(Instr.findKey k (enc a) b).run P w = .ok o w/\o.map (·.2)=ag1 kv a:=by
 rw[K.find];exact dC2 K a b kv 0 h
def au6.lookup(hm:au6 enc w r kv)(K:ch0 P k enc)(m:P.underlying t=some (.map k e)){z:Value}(n:I4 P e=some z)(a:α):
  (Instr.lookup t (.map (some r)) (enc a) false).run P w = .ok ((ag1 kv a).getD z) w:=by
 obtain⟨p,c,f,g⟩:=hm;obtain⟨i,j,b⟩:=A4 n;have d:(zeroValue e).run P w = .ok z w:=by
  unfold zeroValue;simp[O0,j,b]
 obtain⟨o,h,l⟩:=au6.found (w:=w) K a g;unfold Instr.lookup;simp only[el7,run_underlying m,ek8,MapKept.run_getObj_map f,en1,K.chk,h];rw[<-l];cases o with
 | none=>simp only[el7,d,ek8,en1];rfl
 | some x=>rfl
def au6.lookupOk(hm:au6 enc w r kv)(K:ch0 P k enc)(m:P.underlying t=some (.map k e)){z:Value}(n:I4 P e=some z)(a:α):
  (Instr.lookup t (.map (some r)) (enc a) true).run P w = .ok (.tuple #[(ag1 kv a).getD z,.bool (ag1 kv a).isSome]) w:=by
 obtain⟨p,c,f,g⟩:=hm;obtain⟨i,j,b⟩:=A4 n;have d:(zeroValue e).run P w = .ok z w:=by
  unfold zeroValue;simp[O0,j,b]
 obtain⟨o,h,l⟩:=au6.found (w:=w) K a g;unfold Instr.lookup;simp only[el7,run_underlying m,ek8,MapKept.run_getObj_map f,en1,K.chk,h];rw[<-l];cases o with
 | none=>simp only[el7,d,ek8,en1];rfl
 | some x=>rfl
def au6.push(hm:au6 enc w r kv)(K:ch0 P k enc)(n:P.underlying t=some (.map k e)){a:α}(l:ag1 kv a=none)(v:Value):
  ∃g,(Instr.mapUpdate t (.map (some r)) (enc a) v).run P w = .ok () g/\au6 enc g r (kv++[(a,v)])/\p6 (λb=>b=r) w g:=by
 obtain⟨h,c,d,i⟩:=hm;have f:=(ej4.1 d).1;obtain⟨o,m,j⟩:=au6.found (w:=w) K a i;rw[l]at j;cases o with
 | some x=>cases j
 | none=>
  refine⟨{w with heap:=w.heap.setIfInBounds r (.map (h.push ⟨enc a,v,c⟩) (c+1))},?_,⟨h.push ⟨enc a,v,c⟩,c+1,by simp[f],?_⟩,bB5 w r _⟩
  .unfold Instr.mapUpdate;simp only[el7,run_underlying n,ek8,MapKept.run_getObj_map d,K.chk,m];exact MapKept.run_setObj_map _ d
  .rw[Array.toList_push,em6,em6,i];rfl
end
def cS4{α:Type}[DecidableEq α]{kv:List (α×Value)}{a:α}:ag1 kv a=none↔a∉kv.map (·.1):=by
 unfold ag1;simp only[Option.map_eq_none_iff,es7,em7,el2,not_exists,not_and];exact⟨λh x b e=>h x b e.symm,λh x b e=>h x b e.symm⟩
def bD4{P:Program}{t:TypeId}{fs:Array Field}(hu:P.underlying t=some (.struct fs))(em:Bool)(n:Nat)(cs:Array Value)(w:World)
  (h:∀x∈fs.toList.map λf=>(f.type,f.offset),∃v,(part x.1 cs x.2).run P w = .ok v w/\(Instr.checkKey em n x.1 v).run P w = .ok () w) :
  (Instr.checkKey em (n+1) t (.agg cs)).run P w = .ok () w:=by
 rw[Instr.checkKey];simp only[el7,run_underlying hu,ek8];rw[<-Array.forIn_toList];generalize fs.toList=L at h
 induction L with
 | nil=>simp
 | cons f L ih=>
  obtain⟨v,p1,p2⟩:=h (f.type,f.offset) dP;have ih':=ih λx hx=>h x (by rw[en8];exact ep3 _ hx);rw[List.forIn_cons];by_cases hn:f.name = "_"
  .simp only[hn,ne_eq,not_true_eq_false,er8,el7,en1,ek8];exact ih'
  .simp only[hn,ne_eq,not_false_eq_true,ep4,el7,p1,p2,en1,ek8];exact ih'
def al3{t:TypeId}{v:Value}{d:TypeDesc}(b:prog.underlying t=some d)(c:MapKept.IsKey d v)(a:Bool)(n:Nat)(w:World):(Instr.checkKey a (n+1) t v).run prog w = .ok () w:=MapKept.run_checkKey b c a n
def Vx.enc(v:Vx):Value:=.agg v.cells.toArray
def dI7:ch0 prog 27 Vx.enc where
 chk em a w:=by
  refine bD4 (P:=prog) (fs:=prog.fieldsOf 27) kr em 9999 _ w ?_;have d:(prog.fieldsOf 27).toList.map (λf=>(f.type,f.offset))=[(9,0),(3,1),(3,2),(9,3)]:=kr
  rw[d];intro x c;simp only[ek9,en5,es4]at c;rcases c with rfl|rfl|rfl|rfl
  .exact⟨t8 a.proc,at9 _ _ _ rfl w,al3 Tryz.underlying9 (show MapKept.IsKey .string (t8 _)from trivial) em _ w⟩
  .exact⟨.int .i64 a.kind,T7 _ _ _ rfl w,al3 Tryz.underlying3 (show MapKept.IsKey (.int .i64) (.int .i64 _)from rfl) em _ w⟩
  .exact⟨.int .i64 a.id,T7 _ _ _ rfl w,al3 Tryz.underlying3 (show MapKept.IsKey (.int .i64) (.int .i64 _)from rfl) em _ w⟩
  .exact⟨t8 a.slot,at9 _ _ _ rfl w,al3 Tryz.underlying9 (show MapKept.IsKey .string (t8 _)from trivial) em _ w⟩
 find a l w:=run_findKey_eq (P:=prog) (w:=w) kr _ _
 eq a b w:=bg8 w 9998 a b
def cx9(p:Int×Int):Value:=.agg #[.int .i64 p.1,.int .i64 p.2]
def cs1(w:World):(sizeOf 3).run prog w = .ok 1 w:=Tryz.sizeOf3 w
def cL0(a b:Value)(w:World):(part 3 #[a,b] 0).run prog w = .ok a w:=T7 _ _ _ rfl w
def cL1(a b:Value)(w:World):(part 3 #[a,b] 1).run prog w = .ok b w:=T7 _ _ _ rfl w
def dR8:ch0 prog 208 cx9 where
 chk em a w:=by
  rw[show(10000:Nat)=9999+1 from rfl,cx9,Instr.checkKey];simp only[el7,run_underlying Tryz.underlying208,ek8];simp only[Std.Legacy.Range.forIn_eq_forIn_range',Std.Legacy.Range.size,Nat.sub_zero,Nat.add_sub_cancel,Nat.div_one,List.range'_succ,List.range'_zero,List.forIn_cons,List.forIn_nil];simp only[el7,cs1,ek8,cL0,cL1,Nat.zero_mul,es6,en0,al3 (v:=.int .i64 a.1) Tryz.underlying3 (show MapKept.IsKey (.int .i64) (.int .i64 _)from rfl) em _ w,al3 (v:=.int .i64 a.2) Tryz.underlying3 (show MapKept.IsKey (.int .i64) (.int .i64 _)from rfl) em _ w,en1]
 find a l w:=run_findKey_eq (P:=prog) (w:=w) kr _ _
 eq a b w:=by
  obtain⟨c,d⟩:=a;obtain⟨e,f⟩:=b;unfold Op.equal;rw[show Op.maxDepth=9999+1 from rfl,cx9,cx9,Op.equalIn];simp only[el7,run_underlying Tryz.underlying208,ek8];simp only[Std.Legacy.Range.forIn_eq_forIn_range',Std.Legacy.Range.size,Nat.sub_zero,Nat.add_sub_cancel,Nat.div_one,List.range'_succ,List.range'_zero,List.forIn_cons,List.forIn_nil];simp only[el7,cs1,ek8,cL0,Nat.zero_mul,es6,en0,aA7 w 9998];by_cases h1:c=e<;>by_cases h2:d=f<;>simp[h1,h2,cL1,aA7 w 9998]
def bG4(h:Hp)(w a:World):Hp:=λb=>if b<w.heap.size then h b else a.heap[b]?
section
variable {h:Hp} {w w':World}
def dg7{b:Nat}(hb:w.heap.size<=b):bG4 h w w' b=w'.heap[b]?:=by unfold bG4;rw[if_neg om]
def bS6(c:E2 h (i5 w)):E2 h (bG4 h w w'):=λb o e=>by
 have a:b<w.heap.size:=(ej4.1 (show w.heap[b]?=some o from c b o e)).1;unfold bG4;rw[if_pos a];exact e
def dw9(a:E2 h (i5 w))(c:o6 w w'):E2 (bG4 h w w') (i5 w'):=λb o e=>by
 unfold bG4 at e;split at e
 .exact b7 c b o (a b o e)
 .exact e
def cJ1(c:E2 h (i5 w))(f:o6 w w'){N:Nat->Prop}(hN:∀b,N b->b<w.heap.size/\h b=none):E2 (bG4 h w w') (D0 w' N):=λb o e=>by
 have d:¬N b:=λa=>by
  unfold bG4 at e;rw[if_pos (hN b a).1,(hN b a).2]at e;cases e
 rw[E4 d];exact dw9 c f b o e
end
section
variable {h:Hp} {w w':World}
def B0.upR{α:Type}[O8 α]{T:TypeId}{u:Value}{l:List α}(a:B0 (i5 w) w' T u l):R (bG4 h w w') u l:=
 (a.down (h:=λ_=>none) (λ_ _ h=>by cases h)).ro (λ_ _ h=>by cases h) λb c=>dg7 (C9 (a.free c))
end
def Wy.sp(w:Wy):Ptr Sh:=⟨w.s⟩
instance:A6 Wy where
 sz:=5
 pos:=om
 enc h cs x:=∃v1 v2 v3,cs=[v1,.int .i64 x.proc,.int .i64 x.n,v2,v3]/\R h v1 x.sp/\R h v2 x.real/\R h v3 x.live
 len:=by rintro h cs a ⟨v1,v2,v3,rfl,_⟩;rfl
 mono:=by rintro h k cs a hk ⟨v1,v2,v3,rfl,h1,h2,h3⟩;exact⟨v1,v2,v3,rfl,A6.mono hk h1,A6.mono hk h2,A6.mono hk h3⟩
 one:=by
  rintro h cs a ⟨v1,v2,v3,rfl,h1,h2,h3⟩ v hv;simp only[ek9,en5,es4]at hv;rcases hv with rfl|rfl|rfl|rfl|rfl
  .exact ah2 h1
  .rfl
  .rfl
  .exact ah2 h2
  .exact ah2 h3
structure Bk where
 s:Sh
 ways:List Wy
 defs:List (List B3)
 uses:List (List B3)
 ins:List (List B3)
 outs:List (List B3)
def Bk.sp(b:Bk):Ptr Sh:=⟨b.s⟩
def Bk.wp(b:Bk):List (Ptr Wy):=b.ways.map λw=>⟨w⟩
instance:A6 Bk where
 sz:=6
 pos:=om
 enc h cs x:=∃v1 v2 v3 v4 v5 v6,cs=[v1,v2,v3,v4,v5,v6]/\R h v1 x.sp/\R h v2 x.wp/\R h v3 x.defs/\R h v4 x.uses/\R h v5 x.ins/\R h v6 x.outs
 len:=by rintro h cs a ⟨v1,v2,v3,v4,v5,v6,rfl,_⟩;rfl
 mono:=by rintro h k cs a hk ⟨v1,v2,v3,v4,v5,v6,rfl,h1,h2,h3,h4,h5,h6⟩;exact⟨v1,v2,v3,v4,v5,v6,rfl,A6.mono hk h1,A6.mono hk h2,A6.mono hk h3,A6.mono hk h4,A6.mono hk h5,A6.mono hk h6⟩
 one:=by
  rintro h cs a ⟨v1,v2,v3,v4,v5,v6,rfl,h1,h2,h3,h4,h5,h6⟩ v hv;simp only[ek9,en5,es4]at hv;rcases hv with rfl|rfl|rfl|rfl|rfl|rfl
  .exact ah2 h1
  .exact ah2 h2
  .exact ah2 h3
  .exact ah2 h4
  .exact ah2 h5
  .exact ah2 h6
def ah4:B3:=ofA #[36,105,110]
def V8:B3:=ofA #[36,114,101,116]
def R6(p:Pg)(n:B3):Bool:=decide (n=ah4)||p.globals.contains n
def I8{α:Type}(l:List (List α))(i:Int):List α:=l.getD i.toNat []
def dI1(p:Pg)(n:B3):Pr:=p.procs.getD (ai5 p.procs n).toNat cc5
def ax1(p:Pg)(outs:List (List B3))(s:St):List B3:=
 (if s.name=e0 then[]else[s.name])++(((s.args.zip (dI1 p s.proc).params).filter λx=>x.1.ref&&(I8 outs (ai5 p.procs s.proc)).contains x.2.name).map λx=>x.1.name)++(I8 outs (ai5 p.procs s.proc)).filter (R6 p)
def al4(p:Pg)(outs:List (List B3))(s:St):List B3:=
 if s.kind=1 then[s.name]else if s.kind=2 then[s.name,ah4]else if s.kind=9 then[V8]else if s.kind=4 then ax1 p outs s else[]
def aw7(p:Pg)(a:List (List B3))(s:St):List B3:=
 ak4 s.x++(if s.kind=2 then[ah4]else[])++if s.kind=4 then s.args.flatMap N0++I8 a (ai5 p.procs s.proc)else[]
def K6(p:Pg)(outs:List (List B3)):List (List B3):=(d9 p).l.map λit=>F2 (al4 p outs it.s)
def R5(p:Pg)(a:List (List B3)):List (List B3):=(d9 p).l.map λit=>F2 (aw7 p a it.s)
def af1(p:Pg)(i:Nat)(n:B3):Bool:=R6 p n||(p.procs.getD i cc5).params.contains ⟨n,true⟩
def ai1(p:Pg)(defs:List (List B3))(i:Nat):List B3:=
 (((d9 p).of i).filter λit=>(F5 (d9 p) i).lives it.s.id).flatMap λit=>(I8 defs (it.s.id-1)).filter (af1 p i)
def I2(p:Pg)(outs:List (List B3)):List (List B3):=(List.range p.procs.length).map λi=>F2 (ai1 p (K6 p outs) i)
def ck4{α:Type}[DecidableEq α](g:α->α):Nat->α->α
 | 0,x=>x
 | k+1,x=>if g x=x then x else ck4 g k (g x)
def dj8(p:Pg):List (List B3):=List.replicate p.procs.length []
def L5(p:Pg):List (List B3):=ck4 (I2 p) 1000 (dj8 p)
def aF2(nx:List (List Int))(stop:Nat->Bool):List (List Int):=(List.range nx.length).map λa=>if stop a then[]else nx.getD a []
def cz4(wy:Wy)(outs:List B3)(uses:List (List B3))(name:B3)(a:Nat):Bool:=
 if(a:Int)=wy.n-1 then outs.contains name else !decide (a=0)&&(I8 uses (wy.place a-1)).contains name
def bh6(wy:Wy)(uses defs:List (List B3))(name:B3)(a:Nat):Bool:=
 decide ((a:Int)=wy.n-1) || !decide (a=0)&&((I8 uses (wy.place a-1)).contains name||(I8 defs (wy.place a-1)).contains name)
def aM7(wy:Wy)(outs:List B3)(uses defs:List (List B3))(name:B3):Bool:=
 (List.range wy.n.toNat).any λa=>cz4 wy outs uses name a&&ab2 (aF2 wy.net (bh6 wy uses defs name)) 0 a
def aP3(p:Pg)(outs uses defs:List (List B3))(i:Nat):List B3:=(p.globals++[ah4]).filter (aM7 (F5 (d9 p) i) (I8 outs i) uses defs)
def U3(p:Pg)(outs defs a:List (List B3)):List (List B3):=(List.range p.procs.length).map λi=>F2 (aP3 p outs (R5 p a) defs i)
def ah9(p:Pg):List (List B3):=ck4 (U3 p (L5 p) (K6 p (L5 p))) 1000 (dj8 p)
def L7(p:Pg):List Wy:=(List.range p.procs.length).map (F5 (d9 p))
def b9(p:Pg):Bk:=⟨d9 p,L7 p,K6 p (L5 p),R5 p (ah9 p),ah9 p,L5 p⟩
def ee7(s:Sh):Wy:=⟨s,0,0,[],[]⟩
def Bk.way(b:Bk)(i:Int):Wy:=b.ways.getD i.toNat (ee7 b.s)
def Bk.gives(b:Bk)(i a:Int):List B3:=
 if a=0 then F2 (I8 b.ins i++(b.s.fn i).params.map (·.name))
 else if a=(b.way i).n-1\/atB (b.way i).live a=false then[]else I8 b.defs ((b.way i).place a-1)
def Bk.takes(b:Bk)(i a:Int):List B3:=
 if a=(b.way i).n-1 then F2 (I8 b.outs i++[V8])
 else if a=0\/atB (b.way i).live a=false then[]else I8 b.uses ((b.way i).place a-1)
def Bk.givers(b:Bk)(i:Int)(n:B3):List Nat:=(List.range (b.way i).n.toNat).filter λ(a:Nat)=>(b.gives i a).contains n
def bo9(nx:List (List Int))(b:List Nat)(a c:Nat):Bool:=(E3 nx a).any λd=>ab2 (aF2 nx λq=>b.contains q) d c
def fwC(x y:Fw):Int:=orF [M6 (H7 x.src) (H7 y.src),M6 (H7 x.dst) (H7 y.dst),ah6 x.var y.var]
def bN9(x y:Fw):Bool:=decide (fwC x y<=0)
def Bk.nx(b:Bk)(i:Int):List (List Int):=(at6 (b.way i).n.toNat ((b.way i).pairs (b.way i).data)).1
def Bk.flow0(b:Bk)(i:Int):List Fw:=(List.range (b.way i).n.toNat).flatMap λ(a:Nat)=>(b.gives i a).flatMap λn=>
 ((List.range (b.way i).n.toNat).filter λ(c:Nat)=>(b.takes i c).contains n&&bo9 (b.nx i) (b.givers i n) a c).map λ(c:Nat)=>(⟨(b.way i).place a,(b.way i).place c,n⟩:Fw)
def Bk.flows(b:Bk)(i:Int):List Fw:=ad5 bN9 (b.flow0 i)
def vxC(a b:Vx):Int:=orF [ah6 a.proc b.proc,M6 a.kind b.kind,M6 a.id b.id,ah6 a.slot b.slot]
def cY3(a b:Vx):Bool:=decide (vxC a b<=0)
def egC(a b:Eg):Int:=orF [vxC a.src b.src,vxC a.dst b.dst,M6 a.kind b.kind]
def cR2(a b:Eg):Bool:=decide (egC a b<=0)
def av2(l:List Eg):List Eg:=N4 (ad5 cR2 l)
def Bk.slotsIn(b:Bk)(i:Int):List B3:=Y5 (I8 b.ins i++(b.s.fn i).params.map (·.name))
def Bk.slotsOut(b:Bk)(i:Int):List B3:=Y5 (I8 b.outs i++[V8])
def Bk.callOut(b:Bk)(s:St):List B3:=if s.name=e0 then(b.slotsOut (b.s.pr s.proc)).filter λn=>!decide (n=V8)else b.slotsOut (b.s.pr s.proc)
def Bk.vert0(b:Bk)(i:Int):List Vx:=
 ([⟨(b.s.fn i).name,1,0,e0⟩]++(b.slotsIn i).map λn=>⟨(b.s.fn i).name,3,0,n⟩)++((b.slotsOut i).map λn=>⟨(b.s.fn i).name,4,0,n⟩) ++
 (b.s.of i).flatMap λit=>[⟨(b.s.fn i).name,2,it.s.id,e0⟩]++if it.s.kind=4 then((b.slotsIn (b.s.pr it.s.proc)).map λn=>⟨(b.s.fn i).name,5,it.s.id,n⟩)++(b.callOut it.s).map λn=>⟨(b.s.fn i).name,6,it.s.id,n⟩else[]
def Bk.verts(b:Bk)(i:Int):List Vx:=ad5 cY3 (b.vert0 i)
def ad6(a:Ar):List B3:=if a.ref then[a.name]else ak4 a.x
def Bk.callee(b:Bk)(s:St):Pr:=b.s.fn (b.s.pr s.proc)
def Bk.giver(b:Bk)(q:B3)(a:Int)(n:B3):Vx:=
 if a=0 then⟨q,3,0,n⟩
 else if(b.s.it a).s.kind≠4 then⟨q,2,a,e0⟩
 else if(b.s.it a).s.name=n then⟨q,6,a,V8⟩
 else match((b.s.it a).s.args.zip (b.callee (b.s.it a).s).params).find? λx=>x.1.ref&&decide (x.1.name=n)with
  | some x=>⟨q,6,a,x.2.name⟩
  | none=>⟨q,6,a,n⟩
def Bk.takers(b:Bk)(q:B3)(a:Int)(n:B3):List Vx:=
 if a = -1 then[⟨q,4,0,n⟩]
 else if(b.s.it a).s.kind≠4 then[⟨q,2,a,e0⟩]
 else((((b.s.it a).s.args.zip (b.callee (b.s.it a).s).params).filter λx=>(ad6 x.1).contains n).map λx=>⟨q,5,a,x.2.name⟩) ++
  if(R6 b.s.p n&&(I8 b.ins (b.s.pr (b.s.it a).s.proc)).contains n)=true then[⟨q,5,a,n⟩]else[]
def aj9(q:B3)(d:Int×Int):Eg:=⟨if d.1=0 then⟨q,1,0,e0⟩else⟨q,2,d.1,e0⟩,⟨q,2,d.2,e0⟩,1⟩
def J3(q:B3)(v:Vx):List Eg:=
 if v.kind=3\/v.kind=4 then[⟨⟨q,1,0,e0⟩,v,1⟩]else if v.kind=5\/v.kind=6 then[⟨⟨q,2,v.id,e0⟩,v,1⟩]else[]
def Bk.edge0(b:Bk)(i:Int):List Eg:=
 (b.way i).decides.map (aj9 (b.s.fn i).name)++(b.verts i).flatMap (J3 (b.s.fn i).name) ++
 (b.flows i).flatMap λf=>(b.takers (b.s.fn i).name f.dst f.var).map λv=>⟨b.giver (b.s.fn i).name f.src f.var,v,2⟩
def Bk.edges(b:Bk)(i:Int):List Eg:=av2 (b.edge0 i)
def bv4(n:Int):Ex:=.mk 1 n e0 []
def ak0(s:B3):Ex:=.mk 2 0 s []
def cI7(op:Int)(a b:Ex):Ex:=.mk op 0 e0 [a,b]
def sV:B3:=ofA #[118]
def sG:B3:=ofA #[103]
def sP:B3:=ofA #[112]
def sX:B3:=ofA #[120]
def sY:B3:=ofA #[121]
def sE:B3:=ofA #[101]
def bK4:Pr:=⟨J0,[],[sV],[.mk 1 1 [] sV e0 (bv4 2) false [] [] [],.mk 2 4 [] sG sP (.mk 0 0 e0 []) false [⟨false,e0,bv4 3⟩,⟨true,sV,.mk 0 0 e0 []⟩] [] [],
 .mk 3 3 [] e0 e0 (ak0 sV) false [] [] [],.mk 4 3 [] e0 e0 (ak0 sG) false [] [] []],[]⟩
def bK5:Pr:=⟨sP,[⟨sX,false⟩,⟨sY,true⟩],[],[.mk 5 1 [] sY e0 (cI7 8 (ak0 sY) (ak0 sX)) false [] [] [],
 .mk 6 5 [] e0 e0 (cI7 12 (ak0 sY) (bv4 9)) false [] [.mk 7 10 [] sE e0 (.mk 0 0 e0 []) false [] [] []] [],.mk 8 9 [] e0 e0 (ak0 sY) true [] [] []],[sE]⟩
def aw1:Pg:=⟨[sG],[bK4,bK5]⟩
def Bk.calledBy(b:Bk)(n:B3):List B3:=((b.s.of (b.s.pr n)).filter λit=>decide (it.s.kind=4)&&(b.way (b.s.pr n)).lives it.s.id).map (·.s.proc)
def Bk.reached(b:Bk):List B3:=Y5 (R8 b.calledBy 1000 0 [J0])
def Bk.wv(b:Bk):List Vx:=b.reached.flatMap λn=>b.verts (b.s.pr n)
def Bk.isCall(b:Bk)(id:Int):Bool:=decide ((b.s.it id).s.kind=4)&&(b.way (b.s.it id).proc).lives id
def Bk.joinOf(b:Bk)(v:Vx):List Eg:=
 if v.id=0\/b.isCall v.id=false then[]
 else if v.kind=2 then[⟨v,⟨(b.s.it v.id).s.proc,1,0,e0⟩,4⟩]
 else if v.kind=5 then[⟨v,⟨(b.s.it v.id).s.proc,3,0,v.slot⟩,5⟩]
 else if v.kind=6 then[⟨⟨(b.s.it v.id).s.proc,4,0,v.slot⟩,v,6⟩]
 else[]
def Bk.we0(b:Bk):List Eg:=(b.reached.flatMap λn=>b.edges (b.s.pr n))++b.wv.flatMap b.joinOf
def Bk.we(b:Bk):List Eg:=av2 b.we0
def atV(V:List Vx)(v:Vx):Option Nat:=V.findIdx? λx=>decide (x=v)
def D6(V:List Vx)(v:Vx):Nat:=(atV V v).getD 0
def R3(V:List Vx)(L:List Eg)(ks:List Int):List (List Int):=
 (List.range V.length).map λa=>(L.filter λe=>ks.contains e.kind&&decide (D6 V e.src=a)).map λe=>((D6 V e.dst:Nat):Int)
def Z7(V:List Vx)(L:List Eg)(ks:List Int):List (List Int):=
 (List.range V.length).map λa=>(L.filter λe=>ks.contains e.kind&&decide (D6 V e.dst=a)).map λe=>((D6 V e.src:Nat):Int)
def ae5(S:List Bool):List Int:=((List.range S.length).filter λa=>S.getD a false).map λ(a:Nat)=>(a:Int)
def S8(n:Nat)(l:List Int):List Bool:=(List.range n).map λ(a:Nat)=>l.contains (a:Int)
def I7(nx:List (List Int))(S:List Bool):List Bool:=S8 S.length (Q8 nx nx.length (ae5 S))
def aA9(V:List Vx)(b:Nat)(a:B3)(e:Eg):List Eg:=
 if e.kind=(6:Int)/\D6 V e.src=b then
  match V[(D6 V e.dst:Nat)]? with
  | none=>[]
  | some v=>if(atV V ⟨v.proc,5,v.id,a⟩).isSome then[⟨⟨v.proc,5,v.id,a⟩,v,3⟩]else[]
 else[]
def ce4(V:List Vx)(L:List Eg)(a:Nat):List Eg:=
 (ae5 (I7 (Z7 V L [1,2,3]) (S8 V.length [(a:Int)]))).flatMap λi=>match V[i.toNat]? with
  | none=>[]
  | some b=>if b.kind≠(3:Int)then[]else L.flatMap (aA9 V a b.slot)
def ce3(V:List Vx)(L:List Eg):List Eg:=
 (List.range V.length).flatMap λ(a:Nat)=>match V[a]? with
  | none=>[]
  | some b=>if b.kind≠(4:Int)then[]else ce4 V L a
def ab5(V:List Vx)(E S:List Eg):List Eg:=S++((ce3 V (E++S)).filter λe=>!S.contains e).eraseDups
def aw2(V:List Vx)(E:List Eg):List Eg:=ck4 (ab5 V E) (V.length*V.length+1) []
def Bk.sums(b:Bk):List Eg:=aw2 b.wv b.we
def Bk.all(b:Bk):List Eg:=b.we++b.sums
def G6(V:List Vx)(S:List Bool):List Vx:=(ae5 S).filterMap λi=>V[i.toNat]?
def O3(V:List Vx):List Vx->Option (List Int)
 | []=>some []
 | v::l=>match atV V v,O3 V l with
   | some a,some r=>some ((a:Int)::r)
   | _,_=>none
def cN0:Vx:=⟨e0,0,0,e0⟩
def aX4(v:Value)(l:List B3)(w:World)(hv:R (i5 w) v l)(q:l.length<=1000000):y5 prog 114 #[v] w λu d=>(u = .bool (ak3 l)/\d=w):=by
 refine z6 [v] func114 rfl ?_;have g:=hv.vlen;simp only[eS,simprocAttr,hv.isS,g];refine A9 [5,6] (σ:=Nat) (λk f d=>f 7 = .int .i64 k/\k<=l.length/\(l.take k).all V0=true/\d=w) (λk=>l.length-k) 0 ?_ ?_
 .simp only[B8,simprocAttr];exact⟨tt,ek1 _,dP,tt⟩
 .rintro k f d ⟨n,o,_⟩ ⟨j,p,a,rfl⟩;simp only[eS,simprocAttr,j,o];refine A3 (λb=>?_) ?_
  .have m:=hv.inS b;have e:(Instr.loadAt 9 (.pointer (some (G8 v k)))).run prog d = .ok (t8 l[k]) d:=O4 (P:=prog) (t:=9) hv (n7 _) (ej0 b) ao5;have i:(l.take (k+1)).all V0=((l.take k).all V0&&V0 l[k]):=by rw[ej8 b,List.all_append];simp
   have c:=ek0 b;generalize l[k]=s at e i c;simp only[n8,n9,A0,simprocAttr,j,n,m,e];refine y4 (aR3 s _) ?_;rintro u r ⟨rfl,rfl⟩;cases g:V0 s
   .simp only[eS,simprocAttr];refine o8 results114 ?_;simp only[B8,simprocAttr];refine⟨?_,tt⟩;have:ak3 l=false:=by
     rw[et8];intro h;rw[eq9.1 h s c]at g;cases g
    rw[this]
   .simp only[eS,simprocAttr,j];exact V1 (k+1) ⟨by rw[i,a,g];rfl,tt⟩
  .rintro rfl;simp only[n8,simprocAttr];refine o8 results114 ?_;simp only[B8,simprocAttr];rw[ek4]at a;exact⟨by rw[ak3,a],tt⟩
def dh8(op:Int)(w:World):y5 prog 314 #[.int .i64 op] w λu g=>(u = .int .i64 (aI6 op)/\g=w):=by
 refine z6 [.int .i64 op] func314 rfl ?_;by_cases h1:op=1
 .have a:decide (op=1)=true:=by simp[h1]
  simp only[eS,simprocAttr,a];refine o8 results314 ?_;simp only[B8,simprocAttr];exact⟨by simp[aI6,h1],tt⟩
 have a:decide (op=1)=false:=by simp[h1]
 by_cases h2:op=2
 .have b:decide (op=2)=true:=by simp[h2]
  simp only[eS,simprocAttr,a,b];refine o8 results314 ?_;simp only[B8,simprocAttr];exact⟨by simp[aI6,h2],tt⟩
 have b:decide (op=2)=false:=by simp[h2]
 by_cases h3:op=3
 .have c:decide (op=3)=true:=by simp[h3]
  simp only[eS,simprocAttr,a,b,c];refine o8 results314 ?_;simp only[B8,simprocAttr];exact⟨by simp[aI6,h3],tt⟩
 have c:decide (op=3)=false:=by simp[h3]
 by_cases h4:op=4
 .have d:decide (op=4)=true:=by simp[h4]
  simp only[eS,simprocAttr,a,b,c,d];refine o8 results314 ?_;simp only[B8,simprocAttr];exact⟨by simp[aI6,h4],tt⟩
 have d:decide (op=4)=false:=by simp[h4]
 by_cases h5:5<=op
 .have e:decide (5<=op)=true:=by simp[h5]
  by_cases h6:op<=17
  .have f:decide (op<=17)=true:=by simp[h6]
   simp only[eS,simprocAttr,a,b,c,d,e,f];refine o8 results314 ?_;simp only[B8,simprocAttr];exact⟨by rw[aI6,if_neg om,if_neg om,if_pos ⟨h5,h6⟩],tt⟩
  .have f:decide (op<=17)=false:=by simp[h6]
   simp only[eS,simprocAttr,a,b,c,d,e,f];refine o8 results314 ?_;simp only[B8,simprocAttr];exact⟨by rw[aI6,if_neg om,if_neg om,if_neg om],tt⟩
 .have e:decide (5<=op)=false:=by simp[h5]
  simp only[eS,simprocAttr,a,b,c,d,e];refine o8 results314 ?_;simp only[B8,simprocAttr];exact⟨by rw[aI6,if_neg om,if_neg om,if_neg om],tt⟩
def dk0(v:Value)(x:Ex)(w:World)(hv:SV (i5 w) v x):y5 prog 286 #[v] w λu k=>(u = .bool (dj9 x)/\o6 w k):=by
 refine z6 [v] func286 rfl ?_;obtain⟨a,l,b,c,g⟩:=aV6 hv (n7 _);obtain⟨m,e,j,_⟩:=g.ex;have d:=j l (n7 _);have f:=e.isS;have i:=e.vlen;have h:decide ((x.kids.length:Int)=0)=decide (x.kids.length=0):=eo4.2 om;unfold dj9;cases h1:decide (x.op=0)
 .simp only[eS,simprocAttr,b,d,h1];exact o8 results286 ⟨rfl,c⟩
 cases h2:decide (x.n=0)
 .simp only[eS,simprocAttr,b,d,h1,h2];exact o8 results286 ⟨rfl,c⟩
 cases h3:decide (x.name=e0)
 .simp only[eS,simprocAttr,b,d,h1,h2,h3];exact o8 results286 ⟨rfl,c⟩
 simp only[eS,simprocAttr,b,d,f,i,h1,h2,h3,h];exact o8 results286 ⟨rfl,c⟩
def aV5{α:Type}(p:α->Bool)(l:List α)(k:Nat)(a:k<l.length):(l.take (k+1)).all p=((l.take k).all p&&p l[k]):=by
 rw[ej8 a,List.all_append];simp
def aK8{α:Type}{p:α->Bool}{l:List α}{x:α}(b:x∈l)(h:p x=false):l.all p=false:=by
 rw[et8];intro a;rw[eq9.1 a _ b]at h;cases h
def cj3:∀(n:Nat) (v:Value) (x:Ex) (w:World),n<=20->SV (i5 w) v x->y5 prog 293 #[v,.int .i64 n] w λu I=>(u = .bool (ah3 n x)/\o6 w I)
 | 0,v,x,w,_,hv=>by
  refine z6 [v,.int .i64 ((0:Nat):Int)] func293 rfl ?_;obtain⟨a,j,N,E,U⟩:=aV6 hv (n7 _);have S:decide ((((0:Nat):Int))<1)=true:=dQ
  simp only[eS,simprocAttr,N];refine C0 (λr=>o6 j.drew r) 11 (A7 [0,1,2,3,4,5,6,7,8,9,10]) ?_;simp only[D7,A7,n8,n9,simprocAttr];exact o8 results293 ⟨rfl,E.trans (o6.drew _)⟩
 | n+1,v,x,w,hn,hv=>by
  refine z6 [v,.int .i64 ((n+1:Nat):Int)] func293 rfl ?_;obtain⟨a,j,N,E,U⟩:=aV6 hv (n7 _);obtain⟨vk,H,ld,sd⟩:=U.ex;have c:=E.trans (o6.drew j);have p:=ld j.drew (b7 (o6.drew j));have s1:=sd (λr=>o6 j.drew r) j.drew (p6.refl _) (λI h=>b7 ((o6.drew j).trans h));have S:decide ((((n+1:Nat):Int))<1)=false:=by simp;omega
  have T:=H.isS;have V:=H.vlen;simp only[eS,simprocAttr,N];refine C0 (λr=>o6 j.drew r) 11 (A7 [0,1,2,3,4,5,6,7,8,9,10]) ?_;simp only[D7,A7,n8,n9,simprocAttr,S,s1,T,V];refine y4 (dh8 x.op _) ?_;rintro u r ⟨rfl,rfl⟩;cases h1:decide ((x.kids.length:Int)=aI6 x.op)
  .simp only[D7,n8,n9,simprocAttr,G0,h1];refine⟨p6.refl _,?_⟩;refine o8 results293 ?_;simp only[B8,simprocAttr];exact⟨by rw[ah3,if_pos (by simpa using h1)],c⟩
  have e:¬(x.kids.length:Int)≠aI6 x.op:=by simpa using h1
  simp only[D7,n8,n9,simprocAttr,G0,h1];refine⟨p6.refl _,?_⟩;simp only[eS,simprocAttr,p];by_cases h2:x.op=1
  .have m:decide (x.op=1)=true:=by simp[h2]
   have d:ah3 (n+1) x=(decide (0<=x.n)&&decide (x.name=e0)):=by rw[ah3,if_neg e,if_pos h2]
   cases h3:decide (0<=x.n)
   .simp only[eS,simprocAttr,p,m,h3];refine o8 results293 ?_;simp only[B8,simprocAttr];exact⟨by rw[d,h3];rfl,c⟩
   .simp only[eS,simprocAttr,p,m,h3];refine o8 results293 ?_;simp only[B8,simprocAttr];exact⟨by rw[d,h3];rfl,c⟩
  have m:decide (x.op=1)=false:=by simp[h2]
  by_cases h3:x.op=2
  .have s:decide (x.op=2)=true:=by simp[h3]
   have d:ah3 (n+1) x=(decide (x.n=0)&&V0 x.name):=by rw[ah3,if_neg e,if_neg h2,if_pos h3]
   cases h4:decide (x.n=0)
   .simp only[eS,simprocAttr,p,m,s,h4];refine o8 results293 ?_;simp only[B8,simprocAttr];exact⟨by rw[d,h4];rfl,c⟩
   .simp only[eS,simprocAttr,p,m,s,h4];refine y4 (aR3 x.name _) ?_;rintro u r ⟨rfl,rfl⟩;simp only[n8,simprocAttr];refine o8 results293 ?_;simp only[B8,simprocAttr];exact⟨by rw[d,h4];rfl,c⟩
  have s:decide (x.op=2)=false:=by simp[h3]
  cases h4:decide (x.n=0)
  .have d:ah3 (n+1) x=false:=by rw[ah3,if_neg e,if_neg h2,if_neg h3,if_pos (.inl (by simpa using h4))]
   simp only[eS,simprocAttr,p,m,s,h4];refine o8 results293 ?_;simp only[B8,simprocAttr];exact⟨by rw[d],c⟩
  cases h5:decide (x.name=e0)
  .have d:ah3 (n+1) x=false:=by rw[ah3,if_neg e,if_neg h2,if_neg h3,if_pos (.inr (by simpa using h5))]
   simp only[eS,simprocAttr,p,m,s,h4,h5];refine o8 results293 ?_;simp only[B8,simprocAttr];exact⟨by rw[d],c⟩
  have d:ah3 (n+1) x=x.kids.all (ah3 n):=by
   rw[ah3,if_neg e,if_neg h2,if_neg h3,if_neg (λh=>by rcases h with h|h<;>simp_all)]
  have Z:x.kids.length<=2:=by
   have:(x.kids.length:Int)=aI6 x.op:=by simpa using h1
   unfold aI6 at this;split at this
   .omega
   .split at this
    .omega
    .split at this<;>omega
  simp only[eS,simprocAttr,p,m,s,h4,h5,T,V];refine E8 [1,49,50] (σ:=Nat) (λk f I=>f 51 = .int .i64 k/\k<=x.kids.length/\(x.kids.take k).all (ah3 n)=true/\o6 j I) (λk=>x.kids.length-k) 0 ?_ ?_
  .simp only[B8,simprocAttr];exact⟨tt,ek1 _,dP,o6.drew _⟩
  .rintro k f w3 z ⟨q,Y,g,i⟩;simp only[em0,B8,↓reduceIte,Nat.reduceEqDiff]at z;obtain⟨X,J,K,_⟩:=z;simp only[eS,simprocAttr,q,K];refine A3 (λl=>?_) ?_
   .have O:=H.inS l;obtain⟨sv,C,A⟩:=H1 (P:=prog) (t:=110) H (b7 i) (ej0 l) bt2 bt7 be5 ak6;rw[ak6]at A;have D:=aV5 (ah3 n) x.kids k l;have o:=ek0 l;generalize x.kids[k]=y at C D o;obtain⟨b,wz,W,L,Q,F,M⟩:=dA5 (C.mono (b7 i)) (n7 _);obtain⟨sy,R,ly,_⟩:=M.ex_v;have B:IntKind.i64.wrap (((n+1:Nat):Int)-1)=(n:Int):=by rw[M7 _ om];omega
    simp only[n8,n9,A0,simprocAttr,q,J,X,O,A,L,Q,ly W (n7 _),B];refine y4 (cj3 n sy y W om R) ?_;rintro u w5 ⟨rfl,G⟩;cases hdy:ah3 n y
    .simp only[eS,simprocAttr];refine o8 results293 ?_;simp only[B8,simprocAttr];exact⟨by rw[d,aK8 o hdy],E.trans (i.trans (F.trans G))⟩
    .simp only[eS,simprocAttr,q];exact V1 (k+1) ⟨by rw[D,g,hdy];rfl,i.trans (F.trans G)⟩
   .rintro rfl;simp only[n8,simprocAttr];refine o8 results293 ?_;simp only[B8,simprocAttr];rw[ek4]at g;exact⟨by rw[d,g],E.trans i⟩
def bu6(v:Value)(x:Ex)(w:World)(hv:SV (i5 w) v x):y5 prog 261 #[v] w λu j=>(u = .bool (ah3 20 x)/\o6 w j):=by
 refine z6 [v] func261 rfl ?_;obtain⟨a,d,f,g,e⟩:=aV6 hv (n7 _);obtain⟨i,b,h,_⟩:=e.ex_v;simp only[eS,simprocAttr,f,h d (n7 _)];refine y4 (cj3 20 i x d om b) ?_;rintro u k ⟨rfl,c⟩;simp only[n8,simprocAttr];exact o8 results261 ⟨rfl,g.trans c⟩
def bq5(s:B3)(b:Bool)(w:World):y5 prog 247 #[t8 s,.bool b] w λu a=>(u = .bool (ae3 s b)/\a=w):=by
 refine z6 [t8 s,.bool b] func247 rfl ?_;cases b
 .simp only[eS,simprocAttr];refine o8 results247 ?_;simp only[B8,simprocAttr];exact⟨by simp[ae3],tt⟩
 .simp only[eS,simprocAttr];refine y4 (aR3 s _) ?_;rintro u c ⟨rfl,rfl⟩;cases hn:V0 s
  .simp only[eS,simprocAttr];refine o8 results247 ?_;simp only[B8,simprocAttr];exact⟨by simp[ae3,hn],tt⟩
  .simp only[n8,simprocAttr];refine o8 results247 ?_;simp only[B8,simprocAttr];exact⟨by simp[ae3,hn],tt⟩
def bX1(v:Value)(x:Ex)(b:Bool)(w:World)(hv:SV (i5 w) v x):y5 prog 248 #[v,.bool b] w λu k=>(u = .bool (ar3 x b)/\o6 w k):=by
 refine z6 [v,.bool b] func248 rfl ?_;obtain⟨a,l,f,e,i⟩:=aV6 hv (n7 _);obtain⟨h,d,j,_⟩:=i.ex_v;have g:=j l (n7 _);cases b
 .simp only[eS,simprocAttr,f,g];refine y4 (dk0 h x _ d) ?_;rintro u m ⟨rfl,c⟩;simp only[n8,simprocAttr];refine o8 results248 ?_;simp only[B8,simprocAttr];exact⟨by simp[ar3],e.trans c⟩
 .simp only[eS,simprocAttr,f,g];refine y4 (bu6 h x _ d) ?_;rintro u m ⟨rfl,c⟩;cases hn:ah3 20 x
  .simp only[eS,simprocAttr];refine o8 results248 ?_;simp only[B8,simprocAttr];exact⟨by simp[ar3,hn],e.trans c⟩
  .simp only[n8,simprocAttr];refine o8 results248 ?_;simp only[B8,simprocAttr];exact⟨by simp[ar3,hn],e.trans c⟩
def cz3(v:Value)(l:List Ar)(w:World)(hv:R (i5 w) v l)(N:l.length<=1000000):y5 prog 249 #[v] w λu E=>(u = .bool (aW3 l)/\o6 w E):=by
 refine z6 [v] func249 rfl ?_;simp only[eS,simprocAttr,hv.isS,hv.vlen];refine A9 [5,6] (σ:=Nat) (λk f E=>f 7 = .int .i64 k/\k<=l.length/\(l.take k).all (λa=>ae3 a.name a.ref&&ar3 a.x (!a.ref))=true/\o6 w E) (λk=>l.length-k) 0 ?_ ?_
 .simp only[B8,simprocAttr];exact⟨tt,ek1 _,dP,p6.refl _⟩
 .rintro k f Q ⟨H,I,_⟩ ⟨s,J,e,d⟩;simp only[eS,simprocAttr,s,I];refine A3 (λg=>?_) ?_
  .have A:=hv.inS g;obtain⟨O,o,n⟩:=H1 (P:=prog) (t:=125) hv (b7 d) (ej0 g) aU8 aV0 aO4 ad0;rw[ad0]at n;have q:=aV5 (λa:Ar=>ae3 a.name a.ref&&ar3 a.x (!a.ref)) l k g;have i:=ek0 g;generalize l[k]=y at o q i;obtain⟨b,U,G,x,B,j,z⟩:=bm7 (o.mono (b7 d)) (n7 _);obtain⟨m,K,_⟩:=z.ar;obtain⟨M,C,L,_⟩:=m.ex_v;have F:=K G (n7 _);have D:=L G (n7 _);have c:(ae3 y.name y.ref&&ar3 y.x (!y.ref))=false->aW3 l=false:=λh=>aK8 (p:=λa:Ar=>ae3 a.name a.ref&&ar3 a.x (!a.ref)) i h;simp only[n8,n9,A0,simprocAttr,s,H,A,n,x,B,F];refine y4 (bq5 y.name y.ref _) ?_;rintro u S ⟨rfl,rfl⟩;cases hnm:ae3 y.name y.ref
   .simp only[eS,simprocAttr];refine o8 results249 ?_;simp only[B8,simprocAttr];exact⟨by rw[c (by rw[hnm];rfl)],d.trans j⟩
   .simp only[eS,simprocAttr,F,D];refine y4 (bX1 M y.x (!y.ref) _ C) ?_;rintro u T ⟨rfl,r⟩;cases hwo:ar3 y.x (!y.ref)
    .simp only[eS,simprocAttr];refine o8 results249 ?_;simp only[B8,simprocAttr];exact⟨by rw[c (by rw[hwo];simp)],d.trans (j.trans r)⟩
    .simp only[eS,simprocAttr,s];exact V1 (k+1) ⟨by rw[q,e,hnm,hwo];rfl,d.trans (j.trans r)⟩
  .rintro rfl;simp only[n8,simprocAttr];refine o8 results249 ?_;simp only[B8,simprocAttr];rw[ek4]at e;exact⟨by rw[aW3,e],d⟩
def dY4:=zJ (zJ (zJ (zJ (zJ (zJ @dZ2 @dY5) (zJ @dO7 (zJ @dY8 @dY9))) (zJ (zJ @dY6 @dY7) (zJ @ec7 (zJ @ec3 @dW3)))) (zJ (zJ (zJ @ec4 @ec5) (zJ @dP9 (zJ @dN4 @dQ0))) (zJ (zJ @dQ1 @eb0) (zJ @ea9 (zJ @dZ4 @ed0))))) (zJ (zJ (zJ (zJ @eh0 @dO5) (zJ @eb9 (zJ @dO6 @ec0))) (zJ (zJ @ef5 @eh4) (zJ @dy8 (zJ @dU2 @dy9)))) (zJ (zJ (zJ @dU3 @dU4) (zJ @dK1 (zJ @dE0 @dD9))) (zJ (zJ @dU1 @ef7) (zJ @ef6 (zJ @dK0 @ef9)))))) (zJ (zJ (zJ (zJ (zJ @ef8 @eb7) (zJ @ds9 (zJ @dT1 @ef0))) (zJ (zJ @dy5 @dO4) (zJ @dJ6 (zJ @ee4 @ef1)))) (zJ (zJ (zJ @dO3 @eb6) (zJ @dT4 (zJ @eb5 @ev.eq_1))) (zJ (zJ @ev.eq_2 @ev.eq_3) (zJ @ev.eq_4 (zJ @C5.eq_1 @C5.eq_2))))) (zJ (zJ (zJ (zJ @eg9 @ef2) (zJ @eg0 (zJ @eg1 @List.map_cons.{0,0}))) (zJ (zJ @List.map_nil.{0,0} @List.map_toArray.{0,0}) (zJ @ch4.eq_1 (zJ @ch4.eq_2 @dI2)))) (zJ (zJ (zJ @ea6 @ea7) (zJ @df7.eq_1 (zJ @List.getElem?_toArray.{0} @List.getElem?_cons_zero.{0}))) (zJ (zJ @List.getElem?_cons_succ.{0} @Option.bind_some.{0,0}) (zJ @Option.some.injEq.{0} (zJ @ep8 @Bool.true_eq_false))))))
def cy6(x:Ex)(a:List B3):ar6 x a=ax3 x.kids (if x.op=2/\a.contains x.name=false then a++[x.name]else a):=by
 cases x;simp only[ar6,Ex.kids,Ex.op,Ex.name];rfl
mutual
def aT2:∀(x:Ex) (a:List B3),(ar6 x a).length<=a.length+aa3 x
 | .mk op n name kids,a=>by
  have h:=bw3 kids (if op=2/\a.contains name=false then a++[name]else a);have b:(if op=2/\a.contains name=false then a++[name]else a).length<=a.length+1:=by
   split
   .simp
   .omega
  simp only[ar6,aa3,wtT];omega
def bw3:∀(l:List Ex) (a:List B3),(ax3 l a).length<=a.length+aD7 l
 | [],a=>by simp[ax3,aD7]
 | x::l,a=>by
  have b:=aT2 x a;have c:=bw3 l (ar6 x a);simp only[ax3,aD7];omega
end
def cy7:∀(m:Nat) (x:Ex) (v g:Value) (c:List B3) (h:Hp) (w:World),aa3 x<=m->SV h v x->E2 h (i5 w)->B0 h w 9 g c->c.length+aa3 x<=1000000 ->
  y5 prog 262 #[v,g] w λu W=>(B0 h W 9 u (ar6 x c)/\p6 (A5 g) w W/\E7 w g u):=by
 intro m
 induction m using Nat.strongRecOn with
 | ind m ih=>
 intro x v g c h w aE hv hh ho hl;refine z6 [v,g] func262 rfl ?_;have aG:=cf9 x;obtain⟨a,I,af,D,ha⟩:=bA8 (w:=w) (A5 g) hv (λb d=>ho.lt d);obtain⟨vk,Y,ld,_⟩:=L8.ex hv ha;have l1:=ld I (B4 _ _);have A:=ho.ext D;have G:=p7 hh (b7 D);have ac:=Y.isS;have ak:=Y.vlen;have aD:=bX3 x.kids;rw[bB8];simp only[dY4,n9,simprocAttr,af];refine dR2 [2] (λf2 X=>∃u,f2 1=u/\B0 h X 9 u (if x.op=2/\c.contains x.name=false then c++[x.name]else c)/\p6 (A5 g) I X/\E7 I g u) (by decide +kernel) ?_ ?_
 .by_cases F:x.op=2
  .have Z:decide (x.op=2)=true:=by simp[F]
   simp only[eS,simprocAttr,l1,Z];refine F6 (S7 g c x.name I (A.rw_ G) om) ?_;cases h2:c.contains x.name
   .obtain⟨p1,u',X,p2,p3,p4,p5⟩:=push (e:=22) aC9 rfl A (x:=t8 x.name) (y:=x.name) rfl om om G;simp only[eS,simprocAttr,l1,p1,p2];exact⟨u',tt,by rw[if_pos ⟨F,tt⟩];exact p3,p4,p5⟩
   .simp only[eS,simprocAttr];exact⟨g,tt,by rw[if_neg (by rintro⟨_,h⟩;cases h)];exact A,p6.refl _,λb d=>.inl d⟩
  .have Z:decide (x.op=2)=false:=by simp[F]
   simp only[eS,simprocAttr,l1,Z];exact⟨g,tt,by rw[if_neg (λh=>F h.1)];exact A,p6.refl _,λb d=>.inl d⟩
 .rintro f2 X N ⟨u0,g1,V,S,T⟩;simp only[em0,B8,↓reduceIte,Nat.reduceEqDiff]at N;obtain⟨g2,_⟩:=N;have H:(if x.op=2/\c.contains x.name=false then c++[x.name]else c).length<=c.length+1:=by
   split
   .simp
   .omega
  have J:=cy6 x c;generalize(if x.op=2/\c.contains x.name=false then c++[x.name]else c)=o0 at V H J;have aF:1<=wtT x.name:=by simp[wtT]
  simp only[eS,simprocAttr,g2,ld X (F3 S),ac,ak];refine E8 [23,24] (σ:=Nat×Value×List B3) (λs f W=>f 25 = .int .i64 s.1/\f 1=s.2.1/\s.1<=x.kids.length/\B0 h W 9 s.2.1 s.2.2/\p6 (A5 g) I W/\E7 I g s.2.1/\ax3 x.kids o0=ax3 (x.kids.drop s.1) s.2.2/\s.2.2.length+aD7 (x.kids.drop s.1)<=1000000) (λs=>x.kids.length-s.1) (0,u0,o0) ?_ ?_
  .simp only[B8,simprocAttr];exact⟨tt,by simpa using g1,ek1 _,V,S,T,dP,by simp;omega⟩
  .rintro⟨k,u,o⟩ f w3 O ⟨q,F,L,B,z,l,n,p⟩;simp only at q F L B l n p;simp only[em0,B8,↓reduceIte,Nat.reduceEqDiff]at O;obtain⟨aa,ab,_⟩:=O;simp only[eS,simprocAttr,q,ab];refine A3 (λr=>?_) ?_
   .have ah:=Y.inS r;have K:E2 h (i5 w3):=G4 G z λb d=>ho.free d;obtain⟨sv,C,Q⟩:=H1 (P:=prog) (t:=110) Y K (ej0 r) bt2 bt7 be5 ak6;rw[ak6]at Q;have j:x.kids.drop k=x.kids[k]::x.kids.drop (k+1):=eo1 r;have ao:=bu4 (ek0 r);generalize x.kids[k]=y at C j ao;rw[j,ax3]at n;rw[j,aD7]at p;have aB:=aT2 y o;obtain⟨b,wz,w4,ad,an,E,ae⟩:=dA9 (w:=w3) (A5 u) C (λb d=>B.lt d);obtain⟨lw,_⟩:=L8.ex_v C ae;simp only[n8,n9,A0,simprocAttr,q,F,aa,ah,Q,ad,an,lw w4 (B4 _ _)];refine y4 (ih (aa3 y) om y sv u o h w4 (ek6 _) C (p7 K (b7 E)) (B.ext E) om) ?_;rintro u' w5 ⟨am,aj,U⟩;simp only[eS,simprocAttr,q];have R:p6 (A5 g) I w5:=(z.trans (p6.up E)).chain aj λi hi d=>by
     rcases l i d with d|d
     .exact d
     .omega
    refine nx4 (k+1,u',ar6 y o) ⟨am,R,λb d=>?_,n,so⟩;rcases U b d with d|d
    .exact l b d
    .have:=(z.trans (p6.up (M:=A5 g) E)).size;exact .inr om
   .rintro rfl;simp only[n8,simprocAttr,F];refine o8 results262 ?_;simp only[B8,simprocAttr];rw[et1]at n;have ag:ar6 x c=o:=by rw[J,n];rfl
    exact⟨by rw[ag];exact B,(p6.up D).trans z,λb d=>(l b d).imp id λh=>ej7 D.size h⟩
def az6(v:Value)(x:Ex)(w:World)(hv:SV (i5 w) v x)(o:aa3 x<=1000000):y5 prog 199 #[v] w λu j=>(B0 (i5 w) j 9 u (ak4 x)/\o6 w j):=by
 refine z6 [v] func199 rfl ?_;obtain⟨a,k,f,d,m⟩:=bA8 (w:=w) (λ_=>False) hv (λ_ h=>h.elim);obtain⟨i,_⟩:=L8.ex_v hv m;simp only[eS,simprocAttr,f,i k (B4 _ _)];refine B6 (bu6 v x k (hv.mono (b7 d))) (λl e=>?_);cases hd:ah3 20 x
 .simp only[eS,simprocAttr];exact o8 results199 ⟨by rw[ak4,hd];exact B0.nil _ _ _,d.trans e⟩
 .have c:=d.trans e;simp only[eS,simprocAttr,i l (p7 (B4 _ _) (b7 e))];refine y4 (cy7 _ x v (.slice none 0 0) [] (i5 w) l (ek6 _) hv (b7 c) (B0.nil _ _ _) (by simpa using o)) ?_;rintro u r ⟨q,g,p⟩;simp only[n8,simprocAttr];exact o8 results199 ⟨by rw[ak4,hd];exact q,p6.ext_of c g λb n=>absurd n D8⟩
def et0:=@List.flatMap_append
def ev3:=@List.take_succ_cons
def ak5(x:Ex):(ak4 x).length<=aa3 x:=by
 unfold ak4;split
 .have:=aT2 x [];simpa using this
 .simp
def bY5(a:Ar):(N0 a).length<=av6 a:=by
 have:=ak5 a.x;unfold N0 av6 wtT;split<;>simp<;>omega
def J9{α β:Type}(g:α->List β)(l:List α){k:Nat}(a:k<l.length):(l.take (k+1)).flatMap g=(l.take k).flatMap g++g l[k]:=by
 rw[ej8 a,et0];simp
def Q7:∀(l:List Ar),(l.flatMap N0).length<=aj1 l
 | []=>dP
 | a::l=>by
  have b:=Q7 l;have c:=bY5 a;simp only[es5,ej2,aj1];omega
def aD6:∀(l:List Ar) (k:Nat),aj1 (l.take k)<=aj1 l
 | [],k=>dP
 | a::l,0=>by simp[aj1]
 | a::l,k+1=>by have:=aD6 l k;simp only[ev3,aj1];omega
def by5(v:Value)(t:St)(w:World)(hv:SV (i5 w) v t)(hl:V7 t<=1000000):y5 prog 176 #[v] w λu A=>(B0 (i5 w) A 9 u (M5 t)/\o6 w A):=by
 refine z6 [v] func176 rfl ?_;rw[X3]at hl;obtain⟨a,d,ao,l,ha⟩:=cH3 (w:=w) (λ_=>False) hv (λ_ h=>h.elim);obtain⟨vl,ux,va,vt,ve,_,Z,R,r,_,_,ld,_⟩:=L8.st hv ha;have i:∀A,o6 d A->E2 (D0 d λ_=>False) (i5 A):=λA h=>p7 (B4 _ _) (b7 h);have l1:=ld d (i _ (p6.refl _));have aY:=ak5 t.x;rw[bB8];simp only[dY4,n9,simprocAttr,ao];rw[bB8];simp only[dY4,simprocAttr];refine dR2 [1] (λf2 N=>∃u,f2 3=u/\B0 (i5 d) N 9 u (if t.kind≠10/\t.name≠e0 then[t.name]else[])/\o6 d N) (by decide +kernel) ?_ ?_
 .by_cases h1:t.kind=10
  .have d1:decide (t.kind=10)=true:=by simp[h1]
   simp only[eS,simprocAttr,l1,d1];exact⟨_,tt,by rw[if_neg (λh=>h.1 h1)];exact B0.nil _ _ _,p6.refl _⟩
  .have d1:decide (t.kind=10)=false:=by simp[h1]
   by_cases h2:t.name=e0
   .have d2:decide (t.name=e0)=true:=by simp[h2]
    simp only[eS,simprocAttr,l1,d1,d2];exact⟨_,tt,by rw[if_neg (λh=>h.2 h2)];exact B0.nil _ _ _,p6.refl _⟩
   .have d2:decide (t.name=e0)=false:=by simp[h2]
    obtain⟨p1,u',N,p2,p3,p4,p5⟩:=push (e:=22) aC9 rfl (B0.nil (i5 d) d 9) (x:=t8 t.name) (y:=t.name) rfl dP dP (n7 _);simp only[eS,simprocAttr,l1,d1,d2,p1,p2];exact⟨u',tt,by rw[if_pos ⟨h1,h2⟩];exact p3,p6.ext_of (p6.refl _) p4 λb p=>absurd p D8⟩
 .rintro f2 N S ⟨u0,g3,H,z⟩;simp only[em0,B8,↓reduceIte,Nat.reduceEqDiff]at S;obtain⟨g1,_⟩:=S;have X:M5 t=(if t.kind≠10/\t.name≠e0 then[t.name]else[])++ak4 t.x++t.args.flatMap N0:=rfl;have G:(if t.kind≠10/\t.name≠e0 then[t.name]else[]).length<=1:=by split<;>simp
  generalize(if t.kind≠10/\t.name≠e0 then[t.name]else[])=o0 at H G X;obtain⟨ax,_⟩:=L8.ex_v Z R;have ac:=l.trans z;simp only[eS,simprocAttr,g1,g3,ax N (i _ z)];refine y4 (az6 ux t.x N (Z.mono (b7 ac)) om) ?_;rintro u3 w3 ⟨ar,n⟩;have aJ:1<=wtT t.name/\1<=wtT t.proc:=by simp[wtT]
  obtain⟨u4,w4,a1,a2,a3,a4⟩:=ae6 (P:=prog) (e:=22) aC9 (H.ext n) (ar.rw_ (b7 n)) (n7 _) om om (b7 (z.trans n));have C:o6 d w4:=p6.ext_of (z.trans n) a3 λb p=>C9 ((H.ext n).free p);have aW:=az3 t.args;simp only[eS,simprocAttr,g1,a1,ld w4 (i _ C),r.isS,r.vlen];refine E8 [25,26] (σ:=Nat×Value) (λs f A=>f 27 = .int .i64 s.1/\f 3=s.2/\s.1<=t.args.length/\B0 (i5 d) A 9 s.2 (o0++ak4 t.x++(t.args.take s.1).flatMap N0)/\o6 d A) (λs=>t.args.length-s.1) (0,u4) ?_ ?_
  .exact⟨rfl,rfl,ek1 _,by simpa using a2,C⟩
  .rintro⟨k,u⟩ f w5 T ⟨g,h3,aq,j,M⟩;simp only at g h3 aq j;simp only[em0,B8,↓reduceIte,Nat.reduceEqDiff]at T;obtain⟨al,am,_⟩:=T;simp only[eS,simprocAttr,g,am];refine A3 (λq=>?_) ?_
   .have ap:=r.inS q;obtain⟨sv,J,U⟩:=H1 (P:=prog) (t:=125) r (b7 (l.trans M)) (ej0 q) aU8 aV0 aO4 ad0;rw[ad0]at U;have L:=J9 N0 t.args q;have ab:=aY7 (ek0 q);have aI:((t.args.take k).flatMap N0).length<=aj1 t.args:=ej7 (Q7 _) (aD6 _ _);have c:((t.args.take (k+1)).flatMap N0).length<=aj1 t.args:=ej7 (Q7 _) (aD6 _ _);rw[L]at c;generalize t.args[k]=y at J L ab c;have B:N0 y=(if y.ref then[y.name]else[])++ak4 y.x:=rfl;rw[B]at c;simp only[ej2]at c;obtain⟨b,wz,w6,Q,Y,ae,an⟩:=cM5 (w:=w5) (A5 u) J (λb p=>j.lt p);obtain⟨uy,aa,F,aw,_⟩:=L8.ar J an;obtain⟨ay,_⟩:=L8.ex_v aa F;have I:=j.ext ae;have D:=M.trans ae;have l6:=aw w6 (B4 _ _);simp only[n8,n9,A0,simprocAttr,g,al,ap,U,Q,Y,l6];generalize hK:CW prog _ (ac6 1 (ae9 _ _))=K;have af:∀(u7:Value) (O:Fr) (E:World),O 3=u7->O 5 = .pointer (some b)->O 27 = .int .i64 k->B0 (i5 d) E 9 u7 (o0++ak4 t.x++(t.args.take k).flatMap N0++(if y.ref then[y.name]else[]))->p6 (A5 u) w6 E->K O E:=by
     intro u7 O E q3 q5 aE W V;have m:o6 d E:=p6.ext_of D V λb p=>C9 (I.free p);have az:=ay E (F3 V);rw[<-hK];simp only[eS,simprocAttr,q3,q5,az];refine y4 (az6 uy y.x E (aa.mono (b7 (l.trans m))) (by unfold av6 at ab;omega)) ?_;rintro u8 w8 ⟨au,o⟩;obtain⟨u9,w9,c1,c2,c3,c4⟩:=ae6 (P:=prog) (e:=22) aC9 (W.ext o) (au.rw_ (b7 o)) (n7 _) (by simp only[ej2];omega) (by simp only[ej2];omega) (b7 (m.trans o));have ad:o6 d w9:=p6.ext_of (m.trans o) c3 λb p=>C9 ((W.ext o).free p);simp only[eS,simprocAttr,c1,aE];refine nx4 (k+1,u9) ⟨?_,ad⟩;simp only[];rw[L,B];simp only[el9]at c2 ⊢;exact c2
    cases hr:y.ref
    .simp only[n8,simprocAttr];refine af u _ _ ?_ ?_ ?_ (by rw[hr];simpa using I) (p6.refl _)<;>simp only[B8,↓reduceIte,Nat.reduceEqDiff,h3,g]
    .obtain⟨p1,u7,E,p2,p3,p4,p5⟩:=push (e:=22) aC9 rfl I (x:=t8 y.name) (y:=y.name) rfl (by simp only[ej2];omega) (by simp only[ej2];omega) (b7 D);simp only[eS,simprocAttr,h3,l6,p1,p2];refine af u7 _ _ ?_ ?_ ?_ (by rw[hr];exact p3) p4<;>simp only[B8,↓reduceIte,Nat.reduceEqDiff,g]
   .rintro rfl;simp only[n8,simprocAttr,h3];refine o8 results176 ?_;simp only[B8,simprocAttr];rw[ek4]at j;exact⟨by rw[X];exact j.back l,l.trans M⟩
def cy2(v:Value)(s:St)(w:World)(hv:SV (i5 w) v s)(hb:V7 s<=1000000):y5 prog 186 #[v] w λu w'=>(u = .bool (aa8 s)/\o6 w w'):=by
 refine z6 [v] func186 rfl ?_;obtain⟨a,e,ab,hx,ha⟩:=ax0 hv (n7 _);obtain⟨vl,va,vt,ve,hl,y,ht,he,E,ld,sd⟩:=ha.st;have d:=hx.trans (o6.drew e);have C:=ld e.drew (b7 (o6.drew e));have s1:=sd (λw2=>o6 e.drew w2) e.drew (p6.refl _) (λw' h=>b7 ((o6.drew e).trans h));simp only[eS,simprocAttr,ab];refine C0 (λw2=>o6 e.drew w2) 8 (A7 [0,1,2,3,4,5,6,7]) ?_;simp only[D7,A7,n8,n9,simprocAttr,s1];simp only[eS,simprocAttr,C];generalize hK:CW prog _ (bz6 prog _ _)=K;have Y:=y.isS;have ac:=y.vlen;have Z:=ht.isS;have ad:=ht.vlen;have aa:=he.isS;have ae:=he.vlen;have c1:decide ((0:Int)<((s.args.length:Nat):Int))=decide (0<s.args.length):=eo4.2 om;have c2:decide ((0:Int)<((s.thn.length:Nat):Int))=decide (0<s.thn.length):=eo4.2 om;have c3:decide ((0:Int)<((s.els.length:Nat):Int))=decide (0<s.els.length):=eo4.2 om;have b:∀(k:Fl) (f:Fr),ad3 s=some k->f 1 = .pointer (some a)->f 3 = .bool k.name->f 4 = .bool k.proc->f 5 = .bool k.x->f 6 = .bool k.has->f 7 = .bool k.thn->f 8 = .bool k.els->f 9 = .bool (decide (s.kind=4))->K f e.drew:=by
  rintro⟨O,P,Q,M,th,el⟩ f hk r H I J R g7 g8 g9;simp only at H I J R g7 g8;have x:aa8 s=(!(M||(!th&&decide (0<s.thn.length))||(!el&&decide (0<s.els.length))||(!decide (s.kind=4)&&decide (0<s.args.length))) &&
   ae3 s.name O&&ae3 s.proc P&&ar3 s.x Q&&aW3 s.args):=by rw[aa8,hk]
  clear hk;generalize decide (s.kind=4)=ar at x g9;rw[<-hK,bB8];generalize X:CW prog _ (bz6 prog _ _)=K2;have A:∀(f:Fr),f 1 = .pointer (some a)->f 3 = .bool O->f 4 = .bool P->f 5 = .bool Q->(M||(!th&&decide (0<s.thn.length))||(!el&&decide (0<s.els.length))||(!ar&&decide (0<s.args.length)))=false->K2 f e.drew:=by
   intro f r H I J S;rw[S]at x;rw[<-X]
   .simp only[eS,simprocAttr,r,H,C];refine y4 (bq5 s.name O _) ?_;rintro u w3 ⟨rfl,rfl⟩;cases i:ae3 s.name O
    .simp only[eS,simprocAttr];refine o8 results186 ?_;simp only[B8,simprocAttr];exact⟨by rw[x,i];rfl,d⟩
    simp only[eS,simprocAttr,r,I,C];refine y4 (bq5 s.proc P _) ?_;rintro u w3 ⟨rfl,rfl⟩;cases l:ae3 s.proc P
    .simp only[eS,simprocAttr];refine o8 results186 ?_;simp only[B8,simprocAttr];exact⟨by rw[x,i,l];rfl,d⟩
    obtain⟨sx,af,lx,_⟩:=E.ex_v;simp only[eS,simprocAttr,r,J,lx e.drew (b7 (o6.drew e))];refine y4 (bX1 sx s.x Q _ (af.mono (b7 (o6.drew e)))) ?_;rintro u w3 ⟨rfl,n⟩;cases t:ar3 s.x Q
    .simp only[eS,simprocAttr];refine o8 results186 ?_;simp only[B8,simprocAttr];exact⟨by rw[x,i,l,t];rfl,d.trans n⟩
    simp only[eS,simprocAttr,r,ld w3 (b7 ((o6.drew e).trans n))];refine y4 (cz3 va s.args _ (A6.mono (b7 ((o6.drew e).trans n)) y) (by have:=az3 s.args;rw[X3]at hb;omega)) ?_;rintro u w4 ⟨rfl,ag⟩;simp only[n8,simprocAttr];refine o8 results186 ?_;simp only[B8,simprocAttr];exact⟨by rw[x,i,l,t];simp,d.trans (n.trans ag)⟩
  have D:(M||(!th&&decide (0<s.thn.length))||(!el&&decide (0<s.els.length))||(!ar&&decide (0<s.args.length)))=true->aa8 s=false:=λh=>by rw[x,h];rfl
  cases M
  case true=>
   simp only[n8,simprocAttr,R];refine o8 results186 ?_;simp only[B8,simprocAttr];exact⟨by rw[D rfl],d⟩
  cases th<;>cases d2:decide (0<s.thn.length)<;>cases el<;>cases d3:decide (0<s.els.length)<;>cases ar<;>cases d1:decide (0<s.args.length) <;>
  .rw[d1]at c1;rw[d2]at c2;rw[d3]at c3;simp only[eS,simprocAttr,r,R,g7,g8,g9,C,Y,ac,Z,ad,aa,ae,c1,c2,c3]
   first
   | refine A _ ?_ ?_ ?_ ?_ (by rw[d1,d2,d3];rfl)<;>simp only[B8,↓reduceIte,Nat.reduceEqDiff,r,H,I,J]
   | refine o8 results186 ?_
     simp only[B8,simprocAttr];exact⟨by rw[D (by rw[d1,d2,d3];rfl)],d⟩
 have N:∀m:Int,m≠4->decide (s.kind=m)=true->decide (s.kind=4)=false:=λm hm h=>by
  have:=ej3 h;exact er7 om
 refine A8 (λi=>?_) (λi=>?_)
 .have c:=N 1 om i;have g:=ej3 i;simp only[n8,simprocAttr,c];refine b ⟨true,false,true,s.has,false,false⟩ _ (by rw[ad3,if_pos g]) ?_ ?_ ?_ ?_ ?_ ?_ ?_ ?_<;>simp only[B8,↓reduceIte,Nat.reduceEqDiff,c]
 have g:=ej6 i;simp only[eS,simprocAttr];refine A8 (λl=>?_) (λl=>?_)
 .have c:=N 2 om l;have k2:=ej3 l;simp only[n8,simprocAttr,l,c];refine b ⟨true,false,false,s.has,false,false⟩ _ (by rw[ad3,if_neg g,if_pos (.inl k2)]) ?_ ?_ ?_ ?_ ?_ ?_ ?_ ?_<;>simp only[B8,↓reduceIte,Nat.reduceEqDiff,c]
 have k2:=ej6 l;simp only[eS,simprocAttr];refine A8 (λj=>?_) (λj=>?_)
 .have c:=N 10 om j;have F:=ej3 j;simp only[n8,simprocAttr,c];refine b ⟨true,false,false,s.has,false,false⟩ _ (by rw[ad3,if_neg g,if_pos (.inr F)]) ?_ ?_ ?_ ?_ ?_ ?_ ?_ ?_<;>simp only[B8,↓reduceIte,Nat.reduceEqDiff,c]
 have F:=ej6 j;have q:¬(s.kind=2\/s.kind=10):=om
 simp only[eS,simprocAttr];refine A8 (λt=>?_) (λt=>?_)
 .have c:=N 3 om t;have o:=ej3 t;simp only[n8,simprocAttr,c];refine b ⟨false,false,true,s.has,false,false⟩ _ (by rw[ad3,if_neg g,if_neg q,if_pos o]) ?_ ?_ ?_ ?_ ?_ ?_ ?_ ?_<;>simp only[B8,↓reduceIte,Nat.reduceEqDiff,c]
 have o:=ej6 t;simp only[eS,simprocAttr];refine A8 (λc=>?_) (λc=>?_)
 .have p:=ej3 c;simp only[eS,simprocAttr,C];refine b ⟨decide (s.name≠e0),true,false,s.has,false,false⟩ _ (by rw[ad3,if_neg g,if_neg q,if_neg o,if_pos p]) ?_ ?_ ?_ ?_ ?_ ?_ ?_ ?_<;>simp only[B8,↓reduceIte,Nat.reduceEqDiff,c,decide_not]
 have p:=ej6 c;simp only[eS,simprocAttr];refine A8 (λT=>?_) (λT=>?_)
 .have z:=ej3 T;simp only[n8,simprocAttr];refine b ⟨false,false,true,s.has,true,true⟩ _ (by rw[ad3,if_neg g,if_neg q,if_neg o,if_neg p,if_pos z]) ?_ ?_ ?_ ?_ ?_ ?_ ?_ ?_<;>simp only[B8,↓reduceIte,Nat.reduceEqDiff,c]
 have z:=ej6 T;simp only[eS,simprocAttr];refine A8 (λU=>?_) (λU=>?_)
 .have B:=ej3 U;simp only[n8,simprocAttr];refine b ⟨false,false,true,s.has,true,false⟩ _ (by rw[ad3,if_neg g,if_neg q,if_neg o,if_neg p,if_neg z,if_pos B]) ?_ ?_ ?_ ?_ ?_ ?_ ?_ ?_<;>simp only[B8,↓reduceIte,Nat.reduceEqDiff,c]
 have B:=ej6 U;simp only[eS,simprocAttr];refine A8 (λW=>?_) (λW=>?_)
 .have G:=ej3 W;simp only[eS,simprocAttr,C];refine b ⟨false,false,s.has,false,false,false⟩ _ (by rw[ad3,if_neg g,if_neg q,if_neg o,if_neg p,if_neg z,if_neg B,if_pos G]) ?_ ?_ ?_ ?_ ?_ ?_ ?_ ?_<;>simp only[B8,↓reduceIte,Nat.reduceEqDiff,c]
 have G:=ej6 W;simp only[eS,simprocAttr];refine A8 (λL=>?_) (λL=>?_)
 .have k7:=ej3 L;simp only[n8,simprocAttr,L];refine b ⟨false,false,false,s.has,false,false⟩ _ (by rw[ad3,if_neg g,if_neg q,if_neg o,if_neg p,if_neg z,if_neg B,if_neg G,if_pos (.inl k7)]) ?_ ?_ ?_ ?_ ?_ ?_ ?_ ?_<;>simp only[B8,↓reduceIte,Nat.reduceEqDiff,c]
 have k7:=ej6 L;simp only[eS,simprocAttr];refine A8 (λV=>?_) (λV=>?_)
 .have k8:=ej3 V;simp only[n8,simprocAttr];refine b ⟨false,false,false,s.has,false,false⟩ _ (by rw[ad3,if_neg g,if_neg q,if_neg o,if_neg p,if_neg z,if_neg B,if_neg G,if_pos (.inr k8)]) ?_ ?_ ?_ ?_ ?_ ?_ ?_ ?_<;>simp only[B8,↓reduceIte,Nat.reduceEqDiff,c]
 have k8:=ej6 V;simp only[n8,simprocAttr];refine o8 results186 ?_;simp only[B8,simprocAttr];exact⟨by rw[aa8,show ad3 s=none by rw[ad3,if_neg g,if_neg q,if_neg o,if_neg p,if_neg z,if_neg B,if_neg G,if_neg om]],d⟩
def aJ4(d:Nat)(n:Int)(s:St):Option Int:=if n+1>200\/s.id≠n+1\/ak3 s.labels=false\/aa8 s=false then none else(L3 d s.thn (n+1)).bind λm=>L3 d s.els m
theorem bd5(d:Nat)(l:List St)(n:Int):L3 (d+1) l n=l.foldlM (aJ4 d) n:=rfl
def bw2{α β:Type}(g:β->α->Option β)(l:List α)(n:β){k:Nat}(a:k<l.length){m:β}(h:(l.take k).foldlM g n=some m):(l.take (k+1)).foldlM g n=g m l[k]:=by
 rw[ej8 a,List.foldlM_append,h];simp
def bw1{α β:Type}(g:β->α->Option β)(l:List α)(n:β){k:Nat}(b:k<l.length){m:β}(h:(l.take k).foldlM g n=some m)(a:g m l[k]=none):l.foldlM g n=none:=by
 conv=>lhs;rw[<-en4 k l,eo1 b]
 rw[List.foldlM_append,h];show(do let s <-g m l[k];List.foldlM g s (l.drop (k+1)))=none;rw[a];rfl
def bk9:∀(d:Nat) (l:List St) (n m:Int),L3 d l n=some m->n<=m/\(n<=200->m<=200)
 | 0,l,n,m,h=>by
  unfold L3 at h;split at h
  .simp only[eu0]at h;subst h;exact⟨Int.le_refl _,λh=>h⟩
  .cases h
 | d+1,l,n,m,h=>by
  rw[bd5]at h
  induction l generalizing n with
  | nil=>simp only[List.foldlM_nil]at h;cases h;exact⟨Int.le_refl _,λh=>h⟩
  | cons s l a=>
   rw[List.foldlM_cons]at h;cases hs:aJ4 d n s with
   | none=>rw[hs]at h;cases h
   | some b=>
    rw[hs]at h;have c:=a b h;unfold aJ4 at hs;split at hs
    .cases hs
    .rename_i g;cases ht:L3 d s.thn (n+1)with
     | none=>rw[ht]at hs;cases hs
     | some i=>
      rw[ht]at hs;have e:=bk9 d _ _ _ ht;have f:=bk9 d _ _ _ hs;omega
def bJ1:∀(d:Nat) (l:List St) (n:Int) (v:Value) (h:Hp) (c:Nat) (w:World),d<=12->E2 h (i5 w)->h c=none->w.heap[c]?=some (.cells #[.int .i64 n] 176 (0,0))->R h v l->K0 l<=1000000->0<=n->n<=200 ->
  y5 prog 116 #[.pointer (some ⟨c,0,none⟩),v,.int .i64 (13-(d:Int))] w λu j=>(u = .bool (L3 d l n).isSome/\(∀m,L3 d l n=some m->j.heap[c]?=some (.cells #[.int .i64 m] 176 (0,0)))/\p6 (λb=>b=c) w j)
 | 0,l,n,v,h,c,w,_,hh,hgb,hcell,hv,_,_,_=>by
  generalize hN:(13:Int)-((0:Nat):Int)=N;refine z6 [.pointer (some ⟨c,0,none⟩),v,.int .i64 N] func116 rfl ?_;have hS:=hv.isS;have hn:=hv.vlen;have d0:decide ((12:Int)<N)=true:=by subst hN;decide
  have c0:decide ((0:Int)<((l.length:Nat):Int))=decide (0<l.length):=eo4.2 om;cases hl:decide (0<l.length)
  .have U:l.length=0:=by simpa using hl
   have c1:decide ((0:Int)<((l.length:Nat):Int))=false:=c0.trans hl;simp only[eS,simprocAttr,hS,hn,d0,c1];refine A9 [16,17] (σ:=Nat) (λk f j=>f 18 = .int .i64 0/\j=w) (λ_=>0) 0 ?_ ?_
   .exact⟨rfl,rfl⟩
   .rintro k f j ⟨aa,S,_⟩ ⟨q,rfl⟩;simp only[eS,simprocAttr,q,S,c1];refine o8 results116 ?_;simp only[B8,simprocAttr];have e:L3 0 l n=some n:=by unfold L3;rw[if_pos U]
    exact⟨by rw[e];rfl,λm hm=>by rw[e]at hm;cases hm;exact hcell,p6.refl _⟩
  .have U:¬l.length=0:=by have:0<l.length:=by simpa using hl
                          omega
   simp only[eS,simprocAttr,hS,hn,d0,c0,hl];refine o8 results116 ?_;simp only[B8,simprocAttr];have e:L3 0 l n=none:=by unfold L3;rw[if_neg U]
   exact⟨by rw[e];rfl,λm hm=>(by rw[e]at hm;cases hm),p6.refl _⟩
 | d+1,l,n,v,h,c,w,hd,hh,hgb,hcell,hv,hwt,hn0,hn2=>by
  generalize hN:(13:Int)-((d+1:Nat):Int)=N;refine z6 [.pointer (some ⟨c,0,none⟩),v,.int .i64 N] func116 rfl ?_;have d0:decide ((12:Int)<N)=false:=by simp;omega
  have C:IntKind.i64.wrap (N+1)=13-(d:Int):=by rw[M7 _ om];omega
  simp only[eS,simprocAttr,hv.isS,hv.vlen,d0];refine A9 [0,2,16,17] (σ:=Nat×Int) (λs f j=>f 18 = .int .i64 s.1/\s.1<=l.length/\(l.take s.1).foldlM (aJ4 d) n=some s.2/\0<=s.2/\s.2<=200/\j.heap[c]?=some (.cells #[.int .i64 s.2] 176 (0,0))/\p6 (λb=>b=c) w j) (λs=>l.length-s.1) (0,n) ?_ ?_
  .exact⟨rfl,ek1 _,dP,hn0,hn2,hcell,p6.refl _⟩
  .rintro⟨k,m⟩ f w1 ⟨e0,e2,aa,S,_⟩ ⟨q,av,g,ax,ay,I,X⟩;simp only at q av g ax ay I;simp only[eS,simprocAttr,q,S];refine A3 (λB=>?_) ?_
   .have au:=hv.inS B;have af:E2 h (i5 w1):=G4 hh X λb hb=>by subst hb;exact hgb
    have ae:c<w1.heap.size:=(ej4.1 I).1;have ao:∀b,b=c->b<w1.heap.size:=λb hb=>by subst hb;exact ae
    obtain⟨sv,ah,ag⟩:=H1 (P:=prog) (t:=113) hv af (ej0 B) be4 be7 aO3 af3;rw[af3]at ag;have E:=bw2 (aJ4 d) l n B g;have D:=bw1 (aJ4 d) l n B g;have J:V7 l[k]<=1000000:=ej7 (ar5 (ek0 B)) hwt;generalize l[k]=s at ah E D J;obtain⟨a,wz,Y,ap,aH,aj,ab⟩:=dY1 (P:=prog) (T:=113) (N:=λb=>b=c) ah (dg4 af λb hb=>by subst hb;exact hgb) ao cE8 rfl af3;have ad:Y.heap[c]?=some (.cells #[.int .i64 m] 176 (0,0)):=(aj.block c ae id).trans I;obtain⟨H,aF,r,aK⟩:=ad7 (P:=prog) (t:=3) (i:=0) (x:=.int .i64 (m+1)) ad dP rfl rfl (A4 aG4).choose_spec.1 (by rw[<-F0 (A4 aG4).choose_spec.1];exact bm5);simp only[Array.setIfInBounds,et4,em1,ep7,en0,Nat.lt_add_one,↓reduceDIte,List.set_toArray,List.set_cons_zero]at r;have aw:=F4 (P:=prog) (t:=3) (i:=0) (u:=.int .i64 m) ad rfl K1;have aJ:IntKind.i64.wrap (m+1)=m+1:=M7 _ om;have F:=aK.trans ((o6.drew H).weaken (N:=λb=>b=c) λ_ _ h=>h.elim);have W:E2 (D0 Y λb=>b=c) (i5 H.drew):=F3 F;obtain⟨vl,va,vt,ve,aD,a1,aE,aC,aU,ld,sd⟩:=ab.st;obtain⟨ss,aG,a3,aN⟩:=ab.st_v;have O:∀j,o6 H.drew j->E2 (D0 Y λb=>b=c) (i5 j):=λj h=>p7 W (b7 h);have s3:=sd (λj=>o6 H.drew j) H.drew (p6.refl _) O;have s4:=aN (λj=>o6 H.drew j) H.drew (p6.refl _) O;have V:∀K f d w,F8 prog (λj=>o6 H.drew j) (Instr.loadAt 3 (.pointer (some ⟨c,0,none⟩))) K f d w=K (C5 f d (.int .i64 (m+1))) w:=λK f d w=>B7 (w0:=H.drew) (p6.refl _) λj aI=>F4 (i:=0) ((aI.block c (ej4.1 r).1 id).trans r) rfl K1;have o:p6 (λb=>b=c) w H.drew:=X.trans ((aj.weaken λ_ _ h=>h.elim).trans F);simp only[n8,n9,A0,simprocAttr,q,e0,aa,au,ag,ap,aH,aw,aJ,aF];refine C0 (λj=>o6 H.drew j) 25 (A7 [0,1,2,3,4,5,6,7,8,9,10,11,12,13,14,15,16,17,18,19,20,21,22,23,24]) ?_;have p:aJ4 d m s=none->L3 (d+1) l n=none:=λh=>by rw[bd5];exact D h
    cases b1:decide ((200:Int)<m+1)
    case true=>
     simp only[D7,A7,n8,n9,simprocAttr,e0,V,b1];refine o8 results116 ?_;simp only[B8,simprocAttr];have e:=p (by rw[aJ4,if_pos (.inl (by simpa using b1))]);exact⟨by rw[e];rfl,λm hm=>(by rw[e]at hm;cases hm),o⟩
    cases b2:decide (s.id=m+1)
    case false=>
     simp only[D7,A7,n8,n9,simprocAttr,e0,V,s3,b1,b2];refine o8 results116 ?_;simp only[B8,simprocAttr];have e:=p (by rw[aJ4,if_pos (.inr (.inl (by simpa using b2)))]);exact⟨by rw[e];rfl,λm hm=>(by rw[e]at hm;cases hm),o⟩
    simp only[D7,A7,n8,n9,simprocAttr,e0,V,s3,b1,b2];refine y4 (aX4 vl s.labels _ (A6.mono W aD) (by have:=ac0 s.labels;rw[X3]at J;omega)) ?_;rintro u w4 ⟨rfl,rfl⟩;cases b3:ak3 s.labels
    case false=>
     simp only[D7,n8,n9,simprocAttr,G0];refine⟨p6.refl _,?_⟩;refine o8 results116 ?_;simp only[B8,simprocAttr];have e:=p (by rw[aJ4,if_pos (.inr (.inr (.inl b3)))]);exact⟨by rw[e];rfl,λm hm=>(by rw[e]at hm;cases hm),o⟩
    simp only[D7,n8,n9,simprocAttr,G0,s4];refine⟨p6.refl _,?_⟩;refine y4 (cy2 ss s _ (aG.mono W) J) ?_;rintro u Z ⟨rfl,G⟩;have Q:p6 (λb=>b=c) Y Z:=F.trans (G.weaken λ_ _ h=>h.elim);have y:p6 (λb=>b=c) w Z:=o.trans (G.weaken λ_ _ h=>h.elim);cases b4:aa8 s
    case false=>
     simp only[D7,n8,n9,simprocAttr,G0];refine⟨G,?_⟩;refine o8 results116 ?_;simp only[B8,simprocAttr];have e:=p (by rw[aJ4,if_pos (.inr (.inr (.inr b4)))]);exact⟨by rw[e];rfl,λm hm=>(by rw[e]at hm;cases hm),y⟩
    have hK:aJ4 d m s=(L3 d s.thn (m+1)).bind λm=>L3 d s.els m:=by
     rw[aJ4,if_neg];simp only[ew5]at b1;have am:s.id=m+1:=by simpa using b2
     rintro(h|h|h|h)
     .exact b1 h
     .exact h am
     .rw[b3]at h;cases h
     .rw[b4]at h;cases h
    have az:m+1<=200:=by have:=ej6 b1;omega
    have aq:Z.heap[c]?=some (.cells #[.int .i64 (m+1)] 176 (0,0)):=(G.block c (ej4.1 r).1 id).trans r;have L:E2 (D0 Y λb=>b=c) (i5 Z):=F3 Q;have l5:=ld Z L;rw[X3]at J;simp only[D7,n8,n9,simprocAttr,G0];refine⟨G,?_⟩;simp only[eS,simprocAttr,e0,e2,l5,C];refine y4 (bJ1 d s.thn (m+1) vt _ c Z om L (G1 rfl) aq aE om om az) ?_;rintro u w6 ⟨rfl,aA,ak⟩;have z:=y.trans ak;cases ht:L3 d s.thn (m+1)with
    | none=>
     simp only[eS,simprocAttr,Option.isSome_none];refine o8 results116 ?_;simp only[B8,simprocAttr];have e:=p (by rw[hK,ht];rfl);exact⟨by rw[e];rfl,λm hm=>(by rw[e]at hm;cases hm),z⟩
    | some m6=>
     have ar:=aA m6 ht;have aV:=bk9 d _ _ _ ht;have M:E2 (D0 Y λb=>b=c) (i5 w6):=F3 (Q.trans ak);simp only[eS,simprocAttr,e0,e2,ld w6 M,C];refine y4 (bJ1 d s.els m6 ve _ c w6 om M (G1 rfl) ar aC om om om) ?_;rintro u w7 ⟨rfl,aB,aL⟩;have A:=z.trans aL;cases he:L3 d s.els m6 with
     | none=>
      simp only[eS,simprocAttr,Option.isSome_none];refine o8 results116 ?_;simp only[B8,simprocAttr];have e:=p (by rw[hK,ht];exact he);exact⟨by rw[e];rfl,λm hm=>(by rw[e]at hm;cases hm),A⟩
     | some m7=>
      have aW:=bk9 d _ _ _ he;simp only[eS,simprocAttr,q];exact⟨(k+1,m7),om,by rw[J2 k (by have:=bX8 l;omega)],om,by rw[E,hK,ht];exact he,om,om,aB m7 he,A⟩
   .rintro rfl;simp only[n8,simprocAttr];refine o8 results116 ?_;simp only[B8,simprocAttr];rw[ek4]at g;have e:L3 (d+1) l n=some m:=by rw[bd5];exact g
    exact⟨by rw[e];rfl,λm' hm=>by rw[e]at hm;cases hm;exact I,X⟩
def dc2:C1 prog 176 []=some (.agg #[.int .i64 0]):=by
 simp[C1,dL0,K7,Instr.fill]
def dH2(w:World):∃a b,(Instr.box 176 (.agg #[.int .i64 0])).run prog w = .ok (.pointer (some ⟨a,0,none⟩)) b/\o6 w b/\b.heap[a]?=some (.cells #[.int .i64 0] 176 (0,0))/\w.heap.size<=a:=
 ⟨_,_,rfl,o6.alloc _ _,em9 w _,ek6 _⟩
def cF8(v:Value)(p:Pg)(w:World)(hv:SV (i5 w) v p)(a3:C4 p<=1000000):y5 prog 77 #[v] w λu E=>(u = .bool (O6 p)/\o6 w E):=by
 refine z6 [v] func77 rfl ?_;obtain⟨a,U,aa,hx,ha⟩:=U2 hv (n7 _);obtain⟨vg,vp,hg,hp,ld,sd⟩:=ha.pg;have l1:=ld U (n7 _);have W:=hg.isS;have ad:=hg.vlen;have X:=hp.isS;have ae:=hp.vlen;have c1:decide ((16:Int)<((p.globals.length:Nat):Int)) = !decide (p.globals.length<=16):=by
  rw[<-decide_not];exact eo4.2 om
 have c2:decide ((16:Int)<((p.procs.length:Nat):Int)) = !decide (p.procs.length<=16):=by
  rw[<-decide_not];exact eo4.2 om
 cases h1:decide (p.globals.length<=16)
 .rw[h1]at c1;simp only[eS,simprocAttr,aa,l1,W,ad,c1];refine o8 results77 ?_;simp only[B8,simprocAttr];exact⟨by rw[O6,h1];rfl,hx⟩
 cases h2:decide (p.procs.length<=16)
 .rw[h1]at c1;rw[h2]at c2;simp only[eS,simprocAttr,aa,l1,W,ad,X,ae,c1,c2];refine o8 results77 ?_;simp only[B8,simprocAttr];exact⟨by rw[O6,h1,h2];rfl,hx⟩
 rw[h1]at c1;rw[h2]at c2;simp only[eS,simprocAttr,aa,l1,W,ad,X,ae,c1,c2];refine F6 (aX4 vg p.globals _ hg (by have:=ej3 h1;omega)) ?_;cases h3:ak3 p.globals
 .simp only[eS,simprocAttr];refine o8 results77 ?_;simp only[B8,simprocAttr];exact⟨by rw[O6,h1,h2,h3];rfl,hx⟩
 obtain⟨r,w3,aU,aG,aV,ar⟩:=dH2 U;have av:i5 U r=none:=aW5 ar;have hF:O6 p=(p.procs.foldlM (λn f=>Z9 f n) 0).isSome:=by rw[O6,h1,h2,h3];rfl
 simp only[eS,simprocAttr,dc2,aU,ld w3 (b7 aG),X,ae];refine A9 [3,27,28] (σ:=Nat×Int) (λs f E=>f 29 = .int .i64 s.1/\s.1<=p.procs.length/\(p.procs.take s.1).foldlM (λn f=>Z9 f n) 0=some s.2/\0<=s.2/\s.2<=200/\E.heap[r]?=some (.cells #[.int .i64 s.2] 176 (0,0))/\p6 (λb=>b=r) U E) (λs=>p.procs.length-s.1) (0,0) ?_ ?_
 .exact⟨rfl,ek1 _,dP,dP,dP,aV,aG.weaken λ_ _ h=>h.elim⟩
 .rintro⟨k,m⟩ f w4 ⟨e3,G,am,_⟩ ⟨x,aZ,d,ax,ay,ab,ah⟩;simp only at x aZ d ax ay ab;have o:∀E,p6 (λb=>b=r) U E->o6 w E:=λE h=>hx.trans (p6.ext_of (p6.refl _) h λb Z=>by subst Z;exact ar);simp only[eS,simprocAttr,x,am];refine A3 (λB=>?_) ?_
  .have ac:=hp.inS B;have aw:E2 (i5 U) (i5 w4):=G4 (n7 _) ah λb Z=>by subst Z;exact av
   have au:r<w4.heap.size:=(ej4.1 ab).1;have aS:∀b,b=r->b<w4.heap.size:=λb Z=>by subst Z;exact au
   obtain⟨sv,aD,J⟩:=H1 (P:=prog) (t:=68) hp aw (ej0 B) aD3 aD5 aw4 U0;rw[U0]at J;have D:=bw2 (λn f=>Z9 f n) p.procs 0 B d;have C:=bw1 (λn f=>Z9 f n) p.procs 0 B d;have aF:ad1 p.procs[k]<=1000000:=ej7 (az4 (ek0 B)) (by unfold C4 at a3;omega);generalize p.procs[k]=q at aD D C aF;obtain⟨b,wz,w5,Y,ag,aH,aT⟩:=dY1 (P:=prog) (T:=68) (N:=λb=>b=r) aD (dg4 aw λb Z=>by subst Z;exact av) aS dq4 rfl U0;obtain⟨va,vv,vb,ve,L,af,a1,a2,aJ,_⟩:=aT.pr;have i:E2 (D0 w5 λb=>b=r) (i5 w5):=B4 _ _;have l5:=aJ w5 i;have Q:p6 (λb=>b=r) U w5:=ah.trans (aH.weaken λ_ _ h=>h.elim);have e:=o w5 Q;have H:=L.isS;have K:=L.vlen;have ao:=af.isS;have az:=af.vlen;have g:Z9 q m=none->O6 p=false:=λh=>by rw[hF,C h];rfl
   unfold ad1 at aF;have z:decide ((8:Int)<((q.params.length:Nat):Int))=decide (8<q.params.length):=eo4.2 om;have F:decide ((16:Int)<((q.vars.length:Nat):Int))=decide (16<q.vars.length):=eo4.2 om;cases b1:decide (8<q.params.length)
   case true=>
    rw[b1]at z;simp only[n8,n9,A0,simprocAttr,x,G,ac,J,Y,ag,l5,H,K,z];refine o8 results77 ?_;simp only[B8,simprocAttr];exact⟨by rw[g (by rw[Z9,if_pos (.inl (ej3 b1))])],e⟩
   rw[b1]at z;cases b2:decide (16<q.vars.length)
   case true=>
    rw[b2]at F;simp only[n8,n9,A0,simprocAttr,x,G,ac,J,Y,ag,l5,H,K,ao,az,z,F];refine o8 results77 ?_;simp only[B8,simprocAttr];exact⟨by rw[g (by rw[Z9,if_pos (.inr (.inl (ej3 b2)))])],e⟩
   rw[b2]at F;simp only[n8,n9,A0,simprocAttr,x,G,ac,J,Y,ag,l5,H,K,ao,az,z,F];refine F6 (aR3 q.name _) ?_;cases b3:V0 q.name
   .simp only[eS,simprocAttr];refine o8 results77 ?_;simp only[B8,simprocAttr];exact⟨by rw[g (by rw[Z9,if_pos (.inr (.inr (.inl b3)))])],e⟩
   simp only[eS,simprocAttr,l5];refine F6 (aX4 vv q.vars _ (A6.mono i af) (by have:=ac0 q.vars;omega)) ?_;cases b4:ak3 q.vars
   .simp only[eS,simprocAttr];refine o8 results77 ?_;simp only[B8,simprocAttr];exact⟨by rw[g (by rw[Z9,if_pos (.inr (.inr (.inr (.inl b4))))])],e⟩
   simp only[eS,simprocAttr,l5];refine F6 (aX4 ve q.fin _ (A6.mono i a2) (by have:=ac0 q.fin;omega)) ?_;cases b5:ak3 q.fin
   .simp only[eS,simprocAttr];refine o8 results77 ?_;simp only[B8,simprocAttr];exact⟨by rw[g (by rw[Z9,if_pos (.inr (.inr (.inr (.inr (.inl b5)))))])],e⟩
   have bh:=ar4 q.params;simp only[eS,simprocAttr,l5,H,K];refine A9 [3,5,27,28,29,62,63] (σ:=Nat) (λj f E=>f 64 = .int .i64 j/\j<=q.params.length/\(q.params.take j).all (λa=>V0 a.name)=true/\o6 w5 E) (λj=>q.params.length-j) 0 ?_ ?_
   .exact⟨rfl,ek1 _,dP,p6.refl _⟩
   .rintro j f7 w7 ⟨g3,g5,aO,aP,an,aQ,aR,_⟩ ⟨V,bg,A,l⟩;rw[e3]at g3;rw[G]at aO;rw[am]at aP;rw[x]at an;have R:p6 (λb=>b=r) U w7:=Q.trans (l.weaken λ_ _ h=>h.elim);simp only[eS,simprocAttr,V,aR];refine A3 (λI=>?_) ?_
    .have aY:=L.inS I;obtain⟨sa,aB,M⟩:=H1 (P:=prog) (t:=72) L (p7 i (b7 l)) (ej0 I) bL2 bL7 bz0 aD4;rw[aD4]at M;have aE:=aV5 (λa:Pa=>V0 a.name) q.params j I;have O:=ek0 I;generalize q.params[j]=y at aB aE O;obtain⟨c,wy,w8,ap,aC,aI,aq⟩:=aY2 (aB.mono (p7 i (b7 l))) (n7 _);obtain⟨a6,_⟩:=aq.pa;simp only[n8,n9,A0,simprocAttr,V,aQ,aY,M,ap,aC,a6 w8 (n7 _)];refine F6 (aR3 y.name _) ?_;cases b6:V0 y.name
     .simp only[eS,simprocAttr];refine o8 results77 ?_;simp only[B8,simprocAttr];refine⟨by rw[g (by rw[Z9,if_pos (.inr (.inr (.inr (.inr (.inr (aK8 (p:=λa:Pa=>V0 a.name) O b6))))))])],o _ (R.trans (aI.weaken λ_ _ h=>h.elim))⟩
     .simp only[eS,simprocAttr,V];exact V1 (j+1) ⟨by rw[aE,A,b6];rfl,l.trans aI⟩
    .rintro rfl;rw[ek4]at A;have aW:w7.heap[r]?=some (.cells #[.int .i64 m] 176 (0,0)):=((aH.trans l).block r au id).trans ab;have l7:=aJ w7 (p7 i (b7 l));have aA:Z9 q m=L3 12 q.body m:=by
      rw[Z9,if_neg];rintro(h|h|h|h|h|h)
      .exact(ej6 b1) h
      .exact(ej6 b2) h
      .rw[b3]at h;cases h
      .rw[b4]at h;cases h
      .rw[b5]at h;cases h
      .rw[A]at h;cases h
     simp only[eS,simprocAttr,g3,g5,l7];refine y4 (bJ1 12 q.body m vb _ r w7 om (p7 i (b7 l)) (G1 rfl) aW a1 om ax ay) ?_;rintro u w9 ⟨rfl,a0,a4⟩;have S:=R.trans a4;cases hr:L3 12 q.body m with
     | none=>
      simp only[eS,simprocAttr,Option.isSome_none];refine o8 results77 ?_;simp only[B8,simprocAttr];exact⟨by rw[g (by rw[aA,hr])],o _ S⟩
     | some m9=>
      have ba:=bk9 _ _ _ _ hr;simp only[eS,simprocAttr,an];exact⟨(k+1,m9),om,by rw[J2 k (by have:=ej3 h2;omega)],om,by rw[D,aA,hr],om,om,a0 m9 hr,S⟩
  .rintro rfl;simp only[n8,simprocAttr];refine o8 results77 ?_;simp only[B8,simprocAttr];rw[ek4]at d;exact⟨by rw[hF,d];rfl,o _ ah⟩
def ek7:=@List.contains_iff_mem
def dz0(v:Value)(q:Pr)(w:World)(hv:SV (i5 w) v q)(hw:ad1 q<=1000000):y5 prog 120 #[v] w λu r=>(B0 (i5 w) r 9 u (bA0 q)/\o6 w r):=by
 refine z6 [v] func120 rfl ?_;obtain⟨a,L,E,o,V⟩:=bA7 hv (n7 _);obtain⟨va,vv,vb,vf,d,I,_,_,M,_⟩:=V.pr;have Y:=M L (n7 _);have B:=d.isS;have H:=d.vlen;have W:=ar4 q.params;have X:=ac0 q.vars;unfold ad1 at hw;simp only[eS,simprocAttr,E,Y,B,H];refine A9 [1,7,8] (σ:=Nat×Value) (λs f r=>f 9 = .int .i64 s.1/\f 3=s.2/\s.1<=q.params.length/\B0 (i5 L) r 9 s.2 ((q.params.take s.1).map (·.name))/\o6 L r) (λs=>q.params.length-s.1) (0,.slice none 0 0) ?_ ?_
 .exact⟨rfl,rfl,ek1 _,by simpa using B0.nil _ _ _,p6.refl _⟩
 .rintro⟨k,u⟩ f w2 ⟨S,T,U,_⟩ ⟨A,z,G,j,c⟩;simp only at A z G j;simp only[eS,simprocAttr,A,U];refine A3 (λh=>?_) ?_
  .have F:=d.inS h;obtain⟨sv,m,i⟩:=H1 (P:=prog) (t:=72) d (b7 c) (ej0 h) bL2 bL7 bz0 aD4;rw[aD4]at i;have n:(q.params.take (k+1)).map (·.name)=(q.params.take k).map (·.name)++[q.params[k].name]:=by
    rw[ej8 h,em6];rfl
   generalize q.params[k]=y at m n;obtain⟨b,wz,w3,C,J,p,D⟩:=aY2 (m.mono (b7 c)) (n7 _);obtain⟨K,_⟩:=D.pa;have Z:=K w3 (n7 _);have l:=j.ext p;have g:=c.trans p;obtain⟨p1,N,w4,p2,p3,p4,p5⟩:=push (e:=22) aC9 rfl l (x:=t8 y.name) (y:=y.name) rfl (by simp;omega) (by simp;omega) (b7 g);simp only[n8,n9,A0,simprocAttr,A,z,T,F,i,C,J,Z,p1,p2];exact nx4 (k+1,N) ⟨by rw[n];exact p3,l.ext2 g p4⟩
  .rintro rfl;rw[ek4]at j;obtain⟨N,w4,O,Q,R,c4⟩:=ae6 (P:=prog) (e:=22) aC9 j I (b7 c) (by simp;omega) (by simp;omega) (b7 c);simp only[eS,simprocAttr,z,S,M w2 (b7 c),O];exact o8 results120 ⟨Q.back o,o.trans (j.ext2 c R)⟩
def bt1(v:Value)(l:List B3)(w:World)(hv:R (i5 w) v l)(C:l.length<=1000000000):y5 prog 118 #[v] w λu i=>(u = .bool (ai2 l)/\i=w):=by
 refine z6 [v] func118 rfl ?_;have q:=hv.isS;have A:=hv.vcap;simp only[eS,simprocAttr,q,hv.vlen];refine A9 [0,5,6] (σ:=Nat) (λk f i=>f 7 = .int .i64 k/\k<=l.length/\(l.take k).Nodup/\i=w) (λk=>l.length-k) 0 ?_ ?_
 .simp only[B8,simprocAttr];exact⟨tt,ek1 _,dP,tt⟩
 .rintro k f i ⟨e0,t,x,_⟩ ⟨j,z,h,rfl⟩;simp only[eS,simprocAttr,j,x];refine A3 (λc=>?_) ?_
  .have m:=hv.inS c;have n:=ldS hv (n7 _) c;have d:=ch2 hv (ek1 k) (Nat.le_of_lt c);rw[es1]at d;have s:decide ((k:Int)<=(vcap v:Int))=true:=by simp;omega
   have B:A6.sz B3=1:=rfl;rw[B]at d;simp only[n8,n9,A0,M4,simprocAttr,j,e0,t,m,n,q,s];refine F6 (S7 _ (l.take k) l[k] _ d (by rw[ek3];omega)) ?_;cases hq:(l.take k).contains l[k]
   .simp only[eS,simprocAttr,j];refine V1 (k+1) ⟨?_,tt⟩;rw[ej8 c,eo0];refine⟨h,dP,λa y b r=>?_⟩;simp only[ek5]at r;subst r;intro e;subst e;have:=ek7.2 y;rw[hq]at this;cases this
   .simp only[n8,simprocAttr];refine o8 results118 ?_;simp only[B8,simprocAttr];refine⟨?_,tt⟩;have:¬l.Nodup:=λo=>by
     have p:l=l.take k++(l[k]::l.drop (k+1)):=by
      have:=en4 k l;rw[eo1 c]at this;exact this.symm
     have g:=o;rw[p,eo0]at g;exact g.2.2 _ (ek7.1 hq) _ List.mem_cons_self rfl
    simp[ai2,this]
  .rintro rfl;simp only[n8,simprocAttr];refine o8 results118 ?_;simp only[B8,simprocAttr];rw[ek4]at h;exact⟨by simp[ai2,h],tt⟩
def dh9(vp vq:Value)(p:Pg)(q:Pr)(n:B3)(w:World)(hp:SV (i5 w) vp p)(hq:SV (i5 w) vq q)(U:C4 p<=1000000)(V:ad1 q<=1000000):
  y5 prog 189 #[vp,vq,t8 n] w λu w'=>(u = .int .i64 (aP5 p q n)/\o6 w w'):=by
 refine z6 [vp,vq,t8 n] func189 rfl ?_;obtain⟨a,w1,N,D,K⟩:=U2 hp (n7 _);obtain⟨b,w2,O,B,L⟩:=bA7 (hq.mono (b7 D)) (n7 _);obtain⟨vg,_,hg,_,X,_⟩:=K.pg;obtain⟨va,vv,_,_,m,S,_,_,F,_⟩:=L.pr;have l2:=F w2 (n7 _);have J:=m.isS;have R:=m.vlen;have al:=ar4 q.params;have an:=ac0 q.vars;have ag:=ac0 p.globals;unfold ad1 at V;unfold C4 at U;have g:=D.trans B;simp only[eS,simprocAttr,N,O,l2,J,R];refine A9 [2,3,4,10,11] (σ:=Nat) (λk f w'=>f 12 = .int .i64 k/\k<=q.params.length/\(∀j (x:j<q.params.length),j<k->decide (q.params[j].name=n)=false)/\o6 w2 w') (λk=>q.params.length-k) 0 ?_ ?_
 .exact⟨rfl,ek1 _,λj _ h=>om,p6.refl _⟩
 .rintro k f G ⟨C,e3,e4,r,H,_⟩ ⟨i,aj,z,d⟩;simp only[eS,simprocAttr,i,H];refine A3 (λy=>?_) ?_
  .have v:=m.inS y;obtain⟨sv,T,l⟩:=H1 (P:=prog) (t:=72) m (b7 d) (ej0 y) bL2 bL7 bz0 aD4;rw[aD4]at l;obtain⟨c,wz,w4,s,A,E,M⟩:=aY2 (T.mono (b7 d)) (n7 _);obtain⟨Y,_⟩:=M.pa;have W:=Y w4 (n7 _);have o:=g.trans (d.trans E);cases hq1:decide (q.params[k].name=n)
   .simp only[n8,n9,A0,simprocAttr,i,C,r,v,l,s,A,W,hq1];refine V1 (k+1) ⟨λj x ah=>?_,d.trans E⟩;rcases en2 j k with h|h
    .exact z j x h
    .obtain rfl:j=k:=om
     exact hq1
   .have e:q.params.find? (λa=>decide (a.name=n))=some q.params[k]:=et2.2 ⟨hq1,k,y,rfl,λj x=>by rw[z j om x];rfl⟩;cases hr:q.params[k].ref
    .simp only[n8,n9,A0,simprocAttr,i,C,r,v,l,s,A,W,hq1,hr];exact o8 results189 ⟨by rw[aP5,e];simp only[hr];rfl,o⟩
    .simp only[n8,n9,A0,simprocAttr,i,C,r,v,l,s,A,W,hq1,hr];exact o8 results189 ⟨by rw[aP5,e];simp only[hr];rfl,o⟩
  .rintro rfl;have e:q.params.find? (λa=>decide (a.name=n))=none:=es7.2 λit Q=>by
    obtain⟨j,x,rfl⟩:=ep2.1 Q;rw[z j x x];simp
   have I:aP5 p q n=if q.vars.contains n then 4 else if p.globals.contains n then 1 else 0:=by rw[aP5,e]
   have Z:=X G (b7 (B.trans d));simp only[eS,simprocAttr,C,e4,F G (b7 d)];refine F6 (S7 vv q.vars n G (A6.mono (b7 d) S) om) ?_;cases h1:q.vars.contains n
   .simp only[eS,simprocAttr,C,e3,Z];refine F6 (S7 vg p.globals n G (A6.mono (b7 (B.trans d)) hg) om) ?_;cases h2:p.globals.contains n
    .simp only[n8,simprocAttr];exact o8 results189 ⟨by rw[I,h1,h2];rfl,g.trans d⟩
    .simp only[n8,simprocAttr];exact o8 results189 ⟨by rw[I,h1,h2];rfl,g.trans d⟩
   .simp only[n8,simprocAttr];exact o8 results189 ⟨by rw[I,h1];rfl,g.trans d⟩
def by6(t:St):(M5 t).length<=V7 t:=by
 rw[X3];have a:=ak5 t.x;have b:=Q7 t.args;have c:1<=wtT t.name:=by simp[wtT]
 have d:(if t.kind≠10/\t.name≠e0 then[t.name]else[]).length<=1:=by split<;>simp
 unfold M5;rw[ej2,ej2];omega
def cT7(vp P O Q:Value)(p:Pg)(q:Pr)(d:List B3)(t:St)(w:World)(hp:SV (i5 w) vp p)(hq:SV (i5 w) P q)(hl:R (i5 w) O d)(N:SV (i5 w) Q t)(ae:C4 p<=1000000)(af:ad1 q<=1000000)(I:V7 t<=1000000)(au:d.length<=1000000):
  y5 prog 125 #[vp,P,O,Q] w λu w'=>(u = .bool (ak2 p q d t)/\o6 w w'):=by
 refine z6 [vp,P,O,Q] func125 rfl ?_;obtain⟨a,w1,Y,x,W⟩:=af7 (w:=w) (λ_=>False) hp (λ_ h=>h.elim);obtain⟨b,w2,Z,y,X⟩:=cH2 (w:=w1) (λ_=>False) (hq.mono (b7 x)) (λ_ h=>h.elim);obtain⟨c,w3,aa,z,B⟩:=cH3 (w:=w2) (λ_=>False) (N.mono (b7 (x.trans y))) (λ_ h=>h.elim);obtain⟨ldP,_⟩:=L8.pg_v hp W;obtain⟨ag,_⟩:=L8.pr_v hq X;obtain⟨ah,_⟩:=L8.st_v N B;obtain⟨_,_,_,_,_,_,_,_,_,_,_,aj,_⟩:=L8.st N B;have r:=x.trans (y.trans z);have D:(M5 t).length<=1000000:=ej7 (by6 t) I;simp only[eS,simprocAttr,Y,Z,aa,ah w3 (B4 _ _)];refine y4 (by5 Q t w3 (N.mono (b7 r)) I) ?_;rintro u w4 ⟨ho,j⟩;have H:=ho.rw_ (b7 j);have A:=H.isS;have F:=H.vlen;have J:=r.trans j;have L:(M5 t).all (λn=>!decide (aP5 p q n=0))=false->ak2 p q d t=false:=λh=>by rw[ak2,h];rfl
 have s:(M5 t).all (λn=>!decide (aP5 p q n=0))=true->ak2 p q d t=(!decide (t.kind=4)||(!decide (t.proc=J0)&&d.contains t.proc)):=λh=>by rw[ak2,h];rfl
 generalize M5 t=l at H A F D L s;simp only[eS,simprocAttr,A,F];refine A9 [2,4,5,7,12,13] (σ:=Nat) (λk f w'=>f 14 = .int .i64 k/\k<=l.length/\(l.take k).all (λn=>!decide (aP5 p q n=0))=true/\o6 w4 w') (λk=>l.length-k) 0 ?_ ?_
 .exact⟨rfl,ek1 _,dP,p6.refl _⟩
 .rintro k f M ⟨e2,e4,e5,U,S,T,_⟩ ⟨v,aq,i,g⟩;have e:=J.trans g;simp only[eS,simprocAttr,v,T];refine A3 (λm=>?_) ?_
  .have ab:=H.inS m;have C:=ldS H (b7 g) m;have G:=aV5 (λn=>!decide (aP5 p q n=0)) l k m;have o:=ek0 m;generalize l[k]=n at C G o;have lP:=ldP M (p7 (B4 _ _) (b7 (y.trans (z.trans (j.trans g)))));have lQ:=ag M (p7 (B4 _ _) (b7 (z.trans (j.trans g))));simp only[n8,n9,A0,simprocAttr,v,e4,e5,S,ab,C,lP,lQ];refine B6 (dh9 vp P p q n M (hp.mono (b7 e)) (hq.mono (b7 e)) ae af) (λw6 K=>?_);cases hd:decide (aP5 p q n=0)
   .simp only[eS,simprocAttr,v,hd];exact V1 (k+1) ⟨by rw[G,i,hd];rfl,g.trans K⟩
   .simp only[eS,simprocAttr,hd];refine o8 results125 ?_;simp only[B8,simprocAttr];exact⟨by rw[L (aK8 (p:=λn=>!decide (aP5 p q n=0)) o (by simp only[hd];rfl))],e.trans K⟩
  .rintro rfl;rw[ek4]at i;have lt:=aj M (p7 (B4 _ _) (b7 (j.trans g)));have V:=s i;cases h1:decide (t.kind=4)
   .simp only[eS,simprocAttr,U,lt,h1];refine o8 results125 ?_;simp only[B8,simprocAttr];exact⟨by rw[V,h1];rfl,e⟩
   have E:decide (t.proc=ofA #[109,97,105,110])=decide (t.proc=J0):=rfl;cases h2:decide (t.proc=J0)
   .simp only[eS,simprocAttr,e2,U,lt,h1,E,h2];refine F6 (S7 O d t.proc M (A6.mono (b7 e) hl) om) ?_;simp only[n8,simprocAttr];refine o8 results125 ?_;simp only[B8,simprocAttr];exact⟨by rw[V,h1,h2];rfl,e⟩
   .simp only[eS,simprocAttr,U,lt,h1,E,h2];refine o8 results125 ?_;simp only[B8,simprocAttr];exact⟨by rw[V,h1,h2];rfl,e⟩
end Go.Proofs.YtpebpfiglfmegaaGreat

/- pdgSlots.proved: for every input the law returns true. No condition. Part 3 of 6. -/
import Derived.Ground.Names2Prog
import Derived.Ground.SlsfProg
import Derived.Laws.StructEq
import Derived.Shelf.SlGeneric
import Derived.Shelf.SlSortCmp.NoneTotal
import Derived.Shelf.SlSortCmp.WholeK
import Derived.Shelf.Slices.Clone
import Derived.Shelf.Slices.Empties
import Derived.Shelf.Slices.SearchI
import Derived.Shelf.Spec.SlicesInsert
import Derived.Shelf.Spec.SlicesInsertGrow
import Derived.Test.YtcbnbgpphippoaaGreatProg
import Derived.Test.YtcbnbgpphippoaaGreatZ2
set_option maxRecDepth 1000000
set_option maxHeartbeats 8000000
set_option linter.unusedVariables false
set_option linter.unusedSimpArgs false
set_option linter.unnecessarySimpa false
set_option linter.defProp false
namespace Go.Proofs.YtcbnbgpphippoaaGreat
open Go Tryz
section
open Go.Sort Go.RowKit Go.Shelf
class A5 (α:Type) [A3 α] where
 cells:α→List Value
 iff_:∀(h:Hp) (cs:List Value) (x:α),A3.enc h cs x↔cs=cells x
instance:A5 Sp:=⟨Sp.cells,fun _ _ _=>dt6⟩
instance:A5 Fw:=⟨Fw.cells,fun _ _ _=>dt6⟩
instance:A5 Vx:=⟨Vx.cells,fun _ _ _=>dt6⟩
instance:A5 Eg:=⟨Eg.cells,fun _ _ _=>dt6⟩
instance:Inhabited Sp:=⟨⟨0,0,0⟩⟩
instance:Inhabited Fw:=⟨⟨0,0,e0⟩⟩
instance:Inhabited Vx:=⟨⟨e0,0,0,e0⟩⟩
instance:Inhabited Eg:=⟨⟨default,default,0⟩⟩
section
variable {α:Type} [A3 α] [A5 α]
theorem am5(x:α):(A5.cells x).length=A3.sz α:=A3.len ((A5.iff_ (fun _=>none) _ x).2 rfl)
theorem am6(x:α):∀v∈A5.cells x,v.oneCell'=true:=A3.one ((A5.iff_ (fun _=>none) _ x).2 rfl)
theorem V2{h:Hp}:∀{cs:List Value} {l:List α},N0 h cs l↔cs=l.flatMap A5.cells
 | cs,[]=>by simp[N0]
 | cs,x::l=>by
  rw[N0,dw0];constructor
  ·rintro⟨c1,c2,rfl,h1,h2⟩;rw[(A5.iff_ _ _ _).1 h1,V2.1 h2]
  ·rintro rfl;exact⟨_,_,rfl,(A5.iff_ _ _ _).2 rfl,V2.2 rfl⟩
theorem A8.downN{h k:Hp}{w:World}{T:TypeId}{v:Value}{xs:List α}(ho:A8 k w T v xs)(hk:B4 h k):A8 h w T v xs:=by
 rcases ho with hn|⟨b,c,cur,rfl,h1,h2,h3,h4,h5,h6⟩
 ·exact .inl hn
 ·refine .inr ⟨b,c,cur,rfl,?_,h2,h3,h4,h5,V2.2 (V2.1 h6)⟩;cases hq:h b with
  | none=>rfl
  | some o=>have:=hk b o hq;rw[h1]at this;cases this
theorem A8.flatRN{h k:Hp}{w:World}{T:TypeId}{v:Value}{xs:List α}(ho:A8 h w T v xs)(hb:∀b,A4 v b→k b=w.heap[b]?):R k v xs:=
 (ho.downN (h:=fun _=>none) (fun b o e=>nomatch e)).ro (fun b o e=>nomatch e) hb
theorem A8.backN{w0 w1 w:World}{T:TypeId}{v:Value}{xs:List α}(ho:A8 (i4 w1) w T v xs)(hx:o7 w0 w1):A8 (i4 w0) w T v xs:=ho.downN (b7 hx)
theorem cu0{h:Hp}{w:World}{T:TypeId}{v:Value}{l:List α}(ho:A8 h w T v l):(v = .slice none 0 0∧l=[])∨∃b c cur,v = .slice (some ⟨b,0,none⟩) l.length c∧h b=none∧w.heap[b]?=some (.cells cur T (0,0))∧l.length≤c∧c≤maxLen∧cur.size=c*A3.sz α∧cur.toList.take (l.length*A3.sz α)=l.flatMap A5.cells:=by
 rcases ho with hn|⟨b,c,cur,rfl,h1,h2,h3,h4,h5,h6⟩
 ·exact .inl hn
 ·exact .inr ⟨b,c,cur,rfl,h1,h2,h3,h4,h5,V2.1 h6⟩
theorem bh3{h:Hp}{w:World}{T:TypeId}{l:List α}{b c:Nat}{cur:Array Value}(h1:h b=none)(h2:w.heap[b]?=some (.cells cur T (0,0)))(h3:l.length≤c)(h4:c≤maxLen)(h5:cur.size=c*A3.sz α)(h6:cur.toList.take (l.length*A3.sz α)=l.flatMap A5.cells):
  A8 h w T (.slice (some ⟨b,0,none⟩) l.length c) l:=.inr ⟨b,c,cur,rfl,h1,h2,h3,h4,h5,V2.2 h6⟩
theorem ab1(l:List α):(l.flatMap A5.cells).length=l.length*A3.sz α:=by
 induction l with
 | nil=>simp
 | cons x l ih=>rw[dw0,dm7,am5,ih,do7,Nat.succ_mul,Nat.add_comm]
end
theorem aW9{α β:Type}(f:α→List β){k:Nat}(hk:0<k)(hf:∀x,(f x).length=k):∀(l:List α) (t:Nat),(l.flatMap f)[t]?=(l[t / k]?).bind fun x=>(f x)[t % k]?
 | [],t=>by simp
 | x::l,t=>by
  rw[dw0];rcases dq4 t k with h|h
  ·rw[dr5 (by rw[hf];exact h),Nat.div_eq_of_lt h,Nat.mod_eq_of_lt h];rfl
  ·rw[dq9 (by rw[hf];exact h),hf,aW9 f hk hf l];have h1:t / k=(t-k) / k+1:=by rw[Nat.div_eq_sub_div hk h]
   have h2:t % k=(t-k) % k:=Nat.mod_eq_sub_mod h;rw[h1,h2,List.getElem?_cons_succ]
theorem be5{α:Type}[Inhabited α](f:α→List Value){k:Nat}(hk:0<k)(hf:∀x,(f x).length=k)(d:Array α):(flatK f k d).toList=d.toList.flatMap f:=by
 apply dz3;intro t;rw[aW9 f hk hf];unfold flatK;rw[dy4,Array.getElem?_map];rcases dq4 t (d.size*k)with h|h
 ·have h1:t / k<d.size:=Nat.div_lt_of_lt_mul (by rw[Nat.mul_comm];exact h);have h2:t % k<k:=Nat.mod_lt _ hk;rw[dv4 (by simpa using h),dy4,dv4 h1];simp only[Array.getElem_range,dt2,Option.bind_some];rw[getElem!_pos d _ h1,getElem!_pos _ _ (by rw[hf];exact h2),dm4 (by rw[hf];exact h2)]
 ·have h1:d.size≤t / k:=(Nat.le_div_iff_mul_le hk).2 h;rw[Array.getElem?_eq_none (by simpa using h),dy4,Array.getElem?_eq_none h1];rfl
structure Cm {α:Type} (c:α→α→Int):Prop where
 refl:∀x,c x x=0
 anti:∀x y,c y x = - c x y
 trans:∀x y z,c x y≤0→c y z≤0→c x z≤0
theorem Cm.swo{α:Type}{c:α→α→Int}(h:Cm c):SWO (ltOf c) where
 irrefl x:=by simp[ltOf,h.refl]
 trans x y z h1 h2:=by
  simp only[ltOf,dq8]at *;have h3:=h.trans x y z (by omega) (by omega);rcases Int.lt_or_eq_of_le h3 with h4|h4
  ·exact h4
  ·have h5:=h.anti x z;have h6:=h.trans y z x (by omega) (by omega);have h7:=h.anti x y;omega
 ntrans x y z h1 h2:=by
  simp only[ltOf,dz9]at *;have a1:=h.anti x y;have a2:=h.anti y z;have a3:=h.anti x z;have:=h.trans z y x (by omega) (by omega);omega
theorem Cm.total{α:Type}{c:α→α→Int}(h:Cm c)(x y:α):decide (c x y≤0)=true∨decide (c y x≤0)=true:=by
 have:=h.anti x y;simp only[dq8];omega
theorem Cm.key{α β:Type}{c:β→β→Int}(h:Cm c)(f:α→β):Cm fun x y=>c (f x) (f y):=⟨fun x=>h.refl _,fun x y=>h.anti _ _,fun x y z=>h.trans _ _ _⟩
theorem Cm.zero{α:Type}:Cm fun(_ _:α)=>0:=⟨fun _=>rfl,fun _ _=>rfl,fun _ _ _ _ _=>by omega⟩
theorem Cm.lex{α:Type}{c d:α→α→Int}(h:Cm c)(k:Cm d):Cm fun x y=>if c x y=0 then d x y else c x y:=by
 refine⟨fun x=>by simp only[h.refl,ds9,k.refl],fun x y=>?_,fun x y z h1 h2=>?_⟩
 ·have a1:=h.anti x y;have a2:=k.anti x y;by_cases hq:c x y=0
  ·show(if c y x=0 then d y x else c y x) = - (if c x y=0 then d x y else c x y);rw[if_pos (show c y x=0 by omega),if_pos hq,a2]
  ·show(if c y x=0 then d y x else c y x) = - (if c x y=0 then d x y else c x y);rw[if_neg (show ¬c y x=0 by omega),if_neg hq,a1]
 ·have a1:=h.anti x y;have a2:=h.anti y z;have a3:=h.anti x z
  change (if c x y=0 then d x y else c x y)≤0 at h1
  change (if c y z=0 then d y z else c y z)≤0 at h2
  show(if c x z=0 then d x z else c x z)≤0;have b1:c x y≤0:=by split at h1<;>omega
  have b2:c y z≤0:=by split at h2<;>omega
  have b3:=h.trans x y z b1 b2;by_cases hq:c x z=0
  ·rw[if_pos hq];have e1:=h.trans y z x b2 (by omega);have e2:=h.trans z x y (by omega) b1;have q1:c x y=0:=by omega
   have q2:c y z=0:=by omega
   rw[if_pos q1]at h1;rw[if_pos q2]at h2;exact k.trans x y z h1 h2
  ·rw[if_neg hq];exact b3
theorem aB2:Cm J2:=by
 refine⟨fun x=>?_,fun x y=>?_,fun x y z=>?_⟩<;>unfold J2
 ·simp
 ·split<;>split<;>(try split)<;>omega
 ·intro h1 h2;split at h1<;>(try split at h1)<;>split at h2<;>(try split at h2)<;>split<;>(try split)<;>omega
def ae7(a b:A7):Int:=if U9 a b then -1 else if U9 b a then 1 else 0
theorem bM7:Cm ae7:=by
 refine⟨fun x=>?_,fun x y=>?_,fun x y z=>?_⟩<;>unfold ae7
 ·simp[I1]
 ·cases h1:U9 x y<;>cases h2:U9 y x<;>simp;have:=W6 h1 h2;rw[I1]at this;cases this
 ·intro h1 h2;cases h3:U9 z x
  ·cases U9 x z<;>simp
  ·exfalso
   cases h4:U9 y x
   ·cases h5:U9 z y
    ·have e1:=aT0 (T9.1 h4) (T9.1 h5);exact absurd h3 (by rw[T9.2 e1];simp)
    ·cases h6:U9 y z
     ·rw[h6,h5]at h2;simp at h2
     ·have:=W6 h5 h6;rw[I1]at this;cases this
   ·cases h6:U9 x y
    ·rw[h6,h4]at h1;simp at h1
    ·have:=W6 h4 h6;rw[I1]at this;cases this
theorem ab0{a b:Int}(h:J2 a b=0):a=b:=by
 unfold J2 at h;split at h
 ·omega
 ·split at h<;>omega
theorem aR6{a b:A7}(h:ae7 a b=0):a=b:=by
 unfold ae7 at h;cases h1:U9 a b
 ·cases h2:U9 b a
  ·exact bx9 h1 h2
  ·rw[h1,h2]at h;simp at h
 ·rw[h1]at h;simp at h
def Gr(w w':World):Prop:=∃q os,w'=grow (w.drewN q) os
theorem Gr.refl(w:World):Gr w w:=⟨0,#[],by rw[grow_empty];rfl⟩
theorem Gr.alloc(w:World)(o:Obj):Gr w (w.alloc o):=⟨0,#[o],by rw[alloc_eq_grow];rfl⟩
theorem Gr.drew(w:World):Gr w w.drew:=⟨1,#[],by rw[grow_empty];rfl⟩
theorem Gr.trans{a b c:World}(h:Gr a b)(k:Gr b c):Gr a c:=by
 obtain⟨q,os,rfl⟩:=h;obtain⟨p,ps,rfl⟩:=k;refine⟨q+p,os++ps,?_⟩;have e:(grow (a.drewN q) os).drewN p=grow (a.drewN (q+p)) os:=by
  show grow ((a.drewN q).drewN p) os=_
  congr 1
  simp[World.drewN,dw1]
 rw[e,grow_grow]
theorem Gr.ext{a b:World}(h:Gr a b):o7 a b:=by
 obtain⟨q,os,rfl⟩:=h;have h1:o7 a (a.drewN q):=⟨rfl,rfl,rfl,dn9 _,fun _ _ _=>rfl⟩;refine h1.trans ⟨rfl,rfl,rfl,?_,fun c hc _=>?_⟩
 ·show _≤((a.drewN q).heap++os).size;rw[Array.size_append];omega
 ·show((a.drewN q).heap++os)[c]?=_;rw[Array.getElem?_append_left hc]
section
variable {α:Type} [A3 α] [A5 α] [Inhabited α] {P:Program} {ρ:Ren} {h:Hp} {w:World} {T:TypeId} {v:Value} {xs:List α}
theorem cD8{b:Nat}{cur:Array Value}(h2:w.heap[b]?=some (.cells cur T (0,0)))(h6:cur.toList.take (xs.length*A3.sz α)=xs.flatMap A5.cells):HoldsK A5.cells (A3.sz α) w b 0 xs.toArray:=fun j hj=>by
 have hl:=be5 A5.cells (A3.pos (α:=α)) am5 xs.toArray;rw[List.toList_toArray,←h6]at hl;have hj':j<xs.length*A3.sz α:=by simpa using hj
 rw[dp8,du1 w b j cur _ (0,0) h2];refine⟨?_,frozen_of_row w b j cur _ h2⟩;have h7:=do4 (fun z=>z[j]?) hl;simp only[dy4,dw6,if_pos hj',dv4 hj]at h7;rw[getElem!_pos _ j hj];exact h7.symm
theorem aF4(L:SlLaysF0.n6 P ρ)(aE:∀w,(isAgg (ρ.t 24)).run P w = .ok true w)(zE:∀w,(Go.sizeOf (ρ.t 24)).run P w = .ok (A3.sz α) w)(cf:α→α→Int)(hC:Cm cf)(g:Nat)(eg:∀args w,(callFunc g args).run P w = .ok (.enter g args) w)
  (hcmp:∀x y w,Calls P g #[.agg (A5.cells x).toArray,.agg (A5.cells y).toArray] w fun e w'=>e = .returned (.int .i64 (cf x y))∧Gr w w')
  (ho:A8 h w T v xs) (hl:xs.length≤1000000000) (hanti:∀a∈xs,∀b∈xs,decide (cf a b≤0)=true→decide (cf b a≤0)=true→a=b) :
  Calls P (ρ.f 6) #[v,.func (.func g) #[] #[]] w fun e w'=>∃u,e = .returned u∧(A8 h w' T v (V8 (fun a b=>decide (cf a b≤0)) xs)∧p9 (A4 v) w w'):=by
 rcases cu0 ho with⟨rfl,rfl⟩|⟨b,c,cur,rfl,h1,h2,h3,h4,h5,h6⟩
 ·refine(AnyF.slices_SortFunc_none L none 0 _ w).mono ?_;rintro e w' ⟨rfl,rfl⟩;exact⟨_,rfl,A8.nil _ _ _,p9.refl _⟩
 ·have hb:b<w.heap.size:=(dn1.1 h2).1;have:=AnyQ.slices_SortFunc L (A3.sz α) aE zE A5.cells am5 am6 cf hC.swo g #[] b 0 c xs.toArray w eg (fun m os dk _ x y=>hcmp x y _) (cD8 h2 h6) hb (by simp;omega);rw[dw2]at this;refine this.mono ?_;rintro e w' ⟨rfl,d',n,os,hp,hs,rfl⟩;obtain⟨hsz,_,hperm⟩:=hp;have hszd:d'.size=xs.length:=by simpa using hsz
  have hd:d'.toList=V8 (fun a b=>decide (cf a b≤0)) xs:=by
   have e1:d'.extract 0 xs.length=d':=by rw[←hszd];exact Array.extract_size
   rw[e1]at hperm;have e2:(xs.toArray.extract 0 xs.length).toList=xs:=by
    have:=@Array.extract_size _ xs.toArray;rw[dw2]at this;rw[this]
   rw[e2]at hperm;refine ax9 (le:=fun a b=>decide (cf a b≤0)) (hperm.trans (J0 _ _).symm) ?_ ?_ ?_
   ·intro a ha b hb;exact hanti a (hperm.mem_iff.1 ha) b (hperm.mem_iff.1 hb)
   ·rw[dv5];intro i j hi hj hij;have hi':i<d'.size:=by simpa using hi
    have hj':j<d'.size:=by simpa using hj
    have:=hs i j (dn5 _) hij (by omega);rw[getElem!_pos d' j hj',getElem!_pos d' i hi']at this;simp only[ltOf,dz9]at this;have a1:=hC.anti d'[i] d'[j];simp only[Array.getElem_toList,dq8];omega
   ·exact al9 (fun a _ b _=>hC.total a b) (fun a _ b _ c _ h1 h2=>dq5 (hC.trans a b c (dm8 h1) (dm8 h2)))
  have hfl:=be5 A5.cells (A3.pos (α:=α)) am5 d';have hfs:(flatK A5.cells (A3.sz α) d').size=xs.length*A3.sz α:=by rw[size_flatK,hszd]
  obtain⟨k1,k2⟩:=bz2 h2 id (flatK A5.cells (A3.sz α) d') (by rw[hfs,h5];exact dv0 _ h3) n os;refine⟨_,rfl,?_,k2.weaken fun _ _ e=>by subst e;rfl⟩;have hlen:(V8 (fun a b=>decide (cf a b≤0)) xs).length=xs.length:=(J0 _ _).length_eq;rw[List.map_id,hfl,hd]at k1;have:=bh3 (l:=V8 (fun a b=>decide (cf a b≤0)) xs) h1 k1 (by rw[hlen];exact h3) h4 ?_ ?_
  ·rw[hlen]at this;exact this
  ·have hml:=dv0 (A3.sz α) h3;simp only[dw2,dm7,ab1,hlen,dv1,dz7,hfs,h5];omega
  ·simp only[];rw[←ab1,dv9]
end
end
end Go.Proofs.YtcbnbgpphippoaaGreat
namespace Go.Proofs
open Go.Shelf
def Tryz.lySortV_ren:Go.Shelf.Ren:=⟨fun|6=>59|15=>105|14=>104|28=>165|29=>166|20=>157|21=>158|22=>159|23=>160|24=>161|25=>162|26=>163|27=>164|46=>218|47=>219|48=>220|49=>221|50=>222|57=>255|n=>n,fun|22=>30|24=>36|25=>124|3=>3|39=>165|0=>0|53=>218|55=>220|4=>4|46=>212|45=>211|50=>192|5=>5|9=>9|66=>257|70=>261|76=>285|77=>286|n=>n,fun|n=>n⟩
theorem Tryz.lySortV:Go.Proofs.SlLaysF0.n6 Tryz.prog Tryz.lySortV_ren:={
 mixed:=by kernel_rfl
 f6:=⟨Tryz.f59.name,by decide,Tryz.func59.trans (congrArg some (by kernel_rfl))⟩
 f14:=⟨Tryz.f104.name,by decide,Tryz.func104.trans (congrArg some (by kernel_rfl))⟩
 f15:=Tryz.func105.trans (congrArg some (by kernel_rfl))
 f20:=⟨Tryz.f157.name,by decide,Tryz.func157.trans (congrArg some (by kernel_rfl))⟩
 f21:=⟨Tryz.f158.name,by decide,Tryz.func158.trans (congrArg some (by kernel_rfl))⟩
 f22:=⟨Tryz.f159.name,by decide,Tryz.func159.trans (congrArg some (by kernel_rfl))⟩
 f23:=⟨Tryz.f160.name,by decide,Tryz.func160.trans (congrArg some (by kernel_rfl))⟩
 f24:=⟨Tryz.f161.name,by decide,Tryz.func161.trans (congrArg some (by kernel_rfl))⟩
 f25:=⟨Tryz.f162.name,by decide,Tryz.func162.trans (congrArg some (by kernel_rfl))⟩
 f26:=⟨Tryz.f163.name,by decide,Tryz.func163.trans (congrArg some (by kernel_rfl))⟩
 f27:=⟨Tryz.f164.name,by decide,Tryz.func164.trans (congrArg some (by kernel_rfl))⟩
 f28:=Tryz.func165.trans (congrArg some (by kernel_rfl))
 f29:=Tryz.func166.trans (congrArg some (by kernel_rfl))
 f46:=⟨Tryz.f218.name,by decide,Tryz.func218.trans (congrArg some (by kernel_rfl))⟩
 f47:=Tryz.func219.trans (congrArg some (by kernel_rfl))
 f48:=Tryz.func220.trans (congrArg some (by kernel_rfl))
 f49:=⟨Tryz.f221.name,by decide,Tryz.func221.trans (congrArg some (by kernel_rfl))⟩
 f50:=⟨Tryz.f222.name,by decide,Tryz.func222.trans (congrArg some (by kernel_rfl))⟩
 f57:=⟨Tryz.f255.name,by decide,Tryz.func255.trans (congrArg some (by kernel_rfl))⟩
 t0:=Tryz.underlying0
 a0:=Tryz.isAgg0
 z0:=Tryz.sizeOf0
 v0:=Tryz.zeroValue0
 t3:=Tryz.underlying3
 a3:=Tryz.isAgg3
 z3:=Tryz.sizeOf3
 v3:=Tryz.zeroValue3
 t4:=Tryz.underlying4
 a4:=Tryz.isAgg4
 z4:=Tryz.sizeOf4
 v4:=Tryz.zeroValue4
 t5:=Tryz.underlying5
 a5:=Tryz.isAgg5
 z5:=Tryz.sizeOf5
 v5:=Tryz.zeroValue5
 t9:=Tryz.underlying9
 a9:=Tryz.isAgg9
 z9:=Tryz.sizeOf9
 v9:=Tryz.zeroValue9
 t22:=Tryz.underlying30
 a22:=Tryz.isAgg30
 z22:=Tryz.sizeOf30
 v22:=Tryz.zeroValue30
 t25:=Tryz.underlying124
 a25:=Tryz.isAgg124
 z25:=Tryz.sizeOf124
 v25:=Tryz.zeroValue124
 t39:=Tryz.underlying165
 a39:=Tryz.isAgg165
 z39:=Tryz.sizeOf165
 v39:=Tryz.zeroValue165
 t45:=Tryz.underlying211
 a45:=Tryz.isAgg211
 z45:=Tryz.sizeOf211
 v45:=Tryz.zeroValue211
 t46:=Tryz.underlying212
 a46:=Tryz.isAgg212
 z46:=Tryz.sizeOf212
 v46:=Tryz.zeroValue212
 t50:=Tryz.underlying192
 a50:=Tryz.isAgg192
 z50:=Tryz.sizeOf192
 v50:=Tryz.zeroValue192
 t53:=Tryz.underlying218
 a53:=Tryz.isAgg218
 z53:=Tryz.sizeOf218
 v53:=Tryz.zeroValue218
 t55:=Tryz.underlying220
 a55:=Tryz.isAgg220
 z55:=Tryz.sizeOf220
 v55:=Tryz.zeroValue220
 t66:=Tryz.underlying257
 a66:=Tryz.isAgg257
 z66:=Tryz.sizeOf257
 v66:=Tryz.zeroValue257
 t70:=Tryz.underlying261
 a70:=Tryz.isAgg261
 z70:=Tryz.sizeOf261
 v70:=Tryz.zeroValue261
 t76:=Tryz.underlying285
 a76:=Tryz.isAgg285
 z76:=Tryz.sizeOf285
 v76:=Tryz.zeroValue285
 t77:=Tryz.underlying286
 a77:=Tryz.isAgg286
 z77:=Tryz.sizeOf286
 v77:=Tryz.zeroValue286}
def Tryz.lySortF_ren:Go.Shelf.Ren:=⟨fun|6=>89|15=>105|14=>138|28=>165|29=>166|20=>200|21=>201|22=>202|23=>203|24=>204|25=>205|26=>206|27=>207|46=>245|47=>219|48=>220|49=>246|50=>247|57=>274|n=>n,fun|22=>95|24=>97|25=>159|3=>3|39=>165|0=>0|53=>218|55=>220|4=>4|46=>212|45=>211|50=>192|5=>5|9=>9|66=>257|70=>261|76=>285|77=>286|n=>n,fun|n=>n⟩
theorem Tryz.lySortF:Go.Proofs.SlLaysF0.n6 Tryz.prog Tryz.lySortF_ren:={
 mixed:=by kernel_rfl
 f6:=⟨Tryz.f89.name,by decide,Tryz.func89.trans (congrArg some (by kernel_rfl))⟩
 f14:=⟨Tryz.f138.name,by decide,Tryz.func138.trans (congrArg some (by kernel_rfl))⟩
 f15:=Tryz.func105.trans (congrArg some (by kernel_rfl))
 f20:=⟨Tryz.f200.name,by decide,Tryz.func200.trans (congrArg some (by kernel_rfl))⟩
 f21:=⟨Tryz.f201.name,by decide,Tryz.func201.trans (congrArg some (by kernel_rfl))⟩
 f22:=⟨Tryz.f202.name,by decide,Tryz.func202.trans (congrArg some (by kernel_rfl))⟩
 f23:=⟨Tryz.f203.name,by decide,Tryz.func203.trans (congrArg some (by kernel_rfl))⟩
 f24:=⟨Tryz.f204.name,by decide,Tryz.func204.trans (congrArg some (by kernel_rfl))⟩
 f25:=⟨Tryz.f205.name,by decide,Tryz.func205.trans (congrArg some (by kernel_rfl))⟩
 f26:=⟨Tryz.f206.name,by decide,Tryz.func206.trans (congrArg some (by kernel_rfl))⟩
 f27:=⟨Tryz.f207.name,by decide,Tryz.func207.trans (congrArg some (by kernel_rfl))⟩
 f28:=Tryz.func165.trans (congrArg some (by kernel_rfl))
 f29:=Tryz.func166.trans (congrArg some (by kernel_rfl))
 f46:=⟨Tryz.f245.name,by decide,Tryz.func245.trans (congrArg some (by kernel_rfl))⟩
 f47:=Tryz.func219.trans (congrArg some (by kernel_rfl))
 f48:=Tryz.func220.trans (congrArg some (by kernel_rfl))
 f49:=⟨Tryz.f246.name,by decide,Tryz.func246.trans (congrArg some (by kernel_rfl))⟩
 f50:=⟨Tryz.f247.name,by decide,Tryz.func247.trans (congrArg some (by kernel_rfl))⟩
 f57:=⟨Tryz.f274.name,by decide,Tryz.func274.trans (congrArg some (by kernel_rfl))⟩
 t0:=Tryz.underlying0
 a0:=Tryz.isAgg0
 z0:=Tryz.sizeOf0
 v0:=Tryz.zeroValue0
 t3:=Tryz.underlying3
 a3:=Tryz.isAgg3
 z3:=Tryz.sizeOf3
 v3:=Tryz.zeroValue3
 t4:=Tryz.underlying4
 a4:=Tryz.isAgg4
 z4:=Tryz.sizeOf4
 v4:=Tryz.zeroValue4
 t5:=Tryz.underlying5
 a5:=Tryz.isAgg5
 z5:=Tryz.sizeOf5
 v5:=Tryz.zeroValue5
 t9:=Tryz.underlying9
 a9:=Tryz.isAgg9
 z9:=Tryz.sizeOf9
 v9:=Tryz.zeroValue9
 t22:=Tryz.underlying95
 a22:=Tryz.isAgg95
 z22:=Tryz.sizeOf95
 v22:=Tryz.zeroValue95
 t25:=Tryz.underlying159
 a25:=Tryz.isAgg159
 z25:=Tryz.sizeOf159
 v25:=Tryz.zeroValue159
 t39:=Tryz.underlying165
 a39:=Tryz.isAgg165
 z39:=Tryz.sizeOf165
 v39:=Tryz.zeroValue165
 t45:=Tryz.underlying211
 a45:=Tryz.isAgg211
 z45:=Tryz.sizeOf211
 v45:=Tryz.zeroValue211
 t46:=Tryz.underlying212
 a46:=Tryz.isAgg212
 z46:=Tryz.sizeOf212
 v46:=Tryz.zeroValue212
 t50:=Tryz.underlying192
 a50:=Tryz.isAgg192
 z50:=Tryz.sizeOf192
 v50:=Tryz.zeroValue192
 t53:=Tryz.underlying218
 a53:=Tryz.isAgg218
 z53:=Tryz.sizeOf218
 v53:=Tryz.zeroValue218
 t55:=Tryz.underlying220
 a55:=Tryz.isAgg220
 z55:=Tryz.sizeOf220
 v55:=Tryz.zeroValue220
 t66:=Tryz.underlying257
 a66:=Tryz.isAgg257
 z66:=Tryz.sizeOf257
 v66:=Tryz.zeroValue257
 t70:=Tryz.underlying261
 a70:=Tryz.isAgg261
 z70:=Tryz.sizeOf261
 v70:=Tryz.zeroValue261
 t76:=Tryz.underlying285
 a76:=Tryz.isAgg285
 z76:=Tryz.sizeOf285
 v76:=Tryz.zeroValue285
 t77:=Tryz.underlying286
 a77:=Tryz.isAgg286
 z77:=Tryz.sizeOf286
 v77:=Tryz.zeroValue286}
def Tryz.lySortE_ren:Go.Shelf.Ren:=⟨fun|6=>111|15=>105|14=>169|28=>165|29=>166|20=>223|21=>224|22=>225|23=>226|24=>227|25=>228|26=>229|27=>230|46=>256|47=>219|48=>220|49=>257|50=>258|57=>276|n=>n,fun|22=>32|24=>60|25=>170|3=>3|39=>165|0=>0|53=>218|55=>220|4=>4|46=>212|45=>211|50=>192|5=>5|9=>9|66=>257|70=>261|76=>285|77=>286|n=>n,fun|n=>n⟩
theorem Tryz.lySortE:Go.Proofs.SlLaysF0.n6 Tryz.prog Tryz.lySortE_ren:={
 mixed:=by kernel_rfl
 f6:=⟨Tryz.f111.name,by decide,Tryz.func111.trans (congrArg some (by kernel_rfl))⟩
 f14:=⟨Tryz.f169.name,by decide,Tryz.func169.trans (congrArg some (by kernel_rfl))⟩
 f15:=Tryz.func105.trans (congrArg some (by kernel_rfl))
 f20:=⟨Tryz.f223.name,by decide,Tryz.func223.trans (congrArg some (by kernel_rfl))⟩
 f21:=⟨Tryz.f224.name,by decide,Tryz.func224.trans (congrArg some (by kernel_rfl))⟩
 f22:=⟨Tryz.f225.name,by decide,Tryz.func225.trans (congrArg some (by kernel_rfl))⟩
 f23:=⟨Tryz.f226.name,by decide,Tryz.func226.trans (congrArg some (by kernel_rfl))⟩
 f24:=⟨Tryz.f227.name,by decide,Tryz.func227.trans (congrArg some (by kernel_rfl))⟩
 f25:=⟨Tryz.f228.name,by decide,Tryz.func228.trans (congrArg some (by kernel_rfl))⟩
 f26:=⟨Tryz.f229.name,by decide,Tryz.func229.trans (congrArg some (by kernel_rfl))⟩
 f27:=⟨Tryz.f230.name,by decide,Tryz.func230.trans (congrArg some (by kernel_rfl))⟩
 f28:=Tryz.func165.trans (congrArg some (by kernel_rfl))
 f29:=Tryz.func166.trans (congrArg some (by kernel_rfl))
 f46:=⟨Tryz.f256.name,by decide,Tryz.func256.trans (congrArg some (by kernel_rfl))⟩
 f47:=Tryz.func219.trans (congrArg some (by kernel_rfl))
 f48:=Tryz.func220.trans (congrArg some (by kernel_rfl))
 f49:=⟨Tryz.f257.name,by decide,Tryz.func257.trans (congrArg some (by kernel_rfl))⟩
 f50:=⟨Tryz.f258.name,by decide,Tryz.func258.trans (congrArg some (by kernel_rfl))⟩
 f57:=⟨Tryz.f276.name,by decide,Tryz.func276.trans (congrArg some (by kernel_rfl))⟩
 t0:=Tryz.underlying0
 a0:=Tryz.isAgg0
 z0:=Tryz.sizeOf0
 v0:=Tryz.zeroValue0
 t3:=Tryz.underlying3
 a3:=Tryz.isAgg3
 z3:=Tryz.sizeOf3
 v3:=Tryz.zeroValue3
 t4:=Tryz.underlying4
 a4:=Tryz.isAgg4
 z4:=Tryz.sizeOf4
 v4:=Tryz.zeroValue4
 t5:=Tryz.underlying5
 a5:=Tryz.isAgg5
 z5:=Tryz.sizeOf5
 v5:=Tryz.zeroValue5
 t9:=Tryz.underlying9
 a9:=Tryz.isAgg9
 z9:=Tryz.sizeOf9
 v9:=Tryz.zeroValue9
 t22:=Tryz.underlying32
 a22:=Tryz.isAgg32
 z22:=Tryz.sizeOf32
 v22:=Tryz.zeroValue32
 t25:=Tryz.underlying170
 a25:=Tryz.isAgg170
 z25:=Tryz.sizeOf170
 v25:=Tryz.zeroValue170
 t39:=Tryz.underlying165
 a39:=Tryz.isAgg165
 z39:=Tryz.sizeOf165
 v39:=Tryz.zeroValue165
 t45:=Tryz.underlying211
 a45:=Tryz.isAgg211
 z45:=Tryz.sizeOf211
 v45:=Tryz.zeroValue211
 t46:=Tryz.underlying212
 a46:=Tryz.isAgg212
 z46:=Tryz.sizeOf212
 v46:=Tryz.zeroValue212
 t50:=Tryz.underlying192
 a50:=Tryz.isAgg192
 z50:=Tryz.sizeOf192
 v50:=Tryz.zeroValue192
 t53:=Tryz.underlying218
 a53:=Tryz.isAgg218
 z53:=Tryz.sizeOf218
 v53:=Tryz.zeroValue218
 t55:=Tryz.underlying220
 a55:=Tryz.isAgg220
 z55:=Tryz.sizeOf220
 v55:=Tryz.zeroValue220
 t66:=Tryz.underlying257
 a66:=Tryz.isAgg257
 z66:=Tryz.sizeOf257
 v66:=Tryz.zeroValue257
 t70:=Tryz.underlying261
 a70:=Tryz.isAgg261
 z70:=Tryz.sizeOf261
 v70:=Tryz.zeroValue261
 t76:=Tryz.underlying285
 a76:=Tryz.isAgg285
 z76:=Tryz.sizeOf285
 v76:=Tryz.zeroValue285
 t77:=Tryz.underlying286
 a77:=Tryz.isAgg286
 z77:=Tryz.sizeOf286
 v77:=Tryz.zeroValue286}
def Tryz.lySortP_ren:Go.Shelf.Ren:=⟨fun|6=>192|15=>105|14=>238|28=>165|29=>166|20=>263|21=>264|22=>265|23=>266|24=>267|25=>268|26=>269|27=>270|46=>281|47=>219|48=>220|49=>282|50=>283|57=>285|n=>n,fun|22=>144|24=>186|25=>240|3=>3|39=>165|0=>0|53=>218|55=>220|4=>4|46=>212|45=>211|50=>192|5=>5|9=>9|66=>257|70=>261|76=>285|77=>286|n=>n,fun|n=>n⟩
theorem Tryz.lySortP:Go.Proofs.SlLaysF0.n6 Tryz.prog Tryz.lySortP_ren:={
 mixed:=by kernel_rfl
 f6:=⟨Tryz.f192.name,by decide,Tryz.func192.trans (congrArg some (by kernel_rfl))⟩
 f14:=⟨Tryz.f238.name,by decide,Tryz.func238.trans (congrArg some (by kernel_rfl))⟩
 f15:=Tryz.func105.trans (congrArg some (by kernel_rfl))
 f20:=⟨Tryz.f263.name,by decide,Tryz.func263.trans (congrArg some (by kernel_rfl))⟩
 f21:=⟨Tryz.f264.name,by decide,Tryz.func264.trans (congrArg some (by kernel_rfl))⟩
 f22:=⟨Tryz.f265.name,by decide,Tryz.func265.trans (congrArg some (by kernel_rfl))⟩
 f23:=⟨Tryz.f266.name,by decide,Tryz.func266.trans (congrArg some (by kernel_rfl))⟩
 f24:=⟨Tryz.f267.name,by decide,Tryz.func267.trans (congrArg some (by kernel_rfl))⟩
 f25:=⟨Tryz.f268.name,by decide,Tryz.func268.trans (congrArg some (by kernel_rfl))⟩
 f26:=⟨Tryz.f269.name,by decide,Tryz.func269.trans (congrArg some (by kernel_rfl))⟩
 f27:=⟨Tryz.f270.name,by decide,Tryz.func270.trans (congrArg some (by kernel_rfl))⟩
 f28:=Tryz.func165.trans (congrArg some (by kernel_rfl))
 f29:=Tryz.func166.trans (congrArg some (by kernel_rfl))
 f46:=⟨Tryz.f281.name,by decide,Tryz.func281.trans (congrArg some (by kernel_rfl))⟩
 f47:=Tryz.func219.trans (congrArg some (by kernel_rfl))
 f48:=Tryz.func220.trans (congrArg some (by kernel_rfl))
 f49:=⟨Tryz.f282.name,by decide,Tryz.func282.trans (congrArg some (by kernel_rfl))⟩
 f50:=⟨Tryz.f283.name,by decide,Tryz.func283.trans (congrArg some (by kernel_rfl))⟩
 f57:=⟨Tryz.f285.name,by decide,Tryz.func285.trans (congrArg some (by kernel_rfl))⟩
 t0:=Tryz.underlying0
 a0:=Tryz.isAgg0
 z0:=Tryz.sizeOf0
 v0:=Tryz.zeroValue0
 t3:=Tryz.underlying3
 a3:=Tryz.isAgg3
 z3:=Tryz.sizeOf3
 v3:=Tryz.zeroValue3
 t4:=Tryz.underlying4
 a4:=Tryz.isAgg4
 z4:=Tryz.sizeOf4
 v4:=Tryz.zeroValue4
 t5:=Tryz.underlying5
 a5:=Tryz.isAgg5
 z5:=Tryz.sizeOf5
 v5:=Tryz.zeroValue5
 t9:=Tryz.underlying9
 a9:=Tryz.isAgg9
 z9:=Tryz.sizeOf9
 v9:=Tryz.zeroValue9
 t22:=Tryz.underlying144
 a22:=Tryz.isAgg144
 z22:=Tryz.sizeOf144
 v22:=Tryz.zeroValue144
 t25:=Tryz.underlying240
 a25:=Tryz.isAgg240
 z25:=Tryz.sizeOf240
 v25:=Tryz.zeroValue240
 t39:=Tryz.underlying165
 a39:=Tryz.isAgg165
 z39:=Tryz.sizeOf165
 v39:=Tryz.zeroValue165
 t45:=Tryz.underlying211
 a45:=Tryz.isAgg211
 z45:=Tryz.sizeOf211
 v45:=Tryz.zeroValue211
 t46:=Tryz.underlying212
 a46:=Tryz.isAgg212
 z46:=Tryz.sizeOf212
 v46:=Tryz.zeroValue212
 t50:=Tryz.underlying192
 a50:=Tryz.isAgg192
 z50:=Tryz.sizeOf192
 v50:=Tryz.zeroValue192
 t53:=Tryz.underlying218
 a53:=Tryz.isAgg218
 z53:=Tryz.sizeOf218
 v53:=Tryz.zeroValue218
 t55:=Tryz.underlying220
 a55:=Tryz.isAgg220
 z55:=Tryz.sizeOf220
 v55:=Tryz.zeroValue220
 t66:=Tryz.underlying257
 a66:=Tryz.isAgg257
 z66:=Tryz.sizeOf257
 v66:=Tryz.zeroValue257
 t70:=Tryz.underlying261
 a70:=Tryz.isAgg261
 z70:=Tryz.sizeOf261
 v70:=Tryz.zeroValue261
 t76:=Tryz.underlying285
 a76:=Tryz.isAgg285
 z76:=Tryz.sizeOf285
 v76:=Tryz.zeroValue285
 t77:=Tryz.underlying286
 a77:=Tryz.isAgg286
 z77:=Tryz.sizeOf286
 v77:=Tryz.zeroValue286}
end Go.Proofs
namespace Go.Proofs.YtcbnbgpphippoaaGreat
open Go Tryz
def J5:=zJ (zJ (zJ (zJ (zJ (zJ @bc2 @dd0) (zJ @dc3 @cS8)) (zJ (zJ @dc6 @dg3) (zJ @dc4 (zJ @dc5 @dg4)))) (zJ (zJ (zJ @dg0 @cZ8) (zJ @dg1 (zJ @dg2 @cT9))) (zJ (zJ @cR4 @cU0) (zJ @cU1 (zJ @de7 @de6))))) (zJ (zJ (zJ (zJ @dg7 @dk2) (zJ @dk8 (zJ @cS6 @df6))) (zJ (zJ @cS7 @df7) (zJ @di7 (zJ @dk7 @cF8)))) (zJ (zJ (zJ @cX8 @cF9) (zJ @cX9 (zJ @cY0 @cP3))) (zJ (zJ @cK7 @cK6) (zJ @cX7 (zJ @di9 @di8)))))) (zJ (zJ (zJ (zJ (zJ @cP2 @dj1) (zJ @dj0 (zJ @df4 @cA9))) (zJ (zJ @cW9 @di3) (zJ @cF6 (zJ @cS5 @cO8)))) (zJ (zJ (zJ @dh8 @di4) (zJ @cS4 (zJ @df3 @cX1))) (zJ (zJ @df2 @ev.eq_1) (zJ @ev.eq_2 (zJ @ev.eq_3 @ev.eq_4))))) (zJ (zJ (zJ (zJ @C5.eq_1 @C5.eq_2) (zJ @dk0 (zJ @di6 @df8))) (zJ (zJ @df9 @List.map_cons.{0,0}) (zJ @List.map_nil.{0,0} (zJ @List.map_toArray.{0,0} @bB7.eq_1)))) (zJ (zJ (zJ @bB7.eq_2 @cS1) (zJ @cq3.eq_1 (zJ @List.getElem?_toArray.{0} @List.getElem?_cons_zero.{0}))) (zJ (zJ @List.getElem?_cons_succ.{0} @Option.bind_some.{0,0}) (zJ @Option.some.injEq.{0} (zJ @dt7 @Bool.true_eq_false))))))
def O4:=zJ (zJ (zJ (zJ @Option.map_some.{0,0} (zJ @Option.map_none.{0,0} @Int.toNat_zero)) (zJ (zJ @Option.isNone_none.{0} @Option.isNone_some.{0}) (zJ @J9 @bx1.eq_1))) (zJ (zJ @bx1.eq_2 (zJ @cC4.eq_1 @aW4.eq_1)) (zJ (zJ @aW4.eq_2 @cs8.eq_1) (zJ @cs7.eq_1 @TY)))) (zJ (zJ (zJ @Option.isSome_some.{0} (zJ @du6 @Bool.and_true)) (zJ (zJ @dw3 @dp0) (zJ @dh5 @Int.cast_ofNat_Int))) (zJ (zJ @decide_true (zJ @add_lit @dp8)) (zJ (zJ @Nat.zero_mul @Nat.one_mul) (zJ @Bool.not_true @Bool.not_false))))
def bg9(n m:Int):Int:=if m<1 then 0 else if n.tmod m<0 then n.tmod m+m else n.tmod m
theorem cF1(n m:Int)(w:World)(hm1:m≤1000000000):p7 prog 37 #[.int .i64 n,.int .i64 m] w fun v w'=>(v = .int .i64 (bg9 n m)∧w'=w):=by
 refine p8 [.int .i64 n,.int .i64 m] func37 rfl ?_;simp only[J5,O4,B5,E4,simprocAttr];refine m8 (fun h=>?_) (fun h=>?_)
 ·simp only[J5,simprocAttr];refine o6 results37 ?_;simp only[p6,simprocAttr];have h':m<1:=by simpa using h
  exact⟨by rw[bg9,if_pos h'],by trivial⟩
 ·have h':¬m<1:=by simpa using h
  have h0:¬m=0:=by omega
  simp only[J5,B5,E4,simprocAttr,h0];refine m8 (fun h2=>?_) (fun h2=>?_)
  ·have h2':n.tmod m<0:=by simpa using h2
   have h3 : -m<n.tmod m:=by have:=Int.lt_tmod_of_pos n (show 0<m by omega);omega
   have hw:IntKind.i64.wrap (n.tmod m+m)=n.tmod m+m:=L0 _ (by omega);simp only[J5,B5,E4,simprocAttr,hw];refine o6 results37 ?_;simp only[p6,simprocAttr];exact⟨by rw[bg9,if_neg h',if_pos h2'],by trivial⟩
  ·have h2':¬n.tmod m<0:=by simpa using h2
   simp only[J5,simprocAttr];refine o6 results37 ?_;simp only[p6,simprocAttr];exact⟨by rw[bg9,if_neg h',if_neg h2'],by trivial⟩
theorem ad2:E6 prog 112 3 1 8=true:=by kernel_rfl
theorem bn6:E6 prog 149 4 1 1=true:=by kernel_rfl
theorem cZ2:E6 prog 125 128 2 16=true:=by kernel_rfl
theorem bR3:E6 prog 153 112 1 24=true:=by kernel_rfl
theorem be8{α β:Type}(g:β→α→β)(b:β)(l:List α)(k:Nat)(hk:k<l.length):(l.take (k+1)).foldl g b=g ((l.take k).foldl g b) l[k]:=by
 rw[dn2 hk,List.foldl_append];rfl
def Z5(l:List Bool)(k:Nat):List Int:=((List.range k).filter fun i=>l[i]?.getD false).map fun(i:Nat)=>(i:Int)
theorem aN2(l:List Bool)(k:Nat):Z5 l (k+1)=if l[k]?.getD false then Z5 l k++[(k:Int)]else Z5 l k:=by
 unfold Z5;rw[dx4,du2,dp4];by_cases h:l[k]?.getD false=true<;>simp[h]
theorem bF9(l:List Bool)(k:Nat):(Z5 l k).length≤k:=by
 unfold Z5;rw[dn7];exact dn4 (dp2 _ _) (by simp)
theorem bP4(v:Value)(l:List Bool)(w:World)(hv:R (i4 w) v l)(hl:l.length≤1000000):p7 prog 188 #[v] w fun u w'=>(A8 (i4 w) w' 3 u (Z5 l l.length)∧o7 w w'):=by
 refine p8 [v] func188 rfl ?_;have hS:=hv.isS;have hn:=hv.vlen;simp only[J5,O4,B5,E4,unV,aJ5,z6,U4,H8,P8,I6.val,simprocAttr,hS,hn];refine n9 [6,7] (σ:=Nat) (fun k f w'=>f 8 = .int .i64 k∧k≤l.length∧A8 (i4 w) w' 3 (f 3) (Z5 l k)∧o7 w w') (fun k=>l.length-k) 0 ?_ ?_
 ·simp only[p6,simprocAttr];exact⟨by first|rfl|trivial,dn5 _,A8.nil _ _ _,p9.refl _⟩
 ·rintro k f w' hk ⟨h8,hkl,ho,hx⟩;simp only[dm6,p6,simprocAttr]at hk;obtain⟨e6,e7,_⟩:=hk;simp only[J5,O4,B5,E4,unV,aJ5,z6,U4,H8,P8,I6.val,simprocAttr,h8,e6,e7];refine m8 (fun hc=>?_) (fun hc=>?_)
  ·have hlt:k<l.length:=by simpa using hc
   have hin:=hv.inS hlt;have hld:=M9 (P:=prog) (t:=4) hv (b7 hx) (dm4 hlt) aj7;simp only[J5,O4,B5,E4,unV,aJ5,z6,U4,H8,P8,I6.val,simprocAttr,h8,e6,e7,hin,hld];refine m8 (fun hc2=>?_) (fun hc2=>?_)
   ·have hlen:=bF9 l k;obtain⟨h1,u',w2,h2,h3,h4,h5⟩:=push (e:=112) ad2 rfl ho (x:=.int .i64 k) (y:=(k:Int)) rfl (by omega) (by omega) (b7 hx);simp only[Value.cells]at h1 h2;simp only[J5,O4,B5,E4,unV,aJ5,z6,U4,H8,P8,I6.val,simprocAttr,h8,e6,e7,h1,h2,Value.cells];refine⟨k+1,by omega,by rw[B0 k (by omega)],by omega,?_,ho.ext2 hx h4⟩;rw[aN2,if_pos (by simp[hlt,hc2])];exact h3
   ·simp only[J5,O4,B5,E4,unV,aJ5,z6,U4,H8,P8,I6.val,simprocAttr,h8,e6,e7];refine⟨k+1,by omega,by rw[B0 k (by omega)],by omega,?_,hx⟩;rw[aN2,if_neg (by simp[hlt,hc2])];exact ho
  ·have hge:k=l.length:=by simp at hc;omega
   subst hge;simp only[J5,O4,B5,E4,unV,aJ5,z6,U4,H8,P8,I6.val,simprocAttr];refine o6 results188 ?_;simp only[p6,simprocAttr];exact⟨ho,hx⟩
theorem cL0(w:World)(a b:Int):
  (Instr.alloc 128 true (.tuple #[])).run prog w = .ok (.pointer (some ⟨w.heap.size,0,none⟩)) (w.alloc (.cells #[.int .i64 0,.int .i64 0] 128)) ∧
  (Instr.storeAt 128 (.pointer (some ⟨w.heap.size,0,none⟩)) (.agg #[.int .i64 a,.int .i64 b])).run prog (w.alloc (.cells #[.int .i64 0,.int .i64 0] 128)) =
   .ok () (w.alloc (.cells #[.int .i64 a,.int .i64 b] 128)):=
 aN3 (P:=prog) (T:=128) cz0 (by rw[bk7];rfl) (cs:=#[.int .i64 a,.int .i64 b]) (by rw[bk7];rfl) (by simp[Value.oneCell'])
theorem cK8(w:World)(a b:Int):(Instr.loadAt 3 (.pointer (some ⟨w.heap.size,0,none⟩))).run prog (w.alloc (.cells #[.int .i64 a,.int .i64 b] 128)) = .ok (.int .i64 a) (w.alloc (.cells #[.int .i64 a,.int .i64 b] 128)):=
 cs3 (by rfl) F4
theorem cK9(w:World)(a b:Int):(Instr.loadAt 3 (.pointer (some ⟨w.heap.size,1,none⟩))).run prog (w.alloc (.cells #[.int .i64 a,.int .i64 b] 128)) = .ok (.int .i64 b) (w.alloc (.cells #[.int .i64 a,.int .i64 b] 128)):=
 cs3 (by rfl) F4
theorem ldP{h:Hp}{w:World}{v:Value}{xs:List (Int×Int)}(hr:R h v xs)(hw:B4 h (i4 w)){k:Nat}{x:Int×Int}(hk:xs[k]?=some x):
  (Instr.loadAt 128 (.pointer (some (G9 v (k*2))))).run prog w = .ok (.agg #[.int .i64 x.1,.int .i64 x.2]) w:=
 bY1 hr hw hk cw9 cy5 bT0 bk7
def aV5(n:Nat)(e:Int×Int):Prop:=0≤e.1∧e.1<n∧0≤e.2∧e.2<n
end Go.Proofs.YtcbnbgpphippoaaGreat
namespace Go.Proofs
open Go.Shelf
def Tryz.layI_ren:Go.Shelf.Ren:=⟨fun|21=>261|27=>279|28=>280|35=>284|39=>286|n=>n,fun|22=>112|3=>3|4=>4|0=>0|n=>n,fun|n=>n⟩
theorem Tryz.layI:Go.Proofs.Lays2.n21 Tryz.prog Tryz.layI_ren:={
 mixed:=by kernel_rfl
 f21:=Tryz.func261.trans (congrArg some (by kernel_rfl))
 f27:=Tryz.func279.trans (congrArg some (by kernel_rfl))
 f28:=Tryz.func280.trans (congrArg some (by kernel_rfl))
 f35:=Tryz.func284.trans (congrArg some (by kernel_rfl))
 f39:=Tryz.func286.trans (congrArg some (by kernel_rfl))
 t0:=Tryz.underlying0
 a0:=Tryz.isAgg0
 z0:=Tryz.sizeOf0
 v0:=Tryz.zeroValue0
 t3:=Tryz.underlying3
 a3:=Tryz.isAgg3
 z3:=Tryz.sizeOf3
 v3:=Tryz.zeroValue3
 t4:=Tryz.underlying4
 a4:=Tryz.isAgg4
 z4:=Tryz.sizeOf4
 v4:=Tryz.zeroValue4
 t22:=Tryz.underlying112
 a22:=Tryz.isAgg112
 z22:=Tryz.sizeOf112
 v22:=Tryz.zeroValue112
 i3:=by kernel_rfl}
def Tryz.layB_ren:Go.Shelf.Ren:=⟨fun|25=>260|31=>277|32=>278|37=>139|n=>n,fun|22=>112|3=>3|4=>4|40=>165|0=>0|n=>n,fun|n=>n⟩
theorem Tryz.layB:Go.Proofs.Lays2.n25 Tryz.prog Tryz.layB_ren:={
 mixed:=by kernel_rfl
 f25:=Tryz.func260.trans (congrArg some (by kernel_rfl))
 f31:=Tryz.func277.trans (congrArg some (by kernel_rfl))
 f32:=Tryz.func278.trans (congrArg some (by kernel_rfl))
 f37:=Tryz.func139.trans (congrArg some (by kernel_rfl))
 t0:=Tryz.underlying0
 a0:=Tryz.isAgg0
 z0:=Tryz.sizeOf0
 v0:=Tryz.zeroValue0
 t3:=Tryz.underlying3
 a3:=Tryz.isAgg3
 z3:=Tryz.sizeOf3
 v3:=Tryz.zeroValue3
 t4:=Tryz.underlying4
 a4:=Tryz.isAgg4
 z4:=Tryz.sizeOf4
 v4:=Tryz.zeroValue4
 t22:=Tryz.underlying112
 a22:=Tryz.isAgg112
 z22:=Tryz.sizeOf112
 v22:=Tryz.zeroValue112
 t40:=Tryz.underlying165
 a40:=Tryz.isAgg165
 z40:=Tryz.sizeOf165
 v40:=Tryz.zeroValue165}
end Go.Proofs
namespace Go.Proofs.YtcbnbgpphippoaaGreat
open Go Tryz
def L8(l:List Int):List Value:=l.map (Value.int .i64)
theorem L7{h:Hp}:∀{l:List Int} {cs:List Value},N0 h cs l↔cs=L8 l
 | [],cs=>dt6
 | x::l,cs=>by
  constructor
  ·rintro⟨c1,c2,rfl,h1,h2⟩;have h1':c1=[.int .i64 x]:=h1;rw[h1',L7.1 h2];rfl
  ·rintro rfl;exact⟨[.int .i64 x],L8 l,rfl,rfl,L7.2 rfl⟩
theorem bF5(l:List Int):∀v∈L8 l,v.oneCell'=true:=by
 intro v hv;obtain⟨x,_,rfl⟩:=dp7.1 hv;rfl
theorem cr3{l:List Int}{j:Nat}(hj:j<l.length):(L8 l)[j]?=some (.int .i64 (l.getD j 0)):=by
 simp[L8,dp9,dm4 hj,List.getD]
theorem U1{b:Nat}{T:TypeId}:∀(vs:List Value) (off:Nat) (w:World) (cur:Array Value),w.heap[b]?=some (.cells cur T (0,0))→off+vs.length≤cur.size →
  (w.setCells b off vs).heap[b]?=some (.cells (cur.toList.take off++vs++cur.toList.drop (off+vs.length)).toArray T (0,0))
 | [],off,w,cur,hb,_=>by simp[World.setCells,hb]
 | v::vs,off,w,cur,hb,hl=>by
  simp only[do7]at hl;have h1:=heap_setCell_same w b off cur T v hb;rw[World.setCells,U1 vs (off+1) _ _ h1 (by simp;omega)];have hlen:cur.toList.length=cur.size:=by simp
  simp only[Array.toList_setIfInBounds,do7]
  congr 3
  rw[List.take_set,dn2 (by omega),List.set_append_right (h:=by simp;omega)];have e1:off-(cur.toList.take off).length=0:=by simp;omega
  rw[e1,List.drop_set_of_lt (by omega)];simp[do8,dw1,Nat.add_comm 1]
theorem X0{b:Nat}{M:Nat→Prop}(hM:M b):∀(vs:List Value) (off:Nat) (w:World),p9 M w (w.setCells b off vs)
 | [],_,w=>p9.refl w
 | v::vs,off,w=>(p9.setCell w ⟨b,off,none⟩ v hM).trans (X0 hM vs (off+1) _)
theorem p9.drew{M:Nat→Prop}(w:World):p9 M w w.drew:=(o7.drew w).weaken fun _ _ h=>h.elim
theorem p9.alloc{M:Nat→Prop}(w:World)(o:Obj):p9 M w (w.alloc o):=(o7.alloc w o).weaken fun _ _ h=>h.elim
theorem p9.drewN{M:Nat→Prop}(w:World)(q:Nat):p9 M w (w.drewN q):=⟨rfl,rfl,rfl,dn9 _,fun _ _ _=>rfl⟩
section
variable {h:Hp} {w:World} {v:Value} {l:List Int}
theorem bH4(ho:A8 h w 3 v l):(v = .slice none 0 0∧l=[])∨∃b c cur,v = .slice (some ⟨b,0,none⟩) l.length c∧h b=none∧w.heap[b]?=some (.cells cur 3 (0,0))∧l.length≤c∧c≤maxLen∧cur.size=c∧cur.toList.take l.length=L8 l:=by
 rcases ho with hn|⟨b,c,cur,e,h1,h2,h3,h4,h5,h6⟩
 ·exact .inl hn
 ·refine .inr ⟨b,c,cur,e,h1,h2,h3,h4,by simpa[A3.sz]using h5,?_⟩;have:=L7.1 h6;have h7:l.length*A3.sz Int=l.length:=dw3 _;rw[h7]at this;exact this
theorem aY2{b c:Nat}{cur:Array Value}(h1:h b=none)(h2:w.heap[b]?=some (.cells cur 3 (0,0)))(h3:l.length≤c)(h4:c≤maxLen)(h5:cur.size=c)(h6:cur.toList.take l.length=L8 l):
  A8 h w 3 (.slice (some ⟨b,0,none⟩) l.length c) l:=by
 refine .inr ⟨b,c,cur,rfl,h1,h2,h3,h4,by rw[h5];exact(dw3 c).symm,?_⟩;have h7:l.length*A3.sz Int=l.length:=dw3 _;rw[h7,h6];exact L7.2 rfl
theorem cO2:(Tryz.layI_ren.f 21)=261:=by kernel_rfl
theorem cO1:(Tryz.layB_ren.f 25)=260:=by kernel_rfl
theorem bg3:(Tryz.layI_ren.t 3)=3:=by kernel_rfl
theorem bi7(x:Int)(ho:A8 h w 3 v l)(hl:l.length≤1000000000)(hs:l.Pairwise (· ≤ ·)):
  p7 prog 260 #[v,.int .i64 x] w fun u w'=>(u = .tuple #[.int .i64 (l.countP (· < x):Nat),.bool (l.contains x)]∧o7 w w'):=by
 rw[←cO1];rcases bH4 ho with⟨rfl,rfl⟩|⟨b,c,cur,rfl,h1,h2,h3,h4,h5,h6⟩
 ·refine(Any.slices_BinarySearch_int_empty Tryz.layB none 0 x w).mono ?_;rintro e w' ⟨rfl,rfl⟩;exact⟨_,rfl,rfl,p9.refl _⟩
 ·refine(Any.slices_BinarySearch_int Tryz.layB b 0 l.length c l x w (dn9 _) (by omega) ?_ (by rw[dn6];exact hs)).mono ?_
  ·intro j hj;rw[dp8,du1 w b j cur _ (0,0) h2];have:=cr3 hj;rw[←h6,dw6,if_pos hj]at this;simpa using this
  ·rintro e w' ⟨rfl,q,rfl⟩;rw[dn6];exact⟨_,rfl,rfl,p9.drewN _ _⟩
theorem bf9(x:Int)(i c1:Nat)(w0:World)(hw0:w=w0.alloc (.cells #[.int .i64 x] 3))(ho:A8 h w0 3 v l)(hi:i≤l.length)(hl:l.length≤1000000000)(hw:B4 h (i4 w0)):
  p7 prog 261 #[v,.int .i64 i,.slice (some ⟨w0.heap.size,0,none⟩) 1 c1] w fun u w'=>(A8 h w' 3 u (l.take i++x::l.drop i)∧p9 (A4 v) w0 w'∧D7 w0 v u):=by
 rw[←cO2];have hm0:p9 (A4 v) w0 w:=by rw[hw0];exact p9.alloc _ _
 have hnb:w.heap[w0.heap.size]?=some (.cells #[.int .i64 x] 3 (0,0)):=by rw[hw0];exact dq7 w0 _
 have hsz:w.heap.size=w0.heap.size+1:=by rw[hw0];simp
 have hvs:∀(j:Nat) (u:Value),[Value.int .i64 x][j]?=some u→w.cell? ⟨w0.heap.size,0+j,none⟩=some u:=by
  intro j u hj;rw[dp8,du1 w _ j _ _ (0,0) hnb];simpa using hj
 have h1v:∀v∈[Value.int .i64 x],v.oneCell'=true:=by simp[Value.oneCell']
 have hE:o7 w0 w:=by rw[hw0];exact o7.alloc _ _
 have how:A8 h w 3 v l:=ho.ext hE;have hww:B4 h (i4 w):=v8 hw (b7 hE);have fresh:∀(w':World) (cells:Array Value) (n c:Nat),o7 w w'→w'.heap[w.heap.size]?=some (.cells cells 3 (0,0))→n=l.length+1→n≤c→c≤maxLen→cells.size=c →
   cells.toList.take n=L8 (l.take i++x::l.drop i) →
   A8 h w' 3 (.slice (some ⟨w.heap.size,0,none⟩) n c) (l.take i++x::l.drop i)∧p9 (A4 v) w0 w'∧D7 w0 v (.slice (some ⟨w.heap.size,0,none⟩) n c):=by
  intro w' cells n c he hh hn hc hcm hs hcl;have hlen:(l.take i++x::l.drop i).length=n:=by simp;omega
  refine⟨?_,hm0.trans (he.weaken fun _ _ h=>h.elim),fun b hb=>by simp[A4,Value.ownBlock]at hb;exact .inr (by omega)⟩;have:=aY2 (h:=h) (w:=w') (l:=l.take i++x::l.drop i) (aw4 hww (dn9 _)) hh (by omega) hcm hs (by rw[hlen];exact hcl);rw[hlen]at this;exact this
 rcases bH4 how with⟨rfl,rfl⟩|⟨b,c,cur,rfl,h1,h2,h3,h4,h5,h6⟩
 ·have hi0:i=0:=by simpa using hi
  subst hi0;refine(Any2.slices_Insert_int_end_grow Tryz.layI none 0 0 w0.heap.size 0 1 c1 [] [.int .i64 x] w (by omega) (by omega) (by omega) (by omega) rfl rfl (fun _=>rfl) (fun a ha=>by cases ha) hvs h1v).mono ?_;rintro e w' ⟨rfl,rfl⟩;refine⟨_,rfl,fresh _ _ _ _ ((o7.drew w).trans (o7.alloc _ _)) (by rw[bg3];exact dq7 w.drew _) rfl (grownCap_ge _ _ _ _) (grownCap_le_maxLen _ _ _ _ (by decide)) ?_ ?_⟩
  ·have:=grownCap_ge w 1 0 (Tryz.layI_ren.t 3);rw[bg3]at this ⊢;simp[size_zeroCells,Value.cells]at this ⊢;omega
  ·simp[L8]
 ·have hcs:(L8 l).length=l.length:=by simp[L8]
  have hcell:∀j,w.cell? ⟨b,j,none⟩=cur[j]?:=fun j=>du1 w b j cur _ (0,0) h2;have hcells:∀(j:Nat) (u:Value),(L8 l)[j]?=some u→w.cell? ⟨b,0+j,none⟩=some u:=by
   intro j u hj;rw[dp8,hcell];rw[←h6,dw6]at hj;split at hj
   ·simpa using hj
   ·cases hj
  have hsome:∀j,j<c→(w.cell? ⟨b,0+j,none⟩).isSome=true:=by
   intro j hj;rw[dp8,hcell];simp[h5,hj]
  have hfz:∀j,w.frozen? ⟨b,j,none⟩=false:=fun j=>by simp[World.frozen?,h2]
  have hcl:cur.toList.length=c:=by simpa using h5
  have hbne:w0.heap.size≠b:=by
   intro e;have:=ho.lt (b:=b) (by simp[A4,Value.ownBlock]);omega
  have inplace:∀(w':World) (cells:Array Value),p9 (fun k=>k=b) w w'→w'.heap[b]?=some (.cells cells 3 (0,0))→l.length+1≤c→cells.size=c →
    cells.toList.take (l.length+1)=L8 (l.take i++x::l.drop i) →
    A8 h w' 3 (.slice (some ⟨b,0,none⟩) (l.length+1) c) (l.take i++x::l.drop i)∧p9 (A4 (.slice (some ⟨b,0,none⟩) l.length c)) w0 w'∧D7 w0 (.slice (some ⟨b,0,none⟩) l.length c) (.slice (some ⟨b,0,none⟩) (l.length+1) c):=by
   intro w' cells hm hh hc hs hcl;have hlen:(l.take i++x::l.drop i).length=l.length+1:=by simp;omega
   refine⟨?_,hm0.trans (hm.weaken fun k _ hk=>by simp[A4,Value.ownBlock,hk]),fun k hk=>.inl (by simpa[A4,Value.ownBlock]using hk)⟩;have:=aY2 (h:=h) (w:=w') (l:=l.take i++x::l.drop i) (c:=c) h1 hh (by omega) h4 hs (by rw[hlen];exact hcl);rw[hlen]at this;exact this
  have hsplit:L8 (l.take i++x::l.drop i)=(L8 l).take i ++ .int .i64 x::(L8 l).drop i:=by simp[L8]
  by_cases hin:i=l.length
  ·subst hin;by_cases hroom:l.length+1≤c
   ·refine(Any2.slices_Insert_int_end_room Tryz.layI b 0 l.length c w0.heap.size 0 1 c1 [.int .i64 x] w (by omega) hroom h4 rfl (fun j hj=>?_) (fun j hj=>hfz _) hvs h1v).mono ?_
    ·rw[dp8];have:=hsome (l.length+j) (by omega)
     rwa [dp8]at this
    ·rintro e w' ⟨rfl,rfl⟩;have hh:=U1 [Value.int .i64 x] (0+l.length) w cur h2 (by simp;omega);refine⟨_,rfl,inplace _ _ (X0 (M:=fun k=>k=b) rfl _ _ _) hh hroom ?_ ?_⟩
     ·simp[h5];omega
     ·rw[hsplit,dp8,h6];have e1:(L8 l).take l.length=L8 l:=by rw[←hcs,dn6]
      have e2:(L8 l).drop l.length=[]:=by rw[←hcs,dv6]
      rw[e1,e2];have e6:(L8 l++[Value.int .i64 x]).length=l.length+1:=by simp[hcs]
      simp only[];rw[←e6,dv9]
   ·refine(Any2.slices_Insert_int_end_grow Tryz.layI (some ⟨b,0,none⟩) l.length c w0.heap.size 0 1 c1 (L8 l) [.int .i64 x] w (by omega) h3 (by omega) (by omega) hcs rfl (fun h=>by cases h) (fun a ha j u hj=>?_) hvs h1v).mono ?_
    ·obtain rfl:=do2 ha;rw[Addr.add_lit];exact hcells j u hj
    ·rintro e w' ⟨rfl,rfl⟩;have hg:=grownCap_ge w (l.length+1) c (Tryz.layI_ren.t 3);refine⟨_,rfl,fresh _ _ _ _ ((o7.drew w).trans (o7.alloc _ _)) (by rw[bg3];exact dq7 w.drew _) rfl hg (grownCap_le_maxLen _ _ _ _ (by simp only[maxLen];omega)) ?_ ?_⟩
     ·rw[bg3]at hg ⊢;simp[size_zeroCells,Value.cells,hcs]at hg ⊢;omega
     ·rw[hsplit];have e1:(L8 l).take l.length=L8 l:=by rw[←hcs,dn6]
      have e2:(L8 l).drop l.length=[]:=by rw[←hcs,dv6]
      rw[e1,e2];simp only[Array.toList_append];rw[dv2 (by simp[hcs])];rw[dr1 (by simp[hcs])]
  ·have hlt:i<l.length:=by omega
   by_cases hroom:l.length+1≤c
   ·refine(Any2.slices_Insert_int_shift Tryz.layI b 0 l.length c i w0.heap.size 0 1 c1 (L8 l) [.int .i64 x] w hlt (by omega) hroom h4 hbne hcs rfl hcells (fun j hj=>hsome j (by omega)) (fun j _=>hfz _) hvs (bF5 l) h1v
     3 3 1 c (by simp[World.shape?,hnb]) (by simp[World.shape?,h2,h5]) (by omega) (by simp[World.frozen?,hnb]) (by simp[World.frozen?,hnb])).mono ?_
    rintro e w' ⟨rfl,rfl⟩;have hd:((L8 l).drop i).length=l.length-i:=by simp[hcs]
    have hh1:=U1 ((L8 l).drop i) (0+(i+1)) w.drew cur h2 (by rw[hd];omega);have hh2:=U1 [Value.int .i64 x] (0+i) _ _ hh1 (by simp[hd];omega);refine⟨_,rfl,inplace _ _ ((p9.drew w).trans ((X0 (M:=fun k=>k=b) rfl _ _ _).trans (X0 (M:=fun k=>k=b) rfl _ _ _))) hh2 hroom ?_ ?_⟩
    ·simp[hd];omega
    ·rw[hsplit];simp only[dp8,dp3];have e1:(L8 l).take i=cur.toList.take i:=by rw[←h6,List.take_take];congr 1;omega
     have e3:(cur.toList.take (i+1)).length=i+1:=by rw[dn8,hcl];omega
     have e4:(cur.toList.take (i+1)++(L8 l).drop i++cur.toList.drop (i+1+((L8 l).drop i).length)).take i=cur.toList.take i:=by
      rw[do8,dv2 (by omega),List.take_take];congr 1;omega
     have e5:(cur.toList.take (i+1)++(L8 l).drop i++cur.toList.drop (i+1+((L8 l).drop i).length)).drop (i+1)=(L8 l).drop i++cur.toList.drop (i+1+((L8 l).drop i).length):=by
      rw[do8,List.drop_append_of_le_length (by omega),List.drop_of_length_le (by omega),dx1]
     rw[e4,e5,e1];have e6:(cur.toList.take i++[Value.int .i64 x]++(L8 l).drop i).length=l.length+1:=by simp[hcs];omega
     rw[←do8,←e6,dv9];simp
   ·refine(Any2.slices_Insert_int_grow Tryz.layI b 0 l.length c i w0.heap.size 0 1 c1 (L8 l) [.int .i64 x] w hlt (by omega) h3 (by omega) (by omega) hcs rfl hcells hvs (bF5 l) h1v).mono ?_;rintro e w' ⟨rfl,rfl⟩;have hg:=grownCap_ge w (l.length+1) c (Tryz.layI_ren.t 3);have hgm:=grownCap_le_maxLen w (l.length+1) c (Tryz.layI_ren.t 3) (by simp only[maxLen];omega);generalize grownCap w (l.length+1) c (Tryz.layI_ren.t 3)=cap at hg hgm;have hzc:(Value.int .i64 0).cells.size=1:=rfl;generalize hcv:((L8 l).take i).toArray++Builtin.zeroCells (Value.int .i64 0).cells (l.length+1-i)++Builtin.zeroCells (Value.int .i64 0).cells (cap-(l.length+1))=cv;have hcvs:cv.size=cap:=by
     rw[←hcv];simp[size_zeroCells,hzc,hcs];omega
    have hcvt:cv.toList.take i=(L8 l).take i:=by
     rw[←hcv];simp only[Array.toList_append,do8];rw[dv2 (by simp[hcs];omega),dr1 (by simp;omega)]
    have hcvl:cv.toList.length=cap:=by simpa using hcvs
    have hh0:((w.alloc (.cells cv (Tryz.layI_ren.t 3))).drew).heap[w.heap.size]?=some (.cells cv 3 (0,0)):=by rw[bg3];exact dq7 w _
    have hd:((L8 l).drop i).length=l.length-i:=by simp[hcs]
    have hh1:=U1 [Value.int .i64 x] i _ _ hh0 (by simp;omega);have hh2:=U1 ((L8 l).drop i) (i+1) _ _ (show((((w.alloc (.cells cv (Tryz.layI_ren.t 3))).drew).setCells w.heap.size i [Value.int .i64 x]).drew).heap[w.heap.size]?=_ from hh1) (by simp[hd];omega);refine⟨_,rfl,fresh _ _ _ _ ?_ hh2 rfl hg hgm ?_ ?_⟩
    ·refine p9.ext_of (o7.alloc w (.cells cv (Tryz.layI_ren.t 3))) (M:=fun k=>k=w.heap.size) ?_ (fun k hk=>by omega);exact(p9.drew _).trans ((X0 (M:=fun k=>k=w.heap.size) rfl _ _ _).trans ((p9.drew _).trans (X0 (M:=fun k=>k=w.heap.size) rfl _ _ _)))
    ·simp[hd];omega
    ·rw[hsplit];simp only[dp3];have e3:(cv.toList.take i++[Value.int .i64 x]).length=i+1:=by simp[hcvl];omega
     have e4:(cv.toList.take i++[Value.int .i64 x]++cv.toList.drop (i+1)).take (i+1)=cv.toList.take i++[Value.int .i64 x]:=by
      rw[←e3,dv9]
     rw[e4,hcvt];have e6:((L8 l).take i++[Value.int .i64 x]++(L8 l).drop i).length=l.length+1:=by simp[hcs];omega
     rw[←e6,dv9];simp
end
theorem cF0(v:Value)(x:Int)(l:List Int)(w:World)(hv:R (i4 w) v (x::l))(hl:l.length≤1000000000):
  p7 prog 272 #[v] w fun u w'=>(u = .int .i64 (l.foldl min x)∧w'=w):=by
 refine p8 [v] func272 rfl ?_;have hS:=hv.isS;have hn:=hv.vlen;simp only[do7]at hn;have h1:decide (((l.length+1:Nat):Int)<1)=false:=by simp;omega
 have hin:=hv.inS (k:=0) (by simp);have hld:=M9 (P:=prog) (t:=3) hv (d7 _) (k:=0) (x:=x) (by rfl) F4;simp only[J5,O4,B5,E4,unV,aJ5,z6,U4,H8,P8,I6.val,simprocAttr,hS,hn,h1,hin,hld];refine n9 [0] (σ:=Nat) (fun k f w'=>f 4 = .int .i64 ((k+1:Nat):Int)∧k≤l.length∧f 3 = .int .i64 ((l.take k).foldl min x)∧w'=w) (fun k=>l.length-k) 0 ?_ ?_
 ·simp only[p6,simprocAttr];exact⟨by first|rfl|trivial,dn5 _,by simp[I6.val],by trivial⟩
 ·rintro k f w' hk ⟨h4,hkl,h3,rfl⟩;simp only[dm6,p6,simprocAttr]at hk;obtain⟨e0,_⟩:=hk;simp only[J5,O4,B5,E4,unV,aJ5,z6,U4,H8,P8,I6.val,simprocAttr,h4,e0,hS,hn];refine m8 (fun hc=>?_) (fun hc=>?_)
  ·have hlt:k<l.length:=by simp at hc;omega
   have hin2:=hv.inS (k:=k+1) (by simp;omega);have hld2:=M9 (P:=prog) (t:=3) hv (d7 _) (k:=k+1) (x:=l[k]) (by simp[hlt]) F4;have hst:=be8 min x l k hlt;simp only[J5,O4,B5,E4,unV,aJ5,z6,U4,H8,P8,I6.val,simprocAttr,h4,h3,e0,hS,hn,hin2,hld2];have hmin:∀a b:Int,(if b<a then b else a)=min a b:=fun a b=>by
    simp only[Int.min_def];split<;>split<;>omega
   refine⟨k+1,by omega,by rw[B0 (k+1) (by omega)],by omega,by rw[hst,hmin],by trivial⟩
  ·have hge:k=l.length:=by simp at hc;omega
   subst hge;simp only[J5,O4,B5,E4,unV,aJ5,z6,U4,H8,P8,I6.val,simprocAttr,h3];refine o6 results272 ?_;simp only[p6,simprocAttr];rw[dn6];exact⟨by trivial,by trivial⟩
theorem bM5(v:Value)(l:List Int)(w:World)(hv:R (i4 w) v l)(hl:l.length≤1000000000):
  p7 prog 273 #[v] w fun u w'=>(A8 (i4 w) w' 3 u l∧o7 w w'):=by
 refine p8 [v] func273 rfl ?_;have hS:=hv.isS;have hb:B5 prog .eql 112 v (.slice none 0 0)=some (.bool (bG9 v)):=by
  obtain⟨a,n,c,he,_⟩:=hv;simp at he;subst he;simp[B5,Go.Proofs.YtcbnbgpphippoaaGreat.isS,cQ6]
 obtain⟨u0,w0,hb0,ho0,hx0,hf0⟩:=cO5 (P:=prog) (w:=w) (h:=i4 w) (α:=Int) ad2 (d7 _);obtain⟨u1,w1,ha,ho1,hm1,hv1⟩:=af6 (P:=prog) (e:=112) ad2 rfl ho0 hv (by simp;omega) (by simp;omega) (b7 hx0);simp only[J5,simprocAttr,hb];refine m8 (fun hc=>?_) (fun hc=>?_)
 ·simp only[J5,simprocAttr];refine o6 results273 ?_;simp only[p6,simprocAttr];obtain⟨a,n,c,he,hn,hnc,es,hes,hce⟩:=hv;simp at he;subst he;cases a with
  | some a=>simp[bG9]at hc
  | none=>
   have hes0:es=[]:=by
    cases es with
    | nil=>rfl
    | cons x _=>obtain⟨ad,e,_⟩:=hce 0 x rfl;cases e
   subst hes0;have:=J8 hes;have hl0:l=[]:=by
    cases l with
    | nil=>rfl
    | cons _ _=>simp[A3.sz]at this
   subst hl0;exact⟨A8.nil _ _ _,p9.refl _⟩
 ·simp only[J5,simprocAttr,hb0,ha];refine o6 results273 ?_;simp only[p6,simprocAttr];exact⟨by simpa using ho1,ho0.ext2 hx0 hm1⟩
section
variable {α:Type} [A3 α] {P:Program} {h:Hp} {w:World} {t T sz by_:Nat} {v:Value} {x:α}
theorem bC2(hv:SV h v x)(hw:B4 h (i4 w)):∃a w',(Instr.box T v).run P w = .ok (.pointer (some a)) w'∧Gr w w'∧At (i4 w') a x:=by
 obtain⟨cs,rfl,he⟩:=hv;have hx:=o7.alloc w (.cells (List.toArray cs) T);refine⟨⟨w.heap.size,0,none⟩,w.alloc (.cells (List.toArray cs) T),rfl,Gr.alloc _ _,cs,A3.mono (v8 hw (b7 hx)) he,fun j u hj=>?_⟩;rw[←al1,add_lit,dp8,dy2];simpa using hj
theorem cE8(hs:E6 P t T sz by_=true){xs:List Value}{ys:List α}{parts:Array (Nat×Value)}{n:Nat}(hp:parts.toList=(xs.zipIdx 0).map fun p=>(p.2,p.1))
  (he:N0 h (xs.flatMap (·.cells.toList)) ys) (hx:∀x∈xs,x.cells.size=sz) (hn:n=xs.length) (hyl:ys.length=xs.length) (hne:xs≠[]) (hlt:xs.length≤16) (hw:B4 h (i4 w)) :
  ∃v w',(Instr.buildSlice t n parts).run P w = .ok v w'∧A8 h w' T v ys∧Gr w w':=by
 obtain⟨h1,⟨z,hz,hzs⟩,h3,h4,h5,h6⟩:=Q0 hs;obtain⟨i,hi,hiz⟩:=z7 hz;have hr:=ap8 (w:=w) h1 (by rw[hi];rfl) hz xs (by rw[h3];exact hx) hne (by omega) (dn4 (Nat.mul_le_mul hlt (show K1 P T≤1000000 by omega)) (by omega)) hp hn;refine⟨_,_,hr,.inr ⟨w.heap.size,n,_,by rw[hn,hyl],aw4 hw (dn9 _),dq7 w _,by omega,by rw[hn];simp only[maxLen];omega,?_,?_⟩,Gr.alloc _ _⟩
 ·have:=J8 he;simp only[dw2,this,hyl,hn]
 ·rw[←J8 he];simp only[dn6];exact he
theorem SV.ofN[A5 α](h:Hp)(x:α):SV h (.agg (A5.cells x).toArray) x:=⟨_,rfl,(A5.iff_ _ _ _).2 rfl⟩
end
theorem bG6(s:Int)(w:World):p7 prog 139 #[.int .i64 s] w fun u w'=>(u = .bool false∧w'=w):=by
 refine p8 [.int .i64 s] func139 rfl ?_;have hd:decide (s=s)=true:=by simp
 simp only[n7,n8,simprocAttr];refine o6 results139 ?_;simp only[p6,simprocAttr];exact⟨by trivial,by trivial⟩
theorem S7(a b:Int)(w:World):p7 prog 92 #[.int .i64 a,.int .i64 b] w fun u w'=>(u = .int .i64 (J2 a b)∧w'=w):=by
 refine p8 [.int .i64 a,.int .i64 b] func92 rfl ?_;simp only[n7,n8,simprocAttr];refine C8 (bG6 a w) ?_;simp only[n7,simprocAttr];refine C8 (bG6 b w) ?_;have hF:J2 a b=if a<b then -1 else if b<a then 1 else 0:=rfl;rcases dm5 (decide (a<b))with h1|h1
 ·simp only[n7,n8,simprocAttr,h1];refine o6 results92 ?_;simp only[p6,simprocAttr];exact⟨by rw[hF,if_pos (dm8 h1)],by trivial⟩
 rw[if_neg (dm9 h1)]at hF;rcases dm5 (decide (b<a))with h2|h2
 ·simp only[n7,n8,simprocAttr,h1,h2];refine o6 results92 ?_;simp only[p6,simprocAttr];exact⟨by rw[hF,if_pos (dm8 h2)],by trivial⟩
 ·simp only[n7,n8,simprocAttr,h1,h2];refine o6 results92 ?_;simp only[p6,simprocAttr];exact⟨by rw[hF,if_neg (dm9 h2)],by trivial⟩
theorem av5(a b:A7)(w:World):p7 prog 94 #[o9 a,o9 b] w fun u w'=>(u = .int .i64 (ae7 a b)∧w'=w):=by
 refine p8 [o9 a,o9 b] func94 rfl ?_;simp only[n7,n8,simprocAttr];refine C8 (bh0 a w) ?_;simp only[n7,simprocAttr];refine C8 (bh0 b w) ?_;have hF:ae7 a b=if U9 a b then -1 else if U9 b a then 1 else 0:=rfl;have hgt:(!(U9 a b||decide (a=b)))=(!U9 a b&&U9 b a):=by
  cases h1:U9 a b<;>cases h2:U9 b a
  ·have:=bx9 h1 h2;subst this;simp
  ·have:a≠b:=fun e=>by subst e;rw[I1]at h2;cases h2
   simp[this]
  ·rfl
  ·rfl
 rcases dm5 (U9 a b)with h1|h1
 ·simp only[n7,n8,simprocAttr,h1];refine o6 results94 ?_;simp only[p6,simprocAttr];exact⟨by rw[hF,if_pos h1],by trivial⟩
 rw[if_neg (by rw[h1];simp)]at hF;rw[h1]at hgt;simp only[dx9,Bool.not_false,du6]at hgt;have hg2:B5 prog .gtr 9 (o9 a) (o9 b)=some (.bool (U9 b a)):=by rw[cB8,h1,dx9,hgt]
 rcases dm5 (U9 b a)with h2|h2
 ·simp only[n7,n8,simprocAttr,h1,h2,hg2];refine o6 results94 ?_;simp only[p6,simprocAttr];exact⟨by rw[hF,if_pos h2],by trivial⟩
 ·simp only[n7,n8,simprocAttr,h1,h2,hg2];refine o6 results94 ?_;simp only[p6,simprocAttr];exact⟨by rw[hF,if_neg (by rw[h2];simp)],by trivial⟩
theorem aG9{h:Hp}{v:Value}{l:List Int}{w:World}(hv:R h v l)(hw:B4 h (i4 w)){k:Nat}(hk:k<l.length):(Instr.loadAt 3 (.pointer (some (G9 v k)))).run prog w = .ok (.int .i64 l[k]) w:=
 M9 (P:=prog) (t:=3) hv hw (dm4 hk) F4
theorem bv3(v:Value)(l:List Int)(w:World)(hv:R (i4 w) v l)(hl:l.length≤1000000000):p7 prog 91 #[v] w fun u w'=>(u = .int .i64 (orF l)∧w'=w):=by
 refine p8 [v] func91 rfl ?_;have hS:=hv.isS;have hn:=hv.vlen;simp only[n7,n8,simprocAttr,hS,hn];refine n9 [3,6,7] (σ:=Nat) (fun k f w'=>f 8 = .int .i64 k∧k≤l.length∧orF l=orF (l.drop k)∧w'=w) (fun k=>l.length-k) 0 ?_ ?_
 ·simp only[p6,simprocAttr];exact⟨by trivial,dn5 _,by rw[dv7],by trivial⟩
 rintro k f w2 hk ⟨h8,hkl,hor,rfl⟩;simp only[dm6,p6,simprocAttr]at hk;obtain⟨e3,e6,e7,_⟩:=hk;simp only[n7,n8,simprocAttr,h8,e7];refine m8 (fun hc=>?_) (fun hc=>?_);rotate_left
 ·have hge:k=l.length:=by simp at hc;omega
  subst hge;rw[dv6,orF]at hor;simp only[n7,simprocAttr,e3];refine o6 results91 ?_;simp only[p6,simprocAttr];exact⟨by rw[hor],by trivial⟩
 have hlt:k<l.length:=by simpa using hc
 have hin:=hv.inS hlt;have hld:=aG9 hv (d7 _) hlt;rw[dq6 hlt,orF]at hor;generalize l[k]=y at hld hor;rcases dm5 (decide (y=0))with hq|hq
 ·rw[if_pos (dm8 hq)]at hor;simp only[n7,n8,z6,simprocAttr,h8,e3,e6,hin,hld,hq];exact⟨k+1,by omega,by rw[B0 k (by omega)],by omega,hor,by trivial⟩
 ·rw[if_neg (dm9 hq)]at hor;simp only[n7,n8,z6,simprocAttr,h8,e3,e6,hin,hld,hq];refine o6 results91 ?_;simp only[p6,simprocAttr];exact⟨by rw[hor],by trivial⟩
theorem ah6(a:Int)(w:World):p7 prog 93 #[.int .i64 a] w fun u w'=>(u = .int .i64 (E3 a)∧w'=w):=by
 refine p8 [.int .i64 a] func93 rfl ?_;rcases dm5 (decide (a = -1))with h1|h1
 ·simp only[n7,n8,simprocAttr,h1];refine o6 results93 ?_;simp only[p6,simprocAttr];exact⟨by rw[E3,if_pos (dm8 h1)],by trivial⟩
 ·simp only[n7,n8,simprocAttr,h1];refine o6 results93 ?_;simp only[p6,simprocAttr];exact⟨by rw[E3,if_neg (dm9 h1)],by trivial⟩
theorem cj6(x y:Sp)(w:World):p7 prog 193 #[.agg (A5.cells x).toArray,.agg (A5.cells y).toArray] w fun u w'=>(u = .int .i64 (spC x y)∧Gr w w'):=by
 refine p8 [.agg (A5.cells x).toArray,.agg (A5.cells y).toArray] func193 rfl ?_;obtain⟨a,w1,hb1,hg1,ha⟩:=bC2 (P:=prog) (T:=186) (SV.ofN (i4 w) x) (d7 _);obtain⟨b,w2,hb2,hg2,hb⟩:=bC2 (P:=prog) (T:=186) (SV.ofN (i4 w1) y) (d7 _);obtain⟨_,sa⟩:=(ha.mono (b7 hg2.ext)).sp;obtain⟨_,sb⟩:=hb.sp;have s1:=sa (fun w'=>Gr w2.drew w') w2.drew (Gr.refl _) fun w' h=>b7 ((Gr.drew w2).trans h).ext;have s2:=sb (fun w'=>Gr w2.drew w') w2.drew (Gr.refl _) fun w' h=>b7 ((Gr.drew w2).trans h).ext;simp only[n7,n8,simprocAttr,hb1,hb2];refine C2 (fun w'=>Gr w2.drew w') 18 (A9 [0,1,3,4,7,8,10,11,14,15,16,17,2,5,6,9,12,13]) ?_ (hS:=Gr.refl _);simp only[D1,A9,n7,n8,simprocAttr,s1,s2];refine C8 (ah6 _ _) ⟨Gr.refl _,?_⟩;simp only[D1,n7,simprocAttr];refine C8 (ah6 _ _) ⟨Gr.refl _,?_⟩;simp only[D1,n7,simprocAttr];refine C8 (S7 _ _ _) ⟨Gr.refl _,?_⟩;simp only[D1,n7,simprocAttr];refine C8 (ah6 _ _) ⟨Gr.refl _,?_⟩;simp only[D1,n7,simprocAttr];refine C8 (ah6 _ _) ⟨Gr.refl _,?_⟩;simp only[D1,n7,simprocAttr];refine C8 (S7 _ _ _) ⟨Gr.refl _,?_⟩;simp only[D1,n7,simprocAttr];refine C8 (S7 _ _ _) ?_;generalize hl:[J2 (E3 x.src) (E3 y.src),J2 (E3 x.dst) (E3 y.dst),J2 x.kind y.kind]=l;have hF:spC x y=orF l:=by rw[←hl];rfl
 have h3:l.length=3:=by rw[←hl];rfl
 obtain⟨vt,w3,hlit,hot,hg3⟩:=cE8 (P:=prog) (w:=w2.drew) (h:=i4 w2.drew) (α:=Int) (xs:=[.int .i64 (J2 (E3 x.src) (E3 y.src)),.int .i64 (J2 (E3 x.dst) (E3 y.dst)),.int .i64 (J2 x.kind y.kind)]) (ys:=l) (parts:=#[(0,.int .i64 (J2 (E3 x.src) (E3 y.src))),(1,.int .i64 (J2 (E3 x.dst) (E3 y.dst))),(2,.int .i64 (J2 x.kind y.kind))]) (n:=3) ad2 rfl (by rw[←hl];exact L7.2 rfl) (by simp[Value.cells]) rfl h3 (by simp) (by simp) (d7 _);simp only[n7,simprocAttr,hlit];refine C8 (bv3 vt l w3 (hot.rw_ (b7 hg3.ext)) (by omega)) ?_;simp only[n7,simprocAttr];refine o6 results193 ?_;simp only[p6,simprocAttr];exact⟨by rw[hF],hg1.trans (hg2.trans ((Gr.drew w2).trans hg3))⟩
theorem bJ6(x y:Sp)(vx vy:Value)(w:World)(hx:SV (i4 w) vx x)(hy:SV (i4 w) vy y):p7 prog 195 #[vx,vy] w fun u w'=>(u = .bool (aP4 x y)∧o7 w w'):=by
 refine p8 [vx,vy] func195 rfl ?_;obtain⟨a,w1,hb1,hx1,ha⟩:=bV5 hx (d7 _);obtain⟨b,w2,hb2,hx2,hb⟩:=bV5 (hy.mono (b7 hx1)) (d7 _);obtain⟨la,_⟩:=ha.sp;obtain⟨lb,_⟩:=hb.sp;have l1:=la w2 (b7 hx2);have l2:=lb w2 (d7 _);have hF:aP4 x y=(decide (x.src=y.src)&&decide (x.dst=y.dst)):=rfl;rcases dm5 (decide (x.src=y.src))with h1|h1
 ·simp only[n7,n8,simprocAttr,hb1,hb2,l1,l2,h1];refine o6 results195 ?_;simp only[p6,simprocAttr];exact⟨by rw[hF,h1,du6],hx1.trans hx2⟩
 ·simp only[n7,n8,simprocAttr,hb1,hb2,l1,l2,h1];refine o6 results195 ?_;simp only[p6,simprocAttr];exact⟨by rw[hF,h1];rfl,hx1.trans hx2⟩
theorem cJ7:Cm spC:=by
 have h:=(aB2.key (fun x:Sp=>E3 x.src)).lex ((aB2.key (fun x:Sp=>E3 x.dst)).lex ((aB2.key (fun x:Sp=>x.kind)).lex Cm.zero));have e:spC=fun x y:Sp=>if J2 (E3 x.src) (E3 y.src)=0 then(if J2 (E3 x.dst) (E3 y.dst)=0 then(if J2 x.kind y.kind=0 then 0 else J2 x.kind y.kind)else J2 (E3 x.dst) (E3 y.dst))else J2 (E3 x.src) (E3 y.src):=by
  funext x y
  simp only[spC,orF]
 rw[e];exact h
def plc(a:Int):Prop:=a<9223372036854775807
theorem aO6{a b:Int}(ha:plc a)(hb:plc b)(h:E3 a=E3 b):a=b:=by
 unfold E3 plc at *;split at h<;>split at h<;>omega
theorem cH0{l:List Sp}(hl:∀x∈l,plc x.src∧plc x.dst):∀a∈l,∀b∈l,decide (spC a b≤0)=true→decide (spC b a≤0)=true→a=b:=by
 intro a ha b hb h1 h2;have h3:=dm8 h1;have h4:=dm8 h2;have h5:=cJ7.anti a b;have h0:spC a b=0:=by omega
 unfold spC at h0;simp only[orF]at h0;by_cases q1:J2 (E3 a.src) (E3 b.src)=0
 ·rw[if_pos q1]at h0;by_cases q2:J2 (E3 a.dst) (E3 b.dst)=0
  ·rw[if_pos q2]at h0;by_cases q3:J2 a.kind b.kind=0
   ·have e1:=aO6 (hl a ha).1 (hl b hb).1 (ab0 q1);have e2:=aO6 (hl a ha).2 (hl b hb).2 (ab0 q2);have e3:=ab0 q3;cases a;cases b;simp_all
   ·rw[if_neg q3]at h0;exact absurd h0 q3
  ·rw[if_neg q2]at h0;exact absurd h0 q2
 ·rw[if_neg q1]at h0;exact absurd h0 q1
theorem ch3:(Tryz.lySortP_ren.f 6)=192:=by kernel_rfl
theorem bq9:(Tryz.lySortP_ren.t 24)=186:=by kernel_rfl
theorem bj5:E6 prog 144 186 3 24=true:=by kernel_rfl
theorem bJ5{h:Hp}{w:World}{v:Value}{xs:List Sp}(ho:A8 h w 186 v xs)(hl:xs.length≤1000000000)(hp:∀x∈xs,plc x.src∧plc x.dst):
  Calls prog 192 #[v,.func (.func 193) #[] #[]] w fun e w'=>∃u,e = .returned u∧(A8 h w' 186 v (V8 cG9 xs)∧p9 (A4 v) w w'):=by
 rw[←ch3];have aE:∀w,(isAgg (Tryz.lySortP_ren.t 24)).run prog w = .ok true w:=fun w=>by
  rw[bq9,W8 _ bT3,bS9]
 have zE:∀w,(Go.sizeOf (Tryz.lySortP_ren.t 24)).run prog w = .ok (A3.sz Sp) w:=fun w=>by
  rw[bq9,N4 bk6,aK6];rfl
 exact aF4 (P:=prog) (T:=186) Tryz.lySortP aE zE spC cJ7 193 (enters_of func193 (by kernel_rfl) rfl) (fun x y w=>(cj6 x y w).mono fun e w' ⟨u,h1,h2,h3⟩=>⟨by rw[h1,h2],h3⟩) ho hl (cH0 hp)
section
variable {α:Type} [A3 α] [A5 α] {P:Program} {h:Hp} {w:World} {t T:TypeId} {v:Value} {xs:List α}
theorem aX0{xs:List α}{k:Nat}(hk:k<xs.length)(y:α):(xs.set k y).flatMap A5.cells=(xs.flatMap A5.cells).take (k*A3.sz α)++A5.cells y++(xs.flatMap A5.cells).drop (k*A3.sz α+A3.sz α):=by
 have h1:xs=xs.take k++(xs[k]::xs.drop (k+1)):=by
  have:=dr0 k xs;rw[dq6 hk]at this;exact this.symm
 have h2:xs.set k y=xs.take k++(y::xs.drop (k+1)):=by rw[List.set_eq_take_append_cons_drop,if_pos hk]
 have hl:((xs.take k).flatMap A5.cells).length=k*A3.sz α:=by rw[ab1,dn8,dt5 (Nat.le_of_lt hk)]
 rw[h2]
 conv=>rhs;rw[h1]
 simp only[dx7,dw0];have e1:((xs.take k).flatMap A5.cells++(A5.cells xs[k]++(xs.drop (k+1)).flatMap A5.cells)).take (k*A3.sz α)=(xs.take k).flatMap A5.cells:=by rw[←hl,dv9]
 have e2:((xs.take k).flatMap A5.cells++(A5.cells xs[k]++(xs.drop (k+1)).flatMap A5.cells)).drop (k*A3.sz α+A3.sz α)=(xs.drop (k+1)).flatMap A5.cells:=by
  rw[←do8,←hl,←am5 xs[k],←dm7,List.drop_left]
 rw[e1,e2,do8]
theorem bh4(ho:A8 h w T v xs)(hi:(P.info? t).isSome=true)(hs:K1 P t=A3.sz α){k:Nat}(hk:k<xs.length)(y:α):
  ∃w',(Instr.storeAt t (.pointer (some (G9 v (k*A3.sz α)))) (.agg (A5.cells y).toArray)).run P w = .ok () w'∧A8 h w' T v (xs.set k y)∧p9 (A4 v) w w':=by
 rcases cu0 ho with⟨rfl,rfl⟩|⟨b,c,cur,rfl,h1,h2,h3,h4,h5,h6⟩
 ·simp at hk
 have hks:k*A3.sz α+A3.sz α≤xs.length*A3.sz α:=by
  have:=dv0 (A3.sz α) (Nat.succ_le_of_lt hk);rw[Nat.succ_mul]at this;exact this
 have hcs:xs.length*A3.sz α≤cur.size:=by rw[h5];exact dv0 _ h3
 have hlc:(A5.cells y).length=A3.sz α:=am5 y;obtain⟨w',e1,e2,e3⟩:=bV1 (P:=P) (t:=t) (cs:=A5.cells y) (o:=k*A3.sz α) h2 (by rw[hlc];omega) (am6 y) hi (by rw[hs,hlc]);have hsa:G9 (.slice (some ⟨b,0,none⟩) xs.length c) (k*A3.sz α)=⟨b,k*A3.sz α,none⟩:=by
  show(⟨b,0,none⟩:Addr).add _=_;rw[add_lit,dp8]
 refine⟨w',by rw[hsa];exact e1,?_,e3.weaken fun _ _ e=>by subst e;rfl⟩;have hset:(xs.set k y).length=xs.length:=by simp
 have hcur:cur.toList=xs.flatMap A5.cells++cur.toList.drop (xs.length*A3.sz α):=by rw[←h6,dr0]
 have hfl:=ab1 xs;have:=bh3 (l:=xs.set k y) h1 e2 (by rw[hset];exact h3) h4 ?_ ?_
 ·rw[hset]at this;exact this
 ·simp only[dw2,dm7,dn8,dv1,dz7,hlc,h5];rw[h5]at hcs;omega
 ·rw[hset,List.toList_toArray,aX0 hk,hlc];have a1:cur.toList.take (k*A3.sz α)=(xs.flatMap A5.cells).take (k*A3.sz α):=by
   rw[hcur,dv2 (by rw[hfl];omega)]
  have a2:cur.toList.drop (k*A3.sz α+A3.sz α)=(xs.flatMap A5.cells).drop (k*A3.sz α+A3.sz α)++cur.toList.drop (xs.length*A3.sz α):=by
   conv=>lhs;rw[hcur]
   rw[List.drop_append_of_le_length (by rw[hfl];exact hks)]
  rw[a1,a2,←do8];have hl:((xs.flatMap A5.cells).take (k*A3.sz α)++A5.cells y++(xs.flatMap A5.cells).drop (k*A3.sz α+A3.sz α)).length=xs.length*A3.sz α:=by
   rw[←aX0 hk,ab1,hset]
  rw[←hl,dv9]
theorem aT5(ho:A8 h w T v xs){ty:TypeId}(ht:K6 P t=some T){z:Value}(hz:G3 P T=some z)(hzs:z.cells.size=A3.sz α)(hz1:∀u∈z.cells.toList,u.oneCell'=true){i:Nat}(hi:i<xs.length):
  ∃w',(Builtin.clear_ #[t] ty #[reS v i xs.length (A3.sz α)]).run P w = .ok (.tuple #[]) w'∧A8 h w' T (reS v 0 i (A3.sz α)) (xs.take i)∧p9 (A4 v) w w'∧∀b,A4 (reS v 0 i (A3.sz α)) b→A4 v b:=by
 rcases cu0 ho with⟨rfl,rfl⟩|⟨b,c,cur,rfl,h1,h2,h3,h4,h5,h6⟩
 ·simp at hi
 obtain⟨inf,hinf,hinfz⟩:=z7 hz;have hzr:(zeroValue T).run P w = .ok z w:=by
  unfold zeroValue;simp[N2,hinf,hinfz]
 have hpos:=A3.pos (α:=α);have hc0:¬c=0:=by omega
 have hci:¬c=i:=by omega
 have hr1:reS (.slice (some ⟨b,0,none⟩) xs.length c) i xs.length (A3.sz α) = .slice (some ⟨b,i*A3.sz α,none⟩) (xs.length-i) (c-i):=by
  simp only[reS,if_neg hci,dt2,add_lit,dp8]
 have hr2:reS (.slice (some ⟨b,0,none⟩) xs.length c) 0 i (A3.sz α) = .slice (some ⟨b,0,none⟩) i c:=by
  simp only[reS,if_neg hc0,dt2,Nat.zero_mul,add_lit,Nat.sub_zero]
 have hzl:(Builtin.zeroCells z.cells (xs.length-i)).toList.length=(xs.length-i)*A3.sz α:=by simp[Builtin.zeroCells,hzs]
 have hmul:i*A3.sz α+(xs.length-i)*A3.sz α=xs.length*A3.sz α:=by rw[←dx6];congr 1;omega
 have hcs:xs.length*A3.sz α≤cur.size:=by rw[h5];exact dv0 _ h3
 obtain⟨w',e1,e2,e3⟩:=bj8 (P:=P) (T:=T) b (i*A3.sz α) (Builtin.zeroCells z.cells (xs.length-i)).toList 0 cur w h2 (by rw[hzl];omega) (by
  intro u hu;simp only[Builtin.zeroCells,Array.toList_map,dp7]at hu;obtain⟨m,_,rfl⟩:=hu;have hm:m % z.cells.size<z.cells.size:=Nat.mod_lt _ (by omega);rw[getElem!_pos z.cells _ hm];exact hz1 _ (by simp))
 refine⟨w',?_,?_,e3.weaken fun _ _ e=>by subst e;rfl,fun b' hb'=>by rw[hr2]at hb';exact hb'⟩
 ·rw[hr1];unfold Builtin.clear_;have hn0:∃m,xs.length-i=m+1:=⟨xs.length-i-1,by omega⟩;obtain⟨m,hm⟩:=hn0;rw[hm]at e1 ⊢;simp only[List.getElem?_toArray,List.getElem?_cons_zero,do9,F3,L6 ht,do1,hzr,e1,dq0]
 ·rw[hr2];have hl:(xs.take i).length=i:=by rw[dn8];omega
  have:=bh3 (l:=xs.take i) h1 e2 (by rw[hl];omega) h4 ?_ ?_
  ·rw[hl]at this;exact this
  ·simp only[Nat.add_zero,dw2,dm7,dn8,dv1,dz7,hzl];rw[h5];rw[h5]at hcs;omega
  ·rw[hl,Nat.add_zero,List.toList_toArray,do8,dv2 (by rw[dn8,dz7];omega),List.take_take,Nat.min_self];have:i*A3.sz α≤xs.length*A3.sz α:=dv0 _ (by omega);have h7:=do4 (List.take (i*A3.sz α)) h6;rw[List.take_take,dt5 this]at h7;rw[h7];have hsp:xs.flatMap A5.cells=(xs.take i).flatMap A5.cells++(xs.drop i).flatMap A5.cells:=by rw[←dx7,dr0]
   have hfl:((xs.take i).flatMap A5.cells).length=i*A3.sz α:=by rw[ab1,hl]
   rw[hsp,←hfl,dv9]
end
theorem bh1{P:Program}{K:Fr→World→Prop}{f:Fr}{w:World}{d:Option Nat}{ty:TypeId}{pos:String}{aft:Array Edge}{x:Operand}{ts:Array TypeId}:B2 P none ⟨d,.call {callee:=.builtin .clear,args:=#[x],argTypes:=ts},ty,pos,aft,none⟩ K f w=ac8 ((Builtin.clear_ ts ty #[ev f x]).run P w) K f d:=by
 simp[B2,ar6,Y1,ba3,bc6]
def dx0:=@List.getElem_cons_succ
theorem bd5{α:Type}(eq:α→α→Bool):∀(l:List α) (p y:α),ah8 eq p (l++[y])=if eq y (l.getLast?.getD p)then ah8 eq p l else ah8 eq p l++[y]
 | [],p,y=>by
  simp[ah8];rfl
 | x::l,p,y=>by
  have ih:=bd5 eq l x y;have hg:((x::l).getLast?.getD p)=l.getLast?.getD x:=by
   cases l with
   | nil=>rfl
   | cons z l=>
    rw[List.getLast?_cons_cons];cases h:(z::l).getLast? with
    | none=>simp at h
    | some q=>rfl
  rw[dx5,ah8,ah8,hg,ih];by_cases h:eq x p=true
  ·rw[if_pos h,if_pos h]
  ·rw[if_neg h,if_neg h];split<;>simp
theorem ao6{α:Type}(eq:α→α→Bool)(xs:List α){k:Nat}(hk:k<xs.length)(h0:0<k):ae0 eq (xs.take (k+1))=if eq xs[k] xs[k-1]then ae0 eq (xs.take k)else ae0 eq (xs.take k)++[xs[k]]:=by
 rw[dn2 hk];cases xs with
 | nil=>simp at hk
 | cons x l=>
  obtain⟨m,rfl⟩:∃m,k=m+1:=⟨k-1,by omega⟩;simp only[dz2,dx5,ae0,dx0,Nat.add_sub_cancel];rw[bd5];have hm:m<l.length:=by simpa using hk
  have:(l.take m).getLast?.getD x=(x::l)[m]'(by simp;omega):=by
   cases m with
   | zero=>rfl
   | succ m=>
    rw[List.getLast?_eq_getElem?,dn8,dt5 (by omega),dw6,if_pos (by omega),dm4 (by omega)];simp
  rw[this];split<;>simp
theorem Z7{α:Type}(eq:α→α→Bool)(xs:List α):∀k,k≤xs.length→(∀j (hj:j<xs.length),1≤j→j<k→eq xs[j] (xs[j-1]'(by omega))=false)→ae0 eq (xs.take k)=xs.take k
 | 0,_,_=>by simp[ae0]
 | 1,h,_=>by
  cases xs with
  | nil=>simp at h
  | cons x l=>simp[ae0,ah8]
 | k+2,h,hf=>by
  rw[ao6 eq xs (k:=k+1) (by omega) (by omega),Z7 eq xs (k+1) (by omega) fun j hj h1 h2=>hf j hj h1 (by omega)];have:=hf (k+1) (by omega) (by omega) (by omega);simp only[Nat.add_sub_cancel]at this ⊢;rw[if_neg (by rw[this];simp),dn2 (by omega:k+1<xs.length)]
theorem bN0{h:Hp}{w:World}{v:Value}{xs:List Sp}(ho:A8 h w 186 v xs)(hl:xs.length≤1000000000)(hh:B4 h (i4 w)):
  Calls prog 194 #[v,.func (.func 195) #[] #[]] w fun e w'=>∃u,e = .returned u∧(A8 h w' 186 u (ae0 aP4 xs)∧p9 (A4 v) w w'∧∀b,A4 u b→A4 v b):=by
 refine p8 [v,.func (.func 195) #[] #[]] func194 rfl ?_;have hS:=ho.isS;have hn:=ho.vlen;have hvc:=ho.vcap;have hz:A3.sz Sp=3:=rfl;rcases dm5 (decide ((xs.length:Int)<2))with h2|h2
 ·simp only[n7,n8,simprocAttr,hS,hn,h2];refine o6 results194 ?_;simp only[p6,simprocAttr];have hlt:xs.length<2:=by have:=dm8 h2;omega
  have:=Z7 aP4 xs xs.length (dn9 _) fun j hj h1 h2=>by omega
  rw[dn6]at this;exact⟨by rw[this];exact ho,p9.refl _,fun b hb=>hb⟩
 have h2':2≤xs.length:=by have:=dm9 h2;omega
 simp only[n7,n8,simprocAttr,hS,hn,h2];refine n9 [0,1] (σ:=Nat) (fun i f w'=>f 5 = .int .i64 i∧1≤i∧i≤xs.length∧(∀j (hj:j<xs.length),1≤j→j<i→aP4 xs[j] (xs[j-1]'(by omega))=false)∧o7 w w') (fun i=>xs.length-i) 1 ?_ ?_
 ·simp only[p6,simprocAttr];exact⟨by trivial,by simp,by omega,fun j _ h1 h2=>by omega,p9.refl _⟩
 rintro i f w2 hk ⟨h5,h1i,hil,hno,hx2⟩;simp only[dm6,p6,simprocAttr]at hk;obtain⟨e0,e1,_⟩:=hk;simp only[n7,n8,simprocAttr,h5,e0,hS,hn];refine m8 (fun hc=>?_) (fun hc=>?_);rotate_left
 ·have hge:i=xs.length:=by simp at hc;omega
  subst hge;simp only[n7,simprocAttr,e0];refine o6 results194 ?_;simp only[p6,simprocAttr];have:=Z7 aP4 xs xs.length (dn9 _) hno;rw[dn6]at this;exact⟨by rw[this];exact ho.ext hx2,p9.up hx2,fun b hb=>hb⟩
 have hlt:i<xs.length:=by simpa using hc
 have hlt1:i-1<xs.length:=by omega
 have hR:R (i4 w2) v xs:=(ho.ext hx2).rw_ (v8 hh (b7 hx2));have hin:=ho.inS hlt;have hin1:=ho.inS hlt1;have hwi:IntKind.i64.wrap ((i:Int)-1)=((i-1:Nat):Int):=by rw[L0 _ (by omega)];omega
 obtain⟨vx,hvx,_,sx⟩:=(hR.at_ (dm4 hlt)).sp_v;obtain⟨vy,hvy,_,sy⟩:=(hR.at_ (dm4 hlt1)).sp_v;have s1:=sx (fun w'=>o7 w2.drew w') w2.drew (p9.refl _) fun w' h=>b7 ((o7.drew w2).trans h);have s2:=sy (fun w'=>o7 w2.drew w') w2.drew (p9.refl _) fun w' h=>b7 ((o7.drew w2).trans h);rw[hz]at s1 s2;have hxd:=hx2.trans (o7.drew w2);simp only[n7,simprocAttr];refine C2 (fun w'=>o7 w2.drew w') 10 (A9 [0,1,2,3,4,5,6,7,8,9]) ?_;simp only[D1,A9,n7,n8,z6,simprocAttr,h5,e0,e1,hin,hin1,hwi,s1,s2];refine B1 (bJ6 _ _ vx vy w2.drew (hvx.mono (b7 (o7.drew w2))) (hvy.mono (b7 (o7.drew w2)))) (fun w3 hx3=>?_);have hx03:=hxd.trans hx3;rcases dm5 (aP4 xs[i] xs[i-1])with hq|hq;rotate_left
 ·simp only[n7,n8,simprocAttr,hq,h5];refine⟨i+1,by omega,by rw[B0 i (by omega)],by omega,by omega,fun j hj h1 h2=>?_,hx03⟩;rcases dq4 j i with h|h
  ·exact hno j hj h1 h
  ·obtain rfl:j=i:=by omega
   exact hq
 have c1:decide ((i:Int)≤(xs.length:Int))=true:=by simp;omega
 have c2:decide ((xs.length:Int)≤(vcap v:Int))=true:=by simp;omega
 have hd:∀k:Nat,isS (reS v k xs.length 3)=true∧vlen (reS v k xs.length 3)=xs.length-k:=fun k=>by
  rcases ho with⟨rfl,rfl⟩|⟨b,c,cur,rfl,_⟩
  ·exact⟨rfl,rfl⟩
  ·exact⟨rfl,rfl⟩
 obtain⟨hSd,hnd⟩:=hd i;have hni:((xs.length-i:Nat):Int)=(xs.length:Int)-i:=by omega
 simp only[n7,n8,H8,simprocAttr,hq,h5,e0,hS,hn,c1,c2];refine n9 [0,1,6] (σ:=Nat×Nat×List Sp) (fun s f w'=>f 7 = .int .i64 s.1∧f 5 = .int .i64 s.2.1∧1≤s.1∧i+s.1≤xs.length∧s.2.1+1≤i+s.1∧s.2.2.length=xs.length∧A8 h w' 186 v s.2.2∧(∀j (hj:j<xs.length) (hj2:j<s.2.2.length),i+s.1≤j+1→s.2.2[j]=xs[j])∧s.2.2.take s.2.1=ae0 aP4 (xs.take (i+s.1))∧p9 (A4 v) w w') (fun s=>xs.length-(i+s.1)) (1,i,xs) ?_ ?_
 ·simp only[p6,simprocAttr];refine⟨by trivial,by trivial,by trivial,by omega,by omega,by trivial,ho.ext hx03,fun j _ _ _=>by trivial,?_,p9.up hx03⟩;rw[ao6 aP4 xs hlt (by omega),if_pos hq,Z7 aP4 xs i (by omega) hno]
 rintro⟨m,c,ys⟩ f4 w4 hk ⟨h7,h5c,h1m,him,hcm,hyl,hoy,hsuf,hpre,hm4⟩;simp only at h7 h5c h1m him hcm hyl hoy hsuf hpre;simp only[dm6,p6,simprocAttr]at hk;obtain⟨g0,g1,g6,_⟩:=hk;rw[e0]at g0;rw[e1]at g1;have hh4:B4 h (i4 w4):=H7 hh hm4 fun b hb=>ho.free hb;have hlen:decide ((m:Int)<((xs.length-i:Nat):Int))=decide (i+m<xs.length):=by rw[dq3];omega
 simp only[n7,n8,simprocAttr,h7,g6,hSd,hnd,hlen];refine m8 (fun hc=>?_) (fun hc=>?_)
 ·have hm':i+m<xs.length:=dm8 hc;have hm1:i+m-1<xs.length:=by omega
  have hRy:R (i4 w4) v ys:=hoy.rw_ hh4;have hsub:=bB6 hRy (show i≤xs.length by omega) (show xs.length≤ys.length by omega);rw[hz]at hsub;have hyt:(ys.take xs.length).drop i=ys.drop i:=by rw[←hyl,dn6]
  rw[hyt]at hsub;have hg1:(ys.drop i)[m]?=some xs[i+m]:=by
   rw[dw5,dm4 (by omega),hsuf (i+m) hm' (by omega) (by omega)]
  have hg2:(ys.drop i)[m-1]?=some xs[i+m-1]:=by
   rw[dw5,show i+(m-1)=i+m-1 by omega,dm4 (by omega),hsuf (i+m-1) hm1 (by omega) (by omega)]
  have hin4:=hsub.inS (dn0.1 hg1).1;have hin5:=hsub.inS (dn0.1 hg2).1;have hwm:IntKind.i64.wrap ((m:Int)-1)=((m-1:Nat):Int):=by rw[L0 _ (by omega)];omega
  obtain⟨ux,hux,lx,tx⟩:=(hsub.at_ hg1).sp_v;obtain⟨uy,huy,_,ty⟩:=(hsub.at_ hg2).sp_v;have t1:=tx (fun w'=>o7 w4.drew w') w4.drew (p9.refl _) fun w' h=>b7 ((o7.drew w4).trans h);have t2:=ty (fun w'=>o7 w4.drew w') w4.drew (p9.refl _) fun w' h=>b7 ((o7.drew w4).trans h);rw[hz]at t1 t2 lx;simp only[n7,simprocAttr];refine C2 (fun w'=>o7 w4.drew w') 10 (A9 [0,1,2,3,4,5,6,7,8,9]) ?_;simp only[D1,A9,n7,n8,z6,simprocAttr,h7,g1,g6,hin4,hin5,hwm,t1,t2];refine B1 (bJ6 _ _ ux uy w4.drew (hux.mono (b7 (o7.drew w4))) (huy.mono (b7 (o7.drew w4)))) (fun w5 hx5=>?_);have hx45:=(o7.drew w4).trans hx5;have ho5:=hoy.ext hx45;have hm5:p9 (A4 v) w w5:=hm4.chain (p9.up hx45) fun _ _ h=>h;have hct:=ao6 aP4 xs (k:=i+m) hm' (by omega);rcases dm5 (aP4 xs[i+m] xs[i+m-1])with hq4|hq4
  ·rw[if_pos hq4]at hct;simp only[n7,n8,simprocAttr,hq4,h7];refine⟨(m+1,c,ys),by simp only[];omega,by simp only[];rw[B0 m (by omega)],h5c,by simp only[];omega,by simp only[];omega,by simp only[];omega,hyl,ho5,fun j hj hj2 h=>hsuf j hj hj2 (by simp only at h;omega),?_,hm5⟩;simp only[];rw[hpre,←hct,dw1]
  ·rw[if_neg (by rw[hq4];simp)]at hct;have hcy:c<ys.length:=by omega
   have lx5:=lx w5 (b7 hx45);have hux':ux = .agg (A5.cells xs[i+m]).toArray:=by
    obtain⟨cs,rfl,he⟩:=hux;rw[(A5.iff_ _ _ _).1 he]
   obtain⟨w6,e6,ho6,hm6⟩:=bh4 (P:=prog) (t:=186) ho5 bk6 aK6 hcy xs[i+m];rw[←hux',hz]at e6;have hin6:=hoy.inS hcy;simp only[n7,n8,z6,simprocAttr,hq4,h5c,g0,g6,h7,hin4,hin6,lx5,e6];refine⟨(m+1,c+1,ys.set c xs[i+m]),by simp only[];omega,by simp only[];rw[B0 m (by omega)],by simp only[];rw[B0 c (by omega)],by simp only[];omega,by simp only[];omega,by simp only[];omega,by simp only[dt9];exact hyl,ho6,fun j hj hj2 h=>?_,?_,hm5.chain hm6 fun _ _ h=>h⟩
   ·simp only at h ⊢;rw[List.getElem_set_ne (by omega)];exact hsuf j hj (by omega) (by omega)
   ·simp only[];have hcs:c<(ys.set c xs[i+m]).length:=by simpa using hcy
    rw[dn2 hcs,List.getElem_set_self,List.take_set_of_le (dn9 _),hpre,←hct,dw1]
 ·have hm':i+m=xs.length:=by have:=dm9 hc;omega
  rw[hm',dn6]at hpre;have hcl:c<ys.length:=by omega
  have c3:decide ((c:Int)≤(xs.length:Int))=true:=by simp;omega
  have c4:decide ((c:Int)≤(vcap v:Int))=true:=by simp;omega
  obtain⟨w6,e6,ho6,hm6,hb6⟩:=aT5 (P:=prog) (t:=144) (ty:=0) hoy rfl cz2 rfl (by simp[Value.cells,Value.oneCell']) hcl;rw[hyl,hz]at e6;rw[hz]at ho6 hb6;simp only[n7,n8,H8,simprocAttr,bh1,h5c,g0,hS,hn,c2,c3,c4,e6];refine o6 results194 ?_;simp only[p6,simprocAttr];exact⟨by rw[←hpre];exact ho6,hm4.chain hm6 fun _ _ h=>h,hb6⟩
def ds7:=@Option.bind_eq_some_iff
mutual
theorem ce3:∀(t:St) (k:Nat) (pr up nx lp:Int),∀it∈V3 t k pr up nx lp,(it.next=nx∨((k:Int)<it.next∧it.next≤(k:Int)+(V7 t:Nat)))∧(it.loop=lp∨((k:Int)<it.loop∧it.loop≤(k:Int)+(V7 t:Nat)))
 | .mk id kind labels name proc x has args thn els,k,pr,up,nx,lp,it,h=>by
  rw[P5]at h;rw[aq0];rcases do3.1 h with rfl|h
  ·exact⟨.inl rfl,.inl rfl⟩
  ·have key:∀(l:List St) (k':Nat) (hk:k<k') (hk2:k'+A6 l≤k+(1+A6 thn+A6 els)),it∈C3 l k' pr (k+1) (if kind=6 then((k:Int)+1)else nx) (if kind=6 then((k:Int)+1)else lp)→(∀it∈C3 l k' pr (k+1) (if kind=6 then((k:Int)+1)else nx) (if kind=6 then((k:Int)+1)else lp),(it.next=(if kind=6 then((k:Int)+1)else nx)∨((k':Int)<it.next∧it.next≤(k':Int)+(A6 l:Nat)))∧(it.loop=(if kind=6 then((k:Int)+1)else lp)∨((k':Int)<it.loop∧it.loop≤(k':Int)+(A6 l:Nat)))) →
     (it.next=nx∨((k:Int)<it.next∧it.next≤(k:Int)+((1+A6 thn+A6 els:Nat):Int)))∧(it.loop=lp∨((k:Int)<it.loop∧it.loop≤(k:Int)+((1+A6 thn+A6 els:Nat):Int))):=by
    intro l k' hk hk2 hm hall;obtain⟨h1,h2⟩:=hall it hm;constructor
    ·rcases h1 with h1|⟨h1,h3⟩
     ·split at h1
      ·right;omega
      ·exact .inl h1
     ·right;omega
    ·rcases h2 with h1|⟨h1,h3⟩
     ·split at h1
      ·right;omega
      ·exact .inl h1
     ·right;omega
   simp only[St.thn,St.els];rcases do0.1 h with h|h
   ·exact key thn (k+1) (by omega) (by omega) h (aw0 thn _ _ _ _ _)
   ·refine key els _ ?_ ?_ h (aw0 els _ _ _ _ _)
    ·omega
    ·simp only[St.thn];omega
theorem aw0:∀(l:List St) (k:Nat) (pr up nx lp:Int),∀it∈C3 l k pr up nx lp,(it.next=nx∨((k:Int)<it.next∧it.next≤(k:Int)+(A6 l:Nat)))∧(it.loop=lp∨((k:Int)<it.loop∧it.loop≤(k:Int)+(A6 l:Nat)))
 | [],_,_,_,_,_,it,h=>by simp[C3]at h
 | t::l,k,pr,up,nx,lp,it,h=>by
  rw[C3]at h;rw[A6];rcases do0.1 h with h|h
  ·obtain⟨h1,h2⟩:=ce3 t _ _ _ _ _ it h;constructor
   ·rcases h1 with h1|h1
    ·split at h1
     ·exact .inl h1
     ·next hl=>
      right;have:=Q8 l;omega
    ·right;omega
   ·rcases h2 with h1|h1
    ·exact .inl h1
    ·right;omega
  ·obtain⟨h1,h2⟩:=aw0 l _ _ _ _ _ it h;rw[af0]at h1 h2;constructor
   ·rcases h1 with h1|h1
    ·exact .inl h1
    ·right;omega
   ·rcases h2 with h1|h1
    ·exact .inl h1
    ·right;omega
end
mutual
theorem bN5:∀(t:St) (k:Nat) (pr up nx lp:Int),∀it∈V3 t k pr up nx lp,∀u,(u∈it.s.thn∨u∈it.s.els)→u∈(V3 t k pr up nx lp).map (·.s)
 | .mk id kind labels name proc x has args thn els,k,pr,up,nx,lp,it,h,u,hu=>by
  rw[P5]at h ⊢;simp only[dr3,dp4,do3,do0];rcases do3.1 h with rfl|h
  ·simp only[St.thn,St.els]at hu;rcases hu with hu|hu
   ·exact .inr (.inl (aB9 thn _ _ _ _ _ u hu))
   ·exact .inr (.inr (aB9 els _ _ _ _ _ u hu))
  ·rcases do0.1 h with h|h
   ·exact .inr (.inl (ar2 thn _ _ _ _ _ it h u hu))
   ·exact .inr (.inr (ar2 els _ _ _ _ _ it h u hu))
theorem ar2:∀(l:List St) (k:Nat) (pr up nx lp:Int),∀it∈C3 l k pr up nx lp,∀u,(u∈it.s.thn∨u∈it.s.els)→u∈(C3 l k pr up nx lp).map (·.s)
 | [],_,_,_,_,_,it,h,_,_=>by simp[C3]at h
 | t::l,k,pr,up,nx,lp,it,h,u,hu=>by
  rw[C3]at h ⊢;simp only[dp4,do0];rcases do0.1 h with h|h
  ·exact .inl (bN5 t _ _ _ _ _ it h u hu)
  ·exact .inr (ar2 l _ _ _ _ _ it h u hu)
theorem aB9:∀(l:List St) (k:Nat) (pr up nx lp:Int),∀u∈l,u∈(C3 l k pr up nx lp).map (·.s)
 | [],_,_,_,_,_,u,h=>by simp at h
 | t::l,k,pr,up,nx,lp,u,h=>by
  rw[C3];simp only[dp4,do0];rcases do3.1 h with rfl|h
  ·left;cases u;rw[P5];simp
  ·exact .inr (aB9 l _ _ _ _ _ u h)
end
theorem ax6(d:Nat)(t:St)(l:List St)(n:Int):G6 (d+1) (t::l) n=(if n+1>200∨t.id≠n+1∨O1 t.labels=false∨R6 t=false then none else(G6 d t.thn (n+1)).bind fun m=>G6 d t.els m).bind fun m=>G6 (d+1) l m:=by
 rw[G6,List.foldlM_cons];rfl
mutual
theorem cO0:∀(t:St) (d:Nat) (n m:Int),t.id=n+1→((G6 d t.thn (n+1)).bind fun m=>G6 d t.els m)=some m→m=n+(V7 t:Nat)∧∀(k:Nat) (pr up nx lp:Int) (j:Nat) (it:It),(V3 t k pr up nx lp)[j]?=some it→it.s.id=n+1+(j:Nat)
 | .mk id kind labels name proc x has args thn els,d,n,m,hid,h=>by
  simp only[St.id,St.thn,St.els]at hid h;obtain⟨m1,h1,h2⟩:=ds7.1 h;obtain⟨e1,i1⟩:=aM8 thn d (n+1) m1 h1;obtain⟨e2,i2⟩:=aM8 els d m1 m h2;refine⟨by rw[aq0];simp only[St.thn,St.els];omega,fun k pr up nx lp j it hj=>?_⟩;rw[P5]at hj;cases j with
  | zero=>
   rw[List.getElem?_cons_zero]at hj;obtain rfl:=do2 hj;simp only[St.id];omega
  | succ j=>
   rw[List.getElem?_cons_succ]at hj;rcases dq4 j (A6 thn)with hlt|hge
   ·rw[dr5 (by rw[F7];exact hlt)]at hj;have:=i1 _ _ _ _ _ j it hj;omega
   ·rw[dq9 (by rw[F7];exact hge),F7]at hj;have:=i2 _ _ _ _ _ _ it hj;simp only[St.thn]at hge this;omega
theorem aM8:∀(l:List St) (d:Nat) (n m:Int),G6 d l n=some m→m=n+(A6 l:Nat)∧∀(k:Nat) (pr up nx lp:Int) (j:Nat) (it:It),(C3 l k pr up nx lp)[j]?=some it→it.s.id=n+1+(j:Nat)
 | [],d,n,m,h=>by
  have:m=n:=by
   cases d with
   | zero=>simp[G6]at h;exact h.symm
   | succ d=>rw[G6]at h;simp at h;exact h.symm
  subst this;exact⟨by simp[A6],fun k pr up nx lp j it hj=>by simp[C3]at hj⟩
 | t::l,0,n,m,h=>by simp[G6]at h
 | t::l,d+1,n,m,h=>by
  rw[ax6]at h;obtain⟨m1,h1,h2⟩:=ds7.1 h;split at h1
  ·cases h1
  ·next hc=>
   have hid:t.id=n+1:=by
    rcases Decidable.em (t.id=n+1)with h|h
    ·exact h
    ·exact absurd (.inr (.inl h)) hc
   obtain⟨e1,i1⟩:=cO0 t d n m1 hid h1;obtain⟨e2,i2⟩:=aM8 l (d+1) m1 m h2;refine⟨by rw[A6];omega,fun k pr up nx lp j it hj=>?_⟩;rw[C3]at hj;rcases dq4 j (V7 t)with hlt|hge
   ·rw[dr5 (by rw[af0];exact hlt)]at hj;exact i1 _ _ _ _ _ j it hj
   ·rw[dq9 (by rw[af0];exact hge),af0]at hj;have:=i2 _ _ _ _ _ _ it hj;omega
end
theorem bi9:∀(l:List Pr) (s:Sh) (i:Nat),(l.foldlM (fun n f=>R3 f n) (s.l.length:Int)).isSome=true→(∀(j:Nat) (it:It),s.l[j]?=some it→it.s.id=(j:Int)+1)→∀(j:Nat) (it:It),(F5 s i l).l[j]?=some it→it.s.id=(j:Int)+1
 | [],s,i,_,h,j,it,hj=>h j it hj
 | f::l,s,i,hf,h,j,it,hj=>by
  rw[List.foldlM_cons]at hf;obtain⟨n,hn⟩:=ds2.1 hf;obtain⟨m,hm,hm2⟩:=ds7.1 hn;unfold R3 at hm;split at hm
  ·cases hm
  ·obtain⟨e1,i1⟩:=aM8 f.body 12 _ _ hm;rw[F5]at hj;refine bi9 l (E5 s i f) (i+1) ?_ (fun j it hj=>?_) j it hj
   ·simp only[E5,dm7,F7];rw[show((s.l.length+A6 f.body:Nat):Int)=m by omega,hm2];rfl
   ·simp only[E5]at hj;rcases dq4 j s.l.length with hlt|hge
    ·rw[dr5 hlt]at hj;exact h j it hj
    ·rw[dq9 hge]at hj;have:=i1 _ _ _ _ _ _ it hj;omega
theorem bt4{p:Pg}(hm:M6 p=true):∀(j:Nat) (it:It),(b9 p).l[j]?=some it→it.s.id=(j:Int)+1:=by
 simp only[M6,do6]at hm;exact bi9 p.procs ⟨p,[],[],[]⟩ 0 hm.2 fun j it hj=>by simp at hj
def Rg(x y:Nat)(a:Int):Prop:=a = -1∨((x:Int)<a∧a≤(y:Int))
structure aA8 (p:Pg) (i x y:Nat):Prop where
 ok:bl9 (b9 p) i x y
 ids:∀it∈(b9 p).of i,(x:Int)<it.s.id∧it.s.id≤(y:Int)
 next:∀it∈(b9 p).of i,Rg x y it.next
 loop:∀it∈(b9 p).of i,it.loop=0∨((x:Int)<it.loop∧it.loop≤(y:Int))
 sub:∀it∈(b9 p).of i,∀u,(u∈it.s.thn∨u∈it.s.els)→(x:Int)<u.id∧u.id≤(y:Int)
 at_:∀a:Int,(x:Int)<a→a≤(y:Int)→(b9 p).it a∈(b9 p).of i∧((b9 p).it a).s.id=a∧(b9 p).l[(a-1).toNat]?=some ((b9 p).it a)
theorem P9{p:Pg}(hm:M6 p=true)(hw:D3 p≤1000000)(i:Nat)(hi:i<p.procs.length):∃x,aA8 p i x (x+A6 p.procs[i].body):=by
 obtain⟨x,hok,hof⟩:=Z0 p hw i hi;have hids:=bt4 hm;have hmem:∀it∈(b9 p).of i,∃j:Nat,j<A6 p.procs[i].body∧(b9 p).l[x+j]?=some it:=fun it h=>by
  rw[hok.of_]at h;obtain⟨j,hj⟩:=List.getElem?_of_mem h;rw[dw5,dw6]at hj;split at hj
  ·next hlt=>exact⟨j,by omega,hj⟩
  ·cases hj
 have hid:∀it∈(b9 p).of i,(x:Int)<it.s.id∧it.s.id≤((x+A6 p.procs[i].body:Nat):Int):=fun it h=>by
  obtain⟨j,hj,e⟩:=hmem it h;have:=hids _ _ e;omega
 have hnl:=aw0 p.procs[i].body x i 0 (-1) 0;rw[←hof]at hnl;have hsub:=ar2 p.procs[i].body x i 0 (-1) 0;rw[←hof]at hsub;refine⟨x,hok,hid,fun it h=>?_,fun it h=>?_,fun it h u hu=>?_,fun a h1 h2=>?_⟩
 ·rcases(hnl it h).1 with h1|h1
  ·exact .inl h1
  ·exact .inr ⟨h1.1,by omega⟩
 ·rcases(hnl it h).2 with h1|h1
  ·exact .inl h1
  ·exact .inr ⟨h1.1,by omega⟩
 ·obtain⟨it2,hit2,rfl⟩:=dp7.1 (hsub it h u hu);exact hid it2 hit2
 ·have hlen:=hok.len;have hlt:(a-1).toNat<(b9 p).l.length:=by omega
  have hg:(b9 p).l[(a-1).toNat]?=some ((b9 p).it a):=by
   unfold Sh.it;rw[List.getD,dm4 hlt];rfl
  refine⟨?_,?_,hg⟩
  ·rw[hok.of_];refine do5 (i:=(a-1).toNat-x) ?_;rw[dw5,dw6,if_pos (by omega),show x+((a-1).toNat-x)=(a-1).toNat by omega,hg]
  ·have:=hids _ _ hg;omega
structure F1 (p:Pg):Prop extends Known p where
 fits:∀it∈(b9 p).l,it.s.kind=4→ac4 p it.s=true
 single:∀it∈(b9 p).l,it.s.kind=4→ad1 it.s (W0 p it.s.proc)=true
 jump:∀i (hi:i<p.procs.length),ap1 (b9 p) p.procs[i] ((b9 p).of i)=none
theorem aC4{s:Sh}:∀{l:List Pr} {i:Nat},P6 s i l=none→∀k (hk:k<l.length),ap1 s l[k] (s.of (i+k:Nat))=none
 | [],i,_,k,hk=>by simp at hk
 | f::l,i,h,k,hk=>by
  rw[P6]at h;split at h
  ·cases h
  ·next h'=>
   cases k with
   | zero=>simpa using h'
   | succ k=>
    have:=aC4 h k (by simpa using hk);rw[show i+1+k=i+(k+1) by omega]at this;simpa using this
theorem bn0{s:Sh}{f:Pr}{l:List It}{e:Int×Int}(h:ap1 s f l=some e):e.1=7:=by
 unfold ap1 at h;split at h
 ·obtain rfl:=do2 h;rfl
 ·split at h
  ·obtain rfl:=do2 h;rfl
  ·cases h
theorem aC3{s:Sh}:∀{l:List Pr} {i:Nat} {e:Int×Int},P6 s i l=some e→e.1=7
 | [],i,e,h=>by cases h
 | f::l,i,e,h=>by
  rw[P6]at h;split at h
  ·next h'=>obtain rfl:=do2 h;exact bn0 h'
  ·exact aC3 h
theorem S3{p:Pg}(h:ac9 p=true):F1 p:=by
 have h:=dm8 h;unfold aI9 at h;split at h
 ·simp at h
 split at h
 ·next h1=>exact absurd h h1
 next h1=>
 split at h
 ·next h2=>exact absurd h h2
 next h2=>
 split at h
 ·next h3=>exact absurd h h3
 next h3=>
 have h1:(O6 p).1=0:=du5 h1;have h2:(X7 p).1=0:=du5 h2;have h3:(az3 p).1=0:=du5 h3;refine⟨bg2 h1,fun it hit h4=>?_,fun it hit h4=>?_,fun i hi=>?_⟩
 ·unfold X7 at h2;rw[if_neg (by rw[h1];simp)]at h2;split at h2
  ·simp at h2
  ·next hf=>
   have:=dw9.1 hf it hit;rw[dq5 h4]at this;simpa using this
 ·unfold aB0 at h;rw[if_neg (by rw[h2];simp)]at h;split at h
  ·simp at h
  ·next hf=>
   have:=dw9.1 hf it hit;rw[dq5 h4]at this;simpa using this
 ·unfold az3 at h3;rw[if_neg (by rw[h1];simp)]at h3;have hno:P6 (b9 p) 0 p.procs=none:=by
   cases hs:P6 (b9 p) 0 p.procs with
   | none=>rfl
   | some e=>
    rw[hs]at h3;have:=aC3 hs;simp at h3;omega
  have:=aC4 hno i hi
  rwa [dp8]at this
theorem aH2{s:Sh}:∀{l:List It} {seen r:List A7},ar3 s seen l = .inl r→∀it∈l,ap2 s it=true
 | [],_,_,_,it,h=>by simp at h
 | x::l,seen,r,hj,it,h=>by
  rw[ar3]at hj;split at hj
  ·cases hj
  ·split at hj
   ·next hl=>
    rcases do3.1 h with rfl|h
    ·exact hl
    ·exact aH2 hj it h
   ·cases hj
theorem F1.leads{p:Pg}(hr:F1 p){i:Nat}(hi:i<p.procs.length):∀it∈(b9 p).of i,ap2 (b9 p) it=true:=by
 have:=hr.jump i hi;unfold ap1 at this;split at this
 ·cases this
 ·next h=>exact aH2 h
theorem cT6{p:Pg}{i x y:Nat}(pt:aA8 p i x y){lb:A7}{a:Int}(h:(b9 p).at i lb=some a):Rg x y a:=by
 unfold Sh.at at h;split at h
 ·next it hf=>
  obtain rfl:=do2 h;exact .inr (pt.ids it (List.mem_of_find?_eq_some hf))
 ·split at h
  ·obtain rfl:=do2 h;exact .inl rfl
  ·cases h
theorem bx4{p:Pg}{i x y:Nat}(pt:aA8 p i x y){it:It}(hit:it∈(b9 p).of i){o:Int}(ho:Rg x y o):Rg x y (az1 it.s.thn o)∧Rg x y (az1 it.s.els o):=by
 constructor
 ·cases h:it.s.thn with
  | nil=>exact ho
  | cons t l=>exact .inr (pt.sub it hit t (.inl (by rw[h];simp)))
 ·cases h:it.s.els with
  | nil=>exact ho
  | cons t l=>exact .inr (pt.sub it hit t (.inr (by rw[h];simp)))
theorem bX5{p:Pg}(hr:F1 p)(hw:D3 p≤1000000){i x y:Nat}(hi:i<p.procs.length)(pt:aA8 p i x y):∀it∈(b9 p).of i,∀t∈(b9 p).goes it,Rg x y t:=by
 intro it hit t ht;have hnx:=pt.next it hit;have hid:Rg x y it.s.id:=.inr (pt.ids it hit);have B4:=hr.leads hi it hit;unfold ap2 at B4;unfold Sh.goes at ht;split at ht
 ·simp only[do3,dr8,dy0]at ht;rcases ht with rfl|rfl
  ·exact(bx4 pt hit hnx).1
  ·exact(bx4 pt hit hnx).2
 split at ht
 ·simp only[do3,dr8,dy0]at ht;rcases ht with rfl|rfl
  ·exact(bx4 pt hit hid).1
  ·exact hnx
 split at ht
 ·next h7=>
  rw[if_pos (.inl h7)]at B4;have hl0:it.loop≠0:=by simpa using B4
  simp only[dp5]at ht;subst ht;rcases pt.loop it hit with h|h
  ·exact absurd h hl0
  ·exact pt.next _ (pt.at_ it.loop h.1 h.2).1
 split at ht
 ·next h8=>
  rw[if_pos (.inr h8)]at B4;have hl0:it.loop≠0:=by simpa using B4
  simp only[dp5]at ht;subst ht;rcases pt.loop it hit with h|h
  ·exact absurd h hl0
  ·exact .inr h
 split at ht
 ·simp only[dp5]at ht;subst ht;exact .inl rfl
 split at ht
 ·next h7 h8 _ h10=>
  have hn:¬(it.s.kind=7∨it.s.kind=8):=fun h=>h.elim h7 h8;rw[if_neg hn,if_pos h10]at B4;simp only[dp5]at ht;subst ht;obtain⟨a,ha⟩:=ds2.1 B4;rw[ha];rw[by5 p hw i hi it hit]at ha;exact cT6 pt ha
 ·simp only[dp5]at ht;subst ht;exact hnx
theorem aS1{α:Type}(eq:α→α→Bool){z:α}:∀(l:List α) (p:α),z∈ah8 eq p l→z∈l
 | [],p,h=>by simp[ah8]at h
 | x::l,p,h=>by
  rw[ah8]at h;split at h
  ·exact dt4 _ (aS1 eq l x h)
  ·rcases do3.1 h with rfl|h
   ·simp
   ·exact dt4 _ (aS1 eq l x h)
theorem cd5{α:Type}(eq:α→α→Bool){z:α}:∀(l:List α),z∈ae0 eq l→z∈l
 | [],h=>by simp[ae0]at h
 | x::l,h=>by
  rw[ae0]at h;rcases do3.1 h with rfl|h
  ·simp
  ·exact dt4 _ (aS1 eq l x h)
theorem bp3{α:Type}(eq:α→α→Bool):∀(l:List α) (p:α),(ah8 eq p l).length≤l.length
 | [],p=>by simp[ah8]
 | x::l,p=>by
  have:=bp3 eq l x;rw[ah8];split<;>simp only[do7]<;>omega
theorem aK5{z:Sp}{l:List Sp}(h:z∈aq2 l):z∈l:=(J0 _ _).mem_iff.1 (cd5 _ _ h)
theorem aK4(l:List Sp):(aq2 l).length≤l.length:=by
 unfold aq2;rw[←(J0 cG9 l).length_eq];cases V8 cG9 l with
 | nil=>simp[ae0]
 | cons x m=>simp only[ae0,do7];have:=bp3 aP4 m x;omega
def RgS(x y:Nat)(t:Sp):Prop:=(t.src=0∨((x:Int)<t.src∧t.src≤(y:Int)))∧Rg x y t.dst
theorem bD6{p:Pg}{i x y:Nat}(pt:aA8 p i x y):Rg x y ((b9 p).first i):=by
 have h1:=pt.ok.lo;have h2:=pt.ok.hi;unfold Sh.first V0;simp only[dp0,List.getD,h1,h2,dr7];split
 ·right;omega
 ·exact .inl rfl
theorem bk0{p:Pg}(hr:F1 p)(hw:D3 p≤1000000){i x y:Nat}(hi:i<p.procs.length)(pt:aA8 p i x y):∀t∈(b9 p).steps i,RgS x y t:=by
 intro t ht;have ht:=aK5 ht;rcases do3.1 ht with rfl|ht
 ·exact⟨.inl rfl,bD6 pt⟩
 ·obtain⟨it,hit,ht⟩:=ds4.1 ht;obtain⟨a,ha,rfl⟩:=dp7.1 ht;exact⟨.inr (pt.ids it hit),bX5 hr hw hi pt it hit a ha⟩
theorem bE8(s:Sh)(it:It):(s.goes it).length≤2:=by
 unfold Sh.goes
 repeat' split
 all_goals simp
theorem av9{h:Hp}{w:World}{v:Value}{xs:List Sp}(ho:A8 h w 186 v xs)(hl:xs.length≤1000000000)(hh:B4 h (i4 w))(hp:∀x∈xs,plc x.src∧plc x.dst):
  p7 prog 133 #[v] w fun u w'=>(A8 h w' 186 u (aq2 xs)∧p9 (A4 v) w w'∧∀b,A4 u b→A4 v b):=by
 refine p8 [v] func133 rfl ?_;simp only[n7,n8,simprocAttr];refine y5 (bJ5 ho hl hp) ?_;rintro _ w2 ⟨ho2,hm2⟩;simp only[n7,simprocAttr];refine y5 (bN0 ho2 (by rw[(J0 _ _).length_eq];exact hl) (H7 hh hm2 fun b hb=>ho.free hb)) ?_;rintro u w3 ⟨ho3,hm3,hb3⟩;simp only[n7,simprocAttr];refine o6 results133 ?_;simp only[p6,simprocAttr];exact⟨ho3,hm2.chain hm3 fun _ _ h=>h,hb3⟩
theorem aS5(v:Value)(l:List St)(o:Int)(w:World)(hv:R (i4 w) v l):p7 prog 235 #[v,.int .i64 o] w fun u w'=>(u = .int .i64 (az1 l o)∧w'=w):=by
 refine p8 [v,.int .i64 o] func235 rfl ?_;have hS:=hv.isS;have hn:=hv.vlen;cases l with
 | nil=>
  have h0:decide ((0:Int)<(([]:List St).length:Int))=false:=by simp
  simp only[n7,n8,simprocAttr,hS,hn,h0];refine o6 results235 ?_;simp only[p6,simprocAttr];exact⟨by trivial,by trivial⟩
 | cons t l=>
  have h0:decide ((0:Int)<((t::l).length:Int))=true:=dq5 (by simp only[do7];omega);have hin:=hv.inS (k:=0) (by simp);obtain⟨_,_,_,_,_,_,_,_,_,ldt,_⟩:=(hv.at_ (i:=0) rfl).st;have lt:=ldt w (d7 _);have hz:A3.sz St=13:=rfl;rw[hz,Nat.zero_mul]at lt;simp only[n7,n8,z6,simprocAttr,hS,hn,h0,hin,lt];refine o6 results235 ?_;simp only[p6,simprocAttr];exact⟨by trivial,by trivial⟩
theorem cq1(a:Addr)(vit:Value)(p:Pg)(it:It)(i x y:Nat)(w:World)(hs:At (i4 w) a (b9 p))(hit:SV (i4 w) vit it)(hr:F1 p)(hw:D3 p≤1000000)(hi:i<p.procs.length)(pt:aA8 p i x y)(hmi:it∈(b9 p).of i):
  p7 prog 184 #[.pointer (some a),vit] w fun u w'=>(A8 (i4 w) w' 3 u ((b9 p).goes it)∧o7 w w'):=by
 refine p8 [.pointer (some a),vit] func184 rfl ?_;obtain⟨b,w1,hb1,hx1,hat⟩:=bV3 hit (d7 _);obtain⟨hats,ldi,sdi⟩:=hat.it;obtain⟨_,_,vth,vel,_,_,hth,hel,_,ldt,sdt⟩:=hats.st;have li:=ldi w1 (d7 _);have lt:=ldt w1 (d7 _);have hpr:=by5 p hw i hi it hmi;rw[hpr]at li;have lit1:∀(t:Int) (w':World),B4 (i4 w) (i4 w')→∃v w'',(Instr.buildSlice 112 1 #[(0,.int .i64 t)]).run prog w' = .ok v w''∧A8 (i4 w) w'' 3 v [t]∧o7 w' w'':=fun t w' B4=>by
  obtain⟨v,w'',h1,h2,h3,_⟩:=lit (P:=prog) (w:=w') (h:=i4 w) (α:=Int) (xs:=[.int .i64 t]) (ys:=[t]) (parts:=#[(0,.int .i64 t)]) (n:=1) ad2 rfl (L7.2 rfl) (by simp[Value.cells]) rfl rfl (by simp) (by simp) B4;exact⟨v,w'',h1,h2,h3⟩
 have lit2:∀(t t2:Int) (w':World),B4 (i4 w) (i4 w')→∃v w'',(Instr.buildSlice 112 2 #[(0,.int .i64 t),(1,.int .i64 t2)]).run prog w' = .ok v w''∧A8 (i4 w) w'' 3 v [t,t2]∧o7 w' w'':=fun t t2 w' B4=>by
  obtain⟨v,w'',h1,h2,h3,_⟩:=lit (P:=prog) (w:=w') (h:=i4 w) (α:=Int) (xs:=[.int .i64 t,.int .i64 t2]) (ys:=[t,t2]) (parts:=#[(0,.int .i64 t),(1,.int .i64 t2)]) (n:=2) ad2 rfl (L7.2 rfl) (by simp[Value.cells]) rfl rfl (by simp) (by simp) B4;exact⟨v,w'',h1,h2,h3⟩
 have hx1d:=hx1.trans (o7.drew w1);have hst:∀w',o7 w1.drew w'→B4 (i4 w1) (i4 w'):=fun w' h=>b7 ((o7.drew w1).trans h);have si:=sdi (fun w'=>o7 w1.drew w') w1.drew (p9.refl _) hst;have st:=sdt (fun w'=>o7 w1.drew w') w1.drew (p9.refl _) hst;have hF:=show(b9 p).goes it=if it.s.kind=5 then[az1 it.s.thn it.next,az1 it.s.els it.next]else if it.s.kind=6 then[az1 it.s.thn it.s.id,it.next]else if it.s.kind=7 then[((b9 p).it it.loop).next]else if it.s.kind=8 then[it.loop]else if it.s.kind=9 then[-1]else if it.s.kind=10 then[((b9 p).at it.proc it.s.name).getD 0]else[it.next]from rfl;rcases dm5 (decide (it.s.kind=5))with k5|k5
 ·rw[if_pos (dm8 k5)]at hF;obtain⟨vr,w2,hl,ho,hx2⟩:=lit2 (az1 it.s.thn it.next) (az1 it.s.els it.next) w1.drew (b7 hx1d);simp only[n7,n8,simprocAttr,hb1,lt,k5];refine C2 (fun w'=>o7 w1.drew w') 11 (A9 [0,1,2,3,4,6,7,8,9,10,5]) ?_;simp only[D1,A9,n7,n8,simprocAttr,si,st];refine C8 (aS5 vth it.s.thn it.next w1.drew (A3.mono (b7 (o7.drew w1)) hth)) ⟨p9.refl _,?_⟩;simp only[D1,n7,simprocAttr];refine C8 (aS5 vel it.s.els it.next w1.drew (A3.mono (b7 (o7.drew w1)) hel)) ?_;simp only[n7,simprocAttr,hl];refine o6 results184 ?_;simp only[p6,simprocAttr];exact⟨by rw[hF];exact ho,hx1d.trans hx2⟩
 rw[if_neg (dm9 k5)]at hF;rcases dm5 (decide (it.s.kind=6))with k6|k6
 ·rw[if_pos (dm8 k6)]at hF;obtain⟨vr,w2,hl,ho,hx2⟩:=lit2 (az1 it.s.thn it.s.id) it.next w1.drew (b7 hx1d);simp only[n7,n8,simprocAttr,hb1,lt,k5,k6];refine C2 (fun w'=>o7 w1.drew w') 9 (A9 [0,1,2,3,4,5,7,8,6]) ?_;simp only[D1,A9,n7,n8,simprocAttr,si,st];refine C8 (aS5 vth it.s.thn it.s.id w1.drew (A3.mono (b7 (o7.drew w1)) hth)) ⟨p9.refl _,?_⟩;simp only[D1,n7,simprocAttr,hl];refine o6 results184 ?_;simp only[p6,simprocAttr];exact⟨by rw[hF];exact ho,hx1d.trans hx2⟩
 rw[if_neg (dm9 k6)]at hF;have B4:=hr.leads hi it hmi;unfold ap2 at B4;rcases dm5 (decide (it.s.kind=7))with k7|k7
 ·rw[if_pos (dm8 k7)]at hF;rw[if_pos (.inl (dm8 k7))]at B4;have hlp:(x:Int)<it.loop∧it.loop≤(y:Int):=by
   rcases pt.loop it hmi with h|h
   ·rw[h]at B4;simp at B4
   ·exact h
  obtain⟨_,_,hget⟩:=pt.at_ it.loop hlp.1 hlp.2;obtain⟨vr,w2,hl,ho,hx2⟩:=lit1 ((b9 p).it it.loop).next w1.drew (b7 hx1d);obtain⟨vL,vlo,vhi,hL,_,_,_,_,sds⟩:=(hs.mono (b7 hx1)).sh;have ss:=sds (fun w'=>o7 w1.drew w') w1.drew (p9.refl _) hst;obtain⟨_,_,sdl⟩:=(hL.at_ hget).it;have sl:=sdl (fun w'=>o7 w1.drew w') w1.drew (p9.refl _) hst;have hz:A3.sz It=17:=rfl;rw[hz]at sl;have hlt:=(dn0.1 hget).1;have hin:=hL.inS hlt;have hfit:=pt.ok.fit;have hlen:=pt.ok.len;have hwl:IntKind.i64.wrap (it.loop-1)=(((it.loop-1).toNat:Nat):Int):=by rw[L0 _ (by omega)];omega
  generalize(it.loop-1).toNat=q at hin sl hwl;simp only[n7,n8,simprocAttr,hb1,lt,k5,k6,k7];refine C2 (fun w'=>o7 w1.drew w') 12 (A9 [0,1,2,3,4,5,6,7,8,9,10,11]) ?_;simp only[D1,A9,n7,n8,z6,simprocAttr,si,ss,sl,hin,hwl,hl,F2];refine⟨hx2,?_⟩;refine o6 results184 ?_;simp only[p6,simprocAttr];exact⟨by rw[hF];exact ho,hx1d.trans hx2⟩
 rw[if_neg (dm9 k7)]at hF;rcases dm5 (decide (it.s.kind=8))with k8|k8
 ·rw[if_pos (dm8 k8)]at hF;obtain⟨vr,w2,hl,ho,hx2⟩:=lit1 it.loop w1 (b7 hx1);simp only[n7,n8,simprocAttr,hb1,li,lt,k5,k6,k7,k8,hl];refine o6 results184 ?_;simp only[p6,simprocAttr];exact⟨by rw[hF];exact ho,hx1.trans hx2⟩
 rw[if_neg (dm9 k8)]at hF;rcases dm5 (decide (it.s.kind=9))with k9|k9
 ·rw[if_pos (dm8 k9)]at hF;obtain⟨vr,w2,hl,ho,hx2⟩:=lit1 (-1) w1 (b7 hx1);simp only[n7,n8,simprocAttr,hb1,lt,k5,k6,k7,k8,k9,hl];refine o6 results184 ?_;simp only[p6,simprocAttr];exact⟨by rw[hF];exact ho,hx1.trans hx2⟩
 rw[if_neg (dm9 k9)]at hF;rcases dm5 (decide (it.s.kind=10))with k10|k10
 ·rw[if_pos (dm8 k10),hpr]at hF;simp only[n7,n8,simprocAttr,hb1,li,lt,k5,k6,k7,k8,k9,k10];refine B1 (bI8 a (b9 p) i x y it.s.name w1 (hs.mono (b7 hx1)) pt.ok (by rw[G7];exact hi) (Z1 p hw) (by rw[G7];exact ap9 p hw)) (fun w2 hx2=>?_);cases hq:(b9 p).at i it.s.name with
  | none=>
   obtain⟨vr,w3,hl,ho,hx3⟩:=lit1 0 w2 (b7 (hx1.trans hx2));simp only[n7,simprocAttr,bH1,hl];refine o6 results184 ?_;simp only[p6,simprocAttr];exact⟨by rw[hF,hq];exact ho,hx1.trans (hx2.trans hx3)⟩
  | some q=>
   obtain⟨vr,w3,hl,ho,hx3⟩:=lit1 q w2 (b7 (hx1.trans hx2));simp only[n7,simprocAttr,bH1,hl];refine o6 results184 ?_;simp only[p6,simprocAttr];exact⟨by rw[hF,hq];exact ho,hx1.trans (hx2.trans hx3)⟩
 ·rw[if_neg (dm9 k10)]at hF;obtain⟨vr,w2,hl,ho,hx2⟩:=lit1 it.next w1 (b7 hx1);simp only[n7,n8,simprocAttr,hb1,li,lt,k5,k6,k7,k8,k9,k10,hl];refine o6 results184 ?_;simp only[p6,simprocAttr];exact⟨by rw[hF];exact ho,hx1.trans hx2⟩
theorem ah7(a b c:Int):B7 prog 186 [(0,.int .i64 a),(1,.int .i64 b),(2,.int .i64 c)]=some (.agg (A5.cells (⟨a,b,c⟩:Sp)).toArray):=by
 simp[B7,cQ2,J4,Instr.fill,Value.cells,A5.cells,Sp.cells]
theorem bD0{α:Type}[A3 α][A5 α]{h:Hp}(x:α):A3.enc h (Value.cells (.agg (A5.cells x).toArray)).toList x:=(A5.iff_ _ _ _).2 (by simp[Value.cells])
theorem bQ8{x y:Nat}(hy:y≤1000000){a:Int}(h:Rg x y a):plc a:=by
 unfold plc;rcases h with h|h<;>omega
theorem cj7{p:Pg}(hr:F1 p)(hw:D3 p≤1000000){i x y:Nat}(hi:i<p.procs.length)(pt:aA8 p i x y):∀t∈((⟨0,(b9 p).first i,1⟩:Sp)::((b9 p).of i).flatMap fun it=>((b9 p).goes it).map fun t=>⟨it.s.id,t,1⟩),plc t.src∧plc t.dst:=by
 intro t ht;have hy:y≤1000000:=dn4 pt.ok.len pt.ok.fit;rcases do3.1 ht with rfl|ht
 ·exact⟨by unfold plc;simp,bQ8 hy (bD6 pt)⟩
 ·obtain⟨it,hit,ht⟩:=ds4.1 ht;obtain⟨a,ha,rfl⟩:=dp7.1 ht;have:=pt.ids it hit;exact⟨by unfold plc;simp only[];omega,bQ8 hy (bX5 hr hw hi pt it hit a ha)⟩
theorem cb8(a:Addr)(p:Pg)(i x y:Nat)(w:World)(hs:At (i4 w) a (b9 p))(hr:F1 p)(hw:D3 p≤1000000)(hi:i<p.procs.length)(pt:aA8 p i x y):
  p7 prog 122 #[.pointer (some a),.int .i64 i] w fun u w'=>(A8 (i4 w) w' 186 u ((b9 p).steps i)∧o7 w w'):=by
 refine p8 [.pointer (some a),.int .i64 i] func122 rfl ?_;obtain⟨hmem,hlen⟩:=aY0 p hw i hi;have hgl:=bE8 (b9 p);have hF:(b9 p).steps i=aq2 (⟨0,(b9 p).first i,1⟩::((b9 p).of i).flatMap fun it=>((b9 p).goes it).map fun t=>⟨it.s.id,t,1⟩):=rfl;have hall:=cj7 hr hw hi pt;simp only[n7,n8,simprocAttr];refine B1 (bI9 a (b9 p) i x y w hs pt.ok) (fun w1 hx1=>?_);obtain⟨v0,w2,hlit,ho2,hx2,_⟩:=lit (P:=prog) (w:=w1) (h:=i4 w) (α:=Sp) (xs:=[.agg (A5.cells (⟨0,(b9 p).first i,1⟩:Sp)).toArray]) (ys:=[⟨0,(b9 p).first i,1⟩]) (parts:=#[(0,.agg (A5.cells (⟨0,(b9 p).first i,1⟩:Sp)).toArray)]) (n:=1) bj5 rfl (V2.2 (by simp[Value.cells])) (by simp[Value.cells,A5.cells,Sp.cells]) rfl rfl (by simp) (by simp) (b7 hx1);have hx02:=hx1.trans hx2;simp only[n7,simprocAttr,ah7,hlit];refine y5 (aD6 (i4 w) a (b9 p) i x y w2 hs (b7 hx02) pt.ok) ?_;rintro ui w3 ⟨hui,hx3⟩;have hgo:=fun it vit w' (h1:it∈(b9 p).of i) (h2:SV (i4 w') vit it) (h3:At (i4 w') a (b9 p))=>cq1 a vit p it i x y w' h3 h2 hr hw hi pt h1;generalize hl:(b9 p).of i=l at hui hlen hF hgo hall;have hx03:=hx02.trans hx3;have hS2:=hui.isS;have hn2:=hui.vlen;generalize hB:(fun it:It=>((b9 p).goes it).map fun t=>(⟨it.s.id,t,1⟩:Sp))=B at hF hall;have hBl:∀it,(B it).length≤2:=fun it=>by rw[←hB];simp only[dn7];exact hgl it
 generalize hfs:(⟨0,(b9 p).first i,1⟩:Sp)=s0 at ho2 hF hall;have hbt:∀k,((l.take k).flatMap B).length≤800000:=fun k=>by
  refine dn4 (U3 B 2 _ fun x _=>hBl x) ?_;rw[dn8];omega
 simp only[n7,n8,simprocAttr,hS2,hn2];refine n9 [0,17,18] (σ:=Nat×Value) (fun s f w'=>f 19 = .int .i64 s.1∧f 5=s.2∧s.1≤l.length∧A8 (i4 w) w' 186 s.2 (s0::(l.take s.1).flatMap B)∧o7 w w') (fun s=>l.length-s.1) (0,v0) ?_ ?_
 ·simp only[p6,simprocAttr];exact⟨by trivial,by trivial,dn5 _,by simpa using ho2.ext hx3,hx03⟩
 rintro⟨j,u⟩ f w5 hk ⟨h19,h5,hjl,ho,hx5⟩;simp only at h19 h5 hjl ho;simp only[dm6,p6,simprocAttr]at hk;obtain⟨e0,e17,e18,_⟩:=hk;have hpre:=hbt j;simp only[n7,n8,simprocAttr,h19,e18];refine m8 (fun hc=>?_) (fun hc=>?_);rotate_left
 ·have hge:j=l.length:=by simp at hc;omega
  subst hge;rw[dn6]at ho hpre;simp only[n7,simprocAttr,h5];refine y5 (av9 ho (by simp only[do7];omega) (b7 hx5) hall) ?_;rintro u6 w6 ⟨ho6,hm6,_⟩;simp only[n7,simprocAttr];refine o6 results122 ?_;simp only[p6,simprocAttr];exact⟨by rw[hF];exact ho6,ho.ext2 hx5 hm6⟩
 have hlt:j<l.length:=by simpa using hc
 have hin:=hui.inS hlt;obtain⟨sv,hsv,hld⟩:=F0 (P:=prog) (t:=121) hui (b7 hx5) (dm4 hlt) aa4 aa5 Y5 I5;rw[I5]at hld;have htk:=I7 B l hlt;have hmi:=dn3 hlt;generalize l[j]=it at hsv htk hmi;obtain⟨c,wz,w6,hal,hst,hx6,hati⟩:=aG3 (w:=w5) (A4 u) hsv (fun b hb=>ho.lt hb);obtain⟨ldI,_⟩:=J6.it_v hsv hati;obtain⟨us,hus,hats,_,_⟩:=J6.it hsv hati;obtain⟨_,_,_,_,_,_,_,_,_,_,_,ldt,_⟩:=J6.st hus hats;have k1:=ldI w6 (B8 _ _);have hx56:=hx5.trans hx6;simp only[n7,n8,z6,simprocAttr,h19,e0,e17,hin,hld,hal,hst,k1];refine y5 (hgo it sv w6 hmi (hsv.mono (b7 hx56)) (hs.mono (b7 hx56))) ?_;rintro ug w7 ⟨hog,hx7⟩;have ho6:=ho.ext hx6;have hug:R (B6 w7 (A4 u)) ug ((b9 p).goes it):=hog.flatR fun b hb=>C9 fun hbu=>by
  have h1:=ho6.lt hbu;have h2:=C0 (hog.free hb);omega
 have ho7:=ho6.ext hx7;have hx57:=hx56.trans hx7;have hBit:B it=((b9 p).goes it).map fun t=>(⟨it.s.id,t,1⟩:Sp):=by rw[←hB]
 have hgit:=hgl it;generalize(b9 p).goes it=gl at hug hBit hgit;generalize(l.take j).flatMap B=pre at ho7 hpre htk;have hS3:=hug.isS;have hn3:=hug.vlen;simp only[n7,n8,simprocAttr,hS3,hn3];refine n9 [0,7,17,18,19,25,26] (σ:=Nat×Value) (fun s f w'=>f 27 = .int .i64 s.1∧f 5=s.2∧s.1≤gl.length∧A8 (i4 w) w' 186 s.2 (s0::(pre++(gl.take s.1).map fun t=>(⟨it.s.id,t,1⟩:Sp)))∧p9 (A4 u) w7 w'∧D7 w7 u s.2) (fun s=>gl.length-s.1) (0,u) ?_ ?_
 ·simp only[p6,simprocAttr];exact⟨by trivial,h5,dn5 _,by simpa using ho7,p9.refl _,fun b hb=>.inl hb⟩
 rintro⟨k,u8⟩ f8 w8 hk ⟨h27,h58,hkl,ho8,hm8,hmv8⟩;simp only at h27 h58 hkl ho8 hmv8;simp only[dm6,p6,simprocAttr]at hk;obtain⟨q0,q7,q17,q18,q19,q25,q26,_⟩:=hk;have hx08:=ho7.ext2 hx57 hm8;simp only[n7,n8,simprocAttr,h27,q26];refine m8 (fun hc=>?_) (fun hc=>?_);rotate_left
 ·have hge:k=gl.length:=by simp at hc;omega
  subst hge;rw[dn6,←hBit]at ho8;simp only[n7,n8,simprocAttr,q19,h19];refine⟨(j+1,u8),by simp only[];omega,by simp only[];rw[B0 j (by omega)],h58,by simp only[];omega,?_,hx08⟩;simp only[];rw[htk];exact ho8
 have hlt8:k<gl.length:=by simpa using hc
 clear hin hld;have hin:=hug.inS hlt8;have hld:=aG9 hug (D2 hm8) hlt8;have htk8:(gl.take (k+1)).map (fun t=>(⟨it.s.id,t,1⟩:Sp))=(gl.take k).map (fun t=>(⟨it.s.id,t,1⟩:Sp))++[⟨it.s.id,gl[k],1⟩]:=by
  rw[dn2 hlt8,dp4];rfl
 generalize gl[k]=y1 at hld htk8;have k2:=ldt w8 (D2 (p9.chain (p9.up hx7) hm8 fun _ _ h=>h));obtain⟨p1,u9,w9,p2,p3,p4,p5⟩:=push (e:=144) bj5 rfl ho8 (x:=.agg (A5.cells (⟨it.s.id,y1,1⟩:Sp)).toArray) (y:=⟨it.s.id,y1,1⟩) (bD0 _) (by simp only[do7,dm7,dn7,dn8];omega) (by simp only[do7,dm7,dn7,dn8];omega) (b7 hx08);simp only[n7,n8,z6,simprocAttr,h27,h58,q7,q25,hin,hld,k2,ah7,p1,p2];refine⟨(k+1,u9),by simp only[];omega,by simp only[];rw[B0 k (by omega)],by trivial,by simp only[];omega,?_,hm8.chain p4 fun b hb hbu=>?_,fun b hb=>?_⟩
 ·simp only[];rw[htk8,←do8,←dx5];exact p3
 ·rcases hmv8 b hbu with h|h
  ·exact h
  ·omega
 ·rcases p5 b hb with h|h
  ·exact hmv8 b h
  ·exact .inr (dn4 hm8.size h)
def Wy.sp(w:Wy):Ptr Sh:=⟨w.s⟩
instance:A3 Wy where
 sz:=5
 pos:=by omega
 enc h cs x:=∃v1 v2 v3,cs=[v1,.int .i64 x.proc,.int .i64 x.n,v2,v3]∧R h v1 x.sp∧R h v2 x.real∧R h v3 x.live
 len:=by rintro h cs a ⟨v1,v2,v3,rfl,_⟩;rfl
 mono:=by rintro h k cs a hk ⟨v1,v2,v3,rfl,h1,h2,h3⟩;exact⟨v1,v2,v3,rfl,A3.mono hk h1,A3.mono hk h2,A3.mono hk h3⟩
 one:=by
  rintro h cs a ⟨v1,v2,v3,rfl,h1,h2,h3⟩ v hv;simp only[do3,dr8,dy0]at hv;rcases hv with rfl|rfl|rfl|rfl|rfl
  ·exact X3 h1
  ·rfl
  ·rfl
  ·exact X3 h2
  ·exact X3 h3
structure Bk where
 s:Sh
 ways:List Wy
 defs:List (List A7)
 uses:List (List A7)
 ins:List (List A7)
 outs:List (List A7)
def Bk.sp(b:Bk):Ptr Sh:=⟨b.s⟩
def Bk.wp(b:Bk):List (Ptr Wy):=b.ways.map fun w=>⟨w⟩
instance:A3 Bk where
 sz:=6
 pos:=by omega
 enc h cs x:=∃v1 v2 v3 v4 v5 v6,cs=[v1,v2,v3,v4,v5,v6]∧R h v1 x.sp∧R h v2 x.wp∧R h v3 x.defs∧R h v4 x.uses∧R h v5 x.ins∧R h v6 x.outs
 len:=by rintro h cs a ⟨v1,v2,v3,v4,v5,v6,rfl,_⟩;rfl
 mono:=by rintro h k cs a hk ⟨v1,v2,v3,v4,v5,v6,rfl,h1,h2,h3,h4,h5,h6⟩;exact⟨v1,v2,v3,v4,v5,v6,rfl,A3.mono hk h1,A3.mono hk h2,A3.mono hk h3,A3.mono hk h4,A3.mono hk h5,A3.mono hk h6⟩
 one:=by
  rintro h cs a ⟨v1,v2,v3,v4,v5,v6,rfl,h1,h2,h3,h4,h5,h6⟩ v hv;simp only[do3,dr8,dy0]at hv;rcases hv with rfl|rfl|rfl|rfl|rfl|rfl
  ·exact X3 h1
  ·exact X3 h2
  ·exact X3 h3
  ·exact X3 h4
  ·exact X3 h5
  ·exact X3 h6
theorem cD6{h:Hp}{cs:List Value}{x:Wy}:A3.enc h cs x→∃v_sp v_real v_live,cs=([v_sp]:List Value)++([.int .i64 x.proc]:List Value)++([.int .i64 x.n]:List Value)++([v_real]:List Value)++([v_live]:List Value)∧R h v_sp x.sp∧R h v_real x.real∧R h v_live x.live:=by
 rintro⟨v1,v2,v3,rfl,h1,h2,h3⟩;exact⟨v1,v2,v3,rfl,h1,h2,h3⟩
theorem At.wy{h:Hp}{a:Addr}{x:Wy}(ha:At h a x):∃v_sp v_real v_live,R h v_sp x.sp∧R h v_real x.real∧R h v_live x.live∧(∀w,B4 h (i4 w)→N6 prog w 89 a v_sp∧N6 prog w 3 (a.add 1) (.int .i64 x.proc)∧N6 prog w 3 (a.add 2) (.int .i64 x.n)∧N6 prog w 144 (a.add 3) v_real∧N6 prog w 149 (a.add 4) v_live)∧(∀(S:World→Prop) (w0:World),S w0→(∀w,S w→B4 h (i4 w))→N7 prog S 89 a v_sp∧N7 prog S 3 (a.add 1) (.int .i64 x.proc)∧N7 prog S 3 (a.add 2) (.int .i64 x.n)∧N7 prog S 144 (a.add 3) v_real∧N7 prog S 149 (a.add 4) v_live):=by
 obtain⟨cs,he,hc⟩:=ha;obtain⟨v_sp,v_real,v_live,rfl,h_sp,h_real,h_live⟩:=cD6 he;exact⟨_,_,_,h_sp,h_real,h_live,fun w hw=>⟨E0 hc rfl bk5 w hw,t8 hc (o:=1) rfl F4 w hw,t8 hc (o:=2) rfl F4 w hw,t8 hc (o:=3) rfl bS8 w hw,t8 hc (o:=4) rfl aj5 w hw⟩,fun S w0 hS hw=>⟨R5 hS fun w' hw'=>E0 hc rfl bk5 w' (hw w' hw'),R5 hS fun w' hw'=>t8 hc (o:=1) rfl F4 w' (hw w' hw'),R5 hS fun w' hw'=>t8 hc (o:=2) rfl F4 w' (hw w' hw'),R5 hS fun w' hw'=>t8 hc (o:=3) rfl bS8 w' (hw w' hw'),R5 hS fun w' hw'=>t8 hc (o:=4) rfl aj5 w' (hw w' hw')⟩⟩
theorem cC9{h:Hp}{cs:List Value}{x:Bk}:A3.enc h cs x→∃v_sp v_wp v_defs v_uses v_ins v_outs,cs=([v_sp]:List Value)++([v_wp]:List Value)++([v_defs]:List Value)++([v_uses]:List Value)++([v_ins]:List Value)++([v_outs]:List Value)∧R h v_sp x.sp∧R h v_wp x.wp∧R h v_defs x.defs∧R h v_uses x.uses∧R h v_ins x.ins∧R h v_outs x.outs:=by
 rintro⟨v1,v2,v3,v4,v5,v6,rfl,h1,h2,h3,h4,h5,h6⟩;exact⟨v1,v2,v3,v4,v5,v6,rfl,h1,h2,h3,h4,h5,h6⟩
theorem At.bk{h:Hp}{a:Addr}{x:Bk}(ha:At h a x):∃v_sp v_wp v_defs v_uses v_ins v_outs,R h v_sp x.sp∧R h v_wp x.wp∧R h v_defs x.defs∧R h v_uses x.uses∧R h v_ins x.ins∧R h v_outs x.outs∧(∀w,B4 h (i4 w)→N6 prog w 89 a v_sp∧N6 prog w 90 (a.add 1) v_wp∧N6 prog w 91 (a.add 2) v_defs∧N6 prog w 91 (a.add 3) v_uses∧N6 prog w 91 (a.add 4) v_ins∧N6 prog w 91 (a.add 5) v_outs)∧(∀(S:World→Prop) (w0:World),S w0→(∀w,S w→B4 h (i4 w))→N7 prog S 89 a v_sp∧N7 prog S 90 (a.add 1) v_wp∧N7 prog S 91 (a.add 2) v_defs∧N7 prog S 91 (a.add 3) v_uses∧N7 prog S 91 (a.add 4) v_ins∧N7 prog S 91 (a.add 5) v_outs):=by
 obtain⟨cs,he,hc⟩:=ha;obtain⟨v_sp,v_wp,v_defs,v_uses,v_ins,v_outs,rfl,h_sp,h_wp,h_defs,h_uses,h_ins,h_outs⟩:=cC9 he;exact⟨_,_,_,_,_,_,h_sp,h_wp,h_defs,h_uses,h_ins,h_outs,fun w hw=>⟨E0 hc rfl bk5 w hw,t8 hc (o:=1) rfl cx2 w hw,t8 hc (o:=2) rfl ak6 w hw,t8 hc (o:=3) rfl ak6 w hw,t8 hc (o:=4) rfl ak6 w hw,t8 hc (o:=5) rfl ak6 w hw⟩,fun S w0 hS hw=>⟨R5 hS fun w' hw'=>E0 hc rfl bk5 w' (hw w' hw'),R5 hS fun w' hw'=>t8 hc (o:=1) rfl cx2 w' (hw w' hw'),R5 hS fun w' hw'=>t8 hc (o:=2) rfl ak6 w' (hw w' hw'),R5 hS fun w' hw'=>t8 hc (o:=3) rfl ak6 w' (hw w' hw'),R5 hS fun w' hw'=>t8 hc (o:=4) rfl ak6 w' (hw w' hw'),R5 hS fun w' hw'=>t8 hc (o:=5) rfl ak6 w' (hw w' hw')⟩⟩
structure WyOk (p:Pg) (i x y:Nat) (wy:Wy):Prop where
 s:wy.s=b9 p
 proc:wy.proc=(i:Int)
 n:wy.n=(y:Int)-(x:Int)+2
 part:aA8 p i x y
theorem WyOk.index{p:Pg}{i x y:Nat}{wy:Wy}(h:WyOk p i x y wy)(a:Int):wy.index a=if a=0 then 0 else if a = -1 then wy.n-1 else if(x:Int)+1≤a∧a<(y:Int)+1 then a-((x:Int)+1)+1 else -1:=by
 have h1:=h.part.ok.lo;have h2:=h.part.ok.hi;unfold Wy.index V0;simp only[h.s,h.proc,dp0,List.getD,h1,h2,dr7]
theorem WyOk.place{p:Pg}{i x y:Nat}{wy:Wy}(h:WyOk p i x y wy)(a:Int):wy.place a=if a=0 then 0 else if a=wy.n-1 then -1 else(x:Int)+1+a-1:=by
 have h1:=h.part.ok.lo;unfold Wy.place V0;simp only[h.s,h.proc,dp0,List.getD,h1,dr7]
theorem aQ9(a:Addr)(wy:Wy)(p:Pg)(i x y:Nat)(pl:Int)(w:World)(ha:At (i4 w) a wy)(hok:WyOk p i x y wy)(hpl : -1≤pl∧pl≤2000000):
  p7 prog 132 #[.pointer (some a),.int .i64 pl] w fun u w'=>(u = .int .i64 (wy.index pl)∧o7 w w'):=by
 refine p8 [.pointer (some a),.int .i64 pl] func132 rfl ?_;obtain⟨vs,_,_,hvs,_,_,ldw,sdw⟩:=ha.wy;obtain⟨sh,rfl,has⟩:=Ptr.at_ hvs;have hss:At (i4 w) sh (b9 p):=by rw[←hok.s];exact has
 obtain⟨vL,vlo,vhi,hL,hlo,hhi,hap,lds,sds⟩:=hss.sh;have lw:=ldw w (d7 _);rw[hok.proc]at lw;have hF:=hok.index pl;have hN:=hok.n;have hle':=hok.part.ok.le;have hlen:=hok.part.ok.len;have hfit:=hok.part.ok.fit;have hst:∀w',o7 w.drew w'→B4 (i4 w) (i4 w'):=fun w' h=>b7 ((o7.drew w).trans h);have s1:=sdw (fun w'=>o7 w.drew w') w.drew (p9.refl _) hst;rw[hok.proc]at s1;have s2:=sds (fun w'=>o7 w.drew w') w.drew (p9.refl _) hst;have hi1:=hlo.inS (dn0.1 hok.part.ok.lo).1;have hi2:=hhi.inS (dn0.1 hok.part.ok.hi).1;have k1:∀K f d w0,I2 prog (fun w'=>o7 w.drew w') (Instr.loadAt 3 (.pointer (some (G9 vlo i)))) K f d w0=K (C5 f d (.int .i64 ((x:Int)+1))) w0:=fun K f d w0=>D5 (w0:=w.drew) (p9.refl _) fun w' h=>ldI hlo (hst w' h) hok.part.ok.lo;have k2:∀K f d w0,I2 prog (fun w'=>o7 w.drew w') (Instr.loadAt 3 (.pointer (some (G9 vhi i)))) K f d w0=K (C5 f d (.int .i64 ((y:Int)+1))) w0:=fun K f d w0=>D5 (w0:=w.drew) (p9.refl _) fun w' h=>ldI hhi (hst w' h) hok.part.ok.hi;have hwn:IntKind.i64.wrap (wy.n-1)=wy.n-1:=L0 _ (by omega);rcases dm5 (decide (pl=0))with q0|q0
 ·simp only[n7,n8,simprocAttr,q0];refine o6 results132 ?_;simp only[p6,simprocAttr];exact⟨by rw[hF,if_pos (dm8 q0)],p9.refl _⟩
 rw[if_neg (dm9 q0)]at hF;rcases dm5 (decide (pl = -1))with q1|q1
 ·simp only[n7,n8,simprocAttr,q0,q1,lw,hwn];refine o6 results132 ?_;simp only[p6,simprocAttr];exact⟨by rw[hF,if_pos (dm8 q1)],p9.refl _⟩
 rw[if_neg (dm9 q1)]at hF;have hw1:IntKind.i64.wrap (pl-((x:Int)+1))=pl-((x:Int)+1):=L0 _ (by omega);have hw2:IntKind.i64.wrap (pl-((x:Int)+1)+1)=pl-((x:Int)+1)+1:=L0 _ (by omega);generalize hX:(x:Int)+1=X at k1 hF hw1 hw2;generalize hY:(y:Int)+1=Y at k2 hF;simp only[n7,n8,simprocAttr,q0,q1];refine C2 (fun w'=>o7 w.drew w') 33 (A9 [0,1,2,3,4,5,6,7,8,9,10,11,12,13,14,15,16,17,18,19,20,21,22,23,24,25,26,27,28,29,30,31,32]) ?_;rcases dm5 (decide (X≤pl))with q2|q2
 ·rcases dm5 (decide (pl<Y))with q3|q3
  ·have hst2:∀w',o7 w.drew.drew w'→B4 (i4 w) (i4 w'):=fun w' h=>b7 ((o7.drew w).trans ((o7.drew w.drew).trans h));have t1:=sdw (fun w'=>o7 w.drew.drew w') w.drew.drew (p9.refl _) hst2;rw[hok.proc]at t1;have t2:=sds (fun w'=>o7 w.drew.drew w') w.drew.drew (p9.refl _) hst2;have t3:∀K f d w0,I2 prog (fun w'=>o7 w.drew.drew w') (Instr.loadAt 3 (.pointer (some (G9 vlo i)))) K f d w0=K (C5 f d (.int .i64 X)) w0:=fun K f d w0=>D5 (w0:=w.drew.drew) (p9.refl _) fun w' h=>by rw[←hX];exact ldI hlo (hst2 w' h) hok.part.ok.lo
   simp only[D1,A9,n7,n8,z6,simprocAttr,s1,s2,k1,k2,hi1,hi2,q2,q3];refine C2 (fun w'=>o7 w.drew.drew w') 17 (A9 [0,1,2,3,4,5,6,7,8,9,10,11,12,13,14,15,16]) ?_;simp only[D1,A9,n7,n8,z6,simprocAttr,t1,t2,t3,hi1,hw1,hw2];refine o6 results132 ?_;simp only[p6,simprocAttr];exact⟨by rw[hF,if_pos ⟨dm8 q2,dm8 q3⟩],(o7.drew w).trans (o7.drew _)⟩
  ·simp only[D1,A9,n7,n8,z6,simprocAttr,s1,s2,k1,k2,hi1,hi2,q2,q3];refine o6 results132 ?_;simp only[p6,simprocAttr];exact⟨by rw[hF,if_neg (fun h=>dm9 q3 h.2)],o7.drew w⟩
 ·simp only[D1,A9,n7,n8,z6,simprocAttr,s1,s2,k1,hi1,q2];refine o6 results132 ?_;simp only[p6,simprocAttr];exact⟨by rw[hF,if_neg (fun h=>dm9 q2 h.1)],o7.drew w⟩
theorem aa8(a:Addr)(wy:Wy)(p:Pg)(i x y:Nat)(k:Int)(w:World)(ha:At (i4 w) a wy)(hok:WyOk p i x y wy)(hk:0≤k∧k≤2000000):
  p7 prog 88 #[.pointer (some a),.int .i64 k] w fun u w'=>(u = .int .i64 (wy.place k)∧o7 w w'):=by
 refine p8 [.pointer (some a),.int .i64 k] func88 rfl ?_;obtain⟨vs,_,_,hvs,_,_,ldw,sdw⟩:=ha.wy;obtain⟨sh,rfl,has⟩:=Ptr.at_ hvs;have hss:At (i4 w) sh (b9 p):=by rw[←hok.s];exact has
 obtain⟨vL,vlo,vhi,hL,hlo,hhi,hap,lds,sds⟩:=hss.sh;have lw:=ldw w (d7 _);have hF:=hok.place k;have hN:=hok.n;have hle':=hok.part.ok.le;have hlen:=hok.part.ok.len;have hfit:=hok.part.ok.fit;have hst:∀w',o7 w.drew w'→B4 (i4 w) (i4 w'):=fun w' h=>b7 ((o7.drew w).trans h);have s1:=sdw (fun w'=>o7 w.drew w') w.drew (p9.refl _) hst;rw[hok.proc]at s1;have s2:=sds (fun w'=>o7 w.drew w') w.drew (p9.refl _) hst;have hi1:=hlo.inS (dn0.1 hok.part.ok.lo).1;have k1:∀K f d w0,I2 prog (fun w'=>o7 w.drew w') (Instr.loadAt 3 (.pointer (some (G9 vlo i)))) K f d w0=K (C5 f d (.int .i64 ((x:Int)+1))) w0:=fun K f d w0=>D5 (w0:=w.drew) (p9.refl _) fun w' h=>ldI hlo (hst w' h) hok.part.ok.lo;have hwn:IntKind.i64.wrap (wy.n-1)=wy.n-1:=L0 _ (by omega);have hw1:IntKind.i64.wrap ((x:Int)+1+k)=(x:Int)+1+k:=L0 _ (by omega);have hw2:IntKind.i64.wrap ((x:Int)+1+k-1)=(x:Int)+1+k-1:=L0 _ (by omega);rcases dm5 (decide (k=0))with q0|q0
 ·simp only[n7,n8,simprocAttr,q0];refine o6 results88 ?_;simp only[p6,simprocAttr];exact⟨by rw[hF,if_pos (dm8 q0)],p9.refl _⟩
 rw[if_neg (dm9 q0)]at hF;rcases dm5 (decide (k=wy.n-1))with q1|q1
 ·simp only[n7,n8,simprocAttr,q0,q1,lw,hwn];refine o6 results88 ?_;simp only[p6,simprocAttr];exact⟨by rw[hF,if_pos (dm8 q1)],p9.refl _⟩
 rw[if_neg (dm9 q1)]at hF;generalize hX:(x:Int)+1=X at k1 hF hw1 hw2;simp only[n7,n8,simprocAttr,q0,q1,lw,hwn];refine C2 (fun w'=>o7 w.drew w') 17 (A9 [0,1,2,3,4,5,6,7,8,9,10,11,12,13,14,15,16]) ?_;simp only[D1,A9,n7,n8,z6,simprocAttr,s1,s2,k1,hi1,hw1,hw2];refine o6 results88 ?_;simp only[p6,simprocAttr];exact⟨by rw[hF],o7.drew w⟩
theorem WyOk.index_rg{p:Pg}{i x y:Nat}{wy:Wy}(h:WyOk p i x y wy){a:Int}(ha:a=0∨Rg x y a):0≤wy.index a∧wy.index a<wy.n:=by
 have h1:=h.n;have h2:=h.part.ok.le;rw[h.index];rcases ha with ha|ha|ha
 ·rw[if_pos ha];omega
 ·rw[if_neg (by omega),if_pos ha];omega
 ·rw[if_neg (by omega),if_neg (by omega),if_pos (by omega)];omega
theorem cb4(a:Addr)(wy:Wy)(p:Pg)(i x y:Nat)(pl:Int)(w:World)(ha:At (i4 w) a wy)(hok:WyOk p i x y wy)(hpl:(x:Int)<pl∧pl≤(y:Int))(hl:(wy.live.length:Int)=wy.n):
  p7 prog 127 #[.pointer (some a),.int .i64 pl] w fun u w'=>(u = .bool (wy.lives pl)∧o7 w w'):=by
 refine p8 [.pointer (some a),.int .i64 pl] func127 rfl ?_;obtain⟨_,_,vl,_,_,hvl,ldw,sdw⟩:=ha.wy;have hfit:=hok.part.ok.fit;have hlen:=hok.part.ok.len;have hst:∀w',o7 w.drew w'→B4 (i4 w) (i4 w'):=fun w' h=>b7 ((o7.drew w).trans h);have s1:=sdw (fun w'=>o7 w.drew w') w.drew (p9.refl _) hst;have hrg:=hok.index_rg (.inr (.inr hpl));have hlt:(wy.index pl).toNat<wy.live.length:=by omega
 have hin:=hvl.inS hlt;have hcast:wy.index pl=(((wy.index pl).toNat:Nat):Int):=by omega
 have hF:wy.lives pl=wy.live[(wy.index pl).toNat]:=by
  unfold Wy.lives atB;rw[List.getD,dm4 hlt];rfl
 simp only[n7,n8,simprocAttr];refine C2 (fun w'=>o7 w.drew w') 7 (A9 [0,1,2,3,4,5,6]) ?_;simp only[D1,A9,n7,n8,simprocAttr,s1];refine B1 (aQ9 a wy p i x y pl w.drew (ha.mono (b7 (o7.drew w))) hok (by omega)) (fun w2 hx2=>⟨hx2,?_⟩);have hx02:=(o7.drew w).trans hx2;have hld:=ldB hvl (b7 hx02) hlt;rw[hcast];generalize(wy.index pl).toNat=q at hlt hin hld hF;simp only[D1,n7,n8,z6,simprocAttr,hin,hld];refine o6 results127 ?_;simp only[p6,simprocAttr];exact⟨by rw[hF],hx02⟩
def GR(h:Hp)(pg:Value)(nx pv:List (List Int)):Prop:=
 ∃gb vn vp,pg = .pointer (some ⟨gb,0,none⟩)∧I3 h ⟨gb,0,none⟩=some vn∧I3 h ⟨gb,1,none⟩=some vp∧R h vn nx∧R h vp pv
theorem GR.mono{h k:Hp}{pg:Value}{nx pv:List (List Int)}(hg:GR h pg nx pv)(hk:B4 h k):GR k pg nx pv:=by
 obtain⟨gb,vn,vp,e,h1,h2,h3,h4⟩:=hg;exact⟨gb,vn,vp,e,F6 hk h1,F6 hk h2,A3.mono hk h3,A3.mono hk h4⟩
theorem cV4(a:Int)(w:World):p7 prog 186 #[.pointer none,.int .i64 a] w fun u w'=>(u = .bool false∧w'=w):=by
 refine p8 [.pointer none,.int .i64 a] func186 rfl ?_;simp only[J5,O4,B5,simprocAttr];refine o6 results186 ?_;simp only[p6,simprocAttr];exact⟨by trivial,by trivial⟩
theorem aM4(pg:Value)(nx pv:List (List Int))(a:Int)(w:World)(hg:GR (i4 w) pg nx pv):
  p7 prog 186 #[pg,.int .i64 a] w fun u w'=>(u = .bool (G8 nx.length a)∧w'=w):=by
 obtain⟨gb,vn,vp,rfl,h1,h2,h3,h4⟩:=hg;refine p8 [.pointer (some ⟨gb,0,none⟩),.int .i64 a] func186 rfl ?_;have hld:=F9 (P:=prog) (t:=153) h1 (d7 _) T4;have hS:=h3.isS;have hn:=h3.vlen;by_cases ha:0≤a
 ·have ha':decide (0≤a)=true:=by simpa using ha
  simp only[J5,O4,B5,E4,P8,simprocAttr,ha',hld,hS,hn];refine o6 results186 ?_;simp only[p6,simprocAttr];exact⟨by simp[G8,ha'],by trivial⟩
 ·have ha':decide (0≤a)=false:=by simpa using ha
  simp only[J5,O4,B5,E4,simprocAttr,ha'];refine o6 results186 ?_;simp only[p6,simprocAttr];exact⟨by simp[G8,ha'],by trivial⟩
theorem cB0(pg:Value)(nx pv:List (List Int))(w:World)(hg:GR (i4 w) pg nx pv):
  p7 prog 241 #[pg] w fun u w'=>(u = .int .i64 (nx.length:Nat)∧w'=w):=by
 obtain⟨gb,vn,vp,rfl,h1,h2,h3,h4⟩:=hg;refine p8 [.pointer (some ⟨gb,0,none⟩)] func241 rfl ?_;have hld:=F9 (P:=prog) (t:=153) h1 (d7 _) T4;have hS:=h3.isS;have hn:=h3.vlen;simp only[J5,O4,B5,P8,simprocAttr,hld,hS,hn];refine o6 results241 ?_;simp only[p6,simprocAttr];exact⟨by trivial,by trivial⟩
theorem cl0(pg:Value)(nx pv:List (List Int))(a:Int)(w:World)(hg:GR (i4 w) pg nx pv)(hlen:pv.length=nx.length)(hl:∀x∈nx,x.length≤1000000000):
  p7 prog 242 #[pg,.int .i64 a] w fun u w'=>(A8 (i4 w) w' 3 u (C1 nx a)∧o7 w w'):=by
 have hg':=hg;obtain⟨gb,vn,vp,rfl,h1,h2,h3,h4⟩:=hg;refine p8 [.pointer (some ⟨gb,0,none⟩),.int .i64 a] func242 rfl ?_;have hld:=F9 (P:=prog) (t:=153) h1 (d7 _) T4;have hS:=h3.isS;have hn:=h3.vlen;simp only[J5,O4,simprocAttr];refine y5 (aM4 _ nx pv a w hg') ?_;rintro u w' ⟨rfl,rfl⟩;have hll:nx.length=nx.length:=rfl;by_cases ha:G8 nx.length a=true
 ·have ha2:G8 nx.length a=true:=by rw[hll];exact ha
  obtain⟨hx1,hx2⟩:=al7 ha2;have hin:=h3.inS hx2;have h0:decide (0≤a)=true:=by simpa using(C4.1 ha).1
  obtain⟨x,hx3,hx4⟩:=h3.row hx1;have hld2:=F9 (P:=prog) (t:=112) hx4 (d7 _) R0;simp only[J5,O4,unV,z6,simprocAttr,ha,hld,hin,h0,hld2];refine y5 (bM5 x _ w' hx3 (hl _ (do5 hx1))) ?_;rintro r w2 ⟨hr,hx⟩;simp only[J5,simprocAttr];refine o6 results242 ?_;simp only[p6,simprocAttr];exact⟨hr,hx⟩
 ·have ha':G8 nx.length a=false:=by simpa using ha
  simp only[J5,O4,unV,simprocAttr,ha'];refine o6 results242 ?_;simp only[p6,simprocAttr];rw[aO7 (by rw[hll];exact ha')];exact⟨A8.nil _ _ _,p9.refl _⟩
structure GX (h:Hp) (w:World) (gb:Nat) (cs:Array Value) (vn:Value) (us:List Y7) (nx:List (List Int)) (vp:Value) (us':List Y7) (pv:List (List Int)):Prop where
 free:h gb=none
 cell:w.heap[gb]?=some (.cells cs 234 (0,0))
 rn:K8 h w 112 3 vn us nx
 rp:K8 h w 112 3 vp us' pv
 gn:¬L3 vn us gb
 gp:¬L3 vp us' gb
 dis:∀b,L3 vn us b→¬L3 vp us' b
section
variable {h:Hp} {w:World} {gb:Nat} {cs:Array Value} {vn vp:Value} {us us':List Y7} {nx pv:List (List Int)}
theorem GX.swap(hx:GX h w gb cs vn us nx vp us' pv):GX h w gb cs vp us' pv vn us nx:=
 ⟨hx.free,hx.cell,hx.rp,hx.rn,hx.gp,hx.gn,fun b h1 h2=>hx.dis b h2 h1⟩
theorem GX.lt(hx:GX h w gb cs vn us nx vp us' pv):gb<w.heap.size:=(dn1.1 hx.cell).1
theorem GX.mod{M:Nat→Prop}{w':World}(hx:GX h w gb cs vn us nx vp us' pv)(hm:p9 M w w')(hM:∀b,(b=gb∨L3 vn us b∨L3 vp us' b)→¬M b):GX h w' gb cs vn us nx vp us' pv:=
 ⟨hx.free,(hm.block gb hx.lt (hM gb (.inl rfl))).trans hx.cell,hx.rn.mod hm fun b hb=>hM b (.inr (.inl hb)),hx.rp.mod hm fun b hb=>hM b (.inr (.inr hb)),hx.gn,hx.gp,hx.dis⟩
theorem GX.set{w' w'':World}(hx:GX h w gb cs vn us nx vp us' pv){i:Nat}{u:Y7}(hi:us[i]?=some u){u':Value}{xs:List Int}
  (hm:p9 (A4 u.v) w w') (ho:A8 h w' 3 u' xs) (hv:D7 w u.v u') (hm2:p9 (A4 vn) w' w'') (ho2:A8 h w'' 112 vn (us.set i ⟨u'⟩)) :
  GX h w'' gb cs vn (us.set i ⟨u'⟩) (nx.set i xs) vp us' pv:=by
 have hui:u∈us:=do5 hi;have hnew:∀b,L3 vn (us.set i ⟨u'⟩) b→L3 vn us b∨w.heap.size≤b:=by
  rintro b (hb|⟨x,hx1,hb⟩)
  ·exact .inl (.inl hb)
  ·rcases du4 hx1 with h1|h1
   ·exact .inl (.inr ⟨x,h1,hb⟩)
   ·subst h1;rcases hv b hb with h2|h2
    ·exact .inl (.inr ⟨u,hui,h2⟩)
    ·exact .inr h2
 have k1:∀b,A4 u.v b→L3 vn us b:=fun b hb=>.inr ⟨u,hui,hb⟩;have k2:∀b,A4 vn b→L3 vn us b:=fun b hb=>.inl hb;refine⟨hx.free,?_,hx.rn.set hi hm ho hv hm2 ho2,?_,?_,hx.gp,?_⟩
 ·have h1:=hm.block gb hx.lt (fun hb=>hx.gn (k1 _ hb));have h2:=hm2.block gb (dt8 hx.lt hm.size) (fun hb=>hx.gn (k2 _ hb));exact h2.trans (h1.trans hx.cell)
 ·exact(hx.rp.mod hm fun b hb hb2=>hx.dis b (k1 b hb2) hb).mod hm2 fun b hb hb2=>hx.dis b (k2 b hb2) hb
 ·intro hb;rcases hnew gb hb with h1|h1
  ·exact hx.gn h1
  ·have:=hx.lt;omega
 ·intro b hb hb2;rcases hnew b hb with h1|h1
  ·exact hx.dis b h1 hb2
  ·have:=hx.rp.lt hb2;omega
theorem GX.read(hx:GX h w gb #[vn,vp] vn us nx vp us' pv)(hw:B4 h (i4 w)):GR (i4 w) (.pointer (some ⟨gb,0,none⟩)) nx pv:=by
 refine⟨gb,vn,vp,rfl,?_,?_,hx.rn.ro hw,hx.rp.ro hw⟩
 ·rw[←al1,du1 w gb 0 _ _ (0,0) hx.cell];rfl
 ·rw[←al1,du1 w gb 1 _ _ (0,0) hx.cell];rfl
end
theorem aF9{P:Program}{α:Type}[A3 α]{h:Hp}{w:World}{T T' t:TypeId}{v:Value}{us:List Y7}{xss:List (List α)}(hr:K8 h w T T' v us xss){i:Nat}{u:Y7}(hi:us[i]?=some u)(ht:H9 P t=false):
  (Instr.loadAt t (.pointer (some (G9 v i)))).run P w = .ok u.v w:=by
 obtain⟨es,⟨he,_⟩,hc⟩:=hr.outer.get hi;have:=hc 0 u.v (by rw[he];rfl);rw[J9]at this;have h1:(i*A3.sz Y7)=i:=dw3 i;rw[h1]at this;exact R9 ht this
theorem bt0{P:Program}{h:Hp}{w:World}{t:TypeId}{v u':Value}{us:List Y7}(ho:A8 h w 112 v us){i:Nat}(hi:i<us.length)(hu:isS u'=true){inf:TypeInfo}(hinf:P.info? t=some inf)(hs:inf.size=1):
  ∃w',(Instr.storeAt t (.pointer (some (G9 v i))) u').run P w = .ok () w'∧A8 h w' 112 v (us.set i ⟨u'⟩)∧p9 (A4 v) w w'∧w'.heap.size=w.heap.size:=
 D9 ho rfl hi (y:=(⟨u'⟩:Y7)) ⟨rfl,W5 hu⟩ (D8 hu) hinf hs
def GO(h:Hp)(w:World)(pg:Value)(nx pv:List (List Int))(M:Nat→Prop):Prop:=
 ∃gb vn us vp us',pg = .pointer (some ⟨gb,0,none⟩)∧GX h w gb #[vn,vp] vn us nx vp us' pv∧∀b,M b↔b=gb∨L3 vn us b∨L3 vp us' b
theorem GO.read{h:Hp}{w:World}{pg:Value}{nx pv:List (List Int)}{M:Nat→Prop}(hg:GO h w pg nx pv M)(hw:B4 h (i4 w)):GR (i4 w) pg nx pv:=by
 obtain⟨gb,vn,us,vp,us',rfl,hx,_⟩:=hg;exact hx.read hw
theorem GO.free{h:Hp}{w:World}{pg:Value}{nx pv:List (List Int)}{M:Nat→Prop}(hg:GO h w pg nx pv M):∀b,M b→h b=none:=by
 obtain⟨gb,vn,us,vp,us',rfl,hx,hM⟩:=hg;intro b hb;rcases(hM b).1 hb with rfl|hb|hb
 ·exact hx.free
 ·exact hx.rn.free hb
 ·exact hx.rp.free hb
theorem GO.mod{h:Hp}{w w':World}{pg:Value}{nx pv:List (List Int)}{M N:Nat→Prop}(hg:GO h w pg nx pv M)(hm:p9 N w w')(hN:∀b,M b→¬N b):GO h w' pg nx pv M:=by
 obtain⟨gb,vn,us,vp,us',rfl,hx,hM⟩:=hg;exact⟨gb,vn,us,vp,us',rfl,hx.mod hm fun b hb=>hN b ((hM b).2 hb),hM⟩
structure bc5 (l:List (List Int)):Prop where
 le:∀x∈l,x.Pairwise (· < ·)
 len:∀x∈l,x.length≤100000000
theorem bc5.le'{l:List (List Int)}(h:bc5 l){x:List Int}(hx:x∈l):x.Pairwise (· ≤ ·):=(h.le x hx).imp fun h=>Int.le_of_lt h
theorem cB6(h:Hp)(pg:Value)(nx pv:List (List Int))(M:Nat→Prop)(a b:Int)(w:World)(hg:GO h w pg nx pv M)(hw:B4 h (i4 w))(hl:pv.length=nx.length)(hr1:bc5 nx)(hr2:bc5 pv):
  p7 prog 236 #[pg,.int .i64 a,.int .i64 b] w fun u w'=>(u = .bool (ak1 nx a b)∧∃M',GO h w' pg (bL6 nx a b) (bL7 nx pv a b) M'∧p9 M w w'∧∀b,M' b→M b∨w.heap.size≤b):=by
 have hgr:=hg.read hw;obtain⟨gb,vn,us,vp,us',rfl,hx,hM⟩:=hg;refine p8 [.pointer (some ⟨gb,0,none⟩),.int .i64 a,.int .i64 b] func236 rfl ?_;simp only[J5,O4,simprocAttr];refine y5 (aM4 _ nx pv a w hgr) ?_;rintro u w' ⟨rfl,rfl⟩;have same:ak1 nx a b=false→∀w2,o7 w' w2→∃M',GO h w2 (.pointer (some ⟨gb,0,none⟩)) (bL6 nx a b) (bL7 nx pv a b) M'∧p9 M w' w2∧∀b,M' b→M b∨w'.heap.size≤b:=by
  intro hno w2 he;refine⟨M,?_,he.weaken fun _ _ h=>h.elim,fun b hb=>.inl hb⟩;unfold bL6 bL7;rw[hno];exact⟨gb,vn,us,vp,us',rfl,hx.mod he fun _ _ h=>h.elim,hM⟩
 by_cases ha:G8 nx.length a=true
 ·have hna:(!G8 nx.length a)=false:=by rw[ha];rfl
  simp only[J5,unV,simprocAttr,hna];refine y5 (aM4 _ nx pv b w' hgr) ?_;rintro u w ⟨rfl,rfl⟩;by_cases hb:G8 nx.length b=true
  ·have hnb:(!G8 nx.length b)=false:=by rw[hb];rfl
   have c0:w.cell? ⟨gb,0,none⟩=some vn:=by rw[du1 w gb 0 _ _ (0,0) hx.cell];rfl
   have l0:=R9 (P:=prog) (t:=153) T4 c0;have hSn:=hx.rn.outer.isS;obtain⟨hx1,hx2⟩:=al7 ha;have hlu:us.length=nx.length:=hx.rn.len;have hin:=hx.rn.outer.inS (k:=a.toNat) (by omega);have d0:decide (0≤a)=true:=by simpa using(C4.1 ha).1
   obtain⟨ua,hua⟩:∃ua,us[a.toNat]?=some ua:=⟨us[a.toNat]'(by omega),dm4 (by omega)⟩;have hown:=hx.rn.row _ _ _ hua hx1;have la:=aF9 (P:=prog) (t:=112) hx.rn hua R0;have hmem:=do5 hx1;simp only[J5,O4,unV,z6,simprocAttr,hnb,l0,hin,d0,la];refine y5 (bi7 b hown (dn4 (hr1.len _ hmem) (by omega)) (hr1.le' hmem)) ?_;rintro u w1 ⟨rfl,he1⟩;by_cases hc:(C1 nx a).contains b=true
   ·simp only[J5,simprocAttr,hc];refine o6 results236 ?_;simp only[p6,simprocAttr];have hno:ak1 nx a b=false:=by simp only[ak1,hc,Bool.not_true,Bool.and_false]
    exact⟨by rw[hno],same hno w1 he1⟩
   ·have hc':(C1 nx a).contains b=false:=by simpa using hc
    have hyes:ak1 nx a b=true:=by simp only[ak1,hc',ha,hb,Bool.not_false,Bool.and_true]
    have hw1:B4 h (i4 w1):=v8 hw (b7 he1);have hx':=hx.mod he1 fun _ _ h=>h.elim;simp only[J5,simprocAttr,hc'];refine C2 (fun w2=>p9 (A4 ua.v) w1.drew w2) 16 (A9 [0,1,2,3,4,5,6,7,8,9,10,11,12,13,14,15]) ?_;have hx2':=hx'.mod (o7.drew w1) fun _ _ h=>h.elim;have hru:∀b,A4 ua.v b→L3 vn us b:=fun b hb=>.inr ⟨ua,do5 hua,hb⟩;have l0':∀w2,p9 (A4 ua.v) w1.drew w2→(Instr.loadAt 153 (.pointer (some ⟨gb,0,none⟩))).run prog w2 = .ok vn w2:=fun w2 hm2=>by
     refine R9 T4 ?_;rw[du1 w2 gb 0 _ _ (0,0) ((hm2.block gb hx2'.lt (fun hb=>hx2'.gn (hru _ hb))).trans hx2'.cell)];rfl
    have la':∀w2,p9 (A4 ua.v) w1.drew w2→(Instr.loadAt 112 (.pointer (some (G9 vn a.toNat)))).run prog w2 = .ok ua.v w2:=fun w2 hm2=>by
     have ho:=hx2'.rn.outer.mod hm2 (fun b hb hb2=>hx2'.rn.off _ _ hua b hb2 hb);obtain⟨es,⟨he,_⟩,hcc⟩:=ho.get hua;have:=hcc 0 ua.v (by rw[he];rfl);rw[J9]at this;have h1:(a.toNat*A3.sz Y7)=a.toNat:=dw3 _;rw[h1]at this;exact R9 R0 this
    simp only[D1,A9,J5,O4,simprocAttr];refine⟨vn,l0',?_⟩;simp only[D1,J5,O4,simprocAttr];refine⟨vn,l0',?_⟩;simp only[D1,J5,O4,z6,simprocAttr,hin,d0];refine⟨ua.v,la',?_⟩;have hbs:=aj4 (P:=prog) (w:=w1.drew) (t:=112) bS7 ay5 (by rw[aQ3];omega) (by rw[aQ3];omega) (x:=.int .i64 b) (by rw[aQ3];rfl);simp only[D1,J5,simprocAttr,hbs,F2,Value.cells];refine⟨p9.alloc _ _,?_⟩;have hown2:=hx2'.rn.row _ _ _ hua hx1;refine y5 (bf9 b _ 1 w1.drew rfl hown2 List.countP_le_length (dn4 (hr1.len _ hmem) (by omega)) (v8 hw1 (b7 (o7.drew w1)))) ?_;rintro u1 w3 ⟨ho3,hm3,hv3⟩;refine⟨hm3,?_⟩;have hx3o:=hx2'.rn.outer.mod hm3 (fun b hb hb2=>hx2'.rn.off _ _ hua b hb2 hb);obtain⟨w4,s1,s2,s3,s4⟩:=bt0 (P:=prog) (t:=112) hx3o (i:=a.toNat) (by omega) ho3.isS (z7 T5).choose_spec.1 (by rw[←C6 (z7 T5).choose_spec.1];exact aD7);have hx4:=hx2'.set hua hm3 ho3 hv3 s3 s2;have hw4:p9 M w1.drew w4:=(hm3.weaken fun k _ hk=>(hM k).2 (.inr (.inl (hru k hk)))).trans (s3.weaken fun k _ hk=>(hM k).2 (.inr (.inl (.inl hk))));have hwh4:B4 h (i4 w4):=H7 (v8 hw1 (b7 (o7.drew w1))) hw4 fun k hk=>by
     rcases(hM k).1 hk with rfl|hk|hk
     ·exact hx.free
     ·exact hx.rn.free hk
     ·exact hx.rp.free hk
    have e1:w4.cell? ⟨gb,1,none⟩=some vp:=by rw[du1 w4 gb 1 _ _ (0,0) hx4.cell];rfl
    have m0:=R9 (P:=prog) (t:=153) T4 e1;have hSp:=hx4.rp.outer.isS;have hb2:G8 pv.length b=true:=by rw[hl];exact hb
    obtain⟨hy1,hy2⟩:=al7 hb2;have hlu':us'.length=pv.length:=hx4.rp.len;have hinp:=hx4.rp.outer.inS (k:=b.toNat) (by omega);have d1:decide (0≤b)=true:=by simpa using(C4.1 hb).1
    obtain⟨ub,hub⟩:∃ub,us'[b.toNat]?=some ub:=⟨us'[b.toNat]'(by omega),dm4 (by omega)⟩;have hownp:=hx4.rp.row _ _ _ hub hy1;have lb:=aF9 (P:=prog) (t:=112) hx4.rp hub R0;have hmemp:=do5 hy1;simp only[D1,J5,O4,z6,simprocAttr,hin,d0,s1,m0,hinp,d1,lb];refine y5 (bi7 a hownp (dn4 (hr2.len _ hmemp) (by omega)) (hr2.le' hmemp)) ?_;rintro u w5 ⟨rfl,he5⟩;have hw5:B4 h (i4 w5):=v8 hwh4 (b7 he5);have hx5:=hx4.mod he5 fun _ _ h=>h.elim;simp only[J5,simprocAttr];refine C2 (fun w2=>p9 (A4 ub.v) w5.drew w2) 16 (A9 [0,1,2,3,4,5,6,7,8,9,10,11,12,13,14,15]) ?_;have hx6:=hx5.mod (o7.drew w5) fun _ _ h=>h.elim;have hru':∀b,A4 ub.v b→L3 vp us' b:=fun b hb=>.inr ⟨ub,do5 hub,hb⟩;have m0':∀w2,p9 (A4 ub.v) w5.drew w2→(Instr.loadAt 153 (.pointer (some ⟨gb,1,none⟩))).run prog w2 = .ok vp w2:=fun w2 hm2=>by
     refine R9 T4 ?_;rw[du1 w2 gb 1 _ _ (0,0) ((hm2.block gb hx6.lt (fun hb=>hx6.gp (hru' _ hb))).trans hx6.cell)];rfl
    have lb':∀w2,p9 (A4 ub.v) w5.drew w2→(Instr.loadAt 112 (.pointer (some (G9 vp b.toNat)))).run prog w2 = .ok ub.v w2:=fun w2 hm2=>by
     have ho:=hx6.rp.outer.mod hm2 (fun b hb hb2=>hx6.rp.off _ _ hub b hb2 hb);obtain⟨es,⟨he,_⟩,hcc⟩:=ho.get hub;have:=hcc 0 ub.v (by rw[he];rfl);rw[J9]at this;have h1:(b.toNat*A3.sz Y7)=b.toNat:=dw3 _;rw[h1]at this;exact R9 R0 this
    simp only[D1,A9,J5,O4,simprocAttr];refine⟨vp,m0',?_⟩;simp only[D1,J5,O4,simprocAttr];refine⟨vp,m0',?_⟩;simp only[D1,J5,O4,z6,simprocAttr,hinp,d1];refine⟨ub.v,lb',?_⟩;have hbs2:=aj4 (P:=prog) (w:=w5.drew) (t:=112) bS7 ay5 (by rw[aQ3];omega) (by rw[aQ3];omega) (x:=.int .i64 a) (by rw[aQ3];rfl);simp only[D1,J5,simprocAttr,hbs2,F2,Value.cells];refine⟨p9.alloc _ _,?_⟩;have hownp2:=hx6.rp.row _ _ _ hub hy1;refine y5 (bf9 a _ 1 w5.drew rfl hownp2 List.countP_le_length (dn4 (hr2.len _ hmemp) (by omega)) (v8 hw5 (b7 (o7.drew w5)))) ?_;rintro u2 w7 ⟨ho7,hm7,hv7⟩;refine⟨hm7,?_⟩;have hx7o:=hx6.rp.outer.mod hm7 (fun b hb hb2=>hx6.rp.off _ _ hub b hb2 hb);obtain⟨w8,t1,t2,t3,t4⟩:=bt0 (P:=prog) (t:=112) hx7o (i:=b.toNat) (by omega) ho7.isS (z7 T5).choose_spec.1 (by rw[←C6 (z7 T5).choose_spec.1];exact aD7);have hx8:=(hx6.swap.set hub hm7 ho7 hv7 t3 t2).swap;simp only[D1,J5,O4,z6,simprocAttr,hinp,d1,t1];refine o6 results236 ?_;simp only[p6,simprocAttr];refine⟨by rw[hyes],fun k=>k=gb∨L3 vn (us.set a.toNat ⟨u1⟩) k∨L3 vp (us'.set b.toNat ⟨u2⟩) k,⟨gb,vn,us.set a.toNat ⟨u1⟩,vp,us'.set b.toNat ⟨u2⟩,rfl,?_,fun _=>dt6⟩,?_,?_⟩
    ·unfold bL6 bL7;rw[hyes];exact hx8
    ·have k1:p9 M w w1.drew:=(he1.trans (o7.drew w1)).weaken fun _ _ h=>h.elim;have k2:p9 M w4 w5.drew:=(he5.trans (o7.drew w5)).weaken fun _ _ h=>h.elim;have k3:p9 M w5.drew w8:=(hm7.weaken fun k _ hk=>(hM k).2 (.inr (.inr (hru' k hk)))).trans (t3.weaken fun k _ hk=>(hM k).2 (.inr (.inr (.inl hk))));exact(k1.trans hw4).trans (k2.trans k3)
    ·have z1:w.heap.size≤w1.drew.heap.size:=(he1.trans (o7.drew w1)).size;have z2:w1.drew.heap.size≤w5.drew.heap.size:=dn4 hw4.size (he5.trans (o7.drew w5)).size;have q:∀(us:List Y7) (i:Nat) (u:Value) (v:Y7) (W:World),us[i]?=some v→D7 W v.v u→w.heap.size≤W.heap.size→∀(vn:Value) (k:Nat),L3 vn (us.set i ⟨u⟩) k→L3 vn us k∨w.heap.size≤k:=by
      intro us i u v W hi hv hW vn k hk;rcases hk with hk|⟨x,hx1,hk⟩
      ·exact .inl (.inl hk)
      ·rcases du4 hx1 with h1|h1
       ·exact .inl (.inr ⟨x,h1,hk⟩)
       ·subst h1;rcases hv k hk with h2|h2
        ·exact .inl (.inr ⟨v,do5 hi,h2⟩)
        ·exact .inr (by omega)
     rintro k (rfl|hk|hk)
     ·exact .inl ((hM _).2 (.inl rfl))
     ·rcases q _ _ _ _ _ hua hv3 z1 _ _ hk with h1|h1
      ·exact .inl ((hM _).2 (.inr (.inl h1)))
      ·exact .inr h1
     ·rcases q _ _ _ _ _ hub hv7 (by omega) _ _ hk with h1|h1
      ·exact .inl ((hM _).2 (.inr (.inr h1)))
      ·exact .inr h1
  ·have hb':G8 nx.length b=false:=by simpa using hb
   have hnb:(!G8 nx.length b)=true:=by rw[hb'];rfl
   simp only[J5,unV,simprocAttr,hnb];refine o6 results236 ?_;simp only[p6,simprocAttr];have hno:ak1 nx a b=false:=by simp only[ak1,hb',Bool.and_false,Bool.false_and]
   exact⟨by rw[hno],same hno w (p9.refl _)⟩
 ·have ha':G8 nx.length a=false:=by simpa using ha
  have hna:(!G8 nx.length a)=true:=by rw[ha'];rfl
  simp only[J5,unV,simprocAttr,hna];refine o6 results236 ?_;simp only[p6,simprocAttr];have hno:ak1 nx a b=false:=by simp only[ak1,ha',Bool.false_and]
  exact⟨by rw[hno],same hno _ (p9.refl _)⟩
theorem D6.rising{n:Nat}{l:List (List Int)}(h:D6 n l)(hn:n≤100000000):bc5 l:=
 ⟨h.le,fun x hx=>dn4 (h.row_len hx) hn⟩
def E1:Y7:=⟨.slice none 0 0⟩
theorem bI4{h:Hp}{w:World}{T T':TypeId}{v:Value}{n:Nat}(ho:A8 h w T v (List.replicate n E1)):K8 h w T T' v (List.replicate n E1) (List.replicate n ([]:List Int)):=by
 have hn:∀(i:Nat) (u:Y7),(List.replicate n E1)[i]?=some u→u=E1:=fun i u hu=>ds8 (do5 hu);refine⟨ho,by simp,fun i u xs hu hx=>?_,fun i j u u' _ hu _ b hb=>?_,fun i u hu b hb=>?_⟩
 ·rw[hn i u hu,ds8 (do5 hx)];exact A8.nil _ _ _
 ·rw[hn i u hu]at hb;exact absurd hb C7
 ·rw[hn i u hu]at hb;exact absurd hb C7
theorem aD4{v:Value}{n b:Nat}:L3 v (List.replicate n E1) b→A4 v b:=by
 rintro(hb|⟨u,hu,hb⟩)
 ·exact hb
 ·rw[ds8 hu]at hb;exact absurd hb C7
theorem GO.fresh{h:Hp}{w:World}{va vb:Value}{n:Nat}(hw:B4 h (i4 w))(h1:A8 h w 112 va (List.replicate n E1))(h2:A8 h w 112 vb (List.replicate n E1))(hd:∀b,A4 va b→¬A4 vb b):
  GO h (w.alloc (.cells #[va,vb] 234)) (.pointer (some ⟨w.heap.size,0,none⟩)) (List.replicate n []) (List.replicate n []) (fun b=>b=w.heap.size∨L3 va (List.replicate n E1) b∨L3 vb (List.replicate n E1) b):=by
 have he:=o7.alloc w (.cells #[va,vb] 234);refine⟨w.heap.size,va,List.replicate n E1,vb,List.replicate n E1,rfl,⟨aw4 hw (dn9 _),dq7 w _,bI4 (h1.ext he),bI4 (h2.ext he),fun hb=>?_,fun hb=>?_,fun b hb hb2=>hd b (aD4 hb) (aD4 hb2)⟩,fun _=>dt6⟩
 ·have:=h1.lt (aD4 hb);omega
 ·have:=h2.lt (aD4 hb);omega
theorem cm9{va vb:Value}(h1:isS va=true)(h2:isS vb=true):B7 prog 234 [(0,va),(1,vb)]=some (.agg #[va,vb]):=by
 simp[B7,cQ5,J4,Instr.fill,D8 h1,D8 h2]
theorem bO2(edges:List (Int×Int))(k:Nat)(g:List (List Int)×List (List Int))(hk:k<edges.length):(edges.take (k+1)).foldl ak5 g=ak5 ((edges.take k).foldl ak5 g) edges[k]:=be8 ak5 g edges k hk
theorem dh9(n:Int)(v:Value)(w:World)(hn:n<0∨5000<n):p7 prog 185 #[.int .i64 n,v] w fun u w'=>(u = .pointer none∧w'=w):=by
 refine p8 [.int .i64 n,v] func185 rfl ?_;by_cases h0:n<0
 ·have h0':decide (n<0)=true:=by simpa using h0
  simp only[J5,O4,B5,E4,simprocAttr,h0'];refine o6 results185 ?_;simp only[p6,simprocAttr];exact⟨by trivial,by trivial⟩
 ·have h0':decide (n<0)=false:=by simpa using h0
  have h1':decide (n>5000)=true:=by simp;omega
  simp only[J5,O4,B5,E4,simprocAttr,h0',h1'];refine o6 results185 ?_;simp only[p6,simprocAttr];exact⟨by trivial,by trivial⟩
theorem bZ0(n:Nat)(v:Value)(edges:List (Int×Int))(w:World)(hn:n≤5000)(hv:R (i4 w) v edges)(hl:edges.length≤1000000000000):
  p7 prog 185 #[.int .i64 n,v] w fun u w'=>((∃M,GO (i4 w) w' u (ai3 n edges).1 (ai3 n edges).2 M)∧o7 w w'):=by
 refine p8 [.int .i64 n,v] func185 rfl ?_;have h0':decide ((n:Int)<0)=false:=by simp
 have h1':decide ((n:Int)>5000)=false:=by simp;omega
 have hS:=hv.isS;have hvn:=hv.vlen;simp only[J5,O4,B5,E4,simprocAttr,h0',h1'];refine bW5 [1] (fun w2=>o7 w w2) 4 (.op 0 (.op 2 (.fork [1,3] (fun i=>if i=1 then A9 [3]else A9 [1]))))
  (fun f' w'=>A8 (i4 w) w' 112 (f' 15) (List.replicate n E1)∧A8 (i4 w) w' 112 (f' 17) (List.replicate n E1)∧(∀b,A4 (f' 15) b→¬A4 (f' 17) b)∧o7 w w') (by decide +kernel) (by decide +kernel) (o7.drew w) ?_ ?_
 ·simp only[D1,A9,J5,simprocAttr];have hz:A3.enc (i4 w) (Value.slice none 0 0).cells.toList E1:=⟨rfl,rfl⟩;have two:∀w1,o7 w w1→∃va w2 vb w3,(Instr.makeSlice 153 (.int .i64 n) (.int .i64 n)).run prog w1 = .ok va w2∧(Instr.makeSlice 153 (.int .i64 n) (.int .i64 n)).run prog w2 = .ok vb w3 ∧
    A8 (i4 w) w3 112 va (List.replicate n E1)∧A8 (i4 w) w3 112 vb (List.replicate n E1)∧(∀b,A4 va b→¬A4 vb b)∧o7 w w2∧o7 w w3:=by
   intro w1 he;obtain⟨va,w2,h1,h2,h3,h4,_⟩:=mk (P:=prog) (w:=w1) (h:=i4 w) bR3 T5 (α:=Y7) (y:=E1) hz (n:=n) (by omega) (by omega) (b7 he);obtain⟨vb,w3,k1,k2,k3,k4,_⟩:=mk (P:=prog) (w:=w2) (h:=i4 w) bR3 T5 (α:=Y7) (y:=E1) hz (n:=n) (by omega) (by omega) (b7 (he.trans h3));exact⟨va,w2,vb,w3,h1,k1,h2.ext k3,k2,fun b hb hb2=>by have:=k4 b hb2;have:=h2.lt hb;omega,he.trans h3,(he.trans h3).trans k3⟩
  obtain⟨va,w2,vb,w3,m1,m2,o1,o2,dj,e2,e3⟩:=two w.drew (o7.drew w);refine ai5 (by decide +kernel) (fun i hi=>?_);simp only[do3,dr8,dy0]at hi;rcases hi with rfl|rfl
  ·simp only[D1,J5,simprocAttr,m1,m2,F2];exact⟨e2,e3,o1,o2,dj,e3⟩
  ·simp only[D1,J5,simprocAttr,m1,m2,F2];exact⟨e2,e3,o2,o1,fun b h1 h2=>dj b h2 h1,e3⟩
 ·rintro f w1 hk ⟨o1,o2,dj,he⟩;simp only[dm6,p6,simprocAttr]at hk;obtain⟨e1,_⟩:=hk;have hS1:=o1.isS;have hS2:=o2.isS;have hbd:=cm9 hS1 hS2;have hbox:(Instr.box 234 (.agg #[f 15,f 17])).run prog w1 = .ok (.pointer (some ⟨w1.heap.size,0,none⟩)) (w1.alloc (.cells #[f 15,f 17] 234)):=rfl;have hgo:=GO.fresh (b7 he) o1 o2 dj;have he2:=he.trans (o7.alloc w1 (.cells #[f 15,f 17] 234));generalize hpg:Value.pointer (some ⟨w1.heap.size,0,none⟩)=pg at hbox hgo;generalize w1.alloc (.cells #[f 15,f 17] 234)=w2 at hbox hgo he2;simp only[D1,J5,O4,P8,simprocAttr,hbd,hbox,e1,hS,hvn];refine n9 [5,20,21] (σ:=Nat) (fun k f w'=>f 22 = .int .i64 k∧k≤edges.length∧(∃M,GO (i4 w) w' pg ((edges.take k).foldl ak5 (List.replicate n [],List.replicate n [])).1 ((edges.take k).foldl ak5 (List.replicate n [],List.replicate n [])).2 M)∧o7 w w') (fun k=>edges.length-k) 0 ?_ ?_
  ·simp only[p6,simprocAttr];exact⟨by trivial,dn5 _,⟨_,hgo⟩,he2⟩
  ·rintro k f3 w3 hk ⟨h22,hkl,⟨M,hg⟩,hx⟩;simp only[dm6,p6,simprocAttr]at hk;obtain⟨g5,g20,g21,_⟩:=hk;have hgood:=((aX5 n).grows (edges.take k)).1;have hstep:=bO2 edges k (List.replicate n [],List.replicate n []);generalize hG:(edges.take k).foldl ak5 (List.replicate n [],List.replicate n [])=g at hg hgood hstep;simp only[J5,B5,E4,simprocAttr,h22,g21];refine m8 (fun hc=>?_) (fun hc=>?_)
   ·have hlt:k<edges.length:=by simpa using hc
    have hin:=hv.inS hlt;have hld:=ldP hv (b7 hx) (dm4 hlt);have hst:=hstep hlt;generalize edges[k]=e at hld hst;obtain⟨x,y⟩:=e;simp only at hld hst;obtain⟨p1,p2⟩:=cL0 w3 x y;have q0:=cK8 w3 x y;have q1:=cK9 w3 x y;have hxe:=o7.alloc w3 (.cells #[.int .i64 x,.int .i64 y] 128);have hx1:=hx.trans hxe;have hg1:=hg.mod hxe fun _ _ h=>h.elim;generalize w3.alloc (.cells #[.int .i64 x,.int .i64 y] 128)=w4 at *;simp only[J5,O4,z6,simprocAttr,h22,g20,g5,hin,hld,p1,p2,q0,q1];refine y5 (cB6 (i4 w) pg g.1 g.2 M x y w4 hg1 (b7 hx1) (by rw[hgood.pv.len,hgood.nx.len]) (hgood.nx.rising (by omega)) (hgood.pv.rising (by omega))) ?_;rintro u w5 ⟨rfl,M',hg2,hm,hM'⟩;simp only[J5,B5,E4,simprocAttr,h22];refine⟨k+1,by omega,by rw[B0 k (by omega)],by omega,⟨M',?_⟩,?_⟩
    ·rw[hst];exact hg2
    ·refine p9.ext_of hx1 hm fun b hb=>?_;rcases dq4 b w.heap.size with hlt|hge
     ·have:=hg1.free b hb;simp[i4,hlt]at this
     ·exact hge
   ·have hge:k=edges.length:=by simp at hc;omega
    subst hge;rw[dn6]at hG;simp only[J5,simprocAttr,g5];refine o6 results185 ?_;simp only[p6,simprocAttr];have:ai3 n edges=g:=hG;rw[this];exact⟨⟨M,hg⟩,hx⟩
def dz0:=@List.getElem_cons_zero
def B3(l:List Bool)(b:Int):Bool:=G8 l.length b&&l.getD b.toNat false
theorem M4{l:List Bool}{b:Int}(h:G8 l.length b=true):b.toNat<l.length∧B3 l b=l.getD b.toNat false:=by
 have:=C4.1 h;exact⟨by omega,by simp[B3,h]⟩
theorem ao1{l:List Bool}{b:Int}(h:B3 l b=true):G8 l.length b=true:=by
 simp[B3]at h;exact h.1
theorem M8{l:List Bool}{a b:Int}{v:Bool}(ha:G8 l.length a=true):B3 (l.set a.toNat v) b=if b=a then v else B3 l b:=by
 have ha':=C4.1 ha;unfold B3;simp only[dt9];by_cases h:b=a
 ·subst h;rw[if_pos rfl,ha];have:b.toNat<l.length:=by omega
  simp[List.getD,this]
 ·rw[if_neg h];by_cases hb:G8 l.length b=true
  ·have hb':=C4.1 hb;have:a.toNat≠b.toNat:=by omega
   simp[List.getD,this]
  ·simp[hb]
theorem at1{n:Nat}{b:Int}:B3 (List.replicate n false) b=false:=by
 simp only[B3,dr4,Bool.and_eq_false_iff];right;simp[List.getD,dw7];split<;>rfl
inductive Via (nx:List (List Int)) (seen:List Bool) (todo:List Int):Int→Prop
 | base {a:Int}:a∈todo→Via nx seen todo a
 | step {a b:Int}:Via nx seen todo a→b∈C1 nx a→B3 seen b=false→Via nx seen todo b
structure cl6 (nx:List (List Int)) (seen:List Bool) (todo:List Int) (seen':List Bool) (todo':List Int):Prop where
 len:seen'.length=seen.length
 via:∀b,b∈todo'↔Via nx seen todo b
 mark:∀b,B3 seen' b=true↔B3 seen b=true∨b∈todo'
 size:todo'.length≤todo.length+seen.length
structure WI (nx:List (List Int)) (seen:List Bool) (todo:List Int) (td:List Int) (sn:List Bool) (i:Nat):Prop where
 len:sn.length=seen.length
 via:∀b∈td,Via nx seen todo b
 old:∀b∈todo,b∈td
 mark:∀b,B3 sn b=true↔B3 seen b=true∨b∈td
 count:td.length+sn.count false=todo.length+seen.count false
 done:∀k a,k<i→td[k]?=some a→∀b∈C1 nx a,B3 sn b=true
 le:i≤td.length
section
variable {nx:List (List Int)} {seen:List Bool} {todo td:List Int} {sn:List Bool} {i:Nat}
theorem WI.start(h:∀a∈todo,B3 seen a=true):WI nx seen todo todo seen 0:=
 ⟨rfl,fun _ hb=>.base hb,fun _ hb=>hb,fun b=>⟨.inl,fun hh=>hh.elim id (h b)⟩,rfl,fun k a hk=>by omega,dn5 _⟩
theorem ac3{l:List Bool}{k:Nat}(hk:k<l.length)(h:l[k]=false):(l.set k true).count false+1=l.count false:=by
 induction l generalizing k with
 | nil=>simp at hk
 | cons x l ih=>
  cases k with
  | zero=>
   simp only[dz0]at h;subst h;simp
  | succ k=>
   simp only[dx0]at h;have:=ih (by simpa using hk) h;simp only[List.set_cons_succ,List.count_cons];omega
theorem WI.push(h:WI nx seen todo td sn i){b:Int}(hb:G8 seen.length b=true)(hn:B3 sn b=false)(hv:Via nx seen todo b):WI nx seen todo (td++[b]) (sn.set b.toNat true) i:=by
 have hb2:G8 sn.length b=true:=by rw[h.len];exact hb
 have hset:∀c,B3 (sn.set b.toNat true) c=if c=b then true else B3 sn c:=fun c=>M8 hb2;have hlt:=(M4 hb2).1;have hget:sn[b.toNat]=false:=by
  have:=(M4 hb2).2;rw[hn]at this;simp[List.getD,hlt]at this;exact this
 refine⟨by simp[h.len],fun c hc=>?_,fun c hc=>dr6 _ (h.old c hc),fun c=>?_,?_,fun k a hk ha c hc=>?_,?_⟩
 ·rcases do0.1 hc with hc|hc
  ·exact h.via c hc
  ·simp at hc;subst hc;exact hv
 ·rw[hset];by_cases hcb:c=b
  ·subst hcb;simp
  ·simp[hcb,h.mark c]
 ·have:=h.count;have:=ac3 hlt hget;simp only[dm7,dp3];omega
 ·rw[hset];split
  ·rfl
  ·have B4:=h.le;rw[dr5 (by omega)]at ha;exact h.done k a hk ha c hc
 ·have:=h.le;simp;omega
theorem aF8{b c:Int}(hb:G8 sn.length b=true)(hc:B3 sn c=true):B3 (sn.set b.toNat true) c=true:=by
 rw[M8 hb];split
 ·rfl
 ·exact hc
theorem WI.next(h:WI nx seen todo td sn i){a:Int}(ha:td[i]?=some a)(hr:∀b∈C1 nx a,B3 sn b=true):WI nx seen todo td sn (i+1):=by
 refine⟨h.len,h.via,h.old,h.mark,h.count,fun k c hk hc b hb=>?_,(dn0.1 ha).1⟩;by_cases hki:k=i
 ·subst hki;rw[ha]at hc;obtain rfl:=do2 hc;exact hr b hb
 ·exact h.done k c (by omega) hc b hb
theorem WI.fin(h:WI nx seen todo td sn td.length):cl6 nx seen todo sn td:=by
 refine⟨h.len,fun b=>⟨h.via b,fun hv=>?_⟩,h.mark,?_⟩
 ·induction hv with
  | base ha=>exact h.old _ ha
  | step _ hb hn ih=>
   obtain⟨k,hk⟩:=dy3.1 ih;have:=h.done k _ (dn0.1 hk).1 hk _ hb;rcases(h.mark _).1 this with h1|h1
   ·rw[hn]at h1;cases h1
   ·exact h1
 ·have:=h.count;have:=List.count_le_length (a:=false) (l:=seen);omega
end
theorem bK9(h:Hp)(vn vs vt:Value)(nx:List (List Int))(seen:List Bool)(todo:List Int)(w:World)(hw:B4 h (i4 w))(hn:R h vn nx)(hg:D6 nx.length nx)(hs:A8 h w 4 vs seen)(ht:A8 h w 3 vt todo)
  (hd:∀b,A4 vs b→¬A4 vt b) (hlen:seen.length=nx.length) (hto:∀a∈todo,B3 seen a=true) (hb1:nx.length≤5000) (hb2:todo.length≤1000000) :
  p7 prog 187 #[vn,vs,vt] w fun u w'=>∃todo' seen',A8 h w' 3 u todo'∧A8 h w' 4 vs seen'∧(∀b,A4 vs b→¬A4 u b)∧p9 (fun b=>A4 vs b∨A4 vt b) w w'∧D7 w vt u∧cl6 nx seen todo seen' todo':=by
 refine p8 [vn,vs,vt] func187 rfl ?_;simp only[J5,O4,simprocAttr];have hSn:=hn.isS;refine n9 [0,1] (σ:=List Int×List Bool×Nat) (fun s f w'=>f 7 = .int .i64 s.2.2∧A8 h w' 3 (f 2) s.1∧A8 h w' 4 vs s.2.1∧(∀b,A4 vs b→¬A4 (f 2) b)∧p9 (fun b=>A4 vs b∨A4 vt b) w w'∧D7 w vt (f 2)∧WI nx seen todo s.1 s.2.1 s.2.2)
  (fun s=>todo.length+seen.count false-s.2.2) (todo,seen,0) ?_ ?_
 ·simp only[p6,simprocAttr];exact⟨by trivial,ht,hs,hd,p9.refl _,fun b hb=>.inl hb,WI.start hto⟩
 ·rintro⟨td,sn,i⟩ f w1 hk ⟨h7,hot,hos,hds,hm,hmv,hi⟩;simp only at h7 hot hos hi;simp only[dm6,p6,simprocAttr]at hk;obtain⟨e0,e1,_⟩:=hk;have hStd:=hot.isS;have hltd:=hot.vlen;have hcnt:=hi.count;have hsc:=List.count_le_length (a:=false) (l:=seen);have hmh:∀b,(A4 vs b∨A4 vt b)→h b=none:=fun b hb=>hb.elim hs.free ht.free;simp only[J5,O4,B5,E4,P8,simprocAttr,h7,hStd,hltd];refine m8 (fun hc=>?_) (fun hc=>?_)
  ·have hlt:i<td.length:=by simpa using hc
   have hint:=hot.inS hlt;have hldt:=D4 (P:=prog) (t:=3) hot (dm4 hlt) F4;generalize hta:td[i]=a at hldt;have hta':td[i]?=some a:=by rw[dm4 hlt,hta]
   have ham:a∈td:=do5 hta';have hak:G8 nx.length a=true:=by
    have:=ao1 ((hi.mark a).2 (.inr ham));rw[hi.len,hlen]at this;exact this
   obtain⟨hx1,hx2⟩:=al7 hak;have hina:=hn.inS hx2;have d0:decide (0≤a)=true:=by simpa using(C4.1 hak).1
   obtain⟨x,hx3,hx4⟩:=hn.row hx1;have hww:B4 h (i4 w1):=H7 hw hm hmh;have hldx:=F9 (P:=prog) (t:=112) hx4 hww R0;have hxS:=hx3.isS;have hxn:=hx3.vlen;have hxm:=ap7 hak;have hxl:=hg.row_len hxm;simp only[J5,O4,z6,P8,I6.val,simprocAttr,h7,e0,hint,hldt,hina,d0,hldx,hxS,hxn];refine n9 [0,1,7,22,23] (σ:=List Int×List Bool×Nat) (fun s f w'=>f 24 = .int .i64 s.2.2∧s.2.2≤(C1 nx a).length∧A8 h w' 3 (f 2) s.1∧A8 h w' 4 vs s.2.1∧(∀b,A4 vs b→¬A4 (f 2) b)∧p9 (fun b=>A4 vs b∨A4 vt b) w w'∧D7 w vt (f 2)∧WI nx seen todo s.1 s.2.1 i∧s.1[i]?=some a∧∀b∈(C1 nx a).take s.2.2,B3 s.2.1 b=true)
    (fun s=>(C1 nx a).length-s.2.2) (td,sn,0) ?_ ?_
   ·simp only[p6,simprocAttr];exact⟨by trivial,dn5 _,hot,hos,hds,hm,hmv,hi,hta',fun b hb=>by simp at hb⟩
   ·rintro⟨td2,sn2,j⟩ f2 w2 hk2 ⟨h24,hjl,hot2,hos2,hds2,hm2,hmv2,hi2,hta2,hrow⟩;simp only at h24 hjl hot2 hos2 hi2 hta2 hrow;simp only[dm6,p6,↓reduceIte,Nat.reduceEqDiff]at hk2;obtain⟨g0,g1,g7,g22,g23,_⟩:=hk2;rw[e0]at g0;rw[e1]at g1;rw[h7]at g7;simp only[J5,B5,E4,simprocAttr,h24,g23];refine m8 (fun hc2=>?_) (fun hc2=>?_)
    ·have hj:j<(C1 nx a).length:=by simpa using hc2
     have hinx:=hx3.inS hj;have hww2:B4 h (i4 w2):=H7 hw hm2 hmh;have hldb:=M9 (P:=prog) (t:=3) hx3 hww2 (dm4 hj) F4;have hbm:(C1 nx a)[j]∈C1 nx a:=dn3 hj;have htk:=dn2 hj;generalize hbb:(C1 nx a)[j]=b at hldb hbm htk;have hbk:G8 nx.length b=true:=hg.ok _ hxm b hbm;have hbk2:G8 sn2.length b=true:=by rw[hi2.len,hlen];exact hbk
     obtain⟨hblt,hbg⟩:=M4 hbk2;have hins:=hos2.inS hblt;have d1:decide (0≤b)=true:=by simpa using(C4.1 hbk).1
     have hlds:=D4 (P:=prog) (t:=4) hos2 (k:=b.toNat) (x:=B3 sn2 b) (by rw[hbg];simp[List.getD,hblt]) aj7;have hSs:=hos2.isS;by_cases hbs:B3 sn2 b=true
     ·have hbs':(!B3 sn2 b)=false:=by rw[hbs];rfl
      simp only[J5,O4,B5,E4,unV,z6,I6.val,simprocAttr,h24,g22,g1,hinx,hldb,hins,d1,hlds,hbs'];refine⟨(td2,sn2,j+1),by simp only[];omega,by simp only[];rw[B0 j (by omega)],by simp only[];omega,hot2,hos2,hds2,hm2,hmv2,hi2,hta2,?_⟩;simp only[];rw[htk];intro c hc;rcases do0.1 hc with hc|hc
      ·exact hrow c hc
      ·simp at hc;subst hc;exact hbs
     ·have hbf:B3 sn2 b=false:=by simpa using hbs
      have hbs':(!B3 sn2 b)=true:=by rw[hbf];rfl
      have hcnt2:=hi2.count;obtain⟨w3,s1,s2,s3,s4⟩:=D9 (P:=prog) (t:=4) hos2 rfl (k:=b.toNat) hblt (x:=.bool true) (y:=true) rfl rfl (z7 T7).choose_spec.1 (by rw[←C6 (z7 T7).choose_spec.1];exact aD8);have hot3:=hot2.mod s3 fun b hb hb2=>hds2 b hb2 hb;have hm3:p9 (fun b=>A4 vs b∨A4 vt b) w w3:=hm2.trans (s3.weaken fun b _ hb=>.inl hb);have hww3:B4 h (i4 w3):=H7 hw hm3 hmh;obtain⟨p1,u',w4,p2,p3,p4,p5⟩:=push (e:=112) ad2 rfl hot3 (x:=.int .i64 b) (y:=b) rfl (by omega) (by omega) hww3;simp only[Value.cells]at p1 p2;simp only[J5,O4,B5,E4,unV,z6,I6.val,simprocAttr,h24,g22,g1,hinx,hldb,hins,d1,hlds,hbs',s1,p1,p2];have hsz:w.heap.size≤w3.heap.size:=hm3.size;have hfresh:∀b,A4 (f2 2) b→A4 vt b∨w.heap.size≤b:=hmv2;refine⟨(td2++[b],sn2.set b.toNat true,j+1),by simp only[];omega,by simp only[];rw[B0 j (by omega)],by simp only[];omega,p3,s2.mod p4 (fun b hb hb2=>hds2 b hb hb2),?_,?_,?_,?_,?_,?_⟩
      ·intro c hc1 hc2;rcases p5 c hc2 with h1|h1
       ·exact hds2 c hc1 h1
       ·have:=s2.lt hc1;omega
      ·refine⟨p4.os.trans hm3.os,p4.tape.trans hm3.tape,p4.output.trans hm3.output,dn4 hm3.size p4.size,fun k hk hn=>?_⟩;refine(p4.block k (dt8 hk hm3.size) fun hb=>?_).trans (hm3.block k hk hn);rcases hmv2 k hb with h1|h1
       ·exact hn (.inr h1)
       ·omega
      ·intro c hc;rcases p5 c hc with h1|h1
       ·exact hmv2 c h1
       ·exact .inr (by omega)
      ·refine hi2.push (by rw[hlen];exact hbk) hbf (.step (hi2.via a (do5 hta2)) hbm ?_);rw[dx3];intro hh;rw[(hi2.mark b).2 (.inl hh)]at hbf;cases hbf
      ·simp only[];rw[dr5 (dn0.1 hta2).1];exact hta2
      ·simp only[];rw[htk];intro c hc;rcases do0.1 hc with hc|hc
       ·exact aF8 hbk2 (hrow c hc)
       ·simp at hc;subst hc;rw[M8 hbk2,if_pos rfl]
    ·have hge:j=(C1 nx a).length:=by simp at hc2;omega
     subst hge;rw[dn6]at hrow;simp only[J5,B5,E4,simprocAttr,g7];have hcnt2:=hi2.count;refine⟨(td2,sn2,i+1),by simp only[];omega,by simp only[];rw[B0 i (by omega)],hot2,hos2,hds2,hm2,hmv2,hi2.next hta2 hrow⟩
  ·have hge:i=td.length:=by have:=hi.le;simp at hc;omega
   subst hge;simp only[J5,simprocAttr];refine o6 results187 ?_;simp only[p6,simprocAttr];exact⟨td,sn,hot,hos,hds,hm,hmv,hi.fin⟩
def dq2:=@List.mem_range
inductive Rch (nx:List (List Int)) (from_:List Int):Int→Prop
 | base {a:Int}:a∈from_→G8 nx.length a=true→Rch nx from_ a
 | step {a b:Int}:Rch nx from_ a→b∈C1 nx a→Rch nx from_ b
theorem Rch.ok{nx:List (List Int)}{l:List Int}(hg:D6 nx.length nx){b:Int}(h:Rch nx l b):G8 nx.length b=true:=by
 cases h with
 | base _ h=>exact h
 | step _ hb=>exact(hg.row _).2 _ hb
theorem cI2{nx:List (List Int)}{sn:List Bool}{td l:List Int}(hm:∀b,B3 sn b=true↔b∈td)(ht:∀b,b∈td↔b∈l∧G8 nx.length b=true)(b:Int):Via nx sn td b↔Rch nx l b:=by
 constructor
 ·intro h
  induction h with
  | base ha=>exact .base ((ht _).1 ha).1 ((ht _).1 ha).2
  | step _ hb _ ih=>exact .step ih hb
 ·intro h
  induction h with
  | base h1 h2=>exact .base ((ht _).2 ⟨h1,h2⟩)
  | @step a b _ hb ih=>
   cases hs:B3 sn b with
   | true=>exact .base ((hm b).1 hs)
   | false=>exact .step ih hb hs
theorem bG3{l:List Bool}{b:Int}:b∈Z5 l l.length↔B3 l b=true:=by
 unfold Z5;rw[dp7];constructor
 ·rintro⟨i,hi,rfl⟩;rw[dr2,dq2]at hi;have hk:G8 l.length (i:Int)=true:=C4.2 ⟨by omega,by omega⟩;rw[(M4 hk).2];simpa[List.getD]using hi.2
 ·intro h;have hk:=ao1 h;obtain⟨h1,h2⟩:=M4 hk;have h3:=C4.1 hk;refine⟨b.toNat,?_,by omega⟩;rw[dr2,dq2];rw[h2]at h;exact⟨h1,by simpa[List.getD]using h⟩
theorem bg7(l:List Bool)(k:Nat):(Z5 l k).Pairwise (· < ·):=by
 unfold Z5;rw[List.pairwise_map];refine List.Pairwise.filter _ ?_;exact(List.pairwise_lt_range (n:=k)).imp fun h=>by omega
structure cJ1 (l:List Int) (p:Int→Prop):Prop where
 le:l.Pairwise (· < ·)
 mem:∀b,b∈l↔p b
theorem cR3(v:Value)(w:World):p7 prog 124 #[.pointer none,v] w fun u w'=>(u = .slice none 0 0∧w'=w):=by
 refine p8 [.pointer none,v] func124 rfl ?_;simp only[J5,O4,B5,simprocAttr];refine o6 results124 ?_;simp only[p6,simprocAttr];exact⟨by trivial,by trivial⟩
structure FI (n:Nat) (l:List Int) (td:List Int) (sn:List Bool):Prop where
 len:sn.length=n
 mark:∀b,B3 sn b=true↔b∈td
 mem:∀b,b∈td↔b∈l∧G8 n b=true
 count:td.length+sn.count false=n
theorem FI.start(n:Nat):FI n [] [] (List.replicate n false):=
 ⟨by simp,fun b=>by simp[at1],fun b=>by simp,by simp⟩
theorem FI.old{n:Nat}{l td:List Int}{sn:List Bool}(h:FI n l td sn){a:Int}(ha:G8 n a=false∨B3 sn a=true):FI n (l++[a]) td sn:=by
 refine⟨h.len,h.mark,fun b=>?_,h.count⟩;rw[h.mem,do0,dp5];constructor
 ·rintro⟨h1,h2⟩;exact⟨.inl h1,h2⟩
 ·rintro⟨h1|h1,h2⟩
  ·exact⟨h1,h2⟩
  ·subst h1;rcases ha with ha|ha
   ·rw[h2]at ha;cases ha
   ·exact(h.mem b).1 ((h.mark b).1 ha)
theorem FI.new{n:Nat}{l td:List Int}{sn:List Bool}(h:FI n l td sn){a:Int}(ha:G8 n a=true)(hs:B3 sn a=false):FI n (l++[a]) (td++[a]) (sn.set a.toNat true):=by
 have ha2:G8 sn.length a=true:=by rw[h.len];exact ha
 have hlt:=(M4 ha2).1;have hget:sn[a.toNat]=false:=by
  have:=(M4 ha2).2;rw[hs]at this;simp[List.getD,hlt]at this;exact this
 refine⟨by simp[h.len],fun b=>?_,fun b=>?_,?_⟩
 ·rw[M8 ha2,do0,dp5];by_cases hb:b=a
  ·subst hb;simp
  ·simp[hb,h.mark b]
 ·rw[do0,do0,dp5,h.mem];constructor
  ·rintro(⟨h1,h2⟩|rfl)
   ·exact⟨.inl h1,h2⟩
   ·exact⟨.inr rfl,ha⟩
  ·rintro⟨h1|h1,h2⟩
   ·exact .inl ⟨h1,h2⟩
   ·exact .inr h1
 ·have:=h.count;have:=ac3 hlt hget;simp only[dm7,dp3];omega
theorem cb7(pg:Value)(nx pv:List (List Int))(v:Value)(l:List Int)(w:World)(hgr:GR (i4 w) pg nx pv)(hg:D6 nx.length nx)(hn5:nx.length≤5000)(hv:R (i4 w) v l)(hl:l.length≤1000000000):
  p7 prog 124 #[pg,v] w fun u w'=>((∃r,A8 (i4 w) w' 3 u r∧cJ1 r (Rch nx l))∧o7 w w'):=by
 have hgr':=hgr;obtain⟨gb,vn,vp,rfl,h1,h2,h3,h4⟩:=hgr;refine p8 [.pointer (some ⟨gb,0,none⟩),v] func124 rfl ?_;have hld:=F9 (P:=prog) (t:=153) h1 (d7 _) T4;have hSn:=h3.isS;have hnn:=h3.vlen;have hS:=hv.isS;have hvn:=hv.vlen;obtain⟨u0,w0,hmk,ho0,hx0,hf0,_⟩:=mk (P:=prog) (w:=w) (h:=i4 w) bn6 T7 (α:=Bool) (y:=false) rfl (n:=nx.length) (by omega) (by omega) (d7 _);simp only[J5,O4,B5,P8,simprocAttr,hld,hSn,hnn,hmk,hS,hvn];refine n9 [0,1,5,17,18] (σ:=List Int×List Bool×Nat) (fun s f w'=>f 19 = .int .i64 s.2.2∧s.2.2≤l.length∧A8 (i4 w) w' 3 (f 6) s.1∧A8 (i4 w) w' 4 u0 s.2.1∧(∀b,A4 u0 b→¬A4 (f 6) b)∧o7 w w'∧FI nx.length (l.take s.2.2) s.1 s.2.1)
  (fun s=>l.length-s.2.2) ([],List.replicate nx.length false,0) ?_ ?_
 ·simp only[p6,simprocAttr];exact⟨by trivial,dn5 _,A8.nil _ _ _,ho0,fun b _ hb=>C7 hb,hx0,FI.start _⟩
 ·rintro⟨td,sn,k⟩ f w1 hk ⟨h19,hkl,hot,hos,hds,hx,hi⟩;simp only at h19 hkl hot hos hi;simp only[dm6,p6,simprocAttr]at hk;obtain⟨e0,e1,e5,e17,e18,_⟩:=hk;have hcnt:=hi.count;simp only[J5,B5,E4,simprocAttr,h19,e18];refine m8 (fun hc=>?_) (fun hc=>?_)
  ·have hlt:k<l.length:=by simpa using hc
   have hin:=hv.inS hlt;have hlda:=M9 (P:=prog) (t:=3) hv (b7 hx) (dm4 hlt) F4;have htk:=dn2 hlt;generalize hla:l[k]=a at hlda htk;simp only[J5,O4,z6,I6.val,simprocAttr,h19,e17,e0,hin,hlda];refine y5 (aM4 _ nx pv a w1 (hgr'.mono (b7 hx))) ?_;rintro u w1 ⟨rfl,rfl⟩;by_cases ha:G8 nx.length a=true
   ·have hak2:G8 sn.length a=true:=by rw[hi.len];exact ha
    obtain⟨halt,hag⟩:=M4 hak2;have hins:=hos.inS halt;have d1:decide (0≤a)=true:=by simpa using(C4.1 ha).1
    have hlds:=D4 (P:=prog) (t:=4) hos (k:=a.toNat) (x:=B3 sn a) (by rw[hag];simp[List.getD,halt]) aj7;have hSs:=hos.isS;by_cases hbs:B3 sn a=true
    ·have hbs':(!B3 sn a)=false:=by rw[hbs];rfl
     simp only[J5,O4,B5,E4,unV,z6,I6.val,simprocAttr,ha,h19,e5,hins,d1,hlds,hbs'];refine⟨(td,sn,k+1),by simp only[];omega,by simp only[];rw[B0 k (by omega)],by simp only[];omega,hot,hos,hds,hx,?_⟩;simp only[];rw[htk];exact hi.old (.inr hbs)
    ·have hbf:B3 sn a=false:=by simpa using hbs
     have hbs':(!B3 sn a)=true:=by rw[hbf];rfl
     obtain⟨w3,s1,s2,s3,s4⟩:=D9 (P:=prog) (t:=4) hos rfl (k:=a.toNat) halt (x:=.bool true) (y:=true) rfl rfl (z7 T7).choose_spec.1 (by rw[←C6 (z7 T7).choose_spec.1];exact aD8);have hot3:=hot.mod s3 fun b hb hb2=>hds b hb2 hb;have hx3:=hos.ext2 hx s3;obtain⟨p1,u',w4,p2,p3,p4,p5⟩:=push (e:=112) ad2 rfl hot3 (x:=.int .i64 a) (y:=a) rfl (by omega) (by omega) (b7 hx3);simp only[Value.cells]at p1 p2;simp only[J5,O4,B5,E4,unV,z6,I6.val,simprocAttr,ha,h19,e5,hins,d1,hlds,hbs',s1,p1,p2];refine⟨(td++[a],sn.set a.toNat true,k+1),by simp only[];omega,by simp only[];rw[B0 k (by omega)],by simp only[];omega,p3,s2.mod p4 (fun b hb hb2=>hds b hb hb2),?_,hot3.ext2 hx3 p4,?_⟩
     ·intro c hc1 hc2;rcases p5 c hc2 with h1|h1
      ·exact hds c hc1 h1
      ·have:=s2.lt hc1;omega
     ·simp only[];rw[htk];exact hi.new ha hbf
   ·have ha':G8 nx.length a=false:=by simpa using ha
    simp only[J5,B5,E4,simprocAttr,ha',h19];refine⟨(td,sn,k+1),by simp only[];omega,by simp only[];rw[B0 k (by omega)],by simp only[];omega,hot,hos,hds,hx,?_⟩;simp only[];rw[htk];exact hi.old (.inl ha')
  ·have hge:k=l.length:=by simp at hc;omega
   subst hge;rw[dn6]at hi;have hld1:=F9 (P:=prog) (t:=153) h1 (b7 hx) T4;simp only[J5,O4,simprocAttr,e0,e5,hld1];refine y5 (bK9 (i4 w) vn u0 (f 6) nx sn td w1 (b7 hx) h3 hg hos hot hds hi.len (fun a ha=>(hi.mark a).2 ha) hn5 (by omega)) ?_;rintro u w2 ⟨td2,sn2,hot2,hos2,hds2,hm2,hmv2,hok⟩;have hx2:o7 w w2:=p9.ext_of hx hm2 fun b hb=>by
    rcases dq4 b w.heap.size with hlt|hge
    ·have:(i4 w) b=none:=hb.elim hos.free hot.free;simp[i4,hlt]at this
    ·exact hge
   have hl2:sn2.length=nx.length:=by rw[hok.len,hi.len]
   simp only[J5,simprocAttr,e5];refine y5 (bP4 u0 sn2 w2 (hos2.rw_ (b7 hx2)) (by omega)) ?_;rintro r w3 ⟨hr,hx3⟩;simp only[J5,simprocAttr];refine o6 results124 ?_;simp only[p6,simprocAttr];refine⟨⟨_,hr.back hx2,bg7 _ _,fun b=>?_⟩,hx2.trans hx3⟩;rw[bG3,hok.mark,←cI2 hi.mark hi.mem];constructor
   ·rintro(hb|hb)
    ·exact .base ((hi.mark b).1 hb)
    ·exact(hok.via b).1 hb
   ·exact fun hb=>.inr ((hok.via b).2 hb)
theorem bV9(a b:Int):B7 prog 128 [(0,.int .i64 a),(1,.int .i64 b)]=some (.agg #[.int .i64 a,.int .i64 b]):=by
 simp[B7,cQ0,J4,Instr.fill,Value.cells]
theorem cJ8{h:Hp}(a b:Int):A3.enc h (Value.cells (.agg #[.int .i64 a,.int .i64 b])).toList ((a,b):Int×Int):=⟨[.int .i64 a],[.int .i64 b],rfl,rfl,rfl⟩
theorem am3(a:Addr)(wy:Wy)(p:Pg)(i x y:Nat)(v:Value)(l:List Sp)(w:World)(ha:At (i4 w) a wy)(hok:WyOk p i x y wy)(hv:R (i4 w) v l)(hl:∀t∈l,RgS x y t)(hll:l.length≤10000000):
  p7 prog 82 #[.pointer (some a),v] w fun u w'=>(A8 (i4 w) w' 128 u (wy.pairs l)∧o7 w w'):=by
 refine p8 [.pointer (some a),v] func82 rfl ?_;have hS:=hv.isS;have hn:=hv.vlen;have hfit:=hok.part.ok.fit;have hlen:=hok.part.ok.len;have hF:wy.pairs l=l.map fun t=>(wy.index t.src,wy.index t.dst):=rfl;simp only[n7,n8,simprocAttr,hS,hn];refine n9 [0,8,9] (σ:=Nat×Value) (fun s f w'=>f 10 = .int .i64 s.1∧f 5=s.2∧s.1≤l.length∧A8 (i4 w) w' 128 s.2 ((l.take s.1).map fun t=>(wy.index t.src,wy.index t.dst))∧o7 w w') (fun s=>l.length-s.1) (0,.slice none 0 0) ?_ ?_
 ·simp only[p6,simprocAttr];exact⟨by trivial,by trivial,dn5 _,by simpa using A8.nil _ _ _,p9.refl _⟩
 rintro⟨k,u⟩ f w2 hk ⟨h10,h5,hkl,ho,hx2⟩;simp only at h10 h5 hkl ho;simp only[dm6,p6,simprocAttr]at hk;obtain⟨e0,e8,e9,_⟩:=hk;simp only[n7,n8,simprocAttr,h10,e9];refine m8 (fun hc=>?_) (fun hc=>?_);rotate_left
 ·have hge:k=l.length:=by simp at hc;omega
  subst hge;rw[dn6]at ho;simp only[n7,simprocAttr,h5];refine o6 results82 ?_;simp only[p6,simprocAttr];exact⟨by rw[hF];exact ho,hx2⟩
 have hlt:k<l.length:=by simpa using hc
 have hin:=hv.inS hlt;obtain⟨sv,hsv,hld⟩:=F0 (P:=prog) (t:=186) hv (b7 hx2) (dm4 hlt) bS9 bT3 bk6 aK6;rw[aK6]at hld;have htk:(l.take (k+1)).map (fun t=>(wy.index t.src,wy.index t.dst))=(l.take k).map (fun t=>(wy.index t.src,wy.index t.dst))++[(wy.index l[k].src,wy.index l[k].dst)]:=by
  rw[dn2 hlt,dp4];rfl
 have hrg:=hl _ (dn3 hlt);generalize l[k]=s at hsv htk hrg;obtain⟨c,wz,w4,hal,hst,hx4,hat⟩:=cH9 (hsv.mono (b7 hx2)) (d7 _);obtain⟨_,sds⟩:=hat.sp;have s1:=sds (fun w'=>o7 w4.drew w') w4.drew (p9.refl _) fun w' h=>b7 ((o7.drew w4).trans h);have hx4d:=hx2.trans (hx4.trans (o7.drew w4));have hb1 : -1≤s.src∧s.src≤2000000:=by
  rcases hrg.1 with h|h<;>omega
 have hb2 : -1≤s.dst∧s.dst≤2000000:=by
  rcases hrg.2 with h|h<;>omega
 simp only[n7,n8,z6,simprocAttr,h10,e8,hin,hld,hal,hst];refine C2 (fun w'=>o7 w4.drew w') 11 (A9 [0,1,2,3,5,6,7,4,8,9,10]) ?_;simp only[D1,A9,n7,n8,simprocAttr,s1,e0];refine B1 (aQ9 a wy p i x y s.src w4.drew (ha.mono (b7 hx4d)) hok hb1) (fun w5 hx5=>⟨hx5,?_⟩);simp only[D1,n7,simprocAttr];refine B1 (aQ9 a wy p i x y s.dst w5 (ha.mono (b7 (hx4d.trans hx5))) hok hb2) (fun w6 hx6=>⟨hx5.trans hx6,?_⟩);have hx06:=hx4d.trans (hx5.trans hx6);have ho6:=ho.ext (hx4.trans ((o7.drew w4).trans (hx5.trans hx6)));obtain⟨p1,u7,w7,p2,p3,p4,p5⟩:=push (e:=125) cZ2 rfl ho6 (x:=.agg #[.int .i64 (wy.index s.src),.int .i64 (wy.index s.dst)]) (y:=(wy.index s.src,wy.index s.dst)) (cJ8 _ _) (by simp only[dn7,dn8];omega) (by simp only[dn7,dn8];omega) (b7 hx06);simp only[D1,n7,simprocAttr,bV9,p1,F2];refine⟨hx5.trans (hx6.trans (o7.alloc _ _)),?_⟩;simp only[n7,n8,simprocAttr,h5,h10,p2];exact⟨(k+1,u7),by simp only[];omega,by simp only[];rw[B0 k (by omega)],by trivial,by simp only[];omega,by simp only[];rw[htk];exact p3,ho6.ext2 hx06 p4⟩
theorem bf3(a:Addr)(wy:Wy)(p:Pg)(i x y:Nat)(v:Value)(l:List Sp)(w:World)(ha:At (i4 w) a wy)(hok:WyOk p i x y wy)(hm200:(b9 p).l.length≤200)(hv:R (i4 w) v l)(hl:∀t∈l,RgS x y t)(hll:l.length≤10000000):
  p7 prog 123 #[.pointer (some a),v] w fun u w'=>(GR (i4 w') u (ai3 wy.n.toNat (wy.pairs l)).1 (ai3 wy.n.toNat (wy.pairs l)).2∧o7 w w'):=by
 refine p8 [.pointer (some a),v] func123 rfl ?_;obtain⟨_,_,_,_,_,_,ldw,sdw⟩:=ha.wy;have hst:∀w',o7 w.drew w'→B4 (i4 w) (i4 w'):=fun w' h=>b7 ((o7.drew w).trans h);have s1:=sdw (fun w'=>o7 w.drew w') w.drew (p9.refl _) hst;have hlen:=hok.part.ok.len;have hn:=hok.n;have hle':=hok.part.ok.le;have hnn:wy.n=((wy.n.toNat:Nat):Int):=by omega
 have hpl:(wy.pairs l).length=l.length:=dn7 _;simp only[n7,n8,simprocAttr];refine C2 (fun w'=>o7 w.drew w') 7 (A9 [0,1,2,3,4,5,6]) ?_;simp only[D1,A9,n7,n8,simprocAttr,s1];refine y5 (am3 a wy p i x y v l w.drew (ha.mono (b7 (o7.drew w))) hok (A3.mono (b7 (o7.drew w)) hv) hl hll) ?_;rintro u w2 ⟨ho2,hx2⟩;refine⟨hx2,?_⟩;rw[hnn];simp only[D1,n7,n8,simprocAttr];refine y5 (bZ0 wy.n.toNat u (wy.pairs l) w2 (by omega) (ho2.rw_ (b7 hx2)) (by omega)) ?_;rintro u3 w3 ⟨⟨M,hg⟩,hx3⟩;have hx02:=(o7.drew w).trans hx2;simp only[n7,simprocAttr];refine o6 results123 ?_;simp only[p6,simprocAttr];exact⟨hg.read (b7 hx3),hx02.trans hx3⟩
mutual
theorem cs4:∀(t:St) (d:Nat) (n m:Int),n≤200→((G6 d t.thn n).bind fun m=>G6 d t.els m)=some m→m≤200
 | .mk id kind labels name proc x has args thn els,d,n,m,hn,h=>by
  simp only[St.thn,St.els]at h;obtain⟨m1,h1,h2⟩:=ds7.1 h;exact aF1 els d m1 m (aF1 thn d n m1 hn h1) h2
theorem aF1:∀(l:List St) (d:Nat) (n m:Int),n≤200→G6 d l n=some m→m≤200
 | [],d,n,m,hn,h=>by
  cases d with
  | zero=>simp[G6]at h;omega
  | succ d=>rw[G6]at h;simp at h;omega
 | t::l,0,n,m,hn,h=>by simp[G6]at h
 | t::l,d+1,n,m,hn,h=>by
  rw[ax6]at h;obtain⟨m1,h1,h2⟩:=ds7.1 h;split at h1
  ·cases h1
  ·next hc=>
   have h3:n+1≤200:=by
    rcases Int.lt_or_le 200 (n+1)with h|h
    ·exact absurd (.inl h) hc
    ·exact h
   exact aF1 l (d+1) m1 m (cs4 t d (n+1) m1 h3 h1) h2
end
theorem bH7:∀(l:List Pr) (n:Int),n≤200→(l.foldlM (fun n f=>R3 f n) n).isSome=true→n+((l.map fun f=>A6 f.body).sum:Nat)≤200
 | [],n,hn,_=>by simpa using hn
 | f::l,n,hn,h=>by
  rw[List.foldlM_cons]at h;obtain⟨k,hk⟩:=ds2.1 h;obtain⟨m,hm,hm2⟩:=ds7.1 hk;unfold R3 at hm;split at hm
  ·cases hm
  ·have e:=(aM8 f.body 12 n m hm).1;have h2:=aF1 f.body 12 n m hn hm;have:=bH7 l m h2 (by rw[hm2];rfl);rw[dr3,dx2];omega
theorem H2{p:Pg}(hm:M6 p=true):(b9 p).l.length≤200:=by
 rw[an3];simp only[M6,do6]at hm;have:=bH7 p.procs 0 (by omega) hm.2;unfold bw2;omega
def dz1:=@List.take_add_one
inductive Way (nx:List (List Int)) (a:Int):Int→Prop
 | refl:Way nx a a
 | step {b c:Int}:Way nx a b→c∈C1 nx b→Way nx a c
theorem Way.trans{nx:List (List Int)}{a b c:Int}(h:Way nx a b)(k:Way nx b c):Way nx a c:=by
 induction k with
 | refl=>exact h
 | step _ hc ih=>exact .step ih hc
theorem Way.one{nx:List (List Int)}{a b:Int}(h:b∈C1 nx a):Way nx a b:=.step .refl h
def ak8(nx:List (List Int))(a b:Int):Prop:=Way nx a b∧Way nx b a
theorem ak8.refl{nx:List (List Int)}(a:Int):ak8 nx a a:=⟨.refl,.refl⟩
theorem ak8.symm{nx:List (List Int)}{a b:Int}(h:ak8 nx a b):ak8 nx b a:=⟨h.2,h.1⟩
theorem ak8.trans{nx:List (List Int)}{a b c:Int}(h:ak8 nx a b)(k:ak8 nx b c):ak8 nx a c:=⟨h.1.trans k.1,k.2.trans h.2⟩
def ai(l:List Int)(a:Int):Int:=l.getD a.toNat 0
theorem aR1{l:List Int}{n:Nat}(hl:l.length=n){a b v:Int}(ha:G8 n a=true)(hb:G8 n b=true):ai (l.set a.toNat v) b=if b=a then v else ai l b:=by
 have ha':=C4.1 ha;have hb':=C4.1 hb;unfold ai;by_cases h:b=a
 ·subst h;rw[if_pos rfl];have:b.toNat<l.length:=by omega
  simp[List.getD,this]
 ·rw[if_neg h];have:a.toNat≠b.toNat:=by omega
  simp[List.getD,this]
theorem cK0{nx:List (List Int)}{out stack:List Int}(hb:∀x∈out,∀y∈C1 nx x,y∈out∨y∈stack){x r:Int}(hx:x∈out)(hw:Way nx x r)(hr:r∉out):∃g∈stack,Way nx x g:=by
 induction hw with
 | refl=>exact absurd hx hr
 | @step b c hw hc ih=>
  by_cases h:b∈out
  ·rcases hb b h c hc with h1|h1
   ·exact absurd h1 hr
   ·exact⟨c,h1,.step hw hc⟩
  ·exact ih h
structure DI (nx:List (List Int)) (n:Nat) (out stack:List Int) (seen:List Bool) (at_:List Int):Prop where
 slen:seen.length=n
 alen:at_.length=n
 mark:∀b,B3 seen b=true↔b∈out∨b∈stack
 count:out.length+stack.length+seen.count false=n
 apart:∀b∈out,b∉stack
 onod:out.Nodup
 snod:stack.Nodup
 path:stack.Pairwise (Way nx)
 black:∀x∈out,∀y∈C1 nx x,y∈out∨y∈stack
 atok:∀a,G8 n a=true→0≤ai at_ a∧ai at_ a≤(C1 nx a).length
 white:∀a,G8 n a=true→B3 seen a=false→ai at_ a=0
 grey:∀g∈stack,∀y∈(C1 nx g).take (ai at_ g).toNat,B3 seen y=true
 low:∀x∈out,∀g∈stack,Way nx x g→∃c∈stack,ak8 nx c x
 cut:∀k,∀x∈out.take k,∀r,r∉out.take k→Way nx x r→∃c,c∉out.take k∧ak8 nx c x
section
variable {nx:List (List Int)} {n:Nat} {out stack:List Int} {seen:List Bool} {at_:List Int}
theorem DI.start(hn:nx.length=n):DI nx n [] [] (List.replicate n false) (List.replicate n 0):=by
 have h0:∀a,ai (List.replicate n 0) a=0:=fun a=>by
  simp[ai,List.getD,dw7];split<;>rfl
 have no:∀(x:Int) {p:Prop},x∈([]:List Int)→p:=fun x p h=>absurd h (dr8);exact⟨by simp,by simp,fun b=>by simp[at1],by simp,fun b hb=>no b hb,List.nodup_nil,List.nodup_nil,List.Pairwise.nil,fun x hx=>no x hx,
  fun a _=>(by rw[h0];omega),fun a _ _=>h0 a,fun g hg=>no g hg,fun x hx=>no x hx,fun k x hx=>no x (by simpa using hx)⟩
theorem DI.ok(h:DI nx n out stack seen at_){b:Int}(hb:b∈out∨b∈stack):G8 n b=true:=by
 have:=ao1 ((h.mark b).2 hb)
 rwa [h.slen]at this
theorem DI.push(h:DI nx n out stack seen at_){y:Int}(hy:G8 n y=true)(hs:B3 seen y=false)(hw:∀g∈stack,Way nx g y):DI nx n out (stack++[y]) (seen.set y.toNat true) at_:=by
 have hy2:G8 seen.length y=true:=by rw[h.slen];exact hy
 have hset:∀c,B3 (seen.set y.toNat true) c=if c=y then true else B3 seen c:=fun c=>M8 hy2;have hlt:=(M4 hy2).1;have hget:seen[y.toNat]=false:=by
  have:=(M4 hy2).2;rw[hs]at this;simp[List.getD,hlt]at this;exact this
 have hno:y∉out:=fun hh=>by rw[(h.mark y).2 (.inl hh)]at hs;cases hs
 have hns:y∉stack:=fun hh=>by rw[(h.mark y).2 (.inr hh)]at hs;cases hs
 refine⟨by simp[h.slen],h.alen,fun c=>?_,?_,fun b hb hb2=>?_,h.onod,?_,?_,fun x hx z hz=>?_,h.atok,fun a ha hsa=>?_,fun g hg z hz=>?_,fun x hx g hg hwx=>?_,h.cut⟩
 ·rw[hset,do0,dp5];by_cases hc:c=y
  ·subst hc;simp
  ·simp[hc,h.mark c]
 ·have:=h.count;have:=ac3 hlt hget;simp only[dm7,dp3];omega
 ·rcases do0.1 hb2 with h1|h1
  ·exact h.apart b hb h1
  ·simp at h1;subst h1;exact hno hb
 ·rw[ds6];refine⟨h.snod,by simp,fun a ha b hb=>?_⟩;simp at hb;subst hb;rintro rfl;exact hns ha
 ·rw[List.pairwise_append];refine⟨h.path,by simp,fun a ha b hb=>?_⟩;simp at hb;subst hb;exact hw a ha
 ·rcases h.black x hx z hz with h1|h1
  ·exact .inl h1
  ·exact .inr (dr6 _ h1)
 ·rw[hset]at hsa;split at hsa
  ·cases hsa
  ·exact h.white a ha hsa
 ·rcases do0.1 hg with h1|h1
  ·exact aF8 hy2 (h.grey g h1 z hz)
  ·simp at h1;subst h1;rw[h.white g hy hs]at hz;simp at hz
 ·have key:∃g∈stack,Way nx x g:=by
   rcases do0.1 hg with h1|h1
   ·exact⟨g,h1,hwx⟩
   ·simp at h1;subst h1;exact cK0 h.black hx hwx hno
  obtain⟨g',hg',hwg⟩:=key;obtain⟨c,hc,hb⟩:=h.low x hx g' hg' hwg;exact⟨c,dr6 _ hc,hb⟩
theorem DI.adv(h:DI nx n out stack seen at_){a y:Int}(ha:G8 n a=true){k:Nat}(hk:ai at_ a=k)(hy:(C1 nx a)[k]?=some y)(hs:B3 seen y=true)(hsa:B3 seen a=true):DI nx n out stack seen (at_.set a.toNat (k+1:Nat)):=by
 have hlt:=(dn0.1 hy).1;refine⟨h.slen,by simp[h.alen],h.mark,h.count,h.apart,h.onod,h.snod,h.path,h.black,fun b hb=>?_,fun b hb hsb=>?_,fun g hg z hz=>?_,h.low,h.cut⟩
 ·rw[aR1 h.alen ha hb];split
  ·rename_i e;subst e;omega
  ·exact h.atok b hb
 ·rw[aR1 h.alen ha hb];split
  ·rename_i e;subst e;rw[hsa]at hsb;cases hsb
  ·exact h.white b hb hsb
 ·have hgk:=h.ok (.inr hg);rw[aR1 h.alen ha hgk]at hz;split at hz
  ·rename_i e;subst e;rw[dp0,dz1,hy]at hz;rcases do0.1 hz with h1|h1
   ·refine h.grey g hg z ?_;rw[hk,dp0];exact h1
   ·simp at h1;subst h1;exact hs
  ·exact h.grey g hg z hz
theorem DI.pop{s:List Int}{a:Int}(h:DI nx n out (s++[a]) seen at_)(hk:ai at_ a=(C1 nx a).length):DI nx n (out++[a]) s seen at_:=by
 have has:a∈s++[a]:=by simp
 have hno:a∉out:=fun hh=>h.apart a hh has;have hnd:=ds6.1 h.snod;have hnas:a∉s:=fun hh=>hnd.2.2 a hh a (by simp) rfl;have hpa:=List.pairwise_append.1 h.path;have hga:∀g∈s,Way nx g a:=fun g hg=>hpa.2.2 g hg a (by simp);have hblack:∀x∈out++[a],∀y∈C1 nx x,y∈out++[a]∨y∈s:=by
  intro x hx y hy;have hm:y∈out∨y∈s++[a]:=by
   rcases do0.1 hx with h1|h1
   ·exact h.black x h1 y hy
   ·simp at h1;subst h1;refine(h.mark y).1 (h.grey x has y ?_);rw[hk,dp0,dn6];exact hy
  rcases hm with h1|h1
  ·exact .inl (dr6 _ h1)
  ·rcases do0.1 h1 with h2|h2
   ·exact .inr h2
   ·exact .inl (dy5 _ h2)
 have hlow:∀x∈out++[a],∀g∈s,Way nx x g→∃c∈s,ak8 nx c x:=by
  intro x hx g hg hw;rcases do0.1 hx with h1|h1
  ·obtain⟨c,hc,hb⟩:=h.low x h1 g (dr6 _ hg) hw;rcases do0.1 hc with h2|h2
   ·exact⟨c,h2,hb⟩
   ·simp at h2;subst h2;exact⟨g,hg,⟨(hga g hg).trans hb.1,hw⟩⟩
  ·simp at h1;subst h1;exact⟨g,hg,⟨hga g hg,hw⟩⟩
 have hap:∀b∈out++[a],b∉s:=by
  intro b hb hs;rcases do0.1 hb with h1|h1
  ·exact h.apart b h1 (dr6 _ hs)
  ·simp at h1;subst h1;exact hnas hs
 refine⟨h.slen,h.alen,fun b=>?_,?_,hap,?_,hnd.1,hpa.1,hblack,h.atok,h.white,fun g hg=>h.grey g (dr6 _ hg),hlow,fun k x hx r hr hw=>?_⟩
 ·rw[h.mark,do0,do0];constructor
  ·rintro(h1|h1|h1)
   ·exact .inl (.inl h1)
   ·exact .inr h1
   ·exact .inl (.inr h1)
  ·rintro((h1|h1)|h1)
   ·exact .inl h1
   ·exact .inr (.inr h1)
   ·exact .inr (.inl h1)
 ·have:=h.count;simp only[dm7,dp3]at this ⊢;omega
 ·rw[ds6];refine⟨h.onod,by simp,fun x hx y hy=>?_⟩;simp at hy;subst hy;rintro rfl;exact hno hx
 ·by_cases hkl:k≤out.length
  ·rw[dv2 hkl]at hx hr ⊢;exact h.cut k x hx r hr hw
  ·rw[dr1 (by simp;omega)]at hx hr ⊢;obtain⟨g,hg,hwg⟩:=cK0 hblack hx hw hr;obtain⟨c,hc,hb⟩:=hlow x hx g hg hwg;exact⟨c,fun hh=>hap c hh hc,hb⟩
end
structure aL3 (nx:List (List Int)) (n:Nat) (out:List Int):Prop where
 nod:out.Nodup
 mem:∀b,b∈out↔G8 n b=true
 cut:∀k,∀x∈out.take k,∀r,r∉out.take k→Way nx x r→∃c,c∉out.take k∧ak8 nx c x
 len:out.length=n
theorem DI.fin{nx:List (List Int)}{n:Nat}{out:List Int}{seen:List Bool}{at_:List Int}(h:DI nx n out [] seen at_)(hall:∀b,G8 n b=true→B3 seen b=true):aL3 nx n out:=by
 have hm:∀b,b∈out↔G8 n b=true:=fun b=>⟨fun hb=>h.ok (.inl hb),fun hb=>by
  rcases(h.mark b).1 (hall b hb)with h1|h1
  ·exact h1
  ·cases h1⟩
 refine⟨h.onod,hm,h.cut,?_⟩;have hc:seen.count false=0:=by
  rw[List.count_eq_zero];intro hf;obtain⟨i,hi,he⟩:=List.getElem_of_mem hf;have hk:G8 seen.length (i:Int)=true:=C4.2 ⟨by omega,by omega⟩;have h1:=hall i (by rw[←h.slen];exact hk);rw[(M4 hk).2]at h1;simp[List.getD,hi,he]at h1
 have:=h.count;simp only[dt3]at this;omega
def bY2(nx:List (List Int))(at_:List Int)(n:Nat):Nat:=((List.range n).map fun(i:Nat)=>(C1 nx (i:Int)).length-(ai at_ (i:Int)).toNat).sum
theorem cw7{f g:Nat→Nat}{i:Nat}:∀{n:Nat},i<n→(∀j,j<n→j≠i→f j=g j)→f i<g i→((List.range n).map f).sum<((List.range n).map g).sum
 | 0,h,_,_=>by omega
 | n+1,h,he,hl=>by
  have B4:∀m,(∀j,j<m→j≠i→f j=g j)→((List.range m).map f).sum≤((List.range m).map g).sum:=by
   intro m
   induction m with
   | zero=>intro _;simp
   | succ m ih=>
    intro hh;have:=ih fun j hj=>hh j (by omega);rw[dx4];simp only[dp4,List.sum_append,dr3,List.map_nil,dx2,List.sum_nil];by_cases hm:m=i
    ·subst hm;omega
    ·have:=hh m (by omega) hm;omega
  rw[dx4];simp only[dp4,List.sum_append,dr3,List.map_nil,dx2,List.sum_nil];by_cases hn:n=i
  ·subst hn;have:=B4 n fun j hj=>he j (by omega);omega
  ·have:=cw7 (n:=n) (by omega) (fun j hj=>he j (by omega)) hl;have:=he n (by omega) hn;omega
theorem cg5{nx:List (List Int)}{at_:List Int}{n:Nat}(hl:at_.length=n){a:Int}(ha:G8 n a=true){k:Nat}(hk:ai at_ a=k)(hlt:k<(C1 nx a).length):bY2 nx (at_.set a.toNat (k+1:Nat)) n<bY2 nx at_ n:=by
 have ha':=C4.1 ha;refine cw7 (i:=a.toNat) (by omega) (fun j hj hne=>?_) ?_
 ·have hj':G8 n (j:Int)=true:=C4.2 ⟨by omega,by omega⟩;rw[aR1 hl ha hj',if_neg (by omega)]
 ·have e:((a.toNat:Nat):Int)=a:=by omega
  rw[e,aR1 hl ha ha,if_pos rfl,hk];omega
def aA5(nx:List (List Int))(b m:Int):Prop:=ak8 nx b m∧∀c,ak8 nx b c→m≤c
theorem aA5.uniq{nx:List (List Int)}{b m m':Int}(h:aA5 nx b m)(h':aA5 nx b m'):m=m':=
 Int.le_antisymm (h.2 _ h'.1) (h'.2 _ h.1)
theorem bT7{n:Nat}{nx:List (List Int)}(hg:D6 n nx){a b:Int}(h:Way nx a b)(ha:G8 n a=true):G8 n b=true:=by
 cases h with
 | refl=>exact ha
 | step _ hb=>exact(hg.row _).2 _ hb
inductive bm0 (nx:List (List Int)):Int→Int→Prop
 | refl {a:Int}:bm0 nx a a
 | head {a b c:Int}:b∈C1 nx a→bm0 nx b c→bm0 nx a c
theorem bm0.snoc{nx:List (List Int)}{a b c:Int}(h:bm0 nx a b)(hc:c∈C1 nx b):bm0 nx a c:=by
 induction h with
 | refl=>exact .head hc .refl
 | head h1 _ ih=>exact .head h1 (ih hc)
theorem Way.toL{nx:List (List Int)}{a b:Int}(h:Way nx a b):bm0 nx a b:=by
 induction h with
 | refl=>exact .refl
 | step _ hc ih=>exact ih.snoc hc
theorem bm0.way{nx:List (List Int)}{a b:Int}(h:bm0 nx a b):Way nx a b:=by
 induction h with
 | refl=>exact .refl
 | head h1 _ ih=>exact(Way.one h1).trans ih
structure PI (nx:List (List Int)) (n:Nat) (order:List Int) (seen:List Bool) (part:List Int) (k:Nat):Prop where
 slen:seen.length=n
 plen:part.length=n
 mark:∀b,B3 seen b=true↔∃c∈order.drop k,ak8 nx c b
 part:∀b,B3 seen b=true→aA5 nx b (ai part b)
section
variable {nx pv:List (List Int)} {n:Nat} {order:List Int} {seen:List Bool} {part:List Int} {k:Nat}
theorem PI.start(ho:aL3 nx n order):PI nx n order (List.replicate n false) (List.replicate n 0) n:=
 ⟨by simp,by simp,fun b=>by simp[at1,←ho.len],fun b hb=>by rw[at1]at hb;cases hb⟩
theorem bw5{l:List Int}{k:Nat}{r:Int}(h:l[k]?=some r):l.drop k=r::l.drop (k+1):=by
 obtain⟨hlt,e⟩:=dn0.1 h;rw[dq6 hlt,e]
theorem PI.old(h:PI nx n order seen part (k+1)){r:Int}(hr:order[k]?=some r)(hs:B3 seen r=true):PI nx n order seen part k:=by
 refine⟨h.slen,h.plen,fun b=>?_,h.part⟩;rw[h.mark,bw5 hr];constructor
 ·rintro⟨c,hc,hb⟩;exact⟨c,dt4 _ hc,hb⟩
 ·rintro⟨c,hc,hb⟩;rcases do3.1 hc with rfl|hc
  ·obtain⟨d,hd,hdb⟩:=(h.mark c).1 hs;exact⟨d,hd,hdb.trans hb⟩
  ·exact⟨c,hc,hb⟩
theorem PI.walk(h:PI nx n order seen part (k+1))(ho:aL3 nx n order)(hg:D6 n nx)(hb:∀a b,b∈C1 nx a↔a∈C1 pv b){r:Int}(hr:order[k]?=some r)(hs:B3 seen r=false)(b:Int):
  Via pv (seen.set r.toNat true) [r] b↔ak8 nx r b:=by
 have hro:r∈order:=do5 hr;have hrk:=(ho.mem r).1 hro;have hrk2:G8 seen.length r=true:=by rw[h.slen];exact hrk
 have hset:∀c,B3 (seen.set r.toNat true) c=if c=r then true else B3 seen c:=fun c=>M8 hrk2;have hsplit:order=order.take k++r::order.drop (k+1):=by rw[←bw5 hr,dr0]
 have hnd:r∉order.take k:=by
  have:=ho.nod;rw[hsplit,ds6]at this;exact fun hh=>this.2.2 r hh r (by simp) rfl
 constructor
 ·intro hv
  induction hv with
  | base ha=>simp at ha;subst ha;exact .refl _
  | @step a b _ hba hsb ih=>
   have hab:a∈C1 nx b:=(hb b a).2 hba;have hwr:Way nx b r:=(Way.one hab).trans ih.2;have hne:b≠r:=by
    rintro rfl;rw[hset,if_pos rfl]at hsb;cases hsb
   rw[hset,if_neg hne]at hsb;have hbk:G8 n b=true:=by
    cases hq:G8 n b with
    | true=>rfl
    | false=>
     rw[aO7 (by rw[hg.len];exact hq)]at hab;cases hab
   have hnot:∀c∈order.drop (k+1),¬ak8 nx c b:=fun c hc hcb=>by
    rw[(h.mark b).2 ⟨c,hc,hcb⟩]at hsb;cases hsb
   have hbo:=(ho.mem b).2 hbk;rw[hsplit]at hbo;have hbt:b∈order.take k:=by
    rcases do0.1 hbo with h1|h1
    ·exact h1
    ·rcases do3.1 h1 with h1|h1
     ·exact absurd h1 hne
     ·exact absurd (ak8.refl b) (hnot b h1)
   obtain⟨c,hc,hcb⟩:=ho.cut k b hbt r hnd hwr;have hck:G8 n c=true:=bT7 hg hcb.2 hbk;have hco:=(ho.mem c).2 hck;rw[hsplit]at hco;rcases do0.1 hco with h1|h1
   ·exact absurd h1 hc
   ·rcases do3.1 h1 with h1|h1
    ·subst h1;exact hcb
    ·exact absurd hcb (hnot c h1)
 ·rintro⟨h1,h2⟩;have key:∀x y,bm0 nx x y→y=r→Way nx r x→Via pv (seen.set r.toNat true) [r] x:=by
   intro x y hxy
   induction hxy with
   | refl=>rintro rfl _;exact .base (by simp)
   | @head x b y hxb hby ih=>
    rintro rfl hrx;by_cases hxr:x=y
    ·subst hxr;exact .base (by simp)
    ·have hv:=ih rfl (hrx.trans (Way.one hxb));refine .step hv ((hb x b).1 hxb) ?_;rw[hset,if_neg hxr];rw[dx3];intro hsx;obtain⟨c,hc,hcx⟩:=(h.mark x).1 hsx;have hyx:ak8 nx x y:=⟨(Way.one hxb).trans hby.way,hrx⟩;rw[(h.mark y).2 ⟨c,hc,hcx.trans hyx⟩]at hs;cases hs
  exact key b r h2.toL rfl h1
theorem PI.new(h:PI nx n order seen part (k+1)){r:Int}(hr:order[k]?=some r){seen':List Bool}{part':List Int}{m:Int}(hl:seen'.length=n)(hpl:part'.length=n)
  (hm:∀b,B3 seen' b=true↔B3 seen b=true∨ak8 nx r b) (hleast:aA5 nx r m) (hp:∀b,B3 seen' b=true→ai part' b=if B3 seen b=true then ai part b else m):PI nx n order seen' part' k:=by
 refine⟨hl,hpl,fun b=>?_,fun b hb=>?_⟩
 ·rw[hm,h.mark,bw5 hr];constructor
  ·rintro(⟨c,hc,hb⟩|hb)
   ·exact⟨c,dt4 _ hc,hb⟩
   ·exact⟨r,by simp,hb⟩
  ·rintro⟨c,hc,hb⟩;rcases do3.1 hc with rfl|hc
   ·exact .inr hb
   ·exact .inl ⟨c,hc,hb⟩
 ·rw[hp b hb];split
  ·rename_i hs;exact h.part b hs
  ·rename_i hs;rcases(hm b).1 hb with h1|h1
   ·exact absurd h1 hs
   ·exact⟨h1.symm.trans hleast.1,fun c hc=>hleast.2 c (h1.trans hc)⟩
theorem PI.fin(h:PI nx n order seen part 0)(ho:aL3 nx n order):part.length=n∧∀b,G8 n b=true→aA5 nx b (ai part b):=
 ⟨h.plen,fun b hb=>h.part b ((h.mark b).2 ⟨b,by rw[dv7];exact(ho.mem b).2 hb,.refl b⟩)⟩
theorem cf0(l:List Int):∀x:Int,l.foldl min x≤x∧(∀y∈l,l.foldl min x≤y)∧(l.foldl min x=x∨l.foldl min x∈l):=by
 induction l with
 | nil=>intro x;exact⟨Int.le_refl _,fun y hy=>absurd hy dr8,.inl rfl⟩
 | cons z l ih=>
  intro x;obtain⟨h1,h2,h3⟩:=ih (min x z);rw[List.foldl_cons];refine⟨by omega,fun y hy=>?_,?_⟩
  ·rcases do3.1 hy with rfl|hy
   ·omega
   ·exact h2 y hy
  ·rcases h3 with h3|h3
   ·rw[h3];rcases Int.le_total x z with h|h
    ·exact .inl (Int.min_eq_left h)
    ·exact .inr (by rw[Int.min_eq_right h];simp)
   ·exact .inr (dt4 _ h3)
end
def dA1:=@List.getElem_range
theorem aD0:∀(n:Nat) (l:List Int),l.length≤n→l.eraseDups.Nodup
 | _,[],_=>by simp
 | 0,x::l,h=>by simp at h
 | n+1,x::l,h=>by
  rw[List.eraseDups_cons,dz4];refine⟨fun hm=>?_,aD0 n _ (dn4 (dp2 _ _) (by simpa using h))⟩;rw[List.mem_eraseDups,dr2]at hm;simp at hm
def az5(nx:List (List Int))(l:List Int):List Int:=((l.flatMap (C1 nx)).filter fun b=>!l.contains b).eraseDups
theorem ap3{nx:List (List Int)}{l:List Int}{b:Int}:b∈az5 nx l↔(∃a∈l,b∈C1 nx a)∧b∉l:=by
 unfold az5;rw[List.mem_eraseDups,dr2,ds4];simp
theorem ay0{nx:List (List Int)}{a:Int}:∀(m:Nat) (l:List Int),(∀b∈l,Way nx a b)→∀b∈O9 nx m l,Way nx a b
 | 0,l,h,b,hb=>h b hb
 | m+1,l,h,b,hb=>by
  rw[O9]at hb;refine ay0 m _ (fun c hc=>?_) b hb;rcases do0.1 hc with hc|hc
  ·exact h c hc
  ·obtain⟨⟨d,hd,hc⟩,_⟩:=ap3.1 hc;exact .step (h d hd) hc
theorem aU4{nx:List (List Int)}:∀(m:Nat) (l:List Int),∀b∈l,b∈O9 nx m l
 | 0,l,b,hb=>hb
 | m+1,l,b,hb=>by
  rw[O9];exact aU4 m _ b (dr6 _ hb)
theorem aH7{n:Nat}{nx:List (List Int)}(hg:D6 n nx):∀(m:Nat) (l:List Int),l.Nodup→(∀b∈l,G8 n b=true)→n≤l.length+m→∀a∈O9 nx m l,∀b∈C1 nx a,b∈O9 nx m l
 | 0,l,hn,hk,hl,a,ha,b,hb=>by
  rw[O9]at ha ⊢;refine dw8 fun hnb=>?_;have h1:(b::l).Nodup:=dz4.2 ⟨hnb,hn⟩;have h2:=L9 (m:=(List.range n).map fun(i:Nat)=>(i:Int)) h1 fun c hc=>by
   have hkc:G8 n c=true:=by
    rcases do3.1 hc with rfl|hc
    ·exact(hg.row _).2 _ hb
    ·exact hk c hc
   have:=C4.1 hkc;exact dp7.2 ⟨c.toNat,dq2.2 (by omega),by omega⟩
  simp only[do7,dn7,ds3]at h2;omega
 | m+1,l,hn,hk,hl,a,ha,b,hb=>by
  rw[O9]at ha ⊢;by_cases he:az5 nx l=[]
  ·have e:l++((l.flatMap (C1 nx)).filter fun b=>!l.contains b).eraseDups=l:=by
    show l++az5 nx l=l;rw[he,dp6]
   rw[e]at ha ⊢;have hcl:∀c∈l,∀d∈C1 nx c,d∈l:=fun c hc d hd=>dw8 fun hnd=>by
    have:d∈az5 nx l:=ap3.2 ⟨⟨c,hc,hd⟩,hnd⟩;rw[he]at this;simp at this
   have hst:∀(k:Nat),O9 nx k l=l:=by
    intro k
    induction k with
    | zero=>rfl
    | succ k ih=>rw[O9,e,ih]
   rw[hst]at ha ⊢;exact hcl a ha b hb
  ·have hpos:0<(az5 nx l).length:=List.length_pos_iff.2 he;refine aH7 hg m (l++az5 nx l) ?_ (fun c hc=>?_) (by rw[dm7];omega) a ha b hb
   ·rw[ds6];refine⟨hn,aD0 _ _ (dn9 _),fun c hc d hd e=>?_⟩;subst e;exact(ap3.1 hd).2 hc
   ·rcases do0.1 hc with h|h
    ·exact hk c h
    ·obtain⟨⟨d,_,hc⟩,_⟩:=ap3.1 h;exact(hg.row _).2 _ hc
theorem au9{nx:List (List Int)}(hg:D6 nx.length nx){a b:Int}(ha:G8 nx.length a=true):T2 nx a b=true↔Way nx a b:=by
 unfold T2;rw[ha,du6,dp1];constructor
 ·exact fun h=>ay0 nx.length [a] (fun c hc=>by simp at hc;subst hc;exact .refl) b h
 ·intro h
  induction h with
  | refl=>exact aU4 _ _ _ (by simp)
  | step _ hc ih=>exact aH7 hg nx.length [a] (by simp) (fun c hc=>by simp at hc;subst hc;exact ha) (by simp) _ ih _ hc
theorem cG3{nx:List (List Int)}{a b:Int}(ha:G8 nx.length a=true):Rch nx [a] b↔Way nx a b:=by
 constructor
 ·intro h
  induction h with
  | base h1 h2=>simp at h1;subst h1;exact .refl
  | step _ hb ih=>exact .step ih hb
 ·intro h
  induction h with
  | refl=>exact .base (by simp) ha
  | step _ hb ih=>exact .step ih hb
theorem cE9{nx:List (List Int)}(hg:D6 nx.length nx)(h0:G8 nx.length 0=true){r:List Int}(hr:cJ1 r (Rch nx [0])):bq6 nx=(List.range nx.length).map fun(b:Nat)=>r.contains (b:Int):=by
 unfold bq6;refine List.map_congr_left fun b _=>?_;rw[dz5,au9 hg h0,←cG3 h0,←hr.mem,dp1]
theorem cG1{nx:List (List Int)}(hg:D6 nx.length nx){q:List Int}(hl:q.length=nx.length)(hq:∀b,G8 nx.length b=true→aA5 nx b (ai q b)):q=ac7 nx:=by
 apply du0
 ·simp[ac7,hl]
 intro k h1 h2;have hk:G8 nx.length (k:Int)=true:=C4.2 ⟨by omega,by omega⟩;have hp:=hq k hk;have hak:ai q (k:Int)=q[k]:=by
  unfold ai;rw[dp0,List.getD,dm4 h1];rfl
 rw[hak]at hp;refine hp.uniq ?_;have hkm:=bT7 hg hp.1.1 hk;obtain⟨hm1,hm2⟩:=C4.1 hkm;have hqk:q[k]=((q[k].toNat:Nat):Int):=by omega
 have hpk:(ac7 nx)[k]=((((List.range nx.length).find? fun b=>T2 nx (k:Nat) (b:Nat)&&T2 nx (b:Nat) (k:Nat)).getD 0:Nat):Int):=by
  simp only[ac7,dv8,dA1]
 rw[hpk];have hfind:(List.range nx.length).find? (fun b=>T2 nx (k:Nat) (b:Nat)&&T2 nx (b:Nat) (k:Nat))=some q[k].toNat:=by
  rw[du9];refine⟨?_,q[k].toNat,by simp;omega,by simp,fun j hj=>?_⟩
  ·rw[do6,au9 hg hk,au9 hg (C4.2 ⟨by omega,by omega⟩),←hqk];exact hp.1
  ·have hjl:j<nx.length:=by omega
   have hjk:G8 nx.length (j:Int)=true:=C4.2 ⟨by omega,by omega⟩;cases hz:(T2 nx (k:Nat) ((List.range nx.length)[j]'(by simp;omega):Nat)&&T2 nx ((List.range nx.length)[j]'(by simp;omega):Nat) (k:Nat))
   ·rfl
   ·exfalso
    simp only[dA1]at hz;rw[do6,au9 hg hk,au9 hg hjk]at hz;have:=hp.2 j hz;omega
 rw[hfind];simp only[dr7];rw[←hqk];exact hp
theorem dc1{w:World}{gb:Nat}{sh:Addr}{wy:Wy}{vr vl:Value}(hh:w.heap[gb]?=some (.cells #[.pointer (some sh),.int .i64 wy.proc,.int .i64 wy.n,vr,vl] 151 (0,0)))(hs:At (i4 w) sh wy.s)(hr:R (i4 w) vr wy.real)(hl:R (i4 w) vl wy.live):At (i4 w) ⟨gb,0,none⟩ wy:=by
 refine⟨[.pointer (some sh),.int .i64 wy.proc,.int .i64 wy.n,vr,vl],⟨_,_,_,rfl,hs.ptr,hr,hl⟩,fun j u hj=>?_⟩;rw[←al1,add_lit,dp8,du1 w gb j _ 151 (0,0) hh];simpa using hj
theorem cn5(s v:Value)(i n:Int)(hs:s.cells=#[s])(hv:v.cells=#[v]):B7 prog 151 [(0,s),(1,.int .i64 i),(2,.int .i64 n),(3,v)]=some (.agg #[s,.int .i64 i,.int .i64 n,v,.slice none 0 0]):=by
 have h1:(Value.int .i64 i).cells=#[.int .i64 i]:=rfl;have h2:(Value.int .i64 n).cells=#[.int .i64 n]:=rfl;simp[B7,cQ1,J4,Instr.fill,hs,hv,h1,h2]
def ad9(s:Sh)(i:Nat):Wy:=⟨s,i,V0 s.hi i-V0 s.lo i+2,s.steps i,List.replicate (V0 s.hi i-V0 s.lo i+2).toNat false⟩
theorem cI6{p:Pg}{i x y:Nat}(pt:aA8 p i x y):WyOk p i x y (ad9 (b9 p) i):=by
 refine⟨rfl,rfl,?_,pt⟩;unfold ad9 V0;simp only[dp0,List.getD,pt.ok.lo,pt.ok.hi,dr7];omega
theorem ca7{p:Pg}{i x y:Nat}(pt:aA8 p i x y):WyOk p i x y (E2 (b9 p) i):=by
 refine⟨rfl,rfl,?_,pt⟩;unfold E2 V0;simp only[dp0,List.getD,pt.ok.lo,pt.ok.hi,dr7];omega
theorem bu2(s:Sh)(i:Nat):(E2 s i).live=bq6 (ai3 (ad9 s i).n.toNat ((ad9 s i).pairs (s.steps i))).1:=rfl
theorem bn7{p:Pg}{i x y:Nat}(pt:aA8 p i x y):((E2 (b9 p) i).live.length:Int)=(E2 (b9 p) i).n:=by
 have h1:=(ca7 pt).n;have h2:=pt.ok.le;have h3:(E2 (b9 p) i).n=(ad9 (b9 p) i).n:=rfl;rw[bu2,h3];unfold bq6;rw[dn7,ds3,(af5 _ _).nx.len];omega
theorem aU5{p:Pg}(hw:D3 p≤1000000){i:Nat}(hi:i<p.procs.length):((b9 p).steps i).length≤800001:=by
 obtain⟨_,hlen⟩:=aY0 p hw i hi;refine dn4 (aK4 _) ?_;rw[do7];have:=U3 (fun it:It=>((b9 p).goes it).map fun t=>(⟨it.s.id,t,1⟩:Sp)) 2 ((b9 p).of i) fun it _=>by rw[dn7];exact bE8 _ _
 omega
theorem bT6(a:Addr)(p:Pg)(i x y:Nat)(w:World)(hs:At (i4 w) a (b9 p))(hr:F1 p)(hw:D3 p≤1000000)(hi:i<p.procs.length)(pt:aA8 p i x y):p7 prog 73 #[.pointer (some a),.int .i64 i] w fun u w'=>(∃gb vr vl,u = .pointer (some ⟨gb,0,none⟩)∧w'.heap[gb]?=some (.cells #[.pointer (some a),.int .i64 i,.int .i64 (E2 (b9 p) i).n,vr,vl] 151 (0,0))∧w.heap.size≤gb∧A8 (i4 w) w' 186 vr ((b9 p).steps i)∧A8 (i4 w) w' 4 vl (E2 (b9 p) i).live∧o7 w w'):=by
 refine p8 [.pointer (some a),.int .i64 i] func73 rfl ?_;have h200:=H2 hr.may;have hlen:=pt.ok.len;have hle':=pt.ok.le;obtain⟨vL,vlo,vhi,hL,hlo,hhi,hap,lds,sds⟩:=hs.sh;have hst:∀w',o7 w.drew w'→B4 (i4 w) (i4 w'):=fun w' h=>b7 ((o7.drew w).trans h);have s2:=sds (fun w'=>o7 w.drew w') w.drew (p9.refl _) hst;have hi1:=hlo.inS (dn0.1 pt.ok.lo).1;have hi2:=hhi.inS (dn0.1 pt.ok.hi).1;have k1:∀K f d w0,I2 prog (fun w'=>o7 w.drew w') (Instr.loadAt 3 (.pointer (some (G9 vlo i)))) K f d w0=K (C5 f d (.int .i64 ((x:Int)+1))) w0:=fun K f d w0=>D5 (w0:=w.drew) (p9.refl _) fun w' h=>ldI hlo (hst w' h) pt.ok.lo;have k2:∀K f d w0,I2 prog (fun w'=>o7 w.drew w') (Instr.loadAt 3 (.pointer (some (G9 vhi i)))) K f d w0=K (C5 f d (.int .i64 ((y:Int)+1))) w0:=fun K f d w0=>D5 (w0:=w.drew) (p9.refl _) fun w' h=>ldI hhi (hst w' h) pt.ok.hi;have hok:=cI6 pt;have hn:=hok.n;have hw1:IntKind.i64.wrap ((y:Int)+1-((x:Int)+1))=(y:Int)+1-((x:Int)+1):=L0 _ (by omega);have hw2:IntKind.i64.wrap ((y:Int)+1-((x:Int)+1)+2)=(ad9 (b9 p) i).n:=by rw[L0 _ (by omega)];omega
 have hnn:(ad9 (b9 p) i).n=(((ad9 (b9 p) i).n.toNat:Nat):Int):=by omega
 generalize hX:(x:Int)+1=X at k1 hw1 hw2;generalize hY:(y:Int)+1=Y at k2 hw1 hw2;simp only[n7,n8,simprocAttr];refine C2 (fun w'=>o7 w.drew w') 21 (A9 [0,1,2,3,4,5,6,7,8,9,10,11,12,13,14,15,16,17,18,19,20]) ?_;simp only[D1,A9,n7,n8,z6,simprocAttr,s2,k1,k2,hi1,hi2,hw1,hw2];refine y5 (cb8 a p i x y w.drew (hs.mono (b7 (o7.drew w))) hr hw hi pt) ?_;rintro vr w2 ⟨hor,hx2⟩;refine⟨hx2,?_⟩;have hx02:=(o7.drew w).trans hx2;have hSr:=hor.isS;obtain⟨gb,w3,hbox,hx3,hc3,hge3⟩:∃gb w3,(Instr.box 151 (.agg #[.pointer (some a),.int .i64 i,.int .i64 (ad9 (b9 p) i).n,vr,.slice none 0 0])).run prog w2 = .ok (.pointer (some ⟨gb,0,none⟩)) w3∧o7 w2 w3∧w3.heap[gb]?=some (.cells #[.pointer (some a),.int .i64 i,.int .i64 (ad9 (b9 p) i).n,vr,.slice none 0 0] 151 (0,0))∧w2.heap.size≤gb:=
  ⟨_,_,rfl,o7.alloc _ _,dq7 w2 _,dn9 _⟩
 have hx03:=hx02.trans hx3;have hgblt:gb<w3.heap.size:=(dn1.1 hc3).1;obtain⟨vl,w4,hmk,hol,hx4,hfr,_⟩:=mk (P:=prog) (w:=w3) (h:=i4 w3) (α:=Bool) bn6 T7 (y:=false) rfl (n:=(ad9 (b9 p) i).n.toNat) (by omega) (by omega) (d7 _);rw[←hnn]at hmk;have hc4:w4.heap[gb]?=some (.cells #[.pointer (some a),.int .i64 i,.int .i64 (ad9 (b9 p) i).n,vr,.slice none 0 0] 151 (0,0)):=(hx4.block gb hgblt id).trans hc3;have hgl:∀b,A4 vl b→b≠gb:=fun b hb e=>by have:=hfr b hb;omega
 obtain⟨w5,s5,hc5,hm5⟩:=aj0 (P:=prog) (t:=149) (i:=4) (x:=vl) hc4 (by simp) (D8 hol.isS) (W5 hol.isS) (z7 aV1).choose_spec.1 (by rw[←C6 (z7 aV1).choose_spec.1];exact bA3);have hc5':w5.heap[gb]?=some (.cells #[.pointer (some a),.int .i64 i,.int .i64 (ad9 (b9 p) i).n,vr,vl] 151 (0,0)):=by simpa using hc5
 have hx05:o7 w w5:=p9.ext_of (hx03.trans hx4) hm5 fun b hb=>by subst hb;exact dn4 hx02.size hge3
 have hol5:A8 (i4 w) w5 4 vl (List.replicate (ad9 (b9 p) i).n.toNat false):=(hol.back hx03).mod hm5 fun b hb=>hgl b hb;have hor5:A8 (i4 w) w5 186 vr ((b9 p).steps i):=(((hor.backN (o7.drew w)).ext hx3).ext hx4).mod hm5 fun b hb e=>by
  subst e;have:=hor.lt hb;omega
 have l5n:(Instr.loadAt 3 (.pointer (some ⟨gb,2,none⟩))).run prog w3 = .ok (.int .i64 (ad9 (b9 p) i).n) w3:=E7 (i:=2) hc3 rfl F4;have l5r:(Instr.loadAt 144 (.pointer (some ⟨gb,3,none⟩))).run prog w5 = .ok vr w5:=E7 (i:=3) hc5' rfl bS8;have hat5:At (i4 w5) ⟨gb,0,none⟩ (ad9 (b9 p) i):=dc1 hc5' (hs.mono (b7 hx05)) (hor5.rw_ (b7 hx05)) (hol5.rw_ (b7 hx05));have hsrg:=bk0 hr hw hi pt;have hsl:=aU5 hw hi;simp only[D1,n7,n8,simprocAttr,cn5 (.pointer (some a)) vr i (ad9 (b9 p) i).n rfl (D8 hSr),hbox,l5n,hmk,s5,l5r];refine y5 (bf3 ⟨gb,0,none⟩ (ad9 (b9 p) i) p i x y vr _ w5 hat5 hok h200 (hor5.rw_ (b7 hx05)) hsrg (by omega)) ?_;rintro ug w6 ⟨hgr,hx6⟩;obtain⟨vz,w7,hlit,hoz,hx7,_⟩:=lit (P:=prog) (w:=w6) (h:=i4 w6) (α:=Int) (xs:=[.int .i64 0]) (ys:=[0]) (parts:=#[(0,.int .i64 0)]) (n:=1) ad2 rfl (L7.2 rfl) (by simp[Value.cells]) rfl rfl (by simp) (by simp) (d7 _);have hgood:=(af5 (ad9 (b9 p) i).n.toNat ((ad9 (b9 p) i).pairs ((b9 p).steps i))).nx;have hlive:(E2 (b9 p) i).live=bq6 (ai3 (ad9 (b9 p) i).n.toNat ((ad9 (b9 p) i).pairs ((b9 p).steps i))).1:=bu2 _ _;generalize(ai3 (ad9 (b9 p) i).n.toNat ((ad9 (b9 p) i).pairs ((b9 p).steps i))).1=nx at hgr hgood hlive;generalize(ai3 (ad9 (b9 p) i).n.toNat ((ad9 (b9 p) i).pairs ((b9 p).steps i))).2=pv at hgr;have hnl:=hgood.len;have hgood':D6 nx.length nx:=by rw[hnl];exact hgood
 have hok0:G8 nx.length 0=true:=C4.2 ⟨by omega,by omega⟩;simp only[n7,simprocAttr,hlit];refine y5 (cb7 ug nx pv vz [0] w7 (hgr.mono (b7 hx7)) hgood' (by omega) (hoz.rw_ (b7 hx7)) (by simp)) ?_;rintro ur w8 ⟨⟨r,hor8,hset⟩,hx8⟩;have hx58:=hx6.trans (hx7.trans hx8);have hol8:=hol5.ext hx58;have hur:R (B6 w8 (A4 vl)) ur r:=hor8.flatR fun b hb=>C9 fun hbu=>by
  have h1:=hol5.lt hbu;have h2:=C0 (hor8.free hb);have:=(hx6.trans hx7).size;omega
 have hrk:∀b∈r,G8 nx.length b=true:=fun b hb=>((hset.mem b).1 hb).ok hgood';have hrl:r.length≤nx.length:=by
  have:=ax8 (n:=nx.length) (m:=0) hset.le (fun b hb=>C4.1 (hrk b hb)) (by omega);omega
 have hlv:=cE9 hgood' hok0 hset;rw[hlv]at hlive;have hSr8:=hur.isS;have hnr8:=hur.vlen;have hc8:∀w',p9 (A4 vl) w8 w'→w'.heap[gb]?=some (.cells #[.pointer (some a),.int .i64 i,.int .i64 (ad9 (b9 p) i).n,vr,vl] 151 (0,0)):=fun w' hm=>by
  have hg5:gb<w5.heap.size:=(dn1.1 hc5').1;have hg8:gb<w8.heap.size:=dt8 hg5 hx58.size;rw[hm.block gb hg8 fun hb=>hgl gb hb rfl,hx58.block gb hg5 id,hc5']
 have hrep:List.replicate (ad9 (b9 p) i).n.toNat false=(List.range nx.length).map fun(b:Nat)=>(([]:List Int)).contains (b:Int):=by
  rw[hnl];apply du0
  ·simp
  ·intro j h1 h2;simp
 rw[hrep]at hol8;simp only[n7,n8,simprocAttr,hSr8,hnr8];refine n9 [5,46,47] (σ:=Nat) (fun k f w'=>f 48 = .int .i64 k∧k≤r.length∧A8 (i4 w) w' 4 vl ((List.range nx.length).map fun(b:Nat)=>(r.take k).contains (b:Int))∧p9 (A4 vl) w8 w') (fun k=>r.length-k) 0 ?_ ?_
 ·simp only[p6,simprocAttr];exact⟨by trivial,dn5 _,by simpa using hol8,p9.refl _⟩
 rintro k f w9 hk ⟨h48,hkl,hol9,hm9⟩;simp only[dm6,p6,simprocAttr]at hk;obtain⟨e5,e46,e47,_⟩:=hk;have hc9:=hc8 w9 hm9;simp only[n7,n8,simprocAttr,h48,e47];refine m8 (fun hc=>?_) (fun hc=>?_)
 ·have hlt:k<r.length:=by simpa using hc
  have hin:=hur.inS hlt;have hld:=aG9 hur (D2 hm9) hlt;have hkk:=C4.1 (hrk _ (dn3 hlt));have hcast:r[k]=((r[k].toNat:Nat):Int):=by omega
  have htk:∀b:Int,(r.take (k+1)).contains b=((r.take k).contains b||decide (b=r[k])):=fun b=>by
   rw[dn2 hlt,dz5,dy8,dp1,dp1,do0,dp5,decide_eq_true_iff]
  have hqlt:r[k].toNat<nx.length:=by omega
  rw[hcast]at hld htk;generalize r[k].toNat=q at hld htk hqlt;have l9:(Instr.loadAt 149 (.pointer (some ⟨gb,4,none⟩))).run prog w9 = .ok vl w9:=E7 (i:=4) hc9 rfl aj5;have hin9:=hol9.inS (k:=q) (by simpa using hqlt);obtain⟨w10,s1,s2,s3,s4⟩:=D9 (P:=prog) (t:=4) hol9 rfl (k:=q) (by simpa using hqlt) (x:=.bool true) (y:=true) rfl rfl (z7 T7).choose_spec.1 (by rw[←C6 (z7 T7).choose_spec.1];exact aD8);simp only[n7,n8,z6,simprocAttr,h48,e5,e46,hin,hld,l9,hin9,s1];refine⟨k+1,by omega,by rw[B0 k (by omega)],by omega,?_,hm9.chain s3 fun _ _ h=>h⟩;have heq:((List.range nx.length).map fun(b:Nat)=>(r.take k).contains (b:Int)).set q true=(List.range nx.length).map fun(b:Nat)=>(r.take (k+1)).contains (b:Int):=by
   apply du0
   ·simp
   ·intro j h1 h2;rw[List.getElem_set];simp only[dv8,dA1,htk];by_cases hjq:q=j
    ·subst hjq;simp
    ·rw[if_neg hjq];have:decide ((j:Int)=(q:Int))=false:=by simp;omega
     rw[this,Bool.or_false]
  rw[←heq];exact s2
 ·have hge:k=r.length:=by simp at hc;omega
  subst hge;rw[dn6,←hlive]at hol9;simp only[n7,simprocAttr,e5];refine o6 results73 ?_;simp only[p6,simprocAttr];have hx09:o7 w w9:=p9.ext_of (hx05.trans hx58) hm9 fun b hb=>C0 (hol5.free hb);have hor8:A8 (i4 w) w8 186 vr ((b9 p).steps i):=hor5.ext hx58;refine⟨gb,vr,vl,by trivial,hc9,dn4 hx02.size hge3,hor8.mod hm9 fun b hb hbl=>?_,hol9,hx09⟩;have h1:=hfr b hbl;have h2:=hor.lt hb;omega
def Dj(u v:Value):Prop:=∀b,A4 u b→¬A4 v b
theorem Dj.symm{u v:Value}(h:Dj u v):Dj v u:=fun b h1 h2=>h b h2 h1
theorem Dj.nil(u:Value):Dj u (.slice none 0 0):=fun b _ h=>C7 h
section
variable {α:Type} [A3 α] {h:Hp} {w:World} {T:TypeId} {x y y' v:Value} {xs:List α}
theorem Dj.move(h1:Dj x y)(hx:A8 h w T x xs)(hm:D7 w y y'):Dj x y':=fun b hb hb2=>by
 rcases hm b hb2 with h2|h2
 ·exact h1 b hb h2
 ·have:=hx.lt hb;omega
theorem Dj.fresh(hx:A8 h w T x xs)(hf:∀b,A4 y b→w.heap.size≤b):Dj x y:=fun b hb hb2=>by
 have:=hx.lt hb;have:=hf b hb2;omega
theorem A8.apart{w':World}(hx:A8 h w T x xs)(hm:p9 (A4 y) w w')(hd:Dj x y):A8 h w' T x xs:=hx.mod hm fun b hb hb2=>hd b hb hb2
theorem cG4{v:Value}{k sz:Nat}(hS:isS v=true)(hc:0<vcap v):∃a n c,v = .slice a n c∧reS v 0 k sz = .slice a k c:=by
 cases v<;>simp[Go.Proofs.YtcbnbgpphippoaaGreat.isS]at hS;rename_i a n c;refine⟨a,n,c,rfl,?_⟩;simp only[vcap]at hc;have hc0:¬c=0:=by omega
 cases a<;>simp[reS,J9,hc0]
theorem A8.pre(ho:A8 h w T v xs){k:Nat}(hk:k≤xs.length)(h0:0<xs.length):A8 h w T (reS v 0 k (A3.sz α)) (xs.take k)∧∀b,A4 (reS v 0 k (A3.sz α)) b↔A4 v b:=by
 rcases ho with⟨rfl,rfl⟩|⟨b,c,cur,rfl,h1,h2,h3,h4,h5,h6⟩
 ·simp at h0
 ·obtain⟨a,n,c',e,er⟩:=cG4 (v:=.slice (some ⟨b,0,none⟩) xs.length c) (k:=k) (sz:=A3.sz α) rfl (by show 0<c;omega);cases e;rw[er];refine⟨.inr ⟨b,c,cur,by rw[dn8,dt5 hk],h1,h2,by rw[dn8];omega,h4,h5,?_⟩,fun b'=>by simp[A4,Value.ownBlock]⟩;rw[dn8,dt5 hk];have hx:xs=xs.take k++xs.drop k:=(dr0 k xs).symm;rw[hx]at h6;obtain⟨c1,c2,e1,e2,e3⟩:=Z8 _ _ h6;have hl:=J8 e2;rw[dn8,dt5 hk]at hl;rw[←hx]at e1;have:cur.toList.take (k*A3.sz α)=c1:=by
   have h7:=do4 (List.take (k*A3.sz α)) e1;rw[List.take_take,dt5 (dv0 _ hk),←hl,dv9]at h7;rw[←hl];exact h7
  rw[this];exact e2
end
theorem bH0{α:Type}(l:List α):l=[]∨∃s a,l=s++[a]:=by
 rcases List.eq_nil_or_concat l with h|⟨s,a,h⟩
 ·exact .inl h
 ·exact .inr ⟨s,a,by rw[h,List.concat_eq_append]⟩
theorem ce0(pg:Value)(nx pv:List (List Int))(w:World)(hgr:GR (i4 w) pg nx pv)(hg:D6 nx.length nx)(hn5:nx.length≤5000):
  p7 prog 271 #[pg] w fun u w'=>((∃r,A8 (i4 w) w' 3 u r∧aL3 nx nx.length r)∧o7 w w'):=by
 have hgr':=hgr;obtain⟨gb,vn,vp,rfl,h1,h2,h3,h4⟩:=hgr;refine p8 [.pointer (some ⟨gb,0,none⟩)] func271 rfl ?_;have hld:=F9 (P:=prog) (t:=153) h1 (d7 _) T4;have hSn:=h3.isS;have hnn:=h3.vlen;obtain⟨u0,w0,hmk,ho0,hx0,hf0,_⟩:=mk (P:=prog) (w:=w) (h:=i4 w) bn6 T7 (α:=Bool) (y:=false) rfl (n:=nx.length) (by omega) (by omega) (d7 _);have hld0:=F9 (P:=prog) (t:=153) h1 (b7 hx0) T4;obtain⟨u1,w1,hmk1,ho1,hx1,hf1,_⟩:=mk (P:=prog) (w:=w0) (h:=i4 w) ad2 ay5 (α:=Int) (y:=0) rfl (n:=nx.length) (by omega) (by omega) (b7 hx0);have hx01:=hx0.trans hx1;have hld1:=F9 (P:=prog) (t:=153) h1 (b7 hx01) T4;have hd01:Dj u0 u1:=Dj.fresh ho0 hf1;simp only[J5,O4,P8,simprocAttr,hld,hSn,hnn,hmk,hld0,hmk1,hld1];refine n9 [0,5,6,26] (σ:=List Int×List Bool×List Int×Nat) (fun s f w'=>f 27 = .int .i64 s.2.2.2∧s.2.2.2≤nx.length∧A8 (i4 w) w' 3 (f 3) s.1∧A8 (i4 w) w' 3 (f 4) ([]:List Int)∧A8 (i4 w) w' 4 u0 s.2.1∧A8 (i4 w) w' 3 u1 s.2.2.1 ∧
   Dj (f 3) (f 4)∧Dj u0 (f 3)∧Dj u0 (f 4)∧Dj u1 (f 3)∧Dj u1 (f 4)∧o7 w w'∧DI nx nx.length s.1 [] s.2.1 s.2.2.1∧∀r:Nat,r<s.2.2.2→B3 s.2.1 r=true)
  (fun s=>nx.length-s.2.2.2) ([],List.replicate nx.length false,List.replicate nx.length 0,0) ?_ ?_
 ·simp only[p6,simprocAttr];exact⟨by trivial,dn5 _,A8.nil _ _ _,A8.nil _ _ _,ho0.ext hx1,ho1,Dj.nil _,Dj.nil _,Dj.nil _,Dj.nil _,Dj.nil _,hx01,DI.start rfl,fun r hr=>by omega⟩
 ·rintro⟨out,sn,at_,r⟩ f w2 hk ⟨h27,hrl,hoo,hst,hos,hoa,d34,d03,d04,d13,d14,hx,hi,hlow⟩;simp only at h27 hrl hoo hst hos hoa hi hlow;simp only[dm6,p6,simprocAttr]at hk;obtain⟨e0,e5,e6,e26,_⟩:=hk;simp only[J5,B5,E4,simprocAttr,h27,e26];refine m8 (fun hc=>?_) (fun hc=>?_)
  ·have hlt:r<nx.length:=by simpa using hc
   have hrk:G8 nx.length (r:Int)=true:=C4.2 ⟨by omega,by omega⟩;have hrk2:G8 sn.length (r:Int)=true:=by rw[hi.slen];exact hrk
   obtain⟨hrlt,hrg⟩:=M4 hrk2;simp only[dp0]at hrlt hrg;have hins:=hos.inS hrlt;have hlds:=D4 (P:=prog) (t:=4) hos (k:=r) (x:=B3 sn r) (by rw[hrg];simp[List.getD,hrlt]) aj7;have hSs:=hos.isS;rcases dm5 (B3 sn r)with hbs|hbs
   case' inl=>
    have hbs':(!B3 sn r)=false:=by rw[hbs];rfl
    simp only[J5,O4,unV,z6,I6.val,simprocAttr,h27,e5,hins,hlds,hbs'];refine n9 [0,5,6,26,27] (σ:=List Int×List Int×List Bool×List Int) (fun s f w'=>A8 (i4 w) w' 3 (f 3) s.1∧A8 (i4 w) w' 3 (f 4) s.2.1∧A8 (i4 w) w' 4 u0 s.2.2.1∧A8 (i4 w) w' 3 u1 s.2.2.2 ∧
      Dj (f 3) (f 4)∧Dj u0 (f 3)∧Dj u0 (f 4)∧Dj u1 (f 3)∧Dj u1 (f 4)∧o7 w w'∧DI nx nx.length s.1 s.2.1 s.2.2.1 s.2.2.2∧∀r':Nat,r'<r+1→B3 s.2.2.1 r'=true)
     (fun s=>bY2 nx s.2.2.2 nx.length+(nx.length-s.1.length)) (out,[],sn,at_) ?_ ?_
    ·simp only[p6,simprocAttr];refine⟨hoo,hst,hos,hoa,d34,d03,d04,d13,d14,hx,hi,fun r' hr'=>?_⟩;by_cases hrr:r'=r
     ·subst hrr;exact hbs
     ·exact hlow r' (by omega)
   case' inr=>
    have hbs':(!B3 sn r)=true:=by rw[hbs];rfl
    obtain⟨w3,s1,s2,s3,s4⟩:=D9 (P:=prog) (t:=4) hos rfl (k:=r) hrlt (x:=.bool true) (y:=true) rfl rfl (z7 T7).choose_spec.1 (by rw[←C6 (z7 T7).choose_spec.1];exact aD8);have hx3:=hos.ext2 hx s3;have hoo3:=hoo.apart s3 d03.symm;have hst3:=hst.apart s3 d04.symm;have hoa3:=hoa.apart s3 hd01.symm;obtain⟨p1,u',w4,p2,p3,p4,p5⟩:=push (e:=112) ad2 rfl hst3 (x:=.int .i64 r) (y:=(r:Int)) rfl (by simp) (by simp) (b7 hx3);simp only[Value.cells]at p1 p2;have hx4:=hst3.ext2 hx3 p4;simp only[J5,O4,unV,z6,I6.val,simprocAttr,h27,e5,hins,hlds,hbs',s1,p1,p2];refine n9 [0,5,6,26,27] (σ:=List Int×List Int×List Bool×List Int) (fun s f w'=>A8 (i4 w) w' 3 (f 3) s.1∧A8 (i4 w) w' 3 (f 4) s.2.1∧A8 (i4 w) w' 4 u0 s.2.2.1∧A8 (i4 w) w' 3 u1 s.2.2.2 ∧
      Dj (f 3) (f 4)∧Dj u0 (f 3)∧Dj u0 (f 4)∧Dj u1 (f 3)∧Dj u1 (f 4)∧o7 w w'∧DI nx nx.length s.1 s.2.1 s.2.2.1 s.2.2.2∧∀r':Nat,r'<r+1→B3 s.2.2.1 r'=true)
     (fun s=>bY2 nx s.2.2.2 nx.length+(nx.length-s.1.length)) (out,[(r:Int)],sn.set r true,at_) ?_ ?_
    ·simp only[p6,simprocAttr];have hset:∀c,B3 (sn.set r true) c=if c=(r:Int)then true else B3 sn c:=fun c=>by
      have:=M8 (v:=true) (b:=c) hrk2;simpa only[dp0]using this
     refine⟨hoo3.apart p4 d34,by simpa using p3,s2.apart p4 d04,hoa3.apart p4 d14,d34.move hoo3 p5,d03,d04.move s2 p5,d13,d14.move hoa3 p5,hx4,?_,fun r' hr'=>?_⟩
     ·have:=hi.push hrk hbs (fun g hg=>by cases hg);simpa using this
     ·rw[hset];by_cases hrr:r'=r
      ·subst hrr;simp
      ·rw[if_neg (by omega)];exact hlow r' (by omega)
   all_goals
    rintro⟨out2,st2,sn2,at2⟩ f2 w5 hk2 ⟨hoo,hst,hos,hoa,d34,d03,d04,d13,d14,hx,hi,hlow⟩;simp only at hoo hst hos hoa hi hlow;simp only[dm6,p6,↓reduceIte,Nat.reduceEqDiff]at hk2;obtain⟨g0,g5,g6,g26,g27,_⟩:=hk2;rw[e0]at g0;rw[h27]at g27;rw[e5]at g5;rw[e6]at g6;rw[e26]at g26;have hSst:=hst.isS;have hlst:=hst.vlen;have hcnt:=hi.count;simp only[J5,O4,B5,E4,P8,simprocAttr,hSst,hlst];refine m8 (fun hc2=>?_) (fun hc2=>?_)
    ·rcases bH0 st2 with rfl|⟨s,a,rfl⟩
     ·simp at hc2
     rw[show(s++[a]).length=s.length+1 by simp]at hlst hcnt;have hw1:IntKind.i64.wrap (((s.length+1:Nat):Int)-1)=(s.length:Int):=by rw[L0 _ (by omega)];omega
     have hins2:=hst.inS (k:=s.length) (by simp);have hlda:=D4 (P:=prog) (t:=3) hst (k:=s.length) (x:=a) (by simp) F4;have hak:G8 nx.length a=true:=hi.ok (.inr (by simp));have hak':=C4.1 hak;have d0:decide (0≤a)=true:=by simpa using hak'.1
     obtain⟨hx1,hx2⟩:=al7 hak;have hat:=hi.atok a hak;have hSa:=hoa.isS;have hina:=hoa.inS (k:=a.toNat) (by rw[hi.alen];exact hx2);have hldk:=D4 (P:=prog) (t:=3) hoa (k:=a.toNat) (x:=ai at2 a) (by simp[ai,List.getD,hi.alen,hx2]) F4;obtain⟨k,hkk⟩:∃k:Nat,ai at2 a=k:=⟨(ai at2 a).toNat,by omega⟩;rw[hkk]at hldk hat;have hkl:k≤(C1 nx a).length:=by omega
     have hinr:=h3.inS hx2;obtain⟨x,hx3,hx4⟩:=h3.row hx1;have hxS:=hx3.isS;have hxn:=hx3.vlen;have hrl2:=hg.row_len (ap7 hak);simp only[J5,O4,B5,E4,z6,P8,I6.val,simprocAttr,hSst,hlst,hw1,hins2,hlda];refine C2 (fun w2=>w2=w5.drew) 12 (A9 [0,1,2,3,4,5,6,7,8,9,10,11]) ?_;have hxd:=hx.trans (o7.drew w5);have hldk':=D4 (P:=prog) (t:=3) (hoa.ext (o7.drew w5)) (k:=a.toNat) (x:=(k:Int)) (by rw[←hkk];simp[ai,List.getD,hi.alen,hx2]) F4;simp only[D1,A9,J5,O4,z6,simprocAttr,g6,hina,d0];refine⟨.int .i64 k,fun w2 e=>by subst e;exact hldk',?_⟩;simp only[D1,J5,O4,simprocAttr,g0];refine⟨vn,fun w2 e=>by subst e;exact F9 h1 (b7 hxd) T4,?_⟩;simp only[D1,J5,O4,z6,simprocAttr,hinr,d0];refine⟨x,fun w2 e=>by subst e;exact F9 hx4 (b7 hxd) R0,?_⟩;have hoo5:=hoo.ext (o7.drew w5);have hst5:=hst.ext (o7.drew w5);have hos5:=hos.ext (o7.drew w5);have hoa5:=hoa.ext (o7.drew w5);by_cases hke:k=(C1 nx a).length
     ·have hke':((k:Int)==((C1 nx a).length:Int))=true:=by simp[hke]
      obtain⟨p1,u',w6,p2,p3,p4,p5⟩:=push (e:=112) ad2 rfl hoo5 (x:=.int .i64 a) (y:=a) rfl (by omega) (by omega) (b7 hxd);simp only[Value.cells]at p1 p2;have hvc:=hst.vcap;simp only[dm7,dp3]at hvc;have hcap:decide ((s.length:Int)≤((vcap (f2 4):Nat):Int))=true:=by simp;omega
      simp only[D1,J5,O4,B5,E4,H8,P8,simprocAttr,hxS,hxn,hke',p1,p2,hSst,hlst,hw1,hcap];obtain⟨q1,q2⟩:=(hst5.apart p4 d34.symm).pre (k:=s.length) (by simp) (by simp);have q1':A8 (i4 w) w6 3 (reS (f2 4) 0 s.length 1) s:=by
       have h9:(s++[a]).take s.length=s:=dv9;rw[h9]at q1;exact q1
      have hmove:∀v:Value,Dj v (f2 4)→Dj v (reS (f2 4) 0 s.length 1):=fun v hd b hb hb2=>hd b hb ((q2 b).1 hb2);refine⟨(out2++[a],s,sn2,at2),?_,p3,q1',hos5.apart p4 d03,hoa5.apart p4 d13,(hmove _ (d34.symm.move hst5 p5).symm),d03.move hos5 p5,hmove _ d04,d13.move hoa5 p5,hmove _ d14,hoo5.ext2 hxd p4,hi.pop (by rw[hkk,hke]),hlow⟩;simp only[dm7,dp3];omega
     ·have hke':((k:Int)==((C1 nx a).length:Int))=false:=by simp;omega
      have hklt:k<(C1 nx a).length:=by omega
      simp only[D1,J5,O4,B5,E4,P8,simprocAttr,hxS,hxn,hke'];refine C2 (fun w2=>w2=w5.drew.drew) 11 (A9 [0,1,2,3,4,5,6,7,8,9,10]) ?_;have hxd2:=hxd.trans (o7.drew w5.drew);have hoo6:=hoo5.ext (o7.drew w5.drew);have hst6:=hst5.ext (o7.drew w5.drew);have hos6:=hos5.ext (o7.drew w5.drew);have hoa6:=hoa5.ext (o7.drew w5.drew);have hldk2:=D4 (P:=prog) (t:=3) hoa6 (k:=a.toNat) (x:=(k:Int)) (by rw[←hkk];simp[ai,List.getD,hi.alen,hx2]) F4;simp only[D1,A9,J5,O4,simprocAttr,g0];refine⟨vn,fun w2 e=>by subst e;exact F9 h1 (b7 hxd2) T4,?_⟩;simp only[D1,J5,O4,z6,simprocAttr,hinr,d0];refine⟨x,fun w2 e=>by subst e;exact F9 hx4 (b7 hxd2) R0,?_⟩;simp only[D1,J5,O4,z6,simprocAttr,g6,hina,d0];refine⟨.int .i64 k,fun w2 e=>by subst e;exact hldk2,?_⟩;have hinx:=hx3.inS hklt;have hldy:=M9 (P:=prog) (t:=3) hx3 (b7 hxd2) (dm4 hklt) F4;have hyk:(C1 nx a)[k]?=some (C1 nx a)[k]:=dm4 hklt;have hym:(C1 nx a)[k]∈C1 nx a:=dn3 hklt;generalize(C1 nx a)[k]=y at hldy hyk hym;have hyo:G8 nx.length y=true:=hg.ok _ (ap7 hak) y hym;have hyo2:G8 sn2.length y=true:=by rw[hi.slen];exact hyo
      obtain⟨hylt,hyg⟩:=M4 hyo2;have dy:decide (0≤y)=true:=by simpa using(C4.1 hyo).1
      have hwk:IntKind.i64.wrap ((k:Int)+1)=((k+1:Nat):Int):=B0 k (by omega);obtain⟨w7,t1,t2,t3,t4⟩:=D9 (P:=prog) (t:=3) hoa6 rfl (k:=a.toNat) (by rw[hi.alen];exact hx2) (x:=.int .i64 ((k+1:Nat):Int)) (y:=((k+1:Nat):Int)) rfl rfl (z7 ay5).choose_spec.1 (by rw[←C6 (z7 ay5).choose_spec.1];exact aQ3);have hx7:=hoa6.ext2 hxd2 t3;have hoo7:=hoo6.apart t3 d13.symm;have hst7:=hst6.apart t3 d14.symm;have hos7:=hos6.apart t3 hd01;have hiny:=hos7.inS hylt;have hldS:=D4 (P:=prog) (t:=4) hos7 (k:=y.toNat) (x:=B3 sn2 y) (by rw[hyg];simp[List.getD,hylt]) aj7;have hlf:=cg5 (nx:=nx) hi.alen hak hkk hklt;have hsa:B3 sn2 a=true:=(hi.mark a).2 (.inr (by simp));have hrk3:y∈C1 nx a:=hym;rcases dm5 (B3 sn2 y)with hby|hby
      ·have hby':(!B3 sn2 y)=false:=by rw[hby];rfl
       simp only[D1,J5,O4,B5,E4,unV,z6,I6.val,simprocAttr,hinx,hldy,g6,g5,hina,d0,hldk2,hwk,t1,hiny,dy,hldS,hby'];exact⟨(out2,s++[a],sn2,at2.set a.toNat ((k+1:Nat):Int)),by simp only[];omega,hoo7,hst7,hos7,t2,d34,d03,d04,d13,d14,hx7,hi.adv hak hkk hyk hby hsa,hlow⟩
      ·have hby':(!B3 sn2 y)=true:=by rw[hby];rfl
       obtain⟨w8,v1,v2,v3,v4⟩:=D9 (P:=prog) (t:=4) hos7 rfl (k:=y.toNat) hylt (x:=.bool true) (y:=true) rfl rfl (z7 T7).choose_spec.1 (by rw[←C6 (z7 T7).choose_spec.1];exact aD8);have hx8:=hos7.ext2 hx7 v3;have hoo8:=hoo7.apart v3 d03.symm;have hst8:=hst7.apart v3 d04.symm;have hoa8:=t2.apart v3 hd01.symm;obtain⟨p1,u',w9,p2,p3,p4,p5⟩:=push (e:=112) ad2 rfl hst8 (x:=.int .i64 y) (y:=y) rfl (by simp;omega) (by simp;omega) (b7 hx8);simp only[Value.cells]at p1 p2;simp only[D1,J5,O4,B5,E4,unV,z6,I6.val,simprocAttr,hinx,hldy,g6,g5,hina,d0,hldk2,hwk,t1,hiny,dy,hldS,hby',v1,p1,p2];refine⟨(out2,(s++[a])++[y],sn2.set y.toNat true,at2.set a.toNat ((k+1:Nat):Int)),by simp only[];omega,hoo8.apart p4 d34,p3,v2.apart p4 d04,hoa8.apart p4 d14,d34.move hoo8 p5,d03,d04.move v2 p5,d13,d14.move hoa8 p5,hst8.ext2 hx8 p4,?_,fun r' hr'=>?_⟩
       ·have hpu:=hi.push hyo hby fun g hgs=>by
         rcases do0.1 hgs with h9|h9
         ·exact .step ((List.pairwise_append.1 hi.path).2.2 g h9 a (by simp)) hym
         ·simp at h9;subst h9;exact Way.one hym
        refine hpu.adv hak hkk hyk ?_ (aF8 hyo2 hsa);rw[M8 hyo2,if_pos rfl]
       ·exact aF8 hyo2 (hlow r' hr')
    ·have hst0:st2=[]:=by
      simp at hc2;exact hc2
     subst hst0;simp only[J5,B5,E4,simprocAttr,g27];refine⟨(out2,sn2,at2,r+1),by simp only[];omega,by simp only[];rw[B0 r (by omega)],by simp only[];omega,hoo,hst,hos,hoa,d34,d03,d04,d13,d14,hx,hi,hlow⟩
  ·have hge:r=nx.length:=by simp at hc;omega
   subst hge;simp only[J5,simprocAttr];refine o6 results271 ?_;simp only[p6,simprocAttr];refine⟨⟨out,hoo,hi.fin fun b hb=>?_⟩,hx⟩;have hb':=C4.1 hb;have:=hlow b.toNat (by omega)
   rwa [show((b.toNat:Nat):Int)=b by omega]at this
theorem cR2(w:World):p7 prog 239 #[.pointer none] w fun u w'=>(u = .slice none 0 0∧w'=w):=by
 refine p8 [.pointer none] func239 rfl ?_;simp only[J5,O4,B5,simprocAttr];refine o6 results239 ?_;simp only[p6,simprocAttr];exact⟨by trivial,by trivial⟩
theorem cb6(pg:Value)(nx pv:List (List Int))(w:World)(hgr:GR (i4 w) pg nx pv)(hgg:aA1 nx.length (nx,pv))(hn5:nx.length≤5000):
  p7 prog 239 #[pg] w fun u w'=>((∃p,A8 (i4 w) w' 3 u p∧p.length=nx.length∧∀b,G8 nx.length b=true→aA5 nx b (ai p b))∧o7 w w'):=by
 have hgr':=hgr;have hg:D6 nx.length nx:=hgg.nx;have hgp:D6 nx.length pv:=hgg.pv;have hgp':D6 pv.length pv:=by rw[hgp.len];exact hgp
 have hplen:pv.length=nx.length:=hgp.len;obtain⟨gb,vn,vp,rfl,h1,h2,h3,h4⟩:=hgr;refine p8 [.pointer (some ⟨gb,0,none⟩)] func239 rfl ?_;have hld:=F9 (P:=prog) (t:=153) h1 (d7 _) T4;have hSn:=h3.isS;have hnn:=h3.vlen;obtain⟨u0,w0,hmk,ho0,hx0,hf0,_⟩:=mk (P:=prog) (w:=w) (h:=i4 w) ad2 ay5 (α:=Int) (y:=0) rfl (n:=nx.length) (by omega) (by omega) (d7 _);have hld0:=F9 (P:=prog) (t:=153) h1 (b7 hx0) T4;obtain⟨u1,w1,hmk1,ho1,hx1,hf1,_⟩:=mk (P:=prog) (w:=w0) (h:=i4 w) bn6 T7 (α:=Bool) (y:=false) rfl (n:=nx.length) (by omega) (by omega) (b7 hx0);have hx01:=hx0.trans hx1;have hd01:Dj u0 u1:=Dj.fresh ho0 hf1;simp only[J5,O4,B5,P8,simprocAttr,hld,hSn,hnn,hmk,hld0,hmk1];refine y5 (ce0 _ nx pv w1 (hgr'.mono (b7 hx01)) hg hn5) ?_;rintro u2 w2 ⟨⟨order,hoo,hord⟩,hx2⟩;have hx02:=hx01.trans hx2;have hoo2:=hoo.back hx01;have hS2:=hoo.isS;have hl2:=hoo.vlen;have hol:=hord.len;rw[hol]at hl2;have hnb:∀b,A4 u2 b→w1.heap.size≤b:=fun b hb=>by
  have:=hoo.free hb;simpa[i4]using this
 have hd02:Dj u0 u2:=Dj.fresh (ho0.ext hx1) hnb;have hd12:Dj u1 u2:=Dj.fresh ho1 hnb;have hwl:IntKind.i64.wrap ((nx.length:Int)-1)=(nx.length:Int)-1:=L0 _ (by omega);simp only[J5,O4,B5,E4,P8,simprocAttr,hS2,hl2,hwl];refine n9 [0,3,4,5] (σ:=List Bool×List Int×Nat) (fun s f w'=>f 6 = .int .i64 ((s.2.2:Int)-1)∧s.2.2≤nx.length∧A8 (i4 w) w' 4 u1 s.1∧A8 (i4 w) w' 3 u0 s.2.1∧A8 (i4 w) w' 3 u2 order∧o7 w w'∧PI nx nx.length order s.1 s.2.1 s.2.2)
  (fun s=>s.2.2) (List.replicate nx.length false,List.replicate nx.length 0,nx.length) ?_ ?_
 ·simp only[p6,simprocAttr];exact⟨by trivial,dn9 _,ho1.ext hx2,(ho0.ext hx1).ext hx2,hoo2,hx02,PI.start hord⟩
 ·rintro⟨sn,pt,k⟩ f w3 hk ⟨h6,hkl,hos,hop,hoo,hx,hi⟩;simp only at h6 hkl hos hop hi;simp only[dm6,p6,simprocAttr]at hk;obtain⟨e0,e3,e4,e5,_⟩:=hk;simp only[J5,B5,E4,simprocAttr,h6];refine m8 (fun hc=>?_) (fun hc=>?_)
  ·obtain⟨k,rfl⟩:∃j,k=j+1:=⟨k-1,by simp at hc;omega⟩;have hk1:((k+1:Nat):Int)-1=(k:Int):=by omega
   rw[hk1]at h6;have hklt:k<order.length:=by omega
   have hino:=hoo.inS hklt;have hldr:=D4 (P:=prog) (t:=3) hoo (dm4 hklt) F4;have hro:order[k]?=some order[k]:=dm4 hklt;generalize order[k]=r at hldr hro;have hrk:G8 nx.length r=true:=(hord.mem r).1 (do5 hro);have hrk2:G8 sn.length r=true:=by rw[hi.slen];exact hrk
   obtain⟨hrlt,hrg⟩:=M4 hrk2;have dr:decide (0≤r)=true:=by simpa using(C4.1 hrk).1
   have hins:=hos.inS hrlt;have hlds:=D4 (P:=prog) (t:=4) hos (k:=r.toNat) (x:=B3 sn r) (by rw[hrg];simp[List.getD,hrlt]) aj7;have hSs:=hos.isS;have hSo:=hoo.isS;have hwk:IntKind.i64.wrap ((k:Int)-1)=(k:Int)-1:=L0 _ (by omega);rcases dm5 (B3 sn r)with hbs|hbs
   ·simp only[J5,O4,B5,E4,z6,I6.val,simprocAttr,h6,e4,e5,hino,hldr,hins,dr,hlds,hbs,hwk];exact⟨(sn,pt,k),by simp only[];omega,by trivial,by simp only[];omega,hos,hop,hoo,hx,hi.old hro hbs⟩
   ·obtain⟨w4,s1,s2,s3,s4⟩:=D9 (P:=prog) (t:=4) hos rfl (k:=r.toNat) hrlt (x:=.bool true) (y:=true) rfl rfl (z7 T7).choose_spec.1 (by rw[←C6 (z7 T7).choose_spec.1];exact aD8);have hx4:=hos.ext2 hx s3;have hop4:=hop.apart s3 hd01;have hoo4:=hoo.apart s3 hd12.symm;have hldr4:=D4 (P:=prog) (t:=3) hoo4 hro F4;simp only[J5,O4,z6,I6.val,simprocAttr,h6,e4,e5,hino,hldr,hins,dr,hlds,hbs,s1];refine C2 (fun w2=>o7 w4.drew w2) 10 (A9 [0,1,2,3,4,5,6,7,8,9]) ?_;have hxd:=hx4.trans (o7.drew w4);have hoo5:=hoo4.ext (o7.drew w4);simp only[D1,A9,J5,O4,simprocAttr,e0];refine⟨vp,fun w2 e=>F9 h2 (b7 (hxd.trans e)) T4,?_⟩;simp only[D1,J5,O4,z6,simprocAttr,e4,e5,h6,hino];refine⟨.int .i64 r,fun w2 e=>D4 (hoo5.ext e) hro F4,?_⟩;obtain⟨vt,w5,hlit,hot,hxt,hft⟩:=lit (P:=prog) (w:=w4.drew) (h:=i4 w) (α:=Int) (xs:=[.int .i64 r]) (ys:=[r]) (parts:=#[(0,.int .i64 r)]) (n:=1) ad2 rfl (L7.2 rfl) (by simp[Value.cells]) rfl rfl (by simp) (by simp) (b7 hxd);have hos5:=s2.ext ((o7.drew w4).trans hxt);have hdst:Dj u1 vt:=Dj.fresh (s2.ext (o7.drew w4)) hft;have hsetr:∀c,B3 (sn.set r.toNat true) c=if c=r then true else B3 sn c:=fun c=>M8 hrk2;simp only[D1,J5,simprocAttr,hlit,F2];refine⟨hxt,?_⟩;refine y5 (bK9 (i4 w) vp u1 vt pv (sn.set r.toNat true) [r] w5 (b7 (hxd.trans hxt)) h4 hgp' hos5 hot hdst (by simp[hi.slen,hplen]) (fun a ha=>by simp at ha;subst ha;rw[hsetr,if_pos rfl]) (by omega) (by simp)) ?_;rintro u3 w6 ⟨td,sn',hot6,hos6,hds6,hm6,hmv6,hok⟩;have hxt4:=hxd.trans hxt;have hvtn:∀b,A4 vt b→w.heap.size≤b:=fun b hb=>by
     have:=hot.free hb;exact dz8 fun hlt=>by simp[i4,hlt]at this
    have hx6:o7 w w6:=p9.ext_of hxt4 hm6 fun b hb=>by
     rcases hb with hb|hb
     ·have:=hos5.free hb;exact dz8 fun hlt=>by simp[i4,hlt]at this
     ·exact hvtn b hb
    have hop5:=hop4.ext ((o7.drew w4).trans hxt);have hoo5':=hoo4.ext ((o7.drew w4).trans hxt);have hd0t:Dj u0 vt:=Dj.fresh (hop4.ext (o7.drew w4)) hft;have hd2t:Dj u2 vt:=Dj.fresh (hoo4.ext (o7.drew w4)) hft;have hop6:=hop5.mod hm6 fun b hb hb2=>hb2.elim (hd01 b hb) (hd0t b hb);have hoo6:=hoo5'.mod hm6 fun b hb hb2=>hb2.elim (fun h=>hd12 b h hb) (hd2t b hb);have hd0u3:Dj u0 u3:=hd0t.move hop5 hmv6;have hwalk:=hi.walk hord hg hgg.both hro hbs;have htd:∀b,b∈td↔ak8 nx r b:=fun b=>by rw[hok.via,hwalk]
    have hrtd:r∈td:=(htd r).2 (.refl r);have htl:=hok.size;simp only[dp3,dt9]at htl;have hsl:=hi.slen;obtain⟨x,l,rfl⟩:∃x l,td=x::l:=by
     cases td with
     | nil=>cases hrtd
     | cons x l=>exact⟨x,l,rfl⟩
    simp only[do7]at htl;simp only[J5,simprocAttr];refine y5 (cF0 u3 x l w6 (hot6.rw_ (b7 hx6)) (by omega)) ?_;rintro u4 w7 ⟨rfl,rfl⟩;obtain⟨mn1,mn2,mn3⟩:=cf0 l x;generalize l.foldl min x=m at mn1 mn2 mn3;have hS3:=hot6.isS;have hl3:=hot6.vlen;simp only[J5,O4,P8,simprocAttr,hS3,hl3];refine n9 [0,3,4,5,6,8,60,61] (σ:=List Int×Nat) (fun s f w'=>f 62 = .int .i64 s.2∧s.2≤(x::l).length∧A8 (i4 w) w' 3 u0 s.1∧A8 (i4 w) w' 4 u1 sn'∧A8 (i4 w) w' 3 u2 order∧A8 (i4 w) w' 3 u3 (x::l)∧o7 w w'∧s.1.length=nx.length ∧
      ∀b,G8 nx.length b=true→ai s.1 b=if b∈(x::l).take s.2 then m else ai pt b)
     (fun s=>(x::l).length-s.2) (pt,0) ?_ ?_
    ·simp only[p6,simprocAttr];exact⟨by trivial,dn5 _,hop6,hos6,hoo6,hot6,hx6,hi.plen,fun b _=>by simp⟩
    ·rintro⟨pt2,j⟩ f2 w8 hk2 ⟨h62,hjl,hop8,hos8,hoo8,hot8,hx8,hpl2,hpt2⟩;simp only at h62 hjl hop8 hpl2 hpt2;simp only[dm6,p6,↓reduceIte,Nat.reduceEqDiff]at hk2;obtain⟨g0,g3,g4,g5,g6,g8,g60,g61,_⟩:=hk2;rw[e0]at g0;rw[e3]at g3;rw[e4]at g4;rw[e5]at g5;rw[h6]at g6;simp only[J5,B5,E4,simprocAttr,h62,g61];refine m8 (fun hc2=>?_) (fun hc2=>?_)
     ·have hj:j<(x::l).length:=by simp only[dq8]at hc2;omega
      have hinj:=hot8.inS hj;have hlda:=D4 (P:=prog) (t:=3) hot8 (dm4 hj) F4;have htk:=dn2 hj;have ham:(x::l)[j]∈(x::l):=dn3 hj;generalize(x::l)[j]=a at hlda htk ham;have hak:G8 nx.length a=true:=bT7 hg ((htd a).1 ham).1 hrk;have hak':=C4.1 hak;have da:decide (0≤a)=true:=by simpa using hak'.1
      have hSp:=hop8.isS;have hinp:=hop8.inS (k:=a.toNat) (by omega);obtain⟨w9,t1,t2,t3,t4⟩:=D9 (P:=prog) (t:=3) hop8 rfl (k:=a.toNat) (by omega) (x:=.int .i64 m) (y:=m) rfl rfl (z7 ay5).choose_spec.1 (by rw[←C6 (z7 ay5).choose_spec.1];exact aQ3);simp only[J5,O4,B5,E4,z6,I6.val,simprocAttr,h62,g60,g3,g8,hinj,hlda,hinp,da,t1];refine⟨(pt2.set a.toNat m,j+1),by simp only[];omega,by simp only[];rw[B0 j (by simp at hj;omega)],by simp only[];omega,t2,hos8.apart t3 hd01.symm,hoo8.apart t3 hd02.symm,hot8.apart t3 hd0u3.symm,hop8.ext2 hx8 t3,by simp[hpl2],fun b hb=>?_⟩;simp only[];rw[aR1 hpl2 hak hb,htk];by_cases hba:b=a
      ·subst hba;simp
      ·rw[if_neg hba,hpt2 b hb];simp[hba]
     ·have hge:j=(x::l).length:=by
       simp only[dz9]at hc2;omega
      subst hge;rw[dn6]at hpt2;simp only[J5,B5,E4,simprocAttr,g6,hwk];have hmem:∀b,B3 sn' b=true↔B3 sn b=true∨ak8 nx r b:=fun b=>by
       rw[hok.mark,hsetr,htd];by_cases hbr:b=r
       ·subst hbr;simp[ak8.refl]
       ·simp[hbr]
      refine⟨(sn',pt2,k),by simp only[];omega,by trivial,by simp only[];omega,hos8,hop8,hoo8,hx8,hi.new hro (by rw[hok.len];simp[hi.slen]) hpl2 hmem (m:=m) ⟨(htd m).1 ?_,fun c hc=>?_⟩ fun b hb=>?_⟩
      ·rcases mn3 with h|h
       ·rw[h];simp
       ·exact dt4 _ h
      ·rcases do3.1 ((htd c).2 hc)with h|h
       ·rw[h];exact mn1
       ·exact mn2 c h
      ·have hbk:G8 nx.length b=true:=by
        have:=ao1 hb;rw[hok.len]at this;simpa[hi.slen]using this
       rw[hpt2 b hbk];by_cases hsb:B3 sn b=true
       ·rw[if_pos hsb,if_neg];intro hbt;have hrb:=(htd b).1 hbt;obtain⟨c,hc,hcb⟩:=(hi.mark b).1 hsb;rw[(hi.mark r).2 ⟨c,hc,hcb.trans hrb.symm⟩]at hbs;cases hbs
       ·rw[if_neg hsb,if_pos];rcases(hmem b).1 hb with h|h
        ·exact absurd h hsb
        ·exact(htd b).2 h
  ·have hge:k=0:=by simp at hc;omega
   subst hge;simp only[J5,O4,simprocAttr];refine o6 results239 ?_;simp only[p6,simprocAttr];obtain⟨q1,q2⟩:=hi.fin hord;rw[e3];exact⟨⟨pt,hop,q1,q2⟩,hx⟩
instance:A5 (Int×Int):=⟨fun p=>[.int .i64 p.1,.int .i64 p.2],fun h cs x=>by
 constructor
 ·rintro⟨c1,c2,rfl,h1,h2⟩;have e1:c1=[Value.int .i64 x.1]:=h1;have e2:c2=[Value.int .i64 x.2]:=h2;rw[e1,e2];rfl
 ·rintro rfl;exact⟨[.int .i64 x.1],[.int .i64 x.2],rfl,rfl,rfl⟩⟩
theorem K8.nil{α:Type}[A3 α](h:Hp)(w:World)(T T':TypeId):K8 h w T T' (.slice none 0 0) ([]:List Y7) ([]:List (List α)):=
 ⟨A8.nil _ _ _,rfl,fun i u xs h=>by simp at h,fun i j u u' _ h=>by simp at h,fun i u h=>by simp at h⟩
theorem K8.push{α:Type}[A3 α]{h:Hp}{w w':World}{T T':TypeId}{v v':Value}{us:List Y7}{xss:List (List α)}(hr:K8 h w T T' v us xss){u':Value}{xs:List α}(ho:A8 h w T' u' xs)(hd:∀b,A4 u' b→¬L3 v us b)
  (ho2:A8 h w' T v' (us++[⟨u'⟩])) (hm:p9 (A4 v) w w') (hmv:D7 w v v'):K8 h w' T T' v' (us++[⟨u'⟩]) (xss++[xs]):=by
 have hget:∀(j:Nat) (x:Y7),(us++[(⟨u'⟩:Y7)])[j]?=some x→(j=us.length∧x=⟨u'⟩)∨us[j]?=some x:=by
  intro j x hj;rcases dq4 j us.length with hlt|hge
  ·rw[dr5 hlt]at hj;exact .inr hj
  ·rw[dq9 hge]at hj;cases hq:j-us.length with
   | zero=>rw[hq]at hj;simp at hj;exact .inl ⟨by omega,hj.symm⟩
   | succ q=>rw[hq]at hj;simp at hj
 have hold:∀(j:Nat) (x:Y7),us[j]?=some x→∀b,A4 x.v b→b<w.heap.size∧¬A4 v b:=fun j x hj b hb=>⟨hr.lt (.inr ⟨x,do5 hj,hb⟩),hr.off j x hj b hb⟩;have hv':∀b,A4 v' b→A4 v b∨w.heap.size≤b:=hmv;refine⟨ho2,by simp[hr.len],?_,?_,?_⟩
 ·intro j x ys hj hy;rcases hget j x hj with⟨rfl,rfl⟩|hj'
  ·rw[hr.len,dq9 (dn9 _)]at hy;simp at hy;subst hy;exact ho.mod hm fun b hb hb2=>hd b hb (.inl hb2)
  ·have hlt:j<xss.length:=by rw[←hr.len];exact(dn0.1 hj').1
   rw[dr5 hlt]at hy;exact(hr.row j x ys hj' hy).mod hm fun b hb=>hr.off j x hj' b hb
 ·intro j k x y hjk hj hk b hb hb2;rcases hget j x hj with⟨rfl,rfl⟩|hj'<;>rcases hget k y hk with⟨rfl,rfl⟩|hk'
  ·exact hjk rfl
  ·exact hd b hb (.inr ⟨y,do5 hk',hb2⟩)
  ·exact hd b hb2 (.inr ⟨x,do5 hj',hb⟩)
  ·exact hr.apart j k x y hjk hj' hk' b hb hb2
 ·intro j x hj b hb hb2;rcases hget j x hj with⟨rfl,rfl⟩|hj'
  ·rcases hv' b hb2 with h1|h1
   ·exact hd b hb (.inl h1)
   ·have:=ho.lt hb;omega
  ·obtain⟨h1,h2⟩:=hold j x hj' b hb;rcases hv' b hb2 with h3|h3
   ·exact h2 h3
   ·omega
def X4(n:Nat)(l:List Int):List Bool:=(List.range n).map fun(b:Nat)=>l.contains (b:Int)
theorem U0(n:Nat)(l:List Int):(X4 n l).length=n:=by simp[X4]
theorem aC8{n:Nat}{l m:List Int}(h:∀x,x∈l↔x∈m):X4 n l=X4 n m:=by
 refine List.map_congr_left fun b _=>?_;rw[dz5,dp1,dp1];exact h _
theorem ch6(n:Nat):X4 n []=List.replicate n false:=by
 apply du0
 ·simp[X4]
 ·intro j h1 h2;simp[X4]
theorem aT1{n:Nat}(l:List Int){q:Nat}(hq:q<n):(X4 n l).set q true=X4 n ((q:Int)::l):=by
 apply du0
 ·simp[X4]
 ·intro j h1 h2;rw[List.getElem_set];simp only[X4,dv8,dA1];by_cases hjq:q=j
  ·subst hjq;simp
  ·rw[if_neg hjq,List.contains_cons];have:((j:Int)==(q:Int))=false:=by simp;omega
   rw[this,dx9]
theorem ch5{n:Nat}(l:List Int){q:Nat}(hq:q<n):(X4 n l)[q]?=some (l.contains (q:Int)):=by
 simp[X4,hq]
structure an9 (p:Pg) (i x y:Nat) (wy:Wy):Prop extends WyOk p i x y wy where
 real:wy.real=(b9 p).steps i
 live:(wy.live.length:Int)=wy.n
theorem U8{p:Pg}{i x y:Nat}(pt:aA8 p i x y):an9 p i x y (E2 (b9 p) i):=⟨ca7 pt,rfl,bn7 pt⟩
theorem aN9{p:Pg}{i x y:Nat}{wy:Wy}(h:WyOk p i x y wy){l:List Sp}(hl:∀t∈l,RgS x y t):∀t∈wy.pairs l,(0≤t.1∧t.1<wy.n)∧(0≤t.2∧t.2<wy.n):=by
 intro t ht;obtain⟨s,hs,rfl⟩:=dp7.1 ht;have h1:=hl s hs;refine⟨h.index_rg ?_,h.index_rg (.inr h1.2)⟩;rcases h1.1 with h2|h2
 ·exact .inl h2
 ·exact .inr (.inr h2)
theorem cu3{nx:List (List Int)}(hg:D6 nx.length nx):∀k,k<nx.length→0≤V0 (ac7 nx) (k:Nat)∧V0 (ac7 nx) (k:Nat)<(nx.length:Int):=by
 intro k hk;have:V0 (ac7 nx) (k:Nat)=((((List.range nx.length).find? fun b=>T2 nx (k:Nat) (b:Nat)&&T2 nx (b:Nat) (k:Nat)).getD 0:Nat):Int):=by
  unfold V0;rw[dp0,List.getD,dm4 (by simp[ac7,hk])];simp[ac7]
 rw[this];cases hf:(List.range nx.length).find? fun b=>T2 nx (k:Nat) (b:Nat)&&T2 nx (b:Nat) (k:Nat)with
 | none=>simp;omega
 | some q=>
  have:=List.mem_of_find?_eq_some hf;rw[dq2]at this;simp;omega
theorem av7{l:List Int}{k:Nat}(hk:k<l.length):V0 l (k:Nat)=l[k]:=by
 unfold V0;rw[dp0,List.getD,dm4 hk];rfl
theorem cs1{h:Hp}{v:Value}{l:List (Int×Int)}{w:World}(hv:R h v l)(hw:B4 h (i4 w)){k:Nat}{x:Int×Int}(hk:l[k]?=some x):(Instr.loadAt 128 (.pointer (some (G9 v (k*2))))).run prog w = .ok (.agg #[.int .i64 x.1,.int .i64 x.2]) w:=
 bY1 (P:=prog) (t:=128) hv hw hk cw9 cy5 bT0 bk7
theorem cz7{w:World}(a b:Int):∃c wz w',(Instr.alloc 128 true (.tuple #[])).run prog w = .ok (.pointer (some ⟨c,0,none⟩)) wz∧(Instr.storeAt 128 (.pointer (some ⟨c,0,none⟩)) (.agg #[.int .i64 a,.int .i64 b])).run prog wz = .ok () w'∧o7 w w'∧w'.heap[c]?=some (.cells #[.int .i64 a,.int .i64 b] 128 (0,0))∧w.heap.size≤c:=by
 obtain⟨h1,h2⟩:=aN3 (P:=prog) (w:=w) (T:=128) cz0 rfl (cs:=#[.int .i64 a,.int .i64 b]) rfl (by simp[Value.oneCell']);exact⟨_,_,_,h1,h2,o7.alloc _ _,dq7 w _,dn9 _⟩
theorem am1{w w':World}{c:Nat}{a b:Int}(h:w.heap[c]?=some (.cells #[.int .i64 a,.int .i64 b] 128 (0,0))){M:Nat→Prop}(hm:p9 M w w')(hc:¬M c):
  (Instr.loadAt 3 (.pointer (some ⟨c,0,none⟩))).run prog w' = .ok (.int .i64 a) w'∧(Instr.loadAt 3 (.pointer (some ⟨c,1,none⟩))).run prog w' = .ok (.int .i64 b) w':=by
 have h':=(hm.block c (dn1.1 h).1 hc).trans h;exact⟨E7 (i:=0) h' rfl F4,E7 (i:=1) h' rfl F4⟩
def ap4(part:List Int)(n:Int)(ps:List (Int×Int)):List Int:=V0 part 0::V0 part (n-1)::(ps.filter fun t=>!decide (V0 part t.1=V0 part t.2)).map fun t=>V0 part t.1
theorem bP9(part:List Int)(n:Int)(ps:List (Int×Int))(t:Int×Int)(x:Int):x∈ap4 part n (ps++[t])↔x∈ap4 part n ps∨(decide (V0 part t.1=V0 part t.2)=false∧x=V0 part t.1):=by
 unfold ap4;rw[du2,dp4];by_cases h:V0 part t.1=V0 part t.2
 ·simp[h]
 ·simp[h,or_assoc]
theorem cc0(a:Addr)(wy:Wy)(p:Pg)(i x y:Nat)(w:World)(ha:At (i4 w) a wy)(hr:F1 p)(hw:D3 p≤1000000)(hi:i<p.procs.length)(hok:an9 p i x y wy):
  p7 prog 196 #[.pointer (some a)] w fun u w'=>(R (i4 w') u wy.traps∧o7 w w'):=by
 refine p8 [.pointer (some a)] func196 rfl ?_;obtain⟨_,vr,_,_,hvr,_,ldw,sdw⟩:=ha.wy;have lw:=ldw w (d7 _);rw[hok.real]at hvr;have h200:=H2 hr.may;have hlen:=hok.part.ok.len;have hle':=hok.part.ok.le;have hn:=hok.n;have hsrg:=bk0 hr hw hi hok.part;have hsl:=aU5 hw hi;have hprg:=aN9 hok.toWyOk hsrg;have hpl:(wy.pairs ((b9 p).steps i)).length=((b9 p).steps i).length:=dn7 _;have hF:wy.traps=((List.range (ac7 (ai3 wy.n.toNat (wy.pairs ((b9 p).steps i))).1).length).filter fun(i':Nat)=>decide (V0 (ac7 (ai3 wy.n.toNat (wy.pairs ((b9 p).steps i))).1) (i':Int)=(i':Int)) && !(ap4 (ac7 (ai3 wy.n.toNat (wy.pairs ((b9 p).steps i))).1) wy.n (wy.pairs ((b9 p).steps i))).contains (i':Int)).map fun(i':Nat)=>((List.range (ac7 (ai3 wy.n.toNat (wy.pairs ((b9 p).steps i))).1).length).filter fun(j:Nat)=>decide (V0 (ac7 (ai3 wy.n.toNat (wy.pairs ((b9 p).steps i))).1) (j:Int)=(i':Int))).map fun(j:Nat)=>wy.place (j:Int):=by
  unfold Wy.traps;rw[hok.real];rfl
 simp only[n7,n8,simprocAttr,lw];refine y5 (bf3 a wy p i x y vr _ w ha hok.toWyOk h200 hvr hsrg (by omega)) ?_;rintro ug w2 ⟨hgr,hx2⟩;have hgraph:=af5 wy.n.toNat (wy.pairs ((b9 p).steps i));generalize hps:wy.pairs ((b9 p).steps i)=ps at hprg hpl hF hgr hgraph;have hgl:=hgraph.nx.len;simp only[n7,simprocAttr];refine y5 (cb6 ug _ _ w2 hgr (by rw[hgl];exact hgraph) (by omega)) ?_;rintro up w4 ⟨⟨q,hoq,hql,hqp⟩,hx4⟩;have hgood:D6 (ai3 wy.n.toNat ps).1.length (ai3 wy.n.toNat ps).1:=by rw[hgl];exact hgraph.nx
 have hpe:=cG1 hgood hql hqp;subst hpe;have hpok:=cu3 hgood;rw[hql,hgl]at hF;rw[hgl]at hql hpok;generalize ac7 (ai3 wy.n.toNat ps).1=part at hoq hF hpok hql;clear hqp hgood hgl hgraph hgr;have hx04:=hx2.trans hx4;have hup:R (i4 w4) up part:=hoq.rw_ (b7 hx4);have hSp:=hup.isS;have hnp:=hup.vlen;have lw4:=ldw w4 (b7 hx04);have hnn:wy.n=((wy.n.toNat:Nat):Int):=by omega
 have hN2:2≤wy.n.toNat:=by omega
 obtain⟨vo,w5,hmk,hoo,hx5,_,_⟩:=mk (P:=prog) (w:=w4) (h:=i4 w4) (α:=Bool) bn6 T7 (y:=false) rfl (n:=wy.n.toNat) (by omega) (by omega) (d7 _);rw[←hnn]at hmk;generalize hM:wy.n.toNat=M at hmk hoo hF hpok hql hN2;have hM2:wy.n=(M:Int):=by omega
 rw[←ch6]at hoo;have hp0:=hpok 0 (by omega);have hp1:=hpok (M-1) (by omega);rw[av7 (by omega)]at hp0 hp1;have hin0:=hup.inS (k:=0) (by omega);have hin1:=hup.inS (k:=M-1) (by omega);have ho0:=hoo.inS (k:=part[0].toNat) (by rw[U0];omega);have ho1:=hoo.inS (k:=part[M-1].toNat) (by rw[U0];omega);have hwn:IntKind.i64.wrap (wy.n-1)=((M-1:Nat):Int):=by rw[L0 _ (by omega)];omega
 have hoo5:=hoo.ext (o7.drew w5);obtain⟨w6,s1,ho6,hm6,_⟩:=D9 (P:=prog) (t:=4) hoo5 rfl (k:=part[0].toNat) (by rw[U0];omega) (x:=.bool true) (y:=true) rfl rfl (z7 T7).choose_spec.1 (by rw[←C6 (z7 T7).choose_spec.1];exact aD8);rw[aT1 _ (by omega)]at ho6;obtain⟨w7,s2,ho7,hm7,_⟩:=D9 (P:=prog) (t:=4) ho6 rfl (k:=part[M-1].toNat) (by rw[U0];omega) (x:=.bool true) (y:=true) rfl rfl (z7 T7).choose_spec.1 (by rw[←C6 (z7 T7).choose_spec.1];exact aD8);rw[aT1 _ (by omega)]at ho7;have hcm:X4 M [((part[M-1].toNat:Nat):Int),((part[0].toNat:Nat):Int)]=X4 M (ap4 part wy.n []):=by
  refine aC8 fun z=>?_;unfold ap4;have e0:V0 part 0=part[0]:=by have:=av7 (l:=part) (k:=0) (by omega);simpa using this
  have e1:V0 part (wy.n-1)=part[M-1]:=by rw[show wy.n-1=((M-1:Nat):Int) by omega,av7 (by omega)]
  rw[e0,e1];simp only[List.filter_nil,List.map_nil,do3,dr8,dy0];rw[show((part[M-1].toNat:Nat):Int)=part[M-1] by omega,show((part[0].toNat:Nat):Int)=part[0] by omega,or_comm]
 rw[hcm]at ho7;have hm57:p9 (A4 vo) w5.drew w7:=hm6.chain hm7 fun _ _ h=>h;have hst:∀w',p9 (A4 vo) w5.drew w'→B4 (i4 w4) (i4 w'):=fun w' h=>H7 (b7 (hx5.trans (o7.drew w5))) h fun b hb=>hoo.free hb;have k0:∀K f d w0,I2 prog (fun w'=>p9 (A4 vo) w5.drew w') (Instr.loadAt 3 (.pointer (some (G9 up 0)))) K f d w0=K (C5 f d (.int .i64 part[0])) w0:=fun K f d w0=>D5 (w0:=w5.drew) (p9.refl _) fun w' h=>aG9 hup (hst w' h) (k:=0) (by omega);have k1:∀K f d w0,I2 prog (fun w'=>p9 (A4 vo) w5.drew w') (Instr.loadAt 3 (.pointer (some (G9 up (M-1))))) K f d w0=K (C5 f d (.int .i64 part[M-1])) w0:=fun K f d w0=>D5 (w0:=w5.drew) (p9.refl _) fun w' h=>aG9 hup (hst w' h) (k:=M-1) (by omega);have swy:=sdw (fun w'=>p9 (A4 vo) w5.drew w') w5.drew (p9.refl _) fun w' h=>v8 (b7 hx04) (hst w' h);have hc0:part[0]=((part[0].toNat:Nat):Int):=by omega
 have hc1:part[M-1]=((part[M-1].toNat:Nat):Int):=by omega
 rw[hc0]at k0;rw[hc1]at k1;generalize part[0].toNat=P0 at k0 ho0 s1;generalize part[M-1].toNat=P1 at k1 ho1 s2;simp only[n7,n8,simprocAttr,lw4,hmk];refine C2 (fun w'=>p9 (A4 vo) w5.drew w') 17 (A9 [0,1,2,3,4,5,6,7,8,9,10,11,12,13,14,15,16]) ?_;simp only[D1,A9,n7,n8,z6,simprocAttr,k0,k1,swy,hin0,hin1,hwn,ho0,ho1,s1,s2,F2];refine⟨hm6,hm57,?_⟩;have hx47:o7 w4 w7:=p9.ext_of (hx5.trans (o7.drew w5)) hm57 fun b hb=>C0 (hoo.free hb);have hx07:=hx04.trans hx47;have lw7:=ldw w7 (b7 hx07);simp only[n7,simprocAttr,lw7];refine y5 (am3 a wy p i x y vr _ w7 (ha.mono (b7 hx07)) hok.toWyOk (A3.mono (b7 hx07) hvr) hsrg (by omega)) ?_;rw[hps];rintro uq w8 ⟨hoq8,hx8⟩;have ho8:=ho7.ext hx8;have huq:R (B6 w8 (A4 vo)) uq ps:=hoq8.flatRN fun b hb=>C9 fun hbu=>by
  have h1:=ho7.lt hbu;have h2:=C0 (hoq8.free hb);omega
 have hx48:=hx47.trans hx8;have hSq:=huq.isS;have hnq:=huq.vlen;simp only[n7,n8,simprocAttr,hSq,hnq];refine n9 [0,3,4,43,44] (σ:=Nat) (fun k f w'=>f 45 = .int .i64 k∧k≤ps.length∧A8 (i4 w4) w' 4 vo (X4 M (ap4 part wy.n (ps.take k)))∧p9 (A4 vo) w8 w') (fun k=>ps.length-k) 0 ?_ ?_
 ·simp only[p6,simprocAttr];exact⟨by trivial,dn5 _,by simpa using ho8,p9.refl _⟩
 rintro k f w9 hk ⟨h45,hkl,ho9,hm9⟩;simp only[dm6,p6,simprocAttr]at hk;obtain⟨e0,e3,e4,e43,e44,_⟩:=hk;have hx49:=ho8.ext2 hx48 hm9;simp only[n7,n8,simprocAttr,h45,e44];refine m8 (fun hc=>?_) (fun hc=>?_)
 ·have hlt:k<ps.length:=by simpa using hc
  have hin:=huq.inS hlt;have hld:=cs1 huq (D2 hm9) (dm4 hlt);have htk:=dn2 hlt;obtain⟨hr1,hr2⟩:=hprg _ (dn3 hlt);generalize ps[k]=t at hld htk hr1 hr2;obtain⟨z1,z2⟩:=t;simp only at hr1 hr2 hld;obtain⟨Q1,rfl⟩:∃Q:Nat,z1=(Q:Int):=⟨z1.toNat,by omega⟩;obtain⟨Q2,rfl⟩:∃Q:Nat,z2=(Q:Int):=⟨z2.toNat,by omega⟩;obtain⟨c,wz,w10,hal,hst10,hx10,hh10,hge10⟩:=cz7 (w:=w9) (Q1:Int) (Q2:Int);have hx410:=hx49.trans (hx10.trans (o7.drew w10));have hld2:=fun w' (h:o7 w10.drew w')=>am1 hh10 (M:=fun _=>False) ((o7.drew w10).trans h) id;have t0:∀K f d w0,I2 prog (fun w'=>o7 w10.drew w') (Instr.loadAt 3 (.pointer (some ⟨c,0,none⟩))) K f d w0=K (C5 f d (.int .i64 (Q1:Int))) w0:=fun K f d w0=>D5 (w0:=w10.drew) (p9.refl _) fun w' h=>(hld2 w' h).1;have t1:∀K f d w0,I2 prog (fun w'=>o7 w10.drew w') (Instr.loadAt 3 (.pointer (some ⟨c,1,none⟩))) K f d w0=K (C5 f d (.int .i64 (Q2:Int))) w0:=fun K f d w0=>D5 (w0:=w10.drew) (p9.refl _) fun w' h=>(hld2 w' h).2;have hl1:Q1<part.length:=by omega
  have hl2:Q2<part.length:=by omega
  have hi1:=hup.inS hl1;have hi2:=hup.inS hl2;have g1:=av7 hl1;have g2:=av7 hl2;have u1:∀K f d w0,I2 prog (fun w'=>o7 w10.drew w') (Instr.loadAt 3 (.pointer (some (G9 up Q1)))) K f d w0=K (C5 f d (.int .i64 (V0 part Q1))) w0:=fun K f d w0=>D5 (w0:=w10.drew) (p9.refl _) fun w' h=>by rw[g1];exact aG9 hup (b7 (hx410.trans h)) hl1
  have u2:∀K f d w0,I2 prog (fun w'=>o7 w10.drew w') (Instr.loadAt 3 (.pointer (some (G9 up Q2)))) K f d w0=K (C5 f d (.int .i64 (V0 part Q2))) w0:=fun K f d w0=>D5 (w0:=w10.drew) (p9.refl _) fun w' h=>by rw[g2];exact aG9 hup (b7 (hx410.trans h)) hl2
  have v1:(Instr.loadAt 3 (.pointer (some (G9 up Q1)))).run prog w10.drew = .ok (.int .i64 (V0 part Q1)) w10.drew:=by rw[g1];exact aG9 hup (b7 hx410) hl1
  have hpk:=hpok Q1 (by omega);have ho10:=ho9.ext (hx10.trans (o7.drew w10));have hlv:=(hld2 w10.drew (p9.refl _)).1;have hsn:=fun z=>bP9 part wy.n (ps.take k) ((Q1:Int),(Q2:Int)) z;rw[←htk]at hsn;simp only at hsn;generalize V0 part (Q1:Int)=A1 at u1 v1 hpk hsn;generalize V0 part (Q2:Int)=A2 at u2 hsn;obtain⟨A1,rfl⟩:∃Q:Nat,A1=(Q:Int):=⟨A1.toNat,by omega⟩;have hmod:p9 (A4 vo) w8 w10.drew:=hm9.chain (p9.up (hx10.trans (o7.drew w10))) fun _ _ h=>h;rcases dm5 (decide ((A1:Int)=A2))with hq|hq
  ·simp only[n7,n8,z6,simprocAttr,h45,e43,hin,hld,hal,hst10];refine C2 (fun w'=>o7 w10.drew w') 11 (A9 [0,1,2,3,4,5,6,7,8,9,10]) ?_;simp only[D1,A9,n7,n8,z6,simprocAttr,e3,t0,t1,u1,u2,hi1,hi2,hq,h45];refine⟨k+1,by omega,by rw[B0 k (by omega)],by omega,?_,hmod⟩;have:X4 M (ap4 part wy.n (ps.take (k+1)))=X4 M (ap4 part wy.n (ps.take k)):=aC8 fun z=>by rw[hsn z,hq];simp
   rw[this];exact ho10
  ·have hino:=ho10.inS (k:=A1) (by rw[U0];omega);obtain⟨w11,s1,ho11,hm11,_⟩:=D9 (P:=prog) (t:=4) ho10 rfl (k:=A1) (by rw[U0];omega) (x:=.bool true) (y:=true) rfl rfl (z7 T7).choose_spec.1 (by rw[←C6 (z7 T7).choose_spec.1];exact aD8);rw[aT1 _ (by omega)]at ho11;simp only[n7,n8,z6,simprocAttr,h45,e43,hin,hld,hal,hst10];refine C2 (fun w'=>o7 w10.drew w') 11 (A9 [0,1,2,3,4,5,6,7,8,9,10]) ?_;simp only[D1,A9,n7,n8,z6,simprocAttr,e3,t0,t1,u1,u2,hi1,hi2,hq];simp only[n7,n8,z6,simprocAttr,e4,h45,hlv,v1,hi1,hino,s1];refine⟨k+1,by omega,by rw[B0 k (by omega)],by omega,?_,hmod.chain hm11 fun _ _ h=>h⟩;have:X4 M (ap4 part wy.n (ps.take (k+1)))=X4 M ((A1:Int)::ap4 part wy.n (ps.take k)):=aC8 fun z=>by rw[hsn z,hq,do3];simp[or_comm]
   rw[this];exact ho11
 have hge:k=ps.length:=by simp at hc;omega
 subst hge;rw[dn6]at ho9;generalize hop:ap4 part wy.n ps=op at ho9 hF;have huo:R (i4 w9) vo (X4 M op):=ho9.rw_ (b7 hx49);have hx09:=hx04.trans hx49;have hup9:R (i4 w9) up part:=A3.mono (b7 hx49) hup;have ha9:=ha.mono (b7 hx09);generalize hPr:(fun(i':Nat)=>decide (V0 part (i':Int)=(i':Int)) && !op.contains (i':Int))=Pr at hF;generalize hRw:(fun(i':Nat)=>((List.range M).filter fun(j:Nat)=>decide (V0 part (j:Int)=(i':Int))).map fun(j:Nat)=>wy.place (j:Int))=Rw at hF;clear ho9 ho8 ho7 ho6 hoo5 hoo huq hoq8;simp only[i5,n8,simprocAttr,e3,hSp,hnp];refine n9 [0,3,4,68,69] (σ:=Nat×Value×List Y7) (fun s f w'=>f 70 = .int .i64 s.1∧f 7=s.2.1∧s.1≤M∧K8 (i4 w9) w' 112 3 s.2.1 s.2.2 (((List.range s.1).filter Pr).map Rw)∧o7 w9 w') (fun s=>M-s.1) (0,.slice none 0 0,[]) ?_ ?_
 ·simp only[p6,simprocAttr];exact⟨by trivial,by trivial,dn5 _,by simpa using K8.nil _ _ _ _,p9.refl _⟩
 rintro⟨m,v,us⟩ f2 w11 hk ⟨h70,h7,hml,hrows,hx11⟩;simp only at h70 h7 hml hrows;simp only[dm6,p6,simprocAttr]at hk;obtain⟨g0,g3,g4,g68,g69,_⟩:=hk;rw[e0]at g0;rw[e3]at g3;rw[e4]at g4;rw[hql]at g69;have hx011:=hx09.trans hx11;have hstep:∀q:Nat,((List.range (q+1)).filter Pr).map Rw=((List.range q).filter Pr).map Rw++if Pr q then[Rw q]else[]:=fun q=>by
  rw[dx4,du2,dp4]
  congr 1
  by_cases h:Pr q=true<;>simp[h]
 simp only[i5,n8,simprocAttr,h70,g69];refine m8 (fun hc=>?_) (fun hc=>?_);rotate_left
 ·have hge:m=M:=by simp at hc;omega
  subst hge;simp only[i5,simprocAttr,h7];refine o6 results196 ?_;simp only[p6,simprocAttr];exact⟨by rw[hF];exact hrows.ro (b7 hx11),hx011⟩
 have hlt:m<M:=by simpa using hc
 have hlm:m<part.length:=by omega
 have him:=hup.inS hlm;have hlm9:=fun w' (h:o7 w9 w')=>aG9 hup9 (b7 h) hlm;rw[←av7 hlm]at hlm9;have hpm:=hlm9 w11 hx11;have hPrm:Pr m=(decide (V0 part (m:Int)=(m:Int)) && !op.contains (m:Int)):=by rw[←hPr]
 have hskip:Pr m=false→∃s:Nat×Value×List Y7,M-s.1<M-m∧(Value.int .i64 (IntKind.i64.wrap ((m:Int)+1))) = .int .i64 s.1∧v=s.2.1∧s.1≤M∧K8 (i4 w9) w11 112 3 s.2.1 s.2.2 (((List.range s.1).filter Pr).map Rw)∧o7 w9 w11:=fun h=>by
  refine⟨(m+1,v,us),by simp only[];omega,by simp only[];rw[B0 m (by omega)],by trivial,by simp only[];omega,?_,hx11⟩;simp only[];rw[hstep,h,if_neg (by simp),dp6];exact hrows
 generalize hAm:V0 part (m:Int)=Am at hpm hPrm;rcases dm5 (decide (Am=(m:Int)))with q1|q1;rotate_left
 ·simp only[i5,n8,z6,simprocAttr,h70,h7,g3,him,hpm,q1];exact hskip (by rw[hPrm,q1];rfl)
 have hio:=huo.inS (k:=m) (by rw[U0];exact hlt);have hlo:=ldB huo (b7 hx11) (k:=m) (by rw[U0];exact hlt);have hgo:(X4 M op)[m]'(by rw[U0];exact hlt)=op.contains (m:Int):=by
  have:=ch5 op hlt;rw[dm4 (by rw[U0];exact hlt)]at this;exact do2 this
 rw[hgo]at hlo;rcases dm5 (op.contains (m:Int))with q2|q2
 ·simp only[i5,n8,z6,simprocAttr,h70,h7,g3,g4,him,hpm,q1,hio,hlo,q2];exact hskip (by rw[hPrm,q1,q2];rfl)
 have hPt:Pr m=true:=by rw[hPrm,q1,q2];rfl
 have hRm:Rw m=((List.range M).filter fun(j:Nat)=>decide (V0 part (j:Int)=(m:Int))).map fun(j:Nat)=>wy.place (j:Int):=by rw[←hRw]
 simp only[i5,n8,z6,simprocAttr,h70,g3,g4,him,hpm,q1,hio,hlo,q2,hSp,hnp];refine n9 [0,3,4,7,8,68,69,70,85,86] (σ:=Nat×Value) (fun s f w'=>f 87 = .int .i64 s.1∧f 9=s.2∧s.1≤M∧A8 (i4 w9) w' 3 s.2 (((List.range s.1).filter fun(j:Nat)=>decide (V0 part (j:Int)=(m:Int))).map fun(j:Nat)=>wy.place (j:Int))∧(∀b,A4 s.2 b→¬L3 v us b)∧K8 (i4 w9) w' 112 3 v us (((List.range m).filter Pr).map Rw)∧o7 w9 w') (fun s=>M-s.1) (0,.slice none 0 0) ?_ ?_
 ·simp only[p6,simprocAttr];exact⟨by trivial,by trivial,dn5 _,by simpa using A8.nil _ _ _,fun b hb=>absurd hb C7,hrows,hx11⟩
 rintro⟨j,ul⟩ f3 w12 hk ⟨h87,h9,hjl,hol,hdl,hrows12,hx12⟩;simp only at h87 h9 hjl hol hdl;simp only[dm6,p6,simprocAttr]at hk;obtain⟨r0,r3,r4,r7,r8,r68,r69,r70,r85,r86,_⟩:=hk;rw[hql]at r86;rw[g0]at r0;rw[g3]at r3;rw[h7]at r7;have hcnt:(((List.range j).filter fun(j:Nat)=>decide (V0 part (j:Int)=(m:Int))).map fun(j:Nat)=>wy.place (j:Int)).length≤j:=by
  rw[dn7];exact dn4 (dp2 _ _) (by simp)
 have hcnt2:us.length≤m:=by
  rw[hrows12.len,dn7];exact dn4 (dp2 _ _) (by simp)
 simp only[i5,n8,simprocAttr,h87,r86];refine m8 (fun hc=>?_) (fun hc=>?_)
 ·have hltj:j<M:=by simpa using hc
  have hlj:j<part.length:=by omega
  have hij:=hup.inS hlj;have hpj:=aG9 hup9 (b7 hx12) hlj;rw[←av7 hlj]at hpj;have hst2:(((List.range (j+1)).filter fun(j:Nat)=>decide (V0 part (j:Int)=(m:Int))).map fun(j:Nat)=>wy.place (j:Int))=(((List.range j).filter fun(j:Nat)=>decide (V0 part (j:Int)=(m:Int))).map fun(j:Nat)=>wy.place (j:Int))++if decide (V0 part (j:Int)=(m:Int))then[wy.place (j:Int)]else[]:=by
   rw[dx4,du2,dp4]
   congr 1
   cases h:decide (V0 part (j:Int)=(m:Int))<;>simp[h]
  generalize V0 part (j:Int)=Aj at hpj hst2;rcases dm5 (decide (Aj=(m:Int)))with q3|q3
  ·simp only[i5,n8,z6,simprocAttr,h87,r0,r3,r8,hij,hpj,q3];refine B1 (aa8 a wy p i x y (j:Int) w12 (ha9.mono (b7 hx12)) hok.toWyOk (by omega)) (fun w13 hx13=>?_);have hx913:=hx12.trans hx13;obtain⟨p1,ul',w14,p2,p3,p4,p5⟩:=push (e:=112) ad2 rfl (hol.ext hx13) (x:=.int .i64 (wy.place (j:Int))) (y:=wy.place (j:Int)) rfl (by omega) (by omega) (b7 hx913);simp only[Value.cells]at p1 p2;have hr13:=hrows12.ext hx13;have hr14:=hr13.mod p4 fun b hb hbl=>hdl b hbl hb;simp only[i5,n8,simprocAttr,h87,h9,p1,p2];refine⟨(j+1,ul'),by simp only[];omega,by simp only[];rw[B0 j (by omega)],by trivial,by simp only[];omega,?_,fun b hb hbr=>?_,hr14,(hol.ext hx13).ext2 hx913 p4⟩
   ·simp only[];rw[hst2,q3,if_pos rfl];exact p3
   ·rcases p5 b hb with h|h
    ·exact hdl b h hbr
    ·have:=hr13.lt hbr;omega
  ·simp only[i5,n8,z6,simprocAttr,h87,r3,r8,hij,hpj,q3];refine⟨(j+1,ul),by simp only[];omega,by simp only[];rw[B0 j (by omega)],h9,by simp only[];omega,?_,hdl,hrows12,hx12⟩;simp only[];rw[hst2,q3,if_neg (by simp),dp6];exact hol
 ·have hge:j=M:=by simp at hc;omega
  subst hge;rw[←hRm]at hol;obtain⟨p1,v',w13,p2,p3,p4,p5⟩:=push (e:=153) bR3 rfl hrows12.outer (x:=ul) (y:=(⟨ul⟩:Y7)) (by rw[D8 hol.isS];exact⟨rfl,W5 hol.isS⟩) (by omega) (by omega) (b7 hx12);simp only[i5,n8,simprocAttr,h9,r7,r70,h70,p1,p2];refine⟨(m+1,v',us++[⟨ul⟩]),by simp only[];omega,by simp only[];rw[B0 m (by omega)],by trivial,by simp only[];omega,?_,hrows12.outer.ext2 hx12 p4⟩;simp only[];rw[hstep,hPt,if_pos rfl];exact hrows12.push hol hdl p3 p4 p5
theorem bK1{p:Pg}{i x y:Nat}{wy:Wy}(hok:an9 p i x y wy):∃part op:List Int,wy.traps=((List.range part.length).filter fun(i':Nat)=>decide (V0 part (i':Int)=(i':Int)) && !op.contains (i':Int)).map (fun(i':Nat)=>((List.range part.length).filter fun(j:Nat)=>decide (V0 part (j:Int)=(i':Int))).map fun(j:Nat)=>wy.place (j:Int))∧(part.length:Int)=wy.n∧V0 part 0∈op∧V0 part (wy.n-1)∈op:=by
 refine⟨ac7 (ai3 wy.n.toNat (wy.pairs wy.real)).1,ap4 (ac7 (ai3 wy.n.toNat (wy.pairs wy.real)).1) wy.n (wy.pairs wy.real),rfl,?_,?_,?_⟩
 ·have h1:=(af5 wy.n.toNat (wy.pairs wy.real)).nx.len;have h2:=hok.n;have h3:=hok.part.ok.le;unfold ac7;rw[dn7,ds3,h1];omega
 ·simp[ap4]
 ·simp[ap4]
theorem bK2{p:Pg}{i x y:Nat}{wy:Wy}(hok:an9 p i x y wy):∀l∈wy.traps,∀id∈l,(x:Int)<id∧id≤(y:Int):=by
 obtain⟨part,op,e,hl,h0,h1⟩:=bK1 hok;intro l hm id hid;rw[e]at hm;obtain⟨k,hk,rfl⟩:=dp7.1 hm;obtain⟨j,hj,rfl⟩:=dp7.1 hid;rw[dr2,dq2]at hk hj;have hj2:=dm8 hj.2;have hkno:(k:Int)∉op:=by
  have:=hk.2;rw[do6]at this;intro hm;have h2:=dp1.2 hm;rw[h2]at this;simp at this
 have hn:=hok.n;have hle':=hok.part.ok.le;rw[hok.toWyOk.place];have hj0:j≠0:=fun e=>by
  subst e;apply hkno;rw[←hj2];simpa using h0
 have hjn:(j:Int)≠wy.n-1:=fun e=>by
  apply hkno;rw[←hj2,e];exact h1
 rw[if_neg (by omega),if_neg hjn];omega
theorem bt8{p:Pg}{i x y:Nat}{wy:Wy}(hok:an9 p i x y wy):(wy.traps.length:Int)≤wy.n∧∀l∈wy.traps,(l.length:Int)≤wy.n:=by
 obtain⟨part,op,e,hl,h0,h1⟩:=bK1 hok;rw[e];constructor
 ·rw[dn7];have:=dp2 (fun(i':Nat)=>decide (V0 part (i':Int)=(i':Int)) && !op.contains (i':Int)) (List.range part.length);rw[ds3]at this;omega
 ·intro l hm;obtain⟨k,hk,rfl⟩:=dp7.1 hm;rw[dn7];have:=dp2 (fun(j:Nat)=>decide (V0 part (j:Int)=(k:Int))) (List.range part.length);rw[ds3]at this;omega
theorem cI3{p:Pg}{i x y:Nat}{wy:Wy}(hok:an9 p i x y wy):∀t∈wy.virtual,RgS x y t:=by
 intro t ht;obtain⟨l,hl,ht⟩:=ds4.1 ht;obtain⟨id,hid,rfl⟩:=dp7.1 ht;exact⟨.inr (bK2 hok l hl id (dr2.1 hid).1),.inl rfl⟩
theorem cz8{p:Pg}{i x y:Nat}{wy:Wy}(hok:an9 p i x y wy)(h200:(b9 p).l.length≤200):wy.virtual.length≤202*202:=by
 obtain⟨h1,h2⟩:=bt8 hok;have hn:=hok.n;have hlen:=hok.part.ok.len;have:=U3 (fun l:List Int=>(l.filter fun id=>decide ((wy.s.it id).s.kind=10)).map fun id=>(⟨id,-1,3⟩:Sp)) 202 wy.traps fun l hl=>by
  rw[dn7];refine dn4 (dp2 _ _) ?_;have:=h2 l hl;omega
 refine dn4 this ?_;exact dv0 _ (by omega)
theorem aZ9(a:Addr)(wy:Wy)(p:Pg)(i x y:Nat)(w:World)(ha:At (i4 w) a wy)(hr:F1 p)(hw:D3 p≤1000000)(hi:i<p.procs.length)(hok:an9 p i x y wy):
  p7 prog 134 #[.pointer (some a)] w fun u w'=>(A8 (i4 w) w' 186 u wy.virtual∧o7 w w'):=by
 refine p8 [.pointer (some a)] func134 rfl ?_;obtain⟨vs,_,_,hvs,_,_,ldw,_⟩:=ha.wy;obtain⟨sh,rfl,has⟩:=Ptr.at_ hvs;have hss:At (i4 w) sh (b9 p):=by rw[←hok.s];exact has
 obtain⟨vL,_,_,hL,_,_,_,lds,_⟩:=hss.sh;have h200:=H2 hr.may;have hlen:=hok.part.ok.len;have hn:=hok.n;have hrg:=bK2 hok;obtain⟨htl,htl2⟩:=bt8 hok;have hF:wy.virtual=wy.traps.flatMap fun l=>(l.filter fun id=>decide (((b9 p).it id).s.kind=10)).map fun id=>(⟨id,-1,3⟩:Sp):=by unfold Wy.virtual;rw[hok.s]
 simp only[i5,n8,simprocAttr];refine y5 (cc0 a wy p i x y w ha hr hw hi hok) ?_;rintro ut w2 ⟨hut,hx2⟩;generalize wy.traps=tr at hut hF hrg htl htl2;have hSt:=hut.isS;have hnt:=hut.vlen;generalize hB:(fun l:List Int=>(l.filter fun id=>decide (((b9 p).it id).s.kind=10)).map fun id=>(⟨id,-1,3⟩:Sp))=B at hF;have hBl:∀l∈tr,(B l).length≤202:=fun l hl=>by
  rw[←hB,dn7];refine dn4 (dp2 _ _) ?_;have:=htl2 l hl;omega
 have hbt:∀k,((tr.take k).flatMap B).length≤202*202:=fun k=>by
  refine dn4 (U3 B 202 _ fun l hl=>hBl l (dw4 hl)) (dv0 _ ?_);rw[dn8];omega
 simp only[i5,n8,simprocAttr,hSt,hnt];refine n9 [0,9,10] (σ:=Nat×Value) (fun s f w'=>f 11 = .int .i64 s.1∧f 3=s.2∧s.1≤tr.length∧A8 (i4 w2) w' 186 s.2 ((tr.take s.1).flatMap B)∧o7 w2 w') (fun s=>tr.length-s.1) (0,.slice none 0 0) ?_ ?_
 ·simp only[p6,simprocAttr];exact⟨by trivial,by trivial,dn5 _,by simpa using A8.nil _ _ _,p9.refl _⟩
 rintro⟨j,u⟩ f w5 hk ⟨h11,h3,hjl,ho,hx5⟩;simp only at h11 h3 hjl ho;simp only[dm6,p6,simprocAttr]at hk;obtain⟨e0,e9,e10,_⟩:=hk;have hpre:=hbt j;simp only[i5,n8,simprocAttr,h11,e10];refine m8 (fun hc=>?_) (fun hc=>?_);rotate_left
 ·have hge:j=tr.length:=by simp at hc;omega
  subst hge;rw[dn6]at ho;simp only[i5,simprocAttr,h3];refine o6 results134 ?_;simp only[p6,simprocAttr];exact⟨by rw[hF];exact ho.backN hx2,hx2.trans hx5⟩
 have hlt:j<tr.length:=by simpa using hc
 have hin:=hut.inS hlt;obtain⟨ul,hul,hcl⟩:=R.row hut (dm4 hlt);have hld:=F9 (P:=prog) (t:=112) hcl (b7 hx5) R0;have htk:=I7 B tr hlt;have hrgl:=hrg _ (dn3 hlt);have hll:=htl2 _ (dn3 hlt);generalize tr[j]=l at hul htk hrgl hll;have hBl2:B l=(l.filter fun id=>decide (((b9 p).it id).s.kind=10)).map fun id=>(⟨id,-1,3⟩:Sp):=by rw[←hB]
 generalize(tr.take j).flatMap B=pre at ho hpre htk;have hSl:=hul.isS;have hnl:=hul.vlen;simp only[i5,n8,z6,simprocAttr,h11,e9,hin,hld,hSl,hnl];refine n9 [0,9,10,11,15,16] (σ:=Nat×Value) (fun s f w'=>f 17 = .int .i64 s.1∧f 3=s.2∧s.1≤l.length∧A8 (i4 w2) w' 186 s.2 (pre++((l.take s.1).filter fun id=>decide (((b9 p).it id).s.kind=10)).map fun id=>(⟨id,-1,3⟩:Sp))∧o7 w2 w') (fun s=>l.length-s.1) (0,u) ?_ ?_
 ·simp only[p6,simprocAttr];exact⟨by trivial,h3,dn5 _,by simpa using ho,hx5⟩
 rintro⟨k,u6⟩ f6 w6 hk ⟨h17,h36,hkl,ho6,hx6⟩;simp only at h17 h36 hkl ho6;simp only[dm6,p6,simprocAttr]at hk;obtain⟨q0,q9,q10,q11,q15,q16,_⟩:=hk;rw[e0]at q0;have hx06:=hx2.trans hx6;have hcnt:((l.take k).filter fun id=>decide (((b9 p).it id).s.kind=10)).length≤k:=dn4 (dp2 _ _) (by rw[dn8];omega);simp only[i5,n8,simprocAttr,h17,q16];refine m8 (fun hc=>?_) (fun hc=>?_);rotate_left
 ·have hge:k=l.length:=by simp at hc;omega
  subst hge;rw[dn6,←hBl2]at ho6;simp only[i5,n8,simprocAttr,q11,h11];refine⟨(j+1,u6),by simp only[];omega,by simp only[];rw[B0 j (by omega)],h36,by simp only[];omega,?_,hx6⟩;simp only[];rw[htk];exact ho6
 have hlt6:k<l.length:=by simpa using hc
 clear hin hld;have hin:=hul.inS hlt6;have hld:=aG9 hul (b7 hx6) hlt6;have hid:=hrgl _ (dn3 hlt6);have htk6:((l.take (k+1)).filter fun id=>decide (((b9 p).it id).s.kind=10)).map (fun id=>(⟨id,-1,3⟩:Sp))=((l.take k).filter fun id=>decide (((b9 p).it id).s.kind=10)).map (fun id=>(⟨id,-1,3⟩:Sp))++if decide (((b9 p).it l[k]).s.kind=10)then[⟨l[k],-1,3⟩]else[]:=by
  rw[dn2 hlt6,du2,dp4]
  congr 1
  cases h:decide (((b9 p).it l[k]).s.kind=10)<;>simp[h]
 generalize l[k]=id at hld hid htk6;obtain⟨_,_,hget⟩:=hok.part.at_ id hid.1 hid.2;have lw6:=ldw w6 (b7 hx06);have ls6:=lds w6 (b7 hx06);obtain⟨hats,_,_⟩:=(hL.at_ hget).it;obtain⟨_,_,_,_,_,_,_,_,_,ldt,_⟩:=hats.st;have lt6:=ldt w6 (b7 hx06);have hz:A3.sz It=17:=rfl;rw[hz]at lt6;have hltL:=(dn0.1 hget).1;have hinL:=hL.inS hltL;have hwid:IntKind.i64.wrap (id-1)=(((id-1).toNat:Nat):Int):=by rw[L0 _ (by omega)];omega
 generalize(id-1).toNat=qq at lt6 hinL hwid;generalize((b9 p).it id).s.kind=kk at lt6 htk6;rcases dm5 (decide (kk=10))with hq|hq
 ·obtain⟨p1,u7,w7,p2,p3,p4,p5⟩:=push (e:=144) bj5 rfl ho6 (x:=.agg (A5.cells (⟨id,-1,3⟩:Sp)).toArray) (y:=⟨id,-1,3⟩) (bD0 _) (by simp only[dm7,dn7];omega) (by simp only[dm7,dn7];omega) (b7 hx6);simp only[i5,n8,z6,simprocAttr,h17,h36,q0,q15,hin,hld,lw6,ls6,hwid,hinL,lt6,hq,ah7,p1,p2];refine⟨(k+1,u7),by simp only[];omega,by simp only[];rw[B0 k (by omega)],by trivial,by simp only[];omega,?_,ho6.ext2 hx6 p4⟩;simp only[];rw[htk6,hq,if_pos rfl,←do8];exact p3
 ·simp only[i5,n8,z6,simprocAttr,h17,h36,q0,q15,hin,hld,lw6,ls6,hwid,hinL,lt6,hq];refine⟨(k+1,u6),by simp only[];omega,by simp only[];rw[B0 k (by omega)],by trivial,by simp only[];omega,?_,hx6⟩;simp only[];rw[htk6,hq,if_neg (by simp),dp6];exact ho6
theorem bZ2{x y:Nat}(hy:y≤1000000){t:Sp}(h:RgS x y t):plc t.src∧plc t.dst:=
 ⟨by rcases h.1 with h|h<;>unfold plc<;>omega,bQ8 hy h.2⟩
theorem cV5{p:Pg}{i x y:Nat}(pt:aA8 p i x y):y≤1000000:=dn4 pt.ok.len pt.ok.fit
theorem cz9{p:Pg}{i x y:Nat}{wy:Wy}(hr:F1 p)(hw:D3 p≤1000000)(hi:i<p.procs.length)(hok:an9 p i x y wy):∀t∈wy.virtual++wy.real,RgS x y t:=by
 intro t ht;rcases do0.1 ht with ht|ht
 ·exact cI3 hok t ht
 ·rw[hok.real]at ht;exact bk0 hr hw hi hok.part t ht
theorem bA7{p:Pg}{i x y:Nat}{wy:Wy}(hr:F1 p)(hw:D3 p≤1000000)(hi:i<p.procs.length)(hok:an9 p i x y wy):wy.virtual.length+wy.real.length≤1000000:=by
 have h1:=cz8 hok (H2 hr.may);have h2:=aU5 hw hi;rw[hok.real];omega
theorem bw4{p:Pg}{i x y:Nat}{wy:Wy}(hr:F1 p)(hw:D3 p≤1000000)(hi:i<p.procs.length)(hok:an9 p i x y wy):∀t∈wy.data,RgS x y t:=fun t ht=>cz9 hr hw hi hok t (aK5 ht)
theorem aL7{p:Pg}{i x y:Nat}{wy:Wy}(hr:F1 p)(hw:D3 p≤1000000)(hi:i<p.procs.length)(hok:an9 p i x y wy):wy.data.length≤1000000:=by
 have h:=bA7 hr hw hi hok;refine dn4 (aK4 _) ?_;rw[dm7];exact h
theorem bB1(a:Addr)(wy:Wy)(p:Pg)(i x y:Nat)(w:World)(ha:At (i4 w) a wy)(hr:F1 p)(hw:D3 p≤1000000)(hi:i<p.procs.length)(hok:an9 p i x y wy):
  p7 prog 83 #[.pointer (some a)] w fun u w'=>(A8 (i4 w) w' 186 u wy.data∧o7 w w'):=by
 refine p8 [.pointer (some a)] func83 rfl ?_;obtain⟨_,vr,_,_,hvr,_,ldw,sdw⟩:=ha.wy;obtain⟨_,_,_,sr,_⟩:=sdw (fun w'=>o7 w.drew w') w.drew (p9.refl _) fun w' h=>b7 ((o7.drew w).trans h);have hlen:=bA7 hr hw hi hok;have hrg:=cz9 hr hw hi hok;have hy:=cV5 hok.part;simp only[i5,n8,simprocAttr];refine C2 (fun w'=>o7 w.drew w') 6 (A9 [0,2,3,4,5,1]) ?_;simp only[D1,A9,i5,n8,simprocAttr,sr];refine y5 (aZ9 a wy p i x y w.drew (ha.mono (b7 (o7.drew w))) hr hw hi hok) ?_;rintro u w2 ⟨ho,hx2⟩;refine⟨hx2,?_⟩;obtain⟨u3,w3,p1,p2,p3,p4⟩:=af6 (P:=prog) (t:=144) (e:=144) bj5 rfl ho (A3.mono (b7 (o7.drew w)) hvr) (by omega) (by omega) (b7 hx2);simp only[D1,i5,simprocAttr,p1];refine y5 (av9 p2 (by simp only[dm7];omega) (b7 (ho.ext2 hx2 p3)) fun t ht=>bZ2 hy (hrg t ht)) ?_;rintro u4 w4 ⟨ho4,hm4,_⟩;simp only[i5,simprocAttr];refine o6 results83 ?_;simp only[p6,simprocAttr];exact⟨ho4.backN (o7.drew w),(o7.drew w).trans (p2.ext2 (ho.ext2 hx2 p3) hm4)⟩
theorem cm2{p:Pg}{i x y:Nat}{wy:Wy}(hr:F1 p)(hw:D3 p≤1000000)(hi:i<p.procs.length)(hok:an9 p i x y wy):∀t∈wy.virtual++wy.real++[⟨0,-1,2⟩]++((b9 p).of i).flatMap U5,RgS x y t:=by
 intro t ht;rcases do0.1 ht with ht|ht
 ·rcases do0.1 ht with ht|ht
  ·exact cz9 hr hw hi hok t ht
  ·obtain rfl:=dp5.1 ht;exact⟨.inl rfl,.inl rfl⟩
 ·obtain⟨it,hit,ht⟩:=ds4.1 ht;unfold U5 at ht;split at ht
  ·obtain rfl:=dp5.1 ht;exact⟨.inr (hok.part.ids it hit),hok.part.next it hit⟩
  ·simp at ht
theorem bg0(it:It):(U5 it).length≤1:=by
 unfold U5;split<;>simp
theorem bT9(a:Addr)(wy:Wy)(p:Pg)(i x y:Nat)(w:World)(ha:At (i4 w) a wy)(hr:F1 p)(hw:D3 p≤1000000)(hi:i<p.procs.length)(hok:an9 p i x y wy):
  p7 prog 107 #[.pointer (some a)] w fun u w'=>(A8 (i4 w) w' 186 u wy.aug∧o7 w w'):=by
 refine p8 [.pointer (some a)] func107 rfl ?_;obtain⟨vs,vr,_,hvs,hvr,_,_,sdw⟩:=ha.wy;obtain⟨sh,rfl,has⟩:=Ptr.at_ hvs;have hss:At (i4 w) sh (b9 p):=by rw[←hok.s];exact has
 obtain⟨_,_,_,sr,_⟩:=sdw (fun w'=>o7 w.drew w') w.drew (p9.refl _) fun w' h=>b7 ((o7.drew w).trans h);have hlen:=bA7 hr hw hi hok;have hrg:=cm2 hr hw hi hok;have hy:=cV5 hok.part;have hF:wy.aug=aq2 (wy.virtual++wy.real++[⟨0,-1,2⟩]++((b9 p).of i).flatMap U5):=by unfold Wy.aug;rw[hok.s,hok.proc]
 simp only[i5,n8,simprocAttr];refine C2 (fun w'=>o7 w.drew w') 6 (A9 [0,2,3,4,5,1]) ?_;simp only[D1,A9,i5,n8,simprocAttr,sr];refine y5 (aZ9 a wy p i x y w.drew (ha.mono (b7 (o7.drew w))) hr hw hi hok) ?_;rintro u w2 ⟨ho,hx2⟩;refine⟨hx2,?_⟩;obtain⟨u3,w3,p1,p2,p3,p4⟩:=af6 (P:=prog) (t:=144) (e:=144) bj5 rfl ho (A3.mono (b7 (o7.drew w)) hvr) (by omega) (by omega) (b7 hx2);have hx3:=ho.ext2 hx2 p3;obtain⟨q1,u4,w4,q2,q3,q4,q5⟩:=push (e:=144) bj5 rfl p2 (x:=.agg (A5.cells (⟨0,-1,2⟩:Sp)).toArray) (y:=⟨0,-1,2⟩) (bD0 _) (by simp only[dm7];omega) (by simp only[dm7];omega) (b7 hx3);have hx4:=(o7.drew w).trans (p2.ext2 hx3 q4);have ho4:=q3.backN (o7.drew w);have hbase:(wy.virtual++wy.real++[(⟨0,-1,2⟩:Sp)]).length≤1000001:=by simp only[dm7,dp3];omega
 generalize wy.virtual++wy.real++[(⟨0,-1,2⟩:Sp)]=base at ho4 hF hrg hbase;obtain⟨z1,z2,_,_,_⟩:=sdw (fun w'=>o7 w4.drew w') w4.drew (p9.refl _) fun w' h=>b7 (hx4.trans ((o7.drew w4).trans h));simp only[D1,i5,simprocAttr,p1,ah7,q1,q2];refine C2 (fun w'=>o7 w4.drew w') 11 (A9 [0,1,2,3,4,5,6,7,10,8,9]) ?_;simp only[D1,A9,i5,n8,simprocAttr,z1,z2];have hx4d:=hx4.trans (o7.drew w4);rw[hok.proc];refine y5 (aD6 (i4 w) sh (b9 p) i x y w4.drew hss (b7 hx4d) hok.part.ok) ?_;rintro ui w5 ⟨hui,hx5⟩;refine⟨hx5,?_⟩;have hS2:=hui.isS;have hn2:=hui.vlen;have hil:=(aY0 p hw i hi).2;generalize hl:(b9 p).of i=l at hui hF hrg hn2 hil;have hx05:=hx4d.trans hx5;have ho5:=ho4.ext ((o7.drew w4).trans hx5);have hbt:∀k,((l.take k).flatMap U5).length≤400000:=fun k=>by
  refine dn4 (U3 U5 1 _ fun x _=>bg0 x) ?_;rw[dn8];omega
 simp only[D1,i5,n8,simprocAttr,hS2,hn2];refine n9 [0,25,26] (σ:=Nat×Value) (fun s f w'=>f 27 = .int .i64 s.1∧f 3=s.2∧s.1≤l.length∧A8 (i4 w) w' 186 s.2 (base++(l.take s.1).flatMap U5)∧o7 w w') (fun s=>l.length-s.1) (0,u4) ?_ ?_
 ·simp only[p6,simprocAttr];exact⟨by trivial,by trivial,dn5 _,by simpa using ho5,hx05⟩
 rintro⟨j,u⟩ f w6 hk ⟨h27,h3,hjl,ho,hx6⟩;simp only at h27 h3 hjl ho;simp only[dm6,p6,simprocAttr]at hk;obtain⟨e0,e25,e26,_⟩:=hk;have hpre:=hbt j;simp only[i5,n8,simprocAttr,h27,e26];refine m8 (fun hc=>?_) (fun hc=>?_);rotate_left
 ·have hge:j=l.length:=by simp at hc;omega
  subst hge;rw[dn6]at ho hpre;simp only[i5,simprocAttr,h3];refine y5 (av9 ho (by simp only[dm7];omega) (b7 hx6) fun t ht=>bZ2 hy (hrg t ht)) ?_;rintro u6 w7 ⟨ho6,hm6,_⟩;simp only[i5,simprocAttr];refine o6 results107 ?_;simp only[p6,simprocAttr];exact⟨by rw[hF];exact ho6,ho.ext2 hx6 hm6⟩
 have hlt:j<l.length:=by simpa using hc
 have hin:=hui.inS hlt;obtain⟨sv,hsv,hld⟩:=F0 (P:=prog) (t:=121) hui (b7 hx6) (dm4 hlt) aa4 aa5 Y5 I5;rw[I5]at hld;have htk:=I7 U5 l hlt;generalize l[j]=it at hsv htk;obtain⟨c,wz,w7,hal,hst,hx7,hati⟩:=aG3 (w:=w6) (A4 u) hsv (fun b hb=>ho.lt hb);obtain⟨us,hus,hats,ldI,_⟩:=J6.it hsv hati;obtain⟨_,_,_,_,_,_,_,_,_,_,_,ldt,_⟩:=J6.st hus hats;have hx67:=hx6.trans hx7;have k1:=ldt w7 (B8 _ _);have k2:=ldI w7 (B8 _ _);have hjt:(it.s.kind=7∨it.s.kind=8∨it.s.kind=9∨it.s.kind=10)→U5 it=[⟨it.s.id,it.next,2⟩]:=fun h=>by unfold U5;rw[if_pos h]
 have hpl:(base++(l.take j).flatMap U5).length≤2000000:=by rw[dm7];omega
 obtain⟨p1,u7,w8,p2,p3,p4,p5⟩:=push (e:=144) bj5 rfl (ho.ext hx7) (x:=.agg (A5.cells (⟨it.s.id,it.next,2⟩:Sp)).toArray) (y:=⟨it.s.id,it.next,2⟩) (bD0 _) (by omega) (by omega) (b7 hx67);rcases dm5 (decide (it.s.kind=7))with k7|k7
 ·simp only[i5,n8,z6,simprocAttr,h27,h3,e25,hin,hld,hal,hst,k1,k2,k7,ah7,p1,p2];refine⟨(j+1,u7),by simp only[];omega,by simp only[];rw[B0 j (by omega)],by trivial,by simp only[];omega,?_,(ho.ext hx7).ext2 hx67 p4⟩;simp only[];rw[htk,hjt (by have:=dm8 k7;omega),←do8];exact p3
 rcases dm5 (decide (it.s.kind=8))with k8|k8
 ·simp only[i5,n8,z6,simprocAttr,h27,h3,e25,hin,hld,hal,hst,k1,k2,k7,k8,ah7,p1,p2];refine⟨(j+1,u7),by simp only[];omega,by simp only[];rw[B0 j (by omega)],by trivial,by simp only[];omega,?_,(ho.ext hx7).ext2 hx67 p4⟩;simp only[];rw[htk,hjt (by have:=dm8 k8;omega),←do8];exact p3
 rcases dm5 (decide (it.s.kind=9))with k9|k9
 ·simp only[i5,n8,z6,simprocAttr,h27,h3,e25,hin,hld,hal,hst,k1,k2,k7,k8,k9,ah7,p1,p2];refine⟨(j+1,u7),by simp only[];omega,by simp only[];rw[B0 j (by omega)],by trivial,by simp only[];omega,?_,(ho.ext hx7).ext2 hx67 p4⟩;simp only[];rw[htk,hjt (by have:=dm8 k9;omega),←do8];exact p3
 rcases dm5 (decide (it.s.kind=10))with k10|k10
 ·simp only[i5,n8,z6,simprocAttr,h27,h3,e25,hin,hld,hal,hst,k1,k2,k7,k8,k9,k10,ah7,p1,p2];refine⟨(j+1,u7),by simp only[];omega,by simp only[];rw[B0 j (by omega)],by trivial,by simp only[];omega,?_,(ho.ext hx7).ext2 hx67 p4⟩;simp only[];rw[htk,hjt (by have:=dm8 k10;omega),←do8];exact p3
 simp only[i5,n8,z6,simprocAttr,h27,h3,e25,hin,hld,hal,hst,k1,k7,k8,k9,k10];refine⟨(j+1,u),by simp only[];omega,by simp only[];rw[B0 j (by omega)],by trivial,by simp only[];omega,?_,hx67⟩;simp only[];have hj0:U5 it=[]:=by
  unfold U5;rw[if_neg];have:=dm9 k7;have:=dm9 k8;have:=dm9 k9;have:=dm9 k10;omega
 rw[htk,hj0,dp6];exact ho.ext hx7
def bm2(n:Int)(e:Int×Int):Bool:=decide (e.1<0)||decide (e.1≥n)||decide (e.2<0)||decide (e.2≥n)
theorem bL8{n:Nat}{e:Int×Int}:bm2 n e=false↔aV5 n e:=by
 simp[bm2,aV5];omega
theorem aU1{P:Program}{t:TypeId}(ht:H9 P t=false)(hu:(P.underlying t).isSome=true){cs:Array Value}{i:Nat}{v:Value}(h:cs[i]?=some v)(w:World):(part t cs i).run P w = .ok v w:=by
 unfold part;simp only[do9,W8 t hu,do1,ht,dt7,du7,h,dq0]
theorem cc2(m x y:Int):(decide (x<0)=true∧bm2 m (x,y)=true)∨(decide (x<0)=false∧decide (x≥m)=true∧bm2 m (x,y)=true) ∨
  (decide (x<0)=false∧decide (x≥m)=false∧decide (y<0)=true∧bm2 m (x,y)=true)∨(decide (x<0)=false∧decide (x≥m)=false∧decide (y<0)=false∧decide (y≥m)=true∧bm2 m (x,y)=true) ∨
  (decide (x<0)=false∧decide (x≥m)=false∧decide (y<0)=false∧decide (y≥m)=false∧bm2 m (x,y)=false):=by
 unfold bm2;cases decide (x<0)<;>cases decide (x≥m)<;>cases decide (y<0)<;>cases decide (y≥m)<;>simp
def H4:=zJ (zJ (zJ (zJ (zJ (zJ @bc2 @dd0) (zJ @dc3 @cS8)) (zJ (zJ @dc6 @dg3) (zJ @dc4 (zJ @dc5 @dg4)))) (zJ (zJ (zJ @dg0 @cZ8) (zJ @dg1 (zJ @dg2 @cT9))) (zJ (zJ @cR4 @cU0) (zJ @cU1 (zJ @de7 @de6))))) (zJ (zJ (zJ (zJ @dg7 @dk2) (zJ @dk8 (zJ @cS6 @df6))) (zJ (zJ @cS7 @df7) (zJ @di7 (zJ @dk7 @cF8)))) (zJ (zJ (zJ @cX8 @cF9) (zJ @cX9 (zJ @cY0 @cP3))) (zJ (zJ @cK7 @cK6) (zJ @cX7 (zJ @di9 @di8)))))) (zJ (zJ (zJ (zJ (zJ @cP2 @dj1) (zJ @dj0 (zJ @df4 @cA9))) (zJ (zJ @cW9 @di3) (zJ @cF6 (zJ @cS5 @cO8)))) (zJ (zJ (zJ @dh8 @di4) (zJ @cS4 (zJ @df3 @cX1))) (zJ (zJ @df2 @ev.eq_1) (zJ @ev.eq_2 (zJ @ev.eq_3 @ev.eq_4))))) (zJ (zJ (zJ (zJ @C5.eq_1 @C5.eq_2) (zJ @dk0 (zJ @di5 @df8))) (zJ (zJ @df9 @List.map_cons.{0,0}) (zJ @List.map_nil.{0,0} (zJ @List.map_toArray.{0,0} @bB7.eq_1)))) (zJ (zJ (zJ @bB7.eq_2 @cS1) (zJ @cq3.eq_1 (zJ @List.getElem?_toArray.{0} @List.getElem?_cons_zero.{0}))) (zJ (zJ @List.getElem?_cons_succ.{0} @Option.bind_some.{0,0}) (zJ @Option.some.injEq.{0} (zJ @dt7 @Bool.true_eq_false))))))
def zVB:=zJ (zJ (zJ (zJ @Option.map_some.{0,0} (zJ @Option.map_none.{0,0} @Int.toNat_zero)) (zJ (zJ @Option.isNone_none.{0} @Option.isNone_some.{0}) (zJ @J9 @bx1.eq_1))) (zJ (zJ @bx1.eq_2 (zJ @cC4.eq_1 @aW4.eq_1)) (zJ (zJ @aW4.eq_2 @cs8.eq_1) (zJ @cs7.eq_1 @TY)))) (zJ (zJ (zJ @Option.isSome_some.{0} (zJ @du6 @Bool.and_true)) (zJ (zJ @dw3 @dp0) (zJ @dh5 @Int.cast_ofNat_Int))) (zJ (zJ @decide_true (zJ @add_lit @dp8)) (zJ (zJ @Nat.zero_mul @Nat.one_mul) (zJ @Bool.not_true @Bool.not_false))))
theorem aV6{ws:List W}{i:Nat}(h:i<ws.length):ws[i]?=some (ws.getD i 0#64):=by simp[List.getD,h]
theorem cP6:E6 prog 275 220 1 8=true:=by kernel_rfl
theorem cG2(h:Hp)(v:Value)(ws:List W)(f:Nat)(w:World)(ho:A8 h w 220 v ws)(hf:f / 64<ws.length)(hf2:f<1000000000000):
  p7 prog 240 #[v,.int .i64 f] w fun u w'=>(u = .bool (!O2 ws f)∧A8 h w' 220 v (ci3 ws f)∧p9 (A4 v) w w'):=by
 refine p8 [v,.int .i64 f] func240 rfl ?_;have hin:=ho.inS hf;have hg:=aV6 hf;have hld:=D4 (P:=prog) (t:=220) ho hg aj6;simp only[I6.val]at hld;have q1:=bv9 (P:=prog) (t:=3) f hf2;have q2:=cn8 (P:=prog) (t:=3) f;have hm:f % 64<64:=Nat.mod_lt _ (by decide);have hput:O2 ws f=(ws.getD (f / 64) 0#64).getLsbD (f % 64):=rfl;have hpb:ci3 ws f=ws.set (f / 64) (ws.getD (f / 64) 0#64 ||| (1#64 <<< (f % 64))):=rfl;rw[hput,hpb];generalize f / 64=i at *;generalize f % 64=k at *;generalize ws.getD i 0#64=x at *;have q3:=cn9 (P:=prog) (t:=220) x k hm;have q4:=cn6 (P:=prog) (t:=220) x k;have q5:=cN2 (P:=prog) (t:=220) (x.getLsbD k);have q6:=cN5 (P:=prog) (t:=220) k hm;have q7:=cn7 (P:=prog) (t:=220) x (1#64 <<< k);have hxd:=o7.drew w;obtain⟨w2,s1,s2,s3,s4⟩:=D9 (P:=prog) (t:=220) (ho.ext hxd) rfl (k:=i) hf (x:=.int .u64 (((x ||| 1#64 <<< k).toNat:Nat):Int)) (y:=(x ||| 1#64 <<< k)) rfl rfl (z7 ay4).choose_spec.1 (by rw[←C6 (z7 ay4).choose_spec.1];exact bA4);simp only[H4,zVB,z6,simprocAttr,q1,q2,q3,q4,q5,hin,hld];refine C2 (fun w3=>w3=w.drew) 8 (A9 [0,1,2,3,4,5,6,7]) ?_;simp only[D1,A9,H4,zVB,z6,simprocAttr,q1,hin];refine⟨.int .u64 (x.toNat:Nat),fun w3 e=>by subst e;exact D4 (ho.ext hxd) hg aj6,?_⟩;simp only[D1,H4,zVB,z6,simprocAttr,q2,q6,q7,hin,s1];refine o6 results240 ?_;simp only[p6,simprocAttr];exact⟨by trivial,s2,(hxd.weaken fun _ _ h=>h.elim).trans s3⟩
def Y9(ws:List W)(k:Nat):List Int:=((List.range k).filter (O2 ws)).map fun(i:Nat)=>(i:Int)
theorem bP3(ws:List W)(k:Nat):Y9 ws (k+1)=if O2 ws k then Y9 ws k++[(k:Int)]else Y9 ws k:=by
 unfold Y9;rw[dx4,du2,dp4];cases h:O2 ws k<;>simp[h]
theorem cg7(ws:List W)(k:Nat):(Y9 ws k).length≤k:=by
 unfold Y9;rw[dn7];exact dn4 (dp2 _ _) (by simp)
theorem cs5(v:Value)(ws:List W)(most:Nat)(w:World)(hv:R (i4 w) v ws)(hm1:most≤1000000)(hl:∀f,f<most→f / 64<ws.length):
  p7 prog 244 #[v,.int .i64 most] w fun u w'=>(A8 (i4 w) w' 3 u (Y9 ws most)∧o7 w w'):=by
 refine p8 [v,.int .i64 most] func244 rfl ?_;simp only[J5,O4,simprocAttr];refine n9 [0,1] (σ:=Nat) (fun k f w'=>f 6 = .int .i64 k∧k≤most∧A8 (i4 w) w' 3 (f 5) (Y9 ws k)∧o7 w w') (fun k=>most-k) 0 ?_ ?_
 ·simp only[p6,simprocAttr];exact⟨by first|rfl|trivial,dn5 _,A8.nil _ _ _,p9.refl _⟩
 ·rintro k f w' hk ⟨h6,hkl,ho,hx⟩;simp only[dm6,p6,simprocAttr]at hk;obtain⟨e0,e1,_⟩:=hk;simp only[J5,B5,E4,simprocAttr,h6,e1];refine m8 (fun hc=>?_) (fun hc=>?_)
  ·have hlt:k<most:=by simpa using hc
   have hkw:=hl k hlt;have hin:=hv.inS hkw;have hg:=aV6 hkw;have hld:=M9 (P:=prog) (t:=220) hv (b7 hx) hg aj6;simp only[I6.val]at hld;have q1:=bv9 (P:=prog) (t:=3) k (by omega);have q2:=cn8 (P:=prog) (t:=3) k;have hmm:k % 64<64:=Nat.mod_lt _ (by decide);have hhas:O2 ws k=(ws.getD (k / 64) 0#64).getLsbD (k % 64):=rfl;have hls:=bP3 ws k;rw[hhas]at hls;generalize k / 64=i at *;generalize k % 64=b at *;generalize ws.getD i 0#64=x at *;have q3:=cn9 (P:=prog) (t:=220) x b hmm;have q4:=cn6 (P:=prog) (t:=220) x b;have q5:=cN3 (P:=prog) (t:=220) (x.getLsbD b);have q6:B5 prog .add 3 (.int .i64 k) (.int .i64 1)=some (.int .i64 ((k+1:Nat):Int)):=by
    simp only[B5,E4,ds9];rw[B0 k (by omega)]
   generalize x.getLsbD b=t at *;simp only[H4,zVB,z6,simprocAttr,q1,q2,q3,q4,q5,hin,hld,e0,h6];cases t
   ·simp only[H4,simprocAttr,h6,q6];refine⟨k+1,by omega,by trivial,by omega,?_,hx⟩;rw[hls,if_neg (by simp)];exact ho
   ·have hlen:=cg7 ws k;obtain⟨p1,u',w2,p2,p3,p4,p5⟩:=push (e:=112) ad2 rfl ho (x:=.int .i64 k) (y:=(k:Int)) rfl (by omega) (by omega) (b7 hx);simp only[Value.cells]at p1 p2;simp only[H4,simprocAttr,h6,q6,p1,p2];refine⟨k+1,by omega,by trivial,by omega,?_,ho.ext2 hx p4⟩;rw[hls,if_pos rfl];exact p3
  ·have hge:k=most:=by simp at hc;omega
   subst hge;simp only[J5,simprocAttr];refine o6 results244 ?_;simp only[p6,simprocAttr];exact⟨ho,hx⟩
def az0(b c:List W)(k:Nat):List W:=(orB b c).take k++b.drop k
theorem bO4(b c:List W):az0 b c 0=b:=by simp[az0]
theorem cf5{b c:List W}(hl:b.length=c.length):az0 b c b.length=orB b c:=by
 unfold az0;rw[dv6,dp6,dr1];rw[by9 hl];exact dn9 _
theorem cf6{b c:List W}(hl:b.length=c.length)(k:Nat):(az0 b c k).length=b.length:=by
 simp[az0,orB,hl];omega
theorem cq4{b c:List W}(hl:b.length=c.length){k:Nat}(hk:k<b.length):(az0 b c k)[k]?=some (b.getD k 0#64):=by
 unfold az0;rw[dq9 (by simp[orB,hl];omega)];have:k-((orB b c).take k).length=0:=by simp[orB,hl];omega
 rw[this,dw5];simp[List.getD,hk]
theorem bO3{b c:List W}(hl:b.length=c.length){k:Nat}(hk:k<b.length):(az0 b c k).set k (b.getD k 0#64 ||| c.getD k 0#64)=az0 b c (k+1):=by
 have hol:(orB b c).length=b.length:=by9 hl;apply dz3;intro i;rw[List.getElem?_set];unfold az0;have hk1:((orB b c).take k).length=k:=by rw[dn8,hol];omega
 have hk2:((orB b c).take (k+1)).length=k+1:=by rw[dn8,hol];omega
 by_cases h1:k=i
 ·subst h1;rw[if_pos rfl,if_pos (by rw[dm7,hk1,dv1];omega),dr5 (by rw[hk2];omega),List.getElem?_take_of_lt (by omega),dm4 (by rw[hol];exact hk)];unfold orB;rw[List.getElem_zipWith];simp[List.getD,hk,show k<c.length by omega]
 ·rw[if_neg h1];by_cases h2:i<k
  ·rw[dr5 (by rw[hk1];exact h2),dr5 (by rw[hk2];omega),List.getElem?_take_of_lt h2,List.getElem?_take_of_lt (by omega)]
  ·rw[dq9 (by rw[hk1];omega),dq9 (by rw[hk2];omega),hk1,hk2,dw5,dw5]
   congr 1;omega
theorem bP5{b c:List W}(hl:b.length=c.length){k:Nat}(hk:k<b.length):ae1 (b.take (k+1)) (c.take (k+1))=(ae1 (b.take k) (c.take k)||((c.getD k 0#64 &&& ~~~(b.getD k 0#64):W) != 0#64)):=by
 unfold ae1;rw[dn2 hk,dn2 (show k<c.length by omega),List.zipWith_append (by simp;omega),List.any_append];simp[List.getD,hk,show k<c.length by omega]
theorem cr4(h:Hp)(v u:Value)(b c:List W)(w:World)(ho:A8 h w 220 v b)(hw:B4 h (i4 w))(hu:R h u c)(hl:b.length=c.length)(hlen:b.length≤1000000):
  p7 prog 243 #[v,u] w fun r w'=>(r = .bool (ae1 b c)∧A8 h w' 220 v (orB b c)∧p9 (A4 v) w w'):=by
 refine p8 [v,u] func243 rfl ?_;have hS:=ho.isS;have hvn:=ho.vlen;simp only[J5,O4,P8,simprocAttr,hS,hvn];refine n9 [0,1,6,7] (σ:=Nat) (fun k f w'=>f 8 = .int .i64 k∧k≤b.length∧f 4 = .bool (ae1 (b.take k) (c.take k))∧A8 h w' 220 v (az0 b c k)∧p9 (A4 v) w w') (fun k=>b.length-k) 0 ?_ ?_
 ·simp only[p6,simprocAttr];exact⟨by first|rfl|trivial,dn5 _,by simp[ae1],by rw[bO4];exact ho,p9.refl _⟩
 ·rintro k f w' hk ⟨h8,hkl,h4,ho',hx⟩;simp only[dm6,p6,simprocAttr]at hk;obtain⟨e0,e1,e6,e7,_⟩:=hk;simp only[J5,B5,E4,simprocAttr,h8,e7];refine m8 (fun hc=>?_) (fun hc=>?_)
  ·have hlt:k<b.length:=by simpa using hc
   have hhl:=cf6 hl k;have hin:=ho'.inS (k:=k) (by omega);have hinc:=hu.inS (k:=k) (by omega);have hgb:=cq4 hl hlt;have hgc:=aV6 (show k<c.length by omega);have hsucc:=bO3 hl hlt;have hmt:=bP5 hl hlt;generalize b.getD k 0#64=x at *;generalize c.getD k 0#64=y at *;have hw':B4 h (i4 w'):=H7 hw hx fun b hb=>ho.free hb;have hd:=o7.drew w';have hdd:=o7.drew w'.drew;have hwd:B4 h (i4 w'.drew):=v8 hw' (b7 hd);have hwdd:B4 h (i4 w'.drew.drew):=v8 hwd (b7 hdd);have hod:=ho'.ext hd;have hodd:=hod.ext hdd;have q1:=bo5 (P:=prog) (t:=220) y x;have q2:=cN4 (P:=prog) (t:=220) (y &&& ~~~x);have q3:=cn7 (P:=prog) (t:=220) x y;have q6:B5 prog .add 3 (.int .i64 k) (.int .i64 1)=some (.int .i64 ((k+1:Nat):Int)):=by
    simp only[B5,E4,ds9];rw[B0 k (by omega)]
   generalize hz:(y &&& ~~~x != 0#64)=z at *;obtain⟨w2,s1,s2,s3,s4⟩:=D9 (P:=prog) (t:=220) hodd rfl (k:=k) (by omega) (x:=.int .u64 (((x ||| y).toNat:Nat):Int)) (y:=(x ||| y)) rfl rfl (z7 ay4).choose_spec.1 (by rw[←C6 (z7 ay4).choose_spec.1];exact bA4);rw[hsucc]at s2;have hx2:p9 (A4 v) w w2:=(hx.trans ((hd.trans hdd).weaken fun _ _ h=>h.elim)).trans s3;generalize hm0:ae1 (b.take k) (c.take k)=m0 at *;cases m0
   ·simp only[H4,simprocAttr,h8];refine C2 (fun w3=>w3=w'.drew) 10 (A9 [0,1,2,3,4,5,6,7,8,9]) ?_;simp only[D1,A9,H4,zVB,z6,simprocAttr,h4,e1,hinc];refine⟨.int .u64 (y.toNat:Nat),fun w3 e=>by subst e;exact M9 (P:=prog) (t:=220) hu hwd hgc aj6,?_⟩;simp only[D1,H4,zVB,z6,simprocAttr,e0,hin];refine⟨.int .u64 (x.toNat:Nat),fun w3 e=>by subst e;exact D4 hod hgb aj6,?_⟩;simp only[D1,H4,simprocAttr,q1,q2];refine C2 (fun w3=>w3=w'.drew.drew) 8 (A9 [0,1,2,3,4,5,6,7]) ?_;simp only[D1,A9,H4,zVB,z6,simprocAttr,e0,hin];refine⟨.int .u64 (x.toNat:Nat),fun w3 e=>by subst e;exact D4 hodd hgb aj6,?_⟩;simp only[D1,H4,zVB,z6,simprocAttr,e1,hinc];refine⟨.int .u64 (y.toNat:Nat),fun w3 e=>by subst e;exact M9 (P:=prog) (t:=220) hu hwdd hgc aj6,?_⟩;simp only[D1,H4,zVB,z6,simprocAttr,q3,hin,s1,h8,q6];exact⟨k+1,by omega,by trivial,by omega,by rw[hmt];simp,s2,hx2⟩
   ·simp only[H4,simprocAttr,h8];refine C2 (fun w3=>w3=w'.drew) 10 (A9 [0,1,2,3,4,5,6,7,8,9]) ?_;simp only[D1,A9,H4,simprocAttr,h4];refine C2 (fun w3=>w3=w'.drew.drew) 8 (A9 [0,1,2,3,4,5,6,7]) ?_;simp only[D1,A9,H4,zVB,z6,simprocAttr,e0,hin];refine⟨.int .u64 (x.toNat:Nat),fun w3 e=>by subst e;exact D4 hodd hgb aj6,?_⟩;simp only[D1,H4,zVB,z6,simprocAttr,e1,hinc];refine⟨.int .u64 (y.toNat:Nat),fun w3 e=>by subst e;exact M9 (P:=prog) (t:=220) hu hwdd hgc aj6,?_⟩;simp only[D1,H4,zVB,z6,simprocAttr,q3,hin,s1,h8,q6];exact⟨k+1,by omega,by trivial,by omega,by rw[hmt];simp,s2,hx2⟩
  ·have hge:k=b.length:=by simp at hc;omega
   subst hge;rw[cf5 hl]at ho';rw[dn6,hl,dn6]at h4;simp only[J5,simprocAttr,h4];refine o6 results243 ?_;simp only[p6,simprocAttr];exact⟨by trivial,ho',hx⟩
def dt0:=@List.getElem?_set_self
theorem cL6:E6 prog 243 275 1 24=true:=by kernel_rfl
theorem K8.put{P:Program}{α:Type}[A3 α]{h:Hp}{w w1:World}{T T' t:TypeId}{v:Value}{us:List Y7}{xss:List (List α)}(hr:K8 h w T T' v us xss){i:Nat}{u:Y7}(hi:us[i]?=some u){u':Value}{xs:List α}
  (hm:p9 (A4 u.v) w w1) (ho:A8 h w1 T' u' xs) (hv:D7 w u.v u') {inf:TypeInfo} (hinf:P.info? t=some inf) (hs:inf.size=1) :
  ∃w2,(Instr.storeAt t (.pointer (some (G9 v i))) u').run P w1 = .ok () w2∧K8 h w2 T T' v (us.set i ⟨u'⟩) (xss.set i xs)∧p9 (A4 v) w1 w2∧w2.heap.size=w1.heap.size:=by
 have hS:=ho.isS;have hil:i<us.length:=(dn0.1 hi).1;have hou:A8 h w1 T v us:=hr.outer.mod hm fun b hb hb2=>hr.off i u hi b hb2 hb;obtain⟨w2,s1,s2,s3,s4⟩:=D9 (P:=P) (t:=t) hou rfl hil (x:=u') (y:=(⟨u'⟩:Y7)) ⟨rfl,W5 hS⟩ (D8 hS) hinf hs;exact⟨w2,s1,hr.set hi hm ho hv s3 s2,s3,s4⟩
theorem an2{α:Type}[A3 α]{h:Hp}{w:World}{T T':TypeId}{v:Value}{n:Nat}(ho:A8 h w T v (List.replicate n E1)):K8 h w T T' v (List.replicate n E1) (List.replicate n ([]:List α)):=by
 have hn:∀(i:Nat) (u:Y7),(List.replicate n E1)[i]?=some u→u=E1:=fun i u hu=>ds8 (do5 hu);refine⟨ho,by simp,fun i u xs hu hx=>?_,fun i j u u' _ hu _ b hb=>?_,fun i u hu b hb=>?_⟩
 ·rw[hn i u hu,ds8 (do5 hx)];exact A8.nil _ _ _
 ·rw[hn i u hu]at hb;exact absurd hb C7
 ·rw[hn i u hu]at hb;exact absurd hb C7
def cT4(most:Nat)(x:List Int)(b:List W):Prop:=b.length=most / 64+1∧∀f:Nat,O2 b f=true↔(f:Int)∈x
def aM0(l:List (List Int))(most:Nat):Prop:=∀x∈l,∀f∈x,0≤f∧f<most
def cl4(most:Nat)(l:List (List Int))(bss:List (List W)):Prop:=bss.length=l.length∧∀(i:Nat) (x:List Int),l[i]?=some x→∃b,bss[i]?=some b∧cT4 most x b
theorem bI7(v:Value)(l:List (List Int))(most:Nat)(w:World)(hv:R (i4 w) v l)(hm1:most≤1000000)(hl:l.length≤1000000)(hll:∀x∈l,x.length≤1000000000):
  p7 prog 197 #[v,.int .i64 most] w fun u w'=>((∃ub ok,u = .tuple #[ub,.bool ok]∧(ok=true→aM0 l most∧∃bss,R (i4 w') ub bss∧cl4 most l bss)∧(ok=false→¬aM0 l most))∧o7 w w'):=by
 refine p8 [v,.int .i64 most] func197 rfl ?_;have hS:=hv.isS;have hvn:=hv.vlen;have hz:A3.enc (i4 w) (Value.slice none 0 0).cells.toList E1:=⟨rfl,rfl⟩;obtain⟨u0,w0,hmk,ho0,hx0,hf0,_⟩:=mk (P:=prog) (w:=w) (h:=i4 w) cL6 aV3 (α:=Y7) (y:=E1) hz (n:=l.length) (by omega) (by omega) (d7 _);have hrows0:K8 (i4 w) w0 275 220 u0 (List.replicate l.length E1) (List.replicate l.length ([]:List W)):=an2 ho0;simp only[J5,O4,P8,simprocAttr,hS,hvn,hmk];refine n9 [0,1,6,14,15] (σ:=Nat) (fun i f w'=>f 16 = .int .i64 i∧i≤l.length∧(∃us bss,K8 (i4 w) w' 275 220 u0 us bss∧bss.length=l.length∧(∀(j:Nat) (x:List Int),j<i→l[j]?=some x→((∃b,bss[j]?=some b∧cT4 most x b)∧∀f∈x,0≤f∧f<most)))∧o7 w w') (fun i=>l.length-i) 0 ?_ ?_
 ·simp only[p6,simprocAttr];exact⟨by first|rfl|trivial,dn5 _,⟨_,_,hrows0,by simp,fun j x hj=>by omega⟩,hx0⟩
 ·rintro i f w' hk ⟨h16,hil,⟨us,bss,hrows,hbl,hdone⟩,hx⟩;simp only[dm6,p6,simprocAttr]at hk;obtain⟨e0,e1,e6,e14,e15,_⟩:=hk;simp only[J5,B5,E4,simprocAttr,h16,e15];refine m8 (fun hc=>?_) (fun hc=>?_)
  ·have hlt:i<l.length:=by simpa using hc
   have hin:=hv.inS hlt;obtain⟨ux,hux,hcx⟩:=hv.row (dm4 hlt);have hldx:=F9 (P:=prog) (t:=112) hcx (b7 hx) R0;have hxmem:l[i]∈l:=dn3 hlt;have hxat:l[i]?=some l[i]:=dm4 hlt;generalize l[i]=x at hux hxmem hxat;have hxl:=hll x hxmem;have hSx:=hux.isS;have hnx:=hux.vlen;have q1:=bv9 (P:=prog) (t:=3) most (by omega);have q2:B5 prog .add 3 (.int .i64 ((most / 64:Nat):Int)) (.int .i64 1)=some (.int .i64 ((most / 64+1:Nat):Int)):=by
    simp only[B5,E4,ds9];rw[B0 _ (by omega)]
   obtain⟨ur,w1,hmk1,ho1,hx1,hf1,_⟩:=mk (P:=prog) (w:=w') (h:=i4 w) cP6 ay4 (α:=W) (y:=0#64) rfl (n:=most / 64+1) (by omega) (by omega) (b7 hx);have husl:us.length=l.length:=by rw[hrows.len,hbl]
   have hui:us[i]?=some (us[i]'(by omega)):=dm4 _;generalize us[i]'(by omega)=u at hui;obtain⟨w2,s1,s2,s3,s4⟩:=hrows.put (P:=prog) (t:=275) hui (hx1.weaken fun _ _ h=>h.elim) ho1 (fun b hb=>.inr (hf1 b hb)) (z7 aV3).choose_spec.1 (by rw[←C6 (z7 aV3).choose_spec.1];exact bT2);have hx2:o7 w w2:=p9.ext_of (hx.trans hx1) s3 fun b hb=>by
    have:=hrows.outer.free hb;exact dz8 fun hlt=>by simp[i4,hlt]at this
   have hin0:=hrows.outer.inS (k:=i) (by omega);have huiset:(us.set i ⟨ur⟩)[i]?=some (⟨ur⟩:Y7):=dt0 (by omega);generalize hus':us.set i ⟨ur⟩=us' at *;generalize hm64:most / 64=m64 at *;simp only[H4,zVB,z6,P8,simprocAttr,h16,e14,e6,e1,hin,hldx,q1,q2,hmk1,hin0,s1,hSx,hnx];refine n9 [0,1,6,7,14,15,16,28,29] (σ:=Nat) (fun k f w'=>f 30 = .int .i64 k∧k≤x.length∧(∃bss' b,K8 (i4 w) w' 275 220 u0 us' bss'∧bss'.length=l.length∧(∀j:Nat,j≠i→bss'[j]?=bss[j]?)∧bss'[i]?=some b∧b.length=m64+1∧(∀f:Nat,O2 b f=true↔(f:Int)∈x.take k)∧∀f∈x.take k,0≤f∧f<most)∧o7 w w') (fun k=>x.length-k) 0 ?_ ?_
   ·simp only[p6,simprocAttr];refine⟨by first|rfl|trivial,dn5 _,⟨_,List.replicate (m64+1) 0#64,s2,by simp[hbl],fun j hj=>du8 (fun e=>hj e.symm),dt0 (by omega),by simp,fun f=>by rw[bE9];simp,by simp⟩,hx2⟩
   ·rintro k f w3 hk ⟨h30,hkl,⟨bss',b,hrows',hbl',hoth,hbi,hblen,hbits,hrng⟩,hx3⟩;simp only[dm6,p6,simprocAttr]at hk;simp only[e0,e1,e6,e14,e15,h16]at hk;obtain⟨i0,i1,i6,i7,i14,i15,i16,i28,i29,_⟩:=hk;simp only[J5,B5,E4,simprocAttr,h30,i29];refine m8 (fun hc=>?_) (fun hc=>?_)
    ·have hkt:k<x.length:=by simpa using hc
     have hink:=hux.inS hkt;have hldk:=M9 (P:=prog) (t:=3) hux (b7 hx3) (dm4 hkt) F4;simp only[I6.val]at hldk;have hmemk:x[k]∈x:=dn3 hkt;have htk:x.take (k+1)=x.take k++[x[k]]:=dn2 hkt;generalize x[k]=ft at hldk hmemk htk;by_cases hlo:ft<0
     ·have d0:decide (ft<0)=true:=by simpa using hlo
      simp only[J5,O4,B5,E4,z6,simprocAttr,h30,i28,hink,hldk,d0];refine ae2 results197 ?_;simp only[p6,simprocAttr];exact⟨⟨_,false,rfl,(fun h=>(by cases h)),(fun _ hf=>(by have:=hf x hxmem ft hmemk;omega))⟩,hx3⟩
     ·have d0:decide (ft<0)=false:=by simpa using hlo
      by_cases hhi:ft≥most
      ·have d1:decide (ft≥(most:Int))=true:=by simpa using hhi
       simp only[J5,O4,B5,E4,z6,simprocAttr,h30,i28,i1,hink,hldk,d0,d1];refine ae2 results197 ?_;simp only[p6,simprocAttr];exact⟨⟨_,false,rfl,(fun h=>(by cases h)),(fun _ hf=>(by have:=hf x hxmem ft hmemk;omega))⟩,hx3⟩
      ·have d1:decide (ft≥(most:Int))=false:=by simpa using hhi
       obtain⟨fn,hfn⟩:∃fn:Nat,ft=fn:=⟨ft.toNat,by omega⟩;have hin3:=hrows'.outer.inS (k:=i) (by rw[hrows'.len];omega);have hld3:=aF9 (P:=prog) (t:=275) hrows' huiset aV0;have hob:=hrows'.row i ⟨ur⟩ b huiset hbi
       have hfw:fn / 64<b.length:=by rw[hblen];have:fn<most:=by omega
                                     have:=Nat.div_le_div_right (c:=64) (Nat.le_of_lt this);omega
       have hput:=cG2 (i4 w) ur b fn w3 hob hfw (by omega);rw[←hfn]at hput;simp only[J5,O4,B5,E4,z6,simprocAttr,h30,i28,i1,i6,i7,hink,hldk,d0,d1,hin3,hld3];refine y5 hput ?_;rintro r w4 ⟨hr,ho4,hm4⟩;have hx4:o7 w w4:=p9.ext_of hx3 hm4 fun b hb=>by
        have:=hob.free hb;exact dz8 fun hlt=>by simp[i4,hlt]at this
       have hrows4:=hrows'.write huiset hm4 ho4;simp only[J5,B5,E4,simprocAttr,h30];refine⟨k+1,by omega,by rw[B0 k (by omega)],by omega,⟨_,_,hrows4,by simp[hbl'],fun j hj=>?_,dt0 (by omega),by rw[cu7,hblen],fun f=>?_,fun f hf=>?_⟩,hx4⟩
       ·rw[du8 (fun e=>hj e.symm)];exact hoth j hj
       ·rw[cq5 hfw,htk,dy8,hbits f,do0,dp5,dq8];constructor
        ·rintro(h|h)
         ·exact .inr (by rw[h,hfn])
         ·exact .inl h
        ·rintro(h|h)
         ·exact .inr h
         ·exact .inl (by omega)
       ·rw[htk,do0,dp5]at hf;rcases hf with hf|hf
        ·exact hrng f hf
        ·subst hf;exact⟨by omega,by omega⟩
    ·have hge:k=x.length:=by simp at hc;omega
     subst hge;rw[dn6]at hbits hrng;simp only[J5,B5,E4,simprocAttr,i16];refine⟨i+1,by omega,by rw[B0 i (by omega)],by omega,⟨us',bss',hrows',hbl',fun j y hj hy=>?_⟩,hx3⟩;by_cases hji:j=i
     ·subst hji;rw[hxat]at hy;obtain rfl:=do2 hy;exact⟨⟨b,hbi,by rw[hblen,hm64],hbits⟩,hrng⟩
     ·obtain⟨⟨b',hb1,hb2⟩,h3⟩:=hdone j y (by omega) hy;exact⟨⟨b',by rw[hoth j hji];exact hb1,hb2⟩,h3⟩
  ·have hge:i=l.length:=by simp at hc;omega
   subst hge;simp only[J5,simprocAttr,e6];refine ae2 results197 ?_;simp only[p6,simprocAttr];refine⟨⟨_,true,rfl,fun _=>⟨fun x hx f hf=>?_,bss,hrows.ro (b7 hx),hbl,fun i x hi=>?_⟩,(fun h=>(by cases h))⟩,hx⟩
   ·obtain⟨j,hj⟩:=dy3.1 hx;exact(hdone j x (dn0.1 hj).1 hj).2 f hf
   ·exact(hdone i x (dn0.1 hi).1 hi).1
theorem aN5(n:Nat)(l:List (Int×Int)):(al6 n l).length=n:=by simp[al6]
theorem bG7{n:Nat}(l:List (Int×Int)){q:Nat}(hq:q<n):(al6 n l)[q]?=some ((l.filter fun t=>decide (t.1=(q:Int))).map (·.2)):=by simp[al6,hq]
theorem bG8(n:Nat):al6 n []=List.replicate n []:=by
 apply du0
 ·simp[al6]
 ·intro j h1 h2;simp[al6]
theorem br5{n:Nat}(l:List (Int×Int)){q:Nat}(hq:q<n)(b:Int):al6 n (l++[((q:Int),b)])=(al6 n l).set q (((l.filter fun t=>decide (t.1=(q:Int))).map (·.2))++[b]):=by
 apply du0
 ·simp[al6]
 ·intro j h1 h2;rw[List.getElem_set];simp only[al6,dv8,dA1,du2,dp4];by_cases hjq:q=j
  ·subst hjq;simp[]
  ·rw[if_neg hjq];have:decide ((q:Int)=(j:Int))=false:=by simp;omega
   simp[this]
theorem aw9(l:List (Int×Int))(q:Nat):((l.filter fun t=>decide (t.1=(q:Int))).map (·.2)).length≤l.length:=by
 rw[dn7];exact dp2 _ _
theorem aN6{n:Nat}{l:List (Int×Int)}{x:List Int}(hx:x∈al6 n l):x.length≤l.length∧∀b∈x,∃t∈l,t.2=b:=by
 obtain⟨q,_,rfl⟩:=dp7.1 hx;refine⟨aw9 l q,fun b hb=>?_⟩;obtain⟨t,ht,rfl⟩:=dp7.1 hb;exact⟨t,(dr2.1 ht).1,rfl⟩
theorem bi0{P:Program}{h:Hp}{w:World}{T t:TypeId}{v:Value}{us:List Y7}(ho:A8 h w T v us){i:Nat}{u:Y7}(hi:us[i]?=some u)(ht:H9 P t=false):
  (Instr.loadAt t (.pointer (some (G9 v i)))).run P w = .ok u.v w:=by
 obtain⟨es,⟨he,_⟩,hc⟩:=ho.get hi;have:=hc 0 u.v (by rw[he];rfl);rw[J9]at this;have h1:(i*A3.sz Y7)=i:=dw3 i;rw[h1]at this;exact R9 ht this
end Go.Proofs.YtcbnbgpphippoaaGreat

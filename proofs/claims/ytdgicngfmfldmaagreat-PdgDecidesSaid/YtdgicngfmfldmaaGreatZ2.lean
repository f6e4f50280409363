/- pdgEnds.proved: for every input the law returns true. No condition. Part 2 of 7. -/
import Derived.Ground.NamesProg
import Derived.Lib.SlicesCompact
import Derived.Shelf.Slices.CompactS
import Derived.Shelf.Slices.In.SortNone
import Derived.Shelf.Sort.Plain
import Derived.Sort.Walk0
import Derived.Test.YtdgicngfmfldmaaGreatProg
import Derived.Test.YtdgicngfmfldmaaGreatZ1
set_option maxRecDepth 1000000
set_option maxHeartbeats 8000000
set_option linter.unusedVariables false
set_option linter.unusedSimpArgs false
set_option linter.unnecessarySimpa false
namespace Go.Proofs.YtdgicngfmfldmaaGreat
open Go Tryz
theorem eF7:type_of% @Bool.eq_false_iff:=@Bool.eq_false_iff
theorem eH0:type_of% @Bool.or_true:=@Bool.or_true
theorem eG9:type_of% @Bool.true_or:=@Bool.true_or
theorem ev4:type_of% @List.forall_mem_cons:=@List.forall_mem_cons
theorem ew2:type_of% @List.getElem_mem:=@List.getElem_mem
theorem ew4:type_of% @Nat.zero_le:=@Nat.zero_le
theorem ez8:type_of% @decide_eq_decide:=@decide_eq_decide
theorem n3:type_of% (And.intro (And.intro (And.intro (And.intro (And.intro (And.intro @bd8 @dZ6) (And.intro @dY9 (And.intro @dB4 @dZ2))) (And.intro (And.intro @dZ3 @dZ0) (And.intro @dZ1 (And.intro @ed1 @ec7)))) (And.intro (And.intro (And.intro @dJ4 @ec8) (And.intro @ec9 (And.intro @dC6 @dA1))) (And.intro (And.intro @dC7 @dC8) (And.intro @eb5 (And.intro @eb4 @dZ9))))) (And.intro (And.intro (And.intro (And.intro @ed3 @ep9) (And.intro @dB2 (And.intro @ec3 @dB3))) (And.intro (And.intro @ec4 @el3) (And.intro @et4 (And.intro @cP3 @dH4)))) (And.intro (And.intro (And.intro @cP4 @dH5) (And.intro @dH6 (And.intro @df2 @cY2))) (And.intro (And.intro @cY1 @dH3) (And.intro @el5 (And.intro @el4 @df1)))))) (And.intro (And.intro (And.intro (And.intro (And.intro @el7 @el6) (And.intro @ec2 (And.intro @cK2 @dG4))) (And.intro (And.intro @ek8 @cP1) (And.intro @dB1 (And.intro @de8 @ek3)))) (And.intro (And.intro (And.intro @ek9 @dB0) (And.intro @ec1 (And.intro @dG6 @ec0))) (And.intro (And.intro @ev.eq_1 @ev.eq_2) (And.intro @ev.eq_3 (And.intro @ev.eq_4 @A5.eq_1))))) (And.intro (And.intro (And.intro (And.intro @A5.eq_2 @ep8) (And.intro @el0 (And.intro @em0 @em1))) (And.intro (And.intro @List.map_cons.{0,0} @List.map_nil.{0,0}) (And.intro @List.map_toArray.{0,0} (And.intro @bP8.eq_1 @bP8.eq_2)))) (And.intro (And.intro (And.intro @db7 @eb1) (And.intro @eb2 (And.intro @cv4.eq_1 @List.getElem?_toArray.{0}))) (And.intro (And.intro @List.getElem?_cons_zero.{0} (And.intro @List.getElem?_cons_succ.{0} @Option.bind_some.{0,0})) (And.intro @Option.some.injEq.{0} (And.intro @eB6 @Bool.true_eq_false))))))):=(And.intro (And.intro (And.intro (And.intro (And.intro (And.intro @bd8 @dZ6) (And.intro @dY9 (And.intro @dB4 @dZ2))) (And.intro (And.intro @dZ3 @dZ0) (And.intro @dZ1 (And.intro @ed1 @ec7)))) (And.intro (And.intro (And.intro @dJ4 @ec8) (And.intro @ec9 (And.intro @dC6 @dA1))) (And.intro (And.intro @dC7 @dC8) (And.intro @eb5 (And.intro @eb4 @dZ9))))) (And.intro (And.intro (And.intro (And.intro @ed3 @ep9) (And.intro @dB2 (And.intro @ec3 @dB3))) (And.intro (And.intro @ec4 @el3) (And.intro @et4 (And.intro @cP3 @dH4)))) (And.intro (And.intro (And.intro @cP4 @dH5) (And.intro @dH6 (And.intro @df2 @cY2))) (And.intro (And.intro @cY1 @dH3) (And.intro @el5 (And.intro @el4 @df1)))))) (And.intro (And.intro (And.intro (And.intro (And.intro @el7 @el6) (And.intro @ec2 (And.intro @cK2 @dG4))) (And.intro (And.intro @ek8 @cP1) (And.intro @dB1 (And.intro @de8 @ek3)))) (And.intro (And.intro (And.intro @ek9 @dB0) (And.intro @ec1 (And.intro @dG6 @ec0))) (And.intro (And.intro @ev.eq_1 @ev.eq_2) (And.intro @ev.eq_3 (And.intro @ev.eq_4 @A5.eq_1))))) (And.intro (And.intro (And.intro (And.intro @A5.eq_2 @ep8) (And.intro @el0 (And.intro @em0 @em1))) (And.intro (And.intro @List.map_cons.{0,0} @List.map_nil.{0,0}) (And.intro @List.map_toArray.{0,0} (And.intro @bP8.eq_1 @bP8.eq_2)))) (And.intro (And.intro (And.intro @db7 @eb1) (And.intro @eb2 (And.intro @cv4.eq_1 @List.getElem?_toArray.{0}))) (And.intro (And.intro @List.getElem?_cons_zero.{0} (And.intro @List.getElem?_cons_succ.{0} @Option.bind_some.{0,0})) (And.intro @Option.some.injEq.{0} (And.intro @eB6 @Bool.true_eq_false)))))))
theorem n9:type_of% (And.intro (And.intro (And.intro (And.intro (And.intro @dG5 (And.intro @dG2 @dD6)) (And.intro @Option.map_some.{0,0} (And.intro @Option.map_none.{0,0} @Int.toNat_zero))) (And.intro (And.intro @Option.isNone_none.{0} (And.intro @Option.isNone_some.{0} @J8)) (And.intro @bz6.eq_1 (And.intro @bz6.eq_2 @cL9.eq_1)))) (And.intro (And.intro (And.intro @aX2.eq_1 (And.intro @aX2.eq_2 @cz2.eq_1)) (And.intro @cz1.eq_1 (And.intro @TY @Option.isSome_some.{0}))) (And.intro (And.intro @eE6 (And.intro @Bool.and_true @eE8)) (And.intro @ex8 (And.intro @ek0 @Int.cast_ofNat_Int))))) (And.intro (And.intro (And.intro (And.intro @decide_true (And.intro @add_lit @ey7)) (And.intro @Nat.zero_mul (And.intro @Nat.one_mul @Bool.not_true))) (And.intro (And.intro @Bool.not_false (And.intro @ek1 @dF4)) (And.intro @ea6 (And.intro @ea5 @ea4)))) (And.intro (And.intro (And.intro @ea3 (And.intro @ea2 @ea9)) (And.intro @ea0 (And.intro @eb0 @dC5))) (And.intro (And.intro @dC4 (And.intro @ea1 @ea8)) (And.intro (And.intro @bZ6 @cL2) (And.intro @ea7 @ep7)))))):=(And.intro (And.intro (And.intro (And.intro (And.intro @dG5 (And.intro @dG2 @dD6)) (And.intro @Option.map_some.{0,0} (And.intro @Option.map_none.{0,0} @Int.toNat_zero))) (And.intro (And.intro @Option.isNone_none.{0} (And.intro @Option.isNone_some.{0} @J8)) (And.intro @bz6.eq_1 (And.intro @bz6.eq_2 @cL9.eq_1)))) (And.intro (And.intro (And.intro @aX2.eq_1 (And.intro @aX2.eq_2 @cz2.eq_1)) (And.intro @cz1.eq_1 (And.intro @TY @Option.isSome_some.{0}))) (And.intro (And.intro @eE6 (And.intro @Bool.and_true @eE8)) (And.intro @ex8 (And.intro @ek0 @Int.cast_ofNat_Int))))) (And.intro (And.intro (And.intro (And.intro @decide_true (And.intro @add_lit @ey7)) (And.intro @Nat.zero_mul (And.intro @Nat.one_mul @Bool.not_true))) (And.intro (And.intro @Bool.not_false (And.intro @ek1 @dF4)) (And.intro @ea6 (And.intro @ea5 @ea4)))) (And.intro (And.intro (And.intro @ea3 (And.intro @ea2 @ea9)) (And.intro @ea0 (And.intro @eb0 @dC5))) (And.intro (And.intro @dC4 (And.intro @ea1 @ea8)) (And.intro (And.intro @bZ6 @cL2) (And.intro @ea7 @ep7))))))
theorem dd4:af6 prog 211=true:=by kernel_rfl
theorem eh3:af6 prog 212=true:=by kernel_rfl
theorem eh4:af6 prog 213=true:=by kernel_rfl
theorem ei7:af6 prog 251=true:=by kernel_rfl
theorem bi6(c:UInt8)(w:World):Calls prog 211 #[.int .u8 c.toNat] w fun e w'=>∃u,e = .returned u∧(u = .bool (av7 c)∧w'=w):=by
 refine d9 (args:=[.int .u8 c.toNat]) hm func211 rfl (by kernel_rfl) (by show 1≤_;decide +kernel) ?_;unfold av7;have h1:decide ((97:Int)≤(c.toNat:Int))=decide (97≤c.toNat):=ez8.2 (by omega);have h2:decide ((c.toNat:Int)≤(122:Int))=decide (c.toNat≤122):=ez8.2 (by omega);cases hb:decide (97≤c.toNat)
 ·simp only[n3,n9,simprocAttr,h1,hb];refine n7 results211 ?_;simp only[p6,simprocAttr];exact⟨by trivial,by trivial⟩
 ·simp only[n3,n9,simprocAttr,h1,h2,hb];refine n7 results211 ?_;simp only[p6,simprocAttr];exact⟨by simp,by trivial⟩
theorem cj0(c:UInt8)(w:World):Calls prog 251 #[.int .u8 c.toNat] w fun e w'=>∃u,e = .returned u∧(u = .bool (by9 c)∧w'=w):=by
 refine d9 (args:=[.int .u8 c.toNat]) hm func251 rfl (by kernel_rfl) (by show 1≤_;decide +kernel) ?_;unfold by9;have h1:decide ((48:Int)≤(c.toNat:Int))=decide (48≤c.toNat):=ez8.2 (by omega);have h2:decide ((c.toNat:Int)≤(57:Int))=decide (c.toNat≤57):=ez8.2 (by omega);cases hb:decide (48≤c.toNat)
 ·simp only[n3,n9,simprocAttr,h1,hb];refine n7 results251 ?_;simp only[p6,simprocAttr];exact⟨by trivial,by trivial⟩
 ·simp only[n3,n9,simprocAttr,h1,h2,hb];refine n7 results251 ?_;simp only[p6,simprocAttr];exact⟨by simp,by trivial⟩
theorem cq2(s:A4)(w:World):Calls prog 213 #[o7 s] w fun e w'=>∃u,e = .returned u∧(u = .bool (bO7 s)∧w'=w):=by
 refine d9 (args:=[o7 s]) hm func213 rfl (by kernel_rfl) (by show 1≤_;decide +kernel) ?_;have hw:bO7 s=bY5.any fun x=>decide (s=x):=by
  unfold bO7;rw[←List.any_beq]
  congr 1
 simp only[bY5,List.any_cons,List.any_nil]at hw;simp only[n3,n9,simprocAttr];refine i5 (fun h1=>?_) (fun h1=>?_)
 ·simp only[n3,simprocAttr,h1];refine n7 results213 ?_;simp only[p6,simprocAttr];exact⟨by rw[hw];simp only[h1,eG9],by trivial⟩
 simp only[n3,n9,simprocAttr];refine i5 (fun h2=>?_) (fun h2=>?_)
 ·simp only[n3,simprocAttr,h2];refine n7 results213 ?_;simp only[p6,simprocAttr];exact⟨by rw[hw];simp only[h2,eG9,eH0],by trivial⟩
 simp only[n3,n9,simprocAttr];refine i5 (fun h3=>?_) (fun h3=>?_)
 ·simp only[n3,simprocAttr,h3];refine n7 results213 ?_;simp only[p6,simprocAttr];exact⟨by rw[hw];simp only[h3,eG9,eH0],by trivial⟩
 simp only[n3,n9,simprocAttr];refine i5 (fun h4=>?_) (fun h4=>?_)
 ·simp only[n3,simprocAttr,h4];refine n7 results213 ?_;simp only[p6,simprocAttr];exact⟨by rw[hw];simp only[h4,eG9,eH0],by trivial⟩
 simp only[n3,n9,simprocAttr];refine i5 (fun h5=>?_) (fun h5=>?_)
 ·simp only[n3,simprocAttr,h5];refine n7 results213 ?_;simp only[p6,simprocAttr];exact⟨by rw[hw];simp only[h5,eG9,eH0],by trivial⟩
 simp only[n3,n9,simprocAttr];refine i5 (fun h6=>?_) (fun h6=>?_)
 ·simp only[n3,simprocAttr,h6];refine n7 results213 ?_;simp only[p6,simprocAttr];exact⟨by rw[hw];simp only[h6,eG9,eH0],by trivial⟩
 simp only[n3,n9,simprocAttr];refine i5 (fun h7=>?_) (fun h7=>?_)
 ·simp only[n3,simprocAttr,h7];refine n7 results213 ?_;simp only[p6,simprocAttr];exact⟨by rw[hw];simp only[h7,eG9,eH0],by trivial⟩
 simp only[n3,n9,simprocAttr];refine i5 (fun h8=>?_) (fun h8=>?_)
 ·simp only[n3,simprocAttr,h8];refine n7 results213 ?_;simp only[p6,simprocAttr];exact⟨by rw[hw];simp only[h8,eG9,eH0],by trivial⟩
 simp only[n3,n9,simprocAttr];refine i5 (fun h9=>?_) (fun h9=>?_)
 ·simp only[n3,simprocAttr,h9];refine n7 results213 ?_;simp only[p6,simprocAttr];exact⟨by rw[hw];simp only[h9,eG9,eH0],by trivial⟩
 simp only[n3,n9,simprocAttr];refine i5 (fun h10=>?_) (fun h10=>?_)
 ·simp only[n3,simprocAttr,h10];refine n7 results213 ?_;simp only[p6,simprocAttr];exact⟨by rw[hw];simp only[h10,eG9,eH0],by trivial⟩
 simp only[n3,n9,simprocAttr];refine i5 (fun h11=>?_) (fun h11=>?_)
 ·simp only[n3,simprocAttr,h11];refine n7 results213 ?_;simp only[p6,simprocAttr];exact⟨by rw[hw];simp only[h11,eG9,eH0],by trivial⟩
 simp only[n3,n9,simprocAttr];refine i5 (fun h12=>?_) (fun h12=>?_)
 ·simp only[n3,simprocAttr,h12];refine n7 results213 ?_;simp only[p6,simprocAttr];exact⟨by rw[hw];simp only[h12,eG9,eH0],by trivial⟩
 simp only[n3,n9,simprocAttr];refine i5 (fun h13=>?_) (fun h13=>?_)
 ·simp only[n3,simprocAttr];refine n7 results213 ?_;simp only[p6,simprocAttr];exact⟨by rw[hw];simp only[h13,eG9,eH0],by trivial⟩
 ·simp only[n3,simprocAttr];refine n7 results213 ?_;simp only[p6,simprocAttr];exact⟨by rw[hw];simp only[h1,h2,h3,h4,h5,h6,h7,h8,h9,h10,h11,h12,h13,Bool.or_false],by trivial⟩
theorem cM0{s:A4}{k:Nat}(hk:k<s.b.length):∃c,chr s k=some c∧s.b.take (k+1)=s.b.take k++[c]∧c∈s.b:=
 ⟨_,ev2 hk,ew1 hk,ew2 hk⟩
theorem cQ1(s:A4)(w:World)(hl:s.b.length≤1000000):Calls prog 212 #[o7 s,.int .i64 0] w fun e w'=>∃u,e = .returned u∧(∃k:Nat,u = .int .i64 k∧decide (k=s.b.length)=s.b.all Z3∧w'=w):=by
 refine d9 (args:=[o7 s,.int .i64 0]) hm func212 rfl (by kernel_rfl) (by show 2≤_;decide +kernel) ?_;simp only[n3,n9,simprocAttr];refine n8 [0] (σ:=Nat) (fun k f w'=>f 1 = .int .i64 k∧k≤s.b.length∧(s.b.take k).all Z3=true∧w'=w) (fun k=>s.b.length-k) 0 (by decide +kernel) ?_ ?_
 ·simp only[p6,simprocAttr];exact⟨by trivial,ew4 _,by simp,by trivial⟩
 ·rintro k f w' hk ⟨h1,hkl,hall,rfl⟩;simp only[ev4,p6,simprocAttr]at hk;obtain⟨g0,_⟩:=hk;by_cases hlt:k<s.b.length
  ·have hd:decide ((k:Int)<(s.b.length:Nat))=true:=by simpa using hlt
   obtain⟨c,hc,htk,hmem⟩:=cM0 hlt;have hix:=cX4 (P:=prog) (t:=9) (k:=.i64) dw7 dj0 hc;simp only[n3,n9,simprocAttr,g0,h1,hd,hix];refine y5 dd4 (bi6 c _) ?_;rintro u w1 ⟨rfl,rfl⟩;cases hlet:av7 c
   ·simp only[n3,simprocAttr,g0,h1,hix];refine y5 ei7 (cj0 c _) ?_;rintro u w2 ⟨rfl,rfl⟩;cases hdig:by9 c
    ·simp only[n3,simprocAttr,h1];refine n7 results212 ?_;simp only[p6,simprocAttr];refine⟨k,by trivial,?_,by trivial⟩;have h2:s.b.all Z3=false:=by
      rw[eF7];intro h3;have:=eE2.1 h3 c hmem;simp[Z3,hlet,hdig]at this
     rw[h2];simp;omega
    ·simp only[n3,n9,simprocAttr,h1];refine⟨k+1,by omega,by rw[B1 k (by omega)],by omega,?_,by trivial⟩;rw[htk,List.all_append,hall];simp[Z3,hdig]
   ·simp only[n3,n9,simprocAttr,h1];refine⟨k+1,by omega,by rw[B1 k (by omega)],by omega,?_,by trivial⟩;rw[htk,List.all_append,hall];simp[Z3,hlet]
  ·have hd:decide ((k:Int)<(s.b.length:Nat))=false:=by simpa using hlt
   have hke:k=s.b.length:=by omega
   simp only[n3,n9,simprocAttr,g0,h1,hd];refine n7 results212 ?_;simp only[p6,simprocAttr];refine⟨k,by trivial,?_,by trivial⟩;subst hke;rw[ew5]at hall;rw[hall];simp
theorem az9(s:A4)(w:World):Calls prog 147 #[o7 s] w fun e w'=>∃u,e = .returned u∧(u = .bool (N9 s)∧w'=w):=by
 refine d9 (args:=[o7 s]) hm func147 rfl (by kernel_rfl) (by show 1≤_;decide +kernel) ?_;cases hs:s.b with
 | nil=>
  have hl:s.b.length=0:=by rw[hs];rfl
  have h1:decide (((s.b.length:Nat):Int)<1)=true:=by rw[hl];rfl
  simp only[n3,n9,simprocAttr,h1];refine n7 results147 ?_;simp only[p6,simprocAttr];exact⟨by rw[N9,hs],by trivial⟩
 | cons c l=>
  have hl:s.b.length=l.length+1:=by rw[hs];rfl
  have hnf:N9 s=(decide (l.length<8)&&av7 c&&l.all Z3 && !bO7 s):=by rw[N9,hs]
  have hall:s.b.all Z3=(Z3 c&&l.all Z3):=by rw[hs];rfl
  have h1:decide (((s.b.length:Nat):Int)<1)=false:=by rw[hl];simp;omega
  have hc:chr s 0=some c:=by unfold chr;rw[hs];rfl
  have hix:aK5 prog 9 (o7 s) (.int .i64 0)=some (.int .u8 (c.toNat:Int)):=cX4 (k:=.i64) (i:=0) dw7 dj0 hc;cases h2:decide ((8:Int)<((s.b.length:Nat):Int))
  ·have hl8:l.length<8:=by simp at h2;omega
   simp only[n3,n9,simprocAttr,h1,h2,hix];refine y5 dd4 (bi6 c _) ?_;rintro u w1 ⟨rfl,rfl⟩;cases hlet:av7 c
   ·simp only[n3,n9,simprocAttr];refine n7 results147 ?_;simp only[p6,simprocAttr];exact⟨by rw[hnf,hlet];simp,by trivial⟩
   ·simp only[n3,n9,simprocAttr];refine y5 eh3 (cQ1 s _ (by omega)) ?_;rintro u w2 ⟨k,rfl,hk,rfl⟩;have hk2:decide ((k:Int)=((s.b.length:Nat):Int))=l.all Z3:=by
     rw[hall,show Z3 c=true by simp[Z3,hlet],eE6]at hk;rw[←hk];exact ez8.2 (by omega)
    cases ha:l.all Z3
    ·rw[ha]at hk2;simp only[n3,n9,simprocAttr,hk2];refine n7 results147 ?_;simp only[p6,simprocAttr];exact⟨by rw[hnf,ha];simp,by trivial⟩
    ·rw[ha]at hk2;simp only[n3,n9,simprocAttr,hk2];refine y5 eh4 (cq2 s _) ?_;rintro u w3 ⟨rfl,rfl⟩;simp only[n3,n9,simprocAttr];refine n7 results147 ?_;simp only[p6,simprocAttr];exact⟨by rw[hnf,ha,hlet];simp[hl8],by trivial⟩
  ·simp only[n3,n9,simprocAttr,h1,h2];refine n7 results147 ?_;simp only[p6,simprocAttr];exact⟨by rw[hnf,show decide (l.length<8)=false by simp at h2 ⊢;omega];rfl,by trivial⟩
theorem eF8:type_of% @List.sum_cons:=@List.sum_cons
theorem D5:type_of% (And.intro (And.intro (And.intro (And.intro @dZ8 @ed2) (And.intro @eb9 @dA9)) (And.intro (And.intro @de7 @ek2) (And.intro @cK0 @dG1))) (And.intro (And.intro (And.intro @ek7 @cO9) (And.intro @dA8 @eb8)) (And.intro (And.intro @dG3 @eb7) (And.intro @List.drop_succ_cons.{0} @List.drop_zero.{0})))):=(And.intro (And.intro (And.intro (And.intro @dZ8 @ed2) (And.intro @eb9 @dA9)) (And.intro (And.intro @de7 @ek2) (And.intro @cK0 @dG1))) (And.intro (And.intro (And.intro @ek7 @cO9) (And.intro @dA8 @eb8)) (And.intro (And.intro @dG3 @eb7) (And.intro @List.drop_succ_cons.{0} @List.drop_zero.{0}))))
theorem cw9:af6 prog 185=true:=by kernel_rfl
theorem cX2:af6 prog 59=true:=by kernel_rfl
theorem aA8(l:List St){k:Nat}(hk:k<l.length):A7 (l.take (k+1))=A7 (l.take k)+Y6 l[k]:=by
 rw[ew1 hk,aK1];simp[A7]
theorem am1(l:List St)(k:Nat):A7 (l.take k)≤A7 l:=by
 have:=aK1 (l.take k) (l.drop k);rw[eA3]at this;omega
theorem bl1:∀(m:Nat) (t:St) (v:Value) (w:World),Y6 t≤m→SV (d7 w) v t→O5 t≤1000000→Calls prog 185 #[v] w fun e w'=>∃u,e = .returned u∧(u = .int .i64 (Y6 t:Nat)∧o6 w w')
 | 0,t,v,w,hsm,_,_=>absurd (bv6 t) (by omega)
 | m+1,t,v,w,hsm,hv,hwt=>by
  refine d9 (args:=[v]) hm func185 rfl (by kernel_rfl) (by show 1≤_;decide +kernel) ?_;obtain⟨a,w1,hbx,hx,ha⟩:=ai6 hv (i4 _);obtain⟨vl,va,vt,ve,hl,hra,ht,he,hatx,ld,sd⟩:=ha.st;have l1:=ld w1 (i4 _);have hS1:=ht.isS;have hn1:=ht.vlen;have hS2:=he.isS;have hn2:=he.vlen;have hsz:=bx3 t;have heq:=at8 t;have hwe:=P8 t;have hc1:=R6 t.thn;have hc2:=R6 t.els;simp only[n3,n9,simprocAttr,hbx,l1,hS1,hn1];refine n8 [1,9,10] (σ:=Nat) (fun k f w'=>f 11 = .int .i64 k∧k≤t.thn.length∧f 3 = .int .i64 ((1+A7 (t.thn.take k):Nat):Int)∧o6 w1 w') (fun k=>t.thn.length-k) 0 (by decide +kernel) ?_ ?_
  ·simp only[p6,simprocAttr];exact⟨by trivial,ew4 _,by simp[A7],o9.refl _⟩
  ·rintro k f w2 hk ⟨h11,hkl,h3,hx2⟩;simp only[ev4,p6,simprocAttr]at hk;obtain⟨e1,e9,e10,_⟩:=hk;simp only[n3,n9,simprocAttr,h11,e10];refine i5 (fun hc=>?_) (fun hc=>?_)
   ·have hlt:k<t.thn.length:=by simpa using hc
    have hin:=ht.inS hlt;obtain⟨sv,hsv,hld⟩:=G1 (P:=prog) (t:=47) ht (b7 hx2) (ev2 hlt) bb0 bb5 aR3 ah0;rw[ah0]at hld;have htk:=aA8 t.thn hlt;have hle1:=am1 t.thn (k+1);have hwm:=af4 (ew2 hlt);generalize t.thn[k]=s at hsv htk hwm;obtain⟨b,wz,w3,hal,hst,hx3,hat⟩:=aR8 (hsv.mono (b7 hx2)) (i4 _);obtain⟨ss,hss,lss,_⟩:=hat.st_v;have l3:=lss w3 (i4 _);simp only[n3,n9,p9,simprocAttr,h11,e9,hin,hld,hal,hst,l3,h3];refine B3 cw9 (bl1 m s ss w3 (by omega) hss (by omega)) (fun w4 hx4=>?_);simp only[n3,n9,simprocAttr,h11];exact⟨k+1,by omega,by rw[B1 k (by omega)],by omega,by rw[K1 _ (by omega)];congr 1;omega,hx2.trans (hx3.trans hx4)⟩
   ·have hge:k=t.thn.length:=by simp at hc;omega
    subst hge;rw[ew5]at h3;have l2:=ld w2 (b7 hx2);simp only[n3,n9,simprocAttr,e1,l2,hS2,hn2];refine n8 [1,21,22] (σ:=Nat) (fun k f w'=>f 23 = .int .i64 k∧k≤t.els.length∧f 3 = .int .i64 ((1+A7 t.thn+A7 (t.els.take k):Nat):Int)∧o6 w1 w') (fun k=>t.els.length-k) 0 (by decide +kernel) ?_ ?_
    ·simp only[p6,simprocAttr];exact⟨by trivial,ew4 _,by simp[A7,h3],hx2⟩
    ·rintro k f w2 hk ⟨h23,hkl,h3,hx2⟩;simp only[ev4,p6,simprocAttr]at hk;obtain⟨e1,e21,e22,_⟩:=hk;simp only[n3,n9,simprocAttr,h23,e22];refine i5 (fun hc=>?_) (fun hc=>?_)
     ·have hlt:k<t.els.length:=by simpa using hc
      have hin:=he.inS hlt;obtain⟨sv,hsv,hld⟩:=G1 (P:=prog) (t:=47) he (b7 hx2) (ev2 hlt) bb0 bb5 aR3 ah0;rw[ah0]at hld;have htk:=aA8 t.els hlt;have hle1:=am1 t.els (k+1);have hwm:=af4 (ew2 hlt);generalize t.els[k]=s at hsv htk hwm;obtain⟨b,wz,w3,hal,hst,hx3,hat⟩:=aR8 (hsv.mono (b7 hx2)) (i4 _);obtain⟨ss,hss,lss,_⟩:=hat.st_v;have l3:=lss w3 (i4 _);simp only[n3,n9,p9,simprocAttr,h23,e21,hin,hld,hal,hst,l3,h3];refine B3 cw9 (bl1 m s ss w3 (by omega) hss (by omega)) (fun w4 hx4=>?_);simp only[n3,n9,simprocAttr,h23];exact⟨k+1,by omega,by rw[B1 k (by omega)],by omega,by rw[K1 _ (by omega)];congr 1;omega,hx2.trans (hx3.trans hx4)⟩
     ·have hge:k=t.els.length:=by simp at hc;omega
      subst hge;rw[ew5]at h3;simp only[n3,simprocAttr,h3];refine n7 results185 ?_;simp only[p6,simprocAttr];exact⟨by rw[heq],hx.trans hx2⟩
theorem ci8:∀(m:Nat) (l:List St) (v:Value) (w:World),A7 l≤m→R (d7 w) v l→G6 l≤1000000→Calls prog 59 #[v] w fun e w'=>∃u,e = .returned u∧(u = .int .i64 (A7 l:Nat)∧o6 w w'):=by
 intro m
 induction m with
 | zero=>
  intro l v w hsm hv hwt;have hl0:l.length=0:=by have:=R6 l;omega
  refine d9 (args:=[v]) hm func59 rfl (by kernel_rfl) (by show 1≤_;decide +kernel) ?_;have hS:=hv.isS;have hn:=hv.vlen;simp only[n3,n9,simprocAttr,hS,hn];refine n8 [7,8] (σ:=Nat) (fun k f w'=>f 9 = .int .i64 0∧f 3 = .int .i64 ((l.length:Nat):Int)∧w'=w) (fun k=>0) 0 (by decide +kernel) ?_ ?_
  ·simp only[p6,simprocAttr];exact⟨by trivial,by trivial,by trivial⟩
  ·rintro k f w2 hk ⟨h9,h3,rfl⟩;simp only[ev4,p6,simprocAttr]at hk;obtain⟨e7,e8,_⟩:=hk;have d0:decide ((0:Int)<((l.length:Nat):Int))=false:=by rw[hl0];decide
   simp only[n3,n9,simprocAttr,h9,e8,d0,h3];refine n7 results59 ?_;simp only[p6,simprocAttr];exact⟨by rw[List.eq_nil_of_length_eq_zero hl0];rfl,o9.refl _⟩
 | succ m ih=>
  intro l v w hsm hv hwt;refine d9 (args:=[v]) hm func59 rfl (by kernel_rfl) (by show 1≤_;decide +kernel) ?_;have hS:=hv.isS;have hn:=hv.vlen;have hwsz:=ao7 l;have hcl:=R6 l;simp only[n3,n9,simprocAttr,hS,hn];refine n8 [0,7,8] (σ:=Nat) (fun k f w'=>f 9 = .int .i64 k∧k≤l.length∧f 3 = .int .i64 ((l.length+A7 (l.take k)-k:Nat):Int)∧o6 w w') (fun k=>l.length-k) 0 (by decide +kernel) ?_ ?_
  ·simp only[p6,simprocAttr];exact⟨by trivial,ew4 _,by simp[A7],o9.refl _⟩
  ·rintro k f w2 hk ⟨h9,hkl,h3,hx2⟩;simp only[ev4,p6,simprocAttr]at hk;obtain⟨e0,e7,e8,_⟩:=hk;have hlk:=R6 (l.take k);rw[ew6,eB8 hkl]at hlk;simp only[n3,n9,simprocAttr,h9,e8];refine i5 (fun hc=>?_) (fun hc=>?_)
   ·have hlt:k<l.length:=by simpa using hc
    have hin:=hv.inS hlt;have hat:=(hv.at_ (ev2 hlt));have htk:=aA8 l hlt;have hle1:=am1 l (k+1);have hwm:=af4 (ew2 hlt);generalize l[k]=t at hat htk hwm;have heq:=at8 t;have hwe:=P8 t;obtain⟨vl,va,vt,ve,hl',hra,ht,he,hatx,ld,sd⟩:=hat.st;have hxd:=hx2.trans (o6.drew w2);have s2:=sd (fun w'=>o6 w2.drew w') w2.drew (o9.refl _) (fun w' h=>b7 (hxd.trans h));have hz:z7.sz St=13:=rfl;rw[hz]at s2;simp only[n3,simprocAttr,h9];refine C2 (fun w'=>o6 w2.drew w') 16 (A8 [0,1,2,3,4,5,7,8,9,10,11,6,12,13,14,15]) (by decide +kernel) (o9.refl _) ?_;simp only[D5,A8,n3,n9,p9,simprocAttr,e0,h3,hin,s2];refine B3 cX2 (ih t.thn vt _ (by omega) (z7.mono (b7 hxd) ht) (by omega)) (fun w3 hx3=>?_);simp only[D5,n3,simprocAttr,F7];refine⟨hx3,?_⟩;refine B3 cX2 (ih t.els ve _ (by omega) (z7.mono (b7 (hxd.trans hx3)) he) (by omega)) (fun w4 hx4=>?_);have hw1:IntKind.i64.wrap (((A7 t.thn:Nat):Int)+((A7 t.els:Nat):Int))=((A7 t.thn+A7 t.els:Nat):Int):=by rw[K1 _ (by omega)];omega
    have hw2:IntKind.i64.wrap (((l.length+A7 (l.take k)-k:Nat):Int)+((A7 t.thn+A7 t.els:Nat):Int))=((l.length+A7 (l.take (k+1))-(k+1):Nat):Int):=by rw[K1 _ (by omega)];omega
    simp only[D5,n3,n9,simprocAttr,F7,hw1,hw2,h9];refine⟨hx3.trans hx4,?_⟩;exact⟨k+1,by omega,by rw[B1 k (by omega)],by omega,by trivial,hxd.trans (hx3.trans hx4)⟩
   ·have hge:k=l.length:=by simp at hc;omega
    subst hge;rw[ew5]at h3;simp only[n3,simprocAttr,h3];refine n7 results59 ?_;simp only[p6,simprocAttr];exact⟨by congr 1;congr 1;omega,hx2⟩
def bF0(p:Pg):Nat:=(p.procs.map fun f=>A7 f.body).sum
theorem bd0:∀(l:List Pr),3*(l.map fun f=>A7 f.body).sum≤az2 l
 | []=>by simp[az2]
 | f::l=>by
  have h1:=bd0 l;have h2:=ao7 f.body;simp only[ez9,eF8,az2,T8];omega
theorem cf8(v:Value)(p:Pg)(w:World)(hv:SV (d7 w) v p)(hwt:C8 p≤1000000):Calls prog 39 #[v] w fun e w'=>∃u,e = .returned u∧(u = .int .i64 (bF0 p:Nat)∧o6 w w'):=by
 refine d9 (args:=[v]) hm func39 rfl (by kernel_rfl) (by show 1≤_;decide +kernel) ?_;obtain⟨a,w1,hbx,hx,ha⟩:=U0 hv (i4 _);obtain⟨vg,vp,hg,hp,ld,sd⟩:=ha.pg;have l1:=ld w1 (i4 _);have hS:=hp.isS;have hn:=hp.vlen;have hpl:=ab4 p.procs;have hcp:=bd0 p.procs;unfold C8 at hwt;simp only[n3,n9,simprocAttr,hbx,l1,hS,hn];refine n8 [1,7,8] (σ:=Nat) (fun k f w'=>f 9 = .int .i64 k∧k≤p.procs.length∧f 3 = .int .i64 ((((p.procs.take k).map fun f=>A7 f.body).sum:Nat):Int)∧o6 w1 w') (fun k=>p.procs.length-k) 0 (by decide +kernel) ?_ ?_
 ·simp only[p6,simprocAttr];exact⟨by trivial,ew4 _,by simp,o9.refl _⟩
 ·rintro k f w2 hk ⟨h9,hkl,h3,hx2⟩;simp only[ev4,p6,simprocAttr]at hk;obtain⟨e1,e7,e8,_⟩:=hk;simp only[n3,n9,simprocAttr,h9,e8];refine i5 (fun hc=>?_) (fun hc=>?_)
  ·have hlt:k<p.procs.length:=by simpa using hc
   have hin:=hp.inS hlt;obtain⟨sv,hsv,hld⟩:=G1 (P:=prog) (t:=53) hp (b7 hx2) (ev2 hlt) ao0 ao4 ao1 O1;rw[O1]at hld;have htk:((p.procs.take (k+1)).map fun f=>A7 f.body).sum=((p.procs.take k).map fun f=>A7 f.body).sum+A7 p.procs[k].body:=by
    rw[ew1 hlt,ey5,List.sum_append];simp
   have hle1:((p.procs.take (k+1)).map fun f=>A7 f.body).sum≤(p.procs.map fun f=>A7 f.body).sum:=by
    conv=>rhs;rw[←eA3 (k+1) p.procs,ey5,List.sum_append]
    omega
   have hwm:=al2 (ew2 hlt);generalize p.procs[k]=q at hsv htk hwm;obtain⟨b,wz,w3,hal,hst,hx3,hat⟩:=aG7 (hsv.mono (b7 hx2)) (i4 _);obtain⟨_,_,vb,_,_,_,hrb,_,ldq,_⟩:=hat.pr;have l3:=ldq w3 (i4 _);simp only[n3,n9,p9,simprocAttr,h9,e7,hin,hld,hal,hst,l3,h3];refine B3 cX2 (ci8 _ q.body vb w3 (ew8 _) hrb (by unfold T8 at hwm;omega)) (fun w4 hx4=>?_);simp only[n3,n9,simprocAttr,h9];exact⟨k+1,by omega,by rw[B1 k (by omega)],by omega,by rw[K1 _ (by omega)];congr 1;omega,hx2.trans (hx3.trans hx4)⟩
  ·have hge:k=p.procs.length:=by simp at hc;omega
   subst hge;rw[ew5]at h3;simp only[n3,simprocAttr,h3];refine n7 results39 ?_;simp only[p6,simprocAttr];exact⟨by trivial,hx.trans hx2⟩
def bI6(x:A4):List A4→List A4
 | []=>[x]
 | y::l=>if Z0 y x then y::bI6 x l else x::y::l
def R4:List A4→List A4
 | []=>[]
 | x::l=>bI6 x (R4 l)
def H9{α:Type}[DecidableEq α]:List α→List α
 | []=>[]
 | [x]=>[x]
 | x::y::l=>if x=y then H9 (y::l)else x::H9 (y::l)
def C6(l:List A4):List A4:=H9 (R4 l)
mutual
def U7:St→Nat→Int→Int→Int→Int→List It
 | .mk id kind labels name proc x has args thn els,k,pr,up,nx,lp=>
  let me:Int:=k+1
  let nx':=if kind=6 then me else nx
  let lp':=if kind=6 then me else lp
  let a:=C4 thn (k+1) pr me nx' lp'
  ⟨.mk id kind labels name proc x has args thn els,pr,up,nx,lp⟩::(a++C4 els (k+1+a.length) pr me nx' lp')
def C4:List St→Nat→Int→Int→Int→Int→List It
 | [],_,_,_,_,_=>[]
 | t::l,k,pr,up,nx,lp=>
  let a:=U7 t k pr up (if l.length=0 then nx else k+1+Y6 t) lp
  a++C4 l (k+a.length) pr up nx lp
end
def E6(s:Sh)(i:Nat)(f:Pr):Sh:=
 let a:=C4 f.body s.l.length i 0 (-1) 0
 ⟨s.p,s.l++a,s.lo++[(s.l.length:Int)+1],s.hi++[(s.l.length:Int)+a.length+1]⟩
def G2(s:Sh):Nat→List Pr→Sh
 | _,[]=>s
 | i,f::l=>G2 (E6 s i f) (i+1) l
def b9(p:Pg):Sh:=G2 ⟨p,[],[],[]⟩ 0 p.procs
def U5(l:List Int)(i:Int):Int:=l.getD i.toNat 0
def Sh.of(s:Sh)(i:Int):List It:=(s.l.take (U5 s.hi i-1).toNat).drop (U5 s.lo i-1).toNat
def V5{α:Type}(p:α→Bool):Nat→List α→Int
 | _,[]=>-1
 | i,x::l=>if p x then i else V5 p (i+1) l
def S5(procs:List Pr)(n:A4):Int:=V5 (fun f=>decide (f.name=n)) 0 procs
def Sh.pr(s:Sh)(n:A4):Int:=S5 s.p.procs n
def cm7:St:=.mk 0 0 [] e0 e0 (.mk 0 0 e0 []) false [] [] []
def ek5:It:=⟨cm7,0,0,0,0⟩
def bp5:Pr:=⟨e0,[],[],[],[]⟩
def Sh.it(s:Sh)(id:Int):It:=s.l.getD (id-1).toNat ek5
def Sh.fn(s:Sh)(i:Int):Pr:=s.p.procs.getD i.toNat bp5
def Sh.first(s:Sh)(i:Int):Int:=if U5 s.lo i<U5 s.hi i then U5 s.lo i else -1
def Sh.at(s:Sh)(i:Int)(lb:A4):Option Int:=match(s.of i).find? fun it=>it.s.labels.contains lb with
 | some it=>some it.s.id
 | none=>if(s.fn i).fin.contains lb then some (-1)else none
def I7(a:Ar):List A4:=(if a.ref then[a.name]else[])++aa0 a.x
def I3(t:St):List A4:=(if t.kind≠10∧t.name≠e0 then[t.name]else[])++aa0 t.x++t.args.flatMap I7
def ay5(p:Pg)(f:Pr)(n:A4):Int:=match f.params.find? fun a=>decide (a.name=n)with
 | some a=>if a.ref then 3 else 2
 | none=>if f.vars.contains n then 4 else if p.globals.contains n then 1 else 0
def bc2(f:Pr):List A4:=f.params.map (·.name)++f.vars
def X8(l:List A4):Bool:=!decide l.Nodup
def Q4:A4:=ofA #[109,97,105,110]
def ac3(p:Pg)(f:Pr)(procs:List A4)(t:St):Bool:=(I3 t).all (fun n=>!decide (ay5 p f n=0))&&(!decide (t.kind=4)||(!decide (t.proc=Q4)&&procs.contains t.proc))
def W2(p:Pg)(procs:List A4)(f:Pr)(l:List It):Option (Int×Int):=
 if X8 (bc2 f)||(bc2 f).any (fun n=>p.globals.contains n)then some (5,0)
 else match l.find? fun it=>!ac3 p f procs it.s with
  | some it=>some (5,it.s.id)
  | none=>none
def L5(p:Pg)(s:Sh)(procs:List A4):Nat→List Pr→Option (Int×Int)
 | _,[]=>none
 | i,f::l=>match W2 p procs f (s.of i)with
   | some e=>some e
   | none=>L5 p s procs (i+1) l
def L4(p:Pg):Int×Int:=
 if N1 p=false then(1,0)
 else let procs:=p.procs.map (·.name);let first:=S5 p.procs Q4
  if X8 p.globals||X8 procs||decide (first<0)||decide (0<(p.procs.getD first.toNat bp5).params.length)then(5,0)
  else(L5 p (b9 p) procs 0 p.procs).getD (0,0)
def bk5(l:List Pa)(a:List Ar):Bool:=decide (l.length=a.length)&&(l.zip a).all fun x=>x.1.ref==x.2.ref
def ac1(p:Pg)(s:St):Bool:=decide (s.kind=4)&&(match p.procs.find? fun f=>decide (f.name=s.proc)with
 | some f=>bk5 f.params s.args
 | none=>false)
def X0(p:Pg):Int×Int:=if(L4 p).1≠0 then(1,0)else match(b9 p).l.find? fun it=>decide (it.s.kind=4) && !ac1 p it.s with
 | some it=>(6,it.s.id)
 | none=>(0,0)
def am5:List A4→List A4→Option (List A4)
 | seen,[]=>some seen
 | seen,n::l=>if seen.contains n then none else am5 (seen++[n]) l
def am7(s:Sh)(it:It):Bool:=if it.s.kind=7∨it.s.kind=8 then !decide (it.loop=0)else if it.s.kind=10 then(s.at it.proc it.s.name).isSome else true
def ap6(s:Sh):List A4→List It→List A4 ⊕ Int
 | seen,[]=>.inl seen
 | seen,it::l=>match am5 seen it.s.labels with
   | none=>.inr it.s.id
   | some seen'=>if am7 s it then ap6 s seen' l else .inr it.s.id
def am6(s:Sh)(f:Pr)(l:List It):Option (Int×Int):=match ap6 s [] l with
 | .inr id=>some (7,id)
 | .inl seen=>match am5 seen f.fin with
   | none=>some (7,0)
   | some _=>none
def P3(s:Sh):Nat→List Pr→Option (Int×Int)
 | _,[]=>none
 | i,f::l=>match am6 s f (s.of i)with
   | some e=>some e
   | none=>P3 s (i+1) l
def ay4(p:Pg):Int×Int:=if(L4 p).1≠0 then(1,0)else(P3 (b9 p) 0 p.procs).getD (0,0)
def ab8(s:Sh)(n:A4):List A4:=C6 (((s.of (s.pr n)).filter fun it=>decide (it.s.kind=4)).map (·.s.proc))
def Z2(out:List A4):List A4→List A4
 | []=>out
 | n::l=>Z2 (if out.contains n then out else out++[n]) l
def R5(g:A4→List A4):Nat→Nat→List A4→List A4
 | 0,_,out=>out
 | m+1,i,out=>match out[i]? with
   | none=>out
   | some n=>R5 g m (i+1) (Z2 out (g n))
def ar5(s:Sh)(n:A4):List A4:=R4 (R5 (ab8 s) (s.p.procs.length+1) 0 [n])
def aC2(p:Pg)(n:A4):Bool:=decide ((L4 p).1=0)&&p.procs.any fun f=>decide (f.name=n)
def N3(p:Pg)(n:A4):List A4:=if aC2 p n then
  let s:=b9 p
  C6 ((ar5 s n).flatMap fun m=>(s.of (s.pr m)).flatMap fun it=>(I3 it.s).filter fun v=>p.globals.contains v)
 else[]
def ac9(name:A4)(touched:List A4):List A4→List Ar→Bool
 | _,[]=>true
 | seen,a::l=>if a.ref then(if seen.contains a.name||decide (a.name=name)||touched.contains a.name then false else ac9 name touched (seen++[a.name]) l)else ac9 name touched seen l
def ac8(s:St)(touched:List A4):Bool:=ac9 s.name touched [] s.args
def aA3(p:Pg):Int×Int:=if(X0 p).1≠0 then(1,0)else match(b9 p).l.find? fun it=>decide (it.s.kind=4) && !ac8 it.s (N3 p it.s.proc)with
 | some it=>(8,it.s.id)
 | none=>(0,0)
def aA6(p:Pg):Int×Int:=
 if N1 p=false then(1,0)
 else if(L4 p).1≠0 then L4 p
 else if(X0 p).1≠0 then X0 p
 else if(ay4 p).1≠0 then ay4 p
 else aA3 p
def S0(p:Pg):Bool:=decide ((aA6 p).1=0)
theorem am4{α:Type}(p:α→Bool):∀(l:List α) (i k:Nat) (hk:k<l.length),(∀j (hj:j<k),p (l[j]'(by omega))=false)→p l[k]=true→V5 p i l=(i+k:Nat)
 | [],i,k,hk,_,_=>by simp at hk
 | x::l,i,0,hk,h1,h2=>by
  have h2':p x=true:=h2;rw[V5,if_pos h2'];rfl
 | x::l,i,k+1,hk,h1,h2=>by
  have h0:p x=false:=h1 0 (by omega);rw[V5,if_neg (by rw[h0];simp),am4 p l (i+1) k (by simpa using hk) (fun j hj=>h1 (j+1) (by omega)) h2]
  congr 1;omega
theorem as4{α:Type}(p:α→Bool):∀(l:List α) (i:Nat),(∀x∈l,p x=false)→V5 p i l = -1
 | [],i,_=>rfl
 | x::l,i,h=>by
  rw[V5,if_neg (by rw[h x (by simp)];simp)];exact as4 p l (i+1) fun y hy=>h y (eB5 _ hy)
theorem as3{α:Type}(p:α→Bool):∀(l:List α) (i:Nat),decide (0≤V5 p i l)=l.any p
 | [],i=>rfl
 | x::l,i=>by
  rw[V5,List.any_cons];cases hp:p x
  ·rw[if_neg (by simp),as3 p l];rfl
  ·rw[if_pos rfl];simp
theorem aB9{α:Type}(p:α→Bool):∀(l:List α) (i:Nat),0≤V5 p i l→∃k,V5 p i l=(i+k:Nat)∧∃x,l[k]?=some x∧p x=true
 | [],i,h=>by simp[V5]at h
 | x::l,i,h=>by
  rw[V5]at h ⊢;cases hp:p x
  ·rw[hp,if_neg (by simp)]at h;rw[if_neg (by simp)];obtain⟨k,h1,y,h2,h3⟩:=aB9 p l (i+1) h;exact⟨k+1,by rw[h1];congr 1;omega,y,by simpa using h2,h3⟩
  ·rw[if_pos rfl];exact⟨0,by simp,x,rfl,hp⟩
theorem dI7:F2 prog 117 127 17 240=true:=by kernel_rfl
theorem cY8:F2 prog 118 3 1 8=true:=by kernel_rfl
structure ShS (h:Hp) (w:World) (gb:Nat) (vg vp vL vLo vHi:Value) (L:List It) (lo hi:List Int):Prop where
 free:h gb=none
 cell:w.heap[gb]?=some (.cells #[vg,vp,vL,vLo,vHi] 120 (0,0))
 oL:A9 h w 127 vL L
 oLo:A9 h w 3 vLo lo
 oHi:A9 h w 3 vHi hi
 d1:∀b,A3 vL b→b≠gb∧¬A3 vLo b∧¬A3 vHi b
 d2:∀b,A3 vLo b→b≠gb∧¬A3 vHi b
 d3:∀b,A3 vHi b→b≠gb
section
variable {h:Hp} {w:World} {gb:Nat} {vg vp vL vLo vHi:Value} {L:List It} {lo hi:List Int}
theorem ShS.lt(s:ShS h w gb vg vp vL vLo vHi L lo hi):gb<w.heap.size:=(ev9.1 s.cell).1
theorem ShS.mod{M:Nat→Prop}{w':World}(s:ShS h w gb vg vp vL vLo vHi L lo hi)(hm:o9 M w w')(h0:¬M gb)(h1:∀b,A3 vL b→¬M b)(h2:∀b,A3 vLo b→¬M b)(h3:∀b,A3 vHi b→¬M b):ShS h w' gb vg vp vL vLo vHi L lo hi:=
 ⟨s.free,(hm.block gb s.lt h0).trans s.cell,s.oL.mod hm h1,s.oLo.mod hm h2,s.oHi.mod hm h3,s.d1,s.d2,s.d3⟩
theorem ShS.ext{w':World}(s:ShS h w gb vg vp vL vLo vHi L lo hi)(hx:o6 w w'):ShS h w' gb vg vp vL vLo vHi L lo hi:=
 s.mod hx id (fun _ _=>id) (fun _ _=>id) (fun _ _=>id)
theorem ShS.setL{w1 w2:World}{vL':Value}{L':List It}(s:ShS h w gb vg vp vL vLo vHi L lo hi)(h1:o9 (A3 vL) w w1)(ho:A9 h w1 127 vL' L')(hv:F1 w vL vL')
  (h2:o9 (fun b=>b=gb) w1 w2) (hc:w2.heap[gb]?=some (.cells #[vg,vp,vL',vLo,vHi] 120 (0,0))):ShS h w2 gb vg vp vL' vLo vHi L' lo hi:=by
 have hne:∀b,A3 vL' b→b≠gb∧¬A3 vLo b∧¬A3 vHi b:=fun b hb=>by
  rcases hv b hb with k|k
  ·exact s.d1 b k
  ·exact⟨fun e=>by have:=s.lt;omega,fun e=>by have:=s.oLo.lt e;omega,fun e=>by have:=s.oHi.lt e;omega⟩
 refine⟨s.free,hc,ho.mod h2 fun b hb=>(hne b hb).1,(s.oLo.mod h1 fun b hb hb2=>(s.d1 b hb2).2.1 hb).mod h2 fun b hb=>(s.d2 b hb).1,(s.oHi.mod h1 fun b hb hb2=>(s.d1 b hb2).2.2 hb).mod h2 fun b hb=>s.d3 b hb,hne,s.d2,s.d3⟩
theorem ShS.setLo{w1 w2:World}{v':Value}{lo':List Int}(s:ShS h w gb vg vp vL vLo vHi L lo hi)(h1:o9 (A3 vLo) w w1)(ho:A9 h w1 3 v' lo')(hv:F1 w vLo v')
  (h2:o9 (fun b=>b=gb) w1 w2) (hc:w2.heap[gb]?=some (.cells #[vg,vp,vL,v',vHi] 120 (0,0))):ShS h w2 gb vg vp vL v' vHi L lo' hi:=by
 have hne:∀b,A3 v' b→b≠gb∧¬A3 vL b∧¬A3 vHi b:=fun b hb=>by
  rcases hv b hb with k|k
  ·exact⟨(s.d2 b k).1,fun e=>(s.d1 b e).2.1 k,(s.d2 b k).2⟩
  ·exact⟨fun e=>by have:=s.lt;omega,fun e=>by have:=s.oL.lt e;omega,fun e=>by have:=s.oHi.lt e;omega⟩
 refine⟨s.free,hc,(s.oL.mod h1 fun b hb hb2=>(s.d1 b hb).2.1 hb2).mod h2 fun b hb=>(s.d1 b hb).1,ho.mod h2 fun b hb=>(hne b hb).1,(s.oHi.mod h1 fun b hb hb2=>(s.d2 b hb2).2 hb).mod h2 fun b hb=>s.d3 b hb,fun b hb=>⟨(s.d1 b hb).1,fun e=>(hne b e).2.1 hb,(s.d1 b hb).2.2⟩,fun b hb=>⟨(hne b hb).1,(hne b hb).2.2⟩,s.d3⟩
theorem ShS.setHi{w1 w2:World}{v':Value}{hi':List Int}(s:ShS h w gb vg vp vL vLo vHi L lo hi)(h1:o9 (A3 vHi) w w1)(ho:A9 h w1 3 v' hi')(hv:F1 w vHi v')
  (h2:o9 (fun b=>b=gb) w1 w2) (hc:w2.heap[gb]?=some (.cells #[vg,vp,vL,vLo,v'] 120 (0,0))):ShS h w2 gb vg vp vL vLo v' L lo hi':=by
 have hne:∀b,A3 v' b→b≠gb∧¬A3 vL b∧¬A3 vLo b:=fun b hb=>by
  rcases hv b hb with k|k
  ·exact⟨s.d3 b k,fun e=>(s.d1 b e).2.2 k,fun e=>(s.d2 b e).2 k⟩
  ·exact⟨fun e=>by have:=s.lt;omega,fun e=>by have:=s.oL.lt e;omega,fun e=>by have:=s.oLo.lt e;omega⟩
 refine⟨s.free,hc,(s.oL.mod h1 fun b hb hb2=>(s.d1 b hb).2.2 hb2).mod h2 fun b hb=>(s.d1 b hb).1,(s.oLo.mod h1 fun b hb hb2=>(s.d2 b hb).2 hb2).mod h2 fun b hb=>(s.d2 b hb).1,ho.mod h2 fun b hb=>(hne b hb).1,fun b hb=>⟨(s.d1 b hb).1,(s.d1 b hb).2.1,fun e=>(hne b e).2.1 hb⟩,fun b hb=>⟨(s.d2 b hb).1,fun e=>(hne b e).2.2 hb⟩,fun b hb=>(hne b hb).1⟩
end
def T9(h:Hp)(w:World)(tb:Nat)(x:It):Prop:=∃cs:List Value,w.heap[tb]?=some (.cells (List.toArray cs) 127 (0,0))∧z7.enc h cs x
section
variable {h:Hp} {w:World} {tb:Nat} {x:It}
theorem T9.mod{M:Nat→Prop}{w':World}(ht:T9 h w tb x)(hm:o9 M w w')(h0:¬M tb):T9 h w' tb x:=by
 obtain⟨cs,h1,h2⟩:=ht;exact⟨cs,(hm.block tb (ev9.1 h1).1 h0).trans h1,h2⟩
theorem T9.lt(ht:T9 h w tb x):tb<w.heap.size:=by
 obtain⟨cs,h1,h2⟩:=ht;exact(ev9.1 h1).1
theorem T9.new{v:Value}(hv:SV h v x):∃tb wz w',(Instr.alloc 127 true (.tuple #[])).run prog w = .ok (.pointer (some ⟨tb,0,none⟩)) wz∧(Instr.storeAt 127 (.pointer (some ⟨tb,0,none⟩)) v).run prog wz = .ok () w'∧o6 w w'∧w.heap.size≤tb∧T9 h w' tb x:=by
 obtain⟨cs,rfl,he⟩:=hv;obtain⟨h1,h2⟩:=aT9 (P:=prog) (w:=w) (T:=127) bY1 rfl (cs:=List.toArray cs) (by rw[I9];simpa using(show cs.length=17 from z7.len he)) (by simpa using z7.one he);exact⟨w.heap.size,_,_,h1,h2,o6.alloc _ _,ew8 _,cs,ez5 w _,he⟩
theorem T9.ld(ht:T9 h w tb x):∃v,SV h v x∧(∀w',w'.heap[tb]?=w.heap[tb]?→(Instr.loadAt 127 (.pointer (some ⟨tb,0,none⟩))).run prog w' = .ok v w'∧(Instr.loadAt 3 (.pointer (some ⟨tb,15,none⟩))).run prog w' = .ok (.int .i64 x.next) w'):=by
 obtain⟨cs,h1,h2⟩:=ht;refine⟨.agg (List.toArray cs),⟨cs,rfl,h2⟩,fun w' hw=>⟨?_,?_⟩⟩
 ·exact ab6 (hw.trans h1) X9 Y1 Y0 (by rw[I9];simpa using(show cs.length=17 from z7.len h2).symm)
 ·obtain⟨c,rfl,hc⟩:=aE5 h2;obtain⟨a1,a2,a3,a4,a5,a6,a7,a8,a9,a10,a11,a12,a13,rfl⟩:=bi7 (z7.len hc);exact E8 (hw.trans h1) rfl G3
theorem T9.setS{v:Value}{s:St}(ht:T9 h w tb x)(hs:SV h v s):∃w',(Instr.storeAt 47 (.pointer (some ⟨tb,0,none⟩)) v).run prog w = .ok () w'∧T9 h w' tb ⟨s,x.proc,x.up,x.next,x.loop⟩∧o9 (fun b=>b=tb) w w':=by
 obtain⟨cs,h1,h2⟩:=ht;obtain⟨ds,rfl,h3⟩:=hs;obtain⟨c,rfl,hc⟩:=aE5 h2;have hl:c.length=13:=z7.len hc;have hl2:ds.length=13:=z7.len h3;obtain⟨w',k1,k2,k3⟩:=bZ7 (P:=prog) (t:=47) (o:=0) (cs:=ds) h1 (by simp[hl,hl2]) (z7.one h3) aR3 (by rw[ah0,hl2]);refine⟨w',k1,⟨_,k2,?_⟩,k3⟩;refine⟨ds,?_,h3⟩;simp only[eG6,eG1,ey7,hl2]
 congr 1
 simp only[ex9];rw[←hl,List.drop_left];simp
theorem T9.setN(n:Int)(ht:T9 h w tb x):∃w',(Instr.storeAt 3 (.pointer (some ⟨tb,15,none⟩)) (.int .i64 n)).run prog w = .ok () w'∧T9 h w' tb ⟨x.s,x.proc,x.up,n,x.loop⟩∧o9 (fun b=>b=tb) w w':=by
 obtain⟨cs,h1,h2⟩:=ht;obtain⟨c,rfl,hc⟩:=aE5 h2;obtain⟨a1,a2,a3,a4,a5,a6,a7,a8,a9,a10,a11,a12,a13,rfl⟩:=bi7 (z7.len hc);obtain⟨w',k1,k2,k3⟩:=ah2 (P:=prog) (t:=3) (i:=15) (x:=.int .i64 n) h1 (by simp) rfl rfl (t8 ax7).choose_spec.1 (by rw[←C7 (t8 ax7).choose_spec.1];exact aR4);exact⟨w',k1,⟨_,k2,_,rfl,hc⟩,k3⟩
theorem T9.setLp(n:Int)(ht:T9 h w tb x):∃w',(Instr.storeAt 3 (.pointer (some ⟨tb,16,none⟩)) (.int .i64 n)).run prog w = .ok () w'∧T9 h w' tb ⟨x.s,x.proc,x.up,x.next,n⟩∧o9 (fun b=>b=tb) w w':=by
 obtain⟨cs,h1,h2⟩:=ht;obtain⟨c,rfl,hc⟩:=aE5 h2;obtain⟨a1,a2,a3,a4,a5,a6,a7,a8,a9,a10,a11,a12,a13,rfl⟩:=bi7 (z7.len hc);obtain⟨w',k1,k2,k3⟩:=ah2 (P:=prog) (t:=3) (i:=16) (x:=.int .i64 n) h1 (by simp) rfl rfl (t8 ax7).choose_spec.1 (by rw[←C7 (t8 ax7).choose_spec.1];exact aR4);exact⟨w',k1,⟨_,k2,_,rfl,hc⟩,k3⟩
end
theorem bF7(h:Hp):z7.enc h [.int .i64 0,.int .i64 0,.slice none 0 0,o7 e0,o7 e0,.int .i64 0,.int .i64 0,o7 e0,.slice none 0 0,.bool false,.slice none 0 0,.slice none 0 0,.slice none 0 0] cm7:=by
 refine bz3.2 ⟨.slice none 0 0,[.int .i64 0,.int .i64 0,o7 e0,.slice none 0 0],.slice none 0 0,.slice none 0 0,.slice none 0 0,rfl,aU2 h,bz2.2 ⟨.slice none 0 0,rfl,aU2 h⟩,aU2 h,aU2 h,aU2 h⟩
theorem ch6(h:Hp)(a b c d:Int):∃v,B9 prog 127 [(1,.int .i64 a),(2,.int .i64 b),(3,.int .i64 c),(4,.int .i64 d)]=some v∧SV h v (⟨cm7,a,b,c,d⟩:It):=by
 refine⟨_,by simp[B9,bX5,J5,Instr.fill,Value.cells];rfl,_,rfl,_,rfl,bF7 h⟩
theorem ch5(h:Hp)(a c:Int):∃v,B9 prog 127 [(1,.int .i64 a),(3,.int .i64 c)]=some v∧SV h v (⟨cm7,a,0,c,0⟩:It):=by
 refine⟨_,by simp[B9,bX5,J5,Instr.fill,Value.cells];rfl,_,rfl,_,rfl,bF7 h⟩
theorem eF2:type_of% @List.drop_length:=@List.drop_length
theorem ev7:type_of% @of_decide_eq_false:=@of_decide_eq_false
theorem ev6:type_of% @of_decide_eq_true:=@of_decide_eq_true
theorem cw1:af6 prog 124=true:=by kernel_rfl
mutual
theorem ae1:∀(t:St) (k:Nat) (pr up nx lp:Int),(U7 t k pr up nx lp).length=Y6 t
 | .mk id kind labels name proc x has args thn els,k,pr,up,nx,lp=>by
  simp only[U7,ex7,ev5,G0,Y6];omega
theorem G0:∀(l:List St) (k:Nat) (pr up nx lp:Int),(C4 l k pr up nx lp).length=A7 l
 | [],_,_,_,_,_=>by simp[C4,A7]
 | t::l,k,pr,up,nx,lp=>by
  simp only[C4,ev5,ae1,G0,A7]
end
theorem P2(t:St)(k:Nat)(pr up nx lp:Int):U7 t k pr up nx lp =
  ⟨t,pr,up,nx,lp⟩::(C4 t.thn (k+1) pr ((k:Int)+1) (if t.kind=6 then(k:Int)+1 else nx) (if t.kind=6 then(k:Int)+1 else lp) ++
   C4 t.els (k+1+A7 t.thn) pr ((k:Int)+1) (if t.kind=6 then(k:Int)+1 else nx) (if t.kind=6 then(k:Int)+1 else lp)):=by
 cases t;simp only[U7,G0,St.thn,St.els,St.kind];rfl
theorem cQ0:∀(m:Nat) (l:List St) (ar:It) (va v:Value) (h:Hp) (gb:Nat) (vg vp vL vLo vHi:Value) (L:List It) (lo hi:List Int) (w:World),A7 l≤m→ShS h w gb vg vp vL vLo vHi L lo hi→B4 h (d7 w)→R h v l→SV h va ar→G6 l≤1000000→L.length+A7 l≤1000000 →
  Calls prog 124 #[.pointer (some ⟨gb,0,none⟩),v,va] w fun e w'=>∃u,e = .returned u∧(∃vL',ShS h w' gb vg vp vL' vLo vHi (L++C4 l L.length ar.proc ar.up ar.next ar.loop) lo hi∧o9 (fun b=>b=gb∨A3 vL b) w w'∧F1 w vL vL'):=by
 intro m
 induction m using Nat.strongRecOn with
 | ind m ih=>
 intro l ar va v h gb vg vp vL vLo vHi L lo hi w hsm hs hh hv hva hwt hLl;refine d9 (args:=[.pointer (some ⟨gb,0,none⟩),v,va]) hm func124 rfl (by kernel_rfl) (by show 3≤_;decide +kernel) ?_;have hS:=hv.isS;have hn:=hv.vlen;have hN1:∀b,(b=gb∨A3 vL b)→b<w.heap.size:=fun b hb=>by
  rcases hb with rfl|hb
  ·exact hs.lt
  ·exact hs.oL.lt hb
 obtain⟨a,w1,hbx,hx1,ha⟩:=cL4 (w:=w) (fun b=>b=gb∨A3 vL b) hva hN1;have hN1':∀b,(b=gb∨A3 vL b)→b<w1.heap.size:=fun b hb=>eC1 (hN1 b hb) hx1.size;obtain⟨va_s,hva_s,_,lda,_⟩:=L8.it hva ha;obtain⟨ldw,_⟩:=L8.it_v hva ha;have hs1:=hs.ext hx1;have hfree:∀b,(b=gb∨A3 vL b)→h b=none:=fun b hb=>by
  rcases hb with rfl|hb
  ·exact hs.free
  ·exact hs.oL.free hb
 have hh1:B4 h (d7 w1):=p8 hh (b7 hx1);simp only[n3,n9,simprocAttr,hbx,hS,hn];refine n8 [0,1,5,11,12] (σ:=Nat×Value×List It) (fun s f w'=>f 13 = .int .i64 s.1∧s.1≤l.length∧ShS h w' gb vg vp s.2.1 vLo vHi (L++s.2.2) lo hi∧o9 (fun b=>b=gb∨A3 vL b) w1 w'∧F1 w1 vL s.2.1 ∧
  C4 l L.length ar.proc ar.up ar.next ar.loop=s.2.2++C4 (l.drop s.1) (L.length+s.2.2.length) ar.proc ar.up ar.next ar.loop∧s.2.2.length+A7 (l.drop s.1)=A7 l) (fun s=>l.length-s.1) (0,vL,[]) (by decide +kernel) ?_ ?_
 ·simp only[p6,simprocAttr];exact⟨by trivial,ew4 _,by simpa using hs1,o9.refl _,fun b hb=>.inl hb,by simp,by simp⟩
 ·rintro⟨k,uL,pre⟩ f w2 hk ⟨h13,hkl,hs2,hx2,hmv2,hpre,hcnt⟩;simp only at h13 hkl hs2 hmv2 hpre hcnt;simp only[ev4,p6,simprocAttr]at hk;obtain⟨e0,e1,e5,e11,e12,_⟩:=hk;simp only[n3,n9,simprocAttr,h13,e12];refine i5 (fun hc=>?_) (fun hc=>?_)
  ·have hlt:k<l.length:=by simpa using hc
   have hin:=hv.inS hlt;have hh2:B4 h (d7 w2):=K6 hh1 hx2 hfree;obtain⟨sv,hsv,hld⟩:=G1 (P:=prog) (t:=47) hv hh2 (ev2 hlt) bb0 bb5 aR3 ah0;rw[ah0]at hld;have hdrop:l.drop k=l[k]::l.drop (k+1):=ez4 hlt;have hwm:=af4 (ew2 hlt);have hrest:(l.drop (k+1)).length=l.length-(k+1):=eD7;generalize l[k]=t at hsv hdrop hwm;rw[hdrop]at hpre hcnt;rw[A7]at hcnt;have heq:=at8 t;have hwe:=P8 t;have hpL:(L++pre).length=L.length+pre.length:=ev5;have hfree2:∀b,(b=gb∨A3 uL b)→h b=none:=fun b hb=>by
    rcases hb with rfl|hb
    ·exact hs.free
    ·exact hs2.oL.free hb
   have hN2:∀b,(b=gb∨A3 uL b)→b<w2.heap.size:=fun b hb=>by
    rcases hb with rfl|hb
    ·exact hs2.lt
    ·exact hs2.oL.lt hb
   obtain⟨b,wz,w3,hal,hst,hx3,hat⟩:=cV4 (w:=w2) (fun b=>b=gb∨A3 uL b) hsv hN2;obtain⟨vl,ux,va',vt,ve,hvl,_,_,hva',hvt,hve,ldt,sdt⟩:=L8.st hsv hat;obtain⟨ldT,_⟩:=L8.st_v hsv hat;have hs3:=hs2.ext hx3;have hmod13:o9 (fun b=>b=gb∨A3 vL b) w1 w3:=hx2.trans (o9.up hx3);have hk3:B4 (B5 w3 fun b=>b=gb∨A3 uL b) (d7 w3):=C0 _ _;have hb3:B4 (B5 w1 fun b=>b=gb∨A3 vL b) (d7 w3):=D2 hmod13;have hgl3:=E8 (P:=prog) (t:=117) (i:=2) (u:=uL) hs3.cell rfl aL9;have hSu:=hs3.oL.isS;have hnu:=hs3.oL.vlen;rw[hpL]at hnu;have hid:IntKind.i64.wrap (((L.length+pre.length:Nat):Int)+1)=((L.length+pre.length+1:Nat):Int):=B1 _ (by omega);have lw3:=ldw w3 hb3;obtain⟨tb,wy,w4,hal4,hst4,hx4,hge4,htm4⟩:=T9.new (w:=w3) hva;have hs4:=hs3.ext hx4;have hk4:B4 (B5 w3 fun b=>b=gb∨A3 uL b) (d7 w4):=p8 hk3 (b7 hx4);have lT4:=ldT w4 hk4;obtain⟨w5,hst5,htm5,hx5⟩:=htm4.setS hsv;have hmod35:o9 (fun b=>b=gb∨A3 uL b) w3 w5:=(o9.up hx4).chain hx5 fun i hi hb=>by omega
   have hs5:ShS h w5 gb vg vp uL vLo vHi (L++pre) lo hi:=hs4.mod hx5 (by have:=hs3.lt;omega) (fun b hb=>by have:=hs3.oL.lt hb;omega) (fun b hb=>by have:=hs3.oLo.lt hb;omega) (fun b hb=>by have:=hs3.oHi.lt hb;omega);have hlen1:IntKind.i64.wrap ((k:Int)+1)=((k+1:Nat):Int):=B1 k (by have:=R6 l;omega);have hk5:B4 (B5 w3 fun b=>b=gb∨A3 uL b) (d7 w5):=D2 hmod35;have lT5:=ldT w5 hk5;simp only[n3,n9,p9,simprocAttr,h13,e0,e1,e5,e11,hin,hld,hal,hst,hgl3,hSu,hnu,hid,lw3,hal4,hst4,lT4,hst5,hS,hn,hlen1];generalize hK:CW prog _ (X1 1 (ab3 _ _))=K;have key:∀(nx:Int) (f6:Fr) (w6:World),nx=(if(l.drop (k+1)).length=0 then ar.next else((L.length+pre.length:Nat):Int)+1+(Y6 t:Nat))→T9 h w6 tb ⟨t,ar.proc,ar.up,nx,ar.loop⟩→o9 (fun b=>b=tb) w5 w6 →
     f6 0 = .pointer (some ⟨gb,0,none⟩)→f6 5 = .pointer (some a)→f6 7 = .pointer (some b)→f6 8 = .int .i64 ((L.length+pre.length+1:Nat):Int)→f6 9 = .pointer (some ⟨tb,0,none⟩)→f6 13 = .int .i64 k→K f6 w6:=by
    intro nx f6 w6 hnx htm6 hx6 g0 g5 g7 g8 g9 g13;have hs6:ShS h w6 gb vg vp uL vLo vHi (L++pre) lo hi:=hs5.mod hx6 (by have:=hs3.lt;omega) (fun b hb=>by have:=hs3.oL.lt hb;omega) (fun b hb=>by have:=hs3.oLo.lt hb;omega) (fun b hb=>by have:=hs3.oHi.lt hb;omega);have hmod36:o9 (fun b=>b=gb∨A3 uL b) w3 w6:=hmod35.chain hx6 fun i hi hb=>by omega
    have hs6d:=hs6.ext (o6.drew w6);obtain⟨iv,hiv,ldi⟩:=htm6.ld;have hh6:B4 h (d7 w6.drew):=by
     have h3:B4 h (d7 w3):=p8 hh2 (b7 hx3);exact p8 (K6 h3 hmod36 hfree2) (b7 (o6.drew w6))
    obtain⟨p1,uL',w7,p2,p3,p4,p5⟩:=push (e:=117) dI7 rfl hs6d.oL (x:=iv) (y:=⟨t,ar.proc,ar.up,nx,ar.loop⟩) hiv.enc (by rw[hpL];omega) (by rw[hpL];omega) hh6;have hc7:w7.heap[gb]?=some (.cells #[vg,vp,uL,vLo,vHi] 120 (0,0)):=(p4.block gb hs6d.lt fun hb=>(hs6d.d1 gb hb).1 rfl).trans hs6d.cell;obtain⟨w8,s8,hc8,hx8⟩:=ah2 (P:=prog) (t:=117) (i:=2) (x:=uL') hc7 (by simp) (D8 p3.isS) (V6 p3.isS) (t8 cI3).choose_spec.1 (by rw[←C7 (t8 cI3).choose_spec.1];exact cH8);have hs8:ShS h w8 gb vg vp uL' vLo vHi ((L++pre)++[⟨t,ar.proc,ar.up,nx,ar.loop⟩]) lo hi:=hs6d.setL p4 p3 p5 hx8 (by simpa using hc8);have hsz36:w3.heap.size≤w6.drew.heap.size:=(hmod36.trans (o9.up (o6.drew w6))).size;have hmod38:o9 (fun b=>b=gb∨A3 uL b) w3 w8:=((hmod36.trans (o9.up (o6.drew w6))).chain p4 fun i hi hb=>.inr hb).chain hx8 fun i hi hb=>.inl hb;have hmod18:o9 (fun b=>b=gb∨A3 vL b) w1 w8:=hmod13.chain hmod38 fun i hi hb=>by
     rcases hb with hb|hb
     ·exact .inl hb
     ·rcases hmv2 i hb with hb|hb
      ·exact .inr hb
      ·omega
    have hmv8:∀i,i<w3.heap.size→A3 uL' i→A3 uL i:=fun i hi hb=>by
     rcases p5 i hb with hb|hb
     ·exact hb
     ·omega
    have htb6:tb<w6.heap.size:=htm6.lt;have hntb:¬A3 uL tb:=fun hb=>by have:=hs3.oL.lt hb;omega
    have sgl:∀K f d w,B8 prog (fun w'=>o9 (A3 uL) w6.drew w') (Instr.loadAt 117 (.pointer (some ⟨gb,2,none⟩))) K f d w=K (A5 f d uL) w:=fun K f d w=>A0 (w0:=w6.drew) (o9.refl _) fun w' hw'=>E8 (i:=2) ((hw'.block gb hs6d.lt fun hb=>(hs6d.d1 gb hb).1 rfl).trans hs6d.cell) rfl aL9;have sit:∀K f d w,B8 prog (fun w'=>o9 (A3 uL) w6.drew w') (Instr.loadAt 127 (.pointer (some ⟨tb,0,none⟩))) K f d w=K (A5 f d iv) w:=fun K f d w=>A0 (w0:=w6.drew) (o9.refl _) fun w' hw'=>(ldi w' (hw'.block tb htb6 hntb)).1;rw[←hK];simp only[n3,simprocAttr];refine C2 (fun w'=>o9 (A3 uL) w6.drew w') 8 (A8 [0,1,2,3,4,5,6,7]) (by decide +kernel) (o9.refl _) ?_;simp only[D5,A8,n3,n9,simprocAttr,g0,g9,sgl,sit,p1,p2,F7];refine⟨o9.up (o6.alloc _ _),p4,?_⟩;have htm8:T9 h w8 tb ⟨t,ar.proc,ar.up,nx,ar.loop⟩:=((htm6.mod (o9.up (M:=A3 uL) (o6.drew w6)) hntb).mod p4 hntb).mod hx8 (by have:=hs3.lt;omega);obtain⟨iv8,_,ldi8⟩:=htm8.ld;have ln8:=(ldi8 w8 rfl).2;have la8:=lda w8 (D2 hmod18);obtain⟨bv,hbv,hbvS⟩:=ch6 h ar.proc ((L.length+pre.length+1:Nat):Int) nx ar.loop;obtain⟨ib,wq,w9,hal9,hst9,hx9,hge9,htm9⟩:=T9.new (w:=w8) hbvS;have hs9:=hs8.ext hx9;have hmod39:o9 (fun b=>b=gb∨A3 uL b) w3 w9:=hmod38.trans (o9.up hx9);have lt9:=ldt w9 (D2 hmod39);simp only[n3,n9,simprocAttr,g5,g7,g8,g9,s8,la8,ln8,hbv,hal9,hst9,lt9];generalize hK2:CW prog _ (X1 1 (ab3 _ _))=K2;have hpL1:((L++pre)++[(⟨t,ar.proc,ar.up,nx,ar.loop⟩:It)]).length=L.length+pre.length+1:=by simp[eE5]
    have hib9:¬A3 uL' ib:=fun hb=>by have:=hs8.oL.lt hb;omega
    have hibg:ib≠gb:=fun e=>by have:=hs8.lt;omega
    have key2:∀(nx' lp':Int) (f9:Fr) (w10:World),nx'=(if t.kind=6 then((L.length+pre.length:Nat):Int)+1 else nx)→lp'=(if t.kind=6 then((L.length+pre.length:Nat):Int)+1 else ar.loop)→T9 h w10 ib ⟨cm7,ar.proc,((L.length+pre.length+1:Nat):Int),nx',lp'⟩→o9 (fun b=>b=ib) w9 w10 →
      f9 0 = .pointer (some ⟨gb,0,none⟩)→f9 7 = .pointer (some b)→f9 10 = .pointer (some ⟨ib,0,none⟩)→f9 13 = .int .i64 k→K2 f9 w10:=by
     intro nx' lp' f9 w10 hnx' hlp' htm10 hx10 q0 q7 q10 q13;have hs10:=hs9.mod hx10 (fun e=>hibg e.symm) (fun c hb e=>by subst e;exact hib9 hb) (fun c hb e=>by subst e;have:=hs8.oLo.lt hb;omega) (fun c hb e=>by subst e;have:=hs8.oHi.lt hb;omega);have hmod310:o9 (fun b=>b=gb∨A3 uL b) w3 w10:=hmod39.chain hx10 fun i hi hb=>by have:=hmod38.size;omega
     obtain⟨nv,hnv,ldn⟩:=htm10.ld;have lt10:=ldt w10 (D2 hmod310);have ln10:=(ldn w10 rfl).1;have h3:B4 h (d7 w3):=p8 hh2 (b7 hx3);have hh10:B4 h (d7 w10):=K6 h3 hmod310 hfree2;rw[←hK2];simp only[n3,n9,simprocAttr,q0,q7,q10,lt10,ln10];refine y5 cw1 (ih (A7 t.thn) (by omega) t.thn _ nv vt h gb vg vp uL' vLo vHi _ lo hi w10 (ew8 _) hs10 hh10 hvt hnv (by omega) (by rw[hpL1];omega)) ?_;rintro u w11 ⟨uL3,hs11,hx11,hmv11⟩;rw[hpL1]at hs11;have hsz310:=hmod310.size;have hmod311:o9 (fun b=>b=gb∨A3 uL b) w3 w11:=hmod310.chain hx11 fun i hi hb=>hb.imp id (hmv8 i hi);have hmv311:∀i,i<w3.heap.size→A3 uL3 i→A3 uL i:=fun i hi hb=>by
      rcases hmv11 i hb with hb|hb
      ·exact hmv8 i hi hb
      ·omega
     have htm11:T9 h w11 ib ⟨cm7,ar.proc,((L.length+pre.length+1:Nat):Int),nx',lp'⟩:=htm10.mod hx11 fun hb=>by
      rcases hb with hb|hb
      ·exact hibg hb
      ·exact hib9 hb
     obtain⟨nv2,hnv2,ldn2⟩:=htm11.ld;have lt11:=ldt w11 (D2 hmod311);have ln11:=(ldn2 w11 rfl).1;have hh11:B4 h (d7 w11):=K6 h3 hmod311 hfree2;have hpL2:∀X:List It,X.length=A7 t.thn→(((L++pre)++[(⟨t,ar.proc,ar.up,nx,ar.loop⟩:It)])++X).length=L.length+pre.length+1+A7 t.thn:=fun X hX=>by rw[ev5,hpL1,hX]
     simp only[n3,n9,simprocAttr,q0,q7,q10,lt11,ln11];refine y5 cw1 (ih (A7 t.els) (by omega) t.els _ nv2 ve h gb vg vp uL3 vLo vHi _ lo hi w11 (ew8 _) hs11 hh11 hve hnv2 (by omega) (by rw[hpL2 _ (G0 _ _ _ _ _ _)];omega)) ?_;rintro u w12 ⟨uL4,hs12,hx12,hmv12⟩;rw[hpL2 _ (G0 _ _ _ _ _ _)]at hs12;have hsz311:=hmod311.size;have hmod312:o9 (fun b=>b=gb∨A3 uL b) w3 w12:=hmod311.chain hx12 fun i hi hb=>hb.imp id (hmv311 i hi);have hmod112:o9 (fun b=>b=gb∨A3 vL b) w1 w12:=hmod13.chain hmod312 fun i hi hb=>by
      rcases hb with hb|hb
      ·exact .inl hb
      ·rcases hmv2 i hb with hb|hb
       ·exact .inr hb
       ·omega
     simp only[n3,n9,simprocAttr,q13];refine⟨(k+1,uL4,pre++U7 t (L.length+pre.length) ar.proc ar.up nx ar.loop),by simp only[];omega,by simp only[];rw[B1 k (by have:=R6 l;omega)],by simp only[];omega,?_,hmod112,?_,?_,?_⟩
     ·simp only[];have e1:((L.length+pre.length+1:Nat):Int)=((L.length+pre.length:Nat):Int)+1:=by omega
      rw[P2,←hnx',←hlp',←e1];have e2:=hs12;simp only[ex9,eG2,eG1]at e2 ⊢;exact e2
     ·simp only[];intro i hb;rcases hmv12 i hb with hb|hb
      ·rcases hmv11 i hb with hb|hb
       ·rcases p5 i hb with hb|hb
        ·exact hmv2 i hb
        ·have:=hmod13.size;exact .inr (by omega)
       ·have:=hmod13.size;exact .inr (by omega)
      ·have:=hmod13.size;exact .inr (by omega)
     ·simp only[];rw[hpre,C4,←hnx];simp only[ex9,ev5,eE5]
     ·simp only[];rw[ev5,ae1];omega
    refine i5 (fun h6=>?_) (fun h6=>?_)
    ·have k6:=ev6 h6;obtain⟨wr,hr1,htmr,hxr⟩:=htm9.setN (((L.length+pre.length+1:Nat):Int));obtain⟨wt,ht1,htmt,hxt⟩:=htmr.setLp (((L.length+pre.length+1:Nat):Int));simp only[n3,n9,simprocAttr,g8,hr1,ht1];refine key2 ((L.length+pre.length+1:Nat):Int) ((L.length+pre.length+1:Nat):Int) _ _ (by rw[if_pos k6];omega) (by rw[if_pos k6];omega) htmt (hxr.trans hxt) ?_ ?_ ?_ ?_<;>simp only[p6,↓reduceIte,Nat.reduceEqDiff,g0,g7,g13]
    ·have k6:=ev7 h6;simp only[n3,simprocAttr];refine key2 nx ar.loop _ _ (by rw[if_neg k6]) (by rw[if_neg k6]) htm9 (o9.refl _) ?_ ?_ ?_ ?_<;>simp only[p6,↓reduceIte,Nat.reduceEqDiff,g0,g7,g13]
   refine i5 (fun h6=>?_) (fun h6=>?_)
   ·have hne:¬(l.drop (k+1)).length=0:=by
     have:((k+1:Nat):Int)<(l.length:Nat):=by simpa using h6
     omega
    simp only[n3,simprocAttr,lT5];refine B3 cw9 (bl1 _ t sv w5 (ew8 _) (hsv.mono ?_) (by omega)) (fun w6 hx6=>?_)
    ·exact K6 (p8 hh2 (b7 hx3)) hmod35 hfree2
    have hlen:IntKind.i64.wrap (((L.length+pre.length+1:Nat):Int)+((Y6 t:Nat):Int))=((L.length+pre.length:Nat):Int)+1+(Y6 t:Nat):=by rw[K1 _ (by omega)];omega
    obtain⟨w7,k1,k2,k3⟩:=(htm5.mod (o9.up (M:=fun _=>False) hx6) id).setN (((L.length+pre.length:Nat):Int)+1+(Y6 t:Nat));simp only[n3,n9,simprocAttr,hlen,k1];refine key _ _ _ (by rw[if_neg hne]) k2 ((o9.up hx6).trans k3) ?_ ?_ ?_ ?_ ?_ ?_<;>simp only[p6,↓reduceIte,Nat.reduceEqDiff,e0,e5,h13]
   ·have hz:(l.drop (k+1)).length=0:=by
     have:¬((k+1:Nat):Int)<(l.length:Nat):=by simpa using h6
     omega
    simp only[n3,simprocAttr];refine key _ _ _ (by rw[if_pos hz]) htm5 (o9.refl _) ?_ ?_ ?_ ?_ ?_ ?_<;>simp only[p6,↓reduceIte,Nat.reduceEqDiff,e0,e5,h13]
  ·have hge:k=l.length:=by simp at hc;omega
   subst hge;simp only[n3,simprocAttr];refine cB7 results124 ?_;rw[eF2]at hpre;simp only[C4,ey6]at hpre;rw[hpre];exact⟨uL,hs2,(o9.up hx1).trans hx2,fun b hb=>(hmv2 b hb).imp id fun h=>ew0 hx1.size h⟩
theorem aL2:∀(l m:List Pr) (s:Sh) (i:Nat),G2 s i (l++m)=G2 (G2 s i l) (i+l.length) m
 | [],m,s,i=>by simp[G2]
 | f::l,m,s,i=>by simp only[eG2,G2,aL2 l m,ex7];congr 1;omega
theorem bM1(l:List Pr)(s:Sh){k:Nat}(hk:k<l.length):G2 s 0 (l.take (k+1))=E6 (G2 s 0 (l.take k)) k l[k]:=by
 rw[ew1 hk,aL2,ew6,eB8 (Nat.le_of_lt hk)];simp only[G2,ey7]
theorem aQ6:∀(l:List Pr) (s:Sh) (i:Nat),(G2 s i l).p=s.p
 | [],s,i=>rfl
 | f::l,s,i=>by rw[G2,aQ6 l];rfl
theorem aw7:∀(l:List Pr) (s:Sh) (i:Nat),(G2 s i l).l.length=s.l.length+(l.map fun f=>A7 f.body).sum
 | [],s,i=>by simp[G2]
 | f::l,s,i=>by
  rw[G2,aw7 l];simp only[E6,ev5,G0,ez9,eF8];omega
theorem aV2:∀(l:List Pr) (s:Sh) (i:Nat),(G2 s i l).lo.length=s.lo.length+l.length∧(G2 s i l).hi.length=s.hi.length+l.length
 | [],s,i=>by simp[G2]
 | f::l,s,i=>by
  obtain⟨h1,h2⟩:=aV2 l (E6 s i f) (i+1);have e1:(E6 s i f).lo.length=s.lo.length+1:=by simp[E6]
  have e2:(E6 s i f).hi.length=s.hi.length+1:=by simp[E6]
  rw[G2,ex7];exact⟨by omega,by omega⟩
theorem cr5(vg vp:Value):B9 prog 120 [(0,.agg (List.toArray [vg,vp]))]=some (.agg #[vg,vp,.slice none 0 0,.slice none 0 0,.slice none 0 0]):=by
 simp[B9,cG9,J5,Instr.fill,Value.cells]
theorem da9(w:World)(vg vp:Value):∃gb w',(Instr.box 120 (.agg #[vg,vp,.slice none 0 0,.slice none 0 0,.slice none 0 0])).run prog w = .ok (.pointer (some ⟨gb,0,none⟩)) w'∧o6 w w'∧w'.heap[gb]?=some (.cells #[vg,vp,.slice none 0 0,.slice none 0 0,.slice none 0 0] 120 (0,0))∧w.heap.size≤gb:=
 ⟨_,_,rfl,o6.alloc _ _,ez5 w _,ew8 _⟩
theorem ShS.at_{h:Hp}{w:World}{gb:Nat}{vg vp vL vLo vHi:Value}{L:List It}{lo hi:List Int}{p:Pg}(s:ShS h w gb vg vp vL vLo vHi L lo hi)(hh:B4 h (d7 w))(hg:R h vg p.globals)(hp:R h vp p.procs):At (d7 w) ⟨gb,0,none⟩ (⟨p,L,lo,hi⟩:Sh):=by
 refine⟨[vg,vp,vL,vLo,vHi],⟨[vg,vp],vL,vLo,vHi,rfl,⟨vg,vp,rfl,z7.mono hh hg,z7.mono hh hp⟩,s.oL.rw_ hh,s.oLo.rw_ hh,s.oHi.rw_ hh⟩,fun j u hj=>?_⟩;rw[←ai8,add_lit,ey7,eC4 w gb j _ 120 (0,0) s.cell];simpa using hj
theorem aa4(h:Hp)(v:Value)(p:Pg)(w:World)(hv:SV h v p)(hh:B4 h (d7 w))(hwt:C8 p≤1000000):Calls prog 76 #[v] w fun e w'=>∃u,e = .returned u∧(∃gb vg vp vL vLo vHi,u = .pointer (some ⟨gb,0,none⟩)∧ShS h w' gb vg vp vL vLo vHi (b9 p).l (b9 p).lo (b9 p).hi∧R h vg p.globals∧R h vp p.procs∧w.heap.size≤gb∧(∀b,(A3 vL b∨A3 vLo b∨A3 vHi b)→w.heap.size≤b)∧o6 w w'):=by
 refine d9 (args:=[v]) hm func76 rfl (by kernel_rfl) (by show 1≤_;decide +kernel) ?_;obtain⟨a,w1,hbx,hx1,ha⟩:=ab7 (w:=w) (fun _=>False) hv (fun _ h=>h.elim);obtain⟨vg,vp,hg,hp,ld,_⟩:=L8.pg hv ha;obtain⟨lw,_⟩:=L8.pg_v hv ha;have hv':v = .agg (List.toArray [vg,vp]):=by
  obtain⟨cs,rfl,he⟩:=hv;obtain⟨u1,u2,rfl,h1,h2⟩:=bz1 he;obtain⟨cs2,e2,hc⟩:=ha;obtain rfl:=ai5 e2;have l0:=(ld w1 (C0 _ _)).1;have l1:=(ld w1 (C0 _ _)).2;have k0:(Instr.loadAt 22 (.pointer (some a))).run prog w1 = .ok u1 w1:=E0 (h:=B5 w1 fun _=>False) hc rfl M4 w1 (C0 _ _);have k1:(Instr.loadAt 23 (.pointer (some (a.add 1)))).run prog w1 = .ok u2 w1:=v8 (h:=B5 w1 fun _=>False) hc (o:=1) rfl bw0 w1 (C0 _ _);have e0:=l0.symm.trans k0;have e1:=l1.symm.trans k1;simp only[Result.ok.injEq,and_true]at e0 e1;subst e0;subst e1;rfl
 have lw1:=lw w1 (C0 _ _);have hh1:B4 h (d7 w1):=p8 hh (b7 hx1);have hSp:=hp.isS;have hnp:=hp.vlen;have hwp:=ab4 p.procs;have hcp:=bd0 p.procs;unfold C8 at hwt;obtain⟨gb,w2,hb2,hx2,hc2,hge2⟩:=da9 w1 vg vp;have l2:=ld w2 (p8 (C0 _ _) (b7 hx2));have hs2:ShS h w2 gb vg vp (.slice none 0 0) (.slice none 0 0) (.slice none 0 0) [] [] []:=⟨av4 hh1 hge2,hc2,A9.nil _ _ _,A9.nil _ _ _,A9.nil _ _ _,fun b hb=>absurd hb D0,fun b hb=>absurd hb D0,fun b hb=>absurd hb D0⟩;rw[hv']at lw1;simp only[n3,n9,simprocAttr,hbx,lw1,cr5,hb2,l2,hSp,hnp];refine n8 [3,10,11] (σ:=Nat×Value×Value×Value) (fun s f w'=>f 12 = .int .i64 s.1∧s.1≤p.procs.length∧ShS h w' gb vg vp s.2.1 s.2.2.1 s.2.2.2 (G2 ⟨p,[],[],[]⟩ 0 (p.procs.take s.1)).l (G2 ⟨p,[],[],[]⟩ 0 (p.procs.take s.1)).lo (G2 ⟨p,[],[],[]⟩ 0 (p.procs.take s.1)).hi∧o6 w1 w'∧(∀b,(A3 s.2.1 b∨A3 s.2.2.1 b∨A3 s.2.2.2 b)→w1.heap.size≤b)) (fun s=>p.procs.length-s.1) (0,.slice none 0 0,.slice none 0 0,.slice none 0 0) (by decide +kernel) ?_ ?_
 ·simp only[p6,simprocAttr];exact⟨by trivial,ew4 _,by simpa[G2]using hs2,hx2,fun b hb=>by rcases hb with h|h|h<;>exact absurd h D0⟩
 ·rintro⟨k,vL,vLo,vHi⟩ f w3 hk ⟨h12,hkl,hs3,hx3,hge⟩;simp only at h12 hkl hs3 hge;simp only[ev4,p6,simprocAttr]at hk;obtain⟨e3,e10,e11,_⟩:=hk;simp only[n3,n9,simprocAttr,h12,e11];refine i5 (fun hc=>?_) (fun hc=>?_)
  ·have hlt:k<p.procs.length:=by simpa using hc
   have hp1:R h vp p.procs:=hp;have hin:=hp.inS hlt;obtain⟨sv,hsv,hld⟩:=G1 (P:=prog) (t:=53) hp1 (p8 hh1 (b7 hx3)) (ev2 hlt) ao0 ao4 ao1 O1;rw[O1]at hld;have hstep:=bM1 p.procs ⟨p,[],[],[]⟩ hlt;have hlen:=aw7 (p.procs.take k) ⟨p,[],[],[]⟩ 0;have hlen2:=aw7 (p.procs.take (k+1)) ⟨p,[],[],[]⟩ 0;have hlo:=aV2 (p.procs.take k) ⟨p,[],[],[]⟩ 0;have hsum:((p.procs.take (k+1)).map fun f=>A7 f.body).sum≤(p.procs.map fun f=>A7 f.body).sum:=by
    conv=>rhs;rw[←eA3 (k+1) p.procs,ey5,List.sum_append]
    omega
   rw[hstep]at hlen2;have hwm:=al2 (ew2 hlt);rw[ew6,eB8 hkl]at hlo;generalize hG:G2 ⟨p,[],[],[]⟩ 0 (p.procs.take k)=G at hs3 hlen hlo hstep hlen2;generalize p.procs[k]=q at hsv hstep hwm hlen2;simp only[E6,ev5,G0,eB7,ey7]at hlen hlen2 hlo;obtain⟨b,wz,w4,hal,hst,hx4,hat⟩:=aR9 (w:=w3) (fun b=>b=gb∨A3 vL b∨A3 vLo b∨A3 vHi b) hsv (fun b hb=>by
    rcases hb with rfl|hb|hb|hb
    ·exact hs3.lt
    ·exact hs3.oL.lt hb
    ·exact hs3.oLo.lt hb
    ·exact hs3.oHi.lt hb)
   obtain⟨_,_,vb,_,_,_,hvb,_,ldq,_⟩:=L8.pr hsv hat;have hs4:=hs3.ext hx4;have hs4d:=hs4.ext (o6.drew w4);have hx14:o6 w1 w4.drew:=hx3.trans (hx4.trans (o6.drew w4));have hS4:=hs4.oL.isS;have hn4:=hs4.oL.vlen;have sgLo:∀K f d w,B8 prog (fun w'=>o9 (A3 vLo) w4.drew w') (Instr.loadAt 118 (.pointer (some ⟨gb,3,none⟩))) K f d w=K (A5 f d vLo) w:=fun K f d w=>A0 (w0:=w4.drew) (o9.refl _) fun w' hw'=>E8 (i:=3) ((hw'.block gb hs4d.lt fun hb=>(hs4d.d2 gb hb).1 rfl).trans hs4d.cell) rfl O6;have sgL:∀K f d w,B8 prog (fun w'=>o9 (A3 vLo) w4.drew w') (Instr.loadAt 117 (.pointer (some ⟨gb,2,none⟩))) K f d w=K (A5 f d vL) w:=fun K f d w=>A0 (w0:=w4.drew) (o9.refl _) fun w' hw'=>E8 (i:=2) ((hw'.block gb hs4d.lt fun hb=>(hs4d.d2 gb hb).1 rfl).trans hs4d.cell) rfl aL9;have hw1':IntKind.i64.wrap ((G.l.length:Int)+1)=(G.l.length:Int)+1:=K1 _ (by omega);obtain⟨p1,vLo',w5,p2,p3,p4,p5⟩:=push (e:=118) cY8 rfl hs4d.oLo (x:=.int .i64 ((G.l.length:Int)+1)) (y:=(G.l.length:Int)+1) rfl (by omega) (by omega) (p8 hh1 (b7 hx14));simp only[Value.cells]at p1 p2;have hc5:w5.heap[gb]?=some (.cells #[vg,vp,vL,vLo,vHi] 120 (0,0)):=(p4.block gb hs4d.lt fun hb=>(hs4d.d2 gb hb).1 rfl).trans hs4d.cell;obtain⟨w6,s6,hc6,hx6⟩:=ah2 (P:=prog) (t:=118) (i:=3) (x:=vLo') hc5 (by simp) (D8 p3.isS) (V6 p3.isS) (t8 S3).choose_spec.1 (by rw[←C7 (t8 S3).choose_spec.1];exact aD4);have hs6:ShS h w6 gb vg vp vL vLo' vHi G.l (G.lo++[(G.l.length:Int)+1]) G.hi:=hs4d.setLo p4 p3 p5 hx6 (by simpa using hc6);have hx16:o6 w1 w6:=o9.ext_of (o9.ext_of hx14 p4 fun b hb=>hge b (.inr (.inl hb))) hx6 fun b hb=>by subst hb;exact hge2
   have hmod46:o9 (fun b=>b=gb∨A3 vL b∨A3 vLo b∨A3 vHi b) w4 w6:=((o9.up (o6.drew w4)).chain p4 fun i _ hb=>.inr (.inr (.inl hb))).chain hx6 fun i _ hb=>.inl hb;have lq6:=ldq w6 (D2 hmod46);obtain⟨bv,hbv,hbvS⟩:=ch5 h (k:Int) (-1);simp only[n3,n9,p9,simprocAttr,h12,e10,hin,hld,hal,hst];refine C2 (fun w'=>o9 (A3 vLo) w4.drew w') 13 (A8 [0,1,2,3,4,5,6,7,8,9,10,11,12]) (by decide +kernel) (o9.refl _) ?_;simp only[D5,A8,n3,n9,simprocAttr,e3,sgLo,sgL,hS4,hn4,hw1',p1,p2,F7];refine⟨o9.up (o6.alloc _ _),p4,?_⟩;simp only[n3,n9,simprocAttr,s6,e3,lq6,hbv];refine y5 cw1 (cQ0 (A7 q.body) q.body _ bv vb h gb vg vp vL vLo' vHi _ _ _ w6 (ew8 _) hs6 (p8 hh1 (b7 hx16)) hvb hbvS (by unfold T8 at hwm;omega) (by omega)) ?_;rintro u w7 ⟨vL',hs7,hx7,hmv7⟩;simp only at hs7;have hx17:o6 w1 w7:=o9.ext_of hx16 hx7 fun b hb=>by
    rcases hb with rfl|hb
    ·exact hge2
    ·exact hge b (.inl hb)
   have hs7d:=hs7.ext (o6.drew w7);have hx17d:o6 w1 w7.drew:=hx17.trans (o6.drew w7);have hS7:=hs7.oL.isS;have hn7:=hs7.oL.vlen;rw[ev5,G0]at hn7;have sgHi:∀K f d w,B8 prog (fun w'=>o9 (A3 vHi) w7.drew w') (Instr.loadAt 118 (.pointer (some ⟨gb,4,none⟩))) K f d w=K (A5 f d vHi) w:=fun K f d w=>A0 (w0:=w7.drew) (o9.refl _) fun w' hw'=>E8 (i:=4) ((hw'.block gb hs7d.lt fun hb=>hs7d.d3 gb hb rfl).trans hs7d.cell) rfl O6;have sgL7:∀K f d w,B8 prog (fun w'=>o9 (A3 vHi) w7.drew w') (Instr.loadAt 117 (.pointer (some ⟨gb,2,none⟩))) K f d w=K (A5 f d vL') w:=fun K f d w=>A0 (w0:=w7.drew) (o9.refl _) fun w' hw'=>E8 (i:=2) ((hw'.block gb hs7d.lt fun hb=>hs7d.d3 gb hb rfl).trans hs7d.cell) rfl aL9;have hw2':IntKind.i64.wrap (((G.l.length+A7 q.body:Nat):Int)+1)=(G.l.length:Int)+(A7 q.body:Nat)+1:=by rw[K1 _ (by omega)];omega
   obtain⟨q1,vHi',w8,q2,q3,q4,q5⟩:=push (e:=118) cY8 rfl hs7d.oHi (x:=.int .i64 ((G.l.length:Int)+(A7 q.body:Nat)+1)) (y:=(G.l.length:Int)+(A7 q.body:Nat)+1) rfl (by omega) (by omega) (p8 hh1 (b7 hx17d));simp only[Value.cells]at q1 q2;have hc8:w8.heap[gb]?=some (.cells #[vg,vp,vL',vLo',vHi] 120 (0,0)):=(q4.block gb hs7d.lt fun hb=>hs7d.d3 gb hb rfl).trans hs7d.cell;obtain⟨w9,s9,hc9,hx9⟩:=ah2 (P:=prog) (t:=118) (i:=4) (x:=vHi') hc8 (by simp) (D8 q3.isS) (V6 q3.isS) (t8 S3).choose_spec.1 (by rw[←C7 (t8 S3).choose_spec.1];exact aD4);have hs9:=hs7d.setHi q4 q3 q5 hx9 (by simpa using hc9);have hx19:o6 w1 w9:=o9.ext_of (o9.ext_of hx17d q4 fun b hb=>hge b (.inr (.inr hb))) hx9 fun b hb=>by subst hb;exact hge2
   simp only[n3,simprocAttr];refine C2 (fun w'=>o9 (A3 vHi) w7.drew w') 13 (A8 [0,1,2,3,4,5,6,7,8,9,10,11,12]) (by decide +kernel) (o9.refl _) ?_;simp only[D5,A8,n3,n9,simprocAttr,e3,sgHi,sgL7,hS7,hn7,hw2',q1,q2,F7];refine⟨o9.up (o6.alloc _ _),q4,?_⟩;simp only[n3,n9,simprocAttr,s9,h12];refine⟨(k+1,vL',vLo',vHi'),by simp only[];omega,by simp only[];rw[B1 k (by omega)],by simp only[];omega,?_,hx19,fun b hb=>?_⟩;rotate_left
   ·rcases hb with hb|hb|hb
    ·rcases hmv7 b hb with h|h
     ·exact hge b (.inl h)
     ·exact ew0 hx16.size h
    ·rcases p5 b hb with h|h
     ·exact hge b (.inr (.inl h))
     ·exact ew0 hx14.size h
    ·rcases q5 b hb with h|h
     ·exact hge b (.inr (.inr h))
     ·exact ew0 hx17d.size h
   simp only[];rw[hstep];simp only[E6,G0];exact hs9
  ·have hge:k=p.procs.length:=by simp at hc;omega
   subst hge;simp only[n3,simprocAttr,e3];refine n7 results76 ?_;simp only[p6,simprocAttr];rw[ew5]at hs3;have hF:b9 p=⟨p,(G2 ⟨p,[],[],[]⟩ 0 p.procs).l,(G2 ⟨p,[],[],[]⟩ 0 p.procs).lo,(G2 ⟨p,[],[],[]⟩ 0 p.procs).hi⟩:=by
    have:=aQ6 p.procs ⟨p,[],[],[]⟩ 0;unfold b9;cases hq:G2 ⟨p,[],[],[]⟩ 0 p.procs;rw[hq]at this;simp only at this;rw[this]
   rw[hF];exact⟨gb,vg,vp,vL,vLo,vHi,by trivial,hs3,hg,hp,ew0 hx1.size hge2,fun b hb=>ew0 hx1.size (hge b hb),hx1.trans hx3⟩
theorem af9(v:Value)(p:Pg)(w:World)(hv:SV (d7 w) v p)(hwt:C8 p≤1000000):Calls prog 76 #[v] w fun e w'=>∃u,e = .returned u∧(∃a,u = .pointer (some a)∧At (d7 w') a (b9 p)∧o6 w w'):=by
 refine Calls.mono (aa4 (d7 w) v p w hv (i4 _) hwt) ?_;rintro e w' ⟨u,he,gb,vg,vp,vL,vLo,vHi,rfl,hs,hg,hp,_,_,hx⟩;refine⟨_,he,_,rfl,?_,hx⟩;have hF:b9 p=⟨p,(b9 p).l,(b9 p).lo,(b9 p).hi⟩:=by
  have:(b9 p).p=p:=by unfold b9;rw[aQ6]
  cases hq:b9 p;rw[hq]at this;simp only at this;rw[this]
 rw[hF];exact hs.at_ (b7 hx) hg hp
theorem dc5:af6 prog 149=true:=by kernel_rfl
theorem dc7:af6 prog 161=true:=by kernel_rfl
theorem dF0:af6 prog 84=true:=by kernel_rfl
theorem aq8:F2 prog 22 9 1 16=true:=by kernel_rfl
theorem ldS{h:Hp}{v:Value}{l:List A4}{w:World}(hv:R h v l)(hw:B4 h (d7 w)){k:Nat}(hk:k<l.length):(Instr.loadAt 9 (.pointer (some (H4 v k)))).run prog w = .ok (o7 l[k]) w:=
 M8 (P:=prog) (t:=9) hv hw (ev2 hk) U4
theorem bd3{α:Type}{p:α→Bool}{l:List α}(h:∀j (hj:j<l.length),p l[j]=false):∀x∈l,p x=false:=fun x hx=>by
 obtain⟨j,hj,rfl⟩:=eA8.1 hx;exact h j hj
theorem be0(v:Value)(l:List A4)(x:A4)(w:World)(hv:R (d7 w) v l)(hl:l.length≤1000000000):Calls prog 149 #[v,o7 x] w fun e w'=>∃u,e = .returned u∧(u = .int .i64 (V5 (fun y=>decide (x=y)) 0 l)∧w'=w):=by
 refine d9 (args:=[v,o7 x]) hm func149 rfl (by kernel_rfl) (by show 2≤_;decide +kernel) ?_;have hS:=hv.isS;have hn:=hv.vlen;simp only[n3,n9,simprocAttr,hS,hn];refine n8 [0,1,6,7] (σ:=Nat) (fun k f w'=>f 8 = .int .i64 k∧k≤l.length∧(∀j (hj:j<l.length),j<k→decide (x=l[j])=false)∧w'=w) (fun k=>l.length-k) 0 (by decide +kernel) ?_ ?_
 ·simp only[p6,simprocAttr];exact⟨by trivial,ew4 _,fun j _ h=>by omega,by trivial⟩
 ·rintro k f w' hk ⟨h8,hkl,hno,rfl⟩;simp only[ev4,p6,simprocAttr]at hk;obtain⟨e0,e1,e6,e7,_⟩:=hk;simp only[n3,n9,simprocAttr,h8,e7];refine i5 (fun hc=>?_) (fun hc=>?_)
  ·have hlt:k<l.length:=by simpa using hc
   have hin:=hv.inS hlt;have hld:=ldS hv (i4 _) hlt;simp only[n3,n9,p9,simprocAttr,h8,e0,e1,hin,hld];refine i5 (fun hc2=>?_) (fun hc2=>?_)
   ·simp only[n3,simprocAttr];refine n7 results149 ?_;simp only[p6,simprocAttr];exact⟨by rw[am4 (fun y=>decide (x=y)) l 0 k hlt (fun j hj=>hno j (by omega) hj) hc2,ey7],by trivial⟩
   ·simp only[n3,n9,simprocAttr,h8];refine⟨k+1,by omega,by rw[B1 k (by omega)],by omega,fun j hj hjk=>?_,by trivial⟩;rcases ez0 j k with h|h
    ·exact hno j hj h
    ·obtain rfl:j=k:=by omega
     exact hc2
  ·have hge:k=l.length:=by simp at hc;omega
   subst hge;simp only[n3,simprocAttr];refine n7 results149 ?_;simp only[p6,simprocAttr];exact⟨by rw[as4 _ _ _ (bd3 fun j hj=>hno j hj hj)],by trivial⟩
theorem N8(v:Value)(l:List A4)(x:A4)(w:World)(hv:R (d7 w) v l)(hl:l.length≤1000000000):Calls prog 111 #[v,o7 x] w fun e w'=>∃u,e = .returned u∧(u = .bool (l.contains x)∧w'=w):=by
 refine d9 (args:=[v,o7 x]) hm func111 rfl (by kernel_rfl) (by show 2≤_;decide +kernel) ?_;simp only[n3,n9,simprocAttr];refine D1 dc5 (be0 v l x w hv hl) ?_;have hd:decide (0≤V5 (fun y=>decide (x=y)) 0 l)=l.contains x:=by
  rw[as3,←List.any_beq]
  congr 1
 simp only[n3,n9,simprocAttr,hd];refine n7 results111 ?_;simp only[p6,simprocAttr];exact⟨by trivial,by trivial⟩
theorem az6(pred:Pr→Bool)(g:Nat)(cap:Array Value)(v:Value)(l:List Pr)(w:World)(hb:af6 prog g=true)(hv:R (d7 w) v l)(hl:l.length≤1000000000)
  (hp:∀(sv:Value) (x:Pr) (w':World),o6 w w'→x∈l→SV (d7 w') sv x→Calls prog g ([sv]++cap.toList).toArray w' fun e w''=>∃u,e = .returned u∧(u = .bool (pred x)∧o6 w' w'')) :
  Calls prog 84 #[v,.func (.func g) #[] cap] w fun e w'=>∃u,e = .returned u∧(u = .int .i64 (V5 pred 0 l)∧o6 w w'):=by
 refine d9 (args:=[v,.func (.func g) #[] cap]) hm func84 rfl (by kernel_rfl) (by show 2≤_;decide +kernel) ?_;have hS:=hv.isS;have hn:=hv.vlen;simp only[n3,n9,simprocAttr,hS,hn];refine n8 [0,1,6,7] (σ:=Nat) (fun k f w'=>f 8 = .int .i64 k∧k≤l.length∧(∀j (hj:j<l.length),j<k→pred l[j]=false)∧o6 w w') (fun k=>l.length-k) 0 (by decide +kernel) ?_ ?_
 ·simp only[p6,simprocAttr];exact⟨by trivial,ew4 _,fun j _ h=>by omega,o9.refl _⟩
 ·rintro k f w1 hk ⟨h8,hkl,hno,hx⟩;simp only[ev4,p6,simprocAttr]at hk;obtain⟨e0,e1,e6,e7,_⟩:=hk;simp only[n3,n9,simprocAttr,h8,e7];refine i5 (fun hc=>?_) (fun hc=>?_)
  ·have hlt:k<l.length:=by simpa using hc
   have hin:=hv.inS hlt;obtain⟨sv,hsv,hld⟩:=G1 (P:=prog) (t:=53) hv (b7 hx) (ev2 hlt) ao0 ao4 ao1 O1;rw[O1]at hld;simp only[n3,n9,p9,simprocAttr,h8,e0,e1,hin,hld,eG1];refine B3 hb (hp sv l[k] w1 hx (ew2 hlt) (hsv.mono (b7 hx))) (fun w2 hx2=>?_);cases hq:pred l[k]
   ·simp only[n3,n9,simprocAttr,h8];refine⟨k+1,by omega,by rw[B1 k (by omega)],by omega,fun j hj hjk=>?_,hx.trans hx2⟩;rcases ez0 j k with h|h
    ·exact hno j hj h
    ·obtain rfl:j=k:=by omega
     exact hq
   ·simp only[n3,simprocAttr];refine n7 results84 ?_;simp only[p6,simprocAttr];exact⟨by rw[am4 pred l 0 k hlt (fun j hj=>hno j (by omega) hj) hq,ey7],hx.trans hx2⟩
  ·have hge:k=l.length:=by simp at hc;omega
   subst hge;simp only[n3,simprocAttr];refine n7 results84 ?_;simp only[p6,simprocAttr];exact⟨by rw[as4 _ _ _ (bd3 fun j hj=>hno j hj hj)],hx⟩
theorem az7(pred:A4→Bool)(g:Nat)(cap:Array Value)(v:Value)(l:List A4)(w:World)(hb:af6 prog g=true)(hv:R (d7 w) v l)(hl:l.length≤1000000000)
  (hp:∀(x:A4) (w':World),o6 w w'→x∈l→Calls prog g ([o7 x]++cap.toList).toArray w' fun e w''=>∃u,e = .returned u∧(u = .bool (pred x)∧o6 w' w'')) :
  Calls prog 161 #[v,.func (.func g) #[] cap] w fun e w'=>∃u,e = .returned u∧(u = .int .i64 (V5 pred 0 l)∧o6 w w'):=by
 refine d9 (args:=[v,.func (.func g) #[] cap]) hm func161 rfl (by kernel_rfl) (by show 2≤_;decide +kernel) ?_;have hS:=hv.isS;have hn:=hv.vlen;simp only[n3,n9,simprocAttr,hS,hn];refine n8 [0,1,6,7] (σ:=Nat) (fun k f w'=>f 8 = .int .i64 k∧k≤l.length∧(∀j (hj:j<l.length),j<k→pred l[j]=false)∧o6 w w') (fun k=>l.length-k) 0 (by decide +kernel) ?_ ?_
 ·simp only[p6,simprocAttr];exact⟨by trivial,ew4 _,fun j _ h=>by omega,o9.refl _⟩
 ·rintro k f w1 hk ⟨h8,hkl,hno,hx⟩;simp only[ev4,p6,simprocAttr]at hk;obtain⟨e0,e1,e6,e7,_⟩:=hk;simp only[n3,n9,simprocAttr,h8,e7];refine i5 (fun hc=>?_) (fun hc=>?_)
  ·have hlt:k<l.length:=by simpa using hc
   have hin:=hv.inS hlt;have hld:=ldS hv (b7 hx) hlt;simp only[n3,n9,p9,simprocAttr,h8,e0,e1,hin,hld,eG1];refine B3 hb (hp l[k] w1 hx (ew2 hlt)) (fun w2 hx2=>?_);cases hq:pred l[k]
   ·simp only[n3,n9,simprocAttr,h8];refine⟨k+1,by omega,by rw[B1 k (by omega)],by omega,fun j hj hjk=>?_,hx.trans hx2⟩;rcases ez0 j k with h|h
    ·exact hno j hj h
    ·obtain rfl:j=k:=by omega
     exact hq
   ·simp only[n3,simprocAttr];refine n7 results161 ?_;simp only[p6,simprocAttr];exact⟨by rw[am4 pred l 0 k hlt (fun j hj=>hno j (by omega) hj) hq,ey7],hx.trans hx2⟩
  ·have hge:k=l.length:=by simp at hc;omega
   subst hge;simp only[n3,simprocAttr];refine n7 results161 ?_;simp only[p6,simprocAttr];exact⟨by rw[as4 _ _ _ (bd3 fun j hj=>hno j hj hj)],hx⟩
theorem aM6(pred:A4→Bool)(g:Nat)(cap:Array Value)(v:Value)(l:List A4)(w:World)(hb:af6 prog g=true)(hv:R (d7 w) v l)(hl:l.length≤1000000000)
  (hp:∀(x:A4) (w':World),o6 w w'→x∈l→Calls prog g ([o7 x]++cap.toList).toArray w' fun e w''=>∃u,e = .returned u∧(u = .bool (pred x)∧o6 w' w'')) :
  Calls prog 152 #[v,.func (.func g) #[] cap] w fun e w'=>∃u,e = .returned u∧(u = .bool (l.any pred)∧o6 w w'):=by
 refine d9 (args:=[v,.func (.func g) #[] cap]) hm func152 rfl (by kernel_rfl) (by show 2≤_;decide +kernel) ?_;simp only[n3,n9,simprocAttr];refine B3 dc7 (az7 pred g cap v l w hb hv hl hp) (fun w2 hx=>?_);have hd:=as3 pred l 0;simp only[n3,n9,simprocAttr,hd];refine n7 results152 ?_;simp only[p6,simprocAttr];exact⟨by trivial,hx⟩
theorem aM5(pred:Pr→Bool)(g:Nat)(cap:Array Value)(v:Value)(l:List Pr)(w:World)(hb:af6 prog g=true)(hv:R (d7 w) v l)(hl:l.length≤1000000000)
  (hp:∀(sv:Value) (x:Pr) (w':World),o6 w w'→x∈l→SV (d7 w') sv x→Calls prog g ([sv]++cap.toList).toArray w' fun e w''=>∃u,e = .returned u∧(u = .bool (pred x)∧o6 w' w'')) :
  Calls prog 255 #[v,.func (.func g) #[] cap] w fun e w'=>∃u,e = .returned u∧(u = .bool (l.any pred)∧o6 w w'):=by
 refine d9 (args:=[v,.func (.func g) #[] cap]) hm func255 rfl (by kernel_rfl) (by show 2≤_;decide +kernel) ?_;simp only[n3,n9,simprocAttr];refine B3 dF0 (az6 pred g cap v l w hb hv hl hp) (fun w2 hx=>?_);have hd:=as3 pred l 0;simp only[n3,n9,simprocAttr,hd];refine n7 results255 ?_;simp only[p6,simprocAttr];exact⟨by trivial,hx⟩
theorem eE9:type_of% @List.find?_eq_none:=@List.find?_eq_none
theorem eD5:type_of% @List.find?_eq_some_iff_getElem:=@List.find?_eq_some_iff_getElem
theorem eD8:type_of% @List.mem_of_mem_take:=@List.mem_of_mem_take
theorem ac2:af6 prog 111=true:=by kernel_rfl
theorem aY8:af6 prog 62=true:=by kernel_rfl
theorem es8:af6 prog 85=true:=by kernel_rfl
theorem cW4(n:A4)(w:World):∃a w',(Instr.box 9 (o7 n)).run prog w = .ok (.pointer (some a)) w'∧o6 w w'∧∀w'',o6 w' w''→(Instr.loadAt 9 (.pointer (some a))).run prog w'' = .ok (o7 n) w'':=by
 refine⟨⟨w.heap.size,0,none⟩,w.alloc (.cells #[o7 n] 9),rfl,o6.alloc _ _,fun w'' hx=>?_⟩;exact E8 (i:=0) (cs:=#[o7 n]) (T:=9) ((hx.block _ (by simp) id).trans (ez5 w _)) rfl U4
theorem bU9(sv:Value)(q:Pr)(n:A4)(a:Addr)(w:World)(hv:SV (d7 w) sv q)(hl:∀w',o6 w w'→(Instr.loadAt 9 (.pointer (some a))).run prog w' = .ok (o7 n) w'):
  Calls prog 85 #[sv,.pointer (some a)] w fun e w'=>∃u,e = .returned u∧(u = .bool (decide (q.name=n))∧o6 w w'):=by
 refine d9 (args:=[sv,.pointer (some a)]) hm func85 rfl (by kernel_rfl) (by show 2≤_;decide +kernel) ?_;obtain⟨b,w1,hb,hx,ha⟩:=bc8 hv (i4 _);obtain⟨_,_,_,_,_,_,_,_,ld,_⟩:=ha.pr;have l1:=ld w1 (i4 _);have l2:=hl w1 hx;simp only[n3,n9,simprocAttr,hb,l1,l2];refine n7 results85 ?_;simp only[p6,simprocAttr];exact⟨by trivial,hx⟩
theorem an5(a:Addr)(s:Sh)(n:A4)(w:World)(hs:At (d7 w) a s)(hl:s.p.procs.length≤1000000000):Calls prog 50 #[.pointer (some a),o7 n] w fun e w'=>∃u,e = .returned u∧(u = .int .i64 (s.pr n)∧o6 w w'):=by
 refine d9 (args:=[.pointer (some a),o7 n]) hm func50 rfl (by kernel_rfl) (by show 2≤_;decide +kernel) ?_;obtain⟨vL,vlo,vhi,hL,hlo,hhi,hap,ld,sd⟩:=hs.sh;obtain⟨vg,vp,hg,hp,ldp,sdp⟩:=hap.pg;obtain⟨b,w1,hb,hx,hld⟩:=cW4 n w;have l1:=ldp w1 (b7 hx);simp only[n3,n9,simprocAttr,hb,l1];refine B3 dF0 (az6 (fun q=>decide (q.name=n)) 85 #[.pointer (some b)] vp s.p.procs w1 es8 (z7.mono (b7 hx) hp) hl
  (fun sv x w' hx' _ hsv=>bU9 sv x n b w' hsv fun w'' hx''=>hld w'' (hx'.trans hx''))) (fun w2 hx2=>?_)
 simp only[n3,simprocAttr];refine n7 results50 ?_;simp only[p6,simprocAttr];exact⟨by trivial,hx.trans hx2⟩
theorem bE1{α:Type}[z7 α]{h:Hp}{v:Value}{xs:List α}(hr:R h v xs){i j:Nat}(hij:i≤j)(hj:j≤xs.length):R h (reS v i j (z7.sz α)) ((xs.take j).drop i):=by
 obtain⟨a,n,c,he,hn,hc,es,hes,hce⟩:=hr;simp only[eI2,and_true]at he;subst he;have hsplit:xs=xs.take i++((xs.take j).drop i++xs.drop j):=by
  have h1:xs.take j=xs.take i++(xs.take j).drop i:=by
   have:=eA3 i (xs.take j);rw[List.take_take,eB8 hij]at this;exact this.symm
  rw[←ex9,←h1,eA3]
 rw[hsplit]at hes;obtain⟨c1,c2,rfl,h1,h2⟩:=Z5 _ _ hes;obtain⟨c3,c4,rfl,h3,h4⟩:=Z5 _ _ h2;have hl1:=J7 h1;rw[ew6,eB8 (by omega)]at hl1;have hlen:((xs.take j).drop i).length=j-i:=by rw[eD7,ew6,eB8 hj]
 refine⟨_,j-i,c-i,rfl,hlen.symm,by omega,c3,h3,fun k u hk=>?_⟩;have hk':(c1++(c3++c4))[i*z7.sz α+k]?=some u:=by
  rw[ez6 (by omega),hl1,Nat.add_sub_cancel_left,eA0 (ev8.1 hk).1];exact hk
 obtain⟨ad,e1,e2⟩:=hce _ u hk';subst e1;have hlt:i<j:=by
  rcases ez0 i j with h|h
  ·exact h
  ·have:c3.length=0:=by rw[J7 h3,hlen,show j-i=0 by omega,Nat.zero_mul]
   have:=(ev8.1 hk).1;omega
 refine⟨ad.add (i*z7.sz α),?_,by rw[Addr.add_add'];exact e2⟩;rw[if_neg (by omega)];rfl
structure bn9 (s:Sh) (i:Nat) (x y:Nat):Prop where
 lo:s.lo[i]?=some ((x:Int)+1)
 hi:s.hi[i]?=some ((y:Int)+1)
 le:x≤y
 len:y≤s.l.length
 fit:s.l.length≤1000000
theorem bn9.of_{s:Sh}{i x y:Nat}(h:bn9 s i x y):s.of i=(s.l.take y).drop x:=by
 unfold Sh.of U5;have h1:=h.lo;have h2:=h.hi;simp only[ex8,List.getD,h1,h2,eA9]
 congr 1
 ·omega
 ·congr 1;omega
theorem ldI{h:Hp}{v:Value}{l:List Int}{w:World}(hv:R h v l)(hw:B4 h (d7 w)){k:Nat}{x:Int}(hk:l[k]?=some x):(Instr.loadAt 3 (.pointer (some (H4 v k)))).run prog w = .ok (.int .i64 x) w:=
 M8 (P:=prog) (t:=3) hv hw hk G3
theorem aQ5(a:Addr)(s:Sh)(i x y:Nat)(w:World)(hs:At (d7 w) a s)(hok:bn9 s i x y):Calls prog 62 #[.pointer (some a),.int .i64 i] w fun e w'=>∃u,e = .returned u∧(R (d7 w') u (s.of i)∧o6 w w'):=by
 refine d9 (args:=[.pointer (some a),.int .i64 i]) hm func62 rfl (by kernel_rfl) (by show 2≤_;decide +kernel) ?_;obtain⟨vL,vlo,vhi,hL,hlo,hhi,hap,ld,sd⟩:=hs.sh;have hst:∀w',o6 w.drew w'→B4 (d7 w) (d7 w'):=fun w' h=>b7 ((o6.drew w).trans h);have s1:=sd (fun w'=>o6 w.drew w') w.drew (o9.refl _) hst;have hi1:=hlo.inS (ev8.1 hok.lo).1;have hi2:=hhi.inS (ev8.1 hok.hi).1;have k1:∀K f d w0,B8 prog (fun w'=>o6 w.drew w') (Instr.loadAt 3 (.pointer (some (H4 vlo i)))) K f d w0=K (A5 f d (.int .i64 ((x:Int)+1))) w0:=fun K f d w0=>A0 (w0:=w.drew) (o9.refl _) fun w' h=>ldI hlo (hst w' h) hok.lo;have k2:∀K f d w0,B8 prog (fun w'=>o6 w.drew w') (Instr.loadAt 3 (.pointer (some (H4 vhi i)))) K f d w0=K (A5 f d (.int .i64 ((y:Int)+1))) w0:=fun K f d w0=>A0 (w0:=w.drew) (o9.refl _) fun w' h=>ldI hhi (hst w' h) hok.hi;have B4:=hok.le;have hlen:=hok.len;have hfit:=hok.fit;have e1:IntKind.i64.wrap ((x:Int)+1-1)=(x:Int):=by rw[K1 _ (by omega)];omega
 have e2:IntKind.i64.wrap ((y:Int)+1-1)=(y:Int):=by rw[K1 _ (by omega)];omega
 have hSL:=hL.isS;have hc:=hL.vcap;have c1:decide ((x:Int)≤(y:Int))=true:=by simp;omega
 have c2:decide ((y:Int)≤(vcap vL:Int))=true:=by simp;omega
 simp only[n3,n9,simprocAttr];refine C2 (fun w'=>o6 w.drew w') 22 (A8 [0,1,2,3,4,5,6,7,8,9,10,11,12,13,14,15,16,17,18,19,20,21]) (by decide +kernel) (o9.refl _) ?_;simp only[D5,A8,n3,n9,p9,F8,simprocAttr,s1,hi1,hi2,k1,k2,e1,e2,hSL,c1,c2];refine n7 results62 ?_;simp only[p6,simprocAttr];refine⟨?_,o6.drew w⟩;rw[hok.of_];exact z7.mono (b7 (o6.drew w)) (bE1 hL B4 hlen)
theorem bM0(a:Addr)(s:Sh)(i x y:Nat)(w:World)(hs:At (d7 w) a s)(hok:bn9 s i x y):Calls prog 186 #[.pointer (some a),.int .i64 i] w fun e w'=>∃u,e = .returned u∧(u = .int .i64 (s.first i)∧o6 w w'):=by
 refine d9 (args:=[.pointer (some a),.int .i64 i]) hm func186 rfl (by kernel_rfl) (by show 2≤_;decide +kernel) ?_;obtain⟨vL,vlo,vhi,hL,hlo,hhi,hap,ld,sd⟩:=hs.sh;have hst:∀w',o6 w.drew w'→B4 (d7 w) (d7 w'):=fun w' h=>b7 ((o6.drew w).trans h);have s1:=sd (fun w'=>o6 w.drew w') w.drew (o9.refl _) hst;have l1:=ld w.drew (hst _ (o9.refl _));have hi1:=hlo.inS (ev8.1 hok.lo).1;have hi2:=hhi.inS (ev8.1 hok.hi).1;have k1:∀K f d w0,B8 prog (fun w'=>o6 w.drew w') (Instr.loadAt 3 (.pointer (some (H4 vlo i)))) K f d w0=K (A5 f d (.int .i64 ((x:Int)+1))) w0:=fun K f d w0=>A0 (w0:=w.drew) (o9.refl _) fun w' h=>ldI hlo (hst w' h) hok.lo;have k2:∀K f d w0,B8 prog (fun w'=>o6 w.drew w') (Instr.loadAt 3 (.pointer (some (H4 vhi i)))) K f d w0=K (A5 f d (.int .i64 ((y:Int)+1))) w0:=fun K f d w0=>A0 (w0:=w.drew) (o9.refl _) fun w' h=>ldI hhi (hst w' h) hok.hi;have k3:=ldI hlo (hst _ (o9.refl _)) hok.lo;have hF:s.first i=if(x:Int)+1<(y:Int)+1 then(x:Int)+1 else -1:=by
  unfold Sh.first U5;simp only[ex8,List.getD,hok.lo,hok.hi,eA9]
 generalize hX:(x:Int)+1=X at *;generalize hY:(y:Int)+1=Y at *;simp only[n3,n9,simprocAttr];refine C2 (fun w'=>o6 w.drew w') 15 (A8 [0,1,2,3,4,5,6,7,8,9,10,11,12,13,14]) (by decide +kernel) (o9.refl _) ?_;simp only[D5,A8,n3,n9,p9,simprocAttr,s1,hi1,hi2,k1,k2];refine i5 (fun hc=>?_) (fun hc=>?_)
 ·simp only[n3,n9,p9,simprocAttr,l1,hi1,k3];refine n7 results186 ?_;simp only[p6,simprocAttr];exact⟨by rw[hF,if_pos (ev6 hc)],o6.drew w⟩
 ·simp only[n3,simprocAttr];refine n7 results186 ?_;simp only[p6,simprocAttr];exact⟨by rw[hF,if_neg (ev7 hc)],o6.drew w⟩
def bK1(o:Option Int):Value:=match o with
 | some i=>.tuple #[.int .i64 i,.bool true]
 | none=>.tuple #[.int .i64 0,.bool false]
theorem bL9(a:Addr)(s:Sh)(i x y:Nat)(lb:A4)(w:World)(hs:At (d7 w) a s)(hok:bn9 s i x y)(hip:i<s.p.procs.length)(hwt:∀it∈s.l,O5 it.s≤1000000)(hwf:∀f∈s.p.procs,T8 f≤1000000):
  Calls prog 218 #[.pointer (some a),.int .i64 i,o7 lb] w fun e w'=>∃u,e = .returned u∧(u=bK1 (s.at i lb)∧o6 w w'):=by
 refine d9 (args:=[.pointer (some a),.int .i64 i,o7 lb]) hm func218 rfl (by kernel_rfl) (by show 3≤_;decide +kernel) ?_;obtain⟨vL,vlo,vhi,hL,hlo,hhi,hap,ld,sd⟩:=hs.sh;obtain⟨vg,vp,hg,hp,ldp,sdp⟩:=hap.pg;have hof:∀it∈s.of i,it∈s.l:=fun it h=>by
  rw[hok.of_]at h;exact eD8 (eF9 h)
 have hlen:(s.of i).length≤1000000:=by
  rw[hok.of_,eD7,ew6];have:=hok.fit;omega
 simp only[n3,n9,simprocAttr];refine y5 aY8 (aQ5 a s i x y w hs hok) ?_;rintro u w1 ⟨hu,hx1⟩;generalize hof2:s.of i=l at hu hof hlen;have hS:=hu.isS;have hn:=hu.vlen;simp only[n3,n9,simprocAttr,hS,hn];refine n8 [0,1,2,12,13] (σ:=Nat) (fun k f w'=>f 14 = .int .i64 k∧k≤l.length∧(∀j (hj:j<l.length),j<k→l[j].s.labels.contains lb=false)∧o6 w1 w') (fun k=>l.length-k) 0 (by decide +kernel) ?_ ?_
 ·simp only[p6,simprocAttr];exact⟨by trivial,ew4 _,fun j _ h=>by omega,o9.refl _⟩
 ·rintro k f w2 hk ⟨h14,hkl,hno,hx⟩;simp only[ev4,p6,simprocAttr]at hk;obtain⟨e0,e1,e2,e12,e13,_⟩:=hk;simp only[n3,n9,simprocAttr,h14,e13];refine i5 (fun hc=>?_) (fun hc=>?_)
  ·have hlt:k<l.length:=by simpa using hc
   have hin:=hu.inS hlt;obtain⟨sv,hsv,hld⟩:=G1 (P:=prog) (t:=127) hu (b7 hx) (ev2 hlt) X9 Y1 Y0 I9;rw[I9]at hld;have hwt':=hwt _ (hof _ (ew2 hlt));rw[P8]at hwt';have hl1:=S8 l[k].s.labels;obtain⟨b,wz,w3,hal,hst,hx3,hat⟩:=ax8 (hsv.mono (b7 hx)) (i4 _);obtain⟨hats,_,_⟩:=hat.it;obtain⟨vl,_,_,_,hvl,_,_,_,_,ldt,_⟩:=hats.st;have l3:=ldt w3 (i4 _);simp only[n3,n9,p9,simprocAttr,h14,e2,e12,hin,hld,hal,hst,l3];refine D1 ac2 (N8 vl l[k].s.labels lb w3 hvl (by omega)) ?_;cases hq:l[k].s.labels.contains lb
   ·simp only[n3,n9,simprocAttr,h14];refine⟨k+1,by omega,by rw[B1 k (by omega)],by omega,fun j hj hjk=>?_,hx.trans hx3⟩;rcases ez0 j k with h|h
    ·exact hno j hj h
    ·obtain rfl:j=k:=by omega
     exact hq
   ·simp only[n3,n9,simprocAttr,l3];refine ad8 results218 ?_;simp only[p6,simprocAttr];refine⟨?_,hx1.trans (hx.trans hx3)⟩;have hfind:l.find? (fun it=>it.s.labels.contains lb)=some l[k]:=eD5.2 ⟨hq,k,hlt,rfl,fun j hj=>by rw[hno j (by omega) hj];rfl⟩;rw[Sh.at,hof2,hfind];rfl
  ·have hge:k=l.length:=by simp at hc;omega
   subst hge;have hfind:l.find? (fun it=>it.s.labels.contains lb)=none:=eE9.2 fun it hit=>by
    obtain⟨j,hj,rfl⟩:=eA8.1 hit;rw[hno j hj hj];simp
   have hA:s.at i lb=if(s.fn i).fin.contains lb then some (-1)else none:=by rw[Sh.at,hof2,hfind]
   have hfn:s.p.procs[i]?=some (s.fn i):=by
    unfold Sh.fn;rw[ex8,List.getD,ev2 hip];rfl
   have hwf':=hwf _ (ex2 hfn);unfold T8 at hwf';have hl2:=S8 (s.fn i).fin;have hatp:=hp.at_ hfn;obtain⟨_,_,_,vf,_,_,_,hvf,ldf,_⟩:=hatp.pr;have lp:=ldp w2 (b7 (hx1.trans hx));have lf:=ldf w2 (b7 (hx1.trans hx));have hz:z7.sz Pr=5:=rfl;rw[hz]at lf;have hin:=hp.inS hip;simp only[n3,n9,p9,simprocAttr,e0,e1,e2,lp,lf,hin];refine D1 ac2 (N8 vf (s.fn i).fin lb w2 (z7.mono (b7 (hx1.trans hx)) hvf) (by omega)) ?_;cases hq:(s.fn i).fin.contains lb
   ·simp only[n3,simprocAttr];refine ad8 results218 ?_;simp only[p6,simprocAttr];exact⟨by rw[hA,hq];rfl,hx1.trans hx⟩
   ·simp only[n3,simprocAttr];refine ad8 results218 ?_;simp only[p6,simprocAttr];exact⟨by rw[hA,hq];rfl,hx1.trans hx⟩
theorem bA2:af6 prog 147=true:=by kernel_rfl
theorem aF5(v:Value)(l:List A4)(w:World)(hv:R (d7 w) v l)(hl:l.length≤1000000):Calls prog 146 #[v] w fun e w'=>∃u,e = .returned u∧(u = .bool (Z9 l)∧w'=w):=by
 refine d9 (args:=[v]) hm func146 rfl (by kernel_rfl) (by show 1≤_;decide +kernel) ?_;have hS:=hv.isS;have hn:=hv.vlen;simp only[n3,n9,simprocAttr,hS,hn];refine n8 [5,6] (σ:=Nat) (fun k f w'=>f 7 = .int .i64 k∧k≤l.length∧(l.take k).all N9=true∧w'=w) (fun k=>l.length-k) 0 (by decide +kernel) ?_ ?_
 ·simp only[p6,simprocAttr];exact⟨by trivial,ew4 _,by simp,by trivial⟩
 ·rintro k f w' hk ⟨h7,hkl,hall,rfl⟩;simp only[ev4,p6,simprocAttr]at hk;obtain⟨e5,e6,_⟩:=hk;simp only[n3,n9,simprocAttr,h7,e6];refine i5 (fun hc=>?_) (fun hc=>?_)
  ·have hlt:k<l.length:=by simpa using hc
   have hin:=hv.inS hlt;have hld:(Instr.loadAt 9 (.pointer (some (H4 v k)))).run prog w' = .ok (o7 l[k]) w':=M8 (P:=prog) (t:=9) hv (i4 _) (ev2 hlt) U4;have htk:(l.take (k+1)).all N9=((l.take k).all N9&&N9 l[k]):=by rw[ew1 hlt,List.all_append];simp
   have hmem:=ew2 hlt;generalize l[k]=s at hld htk hmem;simp only[n3,n9,p9,simprocAttr,h7,e5,hin,hld];refine y5 bA2 (az9 s _) ?_;rintro u w1 ⟨rfl,rfl⟩;cases hn:N9 s
   ·simp only[n3,n9,simprocAttr];refine n7 results146 ?_;simp only[p6,simprocAttr];refine⟨?_,by trivial⟩;have:Z9 l=false:=by
     rw[eF7];intro h;rw[eE2.1 h s hmem]at hn;cases hn
    rw[this]
   ·simp only[n3,n9,simprocAttr,h7];exact⟨k+1,by omega,by rw[B1 k (by omega)],by omega,by rw[htk,hall,hn];rfl,by trivial⟩
  ·have hge:k=l.length:=by simp at hc;omega
   subst hge;simp only[n3,simprocAttr];refine n7 results146 ?_;simp only[p6,simprocAttr];rw[ew5]at hall;exact⟨by rw[Z9,hall],by trivial⟩
theorem cy4(op:Int)(w:World):Calls prog 265 #[.int .i64 op] w fun e w'=>∃u,e = .returned u∧(u = .int .i64 (as5 op)∧w'=w):=by
 refine d9 (args:=[.int .i64 op]) hm func265 rfl (by kernel_rfl) (by show 1≤_;decide +kernel) ?_;by_cases h1:op=1
 ·have d1:decide (op=1)=true:=by simp[h1]
  simp only[n3,n9,simprocAttr,d1];refine n7 results265 ?_;simp only[p6,simprocAttr];exact⟨by simp[as5,h1],by trivial⟩
 have d1:decide (op=1)=false:=by simp[h1]
 by_cases h2:op=2
 ·have d2:decide (op=2)=true:=by simp[h2]
  simp only[n3,n9,simprocAttr,d1,d2];refine n7 results265 ?_;simp only[p6,simprocAttr];exact⟨by simp[as5,h2],by trivial⟩
 have d2:decide (op=2)=false:=by simp[h2]
 by_cases h3:op=3
 ·have d3:decide (op=3)=true:=by simp[h3]
  simp only[n3,n9,simprocAttr,d1,d2,d3];refine n7 results265 ?_;simp only[p6,simprocAttr];exact⟨by simp[as5,h3],by trivial⟩
 have d3:decide (op=3)=false:=by simp[h3]
 by_cases h4:op=4
 ·have d4:decide (op=4)=true:=by simp[h4]
  simp only[n3,n9,simprocAttr,d1,d2,d3,d4];refine n7 results265 ?_;simp only[p6,simprocAttr];exact⟨by simp[as5,h4],by trivial⟩
 have d4:decide (op=4)=false:=by simp[h4]
 by_cases h5:5≤op
 ·have d5:decide (5≤op)=true:=by simp[h5]
  by_cases h6:op≤17
  ·have d6:decide (op≤17)=true:=by simp[h6]
   simp only[n3,n9,simprocAttr,d1,d2,d3,d4,d5,d6];refine n7 results265 ?_;simp only[p6,simprocAttr];exact⟨by rw[as5,if_neg (by omega),if_neg (by omega),if_pos ⟨h5,h6⟩],by trivial⟩
  ·have d6:decide (op≤17)=false:=by simp[h6]
   simp only[n3,n9,simprocAttr,d1,d2,d3,d4,d5,d6];refine n7 results265 ?_;simp only[p6,simprocAttr];exact⟨by rw[as5,if_neg (by omega),if_neg (by omega),if_neg (by omega)],by trivial⟩
 ·have d5:decide (5≤op)=false:=by simp[h5]
  simp only[n3,n9,simprocAttr,d1,d2,d3,d4,d5];refine n7 results265 ?_;simp only[p6,simprocAttr];exact⟨by rw[as5,if_neg (by omega),if_neg (by omega),if_neg (by omega)],by trivial⟩
theorem cA0(v:Value)(x:Ex)(w:World)(hv:SV (d7 w) v x):Calls prog 278 #[v] w fun e w'=>∃u,e = .returned u∧(u = .bool (cz9 x)∧o6 w w'):=by
 refine d9 (args:=[v]) hm func278 rfl (by kernel_rfl) (by show 1≤_;decide +kernel) ?_;obtain⟨a,w1,hb,hx,ha⟩:=aE1 hv (i4 _);obtain⟨vk,hk,ld,_⟩:=ha.ex;have l1:=ld w1 (i4 _);have hS:=hk.isS;have hn:=hk.vlen;have hl:decide ((x.kids.length:Int)=0)=decide (x.kids.length=0):=ez8.2 (by omega);unfold cz9;cases h1:decide (x.op=0)
 ·simp only[n3,n9,simprocAttr,hb,l1,h1];refine n7 results278 ?_;simp only[p6,simprocAttr];exact⟨by trivial,hx⟩
 cases h2:decide (x.n=0)
 ·simp only[n3,n9,simprocAttr,hb,l1,h1,h2];refine n7 results278 ?_;simp only[p6,simprocAttr];exact⟨by trivial,hx⟩
 cases h3:decide (x.name=e0)
 ·simp only[n3,n9,simprocAttr,hb,l1,h1,h2,h3];refine n7 results278 ?_;simp only[p6,simprocAttr];exact⟨by trivial,hx⟩
 simp only[n3,n9,simprocAttr,hb,l1,hS,hn,h1,h2,h3,hl];refine n7 results278 ?_;simp only[p6,simprocAttr];exact⟨by trivial,hx⟩
theorem dd0:af6 prog 193=true:=by kernel_rfl
theorem dd7:af6 prog 240=true:=by kernel_rfl
theorem cx1:af6 prog 252=true:=by kernel_rfl
theorem dd8:af6 prog 253=true:=by kernel_rfl
theorem ej2:af6 prog 265=true:=by kernel_rfl
theorem ej6:af6 prog 278=true:=by kernel_rfl
theorem aE0{α:Type}(p:α→Bool)(l:List α)(k:Nat)(hk:k<l.length):(l.take (k+1)).all p=((l.take k).all p&&p l[k]):=by
 rw[ew1 hk,List.all_append];simp
theorem au6{α:Type}{p:α→Bool}{l:List α}{x:α}(hx:x∈l)(h:p x=false):l.all p=false:=by
 rw[eF7];intro ha;rw[eE2.1 ha _ hx]at h;cases h
theorem bF4:∀(n:Nat) (v:Value) (x:Ex) (w:World),n≤20→SV (d7 w) v x→Calls prog 240 #[v,.int .i64 n] w fun e w'=>∃u,e = .returned u∧(u = .bool (W7 n x)∧o6 w w')
 | 0,v,x,w,_,hv=>by
  refine d9 (args:=[v,.int .i64 ((0:Nat):Int)]) hm func240 rfl (by kernel_rfl) (by show 2≤_;decide +kernel) ?_;obtain⟨a,w1,hb,hx,ha⟩:=aE1 hv (i4 _);simp only[n3,n9,simprocAttr,hb];refine C2 (fun w2=>o6 w1.drew w2) 11 (A8 [0,1,2,3,4,5,6,7,8,9,10]) (by decide +kernel) (o9.refl _) ?_;simp only[D5,A8,n3,n9,simprocAttr];refine n7 results240 ?_;simp only[p6,simprocAttr];exact⟨by trivial,hx.trans (o6.drew _)⟩
 | n+1,v,x,w,hn,hv=>by
  refine d9 (args:=[v,.int .i64 ((n+1:Nat):Int)]) hm func240 rfl (by kernel_rfl) (by show 2≤_;decide +kernel) ?_;obtain⟨a,w1,hb,hx,ha⟩:=aE1 hv (i4 _);obtain⟨vk,hk,ld,sd⟩:=ha.ex;have hxd:=hx.trans (o6.drew w1);have l1:=ld w1.drew (b7 (o6.drew w1));have s1:=sd (fun w2=>o6 w1.drew w2) w1.drew (o9.refl _) (fun w' h=>b7 ((o6.drew w1).trans h));have h0:decide ((((n+1:Nat):Int))<1)=false:=by simp;omega
  have hS:=hk.isS;have hl:=hk.vlen;simp only[n3,n9,simprocAttr,hb];refine C2 (fun w2=>o6 w1.drew w2) 11 (A8 [0,1,2,3,4,5,6,7,8,9,10]) (by decide +kernel) (o9.refl _) ?_;simp only[D5,A8,n3,n9,simprocAttr,h0,s1,hS,hl];refine y5 ej2 (cy4 x.op _) ?_;rintro u w2 ⟨rfl,rfl⟩;cases h1:decide ((x.kids.length:Int)=as5 x.op)
  ·simp only[D5,n3,n9,simprocAttr,F7,h1];refine⟨o9.refl _,?_⟩;refine n7 results240 ?_;simp only[p6,simprocAttr];exact⟨by rw[W7,if_pos (by simpa using h1)],hxd⟩
  have h1':¬(x.kids.length:Int)≠as5 x.op:=by simpa using h1
  simp only[D5,n3,n9,simprocAttr,F7,h1];refine⟨o9.refl _,?_⟩;simp only[n3,n9,simprocAttr,l1];by_cases h2:x.op=1
  ·have d2:decide (x.op=1)=true:=by simp[h2]
   have hd:W7 (n+1) x=(decide (0≤x.n)&&decide (x.name=e0)):=by rw[W7,if_neg h1',if_pos h2]
   cases h3:decide (0≤x.n)
   ·simp only[n3,n9,simprocAttr,l1,d2,h3];refine n7 results240 ?_;simp only[p6,simprocAttr];exact⟨by rw[hd,h3];rfl,hxd⟩
   ·simp only[n3,n9,simprocAttr,l1,d2,h3];refine n7 results240 ?_;simp only[p6,simprocAttr];exact⟨by rw[hd,h3];rfl,hxd⟩
  have d2:decide (x.op=1)=false:=by simp[h2]
  by_cases h3:x.op=2
  ·have d3:decide (x.op=2)=true:=by simp[h3]
   have hd:W7 (n+1) x=(decide (x.n=0)&&N9 x.name):=by rw[W7,if_neg h1',if_neg h2,if_pos h3]
   cases h4:decide (x.n=0)
   ·simp only[n3,n9,simprocAttr,l1,d2,d3,h4];refine n7 results240 ?_;simp only[p6,simprocAttr];exact⟨by rw[hd,h4];rfl,hxd⟩
   ·simp only[n3,n9,simprocAttr,l1,d2,d3,h4];refine y5 bA2 (az9 x.name _) ?_;rintro u w2 ⟨rfl,rfl⟩;simp only[n3,simprocAttr];refine n7 results240 ?_;simp only[p6,simprocAttr];exact⟨by rw[hd,h4];rfl,hxd⟩
  have d3:decide (x.op=2)=false:=by simp[h3]
  cases h4:decide (x.n=0)
  ·have hd:W7 (n+1) x=false:=by rw[W7,if_neg h1',if_neg h2,if_neg h3,if_pos (.inl (by simpa using h4))]
   simp only[n3,n9,simprocAttr,l1,d2,d3,h4];refine n7 results240 ?_;simp only[p6,simprocAttr];exact⟨by rw[hd],hxd⟩
  cases h5:decide (x.name=e0)
  ·have hd:W7 (n+1) x=false:=by rw[W7,if_neg h1',if_neg h2,if_neg h3,if_pos (.inr (by simpa using h5))]
   simp only[n3,n9,simprocAttr,l1,d2,d3,h4,h5];refine n7 results240 ?_;simp only[p6,simprocAttr];exact⟨by rw[hd],hxd⟩
  have hd:W7 (n+1) x=x.kids.all (W7 n):=by
   rw[W7,if_neg h1',if_neg h2,if_neg h3,if_neg (fun h=>by rcases h with h|h<;>simp_all)]
  have hkl:x.kids.length≤2:=by
   have:(x.kids.length:Int)=as5 x.op:=by simpa using h1
   unfold as5 at this;split at this
   ·omega
   ·split at this
    ·omega
    ·split at this<;>omega
  simp only[n3,n9,simprocAttr,l1,d2,d3,h4,h5,hS,hl];refine n8 [1,49,50] (σ:=Nat) (fun k f w'=>f 51 = .int .i64 k∧k≤x.kids.length∧(x.kids.take k).all (W7 n)=true∧o6 w1 w') (fun k=>x.kids.length-k) 0 (by decide +kernel) ?_ ?_
  ·simp only[p6,simprocAttr];exact⟨by trivial,ew4 _,by simp,o6.drew _⟩
  ·rintro k f w3 hkp ⟨h51,hkk,hall,hx3⟩;simp only[ev4,p6,↓reduceIte,Nat.reduceEqDiff]at hkp;obtain⟨g1,g49,g50,_⟩:=hkp;simp only[n3,n9,simprocAttr,h51,g50];refine i5 (fun hc=>?_) (fun hc=>?_)
   ·have hlt:k<x.kids.length:=by simpa using hc
    have hin:=hk.inS hlt;obtain⟨sv,hsv,hld⟩:=G1 (P:=prog) (t:=43) hk (b7 hx3) (ev2 hlt) bm3 bn0 bm6 ao2;rw[ao2]at hld;have htk:=aE0 (W7 n) x.kids k hlt;have hmem:=ew2 hlt;generalize x.kids[k]=y at hsv htk hmem;obtain⟨b,wz,w4,hal,hst,hx4,hat⟩:=cU9 (hsv.mono (b7 hx3)) (i4 _);obtain⟨sy,hsy,ly,_⟩:=hat.ex_v;have l4:=ly w4 (i4 _);have hsub:IntKind.i64.wrap (((n+1:Nat):Int)-1)=(n:Int):=by rw[K1 _ (by omega)];omega
    simp only[n3,n9,p9,simprocAttr,h51,g49,g1,hin,hld,hal,hst,l4,hsub];refine y5 dd7 (bF4 n sy y w4 (by omega) hsy) ?_;rintro u w5 ⟨rfl,hx5⟩;cases hdy:W7 n y
    ·simp only[n3,n9,simprocAttr];refine n7 results240 ?_;simp only[p6,simprocAttr];exact⟨by rw[hd,au6 hmem hdy],hx.trans (hx3.trans (hx4.trans hx5))⟩
    ·simp only[n3,n9,simprocAttr,h51];exact⟨k+1,by omega,by rw[B1 k (by omega)],by omega,by rw[htk,hall,hdy];rfl,hx3.trans (hx4.trans hx5)⟩
   ·have hge:k=x.kids.length:=by simp at hc;omega
    subst hge;simp only[n3,simprocAttr];refine n7 results240 ?_;simp only[p6,simprocAttr];rw[ew5]at hall;exact⟨by rw[hd,hall],hx.trans hx3⟩
theorem aW8(v:Value)(x:Ex)(w:World)(hv:SV (d7 w) v x):Calls prog 193 #[v] w fun e w'=>∃u,e = .returned u∧(u = .bool (W7 20 x)∧o6 w w'):=by
 refine d9 (args:=[v]) hm func193 rfl (by kernel_rfl) (by show 1≤_;decide +kernel) ?_;obtain⟨a,w1,hb,hx,ha⟩:=aE1 hv (i4 _);obtain⟨sy,hsy,ly,_⟩:=ha.ex_v;have l1:=ly w1 (i4 _);simp only[n3,n9,simprocAttr,hb,l1];refine y5 dd7 (bF4 20 sy x w1 (by omega) hsy) ?_;rintro u w2 ⟨rfl,hx2⟩;simp only[n3,simprocAttr];refine n7 results193 ?_;simp only[p6,simprocAttr];exact⟨by trivial,hx.trans hx2⟩
theorem aU1(s:A4)(b:Bool)(w:World):Calls prog 252 #[o7 s,.bool b] w fun e w'=>∃u,e = .returned u∧(u = .bool (U8 s b)∧w'=w):=by
 refine d9 (args:=[o7 s,.bool b]) hm func252 rfl (by kernel_rfl) (by show 2≤_;decide +kernel) ?_;cases b
 ·simp only[n3,n9,simprocAttr];refine n7 results252 ?_;simp only[p6,simprocAttr];exact⟨by simp[U8],by trivial⟩
 ·simp only[n3,n9,simprocAttr];refine y5 bA2 (az9 s _) ?_;rintro u w1 ⟨rfl,rfl⟩;cases hn:N9 s
  ·simp only[n3,n9,simprocAttr];refine n7 results252 ?_;simp only[p6,simprocAttr];exact⟨by simp[U8,hn],by trivial⟩
  ·simp only[n3,simprocAttr];refine n7 results252 ?_;simp only[p6,simprocAttr];exact⟨by simp[U8,hn],by trivial⟩
theorem bw7(v:Value)(x:Ex)(b:Bool)(w:World)(hv:SV (d7 w) v x):Calls prog 253 #[v,.bool b] w fun e w'=>∃u,e = .returned u∧(u = .bool (af2 x b)∧o6 w w'):=by
 refine d9 (args:=[v,.bool b]) hm func253 rfl (by kernel_rfl) (by show 2≤_;decide +kernel) ?_;obtain⟨a,w1,hb,hx,ha⟩:=aE1 hv (i4 _);obtain⟨sy,hsy,ly,_⟩:=ha.ex_v;have l1:=ly w1 (i4 _);cases b
 ·simp only[n3,n9,simprocAttr,hb,l1];refine y5 ej6 (cA0 sy x _ hsy) ?_;rintro u w2 ⟨rfl,hx2⟩;simp only[n3,simprocAttr];refine n7 results253 ?_;simp only[p6,simprocAttr];exact⟨by simp[af2],hx.trans hx2⟩
 ·simp only[n3,n9,simprocAttr,hb,l1];refine y5 dd0 (aW8 sy x _ hsy) ?_;rintro u w2 ⟨rfl,hx2⟩;cases hn:W7 20 x
  ·simp only[n3,n9,simprocAttr];refine n7 results253 ?_;simp only[p6,simprocAttr];exact⟨by simp[af2,hn],hx.trans hx2⟩
  ·simp only[n3,simprocAttr];refine n7 results253 ?_;simp only[p6,simprocAttr];exact⟨by simp[af2,hn],hx.trans hx2⟩
theorem bS8(v:Value)(l:List Ar)(w:World)(hv:R (d7 w) v l)(hl:l.length≤1000000):Calls prog 254 #[v] w fun e w'=>∃u,e = .returned u∧(u = .bool (aE8 l)∧o6 w w'):=by
 refine d9 (args:=[v]) hm func254 rfl (by kernel_rfl) (by show 1≤_;decide +kernel) ?_;have hS:=hv.isS;have hn:=hv.vlen;simp only[n3,n9,simprocAttr,hS,hn];refine n8 [5,6] (σ:=Nat) (fun k f w'=>f 7 = .int .i64 k∧k≤l.length∧(l.take k).all (fun a=>U8 a.name a.ref&&af2 a.x (!a.ref))=true∧o6 w w') (fun k=>l.length-k) 0 (by decide +kernel) ?_ ?_
 ·simp only[p6,simprocAttr];exact⟨by trivial,ew4 _,by simp,o9.refl _⟩
 ·rintro k f w1 hk ⟨h7,hkl,hall,hx1⟩;simp only[ev4,p6,simprocAttr]at hk;obtain⟨e5,e6,_⟩:=hk;simp only[n3,n9,simprocAttr,h7,e6];refine i5 (fun hc=>?_) (fun hc=>?_)
  ·have hlt:k<l.length:=by simpa using hc
   have hin:=hv.inS hlt;obtain⟨sv,hsv,hld⟩:=G1 (P:=prog) (t:=107) hv (b7 hx1) (ev2 hlt) ax3 ax5 ax4 T7;rw[T7]at hld;have htk:=aE0 (fun a:Ar=>U8 a.name a.ref&&af2 a.x (!a.ref)) l k hlt;have hmem:=ew2 hlt;generalize l[k]=y at hsv htk hmem;obtain⟨b,wz,w2,hal,hst,hx2,hat⟩:=aR7 (hsv.mono (b7 hx1)) (i4 _);obtain⟨hatx,ld,_⟩:=hat.ar;obtain⟨sx,hsx,lx,_⟩:=hatx.ex_v;have l2:=ld w2 (i4 _);have lx2:=lx w2 (i4 _);have hfalse:(U8 y.name y.ref&&af2 y.x (!y.ref))=false→aE8 l=false:=fun h=>au6 (p:=fun a:Ar=>U8 a.name a.ref&&af2 a.x (!a.ref)) hmem h;simp only[n3,n9,p9,simprocAttr,h7,e5,hin,hld,hal,hst,l2];refine y5 cx1 (aU1 y.name y.ref _) ?_;rintro u w3 ⟨rfl,rfl⟩;cases hnm:U8 y.name y.ref
   ·simp only[n3,n9,simprocAttr];refine n7 results254 ?_;simp only[p6,simprocAttr];exact⟨by rw[hfalse (by rw[hnm];rfl)],hx1.trans hx2⟩
   ·simp only[n3,n9,simprocAttr,l2,lx2];refine y5 dd8 (bw7 sx y.x (!y.ref) _ hsx) ?_;rintro u w4 ⟨rfl,hx4⟩;cases hwo:af2 y.x (!y.ref)
    ·simp only[n3,n9,simprocAttr];refine n7 results254 ?_;simp only[p6,simprocAttr];exact⟨by rw[hfalse (by rw[hwo];simp)],hx1.trans (hx2.trans hx4)⟩
    ·simp only[n3,n9,simprocAttr,h7];exact⟨k+1,by omega,by rw[B1 k (by omega)],by omega,by rw[htk,hall,hnm,hwo];rfl,hx1.trans (hx2.trans hx4)⟩
  ·have hge:k=l.length:=by simp at hc;omega
   subst hge;simp only[n3,simprocAttr];refine n7 results254 ?_;simp only[p6,simprocAttr];rw[ew5]at hall;exact⟨by rw[aE8,hall],hx1⟩
theorem dY8:type_of% (And.intro (And.intro (And.intro (And.intro (And.intro (And.intro @dZ6 @dY9) (And.intro @dB4 (And.intro @dZ2 @dZ3))) (And.intro (And.intro @dZ0 @dZ1) (And.intro @ed1 (And.intro @ec7 @dJ4)))) (And.intro (And.intro (And.intro @ec8 @ec9) (And.intro @dC6 (And.intro @dA1 @dC7))) (And.intro (And.intro @dC8 @eb5) (And.intro @eb4 (And.intro @dZ9 @ed3))))) (And.intro (And.intro (And.intro (And.intro @ep9 @dB2) (And.intro @ec3 (And.intro @dB3 @ec4))) (And.intro (And.intro @el3 @et4) (And.intro @cP3 (And.intro @dH4 @cP4)))) (And.intro (And.intro (And.intro @dH5 @dH6) (And.intro @df2 (And.intro @cY2 @cY1))) (And.intro (And.intro @dH3 @el5) (And.intro @el4 (And.intro @df1 @el7)))))) (And.intro (And.intro (And.intro (And.intro (And.intro @el6 @ec2) (And.intro @cK2 (And.intro @dG4 @ek8))) (And.intro (And.intro @cP1 @dB1) (And.intro @de8 (And.intro @ek3 @ek9)))) (And.intro (And.intro (And.intro @dB0 @ec1) (And.intro @dG6 (And.intro @ec0 @ev.eq_1))) (And.intro (And.intro @ev.eq_2 @ev.eq_3) (And.intro @ev.eq_4 (And.intro @A5.eq_1 @A5.eq_2))))) (And.intro (And.intro (And.intro (And.intro @ep8 @el0) (And.intro @em0 (And.intro @em1 @List.map_cons.{0,0}))) (And.intro (And.intro @List.map_nil.{0,0} @List.map_toArray.{0,0}) (And.intro @bP8.eq_1 (And.intro @bP8.eq_2 @db7)))) (And.intro (And.intro (And.intro @eb1 @eb2) (And.intro @cv4.eq_1 (And.intro @List.getElem?_toArray.{0} @List.getElem?_cons_zero.{0}))) (And.intro (And.intro @List.getElem?_cons_succ.{0} @Option.bind_some.{0,0}) (And.intro @Option.some.injEq.{0} (And.intro @eB6 @Bool.true_eq_false))))))):=(And.intro (And.intro (And.intro (And.intro (And.intro (And.intro @dZ6 @dY9) (And.intro @dB4 (And.intro @dZ2 @dZ3))) (And.intro (And.intro @dZ0 @dZ1) (And.intro @ed1 (And.intro @ec7 @dJ4)))) (And.intro (And.intro (And.intro @ec8 @ec9) (And.intro @dC6 (And.intro @dA1 @dC7))) (And.intro (And.intro @dC8 @eb5) (And.intro @eb4 (And.intro @dZ9 @ed3))))) (And.intro (And.intro (And.intro (And.intro @ep9 @dB2) (And.intro @ec3 (And.intro @dB3 @ec4))) (And.intro (And.intro @el3 @et4) (And.intro @cP3 (And.intro @dH4 @cP4)))) (And.intro (And.intro (And.intro @dH5 @dH6) (And.intro @df2 (And.intro @cY2 @cY1))) (And.intro (And.intro @dH3 @el5) (And.intro @el4 (And.intro @df1 @el7)))))) (And.intro (And.intro (And.intro (And.intro (And.intro @el6 @ec2) (And.intro @cK2 (And.intro @dG4 @ek8))) (And.intro (And.intro @cP1 @dB1) (And.intro @de8 (And.intro @ek3 @ek9)))) (And.intro (And.intro (And.intro @dB0 @ec1) (And.intro @dG6 (And.intro @ec0 @ev.eq_1))) (And.intro (And.intro @ev.eq_2 @ev.eq_3) (And.intro @ev.eq_4 (And.intro @A5.eq_1 @A5.eq_2))))) (And.intro (And.intro (And.intro (And.intro @ep8 @el0) (And.intro @em0 (And.intro @em1 @List.map_cons.{0,0}))) (And.intro (And.intro @List.map_nil.{0,0} @List.map_toArray.{0,0}) (And.intro @bP8.eq_1 (And.intro @bP8.eq_2 @db7)))) (And.intro (And.intro (And.intro @eb1 @eb2) (And.intro @cv4.eq_1 (And.intro @List.getElem?_toArray.{0} @List.getElem?_cons_zero.{0}))) (And.intro (And.intro @List.getElem?_cons_succ.{0} @Option.bind_some.{0,0}) (And.intro @Option.some.injEq.{0} (And.intro @eB6 @Bool.true_eq_false)))))))
theorem dd1:af6 prog 194=true:=by kernel_rfl
theorem bS1(x:Ex)(out:List A4):af5 x out=aj1 x.kids (if x.op=2∧out.contains x.name=false then out++[x.name]else out):=by
 cases x;simp only[af5,Ex.kids,Ex.op,Ex.name];rfl
mutual
theorem aB8:∀(x:Ex) (out:List A4),(af5 x out).length≤out.length+R2 x
 | .mk op n name kids,out=>by
  have h:=aY6 kids (if op=2∧out.contains name=false then out++[name]else out);have h2:(if op=2∧out.contains name=false then out++[name]else out).length≤out.length+1:=by
   split
   ·simp
   ·omega
  simp only[af5,R2,wtT];omega
theorem aY6:∀(l:List Ex) (out:List A4),(aj1 l out).length≤out.length+ao6 l
 | [],out=>by simp[aj1,ao6]
 | x::l,out=>by
  have h1:=aB8 x out;have h2:=aY6 l (af5 x out);simp only[aj1,ao6];omega
end
theorem bS2:∀(m:Nat) (x:Ex) (v vo:Value) (out:List A4) (h:Hp) (w:World),R2 x≤m→SV h v x→B4 h (d7 w)→A9 h w 9 vo out→out.length+R2 x≤1000000 →
  Calls prog 194 #[v,vo] w fun e w'=>∃u,e = .returned u∧(A9 h w' 9 u (af5 x out)∧o9 (A3 vo) w w'∧F1 w vo u):=by
 intro m
 induction m using Nat.strongRecOn with
 | ind m ih=>
 intro x v vo out h w hsm hv hh ho hl;refine d9 (args:=[v,vo]) hm func194 rfl (by kernel_rfl) (by show 2≤_;decide +kernel) ?_;have hwx:=bD5 x;obtain⟨a,w1,hbx,hx1,ha⟩:=bc9 (w:=w) (A3 vo) hv (fun b hb=>ho.lt hb);obtain⟨vk,hk,ld,_⟩:=L8.ex hv ha;have l1:=ld w1 (C0 _ _);have ho1:=ho.ext hx1;have hh1:=p8 hh (b7 hx1);have hSk:=hk.isS;have hnk:=hk.vlen;have hkl:=bw9 x.kids;rw[bd8];simp only[dY8,n9,simprocAttr,hbx];refine dD9 [2] (fun f2 w2=>∃u,f2 1=u∧A9 h w2 9 u (if x.op=2∧out.contains x.name=false then out++[x.name]else out)∧o9 (A3 vo) w1 w2∧F1 w1 vo u) (by decide +kernel) ?_ ?_
 ·by_cases h1:x.op=2
  ·have d1:decide (x.op=2)=true:=by simp[h1]
   simp only[n3,n9,simprocAttr,l1,d1];refine D1 ac2 (N8 vo out x.name w1 (ho1.rw_ hh1) (by omega)) ?_;cases h2:out.contains x.name
   ·obtain⟨p1,u',w2,p2,p3,p4,p5⟩:=push (e:=22) aq8 rfl ho1 (x:=o7 x.name) (y:=x.name) rfl (by omega) (by omega) hh1;simp only[n3,n9,simprocAttr,l1,p1,p2];exact⟨u',by trivial,by rw[if_pos ⟨h1,by trivial⟩];exact p3,p4,p5⟩
   ·simp only[n3,n9,simprocAttr];exact⟨vo,by trivial,by rw[if_neg (by rintro⟨_,h⟩;cases h)];exact ho1,o9.refl _,fun b hb=>.inl hb⟩
  ·have d1:decide (x.op=2)=false:=by simp[h1]
   simp only[n3,n9,simprocAttr,l1,d1];exact⟨vo,by trivial,by rw[if_neg (fun h=>h1 h.1)];exact ho1,o9.refl _,fun b hb=>.inl hb⟩
 ·rintro f2 w2 hkp ⟨u0,g1,ho2,hm2,hmv2⟩;simp only[ev4,p6,↓reduceIte,Nat.reduceEqDiff]at hkp;obtain⟨g2,_⟩:=hkp;have hlen0:(if x.op=2∧out.contains x.name=false then out++[x.name]else out).length≤out.length+1:=by
   split
   ·simp
   ·omega
  have hgF:=bS1 x out;generalize(if x.op=2∧out.contains x.name=false then out++[x.name]else out)=o0 at ho2 hlen0 hgF;have l2:=ld w2 (D2 hm2);have hwn:1≤wtT x.name:=by simp[wtT]
  simp only[n3,n9,simprocAttr,g2,l2,hSk,hnk];refine n8 [23,24] (σ:=Nat×Value×List A4) (fun s f w'=>f 25 = .int .i64 s.1∧f 1=s.2.1∧s.1≤x.kids.length∧A9 h w' 9 s.2.1 s.2.2∧o9 (A3 vo) w1 w'∧F1 w1 vo s.2.1∧aj1 x.kids o0=aj1 (x.kids.drop s.1) s.2.2∧s.2.2.length+ao6 (x.kids.drop s.1)≤1000000) (fun s=>x.kids.length-s.1) (0,u0,o0) (by decide +kernel) ?_ ?_
  ·simp only[p6,simprocAttr];exact⟨by trivial,by simpa using g1,ew4 _,ho2,hm2,hmv2,by simp,by simp;omega⟩
  ·rintro⟨k,u,o⟩ f w3 hkq ⟨h25,h1,hkl',ho3,hm3,hmv3,hg3,hlen3⟩;simp only at h25 h1 hkl' ho3 hmv3 hg3 hlen3;simp only[ev4,p6,↓reduceIte,Nat.reduceEqDiff]at hkq;obtain⟨g23,g24,_⟩:=hkq;simp only[n3,n9,simprocAttr,h25,g24];refine i5 (fun hc=>?_) (fun hc=>?_)
   ·have hlt:k<x.kids.length:=by simpa using hc
    have hin:=hk.inS hlt;have hh3:B4 h (d7 w3):=K6 hh1 hm3 fun b hb=>ho.free hb;obtain⟨sv,hsv,hld⟩:=G1 (P:=prog) (t:=43) hk hh3 (ev2 hlt) bm3 bn0 bm6 ao2;rw[ao2]at hld;have hdrop:x.kids.drop k=x.kids[k]::x.kids.drop (k+1):=ez4 hlt;have hwm:=aW6 (ew2 hlt);generalize x.kids[k]=y at hsv hdrop hwm;rw[hdrop,aj1]at hg3;rw[hdrop,ao6]at hlen3;have hgl:=aB8 y o;obtain⟨b,wz,w4,hal,hst,hx4,hat⟩:=cV3 (w:=w3) (A3 u) hsv (fun b hb=>ho3.lt hb);obtain⟨lw,_⟩:=L8.ex_v hsv hat;have l4:=lw w4 (C0 _ _);simp only[n3,n9,p9,simprocAttr,h25,h1,g23,hin,hld,hal,hst,l4];refine y5 dd1 (ih (R2 y) (by omega) y sv u o h w4 (ew8 _) hsv (p8 hh3 (b7 hx4)) (ho3.ext hx4) (by omega)) ?_;rintro u' w5 ⟨ho5,hm5,hmv5⟩;simp only[n3,n9,simprocAttr,h25];have hm15:o9 (A3 vo) w1 w5:=(hm3.trans (o9.up hx4)).chain hm5 fun i hi hb=>by
     rcases hmv3 i hb with hb|hb
     ·exact hb
     ·omega
    refine⟨(k+1,u',af5 y o),by simp only[];omega,by simp only[];rw[B1 k (by omega)],by trivial,by simp only[];omega,ho5,hm15,fun b hb=>?_,hg3,by simp only[];omega⟩;rcases hmv5 b hb with hb|hb
    ·exact hmv3 b hb
    ·have:=(hm3.trans (o9.up (M:=A3 vo) hx4)).size;exact .inr (by omega)
   ·have hge:k=x.kids.length:=by simp at hc;omega
    subst hge;simp only[n3,simprocAttr,h1];refine n7 results194 ?_;simp only[p6,simprocAttr];rw[eF2]at hg3;have hgo:af5 x out=o:=by rw[hgF,hg3];rfl
    exact⟨by rw[hgo];exact ho3,(o9.up hx1).trans hm3,fun b hb=>(hmv3 b hb).imp id fun h=>ew0 hx1.size h⟩
theorem al4(v:Value)(x:Ex)(w:World)(hv:SV (d7 w) v x)(hl:R2 x≤1000000):Calls prog 132 #[v] w fun e w'=>∃u,e = .returned u∧(A9 (d7 w) w' 9 u (aa0 x)∧o6 w w'):=by
 refine d9 (args:=[v]) hm func132 rfl (by kernel_rfl) (by show 1≤_;decide +kernel) ?_;obtain⟨a,w1,hbx,hx1,ha⟩:=bc9 (w:=w) (fun _=>False) hv (fun _ h=>h.elim);obtain⟨lw,_⟩:=L8.ex_v hv ha;have l1:=lw w1 (C0 _ _);simp only[n3,n9,simprocAttr,hbx,l1];refine B3 dd0 (aW8 v x w1 (hv.mono (b7 hx1))) (fun w2 hx2=>?_);cases hd:W7 20 x
 ·simp only[n3,n9,simprocAttr];refine n7 results132 ?_;simp only[p6,simprocAttr];exact⟨by rw[aa0,hd];exact A9.nil _ _ _,hx1.trans hx2⟩
 ·have l2:=lw w2 (p8 (C0 _ _) (b7 hx2));have hx12:=hx1.trans hx2;simp only[n3,n9,simprocAttr,l2];refine y5 dd1 (bS2 _ x v (.slice none 0 0) [] (d7 w) w2 (ew8 _) hv (b7 hx12) (A9.nil _ _ _) (by simpa using hl)) ?_;rintro u w3 ⟨ho,hm3,hmv⟩;simp only[n3,simprocAttr];refine n7 results132 ?_;simp only[p6,simprocAttr];exact⟨by rw[aa0,hd];exact ho,o9.ext_of hx12 hm3 fun b hb=>absurd hb D0⟩
theorem eI3:type_of% @List.flatMap_append:=@List.flatMap_append
theorem eF4:type_of% @List.flatMap_cons:=@List.flatMap_cons
theorem eH4:type_of% @List.take_succ_cons:=@List.take_succ_cons
theorem bA1:af6 prog 132=true:=by kernel_rfl
theorem aa1(x:Ex):(aa0 x).length≤R2 x:=by
 unfold aa0;split
 ·have:=aB8 x [];simpa using this
 ·simp
theorem by0(a:Ar):(I7 a).length≤ah5 a:=by
 have:=aa1 a.x;unfold I7 ah5 wtT;split<;>simp<;>omega
theorem J0{α β:Type}(g:α→List β)(l:List α){k:Nat}(hk:k<l.length):(l.take (k+1)).flatMap g=(l.take k).flatMap g++g l[k]:=by
 rw[ew1 hk,eI3];simp
theorem L7:∀(l:List Ar),(l.flatMap I7).length≤Y7 l
 | []=>by simp
 | a::l=>by
  have h1:=L7 l;have h2:=by0 a;simp only[eF4,ev5,Y7];omega
theorem ao5:∀(l:List Ar) (k:Nat),Y7 (l.take k)≤Y7 l
 | [],k=>by simp
 | a::l,0=>by simp[Y7]
 | a::l,k+1=>by have:=ao5 l k;simp only[eH4,Y7];omega
theorem ba5(v:Value)(t:St)(w:World)(hv:SV (d7 w) v t)(hl:O5 t≤1000000):Calls prog 215 #[v] w fun e w'=>∃u,e = .returned u∧(A9 (d7 w) w' 9 u (I3 t)∧o6 w w'):=by
 refine d9 (args:=[v]) hm func215 rfl (by kernel_rfl) (by show 1≤_;decide +kernel) ?_;rw[P8]at hl;obtain⟨a,w1,hbx,hx1,ha⟩:=ca1 (w:=w) (fun _=>False) hv (fun _ h=>h.elim);obtain⟨vl,ux,va,vt,ve,_,hux,hatx,hva,_,_,ld,_⟩:=L8.st hv ha;have hle1:∀w',o6 w1 w'→B4 (B5 w1 fun _=>False) (d7 w'):=fun w' h=>p8 (C0 _ _) (b7 h);have l1:=ld w1 (hle1 _ (o9.refl _));have hnl:=aa1 t.x;rw[bd8];simp only[dY8,n9,simprocAttr,hbx];rw[bd8];simp only[dY8,simprocAttr];refine dD9 [1] (fun f2 w2=>∃u,f2 3=u∧A9 (d7 w1) w2 9 u (if t.kind≠10∧t.name≠e0 then[t.name]else[])∧o6 w1 w2) (by decide +kernel) ?_ ?_
 ·by_cases h1:t.kind=10
  ·have d1:decide (t.kind=10)=true:=by simp[h1]
   simp only[n3,n9,simprocAttr,l1,d1];exact⟨_,by trivial,by rw[if_neg (fun h=>h.1 h1)];exact A9.nil _ _ _,o9.refl _⟩
  ·have d1:decide (t.kind=10)=false:=by simp[h1]
   by_cases h2:t.name=e0
   ·have d2:decide (t.name=e0)=true:=by simp[h2]
    simp only[n3,n9,simprocAttr,l1,d1,d2];exact⟨_,by trivial,by rw[if_neg (fun h=>h.2 h2)];exact A9.nil _ _ _,o9.refl _⟩
   ·have d2:decide (t.name=e0)=false:=by simp[h2]
    obtain⟨p1,u',w2,p2,p3,p4,p5⟩:=push (e:=22) aq8 rfl (A9.nil (d7 w1) w1 9) (x:=o7 t.name) (y:=t.name) rfl (by simp) (by simp) (i4 _);simp only[n3,n9,simprocAttr,l1,d1,d2,p1,p2];exact⟨u',by trivial,by rw[if_pos ⟨h1,h2⟩];exact p3,o9.ext_of (o9.refl _) p4 fun b hb=>absurd hb D0⟩
 ·rintro f2 w2 hkp ⟨u0,g3,ho2,hx2⟩;simp only[ev4,p6,↓reduceIte,Nat.reduceEqDiff]at hkp;obtain⟨g1,_⟩:=hkp;have hst:I3 t=(if t.kind≠10∧t.name≠e0 then[t.name]else[])++aa0 t.x++t.args.flatMap I7:=rfl;have hlen0:(if t.kind≠10∧t.name≠e0 then[t.name]else[]).length≤1:=by split<;>simp
  generalize(if t.kind≠10∧t.name≠e0 then[t.name]else[])=o0 at ho2 hlen0 hst;obtain⟨lwx,_⟩:=L8.ex_v hux hatx;have lx2:=lwx w2 (hle1 _ hx2);have hx02:=hx1.trans hx2;simp only[n3,n9,simprocAttr,g1,g3,lx2];refine y5 bA1 (al4 ux t.x w2 (hux.mono (b7 hx02)) (by omega)) ?_;rintro u3 w3 ⟨ho3,hx3⟩;have hwt1:1≤wtT t.name∧1≤wtT t.proc:=by simp[wtT]
  obtain⟨u4,w4,a1,a2,a3,a4⟩:=ag8 (P:=prog) (e:=22) aq8 (ho2.ext hx3) (ho3.rw_ (b7 hx3)) (i4 _) (by omega) (by omega) (b7 (hx2.trans hx3));have hx14:o6 w1 w4:=o9.ext_of (hx2.trans hx3) a3 fun b hb=>C9 ((ho2.ext hx3).free hb);have l4:=ld w4 (hle1 _ hx14);have hSa:=hva.isS;have hna:=hva.vlen;have hal:=al1 t.args;simp only[n3,n9,simprocAttr,g1,a1,l4,hSa,hna];refine n8 [25,26] (σ:=Nat×Value) (fun s f w'=>f 27 = .int .i64 s.1∧f 3=s.2∧s.1≤t.args.length∧A9 (d7 w1) w' 9 s.2 (o0++aa0 t.x++(t.args.take s.1).flatMap I7)∧o6 w1 w') (fun s=>t.args.length-s.1) (0,u4) (by decide +kernel) ?_ ?_
  ·simp only[p6,simprocAttr];exact⟨by trivial,by trivial,ew4 _,by simpa using a2,hx14⟩
  ·rintro⟨k,u⟩ f w5 hkq ⟨h27,h3,hkl,ho5,hx5⟩;simp only at h27 h3 hkl ho5;simp only[ev4,p6,↓reduceIte,Nat.reduceEqDiff]at hkq;obtain⟨g25,g26,_⟩:=hkq;simp only[n3,n9,simprocAttr,h27,g26];refine i5 (fun hc=>?_) (fun hc=>?_)
   ·have hlt:k<t.args.length:=by simpa using hc
    have hin:=hva.inS hlt;have hx05:=hx1.trans hx5;obtain⟨sv,hsv,hld⟩:=G1 (P:=prog) (t:=107) hva (b7 hx05) (ev2 hlt) ax3 ax5 ax4 T7;rw[T7]at hld;have htk:=J0 I7 t.args hlt;have hwm:=aG9 (ew2 hlt);have hpre:((t.args.take k).flatMap I7).length≤Y7 t.args:=ew0 (L7 _) (ao5 _ _);have hpre2:((t.args.take (k+1)).flatMap I7).length≤Y7 t.args:=ew0 (L7 _) (ao5 _ _);rw[htk]at hpre2;generalize t.args[k]=y at hsv htk hwm hpre2;have hany:I7 y=(if y.ref then[y.name]else[])++aa0 y.x:=rfl;rw[hany]at hpre2;simp only[ev5]at hpre2;obtain⟨b,wz,w6,hal6,hst6,hx6,hat⟩:=cf2 (w:=w5) (A3 u) hsv (fun b hb=>ho5.lt hb);obtain⟨uy,huy,hatyx,ldy,_⟩:=L8.ar hsv hat;obtain⟨lwy,_⟩:=L8.ex_v huy hatyx;have ho6:=ho5.ext hx6;have hx16:=hx5.trans hx6;have l6:=ldy w6 (C0 _ _);simp only[n3,n9,p9,simprocAttr,h27,g25,hin,hld,hal6,hst6,l6];generalize hK:CW prog _ (X1 1 (ab3 _ _))=K;have key:∀(u7:Value) (f7:Fr) (w7:World),f7 3=u7→f7 5 = .pointer (some b)→f7 27 = .int .i64 k→A9 (d7 w1) w7 9 u7 (o0++aa0 t.x++(t.args.take k).flatMap I7++(if y.ref then[y.name]else[]))→o9 (A3 u) w6 w7→K f7 w7:=by
     intro u7 f7 w7 q3 q5 q27 ho7 hm7;have hx17:o6 w1 w7:=o9.ext_of hx16 hm7 fun b hb=>C9 (ho6.free hb);have ly7:=lwy w7 (D2 hm7);rw[←hK];simp only[n3,n9,simprocAttr,q3,q5,ly7];refine y5 bA1 (al4 uy y.x w7 (huy.mono (b7 (hx1.trans hx17))) (by unfold ah5 at hwm;omega)) ?_;rintro u8 w8 ⟨ho8,hx8⟩;obtain⟨u9,w9,c1,c2,c3,c4⟩:=ag8 (P:=prog) (e:=22) aq8 (ho7.ext hx8) (ho8.rw_ (b7 hx8)) (i4 _) (by simp only[ev5];omega) (by simp only[ev5];omega) (b7 (hx17.trans hx8));have hx19:o6 w1 w9:=o9.ext_of (hx17.trans hx8) c3 fun b hb=>C9 ((ho7.ext hx8).free hb);simp only[n3,n9,simprocAttr,c1,q27];refine⟨(k+1,u9),by simp only[];omega,by simp only[];rw[B1 k (by omega)],by trivial,by simp only[];omega,?_,hx19⟩;simp only[];rw[htk,hany];simp only[ex9]at c2 ⊢;exact c2
    cases hr:y.ref
    ·simp only[n3,simprocAttr];refine key u _ _ ?_ ?_ ?_ (by rw[hr];simpa using ho6) (o9.refl _)<;>simp only[p6,↓reduceIte,Nat.reduceEqDiff,h3,h27]
    ·obtain⟨p1,u7,w7,p2,p3,p4,p5⟩:=push (e:=22) aq8 rfl ho6 (x:=o7 y.name) (y:=y.name) rfl (by simp only[ev5];omega) (by simp only[ev5];omega) (b7 hx16);simp only[n3,n9,simprocAttr,h3,l6,p1,p2];refine key u7 _ _ ?_ ?_ ?_ (by rw[hr];exact p3) p4<;>simp only[p6,↓reduceIte,Nat.reduceEqDiff,h27]
   ·have hge:k=t.args.length:=by simp at hc;omega
    subst hge;simp only[n3,simprocAttr,h3];refine n7 results215 ?_;simp only[p6,simprocAttr];rw[ew5]at ho5;exact⟨by rw[hst];exact ho5.back hx1,hx1.trans hx5⟩
section
variable {P:Program} {Q:Exit→Fr→World→Prop} {K:Fr→World→Prop} {f:Fr} {w:World} {ops:Array Oper}
theorem dB8:CW P .skip Q f w=Q .normal f w:=propext eC0
theorem dZ5{a b:Code}:CW P (.seq a b) Q f w=CW P a (ab3 (CW P b Q) Q) f w:=propext eC0
theorem co8{c:Operand}{a b:Code}:CW P (.cond c a b) Q f w=aH7 (ev f c) (CW P a Q) (CW P b Q) f w:=propext eC0
theorem dz7{id:Nat}{a:Code}:CW P (.block id a) Q f w=CW P a (X1 id Q) f w:=propext eC0
theorem dB7{a:Code}:CW P (.loop a) Q f w=bY8 (CW P a) Q f w:=propext eC0
theorem dB5{id:Nat}:CW P (.region id ops true) Q f w=cp3 P ops (Q .normal) f w:=propext eC0
theorem dB6{id:Nat}:CW P (.exit id) Q f w=Q (.exit id) f w:=propext eC0
theorem dZ4:CW P .ret Q f w=Q .ret f w:=propext eC0
theorem dJ5:ab3 K Q .normal f w=K f w:=propext eC0
theorem dJ6:ab3 K Q .ret f w=Q .ret f w:=propext eC0
theorem dJ7{i:Nat}:ab3 K Q (.exit i) f w=Q (.exit i) f w:=propext eC0
theorem dA2{i:Nat}:X1 i Q .normal f w=Q .normal f w:=propext eC0
theorem dA3{i:Nat}:X1 i Q .ret f w=Q .ret f w:=propext eC0
theorem dA4{i j:Nat}:X1 i Q (.exit j) f w=if j=i then Q .normal f w else Q (.exit j) f w:=propext eC0
theorem dD8{A B:Fr→World→Prop}:aH7 (.bool true) A B f w=A f w:=propext eC0
theorem dD7{A B:Fr→World→Prop}:aH7 (.bool false) A B f w=B f w:=propext eC0
end
theorem ev3:type_of% @Bool.eq_false_or_eq_true:=@Bool.eq_false_or_eq_true
theorem m8:type_of% (And.intro (And.intro (And.intro (And.intro (And.intro (And.intro @dZ5 @dB8) (And.intro @co8 (And.intro @dz7 @dB7))) (And.intro (And.intro @dZ3 @dB5) (And.intro @dB6 (And.intro @dZ4 @dJ5)))) (And.intro (And.intro (And.intro @dJ4 @dJ6) (And.intro @dJ7 (And.intro @dA2 @dA1))) (And.intro (And.intro @dA3 @dA4) (And.intro @dD8 (And.intro @dD7 @dZ9))))) (And.intro (And.intro (And.intro (And.intro @ed3 @ep9) (And.intro @dB2 (And.intro @ec3 @dB3))) (And.intro (And.intro @ec4 @el3) (And.intro @et4 (And.intro @cP3 @dH4)))) (And.intro (And.intro (And.intro @cP4 @dH5) (And.intro @dH6 (And.intro @df2 @cY2))) (And.intro (And.intro @cY1 @dH3) (And.intro @el5 (And.intro @el4 @df1)))))) (And.intro (And.intro (And.intro (And.intro (And.intro @el7 @el6) (And.intro @ec2 (And.intro @cK2 @dG4))) (And.intro (And.intro @ek8 @cP1) (And.intro @dB1 (And.intro @de8 @ek3)))) (And.intro (And.intro (And.intro @ek9 @dB0) (And.intro @ec1 (And.intro @dG6 @ec0))) (And.intro (And.intro @ev.eq_1 @ev.eq_2) (And.intro @ev.eq_3 (And.intro @ev.eq_4 @A5.eq_1))))) (And.intro (And.intro (And.intro (And.intro @A5.eq_2 @ep8) (And.intro @el0 (And.intro @em0 @em1))) (And.intro (And.intro @List.map_cons.{0,0} @List.map_nil.{0,0}) (And.intro @List.map_toArray.{0,0} (And.intro @bP8.eq_1 @bP8.eq_2)))) (And.intro (And.intro (And.intro @db7 @eb1) (And.intro @eb2 (And.intro @cv4.eq_1 @List.getElem?_toArray.{0}))) (And.intro (And.intro @List.getElem?_cons_zero.{0} (And.intro @List.getElem?_cons_succ.{0} @Option.bind_some.{0,0})) (And.intro @Option.some.injEq.{0} (And.intro @eB6 @Bool.true_eq_false))))))):=(And.intro (And.intro (And.intro (And.intro (And.intro (And.intro @dZ5 @dB8) (And.intro @co8 (And.intro @dz7 @dB7))) (And.intro (And.intro @dZ3 @dB5) (And.intro @dB6 (And.intro @dZ4 @dJ5)))) (And.intro (And.intro (And.intro @dJ4 @dJ6) (And.intro @dJ7 (And.intro @dA2 @dA1))) (And.intro (And.intro @dA3 @dA4) (And.intro @dD8 (And.intro @dD7 @dZ9))))) (And.intro (And.intro (And.intro (And.intro @ed3 @ep9) (And.intro @dB2 (And.intro @ec3 @dB3))) (And.intro (And.intro @ec4 @el3) (And.intro @et4 (And.intro @cP3 @dH4)))) (And.intro (And.intro (And.intro @cP4 @dH5) (And.intro @dH6 (And.intro @df2 @cY2))) (And.intro (And.intro @cY1 @dH3) (And.intro @el5 (And.intro @el4 @df1)))))) (And.intro (And.intro (And.intro (And.intro (And.intro @el7 @el6) (And.intro @ec2 (And.intro @cK2 @dG4))) (And.intro (And.intro @ek8 @cP1) (And.intro @dB1 (And.intro @de8 @ek3)))) (And.intro (And.intro (And.intro @ek9 @dB0) (And.intro @ec1 (And.intro @dG6 @ec0))) (And.intro (And.intro @ev.eq_1 @ev.eq_2) (And.intro @ev.eq_3 (And.intro @ev.eq_4 @A5.eq_1))))) (And.intro (And.intro (And.intro (And.intro @A5.eq_2 @ep8) (And.intro @el0 (And.intro @em0 @em1))) (And.intro (And.intro @List.map_cons.{0,0} @List.map_nil.{0,0}) (And.intro @List.map_toArray.{0,0} (And.intro @bP8.eq_1 @bP8.eq_2)))) (And.intro (And.intro (And.intro @db7 @eb1) (And.intro @eb2 (And.intro @cv4.eq_1 @List.getElem?_toArray.{0}))) (And.intro (And.intro @List.getElem?_cons_zero.{0} (And.intro @List.getElem?_cons_succ.{0} @Option.bind_some.{0,0})) (And.intro @Option.some.injEq.{0} (And.intro @eB6 @Bool.true_eq_false)))))))
theorem cx2:af6 prog 35=true:=by kernel_rfl
theorem bt2:af6 prog 36=true:=by kernel_rfl
theorem bH6:af6 prog 37=true:=by kernel_rfl
theorem cX1:af6 prog 57=true:=by kernel_rfl
def J6(n:Nat):Int:=((min n 20001:Nat):Int)
theorem cL8(n:Nat):0≤J6 n∧J6 n≤20001:=by unfold J6;omega
theorem al8{n:Nat}(h:J6 n≤20000):J6 n=(n:Int)∧n≤20000:=by unfold J6 at *;omega
theorem ad9{n m:Nat}(h:¬J6 n≤20000)(hm:n≤m):J6 m=20001∧J6 n=20001:=by unfold J6 at *;omega
def F0{α:Type}(f:α→Nat)(l:List α):Nat:=(l.map f).sum
section
variable {α:Type} {f:α→Nat}
theorem ae9{l:List α}{k:Nat}(hk:k<l.length):F0 f (l.take (k+1))=F0 f (l.take k)+f l[k]:=by
 unfold F0;rw[ew1 hk,ey5,List.sum_append];simp only[ez9,List.map_nil,eF8,List.sum_nil];omega
theorem at9(l:List α)(k:Nat):F0 f (l.take k)≤F0 f l:=by
 unfold F0
 conv=>rhs;rw[←eA3 k l]
 rw[ey5,List.sum_append];omega
theorem ae8(h:∀x,1≤f x):∀(l:List α),l.length≤F0 f l
 | []=>by simp
 | x::l=>by
  have:=ae8 h l;have:=h x;unfold F0 at *;simp only[ez9,eF8,ex7];omega
end
theorem bO9:∀l:List A4,au3 l=F0 wtT l
 | []=>rfl
 | s::l=>by rw[au3,bO9 l];rfl
theorem bx0:∀l:List Ex,ao6 l=F0 R2 l
 | []=>rfl
 | s::l=>by rw[ao6,bx0 l];rfl
theorem bw8:∀l:List Ar,Y7 l=F0 ah5 l
 | []=>rfl
 | s::l=>by rw[Y7,bw8 l];rfl
theorem aW7:∀l:List St,G6 l=F0 O5 l
 | []=>rfl
 | s::l=>by rw[G6,aW7 l];rfl
theorem bx1:∀l:List Pa,bn8 l=F0 (fun a=>wtT a.name) l
 | []=>rfl
 | s::l=>by rw[bn8,bx1 l];rfl
theorem bx2:∀l:List Pr,az2 l=F0 T8 l
 | []=>rfl
 | s::l=>by rw[az2,bx2 l];rfl
theorem aH0(s:A4):1≤wtT s:=by unfold wtT;omega
theorem cJ4(a:Ar):1≤ah5 a:=by unfold ah5;have:=aH0 a.name;omega
theorem cJ5(f:Pr):1≤T8 f:=by unfold T8;have:=aH0 f.name;omega
theorem Q0(s:A4)(n:Nat)(w:World):Calls prog 36 #[o7 s,.int .i64 (J6 n)] w fun e w'=>∃u,e = .returned u∧(u = .int .i64 (J6 (n+wtT s))∧w'=w):=by
 refine d9 (args:=[o7 s,.int .i64 (J6 n)]) hm func36 rfl (by kernel_rfl) (by show 2≤_;decide +kernel) ?_;have hls:T6 prog 9 (o7 s)=some (.int .i64 (s.b.length:Nat)):=dF4 (by kernel_rfl) (by kernel_rfl);have hr:=cL8 n;have hw:wtT s=1+s.b.length:=rfl;rcases ev3 (decide (20000<J6 n))with h1|h1
 ·have h1':=ev6 h1;simp only[m8,n9,simprocAttr,h1];refine n7 results36 ?_;simp only[p6,simprocAttr];exact⟨by rw[(ad9 (by omega) (by omega:n≤n+wtT s)).1],by trivial⟩
 have h1':=ev7 h1;obtain⟨e1,hn⟩:=al8 (n:=n) (by omega);have hw1:IntKind.i64.wrap (20000-J6 n)=20000-J6 n:=K1 _ (by omega);generalize hL:((s.b.length:Nat):Int)=L at hls;rcases ev3 (decide (20000-J6 n≤L))with h2|h2
 ·have h2':=ev6 h2;simp only[m8,n9,simprocAttr,h1,hls,hw1,h2];refine n7 results36 ?_;simp only[p6,simprocAttr];have:J6 (n+wtT s)=20001:=by unfold J6 at *;omega
  exact⟨by rw[this],by trivial⟩
 have h2':=ev7 h2;have hw2:IntKind.i64.wrap (J6 n+1)=J6 n+1:=K1 _ (by omega);have hw3:IntKind.i64.wrap (J6 n+1+L)=J6 n+1+L:=K1 _ (by omega);simp only[m8,n9,simprocAttr,h1,hls,hw1,h2,hw2,hw3];refine n7 results36 ?_;simp only[p6,simprocAttr];have:J6 (n+wtT s)=J6 n+1+L:=by unfold J6 at *;omega
 exact⟨by rw[this],by trivial⟩
theorem ad3(v:Value)(l:List A4)(n:Nat)(w:World)(hv:R (d7 w) v l):Calls prog 35 #[v,.int .i64 (J6 n)] w fun e w'=>∃u,e = .returned u∧(u = .int .i64 (J6 (n+au3 l))∧w'=w):=by
 refine d9 (args:=[v,.int .i64 (J6 n)]) hm func35 rfl (by kernel_rfl) (by show 2≤_;decide +kernel) ?_;have hS:=hv.isS;have hn:=hv.vlen;rw[bO9];simp only[m8,n9,simprocAttr];refine n8 [0] (σ:=Nat) (fun i f w'=>f 5 = .int .i64 i∧f 1 = .int .i64 (J6 (n+F0 wtT (l.take i)))∧i≤l.length∧w'=w) (fun i=>l.length-i) 0 (by decide +kernel) ?_ ?_
 ·simp only[p6,simprocAttr];exact⟨by trivial,by simp[F0],ew4 _,by trivial⟩
 rintro i f w2 hk ⟨h5,h1,hil,rfl⟩;simp only[ev4,p6,simprocAttr]at hk;obtain⟨e0,_⟩:=hk;rcases ev3 (decide ((i:Int)<(l.length:Int)))with hc|hc;rotate_left
 ·have hge:i=l.length:=by have:=ev7 hc;omega
  subst hge;rw[ew5]at h1;simp only[m8,n9,simprocAttr,h5,e0,hS,hn,hc,h1];refine n7 results35 ?_;simp only[p6,simprocAttr];exact⟨by trivial,by trivial⟩
 have hlt:i<l.length:=by have:=ev6 hc;omega
 have hle1:=at9 (f:=wtT) l i;have hin:=hv.inS hlt;have hld:=ldS hv (i4 _) hlt;have htk:=ae9 (f:=wtT) hlt;have hsl:=ae8 aH0 (l.take i);rw[ew6]at hsl;generalize l[i]=s at hld htk;generalize F0 wtT (l.take i)=S at h1 htk hle1 hsl;rcases ev3 (decide (J6 (n+S)≤20000))with h2|h2;rotate_left
 ·have h2':=ev7 h2;have e:=ad9 (m:=n+F0 wtT l) h2' (by omega);simp only[m8,n9,simprocAttr,h5,e0,hS,hn,hc,h1,h2];refine n7 results35 ?_;simp only[p6,simprocAttr];exact⟨by rw[e.1,e.2],by trivial⟩
 obtain⟨_,hlow⟩:=al8 (ev6 h2);simp only[m8,n9,p9,simprocAttr,h5,e0,hS,hn,hc,h1,h2,hin,hld];refine D1 bt2 (Q0 s (n+S) _) ?_;simp only[m8,n9,simprocAttr,h5];exact⟨i+1,by omega,by rw[B1 i (by omega)],by rw[htk,←eE5],by omega,by trivial⟩
theorem aJ1:∀(m:Nat) (x:Ex) (v:Value) (n:Nat) (w:World),R2 x≤m→SV (d7 w) v x →
  Calls prog 57 #[v,.int .i64 (J6 n)] w fun e w'=>∃u,e = .returned u∧(u = .int .i64 (J6 (n+R2 x))∧o6 w w'):=by
 intro m
 induction m using Nat.strongRecOn with
 | ind m ih=>
 intro x v n w hsm hv;refine d9 (args:=[v,.int .i64 (J6 n)]) hm func57 rfl (by kernel_rfl) (by show 2≤_;decide +kernel) ?_;have hwx:=bD5 x;rw[bx0]at hwx;have hkm:∀y∈x.kids,R2 y<R2 x:=fun y hy=>by
  have h1:=aW6 hy;have h2:=bD5 x;have h3:=aH0 x.name;omega
 rw[hwx];obtain⟨a,w1,hbx,hx1,hat⟩:=aE1 hv (i4 _);obtain⟨vk,hk0,ld,_⟩:=hat.ex;have hSk:=hk0.isS;have hnk:=hk0.vlen;have l1:=ld w1 (i4 _);simp only[m8,n9,simprocAttr,hbx,l1];refine D1 bt2 (Q0 x.name n w1) ?_;generalize hN:n+wtT x.name=N;rw[show n+(wtT x.name+F0 R2 x.kids)=N+F0 R2 x.kids by omega];generalize x.kids=l at hk0 hnk hkm;simp only[m8,simprocAttr];refine n8 [2] (σ:=Nat) (fun i f w'=>f 5 = .int .i64 i∧f 1 = .int .i64 (J6 (N+F0 R2 (l.take i)))∧i≤l.length∧o6 w1 w') (fun i=>l.length-i) 0 (by decide +kernel) ?_ ?_
 ·simp only[p6,simprocAttr];exact⟨by trivial,by simp[F0],ew4 _,o9.refl _⟩
 rintro i f w2 hk ⟨h5,h1,hil,hx2⟩;simp only[ev4,p6,simprocAttr]at hk;obtain⟨e2,_⟩:=hk;have l2:=ld w2 (b7 hx2);rcases ev3 (decide ((i:Int)<(l.length:Int)))with hc|hc;rotate_left
 ·have hge:i=l.length:=by have:=ev7 hc;omega
  subst hge;rw[ew5]at h1;simp only[m8,n9,simprocAttr,h5,e2,l2,hSk,hnk,hc,h1];refine n7 results57 ?_;simp only[p6,simprocAttr];exact⟨by trivial,hx1.trans hx2⟩
 have hlt:i<l.length:=by have:=ev6 hc;omega
 have hle1:=at9 (f:=R2) l i;have htk:=ae9 (f:=R2) hlt;have hsl:=ae8 aD8 (l.take i);rw[ew6]at hsl;have hin:=hk0.inS hlt;obtain⟨sv,hsv,hld⟩:=G1 (P:=prog) (t:=43) hk0 (b7 hx2) (ev2 hlt) bm3 bn0 bm6 ao2;rw[ao2]at hld;have hkl:=hkm _ (ew2 hlt);generalize l[i]=y at hsv htk hkl;generalize F0 R2 (l.take i)=S at h1 htk hle1 hsl;rcases ev3 (decide (J6 (N+S)≤20000))with h2|h2;rotate_left
 ·have h2':=ev7 h2;have e:=ad9 (m:=N+F0 R2 l) h2' (by omega);simp only[m8,n9,simprocAttr,h5,e2,l2,hSk,hnk,hc,h1,h2];refine n7 results57 ?_;simp only[p6,simprocAttr];exact⟨by rw[e.1,e.2],hx1.trans hx2⟩
 obtain⟨_,hlow⟩:=al8 (ev6 h2);simp only[m8,n9,p9,simprocAttr,h5,e2,l2,hSk,hnk,hc,h1,h2,hin,hld];refine B3 cX1 (ih (R2 y) (by omega) y sv (N+S) w2 (ew8 _) (hsv.mono (b7 hx2))) (fun w3 hx3=>?_);simp only[m8,n9,simprocAttr,h5];exact⟨i+1,by omega,by rw[B1 i (by omega)],by rw[htk,←eE5],by omega,hx2.trans hx3⟩
theorem aD7:∀(m:Nat) (l:List St) (v:Value) (n:Nat) (w:World),G6 l≤m→R (d7 w) v l →
  Calls prog 37 #[v,.int .i64 (J6 n)] w fun e w'=>∃u,e = .returned u∧(u = .int .i64 (J6 (n+G6 l))∧o6 w w'):=by
 intro m
 induction m using Nat.strongRecOn with
 | ind m ih=>
 intro l v n w hsm hv;refine d9 (args:=[v,.int .i64 (J6 n)]) hm func37 rfl (by kernel_rfl) (by show 2≤_;decide +kernel) ?_;have hsub:∀t∈l,G6 t.thn<G6 l∧G6 t.els<G6 l:=fun t ht=>by
  have h1:=af4 ht;have h2:=P8 t;have h3:=aH0 t.name;omega
 have hS:=hv.isS;have hn:=hv.vlen;rw[aW7]at hsm ⊢;rw[aW7 l]at hsub;simp only[m8,n9,simprocAttr];refine n8 [0] (σ:=Nat) (fun i f w'=>f 5 = .int .i64 i∧f 1 = .int .i64 (J6 (n+F0 O5 (l.take i)))∧i≤l.length∧o6 w w') (fun i=>l.length-i) 0 (by decide +kernel) ?_ ?_
 ·simp only[p6,simprocAttr];exact⟨by trivial,by simp[F0],ew4 _,o9.refl _⟩
 rintro i f w2 hk ⟨h5,h1,hil,hx2⟩;simp only[ev4,p6,simprocAttr]at hk;obtain⟨e0,_⟩:=hk;rcases ev3 (decide ((i:Int)<(l.length:Int)))with hc|hc;rotate_left
 ·have hge:i=l.length:=by have:=ev7 hc;omega
  subst hge;rw[ew5]at h1;simp only[m8,n9,simprocAttr,h5,e0,hS,hn,hc,h1];refine n7 results37 ?_;simp only[p6,simprocAttr];exact⟨by trivial,hx2⟩
 have hlt:i<l.length:=by have:=ev6 hc;omega
 have hle1:=at9 (f:=O5) l i;have htk:=ae9 (f:=O5) hlt;have hsl:=ae8 (f:=O5) (fun t=>by have:=bO8 t;omega) (l.take i);rw[ew6]at hsl;have hin:=hv.inS hlt;obtain⟨sv,hsv,hld⟩:=G1 (P:=prog) (t:=47) hv (b7 hx2) (ev2 hlt) bb0 bb5 aR3 ah0;rw[ah0]at hld;obtain⟨hs1,hs2⟩:=hsub _ (ew2 hlt);generalize l[i]=t at hsv htk hs1 hs2;generalize F0 O5 (l.take i)=S at h1 htk hle1 hsl;rcases ev3 (decide (J6 (n+S)≤20000))with h2|h2;rotate_left
 ·have h2':=ev7 h2;have e:=ad9 (m:=n+F0 O5 l) h2' (by omega);simp only[m8,n9,simprocAttr,h5,e0,hS,hn,hc,h1,h2];refine n7 results37 ?_;simp only[p6,simprocAttr];exact⟨by rw[e.1,e.2],hx2⟩
 obtain⟨_,hlow⟩:=al8 (ev6 h2);obtain⟨d,wz,w3,hal,hst,hx3,hat⟩:=aR8 (hsv.mono (b7 hx2)) (i4 _);have hx23:=hx2.trans hx3;obtain⟨vl,va,vt,ve,hl',hra,hth,hel,hatx,ldd,sdd⟩:=hat.st;obtain⟨sx,hsx,_,sdx⟩:=hatx.ex_v;have hwt:=P8 t;have t1:=sdd (fun w'=>o6 w3.drew w') w3.drew (o9.refl _) fun w' h=>b7 ((o6.drew w3).trans h);have t2:=sdx (fun w'=>o6 w3.drew w') w3.drew (o9.refl _) fun w' h=>b7 ((o6.drew w3).trans h);simp only[m8,n9,p9,simprocAttr,h5,e0,hS,hn,hc,h1,h2,hin,hld,hal,hst];refine C2 (fun w'=>o6 w3.drew w') 14 (A8 [0,1,2,3,4,5,6,7,8,9,10,11,12,13]) (by decide +kernel) (o9.refl _) ?_;simp only[D5,A8,m8,n9,simprocAttr,t1,t2,h1];refine B3 cX1 (aJ1 (R2 t.x) t.x sx (n+S) w3.drew (ew8 _) (hsx.mono (b7 (o6.drew w3)))) (fun w4 hx4=>⟨hx4,?_⟩);simp only[D5,m8,simprocAttr];refine D1 cx2 (ad3 vl t.labels (n+S+R2 t.x) w4 (z7.mono (b7 ((o6.drew w3).trans hx4)) hl')) ⟨hx4,?_⟩;simp only[D5,m8,simprocAttr];refine D1 bt2 (Q0 t.name (n+S+R2 t.x+au3 t.labels) w4) ⟨hx4,?_⟩;simp only[D5,m8,simprocAttr];refine D1 bt2 (Q0 t.proc (n+S+R2 t.x+au3 t.labels+wtT t.name) w4) ⟨hx4,?_⟩;generalize hB:n+S+R2 t.x+au3 t.labels+wtT t.name+wtT t.proc=B;have hx34:=(o6.drew w3).trans hx4;have hSa:=hra.isS;have hna:=hra.vlen;have hB2:n+F0 O5 (l.take (i+1))=B+F0 ah5 t.args+G6 t.thn+G6 t.els:=by rw[htk,hwt,←bw8,←hB];omega
 generalize t.args=ags at hra hna hB2;simp only[D5,m8,simprocAttr];refine n8 [0,5,6] (σ:=Nat) (fun k f' w'=>f' 7 = .int .i64 k∧f' 1 = .int .i64 (J6 (B+F0 ah5 (ags.take k)))∧k≤ags.length∧o6 w3 w') (fun k=>ags.length-k) 0 (by decide +kernel) ?_ ?_
 ·simp only[p6,simprocAttr];exact⟨by trivial,by simp[F0],ew4 _,hx34⟩
 rintro k f2 w5 hk ⟨h7,h1',hkl,hx5⟩;simp only[ev4,p6,simprocAttr]at hk;obtain⟨g0,g5,g6,_⟩:=hk;rw[e0]at g0;have l5:=ldd w5 (b7 hx5);have hx25:=hx23.trans hx5;have hle2:=at9 (f:=ah5) ags k;have hx5d:=hx5.trans (o6.drew w5);have t3:=sdd (fun w'=>o6 w5.drew w') w5.drew (o9.refl _) fun w' h=>b7 (hx5d.trans h);rcases ev3 (decide ((k:Int)<(ags.length:Int))&&decide (J6 (B+F0 ah5 (ags.take k))≤20000))with hg|hg;rotate_left
 ·have hend:J6 (B+F0 ah5 (ags.take k))=J6 (B+F0 ah5 ags):=by
   rcases ev3 (decide ((k:Int)<(ags.length:Int)))with h3|h3
   ·rw[h3,eE6]at hg;have e:=ad9 (m:=B+F0 ah5 ags) (ev7 hg) (by omega);rw[e.1,e.2]
   ·have hge:k=ags.length:=by have:=ev7 h3;omega
    rw[hge,ew5]
  rw[hend]at h1';rcases ev3 (decide ((k:Int)<(ags.length:Int)))with h3|h3
  ·rw[h3,eE6,hend]at hg;simp only[m8,n9,simprocAttr,h7,g6,l5,hSa,hna,h3,hg,h1'];refine C2 (fun w'=>o6 w5.drew w') 8 (A8 [0,1,2,3,4,5,6,7]) (by decide +kernel) (o9.refl _) ?_;simp only[D5,A8,m8,n9,simprocAttr,g6,t3,h1'];refine B3 bH6 (ih (G6 t.thn) (by omega) t.thn vt (B+F0 ah5 ags) w5.drew (ew8 _) (z7.mono (b7 hx5d) hth)) (fun w6 hx6=>⟨hx6,?_⟩);simp only[D5,m8,simprocAttr];refine B3 bH6 (ih (G6 t.els) (by omega) t.els ve (B+F0 ah5 ags+G6 t.thn) w6 (ew8 _) (z7.mono (b7 (hx5d.trans hx6)) hel)) (fun w7 hx7=>⟨hx6.trans hx7,?_⟩);simp only[D5,m8,simprocAttr];simp only[m8,n9,simprocAttr,g5,h5];exact⟨i+1,by omega,by rw[B1 i (by omega)],by rw[hB2],by omega,hx25.trans ((o6.drew w5).trans (hx6.trans hx7))⟩
  ·simp only[m8,n9,simprocAttr,h7,g6,l5,hSa,hna,h3];refine C2 (fun w'=>o6 w5.drew w') 8 (A8 [0,1,2,3,4,5,6,7]) (by decide +kernel) (o9.refl _) ?_;simp only[D5,A8,m8,n9,simprocAttr,g6,t3,h1'];refine B3 bH6 (ih (G6 t.thn) (by omega) t.thn vt (B+F0 ah5 ags) w5.drew (ew8 _) (z7.mono (b7 hx5d) hth)) (fun w6 hx6=>⟨hx6,?_⟩);simp only[D5,m8,simprocAttr];refine B3 bH6 (ih (G6 t.els) (by omega) t.els ve (B+F0 ah5 ags+G6 t.thn) w6 (ew8 _) (z7.mono (b7 (hx5d.trans hx6)) hel)) (fun w7 hx7=>⟨hx6.trans hx7,?_⟩);simp only[D5,m8,simprocAttr];simp only[m8,n9,simprocAttr,g5,h5];exact⟨i+1,by omega,by rw[B1 i (by omega)],by rw[hB2],by omega,hx25.trans ((o6.drew w5).trans (hx6.trans hx7))⟩
 rw[ex5]at hg;have hlt2:k<ags.length:=by have:=ev6 hg.1;omega
 obtain⟨_,hlow2⟩:=al8 (ev6 hg.2);have htk2:=ae9 (f:=ah5) hlt2;have hsl2:=ae8 cJ4 (ags.take k);rw[ew6]at hsl2;have hina:=hra.inS hlt2;have hata:=hra.at_ (i:=k) (x:=ags[k]) (ev2 hlt2);have hz6:z7.sz Ar=6:=rfl;rw[hz6]at hata;obtain⟨hagx,_,sdg⟩:=hata.ar;obtain⟨sa,hsa,_,sda⟩:=hagx.ex_v;have t4:=sdg (fun w'=>o6 w5.drew w') w5.drew (o9.refl _) fun w' h=>b7 (hx5d.trans h);have t5:=sda (fun w'=>o6 w5.drew w') w5.drew (o9.refl _) fun w' h=>b7 (hx5d.trans h);generalize ags[k]=ag at htk2 hsa t4;generalize F0 ah5 (ags.take k)=S2 at h1' htk2 hlow2 hsl2 hg;have hg1:=hg.1;have hg2:=hg.2;simp only[m8,n9,simprocAttr,h7,g6,l5,hSa,hna,hg1,hg2,h1'];refine C2 (fun w'=>o6 w5.drew w') 16 (A8 [0,1,2,3,4,5,6,7,8,9,10,11,12,13,14,15]) (by decide +kernel) (o9.refl _) ?_;simp only[D5,A8,m8,n9,p9,simprocAttr,g6,h7,t3,t4,t5,hina,h1'];refine B3 cX1 (aJ1 (R2 ag.x) ag.x sa (B+S2) w5.drew (ew8 _) (hsa.mono (b7 hx5d))) (fun w6 hx6=>⟨hx6,?_⟩);simp only[D5,m8,simprocAttr];refine D1 bt2 (Q0 ag.name (B+S2+R2 ag.x) w6) ⟨hx6,?_⟩;simp only[D5,m8,simprocAttr];simp only[m8,n9,simprocAttr,h7];exact⟨k+1,by omega,by rw[B1 k (by omega)],by rw[htk2];unfold ah5;rw[←eE5,←eE5],by omega,hx5.trans ((o6.drew w5).trans hx6)⟩
theorem cp4(v:Value)(p:Pg)(w:World)(hv:SV (d7 w) v p):Calls prog 9 #[v] w fun e w'=>∃u,e = .returned u∧(u = .bool (decide (C8 p≤20000))∧o6 w w'):=by
 refine d9 (args:=[v]) hm func9 rfl (by kernel_rfl) (by show 1≤_;decide +kernel) ?_;obtain⟨c,w1,hbx,hx1,hatp⟩:=U0 hv (i4 _);obtain⟨vg,vp,hvg,hvp,ldp,_⟩:=hatp.pg;have l1:=ldp w1 (i4 _);have hSp:=hvp.isS;have hnp:=hvp.vlen;have hres:∀m:Nat,J6 m=J6 (C8 p)→decide (J6 m≤20000)=decide (C8 p≤20000):=fun m e=>by
  rw[e,ez8];unfold J6;omega
 have hwp:C8 p=au3 p.globals+F0 T8 p.procs:=by unfold C8;rw[bx2]
 simp only[m8,n9,simprocAttr,hbx,l1];have h00:Value.int IntKind.i64 0 = .int .i64 (J6 0):=rfl;rw[h00];refine D1 cx2 (ad3 vg p.globals 0 w1 hvg) ?_;rw[ey7];generalize au3 p.globals=G at hwp;generalize p.procs=l at hvp hnp hwp;rw[hwp]at hres ⊢;simp only[m8,simprocAttr];refine n8 [1] (σ:=Nat) (fun i f w'=>f 4 = .int .i64 i∧f 3 = .int .i64 (J6 (G+F0 T8 (l.take i)))∧i≤l.length∧o6 w1 w') (fun i=>l.length-i) 0 (by decide +kernel) ?_ ?_
 ·simp only[p6,simprocAttr];exact⟨by trivial,by simp[F0],ew4 _,o9.refl _⟩
 rintro i f w2 hk ⟨h4,h3,hil,hx2⟩;simp only[ev4,p6,simprocAttr]at hk;obtain⟨e1,_⟩:=hk;have l2:=ldp w2 (b7 hx2);rcases ev3 (decide ((i:Int)<(l.length:Int)))with hc|hc;rotate_left
 ·have hge:i=l.length:=by have:=ev7 hc;omega
  subst hge;rw[ew5]at h3;have hr:=hres _ rfl;simp only[m8,n9,simprocAttr,h4,e1,l2,hSp,hnp,hc,h3,hr];refine n7 results9 ?_;simp only[p6,simprocAttr];exact⟨by trivial,hx1.trans hx2⟩
 have hlt:i<l.length:=by have:=ev6 hc;omega
 have hle1:=at9 (f:=T8) l i;have htk:=ae9 (f:=T8) hlt;have hsl:=ae8 cJ5 (l.take i);rw[ew6]at hsl;rcases ev3 (decide (J6 (G+F0 T8 (l.take i))≤20000))with h2|h2;rotate_left
 ·have h2':=ev7 h2;have e:=ad9 (m:=G+F0 T8 l) h2' (by omega);have hr:=hres _ (by rw[e.1,e.2]:J6 (G+F0 T8 (l.take i))=J6 (G+F0 T8 l));rw[hr]at h2;simp only[m8,n9,simprocAttr,h4,e1,l2,hSp,hnp,hc,h3,hr,h2];refine n7 results9 ?_;simp only[p6,simprocAttr];exact⟨by trivial,hx1.trans hx2⟩
 obtain⟨_,hlow⟩:=al8 (ev6 h2);have hin:=hvp.inS hlt;obtain⟨sv,hsv,hld⟩:=G1 (P:=prog) (t:=53) hvp (b7 hx2) (ev2 hlt) ao0 ao4 ao1 O1;rw[O1]at hld;generalize l[i]=q at hsv htk;generalize F0 T8 (l.take i)=S at h3 htk hle1 hsl h2 hlow;obtain⟨d,wz,w3,hal,hst,hx3,hat⟩:=aG7 (hsv.mono (b7 hx2)) (i4 _);have hx23:=hx2.trans hx3;obtain⟨vpa,vva,vbo,vfi,hpa,hva,hbo,hfi,ldr,sdr⟩:=hat.pr;have t1:=sdr (fun w'=>o6 w3.drew w') w3.drew (o9.refl _) fun w' h=>b7 ((o6.drew w3).trans h);simp only[m8,n9,p9,simprocAttr,h4,e1,l2,hSp,hnp,hc,h3,h2,hin,hld,hal,hst];refine C2 (fun w'=>o6 w3.drew w') 11 (A8 [0,1,2,3,4,5,6,7,8,9,10]) (by decide +kernel) (o9.refl _) ?_;simp only[D5,A8,m8,n9,simprocAttr,t1,h3];refine D1 bt2 (Q0 q.name (G+S) w3.drew) ⟨o9.refl _,?_⟩;simp only[D5,m8,simprocAttr];refine D1 cx2 (ad3 vva q.vars (G+S+wtT q.name) w3.drew (z7.mono (b7 (o6.drew w3)) hva)) ⟨o9.refl _,?_⟩;simp only[D5,m8,simprocAttr];refine D1 cx2 (ad3 vfi q.fin (G+S+wtT q.name+au3 q.vars) w3.drew (z7.mono (b7 (o6.drew w3)) hfi)) ⟨o9.refl _,?_⟩;generalize hB:G+S+wtT q.name+au3 q.vars+au3 q.fin=B;have hB2:G+F0 T8 (l.take (i+1))=B+F0 (fun a:Pa=>wtT a.name) q.params+G6 q.body:=by
  rw[htk,←hB];unfold T8;rw[bx1];omega
 have hSa:=hpa.isS;have hna:=hpa.vlen;generalize q.params=pas at hpa hna hB2;simp only[D5,m8,simprocAttr];refine n8 [1,4,5] (σ:=Nat) (fun k f' w'=>f' 6 = .int .i64 k∧f' 3 = .int .i64 (J6 (B+F0 (fun a:Pa=>wtT a.name) (pas.take k)))∧k≤pas.length∧o6 w3 w') (fun k=>pas.length-k) 0 (by decide +kernel) ?_ ?_
 ·simp only[p6,simprocAttr];exact⟨by trivial,by simp[F0],ew4 _,o6.drew w3⟩
 rintro k f2 w5 hk ⟨h6,h3',hkl,hx5⟩;simp only[ev4,p6,simprocAttr]at hk;obtain⟨g1,g4,g5,_⟩:=hk;rw[h4]at g4;have l5:=ldr w5 (b7 hx5);have hx25:=hx23.trans hx5;have hle2:=at9 (f:=fun a:Pa=>wtT a.name) pas k;have hend:(decide ((k:Int)<(pas.length:Int))&&decide (J6 (B+F0 (fun a:Pa=>wtT a.name) (pas.take k))≤20000))=false→J6 (B+F0 (fun a:Pa=>wtT a.name) (pas.take k))=J6 (B+F0 (fun a:Pa=>wtT a.name) pas):=fun hg=>by
  rcases ev3 (decide ((k:Int)<(pas.length:Int)))with h|h
  ·rw[h,eE6]at hg;have e:=ad9 (m:=B+F0 (fun a:Pa=>wtT a.name) pas) (ev7 hg) (by omega);rw[e.1,e.2]
  ·have hge:k=pas.length:=by have:=ev7 h;omega
   rw[hge,ew5]
 rcases ev3 (decide ((k:Int)<(pas.length:Int)))with h7|h7;rotate_left
 ·rw[hend (by rw[h7];rfl)]at h3';simp only[m8,n9,simprocAttr,h6,g5,l5,hSa,hna,h7,h3'];refine B3 bH6 (aD7 (G6 q.body) q.body vbo (B+F0 (fun a:Pa=>wtT a.name) pas) w5 (ew8 _) (z7.mono (b7 hx5) hbo)) (fun w6 hx6=>?_);simp only[m8,n9,simprocAttr,g4];exact⟨i+1,by omega,by rw[B1 i (by omega)],by rw[hB2],by omega,hx25.trans hx6⟩
 rcases ev3 (decide (J6 (B+F0 (fun a:Pa=>wtT a.name) (pas.take k))≤20000))with h8|h8;rotate_left
 ·have he:=hend (by rw[h7,h8];rfl);rw[he]at h3' h8;simp only[m8,n9,simprocAttr,h6,g5,l5,hSa,hna,h7,h8,h3'];refine B3 bH6 (aD7 (G6 q.body) q.body vbo (B+F0 (fun a:Pa=>wtT a.name) pas) w5 (ew8 _) (z7.mono (b7 hx5) hbo)) (fun w6 hx6=>?_);simp only[m8,n9,simprocAttr,g4];exact⟨i+1,by omega,by rw[B1 i (by omega)],by rw[hB2],by omega,hx25.trans hx6⟩
 have hlt2:k<pas.length:=by have:=ev6 h7;omega
 obtain⟨_,hlow2⟩:=al8 (ev6 h8);have htk2:=ae9 (f:=fun a:Pa=>wtT a.name) hlt2;have hsl2:=ae8 (f:=fun a:Pa=>wtT a.name) (fun a=>aH0 _) (pas.take k);rw[ew6]at hsl2;have hina:=hpa.inS hlt2;have hata:=hpa.at_ (i:=k) (x:=pas[k]) (ev2 hlt2);have hz2:z7.sz Pa=2:=rfl;rw[hz2]at hata;obtain⟨ldpa,_⟩:=hata.pa;have l6:=ldpa w5 (b7 hx5);generalize pas[k]=pa at htk2 l6;generalize F0 (fun a:Pa=>wtT a.name) (pas.take k)=S2 at h3' htk2 hlow2 hsl2 h8;simp only[m8,n9,p9,simprocAttr,h6,g5,l5,hSa,hna,h7,h8,h3',hina,l6];refine D1 bt2 (Q0 pa.name (B+S2) w5) ?_;simp only[m8,n9,simprocAttr,h6];exact⟨k+1,by omega,by rw[B1 k (by omega)],by rw[htk2,←eE5],by omega,hx5⟩
theorem ei8:af6 prog 254=true:=by kernel_rfl
theorem bR7(v:Value)(s:St)(w:World)(hv:SV (d7 w) v s)(hb:O5 s≤1000000):Calls prog 214 #[v] w fun e w'=>∃u,e = .returned u∧(u = .bool (R8 s)∧o6 w w'):=by
 refine d9 (args:=[v]) hm func214 rfl (by kernel_rfl) (by show 1≤_;decide +kernel) ?_;obtain⟨a,w1,hbx,hx,ha⟩:=ai6 hv (i4 _);obtain⟨vl,va,vt,ve,hl,hra,ht,he,hatx,ld,sd⟩:=ha.st;have hxd:=hx.trans (o6.drew w1);have l1:=ld w1.drew (b7 (o6.drew w1));have s1:=sd (fun w2=>o6 w1.drew w2) w1.drew (o9.refl _) (fun w' h=>b7 ((o6.drew w1).trans h));simp only[n3,n9,simprocAttr,hbx];refine C2 (fun w2=>o6 w1.drew w2) 8 (A8 [0,1,2,3,4,5,6,7]) (by decide +kernel) (o9.refl _) ?_;simp only[D5,A8,n3,n9,simprocAttr,s1];simp only[n3,n9,simprocAttr,l1];generalize hK:CW prog _ (bx8 prog _ _)=K;have hS1:=hra.isS;have hn1:=hra.vlen;have hS2:=ht.isS;have hn2:=ht.vlen;have hS3:=he.isS;have hn3:=he.vlen;have c1:decide ((0:Int)<((s.args.length:Nat):Int))=decide (0<s.args.length):=ez8.2 (by omega);have c2:decide ((0:Int)<((s.thn.length:Nat):Int))=decide (0<s.thn.length):=ez8.2 (by omega);have c3:decide ((0:Int)<((s.els.length:Nat):Int))=decide (0<s.els.length):=ez8.2 (by omega);have tail:∀(k:Fl) (f:Fr),U1 s=some k→f 1 = .pointer (some a)→f 3 = .bool k.name→f 4 = .bool k.proc→f 5 = .bool k.x→f 6 = .bool k.has→f 7 = .bool k.thn→f 8 = .bool k.els→f 9 = .bool (decide (s.kind=4))→K f w1.drew:=by
  rintro⟨nm,pr,xx,hs,th,el⟩ f hk g1 g3 g4 g5 g6 g7 g8 g9;simp only at g3 g4 g5 g6 g7 g8;have hF:R8 s=(!(hs||(!th&&decide (0<s.thn.length))||(!el&&decide (0<s.els.length))||(!decide (s.kind=4)&&decide (0<s.args.length))) &&
   U8 s.name nm&&U8 s.proc pr&&af2 s.x xx&&aE8 s.args):=by rw[R8,hk]
  clear hk;generalize decide (s.kind=4)=ar at hF g9;rw[←hK,bd8];generalize hK2:CW prog _ (bx8 prog _ _)=K2;have tail2:∀(f:Fr),f 1 = .pointer (some a)→f 3 = .bool nm→f 4 = .bool pr→f 5 = .bool xx→(hs||(!th&&decide (0<s.thn.length))||(!el&&decide (0<s.els.length))||(!ar&&decide (0<s.args.length)))=false→K2 f w1.drew:=by
   intro f g1 g3 g4 g5 g70;rw[g70]at hF;rw[←hK2]
   ·simp only[n3,n9,simprocAttr,g1,g3,l1];refine y5 cx1 (aU1 s.name nm _) ?_;rintro u w3 ⟨rfl,rfl⟩;cases h1:U8 s.name nm
    ·simp only[n3,n9,simprocAttr];refine n7 results214 ?_;simp only[p6,simprocAttr];exact⟨by rw[hF,h1];rfl,hxd⟩
    simp only[n3,n9,simprocAttr,g1,g4,l1];refine y5 cx1 (aU1 s.proc pr _) ?_;rintro u w3 ⟨rfl,rfl⟩;cases h2:U8 s.proc pr
    ·simp only[n3,n9,simprocAttr];refine n7 results214 ?_;simp only[p6,simprocAttr];exact⟨by rw[hF,h1,h2];rfl,hxd⟩
    obtain⟨sx,hsx,lx,_⟩:=hatx.ex_v;have lx1:=lx w1.drew (b7 (o6.drew w1));simp only[n3,n9,simprocAttr,g1,g5,lx1];refine y5 dd8 (bw7 sx s.x xx _ (hsx.mono (b7 (o6.drew w1)))) ?_;rintro u w3 ⟨rfl,hx3⟩;cases h3:af2 s.x xx
    ·simp only[n3,n9,simprocAttr];refine n7 results214 ?_;simp only[p6,simprocAttr];exact⟨by rw[hF,h1,h2,h3];rfl,hxd.trans hx3⟩
    have l3:=ld w3 (b7 ((o6.drew w1).trans hx3));simp only[n3,n9,simprocAttr,g1,l3];refine y5 ei8 (bS8 va s.args _ (z7.mono (b7 ((o6.drew w1).trans hx3)) hra) (by have:=al1 s.args;rw[P8]at hb;omega)) ?_;rintro u w4 ⟨rfl,hx4⟩;simp only[n3,simprocAttr];refine n7 results214 ?_;simp only[p6,simprocAttr];exact⟨by rw[hF,h1,h2,h3];simp,hxd.trans (hx3.trans hx4)⟩
  have bad:(hs||(!th&&decide (0<s.thn.length))||(!el&&decide (0<s.els.length))||(!ar&&decide (0<s.args.length)))=true→R8 s=false:=fun h=>by rw[hF,h];rfl
  cases hs
  case true=>
   simp only[n3,simprocAttr,g6];refine n7 results214 ?_;simp only[p6,simprocAttr];exact⟨by rw[bad rfl],hxd⟩
  cases th<;>cases d2:decide (0<s.thn.length)<;>cases el<;>cases d3:decide (0<s.els.length)<;>cases ar<;>cases d1:decide (0<s.args.length) <;>
  ·rw[d1]at c1;rw[d2]at c2;rw[d3]at c3;simp only[n3,n9,simprocAttr,g1,g6,g7,g8,g9,l1,hS1,hn1,hS2,hn2,hS3,hn3,c1,c2,c3]
   first
   | refine tail2 _ ?_ ?_ ?_ ?_ (by rw[d1,d2,d3];rfl)<;>simp only[p6,↓reduceIte,Nat.reduceEqDiff,g1,g3,g4,g5]
   | refine n7 results214 ?_
     simp only[p6,simprocAttr];exact⟨by rw[bad (by rw[d1,d2,d3];rfl)],hxd⟩
 have n4:∀m:Int,m≠4→decide (s.kind=m)=true→decide (s.kind=4)=false:=fun m hm h=>by
  have:=ev6 h;exact eI1 (by omega)
 refine i5 (fun h1=>?_) (fun h1=>?_)
 ·have d4:=n4 1 (by omega) h1;have k1:=ev6 h1;simp only[n3,simprocAttr,d4];refine tail ⟨true,false,true,s.has,false,false⟩ _ (by rw[U1,if_pos k1]) ?_ ?_ ?_ ?_ ?_ ?_ ?_ ?_<;>simp only[p6,↓reduceIte,Nat.reduceEqDiff,d4]
 have k1:=ev7 h1;simp only[n3,n9,simprocAttr];refine i5 (fun h2=>?_) (fun h2=>?_)
 ·have d4:=n4 2 (by omega) h2;have k2:=ev6 h2;simp only[n3,simprocAttr,h2,d4];refine tail ⟨true,false,false,s.has,false,false⟩ _ (by rw[U1,if_neg k1,if_pos (.inl k2)]) ?_ ?_ ?_ ?_ ?_ ?_ ?_ ?_<;>simp only[p6,↓reduceIte,Nat.reduceEqDiff,d4]
 have k2:=ev7 h2;simp only[n3,n9,simprocAttr];refine i5 (fun h10=>?_) (fun h10=>?_)
 ·have d4:=n4 10 (by omega) h10;have k10:=ev6 h10;simp only[n3,simprocAttr,d4];refine tail ⟨true,false,false,s.has,false,false⟩ _ (by rw[U1,if_neg k1,if_pos (.inr k10)]) ?_ ?_ ?_ ?_ ?_ ?_ ?_ ?_<;>simp only[p6,↓reduceIte,Nat.reduceEqDiff,d4]
 have k10:=ev7 h10;have n2:¬(s.kind=2∨s.kind=10):=by omega
 simp only[n3,n9,simprocAttr];refine i5 (fun h3=>?_) (fun h3=>?_)
 ·have d4:=n4 3 (by omega) h3;have k3:=ev6 h3;simp only[n3,simprocAttr,d4];refine tail ⟨false,false,true,s.has,false,false⟩ _ (by rw[U1,if_neg k1,if_neg n2,if_pos k3]) ?_ ?_ ?_ ?_ ?_ ?_ ?_ ?_<;>simp only[p6,↓reduceIte,Nat.reduceEqDiff,d4]
 have k3:=ev7 h3;simp only[n3,n9,simprocAttr];refine i5 (fun d4=>?_) (fun d4=>?_)
 ·have k4:=ev6 d4;simp only[n3,n9,simprocAttr,l1];refine tail ⟨decide (s.name≠e0),true,false,s.has,false,false⟩ _ (by rw[U1,if_neg k1,if_neg n2,if_neg k3,if_pos k4]) ?_ ?_ ?_ ?_ ?_ ?_ ?_ ?_<;>simp only[p6,↓reduceIte,Nat.reduceEqDiff,d4,decide_not]
 have k4:=ev7 d4;simp only[n3,n9,simprocAttr];refine i5 (fun h5=>?_) (fun h5=>?_)
 ·have k5:=ev6 h5;simp only[n3,simprocAttr];refine tail ⟨false,false,true,s.has,true,true⟩ _ (by rw[U1,if_neg k1,if_neg n2,if_neg k3,if_neg k4,if_pos k5]) ?_ ?_ ?_ ?_ ?_ ?_ ?_ ?_<;>simp only[p6,↓reduceIte,Nat.reduceEqDiff,d4]
 have k5:=ev7 h5;simp only[n3,n9,simprocAttr];refine i5 (fun h6=>?_) (fun h6=>?_)
 ·have k6:=ev6 h6;simp only[n3,simprocAttr];refine tail ⟨false,false,true,s.has,true,false⟩ _ (by rw[U1,if_neg k1,if_neg n2,if_neg k3,if_neg k4,if_neg k5,if_pos k6]) ?_ ?_ ?_ ?_ ?_ ?_ ?_ ?_<;>simp only[p6,↓reduceIte,Nat.reduceEqDiff,d4]
 have k6:=ev7 h6;simp only[n3,n9,simprocAttr];refine i5 (fun h9=>?_) (fun h9=>?_)
 ·have k9:=ev6 h9;simp only[n3,n9,simprocAttr,l1];refine tail ⟨false,false,s.has,false,false,false⟩ _ (by rw[U1,if_neg k1,if_neg n2,if_neg k3,if_neg k4,if_neg k5,if_neg k6,if_pos k9]) ?_ ?_ ?_ ?_ ?_ ?_ ?_ ?_<;>simp only[p6,↓reduceIte,Nat.reduceEqDiff,d4]
 have k9:=ev7 h9;simp only[n3,n9,simprocAttr];refine i5 (fun h7=>?_) (fun h7=>?_)
 ·have k7:=ev6 h7;simp only[n3,simprocAttr,h7];refine tail ⟨false,false,false,s.has,false,false⟩ _ (by rw[U1,if_neg k1,if_neg n2,if_neg k3,if_neg k4,if_neg k5,if_neg k6,if_neg k9,if_pos (.inl k7)]) ?_ ?_ ?_ ?_ ?_ ?_ ?_ ?_<;>simp only[p6,↓reduceIte,Nat.reduceEqDiff,d4]
 have k7:=ev7 h7;simp only[n3,n9,simprocAttr];refine i5 (fun h8=>?_) (fun h8=>?_)
 ·have k8:=ev6 h8;simp only[n3,simprocAttr];refine tail ⟨false,false,false,s.has,false,false⟩ _ (by rw[U1,if_neg k1,if_neg n2,if_neg k3,if_neg k4,if_neg k5,if_neg k6,if_neg k9,if_pos (.inr k8)]) ?_ ?_ ?_ ?_ ?_ ?_ ?_ ?_<;>simp only[p6,↓reduceIte,Nat.reduceEqDiff,d4]
 have k8:=ev7 h8;simp only[n3,simprocAttr];refine n7 results214 ?_;simp only[p6,simprocAttr];exact⟨by rw[R8,show U1 s=none by rw[U1,if_neg k1,if_neg n2,if_neg k3,if_neg k4,if_neg k5,if_neg k6,if_neg k9,if_neg (by omega)]],hxd⟩
theorem eH8:type_of% @decide_eq_false_iff_not:=@decide_eq_false_iff_not
theorem bT1:af6 prog 146=true:=by kernel_rfl
theorem cw6:af6 prog 148=true:=by kernel_rfl
theorem eh5:af6 prog 214=true:=by kernel_rfl
def at5(d:Nat)(n:Int)(s:St):Option Int:=if n+1>200∨s.id≠n+1∨Z9 s.labels=false∨R8 s=false then none else(I5 d s.thn (n+1)).bind fun m=>I5 d s.els m
theorem aL1(d:Nat)(l:List St)(n:Int):I5 (d+1) l n=l.foldlM (at5 d) n:=rfl
theorem aY5{α β:Type}(g:β→α→Option β)(l:List α)(n:β){k:Nat}(hk:k<l.length){m:β}(h:(l.take k).foldlM g n=some m):(l.take (k+1)).foldlM g n=g m l[k]:=by
 rw[ew1 hk,List.foldlM_append,h];simp
theorem aY4{α β:Type}(g:β→α→Option β)(l:List α)(n:β){k:Nat}(hk:k<l.length){m:β}(h:(l.take k).foldlM g n=some m)(h2:g m l[k]=none):l.foldlM g n=none:=by
 conv=>lhs;rw[←eA3 k l,ez4 hk]
 rw[List.foldlM_append,h];show(do let s ←g m l[k];List.foldlM g s (l.drop (k+1)))=none;rw[h2];rfl
theorem aQ2:∀(d:Nat) (l:List St) (n m:Int),I5 d l n=some m→n≤m∧(n≤200→m≤200)
 | 0,l,n,m,h=>by
  unfold I5 at h;split at h
  ·simp only[eG4]at h;subst h;exact⟨Int.le_refl _,fun h=>h⟩
  ·cases h
 | d+1,l,n,m,h=>by
  rw[aL1]at h
  induction l generalizing n with
  | nil=>simp only[List.foldlM_nil]at h;cases h;exact⟨Int.le_refl _,fun h=>h⟩
  | cons s l ih=>
   rw[List.foldlM_cons]at h;cases hs:at5 d n s with
   | none=>rw[hs]at h;cases h
   | some n1=>
    rw[hs]at h;have h1:=ih n1 h;unfold at5 at hs;split at hs
    ·cases hs
    ·rename_i hc;cases ht:I5 d s.thn (n+1)with
     | none=>rw[ht]at hs;cases hs
     | some n2=>
      rw[ht]at hs;have h2:=aQ2 d _ _ _ ht;have h3:=aQ2 d _ _ _ hs;omega
theorem bk3:∀(d:Nat) (l:List St) (n:Int) (v:Value) (h:Hp) (gb:Nat) (w:World),d≤12→B4 h (d7 w)→h gb=none→w.heap[gb]?=some (.cells #[.int .i64 n] 200 (0,0))→R h v l→G6 l≤1000000→0≤n→n≤200 →
  Calls prog 148 #[.pointer (some ⟨gb,0,none⟩),v,.int .i64 (13-(d:Int))] w fun e w'=>∃u,e = .returned u∧(u = .bool (I5 d l n).isSome∧(∀m,I5 d l n=some m→w'.heap[gb]?=some (.cells #[.int .i64 m] 200 (0,0)))∧o9 (fun b=>b=gb) w w')
 | 0,l,n,v,h,gb,w,_,hh,hgb,hcell,hv,_,_,_=>by
  generalize hN:(13:Int)-((0:Nat):Int)=N;refine d9 (args:=[.pointer (some ⟨gb,0,none⟩),v,.int .i64 N]) hm func148 rfl (by kernel_rfl) (by show 3≤_;decide +kernel) ?_;have hS:=hv.isS;have hn:=hv.vlen;have d0:decide ((12:Int)<N)=true:=by subst hN;decide
  have c0:decide ((0:Int)<((l.length:Nat):Int))=decide (0<l.length):=ez8.2 (by omega);cases hl:decide (0<l.length)
  ·have hl0:l.length=0:=by simpa using hl
   have c1:decide ((0:Int)<((l.length:Nat):Int))=false:=c0.trans hl;simp only[n3,n9,simprocAttr,hS,hn,d0,c1];refine n8 [16,17] (σ:=Nat) (fun k f w'=>f 18 = .int .i64 0∧w'=w) (fun _=>0) 0 (by decide +kernel) ?_ ?_
   ·simp only[p6,simprocAttr];exact⟨by trivial,by trivial⟩
   ·rintro k f w' hk ⟨h18,rfl⟩;simp only[ev4,p6,simprocAttr]at hk;obtain⟨e16,e17,_⟩:=hk;simp only[n3,n9,simprocAttr,h18,e17,c1];refine n7 results148 ?_;simp only[p6,simprocAttr];have hF:I5 0 l n=some n:=by unfold I5;rw[if_pos hl0]
    exact⟨by rw[hF];rfl,fun m hm=>by rw[hF]at hm;cases hm;exact hcell,o9.refl _⟩
  ·have hl0:¬l.length=0:=by have:0<l.length:=by simpa using hl
                            omega
   simp only[n3,n9,simprocAttr,hS,hn,d0,c0,hl];refine n7 results148 ?_;simp only[p6,simprocAttr];have hF:I5 0 l n=none:=by unfold I5;rw[if_neg hl0]
   exact⟨by rw[hF];rfl,fun m hm=>(by rw[hF]at hm;cases hm),o9.refl _⟩
 | d+1,l,n,v,h,gb,w,hd,hh,hgb,hcell,hv,hwt,hn0,hn2=>by
  generalize hN:(13:Int)-((d+1:Nat):Int)=N;refine d9 (args:=[.pointer (some ⟨gb,0,none⟩),v,.int .i64 N]) hm func148 rfl (by kernel_rfl) (by show 3≤_;decide +kernel) ?_;have hS:=hv.isS;have hn:=hv.vlen;have d0:decide ((12:Int)<N)=false:=by simp;omega
  have hnest:IntKind.i64.wrap (N+1)=13-(d:Int):=by rw[K1 _ (by omega)];omega
  simp only[n3,n9,simprocAttr,hS,hn,d0];refine n8 [0,2,16,17] (σ:=Nat×Int) (fun s f w'=>f 18 = .int .i64 s.1∧s.1≤l.length∧(l.take s.1).foldlM (at5 d) n=some s.2∧0≤s.2∧s.2≤200∧w'.heap[gb]?=some (.cells #[.int .i64 s.2] 200 (0,0))∧o9 (fun b=>b=gb) w w') (fun s=>l.length-s.1) (0,n) (by decide +kernel) ?_ ?_
  ·simp only[p6,simprocAttr];exact⟨by trivial,ew4 _,by simp,hn0,hn2,hcell,o9.refl _⟩
  ·rintro⟨k,m⟩ f w1 hk ⟨h18,hkl,hfold,hm0,hm2,hc1,hx1⟩;simp only at h18 hkl hfold hm0 hm2 hc1;simp only[ev4,p6,simprocAttr]at hk;obtain⟨e0,e2,e16,e17,_⟩:=hk;simp only[n3,n9,simprocAttr,h18,e17];refine i5 (fun hc=>?_) (fun hc=>?_)
   ·have hlt:k<l.length:=by simpa using hc
    have hin:=hv.inS hlt;have hhw:B4 h (d7 w1):=K6 hh hx1 fun b hb=>by subst hb;exact hgb
    have hgl:gb<w1.heap.size:=(ev9.1 hc1).1;have hNl:∀b,b=gb→b<w1.heap.size:=fun b hb=>by subst hb;exact hgl
    obtain⟨sv,hsv,hld⟩:=G1 (P:=prog) (t:=47) hv hhw (ev2 hlt) bb0 bb5 aR3 ah0;rw[ah0]at hld;have hstep:=aY5 (at5 d) l n hlt hfold;have hnone:=aY4 (at5 d) l n hlt hfold;have hws:O5 l[k]≤1000000:=ew0 (af4 (ew2 hlt)) hwt;generalize l[k]=s at hsv hstep hnone hws;obtain⟨a,wz,w2,hal,hst,hx2,hat⟩:=dY6 (P:=prog) (T:=47) (N:=fun b=>b=gb) hsv (cv7 hhw fun b hb=>by subst hb;exact hgb) hNl cI7 rfl ah0;have hc2:w2.heap[gb]?=some (.cells #[.int .i64 m] 200 (0,0)):=(hx2.block gb hgl id).trans hc1;obtain⟨w3,hs3,hc3,hx3⟩:=ah2 (P:=prog) (t:=3) (i:=0) (x:=.int .i64 (m+1)) hc2 (by simp) rfl rfl (t8 ax7).choose_spec.1 (by rw[←C7 (t8 ax7).choose_spec.1];exact aR4);simp only[Array.setIfInBounds,eE7,ex7,eB7,ey7,Nat.lt_add_one,↓reduceDIte,List.set_toArray,List.set_cons_zero]at hc3;have hl2:=E8 (P:=prog) (t:=3) (i:=0) (u:=.int .i64 m) hc2 rfl G3;have hw1:IntKind.i64.wrap (m+1)=m+1:=K1 _ (by omega);have hx3d:=hx3.trans ((o6.drew w3).weaken (N:=fun b=>b=gb) fun _ _ h=>h.elim);have hno:B4 (B5 w2 fun b=>b=gb) (d7 w3.drew):=D2 hx3d;obtain⟨vl,va,vt,ve,hrl,hra,hrt,hre,hatx,ld,sd⟩:=hat.st;obtain⟨ss,hss,lss,sss⟩:=hat.st_v;have hstd:∀w',o6 w3.drew w'→B4 (B5 w2 fun b=>b=gb) (d7 w'):=fun w' h=>p8 hno (b7 h);have s3:=sd (fun w'=>o6 w3.drew w') w3.drew (o9.refl _) hstd;have s4:=sss (fun w'=>o6 w3.drew w') w3.drew (o9.refl _) hstd;have hl3:∀K f d w,B8 prog (fun w'=>o6 w3.drew w') (Instr.loadAt 3 (.pointer (some ⟨gb,0,none⟩))) K f d w=K (A5 f d (.int .i64 (m+1))) w:=fun K f d w=>A0 (w0:=w3.drew) (o9.refl _) fun w' hw'=>E8 (i:=0) ((hw'.block gb (ev9.1 hc3).1 id).trans hc3) rfl G3;have hend:o9 (fun b=>b=gb) w w3.drew:=hx1.trans ((hx2.weaken fun _ _ h=>h.elim).trans hx3d);simp only[n3,n9,p9,simprocAttr,h18,e0,e16,hin,hld,hal,hst,hl2,hw1,hs3];refine C2 (fun w'=>o6 w3.drew w') 25 (A8 [0,1,2,3,4,5,6,7,8,9,10,11,12,13,14,15,16,17,18,19,20,21,22,23,24]) (by decide +kernel) (o9.refl _) ?_;have bad:at5 d m s=none→I5 (d+1) l n=none:=fun h=>by rw[aL1];exact hnone h
    cases b1:decide ((200:Int)<m+1)
    case true=>
     simp only[D5,A8,n3,n9,simprocAttr,e0,hl3,b1];refine n7 results148 ?_;simp only[p6,simprocAttr];have hF:=bad (by rw[at5,if_pos (.inl (by simpa using b1))]);exact⟨by rw[hF];rfl,fun m hm=>(by rw[hF]at hm;cases hm),hend⟩
    cases b2:decide (s.id=m+1)
    case false=>
     simp only[D5,A8,n3,n9,simprocAttr,e0,hl3,s3,b1,b2];refine n7 results148 ?_;simp only[p6,simprocAttr];have hF:=bad (by rw[at5,if_pos (.inr (.inl (by simpa using b2)))]);exact⟨by rw[hF];rfl,fun m hm=>(by rw[hF]at hm;cases hm),hend⟩
    simp only[D5,A8,n3,n9,simprocAttr,e0,hl3,s3,b1,b2];refine y5 bT1 (aF5 vl s.labels _ (z7.mono hno hrl) (by have:=S8 s.labels;rw[P8]at hws;omega)) ?_;rintro u w4 ⟨rfl,rfl⟩;cases b3:Z9 s.labels
    case false=>
     simp only[D5,n3,n9,simprocAttr,F7];refine⟨o9.refl _,?_⟩;refine n7 results148 ?_;simp only[p6,simprocAttr];have hF:=bad (by rw[at5,if_pos (.inr (.inr (.inl b3)))]);exact⟨by rw[hF];rfl,fun m hm=>(by rw[hF]at hm;cases hm),hend⟩
    simp only[D5,n3,n9,simprocAttr,F7,s4];refine⟨o9.refl _,?_⟩;refine y5 eh5 (bR7 ss s _ (hss.mono hno) hws) ?_;rintro u w5 ⟨rfl,hx5⟩;have hx35:o9 (fun b=>b=gb) w2 w5:=hx3d.trans (hx5.weaken fun _ _ h=>h.elim);have hend5:o9 (fun b=>b=gb) w w5:=hend.trans (hx5.weaken fun _ _ h=>h.elim);cases b4:R8 s
    case false=>
     simp only[D5,n3,n9,simprocAttr,F7];refine⟨hx5,?_⟩;refine n7 results148 ?_;simp only[p6,simprocAttr];have hF:=bad (by rw[at5,if_pos (.inr (.inr (.inr b4)))]);exact⟨by rw[hF];rfl,fun m hm=>(by rw[hF]at hm;cases hm),hend5⟩
    have hK:at5 d m s=(I5 d s.thn (m+1)).bind fun m=>I5 d s.els m:=by
     rw[at5,if_neg];simp only[eH8]at b1;have b2':s.id=m+1:=by simpa using b2
     rintro(h|h|h|h)
     ·exact b1 h
     ·exact h b2'
     ·rw[b3]at h;cases h
     ·rw[b4]at h;cases h
    have hm3:m+1≤200:=by have:=ev7 b1;omega
    have hc5:w5.heap[gb]?=some (.cells #[.int .i64 (m+1)] 200 (0,0)):=(hx5.block gb (ev9.1 hc3).1 id).trans hc3;have hno5:B4 (B5 w2 fun b=>b=gb) (d7 w5):=D2 hx35;have l5:=ld w5 hno5;rw[P8]at hws;simp only[D5,n3,n9,simprocAttr,F7];refine⟨hx5,?_⟩;simp only[n3,n9,simprocAttr,e0,e2,l5,hnest];refine y5 cw6 (bk3 d s.thn (m+1) vt _ gb w5 (by omega) hno5 (H8 rfl) hc5 hrt (by omega) (by omega) hm3) ?_;rintro u w6 ⟨rfl,hr6,hx6⟩;have hend6:=hend5.trans hx6;cases ht:I5 d s.thn (m+1)with
    | none=>
     simp only[n3,n9,simprocAttr,Option.isSome_none];refine n7 results148 ?_;simp only[p6,simprocAttr];have hF:=bad (by rw[hK,ht];rfl);exact⟨by rw[hF];rfl,fun m hm=>(by rw[hF]at hm;cases hm),hend6⟩
    | some m6=>
     have hc6:=hr6 m6 ht;have hle6:=aQ2 d _ _ _ ht;have hno6:B4 (B5 w2 fun b=>b=gb) (d7 w6):=D2 (hx35.trans hx6);have l6:=ld w6 hno6;simp only[n3,n9,simprocAttr,e0,e2,l6,hnest];refine y5 cw6 (bk3 d s.els m6 ve _ gb w6 (by omega) hno6 (H8 rfl) hc6 hre (by omega) (by omega) (by omega)) ?_;rintro u w7 ⟨rfl,hr7,hx7⟩;have hend7:=hend6.trans hx7;cases he:I5 d s.els m6 with
     | none=>
      simp only[n3,n9,simprocAttr,Option.isSome_none];refine n7 results148 ?_;simp only[p6,simprocAttr];have hF:=bad (by rw[hK,ht];exact he);exact⟨by rw[hF];rfl,fun m hm=>(by rw[hF]at hm;cases hm),hend7⟩
     | some m7=>
      have hle7:=aQ2 d _ _ _ he;simp only[n3,n9,simprocAttr,h18];exact⟨(k+1,m7),by simp only[];omega,by simp only[];rw[B1 k (by have:=bx4 l;omega)],by simp only[];omega,by simp only[];rw[hstep,hK,ht];exact he,by simp only[];omega,by simp only[];omega,hr7 m7 he,hend7⟩
   ·have hge:k=l.length:=by simp at hc;omega
    subst hge;simp only[n3,simprocAttr];refine n7 results148 ?_;simp only[p6,simprocAttr];rw[ew5]at hfold;have hF:I5 (d+1) l n=some m:=by rw[aL1];exact hfold
    exact⟨by rw[hF];rfl,fun m' hm=>by rw[hF]at hm;cases hm;exact hc1,hx1⟩
theorem cr3:B9 prog 200 []=some (.agg #[.int .i64 0]):=by
 simp[B9,cH4,J5,Instr.fill]
theorem da8(w:World):∃gb w',(Instr.box 200 (.agg #[.int .i64 0])).run prog w = .ok (.pointer (some ⟨gb,0,none⟩)) w'∧o6 w w'∧w'.heap[gb]?=some (.cells #[.int .i64 0] 200 (0,0))∧w.heap.size≤gb:=
 ⟨_,_,rfl,o6.alloc _ _,ez5 w _,ew8 _⟩
theorem bY9(v:Value)(p:Pg)(w:World)(hv:SV (d7 w) v p)(hwt:C8 p≤1000000):Calls prog 101 #[v] w fun e w'=>∃u,e = .returned u∧(u = .bool (N1 p)∧o6 w w'):=by
 refine d9 (args:=[v]) hm func101 rfl (by kernel_rfl) (by show 1≤_;decide +kernel) ?_;obtain⟨a,w1,hbx,hx,ha⟩:=U0 hv (i4 _);obtain⟨vg,vp,hg,hp,ld,sd⟩:=ha.pg;have l1:=ld w1 (i4 _);have hS1:=hg.isS;have hn1:=hg.vlen;have hS2:=hp.isS;have hn2:=hp.vlen;have c1:decide ((16:Int)<((p.globals.length:Nat):Int)) = !decide (p.globals.length≤16):=by
  rw[←decide_not];exact ez8.2 (by omega)
 have c2:decide ((16:Int)<((p.procs.length:Nat):Int)) = !decide (p.procs.length≤16):=by
  rw[←decide_not];exact ez8.2 (by omega)
 cases h1:decide (p.globals.length≤16)
 ·rw[h1]at c1;simp only[n3,n9,simprocAttr,hbx,l1,hS1,hn1,c1];refine n7 results101 ?_;simp only[p6,simprocAttr];exact⟨by rw[N1,h1];rfl,hx⟩
 cases h2:decide (p.procs.length≤16)
 ·rw[h1]at c1;rw[h2]at c2;simp only[n3,n9,simprocAttr,hbx,l1,hS1,hn1,hS2,hn2,c1,c2];refine n7 results101 ?_;simp only[p6,simprocAttr];exact⟨by rw[N1,h1,h2];rfl,hx⟩
 rw[h1]at c1;rw[h2]at c2;simp only[n3,n9,simprocAttr,hbx,l1,hS1,hn1,hS2,hn2,c1,c2];refine D1 bT1 (aF5 vg p.globals _ hg (by have:=ev6 h1;omega)) ?_;cases h3:Z9 p.globals
 ·simp only[n3,n9,simprocAttr];refine n7 results101 ?_;simp only[p6,simprocAttr];exact⟨by rw[N1,h1,h2,h3];rfl,hx⟩
 obtain⟨gb,w3,hbl,hx3,hc3,hge⟩:=da8 w1;have hgn:d7 w1 gb=none:=bd2 hge;have l3:=ld w3 (b7 hx3);have hF:N1 p=(p.procs.foldlM (fun n f=>S6 f n) 0).isSome:=by rw[N1,h1,h2,h3];rfl
 simp only[n3,n9,simprocAttr,cr3,hbl,l3,hS2,hn2];refine n8 [3,27,28] (σ:=Nat×Int) (fun s f w'=>f 29 = .int .i64 s.1∧s.1≤p.procs.length∧(p.procs.take s.1).foldlM (fun n f=>S6 f n) 0=some s.2∧0≤s.2∧s.2≤200∧w'.heap[gb]?=some (.cells #[.int .i64 s.2] 200 (0,0))∧o9 (fun b=>b=gb) w1 w') (fun s=>p.procs.length-s.1) (0,0) (by decide +kernel) ?_ ?_
 ·simp only[p6,simprocAttr];exact⟨by trivial,ew4 _,by simp,by simp,by simp,hc3,hx3.weaken fun _ _ h=>h.elim⟩
 ·rintro⟨k,m⟩ f w4 hk ⟨h29,hkl,hfold,hm0,hm2,hc4,hx4⟩;simp only at h29 hkl hfold hm0 hm2 hc4;simp only[ev4,p6,simprocAttr]at hk;obtain⟨e3,e27,e28,_⟩:=hk;have hext:∀w',o9 (fun b=>b=gb) w1 w'→o6 w w':=fun w' h=>hx.trans (o9.ext_of (o9.refl _) h fun b hb=>by subst hb;exact hge);simp only[n3,n9,simprocAttr,h29,e28];refine i5 (fun hc=>?_) (fun hc=>?_)
  ·have hlt:k<p.procs.length:=by simpa using hc
   have hin:=hp.inS hlt;have hhw:B4 (d7 w1) (d7 w4):=K6 (i4 _) hx4 fun b hb=>by subst hb;exact hgn
   have hgl:gb<w4.heap.size:=(ev9.1 hc4).1;have hNl:∀b,b=gb→b<w4.heap.size:=fun b hb=>by subst hb;exact hgl
   obtain⟨sv,hsv,hld⟩:=G1 (P:=prog) (t:=53) hp hhw (ev2 hlt) ao0 ao4 ao1 O1;rw[O1]at hld;have hstep:=aY5 (fun n f=>S6 f n) p.procs 0 hlt hfold;have hnone:=aY4 (fun n f=>S6 f n) p.procs 0 hlt hfold;have hws:T8 p.procs[k]≤1000000:=ew0 (al2 (ew2 hlt)) (by unfold C8 at hwt;omega);generalize p.procs[k]=q at hsv hstep hnone hws;obtain⟨b,wz,w5,hal,hst,hx5,hat⟩:=dY6 (P:=prog) (T:=53) (N:=fun b=>b=gb) hsv (cv7 hhw fun b hb=>by subst hb;exact hgn) hNl cI8 rfl O1;obtain⟨va,vv,vb,ve,hra,hrv,hrb,hre,ldq,_⟩:=hat.pr;have hno:B4 (B5 w5 fun b=>b=gb) (d7 w5):=C0 _ _;have l5:=ldq w5 hno;have hx15:o9 (fun b=>b=gb) w1 w5:=hx4.trans (hx5.weaken fun _ _ h=>h.elim);have hend:=hext w5 hx15;have hSa:=hra.isS;have hna:=hra.vlen;have hSv:=hrv.isS;have hnv:=hrv.vlen;have bad:S6 q m=none→N1 p=false:=fun h=>by rw[hF,hnone h];rfl
   unfold T8 at hws;have b1':decide ((8:Int)<((q.params.length:Nat):Int))=decide (8<q.params.length):=ez8.2 (by omega);have b2':decide ((16:Int)<((q.vars.length:Nat):Int))=decide (16<q.vars.length):=ez8.2 (by omega);cases b1:decide (8<q.params.length)
   case true=>
    rw[b1]at b1';simp only[n3,n9,p9,simprocAttr,h29,e27,hin,hld,hal,hst,l5,hSa,hna,b1'];refine n7 results101 ?_;simp only[p6,simprocAttr];exact⟨by rw[bad (by rw[S6,if_pos (.inl (ev6 b1))])],hend⟩
   rw[b1]at b1';cases b2:decide (16<q.vars.length)
   case true=>
    rw[b2]at b2';simp only[n3,n9,p9,simprocAttr,h29,e27,hin,hld,hal,hst,l5,hSa,hna,hSv,hnv,b1',b2'];refine n7 results101 ?_;simp only[p6,simprocAttr];exact⟨by rw[bad (by rw[S6,if_pos (.inr (.inl (ev6 b2)))])],hend⟩
   rw[b2]at b2';simp only[n3,n9,p9,simprocAttr,h29,e27,hin,hld,hal,hst,l5,hSa,hna,hSv,hnv,b1',b2'];refine D1 bA2 (az9 q.name _) ?_;cases b3:N9 q.name
   ·simp only[n3,n9,simprocAttr];refine n7 results101 ?_;simp only[p6,simprocAttr];exact⟨by rw[bad (by rw[S6,if_pos (.inr (.inr (.inl b3)))])],hend⟩
   simp only[n3,n9,simprocAttr,l5];refine D1 bT1 (aF5 vv q.vars _ (z7.mono hno hrv) (by have:=S8 q.vars;omega)) ?_;cases b4:Z9 q.vars
   ·simp only[n3,n9,simprocAttr];refine n7 results101 ?_;simp only[p6,simprocAttr];exact⟨by rw[bad (by rw[S6,if_pos (.inr (.inr (.inr (.inl b4))))])],hend⟩
   simp only[n3,n9,simprocAttr,l5];refine D1 bT1 (aF5 ve q.fin _ (z7.mono hno hre) (by have:=S8 q.fin;omega)) ?_;cases b5:Z9 q.fin
   ·simp only[n3,n9,simprocAttr];refine n7 results101 ?_;simp only[p6,simprocAttr];exact⟨by rw[bad (by rw[S6,if_pos (.inr (.inr (.inr (.inr (.inl b5)))))])],hend⟩
   have hpl:=af3 q.params;simp only[n3,n9,simprocAttr,l5,hSa,hna];refine n8 [3,5,27,28,29,62,63] (σ:=Nat) (fun j f w'=>f 64 = .int .i64 j∧j≤q.params.length∧(q.params.take j).all (fun a=>N9 a.name)=true∧o6 w5 w') (fun j=>q.params.length-j) 0 (by decide +kernel) ?_ ?_
   ·simp only[p6,simprocAttr];exact⟨by trivial,ew4 _,by simp,o9.refl _⟩
   ·rintro j f7 w7 hk ⟨h64,hjl,hall,hx7⟩;simp only[ev4,p6,simprocAttr]at hk;obtain⟨g3,g5,g27,g28,g29,g62,g63,_⟩:=hk;rw[e3]at g3;rw[e27]at g27;rw[e28]at g28;rw[h29]at g29;have hx17:o9 (fun b=>b=gb) w1 w7:=hx15.trans (hx7.weaken fun _ _ h=>h.elim);simp only[n3,n9,simprocAttr,h64,g63];refine i5 (fun hc=>?_) (fun hc=>?_)
    ·have hjt:j<q.params.length:=by simpa using hc
     have hjn:=hra.inS hjt;obtain⟨sa,hsa,hlda⟩:=G1 (P:=prog) (t:=69) hra (p8 hno (b7 hx7)) (ev2 hjt) bb1 bb6 bb4 ao3;rw[ao3]at hlda;have htk:=aE0 (fun a:Pa=>N9 a.name) q.params j hjt;have hmem:=ew2 hjt;generalize q.params[j]=y at hsa htk hmem;obtain⟨c,wy,w8,hal8,hst8,hx8,hat8⟩:=aG6 (hsa.mono (p8 hno (b7 hx7))) (i4 _);obtain⟨ld8,_⟩:=hat8.pa;have l8:=ld8 w8 (i4 _);simp only[n3,n9,p9,simprocAttr,h64,g62,hjn,hlda,hal8,hst8,l8];refine D1 bA2 (az9 y.name _) ?_;cases b6:N9 y.name
     ·simp only[n3,n9,simprocAttr];refine n7 results101 ?_;simp only[p6,simprocAttr];refine⟨by rw[bad (by rw[S6,if_pos (.inr (.inr (.inr (.inr (.inr (au6 (p:=fun a:Pa=>N9 a.name) hmem b6))))))])],hext _ (hx17.trans (hx8.weaken fun _ _ h=>h.elim))⟩
     ·simp only[n3,n9,simprocAttr,h64];exact⟨j+1,by omega,by rw[B1 j (by omega)],by omega,by rw[htk,hall,b6];rfl,hx7.trans hx8⟩
    ·have hjge:j=q.params.length:=by simp at hc;omega
     subst hjge;rw[ew5]at hall;have hc7:w7.heap[gb]?=some (.cells #[.int .i64 m] 200 (0,0)):=((hx5.trans hx7).block gb hgl id).trans hc4;have l7:=ldq w7 (p8 hno (b7 hx7));have hpf:S6 q m=I5 12 q.body m:=by
      rw[S6,if_neg];have d1:=ev7 b1;have d2:=ev7 b2;rintro(h|h|h|h|h|h)
      ·exact d1 h
      ·exact d2 h
      ·rw[b3]at h;cases h
      ·rw[b4]at h;cases h
      ·rw[b5]at h;cases h
      ·rw[hall]at h;cases h
     simp only[n3,n9,simprocAttr,g3,g5,l7];refine y5 cw6 (bk3 12 q.body m vb _ gb w7 (by omega) (p8 hno (b7 hx7)) (H8 rfl) hc7 hrb (by omega) hm0 hm2) ?_;rintro u w9 ⟨rfl,hr9,hx9⟩;have hx19:=hx17.trans hx9;cases hr:I5 12 q.body m with
     | none=>
      simp only[n3,n9,simprocAttr,Option.isSome_none];refine n7 results101 ?_;simp only[p6,simprocAttr];exact⟨by rw[bad (by rw[hpf,hr])],hext _ hx19⟩
     | some m9=>
      have hle9:=aQ2 _ _ _ _ hr;simp only[n3,n9,simprocAttr,g29];exact⟨(k+1,m9),by simp only[];omega,by simp only[];rw[B1 k (by have:=ev6 h2;omega)],by simp only[];omega,by simp only[];rw[hstep,hpf,hr],by simp only[];omega,by simp only[];omega,hr9 m9 hr,hx19⟩
  ·have hge:k=p.procs.length:=by simp at hc;omega
   subst hge;simp only[n3,simprocAttr];refine n7 results101 ?_;simp only[p6,simprocAttr];rw[ew5]at hfold;exact⟨by rw[hF,hfold];rfl,hext _ hx4⟩
theorem bl0:∀(l:List Pr) (s:Sh) (i:Nat),∃L lo hi,G2 s i l=⟨s.p,s.l++L,s.lo++lo,s.hi++hi⟩
 | [],s,i=>⟨[],[],[],by simp[G2]⟩
 | f::l,s,i=>by
  obtain⟨L,lo,hi,e⟩:=bl0 l (E6 s i f) (i+1);refine⟨C4 f.body s.l.length i 0 (-1) 0++L,((s.l.length:Int)+1)::lo,((s.l.length:Int)+(A7 f.body:Nat)+1)::hi,?_⟩;rw[G2,e];simp[E6,G0]
theorem cC1(p:Pg)(i:Nat)(hi:i<p.procs.length):∃x:Nat,(b9 p).lo[i]?=some ((x:Int)+1)∧(b9 p).hi[i]?=some ((x:Int)+(A7 p.procs[i].body:Nat)+1) ∧
  ((b9 p).l.drop x).take (A7 p.procs[i].body)=C4 p.procs[i].body x i 0 (-1) 0∧x+A7 p.procs[i].body≤(b9 p).l.length:=by
 have hsplit:p.procs=p.procs.take i++(p.procs[i]::p.procs.drop (i+1)):=by
  have:=eA3 i p.procs;rw[ez4 hi]at this;exact this.symm
 obtain⟨G,hG⟩:∃G,G2 ⟨p,[],[],[]⟩ 0 (p.procs.take i)=G:=⟨_,rfl⟩;have hlo:=aV2 (p.procs.take i) ⟨p,[],[],[]⟩ 0;rw[hG,ew6,eB8 (Nat.le_of_lt hi)]at hlo;simp only[eB7,ey7]at hlo;obtain⟨L,lo,hi',e⟩:=bl0 (p.procs.drop (i+1)) (E6 G i p.procs[i]) (i+1);have hF:b9 p=⟨(E6 G i p.procs[i]).p,(E6 G i p.procs[i]).l++L,(E6 G i p.procs[i]).lo++lo,(E6 G i p.procs[i]).hi++hi'⟩:=by
  rw[←e];unfold b9
  conv=>lhs;rw[hsplit]
  rw[aL2,hG,ew6,eB8 (Nat.le_of_lt hi),G2,ey7]
 rw[hF];refine⟨G.l.length,?_,?_,?_,?_⟩
 ·simp only[E6,ex9];rw[ez6 (by omega),hlo.1];simp
 ·simp only[E6,ex9];rw[ez6 (by omega),hlo.2,G0];simp
 ·simp only[E6,ex9];rw[List.drop_left,←G0 p.procs[i].body G.l.length i 0 (-1) 0,eE4]
 ·simp only[E6,ev5,G0];omega
theorem at7(p:Pg):(b9 p).l.length=bF0 p:=by
 unfold b9 bF0;rw[aw7];simp
theorem I6(p:Pg):(b9 p).p=p:=by
 unfold b9;rw[aQ6]
theorem by7(p:Pg):3*bF0 p≤C8 p:=by
 have:=bd0 p.procs;unfold C8 bF0;omega
theorem V0(p:Pg)(hw:C8 p≤1000000)(i:Nat)(hi:i<p.procs.length):∃x:Nat,bn9 (b9 p) i x (x+A7 p.procs[i].body)∧(b9 p).of i=C4 p.procs[i].body x i 0 (-1) 0:=by
 obtain⟨x,h1,h2,h3,h4⟩:=cC1 p i hi;have h5:=at7 p;have h6:=by7 p;have hok:bn9 (b9 p) i x (x+A7 p.procs[i].body):=⟨h1,by rw[h2];congr 1,by omega,h4,by omega⟩;refine⟨x,hok,?_⟩;rw[hok.of_,List.drop_take,Nat.add_sub_cancel_left];exact h3
mutual
theorem cj8:∀(t:St) (k:Nat) (pr up nx lp:Int),∀it∈U7 t k pr up nx lp,O5 it.s≤O5 t
 | .mk id kind labels name proc x has args thn els,k,pr,up,nx,lp,it,h=>by
  rw[P2]at h;rcases ex3.1 h with rfl|h
  ·exact ew8 _
  ·rw[O5];rcases ew7.1 h with h|h
   ·have:=av2 thn _ _ _ _ _ it h;omega
   ·have:=av2 els _ _ _ _ _ it h;omega
theorem av2:∀(l:List St) (k:Nat) (pr up nx lp:Int),∀it∈C4 l k pr up nx lp,O5 it.s≤G6 l
 | [],_,_,_,_,_,it,h=>by simp[C4]at h
 | t::l,k,pr,up,nx,lp,it,h=>by
  rw[C4]at h;rw[G6];rcases ew7.1 h with h|h
  ·have:=cj8 t _ _ _ _ _ it h;omega
  ·have:=av2 l _ _ _ _ _ it h;omega
end
theorem bv5:∀(l:List Pr) (s:Sh) (i:Nat) (W:Nat),(∀it∈s.l,O5 it.s≤W)→(∀f∈l,G6 f.body≤W)→∀it∈(G2 s i l).l,O5 it.s≤W
 | [],s,i,W,h1,h2,it,h=>h1 it h
 | f::l,s,i,W,h1,h2,it,h=>by
  rw[G2]at h;refine bv5 l _ _ W (fun it h=>?_) (fun g hg=>h2 g (eB5 _ hg)) it h;simp only[E6]at h;rcases ew7.1 h with h|h
  ·exact h1 it h
  ·exact ew0 (av2 _ _ _ _ _ _ it h) (h2 f (by simp))
theorem ac7(p:Pg)(hw:C8 p≤1000000):∀it∈(b9 p).l,O5 it.s≤1000000:=by
 refine bv5 _ _ _ _ (fun it h=>by cases h) fun f hf=>?_;have:=al2 hf;unfold C8 at hw;unfold T8 at this;omega
theorem an6(p:Pg)(hw:C8 p≤1000000):∀f∈p.procs,T8 f≤1000000:=fun f hf=>by
 have:=al2 hf;unfold C8 at hw;omega
theorem bI3{α β:Type}(g:α→β)(p:β→Bool):∀(l:List α) (i:Nat),V5 p i (l.map g)=V5 (fun x=>p (g x)) i l
 | [],i=>rfl
 | x::l,i=>by simp only[ez9,V5,bI3 g p l]
theorem bT2{α:Type}{p q:α→Bool}(h:∀x,p x=q x)(l:List α)(i:Nat):V5 p i l=V5 q i l:=by
 rw[show p=q from funext h]
theorem ex4:type_of% @List.contains_iff_mem:=@List.contains_iff_mem
theorem eE3:type_of% @List.drop_zero:=@List.drop_zero
theorem ey1:type_of% @List.mem_singleton:=@List.mem_singleton
theorem eA4:type_of% @List.nodup_append:=@List.nodup_append
theorem cP5(v:Value)(q:Pr)(w:World)(hv:SV (d7 w) v q)(hw:T8 q≤1000000):Calls prog 151 #[v] w fun e w'=>∃u,e = .returned u∧(A9 (d7 w) w' 9 u (bc2 q)∧o6 w w'):=by
 refine d9 (args:=[v]) hm func151 rfl (by kernel_rfl) (by show 1≤_;decide +kernel) ?_;obtain⟨a,w1,hbx,hx1,ha⟩:=bc8 hv (i4 _);obtain⟨va,vv,vb,vf,hra,hrv,_,_,ld,_⟩:=ha.pr;have l1:=ld w1 (i4 _);have hSa:=hra.isS;have hna:=hra.vlen;have hpl:=af3 q.params;have hvl:=S8 q.vars;unfold T8 at hw;simp only[n3,n9,simprocAttr,hbx,l1,hSa,hna];refine n8 [1,7,8] (σ:=Nat×Value) (fun s f w'=>f 9 = .int .i64 s.1∧f 3=s.2∧s.1≤q.params.length∧A9 (d7 w1) w' 9 s.2 ((q.params.take s.1).map (·.name))∧o6 w1 w') (fun s=>q.params.length-s.1) (0,.slice none 0 0) (by decide +kernel) ?_ ?_
 ·simp only[p6,simprocAttr];exact⟨by trivial,by trivial,ew4 _,by simpa using A9.nil _ _ _,o9.refl _⟩
 ·rintro⟨k,u⟩ f w2 hk ⟨h9,h3,hkl,ho,hx2⟩;simp only at h9 h3 hkl ho;simp only[ev4,p6,simprocAttr]at hk;obtain⟨e1,e7,e8,_⟩:=hk;simp only[n3,n9,simprocAttr,h9,e8];refine i5 (fun hc=>?_) (fun hc=>?_)
  ·have hlt:k<q.params.length:=by simpa using hc
   have hin:=hra.inS hlt;obtain⟨sv,hsv,hld⟩:=G1 (P:=prog) (t:=69) hra (b7 hx2) (ev2 hlt) bb1 bb6 bb4 ao3;rw[ao3]at hld;have htk:(q.params.take (k+1)).map (·.name)=(q.params.take k).map (·.name)++[q.params[k].name]:=by
    rw[ew1 hlt,ey5];rfl
   generalize q.params[k]=y at hsv htk;obtain⟨b,wz,w3,hal,hst,hx3,hat⟩:=aG6 (hsv.mono (b7 hx2)) (i4 _);obtain⟨ldy,_⟩:=hat.pa;have l3:=ldy w3 (i4 _);have ho3:=ho.ext hx3;have hx13:=hx2.trans hx3;obtain⟨p1,u',w4,p2,p3,p4,p5⟩:=push (e:=22) aq8 rfl ho3 (x:=o7 y.name) (y:=y.name) rfl (by simp;omega) (by simp;omega) (b7 hx13);simp only[n3,n9,p9,simprocAttr,h9,h3,e7,hin,hld,hal,hst,l3,p1,p2];exact⟨(k+1,u'),by simp only[];omega,by simp only[];rw[B1 k (by omega)],by trivial,by simp only[];omega,by simp only[];rw[htk];exact p3,ho3.ext2 hx13 p4⟩
  ·have hge:k=q.params.length:=by simp at hc;omega
   subst hge;rw[ew5]at ho;have l2:=ld w2 (b7 hx2);obtain⟨u',w4,c1,c2,c3,c4⟩:=ag8 (P:=prog) (e:=22) aq8 ho hrv (b7 hx2) (by simp;omega) (by simp;omega) (b7 hx2);simp only[n3,n9,simprocAttr,h3,e1,l2,c1];refine n7 results151 ?_;simp only[p6,simprocAttr];exact⟨c2.back hx1,hx1.trans (ho.ext2 hx2 c3)⟩
theorem aV9(v:Value)(l:List A4)(w:World)(hv:R (d7 w) v l)(hl:l.length≤1000000000):Calls prog 150 #[v] w fun e w'=>∃u,e = .returned u∧(u = .bool (X8 l)∧w'=w):=by
 refine d9 (args:=[v]) hm func150 rfl (by kernel_rfl) (by show 1≤_;decide +kernel) ?_;have hS:=hv.isS;have hn:=hv.vlen;have hvc:=hv.vcap;simp only[n3,n9,simprocAttr,hS,hn];refine n8 [0,5,6] (σ:=Nat) (fun k f w'=>f 7 = .int .i64 k∧k≤l.length∧(l.take k).Nodup∧w'=w) (fun k=>l.length-k) 0 (by decide +kernel) ?_ ?_
 ·simp only[p6,simprocAttr];exact⟨by trivial,ew4 _,by simp,by trivial⟩
 ·rintro k f w' hk ⟨h7,hkl,hno,rfl⟩;simp only[ev4,p6,simprocAttr]at hk;obtain⟨e0,e5,e6,_⟩:=hk;simp only[n3,n9,simprocAttr,h7,e6];refine i5 (fun hc=>?_) (fun hc=>?_)
  ·have hlt:k<l.length:=by simpa using hc
   have hin:=hv.inS hlt;have hld:=ldS hv (i4 _) hlt;have hsub:=bE1 hv (ew4 k) (Nat.le_of_lt hlt);rw[eE3]at hsub;have c2:decide ((k:Int)≤(vcap v:Int))=true:=by simp;omega
   have hz:z7.sz A4=1:=rfl;rw[hz]at hsub;simp only[n3,n9,p9,F8,simprocAttr,h7,e0,e5,hin,hld,hS,c2];refine D1 ac2 (N8 _ (l.take k) l[k] _ hsub (by rw[ew6];omega)) ?_;cases hq:(l.take k).contains l[k]
   ·simp only[n3,n9,simprocAttr,h7];refine⟨k+1,by omega,by rw[B1 k (by omega)],by omega,?_,by trivial⟩;rw[ew1 hlt,eA4];refine⟨hno,by simp,fun a ha b hb=>?_⟩;simp only[ey1]at hb;subst hb;intro e;subst e;have:=ex4.2 ha;rw[hq]at this;cases this
   ·simp only[n3,simprocAttr];refine n7 results150 ?_;simp only[p6,simprocAttr];refine⟨?_,by trivial⟩;have:¬l.Nodup:=fun hnd=>by
     have hsp:l=l.take k++(l[k]::l.drop (k+1)):=by
      have:=eA3 k l;rw[ez4 hlt]at this;exact this.symm
     have hnd2:=hnd;rw[hsp,eA4]at hnd2;exact hnd2.2.2 _ (ex4.1 hq) _ List.mem_cons_self rfl
    simp[X8,this]
  ·have hge:k=l.length:=by simp at hc;omega
   subst hge;simp only[n3,simprocAttr];refine n7 results150 ?_;simp only[p6,simprocAttr];rw[ew5]at hno;exact⟨by simp[X8,hno],by trivial⟩
theorem dd5:af6 prog 215=true:=by kernel_rfl
theorem eh6:af6 prog 216=true:=by kernel_rfl
theorem cy5(vp vq:Value)(p:Pg)(q:Pr)(n:A4)(w:World)(hp:SV (d7 w) vp p)(hq:SV (d7 w) vq q)(hwp:C8 p≤1000000)(hwq:T8 q≤1000000):
  Calls prog 216 #[vp,vq,o7 n] w fun e w'=>∃u,e = .returned u∧(u = .int .i64 (ay5 p q n)∧o6 w w'):=by
 refine d9 (args:=[vp,vq,o7 n]) hm func216 rfl (by kernel_rfl) (by show 3≤_;decide +kernel) ?_;obtain⟨a,w1,hb1,hx1,ha1⟩:=U0 hp (i4 _);obtain⟨b,w2,hb2,hx2,ha2⟩:=bc8 (hq.mono (b7 hx1)) (i4 _);obtain⟨vg,_,hg,_,ldp,_⟩:=ha1.pg;obtain⟨va,vv,_,_,hra,hrv,_,_,ldq,_⟩:=ha2.pr;have l2:=ldq w2 (i4 _);have hSa:=hra.isS;have hna:=hra.vlen;have hpl:=af3 q.params;have hvl:=S8 q.vars;have hgl:=S8 p.globals;unfold T8 at hwq;unfold C8 at hwp;have hx12:=hx1.trans hx2;simp only[n3,n9,simprocAttr,hb1,hb2,l2,hSa,hna];refine n8 [2,3,4,10,11] (σ:=Nat) (fun k f w'=>f 12 = .int .i64 k∧k≤q.params.length∧(∀j (hj:j<q.params.length),j<k→decide (q.params[j].name=n)=false)∧o6 w2 w') (fun k=>q.params.length-k) 0 (by decide +kernel) ?_ ?_
 ·simp only[p6,simprocAttr];exact⟨by trivial,ew4 _,fun j _ h=>by omega,o9.refl _⟩
 ·rintro k f w3 hk ⟨h12,hkl,hno,hx3⟩;simp only[ev4,p6,simprocAttr]at hk;obtain⟨e2,e3,e4,e10,e11,_⟩:=hk;simp only[n3,n9,simprocAttr,h12,e11];refine i5 (fun hc=>?_) (fun hc=>?_)
  ·have hlt:k<q.params.length:=by simpa using hc
   have hin:=hra.inS hlt;obtain⟨sv,hsv,hld⟩:=G1 (P:=prog) (t:=69) hra (b7 hx3) (ev2 hlt) bb1 bb6 bb4 ao3;rw[ao3]at hld;obtain⟨c,wz,w4,hal,hst,hx4,hat⟩:=aG6 (hsv.mono (b7 hx3)) (i4 _);obtain⟨ldy,_⟩:=hat.pa;have l4:=ldy w4 (i4 _);have hend:=hx12.trans (hx3.trans hx4);cases hq1:decide (q.params[k].name=n)
   ·simp only[n3,n9,p9,simprocAttr,h12,e2,e10,hin,hld,hal,hst,l4,hq1];refine⟨k+1,by omega,by rw[B1 k (by omega)],by omega,fun j hj hjk=>?_,hx3.trans hx4⟩;rcases ez0 j k with h|h
    ·exact hno j hj h
    ·obtain rfl:j=k:=by omega
     exact hq1
   ·have hfind:q.params.find? (fun a=>decide (a.name=n))=some q.params[k]:=eD5.2 ⟨hq1,k,hlt,rfl,fun j hj=>by rw[hno j (by omega) hj];rfl⟩;cases hr:q.params[k].ref
    ·simp only[n3,n9,p9,simprocAttr,h12,e2,e10,hin,hld,hal,hst,l4,hq1,hr];refine n7 results216 ?_;simp only[p6,simprocAttr];exact⟨by rw[ay5,hfind];simp only[hr];rfl,hend⟩
    ·simp only[n3,n9,p9,simprocAttr,h12,e2,e10,hin,hld,hal,hst,l4,hq1,hr];refine n7 results216 ?_;simp only[p6,simprocAttr];exact⟨by rw[ay5,hfind];simp only[hr];rfl,hend⟩
  ·have hge:k=q.params.length:=by simp at hc;omega
   subst hge;have hfind:q.params.find? (fun a=>decide (a.name=n))=none:=eE9.2 fun it hit=>by
    obtain⟨j,hj,rfl⟩:=eA8.1 hit;rw[hno j hj hj];simp
   have hF:ay5 p q n=if q.vars.contains n then 4 else if p.globals.contains n then 1 else 0:=by rw[ay5,hfind]
   have l3:=ldq w3 (b7 hx3);have lp3:=ldp w3 (b7 (hx2.trans hx3));simp only[n3,n9,simprocAttr,e2,e4,l3];refine D1 ac2 (N8 vv q.vars n w3 (z7.mono (b7 hx3) hrv) (by omega)) ?_;cases h1:q.vars.contains n
   ·simp only[n3,n9,simprocAttr,e2,e3,lp3];refine D1 ac2 (N8 vg p.globals n w3 (z7.mono (b7 (hx2.trans hx3)) hg) (by omega)) ?_;cases h2:p.globals.contains n
    ·simp only[n3,simprocAttr];refine n7 results216 ?_;simp only[p6,simprocAttr];exact⟨by rw[hF,h1,h2];rfl,hx12.trans hx3⟩
    ·simp only[n3,simprocAttr];refine n7 results216 ?_;simp only[p6,simprocAttr];exact⟨by rw[hF,h1,h2];rfl,hx12.trans hx3⟩
   ·simp only[n3,simprocAttr];refine n7 results216 ?_;simp only[p6,simprocAttr];exact⟨by rw[hF,h1];rfl,hx12.trans hx3⟩
theorem ba6(t:St):(I3 t).length≤O5 t:=by
 rw[P8];have h1:=aa1 t.x;have h2:=L7 t.args;have h3:1≤wtT t.name:=by simp[wtT]
 have h4:(if t.kind≠10∧t.name≠e0 then[t.name]else[]).length≤1:=by split<;>simp
 unfold I3;rw[ev5,ev5];omega
theorem cl1(vp vq vl vt:Value)(p:Pg)(q:Pr)(procs:List A4)(t:St)(w:World)(hp:SV (d7 w) vp p)(hq:SV (d7 w) vq q)(hl:R (d7 w) vl procs)(ht:SV (d7 w) vt t)(hwp:C8 p≤1000000)(hwq:T8 q≤1000000)(hwt:O5 t≤1000000)(hll:procs.length≤1000000):
  Calls prog 154 #[vp,vq,vl,vt] w fun e w'=>∃u,e = .returned u∧(u = .bool (ac3 p q procs t)∧o6 w w'):=by
 refine d9 (args:=[vp,vq,vl,vt]) hm func154 rfl (by kernel_rfl) (by show 4≤_;decide +kernel) ?_;obtain⟨a,w1,hb1,hx1,ha1⟩:=ab7 (w:=w) (fun _=>False) hp (fun _ h=>h.elim);obtain⟨b,w2,hb2,hx2,ha2⟩:=cL5 (w:=w1) (fun _=>False) (hq.mono (b7 hx1)) (fun _ h=>h.elim);obtain⟨c,w3,hb3,hx3,ha3⟩:=ca1 (w:=w2) (fun _=>False) (ht.mono (b7 (hx1.trans hx2))) (fun _ h=>h.elim);obtain⟨ldP,_⟩:=L8.pg_v hp ha1;obtain⟨ldQ,_⟩:=L8.pr_v hq ha2;obtain⟨ldT,_⟩:=L8.st_v ht ha3;obtain⟨_,_,_,_,_,_,_,_,_,_,_,ldt,_⟩:=L8.st ht ha3;have hx13:=hx1.trans (hx2.trans hx3);have lT3:=ldT w3 (C0 _ _);have hlen:(I3 t).length≤1000000:=ew0 (ba6 t) hwt;simp only[n3,n9,simprocAttr,hb1,hb2,hb3,lT3];refine y5 dd5 (ba5 vt t w3 (ht.mono (b7 hx13)) hwt) ?_;rintro u w4 ⟨ho,hx4⟩;have hu:=ho.rw_ (b7 hx4);have hSu:=hu.isS;have hnu:=hu.vlen;have hx14:=hx13.trans hx4;have key:(I3 t).all (fun n=>!decide (ay5 p q n=0))=false→ac3 p q procs t=false:=fun h=>by rw[ac3,h];rfl
 have key2:(I3 t).all (fun n=>!decide (ay5 p q n=0))=true→ac3 p q procs t=(!decide (t.kind=4)||(!decide (t.proc=Q4)&&procs.contains t.proc)):=fun h=>by rw[ac3,h];rfl
 generalize I3 t=l at hu hSu hnu hlen key key2;simp only[n3,n9,simprocAttr,hSu,hnu];refine n8 [2,4,5,7,12,13] (σ:=Nat) (fun k f w'=>f 14 = .int .i64 k∧k≤l.length∧(l.take k).all (fun n=>!decide (ay5 p q n=0))=true∧o6 w4 w') (fun k=>l.length-k) 0 (by decide +kernel) ?_ ?_
 ·simp only[p6,simprocAttr];exact⟨by trivial,ew4 _,by simp,o9.refl _⟩
 ·rintro k f w5 hk ⟨h14,hkl,hall,hx5⟩;simp only[ev4,p6,simprocAttr]at hk;obtain⟨e2,e4,e5,e7,e12,e13,_⟩:=hk;have hx15:=hx14.trans hx5;simp only[n3,n9,simprocAttr,h14,e13];refine i5 (fun hc=>?_) (fun hc=>?_)
  ·have hlt:k<l.length:=by simpa using hc
   have hin:=hu.inS hlt;have hld:=ldS hu (b7 hx5) hlt;have htk:=aE0 (fun n=>!decide (ay5 p q n=0)) l k hlt;have hmem:=ew2 hlt;generalize l[k]=n at hld htk hmem;have lP:=ldP w5 (p8 (C0 _ _) (b7 (hx2.trans (hx3.trans (hx4.trans hx5)))));have lQ:=ldQ w5 (p8 (C0 _ _) (b7 (hx3.trans (hx4.trans hx5))));simp only[n3,n9,p9,simprocAttr,h14,e4,e5,e12,hin,hld,lP,lQ];refine B3 eh6 (cy5 vp vq p q n w5 (hp.mono (b7 hx15)) (hq.mono (b7 hx15)) hwp hwq) (fun w6 hx6=>?_);cases hd:decide (ay5 p q n=0)
   ·simp only[n3,n9,simprocAttr,h14,hd];exact⟨k+1,by omega,by rw[B1 k (by omega)],by omega,by rw[htk,hall,hd];rfl,hx5.trans hx6⟩
   ·simp only[n3,n9,simprocAttr,hd];refine n7 results154 ?_;simp only[p6,simprocAttr];exact⟨by rw[key (au6 (p:=fun n=>!decide (ay5 p q n=0)) hmem (by simp only[hd];rfl))],hx15.trans hx6⟩
  ·have hge:k=l.length:=by simp at hc;omega
   subst hge;rw[ew5]at hall;have lt:=ldt w5 (p8 (C0 _ _) (b7 (hx4.trans hx5)));have hF:=key2 hall;cases h1:decide (t.kind=4)
   ·simp only[n3,n9,simprocAttr,e7,lt,h1];refine n7 results154 ?_;simp only[p6,simprocAttr];exact⟨by rw[hF,h1];rfl,hx15⟩
   have hms:decide (t.proc=ofA #[109,97,105,110])=decide (t.proc=Q4):=rfl;cases h2:decide (t.proc=Q4)
   ·simp only[n3,n9,simprocAttr,e2,e7,lt,h1,hms,h2];refine D1 ac2 (N8 vl procs t.proc w5 (z7.mono (b7 hx15) hl) (by omega)) ?_;simp only[n3,simprocAttr];refine n7 results154 ?_;simp only[p6,simprocAttr];exact⟨by rw[hF,h1,h2];rfl,hx15⟩
   ·simp only[n3,n9,simprocAttr,e7,lt,h1,hms,h2];refine n7 results154 ?_;simp only[p6,simprocAttr];exact⟨by rw[hF,h1,h2];rfl,hx15⟩
theorem db9:af6 prog 101=true:=by kernel_rfl
theorem cw8:af6 prog 150=true:=by kernel_rfl
theorem ef4:af6 prog 151=true:=by kernel_rfl
theorem ef5:af6 prog 152=true:=by kernel_rfl
theorem ef6:af6 prog 153=true:=by kernel_rfl
theorem ef7:af6 prog 154=true:=by kernel_rfl
theorem aO1:af6 prog 76=true:=by kernel_rfl
def R7(e:Int×Int):Value:=.agg #[.int .i64 e.1,.int .i64 e.2]
theorem O7(c:Int):B9 prog 113 [(0,.int .i64 c)]=some (R7 (c,0)):=by
 simp[B9,bC9,J5,Instr.fill,Value.cells,R7]
theorem ar8(c a:Int):B9 prog 113 [(0,.int .i64 c),(1,.int .i64 a)]=some (R7 (c,a)):=by
 simp[B9,bC9,J5,Instr.fill,Value.cells,R7]
theorem aE2:B9 prog 113 []=some (R7 (0,0)):=by
 simp[B9,bC9,J5,Instr.fill,R7]
theorem ar6(w:World):∃rb w',(Instr.alloc 113 true (.tuple #[])).run prog w = .ok (.pointer (some ⟨rb,0,none⟩)) w'∧o6 w w'∧w'.heap[rb]?=some (.cells #[.int .i64 0,.int .i64 0] 113 (0,0))∧w.heap.size≤rb:=by
 obtain⟨h1,_⟩:=aT9 (P:=prog) (w:=w) (T:=113) bY0 rfl (cs:=#[.int .i64 0,.int .i64 0]) rfl (by simp[Value.oneCell']);exact⟨_,_,h1,o6.alloc _ _,ez5 w _,ew8 _⟩
theorem ak0{w0 w2 w':World}{rb:Nat}(h0:w2.heap[rb]?=some (.cells #[.int .i64 0,.int .i64 0] 113 (0,0)))(hx:o6 w2 w')(hge:w0.heap.size≤rb)(hx0:o6 w0 w2)(e:Int×Int):
  ∃w'',(Instr.storeAt 113 (.pointer (some ⟨rb,0,none⟩)) (R7 e)).run prog w' = .ok () w''∧(Instr.loadAt 113 (.pointer (some ⟨rb,0,none⟩))).run prog w'' = .ok (R7 e) w''∧o6 w0 w'':=by
 have h1:=(hx.block rb (ev9.1 h0).1 id).trans h0;obtain⟨w'',s1,s2,s3⟩:=ap1 (P:=prog) (cs:=#[.int .i64 e.1,.int .i64 e.2]) h1 bY0 rfl rfl (by simp[Value.oneCell']);refine⟨w'',s1,?_,o9.ext_of (hx0.trans hx) s3 fun b hb=>by subst hb;exact hge⟩;exact ab6 s2 bX1 bX9 bX3 (by rw[bX6];rfl)
theorem bT4(n:A4)(a:Addr)(p:Pg)(w:World)(ha:At (d7 w) a p)(hl:p.globals.length≤1000000):Calls prog 153 #[o7 n,.pointer (some a)] w fun e w'=>∃u,e = .returned u∧(u = .bool (p.globals.contains n)∧o6 w w'):=by
 refine d9 (args:=[o7 n,.pointer (some a)]) hm func153 rfl (by kernel_rfl) (by show 2≤_;decide +kernel) ?_;obtain⟨vg,_,hg,_,ld,_⟩:=ha.pg;have l1:=ld w (i4 _);simp only[n3,n9,simprocAttr,l1];refine D1 ac2 (N8 vg p.globals n w hg (by omega)) ?_;simp only[n3,simprocAttr];refine n7 results153 ?_;simp only[p6,simprocAttr];exact⟨by trivial,o9.refl _⟩
theorem ac6(v:Value)(p:Pg)(w:World)(hv:SV (d7 w) v p)(hw:C8 p≤1000000):Calls prog 102 #[v] w fun e w'=>∃u,e = .returned u∧(u=R7 (L4 p)∧o6 w w'):=by
 refine d9 (args:=[v]) hm func102 rfl (by kernel_rfl) (by show 1≤_;decide +kernel) ?_;obtain⟨a,w1,hbx,hx1,ha⟩:=ab7 (w:=w) (fun _=>False) hv (fun _ h=>h.elim);obtain⟨vg,vp,hg,hp,ld,_⟩:=L8.pg hv ha;obtain⟨lw,_⟩:=L8.pg_v hv ha;obtain⟨rb,w2,hal,hx2,hrb,hge1⟩:=ar6 w1;have hge:w.heap.size≤rb:=ew0 hx1.size hge1;have hx12:=hx1.trans hx2;have ha2:∀w',o6 w2 w'→At (d7 w') a p:=fun w' h=>by
  obtain⟨cs,e,hc⟩:=ha;obtain⟨cs2,e2,he⟩:=hv;subst e;obtain rfl:=ai5 e2;exact⟨cs2,z7.mono (b7 (hx12.trans h)) he,fun j u hj=>F9 (p8 (C0 _ _) (b7 (hx2.trans h))) (hc j u hj)⟩
 have hld:∀w',o6 w2 w'→B4 (B5 w1 fun _=>False) (d7 w'):=fun w' h=>p8 (C0 _ _) (b7 (hx2.trans h));have lw2:=lw w2 (hld _ (o9.refl _));have hret:=fun(w':World) (h:o6 w2 w')=>ak0 hrb h hge hx12;simp only[n3,n9,simprocAttr,hbx,hal,lw2];refine B3 db9 (bY9 v p w2 (hv.mono (b7 hx12)) hw) (fun w3 hx3=>?_);cases hmay:N1 p
 ·obtain⟨w9,s1,s2,s3⟩:=hret w3 hx3 (1,0);simp only[n3,n9,simprocAttr,O7,s1];refine L6 results102 (by simp only[p6,simprocAttr]) s2 ?_;exact⟨by rw[L4,hmay];rfl,s3⟩
 have l3:=ld w3 (hld _ hx3);have hSp:=hp.isS;have hnp:=hp.vlen;have hgl:p.globals.length≤16∧p.procs.length≤16:=by
  simp only[N1,ex5,ez3]at hmay;exact⟨hmay.1.1.1,hmay.1.1.2⟩
 obtain⟨hgl1,hgl2⟩:=hgl;simp only[n3,n9,simprocAttr,l3,hSp,hnp];refine n8 [1,2,18,19] (σ:=Nat×Value) (fun s f w'=>f 20 = .int .i64 s.1∧f 3=s.2∧s.1≤p.procs.length∧A9 (d7 w2) w' 9 s.2 ((p.procs.take s.1).map (·.name))∧o6 w2 w') (fun s=>p.procs.length-s.1) (0,.slice none 0 0) (by decide +kernel) ?_ ?_
 ·simp only[p6,simprocAttr];exact⟨by trivial,by trivial,ew4 _,by simpa using A9.nil _ _ _,hx3⟩
 rintro⟨k,u⟩ f w4 hk ⟨h20,h3,hkl,ho,hx4⟩;simp only at h20 h3 hkl ho;simp only[ev4,p6,simprocAttr]at hk;obtain⟨e1,e2,e18,e19,_⟩:=hk;simp only[n3,n9,simprocAttr,h20,e19];refine i5 (fun hc=>?_) (fun hc=>?_)
 ·have hlt:k<p.procs.length:=by simpa using hc
  have hin:=hp.inS hlt;obtain⟨sv,hsv,hld4⟩:=G1 (P:=prog) (t:=53) hp (b7 (hx12.trans hx4)) (ev2 hlt) ao0 ao4 ao1 O1;rw[O1]at hld4;have htk:(p.procs.take (k+1)).map (·.name)=(p.procs.take k).map (·.name)++[p.procs[k].name]:=by
   rw[ew1 hlt,ey5];rfl
  generalize p.procs[k]=y at hsv htk;obtain⟨b,wz,w5,hal5,hst5,hx5,hat⟩:=aG7 (hsv.mono (b7 (hx12.trans hx4))) (i4 _);obtain⟨_,_,_,_,_,_,_,_,ldy,_⟩:=hat.pr;have l5:=ldy w5 (i4 _);have ho5:=ho.ext hx5;have hx25:=hx4.trans hx5;obtain⟨p1,u',w6,p2,p3,p4,p5⟩:=push (e:=22) aq8 rfl ho5 (x:=o7 y.name) (y:=y.name) rfl (by simp;omega) (by simp;omega) (b7 hx25);simp only[n3,n9,p9,simprocAttr,h20,h3,e18,hin,hld4,hal5,hst5,l5,p1,p2];exact⟨(k+1,u'),by simp only[];omega,by simp only[];rw[B1 k (by omega)],by trivial,by simp only[];omega,by simp only[];rw[htk];exact p3,ho5.ext2 hx25 p4⟩
 have hge':k=p.procs.length:=by simp at hc;omega
 subst hge';rw[ew5]at ho;have hnl:(p.procs.map (·.name)).length=p.procs.length:=ew3 _;have hfirst:V5 (fun y=>decide (Q4=y)) 0 (p.procs.map (·.name))=S5 p.procs Q4:=by
  rw[bI3,S5];exact bT2 (fun x=>by rw[ez8];exact eq_comm) _ _
 have hsc:L4 p=if X8 p.globals||X8 (p.procs.map (·.name))||decide (S5 p.procs Q4<0)||decide (0<(p.procs.getD (S5 p.procs Q4).toNat bp5).params.length)then(5,0)
  else(L5 p (b9 p) (p.procs.map (·.name)) 0 p.procs).getD (0,0):=by rw[L4,if_neg (by rw[hmay];simp)]
 have hu:=ho.rw_ (b7 hx4);generalize p.procs.map (·.name)=names at hu hnl hfirst hsc;have l4:=ld w4 (hld _ hx4);have hstr:(Value.string ⟨#[109,97,105,110]⟩)=o7 Q4:=rfl;have hgw:∀w',o6 w w'→R (d7 w') vg p.globals:=fun w' h=>z7.mono (b7 h) hg;have lw4:=lw w4 (hld _ hx4);simp only[n3,simprocAttr,h3,hstr];refine D1 dc5 (be0 u names Q4 w4 hu (by omega)) ?_;rw[hfirst];have hget:=aB9 (fun f=>decide (f.name=Q4)) p.procs 0
 change 0≤S5 p.procs Q4→_ at hget
 change 0≤S5 p.procs Q4→∃k,S5 p.procs Q4=_∧_ at hget
 generalize S5 p.procs Q4=first at hget hsc
 obtain⟨w9,s1,s2,s3⟩:=hret w4 hx4 (5,0);simp only[n3,n9,simprocAttr,e1,l4];refine D1 cw8 (aV9 vg p.globals w4 (hgw w4 (hx12.trans hx4)) (by omega)) ?_;rcases ev3 (X8 p.globals)with ht1|ht1
 ·simp only[n3,simprocAttr,ht1,e2,O7,s1];refine L6 results102 (by simp only[p6,simprocAttr];exact e2) s2 ?_;exact⟨by rw[hsc,ht1];rfl,s3⟩
 simp only[n3,simprocAttr,ht1,h3];refine D1 cw8 (aV9 u names w4 hu (by omega)) ?_;rcases ev3 (X8 names)with ht2|ht2
 ·simp only[n3,simprocAttr,ht2,e2,O7,s1];refine L6 results102 (by simp only[p6,simprocAttr];exact e2) s2 ?_;exact⟨by rw[hsc,ht1,ht2];rfl,s3⟩
 rcases ev3 (decide (first<0))with ht3|ht3
 ·simp only[n3,n9,simprocAttr,ht2,ht3,e2,O7,s1];refine L6 results102 (by simp only[p6,simprocAttr];exact e2) s2 ?_;exact⟨by rw[hsc,ht1,ht2,ht3];rfl,s3⟩
 obtain⟨k,rfl,q,hq,_⟩:=hget (by simpa using ht3);rw[ey7]at hsc ht3;obtain⟨va,_,_,_,hva,_,_,_,ldq,_⟩:=(hp.at_ hq).pr;have hwq:T8 q≤1000000:=an6 p hw q (ex2 hq);have hpl:=af3 q.params;have lq:=ldq w4 (b7 (hx12.trans hx4));have hz:z7.sz Pr=5:=rfl;rw[hz]at lq;have hin:=hp.inS (ev8.1 hq).1;have hSa:=hva.isS;have hna:=hva.vlen;have hpar:(p.procs.getD (Int.toNat (k:Nat)) bp5).params=q.params:=by rw[ex8,List.getD,hq];rfl
 rw[hpar]at hsc;rcases ev3 (decide (0<(q.params.length:Int)))with ht4|ht4
 ·simp only[n3,n9,p9,simprocAttr,ht2,ht3,ht4,e1,l4,hin,lq,hSa,hna,e2,O7,s1];refine L6 results102 (by simp only[p6,simprocAttr];exact e2) s2 ?_;have ht5:decide (0<q.params.length)=true:=by simpa using ht4
  exact⟨by rw[hsc,ht1,ht2,ht3,ht5];rfl,s3⟩
 have ht5:decide (0<q.params.length)=false:=by simpa using ht4
 have hsc2:L4 p=(L5 p (b9 p) names 0 p.procs).getD (0,0):=by rw[hsc,ht1,ht2,ht3,ht5];rfl
 clear hsc hret s1 s2 s3;have hret:=fun(w':World) (h:o6 w2 w')=>ak0 hrb h hge hx12;simp only[n3,n9,p9,simprocAttr,ht2,ht3,ht4,e1,l4,hin,lq,hSa,hna,lw4];refine y5 aO1 (af9 v p w4 (hv.mono (b7 (hx12.trans hx4))) hw) ?_;rintro us w5 ⟨sh,rfl,hsh,hx5⟩;have hx25:=hx4.trans hx5;have l5:=ld w5 (hld _ hx25);simp only[n3,n9,simprocAttr,e1,l5,hSp,hnp];refine n8 [1,2,3,7,57,58] (σ:=Nat) (fun k f w'=>f 59 = .int .i64 k∧k≤p.procs.length∧L5 p (b9 p) names 0 p.procs=L5 p (b9 p) names k (p.procs.drop k)∧o6 w5 w') (fun k=>p.procs.length-k) 0 (by decide +kernel) ?_ ?_
 ·simp only[p6,simprocAttr];exact⟨by trivial,ew4 _,by rw[eE3],o9.refl _⟩
 rintro i f2 w6 hk ⟨h59,hil,hsp,hx6⟩;simp only[ev4,p6,simprocAttr]at hk;obtain⟨e1',e2',e3,e7,e57,e58,_⟩:=hk;rw[e1]at e1';rw[e2]at e2';rw[h3]at e3;have hx26:=hx25.trans hx6;simp only[n3,n9,simprocAttr,h59,e58];refine i5 (fun hc=>?_) (fun hc=>?_);rotate_left
 ·have hge2:i=p.procs.length:=by simp at hc;omega
  subst hge2;rw[eF2]at hsp;obtain⟨w9,s1,s2,s3⟩:=hret w6 hx26 (0,0);simp only[n3,simprocAttr,e2',aE2,s1];refine L6 results102 (by simp only[p6,simprocAttr];exact e2') s2 ?_;exact⟨by rw[hsc2,hsp];rfl,s3⟩
 have hlt:i<p.procs.length:=by simpa using hc
 have hin:=hp.inS hlt;obtain⟨sv,hsv,hld⟩:=G1 (P:=prog) (t:=53) hp (b7 (hx12.trans hx26)) (ev2 hlt) ao0 ao4 ao1 O1;rw[O1]at hld;have hdrop:p.procs.drop i=p.procs[i]::p.procs.drop (i+1):=ez4 hlt;obtain⟨x,hok,_⟩:=V0 p hw i hlt;have hwy:=an6 p hw _ (ew2 hlt);have hwl:∀it∈(b9 p).of i,O5 it.s≤1000000:=fun it h=>by
  rw[hok.of_]at h;exact ac7 p hw it (eD8 (eF9 h))
 have hlen:((b9 p).of i).length≤1000000:=by
  rw[hok.of_,eD7,ew6];have:=hok.fit;omega
 generalize p.procs[i]=y at hsv hdrop hwy hok;rw[hdrop,L5]at hsp;obtain⟨b,wz,w7,hal7,hst7,hx7,hat⟩:=aR9 (w:=w6) (fun _=>False) hsv (fun _ h=>h.elim);obtain⟨ldQ,_⟩:=L8.pr_v hsv hat;have lQ7:=ldQ w7 (C0 _ _);have hx27:=hx26.trans hx7;simp only[n3,n9,p9,simprocAttr,h59,e57,hin,hld,hal7,hst7,lQ7];refine y5 ef4 (cP5 sv y w7 (hsv.mono (b7 (hx12.trans hx27))) hwy) ?_;rintro uo w8 ⟨ho8,hx8⟩;have huo:=ho8.rw_ (b7 hx8);have hx28:=hx27.trans hx8;have hol:(bc2 y).length≤1000000:=by
  have h1:=af3 y.params;have h2:=S8 y.vars;unfold T8 at hwy;unfold bc2;rw[ev5,ew3];omega
 simp only[n3,simprocAttr];refine D1 cw8 (aV9 uo (bc2 y) w8 huo (by omega)) ?_;obtain⟨w9,s1,s2,s3⟩:=hret w8 hx28 (5,0);rcases ev3 (X8 (bc2 y))with ht6|ht6
 ·simp only[n3,simprocAttr,ht6,e2',O7,s1];refine L6 results102 (by simp only[p6,simprocAttr];exact e2') s2 ?_;exact⟨by rw[hsc2,hsp,W2,ht6];rfl,s3⟩
 clear s1 s2 s3;simp only[n3,simprocAttr,ht6,e1'];refine B3 ef5 (aM6 (fun n=>p.globals.contains n) 153 #[.pointer (some a)] uo (bc2 y) w8 ef6 huo (by omega) (fun n w' hx' _=>bT4 n a p w' (ha2 w' (hx28.trans hx')) (by omega))) (fun w9 hx9=>?_);have hx29:=hx28.trans hx9;obtain⟨w10,s1,s2,s3⟩:=hret w9 hx29 (5,0);rcases ev3 ((bc2 y).any fun n=>p.globals.contains n)with ht7|ht7
 ·simp only[n3,simprocAttr,ht7,e2',O7,s1];refine L6 results102 (by simp only[p6,simprocAttr];exact e2') s2 ?_;exact⟨by rw[hsc2,hsp,W2,ht6,ht7];rfl,s3⟩
 clear s1 s2 s3;have hsp3:W2 p names y ((b9 p).of i)=match((b9 p).of i).find? fun it=>!ac3 p y names it.s with
   | some it=>some (5,it.s.id)
   | none=>none:=by rw[W2,ht6,ht7];rfl
 rw[hsp3]at hsp;simp only[n3,simprocAttr,ht7,e7];refine y5 aY8 (aQ5 sh (b9 p) i x _ w9 (hsh.mono (b7 (hx6.trans (hx7.trans (hx8.trans hx9))))) hok) ?_;rintro ul w10 ⟨hul,hx10⟩;have hx210:=hx29.trans hx10;generalize(b9 p).of i=l at hul hwl hsp hlen;have hSl:=hul.isS;have hnl2:=hul.vlen;simp only[n3,n9,simprocAttr,hSl,hnl2];refine n8 [1,2,3,7,9,57,58,59,76,77] (σ:=Nat) (fun m f w'=>f 78 = .int .i64 m∧m≤l.length∧(∀j (hj:j<l.length),j<m→ac3 p y names l[j].s=true)∧o6 w10 w') (fun m=>l.length-m) 0 (by decide +kernel) ?_ ?_
 ·simp only[p6,simprocAttr];exact⟨by trivial,ew4 _,fun j _ h=>by omega,o9.refl _⟩
 rintro m f3 w11 hk ⟨h78,hml,hno,hx11⟩;simp only[ev4,p6,simprocAttr]at hk;obtain⟨g1,g2,g3,g7,g9,g57,g58,g59,g76,g77,_⟩:=hk;rw[e1']at g1;rw[e2']at g2;rw[e3]at g3;rw[e7]at g7;rw[h59]at g59;have hx211:=hx210.trans hx11;simp only[n3,n9,simprocAttr,h78,g77];refine i5 (fun hc=>?_) (fun hc=>?_);rotate_left
 ·have hge2:m=l.length:=by simp at hc;omega
  subst hge2;have hfind:l.find? (fun it=>!ac3 p y names it.s)=none:=eE9.2 fun it hit=>by
   obtain⟨j,hj,rfl⟩:=eA8.1 hit;rw[hno j hj hj];simp
  rw[hfind]at hsp;simp only[n3,n9,simprocAttr,g59];refine⟨i+1,by omega,by rw[B1 i (by omega)],by omega,hsp,?_⟩;exact hx6.trans (hx7.trans (hx8.trans (hx9.trans (hx10.trans hx11))))
 have hmt:m<l.length:=by simpa using hc
 clear hin hld;have hin:=hul.inS hmt;obtain⟨sv2,hsv2,hld2⟩:=G1 (P:=prog) (t:=127) hul (b7 hx11) (ev2 hmt) X9 Y1 Y0 I9;rw[I9]at hld2;have hwit:=hwl _ (ew2 hmt);obtain⟨c,wz2,w12,hal12,hst12,hx12',hati⟩:=ax8 (hsv2.mono (b7 hx11)) (i4 _);obtain⟨hats,_,_⟩:=hati.it;obtain⟨vt,hvt,ldT,_⟩:=hats.st_v;obtain⟨_,_,_,_,_,_,_,_,_,ldt,_⟩:=hats.st;have hx212:=hx211.trans hx12';have k1:=lw w12 (hld _ hx212);have k2:=ldQ w12 (p8 (C0 _ _) (b7 (hx8.trans (hx9.trans (hx10.trans (hx11.trans hx12'))))));have k3:=ldT w12 (i4 _);simp only[n3,n9,p9,simprocAttr,h78,g1,g3,g9,g76,hin,hld2,hal12,hst12,k1,k2,k3];refine B3 ef7 (cl1 v sv u vt p y names l[m].s w12 (hv.mono (b7 (hx12.trans hx212))) (hsv.mono (b7 (hx12.trans hx212))) (z7.mono (b7 (hx5.trans (hx6.trans (hx7.trans (hx8.trans (hx9.trans (hx10.trans (hx11.trans hx12')))))))) hu) hvt hw hwy hwit (by omega)) (fun w13 hx13=>?_);have hx213:=hx212.trans hx13;rcases ev3 (ac3 p y names l[m].s)with hkn|hkn
 ·simp only[n3,n9,simprocAttr,hkn,h78];refine⟨m+1,by omega,by rw[B1 m (by omega)],by omega,fun j hj hjm=>?_,hx11.trans (hx12'.trans hx13)⟩;rcases ez0 j m with h|h
  ·exact hno j hj h
  ·obtain rfl:j=m:=by omega
   exact hkn
 ·have k4:=ldt w13 (b7 hx13);obtain⟨w14,s1,s2,s3⟩:=hret w13 hx213 (5,l[m].s.id);simp only[n3,n9,simprocAttr,hkn,k4,g2,ar8,s1];refine L6 results102 (by simp only[p6,simprocAttr];exact g2) s2 ?_;have hfind:l.find? (fun it=>!ac3 p y names it.s)=some l[m]:=eD5.2 ⟨by rw[hkn];rfl,m,hmt,rfl,fun j hj=>by rw[hno j (by omega) hj];rfl⟩;rw[hfind]at hsp;exact⟨by rw[hsc2,hsp];rfl,s3⟩
theorem bT0:af6 prog 102=true:=by kernel_rfl
theorem ef8:af6 prog 155=true:=by kernel_rfl
theorem eh7:af6 prog 217=true:=by kernel_rfl
theorem ai9(e:Int×Int):cu1 prog 113 0 (R7 e)=some (.int .i64 e.1):=rfl
theorem ct9:H7 prog 4=1:=by kernel_rfl
theorem bc6{a b:Bool}:B7 prog .neq 4 (.bool a) (.bool b)=some (.bool !(a==b)):=by
 simp only[B7,ct9,eB2]
theorem aJ3{α β:Type}(p:α×β→Bool):∀(l:List α) (m:List β) (k:Nat) (h1:k<l.length) (h2:k<m.length),p (l[k],m[k])=false→(l.zip m).all p=false
 | [],_,_,h,_,_=>by simp at h
 | _::_,[],_,_,h,_=>by simp at h
 | a::l,b::m,0,_,_,h=>by
  have h':p (a,b)=false:=h;simp[h']
 | a::l,b::m,k+1,h1,h2,h=>by
  have:=aJ3 p l m k (by simpa using h1) (by simpa using h2) h;simp only[List.zip_cons_cons,List.all_cons,this,Bool.and_false]
theorem aS1{α β:Type}(p:α×β→Bool):∀(l:List α) (m:List β),(∀k (h1:k<l.length) (h2:k<m.length),p (l[k],m[k])=true)→(l.zip m).all p=true
 | [],_,_=>by simp
 | _::_,[],_=>by simp
 | a::l,b::m,h=>by
  have h0:p (a,b)=true:=h 0 (by simp) (by simp);simp only[List.zip_cons_cons,List.all_cons,h0,eE6];exact aS1 p l m fun k h1 h2=>h (k+1) (by simpa using h1) (by simpa using h2)
theorem cC0(vl va:Value)(l:List Pa)(a:List Ar)(w:World)(hl:R (d7 w) vl l)(ha:R (d7 w) va a)(h1:l.length≤1000000)(h2:a.length≤1000000):
  Calls prog 217 #[vl,va] w fun e w'=>∃u,e = .returned u∧(u = .bool (bk5 l a)∧o6 w w'):=by
 refine d9 (args:=[vl,va]) hm func217 rfl (by kernel_rfl) (by show 2≤_;decide +kernel) ?_;have hS1:=hl.isS;have hn1:=hl.vlen;have hS2:=ha.isS;have hn2:=ha.vlen;have hdn:decide ((l.length:Int)=(a.length:Int))=decide (l.length=a.length):=by rw[ez8];omega
 rcases ev3 (decide (l.length=a.length))with hlen|hlen;rotate_left
 ·simp only[n3,n9,simprocAttr,hS1,hn1,hS2,hn2,hdn,hlen];refine n7 results217 ?_;simp only[p6,simprocAttr];exact⟨by rw[bk5,hlen];rfl,o9.refl _⟩
 have hlen':l.length=a.length:=ev6 hlen;have hF:bk5 l a=(l.zip a).all fun x=>x.1.ref==x.2.ref:=by rw[bk5,hlen,eE6]
 simp only[n3,n9,simprocAttr,hS1,hn1,hS2,hn2,hdn,hlen];refine n8 [1,12,13] (σ:=Nat) (fun k f w'=>f 14 = .int .i64 k∧k≤l.length∧(∀j (hj:j<l.length) (hj2:j<a.length),j<k→(l[j].ref==a[j].ref)=true)∧o6 w w') (fun k=>l.length-k) 0 (by decide +kernel) ?_ ?_
 ·simp only[p6,simprocAttr];exact⟨by trivial,ew4 _,fun j _ _ h=>by omega,o9.refl _⟩
 ·rintro k f w3 hk ⟨h14,hkl,hno,hx3⟩;simp only[ev4,p6,simprocAttr]at hk;obtain⟨e1,e12,e13,_⟩:=hk;simp only[n3,n9,simprocAttr,h14,e13];refine i5 (fun hc=>?_) (fun hc=>?_)
  ·have hlt:k<l.length:=by simpa using hc
   have hlt2:k<a.length:=by omega
   have hin:=hl.inS hlt;obtain⟨sv,hsv,hld⟩:=G1 (P:=prog) (t:=69) hl (b7 hx3) (ev2 hlt) bb1 bb6 bb4 ao3;rw[ao3]at hld;obtain⟨c,wz,w4,hal,hst,hx4,hat⟩:=aG6 (hsv.mono (b7 hx3)) (i4 _);obtain⟨_,sdy⟩:=hat.pa;have hx4d:o6 w w4.drew:=hx3.trans (hx4.trans (o6.drew w4));obtain⟨_,_,sda⟩:=(ha.at_ (ev2 hlt2)).ar;have s1:=sdy (fun w'=>o6 w4.drew w') w4.drew (o9.refl _) fun w' h=>b7 ((o6.drew w4).trans h);have s2:=sda (fun w'=>o6 w4.drew w') w4.drew (o9.refl _) fun w' h=>b7 (hx4d.trans h);have hz:z7.sz Ar=6:=rfl;rw[hz]at s2;have hin2:=ha.inS hlt2;simp only[n3,n9,p9,simprocAttr,h14,e12,hin,hld,hal,hst];refine C2 (fun w'=>o6 w4.drew w') 8 (A8 [0,1,2,3,4,5,6,7]) (by decide +kernel) (o9.refl _) ?_;rcases ev3 (l[k].ref==a[k].ref)with hq|hq
   ·simp only[D5,A8,n3,n9,p9,simprocAttr,s1,s2,hin2,bc6,hq,h14,e1];refine⟨k+1,by omega,by rw[B1 k (by omega)],by omega,fun j hj hj2 hjk=>?_,hx4d⟩;rcases ez0 j k with h|h
    ·exact hno j hj hj2 h
    ·obtain rfl:j=k:=by omega
     exact hq
   ·simp only[D5,A8,n3,n9,p9,simprocAttr,s1,s2,hin2,bc6,hq,e1];refine n7 results217 ?_;simp only[p6,simprocAttr];exact⟨by rw[hF,aJ3 _ l a k hlt hlt2 hq],hx4d⟩
  ·have hge:k=l.length:=by simp at hc;omega
   subst hge;simp only[n3,simprocAttr];refine n7 results217 ?_;simp only[p6,simprocAttr];exact⟨by rw[hF,aS1 _ l a fun j hj hj2=>hno j hj hj2 hj],hx3⟩
theorem cu3(vp vt:Value)(p:Pg)(t:St)(w:World)(hp:SV (d7 w) vp p)(ht:SV (d7 w) vt t)(hwp:C8 p≤1000000)(hwt:O5 t≤1000000):
  Calls prog 155 #[vp,vt] w fun e w'=>∃u,e = .returned u∧(u = .bool (ac1 p t)∧o6 w w'):=by
 refine d9 (args:=[vp,vt]) hm func155 rfl (by kernel_rfl) (by show 2≤_;decide +kernel) ?_;obtain⟨a,w1,hb1,hx1,ha1⟩:=U0 hp (i4 _);obtain⟨b,w2,hb2,hx2,ha2⟩:=ai6 (ht.mono (b7 hx1)) (i4 _);obtain⟨_,vps,_,hps,ldp,_⟩:=ha1.pg;obtain⟨_,vas,_,_,_,hvas,_,_,_,ldt,_⟩:=ha2.st;have hx12:=hx1.trans hx2;have lt2:=ldt w2 (i4 _);have lp2:=ldp w2 (b7 hx2);have hS:=hps.isS;have hn:=hps.vlen;rw[P8]at hwt;have hal:=al1 t.args;have hlenp:=ab4 p.procs;have hwf:=an6 p hwp;unfold C8 at hwp;rcases ev3 (decide (t.kind=4))with hk4|hk4;rotate_left
 ·simp only[n3,n9,simprocAttr,hb1,hb2,lt2,hk4];refine n7 results155 ?_;simp only[p6,simprocAttr];exact⟨by rw[ac1,hk4];rfl,hx12⟩
 have hF:ac1 p t=match p.procs.find? fun f=>decide (f.name=t.proc)with
  | some f=>bk5 f.params t.args
  | none=>false:=by rw[ac1,hk4,eE6]<;>rfl
 simp only[n3,n9,simprocAttr,hb1,hb2,lt2,lp2,hk4,hS,hn];refine n8 [3,11,12] (σ:=Nat) (fun k f w'=>f 13 = .int .i64 k∧k≤p.procs.length∧(∀j (hj:j<p.procs.length),j<k→decide (p.procs[j].name=t.proc)=false)∧o6 w2 w') (fun k=>p.procs.length-k) 0 (by decide +kernel) ?_ ?_
 ·simp only[p6,simprocAttr];exact⟨by trivial,ew4 _,fun j _ h=>by omega,o9.refl _⟩
 ·rintro k f w3 hk ⟨h13,hkl,hno,hx3⟩;simp only[ev4,p6,simprocAttr]at hk;obtain⟨e3,e11,e12,_⟩:=hk;simp only[n3,n9,simprocAttr,h13,e12];refine i5 (fun hc=>?_) (fun hc=>?_)
  ·have hlt:k<p.procs.length:=by simpa using hc
   have hin:=hps.inS hlt;obtain⟨sv,hsv,hld⟩:=G1 (P:=prog) (t:=53) hps (b7 (hx2.trans hx3)) (ev2 hlt) ao0 ao4 ao1 O1;rw[O1]at hld;obtain⟨c,wz,w4,hal4,hst,hx4,hat⟩:=aG7 (hsv.mono (b7 (hx2.trans hx3))) (i4 _);obtain⟨vpa,_,_,_,hvpa,_,_,_,ldy,_⟩:=hat.pr;have l4:=ldy w4 (i4 _);have lt4:=ldt w4 (b7 (hx3.trans hx4));have hend:=hx12.trans (hx3.trans hx4);rcases ev3 (decide (p.procs[k].name=t.proc))with hq|hq
   ·have hfind:p.procs.find? (fun f=>decide (f.name=t.proc))=some p.procs[k]:=eD5.2 ⟨hq,k,hlt,rfl,fun j hj=>by rw[hno j (by omega) hj];rfl⟩;have hwk:=hwf _ (ew2 hlt);have hpl:=af3 p.procs[k].params;unfold T8 at hwk;simp only[n3,n9,p9,simprocAttr,h13,e3,e11,hin,hld,hal4,hst,l4,lt4,hq];refine B3 eh7 (cC0 vpa vas _ _ w4 hvpa (z7.mono (b7 (hx3.trans hx4)) hvas) (by omega) (by omega)) (fun w5 hx5=>?_);simp only[n3,simprocAttr];refine n7 results155 ?_;simp only[p6,simprocAttr];exact⟨by simp only[hF,hfind],hend.trans hx5⟩
   ·simp only[n3,n9,p9,simprocAttr,h13,e3,e11,hin,hld,hal4,hst,l4,lt4,hq];refine⟨k+1,by omega,by rw[B1 k (by omega)],by omega,fun j hj hjk=>?_,hx3.trans hx4⟩;rcases ez0 j k with h|h
    ·exact hno j hj h
    ·obtain rfl:j=k:=by omega
     exact hq
  ·have hge:k=p.procs.length:=by simp at hc;omega
   subst hge;have hfind:p.procs.find? (fun f=>decide (f.name=t.proc))=none:=eE9.2 fun it hit=>by
    obtain⟨j,hj,rfl⟩:=eA8.1 hit;rw[hno j hj hj];simp
   simp only[n3,simprocAttr];refine n7 results155 ?_;simp only[p6,simprocAttr];exact⟨by simp only[hF,hfind],hx12.trans hx3⟩
theorem aA4(v:Value)(p:Pg)(w:World)(hv:SV (d7 w) v p)(hw:C8 p≤1000000):Calls prog 103 #[v] w fun e w'=>∃u,e = .returned u∧(u=R7 (X0 p)∧o6 w w'):=by
 refine d9 (args:=[v]) hm func103 rfl (by kernel_rfl) (by show 1≤_;decide +kernel) ?_;obtain⟨a,w1,hbx,hx1,ha⟩:=ab7 (w:=w) (fun _=>False) hv (fun _ h=>h.elim);obtain⟨lw,_⟩:=L8.pg_v hv ha;obtain⟨rb,w2,hal,hx2,hrb,hge1⟩:=ar6 w1;have hge:w.heap.size≤rb:=ew0 hx1.size hge1;have hx12:=hx1.trans hx2;have hlw:∀w',o6 w2 w'→B4 (B5 w1 fun _=>False) (d7 w'):=fun w' h=>p8 (C0 _ _) (b7 (hx2.trans h));have lw2:=lw w2 (hlw _ (o9.refl _));have hret:=fun(w':World) (h:o6 w2 w')=>ak0 hrb h hge hx12;simp only[n3,n9,simprocAttr,hbx,hal,lw2];refine B3 bT0 (ac6 v p w2 (hv.mono (b7 hx12)) hw) (fun w3 hx3=>?_);rcases ev3 (decide ((L4 p).1=0))with hsc|hsc;rotate_left
 ·obtain⟨w9,s1,s2,s3⟩:=hret w3 hx3 (1,0);simp only[n3,n9,simprocAttr,ai9,hsc,O7,s1];refine L6 results103 (by simp only[p6,simprocAttr]) s2 ?_;exact⟨by rw[X0,if_pos (ev7 hsc)],s3⟩
 have hF:X0 p=match(b9 p).l.find? fun it=>decide (it.s.kind=4) && !ac1 p it.s with
  | some it=>(6,it.s.id)
  | none=>(0,0):=by rw[X0,if_neg (by simpa using hsc)]<;>rfl
 have lw3:=lw w3 (hlw _ hx3);simp only[n3,n9,simprocAttr,ai9,hsc,lw3];refine y5 aO1 (af9 v p w3 (hv.mono (b7 (hx12.trans hx3))) hw) ?_;rintro us w4 ⟨sh,rfl,hsh,hx4⟩;have hx24:=hx3.trans hx4;obtain⟨vL,vlo,vhi,hL,hlo,hhi,hap,ldsh,_⟩:=hsh.sh;have lsh:=ldsh w4 (i4 _);have hS:=hL.isS;have hn:=hL.vlen;have hsl:=at7 p;have hcl:=by7 p;have hwl:=ac7 p hw;generalize(b9 p).l=l at hL hS hn hsl hwl hF;simp only[n3,n9,simprocAttr,lsh,hS,hn];refine n8 [1,2,14,15] (σ:=Nat) (fun m f w'=>f 16 = .int .i64 m∧m≤l.length∧(∀j (hj:j<l.length),j<m→(decide (l[j].s.kind=4) && !ac1 p l[j].s)=false)∧o6 w4 w') (fun m=>l.length-m) 0 (by decide +kernel) ?_ ?_
 ·simp only[p6,simprocAttr];exact⟨by trivial,ew4 _,fun j _ h=>by omega,o9.refl _⟩
 rintro m f3 w5 hk ⟨h16,hml,hno,hx5⟩;simp only[ev4,p6,simprocAttr]at hk;obtain⟨g1,g2,g14,g15,_⟩:=hk;have hx25:=hx24.trans hx5;simp only[n3,n9,simprocAttr,h16,g15];refine i5 (fun hc=>?_) (fun hc=>?_);rotate_left
 ·have hge2:m=l.length:=by simp at hc;omega
  subst hge2;have hfind:l.find? (fun it=>decide (it.s.kind=4) && !ac1 p it.s)=none:=eE9.2 fun it hit=>by
   obtain⟨j,hj,rfl⟩:=eA8.1 hit;rw[hno j hj hj];simp
  rw[hfind]at hF;obtain⟨w9,s1,s2,s3⟩:=hret w5 hx25 (0,0);simp only[n3,simprocAttr,g2,aE2,s1];refine L6 results103 (by simp only[p6,simprocAttr];exact g2) s2 ?_;exact⟨by rw[hF],s3⟩
 have hlt:m<l.length:=by simpa using hc
 have hin:=hL.inS hlt;obtain⟨sv,hsv,hld⟩:=G1 (P:=prog) (t:=127) hL (b7 hx5) (ev2 hlt) X9 Y1 Y0 I9;rw[I9]at hld;have hwit:=hwl _ (ew2 hlt);obtain⟨c,wz2,w6,hal6,hst6,hx6,hati⟩:=ax8 (hsv.mono (b7 hx5)) (i4 _);obtain⟨hats,_,_⟩:=hati.it;obtain⟨vt,hvt,ldT,_⟩:=hats.st_v;obtain⟨_,_,_,_,_,_,_,_,_,ldt,_⟩:=hats.st;have hx26:=hx25.trans hx6;have k1:=lw w6 (hlw _ hx26);have k2:=ldt w6 (i4 _);have k3:=ldT w6 (i4 _);have hend:∀w7,o6 w6 w7→(decide (l[m].s.kind=4) && !ac1 p l[m].s)=false→∃s:Nat,l.length-s<l.length-m∧(Value.int .i64 (IntKind.i64.wrap ((m:Int)+1))) = .int .i64 s∧s≤l.length∧(∀j (hj:j<l.length),j<s→(decide (l[j].s.kind=4) && !ac1 p l[j].s)=false)∧o6 w4 w7:=fun w7 hx7 hq=>by
  refine⟨m+1,by omega,by rw[B1 m (by omega)],by omega,fun j hj hjm=>?_,hx5.trans (hx6.trans hx7)⟩;rcases ez0 j m with h|h
  ·exact hno j hj h
  ·obtain rfl:j=m:=by omega
   exact hq
 rcases ev3 (decide (l[m].s.kind=4))with hk4|hk4
 ·simp only[n3,n9,p9,simprocAttr,h16,g1,g14,hin,hld,hal6,hst6,k1,k2,k3,hk4];refine B3 ef8 (cu3 v vt p l[m].s w6 (hv.mono (b7 (hx12.trans hx26))) hvt hw hwit) (fun w7 hx7=>?_);rcases ev3 (ac1 p l[m].s)with hq|hq
  ·simp only[n3,n9,simprocAttr,hq,h16];exact hend w7 hx7 (by rw[hk4,hq];rfl)
  ·have k4:=ldt w7 (b7 hx7);obtain⟨w9,s1,s2,s3⟩:=hret w7 (hx26.trans hx7) (6,l[m].s.id);simp only[n3,n9,simprocAttr,hq,k4,g2,ar8,s1];refine L6 results103 (by simp only[p6,simprocAttr];exact g2) s2 ?_;have hfind:l.find? (fun it=>decide (it.s.kind=4) && !ac1 p it.s)=some l[m]:=eD5.2 ⟨by rw[hk4,hq];rfl,m,hlt,rfl,fun j hj=>by rw[hno j (by omega) hj];rfl⟩;rw[hfind]at hF;exact⟨by rw[hF],s3⟩
 ·simp only[n3,n9,p9,simprocAttr,h16,g14,hin,hld,hal6,hst6,k2,hk4];exact hend w6 (o9.refl _) (by rw[hk4];rfl)
theorem eB1:type_of% @List.eq_of_mem_replicate:=@List.eq_of_mem_replicate
theorem eA2:type_of% @List.mem_append_left:=@List.mem_append_left
theorem eD0:type_of% @List.mem_append_right:=@List.mem_append_right
theorem eD1:type_of% @List.mem_or_eq_of_mem_set:=@List.mem_or_eq_of_mem_set
theorem eA5:type_of% @List.pairwise_cons:=@List.pairwise_cons
def C1(nx:List (List Int))(a:Int):List Int:=if 0≤a∧a<nx.length then nx.getD a.toNat []else[]
def H3(n:Nat)(a:Int):Bool:=decide (0≤a)&&decide (a<n)
theorem C5{n:Nat}{a:Int}:H3 n a=true↔0≤a∧a<n:=by simp[H3]
theorem aP9{nx:List (List Int)}{a:Int}(h:H3 nx.length a=false):C1 nx a=[]:=by
 unfold C1;rw[if_neg (fun hh=>by rw[C5.2 hh]at h;cases h)]
theorem aj3{nx:List (List Int)}{a:Int}(h:H3 nx.length a=true):nx[a.toNat]?=some (C1 nx a)∧a.toNat<nx.length:=by
 have hh:=C5.1 h;unfold C1;rw[if_pos hh];have:a.toNat<nx.length:=by omega
 exact⟨by simp[List.getD,this],this⟩
theorem an3{nx:List (List Int)}{a:Int}(h:H3 nx.length a=true):C1 nx a∈nx:=ex2 (aj3 h).1
def aO3(l:List Int)(x:Int):List Int:=l.take (l.countP (· < x))++x::l.drop (l.countP (· < x))
def ah7(nx:List (List Int))(a b:Int):Bool:=H3 nx.length a&&H3 nx.length b && !(C1 nx a).contains b
def bP5(nx:List (List Int))(a b:Int):List (List Int):=if ah7 nx a b then nx.set a.toNat (aO3 (C1 nx a) b)else nx
def bP6(nx pv:List (List Int))(a b:Int):List (List Int):=if ah7 nx a b then pv.set b.toNat (aO3 (C1 pv b) a)else pv
theorem cO0{y x:Int}{l:List Int}(h:y<x):aO3 (y::l) x=y::aO3 l x:=by
 simp[aO3,h]
theorem bF3{l:List Int}{x:Int}(h:∀y∈l,x≤y):l.countP (· < x)=0:=by
 rw[List.countP_eq_zero];intro y hy;have:=h y hy;simp;omega
theorem cN9{y x:Int}{l:List Int}(h:x≤y)(hs:(y::l).Pairwise (· < ·)):aO3 (y::l) x=x::y::l:=by
 have:=bF3 (l:=y::l) (x:=x) (by
  intro z hz;rcases ex3.1 hz with rfl|hz
  ·exact h
  ·have:=(eA5.1 hs).1 z hz;omega)
 unfold aO3;rw[this];simp
theorem as6{x y:Int}{l:List Int}:y∈aO3 l x↔y=x∨y∈l:=by
 unfold aO3;constructor
 ·intro h;rcases ew7.1 h with h|h
  ·exact .inr (eD8 h)
  ·rcases ex3.1 h with h|h
   ·exact .inl h
   ·exact .inr (eF9 h)
 ·rintro(rfl|h)
  ·simp
  ·rw[←eA3 (l.countP (· < x)) l]at h;rcases ew7.1 h with h|h
   ·exact eA2 _ h
   ·exact eD0 _ (eB5 _ h)
theorem aZ0{x:Int}:∀{l:List Int},l.Pairwise (· < ·)→x∉l→(aO3 l x).Pairwise (· < ·)
 | [],_,_=>by simp[aO3]
 | y::l,hs,hn=>by
  have hs':=eA5.1 hs;rcases Int.lt_or_le y x with h|h
  ·rw[cO0 h,eA5];refine⟨fun z hz=>?_,aZ0 hs'.2 fun hx=>hn (eB5 _ hx)⟩;rcases as6.1 hz with rfl|hz
   ·exact h
   ·exact hs'.1 z hz
  ·rw[cN9 h hs,eA5];refine⟨fun z hz=>?_,hs⟩;have hne:x≠y:=fun e=>hn (by simp[e]);rcases ex3.1 hz with rfl|hz
   ·omega
   ·have:=hs'.1 z hz;omega
theorem ax0{n:Int}:∀{l:List Int} {m:Int},l.Pairwise (· < ·)→(∀y∈l,m≤y∧y<n)→m≤n→(l.length:Int)≤n-m
 | [],m,_,_,hm=>by simp;omega
 | y::l,m,hs,hb,hm=>by
  have hs':=eA5.1 hs;have hy:=hb y (by simp);have:=ax0 (l:=l) (m:=y+1) hs'.2 (fun z hz=>⟨by have:=hs'.1 z hz;omega,(hb z (eB5 _ hz)).2⟩) (by omega);simp only[ex7];omega
structure D7 (n:Nat) (l:List (List Int)):Prop where
 len:l.length=n
 le:∀x∈l,x.Pairwise (· < ·)
 ok:∀x∈l,∀y∈x,H3 n y=true
theorem D7.row_len{n:Nat}{l:List (List Int)}(h:D7 n l){x:List Int}(hx:x∈l):x.length≤n:=by
 have:=ax0 (n:=n) (m:=0) (h.le x hx) (fun y hy=>C5.1 (h.ok x hx y hy)) (by omega);omega
theorem bh2(n:Nat):D7 n (List.replicate n []):=
 ⟨by simp,fun x hx=>by simp[eB1 hx],fun x hx y hy=>by simp[eB1 hx]at hy⟩
theorem D7.ins{n:Nat}{l:List (List Int)}(h:D7 n l){a b:Int}(hb:H3 n b=true)(ha:H3 n a=true)(hn:b∉C1 l a):D7 n (l.set a.toNat (aO3 (C1 l a) b)):=by
 have hm:=an3 (nx:=l) (a:=a) (by rw[h.len];exact ha);refine⟨by simp[h.len],fun x hx=>?_,fun x hx y hy=>?_⟩
 ·rcases eD1 hx with h1|rfl
  ·exact h.le x h1
  ·exact aZ0 (h.le _ hm) hn
 ·rcases eD1 hx with h1|rfl
  ·exact h.ok x h1 y hy
  ·rcases as6.1 hy with rfl|h1
   ·exact hb
   ·exact h.ok _ hm y h1
theorem bj9{n:Nat}{l:List (List Int)}(hl:l.length=n){a c:Int}{r:List Int}(ha:H3 n a=true):C1 (l.set a.toNat r) c=if c=a then r else C1 l c:=by
 have ha':=C5.1 ha;unfold C1;simp only[eC2];by_cases hc:0≤c∧c<l.length
 ·rw[if_pos hc,if_pos hc];by_cases h:c=a
  ·subst h;rw[if_pos rfl];have:c.toNat<l.length:=by omega
   simp[List.getD,this]
  ·rw[if_neg h];have:a.toNat≠c.toNat:=by omega
   simp[List.getD,this]
 ·rw[if_neg hc,if_neg hc,if_neg (by rintro rfl;exact hc (by omega))]
def ai0(g:List (List Int)×List (List Int))(e:Int×Int):List (List Int)×List (List Int):=(bP5 g.1 e.1 e.2,bP6 g.1 g.2 e.1 e.2)
def ag6(n:Nat)(edges:List (Int×Int)):List (List Int)×List (List Int):=edges.foldl ai0 (List.replicate n [],List.replicate n [])
structure az5 (n:Nat) (g:List (List Int)×List (List Int)):Prop where
 nx:D7 n g.1
 pv:D7 n g.2
 both:∀a b,b∈C1 g.1 a↔a∈C1 g.2 b
theorem bq5{n:Nat}{l:List (List Int)}(hl:l.length=n){a b:Int}:ah7 l a b=true↔H3 n a=true∧H3 n b=true∧b∉C1 l a:=by
 simp[ah7,hl,and_assoc]
theorem az5.grow{n:Nat}{g:List (List Int)×List (List Int)}(h:az5 n g)(e:Int×Int):az5 n (ai0 g e) ∧
  ∀a b,b∈C1 (ai0 g e).1 a↔b∈C1 g.1 a∨((a,b)=e∧H3 n a=true∧H3 n b=true):=by
 obtain⟨x,y⟩:=e;by_cases hok:ah7 g.1 x y=true
 ·obtain⟨h1,h2,h3⟩:=(bq5 h.nx.len).1 hok;have e1:ai0 g (x,y)=(g.1.set x.toNat (aO3 (C1 g.1 x) y),g.2.set y.toNat (aO3 (C1 g.2 y) x)):=by
   simp[ai0,bP5,bP6,hok]
  rw[e1];have h4:x∉C1 g.2 y:=fun hh=>h3 ((h.both x y).2 hh);refine⟨⟨h.nx.ins h2 h1 h3,h.pv.ins h1 h2 h4,fun a b=>?_⟩,fun a b=>?_⟩
  ·simp only[];rw[bj9 h.nx.len h1,bj9 h.pv.len h2];have:=h.both a b;by_cases ha:a=x<;>by_cases hb:b=y
   ·subst ha;subst hb;simp[as6]
   ·subst ha;rw[if_pos rfl,if_neg hb,as6,this];simp[hb]
   ·subst hb;rw[if_pos rfl,if_neg ha,as6,this];simp[ha]
   ·rw[if_neg ha,if_neg hb,this]
  ·simp only[];rw[bj9 h.nx.len h1];by_cases ha:a=x
   ·subst ha;rw[if_pos rfl,as6];constructor
    ·rintro(rfl|hh)
     ·exact .inr ⟨rfl,h1,h2⟩
     ·exact .inl hh
    ·rintro(hh|⟨hh,_⟩)
     ·exact .inr hh
     ·exact .inl (Prod.mk.inj hh).2
   ·rw[if_neg ha];constructor
    ·exact .inl
    ·rintro(hh|⟨hh,_⟩)
     ·exact hh
     ·exact absurd (Prod.mk.inj hh).1 ha
 ·have hno:ah7 g.1 x y=false:=by simpa using hok
  have e1:ai0 g (x,y)=g:=by
   simp[ai0,bP5,bP6,hno]
  rw[e1];refine⟨h,fun a b=>⟨.inl,?_⟩⟩;rintro(hh|⟨hh,h1,h2⟩)
  ·exact hh
  ·obtain⟨rfl,rfl⟩:=Prod.mk.inj hh;by_cases hb:b∈C1 g.1 a
   ·exact hb
   ·exact absurd ((bq5 h.nx.len).2 ⟨h1,h2,hb⟩) hok
theorem bV2(n:Nat)(a:Int):C1 (List.replicate n []) a=[]:=by
 unfold C1;split
 ·simp[List.getD,eF3];split<;>rfl
 ·rfl
theorem aY7(n:Nat):az5 n (List.replicate n [],List.replicate n []):=
 ⟨bh2 n,bh2 n,fun a b=>by simp[bV2]⟩
theorem az5.grows{n:Nat}:∀(edges:List (Int×Int)) {g:List (List Int)×List (List Int)},az5 n g→az5 n (edges.foldl ai0 g) ∧
  ∀a b,b∈C1 (edges.foldl ai0 g).1 a↔b∈C1 g.1 a∨((a,b)∈edges∧H3 n a=true∧H3 n b=true)
 | [],g,h=>⟨h,fun a b=>by simp⟩
 | e::es,g,h=>by
  obtain⟨h1,h2⟩:=h.grow e;obtain⟨h3,h4⟩:=h1.grows es;refine⟨h3,fun a b=>?_⟩;rw[List.foldl_cons,h4,h2,ex3];constructor
  ·rintro((h|h)|h)
   ·exact .inl h
   ·exact .inr ⟨.inl h.1,h.2⟩
   ·exact .inr ⟨.inr h.1,h.2⟩
  ·rintro(h|⟨h|h,h5⟩)
   ·exact .inl (.inl h)
   ·exact .inl (.inr ⟨h,h5⟩)
   ·exact .inr ⟨h,h5⟩
theorem ae3(n:Nat)(edges:List (Int×Int)):az5 n (ag6 n edges):=(aY7 n |>.grows edges).1
theorem D7.row{n:Nat}{l:List (List Int)}(h:D7 n l)(a:Int):(C1 l a).Pairwise (· < ·)∧(∀y∈C1 l a,H3 n y=true):=by
 by_cases ha:H3 l.length a=true
 ·exact⟨h.le _ (an3 ha),h.ok _ (an3 ha)⟩
 ·rw[aP9 (by simpa using ha)];exact⟨List.Pairwise.nil,fun y hy=>by cases hy⟩
section
variable {α:Type}
def bI5(le:α→α→Bool)(x:α):List α→List α
 | []=>[x]
 | y::l=>if le x y then x::y::l else y::bI5 le x l
def U2(le:α→α→Bool):List α→List α
 | []=>[]
 | x::l=>bI5 le x (U2 le l)
def ag2(eq:α→α→Bool)(p:α):List α→List α
 | []=>[]
 | y::l=>if eq y p then ag2 eq y l else y::ag2 eq y l
def ad6(eq:α→α→Bool):List α→List α
 | []=>[]
 | x::l=>x::ag2 eq x l
theorem aT5(le:α→α→Bool)(x:α):∀l,(bI5 le x l).Perm (x::l)
 | []=>by simp[bI5]
 | y::l=>by
  rw[bI5];split
  ·exact List.Perm.refl _
  ·exact(List.Perm.cons y (aT5 le x l)).trans (List.Perm.swap _ _ _)
theorem F4(le:α→α→Bool):∀l,(U2 le l).Perm l
 | []=>by simp[U2]
 | x::l=>by rw[U2];exact(aT5 le x _).trans (List.Perm.cons x (F4 le l))
theorem aY9{le:α→α→Bool}{x:α}:∀{l:List α},(∀a∈x::l,∀b∈x::l,le a b=true∨le b a=true)→(∀a∈x::l,∀b∈x::l,∀c∈x::l,le a b=true→le b c=true→le a c=true) →
  l.Pairwise (fun a b=>le a b=true)→(bI5 le x l).Pairwise (fun a b=>le a b=true)
 | [],_,_,_=>by simp[bI5]
 | y::l,ht,htr,hs=>by
  rw[bI5];rw[eA5]at hs;split
  ·next h=>
   rw[eA5];refine⟨fun z hz=>?_,by rw[eA5];exact hs⟩;rcases ex3.1 hz with rfl|hz
   ·exact h
   ·exact htr x (by simp) y (by simp) z (by simp[hz]) h (hs.1 z hz)
  ·next h=>
   have hyx:le y x=true:=by
    rcases ht x (by simp) y (by simp)with h1|h1
    ·exact absurd h1 h
    ·exact h1
   rw[eA5];refine⟨fun z hz=>?_,aY9 (fun a ha b hb=>ht a ?_ b ?_) (fun a ha b hb c hc=>htr a ?_ b ?_ c ?_) hs.2⟩
   ·have:=(aT5 le x l).mem_iff.1 hz;rcases ex3.1 this with rfl|hz
    ·exact hyx
    ·exact hs.1 z hz
   all_goals simp only[ex3]at *
   ·rcases ha with h|h<;>simp[h]
   ·rcases hb with h|h<;>simp[h]
   ·rcases ha with h|h<;>simp[h]
   ·rcases hb with h|h<;>simp[h]
   ·rcases hc with h|h<;>simp[h]
theorem ad1{le:α→α→Bool}:∀{l:List α},(∀a∈l,∀b∈l,le a b=true∨le b a=true)→(∀a∈l,∀b∈l,∀c∈l,le a b=true→le b c=true→le a c=true) →
  (U2 le l).Pairwise (fun a b=>le a b=true)
 | [],_,_=>by simp[U2]
 | x::l,ht,htr=>by
  have hm:∀a,a∈x::U2 le l↔a∈x::l:=fun a=>by simp only[ex3,(F4 le l).mem_iff]
  rw[U2];refine aY9 (fun a ha b hb=>ht a ((hm a).1 ha) b ((hm b).1 hb)) (fun a ha b hb c hc=>htr a ((hm a).1 ha) b ((hm b).1 hb) c ((hm c).1 hc)) ?_;exact ad1 (fun a ha b hb=>ht a (by simp[ha]) b (by simp[hb])) (fun a ha b hb c hc=>htr a (by simp[ha]) b (by simp[hb]) c (by simp[hc]))
theorem ax1{le:α→α→Bool}:∀{l m:List α},l.Perm m→(∀a∈l,∀b∈l,le a b=true→le b a=true→a=b)→l.Pairwise (fun a b=>le a b=true)→m.Pairwise (fun a b=>le a b=true)→l=m
 | [],m,hp,_,_,_=>by simpa using hp.symm
 | x::l,[],hp,_,_,_=>by simpa using hp
 | x::l,y::m,hp,ha,h1,h2=>by
  rw[eA5]at h1 h2;have hxy:x=y:=by
   have hx:x∈y::m:=hp.mem_iff.1 (by simp);have hy:y∈x::l:=hp.mem_iff.2 (by simp);rcases ex3.1 hx with h|hx
   ·exact h
   rcases ex3.1 hy with h|hy
   ·exact h.symm
   exact ha x (by simp) y (by simp[hy]) (h1.1 y hy) (h2.1 x hx)
  subst hxy;rw[ax1 ((List.perm_cons x).1 hp) (fun a h b h'=>ha a (by simp[h]) b (by simp[h'])) h1.2 h2.2]
end
def ay2(l:List St)(o:Int):Int:=match l with
 | []=>o
 | t::_=>t.id
def Sh.goes(s:Sh)(it:It):List Int:=
 if it.s.kind=5 then[ay2 it.s.thn it.next,ay2 it.s.els it.next]
 else if it.s.kind=6 then[ay2 it.s.thn it.s.id,it.next]
 else if it.s.kind=7 then[(s.it it.loop).next]
 else if it.s.kind=8 then[it.loop]
 else if it.s.kind=9 then[-1]
 else if it.s.kind=10 then[(s.at it.proc it.s.name).getD 0]
 else[it.next]
def E2(p:Int):Int:=if p = -1 then 9223372036854775807 else p
def I4(a b:Int):Int:=if a<b then -1 else if b<a then 1 else 0
def orF:List Int→Int
 | []=>0
 | x::l=>if x=0 then orF l else x
def spC(a b:Sp):Int:=orF [I4 (E2 a.src) (E2 b.src),I4 (E2 a.dst) (E2 b.dst),I4 a.kind b.kind]
def cQ3(a b:Sp):Bool:=decide (spC a b≤0)
def aQ8(a b:Sp):Bool:=decide (a.src=b.src)&&decide (a.dst=b.dst)
def an9(l:List Sp):List Sp:=ad6 aQ8 (U2 cQ3 l)
def Sh.steps(s:Sh)(i:Nat):List Sp:=an9 (⟨0,s.first i,1⟩::(s.of i).flatMap fun it=>(s.goes it).map fun t=>⟨it.s.id,t,1⟩)
structure Wy where
 s:Sh
 proc:Int
 n:Int
 real:List Sp
 live:List Bool
def Wy.index(w:Wy)(p:Int):Int:=if p=0 then 0 else if p = -1 then w.n-1 else if U5 w.s.lo w.proc≤p∧p<U5 w.s.hi w.proc then p-U5 w.s.lo w.proc+1 else -1
def Wy.place(w:Wy)(i:Int):Int:=if i=0 then 0 else if i=w.n-1 then -1 else U5 w.s.lo w.proc+i-1
def atB(l:List Bool)(i:Int):Bool:=l.getD i.toNat false
def Wy.lives(w:Wy)(id:Int):Bool:=atB w.live (w.index id)
def Wy.pairs(w:Wy)(l:List Sp):List (Int×Int):=l.map fun t=>(w.index t.src,w.index t.dst)
def O2(nx:List (List Int)):Nat→List Int→List Int
 | 0,l=>l
 | n+1,l=>O2 nx n (l++((l.flatMap (C1 nx)).filter fun b=>!l.contains b).eraseDups)
def R9(nx:List (List Int))(a:Int)(b:Int):Bool:=H3 nx.length a&&(O2 nx nx.length [a]).contains b
def bt8(nx:List (List Int)):List Bool:=(List.range nx.length).map fun b=>R9 nx 0 (b:Nat)
def ac4(nx:List (List Int)):List Int:=(List.range nx.length).map fun a=>(((List.range nx.length).find? fun b=>R9 nx (a:Nat) (b:Nat)&&R9 nx (b:Nat) (a:Nat)).getD 0:Nat)
def D6(s:Sh)(i:Nat):Wy:=
 let w:Wy:=⟨s,i,U5 s.hi i-U5 s.lo i+2,s.steps i,[]⟩
 {w with live:=bt8 (ag6 w.n.toNat (w.pairs w.real)).1}
def Wy.traps(w:Wy):List (List Int):=
 let part:=ac4 (ag6 w.n.toNat (w.pairs w.real)).1
 let op:=U5 part 0::U5 part (w.n-1)::((w.pairs w.real).filter fun t=>!decide (U5 part t.1=U5 part t.2)).map fun t=>U5 part t.1
 ((List.range part.length).filter fun(i:Nat)=>decide (U5 part (i:Int)=(i:Int)) && !op.contains (i:Int)).map fun(i:Nat)=>((List.range part.length).filter fun(j:Nat)=>decide (U5 part (j:Int)=(i:Int))).map fun(j:Nat)=>w.place (j:Int)
def Wy.virtual(w:Wy):List Sp:=w.traps.flatMap fun l=>(l.filter fun id=>decide ((w.s.it id).s.kind=10)).map fun id=>⟨id,-1,3⟩
def Wy.data(w:Wy):List Sp:=an9 (w.virtual++w.real)
def T5(it:It):List Sp:=if it.s.kind=7∨it.s.kind=8∨it.s.kind=9∨it.s.kind=10 then[⟨it.s.id,it.next,2⟩]else[]
def Wy.aug(w:Wy):List Sp:=an9 (w.virtual++w.real++[⟨0,-1,2⟩]++(w.s.of w.proc).flatMap T5)
def aj2(n:Nat)(l:List (Int×Int)):List (List Int):=(List.range n).map fun(a:Nat)=>(l.filter fun t=>decide (t.1=(a:Int))).map (·.2)
def Wy.net(w:Wy):List (List Int):=aj2 w.n.toNat (w.pairs w.data)
def W4(f:List (List Bool))(some_:List Int):List Bool:=(List.range f.length).map fun(b:Nat)=>some_.all fun a=>atB (f.getD a.toNat []) (b:Int)
def P9(next:List (List Int))(f:List (List Bool))(a:Nat):List (List Bool):=f.set a ((W4 f (next.getD a [])).set a true)
def M2(next:List (List Int))(f:List (List Bool)):Nat→List (List Bool)
 | 0=>f
 | a+1=>M2 next (P9 next f a) a
def Y8(next:List (List Int))(m:Nat):Nat→List (List Bool)→List (List Bool)
 | 0,f=>f
 | k+1,f=>Y8 next m k (M2 next f m)
def Q5(n:Nat):List (List Bool):=(List.range n).map fun a=>(List.range n).map fun b=>decide (a+1<n)||decide (a=b)
def Wy.follow(w:Wy):List (List Bool):=Y8 (aj2 w.n.toNat (w.pairs w.aug)) (w.n.toNat-1) (w.n.toNat*w.n.toNat+1) (Q5 w.n.toNat)
def Wy.decides(w:Wy):List (Int×Int):=
 let f:=w.follow
 let ps:=w.pairs w.aug
 (List.range w.n.toNat).flatMap fun(a:Nat)=>((List.range w.n.toNat).filter fun(b:Nat)=>decide (1≤b)&&decide ((b:Int)<w.n-1)&&ps.any fun t=>decide (t.1=(a:Int))&&atB (f.getD t.2.toNat []) (b:Int)&&(decide (a=b) || !atB (f.getD a []) (b:Int))).map fun(b:Nat)=>(w.place (a:Int),w.place (b:Int))
theorem eC6:type_of% @List.filter_append:=@List.filter_append
theorem eG0:type_of% @List.range_succ:=@List.range_succ
theorem eC8:type_of% @decide_eq_true:=@decide_eq_true
theorem aO7{a b:A4}:Z0 a b=true↔a.b<b.b:=by
 unfold Z0;rw[bytesLess_eq,decide_eq_true_iff]
theorem V7{a b:A4}:Z0 a b=false↔b.b≤a.b:=by
 rw[←Bool.not_eq_true,aO7];exact eC0
theorem aT8{a b c:A4}(h1:a.b≤b.b)(h2:b.b≤c.b):a.b≤c.b:=List.le_trans h1 h2
theorem av6{a b:A4}(h1:a.b≤b.b)(h2:b.b≤a.b):a=b:=by
 have:=List.le_antisymm h1 h2;cases a;cases b;simp_all
theorem J2(a:A4):Z0 a a=false:=V7.2 (List.le_refl _)
theorem ak3{a b c:A4}(h1:Z0 a b=true)(h2:Z0 b c=true):Z0 a c=true:=aO7.2 (List.lt_trans (aO7.1 h1) (aO7.1 h2))
theorem cc7{a b:A4}(h1:Z0 a b=false)(h2:Z0 b a=false):a=b:=av6 (V7.1 h2) (V7.1 h1)
theorem aT6(x:A4):∀l,(bI6 x l).Perm (x::l)
 | []=>by simp[bI6]
 | y::l=>by
  rw[bI6];split
  ·exact(List.Perm.cons y (aT6 x l)).trans (List.Perm.swap _ _ _)
  ·exact List.Perm.refl _
theorem S1:∀l,(R4 l).Perm l
 | []=>by simp[R4]
 | x::l=>by rw[R4];exact(aT6 x _).trans (List.Perm.cons x (S1 l))
theorem aZ1(x:A4):∀{l:List A4},l.Pairwise (fun a b=>a.b≤b.b)→(bI6 x l).Pairwise (fun a b=>a.b≤b.b)
 | [],_=>by simp[bI6]
 | y::l,hs=>by
  rw[bI6];have hs':=hs;rw[eA5]at hs;split
  ·next h=>
   rw[eA5];refine⟨fun z hz=>?_,aZ1 x hs.2⟩;rcases ex3.1 ((aT6 x l).mem_iff.1 hz)with rfl|hz
   ·exact List.le_of_lt (aO7.1 h)
   ·exact hs.1 z hz
  ·next h=>
   have h':=V7.1 (eF7.2 h);rw[eA5];refine⟨fun z hz=>?_,hs'⟩;rcases ex3.1 hz with rfl|hz
   ·exact h'
   ·exact aT8 h' (hs.1 z hz)
theorem aw9:∀l,(R4 l).Pairwise (fun a b=>a.b≤b.b)
 | []=>by simp[R4]
 | x::l=>by rw[R4];exact aZ1 x (aw9 l)
theorem R0(l:List A4):(R4 l).length=l.length:=(S1 l).length_eq
theorem bM7(l:List A4):((l.map (·.b)).mergeSort fun x y=>decide (x≤y))=(R4 l).map (·.b):=by
 refine ax1 (le:=fun x y:List UInt8=>decide (x≤y)) ?_ ?_ ?_ ?_
 ·exact(List.mergeSort_perm _ _).trans ((S1 l).map _).symm
 ·intro a _ b _ h1 h2;have h1':a≤b:=ev6 h1;have h2':b≤a:=ev6 h2;exact List.le_antisymm h1' h2'
 ·refine List.pairwise_mergeSort (le:=fun x y:List UInt8=>decide (x≤y)) (fun a b c h1 h2=>?_) (fun a b=>?_) _
  ·have h1':a≤b:=ev6 h1;have h2':b≤c:=ev6 h2;exact eC8 (List.le_trans h1' h2')
  ·rcases List.le_total a b with h|h<;>simp[h]
 ·rw[List.pairwise_map];exact(aw9 l).imp fun{a b} h=>eC8 h
theorem bf2{α:Type}[DecidableEq α]:∀(l:List α) (y:α),H9 (l++[y])=if l.getLast?=some y then H9 l else H9 l++[y]
 | [],y=>by simp[H9]
 | [x],y=>by
  by_cases h:x=y
  ·subst h;simp[H9]
  ·simp[H9,h]
 | x::z::l,y=>by
  have ih:=bf2 (z::l) y;rw[eG2,eG2,H9,←eG2,ih,List.getLast?_cons_cons,H9];by_cases h1:x=z<;>by_cases h2:(z::l).getLast?=some y<;>simp only[h1,h2,eB2,eD2,eG2]
theorem br6(d:Array (List UInt8)):∀m,m≤d.size→Lib.compactUpTo d m=H9 (d.toList.take m)
 | 0,_=>by simp[Lib.compactUpTo,H9]
 | m+1,hm=>by
  have ih:=br6 d m (by omega);have hlt:m<d.toList.length:=by simp;omega
  have hg:d[m]! = d.toList[m]:=by
   rw[getElem!_pos d m (by omega)];simp
  rw[ew1 hlt,bf2,←ih];have h1:Lib.compactUpTo d (m+1)=Lib.compactUpTo d m++(if Lib.keeps d m then[d[m]!]else[]):=by
   simp only[Lib.compactUpTo,eG0,eC6,ey5]
   congr 1
   by_cases hk:Lib.keeps d m=true
   ·simp[hk]
   ·simp[hk]
  rw[h1,hg];by_cases h0:m=0
  ·subst h0;simp[Lib.keeps,Lib.compactUpTo]
  ·have hlast:(d.toList.take m).getLast?=some d[m-1]!:=by
    rw[List.getLast?_eq_getElem?,ew6,eB8 (by omega),eF1,if_pos (by omega),getElem!_pos d (m-1) (by omega)];simp[show m-1<d.size by omega]
   rw[hlast];by_cases he:d.toList[m]=d[m-1]!
   ·have hk:Lib.keeps d m=false:=by simp only[Lib.keeps,eH8,hg,h0,false_or,ne_eq];exact fun h=>h he
    rw[hk,if_pos (ex0 some he.symm)];simp
   ·have hk:Lib.keeps d m=true:=by simp only[Lib.keeps,ez3];rw[hg];exact .inr he
    rw[hk,if_neg (fun e=>he (ex1 e).symm)];simp
theorem br7{α β:Type}[DecidableEq α][DecidableEq β]{g:α→β}(hg:∀a b,g a=g b→a=b):∀l:List α,H9 (l.map g)=(H9 l).map g
 | []=>by simp[H9]
 | [x]=>by simp[H9]
 | x::y::l=>by
  have ih:=br7 hg (y::l);rw[ez9]at ih;rw[ez9,ez9,H9,H9,ih];by_cases h:x=y
  ·rw[if_pos h,if_pos (by rw[h])]
  ·rw[if_neg h,if_neg (fun e=>h (hg _ _ e)),ez9]
theorem bo6(l:List A4):Lib.compact (l.map (·.b))=(H9 l).map (·.b):=by
 unfold Lib.compact;have:=br6 (l.map (·.b)).toArray (l.map (·.b)).length (by simp);rw[this];simp only[ew5];exact br7 (fun a b h=>by cases a;cases b;simpa using h) l
theorem aE3{α:Type}[DecidableEq α]:∀l:List α,(H9 l).length≤l.length
 | []=>by simp[H9]
 | [x]=>by simp[H9]
 | x::y::l=>by
  have ih:=aE3 (y::l);rw[H9];split<;>simp only[ex7]at * <;> omega
theorem as2{α:Type}[DecidableEq α]{z:α}:∀l:List α,z∈H9 l↔z∈l
 | []=>by simp[H9]
 | [x]=>by simp[H9]
 | x::y::l=>by
  have ih:=as2 (z:=z) (y::l);rw[H9];split
  ·next h=>subst h;rw[ih];simp
  ·rw[ex3,ih,ex3 (b:=x)]
theorem aK0:∀{l:List A4},l.Pairwise (fun a b=>a.b≤b.b)→(H9 l).Pairwise (fun a b=>Z0 a b=true)
 | [],_=>by simp[H9]
 | [x],_=>by simp[H9]
 | x::y::l,h=>by
  have h':=h;rw[eA5]at h;rw[H9];split
  ·exact aK0 h.2
  ·next hne=>
   rw[eA5];refine⟨fun z hz=>?_,aK0 h.2⟩;have hz':=(as2 _).1 hz;have hxy:=h.1 y (by simp);have hlt:Z0 x y=true:=by
    cases hq:Z0 x y
    ·exact absurd (av6 hxy (V7.1 hq)) hne
    ·rfl
   rcases ex3.1 hz' with rfl|hz'
   ·exact hlt
   ·rw[eA5]at h;have:=h.2.1 z hz';cases hq:Z0 x z
    ·have h3:=V7.1 hq;have:y=x:=av6 (aT8 this h3) hxy;exact absurd this.symm hne
    ·rfl
theorem P6(l:List A4):(C6 l).Pairwise (fun a b=>Z0 a b=true):=aK0 (aw9 l)
theorem G8{l:List A4}{x:A4}:x∈C6 l↔x∈l:=by rw[C6,as2,(S1 l).mem_iff]
theorem aq1(l:List A4):(C6 l).length≤l.length:=ew0 (aE3 _) (by rw[R0];exact ew8 _)
theorem bL3:∀{l m:List A4},l.Pairwise (fun a b=>Z0 a b=true)→m.Pairwise (fun a b=>Z0 a b=true)→(∀x,x∈l↔x∈m)→l=m
 | [],[],_,_,_=>rfl
 | [],y::m,_,_,h=>by have:=(h y).2 (by simp);simp at this
 | x::l,[],_,_,h=>by have:=(h x).1 (by simp);simp at this
 | x::l,y::m,h1,h2,h=>by
  rw[eA5]at h1 h2;have hxy:x=y:=by
   rcases ex3.1 ((h x).1 (by simp))with e|hx
   ·exact e
   rcases ex3.1 ((h y).2 (by simp))with e|hy
   ·exact e.symm
   have a1:=h1.1 y hy;have a2:=h2.1 x hx;have:=ak3 a1 a2;rw[J2]at this;cases this
  subst hxy;rw[bL3 h1.2 h2.2 fun z=>?_];have hz:=h z;simp only[ex3]at hz;constructor
  ·intro hm;rcases hz.1 (.inr hm)with e|hm'
   ·subst e;have:=h1.1 z hm;rw[J2]at this;cases this
   ·exact hm'
  ·intro hm;rcases hz.2 (.inr hm)with e|hm'
   ·subst e;have:=h2.1 z hm;rw[J2]at this;cases this
   ·exact hm'
end Go.Proofs.YtdgicngfmfldmaaGreat
namespace Go.Proofs
open Go.Shelf
def Tryz.lyS_ren:Go.Shelf.Ren:=⟨fun|190=>71|125=>110|258=>117|128=>170|129=>171|302=>173|303=>174|304=>175|305=>176|306=>177|307=>178|308=>179|309=>180|310=>181|333=>234|329=>222|330=>223|334=>235|335=>236|336=>143|344=>262|n=>n,fun|31=>22|9=>9|3=>3|46=>168|0=>0|51=>221|53=>223|4=>4|183=>215|182=>214|131=>193|5=>5|218=>258|222=>262|228=>286|229=>287|n=>n,fun|n=>n⟩
theorem Tryz.lyS:Go.Proofs.Lays.n190 Tryz.prog Tryz.lyS_ren:={
 mixed:=by kernel_rfl
 f125:=Tryz.func110.trans (congrArg some (by kernel_rfl))
 f128:=Tryz.func170.trans (congrArg some (by kernel_rfl))
 f129:=Tryz.func171.trans (congrArg some (by kernel_rfl))
 f190:=Tryz.func71.trans (congrArg some (by kernel_rfl))
 f258:=Tryz.func117.trans (congrArg some (by kernel_rfl))
 f302:=Tryz.func173.trans (congrArg some (by kernel_rfl))
 f303:=Tryz.func174.trans (congrArg some (by kernel_rfl))
 f304:=Tryz.func175.trans (congrArg some (by kernel_rfl))
 f305:=Tryz.func176.trans (congrArg some (by kernel_rfl))
 f306:=Tryz.func177.trans (congrArg some (by kernel_rfl))
 f307:=Tryz.func178.trans (congrArg some (by kernel_rfl))
 f308:=Tryz.func179.trans (congrArg some (by kernel_rfl))
 f309:=Tryz.func180.trans (congrArg some (by kernel_rfl))
 f310:=Tryz.func181.trans (congrArg some (by kernel_rfl))
 f329:=Tryz.func222.trans (congrArg some (by kernel_rfl))
 f330:=Tryz.func223.trans (congrArg some (by kernel_rfl))
 f333:=Tryz.func234.trans (congrArg some (by kernel_rfl))
 f334:=Tryz.func235.trans (congrArg some (by kernel_rfl))
 f335:=Tryz.func236.trans (congrArg some (by kernel_rfl))
 f336:=Tryz.func143.trans (congrArg some (by kernel_rfl))
 f344:=Tryz.func262.trans (congrArg some (by kernel_rfl))
 t0:=Tryz.underlying0
 a0:=Tryz.isAgg0
 z0:=Tryz.sizeOf0
 v0:=Tryz.zeroValue0
 t3:=Tryz.underlying3
 a3:=Tryz.isAgg3
 z3:=Tryz.sizeOf3
 v3:=Tryz.zeroValue3
 t4:=Tryz.underlying4
 a4:=Tryz.isAgg4
 z4:=Tryz.sizeOf4
 v4:=Tryz.zeroValue4
 t5:=Tryz.underlying5
 a5:=Tryz.isAgg5
 z5:=Tryz.sizeOf5
 v5:=Tryz.zeroValue5
 t9:=Tryz.underlying9
 a9:=Tryz.isAgg9
 z9:=Tryz.sizeOf9
 v9:=Tryz.zeroValue9
 t31:=Tryz.underlying22
 a31:=Tryz.isAgg22
 z31:=Tryz.sizeOf22
 v31:=Tryz.zeroValue22
 t46:=Tryz.underlying168
 a46:=Tryz.isAgg168
 z46:=Tryz.sizeOf168
 v46:=Tryz.zeroValue168
 t51:=Tryz.underlying221
 a51:=Tryz.isAgg221
 z51:=Tryz.sizeOf221
 v51:=Tryz.zeroValue221
 t53:=Tryz.underlying223
 a53:=Tryz.isAgg223
 z53:=Tryz.sizeOf223
 v53:=Tryz.zeroValue223
 t131:=Tryz.underlying193
 a131:=Tryz.isAgg193
 z131:=Tryz.sizeOf193
 v131:=Tryz.zeroValue193
 t182:=Tryz.underlying214
 a182:=Tryz.isAgg214
 z182:=Tryz.sizeOf214
 v182:=Tryz.zeroValue214
 t183:=Tryz.underlying215
 a183:=Tryz.isAgg215
 z183:=Tryz.sizeOf215
 v183:=Tryz.zeroValue215
 t218:=Tryz.underlying258
 a218:=Tryz.isAgg258
 z218:=Tryz.sizeOf258
 v218:=Tryz.zeroValue258
 t222:=Tryz.underlying262
 a222:=Tryz.isAgg262
 z222:=Tryz.sizeOf262
 v222:=Tryz.zeroValue262
 t228:=Tryz.underlying286
 a228:=Tryz.isAgg286
 z228:=Tryz.sizeOf286
 v228:=Tryz.zeroValue286
 t229:=Tryz.underlying287
 a229:=Tryz.isAgg287
 z229:=Tryz.sizeOf287
 v229:=Tryz.zeroValue287}
def Tryz.lyK_ren:Go.Shelf.Ren:=⟨fun|194=>128|n=>n,fun|31=>22|9=>9|3=>3|4=>4|0=>0|n=>n,fun|n=>n⟩
theorem Tryz.lyK:Go.Proofs.Lays.n194 Tryz.prog Tryz.lyK_ren:={
 mixed:=by kernel_rfl
 f194:=Tryz.func128.trans (congrArg some (by kernel_rfl))
 t0:=Tryz.underlying0
 a0:=Tryz.isAgg0
 z0:=Tryz.sizeOf0
 v0:=Tryz.zeroValue0
 t3:=Tryz.underlying3
 a3:=Tryz.isAgg3
 z3:=Tryz.sizeOf3
 v3:=Tryz.zeroValue3
 t4:=Tryz.underlying4
 a4:=Tryz.isAgg4
 z4:=Tryz.sizeOf4
 v4:=Tryz.zeroValue4
 t9:=Tryz.underlying9
 a9:=Tryz.isAgg9
 z9:=Tryz.sizeOf9
 v9:=Tryz.zeroValue9
 t31:=Tryz.underlying22
 a31:=Tryz.isAgg22
 z31:=Tryz.sizeOf22
 v31:=Tryz.zeroValue22}
end Go.Proofs
namespace Go.Proofs.YtdgicngfmfldmaaGreat
open Go Tryz
theorem eG8:type_of% @Array.getElem?_toList:=@Array.getElem?_toList
theorem eH9:type_of% @List.ext_getElem?:=@List.ext_getElem?
theorem ey8:type_of% @List.getElem?_map:=@List.getElem?_map
theorem eD9:type_of% @List.take_append_of_le_length:=@List.take_append_of_le_length
section
open Go.Sort
theorem dG0:(Tryz.lyS_ren.f 190)=71:=by kernel_rfl
theorem dF9:(Tryz.lyK_ren.f 194)=128:=by kernel_rfl
section
variable {α:Type} [Inhabited α]
theorem bp7(enc:α→Value)(d:Array α)(cur:Array Value)(h:d.size≤cur.size):(putCells enc 0 d cur).toList=d.toList.map enc++cur.toList.drop d.size:=by
 apply eH9;intro k;rw[eG8];unfold putCells;rw[Array.getElem?_mapIdx];rcases ez0 k d.size with hk|hk
 ·rw[eA0 (by simpa using hk),eE1 (by omega)];simp[hk]
 ·rw[ez6 (by simpa using hk),eF0,ew3,eI4,show d.size+(k-d.size)=k by omega];rcases ez0 k cur.size with hc|hc
  ·simp[hc,show ¬k<d.size by omega]
  ·simp[show cur.size≤k by omega]
theorem bB9{w:World}{b:Nat}{T:TypeId}{cur:Array Value}(hh:w.heap[b]?=some (.cells cur T (0,0)))(enc:α→Value)(d:Array α)(h:d.size≤cur.size)(n:Nat)(os:Array Obj):
  (grow (putRow enc (Go.Sort.ahead w n) b 0 d) os).heap[b]?=some (.cells (d.toList.map enc++cur.toList.drop d.size).toArray T (0,0))∧o9 (fun c=>c=b) w (grow (putRow enc (Go.Sort.ahead w n) b 0 d) os):=by
 have hb:b<w.heap.size:=(ev9.1 hh).1;have hsz:(putRow enc (Go.Sort.ahead w n) b 0 d).heap.size=w.heap.size:=by rw[size_putRow];rfl
 have hg:∀c,(putRow enc (Go.Sort.ahead w n) b 0 d).heap[c]?=if b=c then(w.heap[c]?).map (onCells (putCells enc 0 d))else w.heap[c]?:=fun c=>by
  unfold putRow mapBlock;rw[Array.getElem?_modify];split<;>rfl
 refine⟨?_,⟨rfl,rfl,rfl,?_,fun c hc hne=>?_⟩⟩
 ·show((putRow enc (Go.Sort.ahead w n) b 0 d).heap++os)[b]?=_;rw[Array.getElem?_append_left (by rw[hsz];exact hb),hg b,if_pos rfl,hh];simp only[eB4,onCells,←bp7 enc d cur h,Array.toArray_toList]
 ·show w.heap.size≤((putRow enc (Go.Sort.ahead w n) b 0 d).heap++os).size;rw[Array.size_append,hsz];omega
 ·show((putRow enc (Go.Sort.ahead w n) b 0 d).heap++os)[c]?=_;rw[Array.getElem?_append_left (by rw[hsz];exact hc),hg c,if_neg (fun e=>hne e.symm)]
end
theorem aB0{h:Hp}{cs:List Value}{l:List A4}:N0 h cs l↔cs=l.map o7:=by
 induction l generalizing cs with
 | nil=>simp[N0]
 | cons x l ih=>
  rw[N0];constructor
  ·rintro⟨c1,c2,rfl,h1,h2⟩;have:c1=[o7 x]:=h1;rw[this,ih.1 h2];rfl
  ·rintro rfl;exact⟨[o7 x],l.map o7,rfl,rfl,ih.2 rfl⟩
section
variable {h:Hp} {w:World} {v:Value} {l:List A4}
theorem bK5(ho:A9 h w 9 v l):(v = .slice none 0 0∧l=[])∨∃b c cur,v = .slice (some ⟨b,0,none⟩) l.length c∧h b=none∧w.heap[b]?=some (.cells cur 9 (0,0))∧l.length≤c∧c≤maxLen∧cur.size=c∧cur.toList.take l.length=l.map o7:=by
 rcases ho with hn|⟨b,c,cur,rfl,h1,h2,h3,h4,h5,h6⟩
 ·exact .inl hn
 ·have e:z7.sz A4=1:=rfl;rw[e,eE8]at h5 h6;exact .inr ⟨b,c,cur,rfl,h1,h2,h3,h4,h5,aB0.1 h6⟩
theorem aZ6{b c:Nat}{cur:Array Value}(h1:h b=none)(h2:w.heap[b]?=some (.cells cur 9 (0,0)))(h3:l.length≤c)(h4:c≤maxLen)(h5:cur.size=c)(h6:cur.toList.take l.length=l.map o7):
  A9 h w 9 (.slice (some ⟨b,0,none⟩) l.length c) l:=by
 have e:z7.sz A4=1:=rfl;refine .inr ⟨b,c,cur,rfl,h1,h2,h3,h4,by rw[e,h5,eE8],?_⟩;rw[e,eE8,h6];exact aB0.2 rfl
theorem bh4{b:Nat}{cur:Array Value}(h2:w.heap[b]?=some (.cells cur 9 (0,0)))(h6:cur.toList.take l.length=l.map o7):Holds encStr w b 0 (l.map A4.b).toArray:=fun j hj=>by
 have hj':j<l.length:=by simpa using hj
 rw[ey7,eC4 w b j cur _ (0,0) h2];have h7:=ex0 (fun z=>z[j]?) h6;simp only[eF1,if_pos hj',ey8,ev2 hj',eB4]at h7;refine⟨?_,frozen_of_row w b j cur _ h2⟩;rw[getElem!_pos _ j hj];simpa[o7]using h7
theorem cn8(ho:A9 h w 9 v l)(hl:l.length≤1000000000):
  Calls prog 71 #[v] w fun e w'=>e = .returned (.tuple #[])∧A9 h w' 9 v (R4 l)∧o9 (A3 v) w w':=by
 rw[←dG0];rcases bK5 ho with⟨rfl,rfl⟩|⟨b,c,cur,rfl,h1,h2,h3,h4,h5,h6⟩
 ·refine(Any.slices_Sort_string_none Tryz.lyS none 0 w).mono ?_;rintro e w' ⟨rfl,rfl⟩;exact⟨rfl,A9.nil _ _ _,o9.refl _⟩
 ·have hb:b<w.heap.size:=(ev9.1 h2).1;have:=Any.slices_Sort_string Tryz.lyS b 0 c (l.map A4.b) w (bh4 h2 h6) hb (by rw[ew3];omega);rw[ew3]at this;refine this.mono ?_;rintro e w' ⟨rfl,n,os,rfl⟩;rw[bM7];obtain⟨k1,k2⟩:=bB9 h2 encStr ((R4 l).map A4.b).toArray (by simp[R0];omega) n os;refine⟨rfl,?_,k2.weaken fun _ _ e=>by subst e;rfl⟩;have hlen:=R0 l;rw[←hlen]at h3 ⊢;refine aZ6 h1 k1 h3 h4 ?_ ?_
  ·simp[R0];omega
  ·simp only[List.map_map];rw[eD9 (by simp),ez7 (by simp)];rfl
theorem aT1(ho:A9 h w 9 v l)(hl:l.length≤1000000000):
  Calls prog 128 #[v] w fun e w'=>∃u,e = .returned u∧(A9 h w' 9 u (H9 l)∧o9 (A3 v) w w'∧F1 w v u):=by
 rw[←dF9];rcases bK5 ho with⟨rfl,rfl⟩|⟨b,c,cur,rfl,h1,h2,h3,h4,h5,h6⟩
 ·refine(Any.slices_Compact_string_empty Tryz.lyK none 0 w).mono ?_;rintro e w' ⟨rfl,rfl⟩;exact⟨_,rfl,A9.nil _ _ _,o9.refl _,fun b hb=>.inl hb⟩
 ·have:=Any.slices_Compact_string Tryz.lyK b 0 c (l.map A4.b) w (bh4 h2 h6) (by rw[ew3];omega) (by rw[ew3];omega);rw[ew3]at this;refine this.mono ?_;rintro e w' ⟨rfl,q,rfl⟩;rw[bo6,ew3];have hlen:=aE3 l;have hsz:(((H9 l).map A4.b++List.replicate (l.length-(H9 l).length) []).toArray).size=l.length:=by simp;omega
  obtain⟨k1,k2⟩:=bB9 h2 encStr (((H9 l).map A4.b++List.replicate (l.length-(H9 l).length) []).toArray) (by rw[hsz];omega) q #[];rw[grow_empty]at k1 k2;refine⟨_,rfl,?_,k2.weaken fun _ _ e=>by subst e;rfl,fun b hb=>.inl hb⟩;refine aZ6 h1 k1 (by omega) h4 ?_ ?_
  ·simp;omega
  ·simp only[ey5,List.map_map,ex9];rw[eD9 (by simp),ez7 (by simp)];rfl
end
end
theorem eB9:type_of% @List.pairwise_iff_getElem:=@List.pairwise_iff_getElem
theorem zVC:type_of% (And.intro (And.intro (And.intro (And.intro (And.intro @dG5 @dG2) (And.intro @dD6 (And.intro @Option.map_some.{0,0} @Option.map_none.{0,0}))) (And.intro (And.intro @Int.toNat_zero (And.intro @Option.isNone_none.{0} @Option.isNone_some.{0})) (And.intro @J8 (And.intro @bz6.eq_1 @bz6.eq_2)))) (And.intro (And.intro (And.intro @cL9.eq_1 (And.intro @cz2.eq_1 @cz1.eq_1)) (And.intro @TY (And.intro @Option.isSome_some.{0} @eE6))) (And.intro (And.intro @Bool.and_true (And.intro @eE8 @ex8)) (And.intro @ek0 (And.intro @Int.cast_ofNat_Int @decide_true))))) (And.intro (And.intro (And.intro (And.intro @add_lit (And.intro @ey7 @Nat.zero_mul)) (And.intro @Nat.one_mul (And.intro @Bool.not_true @Bool.not_false))) (And.intro (And.intro @ek1 (And.intro @dF4 @ea6)) (And.intro @ea5 (And.intro @ea4 @ea3)))) (And.intro (And.intro (And.intro @ea2 (And.intro @ea9 @ea0)) (And.intro @eb0 (And.intro @dC5 @dC4))) (And.intro (And.intro @ea1 (And.intro @ea8 @bZ6)) (And.intro @cL2 (And.intro @ea7 @ep7)))))):=(And.intro (And.intro (And.intro (And.intro (And.intro @dG5 @dG2) (And.intro @dD6 (And.intro @Option.map_some.{0,0} @Option.map_none.{0,0}))) (And.intro (And.intro @Int.toNat_zero (And.intro @Option.isNone_none.{0} @Option.isNone_some.{0})) (And.intro @J8 (And.intro @bz6.eq_1 @bz6.eq_2)))) (And.intro (And.intro (And.intro @cL9.eq_1 (And.intro @cz2.eq_1 @cz1.eq_1)) (And.intro @TY (And.intro @Option.isSome_some.{0} @eE6))) (And.intro (And.intro @Bool.and_true (And.intro @eE8 @ex8)) (And.intro @ek0 (And.intro @Int.cast_ofNat_Int @decide_true))))) (And.intro (And.intro (And.intro (And.intro @add_lit (And.intro @ey7 @Nat.zero_mul)) (And.intro @Nat.one_mul (And.intro @Bool.not_true @Bool.not_false))) (And.intro (And.intro @ek1 (And.intro @dF4 @ea6)) (And.intro @ea5 (And.intro @ea4 @ea3)))) (And.intro (And.intro (And.intro @ea2 (And.intro @ea9 @ea0)) (And.intro @eb0 (And.intro @dC5 @dC4))) (And.intro (And.intro @ea1 (And.intro @ea8 @bZ6)) (And.intro @cL2 (And.intro @ea7 @ep7))))))
theorem ef1:af6 prog 140=true:=by kernel_rfl
theorem cw5:af6 prog 143=true:=by kernel_rfl
theorem eg3:af6 prog 179=true:=by kernel_rfl
theorem eh2:af6 prog 202=true:=by kernel_rfl
theorem ldB{h:Hp}{v:Value}{l:List Bool}{w:World}(hv:R h v l)(hw:B4 h (d7 w)){k:Nat}(hk:k<l.length):(Instr.loadAt 4 (.pointer (some (H4 v k)))).run prog w = .ok (.bool l[k]) w:=
 M8 (P:=prog) (t:=4) hv hw (ev2 hk) ao9
theorem al9(v:Value)(l:List A4)(w:World)(hv:R (d7 w) v l)(hl:l.length≤1000000000):
  Calls prog 70 #[v] w fun e w'=>∃u,e = .returned u∧(A9 (d7 w) w' 9 u l∧o6 w w'):=by
 refine d9 (args:=[v]) hm func70 rfl (by kernel_rfl) (by show 1≤_;decide +kernel) ?_;have hS:=hv.isS;have hb:B7 prog .eql 22 v (.slice none 0 0)=some (.bool (bJ9 v)):=by
  obtain⟨a,n,c,he,_⟩:=hv;simp at he;subst he;simp[B7,Go.Proofs.YtdgicngfmfldmaaGreat.isS,cZ6]
 obtain⟨u0,w0,hb0,ho0,hx0,hf0⟩:=dF6 (P:=prog) (w:=w) (h:=d7 w) (α:=A4) aq8 (i4 _);obtain⟨u1,w1,ha,ho1,hm1,hv1⟩:=an1 (P:=prog) (e:=22) aq8 rfl ho0 hv (by simp;omega) (by simp;omega) (b7 hx0);rcases ev3 (bJ9 v)with hc|hc
 ·simp only[n3,n9,simprocAttr,hb,hc];refine n7 results70 ?_;simp only[p6,simprocAttr];obtain⟨a,n,c,he,hn,hnc,es,hes,hce⟩:=hv;simp at he;subst he;cases a with
  | some a=>simp[bJ9]at hc
  | none=>
   have hes0:es=[]:=by
    cases es with
    | nil=>rfl
    | cons x _=>obtain⟨ad,e,_⟩:=hce 0 x rfl;cases e
   subst hes0;have:=J7 hes;have hl0:l=[]:=by
    cases l with
    | nil=>rfl
    | cons _ _=>simp[z7.sz]at this
   subst hl0;exact⟨A9.nil _ _ _,o9.refl _⟩
 ·simp only[n3,n9,simprocAttr,hb,hc,hb0,ha];refine n7 results70 ?_;simp only[p6,simprocAttr];exact⟨by simpa using ho1,ho0.ext2 hx0 hm1⟩
theorem bi8{α:Type}:∀{l m:List α},l.length=m.length→(∀j (h1:j<l.length) (h2:j<m.length),l[j]=m[j])→l=m:=fun{l m} h1 h2=>eC3 h1 fun j h3 h4=>h2 j h3 h4
theorem bg3(va vb:Value)(a b:List A4)(w:World)(ha:R (d7 w) va a)(hb:R (d7 w) vb b)(h1:a.length≤1000000000)(h2:b.length≤1000000000):
  Calls prog 81 #[va,vb] w fun e w'=>∃u,e = .returned u∧(u = .bool (decide (a=b))∧o6 w w'):=by
 refine d9 (args:=[va,vb]) hm func81 rfl (by kernel_rfl) (by show 2≤_;decide +kernel) ?_;have hSa:=ha.isS;have hna:=ha.vlen;have hSb:=hb.isS;have hnb:=hb.vlen;have hdn:decide ((a.length:Int)=(b.length:Int))=decide (a.length=b.length):=by rw[ez8];omega
 rcases ev3 (decide (a.length=b.length))with hlen|hlen;rotate_left
 ·simp only[n3,n9,simprocAttr,hSa,hna,hSb,hnb,hdn,hlen];refine n7 results81 ?_;simp only[p6,simprocAttr];have:a≠b:=fun e=>ev7 hlen (ex0 List.length e);exact⟨by simp[this],o9.refl _⟩
 have hlen':a.length=b.length:=ev6 hlen;simp only[n3,n9,simprocAttr,hSa,hna,hSb,hnb,hdn,hlen];refine n8 [0,1,11,12] (σ:=Nat) (fun k f w'=>f 13 = .int .i64 k∧k≤a.length∧(∀j (hj:j<a.length) (hj2:j<b.length),j<k→a[j]=b[j])∧o6 w w') (fun k=>a.length-k) 0 (by decide +kernel) ?_ ?_
 ·simp only[p6,simprocAttr];exact⟨by trivial,ew4 _,fun j _ _ h=>by omega,o9.refl _⟩
 rintro k f w3 hk ⟨h13,hkl,hno,hx3⟩;simp only[ev4,p6,simprocAttr]at hk;obtain⟨e0,e1,e11,e12,_⟩:=hk;simp only[n3,n9,simprocAttr,h13,e12];refine i5 (fun hc=>?_) (fun hc=>?_);rotate_left
 ·have hge:k=a.length:=by simp at hc;omega
  subst hge;simp only[n3,simprocAttr];refine n7 results81 ?_;simp only[p6,simprocAttr];have:a=b:=bi8 hlen' fun j h1 h2=>hno j h1 h2 h1;exact⟨by simp[this],hx3⟩
 have hlt:k<a.length:=by simpa using hc
 have hlt2:k<b.length:=by omega
 have hin:=ha.inS hlt;have hin2:=hb.inS hlt2;have hst:∀w',o6 w3.drew w'→B4 (d7 w) (d7 w'):=fun w' h=>b7 (hx3.trans ((o6.drew w3).trans h));have k1:∀K f d w0,B8 prog (fun w'=>o6 w3.drew w') (Instr.loadAt 9 (.pointer (some (H4 va k)))) K f d w0=K (A5 f d (o7 a[k])) w0:=fun K f d w0=>A0 (w0:=w3.drew) (o9.refl _) fun w' h=>ldS ha (hst w' h) hlt;have k2:∀K f d w0,B8 prog (fun w'=>o6 w3.drew w') (Instr.loadAt 9 (.pointer (some (H4 vb k)))) K f d w0=K (A5 f d (o7 b[k])) w0:=fun K f d w0=>A0 (w0:=w3.drew) (o9.refl _) fun w' h=>ldS hb (hst w' h) hlt2;have hbb:(a[k]==b[k])=decide (a[k]=b[k]):=rfl;simp only[n3,simprocAttr,h13];refine C2 (fun w'=>o6 w3.drew w') 9 (A8 [0,1,2,3,4,5,6,7,8]) (by decide +kernel) (o9.refl _) ?_;rcases ev3 (decide (a[k]=b[k]))with hq|hq
 ·simp only[D5,A8,n3,n9,p9,simprocAttr,e0,e1,hin,hin2,k1,k2,hq,h13];refine⟨k+1,by omega,by rw[B1 k (by omega)],by omega,fun j hj hj2 hjk=>?_,hx3.trans (o6.drew _)⟩;rcases ez0 j k with h|h
  ·exact hno j hj hj2 h
  ·obtain rfl:j=k:=by omega
   exact ev6 hq
 ·simp only[D5,A8,n3,n9,p9,simprocAttr,e0,e1,hin,hin2,k1,k2,hq];refine n7 results81 ?_;simp only[p6,simprocAttr];have:a≠b:=fun e=>ev7 hq (by subst e;rfl);exact⟨by simp[this],hx3.trans (o6.drew _)⟩
theorem bR5(va vb:Value)(a b:List Bool)(w:World)(ha:R (d7 w) va a)(hb:R (d7 w) vb b)(h1:a.length≤1000000000)(h2:b.length≤1000000000):
  Calls prog 145 #[va,vb] w fun e w'=>∃u,e = .returned u∧(u = .bool (decide (a=b))∧o6 w w'):=by
 refine d9 (args:=[va,vb]) hm func145 rfl (by kernel_rfl) (by show 2≤_;decide +kernel) ?_;have hSa:=ha.isS;have hna:=ha.vlen;have hSb:=hb.isS;have hnb:=hb.vlen;have hdn:decide ((a.length:Int)=(b.length:Int))=decide (a.length=b.length):=by rw[ez8];omega
 rcases ev3 (decide (a.length=b.length))with hlen|hlen;rotate_left
 ·simp only[n3,n9,simprocAttr,hSa,hna,hSb,hnb,hdn,hlen];refine n7 results145 ?_;simp only[p6,simprocAttr];have:a≠b:=fun e=>ev7 hlen (ex0 List.length e);exact⟨by simp[this],o9.refl _⟩
 have hlen':a.length=b.length:=ev6 hlen;simp only[n3,n9,simprocAttr,hSa,hna,hSb,hnb,hdn,hlen];refine n8 [0,1,11,12] (σ:=Nat) (fun k f w'=>f 13 = .int .i64 k∧k≤a.length∧(∀j (hj:j<a.length) (hj2:j<b.length),j<k→a[j]=b[j])∧o6 w w') (fun k=>a.length-k) 0 (by decide +kernel) ?_ ?_
 ·simp only[p6,simprocAttr];exact⟨by trivial,ew4 _,fun j _ _ h=>by omega,o9.refl _⟩
 rintro k f w3 hk ⟨h13,hkl,hno,hx3⟩;simp only[ev4,p6,simprocAttr]at hk;obtain⟨e0,e1,e11,e12,_⟩:=hk;simp only[n3,n9,simprocAttr,h13,e12];refine i5 (fun hc=>?_) (fun hc=>?_);rotate_left
 ·have hge:k=a.length:=by simp at hc;omega
  subst hge;simp only[n3,simprocAttr];refine n7 results145 ?_;simp only[p6,simprocAttr];have:a=b:=bi8 hlen' fun j h1 h2=>hno j h1 h2 h1;exact⟨by simp[this],hx3⟩
 have hlt:k<a.length:=by simpa using hc
 have hlt2:k<b.length:=by omega
 have hin:=ha.inS hlt;have hin2:=hb.inS hlt2;have hst:∀w',o6 w3.drew w'→B4 (d7 w) (d7 w'):=fun w' h=>b7 (hx3.trans ((o6.drew w3).trans h));have k1:∀K f d w0,B8 prog (fun w'=>o6 w3.drew w') (Instr.loadAt 4 (.pointer (some (H4 va k)))) K f d w0=K (A5 f d (.bool a[k])) w0:=fun K f d w0=>A0 (w0:=w3.drew) (o9.refl _) fun w' h=>ldB ha (hst w' h) hlt;have k2:∀K f d w0,B8 prog (fun w'=>o6 w3.drew w') (Instr.loadAt 4 (.pointer (some (H4 vb k)))) K f d w0=K (A5 f d (.bool b[k])) w0:=fun K f d w0=>A0 (w0:=w3.drew) (o9.refl _) fun w' h=>ldB hb (hst w' h) hlt2;have hbb:(a[k]==b[k])=decide (a[k]=b[k]):=rfl;simp only[n3,simprocAttr,h13];refine C2 (fun w'=>o6 w3.drew w') 9 (A8 [0,1,2,3,4,5,6,7,8]) (by decide +kernel) (o9.refl _) ?_;rcases ev3 (decide (a[k]=b[k]))with hq|hq
 ·simp only[D5,A8,n3,n9,p9,simprocAttr,e0,e1,hin,hin2,k1,k2,bc6,hbb,hq,h13];refine⟨k+1,by omega,by rw[B1 k (by omega)],by omega,fun j hj hj2 hjk=>?_,hx3.trans (o6.drew _)⟩;rcases ez0 j k with h|h
  ·exact hno j hj hj2 h
  ·obtain rfl:j=k:=by omega
   exact ev6 hq
 ·simp only[D5,A8,n3,n9,p9,simprocAttr,e0,e1,hin,hin2,k1,k2,bc6,hbb,hq];refine n7 results145 ?_;simp only[p6,simprocAttr];have:a≠b:=fun e=>ev7 hq (by subst e;rfl);exact⟨by simp[this],hx3.trans (o6.drew _)⟩
theorem bj1(s:A4)(w:World):Calls prog 143 #[o7 s] w fun e w'=>∃u,e = .returned u∧(u = .bool false∧w'=w):=by
 refine d9 (args:=[o7 s]) hm func143 rfl (by kernel_rfl) (by show 1≤_;decide +kernel) ?_;simp only[n3,n9,simprocAttr];refine n7 results143 ?_;simp only[p6,simprocAttr];exact⟨by trivial,by trivial⟩
theorem cm5(s:A4)(w:World):Calls prog 202 #[o7 s] w fun e w'=>∃u,e = .returned u∧(u = .bool false∧w'=w):=by
 refine d9 (args:=[o7 s]) hm func202 rfl (by kernel_rfl) (by show 1≤_;decide +kernel) ?_;simp only[n3,n9,simprocAttr];refine n7 results202 ?_;simp only[p6,simprocAttr];exact⟨by trivial,by trivial⟩
theorem cl5(a b:A4)(w:World):Calls prog 179 #[o7 a,o7 b] w fun e w'=>∃u,e = .returned u∧(u = .bool (Z0 a b)∧w'=w):=by
 refine d9 (args:=[o7 a,o7 b]) hm func179 rfl (by kernel_rfl) (by show 2≤_;decide +kernel) ?_;simp only[n3,n9,simprocAttr];refine D1 cw5 (bj1 a w) ?_;simp only[n3,n9,simprocAttr];refine n7 results179 ?_;simp only[p6,simprocAttr];exact⟨by trivial,by trivial⟩
theorem cM3{n:Nat}(h:n<4000000000000000000):aX2 prog 3 168 (.int .i64 n)=some (.int .u64 n):=by
 have h1:az3 prog 168=some .u64:=by kernel_rfl
 have h2:(prog.underlying 3).isSome=true:=by kernel_rfl
 simp only[aX2,h1,h2,eB2]
 congr 2
 have:(n:Int) % 18446744073709551616=n:=by omega
 simp[IntKind.wrap,IntKind.bits,IntKind.signed];omega
theorem cM4{n:Nat}(h:n<4000000000000000000):aX2 prog 168 3 (.int .u64 n)=some (.int .i64 n):=by
 have h1:az3 prog 3=some .i64:=by kernel_rfl
 have h2:(prog.underlying 168).isSome=true:=by kernel_rfl
 simp only[aX2,h1,h2,eB2]
 congr 2
 exact K1 _ (by omega)
theorem dI2{P:Program}{t:TypeId}{n:Nat}:B7 P .shr t (.int .u64 n) (.int .u64 1)=some (.int .u64 (n / 2:Nat)):=by
 simp only[B7];rw[if_neg (by decide)]
 congr 2
 have:min (Int.toNat 1) IntKind.u64.bits=1:=by decide
 rw[this,Int.fdiv_eq_ediv_of_nonneg _ (by decide)]
 norm_cast
theorem bL6(v:Value)(l:List A4)(x:A4)(w:World)(hv:R (d7 w) v l)(hl:l.length≤1000000000)(hs:l.Pairwise (fun a b=>Z0 a b=true)):
  Calls prog 140 #[v,o7 x] w fun e w'=>∃u,e = .returned u∧(∃i:Int,u = .tuple #[.int .i64 i,.bool (l.contains x)]∧w'=w):=by
 refine d9 (args:=[v,o7 x]) hm func140 rfl (by kernel_rfl) (by show 2≤_;decide +kernel) ?_;have hS:=hv.isS;have hn:=hv.vlen;have hs':=eB9.1 hs;simp only[n3,n9,simprocAttr,hS,hn];refine n8 [0,1,6] (σ:=Nat×Nat) (fun s f w'=>f 7 = .int .i64 s.1∧f 8 = .int .i64 s.2∧s.1≤s.2∧s.2≤l.length∧(∀j (hj:j<l.length),j<s.1→Z0 l[j] x=true)∧(∀j (hj:j<l.length),s.2≤j→Z0 l[j] x=false)∧w'=w) (fun s=>s.2-s.1) (0,l.length) (by decide +kernel) ?_ ?_
 ·simp only[p6,simprocAttr];exact⟨by trivial,by trivial,ew4 _,ew8 _,fun j _ h=>by omega,fun j hj h=>by omega,by trivial⟩
 rintro⟨i,j⟩ f w2 hk ⟨h7,h8,hij,hjl,hlo,hhi,rfl⟩;simp only at h7 h8 hij hjl hlo hhi;simp only[ev4,p6,simprocAttr]at hk;obtain⟨e0,e1,e6,_⟩:=hk;simp only[n3,n9,simprocAttr,h7,h8];refine i5 (fun hc=>?_) (fun hc=>?_)
 ·have hlt:i<j:=by simpa using hc
  have hw1:IntKind.i64.wrap ((i:Int)+(j:Int))=((i+j:Nat):Int):=by rw[K1 _ (by omega)];omega
  have hm:(i+j) / 2<l.length:=by omega
  have hin:=hv.inS hm;have hld:=ldS hv (i4 _) hm;have cv1:=cM3 (n:=i+j) (by omega);have cv2:=cM4 (n:=(i+j) / 2) (by omega);generalize hM:(i+j) / 2=m at hm hin hld cv2;have hsh:B7 prog .shr 168 (.int .u64 ((i+j:Nat):Int)) (.int .u64 1)=some (.int .u64 (m:Nat)):=by rw[dI2,hM]
  simp only[n3,zVC,p9,simprocAttr,h7,h8,hw1,cv1,hsh,cv2,e0,e1,hin,hld];refine D1 eg3 (cl5 l[m] x w2) ?_;rcases ev3 (Z0 l[m] x)with hq|hq
  ·simp only[n3,n9,simprocAttr,hq,h8];refine⟨(m+1,j),by simp only[];omega,by simp only[];rw[B1 m (by omega)],by trivial,by simp only[];omega,by simp only[];omega,fun k hk hkm=>?_,hhi,by trivial⟩;simp only at hkm;rcases ez0 k m with h|h
   ·exact ak3 (hs' k m hk hm h) hq
   ·obtain rfl:k=m:=by omega
    exact hq
  ·simp only[n3,simprocAttr,hq,h7];refine⟨(i,m),by simp only[];omega,by trivial,by trivial,by simp only[];omega,by simp only[];omega,hlo,fun k hk hkm=>?_,by trivial⟩;simp only at hkm;rcases ez0 m k with h|h
   ·cases hz:Z0 l[k] x
    ·rfl
    ·have:=ak3 (hs' m k hm hk h) hz;rw[hq]at this;cases this
   ·obtain rfl:k=m:=by omega
    exact hq
 ·have hge:i=j:=by simp at hc;omega
  subst hge;rcases ev3 (decide ((i:Int)<(l.length:Int)))with hlt|hlt
  ·have hi:i<l.length:=by simpa using hlt
   have hin:=hv.inS hi;have hld:=ldS hv (i4 _) hi;rcases ev3 (decide (l[i]=x))with hq|hq
   ·have hc2:l.contains x=true:=ex4.2 (by rw[←ev6 hq];exact ew2 hi);simp only[n3,n9,p9,simprocAttr,h7,e0,e1,e6,hlt,hin,hld,hq];refine ad8 results140 ?_;simp only[p6,simprocAttr];exact⟨i,by rw[hc2],by trivial⟩
   ·have hc2:l.contains x=false:=by
     cases hz:l.contains x
     ·rfl
     ·obtain⟨k,hk,e⟩:=eA8.1 (ex4.1 hz);rcases Nat.lt_trichotomy k i with h|h|h
      ·have:=hlo k hk h;rw[e,J2]at this;cases this
      ·subst h;exact absurd e (ev7 hq)
      ·have h2:=hs' i k hi hk h;rw[e,hhi i hi (ew8 _)]at h2;cases h2
    simp only[n3,n9,p9,simprocAttr,h7,e0,e1,e6,hlt,hin,hld,hq];refine D1 eh2 (cm5 l[i] w2) ?_;simp only[n3,simprocAttr];refine ad8 results140 ?_;simp only[p6,simprocAttr];exact⟨i,by rw[hc2],by trivial⟩
  ·have hc2:l.contains x=false:=by
    cases hz:l.contains x
    ·rfl
    ·obtain⟨k,hk,e⟩:=eA8.1 (ex4.1 hz);have:=hlo k hk (by simp at hlt;omega);rw[e,J2]at this;cases this
   simp only[n3,n9,simprocAttr,h7,e6,hlt];refine ad8 results140 ?_;simp only[p6,simprocAttr];exact⟨i,by rw[hc2],by trivial⟩
theorem aa9(v:Value)(l:List A4)(x:A4)(w:World)(hv:R (d7 w) v l)(hl:l.length≤1000000000)(hs:l.Pairwise (fun a b=>Z0 a b=true)):
  Calls prog 91 #[v,o7 x] w fun e w'=>∃u,e = .returned u∧(u = .bool (l.contains x)∧w'=w):=by
 refine d9 (args:=[v,o7 x]) hm func91 rfl (by kernel_rfl) (by show 2≤_;decide +kernel) ?_;simp only[n3,n9,simprocAttr];refine y5 ef1 (bL6 v l x w hv hl hs) ?_;rintro u w2 ⟨i,rfl,rfl⟩;simp only[n3,simprocAttr];refine n7 results91 ?_;simp only[p6,simprocAttr];exact⟨by trivial,by trivial⟩
theorem ey3:type_of% @List.length_singleton:=@List.length_singleton
theorem dd6:af6 prog 218=true:=by kernel_rfl
mutual
theorem cj7:∀(t:St) (k:Nat) (pr up nx lp:Int),∀it∈U7 t k pr up nx lp,it.proc=pr
 | .mk id kind labels name proc x has args thn els,k,pr,up,nx,lp,it,h=>by
  rw[P2]at h;rcases ex3.1 h with rfl|h
  ·rfl
  ·rcases ew7.1 h with h|h
   ·exact av1 thn _ _ _ _ _ it h
   ·exact av1 els _ _ _ _ _ it h
theorem av1:∀(l:List St) (k:Nat) (pr up nx lp:Int),∀it∈C4 l k pr up nx lp,it.proc=pr
 | [],_,_,_,_,_,it,h=>by simp[C4]at h
 | t::l,k,pr,up,nx,lp,it,h=>by
  rw[C4]at h;rcases ew7.1 h with h|h
  ·exact cj7 t _ _ _ _ _ it h
  ·exact av1 l _ _ _ _ _ it h
end
theorem bB1(p:Pg)(hw:C8 p≤1000000)(i:Nat)(hi:i<p.procs.length):∀it∈(b9 p).of i,it.proc=(i:Int):=fun it h=>by
 obtain⟨x,_,e⟩:=V0 p hw i hi;rw[e]at h;exact av1 _ _ _ _ _ _ it h
theorem bT5(v:Value)(p:Pg)(w:World)(hv:SV (d7 w) v p)(hw:C8 p≤1000000):Calls prog 156 #[v] w fun e w'=>∃u,e = .returned u∧((if(L4 p).1=0 then ∃a,u = .pointer (some a)∧At (d7 w') a (b9 p)else u = .pointer none)∧o6 w w'):=by
 refine d9 (args:=[v]) hm func156 rfl (by kernel_rfl) (by show 1≤_;decide +kernel) ?_;obtain⟨a,w1,hbx,hx1,ha⟩:=ab7 (w:=w) (fun _=>False) hv (fun _ h=>h.elim);obtain⟨lw,_⟩:=L8.pg_v hv ha;have hlw:∀w',o6 w1 w'→B4 (B5 w1 fun _=>False) (d7 w'):=fun w' h=>p8 (C0 _ _) (b7 h);have lw1:=lw w1 (hlw _ (o9.refl _));simp only[n3,n9,simprocAttr,hbx,lw1];refine B3 bT0 (ac6 v p w1 (hv.mono (b7 hx1)) hw) (fun w3 hx3=>?_);rcases ev3 (decide ((L4 p).1=0))with hsc|hsc;rotate_left
 ·simp only[n3,n9,simprocAttr,ai9,hsc];refine n7 results156 ?_;simp only[p6,simprocAttr];exact⟨by rw[if_neg (ev7 hsc)];trivial,hx1.trans hx3⟩
 have lw3:=lw w3 (hlw _ hx3);simp only[n3,n9,simprocAttr,ai9,hsc,lw3];refine y5 aO1 (af9 v p w3 (hv.mono (b7 (hx1.trans hx3))) hw) ?_;rintro us w4 ⟨sh,rfl,hsh,hx4⟩;simp only[n3,simprocAttr];refine n7 results156 ?_;simp only[p6,simprocAttr];exact⟨by rw[if_pos (ev6 hsc)];exact⟨sh,rfl,hsh⟩,hx1.trans (hx3.trans hx4)⟩
theorem bt4(v vl:Value)(seen l:List A4)(h:Hp)(w:World)(ho:A9 h w 9 v seen)(hl:R h vl l)(hh:B4 h (d7 w))(h1:seen.length+l.length≤1000000):
  Calls prog 157 #[v,vl] w fun e w'=>∃u,e = .returned u∧((∃u' ok,u = .tuple #[u',.bool ok]∧ok=(am5 seen l).isSome∧∀s,am5 seen l=some s→A9 h w' 9 u' s∧s.length=seen.length+l.length)∧o9 (A3 v) w w'):=by
 refine d9 (args:=[v,vl]) hm func157 rfl (by kernel_rfl) (by show 2≤_;decide +kernel) ?_;have hS:=hl.isS;have hn:=hl.vlen;simp only[n3,n9,simprocAttr,hS,hn];refine n8 [8,9] (σ:=Nat×Value×List A4) (fun s f w'=>f 10 = .int .i64 s.1∧f 0=s.2.1∧s.1≤l.length∧A9 h w' 9 s.2.1 s.2.2∧am5 seen l=am5 s.2.2 (l.drop s.1)∧s.2.2.length=seen.length+s.1∧o9 (A3 v) w w'∧F1 w v s.2.1) (fun s=>l.length-s.1) (0,v,seen) (by decide +kernel) ?_ ?_
 ·simp only[p6,simprocAttr];exact⟨by trivial,by trivial,ew4 _,ho,by rw[eE3],rfl,o9.refl _,fun b hb=>.inl hb⟩
 rintro⟨k,u,s⟩ f w2 hk ⟨h10,h0,hkl,ho2,hj,hlen,hm2,hmv⟩;simp only at h10 h0 hkl ho2 hj hlen hmv;simp only[ev4,p6,simprocAttr]at hk;obtain⟨e8,e9,_⟩:=hk;have hh2:B4 h (d7 w2):=K6 hh hm2 fun b hb=>ho.free hb;simp only[n3,n9,simprocAttr,h10,e9];refine i5 (fun hc=>?_) (fun hc=>?_);rotate_left
 ·have hge:k=l.length:=by simp at hc;omega
  subst hge;rw[eF2,am5]at hj;simp only[n3,simprocAttr,h0];refine ad8 results157 ?_;simp only[p6,simprocAttr];refine⟨⟨u,true,rfl,by rw[hj];rfl,fun s' hs'=>?_⟩,hm2⟩;rw[hj]at hs';obtain rfl:=ex1 hs';exact⟨ho2,hlen⟩
 have hlt:k<l.length:=by simpa using hc
 have hin:=hl.inS hlt;have hld:=ldS hl hh2 hlt;rw[ez4 hlt,am5]at hj;generalize l[k]=n at hld hj;simp only[n3,n9,p9,simprocAttr,h10,h0,e8,hin,hld];refine D1 ac2 (N8 u s n w2 (ho2.rw_ hh2) (by omega)) ?_;rcases ev3 (s.contains n)with hq|hq
 ·simp only[n3,simprocAttr,hq,h0];refine ad8 results157 ?_;simp only[p6,simprocAttr];refine⟨⟨u,false,rfl,by rw[hj,if_pos hq];rfl,fun s' hs'=>?_⟩,hm2⟩;rw[hj,if_pos hq]at hs';cases hs'
 ·obtain⟨p1,u',w3,p2,p3,p4,p5⟩:=push (e:=22) aq8 rfl ho2 (x:=o7 n) (y:=n) rfl (by omega) (by omega) hh2;rw[if_neg (by rw[hq];simp)]at hj;simp only[n3,n9,simprocAttr,hq,h0,h10,p1,p2];refine⟨(k+1,u',s++[n]),by simp only[];omega,by simp only[];rw[B1 k (by omega)],by trivial,by simp only[];omega,p3,hj,by simp only[ev5,ey3];omega,hm2.chain p4 fun b hb hbu=>?_,fun b hb=>?_⟩
  ·rcases hmv b hbu with h|h
   ·exact h
   ·omega
  ·rcases p5 b hb with h|h
   ·exact hmv b h
   ·exact .inr (ew0 hm2.size h)
theorem cl3(a:Addr)(vit:Value)(s:Sh)(it:It)(i x y:Nat)(w:World)(hs:At (d7 w) a s)(hit:SV (d7 w) vit it)(hpr:it.proc=(i:Int))(hok:bn9 s i x y)(hip:i<s.p.procs.length)(hwt:∀it∈s.l,O5 it.s≤1000000)(hwf:∀f∈s.p.procs,T8 f≤1000000):
  Calls prog 158 #[.pointer (some a),vit] w fun e w'=>∃u,e = .returned u∧(u = .bool (am7 s it)∧o6 w w'):=by
 refine d9 (args:=[.pointer (some a),vit]) hm func158 rfl (by kernel_rfl) (by show 2≤_;decide +kernel) ?_;obtain⟨b,w1,hb1,hx1,hat⟩:=bZ8 hit (i4 _);obtain⟨hats,ldi,_⟩:=hat.it;obtain⟨_,_,_,_,_,_,_,_,_,ldt,_⟩:=hats.st;have li:=ldi w1 (i4 _);have lt:=ldt w1 (i4 _);rw[hpr]at li;rcases ev3 (decide (it.s.kind=7))with h7|h7
 ·simp only[n3,n9,simprocAttr,hb1,li,lt,h7];refine n7 results158 ?_;simp only[p6,simprocAttr];exact⟨by rw[am7,if_pos (.inl (ev6 h7))],hx1⟩
 rcases ev3 (decide (it.s.kind=8))with h8|h8
 ·simp only[n3,n9,simprocAttr,hb1,li,lt,h7,h8];refine n7 results158 ?_;simp only[p6,simprocAttr];exact⟨by rw[am7,if_pos (.inr (ev6 h8))],hx1⟩
 have hF:am7 s it=if it.s.kind=10 then(s.at it.proc it.s.name).isSome else true:=by
  rw[am7,if_neg];rintro(h|h)
  ·exact ev7 h7 h
  ·exact ev7 h8 h
 rcases ev3 (decide (it.s.kind=10))with h10|h10
 ·simp only[n3,n9,simprocAttr,hb1,li,lt,h7,h8,h10];refine B3 dd6 (bL9 a s i x y it.s.name w1 (hs.mono (b7 hx1)) hok hip hwt hwf) (fun w2 hx2=>?_);rw[if_pos (ev6 h10),hpr]at hF;cases hq:s.at i it.s.name
  ·simp only[n3,simprocAttr,bK1];refine n7 results158 ?_;simp only[p6,simprocAttr];exact⟨by rw[hF,hq];rfl,hx1.trans hx2⟩
  ·simp only[n3,simprocAttr,bK1];refine n7 results158 ?_;simp only[p6,simprocAttr];exact⟨by rw[hF,hq];rfl,hx1.trans hx2⟩
 ·rw[if_neg (ev7 h10)]at hF;simp only[n3,n9,simprocAttr,hb1,lt,h7,h8,h10];refine n7 results158 ?_;simp only[p6,simprocAttr];exact⟨by rw[hF],hx1⟩
theorem ef9:af6 prog 156=true:=by kernel_rfl
theorem dc6:af6 prog 157=true:=by kernel_rfl
theorem eg0:af6 prog 158=true:=by kernel_rfl
theorem cu0:H7 prog 93=2:=by kernel_rfl
theorem aZ3(p:Pg)(hw:C8 p≤1000000)(i:Nat)(hi:i<p.procs.length):(∀it∈(b9 p).of i,it∈(b9 p).l)∧((b9 p).of i).length≤400000:=by
 obtain⟨x,hok,_⟩:=V0 p hw i hi;have h1:=at7 p;have h2:=by7 p;refine⟨fun it h=>?_,?_⟩
 ·rw[hok.of_]at h;exact eD8 (eF9 h)
 ·rw[hok.of_,eD7,ew6];omega
def aC3(l:List It):Nat:=(l.map fun it=>it.s.labels.length).sum
theorem bI9(l m:List It):aC3 (l++m)=aC3 l+aC3 m:=by simp[aC3]
theorem bt5(x:It)(m:List It):aC3 (x::m)=x.s.labels.length+aC3 m:=by simp[aC3]
mutual
theorem cO2:∀(t:St) (k:Nat) (pr up nx lp:Int),aC3 (U7 t k pr up nx lp)≤O5 t
 | .mk id kind labels name proc x has args thn els,k,pr,up,nx,lp=>by
  rw[P2,bt5,bI9,O5];have h2:=fun k' nx' lp'=>aO5 els k' pr (k+1) nx' lp';have h3:=S8 labels;have h4:=fun k' nx' lp'=>aO5 thn k' pr (k+1) nx' lp';simp only[St.labels,St.thn,St.els];refine ew0 (Nat.add_le_add_left (Nat.add_le_add (h4 _ _ _) (h2 _ _ _)) _) ?_;omega
theorem aO5:∀(l:List St) (k:Nat) (pr up nx lp:Int),aC3 (C4 l k pr up nx lp)≤G6 l
 | [],_,_,_,_,_=>by simp[C4,aC3]
 | t::l,k,pr,up,nx,lp=>by
  rw[C4,bI9,G6];exact Nat.add_le_add (cO2 t _ _ _ _ _) (aO5 l _ _ _ _ _)
end
theorem cO8(p:Pg)(hw:C8 p≤1000000)(i:Nat)(hi:i<p.procs.length):aC3 ((b9 p).of i)+p.procs[i].fin.length≤1000000:=by
 obtain⟨x,_,e⟩:=V0 p hw i hi;have h1:=aO5 p.procs[i].body x i 0 (-1) 0;have h2:=an6 p hw _ (ew2 hi);have h3:=S8 p.procs[i].fin;unfold T8 at h2;rw[e];omega
theorem cl2{l:List It}{m:Nat}(h:m<l.length):aC3 (l.drop m)=l[m].s.labels.length+aC3 (l.drop (m+1)):=by
 rw[ez4 h,bt5]
theorem bp0(v:Value)(p:Pg)(w:World)(hv:SV (d7 w) v p)(hw:C8 p≤1000000):Calls prog 104 #[v] w fun e w'=>∃u,e = .returned u∧(u=R7 (ay4 p)∧o6 w w'):=by
 refine d9 (args:=[v]) hm func104 rfl (by kernel_rfl) (by show 1≤_;decide +kernel) ?_;obtain⟨a,w1,hbx,hx1,ha⟩:=ab7 (w:=w) (fun _=>False) hv (fun _ h=>h.elim);obtain⟨vg,vp,hg,hp,ld,_⟩:=L8.pg hv ha;obtain⟨lw,_⟩:=L8.pg_v hv ha;obtain⟨rb,w2,hal,hx2,hrb,hge1⟩:=ar6 w1;have hge:w.heap.size≤rb:=ew0 hx1.size hge1;have hx12:=hx1.trans hx2;have hlw:∀w',o6 w2 w'→B4 (B5 w1 fun _=>False) (d7 w'):=fun w' h=>p8 (C0 _ _) (b7 (hx2.trans h));have lw2:=lw w2 (hlw _ (o9.refl _));have hret:=fun(w':World) (h:o6 w2 w')=>ak0 hrb h hge hx12;simp only[n3,n9,simprocAttr,hbx,hal,lw2];refine y5 ef9 (bT5 v p w2 (hv.mono (b7 hx12)) hw) ?_;rintro us w3 ⟨hus,hx3⟩;rcases ev3 (decide ((L4 p).1=0))with hsc|hsc;rotate_left
 ·rw[if_neg (ev7 hsc)]at hus;subst hus;obtain⟨w9,s1,s2,s3⟩:=hret w3 hx3 (1,0);simp only[n3,n9,simprocAttr,be8 rfl cu0,O7,s1];refine L6 results104 (by simp only[p6,simprocAttr]) s2 ?_;exact⟨by rw[ay4,if_pos (ev7 hsc)],s3⟩
 rw[if_pos (ev6 hsc)]at hus;obtain⟨sh,rfl,hsh⟩:=hus;have hF:ay4 p=(P3 (b9 p) 0 p.procs).getD (0,0):=by rw[ay4,if_neg (by simpa using hsc)]
 have l3:=ld w3 (hlw _ hx3);have hS:=hp.isS;have hn:=hp.vlen;have hpp:=I6 p;have hwl:=ac7 p hw;have hwf:=an6 p hw;have hpl:p.procs.length≤1000000:=by
  have:=ab4 p.procs;unfold C8 at hw;omega
 simp only[n3,n9,simprocAttr,be8 rfl cu0,l3,hS,hn];refine n8 [1,2,3,16,17] (σ:=Nat) (fun k f w'=>f 18 = .int .i64 k∧k≤p.procs.length∧P3 (b9 p) 0 p.procs=P3 (b9 p) k (p.procs.drop k)∧o6 w3 w') (fun k=>p.procs.length-k) 0 (by decide +kernel) ?_ ?_
 ·simp only[p6,simprocAttr];exact⟨by trivial,ew4 _,by rw[eE3],o9.refl _⟩
 rintro i f2 w6 hk ⟨h18,hil,hsp,hx6⟩;simp only[ev4,p6,simprocAttr]at hk;obtain⟨e1,e2,e3,e16,e17,_⟩:=hk;have hx26:=hx3.trans hx6;simp only[n3,n9,simprocAttr,h18,e17];refine i5 (fun hc=>?_) (fun hc=>?_);rotate_left
 ·have hge2:i=p.procs.length:=by simp at hc;omega
  subst hge2;rw[eF2]at hsp;obtain⟨w9,s1,s2,s3⟩:=hret w6 hx26 (0,0);simp only[n3,simprocAttr,e2,aE2,s1];refine L6 results104 (by simp only[p6,simprocAttr];exact e2) s2 ?_;exact⟨by rw[hF,hsp];rfl,s3⟩
 have hlt:i<p.procs.length:=by simpa using hc
 have hin:=hp.inS hlt;obtain⟨sv,hsv,hld⟩:=G1 (P:=prog) (t:=53) hp (b7 (hx12.trans hx26)) (ev2 hlt) ao0 ao4 ao1 O1;rw[O1]at hld;have hdrop:p.procs.drop i=p.procs[i]::p.procs.drop (i+1):=ez4 hlt;obtain⟨x,hok,_⟩:=V0 p hw i hlt;have hwy:=hwf _ (ew2 hlt);obtain⟨hmem,hlen⟩:=aZ3 p hw i hlt;have hpr:=bB1 p hw i hlt;have hlb:=cO8 p hw i hlt;generalize p.procs[i]=y at hsv hdrop hwy hok hlb;rw[hdrop,P3,am6]at hsp;obtain⟨b,wz,w7,hal7,hst7,hx7,hat⟩:=aG7 (hsv.mono (b7 (hx12.trans hx26))) (i4 _);obtain⟨_,_,_,vf,_,_,_,hvf,ldq,_⟩:=hat.pr;have hx27:=hx26.trans hx7;simp only[n3,n9,p9,simprocAttr,h18,e3,e16,hin,hld,hal7,hst7];refine y5 aY8 (aQ5 sh (b9 p) i x _ w7 (hsh.mono (b7 (hx6.trans hx7))) hok) ?_;rintro ul w10 ⟨hul,hx10⟩;have hx210:=hx27.trans hx10;generalize hof:(b9 p).of i=l at hul hmem hsp hlen hpr hlb;have hSl:=hul.isS;have hnl2:=hul.vlen;simp only[n3,n9,simprocAttr,hSl,hnl2];refine n8 [1,2,3,5,16,17,18,25,26] (σ:=Nat×Value×List A4) (fun s f w'=>f 27 = .int .i64 s.1∧f 6=s.2.1∧s.1≤l.length∧A9 (d7 w10) w' 9 s.2.1 s.2.2∧ap6 (b9 p) [] l=ap6 (b9 p) s.2.2 (l.drop s.1)∧s.2.2.length+aC3 (l.drop s.1)=aC3 l∧o6 w10 w') (fun s=>l.length-s.1) (0,.slice none 0 0,[]) (by decide +kernel) ?_ ?_
 ·simp only[p6,simprocAttr];exact⟨by trivial,by trivial,ew4 _,A9.nil _ _ _,by rw[eE3],by rw[eE3];simp,o9.refl _⟩
 rintro⟨m,u,seen⟩ f3 w11 hk ⟨h27,h6,hml,ho,hj,hll,hx11⟩;simp only at h27 h6 hml ho hj hll;simp only[ev4,p6,simprocAttr]at hk;obtain⟨g1,g2,g3,g5,g16,g17,g18,g25,g26,_⟩:=hk;rw[e1]at g1;rw[e2]at g2;rw[e3]at g3;rw[h18]at g18;have hx211:=hx210.trans hx11;simp only[n3,n9,simprocAttr,h27,g26];refine i5 (fun hc=>?_) (fun hc=>?_);rotate_left
 ·have hge2:m=l.length:=by simp at hc;omega
  subst hge2;rw[eF2,ap6]at hj;rw[hj]at hsp;rw[eF2]at hll;have hll2:seen.length+y.fin.length≤1000000:=by simp[aC3]at hll;unfold aC3 at hlb;omega
  have lq:=ldq w11 (b7 (hx10.trans hx11));simp only[n3,n9,simprocAttr,h6,g5,lq];refine y5 dc6 (bt4 u vf seen y.fin (d7 w10) w11 ho (z7.mono (b7 hx10) hvf) (b7 hx11) (by omega)) ?_;rintro _ w12 ⟨⟨u2,ok,rfl,hokq,hs2⟩,hm12⟩;have hx1012:o6 w10 w12:=ho.ext2 hx11 hm12;have hx212:=hx210.trans hx1012;rcases ev3 ok with hqk|hqk
  ·rw[hqk]at hokq;have hsome:∃s',am5 seen y.fin=some s':=eB0.1 hokq.symm;obtain⟨s',hs'⟩:=hsome;simp only[hs']at hsp;simp only[n3,n9,simprocAttr,hqk,g18];refine⟨i+1,by omega,by rw[B1 i (by omega)],by omega,hsp,?_⟩;exact hx6.trans (hx7.trans (hx10.trans hx1012))
  ·rw[hqk]at hokq;have hnone:am5 seen y.fin=none:=by
    cases h:am5 seen y.fin
    ·rfl
    ·rw[h]at hokq;cases hokq
   simp only[hnone]at hsp;obtain⟨w9,s1,s2,s3⟩:=hret w12 hx212 (7,0);simp only[n3,n9,simprocAttr,hqk,g2,O7,s1];refine L6 results104 (by simp only[p6,simprocAttr];exact g2) s2 ?_;exact⟨by rw[hF,hsp];rfl,s3⟩
 have hmt:m<l.length:=by simpa using hc
 clear hin hld;have hin:=hul.inS hmt;obtain⟨sv2,hsv2,hld2⟩:=G1 (P:=prog) (t:=127) hul (b7 hx11) (ev2 hmt) X9 Y1 Y0 I9;rw[I9]at hld2;have hpit:=hpr _ (ew2 hmt);have hdr:=cl2 hmt;rw[ez4 hmt,ap6]at hj;generalize l[m]=it at hsv2 hpit hj hdr;obtain⟨c,wz2,w12,hal12,hst12,hx12',hati⟩:=aG8 (w:=w11) (A3 u) hsv2 (fun b hb=>ho.lt hb);obtain⟨ldI,_⟩:=L8.it_v hsv2 hati;obtain⟨us,hus,hats,_,_⟩:=L8.it hsv2 hati;obtain⟨vlb,_,_,_,_,hvlb,_,_,_,_,_,ldt,_⟩:=L8.st hus hats;have ho12:=ho.ext hx12';have hx1012:=hx11.trans hx12';have k1:=ldt w12 (C0 _ _);simp only[n3,n9,p9,simprocAttr,h27,h6,g25,hin,hld2,hal12,hst12,k1];refine y5 dc6 (bt4 u vlb seen it.s.labels (d7 w10) w12 ho12 hvlb (b7 hx1012) (by omega)) ?_;rintro _ w13 ⟨⟨u2,ok,rfl,hokq,hs2⟩,hm13⟩;have hx1013:o6 w10 w13:=ho12.ext2 hx1012 hm13;have hx213:=hx210.trans hx1013;have k2:=ldt w13 (D2 hm13);have k3:=ldI w13 (D2 hm13);rcases ev3 ok with hqk|hqk;rotate_left
 ·rw[hqk]at hokq;have hnone:am5 seen it.s.labels=none:=by
   cases h:am5 seen it.s.labels
   ·rfl
   ·rw[h]at hokq;cases hokq
  simp only[hnone]at hj;rw[hj]at hsp;obtain⟨w9,s1,s2,s3⟩:=hret w13 hx213 (7,it.s.id);simp only[n3,n9,simprocAttr,hqk,k2,g2,ar8,s1];refine L6 results104 (by simp only[p6,simprocAttr];exact g2) s2 ?_;exact⟨by rw[hF,hsp];rfl,s3⟩
 rw[hqk]at hokq;obtain⟨s',hs'⟩:∃s',am5 seen it.s.labels=some s':=eB0.1 hokq.symm;simp only[hs']at hj;obtain⟨ho13,hl13⟩:=hs2 s' hs';simp only[n3,n9,simprocAttr,hqk,g3,k3];refine B3 eg0 (cl3 sh sv2 (b9 p) it i x _ w13 (hsh.mono (b7 (hx6.trans (hx7.trans (hx10.trans hx1013))))) (hsv2.mono (b7 hx1013)) hpit hok (by rw[hpp];exact hlt) hwl (by rw[hpp];exact hwf)) (fun w14 hx14=>?_);have k4:=ldt w14 (p8 (D2 hm13) (b7 hx14));rcases ev3 (am7 (b9 p) it)with hle4|hle4
 ·rw[if_pos hle4]at hj;simp only[n3,n9,simprocAttr,hle4,h27];refine⟨(m+1,u2,s'),by simp only[];omega,by simp only[];rw[B1 m (by omega)],by trivial,by simp only[];omega,ho13.ext hx14,hj,by simp only[];omega,hx1013.trans hx14⟩
 ·rw[if_neg (by rw[hle4];simp)]at hj;rw[hj]at hsp;obtain⟨w9,s1,s2,s3⟩:=hret w14 (hx213.trans hx14) (7,it.s.id);simp only[n3,n9,simprocAttr,hle4,k4,g2,ar8,s1];refine L6 results104 (by simp only[p6,simprocAttr];exact g2) s2 ?_;exact⟨by rw[hF,hsp];rfl,s3⟩
theorem eI5:type_of% @Bool.false_or:=@Bool.false_or
theorem ey4:type_of% @List.mem_filter:=@List.mem_filter
theorem ey0:type_of% @List.mem_map:=@List.mem_map
theorem eH5:type_of% @List.nodup_cons:=@List.nodup_cons
theorem L3{α:Type}[DecidableEq α]:∀{l m:List α},l.Nodup→(∀x∈l,x∈m)→l.length≤m.length
 | [],m,_,_=>by simp
 | x::l,m,hn,hs=>by
  rw[eH5]at hn;have hx:=hs x (by simp);have h1:=L3 (l:=l) (m:=m.erase x) hn.2 fun y hy=>(List.mem_erase_of_ne (fun e=>hn.1 (by rw[←e];exact hy))).2 (hs y (by simp[hy]));rw[List.length_erase_of_mem hx]at h1;have:=List.length_pos_of_mem hx;simp only[ex7];omega
theorem bk6{p:Pg}{procs:List A4}{f:Pr}{l:List It}{e:Int×Int}(h:W2 p procs f l=some e):e.1=5:=by
 unfold W2 at h;split at h
 ·obtain rfl:=ex1 h;rfl
 ·split at h
  ·obtain rfl:=ex1 h;rfl
  ·cases h
theorem az0{p:Pg}{s:Sh}{procs:List A4}:∀{l:List Pr} {i:Nat} {e:Int×Int},L5 p s procs i l=some e→e.1=5
 | [],i,e,h=>by cases h
 | f::l,i,e,h=>by
  rw[L5]at h;split at h
  ·next h'=>obtain rfl:=ex1 h;exact bk6 h'
  ·exact az0 h
theorem az1{p:Pg}{s:Sh}{procs:List A4}:∀{l:List Pr} {i:Nat},L5 p s procs i l=none→∀k (hk:k<l.length),W2 p procs l[k] (s.of (i+k:Nat))=none
 | [],i,_,k,hk=>by simp at hk
 | f::l,i,h,k,hk=>by
  rw[L5]at h;split at h
  ·cases h
  ·next h'=>
   cases k with
   | zero=>simpa using h'
   | succ k=>
    have:=az1 h k (by simpa using hk);rw[show i+1+k=i+(k+1) by omega]at this;simpa using this
structure Known (p:Pg):Prop where
 may:N1 p=true
 globals:p.globals.Nodup
 names:(p.procs.map (·.name)).Nodup
 main:∃(i:Nat) (q:Pr),p.procs[i]?=some q∧q.name=Q4∧q.params=[]
 proc:∀i (hi:i<p.procs.length),(bc2 p.procs[i]).Nodup∧(∀n∈bc2 p.procs[i],n∉p.globals)∧∀it∈(b9 p).of i,ac3 p p.procs[i] (p.procs.map (·.name)) it.s=true
theorem bi2{p:Pg}(h:(L4 p).1=0):Known p:=by
 unfold L4 at h;cases hmay:N1 p
 ·rw[hmay]at h;simp at h
 rw[if_neg (by rw[hmay];simp)]at h;cases hb:(X8 p.globals||X8 (p.procs.map (·.name))||decide (S5 p.procs Q4<0)||decide (0<(p.procs.getD (S5 p.procs Q4).toNat bp5).params.length));rotate_left
 ·simp only[hb,eB2]at h;simp at h
 simp only[hb]at h;simp only[Bool.or_eq_false_iff]at hb;obtain⟨⟨⟨h1,h2⟩,h3⟩,h4⟩:=hb;have h3':0≤S5 p.procs Q4:=by simpa using h3
 obtain⟨k,e,q,hq,hqn⟩:=aB9 _ p.procs 0 h3';have e':S5 p.procs Q4=(k:Int):=by unfold S5;rw[e];simp
 rw[e',ex8,List.getD,hq]at h4;have hno:L5 p (b9 p) (p.procs.map (·.name)) 0 p.procs=none:=by
  cases hs:L5 p (b9 p) (p.procs.map (·.name)) 0 p.procs with
  | none=>rfl
  | some e=>
   have:=az0 hs;simp only[hs]at h;simp at h;omega
 refine⟨hmay,by simpa[X8]using h1,by simpa[X8]using h2,⟨k,q,hq,ev6 hqn,?_⟩,fun i hi=>?_⟩
 ·have:q.params.length=0:=by simpa using h4
  exact List.eq_nil_of_length_eq_zero this
 ·have hp:=az1 hno i hi;rw[ey7]at hp;unfold W2 at hp;split at hp
  ·cases hp
  ·next hc=>
   have hc':=eF7.2 hc;simp only[Bool.or_eq_false_iff]at hc';split at hp
   ·cases hp
   ·next hf=>
    refine⟨by simpa[X8]using hc'.1,fun n hn hg=>?_,fun it hit=>?_⟩
    ·have:=List.any_eq_false.1 hc'.2 n hn;exact this (ex4.2 hg)
    ·have:=eE9.1 hf it hit;simpa using this
theorem T2{p:Pg}{n:A4}(h:n∈p.procs.map (·.name)):∃(i:Nat) (hi:i<p.procs.length),(b9 p).pr n=(i:Int)∧p.procs[i].name=n:=by
 obtain⟨q,hq,rfl⟩:=ey0.1 h;have hany:p.procs.any (fun f=>decide (f.name=q.name))=true:=eH7.2 ⟨q,hq,by simp⟩;rw[←as3 (fun f:Pr=>decide (f.name=q.name)) p.procs 0]at hany;obtain⟨k,e,x,hx,hxn⟩:=aB9 _ p.procs 0 (ev6 hany);obtain⟨hk,e2⟩:=ev8.1 hx;refine⟨k,hk,?_,by rw[e2];exact ev6 hxn⟩;unfold Sh.pr S5;rw[I6,e,ey7]
theorem aA5{p:Pg}(K:Known p){m x:A4}(hm:m∈p.procs.map (·.name))(hx:x∈ab8 (b9 p) m):x∈p.procs.map (·.name):=by
 obtain⟨i,hi,e,_⟩:=T2 hm;unfold ab8 at hx;rw[G8,e]at hx;obtain⟨it,hit,rfl⟩:=ey0.1 hx;obtain⟨hit,hk⟩:=ey4.1 hit;have:=(K.proc i hi).2.2 it hit;unfold ac3 at this;rw[hk]at this;simp only[Bool.not_true,eI5,ex5]at this;exact ex4.1 this.2.2
theorem al6:∀(l out:List A4) (x:A4),x∈Z2 out l↔x∈out∨x∈l
 | [],out,x=>by simp[Z2]
 | n::l,out,x=>by
  rw[Z2,al6 l];split
  ·next h=>
   have:=ex4.1 h;constructor
   ·rintro(h|h)
    ·exact .inl h
    ·exact .inr (by simp[h])
   ·rintro(h|h)
    ·exact .inl h
    ·rcases ex3.1 h with rfl|h
     ·exact .inl this
     ·exact .inr h
  ·simp[or_assoc]
theorem au5:∀(l out:List A4),out.Nodup→(Z2 out l).Nodup
 | [],out,h=>h
 | n::l,out,h=>by
  rw[Z2];refine au5 l _ ?_;split
  ·exact h
  ·next hc=>
   rw[eA4];refine⟨h,by simp,fun a ha b hb=>?_⟩;simp only[ey1]at hb;subst hb;rintro rfl;exact hc (ex4.2 ha)
end Go.Proofs.YtdgicngfmfldmaaGreat

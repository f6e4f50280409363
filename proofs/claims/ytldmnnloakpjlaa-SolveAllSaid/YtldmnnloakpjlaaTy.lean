/- Facts on the types of the program, each reckoned by the kernel. -/
import Derived.Test.YtldmnnloakpjlaaA2
import Derived.Test.YtldmnnloakpjlaaProg
import Derived.KernelRfl
namespace Go.Proofs.Ytldmnnloakpjlaa
open Go
theorem tyI2 : (Try.prog.info? 2).isSome = true := by kernel_rfl
theorem tyS2 : szT Try.prog 2 = 1 := by kernel_rfl
theorem tyB2 : bytT Try.prog 2 = 8 := by kernel_rfl
theorem tyZ2 : zeroT Try.prog 2 = some (.int .i64 0) := by kernel_rfl
theorem tyG2 : aggT Try.prog 2 = false := by kernel_rfl
theorem tyU2 : (Try.prog.underlying 2).isSome = true := by kernel_rfl
theorem tyE2 : elemT Try.prog 2 = none := by kernel_rfl
theorem tyA2 : arrT Try.prog 2 = none := by kernel_rfl
theorem tyK2 : intT Try.prog 2 = some .i64 := by kernel_rfl
theorem tyQ2 : eqT Try.prog 2 = 0 := by kernel_rfl
theorem tyI3 : (Try.prog.info? 3).isSome = true := by kernel_rfl
theorem tyS3 : szT Try.prog 3 = 1 := by kernel_rfl
theorem tyB3 : bytT Try.prog 3 = 8 := by kernel_rfl
theorem tyZ3 : zeroT Try.prog 3 = some (.int .i64 0) := by kernel_rfl
theorem tyG3 : aggT Try.prog 3 = false := by kernel_rfl
theorem tyU3 : (Try.prog.underlying 3).isSome = true := by kernel_rfl
theorem tyE3 : elemT Try.prog 3 = none := by kernel_rfl
theorem tyA3 : arrT Try.prog 3 = none := by kernel_rfl
theorem tyK3 : intT Try.prog 3 = some .i64 := by kernel_rfl
theorem tyQ3 : eqT Try.prog 3 = 0 := by kernel_rfl
theorem tyI4 : (Try.prog.info? 4).isSome = true := by kernel_rfl
theorem tyS4 : szT Try.prog 4 = 1 := by kernel_rfl
theorem tyB4 : bytT Try.prog 4 = 1 := by kernel_rfl
theorem tyZ4 : zeroT Try.prog 4 = some (.bool false) := by kernel_rfl
theorem tyG4 : aggT Try.prog 4 = false := by kernel_rfl
theorem tyU4 : (Try.prog.underlying 4).isSome = true := by kernel_rfl
theorem tyE4 : elemT Try.prog 4 = none := by kernel_rfl
theorem tyA4 : arrT Try.prog 4 = none := by kernel_rfl
theorem tyQ4 : eqT Try.prog 4 = 1 := by kernel_rfl
theorem tyI5 : (Try.prog.info? 5).isSome = true := by kernel_rfl
theorem tyS5 : szT Try.prog 5 = 1 := by kernel_rfl
theorem tyB5 : bytT Try.prog 5 = 1 := by kernel_rfl
theorem tyZ5 : zeroT Try.prog 5 = some (.int .u8 0) := by kernel_rfl
theorem tyG5 : aggT Try.prog 5 = false := by kernel_rfl
theorem tyU5 : (Try.prog.underlying 5).isSome = true := by kernel_rfl
theorem tyE5 : elemT Try.prog 5 = none := by kernel_rfl
theorem tyA5 : arrT Try.prog 5 = none := by kernel_rfl
theorem tyK5 : intT Try.prog 5 = some .u8 := by kernel_rfl
theorem tyQ5 : eqT Try.prog 5 = 0 := by kernel_rfl
theorem tyI9 : (Try.prog.info? 9).isSome = true := by kernel_rfl
theorem tyS9 : szT Try.prog 9 = 1 := by kernel_rfl
theorem tyB9 : bytT Try.prog 9 = 16 := by kernel_rfl
theorem tyZ9 : zeroT Try.prog 9 = some (.string ⟨#[]⟩) := by kernel_rfl
theorem tyG9 : aggT Try.prog 9 = false := by kernel_rfl
theorem tyU9 : (Try.prog.underlying 9).isSome = true := by kernel_rfl
theorem tyE9 : elemT Try.prog 9 = none := by kernel_rfl
theorem tyA9 : arrT Try.prog 9 = none := by kernel_rfl
theorem tyT9 : strT Try.prog 9 = true := by kernel_rfl
theorem tyQ9 : eqT Try.prog 9 = 0 := by kernel_rfl
theorem tyI21 : (Try.prog.info? 21).isSome = true := by kernel_rfl
theorem tyS21 : szT Try.prog 21 = 1 := by kernel_rfl
theorem tyB21 : bytT Try.prog 21 = 4 := by kernel_rfl
theorem tyZ21 : zeroT Try.prog 21 = some (.int .i32 0) := by kernel_rfl
theorem tyG21 : aggT Try.prog 21 = false := by kernel_rfl
theorem tyU21 : (Try.prog.underlying 21).isSome = true := by kernel_rfl
theorem tyE21 : elemT Try.prog 21 = none := by kernel_rfl
theorem tyA21 : arrT Try.prog 21 = none := by kernel_rfl
theorem tyK21 : intT Try.prog 21 = some .i32 := by kernel_rfl
theorem tyQ21 : eqT Try.prog 21 = 0 := by kernel_rfl
theorem tyI22 : (Try.prog.info? 22).isSome = true := by kernel_rfl
theorem tyS22 : szT Try.prog 22 = 1 := by kernel_rfl
theorem tyB22 : bytT Try.prog 22 = 24 := by kernel_rfl
theorem tyZ22 : zeroT Try.prog 22 = some (.slice none 0 0) := by kernel_rfl
theorem tyG22 : aggT Try.prog 22 = false := by kernel_rfl
theorem tyU22 : (Try.prog.underlying 22).isSome = true := by kernel_rfl
theorem tyE22 : elemT Try.prog 22 = some 38 := by kernel_rfl
theorem tyV22 : Try.prog.underlying 22 = some (.slice 38) := by kernel_rfl
theorem tyA22 : arrT Try.prog 22 = none := by kernel_rfl
theorem tyQ22 : eqT Try.prog 22 = 3 := by kernel_rfl
theorem tyI23 : (Try.prog.info? 23).isSome = true := by kernel_rfl
theorem tyS23 : szT Try.prog 23 = 1 := by kernel_rfl
theorem tyB23 : bytT Try.prog 23 = 24 := by kernel_rfl
theorem tyZ23 : zeroT Try.prog 23 = some (.slice none 0 0) := by kernel_rfl
theorem tyG23 : aggT Try.prog 23 = false := by kernel_rfl
theorem tyU23 : (Try.prog.underlying 23).isSome = true := by kernel_rfl
theorem tyE23 : elemT Try.prog 23 = some 37 := by kernel_rfl
theorem tyV23 : Try.prog.underlying 23 = some (.slice 37) := by kernel_rfl
theorem tyA23 : arrT Try.prog 23 = none := by kernel_rfl
theorem tyQ23 : eqT Try.prog 23 = 3 := by kernel_rfl
theorem tyI26 : (Try.prog.info? 26).isSome = true := by kernel_rfl
theorem tyS26 : szT Try.prog 26 = 2 := by kernel_rfl
theorem tyB26 : bytT Try.prog 26 = 32 := by kernel_rfl
theorem tyZ26 : zeroT Try.prog 26 = some (.agg #[.slice none 0 0, .int .i64 0]) := by kernel_rfl
theorem tyG26 : aggT Try.prog 26 = true := by kernel_rfl
theorem tyU26 : (Try.prog.underlying 26).isSome = true := by kernel_rfl
theorem tyE26 : elemT Try.prog 26 = none := by kernel_rfl
theorem tyA26 : arrT Try.prog 26 = none := by kernel_rfl
theorem tyQ26 : eqT Try.prog 26 = 0 := by kernel_rfl
theorem tyF26_0 : fieldT Try.prog 26 0 = some (0, 23) := by kernel_rfl
theorem tyF26_1 : fieldT Try.prog 26 1 = some (1, 3) := by kernel_rfl
theorem tyM26 : buildT Try.prog 26 = some (#[.slice none 0 0, .int .i64 0], [(0, 1), (1, 1)]) := by kernel_rfl
theorem tyI27 : (Try.prog.info? 27).isSome = true := by kernel_rfl
theorem tyS27 : szT Try.prog 27 = 2 := by kernel_rfl
theorem tyB27 : bytT Try.prog 27 = 32 := by kernel_rfl
theorem tyZ27 : zeroT Try.prog 27 = some (.agg #[.slice none 0 0, .int .i64 0]) := by kernel_rfl
theorem tyG27 : aggT Try.prog 27 = true := by kernel_rfl
theorem tyU27 : (Try.prog.underlying 27).isSome = true := by kernel_rfl
theorem tyE27 : elemT Try.prog 27 = none := by kernel_rfl
theorem tyA27 : arrT Try.prog 27 = none := by kernel_rfl
theorem tyQ27 : eqT Try.prog 27 = 0 := by kernel_rfl
theorem tyF27_0 : fieldT Try.prog 27 0 = some (0, 23) := by kernel_rfl
theorem tyF27_1 : fieldT Try.prog 27 1 = some (1, 3) := by kernel_rfl
theorem tyM27 : buildT Try.prog 27 = some (#[.slice none 0 0, .int .i64 0], [(0, 1), (1, 1)]) := by kernel_rfl
theorem tyI37 : (Try.prog.info? 37).isSome = true := by kernel_rfl
theorem tyS37 : szT Try.prog 37 = 1 := by kernel_rfl
theorem tyB37 : bytT Try.prog 37 = 24 := by kernel_rfl
theorem tyZ37 : zeroT Try.prog 37 = some (.slice none 0 0) := by kernel_rfl
theorem tyG37 : aggT Try.prog 37 = false := by kernel_rfl
theorem tyU37 : (Try.prog.underlying 37).isSome = true := by kernel_rfl
theorem tyE37 : elemT Try.prog 37 = some 3 := by kernel_rfl
theorem tyV37 : Try.prog.underlying 37 = some (.slice 3) := by kernel_rfl
theorem tyA37 : arrT Try.prog 37 = none := by kernel_rfl
theorem tyQ37 : eqT Try.prog 37 = 3 := by kernel_rfl
theorem tyI38 : (Try.prog.info? 38).isSome = true := by kernel_rfl
theorem tyS38 : szT Try.prog 38 = 2 := by kernel_rfl
theorem tyB38 : bytT Try.prog 38 = 16 := by kernel_rfl
theorem tyZ38 : zeroT Try.prog 38 = some (.agg #[.int .i64 0, .int .i64 0]) := by kernel_rfl
theorem tyG38 : aggT Try.prog 38 = true := by kernel_rfl
theorem tyU38 : (Try.prog.underlying 38).isSome = true := by kernel_rfl
theorem tyE38 : elemT Try.prog 38 = none := by kernel_rfl
theorem tyA38 : arrT Try.prog 38 = some (2, 3) := by kernel_rfl
theorem tyQ38 : eqT Try.prog 38 = 0 := by kernel_rfl
theorem tyM38 : buildT Try.prog 38 = some (#[.int .i64 0, .int .i64 0], [(0, 1), (1, 1)]) := by kernel_rfl
theorem tyI44 : (Try.prog.info? 44).isSome = true := by kernel_rfl
theorem tyS44 : szT Try.prog 44 = 1 := by kernel_rfl
theorem tyB44 : bytT Try.prog 44 = 8 := by kernel_rfl
theorem tyZ44 : zeroT Try.prog 44 = some (.pointer none) := by kernel_rfl
theorem tyG44 : aggT Try.prog 44 = false := by kernel_rfl
theorem tyU44 : (Try.prog.underlying 44).isSome = true := by kernel_rfl
theorem tyE44 : elemT Try.prog 44 = none := by kernel_rfl
theorem tyA44 : arrT Try.prog 44 = none := by kernel_rfl
theorem tyQ44 : eqT Try.prog 44 = 2 := by kernel_rfl
theorem tyI56 : (Try.prog.info? 56).isSome = true := by kernel_rfl
theorem tyS56 : szT Try.prog 56 = 1 := by kernel_rfl
theorem tyB56 : bytT Try.prog 56 = 24 := by kernel_rfl
theorem tyZ56 : zeroT Try.prog 56 = some (.slice none 0 0) := by kernel_rfl
theorem tyG56 : aggT Try.prog 56 = false := by kernel_rfl
theorem tyU56 : (Try.prog.underlying 56).isSome = true := by kernel_rfl
theorem tyE56 : elemT Try.prog 56 = some 4 := by kernel_rfl
theorem tyV56 : Try.prog.underlying 56 = some (.slice 4) := by kernel_rfl
theorem tyA56 : arrT Try.prog 56 = none := by kernel_rfl
theorem tyQ56 : eqT Try.prog 56 = 3 := by kernel_rfl
theorem tyI64 : (Try.prog.info? 64).isSome = true := by kernel_rfl
theorem tyS64 : szT Try.prog 64 = 1 := by kernel_rfl
theorem tyB64 : bytT Try.prog 64 = 24 := by kernel_rfl
theorem tyZ64 : zeroT Try.prog 64 = some (.slice none 0 0) := by kernel_rfl
theorem tyG64 : aggT Try.prog 64 = false := by kernel_rfl
theorem tyU64 : (Try.prog.underlying 64).isSome = true := by kernel_rfl
theorem tyE64 : elemT Try.prog 64 = some 79 := by kernel_rfl
theorem tyV64 : Try.prog.underlying 64 = some (.slice 79) := by kernel_rfl
theorem tyA64 : arrT Try.prog 64 = none := by kernel_rfl
theorem tyQ64 : eqT Try.prog 64 = 3 := by kernel_rfl
theorem tyI69 : (Try.prog.info? 69).isSome = true := by kernel_rfl
theorem tyS69 : szT Try.prog 69 = 2 := by kernel_rfl
theorem tyB69 : bytT Try.prog 69 = 48 := by kernel_rfl
theorem tyZ69 : zeroT Try.prog 69 = some (.agg #[.slice none 0 0, .slice none 0 0]) := by kernel_rfl
theorem tyG69 : aggT Try.prog 69 = true := by kernel_rfl
theorem tyU69 : (Try.prog.underlying 69).isSome = true := by kernel_rfl
theorem tyE69 : elemT Try.prog 69 = none := by kernel_rfl
theorem tyA69 : arrT Try.prog 69 = none := by kernel_rfl
theorem tyQ69 : eqT Try.prog 69 = 0 := by kernel_rfl
theorem tyF69_0 : fieldT Try.prog 69 0 = some (0, 23) := by kernel_rfl
theorem tyF69_1 : fieldT Try.prog 69 1 = some (1, 23) := by kernel_rfl
theorem tyM69 : buildT Try.prog 69 = some (#[.slice none 0 0, .slice none 0 0], [(0, 1), (1, 1)]) := by kernel_rfl
theorem tyI70 : (Try.prog.info? 70).isSome = true := by kernel_rfl
theorem tyS70 : szT Try.prog 70 = 2 := by kernel_rfl
theorem tyB70 : bytT Try.prog 70 = 48 := by kernel_rfl
theorem tyZ70 : zeroT Try.prog 70 = some (.agg #[.slice none 0 0, .slice none 0 0]) := by kernel_rfl
theorem tyG70 : aggT Try.prog 70 = true := by kernel_rfl
theorem tyU70 : (Try.prog.underlying 70).isSome = true := by kernel_rfl
theorem tyE70 : elemT Try.prog 70 = none := by kernel_rfl
theorem tyA70 : arrT Try.prog 70 = none := by kernel_rfl
theorem tyQ70 : eqT Try.prog 70 = 0 := by kernel_rfl
theorem tyF70_0 : fieldT Try.prog 70 0 = some (0, 23) := by kernel_rfl
theorem tyF70_1 : fieldT Try.prog 70 1 = some (1, 23) := by kernel_rfl
theorem tyM70 : buildT Try.prog 70 = some (#[.slice none 0 0, .slice none 0 0], [(0, 1), (1, 1)]) := by kernel_rfl
theorem tyI74 : (Try.prog.info? 74).isSome = true := by kernel_rfl
theorem tyS74 : szT Try.prog 74 = 1 := by kernel_rfl
theorem tyB74 : bytT Try.prog 74 = 24 := by kernel_rfl
theorem tyZ74 : zeroT Try.prog 74 = some (.slice none 0 0) := by kernel_rfl
theorem tyG74 : aggT Try.prog 74 = false := by kernel_rfl
theorem tyU74 : (Try.prog.underlying 74).isSome = true := by kernel_rfl
theorem tyE74 : elemT Try.prog 74 = some 56 := by kernel_rfl
theorem tyV74 : Try.prog.underlying 74 = some (.slice 56) := by kernel_rfl
theorem tyA74 : arrT Try.prog 74 = none := by kernel_rfl
theorem tyQ74 : eqT Try.prog 74 = 3 := by kernel_rfl
theorem tyI78 : (Try.prog.info? 78).isSome = true := by kernel_rfl
theorem tyS78 : szT Try.prog 78 = 1 := by kernel_rfl
theorem tyB78 : bytT Try.prog 78 = 24 := by kernel_rfl
theorem tyZ78 : zeroT Try.prog 78 = some (.slice none 0 0) := by kernel_rfl
theorem tyG78 : aggT Try.prog 78 = false := by kernel_rfl
theorem tyU78 : (Try.prog.underlying 78).isSome = true := by kernel_rfl
theorem tyE78 : elemT Try.prog 78 = some 80 := by kernel_rfl
theorem tyV78 : Try.prog.underlying 78 = some (.slice 80) := by kernel_rfl
theorem tyA78 : arrT Try.prog 78 = none := by kernel_rfl
theorem tyQ78 : eqT Try.prog 78 = 3 := by kernel_rfl
theorem tyI79 : (Try.prog.info? 79).isSome = true := by kernel_rfl
theorem tyS79 : szT Try.prog 79 = 1 := by kernel_rfl
theorem tyB79 : bytT Try.prog 79 = 24 := by kernel_rfl
theorem tyZ79 : zeroT Try.prog 79 = some (.slice none 0 0) := by kernel_rfl
theorem tyG79 : aggT Try.prog 79 = false := by kernel_rfl
theorem tyU79 : (Try.prog.underlying 79).isSome = true := by kernel_rfl
theorem tyE79 : elemT Try.prog 79 = some 80 := by kernel_rfl
theorem tyV79 : Try.prog.underlying 79 = some (.slice 80) := by kernel_rfl
theorem tyA79 : arrT Try.prog 79 = none := by kernel_rfl
theorem tyQ79 : eqT Try.prog 79 = 3 := by kernel_rfl
theorem tyI80 : (Try.prog.info? 80).isSome = true := by kernel_rfl
theorem tyS80 : szT Try.prog 80 = 1 := by kernel_rfl
theorem tyB80 : bytT Try.prog 80 = 8 := by kernel_rfl
theorem tyZ80 : zeroT Try.prog 80 = some (.int .u64 0) := by kernel_rfl
theorem tyG80 : aggT Try.prog 80 = false := by kernel_rfl
theorem tyU80 : (Try.prog.underlying 80).isSome = true := by kernel_rfl
theorem tyE80 : elemT Try.prog 80 = none := by kernel_rfl
theorem tyA80 : arrT Try.prog 80 = none := by kernel_rfl
theorem tyK80 : intT Try.prog 80 = some .u64 := by kernel_rfl
theorem tyQ80 : eqT Try.prog 80 = 0 := by kernel_rfl
theorem tyI82 : (Try.prog.info? 82).isSome = true := by kernel_rfl
theorem tyS82 : szT Try.prog 82 = 1 := by kernel_rfl
theorem tyB82 : bytT Try.prog 82 = 8 := by kernel_rfl
theorem tyZ82 : zeroT Try.prog 82 = some (.int .u64 0) := by kernel_rfl
theorem tyG82 : aggT Try.prog 82 = false := by kernel_rfl
theorem tyU82 : (Try.prog.underlying 82).isSome = true := by kernel_rfl
theorem tyE82 : elemT Try.prog 82 = none := by kernel_rfl
theorem tyA82 : arrT Try.prog 82 = none := by kernel_rfl
theorem tyK82 : intT Try.prog 82 = some .u64 := by kernel_rfl
theorem tyQ82 : eqT Try.prog 82 = 0 := by kernel_rfl
theorem tyI91 : (Try.prog.info? 91).isSome = true := by kernel_rfl
theorem tyS91 : szT Try.prog 91 = 1 := by kernel_rfl
theorem tyB91 : bytT Try.prog 91 = 4 := by kernel_rfl
theorem tyZ91 : zeroT Try.prog 91 = some (.int .u32 0) := by kernel_rfl
theorem tyG91 : aggT Try.prog 91 = false := by kernel_rfl
theorem tyU91 : (Try.prog.underlying 91).isSome = true := by kernel_rfl
theorem tyE91 : elemT Try.prog 91 = none := by kernel_rfl
theorem tyA91 : arrT Try.prog 91 = none := by kernel_rfl
theorem tyK91 : intT Try.prog 91 = some .u32 := by kernel_rfl
theorem tyQ91 : eqT Try.prog 91 = 0 := by kernel_rfl
theorem tyI95 : (Try.prog.info? 95).isSome = true := by kernel_rfl
theorem tyS95 : szT Try.prog 95 = 1 := by kernel_rfl
theorem tyB95 : bytT Try.prog 95 = 8 := by kernel_rfl
theorem tyZ95 : zeroT Try.prog 95 = some (.pointer none) := by kernel_rfl
theorem tyG95 : aggT Try.prog 95 = false := by kernel_rfl
theorem tyU95 : (Try.prog.underlying 95).isSome = true := by kernel_rfl
theorem tyE95 : elemT Try.prog 95 = none := by kernel_rfl
theorem tyA95 : arrT Try.prog 95 = none := by kernel_rfl
theorem tyQ95 : eqT Try.prog 95 = 2 := by kernel_rfl
theorem hm : Try.prog.follows .mixedOrders = true := by kernel_rfl
/-- All of them that a walk asks for. -/
theorem TY : ((Try.prog.info? 2).isSome = true) ∧
  (szT Try.prog 2 = 1) ∧
  (aggT Try.prog 2 = false) ∧
  ((Try.prog.underlying 2).isSome = true) ∧
  (elemT Try.prog 2 = none) ∧
  (arrT Try.prog 2 = none) ∧
  (intT Try.prog 2 = some .i64) ∧
  (eqT Try.prog 2 = 0) ∧
  ((Try.prog.info? 3).isSome = true) ∧
  (szT Try.prog 3 = 1) ∧
  (aggT Try.prog 3 = false) ∧
  ((Try.prog.underlying 3).isSome = true) ∧
  (elemT Try.prog 3 = none) ∧
  (arrT Try.prog 3 = none) ∧
  (intT Try.prog 3 = some .i64) ∧
  (eqT Try.prog 3 = 0) ∧
  ((Try.prog.info? 4).isSome = true) ∧
  (szT Try.prog 4 = 1) ∧
  (aggT Try.prog 4 = false) ∧
  ((Try.prog.underlying 4).isSome = true) ∧
  (elemT Try.prog 4 = none) ∧
  (arrT Try.prog 4 = none) ∧
  (eqT Try.prog 4 = 1) ∧
  ((Try.prog.info? 5).isSome = true) ∧
  (szT Try.prog 5 = 1) ∧
  (aggT Try.prog 5 = false) ∧
  ((Try.prog.underlying 5).isSome = true) ∧
  (elemT Try.prog 5 = none) ∧
  (arrT Try.prog 5 = none) ∧
  (intT Try.prog 5 = some .u8) ∧
  (eqT Try.prog 5 = 0) ∧
  ((Try.prog.info? 9).isSome = true) ∧
  (szT Try.prog 9 = 1) ∧
  (aggT Try.prog 9 = false) ∧
  ((Try.prog.underlying 9).isSome = true) ∧
  (elemT Try.prog 9 = none) ∧
  (arrT Try.prog 9 = none) ∧
  (strT Try.prog 9 = true) ∧
  (eqT Try.prog 9 = 0) ∧
  ((Try.prog.info? 21).isSome = true) ∧
  (szT Try.prog 21 = 1) ∧
  (aggT Try.prog 21 = false) ∧
  ((Try.prog.underlying 21).isSome = true) ∧
  (elemT Try.prog 21 = none) ∧
  (arrT Try.prog 21 = none) ∧
  (intT Try.prog 21 = some .i32) ∧
  (eqT Try.prog 21 = 0) ∧
  ((Try.prog.info? 22).isSome = true) ∧
  (szT Try.prog 22 = 1) ∧
  (aggT Try.prog 22 = false) ∧
  ((Try.prog.underlying 22).isSome = true) ∧
  (elemT Try.prog 22 = some 38) ∧
  (arrT Try.prog 22 = none) ∧
  (eqT Try.prog 22 = 3) ∧
  ((Try.prog.info? 23).isSome = true) ∧
  (szT Try.prog 23 = 1) ∧
  (aggT Try.prog 23 = false) ∧
  ((Try.prog.underlying 23).isSome = true) ∧
  (elemT Try.prog 23 = some 37) ∧
  (arrT Try.prog 23 = none) ∧
  (eqT Try.prog 23 = 3) ∧
  ((Try.prog.info? 26).isSome = true) ∧
  (szT Try.prog 26 = 2) ∧
  (aggT Try.prog 26 = true) ∧
  ((Try.prog.underlying 26).isSome = true) ∧
  (elemT Try.prog 26 = none) ∧
  (arrT Try.prog 26 = none) ∧
  (eqT Try.prog 26 = 0) ∧
  (fieldT Try.prog 26 0 = some (0, 23)) ∧
  (fieldT Try.prog 26 1 = some (1, 3)) ∧
  (buildT Try.prog 26 = some (#[.slice none 0 0, .int .i64 0], [(0, 1), (1, 1)])) ∧
  ((Try.prog.info? 27).isSome = true) ∧
  (szT Try.prog 27 = 2) ∧
  (aggT Try.prog 27 = true) ∧
  ((Try.prog.underlying 27).isSome = true) ∧
  (elemT Try.prog 27 = none) ∧
  (arrT Try.prog 27 = none) ∧
  (eqT Try.prog 27 = 0) ∧
  (fieldT Try.prog 27 0 = some (0, 23)) ∧
  (fieldT Try.prog 27 1 = some (1, 3)) ∧
  (buildT Try.prog 27 = some (#[.slice none 0 0, .int .i64 0], [(0, 1), (1, 1)])) ∧
  ((Try.prog.info? 37).isSome = true) ∧
  (szT Try.prog 37 = 1) ∧
  (aggT Try.prog 37 = false) ∧
  ((Try.prog.underlying 37).isSome = true) ∧
  (elemT Try.prog 37 = some 3) ∧
  (arrT Try.prog 37 = none) ∧
  (eqT Try.prog 37 = 3) ∧
  ((Try.prog.info? 38).isSome = true) ∧
  (szT Try.prog 38 = 2) ∧
  (aggT Try.prog 38 = true) ∧
  ((Try.prog.underlying 38).isSome = true) ∧
  (elemT Try.prog 38 = none) ∧
  (arrT Try.prog 38 = some (2, 3)) ∧
  (eqT Try.prog 38 = 0) ∧
  (buildT Try.prog 38 = some (#[.int .i64 0, .int .i64 0], [(0, 1), (1, 1)])) ∧
  ((Try.prog.info? 44).isSome = true) ∧
  (szT Try.prog 44 = 1) ∧
  (aggT Try.prog 44 = false) ∧
  ((Try.prog.underlying 44).isSome = true) ∧
  (elemT Try.prog 44 = none) ∧
  (arrT Try.prog 44 = none) ∧
  (eqT Try.prog 44 = 2) ∧
  ((Try.prog.info? 56).isSome = true) ∧
  (szT Try.prog 56 = 1) ∧
  (aggT Try.prog 56 = false) ∧
  ((Try.prog.underlying 56).isSome = true) ∧
  (elemT Try.prog 56 = some 4) ∧
  (arrT Try.prog 56 = none) ∧
  (eqT Try.prog 56 = 3) ∧
  ((Try.prog.info? 64).isSome = true) ∧
  (szT Try.prog 64 = 1) ∧
  (aggT Try.prog 64 = false) ∧
  ((Try.prog.underlying 64).isSome = true) ∧
  (elemT Try.prog 64 = some 79) ∧
  (arrT Try.prog 64 = none) ∧
  (eqT Try.prog 64 = 3) ∧
  ((Try.prog.info? 69).isSome = true) ∧
  (szT Try.prog 69 = 2) ∧
  (aggT Try.prog 69 = true) ∧
  ((Try.prog.underlying 69).isSome = true) ∧
  (elemT Try.prog 69 = none) ∧
  (arrT Try.prog 69 = none) ∧
  (eqT Try.prog 69 = 0) ∧
  (fieldT Try.prog 69 0 = some (0, 23)) ∧
  (fieldT Try.prog 69 1 = some (1, 23)) ∧
  (buildT Try.prog 69 = some (#[.slice none 0 0, .slice none 0 0], [(0, 1), (1, 1)])) ∧
  ((Try.prog.info? 70).isSome = true) ∧
  (szT Try.prog 70 = 2) ∧
  (aggT Try.prog 70 = true) ∧
  ((Try.prog.underlying 70).isSome = true) ∧
  (elemT Try.prog 70 = none) ∧
  (arrT Try.prog 70 = none) ∧
  (eqT Try.prog 70 = 0) ∧
  (fieldT Try.prog 70 0 = some (0, 23)) ∧
  (fieldT Try.prog 70 1 = some (1, 23)) ∧
  (buildT Try.prog 70 = some (#[.slice none 0 0, .slice none 0 0], [(0, 1), (1, 1)])) ∧
  ((Try.prog.info? 74).isSome = true) ∧
  (szT Try.prog 74 = 1) ∧
  (aggT Try.prog 74 = false) ∧
  ((Try.prog.underlying 74).isSome = true) ∧
  (elemT Try.prog 74 = some 56) ∧
  (arrT Try.prog 74 = none) ∧
  (eqT Try.prog 74 = 3) ∧
  ((Try.prog.info? 78).isSome = true) ∧
  (szT Try.prog 78 = 1) ∧
  (aggT Try.prog 78 = false) ∧
  ((Try.prog.underlying 78).isSome = true) ∧
  (elemT Try.prog 78 = some 80) ∧
  (arrT Try.prog 78 = none) ∧
  (eqT Try.prog 78 = 3) ∧
  ((Try.prog.info? 79).isSome = true) ∧
  (szT Try.prog 79 = 1) ∧
  (aggT Try.prog 79 = false) ∧
  ((Try.prog.underlying 79).isSome = true) ∧
  (elemT Try.prog 79 = some 80) ∧
  (arrT Try.prog 79 = none) ∧
  (eqT Try.prog 79 = 3) ∧
  ((Try.prog.info? 80).isSome = true) ∧
  (szT Try.prog 80 = 1) ∧
  (aggT Try.prog 80 = false) ∧
  ((Try.prog.underlying 80).isSome = true) ∧
  (elemT Try.prog 80 = none) ∧
  (arrT Try.prog 80 = none) ∧
  (intT Try.prog 80 = some .u64) ∧
  (eqT Try.prog 80 = 0) ∧
  ((Try.prog.info? 82).isSome = true) ∧
  (szT Try.prog 82 = 1) ∧
  (aggT Try.prog 82 = false) ∧
  ((Try.prog.underlying 82).isSome = true) ∧
  (elemT Try.prog 82 = none) ∧
  (arrT Try.prog 82 = none) ∧
  (intT Try.prog 82 = some .u64) ∧
  (eqT Try.prog 82 = 0) ∧
  ((Try.prog.info? 91).isSome = true) ∧
  (szT Try.prog 91 = 1) ∧
  (aggT Try.prog 91 = false) ∧
  ((Try.prog.underlying 91).isSome = true) ∧
  (elemT Try.prog 91 = none) ∧
  (arrT Try.prog 91 = none) ∧
  (intT Try.prog 91 = some .u32) ∧
  (eqT Try.prog 91 = 0) ∧
  ((Try.prog.info? 95).isSome = true) ∧
  (szT Try.prog 95 = 1) ∧
  (aggT Try.prog 95 = false) ∧
  ((Try.prog.underlying 95).isSome = true) ∧
  (elemT Try.prog 95 = none) ∧
  (arrT Try.prog 95 = none) ∧
  (eqT Try.prog 95 = 2) :=
  ⟨tyI2, tyS2, tyG2, tyU2, tyE2, tyA2, tyK2, tyQ2, tyI3, tyS3, tyG3, tyU3, tyE3, tyA3, tyK3, tyQ3, tyI4, tyS4, tyG4, tyU4, tyE4, tyA4, tyQ4, tyI5, tyS5, tyG5, tyU5, tyE5, tyA5, tyK5, tyQ5, tyI9, tyS9, tyG9, tyU9, tyE9, tyA9, tyT9, tyQ9, tyI21, tyS21, tyG21, tyU21, tyE21, tyA21, tyK21, tyQ21, tyI22, tyS22, tyG22, tyU22, tyE22, tyA22, tyQ22, tyI23, tyS23, tyG23, tyU23, tyE23, tyA23, tyQ23, tyI26, tyS26, tyG26, tyU26, tyE26, tyA26, tyQ26, tyF26_0, tyF26_1, tyM26, tyI27, tyS27, tyG27, tyU27, tyE27, tyA27, tyQ27, tyF27_0, tyF27_1, tyM27, tyI37, tyS37, tyG37, tyU37, tyE37, tyA37, tyQ37, tyI38, tyS38, tyG38, tyU38, tyE38, tyA38, tyQ38, tyM38, tyI44, tyS44, tyG44, tyU44, tyE44, tyA44, tyQ44, tyI56, tyS56, tyG56, tyU56, tyE56, tyA56, tyQ56, tyI64, tyS64, tyG64, tyU64, tyE64, tyA64, tyQ64, tyI69, tyS69, tyG69, tyU69, tyE69, tyA69, tyQ69, tyF69_0, tyF69_1, tyM69, tyI70, tyS70, tyG70, tyU70, tyE70, tyA70, tyQ70, tyF70_0, tyF70_1, tyM70, tyI74, tyS74, tyG74, tyU74, tyE74, tyA74, tyQ74, tyI78, tyS78, tyG78, tyU78, tyE78, tyA78, tyQ78, tyI79, tyS79, tyG79, tyU79, tyE79, tyA79, tyQ79, tyI80, tyS80, tyG80, tyU80, tyE80, tyA80, tyK80, tyQ80, tyI82, tyS82, tyG82, tyU82, tyE82, tyA82, tyK82, tyQ82, tyI91, tyS91, tyG91, tyU91, tyE91, tyA91, tyK91, tyQ91, tyI95, tyS95, tyG95, tyU95, tyE95, tyA95, tyQ95⟩
end Go.Proofs.Ytldmnnloakpjlaa

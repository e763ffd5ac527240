/- SampleAnew: closed forms. -/
import Derived.Test.YtfgehfnlkakioaaW3
import Derived.Test.YtfgehfnlkakioaaOX
import Derived.Test.YtfgehfnlkakioaaVX4
namespace Go.Proofs.Ytfgehfnlkakioaa.VC
open Go Go.Proofs

abbrev q1 (n : Nat) (xs : List Int) : Option Blk := some ⟨false, 1, [.ints .i64 n xs]⟩
abbrev q3 (n : Nat) (xs : List Int) : Option Blk := some ⟨false, 3, [.ints .i64 (n * 3) xs]⟩
abbrev o3b (x y z : Int) : Option Blk := some ⟨true, 3, [.ints .i64 3 [x, y, z]]⟩
noncomputable def S14 : Spec := mkS [(59, false, F22), (60, false, F60)]
def live14 : List Nat := [12, 7, 8, 0, 3, 5, 13, 90, 91, 92]
abbrev st14 (rho : Int) (nd no nr i : Nat) : List Value := [.bool false, pt 3, pt 4, w63 rho, sl 0 nd 2, sl 2 nr 2, w63 no, sl 1 no 2, w63 no, w63 i]
--CF cf14r (rho n cc ct C T E : Int) (nd no nr i : Nat) (ds os rs : List Int) (on : List Value → Heap → Out) (out : Exit → List Value → Heap → Out) :: roundK Try.prog S14 noL Try.f14.ntmps 3 (loopOf Try.f14 0) live14 (st14 rho nd no nr i) [q1 nd ds, q1 no os, q3 nr rs, o3b n cc ct, o3b C T E] on out
theorem cf14r (rho n cc ct C T E : Int) (nd no nr i : Nat) (ds os rs : List Int) (on : List Value → Heap → Out) (out : Exit → List Value → Heap → Out) : roundK Try.prog S14 noL Try.f14.ntmps 3 (loopOf Try.f14 0) live14 (st14 rho nd no nr i) [q1 nd ds, q1 no os, q3 nr rs, o3b n cc ct, o3b C T E] on out =
     (bif decide ((↑i : Int) < (↑no : Int)) then bif decide (0 ≤ (↑i : Int)) && decide ((↑i : Int) < (↑no : Int)) then bif (0 + (↑i : Int).toNat * 1).blt no then bif decide (0 ≤ (↑i : Int)) && decide ((↑i
     : Int) < (↑nd : Int)) then bif (0 + (↑i : Int).toNat * 1).blt nd then bif decide (0 ≤ (↑i : Int)) && decide ((↑i : Int) < (↑nr : Int)) then bif (0 + (↑i : Int).toNat * 3).blt (nr * 3) then bif (0 +
     (↑i : Int).toNat * 3 + 1).blt (nr * 3) then bif (0 + (↑i : Int).toNat * 3 + 1 + 1).blt (nr * 3) then bif decide (os.getD (0 + (↑i : Int).toNat * 1) 0 < IntKind.i64.wrap (0 - E)) then out Exit.ret
     [Value.bool true, Value.pointer (some (Addr.mk 3 0 none)), Value.pointer (some (Addr.mk 4 0 none)), Value.int IntKind.i64 rho, Value.slice (some (Addr.mk 0 0 none)) nd 2, Value.slice (some (Addr.mk 2
     0 none)) nr 2, Value.int IntKind.i64 (↑no : Int), Value.slice (some (Addr.mk 1 0 none)) no 2, Value.int IntKind.i64 (↑no : Int), Value.int IntKind.i64 (↑i : Int)] [some (Blk.mk false 1 [Seg.ints
     IntKind.i64 nd ds]), some (Blk.mk false 1 [Seg.ints IntKind.i64 no os]), some (Blk.mk false 3 [Seg.ints IntKind.i64 (nr * 3) rs]), some (Blk.mk true 3 [Seg.ints IntKind.i64 3 [n, cc, ct]]), some
     (Blk.mk true 3 [Seg.ints IntKind.i64 3 [C, T, E]])] else bif decide (os.getD (0 + (↑i : Int).toNat * 1) 0 > E) then out Exit.ret [Value.bool true, Value.pointer (some (Addr.mk 3 0 none)),
     Value.pointer (some (Addr.mk 4 0 none)), Value.int IntKind.i64 rho, Value.slice (some (Addr.mk 0 0 none)) nd 2, Value.slice (some (Addr.mk 2 0 none)) nr 2, Value.int IntKind.i64 (↑no : Int),
     Value.slice (some (Addr.mk 1 0 none)) no 2, Value.int IntKind.i64 (↑no : Int), Value.int IntKind.i64 (↑i : Int)] [some (Blk.mk false 1 [Seg.ints IntKind.i64 nd ds]), some (Blk.mk false 1 [Seg.ints
     IntKind.i64 no os]), some (Blk.mk false 3 [Seg.ints IntKind.i64 (nr * 3) rs]), some (Blk.mk true 3 [Seg.ints IntKind.i64 3 [n, cc, ct]]), some (Blk.mk true 3 [Seg.ints IntKind.i64 3 [C, T, E]])] else
     bif decide (ds.getD (0 + (↑i : Int).toNat * 1) 0 < IntKind.i64.wrap (-1000 * rho)) then out Exit.ret [Value.bool true, Value.pointer (some (Addr.mk 3 0 none)), Value.pointer (some (Addr.mk 4 0 none)),
     Value.int IntKind.i64 rho, Value.slice (some (Addr.mk 0 0 none)) nd 2, Value.slice (some (Addr.mk 2 0 none)) nr 2, Value.int IntKind.i64 (↑no : Int), Value.slice (some (Addr.mk 1 0 none)) no 2,
     Value.int IntKind.i64 (↑no : Int), Value.int IntKind.i64 (↑i : Int)] [some (Blk.mk false 1 [Seg.ints IntKind.i64 nd ds]), some (Blk.mk false 1 [Seg.ints IntKind.i64 no os]), some (Blk.mk false 3
     [Seg.ints IntKind.i64 (nr * 3) rs]), some (Blk.mk true 3 [Seg.ints IntKind.i64 3 [n, cc, ct]]), some (Blk.mk true 3 [Seg.ints IntKind.i64 3 [C, T, E]])] else bif decide (ds.getD (0 + (↑i : Int).toNat
     * 1) 0 > IntKind.i64.wrap (1000 * rho)) then out Exit.ret [Value.bool true, Value.pointer (some (Addr.mk 3 0 none)), Value.pointer (some (Addr.mk 4 0 none)), Value.int IntKind.i64 rho, Value.slice
     (some (Addr.mk 0 0 none)) nd 2, Value.slice (some (Addr.mk 2 0 none)) nr 2, Value.int IntKind.i64 (↑no : Int), Value.slice (some (Addr.mk 1 0 none)) no 2, Value.int IntKind.i64 (↑no : Int), Value.int
     IntKind.i64 (↑i : Int)] [some (Blk.mk false 1 [Seg.ints IntKind.i64 nd ds]), some (Blk.mk false 1 [Seg.ints IntKind.i64 no os]), some (Blk.mk false 3 [Seg.ints IntKind.i64 (nr * 3) rs]), some (Blk.mk
     true 3 [Seg.ints IntKind.i64 3 [n, cc, ct]]), some (Blk.mk true 3 [Seg.ints IntKind.i64 3 [C, T, E]])] else bif rs.getD (0 + (↑i : Int).toNat * 3) 0 != 0 then out Exit.ret [Value.bool true,
     Value.pointer (some (Addr.mk 3 0 none)), Value.pointer (some (Addr.mk 4 0 none)), Value.int IntKind.i64 rho, Value.slice (some (Addr.mk 0 0 none)) nd 2, Value.slice (some (Addr.mk 2 0 none)) nr 2,
     Value.int IntKind.i64 (↑no : Int), Value.slice (some (Addr.mk 1 0 none)) no 2, Value.int IntKind.i64 (↑no : Int), Value.int IntKind.i64 (↑i : Int)] [some (Blk.mk false 1 [Seg.ints IntKind.i64 nd ds]),
     some (Blk.mk false 1 [Seg.ints IntKind.i64 no os]), some (Blk.mk false 3 [Seg.ints IntKind.i64 (nr * 3) rs]), some (Blk.mk true 3 [Seg.ints IntKind.i64 3 [n, cc, ct]]), some (Blk.mk true 3 [Seg.ints
     IntKind.i64 3 [C, T, E]])] else bif decide (rs.getD (0 + (↑i : Int).toNat * 3 + 1) 0 < 0) then out Exit.ret [Value.bool true, Value.pointer (some (Addr.mk 3 0 none)), Value.pointer (some (Addr.mk 4 0
     none)), Value.int IntKind.i64 rho, Value.slice (some (Addr.mk 0 0 none)) nd 2, Value.slice (some (Addr.mk 2 0 none)) nr 2, Value.int IntKind.i64 (↑no : Int), Value.slice (some (Addr.mk 1 0 none)) no
     2, Value.int IntKind.i64 (↑no : Int), Value.int IntKind.i64 (↑i : Int)] [some (Blk.mk false 1 [Seg.ints IntKind.i64 nd ds]), some (Blk.mk false 1 [Seg.ints IntKind.i64 no os]), some (Blk.mk false 3
     [Seg.ints IntKind.i64 (nr * 3) rs]), some (Blk.mk true 3 [Seg.ints IntKind.i64 3 [n, cc, ct]]), some (Blk.mk true 3 [Seg.ints IntKind.i64 3 [C, T, E]])] else bif decide (rs.getD (0 + (↑i : Int).toNat
     * 3 + 1) 0 > 6000000000000000000) then out Exit.ret [Value.bool true, Value.pointer (some (Addr.mk 3 0 none)), Value.pointer (some (Addr.mk 4 0 none)), Value.int IntKind.i64 rho, Value.slice (some
     (Addr.mk 0 0 none)) nd 2, Value.slice (some (Addr.mk 2 0 none)) nr 2, Value.int IntKind.i64 (↑no : Int), Value.slice (some (Addr.mk 1 0 none)) no 2, Value.int IntKind.i64 (↑no : Int), Value.int
     IntKind.i64 (↑i : Int)] [some (Blk.mk false 1 [Seg.ints IntKind.i64 nd ds]), some (Blk.mk false 1 [Seg.ints IntKind.i64 no os]), some (Blk.mk false 3 [Seg.ints IntKind.i64 (nr * 3) rs]), some (Blk.mk
     true 3 [Seg.ints IntKind.i64 3 [n, cc, ct]]), some (Blk.mk true 3 [Seg.ints IntKind.i64 3 [C, T, E]])] else bif decide (rs.getD (0 + (↑i : Int).toNat * 3 + 1 + 1) 0 < 0) then out Exit.ret [Value.bool
     true, Value.pointer (some (Addr.mk 3 0 none)), Value.pointer (some (Addr.mk 4 0 none)), Value.int IntKind.i64 rho, Value.slice (some (Addr.mk 0 0 none)) nd 2, Value.slice (some (Addr.mk 2 0 none)) nr
     2, Value.int IntKind.i64 (↑no : Int), Value.slice (some (Addr.mk 1 0 none)) no 2, Value.int IntKind.i64 (↑no : Int), Value.int IntKind.i64 (↑i : Int)] [some (Blk.mk false 1 [Seg.ints IntKind.i64 nd
     ds]), some (Blk.mk false 1 [Seg.ints IntKind.i64 no os]), some (Blk.mk false 3 [Seg.ints IntKind.i64 (nr * 3) rs]), some (Blk.mk true 3 [Seg.ints IntKind.i64 3 [n, cc, ct]]), some (Blk.mk true 3
     [Seg.ints IntKind.i64 3 [C, T, E]])] else bif decide (rs.getD (0 + (↑i : Int).toNat * 3 + 1 + 1) 0 > 2305843009213693952) then out Exit.ret [Value.bool true, Value.pointer (some (Addr.mk 3 0 none)),
     Value.pointer (some (Addr.mk 4 0 none)), Value.int IntKind.i64 rho, Value.slice (some (Addr.mk 0 0 none)) nd 2, Value.slice (some (Addr.mk 2 0 none)) nr 2, Value.int IntKind.i64 (↑no : Int),
     Value.slice (some (Addr.mk 1 0 none)) no 2, Value.int IntKind.i64 (↑no : Int), Value.int IntKind.i64 (↑i : Int)] [some (Blk.mk false 1 [Seg.ints IntKind.i64 nd ds]), some (Blk.mk false 1 [Seg.ints
     IntKind.i64 no os]), some (Blk.mk false 3 [Seg.ints IntKind.i64 (nr * 3) rs]), some (Blk.mk true 3 [Seg.ints IntKind.i64 3 [n, cc, ct]]), some (Blk.mk true 3 [Seg.ints IntKind.i64 3 [C, T, E]])] else
     bif mayO rho (rs.getD (0 + (↑i : Int).toNat * 3) 0) (rs.getD (0 + (↑i : Int).toNat * 3 + 1) 0) (rs.getD (0 + (↑i : Int).toNat * 3 + 1 + 1) 0) n C (IntKind.i64.wrap (T + os.getD (0 + (↑i : Int).toNat *
     1) 0)) E (↑no : Int) then bif takenB (rs.getD (0 + (↑i : Int).toNat * 3) 0) (rs.getD (0 + (↑i : Int).toNat * 3 + 1) 0) (rs.getD (0 + (↑i : Int).toNat * 3 + 1 + 1) 0) (IntKind.i64.wrap (T + os.getD (0
     + (↑i : Int).toNat * 1) 0)) E then out Exit.ret [Value.bool true, Value.pointer (some (Addr.mk 3 0 none)), Value.pointer (some (Addr.mk 4 0 none)), Value.int IntKind.i64 rho, Value.slice (some
     (Addr.mk 0 0 none)) nd 2, Value.slice (some (Addr.mk 2 0 none)) nr 2, Value.int IntKind.i64 (↑no : Int), Value.slice (some (Addr.mk 1 0 none)) no 2, Value.int IntKind.i64 (↑no : Int), Value.int
     IntKind.i64 (↑i : Int)] [some (Blk.mk false 1 [Seg.ints IntKind.i64 nd ds]), some (Blk.mk false 1 [Seg.ints IntKind.i64 no os]), some (Blk.mk false 3 [Seg.ints IntKind.i64 (nr * 3) rs]), some (Blk.mk
     true 3 [Seg.ints IntKind.i64 3 [n, cc, ct]]), some (Blk.mk true 3 [Seg.ints IntKind.i64 3 [C, T, E]])] else bif rs.getD (0 + (↑i : Int).toNat * 3) 0 == 10 then bif decide (n < IntKind.i64.wrap ((↑i :
     Int) + 1)) then out Exit.ret [Value.bool false, Value.pointer (some (Addr.mk 3 0 none)), Value.pointer (some (Addr.mk 4 0 none)), Value.int IntKind.i64 rho, Value.slice (some (Addr.mk 0 0 none)) nd 2,
     Value.slice (some (Addr.mk 2 0 none)) nr 2, Value.int IntKind.i64 (↑no : Int), Value.slice (some (Addr.mk 1 0 none)) no 2, Value.int IntKind.i64 (↑no : Int), Value.int IntKind.i64 (↑i : Int)] [some
     (Blk.mk false 1 [Seg.ints IntKind.i64 nd ds]), some (Blk.mk false 1 [Seg.ints IntKind.i64 no os]), some (Blk.mk false 3 [Seg.ints IntKind.i64 (nr * 3) rs]), some (Blk.mk true 3 [Seg.ints IntKind.i64 3
     [n, cc, ct]]), some (Blk.mk true 3 [Seg.ints IntKind.i64 3 [C, T, E]])] else on [Value.bool false, Value.pointer (some (Addr.mk 3 0 none)), Value.pointer (some (Addr.mk 4 0 none)), Value.int
     IntKind.i64 rho, Value.slice (some (Addr.mk 0 0 none)) nd 2, Value.slice (some (Addr.mk 2 0 none)) nr 2, Value.int IntKind.i64 (↑no : Int), Value.slice (some (Addr.mk 1 0 none)) no 2, Value.int
     IntKind.i64 (↑no : Int), Value.int IntKind.i64 (IntKind.i64.wrap ((↑i : Int) + 1))] [some (Blk.mk false 1 [Seg.ints IntKind.i64 nd ds]), some (Blk.mk false 1 [Seg.ints IntKind.i64 no os]), some
     (Blk.mk false 3 [Seg.ints IntKind.i64 (nr * 3) rs]), some (Blk.mk true 3 [Seg.ints IntKind.i64 3 ((([n, cc, ct].set 0 n).set 1 cc).set 2 ct)]), some (Blk.mk true 3 [Seg.ints IntKind.i64 3 (([C, T,
     E].set 0 (IntKind.i64.wrap (IntKind.i64.wrap (C + 1000000000) + ds.getD (0 + (↑i : Int).toNat * 1) 0))).set 1 (IntKind.i64.wrap (T + 1000000000)))])] else bif followsB rho n cc ct C (IntKind.i64.wrap
     (T + os.getD (0 + (↑i : Int).toNat * 1) 0)) E then bif decide (n + 1 ≥ (↑no : Int)) then out Exit.ret [Value.bool true, Value.pointer (some (Addr.mk 3 0 none)), Value.pointer (some (Addr.mk 4 0
     none)), Value.int IntKind.i64 rho, Value.slice (some (Addr.mk 0 0 none)) nd 2, Value.slice (some (Addr.mk 2 0 none)) nr 2, Value.int IntKind.i64 (↑no : Int), Value.slice (some (Addr.mk 1 0 none)) no
     2, Value.int IntKind.i64 (↑no : Int), Value.int IntKind.i64 (↑i : Int)] [some (Blk.mk false 1 [Seg.ints IntKind.i64 nd ds]), some (Blk.mk false 1 [Seg.ints IntKind.i64 no os]), some (Blk.mk false 3
     [Seg.ints IntKind.i64 (nr * 3) rs]), some (Blk.mk true 3 [Seg.ints IntKind.i64 3 [n, cc, ct]]), some (Blk.mk true 3 [Seg.ints IntKind.i64 3 [C, T, E]])] else bif decide (n + 1 < IntKind.i64.wrap ((↑i
     : Int) + 1)) then out Exit.ret [Value.bool false, Value.pointer (some (Addr.mk 3 0 none)), Value.pointer (some (Addr.mk 4 0 none)), Value.int IntKind.i64 rho, Value.slice (some (Addr.mk 0 0 none)) nd
     2, Value.slice (some (Addr.mk 2 0 none)) nr 2, Value.int IntKind.i64 (↑no : Int), Value.slice (some (Addr.mk 1 0 none)) no 2, Value.int IntKind.i64 (↑no : Int), Value.int IntKind.i64 (↑i : Int)] [some
     (Blk.mk false 1 [Seg.ints IntKind.i64 nd ds]), some (Blk.mk false 1 [Seg.ints IntKind.i64 no os]), some (Blk.mk false 3 [Seg.ints IntKind.i64 (nr * 3) rs]), some (Blk.mk true 3 [Seg.ints IntKind.i64 3
     [n, cc, ct]]), some (Blk.mk true 3 [Seg.ints IntKind.i64 3 [C, T, E]])] else on [Value.bool false, Value.pointer (some (Addr.mk 3 0 none)), Value.pointer (some (Addr.mk 4 0 none)), Value.int
     IntKind.i64 rho, Value.slice (some (Addr.mk 0 0 none)) nd 2, Value.slice (some (Addr.mk 2 0 none)) nr 2, Value.int IntKind.i64 (↑no : Int), Value.slice (some (Addr.mk 1 0 none)) no 2, Value.int
     IntKind.i64 (↑no : Int), Value.int IntKind.i64 (IntKind.i64.wrap ((↑i : Int) + 1))] [some (Blk.mk false 1 [Seg.ints IntKind.i64 nd ds]), some (Blk.mk false 1 [Seg.ints IntKind.i64 no os]), some
     (Blk.mk false 3 [Seg.ints IntKind.i64 (nr * 3) rs]), some (Blk.mk true 3 [Seg.ints IntKind.i64 3 ((([n, cc, ct].set 0 (n + 1)).set 1 C).set 2 (IntKind.i64.wrap (T + os.getD (0 + (↑i : Int).toNat * 1)
     0)))]), some (Blk.mk true 3 [Seg.ints IntKind.i64 3 (([C, T, E].set 0 (IntKind.i64.wrap (IntKind.i64.wrap (C + 1000000000) + ds.getD (0 + (↑i : Int).toNat * 1) 0))).set 1 (IntKind.i64.wrap (T +
     1000000000)))])] else bif decide (1 ≥ (↑no : Int)) then out Exit.ret [Value.bool true, Value.pointer (some (Addr.mk 3 0 none)), Value.pointer (some (Addr.mk 4 0 none)), Value.int IntKind.i64 rho,
     Value.slice (some (Addr.mk 0 0 none)) nd 2, Value.slice (some (Addr.mk 2 0 none)) nr 2, Value.int IntKind.i64 (↑no : Int), Value.slice (some (Addr.mk 1 0 none)) no 2, Value.int IntKind.i64 (↑no :
     Int), Value.int IntKind.i64 (↑i : Int)] [some (Blk.mk false 1 [Seg.ints IntKind.i64 nd ds]), some (Blk.mk false 1 [Seg.ints IntKind.i64 no os]), some (Blk.mk false 3 [Seg.ints IntKind.i64 (nr * 3)
     rs]), some (Blk.mk true 3 [Seg.ints IntKind.i64 3 [n, cc, ct]]), some (Blk.mk true 3 [Seg.ints IntKind.i64 3 [C, T, E]])] else bif decide (1 < IntKind.i64.wrap ((↑i : Int) + 1)) then out Exit.ret
     [Value.bool false, Value.pointer (some (Addr.mk 3 0 none)), Value.pointer (some (Addr.mk 4 0 none)), Value.int IntKind.i64 rho, Value.slice (some (Addr.mk 0 0 none)) nd 2, Value.slice (some (Addr.mk 2
     0 none)) nr 2, Value.int IntKind.i64 (↑no : Int), Value.slice (some (Addr.mk 1 0 none)) no 2, Value.int IntKind.i64 (↑no : Int), Value.int IntKind.i64 (↑i : Int)] [some (Blk.mk false 1 [Seg.ints
     IntKind.i64 nd ds]), some (Blk.mk false 1 [Seg.ints IntKind.i64 no os]), some (Blk.mk false 3 [Seg.ints IntKind.i64 (nr * 3) rs]), some (Blk.mk true 3 [Seg.ints IntKind.i64 3 [n, cc, ct]]), some
     (Blk.mk true 3 [Seg.ints IntKind.i64 3 [C, T, E]])] else on [Value.bool false, Value.pointer (some (Addr.mk 3 0 none)), Value.pointer (some (Addr.mk 4 0 none)), Value.int IntKind.i64 rho, Value.slice
     (some (Addr.mk 0 0 none)) nd 2, Value.slice (some (Addr.mk 2 0 none)) nr 2, Value.int IntKind.i64 (↑no : Int), Value.slice (some (Addr.mk 1 0 none)) no 2, Value.int IntKind.i64 (↑no : Int), Value.int
     IntKind.i64 (IntKind.i64.wrap ((↑i : Int) + 1))] [some (Blk.mk false 1 [Seg.ints IntKind.i64 nd ds]), some (Blk.mk false 1 [Seg.ints IntKind.i64 no os]), some (Blk.mk false 3 [Seg.ints IntKind.i64 (nr
     * 3) rs]), some (Blk.mk true 3 [Seg.ints IntKind.i64 3 ((([n, cc, ct].set 0 1).set 1 C).set 2 (IntKind.i64.wrap (T + os.getD (0 + (↑i : Int).toNat * 1) 0)))]), some (Blk.mk true 3 [Seg.ints
     IntKind.i64 3 (([C, T, E].set 0 (IntKind.i64.wrap (IntKind.i64.wrap (C + 1000000000) + ds.getD (0 + (↑i : Int).toNat * 1) 0))).set 1 (IntKind.i64.wrap (T + 1000000000)))])] else out Exit.ret
     [Value.bool false, Value.pointer (some (Addr.mk 3 0 none)), Value.pointer (some (Addr.mk 4 0 none)), Value.int IntKind.i64 rho, Value.slice (some (Addr.mk 0 0 none)) nd 2, Value.slice (some (Addr.mk 2
     0 none)) nr 2, Value.int IntKind.i64 (↑no : Int), Value.slice (some (Addr.mk 1 0 none)) no 2, Value.int IntKind.i64 (↑no : Int), Value.int IntKind.i64 (↑i : Int)] [some (Blk.mk false 1 [Seg.ints
     IntKind.i64 nd ds]), some (Blk.mk false 1 [Seg.ints IntKind.i64 no os]), some (Blk.mk false 3 [Seg.ints IntKind.i64 (nr * 3) rs]), some (Blk.mk true 3 [Seg.ints IntKind.i64 3 [n, cc, ct]]), some
     (Blk.mk true 3 [Seg.ints IntKind.i64 3 [C, T, E]])] else none else none else none else none else none else none else none else none else out (Exit.exit 0) [Value.bool false, Value.pointer (some
     (Addr.mk 3 0 none)), Value.pointer (some (Addr.mk 4 0 none)), Value.int IntKind.i64 rho, Value.slice (some (Addr.mk 0 0 none)) nd 2, Value.slice (some (Addr.mk 2 0 none)) nr 2, Value.int IntKind.i64
     (↑no : Int), Value.slice (some (Addr.mk 1 0 none)) no 2, Value.int IntKind.i64 (↑no : Int), Value.int IntKind.i64 (↑i : Int)] [some (Blk.mk false 1 [Seg.ints IntKind.i64 nd ds]), some (Blk.mk false 1
     [Seg.ints IntKind.i64 no os]), some (Blk.mk false 3 [Seg.ints IntKind.i64 (nr * 3) rs]), some (Blk.mk true 3 [Seg.ints IntKind.i64 3 [n, cc, ct]]), some (Blk.mk true 3 [Seg.ints IntKind.i64 3 [C, T,
     E]])]) := by kernel_rfl
--CFEND
end Go.Proofs.Ytfgehfnlkakioaa.VC

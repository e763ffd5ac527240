/- ClockHonest: the functions, in pieces. -/
import Derived.Test.YtfgehfnlkakioaaH1
import Derived.Test.YtfgehfnlkakioaaVX4
namespace Go.Proofs.Ytfgehfnlkakioaa.VC
open Go Go.Proofs

abbrev lB (tr co : Int) : Option Blk := some ⟨true, 2, [.ints .i64 2 [tr, co]]⟩
abbrev zP (id : Nat) (z : Int) : Option Blk := some ⟨true, 2, [.vals [.bool false, .slice (some ⟨id, 0, none⟩) (digits z.natAbs).length 2]]⟩
noncomputable def F74 : FSpec := fun args h k => match args, h with
  | [.agg ⟨[.int .i64 tr, .int .i64 co]⟩, .int .i64 rho], [] => bif decide (1 ≤ rho) && decide (rho ≤ 500) then k (.bool (driftB rho tr co)) [] else none
  | _, _ => none
noncomputable def S74 : Spec := mkS [(29, false, F29), (32, false, F32), (36, false, F36), (76, false, F76)]
--CF cf74a (tr co rho : Int) :: pieceA Try.prog S74 noL Try.f74.ntmps 0 [1, 2] (fstC (bodyOf Try.f74)) (slots0 0 [.agg ⟨[w63 tr, w63 co]⟩, w63 rho]) []
theorem cf74a (tr co rho : Int) : pieceA Try.prog S74 noL Try.f74.ntmps 0 [1, 2] (fstC (bodyOf Try.f74)) (slots0 0 [.agg ⟨[w63 tr, w63 co]⟩, w63 rho]) [] =
     (some (Res.at Exit.normal [(1, some (Value.int IntKind.i64 rho)), (2, some (Value.pointer (some (Addr.mk 0 0 none))))] [some (Blk.mk true 2 [Seg.ints IntKind.i64 2 [tr, co]])])) := by kernel_rfl
--CFEND
--CF cf74b (tr co rho : Int) :: pieceA Try.prog S74 noL Try.f74.ntmps 0 [1, 2, 5] (fstC (sndC (bodyOf Try.f74))) (zipS [1, 2] [w63 rho, pt 0]) [lB tr co]
theorem cf74b (tr co rho : Int) : pieceA Try.prog S74 noL Try.f74.ntmps 0 [1, 2, 5] (fstC (sndC (bodyOf Try.f74))) (zipS [1, 2] [w63 rho, pt 0]) [lB tr co] =
     (bif normB (digits co.natAbs).length (digits co.natAbs) && normB (digits tr.natAbs).length (digits tr.natAbs) && (digits co.natAbs).length.ble (digits co.natAbs).length && (digits
     tr.natAbs).length.ble (digits tr.natAbs).length && (digits co.natAbs).length.ble (OfNat.ofNat 400000) && (digits tr.natAbs).length.ble (OfNat.ofNat 400000) then some (Res.at Exit.normal [(1, some
     (Value.int IntKind.i64 rho)), (2, some (Value.pointer (some (Addr.mk 0 0 none)))), (5, some (Value.pointer (some (Addr.mk 1 0 none))))] [some (Blk.mk true 2 [Seg.ints IntKind.i64 2 [tr, co]]), some
     (Blk.mk true 2 [Seg.vals [Value.bool (decide (sgn (decide (co < 0)) (numW (digits co.natAbs).length (digits co.natAbs)) - sgn (decide (tr < 0)) (numW (digits tr.natAbs).length (digits tr.natAbs)) <
     0)), Value.slice (some (Addr.mk 2 0 none)) (digits (sgn (decide (co < 0)) (numW (digits co.natAbs).length (digits co.natAbs)) - sgn (decide (tr < 0)) (numW (digits tr.natAbs).length (digits
     tr.natAbs))).natAbs).length 2]]), some (Blk.mk true 1 [Seg.ints IntKind.u64 (digits (sgn (decide (co < 0)) (numW (digits co.natAbs).length (digits co.natAbs)) - sgn (decide (tr < 0)) (numW (digits
     tr.natAbs).length (digits tr.natAbs))).natAbs).length (digits (sgn (decide (co < 0)) (numW (digits co.natAbs).length (digits co.natAbs)) - sgn (decide (tr < 0)) (numW (digits tr.natAbs).length (digits
     tr.natAbs))).natAbs)])]) else none) := by kernel_rfl
--CFEND
--CF cf74c (tr co rho z : Int) :: pieceA Try.prog S74 noL Try.f74.ntmps 0 [1, 2, 5] (fstC (sndC (sndC (bodyOf Try.f74)))) (zipS [1, 2, 5] [w63 rho, pt 0, pt 1]) [lB tr co, zC 2 z, zB z]
theorem cf74c (tr co rho z : Int) : pieceA Try.prog S74 noL Try.f74.ntmps 0 [1, 2, 5] (fstC (sndC (sndC (bodyOf Try.f74)))) (zipS [1, 2, 5] [w63 rho, pt 0, pt 1]) [lB tr co, zC 2 z, zB z] =
     (some (Res.at Exit.normal [(1, some (Value.int IntKind.i64 rho)), (2, some (Value.pointer (some (Addr.mk 0 0 none)))), (5, some (Value.pointer (some (Addr.mk 1 0 none))))] [some (Blk.mk true 2
     [Seg.ints IntKind.i64 2 [tr, co]]), some (Blk.mk true 2 [Seg.vals [Value.bool false, Value.slice (some (Addr.mk 2 0 none)) (digits z.natAbs).length 2]]), some (Blk.mk true 1 [Seg.ints IntKind.u64
     (digits z.natAbs).length (digits z.natAbs)])])) := by kernel_rfl
--CFEND
--CF cf74d (tr co rho z : Int) :: tailK Try.prog S74 noL Try.f74 0 (sndC (sndC (sndC (bodyOf Try.f74)))) (zipS [1, 2, 5] [w63 rho, pt 0, pt 1]) [lB tr co, zP 2 z, zB z]
theorem cf74d (tr co rho z : Int) : tailK Try.prog S74 noL Try.f74 0 (sndC (sndC (sndC (bodyOf Try.f74)))) (zipS [1, 2, 5] [w63 rho, pt 0, pt 1]) [lB tr co, zP 2 z, zB z] =
     (bif decide (tr ≥ 0) then bif decide (co ≥ 0) then bif normB (digits z.natAbs).length (digits z.natAbs) && normB 1 (digits 1000000) && (digits z.natAbs).length.ble (digits z.natAbs).length && true &&
     (digits z.natAbs).length.ble (OfNat.ofNat 400000) && true then bif normB (digits rho.natAbs).length (digits rho.natAbs) && normB (digits tr.natAbs).length (digits tr.natAbs) && (digits
     rho.natAbs).length.ble (digits rho.natAbs).length && (digits tr.natAbs).length.ble (digits tr.natAbs).length && (digits rho.natAbs).length.ble (OfNat.ofNat 400000) && (digits tr.natAbs).length.ble
     (OfNat.ofNat 400000) then bif normB (digits (sgn false (numW (digits z.natAbs).length (digits z.natAbs)) * 1000000).natAbs).length (digits (sgn false (numW (digits z.natAbs).length (digits z.natAbs))
     * 1000000).natAbs) && normB (digits (sgn (decide (rho < 0)) (numW (digits rho.natAbs).length (digits rho.natAbs)) * sgn (decide (tr < 0)) (numW (digits tr.natAbs).length (digits
     tr.natAbs))).natAbs).length (digits (sgn (decide (rho < 0)) (numW (digits rho.natAbs).length (digits rho.natAbs)) * sgn (decide (tr < 0)) (numW (digits tr.natAbs).length (digits tr.natAbs))).natAbs)
     && (digits (sgn false (numW (digits z.natAbs).length (digits z.natAbs)) * 1000000).natAbs).length.ble (digits (sgn false (numW (digits z.natAbs).length (digits z.natAbs)) * 1000000).natAbs).length &&
     (digits (sgn (decide (rho < 0)) (numW (digits rho.natAbs).length (digits rho.natAbs)) * sgn (decide (tr < 0)) (numW (digits tr.natAbs).length (digits tr.natAbs))).natAbs).length.ble (digits (sgn
     (decide (rho < 0)) (numW (digits rho.natAbs).length (digits rho.natAbs)) * sgn (decide (tr < 0)) (numW (digits tr.natAbs).length (digits tr.natAbs))).natAbs).length && chk (decide (sgn false (numW
     (digits z.natAbs).length (digits z.natAbs)) * 1000000 < 0) = true → 0 < numW (digits (sgn false (numW (digits z.natAbs).length (digits z.natAbs)) * 1000000).natAbs).length (digits (sgn false (numW
     (digits z.natAbs).length (digits z.natAbs)) * 1000000).natAbs)) && chk (decide (sgn (decide (rho < 0)) (numW (digits rho.natAbs).length (digits rho.natAbs)) * sgn (decide (tr < 0)) (numW (digits
     tr.natAbs).length (digits tr.natAbs)) < 0) = true → 0 < numW (digits (sgn (decide (rho < 0)) (numW (digits rho.natAbs).length (digits rho.natAbs)) * sgn (decide (tr < 0)) (numW (digits
     tr.natAbs).length (digits tr.natAbs))).natAbs).length (digits (sgn (decide (rho < 0)) (numW (digits rho.natAbs).length (digits rho.natAbs)) * sgn (decide (tr < 0)) (numW (digits tr.natAbs).length
     (digits tr.natAbs))).natAbs)) then some (Res.ret (Value.bool (decide (cmpZ (sgn (decide (sgn false (numW (digits z.natAbs).length (digits z.natAbs)) * 1000000 < 0)) (numW (digits (sgn false (numW
     (digits z.natAbs).length (digits z.natAbs)) * 1000000).natAbs).length (digits (sgn false (numW (digits z.natAbs).length (digits z.natAbs)) * 1000000).natAbs))) (sgn (decide (sgn (decide (rho < 0))
     (numW (digits rho.natAbs).length (digits rho.natAbs)) * sgn (decide (tr < 0)) (numW (digits tr.natAbs).length (digits tr.natAbs)) < 0)) (numW (digits (sgn (decide (rho < 0)) (numW (digits
     rho.natAbs).length (digits rho.natAbs)) * sgn (decide (tr < 0)) (numW (digits tr.natAbs).length (digits tr.natAbs))).natAbs).length (digits (sgn (decide (rho < 0)) (numW (digits rho.natAbs).length
     (digits rho.natAbs)) * sgn (decide (tr < 0)) (numW (digits tr.natAbs).length (digits tr.natAbs))).natAbs))) ≤ 0))) []) else none else none else none else some (Res.ret (Value.bool false) []) else some
     (Res.ret (Value.bool false) [])) := by kernel_rfl
--CFEND
abbrev rw2 (n : Nat) (xs : List Int) : Option Blk := some ⟨false, 2, [.ints .i64 (n * 2) xs]⟩
noncomputable def S17 : Spec := mkS [(29, false, F29), (32, false, F32), (35, false, F35), (36, false, F36), (72, false, F72), (73, false, F22), (74, false, F74), (75, false, F75), (76, false, F76)]
def live17 : List Nat := [6, 3, 7, 8, 9, 61, 62, 63]
def live17x (l : List Nat) : List Nat := [6, 3, 7, 8, 9, 61, 62, 63] ++ l
noncomputable def c17 : Code := loopOf Try.f17 0
noncomputable def B17 : Code := blkC (fstC (sndC (sndC c17)))
abbrev st17 (c last : Int) (n : Nat) (i : Int) : List Value := [.bool false, pt 1, pt 2, w63 c, w63 last, sl 0 n 2, w63 n, w63 i]
abbrev hp17 (n : Nat) (xs : List Int) (rho R P Q F D C T E z : Int) : Heap := [rw2 n xs, kB rho R P Q F D true C T E, zC 3 z, zB z]
--CF cf17a (c last : Int) (n : Nat) (i : Nat) (xs : List Int) (rho R P Q F D C T E z : Int) :: pieceA Try.prog S17 noL Try.f17.ntmps 1 (live17x [64]) (fstC c17) (zipS live17 (st17 c last n i)) (hp17 n xs rho R P Q F D C T E z)
theorem cf17a (c last : Int) (n : Nat) (i : Nat) (xs : List Int) (rho R P Q F D C T E z : Int) : pieceA Try.prog S17 noL Try.f17.ntmps 1 (live17x [64]) (fstC c17) (zipS live17 (st17 c last n i)) (hp17 n xs rho R P Q F D C T E z) =
     (some (Res.at Exit.normal [(6, some (Value.bool false)), (3, some (Value.pointer (some (Addr.mk 1 0 none)))), (7, some (Value.pointer (some (Addr.mk 2 0 none)))), (8, some (Value.int IntKind.i64 c)),
     (9, some (Value.int IntKind.i64 last)), (61, some (Value.slice (some (Addr.mk 0 0 none)) n 2)), (62, some (Value.int IntKind.i64 (↑n : Int))), (63, some (Value.int IntKind.i64 (↑i : Int))), (64, some
     (Value.bool (decide ((↑i : Int) < (↑n : Int)))))] [some (Blk.mk false 2 [Seg.ints IntKind.i64 (n * 2) xs]), some (Blk.mk true 10 [Seg.ints IntKind.i64 2 [rho, R], Seg.ints IntKind.u64 2 [P, Q],
     Seg.ints IntKind.i64 2 [F, D], Seg.vals [Value.bool true], Seg.ints IntKind.i64 3 [C, T, E]]), some (Blk.mk true 2 [Seg.vals [Value.bool (decide (z < 0)), Value.slice (some (Addr.mk 3 0 none)) (digits
     z.natAbs).length 2]]), some (Blk.mk true 1 [Seg.ints IntKind.u64 (digits z.natAbs).length (digits z.natAbs)])])) := by kernel_rfl
--CFEND
--CF cf17b (c last : Int) (n : Nat) (i : Nat) (xs : List Int) (rho R P Q F D C T E z : Int) :: pieceA Try.prog S17 noL Try.f17.ntmps 1 live17 (fstC (sndC c17)) (zipS (live17x [64]) (st17 c last n i ++ [.bool true])) (hp17 n xs rho R P Q F D C T E z)
theorem cf17b (c last : Int) (n : Nat) (i : Nat) (xs : List Int) (rho R P Q F D C T E z : Int) : pieceA Try.prog S17 noL Try.f17.ntmps 1 live17 (fstC (sndC c17)) (zipS (live17x [64]) (st17 c last n i ++ [.bool true])) (hp17 n xs rho R P Q F D C T E z) =
     (some (Res.at Exit.normal [(6, some (Value.bool false)), (3, some (Value.pointer (some (Addr.mk 1 0 none)))), (7, some (Value.pointer (some (Addr.mk 2 0 none)))), (8, some (Value.int IntKind.i64 c)),
     (9, some (Value.int IntKind.i64 last)), (61, some (Value.slice (some (Addr.mk 0 0 none)) n 2)), (62, some (Value.int IntKind.i64 (↑n : Int))), (63, some (Value.int IntKind.i64 (↑i : Int)))] [some
     (Blk.mk false 2 [Seg.ints IntKind.i64 (n * 2) xs]), some (Blk.mk true 10 [Seg.ints IntKind.i64 2 [rho, R], Seg.ints IntKind.u64 2 [P, Q], Seg.ints IntKind.i64 2 [F, D], Seg.vals [Value.bool true],
     Seg.ints IntKind.i64 3 [C, T, E]]), some (Blk.mk true 2 [Seg.vals [Value.bool (decide (z < 0)), Value.slice (some (Addr.mk 3 0 none)) (digits z.natAbs).length 2]]), some (Blk.mk true 1 [Seg.ints
     IntKind.u64 (digits z.natAbs).length (digits z.natAbs)])])) := by kernel_rfl
--CFEND
--CF cf17b' (c last : Int) (n : Nat) (i : Nat) (xs : List Int) (rho R P Q F D C T E z : Int) :: pieceA Try.prog S17 noL Try.f17.ntmps 1 [6] (fstC (sndC c17)) (zipS (live17x [64]) (st17 c last n i ++ [.bool false])) (hp17 n xs rho R P Q F D C T E z)
theorem cf17b' (c last : Int) (n : Nat) (i : Nat) (xs : List Int) (rho R P Q F D C T E z : Int) : pieceA Try.prog S17 noL Try.f17.ntmps 1 [6] (fstC (sndC c17)) (zipS (live17x [64]) (st17 c last n i ++ [.bool false])) (hp17 n xs rho R P Q F D C T E z) =
     (some (Res.at (Exit.exit 0) [(6, some (Value.bool false))] [some (Blk.mk false 2 [Seg.ints IntKind.i64 (n * 2) xs])])) := by kernel_rfl
--CFEND
--CF cf17c (c last : Int) (n : Nat) (i : Nat) (xs : List Int) (rho R P Q F D C T E z : Int) :: pieceA Try.prog S17 noL Try.f17.ntmps 1 (live17x [11]) (fstC B17) (zipS live17 (st17 c last n i)) (hp17 n xs rho R P Q F D C T E z)
theorem cf17c (c last : Int) (n : Nat) (i : Nat) (xs : List Int) (rho R P Q F D C T E z : Int) : pieceA Try.prog S17 noL Try.f17.ntmps 1 (live17x [11]) (fstC B17) (zipS live17 (st17 c last n i)) (hp17 n xs rho R P Q F D C T E z) =
     (bif decide (0 ≤ (↑i : Int)) && decide ((↑i : Int) < (↑n : Int)) then bif (0 + (↑i : Int).toNat * 2).blt (n * 2) then bif (0 + (↑i : Int).toNat * 2 + 1).blt (n * 2) then some (Res.at Exit.normal [(6,
     some (Value.bool false)), (3, some (Value.pointer (some (Addr.mk 1 0 none)))), (7, some (Value.pointer (some (Addr.mk 2 0 none)))), (8, some (Value.int IntKind.i64 c)), (9, some (Value.int IntKind.i64
     last)), (61, some (Value.slice (some (Addr.mk 0 0 none)) n 2)), (62, some (Value.int IntKind.i64 (↑n : Int))), (63, some (Value.int IntKind.i64 (↑i : Int))), (11, some (Value.pointer (some (Addr.mk 4
     0 none))))] [some (Blk.mk false 2 [Seg.ints IntKind.i64 (n * 2) xs]), some (Blk.mk true 10 [Seg.ints IntKind.i64 2 [rho, R], Seg.ints IntKind.u64 2 [P, Q], Seg.ints IntKind.i64 2 [F, D], Seg.vals
     [Value.bool true], Seg.ints IntKind.i64 3 [C, T, E]]), some (Blk.mk true 2 [Seg.vals [Value.bool (decide (z < 0)), Value.slice (some (Addr.mk 3 0 none)) (digits z.natAbs).length 2]]), some (Blk.mk
     true 1 [Seg.ints IntKind.u64 (digits z.natAbs).length (digits z.natAbs)]), some (Blk.mk true 2 [Seg.ints IntKind.i64 2 [xs.getD (0 + (↑i : Int).toNat * 2) 0, xs.getD (0 + (↑i : Int).toNat * 2 + 1)
     0]])]) else none else none else none) := by kernel_rfl
--CFEND
--CF cf17d (c last : Int) (n : Nat) (i : Nat) (xs : List Int) (rho R P Q F D C T E z tr co : Int) :: pieceA Try.prog S17 noL Try.f17.ntmps 1 (live17x [11]) (fstC (sndC B17)) (zipS (live17x [11]) (st17 c last n i ++ [pt 4])) (hp17 n xs rho R P Q F D C T E z ++ [lB tr co])
theorem cf17d (c last : Int) (n : Nat) (i : Nat) (xs : List Int) (rho R P Q F D C T E z tr co : Int) : pieceA Try.prog S17 noL Try.f17.ntmps 1 (live17x [11]) (fstC (sndC B17)) (zipS (live17x [11]) (st17 c last n i ++ [pt 4])) (hp17 n xs rho R P Q F D C T E z ++ [lB tr co]) =
     (bif decide (1 ≤ rho) && decide (rho ≤ 500) then bif !driftB rho tr co then some (Res.at Exit.ret [(6, some (Value.bool true)), (3, some (Value.pointer (some (Addr.mk 1 0 none)))), (7, some
     (Value.pointer (some (Addr.mk 2 0 none)))), (8, some (Value.int IntKind.i64 c)), (9, some (Value.int IntKind.i64 last)), (61, some (Value.slice (some (Addr.mk 0 0 none)) n 2)), (62, some (Value.int
     IntKind.i64 (↑n : Int))), (63, some (Value.int IntKind.i64 (↑i : Int))), (11, some (Value.pointer (some (Addr.mk 4 0 none))))] [some (Blk.mk false 2 [Seg.ints IntKind.i64 (n * 2) xs]), some (Blk.mk
     true 10 [Seg.ints IntKind.i64 2 [rho, R], Seg.ints IntKind.u64 2 [P, Q], Seg.ints IntKind.i64 2 [F, D], Seg.vals [Value.bool true], Seg.ints IntKind.i64 3 [C, T, E]]), some (Blk.mk true 2 [Seg.vals
     [Value.bool (decide (z < 0)), Value.slice (some (Addr.mk 3 0 none)) (digits z.natAbs).length 2]]), some (Blk.mk true 1 [Seg.ints IntKind.u64 (digits z.natAbs).length (digits z.natAbs)]), some (Blk.mk
     true 2 [Seg.ints IntKind.i64 2 [tr, co]])]) else bif decide (tr > 1125899906842624) then some (Res.at Exit.ret [(6, some (Value.bool true)), (3, some (Value.pointer (some (Addr.mk 1 0 none)))), (7,
     some (Value.pointer (some (Addr.mk 2 0 none)))), (8, some (Value.int IntKind.i64 c)), (9, some (Value.int IntKind.i64 last)), (61, some (Value.slice (some (Addr.mk 0 0 none)) n 2)), (62, some
     (Value.int IntKind.i64 (↑n : Int))), (63, some (Value.int IntKind.i64 (↑i : Int))), (11, some (Value.pointer (some (Addr.mk 4 0 none))))] [some (Blk.mk false 2 [Seg.ints IntKind.i64 (n * 2) xs]), some
     (Blk.mk true 10 [Seg.ints IntKind.i64 2 [rho, R], Seg.ints IntKind.u64 2 [P, Q], Seg.ints IntKind.i64 2 [F, D], Seg.vals [Value.bool true], Seg.ints IntKind.i64 3 [C, T, E]]), some (Blk.mk true 2
     [Seg.vals [Value.bool (decide (z < 0)), Value.slice (some (Addr.mk 3 0 none)) (digits z.natAbs).length 2]]), some (Blk.mk true 1 [Seg.ints IntKind.u64 (digits z.natAbs).length (digits z.natAbs)]),
     some (Blk.mk true 2 [Seg.ints IntKind.i64 2 [tr, co]])]) else some (Res.at Exit.normal [(6, some (Value.bool false)), (3, some (Value.pointer (some (Addr.mk 1 0 none)))), (7, some (Value.pointer (some
     (Addr.mk 2 0 none)))), (8, some (Value.int IntKind.i64 c)), (9, some (Value.int IntKind.i64 last)), (61, some (Value.slice (some (Addr.mk 0 0 none)) n 2)), (62, some (Value.int IntKind.i64 (↑n :
     Int))), (63, some (Value.int IntKind.i64 (↑i : Int))), (11, some (Value.pointer (some (Addr.mk 4 0 none))))] [some (Blk.mk false 2 [Seg.ints IntKind.i64 (n * 2) xs]), some (Blk.mk true 10 [Seg.ints
     IntKind.i64 2 [rho, R], Seg.ints IntKind.u64 2 [P, Q], Seg.ints IntKind.i64 2 [F, D], Seg.vals [Value.bool true], Seg.ints IntKind.i64 3 [C, T, E]]), some (Blk.mk true 2 [Seg.vals [Value.bool (decide
     (z < 0)), Value.slice (some (Addr.mk 3 0 none)) (digits z.natAbs).length 2]]), some (Blk.mk true 1 [Seg.ints IntKind.u64 (digits z.natAbs).length (digits z.natAbs)]), some (Blk.mk true 2 [Seg.ints
     IntKind.i64 2 [tr, co]])]) else none) := by kernel_rfl
--CFEND
--CF cf17d' (c last : Int) (n : Nat) (i : Nat) (xs : List Int) (rho R P Q F D C T E z tr co : Int) :: pieceA Try.prog S17 noL Try.f17.ntmps 1 [6] (fstC (sndC B17)) (zipS (live17x [11]) (st17 c last n i ++ [pt 4])) (hp17 n xs rho R P Q F D C T E z ++ [lB tr co])
theorem cf17d' (c last : Int) (n : Nat) (i : Nat) (xs : List Int) (rho R P Q F D C T E z tr co : Int) : pieceA Try.prog S17 noL Try.f17.ntmps 1 [6] (fstC (sndC B17)) (zipS (live17x [11]) (st17 c last n i ++ [pt 4])) (hp17 n xs rho R P Q F D C T E z ++ [lB tr co]) =
     (bif decide (1 ≤ rho) && decide (rho ≤ 500) then bif !driftB rho tr co then some (Res.at Exit.ret [(6, some (Value.bool true))] [some (Blk.mk false 2 [Seg.ints IntKind.i64 (n * 2) xs])]) else bif
     decide (tr > 1125899906842624) then some (Res.at Exit.ret [(6, some (Value.bool true))] [some (Blk.mk false 2 [Seg.ints IntKind.i64 (n * 2) xs])]) else some (Res.at Exit.normal [(6, some (Value.bool
     false))] [some (Blk.mk false 2 [Seg.ints IntKind.i64 (n * 2) xs])]) else none) := by kernel_rfl
--CFEND
--CF cf17e (c last : Int) (n : Nat) (i : Nat) (xs : List Int) (rho R P Q F D C T E z tr co : Int) :: pieceA Try.prog S17 noL Try.f17.ntmps 1 live17 (fstC (sndC (sndC B17))) (zipS (live17x [11]) (st17 c last n i ++ [pt 4])) (hp17 n xs rho R P Q F D C T E z ++ [lB tr co])
theorem cf17e (c last : Int) (n : Nat) (i : Nat) (xs : List Int) (rho R P Q F D C T E z tr co : Int) : pieceA Try.prog S17 noL Try.f17.ntmps 1 live17 (fstC (sndC (sndC B17))) (zipS (live17x [11]) (st17 c last n i ++ [pt 4])) (hp17 n xs rho R P Q F D C T E z ++ [lB tr co]) =
     (bif normB (digits z.natAbs).length (digits z.natAbs) && normB (digits tr.natAbs).length (digits tr.natAbs) && (digits z.natAbs).length.ble (digits z.natAbs).length && (digits tr.natAbs).length.ble
     (digits tr.natAbs).length && (digits z.natAbs).length.ble (OfNat.ofNat 400000) && (digits tr.natAbs).length.ble (OfNat.ofNat 400000) then some (Res.at Exit.normal [(6, some (Value.bool false)), (3,
     some (Value.pointer (some (Addr.mk 1 0 none)))), (7, some (Value.pointer (some (Addr.mk 2 0 none)))), (8, some (Value.int IntKind.i64 (IntKind.i64.wrap (c + co)))), (9, some (Value.int IntKind.i64
     last)), (61, some (Value.slice (some (Addr.mk 0 0 none)) n 2)), (62, some (Value.int IntKind.i64 (↑n : Int))), (63, some (Value.int IntKind.i64 (↑i : Int)))] [some (Blk.mk false 2 [Seg.ints
     IntKind.i64 (n * 2) xs]), some (Blk.mk true 10 [Seg.ints IntKind.i64 2 [rho, R], Seg.ints IntKind.u64 2 [P, Q], Seg.ints IntKind.i64 2 [F, D], Seg.vals [Value.bool true], Seg.ints IntKind.i64 3 [C, T,
     E]]), some (Blk.mk true 2 [Seg.vals [Value.bool (decide (sgn (decide (z < 0)) (numW (digits z.natAbs).length (digits z.natAbs)) + sgn (decide (tr < 0)) (numW (digits tr.natAbs).length (digits
     tr.natAbs)) < 0)), Value.slice (some (Addr.mk 3 0 none)) (digits (sgn (decide (z < 0)) (numW (digits z.natAbs).length (digits z.natAbs)) + sgn (decide (tr < 0)) (numW (digits tr.natAbs).length (digits
     tr.natAbs))).natAbs).length 2]]), some (Blk.mk true 1 [Seg.ints IntKind.u64 (digits (sgn (decide (z < 0)) (numW (digits z.natAbs).length (digits z.natAbs)) + sgn (decide (tr < 0)) (numW (digits
     tr.natAbs).length (digits tr.natAbs))).natAbs).length (digits (sgn (decide (z < 0)) (numW (digits z.natAbs).length (digits z.natAbs)) + sgn (decide (tr < 0)) (numW (digits tr.natAbs).length (digits
     tr.natAbs))).natAbs)])]) else none) := by kernel_rfl
--CFEND
--CF cf17f (c last : Int) (n : Nat) (i : Nat) (xs : List Int) (rho R P Q F D C T E z : Int) :: pieceA Try.prog S17 noL Try.f17.ntmps 1 (live17x [12, 13, 14]) (fstC (sndC (sndC (sndC B17)))) (zipS live17 (st17 c last n i)) (hp17 n xs rho R P Q F D C T E z)
theorem cf17f (c last : Int) (n : Nat) (i : Nat) (xs : List Int) (rho R P Q F D C T E z : Int) : pieceA Try.prog S17 noL Try.f17.ntmps 1 (live17x [12, 13, 14]) (fstC (sndC (sndC (sndC B17)))) (zipS live17 (st17 c last n i)) (hp17 n xs rho R P Q F D C T E z) =
     (some (Res.at Exit.normal [(6, some (Value.bool false)), (3, some (Value.pointer (some (Addr.mk 1 0 none)))), (7, some (Value.pointer (some (Addr.mk 2 0 none)))), (8, some (Value.int IntKind.i64 c)),
     (9, some (Value.int IntKind.i64 last)), (61, some (Value.slice (some (Addr.mk 0 0 none)) n 2)), (62, some (Value.int IntKind.i64 (↑n : Int))), (63, some (Value.int IntKind.i64 (↑i : Int))), (12, some
     (Value.int IntKind.i64 (readZ rho R P Q F D true C T E c).fst)), (13, some (Value.int IntKind.i64 (readZ rho R P Q F D true C T E c).snd.fst)), (14, some (Value.int IntKind.i64 (readZ rho R P Q F D
     true C T E c).snd.snd))] [some (Blk.mk false 2 [Seg.ints IntKind.i64 (n * 2) xs]), some (Blk.mk true 10 [Seg.ints IntKind.i64 2 [rho, R], Seg.ints IntKind.u64 2 [P, Q], Seg.ints IntKind.i64 2 [F, D],
     Seg.vals [Value.bool true], Seg.ints IntKind.i64 3 [C, T, E]]), some (Blk.mk true 2 [Seg.vals [Value.bool (decide (z < 0)), Value.slice (some (Addr.mk 3 0 none)) (digits z.natAbs).length 2]]), some
     (Blk.mk true 1 [Seg.ints IntKind.u64 (digits z.natAbs).length (digits z.natAbs)])])) := by kernel_rfl
--CFEND
--CF cf17g (c last : Int) (n : Nat) (i : Nat) (xs : List Int) (rho R P Q F D C T E z t e : Int) :: pieceA Try.prog S17 noL Try.f17.ntmps 1 (live17x [12, 13]) (fstC (sndC (sndC (sndC (sndC B17))))) (zipS (live17x [12, 13, 14]) (st17 c last n i ++ [w63 t, w63 e, w63 0])) (hp17 n xs rho R P Q F D C T E z)
theorem cf17g (c last : Int) (n : Nat) (i : Nat) (xs : List Int) (rho R P Q F D C T E z t e : Int) : pieceA Try.prog S17 noL Try.f17.ntmps 1 (live17x [12, 13]) (fstC (sndC (sndC (sndC (sndC B17))))) (zipS (live17x [12, 13, 14]) (st17 c last n i ++ [w63 t, w63 e, w63 0])) (hp17 n xs rho R P Q F D C T E z) =
     (bif decide (e < last) then some (Res.at Exit.ret [(6, some (Value.bool false)), (3, some (Value.pointer (some (Addr.mk 1 0 none)))), (7, some (Value.pointer (some (Addr.mk 2 0 none)))), (8, some
     (Value.int IntKind.i64 c)), (9, some (Value.int IntKind.i64 last)), (61, some (Value.slice (some (Addr.mk 0 0 none)) n 2)), (62, some (Value.int IntKind.i64 (↑n : Int))), (63, some (Value.int
     IntKind.i64 (↑i : Int))), (12, some (Value.int IntKind.i64 t)), (13, some (Value.int IntKind.i64 e))] [some (Blk.mk false 2 [Seg.ints IntKind.i64 (n * 2) xs]), some (Blk.mk true 10 [Seg.ints
     IntKind.i64 2 [rho, R], Seg.ints IntKind.u64 2 [P, Q], Seg.ints IntKind.i64 2 [F, D], Seg.vals [Value.bool true], Seg.ints IntKind.i64 3 [C, T, E]]), some (Blk.mk true 2 [Seg.vals [Value.bool (decide
     (z < 0)), Value.slice (some (Addr.mk 3 0 none)) (digits z.natAbs).length 2]]), some (Blk.mk true 1 [Seg.ints IntKind.u64 (digits z.natAbs).length (digits z.natAbs)])]) else bif decide (e < E) then
     some (Res.at Exit.ret [(6, some (Value.bool false)), (3, some (Value.pointer (some (Addr.mk 1 0 none)))), (7, some (Value.pointer (some (Addr.mk 2 0 none)))), (8, some (Value.int IntKind.i64 c)), (9,
     some (Value.int IntKind.i64 last)), (61, some (Value.slice (some (Addr.mk 0 0 none)) n 2)), (62, some (Value.int IntKind.i64 (↑n : Int))), (63, some (Value.int IntKind.i64 (↑i : Int))), (12, some
     (Value.int IntKind.i64 t)), (13, some (Value.int IntKind.i64 e))] [some (Blk.mk false 2 [Seg.ints IntKind.i64 (n * 2) xs]), some (Blk.mk true 10 [Seg.ints IntKind.i64 2 [rho, R], Seg.ints IntKind.u64
     2 [P, Q], Seg.ints IntKind.i64 2 [F, D], Seg.vals [Value.bool true], Seg.ints IntKind.i64 3 [C, T, E]]), some (Blk.mk true 2 [Seg.vals [Value.bool (decide (z < 0)), Value.slice (some (Addr.mk 3 0
     none)) (digits z.natAbs).length 2]]), some (Blk.mk true 1 [Seg.ints IntKind.u64 (digits z.natAbs).length (digits z.natAbs)])]) else some (Res.at Exit.normal [(6, some (Value.bool false)), (3, some
     (Value.pointer (some (Addr.mk 1 0 none)))), (7, some (Value.pointer (some (Addr.mk 2 0 none)))), (8, some (Value.int IntKind.i64 c)), (9, some (Value.int IntKind.i64 last)), (61, some (Value.slice
     (some (Addr.mk 0 0 none)) n 2)), (62, some (Value.int IntKind.i64 (↑n : Int))), (63, some (Value.int IntKind.i64 (↑i : Int))), (12, some (Value.int IntKind.i64 t)), (13, some (Value.int IntKind.i64
     e))] [some (Blk.mk false 2 [Seg.ints IntKind.i64 (n * 2) xs]), some (Blk.mk true 10 [Seg.ints IntKind.i64 2 [rho, R], Seg.ints IntKind.u64 2 [P, Q], Seg.ints IntKind.i64 2 [F, D], Seg.vals [Value.bool
     true], Seg.ints IntKind.i64 3 [C, T, E]]), some (Blk.mk true 2 [Seg.vals [Value.bool (decide (z < 0)), Value.slice (some (Addr.mk 3 0 none)) (digits z.natAbs).length 2]]), some (Blk.mk true 1
     [Seg.ints IntKind.u64 (digits z.natAbs).length (digits z.natAbs)])])) := by kernel_rfl
--CFEND
--CF cf17h (c last : Int) (n : Nat) (i : Nat) (xs : List Int) (rho R P Q F D C T E z t e : Int) :: pieceA Try.prog S17 noL Try.f17.ntmps 1 (live17x [13, 15]) (fstC (sndC (sndC (sndC (sndC (sndC B17)))))) (zipS (live17x [12, 13]) (st17 c last n i ++ [w63 t, w63 e])) (hp17 n xs rho R P Q F D C T E z)
theorem cf17h (c last : Int) (n : Nat) (i : Nat) (xs : List Int) (rho R P Q F D C T E z t e : Int) : pieceA Try.prog S17 noL Try.f17.ntmps 1 (live17x [13, 15]) (fstC (sndC (sndC (sndC (sndC (sndC B17)))))) (zipS (live17x [12, 13]) (st17 c last n i ++ [w63 t, w63 e])) (hp17 n xs rho R P Q F D C T E z) =
     (bif normB (digits z.natAbs).length (digits z.natAbs) && normB (digits t.natAbs).length (digits t.natAbs) && (digits z.natAbs).length.ble (digits z.natAbs).length && (digits t.natAbs).length.ble
     (digits t.natAbs).length && (digits z.natAbs).length.ble (OfNat.ofNat 400000) && (digits t.natAbs).length.ble (OfNat.ofNat 400000) then some (Res.at Exit.normal [(6, some (Value.bool false)), (3, some
     (Value.pointer (some (Addr.mk 1 0 none)))), (7, some (Value.pointer (some (Addr.mk 2 0 none)))), (8, some (Value.int IntKind.i64 c)), (9, some (Value.int IntKind.i64 last)), (61, some (Value.slice
     (some (Addr.mk 0 0 none)) n 2)), (62, some (Value.int IntKind.i64 (↑n : Int))), (63, some (Value.int IntKind.i64 (↑i : Int))), (13, some (Value.int IntKind.i64 e)), (15, some (Value.pointer (some
     (Addr.mk 4 0 none))))] [some (Blk.mk false 2 [Seg.ints IntKind.i64 (n * 2) xs]), some (Blk.mk true 10 [Seg.ints IntKind.i64 2 [rho, R], Seg.ints IntKind.u64 2 [P, Q], Seg.ints IntKind.i64 2 [F, D],
     Seg.vals [Value.bool true], Seg.ints IntKind.i64 3 [C, T, E]]), some (Blk.mk true 2 [Seg.vals [Value.bool (decide (z < 0)), Value.slice (some (Addr.mk 3 0 none)) (digits z.natAbs).length 2]]), some
     (Blk.mk true 1 [Seg.ints IntKind.u64 (digits z.natAbs).length (digits z.natAbs)]), some (Blk.mk true 2 [Seg.vals [Value.bool (decide (sgn (decide (z < 0)) (numW (digits z.natAbs).length (digits
     z.natAbs)) - sgn (decide (t < 0)) (numW (digits t.natAbs).length (digits t.natAbs)) < 0)), Value.slice (some (Addr.mk 5 0 none)) (digits (sgn (decide (z < 0)) (numW (digits z.natAbs).length (digits
     z.natAbs)) - sgn (decide (t < 0)) (numW (digits t.natAbs).length (digits t.natAbs))).natAbs).length 2]]), some (Blk.mk true 1 [Seg.ints IntKind.u64 (digits (sgn (decide (z < 0)) (numW (digits
     z.natAbs).length (digits z.natAbs)) - sgn (decide (t < 0)) (numW (digits t.natAbs).length (digits t.natAbs))).natAbs).length (digits (sgn (decide (z < 0)) (numW (digits z.natAbs).length (digits
     z.natAbs)) - sgn (decide (t < 0)) (numW (digits t.natAbs).length (digits t.natAbs))).natAbs)])]) else none) := by kernel_rfl
--CFEND
--CF cf17i (c last : Int) (n : Nat) (i : Nat) (xs : List Int) (rho R P Q F D C T E z e d : Int) :: pieceA Try.prog S17 noL Try.f17.ntmps 1 (live17x [13, 15]) (fstC (sndC (sndC (sndC (sndC (sndC (sndC B17))))))) (zipS (live17x [13, 15]) (st17 c last n i ++ [w63 e, pt 4])) (hp17 n xs rho R P Q F D C T E z ++ [zC 5 d, zB d])
theorem cf17i (c last : Int) (n : Nat) (i : Nat) (xs : List Int) (rho R P Q F D C T E z e d : Int) : pieceA Try.prog S17 noL Try.f17.ntmps 1 (live17x [13, 15]) (fstC (sndC (sndC (sndC (sndC (sndC (sndC B17))))))) (zipS (live17x [13, 15]) (st17 c last n i ++ [w63 e, pt 4])) (hp17 n xs rho R P Q F D C T E z ++ [zC 5 d, zB d]) =
     (some (Res.at Exit.normal [(6, some (Value.bool false)), (3, some (Value.pointer (some (Addr.mk 1 0 none)))), (7, some (Value.pointer (some (Addr.mk 2 0 none)))), (8, some (Value.int IntKind.i64 c)),
     (9, some (Value.int IntKind.i64 last)), (61, some (Value.slice (some (Addr.mk 0 0 none)) n 2)), (62, some (Value.int IntKind.i64 (↑n : Int))), (63, some (Value.int IntKind.i64 (↑i : Int))), (13, some
     (Value.int IntKind.i64 e)), (15, some (Value.pointer (some (Addr.mk 4 0 none))))] [some (Blk.mk false 2 [Seg.ints IntKind.i64 (n * 2) xs]), some (Blk.mk true 10 [Seg.ints IntKind.i64 2 [rho, R],
     Seg.ints IntKind.u64 2 [P, Q], Seg.ints IntKind.i64 2 [F, D], Seg.vals [Value.bool true], Seg.ints IntKind.i64 3 [C, T, E]]), some (Blk.mk true 2 [Seg.vals [Value.bool (decide (z < 0)), Value.slice
     (some (Addr.mk 3 0 none)) (digits z.natAbs).length 2]]), some (Blk.mk true 1 [Seg.ints IntKind.u64 (digits z.natAbs).length (digits z.natAbs)]), some (Blk.mk true 2 [Seg.vals [Value.bool false,
     Value.slice (some (Addr.mk 5 0 none)) (digits d.natAbs).length 2]]), some (Blk.mk true 1 [Seg.ints IntKind.u64 (digits d.natAbs).length (digits d.natAbs)])])) := by kernel_rfl
--CFEND
--CF cf17j (c last : Int) (n : Nat) (i : Nat) (xs : List Int) (rho R P Q F D C T E z e d : Int) :: pieceA Try.prog S17 noL Try.f17.ntmps 1 (live17x [13]) (fstC (sndC (sndC (sndC (sndC (sndC (sndC (sndC B17)))))))) (zipS (live17x [13, 15]) (st17 c last n i ++ [w63 e, pt 4])) (hp17 n xs rho R P Q F D C T E z ++ [zP 5 d, zB d])
theorem cf17j (c last : Int) (n : Nat) (i : Nat) (xs : List Int) (rho R P Q F D C T E z e d : Int) : pieceA Try.prog S17 noL Try.f17.ntmps 1 (live17x [13]) (fstC (sndC (sndC (sndC (sndC (sndC (sndC (sndC B17)))))))) (zipS (live17x [13, 15]) (st17 c last n i ++ [w63 e, pt 4])) (hp17 n xs rho R P Q F D C T E z ++ [zP 5 d, zB d]) =
     (bif normB (digits d.natAbs).length (digits d.natAbs) && normB (digits e.natAbs).length (digits e.natAbs) && (digits d.natAbs).length.ble (digits d.natAbs).length && (digits e.natAbs).length.ble
     (digits e.natAbs).length && chk (false = true → 0 < numW (digits d.natAbs).length (digits d.natAbs)) && chk (decide (e < 0) = true → 0 < numW (digits e.natAbs).length (digits e.natAbs)) then bif
     decide (cmpZ (sgn false (numW (digits d.natAbs).length (digits d.natAbs))) (sgn (decide (e < 0)) (numW (digits e.natAbs).length (digits e.natAbs))) > 0) then some (Res.at Exit.ret [(6, some
     (Value.bool false)), (3, some (Value.pointer (some (Addr.mk 1 0 none)))), (7, some (Value.pointer (some (Addr.mk 2 0 none)))), (8, some (Value.int IntKind.i64 c)), (9, some (Value.int IntKind.i64
     last)), (61, some (Value.slice (some (Addr.mk 0 0 none)) n 2)), (62, some (Value.int IntKind.i64 (↑n : Int))), (63, some (Value.int IntKind.i64 (↑i : Int))), (13, some (Value.int IntKind.i64 e))]
     [some (Blk.mk false 2 [Seg.ints IntKind.i64 (n * 2) xs]), some (Blk.mk true 10 [Seg.ints IntKind.i64 2 [rho, R], Seg.ints IntKind.u64 2 [P, Q], Seg.ints IntKind.i64 2 [F, D], Seg.vals [Value.bool
     true], Seg.ints IntKind.i64 3 [C, T, E]]), some (Blk.mk true 2 [Seg.vals [Value.bool (decide (z < 0)), Value.slice (some (Addr.mk 3 0 none)) (digits z.natAbs).length 2]]), some (Blk.mk true 1
     [Seg.ints IntKind.u64 (digits z.natAbs).length (digits z.natAbs)])]) else bif normB (digits (IntKind.i64.wrap (e - E)).natAbs).length (digits (IntKind.i64.wrap (e - E)).natAbs) && normB 1 (digits
     1000000) && (digits (IntKind.i64.wrap (e - E)).natAbs).length.ble (digits (IntKind.i64.wrap (e - E)).natAbs).length && true && (digits (IntKind.i64.wrap (e - E)).natAbs).length.ble (OfNat.ofNat
     400000) && true then bif normB (digits (IntKind.i64.wrap (c - C)).natAbs).length (digits (IntKind.i64.wrap (c - C)).natAbs) && normB (digits rho.natAbs).length (digits rho.natAbs) && (digits
     (IntKind.i64.wrap (c - C)).natAbs).length.ble (digits (IntKind.i64.wrap (c - C)).natAbs).length && (digits rho.natAbs).length.ble (digits rho.natAbs).length && (digits (IntKind.i64.wrap (c -
     C)).natAbs).length.ble (OfNat.ofNat 400000) && (digits rho.natAbs).length.ble (OfNat.ofNat 400000) then bif normB (digits (sgn (decide (IntKind.i64.wrap (e - E) < 0)) (numW (digits (IntKind.i64.wrap
     (e - E)).natAbs).length (digits (IntKind.i64.wrap (e - E)).natAbs)) * 1000000).natAbs).length (digits (sgn (decide (IntKind.i64.wrap (e - E) < 0)) (numW (digits (IntKind.i64.wrap (e -
     E)).natAbs).length (digits (IntKind.i64.wrap (e - E)).natAbs)) * 1000000).natAbs) && normB (digits (sgn (decide (IntKind.i64.wrap (c - C) < 0)) (numW (digits (IntKind.i64.wrap (c - C)).natAbs).length
     (digits (IntKind.i64.wrap (c - C)).natAbs)) * sgn (decide (rho < 0)) (numW (digits rho.natAbs).length (digits rho.natAbs))).natAbs).length (digits (sgn (decide (IntKind.i64.wrap (c - C) < 0)) (numW
     (digits (IntKind.i64.wrap (c - C)).natAbs).length (digits (IntKind.i64.wrap (c - C)).natAbs)) * sgn (decide (rho < 0)) (numW (digits rho.natAbs).length (digits rho.natAbs))).natAbs) && (digits (sgn
     (decide (IntKind.i64.wrap (e - E) < 0)) (numW (digits (IntKind.i64.wrap (e - E)).natAbs).length (digits (IntKind.i64.wrap (e - E)).natAbs)) * 1000000).natAbs).length.ble (digits (sgn (decide
     (IntKind.i64.wrap (e - E) < 0)) (numW (digits (IntKind.i64.wrap (e - E)).natAbs).length (digits (IntKind.i64.wrap (e - E)).natAbs)) * 1000000).natAbs).length && (digits (sgn (decide (IntKind.i64.wrap
     (c - C) < 0)) (numW (digits (IntKind.i64.wrap (c - C)).natAbs).length (digits (IntKind.i64.wrap (c - C)).natAbs)) * sgn (decide (rho < 0)) (numW (digits rho.natAbs).length (digits
     rho.natAbs))).natAbs).length.ble (digits (sgn (decide (IntKind.i64.wrap (c - C) < 0)) (numW (digits (IntKind.i64.wrap (c - C)).natAbs).length (digits (IntKind.i64.wrap (c - C)).natAbs)) * sgn (decide
     (rho < 0)) (numW (digits rho.natAbs).length (digits rho.natAbs))).natAbs).length && chk (decide (sgn (decide (IntKind.i64.wrap (e - E) < 0)) (numW (digits (IntKind.i64.wrap (e - E)).natAbs).length
     (digits (IntKind.i64.wrap (e - E)).natAbs)) * 1000000 < 0) = true → 0 < numW (digits (sgn (decide (IntKind.i64.wrap (e - E) < 0)) (numW (digits (IntKind.i64.wrap (e - E)).natAbs).length (digits
     (IntKind.i64.wrap (e - E)).natAbs)) * 1000000).natAbs).length (digits (sgn (decide (IntKind.i64.wrap (e - E) < 0)) (numW (digits (IntKind.i64.wrap (e - E)).natAbs).length (digits (IntKind.i64.wrap (e
     - E)).natAbs)) * 1000000).natAbs)) && chk (decide (sgn (decide (IntKind.i64.wrap (c - C) < 0)) (numW (digits (IntKind.i64.wrap (c - C)).natAbs).length (digits (IntKind.i64.wrap (c - C)).natAbs)) * sgn
     (decide (rho < 0)) (numW (digits rho.natAbs).length (digits rho.natAbs)) < 0) = true → 0 < numW (digits (sgn (decide (IntKind.i64.wrap (c - C) < 0)) (numW (digits (IntKind.i64.wrap (c -
     C)).natAbs).length (digits (IntKind.i64.wrap (c - C)).natAbs)) * sgn (decide (rho < 0)) (numW (digits rho.natAbs).length (digits rho.natAbs))).natAbs).length (digits (sgn (decide (IntKind.i64.wrap (c
     - C) < 0)) (numW (digits (IntKind.i64.wrap (c - C)).natAbs).length (digits (IntKind.i64.wrap (c - C)).natAbs)) * sgn (decide (rho < 0)) (numW (digits rho.natAbs).length (digits rho.natAbs))).natAbs))
     then bif decide (cmpZ (sgn (decide (sgn (decide (IntKind.i64.wrap (e - E) < 0)) (numW (digits (IntKind.i64.wrap (e - E)).natAbs).length (digits (IntKind.i64.wrap (e - E)).natAbs)) * 1000000 < 0))
     (numW (digits (sgn (decide (IntKind.i64.wrap (e - E) < 0)) (numW (digits (IntKind.i64.wrap (e - E)).natAbs).length (digits (IntKind.i64.wrap (e - E)).natAbs)) * 1000000).natAbs).length (digits (sgn
     (decide (IntKind.i64.wrap (e - E) < 0)) (numW (digits (IntKind.i64.wrap (e - E)).natAbs).length (digits (IntKind.i64.wrap (e - E)).natAbs)) * 1000000).natAbs))) (sgn (decide (sgn (decide
     (IntKind.i64.wrap (c - C) < 0)) (numW (digits (IntKind.i64.wrap (c - C)).natAbs).length (digits (IntKind.i64.wrap (c - C)).natAbs)) * sgn (decide (rho < 0)) (numW (digits rho.natAbs).length (digits
     rho.natAbs)) < 0)) (numW (digits (sgn (decide (IntKind.i64.wrap (c - C) < 0)) (numW (digits (IntKind.i64.wrap (c - C)).natAbs).length (digits (IntKind.i64.wrap (c - C)).natAbs)) * sgn (decide (rho <
     0)) (numW (digits rho.natAbs).length (digits rho.natAbs))).natAbs).length (digits (sgn (decide (IntKind.i64.wrap (c - C) < 0)) (numW (digits (IntKind.i64.wrap (c - C)).natAbs).length (digits
     (IntKind.i64.wrap (c - C)).natAbs)) * sgn (decide (rho < 0)) (numW (digits rho.natAbs).length (digits rho.natAbs))).natAbs))) < 0) then some (Res.at Exit.ret [(6, some (Value.bool false)), (3, some
     (Value.pointer (some (Addr.mk 1 0 none)))), (7, some (Value.pointer (some (Addr.mk 2 0 none)))), (8, some (Value.int IntKind.i64 c)), (9, some (Value.int IntKind.i64 last)), (61, some (Value.slice
     (some (Addr.mk 0 0 none)) n 2)), (62, some (Value.int IntKind.i64 (↑n : Int))), (63, some (Value.int IntKind.i64 (↑i : Int))), (13, some (Value.int IntKind.i64 e))] [some (Blk.mk false 2 [Seg.ints
     IntKind.i64 (n * 2) xs]), some (Blk.mk true 10 [Seg.ints IntKind.i64 2 [rho, R], Seg.ints IntKind.u64 2 [P, Q], Seg.ints IntKind.i64 2 [F, D], Seg.vals [Value.bool true], Seg.ints IntKind.i64 3 [C, T,
     E]]), some (Blk.mk true 2 [Seg.vals [Value.bool (decide (z < 0)), Value.slice (some (Addr.mk 3 0 none)) (digits z.natAbs).length 2]]), some (Blk.mk true 1 [Seg.ints IntKind.u64 (digits
     z.natAbs).length (digits z.natAbs)])]) else some (Res.at Exit.normal [(6, some (Value.bool false)), (3, some (Value.pointer (some (Addr.mk 1 0 none)))), (7, some (Value.pointer (some (Addr.mk 2 0
     none)))), (8, some (Value.int IntKind.i64 c)), (9, some (Value.int IntKind.i64 last)), (61, some (Value.slice (some (Addr.mk 0 0 none)) n 2)), (62, some (Value.int IntKind.i64 (↑n : Int))), (63, some
     (Value.int IntKind.i64 (↑i : Int))), (13, some (Value.int IntKind.i64 e))] [some (Blk.mk false 2 [Seg.ints IntKind.i64 (n * 2) xs]), some (Blk.mk true 10 [Seg.ints IntKind.i64 2 [rho, R], Seg.ints
     IntKind.u64 2 [P, Q], Seg.ints IntKind.i64 2 [F, D], Seg.vals [Value.bool true], Seg.ints IntKind.i64 3 [C, T, E]]), some (Blk.mk true 2 [Seg.vals [Value.bool (decide (z < 0)), Value.slice (some
     (Addr.mk 3 0 none)) (digits z.natAbs).length 2]]), some (Blk.mk true 1 [Seg.ints IntKind.u64 (digits z.natAbs).length (digits z.natAbs)])]) else none else none else none else none) := by kernel_rfl
--CFEND
--CF cf17k (c last : Int) (n : Nat) (i : Nat) (xs : List Int) (rho R P Q F D C T E z e : Int) :: pieceA Try.prog S17 noL Try.f17.ntmps 1 live17 (sndC (sndC (sndC (sndC (sndC (sndC (sndC (sndC B17)))))))) (zipS (live17x [13]) (st17 c last n i ++ [w63 e])) (hp17 n xs rho R P Q F D C T E z)
theorem cf17k (c last : Int) (n : Nat) (i : Nat) (xs : List Int) (rho R P Q F D C T E z e : Int) : pieceA Try.prog S17 noL Try.f17.ntmps 1 live17 (sndC (sndC (sndC (sndC (sndC (sndC (sndC (sndC B17)))))))) (zipS (live17x [13]) (st17 c last n i ++ [w63 e])) (hp17 n xs rho R P Q F D C T E z) =
     (some (Res.at Exit.normal [(6, some (Value.bool false)), (3, some (Value.pointer (some (Addr.mk 1 0 none)))), (7, some (Value.pointer (some (Addr.mk 2 0 none)))), (8, some (Value.int IntKind.i64 c)),
     (9, some (Value.int IntKind.i64 e)), (61, some (Value.slice (some (Addr.mk 0 0 none)) n 2)), (62, some (Value.int IntKind.i64 (↑n : Int))), (63, some (Value.int IntKind.i64 (↑i : Int)))] [some (Blk.mk
     false 2 [Seg.ints IntKind.i64 (n * 2) xs]), some (Blk.mk true 10 [Seg.ints IntKind.i64 2 [rho, R], Seg.ints IntKind.u64 2 [P, Q], Seg.ints IntKind.i64 2 [F, D], Seg.vals [Value.bool true], Seg.ints
     IntKind.i64 3 [C, T, E]]), some (Blk.mk true 2 [Seg.vals [Value.bool (decide (z < 0)), Value.slice (some (Addr.mk 3 0 none)) (digits z.natAbs).length 2]]), some (Blk.mk true 1 [Seg.ints IntKind.u64
     (digits z.natAbs).length (digits z.natAbs)])])) := by kernel_rfl
--CFEND
--CF cf17l (c last : Int) (n : Nat) (i : Nat) (xs : List Int) (rho R P Q F D C T E z : Int) :: pieceA Try.prog S17 noL Try.f17.ntmps 1 live17 (sndC (sndC (sndC c17))) (zipS live17 (st17 c last n i)) (hp17 n xs rho R P Q F D C T E z)
theorem cf17l (c last : Int) (n : Nat) (i : Nat) (xs : List Int) (rho R P Q F D C T E z : Int) : pieceA Try.prog S17 noL Try.f17.ntmps 1 live17 (sndC (sndC (sndC c17))) (zipS live17 (st17 c last n i)) (hp17 n xs rho R P Q F D C T E z) =
     (some (Res.at Exit.normal [(6, some (Value.bool false)), (3, some (Value.pointer (some (Addr.mk 1 0 none)))), (7, some (Value.pointer (some (Addr.mk 2 0 none)))), (8, some (Value.int IntKind.i64 c)),
     (9, some (Value.int IntKind.i64 last)), (61, some (Value.slice (some (Addr.mk 0 0 none)) n 2)), (62, some (Value.int IntKind.i64 (↑n : Int))), (63, some (Value.int IntKind.i64 (IntKind.i64.wrap ((↑i :
     Int) + 1))))] [some (Blk.mk false 2 [Seg.ints IntKind.i64 (n * 2) xs]), some (Blk.mk true 10 [Seg.ints IntKind.i64 2 [rho, R], Seg.ints IntKind.u64 2 [P, Q], Seg.ints IntKind.i64 2 [F, D], Seg.vals
     [Value.bool true], Seg.ints IntKind.i64 3 [C, T, E]]), some (Blk.mk true 2 [Seg.vals [Value.bool (decide (z < 0)), Value.slice (some (Addr.mk 3 0 none)) (digits z.natAbs).length 2]]), some (Blk.mk
     true 1 [Seg.ints IntKind.u64 (digits z.natAbs).length (digits z.natAbs)])])) := by kernel_rfl
--CFEND
noncomputable def L17f : LF := fun vs h k => match vs, h with
  | [.bool false, .pointer (some ⟨1, 0, none⟩), .pointer (some ⟨2, 0, none⟩), .int .i64 c, .int .i64 0, .slice (some ⟨0, 0, none⟩) n 2, .int .i64 n', .int .i64 0],
    [some ⟨false, 2, [.ints .i64 m xs]⟩, some ⟨true, 10, [.ints .i64 2 [rho, R], .ints .u64 2 [P, Q], .ints .i64 2 [F, D], .vals [.bool true], .ints .i64 3 [C, T, E]]⟩, some ⟨true, 2, [.vals [.bool nb, .slice (some ⟨3, 0, none⟩) k1 2]]⟩, some ⟨true, 1, [.ints .u64 k2 zs]⟩] =>
    bif chk (m = n * 2 ∧ n' = n ∧ n ≤ 60 ∧ c = C ∧ mayK rho R P Q F D true C T E = true ∧ T ≤ 3000000000000000000 ∧ C ≤ 1152921504606846976 ∧ ∃ z, nb = decide (z < 0) ∧ k1 = (digits z.natAbs).length ∧ k2 = k1 ∧ zs = digits z.natAbs ∧ T - E ≤ z ∧ z ≤ T + E) then
      (bif goodL rho xs then k (.exit 0) [.bool false] [rw2 n xs] else k .ret [.bool true] [rw2 n xs]) else none
  | _, _ => none
noncomputable def L17 : LSpec := oneL 5 live17 L17f
--CF cf17 (rho R P Q F D C T E off : Int) (n : Nat) (xs : List Int) :: fnK Try.prog S17 L17 Try.f17 [kV rho R P Q F D true C T E, w63 off, sl 0 n 2] [rw2 n xs]
theorem cf17 (rho R P Q F D C T E off : Int) (n : Nat) (xs : List Int) : fnK Try.prog S17 L17 Try.f17 [kV rho R P Q F D true C T E, w63 off, sl 0 n 2] [rw2 n xs] =
     (bif !mayK rho R P Q F D true C T E then some (Res.ret (Value.bool true) [some (Blk.mk false 2 [Seg.ints IntKind.i64 (n * 2) xs])]) else bif decide ((↑n : Int) > 60) then some (Res.ret (Value.bool
     true) [some (Blk.mk false 2 [Seg.ints IntKind.i64 (n * 2) xs])]) else bif decide (T > 3000000000000000000) then some (Res.ret (Value.bool true) [some (Blk.mk false 2 [Seg.ints IntKind.i64 (n * 2)
     xs])]) else bif decide (C > 1152921504606846976) then some (Res.ret (Value.bool true) [some (Blk.mk false 2 [Seg.ints IntKind.i64 (n * 2) xs])]) else bif decide (off < IntKind.i64.wrap (0 - E)) then
     some (Res.ret (Value.bool true) [some (Blk.mk false 2 [Seg.ints IntKind.i64 (n * 2) xs])]) else bif decide (off > E) then some (Res.ret (Value.bool true) [some (Blk.mk false 2 [Seg.ints IntKind.i64 (n
     * 2) xs])]) else bif normB (digits T.natAbs).length (digits T.natAbs) && normB (digits off.natAbs).length (digits off.natAbs) && (digits T.natAbs).length.ble (digits T.natAbs).length && (digits
     off.natAbs).length.ble (digits off.natAbs).length && (digits T.natAbs).length.ble (OfNat.ofNat 400000) && (digits off.natAbs).length.ble (OfNat.ofNat 400000) then bif chk (n * 2 = n * 2 ∧ (↑n : Int) =
     (↑n : Int) ∧ n ≤ 60 ∧ C = C ∧ mayK rho R P Q F D true C T E = true ∧ T ≤ 3000000000000000000 ∧ C ≤ 1152921504606846976 ∧ ∃ z, decide (sgn (decide (T < 0)) (numW (digits T.natAbs).length (digits
     T.natAbs)) + sgn (decide (off < 0)) (numW (digits off.natAbs).length (digits off.natAbs)) < 0) = decide (z < 0) ∧ (digits (sgn (decide (T < 0)) (numW (digits T.natAbs).length (digits T.natAbs)) + sgn
     (decide (off < 0)) (numW (digits off.natAbs).length (digits off.natAbs))).natAbs).length = (digits z.natAbs).length ∧ (digits (sgn (decide (T < 0)) (numW (digits T.natAbs).length (digits T.natAbs)) +
     sgn (decide (off < 0)) (numW (digits off.natAbs).length (digits off.natAbs))).natAbs).length = (digits (sgn (decide (T < 0)) (numW (digits T.natAbs).length (digits T.natAbs)) + sgn (decide (off < 0))
     (numW (digits off.natAbs).length (digits off.natAbs))).natAbs).length ∧ digits (sgn (decide (T < 0)) (numW (digits T.natAbs).length (digits T.natAbs)) + sgn (decide (off < 0)) (numW (digits
     off.natAbs).length (digits off.natAbs))).natAbs = digits z.natAbs ∧ T - E ≤ z ∧ z ≤ T + E) then bif goodL rho xs then some (Res.ret (Value.bool true) [some (Blk.mk false 2 [Seg.ints IntKind.i64 (n *
     2) xs])]) else some (Res.ret (Value.bool true) [some (Blk.mk false 2 [Seg.ints IntKind.i64 (n * 2) xs])]) else none else none) := by kernel_rfl
--CFEND
--CF cf17n (rho R P Q F D C T E off : Int) (n : Nat) (xs : List Int) :: fnK Try.prog S17 L17 Try.f17 [kV rho R P Q F D false C T E, w63 off, sl 0 n 2] [rw2 n xs]
theorem cf17n (rho R P Q F D C T E off : Int) (n : Nat) (xs : List Int) : fnK Try.prog S17 L17 Try.f17 [kV rho R P Q F D false C T E, w63 off, sl 0 n 2] [rw2 n xs] =
     (bif !mayK rho R P Q F D false C T E then some (Res.ret (Value.bool true) [some (Blk.mk false 2 [Seg.ints IntKind.i64 (n * 2) xs])]) else some (Res.ret (Value.bool true) [some (Blk.mk false 2
     [Seg.ints IntKind.i64 (n * 2) xs])])) := by kernel_rfl
--CFEND
end Go.Proofs.Ytfgehfnlkakioaa.VC

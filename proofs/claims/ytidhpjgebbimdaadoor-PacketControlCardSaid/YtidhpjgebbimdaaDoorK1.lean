/- packet: put, get, lay: rounds. -/
import Derived.Test.YtidhpjgebbimdaaDoorNX
namespace Go.Proofs.YtidhpjgebbimdaaDoor.VC
open Go Go.Proofs

abbrev oU (n : Nat) (xs : List Int) : Option Blk := some ⟨true, 1, [.ints .u8 n xs]⟩
abbrev rU (n : Nat) (xs : List Int) : Option Blk := some ⟨false, 1, [.ints .u8 n xs]⟩
abbrev u64v (x : Int) : Value := .int .u64 x
abbrev u8v (x : Int) : Value := .int .u8 x
abbrev slo (id o n c : Nat) : Value := .slice (some ⟨id, o, none⟩) n c
def livePut : List Nat := [6, 0, 1, 2, 7]
--CP pPut0 (v : Int) (n s i : Nat) (xs : List Int) (on : List Value → Heap → Out) (out : Exit → List Value → Heap → Out) :: roundK Tryd.prog ((mkS []).on [(11, true)]) noL Tryd.f11.ntmps 1 (loopOf Tryd.f11 0) livePut [.slice none 0 0, sl 0 n 1, u64v v, w63 s, w63 i] [oU n xs] on out
theorem pPut0 (v : Int) (n s i : Nat) (xs : List Int) (on : List Value → Heap → Out) (out : Exit → List Value → Heap → Out)
    (w1 : -9223372036854775808 ≤ (8 : Int) * (↑i : Int) ∧ (8 : Int) * (↑i : Int) ≤ 9223372036854775807 := by omega)
    (w2 : -9223372036854775808 ≤ (↑i : Int) - (1 : Int) ∧ (↑i : Int) - (1 : Int) ≤ 9223372036854775807 := by omega)
    (h1 : ¬(8 : Int) * (↑i : Int) < (0 : Int) := by first | omega | assumption | rfl)
    (h2 : n ≤ n := by first | omega | assumption | rfl)
    (h3 : n + (1 : Nat) ≤ (140737488355328 : Nat) := by first | omega | assumption | rfl)
    (h4 : n + (1 : Nat) ≤ (4611686018427387904 : Nat) := by first | omega | assumption | rfl)
    (h5 : n = n := by first | omega | assumption | rfl) : roundK Tryd.prog ((mkS []).on [(11, true)]) noL Tryd.f11.ntmps 1 (loopOf Tryd.f11 0) livePut [.slice none 0 0, sl 0 n 1, u64v v, w63 s, w63 i] [oU n xs] on out =
     (on [Value.slice none (0 : Nat) (0 : Nat), Value.slice (some (Addr.mk (1 : Nat) (0 : Nat) none)) (n + (1 : Nat)) (1 : Nat), Value.int IntKind.u64 v, Value.int IntKind.i64 (↑s : Int), Value.int
     IntKind.i64 ((↑i : Int) - (1 : Int))] [none, some (Blk.mk true (1 : Nat) [Seg.ints IntKind.u8 (n + (1 : Nat)) (List.take n xs ++ [IntKind.u8.wrap (v.fdiv ((2 : Int) ^ min ((8 : Int) * (↑i :
     Int)).toNat (64 : Nat)))])])]) :=
  Eq.trans (b :=
     bif decide (IntKind.i64.wrap ((8 : Int) * (↑i : Int)) < (0 : Int)) then none else bif (n * (1 : Nat)).ble n then bif decide ((n + (1 : Nat)) * (1 : Nat) ≤ (140737488355328 : Nat)) && (n + (1 :
     Nat)).ble (OfNat.ofNat (4611686018427387904 : Nat)) then bif ((0 : Nat) + n * (1 : Nat)).beq n && true then on [Value.slice none (0 : Nat) (0 : Nat), Value.slice (some (Addr.mk (1 : Nat) (0 : Nat)
     none)) (n + (1 : Nat)) (1 : Nat), Value.int IntKind.u64 v, Value.int IntKind.i64 (↑s : Int), Value.int IntKind.i64 (IntKind.i64.wrap ((↑i : Int) - (1 : Int)))] [none, some (Blk.mk true (1 : Nat)
     [Seg.ints IntKind.u8 (n * (1 : Nat) + (1 : Nat)) (List.take (n * (1 : Nat)) xs ++ [IntKind.u8.wrap (v.fdiv ((2 : Int) ^ min (IntKind.i64.wrap ((8 : Int) * (↑i : Int))).toNat (64 : Nat)))])])] else
     none else none else none) (by kernel_rfl) (by (try simp only [-eq_self, Int.toNat_natCast, Nat.mul_one, Nat.zero_add, segsLen_one, swrap w1.1 w1.2, swrap w2.1 w2.2]); exact (go_f (dec_f h1) (go_t (ble_t h2) (go_t (and_t (dec_t h3) (ble_t h4)) (go_t (and_t (beq_t h5) rfl) rfl)))))
--CFEND
--CP pPutZ (v : Int) (n s i : Nat) (xs : List Int) (on : List Value → Heap → Out) (out : Exit → List Value → Heap → Out) :: roundK Tryd.prog ((mkS []).on [(11, true)]) noL Tryd.f11.ntmps 1 (loopOf Tryd.f11 0) livePut [.slice none 0 0, sl 0 n 0, u64v v, w63 s, w63 i] [oU n xs] on out
theorem pPutZ (v : Int) (n s i : Nat) (xs : List Int) (on : List Value → Heap → Out) (out : Exit → List Value → Heap → Out)
    (w1 : -9223372036854775808 ≤ (8 : Int) * (↑i : Int) ∧ (8 : Int) * (↑i : Int) ≤ 9223372036854775807 := by omega)
    (w2 : -9223372036854775808 ≤ (↑i : Int) - (1 : Int) ∧ (↑i : Int) - (1 : Int) ≤ 9223372036854775807 := by omega)
    (h1 : ¬(8 : Int) * (↑i : Int) < (0 : Int) := by first | omega | assumption | rfl)
    (h2 : n ≤ n := by first | omega | assumption | rfl)
    (h3 : n + (1 : Nat) ≤ (140737488355328 : Nat) := by first | omega | assumption | rfl)
    (h4 : n + (1 : Nat) ≤ (4611686018427387904 : Nat) := by first | omega | assumption | rfl) : roundK Tryd.prog ((mkS []).on [(11, true)]) noL Tryd.f11.ntmps 1 (loopOf Tryd.f11 0) livePut [.slice none 0 0, sl 0 n 0, u64v v, w63 s, w63 i] [oU n xs] on out =
     (on [Value.slice none (0 : Nat) (0 : Nat), Value.slice (some (Addr.mk (1 : Nat) (0 : Nat) none)) (n + (1 : Nat)) (1 : Nat), Value.int IntKind.u64 v, Value.int IntKind.i64 (↑s : Int), Value.int
     IntKind.i64 ((↑i : Int) - (1 : Int))] [some (Blk.mk true (1 : Nat) [Seg.ints IntKind.u8 n xs]), some (Blk.mk true (1 : Nat) [Seg.ints IntKind.u8 (n + (1 : Nat)) (List.take n xs ++ [IntKind.u8.wrap
     (v.fdiv ((2 : Int) ^ min ((8 : Int) * (↑i : Int)).toNat (64 : Nat)))])])]) :=
  Eq.trans (b :=
     bif decide (IntKind.i64.wrap ((8 : Int) * (↑i : Int)) < (0 : Int)) then none else bif (n * (1 : Nat)).ble n then bif decide ((n + (1 : Nat)) * (1 : Nat) ≤ (140737488355328 : Nat)) && (n + (1 :
     Nat)).ble (OfNat.ofNat (4611686018427387904 : Nat)) then bif n.beq (OfNat.ofNat (0 : Nat)) || true then on [Value.slice none (0 : Nat) (0 : Nat), Value.slice (some (Addr.mk (1 : Nat) (0 : Nat) none))
     (n + (1 : Nat)) (1 : Nat), Value.int IntKind.u64 v, Value.int IntKind.i64 (↑s : Int), Value.int IntKind.i64 (IntKind.i64.wrap ((↑i : Int) - (1 : Int)))] [some (Blk.mk true (1 : Nat) [Seg.ints
     IntKind.u8 n xs]), some (Blk.mk true (1 : Nat) [Seg.ints IntKind.u8 (n * (1 : Nat) + (1 : Nat)) (List.take (n * (1 : Nat)) xs ++ [IntKind.u8.wrap (v.fdiv ((2 : Int) ^ min (IntKind.i64.wrap ((8 : Int)
     * (↑i : Int))).toNat (64 : Nat)))])])] else none else none else none) (by kernel_rfl) (by (try simp only [-eq_self, Int.toNat_natCast, Nat.mul_one, Nat.zero_add, segsLen_one, swrap w1.1 w1.2, swrap w2.1 w2.2]); exact (go_f (dec_f h1) (go_t (ble_t h2) (go_t (and_t (dec_t h3) (ble_t h4)) (go_t (Bool.or_true _) rfl)))))
--CFEND
--CP pPut1 (v : Int) (n s i : Nat) (xs : List Int) (on : List Value → Heap → Out) (out : Exit → List Value → Heap → Out) :: roundK Tryd.prog ((mkS []).on [(11, true)]) noL Tryd.f11.ntmps 1 (loopOf Tryd.f11 0) livePut [.slice none 0 0, sl 1 n 1, u64v v, w63 s, w63 i] [none, oU n xs] on out
theorem pPut1 (v : Int) (n s i : Nat) (xs : List Int) (on : List Value → Heap → Out) (out : Exit → List Value → Heap → Out)
    (w1 : -9223372036854775808 ≤ (8 : Int) * (↑i : Int) ∧ (8 : Int) * (↑i : Int) ≤ 9223372036854775807 := by omega)
    (w2 : -9223372036854775808 ≤ (↑i : Int) - (1 : Int) ∧ (↑i : Int) - (1 : Int) ≤ 9223372036854775807 := by omega)
    (h1 : ¬(8 : Int) * (↑i : Int) < (0 : Int) := by first | omega | assumption | rfl)
    (h2 : n ≤ n := by first | omega | assumption | rfl)
    (h3 : n + (1 : Nat) ≤ (140737488355328 : Nat) := by first | omega | assumption | rfl)
    (h4 : n + (1 : Nat) ≤ (4611686018427387904 : Nat) := by first | omega | assumption | rfl)
    (h5 : n = n := by first | omega | assumption | rfl) : roundK Tryd.prog ((mkS []).on [(11, true)]) noL Tryd.f11.ntmps 1 (loopOf Tryd.f11 0) livePut [.slice none 0 0, sl 1 n 1, u64v v, w63 s, w63 i] [none, oU n xs] on out =
     (on [Value.slice none (0 : Nat) (0 : Nat), Value.slice (some (Addr.mk (1 : Nat) (0 : Nat) none)) (n + (1 : Nat)) (1 : Nat), Value.int IntKind.u64 v, Value.int IntKind.i64 (↑s : Int), Value.int
     IntKind.i64 ((↑i : Int) - (1 : Int))] [none, some (Blk.mk true (1 : Nat) [Seg.ints IntKind.u8 (n + (1 : Nat)) (List.take n xs ++ [IntKind.u8.wrap (v.fdiv ((2 : Int) ^ min ((8 : Int) * (↑i :
     Int)).toNat (64 : Nat)))])])]) :=
  Eq.trans (b :=
     bif decide (IntKind.i64.wrap ((8 : Int) * (↑i : Int)) < (0 : Int)) then none else bif (n * (1 : Nat)).ble n then bif decide ((n + (1 : Nat)) * (1 : Nat) ≤ (140737488355328 : Nat)) && (n + (1 :
     Nat)).ble (OfNat.ofNat (4611686018427387904 : Nat)) then bif ((0 : Nat) + n * (1 : Nat)).beq n && true then on [Value.slice none (0 : Nat) (0 : Nat), Value.slice (some (Addr.mk (1 : Nat) (0 : Nat)
     none)) (n + (1 : Nat)) (1 : Nat), Value.int IntKind.u64 v, Value.int IntKind.i64 (↑s : Int), Value.int IntKind.i64 (IntKind.i64.wrap ((↑i : Int) - (1 : Int)))] [none, some (Blk.mk true (1 : Nat)
     [Seg.ints IntKind.u8 (n * (1 : Nat) + (1 : Nat)) (List.take (n * (1 : Nat)) xs ++ [IntKind.u8.wrap (v.fdiv ((2 : Int) ^ min (IntKind.i64.wrap ((8 : Int) * (↑i : Int))).toNat (64 : Nat)))])])] else
     none else none else none) (by kernel_rfl) (by (try simp only [-eq_self, Int.toNat_natCast, Nat.mul_one, Nat.zero_add, segsLen_one, swrap w1.1 w1.2, swrap w2.1 w2.2]); exact (go_f (dec_f h1) (go_t (ble_t h2) (go_t (and_t (dec_t h3) (ble_t h4)) (go_t (and_t (beq_t h5) rfl) rfl)))))
--CFEND
--CP pPutX (v : Int) (n s : Nat) (xs : List Int) (on : List Value → Heap → Out) (out : Exit → List Value → Heap → Out) :: roundK Tryd.prog (mkS []) noL Tryd.f11.ntmps 1 (loopOf Tryd.f11 0) livePut [.slice none 0 0, sl 1 n 1, u64v v, w63 s, w63 (-1)] [none, oU n xs] on out
theorem pPutX (v : Int) (n s : Nat) (xs : List Int) (on : List Value → Heap → Out) (out : Exit → List Value → Heap → Out) : roundK Tryd.prog (mkS []) noL Tryd.f11.ntmps 1 (loopOf Tryd.f11 0) livePut [.slice none 0 0, sl 1 n 1, u64v v, w63 s, w63 (-1)] [none, oU n xs] on out =
     (out (Exit.exit (0 : Nat)) [Value.slice none (0 : Nat) (0 : Nat), Value.slice (some (Addr.mk (1 : Nat) (0 : Nat) none)) n (1 : Nat), Value.int IntKind.u64 v, Value.int IntKind.i64 (↑s : Int),
     Value.int IntKind.i64 (-1 : Int)] [none, some (Blk.mk true (1 : Nat) [Seg.ints IntKind.u8 n xs])]) :=
  Eq.trans (by kernel_rfl) rfl
--CFEND
def liveLay : List Nat := [0, 1, 2, 3, 8]
--CP pLay (v : Int) (n c at' many i : Nat) (xs : List Int) (on : List Value → Heap → Out) (out : Exit → List Value → Heap → Out) :: roundK Tryd.prog ((mkS []).on [(15, true)]) noL Tryd.f13.ntmps 1 (loopOf Tryd.f13 0) liveLay [sl 0 n c, w63 at', w63 many, u64v v, w63 i] [oU n xs] on out
theorem pLay (v : Int) (n c at' many i : Nat) (xs : List Int) (on : List Value → Heap → Out) (out : Exit → List Value → Heap → Out)
    (w1 : -9223372036854775808 ≤ (↑i : Int) - (1 : Int) ∧ (↑i : Int) - (1 : Int) ≤ 9223372036854775807 := by omega)
    (h1 : (↑i : Int) ≥ (↑at' : Int) := by first | omega | assumption | rfl)
    (h2 : (0 : Int) ≤ (↑i : Int) := by first | omega | assumption | rfl)
    (h3 : (↑i : Int) < (↑n : Int) := by first | omega | assumption | rfl)
    (h4 : i < n := by first | omega | assumption | rfl) : roundK Tryd.prog ((mkS []).on [(15, true)]) noL Tryd.f13.ntmps 1 (loopOf Tryd.f13 0) liveLay [sl 0 n c, w63 at', w63 many, u64v v, w63 i] [oU n xs] on out =
     (on [Value.slice (some (Addr.mk (0 : Nat) (0 : Nat) none)) n c, Value.int IntKind.i64 (↑at' : Int), Value.int IntKind.i64 (↑many : Int), Value.int IntKind.u64 (IntKind.u64.wrap (v.tdiv (256 : Int))),
     Value.int IntKind.i64 ((↑i : Int) - (1 : Int))] [some (Blk.mk true (1 : Nat) [Seg.ints IntKind.u8 n (xs.set i (IntKind.u8.wrap (v.tmod (256 : Int))))])]) :=
  Eq.trans (b :=
     bif decide ((↑i : Int) ≥ (↑at' : Int)) then bif decide ((0 : Int) ≤ (↑i : Int)) && decide ((↑i : Int) < (↑n : Int)) then bif ((0 : Nat) + (↑i : Int).toNat * (1 : Nat)).blt n then on [Value.slice (some
     (Addr.mk (0 : Nat) (0 : Nat) none)) n c, Value.int IntKind.i64 (↑at' : Int), Value.int IntKind.i64 (↑many : Int), Value.int IntKind.u64 (IntKind.u64.wrap (v.tdiv (256 : Int))), Value.int IntKind.i64
     (IntKind.i64.wrap ((↑i : Int) - (1 : Int)))] [some (Blk.mk true (1 : Nat) [Seg.ints IntKind.u8 n (xs.set ((0 : Nat) + (↑i : Int).toNat * (1 : Nat)) (IntKind.u8.wrap (v.tmod (256 : Int))))])] else none
     else none else none) (by kernel_rfl) (by (try simp only [-eq_self, Int.toNat_natCast, Nat.mul_one, Nat.zero_add, segsLen_one, swrap w1.1 w1.2]); exact (go_t (dec_t h1) (go_t (and_t (dec_t h2) (dec_t h3)) (go_t (blt_t h4) rfl))))
--CFEND
--CP pLayX (v : Int) (n c at' many : Nat) (i : Int) (xs : List Int) (on : List Value → Heap → Out) (out : Exit → List Value → Heap → Out) :: roundK Tryd.prog ((mkS []).on [(15, false)]) noL Tryd.f13.ntmps 1 (loopOf Tryd.f13 0) liveLay [sl 0 n c, w63 at', w63 many, u64v v, w63 i] [oU n xs] on out
theorem pLayX (v : Int) (n c at' many : Nat) (i : Int) (xs : List Int) (on : List Value → Heap → Out) (out : Exit → List Value → Heap → Out)
    (h1 : ¬i ≥ (↑at' : Int) := by first | omega | assumption | rfl) : roundK Tryd.prog ((mkS []).on [(15, false)]) noL Tryd.f13.ntmps 1 (loopOf Tryd.f13 0) liveLay [sl 0 n c, w63 at', w63 many, u64v v, w63 i] [oU n xs] on out =
     (out (Exit.exit (0 : Nat)) [Value.slice (some (Addr.mk (0 : Nat) (0 : Nat) none)) n c, Value.int IntKind.i64 (↑at' : Int), Value.int IntKind.i64 (↑many : Int), Value.int IntKind.u64 v, Value.int
     IntKind.i64 i] [some (Blk.mk true (1 : Nat) [Seg.ints IntKind.u8 n xs])]) :=
  Eq.trans (by kernel_rfl) (go_f (dec_f h1) rfl)
--CFEND
def liveGet : List Nat := [2, 5, 6, 7]
--CP pGet (v : Int) (o n c i N : Nat) (xs : List Int) (on : List Value → Heap → Out) (out : Exit → List Value → Heap → Out) :: roundK Tryd.prog ((mkS []).on [(8, true)]) noL Tryd.f14.ntmps 1 (loopOf Tryd.f14 0) liveGet [u64v v, slo 0 o n c, w63 n, w63 i] [rU N xs] on out
theorem pGet (v : Int) (o n c i N : Nat) (xs : List Int) (on : List Value → Heap → Out) (out : Exit → List Value → Heap → Out)
    (w1 : -9223372036854775808 ≤ (↑i : Int) + (1 : Int) ∧ (↑i : Int) + (1 : Int) ≤ 9223372036854775807 := by omega)
    (h1 : (↑i : Int) < (↑n : Int) := by first | omega | assumption | rfl)
    (h2 : (0 : Int) ≤ (↑i : Int) := by first | omega | assumption | rfl)
    (h3 : o + i < N := by first | omega | assumption | rfl) : roundK Tryd.prog ((mkS []).on [(8, true)]) noL Tryd.f14.ntmps 1 (loopOf Tryd.f14 0) liveGet [u64v v, slo 0 o n c, w63 n, w63 i] [rU N xs] on out =
     (on [Value.int IntKind.u64 (bits BinOp.or IntKind.u64 (IntKind.u64.wrap (v * (256 : Int))) (IntKind.u64.wrap (xs.getD (o + i) (0 : Int)))), Value.slice (some (Addr.mk (0 : Nat) o none)) n c, Value.int
     IntKind.i64 (↑n : Int), Value.int IntKind.i64 ((↑i : Int) + (1 : Int))] [some (Blk.mk false (1 : Nat) [Seg.ints IntKind.u8 N xs])]) :=
  Eq.trans (b :=
     bif decide ((↑i : Int) < (↑n : Int)) then bif decide ((0 : Int) ≤ (↑i : Int)) && decide ((↑i : Int) < (↑n : Int)) then bif (o + (↑i : Int).toNat * (1 : Nat)).blt N then on [Value.int IntKind.u64 (bits
     BinOp.or IntKind.u64 (IntKind.u64.wrap (v * (256 : Int))) (IntKind.u64.wrap (xs.getD (o + (↑i : Int).toNat * (1 : Nat)) (0 : Int)))), Value.slice (some (Addr.mk (0 : Nat) o none)) n c, Value.int
     IntKind.i64 (↑n : Int), Value.int IntKind.i64 (IntKind.i64.wrap ((↑i : Int) + (1 : Int)))] [some (Blk.mk false (1 : Nat) [Seg.ints IntKind.u8 N xs])] else none else none else none) (by kernel_rfl) (by (try simp only [-eq_self, Int.toNat_natCast, Nat.mul_one, Nat.zero_add, segsLen_one, swrap w1.1 w1.2]); exact (go_t (dec_t h1) (go_t (and_t (dec_t h2) (dec_t h1)) (go_t (blt_t h3) rfl))))
--CFEND
--CP pGetX (v : Int) (o n c N : Nat) (xs : List Int) (on : List Value → Heap → Out) (out : Exit → List Value → Heap → Out) :: roundK Tryd.prog ((mkS []).on [(8, false)]) noL Tryd.f14.ntmps 1 (loopOf Tryd.f14 0) liveGet [u64v v, slo 0 o n c, w63 n, w63 n] [rU N xs] on out
theorem pGetX (v : Int) (o n c N : Nat) (xs : List Int) (on : List Value → Heap → Out) (out : Exit → List Value → Heap → Out)
    (h1 : ¬(↑n : Int) < (↑n : Int) := by first | omega | assumption | rfl) : roundK Tryd.prog ((mkS []).on [(8, false)]) noL Tryd.f14.ntmps 1 (loopOf Tryd.f14 0) liveGet [u64v v, slo 0 o n c, w63 n, w63 n] [rU N xs] on out =
     (out (Exit.exit (0 : Nat)) [Value.int IntKind.u64 v, Value.slice (some (Addr.mk (0 : Nat) o none)) n c, Value.int IntKind.i64 (↑n : Int), Value.int IntKind.i64 (↑n : Int)] [some (Blk.mk false (1 :
     Nat) [Seg.ints IntKind.u8 N xs])]) :=
  Eq.trans (by kernel_rfl) (go_f (dec_f h1) rfl)
--CFEND
end Go.Proofs.YtidhpjgebbimdaaDoor.VC

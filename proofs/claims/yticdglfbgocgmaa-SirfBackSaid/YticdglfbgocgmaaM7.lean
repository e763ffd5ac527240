/- sirf, the document's: turned, Layout, Decode: closed forms. -/
import Derived.Test.YticdglfbgocgmaaM6
namespace Go.Proofs.Yticdglfbgocgmaa.VC
open Go Go.Proofs

def liveTrn : List Nat := [0, 1, 2, 6, 7, 8]
--CP pTrn (a m : Int) (o n c i q N : Nat) (xs ys : List Int) (on : List Value → Heap → Out) (out : Exit → List Value → Heap → Out) :: roundK Try.prog ((mkS []).on [(16, true)]) noL Try.f67.ntmps 1 (loopOf Try.f67 0) liveTrn [slo 0 o n c, w63 a, w63 m, .slice none 0 0, sl 1 q 1, w63 i] [rU N xs, oU q ys] on out
theorem pTrn (a m : Int) (o n c i q N : Nat) (xs ys : List Int) (on : List Value → Heap → Out) (out : Exit → List Value → Heap → Out)
    (w1 : -9223372036854775808 ≤ a + (↑i : Int) ∧ a + (↑i : Int) ≤ 9223372036854775807 := by omega)
    (w2 : -9223372036854775808 ≤ (↑i : Int) - (1 : Int) ∧ (↑i : Int) - (1 : Int) ≤ 9223372036854775807 := by omega)
    (h1 : (0 : Int) ≤ a + (↑i : Int) := by first | omega | assumption | rfl)
    (h2 : a + (↑i : Int) < (↑n : Int) := by first | omega | assumption | rfl)
    (h3 : o + (a + (↑i : Int)).toNat < N := by first | omega | assumption | rfl)
    (h4 : q ≤ q := by first | omega | assumption | rfl)
    (h5 : q + (1 : Nat) ≤ (140737488355328 : Nat) := by first | omega | assumption | rfl)
    (h6 : q + (1 : Nat) ≤ (4611686018427387904 : Nat) := by first | omega | assumption | rfl)
    (h7 : q = q := by first | omega | assumption | rfl) : roundK Try.prog ((mkS []).on [(16, true)]) noL Try.f67.ntmps 1 (loopOf Try.f67 0) liveTrn [slo 0 o n c, w63 a, w63 m, .slice none 0 0, sl 1 q 1, w63 i] [rU N xs, oU q ys] on out =
     (on [Value.slice (some (Addr.mk (0 : Nat) o none)) n c, Value.int IntKind.i64 a, Value.int IntKind.i64 m, Value.slice none (0 : Nat) (0 : Nat), Value.slice (some (Addr.mk (1 : Nat) (0 : Nat) none)) (q
     + (1 : Nat)) (1 : Nat), Value.int IntKind.i64 ((↑i : Int) - (1 : Int))] [some (Blk.mk false (1 : Nat) [Seg.ints IntKind.u8 N xs]), some (Blk.mk true (1 : Nat) [Seg.ints IntKind.u8 (q + (1 : Nat))
     (List.take q ys ++ [xs.getD (o + (a + (↑i : Int)).toNat) (0 : Int)])])]) :=
  Eq.trans (b :=
     bif decide ((0 : Int) ≤ IntKind.i64.wrap (a + (↑i : Int))) && decide (IntKind.i64.wrap (a + (↑i : Int)) < (↑n : Int)) then bif (o + (IntKind.i64.wrap (a + (↑i : Int))).toNat * (1 : Nat)).blt N then
     bif (q * (1 : Nat)).ble q then bif decide ((q + (1 : Nat)) * (1 : Nat) ≤ (140737488355328 : Nat)) && (q + (1 : Nat)).ble (OfNat.ofNat (4611686018427387904 : Nat)) then bif ((0 : Nat) + q * (1 :
     Nat)).beq q && true then on [Value.slice (some (Addr.mk (0 : Nat) o none)) n c, Value.int IntKind.i64 a, Value.int IntKind.i64 m, Value.slice none (0 : Nat) (0 : Nat), Value.slice (some (Addr.mk (1 :
     Nat) (0 : Nat) none)) (q + (1 : Nat)) (1 : Nat), Value.int IntKind.i64 (IntKind.i64.wrap ((↑i : Int) - (1 : Int)))] [some (Blk.mk false (1 : Nat) [Seg.ints IntKind.u8 N xs]), some (Blk.mk true (1 :
     Nat) [Seg.ints IntKind.u8 (q * (1 : Nat) + (1 : Nat)) (List.take (q * (1 : Nat)) ys ++ [xs.getD (o + (IntKind.i64.wrap (a + (↑i : Int))).toNat * (1 : Nat)) (0 : Int)])])] else none else none else none
     else none else none) (by kernel_rfl) (by simp only [-eq_self, Nat.mul_one, Nat.zero_add, swrap w1.1 w1.2, swrap w2.1 w2.2]; exact (go_t (and_t (dec_t h1) (dec_t h2)) (go_t (blt_t h3) (go_t (ble_t h4) (go_t (and_t (dec_t h5) (ble_t h6)) (go_t (and_t (beq_t h7) rfl) rfl))))))
--CFEND
--CP pTrn0 (a m : Int) (o n c i N : Nat) (xs : List Int) (on : List Value → Heap → Out) (out : Exit → List Value → Heap → Out) :: roundK Try.prog ((mkS []).on [(16, true)]) noL Try.f67.ntmps 1 (loopOf Try.f67 0) liveTrn [slo 0 o n c, w63 a, w63 m, .slice none 0 0, .slice none 0 0, w63 i] [rU N xs] on out
theorem pTrn0 (a m : Int) (o n c i N : Nat) (xs : List Int) (on : List Value → Heap → Out) (out : Exit → List Value → Heap → Out)
    (w1 : -9223372036854775808 ≤ a + (↑i : Int) ∧ a + (↑i : Int) ≤ 9223372036854775807 := by omega)
    (w2 : -9223372036854775808 ≤ (↑i : Int) - (1 : Int) ∧ (↑i : Int) - (1 : Int) ≤ 9223372036854775807 := by omega)
    (h1 : (0 : Int) ≤ a + (↑i : Int) := by first | omega | assumption | rfl)
    (h2 : a + (↑i : Int) < (↑n : Int) := by first | omega | assumption | rfl)
    (h3 : o + (a + (↑i : Int)).toNat < N := by first | omega | assumption | rfl) : roundK Try.prog ((mkS []).on [(16, true)]) noL Try.f67.ntmps 1 (loopOf Try.f67 0) liveTrn [slo 0 o n c, w63 a, w63 m, .slice none 0 0, .slice none 0 0, w63 i] [rU N xs] on out =
     (on [Value.slice (some (Addr.mk (0 : Nat) o none)) n c, Value.int IntKind.i64 a, Value.int IntKind.i64 m, Value.slice none (0 : Nat) (0 : Nat), Value.slice (some (Addr.mk (1 : Nat) (0 : Nat) none)) (1
     : Nat) (1 : Nat), Value.int IntKind.i64 ((↑i : Int) - (1 : Int))] [some (Blk.mk false (1 : Nat) [Seg.ints IntKind.u8 N xs]), some (Blk.mk true (1 : Nat) [Seg.ints IntKind.u8 (1 : Nat) [xs.getD (o + (a
     + (↑i : Int)).toNat) (0 : Int)]])]) :=
  Eq.trans (b :=
     bif decide ((0 : Int) ≤ IntKind.i64.wrap (a + (↑i : Int))) && decide (IntKind.i64.wrap (a + (↑i : Int)) < (↑n : Int)) then bif (o + (IntKind.i64.wrap (a + (↑i : Int))).toNat * (1 : Nat)).blt N then on
     [Value.slice (some (Addr.mk (0 : Nat) o none)) n c, Value.int IntKind.i64 a, Value.int IntKind.i64 m, Value.slice none (0 : Nat) (0 : Nat), Value.slice (some (Addr.mk (1 : Nat) (0 : Nat) none)) (1 :
     Nat) (1 : Nat), Value.int IntKind.i64 (IntKind.i64.wrap ((↑i : Int) - (1 : Int)))] [some (Blk.mk false (1 : Nat) [Seg.ints IntKind.u8 N xs]), some (Blk.mk true (1 : Nat) [Seg.ints IntKind.u8 (1 : Nat)
     [xs.getD (o + (IntKind.i64.wrap (a + (↑i : Int))).toNat * (1 : Nat)) (0 : Int)]])] else none else none) (by kernel_rfl) (by simp only [-eq_self, Nat.mul_one, swrap w1.1 w1.2, swrap w2.1 w2.2]; exact (go_t (and_t (dec_t h1) (dec_t h2)) (go_t (blt_t h3) rfl)))
--CFEND
--CP pTrnX (a m : Int) (o n c q N : Nat) (xs ys : List Int) (on : List Value → Heap → Out) (out : Exit → List Value → Heap → Out) :: roundK Try.prog ((mkS []).on [(16, false)]) noL Try.f67.ntmps 1 (loopOf Try.f67 0) liveTrn [slo 0 o n c, w63 a, w63 m, .slice none 0 0, sl 1 q 1, w63 (-1)] [rU N xs, oU q ys] on out
theorem pTrnX (a m : Int) (o n c q N : Nat) (xs ys : List Int) (on : List Value → Heap → Out) (out : Exit → List Value → Heap → Out) : roundK Try.prog ((mkS []).on [(16, false)]) noL Try.f67.ntmps 1 (loopOf Try.f67 0) liveTrn [slo 0 o n c, w63 a, w63 m, .slice none 0 0, sl 1 q 1, w63 (-1)] [rU N xs, oU q ys] on out =
     (out (Exit.exit (0 : Nat)) [Value.slice (some (Addr.mk (0 : Nat) o none)) n c, Value.int IntKind.i64 a, Value.int IntKind.i64 m, Value.slice none (0 : Nat) (0 : Nat), Value.slice (some (Addr.mk (1 :
     Nat) (0 : Nat) none)) q (1 : Nat), Value.int IntKind.i64 (-1 : Int)] [some (Blk.mk false (1 : Nat) [Seg.ints IntKind.u8 N xs]), some (Blk.mk true (1 : Nat) [Seg.ints IntKind.u8 q ys])]) :=
  Eq.trans (by kernel_rfl) rfl
--CFEND
noncomputable def LTrnf : LF := fun vs h k => match vs, h with
  | [.slice (some ⟨0, o, none⟩) n c, .int .i64 a, .int .i64 m, .slice none 0 0, .slice none 0 0, .int .i64 i], [some ⟨false, 1, [.ints .u8 N xs]⟩] =>
    bif chk (0 ≤ a ∧ 1 ≤ m ∧ m ≤ 4 ∧ a + m ≤ n ∧ o + n ≤ N ∧ N ≤ 1000000 ∧ i = m - 1) then k (.exit 0) [slo 0 o n c, w63 a, w63 m, .slice none 0 0, sl 1 m.toNat 1, w63 (-1)] [rU N xs, oU m.toNat (fldB xs o a m).reverse] else none
  | _, _ => none
noncomputable def LTrn : LSpec := oneL 5 liveTrn LTrnf
--CF cfTrnN (a s : Int) (o n c N : Nat) (xs : List Int) :: fnK Try.prog ((mkS []).on [(10, true)]) LTrn Try.f67 [slo 0 o n c, w63 a, w63 s] [rU N xs]
theorem cfTrnN (a s : Int) (o n c N : Nat) (xs : List Int) : fnK Try.prog ((mkS []).on [(10, true)]) LTrn Try.f67 [slo 0 o n c, w63 a, w63 s] [rU N xs] =
     (bif decide (s < 0) then bif chk (0 ≤ a ∧ 1 ≤ IntKind.i64.wrap (0 - s) ∧ IntKind.i64.wrap (0 - s) ≤ 4 ∧ a + IntKind.i64.wrap (0 - s) ≤ (↑n : Int) ∧ o + n ≤ N ∧ N ≤ 1000000 ∧ IntKind.i64.wrap
     (IntKind.i64.wrap (0 - s) - 1) = IntKind.i64.wrap (0 - s) - 1) then some (Res.ret (Value.slice (some (Addr.mk 1 0 none)) (IntKind.i64.wrap (0 - s)).toNat 1) [some (Blk.mk false 1 [Seg.ints IntKind.u8
     N xs]), some (Blk.mk true 1 [Seg.ints IntKind.u8 (IntKind.i64.wrap (0 - s)).toNat (fldB xs o a (IntKind.i64.wrap (0 - s))).reverse])]) else none else none) := by kernel_rfl
--CFEND
--CF cfTrnP (a s : Int) (o n c N : Nat) (xs : List Int) :: fnK Try.prog ((mkS []).on [(10, false)]) LTrn Try.f67 [slo 0 o n c, w63 a, w63 s] [rU N xs]
theorem cfTrnP (a s : Int) (o n c N : Nat) (xs : List Int) : fnK Try.prog ((mkS []).on [(10, false)]) LTrn Try.f67 [slo 0 o n c, w63 a, w63 s] [rU N xs] =
     (bif decide (s < 0) then none else bif chk (0 ≤ a ∧ 1 ≤ s ∧ s ≤ 4 ∧ a + s ≤ (↑n : Int) ∧ o + n ≤ N ∧ N ≤ 1000000 ∧ IntKind.i64.wrap (s - 1) = s - 1) then some (Res.ret (Value.slice (some (Addr.mk 1 0
     none)) s.toNat 1) [some (Blk.mk false 1 [Seg.ints IntKind.u8 N xs]), some (Blk.mk true 1 [Seg.ints IntKind.u8 s.toNat (fldB xs o a s).reverse])]) else none) := by kernel_rfl
--CFEND
--CF cfLayR (x : Int) :: fnK Try.prog (mkS []) noL Try.f31 [u8v x] []
theorem cfLayR (x : Int) : fnK Try.prog (mkS []) noL Try.f31 [u8v x] [] =
     (bif x == 2 then some (Res.ret (Value.tuple (Array.mk [Value.int IntKind.i64 41, Value.slice (some (Addr.mk 0 0 none)) 24 0])) [some (Blk.mk true 1 [Seg.ints IntKind.i64 24 [1, -4, 5, -4, 9, -4, 13,
     -2, 15, -2, 17, -2, 19, 1, 20, 1, 21, 1, 22, 2, 24, 4, 28, 1]])]) else bif x == 4 then some (Res.ret (Value.tuple (Array.mk [Value.int IntKind.i64 188, Value.slice (some (Addr.mk 0 0 none)) 6 0]))
     [some (Blk.mk true 1 [Seg.ints IntKind.i64 6 [1, -2, 3, 4, 7, 1]])]) else bif x == 7 then some (Res.ret (Value.tuple (Array.mk [Value.int IntKind.i64 20, Value.slice (some (Addr.mk 0 0 none)) 12 0]))
     [some (Blk.mk true 1 [Seg.ints IntKind.i64 12 [1, 2, 3, 4, 7, 1, 8, 4, 12, 4, 16, 4]])]) else bif x == 41 then some (Res.ret (Value.tuple (Array.mk [Value.int IntKind.i64 91, Value.slice (some
     (Addr.mk 0 0 none)) 20 0])) [some (Blk.mk true 1 [Seg.ints IntKind.i64 20 [1, 2, 3, 2, 5, 2, 7, 4, 11, 2, 13, 1, 14, 1, 15, 1, 16, 1, 17, 2]])]) else bif x == 52 then some (Res.ret (Value.tuple
     (Array.mk [Value.int IntKind.i64 19, Value.slice (some (Addr.mk 0 0 none)) 18 0])) [some (Blk.mk true 1 [Seg.ints IntKind.i64 18 [1, 1, 2, 1, 3, 1, 4, 1, 5, 1, 6, 2, 8, -2, 10, 4, 14, 1]])]) else bif
     x == 11 then some (Res.ret (Value.tuple (Array.mk [Value.int IntKind.i64 2, Value.slice (some (Addr.mk 0 0 none)) 2 0])) [some (Blk.mk true 1 [Seg.ints IntKind.i64 2 [1, 1]])]) else bif x == 12 then
     some (Res.ret (Value.tuple (Array.mk [Value.int IntKind.i64 2, Value.slice (some (Addr.mk 0 0 none)) 2 0])) [some (Blk.mk true 1 [Seg.ints IntKind.i64 2 [1, 1]])]) else bif x == 166 then some (Res.ret
     (Value.tuple (Array.mk [Value.int IntKind.i64 8, Value.slice (some (Addr.mk 0 0 none)) 6 0])) [some (Blk.mk true 1 [Seg.ints IntKind.i64 6 [1, 1, 2, 1, 3, 1]])]) else some (Res.ret (Value.tuple
     (Array.mk [Value.int IntKind.i64 0, Value.slice none 0 0])) [])) := by kernel_rfl
--CFEND
end Go.Proofs.Yticdglfbgocgmaa.VC

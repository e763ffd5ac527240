/- SHA-256: the sum. -/
import Derived.Test.YtcjjngdkkihgjaaSH6
namespace Go.Proofs.Ytcjjngdkkihgjaa.VC
open Go Go.Proofs

abbrev rB32 (R : List Int) : Option Blk := some ⟨true, 32, [.ints .u8 32 R]⟩
def liveA : List Nat := [2, 0, 3]
abbrev stA (n c k : Nat) : List Value := [pt 1, slV 0 0 n c, sl 2 k 1]
--CP pA (n c k : Nat) (B R A : List Int) (on : List Value → Heap → Out) (out : Exit → List Value → Heap → Out) :: roundK Try.prog ((mkS []).on [(21, true)]) noL Try.f34.ntmps 1 (loopOf Try.f34 0) liveA (stA n c k) [rU n B, rB32 R, oU k A] on out
theorem pA (n c k : Nat) (B R A : List Int) (on : List Value → Heap → Out) (out : Exit → List Value → Heap → Out)
    (h1 : (↑k : Int).tmod (64 : Int) ≠ (56 : Int) := by first | omega | assumption | rfl)
    (h2 : k ≤ k := by first | omega | assumption | rfl)
    (h3 : k + (1 : Nat) ≤ (140737488355328 : Nat) := by first | omega | assumption | rfl)
    (h4 : k + (1 : Nat) ≤ (4611686018427387904 : Nat) := by first | omega | assumption | rfl)
    (h5 : k = k := by first | omega | assumption | rfl) : roundK Try.prog ((mkS []).on [(21, true)]) noL Try.f34.ntmps 1 (loopOf Try.f34 0) liveA (stA n c k) [rU n B, rB32 R, oU k A] on out =
     (on [Value.pointer (some (Addr.mk (1 : Nat) (0 : Nat) none)), Value.slice (some (Addr.mk (0 : Nat) (0 : Nat) none)) n c, Value.slice (some (Addr.mk (2 : Nat) (0 : Nat) none)) (k + (1 : Nat)) (1 :
     Nat)] [some (Blk.mk false (1 : Nat) [Seg.ints IntKind.u8 n B]), some (Blk.mk true (32 : Nat) [Seg.ints IntKind.u8 (32 : Nat) R]), some (Blk.mk true (1 : Nat) [Seg.ints IntKind.u8 (k + (1 : Nat))
     (List.take k A ++ [(0 : Int)])])]) :=
  Eq.trans (b :=
     bif (↑k : Int).tmod (64 : Int) != (56 : Int) then bif (k * (1 : Nat)).ble k then bif decide ((k + (1 : Nat)) * (1 : Nat) ≤ (140737488355328 : Nat)) && (k + (1 : Nat)).ble (OfNat.ofNat
     (4611686018427387904 : Nat)) then bif ((0 : Nat) + k * (1 : Nat)).beq k && true then on [Value.pointer (some (Addr.mk (1 : Nat) (0 : Nat) none)), Value.slice (some (Addr.mk (0 : Nat) (0 : Nat) none))
     n c, Value.slice (some (Addr.mk (2 : Nat) (0 : Nat) none)) (k + (1 : Nat)) (1 : Nat)] [some (Blk.mk false (1 : Nat) [Seg.ints IntKind.u8 n B]), some (Blk.mk true (32 : Nat) [Seg.ints IntKind.u8 (32 :
     Nat) R]), some (Blk.mk true (1 : Nat) [Seg.ints IntKind.u8 (k * (1 : Nat) + (1 : Nat)) (List.take (k * (1 : Nat)) A ++ [(0 : Int)])])] else none else none else none else none) (by kernel_rfl) (by simp only [-eq_self, Nat.mul_one, Nat.zero_add]; exact (go_t (bne_t h1) (go_t (ble_t h2) (go_t (and_t (dec_t h3) (ble_t h4)) (go_t (and_t (beq_t h5) rfl) rfl)))))
--CFEND
--CP pAx (n c k : Nat) (B R A : List Int) (on : List Value → Heap → Out) (out : Exit → List Value → Heap → Out) :: roundK Try.prog ((mkS []).on [(21, false)]) noL Try.f34.ntmps 1 (loopOf Try.f34 0) liveA (stA n c k) [rU n B, rB32 R, oU k A] on out
theorem pAx (n c k : Nat) (B R A : List Int) (on : List Value → Heap → Out) (out : Exit → List Value → Heap → Out)
    (h1 : (↑k : Int).tmod (64 : Int) = (56 : Int) := by first | omega | assumption | rfl) : roundK Try.prog ((mkS []).on [(21, false)]) noL Try.f34.ntmps 1 (loopOf Try.f34 0) liveA (stA n c k) [rU n B, rB32 R, oU k A] on out =
     (out (Exit.exit (0 : Nat)) [Value.pointer (some (Addr.mk (1 : Nat) (0 : Nat) none)), Value.slice (some (Addr.mk (0 : Nat) (0 : Nat) none)) n c, Value.slice (some (Addr.mk (2 : Nat) (0 : Nat) none)) k
     (1 : Nat)] [some (Blk.mk false (1 : Nat) [Seg.ints IntKind.u8 n B]), some (Blk.mk true (32 : Nat) [Seg.ints IntKind.u8 (32 : Nat) R]), some (Blk.mk true (1 : Nat) [Seg.ints IntKind.u8 k A])]) :=
  Eq.trans (by kernel_rfl) (go_f (bne_f h1) rfl)
--CFEND
def liveBy : List Nat := [29, 2, 3, 4]
--CP pB (n k i : Nat) (v : Int) (B R A : List Int) (on : List Value → Heap → Out) (out : Exit → List Value → Heap → Out) :: roundK Try.prog ((mkS []).on [(30, true)]) noL Try.f34.ntmps 1 (loopOf Try.f34 1) liveBy [w63 i, pt 1, sl 2 k 1, .int .u64 v] [rU n B, rB32 R, oU k A] on out
theorem pB (n k i : Nat) (v : Int) (B R A : List Int) (on : List Value → Heap → Out) (out : Exit → List Value → Heap → Out)
    (w1 : -9223372036854775808 ≤ (8 : Int) * (↑i : Int) ∧ (8 : Int) * (↑i : Int) ≤ 9223372036854775807 := by omega)
    (w2 : -9223372036854775808 ≤ (56 : Int) - (8 : Int) * (↑i : Int) ∧ (56 : Int) - (8 : Int) * (↑i : Int) ≤ 9223372036854775807 := by omega)
    (w3 : -9223372036854775808 ≤ (↑i : Int) + (1 : Int) ∧ (↑i : Int) + (1 : Int) ≤ 9223372036854775807 := by omega)
    (h1 : (↑i : Int) < (8 : Int) := by first | omega | assumption | rfl)
    (h2 : ¬(56 : Int) - (8 : Int) * (↑i : Int) < (0 : Int) := by first | omega | assumption | rfl)
    (h3 : k ≤ k := by first | omega | assumption | rfl)
    (h4 : k + (1 : Nat) ≤ (140737488355328 : Nat) := by first | omega | assumption | rfl)
    (h5 : k + (1 : Nat) ≤ (4611686018427387904 : Nat) := by first | omega | assumption | rfl)
    (h6 : k = k := by first | omega | assumption | rfl) : roundK Try.prog ((mkS []).on [(30, true)]) noL Try.f34.ntmps 1 (loopOf Try.f34 1) liveBy [w63 i, pt 1, sl 2 k 1, .int .u64 v] [rU n B, rB32 R, oU k A] on out =
     (on [Value.int IntKind.i64 ((↑i : Int) + (1 : Int)), Value.pointer (some (Addr.mk (1 : Nat) (0 : Nat) none)), Value.slice (some (Addr.mk (2 : Nat) (0 : Nat) none)) (k + (1 : Nat)) (1 : Nat), Value.int
     IntKind.u64 v] [some (Blk.mk false (1 : Nat) [Seg.ints IntKind.u8 n B]), some (Blk.mk true (32 : Nat) [Seg.ints IntKind.u8 (32 : Nat) R]), some (Blk.mk true (1 : Nat) [Seg.ints IntKind.u8 (k + (1 :
     Nat)) (List.take k A ++ [IntKind.u8.wrap (v.fdiv ((2 : Int) ^ min ((56 : Int) - (8 : Int) * (↑i : Int)).toNat (64 : Nat)))])])]) :=
  Eq.trans (b :=
     bif decide ((↑i : Int) < (8 : Int)) then bif decide (IntKind.i64.wrap ((56 : Int) - IntKind.i64.wrap ((8 : Int) * (↑i : Int))) < (0 : Int)) then none else bif (k * (1 : Nat)).ble k then bif decide ((k
     + (1 : Nat)) * (1 : Nat) ≤ (140737488355328 : Nat)) && (k + (1 : Nat)).ble (OfNat.ofNat (4611686018427387904 : Nat)) then bif ((0 : Nat) + k * (1 : Nat)).beq k && true then on [Value.int IntKind.i64
     (IntKind.i64.wrap ((↑i : Int) + (1 : Int))), Value.pointer (some (Addr.mk (1 : Nat) (0 : Nat) none)), Value.slice (some (Addr.mk (2 : Nat) (0 : Nat) none)) (k + (1 : Nat)) (1 : Nat), Value.int
     IntKind.u64 v] [some (Blk.mk false (1 : Nat) [Seg.ints IntKind.u8 n B]), some (Blk.mk true (32 : Nat) [Seg.ints IntKind.u8 (32 : Nat) R]), some (Blk.mk true (1 : Nat) [Seg.ints IntKind.u8 (k * (1 :
     Nat) + (1 : Nat)) (List.take (k * (1 : Nat)) A ++ [IntKind.u8.wrap (v.fdiv ((2 : Int) ^ min (IntKind.i64.wrap ((56 : Int) - IntKind.i64.wrap ((8 : Int) * (↑i : Int)))).toNat (64 : Nat)))])])] else
     none else none else none else none) (by kernel_rfl) (by simp only [-eq_self, Nat.mul_one, Nat.zero_add, swrap w1.1 w1.2, swrap w2.1 w2.2, swrap w3.1 w3.2]; exact (go_t (dec_t h1) (go_f (dec_f h2) (go_t (ble_t h3) (go_t (and_t (dec_t h4) (ble_t h5)) (go_t (and_t (beq_t h6) rfl) rfl))))))
--CFEND
--CP pBx (n k : Nat) (v : Int) (B R A : List Int) (on : List Value → Heap → Out) (out : Exit → List Value → Heap → Out) :: roundK Try.prog ((mkS []).on [(30, false)]) noL Try.f34.ntmps 1 (loopOf Try.f34 1) liveBy [w63 8, pt 1, sl 2 k 1, .int .u64 v] [rU n B, rB32 R, oU k A] on out
theorem pBx (n k : Nat) (v : Int) (B R A : List Int) (on : List Value → Heap → Out) (out : Exit → List Value → Heap → Out) : roundK Try.prog ((mkS []).on [(30, false)]) noL Try.f34.ntmps 1 (loopOf Try.f34 1) liveBy [w63 8, pt 1, sl 2 k 1, .int .u64 v] [rU n B, rB32 R, oU k A] on out =
     (out (Exit.exit (2 : Nat)) [Value.int IntKind.i64 (8 : Int), Value.pointer (some (Addr.mk (1 : Nat) (0 : Nat) none)), Value.slice (some (Addr.mk (2 : Nat) (0 : Nat) none)) k (1 : Nat), Value.int
     IntKind.u64 v] [some (Blk.mk false (1 : Nat) [Seg.ints IntKind.u8 n B]), some (Blk.mk true (32 : Nat) [Seg.ints IntKind.u8 (32 : Nat) R]), some (Blk.mk true (1 : Nat) [Seg.ints IntKind.u8 k A])]) :=
  Eq.trans (by kernel_rfl) rfl
--CFEND
noncomputable def STu : Spec := mkS [(72, false, FTurn)]
theorem STu_ok : SpecOK Try.prog STu := mkS_cons okTurn (mkS_nil _)
def liveCc : List Nat := [7, 2, 3, 6]
--CP pC (n k i : Nat) (B R A : List Int) (a b c d e f g h : Int) (on : List Value → Heap → Out) (out : Exit → List Value → Heap → Out) :: roundK Try.prog (STu.on [(46, true)]) noL Try.f34.ntmps 1 (loopOf Try.f34 2) liveCc [w63 i, pt 1, sl 2 k 1, pt 3] [rU n B, rB32 R, oU k A, oW 8 [a, b, c, d, e, f, g, h]] on out
theorem pC (n k i : Nat) (B R A : List Int) (a b c d e f g h : Int) (on : List Value → Heap → Out) (out : Exit → List Value → Heap → Out)
    (w1 : -9223372036854775808 ≤ (↑i : Int) + (64 : Int) ∧ (↑i : Int) + (64 : Int) ≤ 9223372036854775807 := by omega)
    (h1 : (↑i : Int) < (↑k : Int) := by first | omega | assumption | rfl)
    (h2 : (0 : Int) ≤ (↑i : Int) := by first | omega | assumption | rfl)
    (h3 : (↑i : Int) ≤ (↑i : Int) + (64 : Int) := by first | omega | assumption | rfl)
    (h4 : (↑i : Int) + (64 : Int) ≤ (↑k : Int) := by first | omega | assumption | rfl)
    (h5 : ((↑i : Int) + (64 : Int) - (↑i : Int)).toNat = (64 : Nat) ∧ i + (64 : Nat) ≤ k := by first | omega | assumption | rfl | ((repeat' with_reducible apply And.intro) <;> first | rfl | assumption | omega)) : roundK Try.prog (STu.on [(46, true)]) noL Try.f34.ntmps 1 (loopOf Try.f34 2) liveCc [w63 i, pt 1, sl 2 k 1, pt 3] [rU n B, rB32 R, oU k A, oW 8 [a, b, c, d, e, f, g, h]] on out =
     (on [Value.int IntKind.i64 ((↑i : Int) + (64 : Int)), Value.pointer (some (Addr.mk (1 : Nat) (0 : Nat) none)), Value.slice (some (Addr.mk (2 : Nat) (0 : Nat) none)) k (1 : Nat), Value.pointer (some
     (Addr.mk (3 : Nat) (0 : Nat) none))] [some (Blk.mk false (1 : Nat) [Seg.ints IntKind.u8 n B]), some (Blk.mk true (32 : Nat) [Seg.ints IntKind.u8 (32 : Nat) R]), some (Blk.mk true (1 : Nat) [Seg.ints
     IntKind.u8 k A]), some (Blk.mk true (8 : Nat) [Seg.ints IntKind.u32 (8 : Nat) [(turnO A i [a, b, c, d, e, f, g, h]).getD (0 : Nat) (0 : Int), (turnO A i [a, b, c, d, e, f, g, h]).getD (1 : Nat) (0 :
     Int), (turnO A i [a, b, c, d, e, f, g, h]).getD (2 : Nat) (0 : Int), (turnO A i [a, b, c, d, e, f, g, h]).getD (3 : Nat) (0 : Int), (turnO A i [a, b, c, d, e, f, g, h]).getD (4 : Nat) (0 : Int),
     (turnO A i [a, b, c, d, e, f, g, h]).getD (5 : Nat) (0 : Int), (turnO A i [a, b, c, d, e, f, g, h]).getD (6 : Nat) (0 : Int), (turnO A i [a, b, c, d, e, f, g, h]).getD (7 : Nat) (0 : Int)]])]) :=
  Eq.trans (b :=
     bif decide ((↑i : Int) < (↑k : Int)) then bif decide ((0 : Int) ≤ (↑i : Int)) && decide ((↑i : Int) ≤ IntKind.i64.wrap ((↑i : Int) + (64 : Int))) && decide (IntKind.i64.wrap ((↑i : Int) + (64 : Int))
     ≤ (↑k : Int)) then bif chk ((IntKind.i64.wrap ((↑i : Int) + (64 : Int)) - (↑i : Int)).toNat = (64 : Nat) ∧ (0 : Nat) + (↑i : Int).toNat * (1 : Nat) + (64 : Nat) ≤ k) then on [Value.int IntKind.i64
     (IntKind.i64.wrap ((↑i : Int) + (64 : Int))), Value.pointer (some (Addr.mk (1 : Nat) (0 : Nat) none)), Value.slice (some (Addr.mk (2 : Nat) (0 : Nat) none)) k (1 : Nat), Value.pointer (some (Addr.mk
     (3 : Nat) (0 : Nat) none))] [some (Blk.mk false (1 : Nat) [Seg.ints IntKind.u8 n B]), some (Blk.mk true (32 : Nat) [Seg.ints IntKind.u8 (32 : Nat) R]), some (Blk.mk true (1 : Nat) [Seg.ints IntKind.u8
     k A]), some (Blk.mk true (8 : Nat) [Seg.ints IntKind.u32 (8 : Nat) [(turnO A ((0 : Nat) + (↑i : Int).toNat * (1 : Nat)) [a, b, c, d, e, f, g, h]).getD (0 : Nat) (0 : Int), (turnO A ((0 : Nat) + (↑i :
     Int).toNat * (1 : Nat)) [a, b, c, d, e, f, g, h]).getD (1 : Nat) (0 : Int), (turnO A ((0 : Nat) + (↑i : Int).toNat * (1 : Nat)) [a, b, c, d, e, f, g, h]).getD (2 : Nat) (0 : Int), (turnO A ((0 : Nat)
     + (↑i : Int).toNat * (1 : Nat)) [a, b, c, d, e, f, g, h]).getD (3 : Nat) (0 : Int), (turnO A ((0 : Nat) + (↑i : Int).toNat * (1 : Nat)) [a, b, c, d, e, f, g, h]).getD (4 : Nat) (0 : Int), (turnO A ((0
     : Nat) + (↑i : Int).toNat * (1 : Nat)) [a, b, c, d, e, f, g, h]).getD (5 : Nat) (0 : Int), (turnO A ((0 : Nat) + (↑i : Int).toNat * (1 : Nat)) [a, b, c, d, e, f, g, h]).getD (6 : Nat) (0 : Int),
     (turnO A ((0 : Nat) + (↑i : Int).toNat * (1 : Nat)) [a, b, c, d, e, f, g, h]).getD (7 : Nat) (0 : Int)]])] else none else none else none) (by kernel_rfl) (by simp only [-eq_self, Int.toNat_natCast, Nat.mul_one, Nat.zero_add, swrap w1.1 w1.2]; exact (go_t (dec_t h1) (go_t (and_t (and_t (dec_t h2) (dec_t h3)) (dec_t h4)) (go_t (chk_t h5) rfl))))
--CFEND
--CP pCx (n k i : Nat) (B R A S : List Int) (on : List Value → Heap → Out) (out : Exit → List Value → Heap → Out) :: roundK Try.prog (STu.on [(46, false)]) noL Try.f34.ntmps 1 (loopOf Try.f34 2) liveCc [w63 i, pt 1, sl 2 k 1, pt 3] [rU n B, rB32 R, oU k A, oW 8 S] on out
theorem pCx (n k i : Nat) (B R A S : List Int) (on : List Value → Heap → Out) (out : Exit → List Value → Heap → Out)
    (h1 : ¬(↑i : Int) < (↑k : Int) := by first | omega | assumption | rfl) : roundK Try.prog (STu.on [(46, false)]) noL Try.f34.ntmps 1 (loopOf Try.f34 2) liveCc [w63 i, pt 1, sl 2 k 1, pt 3] [rU n B, rB32 R, oU k A, oW 8 S] on out =
     (out (Exit.exit (4 : Nat)) [Value.int IntKind.i64 (↑i : Int), Value.pointer (some (Addr.mk (1 : Nat) (0 : Nat) none)), Value.slice (some (Addr.mk (2 : Nat) (0 : Nat) none)) k (1 : Nat), Value.pointer
     (some (Addr.mk (3 : Nat) (0 : Nat) none))] [some (Blk.mk false (1 : Nat) [Seg.ints IntKind.u8 n B]), some (Blk.mk true (32 : Nat) [Seg.ints IntKind.u8 (32 : Nat) R]), some (Blk.mk true (1 : Nat)
     [Seg.ints IntKind.u8 k A]), some (Blk.mk true (8 : Nat) [Seg.ints IntKind.u32 (8 : Nat) S])]) :=
  Eq.trans (by kernel_rfl) (go_f (dec_f h1) rfl)
--CFEND
/-! ### the bytes with what stands behind them -/
def zc (k : Nat) : Nat := (120 - k % 64) % 64
def byF (v : Int) : Nat → Nat → List Int
  | 0, _ => []
  | m + 1, i => (v / 2 ^ (56 - 8 * i) % 256) :: byF v m (i + 1)
theorem byF_len (v : Int) : ∀ m i, (byF v m i).length = m
  | 0, _ => rfl
  | m + 1, i => by rw [byF, List.length_cons, byF_len v m]
theorem loopA (n c : Nat) (B R : List Int) : ∀ (m k : Nat) (A : List Int), A.length = k → zc k = m → k + m ≤ 100000 →
    LoopT Try.prog Try.f34.ntmps 1 (loopOf Try.f34 0) (zipS liveA (stA n c k)) [rU n B, rB32 R, oU k A] (.exit 0) (zipS liveA (stA n c (k + m))) [rU n B, rB32 R, oU (k + m) (A ++ List.replicate m 0)] := by
  intro m
  induction m with
  | zero =>
    intro k A hA hz hk
    rw [List.replicate_zero, List.append_nil]
    have e : (k : Int).tmod 64 = 56 := by rw [Int.tmod_eq_emod_of_nonneg (by omega)]; unfold zc at hz; omega
    exact LoopT.last (by simp) (CodeT.out (S := (mkS []).on [(21, false)]) mk0 noL_ok (fun on out => pAx n c k B R A on out e))
  | succ m ih =>
    intro k A hA hz hk
    have hl := ih (k + 1) (A ++ [0]) (by simp [hA]) (by unfold zc at *; omega) (by omega)
    rw [List.append_assoc, show [(0 : Int)] ++ List.replicate m 0 = List.replicate (m + 1) 0 from rfl, show k + 1 + m = k + (m + 1) by omega] at hl
    have e : (k : Int).tmod 64 ≠ 56 := by rw [Int.tmod_eq_emod_of_nonneg (by omega)]; unfold zc at hz; omega
    refine LoopT.step (CodeT.on (S := (mkS []).on [(21, true)]) mk0 noL_ok (fun on out => ?_)) hl
    rw [pA n c k B R A on out e (by omega) (by omega) (by omega) rfl, List.take_of_length_le (by omega)]
theorem loopBy (n : Nat) (v : Int) (B R : List Int) : ∀ (m i k : Nat) (A : List Int), i + m = 8 → A.length = k → k + m ≤ 100000 →
    LoopT Try.prog Try.f34.ntmps 1 (loopOf Try.f34 1) (zipS liveBy [w63 i, pt 1, sl 2 k 1, .int .u64 v]) [rU n B, rB32 R, oU k A] (.exit 2) (zipS liveBy [w63 8, pt 1, sl 2 (k + m) 1, .int .u64 v]) [rU n B, rB32 R, oU (k + m) (A ++ byF v m i)] := by
  intro m
  induction m with
  | zero =>
    intro i k A hi hA hk
    obtain rfl : i = 8 := hi
    rw [byF, List.append_nil]
    exact LoopT.last (by simp) (CodeT.out (S := (mkS []).on [(30, false)]) mk0 noL_ok (fun on out => pBx n k v B R A on out))
  | succ m ih =>
    intro i k A hi hA hk
    have hl := ih (i + 1) (k + 1) (A ++ [v / 2 ^ (56 - 8 * i) % 256]) (by omega) (by simp [hA]) (by omega)
    rw [List.append_assoc, show [v / 2 ^ (56 - 8 * i) % 256] ++ byF v m (i + 1) = byF v (m + 1) i from rfl, show k + 1 + m = k + (m + 1) by omega] at hl
    refine LoopT.step (CodeT.on (S := (mkS []).on [(30, true)]) mk0 noL_ok (fun on out => ?_)) hl
    rw [pB n k i v B R A on out (by omega) (by omega) (by omega) (by omega) (by omega) (by omega) (by omega) (by omega) rfl, List.take_of_length_le (by omega)]
    have e1 : min (56 - 8 * (i : Int)).toNat 64 = 56 - 8 * i := by omega
    have hp : (0 : Int) ≤ 2 ^ (56 - 8 * i) := Int.le_of_lt (Int.pow_pos (by decide))
    rw [e1, Int.fdiv_eq_ediv_of_nonneg _ hp, wrap_u8]
    rfl
/-- The words behind some blocks. -/
noncomputable def turns (A : List Int) : Nat → Nat → List Int → List Int
  | 0, _, S => S
  | m + 1, i, S => turns A m (i + 64) (turnO A i S)
theorem turns_ok (A : List Int) : ∀ (m i : Nat) (S : List Int), S.length = 8 → (∀ x ∈ S, W32 x) → (turns A m i S).length = 8 ∧ ∀ x ∈ turns A m i S, W32 x
  | 0, _, _, h1, h2 => ⟨h1, h2⟩
  | m + 1, i, S, _, _ => turns_ok A m (i + 64) _ (by rw [turnO_eq]; rfl) (by rw [turnO_eq]; exact turnL_W32 A i S)
theorem loopCc (n k : Nat) (B R A : List Int) (hk : k ≤ 100000) : ∀ (m i : Nat) (S : List Int), i + 64 * m = k → S.length = 8 →
    LoopT Try.prog Try.f34.ntmps 1 (loopOf Try.f34 2) (zipS liveCc [w63 i, pt 1, sl 2 k 1, pt 3]) [rU n B, rB32 R, oU k A, oW 8 S] (.exit 4) (zipS liveCc [w63 k, pt 1, sl 2 k 1, pt 3]) [rU n B, rB32 R, oU k A, oW 8 (turns A m i S)] := by
  intro m
  induction m with
  | zero =>
    intro i S hi hS
    obtain rfl : i = k := by omega
    exact LoopT.last (by simp) (CodeT.out (S := STu.on [(46, false)]) STu_ok noL_ok (fun on out => pCx n i i B R A S on out))
  | succ m ih =>
    intro i S hi hS
    have hl := ih (i + 64) (turnO A i S) (by omega) (by rw [turnO_eq]; rfl)
    refine LoopT.step (CodeT.on (S := STu.on [(46, true)]) STu_ok noL_ok (fun on out => ?_)) hl
    obtain ⟨a, b, c, d, e, f, g, h, rfl⟩ := len8 hS
    rw [pC n k i B R A a b c d e f g h on out (by omega) (by omega) (by omega) (by omega) (by omega) ⟨by omega, by omega⟩]
    have e8 := lst_eq (n := 8) (W := turnO A i [a, b, c, d, e, f, g, h]) (by rw [turnO_eq]; rfl)
    conv => rhs; rw [← e8]
    rfl
def liveD : List Nat := [57, 2, 56]
--CP pD (n : Nat) (B : List Int) (a b c d e f g h : Int) :: loopN Try.prog (mkS []) noL Try.f34.ntmps 1 (loopOf Try.f34 3) liveD 9 [w63 0, pt 1, .agg ⟨[w32v a, w32v b, w32v c, w32v d, w32v e, w32v f, w32v g, w32v h]⟩] [rU n B, rB32 [0, 0, 0, 0, 0, 0, 0, 0, 0, 0, 0, 0, 0, 0, 0, 0, 0, 0, 0, 0, 0, 0, 0, 0, 0, 0, 0, 0, 0, 0, 0, 0]] (fun e vs h => some (.at e (zipS liveD vs) h))
theorem pD (n : Nat) (B : List Int) (a b c d e f g h : Int) : loopN Try.prog (mkS []) noL Try.f34.ntmps 1 (loopOf Try.f34 3) liveD 9 [w63 0, pt 1, .agg ⟨[w32v a, w32v b, w32v c, w32v d, w32v e, w32v f, w32v g, w32v h]⟩] [rU n B, rB32 [0, 0, 0, 0, 0, 0, 0, 0, 0, 0, 0, 0, 0, 0, 0, 0, 0, 0, 0, 0, 0, 0, 0, 0, 0, 0, 0, 0, 0, 0, 0, 0]] (fun e vs h => some (.at e (zipS liveD vs) h)) =
     (some (Res.at (Exit.exit (6 : Nat)) [((57 : Nat), some (Value.int IntKind.i64 (8 : Int))), ((2 : Nat), some (Value.pointer (some (Addr.mk (1 : Nat) (0 : Nat) none)))), ((56 : Nat), some (Value.agg
     (Array.mk [Value.int IntKind.u32 a, Value.int IntKind.u32 b, Value.int IntKind.u32 c, Value.int IntKind.u32 d, Value.int IntKind.u32 e, Value.int IntKind.u32 f, Value.int IntKind.u32 g, Value.int
     IntKind.u32 h])))] [some (Blk.mk false (1 : Nat) [Seg.ints IntKind.u8 n B]), some (Blk.mk true (32 : Nat) [Seg.ints IntKind.u8 (32 : Nat) [IntKind.u8.wrap (a.fdiv (16777216 : Int)), IntKind.u8.wrap
     (a.fdiv (65536 : Int)), IntKind.u8.wrap (a.fdiv (256 : Int)), IntKind.u8.wrap a, IntKind.u8.wrap (b.fdiv (16777216 : Int)), IntKind.u8.wrap (b.fdiv (65536 : Int)), IntKind.u8.wrap (b.fdiv (256 :
     Int)), IntKind.u8.wrap b, IntKind.u8.wrap (c.fdiv (16777216 : Int)), IntKind.u8.wrap (c.fdiv (65536 : Int)), IntKind.u8.wrap (c.fdiv (256 : Int)), IntKind.u8.wrap c, IntKind.u8.wrap (d.fdiv (16777216
     : Int)), IntKind.u8.wrap (d.fdiv (65536 : Int)), IntKind.u8.wrap (d.fdiv (256 : Int)), IntKind.u8.wrap d, IntKind.u8.wrap (e.fdiv (16777216 : Int)), IntKind.u8.wrap (e.fdiv (65536 : Int)),
     IntKind.u8.wrap (e.fdiv (256 : Int)), IntKind.u8.wrap e, IntKind.u8.wrap (f.fdiv (16777216 : Int)), IntKind.u8.wrap (f.fdiv (65536 : Int)), IntKind.u8.wrap (f.fdiv (256 : Int)), IntKind.u8.wrap f,
     IntKind.u8.wrap (g.fdiv (16777216 : Int)), IntKind.u8.wrap (g.fdiv (65536 : Int)), IntKind.u8.wrap (g.fdiv (256 : Int)), IntKind.u8.wrap g, IntKind.u8.wrap (h.fdiv (16777216 : Int)), IntKind.u8.wrap
     (h.fdiv (65536 : Int)), IntKind.u8.wrap (h.fdiv (256 : Int)), IntKind.u8.wrap h]])])) :=
  Eq.trans (by kernel_rfl) rfl
--CFEND
end Go.Proofs.Ytcjjngdkkihgjaa.VC

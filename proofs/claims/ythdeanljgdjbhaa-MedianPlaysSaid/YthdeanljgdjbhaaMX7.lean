/- The document's middle one. -/
import Derived.Test.YthdeanljgdjbhaaMXU
namespace Go.Proofs.Ythdeanljgdjbhaa.VC
open Go Go.Proofs

abbrev slW (id o n c : Nat) : Value := .slice (some ⟨id, o, none⟩) n c
noncomputable def inner16 : Code := ((loops (loopOf Try.f16 0))[0]?).getD .skip
def live16i : List Nat := [2, 0, 3, 4, 5, 6, 7]
abbrev st16i (o k c : Nat) (at' : Int) (i p q j : Nat) : List Value := [w63 0, slW 0 o k c, w63 at', w63 i, w63 p, w63 q, w63 j]
--CP p16lt (o k c : Nat) (t : Int) (i p q j N : Nat) (l : List Int) (on : List Value → Heap → Out) (out : Exit → List Value → Heap → Out) :: roundK Try.prog ((mkS []).on [(21, true), (32, true), (43, false)]) noL Try.f16.ntmps 1 inner16 live16i (st16i o k c t i p q j) [rB false N l] on out
theorem p16lt (o k c : Nat) (t : Int) (i p q j N : Nat) (l : List Int) (on : List Value → Heap → Out) (out : Exit → List Value → Heap → Out)
    (w1 : -9223372036854775808 ≤ (↑p : Int) + (1 : Int) ∧ (↑p : Int) + (1 : Int) ≤ 9223372036854775807 := by omega)
    (w2 : -9223372036854775808 ≤ (↑j : Int) + (1 : Int) ∧ (↑j : Int) + (1 : Int) ≤ 9223372036854775807 := by omega)
    (h1 : (↑j : Int) < (↑k : Int) := by first | omega | assumption | rfl)
    (h2 : (0 : Int) ≤ (↑j : Int) := by first | omega | assumption | rfl)
    (h3 : o + j < N := by first | omega | assumption | rfl)
    (h4 : (0 : Int) ≤ (↑i : Int) := by first | omega | assumption | rfl)
    (h5 : (↑i : Int) < (↑k : Int) := by first | omega | assumption | rfl)
    (h6 : o + i < N := by first | omega | assumption | rfl)
    (h7 : l.getD (o + j) (0 : Int) < l.getD (o + i) (0 : Int) := by first | omega | assumption | rfl)
    (h8 : l.getD (o + j) (0 : Int) ≠ l.getD (o + i) (0 : Int) := by first | omega | assumption | rfl) : roundK Try.prog ((mkS []).on [(21, true), (32, true), (43, false)]) noL Try.f16.ntmps 1 inner16 live16i (st16i o k c t i p q j) [rB false N l] on out =
     (on [Value.int IntKind.i64 (0 : Int), Value.slice (some (Addr.mk (0 : Nat) o none)) k c, Value.int IntKind.i64 t, Value.int IntKind.i64 (↑i : Int), Value.int IntKind.i64 ((↑p : Int) + (1 : Int)),
     Value.int IntKind.i64 (↑q : Int), Value.int IntKind.i64 ((↑j : Int) + (1 : Int))] [some (Blk.mk false (1 : Nat) [Seg.ints IntKind.i64 N l])]) :=
  Eq.trans (b :=
     bif decide ((↑j : Int) < (↑k : Int)) then bif decide ((0 : Int) ≤ (↑j : Int)) && decide ((↑j : Int) < (↑k : Int)) then bif (o + (↑j : Int).toNat * (1 : Nat)).blt N then bif decide ((0 : Int) ≤ (↑i :
     Int)) && decide ((↑i : Int) < (↑k : Int)) then bif (o + (↑i : Int).toNat * (1 : Nat)).blt N then bif decide (l.getD (o + (↑j : Int).toNat * (1 : Nat)) (0 : Int) < l.getD (o + (↑i : Int).toNat * (1 :
     Nat)) (0 : Int)) then bif decide ((0 : Int) ≤ (↑j : Int)) && decide ((↑j : Int) < (↑k : Int)) then bif (o + (↑j : Int).toNat * (1 : Nat)).blt N then bif decide ((0 : Int) ≤ (↑i : Int)) && decide ((↑i
     : Int) < (↑k : Int)) then bif (o + (↑i : Int).toNat * (1 : Nat)).blt N then bif l.getD (o + (↑j : Int).toNat * (1 : Nat)) (0 : Int) == l.getD (o + (↑i : Int).toNat * (1 : Nat)) (0 : Int) then none
     else on [Value.int IntKind.i64 (0 : Int), Value.slice (some (Addr.mk (0 : Nat) o none)) k c, Value.int IntKind.i64 t, Value.int IntKind.i64 (↑i : Int), Value.int IntKind.i64 (IntKind.i64.wrap ((↑p :
     Int) + (1 : Int))), Value.int IntKind.i64 (↑q : Int), Value.int IntKind.i64 (IntKind.i64.wrap ((↑j : Int) + (1 : Int)))] [some (Blk.mk false (1 : Nat) [Seg.ints IntKind.i64 N l])] else none else none
     else none else none else none else none else none else none else none else none) (by kernel_rfl) (by simp only [-eq_self, Int.toNat_natCast, Nat.mul_one, swrap w1.1 w1.2, swrap w2.1 w2.2]; exact (go_t (dec_t h1) (go_t (and_t (dec_t h2) (dec_t h1)) (go_t (blt_t h3) (go_t (and_t (dec_t h4) (dec_t h5)) (go_t (blt_t h6) (go_t (dec_t h7) (go_t (and_t (dec_t h2) (dec_t h1)) (go_t (blt_t h3) (go_t (and_t (dec_t h4) (dec_t h5)) (go_t (blt_t h6) (go_f (eqb_f h8) rfl))))))))))))
--CFEND
--CP p16eq (o k c : Nat) (t : Int) (i p q j N : Nat) (l : List Int) (on : List Value → Heap → Out) (out : Exit → List Value → Heap → Out) :: roundK Try.prog ((mkS []).on [(21, true), (32, false), (43, true)]) noL Try.f16.ntmps 1 inner16 live16i (st16i o k c t i p q j) [rB false N l] on out
theorem p16eq (o k c : Nat) (t : Int) (i p q j N : Nat) (l : List Int) (on : List Value → Heap → Out) (out : Exit → List Value → Heap → Out)
    (w1 : -9223372036854775808 ≤ (↑q : Int) + (1 : Int) ∧ (↑q : Int) + (1 : Int) ≤ 9223372036854775807 := by omega)
    (w2 : -9223372036854775808 ≤ (↑j : Int) + (1 : Int) ∧ (↑j : Int) + (1 : Int) ≤ 9223372036854775807 := by omega)
    (h1 : (↑j : Int) < (↑k : Int) := by first | omega | assumption | rfl)
    (h2 : (0 : Int) ≤ (↑j : Int) := by first | omega | assumption | rfl)
    (h3 : o + j < N := by first | omega | assumption | rfl)
    (h4 : (0 : Int) ≤ (↑i : Int) := by first | omega | assumption | rfl)
    (h5 : (↑i : Int) < (↑k : Int) := by first | omega | assumption | rfl)
    (h6 : o + i < N := by first | omega | assumption | rfl)
    (h7 : ¬l.getD (o + j) (0 : Int) < l.getD (o + i) (0 : Int) := by first | omega | assumption | rfl)
    (h8 : l.getD (o + j) (0 : Int) = l.getD (o + i) (0 : Int) := by first | omega | assumption | rfl) : roundK Try.prog ((mkS []).on [(21, true), (32, false), (43, true)]) noL Try.f16.ntmps 1 inner16 live16i (st16i o k c t i p q j) [rB false N l] on out =
     (on [Value.int IntKind.i64 (0 : Int), Value.slice (some (Addr.mk (0 : Nat) o none)) k c, Value.int IntKind.i64 t, Value.int IntKind.i64 (↑i : Int), Value.int IntKind.i64 (↑p : Int), Value.int
     IntKind.i64 ((↑q : Int) + (1 : Int)), Value.int IntKind.i64 ((↑j : Int) + (1 : Int))] [some (Blk.mk false (1 : Nat) [Seg.ints IntKind.i64 N l])]) :=
  Eq.trans (b :=
     bif decide ((↑j : Int) < (↑k : Int)) then bif decide ((0 : Int) ≤ (↑j : Int)) && decide ((↑j : Int) < (↑k : Int)) then bif (o + (↑j : Int).toNat * (1 : Nat)).blt N then bif decide ((0 : Int) ≤ (↑i :
     Int)) && decide ((↑i : Int) < (↑k : Int)) then bif (o + (↑i : Int).toNat * (1 : Nat)).blt N then bif decide (l.getD (o + (↑j : Int).toNat * (1 : Nat)) (0 : Int) < l.getD (o + (↑i : Int).toNat * (1 :
     Nat)) (0 : Int)) then none else bif decide ((0 : Int) ≤ (↑j : Int)) && decide ((↑j : Int) < (↑k : Int)) then bif (o + (↑j : Int).toNat * (1 : Nat)).blt N then bif decide ((0 : Int) ≤ (↑i : Int)) &&
     decide ((↑i : Int) < (↑k : Int)) then bif (o + (↑i : Int).toNat * (1 : Nat)).blt N then bif l.getD (o + (↑j : Int).toNat * (1 : Nat)) (0 : Int) == l.getD (o + (↑i : Int).toNat * (1 : Nat)) (0 : Int)
     then on [Value.int IntKind.i64 (0 : Int), Value.slice (some (Addr.mk (0 : Nat) o none)) k c, Value.int IntKind.i64 t, Value.int IntKind.i64 (↑i : Int), Value.int IntKind.i64 (↑p : Int), Value.int
     IntKind.i64 (IntKind.i64.wrap ((↑q : Int) + (1 : Int))), Value.int IntKind.i64 (IntKind.i64.wrap ((↑j : Int) + (1 : Int)))] [some (Blk.mk false (1 : Nat) [Seg.ints IntKind.i64 N l])] else none else
     none else none else none else none else none else none else none else none else none) (by kernel_rfl) (by simp only [-eq_self, Int.toNat_natCast, Nat.mul_one, swrap w1.1 w1.2, swrap w2.1 w2.2]; exact (go_t (dec_t h1) (go_t (and_t (dec_t h2) (dec_t h1)) (go_t (blt_t h3) (go_t (and_t (dec_t h4) (dec_t h5)) (go_t (blt_t h6) (go_f (dec_f h7) (go_t (and_t (dec_t h2) (dec_t h1)) (go_t (blt_t h3) (go_t (and_t (dec_t h4) (dec_t h5)) (go_t (blt_t h6) (go_t (eqb_t h8) rfl))))))))))))
--CFEND
--CP p16gt (o k c : Nat) (t : Int) (i p q j N : Nat) (l : List Int) (on : List Value → Heap → Out) (out : Exit → List Value → Heap → Out) :: roundK Try.prog ((mkS []).on [(21, true), (32, false), (43, false)]) noL Try.f16.ntmps 1 inner16 live16i (st16i o k c t i p q j) [rB false N l] on out
theorem p16gt (o k c : Nat) (t : Int) (i p q j N : Nat) (l : List Int) (on : List Value → Heap → Out) (out : Exit → List Value → Heap → Out)
    (w1 : -9223372036854775808 ≤ (↑j : Int) + (1 : Int) ∧ (↑j : Int) + (1 : Int) ≤ 9223372036854775807 := by omega)
    (h1 : (↑j : Int) < (↑k : Int) := by first | omega | assumption | rfl)
    (h2 : (0 : Int) ≤ (↑j : Int) := by first | omega | assumption | rfl)
    (h3 : o + j < N := by first | omega | assumption | rfl)
    (h4 : (0 : Int) ≤ (↑i : Int) := by first | omega | assumption | rfl)
    (h5 : (↑i : Int) < (↑k : Int) := by first | omega | assumption | rfl)
    (h6 : o + i < N := by first | omega | assumption | rfl)
    (h7 : ¬l.getD (o + j) (0 : Int) < l.getD (o + i) (0 : Int) := by first | omega | assumption | rfl)
    (h8 : l.getD (o + j) (0 : Int) ≠ l.getD (o + i) (0 : Int) := by first | omega | assumption | rfl) : roundK Try.prog ((mkS []).on [(21, true), (32, false), (43, false)]) noL Try.f16.ntmps 1 inner16 live16i (st16i o k c t i p q j) [rB false N l] on out =
     (on [Value.int IntKind.i64 (0 : Int), Value.slice (some (Addr.mk (0 : Nat) o none)) k c, Value.int IntKind.i64 t, Value.int IntKind.i64 (↑i : Int), Value.int IntKind.i64 (↑p : Int), Value.int
     IntKind.i64 (↑q : Int), Value.int IntKind.i64 ((↑j : Int) + (1 : Int))] [some (Blk.mk false (1 : Nat) [Seg.ints IntKind.i64 N l])]) :=
  Eq.trans (b :=
     bif decide ((↑j : Int) < (↑k : Int)) then bif decide ((0 : Int) ≤ (↑j : Int)) && decide ((↑j : Int) < (↑k : Int)) then bif (o + (↑j : Int).toNat * (1 : Nat)).blt N then bif decide ((0 : Int) ≤ (↑i :
     Int)) && decide ((↑i : Int) < (↑k : Int)) then bif (o + (↑i : Int).toNat * (1 : Nat)).blt N then bif decide (l.getD (o + (↑j : Int).toNat * (1 : Nat)) (0 : Int) < l.getD (o + (↑i : Int).toNat * (1 :
     Nat)) (0 : Int)) then none else bif decide ((0 : Int) ≤ (↑j : Int)) && decide ((↑j : Int) < (↑k : Int)) then bif (o + (↑j : Int).toNat * (1 : Nat)).blt N then bif decide ((0 : Int) ≤ (↑i : Int)) &&
     decide ((↑i : Int) < (↑k : Int)) then bif (o + (↑i : Int).toNat * (1 : Nat)).blt N then bif l.getD (o + (↑j : Int).toNat * (1 : Nat)) (0 : Int) == l.getD (o + (↑i : Int).toNat * (1 : Nat)) (0 : Int)
     then none else on [Value.int IntKind.i64 (0 : Int), Value.slice (some (Addr.mk (0 : Nat) o none)) k c, Value.int IntKind.i64 t, Value.int IntKind.i64 (↑i : Int), Value.int IntKind.i64 (↑p : Int),
     Value.int IntKind.i64 (↑q : Int), Value.int IntKind.i64 (IntKind.i64.wrap ((↑j : Int) + (1 : Int)))] [some (Blk.mk false (1 : Nat) [Seg.ints IntKind.i64 N l])] else none else none else none else none
     else none else none else none else none else none) (by kernel_rfl) (by simp only [-eq_self, Int.toNat_natCast, Nat.mul_one, swrap w1.1 w1.2]; exact (go_t (dec_t h1) (go_t (and_t (dec_t h2) (dec_t h1)) (go_t (blt_t h3) (go_t (and_t (dec_t h4) (dec_t h5)) (go_t (blt_t h6) (go_f (dec_f h7) (go_t (and_t (dec_t h2) (dec_t h1)) (go_t (blt_t h3) (go_t (and_t (dec_t h4) (dec_t h5)) (go_t (blt_t h6) (go_f (eqb_f h8) rfl))))))))))))
--CFEND
--CP p16x (o k c : Nat) (t : Int) (i p q N : Nat) (l : List Int) (on : List Value → Heap → Out) (out : Exit → List Value → Heap → Out) :: roundK Try.prog ((mkS []).on [(21, false)]) noL Try.f16.ntmps 1 inner16 live16i (st16i o k c t i p q k) [rB false N l] on out
theorem p16x (o k c : Nat) (t : Int) (i p q N : Nat) (l : List Int) (on : List Value → Heap → Out) (out : Exit → List Value → Heap → Out)
    (h1 : ¬(↑k : Int) < (↑k : Int) := by first | omega | assumption | rfl) : roundK Try.prog ((mkS []).on [(21, false)]) noL Try.f16.ntmps 1 inner16 live16i (st16i o k c t i p q k) [rB false N l] on out =
     (out (Exit.exit (2 : Nat)) [Value.int IntKind.i64 (0 : Int), Value.slice (some (Addr.mk (0 : Nat) o none)) k c, Value.int IntKind.i64 t, Value.int IntKind.i64 (↑i : Int), Value.int IntKind.i64 (↑p :
     Int), Value.int IntKind.i64 (↑q : Int), Value.int IntKind.i64 (↑k : Int)] [some (Blk.mk false (1 : Nat) [Seg.ints IntKind.i64 N l])]) :=
  Eq.trans (by kernel_rfl) (go_f (dec_f h1) rfl)
--CFEND
/-- What a slice of numbers tells. -/
def winL (l : List Int) (o k : Nat) : List Int := (l.drop o).take k
theorem winL_len {l : List Int} {o k : Nat} (h : o + k ≤ l.length) : (winL l o k).length = k := by rw [winL, List.length_take, List.length_drop]; omega
theorem winL_get {l : List Int} {o k j : Nat} (hj : j < k) : (winL l o k).getD j 0 = l.getD (o + j) 0 := by
  simp only [winL, List.getD, List.getElem?_take, if_pos hj, List.getElem?_drop]
theorem loop16i (o k c : Nat) (t : Int) (i N : Nat) (l : List Int) (hl : l.length = N) (ho : o + k ≤ N) (hk : k ≤ 1000) (hi : i < k) : ∀ (m j p q : Nat), j + m = k → p ≤ j → q ≤ j →
    LoopT Try.prog Try.f16.ntmps 1 inner16 (zipS live16i (st16i o k c t i p q j)) [rB false N l] (.exit 2)
      (zipS live16i (st16i o k c t i (p + nLt (l.getD (o + i) 0) ((winL l o k).drop j)) (q + nEq (l.getD (o + i) 0) ((winL l o k).drop j)) k)) [rB false N l]
  | 0, j, p, q, hj, hp, hq => by
    obtain rfl : j = k := hj
    rw [List.drop_eq_nil_of_le (by rw [winL_len (by omega)]; exact Nat.le_refl _)]
    exact LoopT.last (by simp) (CodeT.out (S := (mkS []).on [(21, false)]) mk0 noL_ok (fun on out => p16x o j c t i p q N l on out))
  | m + 1, j, p, q, hj, hp, hq => by
    have hd := drop_getW (xs := winL l o k) (j := j) (by rw [winL_len (by omega)]; omega)
    rw [winL_get (show j < k by omega)] at hd
    rcases Int.lt_trichotomy (l.getD (o + j) 0) (l.getD (o + i) 0) with h | h | h
    · have e1 : nLt (l.getD (o + i) 0) ((winL l o k).drop j) = nLt (l.getD (o + i) 0) ((winL l o k).drop (j + 1)) + 1 := by rw [hd, nLt, List.countP_cons_of_pos (by simp only [decide_eq_true_eq]; omega)]; rfl
      have e2 : nEq (l.getD (o + i) 0) ((winL l o k).drop j) = nEq (l.getD (o + i) 0) ((winL l o k).drop (j + 1)) := by rw [hd, nEq, List.countP_cons_of_neg (by simp only [decide_eq_true_eq]; omega)]; rfl
      rw [e1, e2, show p + (nLt (l.getD (o + i) 0) ((winL l o k).drop (j + 1)) + 1) = (p + 1) + nLt (l.getD (o + i) 0) ((winL l o k).drop (j + 1)) by omega]
      exact LoopT.step (CodeT.on (S := (mkS []).on [(21, true), (32, true), (43, false)]) mk0 noL_ok (fun on out => p16lt o k c t i p q j N l on out))
        (loop16i o k c t i N l hl ho hk hi m (j + 1) (p + 1) q (by omega) (by omega) (by omega))
    · have e1 : nLt (l.getD (o + i) 0) ((winL l o k).drop j) = nLt (l.getD (o + i) 0) ((winL l o k).drop (j + 1)) := by rw [hd, nLt, List.countP_cons_of_neg (by simp only [decide_eq_true_eq]; omega)]; rfl
      have e2 : nEq (l.getD (o + i) 0) ((winL l o k).drop j) = nEq (l.getD (o + i) 0) ((winL l o k).drop (j + 1)) + 1 := by rw [hd, nEq, List.countP_cons_of_pos (by simp only [decide_eq_true_eq]; omega)]; rfl
      rw [e1, e2, show q + (nEq (l.getD (o + i) 0) ((winL l o k).drop (j + 1)) + 1) = (q + 1) + nEq (l.getD (o + i) 0) ((winL l o k).drop (j + 1)) by omega]
      exact LoopT.step (CodeT.on (S := (mkS []).on [(21, true), (32, false), (43, true)]) mk0 noL_ok (fun on out => p16eq o k c t i p q j N l on out))
        (loop16i o k c t i N l hl ho hk hi m (j + 1) p (q + 1) (by omega) (by omega) (by omega))
    · have e1 : nLt (l.getD (o + i) 0) ((winL l o k).drop j) = nLt (l.getD (o + i) 0) ((winL l o k).drop (j + 1)) := by rw [hd, nLt, List.countP_cons_of_neg (by simp only [decide_eq_true_eq]; omega)]; rfl
      have e2 : nEq (l.getD (o + i) 0) ((winL l o k).drop j) = nEq (l.getD (o + i) 0) ((winL l o k).drop (j + 1)) := by rw [hd, nEq, List.countP_cons_of_neg (by simp only [decide_eq_true_eq]; omega)]; rfl
      rw [e1, e2]
      exact LoopT.step (CodeT.on (S := (mkS []).on [(21, true), (32, false), (43, false)]) mk0 noL_ok (fun on out => p16gt o k c t i p q j N l on out))
        (loop16i o k c t i N l hl ho hk hi m (j + 1) p q (by omega) (by omega) (by omega))
noncomputable def L16if : LF := fun vs h k => match vs, h with
  | [.int .i64 0, .slice (some ⟨0, o, none⟩) m c, .int .i64 t, .int .i64 i, .int .i64 0, .int .i64 0, .int .i64 0], [some ⟨false, 1, [.ints .i64 N l]⟩] =>
    bif chk (l.length = N ∧ o + m ≤ N ∧ m ≤ 1000 ∧ 0 ≤ i ∧ i < (m : Int)) then
      k (.exit 2) (st16i o m c t i.toNat (nLt (l.getD (o + i.toNat) 0) (winL l o m)) (nEq (l.getD (o + i.toNat) 0) (winL l o m)) m) [rB false N l] else none
  | _, _ => none
noncomputable def L16i : LSpec := oneL 7 live16i L16if
theorem loopOK16i : LoopOK Try.prog Try.f16.ntmps 1 inner16 live16i L16if := by
  refine LoopOK.of_T ?_
  intro vs h k out hk
  unfold L16if at hk
  split at hk
  · obtain ⟨hb, hk2⟩ := bif_t hk
    obtain ⟨rfl, h2, h3, h4, h5⟩ := chk_iff.1 hb
    rename_i o m c t i l
    refine ⟨_, _, _, hk2, fun _ => ?_⟩
    obtain ⟨i, rfl⟩ := Int.eq_ofNat_of_zero_le h4
    have := loop16i o m c t i l.length l rfl h2 h3 (by omega) m 0 0 0 (by omega) (by omega) (by omega)
    simp only [List.drop_zero, Nat.zero_add] at this
    exact this
  · cases hk
theorem loopsI16 : LoopsOK Try.prog L16i Try.f16.ntmps 1 (loopOf Try.f16 0) := loops_one rfl (by kernel_rfl) loopOK16i
def live16 : List Nat := [2, 0, 3, 4]
abbrev st16 (o k c : Nat) (t : Int) (i : Nat) : List Value := [w63 0, slW 0 o k c, w63 t, w63 i]
--CP p16n1 (o k c : Nat) (t : Int) (i N : Nat) (l : List Int) (on : List Value → Heap → Out) (out : Exit → List Value → Heap → Out) :: roundK Try.prog ((mkS []).on [(15, true), (48, false), (55, false)]) L16i Try.f16.ntmps 1 (loopOf Try.f16 0) live16 (st16 o k c t i) [rB false N l] on out
theorem p16n1 (o k c : Nat) (t : Int) (i N : Nat) (l : List Int) (on : List Value → Heap → Out) (out : Exit → List Value → Heap → Out)
    (w1 : -9223372036854775808 ≤ (↑(nLt (l.getD (o + i) (0 : Int)) (winL l o k)) : Int) + (↑(nEq (l.getD (o + i) (0 : Int)) (winL l o k)) : Int) ∧ (↑(nLt (l.getD (o + i) (0 : Int)) (winL l o k)) : Int) + (↑(nEq (l.getD (o + i) (0 : Int)) (winL l o k)) : Int) ≤ 9223372036854775807 := by omega)
    (w2 : -9223372036854775808 ≤ (↑i : Int) + (1 : Int) ∧ (↑i : Int) + (1 : Int) ≤ 9223372036854775807 := by omega)
    (h1 : (↑i : Int) < (↑k : Int) := by first | omega | assumption | rfl)
    (h2 : l.length = N ∧ o + k ≤ N ∧ k ≤ (1000 : Nat) ∧ (0 : Int) ≤ (↑i : Int) ∧ (↑i : Int) < (↑k : Int) := by first | omega | assumption | rfl | ((repeat' with_reducible apply And.intro) <;> first | rfl | assumption | omega)) : roundK Try.prog ((mkS []).on [(15, true), (48, false), (55, false)]) L16i Try.f16.ntmps 1 (loopOf Try.f16 0) live16 (st16 o k c t i) [rB false N l] on out =
     (bif decide ((↑(nLt (l.getD (o + i) (0 : Int)) (winL l o k)) : Int) ≤ t) then bif decide (t < (↑(nLt (l.getD (o + i) (0 : Int)) (winL l o k)) : Int) + (↑(nEq (l.getD (o + i) (0 : Int)) (winL l o k)) :
     Int)) then none else on [Value.int IntKind.i64 (0 : Int), Value.slice (some (Addr.mk (0 : Nat) o none)) k c, Value.int IntKind.i64 t, Value.int IntKind.i64 ((↑i : Int) + (1 : Int))] [some (Blk.mk
     false (1 : Nat) [Seg.ints IntKind.i64 N l])] else on [Value.int IntKind.i64 (0 : Int), Value.slice (some (Addr.mk (0 : Nat) o none)) k c, Value.int IntKind.i64 t, Value.int IntKind.i64 ((↑i : Int) +
     (1 : Int))] [some (Blk.mk false (1 : Nat) [Seg.ints IntKind.i64 N l])]) :=
  Eq.trans (b :=
     bif decide ((↑i : Int) < (↑k : Int)) then bif chk (l.length = N ∧ o + k ≤ N ∧ k ≤ (1000 : Nat) ∧ (0 : Int) ≤ (↑i : Int) ∧ (↑i : Int) < (↑k : Int)) then bif decide ((↑(nLt (l.getD (o + (↑i :
     Int).toNat) (0 : Int)) (winL l o k)) : Int) ≤ t) then bif decide (t < IntKind.i64.wrap ((↑(nLt (l.getD (o + (↑i : Int).toNat) (0 : Int)) (winL l o k)) : Int) + (↑(nEq (l.getD (o + (↑i : Int).toNat) (0
     : Int)) (winL l o k)) : Int))) then none else on [Value.int IntKind.i64 (0 : Int), Value.slice (some (Addr.mk (0 : Nat) o none)) k c, Value.int IntKind.i64 t, Value.int IntKind.i64 (IntKind.i64.wrap
     ((↑(↑i : Int).toNat : Int) + (1 : Int)))] [some (Blk.mk false (1 : Nat) [Seg.ints IntKind.i64 N l])] else on [Value.int IntKind.i64 (0 : Int), Value.slice (some (Addr.mk (0 : Nat) o none)) k c,
     Value.int IntKind.i64 t, Value.int IntKind.i64 (IntKind.i64.wrap ((↑(↑i : Int).toNat : Int) + (1 : Int)))] [some (Blk.mk false (1 : Nat) [Seg.ints IntKind.i64 N l])] else none else none) (by kernel_rfl) (by simp only [-eq_self, Int.toNat_natCast, swrap w1.1 w1.2, swrap w2.1 w2.2]; exact (go_t (dec_t h1) (go_t (chk_t h2) rfl)))
--CFEND
--CP p16r (o k c : Nat) (t : Int) (i N : Nat) (l : List Int) (on : List Value → Heap → Out) (out : Exit → List Value → Heap → Out) :: roundK Try.prog ((mkS []).on [(15, true), (48, true), (55, true)]) L16i Try.f16.ntmps 1 (loopOf Try.f16 0) live16 (st16 o k c t i) [rB false N l] on out
theorem p16r (o k c : Nat) (t : Int) (i N : Nat) (l : List Int) (on : List Value → Heap → Out) (out : Exit → List Value → Heap → Out)
    (w1 : -9223372036854775808 ≤ (↑(nLt (l.getD (o + i) (0 : Int)) (winL l o k)) : Int) + (↑(nEq (l.getD (o + i) (0 : Int)) (winL l o k)) : Int) ∧ (↑(nLt (l.getD (o + i) (0 : Int)) (winL l o k)) : Int) + (↑(nEq (l.getD (o + i) (0 : Int)) (winL l o k)) : Int) ≤ 9223372036854775807 := by omega)
    (h1 : (↑i : Int) < (↑k : Int) := by first | omega | assumption | rfl)
    (h2 : l.length = N ∧ o + k ≤ N ∧ k ≤ (1000 : Nat) ∧ (0 : Int) ≤ (↑i : Int) ∧ (↑i : Int) < (↑k : Int) := by first | omega | assumption | rfl | ((repeat' with_reducible apply And.intro) <;> first | rfl | assumption | omega))
    (h3 : (↑(nLt (l.getD (o + i) (0 : Int)) (winL l o k)) : Int) ≤ t := by first | omega | assumption | rfl)
    (h4 : t < (↑(nLt (l.getD (o + i) (0 : Int)) (winL l o k)) : Int) + (↑(nEq (l.getD (o + i) (0 : Int)) (winL l o k)) : Int) := by first | omega | assumption | rfl)
    (h5 : (0 : Int) ≤ (↑i : Int) := by first | omega | assumption | rfl)
    (h6 : o + i < N := by first | omega | assumption | rfl) : roundK Try.prog ((mkS []).on [(15, true), (48, true), (55, true)]) L16i Try.f16.ntmps 1 (loopOf Try.f16 0) live16 (st16 o k c t i) [rB false N l] on out =
     (out Exit.ret [Value.int IntKind.i64 (l.getD (o + i) (0 : Int)), Value.slice (some (Addr.mk (0 : Nat) o none)) k c, Value.int IntKind.i64 t, Value.int IntKind.i64 (↑i : Int)] [some (Blk.mk false (1 :
     Nat) [Seg.ints IntKind.i64 N l])]) :=
  Eq.trans (b :=
     bif decide ((↑i : Int) < (↑k : Int)) then bif chk (l.length = N ∧ o + k ≤ N ∧ k ≤ (1000 : Nat) ∧ (0 : Int) ≤ (↑i : Int) ∧ (↑i : Int) < (↑k : Int)) then bif decide ((↑(nLt (l.getD (o + (↑i :
     Int).toNat) (0 : Int)) (winL l o k)) : Int) ≤ t) then bif decide (t < IntKind.i64.wrap ((↑(nLt (l.getD (o + (↑i : Int).toNat) (0 : Int)) (winL l o k)) : Int) + (↑(nEq (l.getD (o + (↑i : Int).toNat) (0
     : Int)) (winL l o k)) : Int))) then bif decide ((0 : Int) ≤ (↑(↑i : Int).toNat : Int)) && decide ((↑(↑i : Int).toNat : Int) < (↑k : Int)) then bif (o + (↑(↑i : Int).toNat : Int).toNat * (1 : Nat)).blt
     N then out Exit.ret [Value.int IntKind.i64 (l.getD (o + (↑(↑i : Int).toNat : Int).toNat * (1 : Nat)) (0 : Int)), Value.slice (some (Addr.mk (0 : Nat) o none)) k c, Value.int IntKind.i64 t, Value.int
     IntKind.i64 (↑(↑i : Int).toNat : Int)] [some (Blk.mk false (1 : Nat) [Seg.ints IntKind.i64 N l])] else none else none else none else none else none else none) (by kernel_rfl) (by simp only [-eq_self, Int.toNat_natCast, Nat.mul_one, swrap w1.1 w1.2]; exact (go_t (dec_t h1) (go_t (chk_t h2) (go_t (dec_t h3) (go_t (dec_t h4) (go_t (and_t (dec_t h5) (dec_t h1)) (go_t (blt_t h6) rfl)))))))
--CFEND
theorem loop16 (o k c : Nat) (N : Nat) (l : List Int) (hl : l.length = N) (ho : o + k ≤ N) (h1 : 1 ≤ k) (hk : k ≤ 1000) : ∀ (m i : Nat), i + m = k → (∀ j, j < i → l.getD (o + j) 0 ≠ mid (winL l o k)) →
    ∃ i', LoopT Try.prog Try.f16.ntmps 1 (loopOf Try.f16 0) (zipS live16 (st16 o k c (((k - 1) / 2 : Nat) : Int) i)) [rB false N l] .ret
      (zipS live16 [w63 (mid (winL l o k)), slW 0 o k c, w63 (((k - 1) / 2 : Nat) : Int), w63 (i' : Nat)]) [rB false N l]
  | 0, i, hi, hn => by
    exfalso
    obtain rfl : i = k := hi
    have hlen := winL_len (l := l) (o := o) (k := i) (by omega)
    obtain ⟨j, hj, e⟩ := List.mem_iff_getElem.1 (mid_mem (ys := winL l o i) (by omega))
    refine hn j (by omega) ?_
    rw [← winL_get (k := i) (by omega), List.getD, List.getElem?_eq_getElem hj, Option.getD_some, e]
  | m + 1, i, hi, hn => by
    have hlen := winL_len (l := l) (o := o) (k := k) (by omega)
    have hc := mid_count (xs := winL l o k) (by omega) (l.getD (o + i) 0)
    rw [hlen] at hc
    have b1 : nLt (l.getD (o + i) 0) (winL l o k) ≤ k := Nat.le_trans List.countP_le_length (Nat.le_of_eq hlen)
    have b2 : nEq (l.getD (o + i) 0) (winL l o k) ≤ k := Nat.le_trans List.countP_le_length (Nat.le_of_eq hlen)
    by_cases e : l.getD (o + i) 0 = mid (winL l o k)
    · obtain ⟨c1, c2⟩ := hc.2 e
      refine ⟨i, ?_⟩
      rw [← e]
      exact LoopT.last (by simp) (CodeT.out (S := (mkS []).on [(15, true), (48, true), (55, true)]) mk0 loopsI16 (fun on out => p16r o k c (((k - 1) / 2 : Nat) : Int) i N l on out (by omega) (by omega) ⟨hl, ho, hk, by omega, by omega⟩ (by omega) (by omega) (by omega) (by omega)))
    · obtain ⟨i', h⟩ := loop16 o k c N l hl ho h1 hk m (i + 1) (by omega) (fun j hj => by
        by_cases hji : j = i
        · subst hji; exact e
        · exact hn j (by omega))
      refine ⟨i', LoopT.step (CodeT.on (S := (mkS []).on [(15, true), (48, false), (55, false)]) mk0 loopsI16 (fun on out => ?_)) h⟩
      rw [p16n1 o k c (((k - 1) / 2 : Nat) : Int) i N l on out (by omega) (by omega) (by omega) ⟨hl, ho, hk, by omega, by omega⟩]
      by_cases d1 : ((nLt (l.getD (o + i) 0) (winL l o k) : Nat) : Int) ≤ (((k - 1) / 2 : Nat) : Int)
      · rw [decide_eq_true d1, decide_eq_false (fun d2 => e (hc.1 ⟨by omega, by omega⟩))]; rfl
      · rw [decide_eq_false d1]; rfl
end Go.Proofs.Ythdeanljgdjbhaa.VC

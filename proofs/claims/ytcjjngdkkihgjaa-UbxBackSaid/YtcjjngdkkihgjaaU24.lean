/- ubx: the law of reading. -/
import Derived.Test.YtcjjngdkkihgjaaUB
namespace Go.Proofs.Ytcjjngdkkihgjaa.VC
open Go Go.Proofs

noncomputable def S3E (e : Int) : Spec := mkS [(15, false, FDecUE e), (16, false, FDecUE e), (17, false, FSmT), (14, false, FKnU)]
noncomputable def S3V (fl : List Int) : Spec := mkS [(15, false, FDecUV fl), (16, false, FDecUV fl), (17, false, FSmT), (14, false, FKnU)]
--CP p3N (x y e) (n : Nat) (xs : List Int) :: fnK Try.prog ((S3E e).on [(14, true)]) noL Try.f3 [u8v x, u8v y, sl 0 n 2] [rU n xs]
theorem p3N (x y e) (n : Nat) (xs : List Int)
    (h1 : (↑n : Int) > (600 : Int) := by first | omega | assumption | rfl) : fnK Try.prog ((S3E e).on [(14, true)]) noL Try.f3 [u8v x, u8v y, sl 0 n 2] [rU n xs] =
     (some (Res.ret (Value.bool true) [some (Blk.mk false (1 : Nat) [Seg.ints IntKind.u8 n xs])])) :=
  Eq.trans (by kernel_rfl) (go_t (dec_t h1) rfl)
--CFEND
--CP p3E (x y e) (n : Nat) (xs : List Int) :: fnK Try.prog ((S3E e).on [(14, false), (41, true), (48, true)]) noL Try.f3 [u8v x, u8v y, sl 0 n 2] [rU n xs]
theorem p3E (x y e) (n : Nat) (xs : List Int)
    (h1 : ¬(↑n : Int) > (600 : Int) := by first | omega | assumption | rfl)
    (h2 : n ≤ n := by first | omega | assumption | rfl)
    (h3 : n ≤ (140737488355328 : Nat) := by first | omega | assumption | rfl)
    (h4 : n ≤ (4611686018427387904 : Nat) := by first | omega | assumption | rfl)
    (h5 : n ≤ n ∧ n ≤ (1000000 : Nat) ∧ errU n x y = e ∧ e ≠ (0 : Int) := by first | omega | assumption | rfl | ((repeat' with_reducible apply And.intro) <;> first | rfl | assumption | omega))
    (h6 : (0 : Int) = (0 : Int) ∧ (0 : Int) = (0 : Int) := by first | omega | assumption | rfl | ((repeat' with_reducible apply And.intro) <;> first | rfl | assumption | omega))
    (h7 : e = e := by first | omega | assumption | rfl)
    (h8 : ((strOf (List.take n (List.take n xs))).toList == (strOf (List.take n xs)).toList) = true := by first | omega | assumption | rfl) : fnK Try.prog ((S3E e).on [(14, false), (41, true), (48, true)]) noL Try.f3 [u8v x, u8v y, sl 0 n 2] [rU n xs] =
     (some (Res.ret (Value.bool true) [some (Blk.mk false (1 : Nat) [Seg.ints IntKind.u8 n xs])])) :=
  Eq.trans (b :=
     bif decide ((↑n : Int) > (600 : Int)) then none else bif (n * (1 : Nat)).ble n then bif decide (((0 : Nat) + n) * (1 : Nat) ≤ (140737488355328 : Nat)) && ((0 : Nat) + n).ble (OfNat.ofNat
     (4611686018427387904 : Nat)) then bif chk ((0 : Nat) + ((0 : Nat) + n) ≤ n * (1 : Nat) ∧ n * (1 : Nat) ≤ (1000000 : Nat) ∧ errU ((0 : Nat) + n) x y = e ∧ e ≠ (0 : Int)) then bif chk ((0 : Nat) + n ≤ n
     ∧ n ≤ (1000000 : Nat) ∧ errU n x y = e ∧ e ≠ (0 : Int)) then bif chk ((0 : Int) = (0 : Int) ∧ (0 : Int) = (0 : Int)) then bif e == e then bif (((0 : Nat) + n) * (1 : Nat)).ble (n * (1 : Nat)) then bif
     ((0 : Nat) + n).ble (OfNat.ofNat (4611686018427387904 : Nat)) then bif (n * (1 : Nat)).ble n then bif n.ble (OfNat.ofNat (4611686018427387904 : Nat)) then bif (strOf (List.take (((0 : Nat) + n) * (1 :
     Nat)) (List.take (n * (1 : Nat)) xs))).toList == (strOf (List.take (n * (1 : Nat)) xs)).toList then some (Res.ret (Value.bool true) [some (Blk.mk false (1 : Nat) [Seg.ints IntKind.u8 n xs])]) else
     none else none else none else none else none else none else none else none else none else none else none) (by kernel_rfl) (by simp only [-eq_self, Nat.mul_one, Nat.zero_add]; exact (go_f (dec_f h1) (go_t (ble_t h2) (go_t (and_t (dec_t h3) (ble_t h4)) (go_t (chk_t h5) (go_t (chk_t h5) (go_t (chk_t h6) (go_t (eqb_t h7) (go_t (ble_t h2) (go_t (ble_t h4) (go_t (ble_t h2) (go_t (ble_t h4) (go_t h8 rfl)))))))))))))
--CFEND
--CP p3V (x y) (n : Nat) (xs fl : List Int) :: fnK Try.prog ((S3V fl).on [(14, false), (41, true), (48, true)]) noL Try.f3 [u8v x, u8v y, sl 0 n 2] [rU n xs]
theorem p3V (x y) (n : Nat) (xs fl : List Int)
    (h1 : ¬(↑n : Int) > (600 : Int) := by first | omega | assumption | rfl)
    (h2 : n ≤ n := by first | omega | assumption | rfl)
    (h3 : n ≤ (140737488355328 : Nat) := by first | omega | assumption | rfl)
    (h4 : n ≤ (4611686018427387904 : Nat) := by first | omega | assumption | rfl)
    (h5 : n ≤ n ∧ n ≤ (1000000 : Nat) ∧ layU x y = some (n, fl) := by first | omega | assumption | rfl | ((repeat' with_reducible apply And.intro) <;> first | rfl | assumption | omega))
    (h6 : x = x ∧ y = y ∧ fl.length / (2 : Nat) = fl.length / (2 : Nat) ∧ fl.length / (2 : Nat) = fl.length / (2 : Nat) ∧ fl.length / (2 : Nat) = fl.length / (2 : Nat) ∧ fl.length / (2 : Nat) ≤ (1000000 : Nat) ∧ sameTo (decL (List.take n xs) (0 : Nat) fl (fl.length / (2 : Nat))) (decL xs (0 : Nat) fl (fl.length / (2 : Nat))) (fl.length / (2 : Nat)) := by first | omega | assumption | rfl | ((repeat' with_reducible apply And.intro) <;> first | rfl | assumption | omega))
    (h7 : ((strOf (List.take n (List.take n xs))).toList == (strOf (List.take n xs)).toList) = true := by first | omega | assumption | rfl) : fnK Try.prog ((S3V fl).on [(14, false), (41, true), (48, true)]) noL Try.f3 [u8v x, u8v y, sl 0 n 2] [rU n xs] =
     (some (Res.ret (Value.bool true) [some (Blk.mk false (1 : Nat) [Seg.ints IntKind.u8 n xs])])) :=
  Eq.trans (b :=
     bif decide ((↑n : Int) > (600 : Int)) then none else bif (n * (1 : Nat)).ble n then bif decide (((0 : Nat) + n) * (1 : Nat) ≤ (140737488355328 : Nat)) && ((0 : Nat) + n).ble (OfNat.ofNat
     (4611686018427387904 : Nat)) then bif chk ((0 : Nat) + ((0 : Nat) + n) ≤ n * (1 : Nat) ∧ n * (1 : Nat) ≤ (1000000 : Nat) ∧ layU x y = some ((0 : Nat) + n, fl)) then bif chk ((0 : Nat) + n ≤ n ∧ n ≤
     (1000000 : Nat) ∧ layU x y = some (n, fl)) then bif chk (x = x ∧ y = y ∧ fl.length / (2 : Nat) = fl.length / (2 : Nat) ∧ fl.length / (2 : Nat) = fl.length / (2 : Nat) ∧ fl.length / (2 : Nat) =
     fl.length / (2 : Nat) ∧ fl.length / (2 : Nat) ≤ (1000000 : Nat) ∧ sameTo (decL (List.take (n * (1 : Nat)) xs) (0 : Nat) fl (fl.length / (2 : Nat))) (decL xs (0 : Nat) fl (fl.length / (2 : Nat)))
     (fl.length / (2 : Nat))) then bif (((0 : Nat) + n) * (1 : Nat)).ble (n * (1 : Nat)) then bif ((0 : Nat) + n).ble (OfNat.ofNat (4611686018427387904 : Nat)) then bif (n * (1 : Nat)).ble n then bif n.ble
     (OfNat.ofNat (4611686018427387904 : Nat)) then bif (strOf (List.take (((0 : Nat) + n) * (1 : Nat)) (List.take (n * (1 : Nat)) xs))).toList == (strOf (List.take (n * (1 : Nat)) xs)).toList then some
     (Res.ret (Value.bool true) [some (Blk.mk false (1 : Nat) [Seg.ints IntKind.u8 n xs])]) else none else none else none else none else none else none else none else none else none else none) (by kernel_rfl) (by simp only [-eq_self, Nat.mul_one, Nat.zero_add]; exact (go_f (dec_f h1) (go_t (ble_t h2) (go_t (and_t (dec_t h3) (ble_t h4)) (go_t (chk_t h5) (go_t (chk_t h5) (go_t (chk_t h6) (go_t (ble_t h2) (go_t (ble_t h4) (go_t (ble_t h2) (go_t (ble_t h4) (go_t h7 rfl))))))))))))
--CFEND
theorem okS3E (e : Int) : SpecOK Try.prog (S3E e) := mkS_cons (okDecUE e) (mkS_cons (okDecURE e) (mkS_cons okSmT (mkS_cons okKnU (mkS_nil _))))
theorem okS3V (fl : List Int) : SpecOK Try.prog (S3V fl) := mkS_cons (okDecUV fl) (mkS_cons (okDecURV fl) (mkS_cons okSmT (mkS_cons okKnU (mkS_nil _))))
def F3 : FSpec := fun args h k => match args, h with
  | [.int .u8 _, .int .u8 _, .slice (some ⟨0, 0, none⟩) n 2], [some ⟨false, 1, [.ints .u8 N xs]⟩] => bif Nat.beq N n then k (.bool true) [rU N xs] else none
  | _, _ => none
theorem errU_0 {n : Nat} {x y : Int} (h : errU n x y = 0) : ∃ fl, layU x y = some (n, fl) := by
  unfold errU at h
  split at h
  · cases h
  · rename_i len fl hl
    by_cases hc : n = len
    · subst hc; exact ⟨fl, hl⟩
    · rw [beq_f hc] at h; cases h
theorem ok3 : EntryOK Try.prog 3 F3 := by
  refine EntryOK.of_paths (fn := Try.f3) follows_ok Try.func3 (by kernel_rfl) (by kernel_rfl) ?_
  intro args h k out hF
  unfold F3 at hF
  split at hF
  · rename_i x y n N xs
    obtain ⟨hb, hF2⟩ := bif_t hF
    obtain rfl := beq_true hb
    refine ⟨_, _, hF2, fun real => ?_⟩
    have hl := (real.segs (i := 0) rfl rfl _ (List.mem_cons_self ..)).1
    have ht : List.take N xs = xs := List.take_of_length_le (by omega)
    by_cases c0 : (N : Int) > 600
    · exact ⟨_, noL, (okS3E 0).on _, noL_ok, p3N x y 0 N xs⟩
    · by_cases c1 : errU N x y = 0
      · obtain ⟨fl, hfl⟩ := errU_0 c1
        obtain ⟨g1, g2, g3, g4, g5, g6⟩ := layU_ok hfl
        have key := @p3V x y N xs fl
        rw [ht, ht] at key
        exact ⟨_, noL, (okS3V fl).on _, noL_ok, key c0 (by omega) (by omega) (by omega) ⟨by omega, by omega, hfl⟩ ⟨rfl, rfl, rfl, rfl, rfl, by omega, fun i hi => rfl⟩ (by rw [beq_self_eq_true])⟩
      · have key := @p3E x y (errU N x y) N xs
        rw [ht, ht] at key
        exact ⟨_, noL, (okS3E _).on _, noL_ok, key c0 (by omega) (by omega) (by omega) ⟨by omega, by omega, rfl, c1⟩ ⟨rfl, rfl⟩ rfl (by rw [beq_self_eq_true])⟩
  · cases hF
theorem top3 {x y : Int} {n : Nat} {xs : List Int} {k : Value → Heap → Out} : F3 [u8v x, u8v y, sl 0 n 2] [rU n xs] k = k (.bool true) [rU n xs] := by
  show (bif Nat.beq n n then k (.bool true) [rU n xs] else none) = _
  rw [beq_t rfl]
  exact condT
end Go.Proofs.Ytcjjngdkkihgjaa.VC

/- clock: Read, Set, Meets, New; ClockReads: the law. -/
import Derived.Test.YtfgehfnlkakioaaC3
namespace Go.Proofs.Ytfgehfnlkakioaa.VC
open Go Go.Proofs

theorem sumH_rng : ∀ (l : List Int) (n : Int), -9223372036854775808 ≤ n ∧ n ≤ 9223372036854775807 → -9223372036854775808 ≤ sumH l n ∧ sumH l n ≤ 9223372036854775807
  | [], _, h => h
  | v :: r, n, _ => sumH_rng r (hold (n + v)) (hold_rng _)
theorem S111_ok : SpecOK Try.prog S111 := mkS_cons ok21 (mkS_cons ok55 (mkS_cons ok107g (mkS_cons ok117 (mkS_nil _))))
theorem ok111 : EntryOK Try.prog 111 F111 := by
  refine EntryOK.of_fn S111_ok follows_ok Try.func111 (by kernel_rfl) (by kernel_rfl) ?_
  intro args h k out hF
  unfold F111 at hF
  split at hF
  · rename_i rho R P Q F D s C T E x
    obtain ⟨hb, hF2⟩ := bif_t hF
    simp only [Bool.and_eq_true, decide_eq_true_eq] at hb
    refine ⟨_, _, hF2, fun real => ⟨noL, noL_ok, ?_⟩⟩
    have hr : -9223372036854775808 ≤ rho ∧ rho ≤ 9223372036854775807 := real.agg (i := 0) rfl (j := 0) rfl
    rw [cf111, dec_t hb.1, condT, swrap (x := rho + 1) (by omega) (by omega)]
    rfl
  · cases hF
theorem put3 {a b c a' b' c' : Int} (h1 : a = a') (h2 : b = b') (h3 : c = c') : (some (Res.ret (Value.tuple (Array.mk [w63 a, w63 b, w63 c])) []) : Out) = some (.ret (.tuple ⟨[w63 a', w63 b', w63 c']⟩) []) := by rw [h1, h2, h3]
theorem readZ_no {rho R P Q F D C T E c : Int} {s : Bool} (h : mayK rho R P Q F D s C T E = false) : readZ rho R P Q F D s C T E c = (0, 0, 2) := by unfold readZ; rw [h, condF]
theorem readZ_un {rho R P Q F D C T E c : Int} (h : mayK rho R P Q F D false C T E = true) : readZ rho R P Q F D false C T E c = (0, 0, 7) := by unfold readZ; rw [h, condT, condF]
theorem readZ_lt {rho R P Q F D C T E c : Int} (h : mayK rho R P Q F D true C T E = true) (h1 : c < C) : readZ rho R P Q F D true C T E c = (0, 0, 10) := by unfold readZ; rw [h, condT, condT, dec_t h1, condT]
theorem readZ_ge {rho R P Q F D C T E c : Int} (h : mayK rho R P Q F D true C T E = true) (h1 : ¬ c < C) : readZ rho R P Q F D true C T E c =
    bif decide (readT R F D T (c - C) < 0) || decide (readT R F D T (c - C) > 6000000000000000000) || decide (readE rho R E (c - C) > 4611686018427387904) then (0, 0, 9) else (readT R F D T (c - C), readE rho R E (c - C), 0) := by
  unfold readZ; rw [h, condT, condT, dec_f h1, condF]
theorem S75_ok : SpecOK Try.prog S75 := mkS_cons ok72 (mkS_cons ok111 (mkS_nil _))
theorem may_C {rho R P Q F D C T E : Int} {s : Bool} (h : mayK rho R P Q F D s C T E = true) : 0 ≤ C := by
  have := may_iff.1 h
  cases s with
  | true => exact (inB_iff.1 (this.2.2.2.2.2.2.1 rfl)).1
  | false => have := this.2.2.2.2.2.2.2 rfl; omega
theorem ok75 : EntryOK Try.prog 75 F75 := by
  refine EntryOK.of_fn S75_ok follows_ok Try.func75 (by kernel_rfl) (by kernel_rfl) ?_
  intro args h k out hF
  unfold F75 at hF
  split at hF
  · rename_i rho R P Q F D s C T E c
    refine ⟨_, _, hF, fun real => ⟨noL, noL_ok, ?_⟩⟩
    have hc := i64r real 1 rfl
    rw [cf75]
    cases hm : mayK rho R P Q F D s C T E with
    | false => rw [readZ_no hm]; rfl
    | true => cases s with
      | false => rw [readZ_un hm]; rfl
      | true =>
        have g := may_iff.1 hm
        have gC := may_C hm
        obtain ⟨u1, u2⟩ := upR ⟨g.1, g.2.1⟩
        rw [← g.2.2.1] at u1 u2
        simp only [Bool.not_true, condF]
        refine dc (fun hle => by rw [readZ_lt hm hle]) (fun hle => ?_)
        rw [swrap (x := c - C) (by omega) (by omega), readZ_ge hm hle, dec_t u1, dec_t (show rho ≤ 1000 by omega)]
        simp only [Bool.and_self, condT]
        refine dc (fun c2 => by rw [dec_t c2]; rfl) (fun c2 => dc (fun c3 => by rw [dec_t c3]; simp) (fun c3 => dc (fun c4 => by rw [dec_t c4]; simp) (fun c4 => by rw [dec_f c2, dec_f c3, dec_f c4]; rfl)))
  · cases hF
theorem S80_ok : SpecOK Try.prog S80 := mkS_cons ok20 (mkS_cons ok56 (mkS_cons ok79 (mkS_cons ok112 (mkS_cons ok113 (mkS_nil _)))))
theorem ok80 : EntryOK Try.prog 80 F75 := by
  refine EntryOK.of_fn S80_ok follows_ok Try.func80 (by kernel_rfl) (by kernel_rfl) ?_
  intro args h k out hF
  unfold F75 at hF
  split at hF
  · rename_i rho R P Q F D s C T E c
    refine ⟨_, _, hF, fun real => ⟨noL, noL_ok, ?_⟩⟩
    have hc := i64r real 1 rfl
    rw [cf80]
    cases hm : mayK rho R P Q F D s C T E with
    | false => rw [readZ_no hm]; rfl
    | true => cases s with
      | false => rw [readZ_un hm]; rfl
      | true =>
        have g := may_iff.1 hm
        have gC := may_C hm
        obtain ⟨u1, u2⟩ := upR ⟨g.1, g.2.1⟩
        rw [← g.2.2.1] at u1 u2
        simp only [Bool.not_true, condF]
        refine dc (fun hle => by rw [readZ_lt hm hle]) (fun hle => ?_)
        rw [swrap (x := c - C) (by omega) (by omega), swrap (x := rho + 1) (by omega) (by omega), readZ_ge hm hle, dec_t u1]
        simp only [condT]
        show (bif decide (readT R F D T (c - C) < 0) then _ else bif decide (readT R F D T (c - C) > 6000000000000000000) then _ else bif decide (readE rho R E (c - C) > 4611686018427387904) then _ else some (Res.ret (Value.tuple (Array.mk [w63 (readT R F D T (c - C)), w63 (readE rho R E (c - C)), w63 0])) [])) = _
        refine dc (fun c2 => by rw [dec_t c2]; rfl) (fun c2 => dc (fun c3 => by rw [dec_t c3]; simp) (fun c3 => dc (fun c4 => by rw [dec_t c4]; simp) (fun c4 => by rw [dec_f c2, dec_f c3, dec_f c4]; rfl)))
  · cases hF
theorem S81_ok : SpecOK Try.prog S81 := mkS_cons ok72 (mkS_cons ok110 (mkS_nil _))
theorem ok81 : EntryOK Try.prog 81 F81 := by
  refine EntryOK.of_fn S81_ok follows_ok Try.func81 (by kernel_rfl) (by kernel_rfl) ?_
  intro args h k out hF
  unfold F81 at hF
  split at hF
  · rename_i rho R P Q F D s C T E c t e
    cases hm : mayK rho R P Q F D s C T E <;> cases hi : inB c t e <;> rw [hm, hi] at hF <;> simp only [Bool.and_self, Bool.and_true, Bool.and_false, condT, condF] at hF <;> refine ⟨_, _, hF, fun _ => ⟨noL, noL_ok, ?_⟩⟩ <;> rw [cf81, hm, hi] <;> rfl
  · cases hF
theorem read_rng {rho R P Q F D C T E c : Int} {s : Bool} : -9223372036854775808 ≤ (readZ rho R P Q F D s C T E c).1 ∧ (readZ rho R P Q F D s C T E c).1 ≤ 9223372036854775807 ∧ -9223372036854775808 ≤ (readZ rho R P Q F D s C T E c).2.1 ∧ (readZ rho R P Q F D s C T E c).2.1 ≤ 9223372036854775807 ∧
    ((readZ rho R P Q F D s C T E c).2.2 = 0 → 0 ≤ (readZ rho R P Q F D s C T E c).1 ∧ (readZ rho R P Q F D s C T E c).1 ≤ 6000000000000000000 ∧ (readZ rho R P Q F D s C T E c).2.1 ≤ 4611686018427387904) ∧
    ((readZ rho R P Q F D s C T E c).2.2 = 0 ∨ ((readZ rho R P Q F D s C T E c).1 = 0 ∧ (readZ rho R P Q F D s C T E c).2.1 = 0 ∧ ((readZ rho R P Q F D s C T E c).2.2 = 2 ∨ (readZ rho R P Q F D s C T E c).2.2 = 7 ∨ (readZ rho R P Q F D s C T E c).2.2 = 9 ∨ (readZ rho R P Q F D s C T E c).2.2 = 10))) := by
  cases hm : mayK rho R P Q F D s C T E with
  | false => rw [readZ_no hm]; simp
  | true => cases s with
    | false => rw [readZ_un hm]; simp
    | true =>
      by_cases hle : c < C
      · rw [readZ_lt hm hle]; simp
      · rw [readZ_ge hm hle]
        have a1 := sumH_rng [T, c - C, downI (c - C) (laterZ F D (c - C) R) 4294967296] 0 (by omega)
        have a2 := sumH_rng [E, upI (c - C) (rho + 1) 1000000, upI (c - C) R 4294967296, 2] 0 (by omega)
        change -9223372036854775808 ≤ readT R F D T (c - C) ∧ readT R F D T (c - C) ≤ _ at a1
        change -9223372036854775808 ≤ readE rho R E (c - C) ∧ readE rho R E (c - C) ≤ _ at a2
        cases hb : decide (readT R F D T (c - C) < 0) || decide (readT R F D T (c - C) > 6000000000000000000) || decide (readE rho R E (c - C) > 4611686018427387904) with
        | true => simp
        | false =>
          simp only [Bool.or_eq_false_iff, decide_eq_false_iff_not] at hb
          simp only [condF]
          exact ⟨a1.1, a1.2, a2.1, a2.2, fun _ => ⟨by omega, by omega, by omega⟩, .inl trivial⟩
theorem S82_ok : SpecOK Try.prog S82 := mkS_cons ok23 (mkS_cons ok38 (mkS_cons ok72 (mkS_cons ok75 (mkS_cons ok110 (mkS_nil _)))))
theorem ok82 : EntryOK Try.prog 82 F82 := by
  refine EntryOK.of_fn S82_ok follows_ok Try.func82 (by kernel_rfl) (by kernel_rfl) ?_
  intro args h k out hF
  unfold F82 at hF
  split at hF
  · rename_i rho R P Q F D s C T E c t e
    cases hm : mayK rho R P Q F D s C T E with
    | false => rw [hm] at hF; exact ⟨_, _, hF, fun _ => ⟨noL, noL_ok, by rw [cf82, hm]; rfl⟩⟩
    | true => cases hi : inB c t e with
      | false => rw [hm, hi] at hF; exact ⟨_, _, hF, fun _ => ⟨noL, noL_ok, by rw [cf82, hm, hi]; rfl⟩⟩
      | true =>
        rw [hm, hi] at hF
        refine ⟨_, _, hF, fun _ => ⟨noL, noL_ok, ?_⟩⟩
        rw [cf82, hm, hi]
        simp only [Bool.not_true, condF]
        obtain ⟨r1, r2, r3, r4, r5, _⟩ := read_rng (rho := rho) (R := R) (P := P) (Q := Q) (F := F) (D := D) (s := s) (C := C) (T := T) (E := E) (c := c)
        have hi := inB_iff.1 hi
        unfold meetZ
        generalize (readZ rho R P Q F D s C T E c).1 = at1 at *
        generalize (readZ rho R P Q F D s C T E c).2.1 = far at *
        generalize (readZ rho R P Q F D s C T E c).2.2 = err at *
        refine bc (fun c1 => ?_) (fun c1 => ?_)
        · have : err ≠ 0 := by simpa using c1
          rw [dec_f this]; rfl
        · have : err = 0 := by simpa using c1
          have r5 := r5 this
          rw [dec_t this, swrap (x := at1 - t) (by omega) (by omega), hold_id (z := sizeI (at1 - t)) (by unfold sizeI; omega), hold_id (z := far + e) (by omega)]
          simp only [condT]
          have : decide (sizeI (at1 - t) ≤ far + e) = (decide (at1 - far ≤ t + e) && decide (t - e ≤ at1 + far)) := by
            rw [← Bool.decide_and]
            exact decide_eq_decide.2 (by unfold sizeI; omega)
          rw [this]
  · cases hF
theorem cmpLe {a b : Int} : decide (cmpZ a b ≤ 0) = decide (a ≤ b) := by
  refine decide_eq_decide.2 ?_
  unfold cmpZ
  split
  · omega
  · split <;> omega
theorem S84_ok : SpecOK Try.prog S84 := mkS_cons ok29 (mkS_cons ok35 (mkS_cons ok36 (mkS_cons ok76 (mkS_cons ok80 (mkS_nil _)))))
theorem ok84 : EntryOK Try.prog 84 F84 := by
  refine EntryOK.of_runs Try.func84 (by kernel_rfl) (by kernel_rfl) ?_
  intro args h k out hF
  unfold F84 at hF
  split at hF
  · rename_i rho R P Q F D s C T E c t e
    refine ⟨_, _, hF, fun real => ⟨ble_true (show Nat.ble 4 Try.f84.ntmps = true by kernel_rfl), ?_⟩⟩
    show RunsTo Try.prog Try.f84 0 (bodyOf Try.f84) _ _ _ _
    have ht := i64r real 2 rfl
    have he := i64r real 3 rfl
    refine RunsTo.piece S84_ok follows_ok (L := noL) (by kernel_rfl) noL_ok (live := [1, 2, 3, 4]) (vs1 := [w63 c, w63 t, w63 e, pt 0]) (h1 := [kB rho R P Q F D s C T E]) (cf84a rho R P Q F D C T E c t e s) ?_
    refine RunsTo.piece S84_ok follows_ok (L := noL) (by kernel_rfl) noL_ok (live := [2, 3, 10, 11, 12]) (vs1 := [w63 t, w63 e, w63 (readZ rho R P Q F D s C T E c).1, w63 (readZ rho R P Q F D s C T E c).2.1, w63 (readZ rho R P Q F D s C T E c).2.2]) (h1 := []) (cf84b rho R P Q F D C T E c t e s) ?_
    obtain ⟨r1, r2, r3, r4, r5, r6⟩ := read_rng (rho := rho) (R := R) (P := P) (Q := Q) (F := F) (D := D) (s := s) (C := C) (T := T) (E := E) (c := c)
    unfold meetZ
    generalize (readZ rho R P Q F D s C T E c).1 = at1 at *
    generalize (readZ rho R P Q F D s C T E c).2.1 = far at *
    generalize (readZ rho R P Q F D s C T E c).2.2 = err at *
    rcases r6 with rfl | ⟨rfl, rfl, rfl | rfl | rfl | rfl⟩
    · refine RunsTo.piece S84_ok follows_ok (L := noL) (by kernel_rfl) noL_ok (live := [2, 3, 10, 11]) (vs1 := [w63 t, w63 e, w63 at1, w63 far]) (h1 := []) (cf84c t e at1 far) ?_
      refine RunsTo.piece S84_ok follows_ok (L := noL) (by kernel_rfl) noL_ok (live := [2, 3, 13, 14]) (vs1 := [w63 t, w63 e, pt 0, pt 2]) (h1 := [zC 1 (at1 - far), zB (at1 - far), zC 3 (at1 + far), zB (at1 + far)]) ?_ ?_
      · refine (cf84d t e at1 far).trans ?_
        simp (disch := omega) only [numW_digits, sgn_self, nb4, lb4, ble_self, Bool.and_self, condT]
        rfl
      have hy : (at1 - far).natAbs ≤ 18446744073709551616 := by omega
      have hz : (at1 + far).natAbs ≤ 18446744073709551616 := by omega
      rw [dec_t rfl, condT]
      generalize at1 - far = y at *
      generalize at1 + far = z at *
      refine RunsTo.piece S84_ok follows_ok (L := noL) (by kernel_rfl) noL_ok (live := [13, 14, 15, 16]) (vs1 := [pt 0, pt 2, pt 4, pt 6]) (h1 := [zC 1 y, zB y, zC 3 z, zB z, zC 5 (t - e), zB (t - e), zC 7 (t + e), zB (t + e)]) ?_ ?_
      · refine (cf84e t e y z).trans ?_
        simp (disch := omega) only [numW_digits, sgn_self, nb4, lb4, ble_self, Bool.and_self, condT]
        rfl
      have hu : (t - e).natAbs ≤ 18446744073709551616 := by omega
      have hv : (t + e).natAbs ≤ 18446744073709551616 := by omega
      refine RunsTo.tail S84_ok follows_ok (L := noL) noL_ok ?_
      refine (cf84f y z (t - e) (t + e)).trans ?_
      simp (disch := omega) only [numW_digits, sgn_self, nb4, ble_self, Bool.and_self, condT, chkz, cmpLe]
      refine dc (fun c1 => ?_) (fun c1 => ?_)
      · rw [dec_t c1, Bool.true_and]
      · rw [dec_f c1, Bool.false_and]
    · exact RunsTo.tail S84_ok follows_ok (L := noL) noL_ok (cf84x t e)
    · exact RunsTo.tail S84_ok follows_ok (L := noL) noL_ok (cf84w t e)
    · exact RunsTo.tail S84_ok follows_ok (L := noL) noL_ok (cf84y t e)
    · exact RunsTo.tail S84_ok follows_ok (L := noL) noL_ok (cf84z t e)
  · cases hF
end Go.Proofs.Ytfgehfnlkakioaa.VC

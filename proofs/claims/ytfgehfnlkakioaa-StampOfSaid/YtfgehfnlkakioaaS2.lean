/- sat: the functions compute what they are said to. -/
import Derived.Test.YtfgehfnlkakioaaS1
namespace Go.Proofs.Ytfgehfnlkakioaa.VC
open Go Go.Proofs

theorem i64r {args : List Value} {h : Heap} (hr : RealA args h) (i : Nat) {x : Int} (ha : args[i]? = some (.int .i64 x)) : -9223372036854775808 ≤ x ∧ x ≤ 9223372036854775807 := hr.int ha
theorem u64r {args : List Value} {h : Heap} (hr : RealA args h) (i : Nat) {x : Int} (ha : args[i]? = some (.int .u64 x)) : 0 ≤ x ∧ x ≤ 18446744073709551615 := hr.int ha

theorem ok88 : EntryOK Try.prog 88 F88 := by
  refine EntryOK.of_fn (mkS_nil _) follows_ok Try.func88 (by kernel_rfl) (by kernel_rfl) ?_
  intro args h k out hF
  unfold F88 at hF
  split at hF
  · rename_i a
    refine ⟨_, _, hF, fun real => ⟨noL, noL_ok, ?_⟩⟩
    have ha := i64r real 0 rfl
    rw [cf88]
    unfold sizeI
    refine dc (fun c => ?_) (fun c => ?_)
    · rw [wu64e, wu64e, show (0 - a % 18446744073709551616) % 18446744073709551616 = (a.natAbs : Int) by omega]
    · rw [wu64e, show a % 18446744073709551616 = (a.natAbs : Int) by omega]
  · cases hF

theorem ok89 : EntryOK Try.prog 89 F89 := by
  refine EntryOK.of_fn (mkS_nil _) follows_ok Try.func89 (by kernel_rfl) (by kernel_rfl) ?_
  intro args h k out hF
  unfold F89 at hF
  split at hF
  · rename_i neg hi lo
    refine ⟨_, _, hF, fun real => ⟨noL, noL_ok, ?_⟩⟩
    have h1 := u64r real 1 rfl
    have h2 := u64r real 2 rfl
    rw [cf89]
    have put : ∀ {x y : Int}, x = y → some (Res.ret (.int .i64 x) []) = some (Res.ret (.int .i64 y) []) := fun e => by rw [e]
    cases neg with
    | true =>
      simp only [cond_true, signed, if_true, hold]
      refine dc (fun c => ?_) (fun c => ?_)
      · refine put ?_; split <;> omega
      · refine dc (fun c => ?_) (fun c => ?_)
        · refine put ?_; split <;> omega
        · refine put ?_
          rw [wu64e, wi64e]
          split
          · omega
          · split <;> omega
    | false =>
      simp only [cond_false, signed, Bool.false_eq_true, if_false, hold]
      refine dc (fun c => ?_) (fun c => ?_)
      · refine put ?_
        split
        · omega
        · split <;> omega
      · refine dc (fun c => ?_) (fun c => ?_)
        · refine put ?_
          split
          · omega
          · split <;> omega
        · refine put ?_
          rw [wi64e]
          split
          · omega
          · split <;> omega
  · cases hF

theorem ok23 : EntryOK Try.prog 23 F23 := by
  refine EntryOK.of_fn (mkS_nil _) follows_ok Try.func23 (by kernel_rfl) (by kernel_rfl) ?_
  intro args h k out hF
  unfold F23 at hF
  split at hF
  · rename_i a b
    refine ⟨_, _, hF, fun real => ⟨noL, noL_ok, ?_⟩⟩
    have h1 := i64r real 0 rfl
    have h2 := i64r real 1 rfl
    rw [cf23]
    simp only [wi64e]
    have put : ∀ {x : Int}, x = hold (a + b) → some (Res.ret (.int .i64 x) []) = some (Res.ret (.int .i64 (hold (a + b))) []) := fun e => by rw [e]
    repeat' (first | refine dc (fun c => ?_) (fun c => ?_) | (refine put ?_; simp only [hold]; repeat' split) | omega)
  · cases hF

theorem ok25 : EntryOK Try.prog 25 F25 := by
  refine EntryOK.of_fn (mkS_nil _) follows_ok Try.func25 (by kernel_rfl) (by kernel_rfl) ?_
  intro args h k out hF
  unfold F25 at hF
  split at hF
  · rename_i a b
    refine ⟨_, _, hF, fun real => ⟨noL, noL_ok, ?_⟩⟩
    have h1 := i64r real 0 rfl
    have h2 := i64r real 1 rfl
    rw [cf25]
    simp only [wi64e]
    have put : ∀ {x : Int}, x = hold (a - b) → some (Res.ret (.int .i64 x) []) = some (Res.ret (.int .i64 (hold (a - b))) []) := fun e => by rw [e]
    repeat' (first | refine dc (fun c => ?_) (fun c => ?_) | (refine put ?_; simp only [hold]; repeat' split) | omega)
  · cases hF

theorem size_le {a : Int} (h : -9223372036854775808 ≤ a ∧ a ≤ 9223372036854775807) : 0 ≤ sizeI a ∧ sizeI a ≤ 9223372036854775808 := by unfold sizeI; omega

theorem size_mul (a b : Int) : signed (!(decide (a < 0) == decide (b < 0))) (sizeI a * sizeI b) = a * b := by
  have key : ∀ x : Int, sizeI x = if x < 0 then -x else x := by intro x; unfold sizeI; split <;> omega
  rw [key a, key b]
  by_cases ha : a < 0 <;> by_cases hb : b < 0 <;> simp [signed, ha, hb, Int.neg_mul, Int.mul_neg]

theorem ok24 : EntryOK Try.prog 24 F24 := by
  refine EntryOK.of_fn (mkS_cons (rw := false) ok88 (mkS_cons (rw := false) ok87 (mkS_cons (rw := false) ok89 (mkS_nil _)))) follows_ok Try.func24 (by kernel_rfl) (by kernel_rfl) ?_
  intro args h k out hF
  unfold F24 at hF
  split at hF
  · rename_i a b
    refine ⟨_, _, hF, fun real => ⟨noL, noL_ok, ?_⟩⟩
    rw [cf24, show sizeI a * sizeI b / 18446744073709551616 * 18446744073709551616 + sizeI a * sizeI b % 18446744073709551616 = sizeI a * sizeI b by omega, size_mul]
  · cases hF

theorem ok26 : EntryOK Try.prog 26 F26 := by
  refine EntryOK.of_fn (mkS_cons (rw := false) ok88 (mkS_cons (rw := false) ok89 (mkS_nil _))) follows_ok Try.func26 (by kernel_rfl) (by kernel_rfl) ?_
  intro args h k out hF
  unfold F26 at hF
  split at hF
  · rename_i a
    refine ⟨_, _, hF, fun real => ⟨noL, noL_ok, ?_⟩⟩
    rw [cf26, show signed (decide (a ≥ 0)) (0 + sizeI a) = -a by unfold signed sizeI; by_cases h : a ≥ 0 <;> simp [h] <;> omega]
  · cases hF

theorem ok38 : EntryOK Try.prog 38 F38 := by
  refine EntryOK.of_fn (mkS_cons (rw := false) ok88 (mkS_cons (rw := false) ok89 (mkS_nil _))) follows_ok Try.func38 (by kernel_rfl) (by kernel_rfl) ?_
  intro args h k out hF
  unfold F38 at hF
  split at hF
  · rename_i a
    refine ⟨_, _, hF, fun real => ⟨noL, noL_ok, ?_⟩⟩
    rw [cf38, show signed false (0 + sizeI a) = sizeI a by simp [signed]]
  · cases hF

theorem ok114 : EntryOK Try.prog 114 F114 := by
  refine EntryOK.of_fn (mkS_cons (rw := false) ok115 (mkS_nil _)) follows_ok Try.func114 (by kernel_rfl) (by kernel_rfl) ?_
  intro args h k out hF
  unfold F114 at hF
  split at hF
  · rename_i r x es d
    by_cases hd : r < d
    · rw [decide_eq_true hd] at hF
      refine ⟨_, _, hF, fun real => ⟨noL, noL_ok, ?_⟩⟩
      rw [cf114, decide_eq_true hd]
      rfl
    · rw [decide_eq_false hd] at hF; cases hF
  · cases hF

/-- A negative number over a divisor. -/
theorem neg_ediv' {p d : Int} (hd : 0 < d) : -p / d = -(p / d) - (if p % d > 0 then 1 else 0) := by
  have a1 := Int.emod_nonneg p (b := d) (by omega)
  have a2 := Int.emod_lt_of_pos p hd
  have a3 := Int.mul_ediv_add_emod p d
  split
  · rename_i c
    have e : -p = (d - p % d) + (-(p / d) - 1) * d := by
      rw [Int.sub_mul, Int.neg_mul, Int.mul_comm (p / d)]
      omega
    rw [e, Int.add_mul_ediv_right _ _ (by omega), Int.ediv_eq_zero_of_lt (by omega) (by omega)]
    omega
  · rename_i c
    have e : -p = 0 + (-(p / d)) * d := by
      rw [Int.neg_mul, Int.mul_comm (p / d)]
      omega
    rw [e, Int.add_mul_ediv_right _ _ (by omega)]
    simp

theorem two_words {p d : Int} (hd : 0 < d) (hd1 : d < 18446744073709551616) :
    p / d = p / 18446744073709551616 / d * 18446744073709551616 + (p / 18446744073709551616 % d * 18446744073709551616 + p % 18446744073709551616) / d ∧
    p % d = (p / 18446744073709551616 % d * 18446744073709551616 + p % 18446744073709551616) % d ∧
    0 ≤ (p / 18446744073709551616 % d * 18446744073709551616 + p % 18446744073709551616) / d ∧ (p / 18446744073709551616 % d * 18446744073709551616 + p % 18446744073709551616) / d < 18446744073709551616 := by
  have b0 := Int.emod_nonneg (p / 18446744073709551616) (b := d) (by omega)
  have b1 := Int.emod_lt_of_pos (p / 18446744073709551616) hd
  have b2 := Int.mul_ediv_add_emod (p / 18446744073709551616) d
  have e : p = (p / 18446744073709551616 % d * 18446744073709551616 + p % 18446744073709551616) + (p / 18446744073709551616 / d * 18446744073709551616) * d := by
    rw [Int.mul_right_comm, Int.mul_comm (p / 18446744073709551616 / d)]
    omega
  refine ⟨?_, ?_, Int.ediv_nonneg (by omega) (by omega), (Int.ediv_lt_iff_lt_mul hd).2 (by omega)⟩
  · conv => lhs; rw [e]
    rw [Int.add_mul_ediv_right _ _ (by omega)]
    omega
  · conv => lhs; rw [e]
    rw [Int.add_mul_emod_self_right]

theorem over_main {a b d : Int} {away : Bool} (hd : 0 < d) {M : Int}
    (hM : M = sizeI a * sizeI b / d + (if sizeI a * sizeI b % d > 0 ∧ (!(decide (a < 0) == decide (b < 0))) = away then 1 else 0)) :
    hold (signed (!(decide (a < 0) == decide (b < 0))) M) = overI a b d away := by
  have h := size_mul a b
  have hn := neg_ediv' (p := sizeI a * sizeI b) hd
  subst hM
  generalize (!(decide (a < 0) == decide (b < 0))) = neg at *
  generalize sizeI a * sizeI b = p at *
  unfold overI downI upI
  rw [← h]
  cases neg <;> cases away <;> simp [signed, show ¬ d ≤ 0 by omega] <;> congr 1 <;> rw [hn] <;> split <;> omega

theorem ok85 : EntryOK Try.prog 85 F85 := by
  refine EntryOK.of_fn (mkS_cons (rw := false) ok88 (mkS_cons (rw := false) ok87 (mkS_cons (rw := false) ok89 (mkS_cons (rw := false) ok114 (mkS_cons (rw := false) ok116 (mkS_nil _)))))) follows_ok Try.func85 (by kernel_rfl) (by kernel_rfl) ?_
  intro args h k out hF
  unfold F85 at hF
  split at hF
  · rename_i a b d away
    refine ⟨_, _, hF, fun real => ⟨noL, noL_ok, ?_⟩⟩
    have h1 := size_le (i64r real 0 rfl)
    have h2 := size_le (i64r real 1 rfl)
    have h3 := i64r real 2 rfl
    rw [cf85]
    by_cases hd : d ≤ 0
    · rw [decide_eq_true hd, cond_true]
      unfold overI downI upI
      rw [if_pos hd, if_pos hd]
      cases away <;> rfl
    · rw [decide_eq_false hd, cond_false]
      have hW : IntKind.u64.wrap d = d := wu64 (by omega) (by omega)
      simp only [hW]
      have p0 : 0 ≤ sizeI a * sizeI b := Int.mul_nonneg h1.1 h2.1
      have p1 : sizeI a * sizeI b ≤ 9223372036854775808 * 9223372036854775808 := mul_le h1.2 h2.2 h1.1 (by omega)
      have main := @over_main a b d away (by omega)
      obtain ⟨t1, t2, t3, t4⟩ := two_words (p := sizeI a * sizeI b) (d := d) (by omega) (by omega)
      generalize hn : (!(decide (a < 0) == decide (b < 0))) = neg at *
      generalize sizeI a * sizeI b = p at *
      rw [Int.tdiv_eq_ediv_of_nonneg (by omega), Int.tmod_eq_emod_of_nonneg (by omega)]
      have b1 := Int.emod_lt_of_pos (p / 18446744073709551616) (show 0 < d by omega)
      have c0 : 0 ≤ p / 18446744073709551616 / d := Int.ediv_nonneg (by omega) (by omega)
      have c1 : p / 18446744073709551616 / d ≤ p / 18446744073709551616 := Int.ediv_le_self _ (by omega)
      rw [decide_eq_false (show ¬ d = 0 by omega), decide_eq_true b1, ← t2, wu64 c0 (by omega)]
      simp only [cond_false, cond_true]
      generalize (p / 18446744073709551616 % d * 18446744073709551616 + p % 18446744073709551616) / d = q at *
      generalize p / 18446744073709551616 / d = top at *
      refine dc (fun c => ?_) (fun c => ?_)
      · cases hna : (neg == away) with
        | true =>
          rw [cond_true, ← main rfl, if_pos ⟨c, by simpa using hna⟩, t1, wu64 (x := top + (q + 1 + 0) / 18446744073709551616) (by omega) (by omega),
            show (top + (q + 1 + 0) / 18446744073709551616) * 18446744073709551616 + (q + 1 + 0) % 18446744073709551616 = top * 18446744073709551616 + q + 1 by omega]
        | false => rw [cond_false, ← main rfl, if_neg (fun x => by simp [x.2] at hna), t1, Int.add_zero]
      · rw [← main rfl, if_neg (fun x => c x.1), t1, Int.add_zero]
  · cases hF

theorem ok19 : EntryOK Try.prog 19 F19 := by
  refine EntryOK.of_fn (mkS_cons (rw := false) ok85 (mkS_nil _)) follows_ok Try.func19 (by kernel_rfl) (by kernel_rfl) ?_
  intro args h k out hF
  unfold F19 at hF
  split at hF
  · rename_i a b d
    exact ⟨_, _, hF, fun real => ⟨noL, noL_ok, cf19 a b d⟩⟩
  · cases hF

theorem ok21 : EntryOK Try.prog 21 F21 := by
  refine EntryOK.of_fn (mkS_cons (rw := false) ok85 (mkS_nil _)) follows_ok Try.func21 (by kernel_rfl) (by kernel_rfl) ?_
  intro args h k out hF
  unfold F21 at hF
  split at hF
  · rename_i a b d
    exact ⟨_, _, hF, fun real => ⟨noL, noL_ok, cf21 a b d⟩⟩
  · cases hF

theorem ok34 : EntryOK Try.prog 34 F34 := by
  refine EntryOK.of_fn (mkS_nil _) follows_ok Try.func34 (by kernel_rfl) (by kernel_rfl) ?_
  intro args h k out hF
  unfold F34 at hF
  split at hF
  · rename_i a lo hi
    refine ⟨_, _, hF, fun real => ⟨noL, noL_ok, ?_⟩⟩
    rw [cf34]
    refine dc (fun c => ?_) (fun c => ?_)
    · rw [if_pos c]
    · rw [if_neg c]
      refine dc (fun c => ?_) (fun c => ?_)
      · rw [if_pos c]
      · rw [if_neg c]
  · cases hF

theorem ok33 : EntryOK Try.prog 33 F33 := by
  refine EntryOK.of_fn (mkS_nil _) follows_ok Try.func33 (by kernel_rfl) (by kernel_rfl) ?_
  intro args h k out hF
  unfold F33 at hF
  split at hF
  · rename_i a n
    refine ⟨_, _, hF, fun real => ⟨noL, noL_ok, ?_⟩⟩
    have h1 := u64r real 1 rfl
    rw [cf33]
    have e : (if 63 < n then 63 else n) = min n 63 := by split <;> omega
    simp only [e]
    rw [decide_eq_false (by omega), cond_false, show min (min n 63).toNat 64 = (min n 63).toNat by omega, Int.fdiv_eq_ediv_of_nonneg _ (Int.le_of_lt (Int.pow_pos (by omega)))]
  · cases hF

theorem ok30 : EntryOK Try.prog 30 F30 := by
  refine EntryOK.of_fn (mkS_cons (rw := false) ok88 (mkS_cons (rw := false) ok87 (mkS_cons (rw := false) ok89 (mkS_nil _)))) follows_ok Try.func30 (by kernel_rfl) (by kernel_rfl) ?_
  intro args h k out hF
  unfold F30 at hF
  split at hF
  · rename_i a n
    refine ⟨_, _, hF, fun real => ⟨noL, noL_ok, ?_⟩⟩
    have h0 := i64r real 0 rfl
    have h1 := u64r real 1 rfl
    have hs := size_le h0
    rw [cf30]
    have put : ∀ {x y : Int}, x = y → some (Res.ret (.int .i64 x) []) = some (Res.ret (.int .i64 y) []) := fun e => by rw [e]
    by_cases hz : a = 0
    · subst hz
      rw [show ((0 : Int) == 0) = true from rfl, cond_true, Int.zero_mul]
      rfl
    · rw [show (a == 0) = false by rw [beq_eq_false_iff_ne]; exact hz, cond_false]
      have sg : ∀ z : Int, signed (decide (a < 0)) (sizeI a * z) = a * z := by
        intro z
        unfold signed sizeI
        by_cases ha : a < 0
        · simp only [ha, decide_true, if_true]
          rw [show (a.natAbs : Int) = -a by omega, Int.neg_mul, Int.neg_neg]
        · simp only [ha, decide_false, Bool.false_eq_true, if_false]
          rw [show (a.natAbs : Int) = a by omega]
      refine dc (fun c => ?_) (fun c => ?_)
      · refine put ?_
        have e : (2 : Int) ^ n.toNat = 18446744073709551616 * 2 ^ (n.toNat - 64) := by
          rw [show (18446744073709551616 : Int) = 2 ^ 64 from rfl, ← Int.pow_add, show 64 + (n.toNat - 64) = n.toNat by omega]
        have pp : (0 : Int) < 2 ^ (n.toNat - 64) := Int.pow_pos (by omega)
        rw [e]
        by_cases ha : a < 0
        · have : a * (18446744073709551616 * 2 ^ (n.toNat - 64)) ≤ (-1) * (18446744073709551616 * 1) := by
            have h9 := Int.mul_le_mul_of_nonneg_left (show (1 : Int) ≤ 2 ^ (n.toNat - 64) by omega) (show (0 : Int) ≤ 18446744073709551616 by omega)
            have h8 := Int.mul_le_mul_of_nonneg_right (show a ≤ -1 by omega) (show (0 : Int) ≤ 18446744073709551616 * 2 ^ (n.toNat - 64) by omega)
            omega
          simp only [signed, ha, decide_true, if_true, hold]
          rw [if_pos (by omega), if_pos (by omega)]
        · have : 18446744073709551616 ≤ a * (18446744073709551616 * 2 ^ (n.toNat - 64)) := by
            have h9 := Int.mul_le_mul_of_nonneg_left (show (1 : Int) ≤ 2 ^ (n.toNat - 64) by omega) (show (0 : Int) ≤ 18446744073709551616 by omega)
            have h8 := Int.mul_le_mul_of_nonneg_right (show 1 ≤ a by omega) (show (0 : Int) ≤ 18446744073709551616 * 2 ^ (n.toNat - 64) by omega)
            omega
          simp only [signed, ha, decide_false, Bool.false_eq_true, if_false, hold]
          rw [if_neg (by omega), if_pos (by omega), if_neg (by omega), if_pos (by omega)]
      · rw [decide_eq_false (show ¬ n < 0 by omega), cond_false]
        refine put ?_
        have e : IntKind.u64.wrap (1 * 2 ^ min n.toNat 64) = 2 ^ n.toNat := by
          rw [Int.one_mul, show min n.toNat 64 = n.toNat by omega]
          refine wu64 (Int.le_of_lt (Int.pow_pos (by omega))) ?_
          rw [show (18446744073709551616 : Int) = 2 ^ 64 from rfl]
          exact Int.pow_lt_pow_of_lt (by omega) (by omega)
        rw [e, show ∀ z : Int, z / 18446744073709551616 * 18446744073709551616 + z % 18446744073709551616 = z by intro z; omega, sg]
  · cases hF
end Go.Proofs.Ytfgehfnlkakioaa.VC

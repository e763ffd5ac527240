/- sample: proved. -/
import Derived.Test.YtfgehfnlkakioaaW1
namespace Go.Proofs.Ytfgehfnlkakioaa.VC
open Go Go.Proofs

theorem chk_eq {p : Prop} [Decidable p] : chk p = decide p := by
  by_cases h : p
  · rw [chk_t h, decide_eq_true h]
  · rw [decide_eq_false h]
    cases hc : chk p with
    | false => rfl
    | true => exact (h (chk_iff.1 hc)).elim
theorem chk_f {p : Prop} (h : ¬ p) : chk p = false := by
  cases hc : chk p with
  | false => rfl
  | true => exact (h (chk_iff.1 hc)).elim
theorem chk_congr {p q : Prop} (h : p ↔ q) : chk p = chk q := by rw [propext h]
theorem bret {a b : Bool} {h : Heap} (e : a = b) : (some (Res.ret (.bool a) h) : Out) = some (.ret (.bool b) h) := by rw [e]

theorem ok103 : EntryOK Try.prog 103 F103 := by
  refine EntryOK.of_fn (mkS_nil _) follows_ok Try.func103 (by kernel_rfl) (by kernel_rfl) ?_
  intro args h k out hF
  unfold F103 at hF
  split at hF
  · rename_i e t b
    refine ⟨_, _, hF, fun _ => ⟨noL, noL_ok, ?_⟩⟩
    refine (cf103 e t b).trans ?_
    unfold readB
    rw [chk_eq]
    have n7 : e ≠ 7 → (e == 7) = false := beq_eq_false_iff_ne.2
    have n9 : e ≠ 9 → (e == 9) = false := beq_eq_false_iff_ne.2
    have n10 : e ≠ 10 → (e == 10) = false := beq_eq_false_iff_ne.2
    have n0 : e ≠ 0 → (e == 0) = false := beq_eq_false_iff_ne.2
    by_cases h7 : e = 7
    · subst h7; simp only [beq_self_eq_true, condT]; exact bret (decide_eq_true (.inl trivial)).symm
    by_cases h9 : e = 9
    · subst h9; rw [n7 h7]; simp only [beq_self_eq_true, condT, condF]; exact bret (decide_eq_true (.inr (.inl trivial))).symm
    by_cases h10 : e = 10
    · subst h10; rw [n7 h7, n9 h9]; simp only [beq_self_eq_true, condT, condF]; exact bret (decide_eq_true (.inr (.inr (.inl trivial)))).symm
    by_cases h0 : e = 0
    · subst h0
      rw [n7 h7, n9 h9, n10 h10]
      simp only [beq_self_eq_true, condT, condF]
      refine dc (fun c1 => dc (fun c2 => dc (fun c3 => bret ?_) (fun c => bret (decide_eq_false (by omega)).symm)) (fun c => bret (decide_eq_false (by omega)).symm)) (fun c => bret (decide_eq_false (by omega)).symm)
      exact decide_eq_decide.2 ⟨fun h => .inr (.inr (.inr ⟨trivial, by omega, by omega, by omega, h⟩)), fun h => by rcases h with h | h | h | h <;> first | exact h.2.2.2.2 | cases h⟩
    · rw [n7 h7, n9 h9, n10 h10, n0 h0]
      simp only [condF]
      exact bret (decide_eq_false (by omega)).symm
  · cases hF
theorem ok104 : EntryOK Try.prog 104 F104 := by
  refine EntryOK.of_fn (mkS_nil _) follows_ok Try.func104 (by kernel_rfl) (by kernel_rfl) ?_
  intro args h k out hF
  unfold F104 at hF
  split at hF
  · rename_i c t e
    refine ⟨_, _, hF, fun _ => ⟨noL, noL_ok, ?_⟩⟩
    refine (cf104 c t e).trans ?_
    unfold sampB
    rw [chk_eq]
    refine dc (fun c1 => dc (fun c2 => dc (fun c3 => dc (fun c4 => bret ?_) (fun c4 => bret ?_)) (fun c3 => bret ?_)) (fun c2 => bret ?_)) (fun c1 => bret ?_)
    · exact decide_eq_decide.2 (by omega)
    all_goals exact (decide_eq_false (by omega)).symm
  · cases hF
theorem S105_ok : SpecOK Try.prog S105 := mkS_cons ok21 (mkS_nil _)
theorem ok105 : EntryOK Try.prog 105 F105 := by
  refine EntryOK.of_fn S105_ok follows_ok Try.func105 (by kernel_rfl) (by kernel_rfl) ?_
  intro args h k out hF
  unfold F105 at hF
  split at hF
  · rename_i f x r c t e
    obtain ⟨hb, hF2⟩ := bif_t hF
    obtain ⟨r1, r2, x1, x2, e1, e2⟩ := chk_iff.1 hb
    refine ⟨_, _, hF2, fun _ => ⟨noL, noL_ok, ?_⟩⟩
    refine (cf105 f x r c t e).trans ?_
    have hm : 0 ≤ x * (2 * r + 1) ∧ x * (2 * r + 1) ≤ 1500000000 * 1001 := ⟨Int.mul_nonneg (by omega) (by omega), Int.mul_le_mul (by omega) (by omega) (by omega) (by omega)⟩
    unfold offB
    rw [chk_eq, swrap (x := 2 * r) (by omega) (by omega), swrap (x := 2 * r + 1) (by omega) (by omega), swrap (x := 2 * e) (by omega) (by omega)]
    unfold upI
    rw [if_neg (by decide)]
    generalize x * (2 * r + 1) = y at *
    rw [hold_id (by omega), swrap (x := _ + 2 * e) (by omega) (by omega), swrap (by omega) (by omega)]
  · cases hF
theorem S61_ok : SpecOK Try.prog S61 := mkS_cons ok25 (mkS_cons ok38 (mkS_cons ok105 (mkS_nil _)))
theorem ok61 : EntryOK Try.prog 61 F61 := by
  refine EntryOK.of_fn S61_ok follows_ok Try.func61 (by kernel_rfl) (by kernel_rfl) ?_
  intro args h k out hF
  unfold F61 at hF
  split at hF
  · rename_i r n cc ct sc st se
    obtain ⟨hb, hF2⟩ := bif_t hF
    have he := chk_iff.1 hb
    refine ⟨_, _, hF2, fun _ => ⟨noL, noL_ok, ?_⟩⟩
    refine (cf61 r n cc ct sc st se).trans ?_
    have hh := hold_rng (st - ct)
    unfold followsB
    generalize hold (st - ct) = u at *
    have hx : ∀ z : Int, (500000000 ≤ hold z ∧ hold z ≤ 1500000000) → hold z = z := fun z h => by
      apply hold_id
      unfold hold at h
      split at h
      · omega
      · split at h <;> omega
    have hy : ¬ (500000000 ≤ hold (sc - cc) ∧ hold (sc - cc) ≤ 1500000000) → ¬ (500000000 ≤ sc - cc ∧ sc - cc ≤ 1500000000) := fun h h2 => h (by rw [hold_id (by omega)]; exact h2)
    refine dc (fun c1 => bret (chk_f (by omega)).symm) (fun c1 => dc (fun c2 => bret (chk_f (by omega)).symm) (fun c2 => dc (fun c3 => bret (chk_f (by omega)).symm) (fun c3 => dc (fun c4 => dc (fun c5 => ?_) (fun c5 => bret (chk_f ?_).symm)) (fun c4 => bret (chk_f ?_).symm))))
    · have ex := hx _ ⟨c4, c5⟩
      rw [ex] at c4 c5
      rw [ex, chk_t (by omega), condT]
      refine bret ?_
      unfold offB
      refine chk_congr ?_
      generalize sc - cc = x at *
      have hm : 0 ≤ x * (2 * r + 1) ∧ x * (2 * r + 1) ≤ 1500000000 * 1001 := ⟨Int.mul_nonneg (by omega) (by omega), Int.mul_le_mul (by omega) (by omega) (by omega) (by omega)⟩
      generalize x * (2 * r + 1) = y at *
      have e1 : hold (sizeI (hold (u - x))) = min ((u - x).natAbs : Int) 9223372036854775807 := by
        unfold sizeI hold
        repeat' split
        all_goals omega
      rw [e1]
      omega
    · have := hy (fun h => c5 h.2); omega
    · have := hy (fun h => c4 h.1); omega
  · cases hF
end Go.Proofs.Ytfgehfnlkakioaa.VC

/- The document's answer for samples: proved. -/
import Derived.Test.YtfgehfnlkakioaaW6
namespace Go.Proofs.Ytfgehfnlkakioaa.VC
open Go Go.Proofs

theorem cmp_le {a b : Int} : decide (cmpZ a b ≤ 0) = decide (a ≤ b) := by
  refine decide_eq_decide.2 ?_
  unfold cmpZ
  split
  · omega
  · split <;> omega
theorem S106_ok : SpecOK Try.prog S106 := mkS_cons ok29 (mkS_cons ok35 (mkS_cons ok36 (mkS_cons ok76 (mkS_nil _))))
theorem ok106 : EntryOK Try.prog 106 F106 := by
  refine EntryOK.of_runs Try.func106 (by kernel_rfl) (by kernel_rfl) ?_
  intro args h k out hF
  unfold F106 at hF
  split at hF
  · rename_i e t b c st se
    refine ⟨_, _, hF, fun real => ⟨ble_true (show Nat.ble 2 Try.f106.ntmps = true by kernel_rfl), ?_⟩⟩
    show RunsTo Try.prog Try.f106 0 (bodyOf Try.f106) _ _ _ _
    have ht : -9223372036854775808 ≤ t ∧ t ≤ 9223372036854775807 := real.agg (i := 0) rfl (j := 1) rfl
    have hb : -9223372036854775808 ≤ b ∧ b ≤ 9223372036854775807 := real.agg (i := 0) rfl (j := 2) rfl
    have hst : -9223372036854775808 ≤ st ∧ st ≤ 9223372036854775807 := real.agg (i := 1) rfl (j := 1) rfl
    have hse : -9223372036854775808 ≤ se ∧ se ≤ 9223372036854775807 := real.agg (i := 1) rfl (j := 2) rfl
    refine RunsTo.piece S106_ok follows_ok (L := noL) (by kernel_rfl) noL_ok (live := [2, 3]) (vs1 := [pt 0, pt 1]) (h1 := [cB e t b, cB c st se]) (cf106p0 e t b c st se) ?_
    refine RunsTo.piece S106_ok follows_ok (L := noL) (by kernel_rfl) noL_ok (live := [3, 5, 6]) (vs1 := [pt 0, pt 1, pt 3]) (h1 := [cB c st se, zC 2 (t - b), zB (t - b), zC 4 (t + b), zB (t + b)]) ?_ ?_
    · refine (cf106p1 e t b c st se).trans ?_
      simp (disch := omega) only [numW_digits, sgn_self, nb4, lb4, ble_self, Bool.and_self, condT]
      rfl
    have hy : (t - b).natAbs ≤ 18446744073709551616 := by omega
    have hz : (t + b).natAbs ≤ 18446744073709551616 := by omega
    generalize hye : t - b = y at *
    generalize hze : t + b = z at *
    refine RunsTo.piece S106_ok follows_ok (L := noL) (by kernel_rfl) noL_ok (live := [5, 6, 7, 8]) (vs1 := [pt 0, pt 2, pt 4, pt 6]) (h1 := [zC 1 y, zB y, zC 3 z, zB z, zC 5 (st - se), zB (st - se), zC 7 (st + se), zB (st + se)]) ?_ ?_
    · refine (cf106p2 c st se y z).trans ?_
      simp (disch := omega) only [numW_digits, sgn_self, nb4, lb4, ble_self, Bool.and_self, condT]
      rfl
    have hu : (st - se).natAbs ≤ 18446744073709551616 := by omega
    have hv : (st + se).natAbs ≤ 18446744073709551616 := by omega
    refine RunsTo.tail S106_ok follows_ok (L := noL) noL_ok ?_
    refine (cf106p3 y z (st - se) (st + se)).trans ?_
    simp (disch := omega) only [numW_digits, sgn_self, nb4, ble_self, Bool.and_self, condT, chkz, cmp_le]
    unfold meetB
    rw [hye, hze]
    refine dc (fun c1 => bret ?_) (fun c1 => bret (chk_f (fun h => c1 h.1)).symm)
    rw [chk_eq]
    exact decide_eq_decide.2 ⟨fun h => ⟨c1, h⟩, fun h => h.2⟩
  · cases hF

theorem be {e a : Int} {α : Type} {x y z : α} (h1 : e = a → x = z) (h2 : e ≠ a → y = z) : (bif e == a then x else y) = z := by
  by_cases h : e = a
  · subst h; rw [beq_self_eq_true, condT]; exact h1 rfl
  · rw [beq_eq_false_iff_ne.2 h, condF]; exact h2 h
theorem mayO_eq {r e t b n sc st se need : Int} : mayO r e t b n sc st se need = chk (1 ≤ r ∧ r ≤ 500 ∧ (e = 7 ∨ e = 9 ∨ e = 10 ∨ (e = 0 ∧ 0 ≤ t ∧ t ≤ 6000000000000000000 ∧ 0 ≤ b ∧ b ≤ 4611686018427387904)) ∧ (0 ≤ sc ∧ 0 ≤ st ∧ st ≤ 6000000000000000000 ∧ 0 ≤ se ∧ se ≤ 1000000000) ∧ 1 ≤ need ∧ need ≤ 100 ∧ 0 ≤ n ∧ n ≤ 1000) :=
  chk_congr ⟨fun ⟨a, b, c, d, e⟩ => ⟨a, b, chk_iff.1 c, chk_iff.1 d, e⟩, fun ⟨a, b, c, d, e⟩ => ⟨a, b, chk_t c, chk_t d, e⟩⟩
noncomputable def F63 : FSpec := fun args h k => match args, h with
  | [.int .i64 r, .agg ⟨[.int .i64 e, .int .i64 t, .int .i64 b]⟩, .agg ⟨[.int .i64 n, .int .i64 _, .int .i64 _]⟩, .agg ⟨[.int .i64 sc, .int .i64 st, .int .i64 se]⟩, .int .i64 need], [] => k (.bool (mayO r e t b n sc st se need)) []
  | _, _ => none
theorem ok63 : EntryOK Try.prog 63 F63 := by
  refine EntryOK.of_fn (mkS_nil _) follows_ok Try.func63 (by kernel_rfl) (by kernel_rfl) ?_
  intro args h k out hF
  unfold F63 at hF
  split at hF
  · rename_i r e t b n cc ct sc st se need
    refine ⟨_, _, hF, fun _ => ⟨noL, noL_ok, ?_⟩⟩
    refine (cf63 r e t b n cc ct sc st se need).trans ?_
    rw [mayO_eq]
    repeat' first | refine be (fun _ => ?_) (fun _ => ?_) | refine dc (fun _ => ?_) (fun _ => ?_)
    all_goals first
      | exact bret (chk_f (by omega)).symm
      | exact bret (by rw [chk_eq]; exact decide_eq_decide.2 (by omega))
  · cases hF
end Go.Proofs.Ytfgehfnlkakioaa.VC

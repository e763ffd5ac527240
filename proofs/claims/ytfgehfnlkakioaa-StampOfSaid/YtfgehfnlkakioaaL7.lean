/- StampSplit, StampBack, StampOf: the laws hold. -/
import Derived.Test.YtfgehfnlkakioaaT5
namespace Go.Proofs.Ytfgehfnlkakioaa.VC
open Go Go.Proofs

theorem S7_ok : SpecOK Try.prog S7 := mkS_cons ok39 (mkS_cons ok40 (mkS_cons ok41 (mkS_nil _)))
def F7 : FSpec := fun args h k => match args, h with
  | [.int .u64 _, .int .i64 _], [] => k (.bool true) []
  | _, _ => none
theorem ok7 : EntryOK Try.prog 7 F7 := by
  refine EntryOK.of_fn S7_ok follows_ok Try.func7 (by kernel_rfl) (by kernel_rfl) ?_
  intro args h k out hF
  unfold F7 at hF
  split at hF
  · exact ⟨_, _, hF, fun _ => ⟨noL, noL_ok, by rw [cf7]; simp only [beq_self_eq_true, condT]⟩⟩
  · cases hF

theorem law8 {s n o : Int} : fnK Try.prog S8 noL Try.f8 [w63 s, w63 n, w63 o] [] = some (.ret (.bool true) []) := by
  rw [cf8]
  refine dc (fun _ => rfl) (fun c1 => dc (fun _ => rfl) (fun c2 => dc (fun _ => rfl) (fun c3 => dc (fun _ => rfl) (fun c4 => dc (fun _ => rfl) (fun c5 => dc (fun _ => rfl) (fun c6 => ?_))))))
  have e0 : (s % 4294967296 * 4294967296 + n * 4294967296 / 1000000000) / 4294967296 = s % 4294967296 := by omega
  have e1 : (s % 4294967296 * 4294967296 + n * 4294967296 / 1000000000) % 4294967296 = n * 4294967296 / 1000000000 := by omega
  have w1 : IntKind.i64.wrap (s + o) = s + o := swrap (by omega) (by omega)
  have w2 : IntKind.i64.wrap (n + 1) = n + 1 := swrap (by omega) (by omega)
  have w3 : IntKind.i64.wrap (n - 15259) = n - 15259 := swrap (by omega) (by omega)
  have hn : nearZ (s + o) (s % 4294967296) = s := by
    unfold nearZ
    simp only
    rw [show (s % 4294967296 - (s + o) + 2147483648) % 4294967296 - 2147483648 = -o by omega]
    repeat' split
    all_goals omega
  have hns : nsZ (n * 4294967296 / 1000000000) = n := by
    unfold nsZ upI
    rw [if_neg (show ¬ (4294967296 : Int) ≤ 0 by decide), hold_id (by omega)]
    split <;> omega
  have hx : 0 ≤ shortZ n ∧ shortZ n ≤ 65536 ∧ shortZ n * 1000000000 / 65536 ≥ n - 15259 ∧ shortZ n * 1000000000 / 65536 + 1 ≥ n ∧ (shortZ n = 0 ∨ (shortZ n - 1) * 1000000000 / 65536 < n) := by
    unfold shortZ
    repeat' split
    all_goals omega
  obtain ⟨x0, x1, x2, x3, x4⟩ := hx
  have w4 : IntKind.i64.wrap (shortZ n * 1000000000 / 65536 + 1) = shortZ n * 1000000000 / 65536 + 1 := swrap (by omega) (by omega)
  have tail : (bif decide (shortZ n * 1000000000 / 65536 ≥ n - 15259) then
                 bif decide (shortZ n * 1000000000 / 65536 + 1 ≥ n) then
                   bif shortZ n == 0 then some (Res.ret (Value.bool true) [])
                   else bif decide (IntKind.u32.wrap (shortZ n - 1) * 1000000000 / 65536 < n) then some (Res.ret (Value.bool true) []) else some (Res.ret (Value.bool false) [])
                 else some (Res.ret (Value.bool false) [])
               else some (Res.ret (Value.bool false) [])) = (some (Res.ret (Value.bool true) []) : Out) := by
    rw [dec_t x2, dec_t x3, condT, condT]
    cases hz : (shortZ n == 0) with
    | true => rw [condT]
    | false =>
      have hz := beq_eq_false_iff_ne.1 hz
      have : (shortZ n - 1) * 1000000000 / 65536 < n := by rcases x4 with h | h; exact (hz h).elim; exact h
      rw [condF, wu32e, show (shortZ n - 1) % 4294967296 = shortZ n - 1 by omega, dec_t this, condT]
  rw [dec_t (show 0 ≤ n by omega), dec_t (show n < 1000000000 by omega)]
  simp only [Bool.and_self, condT, e0, e1, w1, w2, w3, w4, hn, hns, bne_self_eq_false, condF]
  refine dc (fun c => ?_) (fun c => tail)
  rw [dec_t (show 0 ≤ n + 1 by omega), dec_t c]
  simp only [Bool.and_self, condT]
  rw [dec_f (show ¬ s % 4294967296 * 4294967296 + (n + 1) * 4294967296 / 1000000000 ≤ s % 4294967296 * 4294967296 + n * 4294967296 / 1000000000 by omega), condF]
  exact tail
def F8 : FSpec := fun args h k => match args, h with
  | [.int .i64 _, .int .i64 _, .int .i64 _], [] => k (.bool true) []
  | _, _ => none
theorem ok8 : EntryOK Try.prog 8 F8 := by
  refine EntryOK.of_fn S8_ok follows_ok Try.func8 (by kernel_rfl) (by kernel_rfl) ?_
  intro args h k out hF
  unfold F8 at hF
  split at hF
  · exact ⟨_, _, hF, fun _ => ⟨noL, noL_ok, law8⟩⟩
  · cases hF

theorem law9 {s n x : Int} : fnK Try.prog S9 noL Try.f9 [w63 s, w63 n, .int .u32 x] [] = some (.ret (.bool true) []) := by
  rw [cf9]
  cases (decide (0 ≤ n) && decide (n < 1000000000)) <;> simp only [condT, condF, beq_self_eq_true]
def F9 : FSpec := fun args h k => match args, h with
  | [.int .i64 _, .int .i64 _, .int .u32 _], [] => k (.bool true) []
  | _, _ => none
theorem ok9 : EntryOK Try.prog 9 F9 := by
  refine EntryOK.of_fn S9_ok follows_ok Try.func9 (by kernel_rfl) (by kernel_rfl) ?_
  intro args h k out hF
  unfold F9 at hF
  split at hF
  · exact ⟨_, _, hF, fun _ => ⟨noL, noL_ok, law9⟩⟩
  · cases hF
theorem lit_u32 {a : Int} (w : (Lit.int .u32 a).wf = true) : IntKind.u32.min ≤ a ∧ a ≤ IntKind.u32.max := by
  simpa [Lit.wf] using w
end Go.Proofs.Ytfgehfnlkakioaa.VC

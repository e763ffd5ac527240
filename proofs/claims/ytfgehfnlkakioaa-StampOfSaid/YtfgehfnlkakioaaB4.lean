/- math/bits: Add64, which the model stands in for. -/
import Derived.Test.YtfgehfnlkakioaaB3
import Derived.Laws.Externs
namespace Go.Proofs.Ytfgehfnlkakioaa.VC
open Go Go.Proofs

def F116 : FSpec := fun args h k => match args, h with
  | [.int .u64 a, .int .u64 b, .int .u64 c], [] => bif decide (c ≤ 1) then k (.tuple #[.int .u64 ((a + b + c) % 18446744073709551616), .int .u64 ((a + b + c) / 18446744073709551616)]) [] else none
  | _, _ => none

/-- Three numbers. -/
theorem VRs.ints3 {ι : Map} {k1 k2 k3 : IntKind} {a b c : Int} {args' : Array Value} (ha : VRs ι [.int k1 a, .int k2 b, .int k3 c] args'.toList) : args' = #[.int k1 a, .int k2 b, .int k3 c] ∧ (k1.min ≤ a ∧ a ≤ k1.max) ∧ (k2.min ≤ b ∧ b ≤ k2.max) ∧ (k3.min ≤ c ∧ c ≤ k3.max) := by
  obtain ⟨l⟩ := args'
  simp only at ha
  match l, ha with
  | [], ha => simp [VRs] at ha
  | [_], ha => simp [VRs] at ha
  | [_, _], ha => simp [VRs] at ha
  | [x, y, z], ha =>
    obtain ⟨rfl, h1⟩ := ha.head.int_inv
    obtain ⟨rfl, h2⟩ := ha.tail.head.int_inv
    obtain ⟨rfl, h3⟩ := ha.tail.tail.head.int_inv
    exact ⟨rfl, h1, h2, h3⟩
  | _ :: _ :: _ :: _ :: _, ha => simp [VRs] at ha

theorem ok116 : EntryOK Try.prog 116 F116 := by
  intro args h k out hF
  unfold F116 at hF
  split at hF
  · rename_i a b c
    by_cases hc : c ≤ 1
    · rw [decide_eq_true hc] at hF
      refine ⟨_, _, hF, fun ι base w args' hr ha => ?_⟩
      obtain ⟨rfl, ⟨a0, a1⟩, ⟨b0, b1⟩, ⟨c0, c1⟩⟩ := ha.ints3
      have e0 : IntKind.u64.min = 0 := rfl
      have e1 : IntKind.u64.max = 18446744073709551615 := rfl
      rw [e0] at a0 b0 c0
      rw [e1] at a1 b1 c1
      refine .inr ⟨.tuple #[.int .u64 ((a + b + c) % 18446744073709551616), .int .u64 ((a + b + c) / 18446744073709551616)], w, ?_, after_same hr rfl (Still.refl w) ?_ _⟩
      · rw [run_callFunc_extern Try.func116 (by kernel_rfl) (by kernel_rfl) (by kernel_rfl) (e := add64Entry) (by kernel_rfl), run_add64 a b c a0 b0 c0 hc]
        rfl
      · refine .tuple rfl fun i v v' h1 h2 => ?_
        match i with
        | 0 => cases h1; cases h2; exact .int _ _ (by rw [e0, e1]; omega)
        | 1 => cases h1; cases h2; exact .int _ _ (by rw [e0, e1]; omega)
        | i + 2 => simp at h1
    · rw [decide_eq_false hc] at hF; cases hF
  · cases hF
end Go.Proofs.Ytfgehfnlkakioaa.VC

/- sirf: the law of reading back: closed forms. -/
import Derived.Test.YticdglfbgocgmaaM27
namespace Go.Proofs.Yticdglfbgocgmaa.VC
open Go Go.Proofs

noncomputable def inB (fl : List Int) (a : Int) (k : Nat) : Bool := chk (inF fl a k)
theorem inB_0 (fl : List Int) (a : Int) : inB fl a 0 = false := by
  unfold inB
  cases h : chk (inF fl a 0) with
  | false => rfl
  | true => obtain ⟨i, hi, _⟩ := chk_iff.1 h; omega
theorem inB_succ (fl : List Int) (a : Int) (i : Nat) : inB fl a (i + 1) = (inB fl a i || decide (fl.getD (i * 2) 0 ≤ a ∧ a < fl.getD (i * 2) 0 + manyI (fl.getD (i * 2 + 1) 0))) := by
  rw [Bool.eq_iff_iff, Bool.or_eq_true, decide_eq_true_eq]
  unfold inB
  rw [chk_iff, chk_iff]
  constructor
  · rintro ⟨j, hj, h⟩
    by_cases hji : j = i
    · subst hji; exact .inr h
    · exact .inl ⟨j, by omega, h⟩
  · rintro (⟨j, hj, h⟩ | h)
    · exact ⟨j, by omega, h⟩
    · exact ⟨i, by omega, h⟩
theorem loop8 {N : Nat} {bs : List Int} {a x y : Int} {q : Nat} {vs ws fl : List Int} (hq : q ≤ 100) (hf : fldsOK 1000000 fl q) : ∀ (r i : Nat), i + r = q →
    LoopT Try.prog Try.f8.ntmps 1 (loopOf Try.f8 0) (zipS live8 (st8 a q (inB fl a i) ((2 * i : Nat) : Int))) (hp8 N bs x y q vs ws fl) (.exit 0)
      (zipS live8 (st8 a q (inB fl a q) ((2 * q : Nat) : Int))) (hp8 N bs x y q vs ws fl) := by
  intro r
  induction r with
  | zero =>
    intro i hi
    obtain rfl : i = q := by omega
    exact LoopT.last (by intro h; cases h) (CodeT.out (mk0.on _) noL_ok fun on out => r8X a _ i i N bs x y vs ws fl on out)
  | succ r ih =>
    intro i hi
    have e : ((2 * i : Nat) : Int) + 2 = ((2 * (i + 1) : Nat) : Int) := by omega
    have e1 : (((2 * i : Nat) : Int) + 1).toNat = i * 2 + 1 := by omega
    have e2 : 2 * i = i * 2 := by omega
    obtain ⟨f1, f2, f3, f4, f5⟩ := hf i (by omega)
    have hm := manyI_rng ⟨f1, f2⟩
    refine LoopT.step (s1 := zipS live8 (st8 a q (inB fl a (i + 1)) ((2 * (i + 1) : Nat) : Int))) (h1 := hp8 N bs x y q vs ws fl) ?_ (ih (i + 1) (by omega))
    cases hb : inB fl a i with
    | true =>
      refine CodeT.on (live := live8) (S := (mkS []).on [(117, true)]) (mk0.on _) noL_ok fun on out => (r8T a q i N bs x y vs ws fl on out).trans ?_
      rw [inB_succ, hb, Bool.true_or, e]
    | false =>
      by_cases h : a ≥ fl.getD (i * 2) 0
      · refine CodeT.on (live := live8) (S := (mkS []).on [(117, true), (128, true)]) (mk0.on _) noL_ok fun on out => (r8I a q i N bs x y vs ws fl on out (w2 := by rw [e1]; omega) (w3 := by rw [e1, e2]; split <;> omega) (h4 := by rw [e2]; exact h)).trans ?_
        rw [inB_succ, hb, Bool.false_or, e, e1, e2, show (if 0 - fl.getD (i * 2 + 1) 0 > fl.getD (i * 2 + 1) 0 then 0 - fl.getD (i * 2 + 1) 0 else fl.getD (i * 2 + 1) 0) = manyI (fl.getD (i * 2 + 1) 0) from rfl]
        have : decide (fl.getD (i * 2) 0 ≤ a ∧ a < fl.getD (i * 2) 0 + manyI (fl.getD (i * 2 + 1) 0)) = decide (a < fl.getD (i * 2) 0 + manyI (fl.getD (i * 2 + 1) 0)) := by
          rw [Bool.eq_iff_iff, decide_eq_true_eq, decide_eq_true_eq]; omega
        rw [this]
      · refine CodeT.on (live := live8) (S := (mkS []).on [(117, true), (128, false)]) (mk0.on _) noL_ok fun on out => (r8F a q i N bs x y vs ws fl on out (h4 := by rw [e2]; exact h)).trans ?_
        rw [inB_succ, hb, Bool.false_or, e, decide_eq_false (by omega)]
noncomputable def L8f : LF := fun vs h k => match vs, h with
  | [.int .i64 a, .bool false, .pointer (some ⟨1, 0, none⟩), .pointer (some ⟨3, 0, none⟩), .int .i64 0, .slice (some ⟨5, 0, none⟩) K 0, .bool false, .int .i64 0], [some ⟨false, 1, [.ints .u8 N bs]⟩, some ⟨true, 2, [.ints .u8 1 [x], .vals [.slice (some ⟨2, 0, none⟩) q 1]]⟩, some ⟨true, 1, [.ints .i64 q1 us]⟩, some ⟨true, 2, [.ints .u8 1 [y], .vals [.slice (some ⟨4, 0, none⟩) q2 1]]⟩, some ⟨true, 1, [.ints .i64 q3 ws]⟩, some ⟨true, 1, [.ints .i64 K' fl]⟩] =>
    bif chk (q1 = q ∧ q2 = q ∧ q3 = q ∧ K = 2 * q ∧ K' = 2 * q ∧ q ≤ 100 ∧ fldsOK 1000000 fl q) then k (.exit 0) (st8 a q (inB fl a q) ((2 * q : Nat) : Int)) (hp8 N bs x y q us ws fl) else none
  | _, _ => none
noncomputable def L8 : LSpec := oneL 18 live8 L8f
theorem loopOK8 : LoopOK Try.prog Try.f8.ntmps 1 (loopOf Try.f8 0) live8 L8f := by
  refine LoopOK.of_T ?_
  intro vs h k out hk
  unfold L8f at hk
  split at hk
  · obtain ⟨hb, hk2⟩ := bif_t hk
    obtain ⟨rfl, rfl, rfl, rfl, rfl, h6, h7⟩ := chk_iff.1 hb
    refine ⟨_, _, _, hk2, fun real => ?_⟩
    have key := fun N bs a x y vs ws => loop8 (N := N) (bs := bs) (a := a) (x := x) (y := y) (vs := vs) (ws := ws) h6 h7 _ 0 (Nat.zero_add _)
    simp only [inB_0] at key
    exact key _ _ _ _ _ _ _
  · cases hk
theorem loops8 : LoopsOK Try.prog L8 Try.f8.ntmps 1 (bodyOf Try.f8) := loops_one rfl (by kernel_rfl) loopOK8
end Go.Proofs.Yticdglfbgocgmaa.VC

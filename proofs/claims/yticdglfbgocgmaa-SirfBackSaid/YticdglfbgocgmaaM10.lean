/- sirf, the document's: Decode: what it is. -/
import Derived.Test.YticdglfbgocgmaaM9
namespace Go.Proofs.Yticdglfbgocgmaa.VC
open Go Go.Proofs

theorem getL_rev {xs : List Int} {o : Nat} {a s : Int} (hl : (fldB xs o a (manyI s)).length = (manyI s).toNat) : getL (fldB xs o a (manyI s)).reverse 0 0 s = getV xs o a s := by
  have e : fldB (fldB xs o a (manyI s)).reverse 0 0 (manyI s) = (fldB xs o a (manyI s)).reverse := by
    generalize hg : fldB xs o a (manyI s) = l at hl ⊢
    unfold fldB
    rw [show 0 + Int.toNat 0 = 0 from rfl, List.drop_zero, List.take_of_length_le (by rw [List.length_reverse]; omega)]
  unfold getL getV
  rw [e, valL_rev]
theorem okLayRv (len : Nat) (fl : List Int) : EntryOK Try.prog 31 (FLayRv len fl) := okLayR.mono fun args h k out hF => by
  unfold FLayRv at hF
  split at hF
  · obtain ⟨hb, hF⟩ := bif_t hF
    unfold FLayR
    simp only [chk_iff.1 hb]
    exact hF
  · cases hF
theorem okLayRn : EntryOK Try.prog 31 FLayRn := okLayR.mono fun args h k out hF => by
  unfold FLayRn at hF
  split at hF
  · obtain ⟨hb, hF⟩ := bif_t hF
    unfold FLayR
    simp only [chk_iff.1 hb]
    exact hF
  · cases hF
theorem SDecR_ok : SpecOK Try.prog SDecR := mkS_cons okTrn (mkS_cons okGetR (mkS_nil _))
theorem getR_ok {s : Int} {m : Nat} (hm : m = (manyI s).toNat) (h : -4 ≤ s ∧ s ≤ 4) (h0 : s ≠ 0) : -4 ≤ s ∧ s ≤ 4 ∧ s ≠ 0 ∧ (0 : Int) ≤ 0 ∧ 0 + manyI s ≤ m ∧ m ≤ m ∧ m ≤ 1000000 := by
  have := manyI_rng h
  exact ⟨h.1, h.2, h0, Int.le_refl _, by omega, by omega, by omega⟩
theorem loopDr {x : Int} {o n c q N : Nat} {xs fl : List Int} (hq : q ≤ 100) (hf : fldsOK n fl q) (ho : o + n ≤ N) (hN : N ≤ 1000000) (hl : xs.length = N) : ∀ (r i : Nat), i + r = q → 1 ≤ i →
    LoopT Try.prog Try.f25.ntmps 1 (loopOf Try.f25 0) (zipS liveDecR [slo 0 o n c, pt 1, w63 0, sl 2 (2 * q) 0, pt 3, w63 ((2 * i : Nat) : Int)]) [rU N xs, uS 0 (.slice none 0 0), oI (2 * q) fl, uS x (sl 4 i 1), oI i (decV xs o fl i)] (.exit 0)
      (zipS liveDecR [slo 0 o n c, pt 1, w63 0, sl 2 (2 * q) 0, pt 3, w63 ((2 * q : Nat) : Int)]) [rU N xs, uS 0 (.slice none 0 0), oI (2 * q) fl, uS x (sl 4 q 1), oI q (decV xs o fl q)] := by
  intro r
  induction r with
  | zero =>
    intro i hi _
    obtain rfl : i = q := by omega
    exact LoopT.last (by intro h; cases h) (CodeT.out (SDecR_ok.on _) noL_ok fun on out => pDrX x o n c i i N xs _ fl on out)
  | succ r ih =>
    intro i hi h1
    obtain ⟨f1, f2, f3, f4, f5⟩ := hf i (by omega)
    have e1 : (((2 * i : Nat) : Int) + 1).toNat = i * 2 + 1 := by omega
    have e2 : 2 * i = i * 2 := by omega
    have hm := manyI_rng ⟨f1, f2⟩
    have hlen := fld_len (xs := xs) (o := o) (a := fl.getD (i * 2) 0) (m := manyI (fl.getD (i * 2 + 1) 0)) hl (by omega)
    refine LoopT.step (CodeT.on (live := liveDecR) (vs1 := [slo 0 o n c, pt 1, w63 0, sl 2 (2 * q) 0, pt 3, w63 ((2 * (i + 1) : Nat) : Int)]) (h1 := [rU N xs, uS 0 (.slice none 0 0), oI (2 * q) fl, uS x (sl 4 (i + 1) 1), oI (i + 1) (decV xs o fl (i + 1))]) (SDecR_ok.on [(34, true)]) noL_ok fun on out => ?_) (ih (i + 1) (by omega) (by omega))
    refine (pDrR x o n c i q N xs _ fl on out (h7 := by rw [e1, e2]; exact ⟨f1, f2, f3, f4, f5, ho, hN⟩) (h8 := by rw [e1]; exact getR_ok rfl ⟨f1, f2⟩ f3)).trans ?_
    rw [e1, e2, List.take_of_length_le (by rw [decV_len]; exact Nat.le_refl _), getL_rev hlen, show ((2 * (i + 1) : Nat) : Int) = ((i * 2 : Nat) : Int) + 2 by omega]
    rfl
theorem loopOKDr : LoopOK Try.prog Try.f25.ntmps 1 (loopOf Try.f25 0) liveDecR LDrf := by
  refine LoopOK.of_T ?_
  intro vs h k out hk
  unfold LDrf at hk
  split at hk
  · rename_i o n c q N xs Q fl x
    obtain ⟨hb, hk2⟩ := bif_t hk
    obtain ⟨rfl, h2, h3, h4, h5, h6, h7⟩ := chk_iff.1 hb
    refine ⟨_, _, _, hk2, fun real => ?_⟩
    have hs := real.segs (i := 0) rfl rfl _ (List.mem_cons_self ..)
    generalize hq : Q / 2 = q at h2 h3 h4 h5
    subst h2
    obtain ⟨f1, f2, f3, f4, f5⟩ := h5 0 h3
    have hm := manyI_rng ⟨f1, f2⟩
    have hlen := fld_len (xs := xs) (o := o) (a := fl.getD 0 0) (m := manyI (fl.getD 1 0)) hs.1 (by simp only [Nat.zero_mul, Nat.zero_add] at f4 f5 hm; omega)
    refine LoopT.step (CodeT.on (live := liveDecR) (vs1 := [slo 0 o n c, pt 1, w63 0, sl 2 (2 * q) 0, pt 3, w63 ((2 * 1 : Nat) : Int)]) (h1 := [rU N xs, uS 0 (.slice none 0 0), oI (2 * q) fl, uS x (sl 4 1 1), oI 1 (decV xs o fl 1)]) (SDecR_ok.on [(34, true)]) noL_ok fun on out => ?_) (loopDr h4 h5 h6 h7 hs.1 (q - 1) 1 (by omega) (by omega))
    refine (pDrR0 x o n c q N xs fl on out (h5 := ⟨f1, f2, f3, f4, f5, h6, h7⟩) (h6 := getR_ok rfl ⟨f1, f2⟩ f3)).trans ?_
    have e := getL_rev hlen
    rw [e]
    rfl
  · cases hk
theorem loopsDr : LoopsOK Try.prog LDr Try.f25.ntmps 1 (bodyOf Try.f25) := loops_one rfl (by kernel_rfl) loopOKDr
theorem layS_ok {x : Int} {len : Nat} {fl : List Int} (h : layS x = some (len, fl)) : len ≠ 0 ∧ 2 * (fl.length / 2) = fl.length ∧ 0 < fl.length / 2 ∧ fl.length / 2 ≤ 100 ∧ fldsOK len fl (fl.length / 2) ∧ len ≤ 200 := by
  rcases layS_cases h with e | e | e | e | e | e | e | e <;>
  · subst e
    cases h
    exact ⟨by decide, by decide, by decide, by decide, by unfold fldsOK; decide, by decide⟩
theorem okDecR : EntryOK Try.prog 25 FDecS := by
  refine EntryOK.of_paths (fn := Try.f25) follows_ok Try.func25 (by kernel_rfl) (by kernel_rfl) ?_
  intro args h k out hF
  unfold FDecS at hF
  split at hF
  · rename_i o n c N xs
    obtain ⟨hb, hF2⟩ := bif_t hF
    obtain ⟨h1, h2⟩ := chk_iff.1 hb
    split at hF2
    · rename_i hn
      obtain rfl := of_decide_eq_true hn
      exact ⟨_, _, hF2, fun _ => ⟨_, LDr, mk0.on _, loopsDr, pDr0 o c N xs⟩⟩
    · rename_i hn hl
      have hn := of_decide_eq_false hn
      exact ⟨_, _, hF2, fun _ => ⟨_, LDr, SpecOK.on (mkS_cons okLayRn (mkS_nil _)) _, loopsDr, pDrN o n c N xs⟩⟩
    · rename_i len fl hn hl
      have hn := of_decide_eq_false hn
      obtain ⟨g1, g2, g3, g4, g5, g6⟩ := layS_ok hl
      split at hF2
      · rename_i hlen
        have hlen := of_decide_eq_false hlen
        exact ⟨_, _, hF2, fun _ => ⟨_, LDr, SpecOK.on (mkS_cons (okLayRv len fl) (mkS_nil _)) _, loopsDr, pDrF o n c N len xs fl⟩⟩
      · rename_i hlen
        obtain rfl := of_decide_eq_true hlen
        exact ⟨_, _, hF2, fun _ => ⟨_, LDr, SpecOK.on (mkS_cons (okLayRv n fl) (mkS_nil _)) _, loopsDr, pDrK o n c N n xs fl (h7 := ⟨rfl, g2, g3, g4, g5, h1, h2⟩)⟩⟩
  · cases hF
end Go.Proofs.Yticdglfbgocgmaa.VC

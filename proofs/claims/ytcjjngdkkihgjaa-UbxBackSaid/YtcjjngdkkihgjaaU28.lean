/- ubx: the law of reading back. -/
import Derived.Test.YtcjjngdkkihgjaaU27
namespace Go.Proofs.Ytcjjngdkkihgjaa.VC
open Go Go.Proofs

theorem loop5 {N : Nat} {bs : List Int} {a x y x' y' : Int} {q : Nat} {vs ws fl : List Int} (hq : q ≤ 100) (hf : fldsOK 1000000 fl q) : ∀ (r i : Nat), i + r = q →
    LoopT Try.prog Try.f5.ntmps 1 (loopOf Try.f5 0) (zipS live5 (st5 N a q (inU fl a i) ((2 * i : Nat) : Int))) (hp5 N bs x y x' y' q vs ws fl) (.exit 0)
      (zipS live5 (st5 N a q (inU fl a q) ((2 * q : Nat) : Int))) (hp5 N bs x y x' y' q vs ws fl) := by
  intro r
  induction r with
  | zero =>
    intro i hi
    obtain rfl : i = q := by omega
    exact LoopT.last (by intro h; cases h) (CodeT.out (mk0.on _) noL_ok fun on out => r5X a _ i i N bs x y x' y' vs ws fl on out)
  | succ r ih =>
    intro i hi
    have e : ((2 * i : Nat) : Int) + 2 = ((2 * (i + 1) : Nat) : Int) := by omega
    have e1 : (((2 * i : Nat) : Int) + 1).toNat = i * 2 + 1 := by omega
    have e2 : 2 * i = i * 2 := by omega
    obtain ⟨f1, f2, f3, f4, f5⟩ := hf i (by omega)
    have hm := manyI_rng ⟨f1, f2⟩
    refine LoopT.step (s1 := zipS live5 (st5 N a q (inU fl a (i + 1)) ((2 * (i + 1) : Nat) : Int))) (h1 := hp5 N bs x y x' y' q vs ws fl) ?_ (ih (i + 1) (by omega))
    cases hb : inU fl a i with
    | true =>
      refine CodeT.on (live := live5) (S := (mkS []).on [(135, true)]) (mk0.on _) noL_ok fun on out => (r5T a q i N bs x y x' y' vs ws fl on out).trans ?_
      rw [inU_succ, hb, Bool.true_or, e]
    | false =>
      by_cases h : a ≥ fl.getD (i * 2) 0
      · refine CodeT.on (live := live5) (S := (mkS []).on [(135, true), (146, true)]) (mk0.on _) noL_ok fun on out => (r5I a q i N bs x y x' y' vs ws fl on out (w2 := by rw [e1]; omega) (w3 := by rw [e1, e2]; split <;> omega) (h4 := by rw [e2]; exact h)).trans ?_
        rw [inU_succ, hb, Bool.false_or, e, e1, e2, show (if 0 - fl.getD (i * 2 + 1) 0 > fl.getD (i * 2 + 1) 0 then 0 - fl.getD (i * 2 + 1) 0 else fl.getD (i * 2 + 1) 0) = manyI (fl.getD (i * 2 + 1) 0) from rfl]
        have : decide (fl.getD (i * 2) 0 ≤ a ∧ a < fl.getD (i * 2) 0 + manyI (fl.getD (i * 2 + 1) 0)) = decide (a < fl.getD (i * 2) 0 + manyI (fl.getD (i * 2 + 1) 0)) := by
          rw [Bool.eq_iff_iff, decide_eq_true_eq, decide_eq_true_eq]; omega
        rw [this]
      · refine CodeT.on (live := live5) (S := (mkS []).on [(135, true), (146, false)]) (mk0.on _) noL_ok fun on out => (r5F a q i N bs x y x' y' vs ws fl on out (h4 := by rw [e2]; exact h)).trans ?_
        rw [inU_succ, hb, Bool.false_or, e, decide_eq_false (by omega)]
theorem loopOK5 : LoopOK Try.prog Try.f5.ntmps 1 (loopOf Try.f5 0) live5 L5f := by
  refine LoopOK.of_T ?_
  intro vs h k out hk
  unfold L5f at hk
  split at hk
  · obtain ⟨hb, hk2⟩ := bif_t hk
    obtain ⟨rfl, rfl, rfl, rfl, rfl, rfl, rfl, h6, h7⟩ := chk_iff.1 hb
    refine ⟨_, _, _, hk2, fun real => ?_⟩
    have key := fun N bs a x y x' y' vs ws => loop5 (N := N) (bs := bs) (a := a) (x := x) (y := y) (x' := x') (y' := y') (vs := vs) (ws := ws) h6 h7 _ 0 (Nat.zero_add _)
    simp only [inU_0] at key
    exact key _ _ _ _ _ _ _ _ _
  · cases hk
theorem loops5 : LoopsOK Try.prog L5 Try.f5.ntmps 1 (bodyOf Try.f5) := loops_one rfl (by kernel_rfl) loopOK5
theorem okSmB : EntryOK Try.prog 17 FSmB := by
  intro args h k out hF
  unfold FSmB at hF
  split at hF
  · rename_i a b n' c a' b' m' c' n xs m ys
    obtain ⟨hb, hF2⟩ := bif_t hF
    obtain ⟨h1, h2, h3, h4, h5, h6⟩ := chk_iff.1 hb
    by_cases hs : sameTo xs ys n
    · rw [chk_t hs] at hF2
      exact okSmT _ _ k out (go_t (chk_t ⟨h1, h2, h3, h4, h5, h6, hs⟩) hF2)
    · rw [chk_f hs] at hF2
      exact okSmF _ _ k out (go_t (chk_t ⟨h1, h2, h3, h4, h5, h6, hs⟩) hF2)
  · cases hF
theorem okS5 (len : Nat) (fl : List Int) : SpecOK Try.prog (S5 len fl) := mkS_cons (okDecUV fl) (mkS_cons (okPayUK len fl) (mkS_cons (okEnUK len fl) (mkS_cons okSmB (mkS_cons (okLayURv len fl) (mkS_cons okKnU (mkS_nil _))))))
theorem okS5E (e : Int) : SpecOK Try.prog (S5E e) := mkS_cons (okDecUE e) (mkS_cons okKnU (mkS_nil _))
theorem frmU_own {x y : Int} {n : Nat} {b : List Int} (h : b.length = n) : List.take n (List.drop 6 (frmU x y n b)) = b := by
  have e : List.drop 6 (frmU x y n b) = b ++ [(flt (midU x y n b) 0 0).1, (flt (midU x y n b) 0 0).2] := rfl
  rw [e, List.take_left' h]
def F5 : FSpec := fun args h k => match args, h with
  | [.int .u8 _, .int .u8 _, .slice (some ⟨0, 0, none⟩) n 2, .int .i64 _], [some ⟨false, 1, [.ints .u8 N xs]⟩] => bif Nat.beq N n then k (.bool true) [rU N xs] else none
  | _, _ => none
theorem ok5 : EntryOK Try.prog 5 F5 := by
  refine EntryOK.of_paths (fn := Try.f5) follows_ok Try.func5 (by kernel_rfl) (by kernel_rfl) ?_
  intro args h k out hF
  unfold F5 at hF
  split at hF
  · rename_i x y n a N xs
    obtain ⟨hb, hF2⟩ := bif_t hF
    obtain rfl := beq_true hb
    refine ⟨_, _, hF2, fun real => ?_⟩
    have hs := real.segs (i := 0) rfl rfl _ (List.mem_cons_self ..)
    have hl := hs.1
    have hx : isB xs := fun y hy => hs.2 y hy
    have ht : List.take N xs = xs := List.take_of_length_le (by omega)
    by_cases c0 : (N : Int) > 600
    · exact ⟨_, noL, (okS5E 0).on _, noL_ok, p5N x y a N xs⟩
    · by_cases c1 : errU N x y = 0
      · obtain ⟨fl, hfl⟩ := errU_0 c1
        obtain ⟨g1, g2, g3, g4, g5, g6⟩ := layU_ok hfl
        have gd := layU_dis hfl
        obtain ⟨q, hq⟩ : ∃ q, fl.length / 2 = q := ⟨_, rfl⟩
        have hlen : fl.length = 2 * q := by omega
        have key := @p5M x y a N xs fl
        rw [hq] at key g3 g4 g5 gd
        have hw : IntKind.u64.wrap (N : Int) = (N : Int) := by rw [wU64]; omega
        obtain ⟨p, hp, hpN⟩ : ∃ p : Nat, (IntKind.u64.wrap a).tmod (IntKind.u64.wrap (N : Int)) = (p : Int) ∧ p < N := by
          rw [hw, Int.tmod_eq_emod_of_nonneg (by rw [wU64]; omega)]
          have h1 := Int.emod_nonneg (IntKind.u64.wrap a) (show (N : Int) ≠ 0 by omega)
          have h2 := Int.emod_lt_of_pos (IntKind.u64.wrap a) (show (0 : Int) < (N : Int) by omega)
          exact ⟨(IntKind.u64.wrap a % (N : Int)).toNat, by omega, by omega⟩
        have hfit : fitsTo fl (decL xs 0 fl q) q := fun i hi => by
          obtain ⟨f1, f2, f3, f4, f5⟩ := g5 i hi
          have := manyI_rng ⟨f1, f2⟩
          rw [decL_get _ _ _ _ _ hi]
          exact getL_fit ⟨f1, f2⟩ f3 hx (by omega)
        have hol : (payL (List.replicate N 0) fl (decL xs 0 fl q) q).length = N := payL_len (List.length_replicate ..) q g5
        have hsame : sameTo (decL xs 0 fl q) (decL (payL (List.replicate N 0) fl (decL xs 0 fl q) q) 0 fl q) q := fun i hi => by
          rw [decL_get (payL _ _ _ _) _ _ _ _ hi, payL_get (List.length_replicate ..) q g5 gd hfit i hi]
        rw [hp, ht, hlen, Int.toNat_natCast, show ((6 : Int) + (N : Int) - 6).toNat = N by omega] at key
        have hf2 : fldsOK 1000000 fl q := fun i hi => by
          obtain ⟨f1, f2, f3, f4, f5⟩ := g5 i hi
          exact ⟨f1, f2, f3, f4, by omega⟩
        have hstr : ((strOf (List.take N (List.drop 6 (frmU x y N (payL (List.replicate N 0) fl (decL xs 0 fl q) q))))).toList == (strOf (List.take N (payL (List.replicate N 0) fl (decL xs 0 fl q) q))).toList) = true := by
          rw [frmU_own hol, List.take_of_length_le (by omega), beq_self_eq_true]
        exact ⟨_, L5, (okS5 N fl).on _, loops5, key (by omega) (by omega) (by omega) c0 ⟨by omega, by omega, hfl⟩ ⟨hfl, rfl, rfl, hfit⟩ ⟨rfl, rfl, rfl, rfl, rfl, by omega⟩ hsame rfl (by omega) (by omega) (by omega) (by omega) (by omega) (by omega) (by omega) hstr (by rw [hw]; omega)
          (by omega) (by omega) (by omega) (by omega) hfl ⟨rfl, rfl, rfl, rfl, rfl, rfl, rfl, g4, hf2⟩ (setU_law hx hl hpN g5)⟩
      · exact ⟨_, noL, (okS5E _).on _, noL_ok, p5E x y a (errU N x y) N xs (by omega) ⟨by omega, by omega, rfl, c1⟩ c1⟩
  · cases hF
theorem top5 {x y : Int} {n : Nat} {a : Int} {xs : List Int} {k : Value → Heap → Out} : F5 [u8v x, u8v y, sl 0 n 2, w63 a] [rU n xs] k = k (.bool true) [rU n xs] := by
  show (bif Nat.beq n n then k (.bool true) [rU n xs] else none) = _
  rw [beq_t rfl]
  exact condT
end Go.Proofs.Ytcjjngdkkihgjaa.VC

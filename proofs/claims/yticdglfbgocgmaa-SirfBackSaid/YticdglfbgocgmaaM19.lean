/- sirf, the document's: Fits, Payload: what they are. -/
import Derived.Test.YticdglfbgocgmaaM18
namespace Go.Proofs.Yticdglfbgocgmaa.VC
open Go Go.Proofs

theorem okFitR : EntryOK Try.prog 61 FFitR := by
  refine EntryOK.of_paths (fn := Try.f61) follows_ok Try.func61 (by kernel_rfl) (by kernel_rfl) ?_
  intro args h k out hF
  unfold FFitR at hF
  split at hF
  · rename_i v s
    obtain ⟨hb, hF2⟩ := bif_t hF
    obtain ⟨h1, h2, h3⟩ := chk_iff.1 hb
    refine ⟨_, _, hF2, fun _ => ?_⟩
    have hm := manyI_rng ⟨h1, h2⟩
    have hm1 : 1 ≤ manyI s := by unfold manyI; split <;> omega
    have hp := pw_4 hm.2
    have he := pw_even hm1
    by_cases hneg : s < 0
    · have em : IntKind.i64.wrap (0 - s) = manyI s := by rw [swrap (by omega) (by omega)]; unfold manyI; rw [if_pos (by omega)]
      have e1 : IntKind.i64.wrap ((IntKind.i64.wrap (0 - pw256 (manyI s))).tdiv 2) = -(pw256 (manyI s) / 2) := by
        rw [swrap (x := 0 - pw256 (manyI s)) (by omega) (by omega), show (0 - pw256 (manyI s)) = -(2 * (pw256 (manyI s) / 2)) by omega, Int.neg_tdiv, Int.mul_tdiv_cancel_left _ (by decide), swrap (by omega) (by omega)]
      have e2 : IntKind.i64.wrap ((pw256 (manyI s)).tdiv 2) = pw256 (manyI s) / 2 := by rw [Int.tdiv_eq_ediv_of_nonneg (by omega), swrap (by omega) (by omega)]
      have c2 : 0 ≤ manyI s ∧ manyI s ≤ 7 := by omega
      by_cases hv : v ≥ -(pw256 (manyI s) / 2)
      · refine ⟨_, noL, SPow_ok.on _, noL_ok, (cfFitN1 v s).trans ?_⟩
        rw [em, e1, e2]
        refine go_t (dec_t hneg) (go_t (chk_t c2) (go_t (dec_t hv) (go_t (chk_t c2) ?_)))
        have : decide (fitI v s) = decide (v < pw256 (manyI s) / 2) := decide_eq_decide.2 (by unfold fitI; rw [if_pos hneg]; omega)
        rw [this]
      · refine ⟨_, noL, SPow_ok.on _, noL_ok, (cfFitN0 v s).trans ?_⟩
        rw [em, e1]
        refine go_t (dec_t hneg) (go_t (chk_t c2) (go_f (dec_f hv) ?_))
        rw [dec_f (show ¬ fitI v s by unfold fitI; rw [if_pos hneg]; omega)]
    · have em : manyI s = s := by unfold manyI; rw [if_neg (by omega)]
      rw [em] at hp hm
      by_cases hv : v ≥ 0
      · refine ⟨_, noL, SPow_ok.on _, noL_ok, (cfFitP1 v s).trans ?_⟩
        refine go_f (dec_f hneg) (go_t (dec_t hv) (go_t (chk_t ⟨hm.1, by omega⟩) ?_))
        have : decide (fitI v s) = decide (v < pw256 s) := decide_eq_decide.2 (by unfold fitI; rw [if_neg hneg, em]; omega)
        rw [this]
      · refine ⟨_, noL, SPow_ok.on _, noL_ok, (cfFitP0 v s).trans ?_⟩
        refine go_f (dec_f hneg) (go_f (dec_f hv) ?_)
        rw [dec_f (show ¬ fitI v s by unfold fitI; rw [if_neg hneg]; omega)]
  · cases hF
theorem SPrR_ok : SpecOK Try.prog SPrR := mkS_cons okFitR (mkS_nil _)
/-- The last bytes laid ahead of what was laid. -/
theorem putB_cons {xs l : List Int} {a : Nat} {x : Int} (h : a + 1 + l.length ≤ xs.length) : (putB xs (a + 1) l).set a x = putB xs a (x :: l) := by
  unfold putB
  rw [List.set_append_left _ _ (by rw [List.length_take]; omega), List.length_cons, show a + (l.length + 1) = a + 1 + l.length by omega]
  rw [List.take_succ_eq_append_getElem (by omega), List.set_append_right _ _ (by rw [List.length_take]; omega), List.length_take, show a - min a xs.length = 0 by omega, List.set_cons_zero, List.append_assoc]
  rfl
theorem beB_shift (v : Int) (j : Nat) : (v / pw256 j) % 256 = beB v j := by unfold beB pw256; rw [Int.toNat_natCast]
theorem ediv_shift (v : Int) (j : Nat) : v / pw256 j / 256 = v / pw256 ((j + 1 : Nat) : Int) := by
  unfold pw256
  rw [Int.toNat_natCast, Int.toNat_natCast, Int.pow_succ, Int.ediv_ediv_of_nonneg (Int.le_of_lt (Int.pow_pos (by decide)))]
theorem ediv_rng {v p : Int} (hp : 1 ≤ p) (hv : -1000000000000 ≤ v ∧ v ≤ 1000000000000) : -1000000000000 ≤ v / p ∧ v / p ≤ 1000000000000 := by
  have h1 := Int.emod_add_mul_ediv v p
  have h2 := Int.emod_nonneg v (show p ≠ 0 by omega)
  have h3 := Int.emod_lt_of_pos v (show 0 < p by omega)
  constructor
  · rw [Int.le_ediv_iff_mul_le (by omega)]
    have : -1000000000000 * p ≤ -1000000000000 := by
      have : 1000000000000 * 1 ≤ 1000000000000 * p := Int.mul_le_mul_of_nonneg_left hp (by decide)
      omega
    omega
  · have : v / p ≤ 1000000000000 / p ∨ v < 0 := by
      by_cases hv0 : v < 0
      · exact .inr hv0
      · exact .inl (Int.ediv_le_ediv (by omega) hv.2)
    rcases this with h | h
    · have : 1000000000000 / p ≤ 1000000000000 := Int.ediv_le_self _ (by decide)
      omega
    · have := Int.ediv_lt_of_lt_mul (a := v) (b := 0) (c := p) (by omega) (by omega)
      omega
theorem tm_rng (w : Int) : -256 < w.tmod 256 ∧ w.tmod 256 < 256 ∧ w = 256 * w.tdiv 256 + w.tmod 256 := by
  have h1 := Int.tmod_lt_of_pos w (b := 256) (by decide)
  have h2 := Int.lt_tmod_of_pos w (b := 256) (by decide)
  have h3 := Int.mul_tdiv_add_tmod w 256
  omega
theorem tm_neg {w : Int} (h : w.tmod 256 < 0) : w.tmod 256 + 256 = w % 256 := by have := tm_rng w; omega
theorem tm_pos {w : Int} (h : ¬ w.tmod 256 < 0) : w.tmod 256 = w % 256 := by have := tm_rng w; omega
theorem loopPrI {x v : Int} {n q c cc len i k m : Nat} {vs bs fl : List Int} (hm : m ≤ 4) (hi : i < k) (ha : 0 ≤ fl.getD (2 * (i : Int)).toNat 0) (hn : fl.getD (2 * (i : Int)).toNat 0 + m ≤ len) (hlen : len ≤ 1000000) (hk : 2 * k ≤ 1000000) (hv : -1000000000000 ≤ v ∧ v ≤ 1000000000000) (hl : bs.length = len) : ∀ (r j : Nat), r + j = m →
    LoopT Try.prog Try.f28.ntmps 1 inPr (zipS livePrI [pt 1, .slice none 0 0, w63 0, w63 len, sl 2 (2 * k) 0, sl 3 len cc, w63 i, w63 m, w63 (v / pw256 j), w63 ((r : Int) - 1)]) [rI n vs, rS x (sl 0 q c), oI (2 * k) fl, oU len (putB bs ((fl.getD (2 * (i : Int)).toNat 0).toNat + r) (be v j))] (.exit 2)
      (zipS livePrI [pt 1, .slice none 0 0, w63 0, w63 len, sl 2 (2 * k) 0, sl 3 len cc, w63 i, w63 m, w63 (v / pw256 m), w63 (-1)]) [rI n vs, rS x (sl 0 q c), oI (2 * k) fl, oU len (putB bs (fl.getD (2 * (i : Int)).toNat 0).toNat (be v m))] := by
  intro r
  induction r with
  | zero =>
    intro j hj
    obtain rfl : j = m := by omega
    exact LoopT.last (by intro h; cases h) (CodeT.out (mk0.on _) noL_ok fun on out => pPrIX x _ _ _ n q c cc len i k vs _ fl on out)
  | succ r ih =>
    intro j hj
    have hp := pw_4 (n := (j : Int)) (by omega)
    have hr := ediv_rng (v := v) (p := pw256 j) (by omega) hv
    have e0 := beB_shift v j
    have e1 := ediv_shift v j
    have hset : (putB bs ((fl.getD (2 * (i : Int)).toNat 0).toNat + (r + 1)) (be v j)).set ((fl.getD (2 * (i : Int)).toNat 0).toNat + r) (beB v j) = putB bs ((fl.getD (2 * (i : Int)).toNat 0).toNat + r) (be v (j + 1)) :=
      putB_cons (xs := bs) (l := be v j) (a := (fl.getD (2 * (i : Int)).toNat 0).toNat + r) (x := beB v j) (by rw [be_len]; omega)
    generalize v / pw256 (j : Int) = w at hr e0 e1
    refine LoopT.step (CodeT.on (live := livePrI) (vs1 := [pt 1, .slice none 0 0, w63 0, w63 len, sl 2 (2 * k) 0, sl 3 len cc, w63 i, w63 m, w63 (v / pw256 ((j + 1 : Nat) : Int)), w63 ((r : Int) - 1)]) (h1 := [rI n vs, rS x (sl 0 q c), oI (2 * k) fl, oU len (putB bs ((fl.getD (2 * (i : Int)).toNat 0).toNat + r) (be v (j + 1)))]) (S := (mkS []).on [(66, true), (72, decide (w.tmod 256 < 0))]) (mk0.on _) noL_ok fun on out => ?_) (ih (j + 1) (by omega))
    rw [show ((r + 1 : Nat) : Int) - 1 = r by omega]
    have ew : (w - w % 256).tdiv 256 = w / 256 := by
      rw [show w - w % 256 = 256 * (w / 256) by omega, Int.mul_tdiv_cancel_left _ (by decide)]
    have ei : (fl.getD (2 * (i : Int)).toNat 0 + (r : Int)).toNat = (fl.getD (2 * (i : Int)).toNat 0).toNat + r := by omega
    by_cases hneg : w.tmod 256 < 0
    · have et : w.tmod 256 + 256 = w % 256 := tm_neg hneg
      rw [dec_t hneg]
      have hq : -9223372036854775808 ≤ (w - (w.tmod 256 + 256)).tdiv 256 ∧ (w - (w.tmod 256 + 256)).tdiv 256 ≤ 9223372036854775807 := by rw [et, ew]; omega
      refine (pPrI1 x w m r n q c cc len i k vs _ fl on out (w5 := hq)).trans ?_
      rw [et, ew, ei, e1, wU8, Int.emod_emod_of_dvd _ (Int.dvd_refl _), e0, hset]
    · have et : w.tmod 256 = w % 256 := tm_pos hneg
      rw [dec_f hneg]
      have hq : -9223372036854775808 ≤ (w - w.tmod 256).tdiv 256 ∧ (w - w.tmod 256).tdiv 256 ≤ 9223372036854775807 := by rw [et, ew]; omega
      refine (pPrI0 x w m r n q c cc len i k vs _ fl on out (w4 := hq)).trans ?_
      rw [et, ew, ei, e1, wU8, Int.emod_emod_of_dvd _ (Int.dvd_refl _), e0, hset]
end Go.Proofs.Yticdglfbgocgmaa.VC

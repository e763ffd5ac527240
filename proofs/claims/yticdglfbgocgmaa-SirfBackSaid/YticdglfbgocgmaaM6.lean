/- The document's numbers: power, Get: what they are. -/
import Derived.Test.YticdglfbgocgmaaM5
namespace Go.Proofs.Yticdglfbgocgmaa.VC
open Go Go.Proofs

theorem pw_le {n : Int} (h : n ≤ 7) : 0 ≤ pw256 n ∧ pw256 n ≤ 72057594037927936 := ⟨Int.le_of_lt (Int.pow_pos (by decide)), pow_le8 (by omega)⟩
theorem pw_4 {n : Int} (h : n ≤ 4) : 1 ≤ pw256 n ∧ pw256 n ≤ 4294967296 := by
  unfold pw256
  have : (256 : Nat) ^ n.toNat ≤ 256 ^ 4 := Nat.pow_le_pow_right (by decide) (by omega)
  have h1 : 1 ≤ (256 : Nat) ^ n.toNat := Nat.one_le_pow _ _ (by decide)
  have e : ((256 ^ n.toNat : Nat) : Int) = (256 : Int) ^ n.toNat := by simp
  rw [← e]; omega
theorem pw_even {n : Int} (h : 1 ≤ n) : pw256 n % 2 = 0 := by
  unfold pw256
  obtain ⟨q, rfl⟩ := Int.eq_ofNat_of_zero_le (show 0 ≤ n by omega)
  obtain ⟨r, rfl⟩ : ∃ r, q = r + 1 := ⟨q - 1, by omega⟩
  rw [Int.toNat_natCast, Int.pow_succ]; omega
theorem loopPow {n : Nat} (hn : n ≤ 7) : ∀ (r i : Nat), i + r = n → LoopT Try.prog Try.f62.ntmps 0 (loopOf Try.f62 0) (zipS livePow [w63 n, w63 0, w63 (pw256 i), w63 i]) [] (.exit 0) (zipS livePow [w63 n, w63 0, w63 (pw256 n), w63 n]) [] := by
  intro r
  induction r with
  | zero =>
    intro i hi
    obtain rfl : i = n := by omega
    exact LoopT.last (by intro h; cases h) (CodeT.out (mk0.on _) noL_ok fun on out => pPowX _ i i on out)
  | succ r ih =>
    intro i hi
    have hp := pw_le (n := ((i + 1 : Nat) : Int)) (by omega)
    have e : pw256 i * 256 = pw256 ((i + 1 : Nat) : Int) := by unfold pw256; rw [Int.toNat_natCast, Int.toNat_natCast, Int.pow_succ]
    refine LoopT.step (CodeT.on (live := livePow) (vs1 := [w63 n, w63 0, w63 (pw256 ((i + 1 : Nat) : Int)), w63 ((i + 1 : Nat) : Int)]) (h1 := []) (mk0.on [(7, true)]) noL_ok fun on out => (pPow _ n i on out).trans ?_) (ih (i + 1) (by omega))
    rw [e]; rfl
theorem loopOKPow : LoopOK Try.prog Try.f62.ntmps 0 (loopOf Try.f62 0) livePow LPowf := by
  refine LoopOK.of_T ?_
  intro vs h k out hk
  unfold LPowf at hk
  split at hk
  · rename_i n
    obtain ⟨hb, hk2⟩ := bif_t hk
    obtain ⟨h1, h2⟩ := chk_iff.1 hb
    refine ⟨_, _, _, hk2, fun real => ?_⟩
    have := loopPow (n := n.toNat) (by omega) n.toNat 0 (by omega)
    rw [show ((n.toNat : Nat) : Int) = n by omega] at this
    exact this
  · cases hk
theorem loopsPow : LoopsOK Try.prog LPow Try.f62.ntmps 0 (bodyOf Try.f62) := loops_one rfl (by kernel_rfl) loopOKPow
theorem okPow : EntryOK Try.prog 62 FPow := by
  refine EntryOK.of_paths (fn := Try.f62) follows_ok Try.func62 (by kernel_rfl) (by kernel_rfl) ?_
  intro args h k out hF
  unfold FPow at hF
  split at hF
  · rename_i n
    obtain ⟨hb, hF2⟩ := bif_t hF
    obtain ⟨h1, h2⟩ := chk_iff.1 hb
    exact ⟨_, _, hF2, fun _ => ⟨_, LPow, mk0, loopsPow, pPowF n⟩⟩
  · cases hF
theorem SPow_ok : SpecOK Try.prog SPow := mkS_cons okPow (mkS_nil _)
theorem valL_snoc (l : List Int) (x : Int) : valL (l ++ [x]) = valL l + x * pw256 l.length := by
  induction l with
  | nil => simp [valL, pw256]
  | cons y r ih =>
    rw [List.cons_append, valL, ih, valL, List.length_cons]
    have : pw256 ((r.length + 1 : Nat) : Int) = 256 * pw256 r.length := by unfold pw256; rw [Int.toNat_natCast, Int.toNat_natCast, Int.pow_succ, Int.mul_comm]
    rw [this, Int.mul_add, Int.mul_left_comm 256 x]; omega
theorem valL_rev (l : List Int) : valL l.reverse = valB l := by
  induction l with
  | nil => rfl
  | cons y r ih =>
    rw [List.reverse_cons, valL_snoc, ih, List.length_reverse]
    have : ∀ (l : List Int) (v : Int), l.foldl (fun a x => a * 256 + x) v = v * pw256 l.length + l.foldl (fun a x => a * 256 + x) 0 := by
      intro l
      induction l with
      | nil => intro v; simp [pw256]
      | cons z q ih =>
        intro v
        rw [List.foldl_cons, ih, List.foldl_cons, ih (0 * 256 + z), List.length_cons]
        have : pw256 ((q.length + 1 : Nat) : Int) = 256 * pw256 q.length := by unfold pw256; rw [Int.toNat_natCast, Int.toNat_natCast, Int.pow_succ, Int.mul_comm]
        rw [this, Int.add_mul, Int.zero_mul, Int.zero_add, Int.mul_assoc]; omega
    unfold valB
    rw [List.foldl_cons, this r (0 * 256 + y), Int.zero_mul, Int.zero_add]
    omega
theorem valL_lt {l : List Int} (hx : ∀ x ∈ l, 0 ≤ x ∧ x ≤ 255) : 0 ≤ valL l ∧ valL l < pw256 l.length := by
  have h := valB_lt l.length l.reverse (by simp) (fun x h => hx x (by simpa using h))
  rw [← valL_rev, List.reverse_reverse] at h
  exact h
abbrev stGetR (v a s : Int) (o n c m : Nat) (i : Int) : List Value := [slo 0 o n c, w63 a, w63 s, w63 0, w63 m, w63 v, w63 i]
theorem loopGetR {a s : Int} {o n c m N : Nat} {xs : List Int} (ha : 0 ≤ a) (hm : m ≤ 4) (hn : a + m ≤ n) (ho : o + n ≤ N) (hN : N ≤ 1000000) (hl : xs.length = N) (hx : ∀ x ∈ xs, 0 ≤ x ∧ x ≤ 255) : ∀ (r i : Nat), i + r = m →
    LoopT Try.prog Try.f59.ntmps 1 (loopOf Try.f59 0) (zipS liveGetR (stGetR (valL (fldB xs o a i)) a s o n c m i)) [rU N xs] (.exit 0) (zipS liveGetR (stGetR (valL (fldB xs o a m)) a s o n c m m)) [rU N xs] := by
  intro r
  induction r with
  | zero =>
    intro i hi
    obtain rfl : i = m := by omega
    exact LoopT.last (by intro h; cases h) (CodeT.out (SPow_ok.on _) noL_ok fun on out => pGetRX _ a s o n c i i N xs on out)
  | succ r ih =>
    intro i hi
    have ei : o + (a + (i : Int)).toNat = o + a.toNat + i := by omega
    have hb := getD_rng hx (i := o + (a + (i : Int)).toNat) (by omega)
    have hlen := fld_len (xs := xs) (o := o) (a := a) (m := (i : Int)) hl (by omega)
    rw [Int.toNat_natCast] at hlen
    have hv := valL_lt (l := fldB xs o a i) (fld_mem hx)
    rw [hlen] at hv
    have hp := pw_4 (n := (i : Int)) (by omega)
    have e : fldB xs o a ((i + 1 : Nat) : Int) = fldB xs o a i ++ [xs.getD (o + (a + (i : Int)).toNat) 0] := by rw [ei]; exact take_one (by omega)
    have hmul : xs.getD (o + (a + (i : Int)).toNat) 0 * pw256 i ≤ 255 * 4294967296 := Int.mul_le_mul hb.2 hp.2 (by omega) (by decide)
    have hmul0 : 0 ≤ xs.getD (o + (a + (i : Int)).toNat) 0 * pw256 i := Int.mul_nonneg hb.1 (by omega)
    refine LoopT.step (CodeT.on (live := liveGetR) (vs1 := stGetR (valL (fldB xs o a ((i + 1 : Nat) : Int))) a s o n c m ((i + 1 : Nat) : Int)) (h1 := [rU N xs]) (SPow_ok.on [(17, true)]) noL_ok fun on out => ?_) (ih (i + 1) (by omega))
    refine (pGetR (valL (fldB xs o a i)) a s o n c m i N xs on out).trans ?_
    rw [e, valL_snoc, hlen]; rfl
theorem loopOKGetR : LoopOK Try.prog Try.f59.ntmps 1 (loopOf Try.f59 0) liveGetR LGetRf := by
  refine LoopOK.of_T ?_
  intro vs h k out hk
  unfold LGetRf at hk
  split at hk
  · rename_i o n c a s m N xs
    obtain ⟨hb, hk2⟩ := bif_t hk
    obtain ⟨h1, h2, h3, h4, h5, h6⟩ := chk_iff.1 hb
    refine ⟨_, _, _, hk2, fun real => ?_⟩
    have hs := real.segs (i := 0) rfl rfl _ (List.mem_cons_self ..)
    obtain ⟨q, rfl⟩ := Int.eq_ofNat_of_zero_le h2
    exact loopGetR (a := a) (s := s) (o := o) (n := n) (c := c) (m := q) h1 (by omega) (by omega) h5 h6 hs.1 (fun x hx => hs.2 x hx) q 0 (by omega)
  · cases hk
theorem loopsGetR : LoopsOK Try.prog LGetR Try.f59.ntmps 1 (bodyOf Try.f59) := loops_one rfl (by kernel_rfl) loopOKGetR
/-- A field, its lowest byte first. -/
def getL (xs : List Int) (o : Nat) (a s : Int) : Int := if s < 0 then sgnV (manyI s) (valL (fldB xs o a (manyI s))) else valL (fldB xs o a (manyI s))
noncomputable def FGetR : FSpec := fun args h k => match args, h with
  | [.slice (some ⟨0, o, none⟩) n _, .int .i64 a, .int .i64 s], [some ⟨false, 1, [.ints .u8 N xs]⟩] =>
    bif chk (-4 ≤ s ∧ s ≤ 4 ∧ s ≠ 0 ∧ 0 ≤ a ∧ a + manyI s ≤ n ∧ o + n ≤ N ∧ N ≤ 1000000) then k (w63 (getL xs o a s)) [rU N xs] else none
  | _, _ => none
theorem okGetR : EntryOK Try.prog 59 FGetR := by
  refine EntryOK.of_paths (fn := Try.f59) follows_ok Try.func59 (by kernel_rfl) (by kernel_rfl) ?_
  intro args h k out hF
  unfold FGetR at hF
  split at hF
  · rename_i o n c a s N xs
    obtain ⟨hb, hF2⟩ := bif_t hF
    obtain ⟨h1, h2, h3, h4, h5, h6, h7⟩ := chk_iff.1 hb
    refine ⟨_, _, hF2, fun real => ?_⟩
    have hs := real.segs (i := 0) rfl rfl _ (List.mem_cons_self ..)
    have hm := manyI_rng ⟨h1, h2⟩
    have hm1 : 1 ≤ manyI s := by unfold manyI; split <;> omega
    have hlen := fld_len (xs := xs) (o := o) (a := a) (m := manyI s) hs.1 (by omega)
    have hv := valL_lt (l := fldB xs o a (manyI s)) (fld_mem fun x hx => hs.2 x hx)
    rw [hlen, show ((manyI s).toNat : Int) = manyI s by omega] at hv
    have hp := pw_4 hm.2
    have he := pw_even hm1
    by_cases hneg : s < 0
    · have em : IntKind.i64.wrap (0 - s) = manyI s := by rw [swrap (by omega) (by omega)]; unfold manyI; rw [if_pos (by omega)]
      have c1 : 0 ≤ a ∧ 0 ≤ manyI s ∧ manyI s ≤ 4 ∧ a + manyI s ≤ n ∧ o + n ≤ N ∧ N ≤ 1000000 := ⟨h4, hm.1, hm.2, h5, h6, h7⟩
      have c2 : 0 ≤ manyI s ∧ manyI s ≤ 7 := by omega
      have ew : IntKind.i64.wrap ((pw256 (manyI s)).tdiv 2) = pw256 (manyI s) / 2 := by rw [Int.tdiv_eq_ediv_of_nonneg (by omega), swrap (by omega) (by omega)]
      by_cases hbig : valL (fldB xs o a (manyI s)) ≥ pw256 (manyI s) / 2
      · refine ⟨_, LGetR, SPow_ok.on _, loopsGetR, (cfGetRN1 a s o n c N xs).trans ?_⟩
        rw [em, ew]
        refine go_t (dec_t hneg) (go_t (chk_t c1) (go_t (dec_t hneg) (go_t (chk_t c2) (go_t (dec_t hbig) (go_t (chk_t c2) ?_)))))
        unfold getL sgnV
        rw [if_pos hneg, if_pos (show (256 : Int) ^ (manyI s).toNat ≤ 2 * valL (fldB xs o a (manyI s)) by show pw256 (manyI s) ≤ _; omega), swrap (by omega) (by omega)]
        rfl
      · refine ⟨_, LGetR, SPow_ok.on _, loopsGetR, (cfGetRN0 a s o n c N xs).trans ?_⟩
        rw [em, ew]
        refine go_t (dec_t hneg) (go_t (chk_t c1) (go_t (dec_t hneg) (go_t (chk_t c2) (go_f (dec_f hbig) ?_))))
        unfold getL sgnV
        rw [if_pos hneg, if_neg (show ¬ (256 : Int) ^ (manyI s).toNat ≤ 2 * valL (fldB xs o a (manyI s)) by show ¬ pw256 (manyI s) ≤ _; omega)]
    · have em : manyI s = s := by unfold manyI; rw [if_neg (by omega)]
      refine ⟨_, LGetR, SPow_ok.on _, loopsGetR, (cfGetRP a s o n c N xs).trans ?_⟩
      rw [em] at hm h5
      refine go_f (dec_f hneg) (go_t (chk_t ⟨h4, hm.1, hm.2, h5, h6, h7⟩) (go_f (dec_f hneg) ?_))
      unfold getL
      rw [if_neg hneg, em]
  · cases hF
end Go.Proofs.Yticdglfbgocgmaa.VC

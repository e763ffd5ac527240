/- PacketControl: the document's EncodeControl: what it is. -/
import Derived.Test.YtidhpjgebbimdaaDoorKC5
namespace Go.Proofs.YtidhpjgebbimdaaDoor.VC
open Go Go.Proofs

theorem enc0 (t : Ct) (xs : List Int) : encC t 0 xs = [t.v * 8 + 6, ctF t, t.sq / 256 % 256, t.sq % 256, t.st / 256 % 256, t.st % 256, t.ac / 256 % 256, t.ac % 256, t.oc / 256 % 256, t.oc % 256, 0, 0] := by
  show padL (hdC t 0 ++ []) 12 = _
  rw [List.append_nil]
  show hdC t 0 ++ [] = _
  rw [List.append_nil]
  rfl
abbrev pathEr : List (Nat × Bool) := [(12, false), (17, false), (20, false)]

theorem erP {t : Ct} (hr : CtR t) {n c : Nat} {xs : List Int} (hok : ctOK t n) (hn : 0 < n) : fnK Tryd.prog (SErc.on pathEr) LErP Tryd.f6 [ctv t (sl 0 n c)] [rU n xs] = some (.ret (.tuple #[sl 1 (up4 (12 + n)) 1, w63 0]) [rU n xs, oU (up4 (12 + n)) (encC t n xs)]) := by
  obtain ⟨v, op, r, e, m, sq, st, ac, oc⟩ := t
  obtain ⟨h1, h2, h3⟩ := hok
  have hv : 0 ≤ v ∧ v ≤ 7 := ⟨hr.v.1, h1⟩
  have ho : 0 ≤ op ∧ op ≤ 31 := ⟨hr.op.1, h2⟩
  have q1 : IntKind.u64.wrap sq = sq := w64s hr.sq
  have q2 : IntKind.u64.wrap st = st := w64s hr.st
  have q3 : IntKind.u64.wrap ac = ac := w64s hr.ac
  have q4 : IntKind.u64.wrap oc = oc := w64s hr.oc
  have b0 : IntKind.u8.wrap (IntKind.u8.wrap (v * 8) + 6) = v * 8 + 6 := by rw [wU8, wU8]; omega
  have q5 : IntKind.u64.wrap (n : Int) = n := w64s (by omega)
  cases r <;> cases e <;> cases m
  · have b1 : op = ctF ⟨v, op, false, false, false, sq, st, ac, oc⟩ := by show op = (0 : Int) + 0 + 0 + op; omega
    refine (pErFFFP v op sq st ac oc n c n xs (h12 := blt_t hn)).trans ?_
    rw [b0, q1, q2, q3, q4, q5]
    simp only [ctF, condF, Int.zero_add, encC, hdC]
    try rfl
  · have b1 : IntKind.u8.wrap (op + 32) = ctF ⟨v, op, false, false, true, sq, st, ac, oc⟩ := by rw [wU8]; show _ = (0 : Int) + 0 + 32 + op; omega
    refine (pErFFTP v op sq st ac oc n c n xs (h12 := blt_t hn)).trans ?_
    rw [b0, q1, q2, q3, q4, q5, b1]
    try rfl
  · have b1 : IntKind.u8.wrap (op + 64) = ctF ⟨v, op, false, true, false, sq, st, ac, oc⟩ := by rw [wU8]; show _ = (0 : Int) + 64 + 0 + op; omega
    refine (pErFTFP v op sq st ac oc n c n xs (h12 := blt_t hn)).trans ?_
    rw [b0, q1, q2, q3, q4, q5, b1]
    try rfl
  · have b1 : IntKind.u8.wrap (IntKind.u8.wrap (op + 64) + 32) = ctF ⟨v, op, false, true, true, sq, st, ac, oc⟩ := by rw [wU8, wU8]; show _ = (0 : Int) + 64 + 32 + op; omega
    refine (pErFTTP v op sq st ac oc n c n xs (h12 := blt_t hn)).trans ?_
    rw [b0, q1, q2, q3, q4, q5, b1]
    try rfl
  · have b1 : IntKind.u8.wrap (op + 128) = ctF ⟨v, op, true, false, false, sq, st, ac, oc⟩ := by rw [wU8]; show _ = (128 : Int) + 0 + 0 + op; omega
    refine (pErTFFP v op sq st ac oc n c n xs (h12 := blt_t hn)).trans ?_
    rw [b0, q1, q2, q3, q4, q5, b1]
    try rfl
  · have b1 : IntKind.u8.wrap (IntKind.u8.wrap (op + 128) + 32) = ctF ⟨v, op, true, false, true, sq, st, ac, oc⟩ := by rw [wU8, wU8]; show _ = (128 : Int) + 0 + 32 + op; omega
    refine (pErTFTP v op sq st ac oc n c n xs (h12 := blt_t hn)).trans ?_
    rw [b0, q1, q2, q3, q4, q5, b1]
    try rfl
  · have b1 : IntKind.u8.wrap (IntKind.u8.wrap (op + 128) + 64) = ctF ⟨v, op, true, true, false, sq, st, ac, oc⟩ := by rw [wU8, wU8]; show _ = (128 : Int) + 64 + 0 + op; omega
    refine (pErTTFP v op sq st ac oc n c n xs (h12 := blt_t hn)).trans ?_
    rw [b0, q1, q2, q3, q4, q5, b1]
    try rfl
  · have b1 : IntKind.u8.wrap (IntKind.u8.wrap (IntKind.u8.wrap (op + 128) + 64) + 32) = ctF ⟨v, op, true, true, true, sq, st, ac, oc⟩ := by rw [wU8, wU8, wU8]; show _ = (128 : Int) + 64 + 32 + op; omega
    refine (pErTTTP v op sq st ac oc n c n xs (h12 := blt_t hn)).trans ?_
    rw [b0, q1, q2, q3, q4, q5, b1]
    try rfl
theorem erN {t : Ct} (hr : CtR t) {N : Nat} {xs : List Int} (hok : ctOK t 0) : fnK Tryd.prog (SErc.on pathEr) LErN Tryd.f6 [ctv t (.slice none 0 0)] [rU N xs] = some (.ret (.tuple #[sl 1 12 0, w63 0]) [rU N xs, oU 12 (encC t 0 xs)]) := by
  obtain ⟨v, op, r, e, m, sq, st, ac, oc⟩ := t
  obtain ⟨h1, h2, h3⟩ := hok
  have hv : 0 ≤ v ∧ v ≤ 7 := ⟨hr.v.1, h1⟩
  have ho : 0 ≤ op ∧ op ≤ 31 := ⟨hr.op.1, h2⟩
  have q1 : IntKind.u64.wrap sq = sq := w64s hr.sq
  have q2 : IntKind.u64.wrap st = st := w64s hr.st
  have q3 : IntKind.u64.wrap ac = ac := w64s hr.ac
  have q4 : IntKind.u64.wrap oc = oc := w64s hr.oc
  have b0 : IntKind.u8.wrap (IntKind.u8.wrap (v * 8) + 6) = v * 8 + 6 := by rw [wU8, wU8]; omega
  rw [enc0]
  cases r <;> cases e <;> cases m
  · have b1 : op = ctF ⟨v, op, false, false, false, sq, st, ac, oc⟩ := by show op = (0 : Int) + 0 + 0 + op; omega
    refine (pErFFFN v op sq st ac oc N xs).trans ?_
    rw [b0, q1, q2, q3, q4]
    simp only [ctF, condF, Int.zero_add, encC, hdC]
    try rfl
  · have b1 : IntKind.u8.wrap (op + 32) = ctF ⟨v, op, false, false, true, sq, st, ac, oc⟩ := by rw [wU8]; show _ = (0 : Int) + 0 + 32 + op; omega
    refine (pErFFTN v op sq st ac oc N xs).trans ?_
    rw [b0, q1, q2, q3, q4, b1]
    try rfl
  · have b1 : IntKind.u8.wrap (op + 64) = ctF ⟨v, op, false, true, false, sq, st, ac, oc⟩ := by rw [wU8]; show _ = (0 : Int) + 64 + 0 + op; omega
    refine (pErFTFN v op sq st ac oc N xs).trans ?_
    rw [b0, q1, q2, q3, q4, b1]
    try rfl
  · have b1 : IntKind.u8.wrap (IntKind.u8.wrap (op + 64) + 32) = ctF ⟨v, op, false, true, true, sq, st, ac, oc⟩ := by rw [wU8, wU8]; show _ = (0 : Int) + 64 + 32 + op; omega
    refine (pErFTTN v op sq st ac oc N xs).trans ?_
    rw [b0, q1, q2, q3, q4, b1]
    try rfl
  · have b1 : IntKind.u8.wrap (op + 128) = ctF ⟨v, op, true, false, false, sq, st, ac, oc⟩ := by rw [wU8]; show _ = (128 : Int) + 0 + 0 + op; omega
    refine (pErTFFN v op sq st ac oc N xs).trans ?_
    rw [b0, q1, q2, q3, q4, b1]
    try rfl
  · have b1 : IntKind.u8.wrap (IntKind.u8.wrap (op + 128) + 32) = ctF ⟨v, op, true, false, true, sq, st, ac, oc⟩ := by rw [wU8, wU8]; show _ = (128 : Int) + 0 + 32 + op; omega
    refine (pErTFTN v op sq st ac oc N xs).trans ?_
    rw [b0, q1, q2, q3, q4, b1]
    try rfl
  · have b1 : IntKind.u8.wrap (IntKind.u8.wrap (op + 128) + 64) = ctF ⟨v, op, true, true, false, sq, st, ac, oc⟩ := by rw [wU8, wU8]; show _ = (128 : Int) + 64 + 0 + op; omega
    refine (pErTTFN v op sq st ac oc N xs).trans ?_
    rw [b0, q1, q2, q3, q4, b1]
    try rfl
  · have b1 : IntKind.u8.wrap (IntKind.u8.wrap (IntKind.u8.wrap (op + 128) + 64) + 32) = ctF ⟨v, op, true, true, true, sq, st, ac, oc⟩ := by rw [wU8, wU8, wU8]; show _ = (128 : Int) + 64 + 32 + op; omega
    refine (pErTTTN v op sq st ac oc N xs).trans ?_
    rw [b0, q1, q2, q3, q4, b1]
    try rfl
theorem erZ {t : Ct} (hr : CtR t) {N : Nat} {xs : List Int} (hok : ctOK t 0) : fnK Tryd.prog (SErc.on pathEr) LErN Tryd.f6 [ctv t (.slice (some ⟨0, 0, some 0⟩) 0 0)] [rU N xs] = some (.ret (.tuple #[sl 1 12 0, w63 0]) [rU N xs, oU 12 (encC t 0 xs)]) := by
  obtain ⟨v, op, r, e, m, sq, st, ac, oc⟩ := t
  obtain ⟨h1, h2, h3⟩ := hok
  have hv : 0 ≤ v ∧ v ≤ 7 := ⟨hr.v.1, h1⟩
  have ho : 0 ≤ op ∧ op ≤ 31 := ⟨hr.op.1, h2⟩
  have q1 : IntKind.u64.wrap sq = sq := w64s hr.sq
  have q2 : IntKind.u64.wrap st = st := w64s hr.st
  have q3 : IntKind.u64.wrap ac = ac := w64s hr.ac
  have q4 : IntKind.u64.wrap oc = oc := w64s hr.oc
  have b0 : IntKind.u8.wrap (IntKind.u8.wrap (v * 8) + 6) = v * 8 + 6 := by rw [wU8, wU8]; omega
  rw [enc0]
  cases r <;> cases e <;> cases m
  · have b1 : op = ctF ⟨v, op, false, false, false, sq, st, ac, oc⟩ := by show op = (0 : Int) + 0 + 0 + op; omega
    refine (pErFFFZ v op sq st ac oc N xs).trans ?_
    rw [b0, q1, q2, q3, q4]
    simp only [ctF, condF, Int.zero_add, encC, hdC]
    try rfl
  · have b1 : IntKind.u8.wrap (op + 32) = ctF ⟨v, op, false, false, true, sq, st, ac, oc⟩ := by rw [wU8]; show _ = (0 : Int) + 0 + 32 + op; omega
    refine (pErFFTZ v op sq st ac oc N xs).trans ?_
    rw [b0, q1, q2, q3, q4, b1]
    try rfl
  · have b1 : IntKind.u8.wrap (op + 64) = ctF ⟨v, op, false, true, false, sq, st, ac, oc⟩ := by rw [wU8]; show _ = (0 : Int) + 64 + 0 + op; omega
    refine (pErFTFZ v op sq st ac oc N xs).trans ?_
    rw [b0, q1, q2, q3, q4, b1]
    try rfl
  · have b1 : IntKind.u8.wrap (IntKind.u8.wrap (op + 64) + 32) = ctF ⟨v, op, false, true, true, sq, st, ac, oc⟩ := by rw [wU8, wU8]; show _ = (0 : Int) + 64 + 32 + op; omega
    refine (pErFTTZ v op sq st ac oc N xs).trans ?_
    rw [b0, q1, q2, q3, q4, b1]
    try rfl
  · have b1 : IntKind.u8.wrap (op + 128) = ctF ⟨v, op, true, false, false, sq, st, ac, oc⟩ := by rw [wU8]; show _ = (128 : Int) + 0 + 0 + op; omega
    refine (pErTFFZ v op sq st ac oc N xs).trans ?_
    rw [b0, q1, q2, q3, q4, b1]
    try rfl
  · have b1 : IntKind.u8.wrap (IntKind.u8.wrap (op + 128) + 32) = ctF ⟨v, op, true, false, true, sq, st, ac, oc⟩ := by rw [wU8, wU8]; show _ = (128 : Int) + 0 + 32 + op; omega
    refine (pErTFTZ v op sq st ac oc N xs).trans ?_
    rw [b0, q1, q2, q3, q4, b1]
    try rfl
  · have b1 : IntKind.u8.wrap (IntKind.u8.wrap (op + 128) + 64) = ctF ⟨v, op, true, true, false, sq, st, ac, oc⟩ := by rw [wU8, wU8]; show _ = (128 : Int) + 64 + 0 + op; omega
    refine (pErTTFZ v op sq st ac oc N xs).trans ?_
    rw [b0, q1, q2, q3, q4, b1]
    try rfl
  · have b1 : IntKind.u8.wrap (IntKind.u8.wrap (IntKind.u8.wrap (op + 128) + 64) + 32) = ctF ⟨v, op, true, true, true, sq, st, ac, oc⟩ := by rw [wU8, wU8, wU8]; show _ = (128 : Int) + 64 + 32 + op; omega
    refine (pErTTTZ v op sq st ac oc N xs).trans ?_
    rw [b0, q1, q2, q3, q4, b1]
    try rfl
/-- Data of a control packet told in another way. -/
theorem VR.agg_set {ι : Map} {l : List Value} {cs' : Array Value} {j : Nat} {x : Value} (h1 : l.length = cs'.size) (h2 : ∀ (i : Nat) (v v' : Value), l[i]? = some v → cs'[i]? = some v' → VR ι v v') (hx : ∀ v', cs'[j]? = some v' → VR ι x v') : VR ι (.agg ⟨l.set j x⟩) (.agg cs') := by
  refine .agg (by simp [h1]) fun i v v' a b => ?_
  have a : (l.set j x)[i]? = some v := by simpa using a
  by_cases e : j = i
  · subst e
    have hlt : j < l.length := by
      have := (List.getElem?_eq_some_iff.1 a).1
      simpa using this
    rw [List.getElem?_set_self hlt] at a
    cases a
    exact hx v' b
  · rw [List.getElem?_set_ne e] at a
    exact h2 i v v' a b
theorem okCr : EntryOK Tryd.prog 6 FCt := by
  intro args h k out hF
  unfold FCt at hF
  split at hF
  · rename_i v op r e m sq st ac oc n c N xs
    obtain ⟨hb, hF2⟩ := bif_t hF
    obtain ⟨rfl, hok⟩ := chk_iff.1 hb
    refine ⟨_, _, hF2, ?_⟩
    intro ι base w args' hr ha
    have real : RealA [ctv ⟨v, op, r, e, m, sq, st, ac, oc⟩ (sl 0 n c)] [rU n xs] := ⟨ι, base, w, args'.toList, hr, ha⟩
    have hct := real_ct real
    by_cases hn : n = 0
    · subst hn
      have cN := (call_of (fn := Tryd.f6) (SErc_ok.on _) Tryd.func6 (by kernel_rfl) (by kernel_rfl) loopsErN (erN hct (N := 0) (xs := xs) hok)).weak weakCap
      have cZ := (call_of (fn := Tryd.f6) (SErc_ok.on _) Tryd.func6 (by kernel_rfl) (by kernel_rfl) loopsErN (erZ hct (N := 0) (xs := xs) hok)).weak weakCap
      obtain ⟨l⟩ := args'
      match l, ha with
      | [a], ha =>
        obtain ⟨cs', rfl, h1, h2⟩ := ha.head.agg_inv
        have h9 : 9 < cs'.size := by rw [← h1]; show 9 < 10; decide
        have hv9 := h2 9 _ _ rfl (Array.getElem?_eq_getElem h9)
        have h2' : ∀ (i : Nat) (v2 v' : Value), ([u8v v, u8v op, .bool r, .bool e, .bool m, u16v sq, u16v st, u16v ac, u16v oc, sl 0 0 c] : List Value)[i]? = some v2 → cs'[i]? = some v' → VR ι v2 v' := fun i v2 v' a b => h2 i v2 v' (by simpa using a) b
        have put : ∀ x : Value, VR ι x cs'[9] → VR ι (ctv ⟨v, op, r, e, m, sq, st, ac, oc⟩ x) (.agg cs') := fun x hx => VR.agg_set (j := 9) (x := x) (l := [u8v v, u8v op, .bool r, .bool e, .bool m, u16v sq, u16v st, u16v ac, u16v oc, sl 0 0 c]) (by simpa using h1) h2' fun v' hv' => by
          rw [Array.getElem?_eq_getElem h9] at hv'; cases hv'; exact hx
        rcases hv9.sl_inv with ⟨ad, _, e9⟩ | ⟨lc, c', _, _, _, _, _, e9⟩
        · cases ad with
          | none => exact cN ι base w _ hr (VRs.cons (put _ (by rw [e9]; exact .slNil)) VRs.nil)
          | some ad => exact cZ ι base w _ hr (VRs.cons (put _ (by rw [e9]; exact .slNN ad 0)) VRs.nil)
        · exact cZ ι base w _ hr (VRs.cons (put _ (by rw [e9]; exact .slNN _ c')) VRs.nil)
      | [], ha => simp [VRs] at ha
      | _ :: _ :: _, ha => simp [VRs] at ha
    · exact (call_of (fn := Tryd.f6) (SErc_ok.on _) Tryd.func6 (by kernel_rfl) (by kernel_rfl) loopsErP (erP hct hok (by omega))).weak weakCap ι base w args' hr ha
  · cases hF
end Go.Proofs.YtidhpjgebbimdaaDoor.VC

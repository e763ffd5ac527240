/- sirf, the document's: turned, Layout: what they are; Decode: closed forms. -/
import Derived.Test.YticdglfbgocgmaaM7
namespace Go.Proofs.Yticdglfbgocgmaa.VC
open Go Go.Proofs

theorem drop_rev {l : List Int} {i : Nat} (h : i < l.length) : (l.drop (i + 1)).reverse ++ [l.getD i 0] = (l.drop i).reverse := by
  rw [List.drop_eq_getElem_cons h, List.reverse_cons, List.getD_eq_getElem?_getD, List.getElem?_eq_getElem h]; rfl
theorem fld_get {xs : List Int} {o : Nat} {a m : Int} {i : Nat} (hi : i < m.toNat) : (fldB xs o a m).getD i 0 = xs.getD (o + a.toNat + i) 0 := by
  unfold fldB
  rw [List.getD_eq_getElem?_getD, List.getD_eq_getElem?_getD, List.getElem?_take_of_lt hi, List.getElem?_drop]
theorem loopTrn {a m : Int} {o n c N : Nat} {xs : List Int} (ha : 0 ≤ a) (hm : m ≤ 4) (hn : a + m ≤ n) (ho : o + n ≤ N) (hN : N ≤ 1000000) (hl : xs.length = N) : ∀ (i q : Nat), i + q = m → 1 ≤ q →
    LoopT Try.prog Try.f67.ntmps 1 (loopOf Try.f67 0) (zipS liveTrn [slo 0 o n c, w63 a, w63 m, .slice none 0 0, sl 1 q 1, w63 ((i : Int) - 1)]) [rU N xs, oU q ((fldB xs o a m).drop i).reverse] (.exit 0)
      (zipS liveTrn [slo 0 o n c, w63 a, w63 m, .slice none 0 0, sl 1 m.toNat 1, w63 (-1)]) [rU N xs, oU m.toNat (fldB xs o a m).reverse] := by
  intro i
  induction i with
  | zero =>
    intro q hq h1
    obtain rfl : q = m.toNat := by omega
    exact LoopT.last (by intro h; cases h) (CodeT.out (mk0.on _) noL_ok fun on out => pTrnX a m o n c m.toNat N xs _ on out)
  | succ i ih =>
    intro q hq h1
    have hlen := fld_len (xs := xs) (o := o) (a := a) (m := m) hl (by omega)
    have e := fld_get (xs := xs) (o := o) (a := a) (m := m) (i := i) (by omega)
    have e2 := drop_rev (l := fldB xs o a m) (i := i) (by omega)
    have hdl : ((fldB xs o a m).drop (i + 1)).reverse.length = q := by rw [List.length_reverse, List.length_drop]; omega
    refine LoopT.step (CodeT.on (live := liveTrn) (vs1 := [slo 0 o n c, w63 a, w63 m, .slice none 0 0, sl 1 (q + 1) 1, w63 ((i : Int) - 1)]) (h1 := [rU N xs, oU (q + 1) ((fldB xs o a m).drop i).reverse]) (mk0.on [(16, true)]) noL_ok fun on out => ?_) (ih (q + 1) (by omega) (by omega))
    rw [show ((i + 1 : Nat) : Int) - 1 = i by omega]
    refine (pTrn a m o n c i q N xs _ on out).trans ?_
    rw [List.take_of_length_le (by omega), show o + (a + (i : Int)).toNat = o + a.toNat + i by omega, ← e, e2]
theorem loopOKTrn : LoopOK Try.prog Try.f67.ntmps 1 (loopOf Try.f67 0) liveTrn LTrnf := by
  refine LoopOK.of_T ?_
  intro vs h k out hk
  unfold LTrnf at hk
  split at hk
  · rename_i o n c a m i N xs
    obtain ⟨hb, hk2⟩ := bif_t hk
    obtain ⟨h1, h2, h3, h4, h5, h6, h7⟩ := chk_iff.1 hb
    refine ⟨_, _, _, hk2, fun real => ?_⟩
    have hs := real.segs (i := 0) rfl rfl _ (List.mem_cons_self ..)
    have hlen := fld_len (xs := xs) (o := o) (a := a) (m := m) hs.1 (by omega)
    obtain ⟨q, rfl⟩ : ∃ q : Nat, m = (q + 1 : Nat) := ⟨(m - 1).toNat, by omega⟩
    obtain rfl : i = (q : Int) := by omega
    have e := fld_get (xs := xs) (o := o) (a := a) (m := ((q + 1 : Nat) : Int)) (i := q) (by omega)
    have e2 := drop_rev (l := fldB xs o a ((q + 1 : Nat) : Int)) (i := q) (by omega)
    rw [List.drop_eq_nil_of_le (by omega), List.reverse_nil, List.nil_append] at e2
    refine LoopT.step (CodeT.on (live := liveTrn) (vs1 := [slo 0 o n c, w63 a, w63 ((q + 1 : Nat) : Int), .slice none 0 0, sl 1 1 1, w63 ((q : Int) - 1)]) (h1 := [rU N xs, oU 1 ((fldB xs o a ((q + 1 : Nat) : Int)).drop q).reverse]) (mk0.on [(16, true)]) noL_ok fun on out => ?_) (loopTrn h1 (by omega) (by omega) h5 h6 hs.1 q 1 (by omega) (by omega))
    refine (pTrn0 a _ o n c q N xs on out).trans ?_
    rw [show o + (a + (q : Int)).toNat = o + a.toNat + q by omega, ← e, e2]
  · cases hk
theorem loopsTrn : LoopsOK Try.prog LTrn Try.f67.ntmps 1 (bodyOf Try.f67) := loops_one rfl (by kernel_rfl) loopOKTrn
noncomputable def FTrn : FSpec := fun args h k => match args, h with
  | [.slice (some ⟨0, o, none⟩) n _, .int .i64 a, .int .i64 s], [some ⟨false, 1, [.ints .u8 N xs]⟩] =>
    bif chk (-4 ≤ s ∧ s ≤ 4 ∧ s ≠ 0 ∧ 0 ≤ a ∧ a + manyI s ≤ n ∧ o + n ≤ N ∧ N ≤ 1000000) then k (sl 1 (manyI s).toNat 1) [rU N xs, oU (manyI s).toNat (fldB xs o a (manyI s)).reverse] else none
  | _, _ => none
theorem okTrn : EntryOK Try.prog 67 FTrn := by
  refine EntryOK.of_paths (fn := Try.f67) follows_ok Try.func67 (by kernel_rfl) (by kernel_rfl) ?_
  intro args h k out hF
  unfold FTrn at hF
  split at hF
  · rename_i o n c a s N xs
    obtain ⟨hb, hF2⟩ := bif_t hF
    obtain ⟨h1, h2, h3, h4, h5, h6, h7⟩ := chk_iff.1 hb
    refine ⟨_, _, hF2, fun real => ?_⟩
    have hm := manyI_rng ⟨h1, h2⟩
    have hm1 : 1 ≤ manyI s := by unfold manyI; split <;> omega
    by_cases hneg : s < 0
    · have em : IntKind.i64.wrap (0 - s) = manyI s := by rw [swrap (by omega) (by omega)]; unfold manyI; rw [if_pos (by omega)]
      refine ⟨_, LTrn, mk0.on _, loopsTrn, (cfTrnN a s o n c N xs).trans ?_⟩
      rw [em]
      exact go_t (dec_t hneg) (go_t (chk_t ⟨h4, hm1, hm.2, h5, h6, h7, swrap (by omega) (by omega)⟩) rfl)
    · have em : manyI s = s := by unfold manyI; rw [if_neg (by omega)]
      refine ⟨_, LTrn, mk0.on _, loopsTrn, (cfTrnP a s o n c N xs).trans ?_⟩
      rw [em] at hm h5 hm1 ⊢
      exact go_f (dec_f hneg) (go_t (chk_t ⟨h4, hm1, hm.2, h5, h6, h7, swrap (by omega) (by omega)⟩) rfl)
  · cases hF
noncomputable def FLayR : FSpec := fun args h k => match args, h with
  | [.int .u8 x], [] => (match layS x with
    | some (len, fl) => k (.tuple #[w63 len, sl 0 fl.length 0]) [oI fl.length fl]
    | none => k (.tuple #[w63 0, .slice none 0 0]) [])
  | _, _ => none
theorem okLayR : EntryOK Try.prog 31 FLayR := by
  refine EntryOK.of_paths (fn := Try.f31) follows_ok Try.func31 (by kernel_rfl) (by kernel_rfl) ?_
  intro args h k out hF
  unfold FLayR at hF
  split at hF
  · rename_i x
    split at hF
    · rename_i len fl hl
      refine ⟨_, _, hF, fun _ => ⟨_, noL, mk0, noL_ok, (cfLayR x).trans ?_⟩⟩
      rcases layS_cases hl with e | e | e | e | e | e | e | e <;>
      · subst e
        cases hl
        rfl
    · rename_i hl
      obtain ⟨a1, a2, a3, a4, a5, a6, a7, a8⟩ := layS_none hl
      refine ⟨_, _, hF, fun _ => ⟨_, noL, mk0, noL_ok, (cfLayR x).trans ?_⟩⟩
      rw [eqb_f a1, eqb_f a2, eqb_f a3, eqb_f a4, eqb_f a5, eqb_f a6, eqb_f a7, eqb_f a8]; rfl
  · cases hF
end Go.Proofs.Yticdglfbgocgmaa.VC

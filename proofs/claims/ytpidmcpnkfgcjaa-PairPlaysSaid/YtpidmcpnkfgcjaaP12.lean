/- PairPlays: what the document's Edge and Message answer. -/
import Derived.Test.YtpidmcpnkfgcjaaP11
namespace Go.Proofs.Ytpidmcpnkfgcjaa.VC
open Go Go.Proofs

abbrev tE (c : Int) : Th := ⟨c, true, ⟨0, false, 0, false, 0, false⟩, false, false⟩
abbrev tM (c : Int) (x : Ms) : Th := ⟨c, false, x, false, false⟩
def setG (t : Th) : Th := ⟨t.a, t.e, t.m, t.i, true⟩
def setI (t : Th) : Th := ⟨t.a, t.e, t.m, true, t.g⟩
theorem snoc_get {ts : List Th} {t : Th} {j : Nat} (h : j < ts.length) : (ts ++ [t]).getD j th0 = ts.getD j th0 := by
  rw [List.getD_eq_getElem?_getD, List.getElem?_append_left h, ← List.getD_eq_getElem?_getD]
theorem snoc_last {ts : List Th} {t : Th} : (ts ++ [t]).getD ts.length th0 = t := by
  rw [List.getD_eq_getElem?_getD, List.getElem?_append_right (Nat.le_refl _), Nat.sub_self]; rfl
theorem set_same {ts : List Th} {t : Th} {j : Nat} (h : j < ts.length) : (ts.set j t).getD j th0 = t := by
  rw [List.getD_eq_getElem?_getD, List.getElem?_set_self h]; rfl
theorem set_other {ts : List Th} {t : Th} {i j : Nat} (h : j ≠ i) : (ts.set j t).getD i th0 = ts.getD i th0 := by
  rw [List.getD_eq_getElem?_getD, List.getElem?_set_ne h, ← List.getD_eq_getElem?_getD]
theorem flat_G {ts : List Th} {j : Nat} (h : j < ts.length) : (flat ts).set (j * 10 + 9) (.b true) = flat (ts.set j (setG (ts.getD j th0))) := flat_set h (by decide) rfl
theorem flat_I {ts : List Th} {j : Nat} (h : j < ts.length) : (flat ts).set (j * 10 + 8) (.b true) = flat (ts.set j (setI (ts.getD j th0))) := flat_set h (by decide) rfl
theorem may_le {ts : List Th} {c : Int} (hR : RiseT ts) (hm : mayP ts c) {j : Nat} (hj : j < ts.length) : 0 ≤ (ts.getD j th0).a ∧ (ts.getD j th0).a ≤ c := by
  have h := hR j (ts.length - 1) (by omega) (by omega)
  have h2 := hm.2 (by omega)
  exact ⟨h.1, by omega⟩
abbrev dN (w : Int) (ts ts' : List Th) : Heap := [some ⟨true, 2, [.ints .i64 1 [w], .vals [slo 2 0 (ts.length + 1) 1]]⟩, rowA true ts.length (flat ts), rowA true (ts.length + 1) (flat ts')]
noncomputable def FRER (ts : List Th) : FSpec := fun args h k => match args, h with
  | [.pointer (some ⟨0, 0, none⟩), .int .i64 c], [some ⟨true, 2, [.ints .i64 1 [w], .vals [.slice (some ⟨1, 0, none⟩) n cc]]⟩, some ⟨true, 10, [.any N vs]⟩] =>
    bif chk (n = ts.length ∧ N = ts.length * 10 ∧ vs = flat ts ∧ n ≤ 60 ∧ ¬ mayP ts c) then k (.tuple ⟨[pdV 0 ms0, .bool false]⟩) (dH true w ts cc) else none
  | _, _ => none
theorem okRER (ts : List Th) : EntryOK Try.prog 31 (FRER ts) := by
  refine EntryOK.of_paths (fn := Try.f31) follows_ok Try.func31 (by kernel_rfl) (by kernel_rfl) ?_
  intro args h k out hF
  unfold FRER at hF
  split at hF
  · rename_i c w n cc N vs
    obtain ⟨hb, hF2⟩ := bif_t hF
    obtain ⟨rfl, rfl, rfl, hn, hm⟩ := chk_iff.1 hb
    exact ⟨_, _, hF2, fun _ => ⟨_, noL, SpecOK.on (mkS_cons (okMayF ts) (mkS_nil _)) _, noL_ok, pDER c w cc ts⟩⟩
  · cases hF
noncomputable def FREN (ts : List Th) : FSpec := fun args h k => match args, h with
  | [.pointer (some ⟨0, 0, none⟩), .int .i64 c], [some ⟨true, 2, [.ints .i64 1 [w], .vals [.slice (some ⟨1, 0, none⟩) n _]]⟩, some ⟨true, 10, [.any N vs]⟩] =>
    bif chk (n = ts.length ∧ N = ts.length * 10 ∧ vs = flat ts ∧ n ≤ 60 ∧ mayP ts c ∧ waitI ts = -1) then k (.tuple ⟨[pdV 0 ms0, .bool false]⟩) (dN w ts (ts ++ [tE c])) else none
  | _, _ => none
theorem SdN_ok (ts : List Th) : SpecOK Try.prog (SdN ts) := mkS_cons (okMayT ts) (mkS_cons (okWan ts) (mkS_cons (okAddD ts) (mkS_nil _)))
theorem SdJ_ok (ts : List Th) (j : Nat) : SpecOK Try.prog (SdJ ts j) := mkS_cons (okMayT ts) (mkS_cons (okWaj ts j) (mkS_cons (okAddD ts) (mkS_nil _)))
theorem okREN (ts : List Th) : EntryOK Try.prog 31 (FREN ts) := by
  refine EntryOK.of_paths (fn := Try.f31) follows_ok Try.func31 (by kernel_rfl) (by kernel_rfl) ?_
  intro args h k out hF
  unfold FREN at hF
  split at hF
  · rename_i c w n cc N vs
    obtain ⟨hb, hF2⟩ := bif_t hF
    obtain ⟨rfl, rfl, rfl, hn, hm, hw⟩ := chk_iff.1 hb
    exact ⟨_, _, hF2, fun _ => ⟨_, noL, (SdN_ok ts).on _, noL_ok, pDEN c w cc ts⟩⟩
  · cases hF
noncomputable def FREO (ts : List Th) (j : Nat) : FSpec := fun args h k => match args, h with
  | [.pointer (some ⟨0, 0, none⟩), .int .i64 c], [some ⟨true, 2, [.ints .i64 1 [w], .vals [.slice (some ⟨1, 0, none⟩) n _]]⟩, some ⟨true, 10, [.any N vs]⟩] =>
    bif chk (n = ts.length ∧ N = ts.length * 10 ∧ vs = flat ts ∧ n ≤ 60 ∧ mayP ts c ∧ waitI ts = j ∧ j < ts.length ∧ RiseT ts ∧ w < c - (ts.getD j th0).a) then
      k (.tuple ⟨[pdV 0 ms0, .bool false]⟩) (dN w ts ((ts ++ [tE c]).set j (setG (ts.getD j th0)))) else none
  | _, _ => none
theorem okREO (ts : List Th) (j : Nat) : EntryOK Try.prog 31 (FREO ts j) := by
  refine EntryOK.of_paths (fn := Try.f31) follows_ok Try.func31 (by kernel_rfl) (by kernel_rfl) ?_
  intro args h k out hF
  unfold FREO at hF
  split at hF
  · rename_i c w n cc N vs
    obtain ⟨hb, hF2⟩ := bif_t hF
    obtain ⟨rfl, rfl, rfl, hn, hm, hw, hj, hR, hf⟩ := chk_iff.1 hb
    refine ⟨_, _, hF2, fun real => ⟨_, noL, (SdJ_ok ts j).on [(10, false), (19, false), (42, true)], noL_ok, ?_⟩⟩
    have hr : c ≤ 9223372036854775807 := (real.int (i := 1) rfl).2
    have hl := may_le hR hm hj
    have hj1 : j < (ts ++ [tE c]).length := by rw [List.length_append]; omega
    have hj2 : j < ((ts ++ [tE c]).set j (setG (ts.getD j th0))).length := by rw [List.length_set]; exact hj1
    have e1 := flat_G hj1
    rw [snoc_get hj] at e1
    have key := @pDEO c w cc j ts
    simp only [-eq_self, autoParam] at key
    rw [e1] at key
    have gA := fgA hj2
    rw [set_same hj1] at gA
    have v : ((flat ((ts ++ [tE c]).set j (setG (ts.getD j th0)))).getD (j * 10) (FV.b false)).asI = (ts.getD j th0).a := by rw [gA]; rfl
    rw [v] at key
    refine key ?_ ?_ ?_ ?_ ?_ ?_ ?_ ?_ ?_ ?_ <;> first | omega | exact ⟨rfl, rfl, rfl, hn, hm⟩ | exact ⟨rfl, rfl, rfl, hn, hw⟩ | exact ⟨rfl, rfl, rfl, hn⟩ | (rw [gA]; rfl)
  · cases hF
noncomputable def FREI (ts : List Th) (j : Nat) : FSpec := fun args h k => match args, h with
  | [.pointer (some ⟨0, 0, none⟩), .int .i64 c], [some ⟨true, 2, [.ints .i64 1 [w], .vals [.slice (some ⟨1, 0, none⟩) n _]]⟩, some ⟨true, 10, [.any N vs]⟩] =>
    bif chk (n = ts.length ∧ N = ts.length * 10 ∧ vs = flat ts ∧ n ≤ 60 ∧ mayP ts c ∧ waitI ts = j ∧ j < ts.length ∧ RiseT ts ∧ c - (ts.getD j th0).a ≤ w) then
      k (.tuple ⟨[pdV c (ts.getD j th0).m, .bool true]⟩) (dN w ts (((ts ++ [tE c]).set j (setG (ts.getD j th0))).set ts.length (setI (tE c)))) else none
  | _, _ => none
theorem okREI (ts : List Th) (j : Nat) : EntryOK Try.prog 31 (FREI ts j) := by
  refine EntryOK.of_paths (fn := Try.f31) follows_ok Try.func31 (by kernel_rfl) (by kernel_rfl) ?_
  intro args h k out hF
  unfold FREI at hF
  split at hF
  · rename_i c w n cc N vs
    obtain ⟨hb, hF2⟩ := bif_t hF
    obtain ⟨rfl, rfl, rfl, hn, hm, hw, hj, hR, hf⟩ := chk_iff.1 hb
    refine ⟨_, _, hF2, fun real => ⟨_, noL, (SdJ_ok ts j).on [(10, false), (19, false), (42, false)], noL_ok, ?_⟩⟩
    have hr : c ≤ 9223372036854775807 := (real.int (i := 1) rfl).2
    have hl := may_le hR hm hj
    have hj1 : j < (ts ++ [tE c]).length := by rw [List.length_append]; omega
    have hj2 : j < ((ts ++ [tE c]).set j (setG (ts.getD j th0))).length := by rw [List.length_set]; exact hj1
    have hn2 : ts.length < ((ts ++ [tE c]).set j (setG (ts.getD j th0))).length := by rw [List.length_set, List.length_append]; exact Nat.lt_succ_self _
    have hj3 : j < (((ts ++ [tE c]).set j (setG (ts.getD j th0))).set ts.length (setI (tE c))).length := by rw [List.length_set]; exact hj2
    have e1 := flat_G hj1
    rw [snoc_get hj] at e1
    have e2 := flat_I hn2
    rw [set_other (by omega), snoc_last] at e2
    have e3 : (((ts.length + 1 : Nat) : Int) - 1).toNat = ts.length := by omega
    have key := @pDEI c w cc j ts
    simp only [-eq_self, autoParam] at key
    rw [e1, e3, e2] at key
    have gA := fgA hj2
    rw [set_same hj1] at gA
    have gK := fgK hj3
    have gU := fgU hj3
    have gS := fgS hj3
    have gL := fgL hj3
    have gC := fgC hj3
    have gN := fgN hj3
    rw [set_other (by omega), set_same hj1] at gK gU gS gL gC gN
    have v : ((flat ((ts ++ [tE c]).set j (setG (ts.getD j th0)))).getD (j * 10) (FV.b false)).asI = (ts.getD j th0).a := by rw [gA]; rfl
    rw [v] at key
    have key2 := key (by omega) (by omega) ⟨rfl, rfl, rfl, hn, hm⟩ ⟨rfl, rfl, rfl, hn, hw⟩ ⟨rfl, rfl, rfl, hn⟩ (by omega) (by omega) (by omega) (by omega) (by rw [gA]; rfl) (by omega) (by omega) (by omega) (by omega) (by omega) (by rw [gK]; rfl) (by omega) (by rw [gU]; rfl) (by omega) (by rw [gS]; rfl) (by omega) (by rw [gL]; rfl) (by omega) (by rw [gC]; rfl) (by omega) (by rw [gN]; rfl)
    refine key2.trans (Eq.trans (b := some (.ret (.tuple ⟨[pdV c ⟨((flat (((ts ++ [tE c]).set j (setG (ts.getD j th0))).set ts.length (setI (tE c)))).getD (j * 10 + 2) (FV.b false)).asI, ((flat (((ts ++ [tE c]).set j (setG (ts.getD j th0))).set ts.length (setI (tE c)))).getD (j * 10 + 3) (FV.b false)).asB, ((flat (((ts ++ [tE c]).set j (setG (ts.getD j th0))).set ts.length (setI (tE c)))).getD (j * 10 + 4) (FV.b false)).asI, ((flat (((ts ++ [tE c]).set j (setG (ts.getD j th0))).set ts.length (setI (tE c)))).getD (j * 10 + 5) (FV.b false)).asB, ((flat (((ts ++ [tE c]).set j (setG (ts.getD j th0))).set ts.length (setI (tE c)))).getD (j * 10 + 6) (FV.b false)).asI, ((flat (((ts ++ [tE c]).set j (setG (ts.getD j th0))).set ts.length (setI (tE c)))).getD (j * 10 + 7) (FV.b false)).asB⟩, .bool true]⟩) (dN w ts (((ts ++ [tE c]).set j (setG (ts.getD j th0))).set ts.length (setI (tE c)))))) (by kernel_rfl) ?_)
    rw [gK, gU, gS, gL, gC, gN]
    rfl
  · cases hF
end Go.Proofs.Ytpidmcpnkfgcjaa.VC

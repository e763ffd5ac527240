/- A law's arguments: slices of structs of truth values and whole numbers of several kinds. -/
import Derived.Test.YtcjjngdkkihgjaaOX
namespace Go.Proofs.Ytcjjngdkkihgjaa.VC
open Go Go.ChangeShapes Go.WideShapes

def FVIs : CK → FV → Prop
  | .b, f => ∃ x, f = .b x
  | .i k, f => ∃ x, f = .i k x
/-- Cells row by row, of these kinds. -/
structure KindsOK (ks : List CK) (n : Nat) (vs : List FV) : Prop where
  len : vs.length = n * ks.length
  at' : ∀ i, i < n → ∀ (j : Nat) (k : CK), ks[j]? = some k → FVIs k (vs.getD (i * ks.length + j) (.b false))
theorem KindsOK.b {ks : List CK} {n : Nat} {vs : List FV} (h : KindsOK ks n vs) {i j : Nat} (hi : i < n) (hj : ks[j]? = some .b) : (vs.getD (i * ks.length + j) (.b false)).isB = true := by
  obtain ⟨x, hx⟩ := h.at' i hi j _ hj
  rw [hx]; rfl
theorem KindsOK.i {ks : List CK} {n : Nat} {vs : List FV} (h : KindsOK ks n vs) {i j : Nat} {k : IntKind} (hi : i < n) (hj : ks[j]? = some (.i k)) : (vs.getD (i * ks.length + j) (.b false)).isI k = true := by
  obtain ⟨x, hx⟩ := h.at' i hi j _ hj
  rw [hx]
  cases k <;> rfl
structure RowA (w : World) (ks : List CK) (v : Value) (n : Nat) (vs : List FV) : Prop where
  kinds : KindsOK ks n vs
  ok : ∀ x ∈ vs, x.ok
  nl : ∀ x ∈ vs, x.isL = false
  small : n ≤ 140737488355328
  lies : (∃ a, v = .slice a 0 0 ∧ n = 0) ∨ ∃ b off cap c T fr, v = .slice (some ⟨b, off, none⟩) n cap ∧ n ≤ cap ∧ w.heap[b]? = some (.cells c T fr) ∧ ∀ i, i < n * ks.length → c[off + i]? = some ((vs.getD i (.b false)).val)

theorem FVIs.nl {k : CK} {f : FV} (h : FVIs k f) : f.isL = false := by
  cases k with
  | b => obtain ⟨x, rfl⟩ := h; rfl
  | i k => obtain ⟨x, rfl⟩ := h; rfl
theorem CellIs.fv {k : CK} {v : Value} (h : CellIs k v) : ∃ f, fvOf v = some f ∧ FVIs k f ∧ f.ok ∧ f.val = v := by
  cases k with
  | b => obtain ⟨x, rfl⟩ := h; exact ⟨_, rfl, ⟨x, rfl⟩, trivial, rfl⟩
  | i k => obtain ⟨n, rfl, h1⟩ := h; exact ⟨_, rfl, ⟨n, rfl⟩, h1, rfl⟩

section
variable {H : Type} {enc : TypeId × Value → H} {P : Program} {w : World} {base : Nat} {held : Bool}
theorem open_rowA {t e : TypeId} {ks : List CK} {v : Value} {d : DataW H} {p : List MemPlace} {r : Reach} {b0 : Nat} (dep : Nat) (ht : P.underlying t = some (.slice e)) (hk : flatK P dep e = some ks) (hes : ks.length ≠ 0) (hc : P.cellsOf e = ks.length) (hb : P.bytesOf e ≠ 0)
    (hval : Value.okWide P w r b0 t v) (h : DataW.Trod enc P w base (fun _ => true) held t v d p) (hsz : ∀ n ∈ d.weights P t, n ≤ reachBytes) : ∃ n vs, RowA w ks v n vs := by
  obtain ⟨a0, len, cap, rfl⟩ := okWide_slice ht hval
  obtain ⟨fuel, hf⟩ := h
  rcases Deep.open_slice ht hf with ⟨hcs, hx⟩ | ⟨a, len', cap', m, n, D, Pl, hcs, _, hl, hm, hmm, hx, hel⟩
  · simp [Value.cells] at hcs
    obtain ⟨rfl, rfl, rfl⟩ := hcs
    exact ⟨0, [], ⟨by simp, fun i hi => by omega⟩, by simp, by simp, by omega, .inl ⟨_, rfl, rfl⟩⟩
  · simp [Value.cells] at hcs
    obtain ⟨rfl, rfl, rfl⟩ := hcs
    simp only [if_true] at hmm
    subst m
    rcases Nat.eq_zero_or_pos cap with rfl | hp
    · have : len = 0 := by omega
      subst this
      exact ⟨0, [], ⟨by simp, fun i hi => by omega⟩, by simp, by simp, by omega, .inl ⟨_, rfl, rfl⟩⟩
    -- the cells
    have cells : ∀ i, i < cap → ∀ j k, ks[j]? = some k → ∃ x, w.cell? (a.add (i * ks.length + j)) = some x ∧ CellIs k x := by
      intro i hi j k hj
      have hjl := (List.getElem?_eq_some_iff.1 hj).1
      obtain ⟨cs', c1, c2⟩ := hel i hi
      rw [hc] at c1
      obtain ⟨_, c3, c4⟩ := World.cells?_some c1
      have c5 := trod_flat dep hk c2
      have c6 := c4 j hjl
      rw [List.getElem?_eq_getElem (by omega)] at c6
      rw [Deep.add_add] at c6
      exact ⟨_, c6, c5.get hj (List.getElem?_eq_getElem (by omega))⟩
    have hspot : a.spot = none := by
      obtain ⟨x, hx, _⟩ := cells 0 hp 0 _ (List.getElem?_eq_getElem (by omega))
      obtain ⟨b, off, spot⟩ := a
      simpa [Addr.add] using World.cell?_spot hx
    have cell : ∀ q, q < cap * ks.length → ∃ f : FV, w.cell? (a.add q) = some f.val ∧ (f.ok ∧ f.isL = false) ∧ ∃ x, w.cell? (a.add q) = some x ∧ fvOf x = some f := by
      intro q hq
      have h1 : q / ks.length < cap := Nat.div_lt_of_lt_mul (by rw [Nat.mul_comm]; exact hq)
      have h2 : q % ks.length < ks.length := Nat.mod_lt _ (by omega)
      obtain ⟨x, g1, g2⟩ := cells (q / ks.length) h1 (q % ks.length) _ (List.getElem?_eq_getElem h2)
      rw [show q / ks.length * ks.length + q % ks.length = q by rw [Nat.mul_comm]; exact Nat.div_add_mod q _] at g1
      obtain ⟨f, f1, f2, f3, f4⟩ := g2.fv
      exact ⟨f, by rw [g1, f4], ⟨f3, f2.nl⟩, x, g1, f1⟩
    let X : Nat → FV := fun q => match w.cell? (a.add q) with | some x => (fvOf x).getD (.b false) | _ => .b false
    have hX : ∀ q, q < cap * ks.length → w.cell? (a.add q) = some (X q).val ∧ (X q).ok ∧ (X q).isL = false := by
      intro q hq
      obtain ⟨f, h1, h2, x, h3, h4⟩ := cell q hq
      have : X q = f := by simp only [X, h3, h4, Option.getD_some]
      rw [this]; exact ⟨h1, h2⟩
    have hXk : ∀ i, i < cap → ∀ j k, ks[j]? = some k → FVIs k (X (i * ks.length + j)) := by
      intro i hi j k hj
      obtain ⟨x, g1, g2⟩ := cells i hi j k hj
      obtain ⟨f, f1, f2, f3, f4⟩ := g2.fv
      have : X (i * ks.length + j) = f := by simp only [X, g1, f1, Option.getD_some]
      rw [this]; exact f2
    have hlq : len * ks.length ≤ cap * ks.length := Nat.mul_le_mul_right _ hl
    have hget : ∀ i, i < len * ks.length → ((List.range (len * ks.length)).map X).getD i (.b false) = X i := by
      intro i hi
      rw [List.getD_eq_getElem?_getD, List.getElem?_map, List.getElem?_range (by omega)]
      rfl
    obtain ⟨c, T, fr, g1, _⟩ := cell_at (hX 0 (Nat.mul_pos hp (by omega))).1 (.inr hspot)
    refine ⟨len, (List.range (len * ks.length)).map X, ⟨by simp, fun i hi j k hj => ?_⟩, fun x hx => ?_, fun x hx => ?_, ?_, .inr ⟨a.block, a.off, cap, c, T, fr, ?_, hl, g1, fun i hi => ?_⟩⟩
    · have hjl := (List.getElem?_eq_some_iff.1 hj).1
      rw [hget _ (by
        have : (i + 1) * ks.length ≤ len * ks.length := Nat.mul_le_mul_right _ hi
        rw [Nat.succ_mul] at this
        omega)]
      exact hXk i (by omega) j k hj
    · obtain ⟨q, hq, rfl⟩ := List.mem_map.1 hx
      exact (hX q (by have := List.mem_range.1 hq; omega)).2.1
    · obtain ⟨q, hq, rfl⟩ := List.mem_map.1 hx
      exact (hX q (by have := List.mem_range.1 hq; omega)).2.2
    · have hd : d = .slice ((List.range len).map D) ((List.range (cap - len)).map fun j => D (len + j)) := congrArg Prod.fst hx
      have := hsz ((len + (cap - len)) * P.bytesOf e) (by subst hd; simp [DataW.weights, ht])
      have h2 : len + (cap - len) ≤ (len + (cap - len)) * P.bytesOf e := Nat.le_mul_of_pos_right _ (Nat.pos_of_ne_zero hb)
      have h3 := reachBytes_lt
      omega
    · obtain ⟨b, off, spot⟩ := a
      simp only at hspot
      subst hspot
      rfl
    · obtain ⟨c', T', fr', g3, g4⟩ := cell_at (hX i (by omega)).1 (.inr hspot)
      rw [g1] at g3
      cases g3
      rw [g4, hget i hi]
end
theorem FV.vr {ι : Map} {f : FV} (h : f.ok) (hl : f.isL = false) : VR ι f.val f.val := by
  cases f with
  | l n => cases hl
  | b x => exact .bool x
  | i k x => exact .int k x h
  | s x => exact .string x h
theorem cell_any {n : Nat} {vs : List FV} {i : Nat} {v : Value} (h : cell? [.any n vs] i = some v) : i < n ∧ v = (vs.getD i (.b false)).val := by
  simp only [cell?] at h
  split at h
  · rename_i hi; cases h; exact ⟨hi, rfl⟩
  · cases h
theorem RowA.put {ι : Map} {h : Heap} {w : World} {ks : List CK} {n : Nat} {v : Value} {vs : List FV} (hx : RowA w ks v n vs) (hr : HR ι w.heap.size h w) (ha : allRead h) :
    ∃ ι', Map.le ι ι' ∧ HR ι' w.heap.size (h ++ [some ⟨false, ks.length, [.any (n * ks.length) vs]⟩]) w ∧ VR ι' (.slice (some ⟨h.length, 0, none⟩) n 2) v := by
  have hok : segsOK [.any (n * ks.length) vs] := by
    intro s hs
    simp only [List.mem_singleton] at hs
    subst hs
    exact ⟨hx.kinds.len, hx.ok⟩
  rcases hx.lies with ⟨a, rfl, rfl⟩ | ⟨b, off, cap, c, T, fr, rfl, hl, hb, hc⟩
  · refine ⟨ι, Map.le_refl _, HR_empty hr hok (fun i => ?_), .slZero a⟩
    simp [cell?]
  · refine ⟨_, Map.le_put _ (hr.fresh (Nat.le_refl _)), HR_read hr ha (o := off) (es := ks.length) hb hok fun i v hv => ?_, ?_⟩
    · obtain ⟨h1, rfl⟩ := cell_any hv
      refine ⟨_, hc i h1, FV.vr (hx.ok _ ?_) (hx.nl _ ?_)⟩ <;>
      (have hi : i < vs.length := by rw [hx.kinds.len]; exact h1
       rw [List.getD_eq_getElem?_getD, List.getElem?_eq_getElem hi]; exact List.getElem_mem hi)
    · have := hx.small
      have e := Map.put_same ι h.length ⟨b, off, c.size, ks.length⟩
      exact VR.sl (off := 0) e (by omega) hl (fun h => by cases h) (fun h => by cases h)
end Go.Proofs.Ytcjjngdkkihgjaa.VC

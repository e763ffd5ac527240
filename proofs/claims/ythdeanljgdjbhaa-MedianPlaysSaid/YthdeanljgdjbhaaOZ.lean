/- A law's arguments: structs that hold slices of numbers. -/
import Derived.SizedLaws
import Derived.Test.YthdeanljgdjbhaaOX
namespace Go.Proofs.Ythdeanljgdjbhaa.VC
open Go Go.ChangeShapes Go.WideShapes

section
variable {H : Type} {enc : TypeId × Value → H} {P : Program} {w : World} {base : Nat} {spare : Nat → Bool} {held : Bool}
/-- A struct's fields: their types, places and cells. -/
theorem open_st {t : TypeId} {fs : Array Field} {L : List (TypeId × Nat × Nat)} {nc : Nat} {v : Value} {d : DataW H} {p : List MemPlace} {r : Reach} {b0 : Nat} (ht : P.underlying t = some (.struct fs))
    (hL : fs.toList.map (fun f => (f.type, f.offset, P.cellsOf f.type)) = L) (hn : P.cellsOf t = nc) (hval : Value.okWide P w r b0 t v) (h : DataW.Trod enc P w base spare held t v d p) (hsz : ∀ n ∈ d.weights P t, n ≤ reachBytes) :
    ∃ cs : List Value, v = .agg ⟨cs⟩ ∧ cs.length = nc ∧ ∀ (i : Nat) (a : TypeId) (b c : Nat), L[i]? = some (a, b, c) → ∃ n d p, DataW.trod enc P w base spare held n a ((cs.drop b).take c) = some (d, p) ∧ ∀ m ∈ d.weights P a, m ≤ reachBytes := by
  obtain ⟨fuel, hf⟩ := h
  obtain ⟨⟨cs⟩, rfl⟩ : ∃ cs : Array Value, v = .agg cs := by
    unfold Value.okWide at hval
    rw [ht] at hval
    obtain ⟨cs, h1, _⟩ := hval
    exact ⟨cs, h1⟩
  obtain ⟨xs, n, rfl, hx, hlen, hxl, hfs⟩ := DataW.trod_struct ht hf
  refine ⟨cs, rfl, by rw [← hn]; exact hlen, fun i a b c hi => ?_⟩
  subst hL
  rw [List.getElem?_map] at hi
  cases hfi : fs.toList[i]? with
  | none => rw [hfi] at hi; cases hi
  | some f =>
    rw [hfi] at hi
    cases hi
    have h1 := hfs i f (by rw [← Array.getElem?_toList]; exact hfi)
    have hil := (List.getElem?_eq_some_iff.1 hfi).1
    have hil2 : i < xs.length := by rw [hxl]; simpa using hil
    rw [List.getElem?_eq_getElem hil2] at h1
    refine ⟨n, xs[i].1, xs[i].2, h1, fun m hm => hsz m ?_⟩
    have hd : d = .agg (xs.map (·.1)) := congrArg Prod.fst hx
    rw [hd]
    have : (DataW.agg (xs.map (·.1))).weights P t = DataW.weightsEach P (fs.toList.map (·.type)) (xs.map (·.1)) := by
      simp only [DataW.weights, ht]
    rw [this]
    exact DataW.weights_mem_each (j := i) (by rw [List.getElem?_map, hfi]; rfl) (by rw [List.getElem?_map, List.getElem?_eq_getElem hil2]; rfl) m hm
end
section
variable {H : Type} {enc : TypeId × Value → H} {P : Program} {w : World} {base : Nat} {held : Bool}
/-- A slice's cell whose elements are es numbers of one kind. -/
theorem open_rowT {t e : TypeId} {k : IntKind} {es : Nat} {cs : List Value} {fuel : Nat} {d : DataW H} {p : List MemPlace} (dep : Nat) (ht : P.underlying t = some (.slice e)) (hk : flatK P dep e = some (List.replicate es (.i k))) (hes : es ≠ 0) (hc : P.cellsOf e = es) (hb : P.bytesOf e ≠ 0)
    (hf : DataW.trod enc P w base (fun _ => true) held fuel t cs = some (d, p)) (hsz : ∀ n ∈ d.weights P t, n ≤ reachBytes) : ∃ v n xs, cs = [v] ∧ RowIn w k es v n xs := by
  rcases Deep.open_slice ht hf with ⟨hcs, hx⟩ | ⟨a, len, cap, m, n, D, Pl, hcs, _, hl, hm, hmm, hx, hel⟩
  · exact ⟨_, 0, [], hcs, by simp, by simp, by omega, .inl ⟨_, rfl, rfl⟩⟩
  · simp only [if_true] at hmm
    subst m
    rcases Nat.eq_zero_or_pos cap with rfl | hp
    · have : len = 0 := by omega
      subst this
      exact ⟨_, 0, [], hcs, by simp, by simp, by omega, .inl ⟨_, rfl, rfl⟩⟩
    have cells : ∀ i, i < cap → ∀ j, j < es → ∃ x, w.cell? (a.add (i * es + j)) = some (.int k x) ∧ k.min ≤ x ∧ x ≤ k.max := by
      intro i hi j hj
      obtain ⟨cs', c1, c2⟩ := hel i hi
      rw [hc] at c1
      obtain ⟨_, c3, c4⟩ := World.cells?_some c1
      have c5 := trod_flat dep hk c2
      have c6 := c4 j hj
      rw [List.getElem?_eq_getElem (by omega)] at c6
      obtain ⟨x, hx, hr⟩ := c5.get (i := j) (k := .i k) (by simp [hj]) (List.getElem?_eq_getElem (by omega))
      rw [hx, Deep.add_add] at c6
      exact ⟨x, c6, hr⟩
    have hspot : a.spot = none := by
      obtain ⟨x, hx, _⟩ := cells 0 hp 0 (by omega)
      obtain ⟨b, off, spot⟩ := a
      simpa [Addr.add] using World.cell?_spot hx
    have cell : ∀ q, q < cap * es → ∃ x, w.cell? (a.add q) = some (.int k x) ∧ k.min ≤ x ∧ x ≤ k.max := by
      intro q hq
      have h1 : q / es < cap := Nat.div_lt_of_lt_mul (by rw [Nat.mul_comm]; exact hq)
      have := cells (q / es) h1 (q % es) (Nat.mod_lt _ (by omega))
      rwa [show q / es * es + q % es = q by rw [Nat.mul_comm]; exact Nat.div_add_mod q es] at this
    let X : Nat → Int := fun q => match w.cell? (a.add q) with | some (.int _ x) => x | _ => 0
    have hX : ∀ q, q < cap * es → w.cell? (a.add q) = some (.int k (X q)) ∧ k.min ≤ X q ∧ X q ≤ k.max := by
      intro q hq
      obtain ⟨x, h1, h2⟩ := cell q hq
      have : X q = x := by simp only [X, h1]
      rw [this]; exact ⟨h1, h2⟩
    have hlq : len * es ≤ cap * es := Nat.mul_le_mul_right _ hl
    obtain ⟨c, T, fr, g1, _⟩ := cell_at (hX 0 (Nat.mul_pos hp (by omega))).1 (.inr hspot)
    refine ⟨_, len, (List.range (len * es)).map X, hcs, by simp, fun x hx => ?_, ?_, .inr ⟨a.block, a.off, cap, c, T, fr, ?_, hl, g1, fun i hi => ?_⟩⟩
    · obtain ⟨q, hq, rfl⟩ := List.mem_map.1 hx
      exact (hX q (by have := List.mem_range.1 hq; omega)).2
    · have hd : d = .slice ((List.range len).map D) ((List.range (cap - len)).map fun j => D (len + j)) := congrArg Prod.fst hx
      have := hsz ((len + (cap - len)) * P.bytesOf e) (by subst hd; simp [DataW.weights, ht])
      have h2 : len + (cap - len) ≤ (len + (cap - len)) * P.bytesOf e := Nat.le_mul_of_pos_right _ (Nat.pos_of_ne_zero hb)
      have h3 := reachBytes_lt
      omega
    · obtain ⟨b, off, spot⟩ := a
      simp only at hspot
      subst hspot
      rfl
    · obtain ⟨c', T', fr', g3, g4⟩ := cell_at (hX i (by omega)).1 (.inr hspot)
      rw [g1] at g3
      cases g3
      rw [g4]
      congr 2
      rw [List.getD_eq_getElem?_getD, List.getElem?_map, List.getElem?_range (by omega)]
      rfl
end
theorem len_succ {n : Nat} {cs : List Value} (h : cs.length = n + 1) : ∃ c r, cs = c :: r ∧ r.length = n := by
  cases cs with
  | nil => cases h
  | cons c r => exact ⟨c, r, rfl, by simpa using h⟩
end Go.Proofs.Ythdeanljgdjbhaa.VC

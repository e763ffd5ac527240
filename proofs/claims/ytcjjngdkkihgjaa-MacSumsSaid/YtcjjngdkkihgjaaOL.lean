/- A law's arguments: slices of structs of truth values, whole numbers and slices of which the length alone is told. -/
import Derived.Test.YtcjjngdkkihgjaaOY
namespace Go.Proofs.Ytcjjngdkkihgjaa.VC
open Go Go.ChangeShapes Go.WideShapes

/-- Cells' kinds, slices with them. -/
inductive CL where
  | b
  | i (k : IntKind)
  | l
/-- A cell of a kind, as it is told. -/
def CLIs : CL → Value → FV → Prop
  | .b, v, f => ∃ x, v = .bool x ∧ f = .b x
  | .i k, v, f => ∃ n, v = .int k n ∧ k.min ≤ n ∧ n ≤ k.max ∧ f = .i k n
  | .l, v, f => ∃ a n c, v = .slice a n c ∧ n ≤ c ∧ n ≤ 9223372036854775807 ∧ f = .l n
theorem CLIs.ok {k : CL} {v : Value} {f : FV} (h : CLIs k v f) : f.ok := by
  cases k with
  | b => obtain ⟨x, _, rfl⟩ := h; trivial
  | i k => obtain ⟨n, _, h1, h2, rfl⟩ := h; exact ⟨h1, h2⟩
  | l => obtain ⟨a, n, c, _, _, h1, rfl⟩ := h; exact h1
theorem CLIs.vr {k : CL} {v : Value} {f : FV} (h : CLIs k v f) (ι : Map) : VR ι f.val v := by
  cases k with
  | b => obtain ⟨x, rfl, rfl⟩ := h; exact .bool x
  | i k => obtain ⟨n, rfl, h1, h2, rfl⟩ := h; exact .int k n ⟨h1, h2⟩
  | l => obtain ⟨a, n, c, rfl, h1, h2, rfl⟩ := h; exact .slAny a h2 h1
def FLIs : CL → FV → Prop
  | .b, f => ∃ x, f = .b x
  | .i k, f => ∃ x, f = .i k x
  | .l, f => ∃ n, f = .l n
theorem CLIs.fl {k : CL} {v : Value} {f : FV} (h : CLIs k v f) : FLIs k f := by
  cases k with
  | b => obtain ⟨x, _, rfl⟩ := h; exact ⟨x, rfl⟩
  | i k => obtain ⟨n, _, h1, h2, rfl⟩ := h; exact ⟨n, rfl⟩
  | l => obtain ⟨a, n, c, _, _, h1, rfl⟩ := h; exact ⟨n, rfl⟩
/-- Cells row by row, of these kinds. -/
structure KindsL (ks : List CL) (n : Nat) (vs : List FV) : Prop where
  len : vs.length = n * ks.length
  at' : ∀ i, i < n → ∀ (j : Nat) (k : CL), ks[j]? = some k → FLIs k (vs.getD (i * ks.length + j) (.b false))
theorem KindsL.i {ks : List CL} {n : Nat} {vs : List FV} (h : KindsL ks n vs) {i j : Nat} {k : IntKind} (hi : i < n) (hj : ks[j]? = some (.i k)) : (vs.getD (i * ks.length + j) (.b false)).isI k = true := by
  obtain ⟨x, hx⟩ := h.at' i hi j _ hj
  rw [hx]
  cases k <;> rfl
theorem KindsL.l {ks : List CL} {n : Nat} {vs : List FV} (h : KindsL ks n vs) {i j : Nat} (hi : i < n) (hj : ks[j]? = some .l) : (vs.getD (i * ks.length + j) (.b false)).isL = true := by
  obtain ⟨x, hx⟩ := h.at' i hi j _ hj
  rw [hx]; rfl
structure RowL (w : World) (ks : List CL) (v : Value) (n : Nat) (vs : List FV) : Prop where
  kinds : KindsL ks n vs
  ok : ∀ x ∈ vs, x.ok
  small : n ≤ 140737488355328
  lies : (∃ a, v = .slice a 0 0 ∧ n = 0) ∨ ∃ b off cap c T fr, v = .slice (some ⟨b, off, none⟩) n cap ∧ n ≤ cap ∧ w.heap[b]? = some (.cells c T fr) ∧ ∀ i, i < n * ks.length → ∃ u, c[off + i]? = some u ∧ ∀ ι : Map, VR ι (vs.getD i (.b false)).val u

/-- A field's kind. -/
def kindL (P : Program) (t : TypeId) : Option CL := match P.underlying t with
  | some .bool => some .b
  | some (.int k) => some (.i k)
  | some (.slice _) => some .l
  | _ => none
section
variable {H : Type} {enc : TypeId × Value → H} {P : Program} {w : World} {base : Nat} {spare : Nat → Bool} {held : Bool}
theorem open_cellL {t : TypeId} {fuel : Nat} {cs : List Value} {x : DataW H × List MemPlace} {k : CL} (hk : kindL P t = some k) (hx : DataW.trod enc P w base spare held fuel t cs = some x) : ∃ v f, cs = [v] ∧ CLIs k v f := by
  unfold kindL at hk
  split at hk
  · rename_i hu
    cases hk
    obtain ⟨b, rfl, _⟩ := DataW.trod_bool hu hx
    exact ⟨_, _, rfl, b, rfl, rfl⟩
  · rename_i k hu
    cases hk
    obtain ⟨n, rfl, _, hw⟩ := DataW.trod_int hu hx
    simp only [Lit.wf, Bool.and_eq_true, decide_eq_true_eq] at hw
    exact ⟨_, _, rfl, n, rfl, hw.1, hw.2, rfl⟩
  · rename_i e hu
    cases hk
    rcases Deep.open_slice hu hx with ⟨rfl, _⟩ | ⟨a, len, cap, m, n, D, Pl, rfl, _, hl, hm, _⟩
    · exact ⟨_, _, rfl, _, _, _, rfl, Nat.le_refl _, by omega, rfl⟩
    · have hml : maxLen ≤ 9223372036854775807 := by decide +kernel
      exact ⟨_, _, rfl, _, _, _, rfl, hl, by omega, rfl⟩
  · cases hk
end
section
variable {H : Type} {enc : TypeId × Value → H} {P : Program} {w : World} {base : Nat} {held : Bool}
/-- A slice of structs with such fields. -/
theorem open_rowL {t e : TypeId} {fs : Array Field} {L : List (TypeId × Nat × Nat)} {ks : List CL} {v : Value} {d : DataW H} {p : List MemPlace} {r : Reach} {b0 : Nat} (ht : P.underlying t = some (.slice e)) (he : P.underlying e = some (.struct fs))
    (hL : fs.toList.map (fun f => (f.type, f.offset, P.cellsOf f.type)) = L) (hK : ∀ (j : Nat) (k : CL), ks[j]? = some k → ∃ ft, L[j]? = some (ft, j, 1) ∧ kindL P ft = some k) (hes : ks.length ≠ 0) (hc : P.cellsOf e = ks.length) (hb : P.bytesOf e ≠ 0)
    (hval : Value.okWide P w r b0 t v) (h : DataW.Trod enc P w base (fun _ => true) held t v d p) (hsz : ∀ n ∈ d.weights P t, n ≤ reachBytes) : ∃ n vs, RowL w ks v n vs := by
  obtain ⟨a0, len, cap, rfl⟩ := okWide_slice ht hval
  obtain ⟨fuel, hf⟩ := h
  rcases Deep.open_slice ht hf with ⟨hcs, hx⟩ | ⟨a, len', cap', m, n, D, Pl, hcs, _, hl, hm, hmm, hx, hel⟩
  · simp [Value.cells] at hcs
    obtain ⟨rfl, rfl, rfl⟩ := hcs
    exact ⟨0, [], ⟨by simp, fun i hi => by omega⟩, by simp, by omega, .inl ⟨_, rfl, rfl⟩⟩
  · simp [Value.cells] at hcs
    obtain ⟨rfl, rfl, rfl⟩ := hcs
    simp only [if_true] at hmm
    subst m
    rcases Nat.eq_zero_or_pos cap with rfl | hp
    · have : len = 0 := by omega
      subst this
      exact ⟨0, [], ⟨by simp, fun i hi => by omega⟩, by simp, by omega, .inl ⟨_, rfl, rfl⟩⟩
    -- the cells
    have cells : ∀ i, i < cap → ∀ j k, ks[j]? = some k → ∃ x f, w.cell? (a.add (i * ks.length + j)) = some x ∧ CLIs k x f := by
      intro i hi j k hj
      have hjl := (List.getElem?_eq_some_iff.1 hj).1
      obtain ⟨cs', c1, c2⟩ := hel i hi
      rw [hc] at c1
      obtain ⟨_, c3, c4⟩ := World.cells?_some c1
      obtain ⟨xs, n', rfl, hx', hlen, hxl, hfs⟩ := DataW.trod_struct he c2
      obtain ⟨ft, g1, g2⟩ := hK j k hj
      rw [← hL, List.getElem?_map] at g1
      cases hfi : fs.toList[j]? with
      | none => rw [hfi] at g1; cases g1
      | some f =>
        rw [hfi] at g1
        simp only [Option.map_some, Option.some.injEq, Prod.mk.injEq] at g1
        obtain ⟨rfl, e1, e2⟩ := g1
        have h1 := hfs j f (by rw [← Array.getElem?_toList]; exact hfi)
        have hil := (List.getElem?_eq_some_iff.1 hfi).1
        have hil2 : j < xs.length := by rw [hxl]; simpa using hil
        rw [List.getElem?_eq_getElem hil2, e1, e2] at h1
        obtain ⟨v, fv, hv, hcl⟩ := open_cellL g2 h1
        have c6 := c4 j hjl
        rw [Deep.add_add] at c6
        have hjc : j < cs'.length := by omega
        have : cs'[j]? = some v := by
          have := congrArg List.head? hv
          rw [List.head?_take, if_neg (by omega), List.head?_drop] at this
          simpa using this
        rw [this] at c6
        exact ⟨v, fv, c6, hcl⟩
    have hspot : a.spot = none := by
      obtain ⟨x, _, hx, _⟩ := cells 0 hp 0 _ (List.getElem?_eq_getElem (by omega))
      obtain ⟨b, off, spot⟩ := a
      simpa [Addr.add] using World.cell?_spot hx
    have cell : ∀ q, q < cap * ks.length → ∃ f : FV, f.ok ∧ ∃ x, w.cell? (a.add q) = some x ∧ (∀ ι : Map, VR ι f.val x) ∧ ∀ k, ks[q % ks.length]? = some k → FLIs k f := by
      intro q hq
      have h1 : q / ks.length < cap := Nat.div_lt_of_lt_mul (by rw [Nat.mul_comm]; exact hq)
      have h2 : q % ks.length < ks.length := Nat.mod_lt _ (by omega)
      obtain ⟨x, f, g1, g2⟩ := cells (q / ks.length) h1 (q % ks.length) _ (List.getElem?_eq_getElem h2)
      rw [show q / ks.length * ks.length + q % ks.length = q by rw [Nat.mul_comm]; exact Nat.div_add_mod q _] at g1
      refine ⟨f, g2.ok, x, g1, g2.vr, fun k hk => ?_⟩
      rw [List.getElem?_eq_getElem h2] at hk
      cases hk
      exact g2.fl
    let X : Nat → FV := fun q => if hq : q < cap * ks.length then Classical.choose (cell q hq) else .b false
    have hX : ∀ q (hq : q < cap * ks.length), (X q).ok ∧ ∃ x, w.cell? (a.add q) = some x ∧ (∀ ι : Map, VR ι (X q).val x) ∧ ∀ k, ks[q % ks.length]? = some k → FLIs k (X q) := by
      intro q hq
      have := Classical.choose_spec (cell q hq)
      simp only [X, dif_pos hq]
      exact this
    have hlq : len * ks.length ≤ cap * ks.length := Nat.mul_le_mul_right _ hl
    have hget : ∀ i, i < len * ks.length → ((List.range (len * ks.length)).map X).getD i (.b false) = X i := by
      intro i hi
      rw [List.getD_eq_getElem?_getD, List.getElem?_map, List.getElem?_range (by omega)]
      rfl
    obtain ⟨x0, hx0, _⟩ := (hX 0 (Nat.mul_pos hp (by omega))).2
    obtain ⟨c, T, fr, g1, _⟩ := cell_at hx0 (.inr hspot)
    refine ⟨len, (List.range (len * ks.length)).map X, ⟨by simp, fun i hi j k hj => ?_⟩, fun x hx => ?_, ?_, .inr ⟨a.block, a.off, cap, c, T, fr, ?_, hl, g1, fun i hi => ?_⟩⟩
    · have hjl := (List.getElem?_eq_some_iff.1 hj).1
      have hlt : i * ks.length + j < len * ks.length := by
        have : (i + 1) * ks.length ≤ len * ks.length := Nat.mul_le_mul_right _ hi
        rw [Nat.succ_mul] at this
        omega
      rw [hget _ hlt]
      obtain ⟨_, x, _, _, h3⟩ := hX _ (Nat.lt_of_lt_of_le hlt hlq)
      refine h3 k ?_
      rw [show (i * ks.length + j) % ks.length = j by rw [Nat.mul_comm, Nat.mul_add_mod, Nat.mod_eq_of_lt hjl]]
      exact hj
    · obtain ⟨q, hq, rfl⟩ := List.mem_map.1 hx
      exact (hX q (by have := List.mem_range.1 hq; omega)).1
    · have hd : d = .slice ((List.range len).map D) ((List.range (cap - len)).map fun j => D (len + j)) := congrArg Prod.fst hx
      have := hsz ((len + (cap - len)) * P.bytesOf e) (by subst hd; simp [DataW.weights, ht])
      have h2 : len + (cap - len) ≤ (len + (cap - len)) * P.bytesOf e := Nat.le_mul_of_pos_right _ (Nat.pos_of_ne_zero hb)
      have h3 := reachBytes_lt
      omega
    · obtain ⟨b, off, spot⟩ := a
      simp only at hspot
      subst hspot
      rfl
    · obtain ⟨_, x, h1, h2, _⟩ := hX i (by omega)
      obtain ⟨c', T', fr', g3, g4⟩ := cell_at h1 (.inr hspot)
      rw [g1] at g3
      cases g3
      exact ⟨x, g4, by rw [hget i hi]; exact h2⟩
end
theorem RowL.put {ι : Map} {h : Heap} {w : World} {ks : List CL} {n : Nat} {v : Value} {vs : List FV} (hx : RowL w ks v n vs) (hr : HR ι w.heap.size h w) (ha : allRead h) :
    ∃ ι', Map.le ι ι' ∧ HR ι' w.heap.size (h ++ [some ⟨false, ks.length, [.any (n * ks.length) vs]⟩]) w ∧ VR ι' (.slice (some ⟨h.length, 0, none⟩) n 2) v := by
  have hok : segsOK [.any (n * ks.length) vs] := by
    intro s hs
    simp only [List.mem_singleton] at hs
    subst hs
    exact ⟨hx.kinds.len, hx.ok⟩
  rcases hx.lies with ⟨a, rfl, rfl⟩ | ⟨b, off, cap, c, T, fr, rfl, hl, hb, hc⟩
  · refine ⟨ι, Map.le_refl _, HR_empty hr hok (fun i => ?_), .slZero a⟩
    simp [cell?]
  · refine ⟨_, Map.le_put _ (hr.fresh (Nat.le_refl _)), HR_read hr ha (o := off) (es := ks.length) hb hok fun i v hv => ?_, ?_⟩
    · obtain ⟨h1, rfl⟩ := cell_any hv
      obtain ⟨u, h2, h3⟩ := hc i h1
      exact ⟨u, h2, h3 _⟩
    · have := hx.small
      have e := Map.put_same ι h.length ⟨b, off, c.size, ks.length⟩
      exact VR.sl (off := 0) e (by omega) hl (fun h => by cases h) (fun h => by cases h)
end Go.Proofs.Ytcjjngdkkihgjaa.VC

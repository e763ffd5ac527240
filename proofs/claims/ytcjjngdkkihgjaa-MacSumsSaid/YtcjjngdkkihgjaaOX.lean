/- A law's arguments: what their readings say of them as abstract values; a law that only reads what it is handed. -/
import Derived.Test.YtcjjngdkkihgjaaVX3
import Derived.ChangeSlices
import Derived.Deep.Slices
import Derived.OpenShut
import Derived.SizedLaws
import Derived.Carry
namespace Go.Proofs.Ytcjjngdkkihgjaa.VC
open Go Go.ChangeShapes Go.WideShapes

/-- Cells' kinds. -/
inductive CK where
  | b
  | i (k : IntKind)

def CellIs : CK → Value → Prop
  | .b, v => ∃ x, v = .bool x
  | .i k, v => ∃ n, v = .int k n ∧ k.min ≤ n ∧ n ≤ k.max

def CellsAre : List CK → List Value → Prop
  | [], [] => True
  | k :: ks, v :: vs => CellIs k v ∧ CellsAre ks vs
  | _, _ => False

theorem CellsAre.len : ∀ {ks : List CK} {vs : List Value}, CellsAre ks vs → ks.length = vs.length
  | [], [], _ => rfl
  | [], _ :: _, h => h.elim
  | _ :: _, [], h => h.elim
  | _ :: _, _ :: _, h => by simp [CellsAre.len h.2]

theorem CellsAre.append : ∀ {ks ks' : List CK} {vs vs' : List Value}, CellsAre ks vs → CellsAre ks' vs' → CellsAre (ks ++ ks') (vs ++ vs')
  | [], _, [], _, _, h => h
  | [], _, _ :: _, _, h, _ => h.elim
  | _ :: _, _, [], _, h, _ => h.elim
  | _ :: _, _, _ :: _, _, h, h' => ⟨h.1, CellsAre.append h.2 h'⟩

theorem CellsAre.cons_inv {k : CK} {ks : List CK} {vs : List Value} (h : CellsAre (k :: ks) vs) : ∃ v r, vs = v :: r ∧ CellIs k v ∧ CellsAre ks r := by
  cases vs with
  | nil => exact h.elim
  | cons v r => exact ⟨v, r, rfl, h⟩
theorem CellsAre.nil_inv {vs : List Value} (h : CellsAre [] vs) : vs = [] := by
  cases vs with
  | nil => rfl
  | cons v r => exact h.elim

theorem CellsAre.get : ∀ {ks : List CK} {vs : List Value}, CellsAre ks vs → ∀ {i : Nat} {k : CK} {v : Value}, ks[i]? = some k → vs[i]? = some v → CellIs k v
  | [], _, _, i, k, v, h, _ => by simp at h
  | _ :: _, [], h, _, _, _, _, _ => h.elim
  | _ :: _, _ :: _, h, 0, k, v, hk, hv => by simp at hk hv; subst hk; subst hv; exact h.1
  | _ :: _, _ :: _, h, i + 1, k, v, hk, hv => h.2.get (by simpa using hk) (by simpa using hv)

/-- Fields one behind the other. -/
def flatF (P : Program) (rc : TypeId → Option (List CK)) : Nat → List Field → Option (List CK)
  | _, [] => some []
  | o, f :: r => match rc f.type with
    | some l => match flatF P rc (o + P.cellsOf f.type) r with
      | some m => bif Nat.beq f.offset o && Nat.beq l.length (P.cellsOf f.type) then some (l ++ m) else none
      | none => none
    | none => none
/-- A type of truth values and whole numbers alone: its cells' kinds. -/
def flatK (P : Program) : Nat → TypeId → Option (List CK)
  | 0, _ => none
  | d + 1, t => match P.underlying t with
    | some .bool => some [.b]
    | some (.int k) => some [.i k]
    | some (.struct fs) => match flatF P (flatK P d) 0 fs.toList with
      | some l => bif Nat.beq l.length (P.cellsOf t) then some l else none
      | none => none
    | some (.array n e) => match flatK P d e with
      | some l => bif Nat.beq l.length (P.cellsOf e) && Nat.beq (n * P.cellsOf e) (P.cellsOf t) then some (List.replicate n l).flatten else none
      | none => none
    | _ => none

section
variable {H : Type} {enc : TypeId × Value → H} {P : Program} {w : World} {base : Nat} {spare : Nat → Bool} {held : Bool}

theorem bif_opt {α : Type} {q : Bool} {x l : α} (hq : (bif q then some x else none) = some l) : q = true ∧ x = l := by
  cases q
  · cases hq
  · simp at hq; exact ⟨rfl, hq⟩

theorem trod_flat : ∀ (d : Nat) {t : TypeId} {fuel : Nat} {cs : List Value} {x : DataW H × List MemPlace} {ks : List CK}, flatK P d t = some ks → DataW.trod enc P w base spare held fuel t cs = some x → CellsAre ks cs
  | 0, t, fuel, cs, x, ks, h, _ => by simp [flatK] at h
  | d + 1, t, fuel, cs, x, ks, h, hx => by
    simp only [flatK] at h
    split at h
    · rename_i hu
      cases h
      obtain ⟨b, rfl, _⟩ := DataW.trod_bool hu hx
      exact ⟨⟨b, rfl⟩, trivial⟩
    · rename_i k hu
      cases h
      obtain ⟨n, rfl, _, hw⟩ := DataW.trod_int hu hx
      simp only [Lit.wf, Bool.and_eq_true, decide_eq_true_eq] at hw
      exact ⟨⟨n, rfl, hw.1, hw.2⟩, trivial⟩
    · rename_i fs hu
      split at h
      · rename_i l hl
        obtain ⟨h1, rfl⟩ := bif_opt h
        have h1 := beq_true h1
        obtain ⟨xs, n, _, _, hlen, hxl, hf⟩ := DataW.trod_struct hu hx
        have hfl : ∀ f ∈ fs.toList, ∃ y, DataW.trod enc P w base spare held n f.type ((cs.drop f.offset).take (P.cellsOf f.type)) = some y := by
          intro f hm
          obtain ⟨i, hi, rfl⟩ := List.getElem_of_mem hm
          have hi' : i < fs.size := by simpa using hi
          have := hf i fs[i] (by simp [hi'])
          rw [List.getElem?_eq_getElem (by omega)] at this
          exact ⟨_, by simpa using this⟩
        have key : ∀ (fs : List Field) (o : Nat) (l : List CK), flatF P (flatK P d) o fs = some l → (∀ f ∈ fs, ∃ y, DataW.trod enc P w base spare held n f.type ((cs.drop f.offset).take (P.cellsOf f.type)) = some y) →
            CellsAre l ((cs.drop o).take l.length) := by
          intro fs
          induction fs with
          | nil => intro o l hl _; simp [flatF] at hl; subst hl; simp [CellsAre]
          | cons f r ih =>
            intro o l hl hm
            simp only [flatF] at hl
            split at hl
            · rename_i a ha
              split at hl
              · rename_i m hm2
                obtain ⟨h1, rfl⟩ := bif_opt hl
                simp only [Bool.and_eq_true] at h1
                have e0 := beq_true h1.1
                have e1 := beq_true h1.2
                obtain ⟨y, hy⟩ := hm f (List.mem_cons_self ..)
                have q1 := trod_flat d ha hy
                have q2 := ih _ _ hm2 (fun g hg => hm g (List.mem_cons_of_mem _ hg))
                rw [e0, ← e1] at q1
                rw [← e1, ← List.drop_drop] at q2
                rw [List.length_append, List.take_add]
                exact q1.append q2
              · cases hl
            · cases hl
        have := key fs.toList 0 l hl hfl
        rw [List.drop_zero, List.take_of_length_le (by omega)] at this
        exact this
      · cases h
    · rename_i n e hu
      split at h
      · rename_i l hl
        obtain ⟨h1, rfl⟩ := bif_opt h
        simp only [Bool.and_eq_true] at h1
        have e1 := beq_true h1.1
        have e2 := beq_true h1.2
        obtain ⟨xs, m, _, _, hlen, hxl, hf⟩ := DataW.trod_array hu hx
        have key : ∀ (q j : Nat), j + q = n → CellsAre (List.replicate q l).flatten ((cs.drop (j * P.cellsOf e)).take (q * P.cellsOf e)) := by
          intro q
          induction q with
          | zero => intro j _; simp [CellsAre]
          | succ q ih =>
            intro j hj
            have h3 := hf j (by omega)
            rw [List.getElem?_eq_getElem (by omega)] at h3
            have q1 := trod_flat d hl h3
            have q2 := ih (j + 1) (by omega)
            rw [List.replicate_succ, List.flatten_cons, show (q + 1) * P.cellsOf e = P.cellsOf e + q * P.cellsOf e by rw [Nat.succ_mul, Nat.add_comm], List.take_add, List.drop_drop]
            rw [Nat.succ_mul] at q2
            exact q1.append q2
        have := key n 0 (by omega)
        rw [Nat.zero_mul, List.drop_zero, List.take_of_length_le (by omega)] at this
        exact this
      · cases h
    · cases h

/-- A struct or an array of truth values and whole numbers. -/
theorem open_flat {t : TypeId} {v : Value} {d : DataW H} {p : List MemPlace} {ks : List CK} {r : Reach} {b0 : Nat} (dep : Nat) (hs : isAggT P t = some true) (hk : flatK P dep t = some ks) (hval : Value.okWide P w r b0 t v) (h : DataW.Trod enc P w base spare held t v d p) :
    ∃ vs : List Value, v = .agg ⟨vs⟩ ∧ CellsAre ks vs := by
  obtain ⟨fuel, hf⟩ := h
  have : ∃ cs : Array Value, v = .agg cs := by
    unfold isAggT at hs
    unfold Value.okWide at hval
    split at hval
    · obtain ⟨cs, h1, _⟩ := hval; exact ⟨cs, h1⟩
    · obtain ⟨cs, h1, _⟩ := hval; exact ⟨cs, h1⟩
    · rename_i h1 h2
      exfalso
      split at hs
      · rename_i fs hu; exact h1 _ hu
      · rename_i n e hu; exact h2 _ _ hu
      · cases hs
      · cases hs
  obtain ⟨⟨cs⟩, rfl⟩ := this
  exact ⟨cs, rfl, trod_flat dep hk hf⟩

theorem open_i {t : TypeId} {k : IntKind} {v : Value} {d : DataW H} {p : List MemPlace} {r : Reach} {b0 : Nat} (ht : P.underlying t = some (.int k)) (hval : Value.okWide P w r b0 t v) (h : DataW.Trod enc P w base spare held t v d p) : ∃ n, v = .int k n ∧ k.min ≤ n ∧ n ≤ k.max := by
  obtain ⟨n, rfl, _, _, hw⟩ := open_int ht hval h
  simp only [Lit.wf, Bool.and_eq_true, decide_eq_true_eq] at hw
  exact ⟨n, rfl, hw.1, hw.2⟩
theorem open_b {t : TypeId} {v : Value} {d : DataW H} {p : List MemPlace} {r : Reach} {b0 : Nat} (ht : P.underlying t = some .bool) (hval : Value.okWide P w r b0 t v) (h : DataW.Trod enc P w base spare held t v d p) : ∃ b, v = .bool b := by
  obtain ⟨n, rfl, _⟩ := RowKit.open_bool ht hval h
  exact ⟨n, rfl⟩

/-- Whole numbers of one kind, row by row: elements of es cells. -/
structure RowIn (w : World) (k : IntKind) (es : Nat) (v : Value) (n : Nat) (xs : List Int) : Prop where
  len : xs.length = n * es
  rng : ∀ x ∈ xs, k.min ≤ x ∧ x ≤ k.max
  small : n ≤ 140737488355328
  lies : (∃ a, v = .slice a 0 0 ∧ n = 0) ∨ ∃ b off cap c T fr, v = .slice (some ⟨b, off, none⟩) n cap ∧ n ≤ cap ∧ w.heap[b]? = some (.cells c T fr) ∧ ∀ i, i < n * es → c[off + i]? = some (.int k (xs.getD i 0))

theorem cell_at {a : Addr} {i : Nat} {v : Value} (h : w.cell? (a.add i) = some v) (hi : i ≠ 0 ∨ a.spot = none) : ∃ c T fr, w.heap[a.block]? = some (.cells c T fr) ∧ c[a.off + i]? = some v := by
  obtain ⟨b, off, spot⟩ := a
  have e : (Addr.mk b off spot).add i = ⟨b, off + i, none⟩ := by
    unfold Addr.add
    rcases Nat.eq_zero_or_pos i with rfl | hp
    · rcases hi with h | h
      · exact (h rfl).elim
      · simp at h; subst h; rfl
    · rw [if_neg (by omega)]
  rw [e] at h
  unfold World.cell? at h
  split at h
  · rename_i c T fr hc
    exact ⟨c, T, fr, hc, by simpa using h⟩
  · cases h

/-- A slice whose elements are es numbers of one kind. -/
theorem open_row {t e : TypeId} {k : IntKind} {es : Nat} {v : Value} {d : DataW H} {p : List MemPlace} {r : Reach} {b0 : Nat} (dep : Nat) (ht : P.underlying t = some (.slice e)) (hk : flatK P dep e = some (List.replicate es (.i k))) (hes : es ≠ 0) (hc : P.cellsOf e = es) (hb : P.bytesOf e ≠ 0)
    (hval : Value.okWide P w r b0 t v) (h : DataW.Trod enc P w base (fun _ => true) held t v d p) (hsz : ∀ n ∈ d.weights P t, n ≤ reachBytes) : ∃ n xs, RowIn w k es v n xs := by
  obtain ⟨a0, len, cap, rfl⟩ := okWide_slice ht hval
  obtain ⟨fuel, hf⟩ := h
  rcases Deep.open_slice ht hf with ⟨hcs, hx⟩ | ⟨a, len', cap', m, n, D, Pl, hcs, _, hl, hm, hmm, hx, hel⟩
  · simp [Value.cells] at hcs
    obtain ⟨rfl, rfl, rfl⟩ := hcs
    exact ⟨0, [], by simp, by simp, by omega, .inl ⟨_, rfl, rfl⟩⟩
  · simp [Value.cells] at hcs
    obtain ⟨rfl, rfl, rfl⟩ := hcs
    simp only [if_true] at hmm
    subst m
    rcases Nat.eq_zero_or_pos cap with rfl | hp
    · have : len = 0 := by omega
      subst this
      exact ⟨0, [], by simp, by simp, by omega, .inl ⟨_, rfl, rfl⟩⟩
    -- the cells
    have cells : ∀ i, i < cap → ∀ j, j < es → ∃ x, w.cell? (a.add (i * es + j)) = some (.int k x) ∧ k.min ≤ x ∧ x ≤ k.max := by
      intro i hi j hj
      obtain ⟨cs', c1, c2⟩ := hel i hi
      rw [hc] at c1
      obtain ⟨_, c3, c4⟩ := World.cells?_some c1
      have c5 := trod_flat dep hk c2
      have c6 := c4 j hj
      rw [List.getElem?_eq_getElem (by omega)] at c6
      obtain ⟨x, hx, hr⟩ := c5.get (i := j) (k := .i k) (by simp [hj]) (List.getElem?_eq_getElem (by omega))
      rw [hx, Deep.add_add] at c6
      exact ⟨x, c6, hr⟩
    have hspot : a.spot = none := by
      obtain ⟨x, hx, _⟩ := cells 0 hp 0 (by omega)
      obtain ⟨b, off, spot⟩ := a
      simpa [Addr.add] using World.cell?_spot hx
    have cell : ∀ q, q < cap * es → ∃ x, w.cell? (a.add q) = some (.int k x) ∧ k.min ≤ x ∧ x ≤ k.max := by
      intro q hq
      have h1 : q / es < cap := Nat.div_lt_of_lt_mul (by rw [Nat.mul_comm]; exact hq)
      have := cells (q / es) h1 (q % es) (Nat.mod_lt _ (by omega))
      rwa [show q / es * es + q % es = q by rw [Nat.mul_comm]; exact Nat.div_add_mod q es] at this
    let X : Nat → Int := fun q => match w.cell? (a.add q) with | some (.int _ x) => x | _ => 0
    have hX : ∀ q, q < cap * es → w.cell? (a.add q) = some (.int k (X q)) ∧ k.min ≤ X q ∧ X q ≤ k.max := by
      intro q hq
      obtain ⟨x, h1, h2⟩ := cell q hq
      have : X q = x := by simp only [X, h1]
      rw [this]; exact ⟨h1, h2⟩
    have hlq : len * es ≤ cap * es := Nat.mul_le_mul_right _ hl
    obtain ⟨c, T, fr, g1, _⟩ := cell_at (hX 0 (Nat.mul_pos hp (by omega))).1 (.inr hspot)
    refine ⟨len, (List.range (len * es)).map X, by simp, fun x hx => ?_, ?_, .inr ⟨a.block, a.off, cap, c, T, fr, ?_, hl, g1, fun i hi => ?_⟩⟩
    · obtain ⟨q, hq, rfl⟩ := List.mem_map.1 hx
      exact (hX q (by have := List.mem_range.1 hq; omega)).2
    · have hd : d = .slice ((List.range len).map D) ((List.range (cap - len)).map fun j => D (len + j)) := congrArg Prod.fst hx
      have := hsz ((len + (cap - len)) * P.bytesOf e) (by subst hd; simp [DataW.weights, ht])
      have h2 : len + (cap - len) ≤ (len + (cap - len)) * P.bytesOf e := Nat.le_mul_of_pos_right _ (Nat.pos_of_ne_zero hb)
      have h3 := reachBytes_lt
      omega
    · obtain ⟨b, off, spot⟩ := a
      simp only at hspot
      subst hspot
      rfl
    · obtain ⟨c', T', fr', g3, g4⟩ := cell_at (hX i (by omega)).1 (.inr hspot)
      rw [g1] at g3
      cases g3
      rw [g4]
      congr 2
      rw [List.getD_eq_getElem?_getD, List.getElem?_map, List.getElem?_range (by omega)]
      rfl
end

/-! ### the abstract memory of arguments that are only read -/
def allRead (h : Heap) : Prop := ∀ (id : Nat) (blk : Blk), h[id]? = some (some blk) → blk.own = false

theorem HR_nil (w : World) : HR (fun _ => none) w.heap.size [] w := by
  refine ⟨fun id blk h => ?_, fun id l h => ?_, fun id id' blk blk' l l' h => ?_, fun id blk l h => ?_, Nat.le_refl _⟩
  · simp at h
  · cases h
  · simp at h
  · simp at h
theorem allRead_nil : allRead [] := fun id blk h => by simp at h

theorem allRead.snoc {h : Heap} (ha : allRead h) {b : Blk} (hb : b.own = false) : allRead (h ++ [some b]) := by
  intro id blk hh
  rcases getElem?_snoc hh with h1 | ⟨_, h1⟩
  · exact ha id blk h1
  · cases h1; exact hb

/-- A block that is only read, and lies in the world. -/
theorem HR_read {ι : Map} {base : Nat} {h : Heap} {w : World} (hr : HR ι base h w) (ha : allRead h) {b o es : Nat} {c : Array Value} {T : TypeId} {fr : Nat × Nat} {sg : List Seg} (hb : w.heap[b]? = some (.cells c T fr)) (hok : segsOK sg)
    (hc : ∀ (i : Nat) (v : Value), cell? sg i = some v → ∃ v', c[o + i]? = some v' ∧ VR ι v v') : HR (ι.put h.length ⟨b, o, c.size, es⟩) base (h ++ [some ⟨false, es, sg⟩]) w := by
  have le := Map.le_put (id := h.length) ⟨b, o, c.size, es⟩ (hr.fresh (Nat.le_refl _))
  have ha2 := ha.snoc (b := ⟨false, es, sg⟩) rfl
  have hbl := (Array.getElem?_eq_some_iff.1 hb).1
  refine ⟨fun id blk hh => ?_, fun id l hl => ?_, fun id id' blk blk' l l' hh _ ho => (by rw [ha2 id blk hh] at ho; cases ho), fun id blk l hh ho => (by rw [ha2 id blk hh] at ho; cases ho), hr.base_le⟩
  · rcases getElem?_snoc hh with h1 | ⟨rfl, h1⟩
    · have hi := (List.getElem?_eq_some_iff.1 h1).1
      rcases hr.live id blk h1 with ⟨p1, p2⟩ | ⟨l, p1, p2⟩
      · exact .inl ⟨by rw [Map.put_ne _ _ (by omega)]; exact p1, p2⟩
      · exact .inr ⟨l, le _ _ p1, p2.mono le⟩
    · cases h1
      refine .inr ⟨_, Map.put_same _ _ _, .inl ⟨c, T, fr, hb, rfl, rfl, hok, fun i v hv => ?_, fun ho => by cases ho⟩⟩
      obtain ⟨v', q1, q2⟩ := hc i v hv
      exact ⟨v', q1, q2.mono le⟩
  · by_cases e : id = h.length
    · subst e
      rw [Map.put_same] at hl
      cases hl
      simp only [List.length_append, List.length_cons, List.length_nil]
      exact ⟨by omega, hbl⟩
    · rw [Map.put_ne _ _ e] at hl
      have := hr.dom id l hl
      simp only [List.length_append, List.length_cons, List.length_nil]
      exact ⟨by omega, this.2⟩

theorem cell_ints {k : IntKind} {n : Nat} {xs : List Int} {i : Nat} {v : Value} (h : cell? [.ints k n xs] i = some v) : i < n ∧ v = .int k (xs.getD i 0) := by
  simp only [cell?] at h
  split at h
  · rename_i hi; cases h; exact ⟨hi, rfl⟩
  · cases h

/-- A slice of numbers, as it is told. -/
theorem RowIn.put {ι : Map} {h : Heap} {w : World} {k : IntKind} {es n : Nat} {v : Value} {xs : List Int} (hx : RowIn w k es v n xs) (hr : HR ι w.heap.size h w) (ha : allRead h) :
    ∃ ι', Map.le ι ι' ∧ HR ι' w.heap.size (h ++ [some ⟨false, es, [.ints k (n * es) xs]⟩]) w ∧ VR ι' (.slice (some ⟨h.length, 0, none⟩) n 2) v := by
  have hok : segsOK [.ints k (n * es) xs] := by
    intro s hs
    simp only [List.mem_singleton] at hs
    subst hs
    exact ⟨hx.len, hx.rng⟩
  rcases hx.lies with ⟨a, rfl, rfl⟩ | ⟨b, off, cap, c, T, fr, rfl, hl, hb, hc⟩
  · refine ⟨ι, Map.le_refl _, HR_empty hr hok (fun i => ?_), .slZero a⟩
    simp [cell?]
  · refine ⟨_, Map.le_put _ (hr.fresh (Nat.le_refl _)), HR_read hr ha (o := off) (es := es) hb hok fun i v hv => ?_, ?_⟩
    · obtain ⟨h1, rfl⟩ := cell_ints hv
      refine ⟨_, hc i h1, ?_⟩
      have hi : i < xs.length := by rw [hx.len]; exact h1
      exact .int _ _ (hx.rng _ (by rw [List.getD_eq_getElem?_getD, List.getElem?_eq_getElem hi]; exact List.getElem_mem hi))
    · have := hx.small
      have e := Map.put_same ι h.length ⟨b, off, c.size, es⟩
      exact VR.sl (off := 0) e (by omega) hl (fun h => by cases h) (fun h => by cases h)

theorem VR.cellIs {ι : Map} {k : CK} {v : Value} (h : CellIs k v) : VR ι v v := by
  cases k with
  | b => obtain ⟨x, rfl⟩ := h; exact .bool x
  | i k => obtain ⟨n, rfl, hr⟩ := h; exact .int _ _ hr

theorem VR.flat {ι : Map} {ks : List CK} {vs : List Value} (h : CellsAre ks vs) : VR ι (.agg ⟨vs⟩) (.agg ⟨vs⟩) := .agg rfl fun i v v' a b => by
  rw [a] at b
  cases b
  have hi := (List.getElem?_eq_some_iff.1 (show vs[i]? = some v by simpa using a)).1
  exact VR.cellIs (h.get (i := i) (k := ks[i]'(by rw [h.len]; exact hi)) (List.getElem?_eq_getElem _) (by simpa using a))

/-- A law that only reads what it is handed. -/
theorem law_mem {P : Program} {g : FuncId} {F : FSpec} (he : EntryOK P g F) {ι : Map} {args : List Value} {args' : Array Value} {h : Heap} {w : World} (hF : ∀ k, F args h k = k (.bool true) h) (hr : HR ι w.heap.size h w) (ha : allRead h) (hv : VRs ι args args'.toList)
    (hb : (P.funcs[g]?).any (fun fn => fn.body.isSome && !(fn.name == "runtime.NumGoroutine")) = true) : Calls P g args' w fun e w' => e = .returned (.bool true) ∧ RowKit.Below w.heap.size w w' := by
  obtain ⟨v, h', e, hc⟩ := he args h (fun v h => some (.ret v h)) _ (hF _)
  cases e
  rcases hc ι w.heap.size w args' hr hv with ⟨_, h2⟩ | ⟨v', w', h1, _⟩
  · refine h2.mono fun e w' ⟨v', he, ι', ha'⟩ => ?_
    have := ha'.vr.bool_inv
    subst this
    have hno : ∀ b, ¬ mods ι h b := by
      rintro b ⟨id, blk, l, hh, ho, _⟩
      rw [ha id blk hh] at ho; cases ho
    exact ⟨he, ⟨ha'.fr.os, ha'.fr.tape, ha'.fr.out, ha'.fr.size, fun i hi => ha'.fr.same i hi (hno i)⟩⟩
  · exfalso
    cases hf : P.funcs[g]? with
    | none => simp [hf] at hb
    | some fn =>
      simp [hf] at hb
      obtain ⟨hb1, hb2⟩ := hb
      cases hbody : fn.body with
      | none => simp [hbody] at hb1
      | some c => simp [callFunc, hf, hbody, hb2] at h1
end Go.Proofs.Ytcjjngdkkihgjaa.VC

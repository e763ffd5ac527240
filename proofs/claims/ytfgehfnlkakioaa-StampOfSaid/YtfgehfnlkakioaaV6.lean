/- The heap under operations. -/
import Derived.Test.YtfgehfnlkakioaaV5
import Derived.Laws.Sem
import Derived.Laws.Cells
import Derived.Laws.World
namespace Go.Proofs.Ytfgehfnlkakioaa.VC
open Go

def Map.put (ι : Map) (id : Nat) (l : Loc) : Map := fun i => if i = id then some l else ι i
theorem Map.put_same (ι : Map) (id : Nat) (l : Loc) : ι.put id l id = some l := by simp [Map.put]
theorem Map.put_ne (ι : Map) {id i : Nat} (l : Loc) (h : i ≠ id) : ι.put id l i = ι i := by simp [Map.put, h]
theorem Map.le_put {ι : Map} {id : Nat} (l : Loc) (h : ι id = none) : Map.le ι (ι.put id l) := fun i x hx => by
  by_cases e : i = id
  · subst e; rw [h] at hx; cases hx
  · rw [Map.put_ne _ _ e]; exact hx

theorem HR.fresh {ι : Map} {base : Nat} {h : Heap} {w : World} (hr : HR ι base h w) {id : Nat} (hi : h.length ≤ id) : ι id = none := by
  cases hx : ι id with
  | none => rfl
  | some l => have := (hr.dom id l hx).1; omega

/-- A new block. -/
theorem HR_push {ι : Map} {base : Nat} {h : Heap} {w w' : World} (hr : HR ι base h w) {c : Array Value} {T : TypeId} (es : Nat) {sg : List Seg} (hw : w'.heap = w.heap.push (.cells c T))
    (hok : segsOK sg) (hc : ∀ (i : Nat) (v : Value), cell? sg i = some v → ∃ v', c[i]? = some v' ∧ VR ι v v') :
    HR (ι.put h.length ⟨w.heap.size, 0, c.size, es⟩) base (h ++ [some ⟨true, es, sg⟩]) w' := by
  have hf := hr.fresh (Nat.le_refl _)
  have le := Map.le_put (id := h.length) ⟨w.heap.size, 0, c.size, es⟩ hf
  have keep : ∀ b, b < w.heap.size → w'.heap[b]? = w.heap[b]? := fun b hb => by rw [hw, Array.getElem?_push_lt hb, Array.getElem?_eq_getElem hb]
  have hsz : w'.heap.size = w.heap.size + 1 := by rw [hw]; simp
  have split : ∀ (id : Nat) (blk : Blk), (h ++ [some ⟨true, es, sg⟩])[id]? = some (some blk) → (id < h.length ∧ h[id]? = some (some blk)) ∨ (id = h.length ∧ blk = ⟨true, es, sg⟩) := by
    intro id blk hb
    by_cases hi : id < h.length
    · rw [List.getElem?_append_left hi] at hb; exact .inl ⟨hi, hb⟩
    · rw [List.getElem?_append_right (by omega)] at hb
      have := (List.getElem?_eq_some_iff.1 hb).1
      simp at this
      have : id - h.length = 0 := by omega
      rw [this] at hb
      simp at hb
      exact .inr ⟨by omega, hb.symm⟩
  refine ⟨fun id blk hb => ?_, fun id l hl => ?_, fun id id' blk blk' l l' hb hb' ho hne hl hl' => ?_, fun id blk l hb ho hl => ?_, by have := hr.base_le; omega⟩
  · rcases split id blk hb with ⟨hi, hb⟩ | ⟨rfl, rfl⟩
    · rcases hr.live id blk hb with ⟨p1, p2⟩ | ⟨l, p1, p2⟩
      · exact .inl ⟨by rw [Map.put_ne _ _ (by omega)]; exact p1, p2⟩
      · exact .inr ⟨l, le _ _ p1, (p2.same (keep _ (hr.dom id l p1).2)).mono le⟩
    · refine .inr ⟨_, Map.put_same _ _ _, c, T, (0, 0), by rw [hw]; simp, rfl, rfl, hok, fun i v hv => ?_, fun _ i => by simp⟩
      obtain ⟨v', a, b⟩ := hc i v hv
      exact ⟨v', by simpa using a, b.mono le⟩
  · by_cases e : id = h.length
    · subst e
      rw [Map.put_same] at hl
      simp only [Option.some.injEq] at hl
      subst hl
      simp [hsz]
    · rw [Map.put_ne _ _ e] at hl
      have := hr.dom id l hl
      simp; omega
  · rcases split id blk hb with ⟨hi, hb⟩ | ⟨rfl, rfl⟩ <;> rcases split id' blk' hb' with ⟨hi', hb'⟩ | ⟨rfl, rfl⟩
    · rw [Map.put_ne _ _ (by omega)] at hl hl'
      exact hr.inj id id' blk blk' l l' hb hb' ho hne hl hl'
    · rw [Map.put_ne _ _ (by omega)] at hl
      rw [Map.put_same] at hl'
      simp only [Option.some.injEq] at hl'
      subst hl'
      have := (hr.dom id l hl).2
      simp; omega
    · rw [Map.put_ne _ _ (by omega)] at hl'
      rw [Map.put_same] at hl
      simp only [Option.some.injEq] at hl
      subst hl
      have := (hr.dom id' l' hl').2
      simp; omega
    · exact (hne rfl).elim
  · rcases split id blk hb with ⟨hi, hb⟩ | ⟨rfl, rfl⟩
    · rw [Map.put_ne _ _ (by omega)] at hl
      exact hr.own id blk l hb ho hl
    · rw [Map.put_same] at hl
      simp only [Option.some.injEq] at hl
      subst hl
      exact hr.base_le

/-- The world's other parts stay. -/
structure Still (w w' : World) : Prop where
  os : w'.os = w.os
  out : w'.output = w.output
  tape : w'.tape = w.tape

theorem Still.refl (w : World) : Still w w := ⟨rfl, rfl, rfl⟩

theorem frozen_push {w w' : World} {c : Array Value} {T : TypeId} (hw : w'.heap = w.heap.push (.cells c T)) (a : Addr) : w'.frozen? a = w.frozen? a := by
  simp only [World.frozen?, hw]
  by_cases h : a.block < w.heap.size
  · rw [Array.getElem?_push_lt h, Array.getElem?_eq_getElem h]
  · by_cases e : a.block = w.heap.size
    · rw [e]
      simp
    · rw [Array.getElem?_eq_none (by simp; omega), Array.getElem?_eq_none (by omega)]

theorem frozen_set {w w' : World} {b : Nat} {c c' : Array Value} {T : TypeId} {fr : Nat × Nat} (h0 : w.heap[b]? = some (.cells c T fr)) (hw : w'.heap = w.heap.setIfInBounds b (.cells c' T fr)) (a : Addr) : w'.frozen? a = w.frozen? a := by
  simp only [World.frozen?, hw]
  by_cases e : b = a.block
  · subst e
    rw [h0]
    simp [(Array.getElem?_eq_some_iff.1 h0).1]
  · rw [Array.getElem?_setIfInBounds_ne e]

theorem mods_push {ι : Map} {h : Heap} {l0 : Loc} {blk : Blk} {b : Nat} (hm : mods (ι.put h.length l0) (h ++ [some blk]) b) : l0.b = b ∨ mods ι h b := by
  obtain ⟨id, blk', l, hb, ho, hl, rfl⟩ := hm
  by_cases hi : id < h.length
  · rw [List.getElem?_append_left hi] at hb
    rw [Map.put_ne _ _ (by omega)] at hl
    exact .inr ⟨id, blk', l, hb, ho, hl, rfl⟩
  · rw [List.getElem?_append_right (by omega)] at hb
    have := (List.getElem?_eq_some_iff.1 hb).1
    simp at this
    have : id = h.length := by omega
    subst this
    rw [Map.put_same] at hl
    simp only [Option.some.injEq] at hl
    subst hl
    exact .inl rfl

theorem mods_set {ι : Map} {h : Heap} {id : Nat} {x : Option Blk} {b : Nat} (hx : ∀ blk, x = some blk → ∃ blk0 : Blk, h[id]? = some (some blk0) ∧ blk0.own = true) (hm : mods ι (h.set id x) b) : mods ι h b := by
  obtain ⟨id', blk', l, hb, ho, hl, rfl⟩ := hm
  by_cases e : id = id'
  · subst e
    have := (List.getElem?_eq_some_iff.1 hb).1
    simp only [List.length_set] at this
    rw [List.getElem?_set_self this] at hb
    simp only [Option.some.injEq] at hb
    obtain ⟨blk0, h1, h2⟩ := hx _ hb
    exact ⟨id, blk0, l, h1, h2, hl, rfl⟩
  · rw [List.getElem?_set_ne e] at hb
    exact ⟨id', blk', l, hb, ho, hl, rfl⟩

theorem after_push {ι : Map} {base : Nat} {h : Heap} {w w' : World} (hr : HR ι base h w) {c : Array Value} {T : TypeId} {es : Nat} {sg : List Seg} {v v' : Value} (hw : w'.heap = w.heap.push (.cells c T))
    (hs : Still w w') (hok : segsOK sg) (hc : ∀ (i : Nat) (v : Value), cell? sg i = some v → ∃ v', c[i]? = some v' ∧ VR ι v v')
    (hv : ∀ ι' : Map, ι' h.length = some ⟨w.heap.size, 0, c.size, es⟩ → VR ι' v v') : After ι base h w v (h ++ [some ⟨true, es, sg⟩]) v' w' (fun _ => False) := by
  refine ⟨ι.put h.length ⟨w.heap.size, 0, c.size, es⟩, Map.le_put _ (hr.fresh (Nat.le_refl _)), fun id l hl => ?_, HR_push hr es hw hok hc, hv _ (Map.put_same _ _ _), ?_, fun b hb hlt => ?_⟩
  · by_cases e : id = h.length
    · subst e
      rw [Map.put_same] at hl
      simp only [Option.some.injEq] at hl
      subst hl
      exact .inr ⟨Nat.le_refl _, .inl (Nat.le_refl _)⟩
    · rw [Map.put_ne _ _ e] at hl; exact .inl hl
  · exact ⟨by rw [hw]; simp, fun b hb _ => by rw [hw, Array.getElem?_push_lt hb, Array.getElem?_eq_getElem hb], hs.os, hs.out, hs.tape, frozen_push hw⟩
  · rcases mods_push hb with e | e
    · simp only at e; omega
    · exact e

/-- Nothing but draws. -/
theorem after_same {ι : Map} {base : Nat} {h : Heap} {w w' : World} (hr : HR ι base h w) {v v' : Value} (hw : w'.heap = w.heap) (hs : Still w w') (hv : VR ι v v') (m : Nat → Prop) :
    After ι base h w v h v' w' m :=
  ⟨ι, Map.le_refl _, fun id l hl => .inl hl, hr.sameHeap hw, hv, ⟨by rw [hw]; exact Nat.le_refl _, fun b _ _ => by rw [hw], hs.os, hs.out, hs.tape, fun a => by simp only [World.frozen?, hw]⟩, fun _ x _ => x⟩

/-- A block that may be written turns. -/
theorem HR_upd {ι : Map} {base : Nat} {h : Heap} {w w2 : World} (hr : HR ι base h w) {id : Nat} {es : Nat} {sg sg' : List Seg} {l : Loc} (hb : h[id]? = some (some ⟨true, es, sg⟩)) (hl : ι id = some l)
    {c c' : Array Value} {T : TypeId} {fr : Nat × Nat} (hw : w.heap[l.b]? = some (.cells c T fr)) (hw2 : w2.heap = w.heap.setIfInBounds l.b (.cells c' T fr)) (hsz : c'.size = c.size) (hok : segsOK sg')
    (hc : ∀ (i : Nat) (v : Value), cell? sg' i = some v → ∃ v', c'[l.o + i]? = some v' ∧ VR ι v v') : HR ι base (h.set id (some ⟨true, es, sg'⟩)) w2 := by
  have hlt := (List.getElem?_eq_some_iff.1 hb).1
  have hbl := (Array.getElem?_eq_some_iff.1 hw).1
  have other : ∀ b, b ≠ l.b → w2.heap[b]? = w.heap[b]? := fun b hne => by rw [hw2, Array.getElem?_setIfInBounds_ne (fun e => hne e.symm)]
  have get : ∀ (id' : Nat) (blk : Blk), (h.set id (some ⟨true, es, sg'⟩))[id']? = some (some blk) → (id' = id ∧ blk = ⟨true, es, sg'⟩) ∨ (id' ≠ id ∧ h[id']? = some (some blk)) := by
    intro id' blk hx
    by_cases e : id' = id
    · subst e
      simp [hlt] at hx
      exact .inl ⟨rfl, hx.symm⟩
    · rw [List.getElem?_set_ne (fun x => e x.symm)] at hx
      exact .inr ⟨e, hx⟩
  refine ⟨fun id' blk hx => ?_, fun id' l' hl' => ?_, fun a a' blk blk' x x' hx hx' ho hne hl1 hl2 => ?_, fun a blk x hx ho hl1 => ?_, by rw [hw2]; simpa using hr.base_le⟩
  · rcases get id' blk hx with ⟨rfl, rfl⟩ | ⟨e, hx⟩
    · rcases hr.live id' _ hb with ⟨p1, _⟩ | ⟨l0, p1, c0, T0, fr0, q1, q2, q3, _, _, q6⟩
      · rw [hl] at p1; cases p1
      · rw [hl] at p1
        simp only [Option.some.injEq] at p1
        subst p1
        rw [hw] at q1
        simp only [Option.some.injEq, Obj.cells.injEq] at q1
        obtain ⟨rfl, rfl, rfl⟩ := q1
        refine .inr ⟨l, hl, c', T, fr, by rw [hw2]; simp [hbl], by rw [hsz]; exact q2, q3, hok, hc, q6⟩
    · rcases hr.live id' blk hx with ⟨p1, p2⟩ | ⟨l', p1, p2⟩
      · exact .inl ⟨p1, p2⟩
      · exact .inr ⟨l', p1, p2.same (other _ (hr.inj id id' _ blk l l' hb hx rfl (fun x => e x.symm) hl p1).symm)⟩
  · have := hr.dom id' l' hl'
    rw [hw2]
    simpa using this
  · rcases get a blk hx with ⟨e1, e2⟩ | ⟨e, hy⟩ <;> rcases get a' blk' hx' with ⟨e3, e4⟩ | ⟨e', hy'⟩
    · exact (hne (e1.trans e3.symm)).elim
    · subst e1; exact hr.inj _ a' _ blk' x x' hb hy' rfl hne hl1 hl2
    · subst e3; exact hr.inj a _ blk _ x x' hy hb ho hne hl1 hl2
    · exact hr.inj a a' blk blk' x x' hy hy' ho hne hl1 hl2
  · rcases get a blk hx with ⟨rfl, rfl⟩ | ⟨e, hx⟩
    · exact hr.own _ _ x hb rfl hl1
    · exact hr.own a blk x hx ho hl1

/-- A block is let go. -/
theorem HR_kill {ι : Map} {base : Nat} {h : Heap} {w : World} (hr : HR ι base h w) (id : Nat) : HR ι base (h.set id none) w := by
  have get : ∀ (id' : Nat) (blk : Blk), (h.set id none)[id']? = some (some blk) → id' ≠ id ∧ h[id']? = some (some blk) := by
    intro id' blk hx
    by_cases e : id' = id
    · subst e
      have := (List.getElem?_eq_some_iff.1 hx).1
      simp at this
      simp [this] at hx
    · rw [List.getElem?_set_ne (fun x => e x.symm)] at hx
      exact ⟨e, hx⟩
  refine ⟨fun id' blk hx => hr.live id' blk (get id' blk hx).2, fun id' l hl => by simpa using hr.dom id' l hl, fun a a' blk blk' x x' hx hx' ho hne hl1 hl2 => ?_, fun a blk x hx ho hl1 => ?_, hr.base_le⟩
  · exact hr.inj a a' blk blk' x x' (get a blk hx).2 (get a' blk' hx').2 ho hne hl1 hl2
  · exact hr.own a blk x (get a blk hx).2 ho hl1

/-- A block that may be written goes on under a new number, from a place on. -/
theorem HR_move {ι : Map} {base : Nat} {h : Heap} {w : World} (hr : HR ι base h w) {id off es : Nat} {sg sg' : List Seg} {l : Loc} (hb : h[id]? = some (some ⟨true, es, sg⟩)) (hl : ι id = some l)
    {c : Array Value} {T : TypeId} {fr : Nat × Nat} (hw : w.heap[l.b]? = some (.cells c T fr)) (hok : segsOK sg')
    (hc : ∀ (i : Nat) (v : Value), cell? sg' i = some v → ∃ v', c[l.o + off + i]? = some v' ∧ VR ι v v') :
    HR (ι.put h.length ⟨l.b, l.o + off, l.sz, l.es⟩) base (h.set id none ++ [some ⟨true, es, sg'⟩]) w := by
  have hf := hr.fresh (Nat.le_refl _)
  have le := Map.le_put (id := h.length) ⟨l.b, l.o + off, l.sz, l.es⟩ hf
  have hlt := (List.getElem?_eq_some_iff.1 hb).1
  have split : ∀ (id' : Nat) (blk : Blk), (h.set id none ++ [some ⟨true, es, sg'⟩])[id']? = some (some blk) → (id' < h.length ∧ id' ≠ id ∧ h[id']? = some (some blk)) ∨ (id' = h.length ∧ blk = ⟨true, es, sg'⟩) := by
    intro id' blk hx
    by_cases hi : id' < h.length
    · rw [List.getElem?_append_left (by simpa using hi)] at hx
      by_cases e : id' = id
      · subst e; simp [hi] at hx
      · rw [List.getElem?_set_ne (fun x => e x.symm)] at hx
        exact .inl ⟨hi, e, hx⟩
    · rw [List.getElem?_append_right (by simp; omega)] at hx
      have := (List.getElem?_eq_some_iff.1 hx).1
      simp at this
      have : id' - h.length = 0 := by omega
      simp [this] at hx
      exact .inr ⟨by omega, hx.symm⟩
  refine ⟨fun id' blk hx => ?_, fun id' l' hl' => ?_, fun a a' blk blk' x x' hx hx' ho hne hl1 hl2 => ?_, fun a blk x hx ho hl1 => ?_, hr.base_le⟩
  · rcases split id' blk hx with ⟨hi, e, hx⟩ | ⟨rfl, rfl⟩
    · rcases hr.live id' blk hx with ⟨p1, p2⟩ | ⟨l', p1, p2⟩
      · exact .inl ⟨by rw [Map.put_ne _ _ (by omega)]; exact p1, p2⟩
      · exact .inr ⟨l', le _ _ p1, p2.mono le⟩
    · rcases hr.live id _ hb with ⟨p1, _⟩ | ⟨l0, p1, c0, T0, fr0, q1, q2, q3, _, _, q6⟩
      · rw [hl] at p1; cases p1
      · rw [hl] at p1
        simp only [Option.some.injEq] at p1
        subst p1
        rw [hw] at q1
        simp only [Option.some.injEq, Obj.cells.injEq] at q1
        obtain ⟨rfl, rfl, rfl⟩ := q1
        refine .inr ⟨_, Map.put_same _ _ _, c, T, fr, hw, q2, q3, hok, fun i v hv => ?_, q6⟩
        obtain ⟨v', a, b⟩ := hc i v hv
        exact ⟨v', a, b.mono le⟩
  · by_cases e : id' = h.length
    · subst e
      rw [Map.put_same] at hl'
      simp only [Option.some.injEq] at hl'
      subst hl'
      exact ⟨by simp, (hr.dom id l hl).2⟩
    · rw [Map.put_ne _ _ e] at hl'
      have := hr.dom id' l' hl'
      exact ⟨by simp; omega, this.2⟩
  · rcases split a blk hx with ⟨hi, e, hx⟩ | ⟨rfl, rfl⟩ <;> rcases split a' blk' hx' with ⟨hi', e', hx'⟩ | ⟨rfl, rfl⟩
    · rw [Map.put_ne _ _ (by omega)] at hl1 hl2
      exact hr.inj a a' blk blk' x x' hx hx' ho hne hl1 hl2
    · rw [Map.put_ne _ _ (by omega)] at hl1
      rw [Map.put_same] at hl2
      simp only [Option.some.injEq] at hl2
      subst hl2
      exact (hr.inj id a _ blk l x hb hx rfl (fun y => e y.symm) hl hl1).symm
    · rw [Map.put_ne _ _ (by omega)] at hl2
      rw [Map.put_same] at hl1
      simp only [Option.some.injEq] at hl1
      subst hl1
      exact hr.inj id a' _ blk' l x' hb hx' rfl (fun y => e' y.symm) hl hl2
    · exact (hne rfl).elim
  · rcases split a blk hx with ⟨hi, e, hx⟩ | ⟨rfl, rfl⟩
    · rw [Map.put_ne _ _ (by omega)] at hl1
      exact hr.own a blk x hx ho hl1
    · rw [Map.put_same] at hl1
      simp only [Option.some.injEq] at hl1
      subst hl1
      exact hr.own id _ l hb rfl hl

theorem addr_add (b o n : Nat) : Addr.add ⟨b, o, none⟩ n = ⟨b, o + n, none⟩ := by
  unfold Addr.add
  split
  · subst_vars; rfl
  · rfl

/-- Cells are written, one by one. -/
theorem run_store1 {P : Program} {w : World} {b i : Nat} {c : Array Value} {T : TypeId} {fr : Nat × Nat} {v : Value} (hw : w.heap[b]? = some (.cells c T fr)) (hf : ∀ j, ¬ (fr.1 ≤ j ∧ j < fr.2))
    (hi : i < c.size) (hv : isCell v = true) : (store ⟨b, i, none⟩ v).run P w = .ok () (w.setCell ⟨b, i, none⟩ v) := by
  have hc : w.cell? ⟨b, i, none⟩ = some c[i] := by simp [World.cell?, hw]
  have hz : w.frozen? ⟨b, i, none⟩ = false := by
    have := hf i
    simp only [World.frozen?, hw, Bool.and_eq_false_iff, decide_eq_false_iff_not]
    omega
  cases v <;> simp [isCell] at hv <;> simp [store, Sem.run, hc, hz]

theorem setCell_heap {w : World} {b i : Nat} {c : Array Value} {T : TypeId} {fr : Nat × Nat} {v : Value} (hw : w.heap[b]? = some (.cells c T fr)) :
    (w.setCell ⟨b, i, none⟩ v).heap = w.heap.setIfInBounds b (.cells (c.setIfInBounds i v) T fr) := by
  obtain ⟨hb, hw2⟩ := Array.getElem?_eq_some_iff.1 hw
  apply Array.ext_getElem?
  intro j
  simp only [World.setCell]
  rw [Array.getElem?_modify]
  by_cases e : b = j
  · subst e
    simp [hb, hw2]
  · rw [if_neg e, Array.getElem?_setIfInBounds_ne e]

theorem run_storeCells {P : Program} {b o : Nat} {T : TypeId} {fr : Nat × Nat} (hf : ∀ j, ¬ (fr.1 ≤ j ∧ j < fr.2)) : ∀ (vs : List Value) (i : Nat) (w : World) (c : Array Value), w.heap[b]? = some (.cells c T fr) →
    o + i + vs.length ≤ c.size → (∀ v ∈ vs, isCell v = true) →
    ∃ w2 c', (storeCells ⟨b, o, none⟩ vs i).run P w = .ok () w2 ∧ w2.heap = w.heap.setIfInBounds b (.cells c' T fr) ∧ Still w w2 ∧ c'.size = c.size ∧
      ∀ j, c'[j]? = if o + i ≤ j ∧ j < o + i + vs.length then vs[j - (o + i)]? else c[j]?
  | [], i, w, c, hw, hs, hv => by
    refine ⟨w, c, by simp [storeCells], ?_, Still.refl _, rfl, fun j => by
      have hn : ¬ (o + i ≤ j ∧ j < o + i + ([] : List Value).length) := by rintro ⟨h1, h2⟩; simp at h2; omega
      rw [if_neg hn]⟩
    obtain ⟨hb, hw2⟩ := Array.getElem?_eq_some_iff.1 hw
    apply Array.ext_getElem?
    intro j
    by_cases e : b = j
    · subst e; rw [hw]; simp [hb]
    · rw [Array.getElem?_setIfInBounds_ne e]
  | v :: vs, i, w, c, hw, hs, hv => by
    simp only [List.length_cons] at hs
    have h1 := run_store1 (P := P) (i := o + i) (v := v) hw hf (by omega) (hv v (List.mem_cons_self ..))
    have h2 := setCell_heap (i := o + i) (v := v) hw
    have hb := (Array.getElem?_eq_some_iff.1 hw).1
    obtain ⟨w2, c', a1, a2, a3, a4, a5⟩ := run_storeCells (P := P) (b := b) (o := o) (T := T) hf vs (i + 1) (w.setCell ⟨b, o + i, none⟩ v) (c.setIfInBounds (o + i) v) (by rw [h2]; simp [hb]) (by simp only [Array.size_setIfInBounds]; omega)
      (fun u hu => hv u (List.mem_cons_of_mem _ hu))
    refine ⟨w2, c', ?_, by rw [a2, h2]; simp, ⟨a3.os.trans rfl, a3.out.trans rfl, a3.tape.trans rfl⟩, by rw [a4]; simp, fun j => ?_⟩
    · simp only [storeCells, Sem.run_bind]
      rw [addr_add, h1]
      simpa using a1
    · rw [a5]
      by_cases hj : j = o + i
      · subst hj
        rw [if_neg (by omega), if_pos (by simp)]
        simp [show o + i < c.size by omega]
      · by_cases hj2 : o + (i + 1) ≤ j ∧ j < o + (i + 1) + vs.length
        · rw [if_pos hj2, if_pos (by simp; omega)]
          rw [show j - (o + i) = (j - (o + (i + 1))) + 1 by omega, List.getElem?_cons_succ]
        · rw [if_neg hj2, if_neg (by simp; omega)]
          simp [Array.getElem?_setIfInBounds_ne (fun e => hj e.symm : o + i ≠ j)]

theorem run_loadCells_rel {P : Program} {w : World} {b o : Nat} {c : Array Value} {T : TypeId} {fr : Nat × Nat} (hw : w.heap[b]? = some (.cells c T fr)) {n : Nat} (hn : o + n ≤ c.size) :
    (loadCells ⟨b, o, none⟩ n).run P w = .ok (c.extract o (o + n)) w := by
  rw [run_loadCells (w := w) (P := P) ⟨b, o, none⟩ n (fun j => c.getD (o + j) undef) (fun j hj => by
    rw [addr_add]
    simp only [World.cell?, hw]
    simp [show o + j < c.size by omega])]
  congr 1
  apply Array.ext
  · simp; omega
  · intro i h1 h2
    simp at h1 h2
    simp [show o + i < c.size by omega]

end Go.Proofs.Ytfgehfnlkakioaa.VC

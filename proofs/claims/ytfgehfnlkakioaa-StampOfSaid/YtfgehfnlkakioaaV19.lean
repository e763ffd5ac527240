/- What is found, told with less: a block's first cells; a nil slice as an empty one. -/
import Derived.Test.YtfgehfnlkakioaaV18
namespace Go.Proofs.Ytfgehfnlkakioaa.VC
open Go

theorem getElem?_snoc {h : Heap} {x : Option Blk} {id : Nat} {b : Blk} (hb : (h ++ [x])[id]? = some (some b)) : h[id]? = some (some b) ∨ (id = h.length ∧ x = some b) := by
  by_cases hi : id < h.length
  · rw [List.getElem?_append_left hi] at hb; exact .inl hb
  · rw [List.getElem?_append_right (by omega)] at hb
    have : id - h.length = 0 := by
      have := (List.getElem?_eq_some_iff.1 hb).1
      simp at this
      omega
    rw [this] at hb
    simp at hb
    exact .inr ⟨by omega, hb⟩

/-- Fewer cells of the last block. -/
theorem HR_less {ι : Map} {base : Nat} {h : Heap} {w : World} {own : Bool} {es : Nat} {sg sg2 : List Seg} (hr : HR ι base (h ++ [some ⟨own, es, sg⟩]) w) (hs : segsOK sg → segsOK sg2) (hc : ∀ i v, cell? sg2 i = some v → cell? sg i = some v) :
    HR ι base (h ++ [some ⟨own, es, sg2⟩]) w := by
  have back : ∀ {id : Nat} {b : Blk}, (h ++ [some ⟨own, es, sg2⟩])[id]? = some (some b) → ∃ b0 : Blk, (h ++ [some ⟨own, es, sg⟩])[id]? = some (some b0) ∧ b0.own = b.own ∧ b0.es = b.es ∧ (segsOK b0.segs → segsOK b.segs) ∧ ∀ i v, cell? b.segs i = some v → cell? b0.segs i = some v := by
    intro id b hb
    rcases getElem?_snoc hb with h1 | ⟨rfl, h1⟩
    · exact ⟨b, by rw [List.getElem?_append_left (List.getElem?_eq_some_iff.1 h1).1]; exact h1, rfl, rfl, fun x => x, fun _ _ x => x⟩
    · cases h1
      exact ⟨⟨own, es, sg⟩, by simp, rfl, rfl, hs, hc⟩
  refine ⟨fun id blk hb => ?_, fun id l hl => ?_, fun id id' blk blk' l l' hb hb' ho hne hl hl' => ?_, fun id blk l hb ho hl => ?_, hr.base_le⟩
  · obtain ⟨b0, q1, q2, q3, q4, q5⟩ := back hb
    rcases hr.live id b0 q1 with ⟨p1, p2, p3⟩ | ⟨l, p1, c, T, fr, r1, r2, r3, r4, r5, r6⟩
    · refine .inl ⟨p1, q4 p2, fun i => ?_⟩
      cases hx : cell? blk.segs i with
      | none => rfl
      | some v => have := q5 i v hx; rw [p3] at this; cases this
    · exact .inr ⟨l, p1, c, T, fr, r1, r2, by rw [← q3]; exact r3, q4 r4, fun i v hv => r5 i v (q5 i v hv), fun ho => r6 (by rw [q2]; exact ho)⟩
  · have := hr.dom id l hl
    simpa using this
  · obtain ⟨b0, q1, q2, _⟩ := back hb
    obtain ⟨b1, q3, _⟩ := back hb'
    exact hr.inj id id' b0 b1 l l' q1 q3 (by rw [q2]; exact ho) hne hl hl'
  · obtain ⟨b0, q1, q2, _⟩ := back hb
    exact hr.own id b0 l q1 (by rw [q2]; exact ho) hl

/-- A block that is not there, and holds nothing. -/
theorem HR_empty {ι : Map} {base : Nat} {h : Heap} {w : World} {own : Bool} {es : Nat} {sg : List Seg} (hr : HR ι base h w) (hs : segsOK sg) (hc : ∀ i, cell? sg i = none) : HR ι base (h ++ [some ⟨own, es, sg⟩]) w := by
  have no : ι h.length = none := hr.fresh (Nat.le_refl _)
  refine ⟨fun id blk hb => ?_, fun id l hl => ?_, fun id id' blk blk' l l' hb hb' ho hne hl hl' => ?_, fun id blk l hb ho hl => ?_, hr.base_le⟩
  · rcases getElem?_snoc hb with h1 | ⟨rfl, h1⟩
    · exact hr.live id blk h1
    · cases h1; exact .inl ⟨no, hs, hc⟩
  · have := hr.dom id l hl
    simp only [List.length_append, List.length_cons, List.length_nil]
    omega
  · rcases getElem?_snoc hb with h1 | ⟨rfl, _⟩
    · rcases getElem?_snoc hb' with h2 | ⟨rfl, _⟩
      · exact hr.inj id id' blk blk' l l' h1 h2 ho hne hl hl'
      · rw [no] at hl'; cases hl'
    · rw [no] at hl; cases hl
  · rcases getElem?_snoc hb with h1 | ⟨rfl, _⟩
    · exact hr.own id blk l h1 ho hl
    · rw [no] at hl; cases hl
end Go.Proofs.Ytfgehfnlkakioaa.VC

/- A map's entries in another order. -/
import Derived.Test.YthdeanljgdjbhaaPX
namespace Go.Proofs.Ythdeanljgdjbhaa.VC
open Go

/-- Real entries, one for each told one. -/
def Al (ι : Map) (E : List (Value × Value)) (rs : List MapEntry) : Prop := rs.map (·.key) = E.map (·.1) ∧ VRs ι (E.map (·.2)) (rs.map (·.val))
theorem Al.cons_inv {ι : Map} {e : Value × Value} {E : List (Value × Value)} {rs : List MapEntry} (h : Al ι (e :: E) rs) : ∃ r q, rs = r :: q ∧ r.key = e.1 ∧ VR ι e.2 r.val ∧ Al ι E q := by
  cases rs with
  | nil => have := congrArg List.length h.1; simp at this
  | cons r q =>
    have h1 := h.1
    simp only [List.map_cons, List.cons.injEq] at h1
    refine ⟨r, q, rfl, h1.1, h.2.2 0 _ _ rfl rfl, h1.2, by have := h.2.1; simpa using this, fun i v v' a b => h.2.2 (i + 1) v v' (by simpa using a) (by simpa using b)⟩
theorem Al.cons {ι : Map} {e : Value × Value} {E : List (Value × Value)} {r : MapEntry} {q : List MapEntry} (h1 : r.key = e.1) (h2 : VR ι e.2 r.val) (h3 : Al ι E q) : Al ι (e :: E) (r :: q) :=
  ⟨by simp only [List.map_cons, h1, h3.1], by simp only [List.map_cons]; exact VRs.cons h2 h3.2⟩
theorem Al.perm {ι : Map} {E E' : List (Value × Value)} (hp : E.Perm E') : ∀ {rs : List MapEntry}, Al ι E rs → ∃ rs', rs'.Perm rs ∧ Al ι E' rs' := by
  induction hp with
  | nil => intro rs h; exact ⟨rs, List.Perm.refl _, h⟩
  | cons e _ ih =>
    intro rs h
    obtain ⟨r, q, rfl, h1, h2, h3⟩ := h.cons_inv
    obtain ⟨q', p, a⟩ := ih h3
    exact ⟨r :: q', p.cons r, .cons h1 h2 a⟩
  | swap e f _ =>
    intro rs h
    obtain ⟨r, q, rfl, h1, h2, h3⟩ := h.cons_inv
    obtain ⟨r2, q2, rfl, g1, g2, g3⟩ := h3.cons_inv
    exact ⟨r2 :: r :: q2, List.Perm.swap _ _ _, .cons g1 g2 (.cons h1 h2 g3)⟩
  | trans _ _ ih1 ih2 =>
    intro rs h
    obtain ⟨q, p, a⟩ := ih1 h
    obtain ⟨q2, p2, a2⟩ := ih2 a
    exact ⟨q2, p2.trans p, a2⟩
theorem MapRel.perm {ι : Map} {l : Loc} {own lf : Bool} {es : Nat} {E E' : List (Value × Value)} {w : World} (hp : E.Perm E') (h : MapRel ι l ⟨own, es, [.mp lf E]⟩ w) : MapRel ι l ⟨own, es, [.mp lf E']⟩ w := by
  obtain ⟨os, clock, ents, h1, h2, h3, h4, h5, rs, h6, h7, h8⟩ := h
  obtain ⟨lf', h2, hf⟩ := h2
  simp only [List.cons.injEq, Seg.mp.injEq, and_true] at h2
  obtain ⟨rfl, rfl⟩ := h2
  obtain ⟨rs', p, a⟩ := Al.perm hp (rs := rs) ⟨h7, h8⟩
  exact ⟨os, clock, E', h1, ⟨lf, rfl, fun e q hq => hf e q ((hp.mem_iff).2 hq)⟩, h3, ((hp.map _).nodup_iff).1 h4, fun k hk => h5 k (((hp.map _).mem_iff).2 hk), rs', p.trans h6, a.1, a.2⟩
theorem WeakS.perm {s : Slots} {h : Heap} {id : Nat} {own lf : Bool} {es : Nat} {E E' : List (Value × Value)} (hb : h[id]? = some (some ⟨own, es, [.mp lf E]⟩)) (hp : E.Perm E') : WeakS s h s (h.set id (some ⟨own, es, [.mp lf E']⟩)) := by
  have hlt : id < h.length := (List.getElem?_eq_some_iff.1 hb).1
  have key : ∀ (i : Nat) (b2 : Blk), (h.set id (some ⟨own, es, [.mp lf E']⟩))[i]? = some (some b2) → (i = id ∧ b2 = ⟨own, es, [.mp lf E']⟩) ∨ h[i]? = some (some b2) := by
    intro i b2 hi
    by_cases e : i = id
    · subst e; rw [List.getElem?_set_self hlt] at hi; cases hi; exact .inl ⟨rfl, rfl⟩
    · rw [List.getElem?_set_ne (Ne.symm e)] at hi; exact .inr hi
  have back : ∀ (i : Nat) (b2 : Blk), (h.set id (some ⟨own, es, [.mp lf E']⟩))[i]? = some (some b2) → ∃ b1 : Blk, h[i]? = some (some b1) ∧ b1.own = b2.own := by
    intro i b2 hi
    rcases key i b2 hi with ⟨rfl, rfl⟩ | hi
    · exact ⟨_, hb, rfl⟩
    · exact ⟨b2, hi, rfl⟩
  refine ⟨by simp, fun ι n base w a hs hr => ⟨hs, ⟨fun i b2 hi => ?_, fun i l hl => ?_, fun i j b b' l l' hi hj ho hne hl hl' => ?_, fun i b l hi ho hl => ?_, hr.base_le⟩, fun b hm => mods_cells (fun i b2 hi => back i b2 hi) hm⟩⟩
  · rcases key i b2 hi with ⟨rfl, rfl⟩ | hi
    · rcases hr.live i _ hb with ⟨_, p2, _⟩ | ⟨l, p1, hrel⟩
      · exact (segsOK_mp p2).elim
      · exact .inr ⟨l, p1, .inr ((BlkRel.mp hrel).perm hp)⟩
    · exact hr.live i b2 hi
  · have := hr.dom i l hl
    exact ⟨by simpa using this.1, this.2⟩
  · obtain ⟨b1, q1, e1⟩ := back i b hi
    obtain ⟨b2, q2, _⟩ := back j b' hj
    exact hr.inj i j b1 b2 l l' q1 q2 (by rw [e1]; exact ho) hne hl hl'
  · obtain ⟨b1, q1, e1⟩ := back i b hi
    exact hr.own i b1 l q1 (by rw [e1]; exact ho) hl
end Go.Proofs.Ythdeanljgdjbhaa.VC

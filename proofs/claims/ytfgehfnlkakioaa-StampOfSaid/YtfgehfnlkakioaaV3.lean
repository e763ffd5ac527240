/- Renaming, cutting down, and calls. -/
import Derived.Test.YtfgehfnlkakioaaV2
namespace Go.Proofs.Ytfgehfnlkakioaa.VC
open Go

theorem idx_go {id : Nat} : ∀ {l : List Nat} {i j : Nat}, idx.go id l i = some j → i ≤ j ∧ l[j - i]? = some id
  | [], i, j, h => by simp [idx.go] at h
  | x :: r, i, j, h => by
    simp only [idx.go] at h
    cases hb : Nat.beq x id with
    | true =>
      rw [hb] at h
      simp at h
      subst h
      have := Nat.eq_of_beq_eq_true hb
      subst this
      exact ⟨Nat.le_refl _, by simp⟩
    | false =>
      rw [hb] at h
      simp only [cond_false] at h
      obtain ⟨h1, h2⟩ := idx_go h
      refine ⟨by omega, ?_⟩
      have : j - i = (j - (i + 1)) + 1 := by omega
      rw [this, List.getElem?_cons_succ]
      exact h2

theorem idx_get {l : List Nat} {id j : Nat} (h : idx l id = some j) : l[j]? = some id := by
  have := idx_go h
  simpa using this.2

theorem memN_false {x : Nat} : ∀ {l : List Nat}, memN x l = false → x ∉ l
  | [], _ => by simp
  | y :: r, h => by
    simp only [memN, Bool.or_eq_false_iff] at h
    have h1 : y ≠ x := fun e => by subst e; simp at h
    simp only [List.mem_cons, not_or]
    exact ⟨fun e => h1 e.symm, memN_false h.2⟩

theorem nodupB_nodup : ∀ {l : List Nat}, nodupB l = true → l.Nodup
  | [], _ => List.nodup_nil
  | x :: r, h => by
    simp only [nodupB, Bool.and_eq_true, Bool.not_eq_true'] at h
    exact List.nodup_cons.2 ⟨memN_false h.1, nodupB_nodup h.2⟩

/-- A renaming is in keeping with two maps. -/
def Keeps (f : Nat → Option Nat) (ι κ : Map) : Prop := ∀ (i j : Nat) (l : Loc), f i = some j → ι i = some l → κ j = some l

theorem renL_get {f : Value → Option Value} : ∀ {l l' : List Value}, renL f l = some l' → l'.length = l.length ∧ ∀ (i : Nat) (u : Value), l'[i]? = some u → ∃ v, l[i]? = some v ∧ f v = some u
  | [], l', h => by simp [renL] at h; subst h; exact ⟨rfl, fun i u hu => by simp at hu⟩
  | v :: r, l', h => by
    simp only [renL] at h
    cases hv : f v with
    | none => simp [hv] at h
    | some v' =>
      cases hr : renL f r with
      | none => simp [hv, hr] at h
      | some r' =>
        simp only [hv, hr, Option.some.injEq] at h
        subst h
        obtain ⟨h1, h2⟩ := renL_get hr
        refine ⟨by simp [h1], fun i u hu => ?_⟩
        cases i with
        | zero => simp at hu; subst hu; exact ⟨v, rfl, hv⟩
        | succ i => simp at hu; simpa using h2 i u hu

theorem renV_VR {f : Nat → Option Nat} {ι κ : Map} (hf : Keeps f ι κ) : ∀ (d : Nat) {v u v' : Value}, renV f d v = some u → VR ι v v' → VR κ u v'
  | 0, v, u, v', h, _ => by simp [renV] at h
  | d + 1, v, u, v', h, hv => by
    have arr : ∀ {cs cs' : Array Value} {us : List Value}, renL (renV f d) cs.toList = some us → cs.size = cs'.size → (∀ (i : Nat) (v v' : Value), cs[i]? = some v → cs'[i]? = some v' → VR ι v v') →
        us.toArray.size = cs'.size ∧ ∀ (i : Nat) (v v' : Value), us.toArray[i]? = some v → cs'[i]? = some v' → VR κ v v' := by
      intro cs cs' us hr hs hh
      obtain ⟨h1, h2⟩ := renL_get hr
      refine ⟨by simp [h1, hs], fun i a b ha hb => ?_⟩
      obtain ⟨c, hc1, hc2⟩ := h2 i a (by simpa using ha)
      exact renV_VR hf d hc2 (hh i c b (by simpa using hc1) hb)
    cases hv with
    | bool b => simp [renV] at h; subst h; exact .bool b
    | int k n hn => simp [renV] at h; subst h; exact .int k n hn
    | string s hs => simp [renV] at h; subst h; exact .string s hs
    | ptrNil => simp [renV] at h; subst h; exact .ptrNil
    | @ptr id off l hl =>
      simp only [renV] at h
      cases hj : f id with
      | none => simp [hj] at h
      | some j => simp [hj] at h; subst h; exact .ptr (hf _ _ _ hj hl)
    | slNil => simp [renV] at h; subst h; exact .slNil
    | @slZero id off c a =>
      simp only [renV] at h
      cases hj : f id with
      | none => simp [hj] at h
      | some j => simp [hj] at h; subst h; exact .slZero a
    | @sl id off len c c' l hl h0 h1 ht ha =>
      simp only [renV] at h
      cases hj : f id with
      | none => simp [hj] at h
      | some j => simp [hj] at h; subst h; exact .sl (hf _ _ _ hj hl) h0 h1 ht ha
    | nilFunc => simp [renV] at h; subst h; exact .nilFunc
    | nilIface => simp [renV] at h; subst h; exact .nilIface
    | @func fn xs xs' ys ys' h1 h2 h3 h4 =>
      simp only [renV] at h
      cases hx : renL (renV f d) xs.toList with
      | none => simp [hx] at h
      | some us => cases hy : renL (renV f d) ys.toList with
        | none => simp [hx, hy] at h
        | some ws =>
          simp only [hx, hy, Option.some.injEq] at h
          subst h
          exact .func fn (arr hx h1 h2).1 (arr hx h1 h2).2 (arr hy h3 h4).1 (arr hy h3 h4).2
    | @iface t v v' hv =>
      simp only [renV] at h
      cases hx : renV f d v with
      | none => simp [hx] at h
      | some u => simp [hx] at h; subst h; exact .iface t (renV_VR hf d hx hv)
    | @agg cs cs' h1 h2 =>
      simp only [renV] at h
      cases hx : renL (renV f d) cs.toList with
      | none => simp [hx] at h
      | some us => simp only [hx, Option.some.injEq] at h; subst h; exact .agg (arr hx h1 h2).1 (arr hx h1 h2).2
    | @tuple cs cs' h1 h2 =>
      simp only [renV] at h
      cases hx : renL (renV f d) cs.toList with
      | none => simp [hx] at h
      | some us => simp only [hx, Option.some.injEq] at h; subst h; exact .tuple (arr hx h1 h2).1 (arr hx h1 h2).2

theorem renL_VRs {f : Nat → Option Nat} {ι κ : Map} (hf : Keeps f ι κ) {d : Nat} {l l' ys : List Value} (h : renL (renV f d) l = some l') (hv : VRs ι l ys) : VRs κ l' ys := by
  obtain ⟨h1, h2⟩ := renL_get h
  refine ⟨h1.trans hv.1, fun i u y hu hy => ?_⟩
  obtain ⟨v, hv1, hv2⟩ := h2 i u hu
  exact renV_VR hf d hv2 (hv.2 i v y hv1 hy)

theorem renSegs_cell {f : Nat → Option Nat} : ∀ {l l' : List Seg}, renSegs f l = some l' →
    (segsOK l → segsOK l') ∧ ∀ (i : Nat) (u : Value), cell? l' i = some u → ∃ v d, cell? l i = some v ∧ renV f (d + 1) v = some u
  | [], l', h => by simp [renSegs] at h; subst h; exact ⟨fun h => h, fun i u hu => by simp [cell?] at hu⟩
  | .ints k n xs :: r, l', h => by
    simp only [renSegs] at h
    cases hr : renSegs f r with
    | none => simp [hr] at h
    | some r' =>
      simp only [hr, Option.some.injEq] at h
      subst h
      obtain ⟨h1, h2⟩ := renSegs_cell hr
      refine ⟨fun ho s hs => ?_, fun i u hu => ?_⟩
      · rcases List.mem_cons.1 hs with rfl | hs
        · exact ho _ (List.mem_cons_self ..)
        · exact h1 (fun s hs => ho s (List.mem_cons_of_mem _ hs)) s hs
      · simp only [cell?] at hu ⊢
        by_cases hi : i < n
        · rw [if_pos hi] at hu
          simp only [if_pos hi]
          simp at hu
          exact ⟨_, 0, rfl, by rw [← hu]; rfl⟩
        · rw [if_neg hi] at hu
          simp only [if_neg hi]
          exact h2 _ u hu
  | .vals vs :: r, l', h => by
    simp only [renSegs] at h
    cases hv : renL (renV f 6) vs with
    | none => simp [hv] at h
    | some vs' => cases hr : renSegs f r with
      | none => simp [hv, hr] at h
      | some r' =>
        simp only [hv, hr, Option.some.injEq] at h
        subst h
        obtain ⟨h1, h2⟩ := renSegs_cell hr
        obtain ⟨g1, g2⟩ := renL_get hv
        refine ⟨fun ho s hs => ?_, fun i u hu => ?_⟩
        · rcases List.mem_cons.1 hs with rfl | hs
          · trivial
          · exact h1 (fun s hs => ho s (List.mem_cons_of_mem _ hs)) s hs
        · simp only [cell?] at hu ⊢
          cases hc : vs'[i]? with
          | some x =>
            simp only [hc, Option.some.injEq] at hu
            subst hu
            obtain ⟨v, a, b⟩ := g2 i x hc
            simp only [a]
            exact ⟨v, 5, rfl, b⟩
          | none =>
            simp only [hc] at hu
            have : vs[i]? = none := by
              rw [List.getElem?_eq_none_iff] at hc ⊢
              omega
            simp only [this]
            rw [g1] at hu
            exact h2 _ u hu

theorem renB_spec {f : Nat → Option Nat} {blk : Blk} {b' : Option Blk} (h : renB f (some blk) = some b') : ∃ sg, renSegs f blk.segs = some sg ∧ b' = some ⟨blk.own, blk.es, sg⟩ := by
  obtain ⟨o, es, sg⟩ := blk
  simp only [renB] at h
  cases hs : renSegs f sg with
  | none => simp [hs] at h
  | some sg' => simp only [hs, Option.some.injEq] at h; exact ⟨sg', rfl, h.symm⟩

theorem renH_get {f : Nat → Option Nat} : ∀ {h h' : Heap}, renH f h = some h' → h'.length = h.length ∧ ∀ (i : Nat) (b' : Option Blk), h'[i]? = some b' → ∃ b, h[i]? = some b ∧ renB f b = some b'
  | [], h', h => by simp [renH] at h; subst h; exact ⟨rfl, fun i u hu => by simp at hu⟩
  | b :: r, h', h => by
    simp only [renH] at h
    cases hv : renB f b with
    | none => simp [hv] at h
    | some v' =>
      cases hr : renH f r with
      | none => simp [hv, hr] at h
      | some r' =>
        simp only [hv, hr, Option.some.injEq] at h
        subst h
        obtain ⟨h1, h2⟩ := renH_get hr
        refine ⟨by simp [h1], fun i u hu => ?_⟩
        cases i with
        | zero => simp at hu; subst hu; exact ⟨b, rfl, hv⟩
        | succ i => simp at hu; simpa using h2 i u hu

theorem BlkRel.ren {f : Nat → Option Nat} {ι κ : Map} (hf : Keeps f ι κ) {l : Loc} {blk : Blk} {sg : List Seg} {w : World} (hs : renSegs f blk.segs = some sg)
    (hb : BlkRel ι l blk w) : BlkRel κ l ⟨blk.own, blk.es, sg⟩ w := by
  obtain ⟨c, T, fr, h1, h2, h3, h4, h5, h6⟩ := hb
  obtain ⟨g1, g2⟩ := renSegs_cell hs
  refine ⟨c, T, fr, h1, h2, h3, g1 h4, fun i u hu => ?_, h6⟩
  obtain ⟨v, d, a, b⟩ := g2 i u hu
  obtain ⟨v', c1, c2⟩ := h5 i v a
  exact ⟨v', c1, renV_VR hf _ b c2⟩

theorem pick_get {h : Heap} : ∀ {σ : List Nat} {i : Nat} {b : Option Blk}, (pick h σ)[i]? = some b → ∃ id, σ[i]? = some id ∧ b = (match h[id]? with | some b => b | none => none)
  | [], i, b, hb => by simp [pick] at hb
  | x :: r, i, b, hb => by
    cases i with
    | zero => simp [pick] at hb; exact ⟨x, rfl, hb.symm⟩
    | succ i => simp [pick] at hb; simpa using pick_get hb

theorem pick_length {h : Heap} : ∀ {σ : List Nat}, (pick h σ).length = σ.length
  | [] => rfl
  | x :: r => by simp [pick, pick_length]

/-- The map behind a cut. -/
def cutMap (σ : List Nat) (ι : Map) : Map := fun j => (σ[j]?).bind ι

theorem cut_keeps (σ : List Nat) (ι : Map) : Keeps (idx σ) ι (cutMap σ ι) := fun i j l h hl => by simp [cutMap, idx_get h, hl]

/-- What a cut does. -/
theorem cut_HR {ι : Map} {base : Nat} {h h' : Heap} {w : World} {σ : List Nat} (hr : HR ι base h w) (hn : σ.Nodup) (hh : renH (idx σ) (pick h σ) = some h') : HR (cutMap σ ι) base h' w := by
  obtain ⟨g1, g2⟩ := renH_get hh
  rw [pick_length] at g1
  have get : ∀ (j : Nat) (blk' : Blk), h'[j]? = some (some blk') → ∃ id blk sg, σ[j]? = some id ∧ h[id]? = some (some blk) ∧ renSegs (idx σ) blk.segs = some sg ∧ blk' = ⟨blk.own, blk.es, sg⟩ := by
    intro j blk' hj
    obtain ⟨b, hb1, hb2⟩ := g2 j _ hj
    obtain ⟨id, hid, hb3⟩ := pick_get hb1
    cases b with
    | none => simp [renB] at hb2
    | some blk =>
      obtain ⟨sg, hs, he⟩ := renB_spec hb2
      refine ⟨id, blk, sg, hid, ?_, hs, by simpa using he⟩
      cases hx : h[id]? with
      | none => simp [hx] at hb3
      | some y => simp [hx] at hb3; rw [← hb3]
  refine ⟨fun j blk' hj => ?_, fun j l hj => ?_, fun j j' blk blk' l l' hj hj' ho hne hl hl' => ?_, fun j blk l hj ho hl => ?_, hr.base_le⟩
  · obtain ⟨id, blk, sg, h1, h2, h3, h4⟩ := get j blk' hj
    subst h4
    rcases hr.live id blk h2 with ⟨p1, p2⟩ | ⟨l, p1, p2⟩
    · refine .inl ⟨by simp [cutMap, h1, p1], (renSegs_cell h3).1 p2.1, fun i => ?_⟩
      cases hc : cell? sg i with
      | none => rfl
      | some u =>
        obtain ⟨v, d, a, b⟩ := (renSegs_cell h3).2 i u hc
        rw [p2.2] at a
        cases a
    · exact .inr ⟨l, by simp [cutMap, h1, p1], p2.ren (cut_keeps σ ι) h3⟩
  · simp only [cutMap] at hj
    cases hs : σ[j]? with
    | none => simp [hs] at hj
    | some id =>
      simp only [hs, Option.bind_some] at hj
      exact ⟨by rw [g1]; exact (List.getElem?_eq_some_iff.1 hs).1, (hr.dom id l hj).2⟩
  · obtain ⟨id, b1, s1, a1, a2, a3, a4⟩ := get j blk hj
    obtain ⟨id', b2, s2, c1, c2, c3, c4⟩ := get j' blk' hj'
    subst a4 c4
    simp only [cutMap, a1, c1, Option.bind_some] at hl hl'
    refine hr.inj id id' b1 b2 l l' a2 c2 ho (fun e => hne ?_) hl hl'
    subst e
    obtain ⟨x1, x2⟩ := List.getElem?_eq_some_iff.1 a1
    obtain ⟨y1, y2⟩ := List.getElem?_eq_some_iff.1 c1
    exact (List.getElem_inj hn).1 (x2.trans y2.symm)
  · obtain ⟨id, b1, s1, a1, a2, a3, a4⟩ := get j blk hj
    subst a4
    simp only [cutMap, a1, Option.bind_some] at hl
    exact hr.own id b1 l a2 ho hl

end Go.Proofs.Ytfgehfnlkakioaa.VC

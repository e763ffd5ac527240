/- Regions whose order is open. -/
import Derived.Test.YtfgehfnlkakioaaV15
namespace Go.Proofs.Ytfgehfnlkakioaa.VC
open Go

/-! ### a map cut off at a number -/
def Map.below (ι : Map) (L : Nat) : Map := fun id => if id < L then ι id else none
theorem Map.below_le (ι : Map) (L : Nat) : Map.le (ι.below L) ι := fun id l h => by
  simp only [Map.below] at h
  split at h
  · exact h
  · cases h

theorem bdV_VR {ι : Map} {L : Nat} : ∀ (d : Nat) {v v' : Value}, bdV L d v = true → VR ι v v' → VR (ι.below L) v v'
  | 0, v, v', h, _ => by simp [bdV] at h
  | d + 1, v, v', h, hv => by
    have arr : ∀ {cs cs' : Array Value}, cs.toList.all (bdV L d) = true → (∀ (i : Nat) (v v' : Value), cs[i]? = some v → cs'[i]? = some v' → VR ι v v') → ∀ (i : Nat) (v v' : Value), cs[i]? = some v → cs'[i]? = some v' → VR (ι.below L) v v' := by
      intro cs cs' h1 h2 i v v' a b
      exact bdV_VR d (List.all_eq_true.1 h1 v (List.mem_of_getElem? (l := cs.toList) (i := i) (by simpa using a))) (h2 i v v' a b)
    cases hv with
    | bool b => exact .bool b
    | int k n hn => exact .int k n hn
    | string s hs => exact .string s hs
    | ptrNil => exact .ptrNil
    | @ptr id off l hl => simp only [bdV] at h; exact .ptr (by simp only [Map.below]; rw [if_pos (blt_true h)]; exact hl)
    | slNil => exact .slNil
    | slZero a => exact .slZero a
    | @sl id off len c c' l hl h0 h1 ht ha => simp only [bdV] at h; exact .sl (by simp only [Map.below]; rw [if_pos (blt_true h)]; exact hl) h0 h1 ht ha
    | nilFunc => exact .nilFunc
    | nilIface => exact .nilIface
    | func fn h1 h2 h3 h4 => simp only [bdV, Bool.and_eq_true] at h; exact .func fn h1 (arr h.1 h2) h3 (arr h.2 h4)
    | iface t hv => simp only [bdV] at h; exact .iface t (bdV_VR d h hv)
    | agg h1 h2 => simp only [bdV] at h; exact .agg h1 (arr h h2)
    | tuple h1 h2 => simp only [bdV] at h; exact .tuple h1 (arr h h2)

theorem bd_cell {L : Nat} : ∀ {sg : List Seg} {i : Nat} {v : Value}, (sg.all fun s => match s with | .vals vs => vs.all (bdV L 8) | .ints _ _ _ => true) = true → cell? sg i = some v → bdV L 8 v = true
  | [], i, v, _, h => by simp [cell?] at h
  | .vals vs :: r, i, v, hb, h => by
    simp only [List.all_cons, Bool.and_eq_true] at hb
    simp only [cell?] at h
    cases hc : vs[i]? with
    | some x => rw [hc] at h; cases h; exact List.all_eq_true.1 hb.1 _ (List.mem_of_getElem? hc)
    | none => rw [hc] at h; exact bd_cell hb.2 h
  | .ints k n xs :: r, i, v, hb, h => by
    simp only [List.all_cons, Bool.and_eq_true] at hb
    simp only [cell?] at h
    by_cases hi : i < n
    · rw [if_pos hi] at h; cases h; rfl
    · rw [if_neg hi] at h; exact bd_cell hb.2 h

theorem bdH_get {L : Nat} {h : Heap} (hb : bdH L h = true) {id : Nat} {blk : Blk} (hi : h[id]? = some (some blk)) {i : Nat} {v : Value} (hc : cell? blk.segs i = some v) : bdV L 8 v = true := by
  have := List.all_eq_true.1 hb _ (List.mem_of_getElem? hi)
  obtain ⟨o, es, sg⟩ := blk
  exact bd_cell this hc

/-- Part of a heap, on a map cut off. -/
theorem HR_sub {ι : Map} {base : Nat} {h h1 : Heap} {w : World} (hr : HR ι base h w) (hs : ∀ (id : Nat) (blk : Blk), h1[id]? = some (some blk) → h[id]? = some (some blk)) (hb : bdH h1.length h1 = true) :
    HR (ι.below h1.length) base h1 w := by
  have lt : ∀ (id : Nat) (blk : Blk), h1[id]? = some (some blk) → id < h1.length := fun id blk h => (List.getElem?_eq_some_iff.1 h).1
  refine ⟨fun id blk hi => ?_, fun id l hl => ?_, fun id id' blk blk' l l' hi hi' ho hne hl hl' => ?_, fun id blk l hi ho hl => ?_, hr.base_le⟩
  · rcases hr.live id blk (hs id blk hi) with ⟨p1, p2⟩ | ⟨l, p1, c, T, fr, q1, q2, q3, q4, q5, q6⟩
    · exact .inl ⟨by simp only [Map.below]; rw [if_pos (lt id blk hi)]; exact p1, p2⟩
    · refine .inr ⟨l, by simp only [Map.below]; rw [if_pos (lt id blk hi)]; exact p1, c, T, fr, q1, q2, q3, q4, fun i v hv => ?_, q6⟩
      obtain ⟨v', a, b⟩ := q5 i v hv
      exact ⟨v', a, bdV_VR 8 (bdH_get hb hi hv) b⟩
  · simp only [Map.below] at hl
    split at hl
    · rename_i hlt; exact ⟨hlt, (hr.dom id l hl).2⟩
    · cases hl
  · exact hr.inj id id' blk blk' l l' (hs _ _ hi) (hs _ _ hi') ho hne (Map.below_le _ _ _ _ hl) (Map.below_le _ _ _ _ hl')
  · exact hr.own id blk l (hs _ _ hi) ho (Map.below_le _ _ _ _ hl)

/-- A heap with no more blocks, and more room. -/
theorem HR_ext {ι : Map} {base : Nat} {h h1 : Heap} {w : World} (hr : HR ι base h w) (hs : ∀ (id : Nat) (blk : Blk), h1[id]? = some (some blk) → h[id]? = some (some blk)) (hl : h.length ≤ h1.length) : HR ι base h1 w :=
  ⟨fun id blk hi => hr.live id blk (hs id blk hi), fun id l h => by have := hr.dom id l h; omega, fun id id' blk blk' l l' hi hi' => hr.inj id id' blk blk' l l' (hs _ _ hi) (hs _ _ hi'), fun id blk l hi => hr.own id blk l (hs _ _ hi), hr.base_le⟩

/-! ### masks -/
def inRange (r : Nat × Nat × Nat) (id : Nat) : Prop := r.2.1 ≤ id ∧ id < r.2.1 + r.2.2

theorem killR_get : ∀ (n a : Nat) (h : Heap) (id : Nat), (killR a n h).length = h.length ∧ ((a ≤ id ∧ id < a + n → ∀ blk, (killR a n h)[id]? ≠ some (some blk)) ∧ (¬ (a ≤ id ∧ id < a + n) → (killR a n h)[id]? = h[id]?))
  | 0, a, h, id => ⟨rfl, fun hh => by omega, fun _ => rfl⟩
  | n + 1, a, h, id => by
    simp only [killR]
    obtain ⟨i1, i2, i3⟩ := killR_get n (a + 1) (h.set a none) id
    refine ⟨by rw [i1]; simp, fun hh blk => ?_, fun hh => ?_⟩
    · by_cases e : id = a
      · subst e
        rw [i3 (by omega)]
        by_cases hl : id < h.length
        · rw [List.getElem?_set_self hl]; simp
        · rw [List.getElem?_eq_none (by simp; omega)]; simp
      · exact i2 (by omega) blk
    · rw [i3 (by omega), List.getElem?_set_ne (by omega)]

theorem maskH_eq (deps : Nat) : ∀ (rs : List (Nat × Nat × Nat)) (h : Heap), maskH deps rs h = maskF (fun i => deps.testBit i) rs h
  | [], h => rfl
  | (i, a, n) :: r, h => by simp only [maskH, maskF]; cases deps.testBit i <;> simp [maskH_eq]

theorem maskF_get {keep : Nat → Bool} : ∀ (rs : List (Nat × Nat × Nat)) (h : Heap) (id : Nat), (maskF keep rs h).length = h.length ∧
    ((∃ r ∈ rs, inRange r id ∧ keep r.1 = false) → ∀ blk, (maskF keep rs h)[id]? ≠ some (some blk)) ∧ ((∀ r ∈ rs, inRange r id → keep r.1 = true) → (maskF keep rs h)[id]? = h[id]?)
  | [], h, id => ⟨rfl, (by rintro ⟨r, hr, _⟩; cases hr), fun _ => rfl⟩
  | (i, a, n) :: rs, h, id => by
    simp only [maskF]
    cases hk : keep i with
    | true =>
      simp only [cond_true]
      obtain ⟨i1, i2, i3⟩ := maskF_get (keep := keep) rs h id
      refine ⟨i1, ?_, fun hh => i3 fun r hr => hh r (List.mem_cons_of_mem _ hr)⟩
      rintro ⟨r, hr, h1, h2⟩
      rcases List.mem_cons.1 hr with rfl | hr
      · simp [hk] at h2
      · exact i2 ⟨r, hr, h1, h2⟩
    | false =>
      simp only [cond_false]
      obtain ⟨i1, i2, i3⟩ := maskF_get (keep := keep) rs (killR a n h) id
      obtain ⟨k1, k2, k3⟩ := killR_get n a h id
      by_cases hin : a ≤ id ∧ id < a + n
      · refine ⟨by rw [i1, k1], fun _ => ?_, fun hh => by have := hh (i, a, n) (List.mem_cons_self ..) hin; simp [hk] at this⟩
        by_cases hx : ∃ r ∈ rs, inRange r id ∧ keep r.1 = false
        · exact i2 hx
        · rw [i3 (fun r hr h1 => by
            cases hkr : keep r.1 with
            | true => rfl
            | false => exact (hx ⟨r, hr, h1, hkr⟩).elim)]
          exact k2 hin
      · refine ⟨by rw [i1, k1], ?_, fun hh => by rw [i3 (fun r hr => hh r (List.mem_cons_of_mem _ hr)), k3 hin]⟩
        rintro ⟨r, hr, h1, h2⟩
        rcases List.mem_cons.1 hr with rfl | hr
        · exact (hin h1).elim
        · exact i2 ⟨r, hr, h1, h2⟩

theorem restrS_get {l : List Nat} : ∀ {s : Slots} {t : Nat}, getS (restrS l s) t = if t ∈ l then getS s t else none
  | [], t => by simp [restrS, getS]
  | (u, v) :: r, t => by
    simp only [restrS]
    cases hm : memN u l with
    | true =>
      have hu : u ∈ l := by
        by_cases hx : u ∈ l
        · exact hx
        · exfalso
          have aux : ∀ (l : List Nat), u ∉ l → memN u l = false := by
            intro l
            induction l with
            | nil => intro _; rfl
            | cons y r ih =>
              intro hn
              simp only [List.mem_cons, not_or] at hn
              simp only [memN, Bool.or_eq_false_iff]
              refine ⟨?_, ih hn.2⟩
              cases hb : Nat.beq y u with
              | false => rfl
              | true => exact (hn.1 (beq_true hb).symm).elim
          rw [aux l hx] at hm; cases hm
      simp only [cond_true]
      rw [getS_cons, getS_cons, restrS_get]
      by_cases e : t = u
      · subst e; simp [hu]
      · simp [e]
    | false =>
      have hu := memN_false hm
      simp only [cond_false]
      rw [getS_cons, restrS_get]
      by_cases e : t = u
      · subst e; simp [hu]
      · simp [e]

/-! ### the order -/
/-- What stands before: by an edge, or behind one. -/
theorem before_spec (ops : Array Oper) (j i : Nat) (o : Oper) (ho : ops[j]? = some o) (h : ((Region.before ops).getD j 0).testBit i = true) :
    ∃ e ∈ o.after, Region.binds .any e = true ∧ (e.on = i ∨ (e.on < j ∧ ((Region.before ops).getD e.on 0).testBit i = true)) := by
  -- the list of numbers, built from the left
  have step : ∀ (es : List Edge) (s : Nat) (acc : Array Nat), (es.foldl (fun s e => if Region.binds .any e then s ||| 2 ^ e.on ||| acc.getD e.on 0 else s) s).testBit i = true →
      s.testBit i = true ∨ ∃ e ∈ es, Region.binds .any e = true ∧ (e.on = i ∨ (acc.getD e.on 0).testBit i = true) := by
    intro es
    induction es with
    | nil => intro s acc h; exact .inl h
    | cons e es ih =>
      intro s acc h
      simp only [List.foldl_cons] at h
      rcases ih _ _ h with h1 | ⟨e', he, h1⟩
      · by_cases hb : Region.binds .any e = true
        · rw [if_pos hb] at h1
          simp only [Nat.testBit_or, Bool.or_eq_true] at h1
          rcases h1 with (h1 | h1) | h1
          · exact .inl h1
          · refine .inr ⟨e, List.mem_cons_self .., hb, .inl ?_⟩
            rw [Nat.testBit_two_pow] at h1
            simpa using h1
          · exact .inr ⟨e, List.mem_cons_self .., hb, .inr h1⟩
        · rw [if_neg hb] at h1; exact .inl h1
      · exact .inr ⟨e', List.mem_cons_of_mem _ he, h1⟩
  have all : ∀ (l : List Oper) (acc : Array Nat), (∀ k, k < acc.size → (l.foldl (fun acc o => acc.push (o.after.foldl (fun s e => if Region.binds .any e then s ||| 2 ^ e.on ||| acc.getD e.on 0 else s) 0)) acc).getD k 0 = acc.getD k 0) ∧
      ∀ (k : Nat) (o : Oper), l[k]? = some o → ((l.foldl (fun acc o => acc.push (o.after.foldl (fun s e => if Region.binds .any e then s ||| 2 ^ e.on ||| acc.getD e.on 0 else s) 0)) acc).getD (acc.size + k) 0).testBit i = true →
        ∃ e ∈ o.after, Region.binds .any e = true ∧ (e.on = i ∨ (e.on < acc.size + k ∧ ((l.foldl (fun acc o => acc.push (o.after.foldl (fun s e => if Region.binds .any e then s ||| 2 ^ e.on ||| acc.getD e.on 0 else s) 0)) acc).getD e.on 0).testBit i = true)) := by
    intro l
    induction l with
    | nil => intro acc; exact ⟨fun k _ => rfl, fun k o hk => by simp at hk⟩
    | cons o l ih =>
      intro acc
      simp only [List.foldl_cons]
      obtain ⟨i1, i2⟩ := ih (acc.push (o.after.foldl (fun s e => if Region.binds .any e then s ||| 2 ^ e.on ||| acc.getD e.on 0 else s) 0))
      have keep : ∀ k, k < acc.size → (l.foldl (fun acc o => acc.push (o.after.foldl (fun s e => if Region.binds .any e then s ||| 2 ^ e.on ||| acc.getD e.on 0 else s) 0)) (acc.push (o.after.foldl (fun s e => if Region.binds .any e then s ||| 2 ^ e.on ||| acc.getD e.on 0 else s) 0))).getD k 0 = acc.getD k 0 := by
        intro k hk
        rw [i1 k (by simp; omega)]
        simp [Array.getElem?_push_lt hk, hk]
      refine ⟨keep, fun k o' hk hb => ?_⟩
      cases k with
      | zero =>
        simp only [List.getElem?_cons_zero, Option.some.injEq] at hk
        subst hk
        rw [Nat.add_zero, i1 acc.size (by simp)] at hb
        simp only [Array.getD_eq_getD_getElem?, Array.getElem?_push_size, Option.getD_some] at hb
        rw [← Array.foldl_toList] at hb
        simp only [← Array.getD_eq_getD_getElem?] at hb
        rcases step _ _ _ hb with h1 | ⟨e, he, h1, h2⟩
        · simp at h1
        · refine ⟨e, by simpa using he, h1, ?_⟩
          rcases h2 with h2 | h2
          · exact .inl h2
          · have hlt : e.on < acc.size := by
              rcases Nat.lt_or_ge e.on acc.size with h3 | h3
              · exact h3
              · rw [Array.getD_eq_getD_getElem?, Array.getElem?_eq_none h3] at h2; simp at h2
            exact .inr ⟨by omega, by rw [keep _ hlt]; exact h2⟩
      | succ k =>
        simp only [List.getElem?_cons_succ] at hk
        have := i2 k o' hk (by rw [Array.size_push, show acc.size + 1 + k = acc.size + (k + 1) by omega]; exact hb)
        rw [Array.size_push, show acc.size + 1 + k = acc.size + (k + 1) by omega] at this
        exact this
  have hb : Region.before ops = ops.toList.foldl (fun acc o => acc.push (o.after.foldl (fun s e => if Region.binds .any e then s ||| 2 ^ e.on ||| acc.getD e.on 0 else s) 0)) #[] := by
    unfold Region.before
    rw [← Array.foldl_toList]
  rw [hb] at h ⊢
  have := (all ops.toList #[]).2 j o (by simpa using ho) (by simpa using h)
  simpa using this
/-- A set of operations that holds what its members stand behind. -/
def Clo (b : Array Nat) (D : Nat → Prop) : Prop := ∀ j i, D j → (b.getD j 0).testBit i = true → D i

section
variable {P : Program} {S : Spec} {n : Nat} {out : Res}

/-- What an operation does to the state of the text's order. -/
inductive StepTr (P : Program) (n : Nat) (ops : Array Oper) (b : Array Nat) (j : Nat) (o : Oper) (s : Slots) (h : Heap) (rs : List (Nat × Nat × Nat)) : Slots → Heap → List (Nat × Nat × Nat) → Prop
  | skip {s0 s' : Slots} (h0 : ∀ t, getS s0 t = getS s t) (hw : ∀ (ι : Map) (a : Act), SR ι n (restrS (namesOf ops o) s) a → Region.wanted o (yielded ops a.tmps) = false) (hl : Laid n s0 o.dst (some undef) s') : StepTr P n ops b j o s h rs s' h rs
  | non {s0 s' : Slots} {v : Value} {N : Heap} (h0 : ∀ t, getS s0 t = getS s t) (hw : ∀ (ι : Map) (a : Act), SR ι n (restrS (namesOf ops o) s) a → Region.wanted o (yielded ops a.tmps) = true)
      (hs : bdS h.length (restrS (namesOf ops o) s0) = true) (hb : bdH h.length (maskF (fun i => (b.getD j 0).testBit i) rs h) = true)
      (ho : OpS P n (restrS (namesOf ops o) s0) (maskF (fun i => (b.getD j 0).testBit i) rs h) o v (maskF (fun i => (b.getD j 0).testBit i) rs h ++ N) false) (hl : Laid n s0 o.dst (some v) s') :
      StepTr P n ops b j o s h rs s' (h ++ N) ((j, h.length, N.length) :: rs)
  | mod {s0 s' : Slots} {v : Value} {h' : Heap} (h0 : ∀ t, getS s0 t = getS s t) (hw : ∀ (ι : Map) (a : Act), SR ι n (restrS (namesOf ops o) s) a → Region.wanted o (yielded ops a.tmps) = true)
      (hbar : barrier b ops.size j = true) (ho : OpS P n (restrS (namesOf ops o) s0) h o v h' true) (hlen : h.length ≤ h'.length) (hl : Laid n s0 o.dst (some v) s') : StepTr P n ops b j o s h rs s' h' []

theorem bif_none' {x : Out} {q : Bool} (hq : (bif q then none else x) = some out) : q = false ∧ x = some out := by
  cases q
  · exact ⟨rfl, hq⟩
  · cases hq

/-- The guard's word hangs on the slots that the operation names. -/
theorem guard_restr {ops : Array Oper} {o : Oper} {s : Slots} {b : Bool} (h : ∀ (ι : Map) (a : Act), GR ι n ops o s a → Region.wanted o (yielded ops a.tmps) = b) :
    ∀ (ι : Map) (a : Act), SR ι n (restrS (namesOf ops o) s) a → Region.wanted o (yielded ops a.tmps) = b := by
  intro ι a hs
  refine h ι a ⟨hs.1, hs.2.1, fun t v hg hv => hs.2.2 t v ?_⟩
  rw [restrS_get, if_pos]
  · exact hv
  · obtain ⟨j, w, h1, h2⟩ := hg
    simp [namesOf, h1, h2]

theorem drawK_trace (hS : SpecOK P S) {ops : Array Oper} {b : Array Nat} : ∀ {l : List Oper} {j : Nat} {s : Slots} {h : Heap} {rs : List (Nat × Nat × Nat)} {k : Slots → Heap → Out}, drawK P S n ops b l j s h rs k = some out → (∀ i, l[i]? = ops[j + i]?) →
    ∃ (ss : Nat → Slots) (hh : Nat → Heap) (rr : Nat → List (Nat × Nat × Nat)), ss j = s ∧ hh j = h ∧ rr j = rs ∧ k (ss (j + l.length)) (hh (j + l.length)) = some out ∧
      ∀ i o, j ≤ i → i < j + l.length → ops[i]? = some o → StepTr P n ops b i o (ss i) (hh i) (rr i) (ss (i + 1)) (hh (i + 1)) (rr (i + 1))
  | [], j, s, h, rs, k, hk, _ => ⟨fun _ => s, fun _ => h, fun _ => rs, rfl, rfl, rfl, hk, fun i o h1 h2 => by simp at h2; omega⟩
  | o :: r, j, s, h, rs, k, hk, hl => by
    have hoj : ops[j]? = some o := by have := hl 0; simpa using this.symm
    have hr' : ∀ i, r[i]? = ops[j + 1 + i]? := fun i => by
      have := hl (i + 1)
      rw [List.getElem?_cons_succ] at this
      rw [this]; congr 1; omega
    -- the rest, put behind a first step
    have glue : ∀ (s1 : Slots) (h1 : Heap) (rs1 : List (Nat × Nat × Nat)), StepTr P n ops b j o s h rs s1 h1 rs1 → drawK P S n ops b r (j + 1) s1 h1 rs1 k = some out →
        ∃ (ss : Nat → Slots) (hh : Nat → Heap) (rr : Nat → List (Nat × Nat × Nat)), ss j = s ∧ hh j = h ∧ rr j = rs ∧ k (ss (j + (o :: r).length)) (hh (j + (o :: r).length)) = some out ∧
          ∀ i o', j ≤ i → i < j + (o :: r).length → ops[i]? = some o' → StepTr P n ops b i o' (ss i) (hh i) (rr i) (ss (i + 1)) (hh (i + 1)) (rr (i + 1)) := by
      intro s1 h1 rs1 hst hd
      obtain ⟨ss, hh, rr, e1, e2, e3, e4, e5⟩ := drawK_trace hS hd hr'
      refine ⟨fun i => if i = j then s else ss i, fun i => if i = j then h else hh i, fun i => if i = j then rs else rr i, by simp, by simp, by simp, ?_, fun i o' h1 h2 h3 => ?_⟩
      · have : j + (o :: r).length = j + 1 + r.length := by simp; omega
        rw [this]
        simp only [show ¬ (j + 1 + r.length = j) by omega, if_false]
        exact e4
      · by_cases e : i = j
        · subst e
          rw [hoj] at h3
          cases h3
          simp only [if_true, show ¬ (i + 1 = i) by omega, if_false, e1, e2, e3]
          exact hst
        · simp only [e, if_false, show ¬ (i + 1 = j) by omega]
          exact e5 i o' (by omega) (by simp at h2; omega) h3
    simp only [drawK] at hk
    obtain ⟨s0, hs0, hrun | hskip⟩ := guardK_some' (n := n) hk
    · obtain ⟨hk, hw⟩ := hrun
      have hw := guard_restr hw
      rcases bif_some hk with ⟨hmo, hk⟩ | ⟨hmo, hk⟩
      · obtain ⟨hbar, hk⟩ := bif_none hk
        obtain ⟨v, h1, q1, q2, q3, _⟩ := opK_sound (n := n) hS hk
        obtain ⟨s1, p1, p2⟩ := putS_some q1
        rw [hmo] at q2
        exact glue s1 h1 [] (.mod hs0 hw hbar q2 q3 p2) p1
      · obtain ⟨hbd, hk⟩ := bif_none' hk
        simp only [Bool.not_eq_false', Bool.and_eq_true] at hbd
        obtain ⟨v, h1, q1, q2, q3, q4⟩ := opK_sound (n := n) hS hk
        obtain ⟨s1, p1, p2⟩ := putS_some q1
        rw [hmo] at q2
        obtain ⟨N, hN⟩ := q4 hmo
        have hml := (maskF_get (keep := fun i => (b.getD j 0).testBit i) rs h 0).1
        rw [maskH_eq] at q2 hbd hN
        subst hN
        have e1 : (maskF (fun i => (b.getD j 0).testBit i) rs h ++ N).drop h.length = N := by rw [← hml]; simp
        have e2 : (maskF (fun i => (b.getD j 0).testBit i) rs h ++ N).length - h.length = N.length := by rw [List.length_append, hml]; omega
        rw [e1, e2] at p1
        exact glue s1 (h ++ N) _ (.non hs0 hw hbd.1 hbd.2 q2 p2) p1
    · obtain ⟨hk, hw⟩ := hskip
      have hw := guard_restr hw
      obtain ⟨s1, p1, p2⟩ := putS_some hk
      exact glue s1 h rs (.skip hs0 hw p2) p1
end
end Go.Proofs.Ytfgehfnlkakioaa.VC

/- A row of whole numbers, sorted: the library's contract as a spec. -/
import Derived.Test.YthdeanljgdjbhaaVX3
import Derived.Shelf.SortM.Plain
namespace Go.Proofs.Ythdeanljgdjbhaa.VC
open Go Go.Sort Go.RowKit

/-- Sorted. -/
def srt (xs : List Int) : List Int := xs.mergeSort fun x y => decide (x ≤ y)
theorem srt_len (xs : List Int) : (srt xs).length = xs.length := by simp [srt]
theorem srt_mem (xs : List Int) (x : Int) : x ∈ srt xs ↔ x ∈ xs := by simp [srt]

/-- slices.Sort of some numbers. -/
def FSrt : FSpec := fun args h k => match args, h with
  | [.slice (some a) n _], [some b] => match b.segs with
    | [.ints .i64 m xs] => bif (Nat.beq a.block 0 && Nat.beq a.off 0 && a.spot.isNone && b.own && Nat.beq b.es 1) && (decide (n = m) && (decide (1 ≤ n) && decide (n ≤ 1000))) then k (.tuple #[]) [some ⟨true, 1, [.ints .i64 m (srt xs)]⟩] else none
    | _ => none
  | _, _ => none

theorem getD_toArray! (xs : List Int) (j : Nat) (h : j < xs.length) : xs.toArray[j]! = xs.getD j 0 := by
  rw [getElem!_pos _ j (by simpa using h)]
  simp [List.getD, h]

/-- A row of numbers in a world. -/
theorem row_real {ι : Map} {base n : Nat} {xs : List Int} {w : World} {l : Loc} (hr : HR ι base [some ⟨true, 1, [.ints .i64 n xs]⟩] w) (hl : ι 0 = some l) :
    (xs.length = n ∧ ∀ x ∈ xs, IntKind.i64.min ≤ x ∧ x ≤ IntKind.i64.max) ∧ Holds (Value.int .i64) w l.b (l.o + 0) xs.toArray := by
  rcases hr.live 0 _ rfl with ⟨p1, _⟩ | ⟨l', p1, hb⟩
  · rw [hl] at p1; cases p1
  rw [hl] at p1; cases p1
  rcases hb with ⟨cs, T, fr, b1, b2, b3, b4, b5, b6⟩ | ⟨_, _, ents, _, b2, _⟩
  rotate_left
  · cases b2
  have hx : xs.length = n ∧ ∀ x ∈ xs, IntKind.i64.min ≤ x ∧ x ≤ IntKind.i64.max := b4 _ (List.mem_cons_self ..)
  refine ⟨hx, fun j hj => ?_⟩
  have hj' : j < xs.length := by simpa using hj
  refine ⟨?_, ?_⟩
  · obtain ⟨u, u1, u2⟩ := b5 j (.int .i64 (xs.getD j 0)) (by simp [cell?, hx.1 ▸ hj'])
    cases u2
    simp only [World.cell?, b1, getD_toArray! xs j hj', Nat.add_zero]
    simpa using u1
  · have := b6 rfl (l.o + 0 + j)
    simp only [World.frozen?, b1]
    simp only [Bool.and_eq_false_iff, decide_eq_false_iff_not]
    omega

/-- A row of numbers that is written over, and some blocks behind. -/
theorem after_putRow {ι : Map} {base n : Nat} {xs : List Int} {w w' : World} {l : Loc} (hr : HR ι base [some ⟨true, 1, [.ints .i64 n xs]⟩] w) (hl : ι 0 = some l)
    (zs : List Int) (hz : zs.length = n) (hzr : ∀ x ∈ zs, IntKind.i64.min ≤ x ∧ x ≤ IntKind.i64.max) (m : Nat) (hm : m ≤ n) {nd : Nat} {os : Array Obj}
    (e2 : w' = grow (putRow (Value.int .i64) (Sort.ahead w nd) l.b (l.o + 0) zs.toArray) os) {v v' : Value} (hv : VR ι v v') :
    AfterR ι ι base [some ⟨true, 1, [.ints .i64 n xs]⟩] w v [some ⟨true, 1, [.ints .i64 m (zs.take m)]⟩] v' w' (mods ι [some ⟨true, 1, [.ints .i64 n xs]⟩]) := by
  rcases hr.live 0 _ rfl with ⟨p1, _⟩ | ⟨l', p1, hb⟩
  · rw [hl] at p1; cases p1
  rw [hl] at p1; cases p1
  rcases hb with ⟨cs, T, fr, b1, b2, b3, b4, b5, b6⟩ | ⟨_, _, ents, _, b2, _⟩
  rotate_left
  · cases b2
  have hx : xs.length = n ∧ ∀ x ∈ xs, IntKind.i64.min ≤ x ∧ x ≤ IntKind.i64.max := b4 _ (List.mem_cons_self ..)
  have hcell : ∀ j, j < n → cs[l.o + j]? = some (.int .i64 (xs.getD j 0)) := by
    intro j hj
    obtain ⟨u, u1, u2⟩ := b5 j (.int .i64 (xs.getD j 0)) (by simp [cell?, hj])
    cases u2
    exact u1
  have hlt : l.b < w.heap.size := (hr.dom 0 l hl).2
  have hsz' : w'.heap.size = w.heap.size + os.size := by rw [e2]; simp [grow, putRow, mapBlock, Sort.ahead]
  have hblk : w'.heap[l.b]? = some (.cells (putCells (Value.int .i64) (l.o + 0) zs.toArray cs) T fr) := by
    rw [e2, heap_grow_old _ _ (by simpa [putRow, mapBlock, Sort.ahead] using hlt)]
    simp only [putRow, mapBlock, Sort.ahead, Array.getElem?_modify, if_true, b1, Option.map_some, onCells]
  have hoth : ∀ b, b < w.heap.size → b ≠ l.b → w'.heap[b]? = w.heap[b]? := by
    intro b hb hne
    rw [e2, heap_grow_old _ _ (by simpa [putRow, mapBlock, Sort.ahead] using hb)]
    simp only [putRow, mapBlock, Sort.ahead, Array.getElem?_modify, if_neg (Ne.symm hne)]
  refine ⟨Map.le_refl _, fun id l x => .inl x, ⟨?_, ?_, ?_, ?_, ?_⟩, hv, ⟨by omega, ?_, by rw [e2]; rfl, by rw [e2]; rfl, by rw [e2]; rfl⟩, ?_⟩
  · intro id blk hid
    match id, hid with
    | 0, hid =>
      simp only [List.getElem?_cons_zero, Option.some.injEq] at hid
      subst hid
      refine .inr ⟨l, hl, .inl ⟨_, T, fr, hblk, by simp [putCells, b2], b3, ?_, ?_, b6⟩⟩
      · intro s hs
        simp only [List.mem_singleton] at hs
        subst hs
        exact ⟨by rw [List.length_take]; omega, fun x hx' => hzr x (List.mem_of_mem_take hx')⟩
      · intro i v hv
        by_cases hi : i < m
        · simp only [cell?, hi, if_true, Option.some.injEq] at hv
          subst hv
          have hi2 : i < zs.length := by omega
          have hg : (zs.take m).getD i 0 = zs.getD i 0 := by simp [List.getD, List.getElem?_take, hi]
          rw [hg]
          refine ⟨.int .i64 (zs.getD i 0), ?_, .int _ _ (hzr _ ?_)⟩
          · simp only [putCells, Array.getElem?_mapIdx, hcell i (by omega), Option.map_some]
            rw [if_pos ⟨by omega, by simpa using by omega⟩, show l.o + i - (l.o + 0) = i by omega, getD_toArray! _ i hi2]
          · simp only [List.getD, List.getElem?_eq_getElem hi2, Option.getD_some]
            exact List.getElem_mem hi2
        · simp [cell?, hi] at hv
    | id + 1, hid => simp at hid
  · intro id l2 h2
    have := hr.dom id l2 h2
    exact ⟨by simpa using this.1, by omega⟩
  · intro id id' blk blk' l1 l2 h1 h2 _ hne
    match id, id', h1, h2 with
    | 0, 0, _, _ => exact absurd rfl hne
    | id + 1, _, h1, _ => simp at h1
    | 0, id' + 1, _, h2 => simp at h2
  · intro id blk l2 h1 _ h3
    match id, h1 with
    | 0, _ => exact hr.own 0 _ l2 rfl rfl h3
    | id + 1, h1 => simp at h1
  · have := hr.base_le; omega
  · intro b hb hm
    refine hoth b hb fun hbe => hm ⟨0, _, l, rfl, rfl, hl, hbe.symm⟩
  · intro b ⟨id, blk, l2, h1, _, h3, h4⟩ _
    match id, h1 with
    | 0, _ => exact ⟨0, _, l2, rfl, rfl, h3, h4⟩
    | id + 1, h1 => simp at h1

theorem okSrt {P : Program} {g : FuncId}
    (hent : ∀ (args : Array Value) (w : World), (callFunc g args).run P w = .ok (.enter g args) w)
    (hg : ∀ (blk off cap : Nat) (zs : List Int) (w : World), Holds (Value.int .i64) w blk off zs.toArray → blk < w.heap.size → zs.length < 4611686018427387904 →
      Calls P g #[.slice (some ⟨blk, off, none⟩) zs.length cap] w fun e w' =>
        e = .returned (.tuple #[]) ∧ ∃ n os, w' = grow (putRow (Value.int .i64) (Sort.ahead w n) blk off (zs.mergeSort fun x y => decide (x ≤ y)).toArray) os) : EntryOK P g FSrt := by
  intro args h k out hk
  unfold FSrt at hk
  split at hk
  · rename_i a n c b
    obtain ⟨own, es, segs⟩ := b
    obtain ⟨blk, off, spot⟩ := a
    dsimp only at hk
    split at hk
    · rename_i m xs
      cases ht : ((Nat.beq blk 0 && Nat.beq off 0 && spot.isNone && own && Nat.beq es 1) && (decide (n = m) && (decide (1 ≤ n) && decide (n ≤ 1000)))) with
      | false => rw [ht] at hk; cases hk
      | true =>
        rw [ht] at hk
        simp only [Bool.and_eq_true, Option.isNone_iff_eq_none, decide_eq_true_eq] at ht
        obtain ⟨⟨⟨⟨⟨z1, z2⟩, rfl⟩, rfl⟩, z3⟩, rfl, h1, h1000⟩ := ht
        cases beq_true z1
        cases beq_true z2
        cases beq_true z3
        refine ⟨_, _, hk, fun ι base w args' hr ha => .inl ?_⟩
        obtain ⟨v', hv', hvr⟩ := ha.get (i := 0) rfl
        have hsz : args'.toList = [v'] := by
          have hl := ha.1
          match hq : args'.toList, hl, hv' with
          | [y], _, e => simp at e; rw [e]
        have hargs : args' = #[v'] := by rw [← Array.toArray_toList (xs := args'), hsz]
        subst hargs
        refine ⟨hent _ _, ?_⟩
        cases hvr with
        | slZero a => omega
        | @sl _ _ _ _ c' l hl h0 hc' ht ha' =>
          obtain ⟨hx, hH⟩ := row_real hr hl
          have hcall := hg l.b (l.o + 0) c' xs w hH (hr.dom 0 l hl).2 (by rw [hx.1]; omega)
          rw [hx.1] at hcall
          refine hcall.mono fun e w' ⟨e1, nd, os, e2⟩ => ⟨_, e1, ι, ?_⟩
          have := after_putRow hr hl (srt xs) ((srt_len xs).trans hx.1) (fun x hx' => hx.2 x ((srt_mem xs x).1 hx')) n (Nat.le_refl _) e2 (v := .tuple #[]) (v' := .tuple #[]) (.tuple rfl (fun i v v' hi => by simp at hi))
          rwa [List.take_of_length_le (by rw [srt_len, hx.1]; exact Nat.le_refl _)] at this
    · cases hk
  · cases hk

end Go.Proofs.Ythdeanljgdjbhaa.VC

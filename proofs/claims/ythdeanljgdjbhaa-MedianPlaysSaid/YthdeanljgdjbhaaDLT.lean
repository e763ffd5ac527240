/- slices.Delete of the first one of some numbers, whatever room there is behind them: as the library's contract, without its bound on the room. -/
import Derived.Test.YthdeanljgdjbhaaSRT
import Derived.Shelf.SlicesE.Delete
namespace Go.Proofs.Ythdeanljgdjbhaa.VC
open Go Go.Shelf Go.RowKit Go.Lib Go.Sort
variable {P : Program} {ρ : Ren}

set_option maxHeartbeats 4000000 in
set_option maxRecDepth 1000000 in
theorem del_first (L : SlLaysE.n45 P ρ) (zv : ∀ w, (zeroValue (ρ.t 23)).run P w = .ok (Value.int .i64 0) w) (i0 : TypeInfo) (hi0 : P.info? (ρ.t 23) = some i0) (hz1 : i0.size = 1)
    (blk off cap : Nat) (d : Array Int) (w : World) (hH : Holds (Value.int .i64) w blk off d) (hcap : d.size ≤ cap) (hm : d.size ≤ 4611686018427387904) (hj : 1 ≤ d.size) :
    Calls P (ρ.f 45) #[.slice (some ⟨blk, off, none⟩) d.size cap, .int .i64 0, .int .i64 1] w fun e w' =>
      e = .returned (.slice (some ⟨blk, off, none⟩) (d.size - 1) cap) ∧ ∃ q, w' = putRow (Value.int .i64) (Sort.ahead w q) blk off (d.toList.drop 1 ++ [0]).toArray := by
  have h1 : OneCell (Value.int .i64) := fun _ => rfl
  have mixed := L.mixed; have t0 := L.t0; have a0 := L.a0; have z0 := L.z0; have v0 := L.v0; have t3 := L.t3; have a3 := L.a3; have z3 := L.z3; have v3 := L.v3; have t4 := L.t4; have a4 := L.a4; have z4 := L.z4; have v4 := L.v4; have t22 := L.t22; have a22 := L.a22; have z22 := L.z22; have v22 := L.v22; have a23 := L.a23; have z23 := L.z23
  -- what is moved one place to the left
  obtain ⟨mv, hmv⟩ : ∃ mv, mv = (d.toList.drop 1).map (Value.int .i64) := ⟨_, rfl⟩
  have hl : mv.length = d.size - 1 := by rw [hmv]; simp
  have hat : ∀ t, t < d.size - 1 → mv[t]? = some (Value.int .i64 d[1 + t]!) := by
    intro t ht
    rw [hmv, List.getElem?_map, List.getElem?_drop, Array.getElem?_toList, getElem!_pos d (1 + t) (by omega), Array.getElem?_eq_getElem (by omega)]
    rfl
  obtain ⟨A, hA, hsrc⟩ : ∃ A : Addr, (if cap = 1 then some (⟨blk, off, none⟩ : Addr) else some ⟨blk, off + 1, none⟩) = some A ∧ Hid (∀ t u, mv[t]? = some u → w.drew.cell? (A.add t) = some u) := by
    by_cases hc : cap = 1
    · refine ⟨⟨blk, off, none⟩, by simp [hc], fun t u hu => ?_⟩
      have h0 : mv.length = 0 := by rw [hl]; omega
      rw [List.length_eq_zero_iff.1 h0] at hu
      simp at hu
    · refine ⟨⟨blk, off + 1, none⟩, by simp [hc], fun t u hu => ?_⟩
      have ht : t < d.size - 1 := by
        have := (List.getElem?_eq_some_iff.1 hu).1
        rwa [hl] at this
      rw [hat t ht] at hu
      rw [Addr.add_lit, show off + 1 + t = off + (1 + t) by omega]
      exact (hH (1 + t) (by omega)).1.trans hu
  have s1 : Hid (mv.length = (d.size - 1) * 1) := by rw [Nat.mul_one]; exact hl
  have s2 : Hid (∀ u ∈ mv, u.oneCell' = true) := by
    intro u hu
    rw [hmv] at hu
    obtain ⟨y, _, rfl⟩ := List.mem_map.1 hu
    rfl
  have s3 : Hid (∀ t, t < mv.length → (w.drew.cell? ⟨blk, off + 0 * 1 + t, none⟩).isSome = true ∧ w.drew.frozen? ⟨blk, off + 0 * 1 + t, none⟩ = false) := by
    intro t ht
    rw [hl] at ht
    rw [Nat.zero_mul, Nat.add_zero]
    exact ⟨by show (w.cell? _).isSome = true; rw [(hH t (by omega)).1]; rfl, (hH t (by omega)).2⟩
  obtain ⟨W1, hW1⟩ : ∃ W1, W1 = w.drew.setCells blk (off + 0 * 1) mv := ⟨_, rfl⟩
  have hW1' : W1 = putRow (Value.int .i64) (Sort.ahead w 1) blk off (lay d 0 (d.toList.drop 1)) := by
    rw [hW1, hmv, Nat.mul_one, ← putRow_setCells (Value.int .i64) (Sort.ahead w 1) blk off _ d 0 (by simp), putRow_self (Value.int .i64) (Sort.ahead w 1) blk off d (holds_ahead (Value.int .i64) w 1 blk off d hH)]
    rfl
  have hH1 : Holds (Value.int .i64) W1 blk off (lay d 0 (d.toList.drop 1)) := by rw [hW1']; exact holds_putRow _ _ blk off d _ (holds_ahead _ w 1 blk off d hH) (lay_size _ _ _)
  have hcl : ∀ ty, (Builtin.clear_ #[ρ.t 22] ty #[.slice (some ⟨blk, off + (d.size - 1), none⟩) (d.size - (d.size - 1)) (cap - (d.size - 1))]).run P W1 = .ok (.tuple #[]) (W1.setCells blk (off + (d.size - 1)) (List.replicate (d.size - (d.size - 1)) (Value.int .i64 0))) :=
    fun ty => Lib.run_clear_slice W1 _ _ ty _ t22 zv (h1.cells 0) (h1 0) blk (off + (d.size - 1)) _ _ (by omega) (fun t ht => by rw [show off + (d.size - 1) + t = off + (d.size - 1 + t) by omega, (hH1 _ (by rw [lay_size]; omega)).1]; rfl) (fun t ht => by rw [show off + (d.size - 1) + t = off + (d.size - 1 + t) by omega]; exact (hH1 _ (by rw [lay_size]; omega)).2)
  have X : Aside (W1 = putRow (Value.int .i64) (Sort.ahead w 1) blk off (lay d 0 (d.toList.drop 1))) := hW1'
  have hW : Hid (W1 = w.drew.setCells blk (off + 0 * 1) mv) := hW1
  clear hW1 hW1' hH1 hH hat hmv hl
  have hj1 : (1 : Int) ≤ (d.size : Int) := by omega
  obtain ⟨_, _, FG⟩ := L.f45
  go_enter FG, SlBodyN.n45_ntmps ρ
  go_wp2_with fail
  go_region_law_o (refine step_append_room rfl (.tmp 22) (.tmp 25) (ρ.t 22) rfl (ρ.t 23) i0 1 t22 hi0 hz1 blk off 0 cap (by simp [Act.eval, Act.put]) A (d.size - 1) (cap - 1) mv (by simp [Act.eval, Act.put]) s1.out hsrc.out s2.out (by omega) s3.out ?_; rw [← hW.out])
  go_wp2
  go_ret
  refine ⟨rfl, 1, ?_⟩
  have hd := delete_arr d 0 1 0 (by omega) hj
  have hd2 := putRow_setCells (Value.int .i64) (Sort.ahead w 1) blk off (List.replicate (1 - 0) 0) (lay d 0 (d.toList.drop 1)) (0 + (d.size - 1)) (by rw [lay_size]; simp; omega)
  rw [show d.toList.drop 1 ++ [0] = d.toList.take 0 ++ d.toList.drop 1 ++ List.replicate (1 - 0) 0 from rfl, ← hd, ← hd2, ← X.out, List.map_replicate, show d.size - (d.size - 1) = 1 - 0 by omega, Nat.zero_add]

/-- slices.Delete of the first one of some numbers. -/
def FDel : FSpec := fun args h k => match args, h with
  | [.slice (some a) n c, .int .i64 i, .int .i64 j], [some b] => match b.segs with
    | [.ints .i64 m xs] => bif (Nat.beq a.block 0 && Nat.beq a.off 0 && a.spot.isNone && b.own && Nat.beq b.es 1) && (decide (i = 0) && decide (j = 1) && Nat.beq c 1) && (decide (n = m) && (decide (1 ≤ n) && decide (n ≤ 1000))) then k (.slice (some ⟨0, 0, none⟩) (n - 1) 1) [some ⟨true, 1, [.ints .i64 (n - 1) (xs.drop 1)]⟩] else none
    | _ => none
  | _, _ => none

theorem okDel {g : FuncId} (L : SlLaysE.n45 P ρ) (hgn : ρ.f 45 = g) (zv : ∀ w, (zeroValue (ρ.t 23)).run P w = .ok (Value.int .i64 0) w) (i0 : TypeInfo) (hi0 : P.info? (ρ.t 23) = some i0) (hz1 : i0.size = 1) : EntryOK P g FDel := by
  subst hgn
  intro args h k out hk
  unfold FDel at hk
  split at hk
  · rename_i a n c i j b
    obtain ⟨own, es, segs⟩ := b
    obtain ⟨blk, off, spot⟩ := a
    dsimp only at hk
    split at hk
    · rename_i m xs
      cases ht : ((Nat.beq blk 0 && Nat.beq off 0 && spot.isNone && own && Nat.beq es 1) && (decide (i = 0) && decide (j = 1) && Nat.beq c 1) && (decide (n = m) && (decide (1 ≤ n) && decide (n ≤ 1000)))) with
      | false => rw [ht] at hk; cases hk
      | true =>
        rw [ht] at hk
        simp only [Bool.and_eq_true, Option.isNone_iff_eq_none, decide_eq_true_eq] at ht
        obtain ⟨⟨⟨⟨⟨⟨z1, z2⟩, rfl⟩, rfl⟩, z3⟩, ⟨rfl, rfl⟩, z4⟩, rfl, h1, h1000⟩ := ht
        cases beq_true z4
        cases beq_true z1
        cases beq_true z2
        cases beq_true z3
        refine ⟨_, _, hk, fun ι base w args' hr ha => .inl ?_⟩
        obtain ⟨v0, q0, r0⟩ := ha.get (i := 0) rfl
        obtain ⟨v1, q1, r1⟩ := ha.get (i := 1) rfl
        obtain ⟨v2, q2, r2⟩ := ha.get (i := 2) rfl
        cases r1
        cases r2
        have hsz : args'.toList = [v0, .int .i64 0, .int .i64 1] := by
          have hl := ha.1
          match hq : args'.toList, hl, q0, q1, q2 with
          | [x, y, z], _, e0, e1, e2 => simp at e0 e1 e2; rw [e0, e1, e2]
        have hargs : args' = #[v0, .int .i64 0, .int .i64 1] := by rw [← Array.toArray_toList (xs := args'), hsz]
        subst hargs
        refine ⟨L.f45.enters rfl _ _, ?_⟩
        cases r0 with
        | slZero a => omega
        | @sl _ _ _ _ c' l hl h0 hc' ht ha' =>
          obtain ⟨hx, hH⟩ := row_real hr hl
          have hcall := del_first L zv i0 hi0 hz1 l.b (l.o + 0) c' xs.toArray w hH (by simpa [hx.1] using hc') (by simp [hx.1]; omega) (by simpa [hx.1] using h1)
          simp only [List.size_toArray, hx.1] at hcall
          refine hcall.mono fun e w' ⟨e1, nd, e2⟩ => ⟨_, e1, ι, ?_⟩
          have hlen : (xs.drop 1).length = n - 1 := by rw [List.length_drop, hx.1]
          have := after_putRow (w' := w') (os := #[]) (nd := nd) hr hl (xs.drop 1 ++ [0]) (by simp [hx.1]; omega) (fun x hx' => by
            rcases List.mem_append.1 hx' with e | e
            · exact hx.2 x (List.mem_of_mem_drop e)
            · simp only [List.mem_singleton] at e; subst e; decide) (n - 1) (by omega) (by rw [e2]; simp only [grow, Array.append_empty]) (v := .slice (some ⟨0, 0, none⟩) (n - 1) 1) (v' := .slice (some ⟨l.b, l.o + 0, none⟩) (n - 1) c')
            (.sl hl (by omega) (by omega) (fun e => by cases e) (fun _ => ha' rfl))
          rwa [show (xs.drop 1 ++ [(0 : Int)]).take (n - 1) = xs.drop 1 from by rw [← hlen]; simp] at this
    · cases hk
  · cases hk
end Go.Proofs.Ythdeanljgdjbhaa.VC

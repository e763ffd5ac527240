/- Operations, one by one. -/
import Derived.Test.YtfgehfnlkakioaaV7
namespace Go.Proofs.Ytfgehfnlkakioaa.VC
open Go

def OpOut (P : Program) (S : Spec) (n : Nat) (s : Slots) (h : Heap) (o : Oper) (k : Value → Heap → Out) (out : Res) : Prop :=
  ∃ v h', k v h' = some out ∧ OpS P n s h o v h' (modifies S s o.op) ∧ h.length ≤ h'.length ∧ (modifies S s o.op = false → ∃ N, h' = h ++ N)

theorem OpOut.pure {P : Program} {S : Spec} {n : Nat} {s : Slots} {h : Heap} {o : Oper} {k : Value → Heap → Out} {out : Res} {v : Value} (hk : k v h = some out)
    (hh : ∀ (ι : Map) (base : Nat) (w : World) (a : Act), SR ι n s a → HR ι base h w → ∃ v', (execOp a.eval o).run P w = .ok (.value v') w ∧ VR ι v v') : OpOut P S n s h o k out :=
  ⟨v, h, hk, OpS_pure hh, Nat.le_refl _, fun _ => ⟨[], by simp⟩⟩

section
variable {P : Program} {S : Spec} {n : Nat} {s : Slots} {h : Heap} {o : Oper} {k : Value → Heap → Out} {out : Res}

theorem op_move {x : Operand} (ho : o.op = .move x) (hk : opK P S s h (.move x) k = some out) : OpOut P S n s h o k out := by
  simp only [opK] at hk
  split at hk
  · rename_i v hv
    exact .pure hk fun ι base w a hs hr => ⟨_, by simp [execOp, ho], opnd_VR hs hv⟩
  · cases hk

theorem op_assign {x : Operand} (ho : o.op = .assign x) (hk : opK P S s h (.assign x) k = some out) : OpOut P S n s h o k out := by
  simp only [opK] at hk
  split at hk
  · rename_i v hv
    exact .pure hk fun ι base w a hs hr => ⟨_, by simp [execOp, ho], opnd_VR hs hv⟩
  · cases hk

theorem op_pick {c x y : Operand} (ho : o.op = .pick c x y) (hk : opK P S s h (.pick c x y) k = some out) : OpOut P S n s h o k out := by
  simp only [opK] at hk
  split at hk
  · rename_i t ht
    cases t with
    | true =>
      simp only [cond_true] at hk
      split at hk
      · rename_i v hv
        refine .pure hk fun ι base w a hs hr => ⟨_, ?_, opnd_VR hs hv⟩
        simp [execOp, ho, (opnd_VR hs ht).bool_inv, asBool]
      · cases hk
    | false =>
      simp only [cond_false] at hk
      split at hk
      · rename_i v hv
        refine .pure hk fun ι base w a hs hr => ⟨_, ?_, opnd_VR hs hv⟩
        simp [execOp, ho, (opnd_VR hs ht).bool_inv, asBool]
      · cases hk
  · cases hk

theorem group_cells {ι : Map} {vs : List Value} {cs' : Array Value} (h : VRs ι vs cs'.toList) : segsOK (group vs) ∧ ∀ (i : Nat) (v : Value), cell? (group vs) i = some v → ∃ v', cs'[i]? = some v' ∧ VR ι v v' := by
  obtain ⟨_, g2, g3⟩ := group_spec vs
  refine ⟨g3 fun k x hm => h.ints k x hm, fun i v hv => ?_⟩
  rw [g2] at hv
  obtain ⟨v', a, b⟩ := h.get hv
  exact ⟨v', by simpa using a, b⟩

theorem plain_cells (ι : Map) {z : Value} (hz : z.cells.toList.all (fun v => plainV 6 v && isCell v) = true) : VRs ι z.cells.toList z.cells.toList :=
  ⟨rfl, fun i v v' h1 h2 => by
    rw [h1] at h2
    cases h2
    have := List.all_eq_true.1 hz v (List.mem_of_getElem? h1)
    rw [Bool.and_eq_true] at this
    exact plainV_VR ι 6 this.1⟩

theorem op_alloc {t : TypeId} (ho : o.op = .alloc t) (hk : opK P S s h (.alloc t) k = some out) : OpOut P S n s h o k out := by
  simp only [opK] at hk
  split at hk
  · rename_i i hi
    split at hk
    · rename_i z hz
      cases hp : z.cells.toList.all (fun v => plainV 6 v && isCell v) with
      | false => simp [hp] at hk
      | true =>
        simp only [hp, cond_true] at hk
        refine ⟨_, _, hk, OpS_push fun ι base w a hs hr => ?_, by simp, fun _ => ⟨_, rfl⟩⟩
        obtain ⟨g1, g2⟩ := group_cells (plain_cells ι hp)
        refine ⟨.pointer (some ⟨w.heap.size, 0, none⟩), z.cells, t, { w with heap := w.heap.push (.cells z.cells t) }, ?_, rfl, ⟨rfl, rfl, rfl⟩, g1, g2, fun ι' hl => ?_⟩
        · simp [execOp, ho, Instr.alloc, run_zeroValue hi hz, newVar, newRow]
        · exact .ptr (l := ⟨w.heap.size, 0, z.cells.size, i.size⟩) hl
    · cases hk
  · cases hk

theorem op_box {t : TypeId} {x : Operand} (ho : o.op = .box t x) (hk : opK P S s h (.box t x) k = some out) : OpOut P S n s h o k out := by
  simp only [opK] at hk
  split at hk
  · rename_i i v hi hv
    cases hp : v.cells.toList.all isCell with
    | false => simp [hp] at hk
    | true =>
      simp only [hp, cond_true] at hk
      refine ⟨_, _, hk, OpS_push fun ι base w a hs hr => ?_, by simp, fun _ => ⟨_, rfl⟩⟩
      have hvr := opnd_VR hs hv
      obtain ⟨g1, g2⟩ := group_cells hvr.cells
      refine ⟨.pointer (some ⟨w.heap.size, 0, none⟩), (a.eval x).cells, t, { w with heap := w.heap.push (.cells (a.eval x).cells t) }, ?_, rfl, ⟨rfl, rfl, rfl⟩, g1, g2, fun ι' hl => ?_⟩
      · simp [execOp, ho, Instr.box, newVar, newRow]
      · exact .ptr (l := ⟨w.heap.size, 0, (a.eval x).cells.size, i.size⟩) hl
  · cases hk

theorem getB_some {id : Nat} {b : Blk} (hb : getB h id = some b) : h[id]? = some (some b) := by
  simp only [getB] at hb
  split at hb
  · rename_i b' h1; simp only [Option.some.injEq] at hb; subst hb; exact h1
  · cases hb

theorem extract_get {cs : Array Value} {x m j : Nat} {u : Value} (hh : (cs.extract x m)[j]? = some u) : cs[x + j]? = some u := by
  have h1 := (Array.getElem?_eq_some_iff.1 hh).1
  simp only [Array.size_extract] at h1
  rw [Array.getElem?_extract_of_lt (by omega)] at hh
  rw [Array.getElem?_eq_getElem (by omega)]
  exact hh

/-- What a load gives. -/
theorem loadK_some {t : TypeId} {p : Value} {kk : Value → Out} (hk : loadK P h t p kk = some out) : ∃ v, kk v = some out ∧ ∀ (ι : Map) (base : Nat) (w : World) (p' : Value), HR ι base h w → VR ι p p' →
    ∃ v', (Instr.loadAt t p').run P w = .ok v' w ∧ VR ι v v' ∧ (asAddr p').run P w = (Instr.sureAddr p').run P w := by
  simp only [loadK] at hk
  split at hk
  · rename_i id off i hi
    split at hk
    · rename_i b hb
      have hb := getB_some hb
      split at hk
      · rename_i ht
        cases hz : Nat.blt 0 i.size with
        | false => simp [hz] at hk
        | true =>
          simp only [hz, cond_true] at hk
          have hz := blt_true hz
          obtain ⟨vs, h1, h2, h3⟩ := rdsK_some hk
          refine ⟨_, h3, fun ι base w p' hr hp => ?_⟩
          obtain ⟨l, hl, rfl⟩ := hp.ptr_inv
          rcases hr.live id b hb with ⟨p1, _⟩ | ⟨l', p1, c, T, fr, q1, q2, q3, q4, q5, q6⟩
          · rw [hl] at p1; cases p1
          · rw [hl] at p1
            simp only [Option.some.injEq] at p1
            subst p1
            have hlast : l.o + off + i.size ≤ c.size := by
              obtain ⟨v', a, _⟩ := q5 _ _ (h2 (i.size - 1) vs[i.size - 1] (List.getElem?_eq_getElem (by omega)))
              have := (Array.getElem?_eq_some_iff.1 a).1
              omega
            refine ⟨.agg (c.extract (l.o + off) (l.o + off + i.size)), ?_, VRs.agg ⟨by simp [h1]; omega, fun j u u' hu hu' => ?_⟩, by simp [asAddr, Instr.sureAddr]⟩
            · simp [Instr.loadAt, Instr.sureAddr, loadVar, run_isAgg ht, run_sizeOf hi, run_loadCells_rel q1 hlast]
            · have hu2 := h2 j u (by simpa using hu)
              obtain ⟨u2, a, b⟩ := q5 _ _ hu2
              have hj : j < i.size := by
                have := (List.getElem?_eq_some_iff.1 hu).1
                simp at this
                omega
              rw [Array.getElem?_toList] at hu'
              have h5 := extract_get hu'
              rw [show l.o + off + j = l.o + (off + j) by omega, a] at h5
              cases h5
              exact b
      · rename_i ht
        obtain ⟨v, h1, h2⟩ := rdK_some hk
        refine ⟨_, h2, fun ι base w p' hr hp => ?_⟩
        obtain ⟨l, hl, rfl⟩ := hp.ptr_inv
        obtain ⟨v', a, b⟩ := hr.cell hb hl h1
        exact ⟨v', by simp [Instr.loadAt, Instr.sureAddr, loadVar, run_isAgg ht, a], b, by simp [asAddr, Instr.sureAddr]⟩
      · cases hk
    · cases hk
  · cases hk

theorem op_load {t : TypeId} {x : Operand} (ho : o.op = .load t x) (hk : opK P S s h (.load t x) k = some out) : OpOut P S n s h o k out := by
  simp only [opK] at hk
  split at hk
  · rename_i p hp
    obtain ⟨v, h1, h2⟩ := loadK_some hk
    refine .pure h1 fun ι base w a hs hr => ?_
    obtain ⟨v', a1, a2, _⟩ := h2 ι base w _ hr (opnd_VR hs hp)
    exact ⟨v', by simp [execOp, ho, a1], a2⟩
  · cases hk

theorem wrsK_some : ∀ {vs : List Value} {sg : List Seg} {i : Nat} {kk : List Seg → Out} {out : Res}, wrsK sg i vs kk = some out → segsOK sg → (∀ (ik : IntKind) (x : Int), Value.int ik x ∈ vs → ik.min ≤ x ∧ x ≤ ik.max) →
    ∃ sg', kk sg' = some out ∧ (vs ≠ [] → i + vs.length ≤ segsLen sg) ∧ segsLen sg' = segsLen sg ∧ segsOK sg' ∧ ∀ j, cell? sg' j = if i ≤ j ∧ j < i + vs.length then vs[j - i]? else cell? sg j
  | [], sg, i, kk, out, h, ho, _ => ⟨sg, h, fun e => (e rfl).elim, rfl, ho, fun j => by
      have : ¬ (i ≤ j ∧ j < i + ([] : List Value).length) := by rintro ⟨h1, h2⟩; simp at h2; omega
      rw [if_neg this]⟩
  | v :: vs, sg, i, kk, out, h, ho, hv => by
    simp only [wrsK] at h
    obtain ⟨sg1, a1, a2, a3, a4, a5⟩ := wrK_some h ho
    have ho1 := a5 (fun ik x e => hv ik x (by rw [e]; exact List.mem_cons_self ..))
    obtain ⟨sg2, b1, b2, b3, b4, b5⟩ := wrsK_some a1 ho1 (fun ik x hm => hv ik x (List.mem_cons_of_mem _ hm))
    refine ⟨sg2, b1, fun _ => ?_, by rw [b3, a3], b4, fun j => ?_⟩
    · by_cases e : vs = []
      · subst e; simp; omega
      · have := b2 e; simp; omega
    · rw [b5, a4]
      by_cases hj : j = i
      · subst hj
        rw [if_neg (by omega), if_pos rfl, if_pos (by simp)]
        simp
      · rw [if_neg hj]
        by_cases hj2 : i + 1 ≤ j ∧ j < i + 1 + vs.length
        · rw [if_pos hj2, if_pos (by simp; omega), show j - i = (j - (i + 1)) + 1 by omega, List.getElem?_cons_succ]
        · rw [if_neg hj2, if_neg (by simp; omega)]

theorem op_store {t : TypeId} {x y : Operand} (ho : o.op = .store t x y) (hk : opK P S s h (.store t x y) k = some out) : OpOut P S n s h o k out := by
  simp only [opK] at hk
  split at hk
  · rename_i id off v i hp hv hi
    split at hk
    · rename_i own es sg hb
      have hb := getB_some hb
      cases hc : own && Nat.blt 0 i.size && Nat.beq v.cells.size i.size && v.cells.toList.all isCell with
      | false => rw [hc] at hk; cases hk
      | true =>
        simp only [hc, cond_true] at hk
        simp only [Bool.and_eq_true] at hc
        obtain ⟨⟨⟨rfl, hz⟩, hsz⟩, hall⟩ := hc
        have hz := blt_true hz
        have hsz := beq_true hsz
        by_cases hoo : segsOK sg ∧ (∀ (ik : IntKind) (x : Int), Value.int ik x ∈ v.cells.toList → ik.min ≤ x ∧ x ≤ ik.max)
        case neg =>
          -- no world holds such a heap
          obtain ⟨sg0, hk0⟩ : ∃ sg', k undef (h.set id (some ⟨true, es, sg'⟩)) = some out := by
            have aux : ∀ (vs : List Value) (sg : List Seg) (i : Nat) (kk : List Seg → Out), wrsK sg i vs kk = some out → ∃ sg', kk sg' = some out := by
              have one : ∀ (sg : List Seg) (i : Nat) (v : Value) (kk : List Seg → Out), wrK sg i v kk = some out → ∃ sg', kk sg' = some out := by
                intro sg
                induction sg with
                | nil => intro i v kk h; simp [wrK] at h
                | cons g r ih =>
                  intro i v kk h
                  cases g with
                  | vals vs =>
                    simp only [wrK] at h
                    split at h
                    · exact ⟨_, h⟩
                    · obtain ⟨_, h⟩ := ih _ _ _ h; exact ⟨_, h⟩
                  | ints ik m xs =>
                    simp only [wrK] at h
                    cases hb : Nat.blt i m with
                    | true =>
                      simp only [hb, cond_true] at h
                      split at h
                      · rename_i ik' x
                        cases hk : (ik == ik') with
                        | true => simp only [hk, cond_true] at h; exact ⟨_, h⟩
                        | false => simp [hk] at h
                      · cases h
                    | false => simp only [hb, cond_false] at h; obtain ⟨_, h⟩ := ih _ _ _ h; exact ⟨_, h⟩
              intro vs
              induction vs with
              | nil => intro sg i kk h; exact ⟨_, h⟩
              | cons u us ih => intro sg i kk h; simp only [wrsK] at h; obtain ⟨_, h⟩ := one _ _ _ _ h; exact ih _ _ _ h
            exact aux _ _ _ _ hk
          refine ⟨_, _, hk0, fun ι base w a hs hr => ?_, by simp, by simp [ho, modifies]⟩
          exfalso
          apply hoo
          obtain ⟨l, hl, _⟩ := (opnd_VR hs hp).ptr_inv
          rcases hr.live id _ hb with ⟨p1, _⟩ | ⟨l', p1, c, T, fr, q1, q2, q3, q4, q5, q6⟩
          · rw [hl] at p1; cases p1
          · exact ⟨q4, fun ik x hm => (opnd_VR hs hv).cells.ints ik x hm⟩
        case pos =>
          obtain ⟨sg', b1, b2, b3, b4, b5⟩ := wrsK_some hk hoo.1 hoo.2
          refine ⟨_, _, b1, fun ι base w a hs hr next Q hn => ?_, by simp, by simp [ho, modifies]⟩
          obtain ⟨l, hl, hpe⟩ := (opnd_VR hs hp).ptr_inv
          have hvr := (opnd_VR hs hv).cells
          have hlen : (a.eval y).cells.toList.length = v.cells.toList.length := hvr.1.symm
          rcases hr.live id _ hb with ⟨p1, _⟩ | ⟨l', p1, c, T, fr, q1, q2, q3, q4, q5, q6⟩
          · rw [hl] at p1; cases p1
          rw [hl] at p1
          simp only [Option.some.injEq] at p1
          subst p1
          have hl0 : v.cells.toList.length = v.cells.size := Array.length_toList
          have hne : v.cells.toList ≠ [] := by intro e; have := congrArg List.length e; simp only [List.length_nil] at this; omega
          have hbd := b2 hne
          have hlast : l.o + off + v.cells.toList.length ≤ c.size := by
            obtain ⟨u, hu⟩ := cell?_some (sg := sg) (i := off + v.cells.toList.length - 1) (by omega)
            obtain ⟨v', a, _⟩ := q5 _ _ hu
            have := (Array.getElem?_eq_some_iff.1 a).1
            omega
          have hcells : ∀ u ∈ (a.eval y).cells.toList, isCell u = true := by
            intro u hu
            obtain ⟨j, hj⟩ := List.getElem?_of_mem hu
            have hjl := (List.getElem?_eq_some_iff.1 hj).1
            have hj2 : v.cells.toList[j]? = some v.cells.toList[j] := List.getElem?_eq_getElem (by omega)
            rw [(hvr.2 j _ u hj2 hj).isCell]
            exact List.all_eq_true.1 hall _ (List.mem_of_getElem? hj2)
          obtain ⟨w2, c', r1, r2, r3, r4, r5⟩ := run_storeCells (P := P) (b := l.b) (o := l.o + off) (q6 rfl) (a.eval y).cells.toList 0 w c q1 (by rw [hlen]; omega) hcells
          have hrun : (execOp a.eval o).run P w = .ok .skip w2 := by
            have : ((a.eval y).cells.size ≠ i.size) = False := by
              simp only [ne_eq, eq_iff_iff, iff_false, Decidable.not_not]
              have := hlen; simp at this; omega
            simp [execOp, ho, hpe, Instr.storeAt, Instr.sureAddr, storeVar, run_sizeOf hi, this, r1]
          simp only [Oper.wp, hrun, Oper.upon]
          refine hn undef w2 ⟨ι, Map.le_refl _, fun id l hl => .inl hl, HR_upd hr hb hl q1 r2 r4 b4 (fun j u hu => ?_), VR.undef ι, ?_, fun b hb' _ => mods_set (fun _ _ => ⟨_, hb, rfl⟩) hb'⟩
          · rw [b5] at hu
            by_cases hj : off ≤ j ∧ j < off + v.cells.toList.length
            · rw [if_pos hj] at hu
              obtain ⟨u', x1, x2⟩ := hvr.get hu
              exact ⟨u', by rw [r5, if_pos (by omega), ← x1]; congr 1; omega, x2⟩
            · rw [if_neg hj] at hu
              obtain ⟨u', x1, x2⟩ := q5 _ _ hu
              exact ⟨u', by rw [r5, if_neg (by omega)]; exact x1, x2⟩
          · rw [ho]
            simp only [modifies, if_true]
            refine ⟨by rw [r2]; simp, fun b' hb' hm => ?_, r3.os, r3.out, r3.tape, frozen_set q1 r2⟩
            rw [r2, Array.getElem?_setIfInBounds_ne (fun e => hm ⟨id, _, l, hb, rfl, hl, e⟩)]
    · cases hk
  · cases hk

theorem op_nilCheck {x : Operand} (ho : o.op = .nilCheck x) (hk : opK P S s h (.nilCheck x) k = some out) : OpOut P S n s h o k out := by
  simp only [opK] at hk
  split at hk
  · rename_i ad hx
    obtain ⟨id, off, sp⟩ := ad
    refine .pure hk fun ι base w a hs hr => ?_
    have hv := opnd_VR hs hx
    cases sp with
    | some z => cases hv
    | none =>
      obtain ⟨l, hl, he⟩ := hv.ptr_inv
      exact ⟨_, by simp [execOp, ho, he], he ▸ hv⟩
  · rename_i g xs ys hx
    refine .pure hk fun ι base w a hs hr => ?_
    have hv := opnd_VR hs hx
    obtain ⟨xs', ys', he, _⟩ := hv.func_inv
    exact ⟨_, by simp [execOp, ho, he], he ▸ hv⟩
  · cases hk

theorem op_fieldAddr {t : TypeId} {x : Operand} {f : Nat} (ho : o.op = .fieldAddr t x f) (hk : opK P S s h (.fieldAddr t x f) k = some out) : OpOut P S n s h o k out := by
  simp only [opK] at hk
  split at hk
  · rename_i fs id off hu hx
    split at hk
    · rename_i fl hfl
      split at hk
      · rename_i i hi
        cases hz : Nat.blt 0 i.size with
        | false => simp [hz] at hk
        | true =>
          simp only [hz, cond_true] at hk
          have hz := blt_true hz
          refine .pure hk fun ι base w a hs hr => ?_
          obtain ⟨l, hl, he⟩ := (opnd_VR hs hx).ptr_inv
          refine ⟨_, ?_, .ptr hl⟩
          simp [execOp, ho, he, Instr.fieldAt, run_underlying hu, hfl, Instr.sureAddr, fieldPlace, run_sizeOf hi, addr_add, show ¬ i.size = 0 by omega]
          omega
      · cases hk
    · cases hk
  · cases hk

theorem partV_some {t : TypeId} {cs cs' : Array Value} {off : Nat} {v : Value} {ι : Map} {w : World} (hp : partV P t cs off = some v) (hc : VRs ι cs.toList cs'.toList) :
    ∃ v', (part t cs' off).run P w = .ok v' w ∧ VR ι v v' := by
  simp only [partV] at hp
  split at hp
  · rename_i i hi
    have ext : ∀ m, VRs ι (cs.extract off m).toList (cs'.extract off m).toList := by
      intro m
      have hsz : cs.size = cs'.size := by simpa using hc.1
      refine ⟨by simp [hsz], fun j u u' hu hu' => ?_⟩
      rw [Array.getElem?_toList] at hu hu'
      exact hc.2 (off + j) u u' (by rw [Array.getElem?_toList]; exact extract_get hu) (by rw [Array.getElem?_toList]; exact extract_get hu')
    split at hp
    · rename_i fs hu
      simp only [Option.some.injEq] at hp; subst hp
      refine ⟨_, ?_, VRs.agg (ext _)⟩
      simp [part, run_isAgg (show isAggT P t = some true by simp [isAggT, hu]), run_sizeOf hi]
    · rename_i m e hu
      simp only [Option.some.injEq] at hp; subst hp
      refine ⟨_, ?_, VRs.agg (ext _)⟩
      simp [part, run_isAgg (show isAggT P t = some true by simp [isAggT, hu]), run_sizeOf hi]
    · rename_i d hn1 hn2 hu
      obtain ⟨v', a, b⟩ := hc.get (i := off) (v := v) (by simpa using hp)
      refine ⟨v', ?_, b⟩
      have hag : isAggT P t = some false := by
        simp only [isAggT, hu]
      rw [Array.getElem?_toList] at a
      simp [part, run_isAgg hag, a]
    · cases hp
  · cases hp

theorem op_field {t : TypeId} {x : Operand} {f : Nat} (ho : o.op = .field t x f) (hk : opK P S s h (.field t x f) k = some out) : OpOut P S n s h o k out := by
  simp only [opK] at hk
  split at hk
  · rename_i fs cs hu hx
    split at hk
    · rename_i fl hfl
      split at hk
      · rename_i v hv
        refine .pure hk fun ι base w a hs hr => ?_
        obtain ⟨cs', he, h1, h2⟩ := (opnd_VR hs hx).agg_inv
        obtain ⟨v', a1, a2⟩ := partV_some (w := w) hv (VRs.arr h1 h2)
        exact ⟨v', by simp [execOp, ho, he, Instr.field, run_underlying hu, hfl, asAgg, a1], a2⟩
      · cases hk
    · cases hk
  · cases hk

theorem op_extract {x : Operand} {f : Nat} (ho : o.op = .extract x f) (hk : opK P S s h (.extract x f) k = some out) : OpOut P S n s h o k out := by
  simp only [opK] at hk
  split at hk
  · rename_i vs hx
    split at hk
    · rename_i v hv
      refine .pure hk fun ι base w a hs hr => ?_
      obtain ⟨cs', he, h1, h2⟩ := (opnd_VR hs hx).tuple_inv
      obtain ⟨v', a1, a2⟩ := (VRs.arr h1 h2).get (i := f) (v := v) (by simpa using hv)
      rw [Array.getElem?_toList] at a1
      exact ⟨v', by simp [execOp, ho, he, Instr.extract, a1], a2⟩
    · cases hk
  · cases hk

theorem op_makeFunc {fn : Fn} {xs ys : Array Operand} (ho : o.op = .makeFunc fn xs ys) (hk : opK P S s h (.makeFunc fn xs ys) k = some out) : OpOut P S n s h o k out := by
  simp only [opK] at hk
  split at hk
  · rename_i us ws h1 h2
    refine .pure hk fun ι base w a hs hr => ⟨.func fn (xs.map a.eval) (ys.map a.eval), by simp [execOp, ho, Instr.makeFunc], ?_⟩
    have q1 := opnds_VRs hs h1
    have q2 := opnds_VRs hs h2
    exact .func fn (by simpa using q1.1) (fun i v v' a b => q1.2 i v v' (by simpa using a) (by simpa using b)) (by simpa using q2.1) (fun i v v' a b => q2.2 i v v' (by simpa using a) (by simpa using b))
  · cases hk

theorem op_indexAddr {t : TypeId} {x ix : Operand} (ho : o.op = .indexAddr t x ix) (hk : opK P S s h (.indexAddr t x ix) k = some out) : OpOut P S n s h o k out := by
  simp only [opK] at hk
  split at hk
  · rename_i len elem id off ik i hu hx hix
    split at hk
    · rename_i inf hi
      cases hc : decide (0 ≤ i) && decide (i < len) with
      | false => simp [hc] at hk
      | true =>
        simp only [hc, cond_true] at hk
        simp only [Bool.and_eq_true, decide_eq_true_eq] at hc
        refine .pure hk fun ι base w a hs hr => ?_
        obtain ⟨l, hl, he⟩ := (opnd_VR hs hx).ptr_inv
        have hie := (opnd_VR hs hix).int_inv.1
        refine ⟨_, ?_, .ptr hl⟩
        simp [execOp, ho, he, hie, Instr.indexAt, asIntOf, run_underlying hu, Instr.sureAddr, hc.1, hc.2, run_sizeOf hi, addr_add]
        omega
    · cases hk
  · rename_i elem id off len cc ik i hu hx hix
    split at hk
    · rename_i inf hi
      cases hc : decide (0 ≤ i) && decide (i < len) with
      | false => simp [hc] at hk
      | true =>
        simp only [hc, cond_true] at hk
        simp only [Bool.and_eq_true, decide_eq_true_eq] at hc
        refine .pure hk fun ι base w a hs hr => ?_
        have hie := (opnd_VR hs hix).int_inv.1
        rcases (opnd_VR hs hx).sl_inv with ⟨_, hz, _⟩ | ⟨l, c', hl, _, _, _, _, he⟩
        · subst hz; simp at hc; omega
        · refine ⟨_, ?_, .ptr hl⟩
          simp [execOp, ho, he, hie, Instr.indexAt, asIntOf, run_underlying hu, Instr.sureAddr, hc.1, hc.2, run_sizeOf hi, addr_add]
          omega
    · cases hk
  · cases hk

theorem op_index {t : TypeId} {x ix : Operand} (ho : o.op = .index t x ix) (hk : opK P S s h (.index t x ix) k = some out) : OpOut P S n s h o k out := by
  simp only [opK] at hk
  split at hk
  · rename_i len elem cs ik i hu hx hix
    split at hk
    · rename_i inf hi
      cases hc : decide (0 ≤ i) && decide (i < len) with
      | false => simp [hc] at hk
      | true =>
        simp only [hc, cond_true] at hk
        simp only [Bool.and_eq_true, decide_eq_true_eq] at hc
        split at hk
        · rename_i v hv
          refine .pure hk fun ι base w a hs hr => ?_
          obtain ⟨cs', he, h1, h2⟩ := (opnd_VR hs hx).agg_inv
          have hie := (opnd_VR hs hix).int_inv.1
          obtain ⟨v', a1, a2⟩ := partV_some (w := w) hv (VRs.arr h1 h2)
          refine ⟨v', ?_, a2⟩
          simp [execOp, ho, he, hie, Instr.index, asIntOf, run_underlying hu, hc.1, hc.2, run_sizeOf hi, a1]
        · cases hk
    · cases hk
  · rename_i str ik i hu hx hix
    cases hc : decide (0 ≤ i) && decide (i < str.size) with
    | false => simp [hc] at hk
    | true =>
      simp only [hc, cond_true] at hk
      simp only [Bool.and_eq_true, decide_eq_true_eq] at hc
      refine .pure hk fun ι base w a hs hr => ?_
      have he := (opnd_VR hs hx).string_inv.1
      have hie := (opnd_VR hs hix).int_inv.1
      have hlt : i.toNat < str.size := by omega
      refine ⟨.int .u8 (bt str i.toNat), ?_, .int _ _ ?_⟩
      · have : str[i.toNat]? = some str[i.toNat] := by simp [hlt]
        have hb : bt str i.toNat = (str[i.toNat].toNat : Int) := by
          have h1 : i.toNat < str.data.size := hlt
          simp only [bt, List.getD_eq_getElem?_getD, Array.getElem?_toList, Array.getElem?_eq_getElem h1]
          rfl
        simp [execOp, ho, he, hie, Instr.index, asIntOf, run_underlying hu, hc.1, this, hb]
      · have := UInt8.toNat_lt (str.data.toList.getD i.toNat 0)
        have e1 : IntKind.u8.min = 0 := by decide
        have e2 : IntKind.u8.max = 255 := by decide
        simp only [bt, e1, e2]
        omega
  · cases hk
end
end Go.Proofs.Ytfgehfnlkakioaa.VC

/- Append, the other builtins, calls; all operations together. -/
import Derived.Test.YtfgehfnlkakioaaV12
namespace Go.Proofs.Ytfgehfnlkakioaa.VC
open Go

section
variable {P : Program} {S : Spec} {n : Nat} {s : Slots} {h : Heap} {o : Oper} {k : Value → Heap → Out} {out : Res}

theorem takeK_ex : ∀ {sg : List Seg} {m : Nat} {kk : List Seg → Out}, takeK sg m kk = some out → ∃ sg', kk sg' = some out
  | [], m, kk, h => by simp only [takeK] at h; obtain ⟨_, h⟩ := bif_none h; exact ⟨_, h⟩
  | .vals vs :: r, m, kk, h => by
    rw [takeK_vals] at h
    rcases bif_some h with ⟨_, h⟩ | ⟨_, h⟩
    · exact ⟨_, h⟩
    rcases bif_some h with ⟨_, h⟩ | ⟨_, h⟩
    · exact ⟨_, h⟩
    · obtain ⟨_, h⟩ := takeK_ex (takeR_some h); exact ⟨_, h⟩
  | .ints ik n xs :: r, m, kk, h => by
    rw [takeK_ints] at h
    rcases bif_some h with ⟨_, h⟩ | ⟨_, h⟩
    · exact ⟨_, h⟩
    · obtain ⟨_, h⟩ := takeK_ex (takeR_some h); exact ⟨_, h⟩

theorem dropK_ex : ∀ {sg : List Seg} {m : Nat} {kk : List Seg → Out}, dropK sg m kk = some out → ∃ sg', kk sg' = some out
  | [], m, kk, h => by simp only [dropK] at h; obtain ⟨_, h⟩ := bif_none h; exact ⟨_, h⟩
  | .vals vs :: r, m, kk, h => by
    simp only [dropK] at h
    rcases bif_some h with ⟨_, h⟩ | ⟨_, h⟩
    · exact ⟨_, h⟩
    · exact dropK_ex h
  | .ints ik n xs :: r, m, kk, h => by
    simp only [dropK] at h
    rcases bif_some h with ⟨_, h⟩ | ⟨_, h⟩
    · exact ⟨_, h⟩
    · exact dropK_ex h

/-- What a slice or a string holds, abstract and real. -/
def CellsS (P : Program) (h : Heap) (es : Nat) (v : Value) (m : Nat) (sg : List Seg) : Prop :=
  ∀ (ι : Map) (base : Nat) (w : World) (v' : Value), HR ι base h w → VR ι v v' → (Builtin.lenOf v').run P w = .ok m w ∧ ∃ cs', (Builtin.firstCells es m v').run P w = .ok cs' w ∧
    cs'.size = m * es ∧ segsOK sg ∧ segsLen sg = m * es ∧ ∀ (i : Nat) (u : Value), cell? sg i = some u → ∃ u', cs'[i]? = some u' ∧ VR ι u u'

theorem strInts_get (str : ByteArray) (i : Nat) : (strInts str).getD i 0 = (((str.data.toList[i]?).map fun b => ((b.toNat : Nat) : Int)).getD 0) := by
  simp [strInts]

theorem cellsK_some {es : Nat} {v : Value} {kk : Nat → List Seg → Out} (hk : cellsK h es v kk = some out) : ∃ m sg, kk m sg = some out ∧ CellsS P h es v m sg := by
  unfold cellsK at hk
  split at hk
  · refine ⟨_, _, hk, fun ι base w v' hr hv => ?_⟩
    rw [hv.slNil_inv.1]
    exact ⟨by simp [Builtin.lenOf], #[], by simp [Builtin.firstCells], by simp, segsOK_nil, by simp [segsLen], fun i u hu => by simp [cell?] at hu⟩
  · rename_i id off m c
    split at hk
    · rename_i b hb
      have hb := getB_some hb
      by_cases hok : segsOK b.segs
      · obtain ⟨l1, d1, d2, d3, d4, d5⟩ := dropK_some hk hok
        obtain ⟨l2, t1, t2, t3, t4, t5⟩ := takeK_some d1 d4
        refine ⟨_, _, t1, fun ι base w v' hr hv => ?_⟩
        rcases hv.sl_inv with ⟨ad, rfl, rfl⟩ | ⟨lc, c', hl, hlen, hcap, ht, ha, rfl⟩
        · refine ⟨by simp [Builtin.lenOf], #[], ?_, by simp, t4, t3, fun i u hu => ?_⟩
          · cases ad <;> simp [Builtin.firstCells, loadCells, loadCellsFrom]
          · have := cell?_lt hu
            omega
        · rcases hr.live id b hb with ⟨p1, _⟩ | ⟨l', p1, cc, T, fr, q1, q2, q3, q4, q5, q6⟩
          · rw [hl] at p1; cases p1
          rw [hl] at p1
          simp only [Option.some.injEq] at p1
          subst p1
          refine ⟨by simp [Builtin.lenOf], ?_⟩
          by_cases hz : m * es = 0
          · refine ⟨#[], by simp [Builtin.firstCells, loadCells, loadCellsFrom, hz], by simp [hz], t4, t3, fun i u hu => ?_⟩
            have := cell?_lt hu
            omega
          · have hlast : lc.o + off + m * es ≤ cc.size := by
              obtain ⟨u, hu⟩ := cell?_some (sg := b.segs) (i := off + (m * es - 1)) (by omega)
              obtain ⟨v', a, _⟩ := q5 _ _ hu
              have := (Array.getElem?_eq_some_iff.1 a).1
              omega
            refine ⟨cc.extract (lc.o + off) (lc.o + off + m * es), by simp only [Builtin.firstCells]; exact run_loadCells_rel q1 hlast, by simp; omega, t4, t3, fun i u hu => ?_⟩
            have hi := cell?_lt hu
            rw [t5 i (by omega), d5] at hu
            obtain ⟨u', a1, a2⟩ := q5 _ _ hu
            refine ⟨u', ?_, a2⟩
            rw [Array.getElem?_extract_of_lt (by omega)]
            rw [show lc.o + (off + i) = lc.o + off + i by omega] at a1
            rw [← a1, Array.getElem?_eq_getElem (by omega)]
      · obtain ⟨_, h1⟩ := dropK_ex hk
        obtain ⟨_, h2⟩ := takeK_ex h1
        refine ⟨_, _, h2, fun ι base w v' hr hv => ?_⟩
        exfalso
        rcases hr.live id b hb with ⟨p1, p2⟩ | ⟨l', p1, cc, T, fr, q1, q2, q3, q4, q5, q6⟩
        · exact hok p2.1
        · exact hok q4
    · cases hk
  · rename_i str
    obtain ⟨he, hk⟩ := bif_none hk
    have he := beq_true he
    subst he
    refine ⟨_, _, hk, fun ι base w v' hr hv => ?_⟩
    obtain ⟨rfl, hs⟩ := hv.string_inv
    have hsz : (strInts str).length = str.size := by
      simp only [strInts, List.length_map, Array.length_toList]
      rfl
    refine ⟨by simp [Builtin.lenOf], (str.extract 0 str.size).data.map fun b => .int .u8 b.toNat, by simp only [Builtin.firstCells, Sem.run_pure], ?_, ?_, by simp [segsLen, segLen], fun i u hu => ?_⟩
    · simp [ByteArray.extract_zero_size]
    · refine segsOK_cons.2 ⟨⟨hsz, fun x hx => ?_⟩, segsOK_nil⟩
      simp only [strInts, List.mem_map] at hx
      obtain ⟨b, _, rfl⟩ := hx
      have := UInt8.toNat_lt b
      have e1 : IntKind.u8.min = 0 := by decide
      have e2 : IntKind.u8.max = 255 := by decide
      rw [e1, e2]
      omega
    · simp only [cell?] at hu
      by_cases hi : i < str.size
      · rw [if_pos hi] at hu
        simp only [Option.some.injEq] at hu
        subst hu
        have h1 : i < str.data.size := hi
        refine ⟨.int .u8 (str.data[i].toNat : Int), ?_, ?_⟩
        · rw [ByteArray.extract_zero_size, Array.getElem?_map, Array.getElem?_eq_getElem h1]
          rfl
        · rw [strInts_get, Array.getElem?_toList, Array.getElem?_eq_getElem h1]
          simp only [Option.map_some, Option.getD_some]
          have := UInt8.toNat_lt str.data[i]
          have e1 : IntKind.u8.min = 0 := by decide
          have e2 : IntKind.u8.max = 255 := by decide
          exact .int _ _ (by rw [e1, e2]; omega)
      · rw [if_neg hi] at hu; cases hu
  · cases hk

theorem HR_phantom {ι : Map} {base : Nat} {w : World} {sg : List Seg} {es : Nat} (hr : HR ι base h w) (hok : segsOK sg) (hl : segsLen sg = 0) : HR ι base (h ++ [some ⟨true, es, sg⟩]) w := by
  have hf := hr.fresh (Nat.le_refl _)
  have split : ∀ (id : Nat) (blk : Blk), (h ++ [some ⟨true, es, sg⟩])[id]? = some (some blk) → (id < h.length ∧ h[id]? = some (some blk)) ∨ (id = h.length ∧ blk = ⟨true, es, sg⟩) := by
    intro id blk hb
    by_cases hi : id < h.length
    · rw [List.getElem?_append_left hi] at hb; exact .inl ⟨hi, hb⟩
    · rw [List.getElem?_append_right (by omega)] at hb
      have := (List.getElem?_eq_some_iff.1 hb).1
      simp at this
      have : id - h.length = 0 := by omega
      rw [this] at hb
      simp at hb
      exact .inr ⟨by omega, hb.symm⟩
  refine ⟨fun id blk hb => ?_, fun id l hl => by have := hr.dom id l hl; simp; omega, fun id id' blk blk' l l' hb hb' ho hne hl hl' => ?_, fun id blk l hb ho hl => ?_, hr.base_le⟩
  · rcases split id blk hb with ⟨_, hb⟩ | ⟨rfl, rfl⟩
    · exact hr.live id blk hb
    · exact .inl ⟨hf, hok, fun i => cell?_none (by rw [hl]; exact Nat.zero_le _)⟩
  · rcases split id blk hb with ⟨_, hb⟩ | ⟨rfl, rfl⟩
    · rcases split id' blk' hb' with ⟨_, hb'⟩ | ⟨rfl, rfl⟩
      · exact hr.inj id id' blk blk' l l' hb hb' ho hne hl hl'
      · rw [hf] at hl'; cases hl'
    · rw [hf] at hl; cases hl
  · rcases split id blk hb with ⟨_, hb⟩ | ⟨rfl, rfl⟩
    · exact hr.own id blk l hb ho hl
    · rw [hf] at hl; cases hl

/-- Append's answer, where it takes new memory, or nothing is laid. -/
theorem append_new {ι : Map} {base : Nat} {w : World} (hr : HR ι base h w) {t u elem : TypeId} {inf : TypeInfo} {z : Value} {d : TypeDesc} (ht : P.underlying t = some (.slice elem)) (hi : P.info? elem = some inf) (hz : inf.zero = some z)
    (hu : P.underlying u = some d) (hd : ∀ k, d ≠ .int k) (hzs : z.cells.size = inf.size) {len m cap : Nat} {b : Option Addr} {x : Value} {old new : List Seg} {co cn : Array Value} (hlx : (Builtin.lenOf x).run P w = .ok m w)
    (hfx : (Builtin.firstCells inf.size m x).run P w.drew = .ok cn w.drew) (hfo : (Builtin.firstCells inf.size len (.slice b len cap)).run P w.drew = .ok co w.drew)
    (ho1 : co.size = len * inf.size) (hn1 : cn.size = m * inf.size) (ho2 : segsOK old) (hn2 : segsOK new) (ho3 : segsLen old = len * inf.size) (hn3 : segsLen new = m * inf.size)
    (ho4 : ∀ (i : Nat) (u : Value), cell? old i = some u → ∃ u', co[i]? = some u' ∧ VR ι u u') (hn4 : ∀ (i : Nat) (u : Value), cell? new i = some u → ∃ u', cn[i]? = some u' ∧ VR ι u u')
    (hcap : cap < len + m) (hb1 : (len + m) * inf.bytes ≤ 140737488355328) (hb2 : len + m ≤ 4611686018427387904) (ty : TypeId) :
    ∃ v' w', (Builtin.append_ #[t, u] ty #[.slice b len cap, x]).run P w = .ok v' w' ∧ After ι base h w (.slice (some ⟨h.length, 0, none⟩) (len + m) 1) (h ++ [some ⟨true, inf.size, joinS old new⟩]) v' w' (fun _ => False) := by
  have hcell := growslice_fits hcap hb1
  obtain ⟨j1, j2, j3⟩ := joinS_spec ho2 hn2
  have hun : ((P.underlying u).map fun d => (d matches .int _)) = some false := by
    rw [hu]; cases d <;> first | rfl | exact (hd _ rfl).elim
  let nc := (len + m) + w.tape w.drawn (.appendCap (len + m) cap elem) % (2 ^ 63 - (len + m))
  let cells := co ++ cn ++ Builtin.zeroCells z.cells (nc - (len + m))
  have hsz : cells.size = nc * inf.size := by
    simp only [cells, Array.size_append, Builtin.zeroCells, Array.size_map, Array.size_range, ho1, hn1, hzs]
    rw [← Nat.add_mul, ← Nat.add_mul]
    congr 1
    simp only [nc]
    exact Nat.add_sub_cancel' (Nat.le_add_right _ _)
  have hrun : (Builtin.append_ #[t, u] ty #[.slice b len cap, x]).run P w = .ok (.slice (some ⟨w.heap.size, 0, none⟩) (len + m) nc) { w with drawn := w.drawn + 1, heap := w.heap.push (.cells cells elem) } := by
    have hn' : ¬ (len + m ≤ cap) := by omega
    have h63' : ¬ (9223372036854775807 < ((len : Int) + (m : Int))) := by omega
    have h48' : ¬ (281474976710656 < Builtin.nextslicecap (len + m) cap * inf.bytes) := by omega
    simp [Builtin.append_, run_underlying ht, run_underlying hu, sizeOf, typeInfo, zeroValue, hi, hz, hlx, hn', h63', h48', Question.forced, hfx, hfo, newRow]
    refine ⟨rfl, ?_⟩
    simp only [cells, Array.append_assoc]
    rfl
  refine ⟨_, _, hrun, ?_⟩
  refine after_push hr (c := cells) (T := elem) (es := inf.size) rfl ⟨rfl, rfl, rfl⟩ j1 (fun i v hv => ?_) (fun ι' hl => ?_)
  · have hlt := cell?_lt hv
    rw [j3] at hv
    by_cases hi2 : i < segsLen old
    · rw [if_pos hi2] at hv
      obtain ⟨u', a1, a2⟩ := ho4 i v hv
      exact ⟨u', by simp only [cells]; rw [Array.getElem?_append_left (by simp; omega), Array.getElem?_append_left (by omega)]; exact a1, a2⟩
    · rw [if_neg hi2] at hv
      obtain ⟨u', a1, a2⟩ := hn4 _ v hv
      exact ⟨u', by simp only [cells]; rw [Array.getElem?_append_left (by simp; omega), Array.getElem?_append_right (by omega), ho1, ← ho3]; exact a1, a2⟩
  · refine .sl (l := ⟨w.heap.size, 0, cells.size, inf.size⟩) hl hb2 (by simp only [nc]; omega) (fun e => by cases e) (fun _ => ?_)
    simp only [hsz]
    omega

/-- Append where there is room, or nothing is laid. -/
theorem run_append_room {w : World} {t u elem : TypeId} {inf : TypeInfo} {d : TypeDesc} (ht : P.underlying t = some (.slice elem)) (hi : P.info? elem = some inf)
    (hu : P.underlying u = some d) (hd : ∀ k, d ≠ .int k) {len m cap : Nat} {b : Option Addr} {x : Value} {cn : Array Value} (hlx : (Builtin.lenOf x).run P w = .ok m w)
    (hfx : (Builtin.firstCells inf.size m x).run P w = .ok cn w) (hcap : len + m ≤ cap) (ty : TypeId) {w2 : World}
    (hst : (match b with | some a => storeCells (a.add (len * inf.size)) cn.toList | none => pure () : Sem Unit).run P w = .ok () w2) :
    (Builtin.append_ #[t, u] ty #[.slice b len cap, x]).run P w = .ok (.slice b (len + m) cap) w2 := by
  cases b with
  | none =>
    simp at hst
    subst hst
    simp [Builtin.append_, run_underlying ht, run_underlying hu, sizeOf, typeInfo, hi, hlx, hcap, hfx]
  | some a =>
    simp only at hst
    simp [Builtin.append_, run_underlying ht, run_underlying hu, sizeOf, typeInfo, hi, hlx, hcap, hfx, hst]

theorem appendK_some {st u : TypeId} {args : List Value} (hk : appendK P h st args u k = some out) : ∃ v h', k v h' = some out ∧ h.length ≤ h'.length ∧
    ∀ (ι : Map) (base : Nat) (w : World) (args' : Array Value) (ty : TypeId), HR ι base h w → VRs ι args args'.toList → ∃ v' w', (Builtin.append_ #[st, u] ty args').run P w = .ok v' w' ∧ After ι base h w v h' v' w' (mods ι h) := by
  unfold appendK at hk
  split at hk
  · rename_i elem s x ht
    split at hk
    · cases hk
    · rename_i inf hi
      split at hk
      · cases hk
      · cases hk
      · rename_i d hd hu
        have hd' : ∀ k, d ≠ .int k := fun k e => hd k (by rw [e])
        cases hzz : zeroOK inf with
        | false => simp [hzz] at hk
        | true =>
          simp only [hzz, Bool.not_true, cond_false] at hk
          obtain ⟨z, hz, hzs⟩ : ∃ z, inf.zero = some z ∧ z.cells.size = inf.size := by
            unfold zeroOK at hzz
            split at hzz
            · rename_i z hz; exact ⟨z, hz, beq_true hzz⟩
            · cases hzz
          obtain ⟨m, new, hk, hx⟩ := cellsK_some hk
          have drewHR : ∀ {ι : Map} {base : Nat} {w : World}, HR ι base h w → HR ι base h w.drew := fun {_ _ w} hr => HR.sameHeap (w := w) (w' := w.drew) rfl hr
          have widen : ∀ {ι : Map} {base : Nat} {h h0 h' : Heap} {w w' : World} {v v' : Value}, h0.length = h.length → (∀ b, mods ι h0 b → mods ι h b) → After ι base h0 w v h' v' w' (fun _ => False) → After ι base h w v h' v' w' (mods ι h) := by
            rintro ι base h h0 h' w w' v v' hl hmo ⟨ι', a1, a2, a3, a4, a5, a6⟩
            rw [hl] at a2
            exact ⟨ι', a1, fun id l hl => by
              rcases a2 id l hl with q | ⟨q, y | y⟩
              · exact .inl q
              · exact .inr ⟨q, .inl y⟩
              · exact y.elim, a3, a4, a5.mono fun _ q => q.elim, fun b hb hlt => hmo b (a6 b hb hlt)⟩
          -- nothing is laid upon nothing
          have empty : ∀ {ι : Map} {base : Nat} {h : Heap} {w : World} {sg : List Seg} {es : Nat} (ad : Option Addr), HR ι base h w → segsOK sg → segsLen sg = 0 →
              After ι base h w (.slice (some ⟨h.length, 0, none⟩) 0 1) (h ++ [some ⟨true, es, sg⟩]) (.slice ad 0 0) w (fun _ => False) := by
            intro ι base h w sg es ad hr h1 h2
            exact ⟨ι, Map.le_refl _, fun id l hl => .inl hl, HR_phantom hr h1 h2, .slZero ad, Fr.refl _ _, fun b hb _ => by
              obtain ⟨id, blk, l, hb, ho, hl, rfl⟩ := hb
              have hlt := (hr.dom id l hl).1
              rw [List.getElem?_append_left hlt] at hb
              exact ⟨id, blk, l, hb, ho, hl, rfl⟩⟩
          have two : ∀ {ι : Map} {args' : Array Value}, VRs ι [s, x] args'.toList → ∃ s' x', args' = #[s', x'] ∧ VR ι s s' ∧ VR ι x x' := by
            intro ι args' ha
            obtain ⟨l⟩ := args'
            match l, ha with
            | [a, b], ha => exact ⟨a, b, rfl, ha.head, ha.tail.head⟩
            | [], ha => simp [VRs] at ha
            | [_], ha => simp [VRs] at ha
            | _ :: _ :: _ :: _, ha => simp [VRs] at ha
          -- new memory upon what is there
          have grow : ∀ {ι : Map} {base : Nat} {h0 : Heap} {w : World} {s' x' : Value} {len cap : Nat} {b : Option Addr} {old : List Seg} (ty : TypeId), HR ι base h w → HR ι base h0 w → h0.length = h.length → (∀ b, mods ι h0 b → mods ι h b) → VR ι s s' → VR ι x x' → s' = .slice b len cap →
              CellsS P h inf.size s len old → cap < len + m → (len + m) * inf.bytes ≤ 140737488355328 → len + m ≤ 4611686018427387904 →
              ∃ v' w', (Builtin.append_ #[st, u] ty #[s', x']).run P w = .ok v' w' ∧ After ι base h w (.slice (some ⟨h.length, 0, none⟩) (len + m) 1) (h0 ++ [some ⟨true, inf.size, joinS old new⟩]) v' w' (mods ι h) := by
            intro ι base h0 w s' x' len cap b old ty hr hr0 hl0 hmo0 hs' hx' he hold hcap hb1 hb2
            subst he
            obtain ⟨g1, _⟩ := hx ι base w x' hr hx'
            obtain ⟨_, cn, g2, g3, g4, g5, g6⟩ := hx ι base w.drew x' (drewHR hr) hx'
            obtain ⟨_, co, f2, f3, f4, f5, f6⟩ := hold ι base w.drew _ (drewHR hr) hs'
            obtain ⟨v', w', q1, q2⟩ := append_new hr0 ht hi hz hu hd' hzs (b := b) g1 g2 f2 f3 g3 f4 g4 f5 g5 f6 g6 hcap hb1 hb2 ty
            refine ⟨v', w', q1, widen hl0 hmo0 ?_⟩
            rw [← hl0]
            exact q2
          split at hk
          · -- nil
            obtain ⟨hc, hk⟩ := bif_none hk
            simp only [Bool.and_eq_true, decide_eq_true_eq] at hc
            have hc2 := ble_true hc.2
            refine ⟨_, _, hk, by simp, fun ι base w args' ty hr ha => ?_⟩
            obtain ⟨s', x', rfl, hs', hx'⟩ := two ha
            rw [hs'.slNil_inv.1]
            by_cases hm : m = 0
            · subst hm
              obtain ⟨g1, cn, g2, g3, g4, g5, g6⟩ := hx ι base w x' hr hx'
              refine ⟨.slice none 0 0, w, by simpa using run_append_room ht hi hu hd' g1 g2 (Nat.le_refl _) ty (b := none) (by simp), widen rfl (fun _ x => x) (empty none hr g4 (by rw [g5]; simp))⟩
            · have hold : CellsS P h inf.size (.slice none 0 0) 0 [] := by
                intro ι base w v' hr hv
                rw [hv.slNil_inv.1]
                exact ⟨by simp [Builtin.lenOf], #[], by simp [Builtin.firstCells], by simp, segsOK_nil, by simp [segsLen], fun i u hu => by simp [cell?] at hu⟩
              obtain ⟨v', w', q1, q2⟩ := grow (len := 0) (cap := 0) (b := none) (old := []) ty hr hr rfl (fun _ x => x) hs' hx' hs'.slNil_inv.1 hold (by omega) (by simpa using hc.1) (by simpa using hc2)
              rw [hs'.slNil_inv.1] at q1
              refine ⟨v', w', q1, ?_⟩
              simpa [joinS] using q2
          · -- a slice
            rename_i id off len c _
            obtain ⟨len', old, hk, hold⟩ := cellsK_some hk
            obtain ⟨hc, hk⟩ := bif_none hk
            simp only [Bool.and_eq_true, decide_eq_true_eq] at hc
            have hc2 := ble_true hc.2
            -- the length is the slice's own
            have lens : ∀ {ι : Map} {base : Nat} {w : World} {s' : Value}, HR ι base h w → VR ι (.slice (some ⟨id, off, none⟩) len c) s' → len' = len := by
              intro ι base w s' hr hs'
              obtain ⟨g1, _⟩ := hold ι base w s' hr hs'
              rcases hs'.sl_inv with ⟨ad, rfl, rfl⟩ | ⟨lc, c', hl, hlen, hcap, ht, ha, rfl⟩ <;> simp [Builtin.lenOf] at g1 <;> omega
            -- nothing is there, and nothing is laid
            have none0 : ∀ {ι : Map} {base : Nat} {w : World} {x' : Value} (ad : Option Addr) (h0 : Heap) (ty : TypeId), HR ι base h w → HR ι base h0 w → h0.length = h.length → (∀ b, mods ι h0 b → mods ι h b) → VR ι x x' → len = 0 → m = 0 → VR ι (.slice (some ⟨id, off, none⟩) len c) (.slice ad 0 0) →
                ∃ v' w', (Builtin.append_ #[st, u] ty #[.slice ad 0 0, x']).run P w = .ok v' w' ∧ After ι base h w (.slice (some ⟨h.length, 0, none⟩) (len + m) 1) (h0 ++ [some ⟨true, inf.size, joinS old new⟩]) v' w' (mods ι h) := by
              intro ι base w x' ad h0 ty hr hr0 hl0 hmo0 hx' e1 e2 hs'
              subst e2
              obtain ⟨g1, cn, g2, g3, g4, g5, g6⟩ := hx ι base w x' hr hx'
              obtain ⟨_, co, f2, f3, f4, f5, f6⟩ := hold ι base w _ hr hs'
              have hlen' := lens hr hs'
              rw [hlen', e1] at f5
              have hcn : cn = #[] := Array.size_eq_zero_iff.1 (by simpa using g3)
              refine ⟨.slice ad 0 0, w, by simpa using run_append_room ht hi hu hd' g1 g2 (Nat.le_refl _) ty (b := ad) (len := 0) (cap := 0) (by cases ad <;> simp [hcn, storeCells]), widen hl0 hmo0 ?_⟩
              rw [← hl0, e1]
              exact empty ad hr0 (joinS_spec f4 g4).1 (by rw [(joinS_spec f4 g4).2.1, f5, g5]; simp)
            rcases bif_some hk with ⟨ec, hk7⟩ | ⟨ec, hk7⟩
            · -- it has no room
              obtain ⟨hx0, hk8⟩ := bif_none hk7
              have ec := beq_true ec
              subst ec
              have hx0 : len = 0 ∨ 0 < m := by
                rw [Bool.or_eq_true] at hx0
                rcases hx0 with q | q
                · exact .inl (beq_true q)
                · exact .inr (blt_true q)
              refine ⟨_, _, hk8, by simp, fun ι base w args' ty hr ha => ?_⟩
              obtain ⟨s', x', rfl, hs', hx'⟩ := two ha
              have hlen' := lens hr hs'
              subst hlen'
              rcases hs'.sl_inv with ⟨ad, hz0, rfl⟩ | ⟨lc, c', hl, hlen, hcap, htt, _, rfl⟩
              · by_cases hm : m = 0
                · exact none0 ad h ty hr hr rfl (fun _ x => x) hx' hz0 hm hs'
                · subst hz0
                  exact grow ty hr hr rfl (fun _ x => x) hs' hx' rfl hold (by omega) hc.1 hc2
              · have := htt rfl
                subst this
                by_cases hm : m = 0
                · have hz0 : c' = 0 := by omega
                  subst hz0
                  exact none0 _ h ty hr hr rfl (fun _ x => x) hx' rfl hm hs'
                · exact grow ty hr hr rfl (fun _ x => x) hs' hx' rfl hold (by omega) hc.1 hc2
            · obtain ⟨ec1, hk8⟩ := bif_none hk7
              split at hk8
              · rename_i b hb
                have hb := getB_some hb
                obtain ⟨hq, hk9⟩ := bif_none hk8
                have ec1 := beq_true ec1
                subst ec1
                simp only [Bool.and_eq_true] at hq
                obtain ⟨⟨⟨ho0, hes0⟩, hend0⟩, hcells⟩ := hq
                obtain ⟨bo, bes, bsg⟩ := b
                have ho : bo = true := ho0
                have hes : bes = inf.size := beq_true hes0
                have hend : off + len * inf.size = segsLen bsg := beq_true hend0
                clear ho0 hes0 hend0
                subst ho
                subst hes
                refine ⟨_, _, hk9, by simp, fun ι base w args' ty hr ha => ?_⟩
                obtain ⟨s', x', rfl, hs', hx'⟩ := two ha
                have hlen' := lens hr hs'
                subst hlen'
                have hrk := HR_kill hr id
                rcases hs'.sl_inv with ⟨ad, hz0, rfl⟩ | ⟨lc, c', hl, hlen, hcap, htt, haa, rfl⟩
                · by_cases hm : m = 0
                  · exact none0 ad _ ty hr hrk (by simp) (fun _ x => mods_set (fun _ e => by cases e) x) hx' hz0 hm hs'
                  · subst hz0
                    exact grow ty hr hrk (by simp) (fun _ x => mods_set (fun _ e => by cases e) x) hs' hx' rfl hold (by omega) hc.1 hc2
                · by_cases hroom : len' + m ≤ c'
                  case neg => exact grow ty hr hrk (by simp) (fun _ x => mods_set (fun _ e => by cases e) x) hs' hx' rfl hold (by omega) hc.1 hc2
                  case pos =>
                    obtain ⟨g1, cn, g2, g3, g4, g5, g6⟩ := hx ι base w x' hr hx'
                    obtain ⟨_, co, f2, f3, f4, f5, f6⟩ := hold ι base w _ hr hs'
                    rcases hr.live id _ hb with ⟨p1, _⟩ | ⟨l', p1, cc, T, fr, q1, q2, q3, q4, q5, q6⟩
                    · rw [hl] at p1; cases p1
                    rw [hl] at p1
                    simp only [Option.some.injEq] at p1
                    subst p1
                    simp only at q3
                    have haa := haa rfl
                    rw [← q3] at haa
                    have hmul : (len' + m) * inf.size ≤ c' * inf.size := Nat.mul_le_mul_right _ hroom
                    rw [Nat.add_mul] at hmul
                    have hco : co = cc.extract (lc.o + off) (lc.o + off + len' * inf.size) := by
                      have := run_loadCells_rel (P := P) q1 (o := lc.o + off) (n := len' * inf.size) (by omega)
                      have f2' : (loadCells ⟨lc.b, lc.o + off, none⟩ (len' * inf.size)).run P w = .ok co w := f2
                      rw [this] at f2'
                      simpa using f2'.symm
                    have hcn : ∀ v ∈ cn.toList, isCell v = true := by
                      intro v hv
                      obtain ⟨j, hj⟩ := List.getElem?_of_mem hv
                      have hjl := (List.getElem?_eq_some_iff.1 hj).1
                      rw [Array.length_toList] at hjl
                      obtain ⟨uu, hu⟩ := cell?_some (sg := new) (i := j) (by omega)
                      obtain ⟨u', a1, a2⟩ := g6 j uu hu
                      rw [Array.getElem?_toList, a1] at hj
                      cases hj
                      rw [a2.isCell]
                      have aux : ∀ (l : List Seg) (i : Nat) (y : Value), segsCell l = true → cell? l i = some y → isCell y = true := by
                        intro l
                        induction l with
                        | nil => intro i y _ hy; simp [cell?] at hy
                        | cons g r ih =>
                          intro i y hs hy
                          cases g with
                          | vals vs =>
                            simp only [segsCell, Bool.and_eq_true] at hs
                            simp only [cell?] at hy
                            cases hvi : vs[i]? with
                            | some z => rw [hvi] at hy; cases hy; exact List.all_eq_true.1 hs.1 _ (List.mem_of_getElem? hvi)
                            | none => rw [hvi] at hy; exact ih _ _ hs.2 hy
                          | ints ik q xs =>
                            simp only [segsCell] at hs
                            simp only [cell?] at hy
                            by_cases hq : i < q
                            · rw [if_pos hq] at hy; cases hy; rfl
                            · rw [if_neg hq] at hy; exact ih _ _ hs hy
                      exact aux new j uu hcells hu
                    obtain ⟨w2, cc', r1, r2, r3, r4, r5⟩ := run_storeCells (P := P) (b := lc.b) (o := lc.o + off + len' * inf.size) (T := T) (q6 rfl) cn.toList 0 w cc q1 (by rw [Array.length_toList]; omega) hcn
                    have hset : h.set id (some ⟨true, inf.size, bsg⟩) = h := by
                      apply List.ext_getElem?
                      intro j
                      by_cases e : id = j
                      · subst e; rw [hb]; simp [(List.getElem?_eq_some_iff.1 hb).1]
                      · rw [List.getElem?_set_ne e]
                    have hr2 : HR ι base h w2 := by
                      have := HR_upd hr hb hl q1 r2 r4 q4 (fun i v hv => by
                        obtain ⟨v', a1, a2⟩ := q5 i v hv
                        have : i < segsLen bsg := cell?_lt hv
                        exact ⟨v', by rw [r5, if_neg (by omega)]; exact a1, a2⟩)
                      rwa [hset] at this
                    have hbl := (Array.getElem?_eq_some_iff.1 q1).1
                    obtain ⟨j1, j2, j3⟩ := joinS_spec f4 g4
                    have hmv := HR_move hr2 (off := off) hb hl (c := cc') (T := T) (fr := fr) (by rw [r2]; simp [hbl]) j1 (fun i v hv => by
                      have hlt := cell?_lt hv
                      rw [j3] at hv
                      by_cases hi2 : i < segsLen old
                      · rw [if_pos hi2] at hv
                        obtain ⟨u', a1, a2⟩ := f6 i v hv
                        rw [hco] at a1
                        have a1 := extract_get a1
                        exact ⟨u', by rw [r5, if_neg (by omega)]; exact a1, a2⟩
                      · rw [if_neg hi2] at hv
                        obtain ⟨u', a1, a2⟩ := g6 _ v hv
                        refine ⟨u', ?_, a2⟩
                        rw [r5, if_pos (by rw [Array.length_toList]; omega), Array.getElem?_toList, ← a1]
                        congr 1
                        omega)
                    refine ⟨_, w2, run_append_room ht hi hu hd' g1 g2 hroom ty (b := some ⟨lc.b, lc.o + off, none⟩) (by simpa [addr_add] using r1), ι.put h.length ⟨lc.b, lc.o + off, lc.sz, lc.es⟩, Map.le_put _ (hr.fresh (Nat.le_refl _)), fun id2 l2 hl2 => ?_, hmv,
                      .sl (l := ⟨lc.b, lc.o + off, lc.sz, lc.es⟩) (off := 0) (Map.put_same _ _ _) hc2 hroom (fun e => by cases e) (fun _ => by simp only [← q3]; omega), ?_, fun b' hb' _ => ?_⟩
                    · by_cases e : id2 = h.length
                      · subst e
                        rw [Map.put_same] at hl2
                        simp only [Option.some.injEq] at hl2
                        subst hl2
                        exact .inr ⟨Nat.le_refl _, .inr ⟨id, _, lc, hb, rfl, hl, rfl⟩⟩
                      · rw [Map.put_ne _ _ e] at hl2; exact .inl hl2
                    · refine ⟨by rw [r2]; simp, fun b' hb' hm => ?_, r3.os, r3.out, r3.tape, frozen_set q1 r2⟩
                      rw [r2, Array.getElem?_setIfInBounds_ne (fun e => hm ⟨id, _, lc, hb, rfl, hl, e⟩)]
                    · have e1 : h.length = (h.set id none).length := by simp
                      rw [e1] at hb'
                      rcases mods_push hb' with e | e
                      · exact ⟨id, _, lc, hb, rfl, hl, e⟩
                      · exact mods_set (fun _ e => by cases e) e
              · cases hk8
          · cases hk
  · cases hk

end
end Go.Proofs.Ytfgehfnlkakioaa.VC

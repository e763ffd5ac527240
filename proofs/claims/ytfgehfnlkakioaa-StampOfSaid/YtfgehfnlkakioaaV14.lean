/- The other builtins, calls; all operations together; regions in the text's order. -/
import Derived.Test.YtfgehfnlkakioaaV13
namespace Go.Proofs.Ytfgehfnlkakioaa.VC
open Go

section
variable {P : Program} {S : Spec} {n : Nat} {s : Slots} {h : Heap} {o : Oper} {k : Value → Heap → Out} {out : Res}

theorem i64_nat {m : Nat} (hm : m ≤ 4611686018427387904) : IntKind.i64.min ≤ (m : Int) ∧ (m : Int) ≤ IntKind.i64.max := by
  have e1 : IntKind.i64.min = -9223372036854775808 := by decide
  have e2 : IntKind.i64.max = 9223372036854775807 := by decide
  rw [e1, e2]; omega

theorem mmK_some (isMax : Bool) (ik : IntKind) : ∀ {l : List Value} {x : Int} {kk : Value → Out}, mmK isMax ik x l kk = some out → ∃ m, kk (.int ik m) = some out ∧
    ∀ (ι : Map) (l' : List Value) (w : World), VRs ι l l' → ik.min ≤ x ∧ x ≤ ik.max → (ik.min ≤ m ∧ m ≤ ik.max) ∧
      (l'.foldlM (if isMax then Builtin.max2 else Builtin.min2) (.int ik x)).run P w = .ok (.int ik m) w
  | [], x, kk, hk => by
    simp only [mmK] at hk
    refine ⟨x, hk, fun ι l' w hl hx => ⟨hx, ?_⟩⟩
    have : l' = [] := List.length_eq_zero_iff.1 hl.1.symm
    subst this
    simp
  | v :: r, x, kk, hk => by
    cases v with
    | int k' y =>
      simp only [mmK] at hk
      obtain ⟨hkk, hk3⟩ := bif_none hk
      have := kind_eq hkk
      subst this
      have step : ∀ (x2 : Int), mmK isMax ik x2 r kk = some out → (∀ w, ((if isMax then Builtin.max2 else Builtin.min2) (.int ik x) (.int ik y)).run P w = .ok (.int ik x2) w) → (x2 = x ∨ x2 = y) → ∃ m, kk (.int ik m) = some out ∧
          ∀ (ι : Map) (l' : List Value) (w : World), VRs ι (.int ik y :: r) l' → ik.min ≤ x ∧ x ≤ ik.max → (ik.min ≤ m ∧ m ≤ ik.max) ∧
            (l'.foldlM (if isMax then Builtin.max2 else Builtin.min2) (.int ik x)).run P w = .ok (.int ik m) w := by
        intro x2 h1 h2 h3
        obtain ⟨m, q1, q2⟩ := mmK_some isMax ik h1
        refine ⟨m, q1, fun ι l' w hl hx => ?_⟩
        cases l' with
        | nil => simp [VRs] at hl
        | cons y' r' =>
          obtain ⟨rfl, hy⟩ := hl.head.int_inv
          obtain ⟨a1, a2⟩ := q2 ι r' w hl.tail (by rcases h3 with rfl | rfl <;> assumption)
          refine ⟨a1, ?_⟩
          rw [List.foldlM_cons, Sem.run_bind, h2, Result.andThen_ok]
          exact a2
      cases isMax with
      | true =>
        refine step _ hk3 (fun w => ?_) ?_
        · simp [Builtin.max2]
        · by_cases e : y > x
          · exact .inr (if_pos e)
          · exact .inl (if_neg e)
      | false =>
        refine step _ hk3 (fun w => ?_) ?_
        · simp [Builtin.min2]
        · by_cases e : y < x
          · exact .inr (if_pos e)
          · exact .inl (if_neg e)
    | _ => simp [mmK] at hk

theorem modifies_value {c : Call} {f : Operand} (hf : c.callee = .value f) : modifies S s (.call c) = (match opnd s f with | some (.func (.func g) _ _) => S.rw g | _ => true) := by
  obtain ⟨cal, ca, ct⟩ := c
  simp only at hf
  subst hf
  rfl

theorem modifies_append {c : Call} (hf : c.callee = .builtin .append) : modifies S s (.call c) = true := by
  obtain ⟨cal, ca, ct⟩ := c
  simp only at hf
  subst hf
  rfl

theorem op_call (hS : SpecOK P S) {c : Call} (ho : o.op = .call c) (hk : opK P S s h (.call c) k = some out) : OpOut P S n s h o k out := by
  simp only [opK] at hk
  split at hk
  · rename_i args hargs
    split at hk
    · -- a function
      rename_i f hf
      split at hk
      · rename_i g first captured hfv
        obtain ⟨v, h', q1, q2, q4, q3⟩ := callK_sound hS hk
        have hmod : modifies S s o.op = S.rw g := by rw [ho, modifies_value hf, hfv]
        refine ⟨v, h', q1, fun ι base w a hs hr next Q hn => ?_, q4, fun hm => q3 (hmod ▸ hm)⟩
        obtain ⟨xs', ys', he, hx, hy⟩ := (opnd_VR hs hfv).func_inv
        have hall : VRs ι (first.toList ++ args ++ captured.toList) (xs' ++ c.args.map a.eval ++ ys').toList := by
          rw [Array.toList_append, Array.toList_append, Array.toList_map]
          exact (hx.append (opnds_VRs hs hargs)).append hy
        have hcr := q2 ι base w (xs' ++ c.args.map a.eval ++ ys') hr hall
        have hrun : (execOp a.eval o).run P w = (callFunc g (xs' ++ c.args.map a.eval ++ ys')).run P w := by
          simp [execOp, ho, resolve, hf, he, Deferred.ofValue, invoke]
        rw [hmod] at hn
        simp only [Oper.wp, hrun]
        rcases hcr with ⟨c1, c2⟩ | ⟨v', w', c1, c2⟩
        · rw [c1]
          simp only [Oper.upon]
          exact c2.mono fun e w' ⟨v', he, ha⟩ => by subst he; exact hn v' w' ha
        · rw [c1]
          simp only [Oper.upon]
          exact hn v' w' c2
      · cases hk
    · -- a builtin
      rename_i b hb
      obtain ⟨cs, hrun⟩ : ∃ cs, ∀ (a : Act) (w : World), (execOp a.eval o).run P w = (builtin b c.argTypes o.type cs (c.args.map a.eval)).run P w := by
        refine ⟨c.args.map fun x => match x with | .const _ => true | _ => false, fun a w => ?_⟩
        simp only [execOp, ho, resolve, hb, Sem.run_bind, Sem.run_pure, Result.andThen_ok, invoke]
        rfl
      unfold builtinK at hk
      split at hk
      · -- len
        split at hk
        · rename_i t ts x xs hts
          have hvr : ∀ {ι : Map} {a : Act}, SR ι n s a → ∃ x', (c.args.map a.eval)[0]? = some x' ∧ VR ι x x' := fun hs => by
            obtain ⟨x', a1, a2⟩ := (opnds_VRs hs hargs).get (i := 0) (v := x) rfl
            exact ⟨x', by rw [← Array.getElem?_toList, Array.toList_map]; exact a1, a2⟩
          have ht0 : c.argTypes[0]? = some t := by rw [← Array.getElem?_toList, hts]; rfl
          split at hk
          · rename_i str hu
            refine .pure hk fun ι base w a hs hr => ?_
            obtain ⟨x', hx0, hx⟩ := hvr hs
            obtain ⟨rfl, hsz⟩ := hx.string_inv
            exact ⟨_, by rw [hrun]; simp only [builtin, Builtin.len_, ht0, hx0, Sem.run_bind, run_underlying hu, Result.andThen_ok, Sem.run_pure, goInt], .int _ _ (i64_nat hsz)⟩
          · rename_i m e v hu
            obtain ⟨hm, hk⟩ := bif_none hk
            refine .pure hk fun ι base w a hs hr => ?_
            obtain ⟨x', hx0, hx⟩ := hvr hs
            exact ⟨_, by rw [hrun]; simp only [builtin, Builtin.len_, ht0, hx0, Sem.run_bind, run_underlying hu, Result.andThen_ok, Sem.run_pure, goInt], .int _ _ (i64_nat (ble_true hm))⟩
          · rename_i e ad m cc hu
            refine .pure hk fun ι base w a hs hr => ?_
            obtain ⟨x', hx0, hx⟩ := hvr hs
            obtain ⟨ad', cc', rfl, hm⟩ : ∃ ad' cc', x' = .slice ad' m cc' ∧ m ≤ 4611686018427387904 := by
              cases hx with
              | slNil => exact ⟨_, _, rfl, by omega⟩
              | slZero a => exact ⟨_, _, rfl, by omega⟩
              | sl h1 h2 h3 h4 h5 => exact ⟨_, _, rfl, h2⟩
            exact ⟨_, by rw [hrun]; simp only [builtin, Builtin.len_, ht0, hx0, Sem.run_bind, run_underlying hu, Result.andThen_ok, Sem.run_pure, goInt], .int _ _ (i64_nat hm)⟩
          · cases hk
        · cases hk
      · -- append
        split at hk
        · rename_i st u hts
          obtain ⟨v, h', q1, q4, q2⟩ := appendK_some hk
          have hat : c.argTypes = #[st, u] := by rw [← Array.toArray_toList (xs := c.argTypes), hts]
          refine ⟨v, h', q1, OpS_run fun ι base w a hs hr => ?_, q4, by rw [ho, modifies_append hb]; simp⟩
          obtain ⟨v', w', a1, a2⟩ := q2 ι base w (c.args.map a.eval) o.type hr (by rw [Array.toList_map]; exact opnds_VRs hs hargs)
          refine ⟨v', w', by rw [hrun, hat]; simp only [builtin, Sem.run_bind, a1, Result.andThen_ok, Sem.run_pure], ?_⟩
          rw [if_pos (by rw [ho, modifies_append hb])]
          exact a2
        · cases hk
      · -- max
        split at hk
        · rename_i ik x r
          obtain ⟨m, q1, q2⟩ := mmK_some (P := P) true ik hk
          refine .pure q1 fun ι base w a hs hr => ?_
          have hvr := opnds_VRs hs hargs
          cases hl : c.args.toList.map a.eval with
          | nil => rw [hl] at hvr; simp [VRs] at hvr
          | cons y l' =>
            rw [hl] at hvr
            obtain ⟨rfl, hx⟩ := hvr.head.int_inv
            obtain ⟨p1, p2⟩ := q2 ι l' w hvr.tail hx
            refine ⟨_, ?_, .int _ _ p1⟩
            rw [hrun]
            simp only [builtin, Builtin.max_, Array.toList_map, hl]
            simp only [if_true] at p2
            simp [p2]
        · cases hk
      · -- min
        split at hk
        · rename_i ik x r
          obtain ⟨m, q1, q2⟩ := mmK_some (P := P) false ik hk
          refine .pure q1 fun ι base w a hs hr => ?_
          have hvr := opnds_VRs hs hargs
          cases hl : c.args.toList.map a.eval with
          | nil => rw [hl] at hvr; simp [VRs] at hvr
          | cons y l' =>
            rw [hl] at hvr
            obtain ⟨rfl, hx⟩ := hvr.head.int_inv
            obtain ⟨p1, p2⟩ := q2 ι l' w hvr.tail hx
            refine ⟨_, ?_, .int _ _ p1⟩
            rw [hrun]
            simp only [builtin, Builtin.min_, Array.toList_map, hl]
            simp only [Bool.false_eq_true, if_false] at p2
            simp [p2]
        · cases hk
      · cases hk
    · cases hk
  · cases hk

theorem opK_sound (hS : SpecOK P S) (hk : opK P S s h o.op k = some out) : OpOut P S n s h o k out := by
  cases ho : o.op <;> rw [ho] at hk
  case move => exact op_move ho hk
  case assign => exact op_assign ho hk
  case pick => exact op_pick ho hk
  case alloc => exact op_alloc ho hk
  case box => exact op_box ho hk
  case build => exact op_build ho hk
  case buildSlice => exact op_buildSlice ho hk
  case load => exact op_load ho hk
  case store => exact op_store ho hk
  case nilCheck => exact op_nilCheck ho hk
  case binOp => exact op_binOp ho hk
  case unOp => exact op_unOp ho hk
  case convert => exact op_convert ho hk
  case makeFunc => exact op_makeFunc ho hk
  case slice => exact op_slice ho hk
  case fieldAddr => exact op_fieldAddr ho hk
  case field => exact op_field ho hk
  case indexAddr => exact op_indexAddr ho hk
  case index => exact op_index ho hk
  case extract => exact op_extract ho hk
  case call => exact op_call hS ho hk
  all_goals simp [opK] at hk
end
end Go.Proofs.Ytfgehfnlkakioaa.VC

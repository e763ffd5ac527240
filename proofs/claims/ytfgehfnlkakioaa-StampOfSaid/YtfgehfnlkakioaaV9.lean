/- Operations on values: two operands, one, conversions, parts put together. -/
import Derived.Test.YtfgehfnlkakioaaV8
import Derived.Laws.StructEq
namespace Go.Proofs.Ytfgehfnlkakioaa.VC
open Go

theorem kind_zero (k : IntKind) : k.min ≤ 0 ∧ 0 ≤ k.max := by cases k <;> decide

theorem tmod_in {k : IntKind} {a b : Int} (h : k.min ≤ a ∧ a ≤ k.max) : k.min ≤ a.tmod b ∧ a.tmod b ≤ k.max := by
  have hz := kind_zero k
  rcases Int.le_total 0 a with h0 | h0
  · have h1 := Int.tmod_nonneg b h0
    have h2 : (a.tmod b).natAbs ≤ a.natAbs := by rw [Int.natAbs_tmod]; exact Nat.mod_le _ _
    omega
  · have h1 := Int.tmod_nonneg b (a := -a) (by omega)
    have h2 : (a.tmod b).natAbs ≤ a.natAbs := by rw [Int.natAbs_tmod]; exact Nat.mod_le _ _
    rw [Int.neg_tmod] at h1
    omega

theorem fdiv_in {k : IntKind} {a : Int} (m : Nat) (h : k.min ≤ a ∧ a ≤ k.max) : k.min ≤ a.fdiv (2 ^ m) ∧ a.fdiv (2 ^ m) ≤ k.max := by
  have hz := kind_zero k
  have hp : (0 : Int) < 2 ^ m := Int.pow_pos (by decide)
  rw [Int.fdiv_eq_ediv_of_nonneg _ (Int.le_of_lt hp)]
  rcases Int.le_total 0 a with h0 | h0
  · have h1 := Int.ediv_nonneg h0 (Int.le_of_lt hp)
    have h2 := Int.ediv_le_self (2 ^ m) h0
    omega
  · have h1 : a ≤ a / 2 ^ m := by
      apply Int.le_ediv_of_mul_le hp
      have := Int.mul_le_mul_of_nonpos_left (a := a) (b := 2 ^ m) (c := 1) h0 (by omega)
      omega
    have h2 : a / 2 ^ m ≤ 0 := by
      apply Int.ediv_le_of_le_mul hp
      omega
    omega

section
variable {P : Program} {S : Spec} {n : Nat} {s : Slots} {h : Heap} {o : Oper} {k : Value → Heap → Out} {out : Res}

theorem binInt_some {op : BinOp} {ik : IntKind} {a b : Int} {kk : Value → Out} (hk : binInt op ik a b kk = some out) :
    ∃ v, kk v = some out ∧ (ik.min ≤ a ∧ a ≤ ik.max → ∀ ι, VR ι v v) ∧ ∀ t w, (binOp op t (.int ik a) (.int ik b)).run P w = .ok v w := by
  cases op <;> simp only [binInt] at hk
  case add => exact ⟨_, hk, fun ha ι => .int _ _ (wrap_within _ _), fun t w => by simp [binOp, Op.intArith]⟩
  case sub => exact ⟨_, hk, fun ha ι => .int _ _ (wrap_within _ _), fun t w => by simp [binOp, Op.intArith]⟩
  case mul => exact ⟨_, hk, fun ha ι => .int _ _ (wrap_within _ _), fun t w => by simp [binOp, Op.intArith]⟩
  case quo =>
    by_cases hb : b = 0
    · simp [hb] at hk
    · simp only [hb, decide_false, cond_false] at hk
      exact ⟨_, hk, fun ha ι => .int _ _ (wrap_within _ _), fun t w => by simp [binOp, Op.intDiv, hb]⟩
  case rem =>
    by_cases hb : b = 0
    · simp [hb] at hk
    · simp only [hb, decide_false, cond_false] at hk
      exact ⟨_, hk, fun ha ι => .int _ _ (tmod_in ha), fun t w => by simp [binOp, Op.intDiv, hb]⟩
  case and => exact ⟨_, hk, fun ha ι => .int _ _ (bits_within _ _ _ _), fun t w => by simp [binOp, Op.intBits, Go.bits]⟩
  case or => exact ⟨_, hk, fun ha ι => .int _ _ (bits_within _ _ _ _), fun t w => by simp [binOp, Op.intBits, Go.bits]⟩
  case xor => exact ⟨_, hk, fun ha ι => .int _ _ (bits_within _ _ _ _), fun t w => by simp [binOp, Op.intBits, Go.bits]⟩
  case andNot => exact ⟨_, hk, fun ha ι => .int _ _ (bits_within _ _ _ _), fun t w => by simp [binOp, Op.intBits, Go.bits]⟩
  case eql => exact ⟨_, hk, fun _ ι => .bool _, fun t w => by simp [binOp, Op.intCmp]⟩
  case neq => exact ⟨_, hk, fun _ ι => .bool _, fun t w => by simp [binOp, Op.intCmp]⟩
  case lss => exact ⟨_, hk, fun _ ι => .bool _, fun t w => by simp [binOp, Op.intCmp]⟩
  case leq => exact ⟨_, hk, fun _ ι => .bool _, fun t w => by simp [binOp, Op.intCmp]⟩
  case gtr => exact ⟨_, hk, fun _ ι => .bool _, fun t w => by simp [binOp, Op.intCmp]⟩
  case geq => exact ⟨_, hk, fun _ ι => .bool _, fun t w => by simp [binOp, Op.intCmp]⟩
  all_goals cases hk

theorem eqL_cons {α : Type} {f : α → Option Bool} {x : α} {r : List α} {b : Bool} (hh : eqL f (x :: r) = some b) : ∃ c d, f x = some c ∧ eqL f r = some d ∧ b = (c && d) := by
  simp only [eqL] at hh
  split at hh
  · rename_i c hc
    split at hh
    · rename_i d hd
      simp only [Option.some.injEq] at hh
      exact ⟨c, d, hc, hd, hh.symm⟩
    · cases hh
  · cases hh

theorem run_equalIn_array {w : World} (d : Nat) (t : TypeId) (len : Nat) (elem : TypeId) (i : TypeInfo) (xs ys : Array Value) (f : Nat → Option Bool) (b : Bool) (ht : P.underlying t = some (.array len elem)) (hi : P.info? elem = some i)
    (hf : ∀ (j : Nat) (c : Bool), f j = some c → ∃ a1 a2, (part elem xs (j * i.size)).run P w = .ok a1 w ∧ (part elem ys (j * i.size)).run P w = .ok a2 w ∧ (Op.equalIn d elem a1 a2).run P w = .ok c w)
    (hl : eqL f (List.range len) = some b) : (Op.equalIn (d + 1) t (.agg xs) (.agg ys)).run P w = .ok b w := by
  simp only [Op.equalIn, Sem.run_bind, run_underlying ht, Result.andThen_ok, run_sizeOf hi]
  rw [Std.Legacy.Range.forIn_eq_forIn_range']
  simp only [Std.Legacy.Range.size, Nat.sub_zero, Nat.add_sub_cancel, Nat.div_one]
  rw [List.range_eq_range'] at hl
  generalize List.range' 0 len = l at hl
  induction l generalizing b with
  | nil => simp [eqL] at hl; subst hl; simp
  | cons x r ih =>
    obtain ⟨c, e, h1, h2, rfl⟩ := eqL_cons hl
    obtain ⟨a1, a2, q1, q2, q3⟩ := hf x c h1
    simp only [List.forIn_cons, Sem.run_bind, q1, q2, q3, Result.andThen_ok]
    cases c
    · simp
    · simpa using ih e h2

theorem eqV_run : ∀ (d : Nat) {t : TypeId} {x y : Value} {b : Bool}, eqV P d t x y = some b → ∀ (ι : Map) (x' y' : Value), VR ι x x' → VR ι y y' → ∀ (m : Nat) (w : World), (Op.equalIn (d + m) t x' y').run P w = .ok b w
  | 0, t, x, y, b, hh => by simp [eqV] at hh
  | d + 1, t, x, y, b, hh => by
    intro ι x' y' hx hy m w
    rw [show d + 1 + m = (d + m) + 1 by omega]
    simp only [eqV] at hh
    split at hh
    · rename_i hu
      rw [hx.bool_inv, hy.bool_inv]
      simp only [Option.some.injEq] at hh; subst hh
      simp [Op.equalIn, run_underlying hu]
    · rename_i k1 k2 a k' c hu
      rw [hx.int_inv.1, hy.int_inv.1]
      cases hkk : (k2 == k') with
      | false => simp [hkk] at hh
      | true =>
        simp only [hkk, cond_true, Option.some.injEq] at hh; subst hh
        have := kind_eq hkk
        subst this
        simp [Op.equalIn, run_underlying hu]
    · rename_i hu
      rw [hx.string_inv.1, hy.string_inv.1]
      simp only [Option.some.injEq] at hh; subst hh
      simp [Op.equalIn, run_underlying hu]
    · rename_i e bb hu
      rw [hx.ptrNil_inv]
      simp only [Option.some.injEq] at hh; subst hh
      cases hy with
      | ptrNil => simp [Op.equalIn, run_underlying hu]
      | ptr hl => simp [Op.equalIn, run_underlying hu]
    · rename_i e ad hu
      rw [hy.ptrNil_inv]
      simp only [Option.some.injEq] at hh; subst hh
      cases hx with
      | ptr hl => simp [Op.equalIn, run_underlying hu]
    · rename_i fs xs ys hu
      cases hst : P.stoodInHeld t with
      | true => simp [hst] at hh
      | false =>
        simp only [hst, cond_false] at hh
        obtain ⟨xs', rfl, hx1, hx2⟩ := hx.agg_inv
        obtain ⟨ys', rfl, hy1, hy2⟩ := hy.agg_inv
        have hfo : P.fieldsOf t = fs := by simp [Program.fieldsOf, hu]
        rw [run_equalIn_struct w (d + m) t xs' ys' (by rw [hfo]; exact hu) hst, hfo]
        generalize fs.toList = l at hh
        induction l generalizing b with
        | nil => simp [eqL] at hh; subst hh; simp [Op.eqFields]
        | cons f r ih =>
          obtain ⟨c, e, h1, h2, rfl⟩ := eqL_cons hh
          cases hn : (f.name == "_") with
          | true => simp [hn] at h1
          | false =>
            simp only [hn, cond_false] at h1
            have hne : f.name ≠ "_" := by simpa using hn
            split at h1
            · rename_i u v hu1 hv1
              obtain ⟨u', p1, p2⟩ := partV_some (w := w) hu1 (VRs.arr hx1 hx2)
              obtain ⟨v', p3, p4⟩ := partV_some (w := w) hv1 (VRs.arr hy1 hy2)
              have := eqV_run d h1 ι u' v' p2 p4 m w
              simp only [Op.eqFields, if_pos hne, Sem.run_bind, p1, p3, this, Result.andThen_ok]
              cases c
              · simp
              · simpa using ih e h2
            · cases h1
    · rename_i len elem xs ys hu
      obtain ⟨xs', rfl, hx1, hx2⟩ := hx.agg_inv
      obtain ⟨ys', rfl, hy1, hy2⟩ := hy.agg_inv
      split at hh
      · rename_i i hi
        refine run_equalIn_array (d + m) t len elem i xs' ys' _ b hu hi (fun j c hc => ?_) hh
        split at hc
        · rename_i u v hu1 hv1
          obtain ⟨u', p1, p2⟩ := partV_some (w := w) hu1 (VRs.arr hx1 hx2)
          obtain ⟨v', p3, p4⟩ := partV_some (w := w) hv1 (VRs.arr hy1 hy2)
          exact ⟨u', v', p1, p3, eqV_run d hc ι u' v' p2 p4 m w⟩
        · cases hc
      · cases hh
    · rename_i hu
      cases hx; cases hy
      simp only [Option.some.injEq] at hh; subst hh
      simp [Op.equalIn, run_underlying hu]
    · rename_i fn xs ys hu
      obtain ⟨xs', ys', rfl, _⟩ := hy.func_inv
      cases hx
      simp only [Option.some.injEq] at hh; subst hh
      simp [Op.equalIn, run_underlying hu]
    · rename_i fn xs ys hu
      obtain ⟨xs', ys', rfl, _⟩ := hx.func_inv
      cases hy
      simp only [Option.some.injEq] at hh; subst hh
      simp [Op.equalIn, run_underlying hu]
    · rename_i hu
      rw [hx.slNil_inv.1, hy.slNil_inv.1]
      simp only [Option.some.injEq] at hh; subst hh
      simp [Op.equalIn, run_underlying hu]
    · cases hh

theorem guard_ok {op : BinOp} {t : TypeId} {x y : Operand} {a b : Value} {w : World} (hg : (op = .eql ∨ op = .neq) → P.eqGuardType P.depth t = false) (ha : a ≠ .nilIface) :
    (eqGuard op t x y a b).run P w = .ok () w := by
  unfold eqGuard
  cases op <;> first
    | (simp; done)
    | (have := hg (by simp)
       cases a <;> cases b <;> simp_all)

theorem binK_some {op : BinOp} {t : TypeId} {a b : Value} {kk : Value → Out} (hk : binK P op t a b kk = some out) :
    ∃ v, kk v = some out ∧ ∀ (ι : Map) (a' b' : Value) (x y : Operand) (w : World), VR ι a a' → VR ι b b' →
      (eqGuard op t x y a' b').run P w = .ok () w ∧ (binOp op t a' b').run P w = .ok v w ∧ VR ι v v := by
  unfold binK at hk
  split at hk
  · rename_i ik c k2 e
    by_cases he : e < 0
    · simp [he] at hk
    · simp only [he, decide_false, cond_false] at hk
      refine ⟨_, hk, fun ι a' b' x y w ha hb => ?_⟩
      rw [ha.int_inv.1, hb.int_inv.1]
      exact ⟨by simp [eqGuard], by simp [binOp, Op.shift, he], .int _ _ (wrap_within _ _)⟩
  · rename_i ik c k2 e
    by_cases he : e < 0
    · simp [he] at hk
    · simp only [he, decide_false, cond_false] at hk
      refine ⟨_, hk, fun ι a' b' x y w ha hb => ?_⟩
      have hin := ha.int_inv.2
      rw [ha.int_inv.1, hb.int_inv.1]
      exact ⟨by simp [eqGuard], by simp [binOp, Op.shift, he], .int _ _ (fdiv_in _ hin)⟩
  · rename_i ik c k2 e _ _
    cases hkk : (ik == k2) with
    | false => simp [hkk] at hk
    | true =>
      simp only [hkk, cond_true] at hk
      have := kind_eq hkk
      subst this
      obtain ⟨v, h1, h2, h3⟩ := binInt_some hk
      refine ⟨v, h1, fun ι a' b' x y w ha hb => ?_⟩
      have hin := ha.int_inv.2
      rw [ha.int_inv.1, hb.int_inv.1]
      exact ⟨by cases op <;> simp [eqGuard], h3 t w, h2 hin ι⟩
  · rename_i c e
    by_cases hs : c.size + e.size ≤ 4611686018427387904
    · simp only [hs, decide_true, cond_true] at hk
      refine ⟨_, hk, fun ι a' b' x y w ha hb => ?_⟩
      rw [ha.string_inv.1, hb.string_inv.1]
      refine ⟨by simp [eqGuard], ?_, .string _ (by rw [ByteArray.size_append]; exact hs)⟩
      have e1 : IntKind.i64.max = 9223372036854775807 := by decide
      simp only [binOp, Op.stringOp, e1]
      rw [if_neg (by omega)]
      rfl
    · simp [hs] at hk
  · rename_i c e
    refine ⟨_, hk, fun ι a' b' x y w ha hb => ?_⟩
    rw [ha.string_inv.1, hb.string_inv.1]
    exact ⟨by simp [eqGuard], by simp [binOp, Op.stringOp], .bool _⟩
  · rename_i c e
    refine ⟨_, hk, fun ι a' b' x y w ha hb => ?_⟩
    rw [ha.string_inv.1, hb.string_inv.1]
    exact ⟨by simp [eqGuard], by simp [binOp, Op.stringOp], .bool _⟩
  · rename_i hn1 hn2
    cases hg : P.eqGuardType P.depth t with
    | true => simp [hg] at hk
    | false =>
      simp only [hg, cond_false] at hk
      split at hk
      · rename_i r hr
        refine ⟨_, hk, fun ι a' b' x y w ha hb => ?_⟩
        have hrun := eqV_run 20 hr ι a' b' ha hb 9980 w
        refine ⟨guard_ok (fun _ => hg) (by rintro rfl; cases ha; simp [eqV] at hr), ?_, .bool _⟩
        have e0 : ∀ (op : BinOp), (op = .eql ∨ op = .neq) → binOp op t a' b' = (match op with | .eql => (do pure (.bool (← Op.equal t a' b'))) | _ => (do pure (.bool (!(← Op.equal t a' b'))))) := by
          rintro op (rfl | rfl) <;> (cases ha <;> cases hb <;> first
            | rfl
            | exact (hn1 _ _ _ _ rfl rfl).elim
            | exact (hn2 _ _ rfl rfl).elim)
        rw [e0 _ (by simp)]
        simp only [Op.equal, Op.maxDepth, Sem.run_bind, Sem.run_pure]
        rw [show (10000 : Nat) = 20 + 9980 from rfl, hrun]
        rfl
      · cases hk
  · rename_i hn1 hn2
    cases hg : P.eqGuardType P.depth t with
    | true => simp [hg] at hk
    | false =>
      simp only [hg, cond_false] at hk
      split at hk
      · rename_i r hr
        refine ⟨_, hk, fun ι a' b' x y w ha hb => ?_⟩
        have hrun := eqV_run 20 hr ι a' b' ha hb 9980 w
        refine ⟨guard_ok (fun _ => hg) (by rintro rfl; cases ha; simp [eqV] at hr), ?_, .bool _⟩
        have e0 : ∀ (op : BinOp), (op = .eql ∨ op = .neq) → binOp op t a' b' = (match op with | .eql => (do pure (.bool (← Op.equal t a' b'))) | _ => (do pure (.bool (!(← Op.equal t a' b'))))) := by
          rintro op (rfl | rfl) <;> (cases ha <;> cases hb <;> first
            | rfl
            | exact (hn1 _ _ _ _ rfl rfl).elim
            | exact (hn2 _ _ rfl rfl).elim)
        rw [e0 _ (by simp)]
        simp only [Op.equal, Op.maxDepth, Sem.run_bind, Sem.run_pure]
        rw [show (10000 : Nat) = 20 + 9980 from rfl, hrun]
        rfl
      · cases hk
  · cases hk
end
end Go.Proofs.Ytfgehfnlkakioaa.VC

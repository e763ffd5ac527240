/- ubx: get, put: closed forms. -/
import Derived.Test.YtcjjngdkkihgjaaMB
namespace Go.Proofs.Ytcjjngdkkihgjaa.VC
open Go Go.Proofs

/-- A field's block. -/
abbrev uF (a m : Int) (sg : Bool) : Option Blk := some ⟨true, 3, [.ints .i64 2 [a, m], .vals [.bool sg]]⟩
abbrev uFv (a m : Int) (sg : Bool) : Value := .agg #[w63 a, w63 m, .bool sg]
def liveGetU : List Nat := [1, 2, 4, 5, 6]
abbrev stGetU (v : Int) (o n c : Nat) (i : Int) : List Value := [slo 0 o n c, pt 1, w63 0, u64v v, w63 i]
--CP pGetU (v a m : Int) (sg : Bool) (o n c i N : Nat) (xs : List Int) (on : List Value → Heap → Out) (out : Exit → List Value → Heap → Out) :: roundK Try.prog ((mkS []).on [(12, true)]) noL Try.f58.ntmps 1 (loopOf Try.f58 0) liveGetU (stGetU v o n c i) [rU N xs, uF a m sg] on out
theorem pGetU (v a m : Int) (sg : Bool) (o n c i N : Nat) (xs : List Int) (on : List Value → Heap → Out) (out : Exit → List Value → Heap → Out)
    (w1 : -9223372036854775808 ≤ a + (↑i : Int) ∧ a + (↑i : Int) ≤ 9223372036854775807 := by omega)
    (w2 : -9223372036854775808 ≤ (↑i : Int) - (1 : Int) ∧ (↑i : Int) - (1 : Int) ≤ 9223372036854775807 := by omega)
    (h1 : (0 : Int) ≤ a + (↑i : Int) := by first | omega | assumption | rfl)
    (h2 : a + (↑i : Int) < (↑n : Int) := by first | omega | assumption | rfl)
    (h3 : o + (a + (↑i : Int)).toNat < N := by first | omega | assumption | rfl) : roundK Try.prog ((mkS []).on [(12, true)]) noL Try.f58.ntmps 1 (loopOf Try.f58 0) liveGetU (stGetU v o n c i) [rU N xs, uF a m sg] on out =
     (on [Value.slice (some (Addr.mk (0 : Nat) o none)) n c, Value.pointer (some (Addr.mk (1 : Nat) (0 : Nat) none)), Value.int IntKind.i64 (0 : Int), Value.int IntKind.u64 (bits BinOp.or IntKind.u64
     (IntKind.u64.wrap (v * (256 : Int))) (IntKind.u64.wrap (xs.getD (o + (a + (↑i : Int)).toNat) (0 : Int)))), Value.int IntKind.i64 ((↑i : Int) - (1 : Int))] [some (Blk.mk false (1 : Nat) [Seg.ints
     IntKind.u8 N xs]), some (Blk.mk true (3 : Nat) [Seg.ints IntKind.i64 (2 : Nat) [a, m], Seg.vals [Value.bool sg]])]) :=
  Eq.trans (b :=
     bif decide ((0 : Int) ≤ IntKind.i64.wrap (a + (↑i : Int))) && decide (IntKind.i64.wrap (a + (↑i : Int)) < (↑n : Int)) then bif (o + (IntKind.i64.wrap (a + (↑i : Int))).toNat * (1 : Nat)).blt N then on
     [Value.slice (some (Addr.mk (0 : Nat) o none)) n c, Value.pointer (some (Addr.mk (1 : Nat) (0 : Nat) none)), Value.int IntKind.i64 (0 : Int), Value.int IntKind.u64 (bits BinOp.or IntKind.u64
     (IntKind.u64.wrap (v * (256 : Int))) (IntKind.u64.wrap (xs.getD (o + (IntKind.i64.wrap (a + (↑i : Int))).toNat * (1 : Nat)) (0 : Int)))), Value.int IntKind.i64 (IntKind.i64.wrap ((↑i : Int) - (1 :
     Int)))] [some (Blk.mk false (1 : Nat) [Seg.ints IntKind.u8 N xs]), some (Blk.mk true (3 : Nat) [Seg.ints IntKind.i64 (2 : Nat) [a, m], Seg.vals [Value.bool sg]])] else none else none) (by kernel_rfl) (by simp only [-eq_self, Nat.mul_one, swrap w1.1 w1.2, swrap w2.1 w2.2]; exact (go_t (and_t (dec_t h1) (dec_t h2)) (go_t (blt_t h3) rfl)))
--CFEND
--CP pGetUX (v a m : Int) (sg : Bool) (o n c N : Nat) (xs : List Int) (on : List Value → Heap → Out) (out : Exit → List Value → Heap → Out) :: roundK Try.prog ((mkS []).on [(12, false)]) noL Try.f58.ntmps 1 (loopOf Try.f58 0) liveGetU (stGetU v o n c (-1)) [rU N xs, uF a m sg] on out
theorem pGetUX (v a m : Int) (sg : Bool) (o n c N : Nat) (xs : List Int) (on : List Value → Heap → Out) (out : Exit → List Value → Heap → Out) : roundK Try.prog ((mkS []).on [(12, false)]) noL Try.f58.ntmps 1 (loopOf Try.f58 0) liveGetU (stGetU v o n c (-1)) [rU N xs, uF a m sg] on out =
     (out (Exit.exit (0 : Nat)) [Value.slice (some (Addr.mk (0 : Nat) o none)) n c, Value.pointer (some (Addr.mk (1 : Nat) (0 : Nat) none)), Value.int IntKind.i64 (0 : Int), Value.int IntKind.u64 v,
     Value.int IntKind.i64 (-1 : Int)] [some (Blk.mk false (1 : Nat) [Seg.ints IntKind.u8 N xs]), some (Blk.mk true (3 : Nat) [Seg.ints IntKind.i64 (2 : Nat) [a, m], Seg.vals [Value.bool sg]])]) :=
  Eq.trans (by kernel_rfl) rfl
--CFEND
noncomputable def LGetUf : LF := fun vs h k => match vs, h with
  | [.slice (some ⟨0, o, none⟩) n c, .pointer (some ⟨1, 0, none⟩), .int .i64 0, .int .u64 0, .int .i64 i], [some ⟨false, 1, [.ints .u8 N xs]⟩, some ⟨true, 3, [.ints .i64 2 [a, m], .vals [.bool sg]]⟩] =>
    bif chk (i = m - 1 ∧ 0 ≤ a ∧ 0 ≤ m ∧ m ≤ 4 ∧ a + m ≤ n ∧ o + n ≤ N ∧ N ≤ 1000000) then k (.exit 0) (stGetU (valL (fldB xs o a m)) o n c (-1)) [rU N xs, uF a m sg] else none
  | _, _ => none
noncomputable def LGetU : LSpec := oneL 3 liveGetU LGetUf
--CF cfGetUT (a m : Int) (o n c N : Nat) (xs : List Int) :: fnK Try.prog (mkS []) LGetU Try.f58 [uFv a m true, slo 0 o n c] [rU N xs]
theorem cfGetUT (a m : Int) (o n c N : Nat) (xs : List Int) : fnK Try.prog (mkS []) LGetU Try.f58 [uFv a m true, slo 0 o n c] [rU N xs] =
     (bif chk (IntKind.i64.wrap (m - 1) = m - 1 ∧ 0 ≤ a ∧ 0 ≤ m ∧ m ≤ 4 ∧ a + m ≤ (↑n : Int) ∧ o + n ≤ N ∧ N ≤ 1000000) then bif decide (IntKind.u64.wrap (IntKind.i64.wrap (64 - IntKind.i64.wrap (8 * m)))
     < 0) then none else bif decide (IntKind.u64.wrap (IntKind.i64.wrap (64 - IntKind.i64.wrap (8 * m))) < 0) then none else some (Res.ret (Value.int IntKind.i64 ((IntKind.i64.wrap (IntKind.u64.wrap (valL
     (fldB xs o a m) * 2 ^ min (IntKind.u64.wrap (IntKind.i64.wrap (64 - IntKind.i64.wrap (8 * m)))).toNat 64))).fdiv (2 ^ min (IntKind.u64.wrap (IntKind.i64.wrap (64 - IntKind.i64.wrap (8 * m)))).toNat
     64))) [some (Blk.mk false 1 [Seg.ints IntKind.u8 N xs])]) else none) := by kernel_rfl
--CFEND
--CP pGetUF (a m : Int) (o n c N : Nat) (xs : List Int) :: fnK Try.prog (mkS []) LGetU Try.f58 [uFv a m false, slo 0 o n c] [rU N xs]
theorem pGetUF (a m : Int) (o n c N : Nat) (xs : List Int)
    (w1 : -9223372036854775808 ≤ m - (1 : Int) ∧ m - (1 : Int) ≤ 9223372036854775807 := by omega)
    (w2 : -9223372036854775808 ≤ valL (fldB xs o a m) ∧ valL (fldB xs o a m) ≤ 9223372036854775807 := by omega)
    (h1 : m - (1 : Int) = m - (1 : Int) ∧ (0 : Int) ≤ a ∧ (0 : Int) ≤ m ∧ m ≤ (4 : Int) ∧ a + m ≤ (↑n : Int) ∧ o + n ≤ N ∧ N ≤ (1000000 : Nat) := by first | omega | assumption | rfl | ((repeat' with_reducible apply And.intro) <;> first | rfl | assumption | omega)) : fnK Try.prog (mkS []) LGetU Try.f58 [uFv a m false, slo 0 o n c] [rU N xs] =
     (some (Res.ret (Value.int IntKind.i64 (valL (fldB xs o a m))) [some (Blk.mk false (1 : Nat) [Seg.ints IntKind.u8 N xs])])) :=
  Eq.trans (b :=
     bif chk (IntKind.i64.wrap (m - (1 : Int)) = m - (1 : Int) ∧ (0 : Int) ≤ a ∧ (0 : Int) ≤ m ∧ m ≤ (4 : Int) ∧ a + m ≤ (↑n : Int) ∧ o + n ≤ N ∧ N ≤ (1000000 : Nat)) then some (Res.ret (Value.int
     IntKind.i64 (IntKind.i64.wrap (valL (fldB xs o a m)))) [some (Blk.mk false (1 : Nat) [Seg.ints IntKind.u8 N xs])]) else none) (by kernel_rfl) (by simp only [-eq_self, swrap w1.1 w1.2, swrap w2.1 w2.2]; exact (go_t (chk_t h1) rfl))
--CFEND
def livePutU : List Nat := [1, 2, 3, 8, 9]
abbrev stPutU (n c : Nat) (v m : Int) (i : Int) : List Value := [sl 0 n c, w63 v, pt 1, w63 m, w63 i]
--CP pPutU (v a m : Int) (sg : Bool) (n c i N : Nat) (xs : List Int) (on : List Value → Heap → Out) (out : Exit → List Value → Heap → Out) :: roundK Try.prog ((mkS []).on [(10, true)]) noL Try.f60.ntmps 1 (loopOf Try.f60 0) livePutU (stPutU n c v m i) [oU N xs, uF a m sg] on out
theorem pPutU (v a m : Int) (sg : Bool) (n c i N : Nat) (xs : List Int) (on : List Value → Heap → Out) (out : Exit → List Value → Heap → Out)
    (w1 : -9223372036854775808 ≤ (8 : Int) * (↑i : Int) ∧ (8 : Int) * (↑i : Int) ≤ 9223372036854775807 := by omega)
    (w2 : -9223372036854775808 ≤ a + (↑i : Int) ∧ a + (↑i : Int) ≤ 9223372036854775807 := by omega)
    (w3 : -9223372036854775808 ≤ (↑i : Int) + (1 : Int) ∧ (↑i : Int) + (1 : Int) ≤ 9223372036854775807 := by omega)
    (h1 : (↑i : Int) < m := by first | omega | assumption | rfl)
    (h2 : ¬(8 : Int) * (↑i : Int) < (0 : Int) := by first | omega | assumption | rfl)
    (h3 : (0 : Int) ≤ a + (↑i : Int) := by first | omega | assumption | rfl)
    (h4 : a + (↑i : Int) < (↑n : Int) := by first | omega | assumption | rfl)
    (h5 : (a + (↑i : Int)).toNat < N := by first | omega | assumption | rfl) : roundK Try.prog ((mkS []).on [(10, true)]) noL Try.f60.ntmps 1 (loopOf Try.f60 0) livePutU (stPutU n c v m i) [oU N xs, uF a m sg] on out =
     (on [Value.slice (some (Addr.mk (0 : Nat) (0 : Nat) none)) n c, Value.int IntKind.i64 v, Value.pointer (some (Addr.mk (1 : Nat) (0 : Nat) none)), Value.int IntKind.i64 m, Value.int IntKind.i64 ((↑i :
     Int) + (1 : Int))] [some (Blk.mk true (1 : Nat) [Seg.ints IntKind.u8 N (xs.set (a + (↑i : Int)).toNat (IntKind.u8.wrap (v.fdiv ((2 : Int) ^ min ((8 : Int) * (↑i : Int)).toNat (64 : Nat)))))]), some
     (Blk.mk true (3 : Nat) [Seg.ints IntKind.i64 (2 : Nat) [a, m], Seg.vals [Value.bool sg]])]) :=
  Eq.trans (b :=
     bif decide ((↑i : Int) < m) then bif decide (IntKind.i64.wrap ((8 : Int) * (↑i : Int)) < (0 : Int)) then none else bif decide ((0 : Int) ≤ IntKind.i64.wrap (a + (↑i : Int))) && decide
     (IntKind.i64.wrap (a + (↑i : Int)) < (↑n : Int)) then bif ((0 : Nat) + (IntKind.i64.wrap (a + (↑i : Int))).toNat * (1 : Nat)).blt N then on [Value.slice (some (Addr.mk (0 : Nat) (0 : Nat) none)) n c,
     Value.int IntKind.i64 v, Value.pointer (some (Addr.mk (1 : Nat) (0 : Nat) none)), Value.int IntKind.i64 m, Value.int IntKind.i64 (IntKind.i64.wrap ((↑i : Int) + (1 : Int)))] [some (Blk.mk true (1 :
     Nat) [Seg.ints IntKind.u8 N (xs.set ((0 : Nat) + (IntKind.i64.wrap (a + (↑i : Int))).toNat * (1 : Nat)) (IntKind.u8.wrap (v.fdiv ((2 : Int) ^ min (IntKind.i64.wrap ((8 : Int) * (↑i : Int))).toNat (64
     : Nat)))))]), some (Blk.mk true (3 : Nat) [Seg.ints IntKind.i64 (2 : Nat) [a, m], Seg.vals [Value.bool sg]])] else none else none else none) (by kernel_rfl) (by simp only [-eq_self, Nat.mul_one, Nat.zero_add, swrap w1.1 w1.2, swrap w2.1 w2.2, swrap w3.1 w3.2]; exact (go_t (dec_t h1) (go_f (dec_f h2) (go_t (and_t (dec_t h3) (dec_t h4)) (go_t (blt_t h5) rfl)))))
--CFEND
--CP pPutUX (v a m i : Int) (sg : Bool) (n c N : Nat) (xs : List Int) (on : List Value → Heap → Out) (out : Exit → List Value → Heap → Out) :: roundK Try.prog ((mkS []).on [(10, false)]) noL Try.f60.ntmps 1 (loopOf Try.f60 0) livePutU (stPutU n c v m i) [oU N xs, uF a m sg] on out
theorem pPutUX (v a m i : Int) (sg : Bool) (n c N : Nat) (xs : List Int) (on : List Value → Heap → Out) (out : Exit → List Value → Heap → Out)
    (h1 : ¬i < m := by first | omega | assumption | rfl) : roundK Try.prog ((mkS []).on [(10, false)]) noL Try.f60.ntmps 1 (loopOf Try.f60 0) livePutU (stPutU n c v m i) [oU N xs, uF a m sg] on out =
     (out (Exit.exit (0 : Nat)) [Value.slice (some (Addr.mk (0 : Nat) (0 : Nat) none)) n c, Value.int IntKind.i64 v, Value.pointer (some (Addr.mk (1 : Nat) (0 : Nat) none)), Value.int IntKind.i64 m,
     Value.int IntKind.i64 i] [some (Blk.mk true (1 : Nat) [Seg.ints IntKind.u8 N xs]), some (Blk.mk true (3 : Nat) [Seg.ints IntKind.i64 (2 : Nat) [a, m], Seg.vals [Value.bool sg]])]) :=
  Eq.trans (by kernel_rfl) (go_f (dec_f h1) rfl)
--CFEND
end Go.Proofs.Ytcjjngdkkihgjaa.VC

/- ubx: get, put: what they are. -/
namespace Go.Proofs.Ytcjjngdkkihgjaa.VC
open Go Go.Proofs

theorem drop_one {xs : List Int} {q : Nat} (h : q < xs.length) : xs.drop q = xs.getD q 0 :: xs.drop (q + 1) := by
  rw [List.drop_eq_getElem_cons h, List.getD_eq_getElem?_getD, List.getElem?_eq_getElem h, Option.getD_some]
theorem loopGetU {a : Int} {sg : Bool} {o n c m N : Nat} {xs : List Int} (ha : 0 ≤ a) (hm : m ≤ 4) (hn : a + m ≤ n) (ho : o + n ≤ N) (hN : N ≤ 1000000) (hl : xs.length = N) (hx : ∀ x ∈ xs, 0 ≤ x ∧ x ≤ 255) : ∀ (j : Nat), j ≤ m →
    LoopT Try.prog Try.f58.ntmps 1 (loopOf Try.f58 0) (zipS liveGetU (stGetU (valL ((fldB xs o a m).drop j)) o n c ((j : Int) - 1))) [rU N xs, uF a m sg] (.exit 0) (zipS liveGetU (stGetU (valL (fldB xs o a m)) o n c (-1))) [rU N xs, uF a m sg]
  | 0, _ => LoopT.last (by intro h; cases h) (CodeT.out (mk0.on _) noL_ok fun on out => pGetUX _ a m sg o n c N xs on out)
  | q + 1, hq => by
    have hlen : (fldB xs o a m).length = m := by
      have := fld_len (xs := xs) (o := o) (a := a) (m := m) hl (by omega)
      omega
    have hB := fld_mem (o := o) (a := a) (m := m) hx
    rw [show (((q + 1 : Nat) : Int) - 1) = (q : Int) by omega]
    refine LoopT.step (CodeT.on (live := liveGetU) (vs1 := stGetU (valL ((fldB xs o a m).drop q)) o n c ((q : Int) - 1)) (h1 := [rU N xs, uF a m sg]) (mk0.on [(12, true)]) noL_ok fun on out => ?_) (loopGetU ha hm hn ho hN hl hx q (by omega))
    refine (pGetU _ a m sg o n c q N xs on out).trans ?_
    have e : (fldB xs o a m).getD q 0 = xs.getD (o + a.toNat + q) 0 := by
      unfold fldB
      rw [List.getD_eq_getElem?_getD, List.getElem?_take_of_lt (by omega), List.getElem?_drop, ← List.getD_eq_getElem?_getD]
    have hb := getD_rng hx (i := o + a.toNat + q) (by omega)
    have hv := valL_lt (l := (fldB xs o a m).drop (q + 1)) (fun x h => hB x (List.mem_of_mem_drop h))
    have hp := pw_4 (n := (((fldB xs o a m).drop (q + 1)).length : Int)) (by rw [List.length_drop]; omega)
    rw [drop_one (q := q) (by omega), valL, e, show o + (a + (q : Int)).toNat = o + a.toNat + q by omega, valB_step (i := 4) (by decide) hv.1 (by show _ < (4294967296 : Int); omega) hb, Int.mul_comm, Int.add_comm]
theorem loopOKGetU : LoopOK Try.prog Try.f58.ntmps 1 (loopOf Try.f58 0) liveGetU LGetUf := by
  refine LoopOK.of_T ?_
  intro vs h k out hk
  unfold LGetUf at hk
  split at hk
  · rename_i o n c i N xs a m sg
    obtain ⟨hb, hk2⟩ := bif_t hk
    obtain ⟨rfl, h1, h2, h3, h4, h5, h6⟩ := chk_iff.1 hb
    refine ⟨_, _, _, hk2, fun real => ?_⟩
    have hs := real.segs (i := 0) rfl rfl _ (List.mem_cons_self ..)
    obtain ⟨m, rfl⟩ := Int.eq_ofNat_of_zero_le h2
    have hlen : (fldB xs o a m).length = m := by
      have := fld_len (xs := xs) (o := o) (a := a) (m := m) hs.1 (by omega)
      omega
    have := loopGetU (a := a) (sg := sg) (o := o) (n := n) (c := c) (m := m) h1 (by omega) h4 h5 h6 hs.1 (fun x hx => hs.2 x hx) m (Nat.le_refl _)
    rw [List.drop_eq_nil_of_le (by omega)] at this
    exact this
  · cases hk
theorem loopsGetU : LoopsOK Try.prog LGetU Try.f58.ntmps 1 (bodyOf Try.f58) := loops_one rfl (by kernel_rfl) loopOKGetU
/-- A field's number with its sign. -/
def szS (m : Int) (sg : Bool) : Int := bif sg then 0 - m else m
theorem many_szS {m : Int} {sg : Bool} (h : 0 ≤ m) : manyI (szS m sg) = m := by
  unfold manyI szS
  cases sg with
  | true => rw [condT]; split <;> omega
  | false => rw [condF]; split <;> omega
noncomputable def FGetU : FSpec := fun args h k => match args, h with
  | [.agg ⟨[.int .i64 a, .int .i64 m, .bool sg]⟩, .slice (some ⟨0, o, none⟩) n _], [some ⟨false, 1, [.ints .u8 N xs]⟩] =>
    bif chk (1 ≤ m ∧ m ≤ 4 ∧ 0 ≤ a ∧ a + m ≤ n ∧ o + n ≤ N ∧ N ≤ 1000000) then k (w63 (getL xs o a (szS m sg))) [rU N xs] else none
  | _, _ => none
theorem okGetU : EntryOK Try.prog 58 FGetU := by
  refine EntryOK.of_paths (fn := Try.f58) follows_ok Try.func58 (by kernel_rfl) (by kernel_rfl) ?_
  intro args h k out hF
  unfold FGetU at hF
  split at hF
  · rename_i a m sg o n c N xs
    obtain ⟨hb, hF2⟩ := bif_t hF
    obtain ⟨h1, h2, h3, h4, h5, h6⟩ := chk_iff.1 hb
    refine ⟨_, _, hF2, fun real => ?_⟩
    have hs := real.segs (i := 0) rfl rfl _ (List.mem_cons_self ..)
    have hlen := fld_len (xs := xs) (o := o) (a := a) (m := m) hs.1 (by omega)
    have hv := valL_lt (l := fldB xs o a m) (fld_mem fun x hx => hs.2 x hx)
    rw [hlen, show (m.toNat : Int) = m by omega] at hv
    have hp := pw_4 h2
    have c2 : m - 1 = m - 1 ∧ 0 ≤ a ∧ 0 ≤ m ∧ m ≤ 4 ∧ a + m ≤ n ∧ o + n ≤ N ∧ N ≤ 1000000 := ⟨rfl, h3, by omega, h2, h4, h5, h6⟩
    unfold getL
    rw [many_szS (by omega)]
    unfold szS
    cases sg with
    | true =>
      refine ⟨_, LGetU, mk0, loopsGetU, (cfGetUT a m o n c N xs).trans ?_⟩
      rw [swrap (x := m - 1) (by omega) (by omega), swrap (x := 8 * m) (by omega) (by omega), swrap (x := 64 - 8 * m) (by omega) (by omega)]
      have c3 : ¬ IntKind.u64.wrap (64 - 8 * m) < 0 := by rw [wU64]; omega
      refine go_t (chk_t c2) (go_f (dec_f c3) (go_f (dec_f c3) ?_))
      rw [spread h1 h2 hv.1 hv.2, condT, if_pos (by omega)]
    | false =>
      refine ⟨_, LGetU, mk0, loopsGetU, (pGetUF a m o n c N xs).trans ?_⟩
      rw [condF, if_neg (by omega)]
  · cases hF
end Go.Proofs.Ytcjjngdkkihgjaa.VC

/- ubx: put. -/
namespace Go.Proofs.Ytcjjngdkkihgjaa.VC
open Go Go.Proofs

/-- A number's bytes, the lowest one first. -/
def le (v : Int) : Nat → List Int
  | 0 => []
  | k + 1 => le v k ++ [beB v k]
theorem le_len (v : Int) : ∀ s, (le v s).length = s
  | 0 => rfl
  | s + 1 => by rw [le, List.length_append, le_len v s]; rfl
theorem le_mem {v x : Int} : ∀ {s}, x ∈ le v s → 0 ≤ x ∧ x ≤ 255
  | 0, h => by cases h
  | s + 1, h => by
    rcases List.mem_append.1 h with h | h
    · exact le_mem h
    · rw [List.mem_singleton.1 h]
      unfold beB
      omega
theorem le_rev (v : Int) : ∀ s, (le v s).reverse = be v s
  | 0 => rfl
  | s + 1 => by rw [le, List.reverse_append, le_rev v s]; rfl
theorem valL_le (v : Int) (s : Nat) : valL (le v s) = v % 256 ^ s := by
  rw [← List.reverse_reverse (le v s), valL_rev, le_rev, valB_beI]
noncomputable def LPutUf : LF := fun vs h k => match vs, h with
  | [.slice (some ⟨0, 0, none⟩) n' c, .int .i64 v, .pointer (some ⟨1, 0, none⟩), .int .i64 m, .int .i64 0], [some ⟨true, 1, [.ints .u8 n xs]⟩, some ⟨true, 3, [.ints .i64 2 [a, m'], .vals [.bool sg]]⟩] =>
    bif chk (n' = n ∧ m' = m ∧ 0 ≤ m ∧ m ≤ 4 ∧ 0 ≤ a ∧ a + m ≤ n ∧ n ≤ 1000000) then k (.exit 0) (stPutU n c v m m) [oU n (putB xs a.toNat (le v m.toNat)), uF a m sg] else none
  | _, _ => none
noncomputable def LPutU : LSpec := oneL 2 livePutU LPutUf
--CP pPutUF (a m v : Int) (sg : Bool) (n c : Nat) (xs : List Int) :: fnK Try.prog (mkS []) LPutU Try.f60 [uFv a m sg, sl 0 n c, w63 v] [oU n xs]
theorem pPutUF (a m v : Int) (sg : Bool) (n c : Nat) (xs : List Int)
    (h1 : n = n ∧ m = m ∧ (0 : Int) ≤ m ∧ m ≤ (4 : Int) ∧ (0 : Int) ≤ a ∧ a + m ≤ (↑n : Int) ∧ n ≤ (1000000 : Nat) := by first | omega | assumption | rfl | ((repeat' with_reducible apply And.intro) <;> first | rfl | assumption | omega)) : fnK Try.prog (mkS []) LPutU Try.f60 [uFv a m sg, sl 0 n c, w63 v] [oU n xs] =
     (some (Res.ret (Value.tuple (Array.mk [])) [some (Blk.mk true (1 : Nat) [Seg.ints IntKind.u8 n (putB xs a.toNat (le v m.toNat))])])) :=
  Eq.trans (by kernel_rfl) (go_t (chk_t h1) rfl)
--CFEND
noncomputable def FPutU : FSpec := fun args h k => match args, h with
  | [.agg ⟨[.int .i64 a, .int .i64 m, .bool _]⟩, .slice (some ⟨0, 0, none⟩) n' _, .int .i64 v], [some ⟨true, 1, [.ints .u8 n xs]⟩] =>
    bif chk (n' = n ∧ 0 ≤ m ∧ m ≤ 4 ∧ 0 ≤ a ∧ a + m ≤ n ∧ n ≤ 1000000) then k undef [oU n (putB xs a.toNat (le v m.toNat))] else none
  | _, _ => none
theorem loopPutU {a v : Int} {sg : Bool} {n c m : Nat} {xs : List Int} (ha : 0 ≤ a) (hm : m ≤ 4) (hn : a + m ≤ n) (hN : n ≤ 1000000) (hl : xs.length = n) : ∀ (r i : Nat), i + r = m →
    LoopT Try.prog Try.f60.ntmps 1 (loopOf Try.f60 0) (zipS livePutU (stPutU n c v m i)) [oU n (putB xs a.toNat (le v i)), uF a m sg] (.exit 0) (zipS livePutU (stPutU n c v m m)) [oU n (putB xs a.toNat (le v m)), uF a m sg] := by
  intro r
  induction r with
  | zero =>
    intro i hi
    obtain rfl : i = m := by omega
    exact LoopT.last (by intro h; cases h) (CodeT.out (mk0.on _) noL_ok fun on out => pPutUX v a i i sg n c n _ on out)
  | succ r ih =>
    intro i hi
    refine LoopT.step (CodeT.on (live := livePutU) (vs1 := stPutU n c v m ((i + 1 : Nat) : Int)) (h1 := [oU n (putB xs a.toNat (le v (i + 1))), uF a m sg]) (mk0.on [(10, true)]) noL_ok fun on out => ?_) (ih (i + 1) (by omega))
    refine (pPutU v a m sg n c i n _ on out).trans ?_
    rw [beB_shr (by omega), le, ← putB_set (by rw [le_len]; omega), le_len, show (a + (i : Int)).toNat = a.toNat + i by omega]
    rfl
theorem loopOKPutU : LoopOK Try.prog Try.f60.ntmps 1 (loopOf Try.f60 0) livePutU LPutUf := by
  refine LoopOK.of_T ?_
  intro vs h k out hk
  unfold LPutUf at hk
  split at hk
  · rename_i n' c v m n xs a m' sg
    obtain ⟨hb, hk2⟩ := bif_t hk
    obtain ⟨rfl, rfl, h3, h4, h5, h6, h7⟩ := chk_iff.1 hb
    refine ⟨_, _, _, hk2, fun real => ?_⟩
    have hs := real.segs (i := 0) rfl rfl _ (List.mem_cons_self ..)
    obtain ⟨m, rfl⟩ := Int.eq_ofNat_of_zero_le h3
    have := loopPutU (a := a) (v := v) (sg := sg) (c := c) (m := m) h5 (by omega) h6 h7 hs.1 m 0 (by omega)
    rw [le, putB_nil] at this
    exact this
  · cases hk
theorem loopsPutU : LoopsOK Try.prog LPutU Try.f60.ntmps 1 (bodyOf Try.f60) := loops_one rfl (by kernel_rfl) loopOKPutU
theorem okPutU : EntryOK Try.prog 60 FPutU := by
  refine EntryOK.of_paths (fn := Try.f60) follows_ok Try.func60 (by kernel_rfl) (by kernel_rfl) ?_
  intro args h k out hF
  unfold FPutU at hF
  split at hF
  · rename_i a m sg n' c v n xs
    obtain ⟨hb, hF2⟩ := bif_t hF
    obtain ⟨rfl, h3, h4, h5, h6, h7⟩ := chk_iff.1 hb
    exact ⟨_, _, hF2, fun _ => ⟨_, LPutU, mk0, loopsPutU, pPutUF a m v sg n' c xs⟩⟩
  · cases hF
end Go.Proofs.Ytcjjngdkkihgjaa.VC

/- Rows of cells told as cells of several kinds. -/
namespace Go.Proofs.Ytcjjngdkkihgjaa.VC
open Go Go.Proofs

def boolsOf : List Value → Option (List FV)
  | [] => some []
  | .bool b :: r => match boolsOf r with
    | some l => some (.b b :: l)
    | none => none
  | _ => none
def anyOf : List Seg → Option (List FV)
  | [] => some []
  | .ints k n xs :: r => match anyOf r with
    | some l => bif Nat.beq xs.length n then some (xs.map (FV.i k) ++ l) else none
    | none => none
  | .vals vs :: r => match boolsOf vs, anyOf r with
    | some bs, some l => some (bs ++ l)
    | _, _ => none
  | _ => none
theorem boolsOf_get : ∀ {vs : List Value} {l : List FV}, boolsOf vs = some l → vs = l.map FV.val ∧ ∀ x ∈ l, x.ok
  | [], l, h => by cases h; exact ⟨rfl, fun x hx => by cases hx⟩
  | v :: r, l, h => by
    cases v <;> try cases h
    rename_i b
    simp only [boolsOf] at h
    cases hr : boolsOf r with
    | none => rw [hr] at h; cases h
    | some l' =>
      rw [hr] at h
      cases h
      obtain ⟨h1, h2⟩ := boolsOf_get hr
      refine ⟨by rw [h1]; rfl, fun x hx => ?_⟩
      rcases List.mem_cons.1 hx with rfl | hx
      · trivial
      · exact h2 x hx
theorem any_cell {l : List FV} {i : Nat} : cell? [.any l.length l] i = (l[i]?).map FV.val := by
  simp only [cell?]
  by_cases h : i < l.length
  · rw [if_pos h, List.getD_eq_getElem?_getD, List.getElem?_eq_getElem h]; rfl
  · rw [if_neg h, List.getElem?_eq_none (by omega)]; rfl
theorem anyOf_spec : ∀ {sg : List Seg} {l : List FV}, anyOf sg = some l → (∀ i, cell? sg i = (l[i]?).map FV.val) ∧ (segsOK sg → ∀ x ∈ l, x.ok) ∧ isMp sg = false
  | [], l, h => by cases h; exact ⟨fun i => (by simp [cell?]), fun _ x hx => (by cases hx), rfl⟩
  | .ints k n xs :: r, l, h => by
    simp only [anyOf] at h
    cases hr : anyOf r with
    | none => rw [hr] at h; cases h
    | some l' =>
      rw [hr] at h
      cases hc : Nat.beq xs.length n with
      | false => rw [hc] at h; cases h
      | true =>
        rw [hc] at h
        cases h
        obtain rfl := Nat.eq_of_beq_eq_true hc
        obtain ⟨h1, h2, h3⟩ := anyOf_spec hr
        refine ⟨fun i => ?_, fun ho x hx => ?_, rfl⟩
        · simp only [cell?]
          by_cases hi : i < xs.length
          · rw [if_pos hi, List.getElem?_append_left (by simpa using hi), List.getElem?_map, List.getElem?_eq_getElem hi, List.getD_eq_getElem?_getD, List.getElem?_eq_getElem hi]; rfl
          · rw [if_neg hi, h1, List.getElem?_append_right (by simpa using hi), List.length_map]
        · rcases List.mem_append.1 hx with hx | hx
          · obtain ⟨y, hy, rfl⟩ := List.mem_map.1 hx
            exact (ho _ (List.mem_cons_self ..)).2 y hy
          · exact h2 (fun s hs => ho s (List.mem_cons_of_mem _ hs)) x hx
  | .vals vs :: r, l, h => by
    simp only [anyOf] at h
    split at h
    · rename_i bs l' hb hr
      cases h
      obtain ⟨h1, h2, h3⟩ := anyOf_spec hr
      obtain ⟨b1, b2⟩ := boolsOf_get hb
      refine ⟨fun i => ?_, fun ho x hx => ?_, rfl⟩
      · simp only [cell?]
        have hlen : vs.length = bs.length := by rw [b1, List.length_map]
        by_cases hi : i < bs.length
        · rw [b1, List.getElem?_map, List.getElem?_eq_getElem hi, List.getElem?_append_left hi, List.getElem?_eq_getElem hi]; rfl
        · rw [List.getElem?_eq_none (l := vs) (by omega), h1, List.getElem?_append_right (by omega), hlen]
      · rcases List.mem_append.1 hx with hx | hx
        · exact b2 x hx
        · exact h2 (fun s hs => ho s (List.mem_cons_of_mem _ hs)) x hx
    · cases h
  | .any _ _ :: _, l, h => by cases h
  | .mp _ :: _, l, h => by cases h
/-- Heaps, where some blocks are told as cells of several kinds. -/
inductive AnyH : Heap → Heap → Prop
  | nil : AnyH [] []
  | same (b : Option Blk) {h h2 : Heap} (q : AnyH h h2) : AnyH (b :: h) (b :: h2)
  | any {own : Bool} {es : Nat} {sg : List Seg} {l : List FV} {n : Nat} (hl : anyOf sg = some l) (hn : n = l.length) {h h2 : Heap} (q : AnyH h h2) : AnyH (some ⟨own, es, sg⟩ :: h) (some ⟨own, es, [.any n l]⟩ :: h2)
theorem AnyH.len {h h2 : Heap} (q : AnyH h h2) : h.length = h2.length := by induction q <;> simp_all
theorem AnyH.at {h h2 : Heap} (q : AnyH h h2) : ∀ (id : Nat) (b2 : Blk), h2[id]? = some (some b2) → ∃ b1 : Blk, h[id]? = some (some b1) ∧ b1.own = b2.own ∧ b1.es = b2.es ∧ LessS b1.segs b2.segs ∧ ∀ i v, cell? b2.segs i = some v → cell? b1.segs i = some v := by
  induction q with
  | nil => intro id b2 h; simp at h
  | same b q ih =>
    intro id b2 h
    cases id with
    | zero => exact ⟨b2, h, rfl, rfl, LessS.refl _, fun i v h => h⟩
    | succ id => exact ih id b2 h
  | any hl hn q ih =>
    intro id b2 h
    cases id with
    | zero =>
      subst hn
      cases h
      obtain ⟨h1, h2, h3⟩ := anyOf_spec hl
      refine ⟨_, rfl, rfl, rfl, ⟨fun ho s hs => ?_, fun hm => by rw [h3] at hm; cases hm⟩, fun i v hv => by rw [any_cell] at hv; rw [h1]; exact hv⟩
      rw [List.mem_singleton.1 hs]
      exact ⟨rfl, h2 ho⟩
    | succ id => exact ih id b2 h
theorem Weak.anyH {v : Value} {h h2 : Heap} (q : AnyH h h2) : Weak v h v h2 := by
  refine ⟨fun ι base w hr => HR_cellsR hr q.len fun id b2 hb => ?_, fun _ _ _ _ _ x => x, fun ι b ⟨id, b2, l, r1, r2, r3, r4⟩ => ?_⟩
  · obtain ⟨b1, q1, q2, q3, q4, q5⟩ := q.at id b2 hb
    exact ⟨b1, q1, q2, q3, q4, fun i v hv => ⟨v, q5 i v hv, fun v' h => h⟩⟩
  · obtain ⟨b1, q1, q2, _⟩ := q.at id b2 r1
    exact ⟨id, b1, l, q1, by rw [q2]; exact r2, r3, r4⟩
end Go.Proofs.Ytcjjngdkkihgjaa.VC

/- ubx: layouts. -/
namespace Go.Proofs.Ytcjjngdkkihgjaa.VC
open Go Go.Proofs

abbrev oV (n : Nat) (l : List FV) : Option Blk := some ⟨true, 3, [.any n l]⟩
/-- Fields, as they lie. -/
def fvU : List Int → List FV
  | a :: s :: r => .i .i64 a :: .i .i64 (manyI s) :: .b (decide (s < 0)) :: fvU r
  | _ => []
/-- What UBX's kinds hold: how long, and the fields' places and sizes. -/
def layU : Int → Int → Option (Nat × List Int)
  | 1, 7 => some (92, [0,4,4,2,6,1,7,1,8,1,9,1,10,1,11,1,12,4,16,-4,20,1,21,1])
  | 1, 32 => some (16, [0,4,4,-4,8,2,10,-1,11,1,12,4])
  | 1, 33 => some (20, [0,4,4,4,8,-4,12,2,14,1,15,1,16,1,17,1,18,1,19,1])
  | 1, 38 => some (24, [0,4,4,1,8,1,9,-1,10,1,11,-1,12,-4,16,2,18,2,23,1])
  | 13, 1 => some (16, [0,4,4,4,8,-4,12,2,14,1,15,1])
  | 5, 0 => some (2, [0,1,1,1])
  | 5, 1 => some (2, [0,1,1,1])
  | 6, 1 => some (3, [0,1,1,1,2,1])
  | 6, 8 => some (6, [0,2,2,2,4,2])
  | 6, 49 => some (32, [0,1,4,-2,8,4,16,4,28,4])
  | _, _ => none
--CF cfLayU . :: fnK Try.prog (mkS []) noL Try.f57 [] []
theorem cfLayU  : fnK Try.prog (mkS []) noL Try.f57 [] [] =
     (some (Res.ret (Value.map (some 0)) [some (Blk.mk true 0 [Seg.mp [(Value.agg (Array.mk [Value.int IntKind.u8 1, Value.int IntKind.u8 7]), Value.agg (Array.mk [Value.int IntKind.i64 92, Value.slice
     (some (Addr.mk 1 0 none)) 12 0])), (Value.agg (Array.mk [Value.int IntKind.u8 1, Value.int IntKind.u8 32]), Value.agg (Array.mk [Value.int IntKind.i64 16, Value.slice (some (Addr.mk 2 0 none)) 6 0])),
     (Value.agg (Array.mk [Value.int IntKind.u8 1, Value.int IntKind.u8 33]), Value.agg (Array.mk [Value.int IntKind.i64 20, Value.slice (some (Addr.mk 3 0 none)) 10 0])), (Value.agg (Array.mk [Value.int
     IntKind.u8 1, Value.int IntKind.u8 38]), Value.agg (Array.mk [Value.int IntKind.i64 24, Value.slice (some (Addr.mk 4 0 none)) 10 0])), (Value.agg (Array.mk [Value.int IntKind.u8 13, Value.int
     IntKind.u8 1]), Value.agg (Array.mk [Value.int IntKind.i64 16, Value.slice (some (Addr.mk 5 0 none)) 6 0])), (Value.agg (Array.mk [Value.int IntKind.u8 5, Value.int IntKind.u8 0]), Value.agg (Array.mk
     [Value.int IntKind.i64 2, Value.slice (some (Addr.mk 6 0 none)) 2 0])), (Value.agg (Array.mk [Value.int IntKind.u8 5, Value.int IntKind.u8 1]), Value.agg (Array.mk [Value.int IntKind.i64 2,
     Value.slice (some (Addr.mk 7 0 none)) 2 0])), (Value.agg (Array.mk [Value.int IntKind.u8 6, Value.int IntKind.u8 1]), Value.agg (Array.mk [Value.int IntKind.i64 3, Value.slice (some (Addr.mk 8 0
     none)) 3 0])), (Value.agg (Array.mk [Value.int IntKind.u8 6, Value.int IntKind.u8 8]), Value.agg (Array.mk [Value.int IntKind.i64 6, Value.slice (some (Addr.mk 9 0 none)) 3 0])), (Value.agg (Array.mk
     [Value.int IntKind.u8 6, Value.int IntKind.u8 49]), Value.agg (Array.mk [Value.int IntKind.i64 32, Value.slice (some (Addr.mk 10 0 none)) 5 0]))]]), some (Blk.mk true 3 [Seg.ints IntKind.i64 2 [0, 4],
     Seg.vals [Value.bool false], Seg.ints IntKind.i64 2 [4, 2], Seg.vals [Value.bool false], Seg.ints IntKind.i64 2 [6, 1], Seg.vals [Value.bool false], Seg.ints IntKind.i64 2 [7, 1], Seg.vals [Value.bool
     false], Seg.ints IntKind.i64 2 [8, 1], Seg.vals [Value.bool false], Seg.ints IntKind.i64 2 [9, 1], Seg.vals [Value.bool false], Seg.ints IntKind.i64 2 [10, 1], Seg.vals [Value.bool false], Seg.ints
     IntKind.i64 2 [11, 1], Seg.vals [Value.bool false], Seg.ints IntKind.i64 2 [12, 4], Seg.vals [Value.bool false], Seg.ints IntKind.i64 2 [16, 4], Seg.vals [Value.bool true], Seg.ints IntKind.i64 2 [20,
     1], Seg.vals [Value.bool false], Seg.ints IntKind.i64 2 [21, 1], Seg.vals [Value.bool false]]), some (Blk.mk true 3 [Seg.ints IntKind.i64 2 [0, 4], Seg.vals [Value.bool false], Seg.ints IntKind.i64 2
     [4, 4], Seg.vals [Value.bool true], Seg.ints IntKind.i64 2 [8, 2], Seg.vals [Value.bool false], Seg.ints IntKind.i64 2 [10, 1], Seg.vals [Value.bool true], Seg.ints IntKind.i64 2 [11, 1], Seg.vals
     [Value.bool false], Seg.ints IntKind.i64 2 [12, 4], Seg.vals [Value.bool false]]), some (Blk.mk true 3 [Seg.ints IntKind.i64 2 [0, 4], Seg.vals [Value.bool false], Seg.ints IntKind.i64 2 [4, 4],
     Seg.vals [Value.bool false], Seg.ints IntKind.i64 2 [8, 4], Seg.vals [Value.bool true], Seg.ints IntKind.i64 2 [12, 2], Seg.vals [Value.bool false], Seg.ints IntKind.i64 2 [14, 1], Seg.vals
     [Value.bool false], Seg.ints IntKind.i64 2 [15, 1], Seg.vals [Value.bool false], Seg.ints IntKind.i64 2 [16, 1], Seg.vals [Value.bool false], Seg.ints IntKind.i64 2 [17, 1], Seg.vals [Value.bool
     false], Seg.ints IntKind.i64 2 [18, 1], Seg.vals [Value.bool false], Seg.ints IntKind.i64 2 [19, 1], Seg.vals [Value.bool false]]), some (Blk.mk true 3 [Seg.ints IntKind.i64 2 [0, 4], Seg.vals
     [Value.bool false], Seg.ints IntKind.i64 2 [4, 1], Seg.vals [Value.bool false], Seg.ints IntKind.i64 2 [8, 1], Seg.vals [Value.bool false], Seg.ints IntKind.i64 2 [9, 1], Seg.vals [Value.bool true],
     Seg.ints IntKind.i64 2 [10, 1], Seg.vals [Value.bool false], Seg.ints IntKind.i64 2 [11, 1], Seg.vals [Value.bool true], Seg.ints IntKind.i64 2 [12, 4], Seg.vals [Value.bool true], Seg.ints
     IntKind.i64 2 [16, 2], Seg.vals [Value.bool false], Seg.ints IntKind.i64 2 [18, 2], Seg.vals [Value.bool false], Seg.ints IntKind.i64 2 [23, 1], Seg.vals [Value.bool false]]), some (Blk.mk true 3
     [Seg.ints IntKind.i64 2 [0, 4], Seg.vals [Value.bool false], Seg.ints IntKind.i64 2 [4, 4], Seg.vals [Value.bool false], Seg.ints IntKind.i64 2 [8, 4], Seg.vals [Value.bool true], Seg.ints IntKind.i64
     2 [12, 2], Seg.vals [Value.bool false], Seg.ints IntKind.i64 2 [14, 1], Seg.vals [Value.bool false], Seg.ints IntKind.i64 2 [15, 1], Seg.vals [Value.bool false]]), some (Blk.mk true 3 [Seg.ints
     IntKind.i64 2 [0, 1], Seg.vals [Value.bool false], Seg.ints IntKind.i64 2 [1, 1], Seg.vals [Value.bool false]]), some (Blk.mk true 3 [Seg.ints IntKind.i64 2 [0, 1], Seg.vals [Value.bool false],
     Seg.ints IntKind.i64 2 [1, 1], Seg.vals [Value.bool false]]), some (Blk.mk true 3 [Seg.ints IntKind.i64 2 [0, 1], Seg.vals [Value.bool false], Seg.ints IntKind.i64 2 [1, 1], Seg.vals [Value.bool
     false], Seg.ints IntKind.i64 2 [2, 1], Seg.vals [Value.bool false]]), some (Blk.mk true 3 [Seg.ints IntKind.i64 2 [0, 2], Seg.vals [Value.bool false], Seg.ints IntKind.i64 2 [2, 2], Seg.vals
     [Value.bool false], Seg.ints IntKind.i64 2 [4, 2], Seg.vals [Value.bool false]]), some (Blk.mk true 3 [Seg.ints IntKind.i64 2 [0, 1], Seg.vals [Value.bool false], Seg.ints IntKind.i64 2 [4, 2],
     Seg.vals [Value.bool true], Seg.ints IntKind.i64 2 [8, 4], Seg.vals [Value.bool false], Seg.ints IntKind.i64 2 [16, 4], Seg.vals [Value.bool false], Seg.ints IntKind.i64 2 [28, 4], Seg.vals
     [Value.bool false]])])) := by kernel_rfl
--CFEND
def FLayU : FSpec := fun args h k => match args, h with
  | [], [] => k (.map (some 0)) [some ⟨true, 0, [.mp [(.agg #[u8v 1, u8v 7], .agg #[w63 92, sl 1 12 0]), (.agg #[u8v 1, u8v 32], .agg #[w63 16, sl 2 6 0]), (.agg #[u8v 1, u8v 33], .agg #[w63 20, sl 3 10 0]), (.agg #[u8v 1, u8v 38], .agg #[w63 24, sl 4 10 0]), (.agg #[u8v 13, u8v 1], .agg #[w63 16, sl 5 6 0]), (.agg #[u8v 5, u8v 0], .agg #[w63 2, sl 6 2 0]), (.agg #[u8v 5, u8v 1], .agg #[w63 2, sl 7 2 0]), (.agg #[u8v 6, u8v 1], .agg #[w63 3, sl 8 3 0]), (.agg #[u8v 6, u8v 8], .agg #[w63 6, sl 9 3 0]), (.agg #[u8v 6, u8v 49], .agg #[w63 32, sl 10 5 0])]]⟩, oV 36 (fvU [0,4,4,2,6,1,7,1,8,1,9,1,10,1,11,1,12,4,16,-4,20,1,21,1]), oV 18 (fvU [0,4,4,-4,8,2,10,-1,11,1,12,4]), oV 30 (fvU [0,4,4,4,8,-4,12,2,14,1,15,1,16,1,17,1,18,1,19,1]), oV 30 (fvU [0,4,4,1,8,1,9,-1,10,1,11,-1,12,-4,16,2,18,2,23,1]), oV 18 (fvU [0,4,4,4,8,-4,12,2,14,1,15,1]), oV 6 (fvU [0,1,1,1]), oV 6 (fvU [0,1,1,1]), oV 9 (fvU [0,1,1,1,2,1]), oV 9 (fvU [0,2,2,2,4,2]), oV 15 (fvU [0,1,4,-2,8,4,16,4,28,4])]
  | _, _ => none
theorem okLayU : EntryOK Try.prog 57 FLayU := by
  refine EntryOK.of_fn_weak (S := mkS []) (fn := Try.f57) mk0 follows_ok Try.func57 (by kernel_rfl) (by kernel_rfl) ?_
  intro args h k out hF
  unfold FLayU at hF
  split at hF
  · exact ⟨_, _, hF, fun _ => ⟨noL, _, _, noL_ok, cfLayU, Weak.anyH (.same _ (.any (by kernel_rfl) (by kernel_rfl) (.any (by kernel_rfl) (by kernel_rfl) (.any (by kernel_rfl) (by kernel_rfl) (.any (by kernel_rfl) (by kernel_rfl) (.any (by kernel_rfl) (by kernel_rfl) (.any (by kernel_rfl) (by kernel_rfl) (.any (by kernel_rfl) (by kernel_rfl) (.any (by kernel_rfl) (by kernel_rfl) (.any (by kernel_rfl) (by kernel_rfl) (.any (by kernel_rfl) (by kernel_rfl) .nil)))))))))))⟩⟩
  · cases hF
end Go.Proofs.Ytcjjngdkkihgjaa.VC

/- ubx: Decode: closed forms. -/
namespace Go.Proofs.Ytcjjngdkkihgjaa.VC
open Go Go.Proofs

noncomputable def SDecU : Spec := mkS [(58, false, FGetU), (57, false, FLayU)]
def liveDecU : List Nat := [2, 6, 7, 36, 37, 38]
--CP pDecUR (x y : Int) (o n c i k N : Nat) (xs vs : List Int) (fv : List FV) (on : List Value → Heap → Out) (out : Exit → List Value → Heap → Out) :: roundK Try.prog (SDecU.on [(39, true)]) noL Try.f15.ntmps 1 (loopOf Try.f15 0) liveDecU [slo 0 o n c, pt 1, w63 0, sl 3 k 0, w63 k, w63 i] [rU N xs, uB x y (sl 2 i 1), oI i vs, oV (3 * k) fv] on out
theorem pDecUR (x y : Int) (o n c i k N : Nat) (xs vs : List Int) (fv : List FV) (on : List Value → Heap → Out) (out : Exit → List Value → Heap → Out)
    (w1 : -9223372036854775808 ≤ (↑i : Int) + (1 : Int) ∧ (↑i : Int) + (1 : Int) ≤ 9223372036854775807 := by omega)
    (h1 : (↑i : Int) < (↑k : Int) := by first | omega | assumption | rfl)
    (h2 : (0 : Int) ≤ (↑i : Int) := by first | omega | assumption | rfl)
    (h3 : i * (3 : Nat) < (3 : Nat) * k := by first | omega | assumption | rfl)
    (h4 : FV.isI IntKind.i64 (fv.getD (i * (3 : Nat)) (FV.b false)) = true := by first | omega | assumption | rfl)
    (h5 : i * (3 : Nat) + (1 : Nat) < (3 : Nat) * k := by first | omega | assumption | rfl)
    (h6 : FV.isI IntKind.i64 (fv.getD (i * (3 : Nat) + (1 : Nat)) (FV.b false)) = true := by first | omega | assumption | rfl)
    (h7 : i * (3 : Nat) + (2 : Nat) < (3 : Nat) * k := by first | omega | assumption | rfl)
    (h8 : (fv.getD (i * (3 : Nat) + (2 : Nat)) (FV.b false)).isB = true := by first | omega | assumption | rfl)
    (h9 : (1 : Int) ≤ (fv.getD (i * (3 : Nat) + (1 : Nat)) (FV.b false)).asI ∧ (fv.getD (i * (3 : Nat) + (1 : Nat)) (FV.b false)).asI ≤ (4 : Int) ∧ (0 : Int) ≤ (fv.getD (i * (3 : Nat)) (FV.b false)).asI ∧ (fv.getD (i * (3 : Nat)) (FV.b false)).asI + (fv.getD (i * (3 : Nat) + (1 : Nat)) (FV.b false)).asI ≤ (↑n : Int) ∧ o + n ≤ N ∧ N ≤ (1000000 : Nat) := by first | omega | assumption | rfl | ((repeat' with_reducible apply And.intro) <;> first | rfl | assumption | omega))
    (h10 : i ≤ i := by first | omega | assumption | rfl)
    (h11 : (i + (1 : Nat)) * (8 : Nat) ≤ (140737488355328 : Nat) := by first | omega | assumption | rfl)
    (h12 : i + (1 : Nat) ≤ (4611686018427387904 : Nat) := by first | omega | assumption | rfl)
    (h13 : i = i := by first | omega | assumption | rfl) : roundK Try.prog (SDecU.on [(39, true)]) noL Try.f15.ntmps 1 (loopOf Try.f15 0) liveDecU [slo 0 o n c, pt 1, w63 0, sl 3 k 0, w63 k, w63 i] [rU N xs, uB x y (sl 2 i 1), oI i vs, oV (3 * k) fv] on out =
     (on [Value.slice (some (Addr.mk (0 : Nat) o none)) n c, Value.pointer (some (Addr.mk (1 : Nat) (0 : Nat) none)), Value.int IntKind.i64 (0 : Int), Value.slice (some (Addr.mk (3 : Nat) (0 : Nat) none))
     k (0 : Nat), Value.int IntKind.i64 (↑k : Int), Value.int IntKind.i64 ((↑i : Int) + (1 : Int))] [some (Blk.mk false (1 : Nat) [Seg.ints IntKind.u8 N xs]), some (Blk.mk true (3 : Nat) [Seg.ints
     IntKind.u8 (2 : Nat) [x, y], Seg.vals [Value.slice (some (Addr.mk (2 : Nat) (0 : Nat) none)) (i + (1 : Nat)) (1 : Nat)]]), some (Blk.mk true (1 : Nat) [Seg.ints IntKind.i64 (i + (1 : Nat)) (List.take
     i vs ++ List.take (1 : Nat) [getL xs o (fv.getD (i * (3 : Nat)) (FV.b false)).asI (szS (fv.getD (i * (3 : Nat) + (1 : Nat)) (FV.b false)).asI (fv.getD (i * (3 : Nat) + (2 : Nat)) (FV.b
     false)).asB)])]), some (Blk.mk true (3 : Nat) [Seg.any ((3 : Nat) * k) fv])]) :=
  Eq.trans (b :=
     bif decide ((↑i : Int) < (↑k : Int)) then bif decide ((0 : Int) ≤ (↑i : Int)) && decide ((↑i : Int) < (↑k : Int)) then bif ((0 : Nat) + (↑i : Int).toNat * (3 : Nat)).blt ((3 : Nat) * k) then bif
     FV.isI IntKind.i64 (fv.getD ((0 : Nat) + (↑i : Int).toNat * (3 : Nat)) (FV.b false)) then bif ((0 : Nat) + (↑i : Int).toNat * (3 : Nat) + (1 : Nat)).blt ((3 : Nat) * k) then bif FV.isI IntKind.i64
     (fv.getD ((0 : Nat) + (↑i : Int).toNat * (3 : Nat) + (1 : Nat)) (FV.b false)) then bif ((0 : Nat) + (↑i : Int).toNat * (3 : Nat) + (1 : Nat) + (1 : Nat)).blt ((3 : Nat) * k) then bif (fv.getD ((0 :
     Nat) + (↑i : Int).toNat * (3 : Nat) + (1 : Nat) + (1 : Nat)) (FV.b false)).isB then bif chk ((1 : Int) ≤ (fv.getD ((0 : Nat) + (↑i : Int).toNat * (3 : Nat) + (1 : Nat)) (FV.b false)).asI ∧ (fv.getD
     ((0 : Nat) + (↑i : Int).toNat * (3 : Nat) + (1 : Nat)) (FV.b false)).asI ≤ (4 : Int) ∧ (0 : Int) ≤ (fv.getD ((0 : Nat) + (↑i : Int).toNat * (3 : Nat)) (FV.b false)).asI ∧ (fv.getD ((0 : Nat) + (↑i :
     Int).toNat * (3 : Nat)) (FV.b false)).asI + (fv.getD ((0 : Nat) + (↑i : Int).toNat * (3 : Nat) + (1 : Nat)) (FV.b false)).asI ≤ (↑n : Int) ∧ o + n ≤ N ∧ N ≤ (1000000 : Nat)) then bif (i * (1 :
     Nat)).ble i then bif decide ((i + (1 : Nat)) * (8 : Nat) ≤ (140737488355328 : Nat)) && (i + (1 : Nat)).ble (OfNat.ofNat (4611686018427387904 : Nat)) then bif ((0 : Nat) + i * (1 : Nat)).beq i && true
     then on [Value.slice (some (Addr.mk (0 : Nat) o none)) n c, Value.pointer (some (Addr.mk (1 : Nat) (0 : Nat) none)), Value.int IntKind.i64 (0 : Int), Value.slice (some (Addr.mk (3 : Nat) (0 : Nat)
     none)) k (0 : Nat), Value.int IntKind.i64 (↑k : Int), Value.int IntKind.i64 (IntKind.i64.wrap ((↑i : Int) + (1 : Int)))] [some (Blk.mk false (1 : Nat) [Seg.ints IntKind.u8 N xs]), some (Blk.mk true (3
     : Nat) [Seg.ints IntKind.u8 (2 : Nat) [x, y], Seg.vals [Value.slice (some (Addr.mk (2 : Nat) (0 : Nat) none)) (i + (1 : Nat)) (1 : Nat)]]), some (Blk.mk true (1 : Nat) [Seg.ints IntKind.i64 (i * (1 :
     Nat) + (1 : Nat)) (List.take (i * (1 : Nat)) vs ++ List.take (1 : Nat) [getL xs o (fv.getD ((0 : Nat) + (↑i : Int).toNat * (3 : Nat)) (FV.b false)).asI (szS (fv.getD ((0 : Nat) + (↑i : Int).toNat * (3
     : Nat) + (1 : Nat)) (FV.b false)).asI (fv.getD ((0 : Nat) + (↑i : Int).toNat * (3 : Nat) + (1 : Nat) + (1 : Nat)) (FV.b false)).asB)])]), some (Blk.mk true (3 : Nat) [Seg.any ((3 : Nat) * k) fv])]
     else none else none else none else none else none else none else none else none else none else none else none else none) (by kernel_rfl) (by simp only [-eq_self, Int.toNat_natCast, Nat.zero_add, Nat.mul_one, swrap w1.1 w1.2]; exact (go_t (dec_t h1) (go_t (and_t (dec_t h2) (dec_t h1)) (go_t (blt_t h3) (go_t h4 (go_t (blt_t h5) (go_t h6 (go_t (blt_t h7) (go_t h8 (go_t (chk_t h9) (go_t (ble_t h10) (go_t (and_t (dec_t h11) (ble_t h12)) (go_t (and_t (beq_t h13) rfl) rfl)))))))))))))
--CFEND
--CP pDecUR0 (x y : Int) (o n c k N : Nat) (xs : List Int) (fv : List FV) (on : List Value → Heap → Out) (out : Exit → List Value → Heap → Out) :: roundK Try.prog (SDecU.on [(39, true)]) noL Try.f15.ntmps 1 (loopOf Try.f15 0) liveDecU [slo 0 o n c, pt 1, w63 0, sl 2 k 0, w63 k, w63 0] [rU N xs, uB x y (.slice none 0 0), oV (3 * k) fv] on out
theorem pDecUR0 (x y : Int) (o n c k N : Nat) (xs : List Int) (fv : List FV) (on : List Value → Heap → Out) (out : Exit → List Value → Heap → Out)
    (h1 : (0 : Int) < (↑k : Int) := by first | omega | assumption | rfl)
    (h2 : (0 : Nat) < (3 : Nat) * k := by first | omega | assumption | rfl)
    (h3 : FV.isI IntKind.i64 (fv.getD (0 : Nat) (FV.b false)) = true := by first | omega | assumption | rfl)
    (h4 : (1 : Nat) < (3 : Nat) * k := by first | omega | assumption | rfl)
    (h5 : FV.isI IntKind.i64 (fv.getD (1 : Nat) (FV.b false)) = true := by first | omega | assumption | rfl)
    (h6 : (2 : Nat) < (3 : Nat) * k := by first | omega | assumption | rfl)
    (h7 : (fv.getD (2 : Nat) (FV.b false)).isB = true := by first | omega | assumption | rfl)
    (h8 : (1 : Int) ≤ (fv.getD (1 : Nat) (FV.b false)).asI ∧ (fv.getD (1 : Nat) (FV.b false)).asI ≤ (4 : Int) ∧ (0 : Int) ≤ (fv.getD (0 : Nat) (FV.b false)).asI ∧ (fv.getD (0 : Nat) (FV.b false)).asI + (fv.getD (1 : Nat) (FV.b false)).asI ≤ (↑n : Int) ∧ o + n ≤ N ∧ N ≤ (1000000 : Nat) := by first | omega | assumption | rfl | ((repeat' with_reducible apply And.intro) <;> first | rfl | assumption | omega)) : roundK Try.prog (SDecU.on [(39, true)]) noL Try.f15.ntmps 1 (loopOf Try.f15 0) liveDecU [slo 0 o n c, pt 1, w63 0, sl 2 k 0, w63 k, w63 0] [rU N xs, uB x y (.slice none 0 0), oV (3 * k) fv] on out =
     (on [Value.slice (some (Addr.mk (0 : Nat) o none)) n c, Value.pointer (some (Addr.mk (1 : Nat) (0 : Nat) none)), Value.int IntKind.i64 (0 : Int), Value.slice (some (Addr.mk (3 : Nat) (0 : Nat) none))
     k (0 : Nat), Value.int IntKind.i64 (↑k : Int), Value.int IntKind.i64 (1 : Int)] [some (Blk.mk false (1 : Nat) [Seg.ints IntKind.u8 N xs]), some (Blk.mk true (3 : Nat) [Seg.ints IntKind.u8 (2 : Nat)
     [x, y], Seg.vals [Value.slice (some (Addr.mk (2 : Nat) (0 : Nat) none)) (1 : Nat) (1 : Nat)]]), some (Blk.mk true (1 : Nat) [Seg.ints IntKind.i64 (1 : Nat) (List.take (1 : Nat) [getL xs o (fv.getD (0
     : Nat) (FV.b false)).asI (szS (fv.getD (1 : Nat) (FV.b false)).asI (fv.getD (2 : Nat) (FV.b false)).asB)])]), some (Blk.mk true (3 : Nat) [Seg.any ((3 : Nat) * k) fv])]) :=
  Eq.trans (by kernel_rfl) (go_t (dec_t h1) (go_t (dec_t h1) (go_t (blt_t h2) (go_t h3 (go_t (blt_t h4) (go_t h5 (go_t (blt_t h6) (go_t h7 (go_t (chk_t h8) rfl)))))))))
--CFEND
--CP pDecUX (x y : Int) (o n c i k N : Nat) (xs vs : List Int) (fv : List FV) (on : List Value → Heap → Out) (out : Exit → List Value → Heap → Out) :: roundK Try.prog (SDecU.on [(39, false)]) noL Try.f15.ntmps 1 (loopOf Try.f15 0) liveDecU [slo 0 o n c, pt 1, w63 0, sl 3 k 0, w63 k, w63 i] [rU N xs, uB x y (sl 2 i 1), oI i vs, oV (3 * k) fv] on out
theorem pDecUX (x y : Int) (o n c i k N : Nat) (xs vs : List Int) (fv : List FV) (on : List Value → Heap → Out) (out : Exit → List Value → Heap → Out)
    (h1 : ¬(↑i : Int) < (↑k : Int) := by first | omega | assumption | rfl) : roundK Try.prog (SDecU.on [(39, false)]) noL Try.f15.ntmps 1 (loopOf Try.f15 0) liveDecU [slo 0 o n c, pt 1, w63 0, sl 3 k 0, w63 k, w63 i] [rU N xs, uB x y (sl 2 i 1), oI i vs, oV (3 * k) fv] on out =
     (out (Exit.exit (1 : Nat)) [Value.slice (some (Addr.mk (0 : Nat) o none)) n c, Value.pointer (some (Addr.mk (1 : Nat) (0 : Nat) none)), Value.int IntKind.i64 (0 : Int), Value.slice (some (Addr.mk (3 :
     Nat) (0 : Nat) none)) k (0 : Nat), Value.int IntKind.i64 (↑k : Int), Value.int IntKind.i64 (↑i : Int)] [some (Blk.mk false (1 : Nat) [Seg.ints IntKind.u8 N xs]), some (Blk.mk true (3 : Nat) [Seg.ints
     IntKind.u8 (2 : Nat) [x, y], Seg.vals [Value.slice (some (Addr.mk (2 : Nat) (0 : Nat) none)) i (1 : Nat)]]), some (Blk.mk true (1 : Nat) [Seg.ints IntKind.i64 i vs]), some (Blk.mk true (3 : Nat)
     [Seg.any ((3 : Nat) * k) fv])]) :=
  Eq.trans (by kernel_rfl) (go_f (dec_f h1) rfl)
--CFEND
end Go.Proofs.Ytcjjngdkkihgjaa.VC

/- ubx: Decode's loop. -/
namespace Go.Proofs.Ytcjjngdkkihgjaa.VC
open Go Go.Proofs

theorem fvU_get (d : FV) : ∀ (fl : List Int) (i : Nat), i * 2 + 1 < fl.length → (fvU fl).getD (i * 3) d = .i .i64 (fl.getD (i * 2) 0) ∧ (fvU fl).getD (i * 3 + 1) d = .i .i64 (manyI (fl.getD (i * 2 + 1) 0)) ∧ (fvU fl).getD (i * 3 + 2) d = .b (decide (fl.getD (i * 2 + 1) 0 < 0))
  | [], i, h => by simp at h
  | [_], i, h => by simp at h
  | a :: s :: r, 0, _ => ⟨rfl, rfl, rfl⟩
  | a :: s :: r, i + 1, h => by
    have := fvU_get d r i (by simp at h; omega)
    rw [show (i + 1) * 3 = i * 3 + 1 + 1 + 1 by omega, show (i + 1) * 2 = i * 2 + 1 + 1 by omega, show i * 3 + 1 + 1 + 1 + 1 = (i * 3 + 1) + 1 + 1 + 1 by omega, show i * 3 + 1 + 1 + 1 + 2 = (i * 3 + 2) + 1 + 1 + 1 by omega]
    simp only [fvU, List.getD_cons_succ]
    exact this
theorem szS_many (s : Int) : szS (manyI s) (decide (s < 0)) = s := by
  unfold szS manyI
  by_cases h : s < 0
  · rw [decide_eq_true h, condT]; split <;> omega
  · rw [decide_eq_false h, condF]; split <;> omega
/-- The values, one by one: little-endian. -/
def decL (xs : List Int) (o : Nat) (fl : List Int) : Nat → List Int
  | 0 => []
  | k + 1 => decL xs o fl k ++ [getL xs o (fl.getD (k * 2) 0) (fl.getD (k * 2 + 1) 0)]
theorem decL_len (xs : List Int) (o : Nat) (fl : List Int) : ∀ k, (decL xs o fl k).length = k
  | 0 => rfl
  | k + 1 => by rw [decL, List.length_append, decL_len xs o fl k]; rfl
theorem SDecU_ok : SpecOK Try.prog SDecU := mkS_cons okGetU (mkS_cons okLayU (mkS_nil _))
theorem roundDecU {x y : Int} {o n c i k N : Nat} {xs vs fl : List Int} (hi : i < k) (hk : k ≤ 100) (hl : fl.length = 2 * k) (hf : fldsOK n fl k) (ho : o + n ≤ N) (hN : N ≤ 1000000) (hv : vs.length = i) (on : List Value → Heap → Out) (out : Exit → List Value → Heap → Out) :
    roundK Try.prog (SDecU.on [(39, true)]) noL Try.f15.ntmps 1 (loopOf Try.f15 0) liveDecU [slo 0 o n c, pt 1, w63 0, sl 3 k 0, w63 k, w63 i] [rU N xs, uB x y (sl 2 i 1), oI i vs, oV (3 * k) (fvU fl)] on out =
     on [slo 0 o n c, pt 1, w63 0, sl 3 k 0, w63 k, w63 ((i + 1 : Nat) : Int)] [rU N xs, uB x y (sl 2 (i + 1) 1), oI (i + 1) (vs ++ [getL xs o (fl.getD (i * 2) 0) (fl.getD (i * 2 + 1) 0)]), oV (3 * k) (fvU fl)] := by
  obtain ⟨e1, e2, e3⟩ := fvU_get (.b false) fl i (by omega)
  obtain ⟨f1, f2, f3, f4, f5⟩ := hf i hi
  have hm := manyI_rng ⟨f1, f2⟩
  have hm1 : 1 ≤ manyI (fl.getD (i * 2 + 1) 0) := by unfold manyI; split <;> omega
  have key := @pDecUR x y o n c i k N xs vs (fvU fl) on out
  rw [e1, e2, e3] at key
  refine (key (by omega) (by omega) (by omega) (by omega) rfl (by omega) rfl (by omega) rfl ⟨hm1, hm.2, f4, f5, ho, hN⟩ (by omega) (by omega) (by omega) rfl).trans ?_
  rw [List.take_of_length_le (by omega)]
  show on [_, _, _, _, _, _] [_, _, some ⟨true, 1, [.ints .i64 (i + 1) (vs ++ [getL xs o (fl.getD (i * 2) 0) (szS (manyI (fl.getD (i * 2 + 1) 0)) (decide (fl.getD (i * 2 + 1) 0 < 0)))])]⟩, _] = _
  rw [szS_many]
  rfl
end Go.Proofs.Ytcjjngdkkihgjaa.VC

/- ubx: Decode: what it is. -/
namespace Go.Proofs.Ytcjjngdkkihgjaa.VC
open Go Go.Proofs

theorem loopDecU {x y : Int} {o n c q N : Nat} {xs fl : List Int} (hq : q ≤ 100) (hl : fl.length = 2 * q) (hf : fldsOK n fl q) (ho : o + n ≤ N) (hN : N ≤ 1000000) : ∀ (r i : Nat), i + r = q → 1 ≤ i →
    LoopT Try.prog Try.f15.ntmps 1 (loopOf Try.f15 0) (zipS liveDecU [slo 0 o n c, pt 1, w63 0, sl 3 q 0, w63 q, w63 i]) [rU N xs, uB x y (sl 2 i 1), oI i (decL xs o fl i), oV (3 * q) (fvU fl)] (.exit 1)
      (zipS liveDecU [slo 0 o n c, pt 1, w63 0, sl 3 q 0, w63 q, w63 q]) [rU N xs, uB x y (sl 2 q 1), oI q (decL xs o fl q), oV (3 * q) (fvU fl)] := by
  intro r
  induction r with
  | zero =>
    intro i hi _
    obtain rfl : i = q := by omega
    exact LoopT.last (by intro h; cases h) (CodeT.out (SDecU_ok.on _) noL_ok fun on out => pDecUX x y o n c i i N xs _ _ on out)
  | succ r ih =>
    intro i hi h1
    exact LoopT.step (CodeT.on (live := liveDecU) (vs1 := [slo 0 o n c, pt 1, w63 0, sl 3 q 0, w63 q, w63 ((i + 1 : Nat) : Int)]) (h1 := [rU N xs, uB x y (sl 2 (i + 1) 1), oI (i + 1) (decL xs o fl (i + 1)), oV (3 * q) (fvU fl)]) (SDecU_ok.on [(39, true)]) noL_ok fun on out =>
      roundDecU (by omega) hq hl hf ho hN (decL_len ..) on out) (ih (i + 1) (by omega) (by omega))
theorem roundDecU0 {x y : Int} {o n c k N : Nat} {xs fl : List Int} (hi : 0 < k) (hk : k ≤ 100) (hl : fl.length = 2 * k) (hf : fldsOK n fl k) (ho : o + n ≤ N) (hN : N ≤ 1000000) (on : List Value → Heap → Out) (out : Exit → List Value → Heap → Out) :
    roundK Try.prog (SDecU.on [(39, true)]) noL Try.f15.ntmps 1 (loopOf Try.f15 0) liveDecU [slo 0 o n c, pt 1, w63 0, sl 2 k 0, w63 k, w63 0] [rU N xs, uB x y (.slice none 0 0), oV (3 * k) (fvU fl)] on out =
     on [slo 0 o n c, pt 1, w63 0, sl 3 k 0, w63 k, w63 ((1 : Nat) : Int)] [rU N xs, uB x y (sl 2 1 1), oI 1 (decL xs o fl 1), oV (3 * k) (fvU fl)] := by
  obtain ⟨e1, e2, e3⟩ := fvU_get (.b false) fl 0 (by omega)
  obtain ⟨f1, f2, f3, f4, f5⟩ := hf 0 hi
  have hm := manyI_rng ⟨f1, f2⟩
  have hm1 : 1 ≤ manyI (fl.getD (0 * 2 + 1) 0) := by unfold manyI; split <;> omega
  have key := @pDecUR0 x y o n c k N xs (fvU fl) on out
  rw [show (0 : Nat) * 3 = 0 from rfl] at e1
  rw [show (0 : Nat) * 3 + 1 = 1 from rfl] at e2
  rw [show (0 : Nat) * 3 + 2 = 2 from rfl] at e3
  rw [e1, e2, e3] at key
  refine (key (by omega) (by omega) rfl (by omega) rfl (by omega) rfl ⟨hm1, hm.2, f4, f5, ho, hN⟩).trans ?_
  show on [_, _, _, _, _, _] [_, _, some ⟨true, 1, [.ints .i64 1 [getL xs o (fl.getD (0 * 2) 0) (szS (manyI (fl.getD (0 * 2 + 1) 0)) (decide (fl.getD (0 * 2 + 1) 0 < 0)))]]⟩, _] = _
  rw [szS_many]
  rfl
noncomputable def LDecUf (fl : List Int) : LF := fun vs h k => match vs, h with
  | [.slice (some ⟨0, o, none⟩) n c, .pointer (some ⟨1, 0, none⟩), .int .i64 0, .slice (some ⟨2, 0, none⟩) q 0, .int .i64 q', .int .i64 0], [some ⟨false, 1, [.ints .u8 N xs]⟩, some ⟨true, 3, [.ints .u8 2 [x, y], .vals [.slice none 0 0]]⟩, some ⟨true, 3, [.any m fv]⟩] =>
    bif chk (q'.toNat = q ∧ 0 < q ∧ q ≤ 100 ∧ m = 3 * q ∧ fv = fvU fl ∧ fl.length = 2 * q ∧ fldsOK n fl q ∧ o + n ≤ N ∧ N ≤ 1000000) then
      k (.exit 1) [slo 0 o n c, pt 1, w63 0, sl 3 q 0, w63 q, w63 q] [rU N xs, uB x y (sl 2 q 1), oI q (decL xs o fl q), oV (3 * q) (fvU fl)] else none
  | _, _ => none
noncomputable def LDecU (fl : List Int) : LSpec := oneL 8 liveDecU (LDecUf fl)
theorem loopOKDecU (fl : List Int) : LoopOK Try.prog Try.f15.ntmps 1 (loopOf Try.f15 0) liveDecU (LDecUf fl) := by
  refine LoopOK.of_T ?_
  intro vs h k out hk
  unfold LDecUf at hk
  split at hk
  · rename_i o n c q q' N xs x y m fv
    obtain ⟨hb, hk2⟩ := bif_t hk
    obtain ⟨h1, h2, h3, rfl, rfl, h6, h7, h8, h9⟩ := chk_iff.1 hb
    refine ⟨_, _, _, hk2, fun real => ?_⟩
    obtain rfl : q' = q := by omega
    exact LoopT.step (CodeT.on (live := liveDecU) (vs1 := [slo 0 o n c, pt 1, w63 0, sl 3 q 0, w63 q, w63 ((1 : Nat) : Int)]) (h1 := [rU N xs, uB x y (sl 2 1 1), oI 1 (decL xs o fl 1), oV (3 * q) (fvU fl)]) (SDecU_ok.on [(39, true)]) noL_ok fun on out =>
      roundDecU0 h2 h3 h6 h7 h8 h9 on out) (loopDecU h3 h6 h7 h8 h9 (q - 1) 1 (by omega) (by omega))
  · cases hk
theorem loopsDecU (fl : List Int) : LoopsOK Try.prog (LDecU fl) Try.f15.ntmps 1 (bodyOf Try.f15) := loops_one rfl (by kernel_rfl) (loopOKDecU fl)
end Go.Proofs.Ytcjjngdkkihgjaa.VC

/- ubx: Decode: closed forms. -/
namespace Go.Proofs.Ytcjjngdkkihgjaa.VC
open Go Go.Proofs

--CF cfDecUN (x y : Int) (o n c N : Nat) (xs : List Int) :: fnK Try.prog (SDecU.on [(20, true)]) noL Try.f15 [u8v x, u8v y, slo 0 o n c] [rU N xs]
theorem cfDecUN (x y : Int) (o n c N : Nat) (xs : List Int) : fnK Try.prog (SDecU.on [(20, true)]) noL Try.f15 [u8v x, u8v y, slo 0 o n c] [rU N xs] =
     (bif x == 1 && (y == 7 && true) then none else bif x == 1 && (y == 32 && true) then none else bif x == 1 && (y == 33 && true) then none else bif x == 1 && (y == 38 && true) then none else bif x == 13
     && (y == 1 && true) then none else bif x == 5 && (y == 0 && true) then none else bif x == 5 && (y == 1 && true) then none else bif x == 6 && (y == 1 && true) then none else bif x == 6 && (y == 8 &&
     true) then none else bif x == 6 && (y == 49 && true) then none else some (Res.ret (Value.tuple (Array.mk [Value.agg (Array.mk [Value.int IntKind.u8 0, Value.int IntKind.u8 0, Value.slice none 0 0]),
     Value.int IntKind.i64 7])) [some (Blk.mk false 1 [Seg.ints IntKind.u8 N xs])])) := by kernel_rfl
--CFEND
--CF cfDecUF (x y : Int) (o n c N : Nat) (xs : List Int) :: fnK Try.prog (SDecU.on [(20, false), (24, true)]) noL Try.f15 [u8v x, u8v y, slo 0 o n c] [rU N xs]
theorem cfDecUF (x y : Int) (o n c N : Nat) (xs : List Int) : fnK Try.prog (SDecU.on [(20, false), (24, true)]) noL Try.f15 [u8v x, u8v y, slo 0 o n c] [rU N xs] =
     (bif x == 1 && (y == 7 && true) then bif (↑n : Int) != 92 then some (Res.ret (Value.tuple (Array.mk [Value.agg (Array.mk [Value.int IntKind.u8 0, Value.int IntKind.u8 0, Value.slice none 0 0]),
     Value.int IntKind.i64 5])) [some (Blk.mk false 1 [Seg.ints IntKind.u8 N xs])]) else none else bif x == 1 && (y == 32 && true) then bif (↑n : Int) != 16 then some (Res.ret (Value.tuple (Array.mk
     [Value.agg (Array.mk [Value.int IntKind.u8 0, Value.int IntKind.u8 0, Value.slice none 0 0]), Value.int IntKind.i64 5])) [some (Blk.mk false 1 [Seg.ints IntKind.u8 N xs])]) else none else bif x == 1
     && (y == 33 && true) then bif (↑n : Int) != 20 then some (Res.ret (Value.tuple (Array.mk [Value.agg (Array.mk [Value.int IntKind.u8 0, Value.int IntKind.u8 0, Value.slice none 0 0]), Value.int
     IntKind.i64 5])) [some (Blk.mk false 1 [Seg.ints IntKind.u8 N xs])]) else none else bif x == 1 && (y == 38 && true) then bif (↑n : Int) != 24 then some (Res.ret (Value.tuple (Array.mk [Value.agg
     (Array.mk [Value.int IntKind.u8 0, Value.int IntKind.u8 0, Value.slice none 0 0]), Value.int IntKind.i64 5])) [some (Blk.mk false 1 [Seg.ints IntKind.u8 N xs])]) else none else bif x == 13 && (y == 1
     && true) then bif (↑n : Int) != 16 then some (Res.ret (Value.tuple (Array.mk [Value.agg (Array.mk [Value.int IntKind.u8 0, Value.int IntKind.u8 0, Value.slice none 0 0]), Value.int IntKind.i64 5]))
     [some (Blk.mk false 1 [Seg.ints IntKind.u8 N xs])]) else none else bif x == 5 && (y == 0 && true) then bif (↑n : Int) != 2 then some (Res.ret (Value.tuple (Array.mk [Value.agg (Array.mk [Value.int
     IntKind.u8 0, Value.int IntKind.u8 0, Value.slice none 0 0]), Value.int IntKind.i64 5])) [some (Blk.mk false 1 [Seg.ints IntKind.u8 N xs])]) else none else bif x == 5 && (y == 1 && true) then bif (↑n
     : Int) != 2 then some (Res.ret (Value.tuple (Array.mk [Value.agg (Array.mk [Value.int IntKind.u8 0, Value.int IntKind.u8 0, Value.slice none 0 0]), Value.int IntKind.i64 5])) [some (Blk.mk false 1
     [Seg.ints IntKind.u8 N xs])]) else none else bif x == 6 && (y == 1 && true) then bif (↑n : Int) != 3 then some (Res.ret (Value.tuple (Array.mk [Value.agg (Array.mk [Value.int IntKind.u8 0, Value.int
     IntKind.u8 0, Value.slice none 0 0]), Value.int IntKind.i64 5])) [some (Blk.mk false 1 [Seg.ints IntKind.u8 N xs])]) else none else bif x == 6 && (y == 8 && true) then bif (↑n : Int) != 6 then some
     (Res.ret (Value.tuple (Array.mk [Value.agg (Array.mk [Value.int IntKind.u8 0, Value.int IntKind.u8 0, Value.slice none 0 0]), Value.int IntKind.i64 5])) [some (Blk.mk false 1 [Seg.ints IntKind.u8 N
     xs])]) else none else bif x == 6 && (y == 49 && true) then bif (↑n : Int) != 32 then some (Res.ret (Value.tuple (Array.mk [Value.agg (Array.mk [Value.int IntKind.u8 0, Value.int IntKind.u8 0,
     Value.slice none 0 0]), Value.int IntKind.i64 5])) [some (Blk.mk false 1 [Seg.ints IntKind.u8 N xs])]) else none else none) := by kernel_rfl
--CFEND
--CF cfDecUK (x y : Int) (o n c N : Nat) (xs fl : List Int) :: fnK Try.prog (SDecU.on [(20, false), (24, false)]) (LDecU fl) Try.f15 [u8v x, u8v y, slo 0 o n c] [rU N xs]
theorem cfDecUK (x y : Int) (o n c N : Nat) (xs fl : List Int) : fnK Try.prog (SDecU.on [(20, false), (24, false)]) (LDecU fl) Try.f15 [u8v x, u8v y, slo 0 o n c] [rU N xs] =
     (bif x == 1 && (y == 7 && true) then bif (↑n : Int) != 92 then none else bif chk (12 = 12 ∧ 0 < 12 ∧ 12 ≤ 100 ∧ 36 = 36 ∧ fvU [0, 4, 4, 2, 6, 1, 7, 1, 8, 1, 9, 1, 10, 1, 11, 1, 12, 4, 16, -4, 20, 1,
     21, 1] = fvU fl ∧ fl.length = 24 ∧ fldsOK n fl 12 ∧ o + n ≤ N ∧ N ≤ 1000000) then some (Res.ret (Value.tuple (Array.mk [Value.agg (Array.mk [Value.int IntKind.u8 x, Value.int IntKind.u8 y, Value.slice
     (some (Addr.mk 1 0 none)) 12 1]), Value.int IntKind.i64 0])) [some (Blk.mk false 1 [Seg.ints IntKind.u8 N xs]), some (Blk.mk true 1 [Seg.ints IntKind.i64 12 (decL xs o fl 12)])]) else none else bif x
     == 1 && (y == 32 && true) then bif (↑n : Int) != 16 then none else bif chk (6 = 6 ∧ 0 < 6 ∧ 6 ≤ 100 ∧ 18 = 18 ∧ fvU [0, 4, 4, -4, 8, 2, 10, -1, 11, 1, 12, 4] = fvU fl ∧ fl.length = 12 ∧ fldsOK n fl 6
     ∧ o + n ≤ N ∧ N ≤ 1000000) then some (Res.ret (Value.tuple (Array.mk [Value.agg (Array.mk [Value.int IntKind.u8 x, Value.int IntKind.u8 y, Value.slice (some (Addr.mk 1 0 none)) 6 1]), Value.int
     IntKind.i64 0])) [some (Blk.mk false 1 [Seg.ints IntKind.u8 N xs]), some (Blk.mk true 1 [Seg.ints IntKind.i64 6 (decL xs o fl 6)])]) else none else bif x == 1 && (y == 33 && true) then bif (↑n : Int)
     != 20 then none else bif chk (10 = 10 ∧ 0 < 10 ∧ 10 ≤ 100 ∧ 30 = 30 ∧ fvU [0, 4, 4, 4, 8, -4, 12, 2, 14, 1, 15, 1, 16, 1, 17, 1, 18, 1, 19, 1] = fvU fl ∧ fl.length = 20 ∧ fldsOK n fl 10 ∧ o + n ≤ N ∧
     N ≤ 1000000) then some (Res.ret (Value.tuple (Array.mk [Value.agg (Array.mk [Value.int IntKind.u8 x, Value.int IntKind.u8 y, Value.slice (some (Addr.mk 1 0 none)) 10 1]), Value.int IntKind.i64 0]))
     [some (Blk.mk false 1 [Seg.ints IntKind.u8 N xs]), some (Blk.mk true 1 [Seg.ints IntKind.i64 10 (decL xs o fl 10)])]) else none else bif x == 1 && (y == 38 && true) then bif (↑n : Int) != 24 then none
     else bif chk (10 = 10 ∧ 0 < 10 ∧ 10 ≤ 100 ∧ 30 = 30 ∧ fvU [0, 4, 4, 1, 8, 1, 9, -1, 10, 1, 11, -1, 12, -4, 16, 2, 18, 2, 23, 1] = fvU fl ∧ fl.length = 20 ∧ fldsOK n fl 10 ∧ o + n ≤ N ∧ N ≤ 1000000)
     then some (Res.ret (Value.tuple (Array.mk [Value.agg (Array.mk [Value.int IntKind.u8 x, Value.int IntKind.u8 y, Value.slice (some (Addr.mk 1 0 none)) 10 1]), Value.int IntKind.i64 0])) [some (Blk.mk
     false 1 [Seg.ints IntKind.u8 N xs]), some (Blk.mk true 1 [Seg.ints IntKind.i64 10 (decL xs o fl 10)])]) else none else bif x == 13 && (y == 1 && true) then bif (↑n : Int) != 16 then none else bif chk
     (6 = 6 ∧ 0 < 6 ∧ 6 ≤ 100 ∧ 18 = 18 ∧ fvU [0, 4, 4, 4, 8, -4, 12, 2, 14, 1, 15, 1] = fvU fl ∧ fl.length = 12 ∧ fldsOK n fl 6 ∧ o + n ≤ N ∧ N ≤ 1000000) then some (Res.ret (Value.tuple (Array.mk
     [Value.agg (Array.mk [Value.int IntKind.u8 x, Value.int IntKind.u8 y, Value.slice (some (Addr.mk 1 0 none)) 6 1]), Value.int IntKind.i64 0])) [some (Blk.mk false 1 [Seg.ints IntKind.u8 N xs]), some
     (Blk.mk true 1 [Seg.ints IntKind.i64 6 (decL xs o fl 6)])]) else none else bif x == 5 && (y == 0 && true) then bif (↑n : Int) != 2 then none else bif chk (2 = 2 ∧ 0 < 2 ∧ 2 ≤ 100 ∧ 6 = 6 ∧ fvU [0, 1,
     1, 1] = fvU fl ∧ fl.length = 4 ∧ fldsOK n fl 2 ∧ o + n ≤ N ∧ N ≤ 1000000) then some (Res.ret (Value.tuple (Array.mk [Value.agg (Array.mk [Value.int IntKind.u8 x, Value.int IntKind.u8 y, Value.slice
     (some (Addr.mk 1 0 none)) 2 1]), Value.int IntKind.i64 0])) [some (Blk.mk false 1 [Seg.ints IntKind.u8 N xs]), some (Blk.mk true 1 [Seg.ints IntKind.i64 2 (decL xs o fl 2)])]) else none else bif x ==
     5 && (y == 1 && true) then bif (↑n : Int) != 2 then none else bif chk (2 = 2 ∧ 0 < 2 ∧ 2 ≤ 100 ∧ 6 = 6 ∧ fvU [0, 1, 1, 1] = fvU fl ∧ fl.length = 4 ∧ fldsOK n fl 2 ∧ o + n ≤ N ∧ N ≤ 1000000) then some
     (Res.ret (Value.tuple (Array.mk [Value.agg (Array.mk [Value.int IntKind.u8 x, Value.int IntKind.u8 y, Value.slice (some (Addr.mk 1 0 none)) 2 1]), Value.int IntKind.i64 0])) [some (Blk.mk false 1
     [Seg.ints IntKind.u8 N xs]), some (Blk.mk true 1 [Seg.ints IntKind.i64 2 (decL xs o fl 2)])]) else none else bif x == 6 && (y == 1 && true) then bif (↑n : Int) != 3 then none else bif chk (3 = 3 ∧ 0 <
     3 ∧ 3 ≤ 100 ∧ 9 = 9 ∧ fvU [0, 1, 1, 1, 2, 1] = fvU fl ∧ fl.length = 6 ∧ fldsOK n fl 3 ∧ o + n ≤ N ∧ N ≤ 1000000) then some (Res.ret (Value.tuple (Array.mk [Value.agg (Array.mk [Value.int IntKind.u8 x,
     Value.int IntKind.u8 y, Value.slice (some (Addr.mk 1 0 none)) 3 1]), Value.int IntKind.i64 0])) [some (Blk.mk false 1 [Seg.ints IntKind.u8 N xs]), some (Blk.mk true 1 [Seg.ints IntKind.i64 3 (decL xs
     o fl 3)])]) else none else bif x == 6 && (y == 8 && true) then bif (↑n : Int) != 6 then none else bif chk (3 = 3 ∧ 0 < 3 ∧ 3 ≤ 100 ∧ 9 = 9 ∧ fvU [0, 2, 2, 2, 4, 2] = fvU fl ∧ fl.length = 6 ∧ fldsOK n
     fl 3 ∧ o + n ≤ N ∧ N ≤ 1000000) then some (Res.ret (Value.tuple (Array.mk [Value.agg (Array.mk [Value.int IntKind.u8 x, Value.int IntKind.u8 y, Value.slice (some (Addr.mk 1 0 none)) 3 1]), Value.int
     IntKind.i64 0])) [some (Blk.mk false 1 [Seg.ints IntKind.u8 N xs]), some (Blk.mk true 1 [Seg.ints IntKind.i64 3 (decL xs o fl 3)])]) else none else bif x == 6 && (y == 49 && true) then bif (↑n : Int)
     != 32 then none else bif chk (5 = 5 ∧ 0 < 5 ∧ 5 ≤ 100 ∧ 15 = 15 ∧ fvU [0, 1, 4, -2, 8, 4, 16, 4, 28, 4] = fvU fl ∧ fl.length = 10 ∧ fldsOK n fl 5 ∧ o + n ≤ N ∧ N ≤ 1000000) then some (Res.ret
     (Value.tuple (Array.mk [Value.agg (Array.mk [Value.int IntKind.u8 x, Value.int IntKind.u8 y, Value.slice (some (Addr.mk 1 0 none)) 5 1]), Value.int IntKind.i64 0])) [some (Blk.mk false 1 [Seg.ints
     IntKind.u8 N xs]), some (Blk.mk true 1 [Seg.ints IntKind.i64 5 (decL xs o fl 5)])]) else none else none) := by kernel_rfl
--CFEND
end Go.Proofs.Ytcjjngdkkihgjaa.VC

/- ubx: Decode: what it is. -/
namespace Go.Proofs.Ytcjjngdkkihgjaa.VC
open Go Go.Proofs

theorem layU_cases {x y : Int} {r : Nat × List Int} (h : layU x y = some r) : (x = 1 ∧ y = 7) ∨ (x = 1 ∧ y = 32) ∨ (x = 1 ∧ y = 33) ∨ (x = 1 ∧ y = 38) ∨ (x = 13 ∧ y = 1) ∨ (x = 5 ∧ y = 0) ∨ (x = 5 ∧ y = 1) ∨ (x = 6 ∧ y = 1) ∨ (x = 6 ∧ y = 8) ∨ (x = 6 ∧ y = 49) := by
  unfold layU at h
  split at h <;> first | (cases h; done) | simp
theorem layU_none {x y : Int} (h : layU x y = none) : ¬ ((x = 1 ∧ y = 7) ∨ (x = 1 ∧ y = 32) ∨ (x = 1 ∧ y = 33) ∨ (x = 1 ∧ y = 38) ∨ (x = 13 ∧ y = 1) ∨ (x = 5 ∧ y = 0) ∨ (x = 5 ∧ y = 1) ∨ (x = 6 ∧ y = 1) ∨ (x = 6 ∧ y = 8) ∨ (x = 6 ∧ y = 49)) := by
  rintro (⟨rfl, rfl⟩ | ⟨rfl, rfl⟩ | ⟨rfl, rfl⟩ | ⟨rfl, rfl⟩ | ⟨rfl, rfl⟩ | ⟨rfl, rfl⟩ | ⟨rfl, rfl⟩ | ⟨rfl, rfl⟩ | ⟨rfl, rfl⟩ | ⟨rfl, rfl⟩) <;> cases h
theorem layU_ok {x y : Int} {len : Nat} {fl : List Int} (h : layU x y = some (len, fl)) : len ≠ 0 ∧ 2 * (fl.length / 2) = fl.length ∧ 0 < fl.length / 2 ∧ fl.length / 2 ≤ 100 ∧ fldsOK len fl (fl.length / 2) ∧ len ≤ 200 := by
  rcases layU_cases h with e | e | e | e | e | e | e | e | e | e <;>
  · obtain ⟨rfl, rfl⟩ := e
    cases h
    unfold fldsOK
    decide
def errU (n : Nat) (x y : Int) : Int := match layU x y with
  | none => 7
  | some (len, _) => bif Nat.beq n len then 0 else 5
noncomputable def FDecUE (e : Int) : FSpec := fun args h k => match args, h with
  | [.int .u8 x, .int .u8 y, .slice (some ⟨0, o, none⟩) n _], [some ⟨false, 1, [.ints .u8 N xs]⟩] =>
    bif chk (o + n ≤ N ∧ N ≤ 1000000 ∧ errU n x y = e ∧ e ≠ 0) then k (.tuple #[.agg #[u8v 0, u8v 0, .slice none 0 0], w63 e]) [rU N xs] else none
  | _, _ => none
noncomputable def FDecUV (fl : List Int) : FSpec := fun args h k => match args, h with
  | [.int .u8 x, .int .u8 y, .slice (some ⟨0, o, none⟩) n _], [some ⟨false, 1, [.ints .u8 N xs]⟩] =>
    bif chk (o + n ≤ N ∧ N ≤ 1000000 ∧ layU x y = some (n, fl)) then k (.tuple #[.agg #[u8v x, u8v y, sl 1 (fl.length / 2) 1], w63 0]) [rU N xs, oI (fl.length / 2) (decL xs o fl (fl.length / 2))] else none
  | _, _ => none
theorem okDecUV (fl : List Int) : EntryOK Try.prog 15 (FDecUV fl) := by
  refine EntryOK.of_paths (fn := Try.f15) follows_ok Try.func15 (by kernel_rfl) (by kernel_rfl) ?_
  intro args h k out hF
  unfold FDecUV at hF
  split at hF
  · rename_i x y o n c N xs
    obtain ⟨hb, hF2⟩ := bif_t hF
    obtain ⟨h1, h2, h3⟩ := chk_iff.1 hb
    obtain ⟨g1, g2, g3, g4, g5, g6⟩ := layU_ok h3
    refine ⟨_, _, hF2, fun _ => ⟨_, LDecU fl, SDecU_ok.on _, loopsDecU fl, (cfDecUK x y o n c N xs fl).trans ?_⟩⟩
    rcases layU_cases h3 with e | e | e | e | e | e | e | e | e | e <;>
    · obtain ⟨rfl, rfl⟩ := e
      cases h3
      simp only [List.length_cons, List.length_nil, Nat.reduceAdd, Nat.reduceDiv] at g5
      try simp only [Int.reduceBEq, Bool.and_true, Bool.true_and, Bool.false_and, Bool.and_false, condT, condF]
      exact go_f (bne_f rfl) (go_t (chk_t ⟨by decide, by decide, by decide, by decide, by first | rfl | trivial, by first | rfl | trivial, g5, h1, h2⟩) rfl)
  · cases hF
end Go.Proofs.Ytcjjngdkkihgjaa.VC

/- ubx: Decode's refusals. -/
namespace Go.Proofs.Ytcjjngdkkihgjaa.VC
open Go Go.Proofs

theorem okDecUE (e : Int) : EntryOK Try.prog 15 (FDecUE e) := by
  refine EntryOK.of_paths (fn := Try.f15) follows_ok Try.func15 (by kernel_rfl) (by kernel_rfl) ?_
  intro args h k out hF
  unfold FDecUE at hF
  split at hF
  · rename_i x y o n c N xs
    obtain ⟨hb, hF2⟩ := bif_t hF
    obtain ⟨h1, h2, h3, h4⟩ := chk_iff.1 hb
    refine ⟨_, _, hF2, fun _ => ?_⟩
    unfold errU at h3
    split at h3
    · rename_i hl
      subst h3
      have hn := layU_none hl
      refine ⟨_, noL, SDecU_ok.on _, noL_ok, (cfDecUN x y o n c N xs).trans ?_⟩
      have f : ∀ a b : Int, ¬ (x = a ∧ y = b) → (x == a && (y == b && true)) = false := fun a b h => by
        rw [Bool.and_true, Bool.and_eq_false_iff, beq_eq_false_iff_ne, beq_eq_false_iff_ne]
        by_cases hx : x = a
        · exact .inr fun hy => h ⟨hx, hy⟩
        · exact .inl hx
      simp only [not_or] at hn
      obtain ⟨n1, n2, n3, n4, n5, n6, n7, n8, n9, n10⟩ := hn
      rw [f _ _ n1, f _ _ n2, f _ _ n3, f _ _ n4, f _ _ n5, f _ _ n6, f _ _ n7, f _ _ n8, f _ _ n9, f _ _ n10]; rfl
    · rename_i len fl hl
      by_cases hc : n = len
      · rw [beq_t hc] at h3; exact (h4 h3.symm).elim
      · rw [beq_f hc] at h3
        subst h3
        refine ⟨_, noL, SDecU_ok.on _, noL_ok, (cfDecUF x y o n c N xs).trans ?_⟩
        rcases layU_cases hl with e | e | e | e | e | e | e | e | e | e <;>
        · obtain ⟨rfl, rfl⟩ := e
          cases hl
          try simp only [Int.reduceBEq, Bool.and_true, Bool.true_and, Bool.false_and, Bool.and_false, condT, condF]
          exact go_t (c := ((n : Int) != _)) (bne_t (by omega)) rfl
  · cases hF
end Go.Proofs.Ytcjjngdkkihgjaa.VC

/- ubx: Payload: closed forms of its rounds. -/
namespace Go.Proofs.Ytcjjngdkkihgjaa.VC
open Go Go.Proofs

theorem fitL_iff {xs : List Int} {a s v : Int} (hs : -4 ≤ s ∧ s ≤ 4) (h0 : s ≠ 0) (h : a.toNat + (manyI s).toNat ≤ xs.length) : getL (putB xs a.toNat (le v (manyI s).toNat)) 0 a s = v ↔ fitI v s := by
  have hm1 : 1 ≤ manyI s := by unfold manyI; split <;> omega
  have he := pw_even hm1
  have e : (256 : Int) ^ (manyI s).toNat = pw256 (manyI s) := rfl
  have hp := (pw_4 (manyI_rng hs).2).1
  unfold getL fitI
  rw [fld_put (le_len _ _) (by rw [le_len]; exact h), valL_le, e]
  unfold sgnV
  rw [e]
  generalize pw256 (manyI s) = p at he hp
  have h1 := Int.emod_nonneg v (show p ≠ 0 by omega)
  have h2 := Int.emod_lt_of_pos v (show 0 < p by omega)
  have h3 := Int.emod_add_mul_ediv v p
  have h4 : ∀ t : Int, p * t = v - v % p → (t = 0 ∨ t = -1 ∨ v % p = v - p * t) := fun t ht => by omega
  have key : (v % p = v ↔ 0 ≤ v ∧ v < p) := ⟨fun h => by omega, fun h => Int.emod_eq_of_lt h.1 h.2⟩
  have key2 : -p ≤ v → v < 0 → v % p = v + p := fun a b => by rw [← Int.add_emod_right, Int.emod_eq_of_lt (by omega) (by omega)]
  by_cases hneg : s < 0
  · rw [if_pos hneg, if_pos hneg]
    constructor
    · intro hv
      split at hv <;> omega
    · intro hv
      by_cases hv0 : 0 ≤ v
      · have := key.2 ⟨hv0, by omega⟩
        rw [if_neg (by omega)]; exact this
      · have := key2 (by omega) (by omega)
        rw [if_pos (by omega)]; omega
  · rw [if_neg hneg, if_neg hneg]
    exact key
/-- Values laid one by one: little-endian. -/
def payL (bs fl vs : List Int) : Nat → List Int
  | 0 => bs
  | k + 1 => putB (payL bs fl vs k) (fl.getD (k * 2) 0).toNat (le (vs.getD k 0) (manyI (fl.getD (k * 2 + 1) 0)).toNat)
noncomputable def SPayU : Spec := mkS [(60, true, FPutU), (58, false, FGetU), (57, false, FLayU)]
theorem SPayU_ok : SpecOK Try.prog SPayU := mkS_cons okPutU (mkS_cons okGetU (mkS_cons okLayU (mkS_nil _)))
def livePayU : List Nat := [1, 2, 3, 6, 34, 35, 36]
abbrev stPayU (e : Int) (len k : Nat) (i : Int) : List Value := [pt 1, .slice none 0 0, w63 e, sl 2 len 0, sl 3 k 0, w63 k, w63 i]
abbrev hpPayU (x y : Int) (n q c len k : Nat) (vs bs : List Int) (fv : List FV) : Heap := [rI n vs, uB x y (sl 0 q c), oU len bs, oV (3 * k) fv]
--CP pPyUR (x y : Int) (n q c len i k : Nat) (vs bs : List Int) (fv : List FV) (on : List Value → Heap → Out) (out : Exit → List Value → Heap → Out) :: roundK Try.prog (SPayU.on [(37, true), (57, false)]) noL Try.f18.ntmps 1 (loopOf Try.f18 0) livePayU (stPayU 0 len k i) (hpPayU x y n q c len k vs bs fv) on out
theorem pPyUR (x y : Int) (n q c len i k : Nat) (vs bs : List Int) (fv : List FV) (on : List Value → Heap → Out) (out : Exit → List Value → Heap → Out)
    (w1 : -9223372036854775808 ≤ (↑i : Int) + (1 : Int) ∧ (↑i : Int) + (1 : Int) ≤ 9223372036854775807 := by omega)
    (h1 : (↑i : Int) < (↑k : Int) := by first | omega | assumption | rfl)
    (h2 : (0 : Int) ≤ (↑i : Int) := by first | omega | assumption | rfl)
    (h3 : i * (3 : Nat) < (3 : Nat) * k := by first | omega | assumption | rfl)
    (h4 : FV.isI IntKind.i64 (fv.getD (i * (3 : Nat)) (FV.b false)) = true := by first | omega | assumption | rfl)
    (h5 : i * (3 : Nat) + (1 : Nat) < (3 : Nat) * k := by first | omega | assumption | rfl)
    (h6 : FV.isI IntKind.i64 (fv.getD (i * (3 : Nat) + (1 : Nat)) (FV.b false)) = true := by first | omega | assumption | rfl)
    (h7 : i * (3 : Nat) + (2 : Nat) < (3 : Nat) * k := by first | omega | assumption | rfl)
    (h8 : (fv.getD (i * (3 : Nat) + (2 : Nat)) (FV.b false)).isB = true := by first | omega | assumption | rfl)
    (h9 : (↑i : Int) < (↑q : Int) := by first | omega | assumption | rfl)
    (h10 : i < n := by first | omega | assumption | rfl)
    (h11 : len = len ∧ (0 : Int) ≤ (fv.getD (i * (3 : Nat) + (1 : Nat)) (FV.b false)).asI ∧ (fv.getD (i * (3 : Nat) + (1 : Nat)) (FV.b false)).asI ≤ (4 : Int) ∧ (0 : Int) ≤ (fv.getD (i * (3 : Nat)) (FV.b false)).asI ∧ (fv.getD (i * (3 : Nat)) (FV.b false)).asI + (fv.getD (i * (3 : Nat) + (1 : Nat)) (FV.b false)).asI ≤ (↑len : Int) ∧ len ≤ (1000000 : Nat) := by first | omega | assumption | rfl | ((repeat' with_reducible apply And.intro) <;> first | rfl | assumption | omega))
    (h12 : (1 : Int) ≤ (fv.getD (i * (3 : Nat) + (1 : Nat)) (FV.b false)).asI ∧ (fv.getD (i * (3 : Nat) + (1 : Nat)) (FV.b false)).asI ≤ (4 : Int) ∧ (0 : Int) ≤ (fv.getD (i * (3 : Nat)) (FV.b false)).asI ∧ (fv.getD (i * (3 : Nat)) (FV.b false)).asI + (fv.getD (i * (3 : Nat) + (1 : Nat)) (FV.b false)).asI ≤ (↑len : Int) ∧ len ≤ len ∧ len ≤ (1000000 : Nat) := by first | omega | assumption | rfl | ((repeat' with_reducible apply And.intro) <;> first | rfl | assumption | omega))
    (h13 : getL (putB bs (fv.getD (i * (3 : Nat)) (FV.b false)).asI.toNat (le (vs.getD i (0 : Int)) (fv.getD (i * (3 : Nat) + (1 : Nat)) (FV.b false)).asI.toNat)) (0 : Nat) (fv.getD (i * (3 : Nat)) (FV.b false)).asI (szS (fv.getD (i * (3 : Nat) + (1 : Nat)) (FV.b false)).asI (fv.getD (i * (3 : Nat) + (2 : Nat)) (FV.b false)).asB) = vs.getD i (0 : Int) := by first | omega | assumption | rfl) : roundK Try.prog (SPayU.on [(37, true), (57, false)]) noL Try.f18.ntmps 1 (loopOf Try.f18 0) livePayU (stPayU 0 len k i) (hpPayU x y n q c len k vs bs fv) on out =
     (on [Value.pointer (some (Addr.mk (1 : Nat) (0 : Nat) none)), Value.slice none (0 : Nat) (0 : Nat), Value.int IntKind.i64 (0 : Int), Value.slice (some (Addr.mk (2 : Nat) (0 : Nat) none)) len (0 :
     Nat), Value.slice (some (Addr.mk (3 : Nat) (0 : Nat) none)) k (0 : Nat), Value.int IntKind.i64 (↑k : Int), Value.int IntKind.i64 ((↑i : Int) + (1 : Int))] [some (Blk.mk false (1 : Nat) [Seg.ints
     IntKind.i64 n vs]), some (Blk.mk true (3 : Nat) [Seg.ints IntKind.u8 (2 : Nat) [x, y], Seg.vals [Value.slice (some (Addr.mk (0 : Nat) (0 : Nat) none)) q c]]), some (Blk.mk true (1 : Nat) [Seg.ints
     IntKind.u8 len (putB bs (fv.getD (i * (3 : Nat)) (FV.b false)).asI.toNat (le (vs.getD i (0 : Int)) (fv.getD (i * (3 : Nat) + (1 : Nat)) (FV.b false)).asI.toNat))]), some (Blk.mk true (3 : Nat)
     [Seg.any ((3 : Nat) * k) fv])]) :=
  Eq.trans (b :=
     bif decide ((↑i : Int) < (↑k : Int)) then bif decide ((0 : Int) ≤ (↑i : Int)) && decide ((↑i : Int) < (↑k : Int)) then bif ((0 : Nat) + (↑i : Int).toNat * (3 : Nat)).blt ((3 : Nat) * k) then bif
     FV.isI IntKind.i64 (fv.getD ((0 : Nat) + (↑i : Int).toNat * (3 : Nat)) (FV.b false)) then bif ((0 : Nat) + (↑i : Int).toNat * (3 : Nat) + (1 : Nat)).blt ((3 : Nat) * k) then bif FV.isI IntKind.i64
     (fv.getD ((0 : Nat) + (↑i : Int).toNat * (3 : Nat) + (1 : Nat)) (FV.b false)) then bif ((0 : Nat) + (↑i : Int).toNat * (3 : Nat) + (1 : Nat) + (1 : Nat)).blt ((3 : Nat) * k) then bif (fv.getD ((0 :
     Nat) + (↑i : Int).toNat * (3 : Nat) + (1 : Nat) + (1 : Nat)) (FV.b false)).isB then bif decide ((0 : Int) ≤ (↑i : Int)) && decide ((↑i : Int) < (↑q : Int)) then bif ((0 : Nat) + (↑i : Int).toNat * (1
     : Nat)).blt n then bif chk (len = len ∧ (0 : Int) ≤ (fv.getD ((0 : Nat) + (↑i : Int).toNat * (3 : Nat) + (1 : Nat)) (FV.b false)).asI ∧ (fv.getD ((0 : Nat) + (↑i : Int).toNat * (3 : Nat) + (1 : Nat))
     (FV.b false)).asI ≤ (4 : Int) ∧ (0 : Int) ≤ (fv.getD ((0 : Nat) + (↑i : Int).toNat * (3 : Nat)) (FV.b false)).asI ∧ (fv.getD ((0 : Nat) + (↑i : Int).toNat * (3 : Nat)) (FV.b false)).asI + (fv.getD ((0
     : Nat) + (↑i : Int).toNat * (3 : Nat) + (1 : Nat)) (FV.b false)).asI ≤ (↑len : Int) ∧ len ≤ (1000000 : Nat)) then bif chk ((1 : Int) ≤ (fv.getD ((0 : Nat) + (↑i : Int).toNat * (3 : Nat) + (1 : Nat))
     (FV.b false)).asI ∧ (fv.getD ((0 : Nat) + (↑i : Int).toNat * (3 : Nat) + (1 : Nat)) (FV.b false)).asI ≤ (4 : Int) ∧ (0 : Int) ≤ (fv.getD ((0 : Nat) + (↑i : Int).toNat * (3 : Nat)) (FV.b false)).asI ∧
     (fv.getD ((0 : Nat) + (↑i : Int).toNat * (3 : Nat)) (FV.b false)).asI + (fv.getD ((0 : Nat) + (↑i : Int).toNat * (3 : Nat) + (1 : Nat)) (FV.b false)).asI ≤ (↑len : Int) ∧ (0 : Nat) + len ≤ len ∧ len ≤
     (1000000 : Nat)) then bif decide ((0 : Int) ≤ (↑i : Int)) && decide ((↑i : Int) < (↑q : Int)) then bif ((0 : Nat) + (↑i : Int).toNat * (1 : Nat)).blt n then bif getL (putB bs (fv.getD ((0 : Nat) + (↑i
     : Int).toNat * (3 : Nat)) (FV.b false)).asI.toNat (le (vs.getD ((0 : Nat) + (↑i : Int).toNat * (1 : Nat)) (0 : Int)) (fv.getD ((0 : Nat) + (↑i : Int).toNat * (3 : Nat) + (1 : Nat)) (FV.b
     false)).asI.toNat)) (0 : Nat) (fv.getD ((0 : Nat) + (↑i : Int).toNat * (3 : Nat)) (FV.b false)).asI (szS (fv.getD ((0 : Nat) + (↑i : Int).toNat * (3 : Nat) + (1 : Nat)) (FV.b false)).asI (fv.getD ((0
     : Nat) + (↑i : Int).toNat * (3 : Nat) + (1 : Nat) + (1 : Nat)) (FV.b false)).asB) != vs.getD ((0 : Nat) + (↑i : Int).toNat * (1 : Nat)) (0 : Int) then none else on [Value.pointer (some (Addr.mk (1 :
     Nat) (0 : Nat) none)), Value.slice none (0 : Nat) (0 : Nat), Value.int IntKind.i64 (0 : Int), Value.slice (some (Addr.mk (2 : Nat) (0 : Nat) none)) len (0 : Nat), Value.slice (some (Addr.mk (3 : Nat)
     (0 : Nat) none)) k (0 : Nat), Value.int IntKind.i64 (↑k : Int), Value.int IntKind.i64 (IntKind.i64.wrap ((↑i : Int) + (1 : Int)))] [some (Blk.mk false (1 : Nat) [Seg.ints IntKind.i64 n vs]), some
     (Blk.mk true (3 : Nat) [Seg.ints IntKind.u8 (2 : Nat) [x, y], Seg.vals [Value.slice (some (Addr.mk (0 : Nat) (0 : Nat) none)) q c]]), some (Blk.mk true (1 : Nat) [Seg.ints IntKind.u8 len (putB bs
     (fv.getD ((0 : Nat) + (↑i : Int).toNat * (3 : Nat)) (FV.b false)).asI.toNat (le (vs.getD ((0 : Nat) + (↑i : Int).toNat * (1 : Nat)) (0 : Int)) (fv.getD ((0 : Nat) + (↑i : Int).toNat * (3 : Nat) + (1 :
     Nat)) (FV.b false)).asI.toNat))]), some (Blk.mk true (3 : Nat) [Seg.any ((3 : Nat) * k) fv])] else none else none else none else none else none else none else none else none else none else none else
     none else none else none else none) (by kernel_rfl) (by simp only [-eq_self, Int.toNat_natCast, Nat.zero_add, Nat.mul_one, swrap w1.1 w1.2]; exact (go_t (dec_t h1) (go_t (and_t (dec_t h2) (dec_t h1)) (go_t (blt_t h3) (go_t h4 (go_t (blt_t h5) (go_t h6 (go_t (blt_t h7) (go_t h8 (go_t (and_t (dec_t h2) (dec_t h9)) (go_t (blt_t h10) (go_t (chk_t h11) (go_t (chk_t h12) (go_t (and_t (dec_t h2) (dec_t h9)) (go_t (blt_t h10) (go_f (bne_f h13) rfl))))))))))))))))
--CFEND
--CP pPyUN (x y : Int) (n q c len i k : Nat) (vs bs : List Int) (fv : List FV) (on : List Value → Heap → Out) (out : Exit → List Value → Heap → Out) :: roundK Try.prog (SPayU.on [(37, true), (57, true)]) noL Try.f18.ntmps 1 (loopOf Try.f18 0) livePayU (stPayU 0 len k i) (hpPayU x y n q c len k vs bs fv) on out
theorem pPyUN (x y : Int) (n q c len i k : Nat) (vs bs : List Int) (fv : List FV) (on : List Value → Heap → Out) (out : Exit → List Value → Heap → Out)
    (h1 : (↑i : Int) < (↑k : Int) := by first | omega | assumption | rfl)
    (h2 : (0 : Int) ≤ (↑i : Int) := by first | omega | assumption | rfl)
    (h3 : i * (3 : Nat) < (3 : Nat) * k := by first | omega | assumption | rfl)
    (h4 : FV.isI IntKind.i64 (fv.getD (i * (3 : Nat)) (FV.b false)) = true := by first | omega | assumption | rfl)
    (h5 : i * (3 : Nat) + (1 : Nat) < (3 : Nat) * k := by first | omega | assumption | rfl)
    (h6 : FV.isI IntKind.i64 (fv.getD (i * (3 : Nat) + (1 : Nat)) (FV.b false)) = true := by first | omega | assumption | rfl)
    (h7 : i * (3 : Nat) + (2 : Nat) < (3 : Nat) * k := by first | omega | assumption | rfl)
    (h8 : (fv.getD (i * (3 : Nat) + (2 : Nat)) (FV.b false)).isB = true := by first | omega | assumption | rfl)
    (h9 : (↑i : Int) < (↑q : Int) := by first | omega | assumption | rfl)
    (h10 : i < n := by first | omega | assumption | rfl)
    (h11 : len = len ∧ (0 : Int) ≤ (fv.getD (i * (3 : Nat) + (1 : Nat)) (FV.b false)).asI ∧ (fv.getD (i * (3 : Nat) + (1 : Nat)) (FV.b false)).asI ≤ (4 : Int) ∧ (0 : Int) ≤ (fv.getD (i * (3 : Nat)) (FV.b false)).asI ∧ (fv.getD (i * (3 : Nat)) (FV.b false)).asI + (fv.getD (i * (3 : Nat) + (1 : Nat)) (FV.b false)).asI ≤ (↑len : Int) ∧ len ≤ (1000000 : Nat) := by first | omega | assumption | rfl | ((repeat' with_reducible apply And.intro) <;> first | rfl | assumption | omega))
    (h12 : (1 : Int) ≤ (fv.getD (i * (3 : Nat) + (1 : Nat)) (FV.b false)).asI ∧ (fv.getD (i * (3 : Nat) + (1 : Nat)) (FV.b false)).asI ≤ (4 : Int) ∧ (0 : Int) ≤ (fv.getD (i * (3 : Nat)) (FV.b false)).asI ∧ (fv.getD (i * (3 : Nat)) (FV.b false)).asI + (fv.getD (i * (3 : Nat) + (1 : Nat)) (FV.b false)).asI ≤ (↑len : Int) ∧ len ≤ len ∧ len ≤ (1000000 : Nat) := by first | omega | assumption | rfl | ((repeat' with_reducible apply And.intro) <;> first | rfl | assumption | omega))
    (h13 : getL (putB bs (fv.getD (i * (3 : Nat)) (FV.b false)).asI.toNat (le (vs.getD i (0 : Int)) (fv.getD (i * (3 : Nat) + (1 : Nat)) (FV.b false)).asI.toNat)) (0 : Nat) (fv.getD (i * (3 : Nat)) (FV.b false)).asI (szS (fv.getD (i * (3 : Nat) + (1 : Nat)) (FV.b false)).asI (fv.getD (i * (3 : Nat) + (2 : Nat)) (FV.b false)).asB) ≠ vs.getD i (0 : Int) := by first | omega | assumption | rfl) : roundK Try.prog (SPayU.on [(37, true), (57, true)]) noL Try.f18.ntmps 1 (loopOf Try.f18 0) livePayU (stPayU 0 len k i) (hpPayU x y n q c len k vs bs fv) on out =
     (out Exit.ret [Value.pointer (some (Addr.mk (1 : Nat) (0 : Nat) none)), Value.slice none (0 : Nat) (0 : Nat), Value.int IntKind.i64 (2 : Int), Value.slice (some (Addr.mk (2 : Nat) (0 : Nat) none)) len
     (0 : Nat), Value.slice (some (Addr.mk (3 : Nat) (0 : Nat) none)) k (0 : Nat), Value.int IntKind.i64 (↑k : Int), Value.int IntKind.i64 (↑i : Int)] [some (Blk.mk false (1 : Nat) [Seg.ints IntKind.i64 n
     vs]), some (Blk.mk true (3 : Nat) [Seg.ints IntKind.u8 (2 : Nat) [x, y], Seg.vals [Value.slice (some (Addr.mk (0 : Nat) (0 : Nat) none)) q c]]), some (Blk.mk true (1 : Nat) [Seg.ints IntKind.u8 len
     (putB bs (fv.getD (i * (3 : Nat)) (FV.b false)).asI.toNat (le (vs.getD i (0 : Int)) (fv.getD (i * (3 : Nat) + (1 : Nat)) (FV.b false)).asI.toNat))]), some (Blk.mk true (3 : Nat) [Seg.any ((3 : Nat) *
     k) fv])]) :=
  Eq.trans (b :=
     bif decide ((↑i : Int) < (↑k : Int)) then bif decide ((0 : Int) ≤ (↑i : Int)) && decide ((↑i : Int) < (↑k : Int)) then bif ((0 : Nat) + (↑i : Int).toNat * (3 : Nat)).blt ((3 : Nat) * k) then bif
     FV.isI IntKind.i64 (fv.getD ((0 : Nat) + (↑i : Int).toNat * (3 : Nat)) (FV.b false)) then bif ((0 : Nat) + (↑i : Int).toNat * (3 : Nat) + (1 : Nat)).blt ((3 : Nat) * k) then bif FV.isI IntKind.i64
     (fv.getD ((0 : Nat) + (↑i : Int).toNat * (3 : Nat) + (1 : Nat)) (FV.b false)) then bif ((0 : Nat) + (↑i : Int).toNat * (3 : Nat) + (1 : Nat) + (1 : Nat)).blt ((3 : Nat) * k) then bif (fv.getD ((0 :
     Nat) + (↑i : Int).toNat * (3 : Nat) + (1 : Nat) + (1 : Nat)) (FV.b false)).isB then bif decide ((0 : Int) ≤ (↑i : Int)) && decide ((↑i : Int) < (↑q : Int)) then bif ((0 : Nat) + (↑i : Int).toNat * (1
     : Nat)).blt n then bif chk (len = len ∧ (0 : Int) ≤ (fv.getD ((0 : Nat) + (↑i : Int).toNat * (3 : Nat) + (1 : Nat)) (FV.b false)).asI ∧ (fv.getD ((0 : Nat) + (↑i : Int).toNat * (3 : Nat) + (1 : Nat))
     (FV.b false)).asI ≤ (4 : Int) ∧ (0 : Int) ≤ (fv.getD ((0 : Nat) + (↑i : Int).toNat * (3 : Nat)) (FV.b false)).asI ∧ (fv.getD ((0 : Nat) + (↑i : Int).toNat * (3 : Nat)) (FV.b false)).asI + (fv.getD ((0
     : Nat) + (↑i : Int).toNat * (3 : Nat) + (1 : Nat)) (FV.b false)).asI ≤ (↑len : Int) ∧ len ≤ (1000000 : Nat)) then bif chk ((1 : Int) ≤ (fv.getD ((0 : Nat) + (↑i : Int).toNat * (3 : Nat) + (1 : Nat))
     (FV.b false)).asI ∧ (fv.getD ((0 : Nat) + (↑i : Int).toNat * (3 : Nat) + (1 : Nat)) (FV.b false)).asI ≤ (4 : Int) ∧ (0 : Int) ≤ (fv.getD ((0 : Nat) + (↑i : Int).toNat * (3 : Nat)) (FV.b false)).asI ∧
     (fv.getD ((0 : Nat) + (↑i : Int).toNat * (3 : Nat)) (FV.b false)).asI + (fv.getD ((0 : Nat) + (↑i : Int).toNat * (3 : Nat) + (1 : Nat)) (FV.b false)).asI ≤ (↑len : Int) ∧ (0 : Nat) + len ≤ len ∧ len ≤
     (1000000 : Nat)) then bif decide ((0 : Int) ≤ (↑i : Int)) && decide ((↑i : Int) < (↑q : Int)) then bif ((0 : Nat) + (↑i : Int).toNat * (1 : Nat)).blt n then bif getL (putB bs (fv.getD ((0 : Nat) + (↑i
     : Int).toNat * (3 : Nat)) (FV.b false)).asI.toNat (le (vs.getD ((0 : Nat) + (↑i : Int).toNat * (1 : Nat)) (0 : Int)) (fv.getD ((0 : Nat) + (↑i : Int).toNat * (3 : Nat) + (1 : Nat)) (FV.b
     false)).asI.toNat)) (0 : Nat) (fv.getD ((0 : Nat) + (↑i : Int).toNat * (3 : Nat)) (FV.b false)).asI (szS (fv.getD ((0 : Nat) + (↑i : Int).toNat * (3 : Nat) + (1 : Nat)) (FV.b false)).asI (fv.getD ((0
     : Nat) + (↑i : Int).toNat * (3 : Nat) + (1 : Nat) + (1 : Nat)) (FV.b false)).asB) != vs.getD ((0 : Nat) + (↑i : Int).toNat * (1 : Nat)) (0 : Int) then out Exit.ret [Value.pointer (some (Addr.mk (1 :
     Nat) (0 : Nat) none)), Value.slice none (0 : Nat) (0 : Nat), Value.int IntKind.i64 (2 : Int), Value.slice (some (Addr.mk (2 : Nat) (0 : Nat) none)) len (0 : Nat), Value.slice (some (Addr.mk (3 : Nat)
     (0 : Nat) none)) k (0 : Nat), Value.int IntKind.i64 (↑k : Int), Value.int IntKind.i64 (↑i : Int)] [some (Blk.mk false (1 : Nat) [Seg.ints IntKind.i64 n vs]), some (Blk.mk true (3 : Nat) [Seg.ints
     IntKind.u8 (2 : Nat) [x, y], Seg.vals [Value.slice (some (Addr.mk (0 : Nat) (0 : Nat) none)) q c]]), some (Blk.mk true (1 : Nat) [Seg.ints IntKind.u8 len (putB bs (fv.getD ((0 : Nat) + (↑i :
     Int).toNat * (3 : Nat)) (FV.b false)).asI.toNat (le (vs.getD ((0 : Nat) + (↑i : Int).toNat * (1 : Nat)) (0 : Int)) (fv.getD ((0 : Nat) + (↑i : Int).toNat * (3 : Nat) + (1 : Nat)) (FV.b
     false)).asI.toNat))]), some (Blk.mk true (3 : Nat) [Seg.any ((3 : Nat) * k) fv])] else none else none else none else none else none else none else none else none else none else none else none else
     none else none else none else none) (by kernel_rfl) (by simp only [-eq_self, Int.toNat_natCast, Nat.zero_add, Nat.mul_one]; exact (go_t (dec_t h1) (go_t (and_t (dec_t h2) (dec_t h1)) (go_t (blt_t h3) (go_t h4 (go_t (blt_t h5) (go_t h6 (go_t (blt_t h7) (go_t h8 (go_t (and_t (dec_t h2) (dec_t h9)) (go_t (blt_t h10) (go_t (chk_t h11) (go_t (chk_t h12) (go_t (and_t (dec_t h2) (dec_t h9)) (go_t (blt_t h10) (go_t (bne_t h13) rfl))))))))))))))))
--CFEND
--CP pPyUX (x y : Int) (n q c len i k : Nat) (vs bs : List Int) (fv : List FV) (on : List Value → Heap → Out) (out : Exit → List Value → Heap → Out) :: roundK Try.prog (SPayU.on [(37, false)]) noL Try.f18.ntmps 1 (loopOf Try.f18 0) livePayU (stPayU 0 len k i) (hpPayU x y n q c len k vs bs fv) on out
theorem pPyUX (x y : Int) (n q c len i k : Nat) (vs bs : List Int) (fv : List FV) (on : List Value → Heap → Out) (out : Exit → List Value → Heap → Out)
    (h1 : ¬(↑i : Int) < (↑k : Int) := by first | omega | assumption | rfl) : roundK Try.prog (SPayU.on [(37, false)]) noL Try.f18.ntmps 1 (loopOf Try.f18 0) livePayU (stPayU 0 len k i) (hpPayU x y n q c len k vs bs fv) on out =
     (out (Exit.exit (1 : Nat)) [Value.pointer (some (Addr.mk (1 : Nat) (0 : Nat) none)), Value.slice none (0 : Nat) (0 : Nat), Value.int IntKind.i64 (0 : Int), Value.slice (some (Addr.mk (2 : Nat) (0 :
     Nat) none)) len (0 : Nat), Value.slice (some (Addr.mk (3 : Nat) (0 : Nat) none)) k (0 : Nat), Value.int IntKind.i64 (↑k : Int), Value.int IntKind.i64 (↑i : Int)] [some (Blk.mk false (1 : Nat)
     [Seg.ints IntKind.i64 n vs]), some (Blk.mk true (3 : Nat) [Seg.ints IntKind.u8 (2 : Nat) [x, y], Seg.vals [Value.slice (some (Addr.mk (0 : Nat) (0 : Nat) none)) q c]]), some (Blk.mk true (1 : Nat)
     [Seg.ints IntKind.u8 len bs]), some (Blk.mk true (3 : Nat) [Seg.any ((3 : Nat) * k) fv])]) :=
  Eq.trans (by kernel_rfl) (go_f (dec_f h1) rfl)
--CFEND
end Go.Proofs.Ytcjjngdkkihgjaa.VC

/- ubx: Payload's loop. -/
namespace Go.Proofs.Ytcjjngdkkihgjaa.VC
open Go Go.Proofs

theorem payL_len {bs fl vs : List Int} {len : Nat} (hb : bs.length = len) : ∀ k, fldsOK len fl k → (payL bs fl vs k).length = len
  | 0, _ => hb
  | k + 1, hf => by
    have ih := payL_len (vs := vs) hb k fun i hi => hf i (by omega)
    obtain ⟨f1, f2, f3, f4, f5⟩ := hf k (by omega)
    have := manyI_rng ⟨f1, f2⟩
    rw [payL, putB_len, ih]
    rw [le_len, ih]; omega
theorem roundPyU {x y : Int} {n q c len i k : Nat} {vs bs fl : List Int} (hi : i < k) (hk : k ≤ 100) (hq : k ≤ q) (hn : q = n) (hl : fl.length = 2 * k) (hf : fldsOK len fl k) (hlen : len ≤ 1000000) (hb : bs.length = len) (hfit : fitI (vs.getD i 0) (fl.getD (i * 2 + 1) 0)) (on : List Value → Heap → Out) (out : Exit → List Value → Heap → Out) :
    roundK Try.prog (SPayU.on [(37, true), (57, false)]) noL Try.f18.ntmps 1 (loopOf Try.f18 0) livePayU (stPayU 0 len k i) (hpPayU x y n q c len k vs (payL bs fl vs i) (fvU fl)) on out =
     on (stPayU 0 len k ((i + 1 : Nat) : Int)) (hpPayU x y n q c len k vs (payL bs fl vs (i + 1)) (fvU fl)) := by
  obtain ⟨e1, e2, e3⟩ := fvU_get (.b false) fl i (by omega)
  obtain ⟨f1, f2, f3, f4, f5⟩ := hf i hi
  have hm := manyI_rng ⟨f1, f2⟩
  have hm1 : 1 ≤ manyI (fl.getD (i * 2 + 1) 0) := by unfold manyI; split <;> omega
  have hpl := payL_len (vs := vs) hb i fun j hj => hf j (by omega)
  have key := @pPyUR x y n q c len i k vs (payL bs fl vs i) (fvU fl) on out
  rw [e1, e2, e3] at key
  refine (key (by omega) (by omega) (by omega) (by omega) rfl (by omega) rfl (by omega) rfl (by omega) (by omega) ⟨rfl, hm.1, hm.2, f4, f5, hlen⟩ ⟨hm1, hm.2, f4, f5, by omega, hlen⟩ ?_).trans ?_
  · show getL (putB _ _ (le _ (manyI _).toNat)) 0 _ (szS (manyI _) (decide _)) = _
    rw [szS_many]
    exact (fitL_iff (a := fl.getD (i * 2) 0) ⟨f1, f2⟩ f3 (by omega)).2 hfit
  · rfl
theorem roundPyUN {x y : Int} {n q c len i k : Nat} {vs bs fl : List Int} (hi : i < k) (_hk : k ≤ 100) (hq : k ≤ q) (hn : q = n) (hl : fl.length = 2 * k) (hf : fldsOK len fl k) (hlen : len ≤ 1000000) (hb : bs.length = len) (hfit : ¬ fitI (vs.getD i 0) (fl.getD (i * 2 + 1) 0)) (on : List Value → Heap → Out) (out : Exit → List Value → Heap → Out) :
    roundK Try.prog (SPayU.on [(37, true), (57, true)]) noL Try.f18.ntmps 1 (loopOf Try.f18 0) livePayU (stPayU 0 len k i) (hpPayU x y n q c len k vs (payL bs fl vs i) (fvU fl)) on out =
     out .ret (stPayU 2 len k i) (hpPayU x y n q c len k vs (payL bs fl vs (i + 1)) (fvU fl)) := by
  obtain ⟨e1, e2, e3⟩ := fvU_get (.b false) fl i (by omega)
  obtain ⟨f1, f2, f3, f4, f5⟩ := hf i hi
  have hm := manyI_rng ⟨f1, f2⟩
  have hm1 : 1 ≤ manyI (fl.getD (i * 2 + 1) 0) := by unfold manyI; split <;> omega
  have hpl := payL_len (vs := vs) hb i fun j hj => hf j (by omega)
  have key := @pPyUN x y n q c len i k vs (payL bs fl vs i) (fvU fl) on out
  rw [e1, e2, e3] at key
  refine (key (by omega) (by omega) (by omega) rfl (by omega) rfl (by omega) rfl (by omega) (by omega) ⟨rfl, hm.1, hm.2, f4, f5, hlen⟩ ⟨hm1, hm.2, f4, f5, by omega, hlen⟩ ?_).trans ?_
  · show getL (putB _ _ (le _ (manyI _).toNat)) 0 _ (szS (manyI _) (decide _)) ≠ _
    rw [szS_many]
    exact fun h => hfit ((fitL_iff (a := fl.getD (i * 2) 0) ⟨f1, f2⟩ f3 (by omega)).1 h)
  · rfl
end Go.Proofs.Ytcjjngdkkihgjaa.VC

/- sirf: put: closed forms, and what it is. -/
import Derived.Test.YticdglfbgocgmaaM12
namespace Go.Proofs.Yticdglfbgocgmaa.VC
open Go Go.Proofs

/-- Some cells written over. -/
def putB (xs : List Int) (a : Nat) (l : List Int) : List Int := xs.take a ++ (l ++ xs.drop (a + l.length))
/-- Does a value fit into a field. -/
def fitI (v s : Int) : Prop := if s < 0 then -(pw256 (manyI s) / 2) ≤ v ∧ v < pw256 (manyI s) / 2 else 0 ≤ v ∧ v < pw256 (manyI s)
instance (v s : Int) : Decidable (fitI v s) := by unfold fitI; infer_instance
noncomputable def SPutS : Spec := mkS [(100, false, FManyS), (66, false, FGetS)]
def livePutS : List Nat := [1, 2, 3, 6, 9, 10]
--CP pPutS (a s v m : Int) (n c i : Nat) (xs : List Int) (on : List Value → Heap → Out) (out : Exit → List Value → Heap → Out) :: roundK Try.prog (SPutS.on [(11, true)]) noL Try.f68.ntmps 1 (loopOf Try.f68 0) livePutS [sl 0 n c, w63 v, pt 1, .bool false, w63 m, w63 i] [oU n xs, oF 2 [a, s]] on out
theorem pPutS (a s v m : Int) (n c i : Nat) (xs : List Int) (on : List Value → Heap → Out) (out : Exit → List Value → Heap → Out)
    (w1 : -9223372036854775808 ≤ manyI s - (1 : Int) ∧ manyI s - (1 : Int) ≤ 9223372036854775807 := by omega)
    (w2 : -9223372036854775808 ≤ manyI s - (1 : Int) - (↑i : Int) ∧ manyI s - (1 : Int) - (↑i : Int) ≤ 9223372036854775807 := by omega)
    (w3 : -9223372036854775808 ≤ (8 : Int) * (manyI s - (1 : Int) - (↑i : Int)) ∧ (8 : Int) * (manyI s - (1 : Int) - (↑i : Int)) ≤ 9223372036854775807 := by omega)
    (w4 : -9223372036854775808 ≤ a + (↑i : Int) ∧ a + (↑i : Int) ≤ 9223372036854775807 := by omega)
    (w5 : -9223372036854775808 ≤ (↑i : Int) + (1 : Int) ∧ (↑i : Int) + (1 : Int) ≤ 9223372036854775807 := by omega)
    (h1 : (↑i : Int) < m := by first | omega | assumption | rfl)
    (h2 : (-8 : Int) ≤ s ∧ s ≤ (8 : Int) := by first | omega | assumption | rfl | ((repeat' with_reducible apply And.intro) <;> first | rfl | assumption | omega))
    (h3 : ¬(8 : Int) * (manyI s - (1 : Int) - (↑i : Int)) < (0 : Int) := by first | omega | assumption | rfl)
    (h4 : (0 : Int) ≤ a + (↑i : Int) := by first | omega | assumption | rfl)
    (h5 : a + (↑i : Int) < (↑n : Int) := by first | omega | assumption | rfl)
    (h6 : (a + (↑i : Int)).toNat < n := by first | omega | assumption | rfl) : roundK Try.prog (SPutS.on [(11, true)]) noL Try.f68.ntmps 1 (loopOf Try.f68 0) livePutS [sl 0 n c, w63 v, pt 1, .bool false, w63 m, w63 i] [oU n xs, oF 2 [a, s]] on out =
     (on [Value.slice (some (Addr.mk (0 : Nat) (0 : Nat) none)) n c, Value.int IntKind.i64 v, Value.pointer (some (Addr.mk (1 : Nat) (0 : Nat) none)), Value.bool false, Value.int IntKind.i64 m, Value.int
     IntKind.i64 ((↑i : Int) + (1 : Int))] [some (Blk.mk true (1 : Nat) [Seg.ints IntKind.u8 n (xs.set (a + (↑i : Int)).toNat (IntKind.u8.wrap (v.fdiv ((2 : Int) ^ min ((8 : Int) * (manyI s - (1 : Int) -
     (↑i : Int))).toNat (64 : Nat)))))]), some (Blk.mk true (2 : Nat) [Seg.ints IntKind.i64 (2 : Nat) [a, s]])]) :=
  Eq.trans (b :=
     bif decide ((↑i : Int) < m) then bif chk ((-8 : Int) ≤ s ∧ s ≤ (8 : Int)) then bif decide (IntKind.i64.wrap ((8 : Int) * IntKind.i64.wrap (IntKind.i64.wrap (manyI s - (1 : Int)) - (↑i : Int))) < (0 :
     Int)) then none else bif decide ((0 : Int) ≤ IntKind.i64.wrap (a + (↑i : Int))) && decide (IntKind.i64.wrap (a + (↑i : Int)) < (↑n : Int)) then bif ((0 : Nat) + (IntKind.i64.wrap (a + (↑i :
     Int))).toNat * (1 : Nat)).blt n then on [Value.slice (some (Addr.mk (0 : Nat) (0 : Nat) none)) n c, Value.int IntKind.i64 v, Value.pointer (some (Addr.mk (1 : Nat) (0 : Nat) none)), Value.bool false,
     Value.int IntKind.i64 m, Value.int IntKind.i64 (IntKind.i64.wrap ((↑i : Int) + (1 : Int)))] [some (Blk.mk true (1 : Nat) [Seg.ints IntKind.u8 n (xs.set ((0 : Nat) + (IntKind.i64.wrap (a + (↑i :
     Int))).toNat * (1 : Nat)) (IntKind.u8.wrap (v.fdiv ((2 : Int) ^ min (IntKind.i64.wrap ((8 : Int) * IntKind.i64.wrap (IntKind.i64.wrap (manyI s - (1 : Int)) - (↑i : Int)))).toNat (64 : Nat)))))]), some
     (Blk.mk true (2 : Nat) [Seg.ints IntKind.i64 (2 : Nat) [a, s]])] else none else none else none else none) (by kernel_rfl) (by simp only [-eq_self, Nat.mul_one, Nat.zero_add, swrap w1.1 w1.2, swrap w2.1 w2.2, swrap w3.1 w3.2, swrap w4.1 w4.2, swrap w5.1 w5.2]; exact (go_t (dec_t h1) (go_t (chk_t h2) (go_f (dec_f h3) (go_t (and_t (dec_t h4) (dec_t h5)) (go_t (blt_t h6) rfl))))))
--CFEND
--CP pPutSX (a s v m i : Int) (n c : Nat) (xs : List Int) (on : List Value → Heap → Out) (out : Exit → List Value → Heap → Out) :: roundK Try.prog (SPutS.on [(11, false)]) noL Try.f68.ntmps 1 (loopOf Try.f68 0) livePutS [sl 0 n c, w63 v, pt 1, .bool false, w63 m, w63 i] [oU n xs, oF 2 [a, s]] on out
theorem pPutSX (a s v m i : Int) (n c : Nat) (xs : List Int) (on : List Value → Heap → Out) (out : Exit → List Value → Heap → Out)
    (h1 : ¬i < m := by first | omega | assumption | rfl) : roundK Try.prog (SPutS.on [(11, false)]) noL Try.f68.ntmps 1 (loopOf Try.f68 0) livePutS [sl 0 n c, w63 v, pt 1, .bool false, w63 m, w63 i] [oU n xs, oF 2 [a, s]] on out =
     (out (Exit.exit (0 : Nat)) [Value.slice (some (Addr.mk (0 : Nat) (0 : Nat) none)) n c, Value.int IntKind.i64 v, Value.pointer (some (Addr.mk (1 : Nat) (0 : Nat) none)), Value.bool false, Value.int
     IntKind.i64 m, Value.int IntKind.i64 i] [some (Blk.mk true (1 : Nat) [Seg.ints IntKind.u8 n xs]), some (Blk.mk true (2 : Nat) [Seg.ints IntKind.i64 (2 : Nat) [a, s]])]) :=
  Eq.trans (by kernel_rfl) (go_f (dec_f h1) rfl)
--CFEND
noncomputable def LPutSf : LF := fun vs h k => match vs, h with
  | [.slice (some ⟨0, 0, none⟩) n' c, .int .i64 v, .pointer (some ⟨1, 0, none⟩), .bool false, .int .i64 m, .int .i64 0], [some ⟨true, 1, [.ints .u8 n xs]⟩, some ⟨true, 2, [.ints .i64 2 [a, s]]⟩] =>
    bif chk (n' = n ∧ m = manyI s ∧ -4 ≤ s ∧ s ≤ 4 ∧ 0 ≤ a ∧ a + manyI s ≤ n ∧ n ≤ 1000000) then k (.exit 0) [sl 0 n c, w63 v, pt 1, .bool false, w63 m, w63 m] [oU n (putB xs a.toNat (be v (manyI s).toNat)), oF 2 [a, s]] else none
  | _, _ => none
noncomputable def LPutS : LSpec := oneL 2 livePutS LPutSf
--CP pPutSF (a s v : Int) (n c : Nat) (xs : List Int) :: fnK Try.prog SPutS LPutS Try.f68 [.agg #[w63 a, w63 s], sl 0 n c, w63 v] [oU n xs]
theorem pPutSF (a s v : Int) (n c : Nat) (xs : List Int)
    (h1 : (-8 : Int) ≤ s ∧ s ≤ (8 : Int) := by first | omega | assumption | rfl | ((repeat' with_reducible apply And.intro) <;> first | rfl | assumption | omega))
    (h2 : n = n ∧ manyI s = manyI s ∧ (-4 : Int) ≤ s ∧ s ≤ (4 : Int) ∧ (0 : Int) ≤ a ∧ a + manyI s ≤ (↑n : Int) ∧ n ≤ (1000000 : Nat) := by first | omega | assumption | rfl | ((repeat' with_reducible apply And.intro) <;> first | rfl | assumption | omega))
    (h3 : (-4 : Int) ≤ s ∧ s ≤ (4 : Int) ∧ s ≠ (0 : Int) ∧ (0 : Int) ≤ a ∧ a + manyI s ≤ (↑n : Int) ∧ n ≤ n ∧ n ≤ (1000000 : Nat) := by first | omega | assumption | rfl | ((repeat' with_reducible apply And.intro) <;> first | rfl | assumption | omega)) : fnK Try.prog SPutS LPutS Try.f68 [.agg #[w63 a, w63 s], sl 0 n c, w63 v] [oU n xs] =
     (some (Res.ret (Value.bool (getV (putB xs a.toNat (be v (manyI s).toNat)) (0 : Nat) a s == v)) [some (Blk.mk true (1 : Nat) [Seg.ints IntKind.u8 n (putB xs a.toNat (be v (manyI s).toNat))])])) :=
  Eq.trans (b :=
     bif chk ((-8 : Int) ≤ s ∧ s ≤ (8 : Int)) then bif chk (n = n ∧ manyI s = manyI s ∧ (-4 : Int) ≤ s ∧ s ≤ (4 : Int) ∧ (0 : Int) ≤ a ∧ a + manyI s ≤ (↑n : Int) ∧ n ≤ (1000000 : Nat)) then bif chk ((-4 :
     Int) ≤ s ∧ s ≤ (4 : Int) ∧ s ≠ (0 : Int) ∧ (0 : Int) ≤ a ∧ a + manyI s ≤ (↑n : Int) ∧ (0 : Nat) + n ≤ n ∧ n ≤ (1000000 : Nat)) then some (Res.ret (Value.bool (getV (putB xs a.toNat (be v (manyI
     s).toNat)) (0 : Nat) a s == v)) [some (Blk.mk true (1 : Nat) [Seg.ints IntKind.u8 n (putB xs a.toNat (be v (manyI s).toNat))])]) else none else none else none) (by kernel_rfl) (by simp only [-eq_self, Nat.zero_add]; exact (go_t (chk_t h1) (go_t (chk_t h2) (go_t (chk_t h3) rfl))))
--CFEND
end Go.Proofs.Yticdglfbgocgmaa.VC

/- sirf: Decode: closed forms. -/
import Derived.Test.YticdglfbgocgmaaM2
namespace Go.Proofs.Yticdglfbgocgmaa.VC
open Go Go.Proofs

/-- What SiRF's kinds hold: how long, and the fields' places and sizes. -/
def layS : Int → Option (Nat × List Int)
  | 2 => some (41, [1,-4,5,-4,9,-4,13,-2,15,-2,17,-2,19,1,20,1,21,1,22,2,24,4,28,1])
  | 4 => some (188, [1,-2,3,4,7,1])
  | 7 => some (20, [1,2,3,4,7,1,8,4,12,4,16,4])
  | 41 => some (91, [1,2,3,2,5,2,7,4,11,2,13,1,14,1,15,1,16,1,17,2])
  | 52 => some (19, [1,1,2,1,3,1,4,1,5,1,6,2,8,-2,10,4,14,1])
  | 11 => some (2, [1,1])
  | 12 => some (2, [1,1])
  | 166 => some (8, [1,1,2,1,3,1])
  | _ => none
/-- What a spec says of the layouts. -/
def FLayS : FSpec := fun args h k => match args, h with
  | [], [] => k (.map (some 0)) [some ⟨true, 0, [.mp [(u8v 2, .agg #[w63 41, sl 1 12 0]), (u8v 4, .agg #[w63 188, sl 2 3 0]), (u8v 7, .agg #[w63 20, sl 3 6 0]), (u8v 41, .agg #[w63 91, sl 4 10 0]), (u8v 52, .agg #[w63 19, sl 5 9 0]), (u8v 11, .agg #[w63 2, sl 6 1 0]), (u8v 12, .agg #[w63 2, sl 7 1 0]), (u8v 166, .agg #[w63 8, sl 8 3 0])]]⟩, oF 24 [1,-4,5,-4,9,-4,13,-2,15,-2,17,-2,19,1,20,1,21,1,22,2,24,4,28,1], oF 6 [1,-2,3,4,7,1], oF 12 [1,2,3,4,7,1,8,4,12,4,16,4], oF 20 [1,2,3,2,5,2,7,4,11,2,13,1,14,1,15,1,16,1,17,2], oF 18 [1,1,2,1,3,1,4,1,5,1,6,2,8,-2,10,4,14,1], oF 2 [1,1], oF 2 [1,1], oF 6 [1,1,2,1,3,1]]
  | _, _ => none
noncomputable def SDecS : Spec := mkS [(66, false, FGetS), (65, false, FLayS)]
abbrev uS (x : Int) (v : Value) : Option Blk := some ⟨true, 2, [.ints .u8 1 [x], .vals [v]]⟩
def liveDecS : List Nat := [0, 2, 3, 36, 37, 38]
--CP pDecR (x : Int) (o n c i k N : Nat) (xs vs fl : List Int) (on : List Value → Heap → Out) (out : Exit → List Value → Heap → Out) :: roundK Try.prog (SDecS.on [(39, true)]) noL Try.f24.ntmps 1 (loopOf Try.f24 0) liveDecS [slo 0 o n c, pt 1, w63 0, sl 3 k 0, w63 k, w63 i] [rU N xs, uS x (sl 2 i 1), oI i vs, oF (2 * k) fl] on out
theorem pDecR (x : Int) (o n c i k N : Nat) (xs vs fl : List Int) (on : List Value → Heap → Out) (out : Exit → List Value → Heap → Out)
    (w1 : -9223372036854775808 ≤ (↑i : Int) + (1 : Int) ∧ (↑i : Int) + (1 : Int) ≤ 9223372036854775807 := by omega)
    (h1 : (↑i : Int) < (↑k : Int) := by first | omega | assumption | rfl)
    (h2 : (0 : Int) ≤ (↑i : Int) := by first | omega | assumption | rfl)
    (h3 : i * (2 : Nat) < (2 : Nat) * k := by first | omega | assumption | rfl)
    (h4 : i * (2 : Nat) + (1 : Nat) < (2 : Nat) * k := by first | omega | assumption | rfl)
    (h5 : (-4 : Int) ≤ fl.getD (i * (2 : Nat) + (1 : Nat)) (0 : Int) ∧ fl.getD (i * (2 : Nat) + (1 : Nat)) (0 : Int) ≤ (4 : Int) ∧ fl.getD (i * (2 : Nat) + (1 : Nat)) (0 : Int) ≠ (0 : Int) ∧ (0 : Int) ≤ fl.getD (i * (2 : Nat)) (0 : Int) ∧ fl.getD (i * (2 : Nat)) (0 : Int) + manyI (fl.getD (i * (2 : Nat) + (1 : Nat)) (0 : Int)) ≤ (↑n : Int) ∧ o + n ≤ N ∧ N ≤ (1000000 : Nat) := by first | omega | assumption | rfl | ((repeat' with_reducible apply And.intro) <;> first | rfl | assumption | omega))
    (h6 : i ≤ i := by first | omega | assumption | rfl)
    (h7 : (i + (1 : Nat)) * (8 : Nat) ≤ (140737488355328 : Nat) := by first | omega | assumption | rfl)
    (h8 : i + (1 : Nat) ≤ (4611686018427387904 : Nat) := by first | omega | assumption | rfl)
    (h9 : i = i := by first | omega | assumption | rfl) : roundK Try.prog (SDecS.on [(39, true)]) noL Try.f24.ntmps 1 (loopOf Try.f24 0) liveDecS [slo 0 o n c, pt 1, w63 0, sl 3 k 0, w63 k, w63 i] [rU N xs, uS x (sl 2 i 1), oI i vs, oF (2 * k) fl] on out =
     (on [Value.slice (some (Addr.mk (0 : Nat) o none)) n c, Value.pointer (some (Addr.mk (1 : Nat) (0 : Nat) none)), Value.int IntKind.i64 (0 : Int), Value.slice (some (Addr.mk (3 : Nat) (0 : Nat) none))
     k (0 : Nat), Value.int IntKind.i64 (↑k : Int), Value.int IntKind.i64 ((↑i : Int) + (1 : Int))] [some (Blk.mk false (1 : Nat) [Seg.ints IntKind.u8 N xs]), some (Blk.mk true (2 : Nat) [Seg.ints
     IntKind.u8 (1 : Nat) [x], Seg.vals [Value.slice (some (Addr.mk (2 : Nat) (0 : Nat) none)) (i + (1 : Nat)) (1 : Nat)]]), some (Blk.mk true (1 : Nat) [Seg.ints IntKind.i64 (i + (1 : Nat)) (List.take i
     vs ++ [getV xs o (fl.getD (i * (2 : Nat)) (0 : Int)) (fl.getD (i * (2 : Nat) + (1 : Nat)) (0 : Int))])]), some (Blk.mk true (2 : Nat) [Seg.ints IntKind.i64 ((2 : Nat) * k) fl])]) :=
  Eq.trans (b :=
     bif decide ((↑i : Int) < (↑k : Int)) then bif decide ((0 : Int) ≤ (↑i : Int)) && decide ((↑i : Int) < (↑k : Int)) then bif ((0 : Nat) + (↑i : Int).toNat * (2 : Nat)).blt ((2 : Nat) * k) then bif ((0 :
     Nat) + (↑i : Int).toNat * (2 : Nat) + (1 : Nat)).blt ((2 : Nat) * k) then bif chk ((-4 : Int) ≤ fl.getD ((0 : Nat) + (↑i : Int).toNat * (2 : Nat) + (1 : Nat)) (0 : Int) ∧ fl.getD ((0 : Nat) + (↑i :
     Int).toNat * (2 : Nat) + (1 : Nat)) (0 : Int) ≤ (4 : Int) ∧ fl.getD ((0 : Nat) + (↑i : Int).toNat * (2 : Nat) + (1 : Nat)) (0 : Int) ≠ (0 : Int) ∧ (0 : Int) ≤ fl.getD ((0 : Nat) + (↑i : Int).toNat *
     (2 : Nat)) (0 : Int) ∧ fl.getD ((0 : Nat) + (↑i : Int).toNat * (2 : Nat)) (0 : Int) + manyI (fl.getD ((0 : Nat) + (↑i : Int).toNat * (2 : Nat) + (1 : Nat)) (0 : Int)) ≤ (↑n : Int) ∧ o + n ≤ N ∧ N ≤
     (1000000 : Nat)) then bif (i * (1 : Nat)).ble i then bif decide ((i + (1 : Nat)) * (8 : Nat) ≤ (140737488355328 : Nat)) && (i + (1 : Nat)).ble (OfNat.ofNat (4611686018427387904 : Nat)) then bif ((0 :
     Nat) + i * (1 : Nat)).beq i && true then on [Value.slice (some (Addr.mk (0 : Nat) o none)) n c, Value.pointer (some (Addr.mk (1 : Nat) (0 : Nat) none)), Value.int IntKind.i64 (0 : Int), Value.slice
     (some (Addr.mk (3 : Nat) (0 : Nat) none)) k (0 : Nat), Value.int IntKind.i64 (↑k : Int), Value.int IntKind.i64 (IntKind.i64.wrap ((↑i : Int) + (1 : Int)))] [some (Blk.mk false (1 : Nat) [Seg.ints
     IntKind.u8 N xs]), some (Blk.mk true (2 : Nat) [Seg.ints IntKind.u8 (1 : Nat) [x], Seg.vals [Value.slice (some (Addr.mk (2 : Nat) (0 : Nat) none)) (i + (1 : Nat)) (1 : Nat)]]), some (Blk.mk true (1 :
     Nat) [Seg.ints IntKind.i64 (i * (1 : Nat) + (1 : Nat)) (List.take (i * (1 : Nat)) vs ++ [getV xs o (fl.getD ((0 : Nat) + (↑i : Int).toNat * (2 : Nat)) (0 : Int)) (fl.getD ((0 : Nat) + (↑i : Int).toNat
     * (2 : Nat) + (1 : Nat)) (0 : Int))])]), some (Blk.mk true (2 : Nat) [Seg.ints IntKind.i64 ((2 : Nat) * k) fl])] else none else none else none else none else none else none else none else none) (by kernel_rfl) (by simp only [-eq_self, Int.toNat_natCast, Nat.zero_add, Nat.mul_one, swrap w1.1 w1.2]; exact (go_t (dec_t h1) (go_t (and_t (dec_t h2) (dec_t h1)) (go_t (blt_t h3) (go_t (blt_t h4) (go_t (chk_t h5) (go_t (ble_t h6) (go_t (and_t (dec_t h7) (ble_t h8)) (go_t (and_t (beq_t h9) rfl) rfl)))))))))
--CFEND
--CP pDecR0 (x : Int) (o n c k N : Nat) (xs fl : List Int) (on : List Value → Heap → Out) (out : Exit → List Value → Heap → Out) :: roundK Try.prog (SDecS.on [(39, true)]) noL Try.f24.ntmps 1 (loopOf Try.f24 0) liveDecS [slo 0 o n c, pt 1, w63 0, sl 2 k 0, w63 k, w63 0] [rU N xs, uS x (.slice none 0 0), oF (2 * k) fl] on out
theorem pDecR0 (x : Int) (o n c k N : Nat) (xs fl : List Int) (on : List Value → Heap → Out) (out : Exit → List Value → Heap → Out)
    (h1 : (0 : Int) < (↑k : Int) := by first | omega | assumption | rfl)
    (h2 : (0 : Nat) < (2 : Nat) * k := by first | omega | assumption | rfl)
    (h3 : (1 : Nat) < (2 : Nat) * k := by first | omega | assumption | rfl)
    (h4 : (-4 : Int) ≤ fl.getD (1 : Nat) (0 : Int) ∧ fl.getD (1 : Nat) (0 : Int) ≤ (4 : Int) ∧ fl.getD (1 : Nat) (0 : Int) ≠ (0 : Int) ∧ (0 : Int) ≤ fl.getD (0 : Nat) (0 : Int) ∧ fl.getD (0 : Nat) (0 : Int) + manyI (fl.getD (1 : Nat) (0 : Int)) ≤ (↑n : Int) ∧ o + n ≤ N ∧ N ≤ (1000000 : Nat) := by first | omega | assumption | rfl | ((repeat' with_reducible apply And.intro) <;> first | rfl | assumption | omega)) : roundK Try.prog (SDecS.on [(39, true)]) noL Try.f24.ntmps 1 (loopOf Try.f24 0) liveDecS [slo 0 o n c, pt 1, w63 0, sl 2 k 0, w63 k, w63 0] [rU N xs, uS x (.slice none 0 0), oF (2 * k) fl] on out =
     (on [Value.slice (some (Addr.mk (0 : Nat) o none)) n c, Value.pointer (some (Addr.mk (1 : Nat) (0 : Nat) none)), Value.int IntKind.i64 (0 : Int), Value.slice (some (Addr.mk (3 : Nat) (0 : Nat) none))
     k (0 : Nat), Value.int IntKind.i64 (↑k : Int), Value.int IntKind.i64 (1 : Int)] [some (Blk.mk false (1 : Nat) [Seg.ints IntKind.u8 N xs]), some (Blk.mk true (2 : Nat) [Seg.ints IntKind.u8 (1 : Nat)
     [x], Seg.vals [Value.slice (some (Addr.mk (2 : Nat) (0 : Nat) none)) (1 : Nat) (1 : Nat)]]), some (Blk.mk true (1 : Nat) [Seg.ints IntKind.i64 (1 : Nat) [getV xs o (fl.getD (0 : Nat) (0 : Int))
     (fl.getD (1 : Nat) (0 : Int))]]), some (Blk.mk true (2 : Nat) [Seg.ints IntKind.i64 ((2 : Nat) * k) fl])]) :=
  Eq.trans (by kernel_rfl) (go_t (dec_t h1) (go_t (dec_t h1) (go_t (blt_t h2) (go_t (blt_t h3) (go_t (chk_t h4) rfl)))))
--CFEND
--CP pDecX (x : Int) (o n c i k N : Nat) (xs vs fl : List Int) (on : List Value → Heap → Out) (out : Exit → List Value → Heap → Out) :: roundK Try.prog (SDecS.on [(39, false)]) noL Try.f24.ntmps 1 (loopOf Try.f24 0) liveDecS [slo 0 o n c, pt 1, w63 0, sl 3 k 0, w63 k, w63 i] [rU N xs, uS x (sl 2 i 1), oI i vs, oF (2 * k) fl] on out
theorem pDecX (x : Int) (o n c i k N : Nat) (xs vs fl : List Int) (on : List Value → Heap → Out) (out : Exit → List Value → Heap → Out)
    (h1 : ¬(↑i : Int) < (↑k : Int) := by first | omega | assumption | rfl) : roundK Try.prog (SDecS.on [(39, false)]) noL Try.f24.ntmps 1 (loopOf Try.f24 0) liveDecS [slo 0 o n c, pt 1, w63 0, sl 3 k 0, w63 k, w63 i] [rU N xs, uS x (sl 2 i 1), oI i vs, oF (2 * k) fl] on out =
     (out (Exit.exit (1 : Nat)) [Value.slice (some (Addr.mk (0 : Nat) o none)) n c, Value.pointer (some (Addr.mk (1 : Nat) (0 : Nat) none)), Value.int IntKind.i64 (0 : Int), Value.slice (some (Addr.mk (3 :
     Nat) (0 : Nat) none)) k (0 : Nat), Value.int IntKind.i64 (↑k : Int), Value.int IntKind.i64 (↑i : Int)] [some (Blk.mk false (1 : Nat) [Seg.ints IntKind.u8 N xs]), some (Blk.mk true (2 : Nat) [Seg.ints
     IntKind.u8 (1 : Nat) [x], Seg.vals [Value.slice (some (Addr.mk (2 : Nat) (0 : Nat) none)) i (1 : Nat)]]), some (Blk.mk true (1 : Nat) [Seg.ints IntKind.i64 i vs]), some (Blk.mk true (2 : Nat)
     [Seg.ints IntKind.i64 ((2 : Nat) * k) fl])]) :=
  Eq.trans (by kernel_rfl) (go_f (dec_f h1) rfl)
--CFEND
/-- The values of a layout's fields. -/
def decV (xs : List Int) (o : Nat) (fl : List Int) : Nat → List Int
  | 0 => []
  | k + 1 => decV xs o fl k ++ [getV xs o (fl.getD (k * 2) 0) (fl.getD (k * 2 + 1) 0)]
/-- Fields that lie within so many bytes. -/
def fldsOK (n : Nat) (fl : List Int) (k : Nat) : Prop := ∀ i, i < k → -4 ≤ fl.getD (i * 2 + 1) 0 ∧ fl.getD (i * 2 + 1) 0 ≤ 4 ∧ fl.getD (i * 2 + 1) 0 ≠ 0 ∧ 0 ≤ fl.getD (i * 2) 0 ∧ fl.getD (i * 2) 0 + manyI (fl.getD (i * 2 + 1) 0) ≤ n
noncomputable def LDecSf : LF := fun vs h k => match vs, h with
  | [.slice (some ⟨0, o, none⟩) n c, .pointer (some ⟨1, 0, none⟩), .int .i64 0, .slice (some ⟨2, 0, none⟩) q 0, .int .i64 q', .int .i64 0], [some ⟨false, 1, [.ints .u8 N xs]⟩, some ⟨true, 2, [.ints .u8 1 [x], .vals [.slice none 0 0]]⟩, some ⟨true, 2, [.ints .i64 _ fl]⟩] =>
    bif chk (q'.toNat = q ∧ 0 < q ∧ q ≤ 100 ∧ fl.length = 2 * q ∧ fldsOK n fl q ∧ o + n ≤ N ∧ N ≤ 1000000) then
      k (.exit 1) [slo 0 o n c, pt 1, w63 0, sl 3 q 0, w63 q, w63 q] [rU N xs, uS x (sl 2 q 1), oI q (decV xs o fl q), oF (2 * q) fl] else none
  | _, _ => none
noncomputable def LDecS : LSpec := oneL 10 liveDecS LDecSf
--CP pDecS0 (o c N : Nat) (xs : List Int) :: fnK Try.prog (SDecS.on [(10, true)]) LDecS Try.f24 [slo 0 o 0 c] [rU N xs]
theorem pDecS0 (o c N : Nat) (xs : List Int) : fnK Try.prog (SDecS.on [(10, true)]) LDecS Try.f24 [slo 0 o 0 c] [rU N xs] =
     (some (Res.ret (Value.tuple (Array.mk [Value.agg (Array.mk [Value.int IntKind.u8 (0 : Int), Value.slice none (0 : Nat) (0 : Nat)]), Value.int IntKind.i64 (4 : Int)])) [some (Blk.mk false (1 : Nat)
     [Seg.ints IntKind.u8 N xs])])) :=
  Eq.trans (by kernel_rfl) rfl
--CFEND
--CF cfDecSN (o n c N : Nat) (xs : List Int) :: fnK Try.prog (SDecS.on [(10, false), (20, true)]) LDecS Try.f24 [slo 0 o n c] [rU N xs]
theorem cfDecSN (o n c N : Nat) (xs : List Int) : fnK Try.prog (SDecS.on [(10, false), (20, true)]) LDecS Try.f24 [slo 0 o n c] [rU N xs] =
     (bif (↑n : Int) == 0 then none else bif decide (0 < (↑n : Int)) then bif o.blt N then bif xs.getD o 0 == 2 then none else bif xs.getD o 0 == 4 then none else bif xs.getD o 0 == 7 then none else bif
     xs.getD o 0 == 41 then none else bif xs.getD o 0 == 52 then none else bif xs.getD o 0 == 11 then none else bif xs.getD o 0 == 12 then none else bif xs.getD o 0 == 166 then none else some (Res.ret
     (Value.tuple (Array.mk [Value.agg (Array.mk [Value.int IntKind.u8 0, Value.slice none 0 0]), Value.int IntKind.i64 7])) [some (Blk.mk false 1 [Seg.ints IntKind.u8 N xs])]) else none else none) := by kernel_rfl
--CFEND
--CF cfDecSF (o n c N : Nat) (xs : List Int) :: fnK Try.prog (SDecS.on [(10, false), (20, false), (24, true)]) LDecS Try.f24 [slo 0 o n c] [rU N xs]
theorem cfDecSF (o n c N : Nat) (xs : List Int) : fnK Try.prog (SDecS.on [(10, false), (20, false), (24, true)]) LDecS Try.f24 [slo 0 o n c] [rU N xs] =
     (bif (↑n : Int) == 0 then none else bif decide (0 < (↑n : Int)) then bif o.blt N then bif xs.getD o 0 == 2 then bif (↑n : Int) != 41 then some (Res.ret (Value.tuple (Array.mk [Value.agg (Array.mk
     [Value.int IntKind.u8 0, Value.slice none 0 0]), Value.int IntKind.i64 5])) [some (Blk.mk false 1 [Seg.ints IntKind.u8 N xs])]) else none else bif xs.getD o 0 == 4 then bif (↑n : Int) != 188 then some
     (Res.ret (Value.tuple (Array.mk [Value.agg (Array.mk [Value.int IntKind.u8 0, Value.slice none 0 0]), Value.int IntKind.i64 5])) [some (Blk.mk false 1 [Seg.ints IntKind.u8 N xs])]) else none else bif
     xs.getD o 0 == 7 then bif (↑n : Int) != 20 then some (Res.ret (Value.tuple (Array.mk [Value.agg (Array.mk [Value.int IntKind.u8 0, Value.slice none 0 0]), Value.int IntKind.i64 5])) [some (Blk.mk
     false 1 [Seg.ints IntKind.u8 N xs])]) else none else bif xs.getD o 0 == 41 then bif (↑n : Int) != 91 then some (Res.ret (Value.tuple (Array.mk [Value.agg (Array.mk [Value.int IntKind.u8 0, Value.slice
     none 0 0]), Value.int IntKind.i64 5])) [some (Blk.mk false 1 [Seg.ints IntKind.u8 N xs])]) else none else bif xs.getD o 0 == 52 then bif (↑n : Int) != 19 then some (Res.ret (Value.tuple (Array.mk
     [Value.agg (Array.mk [Value.int IntKind.u8 0, Value.slice none 0 0]), Value.int IntKind.i64 5])) [some (Blk.mk false 1 [Seg.ints IntKind.u8 N xs])]) else none else bif xs.getD o 0 == 11 then bif (↑n :
     Int) != 2 then some (Res.ret (Value.tuple (Array.mk [Value.agg (Array.mk [Value.int IntKind.u8 0, Value.slice none 0 0]), Value.int IntKind.i64 5])) [some (Blk.mk false 1 [Seg.ints IntKind.u8 N xs])])
     else none else bif xs.getD o 0 == 12 then bif (↑n : Int) != 2 then some (Res.ret (Value.tuple (Array.mk [Value.agg (Array.mk [Value.int IntKind.u8 0, Value.slice none 0 0]), Value.int IntKind.i64 5]))
     [some (Blk.mk false 1 [Seg.ints IntKind.u8 N xs])]) else none else bif xs.getD o 0 == 166 then bif (↑n : Int) != 8 then some (Res.ret (Value.tuple (Array.mk [Value.agg (Array.mk [Value.int IntKind.u8
     0, Value.slice none 0 0]), Value.int IntKind.i64 5])) [some (Blk.mk false 1 [Seg.ints IntKind.u8 N xs])]) else none else none else none else none) := by kernel_rfl
--CFEND
--CF cfDecSK (o n c N : Nat) (xs : List Int) :: fnK Try.prog (SDecS.on [(10, false), (20, false), (24, false)]) LDecS Try.f24 [slo 0 o n c] [rU N xs]
theorem cfDecSK (o n c N : Nat) (xs : List Int) : fnK Try.prog (SDecS.on [(10, false), (20, false), (24, false)]) LDecS Try.f24 [slo 0 o n c] [rU N xs] =
     (bif (↑n : Int) == 0 then none else bif decide (0 < (↑n : Int)) then bif o.blt N then bif xs.getD o 0 == 2 then bif (↑n : Int) != 41 then none else bif decide (0 < (↑n : Int)) then bif o.blt N then
     bif chk (12 = 12 ∧ 0 < 12 ∧ 12 ≤ 100 ∧ 24 = 24 ∧ fldsOK n [1, -4, 5, -4, 9, -4, 13, -2, 15, -2, 17, -2, 19, 1, 20, 1, 21, 1, 22, 2, 24, 4, 28, 1] 12 ∧ o + n ≤ N ∧ N ≤ 1000000) then some (Res.ret
     (Value.tuple (Array.mk [Value.agg (Array.mk [Value.int IntKind.u8 (xs.getD o 0), Value.slice (some (Addr.mk 1 0 none)) 12 1]), Value.int IntKind.i64 0])) [some (Blk.mk false 1 [Seg.ints IntKind.u8 N
     xs]), some (Blk.mk true 1 [Seg.ints IntKind.i64 12 [getV xs o 1 (-4), getV xs o 5 (-4), getV xs o 9 (-4), getV xs o 13 (-2), getV xs o 15 (-2), getV xs o 17 (-2), getV xs o 19 1, getV xs o 20 1, getV
     xs o 21 1, getV xs o 22 2, getV xs o 24 4, getV xs o 28 1]])]) else none else none else none else bif xs.getD o 0 == 4 then bif (↑n : Int) != 188 then none else bif decide (0 < (↑n : Int)) then bif
     o.blt N then bif chk (3 = 3 ∧ 0 < 3 ∧ 3 ≤ 100 ∧ 6 = 6 ∧ fldsOK n [1, -2, 3, 4, 7, 1] 3 ∧ o + n ≤ N ∧ N ≤ 1000000) then some (Res.ret (Value.tuple (Array.mk [Value.agg (Array.mk [Value.int IntKind.u8
     (xs.getD o 0), Value.slice (some (Addr.mk 1 0 none)) 3 1]), Value.int IntKind.i64 0])) [some (Blk.mk false 1 [Seg.ints IntKind.u8 N xs]), some (Blk.mk true 1 [Seg.ints IntKind.i64 3 [getV xs o 1 (-2),
     getV xs o 3 4, getV xs o 7 1]])]) else none else none else none else bif xs.getD o 0 == 7 then bif (↑n : Int) != 20 then none else bif decide (0 < (↑n : Int)) then bif o.blt N then bif chk (6 = 6 ∧ 0
     < 6 ∧ 6 ≤ 100 ∧ 12 = 12 ∧ fldsOK n [1, 2, 3, 4, 7, 1, 8, 4, 12, 4, 16, 4] 6 ∧ o + n ≤ N ∧ N ≤ 1000000) then some (Res.ret (Value.tuple (Array.mk [Value.agg (Array.mk [Value.int IntKind.u8 (xs.getD o
     0), Value.slice (some (Addr.mk 1 0 none)) 6 1]), Value.int IntKind.i64 0])) [some (Blk.mk false 1 [Seg.ints IntKind.u8 N xs]), some (Blk.mk true 1 [Seg.ints IntKind.i64 6 [getV xs o 1 2, getV xs o 3
     4, getV xs o 7 1, getV xs o 8 4, getV xs o 12 4, getV xs o 16 4]])]) else none else none else none else bif xs.getD o 0 == 41 then bif (↑n : Int) != 91 then none else bif decide (0 < (↑n : Int)) then
     bif o.blt N then bif chk (10 = 10 ∧ 0 < 10 ∧ 10 ≤ 100 ∧ 20 = 20 ∧ fldsOK n [1, 2, 3, 2, 5, 2, 7, 4, 11, 2, 13, 1, 14, 1, 15, 1, 16, 1, 17, 2] 10 ∧ o + n ≤ N ∧ N ≤ 1000000) then some (Res.ret
     (Value.tuple (Array.mk [Value.agg (Array.mk [Value.int IntKind.u8 (xs.getD o 0), Value.slice (some (Addr.mk 1 0 none)) 10 1]), Value.int IntKind.i64 0])) [some (Blk.mk false 1 [Seg.ints IntKind.u8 N
     xs]), some (Blk.mk true 1 [Seg.ints IntKind.i64 10 [getV xs o 1 2, getV xs o 3 2, getV xs o 5 2, getV xs o 7 4, getV xs o 11 2, getV xs o 13 1, getV xs o 14 1, getV xs o 15 1, getV xs o 16 1, getV xs
     o 17 2]])]) else none else none else none else bif xs.getD o 0 == 52 then bif (↑n : Int) != 19 then none else bif decide (0 < (↑n : Int)) then bif o.blt N then bif chk (9 = 9 ∧ 0 < 9 ∧ 9 ≤ 100 ∧ 18 =
     18 ∧ fldsOK n [1, 1, 2, 1, 3, 1, 4, 1, 5, 1, 6, 2, 8, -2, 10, 4, 14, 1] 9 ∧ o + n ≤ N ∧ N ≤ 1000000) then some (Res.ret (Value.tuple (Array.mk [Value.agg (Array.mk [Value.int IntKind.u8 (xs.getD o 0),
     Value.slice (some (Addr.mk 1 0 none)) 9 1]), Value.int IntKind.i64 0])) [some (Blk.mk false 1 [Seg.ints IntKind.u8 N xs]), some (Blk.mk true 1 [Seg.ints IntKind.i64 9 [getV xs o 1 1, getV xs o 2 1,
     getV xs o 3 1, getV xs o 4 1, getV xs o 5 1, getV xs o 6 2, getV xs o 8 (-2), getV xs o 10 4, getV xs o 14 1]])]) else none else none else none else bif xs.getD o 0 == 11 then bif (↑n : Int) != 2 then
     none else bif decide (0 < (↑n : Int)) then bif o.blt N then bif chk (1 = 1 ∧ 0 < 1 ∧ 1 ≤ 100 ∧ 2 = 2 ∧ fldsOK n [1, 1] 1 ∧ o + n ≤ N ∧ N ≤ 1000000) then some (Res.ret (Value.tuple (Array.mk [Value.agg
     (Array.mk [Value.int IntKind.u8 (xs.getD o 0), Value.slice (some (Addr.mk 1 0 none)) 1 1]), Value.int IntKind.i64 0])) [some (Blk.mk false 1 [Seg.ints IntKind.u8 N xs]), some (Blk.mk true 1 [Seg.ints
     IntKind.i64 1 [getV xs o 1 1]])]) else none else none else none else bif xs.getD o 0 == 12 then bif (↑n : Int) != 2 then none else bif decide (0 < (↑n : Int)) then bif o.blt N then bif chk (1 = 1 ∧ 0
     < 1 ∧ 1 ≤ 100 ∧ 2 = 2 ∧ fldsOK n [1, 1] 1 ∧ o + n ≤ N ∧ N ≤ 1000000) then some (Res.ret (Value.tuple (Array.mk [Value.agg (Array.mk [Value.int IntKind.u8 (xs.getD o 0), Value.slice (some (Addr.mk 1 0
     none)) 1 1]), Value.int IntKind.i64 0])) [some (Blk.mk false 1 [Seg.ints IntKind.u8 N xs]), some (Blk.mk true 1 [Seg.ints IntKind.i64 1 [getV xs o 1 1]])]) else none else none else none else bif
     xs.getD o 0 == 166 then bif (↑n : Int) != 8 then none else bif decide (0 < (↑n : Int)) then bif o.blt N then bif chk (3 = 3 ∧ 0 < 3 ∧ 3 ≤ 100 ∧ 6 = 6 ∧ fldsOK n [1, 1, 2, 1, 3, 1] 3 ∧ o + n ≤ N ∧ N ≤
     1000000) then some (Res.ret (Value.tuple (Array.mk [Value.agg (Array.mk [Value.int IntKind.u8 (xs.getD o 0), Value.slice (some (Addr.mk 1 0 none)) 3 1]), Value.int IntKind.i64 0])) [some (Blk.mk false
     1 [Seg.ints IntKind.u8 N xs]), some (Blk.mk true 1 [Seg.ints IntKind.i64 3 [getV xs o 1 1, getV xs o 2 1, getV xs o 3 1]])]) else none else none else none else none else none else none) := by kernel_rfl
--CFEND
end Go.Proofs.Yticdglfbgocgmaa.VC

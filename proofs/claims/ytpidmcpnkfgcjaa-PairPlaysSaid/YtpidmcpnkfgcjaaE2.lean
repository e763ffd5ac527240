/- edge: All, Same, Count: closed forms. -/
import Derived.Test.YtpidmcpnkfgcjaaE1
namespace Go.Proofs.Ytpidmcpnkfgcjaa.VC
open Go Go.Proofs

abbrev rI (n : Nat) (xs : List Int) : Option Blk := some ⟨false, 1, [.ints .i64 n xs]⟩
abbrev oI (n : Nat) (xs : List Int) : Option Blk := some ⟨true, 1, [.ints .i64 n xs]⟩
abbrev nilSl : Value := .slice none 0 0
def live15 : List Nat := [0, 2, 3]
--CF cf15r (xs l : List Int) (n : Nat) (i : Nat) (on : List Value → Heap → Out) (out : Exit → List Value → Heap → Out) :: roundK Try.prog (mkS []) noL Try.f15.ntmps 1 (loopOf Try.f15 0) live15 [pt 0, sl 1 n 1, w63 i] [eB false xs, oI n l] on out
theorem cf15r (xs l : List Int) (n : Nat) (i : Nat) (on : List Value → Heap → Out) (out : Exit → List Value → Heap → Out) : roundK Try.prog (mkS []) noL Try.f15.ntmps 1 (loopOf Try.f15 0) live15 [pt 0, sl 1 n 1, w63 i] [eB false xs, oI n l] on out =
     (bif decide ((↑i : Int) < xs.getD 8 0) then bif decide (0 ≤ (↑i : Int).tmod 8) && decide ((↑i : Int).tmod 8 < 8) then bif (0 + ((↑i : Int).tmod 8).toNat * 1).blt 9 then bif (n * 1).ble n then bif
     decide ((n + 1) * 8 ≤ 140737488355328) && (n + 1).ble (OfNat.ofNat 4611686018427387904) then bif (0 + n * 1).beq n && true then on [Value.pointer (some (Addr.mk 0 0 none)), Value.slice (some (Addr.mk
     1 0 none)) (n + 1) 1, Value.int IntKind.i64 (IntKind.i64.wrap ((↑i : Int) + 1))] [some (Blk.mk false 9 [Seg.ints IntKind.i64 9 xs]), some (Blk.mk true 1 [Seg.ints IntKind.i64 (n * 1 + 1) (List.take (n
     * 1) l ++ [xs.getD (0 + ((↑i : Int).tmod 8).toNat * 1) 0])])] else none else none else none else none else none else out (Exit.exit 0) [Value.pointer (some (Addr.mk 0 0 none)), Value.slice (some
     (Addr.mk 1 0 none)) n 1, Value.int IntKind.i64 (↑i : Int)] [some (Blk.mk false 9 [Seg.ints IntKind.i64 9 xs]), some (Blk.mk true 1 [Seg.ints IntKind.i64 n l])]) := by kernel_rfl
--CFEND
/-- The edges kept. -/
def allX (xs : List Int) : List Int := (List.range' ((xs.getD 8 0).toNat - 8) (min (xs.getD 8 0).toNat 8)).map fun i => xs.getD (i % 8) 0
noncomputable def L15f : LF := fun vs h k => match vs, h with
  | [.pointer (some ⟨0, 0, none⟩), .slice none 0 0, .int .i64 i], [some ⟨false, 9, [.ints .i64 9 xs]⟩] =>
    bif chk (0 ≤ xs.getD 8 0 ∧ xs.getD 8 0 ≤ 1000 ∧ i = ((xs.getD 8 0).toNat - 8 : Nat)) then k (.exit 0) [pt 0, sl 1 (allX xs).length 1, w63 (xs.getD 8 0)] [eB false xs, oI (allX xs).length (allX xs)] else none
  | _, _ => none
noncomputable def L15 : LSpec := oneL 4 live15 L15f
--CF cf15 (xs : List Int) :: fnK Try.prog (mkS []) L15 Try.f15 [pt 0] [eB false xs]
theorem cf15 (xs : List Int) : fnK Try.prog (mkS []) L15 Try.f15 [pt 0] [eB false xs] =
     (bif chk (0 ≤ xs.getD 8 0 ∧ xs.getD 8 0 ≤ 1000 ∧ (if IntKind.i64.wrap (xs.getD 8 0 - 8) > 0 then IntKind.i64.wrap (xs.getD 8 0 - 8) else 0) = (↑((xs.getD 8 0).toNat - 8) : Int)) then some (Res.ret
     (Value.slice (some (Addr.mk 1 0 none)) (allX xs).length 1) [some (Blk.mk false 9 [Seg.ints IntKind.i64 9 xs]), some (Blk.mk true 1 [Seg.ints IntKind.i64 (allX xs).length (allX xs)])]) else none) := by kernel_rfl
--CFEND
def live17 : List Nat := [4, 0, 1, 5]
--CF cf17r (n m i p q N M c d : Nat) (xs ys : List Int) (on : List Value → Heap → Out) (out : Exit → List Value → Heap → Out) :: roundK Try.prog (mkS []) noL Try.f17.ntmps 2 (loopOf Try.f17 0) live17 [.bool false, .slice (some ⟨0, p, none⟩) n c, .slice (some ⟨1, q, none⟩) m d, w63 i] [rI N xs, rI M ys] on out
theorem cf17r (n m i p q N M c d : Nat) (xs ys : List Int) (on : List Value → Heap → Out) (out : Exit → List Value → Heap → Out) : roundK Try.prog (mkS []) noL Try.f17.ntmps 2 (loopOf Try.f17 0) live17 [.bool false, .slice (some ⟨0, p, none⟩) n c, .slice (some ⟨1, q, none⟩) m d, w63 i] [rI N xs, rI M ys] on out =
     (bif decide ((↑i : Int) < (↑n : Int)) then bif decide (0 ≤ (↑i : Int)) && decide ((↑i : Int) < (↑n : Int)) then bif (p + (↑i : Int).toNat * 1).blt N then bif decide (0 ≤ (↑i : Int)) && decide ((↑i :
     Int) < (↑m : Int)) then bif (q + (↑i : Int).toNat * 1).blt M then bif xs.getD (p + (↑i : Int).toNat * 1) 0 != ys.getD (q + (↑i : Int).toNat * 1) 0 then out Exit.ret [Value.bool false, Value.slice
     (some (Addr.mk 0 p none)) n c, Value.slice (some (Addr.mk 1 q none)) m d, Value.int IntKind.i64 (↑i : Int)] [some (Blk.mk false 1 [Seg.ints IntKind.i64 N xs]), some (Blk.mk false 1 [Seg.ints
     IntKind.i64 M ys])] else on [Value.bool false, Value.slice (some (Addr.mk 0 p none)) n c, Value.slice (some (Addr.mk 1 q none)) m d, Value.int IntKind.i64 (IntKind.i64.wrap ((↑i : Int) + 1))] [some
     (Blk.mk false 1 [Seg.ints IntKind.i64 N xs]), some (Blk.mk false 1 [Seg.ints IntKind.i64 M ys])] else none else none else none else none else out (Exit.exit 0) [Value.bool false, Value.slice (some
     (Addr.mk 0 p none)) n c, Value.slice (some (Addr.mk 1 q none)) m d, Value.int IntKind.i64 (↑i : Int)] [some (Blk.mk false 1 [Seg.ints IntKind.i64 N xs]), some (Blk.mk false 1 [Seg.ints IntKind.i64 M
     ys])]) := by kernel_rfl
--CFEND
/-- Two rows side by side: are they alike, and where does it end? -/
def run17 (xs : List Int) (p : Nat) (ys : List Int) (q : Nat) : Nat → Nat → Bool × Nat
  | 0, i => (true, i)
  | r + 1, i => bif xs.getD (p + i) 0 != ys.getD (q + i) 0 then (false, i) else run17 xs p ys q r (i + 1)
noncomputable def L17f : LF := fun vs h k => match vs, h with
  | [.bool false, .slice (some ⟨0, p, none⟩) n c, .slice (some ⟨1, q, none⟩) m d, .int .i64 0], [some ⟨false, 1, [.ints .i64 N xs]⟩, some ⟨false, 1, [.ints .i64 M ys]⟩] =>
    bif chk (p + n ≤ N ∧ q + m ≤ M ∧ n ≤ 1000 ∧ n = m) then
      (bif (run17 xs p ys q n 0).1 then k (.exit 0) [.bool false, .slice (some ⟨0, p, none⟩) n c, .slice (some ⟨1, q, none⟩) m d, w63 (run17 xs p ys q n 0).2] [rI N xs, rI M ys]
      else k .ret [.bool false, .slice (some ⟨0, p, none⟩) n c, .slice (some ⟨1, q, none⟩) m d, w63 (run17 xs p ys q n 0).2] [rI N xs, rI M ys]) else none
  | _, _ => none
noncomputable def L17 : LSpec := oneL 4 live17 L17f
--CF cf17 (n m p q N M c d : Nat) (xs ys : List Int) :: fnK Try.prog (mkS []) L17 Try.f17 [.slice (some ⟨0, p, none⟩) n c, .slice (some ⟨1, q, none⟩) m d] [rI N xs, rI M ys]
theorem cf17 (n m p q N M c d : Nat) (xs ys : List Int) : fnK Try.prog (mkS []) L17 Try.f17 [.slice (some ⟨0, p, none⟩) n c, .slice (some ⟨1, q, none⟩) m d] [rI N xs, rI M ys] =
     (bif (↑n : Int) != (↑m : Int) then some (Res.ret (Value.bool false) [some (Blk.mk false 1 [Seg.ints IntKind.i64 N xs]), some (Blk.mk false 1 [Seg.ints IntKind.i64 M ys])]) else bif chk (p + n ≤ N ∧ q
     + m ≤ M ∧ n ≤ 1000 ∧ n = m) then bif (run17 xs p ys q n 0).fst then some (Res.ret (Value.bool true) [some (Blk.mk false 1 [Seg.ints IntKind.i64 N xs]), some (Blk.mk false 1 [Seg.ints IntKind.i64 M
     ys])]) else some (Res.ret (Value.bool false) [some (Blk.mk false 1 [Seg.ints IntKind.i64 N xs]), some (Blk.mk false 1 [Seg.ints IntKind.i64 M ys])]) else none) := by kernel_rfl
--CFEND
theorem loop15 {xs : List Int} (hn : 0 ≤ xs.getD 8 0 ∧ xs.getD 8 0 ≤ 1000) {k : Exit → List Value → Heap → Out} : ∀ (r i : Nat) (l : List Int), (i : Int) + r = xs.getD 8 0 → l.length + r ≤ 2000 →
    loopN Try.prog (mkS []) noL Try.f15.ntmps 1 (loopOf Try.f15 0) live15 (r + 1) [pt 0, sl 1 l.length 1, w63 i] [eB false xs, oI l.length l] k =
    k (.exit 0) [pt 0, sl 1 (l ++ (List.range' i r).map fun j => xs.getD (j % 8) 0).length 1, w63 (xs.getD 8 0)] [eB false xs, oI (l ++ (List.range' i r).map fun j => xs.getD (j % 8) 0).length (l ++ (List.range' i r).map fun j => xs.getD (j % 8) 0)] := by
  intro r
  induction r with
  | zero =>
    intro i l hi _
    refine (loopN_succ ..).trans ((cf15r ..).trans ?_)
    rw [dec_f (show ¬ (i : Int) < xs.getD 8 0 by omega), condF]
    have : (i : Int) = xs.getD 8 0 := by omega
    rw [this, List.range'_zero, List.map_nil, List.append_nil]
  | succ r ih =>
    intro i l hi hl
    refine (loopN_succ ..).trans ((cf15r ..).trans ?_)
    have e0 : (i : Int).tmod 8 = (i : Int) % 8 := Int.tmod_eq_emod_of_nonneg (by omega)
    have e1 : ((i : Int) % 8).toNat = i % 8 := by omega
    rw [dec_t (show (i : Int) < xs.getD 8 0 by omega), condT, e0, dec_t (show (0 : Int) ≤ (i : Int) % 8 by omega), dec_t (show (i : Int) % 8 < 8 by omega), Bool.and_self, condT, e1, Nat.mul_one, Nat.zero_add, blt_t (show i % 8 < 9 by omega), condT, Nat.mul_one,
      show l.length.ble l.length = true from Nat.ble_eq_true_of_le (Nat.le_refl _), condT, dec_t (show (l.length + 1) * 8 ≤ 140737488355328 by omega), Bool.true_and, show (l.length + 1).ble (OfNat.ofNat 4611686018427387904) = true from Nat.ble_eq_true_of_le (by show l.length + 1 ≤ 4611686018427387904; omega), condT, Nat.zero_add, beq_t rfl, Bool.true_and, condT, List.take_of_length_le (Nat.le_refl _), snat i (by omega)]
    have q := ih (i + 1) (l ++ [xs.getD (i % 8) 0]) (by omega) (by rw [List.length_append, List.length_singleton]; omega)
    rw [show (l ++ [xs.getD (i % 8) 0]).length = l.length + 1 by simp] at q
    rw [List.range'_succ, List.map_cons, List.append_cons l (xs.getD (i % 8) 0) (List.map (fun j => xs.getD (j % 8) 0) (List.range' (i + 1) r))]
    exact q
theorem loop17 {n p q N M c d : Nat} {xs ys : List Int} (h1 : p + n ≤ N) (h2 : q + n ≤ M) (h3 : n ≤ 1000) {k : Exit → List Value → Heap → Out} : ∀ (r i : Nat), i + r = n →
    loopN Try.prog (mkS []) noL Try.f17.ntmps 2 (loopOf Try.f17 0) live17 (r + 1) [.bool false, .slice (some ⟨0, p, none⟩) n c, .slice (some ⟨1, q, none⟩) n d, w63 i] [rI N xs, rI M ys] k =
    k (bif (run17 xs p ys q r i).1 then .exit 0 else .ret) [.bool false, .slice (some ⟨0, p, none⟩) n c, .slice (some ⟨1, q, none⟩) n d, w63 (run17 xs p ys q r i).2] [rI N xs, rI M ys] := by
  intro r
  induction r with
  | zero =>
    intro i hi
    refine (loopN_succ ..).trans ((cf17r ..).trans ?_)
    rw [dec_f (show ¬ (i : Int) < n by omega), condF]
    rfl
  | succ r ih =>
    intro i hi
    refine (loopN_succ ..).trans ((cf17r ..).trans ?_)
    rw [dec_t (show (i : Int) < n by omega), condT, dec_t (show (0 : Int) ≤ i by omega), Bool.and_self, condT, Int.toNat_natCast, Nat.mul_one, blt_t (show p + i < N by omega), condT, blt_t (show q + i < M by omega), condT, snat i (by omega)]
    unfold run17
    cases hb : (xs.getD (p + i) 0 != ys.getD (q + i) 0) with
    | true => rw [condT, condT]; rfl
    | false => rw [condF, condF, condT]; exact ih (i + 1) (by omega)
end Go.Proofs.Ytpidmcpnkfgcjaa.VC

/- EdgePlays: the law: closed forms. -/
import Derived.Test.YtpidmcpnkfgcjaaE6
import Derived.Test.YtpidmcpnkfgcjaaE4
import Derived.Test.YtpidmcpnkfgcjaaPX
namespace Go.Proofs.Ytpidmcpnkfgcjaa.VC
open Go Go.Proofs

/-- Add, told without a fork. -/
noncomputable def F13m : FSpec := fun args h k => match args, h with
  | [.pointer (some ⟨0, 0, none⟩), .int .i64 c], [some ⟨true, 9, [.ints .i64 9 xs]⟩] =>
    bif chk (0 ≤ xs.getD 8 0 ∧ xs.getD 8 0 ≤ 1000) then k (w63 (bif lowB xs c then 2 else 0)) [eB true (bif lowB xs c then xs else pushR xs c)] else none
  | _, _ => none
theorem ok13m : EntryOK Try.prog 13 F13m := ok13.mono fun args h k out hk => by
  unfold F13m at hk
  split at hk
  · rename_i c xs
    obtain ⟨hb, hk⟩ := bif_t hk
    refine (chk_if (chk_iff.1 hb) ?_ : F13 [.pointer (some ⟨0, 0, none⟩), .int .i64 c] [some ⟨true, 9, [.ints .i64 9 xs]⟩] k = some out)
    cases hl : lowB xs c with
    | true => rw [hl] at hk; exact hk
    | false => rw [hl] at hk; exact hk
  · cases hk
noncomputable def F16a : FSpec := fun args h k => match args, h with
  | [.pointer (some ⟨0, 0, none⟩)], [some ⟨false, 9, [.ints .i64 9 xs]⟩] =>
    bif chk (1 ≤ xs.getD 8 0 ∧ xs.getD 8 0 ≤ 1000) then k (pr2 (xs.getD ((xs.getD 8 0 - 1) % 8).toNat 0) true) [eB false xs] else none
  | _, _ => none
theorem ok16a : EntryOK Try.prog 16 F16a := ok16.mono fun args h k out hk => by
  unfold F16a at hk
  split at hk
  · rename_i xs
    obtain ⟨hb, hk⟩ := bif_t hk
    have h1 := chk_iff.1 hb
    show (bif xs.getD 8 0 == 0 then _ else _) = _
    rw [eqb_f (by omega), condF]
    exact chk_if h1 hk
  · cases hk
noncomputable def F16n : FSpec := fun args h k => match args, h with
  | [.pointer (some ⟨0, 0, none⟩)], [some ⟨false, 9, [.ints .i64 9 xs]⟩] => bif chk (xs.getD 8 0 = 0) then k (pr2 0 false) [eB false xs] else none
  | _, _ => none
theorem ok16n : EntryOK Try.prog 16 F16n := ok16.mono fun args h k out hk => by
  unfold F16n at hk
  split at hk
  · rename_i xs
    obtain ⟨hb, hk⟩ := bif_t hk
    have h1 := chk_iff.1 hb
    show (bif xs.getD 8 0 == 0 then _ else _) = _
    rw [eqb_t h1, condT]
    exact hk
  · cases hk
noncomputable def S3a : Spec := mkS [(10, false, F10), (11, false, F11), (12, false, F12), (13, true, F13m), (14, true, F14a), (15, false, F15), (16, false, F16a), (17, false, F17), (18, false, F18), (19, false, F19)]
noncomputable def S3r : Spec := mkS [(10, false, F10), (11, false, F11), (12, false, F12), (13, true, F13m), (14, true, F14r), (15, false, F15), (16, false, F16a), (17, false, F17), (18, false, F18), (19, false, F19)]
noncomputable def S3e : Spec := mkS [(10, false, F10), (11, false, F11), (12, false, F12), (13, true, F13m), (14, true, F14r), (15, false, F15), (16, false, F16n), (17, false, F17), (18, false, F18), (19, false, F19)]
/-- The inner loop. -/
noncomputable def inner3 : Code := ((loops (loopOf Try.f3 0))[0]?).getD .skip
def live3i : List Nat := [6, 7, 8, 1, 2, 25, 26, 27, 12, 100, 101]
abbrev gI (n : Nat) (xs : List Int) : Option Blk := some ⟨false, 1, [.ints .i64 n xs]⟩
--CF cf3i (a b : Int) (n i m j o q cp N : Nat) (gs xs l al : List Int) (on : List Value → Heap → Out) (out : Exit → List Value → Heap → Out) :: roundK Try.prog S3a noL Try.f3.ntmps 1 inner3 live3i [.bool false, pt 1, pt 2, w63 a, w63 b, sl 0 n 2, w63 n, w63 i, sl 4 m 1, w63 m, w63 j] [gI n gs, eB true xs, wL (.slice (some ⟨3, o, none⟩) q cp), oI N l, oI m al] on out
theorem cf3i (a b : Int) (n i m j o q cp N : Nat) (gs xs l al : List Int) (on : List Value → Heap → Out) (out : Exit → List Value → Heap → Out) : roundK Try.prog S3a noL Try.f3.ntmps 1 inner3 live3i [.bool false, pt 1, pt 2, w63 a, w63 b, sl 0 n 2, w63 n, w63 i, sl 4 m 1, w63 m, w63 j] [gI n gs, eB true xs, wL (.slice (some ⟨3, o, none⟩) q cp), oI N l, oI m al] on out =
     (bif decide ((↑j : Int) < (↑m : Int)) then bif decide (0 ≤ (↑j : Int)) && decide ((↑j : Int) < (↑m : Int)) then bif (0 + (↑j : Int).toNat * 1).blt m then on [Value.bool false, Value.pointer (some
     (Addr.mk 1 0 none)), Value.pointer (some (Addr.mk 2 0 none)), Value.int IntKind.i64 a, Value.int IntKind.i64 b, Value.slice (some (Addr.mk 0 0 none)) n 2, Value.int IntKind.i64 (↑n : Int), Value.int
     IntKind.i64 (↑i : Int), Value.slice (some (Addr.mk 4 0 none)) m 1, Value.int IntKind.i64 (↑m : Int), Value.int IntKind.i64 (IntKind.i64.wrap ((↑j : Int) + 1))] [some (Blk.mk false 1 [Seg.ints
     IntKind.i64 n gs]), some (Blk.mk true 9 [Seg.ints IntKind.i64 9 xs]), some (Blk.mk true 1 [Seg.vals [Value.slice (some (Addr.mk 3 o none)) q cp]]), some (Blk.mk true 1 [Seg.ints IntKind.i64 N l]),
     some (Blk.mk true 1 [Seg.ints IntKind.i64 m (al.set (0 + (↑j : Int).toNat * 1) (-1))])] else none else none else out (Exit.exit 2) [Value.bool false, Value.pointer (some (Addr.mk 1 0 none)),
     Value.pointer (some (Addr.mk 2 0 none)), Value.int IntKind.i64 a, Value.int IntKind.i64 b, Value.slice (some (Addr.mk 0 0 none)) n 2, Value.int IntKind.i64 (↑n : Int), Value.int IntKind.i64 (↑i :
     Int), Value.slice (some (Addr.mk 4 0 none)) m 1, Value.int IntKind.i64 (↑m : Int), Value.int IntKind.i64 (↑j : Int)] [some (Blk.mk false 1 [Seg.ints IntKind.i64 n gs]), some (Blk.mk true 9 [Seg.ints
     IntKind.i64 9 xs]), some (Blk.mk true 1 [Seg.vals [Value.slice (some (Addr.mk 3 o none)) q cp]]), some (Blk.mk true 1 [Seg.ints IntKind.i64 N l]), some (Blk.mk true 1 [Seg.ints IntKind.i64 m al])]) := by kernel_rfl
--CFEND
/-- What is left of a row that is written over. -/
def fillI : Nat → Nat → List Int → List Int
  | 0, _, al => al
  | r + 1, j, al => fillI r (j + 1) (al.set j (-1))
abbrev st3i (a b : Int) (n i m j : Nat) : List Value := [.bool false, pt 1, pt 2, w63 a, w63 b, sl 0 n 2, w63 n, w63 i, sl 4 m 1, w63 m, w63 j]
theorem loop3i {a b : Int} {n i m o q cp N : Nat} {gs xs l : List Int} (hm : m ≤ 1000) {k : Exit → List Value → Heap → Out} : ∀ (r j : Nat) (al : List Int), j + r = m →
    loopN Try.prog S3a noL Try.f3.ntmps 1 inner3 live3i (r + 1) (st3i a b n i m j) [gI n gs, eB true xs, wL (.slice (some ⟨3, o, none⟩) q cp), oI N l, oI m al] k =
    k (.exit 2) (st3i a b n i m m) [gI n gs, eB true xs, wL (.slice (some ⟨3, o, none⟩) q cp), oI N l, oI m (fillI r j al)] := by
  intro r
  induction r with
  | zero =>
    intro j al hj
    refine (loopN_succ ..).trans ((cf3i ..).trans ?_)
    have : j = m := by omega
    subst this
    rw [dec_f (show ¬ (j : Int) < j by omega), condF]
    rfl
  | succ r ih =>
    intro j al hj
    refine (loopN_succ ..).trans ((cf3i ..).trans ?_)
    rw [dec_t (show (j : Int) < m by omega), condT, dec_t (show (0 : Int) ≤ j by omega), Bool.and_self, condT, Int.toNat_natCast, Nat.mul_one, Nat.zero_add, blt_t (show j < m by omega), condT, snat j (by omega)]
    exact ih (j + 1) (al.set j (-1)) (by omega)
noncomputable def L3if : LF := fun vs h k => match vs, h with
  | [.bool false, .pointer (some ⟨1, 0, none⟩), .pointer (some ⟨2, 0, none⟩), .int .i64 a, .int .i64 b, .slice (some ⟨0, 0, none⟩) n 2, .int .i64 n', .int .i64 i, .slice (some ⟨4, 0, none⟩) m 1, .int .i64 m', .int .i64 0],
    [some ⟨false, 1, [.ints .i64 n2 gs]⟩, some ⟨true, 9, [.ints .i64 9 xs]⟩, some ⟨true, 1, [.vals [.slice (some ⟨3, o, none⟩) q cp]]⟩, some ⟨true, 1, [.ints .i64 N l]⟩, some ⟨true, 1, [.ints .i64 m2 al]⟩] =>
    bif chk (n2 = n ∧ n' = n ∧ 0 ≤ i ∧ m' = m ∧ m2 = m ∧ m ≤ 1000) then
      k (.exit 2) [.bool false, pt 1, pt 2, w63 a, w63 b, sl 0 n 2, w63 n, w63 i, sl 4 m 1, w63 m, w63 m] [gI n gs, eB true xs, wL (.slice (some ⟨3, o, none⟩) q cp), oI N l, oI m (fillI m 0 al)] else none
  | _, _ => none
noncomputable def L3i : LSpec := oneL 19 live3i L3if
def live3 : List Nat := [6, 7, 8, 1, 2, 25, 26, 27]
--CP p3x (a b : Int) (n i o q cp N : Nat) (gs xs l : List Int) (on : List Value → Heap → Out) (out : Exit → List Value → Heap → Out) :: roundK Try.prog (S3a.on [(28, false)]) L3i Try.f3.ntmps 1 (loopOf Try.f3 0) live3 [.bool false, pt 1, pt 2, w63 a, w63 b, sl 0 n 2, w63 n, w63 i] [gI n gs, eB true xs, wL (.slice (some ⟨3, o, none⟩) q cp), oI N l] on out
theorem p3x (a b : Int) (n i o q cp N : Nat) (gs xs l : List Int) (on : List Value → Heap → Out) (out : Exit → List Value → Heap → Out)
    (h1 : ¬(↑i : Int) < (↑n : Int) := by first | omega | assumption | rfl) : roundK Try.prog (S3a.on [(28, false)]) L3i Try.f3.ntmps 1 (loopOf Try.f3 0) live3 [.bool false, pt 1, pt 2, w63 a, w63 b, sl 0 n 2, w63 n, w63 i] [gI n gs, eB true xs, wL (.slice (some ⟨3, o, none⟩) q cp), oI N l] on out =
     (out (Exit.exit (0 : Nat)) [Value.bool false, Value.pointer (some (Addr.mk (1 : Nat) (0 : Nat) none)), Value.pointer (some (Addr.mk (2 : Nat) (0 : Nat) none)), Value.int IntKind.i64 a, Value.int
     IntKind.i64 b, Value.slice (some (Addr.mk (0 : Nat) (0 : Nat) none)) n (2 : Nat), Value.int IntKind.i64 (↑n : Int), Value.int IntKind.i64 (↑i : Int)] [some (Blk.mk false (1 : Nat) [Seg.ints
     IntKind.i64 n gs]), some (Blk.mk true (9 : Nat) [Seg.ints IntKind.i64 (9 : Nat) xs]), some (Blk.mk true (1 : Nat) [Seg.vals [Value.slice (some (Addr.mk (3 : Nat) o none)) q cp]]), some (Blk.mk true (1
     : Nat) [Seg.ints IntKind.i64 N l])]) :=
  Eq.trans (by kernel_rfl) (go_f (dec_f h1) rfl)
--CFEND
--CP p3a (a b : Int) (n i o q cp N : Nat) (gs xs l : List Int) (on : List Value → Heap → Out) (out : Exit → List Value → Heap → Out) :: roundK Try.prog (S3a.on [(28, true), (39, false), (59, false), (69, false), (71, true), (88, false), (98, false)]) L3i Try.f3.ntmps 1 (loopOf Try.f3 0) live3 [.bool false, pt 1, pt 2, w63 a, w63 b, sl 0 n 2, w63 n, w63 i] [gI n gs, eB true xs, wL (.slice (some ⟨3, o, none⟩) q cp), oI N l] on out
theorem p3a (a b : Int) (n i o q cp N : Nat) (gs xs l : List Int) (on : List Value → Heap → Out) (out : Exit → List Value → Heap → Out)
    (w1 : -9223372036854775808 ≤ (↑(lenN q) : Int) - (1 : Int) ∧ (↑(lenN q) : Int) - (1 : Int) ≤ 9223372036854775807 := by omega)
    (w2 : -9223372036854775808 ≤ (↑i : Int) + (1 : Int) ∧ (↑i : Int) + (1 : Int) ≤ 9223372036854775807 := by omega)
    (h1 : (↑i : Int) < (↑n : Int) := by first | omega | assumption | rfl)
    (h2 : (0 : Int) ≤ (↑i : Int) := by first | omega | assumption | rfl)
    (h3 : i < n := by first | omega | assumption | rfl)
    (h4 : (0 : Int) ≤ xs.getD (8 : Nat) (0 : Int) ∧ xs.getD (8 : Nat) (0 : Int) ≤ (1000 : Int) := by first | omega | assumption | rfl)
    (h5 : (bif lowB [xs.getD (0 : Nat) (0 : Int), xs.getD (1 : Nat) (0 : Int), xs.getD (2 : Nat) (0 : Int), xs.getD (3 : Nat) (0 : Int), xs.getD (4 : Nat) (0 : Int), xs.getD (5 : Nat) (0 : Int), xs.getD (6 : Nat) (0 : Int), xs.getD (7 : Nat) (0 : Int), xs.getD (8 : Nat) (0 : Int)] (gs.getD i (0 : Int)) then (2 : Int) else (0 : Int)) = bif lowB xs (gs.getD i (0 : Int)) then (2 : Int) else (0 : Int) := by first | omega | assumption | rfl)
    (h6 : (0 : Int) ≤ (bif lowB [xs.getD (0 : Nat) (0 : Int), xs.getD (1 : Nat) (0 : Int), xs.getD (2 : Nat) (0 : Int), xs.getD (3 : Nat) (0 : Int), xs.getD (4 : Nat) (0 : Int), xs.getD (5 : Nat) (0 : Int), xs.getD (6 : Nat) (0 : Int), xs.getD (7 : Nat) (0 : Int), xs.getD (8 : Nat) (0 : Int)] (gs.getD i (0 : Int)) then [xs.getD (0 : Nat) (0 : Int), xs.getD (1 : Nat) (0 : Int), xs.getD (2 : Nat) (0 : Int), xs.getD (3 : Nat) (0 : Int), xs.getD (4 : Nat) (0 : Int), xs.getD (5 : Nat) (0 : Int), xs.getD (6 : Nat) (0 : Int), xs.getD (7 : Nat) (0 : Int), xs.getD (8 : Nat) (0 : Int)] else pushR [xs.getD (0 : Nat) (0 : Int), xs.getD (1 : Nat) (0 : Int), xs.getD (2 : Nat) (0 : Int), xs.getD (3 : Nat) (0 : Int), xs.getD (4 : Nat) (0 : Int), xs.getD (5 : Nat) (0 : Int), xs.getD (6 : Nat) (0 : Int), xs.getD (7 : Nat) (0 : Int), xs.getD (8 : Nat) (0 : Int)] (gs.getD i (0 : Int))).getD (8 : Nat) (0 : Int) ∧ (bif lowB [xs.getD (0 : Nat) (0 : Int), xs.getD (1 : Nat) (0 : Int), xs.getD (2 : Nat) (0 : Int), xs.getD (3 : Nat) (0 : Int), xs.getD (4 : Nat) (0 : Int), xs.getD (5 : Nat) (0 : Int), xs.getD (6 : Nat) (0 : Int), xs.getD (7 : Nat) (0 : Int), xs.getD (8 : Nat) (0 : Int)] (gs.getD i (0 : Int)) then [xs.getD (0 : Nat) (0 : Int), xs.getD (1 : Nat) (0 : Int), xs.getD (2 : Nat) (0 : Int), xs.getD (3 : Nat) (0 : Int), xs.getD (4 : Nat) (0 : Int), xs.getD (5 : Nat) (0 : Int), xs.getD (6 : Nat) (0 : Int), xs.getD (7 : Nat) (0 : Int), xs.getD (8 : Nat) (0 : Int)] else pushR [xs.getD (0 : Nat) (0 : Int), xs.getD (1 : Nat) (0 : Int), xs.getD (2 : Nat) (0 : Int), xs.getD (3 : Nat) (0 : Int), xs.getD (4 : Nat) (0 : Int), xs.getD (5 : Nat) (0 : Int), xs.getD (6 : Nat) (0 : Int), xs.getD (7 : Nat) (0 : Int), xs.getD (8 : Nat) (0 : Int)] (gs.getD i (0 : Int))).getD (8 : Nat) (0 : Int) ≤ (1000 : Int) := by first | omega | assumption | rfl)
    (h7 : o + q ≤ N ∧ q ≤ (100 : Nat) ∧ (0 : Int) ≤ gs.getD i (0 : Int) ∧ ((0 : Nat) < q → l.getD (o + (q - (1 : Nat))) (0 : Int) ≤ gs.getD i (0 : Int)) := by first | omega | assumption | rfl)
    (h8 : (0 : Int) ≤ (bif lowB xs (gs.getD i (0 : Int)) then xs else pushR xs (gs.getD i (0 : Int))).getD (8 : Nat) (0 : Int) ∧ (bif lowB xs (gs.getD i (0 : Int)) then xs else pushR xs (gs.getD i (0 : Int))).getD (8 : Nat) (0 : Int) ≤ (1000 : Int) := by first | omega | assumption | rfl)
    (h9 : (1 : Int) ≤ (bif lowB xs (gs.getD i (0 : Int)) then xs else pushR xs (gs.getD i (0 : Int))).getD (8 : Nat) (0 : Int) ∧ (bif lowB xs (gs.getD i (0 : Int)) then xs else pushR xs (gs.getD i (0 : Int))).getD (8 : Nat) (0 : Int) ≤ (1000 : Int) := by first | omega | assumption | rfl)
    (h10 : (allX (bif lowB xs (gs.getD i (0 : Int)) then xs else pushR xs (gs.getD i (0 : Int)))).length ≤ (allX (bif lowB xs (gs.getD i (0 : Int)) then xs else pushR xs (gs.getD i (0 : Int)))).length ∧ offN q + lenN q ≤ q + (1 : Nat) ∧ (allX (bif lowB xs (gs.getD i (0 : Int)) then xs else pushR xs (gs.getD i (0 : Int)))).length ≤ (1000 : Nat) := by first | omega | assumption | rfl)
    (h11 : (allX (bif lowB xs (gs.getD i (0 : Int)) then xs else pushR xs (gs.getD i (0 : Int)))).length = lenN q := by first | omega | assumption | rfl)
    (h12 : (run17 (allX (bif lowB xs (gs.getD i (0 : Int)) then xs else pushR xs (gs.getD i (0 : Int)))) (0 : Nat) (curL o q l ++ [gs.getD i (0 : Int)]) (offN q) (allX (bif lowB xs (gs.getD i (0 : Int)) then xs else pushR xs (gs.getD i (0 : Int)))).length (0 : Nat)).fst = true := by first | omega | assumption | rfl)
    (h13 : (true == decide ((↑(lenN q) : Int) > (0 : Int))) = true := by first | omega | assumption | rfl)
    (h14 : (0 : Int) ≤ (↑(lenN q) : Int) - (1 : Int) := by first | omega | assumption | rfl)
    (h15 : (↑(lenN q) : Int) - (1 : Int) < (↑(lenN q) : Int) := by first | omega | assumption | rfl)
    (h16 : offN q + ((↑(lenN q) : Int) - (1 : Int)).toNat < q + (1 : Nat) := by first | omega | assumption | rfl)
    (h17 : (bif lowB xs (gs.getD i (0 : Int)) then xs else pushR xs (gs.getD i (0 : Int))).getD (((bif lowB xs (gs.getD i (0 : Int)) then xs else pushR xs (gs.getD i (0 : Int))).getD (8 : Nat) (0 : Int) - (1 : Int)) % (8 : Int)).toNat (0 : Int) = (curL o q l ++ [gs.getD i (0 : Int)]).getD (offN q + ((↑(lenN q) : Int) - (1 : Int)).toNat) (0 : Int) := by first | omega | assumption | rfl)
    (h18 : offN q + lenN q ≤ q + (1 : Nat) ∧ lenN q ≤ (1000 : Nat) := by first | omega | assumption | rfl)
    (h19 : (↑(cnt (allX (bif lowB xs (gs.getD i (0 : Int)) then xs else pushR xs (gs.getD i (0 : Int)))) a b) : Int) = (↑(cnt (curL (offN q) (lenN q) (curL o q l ++ [gs.getD i (0 : Int)])) a b) : Int) := by first | omega | assumption | rfl)
    (h20 : n = n ∧ (↑n : Int) = (↑n : Int) ∧ (0 : Int) ≤ (↑i : Int) ∧ (↑(allX (bif lowB xs (gs.getD i (0 : Int)) then xs else pushR xs (gs.getD i (0 : Int)))).length : Int) = (↑(allX (bif lowB xs (gs.getD i (0 : Int)) then xs else pushR xs (gs.getD i (0 : Int)))).length : Int) ∧ (allX (bif lowB xs (gs.getD i (0 : Int)) then xs else pushR xs (gs.getD i (0 : Int)))).length = (allX (bif lowB xs (gs.getD i (0 : Int)) then xs else pushR xs (gs.getD i (0 : Int)))).length ∧ (allX (bif lowB xs (gs.getD i (0 : Int)) then xs else pushR xs (gs.getD i (0 : Int)))).length ≤ (1000 : Nat) := by first | omega | assumption | rfl) : roundK Try.prog (S3a.on [(28, true), (39, false), (59, false), (69, false), (71, true), (88, false), (98, false)]) L3i Try.f3.ntmps 1 (loopOf Try.f3 0) live3 [.bool false, pt 1, pt 2, w63 a, w63 b, sl 0 n 2, w63 n, w63 i] [gI n gs, eB true xs, wL (.slice (some ⟨3, o, none⟩) q cp), oI N l] on out =
     (on [Value.bool false, Value.pointer (some (Addr.mk (1 : Nat) (0 : Nat) none)), Value.pointer (some (Addr.mk (2 : Nat) (0 : Nat) none)), Value.int IntKind.i64 a, Value.int IntKind.i64 b, Value.slice
     (some (Addr.mk (0 : Nat) (0 : Nat) none)) n (2 : Nat), Value.int IntKind.i64 (↑n : Int), Value.int IntKind.i64 ((↑i : Int) + (1 : Int))] [some (Blk.mk false (1 : Nat) [Seg.ints IntKind.i64 n gs]),
     some (Blk.mk true (9 : Nat) [Seg.ints IntKind.i64 (9 : Nat) (bif lowB xs (gs.getD i (0 : Int)) then xs else pushR xs (gs.getD i (0 : Int)))]), some (Blk.mk true (1 : Nat) [Seg.vals [Value.slice (some
     (Addr.mk (3 : Nat) (offN q) none)) (lenN q) (1 : Nat)]]), some (Blk.mk true (1 : Nat) [Seg.ints IntKind.i64 (q + (1 : Nat)) (curL o q l ++ [gs.getD i (0 : Int)])])]) :=
  Eq.trans (b :=
     bif decide ((↑i : Int) < (↑n : Int)) then bif decide ((0 : Int) ≤ (↑i : Int)) && decide ((↑i : Int) < (↑n : Int)) then bif ((0 : Nat) + (↑i : Int).toNat * (1 : Nat)).blt n then bif chk ((0 : Int) ≤
     xs.getD (8 : Nat) (0 : Int) ∧ xs.getD (8 : Nat) (0 : Int) ≤ (1000 : Int)) then bif chk ((0 : Int) ≤ xs.getD (8 : Nat) (0 : Int) ∧ xs.getD (8 : Nat) (0 : Int) ≤ (1000 : Int)) then bif (bif lowB
     [xs.getD (0 : Nat) (0 : Int), xs.getD (1 : Nat) (0 : Int), xs.getD (2 : Nat) (0 : Int), xs.getD (3 : Nat) (0 : Int), xs.getD (4 : Nat) (0 : Int), xs.getD (5 : Nat) (0 : Int), xs.getD (6 : Nat) (0 :
     Int), xs.getD (7 : Nat) (0 : Int), xs.getD (8 : Nat) (0 : Int)] (gs.getD ((0 : Nat) + (↑i : Int).toNat * (1 : Nat)) (0 : Int)) then (2 : Int) else (0 : Int)) != bif lowB xs (gs.getD ((0 : Nat) + (↑i :
     Int).toNat * (1 : Nat)) (0 : Int)) then (2 : Int) else (0 : Int) then none else bif chk ((0 : Int) ≤ (bif lowB [xs.getD (0 : Nat) (0 : Int), xs.getD (1 : Nat) (0 : Int), xs.getD (2 : Nat) (0 : Int),
     xs.getD (3 : Nat) (0 : Int), xs.getD (4 : Nat) (0 : Int), xs.getD (5 : Nat) (0 : Int), xs.getD (6 : Nat) (0 : Int), xs.getD (7 : Nat) (0 : Int), xs.getD (8 : Nat) (0 : Int)] (gs.getD ((0 : Nat) + (↑i
     : Int).toNat * (1 : Nat)) (0 : Int)) then [xs.getD (0 : Nat) (0 : Int), xs.getD (1 : Nat) (0 : Int), xs.getD (2 : Nat) (0 : Int), xs.getD (3 : Nat) (0 : Int), xs.getD (4 : Nat) (0 : Int), xs.getD (5 :
     Nat) (0 : Int), xs.getD (6 : Nat) (0 : Int), xs.getD (7 : Nat) (0 : Int), xs.getD (8 : Nat) (0 : Int)] else pushR [xs.getD (0 : Nat) (0 : Int), xs.getD (1 : Nat) (0 : Int), xs.getD (2 : Nat) (0 :
     Int), xs.getD (3 : Nat) (0 : Int), xs.getD (4 : Nat) (0 : Int), xs.getD (5 : Nat) (0 : Int), xs.getD (6 : Nat) (0 : Int), xs.getD (7 : Nat) (0 : Int), xs.getD (8 : Nat) (0 : Int)] (gs.getD ((0 : Nat)
     + (↑i : Int).toNat * (1 : Nat)) (0 : Int))).getD (8 : Nat) (0 : Int) ∧ (bif lowB [xs.getD (0 : Nat) (0 : Int), xs.getD (1 : Nat) (0 : Int), xs.getD (2 : Nat) (0 : Int), xs.getD (3 : Nat) (0 : Int),
     xs.getD (4 : Nat) (0 : Int), xs.getD (5 : Nat) (0 : Int), xs.getD (6 : Nat) (0 : Int), xs.getD (7 : Nat) (0 : Int), xs.getD (8 : Nat) (0 : Int)] (gs.getD ((0 : Nat) + (↑i : Int).toNat * (1 : Nat)) (0
     : Int)) then [xs.getD (0 : Nat) (0 : Int), xs.getD (1 : Nat) (0 : Int), xs.getD (2 : Nat) (0 : Int), xs.getD (3 : Nat) (0 : Int), xs.getD (4 : Nat) (0 : Int), xs.getD (5 : Nat) (0 : Int), xs.getD (6 :
     Nat) (0 : Int), xs.getD (7 : Nat) (0 : Int), xs.getD (8 : Nat) (0 : Int)] else pushR [xs.getD (0 : Nat) (0 : Int), xs.getD (1 : Nat) (0 : Int), xs.getD (2 : Nat) (0 : Int), xs.getD (3 : Nat) (0 :
     Int), xs.getD (4 : Nat) (0 : Int), xs.getD (5 : Nat) (0 : Int), xs.getD (6 : Nat) (0 : Int), xs.getD (7 : Nat) (0 : Int), xs.getD (8 : Nat) (0 : Int)] (gs.getD ((0 : Nat) + (↑i : Int).toNat * (1 :
     Nat)) (0 : Int))).getD (8 : Nat) (0 : Int) ≤ (1000 : Int)) then bif chk (o + q ≤ N ∧ q ≤ (100 : Nat) ∧ (0 : Int) ≤ gs.getD ((0 : Nat) + (↑i : Int).toNat * (1 : Nat)) (0 : Int) ∧ ((0 : Nat) < q →
     l.getD (o + (q - (1 : Nat))) (0 : Int) ≤ gs.getD ((0 : Nat) + (↑i : Int).toNat * (1 : Nat)) (0 : Int))) then bif chk ((0 : Int) ≤ (bif lowB xs (gs.getD ((0 : Nat) + (↑i : Int).toNat * (1 : Nat)) (0 :
     Int)) then xs else pushR xs (gs.getD ((0 : Nat) + (↑i : Int).toNat * (1 : Nat)) (0 : Int))).getD (8 : Nat) (0 : Int) ∧ (bif lowB xs (gs.getD ((0 : Nat) + (↑i : Int).toNat * (1 : Nat)) (0 : Int)) then
     xs else pushR xs (gs.getD ((0 : Nat) + (↑i : Int).toNat * (1 : Nat)) (0 : Int))).getD (8 : Nat) (0 : Int) ≤ (1000 : Int)) then bif chk ((1 : Int) ≤ (bif lowB xs (gs.getD ((0 : Nat) + (↑i : Int).toNat
     * (1 : Nat)) (0 : Int)) then xs else pushR xs (gs.getD ((0 : Nat) + (↑i : Int).toNat * (1 : Nat)) (0 : Int))).getD (8 : Nat) (0 : Int) ∧ (bif lowB xs (gs.getD ((0 : Nat) + (↑i : Int).toNat * (1 :
     Nat)) (0 : Int)) then xs else pushR xs (gs.getD ((0 : Nat) + (↑i : Int).toNat * (1 : Nat)) (0 : Int))).getD (8 : Nat) (0 : Int) ≤ (1000 : Int)) then bif chk ((0 : Nat) + (allX (bif lowB xs (gs.getD
     ((0 : Nat) + (↑i : Int).toNat * (1 : Nat)) (0 : Int)) then xs else pushR xs (gs.getD ((0 : Nat) + (↑i : Int).toNat * (1 : Nat)) (0 : Int)))).length ≤ (allX (bif lowB xs (gs.getD ((0 : Nat) + (↑i :
     Int).toNat * (1 : Nat)) (0 : Int)) then xs else pushR xs (gs.getD ((0 : Nat) + (↑i : Int).toNat * (1 : Nat)) (0 : Int)))).length ∧ offN q + lenN q ≤ q + (1 : Nat) ∧ (allX (bif lowB xs (gs.getD ((0 :
     Nat) + (↑i : Int).toNat * (1 : Nat)) (0 : Int)) then xs else pushR xs (gs.getD ((0 : Nat) + (↑i : Int).toNat * (1 : Nat)) (0 : Int)))).length ≤ (1000 : Nat)) then bif !((allX (bif lowB xs (gs.getD ((0
     : Nat) + (↑i : Int).toNat * (1 : Nat)) (0 : Int)) then xs else pushR xs (gs.getD ((0 : Nat) + (↑i : Int).toNat * (1 : Nat)) (0 : Int)))).length.beq (lenN q) && (run17 (allX (bif lowB xs (gs.getD ((0 :
     Nat) + (↑i : Int).toNat * (1 : Nat)) (0 : Int)) then xs else pushR xs (gs.getD ((0 : Nat) + (↑i : Int).toNat * (1 : Nat)) (0 : Int)))) (0 : Nat) (curL o q l ++ [gs.getD ((0 : Nat) + (↑i : Int).toNat *
     (1 : Nat)) (0 : Int)]) (offN q) (allX (bif lowB xs (gs.getD ((0 : Nat) + (↑i : Int).toNat * (1 : Nat)) (0 : Int)) then xs else pushR xs (gs.getD ((0 : Nat) + (↑i : Int).toNat * (1 : Nat)) (0 :
     Int)))).length (0 : Nat)).fst) then none else bif !true == decide ((↑(lenN q) : Int) > (0 : Int)) then none else bif decide ((0 : Int) ≤ IntKind.i64.wrap ((↑(lenN q) : Int) - (1 : Int))) && decide
     (IntKind.i64.wrap ((↑(lenN q) : Int) - (1 : Int)) < (↑(lenN q) : Int)) then bif (offN q + (IntKind.i64.wrap ((↑(lenN q) : Int) - (1 : Int))).toNat * (1 : Nat)).blt (q + (1 : Nat)) then bif (bif lowB
     xs (gs.getD ((0 : Nat) + (↑i : Int).toNat * (1 : Nat)) (0 : Int)) then xs else pushR xs (gs.getD ((0 : Nat) + (↑i : Int).toNat * (1 : Nat)) (0 : Int))).getD (((bif lowB xs (gs.getD ((0 : Nat) + (↑i :
     Int).toNat * (1 : Nat)) (0 : Int)) then xs else pushR xs (gs.getD ((0 : Nat) + (↑i : Int).toNat * (1 : Nat)) (0 : Int))).getD (8 : Nat) (0 : Int) - (1 : Int)) % (8 : Int)).toNat (0 : Int) != (curL o q
     l ++ [gs.getD ((0 : Nat) + (↑i : Int).toNat * (1 : Nat)) (0 : Int)]).getD (offN q + (IntKind.i64.wrap ((↑(lenN q) : Int) - (1 : Int))).toNat * (1 : Nat)) (0 : Int) then none else bif chk ((0 : Int) ≤
     (bif lowB xs (gs.getD ((0 : Nat) + (↑i : Int).toNat * (1 : Nat)) (0 : Int)) then xs else pushR xs (gs.getD ((0 : Nat) + (↑i : Int).toNat * (1 : Nat)) (0 : Int))).getD (8 : Nat) (0 : Int) ∧ (bif lowB
     xs (gs.getD ((0 : Nat) + (↑i : Int).toNat * (1 : Nat)) (0 : Int)) then xs else pushR xs (gs.getD ((0 : Nat) + (↑i : Int).toNat * (1 : Nat)) (0 : Int))).getD (8 : Nat) (0 : Int) ≤ (1000 : Int)) then
     bif chk (offN q + lenN q ≤ q + (1 : Nat) ∧ lenN q ≤ (1000 : Nat)) then bif (↑(cnt (allX (bif lowB xs (gs.getD ((0 : Nat) + (↑i : Int).toNat * (1 : Nat)) (0 : Int)) then xs else pushR xs (gs.getD ((0 :
     Nat) + (↑i : Int).toNat * (1 : Nat)) (0 : Int)))) a b) : Int) != (↑(cnt (curL (offN q) (lenN q) (curL o q l ++ [gs.getD ((0 : Nat) + (↑i : Int).toNat * (1 : Nat)) (0 : Int)])) a b) : Int) then none
     else bif chk (n = n ∧ (↑n : Int) = (↑n : Int) ∧ (0 : Int) ≤ (↑i : Int) ∧ (↑(allX (bif lowB xs (gs.getD ((0 : Nat) + (↑i : Int).toNat * (1 : Nat)) (0 : Int)) then xs else pushR xs (gs.getD ((0 : Nat) +
     (↑i : Int).toNat * (1 : Nat)) (0 : Int)))).length : Int) = (↑(allX (bif lowB xs (gs.getD ((0 : Nat) + (↑i : Int).toNat * (1 : Nat)) (0 : Int)) then xs else pushR xs (gs.getD ((0 : Nat) + (↑i :
     Int).toNat * (1 : Nat)) (0 : Int)))).length : Int) ∧ (allX (bif lowB xs (gs.getD ((0 : Nat) + (↑i : Int).toNat * (1 : Nat)) (0 : Int)) then xs else pushR xs (gs.getD ((0 : Nat) + (↑i : Int).toNat * (1
     : Nat)) (0 : Int)))).length = (allX (bif lowB xs (gs.getD ((0 : Nat) + (↑i : Int).toNat * (1 : Nat)) (0 : Int)) then xs else pushR xs (gs.getD ((0 : Nat) + (↑i : Int).toNat * (1 : Nat)) (0 :
     Int)))).length ∧ (allX (bif lowB xs (gs.getD ((0 : Nat) + (↑i : Int).toNat * (1 : Nat)) (0 : Int)) then xs else pushR xs (gs.getD ((0 : Nat) + (↑i : Int).toNat * (1 : Nat)) (0 : Int)))).length ≤ (1000
     : Nat)) then on [Value.bool false, Value.pointer (some (Addr.mk (1 : Nat) (0 : Nat) none)), Value.pointer (some (Addr.mk (2 : Nat) (0 : Nat) none)), Value.int IntKind.i64 a, Value.int IntKind.i64 b,
     Value.slice (some (Addr.mk (0 : Nat) (0 : Nat) none)) n (2 : Nat), Value.int IntKind.i64 (↑n : Int), Value.int IntKind.i64 (IntKind.i64.wrap ((↑i : Int) + (1 : Int)))] [some (Blk.mk false (1 : Nat)
     [Seg.ints IntKind.i64 n gs]), some (Blk.mk true (9 : Nat) [Seg.ints IntKind.i64 (9 : Nat) (bif lowB xs (gs.getD ((0 : Nat) + (↑i : Int).toNat * (1 : Nat)) (0 : Int)) then xs else pushR xs (gs.getD ((0
     : Nat) + (↑i : Int).toNat * (1 : Nat)) (0 : Int)))]), some (Blk.mk true (1 : Nat) [Seg.vals [Value.slice (some (Addr.mk (3 : Nat) (offN q) none)) (lenN q) (1 : Nat)]]), some (Blk.mk true (1 : Nat)
     [Seg.ints IntKind.i64 (q + (1 : Nat)) (curL o q l ++ [gs.getD ((0 : Nat) + (↑i : Int).toNat * (1 : Nat)) (0 : Int)])])] else none else none else none else none else none else none else none else none
     else none else none else none else none else none else none else none) (by kernel_rfl) (by simp only [-eq_self, Int.toNat_natCast, Nat.mul_one, Nat.zero_add, segsLen_one, swrap w1.1 w1.2, swrap w2.1 w2.2]; exact (go_t (dec_t h1) (go_t (and_t (dec_t h2) (dec_t h1)) (go_t (blt_t h3) (go_t (chk_t h4) (go_t (chk_t h4) (go_f (bne_f h5) (go_t (chk_t h6) (go_t (chk_t h7) (go_t (chk_t h8) (go_t (chk_t h9) (go_t (chk_t h10) (go_f (not_f (and_t (beq_t h11) h12)) (go_f (not_f h13) (go_t (and_t (dec_t h14) (dec_t h15)) (go_t (blt_t h16) (go_f (bne_f h17) (go_t (chk_t h8) (go_t (chk_t h18) (go_f (bne_f h19) (go_t (chk_t h20) rfl)))))))))))))))))))))
--CFEND
--CP p3r (a b : Int) (n i o q cp N : Nat) (gs xs l : List Int) (on : List Value → Heap → Out) (out : Exit → List Value → Heap → Out) :: roundK Try.prog (S3r.on [(28, true), (39, false), (59, false), (69, false), (71, true), (88, false), (98, false)]) L3i Try.f3.ntmps 1 (loopOf Try.f3 0) live3 [.bool false, pt 1, pt 2, w63 a, w63 b, sl 0 n 2, w63 n, w63 i] [gI n gs, eB true xs, wL (.slice (some ⟨3, o, none⟩) q cp), oI N l] on out
theorem p3r (a b : Int) (n i o q cp N : Nat) (gs xs l : List Int) (on : List Value → Heap → Out) (out : Exit → List Value → Heap → Out)
    (w1 : -9223372036854775808 ≤ (↑q : Int) - (1 : Int) ∧ (↑q : Int) - (1 : Int) ≤ 9223372036854775807 := by omega)
    (w2 : -9223372036854775808 ≤ (↑i : Int) + (1 : Int) ∧ (↑i : Int) + (1 : Int) ≤ 9223372036854775807 := by omega)
    (h1 : (↑i : Int) < (↑n : Int) := by first | omega | assumption | rfl)
    (h2 : (0 : Int) ≤ (↑i : Int) := by first | omega | assumption | rfl)
    (h3 : i < n := by first | omega | assumption | rfl)
    (h4 : (0 : Int) ≤ xs.getD (8 : Nat) (0 : Int) ∧ xs.getD (8 : Nat) (0 : Int) ≤ (1000 : Int) := by first | omega | assumption | rfl)
    (h5 : (bif lowB [xs.getD (0 : Nat) (0 : Int), xs.getD (1 : Nat) (0 : Int), xs.getD (2 : Nat) (0 : Int), xs.getD (3 : Nat) (0 : Int), xs.getD (4 : Nat) (0 : Int), xs.getD (5 : Nat) (0 : Int), xs.getD (6 : Nat) (0 : Int), xs.getD (7 : Nat) (0 : Int), xs.getD (8 : Nat) (0 : Int)] (gs.getD i (0 : Int)) then (2 : Int) else (0 : Int)) = bif lowB xs (gs.getD i (0 : Int)) then (2 : Int) else (0 : Int) := by first | omega | assumption | rfl)
    (h6 : (0 : Int) ≤ (bif lowB [xs.getD (0 : Nat) (0 : Int), xs.getD (1 : Nat) (0 : Int), xs.getD (2 : Nat) (0 : Int), xs.getD (3 : Nat) (0 : Int), xs.getD (4 : Nat) (0 : Int), xs.getD (5 : Nat) (0 : Int), xs.getD (6 : Nat) (0 : Int), xs.getD (7 : Nat) (0 : Int), xs.getD (8 : Nat) (0 : Int)] (gs.getD i (0 : Int)) then [xs.getD (0 : Nat) (0 : Int), xs.getD (1 : Nat) (0 : Int), xs.getD (2 : Nat) (0 : Int), xs.getD (3 : Nat) (0 : Int), xs.getD (4 : Nat) (0 : Int), xs.getD (5 : Nat) (0 : Int), xs.getD (6 : Nat) (0 : Int), xs.getD (7 : Nat) (0 : Int), xs.getD (8 : Nat) (0 : Int)] else pushR [xs.getD (0 : Nat) (0 : Int), xs.getD (1 : Nat) (0 : Int), xs.getD (2 : Nat) (0 : Int), xs.getD (3 : Nat) (0 : Int), xs.getD (4 : Nat) (0 : Int), xs.getD (5 : Nat) (0 : Int), xs.getD (6 : Nat) (0 : Int), xs.getD (7 : Nat) (0 : Int), xs.getD (8 : Nat) (0 : Int)] (gs.getD i (0 : Int))).getD (8 : Nat) (0 : Int) ∧ (bif lowB [xs.getD (0 : Nat) (0 : Int), xs.getD (1 : Nat) (0 : Int), xs.getD (2 : Nat) (0 : Int), xs.getD (3 : Nat) (0 : Int), xs.getD (4 : Nat) (0 : Int), xs.getD (5 : Nat) (0 : Int), xs.getD (6 : Nat) (0 : Int), xs.getD (7 : Nat) (0 : Int), xs.getD (8 : Nat) (0 : Int)] (gs.getD i (0 : Int)) then [xs.getD (0 : Nat) (0 : Int), xs.getD (1 : Nat) (0 : Int), xs.getD (2 : Nat) (0 : Int), xs.getD (3 : Nat) (0 : Int), xs.getD (4 : Nat) (0 : Int), xs.getD (5 : Nat) (0 : Int), xs.getD (6 : Nat) (0 : Int), xs.getD (7 : Nat) (0 : Int), xs.getD (8 : Nat) (0 : Int)] else pushR [xs.getD (0 : Nat) (0 : Int), xs.getD (1 : Nat) (0 : Int), xs.getD (2 : Nat) (0 : Int), xs.getD (3 : Nat) (0 : Int), xs.getD (4 : Nat) (0 : Int), xs.getD (5 : Nat) (0 : Int), xs.getD (6 : Nat) (0 : Int), xs.getD (7 : Nat) (0 : Int), xs.getD (8 : Nat) (0 : Int)] (gs.getD i (0 : Int))).getD (8 : Nat) (0 : Int) ≤ (1000 : Int) := by first | omega | assumption | rfl)
    (h7 : o + q ≤ N ∧ q ≤ (100 : Nat) ∧ (gs.getD i (0 : Int) < (0 : Int) ∨ (0 : Nat) < q ∧ gs.getD i (0 : Int) < l.getD (o + (q - (1 : Nat))) (0 : Int)) := by first | omega | assumption | rfl)
    (h8 : (0 : Int) ≤ (bif lowB xs (gs.getD i (0 : Int)) then xs else pushR xs (gs.getD i (0 : Int))).getD (8 : Nat) (0 : Int) ∧ (bif lowB xs (gs.getD i (0 : Int)) then xs else pushR xs (gs.getD i (0 : Int))).getD (8 : Nat) (0 : Int) ≤ (1000 : Int) := by first | omega | assumption | rfl)
    (h9 : (1 : Int) ≤ (bif lowB xs (gs.getD i (0 : Int)) then xs else pushR xs (gs.getD i (0 : Int))).getD (8 : Nat) (0 : Int) ∧ (bif lowB xs (gs.getD i (0 : Int)) then xs else pushR xs (gs.getD i (0 : Int))).getD (8 : Nat) (0 : Int) ≤ (1000 : Int) := by first | omega | assumption | rfl)
    (h10 : (allX (bif lowB xs (gs.getD i (0 : Int)) then xs else pushR xs (gs.getD i (0 : Int)))).length ≤ (allX (bif lowB xs (gs.getD i (0 : Int)) then xs else pushR xs (gs.getD i (0 : Int)))).length ∧ o + q ≤ N ∧ (allX (bif lowB xs (gs.getD i (0 : Int)) then xs else pushR xs (gs.getD i (0 : Int)))).length ≤ (1000 : Nat) := by first | omega | assumption | rfl)
    (h11 : (allX (bif lowB xs (gs.getD i (0 : Int)) then xs else pushR xs (gs.getD i (0 : Int)))).length = q := by first | omega | assumption | rfl)
    (h12 : (run17 (allX (bif lowB xs (gs.getD i (0 : Int)) then xs else pushR xs (gs.getD i (0 : Int)))) (0 : Nat) l o (allX (bif lowB xs (gs.getD i (0 : Int)) then xs else pushR xs (gs.getD i (0 : Int)))).length (0 : Nat)).fst = true := by first | omega | assumption | rfl)
    (h13 : (true == decide ((↑q : Int) > (0 : Int))) = true := by first | omega | assumption | rfl)
    (h14 : (0 : Int) ≤ (↑q : Int) - (1 : Int) := by first | omega | assumption | rfl)
    (h15 : (↑q : Int) - (1 : Int) < (↑q : Int) := by first | omega | assumption | rfl)
    (h16 : o + ((↑q : Int) - (1 : Int)).toNat < N := by first | omega | assumption | rfl)
    (h17 : (bif lowB xs (gs.getD i (0 : Int)) then xs else pushR xs (gs.getD i (0 : Int))).getD (((bif lowB xs (gs.getD i (0 : Int)) then xs else pushR xs (gs.getD i (0 : Int))).getD (8 : Nat) (0 : Int) - (1 : Int)) % (8 : Int)).toNat (0 : Int) = l.getD (o + ((↑q : Int) - (1 : Int)).toNat) (0 : Int) := by first | omega | assumption | rfl)
    (h18 : o + q ≤ N ∧ q ≤ (1000 : Nat) := by first | omega | assumption | rfl)
    (h19 : (↑(cnt (allX (bif lowB xs (gs.getD i (0 : Int)) then xs else pushR xs (gs.getD i (0 : Int)))) a b) : Int) = (↑(cnt (curL o q l) a b) : Int) := by first | omega | assumption | rfl)
    (h20 : n = n ∧ (↑n : Int) = (↑n : Int) ∧ (0 : Int) ≤ (↑i : Int) ∧ (↑(allX (bif lowB xs (gs.getD i (0 : Int)) then xs else pushR xs (gs.getD i (0 : Int)))).length : Int) = (↑(allX (bif lowB xs (gs.getD i (0 : Int)) then xs else pushR xs (gs.getD i (0 : Int)))).length : Int) ∧ (allX (bif lowB xs (gs.getD i (0 : Int)) then xs else pushR xs (gs.getD i (0 : Int)))).length = (allX (bif lowB xs (gs.getD i (0 : Int)) then xs else pushR xs (gs.getD i (0 : Int)))).length ∧ (allX (bif lowB xs (gs.getD i (0 : Int)) then xs else pushR xs (gs.getD i (0 : Int)))).length ≤ (1000 : Nat) := by first | omega | assumption | rfl) : roundK Try.prog (S3r.on [(28, true), (39, false), (59, false), (69, false), (71, true), (88, false), (98, false)]) L3i Try.f3.ntmps 1 (loopOf Try.f3 0) live3 [.bool false, pt 1, pt 2, w63 a, w63 b, sl 0 n 2, w63 n, w63 i] [gI n gs, eB true xs, wL (.slice (some ⟨3, o, none⟩) q cp), oI N l] on out =
     (on [Value.bool false, Value.pointer (some (Addr.mk (1 : Nat) (0 : Nat) none)), Value.pointer (some (Addr.mk (2 : Nat) (0 : Nat) none)), Value.int IntKind.i64 a, Value.int IntKind.i64 b, Value.slice
     (some (Addr.mk (0 : Nat) (0 : Nat) none)) n (2 : Nat), Value.int IntKind.i64 (↑n : Int), Value.int IntKind.i64 ((↑i : Int) + (1 : Int))] [some (Blk.mk false (1 : Nat) [Seg.ints IntKind.i64 n gs]),
     some (Blk.mk true (9 : Nat) [Seg.ints IntKind.i64 (9 : Nat) (bif lowB xs (gs.getD i (0 : Int)) then xs else pushR xs (gs.getD i (0 : Int)))]), some (Blk.mk true (1 : Nat) [Seg.vals [Value.slice (some
     (Addr.mk (3 : Nat) o none)) q cp]]), some (Blk.mk true (1 : Nat) [Seg.ints IntKind.i64 N l])]) :=
  Eq.trans (b :=
     bif decide ((↑i : Int) < (↑n : Int)) then bif decide ((0 : Int) ≤ (↑i : Int)) && decide ((↑i : Int) < (↑n : Int)) then bif ((0 : Nat) + (↑i : Int).toNat * (1 : Nat)).blt n then bif chk ((0 : Int) ≤
     xs.getD (8 : Nat) (0 : Int) ∧ xs.getD (8 : Nat) (0 : Int) ≤ (1000 : Int)) then bif chk ((0 : Int) ≤ xs.getD (8 : Nat) (0 : Int) ∧ xs.getD (8 : Nat) (0 : Int) ≤ (1000 : Int)) then bif (bif lowB
     [xs.getD (0 : Nat) (0 : Int), xs.getD (1 : Nat) (0 : Int), xs.getD (2 : Nat) (0 : Int), xs.getD (3 : Nat) (0 : Int), xs.getD (4 : Nat) (0 : Int), xs.getD (5 : Nat) (0 : Int), xs.getD (6 : Nat) (0 :
     Int), xs.getD (7 : Nat) (0 : Int), xs.getD (8 : Nat) (0 : Int)] (gs.getD ((0 : Nat) + (↑i : Int).toNat * (1 : Nat)) (0 : Int)) then (2 : Int) else (0 : Int)) != bif lowB xs (gs.getD ((0 : Nat) + (↑i :
     Int).toNat * (1 : Nat)) (0 : Int)) then (2 : Int) else (0 : Int) then none else bif chk ((0 : Int) ≤ (bif lowB [xs.getD (0 : Nat) (0 : Int), xs.getD (1 : Nat) (0 : Int), xs.getD (2 : Nat) (0 : Int),
     xs.getD (3 : Nat) (0 : Int), xs.getD (4 : Nat) (0 : Int), xs.getD (5 : Nat) (0 : Int), xs.getD (6 : Nat) (0 : Int), xs.getD (7 : Nat) (0 : Int), xs.getD (8 : Nat) (0 : Int)] (gs.getD ((0 : Nat) + (↑i
     : Int).toNat * (1 : Nat)) (0 : Int)) then [xs.getD (0 : Nat) (0 : Int), xs.getD (1 : Nat) (0 : Int), xs.getD (2 : Nat) (0 : Int), xs.getD (3 : Nat) (0 : Int), xs.getD (4 : Nat) (0 : Int), xs.getD (5 :
     Nat) (0 : Int), xs.getD (6 : Nat) (0 : Int), xs.getD (7 : Nat) (0 : Int), xs.getD (8 : Nat) (0 : Int)] else pushR [xs.getD (0 : Nat) (0 : Int), xs.getD (1 : Nat) (0 : Int), xs.getD (2 : Nat) (0 :
     Int), xs.getD (3 : Nat) (0 : Int), xs.getD (4 : Nat) (0 : Int), xs.getD (5 : Nat) (0 : Int), xs.getD (6 : Nat) (0 : Int), xs.getD (7 : Nat) (0 : Int), xs.getD (8 : Nat) (0 : Int)] (gs.getD ((0 : Nat)
     + (↑i : Int).toNat * (1 : Nat)) (0 : Int))).getD (8 : Nat) (0 : Int) ∧ (bif lowB [xs.getD (0 : Nat) (0 : Int), xs.getD (1 : Nat) (0 : Int), xs.getD (2 : Nat) (0 : Int), xs.getD (3 : Nat) (0 : Int),
     xs.getD (4 : Nat) (0 : Int), xs.getD (5 : Nat) (0 : Int), xs.getD (6 : Nat) (0 : Int), xs.getD (7 : Nat) (0 : Int), xs.getD (8 : Nat) (0 : Int)] (gs.getD ((0 : Nat) + (↑i : Int).toNat * (1 : Nat)) (0
     : Int)) then [xs.getD (0 : Nat) (0 : Int), xs.getD (1 : Nat) (0 : Int), xs.getD (2 : Nat) (0 : Int), xs.getD (3 : Nat) (0 : Int), xs.getD (4 : Nat) (0 : Int), xs.getD (5 : Nat) (0 : Int), xs.getD (6 :
     Nat) (0 : Int), xs.getD (7 : Nat) (0 : Int), xs.getD (8 : Nat) (0 : Int)] else pushR [xs.getD (0 : Nat) (0 : Int), xs.getD (1 : Nat) (0 : Int), xs.getD (2 : Nat) (0 : Int), xs.getD (3 : Nat) (0 :
     Int), xs.getD (4 : Nat) (0 : Int), xs.getD (5 : Nat) (0 : Int), xs.getD (6 : Nat) (0 : Int), xs.getD (7 : Nat) (0 : Int), xs.getD (8 : Nat) (0 : Int)] (gs.getD ((0 : Nat) + (↑i : Int).toNat * (1 :
     Nat)) (0 : Int))).getD (8 : Nat) (0 : Int) ≤ (1000 : Int)) then bif chk (o + q ≤ N ∧ q ≤ (100 : Nat) ∧ (gs.getD ((0 : Nat) + (↑i : Int).toNat * (1 : Nat)) (0 : Int) < (0 : Int) ∨ (0 : Nat) < q ∧
     gs.getD ((0 : Nat) + (↑i : Int).toNat * (1 : Nat)) (0 : Int) < l.getD (o + (q - (1 : Nat))) (0 : Int))) then bif chk ((0 : Int) ≤ (bif lowB xs (gs.getD ((0 : Nat) + (↑i : Int).toNat * (1 : Nat)) (0 :
     Int)) then xs else pushR xs (gs.getD ((0 : Nat) + (↑i : Int).toNat * (1 : Nat)) (0 : Int))).getD (8 : Nat) (0 : Int) ∧ (bif lowB xs (gs.getD ((0 : Nat) + (↑i : Int).toNat * (1 : Nat)) (0 : Int)) then
     xs else pushR xs (gs.getD ((0 : Nat) + (↑i : Int).toNat * (1 : Nat)) (0 : Int))).getD (8 : Nat) (0 : Int) ≤ (1000 : Int)) then bif chk ((1 : Int) ≤ (bif lowB xs (gs.getD ((0 : Nat) + (↑i : Int).toNat
     * (1 : Nat)) (0 : Int)) then xs else pushR xs (gs.getD ((0 : Nat) + (↑i : Int).toNat * (1 : Nat)) (0 : Int))).getD (8 : Nat) (0 : Int) ∧ (bif lowB xs (gs.getD ((0 : Nat) + (↑i : Int).toNat * (1 :
     Nat)) (0 : Int)) then xs else pushR xs (gs.getD ((0 : Nat) + (↑i : Int).toNat * (1 : Nat)) (0 : Int))).getD (8 : Nat) (0 : Int) ≤ (1000 : Int)) then bif chk ((0 : Nat) + (allX (bif lowB xs (gs.getD
     ((0 : Nat) + (↑i : Int).toNat * (1 : Nat)) (0 : Int)) then xs else pushR xs (gs.getD ((0 : Nat) + (↑i : Int).toNat * (1 : Nat)) (0 : Int)))).length ≤ (allX (bif lowB xs (gs.getD ((0 : Nat) + (↑i :
     Int).toNat * (1 : Nat)) (0 : Int)) then xs else pushR xs (gs.getD ((0 : Nat) + (↑i : Int).toNat * (1 : Nat)) (0 : Int)))).length ∧ o + q ≤ N ∧ (allX (bif lowB xs (gs.getD ((0 : Nat) + (↑i : Int).toNat
     * (1 : Nat)) (0 : Int)) then xs else pushR xs (gs.getD ((0 : Nat) + (↑i : Int).toNat * (1 : Nat)) (0 : Int)))).length ≤ (1000 : Nat)) then bif !((allX (bif lowB xs (gs.getD ((0 : Nat) + (↑i :
     Int).toNat * (1 : Nat)) (0 : Int)) then xs else pushR xs (gs.getD ((0 : Nat) + (↑i : Int).toNat * (1 : Nat)) (0 : Int)))).length.beq q && (run17 (allX (bif lowB xs (gs.getD ((0 : Nat) + (↑i :
     Int).toNat * (1 : Nat)) (0 : Int)) then xs else pushR xs (gs.getD ((0 : Nat) + (↑i : Int).toNat * (1 : Nat)) (0 : Int)))) (0 : Nat) l o (allX (bif lowB xs (gs.getD ((0 : Nat) + (↑i : Int).toNat * (1 :
     Nat)) (0 : Int)) then xs else pushR xs (gs.getD ((0 : Nat) + (↑i : Int).toNat * (1 : Nat)) (0 : Int)))).length (0 : Nat)).fst) then none else bif !true == decide ((↑q : Int) > (0 : Int)) then none
     else bif decide ((0 : Int) ≤ IntKind.i64.wrap ((↑q : Int) - (1 : Int))) && decide (IntKind.i64.wrap ((↑q : Int) - (1 : Int)) < (↑q : Int)) then bif (o + (IntKind.i64.wrap ((↑q : Int) - (1 :
     Int))).toNat * (1 : Nat)).blt N then bif (bif lowB xs (gs.getD ((0 : Nat) + (↑i : Int).toNat * (1 : Nat)) (0 : Int)) then xs else pushR xs (gs.getD ((0 : Nat) + (↑i : Int).toNat * (1 : Nat)) (0 :
     Int))).getD (((bif lowB xs (gs.getD ((0 : Nat) + (↑i : Int).toNat * (1 : Nat)) (0 : Int)) then xs else pushR xs (gs.getD ((0 : Nat) + (↑i : Int).toNat * (1 : Nat)) (0 : Int))).getD (8 : Nat) (0 : Int)
     - (1 : Int)) % (8 : Int)).toNat (0 : Int) != l.getD (o + (IntKind.i64.wrap ((↑q : Int) - (1 : Int))).toNat * (1 : Nat)) (0 : Int) then none else bif chk ((0 : Int) ≤ (bif lowB xs (gs.getD ((0 : Nat) +
     (↑i : Int).toNat * (1 : Nat)) (0 : Int)) then xs else pushR xs (gs.getD ((0 : Nat) + (↑i : Int).toNat * (1 : Nat)) (0 : Int))).getD (8 : Nat) (0 : Int) ∧ (bif lowB xs (gs.getD ((0 : Nat) + (↑i :
     Int).toNat * (1 : Nat)) (0 : Int)) then xs else pushR xs (gs.getD ((0 : Nat) + (↑i : Int).toNat * (1 : Nat)) (0 : Int))).getD (8 : Nat) (0 : Int) ≤ (1000 : Int)) then bif chk (o + q ≤ N ∧ q ≤ (1000 :
     Nat)) then bif (↑(cnt (allX (bif lowB xs (gs.getD ((0 : Nat) + (↑i : Int).toNat * (1 : Nat)) (0 : Int)) then xs else pushR xs (gs.getD ((0 : Nat) + (↑i : Int).toNat * (1 : Nat)) (0 : Int)))) a b) :
     Int) != (↑(cnt (curL o q l) a b) : Int) then none else bif chk (n = n ∧ (↑n : Int) = (↑n : Int) ∧ (0 : Int) ≤ (↑i : Int) ∧ (↑(allX (bif lowB xs (gs.getD ((0 : Nat) + (↑i : Int).toNat * (1 : Nat)) (0 :
     Int)) then xs else pushR xs (gs.getD ((0 : Nat) + (↑i : Int).toNat * (1 : Nat)) (0 : Int)))).length : Int) = (↑(allX (bif lowB xs (gs.getD ((0 : Nat) + (↑i : Int).toNat * (1 : Nat)) (0 : Int)) then xs
     else pushR xs (gs.getD ((0 : Nat) + (↑i : Int).toNat * (1 : Nat)) (0 : Int)))).length : Int) ∧ (allX (bif lowB xs (gs.getD ((0 : Nat) + (↑i : Int).toNat * (1 : Nat)) (0 : Int)) then xs else pushR xs
     (gs.getD ((0 : Nat) + (↑i : Int).toNat * (1 : Nat)) (0 : Int)))).length = (allX (bif lowB xs (gs.getD ((0 : Nat) + (↑i : Int).toNat * (1 : Nat)) (0 : Int)) then xs else pushR xs (gs.getD ((0 : Nat) +
     (↑i : Int).toNat * (1 : Nat)) (0 : Int)))).length ∧ (allX (bif lowB xs (gs.getD ((0 : Nat) + (↑i : Int).toNat * (1 : Nat)) (0 : Int)) then xs else pushR xs (gs.getD ((0 : Nat) + (↑i : Int).toNat * (1
     : Nat)) (0 : Int)))).length ≤ (1000 : Nat)) then on [Value.bool false, Value.pointer (some (Addr.mk (1 : Nat) (0 : Nat) none)), Value.pointer (some (Addr.mk (2 : Nat) (0 : Nat) none)), Value.int
     IntKind.i64 a, Value.int IntKind.i64 b, Value.slice (some (Addr.mk (0 : Nat) (0 : Nat) none)) n (2 : Nat), Value.int IntKind.i64 (↑n : Int), Value.int IntKind.i64 (IntKind.i64.wrap ((↑i : Int) + (1 :
     Int)))] [some (Blk.mk false (1 : Nat) [Seg.ints IntKind.i64 n gs]), some (Blk.mk true (9 : Nat) [Seg.ints IntKind.i64 (9 : Nat) (bif lowB xs (gs.getD ((0 : Nat) + (↑i : Int).toNat * (1 : Nat)) (0 :
     Int)) then xs else pushR xs (gs.getD ((0 : Nat) + (↑i : Int).toNat * (1 : Nat)) (0 : Int)))]), some (Blk.mk true (1 : Nat) [Seg.vals [Value.slice (some (Addr.mk (3 : Nat) o none)) q cp]]), some
     (Blk.mk true (1 : Nat) [Seg.ints IntKind.i64 N l])] else none else none else none else none else none else none else none else none else none else none else none else none else none else none else
     none) (by kernel_rfl) (by simp only [-eq_self, Int.toNat_natCast, Nat.mul_one, Nat.zero_add, segsLen_one, swrap w1.1 w1.2, swrap w2.1 w2.2]; exact (go_t (dec_t h1) (go_t (and_t (dec_t h2) (dec_t h1)) (go_t (blt_t h3) (go_t (chk_t h4) (go_t (chk_t h4) (go_f (bne_f h5) (go_t (chk_t h6) (go_t (chk_t h7) (go_t (chk_t h8) (go_t (chk_t h9) (go_t (chk_t h10) (go_f (not_f (and_t (beq_t h11) h12)) (go_f (not_f h13) (go_t (and_t (dec_t h14) (dec_t h15)) (go_t (blt_t h16) (go_f (bne_f h17) (go_t (chk_t h8) (go_t (chk_t h18) (go_f (bne_f h19) (go_t (chk_t h20) rfl)))))))))))))))))))))
--CFEND
--CP p3e (a b : Int) (n i o q cp N : Nat) (gs xs l : List Int) (on : List Value → Heap → Out) (out : Exit → List Value → Heap → Out) :: roundK Try.prog (S3e.on [(28, true), (39, false), (59, false), (69, false), (71, false), (88, false), (98, false)]) L3i Try.f3.ntmps 1 (loopOf Try.f3 0) live3 [.bool false, pt 1, pt 2, w63 a, w63 b, sl 0 n 2, w63 n, w63 i] [gI n gs, eB true xs, wL (.slice (some ⟨3, o, none⟩) q cp), oI N l] on out
theorem p3e (a b : Int) (n i o q cp N : Nat) (gs xs l : List Int) (on : List Value → Heap → Out) (out : Exit → List Value → Heap → Out)
    (w1 : -9223372036854775808 ≤ (↑i : Int) + (1 : Int) ∧ (↑i : Int) + (1 : Int) ≤ 9223372036854775807 := by omega)
    (h1 : (↑i : Int) < (↑n : Int) := by first | omega | assumption | rfl)
    (h2 : (0 : Int) ≤ (↑i : Int) := by first | omega | assumption | rfl)
    (h3 : i < n := by first | omega | assumption | rfl)
    (h4 : (0 : Int) ≤ xs.getD (8 : Nat) (0 : Int) ∧ xs.getD (8 : Nat) (0 : Int) ≤ (1000 : Int) := by first | omega | assumption | rfl)
    (h5 : (bif lowB [xs.getD (0 : Nat) (0 : Int), xs.getD (1 : Nat) (0 : Int), xs.getD (2 : Nat) (0 : Int), xs.getD (3 : Nat) (0 : Int), xs.getD (4 : Nat) (0 : Int), xs.getD (5 : Nat) (0 : Int), xs.getD (6 : Nat) (0 : Int), xs.getD (7 : Nat) (0 : Int), xs.getD (8 : Nat) (0 : Int)] (gs.getD i (0 : Int)) then (2 : Int) else (0 : Int)) = bif lowB xs (gs.getD i (0 : Int)) then (2 : Int) else (0 : Int) := by first | omega | assumption | rfl)
    (h6 : (0 : Int) ≤ (bif lowB [xs.getD (0 : Nat) (0 : Int), xs.getD (1 : Nat) (0 : Int), xs.getD (2 : Nat) (0 : Int), xs.getD (3 : Nat) (0 : Int), xs.getD (4 : Nat) (0 : Int), xs.getD (5 : Nat) (0 : Int), xs.getD (6 : Nat) (0 : Int), xs.getD (7 : Nat) (0 : Int), xs.getD (8 : Nat) (0 : Int)] (gs.getD i (0 : Int)) then [xs.getD (0 : Nat) (0 : Int), xs.getD (1 : Nat) (0 : Int), xs.getD (2 : Nat) (0 : Int), xs.getD (3 : Nat) (0 : Int), xs.getD (4 : Nat) (0 : Int), xs.getD (5 : Nat) (0 : Int), xs.getD (6 : Nat) (0 : Int), xs.getD (7 : Nat) (0 : Int), xs.getD (8 : Nat) (0 : Int)] else pushR [xs.getD (0 : Nat) (0 : Int), xs.getD (1 : Nat) (0 : Int), xs.getD (2 : Nat) (0 : Int), xs.getD (3 : Nat) (0 : Int), xs.getD (4 : Nat) (0 : Int), xs.getD (5 : Nat) (0 : Int), xs.getD (6 : Nat) (0 : Int), xs.getD (7 : Nat) (0 : Int), xs.getD (8 : Nat) (0 : Int)] (gs.getD i (0 : Int))).getD (8 : Nat) (0 : Int) ∧ (bif lowB [xs.getD (0 : Nat) (0 : Int), xs.getD (1 : Nat) (0 : Int), xs.getD (2 : Nat) (0 : Int), xs.getD (3 : Nat) (0 : Int), xs.getD (4 : Nat) (0 : Int), xs.getD (5 : Nat) (0 : Int), xs.getD (6 : Nat) (0 : Int), xs.getD (7 : Nat) (0 : Int), xs.getD (8 : Nat) (0 : Int)] (gs.getD i (0 : Int)) then [xs.getD (0 : Nat) (0 : Int), xs.getD (1 : Nat) (0 : Int), xs.getD (2 : Nat) (0 : Int), xs.getD (3 : Nat) (0 : Int), xs.getD (4 : Nat) (0 : Int), xs.getD (5 : Nat) (0 : Int), xs.getD (6 : Nat) (0 : Int), xs.getD (7 : Nat) (0 : Int), xs.getD (8 : Nat) (0 : Int)] else pushR [xs.getD (0 : Nat) (0 : Int), xs.getD (1 : Nat) (0 : Int), xs.getD (2 : Nat) (0 : Int), xs.getD (3 : Nat) (0 : Int), xs.getD (4 : Nat) (0 : Int), xs.getD (5 : Nat) (0 : Int), xs.getD (6 : Nat) (0 : Int), xs.getD (7 : Nat) (0 : Int), xs.getD (8 : Nat) (0 : Int)] (gs.getD i (0 : Int))).getD (8 : Nat) (0 : Int) ≤ (1000 : Int) := by first | omega | assumption | rfl)
    (h7 : o + q ≤ N ∧ q ≤ (100 : Nat) ∧ (gs.getD i (0 : Int) < (0 : Int) ∨ (0 : Nat) < q ∧ gs.getD i (0 : Int) < l.getD (o + (q - (1 : Nat))) (0 : Int)) := by first | omega | assumption | rfl)
    (h8 : (0 : Int) ≤ (bif lowB xs (gs.getD i (0 : Int)) then xs else pushR xs (gs.getD i (0 : Int))).getD (8 : Nat) (0 : Int) ∧ (bif lowB xs (gs.getD i (0 : Int)) then xs else pushR xs (gs.getD i (0 : Int))).getD (8 : Nat) (0 : Int) ≤ (1000 : Int) := by first | omega | assumption | rfl)
    (h9 : (bif lowB xs (gs.getD i (0 : Int)) then xs else pushR xs (gs.getD i (0 : Int))).getD (8 : Nat) (0 : Int) = (0 : Int) := by first | omega | assumption | rfl)
    (h10 : (allX (bif lowB xs (gs.getD i (0 : Int)) then xs else pushR xs (gs.getD i (0 : Int)))).length ≤ (allX (bif lowB xs (gs.getD i (0 : Int)) then xs else pushR xs (gs.getD i (0 : Int)))).length ∧ o + q ≤ N ∧ (allX (bif lowB xs (gs.getD i (0 : Int)) then xs else pushR xs (gs.getD i (0 : Int)))).length ≤ (1000 : Nat) := by first | omega | assumption | rfl)
    (h11 : (allX (bif lowB xs (gs.getD i (0 : Int)) then xs else pushR xs (gs.getD i (0 : Int)))).length = q := by first | omega | assumption | rfl)
    (h12 : (run17 (allX (bif lowB xs (gs.getD i (0 : Int)) then xs else pushR xs (gs.getD i (0 : Int)))) (0 : Nat) l o (allX (bif lowB xs (gs.getD i (0 : Int)) then xs else pushR xs (gs.getD i (0 : Int)))).length (0 : Nat)).fst = true := by first | omega | assumption | rfl)
    (h13 : (false == decide ((↑q : Int) > (0 : Int))) = true := by first | omega | assumption | rfl)
    (h14 : o + q ≤ N ∧ q ≤ (1000 : Nat) := by first | omega | assumption | rfl)
    (h15 : (↑(cnt (allX (bif lowB xs (gs.getD i (0 : Int)) then xs else pushR xs (gs.getD i (0 : Int)))) a b) : Int) = (↑(cnt (curL o q l) a b) : Int) := by first | omega | assumption | rfl)
    (h16 : n = n ∧ (↑n : Int) = (↑n : Int) ∧ (0 : Int) ≤ (↑i : Int) ∧ (↑(allX (bif lowB xs (gs.getD i (0 : Int)) then xs else pushR xs (gs.getD i (0 : Int)))).length : Int) = (↑(allX (bif lowB xs (gs.getD i (0 : Int)) then xs else pushR xs (gs.getD i (0 : Int)))).length : Int) ∧ (allX (bif lowB xs (gs.getD i (0 : Int)) then xs else pushR xs (gs.getD i (0 : Int)))).length = (allX (bif lowB xs (gs.getD i (0 : Int)) then xs else pushR xs (gs.getD i (0 : Int)))).length ∧ (allX (bif lowB xs (gs.getD i (0 : Int)) then xs else pushR xs (gs.getD i (0 : Int)))).length ≤ (1000 : Nat) := by first | omega | assumption | rfl) : roundK Try.prog (S3e.on [(28, true), (39, false), (59, false), (69, false), (71, false), (88, false), (98, false)]) L3i Try.f3.ntmps 1 (loopOf Try.f3 0) live3 [.bool false, pt 1, pt 2, w63 a, w63 b, sl 0 n 2, w63 n, w63 i] [gI n gs, eB true xs, wL (.slice (some ⟨3, o, none⟩) q cp), oI N l] on out =
     (on [Value.bool false, Value.pointer (some (Addr.mk (1 : Nat) (0 : Nat) none)), Value.pointer (some (Addr.mk (2 : Nat) (0 : Nat) none)), Value.int IntKind.i64 a, Value.int IntKind.i64 b, Value.slice
     (some (Addr.mk (0 : Nat) (0 : Nat) none)) n (2 : Nat), Value.int IntKind.i64 (↑n : Int), Value.int IntKind.i64 ((↑i : Int) + (1 : Int))] [some (Blk.mk false (1 : Nat) [Seg.ints IntKind.i64 n gs]),
     some (Blk.mk true (9 : Nat) [Seg.ints IntKind.i64 (9 : Nat) (bif lowB xs (gs.getD i (0 : Int)) then xs else pushR xs (gs.getD i (0 : Int)))]), some (Blk.mk true (1 : Nat) [Seg.vals [Value.slice (some
     (Addr.mk (3 : Nat) o none)) q cp]]), some (Blk.mk true (1 : Nat) [Seg.ints IntKind.i64 N l])]) :=
  Eq.trans (b :=
     bif decide ((↑i : Int) < (↑n : Int)) then bif decide ((0 : Int) ≤ (↑i : Int)) && decide ((↑i : Int) < (↑n : Int)) then bif ((0 : Nat) + (↑i : Int).toNat * (1 : Nat)).blt n then bif chk ((0 : Int) ≤
     xs.getD (8 : Nat) (0 : Int) ∧ xs.getD (8 : Nat) (0 : Int) ≤ (1000 : Int)) then bif chk ((0 : Int) ≤ xs.getD (8 : Nat) (0 : Int) ∧ xs.getD (8 : Nat) (0 : Int) ≤ (1000 : Int)) then bif (bif lowB
     [xs.getD (0 : Nat) (0 : Int), xs.getD (1 : Nat) (0 : Int), xs.getD (2 : Nat) (0 : Int), xs.getD (3 : Nat) (0 : Int), xs.getD (4 : Nat) (0 : Int), xs.getD (5 : Nat) (0 : Int), xs.getD (6 : Nat) (0 :
     Int), xs.getD (7 : Nat) (0 : Int), xs.getD (8 : Nat) (0 : Int)] (gs.getD ((0 : Nat) + (↑i : Int).toNat * (1 : Nat)) (0 : Int)) then (2 : Int) else (0 : Int)) != bif lowB xs (gs.getD ((0 : Nat) + (↑i :
     Int).toNat * (1 : Nat)) (0 : Int)) then (2 : Int) else (0 : Int) then none else bif chk ((0 : Int) ≤ (bif lowB [xs.getD (0 : Nat) (0 : Int), xs.getD (1 : Nat) (0 : Int), xs.getD (2 : Nat) (0 : Int),
     xs.getD (3 : Nat) (0 : Int), xs.getD (4 : Nat) (0 : Int), xs.getD (5 : Nat) (0 : Int), xs.getD (6 : Nat) (0 : Int), xs.getD (7 : Nat) (0 : Int), xs.getD (8 : Nat) (0 : Int)] (gs.getD ((0 : Nat) + (↑i
     : Int).toNat * (1 : Nat)) (0 : Int)) then [xs.getD (0 : Nat) (0 : Int), xs.getD (1 : Nat) (0 : Int), xs.getD (2 : Nat) (0 : Int), xs.getD (3 : Nat) (0 : Int), xs.getD (4 : Nat) (0 : Int), xs.getD (5 :
     Nat) (0 : Int), xs.getD (6 : Nat) (0 : Int), xs.getD (7 : Nat) (0 : Int), xs.getD (8 : Nat) (0 : Int)] else pushR [xs.getD (0 : Nat) (0 : Int), xs.getD (1 : Nat) (0 : Int), xs.getD (2 : Nat) (0 :
     Int), xs.getD (3 : Nat) (0 : Int), xs.getD (4 : Nat) (0 : Int), xs.getD (5 : Nat) (0 : Int), xs.getD (6 : Nat) (0 : Int), xs.getD (7 : Nat) (0 : Int), xs.getD (8 : Nat) (0 : Int)] (gs.getD ((0 : Nat)
     + (↑i : Int).toNat * (1 : Nat)) (0 : Int))).getD (8 : Nat) (0 : Int) ∧ (bif lowB [xs.getD (0 : Nat) (0 : Int), xs.getD (1 : Nat) (0 : Int), xs.getD (2 : Nat) (0 : Int), xs.getD (3 : Nat) (0 : Int),
     xs.getD (4 : Nat) (0 : Int), xs.getD (5 : Nat) (0 : Int), xs.getD (6 : Nat) (0 : Int), xs.getD (7 : Nat) (0 : Int), xs.getD (8 : Nat) (0 : Int)] (gs.getD ((0 : Nat) + (↑i : Int).toNat * (1 : Nat)) (0
     : Int)) then [xs.getD (0 : Nat) (0 : Int), xs.getD (1 : Nat) (0 : Int), xs.getD (2 : Nat) (0 : Int), xs.getD (3 : Nat) (0 : Int), xs.getD (4 : Nat) (0 : Int), xs.getD (5 : Nat) (0 : Int), xs.getD (6 :
     Nat) (0 : Int), xs.getD (7 : Nat) (0 : Int), xs.getD (8 : Nat) (0 : Int)] else pushR [xs.getD (0 : Nat) (0 : Int), xs.getD (1 : Nat) (0 : Int), xs.getD (2 : Nat) (0 : Int), xs.getD (3 : Nat) (0 :
     Int), xs.getD (4 : Nat) (0 : Int), xs.getD (5 : Nat) (0 : Int), xs.getD (6 : Nat) (0 : Int), xs.getD (7 : Nat) (0 : Int), xs.getD (8 : Nat) (0 : Int)] (gs.getD ((0 : Nat) + (↑i : Int).toNat * (1 :
     Nat)) (0 : Int))).getD (8 : Nat) (0 : Int) ≤ (1000 : Int)) then bif chk (o + q ≤ N ∧ q ≤ (100 : Nat) ∧ (gs.getD ((0 : Nat) + (↑i : Int).toNat * (1 : Nat)) (0 : Int) < (0 : Int) ∨ (0 : Nat) < q ∧
     gs.getD ((0 : Nat) + (↑i : Int).toNat * (1 : Nat)) (0 : Int) < l.getD (o + (q - (1 : Nat))) (0 : Int))) then bif chk ((0 : Int) ≤ (bif lowB xs (gs.getD ((0 : Nat) + (↑i : Int).toNat * (1 : Nat)) (0 :
     Int)) then xs else pushR xs (gs.getD ((0 : Nat) + (↑i : Int).toNat * (1 : Nat)) (0 : Int))).getD (8 : Nat) (0 : Int) ∧ (bif lowB xs (gs.getD ((0 : Nat) + (↑i : Int).toNat * (1 : Nat)) (0 : Int)) then
     xs else pushR xs (gs.getD ((0 : Nat) + (↑i : Int).toNat * (1 : Nat)) (0 : Int))).getD (8 : Nat) (0 : Int) ≤ (1000 : Int)) then bif chk ((bif lowB xs (gs.getD ((0 : Nat) + (↑i : Int).toNat * (1 : Nat))
     (0 : Int)) then xs else pushR xs (gs.getD ((0 : Nat) + (↑i : Int).toNat * (1 : Nat)) (0 : Int))).getD (8 : Nat) (0 : Int) = (0 : Int)) then bif chk ((0 : Nat) + (allX (bif lowB xs (gs.getD ((0 : Nat)
     + (↑i : Int).toNat * (1 : Nat)) (0 : Int)) then xs else pushR xs (gs.getD ((0 : Nat) + (↑i : Int).toNat * (1 : Nat)) (0 : Int)))).length ≤ (allX (bif lowB xs (gs.getD ((0 : Nat) + (↑i : Int).toNat *
     (1 : Nat)) (0 : Int)) then xs else pushR xs (gs.getD ((0 : Nat) + (↑i : Int).toNat * (1 : Nat)) (0 : Int)))).length ∧ o + q ≤ N ∧ (allX (bif lowB xs (gs.getD ((0 : Nat) + (↑i : Int).toNat * (1 : Nat))
     (0 : Int)) then xs else pushR xs (gs.getD ((0 : Nat) + (↑i : Int).toNat * (1 : Nat)) (0 : Int)))).length ≤ (1000 : Nat)) then bif !((allX (bif lowB xs (gs.getD ((0 : Nat) + (↑i : Int).toNat * (1 :
     Nat)) (0 : Int)) then xs else pushR xs (gs.getD ((0 : Nat) + (↑i : Int).toNat * (1 : Nat)) (0 : Int)))).length.beq q && (run17 (allX (bif lowB xs (gs.getD ((0 : Nat) + (↑i : Int).toNat * (1 : Nat)) (0
     : Int)) then xs else pushR xs (gs.getD ((0 : Nat) + (↑i : Int).toNat * (1 : Nat)) (0 : Int)))) (0 : Nat) l o (allX (bif lowB xs (gs.getD ((0 : Nat) + (↑i : Int).toNat * (1 : Nat)) (0 : Int)) then xs
     else pushR xs (gs.getD ((0 : Nat) + (↑i : Int).toNat * (1 : Nat)) (0 : Int)))).length (0 : Nat)).fst) then none else bif !false == decide ((↑q : Int) > (0 : Int)) then none else bif chk ((0 : Int) ≤
     (bif lowB xs (gs.getD ((0 : Nat) + (↑i : Int).toNat * (1 : Nat)) (0 : Int)) then xs else pushR xs (gs.getD ((0 : Nat) + (↑i : Int).toNat * (1 : Nat)) (0 : Int))).getD (8 : Nat) (0 : Int) ∧ (bif lowB
     xs (gs.getD ((0 : Nat) + (↑i : Int).toNat * (1 : Nat)) (0 : Int)) then xs else pushR xs (gs.getD ((0 : Nat) + (↑i : Int).toNat * (1 : Nat)) (0 : Int))).getD (8 : Nat) (0 : Int) ≤ (1000 : Int)) then
     bif chk (o + q ≤ N ∧ q ≤ (1000 : Nat)) then bif (↑(cnt (allX (bif lowB xs (gs.getD ((0 : Nat) + (↑i : Int).toNat * (1 : Nat)) (0 : Int)) then xs else pushR xs (gs.getD ((0 : Nat) + (↑i : Int).toNat *
     (1 : Nat)) (0 : Int)))) a b) : Int) != (↑(cnt (curL o q l) a b) : Int) then none else bif chk (n = n ∧ (↑n : Int) = (↑n : Int) ∧ (0 : Int) ≤ (↑i : Int) ∧ (↑(allX (bif lowB xs (gs.getD ((0 : Nat) + (↑i
     : Int).toNat * (1 : Nat)) (0 : Int)) then xs else pushR xs (gs.getD ((0 : Nat) + (↑i : Int).toNat * (1 : Nat)) (0 : Int)))).length : Int) = (↑(allX (bif lowB xs (gs.getD ((0 : Nat) + (↑i : Int).toNat
     * (1 : Nat)) (0 : Int)) then xs else pushR xs (gs.getD ((0 : Nat) + (↑i : Int).toNat * (1 : Nat)) (0 : Int)))).length : Int) ∧ (allX (bif lowB xs (gs.getD ((0 : Nat) + (↑i : Int).toNat * (1 : Nat)) (0
     : Int)) then xs else pushR xs (gs.getD ((0 : Nat) + (↑i : Int).toNat * (1 : Nat)) (0 : Int)))).length = (allX (bif lowB xs (gs.getD ((0 : Nat) + (↑i : Int).toNat * (1 : Nat)) (0 : Int)) then xs else
     pushR xs (gs.getD ((0 : Nat) + (↑i : Int).toNat * (1 : Nat)) (0 : Int)))).length ∧ (allX (bif lowB xs (gs.getD ((0 : Nat) + (↑i : Int).toNat * (1 : Nat)) (0 : Int)) then xs else pushR xs (gs.getD ((0
     : Nat) + (↑i : Int).toNat * (1 : Nat)) (0 : Int)))).length ≤ (1000 : Nat)) then on [Value.bool false, Value.pointer (some (Addr.mk (1 : Nat) (0 : Nat) none)), Value.pointer (some (Addr.mk (2 : Nat) (0
     : Nat) none)), Value.int IntKind.i64 a, Value.int IntKind.i64 b, Value.slice (some (Addr.mk (0 : Nat) (0 : Nat) none)) n (2 : Nat), Value.int IntKind.i64 (↑n : Int), Value.int IntKind.i64
     (IntKind.i64.wrap ((↑i : Int) + (1 : Int)))] [some (Blk.mk false (1 : Nat) [Seg.ints IntKind.i64 n gs]), some (Blk.mk true (9 : Nat) [Seg.ints IntKind.i64 (9 : Nat) (bif lowB xs (gs.getD ((0 : Nat) +
     (↑i : Int).toNat * (1 : Nat)) (0 : Int)) then xs else pushR xs (gs.getD ((0 : Nat) + (↑i : Int).toNat * (1 : Nat)) (0 : Int)))]), some (Blk.mk true (1 : Nat) [Seg.vals [Value.slice (some (Addr.mk (3 :
     Nat) o none)) q cp]]), some (Blk.mk true (1 : Nat) [Seg.ints IntKind.i64 N l])] else none else none else none else none else none else none else none else none else none else none else none else none
     else none) (by kernel_rfl) (by simp only [-eq_self, Int.toNat_natCast, Nat.mul_one, Nat.zero_add, segsLen_one, swrap w1.1 w1.2]; exact (go_t (dec_t h1) (go_t (and_t (dec_t h2) (dec_t h1)) (go_t (blt_t h3) (go_t (chk_t h4) (go_t (chk_t h4) (go_f (bne_f h5) (go_t (chk_t h6) (go_t (chk_t h7) (go_t (chk_t h8) (go_t (chk_t h9) (go_t (chk_t h10) (go_f (not_f (and_t (beq_t h11) h12)) (go_f (not_f h13) (go_t (chk_t h8) (go_t (chk_t h14) (go_f (bne_f h15) (go_t (chk_t h16) rfl))))))))))))))))))
--CFEND
end Go.Proofs.Ytpidmcpnkfgcjaa.VC

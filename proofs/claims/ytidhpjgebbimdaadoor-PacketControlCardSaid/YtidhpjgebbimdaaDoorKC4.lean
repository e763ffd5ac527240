/- PacketControl: the document's EncodeControl: closed forms. -/
import Derived.Test.YtidhpjgebbimdaaDoorKC3
namespace Go.Proofs.YtidhpjgebbimdaaDoor.VC
open Go Go.Proofs

def liveEr : List Nat := [5]
--CP pErR (n N : Nat) (xs bs : List Int) (on : List Value → Heap → Out) (out : Exit → List Value → Heap → Out) :: roundK Tryd.prog ((mkS []).on [(87, true)]) noL Tryd.f6.ntmps 1 (loopOf Tryd.f6 0) liveEr [sl 1 n 1] [rU N xs, oU n bs] on out
theorem pErR (n N : Nat) (xs bs : List Int) (on : List Value → Heap → Out) (out : Exit → List Value → Heap → Out)
    (h1 : (↑n : Int).tmod (4 : Int) ≠ (0 : Int) := by first | omega | assumption | rfl)
    (h2 : n ≤ n := by first | omega | assumption | rfl)
    (h3 : n + (1 : Nat) ≤ (140737488355328 : Nat) := by first | omega | assumption | rfl)
    (h4 : n + (1 : Nat) ≤ (4611686018427387904 : Nat) := by first | omega | assumption | rfl)
    (h5 : n = n := by first | omega | assumption | rfl) : roundK Tryd.prog ((mkS []).on [(87, true)]) noL Tryd.f6.ntmps 1 (loopOf Tryd.f6 0) liveEr [sl 1 n 1] [rU N xs, oU n bs] on out =
     (on [Value.slice (some (Addr.mk (1 : Nat) (0 : Nat) none)) (n + (1 : Nat)) (1 : Nat)] [some (Blk.mk false (1 : Nat) [Seg.ints IntKind.u8 N xs]), some (Blk.mk true (1 : Nat) [Seg.ints IntKind.u8 (n +
     (1 : Nat)) (List.take n bs ++ [(0 : Int)])])]) :=
  Eq.trans (b :=
     bif (↑n : Int).tmod (4 : Int) != (0 : Int) then bif (n * (1 : Nat)).ble n then bif decide ((n + (1 : Nat)) * (1 : Nat) ≤ (140737488355328 : Nat)) && (n + (1 : Nat)).ble (OfNat.ofNat
     (4611686018427387904 : Nat)) then bif ((0 : Nat) + n * (1 : Nat)).beq n && true then on [Value.slice (some (Addr.mk (1 : Nat) (0 : Nat) none)) (n + (1 : Nat)) (1 : Nat)] [some (Blk.mk false (1 : Nat)
     [Seg.ints IntKind.u8 N xs]), some (Blk.mk true (1 : Nat) [Seg.ints IntKind.u8 (n * (1 : Nat) + (1 : Nat)) (List.take (n * (1 : Nat)) bs ++ [(0 : Int)])])] else none else none else none else none) (by kernel_rfl) (by simp only [-eq_self, Nat.mul_one, Nat.zero_add]; exact (go_t (bne_t h1) (go_t (ble_t h2) (go_t (and_t (dec_t h3) (ble_t h4)) (go_t (and_t (beq_t h5) rfl) rfl)))))
--CFEND
--CP pErX (n N : Nat) (xs bs : List Int) (on : List Value → Heap → Out) (out : Exit → List Value → Heap → Out) :: roundK Tryd.prog ((mkS []).on [(87, false)]) noL Tryd.f6.ntmps 1 (loopOf Tryd.f6 0) liveEr [sl 1 n 1] [rU N xs, oU n bs] on out
theorem pErX (n N : Nat) (xs bs : List Int) (on : List Value → Heap → Out) (out : Exit → List Value → Heap → Out)
    (h1 : (↑n : Int).tmod (4 : Int) = (0 : Int) := by first | omega | assumption | rfl) : roundK Tryd.prog ((mkS []).on [(87, false)]) noL Tryd.f6.ntmps 1 (loopOf Tryd.f6 0) liveEr [sl 1 n 1] [rU N xs, oU n bs] on out =
     (out (Exit.exit (0 : Nat)) [Value.slice (some (Addr.mk (1 : Nat) (0 : Nat) none)) n (1 : Nat)] [some (Blk.mk false (1 : Nat) [Seg.ints IntKind.u8 N xs]), some (Blk.mk true (1 : Nat) [Seg.ints
     IntKind.u8 n bs])]) :=
  Eq.trans (by kernel_rfl) (go_f (bne_f h1) rfl)
--CFEND
--CP pErX0 (N : Nat) (xs bs : List Int) (on : List Value → Heap → Out) (out : Exit → List Value → Heap → Out) :: roundK Tryd.prog ((mkS []).on [(87, false)]) noL Tryd.f6.ntmps 1 (loopOf Tryd.f6 0) liveEr [sl 1 12 0] [rU N xs, oU 12 bs] on out
theorem pErX0 (N : Nat) (xs bs : List Int) (on : List Value → Heap → Out) (out : Exit → List Value → Heap → Out) : roundK Tryd.prog ((mkS []).on [(87, false)]) noL Tryd.f6.ntmps 1 (loopOf Tryd.f6 0) liveEr [sl 1 12 0] [rU N xs, oU 12 bs] on out =
     (out (Exit.exit (0 : Nat)) [Value.slice (some (Addr.mk (1 : Nat) (0 : Nat) none)) (12 : Nat) (0 : Nat)] [some (Blk.mk false (1 : Nat) [Seg.ints IntKind.u8 N xs]), some (Blk.mk true (1 : Nat) [Seg.ints
     IntKind.u8 (12 : Nat) bs])]) :=
  Eq.trans (by kernel_rfl) rfl
--CFEND
def LErNf : LF := fun vs h k => match vs, h with
  | [.slice (some ⟨1, 0, none⟩) 12 0], [some ⟨false, 1, [.ints .u8 N xs]⟩, some ⟨true, 1, [.ints .u8 12 bs]⟩] => k (.exit 0) [sl 1 12 0] [rU N xs, oU 12 bs]
  | _, _ => none
def LErN : LSpec := oneL 19 liveEr LErNf
/-- Zeros up to a multiple of four. -/
def padL (bs : List Int) (n : Nat) : List Int := bs ++ List.replicate (up4 n - n) 0
noncomputable def LErPf : LF := fun vs h k => match vs, h with
  | [.slice (some ⟨1, 0, none⟩) n 1], [some ⟨false, 1, [.ints .u8 N xs]⟩, some ⟨true, 1, [.ints .u8 n' bs]⟩] =>
    bif chk (n' = n ∧ n ≤ 1000000) then k (.exit 0) [sl 1 (up4 n) 1] [rU N xs, oU (up4 n) (padL bs n)] else none
  | _, _ => none
noncomputable def LErP : LSpec := oneL 19 liveEr LErPf
noncomputable def SErc : Spec := mkS [(13, true, FLay)]

--CP pErTTTP (v op sq st ac oc) (n c N : Nat) (xs : List Int) :: fnK Tryd.prog (SErc.on [(12, false), (17, false), (20, false)]) LErP Tryd.f6 [ctv ⟨v, op, true, true, true, sq, st, ac, oc⟩ (sl 0 n c)] [rU N xs]
theorem pErTTTP (v op sq st ac oc) (n c N : Nat) (xs : List Int)
    (h1 : ¬v > (7 : Int) := by first | omega | assumption | rfl)
    (h2 : ¬op > (31 : Int) := by first | omega | assumption | rfl)
    (h3 : ¬(↑n : Int) > (468 : Int) := by first | omega | assumption | rfl)
    (h4 : (0 : Int) ≤ (2 : Int) ∧ (0 : Int) ≤ (2 : Int) ∧ (4 : Int) ≤ (12 : Int) ∧ (12 : Nat) ≤ (1000000 : Nat) ∧ (12 : Nat) = (12 : Nat) := by first | omega | assumption | rfl | ((repeat' with_reducible apply And.intro) <;> first | rfl | assumption | omega))
    (h5 : (0 : Int) ≤ (4 : Int) ∧ (0 : Int) ≤ (2 : Int) ∧ (6 : Int) ≤ (12 : Int) ∧ (12 : Nat) ≤ (1000000 : Nat) ∧ (12 : Nat) = (12 : Nat) := by first | omega | assumption | rfl | ((repeat' with_reducible apply And.intro) <;> first | rfl | assumption | omega))
    (h6 : (0 : Int) ≤ (6 : Int) ∧ (0 : Int) ≤ (2 : Int) ∧ (8 : Int) ≤ (12 : Int) ∧ (12 : Nat) ≤ (1000000 : Nat) ∧ (12 : Nat) = (12 : Nat) := by first | omega | assumption | rfl | ((repeat' with_reducible apply And.intro) <;> first | rfl | assumption | omega))
    (h7 : (0 : Int) ≤ (8 : Int) ∧ (0 : Int) ≤ (2 : Int) ∧ (10 : Int) ≤ (12 : Int) ∧ (12 : Nat) ≤ (1000000 : Nat) ∧ (12 : Nat) = (12 : Nat) := by first | omega | assumption | rfl | ((repeat' with_reducible apply And.intro) <;> first | rfl | assumption | omega))
    (h8 : (0 : Int) ≤ (10 : Int) ∧ (0 : Int) ≤ (2 : Int) ∧ (12 : Int) ≤ (12 : Int) ∧ (12 : Nat) ≤ (1000000 : Nat) ∧ (12 : Nat) = (12 : Nat) := by first | omega | assumption | rfl | ((repeat' with_reducible apply And.intro) <;> first | rfl | assumption | omega))
    (h9 : n ≤ N := by first | omega | assumption | rfl)
    (h10 : (12 : Nat) + n ≤ (140737488355328 : Nat) := by first | omega | assumption | rfl)
    (h11 : (12 : Nat) + n ≤ (4611686018427387904 : Nat) := by first | omega | assumption | rfl)
    (h12 : (false || Nat.blt (0 : Nat) n) = true := by first | omega | assumption | rfl)
    (h13 : (12 : Nat) + n = (12 : Nat) + n ∧ (12 : Nat) + n ≤ (1000000 : Nat) := by first | omega | assumption | rfl | ((repeat' with_reducible apply And.intro) <;> first | rfl | assumption | omega)) : fnK Tryd.prog (SErc.on [(12, false), (17, false), (20, false)]) LErP Tryd.f6 [ctv ⟨v, op, true, true, true, sq, st, ac, oc⟩ (sl 0 n c)] [rU N xs] =
     (some (Res.ret (Value.tuple (Array.mk [Value.slice (some (Addr.mk (1 : Nat) (0 : Nat) none)) (up4 ((12 : Nat) + n)) (1 : Nat), Value.int IntKind.i64 (0 : Int)])) [some (Blk.mk false (1 : Nat)
     [Seg.ints IntKind.u8 N xs]), some (Blk.mk true (1 : Nat) [Seg.ints IntKind.u8 (up4 ((12 : Nat) + n)) (padL ([IntKind.u8.wrap (IntKind.u8.wrap (v * (8 : Int)) + (6 : Int)), IntKind.u8.wrap
     (IntKind.u8.wrap (IntKind.u8.wrap (op + (128 : Int)) + (64 : Int)) + (32 : Int)), IntKind.u64.wrap sq / (256 : Int) % (256 : Int), IntKind.u64.wrap sq % (256 : Int), IntKind.u64.wrap st / (256 : Int)
     % (256 : Int), IntKind.u64.wrap st % (256 : Int), IntKind.u64.wrap ac / (256 : Int) % (256 : Int), IntKind.u64.wrap ac % (256 : Int), IntKind.u64.wrap oc / (256 : Int) % (256 : Int), IntKind.u64.wrap
     oc % (256 : Int), IntKind.u64.wrap (↑n : Int) / (256 : Int) % (256 : Int), IntKind.u64.wrap (↑n : Int) % (256 : Int)] ++ List.take n xs) ((12 : Nat) + n))])])) :=
  Eq.trans (b :=
     bif decide (v > (7 : Int)) then none else bif decide (op > (31 : Int)) then none else bif decide ((↑n : Int) > (468 : Int)) then none else bif chk ((0 : Int) ≤ (2 : Int) ∧ (0 : Int) ≤ (2 : Int) ∧ (4 :
     Int) ≤ (12 : Int) ∧ (12 : Nat) ≤ (1000000 : Nat) ∧ (12 : Nat) = (12 : Nat)) then bif chk ((0 : Int) ≤ (4 : Int) ∧ (0 : Int) ≤ (2 : Int) ∧ (6 : Int) ≤ (12 : Int) ∧ (12 : Nat) ≤ (1000000 : Nat) ∧ (12 :
     Nat) = (12 : Nat)) then bif chk ((0 : Int) ≤ (6 : Int) ∧ (0 : Int) ≤ (2 : Int) ∧ (8 : Int) ≤ (12 : Int) ∧ (12 : Nat) ≤ (1000000 : Nat) ∧ (12 : Nat) = (12 : Nat)) then bif chk ((0 : Int) ≤ (8 : Int) ∧
     (0 : Int) ≤ (2 : Int) ∧ (10 : Int) ≤ (12 : Int) ∧ (12 : Nat) ≤ (1000000 : Nat) ∧ (12 : Nat) = (12 : Nat)) then bif chk ((0 : Int) ≤ (10 : Int) ∧ (0 : Int) ≤ (2 : Int) ∧ (12 : Int) ≤ (12 : Int) ∧ (12 :
     Nat) ≤ (1000000 : Nat) ∧ (12 : Nat) = (12 : Nat)) then bif (n * (1 : Nat)).ble N then bif decide (((12 : Nat) + n) * (1 : Nat) ≤ (140737488355328 : Nat)) && ((12 : Nat) + n).ble (OfNat.ofNat
     (4611686018427387904 : Nat)) then bif false || Nat.blt (0 : Nat) n then bif chk ((12 : Nat) + n * (1 : Nat) = (12 : Nat) + n ∧ (12 : Nat) + n ≤ (1000000 : Nat)) then some (Res.ret (Value.tuple
     (Array.mk [Value.slice (some (Addr.mk (1 : Nat) (0 : Nat) none)) (up4 ((12 : Nat) + n)) (1 : Nat), Value.int IntKind.i64 (0 : Int)])) [some (Blk.mk false (1 : Nat) [Seg.ints IntKind.u8 N xs]), some
     (Blk.mk true (1 : Nat) [Seg.ints IntKind.u8 (up4 ((12 : Nat) + n)) (padL ([IntKind.u8.wrap (IntKind.u8.wrap (v * (8 : Int)) + (6 : Int)), IntKind.u8.wrap (IntKind.u8.wrap (IntKind.u8.wrap (op + (128 :
     Int)) + (64 : Int)) + (32 : Int)), IntKind.u64.wrap sq / (256 : Int) % (256 : Int), IntKind.u64.wrap sq % (256 : Int), IntKind.u64.wrap st / (256 : Int) % (256 : Int), IntKind.u64.wrap st % (256 :
     Int), IntKind.u64.wrap ac / (256 : Int) % (256 : Int), IntKind.u64.wrap ac % (256 : Int), IntKind.u64.wrap oc / (256 : Int) % (256 : Int), IntKind.u64.wrap oc % (256 : Int), IntKind.u64.wrap (↑n :
     Int) / (256 : Int) % (256 : Int), IntKind.u64.wrap (↑n : Int) % (256 : Int)] ++ List.take (n * (1 : Nat)) xs) ((12 : Nat) + n))])]) else none else none else none else none else none else none else
     none else none else none) (by kernel_rfl) (by simp only [-eq_self, Nat.mul_one]; exact (go_f (dec_f h1) (go_f (dec_f h2) (go_f (dec_f h3) (go_t (chk_t h4) (go_t (chk_t h5) (go_t (chk_t h6) (go_t (chk_t h7) (go_t (chk_t h8) (go_t (ble_t h9) (go_t (and_t (dec_t h10) (ble_t h11)) (go_t h12 (go_t (chk_t h13) rfl)))))))))))))
--CFEND
--CP pErTTTN (v op sq st ac oc) (N : Nat) (xs : List Int) :: fnK Tryd.prog (SErc.on [(12, false), (17, false), (20, false)]) LErN Tryd.f6 [ctv ⟨v, op, true, true, true, sq, st, ac, oc⟩ (.slice none 0 0)] [rU N xs]
theorem pErTTTN (v op sq st ac oc) (N : Nat) (xs : List Int)
    (h1 : ¬v > (7 : Int) := by first | omega | assumption | rfl)
    (h2 : ¬op > (31 : Int) := by first | omega | assumption | rfl)
    (h3 : (0 : Int) ≤ (2 : Int) ∧ (0 : Int) ≤ (2 : Int) ∧ (4 : Int) ≤ (12 : Int) ∧ (12 : Nat) ≤ (1000000 : Nat) ∧ (12 : Nat) = (12 : Nat) := by first | omega | assumption | rfl | ((repeat' with_reducible apply And.intro) <;> first | rfl | assumption | omega))
    (h4 : (0 : Int) ≤ (4 : Int) ∧ (0 : Int) ≤ (2 : Int) ∧ (6 : Int) ≤ (12 : Int) ∧ (12 : Nat) ≤ (1000000 : Nat) ∧ (12 : Nat) = (12 : Nat) := by first | omega | assumption | rfl | ((repeat' with_reducible apply And.intro) <;> first | rfl | assumption | omega))
    (h5 : (0 : Int) ≤ (6 : Int) ∧ (0 : Int) ≤ (2 : Int) ∧ (8 : Int) ≤ (12 : Int) ∧ (12 : Nat) ≤ (1000000 : Nat) ∧ (12 : Nat) = (12 : Nat) := by first | omega | assumption | rfl | ((repeat' with_reducible apply And.intro) <;> first | rfl | assumption | omega))
    (h6 : (0 : Int) ≤ (8 : Int) ∧ (0 : Int) ≤ (2 : Int) ∧ (10 : Int) ≤ (12 : Int) ∧ (12 : Nat) ≤ (1000000 : Nat) ∧ (12 : Nat) = (12 : Nat) := by first | omega | assumption | rfl | ((repeat' with_reducible apply And.intro) <;> first | rfl | assumption | omega))
    (h7 : (0 : Int) ≤ (10 : Int) ∧ (0 : Int) ≤ (2 : Int) ∧ (12 : Int) ≤ (12 : Int) ∧ (12 : Nat) ≤ (1000000 : Nat) ∧ (12 : Nat) = (12 : Nat) := by first | omega | assumption | rfl | ((repeat' with_reducible apply And.intro) <;> first | rfl | assumption | omega)) : fnK Tryd.prog (SErc.on [(12, false), (17, false), (20, false)]) LErN Tryd.f6 [ctv ⟨v, op, true, true, true, sq, st, ac, oc⟩ (.slice none 0 0)] [rU N xs] =
     (some (Res.ret (Value.tuple (Array.mk [Value.slice (some (Addr.mk (1 : Nat) (0 : Nat) none)) (12 : Nat) (0 : Nat), Value.int IntKind.i64 (0 : Int)])) [some (Blk.mk false (1 : Nat) [Seg.ints IntKind.u8
     N xs]), some (Blk.mk true (1 : Nat) [Seg.ints IntKind.u8 (12 : Nat) [IntKind.u8.wrap (IntKind.u8.wrap (v * (8 : Int)) + (6 : Int)), IntKind.u8.wrap (IntKind.u8.wrap (IntKind.u8.wrap (op + (128 : Int))
     + (64 : Int)) + (32 : Int)), IntKind.u64.wrap sq / (256 : Int) % (256 : Int), IntKind.u64.wrap sq % (256 : Int), IntKind.u64.wrap st / (256 : Int) % (256 : Int), IntKind.u64.wrap st % (256 : Int),
     IntKind.u64.wrap ac / (256 : Int) % (256 : Int), IntKind.u64.wrap ac % (256 : Int), IntKind.u64.wrap oc / (256 : Int) % (256 : Int), IntKind.u64.wrap oc % (256 : Int), (0 : Int), (0 : Int)]])])) :=
  Eq.trans (b :=
     bif decide (v > (7 : Int)) then none else bif decide (op > (31 : Int)) then none else bif chk ((0 : Int) ≤ (2 : Int) ∧ (0 : Int) ≤ (2 : Int) ∧ (4 : Int) ≤ (12 : Int) ∧ (12 : Nat) ≤ (1000000 : Nat) ∧
     (12 : Nat) = (12 : Nat)) then bif chk ((0 : Int) ≤ (4 : Int) ∧ (0 : Int) ≤ (2 : Int) ∧ (6 : Int) ≤ (12 : Int) ∧ (12 : Nat) ≤ (1000000 : Nat) ∧ (12 : Nat) = (12 : Nat)) then bif chk ((0 : Int) ≤ (6 :
     Int) ∧ (0 : Int) ≤ (2 : Int) ∧ (8 : Int) ≤ (12 : Int) ∧ (12 : Nat) ≤ (1000000 : Nat) ∧ (12 : Nat) = (12 : Nat)) then bif chk ((0 : Int) ≤ (8 : Int) ∧ (0 : Int) ≤ (2 : Int) ∧ (10 : Int) ≤ (12 : Int) ∧
     (12 : Nat) ≤ (1000000 : Nat) ∧ (12 : Nat) = (12 : Nat)) then bif chk ((0 : Int) ≤ (10 : Int) ∧ (0 : Int) ≤ (2 : Int) ∧ (12 : Int) ≤ (12 : Int) ∧ (12 : Nat) ≤ (1000000 : Nat) ∧ (12 : Nat) = (12 : Nat))
     then some (Res.ret (Value.tuple (Array.mk [Value.slice (some (Addr.mk (1 : Nat) (0 : Nat) none)) (12 : Nat) (0 : Nat), Value.int IntKind.i64 (0 : Int)])) [some (Blk.mk false (1 : Nat) [Seg.ints
     IntKind.u8 N xs]), some (Blk.mk true (1 : Nat) [Seg.ints IntKind.u8 (12 : Nat) [IntKind.u8.wrap (IntKind.u8.wrap (v * (8 : Int)) + (6 : Int)), IntKind.u8.wrap (IntKind.u8.wrap (IntKind.u8.wrap (op +
     (128 : Int)) + (64 : Int)) + (32 : Int)), IntKind.u64.wrap sq / (256 : Int) % (256 : Int), IntKind.u64.wrap sq % (256 : Int), IntKind.u64.wrap st / (256 : Int) % (256 : Int), IntKind.u64.wrap st %
     (256 : Int), IntKind.u64.wrap ac / (256 : Int) % (256 : Int), IntKind.u64.wrap ac % (256 : Int), IntKind.u64.wrap oc / (256 : Int) % (256 : Int), IntKind.u64.wrap oc % (256 : Int), (0 : Int), (0 :
     Int)]])]) else none else none else none else none else none) (by kernel_rfl) (by exact (go_f (dec_f h1) (go_f (dec_f h2) (go_t (chk_t h3) (go_t (chk_t h4) (go_t (chk_t h5) (go_t (chk_t h6) (go_t (chk_t h7) rfl))))))))
--CFEND
--CP pErTTTZ (v op sq st ac oc) (N : Nat) (xs : List Int) :: fnK Tryd.prog (SErc.on [(12, false), (17, false), (20, false)]) LErN Tryd.f6 [ctv ⟨v, op, true, true, true, sq, st, ac, oc⟩ (.slice (some ⟨0, 0, some 0⟩) 0 0)] [rU N xs]
theorem pErTTTZ (v op sq st ac oc) (N : Nat) (xs : List Int)
    (h1 : ¬v > (7 : Int) := by first | omega | assumption | rfl)
    (h2 : ¬op > (31 : Int) := by first | omega | assumption | rfl)
    (h3 : (0 : Int) ≤ (2 : Int) ∧ (0 : Int) ≤ (2 : Int) ∧ (4 : Int) ≤ (12 : Int) ∧ (12 : Nat) ≤ (1000000 : Nat) ∧ (12 : Nat) = (12 : Nat) := by first | omega | assumption | rfl | ((repeat' with_reducible apply And.intro) <;> first | rfl | assumption | omega))
    (h4 : (0 : Int) ≤ (4 : Int) ∧ (0 : Int) ≤ (2 : Int) ∧ (6 : Int) ≤ (12 : Int) ∧ (12 : Nat) ≤ (1000000 : Nat) ∧ (12 : Nat) = (12 : Nat) := by first | omega | assumption | rfl | ((repeat' with_reducible apply And.intro) <;> first | rfl | assumption | omega))
    (h5 : (0 : Int) ≤ (6 : Int) ∧ (0 : Int) ≤ (2 : Int) ∧ (8 : Int) ≤ (12 : Int) ∧ (12 : Nat) ≤ (1000000 : Nat) ∧ (12 : Nat) = (12 : Nat) := by first | omega | assumption | rfl | ((repeat' with_reducible apply And.intro) <;> first | rfl | assumption | omega))
    (h6 : (0 : Int) ≤ (8 : Int) ∧ (0 : Int) ≤ (2 : Int) ∧ (10 : Int) ≤ (12 : Int) ∧ (12 : Nat) ≤ (1000000 : Nat) ∧ (12 : Nat) = (12 : Nat) := by first | omega | assumption | rfl | ((repeat' with_reducible apply And.intro) <;> first | rfl | assumption | omega))
    (h7 : (0 : Int) ≤ (10 : Int) ∧ (0 : Int) ≤ (2 : Int) ∧ (12 : Int) ≤ (12 : Int) ∧ (12 : Nat) ≤ (1000000 : Nat) ∧ (12 : Nat) = (12 : Nat) := by first | omega | assumption | rfl | ((repeat' with_reducible apply And.intro) <;> first | rfl | assumption | omega)) : fnK Tryd.prog (SErc.on [(12, false), (17, false), (20, false)]) LErN Tryd.f6 [ctv ⟨v, op, true, true, true, sq, st, ac, oc⟩ (.slice (some ⟨0, 0, some 0⟩) 0 0)] [rU N xs] =
     (some (Res.ret (Value.tuple (Array.mk [Value.slice (some (Addr.mk (1 : Nat) (0 : Nat) none)) (12 : Nat) (0 : Nat), Value.int IntKind.i64 (0 : Int)])) [some (Blk.mk false (1 : Nat) [Seg.ints IntKind.u8
     N xs]), some (Blk.mk true (1 : Nat) [Seg.ints IntKind.u8 (12 : Nat) [IntKind.u8.wrap (IntKind.u8.wrap (v * (8 : Int)) + (6 : Int)), IntKind.u8.wrap (IntKind.u8.wrap (IntKind.u8.wrap (op + (128 : Int))
     + (64 : Int)) + (32 : Int)), IntKind.u64.wrap sq / (256 : Int) % (256 : Int), IntKind.u64.wrap sq % (256 : Int), IntKind.u64.wrap st / (256 : Int) % (256 : Int), IntKind.u64.wrap st % (256 : Int),
     IntKind.u64.wrap ac / (256 : Int) % (256 : Int), IntKind.u64.wrap ac % (256 : Int), IntKind.u64.wrap oc / (256 : Int) % (256 : Int), IntKind.u64.wrap oc % (256 : Int), (0 : Int), (0 : Int)]])])) :=
  Eq.trans (b :=
     bif decide (v > (7 : Int)) then none else bif decide (op > (31 : Int)) then none else bif chk ((0 : Int) ≤ (2 : Int) ∧ (0 : Int) ≤ (2 : Int) ∧ (4 : Int) ≤ (12 : Int) ∧ (12 : Nat) ≤ (1000000 : Nat) ∧
     (12 : Nat) = (12 : Nat)) then bif chk ((0 : Int) ≤ (4 : Int) ∧ (0 : Int) ≤ (2 : Int) ∧ (6 : Int) ≤ (12 : Int) ∧ (12 : Nat) ≤ (1000000 : Nat) ∧ (12 : Nat) = (12 : Nat)) then bif chk ((0 : Int) ≤ (6 :
     Int) ∧ (0 : Int) ≤ (2 : Int) ∧ (8 : Int) ≤ (12 : Int) ∧ (12 : Nat) ≤ (1000000 : Nat) ∧ (12 : Nat) = (12 : Nat)) then bif chk ((0 : Int) ≤ (8 : Int) ∧ (0 : Int) ≤ (2 : Int) ∧ (10 : Int) ≤ (12 : Int) ∧
     (12 : Nat) ≤ (1000000 : Nat) ∧ (12 : Nat) = (12 : Nat)) then bif chk ((0 : Int) ≤ (10 : Int) ∧ (0 : Int) ≤ (2 : Int) ∧ (12 : Int) ≤ (12 : Int) ∧ (12 : Nat) ≤ (1000000 : Nat) ∧ (12 : Nat) = (12 : Nat))
     then some (Res.ret (Value.tuple (Array.mk [Value.slice (some (Addr.mk (1 : Nat) (0 : Nat) none)) (12 : Nat) (0 : Nat), Value.int IntKind.i64 (0 : Int)])) [some (Blk.mk false (1 : Nat) [Seg.ints
     IntKind.u8 N xs]), some (Blk.mk true (1 : Nat) [Seg.ints IntKind.u8 (12 : Nat) [IntKind.u8.wrap (IntKind.u8.wrap (v * (8 : Int)) + (6 : Int)), IntKind.u8.wrap (IntKind.u8.wrap (IntKind.u8.wrap (op +
     (128 : Int)) + (64 : Int)) + (32 : Int)), IntKind.u64.wrap sq / (256 : Int) % (256 : Int), IntKind.u64.wrap sq % (256 : Int), IntKind.u64.wrap st / (256 : Int) % (256 : Int), IntKind.u64.wrap st %
     (256 : Int), IntKind.u64.wrap ac / (256 : Int) % (256 : Int), IntKind.u64.wrap ac % (256 : Int), IntKind.u64.wrap oc / (256 : Int) % (256 : Int), IntKind.u64.wrap oc % (256 : Int), (0 : Int), (0 :
     Int)]])]) else none else none else none else none else none) (by kernel_rfl) (by exact (go_f (dec_f h1) (go_f (dec_f h2) (go_t (chk_t h3) (go_t (chk_t h4) (go_t (chk_t h5) (go_t (chk_t h6) (go_t (chk_t h7) rfl))))))))
--CFEND
--CP pErTTFP (v op sq st ac oc) (n c N : Nat) (xs : List Int) :: fnK Tryd.prog (SErc.on [(12, false), (17, false), (20, false)]) LErP Tryd.f6 [ctv ⟨v, op, true, true, false, sq, st, ac, oc⟩ (sl 0 n c)] [rU N xs]
theorem pErTTFP (v op sq st ac oc) (n c N : Nat) (xs : List Int)
    (h1 : ¬v > (7 : Int) := by first | omega | assumption | rfl)
    (h2 : ¬op > (31 : Int) := by first | omega | assumption | rfl)
    (h3 : ¬(↑n : Int) > (468 : Int) := by first | omega | assumption | rfl)
    (h4 : (0 : Int) ≤ (2 : Int) ∧ (0 : Int) ≤ (2 : Int) ∧ (4 : Int) ≤ (12 : Int) ∧ (12 : Nat) ≤ (1000000 : Nat) ∧ (12 : Nat) = (12 : Nat) := by first | omega | assumption | rfl | ((repeat' with_reducible apply And.intro) <;> first | rfl | assumption | omega))
    (h5 : (0 : Int) ≤ (4 : Int) ∧ (0 : Int) ≤ (2 : Int) ∧ (6 : Int) ≤ (12 : Int) ∧ (12 : Nat) ≤ (1000000 : Nat) ∧ (12 : Nat) = (12 : Nat) := by first | omega | assumption | rfl | ((repeat' with_reducible apply And.intro) <;> first | rfl | assumption | omega))
    (h6 : (0 : Int) ≤ (6 : Int) ∧ (0 : Int) ≤ (2 : Int) ∧ (8 : Int) ≤ (12 : Int) ∧ (12 : Nat) ≤ (1000000 : Nat) ∧ (12 : Nat) = (12 : Nat) := by first | omega | assumption | rfl | ((repeat' with_reducible apply And.intro) <;> first | rfl | assumption | omega))
    (h7 : (0 : Int) ≤ (8 : Int) ∧ (0 : Int) ≤ (2 : Int) ∧ (10 : Int) ≤ (12 : Int) ∧ (12 : Nat) ≤ (1000000 : Nat) ∧ (12 : Nat) = (12 : Nat) := by first | omega | assumption | rfl | ((repeat' with_reducible apply And.intro) <;> first | rfl | assumption | omega))
    (h8 : (0 : Int) ≤ (10 : Int) ∧ (0 : Int) ≤ (2 : Int) ∧ (12 : Int) ≤ (12 : Int) ∧ (12 : Nat) ≤ (1000000 : Nat) ∧ (12 : Nat) = (12 : Nat) := by first | omega | assumption | rfl | ((repeat' with_reducible apply And.intro) <;> first | rfl | assumption | omega))
    (h9 : n ≤ N := by first | omega | assumption | rfl)
    (h10 : (12 : Nat) + n ≤ (140737488355328 : Nat) := by first | omega | assumption | rfl)
    (h11 : (12 : Nat) + n ≤ (4611686018427387904 : Nat) := by first | omega | assumption | rfl)
    (h12 : (false || Nat.blt (0 : Nat) n) = true := by first | omega | assumption | rfl)
    (h13 : (12 : Nat) + n = (12 : Nat) + n ∧ (12 : Nat) + n ≤ (1000000 : Nat) := by first | omega | assumption | rfl | ((repeat' with_reducible apply And.intro) <;> first | rfl | assumption | omega)) : fnK Tryd.prog (SErc.on [(12, false), (17, false), (20, false)]) LErP Tryd.f6 [ctv ⟨v, op, true, true, false, sq, st, ac, oc⟩ (sl 0 n c)] [rU N xs] =
     (some (Res.ret (Value.tuple (Array.mk [Value.slice (some (Addr.mk (1 : Nat) (0 : Nat) none)) (up4 ((12 : Nat) + n)) (1 : Nat), Value.int IntKind.i64 (0 : Int)])) [some (Blk.mk false (1 : Nat)
     [Seg.ints IntKind.u8 N xs]), some (Blk.mk true (1 : Nat) [Seg.ints IntKind.u8 (up4 ((12 : Nat) + n)) (padL ([IntKind.u8.wrap (IntKind.u8.wrap (v * (8 : Int)) + (6 : Int)), IntKind.u8.wrap
     (IntKind.u8.wrap (op + (128 : Int)) + (64 : Int)), IntKind.u64.wrap sq / (256 : Int) % (256 : Int), IntKind.u64.wrap sq % (256 : Int), IntKind.u64.wrap st / (256 : Int) % (256 : Int), IntKind.u64.wrap
     st % (256 : Int), IntKind.u64.wrap ac / (256 : Int) % (256 : Int), IntKind.u64.wrap ac % (256 : Int), IntKind.u64.wrap oc / (256 : Int) % (256 : Int), IntKind.u64.wrap oc % (256 : Int),
     IntKind.u64.wrap (↑n : Int) / (256 : Int) % (256 : Int), IntKind.u64.wrap (↑n : Int) % (256 : Int)] ++ List.take n xs) ((12 : Nat) + n))])])) :=
  Eq.trans (b :=
     bif decide (v > (7 : Int)) then none else bif decide (op > (31 : Int)) then none else bif decide ((↑n : Int) > (468 : Int)) then none else bif chk ((0 : Int) ≤ (2 : Int) ∧ (0 : Int) ≤ (2 : Int) ∧ (4 :
     Int) ≤ (12 : Int) ∧ (12 : Nat) ≤ (1000000 : Nat) ∧ (12 : Nat) = (12 : Nat)) then bif chk ((0 : Int) ≤ (4 : Int) ∧ (0 : Int) ≤ (2 : Int) ∧ (6 : Int) ≤ (12 : Int) ∧ (12 : Nat) ≤ (1000000 : Nat) ∧ (12 :
     Nat) = (12 : Nat)) then bif chk ((0 : Int) ≤ (6 : Int) ∧ (0 : Int) ≤ (2 : Int) ∧ (8 : Int) ≤ (12 : Int) ∧ (12 : Nat) ≤ (1000000 : Nat) ∧ (12 : Nat) = (12 : Nat)) then bif chk ((0 : Int) ≤ (8 : Int) ∧
     (0 : Int) ≤ (2 : Int) ∧ (10 : Int) ≤ (12 : Int) ∧ (12 : Nat) ≤ (1000000 : Nat) ∧ (12 : Nat) = (12 : Nat)) then bif chk ((0 : Int) ≤ (10 : Int) ∧ (0 : Int) ≤ (2 : Int) ∧ (12 : Int) ≤ (12 : Int) ∧ (12 :
     Nat) ≤ (1000000 : Nat) ∧ (12 : Nat) = (12 : Nat)) then bif (n * (1 : Nat)).ble N then bif decide (((12 : Nat) + n) * (1 : Nat) ≤ (140737488355328 : Nat)) && ((12 : Nat) + n).ble (OfNat.ofNat
     (4611686018427387904 : Nat)) then bif false || Nat.blt (0 : Nat) n then bif chk ((12 : Nat) + n * (1 : Nat) = (12 : Nat) + n ∧ (12 : Nat) + n ≤ (1000000 : Nat)) then some (Res.ret (Value.tuple
     (Array.mk [Value.slice (some (Addr.mk (1 : Nat) (0 : Nat) none)) (up4 ((12 : Nat) + n)) (1 : Nat), Value.int IntKind.i64 (0 : Int)])) [some (Blk.mk false (1 : Nat) [Seg.ints IntKind.u8 N xs]), some
     (Blk.mk true (1 : Nat) [Seg.ints IntKind.u8 (up4 ((12 : Nat) + n)) (padL ([IntKind.u8.wrap (IntKind.u8.wrap (v * (8 : Int)) + (6 : Int)), IntKind.u8.wrap (IntKind.u8.wrap (op + (128 : Int)) + (64 :
     Int)), IntKind.u64.wrap sq / (256 : Int) % (256 : Int), IntKind.u64.wrap sq % (256 : Int), IntKind.u64.wrap st / (256 : Int) % (256 : Int), IntKind.u64.wrap st % (256 : Int), IntKind.u64.wrap ac /
     (256 : Int) % (256 : Int), IntKind.u64.wrap ac % (256 : Int), IntKind.u64.wrap oc / (256 : Int) % (256 : Int), IntKind.u64.wrap oc % (256 : Int), IntKind.u64.wrap (↑n : Int) / (256 : Int) % (256 :
     Int), IntKind.u64.wrap (↑n : Int) % (256 : Int)] ++ List.take (n * (1 : Nat)) xs) ((12 : Nat) + n))])]) else none else none else none else none else none else none else none else none else none) (by kernel_rfl) (by simp only [-eq_self, Nat.mul_one]; exact (go_f (dec_f h1) (go_f (dec_f h2) (go_f (dec_f h3) (go_t (chk_t h4) (go_t (chk_t h5) (go_t (chk_t h6) (go_t (chk_t h7) (go_t (chk_t h8) (go_t (ble_t h9) (go_t (and_t (dec_t h10) (ble_t h11)) (go_t h12 (go_t (chk_t h13) rfl)))))))))))))
--CFEND
--CP pErTTFN (v op sq st ac oc) (N : Nat) (xs : List Int) :: fnK Tryd.prog (SErc.on [(12, false), (17, false), (20, false)]) LErN Tryd.f6 [ctv ⟨v, op, true, true, false, sq, st, ac, oc⟩ (.slice none 0 0)] [rU N xs]
theorem pErTTFN (v op sq st ac oc) (N : Nat) (xs : List Int)
    (h1 : ¬v > (7 : Int) := by first | omega | assumption | rfl)
    (h2 : ¬op > (31 : Int) := by first | omega | assumption | rfl)
    (h3 : (0 : Int) ≤ (2 : Int) ∧ (0 : Int) ≤ (2 : Int) ∧ (4 : Int) ≤ (12 : Int) ∧ (12 : Nat) ≤ (1000000 : Nat) ∧ (12 : Nat) = (12 : Nat) := by first | omega | assumption | rfl | ((repeat' with_reducible apply And.intro) <;> first | rfl | assumption | omega))
    (h4 : (0 : Int) ≤ (4 : Int) ∧ (0 : Int) ≤ (2 : Int) ∧ (6 : Int) ≤ (12 : Int) ∧ (12 : Nat) ≤ (1000000 : Nat) ∧ (12 : Nat) = (12 : Nat) := by first | omega | assumption | rfl | ((repeat' with_reducible apply And.intro) <;> first | rfl | assumption | omega))
    (h5 : (0 : Int) ≤ (6 : Int) ∧ (0 : Int) ≤ (2 : Int) ∧ (8 : Int) ≤ (12 : Int) ∧ (12 : Nat) ≤ (1000000 : Nat) ∧ (12 : Nat) = (12 : Nat) := by first | omega | assumption | rfl | ((repeat' with_reducible apply And.intro) <;> first | rfl | assumption | omega))
    (h6 : (0 : Int) ≤ (8 : Int) ∧ (0 : Int) ≤ (2 : Int) ∧ (10 : Int) ≤ (12 : Int) ∧ (12 : Nat) ≤ (1000000 : Nat) ∧ (12 : Nat) = (12 : Nat) := by first | omega | assumption | rfl | ((repeat' with_reducible apply And.intro) <;> first | rfl | assumption | omega))
    (h7 : (0 : Int) ≤ (10 : Int) ∧ (0 : Int) ≤ (2 : Int) ∧ (12 : Int) ≤ (12 : Int) ∧ (12 : Nat) ≤ (1000000 : Nat) ∧ (12 : Nat) = (12 : Nat) := by first | omega | assumption | rfl | ((repeat' with_reducible apply And.intro) <;> first | rfl | assumption | omega)) : fnK Tryd.prog (SErc.on [(12, false), (17, false), (20, false)]) LErN Tryd.f6 [ctv ⟨v, op, true, true, false, sq, st, ac, oc⟩ (.slice none 0 0)] [rU N xs] =
     (some (Res.ret (Value.tuple (Array.mk [Value.slice (some (Addr.mk (1 : Nat) (0 : Nat) none)) (12 : Nat) (0 : Nat), Value.int IntKind.i64 (0 : Int)])) [some (Blk.mk false (1 : Nat) [Seg.ints IntKind.u8
     N xs]), some (Blk.mk true (1 : Nat) [Seg.ints IntKind.u8 (12 : Nat) [IntKind.u8.wrap (IntKind.u8.wrap (v * (8 : Int)) + (6 : Int)), IntKind.u8.wrap (IntKind.u8.wrap (op + (128 : Int)) + (64 : Int)),
     IntKind.u64.wrap sq / (256 : Int) % (256 : Int), IntKind.u64.wrap sq % (256 : Int), IntKind.u64.wrap st / (256 : Int) % (256 : Int), IntKind.u64.wrap st % (256 : Int), IntKind.u64.wrap ac / (256 :
     Int) % (256 : Int), IntKind.u64.wrap ac % (256 : Int), IntKind.u64.wrap oc / (256 : Int) % (256 : Int), IntKind.u64.wrap oc % (256 : Int), (0 : Int), (0 : Int)]])])) :=
  Eq.trans (b :=
     bif decide (v > (7 : Int)) then none else bif decide (op > (31 : Int)) then none else bif chk ((0 : Int) ≤ (2 : Int) ∧ (0 : Int) ≤ (2 : Int) ∧ (4 : Int) ≤ (12 : Int) ∧ (12 : Nat) ≤ (1000000 : Nat) ∧
     (12 : Nat) = (12 : Nat)) then bif chk ((0 : Int) ≤ (4 : Int) ∧ (0 : Int) ≤ (2 : Int) ∧ (6 : Int) ≤ (12 : Int) ∧ (12 : Nat) ≤ (1000000 : Nat) ∧ (12 : Nat) = (12 : Nat)) then bif chk ((0 : Int) ≤ (6 :
     Int) ∧ (0 : Int) ≤ (2 : Int) ∧ (8 : Int) ≤ (12 : Int) ∧ (12 : Nat) ≤ (1000000 : Nat) ∧ (12 : Nat) = (12 : Nat)) then bif chk ((0 : Int) ≤ (8 : Int) ∧ (0 : Int) ≤ (2 : Int) ∧ (10 : Int) ≤ (12 : Int) ∧
     (12 : Nat) ≤ (1000000 : Nat) ∧ (12 : Nat) = (12 : Nat)) then bif chk ((0 : Int) ≤ (10 : Int) ∧ (0 : Int) ≤ (2 : Int) ∧ (12 : Int) ≤ (12 : Int) ∧ (12 : Nat) ≤ (1000000 : Nat) ∧ (12 : Nat) = (12 : Nat))
     then some (Res.ret (Value.tuple (Array.mk [Value.slice (some (Addr.mk (1 : Nat) (0 : Nat) none)) (12 : Nat) (0 : Nat), Value.int IntKind.i64 (0 : Int)])) [some (Blk.mk false (1 : Nat) [Seg.ints
     IntKind.u8 N xs]), some (Blk.mk true (1 : Nat) [Seg.ints IntKind.u8 (12 : Nat) [IntKind.u8.wrap (IntKind.u8.wrap (v * (8 : Int)) + (6 : Int)), IntKind.u8.wrap (IntKind.u8.wrap (op + (128 : Int)) + (64
     : Int)), IntKind.u64.wrap sq / (256 : Int) % (256 : Int), IntKind.u64.wrap sq % (256 : Int), IntKind.u64.wrap st / (256 : Int) % (256 : Int), IntKind.u64.wrap st % (256 : Int), IntKind.u64.wrap ac /
     (256 : Int) % (256 : Int), IntKind.u64.wrap ac % (256 : Int), IntKind.u64.wrap oc / (256 : Int) % (256 : Int), IntKind.u64.wrap oc % (256 : Int), (0 : Int), (0 : Int)]])]) else none else none else
     none else none else none) (by kernel_rfl) (by exact (go_f (dec_f h1) (go_f (dec_f h2) (go_t (chk_t h3) (go_t (chk_t h4) (go_t (chk_t h5) (go_t (chk_t h6) (go_t (chk_t h7) rfl))))))))
--CFEND
--CP pErTTFZ (v op sq st ac oc) (N : Nat) (xs : List Int) :: fnK Tryd.prog (SErc.on [(12, false), (17, false), (20, false)]) LErN Tryd.f6 [ctv ⟨v, op, true, true, false, sq, st, ac, oc⟩ (.slice (some ⟨0, 0, some 0⟩) 0 0)] [rU N xs]
theorem pErTTFZ (v op sq st ac oc) (N : Nat) (xs : List Int)
    (h1 : ¬v > (7 : Int) := by first | omega | assumption | rfl)
    (h2 : ¬op > (31 : Int) := by first | omega | assumption | rfl)
    (h3 : (0 : Int) ≤ (2 : Int) ∧ (0 : Int) ≤ (2 : Int) ∧ (4 : Int) ≤ (12 : Int) ∧ (12 : Nat) ≤ (1000000 : Nat) ∧ (12 : Nat) = (12 : Nat) := by first | omega | assumption | rfl | ((repeat' with_reducible apply And.intro) <;> first | rfl | assumption | omega))
    (h4 : (0 : Int) ≤ (4 : Int) ∧ (0 : Int) ≤ (2 : Int) ∧ (6 : Int) ≤ (12 : Int) ∧ (12 : Nat) ≤ (1000000 : Nat) ∧ (12 : Nat) = (12 : Nat) := by first | omega | assumption | rfl | ((repeat' with_reducible apply And.intro) <;> first | rfl | assumption | omega))
    (h5 : (0 : Int) ≤ (6 : Int) ∧ (0 : Int) ≤ (2 : Int) ∧ (8 : Int) ≤ (12 : Int) ∧ (12 : Nat) ≤ (1000000 : Nat) ∧ (12 : Nat) = (12 : Nat) := by first | omega | assumption | rfl | ((repeat' with_reducible apply And.intro) <;> first | rfl | assumption | omega))
    (h6 : (0 : Int) ≤ (8 : Int) ∧ (0 : Int) ≤ (2 : Int) ∧ (10 : Int) ≤ (12 : Int) ∧ (12 : Nat) ≤ (1000000 : Nat) ∧ (12 : Nat) = (12 : Nat) := by first | omega | assumption | rfl | ((repeat' with_reducible apply And.intro) <;> first | rfl | assumption | omega))
    (h7 : (0 : Int) ≤ (10 : Int) ∧ (0 : Int) ≤ (2 : Int) ∧ (12 : Int) ≤ (12 : Int) ∧ (12 : Nat) ≤ (1000000 : Nat) ∧ (12 : Nat) = (12 : Nat) := by first | omega | assumption | rfl | ((repeat' with_reducible apply And.intro) <;> first | rfl | assumption | omega)) : fnK Tryd.prog (SErc.on [(12, false), (17, false), (20, false)]) LErN Tryd.f6 [ctv ⟨v, op, true, true, false, sq, st, ac, oc⟩ (.slice (some ⟨0, 0, some 0⟩) 0 0)] [rU N xs] =
     (some (Res.ret (Value.tuple (Array.mk [Value.slice (some (Addr.mk (1 : Nat) (0 : Nat) none)) (12 : Nat) (0 : Nat), Value.int IntKind.i64 (0 : Int)])) [some (Blk.mk false (1 : Nat) [Seg.ints IntKind.u8
     N xs]), some (Blk.mk true (1 : Nat) [Seg.ints IntKind.u8 (12 : Nat) [IntKind.u8.wrap (IntKind.u8.wrap (v * (8 : Int)) + (6 : Int)), IntKind.u8.wrap (IntKind.u8.wrap (op + (128 : Int)) + (64 : Int)),
     IntKind.u64.wrap sq / (256 : Int) % (256 : Int), IntKind.u64.wrap sq % (256 : Int), IntKind.u64.wrap st / (256 : Int) % (256 : Int), IntKind.u64.wrap st % (256 : Int), IntKind.u64.wrap ac / (256 :
     Int) % (256 : Int), IntKind.u64.wrap ac % (256 : Int), IntKind.u64.wrap oc / (256 : Int) % (256 : Int), IntKind.u64.wrap oc % (256 : Int), (0 : Int), (0 : Int)]])])) :=
  Eq.trans (b :=
     bif decide (v > (7 : Int)) then none else bif decide (op > (31 : Int)) then none else bif chk ((0 : Int) ≤ (2 : Int) ∧ (0 : Int) ≤ (2 : Int) ∧ (4 : Int) ≤ (12 : Int) ∧ (12 : Nat) ≤ (1000000 : Nat) ∧
     (12 : Nat) = (12 : Nat)) then bif chk ((0 : Int) ≤ (4 : Int) ∧ (0 : Int) ≤ (2 : Int) ∧ (6 : Int) ≤ (12 : Int) ∧ (12 : Nat) ≤ (1000000 : Nat) ∧ (12 : Nat) = (12 : Nat)) then bif chk ((0 : Int) ≤ (6 :
     Int) ∧ (0 : Int) ≤ (2 : Int) ∧ (8 : Int) ≤ (12 : Int) ∧ (12 : Nat) ≤ (1000000 : Nat) ∧ (12 : Nat) = (12 : Nat)) then bif chk ((0 : Int) ≤ (8 : Int) ∧ (0 : Int) ≤ (2 : Int) ∧ (10 : Int) ≤ (12 : Int) ∧
     (12 : Nat) ≤ (1000000 : Nat) ∧ (12 : Nat) = (12 : Nat)) then bif chk ((0 : Int) ≤ (10 : Int) ∧ (0 : Int) ≤ (2 : Int) ∧ (12 : Int) ≤ (12 : Int) ∧ (12 : Nat) ≤ (1000000 : Nat) ∧ (12 : Nat) = (12 : Nat))
     then some (Res.ret (Value.tuple (Array.mk [Value.slice (some (Addr.mk (1 : Nat) (0 : Nat) none)) (12 : Nat) (0 : Nat), Value.int IntKind.i64 (0 : Int)])) [some (Blk.mk false (1 : Nat) [Seg.ints
     IntKind.u8 N xs]), some (Blk.mk true (1 : Nat) [Seg.ints IntKind.u8 (12 : Nat) [IntKind.u8.wrap (IntKind.u8.wrap (v * (8 : Int)) + (6 : Int)), IntKind.u8.wrap (IntKind.u8.wrap (op + (128 : Int)) + (64
     : Int)), IntKind.u64.wrap sq / (256 : Int) % (256 : Int), IntKind.u64.wrap sq % (256 : Int), IntKind.u64.wrap st / (256 : Int) % (256 : Int), IntKind.u64.wrap st % (256 : Int), IntKind.u64.wrap ac /
     (256 : Int) % (256 : Int), IntKind.u64.wrap ac % (256 : Int), IntKind.u64.wrap oc / (256 : Int) % (256 : Int), IntKind.u64.wrap oc % (256 : Int), (0 : Int), (0 : Int)]])]) else none else none else
     none else none else none) (by kernel_rfl) (by exact (go_f (dec_f h1) (go_f (dec_f h2) (go_t (chk_t h3) (go_t (chk_t h4) (go_t (chk_t h5) (go_t (chk_t h6) (go_t (chk_t h7) rfl))))))))
--CFEND
--CP pErTFTP (v op sq st ac oc) (n c N : Nat) (xs : List Int) :: fnK Tryd.prog (SErc.on [(12, false), (17, false), (20, false)]) LErP Tryd.f6 [ctv ⟨v, op, true, false, true, sq, st, ac, oc⟩ (sl 0 n c)] [rU N xs]
theorem pErTFTP (v op sq st ac oc) (n c N : Nat) (xs : List Int)
    (h1 : ¬v > (7 : Int) := by first | omega | assumption | rfl)
    (h2 : ¬op > (31 : Int) := by first | omega | assumption | rfl)
    (h3 : ¬(↑n : Int) > (468 : Int) := by first | omega | assumption | rfl)
    (h4 : (0 : Int) ≤ (2 : Int) ∧ (0 : Int) ≤ (2 : Int) ∧ (4 : Int) ≤ (12 : Int) ∧ (12 : Nat) ≤ (1000000 : Nat) ∧ (12 : Nat) = (12 : Nat) := by first | omega | assumption | rfl | ((repeat' with_reducible apply And.intro) <;> first | rfl | assumption | omega))
    (h5 : (0 : Int) ≤ (4 : Int) ∧ (0 : Int) ≤ (2 : Int) ∧ (6 : Int) ≤ (12 : Int) ∧ (12 : Nat) ≤ (1000000 : Nat) ∧ (12 : Nat) = (12 : Nat) := by first | omega | assumption | rfl | ((repeat' with_reducible apply And.intro) <;> first | rfl | assumption | omega))
    (h6 : (0 : Int) ≤ (6 : Int) ∧ (0 : Int) ≤ (2 : Int) ∧ (8 : Int) ≤ (12 : Int) ∧ (12 : Nat) ≤ (1000000 : Nat) ∧ (12 : Nat) = (12 : Nat) := by first | omega | assumption | rfl | ((repeat' with_reducible apply And.intro) <;> first | rfl | assumption | omega))
    (h7 : (0 : Int) ≤ (8 : Int) ∧ (0 : Int) ≤ (2 : Int) ∧ (10 : Int) ≤ (12 : Int) ∧ (12 : Nat) ≤ (1000000 : Nat) ∧ (12 : Nat) = (12 : Nat) := by first | omega | assumption | rfl | ((repeat' with_reducible apply And.intro) <;> first | rfl | assumption | omega))
    (h8 : (0 : Int) ≤ (10 : Int) ∧ (0 : Int) ≤ (2 : Int) ∧ (12 : Int) ≤ (12 : Int) ∧ (12 : Nat) ≤ (1000000 : Nat) ∧ (12 : Nat) = (12 : Nat) := by first | omega | assumption | rfl | ((repeat' with_reducible apply And.intro) <;> first | rfl | assumption | omega))
    (h9 : n ≤ N := by first | omega | assumption | rfl)
    (h10 : (12 : Nat) + n ≤ (140737488355328 : Nat) := by first | omega | assumption | rfl)
    (h11 : (12 : Nat) + n ≤ (4611686018427387904 : Nat) := by first | omega | assumption | rfl)
    (h12 : (false || Nat.blt (0 : Nat) n) = true := by first | omega | assumption | rfl)
    (h13 : (12 : Nat) + n = (12 : Nat) + n ∧ (12 : Nat) + n ≤ (1000000 : Nat) := by first | omega | assumption | rfl | ((repeat' with_reducible apply And.intro) <;> first | rfl | assumption | omega)) : fnK Tryd.prog (SErc.on [(12, false), (17, false), (20, false)]) LErP Tryd.f6 [ctv ⟨v, op, true, false, true, sq, st, ac, oc⟩ (sl 0 n c)] [rU N xs] =
     (some (Res.ret (Value.tuple (Array.mk [Value.slice (some (Addr.mk (1 : Nat) (0 : Nat) none)) (up4 ((12 : Nat) + n)) (1 : Nat), Value.int IntKind.i64 (0 : Int)])) [some (Blk.mk false (1 : Nat)
     [Seg.ints IntKind.u8 N xs]), some (Blk.mk true (1 : Nat) [Seg.ints IntKind.u8 (up4 ((12 : Nat) + n)) (padL ([IntKind.u8.wrap (IntKind.u8.wrap (v * (8 : Int)) + (6 : Int)), IntKind.u8.wrap
     (IntKind.u8.wrap (op + (128 : Int)) + (32 : Int)), IntKind.u64.wrap sq / (256 : Int) % (256 : Int), IntKind.u64.wrap sq % (256 : Int), IntKind.u64.wrap st / (256 : Int) % (256 : Int), IntKind.u64.wrap
     st % (256 : Int), IntKind.u64.wrap ac / (256 : Int) % (256 : Int), IntKind.u64.wrap ac % (256 : Int), IntKind.u64.wrap oc / (256 : Int) % (256 : Int), IntKind.u64.wrap oc % (256 : Int),
     IntKind.u64.wrap (↑n : Int) / (256 : Int) % (256 : Int), IntKind.u64.wrap (↑n : Int) % (256 : Int)] ++ List.take n xs) ((12 : Nat) + n))])])) :=
  Eq.trans (b :=
     bif decide (v > (7 : Int)) then none else bif decide (op > (31 : Int)) then none else bif decide ((↑n : Int) > (468 : Int)) then none else bif chk ((0 : Int) ≤ (2 : Int) ∧ (0 : Int) ≤ (2 : Int) ∧ (4 :
     Int) ≤ (12 : Int) ∧ (12 : Nat) ≤ (1000000 : Nat) ∧ (12 : Nat) = (12 : Nat)) then bif chk ((0 : Int) ≤ (4 : Int) ∧ (0 : Int) ≤ (2 : Int) ∧ (6 : Int) ≤ (12 : Int) ∧ (12 : Nat) ≤ (1000000 : Nat) ∧ (12 :
     Nat) = (12 : Nat)) then bif chk ((0 : Int) ≤ (6 : Int) ∧ (0 : Int) ≤ (2 : Int) ∧ (8 : Int) ≤ (12 : Int) ∧ (12 : Nat) ≤ (1000000 : Nat) ∧ (12 : Nat) = (12 : Nat)) then bif chk ((0 : Int) ≤ (8 : Int) ∧
     (0 : Int) ≤ (2 : Int) ∧ (10 : Int) ≤ (12 : Int) ∧ (12 : Nat) ≤ (1000000 : Nat) ∧ (12 : Nat) = (12 : Nat)) then bif chk ((0 : Int) ≤ (10 : Int) ∧ (0 : Int) ≤ (2 : Int) ∧ (12 : Int) ≤ (12 : Int) ∧ (12 :
     Nat) ≤ (1000000 : Nat) ∧ (12 : Nat) = (12 : Nat)) then bif (n * (1 : Nat)).ble N then bif decide (((12 : Nat) + n) * (1 : Nat) ≤ (140737488355328 : Nat)) && ((12 : Nat) + n).ble (OfNat.ofNat
     (4611686018427387904 : Nat)) then bif false || Nat.blt (0 : Nat) n then bif chk ((12 : Nat) + n * (1 : Nat) = (12 : Nat) + n ∧ (12 : Nat) + n ≤ (1000000 : Nat)) then some (Res.ret (Value.tuple
     (Array.mk [Value.slice (some (Addr.mk (1 : Nat) (0 : Nat) none)) (up4 ((12 : Nat) + n)) (1 : Nat), Value.int IntKind.i64 (0 : Int)])) [some (Blk.mk false (1 : Nat) [Seg.ints IntKind.u8 N xs]), some
     (Blk.mk true (1 : Nat) [Seg.ints IntKind.u8 (up4 ((12 : Nat) + n)) (padL ([IntKind.u8.wrap (IntKind.u8.wrap (v * (8 : Int)) + (6 : Int)), IntKind.u8.wrap (IntKind.u8.wrap (op + (128 : Int)) + (32 :
     Int)), IntKind.u64.wrap sq / (256 : Int) % (256 : Int), IntKind.u64.wrap sq % (256 : Int), IntKind.u64.wrap st / (256 : Int) % (256 : Int), IntKind.u64.wrap st % (256 : Int), IntKind.u64.wrap ac /
     (256 : Int) % (256 : Int), IntKind.u64.wrap ac % (256 : Int), IntKind.u64.wrap oc / (256 : Int) % (256 : Int), IntKind.u64.wrap oc % (256 : Int), IntKind.u64.wrap (↑n : Int) / (256 : Int) % (256 :
     Int), IntKind.u64.wrap (↑n : Int) % (256 : Int)] ++ List.take (n * (1 : Nat)) xs) ((12 : Nat) + n))])]) else none else none else none else none else none else none else none else none else none) (by kernel_rfl) (by simp only [-eq_self, Nat.mul_one]; exact (go_f (dec_f h1) (go_f (dec_f h2) (go_f (dec_f h3) (go_t (chk_t h4) (go_t (chk_t h5) (go_t (chk_t h6) (go_t (chk_t h7) (go_t (chk_t h8) (go_t (ble_t h9) (go_t (and_t (dec_t h10) (ble_t h11)) (go_t h12 (go_t (chk_t h13) rfl)))))))))))))
--CFEND
--CP pErTFTN (v op sq st ac oc) (N : Nat) (xs : List Int) :: fnK Tryd.prog (SErc.on [(12, false), (17, false), (20, false)]) LErN Tryd.f6 [ctv ⟨v, op, true, false, true, sq, st, ac, oc⟩ (.slice none 0 0)] [rU N xs]
theorem pErTFTN (v op sq st ac oc) (N : Nat) (xs : List Int)
    (h1 : ¬v > (7 : Int) := by first | omega | assumption | rfl)
    (h2 : ¬op > (31 : Int) := by first | omega | assumption | rfl)
    (h3 : (0 : Int) ≤ (2 : Int) ∧ (0 : Int) ≤ (2 : Int) ∧ (4 : Int) ≤ (12 : Int) ∧ (12 : Nat) ≤ (1000000 : Nat) ∧ (12 : Nat) = (12 : Nat) := by first | omega | assumption | rfl | ((repeat' with_reducible apply And.intro) <;> first | rfl | assumption | omega))
    (h4 : (0 : Int) ≤ (4 : Int) ∧ (0 : Int) ≤ (2 : Int) ∧ (6 : Int) ≤ (12 : Int) ∧ (12 : Nat) ≤ (1000000 : Nat) ∧ (12 : Nat) = (12 : Nat) := by first | omega | assumption | rfl | ((repeat' with_reducible apply And.intro) <;> first | rfl | assumption | omega))
    (h5 : (0 : Int) ≤ (6 : Int) ∧ (0 : Int) ≤ (2 : Int) ∧ (8 : Int) ≤ (12 : Int) ∧ (12 : Nat) ≤ (1000000 : Nat) ∧ (12 : Nat) = (12 : Nat) := by first | omega | assumption | rfl | ((repeat' with_reducible apply And.intro) <;> first | rfl | assumption | omega))
    (h6 : (0 : Int) ≤ (8 : Int) ∧ (0 : Int) ≤ (2 : Int) ∧ (10 : Int) ≤ (12 : Int) ∧ (12 : Nat) ≤ (1000000 : Nat) ∧ (12 : Nat) = (12 : Nat) := by first | omega | assumption | rfl | ((repeat' with_reducible apply And.intro) <;> first | rfl | assumption | omega))
    (h7 : (0 : Int) ≤ (10 : Int) ∧ (0 : Int) ≤ (2 : Int) ∧ (12 : Int) ≤ (12 : Int) ∧ (12 : Nat) ≤ (1000000 : Nat) ∧ (12 : Nat) = (12 : Nat) := by first | omega | assumption | rfl | ((repeat' with_reducible apply And.intro) <;> first | rfl | assumption | omega)) : fnK Tryd.prog (SErc.on [(12, false), (17, false), (20, false)]) LErN Tryd.f6 [ctv ⟨v, op, true, false, true, sq, st, ac, oc⟩ (.slice none 0 0)] [rU N xs] =
     (some (Res.ret (Value.tuple (Array.mk [Value.slice (some (Addr.mk (1 : Nat) (0 : Nat) none)) (12 : Nat) (0 : Nat), Value.int IntKind.i64 (0 : Int)])) [some (Blk.mk false (1 : Nat) [Seg.ints IntKind.u8
     N xs]), some (Blk.mk true (1 : Nat) [Seg.ints IntKind.u8 (12 : Nat) [IntKind.u8.wrap (IntKind.u8.wrap (v * (8 : Int)) + (6 : Int)), IntKind.u8.wrap (IntKind.u8.wrap (op + (128 : Int)) + (32 : Int)),
     IntKind.u64.wrap sq / (256 : Int) % (256 : Int), IntKind.u64.wrap sq % (256 : Int), IntKind.u64.wrap st / (256 : Int) % (256 : Int), IntKind.u64.wrap st % (256 : Int), IntKind.u64.wrap ac / (256 :
     Int) % (256 : Int), IntKind.u64.wrap ac % (256 : Int), IntKind.u64.wrap oc / (256 : Int) % (256 : Int), IntKind.u64.wrap oc % (256 : Int), (0 : Int), (0 : Int)]])])) :=
  Eq.trans (b :=
     bif decide (v > (7 : Int)) then none else bif decide (op > (31 : Int)) then none else bif chk ((0 : Int) ≤ (2 : Int) ∧ (0 : Int) ≤ (2 : Int) ∧ (4 : Int) ≤ (12 : Int) ∧ (12 : Nat) ≤ (1000000 : Nat) ∧
     (12 : Nat) = (12 : Nat)) then bif chk ((0 : Int) ≤ (4 : Int) ∧ (0 : Int) ≤ (2 : Int) ∧ (6 : Int) ≤ (12 : Int) ∧ (12 : Nat) ≤ (1000000 : Nat) ∧ (12 : Nat) = (12 : Nat)) then bif chk ((0 : Int) ≤ (6 :
     Int) ∧ (0 : Int) ≤ (2 : Int) ∧ (8 : Int) ≤ (12 : Int) ∧ (12 : Nat) ≤ (1000000 : Nat) ∧ (12 : Nat) = (12 : Nat)) then bif chk ((0 : Int) ≤ (8 : Int) ∧ (0 : Int) ≤ (2 : Int) ∧ (10 : Int) ≤ (12 : Int) ∧
     (12 : Nat) ≤ (1000000 : Nat) ∧ (12 : Nat) = (12 : Nat)) then bif chk ((0 : Int) ≤ (10 : Int) ∧ (0 : Int) ≤ (2 : Int) ∧ (12 : Int) ≤ (12 : Int) ∧ (12 : Nat) ≤ (1000000 : Nat) ∧ (12 : Nat) = (12 : Nat))
     then some (Res.ret (Value.tuple (Array.mk [Value.slice (some (Addr.mk (1 : Nat) (0 : Nat) none)) (12 : Nat) (0 : Nat), Value.int IntKind.i64 (0 : Int)])) [some (Blk.mk false (1 : Nat) [Seg.ints
     IntKind.u8 N xs]), some (Blk.mk true (1 : Nat) [Seg.ints IntKind.u8 (12 : Nat) [IntKind.u8.wrap (IntKind.u8.wrap (v * (8 : Int)) + (6 : Int)), IntKind.u8.wrap (IntKind.u8.wrap (op + (128 : Int)) + (32
     : Int)), IntKind.u64.wrap sq / (256 : Int) % (256 : Int), IntKind.u64.wrap sq % (256 : Int), IntKind.u64.wrap st / (256 : Int) % (256 : Int), IntKind.u64.wrap st % (256 : Int), IntKind.u64.wrap ac /
     (256 : Int) % (256 : Int), IntKind.u64.wrap ac % (256 : Int), IntKind.u64.wrap oc / (256 : Int) % (256 : Int), IntKind.u64.wrap oc % (256 : Int), (0 : Int), (0 : Int)]])]) else none else none else
     none else none else none) (by kernel_rfl) (by exact (go_f (dec_f h1) (go_f (dec_f h2) (go_t (chk_t h3) (go_t (chk_t h4) (go_t (chk_t h5) (go_t (chk_t h6) (go_t (chk_t h7) rfl))))))))
--CFEND
--CP pErTFTZ (v op sq st ac oc) (N : Nat) (xs : List Int) :: fnK Tryd.prog (SErc.on [(12, false), (17, false), (20, false)]) LErN Tryd.f6 [ctv ⟨v, op, true, false, true, sq, st, ac, oc⟩ (.slice (some ⟨0, 0, some 0⟩) 0 0)] [rU N xs]
theorem pErTFTZ (v op sq st ac oc) (N : Nat) (xs : List Int)
    (h1 : ¬v > (7 : Int) := by first | omega | assumption | rfl)
    (h2 : ¬op > (31 : Int) := by first | omega | assumption | rfl)
    (h3 : (0 : Int) ≤ (2 : Int) ∧ (0 : Int) ≤ (2 : Int) ∧ (4 : Int) ≤ (12 : Int) ∧ (12 : Nat) ≤ (1000000 : Nat) ∧ (12 : Nat) = (12 : Nat) := by first | omega | assumption | rfl | ((repeat' with_reducible apply And.intro) <;> first | rfl | assumption | omega))
    (h4 : (0 : Int) ≤ (4 : Int) ∧ (0 : Int) ≤ (2 : Int) ∧ (6 : Int) ≤ (12 : Int) ∧ (12 : Nat) ≤ (1000000 : Nat) ∧ (12 : Nat) = (12 : Nat) := by first | omega | assumption | rfl | ((repeat' with_reducible apply And.intro) <;> first | rfl | assumption | omega))
    (h5 : (0 : Int) ≤ (6 : Int) ∧ (0 : Int) ≤ (2 : Int) ∧ (8 : Int) ≤ (12 : Int) ∧ (12 : Nat) ≤ (1000000 : Nat) ∧ (12 : Nat) = (12 : Nat) := by first | omega | assumption | rfl | ((repeat' with_reducible apply And.intro) <;> first | rfl | assumption | omega))
    (h6 : (0 : Int) ≤ (8 : Int) ∧ (0 : Int) ≤ (2 : Int) ∧ (10 : Int) ≤ (12 : Int) ∧ (12 : Nat) ≤ (1000000 : Nat) ∧ (12 : Nat) = (12 : Nat) := by first | omega | assumption | rfl | ((repeat' with_reducible apply And.intro) <;> first | rfl | assumption | omega))
    (h7 : (0 : Int) ≤ (10 : Int) ∧ (0 : Int) ≤ (2 : Int) ∧ (12 : Int) ≤ (12 : Int) ∧ (12 : Nat) ≤ (1000000 : Nat) ∧ (12 : Nat) = (12 : Nat) := by first | omega | assumption | rfl | ((repeat' with_reducible apply And.intro) <;> first | rfl | assumption | omega)) : fnK Tryd.prog (SErc.on [(12, false), (17, false), (20, false)]) LErN Tryd.f6 [ctv ⟨v, op, true, false, true, sq, st, ac, oc⟩ (.slice (some ⟨0, 0, some 0⟩) 0 0)] [rU N xs] =
     (some (Res.ret (Value.tuple (Array.mk [Value.slice (some (Addr.mk (1 : Nat) (0 : Nat) none)) (12 : Nat) (0 : Nat), Value.int IntKind.i64 (0 : Int)])) [some (Blk.mk false (1 : Nat) [Seg.ints IntKind.u8
     N xs]), some (Blk.mk true (1 : Nat) [Seg.ints IntKind.u8 (12 : Nat) [IntKind.u8.wrap (IntKind.u8.wrap (v * (8 : Int)) + (6 : Int)), IntKind.u8.wrap (IntKind.u8.wrap (op + (128 : Int)) + (32 : Int)),
     IntKind.u64.wrap sq / (256 : Int) % (256 : Int), IntKind.u64.wrap sq % (256 : Int), IntKind.u64.wrap st / (256 : Int) % (256 : Int), IntKind.u64.wrap st % (256 : Int), IntKind.u64.wrap ac / (256 :
     Int) % (256 : Int), IntKind.u64.wrap ac % (256 : Int), IntKind.u64.wrap oc / (256 : Int) % (256 : Int), IntKind.u64.wrap oc % (256 : Int), (0 : Int), (0 : Int)]])])) :=
  Eq.trans (b :=
     bif decide (v > (7 : Int)) then none else bif decide (op > (31 : Int)) then none else bif chk ((0 : Int) ≤ (2 : Int) ∧ (0 : Int) ≤ (2 : Int) ∧ (4 : Int) ≤ (12 : Int) ∧ (12 : Nat) ≤ (1000000 : Nat) ∧
     (12 : Nat) = (12 : Nat)) then bif chk ((0 : Int) ≤ (4 : Int) ∧ (0 : Int) ≤ (2 : Int) ∧ (6 : Int) ≤ (12 : Int) ∧ (12 : Nat) ≤ (1000000 : Nat) ∧ (12 : Nat) = (12 : Nat)) then bif chk ((0 : Int) ≤ (6 :
     Int) ∧ (0 : Int) ≤ (2 : Int) ∧ (8 : Int) ≤ (12 : Int) ∧ (12 : Nat) ≤ (1000000 : Nat) ∧ (12 : Nat) = (12 : Nat)) then bif chk ((0 : Int) ≤ (8 : Int) ∧ (0 : Int) ≤ (2 : Int) ∧ (10 : Int) ≤ (12 : Int) ∧
     (12 : Nat) ≤ (1000000 : Nat) ∧ (12 : Nat) = (12 : Nat)) then bif chk ((0 : Int) ≤ (10 : Int) ∧ (0 : Int) ≤ (2 : Int) ∧ (12 : Int) ≤ (12 : Int) ∧ (12 : Nat) ≤ (1000000 : Nat) ∧ (12 : Nat) = (12 : Nat))
     then some (Res.ret (Value.tuple (Array.mk [Value.slice (some (Addr.mk (1 : Nat) (0 : Nat) none)) (12 : Nat) (0 : Nat), Value.int IntKind.i64 (0 : Int)])) [some (Blk.mk false (1 : Nat) [Seg.ints
     IntKind.u8 N xs]), some (Blk.mk true (1 : Nat) [Seg.ints IntKind.u8 (12 : Nat) [IntKind.u8.wrap (IntKind.u8.wrap (v * (8 : Int)) + (6 : Int)), IntKind.u8.wrap (IntKind.u8.wrap (op + (128 : Int)) + (32
     : Int)), IntKind.u64.wrap sq / (256 : Int) % (256 : Int), IntKind.u64.wrap sq % (256 : Int), IntKind.u64.wrap st / (256 : Int) % (256 : Int), IntKind.u64.wrap st % (256 : Int), IntKind.u64.wrap ac /
     (256 : Int) % (256 : Int), IntKind.u64.wrap ac % (256 : Int), IntKind.u64.wrap oc / (256 : Int) % (256 : Int), IntKind.u64.wrap oc % (256 : Int), (0 : Int), (0 : Int)]])]) else none else none else
     none else none else none) (by kernel_rfl) (by exact (go_f (dec_f h1) (go_f (dec_f h2) (go_t (chk_t h3) (go_t (chk_t h4) (go_t (chk_t h5) (go_t (chk_t h6) (go_t (chk_t h7) rfl))))))))
--CFEND
--CP pErTFFP (v op sq st ac oc) (n c N : Nat) (xs : List Int) :: fnK Tryd.prog (SErc.on [(12, false), (17, false), (20, false)]) LErP Tryd.f6 [ctv ⟨v, op, true, false, false, sq, st, ac, oc⟩ (sl 0 n c)] [rU N xs]
theorem pErTFFP (v op sq st ac oc) (n c N : Nat) (xs : List Int)
    (h1 : ¬v > (7 : Int) := by first | omega | assumption | rfl)
    (h2 : ¬op > (31 : Int) := by first | omega | assumption | rfl)
    (h3 : ¬(↑n : Int) > (468 : Int) := by first | omega | assumption | rfl)
    (h4 : (0 : Int) ≤ (2 : Int) ∧ (0 : Int) ≤ (2 : Int) ∧ (4 : Int) ≤ (12 : Int) ∧ (12 : Nat) ≤ (1000000 : Nat) ∧ (12 : Nat) = (12 : Nat) := by first | omega | assumption | rfl | ((repeat' with_reducible apply And.intro) <;> first | rfl | assumption | omega))
    (h5 : (0 : Int) ≤ (4 : Int) ∧ (0 : Int) ≤ (2 : Int) ∧ (6 : Int) ≤ (12 : Int) ∧ (12 : Nat) ≤ (1000000 : Nat) ∧ (12 : Nat) = (12 : Nat) := by first | omega | assumption | rfl | ((repeat' with_reducible apply And.intro) <;> first | rfl | assumption | omega))
    (h6 : (0 : Int) ≤ (6 : Int) ∧ (0 : Int) ≤ (2 : Int) ∧ (8 : Int) ≤ (12 : Int) ∧ (12 : Nat) ≤ (1000000 : Nat) ∧ (12 : Nat) = (12 : Nat) := by first | omega | assumption | rfl | ((repeat' with_reducible apply And.intro) <;> first | rfl | assumption | omega))
    (h7 : (0 : Int) ≤ (8 : Int) ∧ (0 : Int) ≤ (2 : Int) ∧ (10 : Int) ≤ (12 : Int) ∧ (12 : Nat) ≤ (1000000 : Nat) ∧ (12 : Nat) = (12 : Nat) := by first | omega | assumption | rfl | ((repeat' with_reducible apply And.intro) <;> first | rfl | assumption | omega))
    (h8 : (0 : Int) ≤ (10 : Int) ∧ (0 : Int) ≤ (2 : Int) ∧ (12 : Int) ≤ (12 : Int) ∧ (12 : Nat) ≤ (1000000 : Nat) ∧ (12 : Nat) = (12 : Nat) := by first | omega | assumption | rfl | ((repeat' with_reducible apply And.intro) <;> first | rfl | assumption | omega))
    (h9 : n ≤ N := by first | omega | assumption | rfl)
    (h10 : (12 : Nat) + n ≤ (140737488355328 : Nat) := by first | omega | assumption | rfl)
    (h11 : (12 : Nat) + n ≤ (4611686018427387904 : Nat) := by first | omega | assumption | rfl)
    (h12 : (false || Nat.blt (0 : Nat) n) = true := by first | omega | assumption | rfl)
    (h13 : (12 : Nat) + n = (12 : Nat) + n ∧ (12 : Nat) + n ≤ (1000000 : Nat) := by first | omega | assumption | rfl | ((repeat' with_reducible apply And.intro) <;> first | rfl | assumption | omega)) : fnK Tryd.prog (SErc.on [(12, false), (17, false), (20, false)]) LErP Tryd.f6 [ctv ⟨v, op, true, false, false, sq, st, ac, oc⟩ (sl 0 n c)] [rU N xs] =
     (some (Res.ret (Value.tuple (Array.mk [Value.slice (some (Addr.mk (1 : Nat) (0 : Nat) none)) (up4 ((12 : Nat) + n)) (1 : Nat), Value.int IntKind.i64 (0 : Int)])) [some (Blk.mk false (1 : Nat)
     [Seg.ints IntKind.u8 N xs]), some (Blk.mk true (1 : Nat) [Seg.ints IntKind.u8 (up4 ((12 : Nat) + n)) (padL ([IntKind.u8.wrap (IntKind.u8.wrap (v * (8 : Int)) + (6 : Int)), IntKind.u8.wrap (op + (128 :
     Int)), IntKind.u64.wrap sq / (256 : Int) % (256 : Int), IntKind.u64.wrap sq % (256 : Int), IntKind.u64.wrap st / (256 : Int) % (256 : Int), IntKind.u64.wrap st % (256 : Int), IntKind.u64.wrap ac /
     (256 : Int) % (256 : Int), IntKind.u64.wrap ac % (256 : Int), IntKind.u64.wrap oc / (256 : Int) % (256 : Int), IntKind.u64.wrap oc % (256 : Int), IntKind.u64.wrap (↑n : Int) / (256 : Int) % (256 :
     Int), IntKind.u64.wrap (↑n : Int) % (256 : Int)] ++ List.take n xs) ((12 : Nat) + n))])])) :=
  Eq.trans (b :=
     bif decide (v > (7 : Int)) then none else bif decide (op > (31 : Int)) then none else bif decide ((↑n : Int) > (468 : Int)) then none else bif chk ((0 : Int) ≤ (2 : Int) ∧ (0 : Int) ≤ (2 : Int) ∧ (4 :
     Int) ≤ (12 : Int) ∧ (12 : Nat) ≤ (1000000 : Nat) ∧ (12 : Nat) = (12 : Nat)) then bif chk ((0 : Int) ≤ (4 : Int) ∧ (0 : Int) ≤ (2 : Int) ∧ (6 : Int) ≤ (12 : Int) ∧ (12 : Nat) ≤ (1000000 : Nat) ∧ (12 :
     Nat) = (12 : Nat)) then bif chk ((0 : Int) ≤ (6 : Int) ∧ (0 : Int) ≤ (2 : Int) ∧ (8 : Int) ≤ (12 : Int) ∧ (12 : Nat) ≤ (1000000 : Nat) ∧ (12 : Nat) = (12 : Nat)) then bif chk ((0 : Int) ≤ (8 : Int) ∧
     (0 : Int) ≤ (2 : Int) ∧ (10 : Int) ≤ (12 : Int) ∧ (12 : Nat) ≤ (1000000 : Nat) ∧ (12 : Nat) = (12 : Nat)) then bif chk ((0 : Int) ≤ (10 : Int) ∧ (0 : Int) ≤ (2 : Int) ∧ (12 : Int) ≤ (12 : Int) ∧ (12 :
     Nat) ≤ (1000000 : Nat) ∧ (12 : Nat) = (12 : Nat)) then bif (n * (1 : Nat)).ble N then bif decide (((12 : Nat) + n) * (1 : Nat) ≤ (140737488355328 : Nat)) && ((12 : Nat) + n).ble (OfNat.ofNat
     (4611686018427387904 : Nat)) then bif false || Nat.blt (0 : Nat) n then bif chk ((12 : Nat) + n * (1 : Nat) = (12 : Nat) + n ∧ (12 : Nat) + n ≤ (1000000 : Nat)) then some (Res.ret (Value.tuple
     (Array.mk [Value.slice (some (Addr.mk (1 : Nat) (0 : Nat) none)) (up4 ((12 : Nat) + n)) (1 : Nat), Value.int IntKind.i64 (0 : Int)])) [some (Blk.mk false (1 : Nat) [Seg.ints IntKind.u8 N xs]), some
     (Blk.mk true (1 : Nat) [Seg.ints IntKind.u8 (up4 ((12 : Nat) + n)) (padL ([IntKind.u8.wrap (IntKind.u8.wrap (v * (8 : Int)) + (6 : Int)), IntKind.u8.wrap (op + (128 : Int)), IntKind.u64.wrap sq / (256
     : Int) % (256 : Int), IntKind.u64.wrap sq % (256 : Int), IntKind.u64.wrap st / (256 : Int) % (256 : Int), IntKind.u64.wrap st % (256 : Int), IntKind.u64.wrap ac / (256 : Int) % (256 : Int),
     IntKind.u64.wrap ac % (256 : Int), IntKind.u64.wrap oc / (256 : Int) % (256 : Int), IntKind.u64.wrap oc % (256 : Int), IntKind.u64.wrap (↑n : Int) / (256 : Int) % (256 : Int), IntKind.u64.wrap (↑n :
     Int) % (256 : Int)] ++ List.take (n * (1 : Nat)) xs) ((12 : Nat) + n))])]) else none else none else none else none else none else none else none else none else none) (by kernel_rfl) (by simp only [-eq_self, Nat.mul_one]; exact (go_f (dec_f h1) (go_f (dec_f h2) (go_f (dec_f h3) (go_t (chk_t h4) (go_t (chk_t h5) (go_t (chk_t h6) (go_t (chk_t h7) (go_t (chk_t h8) (go_t (ble_t h9) (go_t (and_t (dec_t h10) (ble_t h11)) (go_t h12 (go_t (chk_t h13) rfl)))))))))))))
--CFEND
--CP pErTFFN (v op sq st ac oc) (N : Nat) (xs : List Int) :: fnK Tryd.prog (SErc.on [(12, false), (17, false), (20, false)]) LErN Tryd.f6 [ctv ⟨v, op, true, false, false, sq, st, ac, oc⟩ (.slice none 0 0)] [rU N xs]
theorem pErTFFN (v op sq st ac oc) (N : Nat) (xs : List Int)
    (h1 : ¬v > (7 : Int) := by first | omega | assumption | rfl)
    (h2 : ¬op > (31 : Int) := by first | omega | assumption | rfl)
    (h3 : (0 : Int) ≤ (2 : Int) ∧ (0 : Int) ≤ (2 : Int) ∧ (4 : Int) ≤ (12 : Int) ∧ (12 : Nat) ≤ (1000000 : Nat) ∧ (12 : Nat) = (12 : Nat) := by first | omega | assumption | rfl | ((repeat' with_reducible apply And.intro) <;> first | rfl | assumption | omega))
    (h4 : (0 : Int) ≤ (4 : Int) ∧ (0 : Int) ≤ (2 : Int) ∧ (6 : Int) ≤ (12 : Int) ∧ (12 : Nat) ≤ (1000000 : Nat) ∧ (12 : Nat) = (12 : Nat) := by first | omega | assumption | rfl | ((repeat' with_reducible apply And.intro) <;> first | rfl | assumption | omega))
    (h5 : (0 : Int) ≤ (6 : Int) ∧ (0 : Int) ≤ (2 : Int) ∧ (8 : Int) ≤ (12 : Int) ∧ (12 : Nat) ≤ (1000000 : Nat) ∧ (12 : Nat) = (12 : Nat) := by first | omega | assumption | rfl | ((repeat' with_reducible apply And.intro) <;> first | rfl | assumption | omega))
    (h6 : (0 : Int) ≤ (8 : Int) ∧ (0 : Int) ≤ (2 : Int) ∧ (10 : Int) ≤ (12 : Int) ∧ (12 : Nat) ≤ (1000000 : Nat) ∧ (12 : Nat) = (12 : Nat) := by first | omega | assumption | rfl | ((repeat' with_reducible apply And.intro) <;> first | rfl | assumption | omega))
    (h7 : (0 : Int) ≤ (10 : Int) ∧ (0 : Int) ≤ (2 : Int) ∧ (12 : Int) ≤ (12 : Int) ∧ (12 : Nat) ≤ (1000000 : Nat) ∧ (12 : Nat) = (12 : Nat) := by first | omega | assumption | rfl | ((repeat' with_reducible apply And.intro) <;> first | rfl | assumption | omega)) : fnK Tryd.prog (SErc.on [(12, false), (17, false), (20, false)]) LErN Tryd.f6 [ctv ⟨v, op, true, false, false, sq, st, ac, oc⟩ (.slice none 0 0)] [rU N xs] =
     (some (Res.ret (Value.tuple (Array.mk [Value.slice (some (Addr.mk (1 : Nat) (0 : Nat) none)) (12 : Nat) (0 : Nat), Value.int IntKind.i64 (0 : Int)])) [some (Blk.mk false (1 : Nat) [Seg.ints IntKind.u8
     N xs]), some (Blk.mk true (1 : Nat) [Seg.ints IntKind.u8 (12 : Nat) [IntKind.u8.wrap (IntKind.u8.wrap (v * (8 : Int)) + (6 : Int)), IntKind.u8.wrap (op + (128 : Int)), IntKind.u64.wrap sq / (256 :
     Int) % (256 : Int), IntKind.u64.wrap sq % (256 : Int), IntKind.u64.wrap st / (256 : Int) % (256 : Int), IntKind.u64.wrap st % (256 : Int), IntKind.u64.wrap ac / (256 : Int) % (256 : Int),
     IntKind.u64.wrap ac % (256 : Int), IntKind.u64.wrap oc / (256 : Int) % (256 : Int), IntKind.u64.wrap oc % (256 : Int), (0 : Int), (0 : Int)]])])) :=
  Eq.trans (b :=
     bif decide (v > (7 : Int)) then none else bif decide (op > (31 : Int)) then none else bif chk ((0 : Int) ≤ (2 : Int) ∧ (0 : Int) ≤ (2 : Int) ∧ (4 : Int) ≤ (12 : Int) ∧ (12 : Nat) ≤ (1000000 : Nat) ∧
     (12 : Nat) = (12 : Nat)) then bif chk ((0 : Int) ≤ (4 : Int) ∧ (0 : Int) ≤ (2 : Int) ∧ (6 : Int) ≤ (12 : Int) ∧ (12 : Nat) ≤ (1000000 : Nat) ∧ (12 : Nat) = (12 : Nat)) then bif chk ((0 : Int) ≤ (6 :
     Int) ∧ (0 : Int) ≤ (2 : Int) ∧ (8 : Int) ≤ (12 : Int) ∧ (12 : Nat) ≤ (1000000 : Nat) ∧ (12 : Nat) = (12 : Nat)) then bif chk ((0 : Int) ≤ (8 : Int) ∧ (0 : Int) ≤ (2 : Int) ∧ (10 : Int) ≤ (12 : Int) ∧
     (12 : Nat) ≤ (1000000 : Nat) ∧ (12 : Nat) = (12 : Nat)) then bif chk ((0 : Int) ≤ (10 : Int) ∧ (0 : Int) ≤ (2 : Int) ∧ (12 : Int) ≤ (12 : Int) ∧ (12 : Nat) ≤ (1000000 : Nat) ∧ (12 : Nat) = (12 : Nat))
     then some (Res.ret (Value.tuple (Array.mk [Value.slice (some (Addr.mk (1 : Nat) (0 : Nat) none)) (12 : Nat) (0 : Nat), Value.int IntKind.i64 (0 : Int)])) [some (Blk.mk false (1 : Nat) [Seg.ints
     IntKind.u8 N xs]), some (Blk.mk true (1 : Nat) [Seg.ints IntKind.u8 (12 : Nat) [IntKind.u8.wrap (IntKind.u8.wrap (v * (8 : Int)) + (6 : Int)), IntKind.u8.wrap (op + (128 : Int)), IntKind.u64.wrap sq /
     (256 : Int) % (256 : Int), IntKind.u64.wrap sq % (256 : Int), IntKind.u64.wrap st / (256 : Int) % (256 : Int), IntKind.u64.wrap st % (256 : Int), IntKind.u64.wrap ac / (256 : Int) % (256 : Int),
     IntKind.u64.wrap ac % (256 : Int), IntKind.u64.wrap oc / (256 : Int) % (256 : Int), IntKind.u64.wrap oc % (256 : Int), (0 : Int), (0 : Int)]])]) else none else none else none else none else none) (by kernel_rfl) (by exact (go_f (dec_f h1) (go_f (dec_f h2) (go_t (chk_t h3) (go_t (chk_t h4) (go_t (chk_t h5) (go_t (chk_t h6) (go_t (chk_t h7) rfl))))))))
--CFEND
--CP pErTFFZ (v op sq st ac oc) (N : Nat) (xs : List Int) :: fnK Tryd.prog (SErc.on [(12, false), (17, false), (20, false)]) LErN Tryd.f6 [ctv ⟨v, op, true, false, false, sq, st, ac, oc⟩ (.slice (some ⟨0, 0, some 0⟩) 0 0)] [rU N xs]
theorem pErTFFZ (v op sq st ac oc) (N : Nat) (xs : List Int)
    (h1 : ¬v > (7 : Int) := by first | omega | assumption | rfl)
    (h2 : ¬op > (31 : Int) := by first | omega | assumption | rfl)
    (h3 : (0 : Int) ≤ (2 : Int) ∧ (0 : Int) ≤ (2 : Int) ∧ (4 : Int) ≤ (12 : Int) ∧ (12 : Nat) ≤ (1000000 : Nat) ∧ (12 : Nat) = (12 : Nat) := by first | omega | assumption | rfl | ((repeat' with_reducible apply And.intro) <;> first | rfl | assumption | omega))
    (h4 : (0 : Int) ≤ (4 : Int) ∧ (0 : Int) ≤ (2 : Int) ∧ (6 : Int) ≤ (12 : Int) ∧ (12 : Nat) ≤ (1000000 : Nat) ∧ (12 : Nat) = (12 : Nat) := by first | omega | assumption | rfl | ((repeat' with_reducible apply And.intro) <;> first | rfl | assumption | omega))
    (h5 : (0 : Int) ≤ (6 : Int) ∧ (0 : Int) ≤ (2 : Int) ∧ (8 : Int) ≤ (12 : Int) ∧ (12 : Nat) ≤ (1000000 : Nat) ∧ (12 : Nat) = (12 : Nat) := by first | omega | assumption | rfl | ((repeat' with_reducible apply And.intro) <;> first | rfl | assumption | omega))
    (h6 : (0 : Int) ≤ (8 : Int) ∧ (0 : Int) ≤ (2 : Int) ∧ (10 : Int) ≤ (12 : Int) ∧ (12 : Nat) ≤ (1000000 : Nat) ∧ (12 : Nat) = (12 : Nat) := by first | omega | assumption | rfl | ((repeat' with_reducible apply And.intro) <;> first | rfl | assumption | omega))
    (h7 : (0 : Int) ≤ (10 : Int) ∧ (0 : Int) ≤ (2 : Int) ∧ (12 : Int) ≤ (12 : Int) ∧ (12 : Nat) ≤ (1000000 : Nat) ∧ (12 : Nat) = (12 : Nat) := by first | omega | assumption | rfl | ((repeat' with_reducible apply And.intro) <;> first | rfl | assumption | omega)) : fnK Tryd.prog (SErc.on [(12, false), (17, false), (20, false)]) LErN Tryd.f6 [ctv ⟨v, op, true, false, false, sq, st, ac, oc⟩ (.slice (some ⟨0, 0, some 0⟩) 0 0)] [rU N xs] =
     (some (Res.ret (Value.tuple (Array.mk [Value.slice (some (Addr.mk (1 : Nat) (0 : Nat) none)) (12 : Nat) (0 : Nat), Value.int IntKind.i64 (0 : Int)])) [some (Blk.mk false (1 : Nat) [Seg.ints IntKind.u8
     N xs]), some (Blk.mk true (1 : Nat) [Seg.ints IntKind.u8 (12 : Nat) [IntKind.u8.wrap (IntKind.u8.wrap (v * (8 : Int)) + (6 : Int)), IntKind.u8.wrap (op + (128 : Int)), IntKind.u64.wrap sq / (256 :
     Int) % (256 : Int), IntKind.u64.wrap sq % (256 : Int), IntKind.u64.wrap st / (256 : Int) % (256 : Int), IntKind.u64.wrap st % (256 : Int), IntKind.u64.wrap ac / (256 : Int) % (256 : Int),
     IntKind.u64.wrap ac % (256 : Int), IntKind.u64.wrap oc / (256 : Int) % (256 : Int), IntKind.u64.wrap oc % (256 : Int), (0 : Int), (0 : Int)]])])) :=
  Eq.trans (b :=
     bif decide (v > (7 : Int)) then none else bif decide (op > (31 : Int)) then none else bif chk ((0 : Int) ≤ (2 : Int) ∧ (0 : Int) ≤ (2 : Int) ∧ (4 : Int) ≤ (12 : Int) ∧ (12 : Nat) ≤ (1000000 : Nat) ∧
     (12 : Nat) = (12 : Nat)) then bif chk ((0 : Int) ≤ (4 : Int) ∧ (0 : Int) ≤ (2 : Int) ∧ (6 : Int) ≤ (12 : Int) ∧ (12 : Nat) ≤ (1000000 : Nat) ∧ (12 : Nat) = (12 : Nat)) then bif chk ((0 : Int) ≤ (6 :
     Int) ∧ (0 : Int) ≤ (2 : Int) ∧ (8 : Int) ≤ (12 : Int) ∧ (12 : Nat) ≤ (1000000 : Nat) ∧ (12 : Nat) = (12 : Nat)) then bif chk ((0 : Int) ≤ (8 : Int) ∧ (0 : Int) ≤ (2 : Int) ∧ (10 : Int) ≤ (12 : Int) ∧
     (12 : Nat) ≤ (1000000 : Nat) ∧ (12 : Nat) = (12 : Nat)) then bif chk ((0 : Int) ≤ (10 : Int) ∧ (0 : Int) ≤ (2 : Int) ∧ (12 : Int) ≤ (12 : Int) ∧ (12 : Nat) ≤ (1000000 : Nat) ∧ (12 : Nat) = (12 : Nat))
     then some (Res.ret (Value.tuple (Array.mk [Value.slice (some (Addr.mk (1 : Nat) (0 : Nat) none)) (12 : Nat) (0 : Nat), Value.int IntKind.i64 (0 : Int)])) [some (Blk.mk false (1 : Nat) [Seg.ints
     IntKind.u8 N xs]), some (Blk.mk true (1 : Nat) [Seg.ints IntKind.u8 (12 : Nat) [IntKind.u8.wrap (IntKind.u8.wrap (v * (8 : Int)) + (6 : Int)), IntKind.u8.wrap (op + (128 : Int)), IntKind.u64.wrap sq /
     (256 : Int) % (256 : Int), IntKind.u64.wrap sq % (256 : Int), IntKind.u64.wrap st / (256 : Int) % (256 : Int), IntKind.u64.wrap st % (256 : Int), IntKind.u64.wrap ac / (256 : Int) % (256 : Int),
     IntKind.u64.wrap ac % (256 : Int), IntKind.u64.wrap oc / (256 : Int) % (256 : Int), IntKind.u64.wrap oc % (256 : Int), (0 : Int), (0 : Int)]])]) else none else none else none else none else none) (by kernel_rfl) (by exact (go_f (dec_f h1) (go_f (dec_f h2) (go_t (chk_t h3) (go_t (chk_t h4) (go_t (chk_t h5) (go_t (chk_t h6) (go_t (chk_t h7) rfl))))))))
--CFEND
--CP pErFTTP (v op sq st ac oc) (n c N : Nat) (xs : List Int) :: fnK Tryd.prog (SErc.on [(12, false), (17, false), (20, false)]) LErP Tryd.f6 [ctv ⟨v, op, false, true, true, sq, st, ac, oc⟩ (sl 0 n c)] [rU N xs]
theorem pErFTTP (v op sq st ac oc) (n c N : Nat) (xs : List Int)
    (h1 : ¬v > (7 : Int) := by first | omega | assumption | rfl)
    (h2 : ¬op > (31 : Int) := by first | omega | assumption | rfl)
    (h3 : ¬(↑n : Int) > (468 : Int) := by first | omega | assumption | rfl)
    (h4 : (0 : Int) ≤ (2 : Int) ∧ (0 : Int) ≤ (2 : Int) ∧ (4 : Int) ≤ (12 : Int) ∧ (12 : Nat) ≤ (1000000 : Nat) ∧ (12 : Nat) = (12 : Nat) := by first | omega | assumption | rfl | ((repeat' with_reducible apply And.intro) <;> first | rfl | assumption | omega))
    (h5 : (0 : Int) ≤ (4 : Int) ∧ (0 : Int) ≤ (2 : Int) ∧ (6 : Int) ≤ (12 : Int) ∧ (12 : Nat) ≤ (1000000 : Nat) ∧ (12 : Nat) = (12 : Nat) := by first | omega | assumption | rfl | ((repeat' with_reducible apply And.intro) <;> first | rfl | assumption | omega))
    (h6 : (0 : Int) ≤ (6 : Int) ∧ (0 : Int) ≤ (2 : Int) ∧ (8 : Int) ≤ (12 : Int) ∧ (12 : Nat) ≤ (1000000 : Nat) ∧ (12 : Nat) = (12 : Nat) := by first | omega | assumption | rfl | ((repeat' with_reducible apply And.intro) <;> first | rfl | assumption | omega))
    (h7 : (0 : Int) ≤ (8 : Int) ∧ (0 : Int) ≤ (2 : Int) ∧ (10 : Int) ≤ (12 : Int) ∧ (12 : Nat) ≤ (1000000 : Nat) ∧ (12 : Nat) = (12 : Nat) := by first | omega | assumption | rfl | ((repeat' with_reducible apply And.intro) <;> first | rfl | assumption | omega))
    (h8 : (0 : Int) ≤ (10 : Int) ∧ (0 : Int) ≤ (2 : Int) ∧ (12 : Int) ≤ (12 : Int) ∧ (12 : Nat) ≤ (1000000 : Nat) ∧ (12 : Nat) = (12 : Nat) := by first | omega | assumption | rfl | ((repeat' with_reducible apply And.intro) <;> first | rfl | assumption | omega))
    (h9 : n ≤ N := by first | omega | assumption | rfl)
    (h10 : (12 : Nat) + n ≤ (140737488355328 : Nat) := by first | omega | assumption | rfl)
    (h11 : (12 : Nat) + n ≤ (4611686018427387904 : Nat) := by first | omega | assumption | rfl)
    (h12 : (false || Nat.blt (0 : Nat) n) = true := by first | omega | assumption | rfl)
    (h13 : (12 : Nat) + n = (12 : Nat) + n ∧ (12 : Nat) + n ≤ (1000000 : Nat) := by first | omega | assumption | rfl | ((repeat' with_reducible apply And.intro) <;> first | rfl | assumption | omega)) : fnK Tryd.prog (SErc.on [(12, false), (17, false), (20, false)]) LErP Tryd.f6 [ctv ⟨v, op, false, true, true, sq, st, ac, oc⟩ (sl 0 n c)] [rU N xs] =
     (some (Res.ret (Value.tuple (Array.mk [Value.slice (some (Addr.mk (1 : Nat) (0 : Nat) none)) (up4 ((12 : Nat) + n)) (1 : Nat), Value.int IntKind.i64 (0 : Int)])) [some (Blk.mk false (1 : Nat)
     [Seg.ints IntKind.u8 N xs]), some (Blk.mk true (1 : Nat) [Seg.ints IntKind.u8 (up4 ((12 : Nat) + n)) (padL ([IntKind.u8.wrap (IntKind.u8.wrap (v * (8 : Int)) + (6 : Int)), IntKind.u8.wrap
     (IntKind.u8.wrap (op + (64 : Int)) + (32 : Int)), IntKind.u64.wrap sq / (256 : Int) % (256 : Int), IntKind.u64.wrap sq % (256 : Int), IntKind.u64.wrap st / (256 : Int) % (256 : Int), IntKind.u64.wrap
     st % (256 : Int), IntKind.u64.wrap ac / (256 : Int) % (256 : Int), IntKind.u64.wrap ac % (256 : Int), IntKind.u64.wrap oc / (256 : Int) % (256 : Int), IntKind.u64.wrap oc % (256 : Int),
     IntKind.u64.wrap (↑n : Int) / (256 : Int) % (256 : Int), IntKind.u64.wrap (↑n : Int) % (256 : Int)] ++ List.take n xs) ((12 : Nat) + n))])])) :=
  Eq.trans (b :=
     bif decide (v > (7 : Int)) then none else bif decide (op > (31 : Int)) then none else bif decide ((↑n : Int) > (468 : Int)) then none else bif chk ((0 : Int) ≤ (2 : Int) ∧ (0 : Int) ≤ (2 : Int) ∧ (4 :
     Int) ≤ (12 : Int) ∧ (12 : Nat) ≤ (1000000 : Nat) ∧ (12 : Nat) = (12 : Nat)) then bif chk ((0 : Int) ≤ (4 : Int) ∧ (0 : Int) ≤ (2 : Int) ∧ (6 : Int) ≤ (12 : Int) ∧ (12 : Nat) ≤ (1000000 : Nat) ∧ (12 :
     Nat) = (12 : Nat)) then bif chk ((0 : Int) ≤ (6 : Int) ∧ (0 : Int) ≤ (2 : Int) ∧ (8 : Int) ≤ (12 : Int) ∧ (12 : Nat) ≤ (1000000 : Nat) ∧ (12 : Nat) = (12 : Nat)) then bif chk ((0 : Int) ≤ (8 : Int) ∧
     (0 : Int) ≤ (2 : Int) ∧ (10 : Int) ≤ (12 : Int) ∧ (12 : Nat) ≤ (1000000 : Nat) ∧ (12 : Nat) = (12 : Nat)) then bif chk ((0 : Int) ≤ (10 : Int) ∧ (0 : Int) ≤ (2 : Int) ∧ (12 : Int) ≤ (12 : Int) ∧ (12 :
     Nat) ≤ (1000000 : Nat) ∧ (12 : Nat) = (12 : Nat)) then bif (n * (1 : Nat)).ble N then bif decide (((12 : Nat) + n) * (1 : Nat) ≤ (140737488355328 : Nat)) && ((12 : Nat) + n).ble (OfNat.ofNat
     (4611686018427387904 : Nat)) then bif false || Nat.blt (0 : Nat) n then bif chk ((12 : Nat) + n * (1 : Nat) = (12 : Nat) + n ∧ (12 : Nat) + n ≤ (1000000 : Nat)) then some (Res.ret (Value.tuple
     (Array.mk [Value.slice (some (Addr.mk (1 : Nat) (0 : Nat) none)) (up4 ((12 : Nat) + n)) (1 : Nat), Value.int IntKind.i64 (0 : Int)])) [some (Blk.mk false (1 : Nat) [Seg.ints IntKind.u8 N xs]), some
     (Blk.mk true (1 : Nat) [Seg.ints IntKind.u8 (up4 ((12 : Nat) + n)) (padL ([IntKind.u8.wrap (IntKind.u8.wrap (v * (8 : Int)) + (6 : Int)), IntKind.u8.wrap (IntKind.u8.wrap (op + (64 : Int)) + (32 :
     Int)), IntKind.u64.wrap sq / (256 : Int) % (256 : Int), IntKind.u64.wrap sq % (256 : Int), IntKind.u64.wrap st / (256 : Int) % (256 : Int), IntKind.u64.wrap st % (256 : Int), IntKind.u64.wrap ac /
     (256 : Int) % (256 : Int), IntKind.u64.wrap ac % (256 : Int), IntKind.u64.wrap oc / (256 : Int) % (256 : Int), IntKind.u64.wrap oc % (256 : Int), IntKind.u64.wrap (↑n : Int) / (256 : Int) % (256 :
     Int), IntKind.u64.wrap (↑n : Int) % (256 : Int)] ++ List.take (n * (1 : Nat)) xs) ((12 : Nat) + n))])]) else none else none else none else none else none else none else none else none else none) (by kernel_rfl) (by simp only [-eq_self, Nat.mul_one]; exact (go_f (dec_f h1) (go_f (dec_f h2) (go_f (dec_f h3) (go_t (chk_t h4) (go_t (chk_t h5) (go_t (chk_t h6) (go_t (chk_t h7) (go_t (chk_t h8) (go_t (ble_t h9) (go_t (and_t (dec_t h10) (ble_t h11)) (go_t h12 (go_t (chk_t h13) rfl)))))))))))))
--CFEND
--CP pErFTTN (v op sq st ac oc) (N : Nat) (xs : List Int) :: fnK Tryd.prog (SErc.on [(12, false), (17, false), (20, false)]) LErN Tryd.f6 [ctv ⟨v, op, false, true, true, sq, st, ac, oc⟩ (.slice none 0 0)] [rU N xs]
theorem pErFTTN (v op sq st ac oc) (N : Nat) (xs : List Int)
    (h1 : ¬v > (7 : Int) := by first | omega | assumption | rfl)
    (h2 : ¬op > (31 : Int) := by first | omega | assumption | rfl)
    (h3 : (0 : Int) ≤ (2 : Int) ∧ (0 : Int) ≤ (2 : Int) ∧ (4 : Int) ≤ (12 : Int) ∧ (12 : Nat) ≤ (1000000 : Nat) ∧ (12 : Nat) = (12 : Nat) := by first | omega | assumption | rfl | ((repeat' with_reducible apply And.intro) <;> first | rfl | assumption | omega))
    (h4 : (0 : Int) ≤ (4 : Int) ∧ (0 : Int) ≤ (2 : Int) ∧ (6 : Int) ≤ (12 : Int) ∧ (12 : Nat) ≤ (1000000 : Nat) ∧ (12 : Nat) = (12 : Nat) := by first | omega | assumption | rfl | ((repeat' with_reducible apply And.intro) <;> first | rfl | assumption | omega))
    (h5 : (0 : Int) ≤ (6 : Int) ∧ (0 : Int) ≤ (2 : Int) ∧ (8 : Int) ≤ (12 : Int) ∧ (12 : Nat) ≤ (1000000 : Nat) ∧ (12 : Nat) = (12 : Nat) := by first | omega | assumption | rfl | ((repeat' with_reducible apply And.intro) <;> first | rfl | assumption | omega))
    (h6 : (0 : Int) ≤ (8 : Int) ∧ (0 : Int) ≤ (2 : Int) ∧ (10 : Int) ≤ (12 : Int) ∧ (12 : Nat) ≤ (1000000 : Nat) ∧ (12 : Nat) = (12 : Nat) := by first | omega | assumption | rfl | ((repeat' with_reducible apply And.intro) <;> first | rfl | assumption | omega))
    (h7 : (0 : Int) ≤ (10 : Int) ∧ (0 : Int) ≤ (2 : Int) ∧ (12 : Int) ≤ (12 : Int) ∧ (12 : Nat) ≤ (1000000 : Nat) ∧ (12 : Nat) = (12 : Nat) := by first | omega | assumption | rfl | ((repeat' with_reducible apply And.intro) <;> first | rfl | assumption | omega)) : fnK Tryd.prog (SErc.on [(12, false), (17, false), (20, false)]) LErN Tryd.f6 [ctv ⟨v, op, false, true, true, sq, st, ac, oc⟩ (.slice none 0 0)] [rU N xs] =
     (some (Res.ret (Value.tuple (Array.mk [Value.slice (some (Addr.mk (1 : Nat) (0 : Nat) none)) (12 : Nat) (0 : Nat), Value.int IntKind.i64 (0 : Int)])) [some (Blk.mk false (1 : Nat) [Seg.ints IntKind.u8
     N xs]), some (Blk.mk true (1 : Nat) [Seg.ints IntKind.u8 (12 : Nat) [IntKind.u8.wrap (IntKind.u8.wrap (v * (8 : Int)) + (6 : Int)), IntKind.u8.wrap (IntKind.u8.wrap (op + (64 : Int)) + (32 : Int)),
     IntKind.u64.wrap sq / (256 : Int) % (256 : Int), IntKind.u64.wrap sq % (256 : Int), IntKind.u64.wrap st / (256 : Int) % (256 : Int), IntKind.u64.wrap st % (256 : Int), IntKind.u64.wrap ac / (256 :
     Int) % (256 : Int), IntKind.u64.wrap ac % (256 : Int), IntKind.u64.wrap oc / (256 : Int) % (256 : Int), IntKind.u64.wrap oc % (256 : Int), (0 : Int), (0 : Int)]])])) :=
  Eq.trans (b :=
     bif decide (v > (7 : Int)) then none else bif decide (op > (31 : Int)) then none else bif chk ((0 : Int) ≤ (2 : Int) ∧ (0 : Int) ≤ (2 : Int) ∧ (4 : Int) ≤ (12 : Int) ∧ (12 : Nat) ≤ (1000000 : Nat) ∧
     (12 : Nat) = (12 : Nat)) then bif chk ((0 : Int) ≤ (4 : Int) ∧ (0 : Int) ≤ (2 : Int) ∧ (6 : Int) ≤ (12 : Int) ∧ (12 : Nat) ≤ (1000000 : Nat) ∧ (12 : Nat) = (12 : Nat)) then bif chk ((0 : Int) ≤ (6 :
     Int) ∧ (0 : Int) ≤ (2 : Int) ∧ (8 : Int) ≤ (12 : Int) ∧ (12 : Nat) ≤ (1000000 : Nat) ∧ (12 : Nat) = (12 : Nat)) then bif chk ((0 : Int) ≤ (8 : Int) ∧ (0 : Int) ≤ (2 : Int) ∧ (10 : Int) ≤ (12 : Int) ∧
     (12 : Nat) ≤ (1000000 : Nat) ∧ (12 : Nat) = (12 : Nat)) then bif chk ((0 : Int) ≤ (10 : Int) ∧ (0 : Int) ≤ (2 : Int) ∧ (12 : Int) ≤ (12 : Int) ∧ (12 : Nat) ≤ (1000000 : Nat) ∧ (12 : Nat) = (12 : Nat))
     then some (Res.ret (Value.tuple (Array.mk [Value.slice (some (Addr.mk (1 : Nat) (0 : Nat) none)) (12 : Nat) (0 : Nat), Value.int IntKind.i64 (0 : Int)])) [some (Blk.mk false (1 : Nat) [Seg.ints
     IntKind.u8 N xs]), some (Blk.mk true (1 : Nat) [Seg.ints IntKind.u8 (12 : Nat) [IntKind.u8.wrap (IntKind.u8.wrap (v * (8 : Int)) + (6 : Int)), IntKind.u8.wrap (IntKind.u8.wrap (op + (64 : Int)) + (32
     : Int)), IntKind.u64.wrap sq / (256 : Int) % (256 : Int), IntKind.u64.wrap sq % (256 : Int), IntKind.u64.wrap st / (256 : Int) % (256 : Int), IntKind.u64.wrap st % (256 : Int), IntKind.u64.wrap ac /
     (256 : Int) % (256 : Int), IntKind.u64.wrap ac % (256 : Int), IntKind.u64.wrap oc / (256 : Int) % (256 : Int), IntKind.u64.wrap oc % (256 : Int), (0 : Int), (0 : Int)]])]) else none else none else
     none else none else none) (by kernel_rfl) (by exact (go_f (dec_f h1) (go_f (dec_f h2) (go_t (chk_t h3) (go_t (chk_t h4) (go_t (chk_t h5) (go_t (chk_t h6) (go_t (chk_t h7) rfl))))))))
--CFEND
--CP pErFTTZ (v op sq st ac oc) (N : Nat) (xs : List Int) :: fnK Tryd.prog (SErc.on [(12, false), (17, false), (20, false)]) LErN Tryd.f6 [ctv ⟨v, op, false, true, true, sq, st, ac, oc⟩ (.slice (some ⟨0, 0, some 0⟩) 0 0)] [rU N xs]
theorem pErFTTZ (v op sq st ac oc) (N : Nat) (xs : List Int)
    (h1 : ¬v > (7 : Int) := by first | omega | assumption | rfl)
    (h2 : ¬op > (31 : Int) := by first | omega | assumption | rfl)
    (h3 : (0 : Int) ≤ (2 : Int) ∧ (0 : Int) ≤ (2 : Int) ∧ (4 : Int) ≤ (12 : Int) ∧ (12 : Nat) ≤ (1000000 : Nat) ∧ (12 : Nat) = (12 : Nat) := by first | omega | assumption | rfl | ((repeat' with_reducible apply And.intro) <;> first | rfl | assumption | omega))
    (h4 : (0 : Int) ≤ (4 : Int) ∧ (0 : Int) ≤ (2 : Int) ∧ (6 : Int) ≤ (12 : Int) ∧ (12 : Nat) ≤ (1000000 : Nat) ∧ (12 : Nat) = (12 : Nat) := by first | omega | assumption | rfl | ((repeat' with_reducible apply And.intro) <;> first | rfl | assumption | omega))
    (h5 : (0 : Int) ≤ (6 : Int) ∧ (0 : Int) ≤ (2 : Int) ∧ (8 : Int) ≤ (12 : Int) ∧ (12 : Nat) ≤ (1000000 : Nat) ∧ (12 : Nat) = (12 : Nat) := by first | omega | assumption | rfl | ((repeat' with_reducible apply And.intro) <;> first | rfl | assumption | omega))
    (h6 : (0 : Int) ≤ (8 : Int) ∧ (0 : Int) ≤ (2 : Int) ∧ (10 : Int) ≤ (12 : Int) ∧ (12 : Nat) ≤ (1000000 : Nat) ∧ (12 : Nat) = (12 : Nat) := by first | omega | assumption | rfl | ((repeat' with_reducible apply And.intro) <;> first | rfl | assumption | omega))
    (h7 : (0 : Int) ≤ (10 : Int) ∧ (0 : Int) ≤ (2 : Int) ∧ (12 : Int) ≤ (12 : Int) ∧ (12 : Nat) ≤ (1000000 : Nat) ∧ (12 : Nat) = (12 : Nat) := by first | omega | assumption | rfl | ((repeat' with_reducible apply And.intro) <;> first | rfl | assumption | omega)) : fnK Tryd.prog (SErc.on [(12, false), (17, false), (20, false)]) LErN Tryd.f6 [ctv ⟨v, op, false, true, true, sq, st, ac, oc⟩ (.slice (some ⟨0, 0, some 0⟩) 0 0)] [rU N xs] =
     (some (Res.ret (Value.tuple (Array.mk [Value.slice (some (Addr.mk (1 : Nat) (0 : Nat) none)) (12 : Nat) (0 : Nat), Value.int IntKind.i64 (0 : Int)])) [some (Blk.mk false (1 : Nat) [Seg.ints IntKind.u8
     N xs]), some (Blk.mk true (1 : Nat) [Seg.ints IntKind.u8 (12 : Nat) [IntKind.u8.wrap (IntKind.u8.wrap (v * (8 : Int)) + (6 : Int)), IntKind.u8.wrap (IntKind.u8.wrap (op + (64 : Int)) + (32 : Int)),
     IntKind.u64.wrap sq / (256 : Int) % (256 : Int), IntKind.u64.wrap sq % (256 : Int), IntKind.u64.wrap st / (256 : Int) % (256 : Int), IntKind.u64.wrap st % (256 : Int), IntKind.u64.wrap ac / (256 :
     Int) % (256 : Int), IntKind.u64.wrap ac % (256 : Int), IntKind.u64.wrap oc / (256 : Int) % (256 : Int), IntKind.u64.wrap oc % (256 : Int), (0 : Int), (0 : Int)]])])) :=
  Eq.trans (b :=
     bif decide (v > (7 : Int)) then none else bif decide (op > (31 : Int)) then none else bif chk ((0 : Int) ≤ (2 : Int) ∧ (0 : Int) ≤ (2 : Int) ∧ (4 : Int) ≤ (12 : Int) ∧ (12 : Nat) ≤ (1000000 : Nat) ∧
     (12 : Nat) = (12 : Nat)) then bif chk ((0 : Int) ≤ (4 : Int) ∧ (0 : Int) ≤ (2 : Int) ∧ (6 : Int) ≤ (12 : Int) ∧ (12 : Nat) ≤ (1000000 : Nat) ∧ (12 : Nat) = (12 : Nat)) then bif chk ((0 : Int) ≤ (6 :
     Int) ∧ (0 : Int) ≤ (2 : Int) ∧ (8 : Int) ≤ (12 : Int) ∧ (12 : Nat) ≤ (1000000 : Nat) ∧ (12 : Nat) = (12 : Nat)) then bif chk ((0 : Int) ≤ (8 : Int) ∧ (0 : Int) ≤ (2 : Int) ∧ (10 : Int) ≤ (12 : Int) ∧
     (12 : Nat) ≤ (1000000 : Nat) ∧ (12 : Nat) = (12 : Nat)) then bif chk ((0 : Int) ≤ (10 : Int) ∧ (0 : Int) ≤ (2 : Int) ∧ (12 : Int) ≤ (12 : Int) ∧ (12 : Nat) ≤ (1000000 : Nat) ∧ (12 : Nat) = (12 : Nat))
     then some (Res.ret (Value.tuple (Array.mk [Value.slice (some (Addr.mk (1 : Nat) (0 : Nat) none)) (12 : Nat) (0 : Nat), Value.int IntKind.i64 (0 : Int)])) [some (Blk.mk false (1 : Nat) [Seg.ints
     IntKind.u8 N xs]), some (Blk.mk true (1 : Nat) [Seg.ints IntKind.u8 (12 : Nat) [IntKind.u8.wrap (IntKind.u8.wrap (v * (8 : Int)) + (6 : Int)), IntKind.u8.wrap (IntKind.u8.wrap (op + (64 : Int)) + (32
     : Int)), IntKind.u64.wrap sq / (256 : Int) % (256 : Int), IntKind.u64.wrap sq % (256 : Int), IntKind.u64.wrap st / (256 : Int) % (256 : Int), IntKind.u64.wrap st % (256 : Int), IntKind.u64.wrap ac /
     (256 : Int) % (256 : Int), IntKind.u64.wrap ac % (256 : Int), IntKind.u64.wrap oc / (256 : Int) % (256 : Int), IntKind.u64.wrap oc % (256 : Int), (0 : Int), (0 : Int)]])]) else none else none else
     none else none else none) (by kernel_rfl) (by exact (go_f (dec_f h1) (go_f (dec_f h2) (go_t (chk_t h3) (go_t (chk_t h4) (go_t (chk_t h5) (go_t (chk_t h6) (go_t (chk_t h7) rfl))))))))
--CFEND
--CP pErFTFP (v op sq st ac oc) (n c N : Nat) (xs : List Int) :: fnK Tryd.prog (SErc.on [(12, false), (17, false), (20, false)]) LErP Tryd.f6 [ctv ⟨v, op, false, true, false, sq, st, ac, oc⟩ (sl 0 n c)] [rU N xs]
theorem pErFTFP (v op sq st ac oc) (n c N : Nat) (xs : List Int)
    (h1 : ¬v > (7 : Int) := by first | omega | assumption | rfl)
    (h2 : ¬op > (31 : Int) := by first | omega | assumption | rfl)
    (h3 : ¬(↑n : Int) > (468 : Int) := by first | omega | assumption | rfl)
    (h4 : (0 : Int) ≤ (2 : Int) ∧ (0 : Int) ≤ (2 : Int) ∧ (4 : Int) ≤ (12 : Int) ∧ (12 : Nat) ≤ (1000000 : Nat) ∧ (12 : Nat) = (12 : Nat) := by first | omega | assumption | rfl | ((repeat' with_reducible apply And.intro) <;> first | rfl | assumption | omega))
    (h5 : (0 : Int) ≤ (4 : Int) ∧ (0 : Int) ≤ (2 : Int) ∧ (6 : Int) ≤ (12 : Int) ∧ (12 : Nat) ≤ (1000000 : Nat) ∧ (12 : Nat) = (12 : Nat) := by first | omega | assumption | rfl | ((repeat' with_reducible apply And.intro) <;> first | rfl | assumption | omega))
    (h6 : (0 : Int) ≤ (6 : Int) ∧ (0 : Int) ≤ (2 : Int) ∧ (8 : Int) ≤ (12 : Int) ∧ (12 : Nat) ≤ (1000000 : Nat) ∧ (12 : Nat) = (12 : Nat) := by first | omega | assumption | rfl | ((repeat' with_reducible apply And.intro) <;> first | rfl | assumption | omega))
    (h7 : (0 : Int) ≤ (8 : Int) ∧ (0 : Int) ≤ (2 : Int) ∧ (10 : Int) ≤ (12 : Int) ∧ (12 : Nat) ≤ (1000000 : Nat) ∧ (12 : Nat) = (12 : Nat) := by first | omega | assumption | rfl | ((repeat' with_reducible apply And.intro) <;> first | rfl | assumption | omega))
    (h8 : (0 : Int) ≤ (10 : Int) ∧ (0 : Int) ≤ (2 : Int) ∧ (12 : Int) ≤ (12 : Int) ∧ (12 : Nat) ≤ (1000000 : Nat) ∧ (12 : Nat) = (12 : Nat) := by first | omega | assumption | rfl | ((repeat' with_reducible apply And.intro) <;> first | rfl | assumption | omega))
    (h9 : n ≤ N := by first | omega | assumption | rfl)
    (h10 : (12 : Nat) + n ≤ (140737488355328 : Nat) := by first | omega | assumption | rfl)
    (h11 : (12 : Nat) + n ≤ (4611686018427387904 : Nat) := by first | omega | assumption | rfl)
    (h12 : (false || Nat.blt (0 : Nat) n) = true := by first | omega | assumption | rfl)
    (h13 : (12 : Nat) + n = (12 : Nat) + n ∧ (12 : Nat) + n ≤ (1000000 : Nat) := by first | omega | assumption | rfl | ((repeat' with_reducible apply And.intro) <;> first | rfl | assumption | omega)) : fnK Tryd.prog (SErc.on [(12, false), (17, false), (20, false)]) LErP Tryd.f6 [ctv ⟨v, op, false, true, false, sq, st, ac, oc⟩ (sl 0 n c)] [rU N xs] =
     (some (Res.ret (Value.tuple (Array.mk [Value.slice (some (Addr.mk (1 : Nat) (0 : Nat) none)) (up4 ((12 : Nat) + n)) (1 : Nat), Value.int IntKind.i64 (0 : Int)])) [some (Blk.mk false (1 : Nat)
     [Seg.ints IntKind.u8 N xs]), some (Blk.mk true (1 : Nat) [Seg.ints IntKind.u8 (up4 ((12 : Nat) + n)) (padL ([IntKind.u8.wrap (IntKind.u8.wrap (v * (8 : Int)) + (6 : Int)), IntKind.u8.wrap (op + (64 :
     Int)), IntKind.u64.wrap sq / (256 : Int) % (256 : Int), IntKind.u64.wrap sq % (256 : Int), IntKind.u64.wrap st / (256 : Int) % (256 : Int), IntKind.u64.wrap st % (256 : Int), IntKind.u64.wrap ac /
     (256 : Int) % (256 : Int), IntKind.u64.wrap ac % (256 : Int), IntKind.u64.wrap oc / (256 : Int) % (256 : Int), IntKind.u64.wrap oc % (256 : Int), IntKind.u64.wrap (↑n : Int) / (256 : Int) % (256 :
     Int), IntKind.u64.wrap (↑n : Int) % (256 : Int)] ++ List.take n xs) ((12 : Nat) + n))])])) :=
  Eq.trans (b :=
     bif decide (v > (7 : Int)) then none else bif decide (op > (31 : Int)) then none else bif decide ((↑n : Int) > (468 : Int)) then none else bif chk ((0 : Int) ≤ (2 : Int) ∧ (0 : Int) ≤ (2 : Int) ∧ (4 :
     Int) ≤ (12 : Int) ∧ (12 : Nat) ≤ (1000000 : Nat) ∧ (12 : Nat) = (12 : Nat)) then bif chk ((0 : Int) ≤ (4 : Int) ∧ (0 : Int) ≤ (2 : Int) ∧ (6 : Int) ≤ (12 : Int) ∧ (12 : Nat) ≤ (1000000 : Nat) ∧ (12 :
     Nat) = (12 : Nat)) then bif chk ((0 : Int) ≤ (6 : Int) ∧ (0 : Int) ≤ (2 : Int) ∧ (8 : Int) ≤ (12 : Int) ∧ (12 : Nat) ≤ (1000000 : Nat) ∧ (12 : Nat) = (12 : Nat)) then bif chk ((0 : Int) ≤ (8 : Int) ∧
     (0 : Int) ≤ (2 : Int) ∧ (10 : Int) ≤ (12 : Int) ∧ (12 : Nat) ≤ (1000000 : Nat) ∧ (12 : Nat) = (12 : Nat)) then bif chk ((0 : Int) ≤ (10 : Int) ∧ (0 : Int) ≤ (2 : Int) ∧ (12 : Int) ≤ (12 : Int) ∧ (12 :
     Nat) ≤ (1000000 : Nat) ∧ (12 : Nat) = (12 : Nat)) then bif (n * (1 : Nat)).ble N then bif decide (((12 : Nat) + n) * (1 : Nat) ≤ (140737488355328 : Nat)) && ((12 : Nat) + n).ble (OfNat.ofNat
     (4611686018427387904 : Nat)) then bif false || Nat.blt (0 : Nat) n then bif chk ((12 : Nat) + n * (1 : Nat) = (12 : Nat) + n ∧ (12 : Nat) + n ≤ (1000000 : Nat)) then some (Res.ret (Value.tuple
     (Array.mk [Value.slice (some (Addr.mk (1 : Nat) (0 : Nat) none)) (up4 ((12 : Nat) + n)) (1 : Nat), Value.int IntKind.i64 (0 : Int)])) [some (Blk.mk false (1 : Nat) [Seg.ints IntKind.u8 N xs]), some
     (Blk.mk true (1 : Nat) [Seg.ints IntKind.u8 (up4 ((12 : Nat) + n)) (padL ([IntKind.u8.wrap (IntKind.u8.wrap (v * (8 : Int)) + (6 : Int)), IntKind.u8.wrap (op + (64 : Int)), IntKind.u64.wrap sq / (256
     : Int) % (256 : Int), IntKind.u64.wrap sq % (256 : Int), IntKind.u64.wrap st / (256 : Int) % (256 : Int), IntKind.u64.wrap st % (256 : Int), IntKind.u64.wrap ac / (256 : Int) % (256 : Int),
     IntKind.u64.wrap ac % (256 : Int), IntKind.u64.wrap oc / (256 : Int) % (256 : Int), IntKind.u64.wrap oc % (256 : Int), IntKind.u64.wrap (↑n : Int) / (256 : Int) % (256 : Int), IntKind.u64.wrap (↑n :
     Int) % (256 : Int)] ++ List.take (n * (1 : Nat)) xs) ((12 : Nat) + n))])]) else none else none else none else none else none else none else none else none else none) (by kernel_rfl) (by simp only [-eq_self, Nat.mul_one]; exact (go_f (dec_f h1) (go_f (dec_f h2) (go_f (dec_f h3) (go_t (chk_t h4) (go_t (chk_t h5) (go_t (chk_t h6) (go_t (chk_t h7) (go_t (chk_t h8) (go_t (ble_t h9) (go_t (and_t (dec_t h10) (ble_t h11)) (go_t h12 (go_t (chk_t h13) rfl)))))))))))))
--CFEND
--CP pErFTFN (v op sq st ac oc) (N : Nat) (xs : List Int) :: fnK Tryd.prog (SErc.on [(12, false), (17, false), (20, false)]) LErN Tryd.f6 [ctv ⟨v, op, false, true, false, sq, st, ac, oc⟩ (.slice none 0 0)] [rU N xs]
theorem pErFTFN (v op sq st ac oc) (N : Nat) (xs : List Int)
    (h1 : ¬v > (7 : Int) := by first | omega | assumption | rfl)
    (h2 : ¬op > (31 : Int) := by first | omega | assumption | rfl)
    (h3 : (0 : Int) ≤ (2 : Int) ∧ (0 : Int) ≤ (2 : Int) ∧ (4 : Int) ≤ (12 : Int) ∧ (12 : Nat) ≤ (1000000 : Nat) ∧ (12 : Nat) = (12 : Nat) := by first | omega | assumption | rfl | ((repeat' with_reducible apply And.intro) <;> first | rfl | assumption | omega))
    (h4 : (0 : Int) ≤ (4 : Int) ∧ (0 : Int) ≤ (2 : Int) ∧ (6 : Int) ≤ (12 : Int) ∧ (12 : Nat) ≤ (1000000 : Nat) ∧ (12 : Nat) = (12 : Nat) := by first | omega | assumption | rfl | ((repeat' with_reducible apply And.intro) <;> first | rfl | assumption | omega))
    (h5 : (0 : Int) ≤ (6 : Int) ∧ (0 : Int) ≤ (2 : Int) ∧ (8 : Int) ≤ (12 : Int) ∧ (12 : Nat) ≤ (1000000 : Nat) ∧ (12 : Nat) = (12 : Nat) := by first | omega | assumption | rfl | ((repeat' with_reducible apply And.intro) <;> first | rfl | assumption | omega))
    (h6 : (0 : Int) ≤ (8 : Int) ∧ (0 : Int) ≤ (2 : Int) ∧ (10 : Int) ≤ (12 : Int) ∧ (12 : Nat) ≤ (1000000 : Nat) ∧ (12 : Nat) = (12 : Nat) := by first | omega | assumption | rfl | ((repeat' with_reducible apply And.intro) <;> first | rfl | assumption | omega))
    (h7 : (0 : Int) ≤ (10 : Int) ∧ (0 : Int) ≤ (2 : Int) ∧ (12 : Int) ≤ (12 : Int) ∧ (12 : Nat) ≤ (1000000 : Nat) ∧ (12 : Nat) = (12 : Nat) := by first | omega | assumption | rfl | ((repeat' with_reducible apply And.intro) <;> first | rfl | assumption | omega)) : fnK Tryd.prog (SErc.on [(12, false), (17, false), (20, false)]) LErN Tryd.f6 [ctv ⟨v, op, false, true, false, sq, st, ac, oc⟩ (.slice none 0 0)] [rU N xs] =
     (some (Res.ret (Value.tuple (Array.mk [Value.slice (some (Addr.mk (1 : Nat) (0 : Nat) none)) (12 : Nat) (0 : Nat), Value.int IntKind.i64 (0 : Int)])) [some (Blk.mk false (1 : Nat) [Seg.ints IntKind.u8
     N xs]), some (Blk.mk true (1 : Nat) [Seg.ints IntKind.u8 (12 : Nat) [IntKind.u8.wrap (IntKind.u8.wrap (v * (8 : Int)) + (6 : Int)), IntKind.u8.wrap (op + (64 : Int)), IntKind.u64.wrap sq / (256 : Int)
     % (256 : Int), IntKind.u64.wrap sq % (256 : Int), IntKind.u64.wrap st / (256 : Int) % (256 : Int), IntKind.u64.wrap st % (256 : Int), IntKind.u64.wrap ac / (256 : Int) % (256 : Int), IntKind.u64.wrap
     ac % (256 : Int), IntKind.u64.wrap oc / (256 : Int) % (256 : Int), IntKind.u64.wrap oc % (256 : Int), (0 : Int), (0 : Int)]])])) :=
  Eq.trans (b :=
     bif decide (v > (7 : Int)) then none else bif decide (op > (31 : Int)) then none else bif chk ((0 : Int) ≤ (2 : Int) ∧ (0 : Int) ≤ (2 : Int) ∧ (4 : Int) ≤ (12 : Int) ∧ (12 : Nat) ≤ (1000000 : Nat) ∧
     (12 : Nat) = (12 : Nat)) then bif chk ((0 : Int) ≤ (4 : Int) ∧ (0 : Int) ≤ (2 : Int) ∧ (6 : Int) ≤ (12 : Int) ∧ (12 : Nat) ≤ (1000000 : Nat) ∧ (12 : Nat) = (12 : Nat)) then bif chk ((0 : Int) ≤ (6 :
     Int) ∧ (0 : Int) ≤ (2 : Int) ∧ (8 : Int) ≤ (12 : Int) ∧ (12 : Nat) ≤ (1000000 : Nat) ∧ (12 : Nat) = (12 : Nat)) then bif chk ((0 : Int) ≤ (8 : Int) ∧ (0 : Int) ≤ (2 : Int) ∧ (10 : Int) ≤ (12 : Int) ∧
     (12 : Nat) ≤ (1000000 : Nat) ∧ (12 : Nat) = (12 : Nat)) then bif chk ((0 : Int) ≤ (10 : Int) ∧ (0 : Int) ≤ (2 : Int) ∧ (12 : Int) ≤ (12 : Int) ∧ (12 : Nat) ≤ (1000000 : Nat) ∧ (12 : Nat) = (12 : Nat))
     then some (Res.ret (Value.tuple (Array.mk [Value.slice (some (Addr.mk (1 : Nat) (0 : Nat) none)) (12 : Nat) (0 : Nat), Value.int IntKind.i64 (0 : Int)])) [some (Blk.mk false (1 : Nat) [Seg.ints
     IntKind.u8 N xs]), some (Blk.mk true (1 : Nat) [Seg.ints IntKind.u8 (12 : Nat) [IntKind.u8.wrap (IntKind.u8.wrap (v * (8 : Int)) + (6 : Int)), IntKind.u8.wrap (op + (64 : Int)), IntKind.u64.wrap sq /
     (256 : Int) % (256 : Int), IntKind.u64.wrap sq % (256 : Int), IntKind.u64.wrap st / (256 : Int) % (256 : Int), IntKind.u64.wrap st % (256 : Int), IntKind.u64.wrap ac / (256 : Int) % (256 : Int),
     IntKind.u64.wrap ac % (256 : Int), IntKind.u64.wrap oc / (256 : Int) % (256 : Int), IntKind.u64.wrap oc % (256 : Int), (0 : Int), (0 : Int)]])]) else none else none else none else none else none) (by kernel_rfl) (by exact (go_f (dec_f h1) (go_f (dec_f h2) (go_t (chk_t h3) (go_t (chk_t h4) (go_t (chk_t h5) (go_t (chk_t h6) (go_t (chk_t h7) rfl))))))))
--CFEND
--CP pErFTFZ (v op sq st ac oc) (N : Nat) (xs : List Int) :: fnK Tryd.prog (SErc.on [(12, false), (17, false), (20, false)]) LErN Tryd.f6 [ctv ⟨v, op, false, true, false, sq, st, ac, oc⟩ (.slice (some ⟨0, 0, some 0⟩) 0 0)] [rU N xs]
theorem pErFTFZ (v op sq st ac oc) (N : Nat) (xs : List Int)
    (h1 : ¬v > (7 : Int) := by first | omega | assumption | rfl)
    (h2 : ¬op > (31 : Int) := by first | omega | assumption | rfl)
    (h3 : (0 : Int) ≤ (2 : Int) ∧ (0 : Int) ≤ (2 : Int) ∧ (4 : Int) ≤ (12 : Int) ∧ (12 : Nat) ≤ (1000000 : Nat) ∧ (12 : Nat) = (12 : Nat) := by first | omega | assumption | rfl | ((repeat' with_reducible apply And.intro) <;> first | rfl | assumption | omega))
    (h4 : (0 : Int) ≤ (4 : Int) ∧ (0 : Int) ≤ (2 : Int) ∧ (6 : Int) ≤ (12 : Int) ∧ (12 : Nat) ≤ (1000000 : Nat) ∧ (12 : Nat) = (12 : Nat) := by first | omega | assumption | rfl | ((repeat' with_reducible apply And.intro) <;> first | rfl | assumption | omega))
    (h5 : (0 : Int) ≤ (6 : Int) ∧ (0 : Int) ≤ (2 : Int) ∧ (8 : Int) ≤ (12 : Int) ∧ (12 : Nat) ≤ (1000000 : Nat) ∧ (12 : Nat) = (12 : Nat) := by first | omega | assumption | rfl | ((repeat' with_reducible apply And.intro) <;> first | rfl | assumption | omega))
    (h6 : (0 : Int) ≤ (8 : Int) ∧ (0 : Int) ≤ (2 : Int) ∧ (10 : Int) ≤ (12 : Int) ∧ (12 : Nat) ≤ (1000000 : Nat) ∧ (12 : Nat) = (12 : Nat) := by first | omega | assumption | rfl | ((repeat' with_reducible apply And.intro) <;> first | rfl | assumption | omega))
    (h7 : (0 : Int) ≤ (10 : Int) ∧ (0 : Int) ≤ (2 : Int) ∧ (12 : Int) ≤ (12 : Int) ∧ (12 : Nat) ≤ (1000000 : Nat) ∧ (12 : Nat) = (12 : Nat) := by first | omega | assumption | rfl | ((repeat' with_reducible apply And.intro) <;> first | rfl | assumption | omega)) : fnK Tryd.prog (SErc.on [(12, false), (17, false), (20, false)]) LErN Tryd.f6 [ctv ⟨v, op, false, true, false, sq, st, ac, oc⟩ (.slice (some ⟨0, 0, some 0⟩) 0 0)] [rU N xs] =
     (some (Res.ret (Value.tuple (Array.mk [Value.slice (some (Addr.mk (1 : Nat) (0 : Nat) none)) (12 : Nat) (0 : Nat), Value.int IntKind.i64 (0 : Int)])) [some (Blk.mk false (1 : Nat) [Seg.ints IntKind.u8
     N xs]), some (Blk.mk true (1 : Nat) [Seg.ints IntKind.u8 (12 : Nat) [IntKind.u8.wrap (IntKind.u8.wrap (v * (8 : Int)) + (6 : Int)), IntKind.u8.wrap (op + (64 : Int)), IntKind.u64.wrap sq / (256 : Int)
     % (256 : Int), IntKind.u64.wrap sq % (256 : Int), IntKind.u64.wrap st / (256 : Int) % (256 : Int), IntKind.u64.wrap st % (256 : Int), IntKind.u64.wrap ac / (256 : Int) % (256 : Int), IntKind.u64.wrap
     ac % (256 : Int), IntKind.u64.wrap oc / (256 : Int) % (256 : Int), IntKind.u64.wrap oc % (256 : Int), (0 : Int), (0 : Int)]])])) :=
  Eq.trans (b :=
     bif decide (v > (7 : Int)) then none else bif decide (op > (31 : Int)) then none else bif chk ((0 : Int) ≤ (2 : Int) ∧ (0 : Int) ≤ (2 : Int) ∧ (4 : Int) ≤ (12 : Int) ∧ (12 : Nat) ≤ (1000000 : Nat) ∧
     (12 : Nat) = (12 : Nat)) then bif chk ((0 : Int) ≤ (4 : Int) ∧ (0 : Int) ≤ (2 : Int) ∧ (6 : Int) ≤ (12 : Int) ∧ (12 : Nat) ≤ (1000000 : Nat) ∧ (12 : Nat) = (12 : Nat)) then bif chk ((0 : Int) ≤ (6 :
     Int) ∧ (0 : Int) ≤ (2 : Int) ∧ (8 : Int) ≤ (12 : Int) ∧ (12 : Nat) ≤ (1000000 : Nat) ∧ (12 : Nat) = (12 : Nat)) then bif chk ((0 : Int) ≤ (8 : Int) ∧ (0 : Int) ≤ (2 : Int) ∧ (10 : Int) ≤ (12 : Int) ∧
     (12 : Nat) ≤ (1000000 : Nat) ∧ (12 : Nat) = (12 : Nat)) then bif chk ((0 : Int) ≤ (10 : Int) ∧ (0 : Int) ≤ (2 : Int) ∧ (12 : Int) ≤ (12 : Int) ∧ (12 : Nat) ≤ (1000000 : Nat) ∧ (12 : Nat) = (12 : Nat))
     then some (Res.ret (Value.tuple (Array.mk [Value.slice (some (Addr.mk (1 : Nat) (0 : Nat) none)) (12 : Nat) (0 : Nat), Value.int IntKind.i64 (0 : Int)])) [some (Blk.mk false (1 : Nat) [Seg.ints
     IntKind.u8 N xs]), some (Blk.mk true (1 : Nat) [Seg.ints IntKind.u8 (12 : Nat) [IntKind.u8.wrap (IntKind.u8.wrap (v * (8 : Int)) + (6 : Int)), IntKind.u8.wrap (op + (64 : Int)), IntKind.u64.wrap sq /
     (256 : Int) % (256 : Int), IntKind.u64.wrap sq % (256 : Int), IntKind.u64.wrap st / (256 : Int) % (256 : Int), IntKind.u64.wrap st % (256 : Int), IntKind.u64.wrap ac / (256 : Int) % (256 : Int),
     IntKind.u64.wrap ac % (256 : Int), IntKind.u64.wrap oc / (256 : Int) % (256 : Int), IntKind.u64.wrap oc % (256 : Int), (0 : Int), (0 : Int)]])]) else none else none else none else none else none) (by kernel_rfl) (by exact (go_f (dec_f h1) (go_f (dec_f h2) (go_t (chk_t h3) (go_t (chk_t h4) (go_t (chk_t h5) (go_t (chk_t h6) (go_t (chk_t h7) rfl))))))))
--CFEND
--CP pErFFTP (v op sq st ac oc) (n c N : Nat) (xs : List Int) :: fnK Tryd.prog (SErc.on [(12, false), (17, false), (20, false)]) LErP Tryd.f6 [ctv ⟨v, op, false, false, true, sq, st, ac, oc⟩ (sl 0 n c)] [rU N xs]
theorem pErFFTP (v op sq st ac oc) (n c N : Nat) (xs : List Int)
    (h1 : ¬v > (7 : Int) := by first | omega | assumption | rfl)
    (h2 : ¬op > (31 : Int) := by first | omega | assumption | rfl)
    (h3 : ¬(↑n : Int) > (468 : Int) := by first | omega | assumption | rfl)
    (h4 : (0 : Int) ≤ (2 : Int) ∧ (0 : Int) ≤ (2 : Int) ∧ (4 : Int) ≤ (12 : Int) ∧ (12 : Nat) ≤ (1000000 : Nat) ∧ (12 : Nat) = (12 : Nat) := by first | omega | assumption | rfl | ((repeat' with_reducible apply And.intro) <;> first | rfl | assumption | omega))
    (h5 : (0 : Int) ≤ (4 : Int) ∧ (0 : Int) ≤ (2 : Int) ∧ (6 : Int) ≤ (12 : Int) ∧ (12 : Nat) ≤ (1000000 : Nat) ∧ (12 : Nat) = (12 : Nat) := by first | omega | assumption | rfl | ((repeat' with_reducible apply And.intro) <;> first | rfl | assumption | omega))
    (h6 : (0 : Int) ≤ (6 : Int) ∧ (0 : Int) ≤ (2 : Int) ∧ (8 : Int) ≤ (12 : Int) ∧ (12 : Nat) ≤ (1000000 : Nat) ∧ (12 : Nat) = (12 : Nat) := by first | omega | assumption | rfl | ((repeat' with_reducible apply And.intro) <;> first | rfl | assumption | omega))
    (h7 : (0 : Int) ≤ (8 : Int) ∧ (0 : Int) ≤ (2 : Int) ∧ (10 : Int) ≤ (12 : Int) ∧ (12 : Nat) ≤ (1000000 : Nat) ∧ (12 : Nat) = (12 : Nat) := by first | omega | assumption | rfl | ((repeat' with_reducible apply And.intro) <;> first | rfl | assumption | omega))
    (h8 : (0 : Int) ≤ (10 : Int) ∧ (0 : Int) ≤ (2 : Int) ∧ (12 : Int) ≤ (12 : Int) ∧ (12 : Nat) ≤ (1000000 : Nat) ∧ (12 : Nat) = (12 : Nat) := by first | omega | assumption | rfl | ((repeat' with_reducible apply And.intro) <;> first | rfl | assumption | omega))
    (h9 : n ≤ N := by first | omega | assumption | rfl)
    (h10 : (12 : Nat) + n ≤ (140737488355328 : Nat) := by first | omega | assumption | rfl)
    (h11 : (12 : Nat) + n ≤ (4611686018427387904 : Nat) := by first | omega | assumption | rfl)
    (h12 : (false || Nat.blt (0 : Nat) n) = true := by first | omega | assumption | rfl)
    (h13 : (12 : Nat) + n = (12 : Nat) + n ∧ (12 : Nat) + n ≤ (1000000 : Nat) := by first | omega | assumption | rfl | ((repeat' with_reducible apply And.intro) <;> first | rfl | assumption | omega)) : fnK Tryd.prog (SErc.on [(12, false), (17, false), (20, false)]) LErP Tryd.f6 [ctv ⟨v, op, false, false, true, sq, st, ac, oc⟩ (sl 0 n c)] [rU N xs] =
     (some (Res.ret (Value.tuple (Array.mk [Value.slice (some (Addr.mk (1 : Nat) (0 : Nat) none)) (up4 ((12 : Nat) + n)) (1 : Nat), Value.int IntKind.i64 (0 : Int)])) [some (Blk.mk false (1 : Nat)
     [Seg.ints IntKind.u8 N xs]), some (Blk.mk true (1 : Nat) [Seg.ints IntKind.u8 (up4 ((12 : Nat) + n)) (padL ([IntKind.u8.wrap (IntKind.u8.wrap (v * (8 : Int)) + (6 : Int)), IntKind.u8.wrap (op + (32 :
     Int)), IntKind.u64.wrap sq / (256 : Int) % (256 : Int), IntKind.u64.wrap sq % (256 : Int), IntKind.u64.wrap st / (256 : Int) % (256 : Int), IntKind.u64.wrap st % (256 : Int), IntKind.u64.wrap ac /
     (256 : Int) % (256 : Int), IntKind.u64.wrap ac % (256 : Int), IntKind.u64.wrap oc / (256 : Int) % (256 : Int), IntKind.u64.wrap oc % (256 : Int), IntKind.u64.wrap (↑n : Int) / (256 : Int) % (256 :
     Int), IntKind.u64.wrap (↑n : Int) % (256 : Int)] ++ List.take n xs) ((12 : Nat) + n))])])) :=
  Eq.trans (b :=
     bif decide (v > (7 : Int)) then none else bif decide (op > (31 : Int)) then none else bif decide ((↑n : Int) > (468 : Int)) then none else bif chk ((0 : Int) ≤ (2 : Int) ∧ (0 : Int) ≤ (2 : Int) ∧ (4 :
     Int) ≤ (12 : Int) ∧ (12 : Nat) ≤ (1000000 : Nat) ∧ (12 : Nat) = (12 : Nat)) then bif chk ((0 : Int) ≤ (4 : Int) ∧ (0 : Int) ≤ (2 : Int) ∧ (6 : Int) ≤ (12 : Int) ∧ (12 : Nat) ≤ (1000000 : Nat) ∧ (12 :
     Nat) = (12 : Nat)) then bif chk ((0 : Int) ≤ (6 : Int) ∧ (0 : Int) ≤ (2 : Int) ∧ (8 : Int) ≤ (12 : Int) ∧ (12 : Nat) ≤ (1000000 : Nat) ∧ (12 : Nat) = (12 : Nat)) then bif chk ((0 : Int) ≤ (8 : Int) ∧
     (0 : Int) ≤ (2 : Int) ∧ (10 : Int) ≤ (12 : Int) ∧ (12 : Nat) ≤ (1000000 : Nat) ∧ (12 : Nat) = (12 : Nat)) then bif chk ((0 : Int) ≤ (10 : Int) ∧ (0 : Int) ≤ (2 : Int) ∧ (12 : Int) ≤ (12 : Int) ∧ (12 :
     Nat) ≤ (1000000 : Nat) ∧ (12 : Nat) = (12 : Nat)) then bif (n * (1 : Nat)).ble N then bif decide (((12 : Nat) + n) * (1 : Nat) ≤ (140737488355328 : Nat)) && ((12 : Nat) + n).ble (OfNat.ofNat
     (4611686018427387904 : Nat)) then bif false || Nat.blt (0 : Nat) n then bif chk ((12 : Nat) + n * (1 : Nat) = (12 : Nat) + n ∧ (12 : Nat) + n ≤ (1000000 : Nat)) then some (Res.ret (Value.tuple
     (Array.mk [Value.slice (some (Addr.mk (1 : Nat) (0 : Nat) none)) (up4 ((12 : Nat) + n)) (1 : Nat), Value.int IntKind.i64 (0 : Int)])) [some (Blk.mk false (1 : Nat) [Seg.ints IntKind.u8 N xs]), some
     (Blk.mk true (1 : Nat) [Seg.ints IntKind.u8 (up4 ((12 : Nat) + n)) (padL ([IntKind.u8.wrap (IntKind.u8.wrap (v * (8 : Int)) + (6 : Int)), IntKind.u8.wrap (op + (32 : Int)), IntKind.u64.wrap sq / (256
     : Int) % (256 : Int), IntKind.u64.wrap sq % (256 : Int), IntKind.u64.wrap st / (256 : Int) % (256 : Int), IntKind.u64.wrap st % (256 : Int), IntKind.u64.wrap ac / (256 : Int) % (256 : Int),
     IntKind.u64.wrap ac % (256 : Int), IntKind.u64.wrap oc / (256 : Int) % (256 : Int), IntKind.u64.wrap oc % (256 : Int), IntKind.u64.wrap (↑n : Int) / (256 : Int) % (256 : Int), IntKind.u64.wrap (↑n :
     Int) % (256 : Int)] ++ List.take (n * (1 : Nat)) xs) ((12 : Nat) + n))])]) else none else none else none else none else none else none else none else none else none) (by kernel_rfl) (by simp only [-eq_self, Nat.mul_one]; exact (go_f (dec_f h1) (go_f (dec_f h2) (go_f (dec_f h3) (go_t (chk_t h4) (go_t (chk_t h5) (go_t (chk_t h6) (go_t (chk_t h7) (go_t (chk_t h8) (go_t (ble_t h9) (go_t (and_t (dec_t h10) (ble_t h11)) (go_t h12 (go_t (chk_t h13) rfl)))))))))))))
--CFEND
--CP pErFFTN (v op sq st ac oc) (N : Nat) (xs : List Int) :: fnK Tryd.prog (SErc.on [(12, false), (17, false), (20, false)]) LErN Tryd.f6 [ctv ⟨v, op, false, false, true, sq, st, ac, oc⟩ (.slice none 0 0)] [rU N xs]
theorem pErFFTN (v op sq st ac oc) (N : Nat) (xs : List Int)
    (h1 : ¬v > (7 : Int) := by first | omega | assumption | rfl)
    (h2 : ¬op > (31 : Int) := by first | omega | assumption | rfl)
    (h3 : (0 : Int) ≤ (2 : Int) ∧ (0 : Int) ≤ (2 : Int) ∧ (4 : Int) ≤ (12 : Int) ∧ (12 : Nat) ≤ (1000000 : Nat) ∧ (12 : Nat) = (12 : Nat) := by first | omega | assumption | rfl | ((repeat' with_reducible apply And.intro) <;> first | rfl | assumption | omega))
    (h4 : (0 : Int) ≤ (4 : Int) ∧ (0 : Int) ≤ (2 : Int) ∧ (6 : Int) ≤ (12 : Int) ∧ (12 : Nat) ≤ (1000000 : Nat) ∧ (12 : Nat) = (12 : Nat) := by first | omega | assumption | rfl | ((repeat' with_reducible apply And.intro) <;> first | rfl | assumption | omega))
    (h5 : (0 : Int) ≤ (6 : Int) ∧ (0 : Int) ≤ (2 : Int) ∧ (8 : Int) ≤ (12 : Int) ∧ (12 : Nat) ≤ (1000000 : Nat) ∧ (12 : Nat) = (12 : Nat) := by first | omega | assumption | rfl | ((repeat' with_reducible apply And.intro) <;> first | rfl | assumption | omega))
    (h6 : (0 : Int) ≤ (8 : Int) ∧ (0 : Int) ≤ (2 : Int) ∧ (10 : Int) ≤ (12 : Int) ∧ (12 : Nat) ≤ (1000000 : Nat) ∧ (12 : Nat) = (12 : Nat) := by first | omega | assumption | rfl | ((repeat' with_reducible apply And.intro) <;> first | rfl | assumption | omega))
    (h7 : (0 : Int) ≤ (10 : Int) ∧ (0 : Int) ≤ (2 : Int) ∧ (12 : Int) ≤ (12 : Int) ∧ (12 : Nat) ≤ (1000000 : Nat) ∧ (12 : Nat) = (12 : Nat) := by first | omega | assumption | rfl | ((repeat' with_reducible apply And.intro) <;> first | rfl | assumption | omega)) : fnK Tryd.prog (SErc.on [(12, false), (17, false), (20, false)]) LErN Tryd.f6 [ctv ⟨v, op, false, false, true, sq, st, ac, oc⟩ (.slice none 0 0)] [rU N xs] =
     (some (Res.ret (Value.tuple (Array.mk [Value.slice (some (Addr.mk (1 : Nat) (0 : Nat) none)) (12 : Nat) (0 : Nat), Value.int IntKind.i64 (0 : Int)])) [some (Blk.mk false (1 : Nat) [Seg.ints IntKind.u8
     N xs]), some (Blk.mk true (1 : Nat) [Seg.ints IntKind.u8 (12 : Nat) [IntKind.u8.wrap (IntKind.u8.wrap (v * (8 : Int)) + (6 : Int)), IntKind.u8.wrap (op + (32 : Int)), IntKind.u64.wrap sq / (256 : Int)
     % (256 : Int), IntKind.u64.wrap sq % (256 : Int), IntKind.u64.wrap st / (256 : Int) % (256 : Int), IntKind.u64.wrap st % (256 : Int), IntKind.u64.wrap ac / (256 : Int) % (256 : Int), IntKind.u64.wrap
     ac % (256 : Int), IntKind.u64.wrap oc / (256 : Int) % (256 : Int), IntKind.u64.wrap oc % (256 : Int), (0 : Int), (0 : Int)]])])) :=
  Eq.trans (b :=
     bif decide (v > (7 : Int)) then none else bif decide (op > (31 : Int)) then none else bif chk ((0 : Int) ≤ (2 : Int) ∧ (0 : Int) ≤ (2 : Int) ∧ (4 : Int) ≤ (12 : Int) ∧ (12 : Nat) ≤ (1000000 : Nat) ∧
     (12 : Nat) = (12 : Nat)) then bif chk ((0 : Int) ≤ (4 : Int) ∧ (0 : Int) ≤ (2 : Int) ∧ (6 : Int) ≤ (12 : Int) ∧ (12 : Nat) ≤ (1000000 : Nat) ∧ (12 : Nat) = (12 : Nat)) then bif chk ((0 : Int) ≤ (6 :
     Int) ∧ (0 : Int) ≤ (2 : Int) ∧ (8 : Int) ≤ (12 : Int) ∧ (12 : Nat) ≤ (1000000 : Nat) ∧ (12 : Nat) = (12 : Nat)) then bif chk ((0 : Int) ≤ (8 : Int) ∧ (0 : Int) ≤ (2 : Int) ∧ (10 : Int) ≤ (12 : Int) ∧
     (12 : Nat) ≤ (1000000 : Nat) ∧ (12 : Nat) = (12 : Nat)) then bif chk ((0 : Int) ≤ (10 : Int) ∧ (0 : Int) ≤ (2 : Int) ∧ (12 : Int) ≤ (12 : Int) ∧ (12 : Nat) ≤ (1000000 : Nat) ∧ (12 : Nat) = (12 : Nat))
     then some (Res.ret (Value.tuple (Array.mk [Value.slice (some (Addr.mk (1 : Nat) (0 : Nat) none)) (12 : Nat) (0 : Nat), Value.int IntKind.i64 (0 : Int)])) [some (Blk.mk false (1 : Nat) [Seg.ints
     IntKind.u8 N xs]), some (Blk.mk true (1 : Nat) [Seg.ints IntKind.u8 (12 : Nat) [IntKind.u8.wrap (IntKind.u8.wrap (v * (8 : Int)) + (6 : Int)), IntKind.u8.wrap (op + (32 : Int)), IntKind.u64.wrap sq /
     (256 : Int) % (256 : Int), IntKind.u64.wrap sq % (256 : Int), IntKind.u64.wrap st / (256 : Int) % (256 : Int), IntKind.u64.wrap st % (256 : Int), IntKind.u64.wrap ac / (256 : Int) % (256 : Int),
     IntKind.u64.wrap ac % (256 : Int), IntKind.u64.wrap oc / (256 : Int) % (256 : Int), IntKind.u64.wrap oc % (256 : Int), (0 : Int), (0 : Int)]])]) else none else none else none else none else none) (by kernel_rfl) (by exact (go_f (dec_f h1) (go_f (dec_f h2) (go_t (chk_t h3) (go_t (chk_t h4) (go_t (chk_t h5) (go_t (chk_t h6) (go_t (chk_t h7) rfl))))))))
--CFEND
--CP pErFFTZ (v op sq st ac oc) (N : Nat) (xs : List Int) :: fnK Tryd.prog (SErc.on [(12, false), (17, false), (20, false)]) LErN Tryd.f6 [ctv ⟨v, op, false, false, true, sq, st, ac, oc⟩ (.slice (some ⟨0, 0, some 0⟩) 0 0)] [rU N xs]
theorem pErFFTZ (v op sq st ac oc) (N : Nat) (xs : List Int)
    (h1 : ¬v > (7 : Int) := by first | omega | assumption | rfl)
    (h2 : ¬op > (31 : Int) := by first | omega | assumption | rfl)
    (h3 : (0 : Int) ≤ (2 : Int) ∧ (0 : Int) ≤ (2 : Int) ∧ (4 : Int) ≤ (12 : Int) ∧ (12 : Nat) ≤ (1000000 : Nat) ∧ (12 : Nat) = (12 : Nat) := by first | omega | assumption | rfl | ((repeat' with_reducible apply And.intro) <;> first | rfl | assumption | omega))
    (h4 : (0 : Int) ≤ (4 : Int) ∧ (0 : Int) ≤ (2 : Int) ∧ (6 : Int) ≤ (12 : Int) ∧ (12 : Nat) ≤ (1000000 : Nat) ∧ (12 : Nat) = (12 : Nat) := by first | omega | assumption | rfl | ((repeat' with_reducible apply And.intro) <;> first | rfl | assumption | omega))
    (h5 : (0 : Int) ≤ (6 : Int) ∧ (0 : Int) ≤ (2 : Int) ∧ (8 : Int) ≤ (12 : Int) ∧ (12 : Nat) ≤ (1000000 : Nat) ∧ (12 : Nat) = (12 : Nat) := by first | omega | assumption | rfl | ((repeat' with_reducible apply And.intro) <;> first | rfl | assumption | omega))
    (h6 : (0 : Int) ≤ (8 : Int) ∧ (0 : Int) ≤ (2 : Int) ∧ (10 : Int) ≤ (12 : Int) ∧ (12 : Nat) ≤ (1000000 : Nat) ∧ (12 : Nat) = (12 : Nat) := by first | omega | assumption | rfl | ((repeat' with_reducible apply And.intro) <;> first | rfl | assumption | omega))
    (h7 : (0 : Int) ≤ (10 : Int) ∧ (0 : Int) ≤ (2 : Int) ∧ (12 : Int) ≤ (12 : Int) ∧ (12 : Nat) ≤ (1000000 : Nat) ∧ (12 : Nat) = (12 : Nat) := by first | omega | assumption | rfl | ((repeat' with_reducible apply And.intro) <;> first | rfl | assumption | omega)) : fnK Tryd.prog (SErc.on [(12, false), (17, false), (20, false)]) LErN Tryd.f6 [ctv ⟨v, op, false, false, true, sq, st, ac, oc⟩ (.slice (some ⟨0, 0, some 0⟩) 0 0)] [rU N xs] =
     (some (Res.ret (Value.tuple (Array.mk [Value.slice (some (Addr.mk (1 : Nat) (0 : Nat) none)) (12 : Nat) (0 : Nat), Value.int IntKind.i64 (0 : Int)])) [some (Blk.mk false (1 : Nat) [Seg.ints IntKind.u8
     N xs]), some (Blk.mk true (1 : Nat) [Seg.ints IntKind.u8 (12 : Nat) [IntKind.u8.wrap (IntKind.u8.wrap (v * (8 : Int)) + (6 : Int)), IntKind.u8.wrap (op + (32 : Int)), IntKind.u64.wrap sq / (256 : Int)
     % (256 : Int), IntKind.u64.wrap sq % (256 : Int), IntKind.u64.wrap st / (256 : Int) % (256 : Int), IntKind.u64.wrap st % (256 : Int), IntKind.u64.wrap ac / (256 : Int) % (256 : Int), IntKind.u64.wrap
     ac % (256 : Int), IntKind.u64.wrap oc / (256 : Int) % (256 : Int), IntKind.u64.wrap oc % (256 : Int), (0 : Int), (0 : Int)]])])) :=
  Eq.trans (b :=
     bif decide (v > (7 : Int)) then none else bif decide (op > (31 : Int)) then none else bif chk ((0 : Int) ≤ (2 : Int) ∧ (0 : Int) ≤ (2 : Int) ∧ (4 : Int) ≤ (12 : Int) ∧ (12 : Nat) ≤ (1000000 : Nat) ∧
     (12 : Nat) = (12 : Nat)) then bif chk ((0 : Int) ≤ (4 : Int) ∧ (0 : Int) ≤ (2 : Int) ∧ (6 : Int) ≤ (12 : Int) ∧ (12 : Nat) ≤ (1000000 : Nat) ∧ (12 : Nat) = (12 : Nat)) then bif chk ((0 : Int) ≤ (6 :
     Int) ∧ (0 : Int) ≤ (2 : Int) ∧ (8 : Int) ≤ (12 : Int) ∧ (12 : Nat) ≤ (1000000 : Nat) ∧ (12 : Nat) = (12 : Nat)) then bif chk ((0 : Int) ≤ (8 : Int) ∧ (0 : Int) ≤ (2 : Int) ∧ (10 : Int) ≤ (12 : Int) ∧
     (12 : Nat) ≤ (1000000 : Nat) ∧ (12 : Nat) = (12 : Nat)) then bif chk ((0 : Int) ≤ (10 : Int) ∧ (0 : Int) ≤ (2 : Int) ∧ (12 : Int) ≤ (12 : Int) ∧ (12 : Nat) ≤ (1000000 : Nat) ∧ (12 : Nat) = (12 : Nat))
     then some (Res.ret (Value.tuple (Array.mk [Value.slice (some (Addr.mk (1 : Nat) (0 : Nat) none)) (12 : Nat) (0 : Nat), Value.int IntKind.i64 (0 : Int)])) [some (Blk.mk false (1 : Nat) [Seg.ints
     IntKind.u8 N xs]), some (Blk.mk true (1 : Nat) [Seg.ints IntKind.u8 (12 : Nat) [IntKind.u8.wrap (IntKind.u8.wrap (v * (8 : Int)) + (6 : Int)), IntKind.u8.wrap (op + (32 : Int)), IntKind.u64.wrap sq /
     (256 : Int) % (256 : Int), IntKind.u64.wrap sq % (256 : Int), IntKind.u64.wrap st / (256 : Int) % (256 : Int), IntKind.u64.wrap st % (256 : Int), IntKind.u64.wrap ac / (256 : Int) % (256 : Int),
     IntKind.u64.wrap ac % (256 : Int), IntKind.u64.wrap oc / (256 : Int) % (256 : Int), IntKind.u64.wrap oc % (256 : Int), (0 : Int), (0 : Int)]])]) else none else none else none else none else none) (by kernel_rfl) (by exact (go_f (dec_f h1) (go_f (dec_f h2) (go_t (chk_t h3) (go_t (chk_t h4) (go_t (chk_t h5) (go_t (chk_t h6) (go_t (chk_t h7) rfl))))))))
--CFEND
--CP pErFFFP (v op sq st ac oc) (n c N : Nat) (xs : List Int) :: fnK Tryd.prog (SErc.on [(12, false), (17, false), (20, false)]) LErP Tryd.f6 [ctv ⟨v, op, false, false, false, sq, st, ac, oc⟩ (sl 0 n c)] [rU N xs]
theorem pErFFFP (v op sq st ac oc) (n c N : Nat) (xs : List Int)
    (h1 : ¬v > (7 : Int) := by first | omega | assumption | rfl)
    (h2 : ¬op > (31 : Int) := by first | omega | assumption | rfl)
    (h3 : ¬(↑n : Int) > (468 : Int) := by first | omega | assumption | rfl)
    (h4 : (0 : Int) ≤ (2 : Int) ∧ (0 : Int) ≤ (2 : Int) ∧ (4 : Int) ≤ (12 : Int) ∧ (12 : Nat) ≤ (1000000 : Nat) ∧ (12 : Nat) = (12 : Nat) := by first | omega | assumption | rfl | ((repeat' with_reducible apply And.intro) <;> first | rfl | assumption | omega))
    (h5 : (0 : Int) ≤ (4 : Int) ∧ (0 : Int) ≤ (2 : Int) ∧ (6 : Int) ≤ (12 : Int) ∧ (12 : Nat) ≤ (1000000 : Nat) ∧ (12 : Nat) = (12 : Nat) := by first | omega | assumption | rfl | ((repeat' with_reducible apply And.intro) <;> first | rfl | assumption | omega))
    (h6 : (0 : Int) ≤ (6 : Int) ∧ (0 : Int) ≤ (2 : Int) ∧ (8 : Int) ≤ (12 : Int) ∧ (12 : Nat) ≤ (1000000 : Nat) ∧ (12 : Nat) = (12 : Nat) := by first | omega | assumption | rfl | ((repeat' with_reducible apply And.intro) <;> first | rfl | assumption | omega))
    (h7 : (0 : Int) ≤ (8 : Int) ∧ (0 : Int) ≤ (2 : Int) ∧ (10 : Int) ≤ (12 : Int) ∧ (12 : Nat) ≤ (1000000 : Nat) ∧ (12 : Nat) = (12 : Nat) := by first | omega | assumption | rfl | ((repeat' with_reducible apply And.intro) <;> first | rfl | assumption | omega))
    (h8 : (0 : Int) ≤ (10 : Int) ∧ (0 : Int) ≤ (2 : Int) ∧ (12 : Int) ≤ (12 : Int) ∧ (12 : Nat) ≤ (1000000 : Nat) ∧ (12 : Nat) = (12 : Nat) := by first | omega | assumption | rfl | ((repeat' with_reducible apply And.intro) <;> first | rfl | assumption | omega))
    (h9 : n ≤ N := by first | omega | assumption | rfl)
    (h10 : (12 : Nat) + n ≤ (140737488355328 : Nat) := by first | omega | assumption | rfl)
    (h11 : (12 : Nat) + n ≤ (4611686018427387904 : Nat) := by first | omega | assumption | rfl)
    (h12 : (false || Nat.blt (0 : Nat) n) = true := by first | omega | assumption | rfl)
    (h13 : (12 : Nat) + n = (12 : Nat) + n ∧ (12 : Nat) + n ≤ (1000000 : Nat) := by first | omega | assumption | rfl | ((repeat' with_reducible apply And.intro) <;> first | rfl | assumption | omega)) : fnK Tryd.prog (SErc.on [(12, false), (17, false), (20, false)]) LErP Tryd.f6 [ctv ⟨v, op, false, false, false, sq, st, ac, oc⟩ (sl 0 n c)] [rU N xs] =
     (some (Res.ret (Value.tuple (Array.mk [Value.slice (some (Addr.mk (1 : Nat) (0 : Nat) none)) (up4 ((12 : Nat) + n)) (1 : Nat), Value.int IntKind.i64 (0 : Int)])) [some (Blk.mk false (1 : Nat)
     [Seg.ints IntKind.u8 N xs]), some (Blk.mk true (1 : Nat) [Seg.ints IntKind.u8 (up4 ((12 : Nat) + n)) (padL ([IntKind.u8.wrap (IntKind.u8.wrap (v * (8 : Int)) + (6 : Int)), op, IntKind.u64.wrap sq /
     (256 : Int) % (256 : Int), IntKind.u64.wrap sq % (256 : Int), IntKind.u64.wrap st / (256 : Int) % (256 : Int), IntKind.u64.wrap st % (256 : Int), IntKind.u64.wrap ac / (256 : Int) % (256 : Int),
     IntKind.u64.wrap ac % (256 : Int), IntKind.u64.wrap oc / (256 : Int) % (256 : Int), IntKind.u64.wrap oc % (256 : Int), IntKind.u64.wrap (↑n : Int) / (256 : Int) % (256 : Int), IntKind.u64.wrap (↑n :
     Int) % (256 : Int)] ++ List.take n xs) ((12 : Nat) + n))])])) :=
  Eq.trans (b :=
     bif decide (v > (7 : Int)) then none else bif decide (op > (31 : Int)) then none else bif decide ((↑n : Int) > (468 : Int)) then none else bif chk ((0 : Int) ≤ (2 : Int) ∧ (0 : Int) ≤ (2 : Int) ∧ (4 :
     Int) ≤ (12 : Int) ∧ (12 : Nat) ≤ (1000000 : Nat) ∧ (12 : Nat) = (12 : Nat)) then bif chk ((0 : Int) ≤ (4 : Int) ∧ (0 : Int) ≤ (2 : Int) ∧ (6 : Int) ≤ (12 : Int) ∧ (12 : Nat) ≤ (1000000 : Nat) ∧ (12 :
     Nat) = (12 : Nat)) then bif chk ((0 : Int) ≤ (6 : Int) ∧ (0 : Int) ≤ (2 : Int) ∧ (8 : Int) ≤ (12 : Int) ∧ (12 : Nat) ≤ (1000000 : Nat) ∧ (12 : Nat) = (12 : Nat)) then bif chk ((0 : Int) ≤ (8 : Int) ∧
     (0 : Int) ≤ (2 : Int) ∧ (10 : Int) ≤ (12 : Int) ∧ (12 : Nat) ≤ (1000000 : Nat) ∧ (12 : Nat) = (12 : Nat)) then bif chk ((0 : Int) ≤ (10 : Int) ∧ (0 : Int) ≤ (2 : Int) ∧ (12 : Int) ≤ (12 : Int) ∧ (12 :
     Nat) ≤ (1000000 : Nat) ∧ (12 : Nat) = (12 : Nat)) then bif (n * (1 : Nat)).ble N then bif decide (((12 : Nat) + n) * (1 : Nat) ≤ (140737488355328 : Nat)) && ((12 : Nat) + n).ble (OfNat.ofNat
     (4611686018427387904 : Nat)) then bif false || Nat.blt (0 : Nat) n then bif chk ((12 : Nat) + n * (1 : Nat) = (12 : Nat) + n ∧ (12 : Nat) + n ≤ (1000000 : Nat)) then some (Res.ret (Value.tuple
     (Array.mk [Value.slice (some (Addr.mk (1 : Nat) (0 : Nat) none)) (up4 ((12 : Nat) + n)) (1 : Nat), Value.int IntKind.i64 (0 : Int)])) [some (Blk.mk false (1 : Nat) [Seg.ints IntKind.u8 N xs]), some
     (Blk.mk true (1 : Nat) [Seg.ints IntKind.u8 (up4 ((12 : Nat) + n)) (padL ([IntKind.u8.wrap (IntKind.u8.wrap (v * (8 : Int)) + (6 : Int)), op, IntKind.u64.wrap sq / (256 : Int) % (256 : Int),
     IntKind.u64.wrap sq % (256 : Int), IntKind.u64.wrap st / (256 : Int) % (256 : Int), IntKind.u64.wrap st % (256 : Int), IntKind.u64.wrap ac / (256 : Int) % (256 : Int), IntKind.u64.wrap ac % (256 :
     Int), IntKind.u64.wrap oc / (256 : Int) % (256 : Int), IntKind.u64.wrap oc % (256 : Int), IntKind.u64.wrap (↑n : Int) / (256 : Int) % (256 : Int), IntKind.u64.wrap (↑n : Int) % (256 : Int)] ++
     List.take (n * (1 : Nat)) xs) ((12 : Nat) + n))])]) else none else none else none else none else none else none else none else none else none) (by kernel_rfl) (by simp only [-eq_self, Nat.mul_one]; exact (go_f (dec_f h1) (go_f (dec_f h2) (go_f (dec_f h3) (go_t (chk_t h4) (go_t (chk_t h5) (go_t (chk_t h6) (go_t (chk_t h7) (go_t (chk_t h8) (go_t (ble_t h9) (go_t (and_t (dec_t h10) (ble_t h11)) (go_t h12 (go_t (chk_t h13) rfl)))))))))))))
--CFEND
--CP pErFFFN (v op sq st ac oc) (N : Nat) (xs : List Int) :: fnK Tryd.prog (SErc.on [(12, false), (17, false), (20, false)]) LErN Tryd.f6 [ctv ⟨v, op, false, false, false, sq, st, ac, oc⟩ (.slice none 0 0)] [rU N xs]
theorem pErFFFN (v op sq st ac oc) (N : Nat) (xs : List Int)
    (h1 : ¬v > (7 : Int) := by first | omega | assumption | rfl)
    (h2 : ¬op > (31 : Int) := by first | omega | assumption | rfl)
    (h3 : (0 : Int) ≤ (2 : Int) ∧ (0 : Int) ≤ (2 : Int) ∧ (4 : Int) ≤ (12 : Int) ∧ (12 : Nat) ≤ (1000000 : Nat) ∧ (12 : Nat) = (12 : Nat) := by first | omega | assumption | rfl | ((repeat' with_reducible apply And.intro) <;> first | rfl | assumption | omega))
    (h4 : (0 : Int) ≤ (4 : Int) ∧ (0 : Int) ≤ (2 : Int) ∧ (6 : Int) ≤ (12 : Int) ∧ (12 : Nat) ≤ (1000000 : Nat) ∧ (12 : Nat) = (12 : Nat) := by first | omega | assumption | rfl | ((repeat' with_reducible apply And.intro) <;> first | rfl | assumption | omega))
    (h5 : (0 : Int) ≤ (6 : Int) ∧ (0 : Int) ≤ (2 : Int) ∧ (8 : Int) ≤ (12 : Int) ∧ (12 : Nat) ≤ (1000000 : Nat) ∧ (12 : Nat) = (12 : Nat) := by first | omega | assumption | rfl | ((repeat' with_reducible apply And.intro) <;> first | rfl | assumption | omega))
    (h6 : (0 : Int) ≤ (8 : Int) ∧ (0 : Int) ≤ (2 : Int) ∧ (10 : Int) ≤ (12 : Int) ∧ (12 : Nat) ≤ (1000000 : Nat) ∧ (12 : Nat) = (12 : Nat) := by first | omega | assumption | rfl | ((repeat' with_reducible apply And.intro) <;> first | rfl | assumption | omega))
    (h7 : (0 : Int) ≤ (10 : Int) ∧ (0 : Int) ≤ (2 : Int) ∧ (12 : Int) ≤ (12 : Int) ∧ (12 : Nat) ≤ (1000000 : Nat) ∧ (12 : Nat) = (12 : Nat) := by first | omega | assumption | rfl | ((repeat' with_reducible apply And.intro) <;> first | rfl | assumption | omega)) : fnK Tryd.prog (SErc.on [(12, false), (17, false), (20, false)]) LErN Tryd.f6 [ctv ⟨v, op, false, false, false, sq, st, ac, oc⟩ (.slice none 0 0)] [rU N xs] =
     (some (Res.ret (Value.tuple (Array.mk [Value.slice (some (Addr.mk (1 : Nat) (0 : Nat) none)) (12 : Nat) (0 : Nat), Value.int IntKind.i64 (0 : Int)])) [some (Blk.mk false (1 : Nat) [Seg.ints IntKind.u8
     N xs]), some (Blk.mk true (1 : Nat) [Seg.ints IntKind.u8 (12 : Nat) [IntKind.u8.wrap (IntKind.u8.wrap (v * (8 : Int)) + (6 : Int)), op, IntKind.u64.wrap sq / (256 : Int) % (256 : Int),
     IntKind.u64.wrap sq % (256 : Int), IntKind.u64.wrap st / (256 : Int) % (256 : Int), IntKind.u64.wrap st % (256 : Int), IntKind.u64.wrap ac / (256 : Int) % (256 : Int), IntKind.u64.wrap ac % (256 :
     Int), IntKind.u64.wrap oc / (256 : Int) % (256 : Int), IntKind.u64.wrap oc % (256 : Int), (0 : Int), (0 : Int)]])])) :=
  Eq.trans (b :=
     bif decide (v > (7 : Int)) then none else bif decide (op > (31 : Int)) then none else bif chk ((0 : Int) ≤ (2 : Int) ∧ (0 : Int) ≤ (2 : Int) ∧ (4 : Int) ≤ (12 : Int) ∧ (12 : Nat) ≤ (1000000 : Nat) ∧
     (12 : Nat) = (12 : Nat)) then bif chk ((0 : Int) ≤ (4 : Int) ∧ (0 : Int) ≤ (2 : Int) ∧ (6 : Int) ≤ (12 : Int) ∧ (12 : Nat) ≤ (1000000 : Nat) ∧ (12 : Nat) = (12 : Nat)) then bif chk ((0 : Int) ≤ (6 :
     Int) ∧ (0 : Int) ≤ (2 : Int) ∧ (8 : Int) ≤ (12 : Int) ∧ (12 : Nat) ≤ (1000000 : Nat) ∧ (12 : Nat) = (12 : Nat)) then bif chk ((0 : Int) ≤ (8 : Int) ∧ (0 : Int) ≤ (2 : Int) ∧ (10 : Int) ≤ (12 : Int) ∧
     (12 : Nat) ≤ (1000000 : Nat) ∧ (12 : Nat) = (12 : Nat)) then bif chk ((0 : Int) ≤ (10 : Int) ∧ (0 : Int) ≤ (2 : Int) ∧ (12 : Int) ≤ (12 : Int) ∧ (12 : Nat) ≤ (1000000 : Nat) ∧ (12 : Nat) = (12 : Nat))
     then some (Res.ret (Value.tuple (Array.mk [Value.slice (some (Addr.mk (1 : Nat) (0 : Nat) none)) (12 : Nat) (0 : Nat), Value.int IntKind.i64 (0 : Int)])) [some (Blk.mk false (1 : Nat) [Seg.ints
     IntKind.u8 N xs]), some (Blk.mk true (1 : Nat) [Seg.ints IntKind.u8 (12 : Nat) [IntKind.u8.wrap (IntKind.u8.wrap (v * (8 : Int)) + (6 : Int)), op, IntKind.u64.wrap sq / (256 : Int) % (256 : Int),
     IntKind.u64.wrap sq % (256 : Int), IntKind.u64.wrap st / (256 : Int) % (256 : Int), IntKind.u64.wrap st % (256 : Int), IntKind.u64.wrap ac / (256 : Int) % (256 : Int), IntKind.u64.wrap ac % (256 :
     Int), IntKind.u64.wrap oc / (256 : Int) % (256 : Int), IntKind.u64.wrap oc % (256 : Int), (0 : Int), (0 : Int)]])]) else none else none else none else none else none) (by kernel_rfl) (by exact (go_f (dec_f h1) (go_f (dec_f h2) (go_t (chk_t h3) (go_t (chk_t h4) (go_t (chk_t h5) (go_t (chk_t h6) (go_t (chk_t h7) rfl))))))))
--CFEND
--CP pErFFFZ (v op sq st ac oc) (N : Nat) (xs : List Int) :: fnK Tryd.prog (SErc.on [(12, false), (17, false), (20, false)]) LErN Tryd.f6 [ctv ⟨v, op, false, false, false, sq, st, ac, oc⟩ (.slice (some ⟨0, 0, some 0⟩) 0 0)] [rU N xs]
theorem pErFFFZ (v op sq st ac oc) (N : Nat) (xs : List Int)
    (h1 : ¬v > (7 : Int) := by first | omega | assumption | rfl)
    (h2 : ¬op > (31 : Int) := by first | omega | assumption | rfl)
    (h3 : (0 : Int) ≤ (2 : Int) ∧ (0 : Int) ≤ (2 : Int) ∧ (4 : Int) ≤ (12 : Int) ∧ (12 : Nat) ≤ (1000000 : Nat) ∧ (12 : Nat) = (12 : Nat) := by first | omega | assumption | rfl | ((repeat' with_reducible apply And.intro) <;> first | rfl | assumption | omega))
    (h4 : (0 : Int) ≤ (4 : Int) ∧ (0 : Int) ≤ (2 : Int) ∧ (6 : Int) ≤ (12 : Int) ∧ (12 : Nat) ≤ (1000000 : Nat) ∧ (12 : Nat) = (12 : Nat) := by first | omega | assumption | rfl | ((repeat' with_reducible apply And.intro) <;> first | rfl | assumption | omega))
    (h5 : (0 : Int) ≤ (6 : Int) ∧ (0 : Int) ≤ (2 : Int) ∧ (8 : Int) ≤ (12 : Int) ∧ (12 : Nat) ≤ (1000000 : Nat) ∧ (12 : Nat) = (12 : Nat) := by first | omega | assumption | rfl | ((repeat' with_reducible apply And.intro) <;> first | rfl | assumption | omega))
    (h6 : (0 : Int) ≤ (8 : Int) ∧ (0 : Int) ≤ (2 : Int) ∧ (10 : Int) ≤ (12 : Int) ∧ (12 : Nat) ≤ (1000000 : Nat) ∧ (12 : Nat) = (12 : Nat) := by first | omega | assumption | rfl | ((repeat' with_reducible apply And.intro) <;> first | rfl | assumption | omega))
    (h7 : (0 : Int) ≤ (10 : Int) ∧ (0 : Int) ≤ (2 : Int) ∧ (12 : Int) ≤ (12 : Int) ∧ (12 : Nat) ≤ (1000000 : Nat) ∧ (12 : Nat) = (12 : Nat) := by first | omega | assumption | rfl | ((repeat' with_reducible apply And.intro) <;> first | rfl | assumption | omega)) : fnK Tryd.prog (SErc.on [(12, false), (17, false), (20, false)]) LErN Tryd.f6 [ctv ⟨v, op, false, false, false, sq, st, ac, oc⟩ (.slice (some ⟨0, 0, some 0⟩) 0 0)] [rU N xs] =
     (some (Res.ret (Value.tuple (Array.mk [Value.slice (some (Addr.mk (1 : Nat) (0 : Nat) none)) (12 : Nat) (0 : Nat), Value.int IntKind.i64 (0 : Int)])) [some (Blk.mk false (1 : Nat) [Seg.ints IntKind.u8
     N xs]), some (Blk.mk true (1 : Nat) [Seg.ints IntKind.u8 (12 : Nat) [IntKind.u8.wrap (IntKind.u8.wrap (v * (8 : Int)) + (6 : Int)), op, IntKind.u64.wrap sq / (256 : Int) % (256 : Int),
     IntKind.u64.wrap sq % (256 : Int), IntKind.u64.wrap st / (256 : Int) % (256 : Int), IntKind.u64.wrap st % (256 : Int), IntKind.u64.wrap ac / (256 : Int) % (256 : Int), IntKind.u64.wrap ac % (256 :
     Int), IntKind.u64.wrap oc / (256 : Int) % (256 : Int), IntKind.u64.wrap oc % (256 : Int), (0 : Int), (0 : Int)]])])) :=
  Eq.trans (b :=
     bif decide (v > (7 : Int)) then none else bif decide (op > (31 : Int)) then none else bif chk ((0 : Int) ≤ (2 : Int) ∧ (0 : Int) ≤ (2 : Int) ∧ (4 : Int) ≤ (12 : Int) ∧ (12 : Nat) ≤ (1000000 : Nat) ∧
     (12 : Nat) = (12 : Nat)) then bif chk ((0 : Int) ≤ (4 : Int) ∧ (0 : Int) ≤ (2 : Int) ∧ (6 : Int) ≤ (12 : Int) ∧ (12 : Nat) ≤ (1000000 : Nat) ∧ (12 : Nat) = (12 : Nat)) then bif chk ((0 : Int) ≤ (6 :
     Int) ∧ (0 : Int) ≤ (2 : Int) ∧ (8 : Int) ≤ (12 : Int) ∧ (12 : Nat) ≤ (1000000 : Nat) ∧ (12 : Nat) = (12 : Nat)) then bif chk ((0 : Int) ≤ (8 : Int) ∧ (0 : Int) ≤ (2 : Int) ∧ (10 : Int) ≤ (12 : Int) ∧
     (12 : Nat) ≤ (1000000 : Nat) ∧ (12 : Nat) = (12 : Nat)) then bif chk ((0 : Int) ≤ (10 : Int) ∧ (0 : Int) ≤ (2 : Int) ∧ (12 : Int) ≤ (12 : Int) ∧ (12 : Nat) ≤ (1000000 : Nat) ∧ (12 : Nat) = (12 : Nat))
     then some (Res.ret (Value.tuple (Array.mk [Value.slice (some (Addr.mk (1 : Nat) (0 : Nat) none)) (12 : Nat) (0 : Nat), Value.int IntKind.i64 (0 : Int)])) [some (Blk.mk false (1 : Nat) [Seg.ints
     IntKind.u8 N xs]), some (Blk.mk true (1 : Nat) [Seg.ints IntKind.u8 (12 : Nat) [IntKind.u8.wrap (IntKind.u8.wrap (v * (8 : Int)) + (6 : Int)), op, IntKind.u64.wrap sq / (256 : Int) % (256 : Int),
     IntKind.u64.wrap sq % (256 : Int), IntKind.u64.wrap st / (256 : Int) % (256 : Int), IntKind.u64.wrap st % (256 : Int), IntKind.u64.wrap ac / (256 : Int) % (256 : Int), IntKind.u64.wrap ac % (256 :
     Int), IntKind.u64.wrap oc / (256 : Int) % (256 : Int), IntKind.u64.wrap oc % (256 : Int), (0 : Int), (0 : Int)]])]) else none else none else none else none else none) (by kernel_rfl) (by exact (go_f (dec_f h1) (go_f (dec_f h2) (go_t (chk_t h3) (go_t (chk_t h4) (go_t (chk_t h5) (go_t (chk_t h6) (go_t (chk_t h7) rfl))))))))
--CFEND
end Go.Proofs.YtidhpjgebbimdaaDoor.VC

/- sirf, the document's: Payload; Encode: closed forms. -/
import Derived.Test.YticdglfbgocgmaaM19
import Derived.Test.YticdglfbgocgmaaM17
namespace Go.Proofs.Yticdglfbgocgmaa.VC
open Go Go.Proofs

noncomputable def LPrTf : LF := fun vs h k => match vs, h with
  | [.pointer (some ⟨1, 0, none⟩), .slice none 0 0, .int .i64 0, .int .i64 ln, .slice (some ⟨2, 0, none⟩) K' 0, .slice (some ⟨3, 0, none⟩) len' cc, .int .i64 0], [some ⟨false, 1, [.ints .i64 n vl]⟩, some ⟨true, 2, [.ints .u8 1 [x], .vals [.slice (some ⟨0, 0, none⟩) q c]]⟩, some ⟨true, 1, [.ints .i64 K fl]⟩, some ⟨true, 1, [.ints .u8 len bs]⟩] =>
    bif chk (ln = len ∧ K' = K ∧ len' = len ∧ q = n ∧ K = 2 * q ∧ q ≤ 100 ∧ fldsOK len fl q ∧ len ≤ 1000000 ∧ fitsTo fl vl q) then
      k (.exit 0) [pt 1, .slice none 0 0, w63 0, w63 len, sl 2 K 0, sl 3 len cc, w63 q] [rI n vl, rS x (sl 0 q c), oI K fl, oU len (payB bs fl vl q)] else none
  | _, _ => none
noncomputable def LPrT : LSpec := oneL 9 livePrO LPrTf
noncomputable def LPrFf : LF := fun vs h k => match vs, h with
  | [.pointer (some ⟨1, 0, none⟩), .slice none 0 0, .int .i64 0, .int .i64 ln, .slice (some ⟨2, 0, none⟩) K' 0, .slice (some ⟨3, 0, none⟩) len' cc, .int .i64 0], [some ⟨false, 1, [.ints .i64 n vl]⟩, some ⟨true, 2, [.ints .u8 1 [x], .vals [.slice (some ⟨0, 0, none⟩) q c]]⟩, some ⟨true, 1, [.ints .i64 K fl]⟩, some ⟨true, 1, [.ints .u8 len bs]⟩] =>
    bif chk (ln = len ∧ K' = K ∧ len' = len ∧ q = n ∧ K = 2 * q ∧ q ≤ 100 ∧ fldsOK len fl q ∧ len ≤ 1000000 ∧ ¬ fitsTo fl vl q) then
      k .ret [pt 1, .slice none 0 0, w63 2, w63 len, sl 2 K 0, sl 3 len cc, w63 (endPy fl vl q)] [rI n vl, rS x (sl 0 q c), oI K fl, oU len (payB bs fl vl (endPy fl vl q))] else none
  | _, _ => none
noncomputable def LPrF : LSpec := oneL 9 livePrO LPrFf
--CP pPrTF (x : Int) (n q c len : Nat) (vs fl : List Int) :: fnK Try.prog ((SDecRv len fl).on [(19, false), (26, false)]) LPrT Try.f28 [.agg #[u8v x, sl 0 q c]] [rI n vs]
theorem pPrTF (x : Int) (n q c len : Nat) (vs fl : List Int)
    (w1 : -9223372036854775808 ≤ (↑q : Int) * (2 : Int) ∧ (↑q : Int) * (2 : Int) ≤ 9223372036854775807 := by omega)
    (h1 : layS x = some (len, fl) := by first | omega | assumption | rfl)
    (h2 : (↑len : Int) ≠ (0 : Int) := by first | omega | assumption | rfl)
    (h3 : (↑q : Int) * (2 : Int) = (↑fl.length : Int) := by first | omega | assumption | rfl)
    (h4 : (0 : Int) ≤ (↑len : Int) := by first | omega | assumption | rfl)
    (h5 : (↑len : Int) ≤ (↑len : Int) := by first | omega | assumption | rfl)
    (h6 : (1 : Int) * (↑len : Int) ≤ (281474976710656 : Int) := by first | omega | assumption | rfl)
    (h7 : (↑len : Int) ≤ (4611686018427387904 : Int) := by first | omega | assumption | rfl)
    (h8 : (0 : Int) < (↑len : Int) := by first | omega | assumption | rfl)
    (h9 : (0 : Nat) < len := by first | omega | assumption | rfl)
    (h10 : (↑len : Int) = (↑len : Int) ∧ fl.length = fl.length ∧ len = len ∧ q = n ∧ fl.length = (2 : Nat) * q ∧ q ≤ (100 : Nat) ∧ fldsOK len fl q ∧ len ≤ (1000000 : Nat) ∧ fitsTo fl vs q := by first | omega | assumption | rfl | ((repeat' with_reducible apply And.intro) <;> first | rfl | assumption | omega)) : fnK Try.prog ((SDecRv len fl).on [(19, false), (26, false)]) LPrT Try.f28 [.agg #[u8v x, sl 0 q c]] [rI n vs] =
     (some (Res.ret (Value.tuple (Array.mk [Value.slice (some (Addr.mk (1 : Nat) (0 : Nat) none)) len (bif decide ((↑len : Int) = (↑len : Int)) then (0 : Nat) else (1 : Nat)), Value.int IntKind.i64 (0 :
     Int)])) [some (Blk.mk false (1 : Nat) [Seg.ints IntKind.i64 n vs]), some (Blk.mk true (1 : Nat) [Seg.ints IntKind.u8 len (payB ((List.replicate len (0 : Int)).set (0 : Nat) x) fl vs q)])])) :=
  Eq.trans (b :=
     bif chk (layS x = some (len, fl)) then bif (↑len : Int) == (0 : Int) then none else bif IntKind.i64.wrap ((↑q : Int) * (2 : Int)) != (↑fl.length : Int) then none else bif decide ((0 : Int) ≤ (↑len :
     Int)) && decide ((↑len : Int) ≤ (↑len : Int)) && decide ((1 : Int) * (↑len : Int) ≤ (281474976710656 : Int)) && decide ((↑len : Int) ≤ (4611686018427387904 : Int)) then bif decide ((0 : Int) < (↑(↑len
     : Int).toNat : Int)) then bif Nat.blt (0 : Nat) (↑len : Int).toNat then bif chk ((↑len : Int) = (↑(↑len : Int).toNat : Int) ∧ fl.length = fl.length ∧ (↑len : Int).toNat = (↑len : Int).toNat ∧ q = n ∧
     fl.length = (2 : Nat) * q ∧ q ≤ (100 : Nat) ∧ fldsOK (↑len : Int).toNat fl q ∧ (↑len : Int).toNat ≤ (1000000 : Nat) ∧ fitsTo fl vs q) then some (Res.ret (Value.tuple (Array.mk [Value.slice (some
     (Addr.mk (1 : Nat) (0 : Nat) none)) (↑len : Int).toNat (bif decide ((↑len : Int) = (↑len : Int)) then (0 : Nat) else (1 : Nat)), Value.int IntKind.i64 (0 : Int)])) [some (Blk.mk false (1 : Nat)
     [Seg.ints IntKind.i64 n vs]), some (Blk.mk true (1 : Nat) [Seg.ints IntKind.u8 (↑len : Int).toNat (payB ((List.replicate (↑len : Int).toNat (0 : Int)).set (0 : Nat) x) fl vs q)])]) else none else none
     else none else none else none) (by kernel_rfl) (by simp only [-eq_self, Int.toNat_natCast, swrap w1.1 w1.2]; exact (go_t (chk_t h1) (go_f (eqb_f h2) (go_f (bne_f h3) (go_t (and_t (and_t (and_t (dec_t h4) (dec_t h5)) (dec_t h6)) (dec_t h7)) (go_t (dec_t h8) (go_t (blt_t h9) (go_t (chk_t h10) rfl))))))))
--CFEND
--CP pPrFF (x : Int) (n q c len : Nat) (vs fl : List Int) :: fnK Try.prog ((SDecRv len fl).on [(19, false), (26, false)]) LPrF Try.f28 [.agg #[u8v x, sl 0 q c]] [rI n vs]
theorem pPrFF (x : Int) (n q c len : Nat) (vs fl : List Int)
    (w1 : -9223372036854775808 ≤ (↑q : Int) * (2 : Int) ∧ (↑q : Int) * (2 : Int) ≤ 9223372036854775807 := by omega)
    (h1 : layS x = some (len, fl) := by first | omega | assumption | rfl)
    (h2 : (↑len : Int) ≠ (0 : Int) := by first | omega | assumption | rfl)
    (h3 : (↑q : Int) * (2 : Int) = (↑fl.length : Int) := by first | omega | assumption | rfl)
    (h4 : (0 : Int) ≤ (↑len : Int) := by first | omega | assumption | rfl)
    (h5 : (↑len : Int) ≤ (↑len : Int) := by first | omega | assumption | rfl)
    (h6 : (1 : Int) * (↑len : Int) ≤ (281474976710656 : Int) := by first | omega | assumption | rfl)
    (h7 : (↑len : Int) ≤ (4611686018427387904 : Int) := by first | omega | assumption | rfl)
    (h8 : (0 : Int) < (↑len : Int) := by first | omega | assumption | rfl)
    (h9 : (0 : Nat) < len := by first | omega | assumption | rfl)
    (h10 : (↑len : Int) = (↑len : Int) ∧ fl.length = fl.length ∧ len = len ∧ q = n ∧ fl.length = (2 : Nat) * q ∧ q ≤ (100 : Nat) ∧ fldsOK len fl q ∧ len ≤ (1000000 : Nat) ∧ ¬fitsTo fl vs q := by first | omega | assumption | rfl | ((repeat' with_reducible apply And.intro) <;> first | rfl | assumption | omega)) : fnK Try.prog ((SDecRv len fl).on [(19, false), (26, false)]) LPrF Try.f28 [.agg #[u8v x, sl 0 q c]] [rI n vs] =
     (some (Res.ret (Value.tuple (Array.mk [Value.slice none (0 : Nat) (0 : Nat), Value.int IntKind.i64 (2 : Int)])) [some (Blk.mk false (1 : Nat) [Seg.ints IntKind.i64 n vs])])) :=
  Eq.trans (b :=
     bif chk (layS x = some (len, fl)) then bif (↑len : Int) == (0 : Int) then none else bif IntKind.i64.wrap ((↑q : Int) * (2 : Int)) != (↑fl.length : Int) then none else bif decide ((0 : Int) ≤ (↑len :
     Int)) && decide ((↑len : Int) ≤ (↑len : Int)) && decide ((1 : Int) * (↑len : Int) ≤ (281474976710656 : Int)) && decide ((↑len : Int) ≤ (4611686018427387904 : Int)) then bif decide ((0 : Int) < (↑(↑len
     : Int).toNat : Int)) then bif Nat.blt (0 : Nat) (↑len : Int).toNat then bif chk ((↑len : Int) = (↑(↑len : Int).toNat : Int) ∧ fl.length = fl.length ∧ (↑len : Int).toNat = (↑len : Int).toNat ∧ q = n ∧
     fl.length = (2 : Nat) * q ∧ q ≤ (100 : Nat) ∧ fldsOK (↑len : Int).toNat fl q ∧ (↑len : Int).toNat ≤ (1000000 : Nat) ∧ ¬fitsTo fl vs q) then some (Res.ret (Value.tuple (Array.mk [Value.slice none (0 :
     Nat) (0 : Nat), Value.int IntKind.i64 (2 : Int)])) [some (Blk.mk false (1 : Nat) [Seg.ints IntKind.i64 n vs])]) else none else none else none else none else none) (by kernel_rfl) (by simp only [-eq_self, Int.toNat_natCast, swrap w1.1 w1.2]; exact (go_t (chk_t h1) (go_f (eqb_f h2) (go_f (bne_f h3) (go_t (and_t (and_t (and_t (dec_t h4) (dec_t h5)) (dec_t h6)) (dec_t h7)) (go_t (dec_t h8) (go_t (blt_t h9) (go_t (chk_t h10) rfl))))))))
--CFEND
--CP pPrCF (x : Int) (n q c len : Nat) (vs fl : List Int) :: fnK Try.prog ((SDecRv len fl).on [(19, false), (26, true)]) noL Try.f28 [.agg #[u8v x, sl 0 q c]] [rI n vs]
theorem pPrCF (x : Int) (n q c len : Nat) (vs fl : List Int)
    (w1 : -9223372036854775808 ≤ (↑q : Int) * (2 : Int) ∧ (↑q : Int) * (2 : Int) ≤ 9223372036854775807 := by omega)
    (h1 : layS x = some (len, fl) := by first | omega | assumption | rfl)
    (h2 : (↑len : Int) ≠ (0 : Int) := by first | omega | assumption | rfl)
    (h3 : (↑q : Int) * (2 : Int) ≠ (↑fl.length : Int) := by first | omega | assumption | rfl) : fnK Try.prog ((SDecRv len fl).on [(19, false), (26, true)]) noL Try.f28 [.agg #[u8v x, sl 0 q c]] [rI n vs] =
     (some (Res.ret (Value.tuple (Array.mk [Value.slice none (0 : Nat) (0 : Nat), Value.int IntKind.i64 (2 : Int)])) [some (Blk.mk false (1 : Nat) [Seg.ints IntKind.i64 n vs])])) :=
  Eq.trans (b :=
     bif chk (layS x = some (len, fl)) then bif (↑len : Int) == (0 : Int) then none else bif IntKind.i64.wrap ((↑q : Int) * (2 : Int)) != (↑fl.length : Int) then some (Res.ret (Value.tuple (Array.mk
     [Value.slice none (0 : Nat) (0 : Nat), Value.int IntKind.i64 (2 : Int)])) [some (Blk.mk false (1 : Nat) [Seg.ints IntKind.i64 n vs])]) else none else none) (by kernel_rfl) (by simp only [-eq_self, swrap w1.1 w1.2]; exact (go_t (chk_t h1) (go_f (eqb_f h2) (go_t (bne_t h3) rfl))))
--CFEND
--CP pPrNF (x : Int) (n q c : Nat) (vs : List Int) :: fnK Try.prog (SDecRn.on [(19, true)]) noL Try.f28 [.agg #[u8v x, sl 0 q c]] [rI n vs]
theorem pPrNF (x : Int) (n q c : Nat) (vs : List Int)
    (h1 : layS x = none := by first | omega | assumption | rfl) : fnK Try.prog (SDecRn.on [(19, true)]) noL Try.f28 [.agg #[u8v x, sl 0 q c]] [rI n vs] =
     (some (Res.ret (Value.tuple (Array.mk [Value.slice none (0 : Nat) (0 : Nat), Value.int IntKind.i64 (7 : Int)])) [some (Blk.mk false (1 : Nat) [Seg.ints IntKind.i64 n vs])])) :=
  Eq.trans (by kernel_rfl) (go_t (chk_t h1) rfl)
--CFEND
/-- A frame around a payload. -/
def frmS (len : Nat) (b : List Int) : List Int := [160, 162, (len : Int) / 256, (len : Int) % 256] ++ b ++ [sum15 b / 256, sum15 b % 256, 176, 179]
noncomputable def SEnK (len : Nat) (fl : List Int) : Spec := mkS [(27, false, FPayK len fl), (69, false, FFif)]
noncomputable def SEnE (e : Int) : Spec := mkS [(27, false, FPayE e)]
noncomputable def SErK (len : Nat) (fl : List Int) : Spec := mkS [(28, false, FPayK len fl), (70, false, FFif)]
noncomputable def SErE (e : Int) : Spec := mkS [(28, false, FPayE e)]
--CP pEnK (x : Int) (n q c len : Nat) (vs fl : List Int) :: fnK Try.prog ((SEnK len fl).on [(14, false)]) noL Try.f29 [.agg #[u8v x, sl 0 q c]] [rI n vs]
theorem pEnK (x : Int) (n q c len : Nat) (vs fl : List Int)
    (h1 : layS x = some (len, fl) ∧ (2 : Nat) * q = fl.length ∧ q = n ∧ fitsTo fl vs q := by first | omega | assumption | rfl | ((repeat' with_reducible apply And.intro) <;> first | rfl | assumption | omega))
    (h2 : len = len ∧ len ≤ (1000000 : Nat) := by first | omega | assumption | rfl | ((repeat' with_reducible apply And.intro) <;> first | rfl | assumption | omega))
    (h3 : len ≤ len := by first | omega | assumption | rfl)
    (h4 : (4 : Nat) + len ≤ (140737488355328 : Nat) := by first | omega | assumption | rfl)
    (h5 : (4 : Nat) + len ≤ (4611686018427387904 : Nat) := by first | omega | assumption | rfl)
    (h6 : (false || Nat.blt (0 : Nat) len) = true := by first | omega | assumption | rfl)
    (h7 : (4 : Nat) + len ≤ (4 : Nat) + len := by first | omega | assumption | rfl)
    (h8 : (4 : Nat) + len + (4 : Nat) ≤ (140737488355328 : Nat) := by first | omega | assumption | rfl)
    (h9 : (4 : Nat) + len + (4 : Nat) ≤ (4611686018427387904 : Nat) := by first | omega | assumption | rfl)
    (h10 : (4 : Nat) + len = segsLen [Seg.ints IntKind.u8 ((4 : Nat) + len) ([(160 : Int), (162 : Int), IntKind.u8.wrap ((↑len : Int).fdiv (256 : Int)), IntKind.u8.wrap (↑len : Int)] ++ List.take len (payB (pay0 len x) fl vs q))] := by first | omega | assumption | rfl) : fnK Try.prog ((SEnK len fl).on [(14, false)]) noL Try.f29 [.agg #[u8v x, sl 0 q c]] [rI n vs] =
     (some (Res.ret (Value.tuple (Array.mk [Value.slice (some (Addr.mk (1 : Nat) (0 : Nat) none)) ((4 : Nat) + len + (4 : Nat)) (1 : Nat), Value.int IntKind.i64 (0 : Int)])) [some (Blk.mk false (1 : Nat)
     [Seg.ints IntKind.i64 n vs]), some (Blk.mk true (1 : Nat) [Seg.ints IntKind.u8 ((4 : Nat) + len + (4 : Nat)) (List.take ((4 : Nat) + len) ([(160 : Int), (162 : Int), IntKind.u8.wrap ((↑len : Int).fdiv
     (256 : Int)), IntKind.u8.wrap (↑len : Int)] ++ List.take len (payB (pay0 len x) fl vs q)) ++ List.take (4 : Nat) [IntKind.u8.wrap ((sum15 (payB (pay0 len x) fl vs q)).fdiv (256 : Int)),
     IntKind.u8.wrap (sum15 (payB (pay0 len x) fl vs q)), (176 : Int), (179 : Int)])])])) :=
  Eq.trans (b :=
     bif chk (layS x = some (len, fl) ∧ (2 : Nat) * q = fl.length ∧ q = n ∧ fitsTo fl vs q) then bif chk (len = len ∧ len ≤ (1000000 : Nat)) then bif (len * (1 : Nat)).ble len then bif decide (((4 : Nat) +
     len) * (1 : Nat) ≤ (140737488355328 : Nat)) && ((4 : Nat) + len).ble (OfNat.ofNat (4611686018427387904 : Nat)) then bif false || Nat.blt (0 : Nat) len then bif (((4 : Nat) + len) * (1 : Nat)).ble ((4
     : Nat) + len * (1 : Nat)) then bif decide (((4 : Nat) + len + (4 : Nat)) * (1 : Nat) ≤ (140737488355328 : Nat)) && ((4 : Nat) + len + (4 : Nat)).ble (OfNat.ofNat (4611686018427387904 : Nat)) then bif
     ((0 : Nat) + ((4 : Nat) + len) * (1 : Nat)).beq (segsLen [Seg.ints IntKind.u8 ((4 : Nat) + len * (1 : Nat)) ([(160 : Int), (162 : Int), IntKind.u8.wrap ((↑len : Int).fdiv (256 : Int)), IntKind.u8.wrap
     (↑len : Int)] ++ List.take (len * (1 : Nat)) (payB (pay0 len x) fl vs q))]) && true then some (Res.ret (Value.tuple (Array.mk [Value.slice (some (Addr.mk (1 : Nat) (0 : Nat) none)) ((4 : Nat) + len +
     (4 : Nat)) (1 : Nat), Value.int IntKind.i64 (0 : Int)])) [some (Blk.mk false (1 : Nat) [Seg.ints IntKind.i64 n vs]), some (Blk.mk true (1 : Nat) [Seg.ints IntKind.u8 (((4 : Nat) + len) * (1 : Nat) +
     (4 : Nat)) (List.take (((4 : Nat) + len) * (1 : Nat)) ([(160 : Int), (162 : Int), IntKind.u8.wrap ((↑len : Int).fdiv (256 : Int)), IntKind.u8.wrap (↑len : Int)] ++ List.take (len * (1 : Nat)) (payB
     (pay0 len x) fl vs q)) ++ List.take (4 : Nat) [IntKind.u8.wrap ((sum15 (payB (pay0 len x) fl vs q)).fdiv (256 : Int)), IntKind.u8.wrap (sum15 (payB (pay0 len x) fl vs q)), (176 : Int), (179 :
     Int)])])]) else none else none else none else none else none else none else none else none) (by kernel_rfl) (by simp only [-eq_self, Nat.mul_one, Nat.zero_add]; exact (go_t (chk_t h1) (go_t (chk_t h2) (go_t (ble_t h3) (go_t (and_t (dec_t h4) (ble_t h5)) (go_t h6 (go_t (ble_t h7) (go_t (and_t (dec_t h8) (ble_t h9)) (go_t (and_t (beq_t h10) rfl) rfl)))))))))
--CFEND
--CP pEnE (x e : Int) (n q c : Nat) (vs : List Int) :: fnK Try.prog ((SEnE e).on [(14, true)]) noL Try.f29 [.agg #[u8v x, sl 0 q c]] [rI n vs]
theorem pEnE (x e : Int) (n q c : Nat) (vs : List Int)
    (h1 : payErr x q vs = e ∧ e ≠ (0 : Int) ∧ q = n ∧ q ≤ (1000000000 : Nat) := by first | omega | assumption | rfl | ((repeat' with_reducible apply And.intro) <;> first | rfl | assumption | omega))
    (h2 : e ≠ (0 : Int) := by first | omega | assumption | rfl) : fnK Try.prog ((SEnE e).on [(14, true)]) noL Try.f29 [.agg #[u8v x, sl 0 q c]] [rI n vs] =
     (some (Res.ret (Value.tuple (Array.mk [Value.slice none (0 : Nat) (0 : Nat), Value.int IntKind.i64 e])) [some (Blk.mk false (1 : Nat) [Seg.ints IntKind.i64 n vs])])) :=
  Eq.trans (by kernel_rfl) (go_t (chk_t h1) (go_t (bne_t h2) rfl))
--CFEND
--CP pErK (x : Int) (n q c len : Nat) (vs fl : List Int) :: fnK Try.prog ((SErK len fl).on [(14, false)]) noL Try.f30 [.agg #[u8v x, sl 0 q c]] [rI n vs]
theorem pErK (x : Int) (n q c len : Nat) (vs fl : List Int)
    (w1 : -9223372036854775808 ≤ (↑len : Int).tdiv (256 : Int) ∧ (↑len : Int).tdiv (256 : Int) ≤ 9223372036854775807 := by omega)
    (w2 : -9223372036854775808 ≤ sum15 (payB (pay0 len x) fl vs q) ∧ sum15 (payB (pay0 len x) fl vs q) ≤ 9223372036854775807 := by omega)
    (w3 : -9223372036854775808 ≤ (sum15 (payB (pay0 len x) fl vs q)).tdiv (256 : Int) ∧ (sum15 (payB (pay0 len x) fl vs q)).tdiv (256 : Int) ≤ 9223372036854775807 := by omega)
    (h1 : layS x = some (len, fl) ∧ (2 : Nat) * q = fl.length ∧ q = n ∧ fitsTo fl vs q := by first | omega | assumption | rfl | ((repeat' with_reducible apply And.intro) <;> first | rfl | assumption | omega))
    (h2 : len = len ∧ len ≤ (1000000 : Nat) := by first | omega | assumption | rfl | ((repeat' with_reducible apply And.intro) <;> first | rfl | assumption | omega))
    (h3 : len ≤ len := by first | omega | assumption | rfl)
    (h4 : (4 : Nat) + len ≤ (140737488355328 : Nat) := by first | omega | assumption | rfl)
    (h5 : (4 : Nat) + len ≤ (4611686018427387904 : Nat) := by first | omega | assumption | rfl)
    (h6 : (false || Nat.blt (0 : Nat) len) = true := by first | omega | assumption | rfl)
    (h7 : (4 : Nat) + len ≤ (4 : Nat) + len := by first | omega | assumption | rfl)
    (h8 : (4 : Nat) + len + (4 : Nat) ≤ (140737488355328 : Nat) := by first | omega | assumption | rfl)
    (h9 : (4 : Nat) + len + (4 : Nat) ≤ (4611686018427387904 : Nat) := by first | omega | assumption | rfl)
    (h10 : (4 : Nat) + len = segsLen [Seg.ints IntKind.u8 ((4 : Nat) + len) ([(160 : Int), (162 : Int), IntKind.u8.wrap ((↑len : Int).tdiv (256 : Int)), IntKind.u8.wrap ((↑len : Int).tmod (256 : Int))] ++ List.take len (payB (pay0 len x) fl vs q))] := by first | omega | assumption | rfl) : fnK Try.prog ((SErK len fl).on [(14, false)]) noL Try.f30 [.agg #[u8v x, sl 0 q c]] [rI n vs] =
     (some (Res.ret (Value.tuple (Array.mk [Value.slice (some (Addr.mk (1 : Nat) (0 : Nat) none)) ((4 : Nat) + len + (4 : Nat)) (1 : Nat), Value.int IntKind.i64 (0 : Int)])) [some (Blk.mk false (1 : Nat)
     [Seg.ints IntKind.i64 n vs]), some (Blk.mk true (1 : Nat) [Seg.ints IntKind.u8 ((4 : Nat) + len + (4 : Nat)) (List.take ((4 : Nat) + len) ([(160 : Int), (162 : Int), IntKind.u8.wrap ((↑len : Int).tdiv
     (256 : Int)), IntKind.u8.wrap ((↑len : Int).tmod (256 : Int))] ++ List.take len (payB (pay0 len x) fl vs q)) ++ List.take (4 : Nat) [IntKind.u8.wrap ((sum15 (payB (pay0 len x) fl vs q)).tdiv (256 :
     Int)), IntKind.u8.wrap ((sum15 (payB (pay0 len x) fl vs q)).tmod (256 : Int)), (176 : Int), (179 : Int)])])])) :=
  Eq.trans (b :=
     bif chk (layS x = some (len, fl) ∧ (2 : Nat) * q = fl.length ∧ q = n ∧ fitsTo fl vs q) then bif chk (len = len ∧ len ≤ (1000000 : Nat)) then bif (len * (1 : Nat)).ble len then bif decide (((4 : Nat) +
     len) * (1 : Nat) ≤ (140737488355328 : Nat)) && ((4 : Nat) + len).ble (OfNat.ofNat (4611686018427387904 : Nat)) then bif false || Nat.blt (0 : Nat) len then bif (((4 : Nat) + len) * (1 : Nat)).ble ((4
     : Nat) + len * (1 : Nat)) then bif decide (((4 : Nat) + len + (4 : Nat)) * (1 : Nat) ≤ (140737488355328 : Nat)) && ((4 : Nat) + len + (4 : Nat)).ble (OfNat.ofNat (4611686018427387904 : Nat)) then bif
     ((0 : Nat) + ((4 : Nat) + len) * (1 : Nat)).beq (segsLen [Seg.ints IntKind.u8 ((4 : Nat) + len * (1 : Nat)) ([(160 : Int), (162 : Int), IntKind.u8.wrap (IntKind.i64.wrap ((↑len : Int).tdiv (256 :
     Int))), IntKind.u8.wrap ((↑len : Int).tmod (256 : Int))] ++ List.take (len * (1 : Nat)) (payB (pay0 len x) fl vs q))]) && true then some (Res.ret (Value.tuple (Array.mk [Value.slice (some (Addr.mk (1
     : Nat) (0 : Nat) none)) ((4 : Nat) + len + (4 : Nat)) (1 : Nat), Value.int IntKind.i64 (0 : Int)])) [some (Blk.mk false (1 : Nat) [Seg.ints IntKind.i64 n vs]), some (Blk.mk true (1 : Nat) [Seg.ints
     IntKind.u8 (((4 : Nat) + len) * (1 : Nat) + (4 : Nat)) (List.take (((4 : Nat) + len) * (1 : Nat)) ([(160 : Int), (162 : Int), IntKind.u8.wrap (IntKind.i64.wrap ((↑len : Int).tdiv (256 : Int))),
     IntKind.u8.wrap ((↑len : Int).tmod (256 : Int))] ++ List.take (len * (1 : Nat)) (payB (pay0 len x) fl vs q)) ++ List.take (4 : Nat) [IntKind.u8.wrap (IntKind.i64.wrap ((IntKind.i64.wrap (sum15 (payB
     (pay0 len x) fl vs q))).tdiv (256 : Int))), IntKind.u8.wrap ((IntKind.i64.wrap (sum15 (payB (pay0 len x) fl vs q))).tmod (256 : Int)), (176 : Int), (179 : Int)])])]) else none else none else none else
     none else none else none else none else none) (by kernel_rfl) (by simp only [-eq_self, Nat.mul_one, Nat.zero_add, swrap w1.1 w1.2, swrap w2.1 w2.2, swrap w3.1 w3.2]; exact (go_t (chk_t h1) (go_t (chk_t h2) (go_t (ble_t h3) (go_t (and_t (dec_t h4) (ble_t h5)) (go_t h6 (go_t (ble_t h7) (go_t (and_t (dec_t h8) (ble_t h9)) (go_t (and_t (beq_t h10) rfl) rfl)))))))))
--CFEND
--CP pErE (x e : Int) (n q c : Nat) (vs : List Int) :: fnK Try.prog ((SErE e).on [(14, true)]) noL Try.f30 [.agg #[u8v x, sl 0 q c]] [rI n vs]
theorem pErE (x e : Int) (n q c : Nat) (vs : List Int)
    (h1 : payErr x q vs = e ∧ e ≠ (0 : Int) ∧ q = n ∧ q ≤ (1000000000 : Nat) := by first | omega | assumption | rfl | ((repeat' with_reducible apply And.intro) <;> first | rfl | assumption | omega))
    (h2 : e ≠ (0 : Int) := by first | omega | assumption | rfl) : fnK Try.prog ((SErE e).on [(14, true)]) noL Try.f30 [.agg #[u8v x, sl 0 q c]] [rI n vs] =
     (some (Res.ret (Value.tuple (Array.mk [Value.slice none (0 : Nat) (0 : Nat), Value.int IntKind.i64 e])) [some (Blk.mk false (1 : Nat) [Seg.ints IntKind.i64 n vs])])) :=
  Eq.trans (by kernel_rfl) (go_t (chk_t h1) (go_t (bne_t h2) rfl))
--CFEND
end Go.Proofs.Yticdglfbgocgmaa.VC

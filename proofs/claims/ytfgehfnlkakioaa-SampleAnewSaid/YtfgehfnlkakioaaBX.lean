/- Arithmetic: words, and long division's steps. -/
import Derived.Test.YtfgehfnlkakioaaProg
import Derived.Test.YtfgehfnlkakioaaVX3
import Derived.KernelRfl
import Derived.Lib.Mul64
import Derived.Laws.Bits64b
import Derived.Laws.Externs
namespace Go.Proofs.Ytfgehfnlkakioaa.VC
open Go

theorem wu64 {x : Int} (h0 : 0 ≤ x) (h1 : x < 18446744073709551616) : IntKind.u64.wrap x = x := by
  simp only [IntKind.wrap, IntKind.signed, IntKind.bits]
  simp
  omega

theorem wu64e (x : Int) : IntKind.u64.wrap x = x % 18446744073709551616 := by
  simp only [IntKind.wrap, IntKind.signed, IntKind.bits]
  simp

theorem wi64 {x : Int} (h0 : -9223372036854775808 ≤ x) (h1 : x < 9223372036854775808) : IntKind.i64.wrap x = x := by
  simp only [IntKind.wrap, IntKind.signed, IntKind.bits]
  simp
  omega

theorem wu8 {x : Int} (h0 : 0 ≤ x) (h1 : x < 256) : IntKind.u8.wrap x = x := by
  simp only [IntKind.wrap, IntKind.signed, IntKind.bits]
  simp
  omega

theorem wi64e (x : Int) : IntKind.i64.wrap x = (x + 9223372036854775808) % 18446744073709551616 - 9223372036854775808 := by
  simp only [IntKind.wrap, IntKind.signed, IntKind.bits]
  simp
  omega

/-- A quotient's digit. -/
def kq (v1 v0 u a : Int) : Int := (u * 4294967296 + a) / (v1 * 4294967296 + v0)

structure KOK (v1 v0 u a q r : Int) : Prop where
  v1a : 2147483648 ≤ v1
  v1b : v1 < 4294967296
  v0a : 0 ≤ v0
  v0b : v0 < 4294967296
  aa : 0 ≤ a
  ab : a < 4294967296
  ua : 0 ≤ u
  ub : u < v1 * 4294967296 + v0
  qe : q = u / v1
  re : r = u - q * v1

theorem mul_le {a b c d : Int} (h1 : a ≤ b) (h2 : c ≤ d) (h3 : 0 ≤ a) (h4 : 0 ≤ d) : a * c ≤ b * d :=
  Int.le_trans (Int.mul_le_mul_of_nonneg_left h2 h3) (Int.mul_le_mul_of_nonneg_right h1 h4)

theorem KOK.digit {v1 v0 u a q r : Int} (h : KOK v1 v0 u a q r) {x : Int} (h1 : x * (v1 * 4294967296 + v0) ≤ u * 4294967296 + a) (h2 : u * 4294967296 + a < (x + 1) * (v1 * 4294967296 + v0)) : x = kq v1 v0 u a := by
  have hv : 0 < v1 * 4294967296 + v0 := by have := h.v1a; have := h.v0a; omega
  unfold kq
  have e1 := (Int.le_ediv_iff_mul_le hv).2 h1
  have e2 := (Int.ediv_lt_iff_lt_mul hv).2 h2
  omega

theorem KOK.qb {v1 v0 u a q r : Int} (h : KOK v1 v0 u a q r) : 0 ≤ q ∧ q ≤ 4294967297 ∧ 0 ≤ r ∧ r < v1 ∧ u = q * v1 + r := by
  have hv : 0 < v1 := by have := h.v1a; omega
  have e0 := h.qe
  have e1 : 0 ≤ u / v1 := Int.ediv_nonneg h.ua (by omega)
  have e2 : u / v1 < 4294967298 := (Int.ediv_lt_iff_lt_mul hv).2 (by have := h.ub; have := h.v0b; have := h.v1a; omega)
  have e3 := Int.emod_nonneg u (b := v1) (by omega)
  have e4 := Int.emod_lt_of_pos u hv
  have e5 := Int.mul_ediv_add_emod u v1
  have e6 : r = u % v1 := by rw [h.re, e0]; rw [Int.mul_comm] ; omega
  refine ⟨by omega, by omega, by omega, by omega, ?_⟩
  have := h.re
  omega

/-- The digit lies not above a guess. -/
theorem KOK.above {v1 v0 u a q r : Int} (h : KOK v1 v0 u a q r) : kq v1 v0 u a ≤ q ∧ 0 ≤ kq v1 v0 u a ∧ kq v1 v0 u a < 4294967296 := by
  obtain ⟨q0, q1, r0, r1, hu⟩ := h.qb
  have hv : 0 < v1 * 4294967296 + v0 := by have := h.v1a; have := h.v0a; omega
  refine ⟨?_, Int.ediv_nonneg (by have := h.ua; have := h.aa; omega) (by omega), ?_⟩
  · have : kq v1 v0 u a < q + 1 := by
      refine (Int.ediv_lt_iff_lt_mul hv).2 ?_
      have e1 : (q + 1) * (v1 * 4294967296 + v0) = q * v1 * 4294967296 + v1 * 4294967296 + (q + 1) * v0 := by
        rw [Int.mul_add, ← Int.mul_assoc, Int.add_mul q 1 v1, Int.one_mul, Int.add_mul (q * v1)]
      have e2 : 0 ≤ (q + 1) * v0 := Int.mul_nonneg (by omega) h.v0a
      have := h.ab
      rw [e1]
      generalize q * v1 = qv at *
      omega
    omega
  · refine (Int.ediv_lt_iff_lt_mul hv).2 ?_
    have := h.ub
    have := h.ab
    have := h.aa
    omega

/-- A guess x, its rest y. -/
theorem KOK.test {v1 v0 u a q r : Int} (h : KOK v1 v0 u a q r) {x y : Int} (hx : kq v1 v0 u a ≤ x) (hu : u = x * v1 + y) :
    (x < 4294967296 → x * v0 ≤ 4294967296 * y + a → x = kq v1 v0 u a) ∧ ((x ≥ 4294967296 ∨ x * v0 > 4294967296 * y + a) → kq v1 v0 u a ≤ x - 1) := by
  have hv : 0 < v1 * 4294967296 + v0 := by have := h.v1a; have := h.v0a; omega
  have hab := h.above
  have e1 : x * (v1 * 4294967296 + v0) = x * v1 * 4294967296 + x * v0 := by rw [Int.mul_add, ← Int.mul_assoc]
  constructor
  · intro h1 h2
    have : x ≤ kq v1 v0 u a := by
      refine (Int.le_ediv_iff_mul_le hv).2 ?_
      rw [e1]
      generalize x * v1 = p at *
      generalize x * v0 = p0 at *
      omega
    omega
  · intro h1
    rcases h1 with h1 | h1
    · omega
    · have : kq v1 v0 u a < x := by
        refine (Int.ediv_lt_iff_lt_mul hv).2 ?_
        rw [e1]
        generalize x * v1 = p at *
        generalize x * v0 = p0 at *
        omega
      omega

theorem KOK.prod {v1 v0 u a q r : Int} (h : KOK v1 v0 u a q r) {x : Int} (h0 : 0 ≤ x) (h1 : x ≤ 4294967297) : 0 ≤ x * v0 ∧ x * v0 < 18446744073709551616 := by
  refine ⟨Int.mul_nonneg h0 h.v0a, ?_⟩
  have h2 : v0 ≤ 4294967295 := by have := h.v0b; omega
  have := mul_le h1 h2 h0 (by omega)
  omega
theorem KOK.prod2 {v1 v0 u a q r : Int} (h : KOK v1 v0 u a q r) {x : Int} (h0 : 0 ≤ x) (h1 : x ≤ 4294967296) : x * v0 ≤ 4294967296 * 4294967295 := by
  have h2 : v0 ≤ 4294967295 := by have := h.v0b; omega
  exact mul_le h1 h2 h0 (by omega)
end Go.Proofs.Ytfgehfnlkakioaa.VC

/- math/bits: what the functions compute. -/
namespace Go.Proofs.Ytfgehfnlkakioaa.VC
open Go

/-- Len64's answer. -/
def lenI (x : Int) : Int := if x = 0 then 0 else (x.toNat.log2 : Int) + 1
/-- What is shown of Len64. -/
def F119 : FSpec := fun args h k => match args, h with
  | [.int .u64 x], [] => k (.int .i64 (lenI x)) []
  | _, _ => none
def F118 : FSpec := fun args h k => match args, h with
  | [.int .u64 x], [] => k (.int .i64 (IntKind.i64.wrap (64 - lenI x))) []
  | _, _ => none

def F87 : FSpec := fun args h k => match args, h with
  | [.int .u64 a, .int .u64 b], [] => k (.tuple #[.int .u64 (a * b / 18446744073709551616), .int .u64 (a * b % 18446744073709551616)]) []
  | _, _ => none

/-- The first byte sequence that a piece of code names. -/
def bytesOf : List Oper → Option ByteArray
  | [] => none
  | o :: r => match o.op with
    | .index _ (.const (.string b)) _ => some b
    | _ => bytesOf r
def bytesIn : Code → Option ByteArray
  | .region _ ops _ => bytesOf ops.toList
  | .seq a b => match bytesIn a with
    | some x => some x
    | none => bytesIn b
  | .cond _ a b => match bytesIn a with
    | some x => some x
    | none => bytesIn b
  | _ => none
noncomputable def lit_tab : ByteArray := ((Try.f119.body.bind bytesIn).getD ⟨#[]⟩)

--CF cf119 (x : Int) :: fnK Try.prog (mkS []) noL Try.f119 [.int .u64 x] []
theorem cf119 (x : Int) : fnK Try.prog (mkS []) noL Try.f119 [.int .u64 x] [] =
     (bif decide (x ≥ 4294967296) then bif decide (x.fdiv 4294967296 ≥ 65536) then bif decide ((x.fdiv 4294967296).fdiv 65536 ≥ 256) then bif decide (0 ≤ IntKind.u8.wrap (((x.fdiv 4294967296).fdiv
     65536).fdiv 256)) && decide (IntKind.u8.wrap (((x.fdiv 4294967296).fdiv 65536).fdiv 256) < 256) then some (Res.ret (Value.int IntKind.i64 (IntKind.i64.wrap (56 + IntKind.i64.wrap (bt lit_tab
     (IntKind.u8.wrap (((x.fdiv 4294967296).fdiv 65536).fdiv 256)).toNat)))) []) else none else bif decide (0 ≤ IntKind.u8.wrap ((x.fdiv 4294967296).fdiv 65536)) && decide (IntKind.u8.wrap ((x.fdiv
     4294967296).fdiv 65536) < 256) then some (Res.ret (Value.int IntKind.i64 (IntKind.i64.wrap (48 + IntKind.i64.wrap (bt lit_tab (IntKind.u8.wrap ((x.fdiv 4294967296).fdiv 65536)).toNat)))) []) else none
     else bif decide (x.fdiv 4294967296 ≥ 256) then bif decide (0 ≤ IntKind.u8.wrap ((x.fdiv 4294967296).fdiv 256)) && decide (IntKind.u8.wrap ((x.fdiv 4294967296).fdiv 256) < 256) then some (Res.ret
     (Value.int IntKind.i64 (IntKind.i64.wrap (40 + IntKind.i64.wrap (bt lit_tab (IntKind.u8.wrap ((x.fdiv 4294967296).fdiv 256)).toNat)))) []) else none else bif decide (0 ≤ IntKind.u8.wrap (x.fdiv
     4294967296)) && decide (IntKind.u8.wrap (x.fdiv 4294967296) < 256) then some (Res.ret (Value.int IntKind.i64 (IntKind.i64.wrap (32 + IntKind.i64.wrap (bt lit_tab (IntKind.u8.wrap (x.fdiv
     4294967296)).toNat)))) []) else none else bif decide (x ≥ 65536) then bif decide (x.fdiv 65536 ≥ 256) then bif decide (0 ≤ IntKind.u8.wrap ((x.fdiv 65536).fdiv 256)) && decide (IntKind.u8.wrap
     ((x.fdiv 65536).fdiv 256) < 256) then some (Res.ret (Value.int IntKind.i64 (IntKind.i64.wrap (24 + IntKind.i64.wrap (bt lit_tab (IntKind.u8.wrap ((x.fdiv 65536).fdiv 256)).toNat)))) []) else none else
     bif decide (0 ≤ IntKind.u8.wrap (x.fdiv 65536)) && decide (IntKind.u8.wrap (x.fdiv 65536) < 256) then some (Res.ret (Value.int IntKind.i64 (IntKind.i64.wrap (16 + IntKind.i64.wrap (bt lit_tab
     (IntKind.u8.wrap (x.fdiv 65536)).toNat)))) []) else none else bif decide (x ≥ 256) then bif decide (0 ≤ IntKind.u8.wrap (x.fdiv 256)) && decide (IntKind.u8.wrap (x.fdiv 256) < 256) then some (Res.ret
     (Value.int IntKind.i64 (IntKind.i64.wrap (8 + IntKind.i64.wrap (bt lit_tab (IntKind.u8.wrap (x.fdiv 256)).toNat)))) []) else none else bif decide (0 ≤ IntKind.u8.wrap x) && decide (IntKind.u8.wrap x <
     256) then some (Res.ret (Value.int IntKind.i64 (IntKind.i64.wrap (0 + IntKind.i64.wrap (bt lit_tab (IntKind.u8.wrap x).toNat)))) []) else none) := by kernel_rfl
--CFEND
--CF cf118 (x : Int) :: fnK Try.prog (mkS [(119, false, F119)]) noL Try.f118 [.int .u64 x] []
theorem cf118 (x : Int) : fnK Try.prog (mkS [(119, false, F119)]) noL Try.f118 [.int .u64 x] [] =
     (some (Res.ret (Value.int IntKind.i64 (IntKind.i64.wrap (64 - lenI x))) [])) := by kernel_rfl
--CFEND
--CF cf87 (a b : Int) :: fnK Try.prog (mkS []) noL Try.f87 [.int .u64 a, .int .u64 b] []
theorem cf87 (a b : Int) : fnK Try.prog (mkS []) noL Try.f87 [.int .u64 a, .int .u64 b] [] =
     (some (Res.ret (Value.tuple { toList := [Value.int IntKind.u64 (IntKind.u64.wrap (IntKind.u64.wrap (IntKind.u64.wrap (a.fdiv 4294967296 * b.fdiv 4294967296) + (IntKind.u64.wrap (IntKind.u64.wrap
     (a.fdiv 4294967296 * bits BinOp.and IntKind.u64 b 4294967295) + (IntKind.u64.wrap (bits BinOp.and IntKind.u64 a 4294967295 * bits BinOp.and IntKind.u64 b 4294967295)).fdiv 4294967296)).fdiv
     4294967296) + (IntKind.u64.wrap (bits BinOp.and IntKind.u64 (IntKind.u64.wrap (IntKind.u64.wrap (a.fdiv 4294967296 * bits BinOp.and IntKind.u64 b 4294967295) + (IntKind.u64.wrap (bits BinOp.and
     IntKind.u64 a 4294967295 * bits BinOp.and IntKind.u64 b 4294967295)).fdiv 4294967296)) 4294967295 + IntKind.u64.wrap (bits BinOp.and IntKind.u64 a 4294967295 * b.fdiv 4294967296))).fdiv 4294967296)),
     Value.int IntKind.u64 (IntKind.u64.wrap (a * b))] }) [])) := by kernel_rfl
--CFEND

/-- The bodies of a function's loops. -/
def loopOf (fn : Func) (i : Nat) : Code := match fn.body with
  | some c => ((loops c)[i]?).getD .skip
  | none => .skip
--CF cf115a (y s v1 v0 u a b q r : Int) :: loopN Try.prog (mkS []) noL Try.f115.ntmps 0 (loopOf Try.f115 0) [2, 8, 9, 10, 11, 13, 14, 15, 16] 2 [.int .u64 y, .int .u64 s, .int .u64 v1, .int .u64 v0, .int .u64 u, .int .u64 a, .int .u64 b, .int .u64 q, .int .u64 r] [] (fun e vs h => some (.at e (zipS [2, 8, 9, 10, 11, 13, 14, 15, 16] vs) h))
theorem cf115a (y s v1 v0 u a b q r : Int) : loopN Try.prog (mkS []) noL Try.f115.ntmps 0 (loopOf Try.f115 0) [2, 8, 9, 10, 11, 13, 14, 15, 16] 2 [.int .u64 y, .int .u64 s, .int .u64 v1, .int .u64 v0, .int .u64 u, .int .u64 a, .int .u64 b, .int .u64 q, .int .u64 r] [] (fun e vs h => some (.at e (zipS [2, 8, 9, 10, 11, 13, 14, 15, 16] vs) h)) =
     (bif decide (q ≥ 4294967296) then bif decide (IntKind.u64.wrap (r + v1) ≥ 4294967296) then some (Res.at (Exit.exit 0) [(2, some (Value.int IntKind.u64 y)), (8, some (Value.int IntKind.u64 s)), (9,
     some (Value.int IntKind.u64 v1)), (10, some (Value.int IntKind.u64 v0)), (11, some (Value.int IntKind.u64 u)), (13, some (Value.int IntKind.u64 a)), (14, some (Value.int IntKind.u64 b)), (15, some
     (Value.int IntKind.u64 (IntKind.u64.wrap (q - 1)))), (16, some (Value.int IntKind.u64 (IntKind.u64.wrap (r + v1))))] []) else bif decide (IntKind.u64.wrap (q - 1) ≥ 4294967296) then bif decide
     (IntKind.u64.wrap (IntKind.u64.wrap (r + v1) + v1) ≥ 4294967296) then some (Res.at (Exit.exit 0) [(2, some (Value.int IntKind.u64 y)), (8, some (Value.int IntKind.u64 s)), (9, some (Value.int
     IntKind.u64 v1)), (10, some (Value.int IntKind.u64 v0)), (11, some (Value.int IntKind.u64 u)), (13, some (Value.int IntKind.u64 a)), (14, some (Value.int IntKind.u64 b)), (15, some (Value.int
     IntKind.u64 (IntKind.u64.wrap (IntKind.u64.wrap (q - 1) - 1)))), (16, some (Value.int IntKind.u64 (IntKind.u64.wrap (IntKind.u64.wrap (r + v1) + v1))))] []) else none else bif decide (IntKind.u64.wrap
     (IntKind.u64.wrap (q - 1) * v0) > IntKind.u64.wrap (IntKind.u64.wrap (4294967296 * IntKind.u64.wrap (r + v1)) + a)) then bif decide (IntKind.u64.wrap (IntKind.u64.wrap (r + v1) + v1) ≥ 4294967296)
     then some (Res.at (Exit.exit 0) [(2, some (Value.int IntKind.u64 y)), (8, some (Value.int IntKind.u64 s)), (9, some (Value.int IntKind.u64 v1)), (10, some (Value.int IntKind.u64 v0)), (11, some
     (Value.int IntKind.u64 u)), (13, some (Value.int IntKind.u64 a)), (14, some (Value.int IntKind.u64 b)), (15, some (Value.int IntKind.u64 (IntKind.u64.wrap (IntKind.u64.wrap (q - 1) - 1)))), (16, some
     (Value.int IntKind.u64 (IntKind.u64.wrap (IntKind.u64.wrap (r + v1) + v1))))] []) else none else some (Res.at (Exit.exit 0) [(2, some (Value.int IntKind.u64 y)), (8, some (Value.int IntKind.u64 s)),
     (9, some (Value.int IntKind.u64 v1)), (10, some (Value.int IntKind.u64 v0)), (11, some (Value.int IntKind.u64 u)), (13, some (Value.int IntKind.u64 a)), (14, some (Value.int IntKind.u64 b)), (15, some
     (Value.int IntKind.u64 (IntKind.u64.wrap (q - 1)))), (16, some (Value.int IntKind.u64 (IntKind.u64.wrap (r + v1))))] []) else bif decide (IntKind.u64.wrap (q * v0) > IntKind.u64.wrap (IntKind.u64.wrap
     (4294967296 * r) + a)) then bif decide (IntKind.u64.wrap (r + v1) ≥ 4294967296) then some (Res.at (Exit.exit 0) [(2, some (Value.int IntKind.u64 y)), (8, some (Value.int IntKind.u64 s)), (9, some
     (Value.int IntKind.u64 v1)), (10, some (Value.int IntKind.u64 v0)), (11, some (Value.int IntKind.u64 u)), (13, some (Value.int IntKind.u64 a)), (14, some (Value.int IntKind.u64 b)), (15, some
     (Value.int IntKind.u64 (IntKind.u64.wrap (q - 1)))), (16, some (Value.int IntKind.u64 (IntKind.u64.wrap (r + v1))))] []) else bif decide (IntKind.u64.wrap (q - 1) ≥ 4294967296) then bif decide
     (IntKind.u64.wrap (IntKind.u64.wrap (r + v1) + v1) ≥ 4294967296) then some (Res.at (Exit.exit 0) [(2, some (Value.int IntKind.u64 y)), (8, some (Value.int IntKind.u64 s)), (9, some (Value.int
     IntKind.u64 v1)), (10, some (Value.int IntKind.u64 v0)), (11, some (Value.int IntKind.u64 u)), (13, some (Value.int IntKind.u64 a)), (14, some (Value.int IntKind.u64 b)), (15, some (Value.int
     IntKind.u64 (IntKind.u64.wrap (IntKind.u64.wrap (q - 1) - 1)))), (16, some (Value.int IntKind.u64 (IntKind.u64.wrap (IntKind.u64.wrap (r + v1) + v1))))] []) else none else bif decide (IntKind.u64.wrap
     (IntKind.u64.wrap (q - 1) * v0) > IntKind.u64.wrap (IntKind.u64.wrap (4294967296 * IntKind.u64.wrap (r + v1)) + a)) then bif decide (IntKind.u64.wrap (IntKind.u64.wrap (r + v1) + v1) ≥ 4294967296)
     then some (Res.at (Exit.exit 0) [(2, some (Value.int IntKind.u64 y)), (8, some (Value.int IntKind.u64 s)), (9, some (Value.int IntKind.u64 v1)), (10, some (Value.int IntKind.u64 v0)), (11, some
     (Value.int IntKind.u64 u)), (13, some (Value.int IntKind.u64 a)), (14, some (Value.int IntKind.u64 b)), (15, some (Value.int IntKind.u64 (IntKind.u64.wrap (IntKind.u64.wrap (q - 1) - 1)))), (16, some
     (Value.int IntKind.u64 (IntKind.u64.wrap (IntKind.u64.wrap (r + v1) + v1))))] []) else none else some (Res.at (Exit.exit 0) [(2, some (Value.int IntKind.u64 y)), (8, some (Value.int IntKind.u64 s)),
     (9, some (Value.int IntKind.u64 v1)), (10, some (Value.int IntKind.u64 v0)), (11, some (Value.int IntKind.u64 u)), (13, some (Value.int IntKind.u64 a)), (14, some (Value.int IntKind.u64 b)), (15, some
     (Value.int IntKind.u64 (IntKind.u64.wrap (q - 1)))), (16, some (Value.int IntKind.u64 (IntKind.u64.wrap (r + v1))))] []) else some (Res.at (Exit.exit 0) [(2, some (Value.int IntKind.u64 y)), (8, some
     (Value.int IntKind.u64 s)), (9, some (Value.int IntKind.u64 v1)), (10, some (Value.int IntKind.u64 v0)), (11, some (Value.int IntKind.u64 u)), (13, some (Value.int IntKind.u64 a)), (14, some
     (Value.int IntKind.u64 b)), (15, some (Value.int IntKind.u64 q)), (16, some (Value.int IntKind.u64 r))] [])) := by kernel_rfl
--CFEND
end Go.Proofs.Ytfgehfnlkakioaa.VC

/- math/bits: Len64, LeadingZeros64, Mul64. -/
namespace Go.Proofs.Ytfgehfnlkakioaa.VC
open Go

theorem follows_ok : Try.prog.follows .mixedOrders = true := by kernel_rfl

theorem dc {p : Prop} [Decidable p] {α : Type} {x y z : α} (h1 : p → x = z) (h2 : ¬ p → y = z) : (bif decide p then x else y) = z := by
  by_cases h : p
  · rw [decide_eq_true h]; exact h1 h
  · rw [decide_eq_false h]; exact h2 h

theorem dc2 {p q : Prop} [Decidable p] [Decidable q] {α : Type} {x y z : α} (h0 : p ∧ q) (h1 : x = z) : (bif decide p && decide q then x else y) = z := by
  rw [decide_eq_true h0.1, decide_eq_true h0.2]; exact h1

theorem tab_get : ∀ i : Fin 256, bt lit_tab i.1 = lenI (i.1 : Int) := by
  intro i
  have : ∀ i : Fin 256, bt lit_tab i.1 = (if i.1 = 0 then 0 else (i.1.log2 : Int) + 1) := by
    decide +kernel
  rw [this i]
  unfold lenI
  by_cases h : i.1 = 0
  · simp [h]
  · rw [if_neg h, if_neg (by omega), Int.toNat_natCast]

theorem lenI_shift {x : Int} (n : Nat) (hx : 2 ^ n ≤ x) : lenI x = n + lenI (x.fdiv (2 ^ n)) := by
  have hp : (0 : Int) < 2 ^ n := Int.pow_pos (by omega)
  have h1 : 0 < x := by omega
  have h2 : 1 ≤ x.fdiv (2 ^ n) := by
    rw [Int.fdiv_eq_ediv_of_nonneg _ (by omega)]
    exact (Int.le_ediv_iff_mul_le hp).2 (by omega)
  unfold lenI
  rw [if_neg (by omega), if_neg (by omega)]
  have e : (x.fdiv (2 ^ n)).toNat = x.toNat / 2 ^ n := by
    rw [Int.fdiv_eq_ediv_of_nonneg _ (by omega)]
    obtain ⟨y, rfl⟩ := Int.eq_ofNat_of_zero_le (show 0 ≤ x by omega)
    have : ((2 : Int) ^ n) = ((2 ^ n : Nat) : Int) := by simp
    rw [this, ← Int.natCast_ediv, Int.toNat_natCast, Int.toNat_natCast]
  rw [e]
  have hy : x.toNat / 2 ^ n ≠ 0 := by
    have : (x.fdiv (2 ^ n)).toNat ≠ 0 := by omega
    rwa [e] at this
  have : x.toNat.log2 = n + (x.toNat / 2 ^ n).log2 := by
    have hx0 : x.toNat ≠ 0 := by omega
    have a1 := Nat.log2_self_le hy
    have a2 := Nat.lt_log2_self (n := x.toNat / 2 ^ n)
    have key : x.toNat.log2 = n + (x.toNat / 2 ^ n).log2 := by
      apply (Nat.log2_eq_iff hx0).2
      constructor
      · rw [Nat.pow_add, Nat.mul_comm]
        exact (Nat.le_div_iff_mul_le (Nat.two_pow_pos n)).1 a1
      · rw [Nat.add_assoc, Nat.pow_add, Nat.mul_comm]
        exact (Nat.div_lt_iff_lt_mul (Nat.two_pow_pos n)).1 a2
    exact key
  omega

theorem fd32 (x : Int) : x.fdiv 4294967296 = x / 4294967296 := Int.fdiv_eq_ediv_of_nonneg _ (by decide)
theorem fd16 (x : Int) : x.fdiv 65536 = x / 65536 := Int.fdiv_eq_ediv_of_nonneg _ (by decide)
theorem fd8 (x : Int) : x.fdiv 256 = x / 256 := Int.fdiv_eq_ediv_of_nonneg _ (by decide)
theorem len32 {x : Int} (h : x ≥ 4294967296) : lenI x = 32 + lenI (x / 4294967296) := by have := lenI_shift 32 (x := x) h; rw [show ((2 : Int) ^ 32) = 4294967296 from rfl, fd32] at this; exact this
theorem len16 {x : Int} (h : x ≥ 65536) : lenI x = 16 + lenI (x / 65536) := by have := lenI_shift 16 (x := x) h; rw [show ((2 : Int) ^ 16) = 65536 from rfl, fd16] at this; exact this
theorem len8 {x : Int} (h : x ≥ 256) : lenI x = 8 + lenI (x / 256) := by have := lenI_shift 8 (x := x) h; rw [show ((2 : Int) ^ 8) = 256 from rfl, fd8] at this; exact this

theorem lenI_le {x : Int} (h0 : 0 ≤ x) (h1 : x < 18446744073709551616) : 0 ≤ lenI x ∧ lenI x ≤ 64 := by
  unfold lenI
  split
  · omega
  · have : x.toNat.log2 < 64 := (Nat.log2_lt (by omega)).2 (by omega)
    omega

theorem tab_at {x y : Int} {m : Int} (hx : x = y) (h0 : 0 ≤ y) (h1 : y < 256) (hm0 : 0 ≤ m) (hm1 : m ≤ 56) : IntKind.i64.wrap (m + IntKind.i64.wrap (bt lit_tab x.toNat)) = m + lenI y := by
  subst hx
  have := tab_get ⟨x.toNat, by omega⟩
  simp only at this
  rw [this, Int.toNat_of_nonneg h0]
  have := lenI_le h0 (by omega)
  rw [wi64 (x := lenI x) (by omega) (by omega), wi64 (by omega) (by omega)]

theorem ok119 : EntryOK Try.prog 119 F119 := by
  refine EntryOK.of_fn (mkS_nil _) follows_ok Try.func119 (by kernel_rfl) (by kernel_rfl) ?_
  intro args h k out hF
  unfold F119 at hF
  split at hF
  · rename_i x
    refine ⟨_, _, hF, fun real => ⟨noL, noL_ok, ?_⟩⟩
    have hx := real.int (i := 0) rfl
    obtain ⟨h0, h1⟩ : 0 ≤ x ∧ x ≤ 18446744073709551615 := hx
    rw [cf119]
    simp only [fd32, fd16, fd8]
    have leaf : ∀ {y m : Int} {v : Int}, 0 ≤ y → y < 256 → 0 ≤ m → m ≤ 56 → m + lenI y = v →
        (bif decide (0 ≤ IntKind.u8.wrap y) && decide (IntKind.u8.wrap y < 256) then some (Res.ret (Value.int IntKind.i64 (IntKind.i64.wrap (m + IntKind.i64.wrap (bt lit_tab (IntKind.u8.wrap y).toNat)))) []) else none) = some (Res.ret (Value.int IntKind.i64 v) []) := by
      intro y m v a1 a2 a3 a4 a5
      refine dc2 (by rw [wu8 a1 a2]; omega) ?_
      rw [tab_at (wu8 a1 a2) a1 a2 a3 a4, a5]
    refine dc (fun c1 => ?_) (fun c1 => ?_)
    · rw [len32 c1]
      refine dc (fun c2 => ?_) (fun c2 => ?_)
      · rw [len16 c2]
        refine dc (fun c3 => ?_) (fun c3 => ?_)
        · rw [len8 c3]; exact leaf (by omega) (by omega) (by omega) (by omega) (by omega)
        · exact leaf (by omega) (by omega) (by omega) (by omega) (by omega)
      · refine dc (fun c3 => ?_) (fun c3 => ?_)
        · rw [len8 c3]; exact leaf (by omega) (by omega) (by omega) (by omega) (by omega)
        · exact leaf (by omega) (by omega) (by omega) (by omega) (by omega)
    · refine dc (fun c2 => ?_) (fun c2 => ?_)
      · rw [len16 c2]
        refine dc (fun c3 => ?_) (fun c3 => ?_)
        · rw [len8 c3]; exact leaf (by omega) (by omega) (by omega) (by omega) (by omega)
        · exact leaf (by omega) (by omega) (by omega) (by omega) (by omega)
      · refine dc (fun c3 => ?_) (fun c3 => ?_)
        · rw [len8 c3]; exact leaf (by omega) (by omega) (by omega) (by omega) (by omega)
        · exact leaf (by omega) (by omega) (by omega) (by omega) (by omega)
  · cases hF

theorem ok118 : EntryOK Try.prog 118 F118 := by
  refine EntryOK.of_fn (mkS_cons (rw := false) ok119 (mkS_nil _)) follows_ok Try.func118 (by kernel_rfl) (by kernel_rfl) ?_
  intro args h k out hF
  unfold F118 at hF
  split at hF
  · rename_i x
    exact ⟨_, _, hF, fun real => ⟨noL, noL_ok, cf118 x⟩⟩
  · cases hF

theorem maskN (a : Nat) (ha : a < 18446744073709551616) : bits .and .u64 (a : Int) 4294967295 = ((a % 4294967296 : Nat) : Int) := by
  have h := bits_and_u64_nat a 4294967295 ha (by omega)
  have e : a &&& 4294967295 = a % 4294967296 := Nat.and_two_pow_sub_one_eq_mod a 32
  rw [e] at h
  exact h
theorem divN (a : Nat) : (a : Int) / 4294967296 = ((a / 4294967296 : Nat) : Int) := by omega
theorem mulN (a b : Nat) : (a : Int) * (b : Int) = ((a * b : Nat) : Int) := (Int.natCast_mul a b).symm
theorem addN (a b : Nat) : (a : Int) + (b : Int) = ((a + b : Nat) : Int) := (Int.natCast_add a b).symm
theorem wrapN (a : Nat) (ha : a < 18446744073709551616) : IntKind.u64.wrap (a : Int) = (a : Int) := wu64 (by omega) (by omega)

theorem ok87 : EntryOK Try.prog 87 F87 := by
  refine EntryOK.of_fn (mkS_nil _) follows_ok Try.func87 (by kernel_rfl) (by kernel_rfl) ?_
  intro args h k out hF
  unfold F87 at hF
  split at hF
  · rename_i a b
    refine ⟨_, _, hF, fun real => ⟨noL, noL_ok, ?_⟩⟩
    obtain ⟨a0, a1⟩ : 0 ≤ a ∧ a ≤ 18446744073709551615 := real.int (i := 0) rfl
    obtain ⟨b0, b1⟩ : 0 ≤ b ∧ b ≤ 18446744073709551615 := real.int (i := 1) rfl
    obtain ⟨x, rfl⟩ := Int.eq_ofNat_of_zero_le a0
    obtain ⟨y, rfl⟩ := Int.eq_ofNat_of_zero_le b0
    rw [cf87]
    obtain ⟨bd, bt, bw, hhi⟩ := Lib.mul64_hi x y (by omega) (by omega)
    have ba := Lib.half_mul_le (a := x / 4294967296) (b := y / 4294967296) (by omega) (by omega)
    have bb := Lib.half_mul_le (a := x / 4294967296) (b := y % 4294967296) (by omega) (by omega)
    have bc := Lib.half_mul_le (a := x % 4294967296) (b := y / 4294967296) (by omega) (by omega)
    have ba' : x / 4294967296 * (y / 4294967296) < 18446744073709551616 := by omega
    have bb' : x / 4294967296 * (y % 4294967296) < 18446744073709551616 := by omega
    have bc' : x % 4294967296 * (y / 4294967296) < 18446744073709551616 := by omega
    have hxy : x * y ≤ 18446744073709551615 * 18446744073709551615 := Nat.mul_le_mul (by omega) (by omega)
    have bh1 : x / 4294967296 * (y / 4294967296) + (x / 4294967296 * (y % 4294967296) + x % 4294967296 * (y % 4294967296) / 4294967296) / 4294967296 < 18446744073709551616 := by
      have := hhi; generalize x * y = p at *; omega
    simp only [fd32, maskN x (by omega), maskN y (by omega), divN, mulN, addN, wrapN _ bd, wrapN _ bb', wrapN _ bt, maskN _ bt, wrapN _ bc', wrapN _ bw, wrapN _ ba', wrapN _ bh1]
    rw [hhi, wrapN _ (by generalize x * y = p at *; omega), wu64e]
    have e1 : ((x : Nat) : Int) * (y : Int) / 18446744073709551616 = ((x * y / 18446744073709551616 : Nat) : Int) := by simp
    simp
  · cases hF
end Go.Proofs.Ytfgehfnlkakioaa.VC

/- math/bits: Add64, which the model stands in for. -/
namespace Go.Proofs.Ytfgehfnlkakioaa.VC
open Go Go.Proofs

def F116 : FSpec := fun args h k => match args, h with
  | [.int .u64 a, .int .u64 b, .int .u64 c], [] => bif decide (c ≤ 1) then k (.tuple #[.int .u64 ((a + b + c) % 18446744073709551616), .int .u64 ((a + b + c) / 18446744073709551616)]) [] else none
  | _, _ => none

/-- Three numbers. -/
theorem VRs.ints3 {ι : Map} {k1 k2 k3 : IntKind} {a b c : Int} {args' : Array Value} (ha : VRs ι [.int k1 a, .int k2 b, .int k3 c] args'.toList) : args' = #[.int k1 a, .int k2 b, .int k3 c] ∧ (k1.min ≤ a ∧ a ≤ k1.max) ∧ (k2.min ≤ b ∧ b ≤ k2.max) ∧ (k3.min ≤ c ∧ c ≤ k3.max) := by
  obtain ⟨l⟩ := args'
  simp only at ha
  match l, ha with
  | [], ha => simp [VRs] at ha
  | [_], ha => simp [VRs] at ha
  | [_, _], ha => simp [VRs] at ha
  | [x, y, z], ha =>
    obtain ⟨rfl, h1⟩ := ha.head.int_inv
    obtain ⟨rfl, h2⟩ := ha.tail.head.int_inv
    obtain ⟨rfl, h3⟩ := ha.tail.tail.head.int_inv
    exact ⟨rfl, h1, h2, h3⟩
  | _ :: _ :: _ :: _ :: _, ha => simp [VRs] at ha

theorem ok116 : EntryOK Try.prog 116 F116 := by
  intro args h k out hF
  unfold F116 at hF
  split at hF
  · rename_i a b c
    by_cases hc : c ≤ 1
    · rw [decide_eq_true hc] at hF
      refine ⟨_, _, hF, fun ι base w args' hr ha => ?_⟩
      obtain ⟨rfl, ⟨a0, a1⟩, ⟨b0, b1⟩, ⟨c0, c1⟩⟩ := ha.ints3
      have e0 : IntKind.u64.min = 0 := rfl
      have e1 : IntKind.u64.max = 18446744073709551615 := rfl
      rw [e0] at a0 b0 c0
      rw [e1] at a1 b1 c1
      refine .inr ⟨.tuple #[.int .u64 ((a + b + c) % 18446744073709551616), .int .u64 ((a + b + c) / 18446744073709551616)], w, ?_, after_same hr rfl (Still.refl w) ?_ _⟩
      · rw [run_callFunc_extern Try.func116 (by kernel_rfl) (by kernel_rfl) (by kernel_rfl) (e := add64Entry) (by kernel_rfl), run_add64 a b c a0 b0 c0 hc]
        rfl
      · refine .tuple rfl fun i v v' h1 h2 => ?_
        match i with
        | 0 => cases h1; cases h2; exact .int _ _ (by rw [e0, e1]; omega)
        | 1 => cases h1; cases h2; exact .int _ _ (by rw [e0, e1]; omega)
        | i + 2 => simp at h1
    · rw [decide_eq_false hc] at hF; cases hF
  · cases hF
end Go.Proofs.Ytfgehfnlkakioaa.VC

/- math/bits: Div64: long division by two digits. -/
namespace Go.Proofs.Ytfgehfnlkakioaa.VC
open Go Go.Proofs

def knuthB (v1 v0 u a q r : Int) : Bool := decide (2147483648 ≤ v1 ∧ v1 < 4294967296 ∧ 0 ≤ v0 ∧ v0 < 4294967296 ∧ 0 ≤ a ∧ a < 4294967296 ∧ 0 ≤ u ∧ u < v1 * 4294967296 + v0 ∧ q = u / v1 ∧ r = u - q * v1)
theorem knuthB_iff {v1 v0 u a q r : Int} : knuthB v1 v0 u a q r = true ↔ KOK v1 v0 u a q r := by
  unfold knuthB
  rw [decide_eq_true_iff]
  exact ⟨fun ⟨a, b, c, d, e, f, g, h, i, j⟩ => ⟨a, b, c, d, e, f, g, h, i, j⟩, fun ⟨a, b, c, d, e, f, g, h, i, j⟩ => ⟨a, b, c, d, e, f, g, h, i, j⟩⟩

abbrev u (x : Int) : Value := .int .u64 x
def live1 : List Nat := [2, 8, 9, 10, 11, 13, 14, 15, 16]
def live2 : List Nat := [2, 8, 9, 10, 14, 15, 16, 17, 18]
def F115a : List Value → Heap → (Exit → List Value → Heap → Out) → Out := fun vs h k => match vs, h with
  | [.int .u64 y, .int .u64 s, .int .u64 v1, .int .u64 v0, .int .u64 un, .int .u64 a, .int .u64 b, .int .u64 q, .int .u64 r], [] =>
    bif knuthB v1 v0 un a q r then k (.exit 0) [u y, u s, u v1, u v0, u un, u a, u b, u (kq v1 v0 un a), u (un - kq v1 v0 un a * v1)] [] else none
  | _, _ => none
def F115b : List Value → Heap → (Exit → List Value → Heap → Out) → Out := fun vs h k => match vs, h with
  | [.int .u64 y, .int .u64 s, .int .u64 v1, .int .u64 v0, .int .u64 b, .int .u64 q1, .int .u64 r, .int .u64 un, .int .u64 q], [] =>
    bif knuthB v1 v0 un b q r then k (.exit 2) [u y, u s, u v1, u v0, u b, u q1, u (un - kq v1 v0 un b * v1), u un, u (kq v1 v0 un b)] [] else none
  | _, _ => none
def L115 : LSpec := fun i => bif Nat.beq i 17 then some (live1, F115a) else bif Nat.beq i 24 then some (live2, F115b) else none

--CF cf115b (y s v1 v0 b q1 r un q : Int) :: loopN Try.prog (mkS [(118, false, F118)]) noL Try.f115.ntmps 0 (loopOf Try.f115 1) live2 2 [.int .u64 y, .int .u64 s, .int .u64 v1, .int .u64 v0, .int .u64 b, .int .u64 q1, .int .u64 r, .int .u64 un, .int .u64 q] [] (fun e vs h => some (.at e (zipS live2 vs) h))
theorem cf115b (y s v1 v0 b q1 r un q : Int) : loopN Try.prog (mkS [(118, false, F118)]) noL Try.f115.ntmps 0 (loopOf Try.f115 1) live2 2 [.int .u64 y, .int .u64 s, .int .u64 v1, .int .u64 v0, .int .u64 b, .int .u64 q1, .int .u64 r, .int .u64 un, .int .u64 q] [] (fun e vs h => some (.at e (zipS live2 vs) h)) =
     (bif decide (q ≥ 4294967296) then bif decide (IntKind.u64.wrap (r + v1) ≥ 4294967296) then some (Res.at (Exit.exit 2) [(2, some (Value.int IntKind.u64 y)), (8, some (Value.int IntKind.u64 s)), (9,
     some (Value.int IntKind.u64 v1)), (10, some (Value.int IntKind.u64 v0)), (14, some (Value.int IntKind.u64 b)), (15, some (Value.int IntKind.u64 q1)), (16, some (Value.int IntKind.u64 (IntKind.u64.wrap
     (r + v1)))), (17, some (Value.int IntKind.u64 un)), (18, some (Value.int IntKind.u64 (IntKind.u64.wrap (q - 1))))] []) else bif decide (IntKind.u64.wrap (q - 1) ≥ 4294967296) then bif decide
     (IntKind.u64.wrap (IntKind.u64.wrap (r + v1) + v1) ≥ 4294967296) then some (Res.at (Exit.exit 2) [(2, some (Value.int IntKind.u64 y)), (8, some (Value.int IntKind.u64 s)), (9, some (Value.int
     IntKind.u64 v1)), (10, some (Value.int IntKind.u64 v0)), (14, some (Value.int IntKind.u64 b)), (15, some (Value.int IntKind.u64 q1)), (16, some (Value.int IntKind.u64 (IntKind.u64.wrap
     (IntKind.u64.wrap (r + v1) + v1)))), (17, some (Value.int IntKind.u64 un)), (18, some (Value.int IntKind.u64 (IntKind.u64.wrap (IntKind.u64.wrap (q - 1) - 1))))] []) else none else bif decide
     (IntKind.u64.wrap (IntKind.u64.wrap (q - 1) * v0) > IntKind.u64.wrap (IntKind.u64.wrap (4294967296 * IntKind.u64.wrap (r + v1)) + b)) then bif decide (IntKind.u64.wrap (IntKind.u64.wrap (r + v1) + v1)
     ≥ 4294967296) then some (Res.at (Exit.exit 2) [(2, some (Value.int IntKind.u64 y)), (8, some (Value.int IntKind.u64 s)), (9, some (Value.int IntKind.u64 v1)), (10, some (Value.int IntKind.u64 v0)),
     (14, some (Value.int IntKind.u64 b)), (15, some (Value.int IntKind.u64 q1)), (16, some (Value.int IntKind.u64 (IntKind.u64.wrap (IntKind.u64.wrap (r + v1) + v1)))), (17, some (Value.int IntKind.u64
     un)), (18, some (Value.int IntKind.u64 (IntKind.u64.wrap (IntKind.u64.wrap (q - 1) - 1))))] []) else none else some (Res.at (Exit.exit 2) [(2, some (Value.int IntKind.u64 y)), (8, some (Value.int
     IntKind.u64 s)), (9, some (Value.int IntKind.u64 v1)), (10, some (Value.int IntKind.u64 v0)), (14, some (Value.int IntKind.u64 b)), (15, some (Value.int IntKind.u64 q1)), (16, some (Value.int
     IntKind.u64 (IntKind.u64.wrap (r + v1)))), (17, some (Value.int IntKind.u64 un)), (18, some (Value.int IntKind.u64 (IntKind.u64.wrap (q - 1))))] []) else bif decide (IntKind.u64.wrap (q * v0) >
     IntKind.u64.wrap (IntKind.u64.wrap (4294967296 * r) + b)) then bif decide (IntKind.u64.wrap (r + v1) ≥ 4294967296) then some (Res.at (Exit.exit 2) [(2, some (Value.int IntKind.u64 y)), (8, some
     (Value.int IntKind.u64 s)), (9, some (Value.int IntKind.u64 v1)), (10, some (Value.int IntKind.u64 v0)), (14, some (Value.int IntKind.u64 b)), (15, some (Value.int IntKind.u64 q1)), (16, some
     (Value.int IntKind.u64 (IntKind.u64.wrap (r + v1)))), (17, some (Value.int IntKind.u64 un)), (18, some (Value.int IntKind.u64 (IntKind.u64.wrap (q - 1))))] []) else bif decide (IntKind.u64.wrap (q -
     1) ≥ 4294967296) then bif decide (IntKind.u64.wrap (IntKind.u64.wrap (r + v1) + v1) ≥ 4294967296) then some (Res.at (Exit.exit 2) [(2, some (Value.int IntKind.u64 y)), (8, some (Value.int IntKind.u64
     s)), (9, some (Value.int IntKind.u64 v1)), (10, some (Value.int IntKind.u64 v0)), (14, some (Value.int IntKind.u64 b)), (15, some (Value.int IntKind.u64 q1)), (16, some (Value.int IntKind.u64
     (IntKind.u64.wrap (IntKind.u64.wrap (r + v1) + v1)))), (17, some (Value.int IntKind.u64 un)), (18, some (Value.int IntKind.u64 (IntKind.u64.wrap (IntKind.u64.wrap (q - 1) - 1))))] []) else none else
     bif decide (IntKind.u64.wrap (IntKind.u64.wrap (q - 1) * v0) > IntKind.u64.wrap (IntKind.u64.wrap (4294967296 * IntKind.u64.wrap (r + v1)) + b)) then bif decide (IntKind.u64.wrap (IntKind.u64.wrap (r
     + v1) + v1) ≥ 4294967296) then some (Res.at (Exit.exit 2) [(2, some (Value.int IntKind.u64 y)), (8, some (Value.int IntKind.u64 s)), (9, some (Value.int IntKind.u64 v1)), (10, some (Value.int
     IntKind.u64 v0)), (14, some (Value.int IntKind.u64 b)), (15, some (Value.int IntKind.u64 q1)), (16, some (Value.int IntKind.u64 (IntKind.u64.wrap (IntKind.u64.wrap (r + v1) + v1)))), (17, some
     (Value.int IntKind.u64 un)), (18, some (Value.int IntKind.u64 (IntKind.u64.wrap (IntKind.u64.wrap (q - 1) - 1))))] []) else none else some (Res.at (Exit.exit 2) [(2, some (Value.int IntKind.u64 y)),
     (8, some (Value.int IntKind.u64 s)), (9, some (Value.int IntKind.u64 v1)), (10, some (Value.int IntKind.u64 v0)), (14, some (Value.int IntKind.u64 b)), (15, some (Value.int IntKind.u64 q1)), (16, some
     (Value.int IntKind.u64 (IntKind.u64.wrap (r + v1)))), (17, some (Value.int IntKind.u64 un)), (18, some (Value.int IntKind.u64 (IntKind.u64.wrap (q - 1))))] []) else some (Res.at (Exit.exit 2) [(2,
     some (Value.int IntKind.u64 y)), (8, some (Value.int IntKind.u64 s)), (9, some (Value.int IntKind.u64 v1)), (10, some (Value.int IntKind.u64 v0)), (14, some (Value.int IntKind.u64 b)), (15, some
     (Value.int IntKind.u64 q1)), (16, some (Value.int IntKind.u64 r)), (17, some (Value.int IntKind.u64 un)), (18, some (Value.int IntKind.u64 q))] [])) := by kernel_rfl
--CFEND

--CF cf115c (y s v1 v0 un a b q r : Int) :: loopN Try.prog (mkS [(118, false, F118)]) noL Try.f115.ntmps 0 (loopOf Try.f115 0) live1 2 [.int .u64 y, .int .u64 s, .int .u64 v1, .int .u64 v0, .int .u64 un, .int .u64 a, .int .u64 b, .int .u64 q, .int .u64 r] [] (fun e vs h => some (.at e (zipS live1 vs) h))
theorem cf115c (y s v1 v0 un a b q r : Int) : loopN Try.prog (mkS [(118, false, F118)]) noL Try.f115.ntmps 0 (loopOf Try.f115 0) live1 2 [.int .u64 y, .int .u64 s, .int .u64 v1, .int .u64 v0, .int .u64 un, .int .u64 a, .int .u64 b, .int .u64 q, .int .u64 r] [] (fun e vs h => some (.at e (zipS live1 vs) h)) =
     (bif decide (q ≥ 4294967296) then bif decide (IntKind.u64.wrap (r + v1) ≥ 4294967296) then some (Res.at (Exit.exit 0) [(2, some (Value.int IntKind.u64 y)), (8, some (Value.int IntKind.u64 s)), (9,
     some (Value.int IntKind.u64 v1)), (10, some (Value.int IntKind.u64 v0)), (11, some (Value.int IntKind.u64 un)), (13, some (Value.int IntKind.u64 a)), (14, some (Value.int IntKind.u64 b)), (15, some
     (Value.int IntKind.u64 (IntKind.u64.wrap (q - 1)))), (16, some (Value.int IntKind.u64 (IntKind.u64.wrap (r + v1))))] []) else bif decide (IntKind.u64.wrap (q - 1) ≥ 4294967296) then bif decide
     (IntKind.u64.wrap (IntKind.u64.wrap (r + v1) + v1) ≥ 4294967296) then some (Res.at (Exit.exit 0) [(2, some (Value.int IntKind.u64 y)), (8, some (Value.int IntKind.u64 s)), (9, some (Value.int
     IntKind.u64 v1)), (10, some (Value.int IntKind.u64 v0)), (11, some (Value.int IntKind.u64 un)), (13, some (Value.int IntKind.u64 a)), (14, some (Value.int IntKind.u64 b)), (15, some (Value.int
     IntKind.u64 (IntKind.u64.wrap (IntKind.u64.wrap (q - 1) - 1)))), (16, some (Value.int IntKind.u64 (IntKind.u64.wrap (IntKind.u64.wrap (r + v1) + v1))))] []) else none else bif decide (IntKind.u64.wrap
     (IntKind.u64.wrap (q - 1) * v0) > IntKind.u64.wrap (IntKind.u64.wrap (4294967296 * IntKind.u64.wrap (r + v1)) + a)) then bif decide (IntKind.u64.wrap (IntKind.u64.wrap (r + v1) + v1) ≥ 4294967296)
     then some (Res.at (Exit.exit 0) [(2, some (Value.int IntKind.u64 y)), (8, some (Value.int IntKind.u64 s)), (9, some (Value.int IntKind.u64 v1)), (10, some (Value.int IntKind.u64 v0)), (11, some
     (Value.int IntKind.u64 un)), (13, some (Value.int IntKind.u64 a)), (14, some (Value.int IntKind.u64 b)), (15, some (Value.int IntKind.u64 (IntKind.u64.wrap (IntKind.u64.wrap (q - 1) - 1)))), (16, some
     (Value.int IntKind.u64 (IntKind.u64.wrap (IntKind.u64.wrap (r + v1) + v1))))] []) else none else some (Res.at (Exit.exit 0) [(2, some (Value.int IntKind.u64 y)), (8, some (Value.int IntKind.u64 s)),
     (9, some (Value.int IntKind.u64 v1)), (10, some (Value.int IntKind.u64 v0)), (11, some (Value.int IntKind.u64 un)), (13, some (Value.int IntKind.u64 a)), (14, some (Value.int IntKind.u64 b)), (15,
     some (Value.int IntKind.u64 (IntKind.u64.wrap (q - 1)))), (16, some (Value.int IntKind.u64 (IntKind.u64.wrap (r + v1))))] []) else bif decide (IntKind.u64.wrap (q * v0) > IntKind.u64.wrap
     (IntKind.u64.wrap (4294967296 * r) + a)) then bif decide (IntKind.u64.wrap (r + v1) ≥ 4294967296) then some (Res.at (Exit.exit 0) [(2, some (Value.int IntKind.u64 y)), (8, some (Value.int IntKind.u64
     s)), (9, some (Value.int IntKind.u64 v1)), (10, some (Value.int IntKind.u64 v0)), (11, some (Value.int IntKind.u64 un)), (13, some (Value.int IntKind.u64 a)), (14, some (Value.int IntKind.u64 b)),
     (15, some (Value.int IntKind.u64 (IntKind.u64.wrap (q - 1)))), (16, some (Value.int IntKind.u64 (IntKind.u64.wrap (r + v1))))] []) else bif decide (IntKind.u64.wrap (q - 1) ≥ 4294967296) then bif
     decide (IntKind.u64.wrap (IntKind.u64.wrap (r + v1) + v1) ≥ 4294967296) then some (Res.at (Exit.exit 0) [(2, some (Value.int IntKind.u64 y)), (8, some (Value.int IntKind.u64 s)), (9, some (Value.int
     IntKind.u64 v1)), (10, some (Value.int IntKind.u64 v0)), (11, some (Value.int IntKind.u64 un)), (13, some (Value.int IntKind.u64 a)), (14, some (Value.int IntKind.u64 b)), (15, some (Value.int
     IntKind.u64 (IntKind.u64.wrap (IntKind.u64.wrap (q - 1) - 1)))), (16, some (Value.int IntKind.u64 (IntKind.u64.wrap (IntKind.u64.wrap (r + v1) + v1))))] []) else none else bif decide (IntKind.u64.wrap
     (IntKind.u64.wrap (q - 1) * v0) > IntKind.u64.wrap (IntKind.u64.wrap (4294967296 * IntKind.u64.wrap (r + v1)) + a)) then bif decide (IntKind.u64.wrap (IntKind.u64.wrap (r + v1) + v1) ≥ 4294967296)
     then some (Res.at (Exit.exit 0) [(2, some (Value.int IntKind.u64 y)), (8, some (Value.int IntKind.u64 s)), (9, some (Value.int IntKind.u64 v1)), (10, some (Value.int IntKind.u64 v0)), (11, some
     (Value.int IntKind.u64 un)), (13, some (Value.int IntKind.u64 a)), (14, some (Value.int IntKind.u64 b)), (15, some (Value.int IntKind.u64 (IntKind.u64.wrap (IntKind.u64.wrap (q - 1) - 1)))), (16, some
     (Value.int IntKind.u64 (IntKind.u64.wrap (IntKind.u64.wrap (r + v1) + v1))))] []) else none else some (Res.at (Exit.exit 0) [(2, some (Value.int IntKind.u64 y)), (8, some (Value.int IntKind.u64 s)),
     (9, some (Value.int IntKind.u64 v1)), (10, some (Value.int IntKind.u64 v0)), (11, some (Value.int IntKind.u64 un)), (13, some (Value.int IntKind.u64 a)), (14, some (Value.int IntKind.u64 b)), (15,
     some (Value.int IntKind.u64 (IntKind.u64.wrap (q - 1)))), (16, some (Value.int IntKind.u64 (IntKind.u64.wrap (r + v1))))] []) else some (Res.at (Exit.exit 0) [(2, some (Value.int IntKind.u64 y)), (8,
     some (Value.int IntKind.u64 s)), (9, some (Value.int IntKind.u64 v1)), (10, some (Value.int IntKind.u64 v0)), (11, some (Value.int IntKind.u64 un)), (13, some (Value.int IntKind.u64 a)), (14, some
     (Value.int IntKind.u64 b)), (15, some (Value.int IntKind.u64 q)), (16, some (Value.int IntKind.u64 r))] [])) := by kernel_rfl
--CFEND

--CF cf115 (hi lo y : Int) :: fnK Try.prog (mkS [(118, false, F118)]) L115 Try.f115 [.int .u64 hi, .int .u64 lo, .int .u64 y] []
theorem cf115 (hi lo y : Int) : fnK Try.prog (mkS [(118, false, F118)]) L115 Try.f115 [.int .u64 hi, .int .u64 lo, .int .u64 y] [] =
     (bif y == 0 then none else bif decide (y ≤ hi) then none else bif hi == 0 then bif decide (y = 0) then none else bif decide (y = 0) then none else some (Res.ret (Value.tuple { toList := [Value.int
     IntKind.u64 (IntKind.u64.wrap (lo.tdiv y)), Value.int IntKind.u64 (lo.tmod y)] }) []) else bif decide (IntKind.u64.wrap (IntKind.i64.wrap (64 - lenI y)) < 0) then none else bif decide
     (IntKind.u64.wrap (IntKind.i64.wrap (64 - lenI y)) < 0) then none else bif decide (IntKind.u64.wrap (64 - IntKind.u64.wrap (IntKind.i64.wrap (64 - lenI y))) < 0) then none else bif decide
     (IntKind.u64.wrap (IntKind.i64.wrap (64 - lenI y)) < 0) then none else bif decide ((IntKind.u64.wrap (y * 2 ^ min (IntKind.u64.wrap (IntKind.i64.wrap (64 - lenI y))).toNat 64)).fdiv 4294967296 = 0)
     then none else bif knuthB ((IntKind.u64.wrap (y * 2 ^ min (IntKind.u64.wrap (IntKind.i64.wrap (64 - lenI y))).toNat 64)).fdiv 4294967296) (bits BinOp.and IntKind.u64 (IntKind.u64.wrap (y * 2 ^ min
     (IntKind.u64.wrap (IntKind.i64.wrap (64 - lenI y))).toNat 64)) 4294967295) (bits BinOp.or IntKind.u64 (IntKind.u64.wrap (hi * 2 ^ min (IntKind.u64.wrap (IntKind.i64.wrap (64 - lenI y))).toNat 64))
     (lo.fdiv (2 ^ min (IntKind.u64.wrap (64 - IntKind.u64.wrap (IntKind.i64.wrap (64 - lenI y)))).toNat 64))) ((IntKind.u64.wrap (lo * 2 ^ min (IntKind.u64.wrap (IntKind.i64.wrap (64 - lenI y))).toNat
     64)).fdiv 4294967296) (IntKind.u64.wrap ((bits BinOp.or IntKind.u64 (IntKind.u64.wrap (hi * 2 ^ min (IntKind.u64.wrap (IntKind.i64.wrap (64 - lenI y))).toNat 64)) (lo.fdiv (2 ^ min (IntKind.u64.wrap
     (64 - IntKind.u64.wrap (IntKind.i64.wrap (64 - lenI y)))).toNat 64))).tdiv ((IntKind.u64.wrap (y * 2 ^ min (IntKind.u64.wrap (IntKind.i64.wrap (64 - lenI y))).toNat 64)).fdiv 4294967296)))
     (IntKind.u64.wrap (bits BinOp.or IntKind.u64 (IntKind.u64.wrap (hi * 2 ^ min (IntKind.u64.wrap (IntKind.i64.wrap (64 - lenI y))).toNat 64)) (lo.fdiv (2 ^ min (IntKind.u64.wrap (64 - IntKind.u64.wrap
     (IntKind.i64.wrap (64 - lenI y)))).toNat 64)) - IntKind.u64.wrap (IntKind.u64.wrap ((bits BinOp.or IntKind.u64 (IntKind.u64.wrap (hi * 2 ^ min (IntKind.u64.wrap (IntKind.i64.wrap (64 - lenI y))).toNat
     64)) (lo.fdiv (2 ^ min (IntKind.u64.wrap (64 - IntKind.u64.wrap (IntKind.i64.wrap (64 - lenI y)))).toNat 64))).tdiv ((IntKind.u64.wrap (y * 2 ^ min (IntKind.u64.wrap (IntKind.i64.wrap (64 - lenI
     y))).toNat 64)).fdiv 4294967296)) * (IntKind.u64.wrap (y * 2 ^ min (IntKind.u64.wrap (IntKind.i64.wrap (64 - lenI y))).toNat 64)).fdiv 4294967296))) then bif decide ((IntKind.u64.wrap (y * 2 ^ min
     (IntKind.u64.wrap (IntKind.i64.wrap (64 - lenI y))).toNat 64)).fdiv 4294967296 = 0) then none else bif knuthB ((IntKind.u64.wrap (y * 2 ^ min (IntKind.u64.wrap (IntKind.i64.wrap (64 - lenI y))).toNat
     64)).fdiv 4294967296) (bits BinOp.and IntKind.u64 (IntKind.u64.wrap (y * 2 ^ min (IntKind.u64.wrap (IntKind.i64.wrap (64 - lenI y))).toNat 64)) 4294967295) (IntKind.u64.wrap (IntKind.u64.wrap
     (IntKind.u64.wrap (bits BinOp.or IntKind.u64 (IntKind.u64.wrap (hi * 2 ^ min (IntKind.u64.wrap (IntKind.i64.wrap (64 - lenI y))).toNat 64)) (lo.fdiv (2 ^ min (IntKind.u64.wrap (64 - IntKind.u64.wrap
     (IntKind.i64.wrap (64 - lenI y)))).toNat 64)) * 4294967296) + (IntKind.u64.wrap (lo * 2 ^ min (IntKind.u64.wrap (IntKind.i64.wrap (64 - lenI y))).toNat 64)).fdiv 4294967296) - IntKind.u64.wrap (kq
     ((IntKind.u64.wrap (y * 2 ^ min (IntKind.u64.wrap (IntKind.i64.wrap (64 - lenI y))).toNat 64)).fdiv 4294967296) (bits BinOp.and IntKind.u64 (IntKind.u64.wrap (y * 2 ^ min (IntKind.u64.wrap
     (IntKind.i64.wrap (64 - lenI y))).toNat 64)) 4294967295) (bits BinOp.or IntKind.u64 (IntKind.u64.wrap (hi * 2 ^ min (IntKind.u64.wrap (IntKind.i64.wrap (64 - lenI y))).toNat 64)) (lo.fdiv (2 ^ min
     (IntKind.u64.wrap (64 - IntKind.u64.wrap (IntKind.i64.wrap (64 - lenI y)))).toNat 64))) ((IntKind.u64.wrap (lo * 2 ^ min (IntKind.u64.wrap (IntKind.i64.wrap (64 - lenI y))).toNat 64)).fdiv 4294967296)
     * IntKind.u64.wrap (y * 2 ^ min (IntKind.u64.wrap (IntKind.i64.wrap (64 - lenI y))).toNat 64)))) (bits BinOp.and IntKind.u64 (IntKind.u64.wrap (lo * 2 ^ min (IntKind.u64.wrap (IntKind.i64.wrap (64 -
     lenI y))).toNat 64)) 4294967295) (IntKind.u64.wrap ((IntKind.u64.wrap (IntKind.u64.wrap (IntKind.u64.wrap (bits BinOp.or IntKind.u64 (IntKind.u64.wrap (hi * 2 ^ min (IntKind.u64.wrap (IntKind.i64.wrap
     (64 - lenI y))).toNat 64)) (lo.fdiv (2 ^ min (IntKind.u64.wrap (64 - IntKind.u64.wrap (IntKind.i64.wrap (64 - lenI y)))).toNat 64)) * 4294967296) + (IntKind.u64.wrap (lo * 2 ^ min (IntKind.u64.wrap
     (IntKind.i64.wrap (64 - lenI y))).toNat 64)).fdiv 4294967296) - IntKind.u64.wrap (kq ((IntKind.u64.wrap (y * 2 ^ min (IntKind.u64.wrap (IntKind.i64.wrap (64 - lenI y))).toNat 64)).fdiv 4294967296)
     (bits BinOp.and IntKind.u64 (IntKind.u64.wrap (y * 2 ^ min (IntKind.u64.wrap (IntKind.i64.wrap (64 - lenI y))).toNat 64)) 4294967295) (bits BinOp.or IntKind.u64 (IntKind.u64.wrap (hi * 2 ^ min
     (IntKind.u64.wrap (IntKind.i64.wrap (64 - lenI y))).toNat 64)) (lo.fdiv (2 ^ min (IntKind.u64.wrap (64 - IntKind.u64.wrap (IntKind.i64.wrap (64 - lenI y)))).toNat 64))) ((IntKind.u64.wrap (lo * 2 ^
     min (IntKind.u64.wrap (IntKind.i64.wrap (64 - lenI y))).toNat 64)).fdiv 4294967296) * IntKind.u64.wrap (y * 2 ^ min (IntKind.u64.wrap (IntKind.i64.wrap (64 - lenI y))).toNat 64)))).tdiv
     ((IntKind.u64.wrap (y * 2 ^ min (IntKind.u64.wrap (IntKind.i64.wrap (64 - lenI y))).toNat 64)).fdiv 4294967296))) (IntKind.u64.wrap (IntKind.u64.wrap (IntKind.u64.wrap (IntKind.u64.wrap (bits BinOp.or
     IntKind.u64 (IntKind.u64.wrap (hi * 2 ^ min (IntKind.u64.wrap (IntKind.i64.wrap (64 - lenI y))).toNat 64)) (lo.fdiv (2 ^ min (IntKind.u64.wrap (64 - IntKind.u64.wrap (IntKind.i64.wrap (64 - lenI
     y)))).toNat 64)) * 4294967296) + (IntKind.u64.wrap (lo * 2 ^ min (IntKind.u64.wrap (IntKind.i64.wrap (64 - lenI y))).toNat 64)).fdiv 4294967296) - IntKind.u64.wrap (kq ((IntKind.u64.wrap (y * 2 ^ min
     (IntKind.u64.wrap (IntKind.i64.wrap (64 - lenI y))).toNat 64)).fdiv 4294967296) (bits BinOp.and IntKind.u64 (IntKind.u64.wrap (y * 2 ^ min (IntKind.u64.wrap (IntKind.i64.wrap (64 - lenI y))).toNat
     64)) 4294967295) (bits BinOp.or IntKind.u64 (IntKind.u64.wrap (hi * 2 ^ min (IntKind.u64.wrap (IntKind.i64.wrap (64 - lenI y))).toNat 64)) (lo.fdiv (2 ^ min (IntKind.u64.wrap (64 - IntKind.u64.wrap
     (IntKind.i64.wrap (64 - lenI y)))).toNat 64))) ((IntKind.u64.wrap (lo * 2 ^ min (IntKind.u64.wrap (IntKind.i64.wrap (64 - lenI y))).toNat 64)).fdiv 4294967296) * IntKind.u64.wrap (y * 2 ^ min
     (IntKind.u64.wrap (IntKind.i64.wrap (64 - lenI y))).toNat 64))) - IntKind.u64.wrap (IntKind.u64.wrap ((IntKind.u64.wrap (IntKind.u64.wrap (IntKind.u64.wrap (bits BinOp.or IntKind.u64 (IntKind.u64.wrap
     (hi * 2 ^ min (IntKind.u64.wrap (IntKind.i64.wrap (64 - lenI y))).toNat 64)) (lo.fdiv (2 ^ min (IntKind.u64.wrap (64 - IntKind.u64.wrap (IntKind.i64.wrap (64 - lenI y)))).toNat 64)) * 4294967296) +
     (IntKind.u64.wrap (lo * 2 ^ min (IntKind.u64.wrap (IntKind.i64.wrap (64 - lenI y))).toNat 64)).fdiv 4294967296) - IntKind.u64.wrap (kq ((IntKind.u64.wrap (y * 2 ^ min (IntKind.u64.wrap
     (IntKind.i64.wrap (64 - lenI y))).toNat 64)).fdiv 4294967296) (bits BinOp.and IntKind.u64 (IntKind.u64.wrap (y * 2 ^ min (IntKind.u64.wrap (IntKind.i64.wrap (64 - lenI y))).toNat 64)) 4294967295)
     (bits BinOp.or IntKind.u64 (IntKind.u64.wrap (hi * 2 ^ min (IntKind.u64.wrap (IntKind.i64.wrap (64 - lenI y))).toNat 64)) (lo.fdiv (2 ^ min (IntKind.u64.wrap (64 - IntKind.u64.wrap (IntKind.i64.wrap
     (64 - lenI y)))).toNat 64))) ((IntKind.u64.wrap (lo * 2 ^ min (IntKind.u64.wrap (IntKind.i64.wrap (64 - lenI y))).toNat 64)).fdiv 4294967296) * IntKind.u64.wrap (y * 2 ^ min (IntKind.u64.wrap
     (IntKind.i64.wrap (64 - lenI y))).toNat 64)))).tdiv ((IntKind.u64.wrap (y * 2 ^ min (IntKind.u64.wrap (IntKind.i64.wrap (64 - lenI y))).toNat 64)).fdiv 4294967296)) * (IntKind.u64.wrap (y * 2 ^ min
     (IntKind.u64.wrap (IntKind.i64.wrap (64 - lenI y))).toNat 64)).fdiv 4294967296))) then bif decide (IntKind.u64.wrap (IntKind.i64.wrap (64 - lenI y)) < 0) then none else some (Res.ret (Value.tuple {
     toList := [Value.int IntKind.u64 (IntKind.u64.wrap (IntKind.u64.wrap (kq ((IntKind.u64.wrap (y * 2 ^ min (IntKind.u64.wrap (IntKind.i64.wrap (64 - lenI y))).toNat 64)).fdiv 4294967296) (bits BinOp.and
     IntKind.u64 (IntKind.u64.wrap (y * 2 ^ min (IntKind.u64.wrap (IntKind.i64.wrap (64 - lenI y))).toNat 64)) 4294967295) (bits BinOp.or IntKind.u64 (IntKind.u64.wrap (hi * 2 ^ min (IntKind.u64.wrap
     (IntKind.i64.wrap (64 - lenI y))).toNat 64)) (lo.fdiv (2 ^ min (IntKind.u64.wrap (64 - IntKind.u64.wrap (IntKind.i64.wrap (64 - lenI y)))).toNat 64))) ((IntKind.u64.wrap (lo * 2 ^ min
     (IntKind.u64.wrap (IntKind.i64.wrap (64 - lenI y))).toNat 64)).fdiv 4294967296) * 4294967296) + kq ((IntKind.u64.wrap (y * 2 ^ min (IntKind.u64.wrap (IntKind.i64.wrap (64 - lenI y))).toNat 64)).fdiv
     4294967296) (bits BinOp.and IntKind.u64 (IntKind.u64.wrap (y * 2 ^ min (IntKind.u64.wrap (IntKind.i64.wrap (64 - lenI y))).toNat 64)) 4294967295) (IntKind.u64.wrap (IntKind.u64.wrap (IntKind.u64.wrap
     (bits BinOp.or IntKind.u64 (IntKind.u64.wrap (hi * 2 ^ min (IntKind.u64.wrap (IntKind.i64.wrap (64 - lenI y))).toNat 64)) (lo.fdiv (2 ^ min (IntKind.u64.wrap (64 - IntKind.u64.wrap (IntKind.i64.wrap
     (64 - lenI y)))).toNat 64)) * 4294967296) + (IntKind.u64.wrap (lo * 2 ^ min (IntKind.u64.wrap (IntKind.i64.wrap (64 - lenI y))).toNat 64)).fdiv 4294967296) - IntKind.u64.wrap (kq ((IntKind.u64.wrap (y
     * 2 ^ min (IntKind.u64.wrap (IntKind.i64.wrap (64 - lenI y))).toNat 64)).fdiv 4294967296) (bits BinOp.and IntKind.u64 (IntKind.u64.wrap (y * 2 ^ min (IntKind.u64.wrap (IntKind.i64.wrap (64 - lenI
     y))).toNat 64)) 4294967295) (bits BinOp.or IntKind.u64 (IntKind.u64.wrap (hi * 2 ^ min (IntKind.u64.wrap (IntKind.i64.wrap (64 - lenI y))).toNat 64)) (lo.fdiv (2 ^ min (IntKind.u64.wrap (64 -
     IntKind.u64.wrap (IntKind.i64.wrap (64 - lenI y)))).toNat 64))) ((IntKind.u64.wrap (lo * 2 ^ min (IntKind.u64.wrap (IntKind.i64.wrap (64 - lenI y))).toNat 64)).fdiv 4294967296) * IntKind.u64.wrap (y *
     2 ^ min (IntKind.u64.wrap (IntKind.i64.wrap (64 - lenI y))).toNat 64)))) (bits BinOp.and IntKind.u64 (IntKind.u64.wrap (lo * 2 ^ min (IntKind.u64.wrap (IntKind.i64.wrap (64 - lenI y))).toNat 64))
     4294967295))), Value.int IntKind.u64 ((IntKind.u64.wrap (IntKind.u64.wrap (IntKind.u64.wrap (IntKind.u64.wrap (IntKind.u64.wrap (IntKind.u64.wrap (bits BinOp.or IntKind.u64 (IntKind.u64.wrap (hi * 2 ^
     min (IntKind.u64.wrap (IntKind.i64.wrap (64 - lenI y))).toNat 64)) (lo.fdiv (2 ^ min (IntKind.u64.wrap (64 - IntKind.u64.wrap (IntKind.i64.wrap (64 - lenI y)))).toNat 64)) * 4294967296) +
     (IntKind.u64.wrap (lo * 2 ^ min (IntKind.u64.wrap (IntKind.i64.wrap (64 - lenI y))).toNat 64)).fdiv 4294967296) - IntKind.u64.wrap (kq ((IntKind.u64.wrap (y * 2 ^ min (IntKind.u64.wrap
     (IntKind.i64.wrap (64 - lenI y))).toNat 64)).fdiv 4294967296) (bits BinOp.and IntKind.u64 (IntKind.u64.wrap (y * 2 ^ min (IntKind.u64.wrap (IntKind.i64.wrap (64 - lenI y))).toNat 64)) 4294967295)
     (bits BinOp.or IntKind.u64 (IntKind.u64.wrap (hi * 2 ^ min (IntKind.u64.wrap (IntKind.i64.wrap (64 - lenI y))).toNat 64)) (lo.fdiv (2 ^ min (IntKind.u64.wrap (64 - IntKind.u64.wrap (IntKind.i64.wrap
     (64 - lenI y)))).toNat 64))) ((IntKind.u64.wrap (lo * 2 ^ min (IntKind.u64.wrap (IntKind.i64.wrap (64 - lenI y))).toNat 64)).fdiv 4294967296) * IntKind.u64.wrap (y * 2 ^ min (IntKind.u64.wrap
     (IntKind.i64.wrap (64 - lenI y))).toNat 64))) * 4294967296) + bits BinOp.and IntKind.u64 (IntKind.u64.wrap (lo * 2 ^ min (IntKind.u64.wrap (IntKind.i64.wrap (64 - lenI y))).toNat 64)) 4294967295) -
     IntKind.u64.wrap (kq ((IntKind.u64.wrap (y * 2 ^ min (IntKind.u64.wrap (IntKind.i64.wrap (64 - lenI y))).toNat 64)).fdiv 4294967296) (bits BinOp.and IntKind.u64 (IntKind.u64.wrap (y * 2 ^ min
     (IntKind.u64.wrap (IntKind.i64.wrap (64 - lenI y))).toNat 64)) 4294967295) (IntKind.u64.wrap (IntKind.u64.wrap (IntKind.u64.wrap (bits BinOp.or IntKind.u64 (IntKind.u64.wrap (hi * 2 ^ min
     (IntKind.u64.wrap (IntKind.i64.wrap (64 - lenI y))).toNat 64)) (lo.fdiv (2 ^ min (IntKind.u64.wrap (64 - IntKind.u64.wrap (IntKind.i64.wrap (64 - lenI y)))).toNat 64)) * 4294967296) +
     (IntKind.u64.wrap (lo * 2 ^ min (IntKind.u64.wrap (IntKind.i64.wrap (64 - lenI y))).toNat 64)).fdiv 4294967296) - IntKind.u64.wrap (kq ((IntKind.u64.wrap (y * 2 ^ min (IntKind.u64.wrap
     (IntKind.i64.wrap (64 - lenI y))).toNat 64)).fdiv 4294967296) (bits BinOp.and IntKind.u64 (IntKind.u64.wrap (y * 2 ^ min (IntKind.u64.wrap (IntKind.i64.wrap (64 - lenI y))).toNat 64)) 4294967295)
     (bits BinOp.or IntKind.u64 (IntKind.u64.wrap (hi * 2 ^ min (IntKind.u64.wrap (IntKind.i64.wrap (64 - lenI y))).toNat 64)) (lo.fdiv (2 ^ min (IntKind.u64.wrap (64 - IntKind.u64.wrap (IntKind.i64.wrap
     (64 - lenI y)))).toNat 64))) ((IntKind.u64.wrap (lo * 2 ^ min (IntKind.u64.wrap (IntKind.i64.wrap (64 - lenI y))).toNat 64)).fdiv 4294967296) * IntKind.u64.wrap (y * 2 ^ min (IntKind.u64.wrap
     (IntKind.i64.wrap (64 - lenI y))).toNat 64)))) (bits BinOp.and IntKind.u64 (IntKind.u64.wrap (lo * 2 ^ min (IntKind.u64.wrap (IntKind.i64.wrap (64 - lenI y))).toNat 64)) 4294967295) * IntKind.u64.wrap
     (y * 2 ^ min (IntKind.u64.wrap (IntKind.i64.wrap (64 - lenI y))).toNat 64)))).fdiv (2 ^ min (IntKind.u64.wrap (IntKind.i64.wrap (64 - lenI y))).toNat 64))] }) []) else none else none) := by kernel_rfl
--CFEND

/-- A digit's search: at most two steps. -/
theorem KOK.search {v1 v0 un a q r : Int} (h : KOK v1 v0 un a q r) {α : Type} {F : Int → Int → α} {z : α} {X : α}
    (hz : F (kq v1 v0 un a) (un - kq v1 v0 un a * v1) = z) :
    (bif decide (q ≥ 4294967296) then
       bif decide (IntKind.u64.wrap (r + v1) ≥ 4294967296) then F (IntKind.u64.wrap (q - 1)) (IntKind.u64.wrap (r + v1))
       else
         bif decide (IntKind.u64.wrap (q - 1) ≥ 4294967296) then
           bif decide (IntKind.u64.wrap (IntKind.u64.wrap (r + v1) + v1) ≥ 4294967296) then F (IntKind.u64.wrap (IntKind.u64.wrap (q - 1) - 1)) (IntKind.u64.wrap (IntKind.u64.wrap (r + v1) + v1))
           else X
         else
           bif decide (IntKind.u64.wrap (IntKind.u64.wrap (q - 1) * v0) > IntKind.u64.wrap (IntKind.u64.wrap (4294967296 * IntKind.u64.wrap (r + v1)) + a)) then
             bif decide (IntKind.u64.wrap (IntKind.u64.wrap (r + v1) + v1) ≥ 4294967296) then F (IntKind.u64.wrap (IntKind.u64.wrap (q - 1) - 1)) (IntKind.u64.wrap (IntKind.u64.wrap (r + v1) + v1))
             else X
           else F (IntKind.u64.wrap (q - 1)) (IntKind.u64.wrap (r + v1))
     else
       bif decide (IntKind.u64.wrap (q * v0) > IntKind.u64.wrap (IntKind.u64.wrap (4294967296 * r) + a)) then
         bif decide (IntKind.u64.wrap (r + v1) ≥ 4294967296) then F (IntKind.u64.wrap (q - 1)) (IntKind.u64.wrap (r + v1))
         else
           bif decide (IntKind.u64.wrap (q - 1) ≥ 4294967296) then
             bif decide (IntKind.u64.wrap (IntKind.u64.wrap (r + v1) + v1) ≥ 4294967296) then F (IntKind.u64.wrap (IntKind.u64.wrap (q - 1) - 1)) (IntKind.u64.wrap (IntKind.u64.wrap (r + v1) + v1))
             else X
           else
             bif decide (IntKind.u64.wrap (IntKind.u64.wrap (q - 1) * v0) > IntKind.u64.wrap (IntKind.u64.wrap (4294967296 * IntKind.u64.wrap (r + v1)) + a)) then
               bif decide (IntKind.u64.wrap (IntKind.u64.wrap (r + v1) + v1) ≥ 4294967296) then F (IntKind.u64.wrap (IntKind.u64.wrap (q - 1) - 1)) (IntKind.u64.wrap (IntKind.u64.wrap (r + v1) + v1))
               else X
             else F (IntKind.u64.wrap (q - 1)) (IntKind.u64.wrap (r + v1))
       else F q r) = z := by
  obtain ⟨q0, q1, r0, r1, hu⟩ := h.qb
  obtain ⟨k1, k2, k3⟩ := h.above
  have V1 := h.v1a
  have V2 := h.v1b
  have A1 := h.aa
  have A2 := h.ab
  have p0 := h.prod q0 q1
  -- the leaves
  have leaf : ∀ {x y : Int}, un = x * v1 + y → x = kq v1 v0 un a → F x y = z := by
    intro x y e1 e2
    subst e2
    rw [← hz]
    congr 1
    omega
  have e1 : IntKind.u64.wrap (r + v1) = r + v1 := wu64 (by omega) (by omega)
  rw [e1]
  have s1 : un = (q - 1) * v1 + (r + v1) := by rw [Int.sub_mul]; omega
  have s2 : un = (q - 1 - 1) * v1 + (r + v1 + v1) := by rw [Int.sub_mul, Int.sub_mul]; omega
  have t0 := h.test k1 hu
  -- behind one step
  have step : kq v1 v0 un a ≤ q - 1 →
      (bif decide (r + v1 ≥ 4294967296) then F (IntKind.u64.wrap (q - 1)) (r + v1)
       else
         bif decide (IntKind.u64.wrap (q - 1) ≥ 4294967296) then
           bif decide (IntKind.u64.wrap (r + v1 + v1) ≥ 4294967296) then F (IntKind.u64.wrap (IntKind.u64.wrap (q - 1) - 1)) (IntKind.u64.wrap (r + v1 + v1))
           else X
         else
           bif decide (IntKind.u64.wrap (IntKind.u64.wrap (q - 1) * v0) > IntKind.u64.wrap (IntKind.u64.wrap (4294967296 * (r + v1)) + a)) then
             bif decide (IntKind.u64.wrap (r + v1 + v1) ≥ 4294967296) then F (IntKind.u64.wrap (IntKind.u64.wrap (q - 1) - 1)) (IntKind.u64.wrap (r + v1 + v1))
             else X
           else F (IntKind.u64.wrap (q - 1)) (r + v1)) = z := by
    intro hk
    have e2 : IntKind.u64.wrap (q - 1) = q - 1 := wu64 (by omega) (by omega)
    rw [e2]
    have t1 := h.test hk s1
    have p1 := h.prod (x := q - 1) (by omega) (by omega)
    have p2 := h.prod2 (x := q - 1) (by omega) (by omega)
    have e5 : IntKind.u64.wrap (r + v1 + v1) = r + v1 + v1 := wu64 (by omega) (by omega)
    have two : (kq v1 v0 un a ≤ q - 1 - 1) → F (IntKind.u64.wrap (q - 1 - 1)) (r + v1 + v1) = z := by
      intro hk2
      rw [wu64 (x := q - 1 - 1) (by omega) (by omega)]
      refine leaf s2 ?_
      have p3 := h.prod2 (x := q - 1 - 1) (by omega) (by omega)
      exact (h.test hk2 s2).1 (by omega) (by generalize (q - 1 - 1) * v0 = p at *; omega)
    refine dc (fun c1 => ?_) (fun c1 => ?_)
    · refine leaf s1 (t1.1 ?_ ?_)
      · refine Int.not_le.1 fun hc => ?_
        have p3 := Int.mul_le_mul_of_nonneg_right hc (show 0 ≤ v1 by omega)
        have := h.ub
        have := h.v0b
        generalize (q - 1) * v1 = p at *
        omega
      · generalize (q - 1) * v0 = p at *; omega
    · have e3 : IntKind.u64.wrap ((q - 1) * v0) = (q - 1) * v0 := wu64 p1.1 p1.2
      have e4 : IntKind.u64.wrap (IntKind.u64.wrap (4294967296 * (r + v1)) + a) = 4294967296 * (r + v1) + a := by
        rw [wu64 (x := 4294967296 * (r + v1)) (by omega) (by omega), wu64 (by omega) (by omega)]
      rw [e3, e4, e5]
      have big : r + v1 + v1 ≥ 4294967296 := by omega
      refine dc (fun c2 => ?_) (fun c2 => ?_)
      · rw [decide_eq_true big]; exact two (t1.2 (.inl c2))
      · refine dc (fun c3 => ?_) (fun c3 => ?_)
        · rw [decide_eq_true big]; exact two (t1.2 (.inr c3))
        · exact leaf s1 (t1.1 (by omega) (by omega))
  refine dc (fun c1 => step (t0.2 (.inl c1))) (fun c1 => ?_)
  have e3 : IntKind.u64.wrap (q * v0) = q * v0 := wu64 p0.1 p0.2
  have e4 : IntKind.u64.wrap (IntKind.u64.wrap (4294967296 * r) + a) = 4294967296 * r + a := by
    rw [wu64 (x := 4294967296 * r) (by omega) (by omega), wu64 (by omega) (by omega)]
  rw [e3, e4]
  refine dc (fun c2 => step (t0.2 (.inr c2))) (fun c2 => ?_)
  exact leaf hu (t0.1 (by omega) (by omega))

theorem spec115 : SpecOK Try.prog (mkS [(118, false, F118)]) := mkS_cons ok118 (mkS_nil _)

theorem loop115a : LoopOK Try.prog Try.f115.ntmps 0 (loopOf Try.f115 0) live1 F115a := by
  refine LoopOK.of_rounds spec115 follows_ok (L := noL) noL_ok ?_
  intro vs h k out hF
  unfold F115a at hF
  split at hF
  · rename_i y s v1 v0 un a b q r
    cases hb : knuthB v1 v0 un a q r with
    | false => rw [hb] at hF; cases hF
    | true =>
      rw [hb] at hF
      refine ⟨_, _, _, hF, fun real => ⟨2, ?_⟩⟩
      rw [cf115c]
      exact (knuthB_iff.1 hb).search (F := fun x y' => some (Res.at (.exit 0) [(2, some (u y)), (8, some (u s)), (9, some (u v1)), (10, some (u v0)), (11, some (u un)), (13, some (u a)), (14, some (u b)), (15, some (u x)), (16, some (u y'))] [])) rfl
  · cases hF

theorem loop115b : LoopOK Try.prog Try.f115.ntmps 0 (loopOf Try.f115 1) live2 F115b := by
  refine LoopOK.of_rounds spec115 follows_ok (L := noL) noL_ok ?_
  intro vs h k out hF
  unfold F115b at hF
  split at hF
  · rename_i y s v1 v0 b q1 r un q
    cases hb : knuthB v1 v0 un b q r with
    | false => rw [hb] at hF; cases hF
    | true =>
      rw [hb] at hF
      refine ⟨_, _, _, hF, fun real => ⟨2, ?_⟩⟩
      rw [cf115b]
      exact (knuthB_iff.1 hb).search (F := fun x y' => some (Res.at (.exit 2) [(2, some (u y)), (8, some (u s)), (9, some (u v1)), (10, some (u v0)), (14, some (u b)), (15, some (u q1)), (16, some (u y')), (17, some (u un)), (18, some (u x))] [])) rfl
  · cases hF

theorem loops115 : LoopsOK Try.prog L115 Try.f115.ntmps 0 (bodyOf Try.f115) := by
  have hl : loops (bodyOf Try.f115) = [loopOf Try.f115 0, loopOf Try.f115 1] := by kernel_rfl
  intro body hb live f hL
  rw [hl] at hb
  rcases List.mem_cons.1 hb with rfl | hb
  · have e : (loopKey (loopOf Try.f115 0)).bind L115 = some (live1, F115a) := by kernel_rfl
    rw [e] at hL
    cases hL
    exact loop115a
  · rcases List.mem_cons.1 hb with rfl | hb
    · have e : (loopKey (loopOf Try.f115 1)).bind L115 = some (live2, F115b) := by kernel_rfl
      rw [e] at hL
      cases hL
      exact loop115b
    · cases hb
end Go.Proofs.Ytfgehfnlkakioaa.VC

/- math/bits: Div64: the quotient. -/
namespace Go.Proofs.Ytfgehfnlkakioaa.VC
open Go Go.Proofs

/-- What a divisor's length tells. -/
theorem len_norm {y : Int} (h0 : 0 < y) (h1 : y < 18446744073709551616) : ∃ s : Nat, lenI y = 64 - s ∧ s ≤ 63 ∧ 9223372036854775808 ≤ y * 2 ^ s ∧ y * 2 ^ s < 18446744073709551616 := by
  obtain ⟨Y, rfl⟩ := Int.eq_ofNat_of_zero_le (show 0 ≤ y by omega)
  have hY : Y ≠ 0 := by omega
  have hL : Y.log2 < 64 := (Nat.log2_lt hY).2 (by omega)
  refine ⟨63 - Y.log2, ?_, by omega, ?_, ?_⟩
  · unfold lenI
    rw [if_neg (by omega), Int.toNat_natCast]
    omega
  · have h := Nat.mul_le_mul_right (2 ^ (63 - Y.log2)) (Nat.log2_self_le hY)
    rw [← Nat.pow_add, show Y.log2 + (63 - Y.log2) = 63 by omega] at h
    have : ((Y * 2 ^ (63 - Y.log2) : Nat) : Int) = (Y : Int) * 2 ^ (63 - Y.log2) := by simp
    rw [← this]
    omega
  · have h := Nat.mul_lt_mul_of_pos_right (Nat.lt_log2_self (n := Y)) (Nat.two_pow_pos (63 - Y.log2))
    rw [← Nat.pow_add, show Y.log2 + 1 + (63 - Y.log2) = 64 by omega] at h
    have : ((Y * 2 ^ (63 - Y.log2) : Nat) : Int) = (Y : Int) * 2 ^ (63 - Y.log2) := by simp
    rw [← this]
    omega

theorem or_add {h c : Int} {s : Nat} (h0 : 0 ≤ h) (c0 : 0 ≤ c) (h1 : h * 2 ^ s < 18446744073709551616) (c1 : c < 2 ^ s) (hs : s ≤ 63) : bits .or .u64 (h * 2 ^ s) c = h * 2 ^ s + c := by
  obtain ⟨H, rfl⟩ := Int.eq_ofNat_of_zero_le h0
  obtain ⟨C, rfl⟩ := Int.eq_ofNat_of_zero_le c0
  have e : ((H * 2 ^ s : Nat) : Int) = (H : Int) * 2 ^ s := by simp
  have e2 : ((2 ^ s : Nat) : Int) = (2 : Int) ^ s := by simp
  rw [← e] at h1 ⊢
  rw [← e2] at c1
  have hp : 2 ^ s ≤ 2 ^ 63 := Nat.pow_le_pow_right (by omega) hs
  rw [bits_or_u64_nat _ _ (by omega) (by omega), Nat.mul_comm H, ← Nat.two_pow_add_eq_or_of_lt (by omega)]
  simp

/-- A number moved up, in two words. -/
theorem moved {hi lo y : Int} {s : Nat} (hs : s ≤ 63) (y1 : y * 2 ^ s < 18446744073709551616) (h0 : 0 ≤ hi) (h1 : hi < y) (l0 : 0 ≤ lo) (l1 : lo < 18446744073709551616) :
    ∃ un ut : Int, bits .or .u64 (IntKind.u64.wrap (hi * 2 ^ s)) (lo.fdiv (2 ^ (64 - s))) = un ∧ IntKind.u64.wrap (lo * 2 ^ s) = ut ∧ (hi * 18446744073709551616 + lo) * 2 ^ s = un * 18446744073709551616 + ut ∧ 0 ≤ un ∧ un < y * 2 ^ s ∧ 0 ≤ ut ∧ ut < 18446744073709551616 := by
  have pp : (0 : Int) < 2 ^ s := Int.pow_pos (by omega)
  have pp2 : (0 : Int) < 2 ^ (64 - s) := Int.pow_pos (by omega)
  have e : (2 : Int) ^ (64 - s) * 2 ^ s = 18446744073709551616 := by
    rw [← Int.pow_add, show 64 - s + s = 64 by omega]
    rfl
  generalize hp2 : (2 : Int) ^ (64 - s) = p2 at *
  have hh : hi * 2 ^ s < y * 2 ^ s := Int.mul_lt_mul_of_pos_right h1 pp
  have hh0 : 0 ≤ hi * 2 ^ s := Int.mul_nonneg h0 (by omega)
  have c0 : 0 ≤ lo / p2 := Int.ediv_nonneg l0 (by omega)
  have c1 : lo / p2 < 2 ^ s := (Int.ediv_lt_iff_lt_mul pp2).2 (by rw [Int.mul_comm]; omega)
  have d0 := Int.emod_nonneg lo (b := p2) (by omega)
  have d1 := Int.emod_lt_of_pos lo pp2
  have dd := Int.mul_ediv_add_emod lo p2
  refine ⟨hi * 2 ^ s + lo / p2, (lo % p2) * 2 ^ s, ?_, ?_, ?_, by omega, ?_, Int.mul_nonneg d0 (by omega), ?_⟩
  · rw [wu64 hh0 (by omega), Int.fdiv_eq_ediv_of_nonneg _ (by omega)]
    exact or_add h0 c0 (by omega) c1 hs
  · have e3 : lo * 2 ^ s = (lo / p2) * 18446744073709551616 + (lo % p2) * 2 ^ s := by
      conv => lhs; rw [← dd]
      rw [Int.add_mul, Int.mul_comm p2, Int.mul_assoc, e]
    have d2 : (lo % p2) * 2 ^ s < p2 * 2 ^ s := Int.mul_lt_mul_of_pos_right d1 pp
    have d3 : 0 ≤ (lo % p2) * 2 ^ s := Int.mul_nonneg d0 (by omega)
    rw [wu64e, e3]
    generalize (lo % p2) * 2 ^ s = D at *
    omega
  · have e3 : lo * 2 ^ s = (lo / p2) * 18446744073709551616 + (lo % p2) * 2 ^ s := by
      conv => lhs; rw [← dd]
      rw [Int.add_mul, Int.mul_comm p2, Int.mul_assoc, e]
    rw [Int.add_mul, e3, Int.add_mul (hi * 2 ^ s), Int.mul_assoc hi, Int.mul_assoc hi, Int.mul_comm 18446744073709551616]
    omega
  · have : (hi + 1) * 2 ^ s ≤ y * 2 ^ s := Int.mul_le_mul_of_nonneg_right (by omega) (by omega)
    rw [Int.add_mul] at this
    omega
  · have d2 : (lo % p2) * 2 ^ s < p2 * 2 ^ s := Int.mul_lt_mul_of_pos_right d1 pp
    omega

theorem KOK.mk' {v1 v0 un a : Int} (h1 : 2147483648 ≤ v1) (h2 : v1 < 4294967296) (h3 : 0 ≤ v0) (h4 : v0 < 4294967296) (h5 : 0 ≤ a) (h6 : a < 4294967296) (h7 : 0 ≤ un) (h8 : un < v1 * 4294967296 + v0) :
    KOK v1 v0 un a (IntKind.u64.wrap (un.tdiv v1)) (IntKind.u64.wrap (un - IntKind.u64.wrap (IntKind.u64.wrap (un.tdiv v1) * v1))) := by
  have k : KOK v1 v0 un a (un / v1) (un - un / v1 * v1) := ⟨h1, h2, h3, h4, h5, h6, h7, h8, rfl, rfl⟩
  obtain ⟨q0, q1, r0, r1, hu⟩ := k.qb
  have e1 : IntKind.u64.wrap (un.tdiv v1) = un / v1 := by
    rw [Int.tdiv_eq_ediv_of_nonneg h7]
    exact wu64 q0 (by omega)
  rw [e1]
  generalize hp : un / v1 * v1 = p at *
  rw [wu64 (x := p) (by rw [← hp]; exact Int.mul_nonneg q0 (by omega)) (by omega), wu64 (by omega) (by omega)]
  exact k

/-- One digit. -/
theorem KOK.rest {v1 v0 un a q r : Int} (h : KOK v1 v0 un a q r) : ∃ rr : Int, IntKind.u64.wrap (IntKind.u64.wrap (IntKind.u64.wrap (un * 4294967296) + a) - IntKind.u64.wrap (kq v1 v0 un a * (v1 * 4294967296 + v0))) = rr ∧
    0 ≤ rr ∧ rr < v1 * 4294967296 + v0 ∧ un * 4294967296 + a = kq v1 v0 un a * (v1 * 4294967296 + v0) + rr := by
  have hv : 0 < v1 * 4294967296 + v0 := by have := h.v1a; have := h.v0a; omega
  have a1 := Int.emod_nonneg (un * 4294967296 + a) (b := v1 * 4294967296 + v0) (by omega)
  have a2 := Int.emod_lt_of_pos (un * 4294967296 + a) hv
  have a3 := Int.mul_ediv_add_emod (un * 4294967296 + a) (v1 * 4294967296 + v0)
  rw [Int.mul_comm] at a3
  refine ⟨(un * 4294967296 + a) % (v1 * 4294967296 + v0), ?_, a1, a2, ?_⟩
  · unfold kq
    have := h.v1b
    have := h.v0b
    generalize (un * 4294967296 + a) / (v1 * 4294967296 + v0) * (v1 * 4294967296 + v0) = p at *
    generalize (un * 4294967296 + a) % (v1 * 4294967296 + v0) = m at *
    simp only [wu64e]
    omega
  · unfold kq
    omega

theorem maskI {a : Int} (h0 : 0 ≤ a) (h1 : a < 18446744073709551616) : bits .and .u64 a 4294967295 = a % 4294967296 := by
  obtain ⟨A, rfl⟩ := Int.eq_ofNat_of_zero_le h0
  rw [maskN A (by omega)]
  omega

def F115 : FSpec := fun args h k => match args, h with
  | [.int .u64 hi, .int .u64 lo, .int .u64 y], [] =>
    bif decide (hi < y) then k (.tuple #[.int .u64 ((hi * 18446744073709551616 + lo) / y), .int .u64 ((hi * 18446744073709551616 + lo) % y)]) [] else none
  | _, _ => none

theorem ok115 : EntryOK Try.prog 115 F115 := by
  refine EntryOK.of_fn spec115 follows_ok Try.func115 (by kernel_rfl) (by kernel_rfl) ?_
  intro args h k out hF
  unfold F115 at hF
  split at hF
  · rename_i hi lo y
    by_cases hy : hi < y
    · rw [decide_eq_true hy] at hF
      refine ⟨_, _, hF, fun real => ⟨L115, loops115, ?_⟩⟩
      obtain ⟨h0, h1⟩ : 0 ≤ hi ∧ hi ≤ 18446744073709551615 := real.int (i := 0) rfl
      obtain ⟨l0, l1⟩ : 0 ≤ lo ∧ lo ≤ 18446744073709551615 := real.int (i := 1) rfl
      obtain ⟨y0, y1⟩ : 0 ≤ y ∧ y ≤ 18446744073709551615 := real.int (i := 2) rfl
      rw [cf115]
      have ny : (y == 0) = false := by rw [beq_eq_false_iff_ne]; omega
      rw [ny, decide_eq_false (show ¬ y ≤ hi by omega)]
      simp only [cond_false]
      by_cases hz : hi = 0
      · subst hz
        rw [show ((0 : Int) == 0) = true from rfl, decide_eq_false (show ¬ y = 0 by omega)]
        simp only [cond_false, cond_true]
        have q0 : 0 ≤ lo / y := Int.ediv_nonneg l0 y0
        have q1 : lo / y ≤ lo := Int.ediv_le_self _ l0
        rw [Int.tdiv_eq_ediv_of_nonneg l0, Int.tmod_eq_emod_of_nonneg l0, wu64 q0 (by omega), Int.zero_mul, Int.zero_add]
      · have nz : (hi == 0) = false := by rw [beq_eq_false_iff_ne]; exact hz
        rw [nz]
        simp only [cond_false]
        obtain ⟨s, hs, s63, n0, n1⟩ := len_norm (y := y) (by omega) (by omega)
        obtain ⟨un, ut, m1, m2, m3, m4, m5, m6, m7⟩ := moved s63 n1 h0 hy l0 (by omega)
        have eS : IntKind.u64.wrap (IntKind.i64.wrap (64 - lenI y)) = (s : Int) := by
          rw [hs, show (64 : Int) - (64 - (s : Int)) = s by omega, wi64 (by omega) (by omega), wu64 (by omega) (by omega)]
        have eS2 : IntKind.u64.wrap (64 - (s : Int)) = ((64 - s : Nat) : Int) := by rw [wu64 (by omega) (by omega)]; omega
        simp only [eS, eS2, Int.toNat_natCast]
        have t1 : min s 64 = s := by omega
        have t2 : min (64 - s) 64 = 64 - s := by omega
        have t3 : IntKind.u64.wrap (y * 2 ^ s) = y * 2 ^ s := wu64 (by omega) n1
        simp only [t1, t2, t3, m1, m2]
        rw [decide_eq_false (show ¬ (s : Int) < 0 by omega), decide_eq_false (show ¬ ((64 - s : Nat) : Int) < 0 by omega)]
        simp only [cond_false]
        have pp : (0 : Int) < 2 ^ s := Int.pow_pos (by omega)
        generalize hp : (2 : Int) ^ s = p at *
        generalize hY : y * p = Y at *
        simp only [fd32]
        simp only [maskI (a := Y) (by omega) n1, maskI m6 m7]
        have eY : Y = Y / 4294967296 * 4294967296 + Y % 4294967296 := by omega
        have k1 := KOK.mk' (v1 := Y / 4294967296) (v0 := Y % 4294967296) (un := un) (a := ut / 4294967296) (by omega) (by omega) (by omega) (by omega) (by omega) (by omega) m4 (by omega)
        obtain ⟨r1, e1, r10, r11, r12⟩ := k1.rest
        have d1 := k1.above
        rw [← eY] at e1 r11 r12
        rw [decide_eq_false (show ¬ Y / 4294967296 = 0 by omega), knuthB_iff.2 k1]
        simp only [cond_false, cond_true, e1]
        have k2 := KOK.mk' (v1 := Y / 4294967296) (v0 := Y % 4294967296) (un := r1) (a := ut % 4294967296) (by omega) (by omega) (by omega) (by omega) (by omega) (by omega) r10 (by omega)
        obtain ⟨r2, e2, r20, r21, r22⟩ := k2.rest
        have d2 := k2.above
        rw [← eY] at e2 r21 r22
        rw [knuthB_iff.2 k2]
        simp only [cond_true, e2]
        generalize kq (Y / 4294967296) (Y % 4294967296) un (ut / 4294967296) = q1 at *
        generalize kq (Y / 4294967296) (Y % 4294967296) r1 (ut % 4294967296) = q0 at *
        rw [wu64 (x := q1 * 4294967296) (by omega) (by omega), wu64 (x := q1 * 4294967296 + q0) (by omega) (by omega), Int.fdiv_eq_ediv_of_nonneg _ (by omega)]
        -- the whole
        have all : (hi * 18446744073709551616 + lo) * p = (q1 * 4294967296 + q0) * Y + r2 := by
          rw [m3, Int.add_mul, Int.mul_right_comm]
          omega
        have e3 : r2 = (hi * 18446744073709551616 + lo - (q1 * 4294967296 + q0) * y) * p := by
          rw [Int.sub_mul, all, ← hY, Int.mul_assoc]
          omega
        have e4 : r2 / p = hi * 18446744073709551616 + lo - (q1 * 4294967296 + q0) * y := by
          rw [e3, Int.mul_ediv_cancel _ (by omega)]
        have b1 : 0 ≤ r2 / p := Int.ediv_nonneg r20 (by omega)
        have b2 : r2 / p < y := (Int.ediv_lt_iff_lt_mul pp).2 (by omega)
        have e5 : hi * 18446744073709551616 + lo = r2 / p + (q1 * 4294967296 + q0) * y := by omega
        have e6 : (hi * 18446744073709551616 + lo) / y = q1 * 4294967296 + q0 := by
          rw [e5, Int.add_mul_ediv_right _ _ (by omega), Int.ediv_eq_zero_of_lt b1 b2]
          omega
        have e7 : (hi * 18446744073709551616 + lo) % y = r2 / p := by
          rw [e5, Int.add_mul_emod_self_right, Int.emod_eq_of_lt b1 b2]
        rw [e6, e7]
    · rw [decide_eq_false hy] at hF; cases hF
  · cases hF
end Go.Proofs.Ytfgehfnlkakioaa.VC

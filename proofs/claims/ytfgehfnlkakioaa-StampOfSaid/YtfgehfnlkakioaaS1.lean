/- sat: what the functions compute. -/
import Derived.Test.YtfgehfnlkakioaaB6
namespace Go.Proofs.Ytfgehfnlkakioaa.VC
open Go Go.Proofs

/-- The nearest number of 64 bits. -/
def hold (z : Int) : Int := if z < -9223372036854775808 then -9223372036854775808 else if z > 9223372036854775807 then 9223372036854775807 else z
def sizeI (a : Int) : Int := (a.natAbs : Int)
def signed (neg : Bool) (z : Int) : Int := if neg = true then -z else z
def downI (a b d : Int) : Int := if d ≤ 0 then 0 else hold (a * b / d)
def upI (a b d : Int) : Int := if d ≤ 0 then 0 else hold (-(-(a * b) / d))
def overI (a b d : Int) (away : Bool) : Int := if away = true then downI a b d else upI a b d

def F88 : FSpec := fun args h k => match args, h with
  | [.int .i64 a], [] => k (.int .u64 (sizeI a)) []
  | _, _ => none
def F89 : FSpec := fun args h k => match args, h with
  | [.bool neg, .int .u64 hi, .int .u64 lo], [] => k (.int .i64 (hold (signed neg (hi * 18446744073709551616 + lo)))) []
  | _, _ => none
def F23 : FSpec := fun args h k => match args, h with
  | [.int .i64 a, .int .i64 b], [] => k (.int .i64 (hold (a + b))) []
  | _, _ => none
def F24 : FSpec := fun args h k => match args, h with
  | [.int .i64 a, .int .i64 b], [] => k (.int .i64 (hold (a * b))) []
  | _, _ => none
def F25 : FSpec := fun args h k => match args, h with
  | [.int .i64 a, .int .i64 b], [] => k (.int .i64 (hold (a - b))) []
  | _, _ => none
def F26 : FSpec := fun args h k => match args, h with
  | [.int .i64 a], [] => k (.int .i64 (hold (-a))) []
  | _, _ => none
def F38 : FSpec := fun args h k => match args, h with
  | [.int .i64 a], [] => k (.int .i64 (hold (sizeI a))) []
  | _, _ => none
def F19 : FSpec := fun args h k => match args, h with
  | [.int .i64 a, .int .i64 b, .int .i64 d], [] => k (.int .i64 (downI a b d)) []
  | _, _ => none
def F21 : FSpec := fun args h k => match args, h with
  | [.int .i64 a, .int .i64 b, .int .i64 d], [] => k (.int .i64 (upI a b d)) []
  | _, _ => none
def F85 : FSpec := fun args h k => match args, h with
  | [.int .i64 a, .int .i64 b, .int .i64 d, .bool away], [] => k (.int .i64 (overI a b d away)) []
  | _, _ => none
def F114 : FSpec := fun args h k => match args, h with
  | [.int .u64 r, .int .u64 x, .pointer (some ⟨0, 0, none⟩)], [some ⟨false, es, [.ints .u64 1 [d]]⟩] =>
    bif decide (r < d) then k (.tuple #[.int .u64 ((r * 18446744073709551616 + x) / d), .int .u64 ((r * 18446744073709551616 + x) % d)]) [some ⟨false, es, [.ints .u64 1 [d]]⟩] else none
  | _, _ => none
def F34 : FSpec := fun args h k => match args, h with
  | [.int .i64 a, .int .i64 lo, .int .i64 hi], [] => k (.int .i64 (if a < lo then lo else if a > hi then hi else a)) []
  | _, _ => none
def F33 : FSpec := fun args h k => match args, h with
  | [.int .i64 a, .int .u64 n], [] => k (.int .i64 (a / 2 ^ (min n 63).toNat)) []
  | _, _ => none
def F30 : FSpec := fun args h k => match args, h with
  | [.int .i64 a, .int .u64 n], [] => k (.int .i64 (hold (a * 2 ^ n.toNat))) []
  | _, _ => none

--CF cf88 (a : Int) :: fnK Try.prog (mkS []) noL Try.f88 [.int .i64 a] []
theorem cf88 (a : Int) : fnK Try.prog (mkS []) noL Try.f88 [.int .i64 a] [] =
    (bif decide (a < 0) then some (Res.ret (Value.int IntKind.u64 (IntKind.u64.wrap (0 - IntKind.u64.wrap a))) [])
     else some (Res.ret (Value.int IntKind.u64 (IntKind.u64.wrap a)) [])) := by kernel_rfl
--CFEND
--CF cf89 (neg : Bool) (hi lo : Int) :: fnK Try.prog (mkS []) noL Try.f89 [.bool neg, .int .u64 hi, .int .u64 lo] []
theorem cf89 (neg : Bool) (hi lo : Int) : fnK Try.prog (mkS []) noL Try.f89 [.bool neg, .int .u64 hi, .int .u64 lo] [] =
    (bif neg then
       bif decide (hi > 0) then some (Res.ret (Value.int IntKind.i64 (-9223372036854775808)) [])
       else
         bif decide (lo > 9223372036854775808) then some (Res.ret (Value.int IntKind.i64 (-9223372036854775808)) [])
         else
           bif neg then some (Res.ret (Value.int IntKind.i64 (IntKind.i64.wrap (IntKind.u64.wrap (0 - lo)))) [])
           else
             bif decide (hi > 0) then some (Res.ret (Value.int IntKind.i64 9223372036854775807) [])
             else
               bif decide (lo > 9223372036854775807) then some (Res.ret (Value.int IntKind.i64 9223372036854775807) [])
               else some (Res.ret (Value.int IntKind.i64 (IntKind.i64.wrap lo)) [])
     else
       bif neg then some (Res.ret (Value.int IntKind.i64 (IntKind.i64.wrap (IntKind.u64.wrap (0 - lo)))) [])
       else
         bif decide (hi > 0) then some (Res.ret (Value.int IntKind.i64 9223372036854775807) [])
         else
           bif decide (lo > 9223372036854775807) then some (Res.ret (Value.int IntKind.i64 9223372036854775807) [])
           else some (Res.ret (Value.int IntKind.i64 (IntKind.i64.wrap lo)) [])) := by kernel_rfl
--CFEND
--CF cf23 (a b : Int) :: fnK Try.prog (mkS []) noL Try.f23 [.int .i64 a, .int .i64 b] []
theorem cf23 (a b : Int) : fnK Try.prog (mkS []) noL Try.f23 [.int .i64 a, .int .i64 b] [] =
    (bif decide (a < 0) then
       bif decide (b < 0) then
         bif decide (IntKind.i64.wrap (a + b) ≥ 0) then some (Res.ret (Value.int IntKind.i64 (-9223372036854775808)) [])
         else
           bif decide (a ≥ 0) then
             bif decide (b ≥ 0) then
               bif decide (IntKind.i64.wrap (a + b) < 0) then some (Res.ret (Value.int IntKind.i64 9223372036854775807) [])
               else some (Res.ret (Value.int IntKind.i64 (IntKind.i64.wrap (a + b))) [])
             else some (Res.ret (Value.int IntKind.i64 (IntKind.i64.wrap (a + b))) [])
           else some (Res.ret (Value.int IntKind.i64 (IntKind.i64.wrap (a + b))) [])
       else
         bif decide (a ≥ 0) then
           bif decide (b ≥ 0) then
             bif decide (IntKind.i64.wrap (a + b) < 0) then some (Res.ret (Value.int IntKind.i64 9223372036854775807) [])
             else some (Res.ret (Value.int IntKind.i64 (IntKind.i64.wrap (a + b))) [])
           else some (Res.ret (Value.int IntKind.i64 (IntKind.i64.wrap (a + b))) [])
         else some (Res.ret (Value.int IntKind.i64 (IntKind.i64.wrap (a + b))) [])
     else
       bif decide (a ≥ 0) then
         bif decide (b ≥ 0) then
           bif decide (IntKind.i64.wrap (a + b) < 0) then some (Res.ret (Value.int IntKind.i64 9223372036854775807) [])
           else some (Res.ret (Value.int IntKind.i64 (IntKind.i64.wrap (a + b))) [])
         else some (Res.ret (Value.int IntKind.i64 (IntKind.i64.wrap (a + b))) [])
       else some (Res.ret (Value.int IntKind.i64 (IntKind.i64.wrap (a + b))) [])) := by kernel_rfl
--CFEND
--CF cf25 (a b : Int) :: fnK Try.prog (mkS []) noL Try.f25 [.int .i64 a, .int .i64 b] []
theorem cf25 (a b : Int) : fnK Try.prog (mkS []) noL Try.f25 [.int .i64 a, .int .i64 b] [] =
    (bif decide (a < 0) then
       bif decide (b ≥ 0) then
         bif decide (IntKind.i64.wrap (a - b) ≥ 0) then some (Res.ret (Value.int IntKind.i64 (-9223372036854775808)) [])
         else
           bif decide (a ≥ 0) then
             bif decide (b < 0) then
               bif decide (IntKind.i64.wrap (a - b) < 0) then some (Res.ret (Value.int IntKind.i64 9223372036854775807) [])
               else some (Res.ret (Value.int IntKind.i64 (IntKind.i64.wrap (a - b))) [])
             else some (Res.ret (Value.int IntKind.i64 (IntKind.i64.wrap (a - b))) [])
           else some (Res.ret (Value.int IntKind.i64 (IntKind.i64.wrap (a - b))) [])
       else
         bif decide (a ≥ 0) then
           bif decide (b < 0) then
             bif decide (IntKind.i64.wrap (a - b) < 0) then some (Res.ret (Value.int IntKind.i64 9223372036854775807) [])
             else some (Res.ret (Value.int IntKind.i64 (IntKind.i64.wrap (a - b))) [])
           else some (Res.ret (Value.int IntKind.i64 (IntKind.i64.wrap (a - b))) [])
         else some (Res.ret (Value.int IntKind.i64 (IntKind.i64.wrap (a - b))) [])
     else
       bif decide (a ≥ 0) then
         bif decide (b < 0) then
           bif decide (IntKind.i64.wrap (a - b) < 0) then some (Res.ret (Value.int IntKind.i64 9223372036854775807) [])
           else some (Res.ret (Value.int IntKind.i64 (IntKind.i64.wrap (a - b))) [])
         else some (Res.ret (Value.int IntKind.i64 (IntKind.i64.wrap (a - b))) [])
       else some (Res.ret (Value.int IntKind.i64 (IntKind.i64.wrap (a - b))) [])) := by kernel_rfl
--CFEND
--CF cf24 (a b : Int) :: fnK Try.prog (mkS [(88, false, F88), (87, false, F87), (89, false, F89)]) noL Try.f24 [.int .i64 a, .int .i64 b] []
theorem cf24 (a b : Int) : fnK Try.prog (mkS [(88, false, F88), (87, false, F87), (89, false, F89)]) noL Try.f24 [.int .i64 a, .int .i64 b] [] =
    (some
       (Res.ret
         (Value.int IntKind.i64
           (hold
             (signed (!decide (a < 0) == decide (b < 0))
               (sizeI a * sizeI b / 18446744073709551616 * 18446744073709551616 +
                 sizeI a * sizeI b % 18446744073709551616))))
         [])) := by kernel_rfl
--CFEND
--CF cf26 (a : Int) :: fnK Try.prog (mkS [(88, false, F88), (89, false, F89)]) noL Try.f26 [.int .i64 a] []
theorem cf26 (a : Int) : fnK Try.prog (mkS [(88, false, F88), (89, false, F89)]) noL Try.f26 [.int .i64 a] [] =
    (some (Res.ret (Value.int IntKind.i64 (hold (signed (decide (a ≥ 0)) (0 + sizeI a)))) [])) := by kernel_rfl
--CFEND
--CF cf38 (a : Int) :: fnK Try.prog (mkS [(88, false, F88), (89, false, F89)]) noL Try.f38 [.int .i64 a] []
theorem cf38 (a : Int) : fnK Try.prog (mkS [(88, false, F88), (89, false, F89)]) noL Try.f38 [.int .i64 a] [] =
    (some (Res.ret (Value.int IntKind.i64 (hold (signed false (0 + sizeI a)))) [])) := by kernel_rfl
--CFEND
--CF cf114 (r x d : Int) (es : Nat) :: fnK Try.prog (mkS [(115, false, F115)]) noL Try.f114 [.int .u64 r, .int .u64 x, .pointer (some ⟨0, 0, none⟩)] [some ⟨false, es, [.ints .u64 1 [d]]⟩]
theorem cf114 (r x d : Int) (es : Nat) : fnK Try.prog (mkS [(115, false, F115)]) noL Try.f114 [.int .u64 r, .int .u64 x, .pointer (some ⟨0, 0, none⟩)] [some ⟨false, es, [.ints .u64 1 [d]]⟩] =
    (bif decide (r < d) then
       some
         (Res.ret
           (Value.tuple
             {
               toList :=
                 [Value.int IntKind.u64 ((r * 18446744073709551616 + x) / d),
                   Value.int IntKind.u64 ((r * 18446744073709551616 + x) % d)] })
           [some { own := false, es := es, segs := [Seg.ints IntKind.u64 1 [d]] }])
     else none) := by kernel_rfl
--CFEND
--CF cf85 (a b d : Int) (away : Bool) :: fnK Try.prog (mkS [(88, false, F88), (87, false, F87), (89, false, F89), (114, false, F114), (116, false, F116)]) noL Try.f85 [.int .i64 a, .int .i64 b, .int .i64 d, .bool away] []
theorem cf85 (a b d : Int) (away : Bool) : fnK Try.prog (mkS [(88, false, F88), (87, false, F87), (89, false, F89), (114, false, F114), (116, false, F116)]) noL Try.f85 [.int .i64 a, .int .i64 b, .int .i64 d, .bool away] [] =
    (bif decide (d ≤ 0) then some (Res.ret (Value.int IntKind.i64 0) [])
     else
       bif decide (IntKind.u64.wrap d = 0) then none
       else
         bif decide (IntKind.u64.wrap d = 0) then none
         else
           bif decide ((sizeI a * sizeI b / 18446744073709551616).tmod (IntKind.u64.wrap d) < IntKind.u64.wrap d) then
             bif
                 decide
                   (((sizeI a * sizeI b / 18446744073709551616).tmod (IntKind.u64.wrap d) * 18446744073709551616 +
                         sizeI a * sizeI b % 18446744073709551616) %
                       IntKind.u64.wrap d >
                     0) then
               bif (!decide (a < 0) == decide (b < 0)) == away then
                 some
                   (Res.ret
                     (Value.int IntKind.i64
                       (hold
                         (signed (!decide (a < 0) == decide (b < 0))
                           (IntKind.u64.wrap
                                 (IntKind.u64.wrap ((sizeI a * sizeI b / 18446744073709551616).tdiv (IntKind.u64.wrap d)) +
                                   (((sizeI a * sizeI b / 18446744073709551616).tmod (IntKind.u64.wrap d) *
                                               18446744073709551616 +
                                             sizeI a * sizeI b % 18446744073709551616) /
                                           IntKind.u64.wrap d +
                                         1 +
                                       0) /
                                     18446744073709551616) *
                               18446744073709551616 +
                             (((sizeI a * sizeI b / 18446744073709551616).tmod (IntKind.u64.wrap d) * 18446744073709551616 +
                                       sizeI a * sizeI b % 18446744073709551616) /
                                     IntKind.u64.wrap d +
                                   1 +
                                 0) %
                               18446744073709551616))))
                     [])
               else
                 some
                   (Res.ret
                     (Value.int IntKind.i64
                       (hold
                         (signed (!decide (a < 0) == decide (b < 0))
                           (IntKind.u64.wrap ((sizeI a * sizeI b / 18446744073709551616).tdiv (IntKind.u64.wrap d)) *
                               18446744073709551616 +
                             ((sizeI a * sizeI b / 18446744073709551616).tmod (IntKind.u64.wrap d) * 18446744073709551616 +
                                 sizeI a * sizeI b % 18446744073709551616) /
                               IntKind.u64.wrap d))))
                     [])
             else
               some
                 (Res.ret
                   (Value.int IntKind.i64
                     (hold
                       (signed (!decide (a < 0) == decide (b < 0))
                         (IntKind.u64.wrap ((sizeI a * sizeI b / 18446744073709551616).tdiv (IntKind.u64.wrap d)) *
                             18446744073709551616 +
                           ((sizeI a * sizeI b / 18446744073709551616).tmod (IntKind.u64.wrap d) * 18446744073709551616 +
                               sizeI a * sizeI b % 18446744073709551616) /
                             IntKind.u64.wrap d))))
                   [])
           else none) := by kernel_rfl
--CFEND
--CF cf19 (a b d : Int) :: fnK Try.prog (mkS [(85, false, F85)]) noL Try.f19 [.int .i64 a, .int .i64 b, .int .i64 d] []
theorem cf19 (a b d : Int) : fnK Try.prog (mkS [(85, false, F85)]) noL Try.f19 [.int .i64 a, .int .i64 b, .int .i64 d] [] =
    (some (Res.ret (Value.int IntKind.i64 (overI a b d true)) [])) := by kernel_rfl
--CFEND
--CF cf21 (a b d : Int) :: fnK Try.prog (mkS [(85, false, F85)]) noL Try.f21 [.int .i64 a, .int .i64 b, .int .i64 d] []
theorem cf21 (a b d : Int) : fnK Try.prog (mkS [(85, false, F85)]) noL Try.f21 [.int .i64 a, .int .i64 b, .int .i64 d] [] =
    (some (Res.ret (Value.int IntKind.i64 (overI a b d false)) [])) := by kernel_rfl
--CFEND
--CF cf34 (a lo hi : Int) :: fnK Try.prog (mkS []) noL Try.f34 [.int .i64 a, .int .i64 lo, .int .i64 hi] []
theorem cf34 (a lo hi : Int) : fnK Try.prog (mkS []) noL Try.f34 [.int .i64 a, .int .i64 lo, .int .i64 hi] [] =
    (bif decide (a < lo) then some (Res.ret (Value.int IntKind.i64 lo) [])
     else
       bif decide (a > hi) then some (Res.ret (Value.int IntKind.i64 hi) []) else some (Res.ret (Value.int IntKind.i64 a) [])) := by kernel_rfl
--CFEND
--CF cf33 (a n : Int) :: fnK Try.prog (mkS []) noL Try.f33 [.int .i64 a, .int .u64 n] []
theorem cf33 (a n : Int) : fnK Try.prog (mkS []) noL Try.f33 [.int .i64 a, .int .u64 n] [] =
    (bif decide ((if 63 < n then 63 else n) < 0) then none
     else some (Res.ret (Value.int IntKind.i64 (a.fdiv (2 ^ min (if 63 < n then 63 else n).toNat 64))) [])) := by kernel_rfl
--CFEND
--CF cf30 (a n : Int) :: fnK Try.prog (mkS [(88, false, F88), (87, false, F87), (89, false, F89)]) noL Try.f30 [.int .i64 a, .int .u64 n] []
theorem cf30 (a n : Int) : fnK Try.prog (mkS [(88, false, F88), (87, false, F87), (89, false, F89)]) noL Try.f30 [.int .i64 a, .int .u64 n] [] =
    (bif a == 0 then some (Res.ret (Value.int IntKind.i64 0) [])
     else
       bif decide (n > 63) then
         some (Res.ret (Value.int IntKind.i64 (hold (signed (decide (a < 0)) 18446744073709551616))) [])
       else
         bif decide (n < 0) then none
         else
           some
             (Res.ret
               (Value.int IntKind.i64
                 (hold
                   (signed (decide (a < 0))
                     (sizeI a * IntKind.u64.wrap (1 * 2 ^ min n.toNat 64) / 18446744073709551616 * 18446744073709551616 +
                       sizeI a * IntKind.u64.wrap (1 * 2 ^ min n.toNat 64) % 18446744073709551616))))
               [])) := by kernel_rfl
--CFEND
end Go.Proofs.Ytfgehfnlkakioaa.VC

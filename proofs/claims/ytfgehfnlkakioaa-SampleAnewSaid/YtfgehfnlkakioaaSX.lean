/- sat: what the functions compute. -/
import Derived.Test.YtfgehfnlkakioaaBX
namespace Go.Proofs.Ytfgehfnlkakioaa.VC
open Go Go.Proofs

/-- The nearest number of 64 bits. -/
def hold (z : Int) : Int := if z < -9223372036854775808 then -9223372036854775808 else if z > 9223372036854775807 then 9223372036854775807 else z
def sizeI (a : Int) : Int := (a.natAbs : Int)
def signed (neg : Bool) (z : Int) : Int := if neg = true then -z else z
def downI (a b d : Int) : Int := if d ≤ 0 then 0 else hold (a * b / d)
def upI (a b d : Int) : Int := if d ≤ 0 then 0 else hold (-(-(a * b) / d))
def overI (a b d : Int) (away : Bool) : Int := if away = true then downI a b d else upI a b d

def F88 : FSpec := fun args h k => match args, h with
  | [.int .i64 a], [] => k (.int .u64 (sizeI a)) []
  | _, _ => none
def F89 : FSpec := fun args h k => match args, h with
  | [.bool neg, .int .u64 hi, .int .u64 lo], [] => k (.int .i64 (hold (signed neg (hi * 18446744073709551616 + lo)))) []
  | _, _ => none
def F23 : FSpec := fun args h k => match args, h with
  | [.int .i64 a, .int .i64 b], [] => k (.int .i64 (hold (a + b))) []
  | _, _ => none
def F24 : FSpec := fun args h k => match args, h with
  | [.int .i64 a, .int .i64 b], [] => k (.int .i64 (hold (a * b))) []
  | _, _ => none
def F25 : FSpec := fun args h k => match args, h with
  | [.int .i64 a, .int .i64 b], [] => k (.int .i64 (hold (a - b))) []
  | _, _ => none
def F26 : FSpec := fun args h k => match args, h with
  | [.int .i64 a], [] => k (.int .i64 (hold (-a))) []
  | _, _ => none
def F38 : FSpec := fun args h k => match args, h with
  | [.int .i64 a], [] => k (.int .i64 (hold (sizeI a))) []
  | _, _ => none
def F19 : FSpec := fun args h k => match args, h with
  | [.int .i64 a, .int .i64 b, .int .i64 d], [] => k (.int .i64 (downI a b d)) []
  | _, _ => none
def F21 : FSpec := fun args h k => match args, h with
  | [.int .i64 a, .int .i64 b, .int .i64 d], [] => k (.int .i64 (upI a b d)) []
  | _, _ => none
def F85 : FSpec := fun args h k => match args, h with
  | [.int .i64 a, .int .i64 b, .int .i64 d, .bool away], [] => k (.int .i64 (overI a b d away)) []
  | _, _ => none
def F114 : FSpec := fun args h k => match args, h with
  | [.int .u64 r, .int .u64 x, .pointer (some ⟨0, 0, none⟩)], [some ⟨false, es, [.ints .u64 1 [d]]⟩] =>
    bif decide (r < d) then k (.tuple #[.int .u64 ((r * 18446744073709551616 + x) / d), .int .u64 ((r * 18446744073709551616 + x) % d)]) [some ⟨false, es, [.ints .u64 1 [d]]⟩] else none
  | _, _ => none
def F34 : FSpec := fun args h k => match args, h with
  | [.int .i64 a, .int .i64 lo, .int .i64 hi], [] => k (.int .i64 (if a < lo then lo else if a > hi then hi else a)) []
  | _, _ => none
def F33 : FSpec := fun args h k => match args, h with
  | [.int .i64 a, .int .u64 n], [] => k (.int .i64 (a / 2 ^ (min n 63).toNat)) []
  | _, _ => none
def F30 : FSpec := fun args h k => match args, h with
  | [.int .i64 a, .int .u64 n], [] => k (.int .i64 (hold (a * 2 ^ n.toNat))) []
  | _, _ => none

--CF cf88 (a : Int) :: fnK Try.prog (mkS []) noL Try.f88 [.int .i64 a] []
theorem cf88 (a : Int) : fnK Try.prog (mkS []) noL Try.f88 [.int .i64 a] [] =
    (bif decide (a < 0) then some (Res.ret (Value.int IntKind.u64 (IntKind.u64.wrap (0 - IntKind.u64.wrap a))) [])
     else some (Res.ret (Value.int IntKind.u64 (IntKind.u64.wrap a)) [])) := by kernel_rfl
--CFEND
--CF cf89 (neg : Bool) (hi lo : Int) :: fnK Try.prog (mkS []) noL Try.f89 [.bool neg, .int .u64 hi, .int .u64 lo] []
theorem cf89 (neg : Bool) (hi lo : Int) : fnK Try.prog (mkS []) noL Try.f89 [.bool neg, .int .u64 hi, .int .u64 lo] [] =
    (bif neg then
       bif decide (hi > 0) then some (Res.ret (Value.int IntKind.i64 (-9223372036854775808)) [])
       else
         bif decide (lo > 9223372036854775808) then some (Res.ret (Value.int IntKind.i64 (-9223372036854775808)) [])
         else
           bif neg then some (Res.ret (Value.int IntKind.i64 (IntKind.i64.wrap (IntKind.u64.wrap (0 - lo)))) [])
           else
             bif decide (hi > 0) then some (Res.ret (Value.int IntKind.i64 9223372036854775807) [])
             else
               bif decide (lo > 9223372036854775807) then some (Res.ret (Value.int IntKind.i64 9223372036854775807) [])
               else some (Res.ret (Value.int IntKind.i64 (IntKind.i64.wrap lo)) [])
     else
       bif neg then some (Res.ret (Value.int IntKind.i64 (IntKind.i64.wrap (IntKind.u64.wrap (0 - lo)))) [])
       else
         bif decide (hi > 0) then some (Res.ret (Value.int IntKind.i64 9223372036854775807) [])
         else
           bif decide (lo > 9223372036854775807) then some (Res.ret (Value.int IntKind.i64 9223372036854775807) [])
           else some (Res.ret (Value.int IntKind.i64 (IntKind.i64.wrap lo)) [])) := by kernel_rfl
--CFEND
--CF cf23 (a b : Int) :: fnK Try.prog (mkS []) noL Try.f23 [.int .i64 a, .int .i64 b] []
theorem cf23 (a b : Int) : fnK Try.prog (mkS []) noL Try.f23 [.int .i64 a, .int .i64 b] [] =
    (bif decide (a < 0) then
       bif decide (b < 0) then
         bif decide (IntKind.i64.wrap (a + b) ≥ 0) then some (Res.ret (Value.int IntKind.i64 (-9223372036854775808)) [])
         else
           bif decide (a ≥ 0) then
             bif decide (b ≥ 0) then
               bif decide (IntKind.i64.wrap (a + b) < 0) then some (Res.ret (Value.int IntKind.i64 9223372036854775807) [])
               else some (Res.ret (Value.int IntKind.i64 (IntKind.i64.wrap (a + b))) [])
             else some (Res.ret (Value.int IntKind.i64 (IntKind.i64.wrap (a + b))) [])
           else some (Res.ret (Value.int IntKind.i64 (IntKind.i64.wrap (a + b))) [])
       else
         bif decide (a ≥ 0) then
           bif decide (b ≥ 0) then
             bif decide (IntKind.i64.wrap (a + b) < 0) then some (Res.ret (Value.int IntKind.i64 9223372036854775807) [])
             else some (Res.ret (Value.int IntKind.i64 (IntKind.i64.wrap (a + b))) [])
           else some (Res.ret (Value.int IntKind.i64 (IntKind.i64.wrap (a + b))) [])
         else some (Res.ret (Value.int IntKind.i64 (IntKind.i64.wrap (a + b))) [])
     else
       bif decide (a ≥ 0) then
         bif decide (b ≥ 0) then
           bif decide (IntKind.i64.wrap (a + b) < 0) then some (Res.ret (Value.int IntKind.i64 9223372036854775807) [])
           else some (Res.ret (Value.int IntKind.i64 (IntKind.i64.wrap (a + b))) [])
         else some (Res.ret (Value.int IntKind.i64 (IntKind.i64.wrap (a + b))) [])
       else some (Res.ret (Value.int IntKind.i64 (IntKind.i64.wrap (a + b))) [])) := by kernel_rfl
--CFEND
--CF cf25 (a b : Int) :: fnK Try.prog (mkS []) noL Try.f25 [.int .i64 a, .int .i64 b] []
theorem cf25 (a b : Int) : fnK Try.prog (mkS []) noL Try.f25 [.int .i64 a, .int .i64 b] [] =
    (bif decide (a < 0) then
       bif decide (b ≥ 0) then
         bif decide (IntKind.i64.wrap (a - b) ≥ 0) then some (Res.ret (Value.int IntKind.i64 (-9223372036854775808)) [])
         else
           bif decide (a ≥ 0) then
             bif decide (b < 0) then
               bif decide (IntKind.i64.wrap (a - b) < 0) then some (Res.ret (Value.int IntKind.i64 9223372036854775807) [])
               else some (Res.ret (Value.int IntKind.i64 (IntKind.i64.wrap (a - b))) [])
             else some (Res.ret (Value.int IntKind.i64 (IntKind.i64.wrap (a - b))) [])
           else some (Res.ret (Value.int IntKind.i64 (IntKind.i64.wrap (a - b))) [])
       else
         bif decide (a ≥ 0) then
           bif decide (b < 0) then
             bif decide (IntKind.i64.wrap (a - b) < 0) then some (Res.ret (Value.int IntKind.i64 9223372036854775807) [])
             else some (Res.ret (Value.int IntKind.i64 (IntKind.i64.wrap (a - b))) [])
           else some (Res.ret (Value.int IntKind.i64 (IntKind.i64.wrap (a - b))) [])
         else some (Res.ret (Value.int IntKind.i64 (IntKind.i64.wrap (a - b))) [])
     else
       bif decide (a ≥ 0) then
         bif decide (b < 0) then
           bif decide (IntKind.i64.wrap (a - b) < 0) then some (Res.ret (Value.int IntKind.i64 9223372036854775807) [])
           else some (Res.ret (Value.int IntKind.i64 (IntKind.i64.wrap (a - b))) [])
         else some (Res.ret (Value.int IntKind.i64 (IntKind.i64.wrap (a - b))) [])
       else some (Res.ret (Value.int IntKind.i64 (IntKind.i64.wrap (a - b))) [])) := by kernel_rfl
--CFEND
--CF cf24 (a b : Int) :: fnK Try.prog (mkS [(88, false, F88), (87, false, F87), (89, false, F89)]) noL Try.f24 [.int .i64 a, .int .i64 b] []
theorem cf24 (a b : Int) : fnK Try.prog (mkS [(88, false, F88), (87, false, F87), (89, false, F89)]) noL Try.f24 [.int .i64 a, .int .i64 b] [] =
    (some
       (Res.ret
         (Value.int IntKind.i64
           (hold
             (signed (!decide (a < 0) == decide (b < 0))
               (sizeI a * sizeI b / 18446744073709551616 * 18446744073709551616 +
                 sizeI a * sizeI b % 18446744073709551616))))
         [])) := by kernel_rfl
--CFEND
--CF cf26 (a : Int) :: fnK Try.prog (mkS [(88, false, F88), (89, false, F89)]) noL Try.f26 [.int .i64 a] []
theorem cf26 (a : Int) : fnK Try.prog (mkS [(88, false, F88), (89, false, F89)]) noL Try.f26 [.int .i64 a] [] =
    (some (Res.ret (Value.int IntKind.i64 (hold (signed (decide (a ≥ 0)) (0 + sizeI a)))) [])) := by kernel_rfl
--CFEND
--CF cf38 (a : Int) :: fnK Try.prog (mkS [(88, false, F88), (89, false, F89)]) noL Try.f38 [.int .i64 a] []
theorem cf38 (a : Int) : fnK Try.prog (mkS [(88, false, F88), (89, false, F89)]) noL Try.f38 [.int .i64 a] [] =
    (some (Res.ret (Value.int IntKind.i64 (hold (signed false (0 + sizeI a)))) [])) := by kernel_rfl
--CFEND
--CF cf114 (r x d : Int) (es : Nat) :: fnK Try.prog (mkS [(115, false, F115)]) noL Try.f114 [.int .u64 r, .int .u64 x, .pointer (some ⟨0, 0, none⟩)] [some ⟨false, es, [.ints .u64 1 [d]]⟩]
theorem cf114 (r x d : Int) (es : Nat) : fnK Try.prog (mkS [(115, false, F115)]) noL Try.f114 [.int .u64 r, .int .u64 x, .pointer (some ⟨0, 0, none⟩)] [some ⟨false, es, [.ints .u64 1 [d]]⟩] =
    (bif decide (r < d) then
       some
         (Res.ret
           (Value.tuple
             {
               toList :=
                 [Value.int IntKind.u64 ((r * 18446744073709551616 + x) / d),
                   Value.int IntKind.u64 ((r * 18446744073709551616 + x) % d)] })
           [some { own := false, es := es, segs := [Seg.ints IntKind.u64 1 [d]] }])
     else none) := by kernel_rfl
--CFEND
--CF cf85 (a b d : Int) (away : Bool) :: fnK Try.prog (mkS [(88, false, F88), (87, false, F87), (89, false, F89), (114, false, F114), (116, false, F116)]) noL Try.f85 [.int .i64 a, .int .i64 b, .int .i64 d, .bool away] []
theorem cf85 (a b d : Int) (away : Bool) : fnK Try.prog (mkS [(88, false, F88), (87, false, F87), (89, false, F89), (114, false, F114), (116, false, F116)]) noL Try.f85 [.int .i64 a, .int .i64 b, .int .i64 d, .bool away] [] =
    (bif decide (d ≤ 0) then some (Res.ret (Value.int IntKind.i64 0) [])
     else
       bif decide (IntKind.u64.wrap d = 0) then none
       else
         bif decide (IntKind.u64.wrap d = 0) then none
         else
           bif decide ((sizeI a * sizeI b / 18446744073709551616).tmod (IntKind.u64.wrap d) < IntKind.u64.wrap d) then
             bif
                 decide
                   (((sizeI a * sizeI b / 18446744073709551616).tmod (IntKind.u64.wrap d) * 18446744073709551616 +
                         sizeI a * sizeI b % 18446744073709551616) %
                       IntKind.u64.wrap d >
                     0) then
               bif (!decide (a < 0) == decide (b < 0)) == away then
                 some
                   (Res.ret
                     (Value.int IntKind.i64
                       (hold
                         (signed (!decide (a < 0) == decide (b < 0))
                           (IntKind.u64.wrap
                                 (IntKind.u64.wrap ((sizeI a * sizeI b / 18446744073709551616).tdiv (IntKind.u64.wrap d)) +
                                   (((sizeI a * sizeI b / 18446744073709551616).tmod (IntKind.u64.wrap d) *
                                               18446744073709551616 +
                                             sizeI a * sizeI b % 18446744073709551616) /
                                           IntKind.u64.wrap d +
                                         1 +
                                       0) /
                                     18446744073709551616) *
                               18446744073709551616 +
                             (((sizeI a * sizeI b / 18446744073709551616).tmod (IntKind.u64.wrap d) * 18446744073709551616 +
                                       sizeI a * sizeI b % 18446744073709551616) /
                                     IntKind.u64.wrap d +
                                   1 +
                                 0) %
                               18446744073709551616))))
                     [])
               else
                 some
                   (Res.ret
                     (Value.int IntKind.i64
                       (hold
                         (signed (!decide (a < 0) == decide (b < 0))
                           (IntKind.u64.wrap ((sizeI a * sizeI b / 18446744073709551616).tdiv (IntKind.u64.wrap d)) *
                               18446744073709551616 +
                             ((sizeI a * sizeI b / 18446744073709551616).tmod (IntKind.u64.wrap d) * 18446744073709551616 +
                                 sizeI a * sizeI b % 18446744073709551616) /
                               IntKind.u64.wrap d))))
                     [])
             else
               some
                 (Res.ret
                   (Value.int IntKind.i64
                     (hold
                       (signed (!decide (a < 0) == decide (b < 0))
                         (IntKind.u64.wrap ((sizeI a * sizeI b / 18446744073709551616).tdiv (IntKind.u64.wrap d)) *
                             18446744073709551616 +
                           ((sizeI a * sizeI b / 18446744073709551616).tmod (IntKind.u64.wrap d) * 18446744073709551616 +
                               sizeI a * sizeI b % 18446744073709551616) /
                             IntKind.u64.wrap d))))
                   [])
           else none) := by kernel_rfl
--CFEND
--CF cf19 (a b d : Int) :: fnK Try.prog (mkS [(85, false, F85)]) noL Try.f19 [.int .i64 a, .int .i64 b, .int .i64 d] []
theorem cf19 (a b d : Int) : fnK Try.prog (mkS [(85, false, F85)]) noL Try.f19 [.int .i64 a, .int .i64 b, .int .i64 d] [] =
    (some (Res.ret (Value.int IntKind.i64 (overI a b d true)) [])) := by kernel_rfl
--CFEND
--CF cf21 (a b d : Int) :: fnK Try.prog (mkS [(85, false, F85)]) noL Try.f21 [.int .i64 a, .int .i64 b, .int .i64 d] []
theorem cf21 (a b d : Int) : fnK Try.prog (mkS [(85, false, F85)]) noL Try.f21 [.int .i64 a, .int .i64 b, .int .i64 d] [] =
    (some (Res.ret (Value.int IntKind.i64 (overI a b d false)) [])) := by kernel_rfl
--CFEND
--CF cf34 (a lo hi : Int) :: fnK Try.prog (mkS []) noL Try.f34 [.int .i64 a, .int .i64 lo, .int .i64 hi] []
theorem cf34 (a lo hi : Int) : fnK Try.prog (mkS []) noL Try.f34 [.int .i64 a, .int .i64 lo, .int .i64 hi] [] =
    (bif decide (a < lo) then some (Res.ret (Value.int IntKind.i64 lo) [])
     else
       bif decide (a > hi) then some (Res.ret (Value.int IntKind.i64 hi) []) else some (Res.ret (Value.int IntKind.i64 a) [])) := by kernel_rfl
--CFEND
--CF cf33 (a n : Int) :: fnK Try.prog (mkS []) noL Try.f33 [.int .i64 a, .int .u64 n] []
theorem cf33 (a n : Int) : fnK Try.prog (mkS []) noL Try.f33 [.int .i64 a, .int .u64 n] [] =
    (bif decide ((if 63 < n then 63 else n) < 0) then none
     else some (Res.ret (Value.int IntKind.i64 (a.fdiv (2 ^ min (if 63 < n then 63 else n).toNat 64))) [])) := by kernel_rfl
--CFEND
--CF cf30 (a n : Int) :: fnK Try.prog (mkS [(88, false, F88), (87, false, F87), (89, false, F89)]) noL Try.f30 [.int .i64 a, .int .u64 n] []
theorem cf30 (a n : Int) : fnK Try.prog (mkS [(88, false, F88), (87, false, F87), (89, false, F89)]) noL Try.f30 [.int .i64 a, .int .u64 n] [] =
    (bif a == 0 then some (Res.ret (Value.int IntKind.i64 0) [])
     else
       bif decide (n > 63) then
         some (Res.ret (Value.int IntKind.i64 (hold (signed (decide (a < 0)) 18446744073709551616))) [])
       else
         bif decide (n < 0) then none
         else
           some
             (Res.ret
               (Value.int IntKind.i64
                 (hold
                   (signed (decide (a < 0))
                     (sizeI a * IntKind.u64.wrap (1 * 2 ^ min n.toNat 64) / 18446744073709551616 * 18446744073709551616 +
                       sizeI a * IntKind.u64.wrap (1 * 2 ^ min n.toNat 64) % 18446744073709551616))))
               [])) := by kernel_rfl
--CFEND
end Go.Proofs.Ytfgehfnlkakioaa.VC

/- sat: the functions compute what they are said to. -/
namespace Go.Proofs.Ytfgehfnlkakioaa.VC
open Go Go.Proofs

theorem i64r {args : List Value} {h : Heap} (hr : RealA args h) (i : Nat) {x : Int} (ha : args[i]? = some (.int .i64 x)) : -9223372036854775808 ≤ x ∧ x ≤ 9223372036854775807 := hr.int ha
theorem u64r {args : List Value} {h : Heap} (hr : RealA args h) (i : Nat) {x : Int} (ha : args[i]? = some (.int .u64 x)) : 0 ≤ x ∧ x ≤ 18446744073709551615 := hr.int ha

theorem ok88 : EntryOK Try.prog 88 F88 := by
  refine EntryOK.of_fn (mkS_nil _) follows_ok Try.func88 (by kernel_rfl) (by kernel_rfl) ?_
  intro args h k out hF
  unfold F88 at hF
  split at hF
  · rename_i a
    refine ⟨_, _, hF, fun real => ⟨noL, noL_ok, ?_⟩⟩
    have ha := i64r real 0 rfl
    rw [cf88]
    unfold sizeI
    refine dc (fun c => ?_) (fun c => ?_)
    · rw [wu64e, wu64e, show (0 - a % 18446744073709551616) % 18446744073709551616 = (a.natAbs : Int) by omega]
    · rw [wu64e, show a % 18446744073709551616 = (a.natAbs : Int) by omega]
  · cases hF

theorem ok89 : EntryOK Try.prog 89 F89 := by
  refine EntryOK.of_fn (mkS_nil _) follows_ok Try.func89 (by kernel_rfl) (by kernel_rfl) ?_
  intro args h k out hF
  unfold F89 at hF
  split at hF
  · rename_i neg hi lo
    refine ⟨_, _, hF, fun real => ⟨noL, noL_ok, ?_⟩⟩
    have h1 := u64r real 1 rfl
    have h2 := u64r real 2 rfl
    rw [cf89]
    have put : ∀ {x y : Int}, x = y → some (Res.ret (.int .i64 x) []) = some (Res.ret (.int .i64 y) []) := fun e => by rw [e]
    cases neg with
    | true =>
      simp only [cond_true, signed, if_true, hold]
      refine dc (fun c => ?_) (fun c => ?_)
      · refine put ?_; split <;> omega
      · refine dc (fun c => ?_) (fun c => ?_)
        · refine put ?_; split <;> omega
        · refine put ?_
          rw [wu64e, wi64e]
          split
          · omega
          · split <;> omega
    | false =>
      simp only [cond_false, signed, Bool.false_eq_true, if_false, hold]
      refine dc (fun c => ?_) (fun c => ?_)
      · refine put ?_
        split
        · omega
        · split <;> omega
      · refine dc (fun c => ?_) (fun c => ?_)
        · refine put ?_
          split
          · omega
          · split <;> omega
        · refine put ?_
          rw [wi64e]
          split
          · omega
          · split <;> omega
  · cases hF

theorem ok23 : EntryOK Try.prog 23 F23 := by
  refine EntryOK.of_fn (mkS_nil _) follows_ok Try.func23 (by kernel_rfl) (by kernel_rfl) ?_
  intro args h k out hF
  unfold F23 at hF
  split at hF
  · rename_i a b
    refine ⟨_, _, hF, fun real => ⟨noL, noL_ok, ?_⟩⟩
    have h1 := i64r real 0 rfl
    have h2 := i64r real 1 rfl
    rw [cf23]
    simp only [wi64e]
    have put : ∀ {x : Int}, x = hold (a + b) → some (Res.ret (.int .i64 x) []) = some (Res.ret (.int .i64 (hold (a + b))) []) := fun e => by rw [e]
    repeat' (first | refine dc (fun c => ?_) (fun c => ?_) | (refine put ?_; simp only [hold]; repeat' split) | omega)
  · cases hF

theorem ok25 : EntryOK Try.prog 25 F25 := by
  refine EntryOK.of_fn (mkS_nil _) follows_ok Try.func25 (by kernel_rfl) (by kernel_rfl) ?_
  intro args h k out hF
  unfold F25 at hF
  split at hF
  · rename_i a b
    refine ⟨_, _, hF, fun real => ⟨noL, noL_ok, ?_⟩⟩
    have h1 := i64r real 0 rfl
    have h2 := i64r real 1 rfl
    rw [cf25]
    simp only [wi64e]
    have put : ∀ {x : Int}, x = hold (a - b) → some (Res.ret (.int .i64 x) []) = some (Res.ret (.int .i64 (hold (a - b))) []) := fun e => by rw [e]
    repeat' (first | refine dc (fun c => ?_) (fun c => ?_) | (refine put ?_; simp only [hold]; repeat' split) | omega)
  · cases hF

theorem size_le {a : Int} (h : -9223372036854775808 ≤ a ∧ a ≤ 9223372036854775807) : 0 ≤ sizeI a ∧ sizeI a ≤ 9223372036854775808 := by unfold sizeI; omega

theorem size_mul (a b : Int) : signed (!(decide (a < 0) == decide (b < 0))) (sizeI a * sizeI b) = a * b := by
  have key : ∀ x : Int, sizeI x = if x < 0 then -x else x := by intro x; unfold sizeI; split <;> omega
  rw [key a, key b]
  by_cases ha : a < 0 <;> by_cases hb : b < 0 <;> simp [signed, ha, hb, Int.neg_mul, Int.mul_neg]

theorem ok24 : EntryOK Try.prog 24 F24 := by
  refine EntryOK.of_fn (mkS_cons (rw := false) ok88 (mkS_cons (rw := false) ok87 (mkS_cons (rw := false) ok89 (mkS_nil _)))) follows_ok Try.func24 (by kernel_rfl) (by kernel_rfl) ?_
  intro args h k out hF
  unfold F24 at hF
  split at hF
  · rename_i a b
    refine ⟨_, _, hF, fun real => ⟨noL, noL_ok, ?_⟩⟩
    rw [cf24, show sizeI a * sizeI b / 18446744073709551616 * 18446744073709551616 + sizeI a * sizeI b % 18446744073709551616 = sizeI a * sizeI b by omega, size_mul]
  · cases hF

theorem ok26 : EntryOK Try.prog 26 F26 := by
  refine EntryOK.of_fn (mkS_cons (rw := false) ok88 (mkS_cons (rw := false) ok89 (mkS_nil _))) follows_ok Try.func26 (by kernel_rfl) (by kernel_rfl) ?_
  intro args h k out hF
  unfold F26 at hF
  split at hF
  · rename_i a
    refine ⟨_, _, hF, fun real => ⟨noL, noL_ok, ?_⟩⟩
    rw [cf26, show signed (decide (a ≥ 0)) (0 + sizeI a) = -a by unfold signed sizeI; by_cases h : a ≥ 0 <;> simp [h] <;> omega]
  · cases hF

theorem ok38 : EntryOK Try.prog 38 F38 := by
  refine EntryOK.of_fn (mkS_cons (rw := false) ok88 (mkS_cons (rw := false) ok89 (mkS_nil _))) follows_ok Try.func38 (by kernel_rfl) (by kernel_rfl) ?_
  intro args h k out hF
  unfold F38 at hF
  split at hF
  · rename_i a
    refine ⟨_, _, hF, fun real => ⟨noL, noL_ok, ?_⟩⟩
    rw [cf38, show signed false (0 + sizeI a) = sizeI a by simp [signed]]
  · cases hF

theorem ok114 : EntryOK Try.prog 114 F114 := by
  refine EntryOK.of_fn (mkS_cons (rw := false) ok115 (mkS_nil _)) follows_ok Try.func114 (by kernel_rfl) (by kernel_rfl) ?_
  intro args h k out hF
  unfold F114 at hF
  split at hF
  · rename_i r x es d
    by_cases hd : r < d
    · rw [decide_eq_true hd] at hF
      refine ⟨_, _, hF, fun real => ⟨noL, noL_ok, ?_⟩⟩
      rw [cf114, decide_eq_true hd]
      rfl
    · rw [decide_eq_false hd] at hF; cases hF
  · cases hF

/-- A negative number over a divisor. -/
theorem neg_ediv' {p d : Int} (hd : 0 < d) : -p / d = -(p / d) - (if p % d > 0 then 1 else 0) := by
  have a1 := Int.emod_nonneg p (b := d) (by omega)
  have a2 := Int.emod_lt_of_pos p hd
  have a3 := Int.mul_ediv_add_emod p d
  split
  · rename_i c
    have e : -p = (d - p % d) + (-(p / d) - 1) * d := by
      rw [Int.sub_mul, Int.neg_mul, Int.mul_comm (p / d)]
      omega
    rw [e, Int.add_mul_ediv_right _ _ (by omega), Int.ediv_eq_zero_of_lt (by omega) (by omega)]
    omega
  · rename_i c
    have e : -p = 0 + (-(p / d)) * d := by
      rw [Int.neg_mul, Int.mul_comm (p / d)]
      omega
    rw [e, Int.add_mul_ediv_right _ _ (by omega)]
    simp

theorem two_words {p d : Int} (hd : 0 < d) (hd1 : d < 18446744073709551616) :
    p / d = p / 18446744073709551616 / d * 18446744073709551616 + (p / 18446744073709551616 % d * 18446744073709551616 + p % 18446744073709551616) / d ∧
    p % d = (p / 18446744073709551616 % d * 18446744073709551616 + p % 18446744073709551616) % d ∧
    0 ≤ (p / 18446744073709551616 % d * 18446744073709551616 + p % 18446744073709551616) / d ∧ (p / 18446744073709551616 % d * 18446744073709551616 + p % 18446744073709551616) / d < 18446744073709551616 := by
  have b0 := Int.emod_nonneg (p / 18446744073709551616) (b := d) (by omega)
  have b1 := Int.emod_lt_of_pos (p / 18446744073709551616) hd
  have b2 := Int.mul_ediv_add_emod (p / 18446744073709551616) d
  have e : p = (p / 18446744073709551616 % d * 18446744073709551616 + p % 18446744073709551616) + (p / 18446744073709551616 / d * 18446744073709551616) * d := by
    rw [Int.mul_right_comm, Int.mul_comm (p / 18446744073709551616 / d)]
    omega
  refine ⟨?_, ?_, Int.ediv_nonneg (by omega) (by omega), (Int.ediv_lt_iff_lt_mul hd).2 (by omega)⟩
  · conv => lhs; rw [e]
    rw [Int.add_mul_ediv_right _ _ (by omega)]
    omega
  · conv => lhs; rw [e]
    rw [Int.add_mul_emod_self_right]

theorem over_main {a b d : Int} {away : Bool} (hd : 0 < d) {M : Int}
    (hM : M = sizeI a * sizeI b / d + (if sizeI a * sizeI b % d > 0 ∧ (!(decide (a < 0) == decide (b < 0))) = away then 1 else 0)) :
    hold (signed (!(decide (a < 0) == decide (b < 0))) M) = overI a b d away := by
  have h := size_mul a b
  have hn := neg_ediv' (p := sizeI a * sizeI b) hd
  subst hM
  generalize (!(decide (a < 0) == decide (b < 0))) = neg at *
  generalize sizeI a * sizeI b = p at *
  unfold overI downI upI
  rw [← h]
  cases neg <;> cases away <;> simp [signed, show ¬ d ≤ 0 by omega] <;> congr 1 <;> rw [hn] <;> split <;> omega

theorem ok85 : EntryOK Try.prog 85 F85 := by
  refine EntryOK.of_fn (mkS_cons (rw := false) ok88 (mkS_cons (rw := false) ok87 (mkS_cons (rw := false) ok89 (mkS_cons (rw := false) ok114 (mkS_cons (rw := false) ok116 (mkS_nil _)))))) follows_ok Try.func85 (by kernel_rfl) (by kernel_rfl) ?_
  intro args h k out hF
  unfold F85 at hF
  split at hF
  · rename_i a b d away
    refine ⟨_, _, hF, fun real => ⟨noL, noL_ok, ?_⟩⟩
    have h1 := size_le (i64r real 0 rfl)
    have h2 := size_le (i64r real 1 rfl)
    have h3 := i64r real 2 rfl
    rw [cf85]
    by_cases hd : d ≤ 0
    · rw [decide_eq_true hd, cond_true]
      unfold overI downI upI
      rw [if_pos hd, if_pos hd]
      cases away <;> rfl
    · rw [decide_eq_false hd, cond_false]
      have hW : IntKind.u64.wrap d = d := wu64 (by omega) (by omega)
      simp only [hW]
      have p0 : 0 ≤ sizeI a * sizeI b := Int.mul_nonneg h1.1 h2.1
      have p1 : sizeI a * sizeI b ≤ 9223372036854775808 * 9223372036854775808 := mul_le h1.2 h2.2 h1.1 (by omega)
      have main := @over_main a b d away (by omega)
      obtain ⟨t1, t2, t3, t4⟩ := two_words (p := sizeI a * sizeI b) (d := d) (by omega) (by omega)
      generalize hn : (!(decide (a < 0) == decide (b < 0))) = neg at *
      generalize sizeI a * sizeI b = p at *
      rw [Int.tdiv_eq_ediv_of_nonneg (by omega), Int.tmod_eq_emod_of_nonneg (by omega)]
      have b1 := Int.emod_lt_of_pos (p / 18446744073709551616) (show 0 < d by omega)
      have c0 : 0 ≤ p / 18446744073709551616 / d := Int.ediv_nonneg (by omega) (by omega)
      have c1 : p / 18446744073709551616 / d ≤ p / 18446744073709551616 := Int.ediv_le_self _ (by omega)
      rw [decide_eq_false (show ¬ d = 0 by omega), decide_eq_true b1, ← t2, wu64 c0 (by omega)]
      simp only [cond_false, cond_true]
      generalize (p / 18446744073709551616 % d * 18446744073709551616 + p % 18446744073709551616) / d = q at *
      generalize p / 18446744073709551616 / d = top at *
      refine dc (fun c => ?_) (fun c => ?_)
      · cases hna : (neg == away) with
        | true =>
          rw [cond_true, ← main rfl, if_pos ⟨c, by simpa using hna⟩, t1, wu64 (x := top + (q + 1 + 0) / 18446744073709551616) (by omega) (by omega),
            show (top + (q + 1 + 0) / 18446744073709551616) * 18446744073709551616 + (q + 1 + 0) % 18446744073709551616 = top * 18446744073709551616 + q + 1 by omega]
        | false => rw [cond_false, ← main rfl, if_neg (fun x => by simp [x.2] at hna), t1, Int.add_zero]
      · rw [← main rfl, if_neg (fun x => c x.1), t1, Int.add_zero]
  · cases hF

theorem ok19 : EntryOK Try.prog 19 F19 := by
  refine EntryOK.of_fn (mkS_cons (rw := false) ok85 (mkS_nil _)) follows_ok Try.func19 (by kernel_rfl) (by kernel_rfl) ?_
  intro args h k out hF
  unfold F19 at hF
  split at hF
  · rename_i a b d
    exact ⟨_, _, hF, fun real => ⟨noL, noL_ok, cf19 a b d⟩⟩
  · cases hF

theorem ok21 : EntryOK Try.prog 21 F21 := by
  refine EntryOK.of_fn (mkS_cons (rw := false) ok85 (mkS_nil _)) follows_ok Try.func21 (by kernel_rfl) (by kernel_rfl) ?_
  intro args h k out hF
  unfold F21 at hF
  split at hF
  · rename_i a b d
    exact ⟨_, _, hF, fun real => ⟨noL, noL_ok, cf21 a b d⟩⟩
  · cases hF

theorem ok34 : EntryOK Try.prog 34 F34 := by
  refine EntryOK.of_fn (mkS_nil _) follows_ok Try.func34 (by kernel_rfl) (by kernel_rfl) ?_
  intro args h k out hF
  unfold F34 at hF
  split at hF
  · rename_i a lo hi
    refine ⟨_, _, hF, fun real => ⟨noL, noL_ok, ?_⟩⟩
    rw [cf34]
    refine dc (fun c => ?_) (fun c => ?_)
    · rw [if_pos c]
    · rw [if_neg c]
      refine dc (fun c => ?_) (fun c => ?_)
      · rw [if_pos c]
      · rw [if_neg c]
  · cases hF

theorem ok33 : EntryOK Try.prog 33 F33 := by
  refine EntryOK.of_fn (mkS_nil _) follows_ok Try.func33 (by kernel_rfl) (by kernel_rfl) ?_
  intro args h k out hF
  unfold F33 at hF
  split at hF
  · rename_i a n
    refine ⟨_, _, hF, fun real => ⟨noL, noL_ok, ?_⟩⟩
    have h1 := u64r real 1 rfl
    rw [cf33]
    have e : (if 63 < n then 63 else n) = min n 63 := by split <;> omega
    simp only [e]
    rw [decide_eq_false (by omega), cond_false, show min (min n 63).toNat 64 = (min n 63).toNat by omega, Int.fdiv_eq_ediv_of_nonneg _ (Int.le_of_lt (Int.pow_pos (by omega)))]
  · cases hF

theorem ok30 : EntryOK Try.prog 30 F30 := by
  refine EntryOK.of_fn (mkS_cons (rw := false) ok88 (mkS_cons (rw := false) ok87 (mkS_cons (rw := false) ok89 (mkS_nil _)))) follows_ok Try.func30 (by kernel_rfl) (by kernel_rfl) ?_
  intro args h k out hF
  unfold F30 at hF
  split at hF
  · rename_i a n
    refine ⟨_, _, hF, fun real => ⟨noL, noL_ok, ?_⟩⟩
    have h0 := i64r real 0 rfl
    have h1 := u64r real 1 rfl
    have hs := size_le h0
    rw [cf30]
    have put : ∀ {x y : Int}, x = y → some (Res.ret (.int .i64 x) []) = some (Res.ret (.int .i64 y) []) := fun e => by rw [e]
    by_cases hz : a = 0
    · subst hz
      rw [show ((0 : Int) == 0) = true from rfl, cond_true, Int.zero_mul]
      rfl
    · rw [show (a == 0) = false by rw [beq_eq_false_iff_ne]; exact hz, cond_false]
      have sg : ∀ z : Int, signed (decide (a < 0)) (sizeI a * z) = a * z := by
        intro z
        unfold signed sizeI
        by_cases ha : a < 0
        · simp only [ha, decide_true, if_true]
          rw [show (a.natAbs : Int) = -a by omega, Int.neg_mul, Int.neg_neg]
        · simp only [ha, decide_false, Bool.false_eq_true, if_false]
          rw [show (a.natAbs : Int) = a by omega]
      refine dc (fun c => ?_) (fun c => ?_)
      · refine put ?_
        have e : (2 : Int) ^ n.toNat = 18446744073709551616 * 2 ^ (n.toNat - 64) := by
          rw [show (18446744073709551616 : Int) = 2 ^ 64 from rfl, ← Int.pow_add, show 64 + (n.toNat - 64) = n.toNat by omega]
        have pp : (0 : Int) < 2 ^ (n.toNat - 64) := Int.pow_pos (by omega)
        rw [e]
        by_cases ha : a < 0
        · have : a * (18446744073709551616 * 2 ^ (n.toNat - 64)) ≤ (-1) * (18446744073709551616 * 1) := by
            have h9 := Int.mul_le_mul_of_nonneg_left (show (1 : Int) ≤ 2 ^ (n.toNat - 64) by omega) (show (0 : Int) ≤ 18446744073709551616 by omega)
            have h8 := Int.mul_le_mul_of_nonneg_right (show a ≤ -1 by omega) (show (0 : Int) ≤ 18446744073709551616 * 2 ^ (n.toNat - 64) by omega)
            omega
          simp only [signed, ha, decide_true, if_true, hold]
          rw [if_pos (by omega), if_pos (by omega)]
        · have : 18446744073709551616 ≤ a * (18446744073709551616 * 2 ^ (n.toNat - 64)) := by
            have h9 := Int.mul_le_mul_of_nonneg_left (show (1 : Int) ≤ 2 ^ (n.toNat - 64) by omega) (show (0 : Int) ≤ 18446744073709551616 by omega)
            have h8 := Int.mul_le_mul_of_nonneg_right (show 1 ≤ a by omega) (show (0 : Int) ≤ 18446744073709551616 * 2 ^ (n.toNat - 64) by omega)
            omega
          simp only [signed, ha, decide_false, Bool.false_eq_true, if_false, hold]
          rw [if_neg (by omega), if_pos (by omega), if_neg (by omega), if_pos (by omega)]
      · rw [decide_eq_false (show ¬ n < 0 by omega), cond_false]
        refine put ?_
        have e : IntKind.u64.wrap (1 * 2 ^ min n.toNat 64) = 2 ^ n.toNat := by
          rw [Int.one_mul, show min n.toNat 64 = n.toNat by omega]
          refine wu64 (Int.le_of_lt (Int.pow_pos (by omega))) ?_
          rw [show (18446744073709551616 : Int) = 2 ^ 64 from rfl]
          exact Int.pow_lt_pow_of_lt (by omega) (by omega)
        rw [e, show ∀ z : Int, z / 18446744073709551616 * 18446744073709551616 + z % 18446744073709551616 = z by intro z; omega, sg]
  · cases hF
end Go.Proofs.Ytfgehfnlkakioaa.VC

/- The law SatLaws. -/
namespace Go.Proofs.Ytfgehfnlkakioaa.VC
open Go Go.Proofs

def Ssat : Spec := mkS [(19, false, F19), (21, false, F21), (23, false, F23), (24, false, F24), (25, false, F25), (26, false, F26)]
theorem Ssat_ok : SpecOK Try.prog Ssat := mkS_cons ok19 (mkS_cons ok21 (mkS_cons ok23 (mkS_cons ok24 (mkS_cons ok25 (mkS_cons ok26 (mkS_nil _))))))
--CF cf4 (a b d : Int) :: fnK Try.prog Ssat noL Try.f4 [.int .i64 a, .int .i64 b, .int .i64 d] []
theorem cf4 (a b d : Int) : fnK Try.prog Ssat noL Try.f4 [.int .i64 a, .int .i64 b, .int .i64 d] [] =
    (bif hold (a + b) != hold (b + a) then some (Res.ret (Value.bool false) [])
     else
       bif hold (a * b) != hold (b * a) then some (Res.ret (Value.bool false) [])
       else
         bif hold (a - a) != 0 then some (Res.ret (Value.bool false) [])
         else
           bif downI a b d != downI b a d then some (Res.ret (Value.bool false) [])
           else
             bif upI a b d != downI a b d then
               bif upI a b d != IntKind.i64.wrap (downI a b d + 1) then some (Res.ret (Value.bool false) [])
               else
                 bif decide (d > 0) then
                   bif downI a d d != a then some (Res.ret (Value.bool false) [])
                   else
                     bif decide (d > 0) then
                       bif upI a d d != a then some (Res.ret (Value.bool false) [])
                       else
                         bif upI a b d == hold (-downI (hold (-a)) b d) then some (Res.ret (Value.bool true) [])
                         else
                           bif a == -9223372036854775808 then some (Res.ret (Value.bool true) [])
                           else
                             bif upI a b d == -9223372036854775808 then some (Res.ret (Value.bool true) [])
                             else some (Res.ret (Value.bool (upI a b d == 9223372036854775807)) [])
                     else
                       bif upI a b d == hold (-downI (hold (-a)) b d) then some (Res.ret (Value.bool true) [])
                       else
                         bif a == -9223372036854775808 then some (Res.ret (Value.bool true) [])
                         else
                           bif upI a b d == -9223372036854775808 then some (Res.ret (Value.bool true) [])
                           else some (Res.ret (Value.bool (upI a b d == 9223372036854775807)) [])
                 else
                   bif decide (d > 0) then
                     bif upI a d d != a then some (Res.ret (Value.bool false) [])
                     else
                       bif upI a b d == hold (-downI (hold (-a)) b d) then some (Res.ret (Value.bool true) [])
                       else
                         bif a == -9223372036854775808 then some (Res.ret (Value.bool true) [])
                         else
                           bif upI a b d == -9223372036854775808 then some (Res.ret (Value.bool true) [])
                           else some (Res.ret (Value.bool (upI a b d == 9223372036854775807)) [])
                   else
                     bif upI a b d == hold (-downI (hold (-a)) b d) then some (Res.ret (Value.bool true) [])
                     else
                       bif a == -9223372036854775808 then some (Res.ret (Value.bool true) [])
                       else
                         bif upI a b d == -9223372036854775808 then some (Res.ret (Value.bool true) [])
                         else some (Res.ret (Value.bool (upI a b d == 9223372036854775807)) [])
             else
               bif decide (d > 0) then
                 bif downI a d d != a then some (Res.ret (Value.bool false) [])
                 else
                   bif decide (d > 0) then
                     bif upI a d d != a then some (Res.ret (Value.bool false) [])
                     else
                       bif upI a b d == hold (-downI (hold (-a)) b d) then some (Res.ret (Value.bool true) [])
                       else
                         bif a == -9223372036854775808 then some (Res.ret (Value.bool true) [])
                         else
                           bif upI a b d == -9223372036854775808 then some (Res.ret (Value.bool true) [])
                           else some (Res.ret (Value.bool (upI a b d == 9223372036854775807)) [])
                   else
                     bif upI a b d == hold (-downI (hold (-a)) b d) then some (Res.ret (Value.bool true) [])
                     else
                       bif a == -9223372036854775808 then some (Res.ret (Value.bool true) [])
                       else
                         bif upI a b d == -9223372036854775808 then some (Res.ret (Value.bool true) [])
                         else some (Res.ret (Value.bool (upI a b d == 9223372036854775807)) [])
               else
                 bif decide (d > 0) then
                   bif upI a d d != a then some (Res.ret (Value.bool false) [])
                   else
                     bif upI a b d == hold (-downI (hold (-a)) b d) then some (Res.ret (Value.bool true) [])
                     else
                       bif a == -9223372036854775808 then some (Res.ret (Value.bool true) [])
                       else
                         bif upI a b d == -9223372036854775808 then some (Res.ret (Value.bool true) [])
                         else some (Res.ret (Value.bool (upI a b d == 9223372036854775807)) [])
                 else
                   bif upI a b d == hold (-downI (hold (-a)) b d) then some (Res.ret (Value.bool true) [])
                   else
                     bif a == -9223372036854775808 then some (Res.ret (Value.bool true) [])
                     else
                       bif upI a b d == -9223372036854775808 then some (Res.ret (Value.bool true) [])
                       else some (Res.ret (Value.bool (upI a b d == 9223372036854775807)) [])) := by kernel_rfl
--CFEND

theorem bc {b : Bool} {α : Type} {x y z : α} (h1 : b = true → x = z) (h2 : b = false → y = z) : (bif b then x else y) = z := by
  cases b
  · exact h2 rfl
  · exact h1 rfl

theorem hold_id {z : Int} (h : -9223372036854775808 ≤ z ∧ z ≤ 9223372036854775807) : hold z = z := by unfold hold; (repeat' split) <;> omega

/-- The fixed parts of the law. -/
theorem laws_plain {a b d : Int} (ha : -9223372036854775808 ≤ a ∧ a ≤ 9223372036854775807) :
    (upI a b d = downI a b d ∨ upI a b d = IntKind.i64.wrap (downI a b d + 1)) ∧ (d > 0 → downI a d d = a ∧ upI a d d = a) ∧
    (upI a b d = hold (-downI (hold (-a)) b d) ∨ a = -9223372036854775808 ∨ upI a b d = -9223372036854775808 ∨ upI a b d = 9223372036854775807) := by
  refine ⟨?_, fun hd => ?_, ?_⟩
  · unfold upI downI
    by_cases hd : d ≤ 0
    · rw [if_pos hd, if_pos hd]; exact .inl rfl
    · rw [if_neg hd, if_neg hd, neg_ediv' (by omega)]
      generalize a * b / d = x
      generalize a * b % d = r
      rw [wi64e]
      unfold hold
      (repeat' split) <;> omega
  · unfold upI downI
    rw [if_neg (by omega), if_neg (by omega), Int.mul_ediv_cancel _ (by omega), ← Int.neg_mul, Int.mul_ediv_cancel _ (by omega), Int.neg_neg]
    exact ⟨hold_id ha, hold_id ha⟩
  · by_cases hm : a = -9223372036854775808
    · exact .inr (.inl hm)
    · rw [show hold (-a) = -a from hold_id (by omega)]
      unfold upI downI
      by_cases hd : d ≤ 0
      · rw [if_pos hd, if_pos hd]; exact .inl rfl
      · rw [if_neg hd, if_neg hd, Int.neg_mul]
        generalize -(a * b) / d = w
        unfold hold
        (repeat' split) <;> omega

theorem law4 {a b d : Int} (ha : -9223372036854775808 ≤ a ∧ a ≤ 9223372036854775807) : fnK Try.prog Ssat noL Try.f4 [.int .i64 a, .int .i64 b, .int .i64 d] [] = some (.ret (.bool true) []) := by
  obtain ⟨p1, p2, p3⟩ := @laws_plain a b d ha
  have last : (bif upI a b d == hold (-downI (hold (-a)) b d) then some (Res.ret (Value.bool true) [])
      else bif a == -9223372036854775808 then some (Res.ret (Value.bool true) [])
      else bif upI a b d == -9223372036854775808 then some (Res.ret (Value.bool true) [])
      else some (Res.ret (Value.bool (upI a b d == 9223372036854775807)) [])) = some (.ret (.bool true) []) := by
    refine bc (fun _ => rfl) (fun c1 => bc (fun _ => rfl) (fun c2 => bc (fun _ => rfl) (fun c3 => ?_)))
    rw [beq_eq_false_iff_ne] at c1 c2 c3
    rcases p3 with h | h | h | h
    · exact (c1 h).elim
    · exact (c2 h).elim
    · exact (c3 h).elim
    · rw [h]; rfl
  have nope : ∀ {x y : Int} {z : Out}, x = y → (x != y) = true → some (Res.ret (Value.bool false) []) = z := fun e h => by rw [e] at h; simp at h
  have ab : downI a b d = downI b a d := by unfold downI; rw [Int.mul_comm]
  have tails : (bif decide (d > 0) then
        bif upI a d d != a then some (Res.ret (Value.bool false) [])
        else
          bif upI a b d == hold (-downI (hold (-a)) b d) then some (Res.ret (Value.bool true) [])
          else bif a == -9223372036854775808 then some (Res.ret (Value.bool true) [])
          else bif upI a b d == -9223372036854775808 then some (Res.ret (Value.bool true) [])
          else some (Res.ret (Value.bool (upI a b d == 9223372036854775807)) [])
      else
        bif upI a b d == hold (-downI (hold (-a)) b d) then some (Res.ret (Value.bool true) [])
        else bif a == -9223372036854775808 then some (Res.ret (Value.bool true) [])
        else bif upI a b d == -9223372036854775808 then some (Res.ret (Value.bool true) [])
        else some (Res.ret (Value.bool (upI a b d == 9223372036854775807)) [])) = some (.ret (.bool true) []) :=
    dc (fun c => bc (nope (p2 c).2) (fun _ => last)) (fun _ => last)
  rw [cf4]
  refine bc (nope (by rw [Int.add_comm])) (fun _ => ?_)
  refine bc (nope (by rw [Int.mul_comm])) (fun _ => ?_)
  refine bc (nope (by rw [Int.sub_self]; rfl)) (fun _ => ?_)
  refine bc (nope ab) (fun _ => ?_)
  refine bc (fun c1 => ?_) (fun c1 => ?_)
  · refine bc (fun c2 => ?_) (fun _ => ?_)
    · rw [bne_iff_ne] at c1 c2
      rcases p1 with h | h
      · exact (c1 h).elim
      · exact (c2 h).elim
    · exact dc (fun c => bc (nope (p2 c).1) (fun _ => tails)) (fun _ => tails)
  · exact dc (fun c => bc (nope (p2 c).1) (fun _ => tails)) (fun _ => tails)

def F4 : FSpec := fun args h k => match args, h with
  | [.int .i64 _, .int .i64 _, .int .i64 _], [] => k (.bool true) []
  | _, _ => none
theorem ok4 : EntryOK Try.prog 4 F4 := by
  refine EntryOK.of_fn Ssat_ok follows_ok Try.func4 (by kernel_rfl) (by kernel_rfl) ?_
  intro args h k out hF
  unfold F4 at hF
  split at hF
  · exact ⟨_, _, hF, fun real => ⟨noL, noL_ok, law4 (i64r real 0 rfl)⟩⟩
  · cases hF

/-- A law, from its entry. -/
theorem law_of {P : Program} {g : FuncId} {F : FSpec} (he : EntryOK P g F) {args : Array Value} (hF : ∀ k, F args.toList [] k = k (.bool true) []) (hp : ∀ ι, VRs ι args.toList args.toList) (w : World)
    (hb : (P.funcs[g]?).any (fun fn => fn.body.isSome && !(fn.name == "runtime.NumGoroutine")) = true) : Calls P g args w fun e w' => e = .returned (.bool true) ∧ RowKit.Grown w w' := by
  obtain ⟨v, h', e, hc⟩ := he args.toList [] (fun v h => some (.ret v h)) _ (hF _)
  cases e
  exact law_plain hc hp w hb

theorem VRs.self {l : List Value} (h : ∀ v ∈ l, ∀ ι, VR ι v v) : ∀ ι, VRs ι l l := fun ι => ⟨rfl, fun i v v' a b => by
  rw [a] at b
  cases b
  exact h v (List.mem_of_getElem? a) ι⟩

theorem lit_i64 {a : Int} (w : (Lit.int .i64 a).wf = true) : IntKind.i64.min ≤ a ∧ a ≤ IntKind.i64.max := by
  simpa [Lit.wf] using w
theorem lit_u64 {a : Int} (w : (Lit.int .u64 a).wf = true) : IntKind.u64.min ≤ a ∧ a ≤ IntKind.u64.max := by
  simpa [Lit.wf] using w
end Go.Proofs.Ytfgehfnlkakioaa.VC

/- math/bits: Div64: long division by two digits. -/
import Derived.Test.YtfgehfnlkakioaaB4
namespace Go.Proofs.Ytfgehfnlkakioaa.VC
open Go Go.Proofs

def knuthB (v1 v0 u a q r : Int) : Bool := decide (2147483648 ≤ v1 ∧ v1 < 4294967296 ∧ 0 ≤ v0 ∧ v0 < 4294967296 ∧ 0 ≤ a ∧ a < 4294967296 ∧ 0 ≤ u ∧ u < v1 * 4294967296 + v0 ∧ q = u / v1 ∧ r = u - q * v1)
theorem knuthB_iff {v1 v0 u a q r : Int} : knuthB v1 v0 u a q r = true ↔ KOK v1 v0 u a q r := by
  unfold knuthB
  rw [decide_eq_true_iff]
  exact ⟨fun ⟨a, b, c, d, e, f, g, h, i, j⟩ => ⟨a, b, c, d, e, f, g, h, i, j⟩, fun ⟨a, b, c, d, e, f, g, h, i, j⟩ => ⟨a, b, c, d, e, f, g, h, i, j⟩⟩

abbrev u (x : Int) : Value := .int .u64 x
def live1 : List Nat := [2, 8, 9, 10, 11, 13, 14, 15, 16]
def live2 : List Nat := [2, 8, 9, 10, 14, 15, 16, 17, 18]
def F115a : List Value → Heap → (Exit → List Value → Heap → Out) → Out := fun vs h k => match vs, h with
  | [.int .u64 y, .int .u64 s, .int .u64 v1, .int .u64 v0, .int .u64 un, .int .u64 a, .int .u64 b, .int .u64 q, .int .u64 r], [] =>
    bif knuthB v1 v0 un a q r then k (.exit 0) [u y, u s, u v1, u v0, u un, u a, u b, u (kq v1 v0 un a), u (un - kq v1 v0 un a * v1)] [] else none
  | _, _ => none
def F115b : List Value → Heap → (Exit → List Value → Heap → Out) → Out := fun vs h k => match vs, h with
  | [.int .u64 y, .int .u64 s, .int .u64 v1, .int .u64 v0, .int .u64 b, .int .u64 q1, .int .u64 r, .int .u64 un, .int .u64 q], [] =>
    bif knuthB v1 v0 un b q r then k (.exit 2) [u y, u s, u v1, u v0, u b, u q1, u (un - kq v1 v0 un b * v1), u un, u (kq v1 v0 un b)] [] else none
  | _, _ => none
def L115 : LSpec := fun i => bif Nat.beq i 17 then some (live1, F115a) else bif Nat.beq i 24 then some (live2, F115b) else none

--CF cf115b (y s v1 v0 b q1 r un q : Int) :: loopN Try.prog (mkS [(118, false, F118)]) noL Try.f115.ntmps 0 (loopOf Try.f115 1) live2 2 [.int .u64 y, .int .u64 s, .int .u64 v1, .int .u64 v0, .int .u64 b, .int .u64 q1, .int .u64 r, .int .u64 un, .int .u64 q] [] (fun e vs h => some (.at e (zipS live2 vs) h))
theorem cf115b (y s v1 v0 b q1 r un q : Int) : loopN Try.prog (mkS [(118, false, F118)]) noL Try.f115.ntmps 0 (loopOf Try.f115 1) live2 2 [.int .u64 y, .int .u64 s, .int .u64 v1, .int .u64 v0, .int .u64 b, .int .u64 q1, .int .u64 r, .int .u64 un, .int .u64 q] [] (fun e vs h => some (.at e (zipS live2 vs) h)) =
    (bif decide (q ≥ 4294967296) then
       bif decide (IntKind.u64.wrap (r + v1) ≥ 4294967296) then
         some
           (Res.at (Exit.exit 2)
             [(2, some (Value.int IntKind.u64 y)), (8, some (Value.int IntKind.u64 s)), (9, some (Value.int IntKind.u64 v1)),
               (10, some (Value.int IntKind.u64 v0)), (14, some (Value.int IntKind.u64 b)),
               (15, some (Value.int IntKind.u64 q1)), (16, some (Value.int IntKind.u64 (IntKind.u64.wrap (r + v1)))),
               (17, some (Value.int IntKind.u64 un)), (18, some (Value.int IntKind.u64 (IntKind.u64.wrap (q - 1))))]
             [])
       else
         bif decide (IntKind.u64.wrap (q - 1) ≥ 4294967296) then
           bif decide (IntKind.u64.wrap (IntKind.u64.wrap (r + v1) + v1) ≥ 4294967296) then
             some
               (Res.at (Exit.exit 2)
                 [(2, some (Value.int IntKind.u64 y)), (8, some (Value.int IntKind.u64 s)),
                   (9, some (Value.int IntKind.u64 v1)), (10, some (Value.int IntKind.u64 v0)),
                   (14, some (Value.int IntKind.u64 b)), (15, some (Value.int IntKind.u64 q1)),
                   (16, some (Value.int IntKind.u64 (IntKind.u64.wrap (IntKind.u64.wrap (r + v1) + v1)))),
                   (17, some (Value.int IntKind.u64 un)),
                   (18, some (Value.int IntKind.u64 (IntKind.u64.wrap (IntKind.u64.wrap (q - 1) - 1))))]
                 [])
           else none
         else
           bif
               decide
                 (IntKind.u64.wrap (IntKind.u64.wrap (q - 1) * v0) >
                   IntKind.u64.wrap (IntKind.u64.wrap (4294967296 * IntKind.u64.wrap (r + v1)) + b)) then
             bif decide (IntKind.u64.wrap (IntKind.u64.wrap (r + v1) + v1) ≥ 4294967296) then
               some
                 (Res.at (Exit.exit 2)
                   [(2, some (Value.int IntKind.u64 y)), (8, some (Value.int IntKind.u64 s)),
                     (9, some (Value.int IntKind.u64 v1)), (10, some (Value.int IntKind.u64 v0)),
                     (14, some (Value.int IntKind.u64 b)), (15, some (Value.int IntKind.u64 q1)),
                     (16, some (Value.int IntKind.u64 (IntKind.u64.wrap (IntKind.u64.wrap (r + v1) + v1)))),
                     (17, some (Value.int IntKind.u64 un)),
                     (18, some (Value.int IntKind.u64 (IntKind.u64.wrap (IntKind.u64.wrap (q - 1) - 1))))]
                   [])
             else none
           else
             some
               (Res.at (Exit.exit 2)
                 [(2, some (Value.int IntKind.u64 y)), (8, some (Value.int IntKind.u64 s)),
                   (9, some (Value.int IntKind.u64 v1)), (10, some (Value.int IntKind.u64 v0)),
                   (14, some (Value.int IntKind.u64 b)), (15, some (Value.int IntKind.u64 q1)),
                   (16, some (Value.int IntKind.u64 (IntKind.u64.wrap (r + v1)))), (17, some (Value.int IntKind.u64 un)),
                   (18, some (Value.int IntKind.u64 (IntKind.u64.wrap (q - 1))))]
                 [])
     else
       bif decide (IntKind.u64.wrap (q * v0) > IntKind.u64.wrap (IntKind.u64.wrap (4294967296 * r) + b)) then
         bif decide (IntKind.u64.wrap (r + v1) ≥ 4294967296) then
           some
             (Res.at (Exit.exit 2)
               [(2, some (Value.int IntKind.u64 y)), (8, some (Value.int IntKind.u64 s)),
                 (9, some (Value.int IntKind.u64 v1)), (10, some (Value.int IntKind.u64 v0)),
                 (14, some (Value.int IntKind.u64 b)), (15, some (Value.int IntKind.u64 q1)),
                 (16, some (Value.int IntKind.u64 (IntKind.u64.wrap (r + v1)))), (17, some (Value.int IntKind.u64 un)),
                 (18, some (Value.int IntKind.u64 (IntKind.u64.wrap (q - 1))))]
               [])
         else
           bif decide (IntKind.u64.wrap (q - 1) ≥ 4294967296) then
             bif decide (IntKind.u64.wrap (IntKind.u64.wrap (r + v1) + v1) ≥ 4294967296) then
               some
                 (Res.at (Exit.exit 2)
                   [(2, some (Value.int IntKind.u64 y)), (8, some (Value.int IntKind.u64 s)),
                     (9, some (Value.int IntKind.u64 v1)), (10, some (Value.int IntKind.u64 v0)),
                     (14, some (Value.int IntKind.u64 b)), (15, some (Value.int IntKind.u64 q1)),
                     (16, some (Value.int IntKind.u64 (IntKind.u64.wrap (IntKind.u64.wrap (r + v1) + v1)))),
                     (17, some (Value.int IntKind.u64 un)),
                     (18, some (Value.int IntKind.u64 (IntKind.u64.wrap (IntKind.u64.wrap (q - 1) - 1))))]
                   [])
             else none
           else
             bif
                 decide
                   (IntKind.u64.wrap (IntKind.u64.wrap (q - 1) * v0) >
                     IntKind.u64.wrap (IntKind.u64.wrap (4294967296 * IntKind.u64.wrap (r + v1)) + b)) then
               bif decide (IntKind.u64.wrap (IntKind.u64.wrap (r + v1) + v1) ≥ 4294967296) then
                 some
                   (Res.at (Exit.exit 2)
                     [(2, some (Value.int IntKind.u64 y)), (8, some (Value.int IntKind.u64 s)),
                       (9, some (Value.int IntKind.u64 v1)), (10, some (Value.int IntKind.u64 v0)),
                       (14, some (Value.int IntKind.u64 b)), (15, some (Value.int IntKind.u64 q1)),
                       (16, some (Value.int IntKind.u64 (IntKind.u64.wrap (IntKind.u64.wrap (r + v1) + v1)))),
                       (17, some (Value.int IntKind.u64 un)),
                       (18, some (Value.int IntKind.u64 (IntKind.u64.wrap (IntKind.u64.wrap (q - 1) - 1))))]
                     [])
               else none
             else
               some
                 (Res.at (Exit.exit 2)
                   [(2, some (Value.int IntKind.u64 y)), (8, some (Value.int IntKind.u64 s)),
                     (9, some (Value.int IntKind.u64 v1)), (10, some (Value.int IntKind.u64 v0)),
                     (14, some (Value.int IntKind.u64 b)), (15, some (Value.int IntKind.u64 q1)),
                     (16, some (Value.int IntKind.u64 (IntKind.u64.wrap (r + v1)))), (17, some (Value.int IntKind.u64 un)),
                     (18, some (Value.int IntKind.u64 (IntKind.u64.wrap (q - 1))))]
                   [])
       else
         some
           (Res.at (Exit.exit 2)
             [(2, some (Value.int IntKind.u64 y)), (8, some (Value.int IntKind.u64 s)), (9, some (Value.int IntKind.u64 v1)),
               (10, some (Value.int IntKind.u64 v0)), (14, some (Value.int IntKind.u64 b)),
               (15, some (Value.int IntKind.u64 q1)), (16, some (Value.int IntKind.u64 r)),
               (17, some (Value.int IntKind.u64 un)), (18, some (Value.int IntKind.u64 q))]
             [])) := by kernel_rfl
--CFEND

--CF cf115c (y s v1 v0 un a b q r : Int) :: loopN Try.prog (mkS [(118, false, F118)]) noL Try.f115.ntmps 0 (loopOf Try.f115 0) live1 2 [.int .u64 y, .int .u64 s, .int .u64 v1, .int .u64 v0, .int .u64 un, .int .u64 a, .int .u64 b, .int .u64 q, .int .u64 r] [] (fun e vs h => some (.at e (zipS live1 vs) h))
theorem cf115c (y s v1 v0 un a b q r : Int) : loopN Try.prog (mkS [(118, false, F118)]) noL Try.f115.ntmps 0 (loopOf Try.f115 0) live1 2 [.int .u64 y, .int .u64 s, .int .u64 v1, .int .u64 v0, .int .u64 un, .int .u64 a, .int .u64 b, .int .u64 q, .int .u64 r] [] (fun e vs h => some (.at e (zipS live1 vs) h)) =
    (bif decide (q ≥ 4294967296) then
       bif decide (IntKind.u64.wrap (r + v1) ≥ 4294967296) then
         some
           (Res.at (Exit.exit 0)
             [(2, some (Value.int IntKind.u64 y)), (8, some (Value.int IntKind.u64 s)), (9, some (Value.int IntKind.u64 v1)),
               (10, some (Value.int IntKind.u64 v0)), (11, some (Value.int IntKind.u64 un)),
               (13, some (Value.int IntKind.u64 a)), (14, some (Value.int IntKind.u64 b)),
               (15, some (Value.int IntKind.u64 (IntKind.u64.wrap (q - 1)))),
               (16, some (Value.int IntKind.u64 (IntKind.u64.wrap (r + v1))))]
             [])
       else
         bif decide (IntKind.u64.wrap (q - 1) ≥ 4294967296) then
           bif decide (IntKind.u64.wrap (IntKind.u64.wrap (r + v1) + v1) ≥ 4294967296) then
             some
               (Res.at (Exit.exit 0)
                 [(2, some (Value.int IntKind.u64 y)), (8, some (Value.int IntKind.u64 s)),
                   (9, some (Value.int IntKind.u64 v1)), (10, some (Value.int IntKind.u64 v0)),
                   (11, some (Value.int IntKind.u64 un)), (13, some (Value.int IntKind.u64 a)),
                   (14, some (Value.int IntKind.u64 b)),
                   (15, some (Value.int IntKind.u64 (IntKind.u64.wrap (IntKind.u64.wrap (q - 1) - 1)))),
                   (16, some (Value.int IntKind.u64 (IntKind.u64.wrap (IntKind.u64.wrap (r + v1) + v1))))]
                 [])
           else none
         else
           bif
               decide
                 (IntKind.u64.wrap (IntKind.u64.wrap (q - 1) * v0) >
                   IntKind.u64.wrap (IntKind.u64.wrap (4294967296 * IntKind.u64.wrap (r + v1)) + a)) then
             bif decide (IntKind.u64.wrap (IntKind.u64.wrap (r + v1) + v1) ≥ 4294967296) then
               some
                 (Res.at (Exit.exit 0)
                   [(2, some (Value.int IntKind.u64 y)), (8, some (Value.int IntKind.u64 s)),
                     (9, some (Value.int IntKind.u64 v1)), (10, some (Value.int IntKind.u64 v0)),
                     (11, some (Value.int IntKind.u64 un)), (13, some (Value.int IntKind.u64 a)),
                     (14, some (Value.int IntKind.u64 b)),
                     (15, some (Value.int IntKind.u64 (IntKind.u64.wrap (IntKind.u64.wrap (q - 1) - 1)))),
                     (16, some (Value.int IntKind.u64 (IntKind.u64.wrap (IntKind.u64.wrap (r + v1) + v1))))]
                   [])
             else none
           else
             some
               (Res.at (Exit.exit 0)
                 [(2, some (Value.int IntKind.u64 y)), (8, some (Value.int IntKind.u64 s)),
                   (9, some (Value.int IntKind.u64 v1)), (10, some (Value.int IntKind.u64 v0)),
                   (11, some (Value.int IntKind.u64 un)), (13, some (Value.int IntKind.u64 a)),
                   (14, some (Value.int IntKind.u64 b)), (15, some (Value.int IntKind.u64 (IntKind.u64.wrap (q - 1)))),
                   (16, some (Value.int IntKind.u64 (IntKind.u64.wrap (r + v1))))]
                 [])
     else
       bif decide (IntKind.u64.wrap (q * v0) > IntKind.u64.wrap (IntKind.u64.wrap (4294967296 * r) + a)) then
         bif decide (IntKind.u64.wrap (r + v1) ≥ 4294967296) then
           some
             (Res.at (Exit.exit 0)
               [(2, some (Value.int IntKind.u64 y)), (8, some (Value.int IntKind.u64 s)),
                 (9, some (Value.int IntKind.u64 v1)), (10, some (Value.int IntKind.u64 v0)),
                 (11, some (Value.int IntKind.u64 un)), (13, some (Value.int IntKind.u64 a)),
                 (14, some (Value.int IntKind.u64 b)), (15, some (Value.int IntKind.u64 (IntKind.u64.wrap (q - 1)))),
                 (16, some (Value.int IntKind.u64 (IntKind.u64.wrap (r + v1))))]
               [])
         else
           bif decide (IntKind.u64.wrap (q - 1) ≥ 4294967296) then
             bif decide (IntKind.u64.wrap (IntKind.u64.wrap (r + v1) + v1) ≥ 4294967296) then
               some
                 (Res.at (Exit.exit 0)
                   [(2, some (Value.int IntKind.u64 y)), (8, some (Value.int IntKind.u64 s)),
                     (9, some (Value.int IntKind.u64 v1)), (10, some (Value.int IntKind.u64 v0)),
                     (11, some (Value.int IntKind.u64 un)), (13, some (Value.int IntKind.u64 a)),
                     (14, some (Value.int IntKind.u64 b)),
                     (15, some (Value.int IntKind.u64 (IntKind.u64.wrap (IntKind.u64.wrap (q - 1) - 1)))),
                     (16, some (Value.int IntKind.u64 (IntKind.u64.wrap (IntKind.u64.wrap (r + v1) + v1))))]
                   [])
             else none
           else
             bif
                 decide
                   (IntKind.u64.wrap (IntKind.u64.wrap (q - 1) * v0) >
                     IntKind.u64.wrap (IntKind.u64.wrap (4294967296 * IntKind.u64.wrap (r + v1)) + a)) then
               bif decide (IntKind.u64.wrap (IntKind.u64.wrap (r + v1) + v1) ≥ 4294967296) then
                 some
                   (Res.at (Exit.exit 0)
                     [(2, some (Value.int IntKind.u64 y)), (8, some (Value.int IntKind.u64 s)),
                       (9, some (Value.int IntKind.u64 v1)), (10, some (Value.int IntKind.u64 v0)),
                       (11, some (Value.int IntKind.u64 un)), (13, some (Value.int IntKind.u64 a)),
                       (14, some (Value.int IntKind.u64 b)),
                       (15, some (Value.int IntKind.u64 (IntKind.u64.wrap (IntKind.u64.wrap (q - 1) - 1)))),
                       (16, some (Value.int IntKind.u64 (IntKind.u64.wrap (IntKind.u64.wrap (r + v1) + v1))))]
                     [])
               else none
             else
               some
                 (Res.at (Exit.exit 0)
                   [(2, some (Value.int IntKind.u64 y)), (8, some (Value.int IntKind.u64 s)),
                     (9, some (Value.int IntKind.u64 v1)), (10, some (Value.int IntKind.u64 v0)),
                     (11, some (Value.int IntKind.u64 un)), (13, some (Value.int IntKind.u64 a)),
                     (14, some (Value.int IntKind.u64 b)), (15, some (Value.int IntKind.u64 (IntKind.u64.wrap (q - 1)))),
                     (16, some (Value.int IntKind.u64 (IntKind.u64.wrap (r + v1))))]
                   [])
       else
         some
           (Res.at (Exit.exit 0)
             [(2, some (Value.int IntKind.u64 y)), (8, some (Value.int IntKind.u64 s)), (9, some (Value.int IntKind.u64 v1)),
               (10, some (Value.int IntKind.u64 v0)), (11, some (Value.int IntKind.u64 un)),
               (13, some (Value.int IntKind.u64 a)), (14, some (Value.int IntKind.u64 b)),
               (15, some (Value.int IntKind.u64 q)), (16, some (Value.int IntKind.u64 r))]
             [])) := by kernel_rfl
--CFEND

--CF cf115 (hi lo y : Int) :: fnK Try.prog (mkS [(118, false, F118)]) L115 Try.f115 [.int .u64 hi, .int .u64 lo, .int .u64 y] []
theorem cf115 (hi lo y : Int) : fnK Try.prog (mkS [(118, false, F118)]) L115 Try.f115 [.int .u64 hi, .int .u64 lo, .int .u64 y] [] =
    (bif y == 0 then none
     else
       bif decide (y ≤ hi) then none
       else
         bif hi == 0 then
           bif decide (y = 0) then none
           else
             bif decide (y = 0) then none
             else
               some
                 (Res.ret
                   (Value.tuple
                     { toList := [Value.int IntKind.u64 (IntKind.u64.wrap (lo.tdiv y)), Value.int IntKind.u64 (lo.tmod y)] })
                   [])
         else
           bif decide (IntKind.u64.wrap (IntKind.i64.wrap (64 - lenI y)) < 0) then none
           else
             bif decide (IntKind.u64.wrap (IntKind.i64.wrap (64 - lenI y)) < 0) then none
             else
               bif decide (IntKind.u64.wrap (64 - IntKind.u64.wrap (IntKind.i64.wrap (64 - lenI y))) < 0) then none
               else
                 bif decide (IntKind.u64.wrap (IntKind.i64.wrap (64 - lenI y)) < 0) then none
                 else
                   bif
                       decide
                         ((IntKind.u64.wrap (y * 2 ^ min (IntKind.u64.wrap (IntKind.i64.wrap (64 - lenI y))).toNat 64)).fdiv
                             4294967296 =
                           0) then
                     none
                   else
                     bif
                         knuthB
                           ((IntKind.u64.wrap
                                 (y * 2 ^ min (IntKind.u64.wrap (IntKind.i64.wrap (64 - lenI y))).toNat 64)).fdiv
                             4294967296)
                           (bits BinOp.and IntKind.u64
                             (IntKind.u64.wrap (y * 2 ^ min (IntKind.u64.wrap (IntKind.i64.wrap (64 - lenI y))).toNat 64))
                             4294967295)
                           (bits BinOp.or IntKind.u64
                             (IntKind.u64.wrap (hi * 2 ^ min (IntKind.u64.wrap (IntKind.i64.wrap (64 - lenI y))).toNat 64))
                             (lo.fdiv
                               (2 ^
                                 min (IntKind.u64.wrap (64 - IntKind.u64.wrap (IntKind.i64.wrap (64 - lenI y)))).toNat 64)))
                           ((IntKind.u64.wrap
                                 (lo * 2 ^ min (IntKind.u64.wrap (IntKind.i64.wrap (64 - lenI y))).toNat 64)).fdiv
                             4294967296)
                           (IntKind.u64.wrap
                             ((bits BinOp.or IntKind.u64
                                   (IntKind.u64.wrap
                                     (hi * 2 ^ min (IntKind.u64.wrap (IntKind.i64.wrap (64 - lenI y))).toNat 64))
                                   (lo.fdiv
                                     (2 ^
                                       min (IntKind.u64.wrap (64 - IntKind.u64.wrap (IntKind.i64.wrap (64 - lenI y)))).toNat
                                         64))).tdiv
                               ((IntKind.u64.wrap
                                     (y * 2 ^ min (IntKind.u64.wrap (IntKind.i64.wrap (64 - lenI y))).toNat 64)).fdiv
                                 4294967296)))
                           (IntKind.u64.wrap
                             (bits BinOp.or IntKind.u64
                                 (IntKind.u64.wrap
                                   (hi * 2 ^ min (IntKind.u64.wrap (IntKind.i64.wrap (64 - lenI y))).toNat 64))
                                 (lo.fdiv
                                   (2 ^
                                     min (IntKind.u64.wrap (64 - IntKind.u64.wrap (IntKind.i64.wrap (64 - lenI y)))).toNat
                                       64)) -
                               IntKind.u64.wrap
                                 (IntKind.u64.wrap
                                     ((bits BinOp.or IntKind.u64
                                           (IntKind.u64.wrap
                                             (hi * 2 ^ min (IntKind.u64.wrap (IntKind.i64.wrap (64 - lenI y))).toNat 64))
                                           (lo.fdiv
                                             (2 ^
                                               min
                                                 (IntKind.u64.wrap
                                                     (64 - IntKind.u64.wrap (IntKind.i64.wrap (64 - lenI y)))).toNat
                                                 64))).tdiv
                                       ((IntKind.u64.wrap
                                             (y * 2 ^ min (IntKind.u64.wrap (IntKind.i64.wrap (64 - lenI y))).toNat 64)).fdiv
                                         4294967296)) *
                                   (IntKind.u64.wrap
                                         (y * 2 ^ min (IntKind.u64.wrap (IntKind.i64.wrap (64 - lenI y))).toNat 64)).fdiv
                                     4294967296))) then
                       bif
                           decide
                             ((IntKind.u64.wrap
                                     (y * 2 ^ min (IntKind.u64.wrap (IntKind.i64.wrap (64 - lenI y))).toNat 64)).fdiv
                                 4294967296 =
                               0) then
                         none
                       else
                         bif
                             knuthB
                               ((IntKind.u64.wrap
                                     (y * 2 ^ min (IntKind.u64.wrap (IntKind.i64.wrap (64 - lenI y))).toNat 64)).fdiv
                                 4294967296)
                               (bits BinOp.and IntKind.u64
                                 (IntKind.u64.wrap
                                   (y * 2 ^ min (IntKind.u64.wrap (IntKind.i64.wrap (64 - lenI y))).toNat 64))
                                 4294967295)
                               (IntKind.u64.wrap
                                 (IntKind.u64.wrap
                                     (IntKind.u64.wrap
                                         (bits BinOp.or IntKind.u64
                                             (IntKind.u64.wrap
                                               (hi * 2 ^ min (IntKind.u64.wrap (IntKind.i64.wrap (64 - lenI y))).toNat 64))
                                             (lo.fdiv
                                               (2 ^
                                                 min
                                                   (IntKind.u64.wrap
                                                       (64 - IntKind.u64.wrap (IntKind.i64.wrap (64 - lenI y)))).toNat
                                                   64)) *
                                           4294967296) +
                                       (IntKind.u64.wrap
                                             (lo *
                                               2 ^ min (IntKind.u64.wrap (IntKind.i64.wrap (64 - lenI y))).toNat 64)).fdiv
                                         4294967296) -
                                   IntKind.u64.wrap
                                     (kq
                                         ((IntKind.u64.wrap
                                               (y *
                                                 2 ^ min (IntKind.u64.wrap (IntKind.i64.wrap (64 - lenI y))).toNat 64)).fdiv
                                           4294967296)
                                         (bits BinOp.and IntKind.u64
                                           (IntKind.u64.wrap
                                             (y * 2 ^ min (IntKind.u64.wrap (IntKind.i64.wrap (64 - lenI y))).toNat 64))
                                           4294967295)
                                         (bits BinOp.or IntKind.u64
                                           (IntKind.u64.wrap
                                             (hi * 2 ^ min (IntKind.u64.wrap (IntKind.i64.wrap (64 - lenI y))).toNat 64))
                                           (lo.fdiv
                                             (2 ^
                                               min
                                                 (IntKind.u64.wrap
                                                     (64 - IntKind.u64.wrap (IntKind.i64.wrap (64 - lenI y)))).toNat
                                                 64)))
                                         ((IntKind.u64.wrap
                                               (lo *
                                                 2 ^ min (IntKind.u64.wrap (IntKind.i64.wrap (64 - lenI y))).toNat 64)).fdiv
                                           4294967296) *
                                       IntKind.u64.wrap
                                         (y * 2 ^ min (IntKind.u64.wrap (IntKind.i64.wrap (64 - lenI y))).toNat 64))))
                               (bits BinOp.and IntKind.u64
                                 (IntKind.u64.wrap
                                   (lo * 2 ^ min (IntKind.u64.wrap (IntKind.i64.wrap (64 - lenI y))).toNat 64))
                                 4294967295)
                               (IntKind.u64.wrap
                                 ((IntKind.u64.wrap
                                       (IntKind.u64.wrap
                                           (IntKind.u64.wrap
                                               (bits BinOp.or IntKind.u64
                                                   (IntKind.u64.wrap
                                                     (hi *
                                                       2 ^ min (IntKind.u64.wrap (IntKind.i64.wrap (64 - lenI y))).toNat 64))
                                                   (lo.fdiv
                                                     (2 ^
                                                       min
                                                         (IntKind.u64.wrap
                                                             (64 - IntKind.u64.wrap (IntKind.i64.wrap (64 - lenI y)))).toNat
                                                         64)) *
                                                 4294967296) +
                                             (IntKind.u64.wrap
                                                   (lo *
                                                     2 ^
                                                       min (IntKind.u64.wrap (IntKind.i64.wrap (64 - lenI y))).toNat
                                                         64)).fdiv
                                               4294967296) -
                                         IntKind.u64.wrap
                                           (kq
                                               ((IntKind.u64.wrap
                                                     (y *
                                                       2 ^
                                                         min (IntKind.u64.wrap (IntKind.i64.wrap (64 - lenI y))).toNat
                                                           64)).fdiv
                                                 4294967296)
                                               (bits BinOp.and IntKind.u64
                                                 (IntKind.u64.wrap
                                                   (y *
                                                     2 ^ min (IntKind.u64.wrap (IntKind.i64.wrap (64 - lenI y))).toNat 64))
                                                 4294967295)
                                               (bits BinOp.or IntKind.u64
                                                 (IntKind.u64.wrap
                                                   (hi *
                                                     2 ^ min (IntKind.u64.wrap (IntKind.i64.wrap (64 - lenI y))).toNat 64))
                                                 (lo.fdiv
                                                   (2 ^
                                                     min
                                                       (IntKind.u64.wrap
                                                           (64 - IntKind.u64.wrap (IntKind.i64.wrap (64 - lenI y)))).toNat
                                                       64)))
                                               ((IntKind.u64.wrap
                                                     (lo *
                                                       2 ^
                                                         min (IntKind.u64.wrap (IntKind.i64.wrap (64 - lenI y))).toNat
                                                           64)).fdiv
                                                 4294967296) *
                                             IntKind.u64.wrap
                                               (y *
                                                 2 ^
                                                   min (IntKind.u64.wrap (IntKind.i64.wrap (64 - lenI y))).toNat 64)))).tdiv
                                   ((IntKind.u64.wrap
                                         (y * 2 ^ min (IntKind.u64.wrap (IntKind.i64.wrap (64 - lenI y))).toNat 64)).fdiv
                                     4294967296)))
                               (IntKind.u64.wrap
                                 (IntKind.u64.wrap
                                     (IntKind.u64.wrap
                                         (IntKind.u64.wrap
                                             (bits BinOp.or IntKind.u64
                                                 (IntKind.u64.wrap
                                                   (hi *
                                                     2 ^ min (IntKind.u64.wrap (IntKind.i64.wrap (64 - lenI y))).toNat 64))
                                                 (lo.fdiv
                                                   (2 ^
                                                     min
                                                       (IntKind.u64.wrap
                                                           (64 - IntKind.u64.wrap (IntKind.i64.wrap (64 - lenI y)))).toNat
                                                       64)) *
                                               4294967296) +
                                           (IntKind.u64.wrap
                                                 (lo *
                                                   2 ^
                                                     min (IntKind.u64.wrap (IntKind.i64.wrap (64 - lenI y))).toNat 64)).fdiv
                                             4294967296) -
                                       IntKind.u64.wrap
                                         (kq
                                             ((IntKind.u64.wrap
                                                   (y *
                                                     2 ^
                                                       min (IntKind.u64.wrap (IntKind.i64.wrap (64 - lenI y))).toNat
                                                         64)).fdiv
                                               4294967296)
                                             (bits BinOp.and IntKind.u64
                                               (IntKind.u64.wrap
                                                 (y * 2 ^ min (IntKind.u64.wrap (IntKind.i64.wrap (64 - lenI y))).toNat 64))
                                               4294967295)
                                             (bits BinOp.or IntKind.u64
                                               (IntKind.u64.wrap
                                                 (hi * 2 ^ min (IntKind.u64.wrap (IntKind.i64.wrap (64 - lenI y))).toNat 64))
                                               (lo.fdiv
                                                 (2 ^
                                                   min
                                                     (IntKind.u64.wrap
                                                         (64 - IntKind.u64.wrap (IntKind.i64.wrap (64 - lenI y)))).toNat
                                                     64)))
                                             ((IntKind.u64.wrap
                                                   (lo *
                                                     2 ^
                                                       min (IntKind.u64.wrap (IntKind.i64.wrap (64 - lenI y))).toNat
                                                         64)).fdiv
                                               4294967296) *
                                           IntKind.u64.wrap
                                             (y * 2 ^ min (IntKind.u64.wrap (IntKind.i64.wrap (64 - lenI y))).toNat 64))) -
                                   IntKind.u64.wrap
                                     (IntKind.u64.wrap
                                         ((IntKind.u64.wrap
                                               (IntKind.u64.wrap
                                                   (IntKind.u64.wrap
                                                       (bits BinOp.or IntKind.u64
                                                           (IntKind.u64.wrap
                                                             (hi *
                                                               2 ^
                                                                 min
                                                                   (IntKind.u64.wrap (IntKind.i64.wrap (64 - lenI y))).toNat
                                                                   64))
                                                           (lo.fdiv
                                                             (2 ^
                                                               min
                                                                 (IntKind.u64.wrap
                                                                     (64 -
                                                                       IntKind.u64.wrap
                                                                         (IntKind.i64.wrap (64 - lenI y)))).toNat
                                                                 64)) *
                                                         4294967296) +
                                                     (IntKind.u64.wrap
                                                           (lo *
                                                             2 ^
                                                               min (IntKind.u64.wrap (IntKind.i64.wrap (64 - lenI y))).toNat
                                                                 64)).fdiv
                                                       4294967296) -
                                                 IntKind.u64.wrap
                                                   (kq
                                                       ((IntKind.u64.wrap
                                                             (y *
                                                               2 ^
                                                                 min
                                                                   (IntKind.u64.wrap (IntKind.i64.wrap (64 - lenI y))).toNat
                                                                   64)).fdiv
                                                         4294967296)
                                                       (bits BinOp.and IntKind.u64
                                                         (IntKind.u64.wrap
                                                           (y *
                                                             2 ^
                                                               min (IntKind.u64.wrap (IntKind.i64.wrap (64 - lenI y))).toNat
                                                                 64))
                                                         4294967295)
                                                       (bits BinOp.or IntKind.u64
                                                         (IntKind.u64.wrap
                                                           (hi *
                                                             2 ^
                                                               min (IntKind.u64.wrap (IntKind.i64.wrap (64 - lenI y))).toNat
                                                                 64))
                                                         (lo.fdiv
                                                           (2 ^
                                                             min
                                                               (IntKind.u64.wrap
                                                                   (64 -
                                                                     IntKind.u64.wrap
                                                                       (IntKind.i64.wrap (64 - lenI y)))).toNat
                                                               64)))
                                                       ((IntKind.u64.wrap
                                                             (lo *
                                                               2 ^
                                                                 min
                                                                   (IntKind.u64.wrap (IntKind.i64.wrap (64 - lenI y))).toNat
                                                                   64)).fdiv
                                                         4294967296) *
                                                     IntKind.u64.wrap
                                                       (y *
                                                         2 ^
                                                           min (IntKind.u64.wrap (IntKind.i64.wrap (64 - lenI y))).toNat
                                                             64)))).tdiv
                                           ((IntKind.u64.wrap
                                                 (y *
                                                   2 ^
                                                     min (IntKind.u64.wrap (IntKind.i64.wrap (64 - lenI y))).toNat 64)).fdiv
                                             4294967296)) *
                                       (IntKind.u64.wrap
                                             (y * 2 ^ min (IntKind.u64.wrap (IntKind.i64.wrap (64 - lenI y))).toNat 64)).fdiv
                                         4294967296))) then
                           bif decide (IntKind.u64.wrap (IntKind.i64.wrap (64 - lenI y)) < 0) then none
                           else
                             some
                               (Res.ret
                                 (Value.tuple
                                   {
                                     toList :=
                                       [Value.int IntKind.u64
                                           (IntKind.u64.wrap
                                             (IntKind.u64.wrap
                                                 (kq
                                                     ((IntKind.u64.wrap
                                                           (y *
                                                             2 ^
                                                               min (IntKind.u64.wrap (IntKind.i64.wrap (64 - lenI y))).toNat
                                                                 64)).fdiv
                                                       4294967296)
                                                     (bits BinOp.and IntKind.u64
                                                       (IntKind.u64.wrap
                                                         (y *
                                                           2 ^
                                                             min (IntKind.u64.wrap (IntKind.i64.wrap (64 - lenI y))).toNat
                                                               64))
                                                       4294967295)
                                                     (bits BinOp.or IntKind.u64
                                                       (IntKind.u64.wrap
                                                         (hi *
                                                           2 ^
                                                             min (IntKind.u64.wrap (IntKind.i64.wrap (64 - lenI y))).toNat
                                                               64))
                                                       (lo.fdiv
                                                         (2 ^
                                                           min
                                                             (IntKind.u64.wrap
                                                                 (64 -
                                                                   IntKind.u64.wrap (IntKind.i64.wrap (64 - lenI y)))).toNat
                                                             64)))
                                                     ((IntKind.u64.wrap
                                                           (lo *
                                                             2 ^
                                                               min (IntKind.u64.wrap (IntKind.i64.wrap (64 - lenI y))).toNat
                                                                 64)).fdiv
                                                       4294967296) *
                                                   4294967296) +
                                               kq
                                                 ((IntKind.u64.wrap
                                                       (y *
                                                         2 ^
                                                           min (IntKind.u64.wrap (IntKind.i64.wrap (64 - lenI y))).toNat
                                                             64)).fdiv
                                                   4294967296)
                                                 (bits BinOp.and IntKind.u64
                                                   (IntKind.u64.wrap
                                                     (y *
                                                       2 ^ min (IntKind.u64.wrap (IntKind.i64.wrap (64 - lenI y))).toNat 64))
                                                   4294967295)
                                                 (IntKind.u64.wrap
                                                   (IntKind.u64.wrap
                                                       (IntKind.u64.wrap
                                                           (bits BinOp.or IntKind.u64
                                                               (IntKind.u64.wrap
                                                                 (hi *
                                                                   2 ^
                                                                     min
                                                                       (IntKind.u64.wrap
                                                                           (IntKind.i64.wrap (64 - lenI y))).toNat
                                                                       64))
                                                               (lo.fdiv
                                                                 (2 ^
                                                                   min
                                                                     (IntKind.u64.wrap
                                                                         (64 -
                                                                           IntKind.u64.wrap
                                                                             (IntKind.i64.wrap (64 - lenI y)))).toNat
                                                                     64)) *
                                                             4294967296) +
                                                         (IntKind.u64.wrap
                                                               (lo *
                                                                 2 ^
                                                                   min
                                                                     (IntKind.u64.wrap
                                                                         (IntKind.i64.wrap (64 - lenI y))).toNat
                                                                     64)).fdiv
                                                           4294967296) -
                                                     IntKind.u64.wrap
                                                       (kq
                                                           ((IntKind.u64.wrap
                                                                 (y *
                                                                   2 ^
                                                                     min
                                                                       (IntKind.u64.wrap
                                                                           (IntKind.i64.wrap (64 - lenI y))).toNat
                                                                       64)).fdiv
                                                             4294967296)
                                                           (bits BinOp.and IntKind.u64
                                                             (IntKind.u64.wrap
                                                               (y *
                                                                 2 ^
                                                                   min
                                                                     (IntKind.u64.wrap
                                                                         (IntKind.i64.wrap (64 - lenI y))).toNat
                                                                     64))
                                                             4294967295)
                                                           (bits BinOp.or IntKind.u64
                                                             (IntKind.u64.wrap
                                                               (hi *
                                                                 2 ^
                                                                   min
                                                                     (IntKind.u64.wrap
                                                                         (IntKind.i64.wrap (64 - lenI y))).toNat
                                                                     64))
                                                             (lo.fdiv
                                                               (2 ^
                                                                 min
                                                                   (IntKind.u64.wrap
                                                                       (64 -
                                                                         IntKind.u64.wrap
                                                                           (IntKind.i64.wrap (64 - lenI y)))).toNat
                                                                   64)))
                                                           ((IntKind.u64.wrap
                                                                 (lo *
                                                                   2 ^
                                                                     min
                                                                       (IntKind.u64.wrap
                                                                           (IntKind.i64.wrap (64 - lenI y))).toNat
                                                                       64)).fdiv
                                                             4294967296) *
                                                         IntKind.u64.wrap
                                                           (y *
                                                             2 ^
                                                               min (IntKind.u64.wrap (IntKind.i64.wrap (64 - lenI y))).toNat
                                                                 64))))
                                                 (bits BinOp.and IntKind.u64
                                                   (IntKind.u64.wrap
                                                     (lo *
                                                       2 ^ min (IntKind.u64.wrap (IntKind.i64.wrap (64 - lenI y))).toNat 64))
                                                   4294967295))),
                                         Value.int IntKind.u64
                                           ((IntKind.u64.wrap
                                                 (IntKind.u64.wrap
                                                     (IntKind.u64.wrap
                                                         (IntKind.u64.wrap
                                                             (IntKind.u64.wrap
                                                                 (IntKind.u64.wrap
                                                                     (bits BinOp.or IntKind.u64
                                                                         (IntKind.u64.wrap
                                                                           (hi *
                                                                             2 ^
                                                                               min
                                                                                 (IntKind.u64.wrap
                                                                                     (IntKind.i64.wrap (64 - lenI y))).toNat
                                                                                 64))
                                                                         (lo.fdiv
                                                                           (2 ^
                                                                             min
                                                                               (IntKind.u64.wrap
                                                                                   (64 -
                                                                                     IntKind.u64.wrap
                                                                                       (IntKind.i64.wrap
                                                                                         (64 - lenI y)))).toNat
                                                                               64)) *
                                                                       4294967296) +
                                                                   (IntKind.u64.wrap
                                                                         (lo *
                                                                           2 ^
                                                                             min
                                                                               (IntKind.u64.wrap
                                                                                   (IntKind.i64.wrap (64 - lenI y))).toNat
                                                                               64)).fdiv
                                                                     4294967296) -
                                                               IntKind.u64.wrap
                                                                 (kq
                                                                     ((IntKind.u64.wrap
                                                                           (y *
                                                                             2 ^
                                                                               min
                                                                                 (IntKind.u64.wrap
                                                                                     (IntKind.i64.wrap (64 - lenI y))).toNat
                                                                                 64)).fdiv
                                                                       4294967296)
                                                                     (bits BinOp.and IntKind.u64
                                                                       (IntKind.u64.wrap
                                                                         (y *
                                                                           2 ^
                                                                             min
                                                                               (IntKind.u64.wrap
                                                                                   (IntKind.i64.wrap (64 - lenI y))).toNat
                                                                               64))
                                                                       4294967295)
                                                                     (bits BinOp.or IntKind.u64
                                                                       (IntKind.u64.wrap
                                                                         (hi *
                                                                           2 ^
                                                                             min
                                                                               (IntKind.u64.wrap
                                                                                   (IntKind.i64.wrap (64 - lenI y))).toNat
                                                                               64))
                                                                       (lo.fdiv
                                                                         (2 ^
                                                                           min
                                                                             (IntKind.u64.wrap
                                                                                 (64 -
                                                                                   IntKind.u64.wrap
                                                                                     (IntKind.i64.wrap (64 - lenI y)))).toNat
                                                                             64)))
                                                                     ((IntKind.u64.wrap
                                                                           (lo *
                                                                             2 ^
                                                                               min
                                                                                 (IntKind.u64.wrap
                                                                                     (IntKind.i64.wrap (64 - lenI y))).toNat
                                                                                 64)).fdiv
                                                                       4294967296) *
                                                                   IntKind.u64.wrap
                                                                     (y *
                                                                       2 ^
                                                                         min
                                                                           (IntKind.u64.wrap
                                                                               (IntKind.i64.wrap (64 - lenI y))).toNat
                                                                           64))) *
                                                           4294967296) +
                                                       bits BinOp.and IntKind.u64
                                                         (IntKind.u64.wrap
                                                           (lo *
                                                             2 ^
                                                               min (IntKind.u64.wrap (IntKind.i64.wrap (64 - lenI y))).toNat
                                                                 64))
                                                         4294967295) -
                                                   IntKind.u64.wrap
                                                     (kq
                                                         ((IntKind.u64.wrap
                                                               (y *
                                                                 2 ^
                                                                   min
                                                                     (IntKind.u64.wrap
                                                                         (IntKind.i64.wrap (64 - lenI y))).toNat
                                                                     64)).fdiv
                                                           4294967296)
                                                         (bits BinOp.and IntKind.u64
                                                           (IntKind.u64.wrap
                                                             (y *
                                                               2 ^
                                                                 min
                                                                   (IntKind.u64.wrap (IntKind.i64.wrap (64 - lenI y))).toNat
                                                                   64))
                                                           4294967295)
                                                         (IntKind.u64.wrap
                                                           (IntKind.u64.wrap
                                                               (IntKind.u64.wrap
                                                                   (bits BinOp.or IntKind.u64
                                                                       (IntKind.u64.wrap
                                                                         (hi *
                                                                           2 ^
                                                                             min
                                                                               (IntKind.u64.wrap
                                                                                   (IntKind.i64.wrap (64 - lenI y))).toNat
                                                                               64))
                                                                       (lo.fdiv
                                                                         (2 ^
                                                                           min
                                                                             (IntKind.u64.wrap
                                                                                 (64 -
                                                                                   IntKind.u64.wrap
                                                                                     (IntKind.i64.wrap (64 - lenI y)))).toNat
                                                                             64)) *
                                                                     4294967296) +
                                                                 (IntKind.u64.wrap
                                                                       (lo *
                                                                         2 ^
                                                                           min
                                                                             (IntKind.u64.wrap
                                                                                 (IntKind.i64.wrap (64 - lenI y))).toNat
                                                                             64)).fdiv
                                                                   4294967296) -
                                                             IntKind.u64.wrap
                                                               (kq
                                                                   ((IntKind.u64.wrap
                                                                         (y *
                                                                           2 ^
                                                                             min
                                                                               (IntKind.u64.wrap
                                                                                   (IntKind.i64.wrap (64 - lenI y))).toNat
                                                                               64)).fdiv
                                                                     4294967296)
                                                                   (bits BinOp.and IntKind.u64
                                                                     (IntKind.u64.wrap
                                                                       (y *
                                                                         2 ^
                                                                           min
                                                                             (IntKind.u64.wrap
                                                                                 (IntKind.i64.wrap (64 - lenI y))).toNat
                                                                             64))
                                                                     4294967295)
                                                                   (bits BinOp.or IntKind.u64
                                                                     (IntKind.u64.wrap
                                                                       (hi *
                                                                         2 ^
                                                                           min
                                                                             (IntKind.u64.wrap
                                                                                 (IntKind.i64.wrap (64 - lenI y))).toNat
                                                                             64))
                                                                     (lo.fdiv
                                                                       (2 ^
                                                                         min
                                                                           (IntKind.u64.wrap
                                                                               (64 -
                                                                                 IntKind.u64.wrap
                                                                                   (IntKind.i64.wrap (64 - lenI y)))).toNat
                                                                           64)))
                                                                   ((IntKind.u64.wrap
                                                                         (lo *
                                                                           2 ^
                                                                             min
                                                                               (IntKind.u64.wrap
                                                                                   (IntKind.i64.wrap (64 - lenI y))).toNat
                                                                               64)).fdiv
                                                                     4294967296) *
                                                                 IntKind.u64.wrap
                                                                   (y *
                                                                     2 ^
                                                                       min
                                                                         (IntKind.u64.wrap
                                                                             (IntKind.i64.wrap (64 - lenI y))).toNat
                                                                         64))))
                                                         (bits BinOp.and IntKind.u64
                                                           (IntKind.u64.wrap
                                                             (lo *
                                                               2 ^
                                                                 min
                                                                   (IntKind.u64.wrap (IntKind.i64.wrap (64 - lenI y))).toNat
                                                                   64))
                                                           4294967295) *
                                                       IntKind.u64.wrap
                                                         (y *
                                                           2 ^
                                                             min (IntKind.u64.wrap (IntKind.i64.wrap (64 - lenI y))).toNat
                                                               64)))).fdiv
                                             (2 ^ min (IntKind.u64.wrap (IntKind.i64.wrap (64 - lenI y))).toNat 64))] })
                                 [])
                         else none
                     else none) := by kernel_rfl
--CFEND

/-- A digit's search: at most two steps. -/
theorem KOK.search {v1 v0 un a q r : Int} (h : KOK v1 v0 un a q r) {α : Type} {F : Int → Int → α} {z : α} {X : α}
    (hz : F (kq v1 v0 un a) (un - kq v1 v0 un a * v1) = z) :
    (bif decide (q ≥ 4294967296) then
       bif decide (IntKind.u64.wrap (r + v1) ≥ 4294967296) then F (IntKind.u64.wrap (q - 1)) (IntKind.u64.wrap (r + v1))
       else
         bif decide (IntKind.u64.wrap (q - 1) ≥ 4294967296) then
           bif decide (IntKind.u64.wrap (IntKind.u64.wrap (r + v1) + v1) ≥ 4294967296) then F (IntKind.u64.wrap (IntKind.u64.wrap (q - 1) - 1)) (IntKind.u64.wrap (IntKind.u64.wrap (r + v1) + v1))
           else X
         else
           bif decide (IntKind.u64.wrap (IntKind.u64.wrap (q - 1) * v0) > IntKind.u64.wrap (IntKind.u64.wrap (4294967296 * IntKind.u64.wrap (r + v1)) + a)) then
             bif decide (IntKind.u64.wrap (IntKind.u64.wrap (r + v1) + v1) ≥ 4294967296) then F (IntKind.u64.wrap (IntKind.u64.wrap (q - 1) - 1)) (IntKind.u64.wrap (IntKind.u64.wrap (r + v1) + v1))
             else X
           else F (IntKind.u64.wrap (q - 1)) (IntKind.u64.wrap (r + v1))
     else
       bif decide (IntKind.u64.wrap (q * v0) > IntKind.u64.wrap (IntKind.u64.wrap (4294967296 * r) + a)) then
         bif decide (IntKind.u64.wrap (r + v1) ≥ 4294967296) then F (IntKind.u64.wrap (q - 1)) (IntKind.u64.wrap (r + v1))
         else
           bif decide (IntKind.u64.wrap (q - 1) ≥ 4294967296) then
             bif decide (IntKind.u64.wrap (IntKind.u64.wrap (r + v1) + v1) ≥ 4294967296) then F (IntKind.u64.wrap (IntKind.u64.wrap (q - 1) - 1)) (IntKind.u64.wrap (IntKind.u64.wrap (r + v1) + v1))
             else X
           else
             bif decide (IntKind.u64.wrap (IntKind.u64.wrap (q - 1) * v0) > IntKind.u64.wrap (IntKind.u64.wrap (4294967296 * IntKind.u64.wrap (r + v1)) + a)) then
               bif decide (IntKind.u64.wrap (IntKind.u64.wrap (r + v1) + v1) ≥ 4294967296) then F (IntKind.u64.wrap (IntKind.u64.wrap (q - 1) - 1)) (IntKind.u64.wrap (IntKind.u64.wrap (r + v1) + v1))
               else X
             else F (IntKind.u64.wrap (q - 1)) (IntKind.u64.wrap (r + v1))
       else F q r) = z := by
  obtain ⟨q0, q1, r0, r1, hu⟩ := h.qb
  obtain ⟨k1, k2, k3⟩ := h.above
  have V1 := h.v1a
  have V2 := h.v1b
  have A1 := h.aa
  have A2 := h.ab
  have p0 := h.prod q0 q1
  -- the leaves
  have leaf : ∀ {x y : Int}, un = x * v1 + y → x = kq v1 v0 un a → F x y = z := by
    intro x y e1 e2
    subst e2
    rw [← hz]
    congr 1
    omega
  have e1 : IntKind.u64.wrap (r + v1) = r + v1 := wu64 (by omega) (by omega)
  rw [e1]
  have s1 : un = (q - 1) * v1 + (r + v1) := by rw [Int.sub_mul]; omega
  have s2 : un = (q - 1 - 1) * v1 + (r + v1 + v1) := by rw [Int.sub_mul, Int.sub_mul]; omega
  have t0 := h.test k1 hu
  -- behind one step
  have step : kq v1 v0 un a ≤ q - 1 →
      (bif decide (r + v1 ≥ 4294967296) then F (IntKind.u64.wrap (q - 1)) (r + v1)
       else
         bif decide (IntKind.u64.wrap (q - 1) ≥ 4294967296) then
           bif decide (IntKind.u64.wrap (r + v1 + v1) ≥ 4294967296) then F (IntKind.u64.wrap (IntKind.u64.wrap (q - 1) - 1)) (IntKind.u64.wrap (r + v1 + v1))
           else X
         else
           bif decide (IntKind.u64.wrap (IntKind.u64.wrap (q - 1) * v0) > IntKind.u64.wrap (IntKind.u64.wrap (4294967296 * (r + v1)) + a)) then
             bif decide (IntKind.u64.wrap (r + v1 + v1) ≥ 4294967296) then F (IntKind.u64.wrap (IntKind.u64.wrap (q - 1) - 1)) (IntKind.u64.wrap (r + v1 + v1))
             else X
           else F (IntKind.u64.wrap (q - 1)) (r + v1)) = z := by
    intro hk
    have e2 : IntKind.u64.wrap (q - 1) = q - 1 := wu64 (by omega) (by omega)
    rw [e2]
    have t1 := h.test hk s1
    have p1 := h.prod (x := q - 1) (by omega) (by omega)
    have p2 := h.prod2 (x := q - 1) (by omega) (by omega)
    have e5 : IntKind.u64.wrap (r + v1 + v1) = r + v1 + v1 := wu64 (by omega) (by omega)
    have two : (kq v1 v0 un a ≤ q - 1 - 1) → F (IntKind.u64.wrap (q - 1 - 1)) (r + v1 + v1) = z := by
      intro hk2
      rw [wu64 (x := q - 1 - 1) (by omega) (by omega)]
      refine leaf s2 ?_
      have p3 := h.prod2 (x := q - 1 - 1) (by omega) (by omega)
      exact (h.test hk2 s2).1 (by omega) (by generalize (q - 1 - 1) * v0 = p at *; omega)
    refine dc (fun c1 => ?_) (fun c1 => ?_)
    · refine leaf s1 (t1.1 ?_ ?_)
      · refine Int.not_le.1 fun hc => ?_
        have p3 := Int.mul_le_mul_of_nonneg_right hc (show 0 ≤ v1 by omega)
        have := h.ub
        have := h.v0b
        generalize (q - 1) * v1 = p at *
        omega
      · generalize (q - 1) * v0 = p at *; omega
    · have e3 : IntKind.u64.wrap ((q - 1) * v0) = (q - 1) * v0 := wu64 p1.1 p1.2
      have e4 : IntKind.u64.wrap (IntKind.u64.wrap (4294967296 * (r + v1)) + a) = 4294967296 * (r + v1) + a := by
        rw [wu64 (x := 4294967296 * (r + v1)) (by omega) (by omega), wu64 (by omega) (by omega)]
      rw [e3, e4, e5]
      have big : r + v1 + v1 ≥ 4294967296 := by omega
      refine dc (fun c2 => ?_) (fun c2 => ?_)
      · rw [decide_eq_true big]; exact two (t1.2 (.inl c2))
      · refine dc (fun c3 => ?_) (fun c3 => ?_)
        · rw [decide_eq_true big]; exact two (t1.2 (.inr c3))
        · exact leaf s1 (t1.1 (by omega) (by omega))
  refine dc (fun c1 => step (t0.2 (.inl c1))) (fun c1 => ?_)
  have e3 : IntKind.u64.wrap (q * v0) = q * v0 := wu64 p0.1 p0.2
  have e4 : IntKind.u64.wrap (IntKind.u64.wrap (4294967296 * r) + a) = 4294967296 * r + a := by
    rw [wu64 (x := 4294967296 * r) (by omega) (by omega), wu64 (by omega) (by omega)]
  rw [e3, e4]
  refine dc (fun c2 => step (t0.2 (.inr c2))) (fun c2 => ?_)
  exact leaf hu (t0.1 (by omega) (by omega))

theorem spec115 : SpecOK Try.prog (mkS [(118, false, F118)]) := mkS_cons ok118 (mkS_nil _)

theorem loop115a : LoopOK Try.prog Try.f115.ntmps 0 (loopOf Try.f115 0) live1 F115a := by
  refine LoopOK.of_rounds spec115 follows_ok (L := noL) noL_ok ?_
  intro vs h k out hF
  unfold F115a at hF
  split at hF
  · rename_i y s v1 v0 un a b q r
    cases hb : knuthB v1 v0 un a q r with
    | false => rw [hb] at hF; cases hF
    | true =>
      rw [hb] at hF
      refine ⟨_, _, _, hF, fun real => ⟨2, ?_⟩⟩
      rw [cf115c]
      exact (knuthB_iff.1 hb).search (F := fun x y' => some (Res.at (.exit 0) [(2, some (u y)), (8, some (u s)), (9, some (u v1)), (10, some (u v0)), (11, some (u un)), (13, some (u a)), (14, some (u b)), (15, some (u x)), (16, some (u y'))] [])) rfl
  · cases hF

theorem loop115b : LoopOK Try.prog Try.f115.ntmps 0 (loopOf Try.f115 1) live2 F115b := by
  refine LoopOK.of_rounds spec115 follows_ok (L := noL) noL_ok ?_
  intro vs h k out hF
  unfold F115b at hF
  split at hF
  · rename_i y s v1 v0 b q1 r un q
    cases hb : knuthB v1 v0 un b q r with
    | false => rw [hb] at hF; cases hF
    | true =>
      rw [hb] at hF
      refine ⟨_, _, _, hF, fun real => ⟨2, ?_⟩⟩
      rw [cf115b]
      exact (knuthB_iff.1 hb).search (F := fun x y' => some (Res.at (.exit 2) [(2, some (u y)), (8, some (u s)), (9, some (u v1)), (10, some (u v0)), (14, some (u b)), (15, some (u q1)), (16, some (u y')), (17, some (u un)), (18, some (u x))] [])) rfl
  · cases hF

theorem loops115 : LoopsOK Try.prog L115 Try.f115.ntmps 0 (bodyOf Try.f115) := by
  have hl : loops (bodyOf Try.f115) = [loopOf Try.f115 0, loopOf Try.f115 1] := by kernel_rfl
  intro body hb live f hL
  rw [hl] at hb
  rcases List.mem_cons.1 hb with rfl | hb
  · have e : (loopKey (loopOf Try.f115 0)).bind L115 = some (live1, F115a) := by kernel_rfl
    rw [e] at hL
    cases hL
    exact loop115a
  · rcases List.mem_cons.1 hb with rfl | hb
    · have e : (loopKey (loopOf Try.f115 1)).bind L115 = some (live2, F115b) := by kernel_rfl
      rw [e] at hL
      cases hL
      exact loop115b
    · cases hb
end Go.Proofs.Ytfgehfnlkakioaa.VC

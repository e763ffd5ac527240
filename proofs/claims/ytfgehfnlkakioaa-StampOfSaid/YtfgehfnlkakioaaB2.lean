/- math/bits: what the functions compute. -/
import Derived.Test.YtfgehfnlkakioaaProg
import Derived.Test.YtfgehfnlkakioaaV18
import Derived.KernelRfl
namespace Go.Proofs.Ytfgehfnlkakioaa.VC
open Go

/-- Len64's answer. -/
def lenI (x : Int) : Int := if x = 0 then 0 else (x.toNat.log2 : Int) + 1
/-- What is shown of Len64. -/
def F119 : FSpec := fun args h k => match args, h with
  | [.int .u64 x], [] => k (.int .i64 (lenI x)) []
  | _, _ => none
def F118 : FSpec := fun args h k => match args, h with
  | [.int .u64 x], [] => k (.int .i64 (IntKind.i64.wrap (64 - lenI x))) []
  | _, _ => none

def F87 : FSpec := fun args h k => match args, h with
  | [.int .u64 a, .int .u64 b], [] => k (.tuple #[.int .u64 (a * b / 18446744073709551616), .int .u64 (a * b % 18446744073709551616)]) []
  | _, _ => none

/-- The first byte sequence that a piece of code names. -/
def bytesOf : List Oper → Option ByteArray
  | [] => none
  | o :: r => match o.op with
    | .index _ (.const (.string b)) _ => some b
    | _ => bytesOf r
def bytesIn : Code → Option ByteArray
  | .region _ ops _ => bytesOf ops.toList
  | .seq a b => match bytesIn a with
    | some x => some x
    | none => bytesIn b
  | .cond _ a b => match bytesIn a with
    | some x => some x
    | none => bytesIn b
  | _ => none
noncomputable def lit_tab : ByteArray := ((Try.f119.body.bind bytesIn).getD ⟨#[]⟩)

--CF cf119 (x : Int) :: fnK Try.prog (mkS []) noL Try.f119 [.int .u64 x] []
theorem cf119 (x : Int) : fnK Try.prog (mkS []) noL Try.f119 [.int .u64 x] [] =
    (bif decide (x ≥ 4294967296) then
       bif decide (x.fdiv 4294967296 ≥ 65536) then
         bif decide ((x.fdiv 4294967296).fdiv 65536 ≥ 256) then
           bif
               decide (0 ≤ IntKind.u8.wrap (((x.fdiv 4294967296).fdiv 65536).fdiv 256)) &&
                 decide (IntKind.u8.wrap (((x.fdiv 4294967296).fdiv 65536).fdiv 256) < 256) then
             some
               (Res.ret
                 (Value.int IntKind.i64
                   (IntKind.i64.wrap
                     (56 +
                       IntKind.i64.wrap (bt lit_tab (IntKind.u8.wrap (((x.fdiv 4294967296).fdiv 65536).fdiv 256)).toNat))))
                 [])
           else none
         else
           bif
               decide (0 ≤ IntKind.u8.wrap ((x.fdiv 4294967296).fdiv 65536)) &&
                 decide (IntKind.u8.wrap ((x.fdiv 4294967296).fdiv 65536) < 256) then
             some
               (Res.ret
                 (Value.int IntKind.i64
                   (IntKind.i64.wrap
                     (48 + IntKind.i64.wrap (bt lit_tab (IntKind.u8.wrap ((x.fdiv 4294967296).fdiv 65536)).toNat))))
                 [])
           else none
       else
         bif decide (x.fdiv 4294967296 ≥ 256) then
           bif
               decide (0 ≤ IntKind.u8.wrap ((x.fdiv 4294967296).fdiv 256)) &&
                 decide (IntKind.u8.wrap ((x.fdiv 4294967296).fdiv 256) < 256) then
             some
               (Res.ret
                 (Value.int IntKind.i64
                   (IntKind.i64.wrap
                     (40 + IntKind.i64.wrap (bt lit_tab (IntKind.u8.wrap ((x.fdiv 4294967296).fdiv 256)).toNat))))
                 [])
           else none
         else
           bif decide (0 ≤ IntKind.u8.wrap (x.fdiv 4294967296)) && decide (IntKind.u8.wrap (x.fdiv 4294967296) < 256) then
             some
               (Res.ret
                 (Value.int IntKind.i64
                   (IntKind.i64.wrap (32 + IntKind.i64.wrap (bt lit_tab (IntKind.u8.wrap (x.fdiv 4294967296)).toNat))))
                 [])
           else none
     else
       bif decide (x ≥ 65536) then
         bif decide (x.fdiv 65536 ≥ 256) then
           bif
               decide (0 ≤ IntKind.u8.wrap ((x.fdiv 65536).fdiv 256)) &&
                 decide (IntKind.u8.wrap ((x.fdiv 65536).fdiv 256) < 256) then
             some
               (Res.ret
                 (Value.int IntKind.i64
                   (IntKind.i64.wrap (24 + IntKind.i64.wrap (bt lit_tab (IntKind.u8.wrap ((x.fdiv 65536).fdiv 256)).toNat))))
                 [])
           else none
         else
           bif decide (0 ≤ IntKind.u8.wrap (x.fdiv 65536)) && decide (IntKind.u8.wrap (x.fdiv 65536) < 256) then
             some
               (Res.ret
                 (Value.int IntKind.i64
                   (IntKind.i64.wrap (16 + IntKind.i64.wrap (bt lit_tab (IntKind.u8.wrap (x.fdiv 65536)).toNat))))
                 [])
           else none
       else
         bif decide (x ≥ 256) then
           bif decide (0 ≤ IntKind.u8.wrap (x.fdiv 256)) && decide (IntKind.u8.wrap (x.fdiv 256) < 256) then
             some
               (Res.ret
                 (Value.int IntKind.i64
                   (IntKind.i64.wrap (8 + IntKind.i64.wrap (bt lit_tab (IntKind.u8.wrap (x.fdiv 256)).toNat))))
                 [])
           else none
         else
           bif decide (0 ≤ IntKind.u8.wrap x) && decide (IntKind.u8.wrap x < 256) then
             some
               (Res.ret
                 (Value.int IntKind.i64 (IntKind.i64.wrap (0 + IntKind.i64.wrap (bt lit_tab (IntKind.u8.wrap x).toNat)))) [])
           else none) := by kernel_rfl
--CFEND
--CF cf118 (x : Int) :: fnK Try.prog (mkS [(119, false, F119)]) noL Try.f118 [.int .u64 x] []
theorem cf118 (x : Int) : fnK Try.prog (mkS [(119, false, F119)]) noL Try.f118 [.int .u64 x] [] =
    (some (Res.ret (Value.int IntKind.i64 (IntKind.i64.wrap (64 - lenI x))) [])) := by kernel_rfl
--CFEND
--CF cf87 (a b : Int) :: fnK Try.prog (mkS []) noL Try.f87 [.int .u64 a, .int .u64 b] []
theorem cf87 (a b : Int) : fnK Try.prog (mkS []) noL Try.f87 [.int .u64 a, .int .u64 b] [] =
    (some
       (Res.ret
         (Value.tuple
           {
             toList :=
               [Value.int IntKind.u64
                   (IntKind.u64.wrap
                     (IntKind.u64.wrap
                         (IntKind.u64.wrap (a.fdiv 4294967296 * b.fdiv 4294967296) +
                           (IntKind.u64.wrap
                                 (IntKind.u64.wrap (a.fdiv 4294967296 * bits BinOp.and IntKind.u64 b 4294967295) +
                                   (IntKind.u64.wrap
                                         (bits BinOp.and IntKind.u64 a 4294967295 *
                                           bits BinOp.and IntKind.u64 b 4294967295)).fdiv
                                     4294967296)).fdiv
                             4294967296) +
                       (IntKind.u64.wrap
                             (bits BinOp.and IntKind.u64
                                 (IntKind.u64.wrap
                                   (IntKind.u64.wrap (a.fdiv 4294967296 * bits BinOp.and IntKind.u64 b 4294967295) +
                                     (IntKind.u64.wrap
                                           (bits BinOp.and IntKind.u64 a 4294967295 *
                                             bits BinOp.and IntKind.u64 b 4294967295)).fdiv
                                       4294967296))
                                 4294967295 +
                               IntKind.u64.wrap (bits BinOp.and IntKind.u64 a 4294967295 * b.fdiv 4294967296))).fdiv
                         4294967296)),
                 Value.int IntKind.u64 (IntKind.u64.wrap (a * b))] })
         [])) := by kernel_rfl
--CFEND

/-- The bodies of a function's loops. -/
def loopOf (fn : Func) (i : Nat) : Code := match fn.body with
  | some c => ((loops c)[i]?).getD .skip
  | none => .skip
--CF cf115a (y s v1 v0 u a b q r : Int) :: loopN Try.prog (mkS []) noL Try.f115.ntmps 0 (loopOf Try.f115 0) [2, 8, 9, 10, 11, 13, 14, 15, 16] 2 [.int .u64 y, .int .u64 s, .int .u64 v1, .int .u64 v0, .int .u64 u, .int .u64 a, .int .u64 b, .int .u64 q, .int .u64 r] [] (fun e vs h => some (.at e (zipS [2, 8, 9, 10, 11, 13, 14, 15, 16] vs) h))
theorem cf115a (y s v1 v0 u a b q r : Int) : loopN Try.prog (mkS []) noL Try.f115.ntmps 0 (loopOf Try.f115 0) [2, 8, 9, 10, 11, 13, 14, 15, 16] 2 [.int .u64 y, .int .u64 s, .int .u64 v1, .int .u64 v0, .int .u64 u, .int .u64 a, .int .u64 b, .int .u64 q, .int .u64 r] [] (fun e vs h => some (.at e (zipS [2, 8, 9, 10, 11, 13, 14, 15, 16] vs) h)) =
    (bif decide (q ≥ 4294967296) then
       bif decide (IntKind.u64.wrap (r + v1) ≥ 4294967296) then
         some
           (Res.at (Exit.exit 0)
             [(2, some (Value.int IntKind.u64 y)), (8, some (Value.int IntKind.u64 s)), (9, some (Value.int IntKind.u64 v1)),
               (10, some (Value.int IntKind.u64 v0)), (11, some (Value.int IntKind.u64 u)),
               (13, some (Value.int IntKind.u64 a)), (14, some (Value.int IntKind.u64 b)),
               (15, some (Value.int IntKind.u64 (IntKind.u64.wrap (q - 1)))),
               (16, some (Value.int IntKind.u64 (IntKind.u64.wrap (r + v1))))]
             [])
       else
         bif decide (IntKind.u64.wrap (q - 1) ≥ 4294967296) then
           bif decide (IntKind.u64.wrap (IntKind.u64.wrap (r + v1) + v1) ≥ 4294967296) then
             some
               (Res.at (Exit.exit 0)
                 [(2, some (Value.int IntKind.u64 y)), (8, some (Value.int IntKind.u64 s)),
                   (9, some (Value.int IntKind.u64 v1)), (10, some (Value.int IntKind.u64 v0)),
                   (11, some (Value.int IntKind.u64 u)), (13, some (Value.int IntKind.u64 a)),
                   (14, some (Value.int IntKind.u64 b)),
                   (15, some (Value.int IntKind.u64 (IntKind.u64.wrap (IntKind.u64.wrap (q - 1) - 1)))),
                   (16, some (Value.int IntKind.u64 (IntKind.u64.wrap (IntKind.u64.wrap (r + v1) + v1))))]
                 [])
           else none
         else
           bif
               decide
                 (IntKind.u64.wrap (IntKind.u64.wrap (q - 1) * v0) >
                   IntKind.u64.wrap (IntKind.u64.wrap (4294967296 * IntKind.u64.wrap (r + v1)) + a)) then
             bif decide (IntKind.u64.wrap (IntKind.u64.wrap (r + v1) + v1) ≥ 4294967296) then
               some
                 (Res.at (Exit.exit 0)
                   [(2, some (Value.int IntKind.u64 y)), (8, some (Value.int IntKind.u64 s)),
                     (9, some (Value.int IntKind.u64 v1)), (10, some (Value.int IntKind.u64 v0)),
                     (11, some (Value.int IntKind.u64 u)), (13, some (Value.int IntKind.u64 a)),
                     (14, some (Value.int IntKind.u64 b)),
                     (15, some (Value.int IntKind.u64 (IntKind.u64.wrap (IntKind.u64.wrap (q - 1) - 1)))),
                     (16, some (Value.int IntKind.u64 (IntKind.u64.wrap (IntKind.u64.wrap (r + v1) + v1))))]
                   [])
             else none
           else
             some
               (Res.at (Exit.exit 0)
                 [(2, some (Value.int IntKind.u64 y)), (8, some (Value.int IntKind.u64 s)),
                   (9, some (Value.int IntKind.u64 v1)), (10, some (Value.int IntKind.u64 v0)),
                   (11, some (Value.int IntKind.u64 u)), (13, some (Value.int IntKind.u64 a)),
                   (14, some (Value.int IntKind.u64 b)), (15, some (Value.int IntKind.u64 (IntKind.u64.wrap (q - 1)))),
                   (16, some (Value.int IntKind.u64 (IntKind.u64.wrap (r + v1))))]
                 [])
     else
       bif decide (IntKind.u64.wrap (q * v0) > IntKind.u64.wrap (IntKind.u64.wrap (4294967296 * r) + a)) then
         bif decide (IntKind.u64.wrap (r + v1) ≥ 4294967296) then
           some
             (Res.at (Exit.exit 0)
               [(2, some (Value.int IntKind.u64 y)), (8, some (Value.int IntKind.u64 s)),
                 (9, some (Value.int IntKind.u64 v1)), (10, some (Value.int IntKind.u64 v0)),
                 (11, some (Value.int IntKind.u64 u)), (13, some (Value.int IntKind.u64 a)),
                 (14, some (Value.int IntKind.u64 b)), (15, some (Value.int IntKind.u64 (IntKind.u64.wrap (q - 1)))),
                 (16, some (Value.int IntKind.u64 (IntKind.u64.wrap (r + v1))))]
               [])
         else
           bif decide (IntKind.u64.wrap (q - 1) ≥ 4294967296) then
             bif decide (IntKind.u64.wrap (IntKind.u64.wrap (r + v1) + v1) ≥ 4294967296) then
               some
                 (Res.at (Exit.exit 0)
                   [(2, some (Value.int IntKind.u64 y)), (8, some (Value.int IntKind.u64 s)),
                     (9, some (Value.int IntKind.u64 v1)), (10, some (Value.int IntKind.u64 v0)),
                     (11, some (Value.int IntKind.u64 u)), (13, some (Value.int IntKind.u64 a)),
                     (14, some (Value.int IntKind.u64 b)),
                     (15, some (Value.int IntKind.u64 (IntKind.u64.wrap (IntKind.u64.wrap (q - 1) - 1)))),
                     (16, some (Value.int IntKind.u64 (IntKind.u64.wrap (IntKind.u64.wrap (r + v1) + v1))))]
                   [])
             else none
           else
             bif
                 decide
                   (IntKind.u64.wrap (IntKind.u64.wrap (q - 1) * v0) >
                     IntKind.u64.wrap (IntKind.u64.wrap (4294967296 * IntKind.u64.wrap (r + v1)) + a)) then
               bif decide (IntKind.u64.wrap (IntKind.u64.wrap (r + v1) + v1) ≥ 4294967296) then
                 some
                   (Res.at (Exit.exit 0)
                     [(2, some (Value.int IntKind.u64 y)), (8, some (Value.int IntKind.u64 s)),
                       (9, some (Value.int IntKind.u64 v1)), (10, some (Value.int IntKind.u64 v0)),
                       (11, some (Value.int IntKind.u64 u)), (13, some (Value.int IntKind.u64 a)),
                       (14, some (Value.int IntKind.u64 b)),
                       (15, some (Value.int IntKind.u64 (IntKind.u64.wrap (IntKind.u64.wrap (q - 1) - 1)))),
                       (16, some (Value.int IntKind.u64 (IntKind.u64.wrap (IntKind.u64.wrap (r + v1) + v1))))]
                     [])
               else none
             else
               some
                 (Res.at (Exit.exit 0)
                   [(2, some (Value.int IntKind.u64 y)), (8, some (Value.int IntKind.u64 s)),
                     (9, some (Value.int IntKind.u64 v1)), (10, some (Value.int IntKind.u64 v0)),
                     (11, some (Value.int IntKind.u64 u)), (13, some (Value.int IntKind.u64 a)),
                     (14, some (Value.int IntKind.u64 b)), (15, some (Value.int IntKind.u64 (IntKind.u64.wrap (q - 1)))),
                     (16, some (Value.int IntKind.u64 (IntKind.u64.wrap (r + v1))))]
                   [])
       else
         some
           (Res.at (Exit.exit 0)
             [(2, some (Value.int IntKind.u64 y)), (8, some (Value.int IntKind.u64 s)), (9, some (Value.int IntKind.u64 v1)),
               (10, some (Value.int IntKind.u64 v0)), (11, some (Value.int IntKind.u64 u)),
               (13, some (Value.int IntKind.u64 a)), (14, some (Value.int IntKind.u64 b)),
               (15, some (Value.int IntKind.u64 q)), (16, some (Value.int IntKind.u64 r))]
             [])) := by kernel_rfl
--CFEND
end Go.Proofs.Ytfgehfnlkakioaa.VC

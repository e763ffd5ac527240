/- packet: the document's Encode, Decode, Mode. -/
import Derived.Test.YtpidmcpnkfgcjaaK3
namespace Go.Proofs.Ytpidmcpnkfgcjaa.VC
open Go Go.Proofs

def FLarge : FSpec := fun args h k => match args, h with
  | [.int .i8 x], [] => k (u8v (x % 256)) []
  | _, _ => none
noncomputable def SLay : Spec := mkS [(49, true, FLay), (48, false, FLarge)]
def liveREnc : List Nat := [4, 1, 5]
/-- A packet in memory. -/
abbrev pkB (own : Bool) (p : Pk) : Option Blk := some ⟨own, 16, [.ints .u8 4 [p.l, p.v, p.m, p.s], .ints .i8 2 [p.po, p.pr], .ints .u32 2 [p.de, p.di], .ints .u8 4 [p.r0, p.r1, p.r2, p.r3], .ints .u64 4 [p.a, p.b, p.c, p.d]]⟩
--CP pREncL (p : Pk) (xs : List Int) (k : Exit → List Value → Heap → Out) :: loopN Try.prog SLay noL Try.f22.ntmps 0 (loopOf Try.f22 0) liveREnc 5 [sl 0 48 0, pt 1, w63 0] [oU 48 xs, pkB true p] k
theorem pREncL (p : Pk) (xs : List Int) (k : Exit → List Value → Heap → Out) : loopN Try.prog SLay noL Try.f22.ntmps 0 (loopOf Try.f22 0) liveREnc 5 [sl 0 48 0, pt 1, w63 0] [oU 48 xs, pkB true p] k =
     (k (Exit.exit (0 : Nat)) [Value.slice (some (Addr.mk (0 : Nat) (0 : Nat) none)) (48 : Nat) (0 : Nat), Value.pointer (some (Addr.mk (1 : Nat) (0 : Nat) none)), Value.int IntKind.i64 (4 : Int)] [some
     (Blk.mk true (1 : Nat) [Seg.ints IntKind.u8 (48 : Nat) ((((xs.set (12 : Nat) p.r0).set (13 : Nat) p.r1).set (14 : Nat) p.r2).set (15 : Nat) p.r3)]), some (Blk.mk true (16 : Nat) [Seg.ints IntKind.u8
     (4 : Nat) [p.l, p.v, p.m, p.s], Seg.ints IntKind.i8 (2 : Nat) [p.po, p.pr], Seg.ints IntKind.u32 (2 : Nat) [p.de, p.di], Seg.ints IntKind.u8 (4 : Nat) [p.r0, p.r1, p.r2, p.r3], Seg.ints IntKind.u64 (4
     : Nat) [p.a, p.b, p.c, p.d]])]) :=
  Eq.trans (by kernel_rfl) rfl
--CFEND
noncomputable def LREncf : LF := fun vs h k => match vs, h with
  | [.slice (some ⟨0, 0, none⟩) 48 0, .pointer (some ⟨1, 0, none⟩), .int .i64 0], [some ⟨true, 1, [.ints .u8 48 xs]⟩, some ⟨true, 16, [.ints .u8 4 [l, v, m, s], .ints .i8 2 [po, pr], .ints .u32 2 [de, di], .ints .u8 4 [r0, r1, r2, r3], .ints .u64 4 [a, b, c, d]]⟩] =>
    k (.exit 0) [sl 0 48 0, pt 1, w63 4] [oU 48 ((((xs.set 12 r0).set 13 r1).set 14 r2).set 15 r3), some ⟨true, 16, [.ints .u8 4 [l, v, m, s], .ints .i8 2 [po, pr], .ints .u32 2 [de, di], .ints .u8 4 [r0, r1, r2, r3], .ints .u64 4 [a, b, c, d]]⟩]
  | _, _ => none
noncomputable def LREnc : LSpec := oneL 11 liveREnc LREncf
--CP pREnc (p : Pk) :: fnK Try.prog ((SLay.calm []).on [(9, false), (14, false), (18, false)]) LREnc Try.f22 [pkv p] []
theorem pREnc (p : Pk)
    (h1 : ¬p.l > (3 : Int) := by first | omega | assumption | rfl)
    (h2 : ¬p.v > (7 : Int) := by first | omega | assumption | rfl)
    (h3 : ¬p.m > (7 : Int) := by first | omega | assumption | rfl)
    (h4 : (0 : Int) ≤ (4 : Int) ∧ (0 : Int) ≤ (4 : Int) ∧ (8 : Int) ≤ (48 : Int) ∧ (48 : Nat) ≤ (1000000 : Nat) ∧ (48 : Nat) = (48 : Nat) := by first | omega | assumption | rfl)
    (h5 : (0 : Int) ≤ (8 : Int) ∧ (0 : Int) ≤ (4 : Int) ∧ (12 : Int) ≤ (48 : Int) ∧ (48 : Nat) ≤ (1000000 : Nat) ∧ (48 : Nat) = (48 : Nat) := by first | omega | assumption | rfl)
    (h6 : (0 : Int) ≤ (16 : Int) ∧ (0 : Int) ≤ (8 : Int) ∧ (24 : Int) ≤ (48 : Int) ∧ (48 : Nat) ≤ (1000000 : Nat) ∧ (48 : Nat) = (48 : Nat) := by first | omega | assumption | rfl)
    (h7 : (0 : Int) ≤ (24 : Int) ∧ (0 : Int) ≤ (8 : Int) ∧ (32 : Int) ≤ (48 : Int) ∧ (48 : Nat) ≤ (1000000 : Nat) ∧ (48 : Nat) = (48 : Nat) := by first | omega | assumption | rfl)
    (h8 : (0 : Int) ≤ (32 : Int) ∧ (0 : Int) ≤ (8 : Int) ∧ (40 : Int) ≤ (48 : Int) ∧ (48 : Nat) ≤ (1000000 : Nat) ∧ (48 : Nat) = (48 : Nat) := by first | omega | assumption | rfl)
    (h9 : (0 : Int) ≤ (40 : Int) ∧ (0 : Int) ≤ (8 : Int) ∧ (48 : Int) ≤ (48 : Int) ∧ (48 : Nat) ≤ (1000000 : Nat) ∧ (48 : Nat) = (48 : Nat) := by first | omega | assumption | rfl) : fnK Try.prog ((SLay.calm []).on [(9, false), (14, false), (18, false)]) LREnc Try.f22 [pkv p] [] =
     (some (Res.ret (Value.tuple (Array.mk [Value.slice (some (Addr.mk (0 : Nat) (0 : Nat) none)) (48 : Nat) (0 : Nat), Value.int IntKind.i64 (0 : Int)])) [some (Blk.mk true (1 : Nat) [Seg.ints IntKind.u8
     (48 : Nat) [IntKind.u8.wrap (IntKind.u8.wrap (IntKind.u8.wrap (p.l * (64 : Int)) + IntKind.u8.wrap (p.v * (8 : Int))) + p.m), p.s, p.po % (256 : Int), p.pr % (256 : Int), IntKind.u64.wrap p.de / (256
     : Int) / (256 : Int) / (256 : Int) % (256 : Int), IntKind.u64.wrap p.de / (256 : Int) / (256 : Int) % (256 : Int), IntKind.u64.wrap p.de / (256 : Int) % (256 : Int), IntKind.u64.wrap p.de % (256 :
     Int), IntKind.u64.wrap p.di / (256 : Int) / (256 : Int) / (256 : Int) % (256 : Int), IntKind.u64.wrap p.di / (256 : Int) / (256 : Int) % (256 : Int), IntKind.u64.wrap p.di / (256 : Int) % (256 : Int),
     IntKind.u64.wrap p.di % (256 : Int), p.r0, p.r1, p.r2, p.r3, p.a / (256 : Int) / (256 : Int) / (256 : Int) / (256 : Int) / (256 : Int) / (256 : Int) / (256 : Int) % (256 : Int), p.a / (256 : Int) /
     (256 : Int) / (256 : Int) / (256 : Int) / (256 : Int) / (256 : Int) % (256 : Int), p.a / (256 : Int) / (256 : Int) / (256 : Int) / (256 : Int) / (256 : Int) % (256 : Int), p.a / (256 : Int) / (256 :
     Int) / (256 : Int) / (256 : Int) % (256 : Int), p.a / (256 : Int) / (256 : Int) / (256 : Int) % (256 : Int), p.a / (256 : Int) / (256 : Int) % (256 : Int), p.a / (256 : Int) % (256 : Int), p.a % (256
     : Int), p.b / (256 : Int) / (256 : Int) / (256 : Int) / (256 : Int) / (256 : Int) / (256 : Int) / (256 : Int) % (256 : Int), p.b / (256 : Int) / (256 : Int) / (256 : Int) / (256 : Int) / (256 : Int) /
     (256 : Int) % (256 : Int), p.b / (256 : Int) / (256 : Int) / (256 : Int) / (256 : Int) / (256 : Int) % (256 : Int), p.b / (256 : Int) / (256 : Int) / (256 : Int) / (256 : Int) % (256 : Int), p.b /
     (256 : Int) / (256 : Int) / (256 : Int) % (256 : Int), p.b / (256 : Int) / (256 : Int) % (256 : Int), p.b / (256 : Int) % (256 : Int), p.b % (256 : Int), p.c / (256 : Int) / (256 : Int) / (256 : Int)
     / (256 : Int) / (256 : Int) / (256 : Int) / (256 : Int) % (256 : Int), p.c / (256 : Int) / (256 : Int) / (256 : Int) / (256 : Int) / (256 : Int) / (256 : Int) % (256 : Int), p.c / (256 : Int) / (256 :
     Int) / (256 : Int) / (256 : Int) / (256 : Int) % (256 : Int), p.c / (256 : Int) / (256 : Int) / (256 : Int) / (256 : Int) % (256 : Int), p.c / (256 : Int) / (256 : Int) / (256 : Int) % (256 : Int),
     p.c / (256 : Int) / (256 : Int) % (256 : Int), p.c / (256 : Int) % (256 : Int), p.c % (256 : Int), p.d / (256 : Int) / (256 : Int) / (256 : Int) / (256 : Int) / (256 : Int) / (256 : Int) / (256 : Int)
     % (256 : Int), p.d / (256 : Int) / (256 : Int) / (256 : Int) / (256 : Int) / (256 : Int) / (256 : Int) % (256 : Int), p.d / (256 : Int) / (256 : Int) / (256 : Int) / (256 : Int) / (256 : Int) % (256 :
     Int), p.d / (256 : Int) / (256 : Int) / (256 : Int) / (256 : Int) % (256 : Int), p.d / (256 : Int) / (256 : Int) / (256 : Int) % (256 : Int), p.d / (256 : Int) / (256 : Int) % (256 : Int), p.d / (256
     : Int) % (256 : Int), p.d % (256 : Int)]])])) :=
  Eq.trans (b :=
     bif decide (p.l > (3 : Int)) then none else bif decide (p.v > (7 : Int)) then none else bif decide (p.m > (7 : Int)) then none else bif chk ((0 : Int) ≤ (4 : Int) ∧ (0 : Int) ≤ (4 : Int) ∧ (8 : Int) ≤
     (48 : Int) ∧ (48 : Nat) ≤ (1000000 : Nat) ∧ (48 : Nat) = (48 : Nat)) then bif chk ((0 : Int) ≤ (8 : Int) ∧ (0 : Int) ≤ (4 : Int) ∧ (12 : Int) ≤ (48 : Int) ∧ (48 : Nat) ≤ (1000000 : Nat) ∧ (48 : Nat) =
     (48 : Nat)) then bif chk ((0 : Int) ≤ (16 : Int) ∧ (0 : Int) ≤ (8 : Int) ∧ (24 : Int) ≤ (48 : Int) ∧ (48 : Nat) ≤ (1000000 : Nat) ∧ (48 : Nat) = (48 : Nat)) then bif chk ((0 : Int) ≤ (24 : Int) ∧ (0 :
     Int) ≤ (8 : Int) ∧ (32 : Int) ≤ (48 : Int) ∧ (48 : Nat) ≤ (1000000 : Nat) ∧ (48 : Nat) = (48 : Nat)) then bif chk ((0 : Int) ≤ (32 : Int) ∧ (0 : Int) ≤ (8 : Int) ∧ (40 : Int) ≤ (48 : Int) ∧ (48 : Nat)
     ≤ (1000000 : Nat) ∧ (48 : Nat) = (48 : Nat)) then bif chk ((0 : Int) ≤ (40 : Int) ∧ (0 : Int) ≤ (8 : Int) ∧ (48 : Int) ≤ (48 : Int) ∧ (48 : Nat) ≤ (1000000 : Nat) ∧ (48 : Nat) = (48 : Nat)) then some
     (Res.ret (Value.tuple (Array.mk [Value.slice (some (Addr.mk (0 : Nat) (0 : Nat) none)) (48 : Nat) (0 : Nat), Value.int IntKind.i64 (0 : Int)])) [some (Blk.mk true (1 : Nat) [Seg.ints IntKind.u8 (48 :
     Nat) [IntKind.u8.wrap (IntKind.u8.wrap (IntKind.u8.wrap (p.l * (64 : Int)) + IntKind.u8.wrap (p.v * (8 : Int))) + p.m), p.s, p.po % (256 : Int), p.pr % (256 : Int), IntKind.u64.wrap p.de / (256 : Int)
     / (256 : Int) / (256 : Int) % (256 : Int), IntKind.u64.wrap p.de / (256 : Int) / (256 : Int) % (256 : Int), IntKind.u64.wrap p.de / (256 : Int) % (256 : Int), IntKind.u64.wrap p.de % (256 : Int),
     IntKind.u64.wrap p.di / (256 : Int) / (256 : Int) / (256 : Int) % (256 : Int), IntKind.u64.wrap p.di / (256 : Int) / (256 : Int) % (256 : Int), IntKind.u64.wrap p.di / (256 : Int) % (256 : Int),
     IntKind.u64.wrap p.di % (256 : Int), p.r0, p.r1, p.r2, p.r3, p.a / (256 : Int) / (256 : Int) / (256 : Int) / (256 : Int) / (256 : Int) / (256 : Int) / (256 : Int) % (256 : Int), p.a / (256 : Int) /
     (256 : Int) / (256 : Int) / (256 : Int) / (256 : Int) / (256 : Int) % (256 : Int), p.a / (256 : Int) / (256 : Int) / (256 : Int) / (256 : Int) / (256 : Int) % (256 : Int), p.a / (256 : Int) / (256 :
     Int) / (256 : Int) / (256 : Int) % (256 : Int), p.a / (256 : Int) / (256 : Int) / (256 : Int) % (256 : Int), p.a / (256 : Int) / (256 : Int) % (256 : Int), p.a / (256 : Int) % (256 : Int), p.a % (256
     : Int), p.b / (256 : Int) / (256 : Int) / (256 : Int) / (256 : Int) / (256 : Int) / (256 : Int) / (256 : Int) % (256 : Int), p.b / (256 : Int) / (256 : Int) / (256 : Int) / (256 : Int) / (256 : Int) /
     (256 : Int) % (256 : Int), p.b / (256 : Int) / (256 : Int) / (256 : Int) / (256 : Int) / (256 : Int) % (256 : Int), p.b / (256 : Int) / (256 : Int) / (256 : Int) / (256 : Int) % (256 : Int), p.b /
     (256 : Int) / (256 : Int) / (256 : Int) % (256 : Int), p.b / (256 : Int) / (256 : Int) % (256 : Int), p.b / (256 : Int) % (256 : Int), p.b % (256 : Int), p.c / (256 : Int) / (256 : Int) / (256 : Int)
     / (256 : Int) / (256 : Int) / (256 : Int) / (256 : Int) % (256 : Int), p.c / (256 : Int) / (256 : Int) / (256 : Int) / (256 : Int) / (256 : Int) / (256 : Int) % (256 : Int), p.c / (256 : Int) / (256 :
     Int) / (256 : Int) / (256 : Int) / (256 : Int) % (256 : Int), p.c / (256 : Int) / (256 : Int) / (256 : Int) / (256 : Int) % (256 : Int), p.c / (256 : Int) / (256 : Int) / (256 : Int) % (256 : Int),
     p.c / (256 : Int) / (256 : Int) % (256 : Int), p.c / (256 : Int) % (256 : Int), p.c % (256 : Int), p.d / (256 : Int) / (256 : Int) / (256 : Int) / (256 : Int) / (256 : Int) / (256 : Int) / (256 : Int)
     % (256 : Int), p.d / (256 : Int) / (256 : Int) / (256 : Int) / (256 : Int) / (256 : Int) / (256 : Int) % (256 : Int), p.d / (256 : Int) / (256 : Int) / (256 : Int) / (256 : Int) / (256 : Int) % (256 :
     Int), p.d / (256 : Int) / (256 : Int) / (256 : Int) / (256 : Int) % (256 : Int), p.d / (256 : Int) / (256 : Int) / (256 : Int) % (256 : Int), p.d / (256 : Int) / (256 : Int) % (256 : Int), p.d / (256
     : Int) % (256 : Int), p.d % (256 : Int)]])]) else none else none else none else none else none else none) (by kernel_rfl) (by (try simp only [-eq_self, Int.toNat_natCast, Nat.mul_one, Nat.zero_add, segsLen_one]); exact (go_f (dec_f h1) (go_f (dec_f h2) (go_f (dec_f h3) (go_t (chk_t h4) (go_t (chk_t h5) (go_t (chk_t h6) (go_t (chk_t h7) (go_t (chk_t h8) (go_t (chk_t h9) rfl))))))))))
--CFEND
--CP pREncR1 (p : Pk) :: fnK Try.prog (SLay.on [(9, true)]) LREnc Try.f22 [pkv p] []
theorem pREncR1 (p : Pk)
    (h1 : p.l > (3 : Int) := by first | omega | assumption | rfl) : fnK Try.prog (SLay.on [(9, true)]) LREnc Try.f22 [pkv p] [] =
     (some (Res.ret (Value.tuple (Array.mk [Value.slice none (0 : Nat) (0 : Nat), Value.int IntKind.i64 (2 : Int)])) [])) :=
  Eq.trans (b :=
     bif decide (p.l > (3 : Int)) then some (Res.ret (Value.tuple (Array.mk [Value.slice none (0 : Nat) (0 : Nat), Value.int IntKind.i64 (2 : Int)])) []) else none) (by kernel_rfl) (by (try simp only [-eq_self, Int.toNat_natCast, Nat.mul_one, Nat.zero_add, segsLen_one]); exact (go_t (dec_t h1) rfl))
--CFEND
--CP pREncR2 (p : Pk) :: fnK Try.prog (SLay.on [(9, false), (14, true)]) LREnc Try.f22 [pkv p] []
theorem pREncR2 (p : Pk)
    (h1 : ¬p.l > (3 : Int) := by first | omega | assumption | rfl)
    (h2 : p.v > (7 : Int) := by first | omega | assumption | rfl) : fnK Try.prog (SLay.on [(9, false), (14, true)]) LREnc Try.f22 [pkv p] [] =
     (some (Res.ret (Value.tuple (Array.mk [Value.slice none (0 : Nat) (0 : Nat), Value.int IntKind.i64 (2 : Int)])) [])) :=
  Eq.trans (b :=
     bif decide (p.l > (3 : Int)) then none else bif decide (p.v > (7 : Int)) then some (Res.ret (Value.tuple (Array.mk [Value.slice none (0 : Nat) (0 : Nat), Value.int IntKind.i64 (2 : Int)])) []) else
     none) (by kernel_rfl) (by (try simp only [-eq_self, Int.toNat_natCast, Nat.mul_one, Nat.zero_add, segsLen_one]); exact (go_f (dec_f h1) (go_t (dec_t h2) rfl)))
--CFEND
--CP pREncR3 (p : Pk) :: fnK Try.prog (SLay.on [(9, false), (14, false), (18, true)]) LREnc Try.f22 [pkv p] []
theorem pREncR3 (p : Pk)
    (h1 : ¬p.l > (3 : Int) := by first | omega | assumption | rfl)
    (h2 : ¬p.v > (7 : Int) := by first | omega | assumption | rfl)
    (h3 : p.m > (7 : Int) := by first | omega | assumption | rfl) : fnK Try.prog (SLay.on [(9, false), (14, false), (18, true)]) LREnc Try.f22 [pkv p] [] =
     (some (Res.ret (Value.tuple (Array.mk [Value.slice none (0 : Nat) (0 : Nat), Value.int IntKind.i64 (2 : Int)])) [])) :=
  Eq.trans (b :=
     bif decide (p.l > (3 : Int)) then none else bif decide (p.v > (7 : Int)) then none else bif decide (p.m > (7 : Int)) then some (Res.ret (Value.tuple (Array.mk [Value.slice none (0 : Nat) (0 : Nat),
     Value.int IntKind.i64 (2 : Int)])) []) else none) (by kernel_rfl) (by (try simp only [-eq_self, Int.toNat_natCast, Nat.mul_one, Nat.zero_add, segsLen_one]); exact (go_f (dec_f h1) (go_f (dec_f h2) (go_t (dec_t h3) rfl))))
--CFEND
def liveNone : List Nat := []
abbrev b1i (x : Int) : Option Blk := some ⟨true, 1, [.ints .i64 1 [x]]⟩
abbrev bSl (id o n c : Nat) : Option Blk := some ⟨true, 1, [.vals [slo id o n c]]⟩
noncomputable def SGet : Spec := mkS [(50, false, FGet)]
--CP pNext (at' : Int) (o n N : Nat) (xs : List Int) :: fnK Try.prog SGet noL Try.f51 [pt 0, pt 1] [b1i at', bSl 2 o n 2, rU N xs]
theorem pNext (at' : Int) (o n N : Nat) (xs : List Int)
    (w1 : -9223372036854775808 ≤ at' + (8 : Int) ∧ at' + (8 : Int) ≤ 9223372036854775807 := by omega)
    (w2 : -9223372036854775808 ≤ at' + (8 : Int) - (8 : Int) ∧ at' + (8 : Int) - (8 : Int) ≤ 9223372036854775807 := by omega)
    (h1 : (0 : Int) ≤ at' + (8 : Int) - (8 : Int) := by first | omega | assumption | rfl)
    (h2 : at' + (8 : Int) - (8 : Int) ≤ at' + (8 : Int) := by first | omega | assumption | rfl)
    (h3 : at' + (8 : Int) ≤ (↑n : Int) := by first | omega | assumption | rfl)
    (h4 : (at' + (8 : Int) - (at' + (8 : Int) - (8 : Int))).toNat ≤ (8 : Nat) ∧ o + (at' + (8 : Int) - (8 : Int)).toNat + (at' + (8 : Int) - (at' + (8 : Int) - (8 : Int))).toNat ≤ N := by first | omega | assumption | rfl) : fnK Try.prog SGet noL Try.f51 [pt 0, pt 1] [b1i at', bSl 2 o n 2, rU N xs] =
     (some (Res.ret (Value.int IntKind.u64 (valB (List.take (at' + (8 : Int) - (at' + (8 : Int) - (8 : Int))).toNat (List.drop (o + (at' + (8 : Int) - (8 : Int)).toNat) xs)))) [some (Blk.mk true (1 : Nat)
     [Seg.ints IntKind.i64 (1 : Nat) [at' + (8 : Int)]]), some (Blk.mk true (1 : Nat) [Seg.vals [Value.slice (some (Addr.mk (2 : Nat) o none)) n (2 : Nat)]]), some (Blk.mk false (1 : Nat) [Seg.ints
     IntKind.u8 N xs])])) :=
  Eq.trans (b :=
     bif decide ((0 : Int) ≤ IntKind.i64.wrap (IntKind.i64.wrap (at' + (8 : Int)) - (8 : Int))) && decide (IntKind.i64.wrap (IntKind.i64.wrap (at' + (8 : Int)) - (8 : Int)) ≤ IntKind.i64.wrap (at' + (8 :
     Int))) && decide (IntKind.i64.wrap (at' + (8 : Int)) ≤ (↑n : Int)) then bif chk ((IntKind.i64.wrap (at' + (8 : Int)) - IntKind.i64.wrap (IntKind.i64.wrap (at' + (8 : Int)) - (8 : Int))).toNat ≤ (8 :
     Nat) ∧ o + (IntKind.i64.wrap (IntKind.i64.wrap (at' + (8 : Int)) - (8 : Int))).toNat * (1 : Nat) + (IntKind.i64.wrap (at' + (8 : Int)) - IntKind.i64.wrap (IntKind.i64.wrap (at' + (8 : Int)) - (8 :
     Int))).toNat ≤ N) then some (Res.ret (Value.int IntKind.u64 (valB (List.take (IntKind.i64.wrap (at' + (8 : Int)) - IntKind.i64.wrap (IntKind.i64.wrap (at' + (8 : Int)) - (8 : Int))).toNat (List.drop
     (o + (IntKind.i64.wrap (IntKind.i64.wrap (at' + (8 : Int)) - (8 : Int))).toNat * (1 : Nat)) xs)))) [some (Blk.mk true (1 : Nat) [Seg.ints IntKind.i64 (1 : Nat) [IntKind.i64.wrap (at' + (8 : Int))]]),
     some (Blk.mk true (1 : Nat) [Seg.vals [Value.slice (some (Addr.mk (2 : Nat) o none)) n (2 : Nat)]]), some (Blk.mk false (1 : Nat) [Seg.ints IntKind.u8 N xs])]) else none else none) (by kernel_rfl) (by (try simp only [-eq_self, Int.toNat_natCast, Nat.mul_one, Nat.zero_add, segsLen_one, swrap w1.1 w1.2, swrap w2.1 w2.2]); exact (go_t (and_t (and_t (dec_t h1) (dec_t h2)) (dec_t h3)) (go_t (chk_t h4) rfl)))
--CFEND
noncomputable def FNext : FSpec := fun args h k => match args, h with
  | [.pointer (some ⟨0, 0, none⟩), .pointer (some ⟨1, 0, none⟩)], [some ⟨true, 1, [.ints .i64 1 [a]]⟩, some ⟨true, 1, [.vals [.slice (some ⟨2, o, none⟩) n 2]]⟩, some ⟨false, 1, [.ints .u8 N xs]⟩] =>
    bif chk (0 ≤ a ∧ a + 8 ≤ n ∧ o + n ≤ N ∧ N ≤ 1000000) then k (u64v (valB ((xs.drop (o + a.toNat)).take 8))) [b1i (a + 8), bSl 2 o n 2, rU N xs] else none
  | _, _ => none
noncomputable def SDec : Spec := mkS [(50, false, FGet), (51, true, FNext)]
--CP pDec (n : Nat) (xs : List Int) :: fnK Try.prog (SDec.on [(8, false)]) noL Try.f23 [sl 0 n 2] [rU n xs]
theorem pDec (n : Nat) (xs : List Int)
    (h1 : ¬(↑n : Int) < (48 : Int) := by first | omega | assumption | rfl)
    (h2 : (0 : Int) < (↑n : Int) := by first | omega | assumption | rfl)
    (h3 : (0 : Nat) < n := by first | omega | assumption | rfl)
    (h4 : (1 : Int) < (↑n : Int) := by first | omega | assumption | rfl)
    (h5 : (1 : Nat) < n := by first | omega | assumption | rfl)
    (h6 : (2 : Int) < (↑n : Int) := by first | omega | assumption | rfl)
    (h7 : (2 : Nat) < n := by first | omega | assumption | rfl)
    (h8 : (3 : Int) < (↑n : Int) := by first | omega | assumption | rfl)
    (h9 : (3 : Nat) < n := by first | omega | assumption | rfl)
    (h10 : (4 : Int) ≤ (8 : Int) := by first | omega | assumption | rfl)
    (h11 : (8 : Int) ≤ (↑n : Int) := by first | omega | assumption | rfl)
    (h12 : ((8 : Int) - (4 : Int)).toNat ≤ (8 : Nat) ∧ (4 : Nat) + ((8 : Int) - (4 : Int)).toNat ≤ n := by first | omega | assumption | rfl)
    (h13 : (8 : Int) ≤ (12 : Int) := by first | omega | assumption | rfl)
    (h14 : (12 : Int) ≤ (↑n : Int) := by first | omega | assumption | rfl)
    (h15 : ((12 : Int) - (8 : Int)).toNat ≤ (8 : Nat) ∧ (8 : Nat) + ((12 : Int) - (8 : Int)).toNat ≤ n := by first | omega | assumption | rfl)
    (h16 : (12 : Int) ≤ (16 : Int) := by first | omega | assumption | rfl)
    (h17 : (16 : Int) ≤ (↑n : Int) := by first | omega | assumption | rfl)
    (h18 : (12 : Nat) < n := by first | omega | assumption | rfl)
    (h19 : (13 : Nat) < n := by first | omega | assumption | rfl)
    (h20 : (14 : Nat) < n := by first | omega | assumption | rfl)
    (h21 : (15 : Nat) < n := by first | omega | assumption | rfl)
    (h22 : (0 : Int) ≤ (16 : Int) ∧ (24 : Int) ≤ (↑n : Int) ∧ n ≤ n ∧ n ≤ (1000000 : Nat) := by first | omega | assumption | rfl)
    (h23 : (0 : Int) ≤ (24 : Int) ∧ (32 : Int) ≤ (↑n : Int) ∧ n ≤ n ∧ n ≤ (1000000 : Nat) := by first | omega | assumption | rfl)
    (h24 : (0 : Int) ≤ (32 : Int) ∧ (40 : Int) ≤ (↑n : Int) ∧ n ≤ n ∧ n ≤ (1000000 : Nat) := by first | omega | assumption | rfl)
    (h25 : (0 : Int) ≤ (40 : Int) ∧ (48 : Int) ≤ (↑n : Int) ∧ n ≤ n ∧ n ≤ (1000000 : Nat) := by first | omega | assumption | rfl) : fnK Try.prog (SDec.on [(8, false)]) noL Try.f23 [sl 0 n 2] [rU n xs] =
     (some (Res.ret (Value.tuple (Array.mk [Value.agg (Array.mk [Value.int IntKind.u8 ((xs.getD (0 : Nat) (0 : Int)).fdiv (64 : Int)), Value.int IntKind.u8 (bits BinOp.and IntKind.u8 ((xs.getD (0 : Nat) (0
     : Int)).fdiv (8 : Int)) (7 : Int)), Value.int IntKind.u8 (bits BinOp.and IntKind.u8 (xs.getD (0 : Nat) (0 : Int)) (7 : Int)), Value.int IntKind.u8 (xs.getD (1 : Nat) (0 : Int)), Value.int IntKind.i8
     (IntKind.i8.wrap (xs.getD (2 : Nat) (0 : Int))), Value.int IntKind.i8 (IntKind.i8.wrap (xs.getD (3 : Nat) (0 : Int))), Value.int IntKind.u32 (IntKind.u32.wrap (valB (List.take ((8 : Int) - (4 :
     Int)).toNat (List.drop (4 : Nat) xs)))), Value.int IntKind.u32 (IntKind.u32.wrap (valB (List.take ((12 : Int) - (8 : Int)).toNat (List.drop (8 : Nat) xs)))), Value.int IntKind.u8 (xs.getD (12 : Nat)
     (0 : Int)), Value.int IntKind.u8 (xs.getD (13 : Nat) (0 : Int)), Value.int IntKind.u8 (xs.getD (14 : Nat) (0 : Int)), Value.int IntKind.u8 (xs.getD (15 : Nat) (0 : Int)), Value.int IntKind.u64 (valB
     (List.take (8 : Nat) (List.drop (16 : Nat) xs))), Value.int IntKind.u64 (valB (List.take (8 : Nat) (List.drop (24 : Nat) xs))), Value.int IntKind.u64 (valB (List.take (8 : Nat) (List.drop (32 : Nat)
     xs))), Value.int IntKind.u64 (valB (List.take (8 : Nat) (List.drop (40 : Nat) xs)))]), Value.int IntKind.i64 (0 : Int)])) [some (Blk.mk false (1 : Nat) [Seg.ints IntKind.u8 n xs])])) :=
  Eq.trans (b :=
     bif decide ((↑n : Int) < (48 : Int)) then none else bif decide ((0 : Int) < (↑n : Int)) then bif Nat.blt (0 : Nat) n then bif decide ((0 : Int) < (↑n : Int)) then bif Nat.blt (0 : Nat) n then bif
     decide ((0 : Int) < (↑n : Int)) then bif Nat.blt (0 : Nat) n then bif decide ((1 : Int) < (↑n : Int)) then bif Nat.blt (1 : Nat) n then bif decide ((2 : Int) < (↑n : Int)) then bif Nat.blt (2 : Nat) n
     then bif decide ((3 : Int) < (↑n : Int)) then bif Nat.blt (3 : Nat) n then bif decide ((4 : Int) ≤ (8 : Int)) && decide ((8 : Int) ≤ (↑n : Int)) then bif chk (((8 : Int) - (4 : Int)).toNat ≤ (8 : Nat)
     ∧ (4 : Nat) + ((8 : Int) - (4 : Int)).toNat ≤ n) then bif decide ((8 : Int) ≤ (12 : Int)) && decide ((12 : Int) ≤ (↑n : Int)) then bif chk (((12 : Int) - (8 : Int)).toNat ≤ (8 : Nat) ∧ (8 : Nat) +
     ((12 : Int) - (8 : Int)).toNat ≤ n) then bif decide ((12 : Int) ≤ (16 : Int)) && decide ((16 : Int) ≤ (↑n : Int)) then bif Nat.blt (12 : Nat) n then bif Nat.blt (13 : Nat) n then bif Nat.blt (14 :
     Nat) n then bif Nat.blt (15 : Nat) n then bif chk ((0 : Int) ≤ (16 : Int) ∧ (24 : Int) ≤ (↑n : Int) ∧ (0 : Nat) + n ≤ n ∧ n ≤ (1000000 : Nat)) then bif chk ((0 : Int) ≤ (24 : Int) ∧ (32 : Int) ≤ (↑n :
     Int) ∧ (0 : Nat) + n ≤ n ∧ n ≤ (1000000 : Nat)) then bif chk ((0 : Int) ≤ (32 : Int) ∧ (40 : Int) ≤ (↑n : Int) ∧ (0 : Nat) + n ≤ n ∧ n ≤ (1000000 : Nat)) then bif chk ((0 : Int) ≤ (40 : Int) ∧ (48 :
     Int) ≤ (↑n : Int) ∧ (0 : Nat) + n ≤ n ∧ n ≤ (1000000 : Nat)) then some (Res.ret (Value.tuple (Array.mk [Value.agg (Array.mk [Value.int IntKind.u8 ((xs.getD (0 : Nat) (0 : Int)).fdiv (64 : Int)),
     Value.int IntKind.u8 (bits BinOp.and IntKind.u8 ((xs.getD (0 : Nat) (0 : Int)).fdiv (8 : Int)) (7 : Int)), Value.int IntKind.u8 (bits BinOp.and IntKind.u8 (xs.getD (0 : Nat) (0 : Int)) (7 : Int)),
     Value.int IntKind.u8 (xs.getD (1 : Nat) (0 : Int)), Value.int IntKind.i8 (IntKind.i8.wrap (xs.getD (2 : Nat) (0 : Int))), Value.int IntKind.i8 (IntKind.i8.wrap (xs.getD (3 : Nat) (0 : Int))),
     Value.int IntKind.u32 (IntKind.u32.wrap (valB (List.take ((8 : Int) - (4 : Int)).toNat (List.drop (4 : Nat) xs)))), Value.int IntKind.u32 (IntKind.u32.wrap (valB (List.take ((12 : Int) - (8 :
     Int)).toNat (List.drop (8 : Nat) xs)))), Value.int IntKind.u8 (xs.getD (12 : Nat) (0 : Int)), Value.int IntKind.u8 (xs.getD (13 : Nat) (0 : Int)), Value.int IntKind.u8 (xs.getD (14 : Nat) (0 : Int)),
     Value.int IntKind.u8 (xs.getD (15 : Nat) (0 : Int)), Value.int IntKind.u64 (valB (List.take (8 : Nat) (List.drop (16 : Nat) xs))), Value.int IntKind.u64 (valB (List.take (8 : Nat) (List.drop (24 :
     Nat) xs))), Value.int IntKind.u64 (valB (List.take (8 : Nat) (List.drop (32 : Nat) xs))), Value.int IntKind.u64 (valB (List.take (8 : Nat) (List.drop (40 : Nat) xs)))]), Value.int IntKind.i64 (0 :
     Int)])) [some (Blk.mk false (1 : Nat) [Seg.ints IntKind.u8 n xs])]) else none else none else none else none else none else none else none else none else none else none else none else none else none
     else none else none else none else none else none else none else none else none else none else none else none else none) (by kernel_rfl) (by (try simp only [-eq_self, Int.toNat_natCast, Nat.mul_one, Nat.zero_add, segsLen_one]); exact (go_f (dec_f h1) (go_t (dec_t h2) (go_t (blt_t h3) (go_t (dec_t h2) (go_t (blt_t h3) (go_t (dec_t h2) (go_t (blt_t h3) (go_t (dec_t h4) (go_t (blt_t h5) (go_t (dec_t h6) (go_t (blt_t h7) (go_t (dec_t h8) (go_t (blt_t h9) (go_t (and_t (dec_t h10) (dec_t h11)) (go_t (chk_t h12) (go_t (and_t (dec_t h13) (dec_t h14)) (go_t (chk_t h15) (go_t (and_t (dec_t h16) (dec_t h17)) (go_t (blt_t h18) (go_t (blt_t h19) (go_t (blt_t h20) (go_t (blt_t h21) (go_t (chk_t h22) (go_t (chk_t h23) (go_t (chk_t h24) (go_t (chk_t h25) rfl)))))))))))))))))))))))))))
--CFEND
--CP pMode (n : Nat) (xs : List Int) :: fnK Try.prog ((mkS []).on [(6, false)]) noL Try.f24 [sl 0 n 2] [rU n xs]
theorem pMode (n : Nat) (xs : List Int)
    (h1 : (↑n : Int) ≠ (0 : Int) := by first | omega | assumption | rfl)
    (h2 : (0 : Int) < (↑n : Int) := by first | omega | assumption | rfl)
    (h3 : (0 : Nat) < n := by first | omega | assumption | rfl) : fnK Try.prog ((mkS []).on [(6, false)]) noL Try.f24 [sl 0 n 2] [rU n xs] =
     (some (Res.ret (Value.tuple (Array.mk [Value.int IntKind.u8 (bits BinOp.and IntKind.u8 (xs.getD (0 : Nat) (0 : Int)) (7 : Int)), Value.int IntKind.i64 (0 : Int)])) [some (Blk.mk false (1 : Nat)
     [Seg.ints IntKind.u8 n xs])])) :=
  Eq.trans (by kernel_rfl) (go_f (eqb_f h1) (go_t (dec_t h2) (go_t (blt_t h3) rfl)))
--CFEND
end Go.Proofs.Ytpidmcpnkfgcjaa.VC

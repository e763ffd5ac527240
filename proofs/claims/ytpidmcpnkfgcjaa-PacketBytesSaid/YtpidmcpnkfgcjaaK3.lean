/- packet: Encode, and the document's. -/
import Derived.Test.YtpidmcpnkfgcjaaK2
namespace Go.Proofs.Ytpidmcpnkfgcjaa.VC
open Go Go.Proofs

abbrev i8v (x : Int) : Value := .int .i8 x
abbrev u32v (x : Int) : Value := .int .u32 x
/-- A packet. -/
structure Pk where
  l : Int
  v : Int
  m : Int
  s : Int
  po : Int
  pr : Int
  de : Int
  di : Int
  r0 : Int
  r1 : Int
  r2 : Int
  r3 : Int
  a : Int
  b : Int
  c : Int
  d : Int
abbrev pkv (p : Pk) : Value := .agg #[u8v p.l, u8v p.v, u8v p.m, u8v p.s, i8v p.po, i8v p.pr, u32v p.de, u32v p.di, u8v p.r0, u8v p.r1, u8v p.r2, u8v p.r3, u64v p.a, u64v p.b, u64v p.c, u64v p.d]
def liveEnc : List Nat := [4, 60, 61]
noncomputable def SPut : Spec := mkS [(47, true, FPut)]
--CP pEncL (a b c d : Int) (n : Nat) (xs : List Int) (k : Exit → List Value → Heap → Out) :: loopN Try.prog SPut noL Try.f21.ntmps 0 (loopOf Try.f21 0) liveEnc 5 [sl 0 n 1, .agg #[u64v a, u64v b, u64v c, u64v d], w63 0] [oU n xs] k
theorem pEncL (a b c d : Int) (n : Nat) (xs : List Int) (k : Exit → List Value → Heap → Out)
    (h1 : (1 : Int) ≤ (8 : Int) ∧ (8 : Int) ≤ (8 : Int) ∧ n = n ∧ n ≤ (900000 : Nat) := by first | omega | assumption | rfl)
    (h2 : (1 : Int) ≤ (8 : Int) ∧ (8 : Int) ≤ (8 : Int) ∧ n + (8 : Nat) = n + (8 : Nat) ∧ n + (8 : Nat) ≤ (900000 : Nat) := by first | omega | assumption | rfl)
    (h3 : (1 : Int) ≤ (8 : Int) ∧ (8 : Int) ≤ (8 : Int) ∧ n + (8 : Nat) + (8 : Nat) = n + (8 : Nat) + (8 : Nat) ∧ n + (8 : Nat) + (8 : Nat) ≤ (900000 : Nat) := by first | omega | assumption | rfl)
    (h4 : (1 : Int) ≤ (8 : Int) ∧ (8 : Int) ≤ (8 : Int) ∧ n + (8 : Nat) + (8 : Nat) + (8 : Nat) = n + (8 : Nat) + (8 : Nat) + (8 : Nat) ∧ n + (8 : Nat) + (8 : Nat) + (8 : Nat) ≤ (900000 : Nat) := by first | omega | assumption | rfl) : loopN Try.prog SPut noL Try.f21.ntmps 0 (loopOf Try.f21 0) liveEnc 5 [sl 0 n 1, .agg #[u64v a, u64v b, u64v c, u64v d], w63 0] [oU n xs] k =
     (k (Exit.exit (0 : Nat)) [Value.slice (some (Addr.mk (0 : Nat) (0 : Nat) none)) (n + (8 : Nat) + (8 : Nat) + (8 : Nat) + (8 : Nat)) (1 : Nat), Value.agg #[Value.int IntKind.u64 a, Value.int
     IntKind.u64 b, Value.int IntKind.u64 c, Value.int IntKind.u64 d], Value.int IntKind.i64 (4 : Int)] [some (Blk.mk true (1 : Nat) [Seg.ints IntKind.u8 (n + (8 : Nat) + (8 : Nat) + (8 : Nat) + (8 : Nat))
     (xs ++ be a (8 : Nat) ++ be b (8 : Nat) ++ be c (8 : Nat) ++ be d (8 : Nat))])]) :=
  Eq.trans (by kernel_rfl) (go_t (chk_t h1) (go_t (chk_t h2) (go_t (chk_t h3) (go_t (chk_t h4) rfl))))
--CFEND
noncomputable def LEncf : LF := fun vs h k => match vs, h with
  | [.slice (some ⟨0, 0, none⟩) n 1, .agg ⟨[.int .u64 a, .int .u64 b, .int .u64 c, .int .u64 d]⟩, .int .i64 0], [some ⟨true, 1, [.ints .u8 N xs]⟩] =>
    bif chk (N = n ∧ n ≤ 1000) then k (.exit 0) [sl 0 (n + 32) 1, .agg #[u64v a, u64v b, u64v c, u64v d], w63 4] [oU (n + 32) (xs ++ be a 8 ++ be b 8 ++ be c 8 ++ be d 8)] else none
  | _, _ => none
noncomputable def LEnc : LSpec := oneL 7 liveEnc LEncf
--CP pEnc (p : Pk) :: fnK Try.prog ((SPut.calm [(4, [2, 6, 7], [0])]).on [(10, false), (15, false), (19, false)]) LEnc Try.f21 [pkv p] []
theorem pEnc (p : Pk)
    (h1 : ¬p.l > (3 : Int) := by first | omega | assumption | rfl)
    (h2 : ¬p.v > (7 : Int) := by first | omega | assumption | rfl)
    (h3 : ¬p.m > (7 : Int) := by first | omega | assumption | rfl)
    (h4 : (1 : Int) ≤ (4 : Int) ∧ (4 : Int) ≤ (8 : Int) ∧ (4 : Nat) = (4 : Nat) ∧ (4 : Nat) ≤ (900000 : Nat) := by first | omega | assumption | rfl)
    (h5 : (1 : Int) ≤ (4 : Int) ∧ (4 : Int) ≤ (8 : Int) ∧ (8 : Nat) = (8 : Nat) ∧ (8 : Nat) ≤ (900000 : Nat) := by first | omega | assumption | rfl)
    (h6 : (16 : Nat) = (16 : Nat) ∧ (16 : Nat) ≤ (1000 : Nat) := by first | omega | assumption | rfl) : fnK Try.prog ((SPut.calm [(4, [2, 6, 7], [0])]).on [(10, false), (15, false), (19, false)]) LEnc Try.f21 [pkv p] [] =
     (some (Res.ret (Value.tuple (Array.mk [Value.slice (some (Addr.mk (0 : Nat) (0 : Nat) none)) (48 : Nat) (1 : Nat), Value.int IntKind.i64 (0 : Int)])) [some (Blk.mk true (1 : Nat) [Seg.ints IntKind.u8
     (48 : Nat) [bits BinOp.or IntKind.u8 (bits BinOp.or IntKind.u8 (IntKind.u8.wrap (p.l * (64 : Int))) (IntKind.u8.wrap (p.v * (8 : Int)))) p.m, p.s, IntKind.u8.wrap p.po, IntKind.u8.wrap p.pr, beB
     (IntKind.u64.wrap p.de) (3 : Nat), beB (IntKind.u64.wrap p.de) (2 : Nat), beB (IntKind.u64.wrap p.de) (1 : Nat), beB (IntKind.u64.wrap p.de) (0 : Nat), beB (IntKind.u64.wrap p.di) (3 : Nat), beB
     (IntKind.u64.wrap p.di) (2 : Nat), beB (IntKind.u64.wrap p.di) (1 : Nat), beB (IntKind.u64.wrap p.di) (0 : Nat), p.r0, p.r1, p.r2, p.r3, beB p.a (7 : Nat), beB p.a (6 : Nat), beB p.a (5 : Nat), beB
     p.a (4 : Nat), beB p.a (3 : Nat), beB p.a (2 : Nat), beB p.a (1 : Nat), beB p.a (0 : Nat), beB p.b (7 : Nat), beB p.b (6 : Nat), beB p.b (5 : Nat), beB p.b (4 : Nat), beB p.b (3 : Nat), beB p.b (2 :
     Nat), beB p.b (1 : Nat), beB p.b (0 : Nat), beB p.c (7 : Nat), beB p.c (6 : Nat), beB p.c (5 : Nat), beB p.c (4 : Nat), beB p.c (3 : Nat), beB p.c (2 : Nat), beB p.c (1 : Nat), beB p.c (0 : Nat), beB
     p.d (7 : Nat), beB p.d (6 : Nat), beB p.d (5 : Nat), beB p.d (4 : Nat), beB p.d (3 : Nat), beB p.d (2 : Nat), beB p.d (1 : Nat), beB p.d (0 : Nat)]])])) :=
  Eq.trans (b :=
     bif decide (p.l > (3 : Int)) then none else bif decide (p.v > (7 : Int)) then none else bif decide (p.m > (7 : Int)) then none else bif chk ((1 : Int) ≤ (4 : Int) ∧ (4 : Int) ≤ (8 : Int) ∧ (4 : Nat) =
     (4 : Nat) ∧ (4 : Nat) ≤ (900000 : Nat)) then bif chk ((1 : Int) ≤ (4 : Int) ∧ (4 : Int) ≤ (8 : Int) ∧ (8 : Nat) = (8 : Nat) ∧ (8 : Nat) ≤ (900000 : Nat)) then bif chk ((16 : Nat) = (16 : Nat) ∧ (16 :
     Nat) ≤ (1000 : Nat)) then some (Res.ret (Value.tuple (Array.mk [Value.slice (some (Addr.mk (0 : Nat) (0 : Nat) none)) (48 : Nat) (1 : Nat), Value.int IntKind.i64 (0 : Int)])) [some (Blk.mk true (1 :
     Nat) [Seg.ints IntKind.u8 (48 : Nat) [bits BinOp.or IntKind.u8 (bits BinOp.or IntKind.u8 (IntKind.u8.wrap (p.l * (64 : Int))) (IntKind.u8.wrap (p.v * (8 : Int)))) p.m, p.s, IntKind.u8.wrap p.po,
     IntKind.u8.wrap p.pr, beB (IntKind.u64.wrap p.de) (3 : Nat), beB (IntKind.u64.wrap p.de) (2 : Nat), beB (IntKind.u64.wrap p.de) (1 : Nat), beB (IntKind.u64.wrap p.de) (0 : Nat), beB (IntKind.u64.wrap
     p.di) (3 : Nat), beB (IntKind.u64.wrap p.di) (2 : Nat), beB (IntKind.u64.wrap p.di) (1 : Nat), beB (IntKind.u64.wrap p.di) (0 : Nat), p.r0, p.r1, p.r2, p.r3, beB p.a (7 : Nat), beB p.a (6 : Nat), beB
     p.a (5 : Nat), beB p.a (4 : Nat), beB p.a (3 : Nat), beB p.a (2 : Nat), beB p.a (1 : Nat), beB p.a (0 : Nat), beB p.b (7 : Nat), beB p.b (6 : Nat), beB p.b (5 : Nat), beB p.b (4 : Nat), beB p.b (3 :
     Nat), beB p.b (2 : Nat), beB p.b (1 : Nat), beB p.b (0 : Nat), beB p.c (7 : Nat), beB p.c (6 : Nat), beB p.c (5 : Nat), beB p.c (4 : Nat), beB p.c (3 : Nat), beB p.c (2 : Nat), beB p.c (1 : Nat), beB
     p.c (0 : Nat), beB p.d (7 : Nat), beB p.d (6 : Nat), beB p.d (5 : Nat), beB p.d (4 : Nat), beB p.d (3 : Nat), beB p.d (2 : Nat), beB p.d (1 : Nat), beB p.d (0 : Nat)]])]) else none else none else none) (by kernel_rfl) (by (try simp only [-eq_self, Int.toNat_natCast, Nat.mul_one, Nat.zero_add, segsLen_one]); exact (go_f (dec_f h1) (go_f (dec_f h2) (go_f (dec_f h3) (go_t (chk_t h4) (go_t (chk_t h5) (go_t (chk_t h6) rfl)))))))
--CFEND
--CP pEncR1 (p : Pk) :: fnK Try.prog (SPut.on [(10, true)]) LEnc Try.f21 [pkv p] []
theorem pEncR1 (p : Pk)
    (h1 : p.l > (3 : Int) := by first | omega | assumption | rfl) : fnK Try.prog (SPut.on [(10, true)]) LEnc Try.f21 [pkv p] [] =
     (some (Res.ret (Value.tuple (Array.mk [Value.slice none (0 : Nat) (0 : Nat), Value.int IntKind.i64 (2 : Int)])) [])) :=
  Eq.trans (b :=
     bif decide (p.l > (3 : Int)) then some (Res.ret (Value.tuple (Array.mk [Value.slice none (0 : Nat) (0 : Nat), Value.int IntKind.i64 (2 : Int)])) []) else none) (by kernel_rfl) (by (try simp only [-eq_self, Int.toNat_natCast, Nat.mul_one, Nat.zero_add, segsLen_one]); exact (go_t (dec_t h1) rfl))
--CFEND
--CP pEncR2 (p : Pk) :: fnK Try.prog (SPut.on [(10, false), (15, true)]) LEnc Try.f21 [pkv p] []
theorem pEncR2 (p : Pk)
    (h1 : ¬p.l > (3 : Int) := by first | omega | assumption | rfl)
    (h2 : p.v > (7 : Int) := by first | omega | assumption | rfl) : fnK Try.prog (SPut.on [(10, false), (15, true)]) LEnc Try.f21 [pkv p] [] =
     (some (Res.ret (Value.tuple (Array.mk [Value.slice none (0 : Nat) (0 : Nat), Value.int IntKind.i64 (2 : Int)])) [])) :=
  Eq.trans (b :=
     bif decide (p.l > (3 : Int)) then none else bif decide (p.v > (7 : Int)) then some (Res.ret (Value.tuple (Array.mk [Value.slice none (0 : Nat) (0 : Nat), Value.int IntKind.i64 (2 : Int)])) []) else
     none) (by kernel_rfl) (by (try simp only [-eq_self, Int.toNat_natCast, Nat.mul_one, Nat.zero_add, segsLen_one]); exact (go_f (dec_f h1) (go_t (dec_t h2) rfl)))
--CFEND
--CP pEncR3 (p : Pk) :: fnK Try.prog (SPut.on [(10, false), (15, false), (19, true)]) LEnc Try.f21 [pkv p] []
theorem pEncR3 (p : Pk)
    (h1 : ¬p.l > (3 : Int) := by first | omega | assumption | rfl)
    (h2 : ¬p.v > (7 : Int) := by first | omega | assumption | rfl)
    (h3 : p.m > (7 : Int) := by first | omega | assumption | rfl) : fnK Try.prog (SPut.on [(10, false), (15, false), (19, true)]) LEnc Try.f21 [pkv p] [] =
     (some (Res.ret (Value.tuple (Array.mk [Value.slice none (0 : Nat) (0 : Nat), Value.int IntKind.i64 (2 : Int)])) [])) :=
  Eq.trans (b :=
     bif decide (p.l > (3 : Int)) then none else bif decide (p.v > (7 : Int)) then none else bif decide (p.m > (7 : Int)) then some (Res.ret (Value.tuple (Array.mk [Value.slice none (0 : Nat) (0 : Nat),
     Value.int IntKind.i64 (2 : Int)])) []) else none) (by kernel_rfl) (by (try simp only [-eq_self, Int.toNat_natCast, Nat.mul_one, Nat.zero_add, segsLen_one]); exact (go_f (dec_f h1) (go_f (dec_f h2) (go_t (dec_t h3) rfl))))
--CFEND
--CF cfLarge (x : Int) :: fnK Try.prog (mkS []) noL Try.f48 [i8v x] []
theorem cfLarge (x : Int) : fnK Try.prog (mkS []) noL Try.f48 [i8v x] [] =
     (bif decide (x < 0) then some (Res.ret (Value.int IntKind.u8 (IntKind.u8.wrap (IntKind.i64.wrap (IntKind.i64.wrap x + 256)))) []) else some (Res.ret (Value.int IntKind.u8 (IntKind.u8.wrap x)) [])) := by kernel_rfl
--CFEND
end Go.Proofs.Ytpidmcpnkfgcjaa.VC

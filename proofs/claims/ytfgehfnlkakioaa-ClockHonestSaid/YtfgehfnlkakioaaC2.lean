/- clock: readings, settings, meetings: closed forms. -/
import Derived.Test.YtfgehfnlkakioaaC1
namespace Go.Proofs.Ytfgehfnlkakioaa.VC
open Go Go.Proofs

def readT (R F D T x : Int) : Int := sumH [T, x, downI x (laterZ F D x R) 4294967296] 0
def readE (rho R E x : Int) : Int := sumH [E, upI x (rho + 1) 1000000, upI x R 4294967296, 2] 0
noncomputable def readZ (rho R P Q F D : Int) (s : Bool) (C T E c : Int) : Int × Int × Int :=
  bif mayK rho R P Q F D s C T E then bif s then bif decide (c < C) then (0, 0, 10) else
    bif decide (readT R F D T (c - C) < 0) || decide (readT R F D T (c - C) > 6000000000000000000) || decide (readE rho R E (c - C) > 4611686018427387904) then (0, 0, 9) else (readT R F D T (c - C), readE rho R E (c - C), 0)
    else (0, 0, 7) else (0, 0, 2)
def F111 : FSpec := fun args h k => match args, h with
  | [.agg ⟨[.int .i64 rho, .int .i64 R, .int .u64 _, .int .u64 _, .int .i64 F, .int .i64 D, .bool _, .int .i64 _, .int .i64 T, .int .i64 E]⟩, .int .i64 x], [] =>
    bif decide (1 ≤ R) && decide (rho ≤ 1000) then k (.tuple ⟨[w63 (readT R F D T x), w63 (readE rho R E x)]⟩) [] else none
  | _, _ => none
noncomputable def F75 : FSpec := fun args h k => match args, h with
  | [.agg ⟨[.int .i64 rho, .int .i64 R, .int .u64 P, .int .u64 Q, .int .i64 F, .int .i64 D, .bool s, .int .i64 C, .int .i64 T, .int .i64 E]⟩, .int .i64 c], [] =>
    k (.tuple ⟨[w63 (readZ rho R P Q F D s C T E c).1, w63 (readZ rho R P Q F D s C T E c).2.1, w63 (readZ rho R P Q F D s C T E c).2.2]⟩) []
  | _, _ => none
noncomputable def F112 : FSpec := F107g
def F113 : FSpec := F117
noncomputable def F81 : FSpec := fun args h k => match args, h with
  | [.agg ⟨[.int .i64 rho, .int .i64 R, .int .u64 P, .int .u64 Q, .int .i64 F, .int .i64 D, .bool s, .int .i64 C, .int .i64 T, .int .i64 E]⟩, .int .i64 c, .int .i64 t, .int .i64 e], [] =>
    bif mayK rho R P Q F D s C T E && inB c t e then k (.tuple ⟨[kV rho R P Q F D true c t e, w63 0]⟩) [] else k (.tuple ⟨[kV 0 0 0 0 0 0 false 0 0 0, w63 2]⟩) []
  | _, _ => none
noncomputable def meetZ (rho R P Q F D : Int) (s : Bool) (C T E c t e : Int) : Bool × Int :=
  bif decide ((readZ rho R P Q F D s C T E c).2.2 = 0) then
    (decide ((readZ rho R P Q F D s C T E c).1 - (readZ rho R P Q F D s C T E c).2.1 ≤ t + e) && decide (t - e ≤ (readZ rho R P Q F D s C T E c).1 + (readZ rho R P Q F D s C T E c).2.1), 0) else (false, (readZ rho R P Q F D s C T E c).2.2)
noncomputable def F82 : FSpec := fun args h k => match args, h with
  | [.agg ⟨[.int .i64 rho, .int .i64 R, .int .u64 P, .int .u64 Q, .int .i64 F, .int .i64 D, .bool s, .int .i64 C, .int .i64 T, .int .i64 E]⟩, .int .i64 c, .int .i64 t, .int .i64 e], [] =>
    bif mayK rho R P Q F D s C T E && inB c t e then k (.tuple ⟨[.bool (meetZ rho R P Q F D s C T E c t e).1, w63 (meetZ rho R P Q F D s C T E c t e).2]⟩) [] else k (.tuple ⟨[.bool false, w63 2]⟩) []
  | _, _ => none
noncomputable def F84 : FSpec := fun args h k => match args, h with
  | [.agg ⟨[.int .i64 rho, .int .i64 R, .int .u64 P, .int .u64 Q, .int .i64 F, .int .i64 D, .bool s, .int .i64 C, .int .i64 T, .int .i64 E]⟩, .int .i64 c, .int .i64 t, .int .i64 e], [] =>
    k (.tuple ⟨[.bool (meetZ rho R P Q F D s C T E c t e).1, w63 (meetZ rho R P Q F D s C T E c t e).2]⟩) []
  | _, _ => none
noncomputable def F77 : FSpec := fun args h k => match args, h with
  | [.int .i64 rho, .int .u64 P, .int .u64 Q, .int .i64 F, .int .i64 D], [] =>
    bif decide (1 ≤ rho) && decide (rho ≤ 500) && mayB (upI rho 4294967296 1000000) P Q F then
      k (.tuple ⟨[kV rho (upI rho 4294967296 1000000) P Q F (clampI D (-(upI rho 4294967296 1000000 / 16)) (upI rho 4294967296 1000000 / 16)) false 0 0 0, w63 0]⟩) []
    else k (.tuple ⟨[kV 0 0 0 0 0 0 false 0 0 0, w63 2]⟩) []
  | _, _ => none
noncomputable def F78 : FSpec := fun args h k => match args, h with
  | [.int .i64 rho, .int .u64 P, .int .u64 Q, .int .i64 F, .int .i64 D], [] =>
    bif decide (1 ≤ rho) && decide (rho ≤ 500) then
      k (.tuple ⟨[kV rho (upI rho 4294967296 1000000) P Q F (clampI D (-(upI rho 4294967296 1000000 / 16)) (upI rho 4294967296 1000000 / 16)) false 0 0 0, .bool (mayB (upI rho 4294967296 1000000) P Q F)]⟩) []
    else k (.tuple ⟨[kV 0 0 0 0 0 0 false 0 0 0, .bool false]⟩) []
  | _, _ => none
noncomputable def S75 : Spec := mkS [(72, false, F72), (111, false, F111)]
--CF cf75 (rho R P Q F D C T E c : Int) (s : Bool) :: fnK Try.prog S75 noL Try.f75 [kV rho R P Q F D s C T E, w63 c] []
theorem cf75 (rho R P Q F D C T E c : Int) (s : Bool) : fnK Try.prog S75 noL Try.f75 [kV rho R P Q F D s C T E, w63 c] [] =
     (bif !mayK rho R P Q F D s C T E then some (Res.ret (Value.tuple (Array.mk [Value.int IntKind.i64 0, Value.int IntKind.i64 0, Value.int IntKind.i64 2])) []) else bif !s then some (Res.ret (Value.tuple
     (Array.mk [Value.int IntKind.i64 0, Value.int IntKind.i64 0, Value.int IntKind.i64 7])) []) else bif decide (c < C) then some (Res.ret (Value.tuple (Array.mk [Value.int IntKind.i64 0, Value.int
     IntKind.i64 0, Value.int IntKind.i64 10])) []) else bif decide (1 ≤ R) && decide (rho ≤ 1000) then bif decide (readT R F D T (IntKind.i64.wrap (c - C)) < 0) then some (Res.ret (Value.tuple (Array.mk
     [Value.int IntKind.i64 0, Value.int IntKind.i64 0, Value.int IntKind.i64 9])) []) else bif decide (readT R F D T (IntKind.i64.wrap (c - C)) > 6000000000000000000) then some (Res.ret (Value.tuple
     (Array.mk [Value.int IntKind.i64 0, Value.int IntKind.i64 0, Value.int IntKind.i64 9])) []) else bif decide (readE rho R E (IntKind.i64.wrap (c - C)) > 4611686018427387904) then some (Res.ret
     (Value.tuple (Array.mk [Value.int IntKind.i64 0, Value.int IntKind.i64 0, Value.int IntKind.i64 9])) []) else some (Res.ret (Value.tuple (Array.mk [Value.int IntKind.i64 (readT R F D T
     (IntKind.i64.wrap (c - C))), Value.int IntKind.i64 (readE rho R E (IntKind.i64.wrap (c - C))), Value.int IntKind.i64 0])) []) else none) := by kernel_rfl
--CFEND
noncomputable def S80 : Spec := mkS [(20, false, F20), (56, false, F55), (79, false, F72), (112, false, F107g), (113, false, F117)]
--CF cf80 (rho R P Q F D C T E c : Int) (s : Bool) :: fnK Try.prog S80 noL Try.f80 [kV rho R P Q F D s C T E, w63 c] []
theorem cf80 (rho R P Q F D C T E c : Int) (s : Bool) : fnK Try.prog S80 noL Try.f80 [kV rho R P Q F D s C T E, w63 c] [] =
     (bif !mayK rho R P Q F D s C T E then some (Res.ret (Value.tuple (Array.mk [Value.int IntKind.i64 0, Value.int IntKind.i64 0, Value.int IntKind.i64 2])) []) else bif !s then some (Res.ret (Value.tuple
     (Array.mk [Value.int IntKind.i64 0, Value.int IntKind.i64 0, Value.int IntKind.i64 7])) []) else bif decide (c < C) then some (Res.ret (Value.tuple (Array.mk [Value.int IntKind.i64 0, Value.int
     IntKind.i64 0, Value.int IntKind.i64 10])) []) else bif decide (1 ≤ R) then bif decide (sumH [T, IntKind.i64.wrap (c - C), downI (IntKind.i64.wrap (c - C)) (laterZ F D (IntKind.i64.wrap (c - C)) R)
     4294967296] 0 < 0) then some (Res.ret (Value.tuple (Array.mk [Value.int IntKind.i64 0, Value.int IntKind.i64 0, Value.int IntKind.i64 9])) []) else bif decide (sumH [T, IntKind.i64.wrap (c - C), downI
     (IntKind.i64.wrap (c - C)) (laterZ F D (IntKind.i64.wrap (c - C)) R) 4294967296] 0 > 6000000000000000000) then some (Res.ret (Value.tuple (Array.mk [Value.int IntKind.i64 0, Value.int IntKind.i64 0,
     Value.int IntKind.i64 9])) []) else bif decide (sumH [E, bif true then upI (IntKind.i64.wrap (c - C)) (IntKind.i64.wrap (rho + 1)) 1000000 else downI (IntKind.i64.wrap (c - C)) (IntKind.i64.wrap (rho
     + 1)) 1000000, bif true then upI (IntKind.i64.wrap (c - C)) R 4294967296 else downI (IntKind.i64.wrap (c - C)) R 4294967296, 2] 0 > 4611686018427387904) then some (Res.ret (Value.tuple (Array.mk
     [Value.int IntKind.i64 0, Value.int IntKind.i64 0, Value.int IntKind.i64 9])) []) else some (Res.ret (Value.tuple (Array.mk [Value.int IntKind.i64 (sumH [T, IntKind.i64.wrap (c - C), downI
     (IntKind.i64.wrap (c - C)) (laterZ F D (IntKind.i64.wrap (c - C)) R) 4294967296] 0), Value.int IntKind.i64 (sumH [E, bif true then upI (IntKind.i64.wrap (c - C)) (IntKind.i64.wrap (rho + 1)) 1000000
     else downI (IntKind.i64.wrap (c - C)) (IntKind.i64.wrap (rho + 1)) 1000000, bif true then upI (IntKind.i64.wrap (c - C)) R 4294967296 else downI (IntKind.i64.wrap (c - C)) R 4294967296, 2] 0),
     Value.int IntKind.i64 0])) []) else none) := by kernel_rfl
--CFEND
noncomputable def S81 : Spec := mkS [(72, false, F72), (110, false, F110)]
--CF cf81 (rho R P Q F D C T E c t e : Int) (s : Bool) :: fnK Try.prog S81 noL Try.f81 [kV rho R P Q F D s C T E, w63 c, w63 t, w63 e] []
theorem cf81 (rho R P Q F D C T E c t e : Int) (s : Bool) : fnK Try.prog S81 noL Try.f81 [kV rho R P Q F D s C T E, w63 c, w63 t, w63 e] [] =
     (bif !mayK rho R P Q F D s C T E then some (Res.ret (Value.tuple (Array.mk [Value.agg (Array.mk [Value.int IntKind.i64 0, Value.int IntKind.i64 0, Value.int IntKind.u64 0, Value.int IntKind.u64 0,
     Value.int IntKind.i64 0, Value.int IntKind.i64 0, Value.bool false, Value.int IntKind.i64 0, Value.int IntKind.i64 0, Value.int IntKind.i64 0]), Value.int IntKind.i64 2])) []) else bif !inB c t e then
     some (Res.ret (Value.tuple (Array.mk [Value.agg (Array.mk [Value.int IntKind.i64 0, Value.int IntKind.i64 0, Value.int IntKind.u64 0, Value.int IntKind.u64 0, Value.int IntKind.i64 0, Value.int
     IntKind.i64 0, Value.bool false, Value.int IntKind.i64 0, Value.int IntKind.i64 0, Value.int IntKind.i64 0]), Value.int IntKind.i64 2])) []) else some (Res.ret (Value.tuple (Array.mk [Value.agg
     (Array.mk [Value.int IntKind.i64 rho, Value.int IntKind.i64 R, Value.int IntKind.u64 P, Value.int IntKind.u64 Q, Value.int IntKind.i64 F, Value.int IntKind.i64 D, Value.bool true, Value.int
     IntKind.i64 c, Value.int IntKind.i64 t, Value.int IntKind.i64 e]), Value.int IntKind.i64 0])) [])) := by kernel_rfl
--CFEND
noncomputable def S82 : Spec := mkS [(23, false, F23), (38, false, F38), (72, false, F72), (75, false, F75), (110, false, F110)]
--CF cf82 (rho R P Q F D C T E c t e : Int) (s : Bool) :: fnK Try.prog S82 noL Try.f82 [kV rho R P Q F D s C T E, w63 c, w63 t, w63 e] []
theorem cf82 (rho R P Q F D C T E c t e : Int) (s : Bool) : fnK Try.prog S82 noL Try.f82 [kV rho R P Q F D s C T E, w63 c, w63 t, w63 e] [] =
     (bif !mayK rho R P Q F D s C T E then some (Res.ret (Value.tuple (Array.mk [Value.bool false, Value.int IntKind.i64 2])) []) else bif !inB c t e then some (Res.ret (Value.tuple (Array.mk [Value.bool
     false, Value.int IntKind.i64 2])) []) else bif (readZ rho R P Q F D s C T E c).snd.snd != 0 then some (Res.ret (Value.tuple (Array.mk [Value.bool false, Value.int IntKind.i64 (readZ rho R P Q F D s C
     T E c).snd.snd])) []) else some (Res.ret (Value.tuple (Array.mk [Value.bool (decide (hold (sizeI (IntKind.i64.wrap ((readZ rho R P Q F D s C T E c).fst - t))) ≤ hold ((readZ rho R P Q F D s C T E
     c).snd.fst + e))), Value.int IntKind.i64 0])) [])) := by kernel_rfl
--CFEND
noncomputable def S77 : Spec := mkS [(34, false, F34), (50, false, F50), (53, false, F53)]
--CF cf77 (rho P Q F D : Int) :: fnK Try.prog S77 noL Try.f77 [w63 rho, w64 P, w64 Q, w63 F, w63 D] []
theorem cf77 (rho P Q F D : Int) : fnK Try.prog S77 noL Try.f77 [w63 rho, w64 P, w64 Q, w63 F, w63 D] [] =
     (bif decide (1 ≤ rho) && decide (rho ≤ 500) then bif !mayB (upI rho 4294967296 1000000) P Q F then some (Res.ret (Value.tuple (Array.mk [Value.agg (Array.mk [Value.int IntKind.i64 0, Value.int
     IntKind.i64 0, Value.int IntKind.u64 0, Value.int IntKind.u64 0, Value.int IntKind.i64 0, Value.int IntKind.i64 0, Value.bool false, Value.int IntKind.i64 0, Value.int IntKind.i64 0, Value.int
     IntKind.i64 0]), Value.int IntKind.i64 2])) []) else some (Res.ret (Value.tuple (Array.mk [Value.agg (Array.mk [Value.int IntKind.i64 rho, Value.int IntKind.i64 (upI rho 4294967296 1000000), Value.int
     IntKind.u64 P, Value.int IntKind.u64 Q, Value.int IntKind.i64 F, Value.int IntKind.i64 (if D < IntKind.i64.wrap (0 - IntKind.i64.wrap ((upI rho 4294967296 1000000).tdiv 16)) then IntKind.i64.wrap (0 -
     IntKind.i64.wrap ((upI rho 4294967296 1000000).tdiv 16)) else if D > IntKind.i64.wrap ((upI rho 4294967296 1000000).tdiv 16) then IntKind.i64.wrap ((upI rho 4294967296 1000000).tdiv 16) else D),
     Value.bool false, Value.int IntKind.i64 0, Value.int IntKind.i64 0, Value.int IntKind.i64 0]), Value.int IntKind.i64 0])) []) else some (Res.ret (Value.tuple (Array.mk [Value.agg (Array.mk [Value.int
     IntKind.i64 0, Value.int IntKind.i64 0, Value.int IntKind.u64 0, Value.int IntKind.u64 0, Value.int IntKind.i64 0, Value.int IntKind.i64 0, Value.bool false, Value.int IntKind.i64 0, Value.int
     IntKind.i64 0, Value.int IntKind.i64 0]), Value.int IntKind.i64 2])) [])) := by kernel_rfl
--CFEND
noncomputable def S78 : Spec := mkS [(51, false, F51), (54, false, F53)]
--CF cf78 (rho P Q F D : Int) :: fnK Try.prog S78 noL Try.f78 [w63 rho, w64 P, w64 Q, w63 F, w63 D] []
theorem cf78 (rho P Q F D : Int) : fnK Try.prog S78 noL Try.f78 [w63 rho, w64 P, w64 Q, w63 F, w63 D] [] =
     (bif decide (rho < 1) then some (Res.ret (Value.tuple (Array.mk [Value.agg (Array.mk [Value.int IntKind.i64 0, Value.int IntKind.i64 0, Value.int IntKind.u64 0, Value.int IntKind.u64 0, Value.int
     IntKind.i64 0, Value.int IntKind.i64 0, Value.bool false, Value.int IntKind.i64 0, Value.int IntKind.i64 0, Value.int IntKind.i64 0]), Value.bool false])) []) else bif decide (rho > 500) then some
     (Res.ret (Value.tuple (Array.mk [Value.agg (Array.mk [Value.int IntKind.i64 0, Value.int IntKind.i64 0, Value.int IntKind.u64 0, Value.int IntKind.u64 0, Value.int IntKind.i64 0, Value.int IntKind.i64
     0, Value.bool false, Value.int IntKind.i64 0, Value.int IntKind.i64 0, Value.int IntKind.i64 0]), Value.bool false])) []) else bif decide (D > IntKind.i64.wrap ((upI rho 4294967296 1000000).tdiv 16))
     then bif decide (D < IntKind.i64.wrap (0 - IntKind.i64.wrap ((upI rho 4294967296 1000000).tdiv 16))) then some (Res.ret (Value.tuple (Array.mk [Value.agg (Array.mk [Value.int IntKind.i64 rho,
     Value.int IntKind.i64 (upI rho 4294967296 1000000), Value.int IntKind.u64 P, Value.int IntKind.u64 Q, Value.int IntKind.i64 F, Value.int IntKind.i64 (IntKind.i64.wrap (0 - IntKind.i64.wrap ((upI rho
     4294967296 1000000).tdiv 16))), Value.bool false, Value.int IntKind.i64 0, Value.int IntKind.i64 0, Value.int IntKind.i64 0]), Value.bool (mayB (upI rho 4294967296 1000000) P Q F)])) []) else some
     (Res.ret (Value.tuple (Array.mk [Value.agg (Array.mk [Value.int IntKind.i64 rho, Value.int IntKind.i64 (upI rho 4294967296 1000000), Value.int IntKind.u64 P, Value.int IntKind.u64 Q, Value.int
     IntKind.i64 F, Value.int IntKind.i64 (IntKind.i64.wrap ((upI rho 4294967296 1000000).tdiv 16)), Value.bool false, Value.int IntKind.i64 0, Value.int IntKind.i64 0, Value.int IntKind.i64 0]),
     Value.bool (mayB (upI rho 4294967296 1000000) P Q F)])) []) else bif decide (D < IntKind.i64.wrap (0 - IntKind.i64.wrap ((upI rho 4294967296 1000000).tdiv 16))) then some (Res.ret (Value.tuple
     (Array.mk [Value.agg (Array.mk [Value.int IntKind.i64 rho, Value.int IntKind.i64 (upI rho 4294967296 1000000), Value.int IntKind.u64 P, Value.int IntKind.u64 Q, Value.int IntKind.i64 F, Value.int
     IntKind.i64 (IntKind.i64.wrap (0 - IntKind.i64.wrap ((upI rho 4294967296 1000000).tdiv 16))), Value.bool false, Value.int IntKind.i64 0, Value.int IntKind.i64 0, Value.int IntKind.i64 0]), Value.bool
     (mayB (upI rho 4294967296 1000000) P Q F)])) []) else some (Res.ret (Value.tuple (Array.mk [Value.agg (Array.mk [Value.int IntKind.i64 rho, Value.int IntKind.i64 (upI rho 4294967296 1000000),
     Value.int IntKind.u64 P, Value.int IntKind.u64 Q, Value.int IntKind.i64 F, Value.int IntKind.i64 D, Value.bool false, Value.int IntKind.i64 0, Value.int IntKind.i64 0, Value.int IntKind.i64 0]),
     Value.bool (mayB (upI rho 4294967296 1000000) P Q F)])) [])) := by kernel_rfl
--CFEND
noncomputable def S73 : Spec := mkS [(75, false, F75), (77, false, F77), (81, false, F81)]
--CF cf73 . :: fnK Try.prog S73 noL Try.f73 [] []
theorem cf73  : fnK Try.prog S73 noL Try.f73 [] [] =
     (bif mayB 429497 16 2 0 then bif mayK 100 429497 16 2 0 0 false 0 0 0 && inB 0 1000000000000000000 500 then bif (readZ 100 429497 16 2 0 0 true 0 1000000000000000000 500 0).snd.snd == 0 then bif
     (readZ 100 429497 16 2 0 0 true 0 1000000000000000000 500 1000000000).snd.snd == 0 then bif (readZ 100 429497 16 2 0 0 true 0 1000000000000000000 500 0).fst == 1000000000000000000 then bif (readZ 100
     429497 16 2 0 0 true 0 1000000000000000000 500 0).snd.fst == 502 then bif (readZ 100 429497 16 2 0 0 true 0 1000000000000000000 500 1000000000).fst == 1000000001000000000 then some (Res.ret
     (Value.bool ((readZ 100 429497 16 2 0 0 true 0 1000000000000000000 500 1000000000).snd.fst == 201503)) []) else some (Res.ret (Value.bool false) []) else some (Res.ret (Value.bool false) []) else some
     (Res.ret (Value.bool false) []) else some (Res.ret (Value.bool false) []) else some (Res.ret (Value.bool false) []) else some (Res.ret (Value.bool false) []) else bif mayK 0 0 0 0 0 0 false 0 0 0 &&
     inB 0 1000000000000000000 500 then some (Res.ret (Value.bool false) []) else some (Res.ret (Value.bool false) [])) := by kernel_rfl
--CFEND
noncomputable def S84 : Spec := mkS [(29, false, F29), (35, false, F35), (36, false, F36), (76, false, F76), (80, false, F75)]
--CF cf84a (rho R P Q F D C T E c t e : Int) (s : Bool) :: pieceK Try.prog S84 noL Try.f84.ntmps 0 [1, 2, 3, 4] (fstC (bodyOf Try.f84)) (slots0 0 [kV rho R P Q F D s C T E, w63 c, w63 t, w63 e]) []
theorem cf84a (rho R P Q F D C T E c t e : Int) (s : Bool) : pieceK Try.prog S84 noL Try.f84.ntmps 0 [1, 2, 3, 4] (fstC (bodyOf Try.f84)) (slots0 0 [kV rho R P Q F D s C T E, w63 c, w63 t, w63 e]) [] =
     (some (Res.at Exit.normal [(1, some (Value.int IntKind.i64 c)), (2, some (Value.int IntKind.i64 t)), (3, some (Value.int IntKind.i64 e)), (4, some (Value.pointer (some (Addr.mk 0 0 none))))] [some
     (Blk.mk true 10 [Seg.ints IntKind.i64 2 [rho, R], Seg.ints IntKind.u64 2 [P, Q], Seg.ints IntKind.i64 2 [F, D], Seg.vals [Value.bool s], Seg.ints IntKind.i64 3 [C, T, E]])])) := by kernel_rfl
--CFEND
abbrev kB (rho R P Q F D : Int) (s : Bool) (C T E : Int) : Option Blk := some ⟨true, 10, [.ints .i64 2 [rho, R], .ints .u64 2 [P, Q], .ints .i64 2 [F, D], .vals [.bool s], .ints .i64 3 [C, T, E]]⟩
--CF cf84b (rho R P Q F D C T E c t e : Int) (s : Bool) :: pieceK Try.prog S84 noL Try.f84.ntmps 0 [2, 3, 10, 11, 12] (fstC (sndC (bodyOf Try.f84))) (zipS [1, 2, 3, 4] [w63 c, w63 t, w63 e, pt 0]) [kB rho R P Q F D s C T E]
theorem cf84b (rho R P Q F D C T E c t e : Int) (s : Bool) : pieceK Try.prog S84 noL Try.f84.ntmps 0 [2, 3, 10, 11, 12] (fstC (sndC (bodyOf Try.f84))) (zipS [1, 2, 3, 4] [w63 c, w63 t, w63 e, pt 0]) [kB rho R P Q F D s C T E] =
     (some (Res.at Exit.normal [(2, some (Value.int IntKind.i64 t)), (3, some (Value.int IntKind.i64 e)), (10, some (Value.int IntKind.i64 (readZ rho R P Q F D s C T E c).fst)), (11, some (Value.int
     IntKind.i64 (readZ rho R P Q F D s C T E c).snd.fst)), (12, some (Value.int IntKind.i64 (readZ rho R P Q F D s C T E c).snd.snd))] [])) := by kernel_rfl
--CFEND
--CF cf84x (t e : Int) :: tailK Try.prog S84 noL Try.f84 0 (sndC (sndC (bodyOf Try.f84))) (zipS [2, 3, 10, 11, 12] [w63 t, w63 e, w63 0, w63 0, w63 2]) []
theorem cf84x (t e : Int) : tailK Try.prog S84 noL Try.f84 0 (sndC (sndC (bodyOf Try.f84))) (zipS [2, 3, 10, 11, 12] [w63 t, w63 e, w63 0, w63 0, w63 2]) [] =
     (some (Res.ret (Value.tuple (Array.mk [Value.bool false, Value.int IntKind.i64 2])) [])) := by kernel_rfl
--CFEND
--CF cf84c (t e at1 far : Int) :: pieceK Try.prog S84 noL Try.f84.ntmps 0 [2, 3, 10, 11] (fstC (sndC (sndC (bodyOf Try.f84)))) (zipS [2, 3, 10, 11, 12] [w63 t, w63 e, w63 at1, w63 far, w63 0]) []
theorem cf84c (t e at1 far : Int) : pieceK Try.prog S84 noL Try.f84.ntmps 0 [2, 3, 10, 11] (fstC (sndC (sndC (bodyOf Try.f84)))) (zipS [2, 3, 10, 11, 12] [w63 t, w63 e, w63 at1, w63 far, w63 0]) [] =
     (some (Res.at Exit.normal [(2, some (Value.int IntKind.i64 t)), (3, some (Value.int IntKind.i64 e)), (10, some (Value.int IntKind.i64 at1)), (11, some (Value.int IntKind.i64 far))] [])) := by kernel_rfl
--CFEND
--CF cf84d (t e at1 far : Int) :: pieceK Try.prog S84 noL Try.f84.ntmps 0 [2, 3, 13, 14] (fstC (sndC (sndC (sndC (bodyOf Try.f84))))) (zipS [2, 3, 10, 11] [w63 t, w63 e, w63 at1, w63 far]) []
theorem cf84d (t e at1 far : Int) : pieceK Try.prog S84 noL Try.f84.ntmps 0 [2, 3, 13, 14] (fstC (sndC (sndC (sndC (bodyOf Try.f84))))) (zipS [2, 3, 10, 11] [w63 t, w63 e, w63 at1, w63 far]) [] =
     (bif normB (digits at1.natAbs).length (digits at1.natAbs) && normB (digits far.natAbs).length (digits far.natAbs) && (digits at1.natAbs).length.ble (digits at1.natAbs).length && (digits
     far.natAbs).length.ble (digits far.natAbs).length && (digits at1.natAbs).length.ble (OfNat.ofNat 400000) && (digits far.natAbs).length.ble (OfNat.ofNat 400000) then bif normB (digits
     at1.natAbs).length (digits at1.natAbs) && normB (digits far.natAbs).length (digits far.natAbs) && (digits at1.natAbs).length.ble (digits at1.natAbs).length && (digits far.natAbs).length.ble (digits
     far.natAbs).length && (digits at1.natAbs).length.ble (OfNat.ofNat 400000) && (digits far.natAbs).length.ble (OfNat.ofNat 400000) then some (Res.at Exit.normal [(2, some (Value.int IntKind.i64 t)), (3,
     some (Value.int IntKind.i64 e)), (13, some (Value.pointer (some (Addr.mk 0 0 none)))), (14, some (Value.pointer (some (Addr.mk 2 0 none))))] [some (Blk.mk true 2 [Seg.vals [Value.bool (decide (sgn
     (decide (at1 < 0)) (numW (digits at1.natAbs).length (digits at1.natAbs)) - sgn (decide (far < 0)) (numW (digits far.natAbs).length (digits far.natAbs)) < 0)), Value.slice (some (Addr.mk 1 0 none))
     (digits (sgn (decide (at1 < 0)) (numW (digits at1.natAbs).length (digits at1.natAbs)) - sgn (decide (far < 0)) (numW (digits far.natAbs).length (digits far.natAbs))).natAbs).length 2]]), some (Blk.mk
     true 1 [Seg.ints IntKind.u64 (digits (sgn (decide (at1 < 0)) (numW (digits at1.natAbs).length (digits at1.natAbs)) - sgn (decide (far < 0)) (numW (digits far.natAbs).length (digits
     far.natAbs))).natAbs).length (digits (sgn (decide (at1 < 0)) (numW (digits at1.natAbs).length (digits at1.natAbs)) - sgn (decide (far < 0)) (numW (digits far.natAbs).length (digits
     far.natAbs))).natAbs)]), some (Blk.mk true 2 [Seg.vals [Value.bool (decide (sgn (decide (at1 < 0)) (numW (digits at1.natAbs).length (digits at1.natAbs)) + sgn (decide (far < 0)) (numW (digits
     far.natAbs).length (digits far.natAbs)) < 0)), Value.slice (some (Addr.mk 3 0 none)) (digits (sgn (decide (at1 < 0)) (numW (digits at1.natAbs).length (digits at1.natAbs)) + sgn (decide (far < 0))
     (numW (digits far.natAbs).length (digits far.natAbs))).natAbs).length 2]]), some (Blk.mk true 1 [Seg.ints IntKind.u64 (digits (sgn (decide (at1 < 0)) (numW (digits at1.natAbs).length (digits
     at1.natAbs)) + sgn (decide (far < 0)) (numW (digits far.natAbs).length (digits far.natAbs))).natAbs).length (digits (sgn (decide (at1 < 0)) (numW (digits at1.natAbs).length (digits at1.natAbs)) + sgn
     (decide (far < 0)) (numW (digits far.natAbs).length (digits far.natAbs))).natAbs)])]) else none else none) := by kernel_rfl
--CFEND
--CF cf84e (t e y z : Int) :: pieceK Try.prog S84 noL Try.f84.ntmps 0 [13, 14, 15, 16] (fstC (sndC (sndC (sndC (sndC (bodyOf Try.f84)))))) (zipS [2, 3, 13, 14] [w63 t, w63 e, pt 0, pt 2]) [zC 1 y, zB y, zC 3 z, zB z]
theorem cf84e (t e y z : Int) : pieceK Try.prog S84 noL Try.f84.ntmps 0 [13, 14, 15, 16] (fstC (sndC (sndC (sndC (sndC (bodyOf Try.f84)))))) (zipS [2, 3, 13, 14] [w63 t, w63 e, pt 0, pt 2]) [zC 1 y, zB y, zC 3 z, zB z] =
     (bif normB (digits t.natAbs).length (digits t.natAbs) && normB (digits e.natAbs).length (digits e.natAbs) && (digits t.natAbs).length.ble (digits t.natAbs).length && (digits e.natAbs).length.ble
     (digits e.natAbs).length && (digits t.natAbs).length.ble (OfNat.ofNat 400000) && (digits e.natAbs).length.ble (OfNat.ofNat 400000) then bif normB (digits t.natAbs).length (digits t.natAbs) && normB
     (digits e.natAbs).length (digits e.natAbs) && (digits t.natAbs).length.ble (digits t.natAbs).length && (digits e.natAbs).length.ble (digits e.natAbs).length && (digits t.natAbs).length.ble
     (OfNat.ofNat 400000) && (digits e.natAbs).length.ble (OfNat.ofNat 400000) then some (Res.at Exit.normal [(13, some (Value.pointer (some (Addr.mk 0 0 none)))), (14, some (Value.pointer (some (Addr.mk 2
     0 none)))), (15, some (Value.pointer (some (Addr.mk 4 0 none)))), (16, some (Value.pointer (some (Addr.mk 6 0 none))))] [some (Blk.mk true 2 [Seg.vals [Value.bool (decide (y < 0)), Value.slice (some
     (Addr.mk 1 0 none)) (digits y.natAbs).length 2]]), some (Blk.mk true 1 [Seg.ints IntKind.u64 (digits y.natAbs).length (digits y.natAbs)]), some (Blk.mk true 2 [Seg.vals [Value.bool (decide (z < 0)),
     Value.slice (some (Addr.mk 3 0 none)) (digits z.natAbs).length 2]]), some (Blk.mk true 1 [Seg.ints IntKind.u64 (digits z.natAbs).length (digits z.natAbs)]), some (Blk.mk true 2 [Seg.vals [Value.bool
     (decide (sgn (decide (t < 0)) (numW (digits t.natAbs).length (digits t.natAbs)) - sgn (decide (e < 0)) (numW (digits e.natAbs).length (digits e.natAbs)) < 0)), Value.slice (some (Addr.mk 5 0 none))
     (digits (sgn (decide (t < 0)) (numW (digits t.natAbs).length (digits t.natAbs)) - sgn (decide (e < 0)) (numW (digits e.natAbs).length (digits e.natAbs))).natAbs).length 2]]), some (Blk.mk true 1
     [Seg.ints IntKind.u64 (digits (sgn (decide (t < 0)) (numW (digits t.natAbs).length (digits t.natAbs)) - sgn (decide (e < 0)) (numW (digits e.natAbs).length (digits e.natAbs))).natAbs).length (digits
     (sgn (decide (t < 0)) (numW (digits t.natAbs).length (digits t.natAbs)) - sgn (decide (e < 0)) (numW (digits e.natAbs).length (digits e.natAbs))).natAbs)]), some (Blk.mk true 2 [Seg.vals [Value.bool
     (decide (sgn (decide (t < 0)) (numW (digits t.natAbs).length (digits t.natAbs)) + sgn (decide (e < 0)) (numW (digits e.natAbs).length (digits e.natAbs)) < 0)), Value.slice (some (Addr.mk 7 0 none))
     (digits (sgn (decide (t < 0)) (numW (digits t.natAbs).length (digits t.natAbs)) + sgn (decide (e < 0)) (numW (digits e.natAbs).length (digits e.natAbs))).natAbs).length 2]]), some (Blk.mk true 1
     [Seg.ints IntKind.u64 (digits (sgn (decide (t < 0)) (numW (digits t.natAbs).length (digits t.natAbs)) + sgn (decide (e < 0)) (numW (digits e.natAbs).length (digits e.natAbs))).natAbs).length (digits
     (sgn (decide (t < 0)) (numW (digits t.natAbs).length (digits t.natAbs)) + sgn (decide (e < 0)) (numW (digits e.natAbs).length (digits e.natAbs))).natAbs)])]) else none else none) := by kernel_rfl
--CFEND
--CF cf84f (y z u v : Int) :: tailK Try.prog S84 noL Try.f84 0 (sndC (sndC (sndC (sndC (sndC (bodyOf Try.f84)))))) (zipS [13, 14, 15, 16] [pt 0, pt 2, pt 4, pt 6]) [zC 1 y, zB y, zC 3 z, zB z, zC 5 u, zB u, zC 7 v, zB v]
theorem cf84f (y z u v : Int) : tailK Try.prog S84 noL Try.f84 0 (sndC (sndC (sndC (sndC (sndC (bodyOf Try.f84)))))) (zipS [13, 14, 15, 16] [pt 0, pt 2, pt 4, pt 6]) [zC 1 y, zB y, zC 3 z, zB z, zC 5 u, zB u, zC 7 v, zB v] =
     (bif normB (digits y.natAbs).length (digits y.natAbs) && normB (digits v.natAbs).length (digits v.natAbs) && (digits y.natAbs).length.ble (digits y.natAbs).length && (digits v.natAbs).length.ble
     (digits v.natAbs).length && chk (decide (y < 0) = true → 0 < numW (digits y.natAbs).length (digits y.natAbs)) && chk (decide (v < 0) = true → 0 < numW (digits v.natAbs).length (digits v.natAbs)) then
     bif decide (cmpZ (sgn (decide (y < 0)) (numW (digits y.natAbs).length (digits y.natAbs))) (sgn (decide (v < 0)) (numW (digits v.natAbs).length (digits v.natAbs))) ≤ 0) then bif normB (digits
     u.natAbs).length (digits u.natAbs) && normB (digits z.natAbs).length (digits z.natAbs) && (digits u.natAbs).length.ble (digits u.natAbs).length && (digits z.natAbs).length.ble (digits z.natAbs).length
     && chk (decide (u < 0) = true → 0 < numW (digits u.natAbs).length (digits u.natAbs)) && chk (decide (z < 0) = true → 0 < numW (digits z.natAbs).length (digits z.natAbs)) then some (Res.ret
     (Value.tuple (Array.mk [Value.bool (decide (cmpZ (sgn (decide (u < 0)) (numW (digits u.natAbs).length (digits u.natAbs))) (sgn (decide (z < 0)) (numW (digits z.natAbs).length (digits z.natAbs))) ≤
     0)), Value.int IntKind.i64 0])) []) else none else some (Res.ret (Value.tuple (Array.mk [Value.bool false, Value.int IntKind.i64 0])) []) else none) := by kernel_rfl
--CFEND
--CF cf84w (t e : Int) :: tailK Try.prog S84 noL Try.f84 0 (sndC (sndC (bodyOf Try.f84))) (zipS [2, 3, 10, 11, 12] [w63 t, w63 e, w63 0, w63 0, w63 7]) []
theorem cf84w (t e : Int) : tailK Try.prog S84 noL Try.f84 0 (sndC (sndC (bodyOf Try.f84))) (zipS [2, 3, 10, 11, 12] [w63 t, w63 e, w63 0, w63 0, w63 7]) [] =
     (some (Res.ret (Value.tuple (Array.mk [Value.bool false, Value.int IntKind.i64 7])) [])) := by kernel_rfl
--CFEND
--CF cf84y (t e : Int) :: tailK Try.prog S84 noL Try.f84 0 (sndC (sndC (bodyOf Try.f84))) (zipS [2, 3, 10, 11, 12] [w63 t, w63 e, w63 0, w63 0, w63 9]) []
theorem cf84y (t e : Int) : tailK Try.prog S84 noL Try.f84 0 (sndC (sndC (bodyOf Try.f84))) (zipS [2, 3, 10, 11, 12] [w63 t, w63 e, w63 0, w63 0, w63 9]) [] =
     (some (Res.ret (Value.tuple (Array.mk [Value.bool false, Value.int IntKind.i64 9])) [])) := by kernel_rfl
--CFEND
--CF cf84z (t e : Int) :: tailK Try.prog S84 noL Try.f84 0 (sndC (sndC (bodyOf Try.f84))) (zipS [2, 3, 10, 11, 12] [w63 t, w63 e, w63 0, w63 0, w63 10]) []
theorem cf84z (t e : Int) : tailK Try.prog S84 noL Try.f84 0 (sndC (sndC (bodyOf Try.f84))) (zipS [2, 3, 10, 11, 12] [w63 t, w63 e, w63 0, w63 0, w63 10]) [] =
     (some (Res.ret (Value.tuple (Array.mk [Value.bool false, Value.int IntKind.i64 10])) [])) := by kernel_rfl
--CFEND
noncomputable def S18 : Spec := mkS [(72, false, F72), (73, false, F22), (75, false, F75), (77, false, F77), (78, false, F78), (79, false, F72), (80, false, F75), (81, false, F81), (82, false, F82), (83, false, F110), (84, false, F84)]
--CF cf18 (rho R P Q F D C T E c t e : Int) (s : Bool) :: fnK Try.prog S18 noL Try.f18 [kV rho R P Q F D s C T E, w63 c, w63 t, w63 e] []
theorem cf18 (rho R P Q F D C T E c t e : Int) (s : Bool) : fnK Try.prog S18 noL Try.f18 [kV rho R P Q F D s C T E, w63 c, w63 t, w63 e] [] =
     (bif decide (1 ≤ rho) && decide (rho ≤ 500) && mayB (upI rho 4294967296 1000000) P Q F then bif decide (1 ≤ rho) && decide (rho ≤ 500) then bif mayB (upI rho 4294967296 1000000) P Q F then bif !(rho
     == rho && (upI rho 4294967296 1000000 == upI rho 4294967296 1000000 && (P == P && (Q == Q && (F == F && true))) && (clampI D (-(upI rho 4294967296 1000000 / 16)) (upI rho 4294967296 1000000 / 16) ==
     clampI D (-(upI rho 4294967296 1000000 / 16)) (upI rho 4294967296 1000000 / 16) && true))) then some (Res.ret (Value.bool false) []) else bif !mayB (upI rho 4294967296 1000000) P Q F then some
     (Res.ret (Value.bool false) []) else bif !mayK rho R P Q F D s C T E == mayK rho R P Q F D s C T E then some (Res.ret (Value.bool false) []) else bif (readZ rho R P Q F D s C T E c).fst != (readZ rho
     R P Q F D s C T E c).fst then some (Res.ret (Value.bool false) []) else bif (readZ rho R P Q F D s C T E c).snd.fst != (readZ rho R P Q F D s C T E c).snd.fst then some (Res.ret (Value.bool false) [])
     else bif (readZ rho R P Q F D s C T E c).snd.snd != (readZ rho R P Q F D s C T E c).snd.snd then some (Res.ret (Value.bool false) []) else bif mayK rho R P Q F D s C T E && inB c t e then bif mayK rho
     R P Q F D s C T E && inB c t e then bif !mayK rho R P Q F D s C T E then bif rho == 0 && (R == 0 && (P == 0 && (Q == 0 && (F == 0 && true))) && (D == 0 && false)) then some (Res.ret (Value.bool false)
     []) else some (Res.ret (Value.bool false) []) else bif !inB c t e then bif rho == 0 && (R == 0 && (P == 0 && (Q == 0 && (F == 0 && true))) && (D == 0 && false)) then some (Res.ret (Value.bool false)
     []) else some (Res.ret (Value.bool false) []) else bif rho == rho && (R == R && (P == P && (Q == Q && (F == F && true))) && (D == D && (c == c && (t == t && (e == e && true))))) then bif (meetZ rho R
     P Q F D s C T E c t e).fst == (meetZ rho R P Q F D s C T E c t e).fst then bif (meetZ rho R P Q F D s C T E c t e).snd == (meetZ rho R P Q F D s C T E c t e).snd then some (Res.ret (Value.bool true)
     []) else some (Res.ret (Value.bool false) []) else some (Res.ret (Value.bool false) []) else some (Res.ret (Value.bool false) []) else bif !mayK rho R P Q F D s C T E then bif rho == 0 && (R == 0 &&
     (P == 0 && (Q == 0 && (F == 0 && true))) && (D == 0 && false)) then some (Res.ret (Value.bool false) []) else some (Res.ret (Value.bool false) []) else bif !inB c t e then bif rho == 0 && (R == 0 &&
     (P == 0 && (Q == 0 && (F == 0 && true))) && (D == 0 && false)) then some (Res.ret (Value.bool false) []) else some (Res.ret (Value.bool false) []) else bif rho == rho && (R == R && (P == P && (Q == Q
     && (F == F && true))) && (D == D && (c == c && (t == t && (e == e && true))))) then bif false == (meetZ rho R P Q F D s C T E c t e).fst then bif 2 == (meetZ rho R P Q F D s C T E c t e).snd then some
     (Res.ret (Value.bool true) []) else some (Res.ret (Value.bool false) []) else some (Res.ret (Value.bool false) []) else some (Res.ret (Value.bool false) []) else bif mayK rho R P Q F D s C T E && inB
     c t e then bif !mayK rho R P Q F D s C T E then bif !(meetZ rho R P Q F D s C T E c t e).fst then bif (meetZ rho R P Q F D s C T E c t e).snd == 2 then some (Res.ret (Value.bool true) []) else some
     (Res.ret (Value.bool false) []) else some (Res.ret (Value.bool false) []) else bif !inB c t e then bif !(meetZ rho R P Q F D s C T E c t e).fst then bif (meetZ rho R P Q F D s C T E c t e).snd == 2
     then some (Res.ret (Value.bool true) []) else some (Res.ret (Value.bool false) []) else some (Res.ret (Value.bool false) []) else bif 0 == rho && (0 == R && (0 == P && (0 == Q && (0 == F && true))) &&
     (0 == D && false)) then some (Res.ret (Value.bool false) []) else some (Res.ret (Value.bool false) []) else bif !mayK rho R P Q F D s C T E then some (Res.ret (Value.bool true) []) else bif !inB c t e
     then some (Res.ret (Value.bool true) []) else bif 0 == rho && (0 == R && (0 == P && (0 == Q && (0 == F && true))) && (0 == D && false)) then some (Res.ret (Value.bool false) []) else some (Res.ret
     (Value.bool false) []) else bif !mayB (upI rho 4294967296 1000000) P Q F then some (Res.ret (Value.bool false) []) else bif !mayK rho R P Q F D s C T E == mayK rho R P Q F D s C T E then some (Res.ret
     (Value.bool false) []) else bif (readZ rho R P Q F D s C T E c).fst != (readZ rho R P Q F D s C T E c).fst then some (Res.ret (Value.bool false) []) else bif (readZ rho R P Q F D s C T E c).snd.fst !=
     (readZ rho R P Q F D s C T E c).snd.fst then some (Res.ret (Value.bool false) []) else bif (readZ rho R P Q F D s C T E c).snd.snd != (readZ rho R P Q F D s C T E c).snd.snd then some (Res.ret
     (Value.bool false) []) else bif mayK rho R P Q F D s C T E && inB c t e then bif mayK rho R P Q F D s C T E && inB c t e then bif !mayK rho R P Q F D s C T E then bif rho == 0 && (R == 0 && (P == 0 &&
     (Q == 0 && (F == 0 && true))) && (D == 0 && false)) then some (Res.ret (Value.bool false) []) else some (Res.ret (Value.bool false) []) else bif !inB c t e then bif rho == 0 && (R == 0 && (P == 0 &&
     (Q == 0 && (F == 0 && true))) && (D == 0 && false)) then some (Res.ret (Value.bool false) []) else some (Res.ret (Value.bool false) []) else bif rho == rho && (R == R && (P == P && (Q == Q && (F == F
     && true))) && (D == D && (c == c && (t == t && (e == e && true))))) then bif (meetZ rho R P Q F D s C T E c t e).fst == (meetZ rho R P Q F D s C T E c t e).fst then bif (meetZ rho R P Q F D s C T E c
     t e).snd == (meetZ rho R P Q F D s C T E c t e).snd then some (Res.ret (Value.bool true) []) else some (Res.ret (Value.bool false) []) else some (Res.ret (Value.bool false) []) else some (Res.ret
     (Value.bool false) []) else bif !mayK rho R P Q F D s C T E then bif rho == 0 && (R == 0 && (P == 0 && (Q == 0 && (F == 0 && true))) && (D == 0 && false)) then some (Res.ret (Value.bool false) [])
     else some (Res.ret (Value.bool false) []) else bif !inB c t e then bif rho == 0 && (R == 0 && (P == 0 && (Q == 0 && (F == 0 && true))) && (D == 0 && false)) then some (Res.ret (Value.bool false) [])
     else some (Res.ret (Value.bool false) []) else bif rho == rho && (R == R && (P == P && (Q == Q && (F == F && true))) && (D == D && (c == c && (t == t && (e == e && true))))) then bif false == (meetZ
     rho R P Q F D s C T E c t e).fst then bif 2 == (meetZ rho R P Q F D s C T E c t e).snd then some (Res.ret (Value.bool true) []) else some (Res.ret (Value.bool false) []) else some (Res.ret (Value.bool
     false) []) else some (Res.ret (Value.bool false) []) else bif mayK rho R P Q F D s C T E && inB c t e then bif !mayK rho R P Q F D s C T E then bif !(meetZ rho R P Q F D s C T E c t e).fst then bif
     (meetZ rho R P Q F D s C T E c t e).snd == 2 then some (Res.ret (Value.bool true) []) else some (Res.ret (Value.bool false) []) else some (Res.ret (Value.bool false) []) else bif !inB c t e then bif
     !(meetZ rho R P Q F D s C T E c t e).fst then bif (meetZ rho R P Q F D s C T E c t e).snd == 2 then some (Res.ret (Value.bool true) []) else some (Res.ret (Value.bool false) []) else some (Res.ret
     (Value.bool false) []) else bif 0 == rho && (0 == R && (0 == P && (0 == Q && (0 == F && true))) && (0 == D && false)) then some (Res.ret (Value.bool false) []) else some (Res.ret (Value.bool false)
     []) else bif !mayK rho R P Q F D s C T E then some (Res.ret (Value.bool true) []) else bif !inB c t e then some (Res.ret (Value.bool true) []) else bif 0 == rho && (0 == R && (0 == P && (0 == Q && (0
     == F && true))) && (0 == D && false)) then some (Res.ret (Value.bool false) []) else some (Res.ret (Value.bool false) []) else some (Res.ret (Value.bool false) []) else bif decide (1 ≤ rho) && decide
     (rho ≤ 500) then bif mayB (upI rho 4294967296 1000000) P Q F then some (Res.ret (Value.bool false) []) else bif !mayB (upI rho 4294967296 1000000) P Q F then bif !mayK rho R P Q F D s C T E == mayK
     rho R P Q F D s C T E then some (Res.ret (Value.bool false) []) else bif (readZ rho R P Q F D s C T E c).fst != (readZ rho R P Q F D s C T E c).fst then some (Res.ret (Value.bool false) []) else bif
     (readZ rho R P Q F D s C T E c).snd.fst != (readZ rho R P Q F D s C T E c).snd.fst then some (Res.ret (Value.bool false) []) else bif (readZ rho R P Q F D s C T E c).snd.snd != (readZ rho R P Q F D s
     C T E c).snd.snd then some (Res.ret (Value.bool false) []) else bif mayK rho R P Q F D s C T E && inB c t e then bif mayK rho R P Q F D s C T E && inB c t e then bif !mayK rho R P Q F D s C T E then
     bif rho == 0 && (R == 0 && (P == 0 && (Q == 0 && (F == 0 && true))) && (D == 0 && false)) then some (Res.ret (Value.bool false) []) else some (Res.ret (Value.bool false) []) else bif !inB c t e then
     bif rho == 0 && (R == 0 && (P == 0 && (Q == 0 && (F == 0 && true))) && (D == 0 && false)) then some (Res.ret (Value.bool false) []) else some (Res.ret (Value.bool false) []) else bif rho == rho && (R
     == R && (P == P && (Q == Q && (F == F && true))) && (D == D && (c == c && (t == t && (e == e && true))))) then bif (meetZ rho R P Q F D s C T E c t e).fst == (meetZ rho R P Q F D s C T E c t e).fst
     then bif (meetZ rho R P Q F D s C T E c t e).snd == (meetZ rho R P Q F D s C T E c t e).snd then some (Res.ret (Value.bool true) []) else some (Res.ret (Value.bool false) []) else some (Res.ret
     (Value.bool false) []) else some (Res.ret (Value.bool false) []) else bif !mayK rho R P Q F D s C T E then bif rho == 0 && (R == 0 && (P == 0 && (Q == 0 && (F == 0 && true))) && (D == 0 && false))
     then some (Res.ret (Value.bool false) []) else some (Res.ret (Value.bool false) []) else bif !inB c t e then bif rho == 0 && (R == 0 && (P == 0 && (Q == 0 && (F == 0 && true))) && (D == 0 && false))
     then some (Res.ret (Value.bool false) []) else some (Res.ret (Value.bool false) []) else bif rho == rho && (R == R && (P == P && (Q == Q && (F == F && true))) && (D == D && (c == c && (t == t && (e ==
     e && true))))) then bif false == (meetZ rho R P Q F D s C T E c t e).fst then bif 2 == (meetZ rho R P Q F D s C T E c t e).snd then some (Res.ret (Value.bool true) []) else some (Res.ret (Value.bool
     false) []) else some (Res.ret (Value.bool false) []) else some (Res.ret (Value.bool false) []) else bif mayK rho R P Q F D s C T E && inB c t e then bif !mayK rho R P Q F D s C T E then bif !(meetZ
     rho R P Q F D s C T E c t e).fst then bif (meetZ rho R P Q F D s C T E c t e).snd == 2 then some (Res.ret (Value.bool true) []) else some (Res.ret (Value.bool false) []) else some (Res.ret (Value.bool
     false) []) else bif !inB c t e then bif !(meetZ rho R P Q F D s C T E c t e).fst then bif (meetZ rho R P Q F D s C T E c t e).snd == 2 then some (Res.ret (Value.bool true) []) else some (Res.ret
     (Value.bool false) []) else some (Res.ret (Value.bool false) []) else bif 0 == rho && (0 == R && (0 == P && (0 == Q && (0 == F && true))) && (0 == D && false)) then some (Res.ret (Value.bool false)
     []) else some (Res.ret (Value.bool false) []) else bif !mayK rho R P Q F D s C T E then some (Res.ret (Value.bool true) []) else bif !inB c t e then some (Res.ret (Value.bool true) []) else bif 0 ==
     rho && (0 == R && (0 == P && (0 == Q && (0 == F && true))) && (0 == D && false)) then some (Res.ret (Value.bool false) []) else some (Res.ret (Value.bool false) []) else bif !mayK rho R P Q F D s C T
     E == mayK rho R P Q F D s C T E then some (Res.ret (Value.bool false) []) else bif (readZ rho R P Q F D s C T E c).fst != (readZ rho R P Q F D s C T E c).fst then some (Res.ret (Value.bool false) [])
     else bif (readZ rho R P Q F D s C T E c).snd.fst != (readZ rho R P Q F D s C T E c).snd.fst then some (Res.ret (Value.bool false) []) else bif (readZ rho R P Q F D s C T E c).snd.snd != (readZ rho R P
     Q F D s C T E c).snd.snd then some (Res.ret (Value.bool false) []) else bif mayK rho R P Q F D s C T E && inB c t e then bif mayK rho R P Q F D s C T E && inB c t e then bif !mayK rho R P Q F D s C T
     E then bif rho == 0 && (R == 0 && (P == 0 && (Q == 0 && (F == 0 && true))) && (D == 0 && false)) then some (Res.ret (Value.bool false) []) else some (Res.ret (Value.bool false) []) else bif !inB c t e
     then bif rho == 0 && (R == 0 && (P == 0 && (Q == 0 && (F == 0 && true))) && (D == 0 && false)) then some (Res.ret (Value.bool false) []) else some (Res.ret (Value.bool false) []) else bif rho == rho
     && (R == R && (P == P && (Q == Q && (F == F && true))) && (D == D && (c == c && (t == t && (e == e && true))))) then bif (meetZ rho R P Q F D s C T E c t e).fst == (meetZ rho R P Q F D s C T E c t
     e).fst then bif (meetZ rho R P Q F D s C T E c t e).snd == (meetZ rho R P Q F D s C T E c t e).snd then some (Res.ret (Value.bool true) []) else some (Res.ret (Value.bool false) []) else some (Res.ret
     (Value.bool false) []) else some (Res.ret (Value.bool false) []) else bif !mayK rho R P Q F D s C T E then bif rho == 0 && (R == 0 && (P == 0 && (Q == 0 && (F == 0 && true))) && (D == 0 && false))
     then some (Res.ret (Value.bool false) []) else some (Res.ret (Value.bool false) []) else bif !inB c t e then bif rho == 0 && (R == 0 && (P == 0 && (Q == 0 && (F == 0 && true))) && (D == 0 && false))
     then some (Res.ret (Value.bool false) []) else some (Res.ret (Value.bool false) []) else bif rho == rho && (R == R && (P == P && (Q == Q && (F == F && true))) && (D == D && (c == c && (t == t && (e ==
     e && true))))) then bif false == (meetZ rho R P Q F D s C T E c t e).fst then bif 2 == (meetZ rho R P Q F D s C T E c t e).snd then some (Res.ret (Value.bool true) []) else some (Res.ret (Value.bool
     false) []) else some (Res.ret (Value.bool false) []) else some (Res.ret (Value.bool false) []) else bif mayK rho R P Q F D s C T E && inB c t e then bif !mayK rho R P Q F D s C T E then bif !(meetZ
     rho R P Q F D s C T E c t e).fst then bif (meetZ rho R P Q F D s C T E c t e).snd == 2 then some (Res.ret (Value.bool true) []) else some (Res.ret (Value.bool false) []) else some (Res.ret (Value.bool
     false) []) else bif !inB c t e then bif !(meetZ rho R P Q F D s C T E c t e).fst then bif (meetZ rho R P Q F D s C T E c t e).snd == 2 then some (Res.ret (Value.bool true) []) else some (Res.ret
     (Value.bool false) []) else some (Res.ret (Value.bool false) []) else bif 0 == rho && (0 == R && (0 == P && (0 == Q && (0 == F && true))) && (0 == D && false)) then some (Res.ret (Value.bool false)
     []) else some (Res.ret (Value.bool false) []) else bif !mayK rho R P Q F D s C T E then some (Res.ret (Value.bool true) []) else bif !inB c t e then some (Res.ret (Value.bool true) []) else bif 0 ==
     rho && (0 == R && (0 == P && (0 == Q && (0 == F && true))) && (0 == D && false)) then some (Res.ret (Value.bool false) []) else some (Res.ret (Value.bool false) []) else bif !mayK rho R P Q F D s C T
     E == mayK rho R P Q F D s C T E then some (Res.ret (Value.bool false) []) else bif (readZ rho R P Q F D s C T E c).fst != (readZ rho R P Q F D s C T E c).fst then some (Res.ret (Value.bool false) [])
     else bif (readZ rho R P Q F D s C T E c).snd.fst != (readZ rho R P Q F D s C T E c).snd.fst then some (Res.ret (Value.bool false) []) else bif (readZ rho R P Q F D s C T E c).snd.snd != (readZ rho R P
     Q F D s C T E c).snd.snd then some (Res.ret (Value.bool false) []) else bif mayK rho R P Q F D s C T E && inB c t e then bif mayK rho R P Q F D s C T E && inB c t e then bif !mayK rho R P Q F D s C T
     E then bif rho == 0 && (R == 0 && (P == 0 && (Q == 0 && (F == 0 && true))) && (D == 0 && false)) then some (Res.ret (Value.bool false) []) else some (Res.ret (Value.bool false) []) else bif !inB c t e
     then bif rho == 0 && (R == 0 && (P == 0 && (Q == 0 && (F == 0 && true))) && (D == 0 && false)) then some (Res.ret (Value.bool false) []) else some (Res.ret (Value.bool false) []) else bif rho == rho
     && (R == R && (P == P && (Q == Q && (F == F && true))) && (D == D && (c == c && (t == t && (e == e && true))))) then bif (meetZ rho R P Q F D s C T E c t e).fst == (meetZ rho R P Q F D s C T E c t
     e).fst then bif (meetZ rho R P Q F D s C T E c t e).snd == (meetZ rho R P Q F D s C T E c t e).snd then some (Res.ret (Value.bool true) []) else some (Res.ret (Value.bool false) []) else some (Res.ret
     (Value.bool false) []) else some (Res.ret (Value.bool false) []) else bif !mayK rho R P Q F D s C T E then bif rho == 0 && (R == 0 && (P == 0 && (Q == 0 && (F == 0 && true))) && (D == 0 && false))
     then some (Res.ret (Value.bool false) []) else some (Res.ret (Value.bool false) []) else bif !inB c t e then bif rho == 0 && (R == 0 && (P == 0 && (Q == 0 && (F == 0 && true))) && (D == 0 && false))
     then some (Res.ret (Value.bool false) []) else some (Res.ret (Value.bool false) []) else bif rho == rho && (R == R && (P == P && (Q == Q && (F == F && true))) && (D == D && (c == c && (t == t && (e ==
     e && true))))) then bif false == (meetZ rho R P Q F D s C T E c t e).fst then bif 2 == (meetZ rho R P Q F D s C T E c t e).snd then some (Res.ret (Value.bool true) []) else some (Res.ret (Value.bool
     false) []) else some (Res.ret (Value.bool false) []) else some (Res.ret (Value.bool false) []) else bif mayK rho R P Q F D s C T E && inB c t e then bif !mayK rho R P Q F D s C T E then bif !(meetZ
     rho R P Q F D s C T E c t e).fst then bif (meetZ rho R P Q F D s C T E c t e).snd == 2 then some (Res.ret (Value.bool true) []) else some (Res.ret (Value.bool false) []) else some (Res.ret (Value.bool
     false) []) else bif !inB c t e then bif !(meetZ rho R P Q F D s C T E c t e).fst then bif (meetZ rho R P Q F D s C T E c t e).snd == 2 then some (Res.ret (Value.bool true) []) else some (Res.ret
     (Value.bool false) []) else some (Res.ret (Value.bool false) []) else bif 0 == rho && (0 == R && (0 == P && (0 == Q && (0 == F && true))) && (0 == D && false)) then some (Res.ret (Value.bool false)
     []) else some (Res.ret (Value.bool false) []) else bif !mayK rho R P Q F D s C T E then some (Res.ret (Value.bool true) []) else bif !inB c t e then some (Res.ret (Value.bool true) []) else bif 0 ==
     rho && (0 == R && (0 == P && (0 == Q && (0 == F && true))) && (0 == D && false)) then some (Res.ret (Value.bool false) []) else some (Res.ret (Value.bool false) [])) := by kernel_rfl
--CFEND
end Go.Proofs.Ytfgehfnlkakioaa.VC

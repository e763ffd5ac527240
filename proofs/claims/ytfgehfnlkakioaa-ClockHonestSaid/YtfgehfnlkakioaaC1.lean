/- clock: what its functions compute. -/
import Derived.Test.YtfgehfnlkakioaaUX
namespace Go.Proofs.Ytfgehfnlkakioaa.VC
open Go Go.Proofs

abbrev kV (rho R P Q F D : Int) (s : Bool) (C T E : Int) : Value := .agg ⟨[w63 rho, w63 R, w64 P, w64 Q, w63 F, w63 D, .bool s, w63 C, w63 T, w63 E]⟩
noncomputable def inB (c t e : Int) : Bool := chk (0 ≤ c ∧ 0 ≤ t ∧ t ≤ 6000000000000000000 ∧ 0 ≤ e ∧ e ≤ 2305843009213693952)
noncomputable def mayK (rho R P Q F D : Int) (s : Bool) (C T E : Int) : Bool :=
  chk (1 ≤ rho ∧ rho ≤ 500 ∧ R = upI rho 4294967296 1000000 ∧ mayB R P Q F = true ∧ -(R / 16) ≤ D ∧ D ≤ R / 16 ∧ (s = true → inB C T E = true) ∧ (s = false → C = 0 ∧ T = 0 ∧ E = 0))
def laterZ (f d x r : Int) : Int := clampI (hold (f + downI d x 3600000000000)) (-r) r
def sumH : List Int → Int → Int
  | [], n => n
  | v :: r, n => sumH r (hold (n + v))
noncomputable def F110 : FSpec := fun args h k => match args, h with
  | [.int .i64 c, .int .i64 t, .int .i64 e], [] => k (.bool (inB c t e)) []
  | _, _ => none
noncomputable def F72 : FSpec := fun args h k => match args, h with
  | [.agg ⟨[.int .i64 rho, .int .i64 R, .int .u64 P, .int .u64 Q, .int .i64 F, .int .i64 D, .bool s, .int .i64 C, .int .i64 T, .int .i64 E]⟩], [] => k (.bool (mayK rho R P Q F D s C T E)) []
  | _, _ => none
def F107g : FSpec := fun args h k => match args, h with
  | [.int .i64 f, .int .i64 d, .int .i64 x, .int .i64 r], [] => bif decide (1 ≤ r) then k (w63 (laterZ f d x r)) [] else none
  | _, _ => none
def F117 : FSpec := fun args h k => match args, h with
  | [.slice (some ⟨0, 0, none⟩) n _], [some ⟨false, 1, [.ints .i64 m xs]⟩] => bif Nat.beq n m && Nat.ble n 1000000 then k (w63 (sumH xs 0)) [some ⟨false, 1, [.ints .i64 m xs]⟩] else none
  | _, _ => none
--CF cf110 (c t e : Int) :: fnK Try.prog (mkS []) noL Try.f110 [w63 c, w63 t, w63 e] []
theorem cf110 (c t e : Int) : fnK Try.prog (mkS []) noL Try.f110 [w63 c, w63 t, w63 e] [] =
     (bif decide (c ≥ 0) then bif decide (t ≥ 0) then bif decide (t ≤ 6000000000000000000) then bif decide (e ≥ 0) then some (Res.ret (Value.bool (decide (e ≤ 2305843009213693952))) []) else some (Res.ret
     (Value.bool false) []) else some (Res.ret (Value.bool false) []) else some (Res.ret (Value.bool false) []) else some (Res.ret (Value.bool false) [])) := by kernel_rfl
--CFEND
--CF cf83 (c t e : Int) :: fnK Try.prog (mkS []) noL Try.f83 [w63 c, w63 t, w63 e] []
theorem cf83 (c t e : Int) : fnK Try.prog (mkS []) noL Try.f83 [w63 c, w63 t, w63 e] [] =
     (bif decide (c ≥ 0) then bif decide (t ≥ 0) then bif decide (t ≤ 6000000000000000000) then bif decide (e ≥ 0) then some (Res.ret (Value.bool (decide (e ≤ 2305843009213693952))) []) else some (Res.ret
     (Value.bool false) []) else some (Res.ret (Value.bool false) []) else some (Res.ret (Value.bool false) []) else some (Res.ret (Value.bool false) [])) := by kernel_rfl
--CFEND
noncomputable def S72 : Spec := mkS [(50, false, F50), (53, false, F53), (110, false, F110)]
--CF cf72 (rho R P Q F D C T E : Int) (s : Bool) :: fnK Try.prog S72 noL Try.f72 [kV rho R P Q F D s C T E] []
theorem cf72 (rho R P Q F D C T E : Int) (s : Bool) : fnK Try.prog S72 noL Try.f72 [kV rho R P Q F D s C T E] [] =
     (bif decide (1 ≤ rho) && decide (rho ≤ 500) then bif R != upI rho 4294967296 1000000 then some (Res.ret (Value.bool false) []) else bif !mayB R P Q F then some (Res.ret (Value.bool false) []) else bif
     decide (D < IntKind.i64.wrap (0 - IntKind.i64.wrap ((upI rho 4294967296 1000000).tdiv 16))) then some (Res.ret (Value.bool false) []) else bif decide (D > IntKind.i64.wrap ((upI rho 4294967296
     1000000).tdiv 16)) then some (Res.ret (Value.bool false) []) else bif !s then bif C == 0 then bif T == 0 then some (Res.ret (Value.bool (E == 0)) []) else some (Res.ret (Value.bool false) []) else
     some (Res.ret (Value.bool false) []) else some (Res.ret (Value.bool (inB C T E)) []) else some (Res.ret (Value.bool false) [])) := by kernel_rfl
--CFEND
noncomputable def S79 : Spec := mkS [(51, false, F51), (54, false, F53), (83, false, F110)]
--CF cf79 (rho R P Q F D C T E : Int) (s : Bool) :: fnK Try.prog S79 noL Try.f79 [kV rho R P Q F D s C T E] []
theorem cf79 (rho R P Q F D C T E : Int) (s : Bool) : fnK Try.prog S79 noL Try.f79 [kV rho R P Q F D s C T E] [] =
     (bif decide (rho < 1) then some (Res.ret (Value.bool false) []) else bif decide (rho > 500) then some (Res.ret (Value.bool false) []) else bif R != upI rho 4294967296 1000000 then some (Res.ret
     (Value.bool false) []) else bif !mayB R P Q F then some (Res.ret (Value.bool false) []) else bif decide (D > IntKind.i64.wrap ((upI rho 4294967296 1000000).tdiv 16)) then some (Res.ret (Value.bool
     false) []) else bif decide (D < IntKind.i64.wrap (0 - IntKind.i64.wrap ((upI rho 4294967296 1000000).tdiv 16))) then some (Res.ret (Value.bool false) []) else bif s then some (Res.ret (Value.bool (inB
     C T E)) []) else bif C == 0 then bif T == 0 then some (Res.ret (Value.bool (E == 0)) []) else some (Res.ret (Value.bool false) []) else some (Res.ret (Value.bool false) [])) := by kernel_rfl
--CFEND
def S107g : Spec := mkS [(19, false, F19), (23, false, F23), (34, false, F34)]
--CF cf107g (f d x r : Int) :: fnK Try.prog S107g noL Try.f107 [w63 f, w63 d, w63 x, w63 r] []
theorem cf107g (f d x r : Int) : fnK Try.prog S107g noL Try.f107 [w63 f, w63 d, w63 x, w63 r] [] =
     (some (Res.ret (Value.int IntKind.i64 (if hold (f + downI d x 3600000000000) < IntKind.i64.wrap (0 - r) then IntKind.i64.wrap (0 - r) else if hold (f + downI d x 3600000000000) > r then r else hold (f
     + downI d x 3600000000000))) [])) := by kernel_rfl
--CFEND
noncomputable def S112 : Spec := mkS [(20, false, F20), (29, false, F29), (31, false, F31), (35, false, F35)]
--CF cf112 (f d x r : Int) :: fnK Try.prog S112 noL Try.f112 [w63 f, w63 d, w63 x, w63 r] []
theorem cf112 (f d x r : Int) : fnK Try.prog S112 noL Try.f112 [w63 f, w63 d, w63 x, w63 r] [] =
     (bif normB (digits f.natAbs).length (digits f.natAbs) && normB (digits (bif false then upI d x 3600000000000 else downI d x 3600000000000).natAbs).length (digits (bif false then upI d x 3600000000000
     else downI d x 3600000000000).natAbs) && (digits f.natAbs).length.ble (digits f.natAbs).length && (digits (bif false then upI d x 3600000000000 else downI d x 3600000000000).natAbs).length.ble (digits
     (bif false then upI d x 3600000000000 else downI d x 3600000000000).natAbs).length && (digits f.natAbs).length.ble (OfNat.ofNat 400000) && (digits (bif false then upI d x 3600000000000 else downI d x
     3600000000000).natAbs).length.ble (OfNat.ofNat 400000) then bif normB (digits (sgn (decide (f < 0)) (numW (digits f.natAbs).length (digits f.natAbs)) + sgn (decide ((bif false then upI d x
     3600000000000 else downI d x 3600000000000) < 0)) (numW (digits (bif false then upI d x 3600000000000 else downI d x 3600000000000).natAbs).length (digits (bif false then upI d x 3600000000000 else
     downI d x 3600000000000).natAbs))).natAbs).length (digits (sgn (decide (f < 0)) (numW (digits f.natAbs).length (digits f.natAbs)) + sgn (decide ((bif false then upI d x 3600000000000 else downI d x
     3600000000000) < 0)) (numW (digits (bif false then upI d x 3600000000000 else downI d x 3600000000000).natAbs).length (digits (bif false then upI d x 3600000000000 else downI d x
     3600000000000).natAbs))).natAbs) && (digits (sgn (decide (f < 0)) (numW (digits f.natAbs).length (digits f.natAbs)) + sgn (decide ((bif false then upI d x 3600000000000 else downI d x 3600000000000) <
     0)) (numW (digits (bif false then upI d x 3600000000000 else downI d x 3600000000000).natAbs).length (digits (bif false then upI d x 3600000000000 else downI d x
     3600000000000).natAbs))).natAbs).length.ble (digits (sgn (decide (f < 0)) (numW (digits f.natAbs).length (digits f.natAbs)) + sgn (decide ((bif false then upI d x 3600000000000 else downI d x
     3600000000000) < 0)) (numW (digits (bif false then upI d x 3600000000000 else downI d x 3600000000000).natAbs).length (digits (bif false then upI d x 3600000000000 else downI d x
     3600000000000).natAbs))).natAbs).length then bif decide (hold (sgn (decide (sgn (decide (f < 0)) (numW (digits f.natAbs).length (digits f.natAbs)) + sgn (decide ((bif false then upI d x 3600000000000
     else downI d x 3600000000000) < 0)) (numW (digits (bif false then upI d x 3600000000000 else downI d x 3600000000000).natAbs).length (digits (bif false then upI d x 3600000000000 else downI d x
     3600000000000).natAbs)) < 0)) (numW (digits (sgn (decide (f < 0)) (numW (digits f.natAbs).length (digits f.natAbs)) + sgn (decide ((bif false then upI d x 3600000000000 else downI d x 3600000000000) <
     0)) (numW (digits (bif false then upI d x 3600000000000 else downI d x 3600000000000).natAbs).length (digits (bif false then upI d x 3600000000000 else downI d x
     3600000000000).natAbs))).natAbs).length (digits (sgn (decide (f < 0)) (numW (digits f.natAbs).length (digits f.natAbs)) + sgn (decide ((bif false then upI d x 3600000000000 else downI d x
     3600000000000) < 0)) (numW (digits (bif false then upI d x 3600000000000 else downI d x 3600000000000).natAbs).length (digits (bif false then upI d x 3600000000000 else downI d x
     3600000000000).natAbs))).natAbs))) < IntKind.i64.wrap (0 - r)) then some (Res.ret (Value.int IntKind.i64 (IntKind.i64.wrap (0 - r))) []) else bif decide (hold (sgn (decide (sgn (decide (f < 0)) (numW
     (digits f.natAbs).length (digits f.natAbs)) + sgn (decide ((bif false then upI d x 3600000000000 else downI d x 3600000000000) < 0)) (numW (digits (bif false then upI d x 3600000000000 else downI d x
     3600000000000).natAbs).length (digits (bif false then upI d x 3600000000000 else downI d x 3600000000000).natAbs)) < 0)) (numW (digits (sgn (decide (f < 0)) (numW (digits f.natAbs).length (digits
     f.natAbs)) + sgn (decide ((bif false then upI d x 3600000000000 else downI d x 3600000000000) < 0)) (numW (digits (bif false then upI d x 3600000000000 else downI d x 3600000000000).natAbs).length
     (digits (bif false then upI d x 3600000000000 else downI d x 3600000000000).natAbs))).natAbs).length (digits (sgn (decide (f < 0)) (numW (digits f.natAbs).length (digits f.natAbs)) + sgn (decide ((bif
     false then upI d x 3600000000000 else downI d x 3600000000000) < 0)) (numW (digits (bif false then upI d x 3600000000000 else downI d x 3600000000000).natAbs).length (digits (bif false then upI d x
     3600000000000 else downI d x 3600000000000).natAbs))).natAbs))) > r) then some (Res.ret (Value.int IntKind.i64 r) []) else some (Res.ret (Value.int IntKind.i64 (hold (sgn (decide (sgn (decide (f < 0))
     (numW (digits f.natAbs).length (digits f.natAbs)) + sgn (decide ((bif false then upI d x 3600000000000 else downI d x 3600000000000) < 0)) (numW (digits (bif false then upI d x 3600000000000 else
     downI d x 3600000000000).natAbs).length (digits (bif false then upI d x 3600000000000 else downI d x 3600000000000).natAbs)) < 0)) (numW (digits (sgn (decide (f < 0)) (numW (digits f.natAbs).length
     (digits f.natAbs)) + sgn (decide ((bif false then upI d x 3600000000000 else downI d x 3600000000000) < 0)) (numW (digits (bif false then upI d x 3600000000000 else downI d x
     3600000000000).natAbs).length (digits (bif false then upI d x 3600000000000 else downI d x 3600000000000).natAbs))).natAbs).length (digits (sgn (decide (f < 0)) (numW (digits f.natAbs).length (digits
     f.natAbs)) + sgn (decide ((bif false then upI d x 3600000000000 else downI d x 3600000000000) < 0)) (numW (digits (bif false then upI d x 3600000000000 else downI d x 3600000000000).natAbs).length
     (digits (bif false then upI d x 3600000000000 else downI d x 3600000000000).natAbs))).natAbs))))) []) else none else none) := by kernel_rfl
--CFEND
abbrev r64 (n : Nat) (xs : List Int) : Option Blk := some ⟨false, 1, [.ints .i64 n xs]⟩
def S117 : Spec := mkS [(23, false, F23)]
def live117 : List Nat := [2, 5, 6, 7]
--CF cf117r (s : Int) (n c : Nat) (xs : List Int) (i : Nat) (on : List Value → Heap → Out) (out : Exit → List Value → Heap → Out) :: roundK Try.prog S117 noL Try.f117.ntmps 1 (loopOf Try.f117 0) live117 [w63 s, sl 0 n c, w63 n, w63 i] [r64 n xs] on out
theorem cf117r (s : Int) (n c : Nat) (xs : List Int) (i : Nat) (on : List Value → Heap → Out) (out : Exit → List Value → Heap → Out) : roundK Try.prog S117 noL Try.f117.ntmps 1 (loopOf Try.f117 0) live117 [w63 s, sl 0 n c, w63 n, w63 i] [r64 n xs] on out =
     (bif decide ((↑i : Int) < (↑n : Int)) then bif decide (0 ≤ (↑i : Int)) && decide ((↑i : Int) < (↑n : Int)) then bif (0 + (↑i : Int).toNat * 1).blt n then on [Value.int IntKind.i64 (hold (s + xs.getD
     (0 + (↑i : Int).toNat * 1) 0)), Value.slice (some (Addr.mk 0 0 none)) n c, Value.int IntKind.i64 (↑n : Int), Value.int IntKind.i64 (IntKind.i64.wrap ((↑i : Int) + 1))] [some (Blk.mk false 1 [Seg.ints
     IntKind.i64 n xs])] else none else none else out (Exit.exit 0) [Value.int IntKind.i64 s, Value.slice (some (Addr.mk 0 0 none)) n c, Value.int IntKind.i64 (↑n : Int), Value.int IntKind.i64 (↑i : Int)]
     [some (Blk.mk false 1 [Seg.ints IntKind.i64 n xs])]) := by kernel_rfl
--CFEND
def L117f : LF := fun vs h k => match vs, h with
  | [.int .i64 s, .slice (some ⟨0, 0, none⟩) n c, .int .i64 n', .int .i64 0], [some ⟨false, 1, [.ints .i64 m xs]⟩] =>
    bif Nat.beq n m && Nat.ble n 1000000 && decide (n' = n) then k (.exit 0) [w63 (sumH xs s), sl 0 n c, w63 n, w63 n] [r64 n xs] else none
  | _, _ => none
def L117 : LSpec := oneL 2 live117 L117f
--CF cf117 (n c : Nat) (xs : List Int) :: fnK Try.prog S117 L117 Try.f117 [sl 0 n c] [r64 n xs]
theorem cf117 (n c : Nat) (xs : List Int) : fnK Try.prog S117 L117 Try.f117 [sl 0 n c] [r64 n xs] =
     (bif n.beq n && n.ble (OfNat.ofNat 1000000) && decide ((↑n : Int) = (↑n : Int)) then some (Res.ret (Value.int IntKind.i64 (sumH xs 0)) [some (Blk.mk false 1 [Seg.ints IntKind.i64 n xs])]) else none) := by kernel_rfl
--CFEND
noncomputable def S113 : Spec := mkS [(29, false, F29), (31, false, F31), (35, false, F35)]
def live113 : List Nat := [0, 3, 4]
--CF cf113r (s : Int) (n c : Nat) (xs : List Int) (i : Nat) (on : List Value → Heap → Out) (out : Exit → List Value → Heap → Out) :: roundK Try.prog S113 noL Try.f113.ntmps 1 (loopOf Try.f113 0) live113 [sl 0 n c, w63 s, w63 i] [r64 n xs] on out
theorem cf113r (s : Int) (n c : Nat) (xs : List Int) (i : Nat) (on : List Value → Heap → Out) (out : Exit → List Value → Heap → Out) : roundK Try.prog S113 noL Try.f113.ntmps 1 (loopOf Try.f113 0) live113 [sl 0 n c, w63 s, w63 i] [r64 n xs] on out =
     (bif decide ((↑i : Int) < (↑n : Int)) then bif decide (0 ≤ (↑i : Int)) && decide ((↑i : Int) < (↑n : Int)) then bif (0 + (↑i : Int).toNat * 1).blt n then bif normB (digits s.natAbs).length (digits
     s.natAbs) && normB (digits (xs.getD (0 + (↑i : Int).toNat * 1) 0).natAbs).length (digits (xs.getD (0 + (↑i : Int).toNat * 1) 0).natAbs) && (digits s.natAbs).length.ble (digits s.natAbs).length &&
     (digits (xs.getD (0 + (↑i : Int).toNat * 1) 0).natAbs).length.ble (digits (xs.getD (0 + (↑i : Int).toNat * 1) 0).natAbs).length && (digits s.natAbs).length.ble (OfNat.ofNat 400000) && (digits (xs.getD
     (0 + (↑i : Int).toNat * 1) 0).natAbs).length.ble (OfNat.ofNat 400000) then bif normB (digits (sgn (decide (s < 0)) (numW (digits s.natAbs).length (digits s.natAbs)) + sgn (decide (xs.getD (0 + (↑i :
     Int).toNat * 1) 0 < 0)) (numW (digits (xs.getD (0 + (↑i : Int).toNat * 1) 0).natAbs).length (digits (xs.getD (0 + (↑i : Int).toNat * 1) 0).natAbs))).natAbs).length (digits (sgn (decide (s < 0)) (numW
     (digits s.natAbs).length (digits s.natAbs)) + sgn (decide (xs.getD (0 + (↑i : Int).toNat * 1) 0 < 0)) (numW (digits (xs.getD (0 + (↑i : Int).toNat * 1) 0).natAbs).length (digits (xs.getD (0 + (↑i :
     Int).toNat * 1) 0).natAbs))).natAbs) && (digits (sgn (decide (s < 0)) (numW (digits s.natAbs).length (digits s.natAbs)) + sgn (decide (xs.getD (0 + (↑i : Int).toNat * 1) 0 < 0)) (numW (digits (xs.getD
     (0 + (↑i : Int).toNat * 1) 0).natAbs).length (digits (xs.getD (0 + (↑i : Int).toNat * 1) 0).natAbs))).natAbs).length.ble (digits (sgn (decide (s < 0)) (numW (digits s.natAbs).length (digits s.natAbs))
     + sgn (decide (xs.getD (0 + (↑i : Int).toNat * 1) 0 < 0)) (numW (digits (xs.getD (0 + (↑i : Int).toNat * 1) 0).natAbs).length (digits (xs.getD (0 + (↑i : Int).toNat * 1) 0).natAbs))).natAbs).length
     then on [Value.slice (some (Addr.mk 0 0 none)) n c, Value.int IntKind.i64 (hold (sgn (decide (sgn (decide (s < 0)) (numW (digits s.natAbs).length (digits s.natAbs)) + sgn (decide (xs.getD (0 + (↑i :
     Int).toNat * 1) 0 < 0)) (numW (digits (xs.getD (0 + (↑i : Int).toNat * 1) 0).natAbs).length (digits (xs.getD (0 + (↑i : Int).toNat * 1) 0).natAbs)) < 0)) (numW (digits (sgn (decide (s < 0)) (numW
     (digits s.natAbs).length (digits s.natAbs)) + sgn (decide (xs.getD (0 + (↑i : Int).toNat * 1) 0 < 0)) (numW (digits (xs.getD (0 + (↑i : Int).toNat * 1) 0).natAbs).length (digits (xs.getD (0 + (↑i :
     Int).toNat * 1) 0).natAbs))).natAbs).length (digits (sgn (decide (s < 0)) (numW (digits s.natAbs).length (digits s.natAbs)) + sgn (decide (xs.getD (0 + (↑i : Int).toNat * 1) 0 < 0)) (numW (digits
     (xs.getD (0 + (↑i : Int).toNat * 1) 0).natAbs).length (digits (xs.getD (0 + (↑i : Int).toNat * 1) 0).natAbs))).natAbs)))), Value.int IntKind.i64 (IntKind.i64.wrap ((↑i : Int) + 1))] [some (Blk.mk
     false 1 [Seg.ints IntKind.i64 n xs])] else none else none else none else none else out (Exit.exit 0) [Value.slice (some (Addr.mk 0 0 none)) n c, Value.int IntKind.i64 s, Value.int IntKind.i64 (↑i :
     Int)] [some (Blk.mk false 1 [Seg.ints IntKind.i64 n xs])]) := by kernel_rfl
--CFEND
def L113f : LF := fun vs h k => match vs, h with
  | [.slice (some ⟨0, 0, none⟩) n c, .int .i64 s, .int .i64 0], [some ⟨false, 1, [.ints .i64 m xs]⟩] =>
    bif Nat.beq n m && Nat.ble n 1000000 then k (.exit 0) [sl 0 n c, w63 (sumH xs s), w63 n] [r64 n xs] else none
  | _, _ => none
def L113 : LSpec := oneL 3 live113 L113f
--CF cf113 (n c : Nat) (xs : List Int) :: fnK Try.prog S113 L113 Try.f113 [sl 0 n c] [r64 n xs]
theorem cf113 (n c : Nat) (xs : List Int) : fnK Try.prog S113 L113 Try.f113 [sl 0 n c] [r64 n xs] =
     (bif n.beq n && n.ble (OfNat.ofNat 1000000) then some (Res.ret (Value.int IntKind.i64 (sumH xs 0)) [some (Blk.mk false 1 [Seg.ints IntKind.i64 n xs])]) else none) := by kernel_rfl
--CFEND
noncomputable def S111 : Spec := mkS [(21, false, F21), (55, false, F55), (107, false, F107g), (117, false, F117)]
--CF cf111 (rho R P Q F D C T E x : Int) (s : Bool) :: fnK Try.prog S111 noL Try.f111 [kV rho R P Q F D s C T E, w63 x] []
theorem cf111 (rho R P Q F D C T E x : Int) (s : Bool) : fnK Try.prog S111 noL Try.f111 [kV rho R P Q F D s C T E, w63 x] [] =
     (bif decide (1 ≤ R) then some (Res.ret (Value.tuple (Array.mk [Value.int IntKind.i64 (sumH [T, x, downI x (laterZ F D x R) 4294967296] 0), Value.int IntKind.i64 (sumH [E, upI x (IntKind.i64.wrap (rho
     + 1)) 1000000, upI x R 4294967296, 2] 0)])) []) else none) := by kernel_rfl
--CFEND
end Go.Proofs.Ytfgehfnlkakioaa.VC

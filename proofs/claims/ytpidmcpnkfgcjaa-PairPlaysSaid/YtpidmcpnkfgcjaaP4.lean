/- pair: New, Copy, Waits, no pairing, known. -/
import Derived.Test.YtpidmcpnkfgcjaaP3
namespace Go.Proofs.Ytpidmcpnkfgcjaa.VC
open Go Go.Proofs

noncomputable def SNew : Spec := mkS [(11, false, F11)]
--CP pNew (w : Int) :: fnK Try.prog (SNew.on [(6, false), (9, false)]) noL Try.f26 [w63 w] []
theorem pNew (w : Int)
    (h1 : ¬w < (100000000 : Int) := by first | omega | assumption | rfl)
    (h2 : ¬w > (900000000 : Int) := by first | omega | assumption | rfl) : fnK Try.prog (SNew.on [(6, false), (9, false)]) noL Try.f26 [w63 w] [] =
     (some (Res.ret (Value.tuple (Array.mk [Value.pointer (some (Addr.mk (0 : Nat) (0 : Nat) none)), Value.int IntKind.i64 (0 : Int)])) [some (Blk.mk true (5 : Nat) [Seg.vals [Value.pointer (some (Addr.mk
     (1 : Nat) (0 : Nat) none))], Seg.ints IntKind.i64 (2 : Nat) [w, (0 : Int)], Seg.vals [Value.bool false, Value.pointer none]]), some (Blk.mk true (9 : Nat) [Seg.ints IntKind.i64 (9 : Nat) [(0 : Int),
     (0 : Int), (0 : Int), (0 : Int), (0 : Int), (0 : Int), (0 : Int), (0 : Int), (0 : Int)]])])) :=
  Eq.trans (by kernel_rfl) (go_f (dec_f h1) (go_f (dec_f h2) rfl))
--CFEND
--CP pNewR1 (w : Int) :: fnK Try.prog (SNew.on [(6, true)]) noL Try.f26 [w63 w] []
theorem pNewR1 (w : Int)
    (h1 : w < (100000000 : Int) := by first | omega | assumption | rfl) : fnK Try.prog (SNew.on [(6, true)]) noL Try.f26 [w63 w] [] =
     (some (Res.ret (Value.tuple (Array.mk [Value.pointer none, Value.int IntKind.i64 (2 : Int)])) [])) :=
  Eq.trans (by kernel_rfl) (go_t (dec_t h1) rfl)
--CFEND
--CP pNewR2 (w : Int) :: fnK Try.prog (SNew.on [(6, false), (9, true)]) noL Try.f26 [w63 w] []
theorem pNewR2 (w : Int)
    (h1 : ¬w < (100000000 : Int) := by first | omega | assumption | rfl)
    (h2 : w > (900000000 : Int) := by first | omega | assumption | rfl) : fnK Try.prog (SNew.on [(6, false), (9, true)]) noL Try.f26 [w63 w] [] =
     (some (Res.ret (Value.tuple (Array.mk [Value.pointer none, Value.int IntKind.i64 (2 : Int)])) [])) :=
  Eq.trans (by kernel_rfl) (go_f (dec_f h1) (go_t (dec_t h2) rfl))
--CFEND
--CP pComeZ (c : Int) :: fnK Try.prog (mkS []) noL Try.f52 [.pointer none, w63 c] []
theorem pComeZ (c : Int) : fnK Try.prog (mkS []) noL Try.f52 [.pointer none, w63 c] [] =
     (some (Res.ret (Value.bool false) [])) :=
  Eq.trans (by kernel_rfl) rfl
--CFEND
def FComeZ : FSpec := fun args h k => match args, h with
  | [.pointer none, .int .i64 _], [] => k (.bool false) []
  | _, _ => none
noncomputable def SPZ : Spec := mkS [(52, true, FComeZ)]
--CP pEdgZ (c : Int) :: fnK Try.prog SPZ noL Try.f28 [.pointer none, w63 c] []
theorem pEdgZ (c : Int) : fnK Try.prog SPZ noL Try.f28 [.pointer none, w63 c] [] =
     (some (Res.ret (Value.tuple (Array.mk [Value.agg (Array.mk [Value.int IntKind.i64 (0 : Int), Value.int IntKind.u8 (0 : Int), Value.bool false, Value.int IntKind.i64 (0 : Int), Value.bool false,
     Value.int IntKind.i64 (0 : Int), Value.bool false]), Value.bool false])) [])) :=
  Eq.trans (by kernel_rfl) rfl
--CFEND
--CP pMsgZ (c : Int) (x : Ms) :: fnK Try.prog SPZ noL Try.f29 [.pointer none, w63 c, msV x] []
theorem pMsgZ (c : Int) (x : Ms) : fnK Try.prog SPZ noL Try.f29 [.pointer none, w63 c, msV x] [] =
     (some (Res.ret (Value.tuple (Array.mk [Value.agg (Array.mk [Value.int IntKind.i64 (0 : Int), Value.int IntKind.u8 (0 : Int), Value.bool false, Value.int IntKind.i64 (0 : Int), Value.bool false,
     Value.int IntKind.i64 (0 : Int), Value.bool false]), Value.bool false])) [])) :=
  Eq.trans (by kernel_rfl) rfl
--CFEND
--CP pCpyZ . :: fnK Try.prog (mkS []) noL Try.f27 [.pointer none] []
theorem pCpyZ  : fnK Try.prog (mkS []) noL Try.f27 [.pointer none] [] =
     (some (Res.ret (Value.pointer none) [])) :=
  Eq.trans (by kernel_rfl) rfl
--CFEND
--CP pWtZ . :: fnK Try.prog (mkS []) noL Try.f33 [.pointer none] []
theorem pWtZ  : fnK Try.prog (mkS []) noL Try.f33 [.pointer none] [] =
     (some (Res.ret (Value.bool false) [])) :=
  Eq.trans (by kernel_rfl) rfl
--CFEND
--CP pWtN (w now : Int) (t : Bool) (xs : List Int) :: fnK Try.prog (mkS []) noL Try.f33 [pt 0] [PB false w now t (.pointer none), eB false xs]
theorem pWtN (w now : Int) (t : Bool) (xs : List Int) : fnK Try.prog (mkS []) noL Try.f33 [pt 0] [PB false w now t (.pointer none), eB false xs] =
     (some (Res.ret (Value.bool false) [some (Blk.mk false (5 : Nat) [Seg.vals [Value.pointer (some (Addr.mk (1 : Nat) (0 : Nat) none))], Seg.ints IntKind.i64 (2 : Nat) [w, now], Seg.vals [Value.bool t,
     Value.pointer none]]), some (Blk.mk false (9 : Nat) [Seg.ints IntKind.i64 (9 : Nat) xs])])) :=
  Eq.trans (by kernel_rfl) rfl
--CFEND
--CP pWtS (w now a : Int) (t : Bool) (m : Ms) (xs : List Int) :: fnK Try.prog (mkS []) noL Try.f33 [pt 0] [PB false w now t (pt 2), eB false xs, WB false a m]
theorem pWtS (w now a : Int) (t : Bool) (m : Ms) (xs : List Int) : fnK Try.prog (mkS []) noL Try.f33 [pt 0] [PB false w now t (pt 2), eB false xs, WB false a m] =
     (some (Res.ret (Value.bool true) [some (Blk.mk false (5 : Nat) [Seg.vals [Value.pointer (some (Addr.mk (1 : Nat) (0 : Nat) none))], Seg.ints IntKind.i64 (2 : Nat) [w, now], Seg.vals [Value.bool t,
     Value.pointer (some (Addr.mk (2 : Nat) (0 : Nat) none))]]), some (Blk.mk false (9 : Nat) [Seg.ints IntKind.i64 (9 : Nat) xs]), some (Blk.mk false (7 : Nat) [Seg.ints IntKind.i64 (1 : Nat) [a],
     Seg.ints IntKind.u8 (1 : Nat) [m.kd], Seg.vals [Value.bool m.u], Seg.ints IntKind.i64 (1 : Nat) [m.s], Seg.vals [Value.bool m.l], Seg.ints IntKind.i64 (1 : Nat) [m.c], Seg.vals [Value.bool m.n]])])) :=
  Eq.trans (by kernel_rfl) rfl
--CFEND
noncomputable def SCpy : Spec := mkS [(12, false, F12)]
--CP pCpyN (w now : Int) (t : Bool) (xs : List Int) :: fnK Try.prog SCpy noL Try.f27 [pt 0] [PB false w now t (.pointer none), eB false xs]
theorem pCpyN (w now : Int) (t : Bool) (xs : List Int) : fnK Try.prog SCpy noL Try.f27 [pt 0] [PB false w now t (.pointer none), eB false xs] =
     (some (Res.ret (Value.pointer (some (Addr.mk (2 : Nat) (0 : Nat) none))) [some (Blk.mk false (5 : Nat) [Seg.vals [Value.pointer (some (Addr.mk (1 : Nat) (0 : Nat) none))], Seg.ints IntKind.i64 (2 :
     Nat) [w, now], Seg.vals [Value.bool t, Value.pointer none]]), some (Blk.mk false (9 : Nat) [Seg.ints IntKind.i64 (9 : Nat) xs]), some (Blk.mk true (5 : Nat) [Seg.vals [Value.pointer (some (Addr.mk (3
     : Nat) (0 : Nat) none))], Seg.ints IntKind.i64 (2 : Nat) [w, now], Seg.vals [Value.bool t, Value.pointer none]]), some (Blk.mk true (9 : Nat) [Seg.ints IntKind.i64 (9 : Nat) [xs.getD (0 : Nat) (0 :
     Int), xs.getD (1 : Nat) (0 : Int), xs.getD (2 : Nat) (0 : Int), xs.getD (3 : Nat) (0 : Int), xs.getD (4 : Nat) (0 : Int), xs.getD (5 : Nat) (0 : Int), xs.getD (6 : Nat) (0 : Int), xs.getD (7 : Nat) (0
     : Int), xs.getD (8 : Nat) (0 : Int)]])])) :=
  Eq.trans (by kernel_rfl) rfl
--CFEND
--CP pCpyS (w now a : Int) (t : Bool) (m : Ms) (xs : List Int) :: fnK Try.prog SCpy noL Try.f27 [pt 0] [PB false w now t (pt 2), eB false xs, WB false a m]
theorem pCpyS (w now a : Int) (t : Bool) (m : Ms) (xs : List Int) : fnK Try.prog SCpy noL Try.f27 [pt 0] [PB false w now t (pt 2), eB false xs, WB false a m] =
     (some (Res.ret (Value.pointer (some (Addr.mk (3 : Nat) (0 : Nat) none))) [some (Blk.mk false (5 : Nat) [Seg.vals [Value.pointer (some (Addr.mk (1 : Nat) (0 : Nat) none))], Seg.ints IntKind.i64 (2 :
     Nat) [w, now], Seg.vals [Value.bool t, Value.pointer (some (Addr.mk (2 : Nat) (0 : Nat) none))]]), some (Blk.mk false (9 : Nat) [Seg.ints IntKind.i64 (9 : Nat) xs]), some (Blk.mk false (7 : Nat)
     [Seg.ints IntKind.i64 (1 : Nat) [a], Seg.ints IntKind.u8 (1 : Nat) [m.kd], Seg.vals [Value.bool m.u], Seg.ints IntKind.i64 (1 : Nat) [m.s], Seg.vals [Value.bool m.l], Seg.ints IntKind.i64 (1 : Nat)
     [m.c], Seg.vals [Value.bool m.n]]), some (Blk.mk true (5 : Nat) [Seg.vals [Value.pointer (some (Addr.mk (4 : Nat) (0 : Nat) none))], Seg.ints IntKind.i64 (2 : Nat) [w, now], Seg.vals [Value.bool t,
     Value.pointer (some (Addr.mk (2 : Nat) (0 : Nat) none))]]), some (Blk.mk true (9 : Nat) [Seg.ints IntKind.i64 (9 : Nat) [xs.getD (0 : Nat) (0 : Int), xs.getD (1 : Nat) (0 : Int), xs.getD (2 : Nat) (0
     : Int), xs.getD (3 : Nat) (0 : Int), xs.getD (4 : Nat) (0 : Int), xs.getD (5 : Nat) (0 : Int), xs.getD (6 : Nat) (0 : Int), xs.getD (7 : Nat) (0 : Int), xs.getD (8 : Nat) (0 : Int)]])])) :=
  Eq.trans (by kernel_rfl) rfl
--CFEND
noncomputable def FNew : FSpec := fun args h k => match args, h with
  | [.int .i64 w], [] => bif chk (100000000 ≤ w ∧ w ≤ 900000000) then k (.tuple ⟨[pt 0, w63 0]⟩) [PB true w 0 false (.pointer none), eB true zero9] else none
  | _, _ => none
noncomputable def FNewR : FSpec := fun args h k => match args, h with
  | [.int .i64 w], [] => bif chk (¬ (100000000 ≤ w ∧ w ≤ 900000000)) then k (.tuple ⟨[.pointer none, w63 2]⟩) [] else none
  | _, _ => none
def FEdgZ : FSpec := fun args h k => match args, h with
  | [.pointer none, .int .i64 _], [] => k (.tuple ⟨[pdV 0 ms0, .bool false]⟩) []
  | _, _ => none
def FMsgZ : FSpec := fun args h k => match args, h with
  | [.pointer none, .int .i64 _, .agg ⟨[.int .u8 _, .bool _, .int .i64 _, .bool _, .int .i64 _, .bool _]⟩], [] => k (.tuple ⟨[pdV 0 ms0, .bool false]⟩) []
  | _, _ => none
def FCpyZ : FSpec := fun args h k => match args, h with
  | [.pointer none], [] => k (.pointer none) []
  | _, _ => none
def FWtZ : FSpec := fun args h k => match args, h with
  | [.pointer none], [] => k (.bool false) []
  | _, _ => none
/-- Where the shape tells the path. -/
noncomputable def FEdgK : FSpec := fun args h k => match h with
  | [_, _] => FEdgN args h k
  | _ => FEdgI args h k
noncomputable def FMsgK : FSpec := fun args h k => match args, h with
  | [_, _, .agg ⟨[_, _, _, _, _, .bool true]⟩], _ => FMsgN args h k
  | _, some ⟨_, _, [_, _, .vals [.bool true, _]]⟩ :: _ => FMsgX args h k
  | _, _ => FMsgP args h k
noncomputable def SPK : Spec := mkS [(26, false, FNew), (28, true, FEdgK), (29, true, FMsgK)]
--CP pPKnw . :: fnK Try.prog SPK noL Try.f25 [] []
theorem pPKnw 
    (h1 : (100000000 : Int) ≤ (500000000 : Int) ∧ (500000000 : Int) ≤ (900000000 : Int) := by first | omega | assumption | rfl)
    (h2 : (0 : Int) ≤ (1000000000 : Int) ∧ (0 : Int) ≤ (0 : Int) ∧ (0 : Int) ≤ (1000 : Int) ∧ false = false := by first | omega | assumption | rfl)
    (h3 : (1000000000 : Int) ≤ (1200000000 : Int) ∧ false = false ∧ (0 : Int) ≤ (1000000000 : Int) ∧ (0 : Int) ≤ (500000000 : Int) ∧ (500000000 : Int) ≤ (1000000000 : Int) ∧ (0 : Int) ≤ (1 : Int) ∧ (1 : Int) ≤ (1000 : Int) ∧ ((1 : Int) = (0 : Int) ∨ (0 : Int) ≤ (1000000000 : Int) ∧ (1000000000 : Int) ≤ (1200000000 : Int)) ∧ (1 : Int) ≠ (0 : Int) ∧ false = false ∧ (200000000 : Int) ≤ (500000000 : Int) ∧ (1 : Nat) = (1 : Nat) := by first | omega | assumption | rfl)
    (h4 : (1200000000 : Int) ≤ (1300000000 : Int) ∧ false = false ∧ (0 : Int) ≤ (1200000000 : Int) ∧ (0 : Int) ≤ (500000000 : Int) ∧ (500000000 : Int) ≤ (1000000000 : Int) ∧ (0 : Int) ≤ (1 : Int) ∧ (1 : Int) ≤ (1000 : Int) ∧ ((1 : Int) = (0 : Int) ∨ (0 : Int) ≤ (1000000000 : Int) ∧ (1000000000 : Int) ≤ (1300000000 : Int)) ∧ ((1 : Int) = (0 : Int) ∨ true = true ∨ (500000000 : Int) < (300000000 : Int) ∨ (1 : Nat) ≠ (1 : Nat)) := by first | omega | assumption | rfl)
    (h5 : (1300000000 : Int) ≤ (1900000000 : Int) ∧ true = true := by first | omega | assumption | rfl)
    (h6 : (1900000000 : Int) ≤ (2000000000 : Int) ∧ (0 : Int) ≤ (1 : Int) ∧ (1 : Int) ≤ (1000 : Int) ∧ false = false ∧ (0 : Int) ≤ (1900000000 : Int) ∧ (1900000000 : Int) ≤ (2000000000 : Int) ∧ (100000000 : Int) ≤ (500000000 : Int) := by first | omega | assumption | rfl) : fnK Try.prog SPK noL Try.f25 [] [] =
     (some (Res.ret (Value.bool true) [])) :=
  Eq.trans (by kernel_rfl) (go_t (chk_t h1) (go_t (chk_t h2) (go_t (chk_t h3) (go_t (chk_t h4) (go_t (chk_t h5) (go_t (chk_t h6) rfl))))))
--CFEND
end Go.Proofs.Ytpidmcpnkfgcjaa.VC

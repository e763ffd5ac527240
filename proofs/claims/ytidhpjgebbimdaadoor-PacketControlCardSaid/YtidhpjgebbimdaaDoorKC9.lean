/- PacketControl: known; DecodeControl of bytes and of all but the last one. -/
import Derived.Test.YtidhpjgebbimdaaDoorKC8
namespace Go.Proofs.YtidhpjgebbimdaaDoor.VC
open Go Go.Proofs

abbrev z64 : Value := .agg #[u64v 0, u64v 0, u64v 0, u64v 0]
abbrev pkX : Value := .agg #[u8v 3, u8v 4, u8v 4, u8v 16, .int .i8 0, .int .i8 0, .int .u32 0, .int .u32 0, u8v 0, u8v 0, u8v 0, u8v 0, u64v 0, u64v 0, u64v 0, u64v 0]
def liveEnX : List Nat := [4, 60, 61]
noncomputable def SPuX : Spec := mkS [(11, true, FPut)]
abbrev hdX : List Int := [228, 16, 0, 0, 0, 0, 0, 0, 0, 0, 0, 0, 0, 0, 0, 0]
--CP pEnXL (k : Exit → List Value → Heap → Out) :: loopN Tryd.prog SPuX noL Tryd.f9.ntmps 0 (loopOf Tryd.f9 0) liveEnX 5 [sl 0 16 1, z64, w63 0] [oU 16 hdX] k
theorem pEnXL (k : Exit → List Value → Heap → Out)
    (h1 : (1 : Int) ≤ (8 : Int) ∧ (8 : Int) ≤ (8 : Int) ∧ (16 : Nat) = (16 : Nat) ∧ (16 : Nat) ≤ (900000 : Nat) := by first | omega | assumption | rfl | ((repeat' with_reducible apply And.intro) <;> first | rfl | assumption | omega))
    (h2 : (1 : Int) ≤ (8 : Int) ∧ (8 : Int) ≤ (8 : Int) ∧ (24 : Nat) = (24 : Nat) ∧ (24 : Nat) ≤ (900000 : Nat) := by first | omega | assumption | rfl | ((repeat' with_reducible apply And.intro) <;> first | rfl | assumption | omega))
    (h3 : (1 : Int) ≤ (8 : Int) ∧ (8 : Int) ≤ (8 : Int) ∧ (32 : Nat) = (32 : Nat) ∧ (32 : Nat) ≤ (900000 : Nat) := by first | omega | assumption | rfl | ((repeat' with_reducible apply And.intro) <;> first | rfl | assumption | omega))
    (h4 : (1 : Int) ≤ (8 : Int) ∧ (8 : Int) ≤ (8 : Int) ∧ (40 : Nat) = (40 : Nat) ∧ (40 : Nat) ≤ (900000 : Nat) := by first | omega | assumption | rfl | ((repeat' with_reducible apply And.intro) <;> first | rfl | assumption | omega)) : loopN Tryd.prog SPuX noL Tryd.f9.ntmps 0 (loopOf Tryd.f9 0) liveEnX 5 [sl 0 16 1, z64, w63 0] [oU 16 hdX] k =
     (k (Exit.exit (0 : Nat)) [Value.slice (some (Addr.mk (0 : Nat) (0 : Nat) none)) (48 : Nat) (1 : Nat), Value.agg #[Value.int IntKind.u64 (0 : Int), Value.int IntKind.u64 (0 : Int), Value.int
     IntKind.u64 (0 : Int), Value.int IntKind.u64 (0 : Int)], Value.int IntKind.i64 (4 : Int)] [some (Blk.mk true (1 : Nat) [Seg.ints IntKind.u8 (48 : Nat) (hdX ++ be (0 : Int) (8 : Nat) ++ be (0 : Int) (8
     : Nat) ++ be (0 : Int) (8 : Nat) ++ be (0 : Int) (8 : Nat))])]) :=
  Eq.trans (by kernel_rfl) (go_t (chk_t h1) (go_t (chk_t h2) (go_t (chk_t h3) (go_t (chk_t h4) rfl))))
--CFEND
abbrev l48 : List Int := [228, 16, 0, 0, 0, 0, 0, 0, 0, 0, 0, 0, 0, 0, 0, 0, 0, 0, 0, 0, 0, 0, 0, 0, 0, 0, 0, 0, 0, 0, 0, 0, 0, 0, 0, 0, 0, 0, 0, 0, 0, 0, 0, 0, 0, 0, 0, 0]
def LEnXf : LF := fun vs h k => match vs, h with
  | [.slice (some ⟨0, 0, none⟩) 16 1, .agg ⟨[.int .u64 0, .int .u64 0, .int .u64 0, .int .u64 0]⟩, .int .i64 0], [some ⟨true, 1, [.ints .u8 16 [228, 16, 0, 0, 0, 0, 0, 0, 0, 0, 0, 0, 0, 0, 0, 0]]⟩] =>
    k (.exit 0) [sl 0 48 1, z64, w63 4] [oU 48 l48]
  | _, _ => none
def LEnX : LSpec := oneL 7 liveEnX LEnXf
--CP pEnX . :: fnK Tryd.prog (SPuX.calm [(4, [2, 6, 7], [0])]) LEnX Tryd.f9 [pkX] []
theorem pEnX 
    (h1 : (1 : Int) ≤ (4 : Int) ∧ (4 : Int) ≤ (8 : Int) ∧ (4 : Nat) = (4 : Nat) ∧ (4 : Nat) ≤ (900000 : Nat) := by first | omega | assumption | rfl | ((repeat' with_reducible apply And.intro) <;> first | rfl | assumption | omega))
    (h2 : (1 : Int) ≤ (4 : Int) ∧ (4 : Int) ≤ (8 : Int) ∧ (8 : Nat) = (8 : Nat) ∧ (8 : Nat) ≤ (900000 : Nat) := by first | omega | assumption | rfl | ((repeat' with_reducible apply And.intro) <;> first | rfl | assumption | omega)) : fnK Tryd.prog (SPuX.calm [(4, [2, 6, 7], [0])]) LEnX Tryd.f9 [pkX] [] =
     (some (Res.ret (Value.tuple (Array.mk [Value.slice (some (Addr.mk (0 : Nat) (0 : Nat) none)) (48 : Nat) (1 : Nat), Value.int IntKind.i64 (0 : Int)])) [some (Blk.mk true (1 : Nat) [Seg.ints IntKind.u8
     (48 : Nat) [(228 : Int), (16 : Int), (0 : Int), (0 : Int), (0 : Int), (0 : Int), (0 : Int), (0 : Int), (0 : Int), (0 : Int), (0 : Int), (0 : Int), (0 : Int), (0 : Int), (0 : Int), (0 : Int), (0 :
     Int), (0 : Int), (0 : Int), (0 : Int), (0 : Int), (0 : Int), (0 : Int), (0 : Int), (0 : Int), (0 : Int), (0 : Int), (0 : Int), (0 : Int), (0 : Int), (0 : Int), (0 : Int), (0 : Int), (0 : Int), (0 :
     Int), (0 : Int), (0 : Int), (0 : Int), (0 : Int), (0 : Int), (0 : Int), (0 : Int), (0 : Int), (0 : Int), (0 : Int), (0 : Int), (0 : Int), (0 : Int)]])])) :=
  Eq.trans (by kernel_rfl) (go_t (chk_t h1) (go_t (chk_t h2) rfl))
--CFEND
abbrev ctX : Ct := ⟨4, 2, true, false, false, 0, 0, 0, 0⟩
--CP pCtXL (k : Exit → List Value → Heap → Out) :: loopN Tryd.prog SCt noL Tryd.f5.ntmps 0 (loopOf Tryd.f5 0) liveCt 6 [sl 0 2 0, ar5 0 0 0 0 0, w63 0, pt 1] [oU 2 [38, 130], ctB ctX (.slice none 0 0)] k
theorem pCtXL (k : Exit → List Value → Heap → Out)
    (h1 : (1 : Int) ≤ (2 : Int) ∧ (2 : Int) ≤ (8 : Int) ∧ (2 : Nat) = (2 : Nat) ∧ (2 : Nat) ≤ (900000 : Nat) := by first | omega | assumption | rfl | ((repeat' with_reducible apply And.intro) <;> first | rfl | assumption | omega))
    (h2 : (1 : Int) ≤ (2 : Int) ∧ (2 : Int) ≤ (8 : Int) ∧ (4 : Nat) = (4 : Nat) ∧ (4 : Nat) ≤ (900000 : Nat) := by first | omega | assumption | rfl | ((repeat' with_reducible apply And.intro) <;> first | rfl | assumption | omega))
    (h3 : (1 : Int) ≤ (2 : Int) ∧ (2 : Int) ≤ (8 : Int) ∧ (6 : Nat) = (6 : Nat) ∧ (6 : Nat) ≤ (900000 : Nat) := by first | omega | assumption | rfl | ((repeat' with_reducible apply And.intro) <;> first | rfl | assumption | omega))
    (h4 : (1 : Int) ≤ (2 : Int) ∧ (2 : Int) ≤ (8 : Int) ∧ (8 : Nat) = (8 : Nat) ∧ (8 : Nat) ≤ (900000 : Nat) := by first | omega | assumption | rfl | ((repeat' with_reducible apply And.intro) <;> first | rfl | assumption | omega))
    (h5 : (1 : Int) ≤ (2 : Int) ∧ (2 : Int) ≤ (8 : Int) ∧ (10 : Nat) = (10 : Nat) ∧ (10 : Nat) ≤ (900000 : Nat) := by first | omega | assumption | rfl | ((repeat' with_reducible apply And.intro) <;> first | rfl | assumption | omega)) : loopN Tryd.prog SCt noL Tryd.f5.ntmps 0 (loopOf Tryd.f5 0) liveCt 6 [sl 0 2 0, ar5 0 0 0 0 0, w63 0, pt 1] [oU 2 [38, 130], ctB ctX (.slice none 0 0)] k =
     (k (Exit.exit (0 : Nat)) [Value.slice (some (Addr.mk (0 : Nat) (0 : Nat) none)) (12 : Nat) (1 : Nat), Value.agg #[Value.int IntKind.u16 (0 : Int), Value.int IntKind.u16 (0 : Int), Value.int
     IntKind.u16 (0 : Int), Value.int IntKind.u16 (0 : Int), Value.int IntKind.u16 (0 : Int)], Value.int IntKind.i64 (5 : Int), Value.pointer (some (Addr.mk (1 : Nat) (0 : Nat) none))] [some (Blk.mk true
     (1 : Nat) [Seg.ints IntKind.u8 (12 : Nat) ([(38 : Int), (130 : Int)] ++ be (0 : Int) (2 : Nat) ++ be (0 : Int) (2 : Nat) ++ be (0 : Int) (2 : Nat) ++ be (0 : Int) (2 : Nat) ++ be (0 : Int) (2 :
     Nat))]), some (Blk.mk true (10 : Nat) [Seg.ints IntKind.u8 (2 : Nat) [(4 : Int), (2 : Int)], Seg.vals [Value.bool true, Value.bool false, Value.bool false], Seg.ints IntKind.u16 (4 : Nat) [(0 : Int),
     (0 : Int), (0 : Int), (0 : Int)], Seg.vals [Value.slice none (0 : Nat) (0 : Nat)]])]) :=
  Eq.trans (by kernel_rfl) (go_t (chk_t h1) (go_t (chk_t h2) (go_t (chk_t h3) (go_t (chk_t h4) (go_t (chk_t h5) rfl)))))
--CFEND
def LCtXf : LF := fun vs h k => match vs, h with
  | [.slice (some ⟨0, 0, none⟩) 2 0, .agg ⟨[.int .u16 0, .int .u16 0, .int .u16 0, .int .u16 0, .int .u16 0]⟩, .int .i64 0, .pointer (some ⟨1, 0, none⟩)],
    [some ⟨true, 1, [.ints .u8 2 [38, 130]]⟩, some ⟨true, 10, [.ints .u8 2 [4, 2], .vals [.bool true, .bool false, .bool false], .ints .u16 4 [0, 0, 0, 0], .vals [.slice none 0 0]]⟩] =>
    k (.exit 0) [sl 0 12 1, ar5 0 0 0 0 0, w63 5, pt 1] [oU 12 [38, 130, 0, 0, 0, 0, 0, 0, 0, 0, 0, 0], ctB ctX (.slice none 0 0)]
  | _, _ => none
def LCtX : LSpec := oneL 5 liveCt LCtXf
--CP pCtX . :: fnK Tryd.prog SCt LCtX Tryd.f5 [ctv ctX (.slice none 0 0)] []
theorem pCtX 
    (h1 : (0 : Int) ≤ (0 : Int) ∧ (0 : Int) ≤ (1000000 : Int) := by first | omega | assumption | rfl | ((repeat' with_reducible apply And.intro) <;> first | rfl | assumption | omega)) : fnK Tryd.prog SCt LCtX Tryd.f5 [ctv ctX (.slice none 0 0)] [] =
     (some (Res.ret (Value.tuple (Array.mk [Value.slice (some (Addr.mk (0 : Nat) (0 : Nat) none)) (12 : Nat) (1 : Nat), Value.int IntKind.i64 (0 : Int)])) [some (Blk.mk true (1 : Nat) [Seg.ints IntKind.u8
     (12 : Nat) [(38 : Int), (130 : Int), (0 : Int), (0 : Int), (0 : Int), (0 : Int), (0 : Int), (0 : Int), (0 : Int), (0 : Int), (0 : Int), (0 : Int)]])])) :=
  Eq.trans (by kernel_rfl) (go_t (chk_t h1) rfl)
--CFEND
end Go.Proofs.YtidhpjgebbimdaaDoor.VC

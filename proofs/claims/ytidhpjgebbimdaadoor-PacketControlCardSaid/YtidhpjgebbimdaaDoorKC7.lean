/- PacketControl: DecodeControl, SameControl: closed forms. -/
import Derived.Test.YtidhpjgebbimdaaDoorKC6
namespace Go.Proofs.YtidhpjgebbimdaaDoor.VC
open Go Go.Proofs

noncomputable def SDc : Spec := mkS [(14, false, FGet), (12, false, FFil), (15, false, FTrm), (16, false, FClone)]
--CP pDcS1 (n N : Nat) (xs : List Int) :: fnK Tryd.prog (SDc.on [(10, true)]) noL Tryd.f7 [sl 0 n 2] [rU N xs]
theorem pDcS1 (n N : Nat) (xs : List Int)
    (h1 : (↑n : Int) < (12 : Int) := by first | omega | assumption | rfl) : fnK Tryd.prog (SDc.on [(10, true)]) noL Tryd.f7 [sl 0 n 2] [rU N xs] =
     (some (Res.ret (Value.tuple (Array.mk [Value.agg (Array.mk [Value.int IntKind.u8 (0 : Int), Value.int IntKind.u8 (0 : Int), Value.bool false, Value.bool false, Value.bool false, Value.int IntKind.u16
     (0 : Int), Value.int IntKind.u16 (0 : Int), Value.int IntKind.u16 (0 : Int), Value.int IntKind.u16 (0 : Int), Value.slice none (0 : Nat) (0 : Nat)]), Value.int IntKind.i64 (0 : Int), Value.int
     IntKind.i64 (4 : Int)])) [some (Blk.mk false (1 : Nat) [Seg.ints IntKind.u8 N xs])])) :=
  Eq.trans (by kernel_rfl) (go_t (dec_t h1) rfl)
--CFEND
--CP pDcS2 (n N : Nat) (xs : List Int) :: fnK Tryd.prog (SDc.on [(10, false), (25, false), (32, false), (19, false), (37, true)]) noL Tryd.f7 [sl 0 n 2] [rU N xs]
theorem pDcS2 (n N : Nat) (xs : List Int)
    (w1 : -9223372036854775808 ≤ valB (List.take ((12 : Int) - (10 : Int)).toNat (List.drop (10 : Nat) xs)) ∧ valB (List.take ((12 : Int) - (10 : Int)).toNat (List.drop (10 : Nat) xs)) ≤ 9223372036854775807 := by omega)
    (w2 : -9223372036854775808 ≤ (12 : Int) + (↑(up4 (valB (List.take ((12 : Int) - (10 : Int)).toNat (List.drop (10 : Nat) xs))).toNat) : Int) ∧ (12 : Int) + (↑(up4 (valB (List.take ((12 : Int) - (10 : Int)).toNat (List.drop (10 : Nat) xs))).toNat) : Int) ≤ 9223372036854775807 := by omega)
    (h1 : ¬(↑n : Int) < (12 : Int) := by first | omega | assumption | rfl)
    (h2 : (10 : Int) ≤ (12 : Int) := by first | omega | assumption | rfl)
    (h3 : (12 : Int) ≤ (↑n : Int) := by first | omega | assumption | rfl)
    (h4 : ((12 : Int) - (10 : Int)).toNat ≤ (8 : Nat) ∧ (10 : Nat) + ((12 : Int) - (10 : Int)).toNat ≤ N := by first | omega | assumption | rfl | ((repeat' with_reducible apply And.intro) <;> first | rfl | assumption | omega))
    (h5 : (0 : Int) ≤ valB (List.take ((12 : Int) - (10 : Int)).toNat (List.drop (10 : Nat) xs)) ∧ valB (List.take ((12 : Int) - (10 : Int)).toNat (List.drop (10 : Nat) xs)) ≤ (1000000 : Int) := by first | omega | assumption | rfl | ((repeat' with_reducible apply And.intro) <;> first | rfl | assumption | omega))
    (h6 : (0 : Int) < (↑n : Int) := by first | omega | assumption | rfl)
    (h7 : (0 : Nat) < N := by first | omega | assumption | rfl)
    (h8 : (xs.getD (0 : Nat) (0 : Int)).fdiv (64 : Int) = (0 : Int) := by first | omega | assumption | rfl)
    (h9 : bits BinOp.and IntKind.u8 (xs.getD (0 : Nat) (0 : Int)) (7 : Int) = (6 : Int) := by first | omega | assumption | rfl)
    (h10 : ¬valB (List.take ((12 : Int) - (10 : Int)).toNat (List.drop (10 : Nat) xs)) > (468 : Int) := by first | omega | assumption | rfl)
    (h11 : (↑n : Int) < (12 : Int) + (↑(up4 (valB (List.take ((12 : Int) - (10 : Int)).toNat (List.drop (10 : Nat) xs))).toNat) : Int) := by first | omega | assumption | rfl) : fnK Tryd.prog (SDc.on [(10, false), (25, false), (32, false), (19, false), (37, true)]) noL Tryd.f7 [sl 0 n 2] [rU N xs] =
     (some (Res.ret (Value.tuple (Array.mk [Value.agg (Array.mk [Value.int IntKind.u8 (0 : Int), Value.int IntKind.u8 (0 : Int), Value.bool false, Value.bool false, Value.bool false, Value.int IntKind.u16
     (0 : Int), Value.int IntKind.u16 (0 : Int), Value.int IntKind.u16 (0 : Int), Value.int IntKind.u16 (0 : Int), Value.slice none (0 : Nat) (0 : Nat)]), Value.int IntKind.i64 (0 : Int), Value.int
     IntKind.i64 (4 : Int)])) [some (Blk.mk false (1 : Nat) [Seg.ints IntKind.u8 N xs])])) :=
  Eq.trans (b :=
     bif decide ((↑n : Int) < (12 : Int)) then none else bif decide ((10 : Int) ≤ (12 : Int)) && decide ((12 : Int) ≤ (↑n : Int)) then bif chk (((12 : Int) - (10 : Int)).toNat ≤ (8 : Nat) ∧ (10 : Nat) +
     ((12 : Int) - (10 : Int)).toNat ≤ N) then bif chk ((0 : Int) ≤ IntKind.i64.wrap (valB (List.take ((12 : Int) - (10 : Int)).toNat (List.drop (10 : Nat) xs))) ∧ IntKind.i64.wrap (valB (List.take ((12 :
     Int) - (10 : Int)).toNat (List.drop (10 : Nat) xs))) ≤ (1000000 : Int)) then bif decide ((0 : Int) < (↑n : Int)) then bif Nat.blt (0 : Nat) N then bif (xs.getD (0 : Nat) (0 : Int)).fdiv (64 : Int) !=
     (0 : Int) then none else bif decide ((0 : Int) < (↑n : Int)) then bif Nat.blt (0 : Nat) N then bif bits BinOp.and IntKind.u8 (xs.getD (0 : Nat) (0 : Int)) (7 : Int) != (6 : Int) then none else bif
     decide (IntKind.i64.wrap (valB (List.take ((12 : Int) - (10 : Int)).toNat (List.drop (10 : Nat) xs))) > (468 : Int)) then none else bif decide ((↑n : Int) < IntKind.i64.wrap ((12 : Int) + (↑(up4
     (IntKind.i64.wrap (valB (List.take ((12 : Int) - (10 : Int)).toNat (List.drop (10 : Nat) xs)))).toNat) : Int))) then some (Res.ret (Value.tuple (Array.mk [Value.agg (Array.mk [Value.int IntKind.u8 (0
     : Int), Value.int IntKind.u8 (0 : Int), Value.bool false, Value.bool false, Value.bool false, Value.int IntKind.u16 (0 : Int), Value.int IntKind.u16 (0 : Int), Value.int IntKind.u16 (0 : Int),
     Value.int IntKind.u16 (0 : Int), Value.slice none (0 : Nat) (0 : Nat)]), Value.int IntKind.i64 (0 : Int), Value.int IntKind.i64 (4 : Int)])) [some (Blk.mk false (1 : Nat) [Seg.ints IntKind.u8 N xs])])
     else none else none else none else none else none else none else none else none) (by kernel_rfl) (by simp only [-eq_self, swrap w1.1 w1.2, swrap w2.1 w2.2]; exact (go_f (dec_f h1) (go_t (and_t (dec_t h2) (dec_t h3)) (go_t (chk_t h4) (go_t (chk_t h5) (go_t (dec_t h6) (go_t (blt_t h7) (go_f (bne_f h8) (go_t (dec_t h6) (go_t (blt_t h7) (go_f (bne_f h9) (go_f (dec_f h10) (go_t (dec_t h11) rfl)))))))))))))
--CFEND
--CP pDcK (n N : Nat) (xs : List Int) :: fnK Tryd.prog (SDc.on [(10, false), (25, false), (32, false), (19, false), (37, false)]) noL Tryd.f7 [sl 0 n 2] [rU N xs]
theorem pDcK (n N : Nat) (xs : List Int)
    (w1 : -9223372036854775808 ≤ valB (List.take ((12 : Int) - (10 : Int)).toNat (List.drop (10 : Nat) xs)) ∧ valB (List.take ((12 : Int) - (10 : Int)).toNat (List.drop (10 : Nat) xs)) ≤ 9223372036854775807 := by omega)
    (w2 : -9223372036854775808 ≤ (12 : Int) + (↑(up4 (valB (List.take ((12 : Int) - (10 : Int)).toNat (List.drop (10 : Nat) xs))).toNat) : Int) ∧ (12 : Int) + (↑(up4 (valB (List.take ((12 : Int) - (10 : Int)).toNat (List.drop (10 : Nat) xs))).toNat) : Int) ≤ 9223372036854775807 := by omega)
    (w3 : -9223372036854775808 ≤ (12 : Int) + valB (List.take ((12 : Int) - (10 : Int)).toNat (List.drop (10 : Nat) xs)) ∧ (12 : Int) + valB (List.take ((12 : Int) - (10 : Int)).toNat (List.drop (10 : Nat) xs)) ≤ 9223372036854775807 := by omega)
    (h1 : ¬(↑n : Int) < (12 : Int) := by first | omega | assumption | rfl)
    (h2 : (10 : Int) ≤ (12 : Int) := by first | omega | assumption | rfl)
    (h3 : (12 : Int) ≤ (↑n : Int) := by first | omega | assumption | rfl)
    (h4 : ((12 : Int) - (10 : Int)).toNat ≤ (8 : Nat) ∧ (10 : Nat) + ((12 : Int) - (10 : Int)).toNat ≤ N := by first | omega | assumption | rfl | ((repeat' with_reducible apply And.intro) <;> first | rfl | assumption | omega))
    (h5 : (0 : Int) ≤ valB (List.take ((12 : Int) - (10 : Int)).toNat (List.drop (10 : Nat) xs)) ∧ valB (List.take ((12 : Int) - (10 : Int)).toNat (List.drop (10 : Nat) xs)) ≤ (1000000 : Int) := by first | omega | assumption | rfl | ((repeat' with_reducible apply And.intro) <;> first | rfl | assumption | omega))
    (h6 : (0 : Int) < (↑n : Int) := by first | omega | assumption | rfl)
    (h7 : (0 : Nat) < N := by first | omega | assumption | rfl)
    (h8 : (xs.getD (0 : Nat) (0 : Int)).fdiv (64 : Int) = (0 : Int) := by first | omega | assumption | rfl)
    (h9 : bits BinOp.and IntKind.u8 (xs.getD (0 : Nat) (0 : Int)) (7 : Int) = (6 : Int) := by first | omega | assumption | rfl)
    (h10 : ¬valB (List.take ((12 : Int) - (10 : Int)).toNat (List.drop (10 : Nat) xs)) > (468 : Int) := by first | omega | assumption | rfl)
    (h11 : ¬(↑n : Int) < (12 : Int) + (↑(up4 (valB (List.take ((12 : Int) - (10 : Int)).toNat (List.drop (10 : Nat) xs))).toNat) : Int) := by first | omega | assumption | rfl)
    (h12 : (0 : Int) ≤ (12 : Int) + valB (List.take ((12 : Int) - (10 : Int)).toNat (List.drop (10 : Nat) xs)) := by first | omega | assumption | rfl)
    (h13 : (12 : Int) + valB (List.take ((12 : Int) - (10 : Int)).toNat (List.drop (10 : Nat) xs)) ≤ (12 : Int) + (↑(up4 (valB (List.take ((12 : Int) - (10 : Int)).toNat (List.drop (10 : Nat) xs))).toNat) : Int) := by first | omega | assumption | rfl)
    (h14 : (12 : Int) + (↑(up4 (valB (List.take ((12 : Int) - (10 : Int)).toNat (List.drop (10 : Nat) xs))).toNat) : Int) ≤ (↑n : Int) := by first | omega | assumption | rfl)
    (h15 : ((12 : Int) + valB (List.take ((12 : Int) - (10 : Int)).toNat (List.drop (10 : Nat) xs))).toNat + ((12 : Int) + (↑(up4 (valB (List.take ((12 : Int) - (10 : Int)).toNat (List.drop (10 : Nat) xs))).toNat) : Int) - ((12 : Int) + valB (List.take ((12 : Int) - (10 : Int)).toNat (List.drop (10 : Nat) xs)))).toNat ≤ N ∧ ((12 : Int) + (↑(up4 (valB (List.take ((12 : Int) - (10 : Int)).toNat (List.drop (10 : Nat) xs))).toNat) : Int) - ((12 : Int) + valB (List.take ((12 : Int) - (10 : Int)).toNat (List.drop (10 : Nat) xs)))).toNat ≤ (1000000 : Nat) ∧ zeros xs ((12 : Int) + valB (List.take ((12 : Int) - (10 : Int)).toNat (List.drop (10 : Nat) xs))).toNat ((12 : Int) + (↑(up4 (valB (List.take ((12 : Int) - (10 : Int)).toNat (List.drop (10 : Nat) xs))).toNat) : Int) - ((12 : Int) + valB (List.take ((12 : Int) - (10 : Int)).toNat (List.drop (10 : Nat) xs)))).toNat ∧ ByteArray.mk #[(0 : UInt8)] = str0 := by first | omega | assumption | rfl | ((repeat' with_reducible apply And.intro) <;> first | rfl | assumption | omega))
    (h16 : (1 : Int) < (↑n : Int) := by first | omega | assumption | rfl)
    (h17 : (1 : Nat) < N := by first | omega | assumption | rfl)
    (h18 : (2 : Int) ≤ (4 : Int) := by first | omega | assumption | rfl)
    (h19 : (4 : Int) ≤ (↑n : Int) := by first | omega | assumption | rfl)
    (h20 : ((4 : Int) - (2 : Int)).toNat ≤ (8 : Nat) ∧ (2 : Nat) + ((4 : Int) - (2 : Int)).toNat ≤ N := by first | omega | assumption | rfl | ((repeat' with_reducible apply And.intro) <;> first | rfl | assumption | omega))
    (h21 : (4 : Int) ≤ (6 : Int) := by first | omega | assumption | rfl)
    (h22 : (6 : Int) ≤ (↑n : Int) := by first | omega | assumption | rfl)
    (h23 : ((6 : Int) - (4 : Int)).toNat ≤ (8 : Nat) ∧ (4 : Nat) + ((6 : Int) - (4 : Int)).toNat ≤ N := by first | omega | assumption | rfl | ((repeat' with_reducible apply And.intro) <;> first | rfl | assumption | omega))
    (h24 : (6 : Int) ≤ (8 : Int) := by first | omega | assumption | rfl)
    (h25 : (8 : Int) ≤ (↑n : Int) := by first | omega | assumption | rfl)
    (h26 : ((8 : Int) - (6 : Int)).toNat ≤ (8 : Nat) ∧ (6 : Nat) + ((8 : Int) - (6 : Int)).toNat ≤ N := by first | omega | assumption | rfl | ((repeat' with_reducible apply And.intro) <;> first | rfl | assumption | omega))
    (h27 : (8 : Int) ≤ (10 : Int) := by first | omega | assumption | rfl)
    (h28 : (10 : Int) ≤ (↑n : Int) := by first | omega | assumption | rfl)
    (h29 : ((10 : Int) - (8 : Int)).toNat ≤ (8 : Nat) ∧ (8 : Nat) + ((10 : Int) - (8 : Int)).toNat ≤ N := by first | omega | assumption | rfl | ((repeat' with_reducible apply And.intro) <;> first | rfl | assumption | omega))
    (h30 : (12 : Int) ≤ (12 : Int) + valB (List.take ((12 : Int) - (10 : Int)).toNat (List.drop (10 : Nat) xs)) := by first | omega | assumption | rfl)
    (h31 : (12 : Int) + valB (List.take ((12 : Int) - (10 : Int)).toNat (List.drop (10 : Nat) xs)) ≤ (↑n : Int) := by first | omega | assumption | rfl)
    (h32 : (12 : Nat) + ((12 : Int) + valB (List.take ((12 : Int) - (10 : Int)).toNat (List.drop (10 : Nat) xs)) - (12 : Int)).toNat ≤ N ∧ N ≤ (1000000 : Nat) := by first | omega | assumption | rfl | ((repeat' with_reducible apply And.intro) <;> first | rfl | assumption | omega)) : fnK Tryd.prog (SDc.on [(10, false), (25, false), (32, false), (19, false), (37, false)]) noL Tryd.f7 [sl 0 n 2] [rU N xs] =
     (some (Res.ret (Value.tuple (Array.mk [Value.agg (Array.mk [Value.int IntKind.u8 ((xs.getD (0 : Nat) (0 : Int)).fdiv (8 : Int)), Value.int IntKind.u8 (bits BinOp.and IntKind.u8 (xs.getD (1 : Nat) (0 :
     Int)) (31 : Int)), Value.bool (bits BinOp.and IntKind.u8 (xs.getD (1 : Nat) (0 : Int)) (128 : Int) != (0 : Int)), Value.bool (bits BinOp.and IntKind.u8 (xs.getD (1 : Nat) (0 : Int)) (64 : Int) != (0 :
     Int)), Value.bool (bits BinOp.and IntKind.u8 (xs.getD (1 : Nat) (0 : Int)) (32 : Int) != (0 : Int)), Value.int IntKind.u16 (IntKind.u16.wrap (valB (List.take ((4 : Int) - (2 : Int)).toNat (List.drop
     (2 : Nat) xs)))), Value.int IntKind.u16 (IntKind.u16.wrap (valB (List.take ((6 : Int) - (4 : Int)).toNat (List.drop (4 : Nat) xs)))), Value.int IntKind.u16 (IntKind.u16.wrap (valB (List.take ((8 :
     Int) - (6 : Int)).toNat (List.drop (6 : Nat) xs)))), Value.int IntKind.u16 (IntKind.u16.wrap (valB (List.take ((10 : Int) - (8 : Int)).toNat (List.drop (8 : Nat) xs)))), Value.slice (some (Addr.mk (1
     : Nat) (0 : Nat) none)) ((12 : Int) + valB (List.take ((12 : Int) - (10 : Int)).toNat (List.drop (10 : Nat) xs)) - (12 : Int)).toNat (2 : Nat)]), Value.int IntKind.i64 ((12 : Int) + (↑(up4 (valB
     (List.take ((12 : Int) - (10 : Int)).toNat (List.drop (10 : Nat) xs))).toNat) : Int)), Value.int IntKind.i64 (0 : Int)])) [some (Blk.mk false (1 : Nat) [Seg.ints IntKind.u8 N xs]), some (Blk.mk true
     (1 : Nat) [Seg.ints IntKind.u8 ((12 : Int) + valB (List.take ((12 : Int) - (10 : Int)).toNat (List.drop (10 : Nat) xs)) - (12 : Int)).toNat (List.take ((12 : Int) + valB (List.take ((12 : Int) - (10 :
     Int)).toNat (List.drop (10 : Nat) xs)) - (12 : Int)).toNat (List.drop (12 : Nat) xs))])])) :=
  Eq.trans (b :=
     bif decide ((↑n : Int) < (12 : Int)) then none else bif decide ((10 : Int) ≤ (12 : Int)) && decide ((12 : Int) ≤ (↑n : Int)) then bif chk (((12 : Int) - (10 : Int)).toNat ≤ (8 : Nat) ∧ (10 : Nat) +
     ((12 : Int) - (10 : Int)).toNat ≤ N) then bif chk ((0 : Int) ≤ IntKind.i64.wrap (valB (List.take ((12 : Int) - (10 : Int)).toNat (List.drop (10 : Nat) xs))) ∧ IntKind.i64.wrap (valB (List.take ((12 :
     Int) - (10 : Int)).toNat (List.drop (10 : Nat) xs))) ≤ (1000000 : Int)) then bif decide ((0 : Int) < (↑n : Int)) then bif Nat.blt (0 : Nat) N then bif (xs.getD (0 : Nat) (0 : Int)).fdiv (64 : Int) !=
     (0 : Int) then none else bif decide ((0 : Int) < (↑n : Int)) then bif Nat.blt (0 : Nat) N then bif bits BinOp.and IntKind.u8 (xs.getD (0 : Nat) (0 : Int)) (7 : Int) != (6 : Int) then none else bif
     decide (IntKind.i64.wrap (valB (List.take ((12 : Int) - (10 : Int)).toNat (List.drop (10 : Nat) xs))) > (468 : Int)) then none else bif decide ((↑n : Int) < IntKind.i64.wrap ((12 : Int) + (↑(up4
     (IntKind.i64.wrap (valB (List.take ((12 : Int) - (10 : Int)).toNat (List.drop (10 : Nat) xs)))).toNat) : Int))) then none else bif decide ((0 : Int) ≤ IntKind.i64.wrap ((12 : Int) + IntKind.i64.wrap
     (valB (List.take ((12 : Int) - (10 : Int)).toNat (List.drop (10 : Nat) xs))))) && decide (IntKind.i64.wrap ((12 : Int) + IntKind.i64.wrap (valB (List.take ((12 : Int) - (10 : Int)).toNat (List.drop
     (10 : Nat) xs)))) ≤ IntKind.i64.wrap ((12 : Int) + (↑(up4 (IntKind.i64.wrap (valB (List.take ((12 : Int) - (10 : Int)).toNat (List.drop (10 : Nat) xs)))).toNat) : Int))) && decide (IntKind.i64.wrap
     ((12 : Int) + (↑(up4 (IntKind.i64.wrap (valB (List.take ((12 : Int) - (10 : Int)).toNat (List.drop (10 : Nat) xs)))).toNat) : Int)) ≤ (↑n : Int)) then bif chk ((0 : Nat) + (IntKind.i64.wrap ((12 :
     Int) + IntKind.i64.wrap (valB (List.take ((12 : Int) - (10 : Int)).toNat (List.drop (10 : Nat) xs))))).toNat * (1 : Nat) + (IntKind.i64.wrap ((12 : Int) + (↑(up4 (IntKind.i64.wrap (valB (List.take
     ((12 : Int) - (10 : Int)).toNat (List.drop (10 : Nat) xs)))).toNat) : Int)) - IntKind.i64.wrap ((12 : Int) + IntKind.i64.wrap (valB (List.take ((12 : Int) - (10 : Int)).toNat (List.drop (10 : Nat)
     xs))))).toNat ≤ N ∧ (IntKind.i64.wrap ((12 : Int) + (↑(up4 (IntKind.i64.wrap (valB (List.take ((12 : Int) - (10 : Int)).toNat (List.drop (10 : Nat) xs)))).toNat) : Int)) - IntKind.i64.wrap ((12 : Int)
     + IntKind.i64.wrap (valB (List.take ((12 : Int) - (10 : Int)).toNat (List.drop (10 : Nat) xs))))).toNat ≤ (1000000 : Nat) ∧ zeros xs ((0 : Nat) + (IntKind.i64.wrap ((12 : Int) + IntKind.i64.wrap (valB
     (List.take ((12 : Int) - (10 : Int)).toNat (List.drop (10 : Nat) xs))))).toNat * (1 : Nat)) (IntKind.i64.wrap ((12 : Int) + (↑(up4 (IntKind.i64.wrap (valB (List.take ((12 : Int) - (10 : Int)).toNat
     (List.drop (10 : Nat) xs)))).toNat) : Int)) - IntKind.i64.wrap ((12 : Int) + IntKind.i64.wrap (valB (List.take ((12 : Int) - (10 : Int)).toNat (List.drop (10 : Nat) xs))))).toNat ∧ ByteArray.mk #[(0 :
     UInt8)] = str0) then bif decide ((0 : Int) < (↑n : Int)) then bif Nat.blt (0 : Nat) N then bif decide ((1 : Int) < (↑n : Int)) then bif Nat.blt (1 : Nat) N then bif decide ((1 : Int) < (↑n : Int))
     then bif Nat.blt (1 : Nat) N then bif decide ((1 : Int) < (↑n : Int)) then bif Nat.blt (1 : Nat) N then bif decide ((1 : Int) < (↑n : Int)) then bif Nat.blt (1 : Nat) N then bif decide ((2 : Int) ≤ (4
     : Int)) && decide ((4 : Int) ≤ (↑n : Int)) then bif chk (((4 : Int) - (2 : Int)).toNat ≤ (8 : Nat) ∧ (2 : Nat) + ((4 : Int) - (2 : Int)).toNat ≤ N) then bif decide ((4 : Int) ≤ (6 : Int)) && decide
     ((6 : Int) ≤ (↑n : Int)) then bif chk (((6 : Int) - (4 : Int)).toNat ≤ (8 : Nat) ∧ (4 : Nat) + ((6 : Int) - (4 : Int)).toNat ≤ N) then bif decide ((6 : Int) ≤ (8 : Int)) && decide ((8 : Int) ≤ (↑n :
     Int)) then bif chk (((8 : Int) - (6 : Int)).toNat ≤ (8 : Nat) ∧ (6 : Nat) + ((8 : Int) - (6 : Int)).toNat ≤ N) then bif decide ((8 : Int) ≤ (10 : Int)) && decide ((10 : Int) ≤ (↑n : Int)) then bif chk
     (((10 : Int) - (8 : Int)).toNat ≤ (8 : Nat) ∧ (8 : Nat) + ((10 : Int) - (8 : Int)).toNat ≤ N) then bif decide ((12 : Int) ≤ IntKind.i64.wrap ((12 : Int) + IntKind.i64.wrap (valB (List.take ((12 : Int)
     - (10 : Int)).toNat (List.drop (10 : Nat) xs))))) && decide (IntKind.i64.wrap ((12 : Int) + IntKind.i64.wrap (valB (List.take ((12 : Int) - (10 : Int)).toNat (List.drop (10 : Nat) xs)))) ≤ (↑n : Int))
     then bif chk ((12 : Nat) + (IntKind.i64.wrap ((12 : Int) + IntKind.i64.wrap (valB (List.take ((12 : Int) - (10 : Int)).toNat (List.drop (10 : Nat) xs)))) - (12 : Int)).toNat ≤ N ∧ N ≤ (1000000 : Nat))
     then some (Res.ret (Value.tuple (Array.mk [Value.agg (Array.mk [Value.int IntKind.u8 ((xs.getD (0 : Nat) (0 : Int)).fdiv (8 : Int)), Value.int IntKind.u8 (bits BinOp.and IntKind.u8 (xs.getD (1 : Nat)
     (0 : Int)) (31 : Int)), Value.bool (bits BinOp.and IntKind.u8 (xs.getD (1 : Nat) (0 : Int)) (128 : Int) != (0 : Int)), Value.bool (bits BinOp.and IntKind.u8 (xs.getD (1 : Nat) (0 : Int)) (64 : Int) !=
     (0 : Int)), Value.bool (bits BinOp.and IntKind.u8 (xs.getD (1 : Nat) (0 : Int)) (32 : Int) != (0 : Int)), Value.int IntKind.u16 (IntKind.u16.wrap (valB (List.take ((4 : Int) - (2 : Int)).toNat
     (List.drop (2 : Nat) xs)))), Value.int IntKind.u16 (IntKind.u16.wrap (valB (List.take ((6 : Int) - (4 : Int)).toNat (List.drop (4 : Nat) xs)))), Value.int IntKind.u16 (IntKind.u16.wrap (valB
     (List.take ((8 : Int) - (6 : Int)).toNat (List.drop (6 : Nat) xs)))), Value.int IntKind.u16 (IntKind.u16.wrap (valB (List.take ((10 : Int) - (8 : Int)).toNat (List.drop (8 : Nat) xs)))), Value.slice
     (some (Addr.mk (1 : Nat) (0 : Nat) none)) (IntKind.i64.wrap ((12 : Int) + IntKind.i64.wrap (valB (List.take ((12 : Int) - (10 : Int)).toNat (List.drop (10 : Nat) xs)))) - (12 : Int)).toNat (2 :
     Nat)]), Value.int IntKind.i64 (IntKind.i64.wrap ((12 : Int) + (↑(up4 (IntKind.i64.wrap (valB (List.take ((12 : Int) - (10 : Int)).toNat (List.drop (10 : Nat) xs)))).toNat) : Int))), Value.int
     IntKind.i64 (0 : Int)])) [some (Blk.mk false (1 : Nat) [Seg.ints IntKind.u8 N xs]), some (Blk.mk true (1 : Nat) [Seg.ints IntKind.u8 (IntKind.i64.wrap ((12 : Int) + IntKind.i64.wrap (valB (List.take
     ((12 : Int) - (10 : Int)).toNat (List.drop (10 : Nat) xs)))) - (12 : Int)).toNat (List.take (IntKind.i64.wrap ((12 : Int) + IntKind.i64.wrap (valB (List.take ((12 : Int) - (10 : Int)).toNat (List.drop
     (10 : Nat) xs)))) - (12 : Int)).toNat (List.drop (12 : Nat) xs))])]) else none else none else none else none else none else none else none else none else none else none else none else none else none
     else none else none else none else none else none else none else none else none else none else none else none else none else none else none else none else none) (by kernel_rfl) (by simp only [-eq_self, Nat.mul_one, Nat.zero_add, swrap w1.1 w1.2, swrap w2.1 w2.2, swrap w3.1 w3.2]; exact (go_f (dec_f h1) (go_t (and_t (dec_t h2) (dec_t h3)) (go_t (chk_t h4) (go_t (chk_t h5) (go_t (dec_t h6) (go_t (blt_t h7) (go_f (bne_f h8) (go_t (dec_t h6) (go_t (blt_t h7) (go_f (bne_f h9) (go_f (dec_f h10) (go_f (dec_f h11) (go_t (and_t (and_t (dec_t h12) (dec_t h13)) (dec_t h14)) (go_t (chk_t h15) (go_t (dec_t h6) (go_t (blt_t h7) (go_t (dec_t h16) (go_t (blt_t h17) (go_t (dec_t h16) (go_t (blt_t h17) (go_t (dec_t h16) (go_t (blt_t h17) (go_t (dec_t h16) (go_t (blt_t h17) (go_t (and_t (dec_t h18) (dec_t h19)) (go_t (chk_t h20) (go_t (and_t (dec_t h21) (dec_t h22)) (go_t (chk_t h23) (go_t (and_t (dec_t h24) (dec_t h25)) (go_t (chk_t h26) (go_t (and_t (dec_t h27) (dec_t h28)) (go_t (chk_t h29) (go_t (and_t (dec_t h30) (dec_t h31)) (go_t (chk_t h32) rfl)))))))))))))))))))))))))))))))))))
--CFEND
--CP pSc (t : Ct) (n : Nat) (xs : List Int) :: fnK Tryd.prog ((mkS []).on [(16, true), (23, true), (30, true), (37, true), (44, true), (51, true), (58, true), (65, true), (72, true)]) noL Tryd.f8 [ctv t (sl 0 n 2), ctv t (sl 1 n 2)] [rU n xs, rU n xs]
theorem pSc (t : Ct) (n : Nat) (xs : List Int)
    (h1 : t.v = t.v := by first | omega | assumption | rfl)
    (h2 : t.op = t.op := by first | omega | assumption | rfl)
    (h3 : t.r = t.r := by first | omega | assumption | rfl)
    (h4 : t.e = t.e := by first | omega | assumption | rfl)
    (h5 : t.m = t.m := by first | omega | assumption | rfl)
    (h6 : t.sq = t.sq := by first | omega | assumption | rfl)
    (h7 : t.st = t.st := by first | omega | assumption | rfl)
    (h8 : t.ac = t.ac := by first | omega | assumption | rfl)
    (h9 : t.oc = t.oc := by first | omega | assumption | rfl)
    (h10 : n ≤ n := by first | omega | assumption | rfl)
    (h11 : n ≤ (4611686018427387904 : Nat) := by first | omega | assumption | rfl) : fnK Tryd.prog ((mkS []).on [(16, true), (23, true), (30, true), (37, true), (44, true), (51, true), (58, true), (65, true), (72, true)]) noL Tryd.f8 [ctv t (sl 0 n 2), ctv t (sl 1 n 2)] [rU n xs, rU n xs] =
     (some (Res.ret (Value.bool ((strOf (List.take n xs)).toList == (strOf (List.take n xs)).toList)) [some (Blk.mk false (1 : Nat) [Seg.ints IntKind.u8 n xs]), some (Blk.mk false (1 : Nat) [Seg.ints
     IntKind.u8 n xs])])) :=
  Eq.trans (b :=
     bif t.v == t.v then bif t.op == t.op then bif t.r == t.r then bif t.e == t.e then bif t.m == t.m then bif t.sq == t.sq then bif t.st == t.st then bif t.ac == t.ac then bif t.oc == t.oc then bif (n *
     (1 : Nat)).ble n then bif n.ble (OfNat.ofNat (4611686018427387904 : Nat)) then bif (n * (1 : Nat)).ble n then bif n.ble (OfNat.ofNat (4611686018427387904 : Nat)) then some (Res.ret (Value.bool ((strOf
     (List.take (n * (1 : Nat)) xs)).toList == (strOf (List.take (n * (1 : Nat)) xs)).toList)) [some (Blk.mk false (1 : Nat) [Seg.ints IntKind.u8 n xs]), some (Blk.mk false (1 : Nat) [Seg.ints IntKind.u8 n
     xs])]) else none else none else none else none else none else none else none else none else none else none else none else none else none) (by kernel_rfl) (by simp only [-eq_self, Nat.mul_one]; exact (go_t (eqb_t h1) (go_t (eqb_t h2) (go_t (eqb_t h3) (go_t (eqb_t h4) (go_t (eqb_t h5) (go_t (eqb_t h6) (go_t (eqb_t h7) (go_t (eqb_t h8) (go_t (eqb_t h9) (go_t (ble_t h10) (go_t (ble_t h11) (go_t (ble_t h10) (go_t (ble_t h11) rfl))))))))))))))
--CFEND
end Go.Proofs.YtidhpjgebbimdaaDoor.VC

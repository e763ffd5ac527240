/- PacketControl: EncodeControl, the document's too: closed forms. -/
import Derived.Test.YtidhpjgebbimdaaDoorKC2
namespace Go.Proofs.YtidhpjgebbimdaaDoor.VC
open Go Go.Proofs

theorem okTrm : EntryOK Tryd.prog 15 FTrm := by
  refine EntryOK.of_paths (fn := Tryd.f15) follows_ok Tryd.func15 (by kernel_rfl) (by kernel_rfl) ?_
  intro args h k out hF
  unfold FTrm at hF
  split at hF
  · rename_i o n c s N xs
    obtain ⟨hb, hF2⟩ := bif_t hF
    obtain ⟨h1, h2, h3, rfl⟩ := chk_iff.1 hb
    by_cases hn : n = 0
    · subst hn
      exact ⟨_, _, hF2, fun _ => ⟨_, noL, STrm_ok.on _, noL_ok, pTrm0 o c N xs⟩⟩
    · exact ⟨_, _, hF2, fun _ => ⟨_, noL, STrm_ok.on _, noL_ok, pTrm o n c N xs (by omega) ⟨h1, h2, h3⟩⟩⟩
  · cases hF
/-- A control packet without its data. -/
structure Ct where
  v : Int
  op : Int
  r : Bool
  e : Bool
  m : Bool
  sq : Int
  st : Int
  ac : Int
  oc : Int
abbrev u16v (x : Int) : Value := .int .u16 x
abbrev ctv (t : Ct) (d : Value) : Value := .agg #[u8v t.v, u8v t.op, .bool t.r, .bool t.e, .bool t.m, u16v t.sq, u16v t.st, u16v t.ac, u16v t.oc, d]
abbrev ctB (t : Ct) (d : Value) : Option Blk := some ⟨true, 10, [.ints .u8 2 [t.v, t.op], .vals [.bool t.r, .bool t.e, .bool t.m], .ints .u16 4 [t.sq, t.st, t.ac, t.oc], .vals [d]]⟩
abbrev ar5 (a b c d e : Int) : Value := .agg #[u16v a, u16v b, u16v c, u16v d, u16v e]
noncomputable def SCt : Spec := mkS [(11, true, FPut), (10, false, FBit), (12, false, FFil)]
def liveCt : List Nat := [4, 52, 53, 1]
/-- Five numbers of two bytes. -/
noncomputable def five (a b c d e : Int) : List Int := be (IntKind.u64.wrap a) 2 ++ be (IntKind.u64.wrap b) 2 ++ be (IntKind.u64.wrap c) 2 ++ be (IntKind.u64.wrap d) 2 ++ be (IntKind.u64.wrap e) 2
--CP pCtL (t : Ct) (b0 b1 sq st ac oc ln) (n c N : Nat) (xs : List Int) (k : Exit → List Value → Heap → Out) :: loopN Tryd.prog SCt noL Tryd.f5.ntmps 1 (loopOf Tryd.f5 0) liveCt 6 [sl 1 2 0, ar5 sq st ac oc ln, w63 0, pt 2] [rU N xs, oU 2 [b0, b1], ctB t (sl 0 n c)] k
theorem pCtL (t : Ct) (b0 b1 sq st ac oc ln) (n c N : Nat) (xs : List Int) (k : Exit → List Value → Heap → Out)
    (h1 : (1 : Int) ≤ (2 : Int) ∧ (2 : Int) ≤ (8 : Int) ∧ (2 : Nat) = (2 : Nat) ∧ (2 : Nat) ≤ (900000 : Nat) := by first | omega | assumption | rfl | ((repeat' with_reducible apply And.intro) <;> first | rfl | assumption | omega))
    (h2 : (1 : Int) ≤ (2 : Int) ∧ (2 : Int) ≤ (8 : Int) ∧ (4 : Nat) = (4 : Nat) ∧ (4 : Nat) ≤ (900000 : Nat) := by first | omega | assumption | rfl | ((repeat' with_reducible apply And.intro) <;> first | rfl | assumption | omega))
    (h3 : (1 : Int) ≤ (2 : Int) ∧ (2 : Int) ≤ (8 : Int) ∧ (6 : Nat) = (6 : Nat) ∧ (6 : Nat) ≤ (900000 : Nat) := by first | omega | assumption | rfl | ((repeat' with_reducible apply And.intro) <;> first | rfl | assumption | omega))
    (h4 : (1 : Int) ≤ (2 : Int) ∧ (2 : Int) ≤ (8 : Int) ∧ (8 : Nat) = (8 : Nat) ∧ (8 : Nat) ≤ (900000 : Nat) := by first | omega | assumption | rfl | ((repeat' with_reducible apply And.intro) <;> first | rfl | assumption | omega))
    (h5 : (1 : Int) ≤ (2 : Int) ∧ (2 : Int) ≤ (8 : Int) ∧ (10 : Nat) = (10 : Nat) ∧ (10 : Nat) ≤ (900000 : Nat) := by first | omega | assumption | rfl | ((repeat' with_reducible apply And.intro) <;> first | rfl | assumption | omega)) : loopN Tryd.prog SCt noL Tryd.f5.ntmps 1 (loopOf Tryd.f5 0) liveCt 6 [sl 1 2 0, ar5 sq st ac oc ln, w63 0, pt 2] [rU N xs, oU 2 [b0, b1], ctB t (sl 0 n c)] k =
     (k (Exit.exit (0 : Nat)) [Value.slice (some (Addr.mk (1 : Nat) (0 : Nat) none)) (12 : Nat) (1 : Nat), Value.agg #[Value.int IntKind.u16 sq, Value.int IntKind.u16 st, Value.int IntKind.u16 ac,
     Value.int IntKind.u16 oc, Value.int IntKind.u16 ln], Value.int IntKind.i64 (5 : Int), Value.pointer (some (Addr.mk (2 : Nat) (0 : Nat) none))] [some (Blk.mk false (1 : Nat) [Seg.ints IntKind.u8 N
     xs]), some (Blk.mk true (1 : Nat) [Seg.ints IntKind.u8 (12 : Nat) ([b0, b1] ++ be (IntKind.u64.wrap sq) (2 : Nat) ++ be (IntKind.u64.wrap st) (2 : Nat) ++ be (IntKind.u64.wrap ac) (2 : Nat) ++ be
     (IntKind.u64.wrap oc) (2 : Nat) ++ be (IntKind.u64.wrap ln) (2 : Nat))]), some (Blk.mk true (10 : Nat) [Seg.ints IntKind.u8 (2 : Nat) [t.v, t.op], Seg.vals [Value.bool t.r, Value.bool t.e, Value.bool
     t.m], Seg.ints IntKind.u16 (4 : Nat) [t.sq, t.st, t.ac, t.oc], Seg.vals [Value.slice (some (Addr.mk (0 : Nat) (0 : Nat) none)) n c]])]) :=
  Eq.trans (by kernel_rfl) (go_t (chk_t h1) (go_t (chk_t h2) (go_t (chk_t h3) (go_t (chk_t h4) (go_t (chk_t h5) rfl)))))
--CFEND
noncomputable def LCtf : LF := fun vs h k => match vs, h with
  | [.slice (some ⟨1, 0, none⟩) 2 0, .agg ⟨[.int .u16 sq, .int .u16 st, .int .u16 ac, .int .u16 oc, .int .u16 ln]⟩, .int .i64 0, .pointer (some ⟨2, 0, none⟩)],
    [some ⟨false, 1, [.ints .u8 N xs]⟩, some ⟨true, 1, [.ints .u8 2 [b0, b1]]⟩, some ⟨true, 10, [.ints .u8 2 [v, op], .vals [.bool r, .bool e, .bool m], .ints .u16 4 [sq', st', ac', oc'], .vals [.slice (some ⟨0, 0, none⟩) n c]]⟩] =>
    k (.exit 0) [sl 1 12 1, ar5 sq st ac oc ln, w63 5, pt 2] [rU N xs, oU 12 ([b0, b1] ++ five sq st ac oc ln), ctB ⟨v, op, r, e, m, sq', st', ac', oc'⟩ (sl 0 n c)]
  | _, _ => none
noncomputable def LCt : LSpec := oneL 5 liveCt LCtf
--CP pCt (t : Ct) (n c N : Nat) (xs : List Int) :: fnK Tryd.prog (SCt.on [(10, false), (15, false), (20, false)]) LCt Tryd.f5 [ctv t (sl 0 n c)] [rU N xs]
theorem pCt (t : Ct) (n c N : Nat) (xs : List Int)
    (w1 : -9223372036854775808 ≤ (↑(up4 n) : Int) - (↑n : Int) ∧ (↑(up4 n) : Int) - (↑n : Int) ≤ 9223372036854775807 := by omega)
    (h1 : ¬t.v > (7 : Int) := by first | omega | assumption | rfl)
    (h2 : ¬t.op > (31 : Int) := by first | omega | assumption | rfl)
    (h3 : ¬(↑n : Int) > (468 : Int) := by first | omega | assumption | rfl)
    (h4 : n ≤ N := by first | omega | assumption | rfl)
    (h5 : (12 : Nat) + n ≤ (140737488355328 : Nat) := by first | omega | assumption | rfl)
    (h6 : (12 : Nat) + n ≤ (4611686018427387904 : Nat) := by first | omega | assumption | rfl)
    (h7 : (0 : Int) ≤ (↑n : Int) ∧ (↑n : Int) ≤ (1000000 : Int) := by first | omega | assumption | rfl | ((repeat' with_reducible apply And.intro) <;> first | rfl | assumption | omega))
    (h8 : (0 : Int) ≤ (↑(up4 n) : Int) - (↑n : Int) := by first | omega | assumption | rfl)
    (h9 : (12 : Nat) + n + ((↑(up4 n) : Int) - (↑n : Int)).toNat ≤ (140737488355328 : Nat) := by first | omega | assumption | rfl)
    (h10 : (12 : Nat) + n + ((↑(up4 n) : Int) - (↑n : Int)).toNat ≤ (4611686018427387904 : Nat) := by first | omega | assumption | rfl)
    (h11 : (12 : Nat) + n ≤ (12 : Nat) + n := by first | omega | assumption | rfl)
    (h12 : (12 : Nat) + n = segsLen [Seg.ints IntKind.u8 ((12 : Nat) + n) (List.take (12 : Nat) ([bits BinOp.or IntKind.u8 (IntKind.u8.wrap (t.v * (8 : Int))) (6 : Int), bits BinOp.or IntKind.u8 (bits BinOp.or IntKind.u8 (bits BinOp.or IntKind.u8 (bif t.r then (128 : Int) else (0 : Int)) (bif t.e then (64 : Int) else (0 : Int))) (bif t.m then (32 : Int) else (0 : Int))) t.op] ++ five t.sq t.st t.ac t.oc (IntKind.u16.wrap (↑n : Int))) ++ List.take n xs)] := by first | omega | assumption | rfl) : fnK Tryd.prog (SCt.on [(10, false), (15, false), (20, false)]) LCt Tryd.f5 [ctv t (sl 0 n c)] [rU N xs] =
     (some (Res.ret (Value.tuple (Array.mk [Value.slice (some (Addr.mk (1 : Nat) (0 : Nat) none)) ((12 : Nat) + n + ((↑(up4 n) : Int) - (↑n : Int)).toNat) (1 : Nat), Value.int IntKind.i64 (0 : Int)]))
     [some (Blk.mk false (1 : Nat) [Seg.ints IntKind.u8 N xs]), some (Blk.mk true (1 : Nat) [Seg.ints IntKind.u8 ((12 : Nat) + n + ((↑(up4 n) : Int) - (↑n : Int)).toNat) (List.take ((12 : Nat) + n)
     (List.take (12 : Nat) ([bits BinOp.or IntKind.u8 (IntKind.u8.wrap (t.v * (8 : Int))) (6 : Int), bits BinOp.or IntKind.u8 (bits BinOp.or IntKind.u8 (bits BinOp.or IntKind.u8 (bif t.r then (128 : Int)
     else (0 : Int)) (bif t.e then (64 : Int) else (0 : Int))) (bif t.m then (32 : Int) else (0 : Int))) t.op] ++ five t.sq t.st t.ac t.oc (IntKind.u16.wrap (↑n : Int))) ++ List.take n xs) ++
     List.replicate ((↑(up4 n) : Int) - (↑n : Int)).toNat (0 : Int))])])) :=
  Eq.trans (b :=
     bif decide (t.v > (7 : Int)) then none else bif decide (t.op > (31 : Int)) then none else bif decide ((↑n : Int) > (468 : Int)) then none else bif (n * (1 : Nat)).ble N then bif decide (((12 : Nat) +
     n) * (1 : Nat) ≤ (140737488355328 : Nat)) && ((12 : Nat) + n).ble (OfNat.ofNat (4611686018427387904 : Nat)) then bif chk ((0 : Int) ≤ (↑n : Int) ∧ (↑n : Int) ≤ (1000000 : Int)) then bif decide ((0 :
     Int) ≤ IntKind.i64.wrap ((↑(up4 (↑n : Int).toNat) : Int) - (↑n : Int))) && decide (((12 : Nat) + n + (IntKind.i64.wrap ((↑(up4 (↑n : Int).toNat) : Int) - (↑n : Int))).toNat) * (1 : Nat) ≤
     (140737488355328 : Nat)) && ((12 : Nat) + n + (IntKind.i64.wrap ((↑(up4 (↑n : Int).toNat) : Int) - (↑n : Int))).toNat).ble (OfNat.ofNat (4611686018427387904 : Nat)) then bif (((12 : Nat) + n) * (1 :
     Nat)).ble ((12 : Nat) + n * (1 : Nat)) then bif ((0 : Nat) + ((12 : Nat) + n)).beq (segsLen [Seg.ints IntKind.u8 ((12 : Nat) + n * (1 : Nat)) (List.take (12 : Nat) ([bits BinOp.or IntKind.u8
     (IntKind.u8.wrap (t.v * (8 : Int))) (6 : Int), bits BinOp.or IntKind.u8 (bits BinOp.or IntKind.u8 (bits BinOp.or IntKind.u8 (bif t.r then (128 : Int) else (0 : Int)) (bif t.e then (64 : Int) else (0 :
     Int))) (bif t.m then (32 : Int) else (0 : Int))) t.op] ++ five t.sq t.st t.ac t.oc (IntKind.u16.wrap (↑n : Int))) ++ List.take (n * (1 : Nat)) xs)]) then some (Res.ret (Value.tuple (Array.mk
     [Value.slice (some (Addr.mk (1 : Nat) (0 : Nat) none)) ((12 : Nat) + n + (IntKind.i64.wrap ((↑(up4 (↑n : Int).toNat) : Int) - (↑n : Int))).toNat) (1 : Nat), Value.int IntKind.i64 (0 : Int)])) [some
     (Blk.mk false (1 : Nat) [Seg.ints IntKind.u8 N xs]), some (Blk.mk true (1 : Nat) [Seg.ints IntKind.u8 (((12 : Nat) + n) * (1 : Nat) + (IntKind.i64.wrap ((↑(up4 (↑n : Int).toNat) : Int) - (↑n :
     Int))).toNat) (List.take (((12 : Nat) + n) * (1 : Nat)) (List.take (12 : Nat) ([bits BinOp.or IntKind.u8 (IntKind.u8.wrap (t.v * (8 : Int))) (6 : Int), bits BinOp.or IntKind.u8 (bits BinOp.or
     IntKind.u8 (bits BinOp.or IntKind.u8 (bif t.r then (128 : Int) else (0 : Int)) (bif t.e then (64 : Int) else (0 : Int))) (bif t.m then (32 : Int) else (0 : Int))) t.op] ++ five t.sq t.st t.ac t.oc
     (IntKind.u16.wrap (↑n : Int))) ++ List.take (n * (1 : Nat)) xs) ++ List.replicate (IntKind.i64.wrap ((↑(up4 (↑n : Int).toNat) : Int) - (↑n : Int))).toNat (0 : Int))])]) else none else none else none
     else none else none else none) (by kernel_rfl) (by simp only [-eq_self, Nat.mul_one, Int.toNat_natCast, Nat.zero_add, swrap w1.1 w1.2]; exact (go_f (dec_f h1) (go_f (dec_f h2) (go_f (dec_f h3) (go_t (ble_t h4) (go_t (and_t (dec_t h5) (ble_t h6)) (go_t (chk_t h7) (go_t (and_t (and_t (dec_t h8) (dec_t h9)) (ble_t h10)) (go_t (ble_t h11) (go_t (beq_t h12) rfl))))))))))
--CFEND
--CP pCtE1 (t : Ct) (n c N : Nat) (xs : List Int) :: fnK Tryd.prog (SCt.on [(10, true)]) LCt Tryd.f5 [ctv t (sl 0 n c)] [rU N xs]
theorem pCtE1 (t : Ct) (n c N : Nat) (xs : List Int)
    (h1 : t.v > (7 : Int) := by first | omega | assumption | rfl) : fnK Tryd.prog (SCt.on [(10, true)]) LCt Tryd.f5 [ctv t (sl 0 n c)] [rU N xs] =
     (some (Res.ret (Value.tuple (Array.mk [Value.slice none (0 : Nat) (0 : Nat), Value.int IntKind.i64 (2 : Int)])) [some (Blk.mk false (1 : Nat) [Seg.ints IntKind.u8 N xs])])) :=
  Eq.trans (b :=
     bif decide (t.v > (7 : Int)) then some (Res.ret (Value.tuple (Array.mk [Value.slice none (0 : Nat) (0 : Nat), Value.int IntKind.i64 (2 : Int)])) [some (Blk.mk false (1 : Nat) [Seg.ints IntKind.u8 N
     xs])]) else none) (by kernel_rfl) (by exact (go_t (dec_t h1) rfl))
--CFEND
--CP pCtE2 (t : Ct) (n c N : Nat) (xs : List Int) :: fnK Tryd.prog (SCt.on [(10, false), (15, true)]) LCt Tryd.f5 [ctv t (sl 0 n c)] [rU N xs]
theorem pCtE2 (t : Ct) (n c N : Nat) (xs : List Int)
    (h1 : ¬t.v > (7 : Int) := by first | omega | assumption | rfl)
    (h2 : t.op > (31 : Int) := by first | omega | assumption | rfl) : fnK Tryd.prog (SCt.on [(10, false), (15, true)]) LCt Tryd.f5 [ctv t (sl 0 n c)] [rU N xs] =
     (some (Res.ret (Value.tuple (Array.mk [Value.slice none (0 : Nat) (0 : Nat), Value.int IntKind.i64 (2 : Int)])) [some (Blk.mk false (1 : Nat) [Seg.ints IntKind.u8 N xs])])) :=
  Eq.trans (b :=
     bif decide (t.v > (7 : Int)) then none else bif decide (t.op > (31 : Int)) then some (Res.ret (Value.tuple (Array.mk [Value.slice none (0 : Nat) (0 : Nat), Value.int IntKind.i64 (2 : Int)])) [some
     (Blk.mk false (1 : Nat) [Seg.ints IntKind.u8 N xs])]) else none) (by kernel_rfl) (by exact (go_f (dec_f h1) (go_t (dec_t h2) rfl)))
--CFEND
--CP pCtE3 (t : Ct) (n c N : Nat) (xs : List Int) :: fnK Tryd.prog (SCt.on [(10, false), (15, false), (20, true)]) LCt Tryd.f5 [ctv t (sl 0 n c)] [rU N xs]
theorem pCtE3 (t : Ct) (n c N : Nat) (xs : List Int)
    (h1 : ¬t.v > (7 : Int) := by first | omega | assumption | rfl)
    (h2 : ¬t.op > (31 : Int) := by first | omega | assumption | rfl)
    (h3 : (↑n : Int) > (468 : Int) := by first | omega | assumption | rfl) : fnK Tryd.prog (SCt.on [(10, false), (15, false), (20, true)]) LCt Tryd.f5 [ctv t (sl 0 n c)] [rU N xs] =
     (some (Res.ret (Value.tuple (Array.mk [Value.slice none (0 : Nat) (0 : Nat), Value.int IntKind.i64 (2 : Int)])) [some (Blk.mk false (1 : Nat) [Seg.ints IntKind.u8 N xs])])) :=
  Eq.trans (b :=
     bif decide (t.v > (7 : Int)) then none else bif decide (t.op > (31 : Int)) then none else bif decide ((↑n : Int) > (468 : Int)) then some (Res.ret (Value.tuple (Array.mk [Value.slice none (0 : Nat) (0
     : Nat), Value.int IntKind.i64 (2 : Int)])) [some (Blk.mk false (1 : Nat) [Seg.ints IntKind.u8 N xs])]) else none) (by kernel_rfl) (by exact (go_f (dec_f h1) (go_f (dec_f h2) (go_t (dec_t h3) rfl))))
--CFEND
--CP pCrE1 (t : Ct) (n c N : Nat) (xs : List Int) :: fnK Tryd.prog ((mkS []).on [(12, true)]) noL Tryd.f6 [ctv t (sl 0 n c)] [rU N xs]
theorem pCrE1 (t : Ct) (n c N : Nat) (xs : List Int)
    (h1 : t.v > (7 : Int) := by first | omega | assumption | rfl) : fnK Tryd.prog ((mkS []).on [(12, true)]) noL Tryd.f6 [ctv t (sl 0 n c)] [rU N xs] =
     (some (Res.ret (Value.tuple (Array.mk [Value.slice none (0 : Nat) (0 : Nat), Value.int IntKind.i64 (2 : Int)])) [some (Blk.mk false (1 : Nat) [Seg.ints IntKind.u8 N xs])])) :=
  Eq.trans (b :=
     bif decide (t.v > (7 : Int)) then some (Res.ret (Value.tuple (Array.mk [Value.slice none (0 : Nat) (0 : Nat), Value.int IntKind.i64 (2 : Int)])) [some (Blk.mk false (1 : Nat) [Seg.ints IntKind.u8 N
     xs])]) else none) (by kernel_rfl) (by exact (go_t (dec_t h1) rfl))
--CFEND
--CP pCrE2 (t : Ct) (n c N : Nat) (xs : List Int) :: fnK Tryd.prog ((mkS []).on [(12, false), (17, true)]) noL Tryd.f6 [ctv t (sl 0 n c)] [rU N xs]
theorem pCrE2 (t : Ct) (n c N : Nat) (xs : List Int)
    (h1 : ¬t.v > (7 : Int) := by first | omega | assumption | rfl)
    (h2 : t.op > (31 : Int) := by first | omega | assumption | rfl) : fnK Tryd.prog ((mkS []).on [(12, false), (17, true)]) noL Tryd.f6 [ctv t (sl 0 n c)] [rU N xs] =
     (some (Res.ret (Value.tuple (Array.mk [Value.slice none (0 : Nat) (0 : Nat), Value.int IntKind.i64 (2 : Int)])) [some (Blk.mk false (1 : Nat) [Seg.ints IntKind.u8 N xs])])) :=
  Eq.trans (b :=
     bif decide (t.v > (7 : Int)) then none else bif decide (t.op > (31 : Int)) then some (Res.ret (Value.tuple (Array.mk [Value.slice none (0 : Nat) (0 : Nat), Value.int IntKind.i64 (2 : Int)])) [some
     (Blk.mk false (1 : Nat) [Seg.ints IntKind.u8 N xs])]) else none) (by kernel_rfl) (by exact (go_f (dec_f h1) (go_t (dec_t h2) rfl)))
--CFEND
--CP pCrE3 (t : Ct) (n c N : Nat) (xs : List Int) :: fnK Tryd.prog ((mkS []).on [(12, false), (17, false), (20, true)]) noL Tryd.f6 [ctv t (sl 0 n c)] [rU N xs]
theorem pCrE3 (t : Ct) (n c N : Nat) (xs : List Int)
    (h1 : ¬t.v > (7 : Int) := by first | omega | assumption | rfl)
    (h2 : ¬t.op > (31 : Int) := by first | omega | assumption | rfl)
    (h3 : (↑n : Int) > (468 : Int) := by first | omega | assumption | rfl) : fnK Tryd.prog ((mkS []).on [(12, false), (17, false), (20, true)]) noL Tryd.f6 [ctv t (sl 0 n c)] [rU N xs] =
     (some (Res.ret (Value.tuple (Array.mk [Value.slice none (0 : Nat) (0 : Nat), Value.int IntKind.i64 (2 : Int)])) [some (Blk.mk false (1 : Nat) [Seg.ints IntKind.u8 N xs])])) :=
  Eq.trans (b :=
     bif decide (t.v > (7 : Int)) then none else bif decide (t.op > (31 : Int)) then none else bif decide ((↑n : Int) > (468 : Int)) then some (Res.ret (Value.tuple (Array.mk [Value.slice none (0 : Nat) (0
     : Nat), Value.int IntKind.i64 (2 : Int)])) [some (Blk.mk false (1 : Nat) [Seg.ints IntKind.u8 N xs])]) else none) (by kernel_rfl) (by exact (go_f (dec_f h1) (go_f (dec_f h2) (go_t (dec_t h3) rfl))))
--CFEND
end Go.Proofs.YtidhpjgebbimdaaDoor.VC

/- sirf: layouts, many, get: closed forms. -/
import Derived.Test.YtcjjngdkkihgjaaBV
namespace Go.Proofs.Ytcjjngdkkihgjaa.VC
open Go Go.Proofs

abbrev rF (n : Nat) (xs : List Int) : Option Blk := some ⟨false, 2, [.ints .i64 n xs]⟩
abbrev oF (n : Nat) (xs : List Int) : Option Blk := some ⟨true, 2, [.ints .i64 n xs]⟩
def FOfS : FSpec := fun args h k => match args, h with
  | [.int .i64 n, .slice (some ⟨0, 0, none⟩) m c], [some ⟨false, 2, [.ints .i64 N xs]⟩] => k (.agg #[w63 n, sl 0 m c]) [rF N xs]
  | _, _ => none
--CF cfOfS (n : Int) (m c N : Nat) (xs : List Int) :: fnK Try.prog (mkS []) noL Try.f99 [w63 n, sl 0 m c] [rF N xs]
theorem cfOfS (n : Int) (m c N : Nat) (xs : List Int) : fnK Try.prog (mkS []) noL Try.f99 [w63 n, sl 0 m c] [rF N xs] =
     (some (Res.ret (Value.agg (Array.mk [Value.int IntKind.i64 n, Value.slice (some (Addr.mk 0 0 none)) m c])) [some (Blk.mk false 2 [Seg.ints IntKind.i64 N xs])])) := by kernel_rfl
--CFEND
def SOfS : Spec := mkS [(99, false, FOfS)]
--CF cfLayS . :: fnK Try.prog SOfS noL Try.f65 [] []
theorem cfLayS  : fnK Try.prog SOfS noL Try.f65 [] [] =
     (some (Res.ret (Value.map (some 0)) [some (Blk.mk true 0 [Seg.mp [(Value.int IntKind.u8 2, Value.agg (Array.mk [Value.int IntKind.i64 41, Value.slice (some (Addr.mk 1 0 none)) 12 0])), (Value.int
     IntKind.u8 4, Value.agg (Array.mk [Value.int IntKind.i64 188, Value.slice (some (Addr.mk 2 0 none)) 3 0])), (Value.int IntKind.u8 7, Value.agg (Array.mk [Value.int IntKind.i64 20, Value.slice (some
     (Addr.mk 3 0 none)) 6 0])), (Value.int IntKind.u8 41, Value.agg (Array.mk [Value.int IntKind.i64 91, Value.slice (some (Addr.mk 4 0 none)) 10 0])), (Value.int IntKind.u8 52, Value.agg (Array.mk
     [Value.int IntKind.i64 19, Value.slice (some (Addr.mk 5 0 none)) 9 0])), (Value.int IntKind.u8 11, Value.agg (Array.mk [Value.int IntKind.i64 2, Value.slice (some (Addr.mk 6 0 none)) 1 0])),
     (Value.int IntKind.u8 12, Value.agg (Array.mk [Value.int IntKind.i64 2, Value.slice (some (Addr.mk 7 0 none)) 1 0])), (Value.int IntKind.u8 166, Value.agg (Array.mk [Value.int IntKind.i64 8,
     Value.slice (some (Addr.mk 8 0 none)) 3 0]))]]), some (Blk.mk true 2 [Seg.ints IntKind.i64 24 [1, -4, 5, -4, 9, -4, 13, -2, 15, -2, 17, -2, 19, 1, 20, 1, 21, 1, 22, 2, 24, 4, 28, 1]]), some (Blk.mk
     true 2 [Seg.ints IntKind.i64 6 [1, -2, 3, 4, 7, 1]]), some (Blk.mk true 2 [Seg.ints IntKind.i64 12 [1, 2, 3, 4, 7, 1, 8, 4, 12, 4, 16, 4]]), some (Blk.mk true 2 [Seg.ints IntKind.i64 20 [1, 2, 3, 2,
     5, 2, 7, 4, 11, 2, 13, 1, 14, 1, 15, 1, 16, 1, 17, 2]]), some (Blk.mk true 2 [Seg.ints IntKind.i64 18 [1, 1, 2, 1, 3, 1, 4, 1, 5, 1, 6, 2, 8, -2, 10, 4, 14, 1]]), some (Blk.mk true 2 [Seg.ints
     IntKind.i64 2 [1, 1]]), some (Blk.mk true 2 [Seg.ints IntKind.i64 2 [1, 1]]), some (Blk.mk true 2 [Seg.ints IntKind.i64 6 [1, 1, 2, 1, 3, 1]])])) := by kernel_rfl
--CFEND
--CF cfMany (a s : Int) :: fnK Try.prog (mkS []) noL Try.f100 [.agg #[w63 a, w63 s]] []
theorem cfMany (a s : Int) : fnK Try.prog (mkS []) noL Try.f100 [.agg #[w63 a, w63 s]] [] =
     (some (Res.ret (Value.int IntKind.i64 (if IntKind.i64.wrap (0 - s) > s then IntKind.i64.wrap (0 - s) else s)) [])) := by kernel_rfl
--CFEND
/-- How many bytes a field has. -/
def manyI (s : Int) : Int := if 0 - s > s then 0 - s else s
noncomputable def FManyS : FSpec := fun args h k => match args, h with
  | [.agg ⟨[.int .i64 _, .int .i64 s]⟩], [] => bif chk (-8 ≤ s ∧ s ≤ 8) then k (w63 (manyI s)) [] else none
  | _, _ => none
noncomputable def SManyS : Spec := mkS [(100, false, FManyS)]
def liveGetS : List Nat := [1, 2, 4, 5, 9, 10]
--CP pGetS (v a s m : Int) (o n c i N : Nat) (xs : List Int) (on : List Value → Heap → Out) (out : Exit → List Value → Heap → Out) :: roundK Try.prog (SManyS.on [(11, true)]) noL Try.f66.ntmps 1 (loopOf Try.f66 0) liveGetS [slo 0 o n c, pt 1, w63 0, u64v v, w63 m, w63 i] [rU N xs, oF 2 [a, s]] on out
theorem pGetS (v a s m : Int) (o n c i N : Nat) (xs : List Int) (on : List Value → Heap → Out) (out : Exit → List Value → Heap → Out)
    (w1 : -9223372036854775808 ≤ a + (↑i : Int) ∧ a + (↑i : Int) ≤ 9223372036854775807 := by omega)
    (w2 : -9223372036854775808 ≤ (↑i : Int) + (1 : Int) ∧ (↑i : Int) + (1 : Int) ≤ 9223372036854775807 := by omega)
    (h1 : (↑i : Int) < m := by first | omega | assumption | rfl)
    (h2 : (0 : Int) ≤ a + (↑i : Int) := by first | omega | assumption | rfl)
    (h3 : a + (↑i : Int) < (↑n : Int) := by first | omega | assumption | rfl)
    (h4 : o + (a + (↑i : Int)).toNat < N := by first | omega | assumption | rfl) : roundK Try.prog (SManyS.on [(11, true)]) noL Try.f66.ntmps 1 (loopOf Try.f66 0) liveGetS [slo 0 o n c, pt 1, w63 0, u64v v, w63 m, w63 i] [rU N xs, oF 2 [a, s]] on out =
     (on [Value.slice (some (Addr.mk (0 : Nat) o none)) n c, Value.pointer (some (Addr.mk (1 : Nat) (0 : Nat) none)), Value.int IntKind.i64 (0 : Int), Value.int IntKind.u64 (bits BinOp.or IntKind.u64
     (IntKind.u64.wrap (v * (256 : Int))) (IntKind.u64.wrap (xs.getD (o + (a + (↑i : Int)).toNat) (0 : Int)))), Value.int IntKind.i64 m, Value.int IntKind.i64 ((↑i : Int) + (1 : Int))] [some (Blk.mk false
     (1 : Nat) [Seg.ints IntKind.u8 N xs]), some (Blk.mk true (2 : Nat) [Seg.ints IntKind.i64 (2 : Nat) [a, s]])]) :=
  Eq.trans (b :=
     bif decide ((↑i : Int) < m) then bif decide ((0 : Int) ≤ IntKind.i64.wrap (a + (↑i : Int))) && decide (IntKind.i64.wrap (a + (↑i : Int)) < (↑n : Int)) then bif (o + (IntKind.i64.wrap (a + (↑i :
     Int))).toNat * (1 : Nat)).blt N then on [Value.slice (some (Addr.mk (0 : Nat) o none)) n c, Value.pointer (some (Addr.mk (1 : Nat) (0 : Nat) none)), Value.int IntKind.i64 (0 : Int), Value.int
     IntKind.u64 (bits BinOp.or IntKind.u64 (IntKind.u64.wrap (v * (256 : Int))) (IntKind.u64.wrap (xs.getD (o + (IntKind.i64.wrap (a + (↑i : Int))).toNat * (1 : Nat)) (0 : Int)))), Value.int IntKind.i64
     m, Value.int IntKind.i64 (IntKind.i64.wrap ((↑i : Int) + (1 : Int)))] [some (Blk.mk false (1 : Nat) [Seg.ints IntKind.u8 N xs]), some (Blk.mk true (2 : Nat) [Seg.ints IntKind.i64 (2 : Nat) [a, s]])]
     else none else none else none) (by kernel_rfl) (by simp only [-eq_self, Nat.mul_one, swrap w1.1 w1.2, swrap w2.1 w2.2]; exact (go_t (dec_t h1) (go_t (and_t (dec_t h2) (dec_t h3)) (go_t (blt_t h4) rfl))))
--CFEND
--CP pGetSX (v a s m i : Int) (o n c N : Nat) (xs : List Int) (on : List Value → Heap → Out) (out : Exit → List Value → Heap → Out) :: roundK Try.prog (SManyS.on [(11, false)]) noL Try.f66.ntmps 1 (loopOf Try.f66 0) liveGetS [slo 0 o n c, pt 1, w63 0, u64v v, w63 m, w63 i] [rU N xs, oF 2 [a, s]] on out
theorem pGetSX (v a s m i : Int) (o n c N : Nat) (xs : List Int) (on : List Value → Heap → Out) (out : Exit → List Value → Heap → Out)
    (h1 : ¬i < m := by first | omega | assumption | rfl) : roundK Try.prog (SManyS.on [(11, false)]) noL Try.f66.ntmps 1 (loopOf Try.f66 0) liveGetS [slo 0 o n c, pt 1, w63 0, u64v v, w63 m, w63 i] [rU N xs, oF 2 [a, s]] on out =
     (out (Exit.exit (0 : Nat)) [Value.slice (some (Addr.mk (0 : Nat) o none)) n c, Value.pointer (some (Addr.mk (1 : Nat) (0 : Nat) none)), Value.int IntKind.i64 (0 : Int), Value.int IntKind.u64 v,
     Value.int IntKind.i64 m, Value.int IntKind.i64 i] [some (Blk.mk false (1 : Nat) [Seg.ints IntKind.u8 N xs]), some (Blk.mk true (2 : Nat) [Seg.ints IntKind.i64 (2 : Nat) [a, s]])]) :=
  Eq.trans (by kernel_rfl) (go_f (dec_f h1) rfl)
--CFEND
/-- The bytes of a field. -/
def fldB (xs : List Int) (o : Nat) (a m : Int) : List Int := (xs.drop (o + a.toNat)).take m.toNat
noncomputable def LGetSf : LF := fun vs h k => match vs, h with
  | [.slice (some ⟨0, o, none⟩) n c, .pointer (some ⟨1, 0, none⟩), .int .i64 0, .int .u64 0, .int .i64 m, .int .i64 0], [some ⟨false, 1, [.ints .u8 N xs]⟩, some ⟨true, 2, [.ints .i64 2 [a, s]]⟩] =>
    bif chk (0 ≤ a ∧ 0 ≤ m ∧ m ≤ 4 ∧ a + m ≤ n ∧ o + n ≤ N ∧ N ≤ 1000000) then k (.exit 0) [slo 0 o n c, pt 1, w63 0, u64v (valB (fldB xs o a m)), w63 m, w63 m] [rU N xs, oF 2 [a, s]] else none
  | _, _ => none
noncomputable def LGetS : LSpec := oneL 3 liveGetS LGetSf
--CF cfGetSF1 (a s : Int) (o n c N : Nat) (xs : List Int) :: fnK Try.prog (SManyS.on [(32, true)]) LGetS Try.f66 [.agg #[w63 a, w63 s], slo 0 o n c] [rU N xs]
theorem cfGetSF1 (a s : Int) (o n c N : Nat) (xs : List Int) : fnK Try.prog (SManyS.on [(32, true)]) LGetS Try.f66 [.agg #[w63 a, w63 s], slo 0 o n c] [rU N xs] =
     (bif chk (-8 ≤ s ∧ s ≤ 8) then bif chk (0 ≤ a ∧ 0 ≤ manyI s ∧ manyI s ≤ 4 ∧ a + manyI s ≤ (↑n : Int) ∧ o + n ≤ N ∧ N ≤ 1000000) then bif chk (-8 ≤ s ∧ s ≤ 8) then bif decide (s < 0) then bif decide
     (IntKind.u64.wrap (IntKind.i64.wrap (64 - IntKind.i64.wrap (8 * manyI s))) < 0) then none else bif decide (IntKind.u64.wrap (IntKind.i64.wrap (64 - IntKind.i64.wrap (8 * manyI s))) < 0) then none else
     some (Res.ret (Value.int IntKind.i64 ((IntKind.i64.wrap (IntKind.u64.wrap (valB (fldB xs o a (manyI s)) * 2 ^ min (IntKind.u64.wrap (IntKind.i64.wrap (64 - IntKind.i64.wrap (8 * manyI s)))).toNat
     64))).fdiv (2 ^ min (IntKind.u64.wrap (IntKind.i64.wrap (64 - IntKind.i64.wrap (8 * manyI s)))).toNat 64))) [some (Blk.mk false 1 [Seg.ints IntKind.u8 N xs])]) else none else none else none else none) := by kernel_rfl
--CFEND
--CP pGetSF0 (a s : Int) (o n c N : Nat) (xs : List Int) :: fnK Try.prog (SManyS.on [(32, false)]) LGetS Try.f66 [.agg #[w63 a, w63 s], slo 0 o n c] [rU N xs]
theorem pGetSF0 (a s : Int) (o n c N : Nat) (xs : List Int)
    (w1 : -9223372036854775808 ≤ valB (fldB xs o a (manyI s)) ∧ valB (fldB xs o a (manyI s)) ≤ 9223372036854775807 := by omega)
    (h1 : (-8 : Int) ≤ s ∧ s ≤ (8 : Int) := by first | omega | assumption | rfl | ((repeat' with_reducible apply And.intro) <;> first | rfl | assumption | omega))
    (h2 : (0 : Int) ≤ a ∧ (0 : Int) ≤ manyI s ∧ manyI s ≤ (4 : Int) ∧ a + manyI s ≤ (↑n : Int) ∧ o + n ≤ N ∧ N ≤ (1000000 : Nat) := by first | omega | assumption | rfl | ((repeat' with_reducible apply And.intro) <;> first | rfl | assumption | omega))
    (h3 : ¬s < (0 : Int) := by first | omega | assumption | rfl) : fnK Try.prog (SManyS.on [(32, false)]) LGetS Try.f66 [.agg #[w63 a, w63 s], slo 0 o n c] [rU N xs] =
     (some (Res.ret (Value.int IntKind.i64 (valB (fldB xs o a (manyI s)))) [some (Blk.mk false (1 : Nat) [Seg.ints IntKind.u8 N xs])])) :=
  Eq.trans (b :=
     bif chk ((-8 : Int) ≤ s ∧ s ≤ (8 : Int)) then bif chk ((0 : Int) ≤ a ∧ (0 : Int) ≤ manyI s ∧ manyI s ≤ (4 : Int) ∧ a + manyI s ≤ (↑n : Int) ∧ o + n ≤ N ∧ N ≤ (1000000 : Nat)) then bif chk ((-8 : Int)
     ≤ s ∧ s ≤ (8 : Int)) then bif decide (s < (0 : Int)) then none else some (Res.ret (Value.int IntKind.i64 (IntKind.i64.wrap (valB (fldB xs o a (manyI s))))) [some (Blk.mk false (1 : Nat) [Seg.ints
     IntKind.u8 N xs])]) else none else none else none) (by kernel_rfl) (by simp only [-eq_self, swrap w1.1 w1.2]; exact (go_t (chk_t h1) (go_t (chk_t h2) (go_t (chk_t h1) (go_f (dec_f h3) rfl)))))
--CFEND
end Go.Proofs.Ytcjjngdkkihgjaa.VC

/- sirf: many, get: what they are. -/
namespace Go.Proofs.Ytcjjngdkkihgjaa.VC
open Go Go.Proofs

theorem okOfS : EntryOK Try.prog 99 FOfS := by
  refine EntryOK.of_paths (fn := Try.f99) follows_ok Try.func99 (by kernel_rfl) (by kernel_rfl) ?_
  intro args h k out hF
  unfold FOfS at hF
  split at hF
  · exact ⟨_, _, hF, fun _ => ⟨_, noL, mk0, noL_ok, cfOfS ..⟩⟩
  · cases hF
theorem okManyS : EntryOK Try.prog 100 FManyS := by
  refine EntryOK.of_paths (fn := Try.f100) follows_ok Try.func100 (by kernel_rfl) (by kernel_rfl) ?_
  intro args h k out hF
  unfold FManyS at hF
  split at hF
  · rename_i a s
    obtain ⟨hb, hF2⟩ := bif_t hF
    have hc := chk_iff.1 hb
    refine ⟨_, _, hF2, fun _ => ⟨_, noL, mk0, noL_ok, (cfMany a s).trans ?_⟩⟩
    rw [swrap (by omega) (by omega)]; rfl
  · cases hF
theorem SManyS_ok : SpecOK Try.prog SManyS := mkS_cons okManyS (mkS_nil _)
theorem fld_len {xs : List Int} {o : Nat} {a m : Int} {N : Nat} (hl : xs.length = N) (h : o + a.toNat + m.toNat ≤ N) : (fldB xs o a m).length = m.toNat := by
  unfold fldB; rw [List.length_take, List.length_drop]; omega
theorem fld_mem {xs : List Int} {o : Nat} {a m : Int} (hx : ∀ x ∈ xs, 0 ≤ x ∧ x ≤ 255) : ∀ x ∈ fldB xs o a m, 0 ≤ x ∧ x ≤ 255 := fun x h => hx x (List.mem_of_mem_drop (List.mem_of_mem_take h))
theorem fld_val {xs : List Int} {o : Nat} {a m : Int} {N : Nat} (hl : xs.length = N) (hx : ∀ x ∈ xs, 0 ≤ x ∧ x ≤ 255) (h : o + a.toNat + m.toNat ≤ N) : 0 ≤ valB (fldB xs o a m) ∧ valB (fldB xs o a m) < 256 ^ m.toNat :=
  valB_lt _ _ (fld_len hl h) (fld_mem hx)
/-- One byte more of a number. -/
theorem valB_step {v x : Int} {i : Nat} (hi : i ≤ 6) (h0 : 0 ≤ v) (h1 : v < 256 ^ i) (hx : 0 ≤ x ∧ x ≤ 255) : bits .or .u64 (IntKind.u64.wrap (v * 256)) (IntKind.u64.wrap x) = v * 256 + x := by
  have hp := pow_le8 (show i ≤ 7 by omega)
  rw [wU64, wU64, Int.emod_eq_of_lt (by omega) (by omega), Int.emod_eq_of_lt (by omega) (by omega)]
  exact bits_up .u64 rfl (h := v) (c := x) 8 h0 hx.1 (by show v * 256 < 18446744073709551616; omega) (by show x < 256; omega) (by decide)
theorem take_one {xs : List Int} {q i : Nat} (h : q + i < xs.length) : (xs.drop q).take (i + 1) = (xs.drop q).take i ++ [xs.getD (q + i) 0] := by
  rw [List.take_succ_eq_append_getElem (by rw [List.length_drop]; omega), List.getElem_drop, List.getD_eq_getElem?_getD, List.getElem?_eq_getElem (by omega), Option.getD_some]
theorem getD_rng {xs : List Int} {i : Nat} (hx : ∀ x ∈ xs, 0 ≤ x ∧ x ≤ 255) (h : i < xs.length) : 0 ≤ xs.getD i 0 ∧ xs.getD i 0 ≤ 255 := by
  rw [List.getD_eq_getElem?_getD, List.getElem?_eq_getElem h]; exact hx _ (List.getElem_mem ..)
abbrev stGetS (v m : Int) (o n c : Nat) (i : Int) : List Value := [slo 0 o n c, pt 1, w63 0, u64v v, w63 m, w63 i]
theorem loopGetS {a s : Int} {o n c m N : Nat} {xs : List Int} (ha : 0 ≤ a) (hm : m ≤ 4) (hn : a + m ≤ n) (ho : o + n ≤ N) (hN : N ≤ 1000000) (hl : xs.length = N) (hx : ∀ x ∈ xs, 0 ≤ x ∧ x ≤ 255) : ∀ (r i : Nat), i + r = m →
    LoopT Try.prog Try.f66.ntmps 1 (loopOf Try.f66 0) (zipS liveGetS (stGetS (valB (fldB xs o a i)) m o n c i)) [rU N xs, oF 2 [a, s]] (.exit 0) (zipS liveGetS (stGetS (valB (fldB xs o a m)) m o n c m)) [rU N xs, oF 2 [a, s]] := by
  intro r
  induction r with
  | zero =>
    intro i hi
    obtain rfl : i = m := by omega
    exact LoopT.last (by intro h; cases h) (CodeT.out (SManyS_ok.on _) noL_ok fun on out => pGetSX _ a s _ _ o n c N xs on out)
  | succ r ih =>
    intro i hi
    refine LoopT.step (CodeT.on (live := liveGetS) (vs1 := stGetS (valB (fldB xs o a ((i + 1 : Nat) : Int))) m o n c ((i + 1 : Nat) : Int)) (h1 := [rU N xs, oF 2 [a, s]]) (SManyS_ok.on [(11, true)]) noL_ok fun on out => ?_) (ih (i + 1) (by omega))
    refine (pGetS _ a s m o n c i N xs on out).trans ?_
    have hb := getD_rng hx (i := o + a.toNat + i) (by omega)
    have hv := fld_val (m := i) hl hx (show o + a.toNat + (i : Int).toNat ≤ N by omega)
    have e : fldB xs o a ((i + 1 : Nat) : Int) = fldB xs o a i ++ [xs.getD (o + a.toNat + i) 0] := take_one (by omega)
    rw [e, valB_snoc]
    rw [show o + (a + (i : Int)).toNat = o + a.toNat + i by omega, valB_step (i := i) (by omega) hv.1 (by simpa using hv.2) hb]
    rfl
theorem loopOKGetS : LoopOK Try.prog Try.f66.ntmps 1 (loopOf Try.f66 0) liveGetS LGetSf := by
  refine LoopOK.of_T ?_
  intro vs h k out hk
  unfold LGetSf at hk
  split at hk
  · rename_i o n c m N xs a s
    obtain ⟨hb, hk2⟩ := bif_t hk
    obtain ⟨h1, h2, h3, h4, h5, h6⟩ := chk_iff.1 hb
    refine ⟨_, _, _, hk2, fun real => ?_⟩
    have hs := real.segs (i := 0) rfl rfl _ (List.mem_cons_self ..)
    have := loopGetS (a := a) (s := s) (o := o) (n := n) (c := c) (m := m.toNat) h1 (by omega) (by omega) h5 h6 hs.1 (fun x hx => hs.2 x hx) m.toNat 0 (by omega)
    rw [show ((m.toNat : Nat) : Int) = m by omega] at this
    exact this
  · cases hk
theorem loopsGetS : LoopsOK Try.prog LGetS Try.f66.ntmps 1 (bodyOf Try.f66) := loops_one rfl (by kernel_rfl) loopOKGetS
/-- A number of so many bytes, with a sign. -/
def sgnV (m v : Int) : Int := if 256 ^ m.toNat ≤ 2 * v then v - 256 ^ m.toNat else v
def getV (xs : List Int) (o : Nat) (a s : Int) : Int := if s < 0 then sgnV (manyI s) (valB (fldB xs o a (manyI s))) else valB (fldB xs o a (manyI s))
theorem manyI_rng {s : Int} (h : -4 ≤ s ∧ s ≤ 4) : 0 ≤ manyI s ∧ manyI s ≤ 4 := by unfold manyI; split <;> omega
/-- A sign spread by shifts. -/
theorem spread {m v : Int} (h1 : 1 ≤ m) (h4 : m ≤ 4) (v0 : 0 ≤ v) (v1 : v < 256 ^ m.toNat) : (IntKind.i64.wrap (IntKind.u64.wrap (v * 2 ^ min (IntKind.u64.wrap (64 - 8 * m)).toNat 64))).fdiv (2 ^ min (IntKind.u64.wrap (64 - 8 * m)).toNat 64) = sgnV m v := by
  obtain ⟨q, rfl⟩ := Int.eq_ofNat_of_zero_le (show 0 ≤ m by omega)
  have : q = 1 ∨ q = 2 ∨ q = 3 ∨ q = 4 := by omega
  unfold sgnV
  rw [wU64, wU64, wi64e]
  rcases this with rfl | rfl | rfl | rfl
  · have e : min ((64 - 8 * ((1 : Nat) : Int)) % 18446744073709551616).toNat 64 = 56 := by decide
    have p : (2 : Int) ^ 56 = 72057594037927936 := by decide
    have p2 : (256 : Int) ^ ((1 : Nat) : Int).toNat = 256 := by decide
    rw [p2] at v1 ⊢
    rw [e, p, Int.fdiv_eq_ediv_of_nonneg _ (by decide)]
    split <;> omega
  · have e : min ((64 - 8 * ((2 : Nat) : Int)) % 18446744073709551616).toNat 64 = 48 := by decide
    have p : (2 : Int) ^ 48 = 281474976710656 := by decide
    have p2 : (256 : Int) ^ ((2 : Nat) : Int).toNat = 65536 := by decide
    rw [p2] at v1 ⊢
    rw [e, p, Int.fdiv_eq_ediv_of_nonneg _ (by decide)]
    split <;> omega
  · have e : min ((64 - 8 * ((3 : Nat) : Int)) % 18446744073709551616).toNat 64 = 40 := by decide
    have p : (2 : Int) ^ 40 = 1099511627776 := by decide
    have p2 : (256 : Int) ^ ((3 : Nat) : Int).toNat = 16777216 := by decide
    rw [p2] at v1 ⊢
    rw [e, p, Int.fdiv_eq_ediv_of_nonneg _ (by decide)]
    split <;> omega
  · have e : min ((64 - 8 * ((4 : Nat) : Int)) % 18446744073709551616).toNat 64 = 32 := by decide
    have p : (2 : Int) ^ 32 = 4294967296 := by decide
    have p2 : (256 : Int) ^ ((4 : Nat) : Int).toNat = 4294967296 := by decide
    rw [p2] at v1 ⊢
    rw [e, p, Int.fdiv_eq_ediv_of_nonneg _ (by decide)]
    split <;> omega
noncomputable def FGetS : FSpec := fun args h k => match args, h with
  | [.agg ⟨[.int .i64 a, .int .i64 s]⟩, .slice (some ⟨0, o, none⟩) n _], [some ⟨false, 1, [.ints .u8 N xs]⟩] =>
    bif chk (-4 ≤ s ∧ s ≤ 4 ∧ s ≠ 0 ∧ 0 ≤ a ∧ a + manyI s ≤ n ∧ o + n ≤ N ∧ N ≤ 1000000) then k (w63 (getV xs o a s)) [rU N xs] else none
  | _, _ => none
theorem okGetS : EntryOK Try.prog 66 FGetS := by
  refine EntryOK.of_paths (fn := Try.f66) follows_ok Try.func66 (by kernel_rfl) (by kernel_rfl) ?_
  intro args h k out hF
  unfold FGetS at hF
  split at hF
  · rename_i a s o n c N xs
    obtain ⟨hb, hF2⟩ := bif_t hF
    obtain ⟨h1, h2, h3, h4, h5, h6, h7⟩ := chk_iff.1 hb
    refine ⟨_, _, hF2, fun real => ?_⟩
    have hs := real.segs (i := 0) rfl rfl _ (List.mem_cons_self ..)
    have hm := manyI_rng ⟨h1, h2⟩
    have hm1 : 1 ≤ manyI s := by unfold manyI; split <;> omega
    have hv := fld_val (xs := xs) (o := o) (a := a) (m := manyI s) hs.1 (fun x hx => hs.2 x hx) (by omega)
    have h64 : (256 : Int) ^ (manyI s).toNat ≤ 4294967296 := by
      have : (256 : Nat) ^ (manyI s).toNat ≤ 256 ^ 4 := Nat.pow_le_pow_right (by decide) (by omega)
      have e : ((256 ^ (manyI s).toNat : Nat) : Int) = (256 : Int) ^ (manyI s).toNat := by simp
      rw [← e]; omega
    by_cases hneg : s < 0
    · refine ⟨_, LGetS, SManyS_ok.on [(32, true)], loopsGetS, (cfGetSF1 a s o n c N xs).trans ?_⟩
      have c1 : (-8 ≤ s ∧ s ≤ 8) := by omega
      have c2 : 0 ≤ a ∧ 0 ≤ manyI s ∧ manyI s ≤ 4 ∧ a + manyI s ≤ n ∧ o + n ≤ N ∧ N ≤ 1000000 := ⟨h4, hm.1, hm.2, h5, h6, h7⟩
      rw [swrap (x := 8 * manyI s) (by omega) (by omega), swrap (x := 64 - 8 * manyI s) (by omega) (by omega)]
      have c3 : ¬ IntKind.u64.wrap (64 - 8 * manyI s) < 0 := by rw [wU64]; omega
      refine go_t (chk_t c1) (go_t (chk_t c2) (go_t (chk_t c1) (go_t (dec_t hneg) (go_f (dec_f c3) (go_f (dec_f c3) ?_)))))
      rw [spread hm1 hm.2 hv.1 hv.2]
      unfold getV
      rw [if_pos hneg]
    · refine ⟨_, LGetS, SManyS_ok.on [(32, false)], loopsGetS, (pGetSF0 a s o n c N xs).trans ?_⟩
      unfold getV
      rw [if_neg hneg]
  · cases hF
end Go.Proofs.Ytcjjngdkkihgjaa.VC

/- sirf: Decode: closed forms. -/
namespace Go.Proofs.Ytcjjngdkkihgjaa.VC
open Go Go.Proofs

/-- What SiRF's kinds hold: how long, and the fields' places and sizes. -/
def layS : Int → Option (Nat × List Int)
  | 2 => some (41, [1,-4,5,-4,9,-4,13,-2,15,-2,17,-2,19,1,20,1,21,1,22,2,24,4,28,1])
  | 4 => some (188, [1,-2,3,4,7,1])
  | 7 => some (20, [1,2,3,4,7,1,8,4,12,4,16,4])
  | 41 => some (91, [1,2,3,2,5,2,7,4,11,2,13,1,14,1,15,1,16,1,17,2])
  | 52 => some (19, [1,1,2,1,3,1,4,1,5,1,6,2,8,-2,10,4,14,1])
  | 11 => some (2, [1,1])
  | 12 => some (2, [1,1])
  | 166 => some (8, [1,1,2,1,3,1])
  | _ => none
/-- What a spec says of the layouts. -/
def FLayS : FSpec := fun args h k => match args, h with
  | [], [] => k (.map (some 0)) [some ⟨true, 0, [.mp [(u8v 2, .agg #[w63 41, sl 1 12 0]), (u8v 4, .agg #[w63 188, sl 2 3 0]), (u8v 7, .agg #[w63 20, sl 3 6 0]), (u8v 41, .agg #[w63 91, sl 4 10 0]), (u8v 52, .agg #[w63 19, sl 5 9 0]), (u8v 11, .agg #[w63 2, sl 6 1 0]), (u8v 12, .agg #[w63 2, sl 7 1 0]), (u8v 166, .agg #[w63 8, sl 8 3 0])]]⟩, oF 24 [1,-4,5,-4,9,-4,13,-2,15,-2,17,-2,19,1,20,1,21,1,22,2,24,4,28,1], oF 6 [1,-2,3,4,7,1], oF 12 [1,2,3,4,7,1,8,4,12,4,16,4], oF 20 [1,2,3,2,5,2,7,4,11,2,13,1,14,1,15,1,16,1,17,2], oF 18 [1,1,2,1,3,1,4,1,5,1,6,2,8,-2,10,4,14,1], oF 2 [1,1], oF 2 [1,1], oF 6 [1,1,2,1,3,1]]
  | _, _ => none
noncomputable def SDecS : Spec := mkS [(66, false, FGetS), (65, false, FLayS)]
abbrev uS (x : Int) (v : Value) : Option Blk := some ⟨true, 2, [.ints .u8 1 [x], .vals [v]]⟩
def liveDecS : List Nat := [0, 2, 3, 36, 37, 38]
--CP pDecR (x : Int) (o n c i k N : Nat) (xs vs fl : List Int) (on : List Value → Heap → Out) (out : Exit → List Value → Heap → Out) :: roundK Try.prog (SDecS.on [(39, true)]) noL Try.f24.ntmps 1 (loopOf Try.f24 0) liveDecS [slo 0 o n c, pt 1, w63 0, sl 3 k 0, w63 k, w63 i] [rU N xs, uS x (sl 2 i 1), oI i vs, oF (2 * k) fl] on out
theorem pDecR (x : Int) (o n c i k N : Nat) (xs vs fl : List Int) (on : List Value → Heap → Out) (out : Exit → List Value → Heap → Out)
    (w1 : -9223372036854775808 ≤ (↑i : Int) + (1 : Int) ∧ (↑i : Int) + (1 : Int) ≤ 9223372036854775807 := by omega)
    (h1 : (↑i : Int) < (↑k : Int) := by first | omega | assumption | rfl)
    (h2 : (0 : Int) ≤ (↑i : Int) := by first | omega | assumption | rfl)
    (h3 : i * (2 : Nat) < (2 : Nat) * k := by first | omega | assumption | rfl)
    (h4 : i * (2 : Nat) + (1 : Nat) < (2 : Nat) * k := by first | omega | assumption | rfl)
    (h5 : (-4 : Int) ≤ fl.getD (i * (2 : Nat) + (1 : Nat)) (0 : Int) ∧ fl.getD (i * (2 : Nat) + (1 : Nat)) (0 : Int) ≤ (4 : Int) ∧ fl.getD (i * (2 : Nat) + (1 : Nat)) (0 : Int) ≠ (0 : Int) ∧ (0 : Int) ≤ fl.getD (i * (2 : Nat)) (0 : Int) ∧ fl.getD (i * (2 : Nat)) (0 : Int) + manyI (fl.getD (i * (2 : Nat) + (1 : Nat)) (0 : Int)) ≤ (↑n : Int) ∧ o + n ≤ N ∧ N ≤ (1000000 : Nat) := by first | omega | assumption | rfl | ((repeat' with_reducible apply And.intro) <;> first | rfl | assumption | omega))
    (h6 : i ≤ i := by first | omega | assumption | rfl)
    (h7 : (i + (1 : Nat)) * (8 : Nat) ≤ (140737488355328 : Nat) := by first | omega | assumption | rfl)
    (h8 : i + (1 : Nat) ≤ (4611686018427387904 : Nat) := by first | omega | assumption | rfl)
    (h9 : i = i := by first | omega | assumption | rfl) : roundK Try.prog (SDecS.on [(39, true)]) noL Try.f24.ntmps 1 (loopOf Try.f24 0) liveDecS [slo 0 o n c, pt 1, w63 0, sl 3 k 0, w63 k, w63 i] [rU N xs, uS x (sl 2 i 1), oI i vs, oF (2 * k) fl] on out =
     (on [Value.slice (some (Addr.mk (0 : Nat) o none)) n c, Value.pointer (some (Addr.mk (1 : Nat) (0 : Nat) none)), Value.int IntKind.i64 (0 : Int), Value.slice (some (Addr.mk (3 : Nat) (0 : Nat) none))
     k (0 : Nat), Value.int IntKind.i64 (↑k : Int), Value.int IntKind.i64 ((↑i : Int) + (1 : Int))] [some (Blk.mk false (1 : Nat) [Seg.ints IntKind.u8 N xs]), some (Blk.mk true (2 : Nat) [Seg.ints
     IntKind.u8 (1 : Nat) [x], Seg.vals [Value.slice (some (Addr.mk (2 : Nat) (0 : Nat) none)) (i + (1 : Nat)) (1 : Nat)]]), some (Blk.mk true (1 : Nat) [Seg.ints IntKind.i64 (i + (1 : Nat)) (List.take i
     vs ++ [getV xs o (fl.getD (i * (2 : Nat)) (0 : Int)) (fl.getD (i * (2 : Nat) + (1 : Nat)) (0 : Int))])]), some (Blk.mk true (2 : Nat) [Seg.ints IntKind.i64 ((2 : Nat) * k) fl])]) :=
  Eq.trans (b :=
     bif decide ((↑i : Int) < (↑k : Int)) then bif decide ((0 : Int) ≤ (↑i : Int)) && decide ((↑i : Int) < (↑k : Int)) then bif ((0 : Nat) + (↑i : Int).toNat * (2 : Nat)).blt ((2 : Nat) * k) then bif ((0 :
     Nat) + (↑i : Int).toNat * (2 : Nat) + (1 : Nat)).blt ((2 : Nat) * k) then bif chk ((-4 : Int) ≤ fl.getD ((0 : Nat) + (↑i : Int).toNat * (2 : Nat) + (1 : Nat)) (0 : Int) ∧ fl.getD ((0 : Nat) + (↑i :
     Int).toNat * (2 : Nat) + (1 : Nat)) (0 : Int) ≤ (4 : Int) ∧ fl.getD ((0 : Nat) + (↑i : Int).toNat * (2 : Nat) + (1 : Nat)) (0 : Int) ≠ (0 : Int) ∧ (0 : Int) ≤ fl.getD ((0 : Nat) + (↑i : Int).toNat *
     (2 : Nat)) (0 : Int) ∧ fl.getD ((0 : Nat) + (↑i : Int).toNat * (2 : Nat)) (0 : Int) + manyI (fl.getD ((0 : Nat) + (↑i : Int).toNat * (2 : Nat) + (1 : Nat)) (0 : Int)) ≤ (↑n : Int) ∧ o + n ≤ N ∧ N ≤
     (1000000 : Nat)) then bif (i * (1 : Nat)).ble i then bif decide ((i + (1 : Nat)) * (8 : Nat) ≤ (140737488355328 : Nat)) && (i + (1 : Nat)).ble (OfNat.ofNat (4611686018427387904 : Nat)) then bif ((0 :
     Nat) + i * (1 : Nat)).beq i && true then on [Value.slice (some (Addr.mk (0 : Nat) o none)) n c, Value.pointer (some (Addr.mk (1 : Nat) (0 : Nat) none)), Value.int IntKind.i64 (0 : Int), Value.slice
     (some (Addr.mk (3 : Nat) (0 : Nat) none)) k (0 : Nat), Value.int IntKind.i64 (↑k : Int), Value.int IntKind.i64 (IntKind.i64.wrap ((↑i : Int) + (1 : Int)))] [some (Blk.mk false (1 : Nat) [Seg.ints
     IntKind.u8 N xs]), some (Blk.mk true (2 : Nat) [Seg.ints IntKind.u8 (1 : Nat) [x], Seg.vals [Value.slice (some (Addr.mk (2 : Nat) (0 : Nat) none)) (i + (1 : Nat)) (1 : Nat)]]), some (Blk.mk true (1 :
     Nat) [Seg.ints IntKind.i64 (i * (1 : Nat) + (1 : Nat)) (List.take (i * (1 : Nat)) vs ++ [getV xs o (fl.getD ((0 : Nat) + (↑i : Int).toNat * (2 : Nat)) (0 : Int)) (fl.getD ((0 : Nat) + (↑i : Int).toNat
     * (2 : Nat) + (1 : Nat)) (0 : Int))])]), some (Blk.mk true (2 : Nat) [Seg.ints IntKind.i64 ((2 : Nat) * k) fl])] else none else none else none else none else none else none else none else none) (by kernel_rfl) (by simp only [-eq_self, Int.toNat_natCast, Nat.zero_add, Nat.mul_one, swrap w1.1 w1.2]; exact (go_t (dec_t h1) (go_t (and_t (dec_t h2) (dec_t h1)) (go_t (blt_t h3) (go_t (blt_t h4) (go_t (chk_t h5) (go_t (ble_t h6) (go_t (and_t (dec_t h7) (ble_t h8)) (go_t (and_t (beq_t h9) rfl) rfl)))))))))
--CFEND
--CP pDecR0 (x : Int) (o n c k N : Nat) (xs fl : List Int) (on : List Value → Heap → Out) (out : Exit → List Value → Heap → Out) :: roundK Try.prog (SDecS.on [(39, true)]) noL Try.f24.ntmps 1 (loopOf Try.f24 0) liveDecS [slo 0 o n c, pt 1, w63 0, sl 2 k 0, w63 k, w63 0] [rU N xs, uS x (.slice none 0 0), oF (2 * k) fl] on out
theorem pDecR0 (x : Int) (o n c k N : Nat) (xs fl : List Int) (on : List Value → Heap → Out) (out : Exit → List Value → Heap → Out)
    (h1 : (0 : Int) < (↑k : Int) := by first | omega | assumption | rfl)
    (h2 : (0 : Nat) < (2 : Nat) * k := by first | omega | assumption | rfl)
    (h3 : (1 : Nat) < (2 : Nat) * k := by first | omega | assumption | rfl)
    (h4 : (-4 : Int) ≤ fl.getD (1 : Nat) (0 : Int) ∧ fl.getD (1 : Nat) (0 : Int) ≤ (4 : Int) ∧ fl.getD (1 : Nat) (0 : Int) ≠ (0 : Int) ∧ (0 : Int) ≤ fl.getD (0 : Nat) (0 : Int) ∧ fl.getD (0 : Nat) (0 : Int) + manyI (fl.getD (1 : Nat) (0 : Int)) ≤ (↑n : Int) ∧ o + n ≤ N ∧ N ≤ (1000000 : Nat) := by first | omega | assumption | rfl | ((repeat' with_reducible apply And.intro) <;> first | rfl | assumption | omega)) : roundK Try.prog (SDecS.on [(39, true)]) noL Try.f24.ntmps 1 (loopOf Try.f24 0) liveDecS [slo 0 o n c, pt 1, w63 0, sl 2 k 0, w63 k, w63 0] [rU N xs, uS x (.slice none 0 0), oF (2 * k) fl] on out =
     (on [Value.slice (some (Addr.mk (0 : Nat) o none)) n c, Value.pointer (some (Addr.mk (1 : Nat) (0 : Nat) none)), Value.int IntKind.i64 (0 : Int), Value.slice (some (Addr.mk (3 : Nat) (0 : Nat) none))
     k (0 : Nat), Value.int IntKind.i64 (↑k : Int), Value.int IntKind.i64 (1 : Int)] [some (Blk.mk false (1 : Nat) [Seg.ints IntKind.u8 N xs]), some (Blk.mk true (2 : Nat) [Seg.ints IntKind.u8 (1 : Nat)
     [x], Seg.vals [Value.slice (some (Addr.mk (2 : Nat) (0 : Nat) none)) (1 : Nat) (1 : Nat)]]), some (Blk.mk true (1 : Nat) [Seg.ints IntKind.i64 (1 : Nat) [getV xs o (fl.getD (0 : Nat) (0 : Int))
     (fl.getD (1 : Nat) (0 : Int))]]), some (Blk.mk true (2 : Nat) [Seg.ints IntKind.i64 ((2 : Nat) * k) fl])]) :=
  Eq.trans (by kernel_rfl) (go_t (dec_t h1) (go_t (dec_t h1) (go_t (blt_t h2) (go_t (blt_t h3) (go_t (chk_t h4) rfl)))))
--CFEND
--CP pDecX (x : Int) (o n c i k N : Nat) (xs vs fl : List Int) (on : List Value → Heap → Out) (out : Exit → List Value → Heap → Out) :: roundK Try.prog (SDecS.on [(39, false)]) noL Try.f24.ntmps 1 (loopOf Try.f24 0) liveDecS [slo 0 o n c, pt 1, w63 0, sl 3 k 0, w63 k, w63 i] [rU N xs, uS x (sl 2 i 1), oI i vs, oF (2 * k) fl] on out
theorem pDecX (x : Int) (o n c i k N : Nat) (xs vs fl : List Int) (on : List Value → Heap → Out) (out : Exit → List Value → Heap → Out)
    (h1 : ¬(↑i : Int) < (↑k : Int) := by first | omega | assumption | rfl) : roundK Try.prog (SDecS.on [(39, false)]) noL Try.f24.ntmps 1 (loopOf Try.f24 0) liveDecS [slo 0 o n c, pt 1, w63 0, sl 3 k 0, w63 k, w63 i] [rU N xs, uS x (sl 2 i 1), oI i vs, oF (2 * k) fl] on out =
     (out (Exit.exit (1 : Nat)) [Value.slice (some (Addr.mk (0 : Nat) o none)) n c, Value.pointer (some (Addr.mk (1 : Nat) (0 : Nat) none)), Value.int IntKind.i64 (0 : Int), Value.slice (some (Addr.mk (3 :
     Nat) (0 : Nat) none)) k (0 : Nat), Value.int IntKind.i64 (↑k : Int), Value.int IntKind.i64 (↑i : Int)] [some (Blk.mk false (1 : Nat) [Seg.ints IntKind.u8 N xs]), some (Blk.mk true (2 : Nat) [Seg.ints
     IntKind.u8 (1 : Nat) [x], Seg.vals [Value.slice (some (Addr.mk (2 : Nat) (0 : Nat) none)) i (1 : Nat)]]), some (Blk.mk true (1 : Nat) [Seg.ints IntKind.i64 i vs]), some (Blk.mk true (2 : Nat)
     [Seg.ints IntKind.i64 ((2 : Nat) * k) fl])]) :=
  Eq.trans (by kernel_rfl) (go_f (dec_f h1) rfl)
--CFEND
/-- The values of a layout's fields. -/
def decV (xs : List Int) (o : Nat) (fl : List Int) : Nat → List Int
  | 0 => []
  | k + 1 => decV xs o fl k ++ [getV xs o (fl.getD (k * 2) 0) (fl.getD (k * 2 + 1) 0)]
/-- Fields that lie within so many bytes. -/
def fldsOK (n : Nat) (fl : List Int) (k : Nat) : Prop := ∀ i, i < k → -4 ≤ fl.getD (i * 2 + 1) 0 ∧ fl.getD (i * 2 + 1) 0 ≤ 4 ∧ fl.getD (i * 2 + 1) 0 ≠ 0 ∧ 0 ≤ fl.getD (i * 2) 0 ∧ fl.getD (i * 2) 0 + manyI (fl.getD (i * 2 + 1) 0) ≤ n
noncomputable def LDecSf : LF := fun vs h k => match vs, h with
  | [.slice (some ⟨0, o, none⟩) n c, .pointer (some ⟨1, 0, none⟩), .int .i64 0, .slice (some ⟨2, 0, none⟩) q 0, .int .i64 q', .int .i64 0], [some ⟨false, 1, [.ints .u8 N xs]⟩, some ⟨true, 2, [.ints .u8 1 [x], .vals [.slice none 0 0]]⟩, some ⟨true, 2, [.ints .i64 _ fl]⟩] =>
    bif chk (q'.toNat = q ∧ 0 < q ∧ q ≤ 100 ∧ fl.length = 2 * q ∧ fldsOK n fl q ∧ o + n ≤ N ∧ N ≤ 1000000) then
      k (.exit 1) [slo 0 o n c, pt 1, w63 0, sl 3 q 0, w63 q, w63 q] [rU N xs, uS x (sl 2 q 1), oI q (decV xs o fl q), oF (2 * q) fl] else none
  | _, _ => none
noncomputable def LDecS : LSpec := oneL 10 liveDecS LDecSf
--CP pDecS0 (o c N : Nat) (xs : List Int) :: fnK Try.prog (SDecS.on [(10, true)]) LDecS Try.f24 [slo 0 o 0 c] [rU N xs]
theorem pDecS0 (o c N : Nat) (xs : List Int) : fnK Try.prog (SDecS.on [(10, true)]) LDecS Try.f24 [slo 0 o 0 c] [rU N xs] =
     (some (Res.ret (Value.tuple (Array.mk [Value.agg (Array.mk [Value.int IntKind.u8 (0 : Int), Value.slice none (0 : Nat) (0 : Nat)]), Value.int IntKind.i64 (4 : Int)])) [some (Blk.mk false (1 : Nat)
     [Seg.ints IntKind.u8 N xs])])) :=
  Eq.trans (by kernel_rfl) rfl
--CFEND
--CF cfDecSN (o n c N : Nat) (xs : List Int) :: fnK Try.prog (SDecS.on [(10, false), (20, true)]) LDecS Try.f24 [slo 0 o n c] [rU N xs]
theorem cfDecSN (o n c N : Nat) (xs : List Int) : fnK Try.prog (SDecS.on [(10, false), (20, true)]) LDecS Try.f24 [slo 0 o n c] [rU N xs] =
     (bif (↑n : Int) == 0 then none else bif decide (0 < (↑n : Int)) then bif o.blt N then bif xs.getD o 0 == 2 then none else bif xs.getD o 0 == 4 then none else bif xs.getD o 0 == 7 then none else bif
     xs.getD o 0 == 41 then none else bif xs.getD o 0 == 52 then none else bif xs.getD o 0 == 11 then none else bif xs.getD o 0 == 12 then none else bif xs.getD o 0 == 166 then none else some (Res.ret
     (Value.tuple (Array.mk [Value.agg (Array.mk [Value.int IntKind.u8 0, Value.slice none 0 0]), Value.int IntKind.i64 7])) [some (Blk.mk false 1 [Seg.ints IntKind.u8 N xs])]) else none else none) := by kernel_rfl
--CFEND
--CF cfDecSF (o n c N : Nat) (xs : List Int) :: fnK Try.prog (SDecS.on [(10, false), (20, false), (24, true)]) LDecS Try.f24 [slo 0 o n c] [rU N xs]
theorem cfDecSF (o n c N : Nat) (xs : List Int) : fnK Try.prog (SDecS.on [(10, false), (20, false), (24, true)]) LDecS Try.f24 [slo 0 o n c] [rU N xs] =
     (bif (↑n : Int) == 0 then none else bif decide (0 < (↑n : Int)) then bif o.blt N then bif xs.getD o 0 == 2 then bif (↑n : Int) != 41 then some (Res.ret (Value.tuple (Array.mk [Value.agg (Array.mk
     [Value.int IntKind.u8 0, Value.slice none 0 0]), Value.int IntKind.i64 5])) [some (Blk.mk false 1 [Seg.ints IntKind.u8 N xs])]) else none else bif xs.getD o 0 == 4 then bif (↑n : Int) != 188 then some
     (Res.ret (Value.tuple (Array.mk [Value.agg (Array.mk [Value.int IntKind.u8 0, Value.slice none 0 0]), Value.int IntKind.i64 5])) [some (Blk.mk false 1 [Seg.ints IntKind.u8 N xs])]) else none else bif
     xs.getD o 0 == 7 then bif (↑n : Int) != 20 then some (Res.ret (Value.tuple (Array.mk [Value.agg (Array.mk [Value.int IntKind.u8 0, Value.slice none 0 0]), Value.int IntKind.i64 5])) [some (Blk.mk
     false 1 [Seg.ints IntKind.u8 N xs])]) else none else bif xs.getD o 0 == 41 then bif (↑n : Int) != 91 then some (Res.ret (Value.tuple (Array.mk [Value.agg (Array.mk [Value.int IntKind.u8 0, Value.slice
     none 0 0]), Value.int IntKind.i64 5])) [some (Blk.mk false 1 [Seg.ints IntKind.u8 N xs])]) else none else bif xs.getD o 0 == 52 then bif (↑n : Int) != 19 then some (Res.ret (Value.tuple (Array.mk
     [Value.agg (Array.mk [Value.int IntKind.u8 0, Value.slice none 0 0]), Value.int IntKind.i64 5])) [some (Blk.mk false 1 [Seg.ints IntKind.u8 N xs])]) else none else bif xs.getD o 0 == 11 then bif (↑n :
     Int) != 2 then some (Res.ret (Value.tuple (Array.mk [Value.agg (Array.mk [Value.int IntKind.u8 0, Value.slice none 0 0]), Value.int IntKind.i64 5])) [some (Blk.mk false 1 [Seg.ints IntKind.u8 N xs])])
     else none else bif xs.getD o 0 == 12 then bif (↑n : Int) != 2 then some (Res.ret (Value.tuple (Array.mk [Value.agg (Array.mk [Value.int IntKind.u8 0, Value.slice none 0 0]), Value.int IntKind.i64 5]))
     [some (Blk.mk false 1 [Seg.ints IntKind.u8 N xs])]) else none else bif xs.getD o 0 == 166 then bif (↑n : Int) != 8 then some (Res.ret (Value.tuple (Array.mk [Value.agg (Array.mk [Value.int IntKind.u8
     0, Value.slice none 0 0]), Value.int IntKind.i64 5])) [some (Blk.mk false 1 [Seg.ints IntKind.u8 N xs])]) else none else none else none else none) := by kernel_rfl
--CFEND
--CF cfDecSK (o n c N : Nat) (xs : List Int) :: fnK Try.prog (SDecS.on [(10, false), (20, false), (24, false)]) LDecS Try.f24 [slo 0 o n c] [rU N xs]
theorem cfDecSK (o n c N : Nat) (xs : List Int) : fnK Try.prog (SDecS.on [(10, false), (20, false), (24, false)]) LDecS Try.f24 [slo 0 o n c] [rU N xs] =
     (bif (↑n : Int) == 0 then none else bif decide (0 < (↑n : Int)) then bif o.blt N then bif xs.getD o 0 == 2 then bif (↑n : Int) != 41 then none else bif decide (0 < (↑n : Int)) then bif o.blt N then
     bif chk (12 = 12 ∧ 0 < 12 ∧ 12 ≤ 100 ∧ 24 = 24 ∧ fldsOK n [1, -4, 5, -4, 9, -4, 13, -2, 15, -2, 17, -2, 19, 1, 20, 1, 21, 1, 22, 2, 24, 4, 28, 1] 12 ∧ o + n ≤ N ∧ N ≤ 1000000) then some (Res.ret
     (Value.tuple (Array.mk [Value.agg (Array.mk [Value.int IntKind.u8 (xs.getD o 0), Value.slice (some (Addr.mk 1 0 none)) 12 1]), Value.int IntKind.i64 0])) [some (Blk.mk false 1 [Seg.ints IntKind.u8 N
     xs]), some (Blk.mk true 1 [Seg.ints IntKind.i64 12 [getV xs o 1 (-4), getV xs o 5 (-4), getV xs o 9 (-4), getV xs o 13 (-2), getV xs o 15 (-2), getV xs o 17 (-2), getV xs o 19 1, getV xs o 20 1, getV
     xs o 21 1, getV xs o 22 2, getV xs o 24 4, getV xs o 28 1]])]) else none else none else none else bif xs.getD o 0 == 4 then bif (↑n : Int) != 188 then none else bif decide (0 < (↑n : Int)) then bif
     o.blt N then bif chk (3 = 3 ∧ 0 < 3 ∧ 3 ≤ 100 ∧ 6 = 6 ∧ fldsOK n [1, -2, 3, 4, 7, 1] 3 ∧ o + n ≤ N ∧ N ≤ 1000000) then some (Res.ret (Value.tuple (Array.mk [Value.agg (Array.mk [Value.int IntKind.u8
     (xs.getD o 0), Value.slice (some (Addr.mk 1 0 none)) 3 1]), Value.int IntKind.i64 0])) [some (Blk.mk false 1 [Seg.ints IntKind.u8 N xs]), some (Blk.mk true 1 [Seg.ints IntKind.i64 3 [getV xs o 1 (-2),
     getV xs o 3 4, getV xs o 7 1]])]) else none else none else none else bif xs.getD o 0 == 7 then bif (↑n : Int) != 20 then none else bif decide (0 < (↑n : Int)) then bif o.blt N then bif chk (6 = 6 ∧ 0
     < 6 ∧ 6 ≤ 100 ∧ 12 = 12 ∧ fldsOK n [1, 2, 3, 4, 7, 1, 8, 4, 12, 4, 16, 4] 6 ∧ o + n ≤ N ∧ N ≤ 1000000) then some (Res.ret (Value.tuple (Array.mk [Value.agg (Array.mk [Value.int IntKind.u8 (xs.getD o
     0), Value.slice (some (Addr.mk 1 0 none)) 6 1]), Value.int IntKind.i64 0])) [some (Blk.mk false 1 [Seg.ints IntKind.u8 N xs]), some (Blk.mk true 1 [Seg.ints IntKind.i64 6 [getV xs o 1 2, getV xs o 3
     4, getV xs o 7 1, getV xs o 8 4, getV xs o 12 4, getV xs o 16 4]])]) else none else none else none else bif xs.getD o 0 == 41 then bif (↑n : Int) != 91 then none else bif decide (0 < (↑n : Int)) then
     bif o.blt N then bif chk (10 = 10 ∧ 0 < 10 ∧ 10 ≤ 100 ∧ 20 = 20 ∧ fldsOK n [1, 2, 3, 2, 5, 2, 7, 4, 11, 2, 13, 1, 14, 1, 15, 1, 16, 1, 17, 2] 10 ∧ o + n ≤ N ∧ N ≤ 1000000) then some (Res.ret
     (Value.tuple (Array.mk [Value.agg (Array.mk [Value.int IntKind.u8 (xs.getD o 0), Value.slice (some (Addr.mk 1 0 none)) 10 1]), Value.int IntKind.i64 0])) [some (Blk.mk false 1 [Seg.ints IntKind.u8 N
     xs]), some (Blk.mk true 1 [Seg.ints IntKind.i64 10 [getV xs o 1 2, getV xs o 3 2, getV xs o 5 2, getV xs o 7 4, getV xs o 11 2, getV xs o 13 1, getV xs o 14 1, getV xs o 15 1, getV xs o 16 1, getV xs
     o 17 2]])]) else none else none else none else bif xs.getD o 0 == 52 then bif (↑n : Int) != 19 then none else bif decide (0 < (↑n : Int)) then bif o.blt N then bif chk (9 = 9 ∧ 0 < 9 ∧ 9 ≤ 100 ∧ 18 =
     18 ∧ fldsOK n [1, 1, 2, 1, 3, 1, 4, 1, 5, 1, 6, 2, 8, -2, 10, 4, 14, 1] 9 ∧ o + n ≤ N ∧ N ≤ 1000000) then some (Res.ret (Value.tuple (Array.mk [Value.agg (Array.mk [Value.int IntKind.u8 (xs.getD o 0),
     Value.slice (some (Addr.mk 1 0 none)) 9 1]), Value.int IntKind.i64 0])) [some (Blk.mk false 1 [Seg.ints IntKind.u8 N xs]), some (Blk.mk true 1 [Seg.ints IntKind.i64 9 [getV xs o 1 1, getV xs o 2 1,
     getV xs o 3 1, getV xs o 4 1, getV xs o 5 1, getV xs o 6 2, getV xs o 8 (-2), getV xs o 10 4, getV xs o 14 1]])]) else none else none else none else bif xs.getD o 0 == 11 then bif (↑n : Int) != 2 then
     none else bif decide (0 < (↑n : Int)) then bif o.blt N then bif chk (1 = 1 ∧ 0 < 1 ∧ 1 ≤ 100 ∧ 2 = 2 ∧ fldsOK n [1, 1] 1 ∧ o + n ≤ N ∧ N ≤ 1000000) then some (Res.ret (Value.tuple (Array.mk [Value.agg
     (Array.mk [Value.int IntKind.u8 (xs.getD o 0), Value.slice (some (Addr.mk 1 0 none)) 1 1]), Value.int IntKind.i64 0])) [some (Blk.mk false 1 [Seg.ints IntKind.u8 N xs]), some (Blk.mk true 1 [Seg.ints
     IntKind.i64 1 [getV xs o 1 1]])]) else none else none else none else bif xs.getD o 0 == 12 then bif (↑n : Int) != 2 then none else bif decide (0 < (↑n : Int)) then bif o.blt N then bif chk (1 = 1 ∧ 0
     < 1 ∧ 1 ≤ 100 ∧ 2 = 2 ∧ fldsOK n [1, 1] 1 ∧ o + n ≤ N ∧ N ≤ 1000000) then some (Res.ret (Value.tuple (Array.mk [Value.agg (Array.mk [Value.int IntKind.u8 (xs.getD o 0), Value.slice (some (Addr.mk 1 0
     none)) 1 1]), Value.int IntKind.i64 0])) [some (Blk.mk false 1 [Seg.ints IntKind.u8 N xs]), some (Blk.mk true 1 [Seg.ints IntKind.i64 1 [getV xs o 1 1]])]) else none else none else none else bif
     xs.getD o 0 == 166 then bif (↑n : Int) != 8 then none else bif decide (0 < (↑n : Int)) then bif o.blt N then bif chk (3 = 3 ∧ 0 < 3 ∧ 3 ≤ 100 ∧ 6 = 6 ∧ fldsOK n [1, 1, 2, 1, 3, 1] 3 ∧ o + n ≤ N ∧ N ≤
     1000000) then some (Res.ret (Value.tuple (Array.mk [Value.agg (Array.mk [Value.int IntKind.u8 (xs.getD o 0), Value.slice (some (Addr.mk 1 0 none)) 3 1]), Value.int IntKind.i64 0])) [some (Blk.mk false
     1 [Seg.ints IntKind.u8 N xs]), some (Blk.mk true 1 [Seg.ints IntKind.i64 3 [getV xs o 1 1, getV xs o 2 1, getV xs o 3 1]])]) else none else none else none else none else none else none) := by kernel_rfl
--CFEND
end Go.Proofs.Ytcjjngdkkihgjaa.VC

/- sirf: Decode: what it is. -/
namespace Go.Proofs.Ytcjjngdkkihgjaa.VC
open Go Go.Proofs

theorem okLayS : EntryOK Try.prog 65 FLayS := by
  refine EntryOK.of_paths (fn := Try.f65) follows_ok Try.func65 (by kernel_rfl) (by kernel_rfl) ?_
  intro args h k out hF
  unfold FLayS at hF
  split at hF
  · exact ⟨_, _, hF, fun _ => ⟨SOfS, noL, mkS_cons okOfS (mkS_nil _), noL_ok, cfLayS⟩⟩
  · cases hF
theorem SDecS_ok : SpecOK Try.prog SDecS := mkS_cons okGetS (mkS_cons okLayS (mkS_nil _))
theorem decV_len (xs : List Int) (o : Nat) (fl : List Int) : ∀ k, (decV xs o fl k).length = k
  | 0 => rfl
  | k + 1 => by rw [decV, List.length_append, decV_len xs o fl k]; rfl
theorem loopDecS {x : Int} {o n c q N : Nat} {xs fl : List Int} (hq : q ≤ 100) (hf : fldsOK n fl q) (ho : o + n ≤ N) (hN : N ≤ 1000000) : ∀ (r i : Nat), i + r = q → 1 ≤ i →
    LoopT Try.prog Try.f24.ntmps 1 (loopOf Try.f24 0) (zipS liveDecS [slo 0 o n c, pt 1, w63 0, sl 3 q 0, w63 q, w63 i]) [rU N xs, uS x (sl 2 i 1), oI i (decV xs o fl i), oF (2 * q) fl] (.exit 1)
      (zipS liveDecS [slo 0 o n c, pt 1, w63 0, sl 3 q 0, w63 q, w63 q]) [rU N xs, uS x (sl 2 q 1), oI q (decV xs o fl q), oF (2 * q) fl] := by
  intro r
  induction r with
  | zero =>
    intro i hi _
    obtain rfl : i = q := by omega
    exact LoopT.last (by intro h; cases h) (CodeT.out (SDecS_ok.on _) noL_ok fun on out => pDecX x o n c i i N xs _ fl on out)
  | succ r ih =>
    intro i hi h1
    obtain ⟨f1, f2, f3, f4, f5⟩ := hf i (by omega)
    refine LoopT.step (CodeT.on (live := liveDecS) (vs1 := [slo 0 o n c, pt 1, w63 0, sl 3 q 0, w63 q, w63 ((i + 1 : Nat) : Int)]) (h1 := [rU N xs, uS x (sl 2 (i + 1) 1), oI (i + 1) (decV xs o fl (i + 1)), oF (2 * q) fl]) (SDecS_ok.on [(39, true)]) noL_ok fun on out => ?_) (ih (i + 1) (by omega) (by omega))
    refine (pDecR x o n c i q N xs _ fl on out).trans ?_
    rw [List.take_of_length_le (by rw [decV_len]; exact Nat.le_refl _)]
    rfl
theorem loopOKDecS : LoopOK Try.prog Try.f24.ntmps 1 (loopOf Try.f24 0) liveDecS LDecSf := by
  refine LoopOK.of_T ?_
  intro vs h k out hk
  unfold LDecSf at hk
  split at hk
  · rename_i o n c q q' N xs x M fl
    obtain ⟨hb, hk2⟩ := bif_t hk
    obtain ⟨h1, h2, h3, h4, h5, h6, h7⟩ := chk_iff.1 hb
    obtain rfl : q' = q := by omega
    refine ⟨_, _, _, hk2, fun real => ?_⟩
    have hs := real.segs (i := 2) rfl rfl _ (List.mem_cons_self ..)
    obtain rfl : M = 2 * q := by have := hs.1; omega
    obtain ⟨f1, f2, f3, f4, f5⟩ := h5 0 h2
    refine LoopT.step (CodeT.on (live := liveDecS) (vs1 := [slo 0 o n c, pt 1, w63 0, sl 3 q 0, w63 q, w63 1]) (h1 := [rU N xs, uS x (sl 2 1 1), oI 1 (decV xs o fl 1), oF (2 * q) fl]) (SDecS_ok.on [(39, true)]) noL_ok fun on out => ?_) (loopDecS h3 h5 h6 h7 (q - 1) 1 (by omega) (by omega))
    exact pDecR0 x o n c q N xs fl on out
  · cases hk
theorem loopsDecS : LoopsOK Try.prog LDecS Try.f24.ntmps 1 (bodyOf Try.f24) := loops_one rfl (by kernel_rfl) loopOKDecS
noncomputable def FDecS : FSpec := fun args h k => match args, h with
  | [.slice (some ⟨0, o, none⟩) n _], [some ⟨false, 1, [.ints .u8 N xs]⟩] =>
    bif chk (o + n ≤ N ∧ N ≤ 1000000) then (match decide (n = 0), layS (xs.getD o 0) with
      | true, _ => k (.tuple #[.agg #[u8v 0, .slice none 0 0], w63 4]) [rU N xs]
      | false, none => k (.tuple #[.agg #[u8v 0, .slice none 0 0], w63 7]) [rU N xs]
      | false, some (len, fl) => match decide (n = len) with
        | false => k (.tuple #[.agg #[u8v 0, .slice none 0 0], w63 5]) [rU N xs]
        | true => k (.tuple #[.agg #[u8v (xs.getD o 0), sl 1 (fl.length / 2) 1], w63 0]) [rU N xs, oI (fl.length / 2) (decV xs o fl (fl.length / 2))]) else none
  | _, _ => none
theorem layS_cases {x : Int} {r : Nat × List Int} (h : layS x = some r) : x = 2 ∨ x = 4 ∨ x = 7 ∨ x = 41 ∨ x = 52 ∨ x = 11 ∨ x = 12 ∨ x = 166 := by
  unfold layS at h
  split at h <;> first | omega | cases h
theorem layS_none {x : Int} (h : layS x = none) : x ≠ 2 ∧ x ≠ 4 ∧ x ≠ 7 ∧ x ≠ 41 ∧ x ≠ 52 ∧ x ≠ 11 ∧ x ≠ 12 ∧ x ≠ 166 := by
  unfold layS at h
  split at h <;> first | cases h | skip
  refine ⟨?_, ?_, ?_, ?_, ?_, ?_, ?_, ?_⟩ <;> (intro e; simp_all)
theorem okDecS : EntryOK Try.prog 24 FDecS := by
  refine EntryOK.of_paths (fn := Try.f24) follows_ok Try.func24 (by kernel_rfl) (by kernel_rfl) ?_
  intro args h k out hF
  unfold FDecS at hF
  split at hF
  · rename_i o n c N xs
    obtain ⟨hb, hF2⟩ := bif_t hF
    obtain ⟨h1, h2⟩ := chk_iff.1 hb
    split at hF2
    · rename_i hn
      obtain rfl := of_decide_eq_true hn
      exact ⟨_, _, hF2, fun _ => ⟨_, LDecS, SDecS_ok.on _, loopsDecS, pDecS0 o c N xs⟩⟩
    · rename_i hn hl
      have hn := of_decide_eq_false hn
      obtain ⟨a1, a2, a3, a4, a5, a6, a7, a8⟩ := layS_none hl
      refine ⟨_, _, hF2, fun _ => ⟨_, LDecS, SDecS_ok.on _, loopsDecS, (cfDecSN o n c N xs).trans ?_⟩⟩
      exact go_f (eqb_f (by omega)) (go_t (dec_t (by omega)) (go_t (blt_t (by omega)) (go_f (eqb_f a1) (go_f (eqb_f a2) (go_f (eqb_f a3) (go_f (eqb_f a4) (go_f (eqb_f a5) (go_f (eqb_f a6) (go_f (eqb_f a7) (go_f (eqb_f a8) rfl))))))))))
    · rename_i len fl hn hl
      have hn := of_decide_eq_false hn
      have b1 : ((n : Int) == 0) = false := eqb_f (by omega)
      have b2 : decide ((0 : Int) < (n : Int)) = true := dec_t (by omega)
      have b3 : o.blt N = true := blt_t (by omega)
      split at hF2
      · rename_i hlen
        have hlen := of_decide_eq_false hlen
        refine ⟨_, _, hF2, fun _ => ⟨_, LDecS, SDecS_ok.on _, loopsDecS, (cfDecSF o n c N xs).trans ?_⟩⟩
        rw [b1, b2, b3]
        rcases layS_cases hl with e | e | e | e | e | e | e | e <;>
        · rw [e] at hl ⊢
          cases hl
          exact go_t (bne_t (show (n : Int) ≠ _ by omega)) rfl
      · rename_i hlen
        have hlen := of_decide_eq_true hlen
        refine ⟨_, _, hF2, fun _ => ⟨_, LDecS, SDecS_ok.on _, loopsDecS, (cfDecSK o n c N xs).trans ?_⟩⟩
        rw [b1, b2, b3]
        have hsub : ∀ fl k, fldsOK len fl k → fldsOK n fl k := fun fl k h => by rw [hlen]; exact h
        rcases layS_cases hl with e | e | e | e | e | e | e | e <;>
        · rw [e] at hl ⊢
          cases hl
          simp only [Int.reduceBEq, cond_true, cond_false]
          refine go_f (bne_f (show (n : Int) = _ by omega)) (go_t (chk_t ⟨by first | rfl | trivial, by decide, by decide, by first | rfl | trivial, hsub _ _ (by unfold fldsOK; decide), h1, h2⟩) rfl)
  · cases hF
end Go.Proofs.Ytcjjngdkkihgjaa.VC

/- The document's numbers: power, Get, turned, Layout: closed forms. -/
namespace Go.Proofs.Ytcjjngdkkihgjaa.VC
open Go Go.Proofs

/-- 256 to the power of a number. -/
def pw256 (n : Int) : Int := (256 : Int) ^ n.toNat
def livePow : List Nat := [0, 2, 3, 4]
--CP pPow (p : Int) (n i : Nat) (on : List Value → Heap → Out) (out : Exit → List Value → Heap → Out) :: roundK Try.prog ((mkS []).on [(7, true)]) noL Try.f62.ntmps 0 (loopOf Try.f62 0) livePow [w63 n, w63 0, w63 p, w63 i] [] on out
theorem pPow (p : Int) (n i : Nat) (on : List Value → Heap → Out) (out : Exit → List Value → Heap → Out)
    (w1 : -9223372036854775808 ≤ p * (256 : Int) ∧ p * (256 : Int) ≤ 9223372036854775807 := by omega)
    (w2 : -9223372036854775808 ≤ (↑i : Int) + (1 : Int) ∧ (↑i : Int) + (1 : Int) ≤ 9223372036854775807 := by omega)
    (h1 : (↑i : Int) < (↑n : Int) := by first | omega | assumption | rfl) : roundK Try.prog ((mkS []).on [(7, true)]) noL Try.f62.ntmps 0 (loopOf Try.f62 0) livePow [w63 n, w63 0, w63 p, w63 i] [] on out =
     (on [Value.int IntKind.i64 (↑n : Int), Value.int IntKind.i64 (0 : Int), Value.int IntKind.i64 (p * (256 : Int)), Value.int IntKind.i64 ((↑i : Int) + (1 : Int))] []) :=
  Eq.trans (b :=
     bif decide ((↑i : Int) < (↑n : Int)) then on [Value.int IntKind.i64 (↑n : Int), Value.int IntKind.i64 (0 : Int), Value.int IntKind.i64 (IntKind.i64.wrap (p * (256 : Int))), Value.int IntKind.i64
     (IntKind.i64.wrap ((↑i : Int) + (1 : Int)))] [] else none) (by kernel_rfl) (by simp only [-eq_self, swrap w1.1 w1.2, swrap w2.1 w2.2]; exact (go_t (dec_t h1) rfl))
--CFEND
--CP pPowX (p : Int) (n i : Nat) (on : List Value → Heap → Out) (out : Exit → List Value → Heap → Out) :: roundK Try.prog ((mkS []).on [(7, false)]) noL Try.f62.ntmps 0 (loopOf Try.f62 0) livePow [w63 n, w63 0, w63 p, w63 i] [] on out
theorem pPowX (p : Int) (n i : Nat) (on : List Value → Heap → Out) (out : Exit → List Value → Heap → Out)
    (h1 : ¬(↑i : Int) < (↑n : Int) := by first | omega | assumption | rfl) : roundK Try.prog ((mkS []).on [(7, false)]) noL Try.f62.ntmps 0 (loopOf Try.f62 0) livePow [w63 n, w63 0, w63 p, w63 i] [] on out =
     (out (Exit.exit (0 : Nat)) [Value.int IntKind.i64 (↑n : Int), Value.int IntKind.i64 (0 : Int), Value.int IntKind.i64 p, Value.int IntKind.i64 (↑i : Int)] []) :=
  Eq.trans (by kernel_rfl) (go_f (dec_f h1) rfl)
--CFEND
noncomputable def LPowf : LF := fun vs h k => match vs, h with
  | [.int .i64 n, .int .i64 0, .int .i64 1, .int .i64 0], [] => bif chk (0 ≤ n ∧ n ≤ 7) then k (.exit 0) [w63 n, w63 0, w63 (pw256 n), w63 n] [] else none
  | _, _ => none
noncomputable def LPow : LSpec := oneL 3 livePow LPowf
--CP pPowF (n : Int) :: fnK Try.prog (mkS []) LPow Try.f62 [w63 n] []
theorem pPowF (n : Int)
    (h1 : (0 : Int) ≤ n ∧ n ≤ (7 : Int) := by first | omega | assumption | rfl | ((repeat' with_reducible apply And.intro) <;> first | rfl | assumption | omega)) : fnK Try.prog (mkS []) LPow Try.f62 [w63 n] [] =
     (some (Res.ret (Value.int IntKind.i64 (pw256 n)) [])) :=
  Eq.trans (by kernel_rfl) (go_t (chk_t h1) rfl)
--CFEND
noncomputable def FPow : FSpec := fun args h k => match args, h with
  | [.int .i64 n], [] => bif chk (0 ≤ n ∧ n ≤ 7) then k (w63 (pw256 n)) [] else none
  | _, _ => none
noncomputable def SPow : Spec := mkS [(62, false, FPow)]
def liveGetR : List Nat := [0, 1, 2, 6, 7, 8, 9]
--CP pGetR (v a s : Int) (o n c m i N : Nat) (xs : List Int) (on : List Value → Heap → Out) (out : Exit → List Value → Heap → Out) :: roundK Try.prog (SPow.on [(17, true)]) noL Try.f59.ntmps 1 (loopOf Try.f59 0) liveGetR [slo 0 o n c, w63 a, w63 s, w63 0, w63 m, w63 v, w63 i] [rU N xs] on out
theorem pGetR (v a s : Int) (o n c m i N : Nat) (xs : List Int) (on : List Value → Heap → Out) (out : Exit → List Value → Heap → Out)
    (w1 : -9223372036854775808 ≤ a + (↑i : Int) ∧ a + (↑i : Int) ≤ 9223372036854775807 := by omega)
    (w2 : -9223372036854775808 ≤ xs.getD (o + (a + (↑i : Int)).toNat) (0 : Int) ∧ xs.getD (o + (a + (↑i : Int)).toNat) (0 : Int) ≤ 9223372036854775807 := by omega)
    (w3 : -9223372036854775808 ≤ xs.getD (o + (a + (↑i : Int)).toNat) (0 : Int) * pw256 (↑i : Int) ∧ xs.getD (o + (a + (↑i : Int)).toNat) (0 : Int) * pw256 (↑i : Int) ≤ 9223372036854775807 := by omega)
    (w4 : -9223372036854775808 ≤ v + xs.getD (o + (a + (↑i : Int)).toNat) (0 : Int) * pw256 (↑i : Int) ∧ v + xs.getD (o + (a + (↑i : Int)).toNat) (0 : Int) * pw256 (↑i : Int) ≤ 9223372036854775807 := by omega)
    (w5 : -9223372036854775808 ≤ (↑i : Int) + (1 : Int) ∧ (↑i : Int) + (1 : Int) ≤ 9223372036854775807 := by omega)
    (h1 : (↑i : Int) < (↑m : Int) := by first | omega | assumption | rfl)
    (h2 : (0 : Int) ≤ a + (↑i : Int) := by first | omega | assumption | rfl)
    (h3 : a + (↑i : Int) < (↑n : Int) := by first | omega | assumption | rfl)
    (h4 : o + (a + (↑i : Int)).toNat < N := by first | omega | assumption | rfl)
    (h5 : (0 : Int) ≤ (↑i : Int) ∧ (↑i : Int) ≤ (7 : Int) := by first | omega | assumption | rfl | ((repeat' with_reducible apply And.intro) <;> first | rfl | assumption | omega)) : roundK Try.prog (SPow.on [(17, true)]) noL Try.f59.ntmps 1 (loopOf Try.f59 0) liveGetR [slo 0 o n c, w63 a, w63 s, w63 0, w63 m, w63 v, w63 i] [rU N xs] on out =
     (on [Value.slice (some (Addr.mk (0 : Nat) o none)) n c, Value.int IntKind.i64 a, Value.int IntKind.i64 s, Value.int IntKind.i64 (0 : Int), Value.int IntKind.i64 (↑m : Int), Value.int IntKind.i64 (v +
     xs.getD (o + (a + (↑i : Int)).toNat) (0 : Int) * pw256 (↑i : Int)), Value.int IntKind.i64 ((↑i : Int) + (1 : Int))] [some (Blk.mk false (1 : Nat) [Seg.ints IntKind.u8 N xs])]) :=
  Eq.trans (b :=
     bif decide ((↑i : Int) < (↑m : Int)) then bif decide ((0 : Int) ≤ IntKind.i64.wrap (a + (↑i : Int))) && decide (IntKind.i64.wrap (a + (↑i : Int)) < (↑n : Int)) then bif (o + (IntKind.i64.wrap (a + (↑i
     : Int))).toNat * (1 : Nat)).blt N then bif chk ((0 : Int) ≤ (↑i : Int) ∧ (↑i : Int) ≤ (7 : Int)) then on [Value.slice (some (Addr.mk (0 : Nat) o none)) n c, Value.int IntKind.i64 a, Value.int
     IntKind.i64 s, Value.int IntKind.i64 (0 : Int), Value.int IntKind.i64 (↑m : Int), Value.int IntKind.i64 (IntKind.i64.wrap (v + IntKind.i64.wrap (IntKind.i64.wrap (xs.getD (o + (IntKind.i64.wrap (a +
     (↑i : Int))).toNat * (1 : Nat)) (0 : Int)) * pw256 (↑i : Int)))), Value.int IntKind.i64 (IntKind.i64.wrap ((↑i : Int) + (1 : Int)))] [some (Blk.mk false (1 : Nat) [Seg.ints IntKind.u8 N xs])] else
     none else none else none else none) (by kernel_rfl) (by simp only [-eq_self, Nat.mul_one, swrap w1.1 w1.2, swrap w2.1 w2.2, swrap w3.1 w3.2, swrap w4.1 w4.2, swrap w5.1 w5.2]; exact (go_t (dec_t h1) (go_t (and_t (dec_t h2) (dec_t h3)) (go_t (blt_t h4) (go_t (chk_t h5) rfl)))))
--CFEND
--CP pGetRX (v a s : Int) (o n c m i N : Nat) (xs : List Int) (on : List Value → Heap → Out) (out : Exit → List Value → Heap → Out) :: roundK Try.prog (SPow.on [(17, false)]) noL Try.f59.ntmps 1 (loopOf Try.f59 0) liveGetR [slo 0 o n c, w63 a, w63 s, w63 0, w63 m, w63 v, w63 i] [rU N xs] on out
theorem pGetRX (v a s : Int) (o n c m i N : Nat) (xs : List Int) (on : List Value → Heap → Out) (out : Exit → List Value → Heap → Out)
    (h1 : ¬(↑i : Int) < (↑m : Int) := by first | omega | assumption | rfl) : roundK Try.prog (SPow.on [(17, false)]) noL Try.f59.ntmps 1 (loopOf Try.f59 0) liveGetR [slo 0 o n c, w63 a, w63 s, w63 0, w63 m, w63 v, w63 i] [rU N xs] on out =
     (out (Exit.exit (0 : Nat)) [Value.slice (some (Addr.mk (0 : Nat) o none)) n c, Value.int IntKind.i64 a, Value.int IntKind.i64 s, Value.int IntKind.i64 (0 : Int), Value.int IntKind.i64 (↑m : Int),
     Value.int IntKind.i64 v, Value.int IntKind.i64 (↑i : Int)] [some (Blk.mk false (1 : Nat) [Seg.ints IntKind.u8 N xs])]) :=
  Eq.trans (by kernel_rfl) (go_f (dec_f h1) rfl)
--CFEND
/-- Bytes' number, the lowest byte first. -/
def valL : List Int → Int
  | [] => 0
  | x :: r => x + 256 * valL r
noncomputable def LGetRf : LF := fun vs h k => match vs, h with
  | [.slice (some ⟨0, o, none⟩) n c, .int .i64 a, .int .i64 s, .int .i64 0, .int .i64 m, .int .i64 0, .int .i64 0], [some ⟨false, 1, [.ints .u8 N xs]⟩] =>
    bif chk (0 ≤ a ∧ 0 ≤ m ∧ m ≤ 4 ∧ a + m ≤ n ∧ o + n ≤ N ∧ N ≤ 1000000) then k (.exit 0) [slo 0 o n c, w63 a, w63 s, w63 0, w63 m, w63 (valL (fldB xs o a m)), w63 m] [rU N xs] else none
  | _, _ => none
noncomputable def LGetR : LSpec := oneL 6 liveGetR LGetRf
--CF cfGetRP (a s : Int) (o n c N : Nat) (xs : List Int) :: fnK Try.prog (SPow.on [(12, false), (34, false), (40, false)]) LGetR Try.f59 [slo 0 o n c, w63 a, w63 s] [rU N xs]
theorem cfGetRP (a s : Int) (o n c N : Nat) (xs : List Int) : fnK Try.prog (SPow.on [(12, false), (34, false), (40, false)]) LGetR Try.f59 [slo 0 o n c, w63 a, w63 s] [rU N xs] =
     (bif decide (s < 0) then none else bif chk (0 ≤ a ∧ 0 ≤ s ∧ s ≤ 4 ∧ a + s ≤ (↑n : Int) ∧ o + n ≤ N ∧ N ≤ 1000000) then bif decide (s < 0) then none else some (Res.ret (Value.int IntKind.i64 (valL
     (fldB xs o a s))) [some (Blk.mk false 1 [Seg.ints IntKind.u8 N xs])]) else none) := by kernel_rfl
--CFEND
--CF cfGetRN0 (a s : Int) (o n c N : Nat) (xs : List Int) :: fnK Try.prog (SPow.on [(12, true), (34, true), (40, false)]) LGetR Try.f59 [slo 0 o n c, w63 a, w63 s] [rU N xs]
theorem cfGetRN0 (a s : Int) (o n c N : Nat) (xs : List Int) : fnK Try.prog (SPow.on [(12, true), (34, true), (40, false)]) LGetR Try.f59 [slo 0 o n c, w63 a, w63 s] [rU N xs] =
     (bif decide (s < 0) then bif chk (0 ≤ a ∧ 0 ≤ IntKind.i64.wrap (0 - s) ∧ IntKind.i64.wrap (0 - s) ≤ 4 ∧ a + IntKind.i64.wrap (0 - s) ≤ (↑n : Int) ∧ o + n ≤ N ∧ N ≤ 1000000) then bif decide (s < 0)
     then bif chk (0 ≤ IntKind.i64.wrap (0 - s) ∧ IntKind.i64.wrap (0 - s) ≤ 7) then bif decide (valL (fldB xs o a (IntKind.i64.wrap (0 - s))) ≥ IntKind.i64.wrap ((pw256 (IntKind.i64.wrap (0 - s))).tdiv
     2)) then none else some (Res.ret (Value.int IntKind.i64 (valL (fldB xs o a (IntKind.i64.wrap (0 - s))))) [some (Blk.mk false 1 [Seg.ints IntKind.u8 N xs])]) else none else none else none else none) := by kernel_rfl
--CFEND
--CF cfGetRN1 (a s : Int) (o n c N : Nat) (xs : List Int) :: fnK Try.prog (SPow.on [(12, true), (34, true), (40, true)]) LGetR Try.f59 [slo 0 o n c, w63 a, w63 s] [rU N xs]
theorem cfGetRN1 (a s : Int) (o n c N : Nat) (xs : List Int) : fnK Try.prog (SPow.on [(12, true), (34, true), (40, true)]) LGetR Try.f59 [slo 0 o n c, w63 a, w63 s] [rU N xs] =
     (bif decide (s < 0) then bif chk (0 ≤ a ∧ 0 ≤ IntKind.i64.wrap (0 - s) ∧ IntKind.i64.wrap (0 - s) ≤ 4 ∧ a + IntKind.i64.wrap (0 - s) ≤ (↑n : Int) ∧ o + n ≤ N ∧ N ≤ 1000000) then bif decide (s < 0)
     then bif chk (0 ≤ IntKind.i64.wrap (0 - s) ∧ IntKind.i64.wrap (0 - s) ≤ 7) then bif decide (valL (fldB xs o a (IntKind.i64.wrap (0 - s))) ≥ IntKind.i64.wrap ((pw256 (IntKind.i64.wrap (0 - s))).tdiv
     2)) then bif chk (0 ≤ IntKind.i64.wrap (0 - s) ∧ IntKind.i64.wrap (0 - s) ≤ 7) then some (Res.ret (Value.int IntKind.i64 (IntKind.i64.wrap (valL (fldB xs o a (IntKind.i64.wrap (0 - s))) - pw256
     (IntKind.i64.wrap (0 - s))))) [some (Blk.mk false 1 [Seg.ints IntKind.u8 N xs])]) else none else none else none else none else none else none) := by kernel_rfl
--CFEND
end Go.Proofs.Ytcjjngdkkihgjaa.VC

/- The document's numbers: power, Get: what they are. -/
namespace Go.Proofs.Ytcjjngdkkihgjaa.VC
open Go Go.Proofs

theorem pw_le {n : Int} (h : n ≤ 7) : 0 ≤ pw256 n ∧ pw256 n ≤ 72057594037927936 := ⟨Int.le_of_lt (Int.pow_pos (by decide)), pow_le8 (by omega)⟩
theorem pw_4 {n : Int} (h : n ≤ 4) : 1 ≤ pw256 n ∧ pw256 n ≤ 4294967296 := by
  unfold pw256
  have : (256 : Nat) ^ n.toNat ≤ 256 ^ 4 := Nat.pow_le_pow_right (by decide) (by omega)
  have h1 : 1 ≤ (256 : Nat) ^ n.toNat := Nat.one_le_pow _ _ (by decide)
  have e : ((256 ^ n.toNat : Nat) : Int) = (256 : Int) ^ n.toNat := by simp
  rw [← e]; omega
theorem pw_even {n : Int} (h : 1 ≤ n) : pw256 n % 2 = 0 := by
  unfold pw256
  obtain ⟨q, rfl⟩ := Int.eq_ofNat_of_zero_le (show 0 ≤ n by omega)
  obtain ⟨r, rfl⟩ : ∃ r, q = r + 1 := ⟨q - 1, by omega⟩
  rw [Int.toNat_natCast, Int.pow_succ]; omega
theorem loopPow {n : Nat} (hn : n ≤ 7) : ∀ (r i : Nat), i + r = n → LoopT Try.prog Try.f62.ntmps 0 (loopOf Try.f62 0) (zipS livePow [w63 n, w63 0, w63 (pw256 i), w63 i]) [] (.exit 0) (zipS livePow [w63 n, w63 0, w63 (pw256 n), w63 n]) [] := by
  intro r
  induction r with
  | zero =>
    intro i hi
    obtain rfl : i = n := by omega
    exact LoopT.last (by intro h; cases h) (CodeT.out (mk0.on _) noL_ok fun on out => pPowX _ i i on out)
  | succ r ih =>
    intro i hi
    have hp := pw_le (n := ((i + 1 : Nat) : Int)) (by omega)
    have e : pw256 i * 256 = pw256 ((i + 1 : Nat) : Int) := by unfold pw256; rw [Int.toNat_natCast, Int.toNat_natCast, Int.pow_succ]
    refine LoopT.step (CodeT.on (live := livePow) (vs1 := [w63 n, w63 0, w63 (pw256 ((i + 1 : Nat) : Int)), w63 ((i + 1 : Nat) : Int)]) (h1 := []) (mk0.on [(7, true)]) noL_ok fun on out => (pPow _ n i on out).trans ?_) (ih (i + 1) (by omega))
    rw [e]; rfl
theorem loopOKPow : LoopOK Try.prog Try.f62.ntmps 0 (loopOf Try.f62 0) livePow LPowf := by
  refine LoopOK.of_T ?_
  intro vs h k out hk
  unfold LPowf at hk
  split at hk
  · rename_i n
    obtain ⟨hb, hk2⟩ := bif_t hk
    obtain ⟨h1, h2⟩ := chk_iff.1 hb
    refine ⟨_, _, _, hk2, fun real => ?_⟩
    have := loopPow (n := n.toNat) (by omega) n.toNat 0 (by omega)
    rw [show ((n.toNat : Nat) : Int) = n by omega] at this
    exact this
  · cases hk
theorem loopsPow : LoopsOK Try.prog LPow Try.f62.ntmps 0 (bodyOf Try.f62) := loops_one rfl (by kernel_rfl) loopOKPow
theorem okPow : EntryOK Try.prog 62 FPow := by
  refine EntryOK.of_paths (fn := Try.f62) follows_ok Try.func62 (by kernel_rfl) (by kernel_rfl) ?_
  intro args h k out hF
  unfold FPow at hF
  split at hF
  · rename_i n
    obtain ⟨hb, hF2⟩ := bif_t hF
    obtain ⟨h1, h2⟩ := chk_iff.1 hb
    exact ⟨_, _, hF2, fun _ => ⟨_, LPow, mk0, loopsPow, pPowF n⟩⟩
  · cases hF
theorem SPow_ok : SpecOK Try.prog SPow := mkS_cons okPow (mkS_nil _)
theorem valL_snoc (l : List Int) (x : Int) : valL (l ++ [x]) = valL l + x * pw256 l.length := by
  induction l with
  | nil => simp [valL, pw256]
  | cons y r ih =>
    rw [List.cons_append, valL, ih, valL, List.length_cons]
    have : pw256 ((r.length + 1 : Nat) : Int) = 256 * pw256 r.length := by unfold pw256; rw [Int.toNat_natCast, Int.toNat_natCast, Int.pow_succ, Int.mul_comm]
    rw [this, Int.mul_add, Int.mul_left_comm 256 x]; omega
theorem valL_rev (l : List Int) : valL l.reverse = valB l := by
  induction l with
  | nil => rfl
  | cons y r ih =>
    rw [List.reverse_cons, valL_snoc, ih, List.length_reverse]
    have : ∀ (l : List Int) (v : Int), l.foldl (fun a x => a * 256 + x) v = v * pw256 l.length + l.foldl (fun a x => a * 256 + x) 0 := by
      intro l
      induction l with
      | nil => intro v; simp [pw256]
      | cons z q ih =>
        intro v
        rw [List.foldl_cons, ih, List.foldl_cons, ih (0 * 256 + z), List.length_cons]
        have : pw256 ((q.length + 1 : Nat) : Int) = 256 * pw256 q.length := by unfold pw256; rw [Int.toNat_natCast, Int.toNat_natCast, Int.pow_succ, Int.mul_comm]
        rw [this, Int.add_mul, Int.zero_mul, Int.zero_add, Int.mul_assoc]; omega
    unfold valB
    rw [List.foldl_cons, this r (0 * 256 + y), Int.zero_mul, Int.zero_add]
    omega
theorem valL_lt {l : List Int} (hx : ∀ x ∈ l, 0 ≤ x ∧ x ≤ 255) : 0 ≤ valL l ∧ valL l < pw256 l.length := by
  have h := valB_lt l.length l.reverse (by simp) (fun x h => hx x (by simpa using h))
  rw [← valL_rev, List.reverse_reverse] at h
  exact h
abbrev stGetR (v a s : Int) (o n c m : Nat) (i : Int) : List Value := [slo 0 o n c, w63 a, w63 s, w63 0, w63 m, w63 v, w63 i]
theorem loopGetR {a s : Int} {o n c m N : Nat} {xs : List Int} (ha : 0 ≤ a) (hm : m ≤ 4) (hn : a + m ≤ n) (ho : o + n ≤ N) (hN : N ≤ 1000000) (hl : xs.length = N) (hx : ∀ x ∈ xs, 0 ≤ x ∧ x ≤ 255) : ∀ (r i : Nat), i + r = m →
    LoopT Try.prog Try.f59.ntmps 1 (loopOf Try.f59 0) (zipS liveGetR (stGetR (valL (fldB xs o a i)) a s o n c m i)) [rU N xs] (.exit 0) (zipS liveGetR (stGetR (valL (fldB xs o a m)) a s o n c m m)) [rU N xs] := by
  intro r
  induction r with
  | zero =>
    intro i hi
    obtain rfl : i = m := by omega
    exact LoopT.last (by intro h; cases h) (CodeT.out (SPow_ok.on _) noL_ok fun on out => pGetRX _ a s o n c i i N xs on out)
  | succ r ih =>
    intro i hi
    have ei : o + (a + (i : Int)).toNat = o + a.toNat + i := by omega
    have hb := getD_rng hx (i := o + (a + (i : Int)).toNat) (by omega)
    have hlen := fld_len (xs := xs) (o := o) (a := a) (m := (i : Int)) hl (by omega)
    rw [Int.toNat_natCast] at hlen
    have hv := valL_lt (l := fldB xs o a i) (fld_mem hx)
    rw [hlen] at hv
    have hp := pw_4 (n := (i : Int)) (by omega)
    have e : fldB xs o a ((i + 1 : Nat) : Int) = fldB xs o a i ++ [xs.getD (o + (a + (i : Int)).toNat) 0] := by rw [ei]; exact take_one (by omega)
    have hmul : xs.getD (o + (a + (i : Int)).toNat) 0 * pw256 i ≤ 255 * 4294967296 := Int.mul_le_mul hb.2 hp.2 (by omega) (by decide)
    have hmul0 : 0 ≤ xs.getD (o + (a + (i : Int)).toNat) 0 * pw256 i := Int.mul_nonneg hb.1 (by omega)
    refine LoopT.step (CodeT.on (live := liveGetR) (vs1 := stGetR (valL (fldB xs o a ((i + 1 : Nat) : Int))) a s o n c m ((i + 1 : Nat) : Int)) (h1 := [rU N xs]) (SPow_ok.on [(17, true)]) noL_ok fun on out => ?_) (ih (i + 1) (by omega))
    refine (pGetR (valL (fldB xs o a i)) a s o n c m i N xs on out).trans ?_
    rw [e, valL_snoc, hlen]; rfl
theorem loopOKGetR : LoopOK Try.prog Try.f59.ntmps 1 (loopOf Try.f59 0) liveGetR LGetRf := by
  refine LoopOK.of_T ?_
  intro vs h k out hk
  unfold LGetRf at hk
  split at hk
  · rename_i o n c a s m N xs
    obtain ⟨hb, hk2⟩ := bif_t hk
    obtain ⟨h1, h2, h3, h4, h5, h6⟩ := chk_iff.1 hb
    refine ⟨_, _, _, hk2, fun real => ?_⟩
    have hs := real.segs (i := 0) rfl rfl _ (List.mem_cons_self ..)
    obtain ⟨q, rfl⟩ := Int.eq_ofNat_of_zero_le h2
    exact loopGetR (a := a) (s := s) (o := o) (n := n) (c := c) (m := q) h1 (by omega) (by omega) h5 h6 hs.1 (fun x hx => hs.2 x hx) q 0 (by omega)
  · cases hk
theorem loopsGetR : LoopsOK Try.prog LGetR Try.f59.ntmps 1 (bodyOf Try.f59) := loops_one rfl (by kernel_rfl) loopOKGetR
/-- A field, its lowest byte first. -/
def getL (xs : List Int) (o : Nat) (a s : Int) : Int := if s < 0 then sgnV (manyI s) (valL (fldB xs o a (manyI s))) else valL (fldB xs o a (manyI s))
noncomputable def FGetR : FSpec := fun args h k => match args, h with
  | [.slice (some ⟨0, o, none⟩) n _, .int .i64 a, .int .i64 s], [some ⟨false, 1, [.ints .u8 N xs]⟩] =>
    bif chk (-4 ≤ s ∧ s ≤ 4 ∧ s ≠ 0 ∧ 0 ≤ a ∧ a + manyI s ≤ n ∧ o + n ≤ N ∧ N ≤ 1000000) then k (w63 (getL xs o a s)) [rU N xs] else none
  | _, _ => none
theorem okGetR : EntryOK Try.prog 59 FGetR := by
  refine EntryOK.of_paths (fn := Try.f59) follows_ok Try.func59 (by kernel_rfl) (by kernel_rfl) ?_
  intro args h k out hF
  unfold FGetR at hF
  split at hF
  · rename_i o n c a s N xs
    obtain ⟨hb, hF2⟩ := bif_t hF
    obtain ⟨h1, h2, h3, h4, h5, h6, h7⟩ := chk_iff.1 hb
    refine ⟨_, _, hF2, fun real => ?_⟩
    have hs := real.segs (i := 0) rfl rfl _ (List.mem_cons_self ..)
    have hm := manyI_rng ⟨h1, h2⟩
    have hm1 : 1 ≤ manyI s := by unfold manyI; split <;> omega
    have hlen := fld_len (xs := xs) (o := o) (a := a) (m := manyI s) hs.1 (by omega)
    have hv := valL_lt (l := fldB xs o a (manyI s)) (fld_mem fun x hx => hs.2 x hx)
    rw [hlen, show ((manyI s).toNat : Int) = manyI s by omega] at hv
    have hp := pw_4 hm.2
    have he := pw_even hm1
    by_cases hneg : s < 0
    · have em : IntKind.i64.wrap (0 - s) = manyI s := by rw [swrap (by omega) (by omega)]; unfold manyI; rw [if_pos (by omega)]
      have c1 : 0 ≤ a ∧ 0 ≤ manyI s ∧ manyI s ≤ 4 ∧ a + manyI s ≤ n ∧ o + n ≤ N ∧ N ≤ 1000000 := ⟨h4, hm.1, hm.2, h5, h6, h7⟩
      have c2 : 0 ≤ manyI s ∧ manyI s ≤ 7 := by omega
      have ew : IntKind.i64.wrap ((pw256 (manyI s)).tdiv 2) = pw256 (manyI s) / 2 := by rw [Int.tdiv_eq_ediv_of_nonneg (by omega), swrap (by omega) (by omega)]
      by_cases hbig : valL (fldB xs o a (manyI s)) ≥ pw256 (manyI s) / 2
      · refine ⟨_, LGetR, SPow_ok.on _, loopsGetR, (cfGetRN1 a s o n c N xs).trans ?_⟩
        rw [em, ew]
        refine go_t (dec_t hneg) (go_t (chk_t c1) (go_t (dec_t hneg) (go_t (chk_t c2) (go_t (dec_t hbig) (go_t (chk_t c2) ?_)))))
        unfold getL sgnV
        rw [if_pos hneg, if_pos (show (256 : Int) ^ (manyI s).toNat ≤ 2 * valL (fldB xs o a (manyI s)) by show pw256 (manyI s) ≤ _; omega), swrap (by omega) (by omega)]
        rfl
      · refine ⟨_, LGetR, SPow_ok.on _, loopsGetR, (cfGetRN0 a s o n c N xs).trans ?_⟩
        rw [em, ew]
        refine go_t (dec_t hneg) (go_t (chk_t c1) (go_t (dec_t hneg) (go_t (chk_t c2) (go_f (dec_f hbig) ?_))))
        unfold getL sgnV
        rw [if_pos hneg, if_neg (show ¬ (256 : Int) ^ (manyI s).toNat ≤ 2 * valL (fldB xs o a (manyI s)) by show ¬ pw256 (manyI s) ≤ _; omega)]
    · have em : manyI s = s := by unfold manyI; rw [if_neg (by omega)]
      refine ⟨_, LGetR, SPow_ok.on _, loopsGetR, (cfGetRP a s o n c N xs).trans ?_⟩
      rw [em] at hm h5
      refine go_f (dec_f hneg) (go_t (chk_t ⟨h4, hm.1, hm.2, h5, h6, h7⟩) (go_f (dec_f hneg) ?_))
      unfold getL
      rw [if_neg hneg, em]
  · cases hF
end Go.Proofs.Ytcjjngdkkihgjaa.VC

/- sirf, the document's: turned, Layout, Decode: closed forms. -/
namespace Go.Proofs.Ytcjjngdkkihgjaa.VC
open Go Go.Proofs

def liveTrn : List Nat := [0, 1, 2, 6, 7, 8]
--CP pTrn (a m : Int) (o n c i q N : Nat) (xs ys : List Int) (on : List Value → Heap → Out) (out : Exit → List Value → Heap → Out) :: roundK Try.prog ((mkS []).on [(16, true)]) noL Try.f67.ntmps 1 (loopOf Try.f67 0) liveTrn [slo 0 o n c, w63 a, w63 m, .slice none 0 0, sl 1 q 1, w63 i] [rU N xs, oU q ys] on out
theorem pTrn (a m : Int) (o n c i q N : Nat) (xs ys : List Int) (on : List Value → Heap → Out) (out : Exit → List Value → Heap → Out)
    (w1 : -9223372036854775808 ≤ a + (↑i : Int) ∧ a + (↑i : Int) ≤ 9223372036854775807 := by omega)
    (w2 : -9223372036854775808 ≤ (↑i : Int) - (1 : Int) ∧ (↑i : Int) - (1 : Int) ≤ 9223372036854775807 := by omega)
    (h1 : (0 : Int) ≤ a + (↑i : Int) := by first | omega | assumption | rfl)
    (h2 : a + (↑i : Int) < (↑n : Int) := by first | omega | assumption | rfl)
    (h3 : o + (a + (↑i : Int)).toNat < N := by first | omega | assumption | rfl)
    (h4 : q ≤ q := by first | omega | assumption | rfl)
    (h5 : q + (1 : Nat) ≤ (140737488355328 : Nat) := by first | omega | assumption | rfl)
    (h6 : q + (1 : Nat) ≤ (4611686018427387904 : Nat) := by first | omega | assumption | rfl)
    (h7 : q = q := by first | omega | assumption | rfl) : roundK Try.prog ((mkS []).on [(16, true)]) noL Try.f67.ntmps 1 (loopOf Try.f67 0) liveTrn [slo 0 o n c, w63 a, w63 m, .slice none 0 0, sl 1 q 1, w63 i] [rU N xs, oU q ys] on out =
     (on [Value.slice (some (Addr.mk (0 : Nat) o none)) n c, Value.int IntKind.i64 a, Value.int IntKind.i64 m, Value.slice none (0 : Nat) (0 : Nat), Value.slice (some (Addr.mk (1 : Nat) (0 : Nat) none)) (q
     + (1 : Nat)) (1 : Nat), Value.int IntKind.i64 ((↑i : Int) - (1 : Int))] [some (Blk.mk false (1 : Nat) [Seg.ints IntKind.u8 N xs]), some (Blk.mk true (1 : Nat) [Seg.ints IntKind.u8 (q + (1 : Nat))
     (List.take q ys ++ [xs.getD (o + (a + (↑i : Int)).toNat) (0 : Int)])])]) :=
  Eq.trans (b :=
     bif decide ((0 : Int) ≤ IntKind.i64.wrap (a + (↑i : Int))) && decide (IntKind.i64.wrap (a + (↑i : Int)) < (↑n : Int)) then bif (o + (IntKind.i64.wrap (a + (↑i : Int))).toNat * (1 : Nat)).blt N then
     bif (q * (1 : Nat)).ble q then bif decide ((q + (1 : Nat)) * (1 : Nat) ≤ (140737488355328 : Nat)) && (q + (1 : Nat)).ble (OfNat.ofNat (4611686018427387904 : Nat)) then bif ((0 : Nat) + q * (1 :
     Nat)).beq q && true then on [Value.slice (some (Addr.mk (0 : Nat) o none)) n c, Value.int IntKind.i64 a, Value.int IntKind.i64 m, Value.slice none (0 : Nat) (0 : Nat), Value.slice (some (Addr.mk (1 :
     Nat) (0 : Nat) none)) (q + (1 : Nat)) (1 : Nat), Value.int IntKind.i64 (IntKind.i64.wrap ((↑i : Int) - (1 : Int)))] [some (Blk.mk false (1 : Nat) [Seg.ints IntKind.u8 N xs]), some (Blk.mk true (1 :
     Nat) [Seg.ints IntKind.u8 (q * (1 : Nat) + (1 : Nat)) (List.take (q * (1 : Nat)) ys ++ [xs.getD (o + (IntKind.i64.wrap (a + (↑i : Int))).toNat * (1 : Nat)) (0 : Int)])])] else none else none else none
     else none else none) (by kernel_rfl) (by simp only [-eq_self, Nat.mul_one, Nat.zero_add, swrap w1.1 w1.2, swrap w2.1 w2.2]; exact (go_t (and_t (dec_t h1) (dec_t h2)) (go_t (blt_t h3) (go_t (ble_t h4) (go_t (and_t (dec_t h5) (ble_t h6)) (go_t (and_t (beq_t h7) rfl) rfl))))))
--CFEND
--CP pTrn0 (a m : Int) (o n c i N : Nat) (xs : List Int) (on : List Value → Heap → Out) (out : Exit → List Value → Heap → Out) :: roundK Try.prog ((mkS []).on [(16, true)]) noL Try.f67.ntmps 1 (loopOf Try.f67 0) liveTrn [slo 0 o n c, w63 a, w63 m, .slice none 0 0, .slice none 0 0, w63 i] [rU N xs] on out
theorem pTrn0 (a m : Int) (o n c i N : Nat) (xs : List Int) (on : List Value → Heap → Out) (out : Exit → List Value → Heap → Out)
    (w1 : -9223372036854775808 ≤ a + (↑i : Int) ∧ a + (↑i : Int) ≤ 9223372036854775807 := by omega)
    (w2 : -9223372036854775808 ≤ (↑i : Int) - (1 : Int) ∧ (↑i : Int) - (1 : Int) ≤ 9223372036854775807 := by omega)
    (h1 : (0 : Int) ≤ a + (↑i : Int) := by first | omega | assumption | rfl)
    (h2 : a + (↑i : Int) < (↑n : Int) := by first | omega | assumption | rfl)
    (h3 : o + (a + (↑i : Int)).toNat < N := by first | omega | assumption | rfl) : roundK Try.prog ((mkS []).on [(16, true)]) noL Try.f67.ntmps 1 (loopOf Try.f67 0) liveTrn [slo 0 o n c, w63 a, w63 m, .slice none 0 0, .slice none 0 0, w63 i] [rU N xs] on out =
     (on [Value.slice (some (Addr.mk (0 : Nat) o none)) n c, Value.int IntKind.i64 a, Value.int IntKind.i64 m, Value.slice none (0 : Nat) (0 : Nat), Value.slice (some (Addr.mk (1 : Nat) (0 : Nat) none)) (1
     : Nat) (1 : Nat), Value.int IntKind.i64 ((↑i : Int) - (1 : Int))] [some (Blk.mk false (1 : Nat) [Seg.ints IntKind.u8 N xs]), some (Blk.mk true (1 : Nat) [Seg.ints IntKind.u8 (1 : Nat) [xs.getD (o + (a
     + (↑i : Int)).toNat) (0 : Int)]])]) :=
  Eq.trans (b :=
     bif decide ((0 : Int) ≤ IntKind.i64.wrap (a + (↑i : Int))) && decide (IntKind.i64.wrap (a + (↑i : Int)) < (↑n : Int)) then bif (o + (IntKind.i64.wrap (a + (↑i : Int))).toNat * (1 : Nat)).blt N then on
     [Value.slice (some (Addr.mk (0 : Nat) o none)) n c, Value.int IntKind.i64 a, Value.int IntKind.i64 m, Value.slice none (0 : Nat) (0 : Nat), Value.slice (some (Addr.mk (1 : Nat) (0 : Nat) none)) (1 :
     Nat) (1 : Nat), Value.int IntKind.i64 (IntKind.i64.wrap ((↑i : Int) - (1 : Int)))] [some (Blk.mk false (1 : Nat) [Seg.ints IntKind.u8 N xs]), some (Blk.mk true (1 : Nat) [Seg.ints IntKind.u8 (1 : Nat)
     [xs.getD (o + (IntKind.i64.wrap (a + (↑i : Int))).toNat * (1 : Nat)) (0 : Int)]])] else none else none) (by kernel_rfl) (by simp only [-eq_self, Nat.mul_one, swrap w1.1 w1.2, swrap w2.1 w2.2]; exact (go_t (and_t (dec_t h1) (dec_t h2)) (go_t (blt_t h3) rfl)))
--CFEND
--CP pTrnX (a m : Int) (o n c q N : Nat) (xs ys : List Int) (on : List Value → Heap → Out) (out : Exit → List Value → Heap → Out) :: roundK Try.prog ((mkS []).on [(16, false)]) noL Try.f67.ntmps 1 (loopOf Try.f67 0) liveTrn [slo 0 o n c, w63 a, w63 m, .slice none 0 0, sl 1 q 1, w63 (-1)] [rU N xs, oU q ys] on out
theorem pTrnX (a m : Int) (o n c q N : Nat) (xs ys : List Int) (on : List Value → Heap → Out) (out : Exit → List Value → Heap → Out) : roundK Try.prog ((mkS []).on [(16, false)]) noL Try.f67.ntmps 1 (loopOf Try.f67 0) liveTrn [slo 0 o n c, w63 a, w63 m, .slice none 0 0, sl 1 q 1, w63 (-1)] [rU N xs, oU q ys] on out =
     (out (Exit.exit (0 : Nat)) [Value.slice (some (Addr.mk (0 : Nat) o none)) n c, Value.int IntKind.i64 a, Value.int IntKind.i64 m, Value.slice none (0 : Nat) (0 : Nat), Value.slice (some (Addr.mk (1 :
     Nat) (0 : Nat) none)) q (1 : Nat), Value.int IntKind.i64 (-1 : Int)] [some (Blk.mk false (1 : Nat) [Seg.ints IntKind.u8 N xs]), some (Blk.mk true (1 : Nat) [Seg.ints IntKind.u8 q ys])]) :=
  Eq.trans (by kernel_rfl) rfl
--CFEND
noncomputable def LTrnf : LF := fun vs h k => match vs, h with
  | [.slice (some ⟨0, o, none⟩) n c, .int .i64 a, .int .i64 m, .slice none 0 0, .slice none 0 0, .int .i64 i], [some ⟨false, 1, [.ints .u8 N xs]⟩] =>
    bif chk (0 ≤ a ∧ 1 ≤ m ∧ m ≤ 4 ∧ a + m ≤ n ∧ o + n ≤ N ∧ N ≤ 1000000 ∧ i = m - 1) then k (.exit 0) [slo 0 o n c, w63 a, w63 m, .slice none 0 0, sl 1 m.toNat 1, w63 (-1)] [rU N xs, oU m.toNat (fldB xs o a m).reverse] else none
  | _, _ => none
noncomputable def LTrn : LSpec := oneL 5 liveTrn LTrnf
--CF cfTrnN (a s : Int) (o n c N : Nat) (xs : List Int) :: fnK Try.prog ((mkS []).on [(10, true)]) LTrn Try.f67 [slo 0 o n c, w63 a, w63 s] [rU N xs]
theorem cfTrnN (a s : Int) (o n c N : Nat) (xs : List Int) : fnK Try.prog ((mkS []).on [(10, true)]) LTrn Try.f67 [slo 0 o n c, w63 a, w63 s] [rU N xs] =
     (bif decide (s < 0) then bif chk (0 ≤ a ∧ 1 ≤ IntKind.i64.wrap (0 - s) ∧ IntKind.i64.wrap (0 - s) ≤ 4 ∧ a + IntKind.i64.wrap (0 - s) ≤ (↑n : Int) ∧ o + n ≤ N ∧ N ≤ 1000000 ∧ IntKind.i64.wrap
     (IntKind.i64.wrap (0 - s) - 1) = IntKind.i64.wrap (0 - s) - 1) then some (Res.ret (Value.slice (some (Addr.mk 1 0 none)) (IntKind.i64.wrap (0 - s)).toNat 1) [some (Blk.mk false 1 [Seg.ints IntKind.u8
     N xs]), some (Blk.mk true 1 [Seg.ints IntKind.u8 (IntKind.i64.wrap (0 - s)).toNat (fldB xs o a (IntKind.i64.wrap (0 - s))).reverse])]) else none else none) := by kernel_rfl
--CFEND
--CF cfTrnP (a s : Int) (o n c N : Nat) (xs : List Int) :: fnK Try.prog ((mkS []).on [(10, false)]) LTrn Try.f67 [slo 0 o n c, w63 a, w63 s] [rU N xs]
theorem cfTrnP (a s : Int) (o n c N : Nat) (xs : List Int) : fnK Try.prog ((mkS []).on [(10, false)]) LTrn Try.f67 [slo 0 o n c, w63 a, w63 s] [rU N xs] =
     (bif decide (s < 0) then none else bif chk (0 ≤ a ∧ 1 ≤ s ∧ s ≤ 4 ∧ a + s ≤ (↑n : Int) ∧ o + n ≤ N ∧ N ≤ 1000000 ∧ IntKind.i64.wrap (s - 1) = s - 1) then some (Res.ret (Value.slice (some (Addr.mk 1 0
     none)) s.toNat 1) [some (Blk.mk false 1 [Seg.ints IntKind.u8 N xs]), some (Blk.mk true 1 [Seg.ints IntKind.u8 s.toNat (fldB xs o a s).reverse])]) else none) := by kernel_rfl
--CFEND
--CF cfLayR (x : Int) :: fnK Try.prog (mkS []) noL Try.f31 [u8v x] []
theorem cfLayR (x : Int) : fnK Try.prog (mkS []) noL Try.f31 [u8v x] [] =
     (bif x == 2 then some (Res.ret (Value.tuple (Array.mk [Value.int IntKind.i64 41, Value.slice (some (Addr.mk 0 0 none)) 24 0])) [some (Blk.mk true 1 [Seg.ints IntKind.i64 24 [1, -4, 5, -4, 9, -4, 13,
     -2, 15, -2, 17, -2, 19, 1, 20, 1, 21, 1, 22, 2, 24, 4, 28, 1]])]) else bif x == 4 then some (Res.ret (Value.tuple (Array.mk [Value.int IntKind.i64 188, Value.slice (some (Addr.mk 0 0 none)) 6 0]))
     [some (Blk.mk true 1 [Seg.ints IntKind.i64 6 [1, -2, 3, 4, 7, 1]])]) else bif x == 7 then some (Res.ret (Value.tuple (Array.mk [Value.int IntKind.i64 20, Value.slice (some (Addr.mk 0 0 none)) 12 0]))
     [some (Blk.mk true 1 [Seg.ints IntKind.i64 12 [1, 2, 3, 4, 7, 1, 8, 4, 12, 4, 16, 4]])]) else bif x == 41 then some (Res.ret (Value.tuple (Array.mk [Value.int IntKind.i64 91, Value.slice (some
     (Addr.mk 0 0 none)) 20 0])) [some (Blk.mk true 1 [Seg.ints IntKind.i64 20 [1, 2, 3, 2, 5, 2, 7, 4, 11, 2, 13, 1, 14, 1, 15, 1, 16, 1, 17, 2]])]) else bif x == 52 then some (Res.ret (Value.tuple
     (Array.mk [Value.int IntKind.i64 19, Value.slice (some (Addr.mk 0 0 none)) 18 0])) [some (Blk.mk true 1 [Seg.ints IntKind.i64 18 [1, 1, 2, 1, 3, 1, 4, 1, 5, 1, 6, 2, 8, -2, 10, 4, 14, 1]])]) else bif
     x == 11 then some (Res.ret (Value.tuple (Array.mk [Value.int IntKind.i64 2, Value.slice (some (Addr.mk 0 0 none)) 2 0])) [some (Blk.mk true 1 [Seg.ints IntKind.i64 2 [1, 1]])]) else bif x == 12 then
     some (Res.ret (Value.tuple (Array.mk [Value.int IntKind.i64 2, Value.slice (some (Addr.mk 0 0 none)) 2 0])) [some (Blk.mk true 1 [Seg.ints IntKind.i64 2 [1, 1]])]) else bif x == 166 then some (Res.ret
     (Value.tuple (Array.mk [Value.int IntKind.i64 8, Value.slice (some (Addr.mk 0 0 none)) 6 0])) [some (Blk.mk true 1 [Seg.ints IntKind.i64 6 [1, 1, 2, 1, 3, 1]])]) else some (Res.ret (Value.tuple
     (Array.mk [Value.int IntKind.i64 0, Value.slice none 0 0])) [])) := by kernel_rfl
--CFEND
end Go.Proofs.Ytcjjngdkkihgjaa.VC

/- sirf, the document's: turned, Layout: what they are; Decode: closed forms. -/
namespace Go.Proofs.Ytcjjngdkkihgjaa.VC
open Go Go.Proofs

theorem drop_rev {l : List Int} {i : Nat} (h : i < l.length) : (l.drop (i + 1)).reverse ++ [l.getD i 0] = (l.drop i).reverse := by
  rw [List.drop_eq_getElem_cons h, List.reverse_cons, List.getD_eq_getElem?_getD, List.getElem?_eq_getElem h]; rfl
theorem fld_get {xs : List Int} {o : Nat} {a m : Int} {i : Nat} (hi : i < m.toNat) : (fldB xs o a m).getD i 0 = xs.getD (o + a.toNat + i) 0 := by
  unfold fldB
  rw [List.getD_eq_getElem?_getD, List.getD_eq_getElem?_getD, List.getElem?_take_of_lt hi, List.getElem?_drop]
theorem loopTrn {a m : Int} {o n c N : Nat} {xs : List Int} (ha : 0 ≤ a) (hm : m ≤ 4) (hn : a + m ≤ n) (ho : o + n ≤ N) (hN : N ≤ 1000000) (hl : xs.length = N) : ∀ (i q : Nat), i + q = m → 1 ≤ q →
    LoopT Try.prog Try.f67.ntmps 1 (loopOf Try.f67 0) (zipS liveTrn [slo 0 o n c, w63 a, w63 m, .slice none 0 0, sl 1 q 1, w63 ((i : Int) - 1)]) [rU N xs, oU q ((fldB xs o a m).drop i).reverse] (.exit 0)
      (zipS liveTrn [slo 0 o n c, w63 a, w63 m, .slice none 0 0, sl 1 m.toNat 1, w63 (-1)]) [rU N xs, oU m.toNat (fldB xs o a m).reverse] := by
  intro i
  induction i with
  | zero =>
    intro q hq h1
    obtain rfl : q = m.toNat := by omega
    exact LoopT.last (by intro h; cases h) (CodeT.out (mk0.on _) noL_ok fun on out => pTrnX a m o n c m.toNat N xs _ on out)
  | succ i ih =>
    intro q hq h1
    have hlen := fld_len (xs := xs) (o := o) (a := a) (m := m) hl (by omega)
    have e := fld_get (xs := xs) (o := o) (a := a) (m := m) (i := i) (by omega)
    have e2 := drop_rev (l := fldB xs o a m) (i := i) (by omega)
    have hdl : ((fldB xs o a m).drop (i + 1)).reverse.length = q := by rw [List.length_reverse, List.length_drop]; omega
    refine LoopT.step (CodeT.on (live := liveTrn) (vs1 := [slo 0 o n c, w63 a, w63 m, .slice none 0 0, sl 1 (q + 1) 1, w63 ((i : Int) - 1)]) (h1 := [rU N xs, oU (q + 1) ((fldB xs o a m).drop i).reverse]) (mk0.on [(16, true)]) noL_ok fun on out => ?_) (ih (q + 1) (by omega) (by omega))
    rw [show ((i + 1 : Nat) : Int) - 1 = i by omega]
    refine (pTrn a m o n c i q N xs _ on out).trans ?_
    rw [List.take_of_length_le (by omega), show o + (a + (i : Int)).toNat = o + a.toNat + i by omega, ← e, e2]
theorem loopOKTrn : LoopOK Try.prog Try.f67.ntmps 1 (loopOf Try.f67 0) liveTrn LTrnf := by
  refine LoopOK.of_T ?_
  intro vs h k out hk
  unfold LTrnf at hk
  split at hk
  · rename_i o n c a m i N xs
    obtain ⟨hb, hk2⟩ := bif_t hk
    obtain ⟨h1, h2, h3, h4, h5, h6, h7⟩ := chk_iff.1 hb
    refine ⟨_, _, _, hk2, fun real => ?_⟩
    have hs := real.segs (i := 0) rfl rfl _ (List.mem_cons_self ..)
    have hlen := fld_len (xs := xs) (o := o) (a := a) (m := m) hs.1 (by omega)
    obtain ⟨q, rfl⟩ : ∃ q : Nat, m = (q + 1 : Nat) := ⟨(m - 1).toNat, by omega⟩
    obtain rfl : i = (q : Int) := by omega
    have e := fld_get (xs := xs) (o := o) (a := a) (m := ((q + 1 : Nat) : Int)) (i := q) (by omega)
    have e2 := drop_rev (l := fldB xs o a ((q + 1 : Nat) : Int)) (i := q) (by omega)
    rw [List.drop_eq_nil_of_le (by omega), List.reverse_nil, List.nil_append] at e2
    refine LoopT.step (CodeT.on (live := liveTrn) (vs1 := [slo 0 o n c, w63 a, w63 ((q + 1 : Nat) : Int), .slice none 0 0, sl 1 1 1, w63 ((q : Int) - 1)]) (h1 := [rU N xs, oU 1 ((fldB xs o a ((q + 1 : Nat) : Int)).drop q).reverse]) (mk0.on [(16, true)]) noL_ok fun on out => ?_) (loopTrn h1 (by omega) (by omega) h5 h6 hs.1 q 1 (by omega) (by omega))
    refine (pTrn0 a _ o n c q N xs on out).trans ?_
    rw [show o + (a + (q : Int)).toNat = o + a.toNat + q by omega, ← e, e2]
  · cases hk
theorem loopsTrn : LoopsOK Try.prog LTrn Try.f67.ntmps 1 (bodyOf Try.f67) := loops_one rfl (by kernel_rfl) loopOKTrn
noncomputable def FTrn : FSpec := fun args h k => match args, h with
  | [.slice (some ⟨0, o, none⟩) n _, .int .i64 a, .int .i64 s], [some ⟨false, 1, [.ints .u8 N xs]⟩] =>
    bif chk (-4 ≤ s ∧ s ≤ 4 ∧ s ≠ 0 ∧ 0 ≤ a ∧ a + manyI s ≤ n ∧ o + n ≤ N ∧ N ≤ 1000000) then k (sl 1 (manyI s).toNat 1) [rU N xs, oU (manyI s).toNat (fldB xs o a (manyI s)).reverse] else none
  | _, _ => none
theorem okTrn : EntryOK Try.prog 67 FTrn := by
  refine EntryOK.of_paths (fn := Try.f67) follows_ok Try.func67 (by kernel_rfl) (by kernel_rfl) ?_
  intro args h k out hF
  unfold FTrn at hF
  split at hF
  · rename_i o n c a s N xs
    obtain ⟨hb, hF2⟩ := bif_t hF
    obtain ⟨h1, h2, h3, h4, h5, h6, h7⟩ := chk_iff.1 hb
    refine ⟨_, _, hF2, fun real => ?_⟩
    have hm := manyI_rng ⟨h1, h2⟩
    have hm1 : 1 ≤ manyI s := by unfold manyI; split <;> omega
    by_cases hneg : s < 0
    · have em : IntKind.i64.wrap (0 - s) = manyI s := by rw [swrap (by omega) (by omega)]; unfold manyI; rw [if_pos (by omega)]
      refine ⟨_, LTrn, mk0.on _, loopsTrn, (cfTrnN a s o n c N xs).trans ?_⟩
      rw [em]
      exact go_t (dec_t hneg) (go_t (chk_t ⟨h4, hm1, hm.2, h5, h6, h7, swrap (by omega) (by omega)⟩) rfl)
    · have em : manyI s = s := by unfold manyI; rw [if_neg (by omega)]
      refine ⟨_, LTrn, mk0.on _, loopsTrn, (cfTrnP a s o n c N xs).trans ?_⟩
      rw [em] at hm h5 hm1 ⊢
      exact go_f (dec_f hneg) (go_t (chk_t ⟨h4, hm1, hm.2, h5, h6, h7, swrap (by omega) (by omega)⟩) rfl)
  · cases hF
noncomputable def FLayR : FSpec := fun args h k => match args, h with
  | [.int .u8 x], [] => (match layS x with
    | some (len, fl) => k (.tuple #[w63 len, sl 0 fl.length 0]) [oI fl.length fl]
    | none => k (.tuple #[w63 0, .slice none 0 0]) [])
  | _, _ => none
theorem okLayR : EntryOK Try.prog 31 FLayR := by
  refine EntryOK.of_paths (fn := Try.f31) follows_ok Try.func31 (by kernel_rfl) (by kernel_rfl) ?_
  intro args h k out hF
  unfold FLayR at hF
  split at hF
  · rename_i x
    split at hF
    · rename_i len fl hl
      refine ⟨_, _, hF, fun _ => ⟨_, noL, mk0, noL_ok, (cfLayR x).trans ?_⟩⟩
      rcases layS_cases hl with e | e | e | e | e | e | e | e <;>
      · subst e
        cases hl
        rfl
    · rename_i hl
      obtain ⟨a1, a2, a3, a4, a5, a6, a7, a8⟩ := layS_none hl
      refine ⟨_, _, hF, fun _ => ⟨_, noL, mk0, noL_ok, (cfLayR x).trans ?_⟩⟩
      rw [eqb_f a1, eqb_f a2, eqb_f a3, eqb_f a4, eqb_f a5, eqb_f a6, eqb_f a7, eqb_f a8]; rfl
  · cases hF
end Go.Proofs.Ytcjjngdkkihgjaa.VC

/- sirf, the document's: Decode; Same: closed forms. -/
namespace Go.Proofs.Ytcjjngdkkihgjaa.VC
open Go Go.Proofs

noncomputable def FLayRv (len : Nat) (fl : List Int) : FSpec := fun args h k => match args, h with
  | [.int .u8 x], [] => bif chk (layS x = some (len, fl)) then k (.tuple #[w63 len, sl 0 fl.length 0]) [oI fl.length fl] else none
  | _, _ => none
noncomputable def FLayRn : FSpec := fun args h k => match args, h with
  | [.int .u8 x], [] => bif chk (layS x = none) then k (.tuple #[w63 0, .slice none 0 0]) [] else none
  | _, _ => none
noncomputable def SDecR : Spec := mkS [(67, false, FTrn), (59, false, FGetR)]
def liveDecR : List Nat := [0, 2, 3, 5, 6, 7]
--CP pDrR (x : Int) (o n c i k N : Nat) (xs vs fl : List Int) (on : List Value → Heap → Out) (out : Exit → List Value → Heap → Out) :: roundK Try.prog (SDecR.on [(34, true)]) noL Try.f25.ntmps 1 (loopOf Try.f25 0) liveDecR [slo 0 o n c, pt 1, w63 0, sl 2 (2 * k) 0, pt 3, w63 ((2 * i : Nat) : Int)] [rU N xs, uS 0 (.slice none 0 0), oI (2 * k) fl, uS x (sl 4 i 1), oI i vs] on out
theorem pDrR (x : Int) (o n c i k N : Nat) (xs vs fl : List Int) (on : List Value → Heap → Out) (out : Exit → List Value → Heap → Out)
    (w1 : -9223372036854775808 ≤ (↑((2 : Nat) * i) : Int) + (1 : Int) ∧ (↑((2 : Nat) * i) : Int) + (1 : Int) ≤ 9223372036854775807 := by omega)
    (w2 : -9223372036854775808 ≤ (↑((2 : Nat) * i) : Int) + (2 : Int) ∧ (↑((2 : Nat) * i) : Int) + (2 : Int) ≤ 9223372036854775807 := by omega)
    (h1 : (↑((2 : Nat) * i) : Int) < (↑((2 : Nat) * k) : Int) := by first | omega | assumption | rfl)
    (h2 : (0 : Int) ≤ (↑((2 : Nat) * i) : Int) := by first | omega | assumption | rfl)
    (h3 : (2 : Nat) * i < (2 : Nat) * k := by first | omega | assumption | rfl)
    (h4 : (0 : Int) ≤ (↑((2 : Nat) * i) : Int) + (1 : Int) := by first | omega | assumption | rfl)
    (h5 : (↑((2 : Nat) * i) : Int) + (1 : Int) < (↑((2 : Nat) * k) : Int) := by first | omega | assumption | rfl)
    (h6 : ((↑((2 : Nat) * i) : Int) + (1 : Int)).toNat < (2 : Nat) * k := by first | omega | assumption | rfl)
    (h7 : (-4 : Int) ≤ fl.getD ((↑((2 : Nat) * i) : Int) + (1 : Int)).toNat (0 : Int) ∧ fl.getD ((↑((2 : Nat) * i) : Int) + (1 : Int)).toNat (0 : Int) ≤ (4 : Int) ∧ fl.getD ((↑((2 : Nat) * i) : Int) + (1 : Int)).toNat (0 : Int) ≠ (0 : Int) ∧ (0 : Int) ≤ fl.getD ((2 : Nat) * i) (0 : Int) ∧ fl.getD ((2 : Nat) * i) (0 : Int) + manyI (fl.getD ((↑((2 : Nat) * i) : Int) + (1 : Int)).toNat (0 : Int)) ≤ (↑n : Int) ∧ o + n ≤ N ∧ N ≤ (1000000 : Nat) := by first | omega | assumption | rfl | ((repeat' with_reducible apply And.intro) <;> first | rfl | assumption | omega))
    (h8 : (-4 : Int) ≤ fl.getD ((↑((2 : Nat) * i) : Int) + (1 : Int)).toNat (0 : Int) ∧ fl.getD ((↑((2 : Nat) * i) : Int) + (1 : Int)).toNat (0 : Int) ≤ (4 : Int) ∧ fl.getD ((↑((2 : Nat) * i) : Int) + (1 : Int)).toNat (0 : Int) ≠ (0 : Int) ∧ (0 : Int) ≤ (0 : Int) ∧ (0 : Int) + manyI (fl.getD ((↑((2 : Nat) * i) : Int) + (1 : Int)).toNat (0 : Int)) ≤ (↑(manyI (fl.getD ((↑((2 : Nat) * i) : Int) + (1 : Int)).toNat (0 : Int))).toNat : Int) ∧ (manyI (fl.getD ((↑((2 : Nat) * i) : Int) + (1 : Int)).toNat (0 : Int))).toNat ≤ (manyI (fl.getD ((↑((2 : Nat) * i) : Int) + (1 : Int)).toNat (0 : Int))).toNat ∧ (manyI (fl.getD ((↑((2 : Nat) * i) : Int) + (1 : Int)).toNat (0 : Int))).toNat ≤ (1000000 : Nat) := by first | omega | assumption | rfl | ((repeat' with_reducible apply And.intro) <;> first | rfl | assumption | omega))
    (h9 : i ≤ i := by first | omega | assumption | rfl)
    (h10 : (i + (1 : Nat)) * (8 : Nat) ≤ (140737488355328 : Nat) := by first | omega | assumption | rfl)
    (h11 : i + (1 : Nat) ≤ (4611686018427387904 : Nat) := by first | omega | assumption | rfl)
    (h12 : i = i := by first | omega | assumption | rfl) : roundK Try.prog (SDecR.on [(34, true)]) noL Try.f25.ntmps 1 (loopOf Try.f25 0) liveDecR [slo 0 o n c, pt 1, w63 0, sl 2 (2 * k) 0, pt 3, w63 ((2 * i : Nat) : Int)] [rU N xs, uS 0 (.slice none 0 0), oI (2 * k) fl, uS x (sl 4 i 1), oI i vs] on out =
     (on [Value.slice (some (Addr.mk (0 : Nat) o none)) n c, Value.pointer (some (Addr.mk (1 : Nat) (0 : Nat) none)), Value.int IntKind.i64 (0 : Int), Value.slice (some (Addr.mk (2 : Nat) (0 : Nat) none))
     ((2 : Nat) * k) (0 : Nat), Value.pointer (some (Addr.mk (3 : Nat) (0 : Nat) none)), Value.int IntKind.i64 ((↑((2 : Nat) * i) : Int) + (2 : Int))] [some (Blk.mk false (1 : Nat) [Seg.ints IntKind.u8 N
     xs]), some (Blk.mk true (2 : Nat) [Seg.ints IntKind.u8 (1 : Nat) [(0 : Int)], Seg.vals [Value.slice none (0 : Nat) (0 : Nat)]]), some (Blk.mk true (1 : Nat) [Seg.ints IntKind.i64 ((2 : Nat) * k) fl]),
     some (Blk.mk true (2 : Nat) [Seg.ints IntKind.u8 (1 : Nat) [x], Seg.vals [Value.slice (some (Addr.mk (4 : Nat) (0 : Nat) none)) (i + (1 : Nat)) (1 : Nat)]]), some (Blk.mk true (1 : Nat) [Seg.ints
     IntKind.i64 (i + (1 : Nat)) (List.take i vs ++ List.take (1 : Nat) [getL (fldB xs o (fl.getD ((2 : Nat) * i) (0 : Int)) (manyI (fl.getD ((↑((2 : Nat) * i) : Int) + (1 : Int)).toNat (0 :
     Int)))).reverse (0 : Nat) (0 : Int) (fl.getD ((↑((2 : Nat) * i) : Int) + (1 : Int)).toNat (0 : Int))])])]) :=
  Eq.trans (b :=
     bif decide ((↑((2 : Nat) * i) : Int) < (↑((2 : Nat) * k) : Int)) then bif decide ((0 : Int) ≤ (↑((2 : Nat) * i) : Int)) && decide ((↑((2 : Nat) * i) : Int) < (↑((2 : Nat) * k) : Int)) then bif ((0 :
     Nat) + (↑((2 : Nat) * i) : Int).toNat * (1 : Nat)).blt ((2 : Nat) * k) then bif decide ((0 : Int) ≤ IntKind.i64.wrap ((↑((2 : Nat) * i) : Int) + (1 : Int))) && decide (IntKind.i64.wrap ((↑((2 : Nat) *
     i) : Int) + (1 : Int)) < (↑((2 : Nat) * k) : Int)) then bif ((0 : Nat) + (IntKind.i64.wrap ((↑((2 : Nat) * i) : Int) + (1 : Int))).toNat * (1 : Nat)).blt ((2 : Nat) * k) then bif chk ((-4 : Int) ≤
     fl.getD ((0 : Nat) + (IntKind.i64.wrap ((↑((2 : Nat) * i) : Int) + (1 : Int))).toNat * (1 : Nat)) (0 : Int) ∧ fl.getD ((0 : Nat) + (IntKind.i64.wrap ((↑((2 : Nat) * i) : Int) + (1 : Int))).toNat * (1
     : Nat)) (0 : Int) ≤ (4 : Int) ∧ fl.getD ((0 : Nat) + (IntKind.i64.wrap ((↑((2 : Nat) * i) : Int) + (1 : Int))).toNat * (1 : Nat)) (0 : Int) ≠ (0 : Int) ∧ (0 : Int) ≤ fl.getD ((0 : Nat) + (↑((2 : Nat)
     * i) : Int).toNat * (1 : Nat)) (0 : Int) ∧ fl.getD ((0 : Nat) + (↑((2 : Nat) * i) : Int).toNat * (1 : Nat)) (0 : Int) + manyI (fl.getD ((0 : Nat) + (IntKind.i64.wrap ((↑((2 : Nat) * i) : Int) + (1 :
     Int))).toNat * (1 : Nat)) (0 : Int)) ≤ (↑n : Int) ∧ o + n ≤ N ∧ N ≤ (1000000 : Nat)) then bif decide ((0 : Int) ≤ IntKind.i64.wrap ((↑((2 : Nat) * i) : Int) + (1 : Int))) && decide (IntKind.i64.wrap
     ((↑((2 : Nat) * i) : Int) + (1 : Int)) < (↑((2 : Nat) * k) : Int)) then bif ((0 : Nat) + (IntKind.i64.wrap ((↑((2 : Nat) * i) : Int) + (1 : Int))).toNat * (1 : Nat)).blt ((2 : Nat) * k) then bif chk
     ((-4 : Int) ≤ fl.getD ((0 : Nat) + (IntKind.i64.wrap ((↑((2 : Nat) * i) : Int) + (1 : Int))).toNat * (1 : Nat)) (0 : Int) ∧ fl.getD ((0 : Nat) + (IntKind.i64.wrap ((↑((2 : Nat) * i) : Int) + (1 :
     Int))).toNat * (1 : Nat)) (0 : Int) ≤ (4 : Int) ∧ fl.getD ((0 : Nat) + (IntKind.i64.wrap ((↑((2 : Nat) * i) : Int) + (1 : Int))).toNat * (1 : Nat)) (0 : Int) ≠ (0 : Int) ∧ (0 : Int) ≤ (0 : Int) ∧ (0 :
     Int) + manyI (fl.getD ((0 : Nat) + (IntKind.i64.wrap ((↑((2 : Nat) * i) : Int) + (1 : Int))).toNat * (1 : Nat)) (0 : Int)) ≤ (↑(manyI (fl.getD ((0 : Nat) + (IntKind.i64.wrap ((↑((2 : Nat) * i) : Int)
     + (1 : Int))).toNat * (1 : Nat)) (0 : Int))).toNat : Int) ∧ (0 : Nat) + (manyI (fl.getD ((0 : Nat) + (IntKind.i64.wrap ((↑((2 : Nat) * i) : Int) + (1 : Int))).toNat * (1 : Nat)) (0 : Int))).toNat ≤
     (manyI (fl.getD ((0 : Nat) + (IntKind.i64.wrap ((↑((2 : Nat) * i) : Int) + (1 : Int))).toNat * (1 : Nat)) (0 : Int))).toNat ∧ (manyI (fl.getD ((0 : Nat) + (IntKind.i64.wrap ((↑((2 : Nat) * i) : Int) +
     (1 : Int))).toNat * (1 : Nat)) (0 : Int))).toNat ≤ (1000000 : Nat)) then bif (i * (1 : Nat)).ble i then bif decide ((i + (1 : Nat)) * (8 : Nat) ≤ (140737488355328 : Nat)) && (i + (1 : Nat)).ble
     (OfNat.ofNat (4611686018427387904 : Nat)) then bif ((0 : Nat) + i * (1 : Nat)).beq i && true then on [Value.slice (some (Addr.mk (0 : Nat) o none)) n c, Value.pointer (some (Addr.mk (1 : Nat) (0 :
     Nat) none)), Value.int IntKind.i64 (0 : Int), Value.slice (some (Addr.mk (2 : Nat) (0 : Nat) none)) ((2 : Nat) * k) (0 : Nat), Value.pointer (some (Addr.mk (3 : Nat) (0 : Nat) none)), Value.int
     IntKind.i64 (IntKind.i64.wrap ((↑((2 : Nat) * i) : Int) + (2 : Int)))] [some (Blk.mk false (1 : Nat) [Seg.ints IntKind.u8 N xs]), some (Blk.mk true (2 : Nat) [Seg.ints IntKind.u8 (1 : Nat) [(0 :
     Int)], Seg.vals [Value.slice none (0 : Nat) (0 : Nat)]]), some (Blk.mk true (1 : Nat) [Seg.ints IntKind.i64 ((2 : Nat) * k) fl]), some (Blk.mk true (2 : Nat) [Seg.ints IntKind.u8 (1 : Nat) [x],
     Seg.vals [Value.slice (some (Addr.mk (4 : Nat) (0 : Nat) none)) (i + (1 : Nat)) (1 : Nat)]]), some (Blk.mk true (1 : Nat) [Seg.ints IntKind.i64 (i * (1 : Nat) + (1 : Nat)) (List.take (i * (1 : Nat))
     vs ++ List.take (1 : Nat) [getL (fldB xs o (fl.getD ((0 : Nat) + (↑((2 : Nat) * i) : Int).toNat * (1 : Nat)) (0 : Int)) (manyI (fl.getD ((0 : Nat) + (IntKind.i64.wrap ((↑((2 : Nat) * i) : Int) + (1 :
     Int))).toNat * (1 : Nat)) (0 : Int)))).reverse (0 : Nat) (0 : Int) (fl.getD ((0 : Nat) + (IntKind.i64.wrap ((↑((2 : Nat) * i) : Int) + (1 : Int))).toNat * (1 : Nat)) (0 : Int))])])] else none else
     none else none else none else none else none else none else none else none else none else none else none) (by kernel_rfl) (by simp only [-eq_self, Int.toNat_natCast, Nat.mul_one, Nat.zero_add, swrap w1.1 w1.2, swrap w2.1 w2.2]; exact (go_t (dec_t h1) (go_t (and_t (dec_t h2) (dec_t h1)) (go_t (blt_t h3) (go_t (and_t (dec_t h4) (dec_t h5)) (go_t (blt_t h6) (go_t (chk_t h7) (go_t (and_t (dec_t h4) (dec_t h5)) (go_t (blt_t h6) (go_t (chk_t h8) (go_t (ble_t h9) (go_t (and_t (dec_t h10) (ble_t h11)) (go_t (and_t (beq_t h12) rfl) rfl)))))))))))))
--CFEND
--CP pDrR0 (x : Int) (o n c k N : Nat) (xs fl : List Int) (on : List Value → Heap → Out) (out : Exit → List Value → Heap → Out) :: roundK Try.prog (SDecR.on [(34, true)]) noL Try.f25.ntmps 1 (loopOf Try.f25 0) liveDecR [slo 0 o n c, pt 1, w63 0, sl 2 (2 * k) 0, pt 3, w63 0] [rU N xs, uS 0 (.slice none 0 0), oI (2 * k) fl, uS x (.slice none 0 0)] on out
theorem pDrR0 (x : Int) (o n c k N : Nat) (xs fl : List Int) (on : List Value → Heap → Out) (out : Exit → List Value → Heap → Out)
    (h1 : (0 : Int) < (↑((2 : Nat) * k) : Int) := by first | omega | assumption | rfl)
    (h2 : (0 : Nat) < (2 : Nat) * k := by first | omega | assumption | rfl)
    (h3 : (1 : Int) < (↑((2 : Nat) * k) : Int) := by first | omega | assumption | rfl)
    (h4 : (1 : Nat) < (2 : Nat) * k := by first | omega | assumption | rfl)
    (h5 : (-4 : Int) ≤ fl.getD (1 : Nat) (0 : Int) ∧ fl.getD (1 : Nat) (0 : Int) ≤ (4 : Int) ∧ fl.getD (1 : Nat) (0 : Int) ≠ (0 : Int) ∧ (0 : Int) ≤ fl.getD (0 : Nat) (0 : Int) ∧ fl.getD (0 : Nat) (0 : Int) + manyI (fl.getD (1 : Nat) (0 : Int)) ≤ (↑n : Int) ∧ o + n ≤ N ∧ N ≤ (1000000 : Nat) := by first | omega | assumption | rfl | ((repeat' with_reducible apply And.intro) <;> first | rfl | assumption | omega))
    (h6 : (-4 : Int) ≤ fl.getD (1 : Nat) (0 : Int) ∧ fl.getD (1 : Nat) (0 : Int) ≤ (4 : Int) ∧ fl.getD (1 : Nat) (0 : Int) ≠ (0 : Int) ∧ (0 : Int) ≤ (0 : Int) ∧ (0 : Int) + manyI (fl.getD (1 : Nat) (0 : Int)) ≤ (↑(manyI (fl.getD (1 : Nat) (0 : Int))).toNat : Int) ∧ (manyI (fl.getD (1 : Nat) (0 : Int))).toNat ≤ (manyI (fl.getD (1 : Nat) (0 : Int))).toNat ∧ (manyI (fl.getD (1 : Nat) (0 : Int))).toNat ≤ (1000000 : Nat) := by first | omega | assumption | rfl | ((repeat' with_reducible apply And.intro) <;> first | rfl | assumption | omega)) : roundK Try.prog (SDecR.on [(34, true)]) noL Try.f25.ntmps 1 (loopOf Try.f25 0) liveDecR [slo 0 o n c, pt 1, w63 0, sl 2 (2 * k) 0, pt 3, w63 0] [rU N xs, uS 0 (.slice none 0 0), oI (2 * k) fl, uS x (.slice none 0 0)] on out =
     (on [Value.slice (some (Addr.mk (0 : Nat) o none)) n c, Value.pointer (some (Addr.mk (1 : Nat) (0 : Nat) none)), Value.int IntKind.i64 (0 : Int), Value.slice (some (Addr.mk (2 : Nat) (0 : Nat) none))
     ((2 : Nat) * k) (0 : Nat), Value.pointer (some (Addr.mk (3 : Nat) (0 : Nat) none)), Value.int IntKind.i64 (2 : Int)] [some (Blk.mk false (1 : Nat) [Seg.ints IntKind.u8 N xs]), some (Blk.mk true (2 :
     Nat) [Seg.ints IntKind.u8 (1 : Nat) [(0 : Int)], Seg.vals [Value.slice none (0 : Nat) (0 : Nat)]]), some (Blk.mk true (1 : Nat) [Seg.ints IntKind.i64 ((2 : Nat) * k) fl]), some (Blk.mk true (2 : Nat)
     [Seg.ints IntKind.u8 (1 : Nat) [x], Seg.vals [Value.slice (some (Addr.mk (4 : Nat) (0 : Nat) none)) (1 : Nat) (1 : Nat)]]), some (Blk.mk true (1 : Nat) [Seg.ints IntKind.i64 (1 : Nat) (List.take (1 :
     Nat) [getL (fldB xs o (fl.getD (0 : Nat) (0 : Int)) (manyI (fl.getD (1 : Nat) (0 : Int)))).reverse (0 : Nat) (0 : Int) (fl.getD (1 : Nat) (0 : Int))])])]) :=
  Eq.trans (b :=
     bif decide ((0 : Int) < (↑((2 : Nat) * k) : Int)) then bif decide ((0 : Int) < (↑((2 : Nat) * k) : Int)) then bif Nat.blt (0 : Nat) ((2 : Nat) * k) then bif decide ((1 : Int) < (↑((2 : Nat) * k) :
     Int)) then bif Nat.blt (1 : Nat) ((2 : Nat) * k) then bif chk ((-4 : Int) ≤ fl.getD (1 : Nat) (0 : Int) ∧ fl.getD (1 : Nat) (0 : Int) ≤ (4 : Int) ∧ fl.getD (1 : Nat) (0 : Int) ≠ (0 : Int) ∧ (0 : Int)
     ≤ fl.getD (0 : Nat) (0 : Int) ∧ fl.getD (0 : Nat) (0 : Int) + manyI (fl.getD (1 : Nat) (0 : Int)) ≤ (↑n : Int) ∧ o + n ≤ N ∧ N ≤ (1000000 : Nat)) then bif decide ((1 : Int) < (↑((2 : Nat) * k) : Int))
     then bif Nat.blt (1 : Nat) ((2 : Nat) * k) then bif chk ((-4 : Int) ≤ fl.getD (1 : Nat) (0 : Int) ∧ fl.getD (1 : Nat) (0 : Int) ≤ (4 : Int) ∧ fl.getD (1 : Nat) (0 : Int) ≠ (0 : Int) ∧ (0 : Int) ≤ (0 :
     Int) ∧ (0 : Int) + manyI (fl.getD (1 : Nat) (0 : Int)) ≤ (↑(manyI (fl.getD (1 : Nat) (0 : Int))).toNat : Int) ∧ (0 : Nat) + (manyI (fl.getD (1 : Nat) (0 : Int))).toNat ≤ (manyI (fl.getD (1 : Nat) (0 :
     Int))).toNat ∧ (manyI (fl.getD (1 : Nat) (0 : Int))).toNat ≤ (1000000 : Nat)) then on [Value.slice (some (Addr.mk (0 : Nat) o none)) n c, Value.pointer (some (Addr.mk (1 : Nat) (0 : Nat) none)),
     Value.int IntKind.i64 (0 : Int), Value.slice (some (Addr.mk (2 : Nat) (0 : Nat) none)) ((2 : Nat) * k) (0 : Nat), Value.pointer (some (Addr.mk (3 : Nat) (0 : Nat) none)), Value.int IntKind.i64 (2 :
     Int)] [some (Blk.mk false (1 : Nat) [Seg.ints IntKind.u8 N xs]), some (Blk.mk true (2 : Nat) [Seg.ints IntKind.u8 (1 : Nat) [(0 : Int)], Seg.vals [Value.slice none (0 : Nat) (0 : Nat)]]), some (Blk.mk
     true (1 : Nat) [Seg.ints IntKind.i64 ((2 : Nat) * k) fl]), some (Blk.mk true (2 : Nat) [Seg.ints IntKind.u8 (1 : Nat) [x], Seg.vals [Value.slice (some (Addr.mk (4 : Nat) (0 : Nat) none)) (1 : Nat) (1
     : Nat)]]), some (Blk.mk true (1 : Nat) [Seg.ints IntKind.i64 (1 : Nat) (List.take (1 : Nat) [getL (fldB xs o (fl.getD (0 : Nat) (0 : Int)) (manyI (fl.getD (1 : Nat) (0 : Int)))).reverse (0 : Nat) (0 :
     Int) (fl.getD (1 : Nat) (0 : Int))])])] else none else none else none else none else none else none else none else none else none) (by kernel_rfl) (by simp only [-eq_self, Nat.zero_add]; exact (go_t (dec_t h1) (go_t (dec_t h1) (go_t (blt_t h2) (go_t (dec_t h3) (go_t (blt_t h4) (go_t (chk_t h5) (go_t (dec_t h3) (go_t (blt_t h4) (go_t (chk_t h6) rfl))))))))))
--CFEND
--CP pDrX (x : Int) (o n c i k N : Nat) (xs vs fl : List Int) (on : List Value → Heap → Out) (out : Exit → List Value → Heap → Out) :: roundK Try.prog (SDecR.on [(34, false)]) noL Try.f25.ntmps 1 (loopOf Try.f25 0) liveDecR [slo 0 o n c, pt 1, w63 0, sl 2 (2 * k) 0, pt 3, w63 ((2 * i : Nat) : Int)] [rU N xs, uS 0 (.slice none 0 0), oI (2 * k) fl, uS x (sl 4 i 1), oI i vs] on out
theorem pDrX (x : Int) (o n c i k N : Nat) (xs vs fl : List Int) (on : List Value → Heap → Out) (out : Exit → List Value → Heap → Out)
    (h1 : ¬(↑((2 : Nat) * i) : Int) < (↑((2 : Nat) * k) : Int) := by first | omega | assumption | rfl) : roundK Try.prog (SDecR.on [(34, false)]) noL Try.f25.ntmps 1 (loopOf Try.f25 0) liveDecR [slo 0 o n c, pt 1, w63 0, sl 2 (2 * k) 0, pt 3, w63 ((2 * i : Nat) : Int)] [rU N xs, uS 0 (.slice none 0 0), oI (2 * k) fl, uS x (sl 4 i 1), oI i vs] on out =
     (out (Exit.exit (0 : Nat)) [Value.slice (some (Addr.mk (0 : Nat) o none)) n c, Value.pointer (some (Addr.mk (1 : Nat) (0 : Nat) none)), Value.int IntKind.i64 (0 : Int), Value.slice (some (Addr.mk (2 :
     Nat) (0 : Nat) none)) ((2 : Nat) * k) (0 : Nat), Value.pointer (some (Addr.mk (3 : Nat) (0 : Nat) none)), Value.int IntKind.i64 (↑((2 : Nat) * i) : Int)] [some (Blk.mk false (1 : Nat) [Seg.ints
     IntKind.u8 N xs]), some (Blk.mk true (2 : Nat) [Seg.ints IntKind.u8 (1 : Nat) [(0 : Int)], Seg.vals [Value.slice none (0 : Nat) (0 : Nat)]]), some (Blk.mk true (1 : Nat) [Seg.ints IntKind.i64 ((2 :
     Nat) * k) fl]), some (Blk.mk true (2 : Nat) [Seg.ints IntKind.u8 (1 : Nat) [x], Seg.vals [Value.slice (some (Addr.mk (4 : Nat) (0 : Nat) none)) i (1 : Nat)]]), some (Blk.mk true (1 : Nat) [Seg.ints
     IntKind.i64 i vs])]) :=
  Eq.trans (by kernel_rfl) (go_f (dec_f h1) rfl)
--CFEND
noncomputable def LDrf : LF := fun vs h k => match vs, h with
  | [.slice (some ⟨0, o, none⟩) n c, .pointer (some ⟨1, 0, none⟩), .int .i64 0, .slice (some ⟨2, 0, none⟩) q 0, .pointer (some ⟨3, 0, none⟩), .int .i64 0], [some ⟨false, 1, [.ints .u8 N xs]⟩, some ⟨true, 2, [.ints .u8 1 [0], .vals [.slice none 0 0]]⟩, some ⟨true, 1, [.ints .i64 Q fl]⟩, some ⟨true, 2, [.ints .u8 1 [x], .vals [.slice none 0 0]]⟩] =>
    bif chk (Q = q ∧ 2 * (q / 2) = q ∧ 0 < q / 2 ∧ q / 2 ≤ 100 ∧ fldsOK n fl (q / 2) ∧ o + n ≤ N ∧ N ≤ 1000000) then
      k (.exit 0) [slo 0 o n c, pt 1, w63 0, sl 2 q 0, pt 3, w63 q] [rU N xs, uS 0 (.slice none 0 0), oI q fl, uS x (sl 4 (q / 2) 1), oI (q / 2) (decV xs o fl (q / 2))] else none
  | _, _ => none
noncomputable def LDr : LSpec := oneL 10 liveDecR LDrf
noncomputable def SDecRv (len : Nat) (fl : List Int) : Spec := mkS [(31, false, FLayRv len fl)]
noncomputable def SDecRn : Spec := mkS [(31, false, FLayRn)]
--CP pDr0 (o c N : Nat) (xs : List Int) :: fnK Try.prog ((mkS []).on [(10, true)]) LDr Try.f25 [slo 0 o 0 c] [rU N xs]
theorem pDr0 (o c N : Nat) (xs : List Int) : fnK Try.prog ((mkS []).on [(10, true)]) LDr Try.f25 [slo 0 o 0 c] [rU N xs] =
     (some (Res.ret (Value.tuple (Array.mk [Value.agg (Array.mk [Value.int IntKind.u8 (0 : Int), Value.slice none (0 : Nat) (0 : Nat)]), Value.int IntKind.i64 (4 : Int)])) [some (Blk.mk false (1 : Nat)
     [Seg.ints IntKind.u8 N xs])])) :=
  Eq.trans (by kernel_rfl) rfl
--CFEND
--CP pDrN (o n c N : Nat) (xs : List Int) :: fnK Try.prog (SDecRn.on [(10, false), (20, true)]) LDr Try.f25 [slo 0 o n c] [rU N xs]
theorem pDrN (o n c N : Nat) (xs : List Int)
    (h1 : (↑n : Int) ≠ (0 : Int) := by first | omega | assumption | rfl)
    (h2 : (0 : Int) < (↑n : Int) := by first | omega | assumption | rfl)
    (h3 : o < N := by first | omega | assumption | rfl)
    (h4 : layS (xs.getD o (0 : Int)) = none := by first | omega | assumption | rfl) : fnK Try.prog (SDecRn.on [(10, false), (20, true)]) LDr Try.f25 [slo 0 o n c] [rU N xs] =
     (some (Res.ret (Value.tuple (Array.mk [Value.agg (Array.mk [Value.int IntKind.u8 (0 : Int), Value.slice none (0 : Nat) (0 : Nat)]), Value.int IntKind.i64 (7 : Int)])) [some (Blk.mk false (1 : Nat)
     [Seg.ints IntKind.u8 N xs])])) :=
  Eq.trans (by kernel_rfl) (go_f (eqb_f h1) (go_t (dec_t h2) (go_t (blt_t h3) (go_t (chk_t h4) rfl))))
--CFEND
--CP pDrF (o n c N len : Nat) (xs fl : List Int) :: fnK Try.prog ((SDecRv len fl).on [(10, false), (20, false), (25, true)]) LDr Try.f25 [slo 0 o n c] [rU N xs]
theorem pDrF (o n c N len : Nat) (xs fl : List Int)
    (h1 : (↑n : Int) ≠ (0 : Int) := by first | omega | assumption | rfl)
    (h2 : (0 : Int) < (↑n : Int) := by first | omega | assumption | rfl)
    (h3 : o < N := by first | omega | assumption | rfl)
    (h4 : layS (xs.getD o (0 : Int)) = some (len, fl) := by first | omega | assumption | rfl)
    (h5 : (↑len : Int) ≠ (0 : Int) := by first | omega | assumption | rfl)
    (h6 : (↑n : Int) ≠ (↑len : Int) := by first | omega | assumption | rfl) : fnK Try.prog ((SDecRv len fl).on [(10, false), (20, false), (25, true)]) LDr Try.f25 [slo 0 o n c] [rU N xs] =
     (some (Res.ret (Value.tuple (Array.mk [Value.agg (Array.mk [Value.int IntKind.u8 (0 : Int), Value.slice none (0 : Nat) (0 : Nat)]), Value.int IntKind.i64 (5 : Int)])) [some (Blk.mk false (1 : Nat)
     [Seg.ints IntKind.u8 N xs])])) :=
  Eq.trans (by kernel_rfl) (go_f (eqb_f h1) (go_t (dec_t h2) (go_t (blt_t h3) (go_t (chk_t h4) (go_f (eqb_f h5) (go_t (bne_t h6) rfl))))))
--CFEND
--CP pDrK (o n c N len : Nat) (xs fl : List Int) :: fnK Try.prog ((SDecRv len fl).on [(10, false), (20, false), (25, false)]) LDr Try.f25 [slo 0 o n c] [rU N xs]
theorem pDrK (o n c N len : Nat) (xs fl : List Int)
    (h1 : (↑n : Int) ≠ (0 : Int) := by first | omega | assumption | rfl)
    (h2 : (0 : Int) < (↑n : Int) := by first | omega | assumption | rfl)
    (h3 : o < N := by first | omega | assumption | rfl)
    (h4 : layS (xs.getD o (0 : Int)) = some (len, fl) := by first | omega | assumption | rfl)
    (h5 : (↑len : Int) ≠ (0 : Int) := by first | omega | assumption | rfl)
    (h6 : (↑n : Int) = (↑len : Int) := by first | omega | assumption | rfl)
    (h7 : fl.length = fl.length ∧ (2 : Nat) * (fl.length / (2 : Nat)) = fl.length ∧ (0 : Nat) < fl.length / (2 : Nat) ∧ fl.length / (2 : Nat) ≤ (100 : Nat) ∧ fldsOK n fl (fl.length / (2 : Nat)) ∧ o + n ≤ N ∧ N ≤ (1000000 : Nat) := by first | omega | assumption | rfl | ((repeat' with_reducible apply And.intro) <;> first | rfl | assumption | omega)) : fnK Try.prog ((SDecRv len fl).on [(10, false), (20, false), (25, false)]) LDr Try.f25 [slo 0 o n c] [rU N xs] =
     (some (Res.ret (Value.tuple (Array.mk [Value.agg (Array.mk [Value.int IntKind.u8 (xs.getD o (0 : Int)), Value.slice (some (Addr.mk (1 : Nat) (0 : Nat) none)) (fl.length / (2 : Nat)) (1 : Nat)]),
     Value.int IntKind.i64 (0 : Int)])) [some (Blk.mk false (1 : Nat) [Seg.ints IntKind.u8 N xs]), some (Blk.mk true (1 : Nat) [Seg.ints IntKind.i64 (fl.length / (2 : Nat)) (decV xs o fl (fl.length / (2 :
     Nat)))])])) :=
  Eq.trans (by kernel_rfl) (go_f (eqb_f h1) (go_t (dec_t h2) (go_t (blt_t h3) (go_t (chk_t h4) (go_f (eqb_f h5) (go_f (bne_f h6) (go_t (dec_t h2) (go_t (blt_t h3) (go_t (chk_t h7) rfl)))))))))
--CFEND
end Go.Proofs.Ytcjjngdkkihgjaa.VC

/- sirf, the document's: Decode: what it is. -/
namespace Go.Proofs.Ytcjjngdkkihgjaa.VC
open Go Go.Proofs

theorem getL_rev {xs : List Int} {o : Nat} {a s : Int} (hl : (fldB xs o a (manyI s)).length = (manyI s).toNat) : getL (fldB xs o a (manyI s)).reverse 0 0 s = getV xs o a s := by
  have e : fldB (fldB xs o a (manyI s)).reverse 0 0 (manyI s) = (fldB xs o a (manyI s)).reverse := by
    generalize hg : fldB xs o a (manyI s) = l at hl ⊢
    unfold fldB
    rw [show 0 + Int.toNat 0 = 0 from rfl, List.drop_zero, List.take_of_length_le (by rw [List.length_reverse]; omega)]
  unfold getL getV
  rw [e, valL_rev]
theorem okLayRv (len : Nat) (fl : List Int) : EntryOK Try.prog 31 (FLayRv len fl) := okLayR.mono fun args h k out hF => by
  unfold FLayRv at hF
  split at hF
  · obtain ⟨hb, hF⟩ := bif_t hF
    unfold FLayR
    simp only [chk_iff.1 hb]
    exact hF
  · cases hF
theorem okLayRn : EntryOK Try.prog 31 FLayRn := okLayR.mono fun args h k out hF => by
  unfold FLayRn at hF
  split at hF
  · obtain ⟨hb, hF⟩ := bif_t hF
    unfold FLayR
    simp only [chk_iff.1 hb]
    exact hF
  · cases hF
theorem SDecR_ok : SpecOK Try.prog SDecR := mkS_cons okTrn (mkS_cons okGetR (mkS_nil _))
theorem getR_ok {s : Int} {m : Nat} (hm : m = (manyI s).toNat) (h : -4 ≤ s ∧ s ≤ 4) (h0 : s ≠ 0) : -4 ≤ s ∧ s ≤ 4 ∧ s ≠ 0 ∧ (0 : Int) ≤ 0 ∧ 0 + manyI s ≤ m ∧ m ≤ m ∧ m ≤ 1000000 := by
  have := manyI_rng h
  exact ⟨h.1, h.2, h0, Int.le_refl _, by omega, by omega, by omega⟩
theorem loopDr {x : Int} {o n c q N : Nat} {xs fl : List Int} (hq : q ≤ 100) (hf : fldsOK n fl q) (ho : o + n ≤ N) (hN : N ≤ 1000000) (hl : xs.length = N) : ∀ (r i : Nat), i + r = q → 1 ≤ i →
    LoopT Try.prog Try.f25.ntmps 1 (loopOf Try.f25 0) (zipS liveDecR [slo 0 o n c, pt 1, w63 0, sl 2 (2 * q) 0, pt 3, w63 ((2 * i : Nat) : Int)]) [rU N xs, uS 0 (.slice none 0 0), oI (2 * q) fl, uS x (sl 4 i 1), oI i (decV xs o fl i)] (.exit 0)
      (zipS liveDecR [slo 0 o n c, pt 1, w63 0, sl 2 (2 * q) 0, pt 3, w63 ((2 * q : Nat) : Int)]) [rU N xs, uS 0 (.slice none 0 0), oI (2 * q) fl, uS x (sl 4 q 1), oI q (decV xs o fl q)] := by
  intro r
  induction r with
  | zero =>
    intro i hi _
    obtain rfl : i = q := by omega
    exact LoopT.last (by intro h; cases h) (CodeT.out (SDecR_ok.on _) noL_ok fun on out => pDrX x o n c i i N xs _ fl on out)
  | succ r ih =>
    intro i hi h1
    obtain ⟨f1, f2, f3, f4, f5⟩ := hf i (by omega)
    have e1 : (((2 * i : Nat) : Int) + 1).toNat = i * 2 + 1 := by omega
    have e2 : 2 * i = i * 2 := by omega
    have hm := manyI_rng ⟨f1, f2⟩
    have hlen := fld_len (xs := xs) (o := o) (a := fl.getD (i * 2) 0) (m := manyI (fl.getD (i * 2 + 1) 0)) hl (by omega)
    refine LoopT.step (CodeT.on (live := liveDecR) (vs1 := [slo 0 o n c, pt 1, w63 0, sl 2 (2 * q) 0, pt 3, w63 ((2 * (i + 1) : Nat) : Int)]) (h1 := [rU N xs, uS 0 (.slice none 0 0), oI (2 * q) fl, uS x (sl 4 (i + 1) 1), oI (i + 1) (decV xs o fl (i + 1))]) (SDecR_ok.on [(34, true)]) noL_ok fun on out => ?_) (ih (i + 1) (by omega) (by omega))
    refine (pDrR x o n c i q N xs _ fl on out (h7 := by rw [e1, e2]; exact ⟨f1, f2, f3, f4, f5, ho, hN⟩) (h8 := by rw [e1]; exact getR_ok rfl ⟨f1, f2⟩ f3)).trans ?_
    rw [e1, e2, List.take_of_length_le (by rw [decV_len]; exact Nat.le_refl _), getL_rev hlen, show ((2 * (i + 1) : Nat) : Int) = ((i * 2 : Nat) : Int) + 2 by omega]
    rfl
theorem loopOKDr : LoopOK Try.prog Try.f25.ntmps 1 (loopOf Try.f25 0) liveDecR LDrf := by
  refine LoopOK.of_T ?_
  intro vs h k out hk
  unfold LDrf at hk
  split at hk
  · rename_i o n c q N xs Q fl x
    obtain ⟨hb, hk2⟩ := bif_t hk
    obtain ⟨rfl, h2, h3, h4, h5, h6, h7⟩ := chk_iff.1 hb
    refine ⟨_, _, _, hk2, fun real => ?_⟩
    have hs := real.segs (i := 0) rfl rfl _ (List.mem_cons_self ..)
    generalize hq : Q / 2 = q at h2 h3 h4 h5
    subst h2
    obtain ⟨f1, f2, f3, f4, f5⟩ := h5 0 h3
    have hm := manyI_rng ⟨f1, f2⟩
    have hlen := fld_len (xs := xs) (o := o) (a := fl.getD 0 0) (m := manyI (fl.getD 1 0)) hs.1 (by simp only [Nat.zero_mul, Nat.zero_add] at f4 f5 hm; omega)
    refine LoopT.step (CodeT.on (live := liveDecR) (vs1 := [slo 0 o n c, pt 1, w63 0, sl 2 (2 * q) 0, pt 3, w63 ((2 * 1 : Nat) : Int)]) (h1 := [rU N xs, uS 0 (.slice none 0 0), oI (2 * q) fl, uS x (sl 4 1 1), oI 1 (decV xs o fl 1)]) (SDecR_ok.on [(34, true)]) noL_ok fun on out => ?_) (loopDr h4 h5 h6 h7 hs.1 (q - 1) 1 (by omega) (by omega))
    refine (pDrR0 x o n c q N xs fl on out (h5 := ⟨f1, f2, f3, f4, f5, h6, h7⟩) (h6 := getR_ok rfl ⟨f1, f2⟩ f3)).trans ?_
    have e := getL_rev hlen
    rw [e]
    rfl
  · cases hk
theorem loopsDr : LoopsOK Try.prog LDr Try.f25.ntmps 1 (bodyOf Try.f25) := loops_one rfl (by kernel_rfl) loopOKDr
theorem layS_ok {x : Int} {len : Nat} {fl : List Int} (h : layS x = some (len, fl)) : len ≠ 0 ∧ 2 * (fl.length / 2) = fl.length ∧ 0 < fl.length / 2 ∧ fl.length / 2 ≤ 100 ∧ fldsOK len fl (fl.length / 2) ∧ len ≤ 200 := by
  rcases layS_cases h with e | e | e | e | e | e | e | e <;>
  · subst e
    cases h
    exact ⟨by decide, by decide, by decide, by decide, by unfold fldsOK; decide, by decide⟩
theorem okDecR : EntryOK Try.prog 25 FDecS := by
  refine EntryOK.of_paths (fn := Try.f25) follows_ok Try.func25 (by kernel_rfl) (by kernel_rfl) ?_
  intro args h k out hF
  unfold FDecS at hF
  split at hF
  · rename_i o n c N xs
    obtain ⟨hb, hF2⟩ := bif_t hF
    obtain ⟨h1, h2⟩ := chk_iff.1 hb
    split at hF2
    · rename_i hn
      obtain rfl := of_decide_eq_true hn
      exact ⟨_, _, hF2, fun _ => ⟨_, LDr, mk0.on _, loopsDr, pDr0 o c N xs⟩⟩
    · rename_i hn hl
      have hn := of_decide_eq_false hn
      exact ⟨_, _, hF2, fun _ => ⟨_, LDr, SpecOK.on (mkS_cons okLayRn (mkS_nil _)) _, loopsDr, pDrN o n c N xs⟩⟩
    · rename_i len fl hn hl
      have hn := of_decide_eq_false hn
      obtain ⟨g1, g2, g3, g4, g5, g6⟩ := layS_ok hl
      split at hF2
      · rename_i hlen
        have hlen := of_decide_eq_false hlen
        exact ⟨_, _, hF2, fun _ => ⟨_, LDr, SpecOK.on (mkS_cons (okLayRv len fl) (mkS_nil _)) _, loopsDr, pDrF o n c N len xs fl⟩⟩
      · rename_i hlen
        obtain rfl := of_decide_eq_true hlen
        exact ⟨_, _, hF2, fun _ => ⟨_, LDr, SpecOK.on (mkS_cons (okLayRv n fl) (mkS_nil _)) _, loopsDr, pDrK o n c N n xs fl (h7 := ⟨rfl, g2, g3, g4, g5, h1, h2⟩)⟩⟩
  · cases hF
end Go.Proofs.Ytcjjngdkkihgjaa.VC

/- The document's Same: closed forms. -/
namespace Go.Proofs.Ytcjjngdkkihgjaa.VC
open Go Go.Proofs

abbrev uB (a b : Int) (v : Value) : Option Blk := some ⟨true, 3, [.ints .u8 2 [a, b], .vals [v]]⟩
def liveSame : List Nat := [2, 3, 4, 5]
--CP pSmR (a b a' b' : Int) (n m c c' i : Nat) (xs ys : List Int) (on : List Value → Heap → Out) (out : Exit → List Value → Heap → Out) :: roundK Try.prog ((mkS []).on [(31, true), (44, false)]) noL Try.f17.ntmps 2 (loopOf Try.f17 0) liveSame [pt 2, pt 3, .bool false, w63 i] [rI n xs, rI m ys, uB a b (sl 0 n c), uB a' b' (sl 1 m c')] on out
theorem pSmR (a b a' b' : Int) (n m c c' i : Nat) (xs ys : List Int) (on : List Value → Heap → Out) (out : Exit → List Value → Heap → Out)
    (w1 : -9223372036854775808 ≤ (↑i : Int) + (1 : Int) ∧ (↑i : Int) + (1 : Int) ≤ 9223372036854775807 := by omega)
    (h1 : (↑i : Int) < (↑n : Int) := by first | omega | assumption | rfl)
    (h2 : (0 : Int) ≤ (↑i : Int) := by first | omega | assumption | rfl)
    (h3 : i < n := by first | omega | assumption | rfl)
    (h4 : (↑i : Int) < (↑m : Int) := by first | omega | assumption | rfl)
    (h5 : i < m := by first | omega | assumption | rfl)
    (h6 : xs.getD i (0 : Int) = ys.getD i (0 : Int) := by first | omega | assumption | rfl) : roundK Try.prog ((mkS []).on [(31, true), (44, false)]) noL Try.f17.ntmps 2 (loopOf Try.f17 0) liveSame [pt 2, pt 3, .bool false, w63 i] [rI n xs, rI m ys, uB a b (sl 0 n c), uB a' b' (sl 1 m c')] on out =
     (on [Value.pointer (some (Addr.mk (2 : Nat) (0 : Nat) none)), Value.pointer (some (Addr.mk (3 : Nat) (0 : Nat) none)), Value.bool false, Value.int IntKind.i64 ((↑i : Int) + (1 : Int))] [some (Blk.mk
     false (1 : Nat) [Seg.ints IntKind.i64 n xs]), some (Blk.mk false (1 : Nat) [Seg.ints IntKind.i64 m ys]), some (Blk.mk true (3 : Nat) [Seg.ints IntKind.u8 (2 : Nat) [a, b], Seg.vals [Value.slice (some
     (Addr.mk (0 : Nat) (0 : Nat) none)) n c]]), some (Blk.mk true (3 : Nat) [Seg.ints IntKind.u8 (2 : Nat) [a', b'], Seg.vals [Value.slice (some (Addr.mk (1 : Nat) (0 : Nat) none)) m c']])]) :=
  Eq.trans (b :=
     bif decide ((↑i : Int) < (↑n : Int)) then bif decide ((0 : Int) ≤ (↑i : Int)) && decide ((↑i : Int) < (↑n : Int)) then bif ((0 : Nat) + (↑i : Int).toNat * (1 : Nat)).blt n then bif decide ((0 : Int) ≤
     (↑i : Int)) && decide ((↑i : Int) < (↑m : Int)) then bif ((0 : Nat) + (↑i : Int).toNat * (1 : Nat)).blt m then bif xs.getD ((0 : Nat) + (↑i : Int).toNat * (1 : Nat)) (0 : Int) != ys.getD ((0 : Nat) +
     (↑i : Int).toNat * (1 : Nat)) (0 : Int) then none else on [Value.pointer (some (Addr.mk (2 : Nat) (0 : Nat) none)), Value.pointer (some (Addr.mk (3 : Nat) (0 : Nat) none)), Value.bool false, Value.int
     IntKind.i64 (IntKind.i64.wrap ((↑i : Int) + (1 : Int)))] [some (Blk.mk false (1 : Nat) [Seg.ints IntKind.i64 n xs]), some (Blk.mk false (1 : Nat) [Seg.ints IntKind.i64 m ys]), some (Blk.mk true (3 :
     Nat) [Seg.ints IntKind.u8 (2 : Nat) [a, b], Seg.vals [Value.slice (some (Addr.mk (0 : Nat) (0 : Nat) none)) n c]]), some (Blk.mk true (3 : Nat) [Seg.ints IntKind.u8 (2 : Nat) [a', b'], Seg.vals
     [Value.slice (some (Addr.mk (1 : Nat) (0 : Nat) none)) m c']])] else none else none else none else none else none) (by kernel_rfl) (by simp only [-eq_self, Int.toNat_natCast, Nat.mul_one, Nat.zero_add, swrap w1.1 w1.2]; exact (go_t (dec_t h1) (go_t (and_t (dec_t h2) (dec_t h1)) (go_t (blt_t h3) (go_t (and_t (dec_t h2) (dec_t h4)) (go_t (blt_t h5) (go_f (bne_f h6) rfl)))))))
--CFEND
--CP pSmN (a b a' b' : Int) (n m c c' i : Nat) (xs ys : List Int) (on : List Value → Heap → Out) (out : Exit → List Value → Heap → Out) :: roundK Try.prog ((mkS []).on [(31, true), (44, true)]) noL Try.f17.ntmps 2 (loopOf Try.f17 0) liveSame [pt 2, pt 3, .bool false, w63 i] [rI n xs, rI m ys, uB a b (sl 0 n c), uB a' b' (sl 1 m c')] on out
theorem pSmN (a b a' b' : Int) (n m c c' i : Nat) (xs ys : List Int) (on : List Value → Heap → Out) (out : Exit → List Value → Heap → Out)
    (h1 : (↑i : Int) < (↑n : Int) := by first | omega | assumption | rfl)
    (h2 : (0 : Int) ≤ (↑i : Int) := by first | omega | assumption | rfl)
    (h3 : i < n := by first | omega | assumption | rfl)
    (h4 : (↑i : Int) < (↑m : Int) := by first | omega | assumption | rfl)
    (h5 : i < m := by first | omega | assumption | rfl)
    (h6 : xs.getD i (0 : Int) ≠ ys.getD i (0 : Int) := by first | omega | assumption | rfl) : roundK Try.prog ((mkS []).on [(31, true), (44, true)]) noL Try.f17.ntmps 2 (loopOf Try.f17 0) liveSame [pt 2, pt 3, .bool false, w63 i] [rI n xs, rI m ys, uB a b (sl 0 n c), uB a' b' (sl 1 m c')] on out =
     (out Exit.ret [Value.pointer (some (Addr.mk (2 : Nat) (0 : Nat) none)), Value.pointer (some (Addr.mk (3 : Nat) (0 : Nat) none)), Value.bool false, Value.int IntKind.i64 (↑i : Int)] [some (Blk.mk false
     (1 : Nat) [Seg.ints IntKind.i64 n xs]), some (Blk.mk false (1 : Nat) [Seg.ints IntKind.i64 m ys]), some (Blk.mk true (3 : Nat) [Seg.ints IntKind.u8 (2 : Nat) [a, b], Seg.vals [Value.slice (some
     (Addr.mk (0 : Nat) (0 : Nat) none)) n c]]), some (Blk.mk true (3 : Nat) [Seg.ints IntKind.u8 (2 : Nat) [a', b'], Seg.vals [Value.slice (some (Addr.mk (1 : Nat) (0 : Nat) none)) m c']])]) :=
  Eq.trans (b :=
     bif decide ((↑i : Int) < (↑n : Int)) then bif decide ((0 : Int) ≤ (↑i : Int)) && decide ((↑i : Int) < (↑n : Int)) then bif ((0 : Nat) + (↑i : Int).toNat * (1 : Nat)).blt n then bif decide ((0 : Int) ≤
     (↑i : Int)) && decide ((↑i : Int) < (↑m : Int)) then bif ((0 : Nat) + (↑i : Int).toNat * (1 : Nat)).blt m then bif xs.getD ((0 : Nat) + (↑i : Int).toNat * (1 : Nat)) (0 : Int) != ys.getD ((0 : Nat) +
     (↑i : Int).toNat * (1 : Nat)) (0 : Int) then out Exit.ret [Value.pointer (some (Addr.mk (2 : Nat) (0 : Nat) none)), Value.pointer (some (Addr.mk (3 : Nat) (0 : Nat) none)), Value.bool false, Value.int
     IntKind.i64 (↑i : Int)] [some (Blk.mk false (1 : Nat) [Seg.ints IntKind.i64 n xs]), some (Blk.mk false (1 : Nat) [Seg.ints IntKind.i64 m ys]), some (Blk.mk true (3 : Nat) [Seg.ints IntKind.u8 (2 :
     Nat) [a, b], Seg.vals [Value.slice (some (Addr.mk (0 : Nat) (0 : Nat) none)) n c]]), some (Blk.mk true (3 : Nat) [Seg.ints IntKind.u8 (2 : Nat) [a', b'], Seg.vals [Value.slice (some (Addr.mk (1 : Nat)
     (0 : Nat) none)) m c']])] else none else none else none else none else none else none) (by kernel_rfl) (by simp only [-eq_self, Int.toNat_natCast, Nat.mul_one, Nat.zero_add]; exact (go_t (dec_t h1) (go_t (and_t (dec_t h2) (dec_t h1)) (go_t (blt_t h3) (go_t (and_t (dec_t h2) (dec_t h4)) (go_t (blt_t h5) (go_t (bne_t h6) rfl)))))))
--CFEND
--CP pSmX (a b a' b' : Int) (n m c c' i : Nat) (xs ys : List Int) (on : List Value → Heap → Out) (out : Exit → List Value → Heap → Out) :: roundK Try.prog ((mkS []).on [(31, false)]) noL Try.f17.ntmps 2 (loopOf Try.f17 0) liveSame [pt 2, pt 3, .bool false, w63 i] [rI n xs, rI m ys, uB a b (sl 0 n c), uB a' b' (sl 1 m c')] on out
theorem pSmX (a b a' b' : Int) (n m c c' i : Nat) (xs ys : List Int) (on : List Value → Heap → Out) (out : Exit → List Value → Heap → Out)
    (h1 : ¬(↑i : Int) < (↑n : Int) := by first | omega | assumption | rfl) : roundK Try.prog ((mkS []).on [(31, false)]) noL Try.f17.ntmps 2 (loopOf Try.f17 0) liveSame [pt 2, pt 3, .bool false, w63 i] [rI n xs, rI m ys, uB a b (sl 0 n c), uB a' b' (sl 1 m c')] on out =
     (out (Exit.exit (0 : Nat)) [Value.pointer (some (Addr.mk (2 : Nat) (0 : Nat) none)), Value.pointer (some (Addr.mk (3 : Nat) (0 : Nat) none)), Value.bool false, Value.int IntKind.i64 (↑i : Int)] [some
     (Blk.mk false (1 : Nat) [Seg.ints IntKind.i64 n xs]), some (Blk.mk false (1 : Nat) [Seg.ints IntKind.i64 m ys]), some (Blk.mk true (3 : Nat) [Seg.ints IntKind.u8 (2 : Nat) [a, b], Seg.vals
     [Value.slice (some (Addr.mk (0 : Nat) (0 : Nat) none)) n c]]), some (Blk.mk true (3 : Nat) [Seg.ints IntKind.u8 (2 : Nat) [a', b'], Seg.vals [Value.slice (some (Addr.mk (1 : Nat) (0 : Nat) none)) m
     c']])]) :=
  Eq.trans (by kernel_rfl) (go_f (dec_f h1) rfl)
--CFEND
/-- Alike up to a place. -/
def sameTo (xs ys : List Int) (n : Nat) : Prop := ∀ i, i < n → xs.getD i 0 = ys.getD i 0
noncomputable def LSmTf : LF := fun vs h k => match vs, h with
  | [.pointer (some ⟨2, 0, none⟩), .pointer (some ⟨3, 0, none⟩), .bool false, .int .i64 0], [some ⟨false, 1, [.ints .i64 n xs]⟩, some ⟨false, 1, [.ints .i64 m ys]⟩, some ⟨true, 3, [.ints .u8 2 [a, b], .vals [.slice (some ⟨0, 0, none⟩) n' c]]⟩, some ⟨true, 3, [.ints .u8 2 [a', b'], .vals [.slice (some ⟨1, 0, none⟩) m' c']]⟩] =>
    bif chk (n' = n ∧ m' = m ∧ n = m ∧ n ≤ 1000000 ∧ sameTo xs ys n) then k (.exit 0) [pt 2, pt 3, .bool false, w63 n] [rI n xs, rI m ys, uB a b (sl 0 n c), uB a' b' (sl 1 m c')] else none
  | _, _ => none
noncomputable def LSmT : LSpec := oneL 4 liveSame LSmTf
noncomputable def endSm (n : Nat) (xs ys : List Int) : Nat := @Classical.epsilon Nat ⟨0⟩ fun i => i < n ∧ xs.getD i 0 ≠ ys.getD i 0 ∧ sameTo xs ys i
noncomputable def LSmFf : LF := fun vs h k => match vs, h with
  | [.pointer (some ⟨2, 0, none⟩), .pointer (some ⟨3, 0, none⟩), .bool false, .int .i64 0], [some ⟨false, 1, [.ints .i64 n xs]⟩, some ⟨false, 1, [.ints .i64 m ys]⟩, some ⟨true, 3, [.ints .u8 2 [a, b], .vals [.slice (some ⟨0, 0, none⟩) n' c]]⟩, some ⟨true, 3, [.ints .u8 2 [a', b'], .vals [.slice (some ⟨1, 0, none⟩) m' c']]⟩] =>
    bif chk (n' = n ∧ m' = m ∧ n = m ∧ n ≤ 1000000 ∧ ¬ sameTo xs ys n) then k .ret [pt 2, pt 3, .bool false, w63 (endSm n xs ys)] [rI n xs, rI m ys, uB a b (sl 0 n c), uB a' b' (sl 1 m c')] else none
  | _, _ => none
noncomputable def LSmF : LSpec := oneL 4 liveSame LSmFf
--CP pSmT (a b a' b' : Int) (n m c c' : Nat) (xs ys : List Int) :: fnK Try.prog ((mkS []).on [(11, false), (18, false), (26, false)]) LSmT Try.f17 [.agg #[u8v a, u8v b, sl 0 n c], .agg #[u8v a', u8v b', sl 1 m c']] [rI n xs, rI m ys]
theorem pSmT (a b a' b' : Int) (n m c c' : Nat) (xs ys : List Int)
    (h1 : a = a' := by first | omega | assumption | rfl)
    (h2 : b = b' := by first | omega | assumption | rfl)
    (h3 : (↑n : Int) = (↑m : Int) := by first | omega | assumption | rfl)
    (h4 : n = n ∧ m = m ∧ n = m ∧ n ≤ (1000000 : Nat) ∧ sameTo xs ys n := by first | omega | assumption | rfl | ((repeat' with_reducible apply And.intro) <;> first | rfl | assumption | omega)) : fnK Try.prog ((mkS []).on [(11, false), (18, false), (26, false)]) LSmT Try.f17 [.agg #[u8v a, u8v b, sl 0 n c], .agg #[u8v a', u8v b', sl 1 m c']] [rI n xs, rI m ys] =
     (some (Res.ret (Value.bool true) [some (Blk.mk false (1 : Nat) [Seg.ints IntKind.i64 n xs]), some (Blk.mk false (1 : Nat) [Seg.ints IntKind.i64 m ys])])) :=
  Eq.trans (by kernel_rfl) (go_f (bne_f h1) (go_f (bne_f h2) (go_f (bne_f h3) (go_t (chk_t h4) rfl))))
--CFEND
--CP pSmFl (a b a' b' : Int) (n m c c' : Nat) (xs ys : List Int) :: fnK Try.prog ((mkS []).on [(11, false), (18, false), (26, false)]) LSmF Try.f17 [.agg #[u8v a, u8v b, sl 0 n c], .agg #[u8v a', u8v b', sl 1 m c']] [rI n xs, rI m ys]
theorem pSmFl (a b a' b' : Int) (n m c c' : Nat) (xs ys : List Int)
    (h1 : a = a' := by first | omega | assumption | rfl)
    (h2 : b = b' := by first | omega | assumption | rfl)
    (h3 : (↑n : Int) = (↑m : Int) := by first | omega | assumption | rfl)
    (h4 : n = n ∧ m = m ∧ n = m ∧ n ≤ (1000000 : Nat) ∧ ¬sameTo xs ys n := by first | omega | assumption | rfl | ((repeat' with_reducible apply And.intro) <;> first | rfl | assumption | omega)) : fnK Try.prog ((mkS []).on [(11, false), (18, false), (26, false)]) LSmF Try.f17 [.agg #[u8v a, u8v b, sl 0 n c], .agg #[u8v a', u8v b', sl 1 m c']] [rI n xs, rI m ys] =
     (some (Res.ret (Value.bool false) [some (Blk.mk false (1 : Nat) [Seg.ints IntKind.i64 n xs]), some (Blk.mk false (1 : Nat) [Seg.ints IntKind.i64 m ys])])) :=
  Eq.trans (by kernel_rfl) (go_f (bne_f h1) (go_f (bne_f h2) (go_f (bne_f h3) (go_t (chk_t h4) rfl))))
--CFEND
--CP pSmX0 (a b a' b' : Int) (on : List Value → Heap → Out) (out : Exit → List Value → Heap → Out) :: roundK Try.prog ((mkS []).on [(31, false)]) noL Try.f17.ntmps 0 (loopOf Try.f17 0) liveSame [pt 0, pt 1, .bool false, w63 0] [uB a b (.slice none 0 0), uB a' b' (.slice none 0 0)] on out
theorem pSmX0 (a b a' b' : Int) (on : List Value → Heap → Out) (out : Exit → List Value → Heap → Out) : roundK Try.prog ((mkS []).on [(31, false)]) noL Try.f17.ntmps 0 (loopOf Try.f17 0) liveSame [pt 0, pt 1, .bool false, w63 0] [uB a b (.slice none 0 0), uB a' b' (.slice none 0 0)] on out =
     (out (Exit.exit (0 : Nat)) [Value.pointer (some (Addr.mk (0 : Nat) (0 : Nat) none)), Value.pointer (some (Addr.mk (1 : Nat) (0 : Nat) none)), Value.bool false, Value.int IntKind.i64 (0 : Int)] [some
     (Blk.mk true (3 : Nat) [Seg.ints IntKind.u8 (2 : Nat) [a, b], Seg.vals [Value.slice none (0 : Nat) (0 : Nat)]]), some (Blk.mk true (3 : Nat) [Seg.ints IntKind.u8 (2 : Nat) [a', b'], Seg.vals
     [Value.slice none (0 : Nat) (0 : Nat)]])]) :=
  Eq.trans (by kernel_rfl) rfl
--CFEND
noncomputable def LSm0f : LF := fun vs h k => match vs, h with
  | [.pointer (some ⟨0, 0, none⟩), .pointer (some ⟨1, 0, none⟩), .bool false, .int .i64 0], [some ⟨true, 3, [.ints .u8 2 [a, b], .vals [.slice none 0 0]]⟩, some ⟨true, 3, [.ints .u8 2 [a', b'], .vals [.slice none 0 0]]⟩] =>
    k (.exit 0) [pt 0, pt 1, .bool false, w63 0] [uB a b (.slice none 0 0), uB a' b' (.slice none 0 0)]
  | _, _ => none
noncomputable def LSm0 : LSpec := oneL 4 liveSame LSm0f
--CP pSm0 (a b a' b' : Int) :: fnK Try.prog ((mkS []).on [(11, false), (18, false), (26, false)]) LSm0 Try.f17 [.agg #[u8v a, u8v b, .slice none 0 0], .agg #[u8v a', u8v b', .slice none 0 0]] []
theorem pSm0 (a b a' b' : Int)
    (h1 : a = a' := by first | omega | assumption | rfl)
    (h2 : b = b' := by first | omega | assumption | rfl) : fnK Try.prog ((mkS []).on [(11, false), (18, false), (26, false)]) LSm0 Try.f17 [.agg #[u8v a, u8v b, .slice none 0 0], .agg #[u8v a', u8v b', .slice none 0 0]] [] =
     (some (Res.ret (Value.bool true) [])) :=
  Eq.trans (by kernel_rfl) (go_f (bne_f h1) (go_f (bne_f h2) rfl))
--CFEND
noncomputable def FSmT : FSpec := fun args h k => match args, h with
  | [.agg ⟨[.int .u8 a, .int .u8 b, .slice (some ⟨0, 0, none⟩) n' _]⟩, .agg ⟨[.int .u8 a', .int .u8 b', .slice (some ⟨1, 0, none⟩) m' _]⟩], [some ⟨false, 1, [.ints .i64 n xs]⟩, some ⟨false, 1, [.ints .i64 m ys]⟩] =>
    bif chk (a = a' ∧ b = b' ∧ n' = n ∧ m' = m ∧ n = m ∧ n ≤ 1000000 ∧ sameTo xs ys n) then k (.bool true) [rI n xs, rI m ys] else none
  | [.agg ⟨[.int .u8 a, .int .u8 b, .slice none 0 0]⟩, .agg ⟨[.int .u8 a', .int .u8 b', .slice none 0 0]⟩], [] =>
    bif chk (a = a' ∧ b = b') then k (.bool true) [] else none
  | _, _ => none
noncomputable def FSmF : FSpec := fun args h k => match args, h with
  | [.agg ⟨[.int .u8 a, .int .u8 b, .slice (some ⟨0, 0, none⟩) n' _]⟩, .agg ⟨[.int .u8 a', .int .u8 b', .slice (some ⟨1, 0, none⟩) m' _]⟩], [some ⟨false, 1, [.ints .i64 n xs]⟩, some ⟨false, 1, [.ints .i64 m ys]⟩] =>
    bif chk (a = a' ∧ b = b' ∧ n' = n ∧ m' = m ∧ n = m ∧ n ≤ 1000000 ∧ ¬ sameTo xs ys n) then k (.bool false) [rI n xs, rI m ys] else none
  | _, _ => none
noncomputable def SSmT : Spec := mkS [(17, false, FSmT)]
noncomputable def SSmF : Spec := mkS [(17, false, FSmF)]
--CP pSsT (a a' : Int) (n m n' m' c c' : Nat) (xs ys : List Int) :: fnK Try.prog SSmT noL Try.f26 [.agg #[u8v a, sl 0 n' c], .agg #[u8v a', sl 1 m' c']] [rI n xs, rI m ys]
theorem pSsT (a a' : Int) (n m n' m' c c' : Nat) (xs ys : List Int)
    (h1 : a = a' ∧ (0 : Int) = (0 : Int) ∧ n' = n ∧ m' = m ∧ n = m ∧ n ≤ (1000000 : Nat) ∧ sameTo xs ys n := by first | omega | assumption | rfl | ((repeat' with_reducible apply And.intro) <;> first | rfl | assumption | omega)) : fnK Try.prog SSmT noL Try.f26 [.agg #[u8v a, sl 0 n' c], .agg #[u8v a', sl 1 m' c']] [rI n xs, rI m ys] =
     (some (Res.ret (Value.bool true) [some (Blk.mk false (1 : Nat) [Seg.ints IntKind.i64 n xs]), some (Blk.mk false (1 : Nat) [Seg.ints IntKind.i64 m ys])])) :=
  Eq.trans (by kernel_rfl) (go_t (chk_t h1) rfl)
--CFEND
--CP pSsF (a a' : Int) (n m n' m' c c' : Nat) (xs ys : List Int) :: fnK Try.prog SSmF noL Try.f26 [.agg #[u8v a, sl 0 n' c], .agg #[u8v a', sl 1 m' c']] [rI n xs, rI m ys]
theorem pSsF (a a' : Int) (n m n' m' c c' : Nat) (xs ys : List Int)
    (h1 : a = a' ∧ (0 : Int) = (0 : Int) ∧ n' = n ∧ m' = m ∧ n = m ∧ n ≤ (1000000 : Nat) ∧ ¬sameTo xs ys n := by first | omega | assumption | rfl | ((repeat' with_reducible apply And.intro) <;> first | rfl | assumption | omega)) : fnK Try.prog SSmF noL Try.f26 [.agg #[u8v a, sl 0 n' c], .agg #[u8v a', sl 1 m' c']] [rI n xs, rI m ys] =
     (some (Res.ret (Value.bool false) [some (Blk.mk false (1 : Nat) [Seg.ints IntKind.i64 n xs]), some (Blk.mk false (1 : Nat) [Seg.ints IntKind.i64 m ys])])) :=
  Eq.trans (by kernel_rfl) (go_t (chk_t h1) rfl)
--CFEND
--CP pSs0 (a a' : Int) :: fnK Try.prog SSmT noL Try.f26 [.agg #[u8v a, .slice none 0 0], .agg #[u8v a', .slice none 0 0]] []
theorem pSs0 (a a' : Int)
    (h1 : a = a' ∧ (0 : Int) = (0 : Int) := by first | omega | assumption | rfl | ((repeat' with_reducible apply And.intro) <;> first | rfl | assumption | omega)) : fnK Try.prog SSmT noL Try.f26 [.agg #[u8v a, .slice none 0 0], .agg #[u8v a', .slice none 0 0]] [] =
     (some (Res.ret (Value.bool true) [])) :=
  Eq.trans (by kernel_rfl) (go_t (chk_t h1) rfl)
--CFEND
noncomputable def FSsT : FSpec := fun args h k => match args, h with
  | [.agg ⟨[.int .u8 a, .slice (some ⟨0, 0, none⟩) n' _]⟩, .agg ⟨[.int .u8 a', .slice (some ⟨1, 0, none⟩) m' _]⟩], [some ⟨false, 1, [.ints .i64 n xs]⟩, some ⟨false, 1, [.ints .i64 m ys]⟩] =>
    bif chk (a = a' ∧ n' = n ∧ m' = m ∧ n = m ∧ n ≤ 1000000 ∧ sameTo xs ys n) then k (.bool true) [rI n xs, rI m ys] else none
  | [.agg ⟨[.int .u8 a, .slice none 0 0]⟩, .agg ⟨[.int .u8 a', .slice none 0 0]⟩], [] =>
    bif chk (a = a') then k (.bool true) [] else none
  | _, _ => none
noncomputable def FSsF : FSpec := fun args h k => match args, h with
  | [.agg ⟨[.int .u8 a, .slice (some ⟨0, 0, none⟩) n' _]⟩, .agg ⟨[.int .u8 a', .slice (some ⟨1, 0, none⟩) m' _]⟩], [some ⟨false, 1, [.ints .i64 n xs]⟩, some ⟨false, 1, [.ints .i64 m ys]⟩] =>
    bif chk (a = a' ∧ n' = n ∧ m' = m ∧ n = m ∧ n ≤ 1000000 ∧ ¬ sameTo xs ys n) then k (.bool false) [rI n xs, rI m ys] else none
  | _, _ => none
end Go.Proofs.Ytcjjngdkkihgjaa.VC

/- The document's Same: what it is. -/
namespace Go.Proofs.Ytcjjngdkkihgjaa.VC
open Go Go.Proofs

theorem loopSm {a b a' b' : Int} {n c c' : Nat} {xs ys : List Int} (hn : n ≤ 1000000) (hs : sameTo xs ys n) : ∀ (r i : Nat), i + r = n →
    LoopT Try.prog Try.f17.ntmps 2 (loopOf Try.f17 0) (zipS liveSame [pt 2, pt 3, .bool false, w63 i]) [rI n xs, rI n ys, uB a b (sl 0 n c), uB a' b' (sl 1 n c')] (.exit 0)
      (zipS liveSame [pt 2, pt 3, .bool false, w63 n]) [rI n xs, rI n ys, uB a b (sl 0 n c), uB a' b' (sl 1 n c')] := by
  intro r
  induction r with
  | zero =>
    intro i hi
    obtain rfl : i = n := by omega
    exact LoopT.last (by intro h; cases h) (CodeT.out (mk0.on _) noL_ok fun on out => pSmX a b a' b' i i c c' i xs ys on out)
  | succ r ih =>
    intro i hi
    have e := hs i (by omega)
    exact LoopT.step (CodeT.on (live := liveSame) (vs1 := [pt 2, pt 3, .bool false, w63 ((i + 1 : Nat) : Int)]) (h1 := [rI n xs, rI n ys, uB a b (sl 0 n c), uB a' b' (sl 1 n c')]) (mk0.on _) noL_ok fun on out => pSmR a b a' b' n n c c' i xs ys on out) (ih (i + 1) (by omega))
theorem loopSmF {a b a' b' : Int} {n c c' q : Nat} {xs ys : List Int} (hn : n ≤ 1000000) (hq : q < n) (hne : xs.getD q 0 ≠ ys.getD q 0) (hs : sameTo xs ys q) : ∀ (r i : Nat), i + r = q →
    LoopT Try.prog Try.f17.ntmps 2 (loopOf Try.f17 0) (zipS liveSame [pt 2, pt 3, .bool false, w63 i]) [rI n xs, rI n ys, uB a b (sl 0 n c), uB a' b' (sl 1 n c')] .ret
      (zipS liveSame [pt 2, pt 3, .bool false, w63 q]) [rI n xs, rI n ys, uB a b (sl 0 n c), uB a' b' (sl 1 n c')] := by
  intro r
  induction r with
  | zero =>
    intro i hi
    obtain rfl : i = q := by omega
    exact LoopT.last (by intro h; cases h) (CodeT.out (mk0.on _) noL_ok fun on out => pSmN a b a' b' n n c c' i xs ys on out)
  | succ r ih =>
    intro i hi
    have e := hs i (by omega)
    exact LoopT.step (CodeT.on (live := liveSame) (vs1 := [pt 2, pt 3, .bool false, w63 ((i + 1 : Nat) : Int)]) (h1 := [rI n xs, rI n ys, uB a b (sl 0 n c), uB a' b' (sl 1 n c')]) (mk0.on _) noL_ok fun on out => pSmR a b a' b' n n c c' i xs ys on out) (ih (i + 1) (by omega))
theorem endSm_spec {n : Nat} {xs ys : List Int} (h : ¬ sameTo xs ys n) : endSm n xs ys < n ∧ xs.getD (endSm n xs ys) 0 ≠ ys.getD (endSm n xs ys) 0 ∧ sameTo xs ys (endSm n xs ys) := by
  have : ∃ i, i < n ∧ xs.getD i 0 ≠ ys.getD i 0 ∧ sameTo xs ys i := by
    induction n with
    | zero => exact (h fun i hi => by omega).elim
    | succ n ih =>
      by_cases hs : sameTo xs ys n
      · refine ⟨n, by omega, fun e => h fun i hi => ?_, hs⟩
        by_cases hin : i = n
        · rw [hin]; exact e
        · exact hs i (by omega)
      · obtain ⟨i, h1, h2⟩ := ih hs
        exact ⟨i, by omega, h2⟩
  exact Classical.epsilon_spec this
theorem loopOKSmT : LoopOK Try.prog Try.f17.ntmps 2 (loopOf Try.f17 0) liveSame LSmTf := by
  refine LoopOK.of_T ?_
  intro vs h k out hk
  unfold LSmTf at hk
  split at hk
  · obtain ⟨hb, hk2⟩ := bif_t hk
    obtain ⟨rfl, rfl, rfl, h4, h5⟩ := chk_iff.1 hb
    exact ⟨_, _, _, hk2, fun real => loopSm h4 h5 _ 0 (Nat.zero_add _)⟩
  · cases hk
theorem loopOKSmF : LoopOK Try.prog Try.f17.ntmps 2 (loopOf Try.f17 0) liveSame LSmFf := by
  refine LoopOK.of_T ?_
  intro vs h k out hk
  unfold LSmFf at hk
  split at hk
  · obtain ⟨hb, hk2⟩ := bif_t hk
    obtain ⟨rfl, rfl, rfl, h4, h5⟩ := chk_iff.1 hb
    obtain ⟨g1, g2, g3⟩ := endSm_spec h5
    exact ⟨_, _, _, hk2, fun real => loopSmF h4 g1 g2 g3 _ 0 (Nat.zero_add _)⟩
  · cases hk
theorem loopOKSm0 : LoopOK Try.prog Try.f17.ntmps 0 (loopOf Try.f17 0) liveSame LSm0f := by
  refine LoopOK.of_T ?_
  intro vs h k out hk
  unfold LSm0f at hk
  split at hk
  · exact ⟨_, _, _, hk, fun real => LoopT.last (by intro h; cases h) (CodeT.out (mk0.on _) noL_ok fun on out => pSmX0 _ _ _ _ on out)⟩
  · cases hk
theorem loopsSmT : LoopsOK Try.prog LSmT Try.f17.ntmps 2 (bodyOf Try.f17) := loops_one rfl (by kernel_rfl) loopOKSmT
theorem loopsSmF : LoopsOK Try.prog LSmF Try.f17.ntmps 2 (bodyOf Try.f17) := loops_one rfl (by kernel_rfl) loopOKSmF
theorem loopsSm0 : LoopsOK Try.prog LSm0 Try.f17.ntmps 0 (bodyOf Try.f17) := loops_one rfl (by kernel_rfl) loopOKSm0
theorem okSmT : EntryOK Try.prog 17 FSmT := by
  refine EntryOK.of_paths (fn := Try.f17) follows_ok Try.func17 (by kernel_rfl) (by kernel_rfl) ?_
  intro args h k out hF
  unfold FSmT at hF
  split at hF
  · obtain ⟨hb, hF2⟩ := bif_t hF
    obtain ⟨h1, h2, rfl, rfl, h5, h6, h7⟩ := chk_iff.1 hb
    exact ⟨_, _, hF2, fun _ => ⟨_, LSmT, mk0.on _, loopsSmT, pSmT _ _ _ _ _ _ _ _ _ _ h1 h2 (by omega) ⟨rfl, rfl, h5, h6, h7⟩⟩⟩
  · obtain ⟨hb, hF2⟩ := bif_t hF
    obtain ⟨h1, h2⟩ := chk_iff.1 hb
    exact ⟨_, _, hF2, fun _ => ⟨_, LSm0, mk0.on _, loopsSm0, pSm0 _ _ _ _ h1 h2⟩⟩
  · cases hF
theorem okSmF : EntryOK Try.prog 17 FSmF := by
  refine EntryOK.of_paths (fn := Try.f17) follows_ok Try.func17 (by kernel_rfl) (by kernel_rfl) ?_
  intro args h k out hF
  unfold FSmF at hF
  split at hF
  · obtain ⟨hb, hF2⟩ := bif_t hF
    obtain ⟨h1, h2, rfl, rfl, h5, h6, h7⟩ := chk_iff.1 hb
    exact ⟨_, _, hF2, fun _ => ⟨_, LSmF, mk0.on _, loopsSmF, pSmFl _ _ _ _ _ _ _ _ _ _ h1 h2 (by omega) ⟨rfl, rfl, h5, h6, h7⟩⟩⟩
  · cases hF
theorem okSsT : EntryOK Try.prog 26 FSsT := by
  refine EntryOK.of_paths (fn := Try.f26) follows_ok Try.func26 (by kernel_rfl) (by kernel_rfl) ?_
  intro args h k out hF
  unfold FSsT at hF
  split at hF
  · obtain ⟨hb, hF2⟩ := bif_t hF
    obtain ⟨h1, h3, h4, h5, h6, h7⟩ := chk_iff.1 hb
    exact ⟨_, _, hF2, fun _ => ⟨SSmT, noL, mkS_cons okSmT (mkS_nil _), noL_ok, pSsT _ _ _ _ _ _ _ _ _ _ (h1 := ⟨h1, rfl, h3, h4, h5, h6, h7⟩)⟩⟩
  · obtain ⟨hb, hF2⟩ := bif_t hF
    have h1 := chk_iff.1 hb
    exact ⟨_, _, hF2, fun _ => ⟨SSmT, noL, mkS_cons okSmT (mkS_nil _), noL_ok, pSs0 _ _ (h1 := ⟨h1, rfl⟩)⟩⟩
  · cases hF
theorem okSsF : EntryOK Try.prog 26 FSsF := by
  refine EntryOK.of_paths (fn := Try.f26) follows_ok Try.func26 (by kernel_rfl) (by kernel_rfl) ?_
  intro args h k out hF
  unfold FSsF at hF
  split at hF
  · obtain ⟨hb, hF2⟩ := bif_t hF
    obtain ⟨h1, h3, h4, h5, h6, h7⟩ := chk_iff.1 hb
    exact ⟨_, _, hF2, fun _ => ⟨SSmF, noL, mkS_cons okSmF (mkS_nil _), noL_ok, pSsF _ _ _ _ _ _ _ _ _ _ (h1 := ⟨h1, rfl, h3, h4, h5, h6, h7⟩)⟩⟩
  · cases hF
end Go.Proofs.Ytcjjngdkkihgjaa.VC

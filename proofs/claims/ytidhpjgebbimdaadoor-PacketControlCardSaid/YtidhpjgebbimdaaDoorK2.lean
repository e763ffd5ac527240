/- packet: put, get, lay. -/
import Derived.Test.YtidhpjgebbimdaaDoorK1
namespace Go.Proofs.YtidhpjgebbimdaaDoor.VC
open Go Go.Proofs

/-- A number's byte, and its bytes, the highest one first. -/
def beB (v : Int) (k : Nat) : Int := v / 256 ^ k % 256
def be (v : Int) : Nat → List Int
  | 0 => []
  | s + 1 => beB v s :: be v s
theorem be_len (v : Int) : ∀ s, (be v s).length = s
  | 0 => rfl
  | s + 1 => by rw [be, List.length_cons, be_len v s]
theorem pow8 (i : Nat) : (2 : Int) ^ (8 * i) = 256 ^ i := by rw [Int.pow_mul]; rfl
theorem beB_shr {v : Int} {i : Nat} (hi : i ≤ 7) : IntKind.u8.wrap (v.fdiv ((2 : Int) ^ min ((8 : Int) * (i : Int)).toNat 64)) = beB v i := by
  have hp : (0 : Int) ≤ 256 ^ i := Int.le_of_lt (Int.pow_pos (by decide))
  rw [show min ((8 : Int) * (i : Int)).toNat 64 = 8 * i by omega, pow8, wU8, Int.fdiv_eq_ediv_of_nonneg _ hp]
  rfl
theorem beB_succ (v : Int) (k : Nat) : beB (v / 256) k = beB v (k + 1) := by
  have hp : (0 : Int) ≤ 256 ^ k := Int.le_of_lt (Int.pow_pos (by decide))
  unfold beB
  rw [Int.ediv_ediv_of_nonneg (by decide), Int.pow_succ, Int.mul_comm (256 ^ k)]
theorem be_snoc (v : Int) : ∀ s, be v (s + 1) = be (v / 256) s ++ [v % 256]
  | 0 => by simp [be, beB]
  | s + 1 => by
    rw [be, be_snoc v s, be, beB_succ]; rfl
theorem be_mem {v x : Int} : ∀ {s}, x ∈ be v s → 0 ≤ x ∧ x < 256
  | 0, h => by cases h
  | s + 1, h => by
    rcases List.mem_cons.1 h with rfl | h
    · unfold beB; omega
    · exact be_mem h
abbrev stPut (v : Int) (n s : Nat) (i : Int) : List Value := [.slice none 0 0, sl 1 n 1, u64v v, w63 s, w63 i]
theorem loopPut {v : Int} {s : Nat} : ∀ (i n : Nat) (xs : List Int), i ≤ 7 → n + i ≤ 1000000 → xs.length = n →
    LoopT Tryd.prog Tryd.f11.ntmps 1 (loopOf Tryd.f11 0) (zipS livePut (stPut v n s i)) [none, oU n xs] (.exit 0) (zipS livePut (stPut v (n + (i + 1)) s (-1))) [none, oU (n + (i + 1)) (xs ++ be v (i + 1))] := by
  intro i
  induction i with
  | zero =>
    intro n xs h1 h2 h3
    refine LoopT.step (CodeT.on (live := livePut) (vs1 := stPut v (n + 1) s (-1)) (h1 := [none, oU (n + 1) (xs ++ be v 1)]) (mk0.on _) noL_ok fun on out => (pPut1 v n s 0 xs on out).trans ?_) ?_
    · rw [beB_shr h1, List.take_of_length_le (by omega)]; rfl
    · exact LoopT.last (by intro h; cases h) (CodeT.out mk0 noL_ok fun on out => pPutX v (n + 1) s _ on out)
  | succ i ih =>
    intro n xs h1 h2 h3
    refine LoopT.step (CodeT.on (live := livePut) (vs1 := stPut v (n + 1) s i) (h1 := [none, oU (n + 1) (xs ++ [beB v (i + 1)])]) (mk0.on _) noL_ok fun on out => (pPut1 v n s (i + 1) xs on out).trans ?_) ?_
    · rw [beB_shr h1, List.take_of_length_le (by omega), show ((i + 1 : Nat) : Int) - 1 = i by omega]
    · have := ih (n + 1) (xs ++ [beB v (i + 1)]) (by omega) (by omega) (by rw [List.length_append, h3]; rfl)
      rw [show n + 1 + (i + 1) = n + (i + 1 + 1) by omega, List.append_assoc] at this
      exact this
noncomputable def LPutf : LF := fun vs h k => match vs, h with
  | [.slice none 0 0, .slice (some ⟨0, 0, none⟩) n 1, .int .u64 v, .int .i64 s, .int .i64 i], [some ⟨true, 1, [.ints .u8 N xs]⟩] =>
    bif chk (1 ≤ s ∧ s ≤ 8 ∧ i = s - 1 ∧ N = n ∧ n ≤ 900000) then k (.exit 0) [.slice none 0 0, sl 1 (n + s.toNat) 1, u64v v, w63 s, w63 (-1)] [none, oU (n + s.toNat) (xs ++ be v s.toNat)] else none
  | [.slice none 0 0, .slice (some ⟨0, 0, none⟩) n 0, .int .u64 v, .int .i64 s, .int .i64 i], [some ⟨true, 1, [.ints .u8 N xs]⟩] =>
    bif chk (1 ≤ s ∧ s ≤ 8 ∧ i = s - 1 ∧ N = n ∧ n ≤ 900000) then k (.exit 0) [.slice none 0 0, sl 1 (n + s.toNat) 1, u64v v, w63 s, w63 (-1)] [none, oU (n + s.toNat) (xs ++ be v s.toNat)] else none
  | _, _ => none
noncomputable def LPut : LSpec := oneL 2 livePut LPutf
theorem firstPut {v : Int} {s : Nat} {N : Nat} {xs : List Int} (hN : N ≤ 900000) (hl : xs.length = N) {vs : List Value} {h : Heap} (i : Nat) (hi : i ≤ 7)
    (h0 : CodeT Tryd.prog Tryd.f11.ntmps 1 (loopOf Tryd.f11 0) (zipS livePut vs) h .normal (zipS livePut (stPut v (N + 1) s ((i : Int) - 1))) [none, oU (N + 1) (xs ++ [beB v i])]) :
    LoopT Tryd.prog Tryd.f11.ntmps 1 (loopOf Tryd.f11 0) (zipS livePut vs) h (.exit 0) (zipS livePut (stPut v (N + (i + 1)) s (-1))) [none, oU (N + (i + 1)) (xs ++ be v (i + 1))] := by
  refine LoopT.step h0 ?_
  cases i with
  | zero => exact LoopT.last (by intro h; cases h) (CodeT.out mk0 noL_ok fun on out => pPutX v (N + 1) s _ on out)
  | succ i =>
    have := loopPut (v := v) (s := s) i (N + 1) (xs ++ [beB v (i + 1)]) (by omega) (by omega) (by rw [List.length_append, hl]; rfl)
    rw [show N + 1 + (i + 1) = N + (i + 1 + 1) by omega, List.append_assoc] at this
    rw [show ((i + 1 : Nat) : Int) - 1 = i by omega]
    exact this
theorem loopOKPut : LoopOK Tryd.prog Tryd.f11.ntmps 1 (loopOf Tryd.f11 0) livePut LPutf := by
  refine LoopOK.of_T ?_
  intro vs h k out hk
  unfold LPutf at hk
  split at hk
  · rename_i n v s i N xs
    obtain ⟨hb, hk2⟩ := bif_t hk
    obtain ⟨h1, h2, rfl, rfl, h5⟩ := chk_iff.1 hb
    refine ⟨_, _, _, hk2, fun real => ?_⟩
    have hl := real.wseg (i := 0) rfl
    obtain ⟨j, rfl⟩ : ∃ j : Nat, s = ((j + 1 : Nat) : Int) := ⟨(s - 1).toNat, by omega⟩
    rw [Int.toNat_natCast, show ((j + 1 : Nat) : Int) - 1 = (j : Int) by omega]
    refine firstPut (v := v) (s := j + 1) h5 hl j (by omega) (CodeT.on (mk0.on [(11, true)]) noL_ok fun on out => (pPut0 v N (j + 1) j xs on out).trans ?_)
    rw [beB_shr (by omega), List.take_of_length_le (by omega)]
  · rename_i n v s i N xs
    obtain ⟨hb, hk2⟩ := bif_t hk
    obtain ⟨h1, h2, rfl, rfl, h5⟩ := chk_iff.1 hb
    refine ⟨_, _, _, hk2, fun real => ?_⟩
    have hl := real.wseg (i := 0) rfl
    obtain ⟨j, rfl⟩ : ∃ j : Nat, s = ((j + 1 : Nat) : Int) := ⟨(s - 1).toNat, by omega⟩
    rw [Int.toNat_natCast, show ((j + 1 : Nat) : Int) - 1 = (j : Int) by omega]
    refine firstPut (v := v) (s := j + 1) h5 hl j (by omega) (CodeT.weak (WeakS.refl _ _) (CodeT.on (vs1 := stPut v (N + 1) (j + 1) ((j : Int) - 1)) (h1 := [oU N xs, oU (N + 1) (xs ++ [beB v j])]) (mk0.on [(11, true)]) noL_ok fun on out => (pPutZ v N (j + 1) j xs on out).trans ?_) (WeakS.kill _ _ 0))
    rw [beB_shr (by omega), List.take_of_length_le (by omega)]
  · cases hk
theorem loopsPut : LoopsOK Tryd.prog LPut Tryd.f11.ntmps 1 (bodyOf Tryd.f11) := loops_one rfl (by kernel_rfl) loopOKPut
--CP pPutz (v s : Int) (n : Nat) (xs : List Int) :: fnK Tryd.prog (mkS []) LPut Tryd.f11 [sl 0 n 0, u64v v, w63 s] [oU n xs]
theorem pPutz (v s : Int) (n : Nat) (xs : List Int)
    (w1 : -9223372036854775808 ≤ s - (1 : Int) ∧ s - (1 : Int) ≤ 9223372036854775807 := by omega)
    (h1 : (1 : Int) ≤ s ∧ s ≤ (8 : Int) ∧ s - (1 : Int) = s - (1 : Int) ∧ n = n ∧ n ≤ (900000 : Nat) := by first | omega | assumption | rfl) : fnK Tryd.prog (mkS []) LPut Tryd.f11 [sl 0 n 0, u64v v, w63 s] [oU n xs] =
     (some (Res.ret (Value.slice (some (Addr.mk (1 : Nat) (0 : Nat) none)) (n + s.toNat) (1 : Nat)) [none, some (Blk.mk true (1 : Nat) [Seg.ints IntKind.u8 (n + s.toNat) (xs ++ be v s.toNat)])])) :=
  Eq.trans (b :=
     bif chk ((1 : Int) ≤ s ∧ s ≤ (8 : Int) ∧ IntKind.i64.wrap (s - (1 : Int)) = s - (1 : Int) ∧ n = n ∧ n ≤ (900000 : Nat)) then some (Res.ret (Value.slice (some (Addr.mk (1 : Nat) (0 : Nat) none)) (n +
     s.toNat) (1 : Nat)) [none, some (Blk.mk true (1 : Nat) [Seg.ints IntKind.u8 (n + s.toNat) (xs ++ be v s.toNat)])]) else none) (by kernel_rfl) (by (try simp only [-eq_self, Int.toNat_natCast, Nat.mul_one, Nat.zero_add, segsLen_one, swrap w1.1 w1.2]); exact (go_t (chk_t h1) rfl))
--CFEND
--CP pPut (v s : Int) (n : Nat) (xs : List Int) :: fnK Tryd.prog (mkS []) LPut Tryd.f11 [sl 0 n 1, u64v v, w63 s] [oU n xs]
theorem pPut (v s : Int) (n : Nat) (xs : List Int)
    (w1 : -9223372036854775808 ≤ s - (1 : Int) ∧ s - (1 : Int) ≤ 9223372036854775807 := by omega)
    (h1 : (1 : Int) ≤ s ∧ s ≤ (8 : Int) ∧ s - (1 : Int) = s - (1 : Int) ∧ n = n ∧ n ≤ (900000 : Nat) := by first | omega | assumption | rfl) : fnK Tryd.prog (mkS []) LPut Tryd.f11 [sl 0 n 1, u64v v, w63 s] [oU n xs] =
     (some (Res.ret (Value.slice (some (Addr.mk (1 : Nat) (0 : Nat) none)) (n + s.toNat) (1 : Nat)) [none, some (Blk.mk true (1 : Nat) [Seg.ints IntKind.u8 (n + s.toNat) (xs ++ be v s.toNat)])])) :=
  Eq.trans (b :=
     bif chk ((1 : Int) ≤ s ∧ s ≤ (8 : Int) ∧ IntKind.i64.wrap (s - (1 : Int)) = s - (1 : Int) ∧ n = n ∧ n ≤ (900000 : Nat)) then some (Res.ret (Value.slice (some (Addr.mk (1 : Nat) (0 : Nat) none)) (n +
     s.toNat) (1 : Nat)) [none, some (Blk.mk true (1 : Nat) [Seg.ints IntKind.u8 (n + s.toNat) (xs ++ be v s.toNat)])]) else none) (by kernel_rfl) (by (try simp only [-eq_self, Int.toNat_natCast, Nat.mul_one, Nat.zero_add, segsLen_one, swrap w1.1 w1.2]); exact (go_t (chk_t h1) rfl))
--CFEND
noncomputable def FPut : FSpec := fun args h k => match args, h with
  | [.slice (some ⟨0, 0, none⟩) n 1, .int .u64 v, .int .i64 s], [some ⟨true, 1, [.ints .u8 N xs]⟩] =>
    bif chk (1 ≤ s ∧ s ≤ 8 ∧ N = n ∧ n ≤ 900000) then k (sl 1 (n + s.toNat) 1) [none, oU (n + s.toNat) (xs ++ be v s.toNat)] else none
  | [.slice (some ⟨0, 0, none⟩) n 0, .int .u64 v, .int .i64 s], [some ⟨true, 1, [.ints .u8 N xs]⟩] =>
    bif chk (1 ≤ s ∧ s ≤ 8 ∧ N = n ∧ n ≤ 900000) then k (sl 1 (n + s.toNat) 1) [none, oU (n + s.toNat) (xs ++ be v s.toNat)] else none
  | _, _ => none
theorem okPut : EntryOK Tryd.prog 11 FPut := by
  refine EntryOK.of_paths (fn := Tryd.f11) follows_ok Tryd.func11 (by kernel_rfl) (by kernel_rfl) ?_
  intro args h k out hF
  unfold FPut at hF
  split at hF
  · rename_i n v s N xs
    obtain ⟨hb, hF2⟩ := bif_t hF
    obtain ⟨h1, h2, rfl, h4⟩ := chk_iff.1 hb
    exact ⟨_, _, hF2, fun _ => ⟨_, LPut, mk0, loopsPut, pPut v s N xs⟩⟩
  · rename_i n v s N xs
    obtain ⟨hb, hF2⟩ := bif_t hF
    obtain ⟨h1, h2, rfl, h4⟩ := chk_iff.1 hb
    exact ⟨_, _, hF2, fun _ => ⟨_, LPut, mk0, loopsPut, pPutz v s N xs⟩⟩
  · cases hF
/-- A row whose cells from a place on are a number's bytes. -/
def layL (xs : List Int) (a : Nat) : Nat → Int → List Int
  | 0, _ => xs
  | m + 1, v => layL (xs.set (a + m) (v % 256)) a m (v / 256)
theorem layL_len (a : Nat) : ∀ (m : Nat) (v : Int) (xs : List Int), (layL xs a m v).length = xs.length
  | 0, _, _ => rfl
  | m + 1, v, xs => by rw [layL, layL_len a m]; exact List.length_set ..
theorem layL_app {l r : List Int} : ∀ (m : Nat) (v : Int) (mid : List Int), mid.length = m → layL (l ++ (mid ++ r)) l.length m v = l ++ (be v m ++ r)
  | 0, v, mid, h => by
    rw [List.length_eq_zero_iff.1 h]; rfl
  | m + 1, v, mid, h => by
    have hm : mid = mid.take m ++ [mid.getD m 0] := by
      rw [List.getD_eq_getElem?_getD, List.getElem?_eq_getElem (by omega), Option.getD_some, List.take_append_getElem]
      exact (List.take_of_length_le (by omega)).symm
    generalize mid.getD m 0 = y at hm
    have hl : (mid.take m).length = m := by rw [List.length_take]; omega
    rw [layL, hm, List.set_append_right _ _ (by omega), show l.length + m - l.length = m by omega, List.append_assoc, List.set_append_right _ _ (by omega), hl, Nat.sub_self]
    show layL (l ++ (List.take m mid ++ (v % 256 :: r))) l.length m (v / 256) = _
    rw [layL_app m (v / 256) _ hl, be_snoc, List.append_assoc]; rfl
abbrev stLay (v : Int) (n c a m : Nat) (i : Int) : List Value := [sl 0 n c, w63 a, w63 m, u64v v, w63 i]
def divN256 (v : Int) : Nat → Int
  | 0 => v
  | m + 1 => divN256 (v / 256) m
theorem loopLay {n c a m0 : Nat} (hn : n ≤ 1000000) : ∀ (m : Nat) (v : Int) (xs : List Int), a + m ≤ n → 0 ≤ v → v < 18446744073709551616 →
    LoopT Tryd.prog Tryd.f13.ntmps 1 (loopOf Tryd.f13 0) (zipS liveLay (stLay v n c a m0 ((a : Int) + m - 1))) [oU n xs] (.exit 0) (zipS liveLay (stLay (divN256 v m) n c a m0 ((a : Int) - 1))) [oU n (layL xs a m v)] := by
  intro m
  induction m with
  | zero =>
    intro v xs h1 h2 h3
    rw [show ((a : Int) + ((0 : Nat) : Int) - 1) = a - 1 by omega]
    exact LoopT.last (by intro h; cases h) (CodeT.out (mk0.on _) noL_ok fun on out => pLayX v n c a m0 ((a : Int) - 1) xs on out)
  | succ m ih =>
    intro v xs h1 h2 h3
    refine LoopT.step (CodeT.on (live := liveLay) (vs1 := stLay (v / 256) n c a m0 ((a : Int) + m - 1)) (h1 := [oU n (xs.set (a + m) (v % 256))]) (mk0.on [(15, true)]) noL_ok fun on out => ?_) (ih (v / 256) _ (by omega) (by omega) (by omega))
    rw [show ((a : Int) + ((m + 1 : Nat) : Int) - 1) = ((a + m : Nat) : Int) by omega]
    refine (pLay v n c a m0 (a + m) xs on out).trans ?_
    rw [wU64, wU8, Int.tdiv_eq_ediv_of_nonneg h2, Int.tmod_eq_emod_of_nonneg h2, Int.emod_eq_of_lt (by omega) (by omega), Int.emod_emod, show ((a + m : Nat) : Int) - 1 = (a : Int) + m - 1 by omega]
noncomputable def LLayf : LF := fun vs h k => match vs, h with
  | [.slice (some ⟨0, 0, none⟩) n c, .int .i64 a, .int .i64 m, .int .u64 v, .int .i64 i], [some ⟨true, 1, [.ints .u8 N xs]⟩] =>
    bif chk (0 ≤ a ∧ 0 ≤ m ∧ i = a + m - 1 ∧ a + m ≤ n ∧ n ≤ 1000000 ∧ N = n) then k (.exit 0) [sl 0 n c, w63 a, w63 m, u64v (divN256 v m.toNat), w63 (a - 1)] [oU n (layL xs a.toNat m.toNat v)] else none
  | _, _ => none
noncomputable def LLay : LSpec := oneL 1 liveLay LLayf
theorem loopOKLay : LoopOK Tryd.prog Tryd.f13.ntmps 1 (loopOf Tryd.f13 0) liveLay LLayf := by
  refine LoopOK.of_T ?_
  intro vs h k out hk
  unfold LLayf at hk
  split at hk
  · rename_i n c a m v i N xs
    obtain ⟨hb, hk2⟩ := bif_t hk
    obtain ⟨h1, h2, rfl, h4, h5, rfl⟩ := chk_iff.1 hb
    refine ⟨_, _, _, hk2, fun real => ?_⟩
    have hv := real.int (t := 3) rfl
    obtain ⟨a, rfl⟩ := Int.eq_ofNat_of_zero_le h1
    obtain ⟨m, rfl⟩ := Int.eq_ofNat_of_zero_le h2
    exact loopLay h5 m v xs (by omega) hv.1 (Int.lt_of_le_of_lt hv.2 (by decide))
  · cases hk
theorem loopsLay : LoopsOK Tryd.prog LLay Tryd.f13.ntmps 1 (bodyOf Tryd.f13) := loops_one rfl (by kernel_rfl) loopOKLay
--CP pLayF (v a m : Int) (n c : Nat) (xs : List Int) :: fnK Tryd.prog (mkS []) LLay Tryd.f13 [sl 0 n c, w63 a, w63 m, u64v v] [oU n xs]
theorem pLayF (v a m : Int) (n c : Nat) (xs : List Int)
    (w1 : -9223372036854775808 ≤ a + m ∧ a + m ≤ 9223372036854775807 := by omega)
    (w2 : -9223372036854775808 ≤ a + m - (1 : Int) ∧ a + m - (1 : Int) ≤ 9223372036854775807 := by omega)
    (h1 : (0 : Int) ≤ a ∧ (0 : Int) ≤ m ∧ a + m - (1 : Int) = a + m - (1 : Int) ∧ a + m ≤ (↑n : Int) ∧ n ≤ (1000000 : Nat) ∧ n = n := by first | omega | assumption | rfl) : fnK Tryd.prog (mkS []) LLay Tryd.f13 [sl 0 n c, w63 a, w63 m, u64v v] [oU n xs] =
     (some (Res.ret (Value.tuple (Array.mk [])) [some (Blk.mk true (1 : Nat) [Seg.ints IntKind.u8 n (layL xs a.toNat m.toNat v)])])) :=
  Eq.trans (b :=
     bif chk ((0 : Int) ≤ a ∧ (0 : Int) ≤ m ∧ IntKind.i64.wrap (IntKind.i64.wrap (a + m) - (1 : Int)) = a + m - (1 : Int) ∧ a + m ≤ (↑n : Int) ∧ n ≤ (1000000 : Nat) ∧ n = n) then some (Res.ret (Value.tuple
     (Array.mk [])) [some (Blk.mk true (1 : Nat) [Seg.ints IntKind.u8 n (layL xs a.toNat m.toNat v)])]) else none) (by kernel_rfl) (by (try simp only [-eq_self, Int.toNat_natCast, Nat.mul_one, Nat.zero_add, segsLen_one, swrap w1.1 w1.2, swrap w2.1 w2.2]); exact (go_t (chk_t h1) rfl))
--CFEND
noncomputable def FLay : FSpec := fun args h k => match args, h with
  | [.slice (some ⟨0, 0, none⟩) n _, .int .i64 a, .int .i64 m, .int .u64 v], [some ⟨true, 1, [.ints .u8 N xs]⟩] =>
    bif chk (0 ≤ a ∧ 0 ≤ m ∧ a + m ≤ n ∧ n ≤ 1000000 ∧ N = n) then k (.tuple ⟨[]⟩) [oU n (layL xs a.toNat m.toNat v)] else none
  | _, _ => none
theorem okLay : EntryOK Tryd.prog 13 FLay := by
  refine EntryOK.of_paths (fn := Tryd.f13) follows_ok Tryd.func13 (by kernel_rfl) (by kernel_rfl) ?_
  intro args h k out hF
  unfold FLay at hF
  split at hF
  · rename_i n c a m v N xs
    obtain ⟨hb, hF2⟩ := bif_t hF
    obtain ⟨h1, h2, h3, h4, rfl⟩ := chk_iff.1 hb
    exact ⟨_, _, hF2, fun _ => ⟨_, LLay, mk0, loopsLay, pLayF v a m N c xs⟩⟩
  · cases hF
/-- The number of some bytes, the highest one first. -/
def valB (l : List Int) : Int := l.foldl (fun a x => a * 256 + x) 0
theorem valB_snoc (l : List Int) (x : Int) : valB (l ++ [x]) = valB l * 256 + x := by unfold valB; rw [List.foldl_append]; rfl
theorem valB_lt : ∀ (n : Nat) (l : List Int), l.length = n → (∀ x ∈ l, 0 ≤ x ∧ x ≤ 255) → 0 ≤ valB l ∧ valB l < 256 ^ n
  | 0, l, h, _ => by rw [List.length_eq_zero_iff.1 h]; decide
  | n + 1, l, h, hx => by
    obtain ⟨l, x, rfl⟩ : ∃ l' x, l = l' ++ [x] := ⟨l.dropLast, l.getLast (by intro e; rw [e] at h; cases h), (List.dropLast_concat_getLast _).symm⟩
    rw [List.length_append] at h
    have h1 := valB_lt n l (by simpa using h) fun y hy => hx y (List.mem_append_left _ hy)
    have h2 := hx x (List.mem_append_right _ (List.mem_singleton.2 rfl))
    rw [valB_snoc, Int.pow_succ]
    have : valB l * 256 + 256 ≤ 256 ^ n * 256 := by omega
    omega
theorem valB_be : ∀ (s : Nat) (v : Int), 0 ≤ v → valB (be v s) = v % 256 ^ s
  | 0, v, h => by simp [be, valB]
  | s + 1, v, h => by
    obtain ⟨v, rfl⟩ := Int.eq_ofNat_of_zero_le h
    have e : ∀ k : Nat, (256 : Int) ^ k = ((256 ^ k : Nat) : Int) := fun k => by simp
    rw [be_snoc, valB_snoc, valB_be s _ (by omega), e, e, Nat.pow_succ, Nat.mul_comm (256 ^ s)]
    have e1 : ((v : Int) / 256 % ((256 ^ s : Nat) : Int)) = ((v / 256 % 256 ^ s : Nat) : Int) := rfl
    have e2 : (v : Int) % ((256 * 256 ^ s : Nat) : Int) = ((v % (256 * 256 ^ s) : Nat) : Int) := rfl
    rw [e1, e2, Nat.mod_mul]
    generalize v / 256 % 256 ^ s = y
    omega
abbrev stGet (v : Int) (o n c : Nat) (i : Int) : List Value := [u64v v, slo 0 o n c, w63 n, w63 i]
theorem pow_le8 {i : Nat} (h : i ≤ 7) : (256 : Int) ^ i ≤ 72057594037927936 := by
  have : (256 : Nat) ^ i ≤ 256 ^ 7 := Nat.pow_le_pow_right (by decide) h
  have e : ((256 ^ i : Nat) : Int) = (256 : Int) ^ i := by simp
  rw [← e]; omega
theorem loopGet {o n c N : Nat} {xs : List Int} (hn : n ≤ 8) (ho : o + n ≤ N) (hl : xs.length = N) (hx : ∀ x ∈ xs, 0 ≤ x ∧ x ≤ 255) : ∀ (r i : Nat), i + r = n →
    LoopT Tryd.prog Tryd.f14.ntmps 1 (loopOf Tryd.f14 0) (zipS liveGet (stGet (valB ((xs.drop o).take i)) o n c i)) [rU N xs] (.exit 0) (zipS liveGet (stGet (valB ((xs.drop o).take n)) o n c n)) [rU N xs] := by
  intro r
  induction r with
  | zero =>
    intro i hi
    obtain rfl : i = n := by omega
    exact LoopT.last (by intro h; cases h) (CodeT.out (mk0.on _) noL_ok fun on out => pGetX _ o i c N xs on out)
  | succ r ih =>
    intro i hi
    refine LoopT.step (CodeT.on (live := liveGet) (vs1 := stGet (valB ((xs.drop o).take (i + 1))) o n c ((i + 1 : Nat) : Int)) (h1 := [rU N xs]) (mk0.on [(8, true)]) noL_ok fun on out => ?_) (ih (i + 1) (by omega))
    refine (pGet _ o n c i N xs on out).trans ?_
    have hm : xs.getD (o + i) 0 ∈ xs := by
      rw [List.getD_eq_getElem?_getD, List.getElem?_eq_getElem (by omega)]; exact List.getElem_mem ..
    have hb := hx _ hm
    have ht : (xs.drop o).take (i + 1) = (xs.drop o).take i ++ [xs.getD (o + i) 0] := by
      rw [List.take_succ_eq_append_getElem (by rw [List.length_drop]; omega), List.getElem_drop, List.getD_eq_getElem?_getD, List.getElem?_eq_getElem (by omega), Option.getD_some]
    have hv := valB_lt i ((xs.drop o).take i) (by rw [List.length_take, List.length_drop]; omega) fun x hx2 => hx x (List.mem_of_mem_drop (List.mem_of_mem_take hx2))
    have hp := pow_le8 (show i ≤ 7 by omega)
    rw [ht, valB_snoc]
    generalize valB ((xs.drop o).take i) = v at *
    generalize xs.getD (o + i) 0 = x at *
    rw [wU64, wU64, Int.emod_eq_of_lt (by omega) (by omega), Int.emod_eq_of_lt (by omega) (by omega)]
    have e := bits_up .u64 rfl (h := v) (c := x) 8 hv.1 hb.1 (by show v * 256 < 18446744073709551616; omega) (by show x < 256; omega) (by decide)
    have e2 : bits .or .u64 (v * 256) x = v * 256 + x := e
    rw [e2]; rfl
noncomputable def LGetf : LF := fun vs h k => match vs, h with
  | [.int .u64 0, .slice (some ⟨0, o, none⟩) n c, .int .i64 n', .int .i64 0], [some ⟨false, 1, [.ints .u8 N xs]⟩] =>
    bif chk (n' = n ∧ n ≤ 8 ∧ o + n ≤ N) then k (.exit 0) (stGet (valB ((xs.drop o).take n)) o n c n) [rU N xs] else none
  | _, _ => none
noncomputable def LGet : LSpec := oneL 2 liveGet LGetf
theorem loopOKGet : LoopOK Tryd.prog Tryd.f14.ntmps 1 (loopOf Tryd.f14 0) liveGet LGetf := by
  refine LoopOK.of_T ?_
  intro vs h k out hk
  unfold LGetf at hk
  split at hk
  · rename_i o n c n' N xs
    obtain ⟨hb, hk2⟩ := bif_t hk
    obtain ⟨rfl, h2, h3⟩ := chk_iff.1 hb
    refine ⟨_, _, _, hk2, fun real => ?_⟩
    have hs := real.segs (i := 0) rfl rfl _ (List.mem_cons_self ..)
    exact loopGet h2 h3 hs.1 (fun x hx => hs.2 x hx) n 0 (Nat.zero_add _)
  · cases hk
theorem loopsGet : LoopsOK Tryd.prog LGet Tryd.f14.ntmps 1 (bodyOf Tryd.f14) := loops_one rfl (by kernel_rfl) loopOKGet
--CP pGetF (o n c N : Nat) (xs : List Int) :: fnK Tryd.prog (mkS []) LGet Tryd.f14 [slo 0 o n c] [rU N xs]
theorem pGetF (o n c N : Nat) (xs : List Int)
    (h1 : (↑n : Int) = (↑n : Int) ∧ n ≤ (8 : Nat) ∧ o + n ≤ N := by first | omega | assumption | rfl) : fnK Tryd.prog (mkS []) LGet Tryd.f14 [slo 0 o n c] [rU N xs] =
     (some (Res.ret (Value.int IntKind.u64 (valB (List.take n (List.drop o xs)))) [some (Blk.mk false (1 : Nat) [Seg.ints IntKind.u8 N xs])])) :=
  Eq.trans (by kernel_rfl) (go_t (chk_t h1) rfl)
--CFEND
noncomputable def FGet : FSpec := fun args h k => match args, h with
  | [.slice (some ⟨0, o, none⟩) n _], [some ⟨false, 1, [.ints .u8 N xs]⟩] =>
    bif chk (n ≤ 8 ∧ o + n ≤ N) then k (u64v (valB ((xs.drop o).take n))) [rU N xs] else none
  | _, _ => none
theorem okGet : EntryOK Tryd.prog 14 FGet := by
  refine EntryOK.of_paths (fn := Tryd.f14) follows_ok Tryd.func14 (by kernel_rfl) (by kernel_rfl) ?_
  intro args h k out hF
  unfold FGet at hF
  split at hF
  · rename_i o n c N xs
    obtain ⟨hb, hF2⟩ := bif_t hF
    obtain ⟨h1, h2⟩ := chk_iff.1 hb
    exact ⟨_, _, hF2, fun _ => ⟨_, LGet, mk0, loopsGet, pGetF o n c N xs⟩⟩
  · cases hF
end Go.Proofs.YtidhpjgebbimdaaDoor.VC

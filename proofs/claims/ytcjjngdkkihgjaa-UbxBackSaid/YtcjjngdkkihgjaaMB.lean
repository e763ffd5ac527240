/- sirf: put: closed forms, and what it is. -/
import Derived.Test.YtcjjngdkkihgjaaMA
import Derived.Test.YtcjjngdkkihgjaaBV
namespace Go.Proofs.Ytcjjngdkkihgjaa.VC
open Go Go.Proofs

/-- Some cells written over. -/
def putB (xs : List Int) (a : Nat) (l : List Int) : List Int := xs.take a ++ (l ++ xs.drop (a + l.length))
/-- Does a value fit into a field. -/
def fitI (v s : Int) : Prop := if s < 0 then -(pw256 (manyI s) / 2) ≤ v ∧ v < pw256 (manyI s) / 2 else 0 ≤ v ∧ v < pw256 (manyI s)
instance (v s : Int) : Decidable (fitI v s) := by unfold fitI; infer_instance
noncomputable def SPutS : Spec := mkS [(100, false, FManyS), (66, false, FGetS)]
def livePutS : List Nat := [1, 2, 3, 6, 9, 10]
--CP pPutS (a s v m : Int) (n c i : Nat) (xs : List Int) (on : List Value → Heap → Out) (out : Exit → List Value → Heap → Out) :: roundK Try.prog (SPutS.on [(11, true)]) noL Try.f68.ntmps 1 (loopOf Try.f68 0) livePutS [sl 0 n c, w63 v, pt 1, .bool false, w63 m, w63 i] [oU n xs, oF 2 [a, s]] on out
theorem pPutS (a s v m : Int) (n c i : Nat) (xs : List Int) (on : List Value → Heap → Out) (out : Exit → List Value → Heap → Out)
    (w1 : -9223372036854775808 ≤ manyI s - (1 : Int) ∧ manyI s - (1 : Int) ≤ 9223372036854775807 := by omega)
    (w2 : -9223372036854775808 ≤ manyI s - (1 : Int) - (↑i : Int) ∧ manyI s - (1 : Int) - (↑i : Int) ≤ 9223372036854775807 := by omega)
    (w3 : -9223372036854775808 ≤ (8 : Int) * (manyI s - (1 : Int) - (↑i : Int)) ∧ (8 : Int) * (manyI s - (1 : Int) - (↑i : Int)) ≤ 9223372036854775807 := by omega)
    (w4 : -9223372036854775808 ≤ a + (↑i : Int) ∧ a + (↑i : Int) ≤ 9223372036854775807 := by omega)
    (w5 : -9223372036854775808 ≤ (↑i : Int) + (1 : Int) ∧ (↑i : Int) + (1 : Int) ≤ 9223372036854775807 := by omega)
    (h1 : (↑i : Int) < m := by first | omega | assumption | rfl)
    (h2 : (-8 : Int) ≤ s ∧ s ≤ (8 : Int) := by first | omega | assumption | rfl | ((repeat' with_reducible apply And.intro) <;> first | rfl | assumption | omega))
    (h3 : ¬(8 : Int) * (manyI s - (1 : Int) - (↑i : Int)) < (0 : Int) := by first | omega | assumption | rfl)
    (h4 : (0 : Int) ≤ a + (↑i : Int) := by first | omega | assumption | rfl)
    (h5 : a + (↑i : Int) < (↑n : Int) := by first | omega | assumption | rfl)
    (h6 : (a + (↑i : Int)).toNat < n := by first | omega | assumption | rfl) : roundK Try.prog (SPutS.on [(11, true)]) noL Try.f68.ntmps 1 (loopOf Try.f68 0) livePutS [sl 0 n c, w63 v, pt 1, .bool false, w63 m, w63 i] [oU n xs, oF 2 [a, s]] on out =
     (on [Value.slice (some (Addr.mk (0 : Nat) (0 : Nat) none)) n c, Value.int IntKind.i64 v, Value.pointer (some (Addr.mk (1 : Nat) (0 : Nat) none)), Value.bool false, Value.int IntKind.i64 m, Value.int
     IntKind.i64 ((↑i : Int) + (1 : Int))] [some (Blk.mk true (1 : Nat) [Seg.ints IntKind.u8 n (xs.set (a + (↑i : Int)).toNat (IntKind.u8.wrap (v.fdiv ((2 : Int) ^ min ((8 : Int) * (manyI s - (1 : Int) -
     (↑i : Int))).toNat (64 : Nat)))))]), some (Blk.mk true (2 : Nat) [Seg.ints IntKind.i64 (2 : Nat) [a, s]])]) :=
  Eq.trans (b :=
     bif decide ((↑i : Int) < m) then bif chk ((-8 : Int) ≤ s ∧ s ≤ (8 : Int)) then bif decide (IntKind.i64.wrap ((8 : Int) * IntKind.i64.wrap (IntKind.i64.wrap (manyI s - (1 : Int)) - (↑i : Int))) < (0 :
     Int)) then none else bif decide ((0 : Int) ≤ IntKind.i64.wrap (a + (↑i : Int))) && decide (IntKind.i64.wrap (a + (↑i : Int)) < (↑n : Int)) then bif ((0 : Nat) + (IntKind.i64.wrap (a + (↑i :
     Int))).toNat * (1 : Nat)).blt n then on [Value.slice (some (Addr.mk (0 : Nat) (0 : Nat) none)) n c, Value.int IntKind.i64 v, Value.pointer (some (Addr.mk (1 : Nat) (0 : Nat) none)), Value.bool false,
     Value.int IntKind.i64 m, Value.int IntKind.i64 (IntKind.i64.wrap ((↑i : Int) + (1 : Int)))] [some (Blk.mk true (1 : Nat) [Seg.ints IntKind.u8 n (xs.set ((0 : Nat) + (IntKind.i64.wrap (a + (↑i :
     Int))).toNat * (1 : Nat)) (IntKind.u8.wrap (v.fdiv ((2 : Int) ^ min (IntKind.i64.wrap ((8 : Int) * IntKind.i64.wrap (IntKind.i64.wrap (manyI s - (1 : Int)) - (↑i : Int)))).toNat (64 : Nat)))))]), some
     (Blk.mk true (2 : Nat) [Seg.ints IntKind.i64 (2 : Nat) [a, s]])] else none else none else none else none) (by kernel_rfl) (by simp only [-eq_self, Nat.mul_one, Nat.zero_add, swrap w1.1 w1.2, swrap w2.1 w2.2, swrap w3.1 w3.2, swrap w4.1 w4.2, swrap w5.1 w5.2]; exact (go_t (dec_t h1) (go_t (chk_t h2) (go_f (dec_f h3) (go_t (and_t (dec_t h4) (dec_t h5)) (go_t (blt_t h6) rfl))))))
--CFEND
--CP pPutSX (a s v m i : Int) (n c : Nat) (xs : List Int) (on : List Value → Heap → Out) (out : Exit → List Value → Heap → Out) :: roundK Try.prog (SPutS.on [(11, false)]) noL Try.f68.ntmps 1 (loopOf Try.f68 0) livePutS [sl 0 n c, w63 v, pt 1, .bool false, w63 m, w63 i] [oU n xs, oF 2 [a, s]] on out
theorem pPutSX (a s v m i : Int) (n c : Nat) (xs : List Int) (on : List Value → Heap → Out) (out : Exit → List Value → Heap → Out)
    (h1 : ¬i < m := by first | omega | assumption | rfl) : roundK Try.prog (SPutS.on [(11, false)]) noL Try.f68.ntmps 1 (loopOf Try.f68 0) livePutS [sl 0 n c, w63 v, pt 1, .bool false, w63 m, w63 i] [oU n xs, oF 2 [a, s]] on out =
     (out (Exit.exit (0 : Nat)) [Value.slice (some (Addr.mk (0 : Nat) (0 : Nat) none)) n c, Value.int IntKind.i64 v, Value.pointer (some (Addr.mk (1 : Nat) (0 : Nat) none)), Value.bool false, Value.int
     IntKind.i64 m, Value.int IntKind.i64 i] [some (Blk.mk true (1 : Nat) [Seg.ints IntKind.u8 n xs]), some (Blk.mk true (2 : Nat) [Seg.ints IntKind.i64 (2 : Nat) [a, s]])]) :=
  Eq.trans (by kernel_rfl) (go_f (dec_f h1) rfl)
--CFEND
noncomputable def LPutSf : LF := fun vs h k => match vs, h with
  | [.slice (some ⟨0, 0, none⟩) n' c, .int .i64 v, .pointer (some ⟨1, 0, none⟩), .bool false, .int .i64 m, .int .i64 0], [some ⟨true, 1, [.ints .u8 n xs]⟩, some ⟨true, 2, [.ints .i64 2 [a, s]]⟩] =>
    bif chk (n' = n ∧ m = manyI s ∧ -4 ≤ s ∧ s ≤ 4 ∧ 0 ≤ a ∧ a + manyI s ≤ n ∧ n ≤ 1000000) then k (.exit 0) [sl 0 n c, w63 v, pt 1, .bool false, w63 m, w63 m] [oU n (putB xs a.toNat (be v (manyI s).toNat)), oF 2 [a, s]] else none
  | _, _ => none
noncomputable def LPutS : LSpec := oneL 2 livePutS LPutSf
--CP pPutSF (a s v : Int) (n c : Nat) (xs : List Int) :: fnK Try.prog SPutS LPutS Try.f68 [.agg #[w63 a, w63 s], sl 0 n c, w63 v] [oU n xs]
theorem pPutSF (a s v : Int) (n c : Nat) (xs : List Int)
    (h1 : (-8 : Int) ≤ s ∧ s ≤ (8 : Int) := by first | omega | assumption | rfl | ((repeat' with_reducible apply And.intro) <;> first | rfl | assumption | omega))
    (h2 : n = n ∧ manyI s = manyI s ∧ (-4 : Int) ≤ s ∧ s ≤ (4 : Int) ∧ (0 : Int) ≤ a ∧ a + manyI s ≤ (↑n : Int) ∧ n ≤ (1000000 : Nat) := by first | omega | assumption | rfl | ((repeat' with_reducible apply And.intro) <;> first | rfl | assumption | omega))
    (h3 : (-4 : Int) ≤ s ∧ s ≤ (4 : Int) ∧ s ≠ (0 : Int) ∧ (0 : Int) ≤ a ∧ a + manyI s ≤ (↑n : Int) ∧ n ≤ n ∧ n ≤ (1000000 : Nat) := by first | omega | assumption | rfl | ((repeat' with_reducible apply And.intro) <;> first | rfl | assumption | omega)) : fnK Try.prog SPutS LPutS Try.f68 [.agg #[w63 a, w63 s], sl 0 n c, w63 v] [oU n xs] =
     (some (Res.ret (Value.bool (getV (putB xs a.toNat (be v (manyI s).toNat)) (0 : Nat) a s == v)) [some (Blk.mk true (1 : Nat) [Seg.ints IntKind.u8 n (putB xs a.toNat (be v (manyI s).toNat))])])) :=
  Eq.trans (b :=
     bif chk ((-8 : Int) ≤ s ∧ s ≤ (8 : Int)) then bif chk (n = n ∧ manyI s = manyI s ∧ (-4 : Int) ≤ s ∧ s ≤ (4 : Int) ∧ (0 : Int) ≤ a ∧ a + manyI s ≤ (↑n : Int) ∧ n ≤ (1000000 : Nat)) then bif chk ((-4 :
     Int) ≤ s ∧ s ≤ (4 : Int) ∧ s ≠ (0 : Int) ∧ (0 : Int) ≤ a ∧ a + manyI s ≤ (↑n : Int) ∧ (0 : Nat) + n ≤ n ∧ n ≤ (1000000 : Nat)) then some (Res.ret (Value.bool (getV (putB xs a.toNat (be v (manyI
     s).toNat)) (0 : Nat) a s == v)) [some (Blk.mk true (1 : Nat) [Seg.ints IntKind.u8 n (putB xs a.toNat (be v (manyI s).toNat))])]) else none else none else none) (by kernel_rfl) (by simp only [-eq_self, Nat.zero_add]; exact (go_t (chk_t h1) (go_t (chk_t h2) (go_t (chk_t h3) rfl))))
--CFEND
end Go.Proofs.Ytcjjngdkkihgjaa.VC

/- sirf: put: what it is. -/
namespace Go.Proofs.Ytcjjngdkkihgjaa.VC
open Go Go.Proofs

theorem putB_len {xs l : List Int} {a : Nat} (h : a + l.length ≤ xs.length) : (putB xs a l).length = xs.length := by
  unfold putB; rw [List.length_append, List.length_append, List.length_take, List.length_drop]; omega
theorem putB_set {xs l : List Int} {a : Nat} {x : Int} (h : a + l.length < xs.length) : (putB xs a l).set (a + l.length) x = putB xs a (l ++ [x]) := by
  unfold putB
  rw [List.set_append_right _ _ (by rw [List.length_take]; omega), List.set_append_right _ _ (by rw [List.length_take]; omega), List.length_take, show a + l.length - min a xs.length - l.length = 0 by omega, List.drop_eq_getElem_cons h, List.set_cons_zero, List.length_append, List.append_assoc]
  rfl
theorem putB_nil {xs : List Int} {a : Nat} : putB xs a [] = xs := by
  unfold putB; rw [List.nil_append, List.length_nil, Nat.add_zero, List.take_append_drop]
theorem be_get (v : Int) : ∀ (m i : Nat), i < m → (be v m)[i]? = some (beB v (m - 1 - i))
  | 0, i, h => by omega
  | m + 1, 0, h => rfl
  | m + 1, i + 1, h => by
    rw [be, List.getElem?_cons_succ, be_get v m i (by omega)]
    congr 2; omega
theorem be_take (v : Int) {m i : Nat} (h : i < m) : (be v m).take (i + 1) = (be v m).take i ++ [beB v (m - 1 - i)] := by
  rw [List.take_add_one, be_get v m i h]; rfl
theorem valB_beI : ∀ (s : Nat) (v : Int), valB (be v s) = v % 256 ^ s
  | 0, v => by simp [be, valB]
  | s + 1, v => by
    have hp : (0 : Int) < 256 ^ s := Int.pow_pos (by decide)
    rw [be_snoc, valB_snoc, valB_beI s, Int.pow_succ]
    generalize (256 : Int) ^ s = p at hp
    have h1 := Int.emod_add_mul_ediv v 256
    have h2 := Int.emod_add_mul_ediv (v / 256) p
    have h3 := Int.emod_nonneg (v / 256) (show p ≠ 0 by omega)
    have h4 := Int.emod_lt_of_pos (v / 256) hp
    have h5 : v = (v / 256 % p * 256 + v % 256) + p * 256 * (v / 256 / p) := by
      have : p * 256 * (v / 256 / p) = 256 * (p * (v / 256 / p)) := by rw [Int.mul_comm p 256, Int.mul_assoc]
      rw [this]; omega
    have h6 : 0 ≤ v / 256 % p * 256 + v % 256 ∧ v / 256 % p * 256 + v % 256 < p * 256 := by omega
    conv => rhs; rw [h5]
    rw [Int.add_mul_emod_self_left, Int.emod_eq_of_lt h6.1 h6.2]
theorem fld_put {xs l : List Int} {a m : Int} (hl : l.length = m.toNat) (h : a.toNat + l.length ≤ xs.length) : fldB (putB xs a.toNat l) 0 a m = l := by
  unfold fldB putB
  rw [Nat.zero_add, List.drop_append_of_le_length (by rw [List.length_take]; omega), List.drop_eq_nil_of_le (by rw [List.length_take]; omega), List.nil_append, ← hl, List.take_left']
  rfl
theorem fit_iff {xs : List Int} {a s v : Int} (hs : -4 ≤ s ∧ s ≤ 4) (h0 : s ≠ 0) (h : a.toNat + (manyI s).toNat ≤ xs.length) : getV (putB xs a.toNat (be v (manyI s).toNat)) 0 a s = v ↔ fitI v s := by
  have hm1 : 1 ≤ manyI s := by unfold manyI; split <;> omega
  have hm := manyI_rng hs
  have he := pw_even hm1
  have hp := pw_4 hm.2
  have e : (256 : Int) ^ (manyI s).toNat = pw256 (manyI s) := rfl
  unfold getV fitI
  rw [fld_put (be_len _ _) (by rw [be_len]; exact h), valB_beI, e]
  unfold sgnV
  rw [e]
  generalize pw256 (manyI s) = p at he hp
  have h1 := Int.emod_nonneg v (show p ≠ 0 by omega)
  have h2 := Int.emod_lt_of_pos v (show 0 < p by omega)
  have h3 := Int.emod_add_mul_ediv v p
  split
  · constructor
    · intro hv
      split at hv <;> omega
    · intro hv
      by_cases hn : v < 0
      · have : v % p = v + p := by
          rw [← Int.add_emod_right, Int.emod_eq_of_lt (by omega) (by omega)]
        rw [this, if_pos (by omega)]; omega
      · have : v % p = v := Int.emod_eq_of_lt (by omega) (by omega)
        rw [this, if_neg (by omega)]
  · constructor
    · intro hv; omega
    · intro hv; exact Int.emod_eq_of_lt (by omega) (by omega)
theorem SPutS_ok : SpecOK Try.prog SPutS := mkS_cons okManyS (mkS_cons okGetS (mkS_nil _))
theorem loopPutS {a s v : Int} {n c m : Nat} {xs : List Int} (hm : (m : Int) = manyI s) (hs : -4 ≤ s ∧ s ≤ 4) (ha : 0 ≤ a) (hn : a + m ≤ n) (hN : n ≤ 1000000) (hl : xs.length = n) : ∀ (r i : Nat), i + r = m →
    LoopT Try.prog Try.f68.ntmps 1 (loopOf Try.f68 0) (zipS livePutS [sl 0 n c, w63 v, pt 1, .bool false, w63 m, w63 i]) [oU n (putB xs a.toNat ((be v m).take i)), oF 2 [a, s]] (.exit 0)
      (zipS livePutS [sl 0 n c, w63 v, pt 1, .bool false, w63 m, w63 m]) [oU n (putB xs a.toNat (be v m)), oF 2 [a, s]] := by
  have hm4 := manyI_rng hs
  intro r
  induction r with
  | zero =>
    intro i hi
    obtain rfl : i = m := by omega
    rw [List.take_of_length_le (by rw [be_len]; exact Nat.le_refl _)]
    exact LoopT.last (by intro h; cases h) (CodeT.out (SPutS_ok.on _) noL_ok fun on out => pPutSX a s v _ _ n c _ on out)
  | succ r ih =>
    intro i hi
    refine LoopT.step (CodeT.on (live := livePutS) (vs1 := [sl 0 n c, w63 v, pt 1, .bool false, w63 m, w63 ((i + 1 : Nat) : Int)]) (h1 := [oU n (putB xs a.toNat ((be v m).take (i + 1))), oF 2 [a, s]]) (SPutS_ok.on [(11, true)]) noL_ok fun on out => ?_) (ih (i + 1) (by omega))
    refine (pPutS a s v m n c i _ on out).trans ?_
    have hlt : ((be v m).take i).length = i := by rw [List.length_take, be_len]; omega
    rw [show manyI s - 1 - (i : Int) = ((m - 1 - i : Nat) : Int) by omega, beB_shr (by omega), be_take v (by omega), ← putB_set (by rw [hlt]; omega), hlt, show (a + (i : Int)).toNat = a.toNat + i by omega]
    rfl
theorem loopOKPutS : LoopOK Try.prog Try.f68.ntmps 1 (loopOf Try.f68 0) livePutS LPutSf := by
  refine LoopOK.of_T ?_
  intro vs h k out hk
  unfold LPutSf at hk
  split at hk
  · rename_i n' c v m n xs a s
    obtain ⟨hb, hk2⟩ := bif_t hk
    obtain ⟨rfl, rfl, h3, h4, h5, h6, h7⟩ := chk_iff.1 hb
    refine ⟨_, _, _, hk2, fun real => ?_⟩
    have hs := real.segs (i := 0) rfl rfl _ (List.mem_cons_self ..)
    have hm4 := manyI_rng ⟨h3, h4⟩
    have := loopPutS (a := a) (s := s) (v := v) (n := n') (c := c) (m := (manyI s).toNat) (xs := xs) (by omega) ⟨h3, h4⟩ h5 (by omega) h7 hs.1 (manyI s).toNat 0 (by omega)
    rw [List.take_zero, putB_nil, show ((manyI s).toNat : Int) = manyI s by omega] at this
    exact this
  · cases hk
theorem loopsPutS : LoopsOK Try.prog LPutS Try.f68.ntmps 1 (bodyOf Try.f68) := loops_one rfl (by kernel_rfl) loopOKPutS
noncomputable def FPutS : FSpec := fun args h k => match args, h with
  | [.agg ⟨[.int .i64 a, .int .i64 s]⟩, .slice (some ⟨0, 0, none⟩) n' _, .int .i64 v], [some ⟨true, 1, [.ints .u8 n xs]⟩] =>
    bif chk (n' = n ∧ -4 ≤ s ∧ s ≤ 4 ∧ s ≠ 0 ∧ 0 ≤ a ∧ a + manyI s ≤ n ∧ n ≤ 1000000) then k (.bool (decide (fitI v s))) [oU n (putB xs a.toNat (be v (manyI s).toNat))] else none
  | _, _ => none
theorem okPutS : EntryOK Try.prog 68 FPutS := by
  refine EntryOK.of_paths (fn := Try.f68) follows_ok Try.func68 (by kernel_rfl) (by kernel_rfl) ?_
  intro args h k out hF
  unfold FPutS at hF
  split at hF
  · rename_i a s n' c v n xs
    obtain ⟨hb, hF2⟩ := bif_t hF
    obtain ⟨rfl, h2, h3, h4, h5, h6, h7⟩ := chk_iff.1 hb
    refine ⟨_, _, hF2, fun real => ?_⟩
    have hs := real.segs (i := 0) rfl rfl _ (List.mem_cons_self ..)
    refine ⟨_, LPutS, SPutS_ok, loopsPutS, (pPutSF a s v n' c xs).trans ?_⟩
    have hm4 := manyI_rng ⟨h2, h3⟩
    have e := fit_iff (xs := xs) (a := a) (s := s) (v := v) ⟨h2, h3⟩ h4 (by have := hs.1; omega)
    have : (getV (putB xs a.toNat (be v (manyI s).toNat)) 0 a s == v) = decide (fitI v s) := by
      by_cases hf : fitI v s
      · rw [dec_t hf]; exact eqb_t (e.2 hf)
      · rw [dec_f hf]; exact eqb_f fun x => hf (e.1 x)
    rw [this]
  · cases hF
end Go.Proofs.Ytcjjngdkkihgjaa.VC

/- sirf: Payload: closed forms. -/
namespace Go.Proofs.Ytcjjngdkkihgjaa.VC
open Go Go.Proofs

/-- Values laid one by one. -/
def payB (bs fl vs : List Int) : Nat → List Int
  | 0 => bs
  | k + 1 => putB (payB bs fl vs k) (fl.getD (k * 2) 0).toNat (be (vs.getD k 0) (manyI (fl.getD (k * 2 + 1) 0)).toNat)
def fitsTo (fl vs : List Int) (k : Nat) : Prop := ∀ i, i < k → fitI (vs.getD i 0) (fl.getD (i * 2 + 1) 0)
noncomputable def SPayR : Spec := mkS [(68, true, FPutS)]
abbrev rS (x : Int) (v : Value) : Option Blk := some ⟨true, 2, [.ints .u8 1 [x], .vals [v]]⟩
def livePayS : List Nat := [1, 2, 3, 6, 35, 36, 37]
--CP pPyR (x : Int) (n q c len i k : Nat) (vs bs fl : List Int) (on : List Value → Heap → Out) (out : Exit → List Value → Heap → Out) :: roundK Try.prog (SPayR.on [(38, true), (50, false)]) noL Try.f27.ntmps 1 (loopOf Try.f27 0) livePayS [pt 1, .slice none 0 0, w63 0, sl 2 len 0, sl 3 k 0, w63 k, w63 i] [rI n vs, rS x (sl 0 q c), oU len bs, oF (2 * k) fl] on out
theorem pPyR (x : Int) (n q c len i k : Nat) (vs bs fl : List Int) (on : List Value → Heap → Out) (out : Exit → List Value → Heap → Out)
    (w1 : -9223372036854775808 ≤ (↑i : Int) + (1 : Int) ∧ (↑i : Int) + (1 : Int) ≤ 9223372036854775807 := by omega)
    (h1 : (↑i : Int) < (↑k : Int) := by first | omega | assumption | rfl)
    (h2 : (0 : Int) ≤ (↑i : Int) := by first | omega | assumption | rfl)
    (h3 : i * (2 : Nat) < (2 : Nat) * k := by first | omega | assumption | rfl)
    (h4 : i * (2 : Nat) + (1 : Nat) < (2 : Nat) * k := by first | omega | assumption | rfl)
    (h5 : (↑i : Int) < (↑q : Int) := by first | omega | assumption | rfl)
    (h6 : i < n := by first | omega | assumption | rfl)
    (h7 : len = len ∧ (-4 : Int) ≤ fl.getD (i * (2 : Nat) + (1 : Nat)) (0 : Int) ∧ fl.getD (i * (2 : Nat) + (1 : Nat)) (0 : Int) ≤ (4 : Int) ∧ fl.getD (i * (2 : Nat) + (1 : Nat)) (0 : Int) ≠ (0 : Int) ∧ (0 : Int) ≤ fl.getD (i * (2 : Nat)) (0 : Int) ∧ fl.getD (i * (2 : Nat)) (0 : Int) + manyI (fl.getD (i * (2 : Nat) + (1 : Nat)) (0 : Int)) ≤ (↑len : Int) ∧ len ≤ (1000000 : Nat) := by first | omega | assumption | rfl | ((repeat' with_reducible apply And.intro) <;> first | rfl | assumption | omega))
    (h8 : fitI (vs.getD i (0 : Int)) (fl.getD (i * (2 : Nat) + (1 : Nat)) (0 : Int)) := by first | omega | assumption | rfl) : roundK Try.prog (SPayR.on [(38, true), (50, false)]) noL Try.f27.ntmps 1 (loopOf Try.f27 0) livePayS [pt 1, .slice none 0 0, w63 0, sl 2 len 0, sl 3 k 0, w63 k, w63 i] [rI n vs, rS x (sl 0 q c), oU len bs, oF (2 * k) fl] on out =
     (on [Value.pointer (some (Addr.mk (1 : Nat) (0 : Nat) none)), Value.slice none (0 : Nat) (0 : Nat), Value.int IntKind.i64 (0 : Int), Value.slice (some (Addr.mk (2 : Nat) (0 : Nat) none)) len (0 :
     Nat), Value.slice (some (Addr.mk (3 : Nat) (0 : Nat) none)) k (0 : Nat), Value.int IntKind.i64 (↑k : Int), Value.int IntKind.i64 ((↑i : Int) + (1 : Int))] [some (Blk.mk false (1 : Nat) [Seg.ints
     IntKind.i64 n vs]), some (Blk.mk true (2 : Nat) [Seg.ints IntKind.u8 (1 : Nat) [x], Seg.vals [Value.slice (some (Addr.mk (0 : Nat) (0 : Nat) none)) q c]]), some (Blk.mk true (1 : Nat) [Seg.ints
     IntKind.u8 len (putB bs (fl.getD (i * (2 : Nat)) (0 : Int)).toNat (be (vs.getD i (0 : Int)) (manyI (fl.getD (i * (2 : Nat) + (1 : Nat)) (0 : Int))).toNat))]), some (Blk.mk true (2 : Nat) [Seg.ints
     IntKind.i64 ((2 : Nat) * k) fl])]) :=
  Eq.trans (b :=
     bif decide ((↑i : Int) < (↑k : Int)) then bif decide ((0 : Int) ≤ (↑i : Int)) && decide ((↑i : Int) < (↑k : Int)) then bif ((0 : Nat) + (↑i : Int).toNat * (2 : Nat)).blt ((2 : Nat) * k) then bif ((0 :
     Nat) + (↑i : Int).toNat * (2 : Nat) + (1 : Nat)).blt ((2 : Nat) * k) then bif decide ((0 : Int) ≤ (↑i : Int)) && decide ((↑i : Int) < (↑q : Int)) then bif ((0 : Nat) + (↑i : Int).toNat * (1 :
     Nat)).blt n then bif chk (len = len ∧ (-4 : Int) ≤ fl.getD ((0 : Nat) + (↑i : Int).toNat * (2 : Nat) + (1 : Nat)) (0 : Int) ∧ fl.getD ((0 : Nat) + (↑i : Int).toNat * (2 : Nat) + (1 : Nat)) (0 : Int) ≤
     (4 : Int) ∧ fl.getD ((0 : Nat) + (↑i : Int).toNat * (2 : Nat) + (1 : Nat)) (0 : Int) ≠ (0 : Int) ∧ (0 : Int) ≤ fl.getD ((0 : Nat) + (↑i : Int).toNat * (2 : Nat)) (0 : Int) ∧ fl.getD ((0 : Nat) + (↑i :
     Int).toNat * (2 : Nat)) (0 : Int) + manyI (fl.getD ((0 : Nat) + (↑i : Int).toNat * (2 : Nat) + (1 : Nat)) (0 : Int)) ≤ (↑len : Int) ∧ len ≤ (1000000 : Nat)) then bif !decide (fitI (vs.getD ((0 : Nat)
     + (↑i : Int).toNat * (1 : Nat)) (0 : Int)) (fl.getD ((0 : Nat) + (↑i : Int).toNat * (2 : Nat) + (1 : Nat)) (0 : Int))) then none else on [Value.pointer (some (Addr.mk (1 : Nat) (0 : Nat) none)),
     Value.slice none (0 : Nat) (0 : Nat), Value.int IntKind.i64 (0 : Int), Value.slice (some (Addr.mk (2 : Nat) (0 : Nat) none)) len (0 : Nat), Value.slice (some (Addr.mk (3 : Nat) (0 : Nat) none)) k (0 :
     Nat), Value.int IntKind.i64 (↑k : Int), Value.int IntKind.i64 (IntKind.i64.wrap ((↑i : Int) + (1 : Int)))] [some (Blk.mk false (1 : Nat) [Seg.ints IntKind.i64 n vs]), some (Blk.mk true (2 : Nat)
     [Seg.ints IntKind.u8 (1 : Nat) [x], Seg.vals [Value.slice (some (Addr.mk (0 : Nat) (0 : Nat) none)) q c]]), some (Blk.mk true (1 : Nat) [Seg.ints IntKind.u8 len (putB bs (fl.getD ((0 : Nat) + (↑i :
     Int).toNat * (2 : Nat)) (0 : Int)).toNat (be (vs.getD ((0 : Nat) + (↑i : Int).toNat * (1 : Nat)) (0 : Int)) (manyI (fl.getD ((0 : Nat) + (↑i : Int).toNat * (2 : Nat) + (1 : Nat)) (0 :
     Int))).toNat))]), some (Blk.mk true (2 : Nat) [Seg.ints IntKind.i64 ((2 : Nat) * k) fl])] else none else none else none else none else none else none else none) (by kernel_rfl) (by simp only [-eq_self, Int.toNat_natCast, Nat.zero_add, Nat.mul_one, swrap w1.1 w1.2]; exact (go_t (dec_t h1) (go_t (and_t (dec_t h2) (dec_t h1)) (go_t (blt_t h3) (go_t (blt_t h4) (go_t (and_t (dec_t h2) (dec_t h5)) (go_t (blt_t h6) (go_t (chk_t h7) (go_f (not_f (dec_t h8)) rfl)))))))))
--CFEND
--CP pPyN (x : Int) (n q c len i k : Nat) (vs bs fl : List Int) (on : List Value → Heap → Out) (out : Exit → List Value → Heap → Out) :: roundK Try.prog (SPayR.on [(38, true), (50, true)]) noL Try.f27.ntmps 1 (loopOf Try.f27 0) livePayS [pt 1, .slice none 0 0, w63 0, sl 2 len 0, sl 3 k 0, w63 k, w63 i] [rI n vs, rS x (sl 0 q c), oU len bs, oF (2 * k) fl] on out
theorem pPyN (x : Int) (n q c len i k : Nat) (vs bs fl : List Int) (on : List Value → Heap → Out) (out : Exit → List Value → Heap → Out)
    (h1 : (↑i : Int) < (↑k : Int) := by first | omega | assumption | rfl)
    (h2 : (0 : Int) ≤ (↑i : Int) := by first | omega | assumption | rfl)
    (h3 : i * (2 : Nat) < (2 : Nat) * k := by first | omega | assumption | rfl)
    (h4 : i * (2 : Nat) + (1 : Nat) < (2 : Nat) * k := by first | omega | assumption | rfl)
    (h5 : (↑i : Int) < (↑q : Int) := by first | omega | assumption | rfl)
    (h6 : i < n := by first | omega | assumption | rfl)
    (h7 : len = len ∧ (-4 : Int) ≤ fl.getD (i * (2 : Nat) + (1 : Nat)) (0 : Int) ∧ fl.getD (i * (2 : Nat) + (1 : Nat)) (0 : Int) ≤ (4 : Int) ∧ fl.getD (i * (2 : Nat) + (1 : Nat)) (0 : Int) ≠ (0 : Int) ∧ (0 : Int) ≤ fl.getD (i * (2 : Nat)) (0 : Int) ∧ fl.getD (i * (2 : Nat)) (0 : Int) + manyI (fl.getD (i * (2 : Nat) + (1 : Nat)) (0 : Int)) ≤ (↑len : Int) ∧ len ≤ (1000000 : Nat) := by first | omega | assumption | rfl | ((repeat' with_reducible apply And.intro) <;> first | rfl | assumption | omega))
    (h8 : ¬fitI (vs.getD i (0 : Int)) (fl.getD (i * (2 : Nat) + (1 : Nat)) (0 : Int)) := by first | omega | assumption | rfl) : roundK Try.prog (SPayR.on [(38, true), (50, true)]) noL Try.f27.ntmps 1 (loopOf Try.f27 0) livePayS [pt 1, .slice none 0 0, w63 0, sl 2 len 0, sl 3 k 0, w63 k, w63 i] [rI n vs, rS x (sl 0 q c), oU len bs, oF (2 * k) fl] on out =
     (out Exit.ret [Value.pointer (some (Addr.mk (1 : Nat) (0 : Nat) none)), Value.slice none (0 : Nat) (0 : Nat), Value.int IntKind.i64 (2 : Int), Value.slice (some (Addr.mk (2 : Nat) (0 : Nat) none)) len
     (0 : Nat), Value.slice (some (Addr.mk (3 : Nat) (0 : Nat) none)) k (0 : Nat), Value.int IntKind.i64 (↑k : Int), Value.int IntKind.i64 (↑i : Int)] [some (Blk.mk false (1 : Nat) [Seg.ints IntKind.i64 n
     vs]), some (Blk.mk true (2 : Nat) [Seg.ints IntKind.u8 (1 : Nat) [x], Seg.vals [Value.slice (some (Addr.mk (0 : Nat) (0 : Nat) none)) q c]]), some (Blk.mk true (1 : Nat) [Seg.ints IntKind.u8 len (putB
     bs (fl.getD (i * (2 : Nat)) (0 : Int)).toNat (be (vs.getD i (0 : Int)) (manyI (fl.getD (i * (2 : Nat) + (1 : Nat)) (0 : Int))).toNat))]), some (Blk.mk true (2 : Nat) [Seg.ints IntKind.i64 ((2 : Nat) *
     k) fl])]) :=
  Eq.trans (b :=
     bif decide ((↑i : Int) < (↑k : Int)) then bif decide ((0 : Int) ≤ (↑i : Int)) && decide ((↑i : Int) < (↑k : Int)) then bif ((0 : Nat) + (↑i : Int).toNat * (2 : Nat)).blt ((2 : Nat) * k) then bif ((0 :
     Nat) + (↑i : Int).toNat * (2 : Nat) + (1 : Nat)).blt ((2 : Nat) * k) then bif decide ((0 : Int) ≤ (↑i : Int)) && decide ((↑i : Int) < (↑q : Int)) then bif ((0 : Nat) + (↑i : Int).toNat * (1 :
     Nat)).blt n then bif chk (len = len ∧ (-4 : Int) ≤ fl.getD ((0 : Nat) + (↑i : Int).toNat * (2 : Nat) + (1 : Nat)) (0 : Int) ∧ fl.getD ((0 : Nat) + (↑i : Int).toNat * (2 : Nat) + (1 : Nat)) (0 : Int) ≤
     (4 : Int) ∧ fl.getD ((0 : Nat) + (↑i : Int).toNat * (2 : Nat) + (1 : Nat)) (0 : Int) ≠ (0 : Int) ∧ (0 : Int) ≤ fl.getD ((0 : Nat) + (↑i : Int).toNat * (2 : Nat)) (0 : Int) ∧ fl.getD ((0 : Nat) + (↑i :
     Int).toNat * (2 : Nat)) (0 : Int) + manyI (fl.getD ((0 : Nat) + (↑i : Int).toNat * (2 : Nat) + (1 : Nat)) (0 : Int)) ≤ (↑len : Int) ∧ len ≤ (1000000 : Nat)) then bif !decide (fitI (vs.getD ((0 : Nat)
     + (↑i : Int).toNat * (1 : Nat)) (0 : Int)) (fl.getD ((0 : Nat) + (↑i : Int).toNat * (2 : Nat) + (1 : Nat)) (0 : Int))) then out Exit.ret [Value.pointer (some (Addr.mk (1 : Nat) (0 : Nat) none)),
     Value.slice none (0 : Nat) (0 : Nat), Value.int IntKind.i64 (2 : Int), Value.slice (some (Addr.mk (2 : Nat) (0 : Nat) none)) len (0 : Nat), Value.slice (some (Addr.mk (3 : Nat) (0 : Nat) none)) k (0 :
     Nat), Value.int IntKind.i64 (↑k : Int), Value.int IntKind.i64 (↑i : Int)] [some (Blk.mk false (1 : Nat) [Seg.ints IntKind.i64 n vs]), some (Blk.mk true (2 : Nat) [Seg.ints IntKind.u8 (1 : Nat) [x],
     Seg.vals [Value.slice (some (Addr.mk (0 : Nat) (0 : Nat) none)) q c]]), some (Blk.mk true (1 : Nat) [Seg.ints IntKind.u8 len (putB bs (fl.getD ((0 : Nat) + (↑i : Int).toNat * (2 : Nat)) (0 :
     Int)).toNat (be (vs.getD ((0 : Nat) + (↑i : Int).toNat * (1 : Nat)) (0 : Int)) (manyI (fl.getD ((0 : Nat) + (↑i : Int).toNat * (2 : Nat) + (1 : Nat)) (0 : Int))).toNat))]), some (Blk.mk true (2 : Nat)
     [Seg.ints IntKind.i64 ((2 : Nat) * k) fl])] else none else none else none else none else none else none else none else none) (by kernel_rfl) (by simp only [-eq_self, Int.toNat_natCast, Nat.zero_add, Nat.mul_one]; exact (go_t (dec_t h1) (go_t (and_t (dec_t h2) (dec_t h1)) (go_t (blt_t h3) (go_t (blt_t h4) (go_t (and_t (dec_t h2) (dec_t h5)) (go_t (blt_t h6) (go_t (chk_t h7) (go_t (not_t (dec_f h8)) rfl)))))))))
--CFEND
--CP pPyX (x : Int) (n q c len i k : Nat) (vs bs fl : List Int) (on : List Value → Heap → Out) (out : Exit → List Value → Heap → Out) :: roundK Try.prog (SPayR.on [(38, false)]) noL Try.f27.ntmps 1 (loopOf Try.f27 0) livePayS [pt 1, .slice none 0 0, w63 0, sl 2 len 0, sl 3 k 0, w63 k, w63 i] [rI n vs, rS x (sl 0 q c), oU len bs, oF (2 * k) fl] on out
theorem pPyX (x : Int) (n q c len i k : Nat) (vs bs fl : List Int) (on : List Value → Heap → Out) (out : Exit → List Value → Heap → Out)
    (h1 : ¬(↑i : Int) < (↑k : Int) := by first | omega | assumption | rfl) : roundK Try.prog (SPayR.on [(38, false)]) noL Try.f27.ntmps 1 (loopOf Try.f27 0) livePayS [pt 1, .slice none 0 0, w63 0, sl 2 len 0, sl 3 k 0, w63 k, w63 i] [rI n vs, rS x (sl 0 q c), oU len bs, oF (2 * k) fl] on out =
     (out (Exit.exit (1 : Nat)) [Value.pointer (some (Addr.mk (1 : Nat) (0 : Nat) none)), Value.slice none (0 : Nat) (0 : Nat), Value.int IntKind.i64 (0 : Int), Value.slice (some (Addr.mk (2 : Nat) (0 :
     Nat) none)) len (0 : Nat), Value.slice (some (Addr.mk (3 : Nat) (0 : Nat) none)) k (0 : Nat), Value.int IntKind.i64 (↑k : Int), Value.int IntKind.i64 (↑i : Int)] [some (Blk.mk false (1 : Nat)
     [Seg.ints IntKind.i64 n vs]), some (Blk.mk true (2 : Nat) [Seg.ints IntKind.u8 (1 : Nat) [x], Seg.vals [Value.slice (some (Addr.mk (0 : Nat) (0 : Nat) none)) q c]]), some (Blk.mk true (1 : Nat)
     [Seg.ints IntKind.u8 len bs]), some (Blk.mk true (2 : Nat) [Seg.ints IntKind.i64 ((2 : Nat) * k) fl])]) :=
  Eq.trans (by kernel_rfl) (go_f (dec_f h1) rfl)
--CFEND
def pyOK (k' : Int) (k q n len M : Nat) (fl : List Int) : Prop := k'.toNat = k ∧ 0 < k ∧ k ≤ 100 ∧ q = n ∧ k ≤ q ∧ fl.length = 2 * k ∧ M = 2 * k ∧ fldsOK len fl k ∧ len ≤ 1000000
noncomputable def LPyTf : LF := fun vs h k => match vs, h with
  | [.pointer (some ⟨1, 0, none⟩), .slice none 0 0, .int .i64 0, .slice (some ⟨2, 0, none⟩) len' 0, .slice (some ⟨3, 0, none⟩) q' 0, .int .i64 k', .int .i64 0], [some ⟨false, 1, [.ints .i64 n vl]⟩, some ⟨true, 2, [.ints .u8 1 [x], .vals [.slice (some ⟨0, 0, none⟩) q c]]⟩, some ⟨true, 1, [.ints .u8 len bs]⟩, some ⟨true, 2, [.ints .i64 M fl]⟩] =>
    bif chk (len' = len ∧ pyOK k' q' q n len M fl ∧ fitsTo fl vl q') then
      k (.exit 1) [pt 1, .slice none 0 0, w63 0, sl 2 len 0, sl 3 q' 0, w63 q', w63 q'] [rI n vl, rS x (sl 0 q c), oU len (payB bs fl vl q'), oF M fl] else none
  | _, _ => none
noncomputable def LPyT : LSpec := oneL 9 livePayS LPyTf
noncomputable def endPy (fl vs : List Int) (k : Nat) : Nat := @Classical.epsilon Nat ⟨0⟩ fun i => i < k ∧ ¬ fitI (vs.getD i 0) (fl.getD (i * 2 + 1) 0) ∧ fitsTo fl vs i
noncomputable def LPyFf : LF := fun vs h k => match vs, h with
  | [.pointer (some ⟨1, 0, none⟩), .slice none 0 0, .int .i64 0, .slice (some ⟨2, 0, none⟩) len' 0, .slice (some ⟨3, 0, none⟩) q' 0, .int .i64 k', .int .i64 0], [some ⟨false, 1, [.ints .i64 n vl]⟩, some ⟨true, 2, [.ints .u8 1 [x], .vals [.slice (some ⟨0, 0, none⟩) q c]]⟩, some ⟨true, 1, [.ints .u8 len bs]⟩, some ⟨true, 2, [.ints .i64 M fl]⟩] =>
    bif chk (len' = len ∧ pyOK k' q' q n len M fl ∧ ¬ fitsTo fl vl q') then
      k .ret [pt 1, .slice none 0 0, w63 2, sl 2 len 0, sl 3 q' 0, w63 q', w63 (endPy fl vl q')] [rI n vl, rS x (sl 0 q c), oU len (payB bs fl vl (endPy fl vl q' + 1)), oF M fl] else none
  | _, _ => none
noncomputable def LPyF : LSpec := oneL 9 livePayS LPyFf
noncomputable def SPayS : Spec := mkS [(65, false, FLayS)]
--CF cfPyN (x : Int) (n q c : Nat) (vs : List Int) :: fnK Try.prog (SPayS.on [(16, true)]) noL Try.f27 [.agg #[u8v x, sl 0 q c]] [rI n vs]
theorem cfPyN (x : Int) (n q c : Nat) (vs : List Int) : fnK Try.prog (SPayS.on [(16, true)]) noL Try.f27 [.agg #[u8v x, sl 0 q c]] [rI n vs] =
     (bif x == 2 then none else bif x == 4 then none else bif x == 7 then none else bif x == 41 then none else bif x == 52 then none else bif x == 11 then none else bif x == 12 then none else bif x == 166
     then none else some (Res.ret (Value.tuple (Array.mk [Value.slice none 0 0, Value.int IntKind.i64 7])) [some (Blk.mk false 1 [Seg.ints IntKind.i64 n vs])])) := by kernel_rfl
--CFEND
--CF cfPyC (x : Int) (n q c : Nat) (vs : List Int) :: fnK Try.prog (SPayS.on [(16, false), (19, true)]) noL Try.f27 [.agg #[u8v x, sl 0 q c]] [rI n vs]
theorem cfPyC (x : Int) (n q c : Nat) (vs : List Int) : fnK Try.prog (SPayS.on [(16, false), (19, true)]) noL Try.f27 [.agg #[u8v x, sl 0 q c]] [rI n vs] =
     (bif x == 2 then bif (↑q : Int) != 12 then some (Res.ret (Value.tuple (Array.mk [Value.slice none 0 0, Value.int IntKind.i64 2])) [some (Blk.mk false 1 [Seg.ints IntKind.i64 n vs])]) else none else
     bif x == 4 then bif (↑q : Int) != 3 then some (Res.ret (Value.tuple (Array.mk [Value.slice none 0 0, Value.int IntKind.i64 2])) [some (Blk.mk false 1 [Seg.ints IntKind.i64 n vs])]) else none else bif
     x == 7 then bif (↑q : Int) != 6 then some (Res.ret (Value.tuple (Array.mk [Value.slice none 0 0, Value.int IntKind.i64 2])) [some (Blk.mk false 1 [Seg.ints IntKind.i64 n vs])]) else none else bif x ==
     41 then bif (↑q : Int) != 10 then some (Res.ret (Value.tuple (Array.mk [Value.slice none 0 0, Value.int IntKind.i64 2])) [some (Blk.mk false 1 [Seg.ints IntKind.i64 n vs])]) else none else bif x == 52
     then bif (↑q : Int) != 9 then some (Res.ret (Value.tuple (Array.mk [Value.slice none 0 0, Value.int IntKind.i64 2])) [some (Blk.mk false 1 [Seg.ints IntKind.i64 n vs])]) else none else bif x == 11
     then bif (↑q : Int) != 1 then some (Res.ret (Value.tuple (Array.mk [Value.slice none 0 0, Value.int IntKind.i64 2])) [some (Blk.mk false 1 [Seg.ints IntKind.i64 n vs])]) else none else bif x == 12
     then bif (↑q : Int) != 1 then some (Res.ret (Value.tuple (Array.mk [Value.slice none 0 0, Value.int IntKind.i64 2])) [some (Blk.mk false 1 [Seg.ints IntKind.i64 n vs])]) else none else bif x == 166
     then bif (↑q : Int) != 3 then some (Res.ret (Value.tuple (Array.mk [Value.slice none 0 0, Value.int IntKind.i64 2])) [some (Blk.mk false 1 [Seg.ints IntKind.i64 n vs])]) else none else none) := by kernel_rfl
--CFEND
--CF cfPyT (x : Int) (n q c : Nat) (vs : List Int) :: fnK Try.prog (SPayS.on [(16, false), (19, false)]) LPyT Try.f27 [.agg #[u8v x, sl 0 q c]] [rI n vs]
theorem cfPyT (x : Int) (n q c : Nat) (vs : List Int) : fnK Try.prog (SPayS.on [(16, false), (19, false)]) LPyT Try.f27 [.agg #[u8v x, sl 0 q c]] [rI n vs] =
     (bif x == 2 then bif (↑q : Int) != 12 then none else bif chk (41 = 41 ∧ pyOK 12 12 q n 41 24 [1, -4, 5, -4, 9, -4, 13, -2, 15, -2, 17, -2, 19, 1, 20, 1, 21, 1, 22, 2, 24, 4, 28, 1] ∧ fitsTo [1, -4, 5,
     -4, 9, -4, 13, -2, 15, -2, 17, -2, 19, 1, 20, 1, 21, 1, 22, 2, 24, 4, 28, 1] vs 12) then some (Res.ret (Value.tuple (Array.mk [Value.slice (some (Addr.mk 1 0 none)) 41 0, Value.int IntKind.i64 0]))
     [some (Blk.mk false 1 [Seg.ints IntKind.i64 n vs]), some (Blk.mk true 1 [Seg.ints IntKind.u8 41 (payB ((List.replicate 41 0).set 0 x) [1, -4, 5, -4, 9, -4, 13, -2, 15, -2, 17, -2, 19, 1, 20, 1, 21, 1,
     22, 2, 24, 4, 28, 1] vs 12)])]) else none else bif x == 4 then bif (↑q : Int) != 3 then none else bif chk (188 = 188 ∧ pyOK 3 3 q n 188 6 [1, -2, 3, 4, 7, 1] ∧ fitsTo [1, -2, 3, 4, 7, 1] vs 3) then
     some (Res.ret (Value.tuple (Array.mk [Value.slice (some (Addr.mk 1 0 none)) 188 0, Value.int IntKind.i64 0])) [some (Blk.mk false 1 [Seg.ints IntKind.i64 n vs]), some (Blk.mk true 1 [Seg.ints
     IntKind.u8 188 (payB ((List.replicate 188 0).set 0 x) [1, -2, 3, 4, 7, 1] vs 3)])]) else none else bif x == 7 then bif (↑q : Int) != 6 then none else bif chk (20 = 20 ∧ pyOK 6 6 q n 20 12 [1, 2, 3, 4,
     7, 1, 8, 4, 12, 4, 16, 4] ∧ fitsTo [1, 2, 3, 4, 7, 1, 8, 4, 12, 4, 16, 4] vs 6) then some (Res.ret (Value.tuple (Array.mk [Value.slice (some (Addr.mk 1 0 none)) 20 0, Value.int IntKind.i64 0])) [some
     (Blk.mk false 1 [Seg.ints IntKind.i64 n vs]), some (Blk.mk true 1 [Seg.ints IntKind.u8 20 (payB ((List.replicate 20 0).set 0 x) [1, 2, 3, 4, 7, 1, 8, 4, 12, 4, 16, 4] vs 6)])]) else none else bif x ==
     41 then bif (↑q : Int) != 10 then none else bif chk (91 = 91 ∧ pyOK 10 10 q n 91 20 [1, 2, 3, 2, 5, 2, 7, 4, 11, 2, 13, 1, 14, 1, 15, 1, 16, 1, 17, 2] ∧ fitsTo [1, 2, 3, 2, 5, 2, 7, 4, 11, 2, 13, 1,
     14, 1, 15, 1, 16, 1, 17, 2] vs 10) then some (Res.ret (Value.tuple (Array.mk [Value.slice (some (Addr.mk 1 0 none)) 91 0, Value.int IntKind.i64 0])) [some (Blk.mk false 1 [Seg.ints IntKind.i64 n vs]),
     some (Blk.mk true 1 [Seg.ints IntKind.u8 91 (payB ((List.replicate 91 0).set 0 x) [1, 2, 3, 2, 5, 2, 7, 4, 11, 2, 13, 1, 14, 1, 15, 1, 16, 1, 17, 2] vs 10)])]) else none else bif x == 52 then bif (↑q
     : Int) != 9 then none else bif chk (19 = 19 ∧ pyOK 9 9 q n 19 18 [1, 1, 2, 1, 3, 1, 4, 1, 5, 1, 6, 2, 8, -2, 10, 4, 14, 1] ∧ fitsTo [1, 1, 2, 1, 3, 1, 4, 1, 5, 1, 6, 2, 8, -2, 10, 4, 14, 1] vs 9) then
     some (Res.ret (Value.tuple (Array.mk [Value.slice (some (Addr.mk 1 0 none)) 19 0, Value.int IntKind.i64 0])) [some (Blk.mk false 1 [Seg.ints IntKind.i64 n vs]), some (Blk.mk true 1 [Seg.ints
     IntKind.u8 19 (payB ((List.replicate 19 0).set 0 x) [1, 1, 2, 1, 3, 1, 4, 1, 5, 1, 6, 2, 8, -2, 10, 4, 14, 1] vs 9)])]) else none else bif x == 11 then bif (↑q : Int) != 1 then none else bif chk (2 =
     2 ∧ pyOK 1 1 q n 2 2 [1, 1] ∧ fitsTo [1, 1] vs 1) then some (Res.ret (Value.tuple (Array.mk [Value.slice (some (Addr.mk 1 0 none)) 2 0, Value.int IntKind.i64 0])) [some (Blk.mk false 1 [Seg.ints
     IntKind.i64 n vs]), some (Blk.mk true 1 [Seg.ints IntKind.u8 2 (payB ((List.replicate 2 0).set 0 x) [1, 1] vs 1)])]) else none else bif x == 12 then bif (↑q : Int) != 1 then none else bif chk (2 = 2 ∧
     pyOK 1 1 q n 2 2 [1, 1] ∧ fitsTo [1, 1] vs 1) then some (Res.ret (Value.tuple (Array.mk [Value.slice (some (Addr.mk 1 0 none)) 2 0, Value.int IntKind.i64 0])) [some (Blk.mk false 1 [Seg.ints
     IntKind.i64 n vs]), some (Blk.mk true 1 [Seg.ints IntKind.u8 2 (payB ((List.replicate 2 0).set 0 x) [1, 1] vs 1)])]) else none else bif x == 166 then bif (↑q : Int) != 3 then none else bif chk (8 = 8
     ∧ pyOK 3 3 q n 8 6 [1, 1, 2, 1, 3, 1] ∧ fitsTo [1, 1, 2, 1, 3, 1] vs 3) then some (Res.ret (Value.tuple (Array.mk [Value.slice (some (Addr.mk 1 0 none)) 8 0, Value.int IntKind.i64 0])) [some (Blk.mk
     false 1 [Seg.ints IntKind.i64 n vs]), some (Blk.mk true 1 [Seg.ints IntKind.u8 8 (payB ((List.replicate 8 0).set 0 x) [1, 1, 2, 1, 3, 1] vs 3)])]) else none else none) := by kernel_rfl
--CFEND
--CF cfPyF (x : Int) (n q c : Nat) (vs : List Int) :: fnK Try.prog (SPayS.on [(16, false), (19, false)]) LPyF Try.f27 [.agg #[u8v x, sl 0 q c]] [rI n vs]
theorem cfPyF (x : Int) (n q c : Nat) (vs : List Int) : fnK Try.prog (SPayS.on [(16, false), (19, false)]) LPyF Try.f27 [.agg #[u8v x, sl 0 q c]] [rI n vs] =
     (bif x == 2 then bif (↑q : Int) != 12 then none else bif chk (41 = 41 ∧ pyOK 12 12 q n 41 24 [1, -4, 5, -4, 9, -4, 13, -2, 15, -2, 17, -2, 19, 1, 20, 1, 21, 1, 22, 2, 24, 4, 28, 1] ∧ ¬fitsTo [1, -4,
     5, -4, 9, -4, 13, -2, 15, -2, 17, -2, 19, 1, 20, 1, 21, 1, 22, 2, 24, 4, 28, 1] vs 12) then some (Res.ret (Value.tuple (Array.mk [Value.slice none 0 0, Value.int IntKind.i64 2])) [some (Blk.mk false 1
     [Seg.ints IntKind.i64 n vs])]) else none else bif x == 4 then bif (↑q : Int) != 3 then none else bif chk (188 = 188 ∧ pyOK 3 3 q n 188 6 [1, -2, 3, 4, 7, 1] ∧ ¬fitsTo [1, -2, 3, 4, 7, 1] vs 3) then
     some (Res.ret (Value.tuple (Array.mk [Value.slice none 0 0, Value.int IntKind.i64 2])) [some (Blk.mk false 1 [Seg.ints IntKind.i64 n vs])]) else none else bif x == 7 then bif (↑q : Int) != 6 then none
     else bif chk (20 = 20 ∧ pyOK 6 6 q n 20 12 [1, 2, 3, 4, 7, 1, 8, 4, 12, 4, 16, 4] ∧ ¬fitsTo [1, 2, 3, 4, 7, 1, 8, 4, 12, 4, 16, 4] vs 6) then some (Res.ret (Value.tuple (Array.mk [Value.slice none 0
     0, Value.int IntKind.i64 2])) [some (Blk.mk false 1 [Seg.ints IntKind.i64 n vs])]) else none else bif x == 41 then bif (↑q : Int) != 10 then none else bif chk (91 = 91 ∧ pyOK 10 10 q n 91 20 [1, 2, 3,
     2, 5, 2, 7, 4, 11, 2, 13, 1, 14, 1, 15, 1, 16, 1, 17, 2] ∧ ¬fitsTo [1, 2, 3, 2, 5, 2, 7, 4, 11, 2, 13, 1, 14, 1, 15, 1, 16, 1, 17, 2] vs 10) then some (Res.ret (Value.tuple (Array.mk [Value.slice none
     0 0, Value.int IntKind.i64 2])) [some (Blk.mk false 1 [Seg.ints IntKind.i64 n vs])]) else none else bif x == 52 then bif (↑q : Int) != 9 then none else bif chk (19 = 19 ∧ pyOK 9 9 q n 19 18 [1, 1, 2,
     1, 3, 1, 4, 1, 5, 1, 6, 2, 8, -2, 10, 4, 14, 1] ∧ ¬fitsTo [1, 1, 2, 1, 3, 1, 4, 1, 5, 1, 6, 2, 8, -2, 10, 4, 14, 1] vs 9) then some (Res.ret (Value.tuple (Array.mk [Value.slice none 0 0, Value.int
     IntKind.i64 2])) [some (Blk.mk false 1 [Seg.ints IntKind.i64 n vs])]) else none else bif x == 11 then bif (↑q : Int) != 1 then none else bif chk (2 = 2 ∧ pyOK 1 1 q n 2 2 [1, 1] ∧ ¬fitsTo [1, 1] vs 1)
     then some (Res.ret (Value.tuple (Array.mk [Value.slice none 0 0, Value.int IntKind.i64 2])) [some (Blk.mk false 1 [Seg.ints IntKind.i64 n vs])]) else none else bif x == 12 then bif (↑q : Int) != 1
     then none else bif chk (2 = 2 ∧ pyOK 1 1 q n 2 2 [1, 1] ∧ ¬fitsTo [1, 1] vs 1) then some (Res.ret (Value.tuple (Array.mk [Value.slice none 0 0, Value.int IntKind.i64 2])) [some (Blk.mk false 1
     [Seg.ints IntKind.i64 n vs])]) else none else bif x == 166 then bif (↑q : Int) != 3 then none else bif chk (8 = 8 ∧ pyOK 3 3 q n 8 6 [1, 1, 2, 1, 3, 1] ∧ ¬fitsTo [1, 1, 2, 1, 3, 1] vs 3) then some
     (Res.ret (Value.tuple (Array.mk [Value.slice none 0 0, Value.int IntKind.i64 2])) [some (Blk.mk false 1 [Seg.ints IntKind.i64 n vs])]) else none else none) := by kernel_rfl
--CFEND
end Go.Proofs.Ytcjjngdkkihgjaa.VC

/- sirf: Payload: what it is. -/
namespace Go.Proofs.Ytcjjngdkkihgjaa.VC
open Go Go.Proofs

theorem SPayR_ok : SpecOK Try.prog SPayR := mkS_cons okPutS (mkS_nil _)
theorem SPayS_ok : SpecOK Try.prog SPayS := mkS_cons okLayS (mkS_nil _)
theorem loopPyT {x : Int} {n q c len k : Nat} {vs bs fl : List Int} (hk : k ≤ q) (hq : q = n) (hk1 : k ≤ 100) (hf : fldsOK len fl k) (hlen : len ≤ 1000000) (hfit : fitsTo fl vs k) : ∀ (r i : Nat), i + r = k →
    LoopT Try.prog Try.f27.ntmps 1 (loopOf Try.f27 0) (zipS livePayS [pt 1, .slice none 0 0, w63 0, sl 2 len 0, sl 3 k 0, w63 k, w63 i]) [rI n vs, rS x (sl 0 q c), oU len (payB bs fl vs i), oF (2 * k) fl] (.exit 1)
      (zipS livePayS [pt 1, .slice none 0 0, w63 0, sl 2 len 0, sl 3 k 0, w63 k, w63 k]) [rI n vs, rS x (sl 0 q c), oU len (payB bs fl vs k), oF (2 * k) fl] := by
  intro r
  induction r with
  | zero =>
    intro i hi
    obtain rfl : i = k := by omega
    exact LoopT.last (by intro h; cases h) (CodeT.out (SPayR_ok.on _) noL_ok fun on out => pPyX x n q c len i i vs _ fl on out)
  | succ r ih =>
    intro i hi
    obtain ⟨f1, f2, f3, f4, f5⟩ := hf i (by omega)
    have hfi := hfit i (by omega)
    exact LoopT.step (CodeT.on (live := livePayS) (vs1 := [pt 1, .slice none 0 0, w63 0, sl 2 len 0, sl 3 k 0, w63 k, w63 ((i + 1 : Nat) : Int)]) (h1 := [rI n vs, rS x (sl 0 q c), oU len (payB bs fl vs (i + 1)), oF (2 * k) fl]) (SPayR_ok.on _) noL_ok fun on out => pPyR x n q c len i k vs _ fl on out (h7 := ⟨rfl, f1, f2, f3, f4, f5, hlen⟩)) (ih (i + 1) (by omega))
theorem loopPyF {x : Int} {n q c len k e : Nat} {vs bs fl : List Int} (hk : k ≤ q) (hq : q = n) (hk1 : k ≤ 100) (hf : fldsOK len fl k) (hlen : len ≤ 1000000) (he : e < k) (hno : ¬ fitI (vs.getD e 0) (fl.getD (e * 2 + 1) 0)) (hfit : fitsTo fl vs e) : ∀ (r i : Nat), i + r = e →
    LoopT Try.prog Try.f27.ntmps 1 (loopOf Try.f27 0) (zipS livePayS [pt 1, .slice none 0 0, w63 0, sl 2 len 0, sl 3 k 0, w63 k, w63 i]) [rI n vs, rS x (sl 0 q c), oU len (payB bs fl vs i), oF (2 * k) fl] .ret
      (zipS livePayS [pt 1, .slice none 0 0, w63 2, sl 2 len 0, sl 3 k 0, w63 k, w63 e]) [rI n vs, rS x (sl 0 q c), oU len (payB bs fl vs (e + 1)), oF (2 * k) fl] := by
  intro r
  induction r with
  | zero =>
    intro i hi
    obtain rfl : i = e := by omega
    obtain ⟨f1, f2, f3, f4, f5⟩ := hf i (by omega)
    exact LoopT.last (by intro h; cases h) (CodeT.out (SPayR_ok.on _) noL_ok fun on out => pPyN x n q c len i k vs _ fl on out (h7 := ⟨rfl, f1, f2, f3, f4, f5, hlen⟩))
  | succ r ih =>
    intro i hi
    obtain ⟨f1, f2, f3, f4, f5⟩ := hf i (by omega)
    have hfi := hfit i (by omega)
    exact LoopT.step (CodeT.on (live := livePayS) (vs1 := [pt 1, .slice none 0 0, w63 0, sl 2 len 0, sl 3 k 0, w63 k, w63 ((i + 1 : Nat) : Int)]) (h1 := [rI n vs, rS x (sl 0 q c), oU len (payB bs fl vs (i + 1)), oF (2 * k) fl]) (SPayR_ok.on _) noL_ok fun on out => pPyR x n q c len i k vs _ fl on out (h7 := ⟨rfl, f1, f2, f3, f4, f5, hlen⟩)) (ih (i + 1) (by omega))
theorem endPy_spec {fl vs : List Int} {k : Nat} (h : ¬ fitsTo fl vs k) : endPy fl vs k < k ∧ ¬ fitI (vs.getD (endPy fl vs k) 0) (fl.getD (endPy fl vs k * 2 + 1) 0) ∧ fitsTo fl vs (endPy fl vs k) := by
  have : ∃ i, i < k ∧ ¬ fitI (vs.getD i 0) (fl.getD (i * 2 + 1) 0) ∧ fitsTo fl vs i := by
    induction k with
    | zero => exact (h fun i hi => by omega).elim
    | succ n ih =>
      by_cases hs : fitsTo fl vs n
      · refine ⟨n, by omega, fun e => h fun i hi => ?_, hs⟩
        by_cases hin : i = n
        · rw [hin]; exact e
        · exact hs i (by omega)
      · obtain ⟨i, h1, h2⟩ := ih hs
        exact ⟨i, by omega, h2⟩
  exact Classical.epsilon_spec this
theorem loopOKPyT : LoopOK Try.prog Try.f27.ntmps 1 (loopOf Try.f27 0) livePayS LPyTf := by
  refine LoopOK.of_T ?_
  intro vs h k out hk
  unfold LPyTf at hk
  split at hk
  · obtain ⟨hb, hk2⟩ := bif_t hk
    obtain ⟨rfl, ⟨h1, h2, h3, h4, h5, h6, rfl, h8, h9⟩, h10⟩ := chk_iff.1 hb
    refine ⟨_, _, _, hk2, fun real => ?_⟩
    rename_i k' _ _ _ _ _ _ _
    have : ∀ q' : Nat, k'.toNat = q' → 0 < q' → k' = q' := fun q' a b => by omega
    rw [this _ h1 h2]
    exact loopPyT h5 h4 h3 h8 h9 h10 _ 0 (Nat.zero_add _)
  · cases hk
theorem loopOKPyF : LoopOK Try.prog Try.f27.ntmps 1 (loopOf Try.f27 0) livePayS LPyFf := by
  refine LoopOK.of_T ?_
  intro vs h k out hk
  unfold LPyFf at hk
  split at hk
  · obtain ⟨hb, hk2⟩ := bif_t hk
    obtain ⟨rfl, ⟨h1, h2, h3, h4, h5, h6, rfl, h8, h9⟩, h10⟩ := chk_iff.1 hb
    refine ⟨_, _, _, hk2, fun real => ?_⟩
    rename_i k' _ _ _ _ _ _ _
    have : ∀ q' : Nat, k'.toNat = q' → 0 < q' → k' = q' := fun q' a b => by omega
    rw [this _ h1 h2]
    obtain ⟨g1, g2, g3⟩ := endPy_spec h10
    exact loopPyF h5 h4 h3 h8 h9 g1 g2 g3 _ 0 (Nat.zero_add _)
  · cases hk
theorem loopsPyT : LoopsOK Try.prog LPyT Try.f27.ntmps 1 (bodyOf Try.f27) := loops_one rfl (by kernel_rfl) loopOKPyT
theorem loopsPyF : LoopsOK Try.prog LPyF Try.f27.ntmps 1 (bodyOf Try.f27) := loops_one rfl (by kernel_rfl) loopOKPyF
/-- The empty payload of a kind. -/
def pay0 (len : Nat) (x : Int) : List Int := (List.replicate len 0).set 0 x
noncomputable def payErr (x : Int) (q : Nat) (vs : List Int) : Int := match layS x with
  | none => 7
  | some (_, fl) => @ite _ (2 * q = fl.length ∧ fitsTo fl vs q) (Classical.propDecidable _) 0 2
noncomputable def FPayK (len : Nat) (fl : List Int) : FSpec := fun args h k => match args, h with
  | [.agg ⟨[.int .u8 x, .slice (some ⟨0, 0, none⟩) q _]⟩], [some ⟨false, 1, [.ints .i64 n vs]⟩] =>
    bif chk (layS x = some (len, fl) ∧ 2 * q = fl.length ∧ q = n ∧ fitsTo fl vs q) then k (.tuple #[sl 1 len 0, w63 0]) [rI n vs, oU len (payB (pay0 len x) fl vs q)] else none
  | _, _ => none
noncomputable def FPayE (e : Int) : FSpec := fun args h k => match args, h with
  | [.agg ⟨[.int .u8 x, .slice (some ⟨0, 0, none⟩) q _]⟩], [some ⟨false, 1, [.ints .i64 n vs]⟩] =>
    bif chk (payErr x q vs = e ∧ e ≠ 0 ∧ q = n ∧ q ≤ 1000000000) then k (.tuple #[.slice none 0 0, w63 e]) [rI n vs] else none
  | _, _ => none
theorem okPayK (len : Nat) (fl : List Int) : EntryOK Try.prog 27 (FPayK len fl) := by
  refine EntryOK.of_paths (fn := Try.f27) follows_ok Try.func27 (by kernel_rfl) (by kernel_rfl) ?_
  intro args h k out hF
  unfold FPayK at hF
  split at hF
  · rename_i x q c n vs
    obtain ⟨hb, hF2⟩ := bif_t hF
    obtain ⟨hl, h2, h3, h4⟩ := chk_iff.1 hb
    obtain ⟨g1, g2, g3, g4, g5, g6⟩ := layS_ok hl
    refine ⟨_, _, hF2, fun _ => ⟨_, LPyT, SPayS_ok.on _, loopsPyT, (cfPyT x n q c vs).trans ?_⟩⟩
    obtain ⟨p, hp⟩ : ∃ p, p = fl.length / 2 := ⟨_, rfl⟩
    obtain rfl : q = p := by omega
    have hpy : pyOK (q : Int) q q n len fl.length fl := ⟨by omega, by omega, by omega, h3, Nat.le_refl _, h2.symm, h2.symm, by rw [hp]; exact g5, by omega⟩
    rcases layS_cases hl with e | e | e | e | e | e | e | e <;>
    · subst e
      cases hl
      simp only [List.length_cons, List.length_nil, Nat.reduceAdd, Nat.reduceDiv] at hp hpy
      subst hp
      simp only [Int.reduceBEq, cond_true, cond_false]
      exact go_f (bne_f rfl) (go_t (chk_t ⟨by first | rfl | trivial, hpy, h4⟩) rfl)
  · cases hF
theorem okPayE (e : Int) : EntryOK Try.prog 27 (FPayE e) := by
  refine EntryOK.of_paths (fn := Try.f27) follows_ok Try.func27 (by kernel_rfl) (by kernel_rfl) ?_
  intro args h k out hF
  unfold FPayE at hF
  split at hF
  · rename_i x q c n vs
    obtain ⟨hb, hF2⟩ := bif_t hF
    obtain ⟨he, h0, h3, _⟩ := chk_iff.1 hb
    refine ⟨_, _, hF2, fun _ => ?_⟩
    unfold payErr at he
    split at he
    · rename_i hl
      subst he
      obtain ⟨a1, a2, a3, a4, a5, a6, a7, a8⟩ := layS_none hl
      refine ⟨_, noL, SPayS_ok.on _, noL_ok, (cfPyN x n q c vs).trans ?_⟩
      rw [eqb_f a1, eqb_f a2, eqb_f a3, eqb_f a4, eqb_f a5, eqb_f a6, eqb_f a7, eqb_f a8]; rfl
    · rename_i len fl hl
      obtain ⟨g1, g2, g3, g4, g5, g6⟩ := layS_ok hl
      by_cases hc : 2 * q = fl.length ∧ fitsTo fl vs q
      · rw [if_pos hc] at he; exact (h0 he.symm).elim
      · rw [if_neg hc] at he
        subst he
        by_cases hq : 2 * q = fl.length
        · have hnf : ¬ fitsTo fl vs q := fun x => hc ⟨hq, x⟩
          refine ⟨_, LPyF, SPayS_ok.on _, loopsPyF, (cfPyF x n q c vs).trans ?_⟩
          obtain ⟨p, hp⟩ : ∃ p, p = fl.length / 2 := ⟨_, rfl⟩
          obtain rfl : q = p := by omega
          have hpy : pyOK (q : Int) q q n len fl.length fl := ⟨by omega, by omega, by omega, h3, Nat.le_refl _, hq.symm, hq.symm, by rw [hp]; exact g5, by omega⟩
          rcases layS_cases hl with e | e | e | e | e | e | e | e <;>
          · subst e
            cases hl
            simp only [List.length_cons, List.length_nil, Nat.reduceAdd, Nat.reduceDiv] at hp hpy
            subst hp
            simp only [Int.reduceBEq, cond_true, cond_false]
            exact go_f (bne_f rfl) (go_t (chk_t ⟨by first | rfl | trivial, hpy, hnf⟩) rfl)
        · refine ⟨_, noL, SPayS_ok.on _, noL_ok, (cfPyC x n q c vs).trans ?_⟩
          rcases layS_cases hl with e | e | e | e | e | e | e | e <;>
          · subst e
            cases hl
            simp only [List.length_cons, List.length_nil, Nat.reduceAdd] at hq
            exact go_t (c := ((q : Int) != _)) (bne_t (by omega)) rfl
  · cases hF
end Go.Proofs.Ytcjjngdkkihgjaa.VC

/- sums: each, Fifteen; the document's: closed forms, and what they are. -/
namespace Go.Proofs.Ytcjjngdkkihgjaa.VC
open Go Go.Proofs

theorem take_one0 {xs : List Int} {i : Nat} (h : i < xs.length) : xs.take (i + 1) = xs.take i ++ [xs.getD i 0] := by
  rw [List.take_succ_eq_append_getElem h, List.getD_eq_getElem?_getD, List.getElem?_eq_getElem h, Option.getD_some]
def sum15 (xs : List Int) : Int := xs.foldl (fun o x => (o + x) % 32768) 0
def FFf1 : FSpec := fun args h k => match args, h with
  | [.int .u8 x, .pointer (some ⟨0, 0, none⟩)], [some ⟨true, 1, [.ints .u16 1 [o]]⟩] => bif decide (0 ≤ x) && decide (x ≤ 255) then (bif decide (0 ≤ o) && decide (o < 32768) then k undef [some ⟨true, 1, [.ints .u16 1 [(o + x) % 32768]]⟩] else none) else none
  | _, _ => none
--CF cfFf1 (x o : Int) :: fnK Try.prog (mkS []) noL Try.f101 [u8v x, pt 0] [some ⟨true, 1, [.ints .u16 1 [o]]⟩]
theorem cfFf1 (x o : Int) : fnK Try.prog (mkS []) noL Try.f101 [u8v x, pt 0] [some ⟨true, 1, [.ints .u16 1 [o]]⟩] =
     (some (Res.ret (Value.tuple (Array.mk [])) [some (Blk.mk true 1 [Seg.ints IntKind.u16 1 [bits BinOp.and IntKind.u16 (IntKind.u16.wrap (o + IntKind.u16.wrap x)) 32767]])])) := by kernel_rfl
--CFEND
theorem okFf1 : EntryOK Try.prog 101 FFf1 := by
  refine EntryOK.of_paths (fn := Try.f101) follows_ok Try.func101 (by kernel_rfl) (by kernel_rfl) ?_
  intro args h k out hF
  unfold FFf1 at hF
  split at hF
  · rename_i x o
    obtain ⟨h1, hF⟩ := bif_t hF
    obtain ⟨h2, hF⟩ := bif_t hF
    simp only [Bool.and_eq_true, decide_eq_true_eq] at h1 h2
    refine ⟨_, _, hF, fun _ => ⟨_, noL, mk0, noL_ok, (cfFf1 x o).trans ?_⟩⟩
    have e : bits .and .u16 (IntKind.u16.wrap (o + IntKind.u16.wrap x)) 32767 = (o + x) % 32768 := by
      rw [wU16, wU16, Int.emod_eq_of_lt (a := x) (by omega) (by omega), Int.emod_eq_of_lt (a := o + x) (by omega) (by omega)]
      exact bits_low .u16 rfl (a := o + x) 15 (by omega) (by show o + x < 65536; omega) (by decide)
    rw [e]; rfl
  · cases hF
abbrev fn15 : Value := .func (.func 101) #[] #[pt 1]
abbrev o16 (o : Int) : Option Blk := some ⟨true, 1, [.ints .u16 1 [o]]⟩
def SEa : Spec := mkS [(101, true, FFf1)]
def liveEa : List Nat := [1, 6, 7, 8]
--CP pEa (o : Int) (n c i : Nat) (xs : List Int) (on : List Value → Heap → Out) (out : Exit → List Value → Heap → Out) :: roundK Try.prog (SEa.on [(9, true)]) noL Try.f97.ntmps 2 (loopOf Try.f97 0) liveEa [fn15, sl 0 n c, w63 n, w63 i] [rU n xs, o16 o] on out
theorem pEa (o : Int) (n c i : Nat) (xs : List Int) (on : List Value → Heap → Out) (out : Exit → List Value → Heap → Out)
    (w1 : -9223372036854775808 ≤ (↑i : Int) + (1 : Int) ∧ (↑i : Int) + (1 : Int) ≤ 9223372036854775807 := by omega)
    (h1 : (↑i : Int) < (↑n : Int) := by first | omega | assumption | rfl)
    (h2 : (0 : Int) ≤ (↑i : Int) := by first | omega | assumption | rfl)
    (h3 : i < n := by first | omega | assumption | rfl)
    (h4 : (0 : Int) ≤ xs.getD i (0 : Int) := by first | omega | assumption | rfl)
    (h5 : xs.getD i (0 : Int) ≤ (255 : Int) := by first | omega | assumption | rfl)
    (h6 : (0 : Int) ≤ o := by first | omega | assumption | rfl)
    (h7 : o < (32768 : Int) := by first | omega | assumption | rfl) : roundK Try.prog (SEa.on [(9, true)]) noL Try.f97.ntmps 2 (loopOf Try.f97 0) liveEa [fn15, sl 0 n c, w63 n, w63 i] [rU n xs, o16 o] on out =
     (on [Value.func (Fn.func (OfNat.ofNat (101 : Nat))) #[] #[Value.pointer (some (Addr.mk (1 : Nat) (0 : Nat) none))], Value.slice (some (Addr.mk (0 : Nat) (0 : Nat) none)) n c, Value.int IntKind.i64 (↑n
     : Int), Value.int IntKind.i64 ((↑i : Int) + (1 : Int))] [some (Blk.mk false (1 : Nat) [Seg.ints IntKind.u8 n xs]), some (Blk.mk true (1 : Nat) [Seg.ints IntKind.u16 (1 : Nat) [(o + xs.getD i (0 :
     Int)) % (32768 : Int)]])]) :=
  Eq.trans (b :=
     bif decide ((↑i : Int) < (↑n : Int)) then bif decide ((0 : Int) ≤ (↑i : Int)) && decide ((↑i : Int) < (↑n : Int)) then bif ((0 : Nat) + (↑i : Int).toNat * (1 : Nat)).blt n then bif decide ((0 : Int) ≤
     xs.getD ((0 : Nat) + (↑i : Int).toNat * (1 : Nat)) (0 : Int)) && decide (xs.getD ((0 : Nat) + (↑i : Int).toNat * (1 : Nat)) (0 : Int) ≤ (255 : Int)) then bif decide ((0 : Int) ≤ o) && decide (o <
     (32768 : Int)) then on [Value.func (Fn.func (OfNat.ofNat (101 : Nat))) #[] #[Value.pointer (some (Addr.mk (1 : Nat) (0 : Nat) none))], Value.slice (some (Addr.mk (0 : Nat) (0 : Nat) none)) n c,
     Value.int IntKind.i64 (↑n : Int), Value.int IntKind.i64 (IntKind.i64.wrap ((↑i : Int) + (1 : Int)))] [some (Blk.mk false (1 : Nat) [Seg.ints IntKind.u8 n xs]), some (Blk.mk true (1 : Nat) [Seg.ints
     IntKind.u16 (1 : Nat) [(o + xs.getD ((0 : Nat) + (↑i : Int).toNat * (1 : Nat)) (0 : Int)) % (32768 : Int)]])] else none else none else none else none else none) (by kernel_rfl) (by simp only [-eq_self, Int.toNat_natCast, Nat.mul_one, Nat.zero_add, swrap w1.1 w1.2]; exact (go_t (dec_t h1) (go_t (and_t (dec_t h2) (dec_t h1)) (go_t (blt_t h3) (go_t (and_t (dec_t h4) (dec_t h5)) (go_t (and_t (dec_t h6) (dec_t h7)) rfl))))))
--CFEND
--CP pEaX (o : Int) (n c i : Nat) (xs : List Int) (on : List Value → Heap → Out) (out : Exit → List Value → Heap → Out) :: roundK Try.prog (SEa.on [(9, false)]) noL Try.f97.ntmps 2 (loopOf Try.f97 0) liveEa [fn15, sl 0 n c, w63 n, w63 i] [rU n xs, o16 o] on out
theorem pEaX (o : Int) (n c i : Nat) (xs : List Int) (on : List Value → Heap → Out) (out : Exit → List Value → Heap → Out)
    (h1 : ¬(↑i : Int) < (↑n : Int) := by first | omega | assumption | rfl) : roundK Try.prog (SEa.on [(9, false)]) noL Try.f97.ntmps 2 (loopOf Try.f97 0) liveEa [fn15, sl 0 n c, w63 n, w63 i] [rU n xs, o16 o] on out =
     (out (Exit.exit (0 : Nat)) [Value.func (Fn.func (OfNat.ofNat (101 : Nat))) #[] #[Value.pointer (some (Addr.mk (1 : Nat) (0 : Nat) none))], Value.slice (some (Addr.mk (0 : Nat) (0 : Nat) none)) n c,
     Value.int IntKind.i64 (↑n : Int), Value.int IntKind.i64 (↑i : Int)] [some (Blk.mk false (1 : Nat) [Seg.ints IntKind.u8 n xs]), some (Blk.mk true (1 : Nat) [Seg.ints IntKind.u16 (1 : Nat) [o]])]) :=
  Eq.trans (by kernel_rfl) (go_f (dec_f h1) rfl)
--CFEND
noncomputable def LEaf : LF := fun vs h k => match vs, h with
  | [.func (.func 101) ⟨[]⟩ ⟨[.pointer (some ⟨1, 0, none⟩)]⟩, .slice (some ⟨0, 0, none⟩) n' c, .int .i64 m, .int .i64 0], [some ⟨false, 1, [.ints .u8 n xs]⟩, some ⟨true, 1, [.ints .u16 1 [0]]⟩] =>
    bif chk (n' = n ∧ m = n ∧ n ≤ 1000000) then k (.exit 0) [fn15, sl 0 n c, w63 n, w63 n] [rU n xs, o16 (sum15 xs)] else none
  | _, _ => none
noncomputable def LEa : LSpec := oneL 1 liveEa LEaf
--CP pEaF (n c : Nat) (xs : List Int) :: fnK Try.prog (mkS []) LEa Try.f97 [sl 0 n c, fn15] [rU n xs, o16 0]
theorem pEaF (n c : Nat) (xs : List Int)
    (h1 : n = n ∧ (↑n : Int) = (↑n : Int) ∧ n ≤ (1000000 : Nat) := by first | omega | assumption | rfl | ((repeat' with_reducible apply And.intro) <;> first | rfl | assumption | omega)) : fnK Try.prog (mkS []) LEa Try.f97 [sl 0 n c, fn15] [rU n xs, o16 0] =
     (some (Res.ret (Value.tuple (Array.mk [])) [some (Blk.mk false (1 : Nat) [Seg.ints IntKind.u8 n xs]), some (Blk.mk true (1 : Nat) [Seg.ints IntKind.u16 (1 : Nat) [sum15 xs]])])) :=
  Eq.trans (by kernel_rfl) (go_t (chk_t h1) rfl)
--CFEND
noncomputable def FEa15 : FSpec := fun args h k => match args, h with
  | [.slice (some ⟨0, 0, none⟩) n' _, .func (.func 101) ⟨[]⟩ ⟨[.pointer (some ⟨1, 0, none⟩)]⟩], [some ⟨false, 1, [.ints .u8 n xs]⟩, some ⟨true, 1, [.ints .u16 1 [0]]⟩] =>
    bif chk (n' = n ∧ n ≤ 1000000) then k undef [rU n xs, o16 (sum15 xs)] else none
  | _, _ => none
noncomputable def SFif : Spec := mkS [(97, true, FEa15)]
--CP pFif (n n' c : Nat) (xs : List Int) :: fnK Try.prog SFif noL Try.f69 [sl 0 n' c] [rU n xs]
theorem pFif (n n' c : Nat) (xs : List Int)
    (h1 : n' = n ∧ n ≤ (1000000 : Nat) := by first | omega | assumption | rfl | ((repeat' with_reducible apply And.intro) <;> first | rfl | assumption | omega)) : fnK Try.prog SFif noL Try.f69 [sl 0 n' c] [rU n xs] =
     (some (Res.ret (Value.int IntKind.u16 (sum15 xs)) [some (Blk.mk false (1 : Nat) [Seg.ints IntKind.u8 n xs])])) :=
  Eq.trans (by kernel_rfl) (go_t (chk_t h1) rfl)
--CFEND
noncomputable def FFif : FSpec := fun args h k => match args, h with
  | [.slice (some ⟨0, 0, none⟩) n' _], [some ⟨false, 1, [.ints .u8 n xs]⟩] => bif chk (n' = n ∧ n ≤ 1000000) then k (.int .u16 (sum15 xs)) [rU n xs] else none
  | _, _ => none
def liveFr : List Nat := [0, 2, 3, 4]
--CP pFr (s : Int) (n c i : Nat) (xs : List Int) (on : List Value → Heap → Out) (out : Exit → List Value → Heap → Out) :: roundK Try.prog ((mkS []).on [(8, true)]) noL Try.f70.ntmps 1 (loopOf Try.f70 0) liveFr [sl 0 n c, .int .u16 0, w63 s, w63 i] [rU n xs] on out
theorem pFr (s : Int) (n c i : Nat) (xs : List Int) (on : List Value → Heap → Out) (out : Exit → List Value → Heap → Out)
    (w1 : -9223372036854775808 ≤ xs.getD i (0 : Int) ∧ xs.getD i (0 : Int) ≤ 9223372036854775807 := by omega)
    (w2 : -9223372036854775808 ≤ s + xs.getD i (0 : Int) ∧ s + xs.getD i (0 : Int) ≤ 9223372036854775807 := by omega)
    (w3 : -9223372036854775808 ≤ (↑i : Int) + (1 : Int) ∧ (↑i : Int) + (1 : Int) ≤ 9223372036854775807 := by omega)
    (h1 : (↑i : Int) < (↑n : Int) := by first | omega | assumption | rfl)
    (h2 : (0 : Int) ≤ (↑i : Int) := by first | omega | assumption | rfl)
    (h3 : i < n := by first | omega | assumption | rfl) : roundK Try.prog ((mkS []).on [(8, true)]) noL Try.f70.ntmps 1 (loopOf Try.f70 0) liveFr [sl 0 n c, .int .u16 0, w63 s, w63 i] [rU n xs] on out =
     (on [Value.slice (some (Addr.mk (0 : Nat) (0 : Nat) none)) n c, Value.int IntKind.u16 (0 : Int), Value.int IntKind.i64 (s + xs.getD i (0 : Int)), Value.int IntKind.i64 ((↑i : Int) + (1 : Int))] [some
     (Blk.mk false (1 : Nat) [Seg.ints IntKind.u8 n xs])]) :=
  Eq.trans (b :=
     bif decide ((↑i : Int) < (↑n : Int)) then bif decide ((0 : Int) ≤ (↑i : Int)) && decide ((↑i : Int) < (↑n : Int)) then bif ((0 : Nat) + (↑i : Int).toNat * (1 : Nat)).blt n then on [Value.slice (some
     (Addr.mk (0 : Nat) (0 : Nat) none)) n c, Value.int IntKind.u16 (0 : Int), Value.int IntKind.i64 (IntKind.i64.wrap (s + IntKind.i64.wrap (xs.getD ((0 : Nat) + (↑i : Int).toNat * (1 : Nat)) (0 :
     Int)))), Value.int IntKind.i64 (IntKind.i64.wrap ((↑i : Int) + (1 : Int)))] [some (Blk.mk false (1 : Nat) [Seg.ints IntKind.u8 n xs])] else none else none else none) (by kernel_rfl) (by simp only [-eq_self, Int.toNat_natCast, Nat.mul_one, Nat.zero_add, swrap w1.1 w1.2, swrap w2.1 w2.2, swrap w3.1 w3.2]; exact (go_t (dec_t h1) (go_t (and_t (dec_t h2) (dec_t h1)) (go_t (blt_t h3) rfl))))
--CFEND
--CP pFrX (s : Int) (n c i : Nat) (xs : List Int) (on : List Value → Heap → Out) (out : Exit → List Value → Heap → Out) :: roundK Try.prog ((mkS []).on [(8, false)]) noL Try.f70.ntmps 1 (loopOf Try.f70 0) liveFr [sl 0 n c, .int .u16 0, w63 s, w63 i] [rU n xs] on out
theorem pFrX (s : Int) (n c i : Nat) (xs : List Int) (on : List Value → Heap → Out) (out : Exit → List Value → Heap → Out)
    (h1 : ¬(↑i : Int) < (↑n : Int) := by first | omega | assumption | rfl) : roundK Try.prog ((mkS []).on [(8, false)]) noL Try.f70.ntmps 1 (loopOf Try.f70 0) liveFr [sl 0 n c, .int .u16 0, w63 s, w63 i] [rU n xs] on out =
     (out (Exit.exit (0 : Nat)) [Value.slice (some (Addr.mk (0 : Nat) (0 : Nat) none)) n c, Value.int IntKind.u16 (0 : Int), Value.int IntKind.i64 s, Value.int IntKind.i64 (↑i : Int)] [some (Blk.mk false
     (1 : Nat) [Seg.ints IntKind.u8 n xs])]) :=
  Eq.trans (by kernel_rfl) (go_f (dec_f h1) rfl)
--CFEND
def sumI (xs : List Int) : Int := xs.foldl (fun o x => o + x) 0
noncomputable def LFrf : LF := fun vs h k => match vs, h with
  | [.slice (some ⟨0, 0, none⟩) n' c, .int .u16 0, .int .i64 0, .int .i64 0], [some ⟨false, 1, [.ints .u8 n xs]⟩] =>
    bif chk (n' = n ∧ n ≤ 1000000) then k (.exit 0) [sl 0 n c, .int .u16 0, w63 (sumI xs), w63 n] [rU n xs] else none
  | _, _ => none
noncomputable def LFr : LSpec := oneL 3 liveFr LFrf
--CF cfFrF (n n' c : Nat) (xs : List Int) :: fnK Try.prog (mkS []) LFr Try.f70 [sl 0 n' c] [rU n xs]
theorem cfFrF (n n' c : Nat) (xs : List Int) : fnK Try.prog (mkS []) LFr Try.f70 [sl 0 n' c] [rU n xs] =
     (bif chk (n' = n ∧ n ≤ 1000000) then some (Res.ret (Value.int IntKind.u16 (IntKind.u16.wrap ((sumI xs).tmod 32768))) [some (Blk.mk false 1 [Seg.ints IntKind.u8 n xs])]) else none) := by kernel_rfl
--CFEND
theorem sum15_rng (xs : List Int) (hx : ∀ x ∈ xs, 0 ≤ x ∧ x ≤ 255) : 0 ≤ sum15 xs ∧ sum15 xs < 32768 ∧ sum15 xs = sumI xs % 32768 ∧ 0 ≤ sumI xs ∧ sumI xs ≤ 255 * xs.length := by
  have key : ∀ (xs : List Int) (o s : Int), (∀ x ∈ xs, 0 ≤ x ∧ x ≤ 255) → o = s % 32768 → xs.foldl (fun o x => (o + x) % 32768) o = xs.foldl (fun o x => o + x) s % 32768 ∧ s ≤ xs.foldl (fun o x => o + x) s ∧ xs.foldl (fun o x => o + x) s ≤ s + 255 * xs.length := by
    intro xs
    induction xs with
    | nil => intro o s _ h; exact ⟨h, Int.le_refl _, by simp⟩
    | cons y r ih =>
      intro o s hx h
      have hy := hx y (List.mem_cons_self ..)
      obtain ⟨a, b, c⟩ := ih ((o + y) % 32768) (s + y) (fun x hx2 => hx x (List.mem_cons_of_mem _ hx2)) (by omega)
      rw [List.foldl_cons, List.foldl_cons, List.length_cons]
      exact ⟨a, by omega, by omega⟩
  obtain ⟨a, b, c⟩ := key xs 0 0 hx rfl
  unfold sum15 sumI
  rw [a]
  omega
theorem sum15_take {xs : List Int} {i : Nat} (h : i < xs.length) : sum15 (xs.take (i + 1)) = (sum15 (xs.take i) + xs.getD i 0) % 32768 := by
  have := take_one0 h
  rw [this]; unfold sum15; rw [List.foldl_append]; rfl
theorem sumI_take {xs : List Int} {i : Nat} (h : i < xs.length) : sumI (xs.take (i + 1)) = sumI (xs.take i) + xs.getD i 0 := by
  have := take_one0 h
  rw [this]; unfold sumI; rw [List.foldl_append]; rfl
theorem SEa_ok : SpecOK Try.prog SEa := mkS_cons okFf1 (mkS_nil _)
theorem getD_rng0 {xs : List Int} {i : Nat} (hx : ∀ x ∈ xs, 0 ≤ x ∧ x ≤ 255) (h : i < xs.length) : 0 ≤ xs.getD i 0 ∧ xs.getD i 0 ≤ 255 := by
  rw [List.getD_eq_getElem?_getD, List.getElem?_eq_getElem h]; exact hx _ (List.getElem_mem ..)
theorem loopEa {n c : Nat} {xs : List Int} (hn : n ≤ 1000000) (hl : xs.length = n) (hx : ∀ x ∈ xs, 0 ≤ x ∧ x ≤ 255) : ∀ (r i : Nat), i + r = n →
    LoopT Try.prog Try.f97.ntmps 2 (loopOf Try.f97 0) (zipS liveEa [fn15, sl 0 n c, w63 n, w63 i]) [rU n xs, o16 (sum15 (xs.take i))] (.exit 0) (zipS liveEa [fn15, sl 0 n c, w63 n, w63 n]) [rU n xs, o16 (sum15 xs)] := by
  intro r
  induction r with
  | zero =>
    intro i hi
    obtain rfl : i = n := by omega
    rw [List.take_of_length_le (by omega)]
    exact LoopT.last (by intro h; cases h) (CodeT.out (SEa_ok.on _) noL_ok fun on out => pEaX _ i c i xs on out)
  | succ r ih =>
    intro i hi
    have hb := getD_rng0 hx (i := i) (by omega)
    have hs := sum15_rng (xs.take i) fun x h => hx x (List.mem_of_mem_take h)
    refine LoopT.step (CodeT.on (live := liveEa) (vs1 := [fn15, sl 0 n c, w63 n, w63 ((i + 1 : Nat) : Int)]) (h1 := [rU n xs, o16 (sum15 (xs.take (i + 1)))]) (SEa_ok.on [(9, true)]) noL_ok fun on out => (pEa _ n c i xs on out).trans ?_) (ih (i + 1) (by omega))
    rw [sum15_take (by omega)]; rfl
theorem loopOKEa : LoopOK Try.prog Try.f97.ntmps 2 (loopOf Try.f97 0) liveEa LEaf := by
  refine LoopOK.of_T ?_
  intro vs h k out hk
  unfold LEaf at hk
  split at hk
  · obtain ⟨hb, hk2⟩ := bif_t hk
    obtain ⟨rfl, rfl, h3⟩ := chk_iff.1 hb
    refine ⟨_, _, _, hk2, fun real => ?_⟩
    have hs := real.segs (i := 0) rfl rfl _ (List.mem_cons_self ..)
    exact loopEa h3 hs.1 (fun x hx => hs.2 x hx) _ 0 (Nat.zero_add _)
  · cases hk
theorem loopsEa : LoopsOK Try.prog LEa Try.f97.ntmps 2 (bodyOf Try.f97) := loops_one rfl (by kernel_rfl) loopOKEa
theorem okEa15 : EntryOK Try.prog 97 FEa15 := by
  refine EntryOK.of_paths (fn := Try.f97) follows_ok Try.func97 (by kernel_rfl) (by kernel_rfl) ?_
  intro args h k out hF
  unfold FEa15 at hF
  split at hF
  · obtain ⟨hb, hF2⟩ := bif_t hF
    obtain ⟨rfl, h2⟩ := chk_iff.1 hb
    exact ⟨_, _, hF2, fun _ => ⟨_, LEa, mk0, loopsEa, pEaF _ _ _⟩⟩
  · cases hF
theorem okFif : EntryOK Try.prog 69 FFif := by
  refine EntryOK.of_paths (fn := Try.f69) follows_ok Try.func69 (by kernel_rfl) (by kernel_rfl) ?_
  intro args h k out hF
  unfold FFif at hF
  split at hF
  · obtain ⟨hb, hF2⟩ := bif_t hF
    have hc := chk_iff.1 hb
    exact ⟨_, _, hF2, fun _ => ⟨SFif, noL, mkS_cons okEa15 (mkS_nil _), noL_ok, pFif _ _ _ _ hc⟩⟩
  · cases hF
theorem loopFr {n c : Nat} {xs : List Int} (hn : n ≤ 1000000) (hl : xs.length = n) (hx : ∀ x ∈ xs, 0 ≤ x ∧ x ≤ 255) : ∀ (r i : Nat), i + r = n →
    LoopT Try.prog Try.f70.ntmps 1 (loopOf Try.f70 0) (zipS liveFr [sl 0 n c, .int .u16 0, w63 (sumI (xs.take i)), w63 i]) [rU n xs] (.exit 0) (zipS liveFr [sl 0 n c, .int .u16 0, w63 (sumI xs), w63 n]) [rU n xs] := by
  intro r
  induction r with
  | zero =>
    intro i hi
    obtain rfl : i = n := by omega
    rw [List.take_of_length_le (by omega)]
    exact LoopT.last (by intro h; cases h) (CodeT.out (mk0.on _) noL_ok fun on out => pFrX _ i c i xs on out)
  | succ r ih =>
    intro i hi
    have hb := getD_rng0 hx (i := i) (by omega)
    have hs := sum15_rng (xs.take i) fun x h => hx x (List.mem_of_mem_take h)
    have hs2 := hs.2.2.2
    rw [List.length_take] at hs2
    refine LoopT.step (CodeT.on (live := liveFr) (vs1 := [sl 0 n c, .int .u16 0, w63 (sumI (xs.take (i + 1))), w63 ((i + 1 : Nat) : Int)]) (h1 := [rU n xs]) (mk0.on [(8, true)]) noL_ok fun on out => (pFr _ n c i xs on out).trans ?_) (ih (i + 1) (by omega))
    rw [sumI_take (by omega)]; rfl
theorem loopOKFr : LoopOK Try.prog Try.f70.ntmps 1 (loopOf Try.f70 0) liveFr LFrf := by
  refine LoopOK.of_T ?_
  intro vs h k out hk
  unfold LFrf at hk
  split at hk
  · obtain ⟨hb, hk2⟩ := bif_t hk
    obtain ⟨rfl, h3⟩ := chk_iff.1 hb
    refine ⟨_, _, _, hk2, fun real => ?_⟩
    have hs := real.segs (i := 0) rfl rfl _ (List.mem_cons_self ..)
    exact loopFr h3 hs.1 (fun x hx => hs.2 x hx) _ 0 (Nat.zero_add _)
  · cases hk
theorem loopsFr : LoopsOK Try.prog LFr Try.f70.ntmps 1 (bodyOf Try.f70) := loops_one rfl (by kernel_rfl) loopOKFr
theorem okFifR : EntryOK Try.prog 70 FFif := by
  refine EntryOK.of_paths (fn := Try.f70) follows_ok Try.func70 (by kernel_rfl) (by kernel_rfl) ?_
  intro args h k out hF
  unfold FFif at hF
  split at hF
  · obtain ⟨hb, hF2⟩ := bif_t hF
    have hc := chk_iff.1 hb
    refine ⟨_, _, hF2, fun real => ⟨_, LFr, mk0, loopsFr, (cfFrF _ _ _ _).trans (go_t (chk_t hc) ?_)⟩⟩
    have hs := real.segs (i := 0) rfl rfl _ (List.mem_cons_self ..)
    obtain ⟨g1, g2, g3, g4, g5⟩ := sum15_rng _ hs.2
    rw [Int.tmod_eq_emod_of_nonneg g4, wU16, g3, Int.emod_eq_of_lt (by omega) (by omega)]
  · cases hF
end Go.Proofs.Ytcjjngdkkihgjaa.VC

/- sirf, the document's: Fits, Payload: closed forms. -/
namespace Go.Proofs.Ytcjjngdkkihgjaa.VC
open Go Go.Proofs

--CF cfFitP0 (v s : Int) :: fnK Try.prog (SPow.on [(6, false), (24, false)]) noL Try.f61 [w63 v, w63 s] []
theorem cfFitP0 (v s : Int) : fnK Try.prog (SPow.on [(6, false), (24, false)]) noL Try.f61 [w63 v, w63 s] [] =
     (bif decide (s < 0) then none else bif decide (v ≥ 0) then none else some (Res.ret (Value.bool false) [])) := by kernel_rfl
--CFEND
--CF cfFitP1 (v s : Int) :: fnK Try.prog (SPow.on [(6, false), (24, true)]) noL Try.f61 [w63 v, w63 s] []
theorem cfFitP1 (v s : Int) : fnK Try.prog (SPow.on [(6, false), (24, true)]) noL Try.f61 [w63 v, w63 s] [] =
     (bif decide (s < 0) then none else bif decide (v ≥ 0) then bif chk (0 ≤ s ∧ s ≤ 7) then some (Res.ret (Value.bool (decide (v < pw256 s))) []) else none else none) := by kernel_rfl
--CFEND
--CF cfFitN0 (v s : Int) :: fnK Try.prog (SPow.on [(6, true), (14, false)]) noL Try.f61 [w63 v, w63 s] []
theorem cfFitN0 (v s : Int) : fnK Try.prog (SPow.on [(6, true), (14, false)]) noL Try.f61 [w63 v, w63 s] [] =
     (bif decide (s < 0) then bif chk (0 ≤ IntKind.i64.wrap (0 - s) ∧ IntKind.i64.wrap (0 - s) ≤ 7) then bif decide (v ≥ IntKind.i64.wrap ((IntKind.i64.wrap (0 - pw256 (IntKind.i64.wrap (0 - s)))).tdiv 2))
     then none else some (Res.ret (Value.bool false) []) else none else none) := by kernel_rfl
--CFEND
--CF cfFitN1 (v s : Int) :: fnK Try.prog (SPow.on [(6, true), (14, true)]) noL Try.f61 [w63 v, w63 s] []
theorem cfFitN1 (v s : Int) : fnK Try.prog (SPow.on [(6, true), (14, true)]) noL Try.f61 [w63 v, w63 s] [] =
     (bif decide (s < 0) then bif chk (0 ≤ IntKind.i64.wrap (0 - s) ∧ IntKind.i64.wrap (0 - s) ≤ 7) then bif decide (v ≥ IntKind.i64.wrap ((IntKind.i64.wrap (0 - pw256 (IntKind.i64.wrap (0 - s)))).tdiv 2))
     then bif chk (0 ≤ IntKind.i64.wrap (0 - s) ∧ IntKind.i64.wrap (0 - s) ≤ 7) then some (Res.ret (Value.bool (decide (v < IntKind.i64.wrap ((pw256 (IntKind.i64.wrap (0 - s))).tdiv 2)))) []) else none
     else none else none else none) := by kernel_rfl
--CFEND
noncomputable def FFitR : FSpec := fun args h k => match args, h with
  | [.int .i64 v, .int .i64 s], [] => bif chk (-4 ≤ s ∧ s ≤ 4 ∧ s ≠ 0) then k (.bool (decide (fitI v s))) [] else none
  | _, _ => none
noncomputable def SPrR : Spec := mkS [(61, false, FFitR)]
noncomputable def outPr : Code := loopOf Try.f28 0
noncomputable def inPr : Code := ((loops outPr)[0]?).getD .skip
def livePrI : List Nat := [1, 2, 3, 4, 5, 6, 7, 8, 9, 10]
--CP pPrI0 (x v m j : Int) (n q c cc len i k : Nat) (vs bs fl : List Int) (on : List Value → Heap → Out) (out : Exit → List Value → Heap → Out) :: roundK Try.prog ((mkS []).on [(66, true), (72, false)]) noL Try.f28.ntmps 1 inPr livePrI [pt 1, .slice none 0 0, w63 0, w63 len, sl 2 (2 * k) 0, sl 3 len cc, w63 i, w63 m, w63 v, w63 j] [rI n vs, rS x (sl 0 q c), oI (2 * k) fl, oU len bs] on out
theorem pPrI0 (x v m j : Int) (n q c cc len i k : Nat) (vs bs fl : List Int) (on : List Value → Heap → Out) (out : Exit → List Value → Heap → Out)
    (w1 : -9223372036854775808 ≤ (2 : Int) * (↑i : Int) ∧ (2 : Int) * (↑i : Int) ≤ 9223372036854775807 := by omega)
    (w2 : -9223372036854775808 ≤ fl.getD ((2 : Int) * (↑i : Int)).toNat (0 : Int) + j ∧ fl.getD ((2 : Int) * (↑i : Int)).toNat (0 : Int) + j ≤ 9223372036854775807 := by omega)
    (w3 : -9223372036854775808 ≤ v - v.tmod (256 : Int) ∧ v - v.tmod (256 : Int) ≤ 9223372036854775807 := by omega)
    (w4 : -9223372036854775808 ≤ (v - v.tmod (256 : Int)).tdiv (256 : Int) ∧ (v - v.tmod (256 : Int)).tdiv (256 : Int) ≤ 9223372036854775807 := by omega)
    (w5 : -9223372036854775808 ≤ j - (1 : Int) ∧ j - (1 : Int) ≤ 9223372036854775807 := by omega)
    (h1 : j ≥ (0 : Int) := by first | omega | assumption | rfl)
    (h2 : ¬v.tmod (256 : Int) < (0 : Int) := by first | omega | assumption | rfl)
    (h3 : (0 : Int) ≤ (2 : Int) * (↑i : Int) := by first | omega | assumption | rfl)
    (h4 : (2 : Int) * (↑i : Int) < (↑((2 : Nat) * k) : Int) := by first | omega | assumption | rfl)
    (h5 : ((2 : Int) * (↑i : Int)).toNat < (2 : Nat) * k := by first | omega | assumption | rfl)
    (h6 : (0 : Int) ≤ fl.getD ((2 : Int) * (↑i : Int)).toNat (0 : Int) + j := by first | omega | assumption | rfl)
    (h7 : fl.getD ((2 : Int) * (↑i : Int)).toNat (0 : Int) + j < (↑len : Int) := by first | omega | assumption | rfl)
    (h8 : (fl.getD ((2 : Int) * (↑i : Int)).toNat (0 : Int) + j).toNat < len := by first | omega | assumption | rfl) : roundK Try.prog ((mkS []).on [(66, true), (72, false)]) noL Try.f28.ntmps 1 inPr livePrI [pt 1, .slice none 0 0, w63 0, w63 len, sl 2 (2 * k) 0, sl 3 len cc, w63 i, w63 m, w63 v, w63 j] [rI n vs, rS x (sl 0 q c), oI (2 * k) fl, oU len bs] on out =
     (on [Value.pointer (some (Addr.mk (1 : Nat) (0 : Nat) none)), Value.slice none (0 : Nat) (0 : Nat), Value.int IntKind.i64 (0 : Int), Value.int IntKind.i64 (↑len : Int), Value.slice (some (Addr.mk (2 :
     Nat) (0 : Nat) none)) ((2 : Nat) * k) (0 : Nat), Value.slice (some (Addr.mk (3 : Nat) (0 : Nat) none)) len cc, Value.int IntKind.i64 (↑i : Int), Value.int IntKind.i64 m, Value.int IntKind.i64 ((v -
     v.tmod (256 : Int)).tdiv (256 : Int)), Value.int IntKind.i64 (j - (1 : Int))] [some (Blk.mk false (1 : Nat) [Seg.ints IntKind.i64 n vs]), some (Blk.mk true (2 : Nat) [Seg.ints IntKind.u8 (1 : Nat)
     [x], Seg.vals [Value.slice (some (Addr.mk (0 : Nat) (0 : Nat) none)) q c]]), some (Blk.mk true (1 : Nat) [Seg.ints IntKind.i64 ((2 : Nat) * k) fl]), some (Blk.mk true (1 : Nat) [Seg.ints IntKind.u8
     len (bs.set (fl.getD ((2 : Int) * (↑i : Int)).toNat (0 : Int) + j).toNat (IntKind.u8.wrap (v.tmod (256 : Int))))])]) :=
  Eq.trans (b :=
     bif decide (j ≥ (0 : Int)) then bif decide (v.tmod (256 : Int) < (0 : Int)) then none else bif decide ((0 : Int) ≤ IntKind.i64.wrap ((2 : Int) * (↑i : Int))) && decide (IntKind.i64.wrap ((2 : Int) *
     (↑i : Int)) < (↑((2 : Nat) * k) : Int)) then bif ((0 : Nat) + (IntKind.i64.wrap ((2 : Int) * (↑i : Int))).toNat * (1 : Nat)).blt ((2 : Nat) * k) then bif decide ((0 : Int) ≤ IntKind.i64.wrap (fl.getD
     ((0 : Nat) + (IntKind.i64.wrap ((2 : Int) * (↑i : Int))).toNat * (1 : Nat)) (0 : Int) + j)) && decide (IntKind.i64.wrap (fl.getD ((0 : Nat) + (IntKind.i64.wrap ((2 : Int) * (↑i : Int))).toNat * (1 :
     Nat)) (0 : Int) + j) < (↑len : Int)) then bif ((0 : Nat) + (IntKind.i64.wrap (fl.getD ((0 : Nat) + (IntKind.i64.wrap ((2 : Int) * (↑i : Int))).toNat * (1 : Nat)) (0 : Int) + j)).toNat * (1 : Nat)).blt
     len then on [Value.pointer (some (Addr.mk (1 : Nat) (0 : Nat) none)), Value.slice none (0 : Nat) (0 : Nat), Value.int IntKind.i64 (0 : Int), Value.int IntKind.i64 (↑len : Int), Value.slice (some
     (Addr.mk (2 : Nat) (0 : Nat) none)) ((2 : Nat) * k) (0 : Nat), Value.slice (some (Addr.mk (3 : Nat) (0 : Nat) none)) len cc, Value.int IntKind.i64 (↑i : Int), Value.int IntKind.i64 m, Value.int
     IntKind.i64 (IntKind.i64.wrap ((IntKind.i64.wrap (v - v.tmod (256 : Int))).tdiv (256 : Int))), Value.int IntKind.i64 (IntKind.i64.wrap (j - (1 : Int)))] [some (Blk.mk false (1 : Nat) [Seg.ints
     IntKind.i64 n vs]), some (Blk.mk true (2 : Nat) [Seg.ints IntKind.u8 (1 : Nat) [x], Seg.vals [Value.slice (some (Addr.mk (0 : Nat) (0 : Nat) none)) q c]]), some (Blk.mk true (1 : Nat) [Seg.ints
     IntKind.i64 ((2 : Nat) * k) fl]), some (Blk.mk true (1 : Nat) [Seg.ints IntKind.u8 len (bs.set ((0 : Nat) + (IntKind.i64.wrap (fl.getD ((0 : Nat) + (IntKind.i64.wrap ((2 : Int) * (↑i : Int))).toNat *
     (1 : Nat)) (0 : Int) + j)).toNat * (1 : Nat)) (IntKind.u8.wrap (v.tmod (256 : Int))))])] else none else none else none else none else none) (by kernel_rfl) (by simp only [-eq_self, Nat.mul_one, Nat.zero_add, swrap w1.1 w1.2, swrap w2.1 w2.2, swrap w3.1 w3.2, swrap w4.1 w4.2, swrap w5.1 w5.2]; exact (go_t (dec_t h1) (go_f (dec_f h2) (go_t (and_t (dec_t h3) (dec_t h4)) (go_t (blt_t h5) (go_t (and_t (dec_t h6) (dec_t h7)) (go_t (blt_t h8) rfl)))))))
--CFEND
--CP pPrI1 (x v m j : Int) (n q c cc len i k : Nat) (vs bs fl : List Int) (on : List Value → Heap → Out) (out : Exit → List Value → Heap → Out) :: roundK Try.prog ((mkS []).on [(66, true), (72, true)]) noL Try.f28.ntmps 1 inPr livePrI [pt 1, .slice none 0 0, w63 0, w63 len, sl 2 (2 * k) 0, sl 3 len cc, w63 i, w63 m, w63 v, w63 j] [rI n vs, rS x (sl 0 q c), oI (2 * k) fl, oU len bs] on out
theorem pPrI1 (x v m j : Int) (n q c cc len i k : Nat) (vs bs fl : List Int) (on : List Value → Heap → Out) (out : Exit → List Value → Heap → Out)
    (w1 : -9223372036854775808 ≤ (2 : Int) * (↑i : Int) ∧ (2 : Int) * (↑i : Int) ≤ 9223372036854775807 := by omega)
    (w2 : -9223372036854775808 ≤ fl.getD ((2 : Int) * (↑i : Int)).toNat (0 : Int) + j ∧ fl.getD ((2 : Int) * (↑i : Int)).toNat (0 : Int) + j ≤ 9223372036854775807 := by omega)
    (w3 : -9223372036854775808 ≤ v.tmod (256 : Int) + (256 : Int) ∧ v.tmod (256 : Int) + (256 : Int) ≤ 9223372036854775807 := by omega)
    (w4 : -9223372036854775808 ≤ v - (v.tmod (256 : Int) + (256 : Int)) ∧ v - (v.tmod (256 : Int) + (256 : Int)) ≤ 9223372036854775807 := by omega)
    (w5 : -9223372036854775808 ≤ (v - (v.tmod (256 : Int) + (256 : Int))).tdiv (256 : Int) ∧ (v - (v.tmod (256 : Int) + (256 : Int))).tdiv (256 : Int) ≤ 9223372036854775807 := by omega)
    (w6 : -9223372036854775808 ≤ j - (1 : Int) ∧ j - (1 : Int) ≤ 9223372036854775807 := by omega)
    (h1 : j ≥ (0 : Int) := by first | omega | assumption | rfl)
    (h2 : v.tmod (256 : Int) < (0 : Int) := by first | omega | assumption | rfl)
    (h3 : (0 : Int) ≤ (2 : Int) * (↑i : Int) := by first | omega | assumption | rfl)
    (h4 : (2 : Int) * (↑i : Int) < (↑((2 : Nat) * k) : Int) := by first | omega | assumption | rfl)
    (h5 : ((2 : Int) * (↑i : Int)).toNat < (2 : Nat) * k := by first | omega | assumption | rfl)
    (h6 : (0 : Int) ≤ fl.getD ((2 : Int) * (↑i : Int)).toNat (0 : Int) + j := by first | omega | assumption | rfl)
    (h7 : fl.getD ((2 : Int) * (↑i : Int)).toNat (0 : Int) + j < (↑len : Int) := by first | omega | assumption | rfl)
    (h8 : (fl.getD ((2 : Int) * (↑i : Int)).toNat (0 : Int) + j).toNat < len := by first | omega | assumption | rfl) : roundK Try.prog ((mkS []).on [(66, true), (72, true)]) noL Try.f28.ntmps 1 inPr livePrI [pt 1, .slice none 0 0, w63 0, w63 len, sl 2 (2 * k) 0, sl 3 len cc, w63 i, w63 m, w63 v, w63 j] [rI n vs, rS x (sl 0 q c), oI (2 * k) fl, oU len bs] on out =
     (on [Value.pointer (some (Addr.mk (1 : Nat) (0 : Nat) none)), Value.slice none (0 : Nat) (0 : Nat), Value.int IntKind.i64 (0 : Int), Value.int IntKind.i64 (↑len : Int), Value.slice (some (Addr.mk (2 :
     Nat) (0 : Nat) none)) ((2 : Nat) * k) (0 : Nat), Value.slice (some (Addr.mk (3 : Nat) (0 : Nat) none)) len cc, Value.int IntKind.i64 (↑i : Int), Value.int IntKind.i64 m, Value.int IntKind.i64 ((v -
     (v.tmod (256 : Int) + (256 : Int))).tdiv (256 : Int)), Value.int IntKind.i64 (j - (1 : Int))] [some (Blk.mk false (1 : Nat) [Seg.ints IntKind.i64 n vs]), some (Blk.mk true (2 : Nat) [Seg.ints
     IntKind.u8 (1 : Nat) [x], Seg.vals [Value.slice (some (Addr.mk (0 : Nat) (0 : Nat) none)) q c]]), some (Blk.mk true (1 : Nat) [Seg.ints IntKind.i64 ((2 : Nat) * k) fl]), some (Blk.mk true (1 : Nat)
     [Seg.ints IntKind.u8 len (bs.set (fl.getD ((2 : Int) * (↑i : Int)).toNat (0 : Int) + j).toNat (IntKind.u8.wrap (v.tmod (256 : Int) + (256 : Int))))])]) :=
  Eq.trans (b :=
     bif decide (j ≥ (0 : Int)) then bif decide (v.tmod (256 : Int) < (0 : Int)) then bif decide ((0 : Int) ≤ IntKind.i64.wrap ((2 : Int) * (↑i : Int))) && decide (IntKind.i64.wrap ((2 : Int) * (↑i : Int))
     < (↑((2 : Nat) * k) : Int)) then bif ((0 : Nat) + (IntKind.i64.wrap ((2 : Int) * (↑i : Int))).toNat * (1 : Nat)).blt ((2 : Nat) * k) then bif decide ((0 : Int) ≤ IntKind.i64.wrap (fl.getD ((0 : Nat) +
     (IntKind.i64.wrap ((2 : Int) * (↑i : Int))).toNat * (1 : Nat)) (0 : Int) + j)) && decide (IntKind.i64.wrap (fl.getD ((0 : Nat) + (IntKind.i64.wrap ((2 : Int) * (↑i : Int))).toNat * (1 : Nat)) (0 :
     Int) + j) < (↑len : Int)) then bif ((0 : Nat) + (IntKind.i64.wrap (fl.getD ((0 : Nat) + (IntKind.i64.wrap ((2 : Int) * (↑i : Int))).toNat * (1 : Nat)) (0 : Int) + j)).toNat * (1 : Nat)).blt len then
     on [Value.pointer (some (Addr.mk (1 : Nat) (0 : Nat) none)), Value.slice none (0 : Nat) (0 : Nat), Value.int IntKind.i64 (0 : Int), Value.int IntKind.i64 (↑len : Int), Value.slice (some (Addr.mk (2 :
     Nat) (0 : Nat) none)) ((2 : Nat) * k) (0 : Nat), Value.slice (some (Addr.mk (3 : Nat) (0 : Nat) none)) len cc, Value.int IntKind.i64 (↑i : Int), Value.int IntKind.i64 m, Value.int IntKind.i64
     (IntKind.i64.wrap ((IntKind.i64.wrap (v - IntKind.i64.wrap (v.tmod (256 : Int) + (256 : Int)))).tdiv (256 : Int))), Value.int IntKind.i64 (IntKind.i64.wrap (j - (1 : Int)))] [some (Blk.mk false (1 :
     Nat) [Seg.ints IntKind.i64 n vs]), some (Blk.mk true (2 : Nat) [Seg.ints IntKind.u8 (1 : Nat) [x], Seg.vals [Value.slice (some (Addr.mk (0 : Nat) (0 : Nat) none)) q c]]), some (Blk.mk true (1 : Nat)
     [Seg.ints IntKind.i64 ((2 : Nat) * k) fl]), some (Blk.mk true (1 : Nat) [Seg.ints IntKind.u8 len (bs.set ((0 : Nat) + (IntKind.i64.wrap (fl.getD ((0 : Nat) + (IntKind.i64.wrap ((2 : Int) * (↑i :
     Int))).toNat * (1 : Nat)) (0 : Int) + j)).toNat * (1 : Nat)) (IntKind.u8.wrap (IntKind.i64.wrap (v.tmod (256 : Int) + (256 : Int)))))])] else none else none else none else none else none else none) (by kernel_rfl) (by simp only [-eq_self, Nat.mul_one, Nat.zero_add, swrap w1.1 w1.2, swrap w2.1 w2.2, swrap w3.1 w3.2, swrap w4.1 w4.2, swrap w5.1 w5.2, swrap w6.1 w6.2]; exact (go_t (dec_t h1) (go_t (dec_t h2) (go_t (and_t (dec_t h3) (dec_t h4)) (go_t (blt_t h5) (go_t (and_t (dec_t h6) (dec_t h7)) (go_t (blt_t h8) rfl)))))))
--CFEND
--CP pPrIX (x v m j : Int) (n q c cc len i k : Nat) (vs bs fl : List Int) (on : List Value → Heap → Out) (out : Exit → List Value → Heap → Out) :: roundK Try.prog ((mkS []).on [(66, false)]) noL Try.f28.ntmps 1 inPr livePrI [pt 1, .slice none 0 0, w63 0, w63 len, sl 2 (2 * k) 0, sl 3 len cc, w63 i, w63 m, w63 v, w63 j] [rI n vs, rS x (sl 0 q c), oI (2 * k) fl, oU len bs] on out
theorem pPrIX (x v m j : Int) (n q c cc len i k : Nat) (vs bs fl : List Int) (on : List Value → Heap → Out) (out : Exit → List Value → Heap → Out)
    (h1 : ¬j ≥ (0 : Int) := by first | omega | assumption | rfl) : roundK Try.prog ((mkS []).on [(66, false)]) noL Try.f28.ntmps 1 inPr livePrI [pt 1, .slice none 0 0, w63 0, w63 len, sl 2 (2 * k) 0, sl 3 len cc, w63 i, w63 m, w63 v, w63 j] [rI n vs, rS x (sl 0 q c), oI (2 * k) fl, oU len bs] on out =
     (out (Exit.exit (2 : Nat)) [Value.pointer (some (Addr.mk (1 : Nat) (0 : Nat) none)), Value.slice none (0 : Nat) (0 : Nat), Value.int IntKind.i64 (0 : Int), Value.int IntKind.i64 (↑len : Int),
     Value.slice (some (Addr.mk (2 : Nat) (0 : Nat) none)) ((2 : Nat) * k) (0 : Nat), Value.slice (some (Addr.mk (3 : Nat) (0 : Nat) none)) len cc, Value.int IntKind.i64 (↑i : Int), Value.int IntKind.i64
     m, Value.int IntKind.i64 v, Value.int IntKind.i64 j] [some (Blk.mk false (1 : Nat) [Seg.ints IntKind.i64 n vs]), some (Blk.mk true (2 : Nat) [Seg.ints IntKind.u8 (1 : Nat) [x], Seg.vals [Value.slice
     (some (Addr.mk (0 : Nat) (0 : Nat) none)) q c]]), some (Blk.mk true (1 : Nat) [Seg.ints IntKind.i64 ((2 : Nat) * k) fl]), some (Blk.mk true (1 : Nat) [Seg.ints IntKind.u8 len bs])]) :=
  Eq.trans (by kernel_rfl) (go_f (dec_f h1) rfl)
--CFEND
noncomputable def LPrIf : LF := fun vs h k => match vs, h with
  | [.pointer (some ⟨1, 0, none⟩), .slice none 0 0, .int .i64 0, .int .i64 ln, .slice (some ⟨2, 0, none⟩) K' 0, .slice (some ⟨3, 0, none⟩) len' cc, .int .i64 i, .int .i64 m, .int .i64 v, .int .i64 j], [some ⟨false, 1, [.ints .i64 n vl]⟩, some ⟨true, 2, [.ints .u8 1 [x], .vals [.slice (some ⟨0, 0, none⟩) q c]]⟩, some ⟨true, 1, [.ints .i64 K fl]⟩, some ⟨true, 1, [.ints .u8 len bs]⟩] =>
    bif chk (K' = K ∧ len' = len ∧ j = m - 1 ∧ 1 ≤ m ∧ m ≤ 4 ∧ 0 ≤ i ∧ K = 2 * (K / 2) ∧ 2 * i < K ∧ ln = len ∧ 0 ≤ fl.getD (2 * i).toNat 0 ∧ fl.getD (2 * i).toNat 0 + m ≤ len ∧ len ≤ 1000000 ∧ K ≤ 1000000 ∧ -1000000000000 ≤ v ∧ v ≤ 1000000000000) then
      k (.exit 2) [pt 1, .slice none 0 0, w63 0, w63 len, sl 2 K 0, sl 3 len cc, w63 i, w63 m, w63 (v / pw256 m), w63 (-1)] [rI n vl, rS x (sl 0 q c), oI K fl, oU len (putB bs (fl.getD (2 * i).toNat 0).toNat (be v m.toNat))] else none
  | _, _ => none
noncomputable def LPrI : LSpec := oneL 18 livePrI LPrIf
def livePrO : List Nat := [1, 2, 3, 4, 5, 6, 7]
--CP pPrP (x : Int) (n q c cc len i k : Nat) (vs bs fl : List Int) (on : List Value → Heap → Out) (out : Exit → List Value → Heap → Out) :: roundK Try.prog (SPrR.on [(37, true), (53, false), (55, false)]) LPrI Try.f28.ntmps 1 outPr livePrO [pt 1, .slice none 0 0, w63 0, w63 len, sl 2 (2 * k) 0, sl 3 len cc, w63 i] [rI n vs, rS x (sl 0 q c), oI (2 * k) fl, oU len bs] on out
theorem pPrP (x : Int) (n q c cc len i k : Nat) (vs bs fl : List Int) (on : List Value → Heap → Out) (out : Exit → List Value → Heap → Out)
    (w1 : -9223372036854775808 ≤ (2 : Int) * (↑i : Int) ∧ (2 : Int) * (↑i : Int) ≤ 9223372036854775807 := by omega)
    (w2 : -9223372036854775808 ≤ (2 : Int) * (↑i : Int) + (1 : Int) ∧ (2 : Int) * (↑i : Int) + (1 : Int) ≤ 9223372036854775807 := by omega)
    (w3 : -9223372036854775808 ≤ fl.getD ((2 : Int) * (↑i : Int) + (1 : Int)).toNat (0 : Int) - (1 : Int) ∧ fl.getD ((2 : Int) * (↑i : Int) + (1 : Int)).toNat (0 : Int) - (1 : Int) ≤ 9223372036854775807 := by omega)
    (w4 : -9223372036854775808 ≤ (↑i : Int) + (1 : Int) ∧ (↑i : Int) + (1 : Int) ≤ 9223372036854775807 := by omega)
    (h1 : (↑i : Int) < (↑q : Int) := by first | omega | assumption | rfl)
    (h2 : (0 : Int) ≤ (2 : Int) * (↑i : Int) + (1 : Int) := by first | omega | assumption | rfl)
    (h3 : (2 : Int) * (↑i : Int) + (1 : Int) < (↑((2 : Nat) * k) : Int) := by first | omega | assumption | rfl)
    (h4 : ((2 : Int) * (↑i : Int) + (1 : Int)).toNat < (2 : Nat) * k := by first | omega | assumption | rfl)
    (h5 : (0 : Int) ≤ (↑i : Int) := by first | omega | assumption | rfl)
    (h6 : i < n := by first | omega | assumption | rfl)
    (h7 : (-4 : Int) ≤ fl.getD ((2 : Int) * (↑i : Int) + (1 : Int)).toNat (0 : Int) ∧ fl.getD ((2 : Int) * (↑i : Int) + (1 : Int)).toNat (0 : Int) ≤ (4 : Int) ∧ fl.getD ((2 : Int) * (↑i : Int) + (1 : Int)).toNat (0 : Int) ≠ (0 : Int) := by first | omega | assumption | rfl | ((repeat' with_reducible apply And.intro) <;> first | rfl | assumption | omega))
    (h8 : fitI (vs.getD i (0 : Int)) (fl.getD ((2 : Int) * (↑i : Int) + (1 : Int)).toNat (0 : Int)) := by first | omega | assumption | rfl)
    (h9 : ¬fl.getD ((2 : Int) * (↑i : Int) + (1 : Int)).toNat (0 : Int) < (0 : Int) := by first | omega | assumption | rfl)
    (h10 : (2 : Nat) * k = (2 : Nat) * k ∧ len = len ∧ fl.getD ((2 : Int) * (↑i : Int) + (1 : Int)).toNat (0 : Int) - (1 : Int) = fl.getD ((2 : Int) * (↑i : Int) + (1 : Int)).toNat (0 : Int) - (1 : Int) ∧ (1 : Int) ≤ fl.getD ((2 : Int) * (↑i : Int) + (1 : Int)).toNat (0 : Int) ∧ fl.getD ((2 : Int) * (↑i : Int) + (1 : Int)).toNat (0 : Int) ≤ (4 : Int) ∧ (0 : Int) ≤ (↑i : Int) ∧ (2 : Nat) * k = (2 : Nat) * ((2 : Nat) * k / (2 : Nat)) ∧ (2 : Int) * (↑i : Int) < (↑((2 : Nat) * k) : Int) ∧ (↑len : Int) = (↑len : Int) ∧ (0 : Int) ≤ fl.getD ((2 : Int) * (↑i : Int)).toNat (0 : Int) ∧ fl.getD ((2 : Int) * (↑i : Int)).toNat (0 : Int) + fl.getD ((2 : Int) * (↑i : Int) + (1 : Int)).toNat (0 : Int) ≤ (↑len : Int) ∧ len ≤ (1000000 : Nat) ∧ (2 : Nat) * k ≤ (1000000 : Nat) ∧ (-1000000000000 : Int) ≤ vs.getD i (0 : Int) ∧ vs.getD i (0 : Int) ≤ (1000000000000 : Int) := by first | omega | assumption | rfl | ((repeat' with_reducible apply And.intro) <;> first | rfl | assumption | omega)) : roundK Try.prog (SPrR.on [(37, true), (53, false), (55, false)]) LPrI Try.f28.ntmps 1 outPr livePrO [pt 1, .slice none 0 0, w63 0, w63 len, sl 2 (2 * k) 0, sl 3 len cc, w63 i] [rI n vs, rS x (sl 0 q c), oI (2 * k) fl, oU len bs] on out =
     (on [Value.pointer (some (Addr.mk (1 : Nat) (0 : Nat) none)), Value.slice none (0 : Nat) (0 : Nat), Value.int IntKind.i64 (0 : Int), Value.int IntKind.i64 (↑len : Int), Value.slice (some (Addr.mk (2 :
     Nat) (0 : Nat) none)) ((2 : Nat) * k) (0 : Nat), Value.slice (some (Addr.mk (3 : Nat) (0 : Nat) none)) len cc, Value.int IntKind.i64 ((↑i : Int) + (1 : Int))] [some (Blk.mk false (1 : Nat) [Seg.ints
     IntKind.i64 n vs]), some (Blk.mk true (2 : Nat) [Seg.ints IntKind.u8 (1 : Nat) [x], Seg.vals [Value.slice (some (Addr.mk (0 : Nat) (0 : Nat) none)) q c]]), some (Blk.mk true (1 : Nat) [Seg.ints
     IntKind.i64 ((2 : Nat) * k) fl]), some (Blk.mk true (1 : Nat) [Seg.ints IntKind.u8 len (putB bs (fl.getD ((2 : Int) * (↑i : Int)).toNat (0 : Int)).toNat (be (vs.getD i (0 : Int)) (fl.getD ((2 : Int) *
     (↑i : Int) + (1 : Int)).toNat (0 : Int)).toNat))])]) :=
  Eq.trans (b :=
     bif decide ((↑i : Int) < (↑q : Int)) then bif decide ((0 : Int) ≤ IntKind.i64.wrap (IntKind.i64.wrap ((2 : Int) * (↑i : Int)) + (1 : Int))) && decide (IntKind.i64.wrap (IntKind.i64.wrap ((2 : Int) *
     (↑i : Int)) + (1 : Int)) < (↑((2 : Nat) * k) : Int)) then bif ((0 : Nat) + (IntKind.i64.wrap (IntKind.i64.wrap ((2 : Int) * (↑i : Int)) + (1 : Int))).toNat * (1 : Nat)).blt ((2 : Nat) * k) then bif
     decide ((0 : Int) ≤ (↑i : Int)) && decide ((↑i : Int) < (↑q : Int)) then bif ((0 : Nat) + (↑i : Int).toNat * (1 : Nat)).blt n then bif chk ((-4 : Int) ≤ fl.getD ((0 : Nat) + (IntKind.i64.wrap
     (IntKind.i64.wrap ((2 : Int) * (↑i : Int)) + (1 : Int))).toNat * (1 : Nat)) (0 : Int) ∧ fl.getD ((0 : Nat) + (IntKind.i64.wrap (IntKind.i64.wrap ((2 : Int) * (↑i : Int)) + (1 : Int))).toNat * (1 :
     Nat)) (0 : Int) ≤ (4 : Int) ∧ fl.getD ((0 : Nat) + (IntKind.i64.wrap (IntKind.i64.wrap ((2 : Int) * (↑i : Int)) + (1 : Int))).toNat * (1 : Nat)) (0 : Int) ≠ (0 : Int)) then bif !decide (fitI (vs.getD
     ((0 : Nat) + (↑i : Int).toNat * (1 : Nat)) (0 : Int)) (fl.getD ((0 : Nat) + (IntKind.i64.wrap (IntKind.i64.wrap ((2 : Int) * (↑i : Int)) + (1 : Int))).toNat * (1 : Nat)) (0 : Int))) then none else bif
     decide (fl.getD ((0 : Nat) + (IntKind.i64.wrap (IntKind.i64.wrap ((2 : Int) * (↑i : Int)) + (1 : Int))).toNat * (1 : Nat)) (0 : Int) < (0 : Int)) then none else bif decide ((0 : Int) ≤ (↑i : Int)) &&
     decide ((↑i : Int) < (↑q : Int)) then bif ((0 : Nat) + (↑i : Int).toNat * (1 : Nat)).blt n then bif chk ((2 : Nat) * k = (2 : Nat) * k ∧ len = len ∧ IntKind.i64.wrap (fl.getD ((0 : Nat) +
     (IntKind.i64.wrap (IntKind.i64.wrap ((2 : Int) * (↑i : Int)) + (1 : Int))).toNat * (1 : Nat)) (0 : Int) - (1 : Int)) = fl.getD ((0 : Nat) + (IntKind.i64.wrap (IntKind.i64.wrap ((2 : Int) * (↑i : Int))
     + (1 : Int))).toNat * (1 : Nat)) (0 : Int) - (1 : Int) ∧ (1 : Int) ≤ fl.getD ((0 : Nat) + (IntKind.i64.wrap (IntKind.i64.wrap ((2 : Int) * (↑i : Int)) + (1 : Int))).toNat * (1 : Nat)) (0 : Int) ∧
     fl.getD ((0 : Nat) + (IntKind.i64.wrap (IntKind.i64.wrap ((2 : Int) * (↑i : Int)) + (1 : Int))).toNat * (1 : Nat)) (0 : Int) ≤ (4 : Int) ∧ (0 : Int) ≤ (↑i : Int) ∧ (2 : Nat) * k = (2 : Nat) * ((2 :
     Nat) * k / (2 : Nat)) ∧ (2 : Int) * (↑i : Int) < (↑((2 : Nat) * k) : Int) ∧ (↑len : Int) = (↑len : Int) ∧ (0 : Int) ≤ fl.getD ((2 : Int) * (↑i : Int)).toNat (0 : Int) ∧ fl.getD ((2 : Int) * (↑i :
     Int)).toNat (0 : Int) + fl.getD ((0 : Nat) + (IntKind.i64.wrap (IntKind.i64.wrap ((2 : Int) * (↑i : Int)) + (1 : Int))).toNat * (1 : Nat)) (0 : Int) ≤ (↑len : Int) ∧ len ≤ (1000000 : Nat) ∧ (2 : Nat)
     * k ≤ (1000000 : Nat) ∧ (-1000000000000 : Int) ≤ vs.getD ((0 : Nat) + (↑i : Int).toNat * (1 : Nat)) (0 : Int) ∧ vs.getD ((0 : Nat) + (↑i : Int).toNat * (1 : Nat)) (0 : Int) ≤ (1000000000000 : Int))
     then on [Value.pointer (some (Addr.mk (1 : Nat) (0 : Nat) none)), Value.slice none (0 : Nat) (0 : Nat), Value.int IntKind.i64 (0 : Int), Value.int IntKind.i64 (↑len : Int), Value.slice (some (Addr.mk
     (2 : Nat) (0 : Nat) none)) ((2 : Nat) * k) (0 : Nat), Value.slice (some (Addr.mk (3 : Nat) (0 : Nat) none)) len cc, Value.int IntKind.i64 (IntKind.i64.wrap ((↑i : Int) + (1 : Int)))] [some (Blk.mk
     false (1 : Nat) [Seg.ints IntKind.i64 n vs]), some (Blk.mk true (2 : Nat) [Seg.ints IntKind.u8 (1 : Nat) [x], Seg.vals [Value.slice (some (Addr.mk (0 : Nat) (0 : Nat) none)) q c]]), some (Blk.mk true
     (1 : Nat) [Seg.ints IntKind.i64 ((2 : Nat) * k) fl]), some (Blk.mk true (1 : Nat) [Seg.ints IntKind.u8 len (putB bs (fl.getD ((2 : Int) * (↑i : Int)).toNat (0 : Int)).toNat (be (vs.getD ((0 : Nat) +
     (↑i : Int).toNat * (1 : Nat)) (0 : Int)) (fl.getD ((0 : Nat) + (IntKind.i64.wrap (IntKind.i64.wrap ((2 : Int) * (↑i : Int)) + (1 : Int))).toNat * (1 : Nat)) (0 : Int)).toNat))])] else none else none
     else none else none else none else none else none else none else none) (by kernel_rfl) (by simp only [-eq_self, Nat.mul_one, Nat.zero_add, Int.toNat_natCast, swrap w1.1 w1.2, swrap w2.1 w2.2, swrap w3.1 w3.2, swrap w4.1 w4.2]; exact (go_t (dec_t h1) (go_t (and_t (dec_t h2) (dec_t h3)) (go_t (blt_t h4) (go_t (and_t (dec_t h5) (dec_t h1)) (go_t (blt_t h6) (go_t (chk_t h7) (go_f (not_f (dec_t h8)) (go_f (dec_f h9) (go_t (and_t (dec_t h5) (dec_t h1)) (go_t (blt_t h6) (go_t (chk_t h10) rfl))))))))))))
--CFEND
--CP pPrN (x : Int) (n q c cc len i k : Nat) (vs bs fl : List Int) (on : List Value → Heap → Out) (out : Exit → List Value → Heap → Out) :: roundK Try.prog (SPrR.on [(37, true), (53, false), (55, true)]) LPrI Try.f28.ntmps 1 outPr livePrO [pt 1, .slice none 0 0, w63 0, w63 len, sl 2 (2 * k) 0, sl 3 len cc, w63 i] [rI n vs, rS x (sl 0 q c), oI (2 * k) fl, oU len bs] on out
theorem pPrN (x : Int) (n q c cc len i k : Nat) (vs bs fl : List Int) (on : List Value → Heap → Out) (out : Exit → List Value → Heap → Out)
    (w1 : -9223372036854775808 ≤ (2 : Int) * (↑i : Int) ∧ (2 : Int) * (↑i : Int) ≤ 9223372036854775807 := by omega)
    (w2 : -9223372036854775808 ≤ (2 : Int) * (↑i : Int) + (1 : Int) ∧ (2 : Int) * (↑i : Int) + (1 : Int) ≤ 9223372036854775807 := by omega)
    (w3 : -9223372036854775808 ≤ (0 : Int) - fl.getD ((2 : Int) * (↑i : Int) + (1 : Int)).toNat (0 : Int) ∧ (0 : Int) - fl.getD ((2 : Int) * (↑i : Int) + (1 : Int)).toNat (0 : Int) ≤ 9223372036854775807 := by omega)
    (w4 : -9223372036854775808 ≤ (0 : Int) - fl.getD ((2 : Int) * (↑i : Int) + (1 : Int)).toNat (0 : Int) - (1 : Int) ∧ (0 : Int) - fl.getD ((2 : Int) * (↑i : Int) + (1 : Int)).toNat (0 : Int) - (1 : Int) ≤ 9223372036854775807 := by omega)
    (w5 : -9223372036854775808 ≤ (↑i : Int) + (1 : Int) ∧ (↑i : Int) + (1 : Int) ≤ 9223372036854775807 := by omega)
    (h1 : (↑i : Int) < (↑q : Int) := by first | omega | assumption | rfl)
    (h2 : (0 : Int) ≤ (2 : Int) * (↑i : Int) + (1 : Int) := by first | omega | assumption | rfl)
    (h3 : (2 : Int) * (↑i : Int) + (1 : Int) < (↑((2 : Nat) * k) : Int) := by first | omega | assumption | rfl)
    (h4 : ((2 : Int) * (↑i : Int) + (1 : Int)).toNat < (2 : Nat) * k := by first | omega | assumption | rfl)
    (h5 : (0 : Int) ≤ (↑i : Int) := by first | omega | assumption | rfl)
    (h6 : i < n := by first | omega | assumption | rfl)
    (h7 : (-4 : Int) ≤ fl.getD ((2 : Int) * (↑i : Int) + (1 : Int)).toNat (0 : Int) ∧ fl.getD ((2 : Int) * (↑i : Int) + (1 : Int)).toNat (0 : Int) ≤ (4 : Int) ∧ fl.getD ((2 : Int) * (↑i : Int) + (1 : Int)).toNat (0 : Int) ≠ (0 : Int) := by first | omega | assumption | rfl | ((repeat' with_reducible apply And.intro) <;> first | rfl | assumption | omega))
    (h8 : fitI (vs.getD i (0 : Int)) (fl.getD ((2 : Int) * (↑i : Int) + (1 : Int)).toNat (0 : Int)) := by first | omega | assumption | rfl)
    (h9 : fl.getD ((2 : Int) * (↑i : Int) + (1 : Int)).toNat (0 : Int) < (0 : Int) := by first | omega | assumption | rfl)
    (h10 : (2 : Nat) * k = (2 : Nat) * k ∧ len = len ∧ (0 : Int) - fl.getD ((2 : Int) * (↑i : Int) + (1 : Int)).toNat (0 : Int) - (1 : Int) = (0 : Int) - fl.getD ((2 : Int) * (↑i : Int) + (1 : Int)).toNat (0 : Int) - (1 : Int) ∧ (1 : Int) ≤ (0 : Int) - fl.getD ((2 : Int) * (↑i : Int) + (1 : Int)).toNat (0 : Int) ∧ (0 : Int) - fl.getD ((2 : Int) * (↑i : Int) + (1 : Int)).toNat (0 : Int) ≤ (4 : Int) ∧ (0 : Int) ≤ (↑i : Int) ∧ (2 : Nat) * k = (2 : Nat) * ((2 : Nat) * k / (2 : Nat)) ∧ (2 : Int) * (↑i : Int) < (↑((2 : Nat) * k) : Int) ∧ (↑len : Int) = (↑len : Int) ∧ (0 : Int) ≤ fl.getD ((2 : Int) * (↑i : Int)).toNat (0 : Int) ∧ fl.getD ((2 : Int) * (↑i : Int)).toNat (0 : Int) + ((0 : Int) - fl.getD ((2 : Int) * (↑i : Int) + (1 : Int)).toNat (0 : Int)) ≤ (↑len : Int) ∧ len ≤ (1000000 : Nat) ∧ (2 : Nat) * k ≤ (1000000 : Nat) ∧ (-1000000000000 : Int) ≤ vs.getD i (0 : Int) ∧ vs.getD i (0 : Int) ≤ (1000000000000 : Int) := by first | omega | assumption | rfl | ((repeat' with_reducible apply And.intro) <;> first | rfl | assumption | omega)) : roundK Try.prog (SPrR.on [(37, true), (53, false), (55, true)]) LPrI Try.f28.ntmps 1 outPr livePrO [pt 1, .slice none 0 0, w63 0, w63 len, sl 2 (2 * k) 0, sl 3 len cc, w63 i] [rI n vs, rS x (sl 0 q c), oI (2 * k) fl, oU len bs] on out =
     (on [Value.pointer (some (Addr.mk (1 : Nat) (0 : Nat) none)), Value.slice none (0 : Nat) (0 : Nat), Value.int IntKind.i64 (0 : Int), Value.int IntKind.i64 (↑len : Int), Value.slice (some (Addr.mk (2 :
     Nat) (0 : Nat) none)) ((2 : Nat) * k) (0 : Nat), Value.slice (some (Addr.mk (3 : Nat) (0 : Nat) none)) len cc, Value.int IntKind.i64 ((↑i : Int) + (1 : Int))] [some (Blk.mk false (1 : Nat) [Seg.ints
     IntKind.i64 n vs]), some (Blk.mk true (2 : Nat) [Seg.ints IntKind.u8 (1 : Nat) [x], Seg.vals [Value.slice (some (Addr.mk (0 : Nat) (0 : Nat) none)) q c]]), some (Blk.mk true (1 : Nat) [Seg.ints
     IntKind.i64 ((2 : Nat) * k) fl]), some (Blk.mk true (1 : Nat) [Seg.ints IntKind.u8 len (putB bs (fl.getD ((2 : Int) * (↑i : Int)).toNat (0 : Int)).toNat (be (vs.getD i (0 : Int)) ((0 : Int) - fl.getD
     ((2 : Int) * (↑i : Int) + (1 : Int)).toNat (0 : Int)).toNat))])]) :=
  Eq.trans (b :=
     bif decide ((↑i : Int) < (↑q : Int)) then bif decide ((0 : Int) ≤ IntKind.i64.wrap (IntKind.i64.wrap ((2 : Int) * (↑i : Int)) + (1 : Int))) && decide (IntKind.i64.wrap (IntKind.i64.wrap ((2 : Int) *
     (↑i : Int)) + (1 : Int)) < (↑((2 : Nat) * k) : Int)) then bif ((0 : Nat) + (IntKind.i64.wrap (IntKind.i64.wrap ((2 : Int) * (↑i : Int)) + (1 : Int))).toNat * (1 : Nat)).blt ((2 : Nat) * k) then bif
     decide ((0 : Int) ≤ (↑i : Int)) && decide ((↑i : Int) < (↑q : Int)) then bif ((0 : Nat) + (↑i : Int).toNat * (1 : Nat)).blt n then bif chk ((-4 : Int) ≤ fl.getD ((0 : Nat) + (IntKind.i64.wrap
     (IntKind.i64.wrap ((2 : Int) * (↑i : Int)) + (1 : Int))).toNat * (1 : Nat)) (0 : Int) ∧ fl.getD ((0 : Nat) + (IntKind.i64.wrap (IntKind.i64.wrap ((2 : Int) * (↑i : Int)) + (1 : Int))).toNat * (1 :
     Nat)) (0 : Int) ≤ (4 : Int) ∧ fl.getD ((0 : Nat) + (IntKind.i64.wrap (IntKind.i64.wrap ((2 : Int) * (↑i : Int)) + (1 : Int))).toNat * (1 : Nat)) (0 : Int) ≠ (0 : Int)) then bif !decide (fitI (vs.getD
     ((0 : Nat) + (↑i : Int).toNat * (1 : Nat)) (0 : Int)) (fl.getD ((0 : Nat) + (IntKind.i64.wrap (IntKind.i64.wrap ((2 : Int) * (↑i : Int)) + (1 : Int))).toNat * (1 : Nat)) (0 : Int))) then none else bif
     decide (fl.getD ((0 : Nat) + (IntKind.i64.wrap (IntKind.i64.wrap ((2 : Int) * (↑i : Int)) + (1 : Int))).toNat * (1 : Nat)) (0 : Int) < (0 : Int)) then bif decide ((0 : Int) ≤ (↑i : Int)) && decide
     ((↑i : Int) < (↑q : Int)) then bif ((0 : Nat) + (↑i : Int).toNat * (1 : Nat)).blt n then bif chk ((2 : Nat) * k = (2 : Nat) * k ∧ len = len ∧ IntKind.i64.wrap (IntKind.i64.wrap ((0 : Int) - fl.getD
     ((0 : Nat) + (IntKind.i64.wrap (IntKind.i64.wrap ((2 : Int) * (↑i : Int)) + (1 : Int))).toNat * (1 : Nat)) (0 : Int)) - (1 : Int)) = IntKind.i64.wrap ((0 : Int) - fl.getD ((0 : Nat) +
     (IntKind.i64.wrap (IntKind.i64.wrap ((2 : Int) * (↑i : Int)) + (1 : Int))).toNat * (1 : Nat)) (0 : Int)) - (1 : Int) ∧ (1 : Int) ≤ IntKind.i64.wrap ((0 : Int) - fl.getD ((0 : Nat) + (IntKind.i64.wrap
     (IntKind.i64.wrap ((2 : Int) * (↑i : Int)) + (1 : Int))).toNat * (1 : Nat)) (0 : Int)) ∧ IntKind.i64.wrap ((0 : Int) - fl.getD ((0 : Nat) + (IntKind.i64.wrap (IntKind.i64.wrap ((2 : Int) * (↑i : Int))
     + (1 : Int))).toNat * (1 : Nat)) (0 : Int)) ≤ (4 : Int) ∧ (0 : Int) ≤ (↑i : Int) ∧ (2 : Nat) * k = (2 : Nat) * ((2 : Nat) * k / (2 : Nat)) ∧ (2 : Int) * (↑i : Int) < (↑((2 : Nat) * k) : Int) ∧ (↑len :
     Int) = (↑len : Int) ∧ (0 : Int) ≤ fl.getD ((2 : Int) * (↑i : Int)).toNat (0 : Int) ∧ fl.getD ((2 : Int) * (↑i : Int)).toNat (0 : Int) + IntKind.i64.wrap ((0 : Int) - fl.getD ((0 : Nat) +
     (IntKind.i64.wrap (IntKind.i64.wrap ((2 : Int) * (↑i : Int)) + (1 : Int))).toNat * (1 : Nat)) (0 : Int)) ≤ (↑len : Int) ∧ len ≤ (1000000 : Nat) ∧ (2 : Nat) * k ≤ (1000000 : Nat) ∧ (-1000000000000 :
     Int) ≤ vs.getD ((0 : Nat) + (↑i : Int).toNat * (1 : Nat)) (0 : Int) ∧ vs.getD ((0 : Nat) + (↑i : Int).toNat * (1 : Nat)) (0 : Int) ≤ (1000000000000 : Int)) then on [Value.pointer (some (Addr.mk (1 :
     Nat) (0 : Nat) none)), Value.slice none (0 : Nat) (0 : Nat), Value.int IntKind.i64 (0 : Int), Value.int IntKind.i64 (↑len : Int), Value.slice (some (Addr.mk (2 : Nat) (0 : Nat) none)) ((2 : Nat) * k)
     (0 : Nat), Value.slice (some (Addr.mk (3 : Nat) (0 : Nat) none)) len cc, Value.int IntKind.i64 (IntKind.i64.wrap ((↑i : Int) + (1 : Int)))] [some (Blk.mk false (1 : Nat) [Seg.ints IntKind.i64 n vs]),
     some (Blk.mk true (2 : Nat) [Seg.ints IntKind.u8 (1 : Nat) [x], Seg.vals [Value.slice (some (Addr.mk (0 : Nat) (0 : Nat) none)) q c]]), some (Blk.mk true (1 : Nat) [Seg.ints IntKind.i64 ((2 : Nat) *
     k) fl]), some (Blk.mk true (1 : Nat) [Seg.ints IntKind.u8 len (putB bs (fl.getD ((2 : Int) * (↑i : Int)).toNat (0 : Int)).toNat (be (vs.getD ((0 : Nat) + (↑i : Int).toNat * (1 : Nat)) (0 : Int))
     (IntKind.i64.wrap ((0 : Int) - fl.getD ((0 : Nat) + (IntKind.i64.wrap (IntKind.i64.wrap ((2 : Int) * (↑i : Int)) + (1 : Int))).toNat * (1 : Nat)) (0 : Int))).toNat))])] else none else none else none
     else none else none else none else none else none else none else none) (by kernel_rfl) (by simp only [-eq_self, Nat.mul_one, Nat.zero_add, Int.toNat_natCast, swrap w1.1 w1.2, swrap w2.1 w2.2, swrap w3.1 w3.2, swrap w4.1 w4.2, swrap w5.1 w5.2]; exact (go_t (dec_t h1) (go_t (and_t (dec_t h2) (dec_t h3)) (go_t (blt_t h4) (go_t (and_t (dec_t h5) (dec_t h1)) (go_t (blt_t h6) (go_t (chk_t h7) (go_f (not_f (dec_t h8)) (go_t (dec_t h9) (go_t (and_t (dec_t h5) (dec_t h1)) (go_t (blt_t h6) (go_t (chk_t h10) rfl))))))))))))
--CFEND
--CP pPrU (x : Int) (n q c cc len i k : Nat) (vs bs fl : List Int) (on : List Value → Heap → Out) (out : Exit → List Value → Heap → Out) :: roundK Try.prog (SPrR.on [(37, true), (53, true)]) LPrI Try.f28.ntmps 1 outPr livePrO [pt 1, .slice none 0 0, w63 0, w63 len, sl 2 (2 * k) 0, sl 3 len cc, w63 i] [rI n vs, rS x (sl 0 q c), oI (2 * k) fl, oU len bs] on out
theorem pPrU (x : Int) (n q c cc len i k : Nat) (vs bs fl : List Int) (on : List Value → Heap → Out) (out : Exit → List Value → Heap → Out)
    (w1 : -9223372036854775808 ≤ (2 : Int) * (↑i : Int) ∧ (2 : Int) * (↑i : Int) ≤ 9223372036854775807 := by omega)
    (w2 : -9223372036854775808 ≤ (2 : Int) * (↑i : Int) + (1 : Int) ∧ (2 : Int) * (↑i : Int) + (1 : Int) ≤ 9223372036854775807 := by omega)
    (h1 : (↑i : Int) < (↑q : Int) := by first | omega | assumption | rfl)
    (h2 : (0 : Int) ≤ (2 : Int) * (↑i : Int) + (1 : Int) := by first | omega | assumption | rfl)
    (h3 : (2 : Int) * (↑i : Int) + (1 : Int) < (↑((2 : Nat) * k) : Int) := by first | omega | assumption | rfl)
    (h4 : ((2 : Int) * (↑i : Int) + (1 : Int)).toNat < (2 : Nat) * k := by first | omega | assumption | rfl)
    (h5 : (0 : Int) ≤ (↑i : Int) := by first | omega | assumption | rfl)
    (h6 : i < n := by first | omega | assumption | rfl)
    (h7 : (-4 : Int) ≤ fl.getD ((2 : Int) * (↑i : Int) + (1 : Int)).toNat (0 : Int) ∧ fl.getD ((2 : Int) * (↑i : Int) + (1 : Int)).toNat (0 : Int) ≤ (4 : Int) ∧ fl.getD ((2 : Int) * (↑i : Int) + (1 : Int)).toNat (0 : Int) ≠ (0 : Int) := by first | omega | assumption | rfl | ((repeat' with_reducible apply And.intro) <;> first | rfl | assumption | omega))
    (h8 : ¬fitI (vs.getD i (0 : Int)) (fl.getD ((2 : Int) * (↑i : Int) + (1 : Int)).toNat (0 : Int)) := by first | omega | assumption | rfl) : roundK Try.prog (SPrR.on [(37, true), (53, true)]) LPrI Try.f28.ntmps 1 outPr livePrO [pt 1, .slice none 0 0, w63 0, w63 len, sl 2 (2 * k) 0, sl 3 len cc, w63 i] [rI n vs, rS x (sl 0 q c), oI (2 * k) fl, oU len bs] on out =
     (out Exit.ret [Value.pointer (some (Addr.mk (1 : Nat) (0 : Nat) none)), Value.slice none (0 : Nat) (0 : Nat), Value.int IntKind.i64 (2 : Int), Value.int IntKind.i64 (↑len : Int), Value.slice (some
     (Addr.mk (2 : Nat) (0 : Nat) none)) ((2 : Nat) * k) (0 : Nat), Value.slice (some (Addr.mk (3 : Nat) (0 : Nat) none)) len cc, Value.int IntKind.i64 (↑i : Int)] [some (Blk.mk false (1 : Nat) [Seg.ints
     IntKind.i64 n vs]), some (Blk.mk true (2 : Nat) [Seg.ints IntKind.u8 (1 : Nat) [x], Seg.vals [Value.slice (some (Addr.mk (0 : Nat) (0 : Nat) none)) q c]]), some (Blk.mk true (1 : Nat) [Seg.ints
     IntKind.i64 ((2 : Nat) * k) fl]), some (Blk.mk true (1 : Nat) [Seg.ints IntKind.u8 len bs])]) :=
  Eq.trans (b :=
     bif decide ((↑i : Int) < (↑q : Int)) then bif decide ((0 : Int) ≤ IntKind.i64.wrap (IntKind.i64.wrap ((2 : Int) * (↑i : Int)) + (1 : Int))) && decide (IntKind.i64.wrap (IntKind.i64.wrap ((2 : Int) *
     (↑i : Int)) + (1 : Int)) < (↑((2 : Nat) * k) : Int)) then bif ((0 : Nat) + (IntKind.i64.wrap (IntKind.i64.wrap ((2 : Int) * (↑i : Int)) + (1 : Int))).toNat * (1 : Nat)).blt ((2 : Nat) * k) then bif
     decide ((0 : Int) ≤ (↑i : Int)) && decide ((↑i : Int) < (↑q : Int)) then bif ((0 : Nat) + (↑i : Int).toNat * (1 : Nat)).blt n then bif chk ((-4 : Int) ≤ fl.getD ((0 : Nat) + (IntKind.i64.wrap
     (IntKind.i64.wrap ((2 : Int) * (↑i : Int)) + (1 : Int))).toNat * (1 : Nat)) (0 : Int) ∧ fl.getD ((0 : Nat) + (IntKind.i64.wrap (IntKind.i64.wrap ((2 : Int) * (↑i : Int)) + (1 : Int))).toNat * (1 :
     Nat)) (0 : Int) ≤ (4 : Int) ∧ fl.getD ((0 : Nat) + (IntKind.i64.wrap (IntKind.i64.wrap ((2 : Int) * (↑i : Int)) + (1 : Int))).toNat * (1 : Nat)) (0 : Int) ≠ (0 : Int)) then bif !decide (fitI (vs.getD
     ((0 : Nat) + (↑i : Int).toNat * (1 : Nat)) (0 : Int)) (fl.getD ((0 : Nat) + (IntKind.i64.wrap (IntKind.i64.wrap ((2 : Int) * (↑i : Int)) + (1 : Int))).toNat * (1 : Nat)) (0 : Int))) then out Exit.ret
     [Value.pointer (some (Addr.mk (1 : Nat) (0 : Nat) none)), Value.slice none (0 : Nat) (0 : Nat), Value.int IntKind.i64 (2 : Int), Value.int IntKind.i64 (↑len : Int), Value.slice (some (Addr.mk (2 :
     Nat) (0 : Nat) none)) ((2 : Nat) * k) (0 : Nat), Value.slice (some (Addr.mk (3 : Nat) (0 : Nat) none)) len cc, Value.int IntKind.i64 (↑i : Int)] [some (Blk.mk false (1 : Nat) [Seg.ints IntKind.i64 n
     vs]), some (Blk.mk true (2 : Nat) [Seg.ints IntKind.u8 (1 : Nat) [x], Seg.vals [Value.slice (some (Addr.mk (0 : Nat) (0 : Nat) none)) q c]]), some (Blk.mk true (1 : Nat) [Seg.ints IntKind.i64 ((2 :
     Nat) * k) fl]), some (Blk.mk true (1 : Nat) [Seg.ints IntKind.u8 len bs])] else none else none else none else none else none else none else none) (by kernel_rfl) (by simp only [-eq_self, Nat.mul_one, Nat.zero_add, Int.toNat_natCast, swrap w1.1 w1.2, swrap w2.1 w2.2]; exact (go_t (dec_t h1) (go_t (and_t (dec_t h2) (dec_t h3)) (go_t (blt_t h4) (go_t (and_t (dec_t h5) (dec_t h1)) (go_t (blt_t h6) (go_t (chk_t h7) (go_t (not_t (dec_f h8)) rfl))))))))
--CFEND
--CP pPrX (x : Int) (n q c cc len i k : Nat) (vs bs fl : List Int) (on : List Value → Heap → Out) (out : Exit → List Value → Heap → Out) :: roundK Try.prog (SPrR.on [(37, false)]) LPrI Try.f28.ntmps 1 outPr livePrO [pt 1, .slice none 0 0, w63 0, w63 len, sl 2 (2 * k) 0, sl 3 len cc, w63 i] [rI n vs, rS x (sl 0 q c), oI (2 * k) fl, oU len bs] on out
theorem pPrX (x : Int) (n q c cc len i k : Nat) (vs bs fl : List Int) (on : List Value → Heap → Out) (out : Exit → List Value → Heap → Out)
    (h1 : ¬(↑i : Int) < (↑q : Int) := by first | omega | assumption | rfl) : roundK Try.prog (SPrR.on [(37, false)]) LPrI Try.f28.ntmps 1 outPr livePrO [pt 1, .slice none 0 0, w63 0, w63 len, sl 2 (2 * k) 0, sl 3 len cc, w63 i] [rI n vs, rS x (sl 0 q c), oI (2 * k) fl, oU len bs] on out =
     (out (Exit.exit (0 : Nat)) [Value.pointer (some (Addr.mk (1 : Nat) (0 : Nat) none)), Value.slice none (0 : Nat) (0 : Nat), Value.int IntKind.i64 (0 : Int), Value.int IntKind.i64 (↑len : Int),
     Value.slice (some (Addr.mk (2 : Nat) (0 : Nat) none)) ((2 : Nat) * k) (0 : Nat), Value.slice (some (Addr.mk (3 : Nat) (0 : Nat) none)) len cc, Value.int IntKind.i64 (↑i : Int)] [some (Blk.mk false (1
     : Nat) [Seg.ints IntKind.i64 n vs]), some (Blk.mk true (2 : Nat) [Seg.ints IntKind.u8 (1 : Nat) [x], Seg.vals [Value.slice (some (Addr.mk (0 : Nat) (0 : Nat) none)) q c]]), some (Blk.mk true (1 : Nat)
     [Seg.ints IntKind.i64 ((2 : Nat) * k) fl]), some (Blk.mk true (1 : Nat) [Seg.ints IntKind.u8 len bs])]) :=
  Eq.trans (by kernel_rfl) (go_f (dec_f h1) rfl)
--CFEND
end Go.Proofs.Ytcjjngdkkihgjaa.VC

/- sirf, the document's: Fits, Payload: what they are. -/
namespace Go.Proofs.Ytcjjngdkkihgjaa.VC
open Go Go.Proofs

theorem okFitR : EntryOK Try.prog 61 FFitR := by
  refine EntryOK.of_paths (fn := Try.f61) follows_ok Try.func61 (by kernel_rfl) (by kernel_rfl) ?_
  intro args h k out hF
  unfold FFitR at hF
  split at hF
  · rename_i v s
    obtain ⟨hb, hF2⟩ := bif_t hF
    obtain ⟨h1, h2, h3⟩ := chk_iff.1 hb
    refine ⟨_, _, hF2, fun _ => ?_⟩
    have hm := manyI_rng ⟨h1, h2⟩
    have hm1 : 1 ≤ manyI s := by unfold manyI; split <;> omega
    have hp := pw_4 hm.2
    have he := pw_even hm1
    by_cases hneg : s < 0
    · have em : IntKind.i64.wrap (0 - s) = manyI s := by rw [swrap (by omega) (by omega)]; unfold manyI; rw [if_pos (by omega)]
      have e1 : IntKind.i64.wrap ((IntKind.i64.wrap (0 - pw256 (manyI s))).tdiv 2) = -(pw256 (manyI s) / 2) := by
        rw [swrap (x := 0 - pw256 (manyI s)) (by omega) (by omega), show (0 - pw256 (manyI s)) = -(2 * (pw256 (manyI s) / 2)) by omega, Int.neg_tdiv, Int.mul_tdiv_cancel_left _ (by decide), swrap (by omega) (by omega)]
      have e2 : IntKind.i64.wrap ((pw256 (manyI s)).tdiv 2) = pw256 (manyI s) / 2 := by rw [Int.tdiv_eq_ediv_of_nonneg (by omega), swrap (by omega) (by omega)]
      have c2 : 0 ≤ manyI s ∧ manyI s ≤ 7 := by omega
      by_cases hv : v ≥ -(pw256 (manyI s) / 2)
      · refine ⟨_, noL, SPow_ok.on _, noL_ok, (cfFitN1 v s).trans ?_⟩
        rw [em, e1, e2]
        refine go_t (dec_t hneg) (go_t (chk_t c2) (go_t (dec_t hv) (go_t (chk_t c2) ?_)))
        have : decide (fitI v s) = decide (v < pw256 (manyI s) / 2) := decide_eq_decide.2 (by unfold fitI; rw [if_pos hneg]; omega)
        rw [this]
      · refine ⟨_, noL, SPow_ok.on _, noL_ok, (cfFitN0 v s).trans ?_⟩
        rw [em, e1]
        refine go_t (dec_t hneg) (go_t (chk_t c2) (go_f (dec_f hv) ?_))
        rw [dec_f (show ¬ fitI v s by unfold fitI; rw [if_pos hneg]; omega)]
    · have em : manyI s = s := by unfold manyI; rw [if_neg (by omega)]
      rw [em] at hp hm
      by_cases hv : v ≥ 0
      · refine ⟨_, noL, SPow_ok.on _, noL_ok, (cfFitP1 v s).trans ?_⟩
        refine go_f (dec_f hneg) (go_t (dec_t hv) (go_t (chk_t ⟨hm.1, by omega⟩) ?_))
        have : decide (fitI v s) = decide (v < pw256 s) := decide_eq_decide.2 (by unfold fitI; rw [if_neg hneg, em]; omega)
        rw [this]
      · refine ⟨_, noL, SPow_ok.on _, noL_ok, (cfFitP0 v s).trans ?_⟩
        refine go_f (dec_f hneg) (go_f (dec_f hv) ?_)
        rw [dec_f (show ¬ fitI v s by unfold fitI; rw [if_neg hneg]; omega)]
  · cases hF
theorem SPrR_ok : SpecOK Try.prog SPrR := mkS_cons okFitR (mkS_nil _)
/-- The last bytes laid ahead of what was laid. -/
theorem putB_cons {xs l : List Int} {a : Nat} {x : Int} (h : a + 1 + l.length ≤ xs.length) : (putB xs (a + 1) l).set a x = putB xs a (x :: l) := by
  unfold putB
  rw [List.set_append_left _ _ (by rw [List.length_take]; omega), List.length_cons, show a + (l.length + 1) = a + 1 + l.length by omega]
  rw [List.take_succ_eq_append_getElem (by omega), List.set_append_right _ _ (by rw [List.length_take]; omega), List.length_take, show a - min a xs.length = 0 by omega, List.set_cons_zero, List.append_assoc]
  rfl
theorem beB_shift (v : Int) (j : Nat) : (v / pw256 j) % 256 = beB v j := by unfold beB pw256; rw [Int.toNat_natCast]
theorem ediv_shift (v : Int) (j : Nat) : v / pw256 j / 256 = v / pw256 ((j + 1 : Nat) : Int) := by
  unfold pw256
  rw [Int.toNat_natCast, Int.toNat_natCast, Int.pow_succ, Int.ediv_ediv_of_nonneg (Int.le_of_lt (Int.pow_pos (by decide)))]
theorem ediv_rng {v p : Int} (hp : 1 ≤ p) (hv : -1000000000000 ≤ v ∧ v ≤ 1000000000000) : -1000000000000 ≤ v / p ∧ v / p ≤ 1000000000000 := by
  have h1 := Int.emod_add_mul_ediv v p
  have h2 := Int.emod_nonneg v (show p ≠ 0 by omega)
  have h3 := Int.emod_lt_of_pos v (show 0 < p by omega)
  constructor
  · rw [Int.le_ediv_iff_mul_le (by omega)]
    have : -1000000000000 * p ≤ -1000000000000 := by
      have : 1000000000000 * 1 ≤ 1000000000000 * p := Int.mul_le_mul_of_nonneg_left hp (by decide)
      omega
    omega
  · have : v / p ≤ 1000000000000 / p ∨ v < 0 := by
      by_cases hv0 : v < 0
      · exact .inr hv0
      · exact .inl (Int.ediv_le_ediv (by omega) hv.2)
    rcases this with h | h
    · have : 1000000000000 / p ≤ 1000000000000 := Int.ediv_le_self _ (by decide)
      omega
    · have := Int.ediv_lt_of_lt_mul (a := v) (b := 0) (c := p) (by omega) (by omega)
      omega
theorem tm_rng (w : Int) : -256 < w.tmod 256 ∧ w.tmod 256 < 256 ∧ w = 256 * w.tdiv 256 + w.tmod 256 := by
  have h1 := Int.tmod_lt_of_pos w (b := 256) (by decide)
  have h2 := Int.lt_tmod_of_pos w (b := 256) (by decide)
  have h3 := Int.mul_tdiv_add_tmod w 256
  omega
theorem tm_neg {w : Int} (h : w.tmod 256 < 0) : w.tmod 256 + 256 = w % 256 := by have := tm_rng w; omega
theorem tm_pos {w : Int} (h : ¬ w.tmod 256 < 0) : w.tmod 256 = w % 256 := by have := tm_rng w; omega
theorem loopPrI {x v : Int} {n q c cc len i k m : Nat} {vs bs fl : List Int} (hm : m ≤ 4) (hi : i < k) (ha : 0 ≤ fl.getD (2 * (i : Int)).toNat 0) (hn : fl.getD (2 * (i : Int)).toNat 0 + m ≤ len) (hlen : len ≤ 1000000) (hk : 2 * k ≤ 1000000) (hv : -1000000000000 ≤ v ∧ v ≤ 1000000000000) (hl : bs.length = len) : ∀ (r j : Nat), r + j = m →
    LoopT Try.prog Try.f28.ntmps 1 inPr (zipS livePrI [pt 1, .slice none 0 0, w63 0, w63 len, sl 2 (2 * k) 0, sl 3 len cc, w63 i, w63 m, w63 (v / pw256 j), w63 ((r : Int) - 1)]) [rI n vs, rS x (sl 0 q c), oI (2 * k) fl, oU len (putB bs ((fl.getD (2 * (i : Int)).toNat 0).toNat + r) (be v j))] (.exit 2)
      (zipS livePrI [pt 1, .slice none 0 0, w63 0, w63 len, sl 2 (2 * k) 0, sl 3 len cc, w63 i, w63 m, w63 (v / pw256 m), w63 (-1)]) [rI n vs, rS x (sl 0 q c), oI (2 * k) fl, oU len (putB bs (fl.getD (2 * (i : Int)).toNat 0).toNat (be v m))] := by
  intro r
  induction r with
  | zero =>
    intro j hj
    obtain rfl : j = m := by omega
    exact LoopT.last (by intro h; cases h) (CodeT.out (mk0.on _) noL_ok fun on out => pPrIX x _ _ _ n q c cc len i k vs _ fl on out)
  | succ r ih =>
    intro j hj
    have hp := pw_4 (n := (j : Int)) (by omega)
    have hr := ediv_rng (v := v) (p := pw256 j) (by omega) hv
    have e0 := beB_shift v j
    have e1 := ediv_shift v j
    have hset : (putB bs ((fl.getD (2 * (i : Int)).toNat 0).toNat + (r + 1)) (be v j)).set ((fl.getD (2 * (i : Int)).toNat 0).toNat + r) (beB v j) = putB bs ((fl.getD (2 * (i : Int)).toNat 0).toNat + r) (be v (j + 1)) :=
      putB_cons (xs := bs) (l := be v j) (a := (fl.getD (2 * (i : Int)).toNat 0).toNat + r) (x := beB v j) (by rw [be_len]; omega)
    generalize v / pw256 (j : Int) = w at hr e0 e1
    refine LoopT.step (CodeT.on (live := livePrI) (vs1 := [pt 1, .slice none 0 0, w63 0, w63 len, sl 2 (2 * k) 0, sl 3 len cc, w63 i, w63 m, w63 (v / pw256 ((j + 1 : Nat) : Int)), w63 ((r : Int) - 1)]) (h1 := [rI n vs, rS x (sl 0 q c), oI (2 * k) fl, oU len (putB bs ((fl.getD (2 * (i : Int)).toNat 0).toNat + r) (be v (j + 1)))]) (S := (mkS []).on [(66, true), (72, decide (w.tmod 256 < 0))]) (mk0.on _) noL_ok fun on out => ?_) (ih (j + 1) (by omega))
    rw [show ((r + 1 : Nat) : Int) - 1 = r by omega]
    have ew : (w - w % 256).tdiv 256 = w / 256 := by
      rw [show w - w % 256 = 256 * (w / 256) by omega, Int.mul_tdiv_cancel_left _ (by decide)]
    have ei : (fl.getD (2 * (i : Int)).toNat 0 + (r : Int)).toNat = (fl.getD (2 * (i : Int)).toNat 0).toNat + r := by omega
    by_cases hneg : w.tmod 256 < 0
    · have et : w.tmod 256 + 256 = w % 256 := tm_neg hneg
      rw [dec_t hneg]
      have hq : -9223372036854775808 ≤ (w - (w.tmod 256 + 256)).tdiv 256 ∧ (w - (w.tmod 256 + 256)).tdiv 256 ≤ 9223372036854775807 := by rw [et, ew]; omega
      refine (pPrI1 x w m r n q c cc len i k vs _ fl on out (w5 := hq)).trans ?_
      rw [et, ew, ei, e1, wU8, Int.emod_emod_of_dvd _ (Int.dvd_refl _), e0, hset]
    · have et : w.tmod 256 = w % 256 := tm_pos hneg
      rw [dec_f hneg]
      have hq : -9223372036854775808 ≤ (w - w.tmod 256).tdiv 256 ∧ (w - w.tmod 256).tdiv 256 ≤ 9223372036854775807 := by rw [et, ew]; omega
      refine (pPrI0 x w m r n q c cc len i k vs _ fl on out (w4 := hq)).trans ?_
      rw [et, ew, ei, e1, wU8, Int.emod_emod_of_dvd _ (Int.dvd_refl _), e0, hset]
end Go.Proofs.Ytcjjngdkkihgjaa.VC

/- sirf, the document's: Payload; Encode: closed forms. -/
namespace Go.Proofs.Ytcjjngdkkihgjaa.VC
open Go Go.Proofs

noncomputable def LPrTf : LF := fun vs h k => match vs, h with
  | [.pointer (some ⟨1, 0, none⟩), .slice none 0 0, .int .i64 0, .int .i64 ln, .slice (some ⟨2, 0, none⟩) K' 0, .slice (some ⟨3, 0, none⟩) len' cc, .int .i64 0], [some ⟨false, 1, [.ints .i64 n vl]⟩, some ⟨true, 2, [.ints .u8 1 [x], .vals [.slice (some ⟨0, 0, none⟩) q c]]⟩, some ⟨true, 1, [.ints .i64 K fl]⟩, some ⟨true, 1, [.ints .u8 len bs]⟩] =>
    bif chk (ln = len ∧ K' = K ∧ len' = len ∧ q = n ∧ K = 2 * q ∧ q ≤ 100 ∧ fldsOK len fl q ∧ len ≤ 1000000 ∧ fitsTo fl vl q) then
      k (.exit 0) [pt 1, .slice none 0 0, w63 0, w63 len, sl 2 K 0, sl 3 len cc, w63 q] [rI n vl, rS x (sl 0 q c), oI K fl, oU len (payB bs fl vl q)] else none
  | _, _ => none
noncomputable def LPrT : LSpec := oneL 9 livePrO LPrTf
noncomputable def LPrFf : LF := fun vs h k => match vs, h with
  | [.pointer (some ⟨1, 0, none⟩), .slice none 0 0, .int .i64 0, .int .i64 ln, .slice (some ⟨2, 0, none⟩) K' 0, .slice (some ⟨3, 0, none⟩) len' cc, .int .i64 0], [some ⟨false, 1, [.ints .i64 n vl]⟩, some ⟨true, 2, [.ints .u8 1 [x], .vals [.slice (some ⟨0, 0, none⟩) q c]]⟩, some ⟨true, 1, [.ints .i64 K fl]⟩, some ⟨true, 1, [.ints .u8 len bs]⟩] =>
    bif chk (ln = len ∧ K' = K ∧ len' = len ∧ q = n ∧ K = 2 * q ∧ q ≤ 100 ∧ fldsOK len fl q ∧ len ≤ 1000000 ∧ ¬ fitsTo fl vl q) then
      k .ret [pt 1, .slice none 0 0, w63 2, w63 len, sl 2 K 0, sl 3 len cc, w63 (endPy fl vl q)] [rI n vl, rS x (sl 0 q c), oI K fl, oU len (payB bs fl vl (endPy fl vl q))] else none
  | _, _ => none
noncomputable def LPrF : LSpec := oneL 9 livePrO LPrFf
--CP pPrTF (x : Int) (n q c len : Nat) (vs fl : List Int) :: fnK Try.prog ((SDecRv len fl).on [(19, false), (26, false)]) LPrT Try.f28 [.agg #[u8v x, sl 0 q c]] [rI n vs]
theorem pPrTF (x : Int) (n q c len : Nat) (vs fl : List Int)
    (w1 : -9223372036854775808 ≤ (↑q : Int) * (2 : Int) ∧ (↑q : Int) * (2 : Int) ≤ 9223372036854775807 := by omega)
    (h1 : layS x = some (len, fl) := by first | omega | assumption | rfl)
    (h2 : (↑len : Int) ≠ (0 : Int) := by first | omega | assumption | rfl)
    (h3 : (↑q : Int) * (2 : Int) = (↑fl.length : Int) := by first | omega | assumption | rfl)
    (h4 : (0 : Int) ≤ (↑len : Int) := by first | omega | assumption | rfl)
    (h5 : (↑len : Int) ≤ (↑len : Int) := by first | omega | assumption | rfl)
    (h6 : (1 : Int) * (↑len : Int) ≤ (281474976710656 : Int) := by first | omega | assumption | rfl)
    (h7 : (↑len : Int) ≤ (4611686018427387904 : Int) := by first | omega | assumption | rfl)
    (h8 : (0 : Int) < (↑len : Int) := by first | omega | assumption | rfl)
    (h9 : (0 : Nat) < len := by first | omega | assumption | rfl)
    (h10 : (↑len : Int) = (↑len : Int) ∧ fl.length = fl.length ∧ len = len ∧ q = n ∧ fl.length = (2 : Nat) * q ∧ q ≤ (100 : Nat) ∧ fldsOK len fl q ∧ len ≤ (1000000 : Nat) ∧ fitsTo fl vs q := by first | omega | assumption | rfl | ((repeat' with_reducible apply And.intro) <;> first | rfl | assumption | omega)) : fnK Try.prog ((SDecRv len fl).on [(19, false), (26, false)]) LPrT Try.f28 [.agg #[u8v x, sl 0 q c]] [rI n vs] =
     (some (Res.ret (Value.tuple (Array.mk [Value.slice (some (Addr.mk (1 : Nat) (0 : Nat) none)) len (bif decide ((↑len : Int) = (↑len : Int)) then (0 : Nat) else (1 : Nat)), Value.int IntKind.i64 (0 :
     Int)])) [some (Blk.mk false (1 : Nat) [Seg.ints IntKind.i64 n vs]), some (Blk.mk true (1 : Nat) [Seg.ints IntKind.u8 len (payB ((List.replicate len (0 : Int)).set (0 : Nat) x) fl vs q)])])) :=
  Eq.trans (b :=
     bif chk (layS x = some (len, fl)) then bif (↑len : Int) == (0 : Int) then none else bif IntKind.i64.wrap ((↑q : Int) * (2 : Int)) != (↑fl.length : Int) then none else bif decide ((0 : Int) ≤ (↑len :
     Int)) && decide ((↑len : Int) ≤ (↑len : Int)) && decide ((1 : Int) * (↑len : Int) ≤ (281474976710656 : Int)) && decide ((↑len : Int) ≤ (4611686018427387904 : Int)) then bif decide ((0 : Int) < (↑(↑len
     : Int).toNat : Int)) then bif Nat.blt (0 : Nat) (↑len : Int).toNat then bif chk ((↑len : Int) = (↑(↑len : Int).toNat : Int) ∧ fl.length = fl.length ∧ (↑len : Int).toNat = (↑len : Int).toNat ∧ q = n ∧
     fl.length = (2 : Nat) * q ∧ q ≤ (100 : Nat) ∧ fldsOK (↑len : Int).toNat fl q ∧ (↑len : Int).toNat ≤ (1000000 : Nat) ∧ fitsTo fl vs q) then some (Res.ret (Value.tuple (Array.mk [Value.slice (some
     (Addr.mk (1 : Nat) (0 : Nat) none)) (↑len : Int).toNat (bif decide ((↑len : Int) = (↑len : Int)) then (0 : Nat) else (1 : Nat)), Value.int IntKind.i64 (0 : Int)])) [some (Blk.mk false (1 : Nat)
     [Seg.ints IntKind.i64 n vs]), some (Blk.mk true (1 : Nat) [Seg.ints IntKind.u8 (↑len : Int).toNat (payB ((List.replicate (↑len : Int).toNat (0 : Int)).set (0 : Nat) x) fl vs q)])]) else none else none
     else none else none else none) (by kernel_rfl) (by simp only [-eq_self, Int.toNat_natCast, swrap w1.1 w1.2]; exact (go_t (chk_t h1) (go_f (eqb_f h2) (go_f (bne_f h3) (go_t (and_t (and_t (and_t (dec_t h4) (dec_t h5)) (dec_t h6)) (dec_t h7)) (go_t (dec_t h8) (go_t (blt_t h9) (go_t (chk_t h10) rfl))))))))
--CFEND
--CP pPrFF (x : Int) (n q c len : Nat) (vs fl : List Int) :: fnK Try.prog ((SDecRv len fl).on [(19, false), (26, false)]) LPrF Try.f28 [.agg #[u8v x, sl 0 q c]] [rI n vs]
theorem pPrFF (x : Int) (n q c len : Nat) (vs fl : List Int)
    (w1 : -9223372036854775808 ≤ (↑q : Int) * (2 : Int) ∧ (↑q : Int) * (2 : Int) ≤ 9223372036854775807 := by omega)
    (h1 : layS x = some (len, fl) := by first | omega | assumption | rfl)
    (h2 : (↑len : Int) ≠ (0 : Int) := by first | omega | assumption | rfl)
    (h3 : (↑q : Int) * (2 : Int) = (↑fl.length : Int) := by first | omega | assumption | rfl)
    (h4 : (0 : Int) ≤ (↑len : Int) := by first | omega | assumption | rfl)
    (h5 : (↑len : Int) ≤ (↑len : Int) := by first | omega | assumption | rfl)
    (h6 : (1 : Int) * (↑len : Int) ≤ (281474976710656 : Int) := by first | omega | assumption | rfl)
    (h7 : (↑len : Int) ≤ (4611686018427387904 : Int) := by first | omega | assumption | rfl)
    (h8 : (0 : Int) < (↑len : Int) := by first | omega | assumption | rfl)
    (h9 : (0 : Nat) < len := by first | omega | assumption | rfl)
    (h10 : (↑len : Int) = (↑len : Int) ∧ fl.length = fl.length ∧ len = len ∧ q = n ∧ fl.length = (2 : Nat) * q ∧ q ≤ (100 : Nat) ∧ fldsOK len fl q ∧ len ≤ (1000000 : Nat) ∧ ¬fitsTo fl vs q := by first | omega | assumption | rfl | ((repeat' with_reducible apply And.intro) <;> first | rfl | assumption | omega)) : fnK Try.prog ((SDecRv len fl).on [(19, false), (26, false)]) LPrF Try.f28 [.agg #[u8v x, sl 0 q c]] [rI n vs] =
     (some (Res.ret (Value.tuple (Array.mk [Value.slice none (0 : Nat) (0 : Nat), Value.int IntKind.i64 (2 : Int)])) [some (Blk.mk false (1 : Nat) [Seg.ints IntKind.i64 n vs])])) :=
  Eq.trans (b :=
     bif chk (layS x = some (len, fl)) then bif (↑len : Int) == (0 : Int) then none else bif IntKind.i64.wrap ((↑q : Int) * (2 : Int)) != (↑fl.length : Int) then none else bif decide ((0 : Int) ≤ (↑len :
     Int)) && decide ((↑len : Int) ≤ (↑len : Int)) && decide ((1 : Int) * (↑len : Int) ≤ (281474976710656 : Int)) && decide ((↑len : Int) ≤ (4611686018427387904 : Int)) then bif decide ((0 : Int) < (↑(↑len
     : Int).toNat : Int)) then bif Nat.blt (0 : Nat) (↑len : Int).toNat then bif chk ((↑len : Int) = (↑(↑len : Int).toNat : Int) ∧ fl.length = fl.length ∧ (↑len : Int).toNat = (↑len : Int).toNat ∧ q = n ∧
     fl.length = (2 : Nat) * q ∧ q ≤ (100 : Nat) ∧ fldsOK (↑len : Int).toNat fl q ∧ (↑len : Int).toNat ≤ (1000000 : Nat) ∧ ¬fitsTo fl vs q) then some (Res.ret (Value.tuple (Array.mk [Value.slice none (0 :
     Nat) (0 : Nat), Value.int IntKind.i64 (2 : Int)])) [some (Blk.mk false (1 : Nat) [Seg.ints IntKind.i64 n vs])]) else none else none else none else none else none) (by kernel_rfl) (by simp only [-eq_self, Int.toNat_natCast, swrap w1.1 w1.2]; exact (go_t (chk_t h1) (go_f (eqb_f h2) (go_f (bne_f h3) (go_t (and_t (and_t (and_t (dec_t h4) (dec_t h5)) (dec_t h6)) (dec_t h7)) (go_t (dec_t h8) (go_t (blt_t h9) (go_t (chk_t h10) rfl))))))))
--CFEND
--CP pPrCF (x : Int) (n q c len : Nat) (vs fl : List Int) :: fnK Try.prog ((SDecRv len fl).on [(19, false), (26, true)]) noL Try.f28 [.agg #[u8v x, sl 0 q c]] [rI n vs]
theorem pPrCF (x : Int) (n q c len : Nat) (vs fl : List Int)
    (w1 : -9223372036854775808 ≤ (↑q : Int) * (2 : Int) ∧ (↑q : Int) * (2 : Int) ≤ 9223372036854775807 := by omega)
    (h1 : layS x = some (len, fl) := by first | omega | assumption | rfl)
    (h2 : (↑len : Int) ≠ (0 : Int) := by first | omega | assumption | rfl)
    (h3 : (↑q : Int) * (2 : Int) ≠ (↑fl.length : Int) := by first | omega | assumption | rfl) : fnK Try.prog ((SDecRv len fl).on [(19, false), (26, true)]) noL Try.f28 [.agg #[u8v x, sl 0 q c]] [rI n vs] =
     (some (Res.ret (Value.tuple (Array.mk [Value.slice none (0 : Nat) (0 : Nat), Value.int IntKind.i64 (2 : Int)])) [some (Blk.mk false (1 : Nat) [Seg.ints IntKind.i64 n vs])])) :=
  Eq.trans (b :=
     bif chk (layS x = some (len, fl)) then bif (↑len : Int) == (0 : Int) then none else bif IntKind.i64.wrap ((↑q : Int) * (2 : Int)) != (↑fl.length : Int) then some (Res.ret (Value.tuple (Array.mk
     [Value.slice none (0 : Nat) (0 : Nat), Value.int IntKind.i64 (2 : Int)])) [some (Blk.mk false (1 : Nat) [Seg.ints IntKind.i64 n vs])]) else none else none) (by kernel_rfl) (by simp only [-eq_self, swrap w1.1 w1.2]; exact (go_t (chk_t h1) (go_f (eqb_f h2) (go_t (bne_t h3) rfl))))
--CFEND
--CP pPrNF (x : Int) (n q c : Nat) (vs : List Int) :: fnK Try.prog (SDecRn.on [(19, true)]) noL Try.f28 [.agg #[u8v x, sl 0 q c]] [rI n vs]
theorem pPrNF (x : Int) (n q c : Nat) (vs : List Int)
    (h1 : layS x = none := by first | omega | assumption | rfl) : fnK Try.prog (SDecRn.on [(19, true)]) noL Try.f28 [.agg #[u8v x, sl 0 q c]] [rI n vs] =
     (some (Res.ret (Value.tuple (Array.mk [Value.slice none (0 : Nat) (0 : Nat), Value.int IntKind.i64 (7 : Int)])) [some (Blk.mk false (1 : Nat) [Seg.ints IntKind.i64 n vs])])) :=
  Eq.trans (by kernel_rfl) (go_t (chk_t h1) rfl)
--CFEND
/-- A frame around a payload. -/
def frmS (len : Nat) (b : List Int) : List Int := [160, 162, (len : Int) / 256, (len : Int) % 256] ++ b ++ [sum15 b / 256, sum15 b % 256, 176, 179]
noncomputable def SEnK (len : Nat) (fl : List Int) : Spec := mkS [(27, false, FPayK len fl), (69, false, FFif)]
noncomputable def SEnE (e : Int) : Spec := mkS [(27, false, FPayE e)]
noncomputable def SErK (len : Nat) (fl : List Int) : Spec := mkS [(28, false, FPayK len fl), (70, false, FFif)]
noncomputable def SErE (e : Int) : Spec := mkS [(28, false, FPayE e)]
--CP pEnK (x : Int) (n q c len : Nat) (vs fl : List Int) :: fnK Try.prog ((SEnK len fl).on [(14, false)]) noL Try.f29 [.agg #[u8v x, sl 0 q c]] [rI n vs]
theorem pEnK (x : Int) (n q c len : Nat) (vs fl : List Int)
    (h1 : layS x = some (len, fl) ∧ (2 : Nat) * q = fl.length ∧ q = n ∧ fitsTo fl vs q := by first | omega | assumption | rfl | ((repeat' with_reducible apply And.intro) <;> first | rfl | assumption | omega))
    (h2 : len = len ∧ len ≤ (1000000 : Nat) := by first | omega | assumption | rfl | ((repeat' with_reducible apply And.intro) <;> first | rfl | assumption | omega))
    (h3 : len ≤ len := by first | omega | assumption | rfl)
    (h4 : (4 : Nat) + len ≤ (140737488355328 : Nat) := by first | omega | assumption | rfl)
    (h5 : (4 : Nat) + len ≤ (4611686018427387904 : Nat) := by first | omega | assumption | rfl)
    (h6 : (false || Nat.blt (0 : Nat) len) = true := by first | omega | assumption | rfl)
    (h7 : (4 : Nat) + len ≤ (4 : Nat) + len := by first | omega | assumption | rfl)
    (h8 : (4 : Nat) + len + (4 : Nat) ≤ (140737488355328 : Nat) := by first | omega | assumption | rfl)
    (h9 : (4 : Nat) + len + (4 : Nat) ≤ (4611686018427387904 : Nat) := by first | omega | assumption | rfl)
    (h10 : (4 : Nat) + len = segsLen [Seg.ints IntKind.u8 ((4 : Nat) + len) ([(160 : Int), (162 : Int), IntKind.u8.wrap ((↑len : Int).fdiv (256 : Int)), IntKind.u8.wrap (↑len : Int)] ++ List.take len (payB (pay0 len x) fl vs q))] := by first | omega | assumption | rfl) : fnK Try.prog ((SEnK len fl).on [(14, false)]) noL Try.f29 [.agg #[u8v x, sl 0 q c]] [rI n vs] =
     (some (Res.ret (Value.tuple (Array.mk [Value.slice (some (Addr.mk (1 : Nat) (0 : Nat) none)) ((4 : Nat) + len + (4 : Nat)) (1 : Nat), Value.int IntKind.i64 (0 : Int)])) [some (Blk.mk false (1 : Nat)
     [Seg.ints IntKind.i64 n vs]), some (Blk.mk true (1 : Nat) [Seg.ints IntKind.u8 ((4 : Nat) + len + (4 : Nat)) (List.take ((4 : Nat) + len) ([(160 : Int), (162 : Int), IntKind.u8.wrap ((↑len : Int).fdiv
     (256 : Int)), IntKind.u8.wrap (↑len : Int)] ++ List.take len (payB (pay0 len x) fl vs q)) ++ List.take (4 : Nat) [IntKind.u8.wrap ((sum15 (payB (pay0 len x) fl vs q)).fdiv (256 : Int)),
     IntKind.u8.wrap (sum15 (payB (pay0 len x) fl vs q)), (176 : Int), (179 : Int)])])])) :=
  Eq.trans (b :=
     bif chk (layS x = some (len, fl) ∧ (2 : Nat) * q = fl.length ∧ q = n ∧ fitsTo fl vs q) then bif chk (len = len ∧ len ≤ (1000000 : Nat)) then bif (len * (1 : Nat)).ble len then bif decide (((4 : Nat) +
     len) * (1 : Nat) ≤ (140737488355328 : Nat)) && ((4 : Nat) + len).ble (OfNat.ofNat (4611686018427387904 : Nat)) then bif false || Nat.blt (0 : Nat) len then bif (((4 : Nat) + len) * (1 : Nat)).ble ((4
     : Nat) + len * (1 : Nat)) then bif decide (((4 : Nat) + len + (4 : Nat)) * (1 : Nat) ≤ (140737488355328 : Nat)) && ((4 : Nat) + len + (4 : Nat)).ble (OfNat.ofNat (4611686018427387904 : Nat)) then bif
     ((0 : Nat) + ((4 : Nat) + len) * (1 : Nat)).beq (segsLen [Seg.ints IntKind.u8 ((4 : Nat) + len * (1 : Nat)) ([(160 : Int), (162 : Int), IntKind.u8.wrap ((↑len : Int).fdiv (256 : Int)), IntKind.u8.wrap
     (↑len : Int)] ++ List.take (len * (1 : Nat)) (payB (pay0 len x) fl vs q))]) && true then some (Res.ret (Value.tuple (Array.mk [Value.slice (some (Addr.mk (1 : Nat) (0 : Nat) none)) ((4 : Nat) + len +
     (4 : Nat)) (1 : Nat), Value.int IntKind.i64 (0 : Int)])) [some (Blk.mk false (1 : Nat) [Seg.ints IntKind.i64 n vs]), some (Blk.mk true (1 : Nat) [Seg.ints IntKind.u8 (((4 : Nat) + len) * (1 : Nat) +
     (4 : Nat)) (List.take (((4 : Nat) + len) * (1 : Nat)) ([(160 : Int), (162 : Int), IntKind.u8.wrap ((↑len : Int).fdiv (256 : Int)), IntKind.u8.wrap (↑len : Int)] ++ List.take (len * (1 : Nat)) (payB
     (pay0 len x) fl vs q)) ++ List.take (4 : Nat) [IntKind.u8.wrap ((sum15 (payB (pay0 len x) fl vs q)).fdiv (256 : Int)), IntKind.u8.wrap (sum15 (payB (pay0 len x) fl vs q)), (176 : Int), (179 :
     Int)])])]) else none else none else none else none else none else none else none else none) (by kernel_rfl) (by simp only [-eq_self, Nat.mul_one, Nat.zero_add]; exact (go_t (chk_t h1) (go_t (chk_t h2) (go_t (ble_t h3) (go_t (and_t (dec_t h4) (ble_t h5)) (go_t h6 (go_t (ble_t h7) (go_t (and_t (dec_t h8) (ble_t h9)) (go_t (and_t (beq_t h10) rfl) rfl)))))))))
--CFEND
--CP pEnE (x e : Int) (n q c : Nat) (vs : List Int) :: fnK Try.prog ((SEnE e).on [(14, true)]) noL Try.f29 [.agg #[u8v x, sl 0 q c]] [rI n vs]
theorem pEnE (x e : Int) (n q c : Nat) (vs : List Int)
    (h1 : payErr x q vs = e ∧ e ≠ (0 : Int) ∧ q = n ∧ q ≤ (1000000000 : Nat) := by first | omega | assumption | rfl | ((repeat' with_reducible apply And.intro) <;> first | rfl | assumption | omega))
    (h2 : e ≠ (0 : Int) := by first | omega | assumption | rfl) : fnK Try.prog ((SEnE e).on [(14, true)]) noL Try.f29 [.agg #[u8v x, sl 0 q c]] [rI n vs] =
     (some (Res.ret (Value.tuple (Array.mk [Value.slice none (0 : Nat) (0 : Nat), Value.int IntKind.i64 e])) [some (Blk.mk false (1 : Nat) [Seg.ints IntKind.i64 n vs])])) :=
  Eq.trans (by kernel_rfl) (go_t (chk_t h1) (go_t (bne_t h2) rfl))
--CFEND
--CP pErK (x : Int) (n q c len : Nat) (vs fl : List Int) :: fnK Try.prog ((SErK len fl).on [(14, false)]) noL Try.f30 [.agg #[u8v x, sl 0 q c]] [rI n vs]
theorem pErK (x : Int) (n q c len : Nat) (vs fl : List Int)
    (w1 : -9223372036854775808 ≤ (↑len : Int).tdiv (256 : Int) ∧ (↑len : Int).tdiv (256 : Int) ≤ 9223372036854775807 := by omega)
    (w2 : -9223372036854775808 ≤ sum15 (payB (pay0 len x) fl vs q) ∧ sum15 (payB (pay0 len x) fl vs q) ≤ 9223372036854775807 := by omega)
    (w3 : -9223372036854775808 ≤ (sum15 (payB (pay0 len x) fl vs q)).tdiv (256 : Int) ∧ (sum15 (payB (pay0 len x) fl vs q)).tdiv (256 : Int) ≤ 9223372036854775807 := by omega)
    (h1 : layS x = some (len, fl) ∧ (2 : Nat) * q = fl.length ∧ q = n ∧ fitsTo fl vs q := by first | omega | assumption | rfl | ((repeat' with_reducible apply And.intro) <;> first | rfl | assumption | omega))
    (h2 : len = len ∧ len ≤ (1000000 : Nat) := by first | omega | assumption | rfl | ((repeat' with_reducible apply And.intro) <;> first | rfl | assumption | omega))
    (h3 : len ≤ len := by first | omega | assumption | rfl)
    (h4 : (4 : Nat) + len ≤ (140737488355328 : Nat) := by first | omega | assumption | rfl)
    (h5 : (4 : Nat) + len ≤ (4611686018427387904 : Nat) := by first | omega | assumption | rfl)
    (h6 : (false || Nat.blt (0 : Nat) len) = true := by first | omega | assumption | rfl)
    (h7 : (4 : Nat) + len ≤ (4 : Nat) + len := by first | omega | assumption | rfl)
    (h8 : (4 : Nat) + len + (4 : Nat) ≤ (140737488355328 : Nat) := by first | omega | assumption | rfl)
    (h9 : (4 : Nat) + len + (4 : Nat) ≤ (4611686018427387904 : Nat) := by first | omega | assumption | rfl)
    (h10 : (4 : Nat) + len = segsLen [Seg.ints IntKind.u8 ((4 : Nat) + len) ([(160 : Int), (162 : Int), IntKind.u8.wrap ((↑len : Int).tdiv (256 : Int)), IntKind.u8.wrap ((↑len : Int).tmod (256 : Int))] ++ List.take len (payB (pay0 len x) fl vs q))] := by first | omega | assumption | rfl) : fnK Try.prog ((SErK len fl).on [(14, false)]) noL Try.f30 [.agg #[u8v x, sl 0 q c]] [rI n vs] =
     (some (Res.ret (Value.tuple (Array.mk [Value.slice (some (Addr.mk (1 : Nat) (0 : Nat) none)) ((4 : Nat) + len + (4 : Nat)) (1 : Nat), Value.int IntKind.i64 (0 : Int)])) [some (Blk.mk false (1 : Nat)
     [Seg.ints IntKind.i64 n vs]), some (Blk.mk true (1 : Nat) [Seg.ints IntKind.u8 ((4 : Nat) + len + (4 : Nat)) (List.take ((4 : Nat) + len) ([(160 : Int), (162 : Int), IntKind.u8.wrap ((↑len : Int).tdiv
     (256 : Int)), IntKind.u8.wrap ((↑len : Int).tmod (256 : Int))] ++ List.take len (payB (pay0 len x) fl vs q)) ++ List.take (4 : Nat) [IntKind.u8.wrap ((sum15 (payB (pay0 len x) fl vs q)).tdiv (256 :
     Int)), IntKind.u8.wrap ((sum15 (payB (pay0 len x) fl vs q)).tmod (256 : Int)), (176 : Int), (179 : Int)])])])) :=
  Eq.trans (b :=
     bif chk (layS x = some (len, fl) ∧ (2 : Nat) * q = fl.length ∧ q = n ∧ fitsTo fl vs q) then bif chk (len = len ∧ len ≤ (1000000 : Nat)) then bif (len * (1 : Nat)).ble len then bif decide (((4 : Nat) +
     len) * (1 : Nat) ≤ (140737488355328 : Nat)) && ((4 : Nat) + len).ble (OfNat.ofNat (4611686018427387904 : Nat)) then bif false || Nat.blt (0 : Nat) len then bif (((4 : Nat) + len) * (1 : Nat)).ble ((4
     : Nat) + len * (1 : Nat)) then bif decide (((4 : Nat) + len + (4 : Nat)) * (1 : Nat) ≤ (140737488355328 : Nat)) && ((4 : Nat) + len + (4 : Nat)).ble (OfNat.ofNat (4611686018427387904 : Nat)) then bif
     ((0 : Nat) + ((4 : Nat) + len) * (1 : Nat)).beq (segsLen [Seg.ints IntKind.u8 ((4 : Nat) + len * (1 : Nat)) ([(160 : Int), (162 : Int), IntKind.u8.wrap (IntKind.i64.wrap ((↑len : Int).tdiv (256 :
     Int))), IntKind.u8.wrap ((↑len : Int).tmod (256 : Int))] ++ List.take (len * (1 : Nat)) (payB (pay0 len x) fl vs q))]) && true then some (Res.ret (Value.tuple (Array.mk [Value.slice (some (Addr.mk (1
     : Nat) (0 : Nat) none)) ((4 : Nat) + len + (4 : Nat)) (1 : Nat), Value.int IntKind.i64 (0 : Int)])) [some (Blk.mk false (1 : Nat) [Seg.ints IntKind.i64 n vs]), some (Blk.mk true (1 : Nat) [Seg.ints
     IntKind.u8 (((4 : Nat) + len) * (1 : Nat) + (4 : Nat)) (List.take (((4 : Nat) + len) * (1 : Nat)) ([(160 : Int), (162 : Int), IntKind.u8.wrap (IntKind.i64.wrap ((↑len : Int).tdiv (256 : Int))),
     IntKind.u8.wrap ((↑len : Int).tmod (256 : Int))] ++ List.take (len * (1 : Nat)) (payB (pay0 len x) fl vs q)) ++ List.take (4 : Nat) [IntKind.u8.wrap (IntKind.i64.wrap ((IntKind.i64.wrap (sum15 (payB
     (pay0 len x) fl vs q))).tdiv (256 : Int))), IntKind.u8.wrap ((IntKind.i64.wrap (sum15 (payB (pay0 len x) fl vs q))).tmod (256 : Int)), (176 : Int), (179 : Int)])])]) else none else none else none else
     none else none else none else none else none) (by kernel_rfl) (by simp only [-eq_self, Nat.mul_one, Nat.zero_add, swrap w1.1 w1.2, swrap w2.1 w2.2, swrap w3.1 w3.2]; exact (go_t (chk_t h1) (go_t (chk_t h2) (go_t (ble_t h3) (go_t (and_t (dec_t h4) (ble_t h5)) (go_t h6 (go_t (ble_t h7) (go_t (and_t (dec_t h8) (ble_t h9)) (go_t (and_t (beq_t h10) rfl) rfl)))))))))
--CFEND
--CP pErE (x e : Int) (n q c : Nat) (vs : List Int) :: fnK Try.prog ((SErE e).on [(14, true)]) noL Try.f30 [.agg #[u8v x, sl 0 q c]] [rI n vs]
theorem pErE (x e : Int) (n q c : Nat) (vs : List Int)
    (h1 : payErr x q vs = e ∧ e ≠ (0 : Int) ∧ q = n ∧ q ≤ (1000000000 : Nat) := by first | omega | assumption | rfl | ((repeat' with_reducible apply And.intro) <;> first | rfl | assumption | omega))
    (h2 : e ≠ (0 : Int) := by first | omega | assumption | rfl) : fnK Try.prog ((SErE e).on [(14, true)]) noL Try.f30 [.agg #[u8v x, sl 0 q c]] [rI n vs] =
     (some (Res.ret (Value.tuple (Array.mk [Value.slice none (0 : Nat) (0 : Nat), Value.int IntKind.i64 e])) [some (Blk.mk false (1 : Nat) [Seg.ints IntKind.i64 n vs])])) :=
  Eq.trans (by kernel_rfl) (go_t (chk_t h1) (go_t (bne_t h2) rfl))
--CFEND
end Go.Proofs.Ytcjjngdkkihgjaa.VC

/- sirf, the document's: Payload; Encode: what they are. -/
namespace Go.Proofs.Ytcjjngdkkihgjaa.VC
open Go Go.Proofs

theorem loopOKPrI : LoopOK Try.prog Try.f28.ntmps 1 inPr livePrI LPrIf := by
  refine LoopOK.of_T ?_
  intro vs h k out hk
  unfold LPrIf at hk
  split at hk
  · rename_i ln K' len' cc i m v j n vl x q c K fl len bs
    obtain ⟨hb, hk2⟩ := bif_t hk
    obtain ⟨rfl, rfl, rfl, h4, h5, h6, h7, h8, rfl, h10, h11, h12, h13, h14, h15⟩ := chk_iff.1 hb
    refine ⟨_, _, _, hk2, fun real => ?_⟩
    have hs := real.segs (i := 3) rfl rfl _ (List.mem_cons_self ..)
    obtain ⟨i, rfl⟩ := Int.eq_ofNat_of_zero_le h6
    obtain ⟨m, rfl⟩ := Int.eq_ofNat_of_zero_le (show 0 ≤ m by omega)
    obtain ⟨k2, hk2⟩ : ∃ k2, k2 = K' / 2 := ⟨_, rfl⟩
    rw [← hk2] at h7
    subst h7
    have := loopPrI (x := x) (v := v) (n := n) (q := q) (c := c) (cc := cc) (len := len') (i := i) (k := k2) (m := m) (vs := vl) (bs := bs) (fl := fl) (by omega) (by omega) h10 h11 h12 h13 ⟨h14, h15⟩ hs.1 m 0 (by omega)
    have e0 : v / pw256 ((0 : Nat) : Int) = v := by unfold pw256; simp
    have e1 : putB bs ((fl.getD (2 * (i : Int)).toNat 0).toNat + m) (be v 0) = bs := putB_nil
    rw [e0, e1] at this
    exact this
  · cases hk
theorem loopsPrI : LoopsOK Try.prog LPrI Try.f28.ntmps 1 outPr := loops_one rfl (by kernel_rfl) loopOKPrI
theorem fit_big {v s : Int} (hs : -4 ≤ s ∧ s ≤ 4) (h : fitI v s) : -1000000000000 ≤ v ∧ v ≤ 1000000000000 := by
  have hm := manyI_rng hs
  have hp := pw_4 hm.2
  unfold fitI at h
  split at h <;> omega
theorem roundPr {x : Int} {n q c cc len i k : Nat} {vs bs fl : List Int} (hi : i < k) (hk : k ≤ 100) (hq : k = q) (hn : q = n) (hf : fldsOK len fl k) (hlen : len ≤ 1000000) (hfit : fitI (vs.getD i 0) (fl.getD (i * 2 + 1) 0)) :
    CodeT Try.prog Try.f28.ntmps 1 outPr (zipS livePrO [pt 1, .slice none 0 0, w63 0, w63 len, sl 2 (2 * k) 0, sl 3 len cc, w63 i]) [rI n vs, rS x (sl 0 q c), oI (2 * k) fl, oU len (payB bs fl vs i)] .normal
      (zipS livePrO [pt 1, .slice none 0 0, w63 0, w63 len, sl 2 (2 * k) 0, sl 3 len cc, w63 ((i + 1 : Nat) : Int)]) [rI n vs, rS x (sl 0 q c), oI (2 * k) fl, oU len (payB bs fl vs (i + 1))] := by
  obtain ⟨f1, f2, f3, f4, f5⟩ := hf i hi
  have hv := fit_big ⟨f1, f2⟩ hfit
  have e1 : ((2 : Int) * (i : Int) + 1).toNat = i * 2 + 1 := by omega
  have e2 : ((2 : Int) * (i : Int)).toNat = i * 2 := by omega
  have ek : 2 * k = 2 * (2 * k / 2) := by omega
  by_cases hneg : fl.getD (i * 2 + 1) 0 < 0
  · have em : 0 - fl.getD (i * 2 + 1) 0 = manyI (fl.getD (i * 2 + 1) 0) := by unfold manyI; rw [if_pos (by omega)]
    have hm := manyI_rng ⟨f1, f2⟩
    refine CodeT.on (S := SPrR.on [(37, true), (53, false), (55, true)]) (SPrR_ok.on _) loopsPrI fun on out => ?_
    refine (pPrN x n q c cc len i k vs _ fl on out (w3 := by rw [e1]; omega) (w4 := by rw [e1]; omega) (h7 := by rw [e1]; exact ⟨f1, f2, f3⟩) (h8 := by rw [e1]; exact hfit) (h9 := by rw [e1]; exact hneg)
      (h10 := by rw [e1, e2, em]; exact ⟨rfl, rfl, rfl, by omega, by omega, by omega, ek, by omega, rfl, f4, f5, hlen, by omega, hv.1, hv.2⟩)).trans ?_
    rw [e1, e2, em]; rfl
  · have em : manyI (fl.getD (i * 2 + 1) 0) = fl.getD (i * 2 + 1) 0 := by unfold manyI; rw [if_neg (by omega)]
    rw [em] at f5
    refine CodeT.on (S := SPrR.on [(37, true), (53, false), (55, false)]) (SPrR_ok.on _) loopsPrI fun on out => ?_
    refine (pPrP x n q c cc len i k vs _ fl on out (w3 := by rw [e1]; omega) (h7 := by rw [e1]; exact ⟨f1, f2, f3⟩) (h8 := by rw [e1]; exact hfit) (h9 := by rw [e1]; exact hneg)
      (h10 := by rw [e1, e2]; exact ⟨rfl, rfl, rfl, by omega, by omega, by omega, ek, by omega, rfl, f4, f5, hlen, by omega, hv.1, hv.2⟩)).trans ?_
    rw [e1, e2, payB, em]; rfl
theorem loopPrT {x : Int} {n q c cc len : Nat} {vs bs fl : List Int} (hk : q ≤ 100) (hn : q = n) (hf : fldsOK len fl q) (hlen : len ≤ 1000000) (hfit : fitsTo fl vs q) : ∀ (r i : Nat), i + r = q →
    LoopT Try.prog Try.f28.ntmps 1 outPr (zipS livePrO [pt 1, .slice none 0 0, w63 0, w63 len, sl 2 (2 * q) 0, sl 3 len cc, w63 i]) [rI n vs, rS x (sl 0 q c), oI (2 * q) fl, oU len (payB bs fl vs i)] (.exit 0)
      (zipS livePrO [pt 1, .slice none 0 0, w63 0, w63 len, sl 2 (2 * q) 0, sl 3 len cc, w63 q]) [rI n vs, rS x (sl 0 q c), oI (2 * q) fl, oU len (payB bs fl vs q)] := by
  intro r
  induction r with
  | zero =>
    intro i hi
    obtain rfl : i = q := by omega
    exact LoopT.last (by intro h; cases h) (CodeT.out (SPrR_ok.on _) loopsPrI fun on out => pPrX x n i c cc len i i vs _ fl on out)
  | succ r ih =>
    intro i hi
    exact LoopT.step (roundPr (by omega) hk rfl hn hf hlen (hfit i (by omega))) (ih (i + 1) (by omega))
theorem loopPrF {x : Int} {n q c cc len e : Nat} {vs bs fl : List Int} (hk : q ≤ 100) (hn : q = n) (hf : fldsOK len fl q) (hlen : len ≤ 1000000) (he : e < q) (hno : ¬ fitI (vs.getD e 0) (fl.getD (e * 2 + 1) 0)) (hfit : fitsTo fl vs e) : ∀ (r i : Nat), i + r = e →
    LoopT Try.prog Try.f28.ntmps 1 outPr (zipS livePrO [pt 1, .slice none 0 0, w63 0, w63 len, sl 2 (2 * q) 0, sl 3 len cc, w63 i]) [rI n vs, rS x (sl 0 q c), oI (2 * q) fl, oU len (payB bs fl vs i)] .ret
      (zipS livePrO [pt 1, .slice none 0 0, w63 2, w63 len, sl 2 (2 * q) 0, sl 3 len cc, w63 e]) [rI n vs, rS x (sl 0 q c), oI (2 * q) fl, oU len (payB bs fl vs e)] := by
  intro r
  induction r with
  | zero =>
    intro i hi
    obtain rfl : i = e := by omega
    obtain ⟨f1, f2, f3, f4, f5⟩ := hf i (by omega)
    have e1 : ((2 : Int) * (i : Int) + 1).toNat = i * 2 + 1 := by omega
    exact LoopT.last (by intro h; cases h) (CodeT.out (SPrR_ok.on _) loopsPrI fun on out => pPrU x n q c cc len i q vs _ fl on out (h7 := by rw [e1]; exact ⟨f1, f2, f3⟩) (h8 := by rw [e1]; exact hno))
  | succ r ih =>
    intro i hi
    exact LoopT.step (roundPr (by omega) hk rfl hn hf hlen (hfit i (by omega))) (ih (i + 1) (by omega))
theorem loopOKPrT : LoopOK Try.prog Try.f28.ntmps 1 outPr livePrO LPrTf := by
  refine LoopOK.of_T ?_
  intro vs h k out hk
  unfold LPrTf at hk
  split at hk
  · obtain ⟨hb, hk2⟩ := bif_t hk
    obtain ⟨rfl, rfl, rfl, h4, rfl, h6, h7, h8, h9⟩ := chk_iff.1 hb
    exact ⟨_, _, _, hk2, fun real => loopPrT h6 h4 h7 h8 h9 _ 0 (Nat.zero_add _)⟩
  · cases hk
theorem loopOKPrF : LoopOK Try.prog Try.f28.ntmps 1 outPr livePrO LPrFf := by
  refine LoopOK.of_T ?_
  intro vs h k out hk
  unfold LPrFf at hk
  split at hk
  · obtain ⟨hb, hk2⟩ := bif_t hk
    obtain ⟨rfl, rfl, rfl, h4, rfl, h6, h7, h8, h9⟩ := chk_iff.1 hb
    obtain ⟨g1, g2, g3⟩ := endPy_spec h9
    exact ⟨_, _, _, hk2, fun real => loopPrF h6 h4 h7 h8 g1 g2 g3 _ 0 (Nat.zero_add _)⟩
  · cases hk
theorem loopsPrT : LoopsOK Try.prog LPrT Try.f28.ntmps 1 (bodyOf Try.f28) := loops_one rfl (by kernel_rfl) loopOKPrT
theorem loopsPrF : LoopsOK Try.prog LPrF Try.f28.ntmps 1 (bodyOf Try.f28) := loops_one rfl (by kernel_rfl) loopOKPrF
theorem okPayRK (len : Nat) (fl : List Int) : EntryOK Try.prog 28 (FPayK len fl) := by
  refine EntryOK.of_paths (fn := Try.f28) follows_ok Try.func28 (by kernel_rfl) (by kernel_rfl) ?_
  intro args h k out hF
  unfold FPayK at hF
  split at hF
  · rename_i x q c n vs
    obtain ⟨hb, hF2⟩ := bif_t hF
    obtain ⟨hl, h2, h3, h4⟩ := chk_iff.1 hb
    obtain ⟨g1, g2, g3, g4, g5, g6⟩ := layS_ok hl
    have hq : fl.length / 2 = q := by omega
    rw [hq] at g4 g5
    refine ⟨_, _, hF2, fun _ => ⟨_, LPrT, SpecOK.on (mkS_cons (okLayRv len fl) (mkS_nil _)) _, loopsPrT, (pPrTF x n q c len vs fl (h10 := ⟨rfl, rfl, rfl, h3, h2.symm, g4, g5, by omega, h4⟩)).trans ?_⟩⟩
    rw [dec_t (show (len : Int) = len from rfl)]; rfl
  · cases hF
theorem okPayRE (e : Int) : EntryOK Try.prog 28 (FPayE e) := by
  refine EntryOK.of_paths (fn := Try.f28) follows_ok Try.func28 (by kernel_rfl) (by kernel_rfl) ?_
  intro args h k out hF
  unfold FPayE at hF
  split at hF
  · rename_i x q c n vs
    obtain ⟨hb, hF2⟩ := bif_t hF
    obtain ⟨he, h0, h3, hbig⟩ := chk_iff.1 hb
    refine ⟨_, _, hF2, fun real => ?_⟩
    have hs := real.segs (i := 0) rfl rfl _ (List.mem_cons_self ..)
    unfold payErr at he
    split at he
    · rename_i hl
      subst he
      exact ⟨_, noL, SpecOK.on (mkS_cons okLayRn (mkS_nil _)) _, noL_ok, pPrNF x n q c vs⟩
    · rename_i len fl hl
      obtain ⟨g1, g2, g3, g4, g5, g6⟩ := layS_ok hl
      by_cases hc : 2 * q = fl.length ∧ fitsTo fl vs q
      · rw [if_pos hc] at he; exact (h0 he.symm).elim
      · rw [if_neg hc] at he
        subst he
        by_cases hq : 2 * q = fl.length
        · have hnf : ¬ fitsTo fl vs q := fun x => hc ⟨hq, x⟩
          have hq2 : fl.length / 2 = q := by omega
          rw [hq2] at g4 g5
          exact ⟨_, LPrF, SpecOK.on (mkS_cons (okLayRv len fl) (mkS_nil _)) _, loopsPrF, pPrFF x n q c len vs fl (h10 := ⟨rfl, rfl, rfl, h3, hq.symm, g4, g5, by omega, hnf⟩)⟩
        · exact ⟨_, noL, SpecOK.on (mkS_cons (okLayRv len fl) (mkS_nil _)) _, noL_ok, pPrCF x n q c len vs fl⟩
  · cases hF
end Go.Proofs.Ytcjjngdkkihgjaa.VC

/- sirf, the document's: Encode: what they are. -/
namespace Go.Proofs.Ytcjjngdkkihgjaa.VC
open Go Go.Proofs

def isB (xs : List Int) : Prop := ∀ y ∈ xs, 0 ≤ y ∧ y ≤ 255
theorem putB_isB {xs l : List Int} {a : Nat} (hx : isB xs) (hl : isB l) : isB (putB xs a l) := by
  intro y hy
  unfold putB at hy
  rcases List.mem_append.1 hy with h | h
  · exact hx y (List.mem_of_mem_take h)
  rcases List.mem_append.1 h with h | h
  · exact hl y h
  · exact hx y (List.mem_of_mem_drop h)
theorem be_isB (v : Int) (s : Nat) : isB (be v s) := fun y hy => by have := be_mem hy; omega
theorem payB_isB {bs fl vs : List Int} (hb : isB bs) : ∀ k, isB (payB bs fl vs k)
  | 0 => hb
  | k + 1 => putB_isB (payB_isB hb k) (be_isB _ _)
theorem pay0_isB {len : Nat} {x : Int} (hx : 0 ≤ x ∧ x ≤ 255) : isB (pay0 len x) := fun y hy => by
  unfold pay0 at hy
  rcases List.mem_or_eq_of_mem_set hy with h | h
  · rw [List.eq_of_mem_replicate h]; decide
  · rw [h]; exact hx
theorem payB_len {bs fl vs : List Int} {len : Nat} (hb : bs.length = len) : ∀ k, fldsOK len fl k → (payB bs fl vs k).length = len
  | 0, _ => hb
  | k + 1, hf => by
    have ih := payB_len (vs := vs) hb k fun i hi => hf i (by omega)
    obtain ⟨f1, f2, f3, f4, f5⟩ := hf k (by omega)
    have := manyI_rng ⟨f1, f2⟩
    rw [payB, putB_len, ih]
    rw [be_len, ih]; omega
theorem pay0_len {len : Nat} {x : Int} : (pay0 len x).length = len := by unfold pay0; rw [List.length_set, List.length_replicate]
noncomputable def FEnK (len : Nat) (fl : List Int) : FSpec := fun args h k => match args, h with
  | [.agg ⟨[.int .u8 x, .slice (some ⟨0, 0, none⟩) q _]⟩], [some ⟨false, 1, [.ints .i64 n vs]⟩] =>
    bif chk (layS x = some (len, fl) ∧ 2 * q = fl.length ∧ q = n ∧ fitsTo fl vs q) then k (.tuple #[sl 1 (4 + len + 4) 1, w63 0]) [rI n vs, oU (4 + len + 4) (frmS len (payB (pay0 len x) fl vs q))] else none
  | _, _ => none
theorem frm_eq {len : Nat} {b : List Int} {a0 a1 s0 s1 : Int} (hl : b.length = len) (ha0 : a0 = (len : Int) / 256) (ha1 : a1 = (len : Int) % 256) (h0 : s0 = sum15 b / 256) (h1 : s1 = sum15 b % 256) :
    List.take (4 + len) ([(160 : Int), 162, a0, a1] ++ List.take len b) ++ List.take 4 [s0, s1, 176, 179] = frmS len b := by
  subst ha0 ha1 h0 h1
  rw [List.take_of_length_le (l := b) (by omega), List.take_of_length_le (by simp [hl]; omega)]
  rfl
theorem frm_byte {len : Nat} {b : List Int} (hb : isB b) (hlen : len ≤ 200) :
    IntKind.u8.wrap ((len : Int) / 256) = (len : Int) / 256 ∧ IntKind.u8.wrap (len : Int) = (len : Int) % 256 ∧ IntKind.u8.wrap ((len : Int) % 256) = (len : Int) % 256 ∧
    IntKind.u8.wrap (sum15 b / 256) = sum15 b / 256 ∧ IntKind.u8.wrap (sum15 b) = sum15 b % 256 ∧ IntKind.u8.wrap (sum15 b % 256) = sum15 b % 256 := by
  obtain ⟨h1, h2, _⟩ := sum15_rng b hb
  refine ⟨?_, ?_, ?_, ?_, ?_, ?_⟩ <;> rw [wU8] <;> omega
theorem okEnK (len : Nat) (fl : List Int) : EntryOK Try.prog 29 (FEnK len fl) := by
  refine EntryOK.of_paths (fn := Try.f29) follows_ok Try.func29 (by kernel_rfl) (by kernel_rfl) ?_
  intro args h k out hF
  unfold FEnK at hF
  split at hF
  · rename_i x q c n vs
    obtain ⟨hb, hF2⟩ := bif_t hF
    obtain ⟨hl, h2, h3, h4⟩ := chk_iff.1 hb
    obtain ⟨g1, g2, g3, g4, g5, g6⟩ := layS_ok hl
    rw [show fl.length / 2 = q by omega] at g4 g5
    refine ⟨_, _, hF2, fun real => ?_⟩
    have hx : 0 ≤ x ∧ x ≤ 255 := real.aggI (i := 0) rfl (j := 0) rfl
    have hl2 : (payB (pay0 len x) fl vs q).length = len := payB_len pay0_len q g5
    have hB : isB (payB (pay0 len x) fl vs q) := payB_isB (pay0_isB hx) q
    have hs := (sum15_rng _ hB).1
    refine ⟨_, noL, SpecOK.on (mkS_cons (okPayK len fl) (mkS_cons okFif (mkS_nil _))) _, noL_ok, (pEnK x n q c len vs fl (h6 := blt_t (by omega)) (h10 := rfl)).trans ?_⟩
    obtain ⟨b0, b1, b2, b3, b4, b5⟩ := frm_byte hB g6
    rw [Int.fdiv_eq_ediv_of_nonneg _ (by decide), Int.fdiv_eq_ediv_of_nonneg _ (by decide), frm_eq hl2 b0 b1 b3 b4]
  · cases hF
theorem okErK (len : Nat) (fl : List Int) : EntryOK Try.prog 30 (FEnK len fl) := by
  refine EntryOK.of_paths (fn := Try.f30) follows_ok Try.func30 (by kernel_rfl) (by kernel_rfl) ?_
  intro args h k out hF
  unfold FEnK at hF
  split at hF
  · rename_i x q c n vs
    obtain ⟨hb, hF2⟩ := bif_t hF
    obtain ⟨hl, h2, h3, h4⟩ := chk_iff.1 hb
    obtain ⟨g1, g2, g3, g4, g5, g6⟩ := layS_ok hl
    rw [show fl.length / 2 = q by omega] at g4 g5
    refine ⟨_, _, hF2, fun real => ?_⟩
    have hx : 0 ≤ x ∧ x ≤ 255 := real.aggI (i := 0) rfl (j := 0) rfl
    have hl2 : (payB (pay0 len x) fl vs q).length = len := payB_len pay0_len q g5
    have hB : isB (payB (pay0 len x) fl vs q) := payB_isB (pay0_isB hx) q
    obtain ⟨hs, hs2, _⟩ := sum15_rng _ hB
    have e1 := Int.tdiv_eq_ediv_of_nonneg (b := 256) (show (0 : Int) ≤ len by omega)
    have e2 := Int.tmod_eq_emod_of_nonneg (b := 256) (show (0 : Int) ≤ len by omega)
    have e3 := Int.tdiv_eq_ediv_of_nonneg (b := 256) hs
    have e4 := Int.tmod_eq_emod_of_nonneg (b := 256) hs
    refine ⟨_, noL, SpecOK.on (mkS_cons (okPayRK len fl) (mkS_cons okFifR (mkS_nil _))) _, noL_ok, (pErK x n q c len vs fl (w1 := by rw [e1]; omega) (w3 := by rw [e3]; omega) (h6 := blt_t (by omega)) (h10 := rfl)).trans ?_⟩
    obtain ⟨b0, b1, b2, b3, b4, b5⟩ := frm_byte hB g6
    rw [e1, e2, e3, e4, frm_eq hl2 b0 b2 b3 b5]
  · cases hF
theorem okEnE (e : Int) : EntryOK Try.prog 29 (FPayE e) := by
  refine EntryOK.of_paths (fn := Try.f29) follows_ok Try.func29 (by kernel_rfl) (by kernel_rfl) ?_
  intro args h k out hF
  unfold FPayE at hF
  split at hF
  · rename_i x q c n vs
    obtain ⟨hb, hF2⟩ := bif_t hF
    exact ⟨_, _, hF2, fun _ => ⟨_, noL, SpecOK.on (mkS_cons (okPayE e) (mkS_nil _)) _, noL_ok, pEnE x e n q c vs (h1 := chk_iff.1 hb) (h2 := (chk_iff.1 hb).2.1)⟩⟩
  · cases hF
theorem okErE (e : Int) : EntryOK Try.prog 30 (FPayE e) := by
  refine EntryOK.of_paths (fn := Try.f30) follows_ok Try.func30 (by kernel_rfl) (by kernel_rfl) ?_
  intro args h k out hF
  unfold FPayE at hF
  split at hF
  · rename_i x q c n vs
    obtain ⟨hb, hF2⟩ := bif_t hF
    exact ⟨_, _, hF2, fun _ => ⟨_, noL, SpecOK.on (mkS_cons (okPayRE e) (mkS_nil _)) _, noL_ok, pErE x e n q c vs (h1 := chk_iff.1 hb) (h2 := (chk_iff.1 hb).2.1)⟩⟩
  · cases hF
end Go.Proofs.Ytcjjngdkkihgjaa.VC

/- The document's numbers: isSet, Of, Neg, Held, Add, Sub, proved. -/
import Derived.Test.YtfgehfnlkakioaaR8
import Derived.Laws.Bits64
import Derived.Laws.Bits64b
namespace Go.Proofs.Ytfgehfnlkakioaa.VC
open Go Go.Proofs

/-- Heaps, of rows fewer numbers told. -/
inductive CutH : Heap → Heap → Prop
  | nil : CutH [] []
  | same (b : Option Blk) {h h2 : Heap} (q : CutH h h2) : CutH (b :: h) (b :: h2)
  | row {own : Bool} {es : Nat} {k : IntKind} {n l : Nat} {xs ys : List Int} (hl : l ≤ n) (hy : ys = xs.take l) {h h2 : Heap} (q : CutH h h2) : CutH (some ⟨own, es, [.ints k n xs]⟩ :: h) (some ⟨own, es, [.ints k l ys]⟩ :: h2)

theorem CutH.len {h h2 : Heap} (q : CutH h h2) : h.length = h2.length := by induction q <;> simp_all
theorem CutH.at {h h2 : Heap} (q : CutH h h2) : ∀ (id : Nat) (b2 : Blk), h2[id]? = some (some b2) → ∃ b1 : Blk, h[id]? = some (some b1) ∧ b1.own = b2.own ∧ b1.es = b2.es ∧ (segsOK b1.segs → segsOK b2.segs) ∧ ∀ i v, cell? b2.segs i = some v → cell? b1.segs i = some v := by
  induction q with
  | nil => intro id b2 h; simp at h
  | same b _ ih =>
    intro id b2 h
    cases id with
    | zero => simp at h; subst h; exact ⟨b2, by simp, rfl, rfl, fun x => x, fun _ _ x => x⟩
    | succ id => obtain ⟨b1, q⟩ := ih id b2 (by simpa using h); exact ⟨b1, by simpa using q⟩
  | row hl hy _ ih =>
    rename_i own es k n l xs ys h h2 q
    intro id b2 hb
    cases id with
    | zero =>
      simp at hb
      subst hb hy
      refine ⟨⟨own, es, [.ints k n xs]⟩, by simp, rfl, rfl, fun hs => ?_, fun i v hv => ?_⟩
      · have h1 := hs (.ints k n xs) (List.mem_cons_self ..)
        intro s hs2
        rcases List.mem_cons.1 hs2 with rfl | hs2
        · exact ⟨by rw [List.length_take, h1.1]; omega, fun x hx => h1.2 x (List.mem_of_mem_take hx)⟩
        · cases hs2
      · simp only [cell?] at hv ⊢
        by_cases hi : i < l
        · rw [if_pos hi] at hv
          rw [if_pos (by omega)]
          rw [getD_take xs hi]
          exact hv
        · rw [if_neg hi] at hv; cases hv
    | succ id => obtain ⟨b1, q⟩ := ih id b2 (by simpa using hb); exact ⟨b1, by simpa using q⟩

theorem Weak.cut {v : Value} {h h2 : Heap} (q : CutH h h2) : Weak v h v h2 :=
  ⟨fun _ _ _ hr => HR_cells hr q.len q.at, fun _ _ _ _ _ x => x, fun _ _ hm => mods_cells (fun id b2 hb => let ⟨b1, a, b, _⟩ := q.at id b2 hb; ⟨b1, a, b⟩) hm⟩

theorem retEq {v v2 : Value} {h h2 : Heap} (e : v = v2) (e2 : h = h2) : (some (Res.ret v h) : Out) = some (.ret v2 h2) := by rw [e, e2]

theorem bitN (v p : Nat) : v / BB ^ (p / 32) % BB / 2 ^ (p % 32) % 2 = v / 2 ^ p % 2 := by
  have e : BB ^ (p / 32) = 2 ^ (32 * (p / 32)) := by rw [Nat.pow_mul]
  have e2 : v / 2 ^ p = v / BB ^ (p / 32) / 2 ^ (p % 32) := by
    rw [e, Nat.div_div_eq_div_mul, ← Nat.pow_add, Nat.div_add_mod]
  rw [e2]
  generalize v / BB ^ (p / 32) = w
  have h : p % 32 < 32 := Nat.mod_lt _ (by decide)
  have := Nat.testBit_mod_two_pow w 32 (p % 32)
  rw [decide_eq_true h, Bool.true_and, Nat.testBit_eq_decide_div_mod_eq, Nat.testBit_eq_decide_div_mod_eq] at this
  have h2 := decide_eq_decide.1 this
  show w % 4294967296 / 2 ^ (p % 32) % 2 = _
  rw [show (2 : Nat) ^ 32 = 4294967296 from rfl] at h2
  omega

theorem ok91 : EntryOK Try.prog 91 F91 := by
  refine EntryOK.of_fn S95_ok follows_ok Try.func91 (by kernel_rfl) (by kernel_rfl) ?_
  intro args h k out hF
  unfold F91 at hF
  split at hF
  · rename_i n c p n1 xs
    obtain ⟨hb, hF2⟩ := bif_t hF
    simp only [Bool.and_eq_true, decide_eq_true_eq] at hb
    obtain ⟨⟨hx, hn⟩, hp⟩ := hb
    refine ⟨_, _, hF2, fun real => ⟨noL, noL_ok, ?_⟩⟩
    have hr := real.int (i := 1) rfl
    obtain ⟨P, rfl⟩ := Int.eq_ofNat_of_zero_le hp
    have hr2 : (P : Int) ≤ 9223372036854775807 := hr.2
    rw [cf91]
    have e1 : IntKind.i64.wrap ((P : Int).tdiv 32) = ((P / 32 : Nat) : Int) := by
      rw [Int.tdiv_eq_ediv_of_nonneg (by omega), swrap (by omega) (by omega)]; omega
    have e2 : IntKind.u64.wrap ((P : Int).tmod 32) = ((P % 32 : Nat) : Int) := by
      rw [Int.tmod_eq_emod_of_nonneg (by omega), wu64 (by omega) (by omega)]; omega
    rw [e1, e2, hn, dec_t (Int.natCast_nonneg _), dec_f (by omega), wordAt_norm hx, Int.toNat_natCast, Nat.min_eq_left (show P % 32 ≤ 64 by omega)]
    simp only [Bool.and_self, condT, condF, Int.toNat_natCast]
    have e3 : (2 : Int) ^ (P % 32) = ((2 ^ (P % 32) : Nat) : Int) := by rw [Int.natCast_pow]; rfl
    rw [e3, Int.fdiv_eq_ediv_of_nonneg _ (Int.natCast_nonneg _)]
    have e4 : ∀ a b : Nat, (a : Int) / (b : Int) = ((a / b : Nat) : Int) := fun a b => (Int.natCast_ediv a b).symm
    rw [e4]
    have hlt : numW n xs / BB ^ (P / 32) % BB / 2 ^ (P % 32) < 18446744073709551616 := by
      refine Nat.lt_of_le_of_lt (Nat.div_le_self _ _) ?_
      have : numW n xs / BB ^ (P / 32) % BB < 4294967296 := Nat.mod_lt _ (by decide)
      omega
    have e5 := bits_and_u64_nat _ 1 hlt (by decide)
    rw [Nat.and_one_is_mod, bitN] at e5
    have e6 : bits .and .u64 ((numW n xs / BB ^ (P / 32) % BB / 2 ^ (P % 32) : Nat) : Int) 1 = ((numW n xs / 2 ^ P % 2 : Nat) : Int) := e5
    rw [e6]
    refine congrArg (fun b => some (Res.ret (.bool b) _)) ?_
    rw [Bool.eq_iff_iff, beq_iff_eq, decide_eq_true_iff]
    omega
  · cases hF

noncomputable def F29 : FSpec := fun args h k => match args, h with
  | [.int .i64 a], [] => k (zV 0 a) [zB a]
  | _, _ => none

theorem xorN (x : Nat) (hx : x < 18446744073709551616) : bits .xor .u64 18446744073709551615 (x : Int) = ((18446744073709551615 - x : Nat) : Int) := by
  have h := bits_xor_u64_nat 18446744073709551615 x (by decide) hx
  have e : 18446744073709551615 ^^^ x = 18446744073709551615 - x := by
    have h1 : (BitVec.allOnes 64 ^^^ BitVec.ofNat 64 x).toNat = (~~~ (BitVec.ofNat 64 x)).toNat := by rw [BitVec.not_def]
    rw [BitVec.toNat_xor, BitVec.toNat_not, BitVec.toNat_allOnes, BitVec.toNat_ofNat, Nat.mod_eq_of_lt hx] at h1
    exact h1
  rw [e] at h
  exact h

theorem nat2 (v : Nat) (h : v < 18446744073709551616) : [((v % 4294967296 : Nat) : Int), ((v / 4294967296 : Nat) : Int)] = wordsN 2 v := by
  simp only [wordsN]
  rw [show v / 4294967296 % 4294967296 = v / 4294967296 by omega]

theorem ok29 : EntryOK Try.prog 29 F29 := by
  refine EntryOK.of_fn_weak S1s_ok follows_ok Try.func29 (by kernel_rfl) (by kernel_rfl) ?_
  intro args h k out hF
  unfold F29 at hF
  split at hF
  · rename_i a
    refine ⟨_, _, hF, fun real => ?_⟩
    have ha := i64r real 0 rfl
    have hv : a.natAbs < 18446744073709551616 := by omega
    have hv2 : a.natAbs < BB ^ 2 := hv
    refine ⟨noL, .agg ⟨[.bool (decide (a < 0)), .slice (some ⟨0, 0, none⟩) (digits a.natAbs).length 2]⟩, [ob 2 (wordsN 2 a.natAbs)], noL_ok, ?_, Weak.cut (.row (digits_len_le hv2) (take_digits_wordsN 2 _ hv2).symm .nil)⟩
    rw [cf29]
    have hw : wordsB 2 (wordsN 2 a.natAbs) = true := wordsB_wordsN (by decide)
    have hn : numW 2 (wordsN 2 a.natAbs) = a.natAbs := numW_wordsN hv2
    refine dc (fun c => ?_) (fun c => ?_)
    · have e1 : IntKind.u64.wrap (bits BinOp.xor IntKind.u64 18446744073709551615 (IntKind.u64.wrap a) + 1) = (a.natAbs : Int) := by
        have : IntKind.u64.wrap a = ((18446744073709551616 - a.natAbs : Nat) : Int) := by rw [wu64e]; omega
        rw [this, xorN _ (by omega), wu64e]
        omega
      rw [e1, maskN _ hv, fd32, divN, nat2 _ hv, hw, hn, decide_eq_true c, decide_eq_true (show 0 < a.natAbs by omega)]
      rfl
    · have e1 : IntKind.u64.wrap a = (a.natAbs : Int) := by rw [wu64e]; omega
      rw [e1, maskN _ hv, fd32, divN, nat2 _ hv, hw, hn, decide_eq_false c]
      rfl
  · cases hF

noncomputable def F37 : FSpec := fun args h k => match args, h with
  | [.agg ⟨[.bool s, .slice (some ⟨0, 0, none⟩) n _]⟩], [some ⟨false, 1, [.ints .u64 n1 xs]⟩] =>
    bif wordsB n xs && Nat.ble n n1 then k (.agg ⟨[.bool (!s && decide (0 < numW n xs)), .slice (some ⟨0, 0, none⟩) (digits (numW n xs)).length 2]⟩) [wb n1 xs] else none
  | _, _ => none
theorem ok37 : EntryOK Try.prog 37 F37 := by
  refine EntryOK.of_fn S1s_ok follows_ok Try.func37 (by kernel_rfl) (by kernel_rfl) ?_
  intro args h k out hF
  unfold F37 at hF
  split at hF
  · rename_i s n c n1 xs
    obtain ⟨hb, hF2⟩ := bif_t hF
    exact ⟨_, _, hF2, fun real => ⟨noL, noL_ok, by rw [cf37, hb]; rfl⟩⟩
  · cases hF

/-- The nearest of 64 bits. -/
noncomputable def F31 : FSpec := fun args h k => match args, h with
  | [.agg ⟨[.bool s, .slice (some ⟨0, 0, none⟩) n _]⟩], [some ⟨false, 1, [.ints .u64 n1 xs]⟩] =>
    bif normB n xs && Nat.ble n n1 then k (w63 (hold (sgn s (numW n xs)))) [wb n1 xs] else none
  | _, _ => none

theorem orN (a b : Nat) (ha : a < 4294967296) (hb : b < 4294967296) : bits .or .u64 ((a * 4294967296 : Nat) : Int) (b : Int) = ((a * 4294967296 + b : Nat) : Int) := by
  have h := bits_or_u64_nat (a * 4294967296) b (by omega) (by omega)
  have e := Nat.two_pow_add_eq_or_of_lt (i := 32) (b := b) hb a
  rw [show (2 : Nat) ^ 32 = 4294967296 from rfl, Nat.mul_comm] at e
  rw [← e] at h
  exact h

theorem ok31 : EntryOK Try.prog 31 F31 := by
  refine EntryOK.of_fn S1s_ok follows_ok Try.func31 (by kernel_rfl) (by kernel_rfl) ?_
  intro args h k out hF
  unfold F31 at hF
  split at hF
  · rename_i s n c n1 xs
    obtain ⟨hb, hF2⟩ := bif_t hF
    simp only [Bool.and_eq_true] at hb
    obtain ⟨hx, hn⟩ := hb
    refine ⟨_, _, hF2, fun real => ⟨noL, noL_ok, ?_⟩⟩
    have e0 : wordAt n xs 0 = _ := wordAt_norm (p := 0) hx
    have e1 : wordAt n xs 1 = _ := wordAt_norm (p := 1) hx
    have e2 := lt_norm (p := 2) hx
    have p0 : BB ^ 0 = 1 := rfl
    have p1 : BB ^ 1 = 4294967296 := rfl
    have p2 : BB ^ 2 = 18446744073709551616 := rfl
    rw [p0, Nat.div_one] at e0
    rw [p1] at e1
    rw [p2] at e2
    rw [cf31, e0, e1, hn]
    simp only [Bool.and_self, condT]
    generalize numW n xs = v at *
    have big : 9223372036854775808 ≤ v → (bif s then some (Res.ret (Value.int IntKind.i64 (-9223372036854775808)) [some (Blk.mk false 1 [Seg.ints IntKind.u64 n1 xs])])
       else some (Res.ret (Value.int IntKind.i64 9223372036854775807) [some (Blk.mk false 1 [Seg.ints IntKind.u64 n1 xs])])) = some (Res.ret (w63 (hold (sgn s v))) [wb n1 xs]) := by
      intro h
      unfold hold sgn
      cases s
      · simp only [condF]; rw [if_neg (by omega)]; split <;> first | rfl | omega
      · simp only [condT]; split
        · rfl
        · rw [show (-9223372036854775808 : Int) = -(v : Int) by omega]
          split <;> first | rfl | omega
    refine dc (fun c1 => big (by omega)) (fun c1 => ?_)
    refine dc (fun c2 => big ?_) (fun c2 => ?_)
    · have : v / 4294967296 % BB = v / 4294967296 % 4294967296 := rfl
      omega
    · have m1 : v / 4294967296 % BB = v / 4294967296 := by show v / 4294967296 % 4294967296 = _; omega
      rw [m1] at c2
      rw [m1, show ((v / 4294967296 : Nat) : Int) * 4294967296 = ((v / 4294967296 * 4294967296 : Nat) : Int) by omega, wrapN _ (by omega), orN _ _ (by omega) (Nat.mod_lt _ (by decide)),
        show v / 4294967296 * 4294967296 + v % BB = v by show _ + v % 4294967296 = v; omega, swrap (x := (v : Int)) (by omega) (by omega), swrap (by omega) (by omega)]
      unfold hold sgn
      cases s
      · simp only [condF]; rw [if_neg (by omega)]; split <;> first | rfl | omega
      · simp only [condT]; rw [if_neg (by omega)]; split
        · omega
        · rw [Int.zero_sub]
  · cases hF

noncomputable def F35 : FSpec := fun args h k => match args, h with
  | [.agg ⟨[.bool s, .slice (some ⟨0, 0, none⟩) n _]⟩, .agg ⟨[.bool t, .slice (some ⟨1, 0, none⟩) m _]⟩], [some ⟨false, 1, [.ints .u64 n1 xs]⟩, some ⟨false, 1, [.ints .u64 m1 ys]⟩] =>
    bif normB n xs && normB m ys && Nat.ble n n1 && Nat.ble m m1 && Nat.ble n 400000 && Nat.ble m 400000 then
      k (zV 2 (sgn s (numW n xs) + sgn t (numW m ys))) [wb n1 xs, wb m1 ys, zB (sgn s (numW n xs) + sgn t (numW m ys))] else none
  | _, _ => none

theorem zV_eq {id v : Nat} {z : Int} {b : Bool} (h1 : decide (z < 0) = b) (h2 : z.natAbs = v) : (.agg ⟨[.bool b, .slice (some ⟨id, 0, none⟩) (digits v).length 2]⟩ : Value) = zV id z := by subst h1 h2; rfl
theorem zB_eq {v : Nat} {z : Int} (h2 : z.natAbs = v) : ob (digits v).length (digits v) = zB z := by subst h2; rfl

theorem wordsB_digits {v : Nat} (h : (digits v).length ≤ 1000000) : wordsB (digits v).length (digits v) = true := wordsB_norm (normB_digits h)

theorem ok35 : EntryOK Try.prog 35 F35 := by
  refine EntryOK.of_fn_weak S2s_ok follows_ok Try.func35 (by kernel_rfl) (by kernel_rfl) ?_
  intro args h k out hF
  unfold F35 at hF
  split at hF
  · rename_i s n c t m d n1 xs m1 ys
    obtain ⟨hb, hF2⟩ := bif_t hF
    simp only [Bool.and_eq_true] at hb
    obtain ⟨⟨⟨⟨⟨hx, hy⟩, hn⟩, hm⟩, hn4⟩, hm4⟩ := hb
    have hn4 := ble_true hn4
    have hm4 := ble_true hm4
    refine ⟨_, _, hF2, fun real => ?_⟩
    have h1 := numW_lt hx
    have h2 := numW_lt hy
    have h5 := digits_add_le h1 h2
    have w1 := wordsB_digits (v := numW n xs + numW m ys) (by omega)
    have w2 := numW_digits (numW n xs + numW m ys)
    have w3 : wordsB m (wordsN m (numW m ys - numW n xs)) = true := wordsB_wordsN (by omega)
    have w4 : numW m (wordsN m (numW m ys - numW n xs)) = numW m ys - numW n xs := numW_wordsN (by omega)
    have w5 : wordsB n (wordsN n (numW n xs - numW m ys)) = true := wordsB_wordsN (by omega)
    have w6 : numW n (wordsN n (numW n xs - numW m ys)) = numW n xs - numW m ys := numW_wordsN (by omega)
    have w7 := take_digits_wordsN m (numW m ys - numW n xs) (by omega)
    have w8 := take_digits_wordsN n (numW n xs - numW m ys) (by omega)
    have w9 : (digits (numW m ys - numW n xs)).length ≤ m := digits_len_le (by omega)
    have w0 : (digits (numW n xs - numW m ys)).length ≤ n := digits_len_le (by omega)
    have ca : cmpI (numW n xs) (numW m ys) < 0 ↔ numW n xs < numW m ys := by unfold cmpI; split <;> (try split) <;> omega
    rcases (by cases s <;> cases t <;> simp : s = t ∨ s = !t) with hst | hst
    · have ev : (sgn s (numW n xs) + sgn t (numW m ys)).natAbs = numW n xs + numW m ys := by subst hst; unfold sgn; cases s <;> simp only [condT, condF] <;> omega
      refine ⟨noL, zV 2 (sgn s (numW n xs) + sgn t (numW m ys)), [wb n1 xs, wb m1 ys, zB (sgn s (numW n xs) + sgn t (numW m ys))], noL_ok, ?_, Weak.refl _ _⟩
      rw [cf35, show (s == t) = true by rw [hst]; exact beq_self_eq_true t]
      simp only [hx, hy, hn, hm, w1, w2, Nat.ble_eq_true_of_le (Nat.le_refl _), Bool.and_self, condT]
      refine retEq (zV_eq ?_ ev) (by rw [← zB_eq ev])
      subst hst; unfold sgn
      cases s
      · simp only [condF, Bool.false_and]; exact decide_eq_false (by omega)
      · simp only [condT, Bool.true_and]; exact decide_eq_decide.2 (by omega)
    · by_cases hlt : numW n xs < numW m ys
      · have ev : (sgn s (numW n xs) + sgn t (numW m ys)).natAbs = numW m ys - numW n xs := by subst hst; unfold sgn; cases t <;> simp only [Bool.not_true, Bool.not_false, condT, condF] <;> omega
        refine ⟨noL, zV 2 (sgn s (numW n xs) + sgn t (numW m ys)), [wb n1 xs, wb m1 ys, ob m (wordsN m (numW m ys - numW n xs))], noL_ok, ?_, Weak.cut (.same _ (.same _ (.row (by rw [ev]; exact w9) (by rw [ev]; exact w7.symm) .nil)))⟩
        rw [cf35, show (s == t) = false by rw [hst]; cases t <;> rfl]
        simp only [hx, hy, hn, hm, w3, w4, Nat.ble_eq_true_of_le (Nat.le_refl _), Nat.ble_eq_true_of_le (Nat.le_of_lt hlt), Bool.and_self, condT, condF, decide_eq_true (ca.2 hlt)]
        refine retEq (zV_eq ?_ ev) rfl
        subst hst; unfold sgn
        cases t
        · simp only [Bool.not_false, condT, condF, Bool.false_and]; exact decide_eq_false (by omega)
        · simp only [Bool.not_true, condT, condF, Bool.true_and]; exact decide_eq_decide.2 (by omega)
      · have ev : (sgn s (numW n xs) + sgn t (numW m ys)).natAbs = numW n xs - numW m ys := by subst hst; unfold sgn; cases t <;> simp only [Bool.not_true, Bool.not_false, condT, condF] <;> omega
        refine ⟨noL, zV 2 (sgn s (numW n xs) + sgn t (numW m ys)), [wb n1 xs, wb m1 ys, ob n (wordsN n (numW n xs - numW m ys))], noL_ok, ?_, Weak.cut (.same _ (.same _ (.row (by rw [ev]; exact w0) (by rw [ev]; exact w8.symm) .nil)))⟩
        rw [cf35, show (s == t) = false by rw [hst]; cases t <;> rfl]
        simp only [hx, hy, hn, hm, w5, w6, Nat.ble_eq_true_of_le (Nat.le_refl _), Nat.ble_eq_true_of_le (Nat.le_of_not_lt hlt), Bool.and_self, condT, condF, decide_eq_false (fun h => hlt (ca.1 h))]
        refine retEq (zV_eq ?_ ev) rfl
        subst hst; unfold sgn
        cases t
        · simp only [Bool.not_false, condT, condF, Bool.true_and]; exact decide_eq_decide.2 (by omega)
        · simp only [Bool.not_true, condT, condF, Bool.false_and]; exact decide_eq_false (by omega)
  · cases hF
end Go.Proofs.Ytfgehfnlkakioaa.VC

/- The document's numbers: isSet, Of, Neg, Held, Add, Sub. -/
import Derived.Test.YtfgehfnlkakioaaRX1
import Derived.Laws.Bits64
import Derived.Laws.Bits64b
import Derived.Test.YtfgehfnlkakioaaSX
namespace Go.Proofs.Ytfgehfnlkakioaa.VC
open Go Go.Proofs

abbrev nA (neg : Bool) (id n c : Nat) : Value := .agg ⟨[.bool neg, .slice (some ⟨id, 0, none⟩) n c]⟩
/-- A number with its sign. -/
def sgn (neg : Bool) (v : Nat) : Int := bif neg then -(v : Int) else v
/-- A number as it is told, in the block id. -/
abbrev zV (id : Nat) (z : Int) : Value := .agg ⟨[.bool (decide (z < 0)), .slice (some ⟨id, 0, none⟩) (digits z.natAbs).length 2]⟩
abbrev zB (z : Int) : Option Blk := ob (digits z.natAbs).length (digits z.natAbs)

noncomputable def F91 : FSpec := fun args h k => match args, h with
  | [.slice (some ⟨0, 0, none⟩) n _, .int .i64 p], [some ⟨false, 1, [.ints .u64 n1 xs]⟩] =>
    bif normB n xs && Nat.ble n n1 && decide (0 ≤ p) then k (.bool (decide (numW n xs / 2 ^ p.toNat % 2 = 1))) [wb n1 xs] else none
  | _, _ => none

noncomputable def S1s : Spec := mkS [(93, false, F93), (95, false, F95)]
theorem S1s_ok : SpecOK Try.prog S1s := mkS_cons ok93 (mkS_cons ok95 (mkS_nil _))
--CF cf29 (a : Int) :: fnK Try.prog S1s noL Try.f29 [w63 a] []
theorem cf29 (a : Int) : fnK Try.prog S1s noL Try.f29 [w63 a] [] =
     (bif decide (a < 0) then bif wordsB 2 [bits BinOp.and IntKind.u64 (IntKind.u64.wrap (bits BinOp.xor IntKind.u64 18446744073709551615 (IntKind.u64.wrap a) + 1)) 4294967295, (IntKind.u64.wrap (bits
     BinOp.xor IntKind.u64 18446744073709551615 (IntKind.u64.wrap a) + 1)).fdiv 4294967296] && true then some (Res.ret (Value.agg (Array.mk [Value.bool (decide (a < 0) && decide (0 < numW 2 [bits BinOp.and
     IntKind.u64 (IntKind.u64.wrap (bits BinOp.xor IntKind.u64 18446744073709551615 (IntKind.u64.wrap a) + 1)) 4294967295, (IntKind.u64.wrap (bits BinOp.xor IntKind.u64 18446744073709551615
     (IntKind.u64.wrap a) + 1)).fdiv 4294967296])), Value.slice (some (Addr.mk 0 0 none)) (digits (numW 2 [bits BinOp.and IntKind.u64 (IntKind.u64.wrap (bits BinOp.xor IntKind.u64 18446744073709551615
     (IntKind.u64.wrap a) + 1)) 4294967295, (IntKind.u64.wrap (bits BinOp.xor IntKind.u64 18446744073709551615 (IntKind.u64.wrap a) + 1)).fdiv 4294967296])).length 2])) [some (Blk.mk true 1 [Seg.ints
     IntKind.u64 2 [bits BinOp.and IntKind.u64 (IntKind.u64.wrap (bits BinOp.xor IntKind.u64 18446744073709551615 (IntKind.u64.wrap a) + 1)) 4294967295, (IntKind.u64.wrap (bits BinOp.xor IntKind.u64
     18446744073709551615 (IntKind.u64.wrap a) + 1)).fdiv 4294967296]])]) else none else bif wordsB 2 [bits BinOp.and IntKind.u64 (IntKind.u64.wrap a) 4294967295, (IntKind.u64.wrap a).fdiv 4294967296] &&
     true then some (Res.ret (Value.agg (Array.mk [Value.bool (decide (a < 0) && decide (0 < numW 2 [bits BinOp.and IntKind.u64 (IntKind.u64.wrap a) 4294967295, (IntKind.u64.wrap a).fdiv 4294967296])),
     Value.slice (some (Addr.mk 0 0 none)) (digits (numW 2 [bits BinOp.and IntKind.u64 (IntKind.u64.wrap a) 4294967295, (IntKind.u64.wrap a).fdiv 4294967296])).length 2])) [some (Blk.mk true 1 [Seg.ints
     IntKind.u64 2 [bits BinOp.and IntKind.u64 (IntKind.u64.wrap a) 4294967295, (IntKind.u64.wrap a).fdiv 4294967296]])]) else none) := by kernel_rfl
--CFEND
--CF cf37 (s : Bool) (n c n1 : Nat) (xs : List Int) :: fnK Try.prog S1s noL Try.f37 [nA s 0 n c] [wb n1 xs]
theorem cf37 (s : Bool) (n c n1 : Nat) (xs : List Int) : fnK Try.prog S1s noL Try.f37 [nA s 0 n c] [wb n1 xs] =
     (bif wordsB n xs && n.ble n1 then some (Res.ret (Value.agg (Array.mk [Value.bool (!s && decide (0 < numW n xs)), Value.slice (some (Addr.mk 0 0 none)) (digits (numW n xs)).length 2])) [some (Blk.mk
     false 1 [Seg.ints IntKind.u64 n1 xs])]) else none) := by kernel_rfl
--CFEND
--CF cf31 (s : Bool) (n c n1 : Nat) (xs : List Int) :: fnK Try.prog S1s noL Try.f31 [nA s 0 n c] [wb n1 xs]
theorem cf31 (s : Bool) (n c n1 : Nat) (xs : List Int) : fnK Try.prog S1s noL Try.f31 [nA s 0 n c] [wb n1 xs] =
     (bif decide ((↑n : Int) > 2) then bif s then some (Res.ret (Value.int IntKind.i64 (-9223372036854775808)) [some (Blk.mk false 1 [Seg.ints IntKind.u64 n1 xs])]) else some (Res.ret (Value.int
     IntKind.i64 9223372036854775807) [some (Blk.mk false 1 [Seg.ints IntKind.u64 n1 xs])]) else bif n.ble n1 && true then bif decide (wordAt n xs 1 ≥ 2147483648) then bif s then some (Res.ret (Value.int
     IntKind.i64 (-9223372036854775808)) [some (Blk.mk false 1 [Seg.ints IntKind.u64 n1 xs])]) else some (Res.ret (Value.int IntKind.i64 9223372036854775807) [some (Blk.mk false 1 [Seg.ints IntKind.u64 n1
     xs])]) else bif n.ble n1 && true then bif n.ble n1 && true then bif s then some (Res.ret (Value.int IntKind.i64 (IntKind.i64.wrap (0 - IntKind.i64.wrap (bits BinOp.or IntKind.u64 (IntKind.u64.wrap
     (wordAt n xs 1 * 4294967296)) (wordAt n xs 0))))) [some (Blk.mk false 1 [Seg.ints IntKind.u64 n1 xs])]) else some (Res.ret (Value.int IntKind.i64 (IntKind.i64.wrap (bits BinOp.or IntKind.u64
     (IntKind.u64.wrap (wordAt n xs 1 * 4294967296)) (wordAt n xs 0)))) [some (Blk.mk false 1 [Seg.ints IntKind.u64 n1 xs])]) else none else none else none) := by kernel_rfl
--CFEND
noncomputable def S2s : Spec := mkS [(92, false, F92), (93, false, F93), (94, false, F94), (96, false, F96)]
theorem S2s_ok : SpecOK Try.prog S2s := mkS_cons ok92 (mkS_cons ok93 (mkS_cons ok94 (mkS_cons ok96 (mkS_nil _))))
--CF cf35 (s t : Bool) (n c m d n1 m1 : Nat) (xs ys : List Int) :: fnK Try.prog S2s noL Try.f35 [nA s 0 n c, nA t 1 m d] [wb n1 xs, wb m1 ys]
theorem cf35 (s t : Bool) (n c m d n1 m1 : Nat) (xs ys : List Int) : fnK Try.prog S2s noL Try.f35 [nA s 0 n c, nA t 1 m d] [wb n1 xs, wb m1 ys] =
     (bif s == t then bif normB n xs && normB m ys && n.ble n1 && m.ble m1 then bif wordsB (digits (numW n xs + numW m ys)).length (digits (numW n xs + numW m ys)) && (digits (numW n xs + numW m
     ys)).length.ble (digits (numW n xs + numW m ys)).length then some (Res.ret (Value.agg (Array.mk [Value.bool (s && decide (0 < numW (digits (numW n xs + numW m ys)).length (digits (numW n xs + numW m
     ys)))), Value.slice (some (Addr.mk 2 0 none)) (digits (numW (digits (numW n xs + numW m ys)).length (digits (numW n xs + numW m ys)))).length 2])) [some (Blk.mk false 1 [Seg.ints IntKind.u64 n1 xs]),
     some (Blk.mk false 1 [Seg.ints IntKind.u64 m1 ys]), some (Blk.mk true 1 [Seg.ints IntKind.u64 (digits (numW n xs + numW m ys)).length (digits (numW n xs + numW m ys))])]) else none else none else bif
     normB n xs && normB m ys && n.ble n1 && m.ble m1 then bif decide (cmpI (numW n xs) (numW m ys) < 0) then bif normB m ys && normB n xs && m.ble m1 && n.ble n1 && (numW n xs).ble (numW m ys) then bif
     wordsB m (wordsN m (numW m ys - numW n xs)) && m.ble m then some (Res.ret (Value.agg (Array.mk [Value.bool (t && decide (0 < numW m (wordsN m (numW m ys - numW n xs)))), Value.slice (some (Addr.mk 2 0
     none)) (digits (numW m (wordsN m (numW m ys - numW n xs)))).length 2])) [some (Blk.mk false 1 [Seg.ints IntKind.u64 n1 xs]), some (Blk.mk false 1 [Seg.ints IntKind.u64 m1 ys]), some (Blk.mk true 1
     [Seg.ints IntKind.u64 m (wordsN m (numW m ys - numW n xs))])]) else none else none else bif normB n xs && normB m ys && n.ble n1 && m.ble m1 && (numW m ys).ble (numW n xs) then bif wordsB n (wordsN n
     (numW n xs - numW m ys)) && n.ble n then some (Res.ret (Value.agg (Array.mk [Value.bool (s && decide (0 < numW n (wordsN n (numW n xs - numW m ys)))), Value.slice (some (Addr.mk 2 0 none)) (digits
     (numW n (wordsN n (numW n xs - numW m ys)))).length 2])) [some (Blk.mk false 1 [Seg.ints IntKind.u64 n1 xs]), some (Blk.mk false 1 [Seg.ints IntKind.u64 m1 ys]), some (Blk.mk true 1 [Seg.ints
     IntKind.u64 n (wordsN n (numW n xs - numW m ys))])]) else none else none else none) := by kernel_rfl
--CFEND
end Go.Proofs.Ytfgehfnlkakioaa.VC

/- The document's numbers: isSet, Of, Neg, Held, Add, Sub, proved. -/
namespace Go.Proofs.Ytfgehfnlkakioaa.VC
open Go Go.Proofs

/-- Heaps, of rows fewer numbers told. -/
inductive CutH : Heap → Heap → Prop
  | nil : CutH [] []
  | same (b : Option Blk) {h h2 : Heap} (q : CutH h h2) : CutH (b :: h) (b :: h2)
  | row {own : Bool} {es : Nat} {k : IntKind} {n l : Nat} {xs ys : List Int} (hl : l ≤ n) (hy : ys = xs.take l) {h h2 : Heap} (q : CutH h h2) : CutH (some ⟨own, es, [.ints k n xs]⟩ :: h) (some ⟨own, es, [.ints k l ys]⟩ :: h2)

theorem CutH.len {h h2 : Heap} (q : CutH h h2) : h.length = h2.length := by induction q <;> simp_all
theorem CutH.at {h h2 : Heap} (q : CutH h h2) : ∀ (id : Nat) (b2 : Blk), h2[id]? = some (some b2) → ∃ b1 : Blk, h[id]? = some (some b1) ∧ b1.own = b2.own ∧ b1.es = b2.es ∧ (segsOK b1.segs → segsOK b2.segs) ∧ ∀ i v, cell? b2.segs i = some v → cell? b1.segs i = some v := by
  induction q with
  | nil => intro id b2 h; simp at h
  | same b _ ih =>
    intro id b2 h
    cases id with
    | zero => simp at h; subst h; exact ⟨b2, by simp, rfl, rfl, fun x => x, fun _ _ x => x⟩
    | succ id => obtain ⟨b1, q⟩ := ih id b2 (by simpa using h); exact ⟨b1, by simpa using q⟩
  | row hl hy _ ih =>
    rename_i own es k n l xs ys h h2 q
    intro id b2 hb
    cases id with
    | zero =>
      simp at hb
      subst hb hy
      refine ⟨⟨own, es, [.ints k n xs]⟩, by simp, rfl, rfl, fun hs => ?_, fun i v hv => ?_⟩
      · have h1 := hs (.ints k n xs) (List.mem_cons_self ..)
        intro s hs2
        rcases List.mem_cons.1 hs2 with rfl | hs2
        · exact ⟨by rw [List.length_take, h1.1]; omega, fun x hx => h1.2 x (List.mem_of_mem_take hx)⟩
        · cases hs2
      · simp only [cell?] at hv ⊢
        by_cases hi : i < l
        · rw [if_pos hi] at hv
          rw [if_pos (by omega)]
          rw [getD_take xs hi]
          exact hv
        · rw [if_neg hi] at hv; cases hv
    | succ id => obtain ⟨b1, q⟩ := ih id b2 (by simpa using hb); exact ⟨b1, by simpa using q⟩

theorem Weak.cut {v : Value} {h h2 : Heap} (q : CutH h h2) : Weak v h v h2 :=
  ⟨fun _ _ _ hr => HR_cells hr q.len q.at, fun _ _ _ _ _ x => x, fun _ _ hm => mods_cells (fun id b2 hb => let ⟨b1, a, b, _⟩ := q.at id b2 hb; ⟨b1, a, b⟩) hm⟩

theorem retEq {v v2 : Value} {h h2 : Heap} (e : v = v2) (e2 : h = h2) : (some (Res.ret v h) : Out) = some (.ret v2 h2) := by rw [e, e2]

theorem bitN (v p : Nat) : v / BB ^ (p / 32) % BB / 2 ^ (p % 32) % 2 = v / 2 ^ p % 2 := by
  have e : BB ^ (p / 32) = 2 ^ (32 * (p / 32)) := by rw [Nat.pow_mul]
  have e2 : v / 2 ^ p = v / BB ^ (p / 32) / 2 ^ (p % 32) := by
    rw [e, Nat.div_div_eq_div_mul, ← Nat.pow_add, Nat.div_add_mod]
  rw [e2]
  generalize v / BB ^ (p / 32) = w
  have h : p % 32 < 32 := Nat.mod_lt _ (by decide)
  have := Nat.testBit_mod_two_pow w 32 (p % 32)
  rw [decide_eq_true h, Bool.true_and, Nat.testBit_eq_decide_div_mod_eq, Nat.testBit_eq_decide_div_mod_eq] at this
  have h2 := decide_eq_decide.1 this
  show w % 4294967296 / 2 ^ (p % 32) % 2 = _
  rw [show (2 : Nat) ^ 32 = 4294967296 from rfl] at h2
  omega

theorem ok91 : EntryOK Try.prog 91 F91 := by
  refine EntryOK.of_fn S95_ok follows_ok Try.func91 (by kernel_rfl) (by kernel_rfl) ?_
  intro args h k out hF
  unfold F91 at hF
  split at hF
  · rename_i n c p n1 xs
    obtain ⟨hb, hF2⟩ := bif_t hF
    simp only [Bool.and_eq_true, decide_eq_true_eq] at hb
    obtain ⟨⟨hx, hn⟩, hp⟩ := hb
    refine ⟨_, _, hF2, fun real => ⟨noL, noL_ok, ?_⟩⟩
    have hr := real.int (i := 1) rfl
    obtain ⟨P, rfl⟩ := Int.eq_ofNat_of_zero_le hp
    have hr2 : (P : Int) ≤ 9223372036854775807 := hr.2
    rw [cf91]
    have e1 : IntKind.i64.wrap ((P : Int).tdiv 32) = ((P / 32 : Nat) : Int) := by
      rw [Int.tdiv_eq_ediv_of_nonneg (by omega), swrap (by omega) (by omega)]; omega
    have e2 : IntKind.u64.wrap ((P : Int).tmod 32) = ((P % 32 : Nat) : Int) := by
      rw [Int.tmod_eq_emod_of_nonneg (by omega), wu64 (by omega) (by omega)]; omega
    rw [e1, e2, hn, dec_t (Int.natCast_nonneg _), dec_f (by omega), wordAt_norm hx, Int.toNat_natCast, Nat.min_eq_left (show P % 32 ≤ 64 by omega)]
    simp only [Bool.and_self, condT, condF, Int.toNat_natCast]
    have e3 : (2 : Int) ^ (P % 32) = ((2 ^ (P % 32) : Nat) : Int) := by rw [Int.natCast_pow]; rfl
    rw [e3, Int.fdiv_eq_ediv_of_nonneg _ (Int.natCast_nonneg _)]
    have e4 : ∀ a b : Nat, (a : Int) / (b : Int) = ((a / b : Nat) : Int) := fun a b => (Int.natCast_ediv a b).symm
    rw [e4]
    have hlt : numW n xs / BB ^ (P / 32) % BB / 2 ^ (P % 32) < 18446744073709551616 := by
      refine Nat.lt_of_le_of_lt (Nat.div_le_self _ _) ?_
      have : numW n xs / BB ^ (P / 32) % BB < 4294967296 := Nat.mod_lt _ (by decide)
      omega
    have e5 := bits_and_u64_nat _ 1 hlt (by decide)
    rw [Nat.and_one_is_mod, bitN] at e5
    have e6 : bits .and .u64 ((numW n xs / BB ^ (P / 32) % BB / 2 ^ (P % 32) : Nat) : Int) 1 = ((numW n xs / 2 ^ P % 2 : Nat) : Int) := e5
    rw [e6]
    refine congrArg (fun b => some (Res.ret (.bool b) _)) ?_
    rw [Bool.eq_iff_iff, beq_iff_eq, decide_eq_true_iff]
    omega
  · cases hF

noncomputable def F29 : FSpec := fun args h k => match args, h with
  | [.int .i64 a], [] => k (zV 0 a) [zB a]
  | _, _ => none

theorem xorN (x : Nat) (hx : x < 18446744073709551616) : bits .xor .u64 18446744073709551615 (x : Int) = ((18446744073709551615 - x : Nat) : Int) := by
  have h := bits_xor_u64_nat 18446744073709551615 x (by decide) hx
  have e : 18446744073709551615 ^^^ x = 18446744073709551615 - x := by
    have h1 : (BitVec.allOnes 64 ^^^ BitVec.ofNat 64 x).toNat = (~~~ (BitVec.ofNat 64 x)).toNat := by rw [BitVec.not_def]
    rw [BitVec.toNat_xor, BitVec.toNat_not, BitVec.toNat_allOnes, BitVec.toNat_ofNat, Nat.mod_eq_of_lt hx] at h1
    exact h1
  rw [e] at h
  exact h

theorem nat2 (v : Nat) (h : v < 18446744073709551616) : [((v % 4294967296 : Nat) : Int), ((v / 4294967296 : Nat) : Int)] = wordsN 2 v := by
  simp only [wordsN]
  rw [show v / 4294967296 % 4294967296 = v / 4294967296 by omega]

theorem ok29 : EntryOK Try.prog 29 F29 := by
  refine EntryOK.of_fn_weak S1s_ok follows_ok Try.func29 (by kernel_rfl) (by kernel_rfl) ?_
  intro args h k out hF
  unfold F29 at hF
  split at hF
  · rename_i a
    refine ⟨_, _, hF, fun real => ?_⟩
    have ha := i64r real 0 rfl
    have hv : a.natAbs < 18446744073709551616 := by omega
    have hv2 : a.natAbs < BB ^ 2 := hv
    refine ⟨noL, .agg ⟨[.bool (decide (a < 0)), .slice (some ⟨0, 0, none⟩) (digits a.natAbs).length 2]⟩, [ob 2 (wordsN 2 a.natAbs)], noL_ok, ?_, Weak.cut (.row (digits_len_le hv2) (take_digits_wordsN 2 _ hv2).symm .nil)⟩
    rw [cf29]
    have hw : wordsB 2 (wordsN 2 a.natAbs) = true := wordsB_wordsN (by decide)
    have hn : numW 2 (wordsN 2 a.natAbs) = a.natAbs := numW_wordsN hv2
    refine dc (fun c => ?_) (fun c => ?_)
    · have e1 : IntKind.u64.wrap (bits BinOp.xor IntKind.u64 18446744073709551615 (IntKind.u64.wrap a) + 1) = (a.natAbs : Int) := by
        have : IntKind.u64.wrap a = ((18446744073709551616 - a.natAbs : Nat) : Int) := by rw [wu64e]; omega
        rw [this, xorN _ (by omega), wu64e]
        omega
      rw [e1, maskN _ hv, fd32, divN, nat2 _ hv, hw, hn, decide_eq_true c, decide_eq_true (show 0 < a.natAbs by omega)]
      rfl
    · have e1 : IntKind.u64.wrap a = (a.natAbs : Int) := by rw [wu64e]; omega
      rw [e1, maskN _ hv, fd32, divN, nat2 _ hv, hw, hn, decide_eq_false c]
      rfl
  · cases hF

noncomputable def F37 : FSpec := fun args h k => match args, h with
  | [.agg ⟨[.bool s, .slice (some ⟨0, 0, none⟩) n _]⟩], [some ⟨false, 1, [.ints .u64 n1 xs]⟩] =>
    bif wordsB n xs && Nat.ble n n1 then k (.agg ⟨[.bool (!s && decide (0 < numW n xs)), .slice (some ⟨0, 0, none⟩) (digits (numW n xs)).length 2]⟩) [wb n1 xs] else none
  | _, _ => none
theorem ok37 : EntryOK Try.prog 37 F37 := by
  refine EntryOK.of_fn S1s_ok follows_ok Try.func37 (by kernel_rfl) (by kernel_rfl) ?_
  intro args h k out hF
  unfold F37 at hF
  split at hF
  · rename_i s n c n1 xs
    obtain ⟨hb, hF2⟩ := bif_t hF
    exact ⟨_, _, hF2, fun real => ⟨noL, noL_ok, by rw [cf37, hb]; rfl⟩⟩
  · cases hF

/-- The nearest of 64 bits. -/
noncomputable def F31 : FSpec := fun args h k => match args, h with
  | [.agg ⟨[.bool s, .slice (some ⟨0, 0, none⟩) n _]⟩], [some ⟨false, 1, [.ints .u64 n1 xs]⟩] =>
    bif normB n xs && Nat.ble n n1 then k (w63 (hold (sgn s (numW n xs)))) [wb n1 xs] else none
  | _, _ => none

theorem orN (a b : Nat) (ha : a < 4294967296) (hb : b < 4294967296) : bits .or .u64 ((a * 4294967296 : Nat) : Int) (b : Int) = ((a * 4294967296 + b : Nat) : Int) := by
  have h := bits_or_u64_nat (a * 4294967296) b (by omega) (by omega)
  have e := Nat.two_pow_add_eq_or_of_lt (i := 32) (b := b) hb a
  rw [show (2 : Nat) ^ 32 = 4294967296 from rfl, Nat.mul_comm] at e
  rw [← e] at h
  exact h

theorem ok31 : EntryOK Try.prog 31 F31 := by
  refine EntryOK.of_fn S1s_ok follows_ok Try.func31 (by kernel_rfl) (by kernel_rfl) ?_
  intro args h k out hF
  unfold F31 at hF
  split at hF
  · rename_i s n c n1 xs
    obtain ⟨hb, hF2⟩ := bif_t hF
    simp only [Bool.and_eq_true] at hb
    obtain ⟨hx, hn⟩ := hb
    refine ⟨_, _, hF2, fun real => ⟨noL, noL_ok, ?_⟩⟩
    have e0 : wordAt n xs 0 = _ := wordAt_norm (p := 0) hx
    have e1 : wordAt n xs 1 = _ := wordAt_norm (p := 1) hx
    have e2 := lt_norm (p := 2) hx
    have p0 : BB ^ 0 = 1 := rfl
    have p1 : BB ^ 1 = 4294967296 := rfl
    have p2 : BB ^ 2 = 18446744073709551616 := rfl
    rw [p0, Nat.div_one] at e0
    rw [p1] at e1
    rw [p2] at e2
    rw [cf31, e0, e1, hn]
    simp only [Bool.and_self, condT]
    generalize numW n xs = v at *
    have big : 9223372036854775808 ≤ v → (bif s then some (Res.ret (Value.int IntKind.i64 (-9223372036854775808)) [some (Blk.mk false 1 [Seg.ints IntKind.u64 n1 xs])])
       else some (Res.ret (Value.int IntKind.i64 9223372036854775807) [some (Blk.mk false 1 [Seg.ints IntKind.u64 n1 xs])])) = some (Res.ret (w63 (hold (sgn s v))) [wb n1 xs]) := by
      intro h
      unfold hold sgn
      cases s
      · simp only [condF]; rw [if_neg (by omega)]; split <;> first | rfl | omega
      · simp only [condT]; split
        · rfl
        · rw [show (-9223372036854775808 : Int) = -(v : Int) by omega]
          split <;> first | rfl | omega
    refine dc (fun c1 => big (by omega)) (fun c1 => ?_)
    refine dc (fun c2 => big ?_) (fun c2 => ?_)
    · have : v / 4294967296 % BB = v / 4294967296 % 4294967296 := rfl
      omega
    · have m1 : v / 4294967296 % BB = v / 4294967296 := by show v / 4294967296 % 4294967296 = _; omega
      rw [m1] at c2
      rw [m1, show ((v / 4294967296 : Nat) : Int) * 4294967296 = ((v / 4294967296 * 4294967296 : Nat) : Int) by omega, wrapN _ (by omega), orN _ _ (by omega) (Nat.mod_lt _ (by decide)),
        show v / 4294967296 * 4294967296 + v % BB = v by show _ + v % 4294967296 = v; omega, swrap (x := (v : Int)) (by omega) (by omega), swrap (by omega) (by omega)]
      unfold hold sgn
      cases s
      · simp only [condF]; rw [if_neg (by omega)]; split <;> first | rfl | omega
      · simp only [condT]; rw [if_neg (by omega)]; split
        · omega
        · rw [Int.zero_sub]
  · cases hF

noncomputable def F35 : FSpec := fun args h k => match args, h with
  | [.agg ⟨[.bool s, .slice (some ⟨0, 0, none⟩) n _]⟩, .agg ⟨[.bool t, .slice (some ⟨1, 0, none⟩) m _]⟩], [some ⟨false, 1, [.ints .u64 n1 xs]⟩, some ⟨false, 1, [.ints .u64 m1 ys]⟩] =>
    bif normB n xs && normB m ys && Nat.ble n n1 && Nat.ble m m1 && Nat.ble n 400000 && Nat.ble m 400000 then
      k (zV 2 (sgn s (numW n xs) + sgn t (numW m ys))) [wb n1 xs, wb m1 ys, zB (sgn s (numW n xs) + sgn t (numW m ys))] else none
  | _, _ => none

theorem zV_eq {id v : Nat} {z : Int} {b : Bool} (h1 : decide (z < 0) = b) (h2 : z.natAbs = v) : (.agg ⟨[.bool b, .slice (some ⟨id, 0, none⟩) (digits v).length 2]⟩ : Value) = zV id z := by subst h1 h2; rfl
theorem zB_eq {v : Nat} {z : Int} (h2 : z.natAbs = v) : ob (digits v).length (digits v) = zB z := by subst h2; rfl

theorem wordsB_digits {v : Nat} (h : (digits v).length ≤ 1000000) : wordsB (digits v).length (digits v) = true := wordsB_norm (normB_digits h)

theorem ok35 : EntryOK Try.prog 35 F35 := by
  refine EntryOK.of_fn_weak S2s_ok follows_ok Try.func35 (by kernel_rfl) (by kernel_rfl) ?_
  intro args h k out hF
  unfold F35 at hF
  split at hF
  · rename_i s n c t m d n1 xs m1 ys
    obtain ⟨hb, hF2⟩ := bif_t hF
    simp only [Bool.and_eq_true] at hb
    obtain ⟨⟨⟨⟨⟨hx, hy⟩, hn⟩, hm⟩, hn4⟩, hm4⟩ := hb
    have hn4 := ble_true hn4
    have hm4 := ble_true hm4
    refine ⟨_, _, hF2, fun real => ?_⟩
    have h1 := numW_lt hx
    have h2 := numW_lt hy
    have h5 := digits_add_le h1 h2
    have w1 := wordsB_digits (v := numW n xs + numW m ys) (by omega)
    have w2 := numW_digits (numW n xs + numW m ys)
    have w3 : wordsB m (wordsN m (numW m ys - numW n xs)) = true := wordsB_wordsN (by omega)
    have w4 : numW m (wordsN m (numW m ys - numW n xs)) = numW m ys - numW n xs := numW_wordsN (by omega)
    have w5 : wordsB n (wordsN n (numW n xs - numW m ys)) = true := wordsB_wordsN (by omega)
    have w6 : numW n (wordsN n (numW n xs - numW m ys)) = numW n xs - numW m ys := numW_wordsN (by omega)
    have w7 := take_digits_wordsN m (numW m ys - numW n xs) (by omega)
    have w8 := take_digits_wordsN n (numW n xs - numW m ys) (by omega)
    have w9 : (digits (numW m ys - numW n xs)).length ≤ m := digits_len_le (by omega)
    have w0 : (digits (numW n xs - numW m ys)).length ≤ n := digits_len_le (by omega)
    have ca : cmpI (numW n xs) (numW m ys) < 0 ↔ numW n xs < numW m ys := by unfold cmpI; split <;> (try split) <;> omega
    rcases (by cases s <;> cases t <;> simp : s = t ∨ s = !t) with hst | hst
    · have ev : (sgn s (numW n xs) + sgn t (numW m ys)).natAbs = numW n xs + numW m ys := by subst hst; unfold sgn; cases s <;> simp only [condT, condF] <;> omega
      refine ⟨noL, zV 2 (sgn s (numW n xs) + sgn t (numW m ys)), [wb n1 xs, wb m1 ys, zB (sgn s (numW n xs) + sgn t (numW m ys))], noL_ok, ?_, Weak.refl _ _⟩
      rw [cf35, show (s == t) = true by rw [hst]; exact beq_self_eq_true t]
      simp only [hx, hy, hn, hm, w1, w2, Nat.ble_eq_true_of_le (Nat.le_refl _), Bool.and_self, condT]
      refine retEq (zV_eq ?_ ev) (by rw [← zB_eq ev])
      subst hst; unfold sgn
      cases s
      · simp only [condF, Bool.false_and]; exact decide_eq_false (by omega)
      · simp only [condT, Bool.true_and]; exact decide_eq_decide.2 (by omega)
    · by_cases hlt : numW n xs < numW m ys
      · have ev : (sgn s (numW n xs) + sgn t (numW m ys)).natAbs = numW m ys - numW n xs := by subst hst; unfold sgn; cases t <;> simp only [Bool.not_true, Bool.not_false, condT, condF] <;> omega
        refine ⟨noL, zV 2 (sgn s (numW n xs) + sgn t (numW m ys)), [wb n1 xs, wb m1 ys, ob m (wordsN m (numW m ys - numW n xs))], noL_ok, ?_, Weak.cut (.same _ (.same _ (.row (by rw [ev]; exact w9) (by rw [ev]; exact w7.symm) .nil)))⟩
        rw [cf35, show (s == t) = false by rw [hst]; cases t <;> rfl]
        simp only [hx, hy, hn, hm, w3, w4, Nat.ble_eq_true_of_le (Nat.le_refl _), Nat.ble_eq_true_of_le (Nat.le_of_lt hlt), Bool.and_self, condT, condF, decide_eq_true (ca.2 hlt)]
        refine retEq (zV_eq ?_ ev) rfl
        subst hst; unfold sgn
        cases t
        · simp only [Bool.not_false, condT, condF, Bool.false_and]; exact decide_eq_false (by omega)
        · simp only [Bool.not_true, condT, condF, Bool.true_and]; exact decide_eq_decide.2 (by omega)
      · have ev : (sgn s (numW n xs) + sgn t (numW m ys)).natAbs = numW n xs - numW m ys := by subst hst; unfold sgn; cases t <;> simp only [Bool.not_true, Bool.not_false, condT, condF] <;> omega
        refine ⟨noL, zV 2 (sgn s (numW n xs) + sgn t (numW m ys)), [wb n1 xs, wb m1 ys, ob n (wordsN n (numW n xs - numW m ys))], noL_ok, ?_, Weak.cut (.same _ (.same _ (.row (by rw [ev]; exact w0) (by rw [ev]; exact w8.symm) .nil)))⟩
        rw [cf35, show (s == t) = false by rw [hst]; cases t <;> rfl]
        simp only [hx, hy, hn, hm, w5, w6, Nat.ble_eq_true_of_le (Nat.le_refl _), Nat.ble_eq_true_of_le (Nat.le_of_not_lt hlt), Bool.and_self, condT, condF, decide_eq_false (fun h => hlt (ca.1 h))]
        refine retEq (zV_eq ?_ ev) rfl
        subst hst; unfold sgn
        cases t
        · simp only [Bool.not_false, condT, condF, Bool.true_and]; exact decide_eq_decide.2 (by omega)
        · simp only [Bool.not_true, condT, condF, Bool.false_and]; exact decide_eq_false (by omega)
  · cases hF
end Go.Proofs.Ytfgehfnlkakioaa.VC

/- The document's numbers: Sub, Mul, Two, Down, Up, Quotient: closed forms. -/
namespace Go.Proofs.Ytfgehfnlkakioaa.VC
open Go Go.Proofs

noncomputable def S36 : Spec := mkS [(35, false, F35), (37, false, F37)]
theorem S36_ok : SpecOK Try.prog S36 := mkS_cons ok35 (mkS_cons ok37 (mkS_nil _))
--CF cf36 (s t : Bool) (n c m d n1 m1 : Nat) (xs ys : List Int) :: fnK Try.prog S36 noL Try.f36 [nA s 0 n c, nA t 1 m d] [wb n1 xs, wb m1 ys]
theorem cf36 (s t : Bool) (n c m d n1 m1 : Nat) (xs ys : List Int) : fnK Try.prog S36 noL Try.f36 [nA s 0 n c, nA t 1 m d] [wb n1 xs, wb m1 ys] =
     (bif wordsB m ys && m.ble m1 then bif normB n xs && normB (digits (numW m ys)).length ys && n.ble n1 && (digits (numW m ys)).length.ble m1 && n.ble (OfNat.ofNat 400000) && (digits (numW m
     ys)).length.ble (OfNat.ofNat 400000) then some (Res.ret (Value.agg (Array.mk [Value.bool (decide (sgn s (numW n xs) + sgn (!t && decide (0 < numW m ys)) (numW (digits (numW m ys)).length ys) < 0)),
     Value.slice (some (Addr.mk 2 0 none)) (digits (sgn s (numW n xs) + sgn (!t && decide (0 < numW m ys)) (numW (digits (numW m ys)).length ys)).natAbs).length 2])) [some (Blk.mk false 1 [Seg.ints
     IntKind.u64 n1 xs]), some (Blk.mk false 1 [Seg.ints IntKind.u64 m1 ys]), some (Blk.mk true 1 [Seg.ints IntKind.u64 (digits (sgn s (numW n xs) + sgn (!t && decide (0 < numW m ys)) (numW (digits (numW m
     ys)).length ys)).natAbs).length (digits (sgn s (numW n xs) + sgn (!t && decide (0 < numW m ys)) (numW (digits (numW m ys)).length ys)).natAbs)])]) else none else none) := by kernel_rfl
--CFEND

noncomputable def S32 : Spec := mkS [(90, false, F90), (91, false, F91), (93, false, F93), (96, false, F96)]
theorem S32_ok : SpecOK Try.prog S32 := mkS_cons ok90 (mkS_cons ok91 (mkS_cons ok93 (mkS_cons ok96 (mkS_nil _))))
def live32 : List Nat := [2, 3, 4, 5, 6]
abbrev pt (id : Nat) : Value := .pointer (some ⟨id, 0, none⟩)
abbrev bx (s : Bool) (id n c : Nat) : Option Blk := some ⟨true, 2, [.vals [.bool s, .slice (some ⟨id, 0, none⟩) n c]]⟩
abbrev db (v : Nat) : Option Blk := ob (digits v).length (digits v)
abbrev dS (id v : Nat) : Value := sl id (digits v).length 1
--CF cf32r (s t : Bool) (n c m d n1 m1 v : Nat) (xs ys : List Int) (p : Int) (on : List Value → Heap → Out) (out : Exit → List Value → Heap → Out) :: roundK Try.prog S32 noL Try.f32.ntmps 2 (loopOf Try.f32 0) live32 [pt 2, pt 3, pt 4, dS 5 v, w63 p] [wb n1 xs, wb m1 ys, bx s 0 n c, bx t 1 m d, nb false, db v] on out
theorem cf32r (s t : Bool) (n c m d n1 m1 v : Nat) (xs ys : List Int) (p : Int) (on : List Value → Heap → Out) (out : Exit → List Value → Heap → Out) : roundK Try.prog S32 noL Try.f32.ntmps 2 (loopOf Try.f32 0) live32 [pt 2, pt 3, pt 4, dS 5 v, w63 p] [wb n1 xs, wb m1 ys, bx s 0 n c, bx t 1 m d, nb false, db v] on out =
     (bif decide (p ≥ 0) then bif normB (digits v).length (digits v) && (digits v).length.ble (digits v).length then bif normB m ys && m.ble m1 && decide (0 ≤ p) then bif decide (numW m ys / 2 ^ p.toNat %
     2 = 1) then bif normB (digits (2 * numW (digits v).length (digits v))).length (digits (2 * numW (digits v).length (digits v))) && normB n xs && (digits (2 * numW (digits v).length (digits
     v))).length.ble (digits (2 * numW (digits v).length (digits v))).length && n.ble n1 then on [Value.pointer (some (Addr.mk 2 0 none)), Value.pointer (some (Addr.mk 3 0 none)), Value.pointer (some
     (Addr.mk 4 0 none)), Value.slice (some (Addr.mk 5 0 none)) (digits (numW (digits (2 * numW (digits v).length (digits v))).length (digits (2 * numW (digits v).length (digits v))) + numW n xs)).length
     1, Value.int IntKind.i64 (IntKind.i64.wrap (p - 1))] [some (Blk.mk false 1 [Seg.ints IntKind.u64 n1 xs]), some (Blk.mk false 1 [Seg.ints IntKind.u64 m1 ys]), some (Blk.mk true 2 [Seg.vals [Value.bool
     s, Value.slice (some (Addr.mk 0 0 none)) n c]]), some (Blk.mk true 2 [Seg.vals [Value.bool t, Value.slice (some (Addr.mk 1 0 none)) m d]]), some (Blk.mk true 2 [Seg.vals [Value.bool false, Value.slice
     none 0 0]]), some (Blk.mk true 1 [Seg.ints IntKind.u64 (digits (numW (digits (2 * numW (digits v).length (digits v))).length (digits (2 * numW (digits v).length (digits v))) + numW n xs)).length
     (digits (numW (digits (2 * numW (digits v).length (digits v))).length (digits (2 * numW (digits v).length (digits v))) + numW n xs))])] else none else on [Value.pointer (some (Addr.mk 2 0 none)),
     Value.pointer (some (Addr.mk 3 0 none)), Value.pointer (some (Addr.mk 4 0 none)), Value.slice (some (Addr.mk 5 0 none)) (digits (2 * numW (digits v).length (digits v))).length 1, Value.int IntKind.i64
     (IntKind.i64.wrap (p - 1))] [some (Blk.mk false 1 [Seg.ints IntKind.u64 n1 xs]), some (Blk.mk false 1 [Seg.ints IntKind.u64 m1 ys]), some (Blk.mk true 2 [Seg.vals [Value.bool s, Value.slice (some
     (Addr.mk 0 0 none)) n c]]), some (Blk.mk true 2 [Seg.vals [Value.bool t, Value.slice (some (Addr.mk 1 0 none)) m d]]), some (Blk.mk true 2 [Seg.vals [Value.bool false, Value.slice none 0 0]]), some
     (Blk.mk true 1 [Seg.ints IntKind.u64 (digits (2 * numW (digits v).length (digits v))).length (digits (2 * numW (digits v).length (digits v)))])] else none else none else out (Exit.exit 0)
     [Value.pointer (some (Addr.mk 2 0 none)), Value.pointer (some (Addr.mk 3 0 none)), Value.pointer (some (Addr.mk 4 0 none)), Value.slice (some (Addr.mk 5 0 none)) (digits v).length 1, Value.int
     IntKind.i64 p] [some (Blk.mk false 1 [Seg.ints IntKind.u64 n1 xs]), some (Blk.mk false 1 [Seg.ints IntKind.u64 m1 ys]), some (Blk.mk true 2 [Seg.vals [Value.bool s, Value.slice (some (Addr.mk 0 0
     none)) n c]]), some (Blk.mk true 2 [Seg.vals [Value.bool t, Value.slice (some (Addr.mk 1 0 none)) m d]]), some (Blk.mk true 2 [Seg.vals [Value.bool false, Value.slice none 0 0]]), some (Blk.mk true 1
     [Seg.ints IntKind.u64 (digits v).length (digits v)])]) := by kernel_rfl
--CFEND
noncomputable def L32f : LF := fun vs h k => match vs, h with
  | [.pointer (some ⟨2, 0, none⟩), .pointer (some ⟨3, 0, none⟩), .pointer (some ⟨4, 0, none⟩), .slice none 0 0, .int .i64 p], [some ⟨false, 1, [.ints .u64 n1 xs]⟩, some ⟨false, 1, [.ints .u64 m1 ys]⟩, some ⟨true, 2, [.vals [.bool s, .slice (some ⟨0, 0, none⟩) n c]]⟩, some ⟨true, 2, [.vals [.bool t, .slice (some ⟨1, 0, none⟩) m d]]⟩, some ⟨true, 2, [.vals [.bool false, .slice none 0 0]]⟩] =>
    bif normB n xs && normB m ys && Nat.ble n n1 && Nat.ble m m1 && Nat.ble n 400000 && Nat.ble m 400000 && (p == IntKind.i64.wrap (IntKind.i64.wrap (32 * (m : Int)) - 1)) then
      k (.exit 0) [pt 2, pt 3, pt 4, dS 5 (numW n xs * numW m ys), w63 (-1)] [wb n1 xs, wb m1 ys, bx s 0 n c, bx t 1 m d, nb false, db (numW n xs * numW m ys)]
    else none
  | _, _ => none
noncomputable def L32 : LSpec := oneL 3 live32 L32f
--CF cf32 (s t : Bool) (n c m d n1 m1 : Nat) (xs ys : List Int) :: fnK Try.prog S32 L32 Try.f32 [nA s 0 n c, nA t 1 m d] [wb n1 xs, wb m1 ys]
theorem cf32 (s t : Bool) (n c m d n1 m1 : Nat) (xs ys : List Int) : fnK Try.prog S32 L32 Try.f32 [nA s 0 n c, nA t 1 m d] [wb n1 xs, wb m1 ys] =
     (bif normB n xs && normB m ys && n.ble n1 && m.ble m1 && n.ble (OfNat.ofNat 400000) && m.ble (OfNat.ofNat 400000) && IntKind.i64.wrap (IntKind.i64.wrap (32 * (↑m : Int)) - 1) == IntKind.i64.wrap
     (IntKind.i64.wrap (32 * (↑m : Int)) - 1) then bif wordsB (digits (numW n xs * numW m ys)).length (digits (numW n xs * numW m ys)) && (digits (numW n xs * numW m ys)).length.ble (digits (numW n xs *
     numW m ys)).length then some (Res.ret (Value.agg (Array.mk [Value.bool (!s == t && decide (0 < numW (digits (numW n xs * numW m ys)).length (digits (numW n xs * numW m ys)))), Value.slice (some
     (Addr.mk 2 0 none)) (digits (numW (digits (numW n xs * numW m ys)).length (digits (numW n xs * numW m ys)))).length 2])) [some (Blk.mk false 1 [Seg.ints IntKind.u64 n1 xs]), some (Blk.mk false 1
     [Seg.ints IntKind.u64 m1 ys]), some (Blk.mk true 1 [Seg.ints IntKind.u64 (digits (numW n xs * numW m ys)).length (digits (numW n xs * numW m ys))])]) else none else none) := by kernel_rfl
--CFEND

def live27 : List Nat := [0, 2, 3]
--CF cf27r (c v : Nat) (p : Int) (on : List Value → Heap → Out) (out : Exit → List Value → Heap → Out) :: roundK Try.prog S32 noL Try.f27.ntmps 0 (loopOf Try.f27 0) live27 [w64 p, pt 0, sl 1 (digits v).length c] [nb false, db v] on out
theorem cf27r (c v : Nat) (p : Int) (on : List Value → Heap → Out) (out : Exit → List Value → Heap → Out) : roundK Try.prog S32 noL Try.f27.ntmps 0 (loopOf Try.f27 0) live27 [w64 p, pt 0, sl 1 (digits v).length c] [nb false, db v] on out =
     (bif decide (p > 0) then bif normB (digits v).length (digits v) && (digits v).length.ble (digits v).length then on [Value.int IntKind.u64 (IntKind.u64.wrap (p - 1)), Value.pointer (some (Addr.mk 0 0
     none)), Value.slice (some (Addr.mk 1 0 none)) (digits (2 * numW (digits v).length (digits v))).length 1] [some (Blk.mk true 2 [Seg.vals [Value.bool false, Value.slice none 0 0]]), some (Blk.mk true 1
     [Seg.ints IntKind.u64 (digits (2 * numW (digits v).length (digits v))).length (digits (2 * numW (digits v).length (digits v)))])] else none else out (Exit.exit 0) [Value.int IntKind.u64 p,
     Value.pointer (some (Addr.mk 0 0 none)), Value.slice (some (Addr.mk 1 0 none)) (digits v).length c] [some (Blk.mk true 2 [Seg.vals [Value.bool false, Value.slice none 0 0]]), some (Blk.mk true 1
     [Seg.ints IntKind.u64 (digits v).length (digits v)])]) := by kernel_rfl
--CFEND
noncomputable def isOne (xs : List Int) : Bool := chk (xs = [1])
noncomputable def L27f : LF := fun vs h k => match vs, h with
  | [.int .u64 p, .pointer (some ⟨0, 0, none⟩), .slice (some ⟨1, 0, none⟩) n _], [some ⟨true, 2, [.vals [.bool false, .slice none 0 0]]⟩, some ⟨true, 1, [.ints .u64 n1 xs]⟩] =>
    bif decide (0 ≤ p) && decide (p ≤ 1000) && Nat.beq n 1 && Nat.beq n1 1 && isOne xs then
      k (.exit 0) [w64 0, pt 0, sl 1 (digits (2 ^ p.toNat)).length 2] [nb false, db (2 ^ p.toNat)]
    else none
  | _, _ => none
noncomputable def L27 : LSpec := oneL 2 live27 L27f
--CF cf27 (p : Int) :: fnK Try.prog S32 L27 Try.f27 [w64 p] []
theorem cf27 (p : Int) : fnK Try.prog S32 L27 Try.f27 [w64 p] [] =
     (bif decide (0 ≤ p) && decide (p ≤ 1000) && true && true && isOne [1] then some (Res.ret (Value.agg (Array.mk [Value.bool false, Value.slice (some (Addr.mk 0 0 none)) (digits (2 ^ p.toNat)).length
     2])) [some (Blk.mk true 1 [Seg.ints IntKind.u64 (digits (2 ^ p.toNat)).length (digits (2 ^ p.toNat))])]) else none) := by kernel_rfl
--CFEND

noncomputable def S28a : Spec := mkS [(90, false, F90), (91, false, F91), (92, false, F92), (93, false, F93), (94, false, F94)]
theorem S28a_ok : SpecOK Try.prog S28a := mkS_cons ok90 (mkS_cons ok91 (mkS_cons ok92 (mkS_cons ok93 (mkS_cons ok94 (mkS_nil _)))))
def live28 : List Nat := [2, 3, 4, 5, 6, 7, 8]
--CF cf28r (s t : Bool) (n c m d n1 m1 v l e l1 : Nat) (xs ys zs : List Int) (p : Int) (on : List Value → Heap → Out) (out : Exit → List Value → Heap → Out) :: roundK Try.prog S28a noL Try.f28.ntmps 2 (loopOf Try.f28 0) live28 [pt 2, pt 3, pt 4, pt 5, dS 6 v, sl 7 l e, w63 p] [wb n1 xs, wb m1 ys, bx s 0 n c, bx t 1 m d, nb false, nb false, db v, ob l1 zs] on out
theorem cf28r (s t : Bool) (n c m d n1 m1 v l e l1 : Nat) (xs ys zs : List Int) (p : Int) (on : List Value → Heap → Out) (out : Exit → List Value → Heap → Out) : roundK Try.prog S28a noL Try.f28.ntmps 2 (loopOf Try.f28 0) live28 [pt 2, pt 3, pt 4, pt 5, dS 6 v, sl 7 l e, w63 p] [wb n1 xs, wb m1 ys, bx s 0 n c, bx t 1 m d, nb false, nb false, db v, ob l1 zs] on out =
     (bif decide (p ≥ 0) then bif normB n xs && n.ble n1 && decide (0 ≤ p) then bif normB l zs && l.ble l1 then bif normB (digits (2 * numW l zs + bN (decide (numW n xs / 2 ^ p.toNat % 2 = 1)))).length
     (digits (2 * numW l zs + bN (decide (numW n xs / 2 ^ p.toNat % 2 = 1)))) && normB m ys && (digits (2 * numW l zs + bN (decide (numW n xs / 2 ^ p.toNat % 2 = 1)))).length.ble (digits (2 * numW l zs +
     bN (decide (numW n xs / 2 ^ p.toNat % 2 = 1)))).length && m.ble m1 then bif decide (cmpI (numW (digits (2 * numW l zs + bN (decide (numW n xs / 2 ^ p.toNat % 2 = 1)))).length (digits (2 * numW l zs +
     bN (decide (numW n xs / 2 ^ p.toNat % 2 = 1))))) (numW m ys) ≥ 0) then bif normB (digits (2 * numW l zs + bN (decide (numW n xs / 2 ^ p.toNat % 2 = 1)))).length (digits (2 * numW l zs + bN (decide
     (numW n xs / 2 ^ p.toNat % 2 = 1)))) && normB m ys && (digits (2 * numW l zs + bN (decide (numW n xs / 2 ^ p.toNat % 2 = 1)))).length.ble (digits (2 * numW l zs + bN (decide (numW n xs / 2 ^ p.toNat %
     2 = 1)))).length && m.ble m1 && (numW m ys).ble (numW (digits (2 * numW l zs + bN (decide (numW n xs / 2 ^ p.toNat % 2 = 1)))).length (digits (2 * numW l zs + bN (decide (numW n xs / 2 ^ p.toNat % 2 =
     1))))) then bif wordsB (digits (2 * numW l zs + bN (decide (numW n xs / 2 ^ p.toNat % 2 = 1)))).length (wordsN (digits (2 * numW l zs + bN (decide (numW n xs / 2 ^ p.toNat % 2 = 1)))).length (numW
     (digits (2 * numW l zs + bN (decide (numW n xs / 2 ^ p.toNat % 2 = 1)))).length (digits (2 * numW l zs + bN (decide (numW n xs / 2 ^ p.toNat % 2 = 1)))) - numW m ys)) && (digits (2 * numW l zs + bN
     (decide (numW n xs / 2 ^ p.toNat % 2 = 1)))).length.ble (digits (2 * numW l zs + bN (decide (numW n xs / 2 ^ p.toNat % 2 = 1)))).length then bif normB (digits v).length (digits v) && (digits
     v).length.ble (digits v).length then on [Value.pointer (some (Addr.mk 2 0 none)), Value.pointer (some (Addr.mk 3 0 none)), Value.pointer (some (Addr.mk 4 0 none)), Value.pointer (some (Addr.mk 5 0
     none)), Value.slice (some (Addr.mk 6 0 none)) (digits (2 * numW (digits v).length (digits v) + bN (decide (cmpI (numW (digits (2 * numW l zs + bN (decide (numW n xs / 2 ^ p.toNat % 2 = 1)))).length
     (digits (2 * numW l zs + bN (decide (numW n xs / 2 ^ p.toNat % 2 = 1))))) (numW m ys) ≥ 0)))).length 1, Value.slice (some (Addr.mk 7 0 none)) (digits (numW (digits (2 * numW l zs + bN (decide (numW n
     xs / 2 ^ p.toNat % 2 = 1)))).length (wordsN (digits (2 * numW l zs + bN (decide (numW n xs / 2 ^ p.toNat % 2 = 1)))).length (numW (digits (2 * numW l zs + bN (decide (numW n xs / 2 ^ p.toNat % 2 =
     1)))).length (digits (2 * numW l zs + bN (decide (numW n xs / 2 ^ p.toNat % 2 = 1)))) - numW m ys)))).length 2, Value.int IntKind.i64 (IntKind.i64.wrap (p - 1))] [some (Blk.mk false 1 [Seg.ints
     IntKind.u64 n1 xs]), some (Blk.mk false 1 [Seg.ints IntKind.u64 m1 ys]), some (Blk.mk true 2 [Seg.vals [Value.bool s, Value.slice (some (Addr.mk 0 0 none)) n c]]), some (Blk.mk true 2 [Seg.vals
     [Value.bool t, Value.slice (some (Addr.mk 1 0 none)) m d]]), some (Blk.mk true 2 [Seg.vals [Value.bool false, Value.slice none 0 0]]), some (Blk.mk true 2 [Seg.vals [Value.bool false, Value.slice none
     0 0]]), some (Blk.mk true 1 [Seg.ints IntKind.u64 (digits (2 * numW (digits v).length (digits v) + bN (decide (cmpI (numW (digits (2 * numW l zs + bN (decide (numW n xs / 2 ^ p.toNat % 2 =
     1)))).length (digits (2 * numW l zs + bN (decide (numW n xs / 2 ^ p.toNat % 2 = 1))))) (numW m ys) ≥ 0)))).length (digits (2 * numW (digits v).length (digits v) + bN (decide (cmpI (numW (digits (2 *
     numW l zs + bN (decide (numW n xs / 2 ^ p.toNat % 2 = 1)))).length (digits (2 * numW l zs + bN (decide (numW n xs / 2 ^ p.toNat % 2 = 1))))) (numW m ys) ≥ 0))))]), some (Blk.mk true 1 [Seg.ints
     IntKind.u64 (digits (2 * numW l zs + bN (decide (numW n xs / 2 ^ p.toNat % 2 = 1)))).length (wordsN (digits (2 * numW l zs + bN (decide (numW n xs / 2 ^ p.toNat % 2 = 1)))).length (numW (digits (2 *
     numW l zs + bN (decide (numW n xs / 2 ^ p.toNat % 2 = 1)))).length (digits (2 * numW l zs + bN (decide (numW n xs / 2 ^ p.toNat % 2 = 1)))) - numW m ys))])] else none else none else none else bif
     normB (digits v).length (digits v) && (digits v).length.ble (digits v).length then on [Value.pointer (some (Addr.mk 2 0 none)), Value.pointer (some (Addr.mk 3 0 none)), Value.pointer (some (Addr.mk 4
     0 none)), Value.pointer (some (Addr.mk 5 0 none)), Value.slice (some (Addr.mk 6 0 none)) (digits (2 * numW (digits v).length (digits v) + bN (decide (cmpI (numW (digits (2 * numW l zs + bN (decide
     (numW n xs / 2 ^ p.toNat % 2 = 1)))).length (digits (2 * numW l zs + bN (decide (numW n xs / 2 ^ p.toNat % 2 = 1))))) (numW m ys) ≥ 0)))).length 1, Value.slice (some (Addr.mk 7 0 none)) (digits (2 *
     numW l zs + bN (decide (numW n xs / 2 ^ p.toNat % 2 = 1)))).length 1, Value.int IntKind.i64 (IntKind.i64.wrap (p - 1))] [some (Blk.mk false 1 [Seg.ints IntKind.u64 n1 xs]), some (Blk.mk false 1
     [Seg.ints IntKind.u64 m1 ys]), some (Blk.mk true 2 [Seg.vals [Value.bool s, Value.slice (some (Addr.mk 0 0 none)) n c]]), some (Blk.mk true 2 [Seg.vals [Value.bool t, Value.slice (some (Addr.mk 1 0
     none)) m d]]), some (Blk.mk true 2 [Seg.vals [Value.bool false, Value.slice none 0 0]]), some (Blk.mk true 2 [Seg.vals [Value.bool false, Value.slice none 0 0]]), some (Blk.mk true 1 [Seg.ints
     IntKind.u64 (digits (2 * numW (digits v).length (digits v) + bN (decide (cmpI (numW (digits (2 * numW l zs + bN (decide (numW n xs / 2 ^ p.toNat % 2 = 1)))).length (digits (2 * numW l zs + bN (decide
     (numW n xs / 2 ^ p.toNat % 2 = 1))))) (numW m ys) ≥ 0)))).length (digits (2 * numW (digits v).length (digits v) + bN (decide (cmpI (numW (digits (2 * numW l zs + bN (decide (numW n xs / 2 ^ p.toNat %
     2 = 1)))).length (digits (2 * numW l zs + bN (decide (numW n xs / 2 ^ p.toNat % 2 = 1))))) (numW m ys) ≥ 0))))]), some (Blk.mk true 1 [Seg.ints IntKind.u64 (digits (2 * numW l zs + bN (decide (numW n
     xs / 2 ^ p.toNat % 2 = 1)))).length (digits (2 * numW l zs + bN (decide (numW n xs / 2 ^ p.toNat % 2 = 1))))])] else none else none else none else none else out (Exit.exit 0) [Value.pointer (some
     (Addr.mk 2 0 none)), Value.pointer (some (Addr.mk 3 0 none)), Value.pointer (some (Addr.mk 4 0 none)), Value.pointer (some (Addr.mk 5 0 none)), Value.slice (some (Addr.mk 6 0 none)) (digits v).length
     1, Value.slice (some (Addr.mk 7 0 none)) l e, Value.int IntKind.i64 p] [some (Blk.mk false 1 [Seg.ints IntKind.u64 n1 xs]), some (Blk.mk false 1 [Seg.ints IntKind.u64 m1 ys]), some (Blk.mk true 2
     [Seg.vals [Value.bool s, Value.slice (some (Addr.mk 0 0 none)) n c]]), some (Blk.mk true 2 [Seg.vals [Value.bool t, Value.slice (some (Addr.mk 1 0 none)) m d]]), some (Blk.mk true 2 [Seg.vals
     [Value.bool false, Value.slice none 0 0]]), some (Blk.mk true 2 [Seg.vals [Value.bool false, Value.slice none 0 0]]), some (Blk.mk true 1 [Seg.ints IntKind.u64 (digits v).length (digits v)]), some
     (Blk.mk true 1 [Seg.ints IntKind.u64 l1 zs])]) := by kernel_rfl
--CFEND

noncomputable def L28f : LF := fun vs h k => match vs, h with
  | [.pointer (some ⟨2, 0, none⟩), .pointer (some ⟨3, 0, none⟩), .pointer (some ⟨4, 0, none⟩), .pointer (some ⟨5, 0, none⟩), .slice none 0 0, .slice none 0 0, .int .i64 p], [some ⟨false, 1, [.ints .u64 n1 xs]⟩, some ⟨false, 1, [.ints .u64 m1 ys]⟩, some ⟨true, 2, [.vals [.bool s, .slice (some ⟨0, 0, none⟩) n c]]⟩, some ⟨true, 2, [.vals [.bool t, .slice (some ⟨1, 0, none⟩) m d]]⟩, some ⟨true, 2, [.vals [.bool false, .slice none 0 0]]⟩, some ⟨true, 2, [.vals [.bool false, .slice none 0 0]]⟩] =>
    bif normB n xs && normB m ys && Nat.ble n n1 && Nat.ble m m1 && Nat.ble n 400000 && Nat.ble m 399999 && Nat.blt 0 (numW m ys) && (p == IntKind.i64.wrap (IntKind.i64.wrap (32 * (n : Int)) - 1)) then
      k (.exit 0) [pt 2, pt 3, pt 4, pt 5, dS 6 (numW n xs / numW m ys), sl 7 (digits (numW n xs % numW m ys)).length 2, w63 (-1)] [wb n1 xs, wb m1 ys, bx s 0 n c, bx t 1 m d, nb false, nb false, db (numW n xs / numW m ys), db (numW n xs % numW m ys)]
    else none
  | _, _ => none
noncomputable def L28 : LSpec := oneL 3 live28 L28f

noncomputable def F36 : FSpec := fun args h k => match args, h with
  | [.agg ⟨[.bool s, .slice (some ⟨0, 0, none⟩) n _]⟩, .agg ⟨[.bool t, .slice (some ⟨1, 0, none⟩) m _]⟩], [some ⟨false, 1, [.ints .u64 n1 xs]⟩, some ⟨false, 1, [.ints .u64 m1 ys]⟩] =>
    bif normB n xs && normB m ys && Nat.ble n n1 && Nat.ble m m1 && Nat.ble n 400000 && Nat.ble m 400000 then
      k (zV 2 (sgn s (numW n xs) - sgn t (numW m ys))) [wb n1 xs, wb m1 ys, zB (sgn s (numW n xs) - sgn t (numW m ys))] else none
  | _, _ => none
noncomputable def F32 : FSpec := fun args h k => match args, h with
  | [.agg ⟨[.bool s, .slice (some ⟨0, 0, none⟩) n _]⟩, .agg ⟨[.bool t, .slice (some ⟨1, 0, none⟩) m _]⟩], [some ⟨false, 1, [.ints .u64 n1 xs]⟩, some ⟨false, 1, [.ints .u64 m1 ys]⟩] =>
    bif normB n xs && normB m ys && Nat.ble n n1 && Nat.ble m m1 && Nat.ble n 400000 && Nat.ble m 400000 then
      k (zV 2 (sgn s (numW n xs) * sgn t (numW m ys))) [wb n1 xs, wb m1 ys, zB (sgn s (numW n xs) * sgn t (numW m ys))] else none
  | _, _ => none
noncomputable def F27 : FSpec := fun args h k => match args, h with
  | [.int .u64 p], [] => bif decide (0 ≤ p) && decide (p ≤ 1000) then k (.agg ⟨[.bool false, .slice (some ⟨0, 0, none⟩) (digits (2 ^ p.toNat)).length 2]⟩) [db (2 ^ p.toNat)] else none
  | _, _ => none
noncomputable def F28 : FSpec := fun args h k => match args, h with
  | [.agg ⟨[.bool s, .slice (some ⟨0, 0, none⟩) n _]⟩, .agg ⟨[.bool t, .slice (some ⟨1, 0, none⟩) m _]⟩], [some ⟨false, 1, [.ints .u64 n1 xs]⟩, some ⟨false, 1, [.ints .u64 m1 ys]⟩] =>
    bif normB n xs && normB m ys && Nat.ble n n1 && Nat.ble m m1 && Nat.ble n 399999 && Nat.ble m 399999 && Nat.blt 0 (numW m ys) && !t then
      k (.tuple ⟨[zV 2 (sgn s (numW n xs) / (numW m ys : Int)), zV 3 (sgn s (numW n xs) % (numW m ys : Int))]⟩) [wb n1 xs, wb m1 ys, zB (sgn s (numW n xs) / (numW m ys : Int)), zB (sgn s (numW n xs) % (numW m ys : Int))] else none
  | _, _ => none
noncomputable def F86 : FSpec := fun args h k => match args, h with
  | [.agg ⟨[.bool s, .slice (some ⟨0, 0, none⟩) n _]⟩, .agg ⟨[.bool t, .slice (some ⟨1, 0, none⟩) m _]⟩], [some ⟨false, 1, [.ints .u64 n1 xs]⟩, some ⟨false, 1, [.ints .u64 m1 ys]⟩] =>
    bif normB n xs && normB m ys && Nat.ble n n1 && Nat.ble m m1 && Nat.ble n 399999 && Nat.ble m 399999 && Nat.blt 0 (numW m ys) && !t then
      k (zV 2 (-(-sgn s (numW n xs) / (numW m ys : Int)))) [wb n1 xs, wb m1 ys, zB (-(-sgn s (numW n xs) / (numW m ys : Int)))] else none
  | _, _ => none
noncomputable def S28 : Spec := mkS [(29, false, F29), (36, false, F36), (93, false, F93)]
--CF cf28 (s t : Bool) (n c m d n1 m1 : Nat) (xs ys : List Int) :: fnK Try.prog S28 L28 Try.f28 [nA s 0 n c, nA t 1 m d] [wb n1 xs, wb m1 ys]
theorem cf28 (s t : Bool) (n c m d n1 m1 : Nat) (xs ys : List Int) : fnK Try.prog S28 L28 Try.f28 [nA s 0 n c, nA t 1 m d] [wb n1 xs, wb m1 ys] =
     (bif normB n xs && normB m ys && n.ble n1 && m.ble m1 && n.ble (OfNat.ofNat 400000) && m.ble (OfNat.ofNat 399999) && Nat.blt 0 (numW m ys) && IntKind.i64.wrap (IntKind.i64.wrap (32 * (↑n : Int)) - 1)
     == IntKind.i64.wrap (IntKind.i64.wrap (32 * (↑n : Int)) - 1) then bif wordsB (digits (numW n xs / numW m ys)).length (digits (numW n xs / numW m ys)) && (digits (numW n xs / numW m ys)).length.ble
     (digits (numW n xs / numW m ys)).length then bif wordsB (digits (numW n xs % numW m ys)).length (digits (numW n xs % numW m ys)) && (digits (numW n xs % numW m ys)).length.ble (digits (numW n xs %
     numW m ys)).length then bif s then bif decide ((↑(digits (numW (digits (numW n xs % numW m ys)).length (digits (numW n xs % numW m ys)))).length : Int) > 0) then bif normB (digits (numW (digits (numW
     n xs / numW m ys)).length (digits (numW n xs / numW m ys)))).length (digits (numW n xs / numW m ys)) && normB 1 (digits 1) && (digits (numW (digits (numW n xs / numW m ys)).length (digits (numW n xs /
     numW m ys)))).length.ble (digits (numW n xs / numW m ys)).length && true && (digits (numW (digits (numW n xs / numW m ys)).length (digits (numW n xs / numW m ys)))).length.ble (OfNat.ofNat 400000) &&
     true then bif normB m ys && normB (digits (numW (digits (numW n xs % numW m ys)).length (digits (numW n xs % numW m ys)))).length (digits (numW n xs % numW m ys)) && m.ble m1 && (digits (numW (digits
     (numW n xs % numW m ys)).length (digits (numW n xs % numW m ys)))).length.ble (digits (numW n xs % numW m ys)).length && m.ble (OfNat.ofNat 400000) && (digits (numW (digits (numW n xs % numW m
     ys)).length (digits (numW n xs % numW m ys)))).length.ble (OfNat.ofNat 400000) then some (Res.ret (Value.tuple (Array.mk [Value.agg (Array.mk [Value.bool (decide (sgn (s && decide (0 < numW (digits
     (numW n xs / numW m ys)).length (digits (numW n xs / numW m ys)))) (numW (digits (numW (digits (numW n xs / numW m ys)).length (digits (numW n xs / numW m ys)))).length (digits (numW n xs / numW m
     ys))) - 1 < 0)), Value.slice (some (Addr.mk 2 0 none)) (digits (sgn (s && decide (0 < numW (digits (numW n xs / numW m ys)).length (digits (numW n xs / numW m ys)))) (numW (digits (numW (digits (numW
     n xs / numW m ys)).length (digits (numW n xs / numW m ys)))).length (digits (numW n xs / numW m ys))) - 1).natAbs).length 2]), Value.agg (Array.mk [Value.bool (decide (sgn t (numW m ys) - sgn false
     (numW (digits (numW (digits (numW n xs % numW m ys)).length (digits (numW n xs % numW m ys)))).length (digits (numW n xs % numW m ys))) < 0)), Value.slice (some (Addr.mk 3 0 none)) (digits (sgn t
     (numW m ys) - sgn false (numW (digits (numW (digits (numW n xs % numW m ys)).length (digits (numW n xs % numW m ys)))).length (digits (numW n xs % numW m ys)))).natAbs).length 2])])) [some (Blk.mk
     false 1 [Seg.ints IntKind.u64 n1 xs]), some (Blk.mk false 1 [Seg.ints IntKind.u64 m1 ys]), some (Blk.mk true 1 [Seg.ints IntKind.u64 (digits (sgn (s && decide (0 < numW (digits (numW n xs / numW m
     ys)).length (digits (numW n xs / numW m ys)))) (numW (digits (numW (digits (numW n xs / numW m ys)).length (digits (numW n xs / numW m ys)))).length (digits (numW n xs / numW m ys))) -
     1).natAbs).length (digits (sgn (s && decide (0 < numW (digits (numW n xs / numW m ys)).length (digits (numW n xs / numW m ys)))) (numW (digits (numW (digits (numW n xs / numW m ys)).length (digits
     (numW n xs / numW m ys)))).length (digits (numW n xs / numW m ys))) - 1).natAbs)]), some (Blk.mk true 1 [Seg.ints IntKind.u64 (digits (sgn t (numW m ys) - sgn false (numW (digits (numW (digits (numW n
     xs % numW m ys)).length (digits (numW n xs % numW m ys)))).length (digits (numW n xs % numW m ys)))).natAbs).length (digits (sgn t (numW m ys) - sgn false (numW (digits (numW (digits (numW n xs % numW
     m ys)).length (digits (numW n xs % numW m ys)))).length (digits (numW n xs % numW m ys)))).natAbs)])]) else none else none else some (Res.ret (Value.tuple (Array.mk [Value.agg (Array.mk [Value.bool (s
     && decide (0 < numW (digits (numW n xs / numW m ys)).length (digits (numW n xs / numW m ys)))), Value.slice (some (Addr.mk 2 0 none)) (digits (numW (digits (numW n xs / numW m ys)).length (digits
     (numW n xs / numW m ys)))).length 2]), Value.agg (Array.mk [Value.bool false, Value.slice (some (Addr.mk 3 0 none)) (digits (numW (digits (numW n xs % numW m ys)).length (digits (numW n xs % numW m
     ys)))).length 2])])) [some (Blk.mk false 1 [Seg.ints IntKind.u64 n1 xs]), some (Blk.mk false 1 [Seg.ints IntKind.u64 m1 ys]), some (Blk.mk true 1 [Seg.ints IntKind.u64 (digits (numW n xs / numW m
     ys)).length (digits (numW n xs / numW m ys))]), some (Blk.mk true 1 [Seg.ints IntKind.u64 (digits (numW n xs % numW m ys)).length (digits (numW n xs % numW m ys))])]) else some (Res.ret (Value.tuple
     (Array.mk [Value.agg (Array.mk [Value.bool (s && decide (0 < numW (digits (numW n xs / numW m ys)).length (digits (numW n xs / numW m ys)))), Value.slice (some (Addr.mk 2 0 none)) (digits (numW
     (digits (numW n xs / numW m ys)).length (digits (numW n xs / numW m ys)))).length 2]), Value.agg (Array.mk [Value.bool false, Value.slice (some (Addr.mk 3 0 none)) (digits (numW (digits (numW n xs %
     numW m ys)).length (digits (numW n xs % numW m ys)))).length 2])])) [some (Blk.mk false 1 [Seg.ints IntKind.u64 n1 xs]), some (Blk.mk false 1 [Seg.ints IntKind.u64 m1 ys]), some (Blk.mk true 1
     [Seg.ints IntKind.u64 (digits (numW n xs / numW m ys)).length (digits (numW n xs / numW m ys))]), some (Blk.mk true 1 [Seg.ints IntKind.u64 (digits (numW n xs % numW m ys)).length (digits (numW n xs %
     numW m ys))])]) else none else none else none) := by kernel_rfl
--CFEND
noncomputable def S86 : Spec := mkS [(28, false, F28), (37, false, F37)]
--CF cf86 (s t : Bool) (n c m d n1 m1 : Nat) (xs ys : List Int) :: fnK Try.prog S86 noL Try.f86 [nA s 0 n c, nA t 1 m d] [wb n1 xs, wb m1 ys]
theorem cf86 (s t : Bool) (n c m d n1 m1 : Nat) (xs ys : List Int) : fnK Try.prog S86 noL Try.f86 [nA s 0 n c, nA t 1 m d] [wb n1 xs, wb m1 ys] =
     (bif wordsB n xs && n.ble n1 then bif normB (digits (numW n xs)).length xs && normB m ys && (digits (numW n xs)).length.ble n1 && m.ble m1 && (digits (numW n xs)).length.ble (OfNat.ofNat 399999) &&
     m.ble (OfNat.ofNat 399999) && Nat.blt 0 (numW m ys) && !t then bif wordsB (digits (sgn (!s && decide (0 < numW n xs)) (numW (digits (numW n xs)).length xs) / (↑(numW m ys) : Int)).natAbs).length
     (digits (sgn (!s && decide (0 < numW n xs)) (numW (digits (numW n xs)).length xs) / (↑(numW m ys) : Int)).natAbs) && (digits (sgn (!s && decide (0 < numW n xs)) (numW (digits (numW n xs)).length xs) /
     (↑(numW m ys) : Int)).natAbs).length.ble (digits (sgn (!s && decide (0 < numW n xs)) (numW (digits (numW n xs)).length xs) / (↑(numW m ys) : Int)).natAbs).length then some (Res.ret (Value.agg
     (Array.mk [Value.bool (!decide (sgn (!s && decide (0 < numW n xs)) (numW (digits (numW n xs)).length xs) / (↑(numW m ys) : Int) < 0) && decide (0 < numW (digits (sgn (!s && decide (0 < numW n xs))
     (numW (digits (numW n xs)).length xs) / (↑(numW m ys) : Int)).natAbs).length (digits (sgn (!s && decide (0 < numW n xs)) (numW (digits (numW n xs)).length xs) / (↑(numW m ys) : Int)).natAbs))),
     Value.slice (some (Addr.mk 2 0 none)) (digits (numW (digits (sgn (!s && decide (0 < numW n xs)) (numW (digits (numW n xs)).length xs) / (↑(numW m ys) : Int)).natAbs).length (digits (sgn (!s && decide
     (0 < numW n xs)) (numW (digits (numW n xs)).length xs) / (↑(numW m ys) : Int)).natAbs))).length 2])) [some (Blk.mk false 1 [Seg.ints IntKind.u64 n1 xs]), some (Blk.mk false 1 [Seg.ints IntKind.u64 m1
     ys]), some (Blk.mk true 1 [Seg.ints IntKind.u64 (digits (sgn (!s && decide (0 < numW n xs)) (numW (digits (numW n xs)).length xs) / (↑(numW m ys) : Int)).natAbs).length (digits (sgn (!s && decide (0 <
     numW n xs)) (numW (digits (numW n xs)).length xs) / (↑(numW m ys) : Int)).natAbs)])]) else none else none else none) := by kernel_rfl
--CFEND
noncomputable def S20 : Spec := mkS [(28, false, F28), (29, false, F29), (31, false, F31), (32, false, F32), (86, false, F86)]
--CF cf20 (a b d : Int) (v : Bool) :: fnK Try.prog S20 noL Try.f20 [w63 a, w63 b, w63 d, .bool v] []
theorem cf20 (a b d : Int) (v : Bool) : fnK Try.prog S20 noL Try.f20 [w63 a, w63 b, w63 d, .bool v] [] =
     (bif decide (d ≤ 0) then some (Res.ret (Value.int IntKind.i64 0) []) else bif normB (digits a.natAbs).length (digits a.natAbs) && normB (digits b.natAbs).length (digits b.natAbs) && (digits
     a.natAbs).length.ble (digits a.natAbs).length && (digits b.natAbs).length.ble (digits b.natAbs).length && (digits a.natAbs).length.ble (OfNat.ofNat 400000) && (digits b.natAbs).length.ble (OfNat.ofNat
     400000) then bif v then bif normB (digits (sgn (decide (a < 0)) (numW (digits a.natAbs).length (digits a.natAbs)) * sgn (decide (b < 0)) (numW (digits b.natAbs).length (digits
     b.natAbs))).natAbs).length (digits (sgn (decide (a < 0)) (numW (digits a.natAbs).length (digits a.natAbs)) * sgn (decide (b < 0)) (numW (digits b.natAbs).length (digits b.natAbs))).natAbs) && normB
     (digits d.natAbs).length (digits d.natAbs) && (digits (sgn (decide (a < 0)) (numW (digits a.natAbs).length (digits a.natAbs)) * sgn (decide (b < 0)) (numW (digits b.natAbs).length (digits
     b.natAbs))).natAbs).length.ble (digits (sgn (decide (a < 0)) (numW (digits a.natAbs).length (digits a.natAbs)) * sgn (decide (b < 0)) (numW (digits b.natAbs).length (digits b.natAbs))).natAbs).length
     && (digits d.natAbs).length.ble (digits d.natAbs).length && (digits (sgn (decide (a < 0)) (numW (digits a.natAbs).length (digits a.natAbs)) * sgn (decide (b < 0)) (numW (digits b.natAbs).length
     (digits b.natAbs))).natAbs).length.ble (OfNat.ofNat 399999) && (digits d.natAbs).length.ble (OfNat.ofNat 399999) && Nat.blt 0 (numW (digits d.natAbs).length (digits d.natAbs)) && !decide (d < 0) then
     bif normB (digits (-(-sgn (decide (sgn (decide (a < 0)) (numW (digits a.natAbs).length (digits a.natAbs)) * sgn (decide (b < 0)) (numW (digits b.natAbs).length (digits b.natAbs)) < 0)) (numW (digits
     (sgn (decide (a < 0)) (numW (digits a.natAbs).length (digits a.natAbs)) * sgn (decide (b < 0)) (numW (digits b.natAbs).length (digits b.natAbs))).natAbs).length (digits (sgn (decide (a < 0)) (numW
     (digits a.natAbs).length (digits a.natAbs)) * sgn (decide (b < 0)) (numW (digits b.natAbs).length (digits b.natAbs))).natAbs)) / (↑(numW (digits d.natAbs).length (digits d.natAbs)) :
     Int))).natAbs).length (digits (-(-sgn (decide (sgn (decide (a < 0)) (numW (digits a.natAbs).length (digits a.natAbs)) * sgn (decide (b < 0)) (numW (digits b.natAbs).length (digits b.natAbs)) < 0))
     (numW (digits (sgn (decide (a < 0)) (numW (digits a.natAbs).length (digits a.natAbs)) * sgn (decide (b < 0)) (numW (digits b.natAbs).length (digits b.natAbs))).natAbs).length (digits (sgn (decide (a <
     0)) (numW (digits a.natAbs).length (digits a.natAbs)) * sgn (decide (b < 0)) (numW (digits b.natAbs).length (digits b.natAbs))).natAbs)) / (↑(numW (digits d.natAbs).length (digits d.natAbs)) :
     Int))).natAbs) && (digits (-(-sgn (decide (sgn (decide (a < 0)) (numW (digits a.natAbs).length (digits a.natAbs)) * sgn (decide (b < 0)) (numW (digits b.natAbs).length (digits b.natAbs)) < 0)) (numW
     (digits (sgn (decide (a < 0)) (numW (digits a.natAbs).length (digits a.natAbs)) * sgn (decide (b < 0)) (numW (digits b.natAbs).length (digits b.natAbs))).natAbs).length (digits (sgn (decide (a < 0))
     (numW (digits a.natAbs).length (digits a.natAbs)) * sgn (decide (b < 0)) (numW (digits b.natAbs).length (digits b.natAbs))).natAbs)) / (↑(numW (digits d.natAbs).length (digits d.natAbs)) :
     Int))).natAbs).length.ble (digits (-(-sgn (decide (sgn (decide (a < 0)) (numW (digits a.natAbs).length (digits a.natAbs)) * sgn (decide (b < 0)) (numW (digits b.natAbs).length (digits b.natAbs)) < 0))
     (numW (digits (sgn (decide (a < 0)) (numW (digits a.natAbs).length (digits a.natAbs)) * sgn (decide (b < 0)) (numW (digits b.natAbs).length (digits b.natAbs))).natAbs).length (digits (sgn (decide (a <
     0)) (numW (digits a.natAbs).length (digits a.natAbs)) * sgn (decide (b < 0)) (numW (digits b.natAbs).length (digits b.natAbs))).natAbs)) / (↑(numW (digits d.natAbs).length (digits d.natAbs)) :
     Int))).natAbs).length then some (Res.ret (Value.int IntKind.i64 (hold (sgn (decide (-(-sgn (decide (sgn (decide (a < 0)) (numW (digits a.natAbs).length (digits a.natAbs)) * sgn (decide (b < 0)) (numW
     (digits b.natAbs).length (digits b.natAbs)) < 0)) (numW (digits (sgn (decide (a < 0)) (numW (digits a.natAbs).length (digits a.natAbs)) * sgn (decide (b < 0)) (numW (digits b.natAbs).length (digits
     b.natAbs))).natAbs).length (digits (sgn (decide (a < 0)) (numW (digits a.natAbs).length (digits a.natAbs)) * sgn (decide (b < 0)) (numW (digits b.natAbs).length (digits b.natAbs))).natAbs)) / (↑(numW
     (digits d.natAbs).length (digits d.natAbs)) : Int)) < 0)) (numW (digits (-(-sgn (decide (sgn (decide (a < 0)) (numW (digits a.natAbs).length (digits a.natAbs)) * sgn (decide (b < 0)) (numW (digits
     b.natAbs).length (digits b.natAbs)) < 0)) (numW (digits (sgn (decide (a < 0)) (numW (digits a.natAbs).length (digits a.natAbs)) * sgn (decide (b < 0)) (numW (digits b.natAbs).length (digits
     b.natAbs))).natAbs).length (digits (sgn (decide (a < 0)) (numW (digits a.natAbs).length (digits a.natAbs)) * sgn (decide (b < 0)) (numW (digits b.natAbs).length (digits b.natAbs))).natAbs)) / (↑(numW
     (digits d.natAbs).length (digits d.natAbs)) : Int))).natAbs).length (digits (-(-sgn (decide (sgn (decide (a < 0)) (numW (digits a.natAbs).length (digits a.natAbs)) * sgn (decide (b < 0)) (numW (digits
     b.natAbs).length (digits b.natAbs)) < 0)) (numW (digits (sgn (decide (a < 0)) (numW (digits a.natAbs).length (digits a.natAbs)) * sgn (decide (b < 0)) (numW (digits b.natAbs).length (digits
     b.natAbs))).natAbs).length (digits (sgn (decide (a < 0)) (numW (digits a.natAbs).length (digits a.natAbs)) * sgn (decide (b < 0)) (numW (digits b.natAbs).length (digits b.natAbs))).natAbs)) / (↑(numW
     (digits d.natAbs).length (digits d.natAbs)) : Int))).natAbs))))) []) else none else none else bif normB (digits (sgn (decide (a < 0)) (numW (digits a.natAbs).length (digits a.natAbs)) * sgn (decide (b
     < 0)) (numW (digits b.natAbs).length (digits b.natAbs))).natAbs).length (digits (sgn (decide (a < 0)) (numW (digits a.natAbs).length (digits a.natAbs)) * sgn (decide (b < 0)) (numW (digits
     b.natAbs).length (digits b.natAbs))).natAbs) && normB (digits d.natAbs).length (digits d.natAbs) && (digits (sgn (decide (a < 0)) (numW (digits a.natAbs).length (digits a.natAbs)) * sgn (decide (b <
     0)) (numW (digits b.natAbs).length (digits b.natAbs))).natAbs).length.ble (digits (sgn (decide (a < 0)) (numW (digits a.natAbs).length (digits a.natAbs)) * sgn (decide (b < 0)) (numW (digits
     b.natAbs).length (digits b.natAbs))).natAbs).length && (digits d.natAbs).length.ble (digits d.natAbs).length && (digits (sgn (decide (a < 0)) (numW (digits a.natAbs).length (digits a.natAbs)) * sgn
     (decide (b < 0)) (numW (digits b.natAbs).length (digits b.natAbs))).natAbs).length.ble (OfNat.ofNat 399999) && (digits d.natAbs).length.ble (OfNat.ofNat 399999) && Nat.blt 0 (numW (digits
     d.natAbs).length (digits d.natAbs)) && !decide (d < 0) then bif normB (digits (sgn (decide (sgn (decide (a < 0)) (numW (digits a.natAbs).length (digits a.natAbs)) * sgn (decide (b < 0)) (numW (digits
     b.natAbs).length (digits b.natAbs)) < 0)) (numW (digits (sgn (decide (a < 0)) (numW (digits a.natAbs).length (digits a.natAbs)) * sgn (decide (b < 0)) (numW (digits b.natAbs).length (digits
     b.natAbs))).natAbs).length (digits (sgn (decide (a < 0)) (numW (digits a.natAbs).length (digits a.natAbs)) * sgn (decide (b < 0)) (numW (digits b.natAbs).length (digits b.natAbs))).natAbs)) / (↑(numW
     (digits d.natAbs).length (digits d.natAbs)) : Int)).natAbs).length (digits (sgn (decide (sgn (decide (a < 0)) (numW (digits a.natAbs).length (digits a.natAbs)) * sgn (decide (b < 0)) (numW (digits
     b.natAbs).length (digits b.natAbs)) < 0)) (numW (digits (sgn (decide (a < 0)) (numW (digits a.natAbs).length (digits a.natAbs)) * sgn (decide (b < 0)) (numW (digits b.natAbs).length (digits
     b.natAbs))).natAbs).length (digits (sgn (decide (a < 0)) (numW (digits a.natAbs).length (digits a.natAbs)) * sgn (decide (b < 0)) (numW (digits b.natAbs).length (digits b.natAbs))).natAbs)) / (↑(numW
     (digits d.natAbs).length (digits d.natAbs)) : Int)).natAbs) && (digits (sgn (decide (sgn (decide (a < 0)) (numW (digits a.natAbs).length (digits a.natAbs)) * sgn (decide (b < 0)) (numW (digits
     b.natAbs).length (digits b.natAbs)) < 0)) (numW (digits (sgn (decide (a < 0)) (numW (digits a.natAbs).length (digits a.natAbs)) * sgn (decide (b < 0)) (numW (digits b.natAbs).length (digits
     b.natAbs))).natAbs).length (digits (sgn (decide (a < 0)) (numW (digits a.natAbs).length (digits a.natAbs)) * sgn (decide (b < 0)) (numW (digits b.natAbs).length (digits b.natAbs))).natAbs)) / (↑(numW
     (digits d.natAbs).length (digits d.natAbs)) : Int)).natAbs).length.ble (digits (sgn (decide (sgn (decide (a < 0)) (numW (digits a.natAbs).length (digits a.natAbs)) * sgn (decide (b < 0)) (numW (digits
     b.natAbs).length (digits b.natAbs)) < 0)) (numW (digits (sgn (decide (a < 0)) (numW (digits a.natAbs).length (digits a.natAbs)) * sgn (decide (b < 0)) (numW (digits b.natAbs).length (digits
     b.natAbs))).natAbs).length (digits (sgn (decide (a < 0)) (numW (digits a.natAbs).length (digits a.natAbs)) * sgn (decide (b < 0)) (numW (digits b.natAbs).length (digits b.natAbs))).natAbs)) / (↑(numW
     (digits d.natAbs).length (digits d.natAbs)) : Int)).natAbs).length then some (Res.ret (Value.int IntKind.i64 (hold (sgn (decide (sgn (decide (sgn (decide (a < 0)) (numW (digits a.natAbs).length
     (digits a.natAbs)) * sgn (decide (b < 0)) (numW (digits b.natAbs).length (digits b.natAbs)) < 0)) (numW (digits (sgn (decide (a < 0)) (numW (digits a.natAbs).length (digits a.natAbs)) * sgn (decide (b
     < 0)) (numW (digits b.natAbs).length (digits b.natAbs))).natAbs).length (digits (sgn (decide (a < 0)) (numW (digits a.natAbs).length (digits a.natAbs)) * sgn (decide (b < 0)) (numW (digits
     b.natAbs).length (digits b.natAbs))).natAbs)) / (↑(numW (digits d.natAbs).length (digits d.natAbs)) : Int) < 0)) (numW (digits (sgn (decide (sgn (decide (a < 0)) (numW (digits a.natAbs).length (digits
     a.natAbs)) * sgn (decide (b < 0)) (numW (digits b.natAbs).length (digits b.natAbs)) < 0)) (numW (digits (sgn (decide (a < 0)) (numW (digits a.natAbs).length (digits a.natAbs)) * sgn (decide (b < 0))
     (numW (digits b.natAbs).length (digits b.natAbs))).natAbs).length (digits (sgn (decide (a < 0)) (numW (digits a.natAbs).length (digits a.natAbs)) * sgn (decide (b < 0)) (numW (digits b.natAbs).length
     (digits b.natAbs))).natAbs)) / (↑(numW (digits d.natAbs).length (digits d.natAbs)) : Int)).natAbs).length (digits (sgn (decide (sgn (decide (a < 0)) (numW (digits a.natAbs).length (digits a.natAbs)) *
     sgn (decide (b < 0)) (numW (digits b.natAbs).length (digits b.natAbs)) < 0)) (numW (digits (sgn (decide (a < 0)) (numW (digits a.natAbs).length (digits a.natAbs)) * sgn (decide (b < 0)) (numW (digits
     b.natAbs).length (digits b.natAbs))).natAbs).length (digits (sgn (decide (a < 0)) (numW (digits a.natAbs).length (digits a.natAbs)) * sgn (decide (b < 0)) (numW (digits b.natAbs).length (digits
     b.natAbs))).natAbs)) / (↑(numW (digits d.natAbs).length (digits d.natAbs)) : Int)).natAbs))))) []) else none else none else none) := by kernel_rfl
--CFEND
end Go.Proofs.Ytfgehfnlkakioaa.VC

/- The document's numbers: Sub, Mul, Two, proved. -/
namespace Go.Proofs.Ytfgehfnlkakioaa.VC
open Go Go.Proofs

theorem normB_eq {n : Nat} {xs : List Int} (h : normB n xs = true) : (digits (numW n xs)).length = n := (normB_iff.1 h).2.1.symm
theorem normB_le {v k : Nat} (h : v < BB ^ k) (hk : k ≤ 1000000) : normB (digits v).length (digits v) = true := normB_digits (Nat.le_trans (digits_len_le h) hk)
theorem sgn_neg (t : Bool) (v : Nat) : sgn (!t && decide (0 < v)) v = -sgn t v := by
  unfold sgn
  rcases Nat.eq_zero_or_pos v with h | h
  · subst h; cases t <;> rfl
  · rw [decide_eq_true h]
    cases t <;> simp
theorem sgn_abs (t : Bool) (v : Nat) : (sgn t v).natAbs = v := by unfold sgn; cases t <;> simp only [condT, condF] <;> omega

theorem ok36 : EntryOK Try.prog 36 F36 := by
  refine EntryOK.of_fn S36_ok follows_ok Try.func36 (by kernel_rfl) (by kernel_rfl) ?_
  intro args h k out hF
  unfold F36 at hF
  split at hF
  · rename_i s n c t m d n1 xs m1 ys
    obtain ⟨hb, hF2⟩ := bif_t hF
    simp only [Bool.and_eq_true] at hb
    obtain ⟨⟨⟨⟨⟨hx, hy⟩, hn⟩, hm⟩, hn4⟩, hm4⟩ := hb
    refine ⟨_, _, hF2, fun real => ⟨noL, noL_ok, ?_⟩⟩
    rw [cf36, normB_eq hy, sgn_neg, ← Int.sub_eq_add_neg]
    simp only [wordsB_norm hy, hx, hy, hn, hm, Bool.and_self, condT]
    rw [show n.ble (OfNat.ofNat 400000) = true from hn4, show m.ble (OfNat.ofNat 400000) = true from hm4]
    simp only [Bool.and_self, condT]
  · cases hF

theorem half (b r : Nat) : b / 2 ^ r = 2 * (b / 2 ^ (r + 1)) + b / 2 ^ r % 2 := by
  rw [Nat.pow_succ, ← Nat.div_div_eq_div_mul]; omega

theorem loop32 {s t : Bool} {n c m d n1 m1 : Nat} {xs ys : List Int} (hx : normB n xs = true) (hy : normB m ys = true) (hn : n ≤ n1) (hm : m ≤ m1) (hb : n + m ≤ 1000000) {k : Exit → List Value → Heap → Out} :
    ∀ (r v : Nat), r ≤ 32 * m → v = numW n xs * (numW m ys / 2 ^ r) →
      loopN Try.prog S32 noL Try.f32.ntmps 2 (loopOf Try.f32 0) live32 (r + 1) [pt 2, pt 3, pt 4, dS 5 v, w63 ((r : Int) - 1)] [wb n1 xs, wb m1 ys, bx s 0 n c, bx t 1 m d, nb false, db v] k =
      k (.exit 0) [pt 2, pt 3, pt 4, dS 5 (numW n xs * numW m ys), w63 (-1)] [wb n1 xs, wb m1 ys, bx s 0 n c, bx t 1 m d, nb false, db (numW n xs * numW m ys)] := by
  intro r
  have h1 := numW_lt hx
  have h2 := numW_lt hy
  have hab : numW n xs * numW m ys < BB ^ (n + m) := by
    rw [Nat.pow_add]
    exact Nat.lt_of_le_of_lt (Nat.mul_le_mul_right _ (Nat.le_of_lt h1)) (Nat.mul_lt_mul_of_pos_left h2 (Nat.pow_pos (by decide)))
  have small : ∀ {u r : Nat}, u ≤ numW n xs * (numW m ys / 2 ^ r) → normB (digits u).length (digits u) = true := fun {u r} h =>
    normB_le (Nat.lt_of_le_of_lt (Nat.le_trans h (Nat.mul_le_mul_left _ (Nat.div_le_self _ _))) hab) hb
  induction r with
  | zero =>
    intro v _ hv
    rw [Nat.pow_zero, Nat.div_one] at hv
    subst hv
    rw [loopN_succ, cf32r, dec_f (by omega), condF]
    rfl
  | succ r ih =>
    intro v hr hv
    have hh := half (numW m ys) r
    have m0 := (normB_iff.1 hy).2.2
    have hn1 := ble_t hn
    have hqb : numW m ys / 2 ^ r ≤ numW m ys := Nat.div_le_self _ _
    rw [loopN_succ, cf32r, show ((r + 1 : Nat) : Int) - 1 = (r : Int) by omega, Int.toNat_natCast, dec_t (show (r : Int) ≥ 0 by omega), numW_digits, numW_digits, small (r := r + 1) (Nat.le_of_eq hv), hy, ble_t hm, ble_t (Nat.le_refl (digits v).length), hx, hn1, ble_t (Nat.le_refl (digits (2 * v)).length)]
    simp only [Bool.and_self, condT]
    rw [swrap (x := (r : Int) - 1) (by omega) (by omega)]
    generalize hq : numW m ys / 2 ^ r = q at *
    generalize hq1 : numW m ys / 2 ^ (r + 1) = q1 at *
    have e0 : numW n xs * q = 2 * v + numW n xs * (q % 2) := by
      rw [hv]
      conv => lhs; rw [hh]
      rw [Nat.mul_add, Nat.mul_left_comm]
    have e1 : numW n xs * q ≤ numW n xs * numW m ys := Nat.mul_le_mul_left _ hqb
    have e3 : normB (digits (2 * v)).length (digits (2 * v)) = true := normB_le (by omega) hb
    by_cases hbit : q % 2 = 1
    · rw [dec_t hbit, condT, e3]
      simp only [Bool.and_self, condT]
      rw [hbit, Nat.mul_one] at e0
      rw [← e0]
      exact ih _ (by omega) rfl
    · rw [dec_f hbit, condF]
      rw [show q % 2 = 0 by omega, Nat.mul_zero, Nat.add_zero] at e0
      rw [← e0]
      exact ih _ (by omega) rfl
theorem loopOK32 : LoopOK Try.prog Try.f32.ntmps 2 (loopOf Try.f32 0) live32 L32f := by
  refine LoopOK.of_rounds_weak S32_ok follows_ok (L := noL) noL_ok ?_
  intro vs h k out hk
  unfold L32f at hk
  split at hk
  · rename_i p n1 xs m1 ys s n c t m d
    obtain ⟨hb, hk2⟩ := bif_t hk
    simp only [Bool.and_eq_true, beq_iff_eq] at hb
    obtain ⟨⟨⟨⟨⟨⟨hx, hy⟩, hn⟩, hm⟩, hn4⟩, hm4⟩, hp⟩ := hb
    have hn4 := ble_true hn4
    have hm4 := ble_true hm4
    have h2 := numW_lt hy
    have hp2 : p = ((32 * m : Nat) : Int) - 1 := by rw [hp, swrap (x := 32 * (m : Int)) (by omega) (by omega), swrap (by omega) (by omega)]; omega
    subst hp2
    refine ⟨_, _, _, hk2, fun _ => ⟨_, _, WeakS.nilS (k := .u64) (es := 1) (own := true) (by decide) (.same _ (.same _ (.same _ (.none 5 1 (.same _ .nil))))), 32 * m + 1, _, _, ?_, WeakS.refl _ _⟩⟩
    have e : numW n xs * (numW m ys / 2 ^ (32 * m)) = 0 := by
      rw [Nat.pow_mul, show (2 : Nat) ^ 32 = BB from rfl, Nat.div_eq_of_lt h2, Nat.mul_zero]
    exact loop32 hx hy (ble_true hn) (ble_true hm) (by omega) (c := c) (d := d) (s := s) (t := t) (k := fun e vs h => some (.at e (zipS live32 vs) h)) (32 * m) 0 (Nat.le_refl _) e.symm
  · cases hk
theorem loops32 : LoopsOK Try.prog L32 Try.f32.ntmps 2 (bodyOf Try.f32) := loops_one rfl (by kernel_rfl) loopOK32

theorem sgn_mul (s t : Bool) (a b : Nat) : (sgn s a * sgn t b).natAbs = a * b := by rw [Int.natAbs_mul, sgn_abs, sgn_abs]
theorem sgn_mul_neg (s t : Bool) (a b : Nat) : decide (sgn s a * sgn t b < 0) = (!s == t && decide (0 < a * b)) := by
  have e : ((a * b : Nat) : Int) = (a : Int) * (b : Int) := Int.natCast_mul a b
  cases s <;> cases t <;> simp only [sgn, condT, condF, Int.neg_mul, Int.mul_neg, Int.neg_neg, ← e]
  · exact decide_eq_false (by omega)
  · rw [show (!false == true) = true from rfl, Bool.true_and]; exact decide_eq_decide.2 (by omega)
  · rw [show (!true == false) = true from rfl, Bool.true_and]; exact decide_eq_decide.2 (by omega)
  · exact decide_eq_false (by omega)

theorem ok32 : EntryOK Try.prog 32 F32 := by
  refine EntryOK.of_fn S32_ok follows_ok Try.func32 (by kernel_rfl) (by kernel_rfl) ?_
  intro args h k out hF
  unfold F32 at hF
  split at hF
  · rename_i s n c t m d n1 xs m1 ys
    obtain ⟨hb, hF2⟩ := bif_t hF
    simp only [Bool.and_eq_true] at hb
    obtain ⟨⟨⟨⟨⟨hx, hy⟩, hn⟩, hm⟩, hn4⟩, hm4⟩ := hb
    refine ⟨_, _, hF2, fun real => ⟨L32, loops32, ?_⟩⟩
    have h1 := numW_lt hx
    have h2 := numW_lt hy
    have hab : numW n xs * numW m ys < BB ^ (n + m) := by
      rw [Nat.pow_add]
      exact Nat.lt_of_le_of_lt (Nat.mul_le_mul_right _ (Nat.le_of_lt h1)) (Nat.mul_lt_mul_of_pos_left h2 (Nat.pow_pos (by decide)))
    have w1 := wordsB_norm (normB_le hab (by have := ble_true hn4; have := ble_true hm4; omega))
    rw [cf32, show n.ble (OfNat.ofNat 400000) = true from hn4, show m.ble (OfNat.ofNat 400000) = true from hm4, beq_self_eq_true, hx, hy, hn, hm, w1, ble_t (Nat.le_refl _), numW_digits]
    simp only [Bool.and_self, condT]
    exact retEq (zV_eq (sgn_mul_neg s t _ _) (sgn_mul s t _ _)) (by rw [← zB_eq (sgn_mul s t _ _)])
  · cases hF
end Go.Proofs.Ytfgehfnlkakioaa.VC

/- SatSums: the law's closed form. -/
namespace Go.Proofs.Ytfgehfnlkakioaa.VC
open Go Go.Proofs

def Skn : Spec := mkS [(19, false, F19), (21, false, F21), (23, false, F23), (26, false, F26), (30, false, F30), (33, false, F33)]
theorem Skn_ok : SpecOK Try.prog Skn := mkS_cons ok19 (mkS_cons ok21 (mkS_cons ok23 (mkS_cons ok26 (mkS_cons ok30 (mkS_cons ok33 (mkS_nil _))))))
--CF cf22 . :: fnK Try.prog Skn noL Try.f22 [] []
theorem cf22  : fnK Try.prog Skn noL Try.f22 [] [] =
     (some (Res.ret (Value.bool true) [])) := by kernel_rfl
--CFEND
def F22 : FSpec := fun args h k => match args, h with
  | [], [] => k (.bool true) []
  | _, _ => none
theorem ok22 : EntryOK Try.prog 22 F22 := by
  refine EntryOK.of_fn Skn_ok follows_ok Try.func22 (by kernel_rfl) (by kernel_rfl) ?_
  intro args h k out hF
  unfold F22 at hF
  split at hF
  · exact ⟨_, _, hF, fun real => ⟨noL, noL_ok, by rw [cf22]⟩⟩
  · cases hF
noncomputable def S6 : Spec := mkS [(22, false, F22), (23, false, F23), (24, false, F24), (25, false, F25), (26, false, F26), (38, false, F38), (29, false, F29), (31, false, F31), (32, false, F32), (35, false, F35), (36, false, F36), (37, false, F37)]
theorem S6_ok : SpecOK Try.prog S6 := mkS_cons ok22 (mkS_cons ok23 (mkS_cons ok24 (mkS_cons ok25 (mkS_cons ok26 (mkS_cons ok38 (mkS_cons ok29 (mkS_cons ok31 (mkS_cons ok32 (mkS_cons ok35 (mkS_cons ok36 (mkS_cons ok37 (mkS_nil _))))))))))))
--CF cf6 (a b : Int) :: fnK Try.prog S6 noL Try.f6 [w63 a, w63 b] []
theorem cf6 (a b : Int) : fnK Try.prog S6 noL Try.f6 [w63 a, w63 b] [] =
     (bif normB (digits a.natAbs).length (digits a.natAbs) && normB (digits b.natAbs).length (digits b.natAbs) && (digits a.natAbs).length.ble (digits a.natAbs).length && (digits b.natAbs).length.ble
     (digits b.natAbs).length && (digits a.natAbs).length.ble (OfNat.ofNat 400000) && (digits b.natAbs).length.ble (OfNat.ofNat 400000) then bif normB (digits (sgn (decide (a < 0)) (numW (digits
     a.natAbs).length (digits a.natAbs)) + sgn (decide (b < 0)) (numW (digits b.natAbs).length (digits b.natAbs))).natAbs).length (digits (sgn (decide (a < 0)) (numW (digits a.natAbs).length (digits
     a.natAbs)) + sgn (decide (b < 0)) (numW (digits b.natAbs).length (digits b.natAbs))).natAbs) && (digits (sgn (decide (a < 0)) (numW (digits a.natAbs).length (digits a.natAbs)) + sgn (decide (b < 0))
     (numW (digits b.natAbs).length (digits b.natAbs))).natAbs).length.ble (digits (sgn (decide (a < 0)) (numW (digits a.natAbs).length (digits a.natAbs)) + sgn (decide (b < 0)) (numW (digits
     b.natAbs).length (digits b.natAbs))).natAbs).length then bif hold (a + b) == hold (sgn (decide (sgn (decide (a < 0)) (numW (digits a.natAbs).length (digits a.natAbs)) + sgn (decide (b < 0)) (numW
     (digits b.natAbs).length (digits b.natAbs)) < 0)) (numW (digits (sgn (decide (a < 0)) (numW (digits a.natAbs).length (digits a.natAbs)) + sgn (decide (b < 0)) (numW (digits b.natAbs).length (digits
     b.natAbs))).natAbs).length (digits (sgn (decide (a < 0)) (numW (digits a.natAbs).length (digits a.natAbs)) + sgn (decide (b < 0)) (numW (digits b.natAbs).length (digits b.natAbs))).natAbs))) then bif
     normB (digits a.natAbs).length (digits a.natAbs) && normB (digits b.natAbs).length (digits b.natAbs) && (digits a.natAbs).length.ble (digits a.natAbs).length && (digits b.natAbs).length.ble (digits
     b.natAbs).length && (digits a.natAbs).length.ble (OfNat.ofNat 400000) && (digits b.natAbs).length.ble (OfNat.ofNat 400000) then bif normB (digits (sgn (decide (a < 0)) (numW (digits a.natAbs).length
     (digits a.natAbs)) - sgn (decide (b < 0)) (numW (digits b.natAbs).length (digits b.natAbs))).natAbs).length (digits (sgn (decide (a < 0)) (numW (digits a.natAbs).length (digits a.natAbs)) - sgn
     (decide (b < 0)) (numW (digits b.natAbs).length (digits b.natAbs))).natAbs) && (digits (sgn (decide (a < 0)) (numW (digits a.natAbs).length (digits a.natAbs)) - sgn (decide (b < 0)) (numW (digits
     b.natAbs).length (digits b.natAbs))).natAbs).length.ble (digits (sgn (decide (a < 0)) (numW (digits a.natAbs).length (digits a.natAbs)) - sgn (decide (b < 0)) (numW (digits b.natAbs).length (digits
     b.natAbs))).natAbs).length then bif hold (a - b) == hold (sgn (decide (sgn (decide (a < 0)) (numW (digits a.natAbs).length (digits a.natAbs)) - sgn (decide (b < 0)) (numW (digits b.natAbs).length
     (digits b.natAbs)) < 0)) (numW (digits (sgn (decide (a < 0)) (numW (digits a.natAbs).length (digits a.natAbs)) - sgn (decide (b < 0)) (numW (digits b.natAbs).length (digits b.natAbs))).natAbs).length
     (digits (sgn (decide (a < 0)) (numW (digits a.natAbs).length (digits a.natAbs)) - sgn (decide (b < 0)) (numW (digits b.natAbs).length (digits b.natAbs))).natAbs))) then bif normB (digits
     a.natAbs).length (digits a.natAbs) && normB (digits b.natAbs).length (digits b.natAbs) && (digits a.natAbs).length.ble (digits a.natAbs).length && (digits b.natAbs).length.ble (digits b.natAbs).length
     && (digits a.natAbs).length.ble (OfNat.ofNat 400000) && (digits b.natAbs).length.ble (OfNat.ofNat 400000) then bif normB (digits (sgn (decide (a < 0)) (numW (digits a.natAbs).length (digits a.natAbs))
     * sgn (decide (b < 0)) (numW (digits b.natAbs).length (digits b.natAbs))).natAbs).length (digits (sgn (decide (a < 0)) (numW (digits a.natAbs).length (digits a.natAbs)) * sgn (decide (b < 0)) (numW
     (digits b.natAbs).length (digits b.natAbs))).natAbs) && (digits (sgn (decide (a < 0)) (numW (digits a.natAbs).length (digits a.natAbs)) * sgn (decide (b < 0)) (numW (digits b.natAbs).length (digits
     b.natAbs))).natAbs).length.ble (digits (sgn (decide (a < 0)) (numW (digits a.natAbs).length (digits a.natAbs)) * sgn (decide (b < 0)) (numW (digits b.natAbs).length (digits b.natAbs))).natAbs).length
     then bif hold (a * b) == hold (sgn (decide (sgn (decide (a < 0)) (numW (digits a.natAbs).length (digits a.natAbs)) * sgn (decide (b < 0)) (numW (digits b.natAbs).length (digits b.natAbs)) < 0)) (numW
     (digits (sgn (decide (a < 0)) (numW (digits a.natAbs).length (digits a.natAbs)) * sgn (decide (b < 0)) (numW (digits b.natAbs).length (digits b.natAbs))).natAbs).length (digits (sgn (decide (a < 0))
     (numW (digits a.natAbs).length (digits a.natAbs)) * sgn (decide (b < 0)) (numW (digits b.natAbs).length (digits b.natAbs))).natAbs))) then bif wordsB (digits a.natAbs).length (digits a.natAbs) &&
     (digits a.natAbs).length.ble (digits a.natAbs).length then bif normB (digits (numW (digits a.natAbs).length (digits a.natAbs))).length (digits a.natAbs) && (digits (numW (digits a.natAbs).length
     (digits a.natAbs))).length.ble (digits a.natAbs).length then bif hold (-a) == hold (sgn (!decide (a < 0) && decide (0 < numW (digits a.natAbs).length (digits a.natAbs))) (numW (digits (numW (digits
     a.natAbs).length (digits a.natAbs))).length (digits a.natAbs))) then bif normB (digits a.natAbs).length (digits a.natAbs) && (digits a.natAbs).length.ble (digits a.natAbs).length then bif hold (sizeI
     a) == hold (sgn false (numW (digits a.natAbs).length (digits a.natAbs))) then some (Res.ret (Value.bool true) []) else some (Res.ret (Value.bool false) []) else none else some (Res.ret (Value.bool
     false) []) else none else none else some (Res.ret (Value.bool false) []) else none else none else some (Res.ret (Value.bool false) []) else none else none else some (Res.ret (Value.bool false) [])
     else none else none) := by kernel_rfl
--CFEND
end Go.Proofs.Ytfgehfnlkakioaa.VC

/- SatSums: the law holds. -/
namespace Go.Proofs.Ytfgehfnlkakioaa.VC
open Go Go.Proofs

theorem sgn_self (z : Int) : sgn (decide (z < 0)) z.natAbs = z := by
  unfold sgn
  by_cases h : z < 0
  · rw [decide_eq_true h, condT]; omega
  · rw [decide_eq_false h, condF]; omega
theorem small128 {v : Nat} (h : v < BB ^ 4) : normB (digits v).length (digits v) = true := normB_le h (by decide)
theorem len128 {v : Nat} (h : v < BB ^ 4) : (digits v).length.ble 400000 = true := ble_t (Nat.le_trans (digits_len_le h) (by decide))

theorem mul_abs {a b : Int} {k : Nat} (ha : a.natAbs ≤ k) (hb : b.natAbs ≤ k) : (a * b).natAbs ≤ k * k := by
  rw [Int.natAbs_mul]; exact Nat.mul_le_mul ha hb

theorem law6 {a b : Int} (ha : -9223372036854775808 ≤ a ∧ a ≤ 9223372036854775807) (hb : -9223372036854775808 ≤ b ∧ b ≤ 9223372036854775807) : fnK Try.prog S6 noL Try.f6 [w63 a, w63 b] [] = some (.ret (.bool true) []) := by
  have b4 : BB ^ 4 = 340282366920938463463374607431768211456 := rfl
  have hm := mul_abs (a := a) (b := b) (k := 9223372036854775808) (by omega) (by omega)
  have s1 := small128 (v := a.natAbs) (by rw [b4]; omega)
  have s2 := small128 (v := b.natAbs) (by rw [b4]; omega)
  have s3 := small128 (v := (a + b).natAbs) (by rw [b4]; omega)
  have s4 := small128 (v := (a - b).natAbs) (by rw [b4]; omega)
  have s5 := small128 (v := (a * b).natAbs) (by rw [b4]; omega)
  have l1 := len128 (v := a.natAbs) (by rw [b4]; omega)
  have l2 := len128 (v := b.natAbs) (by rw [b4]; omega)
  rw [cf6]
  simp only [numW_digits, sgn_self, s1, s2, s3, s4, s5, l1, l2, wordsB_norm s1, ble_t (Nat.le_refl _), Bool.and_self, condT, beq_self_eq_true, sgn_neg]
  rw [show hold (sizeI a) = hold (sgn false a.natAbs) from rfl, beq_self_eq_true, condT]

def F6 : FSpec := fun args h k => match args, h with
  | [.int .i64 _, .int .i64 _], [] => k (.bool true) []
  | _, _ => none
theorem ok6 : EntryOK Try.prog 6 F6 := by
  refine EntryOK.of_fn S6_ok follows_ok Try.func6 (by kernel_rfl) (by kernel_rfl) ?_
  intro args h k out hF
  unfold F6 at hF
  split at hF
  · exact ⟨_, _, hF, fun real => ⟨noL, noL_ok, law6 (i64r real 0 rfl) (i64r real 1 rfl)⟩⟩
  · cases hF
end Go.Proofs.Ytfgehfnlkakioaa.VC

/- The document's numbers: Two, Down, Up, Quotient, proved. -/
namespace Go.Proofs.Ytfgehfnlkakioaa.VC
open Go Go.Proofs

/-- Values told with less, one by one. -/
inductive ValW : List Value → List Value → Prop
  | nil : ValW [] []
  | cons {v v2 : Value} {vs vs2 : List Value} (hv : ∀ (ι : Map) (v' : Value), VR ι v v' → VR ι v2 v') (h : ValW vs vs2) : ValW (v :: vs) (v2 :: vs2)
theorem ValW.len {vs vs2 : List Value} (h : ValW vs vs2) : vs.length = vs2.length := by induction h <;> simp_all
theorem ValW.at {vs vs2 : List Value} (h : ValW vs vs2) : ∀ (ι : Map) (i : Nat) (v v2 v' : Value), vs[i]? = some v → vs2[i]? = some v2 → VR ι v v' → VR ι v2 v' := by
  intro ι
  induction h with
  | nil => intro i v v2 v' h; simp at h
  | cons hv _ ih =>
    intro i
    cases i with
    | zero => intro v v2 v' a b c; simp at a b; subst a b; exact hv _ _ c
    | succ i => intro v v2 v' a b c; exact ih i v v2 v' (by simpa using a) (by simpa using b) c
theorem ValW.same (v : Value) {vs vs2 : List Value} (h : ValW vs vs2) : ValW (v :: vs) (v :: vs2) := .cons (fun _ _ x => x) h
theorem WeakS.vals {live : List Nat} {vs vs2 : List Value} {h h2 : Heap} (hn : live.Nodup) (hw : ValW vs vs2) (hc : CutH h h2) : WeakS (zipS live vs) h (zipS live vs2) h2 :=
  ⟨by rw [hc.len]; exact Nat.le_refl _, fun ι _ _ _ _ hs hr => ⟨hs.weak_zip hw.len hn (hw.at ι), HR_cells hr hc.len hc.at, fun _ hm => mods_cells (fun id b2 hb => let ⟨b1, a, b, _⟩ := hc.at id b2 hb; ⟨b1, a, b⟩) hm⟩⟩
theorem WeakS.trans {s s2 s3 : Slots} {h h2 h3 : Heap} (x : WeakS s h s2 h2) (y : WeakS s2 h2 s3 h3) : WeakS s h s3 h3 :=
  ⟨Nat.le_trans x.1 y.1, fun ι n base w a hs hr => let ⟨a1, b1, c1⟩ := x.2 ι n base w a hs hr; let ⟨a2, b2, c2⟩ := y.2 ι n base w a a1 b1; ⟨a2, b2, fun b hb => c1 b (c2 b hb)⟩⟩
theorem VR.capAny {ι : Map} {a : Addr} {n c : Nat} {v : Value} (h : VR ι (.slice (some a) n c) v) : VR ι (.slice (some a) n 2) v := by
  cases h with
  | slZero a => exact .slZero a
  | sl hi h0 h1 ht ha => exact .sl hi h0 h1 (fun h => by cases h) (fun h => by cases h)
theorem CutH.refl : ∀ h : Heap, CutH h h
  | [] => .nil
  | b :: r => .same b (CutH.refl r)

/-! ### Two -/
theorem pow_lt_BB {j k : Nat} (h : j < 32 * k) : 2 ^ j < BB ^ k := by
  rw [show BB = 2 ^ 32 from rfl, ← Nat.pow_mul]
  exact Nat.pow_lt_pow_right (by decide) h
theorem loop27 {k : Exit → List Value → Heap → Out} (P : Nat) (hP : P ≤ 1000) :
    ∀ (r v c : Nat), r ≤ P → v = 2 ^ (P - r) →
      ∃ c', loopN Try.prog S32 noL Try.f27.ntmps 0 (loopOf Try.f27 0) live27 (r + 1) [w64 r, pt 0, sl 1 (digits v).length c] [nb false, db v] k =
      k (.exit 0) [w64 0, pt 0, sl 1 (digits (2 ^ P)).length c'] [nb false, db (2 ^ P)] := by
  intro r
  induction r with
  | zero =>
    intro v c _ hv
    rw [Nat.sub_zero] at hv
    subst hv
    refine ⟨c, ?_⟩
    rw [loopN_succ, cf27r, dec_f (by omega), condF]
    rfl
  | succ r ih =>
    intro v c hr hv
    have hlt : v < BB ^ 32 := by
      rw [hv]
      exact pow_lt_BB (by omega)
    obtain ⟨c', q⟩ := ih (2 * v) 1 (by omega) (by rw [hv, show P - r = (P - (r + 1)) + 1 by omega, Nat.pow_succ, Nat.mul_comm])
    refine ⟨c', ?_⟩
    rw [loopN_succ, cf27r, numW_digits, dec_t (show ((r + 1 : Nat) : Int) > 0 by omega), normB_le hlt (by decide), ble_t (Nat.le_refl (digits v).length)]
    simp only [Bool.and_self, condT]
    rw [show IntKind.u64.wrap (((r + 1 : Nat) : Int) - 1) = (r : Int) by rw [wu64e]; omega]
    exact q

theorem isOne_iff {xs : List Int} : isOne xs = true ↔ xs = [1] := chk_iff
theorem loopOK27 : LoopOK Try.prog Try.f27.ntmps 0 (loopOf Try.f27 0) live27 L27f := by
  refine LoopOK.of_rounds_weak S32_ok follows_ok (L := noL) noL_ok ?_
  intro vs h k out hk
  unfold L27f at hk
  split at hk
  · rename_i p n c n1 xs
    obtain ⟨hb, hk2⟩ := bif_t hk
    simp only [Bool.and_eq_true, decide_eq_true_eq, isOne_iff] at hb
    obtain ⟨⟨⟨⟨h0, h1⟩, h2⟩, h3⟩, h4⟩ := hb
    have h2 := beq_true h2
    have h3 := beq_true h3
    obtain ⟨N, rfl⟩ := Int.eq_ofNat_of_zero_le h0
    subst h2 h3 h4
    obtain ⟨c', q⟩ := loop27 (k := fun e vs h => some (.at e (zipS live27 vs) h)) N (by omega) N 1 c (Nat.le_refl _) (by rw [Nat.sub_self])
    exact ⟨_, _, _, hk2, fun _ => ⟨_, _, WeakS.refl _ _, N + 1, _, _, q, WeakS.vals (by decide) (.same _ (.same _ (.cons (fun _ _ h => h.capAny) .nil))) (.refl _)⟩⟩
  · cases hk
theorem loops27 : LoopsOK Try.prog L27 Try.f27.ntmps 0 (bodyOf Try.f27) := loops_one rfl (by kernel_rfl) loopOK27
theorem ok27 : EntryOK Try.prog 27 F27 := by
  refine EntryOK.of_fn S32_ok follows_ok Try.func27 (by kernel_rfl) (by kernel_rfl) ?_
  intro args h k out hF
  unfold F27 at hF
  split at hF
  · rename_i p
    obtain ⟨hb, hF2⟩ := bif_t hF
    simp only [Bool.and_eq_true] at hb
    exact ⟨_, _, hF2, fun real => ⟨L27, loops27, by rw [cf27, hb.1, hb.2, isOne_iff.2 rfl]; rfl⟩⟩
  · cases hF

/-! ### Down -/
theorem loop28 {s t : Bool} {n c m d n1 m1 : Nat} {xs ys : List Int} (hx : normB n xs = true) (hy : normB m ys = true) (hn : n ≤ n1) (hm : m ≤ m1) (hn4 : n ≤ 400000) (hm4 : m ≤ 399999) (hpos : 0 < numW m ys) {k : Exit → List Value → Heap → Out} :
    ∀ (r v l e l1 : Nat) (zs : List Int), r ≤ 32 * n → v = numW n xs / 2 ^ r / numW m ys → normB l zs = true → l ≤ l1 → numW l zs = numW n xs / 2 ^ r % numW m ys →
      ∃ (l1' e' : Nat) (zs' : List Int), normB (digits (numW n xs % numW m ys)).length zs' = true ∧ (digits (numW n xs % numW m ys)).length ≤ l1' ∧ numW (digits (numW n xs % numW m ys)).length zs' = numW n xs % numW m ys ∧
      loopN Try.prog S28a noL Try.f28.ntmps 2 (loopOf Try.f28 0) live28 (r + 1) [pt 2, pt 3, pt 4, pt 5, dS 6 v, sl 7 l e, w63 ((r : Int) - 1)] [wb n1 xs, wb m1 ys, bx s 0 n c, bx t 1 m d, nb false, nb false, db v, ob l1 zs] k =
      k (.exit 0) [pt 2, pt 3, pt 4, pt 5, dS 6 (numW n xs / numW m ys), sl 7 (digits (numW n xs % numW m ys)).length e', w63 (-1)] [wb n1 xs, wb m1 ys, bx s 0 n c, bx t 1 m d, nb false, nb false, db (numW n xs / numW m ys), ob l1' zs'] := by
  intro r
  have h1 := numW_lt hx
  have h2 := numW_lt hy
  induction r with
  | zero =>
    intro v l e l1 zs _ hv hz hl hL
    rw [Nat.pow_zero, Nat.div_one] at hv hL
    have hlen : l = (digits (numW n xs % numW m ys)).length := by rw [← hL]; exact (normB_iff.1 hz).2.1
    subst hv
    refine ⟨l1, e, zs, by rw [← hlen]; exact hz, by rw [← hlen]; exact hl, by rw [← hlen]; exact hL, ?_⟩
    rw [loopN_succ, cf28r, dec_f (by omega), condF, ← hlen]
    rfl
  | succ r ih =>
    intro v l e l1 zs hr hv hz hl hL
    have hh := half (numW n xs) r
    have hqa : numW n xs / 2 ^ r ≤ numW n xs := Nat.div_le_self _ _
    have hva : v ≤ numW n xs := by rw [hv]; exact Nat.le_trans (Nat.div_le_self _ _) (Nat.div_le_self _ _)
    have sv : normB (digits v).length (digits v) = true := normB_le (Nat.lt_of_le_of_lt hva h1) (by omega)
    have hb := ih
    rw [loopN_succ, cf28r, show ((r + 1 : Nat) : Int) - 1 = (r : Int) by omega, Int.toNat_natCast, hL]
    generalize hq : numW n xs / 2 ^ r = q at *
    generalize hq1 : numW n xs / 2 ^ (r + 1) = q1 at *
    have hdm := Nat.div_add_mod q1 (numW m ys)
    have hlt := Nat.mod_lt q1 hpos
    rw [← hv] at hdm
    generalize hL2 : q1 % numW m ys = L at *
    have hbit : bN (decide (q % 2 = 1)) = q % 2 := by
      by_cases h : q % 2 = 1
      · rw [dec_t h, h]; rfl
      · rw [dec_f h, show q % 2 = 0 by omega]; rfl
    rw [hbit]
    generalize hX : 2 * L + q % 2 = X at *
    have hqX : q = numW m ys * (2 * v) + X := by rw [Nat.mul_left_comm]; omega
    have pm : BB ^ (m + 1) = BB ^ m * 4294967296 := Nat.pow_succ ..
    have sX : normB (digits X).length (digits X) = true := normB_le (k := m + 1) (by omega) (by omega)
    have lX : (digits X).length ≤ m + 1 := digits_len_le (by omega)
    rw [dec_t (show (r : Int) ≥ 0 by omega), hx, hy, hz, sX, sv, ble_t hn, ble_t hm, ble_t hl, ble_t (Nat.le_refl (digits X).length), ble_t (Nat.le_refl (digits v).length), numW_digits, numW_digits]
    simp only [Bool.and_self, Bool.and_true, condT]
    rw [swrap (x := (r : Int) - 1) (by omega) (by omega)]
    by_cases hfit : numW m ys ≤ X
    · have hcmp : cmpI X (numW m ys) ≥ 0 := by unfold cmpI; split <;> (try split) <;> omega
      have hXl : X - numW m ys < BB ^ (digits X).length := Nat.lt_of_le_of_lt (Nat.sub_le _ _) (lt_pow_digits X)
      have hw1 : wordsB (digits X).length (wordsN (digits X).length (X - numW m ys)) = true := wordsB_wordsN (by omega)
      have hw2 : numW (digits X).length (wordsN (digits X).length (X - numW m ys)) = X - numW m ys := numW_wordsN hXl
      have hll : (digits (X - numW m ys)).length ≤ (digits X).length := digits_len_le hXl
      obtain ⟨hw3, hw4⟩ := normB_mk (take_digits_wordsN (digits X).length (X - numW m ys) hXl) rfl (by omega)
      rw [dec_t hcmp, ble_t hfit, hw1, hw2, show bN true = 1 from rfl]
      simp only [Bool.and_self, condT]
      have hq2 : q = numW m ys * (2 * v + 1) + (X - numW m ys) := by rw [Nat.mul_add, Nat.mul_one]; omega
      have hdiv : q / numW m ys = 2 * v + 1 := by rw [hq2, Nat.mul_add_div hpos, Nat.div_eq_of_lt (by omega), Nat.add_zero]
      have hmod : q % numW m ys = X - numW m ys := by rw [hq2, Nat.mul_add_mod, Nat.mod_eq_of_lt (by omega)]
      exact ih (2 * v + 1) _ 2 _ _ (by omega) hdiv.symm hw3 hll (hw4.trans hmod.symm)
    · have hcmp : ¬ cmpI X (numW m ys) ≥ 0 := by unfold cmpI; rw [if_neg (by omega), if_pos (by omega)]; omega
      rw [dec_f hcmp, show bN false = 0 from rfl, Nat.add_zero]
      simp only [condF]
      have hdiv : q / numW m ys = 2 * v := by rw [hqX, Nat.mul_add_div hpos, Nat.div_eq_of_lt (by omega), Nat.add_zero]
      have hmod : q % numW m ys = X := by rw [hqX, Nat.mul_add_mod, Nat.mod_eq_of_lt (by omega)]
      exact ih (2 * v) _ 1 _ _ (by omega) hdiv.symm sX (Nat.le_refl _) ((numW_digits X).trans hmod.symm)

theorem loopOK28 : LoopOK Try.prog Try.f28.ntmps 2 (loopOf Try.f28 0) live28 L28f := by
  refine LoopOK.of_rounds_weak S28a_ok follows_ok (L := noL) noL_ok ?_
  intro vs h k out hk
  unfold L28f at hk
  split at hk
  · rename_i p n1 xs m1 ys s n c t m d
    obtain ⟨hb, hk2⟩ := bif_t hk
    simp only [Bool.and_eq_true, beq_iff_eq] at hb
    obtain ⟨⟨⟨⟨⟨⟨⟨hx, hy⟩, hn⟩, hm⟩, hn4⟩, hm4⟩, hpos⟩, hp⟩ := hb
    have hn4 := ble_true hn4
    have hm4 := ble_true hm4
    have hpos := blt_true hpos
    have h1 := numW_lt hx
    have hp2 : p = ((32 * n : Nat) : Int) - 1 := by rw [hp, swrap (x := 32 * (n : Int)) (by omega) (by omega), swrap (by omega) (by omega)]; omega
    subst hp2
    have e : numW n xs / 2 ^ (32 * n) = 0 := by rw [Nat.pow_mul, show (2 : Nat) ^ 32 = BB from rfl, Nat.div_eq_of_lt h1]
    obtain ⟨l1', e', zs', q1, q2, q3, q4⟩ := loop28 hx hy (ble_true hn) (ble_true hm) hn4 hm4 hpos (c := c) (d := d) (s := s) (t := t) (k := fun e vs h => some (.at e (zipS live28 vs) h)) (32 * n) 0 0 1 0 [] (Nat.le_refl _) (by rw [e, Nat.zero_div]) (normB_digits (v := 0) (by decide)) (Nat.le_refl _) (by rw [e, Nat.zero_mod]; rfl)
    refine ⟨_, _, _, hk2, fun _ => ⟨_, _, WeakS.trans (WeakS.nilS (k := .u64) (es := 1) (own := true) (by decide) (.same _ (.same _ (.same _ (.same _ (.none 6 1 (.same _ (.same _ .nil))))))))
      (WeakS.nilS (k := .u64) (es := 1) (own := true) (by decide) (.same _ (.same _ (.same _ (.same _ (.same _ (.none 7 1 (.same _ .nil)))))))), 32 * n + 1, _, _, q4, WeakS.vals (by decide) (.same _ (.same _ (.same _ (.same _ (.same _ (.cons (fun _ _ h => h.capAny) (.same _ .nil))))))) ?_⟩⟩
    exact .same _ (.same _ (.same _ (.same _ (.same _ (.same _ (.same _ (.row q2 (by rw [(normB_iff.1 q1).1, q3]) .nil)))))))
  · cases hk
theorem loops28 : LoopsOK Try.prog L28 Try.f28.ntmps 2 (bodyOf Try.f28) := loops_one rfl (by kernel_rfl) loopOK28
theorem S28_ok : SpecOK Try.prog S28 := mkS_cons ok29 (mkS_cons ok36 (mkS_cons ok93 (mkS_nil _)))

theorem floorNeg {a b : Nat} (hb : 0 < b) : (-(a : Int)) / (b : Int) = -((a / b : Nat) : Int) - (if a % b = 0 then 0 else 1) ∧ (-(a : Int)) % (b : Int) = if a % b = 0 then 0 else ((b - a % b : Nat) : Int) := by
  have hdm := Nat.div_add_mod a b
  have hlt := Nat.mod_lt a hb
  generalize a / b = q at *
  generalize a % b = r at *
  subst hdm
  have e : ((b * q + r : Nat) : Int) = (b : Int) * (q : Int) + (r : Int) := by rw [Int.natCast_add, Int.natCast_mul]
  rw [e]
  split
  · rename_i h; subst h
    have h1 : -((b : Int) * q + ((0 : Nat) : Int)) = 0 + (b : Int) * (-(q : Int)) := by rw [Int.mul_neg]; omega
    rw [h1]
    constructor
    · rw [Int.add_mul_ediv_left _ _ (by omega)]; simp
    · rw [Int.add_mul_emod_self_left]; rfl
  · have h1 : -((b : Int) * q + (r : Int)) = ((b - r : Nat) : Int) + (b : Int) * (-(q : Int) - 1) := by rw [Int.mul_sub, Int.mul_neg]; omega
    rw [h1]
    constructor
    · rw [Int.add_mul_ediv_left _ _ (by omega), Int.ediv_eq_zero_of_lt (by omega) (by omega)]; omega
    · rw [Int.add_mul_emod_self_left, Int.emod_eq_of_lt (by omega) (by omega)]
end Go.Proofs.Ytfgehfnlkakioaa.VC

/- The document's numbers: Down, Up, Quotient, proved. -/
namespace Go.Proofs.Ytfgehfnlkakioaa.VC
open Go Go.Proofs

theorem pair_eq {i j u v : Nat} {z1 z2 : Int} {b1 b2 : Bool} {x y : Option Blk} (h1 : decide (z1 < 0) = b1) (h2 : z1.natAbs = u) (h3 : decide (z2 < 0) = b2) (h4 : z2.natAbs = v) :
    (some (Res.ret (.tuple ⟨[.agg ⟨[.bool b1, .slice (some ⟨i, 0, none⟩) (digits u).length 2]⟩, .agg ⟨[.bool b2, .slice (some ⟨j, 0, none⟩) (digits v).length 2]⟩]⟩) [x, y, ob (digits u).length (digits u), ob (digits v).length (digits v)]) : Out) =
    some (.ret (.tuple ⟨[zV i z1, zV j z2]⟩) [x, y, zB z1, zB z2]) := by subst h1 h2 h3 h4; rfl

theorem ok28 : EntryOK Try.prog 28 F28 := by
  refine EntryOK.of_fn S28_ok follows_ok Try.func28 (by kernel_rfl) (by kernel_rfl) ?_
  intro args h k out hF
  unfold F28 at hF
  split at hF
  · rename_i s n c t m d n1 xs m1 ys
    obtain ⟨hb, hF2⟩ := bif_t hF
    simp only [Bool.and_eq_true, Bool.not_eq_true'] at hb
    obtain ⟨⟨⟨⟨⟨⟨⟨hx, hy⟩, hn⟩, hm⟩, hn4⟩, hm4⟩, hpos⟩, ht⟩ := hb
    subst ht
    refine ⟨_, _, hF2, fun real => ⟨L28, loops28, ?_⟩⟩
    have hn5 := ble_true hn4
    have hm5 := ble_true hm4
    have hp := blt_true hpos
    have h1 := numW_lt hx
    have h2 := numW_lt hy
    have hQ : numW n xs / numW m ys < BB ^ n := Nat.lt_of_le_of_lt (Nat.div_le_self _ _) h1
    have hR : numW n xs % numW m ys < BB ^ m := Nat.lt_trans (Nat.mod_lt _ hp) h2
    have sQ := normB_le hQ (by omega)
    have sR := normB_le hR (by omega)
    have lQ := digits_len_le hQ
    have lR := digits_len_le hR
    have fl := floorNeg (a := numW n xs) hp
    have hml := Nat.mod_lt (numW n xs) hp
    have eo : normB 1 (digits 1) = true := normB_digits (v := 1) (by decide)
    rw [cf28, show n.ble (OfNat.ofNat 400000) = true from ble_t (b := 400000) (by omega), show m.ble (OfNat.ofNat 399999) = true from hm4, show m.ble (OfNat.ofNat 400000) = true from ble_t (b := 400000) (by omega), hpos, hx, hy, hn, hm, beq_self_eq_true]
    simp only [numW_digits]
    rw [sQ, sR, wordsB_norm sQ, wordsB_norm sR, eo,
      ble_t (Nat.le_refl (digits (numW n xs / numW m ys)).length), ble_t (Nat.le_refl (digits (numW n xs % numW m ys)).length), show (digits (numW n xs / numW m ys)).length.ble (OfNat.ofNat 400000) = true from ble_t (b := 400000) (by omega), show (digits (numW n xs % numW m ys)).length.ble (OfNat.ofNat 400000) = true from ble_t (b := 400000) (by omega)]
    simp only [Bool.and_self, condT]
    generalize hQe : numW n xs / numW m ys = Q at *
    generalize hRe : numW n xs % numW m ys = R at *
    have pos : (numW n xs : Int) / (numW m ys : Int) = (Q : Int) := by rw [← hQe]; exact (Int.natCast_ediv _ _).symm
    have pos2 : (numW n xs : Int) % (numW m ys : Int) = (R : Int) := by rw [← hRe]; exact (Int.natCast_emod _ _).symm
    cases s with
    | false =>
      simp only [condF, Bool.false_and, sgn, pos, pos2]
      exact pair_eq (dec_f (by omega)) (by omega) (dec_f (by omega)) (by omega)
    | true =>
      simp only [condT, Bool.true_and]
      by_cases hr : R = 0
      · subst hr
        rw [dec_f (show ¬ ((digits 0).length : Int) > 0 by rw [digits_zero]; simp)]
        simp only [condF, sgn, condT]
        rw [if_pos rfl] at fl
        rw [if_pos rfl] at fl
        rw [fl.1, fl.2]
        exact pair_eq (decide_eq_decide.2 (by omega)) (by omega) (dec_f (by omega)) (by omega)
      · rw [dec_t (show ((digits R).length : Int) > 0 by rw [digits_pos hr]; simp)]
        rw [if_neg hr, if_neg hr] at fl
        simp only [condT]
        rw [show sgn true (numW n xs) = -(numW n xs : Int) from rfl, fl.1, fl.2]
        have e1 : sgn (decide (0 < Q)) Q = -(Q : Int) := by
          unfold sgn
          by_cases h : 0 < Q
          · rw [dec_t h, condT]
          · rw [dec_f h, condF]; omega
        simp only [e1]
        have e2 : sgn false (numW m ys) - sgn false R = ((numW m ys - R : Nat) : Int) := by unfold sgn; simp only [condF]; omega
        simp only [e2]
  · cases hF

theorem S86_ok : SpecOK Try.prog S86 := mkS_cons ok28 (mkS_cons ok37 (mkS_nil _))
theorem div_abs_le {z : Int} {b : Nat} (hb : 0 < b) : (z / (b : Int)).natAbs ≤ z.natAbs := by
  rcases Int.lt_or_le z 0 with h | h
  · obtain ⟨a, rfl⟩ : ∃ a : Nat, z = -(a : Int) := ⟨z.natAbs, by omega⟩
    have fl := (floorNeg (a := a) hb).1
    have hdm := Nat.div_add_mod a b
    have hml := Nat.mod_lt a hb
    have hle : a / b ≤ b * (a / b) := Nat.le_mul_of_pos_left _ hb
    rw [fl]
    generalize a / b = q at *
    split <;> omega
  · obtain ⟨a, rfl⟩ := Int.eq_ofNat_of_zero_le h
    have : ((a : Int) / (b : Int)) = ((a / b : Nat) : Int) := (Int.natCast_ediv _ _).symm
    rw [this, Int.natAbs_natCast, Int.natAbs_natCast]
    exact Nat.div_le_self a b

theorem ok86 : EntryOK Try.prog 86 F86 := by
  refine EntryOK.of_fn S86_ok follows_ok Try.func86 (by kernel_rfl) (by kernel_rfl) ?_
  intro args h k out hF
  unfold F86 at hF
  split at hF
  · rename_i s n c t m d n1 xs m1 ys
    obtain ⟨hb, hF2⟩ := bif_t hF
    simp only [Bool.and_eq_true, Bool.not_eq_true'] at hb
    obtain ⟨⟨⟨⟨⟨⟨⟨hx, hy⟩, hn⟩, hm⟩, hn4⟩, hm4⟩, hpos⟩, ht⟩ := hb
    subst ht
    refine ⟨_, _, hF2, fun real => ⟨noL, noL_ok, ?_⟩⟩
    have hn5 := ble_true hn4
    have hp := blt_true hpos
    have h1 := numW_lt hx
    have ha : (-sgn s (numW n xs) / (numW m ys : Int)).natAbs < BB ^ n := Nat.lt_of_le_of_lt (div_abs_le hp) (by rw [Int.natAbs_neg, sgn_abs]; exact h1)
    have sA := normB_le ha (by omega)
    rw [cf86, normB_eq hx, sgn_neg, show n.ble (OfNat.ofNat 399999) = true from hn4, show m.ble (OfNat.ofNat 399999) = true from hm4, hpos, hx, hy, hn, hm, wordsB_norm hx, numW_digits, wordsB_norm sA, ble_t (Nat.le_refl _)]
    simp only [Bool.and_self, Bool.not_false, condT]
    generalize -sgn s (numW n xs) / (numW m ys : Int) = z at *
    have e1 : (-z).natAbs = z.natAbs := Int.natAbs_neg z
    refine retEq (zV_eq ?_ e1) (by rw [← zB_eq e1])
    by_cases hz : z < 0
    · rw [dec_t hz, dec_f (by omega)]; rfl
    · rw [dec_f hz]; exact decide_eq_decide.2 (by omega)
  · cases hF

theorem S20_ok : SpecOK Try.prog S20 := mkS_cons ok28 (mkS_cons ok29 (mkS_cons ok31 (mkS_cons ok32 (mkS_cons ok86 (mkS_nil _)))))
def F20 : FSpec := fun args h k => match args, h with
  | [.int .i64 a, .int .i64 b, .int .i64 d, .bool v], [] => k (w63 (bif v then upI a b d else downI a b d)) []
  | _, _ => none
theorem ok20 : EntryOK Try.prog 20 F20 := by
  refine EntryOK.of_fn S20_ok follows_ok Try.func20 (by kernel_rfl) (by kernel_rfl) ?_
  intro args h k out hF
  unfold F20 at hF
  split at hF
  · rename_i a b d v
    refine ⟨_, _, hF, fun real => ⟨noL, noL_ok, ?_⟩⟩
    have ha := i64r real 0 rfl
    have hb := i64r real 1 rfl
    have hd := i64r real 2 rfl
    have b4 : BB ^ 4 = 340282366920938463463374607431768211456 := rfl
    have hm := mul_abs (a := a) (b := b) (k := 9223372036854775808) (by omega) (by omega)
    rw [cf20]
    unfold downI upI
    refine dc (fun c => ?_) (fun c => ?_)
    · rw [if_pos c, if_pos c]; cases v <;> rfl
    · rw [if_neg c, if_neg c]
      obtain ⟨D, rfl⟩ : ∃ D : Nat, d = (D : Int) := ⟨d.natAbs, by omega⟩
      have hD : 0 < D := by omega
      have m1 : (a * b / (D : Int)).natAbs ≤ (a * b).natAbs := div_abs_le hD
      have m2 : (-(a * b) / (D : Int)).natAbs ≤ (a * b).natAbs := by have := div_abs_le (z := -(a * b)) hD; rwa [Int.natAbs_neg] at this
      have s1 := small128 (v := a.natAbs) (by rw [b4]; omega)
      have s2 := small128 (v := b.natAbs) (by rw [b4]; omega)
      have s3 := small128 (v := D) (by rw [b4]; omega)
      have s5 := small128 (v := (a * b).natAbs) (by rw [b4]; omega)
      have s6 := small128 (v := (a * b / (D : Int)).natAbs) (by rw [b4]; omega)
      have s7 := small128 (v := (-(-(a * b) / (D : Int))).natAbs) (by rw [b4, Int.natAbs_neg]; omega)
      have l1 := len128 (v := a.natAbs) (by rw [b4]; omega)
      have l2 := len128 (v := b.natAbs) (by rw [b4]; omega)
      have l9 : ∀ {v : Nat}, v < BB ^ 4 → (digits v).length.ble 399999 = true := fun h => ble_t (Nat.le_trans (digits_len_le h) (by decide))
      have l3 := l9 (v := D) (by rw [b4]; omega)
      have l5 := l9 (v := (a * b).natAbs) (by rw [b4]; omega)
      simp only [numW_digits, sgn_self, s1, s2, s3, s5, s6, s7, l1, l2, l3, l5, Int.natAbs_natCast, ble_t (Nat.le_refl _), Bool.and_self, condT,
        blt_t hD, dec_f (show ¬ (D : Int) < 0 by omega), Bool.not_false]
      cases v <;> simp only [condT, condF]
  · cases hF
end Go.Proofs.Ytfgehfnlkakioaa.VC

/- SatOver, SatShifts: closed forms. -/
namespace Go.Proofs.Ytfgehfnlkakioaa.VC
open Go Go.Proofs

def S3 : Spec := mkS [(19, false, F19), (20, false, F20), (21, false, F21), (22, false, F22)]
theorem S3_ok : SpecOK Try.prog S3 := mkS_cons ok19 (mkS_cons ok20 (mkS_cons ok21 (mkS_cons ok22 (mkS_nil _))))
--CF cf3 (a b d : Int) :: fnK Try.prog S3 noL Try.f3 [w63 a, w63 b, w63 d] []
theorem cf3 (a b d : Int) : fnK Try.prog S3 noL Try.f3 [w63 a, w63 b, w63 d] [] =
     (bif downI a b d == bif false then upI a b d else downI a b d then bif upI a b d == bif true then upI a b d else downI a b d then some (Res.ret (Value.bool true) []) else some (Res.ret (Value.bool
     false) []) else some (Res.ret (Value.bool false) [])) := by kernel_rfl
--CFEND
noncomputable def S5 : Spec := mkS [(22, false, F22), (27, false, F27), (28, false, F28), (29, false, F29), (30, false, F30), (31, false, F31), (32, false, F32), (33, false, F33), (34, false, F34)]
theorem S5_ok : SpecOK Try.prog S5 := mkS_cons ok22 (mkS_cons ok27 (mkS_cons ok28 (mkS_cons ok29 (mkS_cons ok30 (mkS_cons ok31 (mkS_cons ok32 (mkS_cons ok33 (mkS_cons ok34 (mkS_nil _)))))))))
--CF cf5 (a n l m : Int) :: fnK Try.prog S5 noL Try.f5 [w63 a, w64 n, w63 l, w63 m] []
theorem cf5 (a n l m : Int) : fnK Try.prog S5 noL Try.f5 [w63 a, w64 n, w63 l, w63 m] [] =
     (bif decide (0 ≤ if 200 < n then 200 else n) && decide ((if 200 < n then 200 else n) ≤ 1000) then bif normB (digits a.natAbs).length (digits a.natAbs) && normB (digits (2 ^ (if 200 < n then 200 else
     n).toNat)).length (digits (2 ^ (if 200 < n then 200 else n).toNat)) && (digits a.natAbs).length.ble (digits a.natAbs).length && (digits (2 ^ (if 200 < n then 200 else n).toNat)).length.ble (digits (2
     ^ (if 200 < n then 200 else n).toNat)).length && (digits a.natAbs).length.ble (OfNat.ofNat 399999) && (digits (2 ^ (if 200 < n then 200 else n).toNat)).length.ble (OfNat.ofNat 399999) && Nat.blt 0
     (numW (digits (2 ^ (if 200 < n then 200 else n).toNat)).length (digits (2 ^ (if 200 < n then 200 else n).toNat))) && true then bif normB (digits a.natAbs).length (digits a.natAbs) && normB (digits (2
     ^ (if 200 < n then 200 else n).toNat)).length (digits (2 ^ (if 200 < n then 200 else n).toNat)) && (digits a.natAbs).length.ble (digits a.natAbs).length && (digits (2 ^ (if 200 < n then 200 else
     n).toNat)).length.ble (digits (2 ^ (if 200 < n then 200 else n).toNat)).length && (digits a.natAbs).length.ble (OfNat.ofNat 400000) && (digits (2 ^ (if 200 < n then 200 else n).toNat)).length.ble
     (OfNat.ofNat 400000) then bif normB (digits (sgn (decide (a < 0)) (numW (digits a.natAbs).length (digits a.natAbs)) * sgn false (numW (digits (2 ^ (if 200 < n then 200 else n).toNat)).length (digits
     (2 ^ (if 200 < n then 200 else n).toNat)))).natAbs).length (digits (sgn (decide (a < 0)) (numW (digits a.natAbs).length (digits a.natAbs)) * sgn false (numW (digits (2 ^ (if 200 < n then 200 else
     n).toNat)).length (digits (2 ^ (if 200 < n then 200 else n).toNat)))).natAbs) && (digits (sgn (decide (a < 0)) (numW (digits a.natAbs).length (digits a.natAbs)) * sgn false (numW (digits (2 ^ (if 200
     < n then 200 else n).toNat)).length (digits (2 ^ (if 200 < n then 200 else n).toNat)))).natAbs).length.ble (digits (sgn (decide (a < 0)) (numW (digits a.natAbs).length (digits a.natAbs)) * sgn false
     (numW (digits (2 ^ (if 200 < n then 200 else n).toNat)).length (digits (2 ^ (if 200 < n then 200 else n).toNat)))).natAbs).length then bif hold (a * 2 ^ n.toNat) != hold (sgn (decide (sgn (decide (a <
     0)) (numW (digits a.natAbs).length (digits a.natAbs)) * sgn false (numW (digits (2 ^ (if 200 < n then 200 else n).toNat)).length (digits (2 ^ (if 200 < n then 200 else n).toNat))) < 0)) (numW (digits
     (sgn (decide (a < 0)) (numW (digits a.natAbs).length (digits a.natAbs)) * sgn false (numW (digits (2 ^ (if 200 < n then 200 else n).toNat)).length (digits (2 ^ (if 200 < n then 200 else
     n).toNat)))).natAbs).length (digits (sgn (decide (a < 0)) (numW (digits a.natAbs).length (digits a.natAbs)) * sgn false (numW (digits (2 ^ (if 200 < n then 200 else n).toNat)).length (digits (2 ^ (if
     200 < n then 200 else n).toNat)))).natAbs))) then some (Res.ret (Value.bool false) []) else bif normB (digits (sgn (decide (a < 0)) (numW (digits a.natAbs).length (digits a.natAbs)) / (↑(numW (digits
     (2 ^ (if 200 < n then 200 else n).toNat)).length (digits (2 ^ (if 200 < n then 200 else n).toNat))) : Int)).natAbs).length (digits (sgn (decide (a < 0)) (numW (digits a.natAbs).length (digits
     a.natAbs)) / (↑(numW (digits (2 ^ (if 200 < n then 200 else n).toNat)).length (digits (2 ^ (if 200 < n then 200 else n).toNat))) : Int)).natAbs) && (digits (sgn (decide (a < 0)) (numW (digits
     a.natAbs).length (digits a.natAbs)) / (↑(numW (digits (2 ^ (if 200 < n then 200 else n).toNat)).length (digits (2 ^ (if 200 < n then 200 else n).toNat))) : Int)).natAbs).length.ble (digits (sgn
     (decide (a < 0)) (numW (digits a.natAbs).length (digits a.natAbs)) / (↑(numW (digits (2 ^ (if 200 < n then 200 else n).toNat)).length (digits (2 ^ (if 200 < n then 200 else n).toNat))) :
     Int)).natAbs).length then bif a / 2 ^ (min n 63).toNat != hold (sgn (decide (sgn (decide (a < 0)) (numW (digits a.natAbs).length (digits a.natAbs)) / (↑(numW (digits (2 ^ (if 200 < n then 200 else
     n).toNat)).length (digits (2 ^ (if 200 < n then 200 else n).toNat))) : Int) < 0)) (numW (digits (sgn (decide (a < 0)) (numW (digits a.natAbs).length (digits a.natAbs)) / (↑(numW (digits (2 ^ (if 200 <
     n then 200 else n).toNat)).length (digits (2 ^ (if 200 < n then 200 else n).toNat))) : Int)).natAbs).length (digits (sgn (decide (a < 0)) (numW (digits a.natAbs).length (digits a.natAbs)) / (↑(numW
     (digits (2 ^ (if 200 < n then 200 else n).toNat)).length (digits (2 ^ (if 200 < n then 200 else n).toNat))) : Int)).natAbs))) then some (Res.ret (Value.bool false) []) else bif decide (a < l) then bif
     (if a < l then l else if a > m then m else a) == l then some (Res.ret (Value.bool true) []) else some (Res.ret (Value.bool false) []) else bif decide (a > m) then bif (if a < l then l else if a > m
     then m else a) == m then some (Res.ret (Value.bool true) []) else some (Res.ret (Value.bool false) []) else bif (if a < l then l else if a > m then m else a) == a then some (Res.ret (Value.bool true)
     []) else some (Res.ret (Value.bool false) []) else none else none else none else none else none) := by kernel_rfl
--CFEND
end Go.Proofs.Ytfgehfnlkakioaa.VC

/- SatOver, SatShifts: the laws hold. -/
namespace Go.Proofs.Ytfgehfnlkakioaa.VC
open Go Go.Proofs

theorem law3 {a b d : Int} : fnK Try.prog S3 noL Try.f3 [w63 a, w63 b, w63 d] [] = some (.ret (.bool true) []) := by
  rw [cf3]
  simp only [condT, condF, beq_self_eq_true]

theorem pow_ge {k m : Nat} (h : m ≤ k) : ∃ P : Nat, (2 : Int) ^ k = (P : Int) ∧ 2 ^ m ≤ P ∧ P = 2 ^ k := ⟨2 ^ k, by rw [Int.natCast_pow]; rfl, Nat.pow_le_pow_right (by decide) h, rfl⟩

theorem big_hold (a : Int) {k : Nat} (hk : 64 ≤ k) : hold (a * 2 ^ k) = if a < 0 then -9223372036854775808 else if a = 0 then 0 else 9223372036854775807 := by
  obtain ⟨P, e, hP, _⟩ := pow_ge hk
  rw [e]
  have hP : 18446744073709551616 ≤ P := hP
  unfold hold
  by_cases h : a < 0
  · have : a * (P : Int) ≤ -1 * (P : Int) := Int.mul_le_mul_of_nonneg_right (by omega) (by omega)
    rw [if_pos h, if_pos (by omega)]
  · rw [if_neg h]
    by_cases h2 : a = 0
    · subst h2; rw [Int.zero_mul]; rfl
    · have : 1 * (P : Int) ≤ a * (P : Int) := Int.mul_le_mul_of_nonneg_right (by omega) (by omega)
      rw [if_neg h2, if_neg (by omega), if_pos (by omega)]

theorem big_shr {a : Int} (ha : -9223372036854775808 ≤ a ∧ a ≤ 9223372036854775807) {k : Nat} (hk : 63 ≤ k) : a / 2 ^ k = if a < 0 then -1 else 0 := by
  obtain ⟨P, e, hP, _⟩ := pow_ge hk
  rw [e]
  have hP : 9223372036854775808 ≤ P := hP
  by_cases h : a < 0
  · rw [if_pos h, show a = (a + P) + (P : Int) * (-1) by omega, Int.add_mul_ediv_left _ _ (by omega), Int.ediv_eq_zero_of_lt (by omega) (by omega)]; rfl
  · rw [if_neg h, Int.ediv_eq_zero_of_lt (by omega) (by omega)]

theorem law5 {a n l m : Int} (ha : -9223372036854775808 ≤ a ∧ a ≤ 9223372036854775807) (hn : 0 ≤ n ∧ n ≤ 18446744073709551615) : fnK Try.prog S5 noL Try.f5 [w63 a, w64 n, w63 l, w63 m] [] = some (.ret (.bool true) []) := by
  have hN : ∃ N : Nat, (if 200 < n then 200 else n) = (N : Int) ∧ N = min n.toNat 200 := by
    by_cases h : 200 < n
    · exact ⟨200, by rw [if_pos h]; rfl, by omega⟩
    · exact ⟨n.toNat, by rw [if_neg h]; omega, by omega⟩
  obtain ⟨N, e, eN⟩ := hN
  have hN200 : N ≤ 200 := by omega
  have p8 : BB ^ 8 = 2 ^ 256 := by rw [show BB = 2 ^ 32 from rfl, ← Nat.pow_mul]
  have p4 : BB ^ 4 = 340282366920938463463374607431768211456 := rfl
  have pp : 2 ^ N < BB ^ 8 := by rw [p8]; exact Nat.pow_lt_pow_right (by decide) (by omega)
  have p0 : 0 < 2 ^ N := Nat.pow_pos (by decide)
  have small : ∀ {v : Nat}, v < BB ^ 12 → normB (digits v).length (digits v) = true := fun h => normB_le h (by decide)
  have len : ∀ {v : Nat}, v < BB ^ 12 → (digits v).length.ble 400000 = true := fun h => ble_t (Nat.le_trans (digits_len_le h) (by decide))
  have len9 : ∀ {v : Nat}, v < BB ^ 12 → (digits v).length.ble 399999 = true := fun h => ble_t (Nat.le_trans (digits_len_le h) (by decide))
  have p12 : BB ^ 12 = BB ^ 4 * BB ^ 8 := by rw [← Nat.pow_add]
  have a12 : a.natAbs < BB ^ 12 := Nat.lt_of_lt_of_le (show a.natAbs < BB ^ 4 by rw [p4]; omega) (Nat.pow_le_pow_right (by decide) (by decide))
  have n12 : 2 ^ N < BB ^ 12 := Nat.lt_of_lt_of_le pp (Nat.pow_le_pow_right (by decide) (by decide))
  have m12 : (a * sgn false (2 ^ N)).natAbs < BB ^ 12 := by
    rw [Int.natAbs_mul, sgn_abs, p12]
    exact Nat.lt_of_le_of_lt (Nat.mul_le_mul_right _ (show a.natAbs ≤ BB ^ 4 by rw [p4]; omega)) (Nat.mul_lt_mul_of_pos_left pp (Nat.pow_pos (by decide)))
  have d12 : (a / ((2 ^ N : Nat) : Int)).natAbs < BB ^ 12 := Nat.lt_of_le_of_lt (div_abs_le p0) a12
  rw [cf5]
  simp only [e, Int.toNat_natCast, numW_digits, sgn_self, small a12, small n12, small m12, small d12, len a12, len n12, len9 a12, len9 n12, ble_t (Nat.le_refl _), blt_t p0, dec_t (show (0 : Int) ≤ (N : Int) by omega), dec_t (show (N : Int) ≤ 1000 by omega), Bool.and_self, condT]
  have h1 : hold (a * 2 ^ n.toNat) = hold (a * sgn false (2 ^ N)) := by
    have e2 : sgn false (2 ^ N) = (2 : Int) ^ N := by unfold sgn; rw [condF, Int.natCast_pow]; rfl
    rw [e2]
    by_cases h : n.toNat ≤ 200
    · rw [show n.toNat = N by omega]
    · rw [big_hold a (show 64 ≤ n.toNat by omega), big_hold a (show 64 ≤ N by omega)]
  have h2 : a / 2 ^ (min n 63).toNat = hold (a / ((2 ^ N : Nat) : Int)) := by
    have e2 : ((2 ^ N : Nat) : Int) = (2 : Int) ^ N := by rw [Int.natCast_pow]; rfl
    rw [e2]
    by_cases h : N ≤ 63
    · rw [show (min n 63).toNat = N by omega, hold_id]
      have := div_abs_le (z := a) p0
      rw [e2] at this
      have hneg : a < 0 → a / (2 : Int) ^ N < 0 := fun h => Int.ediv_neg_of_neg_of_pos h (by rw [← e2]; omega)
      omega
    · rw [show (min n 63).toNat = 63 by omega, big_shr ha (Nat.le_refl 63), big_shr ha (show 63 ≤ N by omega)]
      split <;> rfl
  rw [h1, h2, bne_self_eq_false, bne_self_eq_false]
  simp only [condF]
  refine dc (fun c => ?_) (fun c => dc (fun c2 => ?_) (fun c2 => ?_))
  · rw [if_pos c, beq_self_eq_true, condT]
  · rw [if_neg c, if_pos c2, beq_self_eq_true, condT]
  · rw [if_neg c, if_neg c2, beq_self_eq_true, condT]

def F3 : FSpec := fun args h k => match args, h with
  | [.int .i64 _, .int .i64 _, .int .i64 _], [] => k (.bool true) []
  | _, _ => none
theorem ok3 : EntryOK Try.prog 3 F3 := by
  refine EntryOK.of_fn S3_ok follows_ok Try.func3 (by kernel_rfl) (by kernel_rfl) ?_
  intro args h k out hF
  unfold F3 at hF
  split at hF
  · exact ⟨_, _, hF, fun _ => ⟨noL, noL_ok, law3⟩⟩
  · cases hF
def F5 : FSpec := fun args h k => match args, h with
  | [.int .i64 _, .int .u64 _, .int .i64 _, .int .i64 _], [] => k (.bool true) []
  | _, _ => none
theorem ok5 : EntryOK Try.prog 5 F5 := by
  refine EntryOK.of_fn S5_ok follows_ok Try.func5 (by kernel_rfl) (by kernel_rfl) ?_
  intro args h k out hF
  unfold F5 at hF
  split at hF
  · exact ⟨_, _, hF, fun real => ⟨noL, noL_ok, law5 (i64r real 0 rfl) (u64r real 1 rfl)⟩⟩
  · cases hF
end Go.Proofs.Ytfgehfnlkakioaa.VC

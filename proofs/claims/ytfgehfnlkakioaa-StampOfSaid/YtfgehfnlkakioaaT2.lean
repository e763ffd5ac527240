/- stamp, and the document's answer for it: the functions. -/
import Derived.Test.YtfgehfnlkakioaaT1
import Derived.Test.YtfgehfnlkakioaaL3
namespace Go.Proofs.Ytfgehfnlkakioaa.VC
open Go Go.Proofs

/-- Sizes below 2^128. -/
theorem nb4 {v : Nat} (h : v < 340282366920938463463374607431768211456) : normB (digits v).length (digits v) = true := small128 h
theorem lb4 {v : Nat} (h : v < 340282366920938463463374607431768211456) : (digits v).length.ble (OfNat.ofNat 400000) = true := len128 h
theorem lb4' {v : Nat} (h : v < 340282366920938463463374607431768211456) : (digits v).length.ble (OfNat.ofNat 399999) = true := ble_t (b := 399999) (Nat.le_trans (digits_len_le (k := 4) h) (by decide))
theorem wb4 {v : Nat} (h : v < 340282366920938463463374607431768211456) : wordsB (digits v).length (digits v) = true := wordsB_norm (small128 h)
theorem ble_self (n : Nat) : n.ble n = true := ble_t (Nat.le_refl n)
theorem wi32e (x : Int) : IntKind.i32.wrap x = (x + 2147483648) % 4294967296 - 2147483648 := by
  simp only [IntKind.wrap, IntKind.signed, IntKind.bits]
  simp
  omega
theorem wu32e (x : Int) : IntKind.u32.wrap x = x % 4294967296 := by
  simp only [IntKind.wrap, IntKind.signed, IntKind.bits]
  simp

theorem S76_ok : SpecOK Try.prog S76 := mkS_cons ok92 (mkS_nil _)
theorem ok76 : EntryOK Try.prog 76 F76 := by
  refine EntryOK.of_fn S76_ok follows_ok Try.func76 (by kernel_rfl) (by kernel_rfl) ?_
  intro args h k out hF
  unfold F76 at hF
  split at hF
  · rename_i s n c t m d n1 xs m1 ys
    obtain ⟨hb, hF2⟩ := bif_t hF
    simp only [Bool.and_eq_true] at hb
    obtain ⟨⟨⟨⟨⟨hx, hy⟩, hn⟩, hm⟩, hs⟩, ht⟩ := hb
    have hs := chk_iff.1 hs
    have ht := chk_iff.1 ht
    refine ⟨_, _, hF2, fun _ => ⟨noL, noL_ok, ?_⟩⟩
    rw [cf76, hx, hy, hn, hm]
    have put : ∀ {x y : Int}, x = y → some (Res.ret (.int .i64 x) [wb n1 xs, wb m1 ys]) = some (Res.ret (.int .i64 y) [wb n1 xs, wb m1 ys]) := fun e => by rw [e]
    unfold cmpI cmpZ sgn
    cases s <;> cases t <;> simp only [condT, condF, Bool.not_true, Bool.not_false, Bool.and_self] <;> refine put ?_
    · repeat' split
      all_goals omega
    · have := ht rfl; repeat' split
      all_goals omega
    · have := hs rfl; repeat' split
      all_goals omega
    · repeat' split
      all_goals omega
  · cases hF
theorem S98_ok : SpecOK Try.prog S98 := mkS_cons ok31 (mkS_nil _)
theorem ok98 : EntryOK Try.prog 98 F31 := by
  refine EntryOK.of_fn S98_ok follows_ok Try.func98 (by kernel_rfl) (by kernel_rfl) ?_
  intro args h k out hF
  unfold F31 at hF
  split at hF
  · rename_i s n c n1 xs
    obtain ⟨hb, hF2⟩ := bif_t hF
    exact ⟨_, _, hF2, fun _ => ⟨noL, noL_ok, by rw [cf98, hb, condT]⟩⟩
  · cases hF
theorem S99_ok : SpecOK Try.prog S99 := mkS_cons ok27 (mkS_cons ok28 (mkS_cons ok29 (mkS_cons ok98 (mkS_nil _))))
theorem nb232 : normB 2 (digits 4294967296) = true := normB_digits (v := 4294967296) (by decide)
theorem ok99 : EntryOK Try.prog 99 F99 := by
  refine EntryOK.of_fn S99_ok follows_ok Try.func99 (by kernel_rfl) (by kernel_rfl) ?_
  intro args h k out hF
  unfold F99 at hF
  split at hF
  · rename_i a
    refine ⟨_, _, hF, fun real => ⟨noL, noL_ok, ?_⟩⟩
    have ha := i64r real 0 rfl
    rw [cf99]
    simp (disch := omega) only [numW_digits, sgn_self, nb4, lb4', nb232, ble_self, Bool.and_self, condT]
    rw [hold_id (by omega), hold_id (by omega)]
  · cases hF
theorem S100_ok : SpecOK Try.prog S100 := mkS_cons ok29 (mkS_cons ok36 (mkS_nil _))
theorem ok100 : EntryOK Try.prog 100 F100 := by
  refine EntryOK.of_fn S100_ok follows_ok Try.func100 (by kernel_rfl) (by kernel_rfl) ?_
  intro args h k out hF
  unfold F100 at hF
  split at hF
  · rename_i s n c p n1 xs
    obtain ⟨hb, hF2⟩ := bif_t hF
    simp only [Bool.and_eq_true] at hb
    obtain ⟨⟨hx, hn⟩, hn4⟩ := hb
    refine ⟨_, _, hF2, fun real => ⟨noL, noL_ok, ?_⟩⟩
    have ha := i64r real 1 rfl
    rw [cf100, show n.ble (OfNat.ofNat 400000) = true from hn4, hx, hn]
    simp (disch := omega) only [numW_digits, sgn_self, nb4, lb4, ble_self, Bool.and_self, condT]
  · cases hF
theorem ok97 : EntryOK Try.prog 97 F97 := by
  refine EntryOK.of_fn (mkS_nil _) follows_ok Try.func97 (by kernel_rfl) (by kernel_rfl) ?_
  intro args h k out hF
  unfold F97 at hF
  split at hF
  · exact ⟨_, _, hF, fun _ => ⟨noL, noL_ok, cf97 _ _⟩⟩
  · cases hF

/-- The second near a pivot whose low half is told. -/
def nearZ (p low : Int) : Int :=
  let s := p + ((low - p + 2147483648) % 4294967296 - 2147483648)
  if s > 9223372036854775807 then s - 4294967296 else if s < -9223372036854775808 then s + 4294967296 else s
def nsZ (f : Int) : Int := if 999999999 < upI f 1000000000 4294967296 then 999999999 else upI f 1000000000 4294967296
def F39 : FSpec := fun args h k => match args, h with
  | [.int .u64 a, .int .i64 p], [] => k (.tuple ⟨[w63 (nearZ p (a / 4294967296)), w63 (nsZ (a % 4294967296))]⟩) []
  | _, _ => none
theorem S39_ok : SpecOK Try.prog S39 := mkS_cons ok21 (mkS_cons ok97 (mkS_nil _))
theorem ok39 : EntryOK Try.prog 39 F39 := by
  refine EntryOK.of_fn S39_ok follows_ok Try.func39 (by kernel_rfl) (by kernel_rfl) ?_
  intro args h k out hF
  unfold F39 at hF
  split at hF
  · rename_i a p
    refine ⟨_, _, hF, fun real => ⟨noL, noL_ok, ?_⟩⟩
    have ha := u64r real 0 rfl
    have hp := i64r real 1 rfl
    have e1 : IntKind.i64.wrap (IntKind.u32.wrap a) = a % 4294967296 := by rw [wu32e, wi64e]; omega
    have e2 : IntKind.u32.wrap (IntKind.i64.wrap (a.fdiv 4294967296)) = a / 4294967296 := by rw [fd32, wi64e, wu32e]; omega
    have e3 : IntKind.i32.wrap (IntKind.u32.wrap (a / 4294967296 - IntKind.u32.wrap p)) = (a / 4294967296 - p + 2147483648) % 4294967296 - 2147483648 := by rw [wu32e, wu32e, wi32e]; omega
    rw [cf39, e1, e2, e3]
    unfold nearZ nsZ
    have put : ∀ {x y z : Int}, x = y → some (Res.ret (.tuple ⟨[w63 x, w63 z]⟩) []) = some (Res.ret (.tuple ⟨[w63 y, w63 z]⟩) []) := fun e => by rw [e]
    generalize hoff : (a / 4294967296 - p + 2147483648) % 4294967296 - 2147483648 = off
    have ho : -2147483648 ≤ off ∧ off ≤ 2147483647 := by omega
    rw [swrap (x := off) (by omega) (by omega)]
    simp only [wi64e]
    refine dc (fun c1 => dc (fun c2 => put ?_) (fun c2 => dc (fun c3 => ?_) (fun c3 => put ?_))) (fun c1 => dc (fun c3 => dc (fun c4 => put ?_) (fun c4 => put ?_)) (fun c3 => put ?_))
    all_goals first
      | omega
      | (repeat' split) <;> omega
  · cases hF
end Go.Proofs.Ytfgehfnlkakioaa.VC

/- PacketControl: bit, filled, bytes.Clone. -/
import Derived.Test.YtidhpjgebbimdaaDoorK2
namespace Go.Proofs.YtidhpjgebbimdaaDoor.VC
open Go Go.Proofs

def FBit : FSpec := fun args h k => match args, h with
  | [.bool b, .int .u8 n], [] => k (u8v (bif b then n else 0)) []
  | _, _ => none
--CP pBit (n) :: fnK Tryd.prog (mkS []) noL Tryd.f10 [.bool true, u8v n] []
theorem pBit (n) : fnK Tryd.prog (mkS []) noL Tryd.f10 [.bool true, u8v n] [] =
     (some (Res.ret (Value.int IntKind.u8 n) [])) :=
  Eq.trans (by kernel_rfl) rfl
--CFEND
--CP pBit0 (n) :: fnK Tryd.prog (mkS []) noL Tryd.f10 [.bool false, u8v n] []
theorem pBit0 (n) : fnK Tryd.prog (mkS []) noL Tryd.f10 [.bool false, u8v n] [] =
     (some (Res.ret (Value.int IntKind.u8 (0 : Int)) [])) :=
  Eq.trans (by kernel_rfl) rfl
--CFEND
theorem okBit : EntryOK Tryd.prog 10 FBit := by
  refine EntryOK.of_paths (fn := Tryd.f10) follows_ok Tryd.func10 (by kernel_rfl) (by kernel_rfl) ?_
  intro args h k out hF
  unfold FBit at hF
  split at hF
  · rename_i b n
    cases b with
    | true => exact ⟨_, _, hF, fun _ => ⟨_, noL, mk0, noL_ok, pBit _⟩⟩
    | false => exact ⟨_, _, hF, fun _ => ⟨_, noL, mk0, noL_ok, pBit0 _⟩⟩
  · cases hF
/-- A multiple of four, not less. -/
def up4 (n : Nat) : Nat := (n + 3) / 4 * 4
theorem andNot3 {a : Nat} (h : a < 1099511627776) : bits .andNot .i64 (a : Int) 3 = ((a / 4 * 4 : Nat) : Int) := by
  have key : (BitVec.ofInt 64 (a : Int) &&& ~~~BitVec.ofInt 64 3).toNat = a / 4 * 4 := by
    rw [BitVec.toNat_and, BitVec.toNat_not, BitVec.ofInt_natCast, BitVec.toNat_ofNat, Nat.mod_eq_of_lt (by omega)]
    show a &&& (2 ^ 64 - (3 + 1)) = a / 2 ^ 2 * 2 ^ 2
    refine Nat.eq_of_testBit_eq fun i => ?_
    rw [Nat.testBit_and, Nat.testBit_two_pow_sub_succ (by decide), Nat.mul_comm, Nat.testBit_two_pow_mul, Nat.testBit_div_two_pow]
    have h3 : Nat.testBit 3 i = decide (i < 2) := Nat.testBit_two_pow_sub_one 2 i
    rw [h3]
    by_cases h64 : i < 64
    · by_cases h2 : i < 2
      · have : ¬ i ≥ 2 := by omega
        simp [h2, this]
      · have h2' : i ≥ 2 := by omega
        rw [show i - 2 + 2 = i by omega]
        simp [h64, h2, h2']
    · have : a.testBit i = false := Nat.testBit_lt_two_pow (Nat.lt_of_lt_of_le h (by
        calc 1099511627776 ≤ 2 ^ 64 := by decide
          _ ≤ 2 ^ i := Nat.pow_le_pow_right (by decide) (by omega)))
      rw [this]
      by_cases h2 : i ≥ 2
      · rw [show i - 2 + 2 = i by omega, this]; simp
      · omega
  show IntKind.i64.wrap ((BitVec.ofInt 64 (a : Int) &&& ~~~BitVec.ofInt 64 3).toNat : Int) = _
  rw [key, swrap (by omega) (by omega)]
--CF cfFill (n) :: fnK Tryd.prog (mkS []) noL Tryd.f12 [w63 n] []
theorem cfFill (n) : fnK Tryd.prog (mkS []) noL Tryd.f12 [w63 n] [] =
     (some (Res.ret (Value.int IntKind.i64 (bits BinOp.andNot IntKind.i64 (IntKind.i64.wrap (n + 3)) 3)) [])) := by kernel_rfl
--CFEND
noncomputable def FFil : FSpec := fun args h k => match args, h with
  | [.int .i64 n], [] => bif chk (0 ≤ n ∧ n ≤ 1000000) then k (w63 (up4 n.toNat : Nat)) [] else none
  | _, _ => none
theorem okFil : EntryOK Tryd.prog 12 FFil := by
  refine EntryOK.of_paths (fn := Tryd.f12) follows_ok Tryd.func12 (by kernel_rfl) (by kernel_rfl) ?_
  intro args h k out hF
  unfold FFil at hF
  split at hF
  · rename_i n
    obtain ⟨hb, hF2⟩ := bif_t hF
    obtain ⟨h1, h2⟩ := chk_iff.1 hb
    refine ⟨_, _, hF2, fun _ => ⟨_, noL, mk0, noL_ok, (cfFill n).trans ?_⟩⟩
    obtain ⟨m, rfl⟩ := Int.eq_ofNat_of_zero_le h1
    rw [swrap (by omega) (by omega), show (m : Int) + 3 = ((m + 3 : Nat) : Int) by omega, andNot3 (by omega)]
    rfl
  · cases hF
--CF cfCl0 (N : Nat) (xs : List Int) :: fnK Tryd.prog (mkS []) noL Tryd.f16 [.slice none 0 0] [rU N xs]
theorem cfCl0 (N : Nat) (xs : List Int) : fnK Tryd.prog (mkS []) noL Tryd.f16 [.slice none 0 0] [rU N xs] =
     (some (Res.ret (Value.slice none 0 0) [some (Blk.mk false 1 [Seg.ints IntKind.u8 N xs])])) := by kernel_rfl
--CFEND
--CF cfClN (N : Nat) (xs : List Int) :: fnK Tryd.prog (mkS []) noL Tryd.f16 [.slice (some ⟨0, 0, some 0⟩) 0 0] [rU N xs]
theorem cfClN (N : Nat) (xs : List Int) : fnK Tryd.prog (mkS []) noL Tryd.f16 [.slice (some ⟨0, 0, some 0⟩) 0 0] [rU N xs] =
     (some (Res.ret (Value.slice (some (Addr.mk 1 0 none)) 0 0) [some (Blk.mk false 1 [Seg.ints IntKind.u8 N xs]), some (Blk.mk true 1 [])])) := by kernel_rfl
--CFEND
--CP pClone (o n c N : Nat) (xs : List Int) :: fnK Tryd.prog (mkS []) noL Tryd.f16 [slo 0 o n c] [rU N xs]
theorem pClone (o n c N : Nat) (xs : List Int)
    (h1 : n ≠ (0 : Nat) := by first | omega | assumption | rfl)
    (h2 : o ≤ N := by first | omega | assumption | rfl)
    (h3 : n ≤ N - o := by first | omega | assumption | rfl)
    (h4 : n ≤ (140737488355328 : Nat) := by first | omega | assumption | rfl)
    (h5 : n ≤ (4611686018427387904 : Nat) := by first | omega | assumption | rfl) : fnK Tryd.prog (mkS []) noL Tryd.f16 [slo 0 o n c] [rU N xs] =
     (some (Res.ret (Value.slice (some (Addr.mk (1 : Nat) (0 : Nat) none)) n (1 : Nat)) [some (Blk.mk false (1 : Nat) [Seg.ints IntKind.u8 N xs]), some (Blk.mk true (1 : Nat) [Seg.ints IntKind.u8 n
     (List.take n (List.drop o xs))])])) :=
  Eq.trans (b :=
     bif n.beq (OfNat.ofNat (0 : Nat)) then none else bif o.ble N then bif (n * (1 : Nat)).ble (N - o) then bif decide (((0 : Nat) + n) * (1 : Nat) ≤ (140737488355328 : Nat)) && ((0 : Nat) + n).ble
     (OfNat.ofNat (4611686018427387904 : Nat)) then some (Res.ret (Value.slice (some (Addr.mk (1 : Nat) (0 : Nat) none)) ((0 : Nat) + n) (1 : Nat)) [some (Blk.mk false (1 : Nat) [Seg.ints IntKind.u8 N
     xs]), some (Blk.mk true (1 : Nat) [Seg.ints IntKind.u8 (n * (1 : Nat)) (List.take (n * (1 : Nat)) (List.drop o xs))])]) else none else none else none) (by kernel_rfl) (by simp only [-eq_self, Nat.mul_one, Nat.zero_add]; exact (go_f (beq_f h1) (go_t (ble_t h2) (go_t (ble_t h3) (go_t (and_t (dec_t h4) (ble_t h5)) rfl)))))
--CFEND
theorem call_of {S : Spec} {L : LSpec} {g : FuncId} {fn : Func} {args : List Value} {h h' : Heap} {v : Value} (hS : SpecOK Tryd.prog S) (hf : Tryd.prog.funcs[g]? = some fn) (hname : (fn.name == "runtime.NumGoroutine") = false) (hb : fn.body.isSome = true)
    (hL : LoopsOK Tryd.prog L fn.ntmps h.length (bodyOf fn)) (hk : fnK Tryd.prog S L fn args h = some (.ret v h')) : CallS Tryd.prog g args h v h' := by
  obtain ⟨v2, h2, e, hc⟩ := fnK_sound hS follows_ok hf hname (bodyOf_some hb) hL hk
  simp only [Res.ret.injEq] at e
  obtain ⟨rfl, rfl⟩ := e
  exact hc
theorem segsOK_0 : segsOK ([] : List Seg) := fun s hs => by cases hs
theorem weakCN {N : Nat} {xs : List Int} : Weak (sl 1 0 0) [rU N xs, some ⟨true, 1, []⟩] (sl 1 0 2) [rU N xs, oU 0 []] := by
  have key : ∀ (id : Nat) (b2 : Blk), ([rU N xs, oU 0 []] : Heap)[id]? = some (some b2) → ∃ b1 : Blk, ([rU N xs, some ⟨true, 1, []⟩] : Heap)[id]? = some (some b1) ∧ b1.own = b2.own ∧ b1.es = b2.es ∧ LessS b1.segs b2.segs ∧ ∀ i v, cell? b2.segs i = some v → cell? b1.segs i = some v := by
    intro id b2 h
    match id, h with
    | 0, h => exact ⟨b2, h, rfl, rfl, LessS.refl _, fun i v h => h⟩
    | 1, h =>
      cases h
      exact ⟨_, rfl, rfl, rfl, ⟨fun _ => segsOK_none, fun hm => by cases hm⟩, fun i v hv => by rw [cell_none] at hv; cases hv⟩
    | n + 2, h => simp at h
  refine ⟨fun ι base w hr => HR_cellsR hr rfl fun id b2 hb => ?_, fun _ _ _ _ _ x => x.cap2, fun ι b ⟨id, b2, l, r1, r2, r3, r4⟩ => ?_⟩
  · obtain ⟨b1, q1, q2, q3, q4, q5⟩ := key id b2 hb
    exact ⟨b1, q1, q2, q3, q4, fun i v hv => ⟨v, q5 i v hv, fun v' h => h⟩⟩
  · obtain ⟨b1, q1, q2, _⟩ := key id b2 r1
    exact ⟨id, b1, l, q1, by rw [q2]; exact r2, r3, r4⟩
noncomputable def FClone : FSpec := fun args h k => match args, h with
  | [.slice (some ⟨0, o, none⟩) n _], [some ⟨false, 1, [.ints .u8 N xs]⟩] => bif chk (o + n ≤ N ∧ N ≤ 1000000) then k (sl 1 n 2) [rU N xs, oU n ((xs.drop o).take n)] else none
  | _, _ => none
theorem okClone : EntryOK Tryd.prog 16 FClone := by
  intro args h k out hF
  unfold FClone at hF
  split at hF
  · rename_i o n c N xs
    obtain ⟨hb, hF2⟩ := bif_t hF
    obtain ⟨h1, h2⟩ := chk_iff.1 hb
    refine ⟨_, _, hF2, ?_⟩
    by_cases hn : n = 0
    · subst hn
      have c0 := call_of (fn := Tryd.f16) mk0 Tryd.func16 (by kernel_rfl) (by kernel_rfl) noL_ok (cfCl0 N xs)
      have cN := (call_of (fn := Tryd.f16) mk0 Tryd.func16 (by kernel_rfl) (by kernel_rfl) noL_ok (cfClN N xs)).weak weakCN
      intro ι base w args' hr ha
      obtain ⟨l⟩ := args'
      match l, ha with
      | [a], ha =>
        rcases ha.head.sl_inv with ⟨ad, _, rfl⟩ | ⟨lc, c', _, _, _, _, _, rfl⟩
        · cases ad with
          | none => exact (c0 ι base w _ hr (VRs.cons .slNil VRs.nil)).mono fun v' w' ⟨ι', q⟩ => ⟨ι', q.le, q.new, HR_empty q.hr segsOK_none cell_none, q.vr.nilAt, q.fr, fun b hb => q.mo b (mods_empty q.hr hb)⟩
          | some ad => exact cN ι base w _ hr (VRs.cons (.slNN ad 0) VRs.nil)
        · exact cN ι base w _ hr (VRs.cons (.slNN _ c') VRs.nil)
      | [], ha => simp [VRs] at ha
      | _ :: _ :: _, ha => simp [VRs] at ha
    · exact (call_of (fn := Tryd.f16) mk0 Tryd.func16 (by kernel_rfl) (by kernel_rfl) noL_ok (pClone o n c N xs)).weak ⟨fun _ _ _ x => x, fun _ _ _ _ _ x => x.cap2, fun _ _ x => x⟩
  · cases hF
end Go.Proofs.YtidhpjgebbimdaaDoor.VC

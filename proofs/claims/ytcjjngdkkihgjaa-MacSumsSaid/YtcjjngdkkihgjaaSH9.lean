/- SHA-256: of no bytes; the document's blocks. -/
import Derived.Test.YtcjjngdkkihgjaaSH8
namespace Go.Proofs.Ytcjjngdkkihgjaa.VC
open Go Go.Proofs

/-- A function of a slice of nothing, called with nil. -/
theorem CallS.nilArg {P : Program} {g : FuncId} {c : Nat} {v : Value} (hv : flatV v = true) (h : CallS P g [.slice (some ⟨0, 0, none⟩) 0 c] [rU 0 []] v [rU 0 []]) : CallS P g [.slice none 0 0] [] v [] := by
  intro ι base w args' hr ha
  have hok : segsOK [Seg.ints .u8 0 []] := by
    intro s hs
    simp only [List.mem_singleton] at hs
    subst hs
    exact ⟨rfl, fun x hx => by cases hx⟩
  have hr2 : HR ι base [rU 0 []] w := HR_empty (own := false) (es := 1) hr hok (fun i => by simp [cell?])
  have ha2 : VRs ι [.slice (some ⟨0, 0, none⟩) 0 c] args'.toList := by
    refine ⟨ha.1, fun i u u' hu hu' => ?_⟩
    match i with
    | 0 =>
      cases hu
      have := ha.2 0 _ u' rfl hu'
      rw [this.slNil_inv.1]
      exact .slZero none
    | i + 1 => simp at hu
  refine (h ι base w args' hr2 ha2).mono fun v' w' ⟨ι', a⟩ => ?_
  have hno : ∀ b, ¬ mods ι [rU 0 []] b := by
    rintro b ⟨id, blk, l, hh, ho, _⟩
    match id with
    | 0 => cases hh; cases ho
    | id + 1 => simp at hh
  obtain ⟨rfl, hself⟩ := flatV_VR hv a.vr
  refine ⟨ι, Map.le_refl _, fun id l hl => .inl hl, ⟨fun id blk hb => by simp at hb, fun id l hl => ?_, fun id id' blk blk' l l' hb => by simp at hb, fun id blk l hb => by simp at hb, Nat.le_trans hr.base_le a.fr.size⟩, hself ι, a.fr.mono fun b hb => (hno b hb).elim, fun b ⟨id, blk, l, hh, _⟩ _ => by simp at hh⟩
  have := (hr.dom id l hl).1
  simp at this
theorem flat_aggU (n : Nat) (L : List Int) : flatV (aggU n L) = true := by
  show ((List.range n).map fun j => (Value.int .u8 (L.getD j 0))).all leafV = true
  rw [List.all_map]
  exact List.all_eq_true.2 fun x _ => rfl
noncomputable def FSumN : FSpec := fun args h k => match args, h with
  | [.slice none 0 0], [] => k (aggU 32 (opq (sumB [] 0))) []
  | _, _ => none
theorem okSumN : EntryOK Try.prog 34 FSumN := by
  intro args h k out hF
  unfold FSumN at hF
  split at hF
  · obtain ⟨v, h', e, hc⟩ := okSum [.slice (some ⟨0, 0, none⟩) 0 2] [rU 0 []] (fun v h => some (.ret v h)) _ (by show (bif chk (0 = 0 ∧ 0 ≤ 40000) then _ else _) = _; rw [chk_iff.2 ⟨rfl, by omega⟩]; rfl)
    cases e
    exact ⟨_, _, hF, CallS.nilArg (flat_aggU _ _) hc⟩
  · cases hF
/-! ### the document's blocks -/
def liveE : List Nat := [2, 0, 3]
--CP pE (n c k : Nat) (B A : List Int) (on : List Value → Heap → Out) (out : Exit → List Value → Heap → Out) :: roundK Try.prog ((mkS []).on [(15, true)]) noL Try.f73.ntmps 1 (loopOf Try.f73 0) liveE [.slice none 0 0, slV 0 0 n c, sl 1 k 1] [rU n B, oU k A] on out
theorem pE (n c k : Nat) (B A : List Int) (on : List Value → Heap → Out) (out : Exit → List Value → Heap → Out)
    (w1 : -9223372036854775808 ≤ (↑k : Int) + (8 : Int) ∧ (↑k : Int) + (8 : Int) ≤ 9223372036854775807 := by omega)
    (h1 : ((↑k : Int) + (8 : Int)).tmod (64 : Int) ≠ (0 : Int) := by first | omega | assumption | rfl)
    (h2 : k ≤ k := by first | omega | assumption | rfl)
    (h3 : k + (1 : Nat) ≤ (140737488355328 : Nat) := by first | omega | assumption | rfl)
    (h4 : k + (1 : Nat) ≤ (4611686018427387904 : Nat) := by first | omega | assumption | rfl)
    (h5 : k = k := by first | omega | assumption | rfl) : roundK Try.prog ((mkS []).on [(15, true)]) noL Try.f73.ntmps 1 (loopOf Try.f73 0) liveE [.slice none 0 0, slV 0 0 n c, sl 1 k 1] [rU n B, oU k A] on out =
     (on [Value.slice none (0 : Nat) (0 : Nat), Value.slice (some (Addr.mk (0 : Nat) (0 : Nat) none)) n c, Value.slice (some (Addr.mk (1 : Nat) (0 : Nat) none)) (k + (1 : Nat)) (1 : Nat)] [some (Blk.mk
     false (1 : Nat) [Seg.ints IntKind.u8 n B]), some (Blk.mk true (1 : Nat) [Seg.ints IntKind.u8 (k + (1 : Nat)) (List.take k A ++ [(0 : Int)])])]) :=
  Eq.trans (b :=
     bif (IntKind.i64.wrap ((↑k : Int) + (8 : Int))).tmod (64 : Int) != (0 : Int) then bif (k * (1 : Nat)).ble k then bif decide ((k + (1 : Nat)) * (1 : Nat) ≤ (140737488355328 : Nat)) && (k + (1 :
     Nat)).ble (OfNat.ofNat (4611686018427387904 : Nat)) then bif ((0 : Nat) + k * (1 : Nat)).beq k && true then on [Value.slice none (0 : Nat) (0 : Nat), Value.slice (some (Addr.mk (0 : Nat) (0 : Nat)
     none)) n c, Value.slice (some (Addr.mk (1 : Nat) (0 : Nat) none)) (k + (1 : Nat)) (1 : Nat)] [some (Blk.mk false (1 : Nat) [Seg.ints IntKind.u8 n B]), some (Blk.mk true (1 : Nat) [Seg.ints IntKind.u8
     (k * (1 : Nat) + (1 : Nat)) (List.take (k * (1 : Nat)) A ++ [(0 : Int)])])] else none else none else none else none) (by kernel_rfl) (by simp only [-eq_self, Nat.mul_one, Nat.zero_add, swrap w1.1 w1.2]; exact (go_t (bne_t h1) (go_t (ble_t h2) (go_t (and_t (dec_t h3) (ble_t h4)) (go_t (and_t (beq_t h5) rfl) rfl)))))
--CFEND
--CP pEx (n c k : Nat) (B A : List Int) (on : List Value → Heap → Out) (out : Exit → List Value → Heap → Out) :: roundK Try.prog ((mkS []).on [(15, false)]) noL Try.f73.ntmps 1 (loopOf Try.f73 0) liveE [.slice none 0 0, slV 0 0 n c, sl 1 k 1] [rU n B, oU k A] on out
theorem pEx (n c k : Nat) (B A : List Int) (on : List Value → Heap → Out) (out : Exit → List Value → Heap → Out)
    (w1 : -9223372036854775808 ≤ (↑k : Int) + (8 : Int) ∧ (↑k : Int) + (8 : Int) ≤ 9223372036854775807 := by omega)
    (h1 : ((↑k : Int) + (8 : Int)).tmod (64 : Int) = (0 : Int) := by first | omega | assumption | rfl) : roundK Try.prog ((mkS []).on [(15, false)]) noL Try.f73.ntmps 1 (loopOf Try.f73 0) liveE [.slice none 0 0, slV 0 0 n c, sl 1 k 1] [rU n B, oU k A] on out =
     (out (Exit.exit (0 : Nat)) [Value.slice none (0 : Nat) (0 : Nat), Value.slice (some (Addr.mk (0 : Nat) (0 : Nat) none)) n c, Value.slice (some (Addr.mk (1 : Nat) (0 : Nat) none)) k (1 : Nat)] [some
     (Blk.mk false (1 : Nat) [Seg.ints IntKind.u8 n B]), some (Blk.mk true (1 : Nat) [Seg.ints IntKind.u8 k A])]) :=
  Eq.trans (b :=
     bif (IntKind.i64.wrap ((↑k : Int) + (8 : Int))).tmod (64 : Int) != (0 : Int) then none else out (Exit.exit (0 : Nat)) [Value.slice none (0 : Nat) (0 : Nat), Value.slice (some (Addr.mk (0 : Nat) (0 :
     Nat) none)) n c, Value.slice (some (Addr.mk (1 : Nat) (0 : Nat) none)) k (1 : Nat)] [some (Blk.mk false (1 : Nat) [Seg.ints IntKind.u8 n B]), some (Blk.mk true (1 : Nat) [Seg.ints IntKind.u8 k A])]) (by kernel_rfl) (by simp only [-eq_self, swrap w1.1 w1.2]; exact (go_f (bne_f h1) rfl))
--CFEND
def liveG : List Nat := [2, 3, 4, 5]
--CP pG (n k : Nat) (v i : Int) (B A : List Int) (on : List Value → Heap → Out) (out : Exit → List Value → Heap → Out) :: roundK Try.prog (STwo.on [(23, true)]) noL Try.f73.ntmps 1 (loopOf Try.f73 1) liveG [.slice none 0 0, sl 1 k 1, w63 v, w63 i] [rU n B, oU k A] on out
theorem pG (n k : Nat) (v i : Int) (B A : List Int) (on : List Value → Heap → Out) (out : Exit → List Value → Heap → Out)
    (w1 : -9223372036854775808 ≤ (8 : Int) * i ∧ (8 : Int) * i ≤ 9223372036854775807 := by omega)
    (w2 : -9223372036854775808 ≤ i - (1 : Int) ∧ i - (1 : Int) ≤ 9223372036854775807 := by omega)
    (w3 : -9223372036854775808 ≤ v.tdiv ((2 : Int) ^ ((8 : Int) * i).toNat) ∧ v.tdiv ((2 : Int) ^ ((8 : Int) * i).toNat) ≤ 9223372036854775807 := by omega)
    (h1 : i ≥ (0 : Int) := by first | omega | assumption | rfl)
    (h2 : (0 : Int) ≤ (8 : Int) * i ∧ (8 : Int) * i ≤ (62 : Int) := by first | omega | assumption | rfl | ((repeat' with_reducible apply And.intro) <;> first | rfl | assumption | omega))
    (h3 : ¬(2 : Int) ^ ((8 : Int) * i).toNat = (0 : Int) := by first | omega | assumption | rfl)
    (h4 : k ≤ k := by first | omega | assumption | rfl)
    (h5 : k + (1 : Nat) ≤ (140737488355328 : Nat) := by first | omega | assumption | rfl)
    (h6 : k + (1 : Nat) ≤ (4611686018427387904 : Nat) := by first | omega | assumption | rfl)
    (h7 : k = k := by first | omega | assumption | rfl) : roundK Try.prog (STwo.on [(23, true)]) noL Try.f73.ntmps 1 (loopOf Try.f73 1) liveG [.slice none 0 0, sl 1 k 1, w63 v, w63 i] [rU n B, oU k A] on out =
     (on [Value.slice none (0 : Nat) (0 : Nat), Value.slice (some (Addr.mk (1 : Nat) (0 : Nat) none)) (k + (1 : Nat)) (1 : Nat), Value.int IntKind.i64 v, Value.int IntKind.i64 (i - (1 : Int))] [some
     (Blk.mk false (1 : Nat) [Seg.ints IntKind.u8 n B]), some (Blk.mk true (1 : Nat) [Seg.ints IntKind.u8 (k + (1 : Nat)) (List.take k A ++ [IntKind.u8.wrap ((v.tdiv ((2 : Int) ^ ((8 : Int) *
     i).toNat)).tmod (256 : Int))])])]) :=
  Eq.trans (b :=
     bif decide (i ≥ (0 : Int)) then bif chk ((0 : Int) ≤ IntKind.i64.wrap ((8 : Int) * i) ∧ IntKind.i64.wrap ((8 : Int) * i) ≤ (62 : Int)) then bif decide ((2 : Int) ^ (IntKind.i64.wrap ((8 : Int) *
     i)).toNat = (0 : Int)) then none else bif (k * (1 : Nat)).ble k then bif decide ((k + (1 : Nat)) * (1 : Nat) ≤ (140737488355328 : Nat)) && (k + (1 : Nat)).ble (OfNat.ofNat (4611686018427387904 : Nat))
     then bif ((0 : Nat) + k * (1 : Nat)).beq k && true then on [Value.slice none (0 : Nat) (0 : Nat), Value.slice (some (Addr.mk (1 : Nat) (0 : Nat) none)) (k + (1 : Nat)) (1 : Nat), Value.int IntKind.i64
     v, Value.int IntKind.i64 (IntKind.i64.wrap (i - (1 : Int)))] [some (Blk.mk false (1 : Nat) [Seg.ints IntKind.u8 n B]), some (Blk.mk true (1 : Nat) [Seg.ints IntKind.u8 (k * (1 : Nat) + (1 : Nat))
     (List.take (k * (1 : Nat)) A ++ [IntKind.u8.wrap ((IntKind.i64.wrap (v.tdiv ((2 : Int) ^ (IntKind.i64.wrap ((8 : Int) * i)).toNat))).tmod (256 : Int))])])] else none else none else none else none else
     none) (by kernel_rfl) (by simp only [-eq_self, Nat.mul_one, Nat.zero_add, swrap w1.1 w1.2, swrap w2.1 w2.2, swrap w3.1 w3.2]; exact (go_t (dec_t h1) (go_t (chk_t h2) (go_f (dec_f h3) (go_t (ble_t h4) (go_t (and_t (dec_t h5) (ble_t h6)) (go_t (and_t (beq_t h7) rfl) rfl)))))))
--CFEND
--CP pGx (n k : Nat) (v i : Int) (B A : List Int) (on : List Value → Heap → Out) (out : Exit → List Value → Heap → Out) :: roundK Try.prog (STwo.on [(23, false)]) noL Try.f73.ntmps 1 (loopOf Try.f73 1) liveG [.slice none 0 0, sl 1 k 1, w63 v, w63 i] [rU n B, oU k A] on out
theorem pGx (n k : Nat) (v i : Int) (B A : List Int) (on : List Value → Heap → Out) (out : Exit → List Value → Heap → Out)
    (h1 : ¬i ≥ (0 : Int) := by first | omega | assumption | rfl) : roundK Try.prog (STwo.on [(23, false)]) noL Try.f73.ntmps 1 (loopOf Try.f73 1) liveG [.slice none 0 0, sl 1 k 1, w63 v, w63 i] [rU n B, oU k A] on out =
     (out (Exit.exit (2 : Nat)) [Value.slice none (0 : Nat) (0 : Nat), Value.slice (some (Addr.mk (1 : Nat) (0 : Nat) none)) k (1 : Nat), Value.int IntKind.i64 v, Value.int IntKind.i64 i] [some (Blk.mk
     false (1 : Nat) [Seg.ints IntKind.u8 n B]), some (Blk.mk true (1 : Nat) [Seg.ints IntKind.u8 k A])]) :=
  Eq.trans (by kernel_rfl) (go_f (dec_f h1) rfl)
--CFEND
theorem loopE (n c : Nat) (B : List Int) : ∀ (m k : Nat) (A : List Int), A.length = k → zc k = m → k + m ≤ 100000 →
    LoopT Try.prog Try.f73.ntmps 1 (loopOf Try.f73 0) (zipS liveE [.slice none 0 0, slV 0 0 n c, sl 1 k 1]) [rU n B, oU k A] (.exit 0) (zipS liveE [.slice none 0 0, slV 0 0 n c, sl 1 (k + m) 1]) [rU n B, oU (k + m) (A ++ List.replicate m 0)] := by
  intro m
  induction m with
  | zero =>
    intro k A hA hz hk
    rw [List.replicate_zero, List.append_nil]
    have e : ((k : Int) + 8).tmod 64 = 0 := by rw [Int.tmod_eq_emod_of_nonneg (by omega)]; unfold zc at hz; omega
    exact LoopT.last (by simp) (CodeT.out (S := (mkS []).on [(15, false)]) mk0 noL_ok (fun on out => pEx n c k B A on out (by omega) e))
  | succ m ih =>
    intro k A hA hz hk
    have hl := ih (k + 1) (A ++ [0]) (by simp [hA]) (by unfold zc at *; omega) (by omega)
    rw [List.append_assoc, show [(0 : Int)] ++ List.replicate m 0 = List.replicate (m + 1) 0 from rfl, show k + 1 + m = k + (m + 1) by omega] at hl
    have e : ((k : Int) + 8).tmod 64 ≠ 0 := by rw [Int.tmod_eq_emod_of_nonneg (by omega)]; unfold zc at hz; omega
    refine LoopT.step (CodeT.on (S := (mkS []).on [(15, true)]) mk0 noL_ok (fun on out => ?_)) hl
    rw [pE n c k B A on out (by omega) e (by omega) (by omega) (by omega) rfl, List.take_of_length_le (by omega)]
theorem loopG (n : Nat) (v : Int) (B : List Int) (hv : 0 ≤ v) (hv2 : v ≤ 4611686018427387904) : ∀ (m i k : Nat) (A : List Int), i + m = 8 → A.length = k → k + m ≤ 100000 →
    LoopT Try.prog Try.f73.ntmps 1 (loopOf Try.f73 1) (zipS liveG [.slice none 0 0, sl 1 k 1, w63 v, w63 (7 - (i : Int))]) [rU n B, oU k A] (.exit 2) (zipS liveG [.slice none 0 0, sl 1 (k + m) 1, w63 v, w63 (-1)]) [rU n B, oU (k + m) (A ++ byF v m i)] := by
  intro m
  induction m with
  | zero =>
    intro i k A hi hA hk
    obtain rfl : i = 8 := hi
    rw [byF, List.append_nil]
    exact LoopT.last (by simp) (CodeT.out (S := STwo.on [(23, false)]) STwo_ok noL_ok (fun on out => pGx n k v _ B A on out (by omega)))
  | succ m ih =>
    intro i k A hi hA hk
    have hl := ih (i + 1) (k + 1) (A ++ [v / 2 ^ (56 - 8 * i) % 256]) (by omega) (by simp [hA]) (by omega)
    rw [List.append_assoc, show [v / 2 ^ (56 - 8 * i) % 256] ++ byF v m (i + 1) = byF v (m + 1) i from rfl, show k + 1 + m = k + (m + 1) by omega, show 7 - (((i + 1 : Nat)) : Int) = 7 - (i : Int) - 1 by omega] at hl
    refine LoopT.step (CodeT.on (S := STwo.on [(23, true)]) STwo_ok noL_ok (fun on out => ?_)) hl
    have e0 : (8 * (7 - (i : Int))).toNat = 56 - 8 * i := by omega
    have hp := pow_le62 (n := 56 - 8 * i) (by omega)
    have e1 : v.tdiv (2 ^ (56 - 8 * i)) = v / 2 ^ (56 - 8 * i) := Int.tdiv_eq_ediv_of_nonneg hv
    have h0 : 0 ≤ v / 2 ^ (56 - 8 * i) := Int.ediv_nonneg hv (by omega)
    have h1 : v / 2 ^ (56 - 8 * i) ≤ v := Int.ediv_le_self _ hv
    have e2 : (v / 2 ^ (56 - 8 * i)).tmod 256 = v / 2 ^ (56 - 8 * i) % 256 := Int.tmod_eq_emod_of_nonneg h0
    have p := @pG n k v (7 - (i : Int)) B A on out
    simp only [autoParam, e0, e1, e2] at p
    rw [p (by omega) (by omega) (by omega) (by omega) (by omega) (by omega) (by omega) (by omega) (by omega) trivial, List.take_of_length_le (by omega), wrap_u8, Int.emod_emod_of_dvd _ (Int.dvd_refl _)]
noncomputable def LEf : LF := fun vs h k => match vs, h with
  | [.slice none 0 0, .slice (some ⟨0, 0, none⟩) n c, .slice (some ⟨1, 0, none⟩) m 1], [some ⟨false, 1, [.ints .u8 n2 B]⟩, some ⟨true, 1, [.ints .u8 m2 A]⟩] =>
    bif chk (n2 = n ∧ m2 = m ∧ m ≤ 50000) then k (.exit 0) [.slice none 0 0, slV 0 0 n c, sl 1 (m + zc m) 1] [rU n B, oU (m + zc m) (A ++ List.replicate (zc m) 0)] else none
  | _, _ => none
noncomputable def LGf : LF := fun vs h k => match vs, h with
  | [.slice none 0 0, .slice (some ⟨1, 0, none⟩) m 1, .int .i64 v, .int .i64 7], [some ⟨false, 1, [.ints .u8 n B]⟩, some ⟨true, 1, [.ints .u8 m2 A]⟩] =>
    bif chk (m2 = m ∧ m ≤ 60000 ∧ 0 ≤ v ∧ v ≤ 4611686018427387904) then k (.exit 2) [.slice none 0 0, sl 1 (m + 8) 1, w63 v, w63 (-1)] [rU n B, oU (m + 8) (opq (A ++ byF v 8 0))] else none
  | _, _ => none
theorem loopOKE : LoopOK Try.prog Try.f73.ntmps 1 (loopOf Try.f73 0) liveE LEf := by
  refine LoopOK.of_T ?_
  intro vs h k out hk
  unfold LEf at hk
  split at hk
  · obtain ⟨hb, hk2⟩ := bif_t hk
    obtain ⟨rfl, rfl, h1⟩ := chk_iff.1 hb
    refine ⟨_, _, _, hk2, fun real => ?_⟩
    have r := ((real.segs (i := 1) rfl) _ (List.mem_cons_self ..)).1
    exact loopE _ _ _ _ _ _ r rfl (by unfold zc; omega)
  · cases hk
theorem loopOKG : LoopOK Try.prog Try.f73.ntmps 1 (loopOf Try.f73 1) liveG LGf := by
  refine LoopOK.of_T ?_
  intro vs h k out hk
  unfold LGf at hk
  split at hk
  · obtain ⟨hb, hk2⟩ := bif_t hk
    obtain ⟨rfl, h1, h2, h3⟩ := chk_iff.1 hb
    refine ⟨_, _, _, hk2, fun real => ?_⟩
    have r := ((real.segs (i := 1) rfl) _ (List.mem_cons_self ..)).1
    rw [opq_eq]
    exact loopG _ _ _ h2 h3 8 0 _ _ rfl r (by omega)
  · cases hk
noncomputable def LBk : LSpec := manyL [(2, liveE, LEf), (6, liveG, LGf)]
theorem loopsBk : LoopsOK Try.prog LBk Try.f73.ntmps 1 (bodyOf Try.f73) :=
  LsOK.all (bs := [loopOf Try.f73 0, loopOf Try.f73 1]) (by kernel_rfl) (LsOK.cons (by kernel_rfl) loopOKE (LsOK.cons (by kernel_rfl) loopOKG LsOK.nil))
--CP cBlk (n c : Nat) (B : List Int) :: fnK Try.prog (mkS []) LBk Try.f73 [slV 0 0 n c] [rU n B]
theorem cBlk (n c : Nat) (B : List Int)
    (w1 : -9223372036854775808 ≤ (↑n : Int) * (8 : Int) ∧ (↑n : Int) * (8 : Int) ≤ 9223372036854775807 := by omega)
    (h1 : n ≤ n := by first | omega | assumption | rfl)
    (h2 : n ≤ (140737488355328 : Nat) := by first | omega | assumption | rfl)
    (h3 : n ≤ (4611686018427387904 : Nat) := by first | omega | assumption | rfl)
    (h4 : n + (1 : Nat) ≤ (140737488355328 : Nat) := by first | omega | assumption | rfl)
    (h5 : n + (1 : Nat) ≤ (4611686018427387904 : Nat) := by first | omega | assumption | rfl)
    (h6 : n = n := by first | omega | assumption | rfl)
    (h7 : n = n ∧ n + (1 : Nat) = n + (1 : Nat) ∧ n + (1 : Nat) ≤ (50000 : Nat) := by first | omega | assumption | rfl | ((repeat' with_reducible apply And.intro) <;> first | rfl | assumption | omega))
    (h8 : n + (1 : Nat) + zc (n + (1 : Nat)) = n + (1 : Nat) + zc (n + (1 : Nat)) ∧ n + (1 : Nat) + zc (n + (1 : Nat)) ≤ (60000 : Nat) ∧ (0 : Int) ≤ (↑n : Int) * (8 : Int) ∧ (↑n : Int) * (8 : Int) ≤ (4611686018427387904 : Int) := by first | omega | assumption | rfl | ((repeat' with_reducible apply And.intro) <;> first | rfl | assumption | omega)) : fnK Try.prog (mkS []) LBk Try.f73 [slV 0 0 n c] [rU n B] =
     (some (Res.ret (Value.slice (some (Addr.mk (1 : Nat) (0 : Nat) none)) (n + (1 : Nat) + zc (n + (1 : Nat)) + (8 : Nat)) (1 : Nat)) [some (Blk.mk false (1 : Nat) [Seg.ints IntKind.u8 n B]), some (Blk.mk
     true (1 : Nat) [Seg.ints IntKind.u8 (n + (1 : Nat) + zc (n + (1 : Nat)) + (8 : Nat)) (opq (List.take n (List.take n B) ++ [(128 : Int)] ++ List.replicate (zc (n + (1 : Nat))) (0 : Int) ++ byF ((↑n :
     Int) * (8 : Int)) (8 : Nat) (0 : Nat)))])])) :=
  Eq.trans (b :=
     bif (n * (1 : Nat)).ble n then bif decide (((0 : Nat) + n) * (1 : Nat) ≤ (140737488355328 : Nat)) && ((0 : Nat) + n).ble (OfNat.ofNat (4611686018427387904 : Nat)) then bif (((0 : Nat) + n) * (1 :
     Nat)).ble (n * (1 : Nat)) then bif decide (((0 : Nat) + n + (1 : Nat)) * (1 : Nat) ≤ (140737488355328 : Nat)) && ((0 : Nat) + n + (1 : Nat)).ble (OfNat.ofNat (4611686018427387904 : Nat)) then bif ((0
     : Nat) + ((0 : Nat) + n) * (1 : Nat)).beq (segsLen [Seg.ints IntKind.u8 (n * (1 : Nat)) (List.take (n * (1 : Nat)) B)]) && true then bif chk (n = n ∧ ((0 : Nat) + n) * (1 : Nat) + (1 : Nat) = (0 :
     Nat) + n + (1 : Nat) ∧ (0 : Nat) + n + (1 : Nat) ≤ (50000 : Nat)) then bif chk ((0 : Nat) + n + (1 : Nat) + zc ((0 : Nat) + n + (1 : Nat)) = (0 : Nat) + n + (1 : Nat) + zc ((0 : Nat) + n + (1 : Nat))
     ∧ (0 : Nat) + n + (1 : Nat) + zc ((0 : Nat) + n + (1 : Nat)) ≤ (60000 : Nat) ∧ (0 : Int) ≤ IntKind.i64.wrap ((↑n : Int) * (8 : Int)) ∧ IntKind.i64.wrap ((↑n : Int) * (8 : Int)) ≤ (4611686018427387904
     : Int)) then some (Res.ret (Value.slice (some (Addr.mk (1 : Nat) (0 : Nat) none)) ((0 : Nat) + n + (1 : Nat) + zc ((0 : Nat) + n + (1 : Nat)) + (8 : Nat)) (1 : Nat)) [some (Blk.mk false (1 : Nat)
     [Seg.ints IntKind.u8 n B]), some (Blk.mk true (1 : Nat) [Seg.ints IntKind.u8 ((0 : Nat) + n + (1 : Nat) + zc ((0 : Nat) + n + (1 : Nat)) + (8 : Nat)) (opq (List.take (((0 : Nat) + n) * (1 : Nat))
     (List.take (n * (1 : Nat)) B) ++ [(128 : Int)] ++ List.replicate (zc ((0 : Nat) + n + (1 : Nat))) (0 : Int) ++ byF (IntKind.i64.wrap ((↑n : Int) * (8 : Int))) (8 : Nat) (0 : Nat)))])]) else none else
     none else none else none else none else none else none) (by kernel_rfl) (by simp only [-eq_self, Nat.mul_one, Nat.zero_add, segsLen_one, swrap w1.1 w1.2]; exact (go_t (ble_t h1) (go_t (and_t (dec_t h2) (ble_t h3)) (go_t (ble_t h1) (go_t (and_t (dec_t h4) (ble_t h5)) (go_t (and_t (beq_t h6) rfl) (go_t (chk_t h7) (go_t (chk_t h8) rfl))))))))
--CFEND
noncomputable def FBlk : FSpec := fun args h k => match args, h with
  | [.slice (some ⟨0, 0, none⟩) n _], [some ⟨false, 1, [.ints .u8 n2 B]⟩] => bif chk (n2 = n ∧ n ≤ 40000) then k (sl 1 (n + 1 + zc (n + 1) + 8) 1) [rU n B, oU (n + 1 + zc (n + 1) + 8) (opq (padL B n))] else none
  | _, _ => none
theorem okBlk : EntryOK Try.prog 73 FBlk := by
  refine EntryOK.of_paths (fn := Try.f73) follows_ok Try.func73 (by kernel_rfl) (by kernel_rfl) ?_
  intro args h k out hF
  unfold FBlk at hF
  split at hF
  · obtain ⟨hb, hF2⟩ := bif_t hF
    obtain ⟨rfl, h1⟩ := chk_iff.1 hb
    rename_i c n B
    refine ⟨_, _, hF2, fun real => ⟨mkS [], LBk, mk0, loopsBk, ?_⟩⟩
    have hl := ((real.segs (i := 0) rfl) _ (List.mem_cons_self ..)).1
    have ez : zc (n + 1) ≤ 63 := by unfold zc; omega
    rw [cBlk n c B (by omega) (by omega) (by omega) (by omega) (by omega) (by omega) rfl ⟨rfl, rfl, by omega⟩ ⟨rfl, by omega, by omega, by omega⟩, List.take_of_length_le (l := B) (by omega), List.take_of_length_le (l := B) (by omega)]
    rfl
  · cases hF
end Go.Proofs.Ytcjjngdkkihgjaa.VC

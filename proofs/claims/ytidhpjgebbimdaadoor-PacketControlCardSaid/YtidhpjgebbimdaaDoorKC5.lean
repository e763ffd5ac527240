/- PacketControl: EncodeControl, the document's too: what they are. -/
import Derived.Test.YtidhpjgebbimdaaDoorKC4
namespace Go.Proofs.YtidhpjgebbimdaaDoor.VC
open Go Go.Proofs

/-- A control packet's second byte. -/
def ctF (t : Ct) : Int := (bif t.r then 128 else 0) + (bif t.e then 64 else 0) + (bif t.m then 32 else 0) + t.op
def hdC (t : Ct) (n : Nat) : List Int := [t.v * 8 + 6, ctF t, t.sq / 256 % 256, t.sq % 256, t.st / 256 % 256, t.st % 256, t.ac / 256 % 256, t.ac % 256, t.oc / 256 % 256, t.oc % 256, (n : Int) / 256 % 256, (n : Int) % 256]
def encC (t : Ct) (n : Nat) (xs : List Int) : List Int := padL (hdC t n ++ xs.take n) (12 + n)
structure CtR (t : Ct) : Prop where
  v : 0 ≤ t.v ∧ t.v ≤ 255
  op : 0 ≤ t.op ∧ t.op ≤ 255
  sq : 0 ≤ t.sq ∧ t.sq ≤ 65535
  st : 0 ≤ t.st ∧ t.st ≤ 65535
  ac : 0 ≤ t.ac ∧ t.ac ≤ 65535
  oc : 0 ≤ t.oc ∧ t.oc ≤ 65535
def ctOK (t : Ct) (n : Nat) : Prop := t.v ≤ 7 ∧ t.op ≤ 31 ∧ n ≤ 468
theorem real_ct {t : Ct} {d : Value} {h : Heap} (real : RealA [ctv t d] h) : CtR t :=
  ⟨real.aggI (i := 0) rfl (j := 0) rfl, real.aggI (i := 0) rfl (j := 1) rfl, real.aggI (i := 0) rfl (j := 5) rfl, real.aggI (i := 0) rfl (j := 6) rfl, real.aggI (i := 0) rfl (j := 7) rfl, real.aggI (i := 0) rfl (j := 8) rfl⟩
theorem up4_12 (n : Nat) : up4 (12 + n) = 12 + n + (up4 n - n) := by unfold up4; omega
theorem up4_le (n : Nat) : n ≤ up4 n := by unfold up4; omega
theorem orOp {h op : Int} (h0 : 0 ≤ h) (h7 : h ≤ 7) (o0 : 0 ≤ op) (o1 : op ≤ 31) : bits .or .u8 (h * 32) op = h * 32 + op :=
  bits_up .u8 rfl (h := h) (c := op) 5 h0 o0 (by show h * 32 < 256; omega) (by show op < 32; omega) (by decide)
theorem or_ct {t : Ct} (hr : CtR t) (ho : t.op ≤ 31) : bits .or .u8 (bits .or .u8 (bits .or .u8 (bif t.r then 128 else 0) (bif t.e then 64 else 0)) (bif t.m then 32 else 0)) t.op = ctF t := by
  unfold ctF
  have e : ∀ h : Int, 0 ≤ h → h ≤ 7 → bits .or .u8 (h * 32) t.op = h * 32 + t.op := fun h a b => orOp a b hr.op.1 ho
  cases t.r <;> cases t.e <;> cases t.m
  · exact e 0 (by decide) (by decide)
  · exact e 1 (by decide) (by decide)
  · exact e 2 (by decide) (by decide)
  · exact e 3 (by decide) (by decide)
  · exact e 4 (by decide) (by decide)
  · exact e 5 (by decide) (by decide)
  · exact e 6 (by decide) (by decide)
  · exact e 7 (by decide) (by decide)
theorem or_v {v : Int} (h0 : 0 ≤ v) (h7 : v ≤ 7) : bits .or .u8 (IntKind.u8.wrap (v * 8)) 6 = v * 8 + 6 := by
  rw [wU8, Int.emod_eq_of_lt (by omega) (by omega)]
  exact bits_up .u8 rfl (h := v) (c := 6) 3 h0 (by decide) (by show v * 8 < 256; omega) (by decide) (by decide)
theorem beB_0 (x : Int) : beB x 0 = x % 256 := by unfold beB; simp
theorem beB_1 (x : Int) : beB x 1 = x / 256 % 256 := by unfold beB; simp
theorem be_2 (x : Int) : be x 2 = [x / 256 % 256, x % 256] := by
  show [beB x 1, beB x 0] = _
  rw [beB_0, beB_1]
theorem w64s {x : Int} (h : 0 ≤ x ∧ x ≤ 65535) : IntKind.u64.wrap x = x := by rw [wU64]; omega
theorem five_eq {t : Ct} (hr : CtR t) {n : Nat} (hn : n ≤ 468) : [t.v * 8 + 6, ctF t] ++ five t.sq t.st t.ac t.oc (IntKind.u16.wrap (n : Int)) = hdC t n := by
  have e3 : IntKind.u16.wrap (n : Int) = n := by rw [wU16]; omega
  unfold five
  rw [e3, w64s hr.sq, w64s hr.st, w64s hr.ac, w64s hr.oc, w64s (x := (n : Int)) (by omega), be_2, be_2, be_2, be_2, be_2]
  rfl
theorem hdC_len (t : Ct) (n : Nat) : (hdC t n).length = 12 := rfl
noncomputable def FCt : FSpec := fun args h k => match args, h with
  | [.agg ⟨[.int .u8 v, .int .u8 op, .bool r, .bool e, .bool m, .int .u16 sq, .int .u16 st, .int .u16 ac, .int .u16 oc, .slice (some ⟨0, 0, none⟩) n _]⟩], [some ⟨false, 1, [.ints .u8 N xs]⟩] =>
    bif chk (n = N ∧ ctOK ⟨v, op, r, e, m, sq, st, ac, oc⟩ n) then k (.tuple #[sl 1 (up4 (12 + n)) 2, w63 0]) [rU N xs, oU (up4 (12 + n)) (encC ⟨v, op, r, e, m, sq, st, ac, oc⟩ n xs)] else none
  | _, _ => none
noncomputable def FCtE : FSpec := fun args h k => match args, h with
  | [.agg ⟨[.int .u8 v, .int .u8 op, .bool r, .bool e, .bool m, .int .u16 sq, .int .u16 st, .int .u16 ac, .int .u16 oc, .slice (some ⟨0, 0, none⟩) n _]⟩], [some ⟨false, 1, [.ints .u8 N xs]⟩] =>
    bif chk (n = N ∧ n ≤ 1000000 ∧ ¬ ctOK ⟨v, op, r, e, m, sq, st, ac, oc⟩ n) then k (.tuple #[.slice none 0 0, w63 2]) [rU N xs] else none
  | _, _ => none
theorem SCt_ok : SpecOK Tryd.prog SCt := mkS_cons okPut (mkS_cons okBit (mkS_cons okFil (mkS_nil _)))
theorem loopOKCt : LoopOK Tryd.prog Tryd.f5.ntmps 1 (loopOf Tryd.f5 0) liveCt LCtf := by
  refine LoopOK.of_rounds SCt_ok follows_ok (L := noL) noL_ok ?_
  intro vs h k out hk
  unfold LCtf at hk
  split at hk
  · exact ⟨_, _, _, hk, fun _ => ⟨6, pCtL ⟨_, _, _, _, _, _, _, _, _⟩ _ _ _ _ _ _ _ _ _ _ _ _⟩⟩
  · cases hk
theorem loopsCt : LoopsOK Tryd.prog LCt Tryd.f5.ntmps 1 (bodyOf Tryd.f5) := loops_one rfl (by kernel_rfl) loopOKCt
theorem weakCap {a b n : Nat} {x : Value} {h : Heap} : Weak (.tuple #[sl a n b, x]) h (.tuple #[sl a n 2, x]) h :=
  ⟨fun _ _ _ x => x, fun ι base w v' hr hv => by
    obtain ⟨cs', rfl, h1, h2⟩ := hv.tuple_inv
    refine .tuple h1 fun i u u' a b => ?_
    match i with
    | 0 => simp at a; subst a; exact (h2 0 _ u' rfl b).cap2
    | i + 1 => exact h2 (i + 1) u u' (by simpa using a) b, fun _ _ x => x⟩
theorem EntryOK.of_fn_weakS {g : FuncId} {fn : Func} (_hm : Tryd.prog.follows .mixedOrders = true) {F : FSpec} (hf : Tryd.prog.funcs[g]? = some fn) (hname : (fn.name == "runtime.NumGoroutine") = false) (hb : fn.body.isSome = true)
    (hF : ∀ (args : List Value) (h : Heap) (k : Value → Heap → Out) (out : Res), F args h k = some out → ∃ v h', k v h' = some out ∧
      (RealA args h → ∃ S L v1 h1, SpecOK Tryd.prog S ∧ LoopsOK Tryd.prog L fn.ntmps h.length (bodyOf fn) ∧ fnK Tryd.prog S L fn args h = some (.ret v1 h1) ∧ Weak v1 h1 v h')) : EntryOK Tryd.prog g F := by
  intro args h k out hk
  obtain ⟨v, h', h1, h2⟩ := hF args h k out hk
  refine ⟨v, h', h1, fun ι base w args' hr ha => ?_⟩
  obtain ⟨S, L, v1, hh1, hS, hL, hfn, hw⟩ := h2 ⟨ι, base, w, args'.toList, hr, ha⟩
  exact (call_of hS hf hname hb hL hfn).weak hw ι base w args' hr ha
theorem okCt : EntryOK Tryd.prog 5 FCt := by
  refine EntryOK.of_fn_weakS (fn := Tryd.f5) follows_ok Tryd.func5 (by kernel_rfl) (by kernel_rfl) ?_
  intro args h k out hF
  unfold FCt at hF
  split at hF
  · rename_i v op r e m sq st ac oc n c N xs
    obtain ⟨hb, hF2⟩ := bif_t hF
    obtain ⟨rfl, h1, h2, h3⟩ := chk_iff.1 hb
    refine ⟨_, _, hF2, fun real => ?_⟩
    have hr : CtR ⟨v, op, r, e, m, sq, st, ac, oc⟩ := real_ct (t := ⟨v, op, r, e, m, sq, st, ac, oc⟩) real
    have hl := (real.segs (i := 0) rfl rfl _ (List.mem_cons_self ..)).1
    have hu := up4_le n
    have hu4 : up4 n ≤ n + 3 := by unfold up4; omega
    have h1' : v ≤ 7 := h1
    have h2' : op ≤ 31 := h2
    refine ⟨_, LCt, _, _, SCt_ok.on _, loopsCt, (pCt ⟨v, op, r, e, m, sq, st, ac, oc⟩ n c n xs (h1 := by show ¬ v > 7; omega) (h2 := by show ¬ op > 31; omega) (h12 := rfl)).trans rfl, ?_⟩
    have e0 : (((up4 n : Nat) : Int) - (n : Int)).toNat = up4 n - n := by omega
    have e1 : bits .or .u8 (IntKind.u8.wrap (v * 8)) 6 = v * 8 + 6 := or_v hr.v.1 h1
    have e2 := or_ct hr h2
    have e3 := five_eq hr h3
    rw [e0, e1, e2, e3, List.take_of_length_le (l := hdC _ _) (by rw [hdC_len]; exact Nat.le_refl _), List.take_of_length_le (l := _ ++ _) (by rw [List.length_append, hdC_len, List.length_take]; omega), ← up4_12]
    have : up4 n - n = up4 (12 + n) - (12 + n) := by rw [up4_12]; omega
    rw [this]
    exact weakCap
  · cases hF
theorem okCtE : EntryOK Tryd.prog 5 FCtE := by
  refine EntryOK.of_paths (fn := Tryd.f5) follows_ok Tryd.func5 (by kernel_rfl) (by kernel_rfl) ?_
  intro args h k out hF
  unfold FCtE at hF
  split at hF
  · rename_i v op r e m sq st ac oc n c N xs
    obtain ⟨hb, hF2⟩ := bif_t hF
    obtain ⟨rfl, hn, h1⟩ := chk_iff.1 hb
    refine ⟨_, _, hF2, fun real => ?_⟩
    by_cases c1 : v > 7
    · exact ⟨_, LCt, SCt_ok.on _, loopsCt, pCtE1 ⟨v, op, r, e, m, sq, st, ac, oc⟩ n c n xs c1⟩
    by_cases c2 : op > 31
    · exact ⟨_, LCt, SCt_ok.on _, loopsCt, pCtE2 ⟨v, op, r, e, m, sq, st, ac, oc⟩ n c n xs c1 c2⟩
    by_cases c3 : (n : Int) > 468
    · exact ⟨_, LCt, SCt_ok.on _, loopsCt, pCtE3 ⟨v, op, r, e, m, sq, st, ac, oc⟩ n c n xs c1 c2 c3⟩
    exact (h1 ⟨by show v ≤ 7; omega, by show op ≤ 31; omega, by omega⟩).elim
  · cases hF
theorem okCrE : EntryOK Tryd.prog 6 FCtE := by
  refine EntryOK.of_paths (fn := Tryd.f6) follows_ok Tryd.func6 (by kernel_rfl) (by kernel_rfl) ?_
  intro args h k out hF
  unfold FCtE at hF
  split at hF
  · rename_i v op r e m sq st ac oc n c N xs
    obtain ⟨hb, hF2⟩ := bif_t hF
    obtain ⟨rfl, hn, h1⟩ := chk_iff.1 hb
    refine ⟨_, _, hF2, fun real => ?_⟩
    by_cases c1 : v > 7
    · exact ⟨_, noL, mk0.on _, noL_ok, pCrE1 ⟨v, op, r, e, m, sq, st, ac, oc⟩ n c n xs c1⟩
    by_cases c2 : op > 31
    · exact ⟨_, noL, mk0.on _, noL_ok, pCrE2 ⟨v, op, r, e, m, sq, st, ac, oc⟩ n c n xs c1 c2⟩
    by_cases c3 : (n : Int) > 468
    · exact ⟨_, noL, mk0.on _, noL_ok, pCrE3 ⟨v, op, r, e, m, sq, st, ac, oc⟩ n c n xs c1 c2 c3⟩
    exact (h1 ⟨by show v ≤ 7; omega, by show op ≤ 31; omega, by omega⟩).elim
  · cases hF
theorem padL_snoc {bs : List Int} {n : Nat} (h : n % 4 ≠ 0) : padL (bs ++ [0]) (n + 1) = padL bs n ∧ up4 (n + 1) = up4 n := by
  have e : up4 (n + 1) = up4 n := by unfold up4; omega
  have hlt : n + 1 ≤ up4 n := by unfold up4; omega
  refine ⟨?_, e⟩
  unfold padL
  rw [e, show up4 n - n = (up4 n - (n + 1)) + 1 by omega, List.replicate_succ, List.append_assoc]
  rfl
theorem loopErP {N : Nat} {xs : List Int} : ∀ (r n : Nat) (bs : List Int), n + r = up4 n → bs.length = n → up4 n ≤ 1000004 →
    LoopT Tryd.prog Tryd.f6.ntmps 1 (loopOf Tryd.f6 0) (zipS liveEr [sl 1 n 1]) [rU N xs, oU n bs] (.exit 0) (zipS liveEr [sl 1 (up4 n) 1]) [rU N xs, oU (up4 n) (padL bs n)]
  | 0, n, bs, hr, hl, hn => by
    have e : up4 n = n := by omega
    have ep : padL bs n = bs := by unfold padL; rw [e, Nat.sub_self]; simp
    rw [e, ep]
    exact LoopT.last (by intro h; cases h) (CodeT.out (mk0.on _) noL_ok fun on out => pErX n N xs bs on out (h1 := by rw [Int.tmod_eq_emod_of_nonneg (by omega)]; unfold up4 at e; omega))
  | r + 1, n, bs, hr, hl, hn => by
    have h4 : n % 4 ≠ 0 := by unfold up4 at hr; omega
    obtain ⟨e1, e2⟩ := padL_snoc (bs := bs) h4
    have hu : n + 1 ≤ up4 n := by omega
    have ih := loopErP (N := N) (xs := xs) r (n + 1) (bs ++ [0]) (by rw [e2]; omega) (by rw [List.length_append, hl]; rfl) (by rw [e2]; exact hn)
    rw [e1, e2] at ih
    refine LoopT.step (CodeT.on (live := liveEr) (vs1 := [sl 1 (n + 1) 1]) (h1 := [rU N xs, oU (n + 1) (bs ++ [0])]) (mk0.on [(87, true)]) noL_ok fun on out => ?_) ih
    refine (pErR n N xs bs on out (h1 := by rw [Int.tmod_eq_emod_of_nonneg (by omega)]; omega)).trans ?_
    rw [List.take_of_length_le (by omega)]
theorem loopOKErP : LoopOK Tryd.prog Tryd.f6.ntmps 1 (loopOf Tryd.f6 0) liveEr LErPf := by
  refine LoopOK.of_T ?_
  intro vs h k out hk
  unfold LErPf at hk
  split at hk
  · rename_i n N xs n' bs
    obtain ⟨hb, hk2⟩ := bif_t hk
    obtain ⟨rfl, h3⟩ := chk_iff.1 hb
    refine ⟨_, _, _, hk2, fun real => ?_⟩
    have hs := (real.segs (i := 1) rfl rfl _ (List.mem_cons_self ..)).1
    exact loopErP (up4 n' - n') n' bs (by have := up4_le n'; omega) hs (by unfold up4; omega)
  · cases hk
theorem loopsErP : LoopsOK Tryd.prog LErP Tryd.f6.ntmps 1 (bodyOf Tryd.f6) := loops_one rfl (by kernel_rfl) loopOKErP
theorem loopOKErN : LoopOK Tryd.prog Tryd.f6.ntmps 1 (loopOf Tryd.f6 0) liveEr LErNf := by
  refine LoopOK.of_T ?_
  intro vs h k out hk
  unfold LErNf at hk
  split at hk
  · exact ⟨_, _, _, hk, fun real => LoopT.last (by intro h; cases h) (CodeT.out (mk0.on _) noL_ok fun on out => pErX0 _ _ _ on out)⟩
  · cases hk
theorem loopsErN : LoopsOK Tryd.prog LErN Tryd.f6.ntmps 1 (bodyOf Tryd.f6) := loops_one rfl (by kernel_rfl) loopOKErN
theorem SErc_ok : SpecOK Tryd.prog SErc := mkS_cons okLay (mkS_nil _)
end Go.Proofs.YtidhpjgebbimdaaDoor.VC

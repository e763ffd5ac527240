/- PairPlays: what the document's Message answers. -/
import Derived.Test.YtpidmcpnkfgcjaaP12
namespace Go.Proofs.Ytpidmcpnkfgcjaa.VC
open Go Go.Proofs

theorem fdn_none {P : Th → Bool} {ts : List Th} : ∀ {n : Nat}, fdn P ts n = none → ∀ i, i < n → P (ts.getD i th0) = false
  | 0, _, i, h => by omega
  | n + 1, h, i, hi => by
    unfold fdn at h
    cases hp : P (ts.getD n th0) with
    | true => rw [hp, cond_true] at h; cases h
    | false =>
      rw [hp, cond_false] at h
      by_cases e : i = n
      · subst e; exact hp
      · exact fdn_none h i (by omega)
theorem lastI_cases (ts : List Th) : (lastI ts = -1 ∧ ∀ i, i < ts.length → (ts.getD i th0).e = false) ∨ ∃ j : Nat, lastI ts = j ∧ j < ts.length ∧ (ts.getD j th0).e = true := by
  unfold lastI
  cases h : fdn pE ts ts.length with
  | none => exact .inl ⟨rfl, fun i hi => fdn_none h i hi⟩
  | some j => have := fdn_some h; exact .inr ⟨j, rfl, this.1, this.2⟩
theorem waitI_cases (ts : List Th) : waitI ts = -1 ∨ ∃ j : Nat, waitI ts = j ∧ j < ts.length ∧ (ts.getD j th0).e = false ∧ (ts.getD j th0).m.n = true ∧ (ts.getD j th0).g = false := by
  unfold waitI waitO
  cases h : fdn pW ts ts.length with
  | none => exact .inl rfl
  | some j =>
    have := fdn_some h
    have hw := this.2
    unfold pW at hw
    simp only [Bool.and_eq_true, Bool.not_eq_true'] at hw
    cases hg : (ts.getD j th0).g with
    | true => simp only [hg, cond_true]; exact .inl trivial
    | false => simp only [hg, cond_false]; exact .inr ⟨j, rfl, this.1, hw.1, hw.2, hg⟩
abbrev cntT (ts : List Th) (w c : Int) : Nat := cnt (curL (logT ts ts.length).o (logT ts ts.length).q (logT ts ts.length).l) (c - w) c
/-- Is the last edge one for a message? -/
def okP (ts : List Th) (w c : Int) (j : Nat) : Prop := lastI ts = j ∧ (ts.getD j th0).i = false ∧ c - (ts.getD j th0).a ≤ w ∧ cntT ts w c = 1
def noP (ts : List Th) (w c : Int) : Prop := ∀ j : Nat, ¬ okP ts w c j
noncomputable def FRMR (ts : List Th) : FSpec := fun args h k => match args, h with
  | [.pointer (some ⟨0, 0, none⟩), .int .i64 c, .agg ⟨[.int .u8 _, .bool _, .int .i64 _, .bool _, .int .i64 _, .bool _]⟩], [some ⟨true, 2, [.ints .i64 1 [w], .vals [.slice (some ⟨1, 0, none⟩) n cc]]⟩, some ⟨true, 10, [.any N vs]⟩] =>
    bif chk (n = ts.length ∧ N = ts.length * 10 ∧ vs = flat ts ∧ n ≤ 60 ∧ ¬ mayP ts c) then k (.tuple ⟨[pdV 0 ms0, .bool false]⟩) (dH true w ts cc) else none
  | _, _ => none
theorem okRMR (ts : List Th) : EntryOK Try.prog 32 (FRMR ts) := by
  refine EntryOK.of_paths (fn := Try.f32) follows_ok Try.func32 (by kernel_rfl) (by kernel_rfl) ?_
  intro args h k out hF
  unfold FRMR at hF
  split at hF
  · rename_i c xk xu xs xl xc xn w n cc N vs
    obtain ⟨hb, hF2⟩ := bif_t hF
    obtain ⟨rfl, rfl, rfl, hn, hm⟩ := chk_iff.1 hb
    exact ⟨_, _, hF2, fun _ => ⟨_, noL, SpecOK.on (mkS_cons (okMayF ts) (mkS_nil _)) _, noL_ok, pDMR c w cc ts ⟨xk, xu, xs, xl, xc, xn⟩⟩⟩
  · cases hF
theorem SmN_ok (ts : List Th) : SpecOK Try.prog (SmN ts) := mkS_cons (okMayT ts) (mkS_cons (okLan ts) (mkS_cons (okKep ts) (mkS_cons ok19 (mkS_cons (okAddD ts) (mkS_nil _)))))
theorem SmJ_ok (ts : List Th) (j : Nat) : SpecOK Try.prog (SmJ ts j) := mkS_cons (okMayT ts) (mkS_cons (okLaj ts j) (mkS_cons (okKep ts) (mkS_cons ok19 (mkS_cons (okAddD ts) (mkS_nil _)))))
noncomputable def FRMX (ts : List Th) : FSpec := fun args h k => match args, h with
  | [.pointer (some ⟨0, 0, none⟩), .int .i64 c, .agg ⟨[.int .u8 xk, .bool xu, .int .i64 xs, .bool xl, .int .i64 xc, .bool xn]⟩], [some ⟨true, 2, [.ints .i64 1 [w], .vals [.slice (some ⟨1, 0, none⟩) n _]]⟩, some ⟨true, 10, [.any N vs]⟩] =>
    bif chk (n = ts.length ∧ N = ts.length * 10 ∧ vs = flat ts ∧ n ≤ 60 ∧ mayP ts c ∧ RiseT ts ∧ 0 ≤ w ∧ w ≤ 1000000000 ∧ (xn = true ∨ noP ts w c)) then
      k (.tuple ⟨[pdV 0 ms0, .bool false]⟩) (dN w ts (ts ++ [tM c ⟨xk, xu, xs, xl, xc, xn⟩])) else none
  | _, _ => none
theorem log_room (ts : List Th) : (logT ts ts.length).o + (logT ts ts.length).q ≤ (logT ts ts.length).N ∧ (logT ts ts.length).q ≤ 1000 := by
  have p := log_play ts ts.length
  have hq := p.q
  exact ⟨p.room, by omega⟩
theorem okRMX (ts : List Th) : EntryOK Try.prog 32 (FRMX ts) := by
  refine EntryOK.of_paths (fn := Try.f32) follows_ok Try.func32 (by kernel_rfl) (by kernel_rfl) ?_
  intro args h k out hF
  unfold FRMX at hF
  split at hF
  · rename_i c xk xu xs xl xc xn w n cc N vs
    obtain ⟨hb, hF2⟩ := bif_t hF
    obtain ⟨rfl, rfl, rfl, hn, hm, hR, hw0, hw1, hx⟩ := chk_iff.1 hb
    refine ⟨_, _, hF2, fun real => ?_⟩
    have hr : c ≤ 9223372036854775807 := (real.int (i := 1) rfl).2
    have hc0 := hm.1
    have hlg := log_room ts
    rcases lastI_cases ts with ⟨hl, _⟩ | ⟨j, hl, hj, _⟩
    · cases xn with
      | true => exact ⟨_, noL, (SmN_ok ts).on _, noL_ok, pDMN0 c w cc ts ⟨xk, xu, xs, xl, xc, true⟩⟩
      | false => exact ⟨_, noL, (SmN_ok ts).on _, noL_ok, pDMX0 c w cc ts ⟨xk, xu, xs, xl, xc, false⟩⟩
    · cases xn with
      | true => exact ⟨_, noL, (SmJ_ok ts j).on _, noL_ok, pDMNj c w cc j ts ⟨xk, xu, xs, xl, xc, true⟩⟩
      | false =>
        have hx : ∀ j : Nat, ¬ okP ts w c j := by
          rcases hx with hx | hx
          · cases hx
          · exact hx
        have hx := hx j
        unfold okP at hx
        have hle := may_le hR hm hj
        have hj1 : j < (ts ++ [tM c ⟨xk, xu, xs, xl, xc, false⟩]).length := by rw [List.length_append]; omega
        have gA := fgA hj1
        have gI := fgI hj1
        rw [snoc_get hj] at gA gI
        have vA : ((flat (ts ++ [tM c ⟨xk, xu, xs, xl, xc, false⟩])).getD (j * 10) (FV.b false)).asI = (ts.getD j th0).a := by rw [gA]; rfl
        have vI : ((flat (ts ++ [tM c ⟨xk, xu, xs, xl, xc, false⟩])).getD (j * 10 + 8) (FV.b false)).asB = (ts.getD j th0).i := by rw [gI]; rfl
        have kA : FV.isI .i64 ((flat (ts ++ [tM c ⟨xk, xu, xs, xl, xc, false⟩])).getD (j * 10) (FV.b false)) = true := by rw [gA]; rfl
        have kI : ((flat (ts ++ [tM c ⟨xk, xu, xs, xl, xc, false⟩])).getD (j * 10 + 8) (FV.b false)).isB = true := by rw [gI]; rfl
        cases hi : (ts.getD j th0).i with
        | true =>
          rw [hi] at vI
          exact ⟨_, noL, (SmJ_ok ts j).on _, noL_ok, pDMX1 c w cc j ts ⟨xk, xu, xs, xl, xc, false⟩⟩
        | false =>
          rw [hi] at vI
          by_cases hf : c - (ts.getD j th0).a > w
          · refine ⟨_, noL, (SmJ_ok ts j).on [(13, false), (34, false), (38, false), (48, false), (65, true)], noL_ok, ?_⟩
            have key := @pDMX2 c w cc j ts ⟨xk, xu, xs, xl, xc, false⟩
            simp only [-eq_self, autoParam] at key
            rw [vA] at key
            refine key ?_ ?_ ?_ ?_ ?_ ?_ ?_ ?_ ?_ ?_ ?_ ?_ ?_ ?_ ?_ <;> first | omega | exact ⟨rfl, rfl, rfl, hn, hm⟩ | exact ⟨rfl, rfl, rfl, hn, hl⟩ | exact ⟨rfl, rfl, rfl, hn, hR⟩ | exact ⟨rfl, rfl, rfl, hn⟩ | exact hlg | rfl | exact kA | exact kI | exact vI
          · have hcn : ((cntT ts w c : Nat) : Int) ≠ 1 := fun e => hx ⟨hl, hi, by omega, by omega⟩
            refine ⟨_, noL, (SmJ_ok ts j).on [(13, false), (34, false), (38, false), (48, false), (65, false), (68, true)], noL_ok, ?_⟩
            have key := @pDMX3 c w cc j ts ⟨xk, xu, xs, xl, xc, false⟩
            simp only [-eq_self, autoParam] at key
            rw [vA] at key
            refine key ?_ ?_ ?_ ?_ ?_ ?_ ?_ ?_ ?_ ?_ ?_ ?_ ?_ ?_ ?_ ?_ ?_ <;> first | omega | exact ⟨rfl, rfl, rfl, hn, hm⟩ | exact ⟨rfl, rfl, rfl, hn, hl⟩ | exact ⟨rfl, rfl, rfl, hn, hR⟩ | exact ⟨rfl, rfl, rfl, hn⟩ | exact hlg | rfl | exact kA | exact kI | exact vI | exact hcn
  · cases hF
noncomputable def FRMP (ts : List Th) (j : Nat) : FSpec := fun args h k => match args, h with
  | [.pointer (some ⟨0, 0, none⟩), .int .i64 c, .agg ⟨[.int .u8 xk, .bool xu, .int .i64 xs, .bool xl, .int .i64 xc, .bool xn]⟩], [some ⟨true, 2, [.ints .i64 1 [w], .vals [.slice (some ⟨1, 0, none⟩) n _]]⟩, some ⟨true, 10, [.any N vs]⟩] =>
    bif chk (n = ts.length ∧ N = ts.length * 10 ∧ vs = flat ts ∧ n ≤ 60 ∧ mayP ts c ∧ RiseT ts ∧ 0 ≤ w ∧ w ≤ 1000000000 ∧ xn = false ∧ j < ts.length ∧ okP ts w c j) then
      k (.tuple ⟨[pdV (ts.getD j th0).a ⟨xk, xu, xs, xl, xc, xn⟩, .bool true]⟩) (dN w ts ((ts ++ [tM c ⟨xk, xu, xs, xl, xc, xn⟩]).set j (setI (ts.getD j th0)))) else none
  | _, _ => none
theorem okRMP (ts : List Th) (j : Nat) : EntryOK Try.prog 32 (FRMP ts j) := by
  refine EntryOK.of_paths (fn := Try.f32) follows_ok Try.func32 (by kernel_rfl) (by kernel_rfl) ?_
  intro args h k out hF
  unfold FRMP at hF
  split at hF
  · rename_i c xk xu xs xl xc xn w n cc N vs
    obtain ⟨hb, hF2⟩ := bif_t hF
    obtain ⟨rfl, rfl, rfl, hn, hm, hR, hw0, hw1, rfl, hj, hl, hi, hf, hcn⟩ := chk_iff.1 hb
    refine ⟨_, _, hF2, fun real => ⟨_, noL, (SmJ_ok ts j).on [(13, false), (34, false), (38, false), (48, false), (65, false), (68, false)], noL_ok, ?_⟩⟩
    have hr : c ≤ 9223372036854775807 := (real.int (i := 1) rfl).2
    have hc0 := hm.1
    have hlg := log_room ts
    have hle := may_le hR hm hj
    have hj1 : j < (ts ++ [tM c ⟨xk, xu, xs, xl, xc, false⟩]).length := by rw [List.length_append]; omega
    have hj2 : j < ((ts ++ [tM c ⟨xk, xu, xs, xl, xc, false⟩]).set j (setI (ts.getD j th0))).length := by rw [List.length_set]; exact hj1
    have e1 := flat_I hj1
    rw [snoc_get hj] at e1
    have gA := fgA hj1
    have gI := fgI hj1
    rw [snoc_get hj] at gA gI
    have gB := fgA hj2
    rw [set_same hj1] at gB
    have vA : ((flat (ts ++ [tM c ⟨xk, xu, xs, xl, xc, false⟩])).getD (j * 10) (FV.b false)).asI = (ts.getD j th0).a := by rw [gA]; rfl
    have vB : ((flat ((ts ++ [tM c ⟨xk, xu, xs, xl, xc, false⟩]).set j (setI (ts.getD j th0)))).getD (j * 10) (FV.b false)).asI = (ts.getD j th0).a := by rw [gB]; rfl
    have key := @pDMP c w cc j ts ⟨xk, xu, xs, xl, xc, false⟩
    simp only [-eq_self, autoParam] at key
    rw [e1, vA, vB] at key
    refine key ?_ ?_ ?_ ?_ ?_ ?_ ?_ ?_ ?_ ?_ ?_ ?_ ?_ ?_ ?_ ?_ ?_ ?_ <;> first | omega | exact ⟨rfl, rfl, rfl, hn, hm⟩ | exact ⟨rfl, rfl, rfl, hn, hl⟩ | exact ⟨rfl, rfl, rfl, hn, hR⟩ | exact ⟨rfl, rfl, rfl, hn⟩ | exact hlg | rfl | (rw [gA]; rfl) | (rw [gB]; rfl) | (rw [gI]; rfl) | (rw [gI]; exact hi) | exact congrArg _ hcn
  · cases hF
end Go.Proofs.Ytpidmcpnkfgcjaa.VC

/- sirf: the law of reading back. -/
import Derived.Test.YticdglfbgocgmaaM28
namespace Go.Proofs.Yticdglfbgocgmaa.VC
open Go Go.Proofs

noncomputable def FSsB : FSpec := fun args h k => match args, h with
  | [.agg ⟨[.int .u8 a, .slice (some ⟨0, 0, none⟩) n' _]⟩, .agg ⟨[.int .u8 a', .slice (some ⟨1, 0, none⟩) m' _]⟩], [some ⟨false, 1, [.ints .i64 n xs]⟩, some ⟨false, 1, [.ints .i64 m ys]⟩] =>
    bif chk (a = a' ∧ n' = n ∧ m' = m ∧ n = m ∧ n ≤ 1000000) then k (.bool (chk (sameTo xs ys n))) [rI n xs, rI m ys] else none
  | _, _ => none
theorem okSsB : EntryOK Try.prog 26 FSsB := by
  intro args h k out hF
  unfold FSsB at hF
  split at hF
  · rename_i a n' c a' m' c' n xs m ys
    obtain ⟨hb, hF2⟩ := bif_t hF
    obtain ⟨h1, h2, h3, h4, h5⟩ := chk_iff.1 hb
    by_cases hs : sameTo xs ys n
    · rw [chk_of hs] at hF2
      exact okSsT _ _ k out (go_t (chk_of ⟨h1, h2, h3, h4, h5, hs⟩) hF2)
    · have e : chk (sameTo xs ys n) = false := by
        cases hc : chk (sameTo xs ys n) with
        | false => rfl
        | true => exact (hs (chk_iff.1 hc)).elim
      rw [e] at hF2
      exact okSsF _ _ k out (go_t (chk_of ⟨h1, h2, h3, h4, h5, hs⟩) hF2)
  · cases hF
noncomputable def S8 (len : Nat) (fl : List Int) : Spec := mkS [(24, false, FDecV fl), (27, false, FPayK len fl), (29, false, FEnK len fl), (26, false, FSsB), (31, false, FLayRv len fl), (23, false, FKnw)]
noncomputable def S8E (e : Int) : Spec := mkS [(24, false, FDecE e), (23, false, FKnw)]
theorem okS8 (len : Nat) (fl : List Int) : SpecOK Try.prog (S8 len fl) := mkS_cons (okDecS.mono fun _ _ _ _ => decS_V) (mkS_cons (okPayK len fl) (mkS_cons (okEnK len fl) (mkS_cons okSsB (mkS_cons (okLayRv len fl) (mkS_cons okKnS (mkS_nil _))))))
theorem okS8E (e : Int) : SpecOK Try.prog (S8E e) := mkS_cons (okDecS.mono fun _ _ _ _ => decS_E) (mkS_cons okKnS (mkS_nil _))
--CP p8N (a : Int) (n : Nat) (xs : List Int) :: fnK Try.prog ((S8E 0).on [(22, true)]) noL Try.f8 [sl 0 n 2, w63 a] [rU n xs]
theorem p8N (a : Int) (n : Nat) (xs : List Int)
    (h1 : (↑n : Int) > (1100 : Int) := by first | omega | assumption | rfl) : fnK Try.prog ((S8E 0).on [(22, true)]) noL Try.f8 [sl 0 n 2, w63 a] [rU n xs] =
     (some (Res.ret (Value.bool true) [some (Blk.mk false (1 : Nat) [Seg.ints IntKind.u8 n xs])])) :=
  Eq.trans (by kernel_rfl) (go_t (dec_t h1) rfl)
--CFEND
--CP p8E (a e : Int) (n : Nat) (xs : List Int) :: fnK Try.prog ((S8E e).on [(22, false), (30, true)]) noL Try.f8 [sl 0 n 2, w63 a] [rU n xs]
theorem p8E (a e : Int) (n : Nat) (xs : List Int)
    (h1 : ¬(↑n : Int) > (1100 : Int) := by first | omega | assumption | rfl)
    (h2 : n ≤ n ∧ n ≤ (1000000 : Nat) ∧ decErr n (xs.getD (0 : Nat) (0 : Int)) = e ∧ e ≠ (0 : Int) := by first | omega | assumption | rfl | ((repeat' with_reducible apply And.intro) <;> first | rfl | assumption | omega))
    (h3 : e ≠ (0 : Int) := by first | omega | assumption | rfl) : fnK Try.prog ((S8E e).on [(22, false), (30, true)]) noL Try.f8 [sl 0 n 2, w63 a] [rU n xs] =
     (some (Res.ret (Value.bool true) [some (Blk.mk false (1 : Nat) [Seg.ints IntKind.u8 n xs])])) :=
  Eq.trans (by kernel_rfl) (go_f (dec_f h1) (go_t (chk_t h2) (go_t (bne_t h3) rfl)))
--CFEND
--CP p8M (a : Int) (n : Nat) (xs fl : List Int) :: fnK Try.prog ((S8 n fl).on [(22, false), (30, false), (69, false), (76, false), (83, false), (160, true)]) L8 Try.f8 [sl 0 n 2, w63 a] [rU n xs]
theorem p8M (a : Int) (n : Nat) (xs fl : List Int)
    (w1 : -9223372036854775808 ≤ (↑n : Int) + (8 : Int) ∧ (↑n : Int) + (8 : Int) ≤ 9223372036854775807 := by omega)
    (w2 : -9223372036854775808 ≤ (↑n : Int) - (1 : Int) ∧ (↑n : Int) - (1 : Int) ≤ 9223372036854775807 := by omega)
    (w3 : -9223372036854775808 ≤ (IntKind.u64.wrap a).tmod (IntKind.u64.wrap ((↑n : Int) - (1 : Int))) ∧ (IntKind.u64.wrap a).tmod (IntKind.u64.wrap ((↑n : Int) - (1 : Int))) ≤ 9223372036854775807 := by omega)
    (w4 : -9223372036854775808 ≤ (1 : Int) + (IntKind.u64.wrap a).tmod (IntKind.u64.wrap ((↑n : Int) - (1 : Int))) ∧ (1 : Int) + (IntKind.u64.wrap a).tmod (IntKind.u64.wrap ((↑n : Int) - (1 : Int))) ≤ 9223372036854775807 := by omega)
    (h1 : ¬(↑n : Int) > (1100 : Int) := by first | omega | assumption | rfl)
    (h2 : n ≤ n ∧ n ≤ (1000000 : Nat) ∧ n ≠ (0 : Nat) ∧ layS (xs.getD (0 : Nat) (0 : Int)) = some (n, fl) := by first | omega | assumption | rfl | ((repeat' with_reducible apply And.intro) <;> first | rfl | assumption | omega))
    (h3 : layS (xs.getD (0 : Nat) (0 : Int)) = some (n, fl) ∧ (2 : Nat) * (fl.length / (2 : Nat)) = fl.length ∧ fl.length / (2 : Nat) = fl.length / (2 : Nat) ∧ fitsTo fl (decV xs (0 : Nat) fl (fl.length / (2 : Nat))) (fl.length / (2 : Nat)) := by first | omega | assumption | rfl | ((repeat' with_reducible apply And.intro) <;> first | rfl | assumption | omega))
    (h4 : n ≤ n ∧ n ≤ (1000000 : Nat) ∧ n ≠ (0 : Nat) ∧ layS ((payB (pay0 n (xs.getD (0 : Nat) (0 : Int))) fl (decV xs (0 : Nat) fl (fl.length / (2 : Nat))) (fl.length / (2 : Nat))).getD (0 : Nat) (0 : Int)) = some (n, fl) := by first | omega | assumption | rfl | ((repeat' with_reducible apply And.intro) <;> first | rfl | assumption | omega))
    (h5 : xs.getD (0 : Nat) (0 : Int) = (payB (pay0 n (xs.getD (0 : Nat) (0 : Int))) fl (decV xs (0 : Nat) fl (fl.length / (2 : Nat))) (fl.length / (2 : Nat))).getD (0 : Nat) (0 : Int) ∧ fl.length / (2 : Nat) = fl.length / (2 : Nat) ∧ fl.length / (2 : Nat) = fl.length / (2 : Nat) ∧ fl.length / (2 : Nat) = fl.length / (2 : Nat) ∧ fl.length / (2 : Nat) ≤ (1000000 : Nat) := by first | omega | assumption | rfl | ((repeat' with_reducible apply And.intro) <;> first | rfl | assumption | omega))
    (h6 : sameTo (decV xs (0 : Nat) fl (fl.length / (2 : Nat))) (decV (payB (pay0 n (xs.getD (0 : Nat) (0 : Int))) fl (decV xs (0 : Nat) fl (fl.length / (2 : Nat))) (fl.length / (2 : Nat))) (0 : Nat) fl (fl.length / (2 : Nat))) (fl.length / (2 : Nat)) := by first | omega | assumption | rfl)
    (h7 : (↑n : Int) = (↑n : Int) := by first | omega | assumption | rfl)
    (h8 : (↑((4 : Nat) + n + (4 : Nat)) : Int) = (↑n : Int) + (8 : Int) := by first | omega | assumption | rfl)
    (h9 : ¬IntKind.u64.wrap ((↑n : Int) - (1 : Int)) = (0 : Int) := by first | omega | assumption | rfl)
    (h10 : n ≤ n := by first | omega | assumption | rfl)
    (h11 : n ≤ (140737488355328 : Nat) := by first | omega | assumption | rfl)
    (h12 : n ≤ (4611686018427387904 : Nat) := by first | omega | assumption | rfl)
    (h13 : (0 : Int) ≤ (1 : Int) + (IntKind.u64.wrap a).tmod (IntKind.u64.wrap ((↑n : Int) - (1 : Int))) := by first | omega | assumption | rfl)
    (h14 : (1 : Int) + (IntKind.u64.wrap a).tmod (IntKind.u64.wrap ((↑n : Int) - (1 : Int))) < (↑n : Int) := by first | omega | assumption | rfl)
    (h15 : ((1 : Int) + (IntKind.u64.wrap a).tmod (IntKind.u64.wrap ((↑n : Int) - (1 : Int)))).toNat < n := by first | omega | assumption | rfl)
    (h16 : n ≤ n ∧ n ≤ (1000000 : Nat) ∧ n ≠ (0 : Nat) ∧ layS (((List.take n xs).set ((1 : Int) + (IntKind.u64.wrap a).tmod (IntKind.u64.wrap ((↑n : Int) - (1 : Int)))).toNat (IntKind.u8.wrap ((List.take n xs).getD ((1 : Int) + (IntKind.u64.wrap a).tmod (IntKind.u64.wrap ((↑n : Int) - (1 : Int)))).toNat (0 : Int) + (1 : Int)))).getD (0 : Nat) (0 : Int)) = some (n, fl) := by first | omega | assumption | rfl | ((repeat' with_reducible apply And.intro) <;> first | rfl | assumption | omega))
    (h17 : (0 : Int) < (↑n : Int) := by first | omega | assumption | rfl)
    (h18 : (0 : Nat) < n := by first | omega | assumption | rfl)
    (h19 : layS (xs.getD (0 : Nat) (0 : Int)) = some (n, fl) := by first | omega | assumption | rfl)
    (h20 : fl.length / (2 : Nat) = fl.length / (2 : Nat) ∧ fl.length / (2 : Nat) = fl.length / (2 : Nat) ∧ fl.length / (2 : Nat) = fl.length / (2 : Nat) ∧ fl.length = (2 : Nat) * (fl.length / (2 : Nat)) ∧ fl.length = (2 : Nat) * (fl.length / (2 : Nat)) ∧ fl.length / (2 : Nat) ≤ (100 : Nat) ∧ fldsOK (1000000 : Nat) fl (fl.length / (2 : Nat)) := by first | omega | assumption | rfl | ((repeat' with_reducible apply And.intro) <;> first | rfl | assumption | omega))
    (h21 : xs.getD (0 : Nat) (0 : Int) = ((List.take n xs).set ((1 : Int) + (IntKind.u64.wrap a).tmod (IntKind.u64.wrap ((↑n : Int) - (1 : Int)))).toNat (IntKind.u8.wrap ((List.take n xs).getD ((1 : Int) + (IntKind.u64.wrap a).tmod (IntKind.u64.wrap ((↑n : Int) - (1 : Int)))).toNat (0 : Int) + (1 : Int)))).getD (0 : Nat) (0 : Int) ∧ fl.length / (2 : Nat) = fl.length / (2 : Nat) ∧ fl.length / (2 : Nat) = fl.length / (2 : Nat) ∧ fl.length / (2 : Nat) = fl.length / (2 : Nat) ∧ fl.length / (2 : Nat) ≤ (1000000 : Nat) := by first | omega | assumption | rfl | ((repeat' with_reducible apply And.intro) <;> first | rfl | assumption | omega))
    (h22 : chk (sameTo (decV xs (0 : Nat) fl (fl.length / (2 : Nat))) (decV ((List.take n xs).set ((1 : Int) + (IntKind.u64.wrap a).tmod (IntKind.u64.wrap ((↑n : Int) - (1 : Int)))).toNat (IntKind.u8.wrap ((List.take n xs).getD ((1 : Int) + (IntKind.u64.wrap a).tmod (IntKind.u64.wrap ((↑n : Int) - (1 : Int)))).toNat (0 : Int) + (1 : Int)))) (0 : Nat) fl (fl.length / (2 : Nat))) (fl.length / (2 : Nat))) = !inB fl ((1 : Int) + (IntKind.u64.wrap a).tmod (IntKind.u64.wrap ((↑n : Int) - (1 : Int)))) (fl.length / (2 : Nat)) := by first | omega | assumption | rfl) : fnK Try.prog ((S8 n fl).on [(22, false), (30, false), (69, false), (76, false), (83, false), (160, true)]) L8 Try.f8 [sl 0 n 2, w63 a] [rU n xs] =
     (some (Res.ret (Value.bool true) [some (Blk.mk false (1 : Nat) [Seg.ints IntKind.u8 n xs])])) :=
  Eq.trans (b :=
     bif decide ((↑n : Int) > (1100 : Int)) then none else bif chk (n ≤ n ∧ n ≤ (1000000 : Nat) ∧ n ≠ (0 : Nat) ∧ layS (xs.getD (0 : Nat) (0 : Int)) = some (n, fl)) then bif chk (layS (xs.getD (0 : Nat) (0
     : Int)) = some (n, fl) ∧ (2 : Nat) * (fl.length / (2 : Nat)) = fl.length ∧ fl.length / (2 : Nat) = fl.length / (2 : Nat) ∧ fitsTo fl (decV xs (0 : Nat) fl (fl.length / (2 : Nat))) (fl.length / (2 :
     Nat))) then bif chk (n ≤ n ∧ n ≤ (1000000 : Nat) ∧ n ≠ (0 : Nat) ∧ layS ((payB (pay0 n (xs.getD (0 : Nat) (0 : Int))) fl (decV xs (0 : Nat) fl (fl.length / (2 : Nat))) (fl.length / (2 : Nat))).getD (0
     : Nat) (0 : Int)) = some (n, fl)) then bif chk (layS (xs.getD (0 : Nat) (0 : Int)) = some (n, fl) ∧ (2 : Nat) * (fl.length / (2 : Nat)) = fl.length ∧ fl.length / (2 : Nat) = fl.length / (2 : Nat) ∧
     fitsTo fl (decV xs (0 : Nat) fl (fl.length / (2 : Nat))) (fl.length / (2 : Nat))) then bif chk (xs.getD (0 : Nat) (0 : Int) = (payB (pay0 n (xs.getD (0 : Nat) (0 : Int))) fl (decV xs (0 : Nat) fl
     (fl.length / (2 : Nat))) (fl.length / (2 : Nat))).getD (0 : Nat) (0 : Int) ∧ fl.length / (2 : Nat) = fl.length / (2 : Nat) ∧ fl.length / (2 : Nat) = fl.length / (2 : Nat) ∧ fl.length / (2 : Nat) =
     fl.length / (2 : Nat) ∧ fl.length / (2 : Nat) ≤ (1000000 : Nat)) then bif !chk (sameTo (decV xs (0 : Nat) fl (fl.length / (2 : Nat))) (decV (payB (pay0 n (xs.getD (0 : Nat) (0 : Int))) fl (decV xs (0
     : Nat) fl (fl.length / (2 : Nat))) (fl.length / (2 : Nat))) (0 : Nat) fl (fl.length / (2 : Nat))) (fl.length / (2 : Nat))) then none else bif (↑n : Int) != (↑n : Int) then none else bif (↑((4 : Nat) +
     n + (4 : Nat)) : Int) != IntKind.i64.wrap ((↑n : Int) + (8 : Int)) then none else bif decide (IntKind.u64.wrap (IntKind.i64.wrap ((↑n : Int) - (1 : Int))) = (0 : Int)) then none else bif (n * (1 :
     Nat)).ble n then bif decide (((0 : Nat) + n) * (1 : Nat) ≤ (140737488355328 : Nat)) && ((0 : Nat) + n).ble (OfNat.ofNat (4611686018427387904 : Nat)) then bif decide ((0 : Int) ≤ IntKind.i64.wrap ((1 :
     Int) + IntKind.i64.wrap ((IntKind.u64.wrap a).tmod (IntKind.u64.wrap (IntKind.i64.wrap ((↑n : Int) - (1 : Int))))))) && decide (IntKind.i64.wrap ((1 : Int) + IntKind.i64.wrap ((IntKind.u64.wrap
     a).tmod (IntKind.u64.wrap (IntKind.i64.wrap ((↑n : Int) - (1 : Int)))))) < (↑((0 : Nat) + n) : Int)) then bif ((0 : Nat) + (IntKind.i64.wrap ((1 : Int) + IntKind.i64.wrap ((IntKind.u64.wrap a).tmod
     (IntKind.u64.wrap (IntKind.i64.wrap ((↑n : Int) - (1 : Int))))))).toNat * (1 : Nat)).blt (n * (1 : Nat)) then bif decide ((0 : Int) ≤ IntKind.i64.wrap ((1 : Int) + IntKind.i64.wrap ((IntKind.u64.wrap
     a).tmod (IntKind.u64.wrap (IntKind.i64.wrap ((↑n : Int) - (1 : Int))))))) && decide (IntKind.i64.wrap ((1 : Int) + IntKind.i64.wrap ((IntKind.u64.wrap a).tmod (IntKind.u64.wrap (IntKind.i64.wrap ((↑n
     : Int) - (1 : Int)))))) < (↑((0 : Nat) + n) : Int)) then bif ((0 : Nat) + (IntKind.i64.wrap ((1 : Int) + IntKind.i64.wrap ((IntKind.u64.wrap a).tmod (IntKind.u64.wrap (IntKind.i64.wrap ((↑n : Int) -
     (1 : Int))))))).toNat * (1 : Nat)).blt (n * (1 : Nat)) then bif chk ((0 : Nat) + n ≤ n * (1 : Nat) ∧ n * (1 : Nat) ≤ (1000000 : Nat) ∧ (0 : Nat) + n ≠ (0 : Nat) ∧ layS (((List.take (n * (1 : Nat))
     xs).set ((0 : Nat) + (IntKind.i64.wrap ((1 : Int) + IntKind.i64.wrap ((IntKind.u64.wrap a).tmod (IntKind.u64.wrap (IntKind.i64.wrap ((↑n : Int) - (1 : Int))))))).toNat * (1 : Nat)) (IntKind.u8.wrap
     ((List.take (n * (1 : Nat)) xs).getD ((0 : Nat) + (IntKind.i64.wrap ((1 : Int) + IntKind.i64.wrap ((IntKind.u64.wrap a).tmod (IntKind.u64.wrap (IntKind.i64.wrap ((↑n : Int) - (1 : Int))))))).toNat *
     (1 : Nat)) (0 : Int) + (1 : Int)))).getD (0 : Nat) (0 : Int)) = some ((0 : Nat) + n, fl)) then bif decide ((0 : Int) < (↑n : Int)) then bif Nat.blt (0 : Nat) n then bif chk (layS (xs.getD (0 : Nat) (0
     : Int)) = some (n, fl)) then bif chk (fl.length / (2 : Nat) = fl.length / (2 : Nat) ∧ fl.length / (2 : Nat) = fl.length / (2 : Nat) ∧ fl.length / (2 : Nat) = fl.length / (2 : Nat) ∧ fl.length = (2 :
     Nat) * (fl.length / (2 : Nat)) ∧ fl.length = (2 : Nat) * (fl.length / (2 : Nat)) ∧ fl.length / (2 : Nat) ≤ (100 : Nat) ∧ fldsOK (1000000 : Nat) fl (fl.length / (2 : Nat))) then bif chk (xs.getD (0 :
     Nat) (0 : Int) = ((List.take (n * (1 : Nat)) xs).set ((0 : Nat) + (IntKind.i64.wrap ((1 : Int) + IntKind.i64.wrap ((IntKind.u64.wrap a).tmod (IntKind.u64.wrap (IntKind.i64.wrap ((↑n : Int) - (1 :
     Int))))))).toNat * (1 : Nat)) (IntKind.u8.wrap ((List.take (n * (1 : Nat)) xs).getD ((0 : Nat) + (IntKind.i64.wrap ((1 : Int) + IntKind.i64.wrap ((IntKind.u64.wrap a).tmod (IntKind.u64.wrap
     (IntKind.i64.wrap ((↑n : Int) - (1 : Int))))))).toNat * (1 : Nat)) (0 : Int) + (1 : Int)))).getD (0 : Nat) (0 : Int) ∧ fl.length / (2 : Nat) = fl.length / (2 : Nat) ∧ fl.length / (2 : Nat) = fl.length
     / (2 : Nat) ∧ fl.length / (2 : Nat) = fl.length / (2 : Nat) ∧ fl.length / (2 : Nat) ≤ (1000000 : Nat)) then bif chk (sameTo (decV xs (0 : Nat) fl (fl.length / (2 : Nat))) (decV ((List.take (n * (1 :
     Nat)) xs).set ((0 : Nat) + (IntKind.i64.wrap ((1 : Int) + IntKind.i64.wrap ((IntKind.u64.wrap a).tmod (IntKind.u64.wrap (IntKind.i64.wrap ((↑n : Int) - (1 : Int))))))).toNat * (1 : Nat))
     (IntKind.u8.wrap ((List.take (n * (1 : Nat)) xs).getD ((0 : Nat) + (IntKind.i64.wrap ((1 : Int) + IntKind.i64.wrap ((IntKind.u64.wrap a).tmod (IntKind.u64.wrap (IntKind.i64.wrap ((↑n : Int) - (1 :
     Int))))))).toNat * (1 : Nat)) (0 : Int) + (1 : Int)))) (0 : Nat) fl (fl.length / (2 : Nat))) (fl.length / (2 : Nat))) == !inB fl (IntKind.i64.wrap ((1 : Int) + IntKind.i64.wrap ((IntKind.u64.wrap
     a).tmod (IntKind.u64.wrap (IntKind.i64.wrap ((↑n : Int) - (1 : Int))))))) (fl.length / (2 : Nat)) then some (Res.ret (Value.bool true) [some (Blk.mk false (1 : Nat) [Seg.ints IntKind.u8 n xs])]) else
     none else none else none else none else none else none else none else none else none else none else none else none else none else none else none else none else none else none) (by kernel_rfl) (by simp only [-eq_self, Nat.mul_one, Nat.zero_add, swrap w1.1 w1.2, swrap w2.1 w2.2, swrap w3.1 w3.2, swrap w4.1 w4.2]; exact (go_f (dec_f h1) (go_t (chk_t h2) (go_t (chk_t h3) (go_t (chk_t h4) (go_t (chk_t h3) (go_t (chk_t h5) (go_f (not_f (chk_t h6)) (go_f (bne_f h7) (go_f (bne_f h8) (go_f (dec_f h9) (go_t (ble_t h10) (go_t (and_t (dec_t h11) (ble_t h12)) (go_t (and_t (dec_t h13) (dec_t h14)) (go_t (blt_t h15) (go_t (and_t (dec_t h13) (dec_t h14)) (go_t (blt_t h15) (go_t (chk_t h16) (go_t (dec_t h17) (go_t (blt_t h18) (go_t (chk_t h19) (go_t (chk_t h20) (go_t (chk_t h21) (go_t (eqb_t h22) rfl))))))))))))))))))))))))
--CFEND
theorem chk_off {p : Prop} (h : ¬ p) : chk p = false := by
  cases hc : chk p with
  | false => rfl
  | true => exact (h (chk_iff.1 hc)).elim
theorem set_first {xs : List Int} {p : Nat} {y : Int} (h : 1 ≤ p) : (xs.set p y).getD 0 0 = xs.getD 0 0 := by
  rw [List.getD_eq_getElem?_getD, List.getElem?_set_ne (by omega), ← List.getD_eq_getElem?_getD]
theorem set_law {n p : Nat} {xs fl : List Int} {q : Nat} (hx : isB xs) (hl : xs.length = n) (hp : p < n) (hf : fldsOK n fl q) :
    chk (sameTo (decV xs 0 fl q) (decV (xs.set p (IntKind.u8.wrap (xs.getD p 0 + 1))) 0 fl q) q) = !inB fl (p : Int) q := by
  have hb : 0 ≤ xs.getD p 0 ∧ xs.getD p 0 ≤ 255 := by
    rw [List.getD_eq_getElem?_getD, List.getElem?_eq_getElem (by omega)]
    exact hx _ (List.getElem_mem _)
  unfold inB
  by_cases h : inF fl (p : Int) q
  · rw [chk_of h, chk_off (set_diff hx (by rw [wU8]; omega) hl (by rw [wU8]; omega) hf h)]; rfl
  · rw [chk_off h, chk_of (set_same hf h)]; rfl
def F8 : FSpec := fun args h k => match args, h with
  | [.slice (some ⟨0, 0, none⟩) n 2, .int .i64 _], [some ⟨false, 1, [.ints .u8 N xs]⟩] => bif Nat.beq N n then k (.bool true) [rU N xs] else none
  | _, _ => none
theorem ok8 : EntryOK Try.prog 8 F8 := by
  refine EntryOK.of_paths (fn := Try.f8) follows_ok Try.func8 (by kernel_rfl) (by kernel_rfl) ?_
  intro args h k out hF
  unfold F8 at hF
  split at hF
  · rename_i n a N xs
    obtain ⟨hb, hF2⟩ := bif_t hF
    obtain rfl := beq_true hb
    refine ⟨_, _, hF2, fun real => ?_⟩
    have hs := real.segs (i := 0) rfl rfl _ (List.mem_cons_self ..)
    have hl := hs.1
    have hx : isB xs := fun y hy => hs.2 y hy
    have ht : List.take N xs = xs := List.take_of_length_le (by omega)
    by_cases c0 : (N : Int) > 1100
    · exact ⟨_, noL, (okS8E 0).on _, noL_ok, p8N a N xs⟩
    · by_cases c1 : decErr N (xs.getD 0 0) = 0
      · have hn : N ≠ 0 := by rintro rfl; cases c1
        obtain ⟨fl, hfl⟩ : ∃ fl, layS (xs.getD 0 0) = some (N, fl) := by
          unfold decErr at c1
          rw [beq_f hn, condF] at c1
          split at c1
          · cases c1
          · rename_i len fl hl
            by_cases hc : N = len
            · subst hc; exact ⟨fl, hl⟩
            · rw [beq_f hc] at c1; cases c1
        obtain ⟨g1, g2, g3, g4, g5, g6⟩ := layS_ok hfl
        have gd := layS_dis hfl
        obtain ⟨q, hq⟩ : ∃ q, fl.length / 2 = q := ⟨_, rfl⟩
        have hlen : fl.length = 2 * q := by omega
        have key := @p8M a N xs fl
        rw [hq] at key g3 g4 g5 gd
        have hN : 2 ≤ N := by
          obtain ⟨f1, f2, f3, f4, f5⟩ := g5 0 g3
          have := gd.1 0 g3
          have : 1 ≤ manyI (fl.getD (0 * 2 + 1) 0) := by unfold manyI; split <;> omega
          omega
        have hw : IntKind.u64.wrap ((N : Int) - 1) = (N : Int) - 1 := by rw [wU64]; omega
        obtain ⟨p, hp, hp1, hpN⟩ : ∃ p : Nat, (1 : Int) + (IntKind.u64.wrap a).tmod (IntKind.u64.wrap ((N : Int) - 1)) = (p : Int) ∧ 1 ≤ p ∧ p < N := by
          rw [hw, Int.tmod_eq_emod_of_nonneg (by rw [wU64]; omega)]
          have h1 := Int.emod_nonneg (IntKind.u64.wrap a) (show (N : Int) - 1 ≠ 0 by omega)
          have h2 := Int.emod_lt_of_pos (IntKind.u64.wrap a) (show (0 : Int) < (N : Int) - 1 by omega)
          exact ⟨(1 + IntKind.u64.wrap a % ((N : Int) - 1)).toNat, by omega, by omega, by omega⟩
        have hp2 : (IntKind.u64.wrap a).tmod (IntKind.u64.wrap ((N : Int) - 1)) = (p : Int) - 1 := by omega
        have hfit : fitsTo fl (decV xs 0 fl q) q := fun i hi => by
          obtain ⟨f1, f2, f3, f4, f5⟩ := g5 i hi
          have := manyI_rng ⟨f1, f2⟩
          rw [decV_get _ _ _ _ _ hi]
          exact get_fit ⟨f1, f2⟩ f3 hx (by omega)
        have hown : (payB (pay0 N (xs.getD 0 0)) fl (decV xs 0 fl q) q).getD 0 0 = xs.getD 0 0 := by
          rw [pay_first pay0_len q g5 gd]
          unfold pay0
          rw [List.getD_eq_getElem?_getD, List.getElem?_set_self (by rw [List.length_replicate]; omega)]
          rfl
        have hsame : sameTo (decV xs 0 fl q) (decV (payB (pay0 N (xs.getD 0 0)) fl (decV xs 0 fl q) q) 0 fl q) q := fun i hi => by
          rw [decV_get (payB _ _ _ _) _ _ _ _ hi, pay_get pay0_len q g5 gd hfit i hi]
        rw [hp, hp2, ht, hlen, Int.toNat_natCast, hown, set_first hp1] at key
        have hf2 : fldsOK 1000000 fl q := fun i hi => by
          obtain ⟨f1, f2, f3, f4, f5⟩ := g5 i hi
          exact ⟨f1, f2, f3, f4, by omega⟩
        exact ⟨_, L8, (okS8 N fl).on _, loops8, key (by omega) (by omega) (by omega) (by omega) c0 ⟨by omega, by omega, hn, hfl⟩ ⟨hfl, rfl, rfl, hfit⟩ ⟨by omega, by omega, hn, hfl⟩ ⟨rfl, rfl, rfl, rfl, by omega⟩ hsame rfl (by omega) (by rw [hw]; omega)
          (by omega) (by omega) (by omega) (by omega) (by omega) (by omega) ⟨by omega, by omega, hn, hfl⟩ (by omega) (by omega) hfl ⟨rfl, rfl, rfl, rfl, rfl, g4, hf2⟩ ⟨rfl, rfl, rfl, rfl, by omega⟩ (set_law hx hl hpN g5)⟩
      · exact ⟨_, noL, (okS8E _).on _, noL_ok, p8E a (decErr N (xs.getD 0 0)) N xs (by omega) ⟨by omega, by omega, rfl, c1⟩ c1⟩
  · cases hF
theorem top8 {n : Nat} {a : Int} {xs : List Int} {k : Value → Heap → Out} : F8 [sl 0 n 2, w63 a] [rU n xs] k = k (.bool true) [rU n xs] := by
  show (bif Nat.beq n n then k (.bool true) [rU n xs] else none) = _
  rw [beq_t rfl]
  exact condT
end Go.Proofs.Yticdglfbgocgmaa.VC

/- PairPlays: the document's Edge and Message: closed forms by paths. -/
import Derived.Test.YtpidmcpnkfgcjaaP10
namespace Go.Proofs.Ytpidmcpnkfgcjaa.VC
open Go Go.Proofs

noncomputable def FWan (ts : List Th) : FSpec := fun args h k => match args, h with
  | [.pointer (some ⟨0, 0, none⟩)], [some ⟨false, 2, [.ints .i64 1 [w], .vals [.slice (some ⟨1, 0, none⟩) n cc]]⟩, some ⟨false, 10, [.any N vs]⟩] =>
    bif chk (n = ts.length ∧ N = ts.length * 10 ∧ vs = flat ts ∧ n ≤ 60 ∧ waitI ts = -1) then k (w63 (-1)) (dH false w ts cc) else none
  | _, _ => none
noncomputable def FWaj (ts : List Th) (j : Nat) : FSpec := fun args h k => match args, h with
  | [.pointer (some ⟨0, 0, none⟩)], [some ⟨false, 2, [.ints .i64 1 [w], .vals [.slice (some ⟨1, 0, none⟩) n cc]]⟩, some ⟨false, 10, [.any N vs]⟩] =>
    bif chk (n = ts.length ∧ N = ts.length * 10 ∧ vs = flat ts ∧ n ≤ 60 ∧ waitI ts = j) then k (w63 j) (dH false w ts cc) else none
  | _, _ => none
noncomputable def FLan (ts : List Th) : FSpec := fun args h k => match args, h with
  | [.pointer (some ⟨0, 0, none⟩)], [some ⟨false, 2, [.ints .i64 1 [w], .vals [.slice (some ⟨1, 0, none⟩) n cc]]⟩, some ⟨false, 10, [.any N vs]⟩] =>
    bif chk (n = ts.length ∧ N = ts.length * 10 ∧ vs = flat ts ∧ n ≤ 60 ∧ lastI ts = -1) then k (w63 (-1)) (dH false w ts cc) else none
  | _, _ => none
noncomputable def FLaj (ts : List Th) (j : Nat) : FSpec := fun args h k => match args, h with
  | [.pointer (some ⟨0, 0, none⟩)], [some ⟨false, 2, [.ints .i64 1 [w], .vals [.slice (some ⟨1, 0, none⟩) n cc]]⟩, some ⟨false, 10, [.any N vs]⟩] =>
    bif chk (n = ts.length ∧ N = ts.length * 10 ∧ vs = flat ts ∧ n ≤ 60 ∧ lastI ts = j) then k (w63 j) (dH false w ts cc) else none
  | _, _ => none
theorem okWan (ts : List Th) : EntryOK Try.prog 34 (FWan ts) := (okWai ts).mono fun args h k out hk => by
  unfold FWan at hk
  unfold FWai
  split at hk
  · obtain ⟨hb, hk2⟩ := bif_t hk
    obtain ⟨h1, h2, h3, h4, h5⟩ := chk_iff.1 hb
    show (bif chk _ then _ else none) = _
    rw [chk_if ⟨h1, h2, h3, h4⟩ rfl, h5]
    exact hk2
  · cases hk
theorem okWaj (ts : List Th) (j : Nat) : EntryOK Try.prog 34 (FWaj ts j) := (okWai ts).mono fun args h k out hk => by
  unfold FWaj at hk
  unfold FWai
  split at hk
  · obtain ⟨hb, hk2⟩ := bif_t hk
    obtain ⟨h1, h2, h3, h4, h5⟩ := chk_iff.1 hb
    show (bif chk _ then _ else none) = _
    rw [chk_if ⟨h1, h2, h3, h4⟩ rfl, h5]
    exact hk2
  · cases hk
theorem okLan (ts : List Th) : EntryOK Try.prog 55 (FLan ts) := (okLai ts).mono fun args h k out hk => by
  unfold FLan at hk
  unfold FLai
  split at hk
  · obtain ⟨hb, hk2⟩ := bif_t hk
    obtain ⟨h1, h2, h3, h4, h5⟩ := chk_iff.1 hb
    show (bif chk _ then _ else none) = _
    rw [chk_if ⟨h1, h2, h3, h4⟩ rfl, h5]
    exact hk2
  · cases hk
theorem okLaj (ts : List Th) (j : Nat) : EntryOK Try.prog 55 (FLaj ts j) := (okLai ts).mono fun args h k out hk => by
  unfold FLaj at hk
  unfold FLai
  split at hk
  · obtain ⟨hb, hk2⟩ := bif_t hk
    obtain ⟨h1, h2, h3, h4, h5⟩ := chk_iff.1 hb
    show (bif chk _ then _ else none) = _
    rw [chk_if ⟨h1, h2, h3, h4⟩ rfl, h5]
    exact hk2
  · cases hk
noncomputable def SdR (ts : List Th) : Spec := mkS [(53, false, FMay (fun ts c => ¬ mayP ts c) false ts)]
noncomputable def SdN (ts : List Th) : Spec := mkS [(53, false, FMay mayP true ts), (34, false, FWan ts), (54, true, FAddD ts)]
noncomputable def SdJ (ts : List Th) (j : Nat) : Spec := mkS [(53, false, FMay mayP true ts), (34, false, FWaj ts j), (54, true, FAddD ts)]
noncomputable def SmN (ts : List Th) : Spec := mkS [(53, false, FMay mayP true ts), (55, false, FLan ts), (56, false, FKep ts), (19, false, F19), (54, true, FAddD ts)]
noncomputable def SmJ (ts : List Th) (j : Nat) : Spec := mkS [(53, false, FMay mayP true ts), (55, false, FLaj ts j), (56, false, FKep ts), (19, false, F19), (54, true, FAddD ts)]
--CP pDER (c w : Int) (cc : Nat) (ts : List Th) :: fnK Try.prog ((SdR ts).on [(10, true)]) noL Try.f31 [pt 0, w63 c] (dH true w ts cc)
theorem pDER (c w : Int) (cc : Nat) (ts : List Th)
    (h1 : ts.length = ts.length ∧ ts.length * (10 : Nat) = ts.length * (10 : Nat) ∧ flat ts = flat ts ∧ ts.length ≤ (60 : Nat) ∧ ¬mayP ts c := by first | omega | assumption | rfl | ((repeat' with_reducible apply And.intro) <;> first | rfl | assumption | omega)) : fnK Try.prog ((SdR ts).on [(10, true)]) noL Try.f31 [pt 0, w63 c] (dH true w ts cc) =
     (some (Res.ret (Value.tuple (Array.mk [Value.agg (Array.mk [Value.int IntKind.i64 (0 : Int), Value.int IntKind.u8 (0 : Int), Value.bool false, Value.int IntKind.i64 (0 : Int), Value.bool false,
     Value.int IntKind.i64 (0 : Int), Value.bool false]), Value.bool false])) [some (Blk.mk true (2 : Nat) [Seg.ints IntKind.i64 (1 : Nat) [w], Seg.vals [Value.slice (some (Addr.mk (1 : Nat) (0 : Nat)
     none)) ts.length cc]]), some (Blk.mk true (10 : Nat) [Seg.any (ts.length * (10 : Nat)) (flat ts)])])) :=
  Eq.trans (by kernel_rfl) (go_t (chk_t h1) rfl)
--CFEND
--CP pDEN (c w : Int) (cc : Nat) (ts : List Th) :: fnK Try.prog ((SdN ts).on [(10, false), (19, true)]) noL Try.f31 [pt 0, w63 c] (dH true w ts cc)
theorem pDEN (c w : Int) (cc : Nat) (ts : List Th)
    (h1 : ts.length = ts.length ∧ ts.length * (10 : Nat) = ts.length * (10 : Nat) ∧ flat ts = flat ts ∧ ts.length ≤ (60 : Nat) ∧ mayP ts c := by first | omega | assumption | rfl | ((repeat' with_reducible apply And.intro) <;> first | rfl | assumption | omega))
    (h2 : ts.length = ts.length ∧ ts.length * (10 : Nat) = ts.length * (10 : Nat) ∧ flat ts = flat ts ∧ ts.length ≤ (60 : Nat) ∧ waitI ts = (-1 : Int) := by first | omega | assumption | rfl | ((repeat' with_reducible apply And.intro) <;> first | rfl | assumption | omega))
    (h3 : ts.length = ts.length ∧ ts.length * (10 : Nat) = ts.length * (10 : Nat) ∧ flat ts = flat ts ∧ ts.length ≤ (60 : Nat) := by first | omega | assumption | rfl | ((repeat' with_reducible apply And.intro) <;> first | rfl | assumption | omega)) : fnK Try.prog ((SdN ts).on [(10, false), (19, true)]) noL Try.f31 [pt 0, w63 c] (dH true w ts cc) =
     (some (Res.ret (Value.tuple (Array.mk [Value.agg (Array.mk [Value.int IntKind.i64 (0 : Int), Value.int IntKind.u8 (0 : Int), Value.bool false, Value.int IntKind.i64 (0 : Int), Value.bool false,
     Value.int IntKind.i64 (0 : Int), Value.bool false]), Value.bool false])) [some (Blk.mk true (2 : Nat) [Seg.ints IntKind.i64 (1 : Nat) [w], Seg.vals [Value.slice (some (Addr.mk (2 : Nat) (0 : Nat)
     none)) (ts.length + (1 : Nat)) (1 : Nat)]]), some (Blk.mk true (10 : Nat) [Seg.any (ts.length * (10 : Nat)) (flat ts)]), some (Blk.mk true (10 : Nat) [Seg.any ((ts.length + (1 : Nat)) * (10 : Nat))
     (flat (ts ++ [Th.mk c true (Ms.mk (0 : Int) false (0 : Int) false (0 : Int) false) false false]))])])) :=
  Eq.trans (by kernel_rfl) (go_t (chk_t h1) (go_t (chk_t h2) (go_t (chk_t h3) rfl)))
--CFEND
--CP pDEO (c w : Int) (cc j : Nat) (ts : List Th) :: fnK Try.prog ((SdJ ts j).on [(10, false), (19, false), (42, true)]) noL Try.f31 [pt 0, w63 c] (dH true w ts cc)
theorem pDEO (c w : Int) (cc j : Nat) (ts : List Th)
    (w1 : -9223372036854775808 ≤ c - (((flat (ts ++ [Th.mk c true (Ms.mk (0 : Int) false (0 : Int) false (0 : Int) false) false false])).set (j * (10 : Nat) + (9 : Nat)) (FV.b true)).getD (j * (10 : Nat)) (FV.b false)).asI ∧ c - (((flat (ts ++ [Th.mk c true (Ms.mk (0 : Int) false (0 : Int) false (0 : Int) false) false false])).set (j * (10 : Nat) + (9 : Nat)) (FV.b true)).getD (j * (10 : Nat)) (FV.b false)).asI ≤ 9223372036854775807 := by omega)
    (h1 : ts.length = ts.length ∧ ts.length * (10 : Nat) = ts.length * (10 : Nat) ∧ flat ts = flat ts ∧ ts.length ≤ (60 : Nat) ∧ mayP ts c := by first | omega | assumption | rfl | ((repeat' with_reducible apply And.intro) <;> first | rfl | assumption | omega))
    (h2 : ts.length = ts.length ∧ ts.length * (10 : Nat) = ts.length * (10 : Nat) ∧ flat ts = flat ts ∧ ts.length ≤ (60 : Nat) ∧ waitI ts = (↑j : Int) := by first | omega | assumption | rfl | ((repeat' with_reducible apply And.intro) <;> first | rfl | assumption | omega))
    (h3 : ts.length = ts.length ∧ ts.length * (10 : Nat) = ts.length * (10 : Nat) ∧ flat ts = flat ts ∧ ts.length ≤ (60 : Nat) := by first | omega | assumption | rfl | ((repeat' with_reducible apply And.intro) <;> first | rfl | assumption | omega))
    (h4 : (0 : Int) ≤ (↑j : Int) := by first | omega | assumption | rfl)
    (h5 : (↑j : Int) < (↑(ts.length + (1 : Nat)) : Int) := by first | omega | assumption | rfl)
    (h6 : j * (10 : Nat) + (9 : Nat) < (ts.length + (1 : Nat)) * (10 : Nat) := by first | omega | assumption | rfl)
    (h7 : j * (10 : Nat) < (ts.length + (1 : Nat)) * (10 : Nat) := by first | omega | assumption | rfl)
    (h8 : FV.isI IntKind.i64 (((flat (ts ++ [Th.mk c true (Ms.mk (0 : Int) false (0 : Int) false (0 : Int) false) false false])).set (j * (10 : Nat) + (9 : Nat)) (FV.b true)).getD (j * (10 : Nat)) (FV.b false)) = true := by first | omega | assumption | rfl)
    (h9 : c - (((flat (ts ++ [Th.mk c true (Ms.mk (0 : Int) false (0 : Int) false (0 : Int) false) false false])).set (j * (10 : Nat) + (9 : Nat)) (FV.b true)).getD (j * (10 : Nat)) (FV.b false)).asI > w := by first | omega | assumption | rfl) : fnK Try.prog ((SdJ ts j).on [(10, false), (19, false), (42, true)]) noL Try.f31 [pt 0, w63 c] (dH true w ts cc) =
     (some (Res.ret (Value.tuple (Array.mk [Value.agg (Array.mk [Value.int IntKind.i64 (0 : Int), Value.int IntKind.u8 (0 : Int), Value.bool false, Value.int IntKind.i64 (0 : Int), Value.bool false,
     Value.int IntKind.i64 (0 : Int), Value.bool false]), Value.bool false])) [some (Blk.mk true (2 : Nat) [Seg.ints IntKind.i64 (1 : Nat) [w], Seg.vals [Value.slice (some (Addr.mk (2 : Nat) (0 : Nat)
     none)) (ts.length + (1 : Nat)) (1 : Nat)]]), some (Blk.mk true (10 : Nat) [Seg.any (ts.length * (10 : Nat)) (flat ts)]), some (Blk.mk true (10 : Nat) [Seg.any ((ts.length + (1 : Nat)) * (10 : Nat))
     ((flat (ts ++ [Th.mk c true (Ms.mk (0 : Int) false (0 : Int) false (0 : Int) false) false false])).set (j * (10 : Nat) + (9 : Nat)) (FV.b true))])])) :=
  Eq.trans (b :=
     bif chk (ts.length = ts.length ∧ ts.length * (10 : Nat) = ts.length * (10 : Nat) ∧ flat ts = flat ts ∧ ts.length ≤ (60 : Nat) ∧ mayP ts c) then bif chk (ts.length = ts.length ∧ ts.length * (10 : Nat)
     = ts.length * (10 : Nat) ∧ flat ts = flat ts ∧ ts.length ≤ (60 : Nat) ∧ waitI ts = (↑j : Int)) then bif chk (ts.length = ts.length ∧ ts.length * (10 : Nat) = ts.length * (10 : Nat) ∧ flat ts = flat ts
     ∧ ts.length ≤ (60 : Nat)) then bif decide ((0 : Int) ≤ (↑j : Int)) && decide ((↑j : Int) < (↑(ts.length + (1 : Nat)) : Int)) then bif ((0 : Nat) + (↑j : Int).toNat * (10 : Nat) + (9 : Nat)).blt
     ((ts.length + (1 : Nat)) * (10 : Nat)) then bif decide ((0 : Int) ≤ (↑j : Int)) && decide ((↑j : Int) < (↑(ts.length + (1 : Nat)) : Int)) then bif ((0 : Nat) + (↑j : Int).toNat * (10 : Nat)).blt
     ((ts.length + (1 : Nat)) * (10 : Nat)) then bif FV.isI IntKind.i64 (((flat (ts ++ [Th.mk c true (Ms.mk (0 : Int) false (0 : Int) false (0 : Int) false) false false])).set ((0 : Nat) + (↑j : Int).toNat
     * (10 : Nat) + (9 : Nat)) (FV.b true)).getD ((0 : Nat) + (↑j : Int).toNat * (10 : Nat)) (FV.b false)) then bif decide (IntKind.i64.wrap (c - (((flat (ts ++ [Th.mk c true (Ms.mk (0 : Int) false (0 :
     Int) false (0 : Int) false) false false])).set ((0 : Nat) + (↑j : Int).toNat * (10 : Nat) + (9 : Nat)) (FV.b true)).getD ((0 : Nat) + (↑j : Int).toNat * (10 : Nat)) (FV.b false)).asI) > w) then some
     (Res.ret (Value.tuple (Array.mk [Value.agg (Array.mk [Value.int IntKind.i64 (0 : Int), Value.int IntKind.u8 (0 : Int), Value.bool false, Value.int IntKind.i64 (0 : Int), Value.bool false, Value.int
     IntKind.i64 (0 : Int), Value.bool false]), Value.bool false])) [some (Blk.mk true (2 : Nat) [Seg.ints IntKind.i64 (1 : Nat) [w], Seg.vals [Value.slice (some (Addr.mk (2 : Nat) (0 : Nat) none))
     (ts.length + (1 : Nat)) (1 : Nat)]]), some (Blk.mk true (10 : Nat) [Seg.any (ts.length * (10 : Nat)) (flat ts)]), some (Blk.mk true (10 : Nat) [Seg.any ((ts.length + (1 : Nat)) * (10 : Nat)) ((flat
     (ts ++ [Th.mk c true (Ms.mk (0 : Int) false (0 : Int) false (0 : Int) false) false false])).set ((0 : Nat) + (↑j : Int).toNat * (10 : Nat) + (9 : Nat)) (FV.b true))])]) else none else none else none
     else none else none else none else none else none else none) (by kernel_rfl) (by simp only [-eq_self, Int.toNat_natCast, Nat.zero_add, swrap w1.1 w1.2]; exact (go_t (chk_t h1) (go_t (chk_t h2) (go_t (chk_t h3) (go_t (and_t (dec_t h4) (dec_t h5)) (go_t (blt_t h6) (go_t (and_t (dec_t h4) (dec_t h5)) (go_t (blt_t h7) (go_t h8 (go_t (dec_t h9) rfl))))))))))
--CFEND
--CP pDEI (c w : Int) (cc j : Nat) (ts : List Th) :: fnK Try.prog ((SdJ ts j).on [(10, false), (19, false), (42, false)]) noL Try.f31 [pt 0, w63 c] (dH true w ts cc)
theorem pDEI (c w : Int) (cc j : Nat) (ts : List Th)
    (w1 : -9223372036854775808 ≤ c - (((flat (ts ++ [Th.mk c true (Ms.mk (0 : Int) false (0 : Int) false (0 : Int) false) false false])).set (j * (10 : Nat) + (9 : Nat)) (FV.b true)).getD (j * (10 : Nat)) (FV.b false)).asI ∧ c - (((flat (ts ++ [Th.mk c true (Ms.mk (0 : Int) false (0 : Int) false (0 : Int) false) false false])).set (j * (10 : Nat) + (9 : Nat)) (FV.b true)).getD (j * (10 : Nat)) (FV.b false)).asI ≤ 9223372036854775807 := by omega)
    (w2 : -9223372036854775808 ≤ (↑(ts.length + (1 : Nat)) : Int) - (1 : Int) ∧ (↑(ts.length + (1 : Nat)) : Int) - (1 : Int) ≤ 9223372036854775807 := by omega)
    (h1 : ts.length = ts.length ∧ ts.length * (10 : Nat) = ts.length * (10 : Nat) ∧ flat ts = flat ts ∧ ts.length ≤ (60 : Nat) ∧ mayP ts c := by first | omega | assumption | rfl | ((repeat' with_reducible apply And.intro) <;> first | rfl | assumption | omega))
    (h2 : ts.length = ts.length ∧ ts.length * (10 : Nat) = ts.length * (10 : Nat) ∧ flat ts = flat ts ∧ ts.length ≤ (60 : Nat) ∧ waitI ts = (↑j : Int) := by first | omega | assumption | rfl | ((repeat' with_reducible apply And.intro) <;> first | rfl | assumption | omega))
    (h3 : ts.length = ts.length ∧ ts.length * (10 : Nat) = ts.length * (10 : Nat) ∧ flat ts = flat ts ∧ ts.length ≤ (60 : Nat) := by first | omega | assumption | rfl | ((repeat' with_reducible apply And.intro) <;> first | rfl | assumption | omega))
    (h4 : (0 : Int) ≤ (↑j : Int) := by first | omega | assumption | rfl)
    (h5 : (↑j : Int) < (↑(ts.length + (1 : Nat)) : Int) := by first | omega | assumption | rfl)
    (h6 : j * (10 : Nat) + (9 : Nat) < (ts.length + (1 : Nat)) * (10 : Nat) := by first | omega | assumption | rfl)
    (h7 : j * (10 : Nat) < (ts.length + (1 : Nat)) * (10 : Nat) := by first | omega | assumption | rfl)
    (h8 : FV.isI IntKind.i64 (((flat (ts ++ [Th.mk c true (Ms.mk (0 : Int) false (0 : Int) false (0 : Int) false) false false])).set (j * (10 : Nat) + (9 : Nat)) (FV.b true)).getD (j * (10 : Nat)) (FV.b false)) = true := by first | omega | assumption | rfl)
    (h9 : ¬c - (((flat (ts ++ [Th.mk c true (Ms.mk (0 : Int) false (0 : Int) false (0 : Int) false) false false])).set (j * (10 : Nat) + (9 : Nat)) (FV.b true)).getD (j * (10 : Nat)) (FV.b false)).asI > w := by first | omega | assumption | rfl)
    (h10 : (0 : Int) ≤ (↑(ts.length + (1 : Nat)) : Int) - (1 : Int) := by first | omega | assumption | rfl)
    (h11 : (↑(ts.length + (1 : Nat)) : Int) - (1 : Int) < (↑(ts.length + (1 : Nat)) : Int) := by first | omega | assumption | rfl)
    (h12 : ((↑(ts.length + (1 : Nat)) : Int) - (1 : Int)).toNat * (10 : Nat) + (8 : Nat) < (ts.length + (1 : Nat)) * (10 : Nat) := by first | omega | assumption | rfl)
    (h13 : j * (10 : Nat) + (2 : Nat) < (ts.length + (1 : Nat)) * (10 : Nat) := by first | omega | assumption | rfl)
    (h14 : FV.isI IntKind.u8 ((((flat (ts ++ [Th.mk c true (Ms.mk (0 : Int) false (0 : Int) false (0 : Int) false) false false])).set (j * (10 : Nat) + (9 : Nat)) (FV.b true)).set (((↑(ts.length + (1 : Nat)) : Int) - (1 : Int)).toNat * (10 : Nat) + (8 : Nat)) (FV.b true)).getD (j * (10 : Nat) + (2 : Nat)) (FV.b false)) = true := by first | omega | assumption | rfl)
    (h15 : j * (10 : Nat) + (3 : Nat) < (ts.length + (1 : Nat)) * (10 : Nat) := by first | omega | assumption | rfl)
    (h16 : ((((flat (ts ++ [Th.mk c true (Ms.mk (0 : Int) false (0 : Int) false (0 : Int) false) false false])).set (j * (10 : Nat) + (9 : Nat)) (FV.b true)).set (((↑(ts.length + (1 : Nat)) : Int) - (1 : Int)).toNat * (10 : Nat) + (8 : Nat)) (FV.b true)).getD (j * (10 : Nat) + (3 : Nat)) (FV.b false)).isB = true := by first | omega | assumption | rfl)
    (h17 : j * (10 : Nat) + (4 : Nat) < (ts.length + (1 : Nat)) * (10 : Nat) := by first | omega | assumption | rfl)
    (h18 : FV.isI IntKind.i64 ((((flat (ts ++ [Th.mk c true (Ms.mk (0 : Int) false (0 : Int) false (0 : Int) false) false false])).set (j * (10 : Nat) + (9 : Nat)) (FV.b true)).set (((↑(ts.length + (1 : Nat)) : Int) - (1 : Int)).toNat * (10 : Nat) + (8 : Nat)) (FV.b true)).getD (j * (10 : Nat) + (4 : Nat)) (FV.b false)) = true := by first | omega | assumption | rfl)
    (h19 : j * (10 : Nat) + (5 : Nat) < (ts.length + (1 : Nat)) * (10 : Nat) := by first | omega | assumption | rfl)
    (h20 : ((((flat (ts ++ [Th.mk c true (Ms.mk (0 : Int) false (0 : Int) false (0 : Int) false) false false])).set (j * (10 : Nat) + (9 : Nat)) (FV.b true)).set (((↑(ts.length + (1 : Nat)) : Int) - (1 : Int)).toNat * (10 : Nat) + (8 : Nat)) (FV.b true)).getD (j * (10 : Nat) + (5 : Nat)) (FV.b false)).isB = true := by first | omega | assumption | rfl)
    (h21 : j * (10 : Nat) + (6 : Nat) < (ts.length + (1 : Nat)) * (10 : Nat) := by first | omega | assumption | rfl)
    (h22 : FV.isI IntKind.i64 ((((flat (ts ++ [Th.mk c true (Ms.mk (0 : Int) false (0 : Int) false (0 : Int) false) false false])).set (j * (10 : Nat) + (9 : Nat)) (FV.b true)).set (((↑(ts.length + (1 : Nat)) : Int) - (1 : Int)).toNat * (10 : Nat) + (8 : Nat)) (FV.b true)).getD (j * (10 : Nat) + (6 : Nat)) (FV.b false)) = true := by first | omega | assumption | rfl)
    (h23 : j * (10 : Nat) + (7 : Nat) < (ts.length + (1 : Nat)) * (10 : Nat) := by first | omega | assumption | rfl)
    (h24 : ((((flat (ts ++ [Th.mk c true (Ms.mk (0 : Int) false (0 : Int) false (0 : Int) false) false false])).set (j * (10 : Nat) + (9 : Nat)) (FV.b true)).set (((↑(ts.length + (1 : Nat)) : Int) - (1 : Int)).toNat * (10 : Nat) + (8 : Nat)) (FV.b true)).getD (j * (10 : Nat) + (7 : Nat)) (FV.b false)).isB = true := by first | omega | assumption | rfl) : fnK Try.prog ((SdJ ts j).on [(10, false), (19, false), (42, false)]) noL Try.f31 [pt 0, w63 c] (dH true w ts cc) =
     (some (Res.ret (Value.tuple (Array.mk [Value.agg (Array.mk [Value.int IntKind.i64 c, Value.int IntKind.u8 ((((flat (ts ++ [Th.mk c true (Ms.mk (0 : Int) false (0 : Int) false (0 : Int) false) false
     false])).set (j * (10 : Nat) + (9 : Nat)) (FV.b true)).set (((↑(ts.length + (1 : Nat)) : Int) - (1 : Int)).toNat * (10 : Nat) + (8 : Nat)) (FV.b true)).getD (j * (10 : Nat) + (2 : Nat)) (FV.b
     false)).asI, Value.bool ((((flat (ts ++ [Th.mk c true (Ms.mk (0 : Int) false (0 : Int) false (0 : Int) false) false false])).set (j * (10 : Nat) + (9 : Nat)) (FV.b true)).set (((↑(ts.length + (1 :
     Nat)) : Int) - (1 : Int)).toNat * (10 : Nat) + (8 : Nat)) (FV.b true)).getD (j * (10 : Nat) + (3 : Nat)) (FV.b false)).asB, Value.int IntKind.i64 ((((flat (ts ++ [Th.mk c true (Ms.mk (0 : Int) false (0 : Int) false (0 : Int)
     false) false false])).set (j * (10 : Nat) + (9 : Nat)) (FV.b true)).set (((↑(ts.length + (1 : Nat)) : Int) - (1 : Int)).toNat * (10 : Nat) + (8 : Nat)) (FV.b true)).getD (j * (10 : Nat) + (4 : Nat))
     (FV.b false)).asI,
     Value.bool ((((flat (ts ++ [Th.mk c true (Ms.mk (0 : Int) false (0 : Int) false (0 : Int) false) false false])).set (j * (10 : Nat) + (9 : Nat)) (FV.b true)).set (((↑(ts.length + (1 : Nat)) : Int) -
     (1 : Int)).toNat * (10 : Nat) + (8 : Nat)) (FV.b true)).getD (j * (10 : Nat) + (5 : Nat)) (FV.b false)).asB, Value.int IntKind.i64 ((((flat (ts ++ [Th.mk c true (Ms.mk (0 : Int) false (0 : Int) false (0 : Int) false) false false])).set (j * (10 : Nat) + (9 : Nat)) (FV.b true)).set
     (((↑(ts.length + (1 : Nat)) : Int) - (1 : Int)).toNat * (10 : Nat) + (8 : Nat)) (FV.b true)).getD (j * (10 : Nat) + (6 : Nat)) (FV.b false)).asI, Value.bool ((((flat (ts ++ [Th.mk c true (Ms.mk (0 : Int) false (0 : Int) false (0 : Int) false) false false])).set (j * (10 : Nat) + (9 : Nat))
     (FV.b true)).set (((↑(ts.length + (1 : Nat)) : Int) - (1 : Int)).toNat * (10 : Nat) + (8 : Nat)) (FV.b true)).getD (j * (10 : Nat) + (7 : Nat)) (FV.b false)).asB]), Value.bool true])) [some (Blk.mk
     true (2 : Nat) [Seg.ints IntKind.i64 (1 : Nat) [w], Seg.vals [Value.slice (some (Addr.mk (2 : Nat) (0 : Nat) none)) (ts.length + (1 : Nat)) (1 : Nat)]]), some (Blk.mk true (10 : Nat) [Seg.any
     (ts.length * (10 : Nat)) (flat ts)]), some (Blk.mk true (10 : Nat) [Seg.any ((ts.length + (1 : Nat)) * (10 : Nat)) (((flat (ts ++ [Th.mk c true (Ms.mk (0 : Int) false (0 : Int) false (0 : Int) false)
     false false])).set (j * (10 : Nat) + (9 : Nat)) (FV.b true)).set (((↑(ts.length + (1 : Nat)) : Int) - (1 : Int)).toNat * (10 : Nat) + (8 : Nat)) (FV.b true))])])) :=
  Eq.trans (b :=
     bif chk (ts.length = ts.length ∧ ts.length * (10 : Nat) = ts.length * (10 : Nat) ∧ flat ts = flat ts ∧ ts.length ≤ (60 : Nat) ∧ mayP ts c) then bif chk (ts.length = ts.length ∧ ts.length * (10 : Nat)
     = ts.length * (10 : Nat) ∧ flat ts = flat ts ∧ ts.length ≤ (60 : Nat) ∧ waitI ts = (↑j : Int)) then bif chk (ts.length = ts.length ∧ ts.length * (10 : Nat) = ts.length * (10 : Nat) ∧ flat ts = flat ts
     ∧ ts.length ≤ (60 : Nat)) then bif decide ((0 : Int) ≤ (↑j : Int)) && decide ((↑j : Int) < (↑(ts.length + (1 : Nat)) : Int)) then bif ((0 : Nat) + (↑j : Int).toNat * (10 : Nat) + (9 : Nat)).blt
     ((ts.length + (1 : Nat)) * (10 : Nat)) then bif decide ((0 : Int) ≤ (↑j : Int)) && decide ((↑j : Int) < (↑(ts.length + (1 : Nat)) : Int)) then bif ((0 : Nat) + (↑j : Int).toNat * (10 : Nat)).blt
     ((ts.length + (1 : Nat)) * (10 : Nat)) then bif FV.isI IntKind.i64 (((flat (ts ++ [Th.mk c true (Ms.mk (0 : Int) false (0 : Int) false (0 : Int) false) false false])).set ((0 : Nat) + (↑j : Int).toNat
     * (10 : Nat) + (9 : Nat)) (FV.b true)).getD ((0 : Nat) + (↑j : Int).toNat * (10 : Nat)) (FV.b false)) then bif decide (IntKind.i64.wrap (c - (((flat (ts ++ [Th.mk c true (Ms.mk (0 : Int) false (0 :
     Int) false (0 : Int) false) false false])).set ((0 : Nat) + (↑j : Int).toNat * (10 : Nat) + (9 : Nat)) (FV.b true)).getD ((0 : Nat) + (↑j : Int).toNat * (10 : Nat)) (FV.b false)).asI) > w) then none
     else bif decide ((0 : Int) ≤ IntKind.i64.wrap ((↑(ts.length + (1 : Nat)) : Int) - (1 : Int))) && decide (IntKind.i64.wrap ((↑(ts.length + (1 : Nat)) : Int) - (1 : Int)) < (↑(ts.length + (1 : Nat)) :
     Int)) then bif ((0 : Nat) + (IntKind.i64.wrap ((↑(ts.length + (1 : Nat)) : Int) - (1 : Int))).toNat * (10 : Nat) + (8 : Nat)).blt ((ts.length + (1 : Nat)) * (10 : Nat)) then bif decide ((0 : Int) ≤
     (↑j : Int)) && decide ((↑j : Int) < (↑(ts.length + (1 : Nat)) : Int)) then bif ((0 : Nat) + (↑j : Int).toNat * (10 : Nat) + (2 : Nat)).blt ((ts.length + (1 : Nat)) * (10 : Nat)) then bif FV.isI
     IntKind.u8 ((((flat (ts ++ [Th.mk c true (Ms.mk (0 : Int) false (0 : Int) false (0 : Int) false) false false])).set ((0 : Nat) + (↑j : Int).toNat * (10 : Nat) + (9 : Nat)) (FV.b true)).set ((0 : Nat)
     + (IntKind.i64.wrap ((↑(ts.length + (1 : Nat)) : Int) - (1 : Int))).toNat * (10 : Nat) + (8 : Nat)) (FV.b true)).getD ((0 : Nat) + (↑j : Int).toNat * (10 : Nat) + (2 : Nat)) (FV.b false)) then bif ((0
     : Nat) + (↑j : Int).toNat * (10 : Nat) + (2 : Nat) + (1 : Nat)).blt ((ts.length + (1 : Nat)) * (10 : Nat)) then bif ((((flat (ts ++ [Th.mk c true (Ms.mk (0 : Int) false (0 : Int) false (0 : Int)
     false) false false])).set ((0 : Nat) + (↑j : Int).toNat * (10 : Nat) + (9 : Nat)) (FV.b true)).set ((0 : Nat) + (IntKind.i64.wrap ((↑(ts.length + (1 : Nat)) : Int) - (1 : Int))).toNat * (10 : Nat) +
     (8 : Nat)) (FV.b true)).getD ((0 : Nat) + (↑j : Int).toNat * (10 : Nat) + (2 : Nat) + (1 : Nat)) (FV.b false)).isB then bif ((0 : Nat) + (↑j : Int).toNat * (10 : Nat) + (2 : Nat) + (1 : Nat) + (1 :
     Nat)).blt ((ts.length + (1 : Nat)) * (10 : Nat)) then bif FV.isI IntKind.i64 ((((flat (ts ++ [Th.mk c true (Ms.mk (0 : Int) false (0 : Int) false (0 : Int) false) false false])).set ((0 : Nat) + (↑j :
     Int).toNat * (10 : Nat) + (9 : Nat)) (FV.b true)).set ((0 : Nat) + (IntKind.i64.wrap ((↑(ts.length + (1 : Nat)) : Int) - (1 : Int))).toNat * (10 : Nat) + (8 : Nat)) (FV.b true)).getD ((0 : Nat) + (↑j
     : Int).toNat * (10 : Nat) + (2 : Nat) + (1 : Nat) + (1 : Nat)) (FV.b false)) then bif ((0 : Nat) + (↑j : Int).toNat * (10 : Nat) + (2 : Nat) + (1 : Nat) + (1 : Nat) + (1 : Nat)).blt ((ts.length + (1 :
     Nat)) * (10 : Nat)) then bif ((((flat (ts ++ [Th.mk c true (Ms.mk (0 : Int) false (0 : Int) false (0 : Int) false) false false])).set ((0 : Nat) + (↑j : Int).toNat * (10 : Nat) + (9 : Nat)) (FV.b
     true)).set ((0 : Nat) + (IntKind.i64.wrap ((↑(ts.length + (1 : Nat)) : Int) - (1 : Int))).toNat * (10 : Nat) + (8 : Nat)) (FV.b true)).getD ((0 : Nat) + (↑j : Int).toNat * (10 : Nat) + (2 : Nat) + (1
     : Nat) + (1 : Nat) + (1 : Nat)) (FV.b false)).isB then bif ((0 : Nat) + (↑j : Int).toNat * (10 : Nat) + (2 : Nat) + (1 : Nat) + (1 : Nat) + (1 : Nat) + (1 : Nat)).blt ((ts.length + (1 : Nat)) * (10 :
     Nat)) then bif FV.isI IntKind.i64 ((((flat (ts ++ [Th.mk c true (Ms.mk (0 : Int) false (0 : Int) false (0 : Int) false) false false])).set ((0 : Nat) + (↑j : Int).toNat * (10 : Nat) + (9 : Nat)) (FV.b
     true)).set ((0 : Nat) + (IntKind.i64.wrap ((↑(ts.length + (1 : Nat)) : Int) - (1 : Int))).toNat * (10 : Nat) + (8 : Nat)) (FV.b true)).getD ((0 : Nat) + (↑j : Int).toNat * (10 : Nat) + (2 : Nat) + (1
     : Nat) + (1 : Nat) + (1 : Nat) + (1 : Nat)) (FV.b false)) then bif ((0 : Nat) + (↑j : Int).toNat * (10 : Nat) + (2 : Nat) + (1 : Nat) + (1 : Nat) + (1 : Nat) + (1 : Nat) + (1 : Nat)).blt ((ts.length +
     (1 : Nat)) * (10 : Nat)) then bif ((((flat (ts ++ [Th.mk c true (Ms.mk (0 : Int) false (0 : Int) false (0 : Int) false) false false])).set ((0 : Nat) + (↑j : Int).toNat * (10 : Nat) + (9 : Nat)) (FV.b
     true)).set ((0 : Nat) + (IntKind.i64.wrap ((↑(ts.length + (1 : Nat)) : Int) - (1 : Int))).toNat * (10 : Nat) + (8 : Nat)) (FV.b true)).getD ((0 : Nat) + (↑j : Int).toNat * (10 : Nat) + (2 : Nat) + (1
     : Nat) + (1 : Nat) + (1 : Nat) + (1 : Nat) + (1 : Nat)) (FV.b false)).isB then some (Res.ret (Value.tuple (Array.mk [Value.agg (Array.mk [Value.int IntKind.i64 c, Value.int IntKind.u8 ((((flat (ts ++
     [Th.mk c true (Ms.mk (0 : Int) false (0 : Int) false (0 : Int) false) false false])).set ((0 : Nat) + (↑j : Int).toNat * (10 : Nat) + (9 : Nat)) (FV.b true)).set ((0 : Nat) + (IntKind.i64.wrap
     ((↑(ts.length + (1 : Nat)) : Int) - (1 : Int))).toNat * (10 : Nat) + (8 : Nat)) (FV.b true)).getD ((0 : Nat) + (↑j : Int).toNat * (10 : Nat) + (2 : Nat)) (FV.b false)).asI, Value.bool ((((flat (ts ++
     [Th.mk c true (Ms.mk (0 : Int) false (0 : Int) false (0 : Int) false) false false])).set ((0 : Nat) + (↑j : Int).toNat * (10 : Nat) + (9 : Nat)) (FV.b true)).set ((0 : Nat) + (IntKind.i64.wrap
     ((↑(ts.length + (1 : Nat)) : Int) - (1 : Int))).toNat * (10 : Nat) + (8 : Nat)) (FV.b true)).getD ((0 : Nat) + (↑j : Int).toNat * (10 : Nat) + (2 : Nat) + (1 : Nat)) (FV.b false)).asB, Value.int
     IntKind.i64 ((((flat (ts ++ [Th.mk c true (Ms.mk (0 : Int) false (0 : Int) false (0 : Int) false) false false])).set ((0 : Nat) + (↑j
     : Int).toNat * (10 : Nat) + (9 : Nat)) (FV.b true)).set ((0 : Nat) + (IntKind.i64.wrap ((↑(ts.length + (1 : Nat)) : Int) - (1 : Int))).toNat * (10 : Nat) + (8 : Nat)) (FV.b true)).getD ((0 : Nat) +
     (↑j : Int).toNat * (10 : Nat) + (2 : Nat) + (1 : Nat) + (1 : Nat)) (FV.b false)).asI, Value.bool ((((flat (ts ++ [Th.mk c
     true (Ms.mk (0 : Int) false (0 : Int) false (0 : Int) false) false false])).set ((0 : Nat) + (↑j : Int).toNat * (10 : Nat) + (9 : Nat)) (FV.b true)).set ((0 : Nat) + (IntKind.i64.wrap ((↑(ts.length +
     (1 : Nat)) : Int) - (1 : Int))).toNat * (10 : Nat) + (8 : Nat)) (FV.b true)).getD ((0 : Nat) + (↑j : Int).toNat * (10 : Nat) + (2 : Nat) + (1 : Nat) + (1 : Nat) + (1 : Nat)) (FV.b false)).asB,
     Value.int IntKind.i64 ((((flat (ts ++ [Th.mk c true (Ms.mk (0 : Int) false (0 : Int) false (0 : Int) false) false false])).set ((0 : Nat) + (↑j : Int).toNat * (10 : Nat) + (9 : Nat))
     (FV.b true)).set ((0 : Nat) + (IntKind.i64.wrap ((↑(ts.length + (1 : Nat)) : Int) - (1 : Int))).toNat * (10 : Nat) + (8 : Nat)) (FV.b true)).getD ((0 : Nat) + (↑j : Int).toNat * (10 : Nat) + (2 : Nat)
     + (1 : Nat) + (1 : Nat) + (1 : Nat) + (1 : Nat)) (FV.b false)).asI, Value.bool ((((flat (ts ++ [Th.mk c true (Ms.mk (0 : Int) false (0 : Int) false (0 : Int) false) false false])).set ((0 : Nat) + (↑j : Int).toNat *
     (10 : Nat) + (9 : Nat)) (FV.b true)).set ((0 : Nat) + (IntKind.i64.wrap ((↑(ts.length + (1 : Nat)) : Int) - (1 : Int))).toNat * (10 : Nat) + (8 : Nat)) (FV.b true)).getD ((0 : Nat) + (↑j : Int).toNat
     * (10 : Nat) + (2 : Nat) + (1 : Nat) + (1 : Nat) + (1 : Nat) + (1 : Nat) + (1 : Nat)) (FV.b false)).asB]), Value.bool true])) [some (Blk.mk true (2 : Nat) [Seg.ints IntKind.i64 (1 : Nat) [w], Seg.vals
     [Value.slice (some (Addr.mk (2 : Nat) (0 : Nat) none)) (ts.length + (1 : Nat)) (1 : Nat)]]), some (Blk.mk true (10 : Nat) [Seg.any (ts.length * (10 : Nat)) (flat ts)]), some (Blk.mk true (10 : Nat)
     [Seg.any ((ts.length + (1 : Nat)) * (10 : Nat)) (((flat (ts ++ [Th.mk c true (Ms.mk (0 : Int) false (0 : Int) false (0 : Int) false) false false])).set ((0 : Nat) + (↑j : Int).toNat * (10 : Nat) + (9
     : Nat)) (FV.b true)).set ((0 : Nat) + (IntKind.i64.wrap ((↑(ts.length + (1 : Nat)) : Int) - (1 : Int))).toNat * (10 : Nat) + (8 : Nat)) (FV.b true))])]) else none else none else none else none else
     none else none else none else none else none else none else none else none else none else none else none else none else none else none else none else none else none else none else none) (by kernel_rfl) (by simp only [-eq_self, Int.toNat_natCast, Nat.zero_add, swrap w1.1 w1.2, swrap w2.1 w2.2]; exact (go_t (chk_t h1) (go_t (chk_t h2) (go_t (chk_t h3) (go_t (and_t (dec_t h4) (dec_t h5)) (go_t (blt_t h6) (go_t (and_t (dec_t h4) (dec_t h5)) (go_t (blt_t h7) (go_t h8 (go_f (dec_f h9) (go_t (and_t (dec_t h10) (dec_t h11)) (go_t (blt_t h12) (go_t (and_t (dec_t h4) (dec_t h5)) (go_t (blt_t h13) (go_t h14 (go_t (blt_t h15) (go_t h16 (go_t (blt_t h17) (go_t h18 (go_t (blt_t h19) (go_t h20 (go_t (blt_t h21) (go_t h22 (go_t (blt_t h23) (go_t h24 rfl)))))))))))))))))))))))))
--CFEND
--CP pDMR (c w : Int) (cc : Nat) (ts : List Th) (x : Ms) :: fnK Try.prog ((SdR ts).on [(13, true)]) noL Try.f32 [pt 0, w63 c, msV x] (dH true w ts cc)
theorem pDMR (c w : Int) (cc : Nat) (ts : List Th) (x : Ms)
    (h1 : ts.length = ts.length ∧ ts.length * (10 : Nat) = ts.length * (10 : Nat) ∧ flat ts = flat ts ∧ ts.length ≤ (60 : Nat) ∧ ¬mayP ts c := by first | omega | assumption | rfl | ((repeat' with_reducible apply And.intro) <;> first | rfl | assumption | omega)) : fnK Try.prog ((SdR ts).on [(13, true)]) noL Try.f32 [pt 0, w63 c, msV x] (dH true w ts cc) =
     (some (Res.ret (Value.tuple (Array.mk [Value.agg (Array.mk [Value.int IntKind.i64 (0 : Int), Value.int IntKind.u8 (0 : Int), Value.bool false, Value.int IntKind.i64 (0 : Int), Value.bool false,
     Value.int IntKind.i64 (0 : Int), Value.bool false]), Value.bool false])) [some (Blk.mk true (2 : Nat) [Seg.ints IntKind.i64 (1 : Nat) [w], Seg.vals [Value.slice (some (Addr.mk (1 : Nat) (0 : Nat)
     none)) ts.length cc]]), some (Blk.mk true (10 : Nat) [Seg.any (ts.length * (10 : Nat)) (flat ts)])])) :=
  Eq.trans (by kernel_rfl) (go_t (chk_t h1) rfl)
--CFEND
--CP pDMN0 (c w : Int) (cc : Nat) (ts : List Th) (x : Ms) :: fnK Try.prog ((SmN ts).on [(13, false), (34, true)]) noL Try.f32 [pt 0, w63 c, msV x] (dH true w ts cc)
theorem pDMN0 (c w : Int) (cc : Nat) (ts : List Th) (x : Ms)
    (h1 : ts.length = ts.length ∧ ts.length * (10 : Nat) = ts.length * (10 : Nat) ∧ flat ts = flat ts ∧ ts.length ≤ (60 : Nat) ∧ mayP ts c := by first | omega | assumption | rfl | ((repeat' with_reducible apply And.intro) <;> first | rfl | assumption | omega))
    (h2 : ts.length = ts.length ∧ ts.length * (10 : Nat) = ts.length * (10 : Nat) ∧ flat ts = flat ts ∧ ts.length ≤ (60 : Nat) ∧ lastI ts = (-1 : Int) := by first | omega | assumption | rfl | ((repeat' with_reducible apply And.intro) <;> first | rfl | assumption | omega))
    (h3 : ts.length = ts.length ∧ ts.length * (10 : Nat) = ts.length * (10 : Nat) ∧ flat ts = flat ts ∧ ts.length ≤ (60 : Nat) ∧ RiseT ts := by first | omega | assumption | rfl | ((repeat' with_reducible apply And.intro) <;> first | rfl | assumption | omega))
    (h4 : (logT ts ts.length).o + (logT ts ts.length).q ≤ (logT ts ts.length).N ∧ (logT ts ts.length).q ≤ (1000 : Nat) := by first | omega | assumption | rfl | ((repeat' with_reducible apply And.intro) <;> first | rfl | assumption | omega))
    (h5 : ts.length = ts.length ∧ ts.length * (10 : Nat) = ts.length * (10 : Nat) ∧ flat ts = flat ts ∧ ts.length ≤ (60 : Nat) := by first | omega | assumption | rfl | ((repeat' with_reducible apply And.intro) <;> first | rfl | assumption | omega))
    (h6 : x.n = true := by first | omega | assumption | rfl) : fnK Try.prog ((SmN ts).on [(13, false), (34, true)]) noL Try.f32 [pt 0, w63 c, msV x] (dH true w ts cc) =
     (some (Res.ret (Value.tuple (Array.mk [Value.agg (Array.mk [Value.int IntKind.i64 (0 : Int), Value.int IntKind.u8 (0 : Int), Value.bool false, Value.int IntKind.i64 (0 : Int), Value.bool false,
     Value.int IntKind.i64 (0 : Int), Value.bool false]), Value.bool false])) [some (Blk.mk true (2 : Nat) [Seg.ints IntKind.i64 (1 : Nat) [w], Seg.vals [Value.slice (some (Addr.mk (2 : Nat) (0 : Nat)
     none)) (ts.length + (1 : Nat)) (1 : Nat)]]), some (Blk.mk true (10 : Nat) [Seg.any (ts.length * (10 : Nat)) (flat ts)]), some (Blk.mk true (10 : Nat) [Seg.any ((ts.length + (1 : Nat)) * (10 : Nat))
     (flat (ts ++ [Th.mk c false x false false]))])])) :=
  Eq.trans (by kernel_rfl) (go_t (chk_t h1) (go_t (chk_t h2) (go_t (chk_t h3) (go_t (chk_t h4) (go_t (chk_t h5) (go_t h6 rfl))))))
--CFEND
--CP pDMNj (c w : Int) (cc j : Nat) (ts : List Th) (x : Ms) :: fnK Try.prog ((SmJ ts j).on [(13, false), (34, true)]) noL Try.f32 [pt 0, w63 c, msV x] (dH true w ts cc)
theorem pDMNj (c w : Int) (cc j : Nat) (ts : List Th) (x : Ms)
    (h1 : ts.length = ts.length ∧ ts.length * (10 : Nat) = ts.length * (10 : Nat) ∧ flat ts = flat ts ∧ ts.length ≤ (60 : Nat) ∧ mayP ts c := by first | omega | assumption | rfl | ((repeat' with_reducible apply And.intro) <;> first | rfl | assumption | omega))
    (h2 : ts.length = ts.length ∧ ts.length * (10 : Nat) = ts.length * (10 : Nat) ∧ flat ts = flat ts ∧ ts.length ≤ (60 : Nat) ∧ lastI ts = (↑j : Int) := by first | omega | assumption | rfl | ((repeat' with_reducible apply And.intro) <;> first | rfl | assumption | omega))
    (h3 : ts.length = ts.length ∧ ts.length * (10 : Nat) = ts.length * (10 : Nat) ∧ flat ts = flat ts ∧ ts.length ≤ (60 : Nat) ∧ RiseT ts := by first | omega | assumption | rfl | ((repeat' with_reducible apply And.intro) <;> first | rfl | assumption | omega))
    (h4 : (logT ts ts.length).o + (logT ts ts.length).q ≤ (logT ts ts.length).N ∧ (logT ts ts.length).q ≤ (1000 : Nat) := by first | omega | assumption | rfl | ((repeat' with_reducible apply And.intro) <;> first | rfl | assumption | omega))
    (h5 : ts.length = ts.length ∧ ts.length * (10 : Nat) = ts.length * (10 : Nat) ∧ flat ts = flat ts ∧ ts.length ≤ (60 : Nat) := by first | omega | assumption | rfl | ((repeat' with_reducible apply And.intro) <;> first | rfl | assumption | omega))
    (h6 : x.n = true := by first | omega | assumption | rfl) : fnK Try.prog ((SmJ ts j).on [(13, false), (34, true)]) noL Try.f32 [pt 0, w63 c, msV x] (dH true w ts cc) =
     (some (Res.ret (Value.tuple (Array.mk [Value.agg (Array.mk [Value.int IntKind.i64 (0 : Int), Value.int IntKind.u8 (0 : Int), Value.bool false, Value.int IntKind.i64 (0 : Int), Value.bool false,
     Value.int IntKind.i64 (0 : Int), Value.bool false]), Value.bool false])) [some (Blk.mk true (2 : Nat) [Seg.ints IntKind.i64 (1 : Nat) [w], Seg.vals [Value.slice (some (Addr.mk (2 : Nat) (0 : Nat)
     none)) (ts.length + (1 : Nat)) (1 : Nat)]]), some (Blk.mk true (10 : Nat) [Seg.any (ts.length * (10 : Nat)) (flat ts)]), some (Blk.mk true (10 : Nat) [Seg.any ((ts.length + (1 : Nat)) * (10 : Nat))
     (flat (ts ++ [Th.mk c false x false false]))])])) :=
  Eq.trans (by kernel_rfl) (go_t (chk_t h1) (go_t (chk_t h2) (go_t (chk_t h3) (go_t (chk_t h4) (go_t (chk_t h5) (go_t h6 rfl))))))
--CFEND
--CP pDMX0 (c w : Int) (cc : Nat) (ts : List Th) (x : Ms) :: fnK Try.prog ((SmN ts).on [(13, false), (34, false), (38, true)]) noL Try.f32 [pt 0, w63 c, msV x] (dH true w ts cc)
theorem pDMX0 (c w : Int) (cc : Nat) (ts : List Th) (x : Ms)
    (h1 : ts.length = ts.length ∧ ts.length * (10 : Nat) = ts.length * (10 : Nat) ∧ flat ts = flat ts ∧ ts.length ≤ (60 : Nat) ∧ mayP ts c := by first | omega | assumption | rfl | ((repeat' with_reducible apply And.intro) <;> first | rfl | assumption | omega))
    (h2 : ts.length = ts.length ∧ ts.length * (10 : Nat) = ts.length * (10 : Nat) ∧ flat ts = flat ts ∧ ts.length ≤ (60 : Nat) ∧ lastI ts = (-1 : Int) := by first | omega | assumption | rfl | ((repeat' with_reducible apply And.intro) <;> first | rfl | assumption | omega))
    (h3 : ts.length = ts.length ∧ ts.length * (10 : Nat) = ts.length * (10 : Nat) ∧ flat ts = flat ts ∧ ts.length ≤ (60 : Nat) ∧ RiseT ts := by first | omega | assumption | rfl | ((repeat' with_reducible apply And.intro) <;> first | rfl | assumption | omega))
    (h4 : (logT ts ts.length).o + (logT ts ts.length).q ≤ (logT ts ts.length).N ∧ (logT ts ts.length).q ≤ (1000 : Nat) := by first | omega | assumption | rfl | ((repeat' with_reducible apply And.intro) <;> first | rfl | assumption | omega))
    (h5 : ts.length = ts.length ∧ ts.length * (10 : Nat) = ts.length * (10 : Nat) ∧ flat ts = flat ts ∧ ts.length ≤ (60 : Nat) := by first | omega | assumption | rfl | ((repeat' with_reducible apply And.intro) <;> first | rfl | assumption | omega))
    (h6 : x.n = false := by first | omega | assumption | rfl) : fnK Try.prog ((SmN ts).on [(13, false), (34, false), (38, true)]) noL Try.f32 [pt 0, w63 c, msV x] (dH true w ts cc) =
     (some (Res.ret (Value.tuple (Array.mk [Value.agg (Array.mk [Value.int IntKind.i64 (0 : Int), Value.int IntKind.u8 (0 : Int), Value.bool false, Value.int IntKind.i64 (0 : Int), Value.bool false,
     Value.int IntKind.i64 (0 : Int), Value.bool false]), Value.bool false])) [some (Blk.mk true (2 : Nat) [Seg.ints IntKind.i64 (1 : Nat) [w], Seg.vals [Value.slice (some (Addr.mk (2 : Nat) (0 : Nat)
     none)) (ts.length + (1 : Nat)) (1 : Nat)]]), some (Blk.mk true (10 : Nat) [Seg.any (ts.length * (10 : Nat)) (flat ts)]), some (Blk.mk true (10 : Nat) [Seg.any ((ts.length + (1 : Nat)) * (10 : Nat))
     (flat (ts ++ [Th.mk c false x false false]))])])) :=
  Eq.trans (by kernel_rfl) (go_t (chk_t h1) (go_t (chk_t h2) (go_t (chk_t h3) (go_t (chk_t h4) (go_t (chk_t h5) (go_f h6 rfl))))))
--CFEND
--CP pDMX1 (c w : Int) (cc j : Nat) (ts : List Th) (x : Ms) :: fnK Try.prog ((SmJ ts j).on [(13, false), (34, false), (38, false), (48, true)]) noL Try.f32 [pt 0, w63 c, msV x] (dH true w ts cc)
theorem pDMX1 (c w : Int) (cc j : Nat) (ts : List Th) (x : Ms)
    (h1 : ts.length = ts.length ∧ ts.length * (10 : Nat) = ts.length * (10 : Nat) ∧ flat ts = flat ts ∧ ts.length ≤ (60 : Nat) ∧ mayP ts c := by first | omega | assumption | rfl | ((repeat' with_reducible apply And.intro) <;> first | rfl | assumption | omega))
    (h2 : ts.length = ts.length ∧ ts.length * (10 : Nat) = ts.length * (10 : Nat) ∧ flat ts = flat ts ∧ ts.length ≤ (60 : Nat) ∧ lastI ts = (↑j : Int) := by first | omega | assumption | rfl | ((repeat' with_reducible apply And.intro) <;> first | rfl | assumption | omega))
    (h3 : ts.length = ts.length ∧ ts.length * (10 : Nat) = ts.length * (10 : Nat) ∧ flat ts = flat ts ∧ ts.length ≤ (60 : Nat) ∧ RiseT ts := by first | omega | assumption | rfl | ((repeat' with_reducible apply And.intro) <;> first | rfl | assumption | omega))
    (h4 : (logT ts ts.length).o + (logT ts ts.length).q ≤ (logT ts ts.length).N ∧ (logT ts ts.length).q ≤ (1000 : Nat) := by first | omega | assumption | rfl | ((repeat' with_reducible apply And.intro) <;> first | rfl | assumption | omega))
    (h5 : ts.length = ts.length ∧ ts.length * (10 : Nat) = ts.length * (10 : Nat) ∧ flat ts = flat ts ∧ ts.length ≤ (60 : Nat) := by first | omega | assumption | rfl | ((repeat' with_reducible apply And.intro) <;> first | rfl | assumption | omega))
    (h6 : x.n = false := by first | omega | assumption | rfl)
    (h7 : (0 : Int) ≤ (↑j : Int) := by first | omega | assumption | rfl)
    (h8 : (↑j : Int) < (↑(ts.length + (1 : Nat)) : Int) := by first | omega | assumption | rfl)
    (h9 : j * (10 : Nat) + (8 : Nat) < (ts.length + (1 : Nat)) * (10 : Nat) := by first | omega | assumption | rfl)
    (h10 : ((flat (ts ++ [Th.mk c false x false false])).getD (j * (10 : Nat) + (8 : Nat)) (FV.b false)).isB = true := by first | omega | assumption | rfl)
    (h11 : ((flat (ts ++ [Th.mk c false x false false])).getD (j * (10 : Nat) + (8 : Nat)) (FV.b false)).asB = true := by first | omega | assumption | rfl) : fnK Try.prog ((SmJ ts j).on [(13, false), (34, false), (38, false), (48, true)]) noL Try.f32 [pt 0, w63 c, msV x] (dH true w ts cc) =
     (some (Res.ret (Value.tuple (Array.mk [Value.agg (Array.mk [Value.int IntKind.i64 (0 : Int), Value.int IntKind.u8 (0 : Int), Value.bool false, Value.int IntKind.i64 (0 : Int), Value.bool false,
     Value.int IntKind.i64 (0 : Int), Value.bool false]), Value.bool false])) [some (Blk.mk true (2 : Nat) [Seg.ints IntKind.i64 (1 : Nat) [w], Seg.vals [Value.slice (some (Addr.mk (2 : Nat) (0 : Nat)
     none)) (ts.length + (1 : Nat)) (1 : Nat)]]), some (Blk.mk true (10 : Nat) [Seg.any (ts.length * (10 : Nat)) (flat ts)]), some (Blk.mk true (10 : Nat) [Seg.any ((ts.length + (1 : Nat)) * (10 : Nat))
     (flat (ts ++ [Th.mk c false x false false]))])])) :=
  Eq.trans (b :=
     bif chk (ts.length = ts.length ∧ ts.length * (10 : Nat) = ts.length * (10 : Nat) ∧ flat ts = flat ts ∧ ts.length ≤ (60 : Nat) ∧ mayP ts c) then bif chk (ts.length = ts.length ∧ ts.length * (10 : Nat)
     = ts.length * (10 : Nat) ∧ flat ts = flat ts ∧ ts.length ≤ (60 : Nat) ∧ lastI ts = (↑j : Int)) then bif chk (ts.length = ts.length ∧ ts.length * (10 : Nat) = ts.length * (10 : Nat) ∧ flat ts = flat ts
     ∧ ts.length ≤ (60 : Nat) ∧ RiseT ts) then bif chk ((logT ts ts.length).o + (logT ts ts.length).q ≤ (logT ts ts.length).N ∧ (logT ts ts.length).q ≤ (1000 : Nat)) then bif chk (ts.length = ts.length ∧
     ts.length * (10 : Nat) = ts.length * (10 : Nat) ∧ flat ts = flat ts ∧ ts.length ≤ (60 : Nat)) then bif x.n then none else bif decide ((0 : Int) ≤ (↑j : Int)) && decide ((↑j : Int) < (↑(ts.length + (1
     : Nat)) : Int)) then bif ((0 : Nat) + (↑j : Int).toNat * (10 : Nat) + (8 : Nat)).blt ((ts.length + (1 : Nat)) * (10 : Nat)) then bif ((flat (ts ++ [Th.mk c false x false false])).getD ((0 : Nat) + (↑j
     : Int).toNat * (10 : Nat) + (8 : Nat)) (FV.b false)).isB then bif ((flat (ts ++ [Th.mk c false x false false])).getD ((0 : Nat) + (↑j : Int).toNat * (10 : Nat) + (8 : Nat)) (FV.b false)).asB then some
     (Res.ret (Value.tuple (Array.mk [Value.agg (Array.mk [Value.int IntKind.i64 (0 : Int), Value.int IntKind.u8 (0 : Int), Value.bool false, Value.int IntKind.i64 (0 : Int), Value.bool false, Value.int
     IntKind.i64 (0 : Int), Value.bool false]), Value.bool false])) [some (Blk.mk true (2 : Nat) [Seg.ints IntKind.i64 (1 : Nat) [w], Seg.vals [Value.slice (some (Addr.mk (2 : Nat) (0 : Nat) none))
     (ts.length + (1 : Nat)) (1 : Nat)]]), some (Blk.mk true (10 : Nat) [Seg.any (ts.length * (10 : Nat)) (flat ts)]), some (Blk.mk true (10 : Nat) [Seg.any ((ts.length + (1 : Nat)) * (10 : Nat)) (flat (ts
     ++ [Th.mk c false x false false]))])]) else none else none else none else none else none else none else none else none else none) (by kernel_rfl) (by simp only [-eq_self, Int.toNat_natCast, Nat.zero_add]; exact (go_t (chk_t h1) (go_t (chk_t h2) (go_t (chk_t h3) (go_t (chk_t h4) (go_t (chk_t h5) (go_f h6 (go_t (and_t (dec_t h7) (dec_t h8)) (go_t (blt_t h9) (go_t h10 (go_t h11 rfl)))))))))))
--CFEND
--CP pDMX2 (c w : Int) (cc j : Nat) (ts : List Th) (x : Ms) :: fnK Try.prog ((SmJ ts j).on [(13, false), (34, false), (38, false), (48, false), (65, true)]) noL Try.f32 [pt 0, w63 c, msV x] (dH true w ts cc)
theorem pDMX2 (c w : Int) (cc j : Nat) (ts : List Th) (x : Ms)
    (w1 : -9223372036854775808 ≤ c - ((flat (ts ++ [Th.mk c false x false false])).getD (j * (10 : Nat)) (FV.b false)).asI ∧ c - ((flat (ts ++ [Th.mk c false x false false])).getD (j * (10 : Nat)) (FV.b false)).asI ≤ 9223372036854775807 := by omega)
    (h1 : ts.length = ts.length ∧ ts.length * (10 : Nat) = ts.length * (10 : Nat) ∧ flat ts = flat ts ∧ ts.length ≤ (60 : Nat) ∧ mayP ts c := by first | omega | assumption | rfl | ((repeat' with_reducible apply And.intro) <;> first | rfl | assumption | omega))
    (h2 : ts.length = ts.length ∧ ts.length * (10 : Nat) = ts.length * (10 : Nat) ∧ flat ts = flat ts ∧ ts.length ≤ (60 : Nat) ∧ lastI ts = (↑j : Int) := by first | omega | assumption | rfl | ((repeat' with_reducible apply And.intro) <;> first | rfl | assumption | omega))
    (h3 : ts.length = ts.length ∧ ts.length * (10 : Nat) = ts.length * (10 : Nat) ∧ flat ts = flat ts ∧ ts.length ≤ (60 : Nat) ∧ RiseT ts := by first | omega | assumption | rfl | ((repeat' with_reducible apply And.intro) <;> first | rfl | assumption | omega))
    (h4 : (logT ts ts.length).o + (logT ts ts.length).q ≤ (logT ts ts.length).N ∧ (logT ts ts.length).q ≤ (1000 : Nat) := by first | omega | assumption | rfl | ((repeat' with_reducible apply And.intro) <;> first | rfl | assumption | omega))
    (h5 : ts.length = ts.length ∧ ts.length * (10 : Nat) = ts.length * (10 : Nat) ∧ flat ts = flat ts ∧ ts.length ≤ (60 : Nat) := by first | omega | assumption | rfl | ((repeat' with_reducible apply And.intro) <;> first | rfl | assumption | omega))
    (h6 : x.n = false := by first | omega | assumption | rfl)
    (h7 : (0 : Int) ≤ (↑j : Int) := by first | omega | assumption | rfl)
    (h8 : (↑j : Int) < (↑(ts.length + (1 : Nat)) : Int) := by first | omega | assumption | rfl)
    (h9 : j * (10 : Nat) + (8 : Nat) < (ts.length + (1 : Nat)) * (10 : Nat) := by first | omega | assumption | rfl)
    (h10 : ((flat (ts ++ [Th.mk c false x false false])).getD (j * (10 : Nat) + (8 : Nat)) (FV.b false)).isB = true := by first | omega | assumption | rfl)
    (h11 : ((flat (ts ++ [Th.mk c false x false false])).getD (j * (10 : Nat) + (8 : Nat)) (FV.b false)).asB = false := by first | omega | assumption | rfl)
    (h12 : j * (10 : Nat) < (ts.length + (1 : Nat)) * (10 : Nat) := by first | omega | assumption | rfl)
    (h13 : FV.isI IntKind.i64 ((flat (ts ++ [Th.mk c false x false false])).getD (j * (10 : Nat)) (FV.b false)) = true := by first | omega | assumption | rfl)
    (h14 : c - ((flat (ts ++ [Th.mk c false x false false])).getD (j * (10 : Nat)) (FV.b false)).asI > w := by first | omega | assumption | rfl) : fnK Try.prog ((SmJ ts j).on [(13, false), (34, false), (38, false), (48, false), (65, true)]) noL Try.f32 [pt 0, w63 c, msV x] (dH true w ts cc) =
     (some (Res.ret (Value.tuple (Array.mk [Value.agg (Array.mk [Value.int IntKind.i64 (0 : Int), Value.int IntKind.u8 (0 : Int), Value.bool false, Value.int IntKind.i64 (0 : Int), Value.bool false,
     Value.int IntKind.i64 (0 : Int), Value.bool false]), Value.bool false])) [some (Blk.mk true (2 : Nat) [Seg.ints IntKind.i64 (1 : Nat) [w], Seg.vals [Value.slice (some (Addr.mk (2 : Nat) (0 : Nat)
     none)) (ts.length + (1 : Nat)) (1 : Nat)]]), some (Blk.mk true (10 : Nat) [Seg.any (ts.length * (10 : Nat)) (flat ts)]), some (Blk.mk true (10 : Nat) [Seg.any ((ts.length + (1 : Nat)) * (10 : Nat))
     (flat (ts ++ [Th.mk c false x false false]))])])) :=
  Eq.trans (b :=
     bif chk (ts.length = ts.length ∧ ts.length * (10 : Nat) = ts.length * (10 : Nat) ∧ flat ts = flat ts ∧ ts.length ≤ (60 : Nat) ∧ mayP ts c) then bif chk (ts.length = ts.length ∧ ts.length * (10 : Nat)
     = ts.length * (10 : Nat) ∧ flat ts = flat ts ∧ ts.length ≤ (60 : Nat) ∧ lastI ts = (↑j : Int)) then bif chk (ts.length = ts.length ∧ ts.length * (10 : Nat) = ts.length * (10 : Nat) ∧ flat ts = flat ts
     ∧ ts.length ≤ (60 : Nat) ∧ RiseT ts) then bif chk ((logT ts ts.length).o + (logT ts ts.length).q ≤ (logT ts ts.length).N ∧ (logT ts ts.length).q ≤ (1000 : Nat)) then bif chk (ts.length = ts.length ∧
     ts.length * (10 : Nat) = ts.length * (10 : Nat) ∧ flat ts = flat ts ∧ ts.length ≤ (60 : Nat)) then bif x.n then none else bif decide ((0 : Int) ≤ (↑j : Int)) && decide ((↑j : Int) < (↑(ts.length + (1
     : Nat)) : Int)) then bif ((0 : Nat) + (↑j : Int).toNat * (10 : Nat) + (8 : Nat)).blt ((ts.length + (1 : Nat)) * (10 : Nat)) then bif ((flat (ts ++ [Th.mk c false x false false])).getD ((0 : Nat) + (↑j
     : Int).toNat * (10 : Nat) + (8 : Nat)) (FV.b false)).isB then bif ((flat (ts ++ [Th.mk c false x false false])).getD ((0 : Nat) + (↑j : Int).toNat * (10 : Nat) + (8 : Nat)) (FV.b false)).asB then none
     else bif decide ((0 : Int) ≤ (↑j : Int)) && decide ((↑j : Int) < (↑(ts.length + (1 : Nat)) : Int)) then bif ((0 : Nat) + (↑j : Int).toNat * (10 : Nat)).blt ((ts.length + (1 : Nat)) * (10 : Nat)) then
     bif FV.isI IntKind.i64 ((flat (ts ++ [Th.mk c false x false false])).getD ((0 : Nat) + (↑j : Int).toNat * (10 : Nat)) (FV.b false)) then bif decide (IntKind.i64.wrap (c - ((flat (ts ++ [Th.mk c false
     x false false])).getD ((0 : Nat) + (↑j : Int).toNat * (10 : Nat)) (FV.b false)).asI) > w) then some (Res.ret (Value.tuple (Array.mk [Value.agg (Array.mk [Value.int IntKind.i64 (0 : Int), Value.int
     IntKind.u8 (0 : Int), Value.bool false, Value.int IntKind.i64 (0 : Int), Value.bool false, Value.int IntKind.i64 (0 : Int), Value.bool false]), Value.bool false])) [some (Blk.mk true (2 : Nat)
     [Seg.ints IntKind.i64 (1 : Nat) [w], Seg.vals [Value.slice (some (Addr.mk (2 : Nat) (0 : Nat) none)) (ts.length + (1 : Nat)) (1 : Nat)]]), some (Blk.mk true (10 : Nat) [Seg.any (ts.length * (10 :
     Nat)) (flat ts)]), some (Blk.mk true (10 : Nat) [Seg.any ((ts.length + (1 : Nat)) * (10 : Nat)) (flat (ts ++ [Th.mk c false x false false]))])]) else none else none else none else none else none else
     none else none else none else none else none else none else none) (by kernel_rfl) (by simp only [-eq_self, Int.toNat_natCast, Nat.zero_add, swrap w1.1 w1.2]; exact (go_t (chk_t h1) (go_t (chk_t h2) (go_t (chk_t h3) (go_t (chk_t h4) (go_t (chk_t h5) (go_f h6 (go_t (and_t (dec_t h7) (dec_t h8)) (go_t (blt_t h9) (go_t h10 (go_f h11 (go_t (and_t (dec_t h7) (dec_t h8)) (go_t (blt_t h12) (go_t h13 (go_t (dec_t h14) rfl)))))))))))))))
--CFEND
--CP pDMX3 (c w : Int) (cc j : Nat) (ts : List Th) (x : Ms) :: fnK Try.prog ((SmJ ts j).on [(13, false), (34, false), (38, false), (48, false), (65, false), (68, true)]) noL Try.f32 [pt 0, w63 c, msV x] (dH true w ts cc)
theorem pDMX3 (c w : Int) (cc j : Nat) (ts : List Th) (x : Ms)
    (w1 : -9223372036854775808 ≤ c - ((flat (ts ++ [Th.mk c false x false false])).getD (j * (10 : Nat)) (FV.b false)).asI ∧ c - ((flat (ts ++ [Th.mk c false x false false])).getD (j * (10 : Nat)) (FV.b false)).asI ≤ 9223372036854775807 := by omega)
    (w2 : -9223372036854775808 ≤ c - w ∧ c - w ≤ 9223372036854775807 := by omega)
    (h1 : ts.length = ts.length ∧ ts.length * (10 : Nat) = ts.length * (10 : Nat) ∧ flat ts = flat ts ∧ ts.length ≤ (60 : Nat) ∧ mayP ts c := by first | omega | assumption | rfl | ((repeat' with_reducible apply And.intro) <;> first | rfl | assumption | omega))
    (h2 : ts.length = ts.length ∧ ts.length * (10 : Nat) = ts.length * (10 : Nat) ∧ flat ts = flat ts ∧ ts.length ≤ (60 : Nat) ∧ lastI ts = (↑j : Int) := by first | omega | assumption | rfl | ((repeat' with_reducible apply And.intro) <;> first | rfl | assumption | omega))
    (h3 : ts.length = ts.length ∧ ts.length * (10 : Nat) = ts.length * (10 : Nat) ∧ flat ts = flat ts ∧ ts.length ≤ (60 : Nat) ∧ RiseT ts := by first | omega | assumption | rfl | ((repeat' with_reducible apply And.intro) <;> first | rfl | assumption | omega))
    (h4 : (logT ts ts.length).o + (logT ts ts.length).q ≤ (logT ts ts.length).N ∧ (logT ts ts.length).q ≤ (1000 : Nat) := by first | omega | assumption | rfl | ((repeat' with_reducible apply And.intro) <;> first | rfl | assumption | omega))
    (h5 : ts.length = ts.length ∧ ts.length * (10 : Nat) = ts.length * (10 : Nat) ∧ flat ts = flat ts ∧ ts.length ≤ (60 : Nat) := by first | omega | assumption | rfl | ((repeat' with_reducible apply And.intro) <;> first | rfl | assumption | omega))
    (h6 : x.n = false := by first | omega | assumption | rfl)
    (h7 : (0 : Int) ≤ (↑j : Int) := by first | omega | assumption | rfl)
    (h8 : (↑j : Int) < (↑(ts.length + (1 : Nat)) : Int) := by first | omega | assumption | rfl)
    (h9 : j * (10 : Nat) + (8 : Nat) < (ts.length + (1 : Nat)) * (10 : Nat) := by first | omega | assumption | rfl)
    (h10 : ((flat (ts ++ [Th.mk c false x false false])).getD (j * (10 : Nat) + (8 : Nat)) (FV.b false)).isB = true := by first | omega | assumption | rfl)
    (h11 : ((flat (ts ++ [Th.mk c false x false false])).getD (j * (10 : Nat) + (8 : Nat)) (FV.b false)).asB = false := by first | omega | assumption | rfl)
    (h12 : j * (10 : Nat) < (ts.length + (1 : Nat)) * (10 : Nat) := by first | omega | assumption | rfl)
    (h13 : FV.isI IntKind.i64 ((flat (ts ++ [Th.mk c false x false false])).getD (j * (10 : Nat)) (FV.b false)) = true := by first | omega | assumption | rfl)
    (h14 : ¬c - ((flat (ts ++ [Th.mk c false x false false])).getD (j * (10 : Nat)) (FV.b false)).asI > w := by first | omega | assumption | rfl)
    (h15 : (↑(cnt (curL (logT ts ts.length).o (logT ts ts.length).q (logT ts ts.length).l) (c - w) c) : Int) ≠ (1 : Int) := by first | omega | assumption | rfl) : fnK Try.prog ((SmJ ts j).on [(13, false), (34, false), (38, false), (48, false), (65, false), (68, true)]) noL Try.f32 [pt 0, w63 c, msV x] (dH true w ts cc) =
     (some (Res.ret (Value.tuple (Array.mk [Value.agg (Array.mk [Value.int IntKind.i64 (0 : Int), Value.int IntKind.u8 (0 : Int), Value.bool false, Value.int IntKind.i64 (0 : Int), Value.bool false,
     Value.int IntKind.i64 (0 : Int), Value.bool false]), Value.bool false])) [some (Blk.mk true (2 : Nat) [Seg.ints IntKind.i64 (1 : Nat) [w], Seg.vals [Value.slice (some (Addr.mk (2 : Nat) (0 : Nat)
     none)) (ts.length + (1 : Nat)) (1 : Nat)]]), some (Blk.mk true (10 : Nat) [Seg.any (ts.length * (10 : Nat)) (flat ts)]), some (Blk.mk true (10 : Nat) [Seg.any ((ts.length + (1 : Nat)) * (10 : Nat))
     (flat (ts ++ [Th.mk c false x false false]))])])) :=
  Eq.trans (b :=
     bif chk (ts.length = ts.length ∧ ts.length * (10 : Nat) = ts.length * (10 : Nat) ∧ flat ts = flat ts ∧ ts.length ≤ (60 : Nat) ∧ mayP ts c) then bif chk (ts.length = ts.length ∧ ts.length * (10 : Nat)
     = ts.length * (10 : Nat) ∧ flat ts = flat ts ∧ ts.length ≤ (60 : Nat) ∧ lastI ts = (↑j : Int)) then bif chk (ts.length = ts.length ∧ ts.length * (10 : Nat) = ts.length * (10 : Nat) ∧ flat ts = flat ts
     ∧ ts.length ≤ (60 : Nat) ∧ RiseT ts) then bif chk ((logT ts ts.length).o + (logT ts ts.length).q ≤ (logT ts ts.length).N ∧ (logT ts ts.length).q ≤ (1000 : Nat)) then bif chk (ts.length = ts.length ∧
     ts.length * (10 : Nat) = ts.length * (10 : Nat) ∧ flat ts = flat ts ∧ ts.length ≤ (60 : Nat)) then bif x.n then none else bif decide ((0 : Int) ≤ (↑j : Int)) && decide ((↑j : Int) < (↑(ts.length + (1
     : Nat)) : Int)) then bif ((0 : Nat) + (↑j : Int).toNat * (10 : Nat) + (8 : Nat)).blt ((ts.length + (1 : Nat)) * (10 : Nat)) then bif ((flat (ts ++ [Th.mk c false x false false])).getD ((0 : Nat) + (↑j
     : Int).toNat * (10 : Nat) + (8 : Nat)) (FV.b false)).isB then bif ((flat (ts ++ [Th.mk c false x false false])).getD ((0 : Nat) + (↑j : Int).toNat * (10 : Nat) + (8 : Nat)) (FV.b false)).asB then none
     else bif decide ((0 : Int) ≤ (↑j : Int)) && decide ((↑j : Int) < (↑(ts.length + (1 : Nat)) : Int)) then bif ((0 : Nat) + (↑j : Int).toNat * (10 : Nat)).blt ((ts.length + (1 : Nat)) * (10 : Nat)) then
     bif FV.isI IntKind.i64 ((flat (ts ++ [Th.mk c false x false false])).getD ((0 : Nat) + (↑j : Int).toNat * (10 : Nat)) (FV.b false)) then bif decide (IntKind.i64.wrap (c - ((flat (ts ++ [Th.mk c false
     x false false])).getD ((0 : Nat) + (↑j : Int).toNat * (10 : Nat)) (FV.b false)).asI) > w) then none else bif (↑(cnt (curL (logT ts ts.length).o (logT ts ts.length).q (logT ts ts.length).l)
     (IntKind.i64.wrap (c - w)) c) : Int) != (1 : Int) then some (Res.ret (Value.tuple (Array.mk [Value.agg (Array.mk [Value.int IntKind.i64 (0 : Int), Value.int IntKind.u8 (0 : Int), Value.bool false,
     Value.int IntKind.i64 (0 : Int), Value.bool false, Value.int IntKind.i64 (0 : Int), Value.bool false]), Value.bool false])) [some (Blk.mk true (2 : Nat) [Seg.ints IntKind.i64 (1 : Nat) [w], Seg.vals
     [Value.slice (some (Addr.mk (2 : Nat) (0 : Nat) none)) (ts.length + (1 : Nat)) (1 : Nat)]]), some (Blk.mk true (10 : Nat) [Seg.any (ts.length * (10 : Nat)) (flat ts)]), some (Blk.mk true (10 : Nat)
     [Seg.any ((ts.length + (1 : Nat)) * (10 : Nat)) (flat (ts ++ [Th.mk c false x false false]))])]) else none else none else none else none else none else none else none else none else none else none
     else none else none) (by kernel_rfl) (by simp only [-eq_self, Int.toNat_natCast, Nat.zero_add, swrap w1.1 w1.2, swrap w2.1 w2.2]; exact (go_t (chk_t h1) (go_t (chk_t h2) (go_t (chk_t h3) (go_t (chk_t h4) (go_t (chk_t h5) (go_f h6 (go_t (and_t (dec_t h7) (dec_t h8)) (go_t (blt_t h9) (go_t h10 (go_f h11 (go_t (and_t (dec_t h7) (dec_t h8)) (go_t (blt_t h12) (go_t h13 (go_f (dec_f h14) (go_t (bne_t h15) rfl))))))))))))))))
--CFEND
--CP pDMP (c w : Int) (cc j : Nat) (ts : List Th) (x : Ms) :: fnK Try.prog ((SmJ ts j).on [(13, false), (34, false), (38, false), (48, false), (65, false), (68, false)]) noL Try.f32 [pt 0, w63 c, msV x] (dH true w ts cc)
theorem pDMP (c w : Int) (cc j : Nat) (ts : List Th) (x : Ms)
    (w1 : -9223372036854775808 ≤ c - ((flat (ts ++ [Th.mk c false x false false])).getD (j * (10 : Nat)) (FV.b false)).asI ∧ c - ((flat (ts ++ [Th.mk c false x false false])).getD (j * (10 : Nat)) (FV.b false)).asI ≤ 9223372036854775807 := by omega)
    (w2 : -9223372036854775808 ≤ c - w ∧ c - w ≤ 9223372036854775807 := by omega)
    (h1 : ts.length = ts.length ∧ ts.length * (10 : Nat) = ts.length * (10 : Nat) ∧ flat ts = flat ts ∧ ts.length ≤ (60 : Nat) ∧ mayP ts c := by first | omega | assumption | rfl | ((repeat' with_reducible apply And.intro) <;> first | rfl | assumption | omega))
    (h2 : ts.length = ts.length ∧ ts.length * (10 : Nat) = ts.length * (10 : Nat) ∧ flat ts = flat ts ∧ ts.length ≤ (60 : Nat) ∧ lastI ts = (↑j : Int) := by first | omega | assumption | rfl | ((repeat' with_reducible apply And.intro) <;> first | rfl | assumption | omega))
    (h3 : ts.length = ts.length ∧ ts.length * (10 : Nat) = ts.length * (10 : Nat) ∧ flat ts = flat ts ∧ ts.length ≤ (60 : Nat) ∧ RiseT ts := by first | omega | assumption | rfl | ((repeat' with_reducible apply And.intro) <;> first | rfl | assumption | omega))
    (h4 : (logT ts ts.length).o + (logT ts ts.length).q ≤ (logT ts ts.length).N ∧ (logT ts ts.length).q ≤ (1000 : Nat) := by first | omega | assumption | rfl | ((repeat' with_reducible apply And.intro) <;> first | rfl | assumption | omega))
    (h5 : ts.length = ts.length ∧ ts.length * (10 : Nat) = ts.length * (10 : Nat) ∧ flat ts = flat ts ∧ ts.length ≤ (60 : Nat) := by first | omega | assumption | rfl | ((repeat' with_reducible apply And.intro) <;> first | rfl | assumption | omega))
    (h6 : x.n = false := by first | omega | assumption | rfl)
    (h7 : (0 : Int) ≤ (↑j : Int) := by first | omega | assumption | rfl)
    (h8 : (↑j : Int) < (↑(ts.length + (1 : Nat)) : Int) := by first | omega | assumption | rfl)
    (h9 : j * (10 : Nat) + (8 : Nat) < (ts.length + (1 : Nat)) * (10 : Nat) := by first | omega | assumption | rfl)
    (h10 : ((flat (ts ++ [Th.mk c false x false false])).getD (j * (10 : Nat) + (8 : Nat)) (FV.b false)).isB = true := by first | omega | assumption | rfl)
    (h11 : ((flat (ts ++ [Th.mk c false x false false])).getD (j * (10 : Nat) + (8 : Nat)) (FV.b false)).asB = false := by first | omega | assumption | rfl)
    (h12 : j * (10 : Nat) < (ts.length + (1 : Nat)) * (10 : Nat) := by first | omega | assumption | rfl)
    (h13 : FV.isI IntKind.i64 ((flat (ts ++ [Th.mk c false x false false])).getD (j * (10 : Nat)) (FV.b false)) = true := by first | omega | assumption | rfl)
    (h14 : ¬c - ((flat (ts ++ [Th.mk c false x false false])).getD (j * (10 : Nat)) (FV.b false)).asI > w := by first | omega | assumption | rfl)
    (h15 : (↑(cnt (curL (logT ts ts.length).o (logT ts ts.length).q (logT ts ts.length).l) (c - w) c) : Int) = (1 : Int) := by first | omega | assumption | rfl)
    (h16 : FV.isI IntKind.i64 (((flat (ts ++ [Th.mk c false x false false])).set (j * (10 : Nat) + (8 : Nat)) (FV.b true)).getD (j * (10 : Nat)) (FV.b false)) = true := by first | omega | assumption | rfl) : fnK Try.prog ((SmJ ts j).on [(13, false), (34, false), (38, false), (48, false), (65, false), (68, false)]) noL Try.f32 [pt 0, w63 c, msV x] (dH true w ts cc) =
     (some (Res.ret (Value.tuple (Array.mk [Value.agg (Array.mk [Value.int IntKind.i64 (((flat (ts ++ [Th.mk c false x false false])).set (j * (10 : Nat) + (8 : Nat)) (FV.b true)).getD (j * (10 : Nat))
     (FV.b false)).asI, Value.int IntKind.u8 x.kd, Value.bool x.u, Value.int IntKind.i64 x.s, Value.bool x.l, Value.int IntKind.i64 x.c, Value.bool x.n]), Value.bool true])) [some (Blk.mk true (2 : Nat)
     [Seg.ints IntKind.i64 (1 : Nat) [w], Seg.vals [Value.slice (some (Addr.mk (2 : Nat) (0 : Nat) none)) (ts.length + (1 : Nat)) (1 : Nat)]]), some (Blk.mk true (10 : Nat) [Seg.any (ts.length * (10 :
     Nat)) (flat ts)]), some (Blk.mk true (10 : Nat) [Seg.any ((ts.length + (1 : Nat)) * (10 : Nat)) ((flat (ts ++ [Th.mk c false x false false])).set (j * (10 : Nat) + (8 : Nat)) (FV.b true))])])) :=
  Eq.trans (b :=
     bif chk (ts.length = ts.length ∧ ts.length * (10 : Nat) = ts.length * (10 : Nat) ∧ flat ts = flat ts ∧ ts.length ≤ (60 : Nat) ∧ mayP ts c) then bif chk (ts.length = ts.length ∧ ts.length * (10 : Nat)
     = ts.length * (10 : Nat) ∧ flat ts = flat ts ∧ ts.length ≤ (60 : Nat) ∧ lastI ts = (↑j : Int)) then bif chk (ts.length = ts.length ∧ ts.length * (10 : Nat) = ts.length * (10 : Nat) ∧ flat ts = flat ts
     ∧ ts.length ≤ (60 : Nat) ∧ RiseT ts) then bif chk ((logT ts ts.length).o + (logT ts ts.length).q ≤ (logT ts ts.length).N ∧ (logT ts ts.length).q ≤ (1000 : Nat)) then bif chk (ts.length = ts.length ∧
     ts.length * (10 : Nat) = ts.length * (10 : Nat) ∧ flat ts = flat ts ∧ ts.length ≤ (60 : Nat)) then bif x.n then none else bif decide ((0 : Int) ≤ (↑j : Int)) && decide ((↑j : Int) < (↑(ts.length + (1
     : Nat)) : Int)) then bif ((0 : Nat) + (↑j : Int).toNat * (10 : Nat) + (8 : Nat)).blt ((ts.length + (1 : Nat)) * (10 : Nat)) then bif ((flat (ts ++ [Th.mk c false x false false])).getD ((0 : Nat) + (↑j
     : Int).toNat * (10 : Nat) + (8 : Nat)) (FV.b false)).isB then bif ((flat (ts ++ [Th.mk c false x false false])).getD ((0 : Nat) + (↑j : Int).toNat * (10 : Nat) + (8 : Nat)) (FV.b false)).asB then none
     else bif decide ((0 : Int) ≤ (↑j : Int)) && decide ((↑j : Int) < (↑(ts.length + (1 : Nat)) : Int)) then bif ((0 : Nat) + (↑j : Int).toNat * (10 : Nat)).blt ((ts.length + (1 : Nat)) * (10 : Nat)) then
     bif FV.isI IntKind.i64 ((flat (ts ++ [Th.mk c false x false false])).getD ((0 : Nat) + (↑j : Int).toNat * (10 : Nat)) (FV.b false)) then bif decide (IntKind.i64.wrap (c - ((flat (ts ++ [Th.mk c false
     x false false])).getD ((0 : Nat) + (↑j : Int).toNat * (10 : Nat)) (FV.b false)).asI) > w) then none else bif (↑(cnt (curL (logT ts ts.length).o (logT ts ts.length).q (logT ts ts.length).l)
     (IntKind.i64.wrap (c - w)) c) : Int) != (1 : Int) then none else bif decide ((0 : Int) ≤ (↑j : Int)) && decide ((↑j : Int) < (↑(ts.length + (1 : Nat)) : Int)) then bif ((0 : Nat) + (↑j : Int).toNat *
     (10 : Nat) + (8 : Nat)).blt ((ts.length + (1 : Nat)) * (10 : Nat)) then bif decide ((0 : Int) ≤ (↑j : Int)) && decide ((↑j : Int) < (↑(ts.length + (1 : Nat)) : Int)) then bif ((0 : Nat) + (↑j :
     Int).toNat * (10 : Nat)).blt ((ts.length + (1 : Nat)) * (10 : Nat)) then bif FV.isI IntKind.i64 (((flat (ts ++ [Th.mk c false x false false])).set ((0 : Nat) + (↑j : Int).toNat * (10 : Nat) + (8 :
     Nat)) (FV.b true)).getD ((0 : Nat) + (↑j : Int).toNat * (10 : Nat)) (FV.b false)) then some (Res.ret (Value.tuple (Array.mk [Value.agg (Array.mk [Value.int IntKind.i64 (((flat (ts ++ [Th.mk c false x
     false false])).set ((0 : Nat) + (↑j : Int).toNat * (10 : Nat) + (8 : Nat)) (FV.b true)).getD ((0 : Nat) + (↑j : Int).toNat * (10 : Nat)) (FV.b false)).asI, Value.int IntKind.u8 x.kd, Value.bool x.u,
     Value.int IntKind.i64 x.s, Value.bool x.l, Value.int IntKind.i64 x.c, Value.bool x.n]), Value.bool true])) [some (Blk.mk true (2 : Nat) [Seg.ints IntKind.i64 (1 : Nat) [w], Seg.vals [Value.slice (some
     (Addr.mk (2 : Nat) (0 : Nat) none)) (ts.length + (1 : Nat)) (1 : Nat)]]), some (Blk.mk true (10 : Nat) [Seg.any (ts.length * (10 : Nat)) (flat ts)]), some (Blk.mk true (10 : Nat) [Seg.any ((ts.length
     + (1 : Nat)) * (10 : Nat)) ((flat (ts ++ [Th.mk c false x false false])).set ((0 : Nat) + (↑j : Int).toNat * (10 : Nat) + (8 : Nat)) (FV.b true))])]) else none else none else none else none else none
     else none else none else none else none else none else none else none else none else none else none else none) (by kernel_rfl) (by simp only [-eq_self, Int.toNat_natCast, Nat.zero_add, swrap w1.1 w1.2, swrap w2.1 w2.2]; exact (go_t (chk_t h1) (go_t (chk_t h2) (go_t (chk_t h3) (go_t (chk_t h4) (go_t (chk_t h5) (go_f h6 (go_t (and_t (dec_t h7) (dec_t h8)) (go_t (blt_t h9) (go_t h10 (go_f h11 (go_t (and_t (dec_t h7) (dec_t h8)) (go_t (blt_t h12) (go_t h13 (go_f (dec_f h14) (go_f (bne_f h15) (go_t (and_t (dec_t h7) (dec_t h8)) (go_t (blt_t h9) (go_t (and_t (dec_t h7) (dec_t h8)) (go_t (blt_t h12) (go_t h16 rfl)))))))))))))))))))))
--CFEND
end Go.Proofs.Ytpidmcpnkfgcjaa.VC

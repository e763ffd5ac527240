/- PairPlays: the edges that are kept, plain. -/
import Derived.Test.YtpidmcpnkfgcjaaP9
import Derived.Test.YtpidmcpnkfgcjaaE8
namespace Go.Proofs.Ytpidmcpnkfgcjaa.VC
open Go Go.Proofs

/-- A log of edges, and the ring beside it. -/
structure Lg where
  xs : List Int
  o : Nat
  q : Nat
  N : Nat
  l : List Int
def logT (ts : List Th) : Nat → Lg
  | 0 => ⟨zero9, 0, 0, 0, []⟩
  | i + 1 => bif (ts.getD i th0).e then ⟨pushR (logT ts i).xs (ts.getD i th0).a, offN (logT ts i).q, lenN (logT ts i).q, (logT ts i).q + 1, curL (logT ts i).o (logT ts i).q (logT ts i).l ++ [(ts.getD i th0).a]⟩ else logT ts i
/-- The edges among the first ones. -/
def edgT (ts : List Th) : Nat → List Int
  | 0 => []
  | i + 1 => bif (ts.getD i th0).e then edgT ts i ++ [(ts.getD i th0).a] else edgT ts i
theorem log_play (ts : List Th) : ∀ i, PlayI (logT ts i).xs (edgT ts i) (logT ts i).o (logT ts i).q (logT ts i).N (logT ts i).l
  | 0 => ⟨⟨rfl, rfl, fun j h => by cases h⟩, rfl, Nat.le_refl _, rfl, rfl⟩
  | i + 1 => by
    have ih := log_play ts i
    unfold logT edgT
    cases (ts.getD i th0).e with
    | true => exact ih.push _
    | false => exact ih
theorem edgT_len (ts : List Th) : ∀ i, (edgT ts i).length ≤ i
  | 0 => Nat.le_refl _
  | i + 1 => by
    have ih := edgT_len ts i
    unfold edgT
    cases (ts.getD i th0).e with
    | true => show (edgT ts i ++ [(ts.getD i th0).a]).length ≤ i + 1; rw [List.length_append, List.length_singleton]; omega
    | false => exact Nat.le_succ_of_le ih
theorem edgT_mem {ts : List Th} {x : Int} : ∀ {i}, x ∈ edgT ts i → ∃ j, j < i ∧ (ts.getD j th0).e = true ∧ (ts.getD j th0).a = x
  | 0, h => by cases h
  | i + 1, h => by
    unfold edgT at h
    cases he : (ts.getD i th0).e with
    | true =>
      rw [he] at h
      rcases List.mem_append.1 h with h | h
      · obtain ⟨j, h1, h2⟩ := edgT_mem h; exact ⟨j, by omega, h2⟩
      · exact ⟨i, Nat.lt_succ_self _, he, (List.mem_singleton.1 h).symm⟩
    | false =>
      rw [he] at h
      obtain ⟨j, h1, h2⟩ := edgT_mem (i := i) h; exact ⟨j, by omega, h2⟩
/-- What came rises. -/
def RiseT (ts : List Th) : Prop := ∀ i j, i ≤ j → j < ts.length → 0 ≤ (ts.getD i th0).a ∧ (ts.getD i th0).a ≤ (ts.getD j th0).a
theorem log_may {ts : List Th} (h : RiseT ts) {i : Nat} (hi : i < ts.length) :
    (logT ts i).o + (logT ts i).q ≤ (logT ts i).N ∧ (logT ts i).q ≤ 100 ∧ 0 ≤ (ts.getD i th0).a ∧ (0 < (logT ts i).q → (logT ts i).l.getD ((logT ts i).o + ((logT ts i).q - 1)) 0 ≤ (ts.getD i th0).a) := by
  have p := log_play ts i
  have hq := p.q
  refine ⟨p.room, by omega, (h i i (Nat.le_refl _) hi).1, fun h0 => ?_⟩
  rw [p.last h0]
  have hl : (edgT ts i).length - 1 < (edgT ts i).length := by omega
  have hm : (edgT ts i).getD ((edgT ts i).length - 1) 0 ∈ edgT ts i := by
    rw [List.getD_eq_getElem?_getD, List.getElem?_eq_getElem hl]
    exact List.getElem_mem hl
  obtain ⟨j, h1, _, h2⟩ := edgT_mem hm
  rw [← h2]
  exact (h j i (by omega) hi).2
end Go.Proofs.Ytpidmcpnkfgcjaa.VC

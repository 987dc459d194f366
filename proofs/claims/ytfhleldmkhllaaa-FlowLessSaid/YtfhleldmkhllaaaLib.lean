/-
  Small facts on worlds, and what it is for a value to read as a list of integers.
-/
import Derived.Test.YtfhleldmkhllaaaRows
import Derived.WalkKit
import Derived.Lib.Hide
import Derived.Deep.LoopGhost
import Derived.Deep.RegionWith
import Derived.WalkSpells
import Derived.WalkLawsBesides
namespace Go.Proofs.Ytfhleldmkhllaaa
open Go.RowKit

theorem bcell {W w1 : World} (hb : Below W.heap.size W w1) : (∀ b o, b < W.heap.size → w1.cell? ⟨b, o, none⟩ = W.cell? ⟨b, o, none⟩) ∧ (∀ b o, b < W.heap.size → w1.frozen? ⟨b, o, none⟩ = W.frozen? ⟨b, o, none⟩) :=
  ⟨fun b o h => hb.cell (p := ⟨b, o, none⟩) h, fun b o h => hb.frozen (p := ⟨b, o, none⟩) h⟩

/-- The value reads as the list of integers xs in the world w: nil or not; where its cells lie, if it has any. -/
def IVec (w : World) (v : Value) (xs : List Int) : Prop :=
  ∃ pa cap, v = .slice pa xs.length cap ∧ xs.length ≤ cap ∧ cap ≤ maxLen ∧
    (0 < xs.length → ∃ b off, pa = some ⟨b, off, none⟩ ∧ b < w.heap.size ∧ ∀ i, i < xs.length → w.cell? ⟨b, off + i, none⟩ = some (.int .i64 (xs.getD i 0)))

theorem IVec.nil (w : World) : IVec w (.slice none 0 0) [] := ⟨none, 0, rfl, Nat.le_refl _, Nat.zero_le _, fun h => absurd h (Nat.lt_irrefl 0)⟩

theorem IVec.below {w w' : World} {v : Value} {xs : List Int} (h : IVec w v xs) (hb : Below w.heap.size w w') : IVec w' v xs := by
  obtain ⟨pa, cap, h1, h2, h3, h4⟩ := h
  refine ⟨pa, cap, h1, h2, h3, fun h0 => ?_⟩
  obtain ⟨b, off, e, hlt, hc⟩ := h4 h0
  exact ⟨b, off, e, Nat.lt_of_lt_of_le hlt hb.size, fun i hi => by rw [hb.cell (p := ⟨b, off + i, none⟩) hlt]; exact hc i hi⟩

theorem IVec.shape {w : World} {v : Value} {xs : List Int} (h : IVec w v xs) : ∃ pa cap, v = .slice pa xs.length cap ∧ xs.length ≤ cap ∧ cap ≤ maxLen ∧
    (0 < xs.length → ∃ b off, pa = some ⟨b, off, none⟩ ∧ b < w.heap.size ∧ ∀ i, i < xs.length → w.cell? ⟨b, off + i, none⟩ = some (.int .i64 (xs.getD i 0))) := h

/-- A cell that is there lies in a block that is there, and has no spot. -/
theorem cell_there {w : World} {a : Addr} {v : Value} (h : w.cell? a = some v) : a.block < w.heap.size ∧ a.spot = none := by
  unfold World.cell? at h
  split at h
  · rename_i c t f hb
    refine ⟨(Array.getElem?_eq_some_iff.1 hb).1, ?_⟩
    split at h
    · cases h
    · rename_i hs; simpa using hs
  · cases h

theorem own_below {w w' : World} {base e size n : Nat} {v : Value} {xs : List Value} (h : w.ownsRow base e size v n xs) (hb : Below w.heap.size w w') : w'.ownsRow base e size v n xs := by
  obtain ⟨hl, h⟩ := h
  refine ⟨hl, ?_⟩
  rcases h with h | ⟨g, cap, cur, h1, h2, h3, h4⟩
  · exact .inl h
  · have hlt : g < w.heap.size := by
      rcases Nat.lt_or_ge g w.heap.size with h | h
      · exact h
      · rw [Array.getElem?_eq_none h] at h3; cases h3
    exact .inr ⟨g, cap, cur, h1, h2, by rw [hb.block g hlt]; exact h3, h4⟩

theorem IVec.of_owns {w : World} {base e : Nat} {v : Value} {n : Nat} {xs : List Int} (hlen : xs.length = n) (h : w.ownsRow base e 1 v n (xs.map (Value.int .i64))) : IVec w v xs := by
  obtain ⟨hl, h⟩ := h
  rcases h with ⟨h1, h2⟩ | ⟨g, cap, cur, h1, h2, h3, h4, h5, h6, h7⟩
  · subst h2
    obtain rfl := List.length_eq_zero_iff.1 hlen
    rw [h1]; exact IVec.nil w
  · have hlt : g < w.heap.size := by
      rcases Nat.lt_or_ge g w.heap.size with h | h
      · exact h
      · rw [Array.getElem?_eq_none h] at h3; cases h3
    refine ⟨some ⟨g, 0, none⟩, cap, by rw [hlen]; exact h1, by omega, h5, fun _ => ⟨g, 0, rfl, hlt, fun i hi => ?_⟩⟩
    simp only [World.cell?, h3, Nat.zero_add]
    have hi' : i < n := by omega
    have h8 : (cur.toList.take (n * 1))[i]? = some (.int .i64 (xs.getD i 0)) := by rw [h7]; simp [hi]
    rw [List.getElem?_take_of_lt (by omega)] at h8
    simpa using h8

/-- A row of integers that came in. -/
theorem IVec.of_row {w : World} {a : Option Addr} {len cap : Nat} {zs : List Int} (h : (a = none ∧ len = 0 ∧ cap = 0 ∧ zs = []) ∨
    ∃ x, a = some x ∧ len ≤ cap ∧ cap ≤ maxLen ∧ zs.length = cap ∧ (∀ i, i < zs.length → w.cell? (x.add i) = some (.int .i64 (zs.getD i 0))) ∧ ∀ n ∈ zs, (Lit.int .i64 n).wf = true) :
    IVec w (.slice a len cap) (zs.take len) ∧ (zs.take len).length = len := by
  rcases h with ⟨rfl, rfl, rfl, rfl⟩ | ⟨x, rfl, h1, h2, h3, h4, -⟩
  · exact ⟨IVec.nil w, rfl⟩
  · have hl : (zs.take len).length = len := by rw [List.length_take]; omega
    refine ⟨⟨some x, cap, by rw [hl], by omega, h2, fun h0 => ?_⟩, hl⟩
    obtain ⟨b, off, sp⟩ := x
    have h5 := h4 0 (by omega)
    obtain ⟨h6, h7⟩ := cell_there h5
    simp only [Addr.add] at h6 h7
    subst h7
    refine ⟨b, off, rfl, h6, fun i hi => ?_⟩
    have h8 := h4 i (by omega)
    have e8 : (⟨b, off, none⟩ : Addr).add i = ⟨b, off + i, none⟩ := by simp [Addr.add]
    rw [e8] at h8
    rw [h8]
    congr 2
    rw [List.getD_eq_getElem?_getD, List.getD_eq_getElem?_getD, List.getElem?_take_of_lt (by omega)]

/-- What a call hands back: a value that reads as xs; nothing that was has changed. -/
def RetVec (w : World) (xs : List Int) (e : Ending) (w' : World) : Prop := ∃ v, e = .returned v ∧ IVec w' v xs ∧ Below w.heap.size w w'

end Go.Proofs.Ytfhleldmkhllaaa

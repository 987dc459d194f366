/-
  What the loop backward lays: the plain law of 'comes'.
-/
import Derived.Test.YtfhleldmkhllaaaFlowE
namespace Go.Proofs.Ytfhleldmkhllaaa
open Flow

def valC (l : List Ins) (r : Nat → Nat) (i : Nat) : Nat :=
  if knw (at' l i) = some true then r (i + 1)
  else if knw (at' l i) = some false ∨ (at' l i).k = 8 then r (tn l i)
  else if (at' l i).k = 7 ∧ rd (at' l i).e = false ∧ r (i + 1) = r (tn l i) then r (i + 1)
  else i
def stC (l : List Ins) (r : Nat → Nat) (i : Nat) : Nat → Nat := fun q => if q = i then valC l r i else r q
def foldC (l : List Ins) (pre : List (Fin l.length)) : Nat → Nat := pre.foldl (fun r x => stC l r x.val) (fun q => if q = l.length then l.length else 0)
theorem foldC_snoc (l : List Ins) (pre : List (Fin l.length)) (x : Fin l.length) : foldC l (pre ++ [x]) = stC l (foldC l pre) x.val := by simp [foldC]
theorem knw_seven {x : Ins} {b : Bool} (h : knw x = some b) : x.k = 7 := by
  unfold knw at h
  split at h
  · assumption
  · cases h
theorem valC_T {l : List Ins} (hf : Fwd l) {r : Nat → Nat} {i : Nat} (hi : i < l.length) (h : ∀ q, i < q → q ≤ l.length → r q = T l q) : valC l r i = T l i := by
  unfold valC
  by_cases hj : jmp (at' l i) = true
  · have ht := hf.tn hi hj
    rw [T_of ⟨hi, hj, ht.1⟩, h (i + 1) (by omega) (by omega), h (tn l i) ht.1 ht.2]
    by_cases c1 : knw (at' l i) = some true
    · rw [if_pos c1, if_pos c1]
    · rw [if_neg c1, if_neg c1]
      by_cases c2 : knw (at' l i) = some false ∨ (at' l i).k = 8
      · rw [if_pos c2, if_pos c2]
      · rw [if_neg c2, if_neg c2]
        have h7 : (at' l i).k = 7 := by
          unfold jmp at hj
          simp only [Bool.or_eq_true, beq_iff_eq] at hj
          rcases hj with q | q
          · exact q
          · exact absurd (Or.inr q) c2
        simp only [h7, true_and]
  · rw [T_not (fun q => hj q.2.1)]
    have n7 : ¬ (at' l i).k = 7 := fun e => hj (jmp7 e)
    have n8 : ¬ (at' l i).k = 8 := fun e => hj (by unfold jmp; rw [e]; rfl)
    rw [if_neg (fun e => n7 (knw_seven e)), if_neg (fun e => e.elim (fun q => n7 (knw_seven q)) n8), if_neg (fun e => n7 e.1)]
theorem foldC_bk {l : List Ins} (hf : Fwd l) : ∀ k, k ≤ l.length → ∀ q, l.length - k ≤ q → q ≤ l.length → foldC l (bk l.length k) q = T l q
  | 0, _, q, h1, h2 => by
    have e : q = l.length := by omega
    rw [e, T_end l _ (Nat.le_refl _)]
    simp [foldC, bk]
  | k + 1, hk, q, h1, h2 => by
    rw [bk_succ _ _ (by omega), foldC_snoc]
    unfold stC
    by_cases e : q = l.length - 1 - k
    · rw [if_pos e, e]
      exact valC_T hf (by omega) fun p p1 p2 => foldC_bk hf k (by omega) p (by have p1' : l.length - 1 - k < p := p1; omega) p2
    · rw [if_neg e]
      exact foldC_bk hf k (by omega) q (by omega) h2
theorem foldC_all {l : List Ins} (hf : Fwd l) {q : Nat} (h : q ≤ l.length) : foldC l (bk l.length l.length) q = T l q := foldC_bk hf l.length (Nat.le_refl _) q (by omega) h

end Go.Proofs.Ytfhleldmkhllaaa

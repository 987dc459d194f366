/-
  Contracts of num.Add and num.Sub.
-/
import Derived.Test.YtfalhemeiengcaaDoorNumMore
namespace Go.Proofs.YtfalhemeiengcaaDoor
open Go.RowKit

set_option maxRecDepth 100000 in
set_option maxHeartbeats 800000 in
theorem numAdd_any (a b : Nat) (k : Int) (w : World) (ha : a < B * B) (hb : b < B * B) : Calls Tryd.prog 12 #[numV a, numV b, .int .i64 k] w (RetNum w ((a + b) % (B * B) % 2 ^ sh k)) := by
  have hlt : (a + b) % (B * B) < B * B := Nat.mod_lt _ (by unfold B; omega)
  have HC : Hid (∀ W, Calls Tryd.prog 11 #[numV ((a + b) % (B * B)), .int .i64 k] W (RetNum W ((a + b) % (B * B) % 2 ^ sh k))) := fun W => numCut_any _ k W hlt
  obtain ⟨lo, hlo⟩ : ∃ lo, lo = (a % B + b % B + 0) % B := ⟨_, rfl⟩
  obtain ⟨c, hc⟩ : ∃ c, c = (a % B + b % B + 0) / B := ⟨_, rfl⟩
  obtain ⟨hi, hhi⟩ : ∃ hi, hi = (a / B + b / B + c) % B := ⟨_, rfl⟩
  obtain ⟨c2, hc2⟩ : ∃ c2, c2 = (a / B + b / B + c) / B := ⟨_, rfl⟩
  obtain ⟨e1, e2, e3⟩ := add_parts ha hb hlo hc hhi
  have h1 : ∀ W, (callFunc 49 #[.int .u64 (a % B : Nat), .int .u64 (b % B : Nat), .int .u64 0]).run Tryd.prog W = .ok (.value (.tuple #[.int .u64 (lo : Int), .int .u64 (c : Int)])) W := fun W => by
    rw [hlo, hc]; exact add64_call _ _ 0 (by omega) W
  have h2 : ∀ W, (callFunc 49 #[.int .u64 (a / B : Nat), .int .u64 (b / B : Nat), .int .u64 (c : Nat)]).run Tryd.prog W = .ok (.value (.tuple #[.int .u64 (hi : Int), .int .u64 (c2 : Int)])) W := fun W => by
    rw [hhi, hc2]; exact add64_call _ _ c e3 W
  have hv := numV_mk hi lo e2
  rw [e1] at hv
  generalize (a + b) % (B * B) % 2 ^ sh k = r at *
  generalize (a + b) % (B * B) = m at *
  obtain ⟨y3, z3, he3, -, -⟩ := numV_parts r
  have HR := Lib.hid he3
  unfold RetNum at HC
  rw [← hv, he3] at HC
  obtain ⟨ah, al, hea, qa, qb⟩ := numV_parts a
  obtain ⟨bh, bl, heb, qc, qd⟩ := numV_parts b
  rw [← qb, ← qd] at h1
  rw [← qa, ← qc] at h2
  rw [hea, heb]
  clear hlt hlo hc hhi hc2 e1 e2 e3 hv he3 hea heb qa qb qc qd ha hb
  go_enter Tryd.func12, Tryd.ntmps12
  go_wp2_with (first
    | simp only [h1]
    | simp only [h2]
    | (go_at_call 11; refine (HC.out _).mono ?_; rintro e w1 ⟨rfl, hb1⟩; obtain ⟨hc1, hf1⟩ := bcell hb1; have hz1 := hb1.size; simp at hz1; have L1 : w.heap.size + 1 < w1.heap.size := by omega))
  exact bodyPost_ret (v := .agg #[.int .u64 (y3 : Int), .int .u64 (z3 : Int)]) (by simp [results, Tryd.results12, go_sem, hc1, hf1, L1]) rfl ⟨by rw [HR.out], (by repeat (first | exact Below.refl _ _ | assumption | refine Below.drew ?_ | refine Below.alloc ?_ (by first | omega | (simp <;> omega)) _ | refine Below.setCell ?_ (by first | omega | (simp <;> omega)) _ | refine Below.trans ?_ (Below.mono (by assumption) (by first | omega | (simp <;> omega)))))⟩

set_option maxRecDepth 100000 in
set_option maxHeartbeats 800000 in
theorem numSub_any (a b : Nat) (k : Int) (w : World) (ha : a < B * B) (hb : b < B * B) : Calls Tryd.prog 13 #[numV a, numV b, .int .i64 k] w (RetNum w ((a + (B * B - b)) % (B * B) % 2 ^ sh k)) := by
  have hlt : (a + (B * B - b)) % (B * B) < B * B := Nat.mod_lt _ (by unfold B; omega)
  have HC : Hid (∀ W, Calls Tryd.prog 11 #[numV ((a + (B * B - b)) % (B * B)), .int .i64 k] W (RetNum W ((a + (B * B - b)) % (B * B) % 2 ^ sh k))) := fun W => numCut_any _ k W hlt
  obtain ⟨lo, hlo⟩ : ∃ lo, lo = (a % B + B - b % B - 0) % B := ⟨_, rfl⟩
  obtain ⟨c, hc⟩ : ∃ c, c = if a % B < b % B + 0 then 1 else 0 := ⟨_, rfl⟩
  obtain ⟨hi, hhi⟩ : ∃ hi, hi = (a / B + B - b / B - c) % B := ⟨_, rfl⟩
  obtain ⟨c2, hc2⟩ : ∃ c2, c2 = if a / B < b / B + c then 1 else 0 := ⟨_, rfl⟩
  obtain ⟨e1, e2, e3⟩ := sub_parts ha hb hlo hc hhi
  have h1 : ∀ W, (callFunc 50 #[.int .u64 (a % B : Nat), .int .u64 (b % B : Nat), .int .u64 0]).run Tryd.prog W = .ok (.value (.tuple #[.int .u64 (lo : Int), .int .u64 (c : Int)])) W := fun W => by
    rw [hlo, hc]; exact sub64_call _ _ 0 (by omega) W
  have h2 : ∀ W, (callFunc 50 #[.int .u64 (a / B : Nat), .int .u64 (b / B : Nat), .int .u64 (c : Nat)]).run Tryd.prog W = .ok (.value (.tuple #[.int .u64 (hi : Int), .int .u64 (c2 : Int)])) W := fun W => by
    rw [hhi, hc2]; exact sub64_call _ _ c e3 W
  have hv := numV_mk hi lo e2
  rw [e1] at hv
  generalize (a + (B * B - b)) % (B * B) % 2 ^ sh k = r at *
  generalize (a + (B * B - b)) % (B * B) = m at *
  obtain ⟨y3, z3, he3, -, -⟩ := numV_parts r
  have HR := Lib.hid he3
  unfold RetNum at HC
  rw [← hv, he3] at HC
  obtain ⟨ah, al, hea, qa, qb⟩ := numV_parts a
  obtain ⟨bh, bl, heb, qc, qd⟩ := numV_parts b
  rw [← qb, ← qd] at h1
  rw [← qa, ← qc] at h2
  rw [hea, heb]
  clear hlt hlo hc hhi hc2 e1 e2 e3 hv he3 hea heb qa qb qc qd ha hb
  go_enter Tryd.func13, Tryd.ntmps13
  go_wp2_with (first
    | simp only [h1]
    | simp only [h2]
    | (go_at_call 11; refine (HC.out _).mono ?_; rintro e w1 ⟨rfl, hb1⟩; obtain ⟨hc1, hf1⟩ := bcell hb1; have hz1 := hb1.size; simp at hz1; have L1 : w.heap.size + 1 < w1.heap.size := by omega))
  exact bodyPost_ret (v := .agg #[.int .u64 (y3 : Int), .int .u64 (z3 : Int)]) (by simp [results, Tryd.results13, go_sem, hc1, hf1, L1]) rfl ⟨by rw [HR.out], (by repeat (first | exact Below.refl _ _ | assumption | refine Below.drew ?_ | refine Below.alloc ?_ (by first | omega | (simp <;> omega)) _ | refine Below.setCell ?_ (by first | omega | (simp <;> omega)) _ | refine Below.trans ?_ (Below.mono (by assumption) (by first | omega | (simp <;> omega)))))⟩

theorem slice_none {n : Nat} {hi lo : Int} (h : lo < 0 ∨ hi < lo) : True := trivial

set_option maxRecDepth 100000 in
set_option maxHeartbeats 800000 in
theorem numSlice_any (n : Nat) (hi lo : Int) (w : World) (hn : n < B * B) (h0 : 0 ≤ lo) (h1 : lo ≤ hi) (h2 : hi < 128) : Calls Tryd.prog 19 #[numV n, .int .i64 hi, .int .i64 lo] w (RetNum w (n / 2 ^ sh lo % 2 ^ sh (hi - lo + 1))) := by
  have hlt : n / 2 ^ sh lo < B * B := Nat.lt_of_le_of_lt (Nat.div_le_self _ _) hn
  have HS : Hid (∀ W, Calls Tryd.prog 37 #[numV n, .int .i64 lo] W (RetNum W (n / 2 ^ sh lo))) := fun W => numShr_any n lo W hn
  have HC : Hid (∀ W, Calls Tryd.prog 11 #[numV (n / 2 ^ sh lo), .int .i64 (hi - lo + 1)] W (RetNum W (n / 2 ^ sh lo % 2 ^ sh (hi - lo + 1)))) := fun W => numCut_any _ _ W hlt
  generalize n / 2 ^ sh lo % 2 ^ sh (hi - lo + 1) = r at *
  generalize n / 2 ^ sh lo = m at *
  obtain ⟨y, z, he, -, -⟩ := numV_parts n
  obtain ⟨y1, z1, he1, -, -⟩ := numV_parts m
  obtain ⟨y3, z3, he3, -, -⟩ := numV_parts r
  have HR := Lib.hid he3
  unfold RetNum at HC HS
  rw [he, he1] at HS
  rw [he1, he3] at HC
  rw [he]
  clear he he1 he3 hn hlt
  go_enter Tryd.func19, Tryd.ntmps19
  go_wp2_with (first
    | (go_at_call 37; refine (HS.out _).mono ?_; rintro e w1 ⟨rfl, hb1⟩; obtain ⟨hc1, hf1⟩ := bcell hb1; have hz1 := hb1.size; simp at hz1; have L1 : w.heap.size + 1 < w1.heap.size := by omega)
    | (go_at_call 11; refine (HC.out _).mono ?_; rintro e w2 ⟨rfl, hb2⟩; obtain ⟨hc2, hf2⟩ := bcell hb2; have hz2 := hb2.size; have L2 : w.heap.size + 1 < w2.heap.size := by omega))
  all_goals exact bodyPost_ret (v := .agg #[.int .u64 (y3 : Int), .int .u64 (z3 : Int)]) (by simp [results, Tryd.results19, go_sem, hc1, hf1, hc2, hf2, L1, L2]) rfl ⟨by rw [HR.out], (by repeat (first | exact Below.refl _ _ | assumption | refine Below.drew ?_ | refine Below.alloc ?_ (by first | omega | (simp <;> omega)) _ | refine Below.setCell ?_ (by first | omega | (simp <;> omega)) _ | refine Below.trans ?_ (Below.mono (by assumption) (by first | omega | (simp <;> omega)))))⟩

end Go.Proofs.YtfalhemeiengcaaDoor

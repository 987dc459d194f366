/-
  Contracts of bdd.New, Holds at a constant, num.Bit, symbv.Const, symbv.Eval and Is at a store that is there, of vectors of constants.
-/
import Derived.Test.YtlihbbeodclncaaEval
namespace Go.Proofs.Ytlihbbeodclncaa
open Go.RowKit

def newCells (a c : Nat) : Obj := .cells #[.int .i64 (c : Int), .slice none 0 0, .map (some a), .map (some (a + 1)), .bool false] 54
def newWorld (w : World) (c : Nat) : World := ((w.alloc (.map #[] 0)).alloc (.map #[] 0)).alloc (newCells w.heap.size c)

set_option maxHeartbeats 400000 in
theorem new_ok (c : Nat) (w : World) (h0 : 2 ≤ c) (h1 : c ≤ 1048576) :
    Calls Try.prog 6 #[.int .i64 (c : Int)] w fun e w' => e = .returned (.tuple #[.pointer (some ⟨w.heap.size + 2, 0, none⟩), .int .i64 0]) ∧ newWorld w c = w' := by
  have hmm := @run_makeMap Try.prog
  go_enter Try.func6, Try.ntmps6
  go_wp2
  go_ret2
  exact ⟨rfl, rfl⟩

set_option maxHeartbeats 400000 in
theorem holds_two (b : Nat) (c x : Int) (pn : Option Addr) (n cp : Nat) (bits : Value) (w : World) (h0 : w.cell? ⟨b, 0, none⟩ = some (.int .i64 c)) (hc : (c == 0) = false) (h1 : w.cell? ⟨b, 1, none⟩ = some (.slice pn n cp)) (hx : 0 ≤ x) (hx1 : x ≤ 1) (hn : n ≤ 1000000000) :
    Calls Try.prog 47 #[.pointer (some ⟨b, 0, none⟩), .int .i64 x, bits] w fun e w' => e = .returned (.bool (x == 1)) ∧ w = w' := by
  go_enter Try.func47, Try.ntmps47
  go_wp2
  refine wp_loop_rounds 1 ?_
  rw [rounds_succ]
  go_wp2
  go_ret
  exact ⟨rfl, rfl⟩

theorem bit_low (z : Nat) (hz : z < B) : (bits .and .u64 (z : Int) 1 == 1) = z.testBit 0 := by
  have h := and_cast z 1 hz (by unfold B; omega)
  have e : ((1 : Nat) : Int) = 1 := rfl
  rw [e] at h
  rw [h, nat_mask1, Nat.testBit_zero]
  rcases Nat.mod_two_eq_zero_or_one z with h | h <;> rw [h] <;> rfl

theorem field_lo (u v : Int) (W : World) : (Instr.field 26 (.agg #[.int .u64 u, .int .u64 v]) 1).run Try.prog W = .ok (.int .u64 v) W := by kernel_rfl
theorem field_hi (u v : Int) (W : World) : (Instr.field 26 (.agg #[.int .u64 u, .int .u64 v]) 0).run Try.prog W = .ok (.int .u64 u) W := by kernel_rfl

def bitB (n : Nat) (i : Int) : Bool := decide (0 ≤ i) && decide (i < 128) && n.testBit i.toNat

set_option maxHeartbeats 400000 in
theorem numBit_any (n : Nat) (i : Int) (w : World) (hn : n < B * B) :
    Calls Try.prog 42 #[numV n, .int .i64 i] w fun e w' => e = .returned (.bool (bitB n i)) ∧ Below w.heap.size w w' := by
  obtain ⟨y, z, he, hy, hz0⟩ := numV_parts n
  have HE := Lib.hid he
  have HN := Lib.hid hn; clear hn
  rw [he]
  clear he hy hz0
  by_cases h0 : 0 ≤ i
  · by_cases h1 : i < 128
    · have HR : ∀ m, m = n / 2 ^ sh i → Hid ((bits .and .u64 ((m % B : Nat) : Int) 1 == 1) = bitB n i) := by
        intro m hm
        show _ = _
        have e1 : sh i = i.toNat := by unfold sh; omega
        rw [bit_low _ (low_lt _), hm, e1, B_pow, Nat.testBit_mod_two_pow, Nat.testBit_div_two_pow]
        simp [bitB, h0, h1]
      go_enter Try.func42, Try.ntmps42
      go_wp2_with fail
      rw [← HE.out]
      refine (numShr_any n _ _ HN.out).mono ?_
      rintro e w1 ⟨rfl, hb⟩
      obtain ⟨u, v, hm, hu, hv⟩ := numV_parts (n / 2 ^ sh i)
      have HM : Hid (v = n / 2 ^ sh i % B) := hv
      clear hu hv
      rw [hm]
      clear hm
      have hfl := field_lo
      go_wp2_with fail
      go_ret
      exact ⟨by rw [HM.out, (HR _ rfl).out]; rfl, (by repeat (first | exact Below.refl _ _ | assumption | refine Below.drew ?_ | refine Below.alloc ?_ (by first | omega | (simp <;> omega)) _ | refine Below.setCell ?_ (by first | omega | (simp <;> omega)) _ | refine Below.trans ?_ (Below.mono (by assumption) (by first | omega | (simp <;> omega)))))⟩
    · have hd : Hid (bitB n i = false) := by show _ = _; simp [bitB, h1]
      go_enter Try.func42, Try.ntmps42
      go_wp2_with fail
      go_ret
      exact ⟨by rw [hd.out]; rfl, (by repeat (first | exact Below.refl _ _ | assumption | refine Below.drew ?_ | refine Below.alloc ?_ (by first | omega | (simp <;> omega)) _ | refine Below.setCell ?_ (by first | omega | (simp <;> omega)) _ | refine Below.trans ?_ (Below.mono (by assumption) (by first | omega | (simp <;> omega)))))⟩
  · have hd : Hid (bitB n i = false) := by show _ = _; simp [bitB, h0]
    go_enter Try.func42, Try.ntmps42
    go_wp2_with fail
    go_ret
    exact ⟨by rw [hd.out]; rfl, (by repeat (first | exact Below.refl _ _ | assumption | refine Below.drew ?_ | refine Below.alloc ?_ (by first | omega | (simp <;> omega)) _ | refine Below.setCell ?_ (by first | omega | (simp <;> omega)) _ | refine Below.trans ?_ (Below.mono (by assumption) (by first | omega | (simp <;> omega)))))⟩

def constBits (n m : Nat) : List Int := (List.range m).map fun i => if bitB n (i : Nat) then 1 else 0
theorem constBits_len (n m : Nat) : (constBits n m).length = m := by simp [constBits]
/-- The first k bits laid, zeros behind. -/
def constTo (n m k : Nat) : List Value := (List.range m).map fun i => .int .i64 (if decide (i < k) && bitB n (i : Nat) then 1 else 0)
theorem constTo_zero (n m : Nat) : constTo n m 0 = List.replicate m (.int .i64 0) := by
  simp [constTo, List.map_const']
theorem constTo_end (n m : Nat) : constTo n m m = (constBits n m).map (Value.int .i64) := by
  unfold constTo constBits
  rw [List.map_map]
  apply List.map_congr_left
  intro i hi
  have := List.mem_range.1 hi
  simp [this]
theorem constTo_yes (n m k : Nat) (hk : k < m) (h : bitB n (k : Nat) = true) : (constTo n m k).set k (.int .i64 1) = constTo n m (k + 1) := by
  apply List.ext_getElem
  · simp [constTo]
  · intro i h1 h2
    rw [List.getElem_set]
    simp only [constTo, List.getElem_map, List.getElem_range]
    by_cases hik : k = i
    · subst hik
      rw [if_pos rfl, h]
      simp
    · rw [if_neg hik]
      have : (decide (i < k + 1)) = decide (i < k) := by rw [decide_eq_decide]; omega
      rw [this]
theorem constTo_no (n m k : Nat) (h : bitB n (k : Nat) = false) : constTo n m k = constTo n m (k + 1) := by
  unfold constTo
  apply List.map_congr_left
  intro i _
  by_cases hik : i = k
  · subst hik; simp [h]
  · have : (decide (i < k + 1)) = decide (i < k) := by rw [decide_eq_decide]; omega
    rw [this]

set_option maxHeartbeats 400000 in
theorem width_any (k : Int) (w : World) : Calls Try.prog 59 #[.int .i64 k] w fun e w' => e = .returned (.int .i64 ((max 0 (min k 256)).toNat : Int)) ∧ w = w' := by
  have h1 : Hid (((max 0 (min k 256)).toNat : Int) = max 0 (min k 256)) := by show _ = _; omega
  go_enter Try.func59, Try.ntmps59
  go_wp2
  all_goals
    go_ret
    exact ⟨congrArg (fun x => Ending.returned (Value.int .i64 x)) (by first | omega | (rw [h1.out]; omega)), rfl⟩

end Go.Proofs.Ytlihbbeodclncaa

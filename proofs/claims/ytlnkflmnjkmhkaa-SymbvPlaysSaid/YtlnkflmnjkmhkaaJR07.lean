/-
  Lemmas, joined: NumP, Num, NumSh, Eval.
-/
import Derived.Laws.BitsAllLaws
import Derived.Laws.Bits64
import Derived.KernelRfl
import Derived.Test.YtlnkflmnjkmhkaaJR01
import Derived.Deep.QuietTactic
import Derived.BigQuiet
import Derived.StillTailTactics
import Derived.RegionTactic
import Derived.BigRegion
import Derived.Test.YtlnkflmnjkmhkaaJR06
/-
  Plain arithmetic: a number of 128 bits as two halves of 64; shifts, masks, bits. No program in sight.
-/
namespace Go.Proofs.Ytlnkflmnjkmhkaa
open Go

/-- 2 to the 64. -/
def B : Nat := 18446744073709551616
theorem B_eq : B = 18446744073709551616 := rfl
theorem B_pow : B = 2 ^ 64 := rfl
theorem B_pos : 0 < B := by unfold B; omega

/-- A number of 128 bits as the program holds it: its high half, its low half. -/
def numV (n : Nat) : Value := .agg #[.int .u64 ((n / B : Nat) : Int), .int .u64 ((n % B : Nat) : Int)]
/-- How far a number is shifted by an amount. -/
def sh (k : Int) : Nat := (max 0 (min k 128)).toNat

theorem sh_le (k : Int) : sh k ≤ 128 := by unfold sh; omega

theorem numV_parts (n : Nat) : ∃ h l : Nat, numV n = .agg #[.int .u64 (h : Int), .int .u64 (l : Int)] ∧ h = n / B ∧ l = n % B := ⟨_, _, rfl, rfl, rfl⟩
theorem numV_mk (h l : Nat) (hl : l < B) : Value.agg #[.int .u64 (h : Int), .int .u64 (l : Int)] = numV (h * B + l) := by
  unfold numV
  have e1 : (h * B + l) / B = h := by rw [Nat.add_comm, Nat.add_mul_div_right _ _ B_pos, Nat.div_eq_of_lt hl, Nat.zero_add]
  have e2 : (h * B + l) % B = l := by rw [Nat.add_comm, Nat.add_mul_mod_self_right, Nat.mod_eq_of_lt hl]
  rw [e1, e2]
theorem numV_inj {a b : Nat} (h : numV a = numV b) : a = b := by
  unfold numV at h
  simp only [Value.agg.injEq, Array.mk.injEq, List.cons.injEq, Value.int.injEq, true_and, and_true] at h
  have h1 : a / B = b / B := by omega
  have h2 : a % B = b % B := by omega
  rw [← Nat.div_add_mod a B, ← Nat.div_add_mod b B, h1, h2]
theorem half_lt {n : Nat} (h : n < B * B) : n / B < B := Nat.div_lt_of_lt_mul h
theorem low_lt (n : Nat) : n % B < B := Nat.mod_lt _ B_pos
theorem parts_eq (n : Nat) : n / B * B + n % B = n := by rw [Nat.mul_comm]; exact Nat.div_add_mod n B

theorem wrap_cast (x : Nat) : IntKind.u64.wrap (x : Int) = ((x % B : Nat) : Int) := by rw [IntKind.wrap_u64]; unfold B; omega

theorem or_cast (a b : Nat) (ha : a < B) (hb : b < B) : bits .or .u64 (a : Int) (b : Int) = ((a ||| b : Nat) : Int) := u64_or_nat a b ha hb
theorem and_cast (a b : Nat) (ha : a < B) (hb : b < B) : bits .and .u64 (a : Int) (b : Int) = ((a &&& b : Nat) : Int) := u64_and_nat a b ha hb
theorem xor_cast (a b : Nat) (ha : a < B) (hb : b < B) : bits .xor .u64 (a : Int) (b : Int) = ((a ^^^ b : Nat) : Int) := u64_xor_nat a b ha hb

theorem two_halves (s : Nat) (h : s ≤ 64) : 2 ^ s * 2 ^ (64 - s) = B := by rw [← Nat.pow_add, B_pow]; congr 1; omega

theorem split_num (h l t u : Nat) (htu : t * u = B) (ht : 0 < t) (hu : 0 < u) (hl : l < B) :
    (h * B + l) / t = (h / t) * B + ((h % t) * u + l / t) ∧ l / t < u ∧ (h % t) * u + l / t < B := by
  have hlt : l / t < u := Nat.div_lt_of_lt_mul (by rw [htu]; exact hl)
  refine ⟨?_, hlt, ?_⟩
  · have e : h * B + l = t * (h * u) + l := by rw [← htu]; congr 1; rw [Nat.mul_left_comm]
    rw [e, Nat.mul_add_div ht]
    have e2 : h * u = (h / t) * B + (h % t) * u := by
      conv => lhs; rw [← Nat.div_add_mod h t]
      rw [Nat.add_mul, ← htu]; congr 1
      rw [Nat.mul_comm t, Nat.mul_assoc]
    rw [e2, Nat.add_assoc]
  · have h1 : h % t < t := Nat.mod_lt _ ht
    have h2 : (h % t + 1) * u ≤ t * u := Nat.mul_le_mul_right u h1
    rw [Nat.add_mul, Nat.one_mul, htu] at h2
    omega

theorem shr_small (h l s : Nat) (hh : h < B) (hl : l < B) (h0 : s < 64) :
    Value.agg #[.int .u64 ((h : Int) / 2 ^ s), .int .u64 (bits .or .u64 ((l : Int) / 2 ^ s) (IntKind.u64.wrap ((h : Int) * 2 ^ (64 - s))))] = numV ((h * B + l) / 2 ^ s) := by
  have htu := two_halves s (by omega)
  have ht : 0 < 2 ^ s := Nat.two_pow_pos s
  have hu : 0 < 2 ^ (64 - s) := Nat.two_pow_pos _
  obtain ⟨e1, e2, e3⟩ := split_num h l (2 ^ s) (2 ^ (64 - s)) htu ht hu hl
  have c1 : (h : Int) / 2 ^ s = ((h / 2 ^ s : Nat) : Int) := by push_cast; rfl
  have c2 : (l : Int) / 2 ^ s = ((l / 2 ^ s : Nat) : Int) := by push_cast; rfl
  have c3 : (h : Int) * 2 ^ (64 - s) = ((h * 2 ^ (64 - s) : Nat) : Int) := by push_cast; rfl
  have hm : h * 2 ^ (64 - s) % B = (h % 2 ^ s) * 2 ^ (64 - s) := by rw [← htu, Nat.mul_mod_mul_right]
  rw [c1, c2, c3, wrap_cast, hm, or_cast _ _ (Nat.lt_of_le_of_lt (Nat.div_le_self _ _) hl) (Nat.lt_of_le_of_lt (Nat.le_add_right _ _) e3), Nat.or_comm, nat_join (64 - s) _ _ (by rw [Nat.mul_mod_left]) e2, numV_mk _ _ e3, e1]

theorem shr_great (h l s : Nat) (hh : h < B) (hl : l < B) (h0 : 64 ≤ s) :
    Value.agg #[.int .u64 0, .int .u64 ((h : Int) / 2 ^ (s - 64))] = numV ((h * B + l) / 2 ^ s) := by
  have c1 : (h : Int) / 2 ^ (s - 64) = ((h / 2 ^ (s - 64) : Nat) : Int) := by push_cast; rfl
  have e : (h * B + l) / 2 ^ s = h / 2 ^ (s - 64) := by
    have : 2 ^ s = B * 2 ^ (s - 64) := by rw [B_pow, ← Nat.pow_add]; congr 1; omega
    rw [this, ← Nat.div_div_eq_div_mul, Nat.add_comm, Nat.add_mul_div_right _ _ B_pos, Nat.div_eq_of_lt hl, Nat.zero_add]
  have h2 := numV_mk 0 (h / 2 ^ (s - 64)) (Nat.lt_of_le_of_lt (Nat.div_le_self _ _) hh)
  rw [c1, e]
  rw [Nat.zero_mul, Nat.zero_add] at h2
  exact h2

theorem shl_small (h l s : Nat) (hh : h < B) (hl : l < B) (h0 : s < 64) :
    Value.agg #[.int .u64 (bits .or .u64 (IntKind.u64.wrap ((h : Int) * 2 ^ s)) ((l : Int) / 2 ^ (64 - s))), .int .u64 (IntKind.u64.wrap ((l : Int) * 2 ^ s))] = numV ((h * B + l) * 2 ^ s % (B * B)) := by
  have htu := two_halves s (by omega)
  have ht : 0 < 2 ^ s := Nat.two_pow_pos s
  have hu : 0 < 2 ^ (64 - s) := Nat.two_pow_pos _
  have c1 : (h : Int) * 2 ^ s = ((h * 2 ^ s : Nat) : Int) := by push_cast; rfl
  have c2 : (l : Int) * 2 ^ s = ((l * 2 ^ s : Nat) : Int) := by push_cast; rfl
  have c3 : (l : Int) / 2 ^ (64 - s) = ((l / 2 ^ (64 - s) : Nat) : Int) := by push_cast; rfl
  have hlt : l / 2 ^ (64 - s) < 2 ^ s := Nat.div_lt_of_lt_mul (by rw [Nat.mul_comm, htu]; exact hl)
  have hm : h * 2 ^ s % B = (h % 2 ^ (64 - s)) * 2 ^ s := by rw [← htu, Nat.mul_comm (2 ^ s) (2 ^ (64 - s)), Nat.mul_mod_mul_right]
  have hm2 : l * 2 ^ s = (l / 2 ^ (64 - s)) * B + (l % 2 ^ (64 - s)) * 2 ^ s := by
    conv => lhs; rw [← Nat.div_add_mod l (2 ^ (64 - s))]
    rw [Nat.add_mul, ← htu]; congr 1
    rw [Nat.mul_comm (2 ^ (64 - s)), Nat.mul_assoc, Nat.mul_comm (2 ^ (64 - s))]
  have hx : (l % 2 ^ (64 - s)) * 2 ^ s < B := by
    have h1 : l % 2 ^ (64 - s) < 2 ^ (64 - s) := Nat.mod_lt _ hu
    have h2 : (l % 2 ^ (64 - s) + 1) * 2 ^ s ≤ 2 ^ (64 - s) * 2 ^ s := Nat.mul_le_mul_right _ h1
    rw [Nat.add_mul, Nat.one_mul, Nat.mul_comm (2 ^ (64 - s)), htu] at h2
    omega
  have hm3 : l * 2 ^ s % B = (l % 2 ^ (64 - s)) * 2 ^ s := by rw [hm2, Nat.add_comm, Nat.add_mul_mod_self_right, Nat.mod_eq_of_lt hx]
  have hy : (h % 2 ^ (64 - s)) * 2 ^ s + l / 2 ^ (64 - s) < B := by
    have h1 : h % 2 ^ (64 - s) < 2 ^ (64 - s) := Nat.mod_lt _ hu
    have h2 : (h % 2 ^ (64 - s) + 1) * 2 ^ s ≤ 2 ^ (64 - s) * 2 ^ s := Nat.mul_le_mul_right _ h1
    rw [Nat.add_mul, Nat.one_mul, Nat.mul_comm (2 ^ (64 - s)), htu] at h2
    omega
  have hz : h * 2 ^ s = (h / 2 ^ (64 - s)) * B + (h % 2 ^ (64 - s)) * 2 ^ s := by
    conv => lhs; rw [← Nat.div_add_mod h (2 ^ (64 - s))]
    rw [Nat.add_mul, ← htu]; congr 1
    rw [Nat.mul_comm (2 ^ (64 - s)), Nat.mul_assoc, Nat.mul_comm (2 ^ (64 - s))]
  have he : (h * B + l) * 2 ^ s % (B * B) = ((h % 2 ^ (64 - s)) * 2 ^ s + l / 2 ^ (64 - s)) * B + (l % 2 ^ (64 - s)) * 2 ^ s := by
    have e1 : (h * B + l) * 2 ^ s = (h / 2 ^ (64 - s)) * (B * B) + (((h % 2 ^ (64 - s)) * 2 ^ s + l / 2 ^ (64 - s)) * B + (l % 2 ^ (64 - s)) * 2 ^ s) := by
      rw [Nat.add_mul, hm2, Nat.mul_assoc, Nat.mul_comm B, ← Nat.mul_assoc, hz]
      simp only [Nat.add_mul, Nat.mul_assoc, Nat.add_assoc]
    have e2 : ((h % 2 ^ (64 - s)) * 2 ^ s + l / 2 ^ (64 - s)) * B + (l % 2 ^ (64 - s)) * 2 ^ s < B * B := by
      have h2 : ((h % 2 ^ (64 - s)) * 2 ^ s + l / 2 ^ (64 - s) + 1) * B ≤ B * B := Nat.mul_le_mul_right _ hy
      rw [Nat.add_mul _ 1, Nat.one_mul] at h2
      omega
    rw [e1, Nat.add_comm, Nat.add_mul_mod_self_right, Nat.mod_eq_of_lt e2]
  rw [c1, c2, c3, wrap_cast, wrap_cast, hm, hm3, or_cast _ _ (Nat.lt_of_le_of_lt (Nat.le_add_right _ _) hy) (Nat.lt_of_le_of_lt (Nat.div_le_self _ _) hl), nat_join s _ _ (by rw [Nat.mul_mod_left]) hlt, numV_mk _ _ hx, he]

theorem shl_great (h l s : Nat) (hh : h < B) (hl : l < B) (h0 : 64 ≤ s) :
    Value.agg #[.int .u64 (IntKind.u64.wrap ((l : Int) * 2 ^ (s - 64))), .int .u64 0] = numV ((h * B + l) * 2 ^ s % (B * B)) := by
  have c1 : (l : Int) * 2 ^ (s - 64) = ((l * 2 ^ (s - 64) : Nat) : Int) := by push_cast; rfl
  have hs : 2 ^ s = 2 ^ (s - 64) * B := by rw [B_pow, ← Nat.pow_add]; congr 1; omega
  have e : (h * B + l) * 2 ^ s % (B * B) = (l * 2 ^ (s - 64) % B) * B := by
    have e0 : (h * B + l) * 2 ^ (s - 64) % B = l * 2 ^ (s - 64) % B := by
      rw [Nat.add_mul, Nat.mul_right_comm, Nat.add_comm, Nat.add_mul_mod_self_right]
    rw [hs, ← Nat.mul_assoc, Nat.mul_mod_mul_right, e0]
  have h2 := numV_mk (l * 2 ^ (s - 64) % B) 0 B_pos
  rw [Nat.add_zero, ← e] at h2
  rw [c1, wrap_cast]
  exact h2

theorem or_num (a b : Nat) (ha : a < B * B) (hb : b < B * B) :
    Value.agg #[.int .u64 (bits .or .u64 ((a / B : Nat) : Int) ((b / B : Nat) : Int)), .int .u64 (bits .or .u64 ((a % B : Nat) : Int) ((b % B : Nat) : Int))] = numV (a ||| b) := by
  rw [or_cast _ _ (half_lt ha) (half_lt hb), or_cast _ _ (low_lt _) (low_lt _)]
  unfold numV
  rw [B_pow, Nat.or_div_two_pow, Nat.or_mod_two_pow]
theorem and_num (a b : Nat) (ha : a < B * B) (hb : b < B * B) :
    Value.agg #[.int .u64 (bits .and .u64 ((a / B : Nat) : Int) ((b / B : Nat) : Int)), .int .u64 (bits .and .u64 ((a % B : Nat) : Int) ((b % B : Nat) : Int))] = numV (a &&& b) := by
  rw [and_cast _ _ (half_lt ha) (half_lt hb), and_cast _ _ (low_lt _) (low_lt _)]
  unfold numV
  rw [B_pow, Nat.and_div_two_pow, Nat.and_mod_two_pow]
theorem xor_num (a b : Nat) (ha : a < B * B) (hb : b < B * B) :
    Value.agg #[.int .u64 (bits .xor .u64 ((a / B : Nat) : Int) ((b / B : Nat) : Int)), .int .u64 (bits .xor .u64 ((a % B : Nat) : Int) ((b % B : Nat) : Int))] = numV (a ^^^ b) := by
  rw [xor_cast _ _ (half_lt ha) (half_lt hb), xor_cast _ _ (low_lt _) (low_lt _)]
  unfold numV
  rw [B_pow, Nat.xor_div_two_pow, Nat.xor_mod_two_pow]

end Go.Proofs.Ytlnkflmnjkmhkaa

/-
  Contracts of package num (and of the reference's Of), over the seat's program: what each returns, as natural numbers' own operations.
-/
namespace Go.Proofs.Ytlnkflmnjkmhkaa
open Go.RowKit

/-- A number is handed back; nothing that was has changed. -/
def RetNum (w : World) (n : Nat) (e : Ending) (w' : World) : Prop := e = .returned (numV n) ∧ Below w.heap.size w w'

theorem zero_eq_numV : Value.agg #[.int .u64 0, .int .u64 0] = numV 0 := rfl

set_option maxRecDepth 100000 in
set_option maxHeartbeats 400000 in
theorem or1_any (a b : Int) (w : World) :
    Calls Try.prog 140 #[.int .u64 a, .int .u64 b] w fun e w' => e = .returned (.int .u64 (bits BinOp.or IntKind.u64 a b)) ∧ w' = w := by
  go_enter Try.func140, Try.ntmps140
  go_wp2
  go_ret
  exact ⟨rfl, rfl⟩

set_option maxRecDepth 100000 in
set_option maxHeartbeats 400000 in
theorem both_or (a b c d : Int) (w : World) :
    Calls Try.prog 139 #[.agg #[.int .u64 a, .int .u64 b], .agg #[.int .u64 c, .int .u64 d], .func (Fn.func 140) #[] #[]] w fun e w' => e = .returned (.agg #[.int .u64 (bits BinOp.or IntKind.u64 a c), .int .u64 (bits BinOp.or IntKind.u64 b d)]) ∧ Below w.heap.size w w' := by
  go_enter Try.func139, Try.ntmps139
  go_wp2
  refine wp_region_still_tail 13 (by kernel_rfl) (by kernel_rfl) ?_
  simp only [List.take_succ_cons, List.take_zero, List.drop_succ_cons, List.drop_zero]
  change wpStill _ _ (World.drew _) _ _ _
  repeat (first | still_step | still_call (or1_any _ _ _))
  refine wpStill_nil ?_
  change wpList _ _ _ _ _ (World.drew _)
  go_wp2
  exact bodyPost_ret (v := .agg #[.int .u64 (bits BinOp.or IntKind.u64 a c), .int .u64 (bits BinOp.or IntKind.u64 b d)]) (by simp [results, Try.results139, go_sem]) rfl ⟨rfl, (by repeat (first | exact Below.refl _ _ | assumption | refine Below.drew ?_ | refine Below.alloc ?_ (by first | omega | (simp <;> omega)) _ | refine Below.setCell ?_ (by first | omega | (simp <;> omega)) _ | refine Below.trans ?_ (Below.mono (by assumption) (by first | omega | (simp <;> omega)))))⟩

set_option maxRecDepth 100000 in
set_option maxHeartbeats 400000 in
theorem or_any (a b c d : Int) (w : World) :
    Calls Try.prog 91 #[.agg #[.int .u64 a, .int .u64 b], .agg #[.int .u64 c, .int .u64 d]] w fun e w' => e = .returned (.agg #[.int .u64 (bits BinOp.or IntKind.u64 a c), .int .u64 (bits BinOp.or IntKind.u64 b d)]) ∧ Below w.heap.size w w' := by
  go_enter Try.func91, Try.ntmps91
  go_wp2_with (go_at_call 139; refine (both_or _ _ _ _ _).mono ?_; rintro e w1 ⟨rfl, hb⟩; obtain ⟨hc, hf⟩ := bcell hb; have hz := hb.size; simp at hz)
  exact bodyPost_ret (v := .agg #[.int .u64 (bits BinOp.or IntKind.u64 a c), .int .u64 (bits BinOp.or IntKind.u64 b d)]) (by simp [results, Try.results91, go_sem, hc, hf, hz]) rfl ⟨rfl, (by repeat (first | exact Below.refl _ _ | assumption | refine Below.drew ?_ | refine Below.alloc ?_ (by first | omega | (simp <;> omega)) _ | refine Below.setCell ?_ (by first | omega | (simp <;> omega)) _ | refine Below.trans ?_ (Below.mono (by assumption) (by first | omega | (simp <;> omega)))))⟩

theorem numOr_any (a b : Nat) (w : World) (ha : a < B * B) (hb : b < B * B) : Calls Try.prog 91 #[numV a, numV b] w (RetNum w (a ||| b)) :=
  (or_any _ _ _ _ w).mono fun e w' ⟨h1, h2⟩ => ⟨by rw [h1, or_num a b ha hb], h2⟩

set_option maxRecDepth 100000 in
set_option maxHeartbeats 400000 in
theorem and1_any (a b : Int) (w : World) :
    Calls Try.prog 157 #[.int .u64 a, .int .u64 b] w fun e w' => e = .returned (.int .u64 (bits BinOp.and IntKind.u64 a b)) ∧ w' = w := by
  go_enter Try.func157, Try.ntmps157
  go_wp2
  go_ret
  exact ⟨rfl, rfl⟩

set_option maxRecDepth 100000 in
set_option maxHeartbeats 400000 in
theorem both_and (a b c d : Int) (w : World) :
    Calls Try.prog 139 #[.agg #[.int .u64 a, .int .u64 b], .agg #[.int .u64 c, .int .u64 d], .func (Fn.func 157) #[] #[]] w fun e w' => e = .returned (.agg #[.int .u64 (bits BinOp.and IntKind.u64 a c), .int .u64 (bits BinOp.and IntKind.u64 b d)]) ∧ Below w.heap.size w w' := by
  go_enter Try.func139, Try.ntmps139
  go_wp2
  refine wp_region_still_tail 13 (by kernel_rfl) (by kernel_rfl) ?_
  simp only [List.take_succ_cons, List.take_zero, List.drop_succ_cons, List.drop_zero]
  change wpStill _ _ (World.drew _) _ _ _
  repeat (first | still_step | still_call (and1_any _ _ _))
  refine wpStill_nil ?_
  change wpList _ _ _ _ _ (World.drew _)
  go_wp2
  exact bodyPost_ret (v := .agg #[.int .u64 (bits BinOp.and IntKind.u64 a c), .int .u64 (bits BinOp.and IntKind.u64 b d)]) (by simp [results, Try.results139, go_sem]) rfl ⟨rfl, (by repeat (first | exact Below.refl _ _ | assumption | refine Below.drew ?_ | refine Below.alloc ?_ (by first | omega | (simp <;> omega)) _ | refine Below.setCell ?_ (by first | omega | (simp <;> omega)) _ | refine Below.trans ?_ (Below.mono (by assumption) (by first | omega | (simp <;> omega)))))⟩

set_option maxRecDepth 100000 in
set_option maxHeartbeats 400000 in
theorem and_any (a b c d : Int) (w : World) :
    Calls Try.prog 153 #[.agg #[.int .u64 a, .int .u64 b], .agg #[.int .u64 c, .int .u64 d]] w fun e w' => e = .returned (.agg #[.int .u64 (bits BinOp.and IntKind.u64 a c), .int .u64 (bits BinOp.and IntKind.u64 b d)]) ∧ Below w.heap.size w w' := by
  go_enter Try.func153, Try.ntmps153
  go_wp2_with (go_at_call 139; refine (both_and _ _ _ _ _).mono ?_; rintro e w1 ⟨rfl, hb⟩; obtain ⟨hc, hf⟩ := bcell hb; have hz := hb.size; simp at hz)
  exact bodyPost_ret (v := .agg #[.int .u64 (bits BinOp.and IntKind.u64 a c), .int .u64 (bits BinOp.and IntKind.u64 b d)]) (by simp [results, Try.results153, go_sem, hc, hf, hz]) rfl ⟨rfl, (by repeat (first | exact Below.refl _ _ | assumption | refine Below.drew ?_ | refine Below.alloc ?_ (by first | omega | (simp <;> omega)) _ | refine Below.setCell ?_ (by first | omega | (simp <;> omega)) _ | refine Below.trans ?_ (Below.mono (by assumption) (by first | omega | (simp <;> omega)))))⟩

theorem numAnd_any (a b : Nat) (w : World) (ha : a < B * B) (hb : b < B * B) : Calls Try.prog 153 #[numV a, numV b] w (RetNum w (a &&& b)) :=
  (and_any _ _ _ _ w).mono fun e w' ⟨h1, h2⟩ => ⟨by rw [h1, and_num a b ha hb], h2⟩

end Go.Proofs.Ytlnkflmnjkmhkaa

/-
  Contracts of num.Shr, Mask, Cut, Shl, Bit.
-/
namespace Go.Proofs.Ytlnkflmnjkmhkaa
open Go.RowKit

theorem numOf_val (n : Nat) (hn : n < B) : Value.agg #[.int .u64 0, .int .u64 (n : Int)] = numV n := by
  have he := numV_mk 0 n hn
  rw [Nat.zero_mul, Nat.zero_add] at he
  exact he

set_option maxRecDepth 100000 in
set_option maxHeartbeats 400000 in
theorem numOf_any (n : Nat) (hn : n < B) (w : World) :
    Calls Try.prog 93 #[.int .u64 (n : Int)] w (RetNum w n) := by
  have H := Lib.hid (numOf_val n hn); clear hn
  go_enter Try.func93, Try.ntmps93
  go_wp2
  exact bodyPost_ret (v := .agg #[.int .u64 0, .int .u64 (n : Int)]) (by simp [results, Try.results93, go_sem]) rfl ⟨by rw [H.out], (by repeat (first | exact Below.refl _ _ | assumption | refine Below.drew ?_ | refine Below.alloc ?_ (by first | omega | (simp <;> omega)) _ | refine Below.setCell ?_ (by first | omega | (simp <;> omega)) _ | refine Below.trans ?_ (Below.mono (by assumption) (by first | omega | (simp <;> omega)))))⟩

theorem shr_val (n s : Nat) (hn : n < B * B) : (s < 64 → ∀ h l : Nat, h = n / B → l = n % B → Value.agg #[.int .u64 ((h : Int) / 2 ^ s), .int .u64 (bits .or .u64 ((l : Int) / 2 ^ s) (IntKind.u64.wrap ((h : Int) * 2 ^ (64 - s))))] = numV (n / 2 ^ s)) ∧
    (64 ≤ s → ∀ h l : Nat, h = n / B → l = n % B → Value.agg #[.int .u64 0, .int .u64 ((h : Int) / 2 ^ (s - 64))] = numV (n / 2 ^ s)) := by
  refine ⟨fun hs h l e1 e2 => ?_, fun hs h l e1 e2 => ?_⟩
  · subst e1 e2; rw [shr_small _ _ _ (half_lt hn) (low_lt _) hs, parts_eq]
  · subst e1 e2; rw [shr_great _ (n % B) _ (half_lt hn) (low_lt _) hs, parts_eq]

set_option maxRecDepth 100000 in
set_option maxHeartbeats 400000 in
theorem numShr_any (n : Nat) (k : Int) (w : World) (hn : n < B * B) :
    Calls Try.prog 135 #[numV n, .int .i64 k] w (RetNum w (n / 2 ^ sh k)) := by
  have HV := Lib.hid (shr_val n (sh k) hn)
  obtain ⟨y, z, he, hh, hl⟩ := numV_parts n
  have HH : Hid (y = n / B ∧ z = n % B) := ⟨hh, hl⟩
  rw [he]
  clear he hh hl hn
  rcases Int.lt_or_le 0 k with h0 | h0
  · obtain ⟨s, rfl⟩ := Int.eq_ofNat_of_zero_le (Int.le_of_lt h0)
    have h0' : 0 < s := by omega
    clear h0
    rcases Nat.lt_or_ge s 64 with h1 | h1
    · have HS : Hid (sh (s : Int) = s) := by show _ = _; unfold sh; omega
      go_enter Try.func135, Try.ntmps135
      go_wp2
      exact bodyPost_ret (v := .agg #[.int .u64 ((y : Int) / 2 ^ s), .int .u64 (bits .or .u64 ((z : Int) / 2 ^ s) (IntKind.u64.wrap ((y : Int) * 2 ^ (64 - s))))]) (by simp [results, Try.results135, go_sem]) rfl ⟨by rw [HS.out] at HV ⊢; rw [HV.out.1 h1 y z HH.out.1 HH.out.2], (by repeat (first | exact Below.refl _ _ | assumption | refine Below.drew ?_ | refine Below.alloc ?_ (by first | omega | (simp <;> omega)) _ | refine Below.setCell ?_ (by first | omega | (simp <;> omega)) _ | refine Below.trans ?_ (Below.mono (by assumption) (by first | omega | (simp <;> omega)))))⟩
    · rcases Nat.lt_or_ge s 129 with h2 | h2
      · have HS : Hid (sh (s : Int) = s) := by show _ = _; unfold sh; omega
        by_cases h3 : s = 128
        · subst h3
          go_enter Try.func135, Try.ntmps135
          go_wp2
          exact bodyPost_ret (v := .agg #[.int .u64 0, .int .u64 ((y : Int) / 18446744073709551616)]) (by simp [results, Try.results135, go_sem]) rfl ⟨by rw [HS.out] at HV ⊢; rw [← HV.out.2 h1 y z HH.out.1 HH.out.2]; simp, (by repeat (first | exact Below.refl _ _ | assumption | refine Below.drew ?_ | refine Below.alloc ?_ (by first | omega | (simp <;> omega)) _ | refine Below.setCell ?_ (by first | omega | (simp <;> omega)) _ | refine Below.trans ?_ (Below.mono (by assumption) (by first | omega | (simp <;> omega)))))⟩
        · have h4 : s < 128 := by omega
          clear h3 h2
          go_enter Try.func135, Try.ntmps135
          go_wp2
          exact bodyPost_ret (v := .agg #[.int .u64 0, .int .u64 ((y : Int) / 2 ^ (s - 64))]) (by simp [results, Try.results135, go_sem]) rfl ⟨by rw [HS.out] at HV ⊢; rw [HV.out.2 h1 y z HH.out.1 HH.out.2], (by repeat (first | exact Below.refl _ _ | assumption | refine Below.drew ?_ | refine Below.alloc ?_ (by first | omega | (simp <;> omega)) _ | refine Below.setCell ?_ (by first | omega | (simp <;> omega)) _ | refine Below.trans ?_ (Below.mono (by assumption) (by first | omega | (simp <;> omega)))))⟩
      · have HS : Hid (sh (s : Int) = 128) := by show _ = _; unfold sh; omega
        go_enter Try.func135, Try.ntmps135
        go_wp2
        exact bodyPost_ret (v := .agg #[.int .u64 0, .int .u64 ((y : Int) / 18446744073709551616)]) (by simp [results, Try.results135, go_sem]) rfl ⟨by rw [HS.out] at HV ⊢; rw [← HV.out.2 (by omega) y z HH.out.1 HH.out.2]; simp, (by repeat (first | exact Below.refl _ _ | assumption | refine Below.drew ?_ | refine Below.alloc ?_ (by first | omega | (simp <;> omega)) _ | refine Below.setCell ?_ (by first | omega | (simp <;> omega)) _ | refine Below.trans ?_ (Below.mono (by assumption) (by first | omega | (simp <;> omega)))))⟩
  · have HS : Hid (sh k = 0) := by show _ = _; unfold sh; omega
    go_enter Try.func135, Try.ntmps135
    go_wp2
    all_goals exact bodyPost_ret (v := .agg #[.int .u64 (y : Int), .int .u64 (bits .or .u64 (z : Int) (IntKind.u64.wrap ((y : Int) * 18446744073709551616)))]) (by simp [results, Try.results135, go_sem]) rfl ⟨by rw [HS.out] at HV ⊢; rw [← HV.out.1 (by omega) y z HH.out.1 HH.out.2]; simp, (by repeat (first | exact Below.refl _ _ | assumption | refine Below.drew ?_ | refine Below.alloc ?_ (by first | omega | (simp <;> omega)) _ | refine Below.setCell ?_ (by first | omega | (simp <;> omega)) _ | refine Below.trans ?_ (Below.mono (by assumption) (by first | omega | (simp <;> omega)))))⟩

theorem ones_val : Value.agg #[.int .u64 18446744073709551615, .int .u64 18446744073709551615] = numV (B * B - 1) := by kernel_rfl
theorem BB_pow : B * B = 2 ^ 128 := by rw [B_pow, ← Nat.pow_add]
theorem ones_div (t : Nat) (h : t ≤ 128) : (B * B - 1) / 2 ^ (128 - t) = 2 ^ t - 1 := by
  have h1 : B * B = 2 ^ t * 2 ^ (128 - t) := by rw [BB_pow, ← Nat.pow_add]; congr 1; omega
  have h2 : 0 < 2 ^ (128 - t) := Nat.two_pow_pos _
  have h3 : 0 < 2 ^ t := Nat.two_pow_pos _
  apply Nat.div_eq_of_lt_le
  · rw [Nat.sub_mul, h1]; omega
  · rw [h1, Nat.sub_add_cancel h3]
    have : 0 < 2 ^ t * 2 ^ (128 - t) := Nat.mul_pos h3 h2
    omega
theorem mask_lt (w : Int) : 2 ^ sh w - 1 < B * B := by
  have h1 : 2 ^ sh w ≤ 2 ^ 128 := Nat.pow_le_pow_right (by omega) (sh_le w)
  have h2 : 0 < 2 ^ sh w := Nat.two_pow_pos _
  rw [BB_pow]; omega

set_option maxRecDepth 100000 in
set_option maxHeartbeats 400000 in
theorem numMask_any (k : Int) (w : World) : Calls Try.prog 154 #[.int .i64 k] w (RetNum w (2 ^ sh k - 1)) := by
  by_cases h0 : k < 1
  · have HS : Hid (sh k = 0) := by show _ = _; unfold sh; omega
    go_enter Try.func154, Try.ntmps154
    go_wp2_with fail
    exact bodyPost_ret (v := .agg #[.int .u64 0, .int .u64 0]) (by simp [results, Try.results154, go_sem]) rfl ⟨by rw [HS.out]; rfl, (by repeat (first | exact Below.refl _ _ | assumption | refine Below.drew ?_ | refine Below.alloc ?_ (by first | omega | (simp <;> omega)) _ | refine Below.setCell ?_ (by first | omega | (simp <;> omega)) _ | refine Below.trans ?_ (Below.mono (by assumption) (by first | omega | (simp <;> omega)))))⟩
  · have HS : ∀ j : Int, (128 < k → j = 0) → (k ≤ 128 → j = 128 - k) → Hid ((B * B - 1) / 2 ^ sh j = 2 ^ sh k - 1) := by
      intro j h1 h2
      show _ = _
      rw [← ones_div _ (sh_le k)]
      have : sh j = 128 - sh k := by unfold sh; omega
      rw [this]
    have HL : Hid (B * B - 1 < B * B) := by show _ < _; unfold B; omega
    have HO := Lib.hid ones_val
    go_enter Try.func154, Try.ntmps154
    go_wp2_with fail
    all_goals
      rw [HO.out]
      refine (numShr_any _ _ _ HL.out).mono ?_
      rintro e w1 ⟨rfl, hb⟩
      obtain ⟨hc, hf⟩ := bcell hb
      have hz := hb.size
      simp at hz
      obtain ⟨y, z, he, -, -⟩ := numV_parts ((B * B - 1) / 2 ^ sh _)
      have HE := Lib.hid he
      rw [he]
      clear he
      go_wp2_with fail
      have L2 : w.heap.size < w.heap.size + 1 + 1 := by omega
      exact bodyPost_ret (v := .agg #[.int .u64 (y : Int), .int .u64 (z : Int)]) (by simp [results, Try.results154, go_sem, hc, hf, hz, L2]) rfl ⟨by rw [← HE.out]; rw [(HS _ (by intro; omega) (by intro; omega)).out], (by repeat (first | exact Below.refl _ _ | assumption | refine Below.drew ?_ | refine Below.alloc ?_ (by first | omega | (simp <;> omega)) _ | refine Below.setCell ?_ (by first | omega | (simp <;> omega)) _ | refine Below.trans ?_ (Below.mono (by assumption) (by first | omega | (simp <;> omega)))))⟩

set_option maxRecDepth 100000 in
set_option maxHeartbeats 400000 in
theorem numCut_any (n : Nat) (k : Int) (w : World) (hn : n < B * B) : Calls Try.prog 142 #[numV n, .int .i64 k] w (RetNum w (n % 2 ^ sh k)) := by
  have HV : Hid (n &&& (2 ^ sh k - 1) = n % 2 ^ sh k) := Nat.and_two_pow_sub_one_eq_mod n (sh k)
  have HB := Lib.hid (and_num n (2 ^ sh k - 1) hn (mask_lt k))
  obtain ⟨y, z, he, hy, hz0⟩ := numV_parts n
  obtain ⟨u, v, hm, hu, hv⟩ := numV_parts (2 ^ sh k - 1)
  rw [← hy, ← hz0, ← hu, ← hv] at HB
  have HM := Lib.hid hm
  rw [he]
  clear he hy hz0 hm hu hv
  go_enter Try.func142, Try.ntmps142
  go_wp2_with fail
  go_region_with (first
    | (go_at_call 154; refine (numMask_any _ _).mono ?_; rintro e w1 ⟨rfl, hb⟩; rw [HM.out]; obtain ⟨hc, hf⟩ := bcell hb; have hz := hb.size; simp at hz; have L1 : w.heap.size + 1 < w1.heap.size := by omega)
    | (go_at_call 153; refine (and_any _ _ _ _ _).mono ?_; rintro e w2 ⟨rfl, hb2⟩; obtain ⟨hc2, hf2⟩ := bcell hb2; have hz2 := hb2.size))
  all_goals go_wp2_with fail
  all_goals exact bodyPost_ret (v := .agg #[.int .u64 (bits .and .u64 (y : Int) (u : Int)), .int .u64 (bits .and .u64 (z : Int) (v : Int))]) (by simp [results, Try.results142, go_sem, hc, hf, hc2, hf2, L1]) rfl ⟨by rw [HB.out, HV.out], (by repeat (first | exact Below.refl _ _ | assumption | refine Below.drew ?_ | refine Below.alloc ?_ (by first | omega | (simp <;> omega)) _ | refine Below.setCell ?_ (by first | omega | (simp <;> omega)) _ | refine Below.trans ?_ (Below.mono (by assumption) (by first | omega | (simp <;> omega)))))⟩

set_option maxRecDepth 100000 in
set_option maxHeartbeats 400000 in
theorem numShl_any (n : Nat) (k j : Int) (w : World) (hn : n < B * B) : Calls Try.prog 92 #[numV n, .int .i64 k, .int .i64 j] w (RetNum w (n * 2 ^ sh k % (B * B) % 2 ^ sh j)) := by
  have HC : Hid (n * 2 ^ sh k % (B * B) < B * B) := Nat.mod_lt _ (by unfold B; omega)
  have HV1 : sh k < 64 → ∀ y z : Nat, y = n / B → z = n % B → Value.agg #[.int .u64 (bits .or .u64 (IntKind.u64.wrap ((y : Int) * 2 ^ sh k)) ((z : Int) / 2 ^ (64 - sh k))), .int .u64 (IntKind.u64.wrap ((z : Int) * 2 ^ sh k))] = numV (n * 2 ^ sh k % (B * B)) := by
    intro hs y z e1 e2
    subst e1 e2; rw [shl_small _ _ _ (half_lt hn) (low_lt _) hs, parts_eq]
  have HV2 : 64 ≤ sh k → ∀ z : Nat, z = n % B → Value.agg #[.int .u64 (IntKind.u64.wrap ((z : Int) * 2 ^ (sh k - 64))), .int .u64 0] = numV (n * 2 ^ sh k % (B * B)) := by
    intro hs z e2
    subst e2; rw [shl_great _ (n % B) _ (half_lt hn) (low_lt _) hs, parts_eq]
  have HA := Lib.hid HV1; clear HV1
  have HB := Lib.hid HV2; clear HV2
  obtain ⟨y, z, he, hy, hz0⟩ := numV_parts n
  have HH : Hid (y = n / B ∧ z = n % B) := ⟨hy, hz0⟩
  rw [he]
  clear he hy hz0 hn
  rcases Int.lt_or_le 0 k with h0 | h0
  · obtain ⟨s, rfl⟩ := Int.eq_ofNat_of_zero_le (Int.le_of_lt h0)
    have h0' : 0 < s := by omega
    clear h0
    rcases Nat.lt_or_ge s 64 with h1 | h1
    · have HS : Hid (sh (s : Int) = s) := by show _ = _; unfold sh; omega
      have HE : Hid (Value.agg #[.int .u64 (bits .or .u64 (IntKind.u64.wrap ((y : Int) * 2 ^ s)) ((z : Int) / 2 ^ (64 - s))), .int .u64 (IntKind.u64.wrap ((z : Int) * 2 ^ s))] = numV (n * 2 ^ sh (s : Int) % (B * B))) := by
        show _ = _
        rw [← HA.out (by rw [HS.out]; exact h1) y z HH.out.1 HH.out.2, HS.out]
      go_enter Try.func92, Try.ntmps92
      go_wp2_with (go_at_call 141; go_in)
      rw [HE.out]
      refine (numCut_any _ _ _ HC.out).mono ?_
      rintro e w1 ⟨rfl, hb⟩
      obtain ⟨hc, hf⟩ := bcell hb
      have hz := hb.size
      simp at hz
      have L1 : w.heap.size + 1 < w1.heap.size := by omega
      obtain ⟨u, v, hm, -, -⟩ := numV_parts (n * 2 ^ sh _ % (B * B) % 2 ^ sh j)
      have HM := Lib.hid hm
      rw [hm]
      clear hm
      go_wp2_with fail
      exact bodyPost_ret (v := .agg #[.int .u64 (u : Int), .int .u64 (v : Int)]) (by simp [results, Try.results92, go_sem, hc, hf]) rfl ⟨by rw [← HM.out], (by repeat (first | exact Below.refl _ _ | assumption | refine Below.drew ?_ | refine Below.alloc ?_ (by first | omega | (simp <;> omega)) _ | refine Below.setCell ?_ (by first | omega | (simp <;> omega)) _ | refine Below.trans ?_ (Below.mono (by assumption) (by first | omega | (simp <;> omega)))))⟩
    · rcases Nat.lt_or_ge s 128 with h2 | h2
      · have HS : Hid (sh (s : Int) = s) := by show _ = _; unfold sh; omega
        have HE : Hid (Value.agg #[.int .u64 (IntKind.u64.wrap ((z : Int) * 2 ^ (s - 64))), .int .u64 0] = numV (n * 2 ^ sh (s : Int) % (B * B))) := by
          show _ = _
          rw [← HB.out (by rw [HS.out]; exact h1) z HH.out.2, HS.out]
        go_enter Try.func92, Try.ntmps92
        go_wp2_with (go_at_call 141; go_in)
        rw [HE.out]
        refine (numCut_any _ _ _ HC.out).mono ?_
        rintro e w1 ⟨rfl, hb⟩
        obtain ⟨hc, hf⟩ := bcell hb
        have hz := hb.size
        simp at hz
        have L1 : w.heap.size + 1 < w1.heap.size := by omega
        obtain ⟨u, v, hm, -, -⟩ := numV_parts (n * 2 ^ sh _ % (B * B) % 2 ^ sh j)
        have HM := Lib.hid hm
        rw [hm]
        clear hm
        go_wp2_with fail
        exact bodyPost_ret (v := .agg #[.int .u64 (u : Int), .int .u64 (v : Int)]) (by simp [results, Try.results92, go_sem, hc, hf]) rfl ⟨by rw [← HM.out], (by repeat (first | exact Below.refl _ _ | assumption | refine Below.drew ?_ | refine Below.alloc ?_ (by first | omega | (simp <;> omega)) _ | refine Below.setCell ?_ (by first | omega | (simp <;> omega)) _ | refine Below.trans ?_ (Below.mono (by assumption) (by first | omega | (simp <;> omega)))))⟩
      · have HS : Hid (sh (s : Int) = 128) := by show _ = _; unfold sh; omega
        have HE : Hid (Value.agg #[.int .u64 (IntKind.u64.wrap ((z : Int) * 18446744073709551616)), .int .u64 0] = numV (n * 2 ^ sh (s : Int) % (B * B))) := by
          show _ = _
          rw [← HB.out (by rw [HS.out]; omega) z HH.out.2, HS.out]; simp
        by_cases h3 : s = 128
        · subst h3
          go_enter Try.func92, Try.ntmps92
          go_wp2_with (go_at_call 141; go_in)
          rw [HE.out]
          refine (numCut_any _ _ _ HC.out).mono ?_
          rintro e w1 ⟨rfl, hb⟩
          obtain ⟨hc, hf⟩ := bcell hb
          have hz := hb.size
          simp at hz
          have L1 : w.heap.size + 1 < w1.heap.size := by omega
          obtain ⟨u, v, hm, -, -⟩ := numV_parts (n * 2 ^ sh _ % (B * B) % 2 ^ sh j)
          have HM := Lib.hid hm
          rw [hm]
          clear hm
          go_wp2_with fail
          exact bodyPost_ret (v := .agg #[.int .u64 (u : Int), .int .u64 (v : Int)]) (by simp [results, Try.results92, go_sem, hc, hf]) rfl ⟨by rw [← HM.out], (by repeat (first | exact Below.refl _ _ | assumption | refine Below.drew ?_ | refine Below.alloc ?_ (by first | omega | (simp <;> omega)) _ | refine Below.setCell ?_ (by first | omega | (simp <;> omega)) _ | refine Below.trans ?_ (Below.mono (by assumption) (by first | omega | (simp <;> omega)))))⟩
        · have h4 : 128 < s := by omega
          clear h3 h2
          go_enter Try.func92, Try.ntmps92
          go_wp2_with (go_at_call 141; go_in)
          rw [HE.out]
          refine (numCut_any _ _ _ HC.out).mono ?_
          rintro e w1 ⟨rfl, hb⟩
          obtain ⟨hc, hf⟩ := bcell hb
          have hz := hb.size
          simp at hz
          have L1 : w.heap.size + 1 < w1.heap.size := by omega
          obtain ⟨u, v, hm, -, -⟩ := numV_parts (n * 2 ^ sh _ % (B * B) % 2 ^ sh j)
          have HM := Lib.hid hm
          rw [hm]
          clear hm
          go_wp2_with fail
          exact bodyPost_ret (v := .agg #[.int .u64 (u : Int), .int .u64 (v : Int)]) (by simp [results, Try.results92, go_sem, hc, hf]) rfl ⟨by rw [← HM.out], (by repeat (first | exact Below.refl _ _ | assumption | refine Below.drew ?_ | refine Below.alloc ?_ (by first | omega | (simp <;> omega)) _ | refine Below.setCell ?_ (by first | omega | (simp <;> omega)) _ | refine Below.trans ?_ (Below.mono (by assumption) (by first | omega | (simp <;> omega)))))⟩
  · have HS : Hid (sh k = 0) := by show _ = _; unfold sh; omega
    have HE : Hid (Value.agg #[.int .u64 (bits .or .u64 (IntKind.u64.wrap (y : Int)) ((z : Int) / 18446744073709551616)), .int .u64 (IntKind.u64.wrap ((z : Int)))] = numV (n * 2 ^ sh k % (B * B))) := by
      show _ = _
      rw [← HA.out (by rw [HS.out]; omega) y z HH.out.1 HH.out.2, HS.out]; simp
    go_enter Try.func92, Try.ntmps92
    go_wp2_with (go_at_call 141; go_in)
    rw [HE.out]
    refine (numCut_any _ _ _ HC.out).mono ?_
    rintro e w1 ⟨rfl, hb⟩
    obtain ⟨hc, hf⟩ := bcell hb
    have hz := hb.size
    simp at hz
    have L1 : w.heap.size + 1 < w1.heap.size := by omega
    obtain ⟨u, v, hm, -, -⟩ := numV_parts (n * 2 ^ sh _ % (B * B) % 2 ^ sh j)
    have HM := Lib.hid hm
    rw [hm]
    clear hm
    go_wp2_with fail
    exact bodyPost_ret (v := .agg #[.int .u64 (u : Int), .int .u64 (v : Int)]) (by simp [results, Try.results92, go_sem, hc, hf]) rfl ⟨by rw [← HM.out], (by repeat (first | exact Below.refl _ _ | assumption | refine Below.drew ?_ | refine Below.alloc ?_ (by first | omega | (simp <;> omega)) _ | refine Below.setCell ?_ (by first | omega | (simp <;> omega)) _ | refine Below.trans ?_ (Below.mono (by assumption) (by first | omega | (simp <;> omega)))))⟩

end Go.Proofs.Ytlnkflmnjkmhkaa

/-
  Contracts of bdd.New, Holds of a constant, symbv.Eval, symbv.Is, num.Bit.
-/
namespace Go.Proofs.Ytlnkflmnjkmhkaa
open Go.RowKit

set_option maxRecDepth 100000 in
set_option maxHeartbeats 400000 in
theorem eval_nil (va bits : Value) (xs : List Int) (w : World) (ha : IVec w va xs) (hxl : xs.length ≤ 1000000) :
    Calls Try.prog 40 #[.pointer none, va, bits] w (RetNum w 0) := by
  obtain ⟨pa, ca, rfl, ha3, ha4, ha5⟩ := ha.shape
  clear ha
  have HA := Lib.hid ha5; clear ha5
  go_enter Try.func40, Try.ntmps40
  go_wp2_with fail
  go_loop [11] (fun i => ∃ k : Nat, k ≤ xs.length ∧ i = .int .i64 k) (fun i => xs.length - (intOf i).toNat)
  case atStart => exact ⟨0, Nat.zero_le _, rfl⟩
  case round =>
    obtain ⟨k, hk, rfl⟩ := hrel
    by_cases hlt : k < xs.length
    · obtain ⟨ba, oa, rfl, ha2, ha5⟩ := HA.out (by omega)
      have ga := ha5 k hlt
      clear ha5
      go_wp2_with (go_at_call 90; refine (holds_nil _ _ _).mono ?_; rintro e w1 ⟨rfl, rfl⟩)
      go_round
      case rel => exact ⟨k + 1, by omega, by go_num⟩
      case measure => simp [intOf]; omega
    · obtain rfl : k = xs.length := by omega
      go_wp2_with fail
      exact bodyPost_ret (v := .agg #[.int .u64 0, .int .u64 0]) (by simp [results, Try.results40, go_sem]) rfl ⟨rfl, (by repeat (first | exact Below.refl _ _ | assumption | refine Below.drew ?_ | refine Below.alloc ?_ (by first | omega | (simp <;> omega)) _ | refine Below.setCell ?_ (by first | omega | (simp <;> omega)) _ | refine Below.trans ?_ (Below.mono (by assumption) (by first | omega | (simp <;> omega)))))⟩

set_option maxRecDepth 100000 in
set_option maxHeartbeats 400000 in
theorem is_nil (w : World) :
    Calls Try.prog 45 #[.pointer none, .slice none 0 0] w fun e w' => e = .returned (.tuple #[numV 0, .bool false]) ∧ Below w.heap.size w w' := by
  have HZ := Lib.hid zero_eq_numV
  go_enter Try.func45, Try.ntmps45
  go_wp2_with fail
  refine wp_loop_rounds 1 ?_
  rw [rounds_succ]
  go_wp2_with fail
  refine (eval_nil _ _ [] _ (IVec.nil _) (by simp)).mono ?_
  rintro e w1 ⟨rfl, hb⟩
  obtain ⟨hc, hf⟩ := bcell hb
  rw [← HZ.out]
  go_wp2_with fail
  exact bodyPost_ret (v := .tuple #[.agg #[.int .u64 0, .int .u64 0], .bool false]) (by simp [results, Try.results45, go_sem, hc, hf]) rfl ⟨by rw [HZ.out], (by repeat (first | exact Below.refl _ _ | assumption | refine Below.drew ?_ | refine Below.alloc ?_ (by first | omega | (simp <;> omega)) _ | refine Below.setCell ?_ (by first | omega | (simp <;> omega)) _ | refine Below.trans ?_ (Below.mono (by assumption) (by first | omega | (simp <;> omega)))))⟩

end Go.Proofs.Ytlnkflmnjkmhkaa

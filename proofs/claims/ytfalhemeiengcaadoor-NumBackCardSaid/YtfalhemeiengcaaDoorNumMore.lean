/-
  Contracts of package num: Xor, Not, Add, Sub, Cat, Slice.
-/
import Derived.Test.YtfalhemeiengcaaDoorNumSh
import Derived.Laws.Externs
import Derived.Deep.RegionHeld3
namespace Go.Proofs.YtfalhemeiengcaaDoor
open Go.RowKit

set_option maxRecDepth 100000 in
set_option maxHeartbeats 400000 in
theorem xor1_any (a b : Int) (w : World) :
    Calls Tryd.prog 58 #[.int .u64 a, .int .u64 b] w fun e w' => e = .returned (.int .u64 (bits BinOp.xor IntKind.u64 a b)) ∧ w' = w := by
  go_enter Tryd.func58, Tryd.ntmps58
  go_wp2
  go_ret
  exact ⟨rfl, rfl⟩

set_option maxRecDepth 100000 in
set_option maxHeartbeats 400000 in
theorem both_xor (a b c d : Int) (w : World) :
    Calls Tryd.prog 55 #[.agg #[.int .u64 a, .int .u64 b], .agg #[.int .u64 c, .int .u64 d], .func (Fn.func 58) #[] #[]] w fun e w' => e = .returned (.agg #[.int .u64 (bits BinOp.xor IntKind.u64 a c), .int .u64 (bits BinOp.xor IntKind.u64 b d)]) ∧ Below w.heap.size w w' := by
  go_enter Tryd.func55, Tryd.ntmps55
  go_wp2
  refine wp_region_still_tail 13 (by kernel_rfl) (by kernel_rfl) ?_
  simp only [List.take_succ_cons, List.take_zero, List.drop_succ_cons, List.drop_zero]
  change wpStill _ _ (World.drew _) _ _ _
  repeat (first | still_step | still_call (xor1_any _ _ _))
  refine wpStill_nil ?_
  change wpList _ _ _ _ _ (World.drew _)
  go_wp2
  exact bodyPost_ret (v := .agg #[.int .u64 (bits BinOp.xor IntKind.u64 a c), .int .u64 (bits BinOp.xor IntKind.u64 b d)]) (by simp [results, Tryd.results55, go_sem]) rfl ⟨rfl, (by repeat (first | exact Below.refl _ _ | assumption | refine Below.drew ?_ | refine Below.alloc ?_ (by first | omega | (simp <;> omega)) _ | refine Below.setCell ?_ (by first | omega | (simp <;> omega)) _ | refine Below.trans ?_ (Below.mono (by assumption) (by first | omega | (simp <;> omega)))))⟩

set_option maxRecDepth 100000 in
set_option maxHeartbeats 400000 in
theorem xor_any (a b c d : Int) (w : World) :
    Calls Tryd.prog 30 #[.agg #[.int .u64 a, .int .u64 b], .agg #[.int .u64 c, .int .u64 d]] w fun e w' => e = .returned (.agg #[.int .u64 (bits BinOp.xor IntKind.u64 a c), .int .u64 (bits BinOp.xor IntKind.u64 b d)]) ∧ Below w.heap.size w w' := by
  go_enter Tryd.func30, Tryd.ntmps30
  go_wp2_with (go_at_call 55; refine (both_xor _ _ _ _ _).mono ?_; rintro e w1 ⟨rfl, hb⟩; obtain ⟨hc, hf⟩ := bcell hb; have hz := hb.size; simp at hz)
  exact bodyPost_ret (v := .agg #[.int .u64 (bits BinOp.xor IntKind.u64 a c), .int .u64 (bits BinOp.xor IntKind.u64 b d)]) (by simp [results, Tryd.results30, go_sem, hc, hf, hz]) rfl ⟨rfl, (by repeat (first | exact Below.refl _ _ | assumption | refine Below.drew ?_ | refine Below.alloc ?_ (by first | omega | (simp <;> omega)) _ | refine Below.setCell ?_ (by first | omega | (simp <;> omega)) _ | refine Below.trans ?_ (Below.mono (by assumption) (by first | omega | (simp <;> omega)))))⟩

theorem numXor_any (a b : Nat) (w : World) (ha : a < B * B) (hb : b < B * B) : Calls Tryd.prog 30 #[numV a, numV b] w (RetNum w (a ^^^ b)) :=
  (xor_any _ _ _ _ w).mono fun e w' ⟨h1, h2⟩ => ⟨by rw [h1, xor_num a b ha hb], h2⟩

set_option maxRecDepth 100000 in
set_option maxHeartbeats 400000 in
theorem numNot_any (n : Nat) (k : Int) (w : World) (hn : n < B * B) : Calls Tryd.prog 14 #[numV n, .int .i64 k] w (RetNum w ((n % 2 ^ sh k) ^^^ (2 ^ sh k - 1))) := by
  have hlt : n % 2 ^ sh k < B * B := Nat.lt_of_le_of_lt (Nat.mod_le _ _) hn
  have HC : Hid (∀ W, Calls Tryd.prog 11 #[numV n, .int .i64 k] W (RetNum W (n % 2 ^ sh k))) := fun W => numCut_any n k W hn
  have HM : Hid (∀ W, Calls Tryd.prog 21 #[.int .i64 k] W (RetNum W (2 ^ sh k - 1))) := fun W => numMask_any k W
  have HX : Hid (∀ W, Calls Tryd.prog 30 #[numV (n % 2 ^ sh k), numV (2 ^ sh k - 1)] W (RetNum W ((n % 2 ^ sh k) ^^^ (2 ^ sh k - 1)))) := fun W => numXor_any _ _ W hlt (mask_lt k)
  generalize n % 2 ^ sh k = m at *
  generalize 2 ^ sh k - 1 = q at *
  generalize m ^^^ q = r at *
  obtain ⟨y, z, he, -, -⟩ := numV_parts n
  obtain ⟨y1, z1, he1, -, -⟩ := numV_parts m
  obtain ⟨y2, z2, he2, -, -⟩ := numV_parts q
  obtain ⟨y3, z3, he3, -, -⟩ := numV_parts r
  have HR := Lib.hid he3
  unfold RetNum at HC HM HX
  rw [he, he1] at HC
  rw [he2] at HM
  rw [he1, he2, he3] at HX
  rw [he]
  clear he he1 he2 he3 hn hlt
  go_enter Tryd.func14, Tryd.ntmps14
  go_wp2_with (first
    | (go_at_call 11; refine (HC.out _).mono ?_; rintro e w1 ⟨rfl, hb1⟩; obtain ⟨hc1, hf1⟩ := bcell hb1; have hz1 := hb1.size; simp at hz1; have L1 : w.heap.size + 1 < w1.heap.size := by omega)
    | (go_at_call 21; refine (HM.out _).mono ?_; rintro e w2 ⟨rfl, hb2⟩; obtain ⟨hc2, hf2⟩ := bcell hb2; have hz2 := hb2.size; have L2 : w.heap.size + 1 < w2.heap.size := by omega)
    | (go_at_call 30; refine (HX.out _).mono ?_; rintro e w3 ⟨rfl, hb3⟩; obtain ⟨hc3, hf3⟩ := bcell hb3; have hz3 := hb3.size; have L3 : w.heap.size + 1 < w3.heap.size := by omega))
  exact bodyPost_ret (v := .agg #[.int .u64 (y3 : Int), .int .u64 (z3 : Int)]) (by simp [results, Tryd.results14, go_sem, hc1, hf1, hc2, hf2, hc3, hf3, L1, L2, L3]) rfl ⟨by rw [HR.out], (by repeat (first | exact Below.refl _ _ | assumption | refine Below.drew ?_ | refine Below.alloc ?_ (by first | omega | (simp <;> omega)) _ | refine Below.setCell ?_ (by first | omega | (simp <;> omega)) _ | refine Below.trans ?_ (Below.mono (by assumption) (by first | omega | (simp <;> omega)))))⟩

theorem add64_call (x y c : Nat) (hc : c ≤ 1) (w : World) : (callFunc 49 #[.int .u64 x, .int .u64 y, .int .u64 c]).run Tryd.prog w =
      .ok (.value (.tuple #[.int .u64 (((x + y + c) % B : Nat) : Int), .int .u64 (((x + y + c) / B : Nat) : Int)])) w := by
  rw [run_callFunc_extern (show Tryd.prog.funcs[49]? = some Tryd.f49 by kernel_rfl) (by kernel_rfl) (by kernel_rfl) (by kernel_rfl) (e := add64Entry) (by kernel_rfl), run_add64 x y c (by omega) (by omega) (by omega) (by omega)]
  simp only [Result.andThen]
  unfold B
  congr 5 <;> omega

/-- The model's entry for a difference with a borrow. -/
def sub64E : Array Value → Sem Value := fun args => do
  let (x, y, b) ← Extern.MathBitsCarry.three "Sub64" args
  pure (Extern.MathBitsCarry.pair ((x + Extern.MathBitsCarry.m64 - y - b) % Extern.MathBitsCarry.m64) (if x < y + b then 1 else 0))
theorem run_sub64E (x y b : Nat) (hb : b ≤ 1) (w : World) :
    (sub64E #[.int .u64 x, .int .u64 y, .int .u64 b]).run Tryd.prog w =
      .ok (.tuple #[.int .u64 (((x + 18446744073709551616 - y - b) % 18446744073709551616 : Nat) : Int), .int .u64 ((if x < y + b then 1 else 0 : Nat) : Int)]) w := by
  have : b = 0 ∨ b = 1 := by omega
  rcases this with rfl | rfl <;> rfl
theorem sub64_call (x y c : Nat) (hc : c ≤ 1) (w : World) : (callFunc 50 #[.int .u64 x, .int .u64 y, .int .u64 c]).run Tryd.prog w =
      .ok (.value (.tuple #[.int .u64 (((x + B - y - c) % B : Nat) : Int), .int .u64 ((if x < y + c then 1 else 0 : Nat) : Int)])) w := by
  rw [run_callFunc_extern (show Tryd.prog.funcs[50]? = some Tryd.f50 by kernel_rfl) (by kernel_rfl) (by kernel_rfl) (by kernel_rfl) (e := sub64E) (by kernel_rfl), run_sub64E x y c hc]
  rfl

theorem add_parts {a b lo c hi : Nat} (ha : a < B * B) (hb : b < B * B) (hlo : lo = (a % B + b % B + 0) % B) (hc : c = (a % B + b % B + 0) / B) (hhi : hi = (a / B + b / B + c) % B) : hi * B + lo = (a + b) % (B * B) ∧ lo < B ∧ c ≤ 1 := by
  unfold B at *
  omega
theorem sub_parts {a b lo c hi : Nat} (ha : a < B * B) (hb : b < B * B) (hlo : lo = (a % B + B - b % B - 0) % B) (hc : c = if a % B < b % B + 0 then 1 else 0) (hhi : hi = (a / B + B - b / B - c) % B) : hi * B + lo = (a + (B * B - b)) % (B * B) ∧ lo < B ∧ c ≤ 1 := by
  unfold B at *
  split at hc <;> omega

end Go.Proofs.YtfalhemeiengcaaDoor

/-
  Lemmas, joined: NumP, Lib, RowP, Num.
-/
import Derived.Laws.BitsAllLaws
import Derived.Laws.Bits64
import Derived.KernelRfl
import Derived.Test.YtlnkflmnjkmhkaaRows
import Derived.WalkKit
import Derived.Lib.Hide
import Derived.Deep.LoopGhost
import Derived.Deep.RegionWith
import Derived.WalkSpells
import Derived.WalkLawsBesides
import Derived.Laws.Rows
import Derived.Laws.Tables
import Derived.Deep.QuietTactic
import Derived.BigQuiet
import Derived.StillTailTactics
import Derived.RegionTactic
import Derived.BigRegion
/-
  Plain arithmetic: a number of 128 bits as two halves of 64; shifts, masks, bits. No program in sight.
-/
namespace Go.Proofs.Ytlnkflmnjkmhkaa
open Go

/-- 2 to the 64. -/
def B : Nat := 18446744073709551616
theorem B_eq : B = 18446744073709551616 := rfl
theorem B_pow : B = 2 ^ 64 := rfl
theorem B_pos : 0 < B := by unfold B; omega

/-- A number of 128 bits as the program holds it: its high half, its low half. -/
def numV (n : Nat) : Value := .agg #[.int .u64 ((n / B : Nat) : Int), .int .u64 ((n % B : Nat) : Int)]
/-- How far a number is shifted by an amount. -/
def sh (k : Int) : Nat := (max 0 (min k 128)).toNat

theorem sh_le (k : Int) : sh k ≤ 128 := by unfold sh; omega

theorem numV_parts (n : Nat) : ∃ h l : Nat, numV n = .agg #[.int .u64 (h : Int), .int .u64 (l : Int)] ∧ h = n / B ∧ l = n % B := ⟨_, _, rfl, rfl, rfl⟩
theorem numV_mk (h l : Nat) (hl : l < B) : Value.agg #[.int .u64 (h : Int), .int .u64 (l : Int)] = numV (h * B + l) := by
  unfold numV
  have e1 : (h * B + l) / B = h := by rw [Nat.add_comm, Nat.add_mul_div_right _ _ B_pos, Nat.div_eq_of_lt hl, Nat.zero_add]
  have e2 : (h * B + l) % B = l := by rw [Nat.add_comm, Nat.add_mul_mod_self_right, Nat.mod_eq_of_lt hl]
  rw [e1, e2]
theorem numV_inj {a b : Nat} (h : numV a = numV b) : a = b := by
  unfold numV at h
  simp only [Value.agg.injEq, Array.mk.injEq, List.cons.injEq, Value.int.injEq, true_and, and_true] at h
  have h1 : a / B = b / B := by omega
  have h2 : a % B = b % B := by omega
  rw [← Nat.div_add_mod a B, ← Nat.div_add_mod b B, h1, h2]
theorem half_lt {n : Nat} (h : n < B * B) : n / B < B := Nat.div_lt_of_lt_mul h
theorem low_lt (n : Nat) : n % B < B := Nat.mod_lt _ B_pos
theorem parts_eq (n : Nat) : n / B * B + n % B = n := by rw [Nat.mul_comm]; exact Nat.div_add_mod n B

theorem wrap_cast (x : Nat) : IntKind.u64.wrap (x : Int) = ((x % B : Nat) : Int) := by rw [IntKind.wrap_u64]; unfold B; omega

theorem or_cast (a b : Nat) (ha : a < B) (hb : b < B) : bits .or .u64 (a : Int) (b : Int) = ((a ||| b : Nat) : Int) := u64_or_nat a b ha hb
theorem and_cast (a b : Nat) (ha : a < B) (hb : b < B) : bits .and .u64 (a : Int) (b : Int) = ((a &&& b : Nat) : Int) := u64_and_nat a b ha hb
theorem xor_cast (a b : Nat) (ha : a < B) (hb : b < B) : bits .xor .u64 (a : Int) (b : Int) = ((a ^^^ b : Nat) : Int) := u64_xor_nat a b ha hb

theorem two_halves (s : Nat) (h : s ≤ 64) : 2 ^ s * 2 ^ (64 - s) = B := by rw [← Nat.pow_add, B_pow]; congr 1; omega

theorem split_num (h l t u : Nat) (htu : t * u = B) (ht : 0 < t) (hu : 0 < u) (hl : l < B) :
    (h * B + l) / t = (h / t) * B + ((h % t) * u + l / t) ∧ l / t < u ∧ (h % t) * u + l / t < B := by
  have hlt : l / t < u := Nat.div_lt_of_lt_mul (by rw [htu]; exact hl)
  refine ⟨?_, hlt, ?_⟩
  · have e : h * B + l = t * (h * u) + l := by rw [← htu]; congr 1; rw [Nat.mul_left_comm]
    rw [e, Nat.mul_add_div ht]
    have e2 : h * u = (h / t) * B + (h % t) * u := by
      conv => lhs; rw [← Nat.div_add_mod h t]
      rw [Nat.add_mul, ← htu]; congr 1
      rw [Nat.mul_comm t, Nat.mul_assoc]
    rw [e2, Nat.add_assoc]
  · have h1 : h % t < t := Nat.mod_lt _ ht
    have h2 : (h % t + 1) * u ≤ t * u := Nat.mul_le_mul_right u h1
    rw [Nat.add_mul, Nat.one_mul, htu] at h2
    omega

theorem shr_small (h l s : Nat) (hh : h < B) (hl : l < B) (h0 : s < 64) :
    Value.agg #[.int .u64 ((h : Int) / 2 ^ s), .int .u64 (bits .or .u64 ((l : Int) / 2 ^ s) (IntKind.u64.wrap ((h : Int) * 2 ^ (64 - s))))] = numV ((h * B + l) / 2 ^ s) := by
  have htu := two_halves s (by omega)
  have ht : 0 < 2 ^ s := Nat.two_pow_pos s
  have hu : 0 < 2 ^ (64 - s) := Nat.two_pow_pos _
  obtain ⟨e1, e2, e3⟩ := split_num h l (2 ^ s) (2 ^ (64 - s)) htu ht hu hl
  have c1 : (h : Int) / 2 ^ s = ((h / 2 ^ s : Nat) : Int) := by push_cast; rfl
  have c2 : (l : Int) / 2 ^ s = ((l / 2 ^ s : Nat) : Int) := by push_cast; rfl
  have c3 : (h : Int) * 2 ^ (64 - s) = ((h * 2 ^ (64 - s) : Nat) : Int) := by push_cast; rfl
  have hm : h * 2 ^ (64 - s) % B = (h % 2 ^ s) * 2 ^ (64 - s) := by rw [← htu, Nat.mul_mod_mul_right]
  rw [c1, c2, c3, wrap_cast, hm, or_cast _ _ (Nat.lt_of_le_of_lt (Nat.div_le_self _ _) hl) (Nat.lt_of_le_of_lt (Nat.le_add_right _ _) e3), Nat.or_comm, nat_join (64 - s) _ _ (by rw [Nat.mul_mod_left]) e2, numV_mk _ _ e3, e1]

theorem shr_great (h l s : Nat) (hh : h < B) (hl : l < B) (h0 : 64 ≤ s) :
    Value.agg #[.int .u64 0, .int .u64 ((h : Int) / 2 ^ (s - 64))] = numV ((h * B + l) / 2 ^ s) := by
  have c1 : (h : Int) / 2 ^ (s - 64) = ((h / 2 ^ (s - 64) : Nat) : Int) := by push_cast; rfl
  have e : (h * B + l) / 2 ^ s = h / 2 ^ (s - 64) := by
    have : 2 ^ s = B * 2 ^ (s - 64) := by rw [B_pow, ← Nat.pow_add]; congr 1; omega
    rw [this, ← Nat.div_div_eq_div_mul, Nat.add_comm, Nat.add_mul_div_right _ _ B_pos, Nat.div_eq_of_lt hl, Nat.zero_add]
  have h2 := numV_mk 0 (h / 2 ^ (s - 64)) (Nat.lt_of_le_of_lt (Nat.div_le_self _ _) hh)
  rw [c1, e]
  rw [Nat.zero_mul, Nat.zero_add] at h2
  exact h2

theorem shl_small (h l s : Nat) (hh : h < B) (hl : l < B) (h0 : s < 64) :
    Value.agg #[.int .u64 (bits .or .u64 (IntKind.u64.wrap ((h : Int) * 2 ^ s)) ((l : Int) / 2 ^ (64 - s))), .int .u64 (IntKind.u64.wrap ((l : Int) * 2 ^ s))] = numV ((h * B + l) * 2 ^ s % (B * B)) := by
  have htu := two_halves s (by omega)
  have ht : 0 < 2 ^ s := Nat.two_pow_pos s
  have hu : 0 < 2 ^ (64 - s) := Nat.two_pow_pos _
  have c1 : (h : Int) * 2 ^ s = ((h * 2 ^ s : Nat) : Int) := by push_cast; rfl
  have c2 : (l : Int) * 2 ^ s = ((l * 2 ^ s : Nat) : Int) := by push_cast; rfl
  have c3 : (l : Int) / 2 ^ (64 - s) = ((l / 2 ^ (64 - s) : Nat) : Int) := by push_cast; rfl
  have hlt : l / 2 ^ (64 - s) < 2 ^ s := Nat.div_lt_of_lt_mul (by rw [Nat.mul_comm, htu]; exact hl)
  have hm : h * 2 ^ s % B = (h % 2 ^ (64 - s)) * 2 ^ s := by rw [← htu, Nat.mul_comm (2 ^ s) (2 ^ (64 - s)), Nat.mul_mod_mul_right]
  have hm2 : l * 2 ^ s = (l / 2 ^ (64 - s)) * B + (l % 2 ^ (64 - s)) * 2 ^ s := by
    conv => lhs; rw [← Nat.div_add_mod l (2 ^ (64 - s))]
    rw [Nat.add_mul, ← htu]; congr 1
    rw [Nat.mul_comm (2 ^ (64 - s)), Nat.mul_assoc, Nat.mul_comm (2 ^ (64 - s))]
  have hx : (l % 2 ^ (64 - s)) * 2 ^ s < B := by
    have h1 : l % 2 ^ (64 - s) < 2 ^ (64 - s) := Nat.mod_lt _ hu
    have h2 : (l % 2 ^ (64 - s) + 1) * 2 ^ s ≤ 2 ^ (64 - s) * 2 ^ s := Nat.mul_le_mul_right _ h1
    rw [Nat.add_mul, Nat.one_mul, Nat.mul_comm (2 ^ (64 - s)), htu] at h2
    omega
  have hm3 : l * 2 ^ s % B = (l % 2 ^ (64 - s)) * 2 ^ s := by rw [hm2, Nat.add_comm, Nat.add_mul_mod_self_right, Nat.mod_eq_of_lt hx]
  have hy : (h % 2 ^ (64 - s)) * 2 ^ s + l / 2 ^ (64 - s) < B := by
    have h1 : h % 2 ^ (64 - s) < 2 ^ (64 - s) := Nat.mod_lt _ hu
    have h2 : (h % 2 ^ (64 - s) + 1) * 2 ^ s ≤ 2 ^ (64 - s) * 2 ^ s := Nat.mul_le_mul_right _ h1
    rw [Nat.add_mul, Nat.one_mul, Nat.mul_comm (2 ^ (64 - s)), htu] at h2
    omega
  have hz : h * 2 ^ s = (h / 2 ^ (64 - s)) * B + (h % 2 ^ (64 - s)) * 2 ^ s := by
    conv => lhs; rw [← Nat.div_add_mod h (2 ^ (64 - s))]
    rw [Nat.add_mul, ← htu]; congr 1
    rw [Nat.mul_comm (2 ^ (64 - s)), Nat.mul_assoc, Nat.mul_comm (2 ^ (64 - s))]
  have he : (h * B + l) * 2 ^ s % (B * B) = ((h % 2 ^ (64 - s)) * 2 ^ s + l / 2 ^ (64 - s)) * B + (l % 2 ^ (64 - s)) * 2 ^ s := by
    have e1 : (h * B + l) * 2 ^ s = (h / 2 ^ (64 - s)) * (B * B) + (((h % 2 ^ (64 - s)) * 2 ^ s + l / 2 ^ (64 - s)) * B + (l % 2 ^ (64 - s)) * 2 ^ s) := by
      rw [Nat.add_mul, hm2, Nat.mul_assoc, Nat.mul_comm B, ← Nat.mul_assoc, hz]
      simp only [Nat.add_mul, Nat.mul_assoc, Nat.add_assoc]
    have e2 : ((h % 2 ^ (64 - s)) * 2 ^ s + l / 2 ^ (64 - s)) * B + (l % 2 ^ (64 - s)) * 2 ^ s < B * B := by
      have h2 : ((h % 2 ^ (64 - s)) * 2 ^ s + l / 2 ^ (64 - s) + 1) * B ≤ B * B := Nat.mul_le_mul_right _ hy
      rw [Nat.add_mul _ 1, Nat.one_mul] at h2
      omega
    rw [e1, Nat.add_comm, Nat.add_mul_mod_self_right, Nat.mod_eq_of_lt e2]
  rw [c1, c2, c3, wrap_cast, wrap_cast, hm, hm3, or_cast _ _ (Nat.lt_of_le_of_lt (Nat.le_add_right _ _) hy) (Nat.lt_of_le_of_lt (Nat.div_le_self _ _) hl), nat_join s _ _ (by rw [Nat.mul_mod_left]) hlt, numV_mk _ _ hx, he]

theorem shl_great (h l s : Nat) (hh : h < B) (hl : l < B) (h0 : 64 ≤ s) :
    Value.agg #[.int .u64 (IntKind.u64.wrap ((l : Int) * 2 ^ (s - 64))), .int .u64 0] = numV ((h * B + l) * 2 ^ s % (B * B)) := by
  have c1 : (l : Int) * 2 ^ (s - 64) = ((l * 2 ^ (s - 64) : Nat) : Int) := by push_cast; rfl
  have hs : 2 ^ s = 2 ^ (s - 64) * B := by rw [B_pow, ← Nat.pow_add]; congr 1; omega
  have e : (h * B + l) * 2 ^ s % (B * B) = (l * 2 ^ (s - 64) % B) * B := by
    have e0 : (h * B + l) * 2 ^ (s - 64) % B = l * 2 ^ (s - 64) % B := by
      rw [Nat.add_mul, Nat.mul_right_comm, Nat.add_comm, Nat.add_mul_mod_self_right]
    rw [hs, ← Nat.mul_assoc, Nat.mul_mod_mul_right, e0]
  have h2 := numV_mk (l * 2 ^ (s - 64) % B) 0 B_pos
  rw [Nat.add_zero, ← e] at h2
  rw [c1, wrap_cast]
  exact h2

theorem or_num (a b : Nat) (ha : a < B * B) (hb : b < B * B) :
    Value.agg #[.int .u64 (bits .or .u64 ((a / B : Nat) : Int) ((b / B : Nat) : Int)), .int .u64 (bits .or .u64 ((a % B : Nat) : Int) ((b % B : Nat) : Int))] = numV (a ||| b) := by
  rw [or_cast _ _ (half_lt ha) (half_lt hb), or_cast _ _ (low_lt _) (low_lt _)]
  unfold numV
  rw [B_pow, Nat.or_div_two_pow, Nat.or_mod_two_pow]
theorem and_num (a b : Nat) (ha : a < B * B) (hb : b < B * B) :
    Value.agg #[.int .u64 (bits .and .u64 ((a / B : Nat) : Int) ((b / B : Nat) : Int)), .int .u64 (bits .and .u64 ((a % B : Nat) : Int) ((b % B : Nat) : Int))] = numV (a &&& b) := by
  rw [and_cast _ _ (half_lt ha) (half_lt hb), and_cast _ _ (low_lt _) (low_lt _)]
  unfold numV
  rw [B_pow, Nat.and_div_two_pow, Nat.and_mod_two_pow]
theorem xor_num (a b : Nat) (ha : a < B * B) (hb : b < B * B) :
    Value.agg #[.int .u64 (bits .xor .u64 ((a / B : Nat) : Int) ((b / B : Nat) : Int)), .int .u64 (bits .xor .u64 ((a % B : Nat) : Int) ((b % B : Nat) : Int))] = numV (a ^^^ b) := by
  rw [xor_cast _ _ (half_lt ha) (half_lt hb), xor_cast _ _ (low_lt _) (low_lt _)]
  unfold numV
  rw [B_pow, Nat.xor_div_two_pow, Nat.xor_mod_two_pow]

end Go.Proofs.Ytlnkflmnjkmhkaa

/-
  Small facts on worlds, and what it is for a value to read as a list of integers.
-/
namespace Go.Proofs.Ytlnkflmnjkmhkaa
open Go.RowKit

theorem bcell {W w1 : World} (hb : Below W.heap.size W w1) : (∀ b o, b < W.heap.size → w1.cell? ⟨b, o, none⟩ = W.cell? ⟨b, o, none⟩) ∧ (∀ b o, b < W.heap.size → w1.frozen? ⟨b, o, none⟩ = W.frozen? ⟨b, o, none⟩) :=
  ⟨fun b o h => hb.cell (p := ⟨b, o, none⟩) h, fun b o h => hb.frozen (p := ⟨b, o, none⟩) h⟩

/-- The value reads as the list of integers xs in the world w: nil or not; where its cells lie, if it has any. -/
def IVec (w : World) (v : Value) (xs : List Int) : Prop :=
  ∃ pa cap, v = .slice pa xs.length cap ∧ xs.length ≤ cap ∧ cap ≤ maxLen ∧
    (0 < xs.length → ∃ b off, pa = some ⟨b, off, none⟩ ∧ b < w.heap.size ∧ ∀ i, i < xs.length → w.cell? ⟨b, off + i, none⟩ = some (.int .i64 (xs.getD i 0)))

theorem IVec.nil (w : World) : IVec w (.slice none 0 0) [] := ⟨none, 0, rfl, Nat.le_refl _, Nat.zero_le _, fun h => absurd h (Nat.lt_irrefl 0)⟩

theorem IVec.below {w w' : World} {v : Value} {xs : List Int} (h : IVec w v xs) (hb : Below w.heap.size w w') : IVec w' v xs := by
  obtain ⟨pa, cap, h1, h2, h3, h4⟩ := h
  refine ⟨pa, cap, h1, h2, h3, fun h0 => ?_⟩
  obtain ⟨b, off, e, hlt, hc⟩ := h4 h0
  exact ⟨b, off, e, Nat.lt_of_lt_of_le hlt hb.size, fun i hi => by rw [hb.cell (p := ⟨b, off + i, none⟩) hlt]; exact hc i hi⟩

theorem IVec.shape {w : World} {v : Value} {xs : List Int} (h : IVec w v xs) : ∃ pa cap, v = .slice pa xs.length cap ∧ xs.length ≤ cap ∧ cap ≤ maxLen ∧
    (0 < xs.length → ∃ b off, pa = some ⟨b, off, none⟩ ∧ b < w.heap.size ∧ ∀ i, i < xs.length → w.cell? ⟨b, off + i, none⟩ = some (.int .i64 (xs.getD i 0))) := h

/-- A cell that is there lies in a block that is there, and has no spot. -/
theorem cell_there {w : World} {a : Addr} {v : Value} (h : w.cell? a = some v) : a.block < w.heap.size ∧ a.spot = none := by
  unfold World.cell? at h
  split at h
  · rename_i c t f hb
    refine ⟨(Array.getElem?_eq_some_iff.1 hb).1, ?_⟩
    split at h
    · cases h
    · rename_i hs; simpa using hs
  · cases h

theorem own_below {w w' : World} {base e size n : Nat} {v : Value} {xs : List Value} (h : w.ownsRow base e size v n xs) (hb : Below w.heap.size w w') : w'.ownsRow base e size v n xs := by
  obtain ⟨hl, h⟩ := h
  refine ⟨hl, ?_⟩
  rcases h with h | ⟨g, cap, cur, h1, h2, h3, h4⟩
  · exact .inl h
  · have hlt : g < w.heap.size := by
      rcases Nat.lt_or_ge g w.heap.size with h | h
      · exact h
      · rw [Array.getElem?_eq_none h] at h3; cases h3
    exact .inr ⟨g, cap, cur, h1, h2, by rw [hb.block g hlt]; exact h3, h4⟩

theorem IVec.of_owns {w : World} {base e : Nat} {v : Value} {n : Nat} {xs : List Int} (hlen : xs.length = n) (h : w.ownsRow base e 1 v n (xs.map (Value.int .i64))) : IVec w v xs := by
  obtain ⟨hl, h⟩ := h
  rcases h with ⟨h1, h2⟩ | ⟨g, cap, cur, h1, h2, h3, h4, h5, h6, h7⟩
  · subst h2
    obtain rfl := List.length_eq_zero_iff.1 hlen
    rw [h1]; exact IVec.nil w
  · have hlt : g < w.heap.size := by
      rcases Nat.lt_or_ge g w.heap.size with h | h
      · exact h
      · rw [Array.getElem?_eq_none h] at h3; cases h3
    refine ⟨some ⟨g, 0, none⟩, cap, by rw [hlen]; exact h1, by omega, h5, fun _ => ⟨g, 0, rfl, hlt, fun i hi => ?_⟩⟩
    simp only [World.cell?, h3, Nat.zero_add]
    have hi' : i < n := by omega
    have h8 : (cur.toList.take (n * 1))[i]? = some (.int .i64 (xs.getD i 0)) := by rw [h7]; simp [hi]
    rw [List.getElem?_take_of_lt (by omega)] at h8
    simpa using h8

/-- A row of integers that came in. -/
theorem IVec.of_row {w : World} {a : Option Addr} {len cap : Nat} {zs : List Int} (h : (a = none ∧ len = 0 ∧ cap = 0 ∧ zs = []) ∨
    ∃ x, a = some x ∧ len ≤ cap ∧ cap ≤ maxLen ∧ zs.length = cap ∧ (∀ i, i < zs.length → w.cell? (x.add i) = some (.int .i64 (zs.getD i 0))) ∧ ∀ n ∈ zs, (Lit.int .i64 n).wf = true) :
    IVec w (.slice a len cap) (zs.take len) ∧ (zs.take len).length = len := by
  rcases h with ⟨rfl, rfl, rfl, rfl⟩ | ⟨x, rfl, h1, h2, h3, h4, -⟩
  · exact ⟨IVec.nil w, rfl⟩
  · have hl : (zs.take len).length = len := by rw [List.length_take]; omega
    refine ⟨⟨some x, cap, by rw [hl], by omega, h2, fun h0 => ?_⟩, hl⟩
    obtain ⟨b, off, sp⟩ := x
    have h5 := h4 0 (by omega)
    obtain ⟨h6, h7⟩ := cell_there h5
    simp only [Addr.add] at h6 h7
    subst h7
    refine ⟨b, off, rfl, h6, fun i hi => ?_⟩
    have h8 := h4 i (by omega)
    have e8 : (⟨b, off, none⟩ : Addr).add i = ⟨b, off + i, none⟩ := by simp [Addr.add]
    rw [e8] at h8
    rw [h8]
    congr 2
    rw [List.getD_eq_getElem?_getD, List.getD_eq_getElem?_getD, List.getElem?_take_of_lt (by omega)]

/-- What a call hands back: a value that reads as xs; nothing that was has changed. -/
def RetVec (w : World) (xs : List Int) (e : Ending) (w' : World) : Prop := ∃ v, e = .returned v ∧ IVec w' v xs ∧ Below w.heap.size w w'

end Go.Proofs.Ytlnkflmnjkmhkaa

/-
  Rows of 128 bits as plain data.
-/
namespace Go.Proofs.Ytlnkflmnjkmhkaa
open Go.RowKit

/-- The cells of a row of 128 bits. -/
def rowA (f : Nat → Bool) : Array Value := (Array.range 128).map fun i => .bool (f i)
theorem rowA_size (f : Nat → Bool) : (rowA f).size = 128 := by simp [rowA]
theorem rowA_at (f : Nat → Bool) (i : Nat) (h : i < 128) : (rowA f)[i]? = some (.bool (f i)) := by simp [rowA, h]
theorem rowA_one (f : Nat → Bool) : (rowA f).all (·.oneCell') = true := by
  rw [Array.all_eq_true_iff_forall_mem]
  intro v hv
  simp only [rowA, Array.mem_map] at hv
  obtain ⟨i, -, rfl⟩ := hv
  rfl
theorem rowA_congr {f g : Nat → Bool} (h : ∀ i, i < 128 → f i = g i) : rowA f = rowA g := by
  apply Array.ext
  · simp [rowA]
  · intro i h1 h2
    simp only [rowA, Array.size_map, Array.size_range] at h1
    simp [rowA, h i h1]
/-- A row where one bit is another one. -/
def put (f : Nat → Bool) (i : Nat) (b : Bool) : Nat → Bool := fun j => if j = i then b else f j
theorem rowA_put (f : Nat → Bool) (i : Nat) (b : Bool) : (rowA f).setIfInBounds i (.bool b) = rowA (put f i b) := by
  apply Array.ext
  · simp [rowA]
  · intro j h1 h2
    simp only [rowA, Array.size_setIfInBounds, Array.size_map, Array.size_range] at h1
    rw [Array.getElem_setIfInBounds (by simpa [rowA] using h1)]
    simp only [rowA, Array.getElem_map, Array.getElem_range, put]
    by_cases e : i = j
    · subst e; simp
    · rw [if_neg e, if_neg (fun h => e h.symm)]

/-- The number of the first k bits. -/
def ofBits (f : Nat → Bool) : Nat → Nat
  | 0 => 0
  | k + 1 => ofBits f k + (if f k then 2 ^ k else 0)
theorem ofBits_lt (f : Nat → Bool) : ∀ k, ofBits f k < 2 ^ k
  | 0 => by simp [ofBits]
  | k + 1 => by
    have := ofBits_lt f k
    rw [ofBits, Nat.pow_succ]
    split <;> omega
theorem ofBits_testBit (f : Nat → Bool) : ∀ k i, (ofBits f k).testBit i = (decide (i < k) && f i)
  | 0, i => by simp [ofBits]
  | k + 1, i => by
    have ih := ofBits_testBit f k
    have hlt := ofBits_lt f k
    rw [ofBits]
    by_cases hf : f k = true
    · rw [if_pos hf, Nat.add_comm]
      by_cases h : i < k
      · rw [Nat.testBit_two_pow_add_gt h, ih]
        have : decide (i < k + 1) = decide (i < k) := by simp; omega
        rw [this]
      · by_cases e : i = k
        · subst e
          rw [Nat.testBit_two_pow_add_eq, ih]
          simp [hf]
        · have h1 : decide (i < k + 1) = false := by simp; omega
          rw [h1, Bool.false_and]
          apply Nat.testBit_lt_two_pow
          have : 2 ^ (k + 1) ≤ 2 ^ i := Nat.pow_le_pow_right (by omega) (by omega)
          rw [Nat.pow_succ] at this
          omega
    · rw [if_neg hf, Nat.add_zero, ih]
      by_cases h : i = k
      · subst h; simp [hf]
      · have : decide (i < k + 1) = decide (i < k) := by simp; omega
        rw [this]

/-- A number is that of its bits. -/
theorem ofBits_eq {f : Nat → Bool} {k n : Nat} (hn : n < 2 ^ k) (h : ∀ i, i < k → f i = n.testBit i) : ofBits f k = n := by
  apply Nat.eq_of_testBit_eq
  intro i
  rw [ofBits_testBit]
  by_cases hi : i < k
  · simp [hi, h i hi]
  · simp [hi]
    exact Nat.testBit_lt_two_pow (Nat.lt_of_lt_of_le hn (Nat.pow_le_pow_right (by omega) (by omega)))

end Go.Proofs.Ytlnkflmnjkmhkaa

/-
  Contracts of package num (and of the reference's Of), over the seat's program: what each returns, as natural numbers' own operations.
-/
namespace Go.Proofs.Ytlnkflmnjkmhkaa
open Go.RowKit

/-- A number is handed back; nothing that was has changed. -/
def RetNum (w : World) (n : Nat) (e : Ending) (w' : World) : Prop := e = .returned (numV n) ∧ Below w.heap.size w w'

theorem zero_eq_numV : Value.agg #[.int .u64 0, .int .u64 0] = numV 0 := rfl

set_option maxRecDepth 100000 in
set_option maxHeartbeats 400000 in
theorem or1_any (a b : Int) (w : World) :
    Calls Try.prog 140 #[.int .u64 a, .int .u64 b] w fun e w' => e = .returned (.int .u64 (bits BinOp.or IntKind.u64 a b)) ∧ w' = w := by
  go_enter Try.func140, Try.ntmps140
  go_wp2
  go_ret
  exact ⟨rfl, rfl⟩

set_option maxRecDepth 100000 in
set_option maxHeartbeats 400000 in
theorem both_or (a b c d : Int) (w : World) :
    Calls Try.prog 139 #[.agg #[.int .u64 a, .int .u64 b], .agg #[.int .u64 c, .int .u64 d], .func (Fn.func 140) #[] #[]] w fun e w' => e = .returned (.agg #[.int .u64 (bits BinOp.or IntKind.u64 a c), .int .u64 (bits BinOp.or IntKind.u64 b d)]) ∧ Below w.heap.size w w' := by
  go_enter Try.func139, Try.ntmps139
  go_wp2
  refine wp_region_still_tail 13 (by kernel_rfl) (by kernel_rfl) ?_
  simp only [List.take_succ_cons, List.take_zero, List.drop_succ_cons, List.drop_zero]
  change wpStill _ _ (World.drew _) _ _ _
  repeat (first | still_step | still_call (or1_any _ _ _))
  refine wpStill_nil ?_
  change wpList _ _ _ _ _ (World.drew _)
  go_wp2
  exact bodyPost_ret (v := .agg #[.int .u64 (bits BinOp.or IntKind.u64 a c), .int .u64 (bits BinOp.or IntKind.u64 b d)]) (by simp [results, Try.results139, go_sem]) rfl ⟨rfl, (by repeat (first | exact Below.refl _ _ | assumption | refine Below.drew ?_ | refine Below.alloc ?_ (by first | omega | (simp <;> omega)) _ | refine Below.setCell ?_ (by first | omega | (simp <;> omega)) _ | refine Below.trans ?_ (Below.mono (by assumption) (by first | omega | (simp <;> omega)))))⟩

set_option maxRecDepth 100000 in
set_option maxHeartbeats 400000 in
theorem or_any (a b c d : Int) (w : World) :
    Calls Try.prog 91 #[.agg #[.int .u64 a, .int .u64 b], .agg #[.int .u64 c, .int .u64 d]] w fun e w' => e = .returned (.agg #[.int .u64 (bits BinOp.or IntKind.u64 a c), .int .u64 (bits BinOp.or IntKind.u64 b d)]) ∧ Below w.heap.size w w' := by
  go_enter Try.func91, Try.ntmps91
  go_wp2_with (go_at_call 139; refine (both_or _ _ _ _ _).mono ?_; rintro e w1 ⟨rfl, hb⟩; obtain ⟨hc, hf⟩ := bcell hb; have hz := hb.size; simp at hz)
  exact bodyPost_ret (v := .agg #[.int .u64 (bits BinOp.or IntKind.u64 a c), .int .u64 (bits BinOp.or IntKind.u64 b d)]) (by simp [results, Try.results91, go_sem, hc, hf, hz]) rfl ⟨rfl, (by repeat (first | exact Below.refl _ _ | assumption | refine Below.drew ?_ | refine Below.alloc ?_ (by first | omega | (simp <;> omega)) _ | refine Below.setCell ?_ (by first | omega | (simp <;> omega)) _ | refine Below.trans ?_ (Below.mono (by assumption) (by first | omega | (simp <;> omega)))))⟩

theorem numOr_any (a b : Nat) (w : World) (ha : a < B * B) (hb : b < B * B) : Calls Try.prog 91 #[numV a, numV b] w (RetNum w (a ||| b)) :=
  (or_any _ _ _ _ w).mono fun e w' ⟨h1, h2⟩ => ⟨by rw [h1, or_num a b ha hb], h2⟩

set_option maxRecDepth 100000 in
set_option maxHeartbeats 400000 in
theorem and1_any (a b : Int) (w : World) :
    Calls Try.prog 157 #[.int .u64 a, .int .u64 b] w fun e w' => e = .returned (.int .u64 (bits BinOp.and IntKind.u64 a b)) ∧ w' = w := by
  go_enter Try.func157, Try.ntmps157
  go_wp2
  go_ret
  exact ⟨rfl, rfl⟩

set_option maxRecDepth 100000 in
set_option maxHeartbeats 400000 in
theorem both_and (a b c d : Int) (w : World) :
    Calls Try.prog 139 #[.agg #[.int .u64 a, .int .u64 b], .agg #[.int .u64 c, .int .u64 d], .func (Fn.func 157) #[] #[]] w fun e w' => e = .returned (.agg #[.int .u64 (bits BinOp.and IntKind.u64 a c), .int .u64 (bits BinOp.and IntKind.u64 b d)]) ∧ Below w.heap.size w w' := by
  go_enter Try.func139, Try.ntmps139
  go_wp2
  refine wp_region_still_tail 13 (by kernel_rfl) (by kernel_rfl) ?_
  simp only [List.take_succ_cons, List.take_zero, List.drop_succ_cons, List.drop_zero]
  change wpStill _ _ (World.drew _) _ _ _
  repeat (first | still_step | still_call (and1_any _ _ _))
  refine wpStill_nil ?_
  change wpList _ _ _ _ _ (World.drew _)
  go_wp2
  exact bodyPost_ret (v := .agg #[.int .u64 (bits BinOp.and IntKind.u64 a c), .int .u64 (bits BinOp.and IntKind.u64 b d)]) (by simp [results, Try.results139, go_sem]) rfl ⟨rfl, (by repeat (first | exact Below.refl _ _ | assumption | refine Below.drew ?_ | refine Below.alloc ?_ (by first | omega | (simp <;> omega)) _ | refine Below.setCell ?_ (by first | omega | (simp <;> omega)) _ | refine Below.trans ?_ (Below.mono (by assumption) (by first | omega | (simp <;> omega)))))⟩

set_option maxRecDepth 100000 in
set_option maxHeartbeats 400000 in
theorem and_any (a b c d : Int) (w : World) :
    Calls Try.prog 153 #[.agg #[.int .u64 a, .int .u64 b], .agg #[.int .u64 c, .int .u64 d]] w fun e w' => e = .returned (.agg #[.int .u64 (bits BinOp.and IntKind.u64 a c), .int .u64 (bits BinOp.and IntKind.u64 b d)]) ∧ Below w.heap.size w w' := by
  go_enter Try.func153, Try.ntmps153
  go_wp2_with (go_at_call 139; refine (both_and _ _ _ _ _).mono ?_; rintro e w1 ⟨rfl, hb⟩; obtain ⟨hc, hf⟩ := bcell hb; have hz := hb.size; simp at hz)
  exact bodyPost_ret (v := .agg #[.int .u64 (bits BinOp.and IntKind.u64 a c), .int .u64 (bits BinOp.and IntKind.u64 b d)]) (by simp [results, Try.results153, go_sem, hc, hf, hz]) rfl ⟨rfl, (by repeat (first | exact Below.refl _ _ | assumption | refine Below.drew ?_ | refine Below.alloc ?_ (by first | omega | (simp <;> omega)) _ | refine Below.setCell ?_ (by first | omega | (simp <;> omega)) _ | refine Below.trans ?_ (Below.mono (by assumption) (by first | omega | (simp <;> omega)))))⟩

theorem numAnd_any (a b : Nat) (w : World) (ha : a < B * B) (hb : b < B * B) : Calls Try.prog 153 #[numV a, numV b] w (RetNum w (a &&& b)) :=
  (and_any _ _ _ _ w).mono fun e w' ⟨h1, h2⟩ => ⟨by rw [h1, and_num a b ha hb], h2⟩

end Go.Proofs.Ytlnkflmnjkmhkaa

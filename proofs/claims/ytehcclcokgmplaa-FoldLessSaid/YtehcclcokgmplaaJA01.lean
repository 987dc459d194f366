/-
  Lemmas, joined: Lib, RowG, NumP, TabM, AppG, URow, PgS, ProgM.
-/
import Derived.Test.YtehcclcokgmplaaRows
import Derived.WalkKit
import Derived.Lib.Hide
import Derived.Deep.LoopGhost
import Derived.Deep.RegionWith
import Derived.WalkSpells
import Derived.WalkLawsBesides
import Derived.Deep.AppendLies
import Derived.Laws.BitsAllLaws
import Derived.Laws.Bits64
import Derived.KernelRfl
import Derived.Laws.AppendOwn
import Derived.Laws.AppendOwnNone
import Derived.Laws.OwnMore
/-
  Small facts on worlds, and what it is for a value to read as a list of integers.
-/
namespace Go.Proofs.Ytehcclcokgmplaa
open Go.RowKit

theorem bcell {W w1 : World} (hb : Below W.heap.size W w1) : (∀ b o, b < W.heap.size → w1.cell? ⟨b, o, none⟩ = W.cell? ⟨b, o, none⟩) ∧ (∀ b o, b < W.heap.size → w1.frozen? ⟨b, o, none⟩ = W.frozen? ⟨b, o, none⟩) :=
  ⟨fun b o h => hb.cell (p := ⟨b, o, none⟩) h, fun b o h => hb.frozen (p := ⟨b, o, none⟩) h⟩

/-- A cell that is there lies in a block that is there, and has no spot. -/
theorem cell_there {w : World} {a : Addr} {v : Value} (h : w.cell? a = some v) : a.block < w.heap.size ∧ a.spot = none := by
  unfold World.cell? at h
  split at h
  · rename_i c t f hb
    refine ⟨(Array.getElem?_eq_some_iff.1 hb).1, ?_⟩
    split at h
    · cases h
    · rename_i hs; simpa using hs
  · cases h

theorem own_below {w w' : World} {base e size n : Nat} {v : Value} {xs : List Value} (h : w.ownsRow base e size v n xs) (hb : Below w.heap.size w w') : w'.ownsRow base e size v n xs := by
  obtain ⟨hl, h⟩ := h
  refine ⟨hl, ?_⟩
  rcases h with h | ⟨g, cap, cur, h1, h2, h3, h4⟩
  · exact .inl h
  · have hlt : g < w.heap.size := by
      rcases Nat.lt_or_ge g w.heap.size with h | h
      · exact h
      · rw [Array.getElem?_eq_none h] at h3; cases h3
    exact .inr ⟨g, cap, cur, h1, h2, by rw [hb.block g hlt]; exact h3, h4⟩

end Go.Proofs.Ytehcclcokgmplaa

/-
  Slices in memory, in general: what it is for a value to read as a list of things, each of so many cells; structs of several cells; opening an argument.
-/
namespace Go.Proofs.Ytehcclcokgmplaa
open Go.RowKit

/-- The value reads as the list l of things of sz cells each. -/
def RowAt {α : Type} (sz : Nat) (At : World → Nat → Nat → α → Prop) (w : World) (v : Value) (l : List α) : Prop :=
  ∃ pa cap, v = .slice pa l.length cap ∧ l.length ≤ cap ∧ cap ≤ maxLen ∧ (pa = none → cap = 0) ∧
    (0 < l.length → ∃ b o, pa = some ⟨b, o, none⟩ ∧ b < w.heap.size ∧ ∀ j x, l[j]? = some x → At w b (o + j * sz) x)

/-- What lies in old memory is kept by a call that writes new memory alone. -/
def KeepAt {α : Type} (At : World → Nat → Nat → α → Prop) : Prop := ∀ (w w' : World) (b o : Nat) (x : α), Below w.heap.size w w' → b < w.heap.size → At w b o x → At w' b o x

section
variable {α : Type} {sz : Nat} {At : World → Nat → Nat → α → Prop} {w w' : World} {v : Value} {l : List α}
theorem RowAt.nil : RowAt sz At w (.slice none 0 0) ([] : List α) := ⟨none, 0, rfl, Nat.le_refl _, Nat.zero_le _, fun _ => rfl, fun h => absurd h (Nat.lt_irrefl 0)⟩
theorem RowAt.below (h : RowAt sz At w v l) (hk : KeepAt At) (hb : Below w.heap.size w w') : RowAt sz At w' v l := by
  obtain ⟨pa, cap, h1, h2, h3, h4, h5⟩ := h
  refine ⟨pa, cap, h1, h2, h3, h4, fun h0 => ?_⟩
  obtain ⟨b, o, e1, e2, e4⟩ := h5 h0
  exact ⟨b, o, e1, Nat.lt_of_lt_of_le e2 hb.size, fun j x hj => hk w w' b _ x hb e2 (e4 j x hj)⟩
theorem RowAt.shape (h : RowAt sz At w v l) : ∃ pa cap, v = .slice pa l.length cap ∧ l.length ≤ cap ∧ cap ≤ maxLen := by
  obtain ⟨pa, cap, h1, h2, h3, -⟩ := h; exact ⟨pa, cap, h1, h2, h3⟩
theorem RowAt.at (h : RowAt sz At w v l) {j : Nat} {x : α} (hj : l[j]? = some x) : ∃ b o cap, v = .slice (some ⟨b, o, none⟩) l.length cap ∧ b < w.heap.size ∧ At w b (o + j * sz) x := by
  obtain ⟨pa, cap, h1, h2, h3, h4, h5⟩ := h
  have hlt : j < l.length := (List.getElem?_eq_some_iff.1 hj).1
  obtain ⟨b, o, rfl, e2, e4⟩ := h5 (by omega)
  exact ⟨b, o, cap, h1, e2, e4 j x hj⟩
/-- The slice's address, and all its things. -/
theorem RowAt.all (h : RowAt sz At w v l) : ∃ pa cap, v = .slice pa l.length cap ∧ l.length ≤ cap ∧ cap ≤ maxLen ∧ (pa = none → cap = 0) ∧
    (0 < l.length → ∃ b o, pa = some ⟨b, o, none⟩ ∧ b < w.heap.size ∧ ∀ j x, l[j]? = some x → At w b (o + j * sz) x) := h
end

/-- Cells that lie one after the other. -/
def CellsAt (w : World) (b o : Nat) (cs : List Value) : Prop := ∀ i v, cs[i]? = some v → w.cell? ⟨b, o + i, none⟩ = some v
end Go.Proofs.Ytehcclcokgmplaa

/-
  Plain arithmetic: a number of 128 bits as two halves of 64; shifts, masks, bits. No program in sight.
-/
namespace Go.Proofs.Ytehcclcokgmplaa
open Go

/-- 2 to the 64. -/
def B : Nat := 18446744073709551616
theorem B_pow : B = 2 ^ 64 := rfl
theorem B_pos : 0 < B := by unfold B; omega

/-- A number of 128 bits as the program holds it: its high half, its low half. -/
def numV (n : Nat) : Value := .agg #[.int .u64 ((n / B : Nat) : Int), .int .u64 ((n % B : Nat) : Int)]
/-- How far a number is shifted by an amount. -/
def sh (k : Int) : Nat := (max 0 (min k 128)).toNat

theorem sh_le (k : Int) : sh k ≤ 128 := by unfold sh; omega

theorem numV_parts (n : Nat) : ∃ h l : Nat, numV n = .agg #[.int .u64 (h : Int), .int .u64 (l : Int)] ∧ h = n / B ∧ l = n % B := ⟨_, _, rfl, rfl, rfl⟩
theorem numV_mk (h l : Nat) (hl : l < B) : Value.agg #[.int .u64 (h : Int), .int .u64 (l : Int)] = numV (h * B + l) := by
  unfold numV
  have e1 : (h * B + l) / B = h := by rw [Nat.add_comm, Nat.add_mul_div_right _ _ B_pos, Nat.div_eq_of_lt hl, Nat.zero_add]
  have e2 : (h * B + l) % B = l := by rw [Nat.add_comm, Nat.add_mul_mod_self_right, Nat.mod_eq_of_lt hl]
  rw [e1, e2]
theorem half_lt {n : Nat} (h : n < B * B) : n / B < B := Nat.div_lt_of_lt_mul h
theorem low_lt (n : Nat) : n % B < B := Nat.mod_lt _ B_pos
theorem parts_eq (n : Nat) : n / B * B + n % B = n := by rw [Nat.mul_comm]; exact Nat.div_add_mod n B

theorem wrap_cast (x : Nat) : IntKind.u64.wrap (x : Int) = ((x % B : Nat) : Int) := by rw [IntKind.wrap_u64]; unfold B; omega

theorem or_cast (a b : Nat) (ha : a < B) (hb : b < B) : bits .or .u64 (a : Int) (b : Int) = ((a ||| b : Nat) : Int) := u64_or_nat a b ha hb
theorem and_cast (a b : Nat) (ha : a < B) (hb : b < B) : bits .and .u64 (a : Int) (b : Int) = ((a &&& b : Nat) : Int) := u64_and_nat a b ha hb
theorem xor_cast (a b : Nat) (ha : a < B) (hb : b < B) : bits .xor .u64 (a : Int) (b : Int) = ((a ^^^ b : Nat) : Int) := u64_xor_nat a b ha hb

theorem two_halves (s : Nat) (h : s ≤ 64) : 2 ^ s * 2 ^ (64 - s) = B := by rw [← Nat.pow_add, B_pow]; congr 1; omega

theorem split_num (h l t u : Nat) (htu : t * u = B) (ht : 0 < t) (_hu : 0 < u) (hl : l < B) :
    (h * B + l) / t = (h / t) * B + ((h % t) * u + l / t) ∧ l / t < u ∧ (h % t) * u + l / t < B := by
  have hlt : l / t < u := Nat.div_lt_of_lt_mul (by rw [htu]; exact hl)
  refine ⟨?_, hlt, ?_⟩
  · have e : h * B + l = t * (h * u) + l := by rw [← htu]; congr 1; rw [Nat.mul_left_comm]
    rw [e, Nat.mul_add_div ht]
    have e2 : h * u = (h / t) * B + (h % t) * u := by
      conv => lhs; rw [← Nat.div_add_mod h t]
      rw [Nat.add_mul, ← htu]; congr 1
      rw [Nat.mul_comm t, Nat.mul_assoc]
    rw [e2, Nat.add_assoc]
  · have h1 : h % t < t := Nat.mod_lt _ ht
    have h2 : (h % t + 1) * u ≤ t * u := Nat.mul_le_mul_right u h1
    rw [Nat.add_mul, Nat.one_mul, htu] at h2
    omega

theorem shr_small (h l s : Nat) (_hh : h < B) (hl : l < B) (h0 : s < 64) :
    Value.agg #[.int .u64 ((h : Int) / 2 ^ s), .int .u64 (bits .or .u64 ((l : Int) / 2 ^ s) (IntKind.u64.wrap ((h : Int) * 2 ^ (64 - s))))] = numV ((h * B + l) / 2 ^ s) := by
  have htu := two_halves s (by omega)
  have ht : 0 < 2 ^ s := Nat.two_pow_pos s
  have hu : 0 < 2 ^ (64 - s) := Nat.two_pow_pos _
  obtain ⟨e1, e2, e3⟩ := split_num h l (2 ^ s) (2 ^ (64 - s)) htu ht hu hl
  have c1 : (h : Int) / 2 ^ s = ((h / 2 ^ s : Nat) : Int) := by push_cast; rfl
  have c2 : (l : Int) / 2 ^ s = ((l / 2 ^ s : Nat) : Int) := by push_cast; rfl
  have c3 : (h : Int) * 2 ^ (64 - s) = ((h * 2 ^ (64 - s) : Nat) : Int) := by push_cast; rfl
  have hm : h * 2 ^ (64 - s) % B = (h % 2 ^ s) * 2 ^ (64 - s) := by rw [← htu, Nat.mul_mod_mul_right]
  rw [c1, c2, c3, wrap_cast, hm, or_cast _ _ (Nat.lt_of_le_of_lt (Nat.div_le_self _ _) hl) (Nat.lt_of_le_of_lt (Nat.le_add_right _ _) e3), Nat.or_comm, nat_join (64 - s) _ _ (by rw [Nat.mul_mod_left]) e2, numV_mk _ _ e3, e1]

theorem shr_great (h l s : Nat) (hh : h < B) (hl : l < B) (h0 : 64 ≤ s) :
    Value.agg #[.int .u64 0, .int .u64 ((h : Int) / 2 ^ (s - 64))] = numV ((h * B + l) / 2 ^ s) := by
  have c1 : (h : Int) / 2 ^ (s - 64) = ((h / 2 ^ (s - 64) : Nat) : Int) := by push_cast; rfl
  have e : (h * B + l) / 2 ^ s = h / 2 ^ (s - 64) := by
    have : 2 ^ s = B * 2 ^ (s - 64) := by rw [B_pow, ← Nat.pow_add]; congr 1; omega
    rw [this, ← Nat.div_div_eq_div_mul, Nat.add_comm, Nat.add_mul_div_right _ _ B_pos, Nat.div_eq_of_lt hl, Nat.zero_add]
  have h2 := numV_mk 0 (h / 2 ^ (s - 64)) (Nat.lt_of_le_of_lt (Nat.div_le_self _ _) hh)
  rw [c1, e]
  rw [Nat.zero_mul, Nat.zero_add] at h2
  exact h2

theorem shl_small (h l s : Nat) (_hh : h < B) (hl : l < B) (h0 : s < 64) :
    Value.agg #[.int .u64 (bits .or .u64 (IntKind.u64.wrap ((h : Int) * 2 ^ s)) ((l : Int) / 2 ^ (64 - s))), .int .u64 (IntKind.u64.wrap ((l : Int) * 2 ^ s))] = numV ((h * B + l) * 2 ^ s % (B * B)) := by
  have htu := two_halves s (by omega)
  have ht : 0 < 2 ^ s := Nat.two_pow_pos s
  have hu : 0 < 2 ^ (64 - s) := Nat.two_pow_pos _
  have c1 : (h : Int) * 2 ^ s = ((h * 2 ^ s : Nat) : Int) := by push_cast; rfl
  have c2 : (l : Int) * 2 ^ s = ((l * 2 ^ s : Nat) : Int) := by push_cast; rfl
  have c3 : (l : Int) / 2 ^ (64 - s) = ((l / 2 ^ (64 - s) : Nat) : Int) := by push_cast; rfl
  have hlt : l / 2 ^ (64 - s) < 2 ^ s := Nat.div_lt_of_lt_mul (by rw [Nat.mul_comm, htu]; exact hl)
  have hm : h * 2 ^ s % B = (h % 2 ^ (64 - s)) * 2 ^ s := by rw [← htu, Nat.mul_comm (2 ^ s) (2 ^ (64 - s)), Nat.mul_mod_mul_right]
  have hm2 : l * 2 ^ s = (l / 2 ^ (64 - s)) * B + (l % 2 ^ (64 - s)) * 2 ^ s := by
    conv => lhs; rw [← Nat.div_add_mod l (2 ^ (64 - s))]
    rw [Nat.add_mul, ← htu]; congr 1
    rw [Nat.mul_comm (2 ^ (64 - s)), Nat.mul_assoc, Nat.mul_comm (2 ^ (64 - s))]
  have hx : (l % 2 ^ (64 - s)) * 2 ^ s < B := by
    have h1 : l % 2 ^ (64 - s) < 2 ^ (64 - s) := Nat.mod_lt _ hu
    have h2 : (l % 2 ^ (64 - s) + 1) * 2 ^ s ≤ 2 ^ (64 - s) * 2 ^ s := Nat.mul_le_mul_right _ h1
    rw [Nat.add_mul, Nat.one_mul, Nat.mul_comm (2 ^ (64 - s)), htu] at h2
    omega
  have hm3 : l * 2 ^ s % B = (l % 2 ^ (64 - s)) * 2 ^ s := by rw [hm2, Nat.add_comm, Nat.add_mul_mod_self_right, Nat.mod_eq_of_lt hx]
  have hy : (h % 2 ^ (64 - s)) * 2 ^ s + l / 2 ^ (64 - s) < B := by
    have h1 : h % 2 ^ (64 - s) < 2 ^ (64 - s) := Nat.mod_lt _ hu
    have h2 : (h % 2 ^ (64 - s) + 1) * 2 ^ s ≤ 2 ^ (64 - s) * 2 ^ s := Nat.mul_le_mul_right _ h1
    rw [Nat.add_mul, Nat.one_mul, Nat.mul_comm (2 ^ (64 - s)), htu] at h2
    omega
  have hz : h * 2 ^ s = (h / 2 ^ (64 - s)) * B + (h % 2 ^ (64 - s)) * 2 ^ s := by
    conv => lhs; rw [← Nat.div_add_mod h (2 ^ (64 - s))]
    rw [Nat.add_mul, ← htu]; congr 1
    rw [Nat.mul_comm (2 ^ (64 - s)), Nat.mul_assoc, Nat.mul_comm (2 ^ (64 - s))]
  have he : (h * B + l) * 2 ^ s % (B * B) = ((h % 2 ^ (64 - s)) * 2 ^ s + l / 2 ^ (64 - s)) * B + (l % 2 ^ (64 - s)) * 2 ^ s := by
    have e1 : (h * B + l) * 2 ^ s = (h / 2 ^ (64 - s)) * (B * B) + (((h % 2 ^ (64 - s)) * 2 ^ s + l / 2 ^ (64 - s)) * B + (l % 2 ^ (64 - s)) * 2 ^ s) := by
      rw [Nat.add_mul, hm2, Nat.mul_assoc, Nat.mul_comm B, ← Nat.mul_assoc, hz]
      simp only [Nat.add_mul, Nat.mul_assoc, Nat.add_assoc]
    have e2 : ((h % 2 ^ (64 - s)) * 2 ^ s + l / 2 ^ (64 - s)) * B + (l % 2 ^ (64 - s)) * 2 ^ s < B * B := by
      have h2 : ((h % 2 ^ (64 - s)) * 2 ^ s + l / 2 ^ (64 - s) + 1) * B ≤ B * B := Nat.mul_le_mul_right _ hy
      rw [Nat.add_mul _ 1, Nat.one_mul] at h2
      omega
    rw [e1, Nat.add_comm, Nat.add_mul_mod_self_right, Nat.mod_eq_of_lt e2]
  rw [c1, c2, c3, wrap_cast, wrap_cast, hm, hm3, or_cast _ _ (Nat.lt_of_le_of_lt (Nat.le_add_right _ _) hy) (Nat.lt_of_le_of_lt (Nat.div_le_self _ _) hl), nat_join s _ _ (by rw [Nat.mul_mod_left]) hlt, numV_mk _ _ hx, he]

theorem shl_great (h l s : Nat) (_hh : h < B) (_hl : l < B) (h0 : 64 ≤ s) :
    Value.agg #[.int .u64 (IntKind.u64.wrap ((l : Int) * 2 ^ (s - 64))), .int .u64 0] = numV ((h * B + l) * 2 ^ s % (B * B)) := by
  have c1 : (l : Int) * 2 ^ (s - 64) = ((l * 2 ^ (s - 64) : Nat) : Int) := by push_cast; rfl
  have hs : 2 ^ s = 2 ^ (s - 64) * B := by rw [B_pow, ← Nat.pow_add]; congr 1; omega
  have e : (h * B + l) * 2 ^ s % (B * B) = (l * 2 ^ (s - 64) % B) * B := by
    have e0 : (h * B + l) * 2 ^ (s - 64) % B = l * 2 ^ (s - 64) % B := by
      rw [Nat.add_mul, Nat.mul_right_comm, Nat.add_comm, Nat.add_mul_mod_self_right]
    rw [hs, ← Nat.mul_assoc, Nat.mul_mod_mul_right, e0]
  have h2 := numV_mk (l * 2 ^ (s - 64) % B) 0 B_pos
  rw [Nat.add_zero, ← e] at h2
  rw [c1, wrap_cast]
  exact h2

theorem or_num (a b : Nat) (ha : a < B * B) (hb : b < B * B) :
    Value.agg #[.int .u64 (bits .or .u64 ((a / B : Nat) : Int) ((b / B : Nat) : Int)), .int .u64 (bits .or .u64 ((a % B : Nat) : Int) ((b % B : Nat) : Int))] = numV (a ||| b) := by
  rw [or_cast _ _ (half_lt ha) (half_lt hb), or_cast _ _ (low_lt _) (low_lt _)]
  unfold numV
  rw [B_pow, Nat.or_div_two_pow, Nat.or_mod_two_pow]
theorem and_num (a b : Nat) (ha : a < B * B) (hb : b < B * B) :
    Value.agg #[.int .u64 (bits .and .u64 ((a / B : Nat) : Int) ((b / B : Nat) : Int)), .int .u64 (bits .and .u64 ((a % B : Nat) : Int) ((b % B : Nat) : Int))] = numV (a &&& b) := by
  rw [and_cast _ _ (half_lt ha) (half_lt hb), and_cast _ _ (low_lt _) (low_lt _)]
  unfold numV
  rw [B_pow, Nat.and_div_two_pow, Nat.and_mod_two_pow]
theorem xor_num (a b : Nat) (ha : a < B * B) (hb : b < B * B) :
    Value.agg #[.int .u64 (bits .xor .u64 ((a / B : Nat) : Int) ((b / B : Nat) : Int)), .int .u64 (bits .xor .u64 ((a % B : Nat) : Int) ((b % B : Nat) : Int))] = numV (a ^^^ b) := by
  rw [xor_cast _ _ (half_lt ha) (half_lt hb), xor_cast _ _ (low_lt _) (low_lt _)]
  unfold numV
  rw [B_pow, Nat.xor_div_two_pow, Nat.xor_mod_two_pow]

end Go.Proofs.Ytehcclcokgmplaa

/-
  Entries of tables in memory.
-/
namespace Go.Proofs.Ytehcclcokgmplaa
open Go.RowKit

/-- A number's two cells. -/
def NAt (w : World) (b o : Nat) (n : Nat) : Prop := n < B * B ∧ w.cell? ⟨b, o, none⟩ = some (.int .u64 ((n / B : Nat) : Int)) ∧ w.cell? ⟨b, o + 1, none⟩ = some (.int .u64 ((n % B : Nat) : Int))
theorem keepN : KeepAt NAt := fun _w _w' b o _n hb hlt ⟨h0, h1, h2⟩ => ⟨h0, (hb.cell (p := ⟨b, o, none⟩) hlt).trans h1, (hb.cell (p := ⟨b, o + 1, none⟩) hlt).trans h2⟩
/-- A pattern: the number it asks for, its mask. -/
structure Pt where
  v : Nat
  m : Nat
def PAt (w : World) (b o : Nat) (p : Pt) : Prop := NAt w b o p.v ∧ NAt w b (o + 2) p.m
theorem keepP : KeepAt PAt := fun w w' b o p hb hlt ⟨h1, h2⟩ => ⟨keepN w w' b o p.v hb hlt h1, keepN w w' b (o + 2) p.m hb hlt h2⟩
abbrev NRow := RowAt 2 NAt
abbrev PRow := RowAt 4 PAt

end Go.Proofs.Ytehcclcokgmplaa

/-
  Rows in general: appending to a row of the call's own; cutting a slice; rows of integers.
-/
namespace Go.Proofs.Ytehcclcokgmplaa
open Go.RowKit

/-- A slice type S of elements E: the zero, the cells, the bytes of one. -/
structure ElemOk (S E : TypeId) (z : Value) (size bytes : Nat) : Prop where
  und : Try.prog.underlying S = some (.slice E)
  inf : (Try.prog.info? E).map (fun i => (i.zero, i.size, i.bytes)) = some (some z, size, bytes)
  zs : z.cells.size = size
  sz : 0 < size

/-- A slice of m elements whose cells are news; nil, if it is so. -/
def SrcAt (w : World) (size : Nat) (vx : Value) (m : Nat) (news : List Value) : Prop :=
  news.length = m * size ∧ (∀ u ∈ news, u.oneCell' = true) ∧ ((vx = .slice none 0 0 ∧ m = 0) ∨ ∃ ad c, vx = .slice (some ad) m c ∧ ∀ j u, news[j]? = some u → w.cell? (ad.add j) = some u)

theorem grownBy_same (w : World) (row : Option Nat) : w.grownBy w row := ⟨rfl, rfl, rfl, Nat.le_refl _, fun _ _ _ => rfl⟩

theorem append_gen {S E : TypeId} {z : Value} {size bytes : Nat} (H : ElemOk S E z size bytes) {ops : Array Oper} {rest : List Oper} {o : Oper} {a : Act} {Q : Exit → Act → World → Prop} {w : World} (hgd : o.guard = none) (s x : Operand)
    (ho : o.op = .call { callee := .builtin .append, args := #[s, x], argTypes := #[S, S] })
    (base : Nat) (v : Value) (n : Nat) (xs : List Value) (hs : a.eval s = v) (hown : w.ownsRow base E size v n xs)
    (vx : Value) (m : Nat) (news : List Value) (hx : a.eval x = vx) (hsrc : SrcAt w size vx m news) (hl : (n + m) * bytes ≤ 140737488355328) (hm : n + m ≤ maxLen) (hbase : base ≤ w.heap.size)
    (h : ∀ v' w', w'.ownsRow base E size v' (n + m) (xs ++ news) → w.grownBy w' v.ownBlock → wpList Try.prog ops Q rest (a.put o.dst v') w') : wpList Try.prog ops Q (o :: rest) a w := by
  obtain ⟨i0, hi, hz0, hz1, hz2⟩ := info_parts H.inf
  obtain ⟨h1, h2, ⟨rfl, rfl⟩ | ⟨ad, c, rfl, h3⟩⟩ := hsrc
  · obtain rfl : news = [] := List.eq_nil_of_length_eq_zero (by omega)
    refine wpList_append_own_none hgd s x _ ho base E i0 size H.und hi v n xs hs hown hx ?_
    exact h v w (by simpa using hown) (grownBy_same _ _)
  · exact wpList_append_own _ hgd s x _ ho base E i0 z size bytes H.und hi hz0 hz1 hz2 H.zs H.sz v n xs hs hown ad m c news hx h1 h3 h2 hm hl hbase fun v' w' q1 q2 _ => h v' w' q1 q2

/-- Behind an append to a row of the call's own: older memory is as it was. -/
theorem below_grown {B : Nat} {w0 w w' : World} {v : Value} {base e size n : Nat} {xs : List Value} (hb : Below B w0 w) (hown : w.ownsRow base e size v n xs) (hg : w.grownBy w' v.ownBlock) (hbase : B ≤ base) (hB : B ≤ w.heap.size) : Below B w0 w' := by
  refine hb.grown hg hB (fun k hk => ?_)
  rcases hown.2 with ⟨q, -⟩ | ⟨g, cap, cur, q1, q2, -⟩
  · rw [q] at hk; cases hk
  · rw [q1] at hk
    simp only [Value.ownBlock] at hk
    cases hk
    omega

/-- What an empty slice that a call lays owns. -/
theorem owns_made0 (w : World) (E : TypeId) (size : Nat) : (w.alloc (.cells #[] E)).ownsRow w.heap.size E size (.slice (some ⟨w.heap.size, 0, none⟩) 0 0) 0 [] :=
  World.ownsRow_made w #[] 0 (Nat.le_refl _) (Nat.zero_le _) (by simp)

theorem addr_add (b o j : Nat) : (⟨b, o, none⟩ : Addr).add j = ⟨b, o + j, none⟩ := by
  unfold Addr.add
  split
  · subst_vars; rfl
  · rfl

/-- A block known whole is one element's source. -/
theorem src_one {w : World} {g c : Nat} {news : List Value} {size : Nat} (hl : news.length = size) (h1 : ∀ u ∈ news, u.oneCell' = true) (hc : ∀ j u, news[j]? = some u → w.cell? ⟨g, j, none⟩ = some u) : SrcAt w size (.slice (some ⟨g, 0, none⟩) 1 c) 1 news :=
  ⟨by omega, h1, .inr ⟨_, _, rfl, fun j u hj => by rw [addr_add, Nat.zero_add]; exact hc j u hj⟩⟩

theorem flatten_at {size : Nat} : ∀ {ls : List (List Value)} (_ : ∀ c ∈ ls, c.length = size) {j i : Nat} {c : List Value} {u : Value}, ls[j]? = some c → c[i]? = some u → ls.flatten[j * size + i]? = some u
  | [], _, j, _, _, _, h, _ => by simp at h
  | c0 :: ls, hs, 0, i, c, u, h, hi => by
    simp only [List.getElem?_cons_zero, Option.some.injEq] at h
    subst h
    have hlt := (List.getElem?_eq_some_iff.1 hi).1
    rw [List.flatten_cons, Nat.zero_mul, Nat.zero_add, List.getElem?_append_left hlt]
    exact hi
  | c0 :: ls, hs, j + 1, i, c, u, h, hi => by
    have h0 := hs c0 (by simp)
    rw [List.getElem?_cons_succ] at h
    have ih := flatten_at (fun c hc => hs c (by simp [hc])) h hi
    rw [List.flatten_cons, List.getElem?_append_right (by rw [h0, Nat.succ_mul]; omega), h0, ← ih]
    congr 1
    rw [Nat.succ_mul]; omega

/-- What a call has laid reads as a list. -/
theorem rowAt_of_owns {α : Type} {size : Nat} {At : World → Nat → Nat → α → Prop} {w : World} {base E n : Nat} {v : Value} {l : List α} {ls : List (List Value)} (hn : n = l.length) (hlen : ls.length = l.length) (h : w.ownsRow base E size v n ls.flatten) (hsz : ∀ c ∈ ls, c.length = size)
    (hat : ∀ (j : Nat) (x : α) (c : List Value), l[j]? = some x → ls[j]? = some c → ∀ b o, b < w.heap.size → CellsAt w b o c → At w b o x) : RowAt size At w v l := by
  subst hn
  obtain ⟨hl, h⟩ := h
  rcases h with ⟨h1, h2⟩ | ⟨g, cap, cur, h1, h2, h3, h4, h5, h6, h7⟩
  · obtain rfl := List.length_eq_zero_iff.1 h2
    rw [h1]; exact RowAt.nil
  · have hlt : g < w.heap.size := (Array.getElem?_eq_some_iff.1 h3).1
    refine ⟨some ⟨g, 0, none⟩, cap, h1, h4, h5, (fun h => by cases h), fun _ => ⟨g, 0, rfl, hlt, fun j x hj => ?_⟩⟩
    have hjl : j < l.length := (List.getElem?_eq_some_iff.1 hj).1
    obtain ⟨c, hc⟩ : ∃ c, ls[j]? = some c := ⟨_, List.getElem?_eq_getElem (by omega)⟩
    refine hat j x c hj hc g _ hlt fun i u hi => ?_
    have hil := (List.getElem?_eq_some_iff.1 hi).1
    have hcl := hsz c (List.mem_of_getElem? hc)
    have h8 := flatten_at hsz hc hi
    rw [← h7, List.getElem?_take_of_lt (by
      have : j * size + size ≤ l.length * size := by rw [← Nat.succ_mul]; exact Nat.mul_le_mul_right _ hjl
      omega)] at h8
    simp only [World.cell?, h3, Nat.zero_add]
    simpa using h8

/-- Things that lie flat: each one's cells. -/
structure FlatG {α : Type} (size : Nat) (At : World → Nat → Nat → α → Prop) (enc : α → List Value) : Prop where
  len : ∀ x, (enc x).length = size
  one : ∀ x, ∀ u ∈ enc x, u.oneCell' = true
  get : ∀ w b o x, At w b o x → CellsAt w b o (enc x)
structure Flat {α : Type} (size : Nat) (At : World → Nat → Nat → α → Prop) (enc : α → List Value) : Prop extends FlatG size At enc where
  put : ∀ w b o x, CellsAt w b o (enc x) → At w b o x

theorem flat_len {α : Type} {size : Nat} {enc : α → List Value} (h : ∀ x, (enc x).length = size) : ∀ l : List α, (l.flatMap enc).length = l.length * size
  | [] => by simp
  | x :: l => by rw [List.flatMap_cons, List.length_append, h, flat_len h l, List.length_cons, Nat.succ_mul]; omega

theorem flat_at {α : Type} {size : Nat} {enc : α → List Value} (h : ∀ x, (enc x).length = size) : ∀ (l : List α) (j : Nat) (u : Value), (l.flatMap enc)[j]? = some u → ∃ k x i, l[k]? = some x ∧ (enc x)[i]? = some u ∧ j = k * size + i
  | [], j, u, hj => by simp at hj
  | x :: l, j, u, hj => by
    rw [List.flatMap_cons] at hj
    by_cases hlt : j < size
    · rw [List.getElem?_append_left (by rw [h]; exact hlt)] at hj
      exact ⟨0, x, j, rfl, hj, by omega⟩
    · rw [List.getElem?_append_right (by rw [h]; omega), h] at hj
      obtain ⟨k, y, i, h1, h2, h3⟩ := flat_at h l _ u hj
      exact ⟨k + 1, y, i, h1, h2, by rw [Nat.succ_mul]; omega⟩

theorem RowAt.of_flatG {α : Type} {size : Nat} {At : World → Nat → Nat → α → Prop} {enc : α → List Value} (hL : ∀ x, (enc x).length = size) {w : World} {base E n : Nat} {v : Value} {l : List α} (hn : n = l.length) (h : w.ownsRow base E size v n (l.flatMap enc)) (hput : ∀ x ∈ l, ∀ b o, CellsAt w b o (enc x) → At w b o x) : RowAt size At w v l := by
  rw [List.flatMap_def] at h
  refine rowAt_of_owns hn (by simp) h (fun c hc => ?_) fun j x c hj hc b o _ hcl => ?_
  · obtain ⟨x, -, rfl⟩ := List.mem_map.1 hc
    exact hL x
  · rw [List.getElem?_map, hj] at hc
    cases hc
    exact hput x (List.mem_of_getElem? hj) _ _ hcl
theorem RowAt.of_flat {α : Type} {size : Nat} {At : World → Nat → Nat → α → Prop} {enc : α → List Value} (hF : Flat size At enc) {w : World} {base E n : Nat} {v : Value} {l : List α} (hn : n = l.length) (h : w.ownsRow base E size v n (l.flatMap enc)) : RowAt size At w v l :=
  RowAt.of_flatG hF.len hn h fun x _ b o => hF.put w b o x

theorem RowAt.src {α : Type} {size : Nat} {At : World → Nat → Nat → α → Prop} {enc : α → List Value} (hF : FlatG size At enc) {w : World} {v : Value} {l : List α} (h : RowAt size At w v l) : SrcAt w size v l.length (l.flatMap enc) := by
  refine ⟨flat_len hF.len l, fun u hu => ?_, ?_⟩
  · obtain ⟨x, -, hx⟩ := List.mem_flatMap.1 hu
    exact hF.one x u hx
  · obtain ⟨pa, cap, rfl, h2, h3, h4, h5⟩ := h
    cases pa with
    | none => obtain rfl := h4 rfl; have h0 : l.length = 0 := (by omega); exact .inl ⟨by rw [h0], h0⟩
    | some ad =>
      refine .inr ⟨ad, cap, rfl, fun j u hj => ?_⟩
      obtain ⟨k, x, i, e1, e2, e3⟩ := flat_at hF.len l j u hj
      obtain ⟨b, o, e4, -, e6⟩ := h5 (by have := (List.getElem?_eq_some_iff.1 e1).1; omega)
      cases e4
      have := hF.get _ _ _ _ (e6 k x e1) i u e2
      rw [addr_add, e3, ← Nat.add_assoc]; exact this

theorem info_size {E : TypeId} {z : Value} {size bytes : Nat} (h : (Try.prog.info? E).map (fun i => (i.zero, i.size, i.bytes)) = some (some z, size, bytes)) (W : World) : (sizeOf E).run Try.prog W = .ok size W := by
  obtain ⟨i0, hi, hz0, hz1, hz2⟩ := info_parts h
  simp [sizeOf, typeInfo, hi, hz1, go_sem]

/-- v[:k] -/
theorem RowAt.hi {α : Type} {At : World → Nat → Nat → α → Prop} {S E : TypeId} {z : Value} {size bytes : Nat} (H : ElemOk S E z size bytes) {w : World} {v : Value} {l : List α} (h : RowAt size At w v l) {k : Nat} (hk : k ≤ l.length) :
    ∃ v1, (∀ W, (Instr.slice S v none (some (.int .i64 (k : Int))) none).run Try.prog W = .ok v1 W) ∧ RowAt size At w v1 (l.take k) := by
  obtain ⟨pa, cap, rfl, h2, h3, h4, h5⟩ := h
  have hu : Try.prog.underlying S = some (.slice (Try.prog.elem S)) := by rw [H.und]; simp [Program.elem, H.und]
  have he : Try.prog.elem S = E := by simp [Program.elem, H.und]
  refine ⟨.slice pa k cap, fun W => ?_, pa, cap, by rw [List.length_take, Nat.min_eq_left hk], by rw [List.length_take]; omega, h3, h4, fun h0 => ?_⟩
  · rw [run_slice_h W S pa l.length cap hu .i64 (k : Int) (by omega) (by omega), he, info_size H.inf]
    simp only [Result.andThen, sliced, Int.toNat_natCast, Nat.sub_zero, Nat.zero_mul]
    cases pa with
    | none => simp
    | some ad => simp [Addr.add]
  · rw [List.length_take] at h0
    obtain ⟨b, o, e1, e2, e3⟩ := h5 (by omega)
    exact ⟨b, o, e1, e2, fun j x hj => e3 j x (by
      have := (List.getElem?_eq_some_iff.1 hj).1
      rw [List.length_take] at this
      rw [List.getElem?_take_of_lt (by omega)] at hj
      exact hj)⟩

theorem RowAt.hi' {α : Type} {size : Nat} {At : World → Nat → Nat → α → Prop} {w : World} {pa : Option Addr} {n c : Nat} {l : List α} (h : RowAt size At w (.slice pa n c) l) {k : Nat} (hk : k ≤ l.length) : RowAt size At w (.slice pa k c) (l.take k) := by
  obtain ⟨pa', cap, e, h2, h3, h4, h5⟩ := h
  cases e
  refine ⟨pa, c, by rw [List.length_take, Nat.min_eq_left hk], by rw [List.length_take]; omega, h3, h4, fun h0 => ?_⟩
  rw [List.length_take] at h0
  obtain ⟨b, o, e1, e2, e3⟩ := h5 (by omega)
  exact ⟨b, o, e1, e2, fun j x hj => e3 j x (by
    have := (List.getElem?_eq_some_iff.1 hj).1
    rw [List.length_take] at this
    rw [List.getElem?_take_of_lt (by omega)] at hj
    exact hj)⟩

/-- v[k:] -/
theorem RowAt.lo {α : Type} {At : World → Nat → Nat → α → Prop} {S E : TypeId} {z : Value} {size bytes : Nat} (H : ElemOk S E z size bytes) {w : World} {v : Value} {l : List α} (h : RowAt size At w v l) {k : Nat} (hk : k ≤ l.length) :
    ∃ v1, (∀ W, (Instr.slice S v (some (.int .i64 (k : Int))) none none).run Try.prog W = .ok v1 W) ∧ RowAt size At w v1 (l.drop k) := by
  obtain ⟨pa, cap, rfl, h2, h3, h4, h5⟩ := h
  have hu : Try.prog.underlying S = some (.slice (Try.prog.elem S)) := by rw [H.und]; simp [Program.elem, H.und]
  have he : Try.prog.elem S = E := by simp [Program.elem, H.und]
  refine ⟨.slice (if cap = k then pa else pa.map (·.add (k * size))) (l.length - k) (cap - k), fun W => ?_, _, cap - k, by rw [List.length_drop], by rw [List.length_drop]; omega, by omega, fun e => ?_, fun h0 => ?_⟩
  · rw [run_slice_l W S pa l.length cap hu .i64 (k : Int) (by omega) (by omega), he, info_size H.inf]
    simp only [Result.andThen, sliced, Int.toNat_natCast]
  · by_cases hc : cap = k
    · omega
    · rw [if_neg hc] at e
      cases pa with
      | none => have := h4 rfl; omega
      | some ad => simp at e
  · rw [List.length_drop] at h0
    obtain ⟨b, o, rfl, e2, e3⟩ := h5 (by omega)
    refine ⟨b, o + k * size, by rw [if_neg (by omega)]; simp [addr_add], e2, fun j x hj => ?_⟩
    rw [List.getElem?_drop] at hj
    have := e3 _ x hj
    rw [Nat.add_mul] at this
    rw [Nat.add_assoc]
    exact this

/-- A list of integers. -/
def IAt (w : World) (b o : Nat) (n : Int) : Prop := w.cell? ⟨b, o, none⟩ = some (.int .i64 n)
theorem keepI : KeepAt IAt := fun _w _w' b o _n hb hlt h => (hb.cell (p := ⟨b, o, none⟩) hlt).trans h
abbrev IRow := RowAt 1 IAt
theorem elemInt : ElemOk 23 3 (.int .i64 0) 1 8 := ⟨Try.underlying23, by kernel_rfl, rfl, by decide⟩

end Go.Proofs.Ytehcclcokgmplaa

/-
  A list of bytes in memory.
-/
namespace Go.Proofs.Ytehcclcokgmplaa
open Go.RowKit

def UAt (w : World) (b o : Nat) (k : Int) : Prop := w.cell? ⟨b, o, none⟩ = some (.int .u8 k)
theorem keepU : KeepAt UAt := fun _w _w' b o _n hb hlt h => (hb.cell (p := ⟨b, o, none⟩) hlt).trans h
abbrev URow := RowAt 1 UAt
end Go.Proofs.Ytehcclcokgmplaa

/-
  A lowered program's value: its twelve slices.
-/
namespace Go.Proofs.Ytehcclcokgmplaa

/-- Its twelve slices. -/
structure PgS where
  hp : Option Addr
  hn : Nat
  hc : Nat
  mp : Option Addr
  mn : Nat
  mc : Nat
  sp : Option Addr
  sn : Nat
  sc : Nat
  ap : Option Addr
  an : Nat
  ac : Nat
  tp : Option Addr
  tn : Nat
  tc : Nat
  cp : Option Addr
  cn : Nat
  cc : Nat
  ep : Option Addr
  en : Nat
  ec : Nat
  v1 : Option Addr
  n1 : Nat
  c1 : Nat
  v2 : Option Addr
  n2 : Nat
  c2 : Nat
  v3 : Option Addr
  n3 : Nat
  c3 : Nat
  v4 : Option Addr
  n4 : Nat
  c4 : Nat
  v5 : Option Addr
  n5 : Nat
  c5 : Nat
def PgS.cells (s : PgS) : List Value := [.slice s.hp s.hn s.hc, .slice s.mp s.mn s.mc, .slice s.sp s.sn s.sc, .slice s.ap s.an s.ac, .slice s.tp s.tn s.tc, .slice s.cp s.cn s.cc, .slice s.ep s.en s.ec, .slice s.v1 s.n1 s.c1, .slice s.v2 s.n2 s.c2, .slice s.v3 s.n3 s.c3, .slice s.v4 s.n4 s.c4, .slice s.v5 s.n5 s.c5]
def pgV (s : PgS) : Value := .agg #[.slice s.hp s.hn s.hc, .slice s.mp s.mn s.mc, .slice s.sp s.sn s.sc, .slice s.ap s.an s.ac, .slice s.tp s.tn s.tc, .slice s.cp s.cn s.cc, .slice s.ep s.en s.ec, .slice s.v1 s.n1 s.c1, .slice s.v2 s.n2 s.c2, .slice s.v3 s.n3 s.c3, .slice s.v4 s.n4 s.c4, .slice s.v5 s.n5 s.c5]

end Go.Proofs.Ytehcclcokgmplaa

/-
  A lowered program in memory: nodes, codes, instructions, steps, actions, tables.
-/
namespace Go.Proofs.Ytehcclcokgmplaa
open Go.RowKit

/-- A cell that holds a slice. -/
def SlAt {α : Type} (R : World → Value → α → Prop) (w : World) (b o : Nat) (x : α) : Prop := ∃ p n c, w.cell? ⟨b, o, none⟩ = some (.slice p n c) ∧ R w (.slice p n c) x
def KeepR {α : Type} (R : World → Value → α → Prop) : Prop := ∀ (w w' : World) (v : Value) (x : α), R w v x → Below w.heap.size w w' → R w' v x
theorem RowAt.keep {α : Type} {sz : Nat} {At : World → Nat → Nat → α → Prop} (h : KeepAt At) : KeepR (RowAt sz At) := fun _ _ _ _ h1 hb => h1.below h hb
theorem SlAt.keep {α : Type} {R : World → Value → α → Prop} (h : KeepR R) : KeepAt (SlAt R) := fun w w' b o x hb hlt ⟨p, n, c, h1, h2⟩ => ⟨p, n, c, (hb.cell (p := ⟨b, o, none⟩) hlt).trans h1, h w w' _ x h2 hb⟩

def StAt (w : World) (b o : Nat) (s : ByteArray) : Prop := w.cell? ⟨b, o, none⟩ = some (.string s)
theorem keepS : KeepAt StAt := fun _w _w' b o _n hb hlt h => (hb.cell (p := ⟨b, o, none⟩) hlt).trans h
abbrev StRow := RowAt 1 StAt
abbrev StsRow := RowAt 1 (SlAt StRow)
theorem keepSts : KeepAt (SlAt StRow) := SlAt.keep (RowAt.keep keepS)
abbrev IsRow := RowAt 1 (SlAt IRow)
theorem keepIs : KeepAt (SlAt IRow) := SlAt.keep (RowAt.keep keepI)

/-- A node. -/
structure Nod where
  op : Int
  w : Int
  a : Int
  b : Int
  v : Nat
  deriving DecidableEq
def NdAt (w : World) (b o : Nat) (n : Nod) : Prop :=
  w.cell? ⟨b, o, none⟩ = some (.int .u8 n.op) ∧ w.cell? ⟨b, o + 1, none⟩ = some (.int .i64 n.w) ∧ w.cell? ⟨b, o + 2, none⟩ = some (.int .i64 n.a) ∧ w.cell? ⟨b, o + 3, none⟩ = some (.int .i64 n.b) ∧ NAt w b (o + 4) n.v
theorem keepNd : KeepAt NdAt := fun w w' b o n hb hlt ⟨h1, h2, h3, h4, h5⟩ =>
  ⟨(hb.cell (p := ⟨b, o, none⟩) hlt).trans h1, (hb.cell (p := ⟨b, o + 1, none⟩) hlt).trans h2, (hb.cell (p := ⟨b, o + 2, none⟩) hlt).trans h3, (hb.cell (p := ⟨b, o + 3, none⟩) hlt).trans h4, keepN w w' b (o + 4) n.v hb hlt h5⟩
abbrev CRow := RowAt 6 NdAt
abbrev CsRow := RowAt 1 (SlAt CRow)
theorem keepCs : KeepAt (SlAt CRow) := SlAt.keep (RowAt.keep keepNd)

/-- An instruction. -/
structure Ist where
  k : Int
  a : Int
  b : Int
  e : List Nod
  to : Int
def IstAt (w : World) (b o : Nat) (i : Ist) : Prop :=
  w.cell? ⟨b, o, none⟩ = some (.int .u8 i.k) ∧ w.cell? ⟨b, o + 1, none⟩ = some (.int .i64 i.a) ∧ w.cell? ⟨b, o + 2, none⟩ = some (.int .i64 i.b) ∧ SlAt CRow w b (o + 3) i.e ∧ w.cell? ⟨b, o + 4, none⟩ = some (.int .i64 i.to)
theorem keepIst : KeepAt IstAt := fun w w' b o n hb hlt ⟨h1, h2, h3, h4, h5⟩ =>
  ⟨(hb.cell (p := ⟨b, o, none⟩) hlt).trans h1, (hb.cell (p := ⟨b, o + 1, none⟩) hlt).trans h2, (hb.cell (p := ⟨b, o + 2, none⟩) hlt).trans h3, keepCs w w' b (o + 3) n.e hb hlt h4, (hb.cell (p := ⟨b, o + 4, none⟩) hlt).trans h5⟩
abbrev IstRow := RowAt 5 IstAt

/-- A branch. -/
structure Brn where
  pats : List Pt
  to : Int
def BrnAt (w : World) (b o : Nat) (x : Brn) : Prop := SlAt PRow w b o x.pats ∧ w.cell? ⟨b, o + 1, none⟩ = some (.int .i64 x.to)
theorem keepBrn : KeepAt BrnAt := fun w w' b o _n hb hlt ⟨h1, h2⟩ => ⟨SlAt.keep (RowAt.keep keepP) w w' b o _ hb hlt h1, (hb.cell (p := ⟨b, o + 1, none⟩) hlt).trans h2⟩
abbrev BrnRow := RowAt 2 BrnAt
/-- A parser's step. -/
structure Stp where
  takes : List Int
  keys : List (List Nod)
  brs : List Brn
  to : Int
def StpAt (w : World) (b o : Nat) (x : Stp) : Prop := SlAt IRow w b o x.takes ∧ SlAt CsRow w b (o + 1) x.keys ∧ SlAt BrnRow w b (o + 2) x.brs ∧ w.cell? ⟨b, o + 3, none⟩ = some (.int .i64 x.to)
theorem keepStp : KeepAt StpAt := fun w w' b o _n hb hlt ⟨h1, h2, h3, h4⟩ =>
  ⟨keepIs w w' b o _ hb hlt h1, SlAt.keep (RowAt.keep keepCs) w w' b _ _ hb hlt h2, SlAt.keep (RowAt.keep keepBrn) w w' b _ _ hb hlt h3, (hb.cell (p := ⟨b, o + 3, none⟩) hlt).trans h4⟩
abbrev StpRow := RowAt 4 StpAt
/-- An action. -/
structure Actn where
  params : List Int
  body : List Ist
def ActnAt (w : World) (b o : Nat) (x : Actn) : Prop := SlAt IRow w b o x.params ∧ SlAt IstRow w b (o + 1) x.body
theorem keepActn : KeepAt ActnAt := fun w w' b o _n hb hlt ⟨h1, h2⟩ => ⟨keepIs w w' b o _ hb hlt h1, SlAt.keep (RowAt.keep keepIst) w w' b _ _ hb hlt h2⟩
abbrev ActnRow := RowAt 2 ActnAt
/-- A table. -/
structure Tbl where
  keys : List (List Nod)
  kinds : List Int
  acts : List Int
  dact : Int
  dargs : List Nat
def TblAt (w : World) (b o : Nat) (x : Tbl) : Prop := SlAt CsRow w b o x.keys ∧ SlAt URow w b (o + 1) x.kinds ∧ SlAt IRow w b (o + 2) x.acts ∧ w.cell? ⟨b, o + 3, none⟩ = some (.int .i64 x.dact) ∧ SlAt NRow w b (o + 4) x.dargs
theorem keepTbl : KeepAt TblAt := fun w w' b o _n hb hlt ⟨h1, h2, h3, h4, h5⟩ =>
  ⟨SlAt.keep (RowAt.keep keepCs) w w' b _ _ hb hlt h1, SlAt.keep (RowAt.keep keepU) w w' b _ _ hb hlt h2, keepIs w w' b _ _ hb hlt h3, (hb.cell (p := ⟨b, o + 3, none⟩) hlt).trans h4, SlAt.keep (RowAt.keep keepN) w w' b _ _ hb hlt h5⟩
abbrev TblRow := RowAt 5 TblAt

/-- A program. -/
structure Prg where
  heads : List (List Int)
  metas : List Int
  steps : List Stp
  acts : List Actn
  tabs : List Tbl
  ctl : List Ist
  emit : List Int
  nh : List ByteArray
  nf : List (List ByteArray)
  nm : List ByteArray
  na : List ByteArray
  nt : List ByteArray
structure PgOk (w : World) (s : PgS) (p : Prg) : Prop where
  heads : IsRow w (.slice s.hp s.hn s.hc) p.heads
  metas : IRow w (.slice s.mp s.mn s.mc) p.metas
  steps : StpRow w (.slice s.sp s.sn s.sc) p.steps
  acts : ActnRow w (.slice s.ap s.an s.ac) p.acts
  tabs : TblRow w (.slice s.tp s.tn s.tc) p.tabs
  ctl : IstRow w (.slice s.cp s.cn s.cc) p.ctl
  emit : IRow w (.slice s.ep s.en s.ec) p.emit
  nh : StRow w (.slice s.v1 s.n1 s.c1) p.nh
  nf : StsRow w (.slice s.v2 s.n2 s.c2) p.nf
  nm : StRow w (.slice s.v3 s.n3 s.c3) p.nm
  na : StRow w (.slice s.v4 s.n4 s.c4) p.na
  nt : StRow w (.slice s.v5 s.n5 s.c5) p.nt
theorem PgOk.below {w w' : World} {s : PgS} {p : Prg} (h : PgOk w s p) (hb : Below w.heap.size w w') : PgOk w' s p :=
  ⟨h.heads.below keepIs hb, h.metas.below keepI hb, h.steps.below keepStp hb, h.acts.below keepActn hb, h.tabs.below keepTbl hb, h.ctl.below keepIst hb, h.emit.below keepI hb, h.nh.below keepS hb, h.nf.below keepSts hb, h.nm.below keepS hb, h.na.below keepS hb, h.nt.below keepS hb⟩
/-- A slice's length is the list's. -/
theorem RowAt.ln {α : Type} {sz : Nat} {At : World → Nat → Nat → α → Prop} {w : World} {p : Option Addr} {n c : Nat} {l : List α} (h : RowAt sz At w (.slice p n c) l) : n = l.length ∧ n ≤ c ∧ c ≤ maxLen ∧ (p = none → c = 0) := by
  obtain ⟨pa, cap, e, h1, h2, h3, -⟩ := h
  cases e
  exact ⟨rfl, h1, h2, h3⟩
/-- A slice's things. -/
theorem RowAt.get {α : Type} {sz : Nat} {At : World → Nat → Nat → α → Prop} {w : World} {p : Option Addr} {n c : Nat} {l : List α} (h : RowAt sz At w (.slice p n c) l) {j : Nat} {x : α} (hj : l[j]? = some x) : ∃ b o, p = some ⟨b, o, none⟩ ∧ b < w.heap.size ∧ At w b (o + j * sz) x := by
  obtain ⟨b, o, cap, e, h1, h2⟩ := h.at hj
  cases e
  exact ⟨b, o, rfl, h1, h2⟩

end Go.Proofs.Ytehcclcokgmplaa

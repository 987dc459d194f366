/-
  Lemmas, joined: Lib, UMap, NumP, Num.
-/
import Derived.Test.YtnknpgfconfgjaaRows
import Derived.WalkKit
import Derived.Lib.Hide
import Derived.Deep.LoopGhost
import Derived.Deep.RegionWith
import Derived.WalkSpells
import Derived.WalkLawsBesides
import Derived.Maps.Keyed
import Derived.Maps.Own
import Derived.ProofKit
import Derived.Laws.BitsAllLaws
import Derived.Laws.Bits64
import Derived.KernelRfl
import Derived.Deep.QuietTactic
import Derived.BigQuiet
import Derived.StillTailTactics
import Derived.RegionTactic
import Derived.BigRegion
/-
  Small facts on worlds, and what it is for a value to read as a list of integers.
-/
namespace Go.Proofs.Ytnknpgfconfgjaa
open Go.RowKit

theorem bcell {W w1 : World} (hb : Below W.heap.size W w1) : (∀ b o, b < W.heap.size → w1.cell? ⟨b, o, none⟩ = W.cell? ⟨b, o, none⟩) ∧ (∀ b o, b < W.heap.size → w1.frozen? ⟨b, o, none⟩ = W.frozen? ⟨b, o, none⟩) :=
  ⟨fun b o h => hb.cell (p := ⟨b, o, none⟩) h, fun b o h => hb.frozen (p := ⟨b, o, none⟩) h⟩

/-- A cell that is there lies in a block that is there, and has no spot. -/
theorem cell_there {w : World} {a : Addr} {v : Value} (h : w.cell? a = some v) : a.block < w.heap.size ∧ a.spot = none := by
  unfold World.cell? at h
  split at h
  · rename_i c t f hb
    refine ⟨(Array.getElem?_eq_some_iff.1 hb).1, ?_⟩
    split at h
    · cases h
    · rename_i hs; simpa using hs
  · cases h

theorem own_below {w w' : World} {base e size n : Nat} {v : Value} {xs : List Value} (h : w.ownsRow base e size v n xs) (hb : Below w.heap.size w w') : w'.ownsRow base e size v n xs := by
  obtain ⟨hl, h⟩ := h
  refine ⟨hl, ?_⟩
  rcases h with h | ⟨g, cap, cur, h1, h2, h3, h4⟩
  · exact .inl h
  · have hlt : g < w.heap.size := by
      rcases Nat.lt_or_ge g w.heap.size with h | h
      · exact h
      · rw [Array.getElem?_eq_none h] at h3; cases h3
    exact .inr ⟨g, cap, cur, h1, h2, by rw [hb.block g hlt]; exact h3, h4⟩

end Go.Proofs.Ytnknpgfconfgjaa

/-
  A map from small numbers to any values, made by the call: a store of a new key, a look-up.
-/
namespace Go.Proofs.Ytnknpgfconfgjaa
open Go.RowKit Go.Maps

/-- Block m is a map of these entries. -/
def UMap (w : World) (m : Nat) (es : List (Int × Value)) : Prop :=
  ∃ arr clock, w.heap[m]? = some (.map arr clock) ∧ arr.toList.map (fun e => (e.key, e.val)) = es.map (fun p => (Value.int .u8 p.1, p.2)) ∧ (∀ p ∈ es, (Lit.int .u8 p.1).wf = true) ∧ (es.map Prod.fst).Nodup

theorem UMap.empty (w : World) (m : Nat) (h : w.heap[m]? = some (.map #[] 0)) : UMap w m [] := ⟨#[], 0, h, rfl, by simp, by simp⟩
section
variable {P : Program} {k T e : TypeId} {w : World} {m : Nat} {es : List (Int × Value)}

theorem UMap.keys {arr : Array MapEntry} (h : arr.toList.map (fun e => (e.key, e.val)) = es.map (fun p => (Value.int .u8 p.1, p.2))) {x : MapEntry} (hx : x ∈ arr.toList) : ∃ p ∈ es, x.key = .int .u8 p.1 ∧ x.val = p.2 := by
  have : (x.key, x.val) ∈ arr.toList.map (fun e => (e.key, e.val)) := List.mem_map.2 ⟨x, hx, rfl⟩
  rw [h] at this
  obtain ⟨p, hp, he⟩ := List.mem_map.1 this
  simp only [Prod.mk.injEq] at he
  exact ⟨p, hp, he.1.symm, he.2.symm⟩

theorem UMap.look (h : UMap w m es) (hk : P.underlying k = some (.int .u8)) (ht : P.underlying T = some (.map k e)) {x : Int} {v : Value} (hx : (x, v) ∈ es) :
    (Instr.lookup T (.map (some m)) (.int .u8 x) true).run P w = .ok (.tuple #[v, .bool true]) w := by
  obtain ⟨arr, clock, hb, h1, h2, h3⟩ := h
  have K := int_keyed hk
  have hkey := keyOf_int_mk hk (h2 _ hx)
  rcases K.find w hkey arr.toList (fun y hy => by obtain ⟨p, hp, e1, -⟩ := UMap.keys h1 hy; exact ⟨_, by rw [e1]; exact keyOf_int_mk hk (h2 _ hp)⟩) with ⟨f1, f2⟩ | ⟨j, e0, f1, f2, f3⟩
  · exfalso
    have : (Value.int .u8 x, v) ∈ arr.toList.map (fun e => (e.key, e.val)) := by rw [h1]; exact List.mem_map.2 ⟨_, hx, rfl⟩
    obtain ⟨y, hy, he⟩ := List.mem_map.1 this
    simp only [Prod.mk.injEq] at he
    exact f2 y hy he.1
  · obtain ⟨p, hp, e1, e2⟩ := UMap.keys h1 (List.mem_of_getElem? f2)
    have hpx : p.1 = x := by rw [f3] at e1; simpa using e1.symm
    have hv : p.2 = v := by
      have : ∀ (l : List (Int × Value)), (l.map Prod.fst).Nodup → p ∈ l → (x, v) ∈ l → p.2 = v := by
        intro l
        induction l with
        | nil => intro _ hp; cases hp
        | cons q l ih =>
          intro hn hp hx
          rw [List.map_cons, List.nodup_cons] at hn
          rcases List.mem_cons.1 hp with rfl | hp' <;> rcases List.mem_cons.1 hx with hx' | hx'
          · rw [← hx']
          · exact absurd (List.mem_map.2 ⟨_, hx', hpx.symm⟩) hn.1
          · exact absurd (List.mem_map.2 ⟨_, hp', by rw [← hx']; exact hpx⟩) hn.1
          · exact ih hn.2 hp' hx'
      exact this es h3 hp hx
    simp [Instr.lookup, run_underlying ht, MapKept.run_getObj_map hb, K.check w _ hkey, f1, Result.andThen, e2, hv]

theorem UMap.miss (h : UMap w m es) (hk : P.underlying k = some (.int .u8)) (ht : P.underlying T = some (.map k e)) {z : Value} (hz : (zeroValue e).run P w = .ok z w) {x : Int} (hw : (Lit.int .u8 x).wf = true) (hx : ∀ p ∈ es, p.1 ≠ x) :
    (Instr.lookup T (.map (some m)) (.int .u8 x) true).run P w = .ok (.tuple #[z, .bool false]) w := by
  obtain ⟨arr, clock, hb, h1, h2, h3⟩ := h
  have K := int_keyed hk
  have hkey := keyOf_int_mk hk hw
  rcases K.find w hkey arr.toList (fun y hy => by obtain ⟨p, hp, e1, -⟩ := UMap.keys h1 hy; exact ⟨_, by rw [e1]; exact keyOf_int_mk hk (h2 _ hp)⟩) with ⟨f1, f2⟩ | ⟨j, e0, f1, f2, f3⟩
  · simp [Instr.lookup, run_underlying ht, MapKept.run_getObj_map hb, K.check w _ hkey, f1, hz, Result.andThen]
  · exfalso
    obtain ⟨p, hp, e1, e2⟩ := UMap.keys h1 (List.mem_of_getElem? f2)
    rw [f3] at e1
    exact hx p hp (by simpa using e1.symm)

theorem UMap.put (h : UMap w m es) (hk : P.underlying k = some (.int .u8)) (ht : P.underlying T = some (.map k e)) {x : Int} (v : Value) (hw : (Lit.int .u8 x).wf = true) (hx : ∀ p ∈ es, p.1 ≠ x) :
    ∃ w', (Instr.mapUpdate T (.map (some m)) (.int .u8 x) v).run P w = .ok () w' ∧ UMap w' m (es ++ [(x, v)]) ∧ w.grownBy w' (some m) := by
  obtain ⟨arr, clock, hb, h1, h2, h3⟩ := h
  have K := int_keyed hk
  have hkey := keyOf_int_mk hk hw
  have hg : ∀ o : Obj, w.grownBy (ChangeMaps.setBlock w m o) (some m) := fun o => ⟨rfl, rfl, rfl, by simp [ChangeMaps.setBlock], fun i _ hi => ChangeMaps.heap_setBlock_other hb o (fun e => hi (by rw [e]))⟩
  rcases K.find w hkey arr.toList (fun y hy => by obtain ⟨p, hp, e1, -⟩ := UMap.keys h1 hy; exact ⟨_, by rw [e1]; exact keyOf_int_mk hk (h2 _ hp)⟩) with ⟨f1, f2⟩ | ⟨j, e0, f1, f2, f3⟩
  · refine ⟨ChangeMaps.setBlock w m (.map (arr.push ⟨.int .u8 x, v, clock⟩) (clock + 1)), ?_, ⟨_, _, ChangeMaps.heap_setBlock_same hb _, ?_, ?_, ?_⟩, hg _⟩
    · simp [Instr.mapUpdate, run_underlying ht, MapKept.run_getObj_map hb, K.check w false hkey, f1, MapKept.run_setObj_map _ hb, Result.andThen, ChangeMaps.setBlock]
    · rw [Array.toList_push, List.map_append, List.map_append, h1]; rfl
    · intro p hp
      rcases List.mem_append.1 hp with q | q
      · exact h2 p q
      · rw [List.mem_singleton.1 q]; exact hw
    · rw [List.map_append, List.nodup_append]
      refine ⟨h3, by simp, ?_⟩
      intro a ha b hb2
      obtain ⟨p, hp, rfl⟩ := List.mem_map.1 ha
      simp at hb2
      rw [hb2]
      exact hx p hp
  · exfalso
    obtain ⟨p, hp, e1, e2⟩ := UMap.keys h1 (List.mem_of_getElem? f2)
    rw [f3] at e1
    exact hx p hp (by simpa using e1.symm)

/-- A map literal's entry, at the operation. -/
theorem wpList_put {ops : Array Oper} {rest : List Oper} {o : Oper} {a : Act} {Q : Exit → Act → World → Prop} (hg : o.guard = none) (mo x v : Operand) (hop : o.op = Op.insert T mo x v)
    (hk : P.underlying k = some (.int .u8)) (ht : P.underlying T = some (.map k e)) (hm : a.eval mo = .map (some m)) (h : UMap w m es) (key : Int) (hx : a.eval x = .int .u8 key) (val : Value) (hv : a.eval v = val) (hw : (Lit.int .u8 key).wf = true) (hn : ∀ p ∈ es, p.1 ≠ key)
    (hK : ∀ w', UMap w' m (es ++ [(key, val)]) → w.grownBy w' (some m) → wpList P ops Q rest (a.put o.dst undef) w') : wpList P ops Q (o :: rest) a w := by
  refine wpList_plain hg fun K' hK' => ?_
  obtain ⟨w', hrun, r1, r2⟩ := h.put hk ht val hw hn
  unfold Oper.wp
  simp [execOp, hop, hm, hx, hv, hrun, Result.andThen]
  exact hK' _ _ (hK w' r1 r2)
end

end Go.Proofs.Ytnknpgfconfgjaa

/-
  Plain arithmetic: a number of 128 bits as two halves of 64; shifts, masks, bits. No program in sight.
-/
namespace Go.Proofs.Ytnknpgfconfgjaa
open Go

/-- 2 to the 64. -/
def B : Nat := 18446744073709551616
theorem B_pow : B = 2 ^ 64 := rfl
theorem B_pos : 0 < B := by unfold B; omega

/-- A number of 128 bits as the program holds it: its high half, its low half. -/
def numV (n : Nat) : Value := .agg #[.int .u64 ((n / B : Nat) : Int), .int .u64 ((n % B : Nat) : Int)]
/-- How far a number is shifted by an amount. -/
def sh (k : Int) : Nat := (max 0 (min k 128)).toNat

theorem sh_le (k : Int) : sh k ≤ 128 := by unfold sh; omega

theorem numV_parts (n : Nat) : ∃ h l : Nat, numV n = .agg #[.int .u64 (h : Int), .int .u64 (l : Int)] ∧ h = n / B ∧ l = n % B := ⟨_, _, rfl, rfl, rfl⟩
theorem numV_mk (h l : Nat) (hl : l < B) : Value.agg #[.int .u64 (h : Int), .int .u64 (l : Int)] = numV (h * B + l) := by
  unfold numV
  have e1 : (h * B + l) / B = h := by rw [Nat.add_comm, Nat.add_mul_div_right _ _ B_pos, Nat.div_eq_of_lt hl, Nat.zero_add]
  have e2 : (h * B + l) % B = l := by rw [Nat.add_comm, Nat.add_mul_mod_self_right, Nat.mod_eq_of_lt hl]
  rw [e1, e2]
theorem half_lt {n : Nat} (h : n < B * B) : n / B < B := Nat.div_lt_of_lt_mul h
theorem low_lt (n : Nat) : n % B < B := Nat.mod_lt _ B_pos
theorem parts_eq (n : Nat) : n / B * B + n % B = n := by rw [Nat.mul_comm]; exact Nat.div_add_mod n B

theorem wrap_cast (x : Nat) : IntKind.u64.wrap (x : Int) = ((x % B : Nat) : Int) := by rw [IntKind.wrap_u64]; unfold B; omega

theorem or_cast (a b : Nat) (ha : a < B) (hb : b < B) : bits .or .u64 (a : Int) (b : Int) = ((a ||| b : Nat) : Int) := u64_or_nat a b ha hb
theorem and_cast (a b : Nat) (ha : a < B) (hb : b < B) : bits .and .u64 (a : Int) (b : Int) = ((a &&& b : Nat) : Int) := u64_and_nat a b ha hb
theorem xor_cast (a b : Nat) (ha : a < B) (hb : b < B) : bits .xor .u64 (a : Int) (b : Int) = ((a ^^^ b : Nat) : Int) := u64_xor_nat a b ha hb

theorem two_halves (s : Nat) (h : s ≤ 64) : 2 ^ s * 2 ^ (64 - s) = B := by rw [← Nat.pow_add, B_pow]; congr 1; omega

theorem split_num (h l t u : Nat) (htu : t * u = B) (ht : 0 < t) (hu : 0 < u) (hl : l < B) :
    (h * B + l) / t = (h / t) * B + ((h % t) * u + l / t) ∧ l / t < u ∧ (h % t) * u + l / t < B := by
  have hlt : l / t < u := Nat.div_lt_of_lt_mul (by rw [htu]; exact hl)
  refine ⟨?_, hlt, ?_⟩
  · have e : h * B + l = t * (h * u) + l := by rw [← htu]; congr 1; rw [Nat.mul_left_comm]
    rw [e, Nat.mul_add_div ht]
    have e2 : h * u = (h / t) * B + (h % t) * u := by
      conv => lhs; rw [← Nat.div_add_mod h t]
      rw [Nat.add_mul, ← htu]; congr 1
      rw [Nat.mul_comm t, Nat.mul_assoc]
    rw [e2, Nat.add_assoc]
  · have h1 : h % t < t := Nat.mod_lt _ ht
    have h2 : (h % t + 1) * u ≤ t * u := Nat.mul_le_mul_right u h1
    rw [Nat.add_mul, Nat.one_mul, htu] at h2
    omega

theorem shr_small (h l s : Nat) (hh : h < B) (hl : l < B) (h0 : s < 64) :
    Value.agg #[.int .u64 ((h : Int) / 2 ^ s), .int .u64 (bits .or .u64 ((l : Int) / 2 ^ s) (IntKind.u64.wrap ((h : Int) * 2 ^ (64 - s))))] = numV ((h * B + l) / 2 ^ s) := by
  have htu := two_halves s (by omega)
  have ht : 0 < 2 ^ s := Nat.two_pow_pos s
  have hu : 0 < 2 ^ (64 - s) := Nat.two_pow_pos _
  obtain ⟨e1, e2, e3⟩ := split_num h l (2 ^ s) (2 ^ (64 - s)) htu ht hu hl
  have c1 : (h : Int) / 2 ^ s = ((h / 2 ^ s : Nat) : Int) := by push_cast; rfl
  have c2 : (l : Int) / 2 ^ s = ((l / 2 ^ s : Nat) : Int) := by push_cast; rfl
  have c3 : (h : Int) * 2 ^ (64 - s) = ((h * 2 ^ (64 - s) : Nat) : Int) := by push_cast; rfl
  have hm : h * 2 ^ (64 - s) % B = (h % 2 ^ s) * 2 ^ (64 - s) := by rw [← htu, Nat.mul_mod_mul_right]
  rw [c1, c2, c3, wrap_cast, hm, or_cast _ _ (Nat.lt_of_le_of_lt (Nat.div_le_self _ _) hl) (Nat.lt_of_le_of_lt (Nat.le_add_right _ _) e3), Nat.or_comm, nat_join (64 - s) _ _ (by rw [Nat.mul_mod_left]) e2, numV_mk _ _ e3, e1]

theorem shr_great (h l s : Nat) (hh : h < B) (hl : l < B) (h0 : 64 ≤ s) :
    Value.agg #[.int .u64 0, .int .u64 ((h : Int) / 2 ^ (s - 64))] = numV ((h * B + l) / 2 ^ s) := by
  have c1 : (h : Int) / 2 ^ (s - 64) = ((h / 2 ^ (s - 64) : Nat) : Int) := by push_cast; rfl
  have e : (h * B + l) / 2 ^ s = h / 2 ^ (s - 64) := by
    have : 2 ^ s = B * 2 ^ (s - 64) := by rw [B_pow, ← Nat.pow_add]; congr 1; omega
    rw [this, ← Nat.div_div_eq_div_mul, Nat.add_comm, Nat.add_mul_div_right _ _ B_pos, Nat.div_eq_of_lt hl, Nat.zero_add]
  have h2 := numV_mk 0 (h / 2 ^ (s - 64)) (Nat.lt_of_le_of_lt (Nat.div_le_self _ _) hh)
  rw [c1, e]
  rw [Nat.zero_mul, Nat.zero_add] at h2
  exact h2

theorem shl_small (h l s : Nat) (hh : h < B) (hl : l < B) (h0 : s < 64) :
    Value.agg #[.int .u64 (bits .or .u64 (IntKind.u64.wrap ((h : Int) * 2 ^ s)) ((l : Int) / 2 ^ (64 - s))), .int .u64 (IntKind.u64.wrap ((l : Int) * 2 ^ s))] = numV ((h * B + l) * 2 ^ s % (B * B)) := by
  have htu := two_halves s (by omega)
  have ht : 0 < 2 ^ s := Nat.two_pow_pos s
  have hu : 0 < 2 ^ (64 - s) := Nat.two_pow_pos _
  have c1 : (h : Int) * 2 ^ s = ((h * 2 ^ s : Nat) : Int) := by push_cast; rfl
  have c2 : (l : Int) * 2 ^ s = ((l * 2 ^ s : Nat) : Int) := by push_cast; rfl
  have c3 : (l : Int) / 2 ^ (64 - s) = ((l / 2 ^ (64 - s) : Nat) : Int) := by push_cast; rfl
  have hlt : l / 2 ^ (64 - s) < 2 ^ s := Nat.div_lt_of_lt_mul (by rw [Nat.mul_comm, htu]; exact hl)
  have hm : h * 2 ^ s % B = (h % 2 ^ (64 - s)) * 2 ^ s := by rw [← htu, Nat.mul_comm (2 ^ s) (2 ^ (64 - s)), Nat.mul_mod_mul_right]
  have hm2 : l * 2 ^ s = (l / 2 ^ (64 - s)) * B + (l % 2 ^ (64 - s)) * 2 ^ s := by
    conv => lhs; rw [← Nat.div_add_mod l (2 ^ (64 - s))]
    rw [Nat.add_mul, ← htu]; congr 1
    rw [Nat.mul_comm (2 ^ (64 - s)), Nat.mul_assoc, Nat.mul_comm (2 ^ (64 - s))]
  have hx : (l % 2 ^ (64 - s)) * 2 ^ s < B := by
    have h1 : l % 2 ^ (64 - s) < 2 ^ (64 - s) := Nat.mod_lt _ hu
    have h2 : (l % 2 ^ (64 - s) + 1) * 2 ^ s ≤ 2 ^ (64 - s) * 2 ^ s := Nat.mul_le_mul_right _ h1
    rw [Nat.add_mul, Nat.one_mul, Nat.mul_comm (2 ^ (64 - s)), htu] at h2
    omega
  have hm3 : l * 2 ^ s % B = (l % 2 ^ (64 - s)) * 2 ^ s := by rw [hm2, Nat.add_comm, Nat.add_mul_mod_self_right, Nat.mod_eq_of_lt hx]
  have hy : (h % 2 ^ (64 - s)) * 2 ^ s + l / 2 ^ (64 - s) < B := by
    have h1 : h % 2 ^ (64 - s) < 2 ^ (64 - s) := Nat.mod_lt _ hu
    have h2 : (h % 2 ^ (64 - s) + 1) * 2 ^ s ≤ 2 ^ (64 - s) * 2 ^ s := Nat.mul_le_mul_right _ h1
    rw [Nat.add_mul, Nat.one_mul, Nat.mul_comm (2 ^ (64 - s)), htu] at h2
    omega
  have hz : h * 2 ^ s = (h / 2 ^ (64 - s)) * B + (h % 2 ^ (64 - s)) * 2 ^ s := by
    conv => lhs; rw [← Nat.div_add_mod h (2 ^ (64 - s))]
    rw [Nat.add_mul, ← htu]; congr 1
    rw [Nat.mul_comm (2 ^ (64 - s)), Nat.mul_assoc, Nat.mul_comm (2 ^ (64 - s))]
  have he : (h * B + l) * 2 ^ s % (B * B) = ((h % 2 ^ (64 - s)) * 2 ^ s + l / 2 ^ (64 - s)) * B + (l % 2 ^ (64 - s)) * 2 ^ s := by
    have e1 : (h * B + l) * 2 ^ s = (h / 2 ^ (64 - s)) * (B * B) + (((h % 2 ^ (64 - s)) * 2 ^ s + l / 2 ^ (64 - s)) * B + (l % 2 ^ (64 - s)) * 2 ^ s) := by
      rw [Nat.add_mul, hm2, Nat.mul_assoc, Nat.mul_comm B, ← Nat.mul_assoc, hz]
      simp only [Nat.add_mul, Nat.mul_assoc, Nat.add_assoc]
    have e2 : ((h % 2 ^ (64 - s)) * 2 ^ s + l / 2 ^ (64 - s)) * B + (l % 2 ^ (64 - s)) * 2 ^ s < B * B := by
      have h2 : ((h % 2 ^ (64 - s)) * 2 ^ s + l / 2 ^ (64 - s) + 1) * B ≤ B * B := Nat.mul_le_mul_right _ hy
      rw [Nat.add_mul _ 1, Nat.one_mul] at h2
      omega
    rw [e1, Nat.add_comm, Nat.add_mul_mod_self_right, Nat.mod_eq_of_lt e2]
  rw [c1, c2, c3, wrap_cast, wrap_cast, hm, hm3, or_cast _ _ (Nat.lt_of_le_of_lt (Nat.le_add_right _ _) hy) (Nat.lt_of_le_of_lt (Nat.div_le_self _ _) hl), nat_join s _ _ (by rw [Nat.mul_mod_left]) hlt, numV_mk _ _ hx, he]

theorem shl_great (h l s : Nat) (hh : h < B) (hl : l < B) (h0 : 64 ≤ s) :
    Value.agg #[.int .u64 (IntKind.u64.wrap ((l : Int) * 2 ^ (s - 64))), .int .u64 0] = numV ((h * B + l) * 2 ^ s % (B * B)) := by
  have c1 : (l : Int) * 2 ^ (s - 64) = ((l * 2 ^ (s - 64) : Nat) : Int) := by push_cast; rfl
  have hs : 2 ^ s = 2 ^ (s - 64) * B := by rw [B_pow, ← Nat.pow_add]; congr 1; omega
  have e : (h * B + l) * 2 ^ s % (B * B) = (l * 2 ^ (s - 64) % B) * B := by
    have e0 : (h * B + l) * 2 ^ (s - 64) % B = l * 2 ^ (s - 64) % B := by
      rw [Nat.add_mul, Nat.mul_right_comm, Nat.add_comm, Nat.add_mul_mod_self_right]
    rw [hs, ← Nat.mul_assoc, Nat.mul_mod_mul_right, e0]
  have h2 := numV_mk (l * 2 ^ (s - 64) % B) 0 B_pos
  rw [Nat.add_zero, ← e] at h2
  rw [c1, wrap_cast]
  exact h2

theorem or_num (a b : Nat) (ha : a < B * B) (hb : b < B * B) :
    Value.agg #[.int .u64 (bits .or .u64 ((a / B : Nat) : Int) ((b / B : Nat) : Int)), .int .u64 (bits .or .u64 ((a % B : Nat) : Int) ((b % B : Nat) : Int))] = numV (a ||| b) := by
  rw [or_cast _ _ (half_lt ha) (half_lt hb), or_cast _ _ (low_lt _) (low_lt _)]
  unfold numV
  rw [B_pow, Nat.or_div_two_pow, Nat.or_mod_two_pow]
theorem and_num (a b : Nat) (ha : a < B * B) (hb : b < B * B) :
    Value.agg #[.int .u64 (bits .and .u64 ((a / B : Nat) : Int) ((b / B : Nat) : Int)), .int .u64 (bits .and .u64 ((a % B : Nat) : Int) ((b % B : Nat) : Int))] = numV (a &&& b) := by
  rw [and_cast _ _ (half_lt ha) (half_lt hb), and_cast _ _ (low_lt _) (low_lt _)]
  unfold numV
  rw [B_pow, Nat.and_div_two_pow, Nat.and_mod_two_pow]
theorem xor_num (a b : Nat) (ha : a < B * B) (hb : b < B * B) :
    Value.agg #[.int .u64 (bits .xor .u64 ((a / B : Nat) : Int) ((b / B : Nat) : Int)), .int .u64 (bits .xor .u64 ((a % B : Nat) : Int) ((b % B : Nat) : Int))] = numV (a ^^^ b) := by
  rw [xor_cast _ _ (half_lt ha) (half_lt hb), xor_cast _ _ (low_lt _) (low_lt _)]
  unfold numV
  rw [B_pow, Nat.xor_div_two_pow, Nat.xor_mod_two_pow]

end Go.Proofs.Ytnknpgfconfgjaa

/-
  Contracts of package num (and of the reference's Of), over the seat's program: what each returns, as natural numbers' own operations.
-/
namespace Go.Proofs.Ytnknpgfconfgjaa
open Go.RowKit

/-- A number is handed back; nothing that was has changed. -/
def RetNum (w : World) (n : Nat) (e : Ending) (w' : World) : Prop := e = .returned (numV n) ∧ Below w.heap.size w w'

set_option maxRecDepth 100000 in
set_option maxHeartbeats 400000 in
theorem or1_any (a b : Int) (w : World) :
    Calls Try.prog 83 #[.int .u64 a, .int .u64 b] w fun e w' => e = .returned (.int .u64 (bits BinOp.or IntKind.u64 a b)) ∧ w' = w := by
  go_enter Try.func83, Try.ntmps83
  go_wp2
  go_ret
  exact ⟨rfl, rfl⟩

set_option maxRecDepth 100000 in
set_option maxHeartbeats 400000 in
theorem both_or (a b c d : Int) (w : World) :
    Calls Try.prog 74 #[.agg #[.int .u64 a, .int .u64 b], .agg #[.int .u64 c, .int .u64 d], .func (Fn.func 83) #[] #[]] w fun e w' => e = .returned (.agg #[.int .u64 (bits BinOp.or IntKind.u64 a c), .int .u64 (bits BinOp.or IntKind.u64 b d)]) ∧ Below w.heap.size w w' := by
  go_enter Try.func74, Try.ntmps74
  go_wp2
  refine wp_region_still_tail 13 (by kernel_rfl) (by kernel_rfl) ?_
  simp only [List.take_succ_cons, List.take_zero, List.drop_succ_cons, List.drop_zero]
  change wpStill _ _ (World.drew _) _ _ _
  repeat (first | still_step | still_call (or1_any _ _ _))
  refine wpStill_nil ?_
  change wpList _ _ _ _ _ (World.drew _)
  go_wp2
  exact bodyPost_ret (v := .agg #[.int .u64 (bits BinOp.or IntKind.u64 a c), .int .u64 (bits BinOp.or IntKind.u64 b d)]) (by simp [results, Try.results74, go_sem]) rfl ⟨rfl, (by repeat (first | exact Below.refl _ _ | assumption | refine Below.drew ?_ | refine Below.alloc ?_ (by first | omega | (simp <;> omega)) _ | refine Below.setCell ?_ (by first | omega | (simp <;> omega)) _ | refine Below.trans ?_ (Below.mono (by assumption) (by first | omega | (simp <;> omega)))))⟩

set_option maxRecDepth 100000 in
set_option maxHeartbeats 400000 in
theorem or_any (a b c d : Int) (w : World) :
    Calls Try.prog 68 #[.agg #[.int .u64 a, .int .u64 b], .agg #[.int .u64 c, .int .u64 d]] w fun e w' => e = .returned (.agg #[.int .u64 (bits BinOp.or IntKind.u64 a c), .int .u64 (bits BinOp.or IntKind.u64 b d)]) ∧ Below w.heap.size w w' := by
  go_enter Try.func68, Try.ntmps68
  go_wp2_with (go_at_call 74; refine (both_or _ _ _ _ _).mono ?_; rintro e w1 ⟨rfl, hb⟩; obtain ⟨hc, hf⟩ := bcell hb; have hz := hb.size; simp at hz)
  exact bodyPost_ret (v := .agg #[.int .u64 (bits BinOp.or IntKind.u64 a c), .int .u64 (bits BinOp.or IntKind.u64 b d)]) (by simp [results, Try.results68, go_sem, hc, hf, hz]) rfl ⟨rfl, (by repeat (first | exact Below.refl _ _ | assumption | refine Below.drew ?_ | refine Below.alloc ?_ (by first | omega | (simp <;> omega)) _ | refine Below.setCell ?_ (by first | omega | (simp <;> omega)) _ | refine Below.trans ?_ (Below.mono (by assumption) (by first | omega | (simp <;> omega)))))⟩

theorem numOr_any (a b : Nat) (w : World) (ha : a < B * B) (hb : b < B * B) : Calls Try.prog 68 #[numV a, numV b] w (RetNum w (a ||| b)) :=
  (or_any _ _ _ _ w).mono fun e w' ⟨h1, h2⟩ => ⟨by rw [h1, or_num a b ha hb], h2⟩

set_option maxRecDepth 100000 in
set_option maxHeartbeats 400000 in
theorem and1_any (a b : Int) (w : World) :
    Calls Try.prog 75 #[.int .u64 a, .int .u64 b] w fun e w' => e = .returned (.int .u64 (bits BinOp.and IntKind.u64 a b)) ∧ w' = w := by
  go_enter Try.func75, Try.ntmps75
  go_wp2
  go_ret
  exact ⟨rfl, rfl⟩

set_option maxRecDepth 100000 in
set_option maxHeartbeats 400000 in
theorem both_and (a b c d : Int) (w : World) :
    Calls Try.prog 74 #[.agg #[.int .u64 a, .int .u64 b], .agg #[.int .u64 c, .int .u64 d], .func (Fn.func 75) #[] #[]] w fun e w' => e = .returned (.agg #[.int .u64 (bits BinOp.and IntKind.u64 a c), .int .u64 (bits BinOp.and IntKind.u64 b d)]) ∧ Below w.heap.size w w' := by
  go_enter Try.func74, Try.ntmps74
  go_wp2
  refine wp_region_still_tail 13 (by kernel_rfl) (by kernel_rfl) ?_
  simp only [List.take_succ_cons, List.take_zero, List.drop_succ_cons, List.drop_zero]
  change wpStill _ _ (World.drew _) _ _ _
  repeat (first | still_step | still_call (and1_any _ _ _))
  refine wpStill_nil ?_
  change wpList _ _ _ _ _ (World.drew _)
  go_wp2
  exact bodyPost_ret (v := .agg #[.int .u64 (bits BinOp.and IntKind.u64 a c), .int .u64 (bits BinOp.and IntKind.u64 b d)]) (by simp [results, Try.results74, go_sem]) rfl ⟨rfl, (by repeat (first | exact Below.refl _ _ | assumption | refine Below.drew ?_ | refine Below.alloc ?_ (by first | omega | (simp <;> omega)) _ | refine Below.setCell ?_ (by first | omega | (simp <;> omega)) _ | refine Below.trans ?_ (Below.mono (by assumption) (by first | omega | (simp <;> omega)))))⟩

set_option maxRecDepth 100000 in
set_option maxHeartbeats 400000 in
theorem and_any (a b c d : Int) (w : World) :
    Calls Try.prog 42 #[.agg #[.int .u64 a, .int .u64 b], .agg #[.int .u64 c, .int .u64 d]] w fun e w' => e = .returned (.agg #[.int .u64 (bits BinOp.and IntKind.u64 a c), .int .u64 (bits BinOp.and IntKind.u64 b d)]) ∧ Below w.heap.size w w' := by
  go_enter Try.func42, Try.ntmps42
  go_wp2_with (go_at_call 74; refine (both_and _ _ _ _ _).mono ?_; rintro e w1 ⟨rfl, hb⟩; obtain ⟨hc, hf⟩ := bcell hb; have hz := hb.size; simp at hz)
  exact bodyPost_ret (v := .agg #[.int .u64 (bits BinOp.and IntKind.u64 a c), .int .u64 (bits BinOp.and IntKind.u64 b d)]) (by simp [results, Try.results42, go_sem, hc, hf, hz]) rfl ⟨rfl, (by repeat (first | exact Below.refl _ _ | assumption | refine Below.drew ?_ | refine Below.alloc ?_ (by first | omega | (simp <;> omega)) _ | refine Below.setCell ?_ (by first | omega | (simp <;> omega)) _ | refine Below.trans ?_ (Below.mono (by assumption) (by first | omega | (simp <;> omega)))))⟩

end Go.Proofs.Ytnknpgfconfgjaa

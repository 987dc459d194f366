/-
  Lemmas, joined: NumP, Lib, RowP, Num, RefBits, Inv, Two, Map, Nil, Bdd, Node.
-/
import Derived.Laws.BitsAllLaws
import Derived.Laws.Bits64
import Derived.KernelRfl
import Derived.Test.YtlnkflmnjkmhkaaRows
import Derived.WalkKit
import Derived.Lib.Hide
import Derived.Deep.LoopGhost
import Derived.Deep.RegionWith
import Derived.WalkSpells
import Derived.WalkLawsBesides
import Derived.Laws.Rows
import Derived.Laws.Tables
import Derived.Deep.QuietTactic
import Derived.BigQuiet
import Derived.StillTailTactics
import Derived.RegionTactic
import Derived.BigRegion
import Derived.Maps.Keyed
import Derived.ProofKit
import Derived.Defers
import Derived.Recover
import Derived.Deep.RegionLaw


/-
  Small facts on worlds, and what it is for a value to read as a list of integers.
-/
namespace Go.Proofs.Ytlnkflmnjkmhkaa
open Go.RowKit

/-- The value reads as the list of integers xs in the world w: nil or not; where its cells lie, if it has any. -/
def IVec (w : World) (v : Value) (xs : List Int) : Prop :=
  ∃ pa cap, v = .slice pa xs.length cap ∧ xs.length ≤ cap ∧ cap ≤ maxLen ∧
    (0 < xs.length → ∃ b off, pa = some ⟨b, off, none⟩ ∧ b < w.heap.size ∧ ∀ i, i < xs.length → w.cell? ⟨b, off + i, none⟩ = some (.int .i64 (xs.getD i 0)))

theorem IVec.nil (w : World) : IVec w (.slice none 0 0) [] := ⟨none, 0, rfl, Nat.le_refl _, Nat.zero_le _, fun h => absurd h (Nat.lt_irrefl 0)⟩

theorem IVec.below {w w' : World} {v : Value} {xs : List Int} (h : IVec w v xs) (hb : Below w.heap.size w w') : IVec w' v xs := by
  obtain ⟨pa, cap, h1, h2, h3, h4⟩ := h
  refine ⟨pa, cap, h1, h2, h3, fun h0 => ?_⟩
  obtain ⟨b, off, e, hlt, hc⟩ := h4 h0
  exact ⟨b, off, e, Nat.lt_of_lt_of_le hlt hb.size, fun i hi => by rw [hb.cell (p := ⟨b, off + i, none⟩) hlt]; exact hc i hi⟩

theorem IVec.shape {w : World} {v : Value} {xs : List Int} (h : IVec w v xs) : ∃ pa cap, v = .slice pa xs.length cap ∧ xs.length ≤ cap ∧ cap ≤ maxLen ∧
    (0 < xs.length → ∃ b off, pa = some ⟨b, off, none⟩ ∧ b < w.heap.size ∧ ∀ i, i < xs.length → w.cell? ⟨b, off + i, none⟩ = some (.int .i64 (xs.getD i 0))) := h

/-- A cell that is there lies in a block that is there, and has no spot. -/
theorem cell_there {w : World} {a : Addr} {v : Value} (h : w.cell? a = some v) : a.block < w.heap.size ∧ a.spot = none := by
  unfold World.cell? at h
  split at h
  · rename_i c t f hb
    refine ⟨(Array.getElem?_eq_some_iff.1 hb).1, ?_⟩
    split at h
    · cases h
    · rename_i hs; simpa using hs
  · cases h

theorem own_below {w w' : World} {base e size n : Nat} {v : Value} {xs : List Value} (h : w.ownsRow base e size v n xs) (hb : Below w.heap.size w w') : w'.ownsRow base e size v n xs := by
  obtain ⟨hl, h⟩ := h
  refine ⟨hl, ?_⟩
  rcases h with h | ⟨g, cap, cur, h1, h2, h3, h4⟩
  · exact .inl h
  · have hlt : g < w.heap.size := by
      rcases Nat.lt_or_ge g w.heap.size with h | h
      · exact h
      · rw [Array.getElem?_eq_none h] at h3; cases h3
    exact .inr ⟨g, cap, cur, h1, h2, by rw [hb.block g hlt]; exact h3, h4⟩

theorem IVec.of_owns {w : World} {base e : Nat} {v : Value} {n : Nat} {xs : List Int} (hlen : xs.length = n) (h : w.ownsRow base e 1 v n (xs.map (Value.int .i64))) : IVec w v xs := by
  obtain ⟨hl, h⟩ := h
  rcases h with ⟨h1, h2⟩ | ⟨g, cap, cur, h1, h2, h3, h4, h5, h6, h7⟩
  · subst h2
    obtain rfl := List.length_eq_zero_iff.1 hlen
    rw [h1]; exact IVec.nil w
  · have hlt : g < w.heap.size := by
      rcases Nat.lt_or_ge g w.heap.size with h | h
      · exact h
      · rw [Array.getElem?_eq_none h] at h3; cases h3
    refine ⟨some ⟨g, 0, none⟩, cap, by rw [hlen]; exact h1, by omega, h5, fun _ => ⟨g, 0, rfl, hlt, fun i hi => ?_⟩⟩
    simp only [World.cell?, h3, Nat.zero_add]
    have hi' : i < n := by omega
    have h8 : (cur.toList.take (n * 1))[i]? = some (.int .i64 (xs.getD i 0)) := by rw [h7]; simp [hi]
    rw [List.getElem?_take_of_lt (by omega)] at h8
    simpa using h8

/-- A row of integers that came in. -/
theorem IVec.of_row {w : World} {a : Option Addr} {len cap : Nat} {zs : List Int} (h : (a = none ∧ len = 0 ∧ cap = 0 ∧ zs = []) ∨
    ∃ x, a = some x ∧ len ≤ cap ∧ cap ≤ maxLen ∧ zs.length = cap ∧ (∀ i, i < zs.length → w.cell? (x.add i) = some (.int .i64 (zs.getD i 0))) ∧ ∀ n ∈ zs, (Lit.int .i64 n).wf = true) :
    IVec w (.slice a len cap) (zs.take len) ∧ (zs.take len).length = len := by
  rcases h with ⟨rfl, rfl, rfl, rfl⟩ | ⟨x, rfl, h1, h2, h3, h4, -⟩
  · exact ⟨IVec.nil w, rfl⟩
  · have hl : (zs.take len).length = len := by rw [List.length_take]; omega
    refine ⟨⟨some x, cap, by rw [hl], by omega, h2, fun h0 => ?_⟩, hl⟩
    obtain ⟨b, off, sp⟩ := x
    have h5 := h4 0 (by omega)
    obtain ⟨h6, h7⟩ := cell_there h5
    simp only [Addr.add] at h6 h7
    subst h7
    refine ⟨b, off, rfl, h6, fun i hi => ?_⟩
    have h8 := h4 i (by omega)
    have e8 : (⟨b, off, none⟩ : Addr).add i = ⟨b, off + i, none⟩ := by simp [Addr.add]
    rw [e8] at h8
    rw [h8]
    congr 2
    rw [List.getD_eq_getElem?_getD, List.getD_eq_getElem?_getD, List.getElem?_take_of_lt (by omega)]

end Go.Proofs.Ytlnkflmnjkmhkaa





/-
  Contracts of quillonref01.Bits and Num.
-/
namespace Go.Proofs.Ytlnkflmnjkmhkaa
open Go.RowKit

theorem heap_new (w : World) (o : Obj) : (w.alloc o).heap[w.heap.size]? = some o := by
  show (w.heap.push o)[w.heap.size]? = _
  simp
theorem setCell_heap {w : World} {g i k : Nat} {v : Value} (h : k ≠ g) : (w.setCell ⟨g, i, none⟩ v).heap[k]? = w.heap[k]? := Below.heap_setCell w ⟨g, i, none⟩ v k h

end Go.Proofs.Ytlnkflmnjkmhkaa

/-
  A region that draws its order, by an invariant over what has been done.
-/
namespace Go.Proofs.Ytlnkflmnjkmhkaa
open Go.RowKit

/-- Has an operation been done? -/
def did (L : Array Bool) (i : Nat) : Bool := L.getD i false

theorem did_set {L : Array Bool} {i j : Nat} (hi : i < L.size) : did (L.setIfInBounds i true) j = (decide (j = i) || did L j) := by
  unfold did
  by_cases h : i = j
  · subst h
    simp [hi]
  · rw [getD_set_ne false h]
    have : decide (j = i) = false := by simp; omega
    rw [this, Bool.false_or]

theorem filter_le {p q : Nat → Bool} (h : ∀ j, q j = true → p j = true) : ∀ l : List Nat, (l.filter q).length ≤ (l.filter p).length
  | [] => Nat.le_refl _
  | x :: l => by
    have ih := filter_le h l
    rw [List.filter_cons, List.filter_cons]
    cases hq : q x
    · simp only [Bool.false_eq_true, if_false]
      split
      · simp only [List.length_cons]; omega
      · exact ih
    · rw [h x hq]
      simp only [if_true, List.length_cons]
      omega
theorem filter_lt {p q : Nat → Bool} (h : ∀ j, q j = true → p j = true) {i : Nat} (hp : p i = true) (hq : q i = false) : ∀ l : List Nat, i ∈ l → (l.filter q).length < (l.filter p).length
  | [], hi => by cases hi
  | x :: l, hi => by
    rw [List.filter_cons, List.filter_cons]
    by_cases e : x = i
    · subst e
      have := filter_le h l
      rw [hp, hq]
      simp only [Bool.false_eq_true, if_false, if_true, List.length_cons]
      omega
    · have ih := filter_lt h hp hq l (by
        rcases List.mem_cons.1 hi with h1 | h1
        · exact absurd h1.symm e
        · exact h1)
      cases hq' : q x
      · simp only [Bool.false_eq_true, if_false]
        split
        · simp only [List.length_cons]; omega
        · exact ih
      · rw [h x hq']
        simp only [if_true, List.length_cons]
        omega

theorem wpAny_inv {P : Program} {md : Region.Mode} {ops : Array Oper} {Q : Exit → Act → World → Prop} (I : Array Bool → Act → World → Prop)
    (hstep : ∀ L a w i, L.size = ops.size → i < ops.size → did L i = false → (∀ o, ops[i]? = some o → ∀ e ∈ o.after, Region.binds md e = true → did L e.on = true) → I L a w → wpOp P ops Q i (I (L.setIfInBounds i true)) a w)
    (hend : ∀ L a w, L.size = ops.size → Region.ready md ops L = [] → I L a w → Q .normal a w) :
    ∀ (n : Nat) (L : Array Bool) (a : Act) (w : World), L.size = ops.size → (∀ i, i < ops.size → did L i = false → 0 < n) → (Region.ready md ops L).length ≤ ops.size → ((List.range ops.size).filter fun i => !did L i).length ≤ n → I L a w → wpAny P md ops Q n L a w := by
  intro n
  induction n with
  | zero =>
    intro L a w hL hn _ hlen hI
    have hr : Region.ready md ops L = [] := by
      rw [List.eq_nil_iff_forall_not_mem]
      intro i hi
      obtain ⟨h1, o, ho, -⟩ := mem_ready.1 hi
      have hlt : i < ops.size := (Array.getElem?_eq_some_iff.1 ho).1
      have : did L i = false := by unfold did; simpa [hL, hlt] using h1
      exact absurd (hn i hlt this) (by omega)
    exact ⟨hr, hend L a w hL hr hI⟩
  | succ n ih =>
    intro L a w hL hn hrl hlen hI
    refine ⟨fun hr => hend L a w hL hr hI, fun i hi => ?_⟩
    obtain ⟨h1, o, ho, hall⟩ := mem_ready.1 hi
    have hlt : i < ops.size := (Array.getElem?_eq_some_iff.1 ho).1
    have hd : did L i = false := by unfold did; simpa [hL, hlt] using h1
    refine wpOp_mono (fun a' w' hI' => ?_) (hstep L a w i hL hlt hd (fun o' ho' e he hb => by rw [ho] at ho'; cases ho'; exact hall e he hb) hI)
    have hset : ((List.range ops.size).filter fun j => !did (L.setIfInBounds i true) j).length < ((List.range ops.size).filter fun j => !did L j).length := by
      refine filter_lt (fun j hj => ?_) (i := i) (by simp [hd]) (by rw [did_set (by omega)]; simp) _ (List.mem_range.2 hlt)
      rw [did_set (by omega)] at hj
      cases h : did L j
      · rfl
      · rw [h] at hj; simp at hj
    refine ih _ a' w' (by simpa using hL) (fun j hj hdj => ?_) ?_ (by omega) hI'
    · rcases Nat.eq_zero_or_pos n with h0 | h0
      · exfalso
        have hm : j ∈ (List.range ops.size).filter fun j => !did (L.setIfInBounds i true) j := by
          rw [List.mem_filter, List.mem_range]
          exact ⟨hj, by simp [hdj]⟩
        have := List.length_pos_of_mem hm
        omega
      · exact h0
    · unfold Region.ready
      exact Nat.le_trans (List.length_filter_le _ _) (by simp)

end Go.Proofs.Ytlnkflmnjkmhkaa

/-
  What holds while both numbers' bits are taken: two loads, two calls, two new rows, two stores, in any order that is open.
-/
namespace Go.Proofs.Ytlnkflmnjkmhkaa
open Go.RowKit

variable {A C : Value} {fa fb : Nat → Bool} {W0 : World} {L : Array Bool} {v5 v6 v8 v9 v10 v11 : Value} {w w' : World}

theorem lt_of_block {g : Nat} {o : Obj} (h : w.heap[g]? = some o) : g < w.heap.size := (Array.getElem?_eq_some_iff.1 h).1

end Go.Proofs.Ytlnkflmnjkmhkaa

/-
  A map of the call's own from keys of three integers (a struct) to integers: how it reads, a look-up, a store.
-/
namespace Go.Proofs.Ytlnkflmnjkmhkaa
open Go.RowKit Go.Maps

theorem mlaidOut : laidOutB Try.prog = true := by kernel_rfl
theorem keyedBranchy : Keyed Try.prog 149 := Keyed.of_law (deep_law_laid mlaidOut (m := 20) (by omega) (of_decide_eq_true (by kernel_rfl)) (by kernel_rfl) (by kernel_rfl))
theorem keyedThree : Keyed Try.prog 162 := Keyed.of_law (deep_law_laid mlaidOut (m := 20) (by omega) (of_decide_eq_true (by kernel_rfl)) (by kernel_rfl) (by kernel_rfl))

/-- Three integers as a key. -/
structure T3 where
  a : Int
  b : Int
  c : Int
deriving DecidableEq

def kv3 (t : T3) : Value := .agg #[.int .i64 t.a, .int .i64 t.b, .int .i64 t.c]
def T3.wf (t : T3) : Prop := (Lit.int .i64 t.a).wf = true ∧ (Lit.int .i64 t.b).wf = true ∧ (Lit.int .i64 t.c).wf = true
theorem kv3_inj {s t : T3} (h : kv3 s = kv3 t) : s = t := by
  cases s; cases t; simpa [kv3] using h

theorem keyOf_branchy {t : T3} (h : t.wf) : ∃ l, keyOf Try.prog 149 (kv3 t) = some l := by
  obtain ⟨h1, h2, h3⟩ := h
  have e : Try.prog.keyType 149 = true := by kernel_rfl
  have c1 : Try.prog.cellsOf 149 = 3 := by kernel_rfl
  have c2 : Try.prog.cellsOf 3 = 1 := by kernel_rfl
  obtain ⟨d, hn⟩ : ∃ d, Try.prog.types.size + 1 = d + 1 + 1 := by
    have : 2 ≤ Try.prog.types.size := of_decide_eq_true (by kernel_rfl)
    exact ⟨Try.prog.types.size - 1, by omega⟩
  unfold keyOf
  rw [hn]
  simp [keyOf, kv3, Value.formed, Value.cells, Program.keyLits, Try.underlying149, Try.underlying3, e, c1, c2, h1, h2, h3]

theorem keyOf_three {t : T3} (h : t.wf) : ∃ l, keyOf Try.prog 162 (kv3 t) = some l := by
  obtain ⟨h1, h2, h3⟩ := h
  have e : Try.prog.keyType 162 = true := by kernel_rfl
  have c1 : Try.prog.cellsOf 162 = 3 := by kernel_rfl
  have c2 : Try.prog.cellsOf 3 = 1 := by kernel_rfl
  obtain ⟨d, hn⟩ : ∃ d, Try.prog.types.size + 1 = d + 1 + 1 := by
    have : 2 ≤ Try.prog.types.size := of_decide_eq_true (by kernel_rfl)
    exact ⟨Try.prog.types.size - 1, by omega⟩
  unfold keyOf
  rw [hn]
  simp [keyOf, kv3, Value.formed, Value.cells, Program.keyLits, Try.underlying162, Try.underlying3, e, c1, c2, h1, h2, h3]

/-- Block m is a map that tells f, of keys of three integers. -/
def IMap (w : World) (m : Nat) (f : T3 → Option Int) : Prop :=
  ∃ es clock, w.heap[m]? = some (.map es clock) ∧ (∀ e ∈ es.toList, ∃ t r, t.wf ∧ e.key = kv3 t ∧ e.val = .int .i64 r ∧ f t = some r) ∧ (∀ t r, f t = some r → ∃ e ∈ es.toList, e.key = kv3 t)

def upd3 (f : T3 → Option Int) (t : T3) (r : Int) : T3 → Option Int := fun s => if s = t then some r else f s

theorem IMap.empty (w : World) (m : Nat) (h : w.heap[m]? = some (.map #[] 0)) : IMap w m (fun _ => none) := ⟨#[], 0, h, by simp, by simp⟩

theorem IMap.lt {w : World} {m : Nat} {f : T3 → Option Int} (h : IMap w m f) : m < w.heap.size := by
  obtain ⟨es, clock, hb, -⟩ := h
  exact (Array.getElem?_eq_some_iff.1 hb).1

theorem IMap.kept {w w' : World} {m : Nat} {f : T3 → Option Int} (h : IMap w m f) (hb : w'.heap[m]? = w.heap[m]?) : IMap w' m f := by
  obtain ⟨es, clock, h1, h2⟩ := h
  exact ⟨es, clock, hb.trans h1, h2⟩

section
variable {P : Program} {k T e : TypeId} {w : World} {m : Nat} {f : T3 → Option Int}

theorem IMap.look (h : IMap w m f) (K : Keyed P k) (hk : ∀ t : T3, t.wf → ∃ l, keyOf P k (kv3 t) = some l) (ht : P.underlying T = some (.map k e)) (hz : (zeroValue e).run P w = .ok (.int .i64 0) w) {t : T3} (hw : t.wf) :
    (Instr.lookup T (.map (some m)) (kv3 t) true).run P w = .ok (.tuple #[.int .i64 ((f t).getD 0), .bool (f t).isSome]) w := by
  obtain ⟨es, clock, hb, h1, h2⟩ := h
  obtain ⟨kl, hkey⟩ := hk t hw
  rcases K.find w hkey es.toList (fun x hx => by obtain ⟨s, r, h3, h4, -⟩ := h1 x hx; rw [h4]; exact hk s h3) with ⟨f1, f2⟩ | ⟨j, e0, f1, f2, f3⟩
  · have hn : f t = none := by
      cases hf : f t with
      | none => rfl
      | some r => obtain ⟨x, hx, hx2⟩ := h2 t r hf; exact absurd hx2 (f2 x hx)
    simp [Instr.lookup, run_underlying ht, MapKept.run_getObj_map hb, K.check w _ hkey, f1, hz, Result.andThen, hn]
  · obtain ⟨s, r, h3, h4, h5, h6⟩ := h1 e0 (List.mem_of_getElem? f2)
    have : s = t := kv3_inj (h4.symm.trans f3)
    subst this
    simp [Instr.lookup, run_underlying ht, MapKept.run_getObj_map hb, K.check w _ hkey, f1, Result.andThen, h6, h5]

theorem IMap.store (h : IMap w m f) (K : Keyed P k) (hk : ∀ t : T3, t.wf → ∃ l, keyOf P k (kv3 t) = some l) (ht : P.underlying T = some (.map k e)) {t : T3} (hw : t.wf) (r : Int) (hf : f t = none ∨ f t = some r) :
    ∃ w', (Instr.mapUpdate T (.map (some m)) (kv3 t) (.int .i64 r)).run P w = .ok () w' ∧ IMap w' m (upd3 f t r) ∧ w.grownBy w' (some m) := by
  obtain ⟨es, clock, hb, h1, h2⟩ := h
  obtain ⟨kl, hkey⟩ := hk t hw
  have hg : ∀ o : Obj, w.grownBy (ChangeMaps.setBlock w m o) (some m) := fun o => ⟨rfl, rfl, rfl, by simp [ChangeMaps.setBlock], fun i _ hi => ChangeMaps.heap_setBlock_other hb o (fun e => hi (by rw [e]))⟩
  rcases K.find w hkey es.toList (fun x hx => by obtain ⟨s, r, h3, h4, -⟩ := h1 x hx; rw [h4]; exact hk s h3) with ⟨f1, f2⟩ | ⟨j, e0, f1, f2, f3⟩
  · have hn : f t = none := by
      cases hf : f t with
      | none => rfl
      | some r => obtain ⟨x, hx, hx2⟩ := h2 t r hf; exact absurd hx2 (f2 x hx)
    refine ⟨ChangeMaps.setBlock w m (.map (es.push ⟨kv3 t, .int .i64 r, clock⟩) (clock + 1)), ?_, ⟨_, _, ChangeMaps.heap_setBlock_same hb _, ?_, ?_⟩, hg _⟩
    · simp [Instr.mapUpdate, run_underlying ht, MapKept.run_getObj_map hb, K.check w false hkey, f1, MapKept.run_setObj_map _ hb, Result.andThen, ChangeMaps.setBlock]
    · intro x hx
      simp only [Array.toList_push, List.mem_append, List.mem_singleton] at hx
      rcases hx with hx | rfl
      · obtain ⟨s, r', h3, h4, h5, h6⟩ := h1 x hx
        refine ⟨s, r', h3, h4, h5, ?_⟩
        have : s ≠ t := fun e => by subst e; rw [hn] at h6; cases h6
        simp [upd3, this, h6]
      · exact ⟨t, r, hw, rfl, rfl, by simp [upd3]⟩
    · intro s r' hs
      simp only [Array.toList_push, List.mem_append, List.mem_singleton]
      by_cases e : s = t
      · subst e; exact ⟨_, .inr rfl, rfl⟩
      · simp [upd3, e] at hs
        obtain ⟨x, hx, hx2⟩ := h2 s r' hs
        exact ⟨x, .inl hx, hx2⟩
  · have hj : es[j]? = some e0 := by simpa using f2
    obtain ⟨s, r0, h3, h4, h5, h6⟩ := h1 e0 (List.mem_of_getElem? f2)
    have hst : s = t := kv3_inj (h4.symm.trans f3)
    subst hst
    have hr : r0 = r := by
      rcases hf with hf | hf
      · rw [hf] at h6; cases h6
      · rw [hf] at h6; exact (Option.some.inj h6).symm
    subst hr
    have hsame : es.modify j (fun e' => { e' with key := kv3 s, val := .int .i64 r0 }) = es := by
      apply Array.ext
      · simp
      · intro i hi1 hi2
        rw [Array.getElem_modify]
        split
        · rename_i hij
          subst hij
          have : es[j] = e0 := by
            have := Array.getElem?_eq_some_iff.1 hj
            exact this.2
          rw [this]
          cases e0
          simp_all
        · rfl
    have hup : upd3 f s r0 = f := by
      funext x
      unfold upd3
      split
      · rename_i e; rw [e, h6]
      · rfl
    refine ⟨ChangeMaps.setBlock w m (.map es clock), ?_, ?_, hg _⟩
    · simp [Instr.mapUpdate, run_underlying ht, MapKept.run_getObj_map hb, K.check w false hkey, f1, hj, f3, K.stays w hkey, MapKept.run_setObj_map _ hb, Result.andThen, ChangeMaps.setBlock, hsame]
    · rw [hup]
      exact ⟨es, clock, ChangeMaps.heap_setBlock_same hb _, h1, h2⟩
end

end Go.Proofs.Ytlnkflmnjkmhkaa

/-
  Contracts of the store's methods at a store that is not there: each hands back 0, nothing that was has changed.
-/
namespace Go.Proofs.Ytlnkflmnjkmhkaa
open Go.RowKit

/-- An int is handed back; nothing that was has changed. -/
def RetInt (w : World) (n : Int) (e : Ending) (w' : World) : Prop := e = .returned (.int .i64 n) ∧ Below w.heap.size w w'

end Go.Proofs.Ytlnkflmnjkmhkaa

/-
  The store of diagrams in memory: what it is for a pointer to be one; what a call may turn.
-/
namespace Go.Proofs.Ytlnkflmnjkmhkaa
open Go.RowKit Go.Maps

theorem Try.infoBranchy : (Try.prog.info? 149).map (fun i => (i.zero, i.size, i.bytes)) = some (some (.agg #[.int .i64 0, .int .i64 0, .int .i64 0]), 3, 24) := by kernel_rfl
theorem zeroInt (w : World) : (zeroValue 3).run Try.prog w = .ok (.int .i64 0) w := by kernel_rfl

/-- What a store holds: its cap, its nodes, whether it is full. -/
structure BS where
  cap : Nat
  nodes : List T3
  full : Bool

def flat3 (l : List T3) : List Value := l.flatMap fun t => [.int .i64 t.a, .int .i64 t.b, .int .i64 t.c]
theorem flat3_append (l : List T3) (t : T3) : flat3 (l ++ [t]) = flat3 l ++ [.int .i64 t.a, .int .i64 t.b, .int .i64 t.c] := by simp [flat3]
theorem flat3_at (l : List T3) (i : Nat) (hi : i < l.length) : (flat3 l)[i * 3]? = some (.int .i64 l[i].a) ∧ (flat3 l)[i * 3 + 1]? = some (.int .i64 l[i].b) ∧ (flat3 l)[i * 3 + 2]? = some (.int .i64 l[i].c) := by
  induction l generalizing i with
  | nil => simp at hi
  | cons t l ih =>
    cases i with
    | zero => simp [flat3]
    | succ i =>
      obtain ⟨h1, h2, h3⟩ := ih i (by simpa using hi)
      have e : flat3 (t :: l) = [.int .i64 t.a, .int .i64 t.b, .int .i64 t.c] ++ flat3 l := rfl
      have e0 : (i + 1) * 3 = i * 3 + 3 := by omega
      rw [e, e0]
      refine ⟨?_, ?_, ?_⟩
      · rw [List.getElem?_append_right (by simp)]; simpa using h1
      · rw [List.getElem?_append_right (by simp)]; simpa using h2
      · rw [List.getElem?_append_right (by simp)]; simpa using h3

/-- The number of a node, if there is one. -/
def byOf (l : List T3) : T3 → Option Int := fun t => (l.idxOf? t).map fun i => ((i + 2 : Nat) : Int)

/-- The blocks of a store: of its struct, of its two maps, of its nodes. -/
def Blk (b m1 m2 : Nat) (v : Value) (k : Nat) : Prop := k = b ∨ k = m1 ∨ k = m2 ∨ v.ownBlock = some k

/-- At block b lies a store s, whose blocks are O; what Ite told is told. -/
def IsBdd (w : World) (b : Nat) (O : Nat → Prop) (s : BS) (told : T3 → Option Int) : Prop :=
  ∃ v m1 m2, w.cell? ⟨b, 0, none⟩ = some (.int .i64 (s.cap : Int)) ∧ w.cell? ⟨b, 1, none⟩ = some v ∧ w.cell? ⟨b, 2, none⟩ = some (.map (some m1)) ∧ w.cell? ⟨b, 3, none⟩ = some (.map (some m2)) ∧
    w.cell? ⟨b, 4, none⟩ = some (.bool s.full) ∧ (∀ j, w.frozen? ⟨b, j, none⟩ = false) ∧ w.ownsRow 0 149 3 v s.nodes.length (flat3 s.nodes) ∧ m1 ≠ m2 ∧ v.ownBlock ≠ some b ∧
    IMap w m1 (byOf s.nodes) ∧ IMap w m2 told ∧ (∀ k, O k ↔ Blk b m1 m2 v k) ∧ 2 ≤ s.cap ∧ s.cap ≤ 1048576 ∧ s.nodes.length ≤ s.cap ∧ ∀ t ∈ s.nodes, t.wf

/-- Nothing has turned but the blocks O, and what is new. -/
structure Keeps (O : Nat → Prop) (w w' : World) : Prop where
  os : w'.os = w.os
  tape : w'.tape = w.tape
  output : w'.output = w.output
  size : w.heap.size ≤ w'.heap.size
  block : ∀ k, k < w.heap.size → ¬ O k → w'.heap[k]? = w.heap[k]?

def Ext (O O' : Nat → Prop) (w w' : World) : Prop := Keeps O w w' ∧ ∀ k, O' k → O k ∨ w.heap.size ≤ k

theorem Keeps.refl (O : Nat → Prop) (w : World) : Keeps O w w := ⟨rfl, rfl, rfl, Nat.le_refl _, fun _ _ _ => rfl⟩
theorem Keeps.of_below {O : Nat → Prop} {w w' : World} (h : Below w.heap.size w w') : Keeps O w w' := ⟨h.os, h.tape, h.output, h.size, fun k hk _ => h.block k hk⟩
theorem Ext.of_below {O : Nat → Prop} {w w' : World} (h : Below w.heap.size w w') : Ext O O w w' := ⟨Keeps.of_below h, fun _ h => .inl h⟩
theorem Ext.trans {O O' O'' : Nat → Prop} {w w' w'' : World} (h : Ext O O' w w') (k : Ext O' O'' w' w'') : Ext O O'' w w'' := by
  refine ⟨⟨k.1.os.trans h.1.os, k.1.tape.trans h.1.tape, k.1.output.trans h.1.output, Nat.le_trans h.1.size k.1.size, fun i hi hO => ?_⟩, fun i hi => ?_⟩
  · refine (k.1.block i (Nat.lt_of_lt_of_le hi h.1.size) fun hO' => ?_).trans (h.1.block i hi hO)
    rcases h.2 i hO' with h1 | h1
    · exact hO h1
    · omega
  · rcases k.2 i hi with h1 | h1
    · exact h.2 i h1
    · exact .inr (Nat.le_trans h.1.size h1)
/-- What lies beside the store's blocks stays. -/
theorem Ext.cell {O O' : Nat → Prop} {w w' : World} (h : Ext O O' w w') {p : Addr} (hp : p.block < w.heap.size) (hO : ¬ O p.block) : w'.cell? p = w.cell? p ∧ w'.frozen? p = w.frozen? p ∧ ¬ O' p.block :=
  ⟨World.cell?_of_block (h.1.block _ hp hO), World.frozen?_of_block (h.1.block _ hp hO), fun h1 => by
    rcases h.2 _ h1 with h2 | h2
    · exact hO h2
    · omega⟩

theorem IsBdd.lt {w : World} {b : Nat} {O : Nat → Prop} {s : BS} {told : T3 → Option Int} (h : IsBdd w b O s told) : ∀ k, O k → k < w.heap.size := by
  obtain ⟨v, m1, m2, c0, c1, c2, c3, c4, f, own, hne, hnb, hm1, hm2, hO, -⟩ := h
  intro k hk
  rcases (hO k).1 hk with rfl | rfl | rfl | h
  · exact (cell_there c0).1
  · exact hm1.lt
  · exact hm2.lt
  · exact (own.lt k h).2

/-- The same blocks, the same store. -/
theorem IsBdd.kept {w w' : World} {b : Nat} {O : Nat → Prop} {s : BS} {told : T3 → Option Int} (h : IsBdd w b O s told) (hk : ∀ k, O k → w'.heap[k]? = w.heap[k]?) : IsBdd w' b O s told := by
  obtain ⟨v, m1, m2, c0, c1, c2, c3, c4, f, own, hne, hnb, hm1, hm2, hO, rest⟩ := h
  have hb : w'.heap[b]? = w.heap[b]? := hk b ((hO b).2 (.inl rfl))
  have e : ∀ j, w'.cell? ⟨b, j, none⟩ = w.cell? ⟨b, j, none⟩ := fun j => World.cell?_of_block hb
  refine ⟨v, m1, m2, (e 0).trans c0, (e 1).trans c1, (e 2).trans c2, (e 3).trans c3, (e 4).trans c4, fun j => (World.frozen?_of_block (a := ⟨b, j, none⟩) hb).trans (f j), ?_, hne, hnb,
    hm1.kept (hk m1 ((hO m1).2 (.inr (.inl rfl)))), hm2.kept (hk m2 ((hO m2).2 (.inr (.inr (.inl rfl))))), hO, rest⟩
  obtain ⟨hl, h⟩ := own
  refine ⟨hl, ?_⟩
  rcases h with h | ⟨g, cap, cur, h1, h2, h3, h4⟩
  · exact .inl h
  · exact .inr ⟨g, cap, cur, h1, h2, (hk g ((hO g).2 (.inr (.inr (.inr (by rw [h1]; rfl)))))).trans h3, h4⟩
theorem IsBdd.below {w w' : World} {b : Nat} {O : Nat → Prop} {s : BS} {told : T3 → Option Int} (h : IsBdd w b O s told) (hb : Below w.heap.size w w') : IsBdd w' b O s told :=
  h.kept fun k hk => hb.block k (h.lt k hk)

end Go.Proofs.Ytlnkflmnjkmhkaa

/-
  Contracts of (*Store).node.
-/
namespace Go.Proofs.Ytlnkflmnjkmhkaa
open Go.RowKit Go.Maps

theorem own_shape {w : World} {base e size n : Nat} {v : Value} {xs : List Value} (h : w.ownsRow base e size v n xs) : ∃ p c, v = .slice p n c ∧ n ≤ maxLen := by
  obtain ⟨-, h | ⟨g, cap, cur, h1, h2, h3, h4, h5, h6⟩⟩ := h
  · exact ⟨none, 0, by rw [h.1, h.2], by rw [h.2]; exact Nat.zero_le _⟩
  · exact ⟨_, _, h1, by omega⟩

theorem ownsRow_mono {w : World} {base base' e size n : Nat} {v : Value} {xs : List Value} (h : w.ownsRow base e size v n xs) (hb : base' ≤ base) : w.ownsRow base' e size v n xs := by
  obtain ⟨hl, h⟩ := h
  refine ⟨hl, ?_⟩
  rcases h with h | ⟨g, cap, cur, h1, h2, h3⟩
  · exact .inl h
  · exact .inr ⟨g, cap, cur, h1, by omega, h3⟩
theorem grownBy_none {w w' : World} (h : w.grownBy w' none) (row : Option Nat) : w.grownBy w' row := ⟨h.os, h.tape, h.output, h.size, fun i hi _ => h.block i hi (by simp)⟩

/-- append to a row of the call's own: where the new row lies: in the old block, or in a new one. -/
theorem step_append_two {P : Program} {ops : Array Oper} {o : Oper} {a : Act} {w : World} {K : Act → World → Prop} {Q : Exit → Act → World → Prop} {E : Prop}
    (hgd : o.guard = none) (s x : Operand) (t : TypeId)
    (ho : o.op = Op.call { callee := Callee.builtin Builtin.append, args := #[s, x], argTypes := #[t, t] })
    (e : TypeId) (i : TypeInfo) (z : Value) (size bytes : Nat) (ht : P.underlying t = some (.slice e)) (hi : P.info? e = some i) (hz : i.zero = some z)
    (hsize : i.size = size) (hby : i.bytes = bytes) (hzs : z.cells.size = size) (hsz : 0 < size)
    (v : Value) (n : Nat) (xs : List Value) (hs : a.eval s = v) (hown : w.ownsRow 0 e size v n xs)
    (ad : Addr) (m c : Nat) (news : List Value) (hx : a.eval x = .slice (some ad) m c) (hl : news.length = m * size) (hnews : ∀ j u, news[j]? = some u → w.cell? (ad.add j) = some u) (h1 : ∀ u ∈ news, u.oneCell' = true)
    (h63 : n + m ≤ maxLen) (hbytes : (n + m) * bytes ≤ 140737488355328)
    (h : ∀ v' w', w'.ownsRow 0 e size v' (n + m) (xs ++ news) → w.grownBy w' v.ownBlock → (v'.ownBlock = v.ownBlock ∨ ∀ k, v'.ownBlock = some k → w.heap.size ≤ k) → K (a.put o.dst v') w') :
    if Region.wanted o (yielded ops a.tmps) = true then Oper.wp P o a w K Q else E := by
  have hw : Region.wanted o (yielded ops a.tmps) = true := by simp [Region.wanted, hgd]
  rw [if_pos hw]
  have hown' := hown
  obtain ⟨hlx, hsh⟩ := hown
  rcases hsh with ⟨rfl, rfl⟩ | ⟨g, cap, cur, rfl, hg0, hg1, hg2, hg3, hg4, hg5⟩
  · have hxs : xs = [] := List.eq_nil_of_length_eq_zero (by simpa using hlx)
    subst hxs
    obtain ⟨v', w', hrun, r1, r2, _⟩ := run_append_own (P := P) w w.heap.size t o.type e i z size bytes ht hi hz hsize hby hzs hsz (.slice none 0 0) 0 [] (World.ownsRow_nil w _ e size) ad m c news hl hnews h1 h63 hbytes (Nat.le_refl _)
    unfold Oper.wp
    simp [execOp, ho, resolve, invoke, builtin, hs, hx, hrun, Result.andThen]
    exact h v' w' (ownsRow_mono r1 (Nat.zero_le _)) r2 (.inr fun k hk => (r1.lt k hk).1)
  · by_cases hroom : n + m ≤ cap
    · obtain ⟨w', hrun, r1, r2⟩ := run_append_fits (P := P) w 0 t o.type e i size ht hi hsize g n cap xs hown' ad m c news hl hnews h1 hroom
      unfold Oper.wp
      simp [execOp, ho, resolve, invoke, builtin, hs, hx, hrun, Result.andThen]
      exact h _ w' r1 r2 (.inl rfl)
    · obtain ⟨v', w', hrun, r1, r2⟩ := run_append_arg_grows (P := P) w t o.type e i z size bytes ht hi hz hsize hby hzs hsz ⟨g, 0, none⟩ n cap xs (by simpa using hlx) (hown'.cells rfl) ad m c news hl hnews (by omega) h63 hbytes
      unfold Oper.wp
      simp [execOp, ho, resolve, invoke, builtin, hs, hx, hrun, Result.andThen]
      exact h v' w' (ownsRow_mono r1 (Nat.zero_le _)) (grownBy_none r2 _) (.inr fun k hk => (r1.lt k hk).1)

theorem cell_three_new (w : World) (a b c : Value) (t : TypeId) : ∀ j u, [a, b, c][j]? = some u → (w.alloc (.cells #[a, b, c] t)).cell? ((⟨w.heap.size, 0, none⟩ : Addr).add j) = some u := by
  intro j u h
  match j, h with
  | 0, h => simp at h; subst h; simp [Addr.add, go_sem]
  | 1, h => simp at h; subst h; simp [Addr.add, go_sem]
  | 2, h => simp at h; subst h; simp [Addr.add, go_sem]

set_option maxRecDepth 100000 in
set_option maxHeartbeats 400000 in
theorem node_same (b : Nat) (v lo : Int) (w : World) :
    Calls Try.prog 67 #[.pointer (some ⟨b, 0, none⟩), .int .i64 v, .int .i64 lo, .int .i64 lo] w (RetInt w lo) := by
  go_enter Try.func67, Try.ntmps67
  go_wp2
  go_ret
  exact ⟨rfl, (by repeat (first | exact Below.refl _ _ | assumption | refine Below.drew ?_ | refine Below.alloc ?_ (by first | omega | (simp <;> omega)) _ | refine Below.setCell ?_ (by first | omega | (simp <;> omega)) _ | refine Below.trans ?_ (Below.mono (by assumption) (by first | omega | (simp <;> omega)))))⟩

set_option maxRecDepth 100000 in
set_option maxHeartbeats 400000 in
theorem node_found (b : Nat) (O : Nat → Prop) (s : BS) (told : T3 → Option Int) (v lo hi i : Int) (w : World) (hs : IsBdd w b O s told) (hne : (lo == hi) = false) (hw : (⟨v, lo, hi⟩ : T3).wf) (hby : byOf s.nodes ⟨v, lo, hi⟩ = some i) :
    Calls Try.prog 67 #[.pointer (some ⟨b, 0, none⟩), .int .i64 v, .int .i64 lo, .int .i64 hi] w (RetInt w i) := by
  have hX := hs.below (w' := w.alloc (.cells #[.int .i64 v, .int .i64 lo, .int .i64 hi] 149)) (by repeat (first | exact Below.refl _ _ | assumption | refine Below.drew ?_ | refine Below.alloc ?_ (by first | omega | (simp <;> omega)) _ | refine Below.setCell ?_ (by first | omega | (simp <;> omega)) _ | refine Below.trans ?_ (Below.mono (by assumption) (by first | omega | (simp <;> omega)))))
  obtain ⟨vn, m1, m2, c0, c1, c2, c3, c4, f, own, hm12, hnb, hm1, hm2, hO, -⟩ := hX
  have hlk : ∀ nq, (Instr.lookup 105 (.map (some m1)) (.agg #[.int .i64 v, .int .i64 lo, .int .i64 hi]) true).run Try.prog ((w.alloc (.cells #[.int .i64 v, .int .i64 lo, .int .i64 hi] 149)).drewN nq) = .ok (.tuple #[.int .i64 i, .bool true]) ((w.alloc (.cells #[.int .i64 v, .int .i64 lo, .int .i64 hi] 149)).drewN nq) := by
    intro nq
    have h := IMap.look (P := Try.prog) (T := 105) (k := 149) (e := 3) (w := (w.alloc (.cells #[.int .i64 v, .int .i64 lo, .int .i64 hi] 149)).drewN nq) (m := m1) (hm1.kept rfl) keyedBranchy (fun t ht => keyOf_branchy ht) Try.underlying105 (zeroInt _) (t := ⟨v, lo, hi⟩) hw
    rw [hby] at h
    exact h
  clear f own hm12 hnb hm1 hm2 hO c0 c1 c3 c4 hs hby hw
  go_enter Try.func67, Try.ntmps67
  go_wp2_with fail
  go_quiet (fail)
  go_wp2_with fail
  go_ret
  exact ⟨rfl, below_drewN (by repeat (first | exact Below.refl _ _ | assumption | refine Below.drew ?_ | refine Below.alloc ?_ (by first | omega | (simp <;> omega)) _ | refine Below.setCell ?_ (by first | omega | (simp <;> omega)) _ | refine Below.trans ?_ (Below.mono (by assumption) (by first | omega | (simp <;> omega))))) _⟩

theorem IsBdd.setFull {w : World} {b : Nat} {O : Nat → Prop} {s : BS} {told : T3 → Option Int} (h : IsBdd w b O s told) : IsBdd (w.setCell ⟨b, 4, none⟩ (.bool true)) b O { s with full := true } told := by
  obtain ⟨v, m1, m2, c0, c1, c2, c3, c4, f, own, hne, hnb, hm1, hm2, hO, rest⟩ := h
  have hk : ∀ k, k ≠ b → (w.setCell ⟨b, 4, none⟩ (.bool true)).heap[k]? = w.heap[k]? := fun k hk => Below.heap_setCell w ⟨b, 4, none⟩ _ k hk
  have e : ∀ j, j ≠ 4 → (w.setCell ⟨b, 4, none⟩ (.bool true)).cell? ⟨b, j, none⟩ = w.cell? ⟨b, j, none⟩ := fun j hj => World.cell?_setCell_other _ _ _ _ (by intro h; cases h; exact hj rfl)
  have hb1 : m1 ≠ b := fun e => by
    obtain ⟨es, clock, h1, -⟩ := hm1
    rw [e] at h1
    simp [World.cell?, h1] at c0
  have hb2 : m2 ≠ b := fun e => by
    obtain ⟨es, clock, h1, -⟩ := hm2
    rw [e] at h1
    simp [World.cell?, h1] at c0
  refine ⟨v, m1, m2, (e 0 (by omega)).trans c0, (e 1 (by omega)).trans c1, (e 2 (by omega)).trans c2, (e 3 (by omega)).trans c3, World.cell?_setCell_same _ _ _ c4, fun j => by rw [World.frozen?_setCell]; exact f j, ?_, hne, hnb,
    hm1.kept (hk m1 hb1), hm2.kept (hk m2 hb2), hO, rest⟩
  obtain ⟨hl, h⟩ := own
  refine ⟨hl, ?_⟩
  rcases h with h | ⟨g, cap, cur, h1, h2, h3, h4⟩
  · exact .inl h
  · exact .inr ⟨g, cap, cur, h1, h2, (hk g (fun e => hnb (by rw [h1, e]; rfl))).trans h3, h4⟩

theorem Keeps.setCell {O : Nat → Prop} {w w' : World} (h : Keeps O w w') {b j : Nat} (hb : O b) (x : Value) : Keeps O w (w'.setCell ⟨b, j, none⟩ x) :=
  ⟨h.os, h.tape, h.output, by simpa [World.setCell] using h.size, fun k hk hO => (Below.heap_setCell w' ⟨b, j, none⟩ x k (fun e => hO (by rw [e]; exact hb))).trans (h.block k hk hO)⟩

/-- The panic of a store that is full. -/
def overV : Value := .iface 146 (.agg #[])

set_option maxRecDepth 100000 in
set_option maxHeartbeats 400000 in
theorem node_over (b : Nat) (O : Nat → Prop) (s : BS) (told : T3 → Option Int) (v lo hi : Int) (w : World) (hs : IsBdd w b O s told) (hne : (lo == hi) = false) (hw : (⟨v, lo, hi⟩ : T3).wf) (hby : byOf s.nodes ⟨v, lo, hi⟩ = none) (hcap : s.nodes.length = s.cap) :
    Calls Try.prog 67 #[.pointer (some ⟨b, 0, none⟩), .int .i64 v, .int .i64 lo, .int .i64 hi] w fun e w' => e = .panicked [{ v := overV, recovered := false }] ∧ IsBdd w' b O { s with full := true } told ∧ Keeps O w w' := by
  have hX := hs.below (w' := w.alloc (.cells #[.int .i64 v, .int .i64 lo, .int .i64 hi] 149)) (by repeat (first | exact Below.refl _ _ | assumption | refine Below.drew ?_ | refine Below.alloc ?_ (by first | omega | (simp <;> omega)) _ | refine Below.setCell ?_ (by first | omega | (simp <;> omega)) _ | refine Below.trans ?_ (Below.mono (by assumption) (by first | omega | (simp <;> omega)))))
  have HX := Lib.hid hX
  have hbO : Hid (O b) := (by obtain ⟨vn, m1, m2, c0, c1, c2, c3, c4, f, own, hm12, hnb, hm1, hm2, hO, -⟩ := hs; exact (hO b).2 (.inl rfl))
  obtain ⟨vn, m1, m2, c0, c1, c2, c3, c4, f, own, hm12, hnb, hm1, hm2, hO, hcp1, hcp2, -⟩ := hX
  have hlk : ∀ nq, (Instr.lookup 105 (.map (some m1)) (.agg #[.int .i64 v, .int .i64 lo, .int .i64 hi]) true).run Try.prog ((w.alloc (.cells #[.int .i64 v, .int .i64 lo, .int .i64 hi] 149)).drewN nq) = .ok (.tuple #[.int .i64 0, .bool false]) ((w.alloc (.cells #[.int .i64 v, .int .i64 lo, .int .i64 hi] 149)).drewN nq) := by
    intro nq
    have h := IMap.look (P := Try.prog) (T := 105) (k := 149) (e := 3) (w := (w.alloc (.cells #[.int .i64 v, .int .i64 lo, .int .i64 hi] 149)).drewN nq) (m := m1) (hm1.kept rfl) keyedBranchy (fun t ht => keyOf_branchy ht) Try.underlying105 (zeroInt _) (t := ⟨v, lo, hi⟩) hw
    rw [hby] at h
    exact h
  obtain ⟨pn, cn, rfl, hln⟩ := own_shape own
  rw [hcap] at c1
  clear own hm12 hnb hm1 hm2 hO c3 hs hby hw
  have f4 := f 4
  clear f hcap
  go_enter Try.func67, Try.ntmps67
  go_wp2_with fail
  go_quiet (fail)
  go_wp2_with fail
  go_quiet (fail)
  go_wp2_with fail
  exact ⟨rfl, rfl, (HX.out.below (below_drewN (Below.refl _ _) _)).setFull, (Keeps.of_below (below_drewN (by repeat (first | exact Below.refl _ _ | assumption | refine Below.drew ?_ | refine Below.alloc ?_ (by first | omega | (simp <;> omega)) _ | refine Below.setCell ?_ (by first | omega | (simp <;> omega)) _ | refine Below.trans ?_ (Below.mono (by assumption) (by first | omega | (simp <;> omega))))) _)).setCell hbO.out _⟩

end Go.Proofs.Ytlnkflmnjkmhkaa

/-
  A map of the call's own from keys of three integers (a struct) to integers: how it reads, a look-up, a store.
-/
import Derived.Test.YtlihbbeodclncaaLib
import Derived.Maps.Keyed
import Derived.ProofKit
namespace Go.Proofs.Ytlihbbeodclncaa
open Go.RowKit Go.Maps

theorem mlaidOut : laidOutB Try.prog = true := by kernel_rfl
theorem keyedBranchy : Keyed Try.prog 80 := Keyed.of_law (deep_law_laid mlaidOut (m := 20) (by omega) (of_decide_eq_true (by kernel_rfl)) (by kernel_rfl) (by kernel_rfl))
theorem keyedThree : Keyed Try.prog 88 := Keyed.of_law (deep_law_laid mlaidOut (m := 20) (by omega) (of_decide_eq_true (by kernel_rfl)) (by kernel_rfl) (by kernel_rfl))

/-- Three integers as a key. -/
structure T3 where
  a : Int
  b : Int
  c : Int
deriving DecidableEq

def kv3 (t : T3) : Value := .agg #[.int .i64 t.a, .int .i64 t.b, .int .i64 t.c]
def T3.wf (t : T3) : Prop := (Lit.int .i64 t.a).wf = true ∧ (Lit.int .i64 t.b).wf = true ∧ (Lit.int .i64 t.c).wf = true
theorem kv3_inj {s t : T3} (h : kv3 s = kv3 t) : s = t := by
  cases s; cases t; simpa [kv3] using h

theorem keyOf_branchy {t : T3} (h : t.wf) : ∃ l, keyOf Try.prog 80 (kv3 t) = some l := by
  obtain ⟨h1, h2, h3⟩ := h
  have e : Try.prog.keyType 80 = true := by kernel_rfl
  have c1 : Try.prog.cellsOf 80 = 3 := by kernel_rfl
  have c2 : Try.prog.cellsOf 3 = 1 := by kernel_rfl
  obtain ⟨d, hn⟩ : ∃ d, Try.prog.types.size + 1 = d + 1 + 1 := by
    have : 2 ≤ Try.prog.types.size := of_decide_eq_true (by kernel_rfl)
    exact ⟨Try.prog.types.size - 1, by omega⟩
  unfold keyOf
  rw [hn]
  simp [keyOf, kv3, Value.formed, Value.cells, Program.keyLits, Try.underlying80, Try.underlying3, e, c1, c2, h1, h2, h3]

theorem keyOf_three {t : T3} (h : t.wf) : ∃ l, keyOf Try.prog 88 (kv3 t) = some l := by
  obtain ⟨h1, h2, h3⟩ := h
  have e : Try.prog.keyType 88 = true := by kernel_rfl
  have c1 : Try.prog.cellsOf 88 = 3 := by kernel_rfl
  have c2 : Try.prog.cellsOf 3 = 1 := by kernel_rfl
  obtain ⟨d, hn⟩ : ∃ d, Try.prog.types.size + 1 = d + 1 + 1 := by
    have : 2 ≤ Try.prog.types.size := of_decide_eq_true (by kernel_rfl)
    exact ⟨Try.prog.types.size - 1, by omega⟩
  unfold keyOf
  rw [hn]
  simp [keyOf, kv3, Value.formed, Value.cells, Program.keyLits, Try.underlying88, Try.underlying3, e, c1, c2, h1, h2, h3]

/-- Block m is a map that tells f, of keys of three integers. -/
def IMap (w : World) (m : Nat) (f : T3 → Option Int) : Prop :=
  ∃ es clock, w.heap[m]? = some (.map es clock) ∧ (∀ e ∈ es.toList, ∃ t r, t.wf ∧ e.key = kv3 t ∧ e.val = .int .i64 r ∧ f t = some r) ∧ (∀ t r, f t = some r → ∃ e ∈ es.toList, e.key = kv3 t)

def upd3 (f : T3 → Option Int) (t : T3) (r : Int) : T3 → Option Int := fun s => if s = t then some r else f s

theorem IMap.empty (w : World) (m : Nat) (h : w.heap[m]? = some (.map #[] 0)) : IMap w m (fun _ => none) := ⟨#[], 0, h, by simp, by simp⟩

theorem IMap.lt {w : World} {m : Nat} {f : T3 → Option Int} (h : IMap w m f) : m < w.heap.size := by
  obtain ⟨es, clock, hb, -⟩ := h
  exact (Array.getElem?_eq_some_iff.1 hb).1

theorem IMap.kept {w w' : World} {m : Nat} {f : T3 → Option Int} (h : IMap w m f) (hb : w'.heap[m]? = w.heap[m]?) : IMap w' m f := by
  obtain ⟨es, clock, h1, h2⟩ := h
  exact ⟨es, clock, hb.trans h1, h2⟩

section
variable {P : Program} {k T e : TypeId} {w : World} {m : Nat} {f : T3 → Option Int}

theorem IMap.look (h : IMap w m f) (K : Keyed P k) (hk : ∀ t : T3, t.wf → ∃ l, keyOf P k (kv3 t) = some l) (ht : P.underlying T = some (.map k e)) (hz : (zeroValue e).run P w = .ok (.int .i64 0) w) {t : T3} (hw : t.wf) :
    (Instr.lookup T (.map (some m)) (kv3 t) true).run P w = .ok (.tuple #[.int .i64 ((f t).getD 0), .bool (f t).isSome]) w := by
  obtain ⟨es, clock, hb, h1, h2⟩ := h
  obtain ⟨kl, hkey⟩ := hk t hw
  rcases K.find w hkey es.toList (fun x hx => by obtain ⟨s, r, h3, h4, -⟩ := h1 x hx; rw [h4]; exact hk s h3) with ⟨f1, f2⟩ | ⟨j, e0, f1, f2, f3⟩
  · have hn : f t = none := by
      cases hf : f t with
      | none => rfl
      | some r => obtain ⟨x, hx, hx2⟩ := h2 t r hf; exact absurd hx2 (f2 x hx)
    simp [Instr.lookup, run_underlying ht, MapKept.run_getObj_map hb, K.check w _ hkey, f1, hz, Result.andThen, hn]
  · obtain ⟨s, r, h3, h4, h5, h6⟩ := h1 e0 (List.mem_of_getElem? f2)
    have : s = t := kv3_inj (h4.symm.trans f3)
    subst this
    simp [Instr.lookup, run_underlying ht, MapKept.run_getObj_map hb, K.check w _ hkey, f1, Result.andThen, h6, h5]

theorem IMap.store (h : IMap w m f) (K : Keyed P k) (hk : ∀ t : T3, t.wf → ∃ l, keyOf P k (kv3 t) = some l) (ht : P.underlying T = some (.map k e)) {t : T3} (hw : t.wf) (r : Int) (hf : f t = none ∨ f t = some r) :
    ∃ w', (Instr.mapUpdate T (.map (some m)) (kv3 t) (.int .i64 r)).run P w = .ok () w' ∧ IMap w' m (upd3 f t r) ∧ w.grownBy w' (some m) := by
  obtain ⟨es, clock, hb, h1, h2⟩ := h
  obtain ⟨kl, hkey⟩ := hk t hw
  have hg : ∀ o : Obj, w.grownBy (ChangeMaps.setBlock w m o) (some m) := fun o => ⟨rfl, rfl, rfl, by simp [ChangeMaps.setBlock], fun i _ hi => ChangeMaps.heap_setBlock_other hb o (fun e => hi (by rw [e]))⟩
  rcases K.find w hkey es.toList (fun x hx => by obtain ⟨s, r, h3, h4, -⟩ := h1 x hx; rw [h4]; exact hk s h3) with ⟨f1, f2⟩ | ⟨j, e0, f1, f2, f3⟩
  · have hn : f t = none := by
      cases hf : f t with
      | none => rfl
      | some r => obtain ⟨x, hx, hx2⟩ := h2 t r hf; exact absurd hx2 (f2 x hx)
    refine ⟨ChangeMaps.setBlock w m (.map (es.push ⟨kv3 t, .int .i64 r, clock⟩) (clock + 1)), ?_, ⟨_, _, ChangeMaps.heap_setBlock_same hb _, ?_, ?_⟩, hg _⟩
    · simp [Instr.mapUpdate, run_underlying ht, MapKept.run_getObj_map hb, K.check w false hkey, f1, MapKept.run_setObj_map _ hb, Result.andThen, ChangeMaps.setBlock]
    · intro x hx
      simp only [Array.toList_push, List.mem_append, List.mem_singleton] at hx
      rcases hx with hx | rfl
      · obtain ⟨s, r', h3, h4, h5, h6⟩ := h1 x hx
        refine ⟨s, r', h3, h4, h5, ?_⟩
        have : s ≠ t := fun e => by subst e; rw [hn] at h6; cases h6
        simp [upd3, this, h6]
      · exact ⟨t, r, hw, rfl, rfl, by simp [upd3]⟩
    · intro s r' hs
      simp only [Array.toList_push, List.mem_append, List.mem_singleton]
      by_cases e : s = t
      · subst e; exact ⟨_, .inr rfl, rfl⟩
      · simp [upd3, e] at hs
        obtain ⟨x, hx, hx2⟩ := h2 s r' hs
        exact ⟨x, .inl hx, hx2⟩
  · have hj : es[j]? = some e0 := by simpa using f2
    obtain ⟨s, r0, h3, h4, h5, h6⟩ := h1 e0 (List.mem_of_getElem? f2)
    have hst : s = t := kv3_inj (h4.symm.trans f3)
    subst hst
    have hr : r0 = r := by
      rcases hf with hf | hf
      · rw [hf] at h6; cases h6
      · rw [hf] at h6; exact (Option.some.inj h6).symm
    subst hr
    have hsame : es.modify j (fun e' => { e' with key := kv3 s, val := .int .i64 r0 }) = es := by
      apply Array.ext
      · simp
      · intro i hi1 hi2
        rw [Array.getElem_modify]
        split
        · rename_i hij
          subst hij
          have : es[j] = e0 := by
            have := Array.getElem?_eq_some_iff.1 hj
            exact this.2
          rw [this]
          cases e0
          simp_all
        · rfl
    have hup : upd3 f s r0 = f := by
      funext x
      unfold upd3
      split
      · rename_i e; rw [e, h6]
      · rfl
    refine ⟨ChangeMaps.setBlock w m (.map es clock), ?_, ?_, hg _⟩
    · simp [Instr.mapUpdate, run_underlying ht, MapKept.run_getObj_map hb, K.check w false hkey, f1, hj, f3, K.stays w hkey, MapKept.run_setObj_map _ hb, Result.andThen, ChangeMaps.setBlock, hsame]
    · rw [hup]
      exact ⟨es, clock, ChangeMaps.heap_setBlock_same hb _, h1, h2⟩
end

end Go.Proofs.Ytlihbbeodclncaa

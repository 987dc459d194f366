/-
  Contracts of (*Store).made: the deferred closure's two, and made's own where what it is handed returns, and where it gives up.
-/
import Derived.Test.YtlihbbeodclncaaNode2
namespace Go.Proofs.Ytlihbbeodclncaa
open Go.RowKit Go.Maps

theorem assert_over (W : World) : (Instr.typeAssert (.iface 77 (.agg #[])) 20 77 true).run Try.prog W = .ok (.tuple #[.agg #[], .bool true]) W := by kernel_rfl

set_option maxHeartbeats 800000 in
theorem catch_over (p : Addr) (x : Int) (w : World) (hc : w.cell? p = some (.int .i64 x)) (hz : w.frozen? p = false) :
    CallsD Try.prog 52 #[.pointer (some p)] (.panicking [{ v := overV, recovered := false }]) w fun e u' w' =>
      e = .returned (.tuple #[]) ∧ u' = .panicking [{ v := overV, recovered := true }] ∧ w' = (w.alloc (.cells #[] 77)).setCell p (.int .i64 0) := by
  unfold overV
  have hta := assert_over
  have hpl := (cell_there hc).1
  have hc' : ∀ o, (w.alloc o).cell? p = some (.int .i64 x) := fun o => (((Below.refl w.heap.size w).alloc (Nat.le_refl _) o).cell hpl).trans hc
  have hz' : ∀ o, (w.alloc o).frozen? p = false := fun o => (((Below.refl w.heap.size w).alloc (Nat.le_refl _) o).frozen hpl).trans hz
  clear hc hz hpl
  refine callsD_of_wpS Try.func52 rfl fun c₀ cs hu => ?_
  simp only [Try.ntmps52, List.size_toArray, List.length_cons, List.length_nil, Nat.reduceAdd, Nat.reduceSub, Array.replicate_succ, Array.replicate_zero, List.push_toArray, List.append_toArray, List.nil_append, List.cons_append]
  apply wpS_seq
  apply wpS_region
  simp [wpOpsS, go_sem, recoverD, hu, Exit.thenS]
  refine wpS_of_wp ?_
  go_wp2
  simp [bodyPostS, results, Try.results52, go_sem, hu]

set_option maxHeartbeats 800000 in
theorem catch_idle (p : Addr) (w : World) :
    CallsD Try.prog 52 #[.pointer (some p)] .returning w fun e u' w' => e = .returned (.tuple #[]) ∧ u' = .returning ∧ w' = w := by
  refine callsD_of_wpS Try.func52 rfl fun c₀ cs hu => ?_
  simp only [Try.ntmps52, List.size_toArray, List.length_cons, List.length_nil, Nat.reduceAdd, Nat.reduceSub, Array.replicate_succ, Array.replicate_zero, List.push_toArray, List.append_toArray, List.nil_append, List.cons_append]
  apply wpS_seq
  apply wpS_region
  simp [wpOpsS, go_sem, recoverD, hu, Exit.thenS]
  refine wpS_of_wp ?_
  go_wp2
  cases c₀
  simp_all [bodyPostS, results, Try.results52]

/-- What a call that made something has done to the store at b: what is said of it is Φ. -/
def Made (b : Nat) (O : Nat → Prop) (w : World) (Φ : BS → (T3 → Option Int) → Prop) (w' : World) : Prop :=
  ∃ O' s' told', IsBdd w' b O' s' told' ∧ Ext O O' w w' ∧ Φ s' told'

theorem run_makeFunc (fn : Fn) (first cap : Array Value) (w : World) : (Instr.makeFunc fn first cap).run Try.prog w = .ok (.func fn first cap) w := rfl

theorem Made.box {b : Nat} {O : Nat → Prop} {w w' : World} {o : Obj} {Φ : BS → (T3 → Option Int) → Prop} (hlt : ∀ k, O k → k < w.heap.size) (h : Made b O (w.alloc o) Φ w') :
    w.heap.size < w'.heap.size ∧ (∀ j, w'.cell? ⟨w.heap.size, j, none⟩ = (w.alloc o).cell? ⟨w.heap.size, j, none⟩) ∧ (∀ j, w'.frozen? ⟨w.heap.size, j, none⟩ = (w.alloc o).frozen? ⟨w.heap.size, j, none⟩) ∧
      ∀ w'', (∀ k, k < w'.heap.size → k ≠ w.heap.size → w''.heap[k]? = w'.heap[k]?) → w''.os = w'.os → w''.tape = w'.tape → w''.output = w'.output → w'.heap.size ≤ w''.heap.size → Made b O w Φ w'' := by
  obtain ⟨O', s', told', h1, h2, h3⟩ := h
  have hs : (w.alloc o).heap.size = w.heap.size + 1 := by simp
  have hO : ¬ O w.heap.size := fun h => by have := hlt _ h; omega
  have hc := fun j => h2.cell (p := ⟨w.heap.size, j, none⟩) (by show w.heap.size < (w.alloc o).heap.size; omega) hO
  refine ⟨by have := h2.1.size; omega, fun j => (hc j).1, fun j => (hc j).2.1, fun w'' e1 e2 e3 e4 e5 => ⟨O', s', told', h1.kept fun k hk => e1 k (h1.lt k hk) (fun e => (hc 0).2.2 (by show O' w.heap.size; rw [← e]; exact hk)), ⟨⟨?_, ?_, ?_, ?_, fun k hk hOk => ?_⟩, fun k hk => ?_⟩, h3⟩⟩
  · exact e2.trans h2.1.os
  · exact e3.trans h2.1.tape
  · exact e4.trans h2.1.output
  · have := h2.1.size; omega
  · rw [e1 k (by have := h2.1.size; omega) (by omega), h2.1.block k (by omega) hOk]
    exact Below.heap_alloc w o k hk
  · rcases h2.2 k hk with h | h
    · exact .inl h
    · exact .inr (by omega)

set_option maxHeartbeats 800000 in
theorem made_ret (b : Nat) (O : Nat → Prop) (s : BS) (told : T3 → Option Int) (f : Nat) (fst cp : Array Value) (r : Int) (Φ : BS → (T3 → Option Int) → Prop) (w : World) (hs : IsBdd w b O s told) (hfull : s.full = false)
    (hcall : ∀ (av : Array Value) (W : World), (callFunc f av).run Try.prog W = .ok (.enter f av) W)
    (hf : Calls Try.prog f (fst ++ cp) (w.alloc (.cells #[.int .i64 0] 3)) fun e w' => e = .returned (.int .i64 r) ∧ Made b O (w.alloc (.cells #[.int .i64 0] 3)) Φ w') :
    Calls Try.prog 26 #[.pointer (some ⟨b, 0, none⟩), .func (.func f) fst cp] w fun e w' => e = .returned (.int .i64 r) ∧ Made b O w Φ w' := by
  have hmf := run_makeFunc
  have HS := Lib.hid hs
  have HF := Lib.hid hf; clear hf
  obtain ⟨vn, m1, m2, c0, c1, c2, c3, c4, fz, own, hm12, hnb, hm1, hm2, hO, hcp1, hcp2, -⟩ := hs
  rw [hfull] at c4
  clear c1 c2 c3 fz own hm12 hnb hm1 hm2 hO hfull
  have hcap : ((s.cap : Int) == 0) = false := by rw [beq_eq_false_iff_ne]; omega
  have hbl := (cell_there c0).1
  have c0' : ∀ o, (w.alloc o).cell? ⟨b, 0, none⟩ = some (.int .i64 (s.cap : Int)) := fun o => (World.cell?_alloc_lt w o ⟨b, 0, none⟩ hbl).trans c0
  have c4' : ∀ o, (w.alloc o).cell? ⟨b, 4, none⟩ = some (.bool false) := fun o => (World.cell?_alloc_lt w o ⟨b, 4, none⟩ hbl).trans c4
  clear c0 c4
  have hlt := HS.out.lt
  go_enter_defers Try.func26, Try.ntmps26
  go_wp2
  refine HF.out.mono ?_
  rintro e w1 ⟨rfl, hm⟩
  obtain ⟨q1, q2, q3, q4⟩ := hm.box hlt
  have r0 : w1.cell? ⟨w.heap.size, 0, none⟩ = some (.int .i64 0) := (q2 0).trans (by simp [go_sem])
  have r1 : w1.frozen? ⟨w.heap.size, 0, none⟩ = false := (q3 0).trans (by simp [go_sem])
  have Q4 := Lib.hid q4
  clear q2 q3 q4 hm c0' c4' hmf hcall
  go_wp2
  have r2 : (w1.setCell ⟨w.heap.size, 0, none⟩ (.int .i64 r)).cell? ⟨w.heap.size, 0, none⟩ = some (.int .i64 r) := World.cell?_setCell_same _ _ _ r0
  have HM : Made b O w Φ (w1.setCell ⟨w.heap.size, 0, none⟩ (.int .i64 r)) := Q4.out _ (fun k _ hk => Below.heap_setCell w1 ⟨w.heap.size, 0, none⟩ _ k hk) rfl rfl rfl (by simp [World.setCell])
  refine leaves_cons (f := 52) (args := #[.pointer (some ⟨w.heap.size, 0, none⟩)]) (by simp) (by simp [go_sem]) ?_
  refine (catch_idle ⟨w.heap.size, 0, none⟩ _).mono ?_
  rintro e u' w'' ⟨rfl, rfl, rfl⟩
  simp [Leaves, settle, results, Try.results26, go_sem, r2]
  exact HM

theorem Made.mono {b : Nat} {O : Nat → Prop} {w w' : World} {Φ Ψ : BS → (T3 → Option Int) → Prop} (h : Made b O w Φ w') (hi : ∀ s t, Φ s t → Ψ s t) : Made b O w Ψ w' := by
  obtain ⟨O', s', t', h1, h2, h3⟩ := h
  exact ⟨O', s', t', h1, h2, hi _ _ h3⟩

set_option maxHeartbeats 800000 in
theorem made_over (b : Nat) (O : Nat → Prop) (s : BS) (told : T3 → Option Int) (f : Nat) (fst cp : Array Value) (Φ : BS → (T3 → Option Int) → Prop) (w : World) (hs : IsBdd w b O s told) (hfull : s.full = false)
    (hcall : ∀ (av : Array Value) (W : World), (callFunc f av).run Try.prog W = .ok (.enter f av) W)
    (hf : Calls Try.prog f (fst ++ cp) (w.alloc (.cells #[.int .i64 0] 3)) fun e w' => e = .panicked [{ v := overV, recovered := false }] ∧ Made b O (w.alloc (.cells #[.int .i64 0] 3)) Φ w') :
    Calls Try.prog 26 #[.pointer (some ⟨b, 0, none⟩), .func (.func f) fst cp] w fun e w' => e = .returned (.int .i64 0) ∧ Made b O w Φ w' := by
  have hmf := run_makeFunc
  have HS := Lib.hid hs
  have HF := Lib.hid hf; clear hf
  obtain ⟨vn, m1, m2, c0, c1, c2, c3, c4, fz, own, hm12, hnb, hm1, hm2, hO, hcp1, hcp2, -⟩ := hs
  rw [hfull] at c4
  clear c1 c2 c3 fz own hm12 hnb hm1 hm2 hO hfull
  have hcap : ((s.cap : Int) == 0) = false := by rw [beq_eq_false_iff_ne]; omega
  have hbl := (cell_there c0).1
  have c0' : ∀ o, (w.alloc o).cell? ⟨b, 0, none⟩ = some (.int .i64 (s.cap : Int)) := fun o => (World.cell?_alloc_lt w o ⟨b, 0, none⟩ hbl).trans c0
  have c4' : ∀ o, (w.alloc o).cell? ⟨b, 4, none⟩ = some (.bool false) := fun o => (World.cell?_alloc_lt w o ⟨b, 4, none⟩ hbl).trans c4
  clear c0 c4
  have hlt := HS.out.lt
  go_enter_defers Try.func26, Try.ntmps26
  go_wp2
  refine HF.out.mono ?_
  rintro e w1 ⟨rfl, hm⟩
  obtain ⟨q1, q2, q3, q4⟩ := hm.box hlt
  have r0 : w1.cell? ⟨w.heap.size, 0, none⟩ = some (.int .i64 0) := (q2 0).trans (by simp [go_sem])
  have r1 : w1.frozen? ⟨w.heap.size, 0, none⟩ = false := (q3 0).trans (by simp [go_sem])
  have Q4 := Lib.hid q4
  clear q2 q3 q4 hm c0' c4' hmf hcall
  go_wp2
  have e1 : (w1.alloc (.cells #[] 77)).cell? ⟨w.heap.size, 0, none⟩ = some (.int .i64 0) := (World.cell?_alloc_lt w1 _ ⟨w.heap.size, 0, none⟩ q1).trans r0
  have r2 : ((w1.alloc (.cells #[] 77)).setCell ⟨w.heap.size, 0, none⟩ (.int .i64 0)).cell? ⟨w.heap.size, 0, none⟩ = some (.int .i64 0) := World.cell?_setCell_same _ _ _ e1
  have HM : Made b O w Φ ((w1.alloc (.cells #[] 77)).setCell ⟨w.heap.size, 0, none⟩ (.int .i64 0)) :=
    Q4.out _ (fun k hk1 hk => (Below.heap_setCell (w1.alloc (.cells #[] 77)) ⟨w.heap.size, 0, none⟩ _ k hk).trans (Below.heap_alloc w1 _ k hk1)) rfl rfl rfl (by simp [World.setCell])
  refine leaves_cons (f := 52) (args := #[.pointer (some ⟨w.heap.size, 0, none⟩)]) (by simp) (by simp [go_sem]) ?_
  refine (catch_over ⟨w.heap.size, 0, none⟩ 0 _ r0 r1).mono ?_
  rintro e u' w'' ⟨rfl, rfl, rfl⟩
  simp [Leaves, settle, results, Try.results26, go_sem, r2]
  exact HM

end Go.Proofs.Ytlihbbeodclncaa

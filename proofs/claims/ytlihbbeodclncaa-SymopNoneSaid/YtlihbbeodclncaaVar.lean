/-
  Contracts of (*Store).node in one, of made at a full store, of Var at a store that is there.
-/
import Derived.Test.YtlihbbeodclncaaMade
namespace Go.Proofs.Ytlihbbeodclncaa
open Go.RowKit Go.Maps

/-- The node of a variable, a lo and a hi; none: the store is full. -/
def node1 (s : BS) (t : T3) : BS × Option Int :=
  if t.b = t.c then (s, some t.b) else
  match byOf s.nodes t with
  | some i => (s, some i)
  | none => if s.nodes.length = s.cap then ({ s with full := true }, none) else ({ s with nodes := s.nodes ++ [t] }, some ((s.nodes.length + 2 : Nat) : Int))

/-- How a call ends that makes a node, or gives up. -/
def Gives (b : Nat) (O : Nat → Prop) (told : T3 → Option Int) (w : World) (r : BS × Option Int) (e : Ending) (w' : World) : Prop :=
  (∃ i, r.2 = some i ∧ e = .returned (.int .i64 i) ∧ Made b O w (fun s' t' => s' = r.1 ∧ t' = told) w') ∨
  (r.2 = none ∧ e = .panicked [{ v := overV, recovered := false }] ∧ Made b O w (fun s' t' => s' = r.1 ∧ t' = told) w')

theorem node_any (b : Nat) (O : Nat → Prop) (s : BS) (told : T3 → Option Int) (v lo hi : Int) (w : World) (hs : IsBdd w b O s told) (hw : (⟨v, lo, hi⟩ : T3).wf) :
    Calls Try.prog 28 #[.pointer (some ⟨b, 0, none⟩), .int .i64 v, .int .i64 lo, .int .i64 hi] w (Gives b O told w (node1 s ⟨v, lo, hi⟩)) := by
  have hcap : s.nodes.length ≤ s.cap := by
    obtain ⟨vn, m1, m2, c0, c1, c2, c3, c4, fz, own, hm12, hnb, hm1, hm2, hO, hcp1, hcp2, hcp3, -⟩ := hs
    exact hcp3
  by_cases h1 : lo = hi
  · subst h1
    have e : node1 s ⟨v, lo, lo⟩ = (s, some lo) := by simp [node1]
    rw [e]
    exact (node_same b v lo w).mono fun e w' ⟨h1, h2⟩ => .inl ⟨lo, rfl, h1, O, s, told, hs.below h2, Ext.of_below h2, rfl, rfl⟩
  · have h1' : (lo == hi) = false := by rw [beq_eq_false_iff_ne]; exact h1
    cases hby : byOf s.nodes ⟨v, lo, hi⟩ with
    | some i =>
      have e : node1 s ⟨v, lo, hi⟩ = (s, some i) := by simp [node1, h1, hby]
      rw [e]
      exact (node_found b O s told v lo hi i w hs h1' hw hby).mono fun e w' ⟨h1, h2⟩ => .inl ⟨i, rfl, h1, O, s, told, hs.below h2, Ext.of_below h2, rfl, rfl⟩
    | none =>
      by_cases hc : s.nodes.length = s.cap
      · have e : node1 s ⟨v, lo, hi⟩ = ({ s with full := true }, none) := by simp [node1, h1, hby, hc]
        rw [e]
        exact (node_over b O s told v lo hi w hs h1' hw hby hc).mono fun e w' ⟨h1, h2, h3⟩ => .inr ⟨rfl, h1, O, _, told, h2, ⟨h3, fun _ h => .inl h⟩, rfl, rfl⟩
      · have e : node1 s ⟨v, lo, hi⟩ = ({ s with nodes := s.nodes ++ [⟨v, lo, hi⟩] }, some ((s.nodes.length + 2 : Nat) : Int)) := by simp [node1, h1, hby, hc]
        rw [e]
        exact (node_new b O s told v lo hi w hs h1' hw hby (by omega)).mono fun e w' ⟨h1, O', h2, h3⟩ => .inl ⟨_, rfl, h1, O', _, told, h2, h3, rfl, rfl⟩

/-- A call of made: what the call that it is handed gives. -/
theorem made_any (b : Nat) (O : Nat → Prop) (s : BS) (told : T3 → Option Int) (f : Nat) (fst cp : Array Value) (r : BS × Option Int) (told' : T3 → Option Int) (w : World) (hs : IsBdd w b O s told) (hfull : s.full = false)
    (hcall : ∀ (av : Array Value) (W : World), (callFunc f av).run Try.prog W = .ok (.enter f av) W)
    (hf : Calls Try.prog f (fst ++ cp) (w.alloc (.cells #[.int .i64 0] 3)) (Gives b O told' (w.alloc (.cells #[.int .i64 0] 3)) r)) :
    Calls Try.prog 26 #[.pointer (some ⟨b, 0, none⟩), .func (.func f) fst cp] w fun e w' => e = .returned (.int .i64 (r.2.getD 0)) ∧ Made b O w (fun s' t' => s' = r.1 ∧ t' = told') w' := by
  obtain ⟨s1, r2⟩ := r
  cases r2 with
  | some i =>
    refine made_ret b O s told f fst cp i _ w hs hfull hcall (hf.mono fun e w' h => ?_)
    rcases h with ⟨j, h1, h2, h3⟩ | ⟨h1, h2, h3⟩
    · cases h1; exact ⟨h2, h3⟩
    · cases h1
  | none =>
    refine made_over b O s told f fst cp _ w hs hfull hcall (hf.mono fun e w' h => ?_)
    rcases h with ⟨j, h1, h2, h3⟩ | ⟨h1, h2, h3⟩
    · cases h1
    · exact ⟨h2, h3⟩

set_option maxHeartbeats 800000 in
theorem made_full (b : Nat) (O : Nat → Prop) (s : BS) (told : T3 → Option Int) (fv : Value) (w : World) (hs : IsBdd w b O s told) (hfull : s.full = true) :
    Calls Try.prog 26 #[.pointer (some ⟨b, 0, none⟩), fv] w (RetInt w 0) := by
  obtain ⟨vn, m1, m2, c0, c1, c2, c3, c4, fz, own, hm12, hnb, hm1, hm2, hO, hcp1, hcp2, -⟩ := hs
  rw [hfull] at c4
  clear c1 c2 c3 fz own hm12 hnb hm1 hm2 hO hfull
  have hcap : ((s.cap : Int) == 0) = false := by rw [beq_eq_false_iff_ne]; omega
  have hbl := (cell_there c0).1
  have c0' : ∀ o, (w.alloc o).cell? ⟨b, 0, none⟩ = some (.int .i64 (s.cap : Int)) := fun o => (World.cell?_alloc_lt w o ⟨b, 0, none⟩ hbl).trans c0
  have c4' : ∀ o, (w.alloc o).cell? ⟨b, 4, none⟩ = some (.bool true) := fun o => (World.cell?_alloc_lt w o ⟨b, 4, none⟩ hbl).trans c4
  clear c0 c4
  go_enter Try.func26, Try.ntmps26
  go_wp2
  exact bodyPost_ret (v := .int .i64 0) (by simp [results, Try.results26, go_sem]) rfl ⟨rfl, (by repeat (first | exact Below.refl _ _ | assumption | refine Below.drew ?_ | refine Below.alloc ?_ (by first | omega | (simp <;> omega)) _ | refine Below.setCell ?_ (by first | omega | (simp <;> omega)) _ | refine Below.trans ?_ (Below.mono (by assumption) (by first | omega | (simp <;> omega)))))⟩

set_option maxHeartbeats 800000 in
theorem var1_any (b : Nat) (O : Nat → Prop) (s : BS) (told : T3 → Option Int) (p q : Addr) (v : Int) (w : World) (hs : IsBdd w b O s told) (hw : (⟨v, 0, 1⟩ : T3).wf) (hp : w.cell? p = some (.pointer (some ⟨b, 0, none⟩))) (hq : w.cell? q = some (.int .i64 v)) :
    Calls Try.prog 27 #[.pointer (some p), .pointer (some q)] w (Gives b O told w (node1 s ⟨v, 0, 1⟩)) := by
  have HN := Lib.hid (node_any b O s told v 0 1 w hs hw)
  clear hs hw
  go_enter Try.func27, Try.ntmps27
  go_wp2_with fail
  refine HN.out.mono ?_
  rintro e w' (⟨i, h1, rfl, h3⟩ | ⟨h1, rfl, h3⟩)
  · have H1 := Lib.hid h1
    have H3 := Lib.hid h3
    clear h1 h3
    go_wp2_with fail
    go_ret
    exact .inl ⟨i, H1.out, rfl, H3.out⟩
  · have H1 := Lib.hid h1
    have H3 := Lib.hid h3
    clear h1 h3
    go_wp2_with fail
    exact ⟨rfl, .inr ⟨H1.out, rfl, H3.out⟩⟩

/-- Var of a store. -/
def varF (s : BS) (v : Int) : BS × Int :=
  if s.full ∨ v < 0 ∨ 64 ≤ v then (s, 0) else ((node1 s ⟨v, 0, 1⟩).1, (node1 s ⟨v, 0, 1⟩).2.getD 0)

theorem call_var1 (av : Array Value) (W : World) : (callFunc 27 av).run Try.prog W = .ok (.enter 27 av) W := by kernel_rfl

set_option maxHeartbeats 800000 in
theorem var_any (b : Nat) (O : Nat → Prop) (s : BS) (told : T3 → Option Int) (v : Int) (w : World) (hs : IsBdd w b O s told) :
    Calls Try.prog 7 #[.pointer (some ⟨b, 0, none⟩), .int .i64 v] w fun e w' => e = .returned (.int .i64 (varF s v).2) ∧ Made b O w (fun s' t' => s' = (varF s v).1 ∧ t' = told) w' := by
  have HS := Lib.hid hs
  have hmf := run_makeFunc
  have hB : Below w.heap.size w ((w.alloc (.cells #[.pointer (some ⟨b, 0, none⟩)] 30)).alloc (.cells #[.int .i64 v] 3)) := (by repeat (first | exact Below.refl _ _ | assumption | refine Below.drew ?_ | refine Below.alloc ?_ (by first | omega | (simp <;> omega)) _ | refine Below.setCell ?_ (by first | omega | (simp <;> omega)) _ | refine Below.trans ?_ (Below.mono (by assumption) (by first | omega | (simp <;> omega)))))
  have HB := Lib.hid hB; clear hB
  by_cases hv : v < 0 ∨ 64 ≤ v
  · have HE : Hid (varF s v = (s, 0)) := by show _ = _; simp [varF, hv]
    clear hs
    rcases hv with hv | hv
    all_goals
      go_enter Try.func7, Try.ntmps7
      go_wp2_with fail
      go_ret
      exact ⟨by rw [HE.out]; rfl, O, s, told, HS.out.below HB.out, Ext.of_below HB.out, by rw [HE.out], rfl⟩
  · have hv0 : 0 ≤ v := by omega
    have hv1 : v < 64 := by omega
    clear hv
    by_cases hf : s.full = true
    · have HE : Hid (varF s v = (s, 0)) := by show _ = _; simp [varF, hf]
      have HM : Hid (∀ fv, Calls Try.prog 26 #[.pointer (some ⟨b, 0, none⟩), fv] ((w.alloc (.cells #[.pointer (some ⟨b, 0, none⟩)] 30)).alloc (.cells #[.int .i64 v] 3)) (RetInt ((w.alloc (.cells #[.pointer (some ⟨b, 0, none⟩)] 30)).alloc (.cells #[.int .i64 v] 3)) 0)) := fun fv => made_full b O s told fv _ (HS.out.below HB.out) hf
      clear hs hf
      go_enter Try.func7, Try.ntmps7
      go_wp2_with fail
      refine (HM.out _).mono ?_
      rintro e w1 ⟨rfl, hb⟩
      go_wp2_with fail
      go_ret
      have hB2 : Below w.heap.size w w1 := HB.out.trans (hb.mono HB.out.size)
      exact ⟨by rw [HE.out]; rfl, O, s, told, HS.out.below hB2, Ext.of_below hB2, by rw [HE.out], rfl⟩
    · have hf' : s.full = false := by simpa using hf
      have HE : Hid (varF s v = ((node1 s ⟨v, 0, 1⟩).1, (node1 s ⟨v, 0, 1⟩).2.getD 0)) := by
        show _ = _
        unfold varF
        rw [if_neg (by rw [hf']; simp; omega)]
      have hW : (⟨v, 0, 1⟩ : T3).wf := ⟨WalkArith.wf_i64 (n := v) (by omega), WalkArith.wf_i64 (n := 0) (by omega), WalkArith.wf_i64 (n := 1) (by omega)⟩
      have HM : Hid (Calls Try.prog 26 #[.pointer (some ⟨b, 0, none⟩), .func (.func 27) #[] #[.pointer (some ⟨w.heap.size, 0, none⟩), .pointer (some ⟨w.heap.size + 1, 0, none⟩)]] ((w.alloc (.cells #[.pointer (some ⟨b, 0, none⟩)] 30)).alloc (.cells #[.int .i64 v] 3))
          fun e w' => e = .returned (.int .i64 ((node1 s ⟨v, 0, 1⟩).2.getD 0)) ∧ Made b O ((w.alloc (.cells #[.pointer (some ⟨b, 0, none⟩)] 30)).alloc (.cells #[.int .i64 v] 3)) (fun s' t' => s' = (node1 s ⟨v, 0, 1⟩).1 ∧ t' = told) w') := by
        refine made_any b O s told 27 #[] #[.pointer (some ⟨w.heap.size, 0, none⟩), .pointer (some ⟨w.heap.size + 1, 0, none⟩)] _ told _ (HS.out.below HB.out) hf' call_var1 ?_
        refine var1_any b O s told _ _ v _ ((HS.out.below HB.out).below (by repeat (first | exact Below.refl _ _ | assumption | refine Below.drew ?_ | refine Below.alloc ?_ (by first | omega | (simp <;> omega)) _ | refine Below.setCell ?_ (by first | omega | (simp <;> omega)) _ | refine Below.trans ?_ (Below.mono (by assumption) (by first | omega | (simp <;> omega)))))) hW ?_ ?_
        · simp [go_sem]
        · simp [go_sem]
      clear hs hf hf' hW
      go_enter Try.func7, Try.ntmps7
      go_wp2_with fail
      refine HM.out.mono ?_
      rintro e w1 ⟨rfl, O', s', told', h1, h2, h3, h4⟩
      have H1 := Lib.hid h1
      have H3 := Lib.hid h3
      have H4 := Lib.hid h4
      clear h1 h3 h4
      go_wp2_with fail
      go_ret
      exact ⟨by rw [HE.out]; rfl, O', s', told', H1.out, (Ext.of_below HB.out).trans h2, by rw [H3.out, HE.out], H4.out⟩

end Go.Proofs.Ytlihbbeodclncaa

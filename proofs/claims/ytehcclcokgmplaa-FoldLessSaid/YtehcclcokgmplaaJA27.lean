/-
  Lemmas, joined: OpenT, OpenP.
-/
import Derived.Test.YtehcclcokgmplaaJA26
import Derived.Test.YtehcclcokgmplaaJA01
/-
  Parameters of tables opened: entries, numbers, runs.
-/
namespace Go.Proofs.Ytehcclcokgmplaa
open Go.ChangeShapes Go.WideShapes Go.ChangeAt Go.RowKit Go.Deep

section
variable {H : Type} {enc : TypeId × Value → H} {w : World}

set_option maxRecDepth 100000 in
theorem nAt_of_trod {m b o : Nat} {c0 c1 : Value} {y : DataW H × List MemPlace} (hc : CellsAt w b o [c0, c1]) (h : DataW.trod enc Try.prog w 0 (fun _ => true) true m 59 [c0, c1] = some y) : ∃ n, NAt w b o n := by
  obtain ⟨n0, y0, h0⟩ := trod_field Try.underlying59 h 0 _ rfl 57 0 1 rfl rfl (by kernel_rfl)
  obtain ⟨n1, y1, h1⟩ := trod_field Try.underlying59 h 1 _ rfl 57 1 1 rfl rfl (by kernel_rfl)
  obtain ⟨v0, e0, -, b0⟩ := DataW.trod_int Try.underlying57 h0
  obtain ⟨v1, e1, -, b1⟩ := DataW.trod_int Try.underlying57 h1
  simp only [List.take, List.drop] at e0 e1
  obtain ⟨k0, rfl, l0⟩ := u64_of_wf b0
  obtain ⟨k1, rfl, l1⟩ := u64_of_wf b1
  simp only [List.cons.injEq, and_true] at e0 e1
  subst e0 e1
  have hB : B = 18446744073709551616 := rfl
  rw [← hB] at l0 l1
  have hB0 : 0 < B := by decide
  have e1 : (k0 * B + k1) / B = k0 := by
    rw [Nat.mul_comm, Nat.mul_add_div hB0, Nat.div_eq_of_lt l1, Nat.add_zero]
  have e2 : (k0 * B + k1) % B = k1 := by
    rw [Nat.mul_comm, Nat.mul_add_mod, Nat.mod_eq_of_lt l1]
  refine ⟨k0 * B + k1, ?_, ?_, ?_⟩
  · have : (k0 + 1) * B ≤ B * B := Nat.mul_le_mul_right _ l0
    rw [Nat.succ_mul] at this
    omega
  · rw [e1]; exact hc 0 _ rfl
  · rw [e2]; exact hc 1 _ rfl
set_option maxRecDepth 100000 in
theorem pAt_of_trod {m b o : Nat} {c0 c1 c2 c3 : Value} {y : DataW H × List MemPlace} (hc : CellsAt w b o [c0, c1, c2, c3]) (h : DataW.trod enc Try.prog w 0 (fun _ => true) true m 157 [c0, c1, c2, c3] = some y) : ∃ n, PAt w b o n := by
  obtain ⟨n0, y0, h0⟩ := trod_field Try.underlying157 h 0 _ rfl 59 0 2 rfl rfl (by kernel_rfl)
  obtain ⟨n1, y1, h1⟩ := trod_field Try.underlying157 h 1 _ rfl 59 2 2 rfl rfl (by kernel_rfl)
  simp only [List.take, List.drop] at h0 h1
  obtain ⟨v, hv⟩ := nAt_of_trod (b := b) (o := o) (fun i u hi => hc i u (by
    match i, hi with
    | 0, hi => exact hi
    | 1, hi => exact hi)) h0
  obtain ⟨k, hk⟩ := nAt_of_trod (b := b) (o := o + 2) (fun i u hi => by
    rw [Nat.add_assoc]
    refine hc (2 + i) u ?_
    match i, hi with
    | 0, hi => exact hi
    | 1, hi => exact hi) h1
  exact ⟨⟨v, k⟩, hv, hk⟩
end
end Go.Proofs.Ytehcclcokgmplaa

/-
  Parameters opened: codes, instructions, programs.
-/
namespace Go.Proofs.Ytehcclcokgmplaa
open Go.ChangeShapes Go.WideShapes Go.ChangeAt Go.RowKit Go.Deep

section
variable {H : Type} {enc : TypeId × Value → H} {w : World}

/-- The cells from a place on. -/
theorem CellsAt.from {b o k : Nat} {cs : List Value} (h : CellsAt w b o cs) : CellsAt w b (o + k) (cs.drop k) := fun i v hi => by
  rw [Nat.add_assoc]; exact h (k + i) v (by rwa [List.getElem?_drop] at hi)
theorem CellsAt.first {b o k : Nat} {cs : List Value} (h : CellsAt w b o cs) : CellsAt w b o (cs.take k) := fun i v hi => h i v (by
  rw [List.getElem?_take] at hi
  split at hi
  · exact hi
  · cases hi)
/-- A cell that holds a slice, opened. -/
theorem sl_of_trod {α : Type} {At : World → Nat → Nat → α → Prop} {sz : Nat} {t e : TypeId} {m b o : Nat} {c0 : Value} {y : DataW H × List MemPlace} (d : α) (hc : CellsAt w b o [c0]) (ht : Try.prog.underlying t = some (.slice e)) (hce : Try.prog.cellsOf e = sz) (hc0 : 0 < sz)
    (hel : ∀ (m b o : Nat) (cs : List Value) (y : DataW H × List MemPlace), cs.length = sz → CellsAt w b o cs → DataW.trod enc Try.prog w 0 (fun _ => true) true m e cs = some y → ∃ x, At w b o x)
    (h : DataW.trod enc Try.prog w 0 (fun _ => true) true m t [c0] = some y) : ∃ l, SlAt (RowAt sz At) w b o l := by
  obtain ⟨l, hl⟩ := open_rowAt d ht hce hc0 hel h
  obtain ⟨pa, cap, rfl, -⟩ := hl.shape
  exact ⟨l, _, _, _, hc 0 _ rfl, hl⟩

set_option maxRecDepth 100000 in
theorem i_of_trod {m b o : Nat} {cs : List Value} {y : DataW H × List MemPlace} (hl : cs.length = 1) (hc : CellsAt w b o cs) (h : DataW.trod enc Try.prog w 0 (fun _ => true) true m 3 cs = some y) : ∃ n, IAt w b o n := by
  obtain ⟨k, rfl, -, -⟩ := DataW.trod_int Try.underlying3 h
  exact ⟨k, hc 0 _ rfl⟩
set_option maxRecDepth 100000 in
theorem u_of_trod {m b o : Nat} {cs : List Value} {y : DataW H × List MemPlace} (hl : cs.length = 1) (hc : CellsAt w b o cs) (h : DataW.trod enc Try.prog w 0 (fun _ => true) true m 5 cs = some y) : ∃ n, UAt w b o n := by
  obtain ⟨k, rfl, -, -⟩ := DataW.trod_int Try.underlying5 h
  exact ⟨k, hc 0 _ rfl⟩
set_option maxRecDepth 100000 in
theorem nd_of_trod {m b o : Nat} {cs : List Value} {y : DataW H × List MemPlace} (hl : cs.length = 6) (hc : CellsAt w b o cs) (h : DataW.trod enc Try.prog w 0 (fun _ => true) true m 61 cs = some y) : ∃ n, NdAt w b o n := by
  match cs, hl with
  | [c0, c1, c2, c3, c4, c5], _ =>
    obtain ⟨n0, y0, h0⟩ := trod_field Try.underlying61 h 0 _ rfl 5 0 1 rfl rfl (by kernel_rfl)
    obtain ⟨n1, y1, h1⟩ := trod_field Try.underlying61 h 1 _ rfl 3 1 1 rfl rfl (by kernel_rfl)
    obtain ⟨n2, y2, h2⟩ := trod_field Try.underlying61 h 2 _ rfl 3 2 1 rfl rfl (by kernel_rfl)
    obtain ⟨n3, y3, h3⟩ := trod_field Try.underlying61 h 3 _ rfl 3 3 1 rfl rfl (by kernel_rfl)
    obtain ⟨n4, y4, h4⟩ := trod_field Try.underlying61 h 4 _ rfl 59 4 2 rfl rfl (by kernel_rfl)
    obtain ⟨k0, e0, -, -⟩ := DataW.trod_int Try.underlying5 h0
    obtain ⟨k1, e1, -, -⟩ := DataW.trod_int Try.underlying3 h1
    obtain ⟨k2, e2, -, -⟩ := DataW.trod_int Try.underlying3 h2
    obtain ⟨k3, e3, -, -⟩ := DataW.trod_int Try.underlying3 h3
    simp only [List.take, List.drop] at e0 e1 e2 e3 h4
    simp only [List.cons.injEq, and_true] at e0 e1 e2 e3
    subst e0 e1 e2 e3
    obtain ⟨v, hv⟩ := nAt_of_trod (b := b) (o := o + 4) (hc.from (k := 4)) h4
    exact ⟨⟨k0, k1, k2, k3, v⟩, hc 0 _ rfl, hc 1 _ rfl, hc 2 _ rfl, hc 3 _ rfl, hv⟩
set_option maxRecDepth 100000 in
theorem code_of_trod {m b o : Nat} {cs : List Value} {y : DataW H × List MemPlace} (hl : cs.length = 1) (hc : CellsAt w b o cs) (h : DataW.trod enc Try.prog w 0 (fun _ => true) true m 35 cs = some y) : ∃ n, SlAt CRow w b o n := by
  match cs, hl with
  | [c0], _ => exact sl_of_trod ⟨0, 0, 0, 0, 0⟩ hc Try.underlying35 (by kernel_rfl : _ = 6) (by decide) (fun m b o cs y h1 h2 h3 => nd_of_trod h1 h2 h3) h
set_option maxRecDepth 100000 in
theorem ist_of_trod {m b o : Nat} {cs : List Value} {y : DataW H × List MemPlace} (hl : cs.length = 5) (hc : CellsAt w b o cs) (h : DataW.trod enc Try.prog w 0 (fun _ => true) true m 67 cs = some y) : ∃ n, IstAt w b o n := by
  match cs, hl with
  | [c0, c1, c2, c3, c4], _ =>
    obtain ⟨n0, y0, h0⟩ := trod_field Try.underlying67 h 0 _ rfl 5 0 1 rfl rfl (by kernel_rfl)
    obtain ⟨n1, y1, h1⟩ := trod_field Try.underlying67 h 1 _ rfl 3 1 1 rfl rfl (by kernel_rfl)
    obtain ⟨n2, y2, h2⟩ := trod_field Try.underlying67 h 2 _ rfl 3 2 1 rfl rfl (by kernel_rfl)
    obtain ⟨n3, y3, h3⟩ := trod_field Try.underlying67 h 3 _ rfl 35 3 1 rfl rfl (by kernel_rfl)
    obtain ⟨n4, y4, h4⟩ := trod_field Try.underlying67 h 4 _ rfl 3 4 1 rfl rfl (by kernel_rfl)
    obtain ⟨k0, e0, -, -⟩ := DataW.trod_int Try.underlying5 h0
    obtain ⟨k1, e1, -, -⟩ := DataW.trod_int Try.underlying3 h1
    obtain ⟨k2, e2, -, -⟩ := DataW.trod_int Try.underlying3 h2
    obtain ⟨k4, e4, -, -⟩ := DataW.trod_int Try.underlying3 h4
    simp only [List.take, List.drop] at e0 e1 e2 e4 h3
    simp only [List.cons.injEq, and_true] at e0 e1 e2 e4
    subst e0 e1 e2 e4
    obtain ⟨e, he⟩ := code_of_trod (cs := [c3]) (b := b) (o := o + 3) rfl ((hc.from (k := 3)).first (k := 1)) h3
    exact ⟨⟨k0, k1, k2, e, k4⟩, hc 0 _ rfl, hc 1 _ rfl, hc 2 _ rfl, he, hc 4 _ rfl⟩
set_option maxRecDepth 100000 in
theorem ints_of_trod {m b o : Nat} {cs : List Value} {y : DataW H × List MemPlace} (hl : cs.length = 1) (hc : CellsAt w b o cs) (h : DataW.trod enc Try.prog w 0 (fun _ => true) true m 23 cs = some y) : ∃ n, SlAt IRow w b o n := by
  match cs, hl with
  | [c0], _ => exact sl_of_trod 0 hc Try.underlying23 (by kernel_rfl : _ = 1) (by decide) (fun m b o cs y h1 h2 h3 => i_of_trod h1 h2 h3) h
set_option maxRecDepth 100000 in
theorem bytes_of_trod {m b o : Nat} {cs : List Value} {y : DataW H × List MemPlace} (hl : cs.length = 1) (hc : CellsAt w b o cs) (h : DataW.trod enc Try.prog w 0 (fun _ => true) true m 51 cs = some y) : ∃ n, SlAt URow w b o n := by
  match cs, hl with
  | [c0], _ => exact sl_of_trod 0 hc Try.underlying51 (by kernel_rfl : _ = 1) (by decide) (fun m b o cs y h1 h2 h3 => u_of_trod h1 h2 h3) h
set_option maxRecDepth 100000 in
theorem codes_of_trod {m b o : Nat} {cs : List Value} {y : DataW H × List MemPlace} (hl : cs.length = 1) (hc : CellsAt w b o cs) (h : DataW.trod enc Try.prog w 0 (fun _ => true) true m 42 cs = some y) : ∃ n, SlAt CsRow w b o n := by
  match cs, hl with
  | [c0], _ => exact sl_of_trod [] hc Try.underlying42 (by kernel_rfl : _ = 1) (by decide) (fun m b o cs y h1 h2 h3 => code_of_trod h1 h2 h3) h
set_option maxRecDepth 100000 in
theorem insts_of_trod {m b o : Nat} {cs : List Value} {y : DataW H × List MemPlace} (hl : cs.length = 1) (hc : CellsAt w b o cs) (h : DataW.trod enc Try.prog w 0 (fun _ => true) true m 27 cs = some y) : ∃ n, SlAt IstRow w b o n := by
  match cs, hl with
  | [c0], _ => exact sl_of_trod ⟨0, 0, 0, [], 0⟩ hc Try.underlying27 (by kernel_rfl : _ = 5) (by decide) (fun m b o cs y h1 h2 h3 => ist_of_trod h1 h2 h3) h
set_option maxRecDepth 100000 in
theorem nums1_of_trod {m b o : Nat} {cs : List Value} {y : DataW H × List MemPlace} (hl : cs.length = 1) (hc : CellsAt w b o cs) (h : DataW.trod enc Try.prog w 0 (fun _ => true) true m 52 cs = some y) : ∃ n, SlAt NRow w b o n := by
  match cs, hl with
  | [c0], _ => exact sl_of_trod 0 hc Try.underlying52 (by kernel_rfl : _ = 2) (by decide) (fun m b o cs y h1 h2 h3 => by
      match cs, h1 with
      | [c0, c1], _ => exact nAt_of_trod h2 h3) h
set_option maxRecDepth 100000 in
theorem pats1_of_trod {m b o : Nat} {cs : List Value} {y : DataW H × List MemPlace} (hl : cs.length = 1) (hc : CellsAt w b o cs) (h : DataW.trod enc Try.prog w 0 (fun _ => true) true m 46 cs = some y) : ∃ n, SlAt PRow w b o n := by
  match cs, hl with
  | [c0], _ => exact sl_of_trod ⟨0, 0⟩ hc Try.underlying46 (by kernel_rfl : _ = 4) (by decide) (fun m b o cs y h1 h2 h3 => by
      match cs, h1 with
      | [c0, c1, c2, c3], _ => exact pAt_of_trod h2 h3) h
set_option maxRecDepth 100000 in
theorem brn_of_trod {m b o : Nat} {cs : List Value} {y : DataW H × List MemPlace} (hl : cs.length = 2) (hc : CellsAt w b o cs) (h : DataW.trod enc Try.prog w 0 (fun _ => true) true m 48 cs = some y) : ∃ n, BrnAt w b o n := by
  match cs, hl with
  | [c0, c1], _ =>
    obtain ⟨n0, y0, h0⟩ := trod_field Try.underlying48 h 0 _ rfl 46 0 1 rfl rfl (by kernel_rfl)
    obtain ⟨n1, y1, h1⟩ := trod_field Try.underlying48 h 1 _ rfl 3 1 1 rfl rfl (by kernel_rfl)
    simp only [List.take, List.drop] at h0 h1
    obtain ⟨l, hl⟩ := pats1_of_trod (cs := [c0]) (b := b) (o := o) rfl (hc.first (k := 1)) h0
    obtain ⟨k, hk⟩ := i_of_trod (cs := [c1]) (b := b) (o := o + 1) rfl ((hc.from (k := 1)).first (k := 1)) h1
    exact ⟨⟨l, k⟩, hl, hk⟩
set_option maxRecDepth 100000 in
theorem brns_of_trod {m b o : Nat} {cs : List Value} {y : DataW H × List MemPlace} (hl : cs.length = 1) (hc : CellsAt w b o cs) (h : DataW.trod enc Try.prog w 0 (fun _ => true) true m 43 cs = some y) : ∃ n, SlAt BrnRow w b o n := by
  match cs, hl with
  | [c0], _ => exact sl_of_trod ⟨[], 0⟩ hc Try.underlying43 (by kernel_rfl : _ = 2) (by decide) (fun m b o cs y h1 h2 h3 => brn_of_trod h1 h2 h3) h
set_option maxRecDepth 100000 in
theorem stp_of_trod {m b o : Nat} {cs : List Value} {y : DataW H × List MemPlace} (hl : cs.length = 4) (hc : CellsAt w b o cs) (h : DataW.trod enc Try.prog w 0 (fun _ => true) true m 45 cs = some y) : ∃ n, StpAt w b o n := by
  match cs, hl with
  | [c0, c1, c2, c3], _ =>
    obtain ⟨n0, y0, h0⟩ := trod_field Try.underlying45 h 0 _ rfl 23 0 1 rfl rfl (by kernel_rfl)
    obtain ⟨n1, y1, h1⟩ := trod_field Try.underlying45 h 1 _ rfl 42 1 1 rfl rfl (by kernel_rfl)
    obtain ⟨n2, y2, h2⟩ := trod_field Try.underlying45 h 2 _ rfl 43 2 1 rfl rfl (by kernel_rfl)
    obtain ⟨n3, y3, h3⟩ := trod_field Try.underlying45 h 3 _ rfl 3 3 1 rfl rfl (by kernel_rfl)
    simp only [List.take, List.drop] at h0 h1 h2 h3
    obtain ⟨l0, q0⟩ := ints_of_trod (cs := [c0]) (b := b) (o := o) rfl (hc.first (k := 1)) h0
    obtain ⟨l1, q1⟩ := codes_of_trod (cs := [c1]) (b := b) (o := o + 1) rfl ((hc.from (k := 1)).first (k := 1)) h1
    obtain ⟨l2, q2⟩ := brns_of_trod (cs := [c2]) (b := b) (o := o + 2) rfl ((hc.from (k := 2)).first (k := 1)) h2
    obtain ⟨k, hk⟩ := i_of_trod (cs := [c3]) (b := b) (o := o + 3) rfl ((hc.from (k := 3)).first (k := 1)) h3
    exact ⟨⟨l0, l1, l2, k⟩, q0, q1, q2, hk⟩
set_option maxRecDepth 100000 in
theorem actn_of_trod {m b o : Nat} {cs : List Value} {y : DataW H × List MemPlace} (hl : cs.length = 2) (hc : CellsAt w b o cs) (h : DataW.trod enc Try.prog w 0 (fun _ => true) true m 50 cs = some y) : ∃ n, ActnAt w b o n := by
  match cs, hl with
  | [c0, c1], _ =>
    obtain ⟨n0, y0, h0⟩ := trod_field Try.underlying50 h 0 _ rfl 23 0 1 rfl rfl (by kernel_rfl)
    obtain ⟨n1, y1, h1⟩ := trod_field Try.underlying50 h 1 _ rfl 27 1 1 rfl rfl (by kernel_rfl)
    simp only [List.take, List.drop] at h0 h1
    obtain ⟨l0, q0⟩ := ints_of_trod (cs := [c0]) (b := b) (o := o) rfl (hc.first (k := 1)) h0
    obtain ⟨l1, q1⟩ := insts_of_trod (cs := [c1]) (b := b) (o := o + 1) rfl ((hc.from (k := 1)).first (k := 1)) h1
    exact ⟨⟨l0, l1⟩, q0, q1⟩
set_option maxRecDepth 100000 in
theorem tbl_of_trod {m b o : Nat} {cs : List Value} {y : DataW H × List MemPlace} (hl : cs.length = 5) (hc : CellsAt w b o cs) (h : DataW.trod enc Try.prog w 0 (fun _ => true) true m 56 cs = some y) : ∃ n, TblAt w b o n := by
  match cs, hl with
  | [c0, c1, c2, c3, c4], _ =>
    obtain ⟨n0, y0, h0⟩ := trod_field Try.underlying56 h 0 _ rfl 42 0 1 rfl rfl (by kernel_rfl)
    obtain ⟨n1, y1, h1⟩ := trod_field Try.underlying56 h 1 _ rfl 51 1 1 rfl rfl (by kernel_rfl)
    obtain ⟨n2, y2, h2⟩ := trod_field Try.underlying56 h 2 _ rfl 23 2 1 rfl rfl (by kernel_rfl)
    obtain ⟨n3, y3, h3⟩ := trod_field Try.underlying56 h 3 _ rfl 54 3 2 rfl rfl (by kernel_rfl)
    obtain ⟨n4, y4, h4⟩ := trod_field Try.underlying54 h3 0 _ rfl 3 0 1 rfl rfl (by kernel_rfl)
    obtain ⟨n5, y5, h5⟩ := trod_field Try.underlying54 h3 1 _ rfl 52 1 1 rfl rfl (by kernel_rfl)
    simp only [List.take, List.drop] at h0 h1 h2 h4 h5
    obtain ⟨l0, q0⟩ := codes_of_trod (cs := [c0]) (b := b) (o := o) rfl (hc.first (k := 1)) h0
    obtain ⟨l1, q1⟩ := bytes_of_trod (cs := [c1]) (b := b) (o := o + 1) rfl ((hc.from (k := 1)).first (k := 1)) h1
    obtain ⟨l2, q2⟩ := ints_of_trod (cs := [c2]) (b := b) (o := o + 2) rfl ((hc.from (k := 2)).first (k := 1)) h2
    obtain ⟨k, hk⟩ := i_of_trod (cs := [c3]) (b := b) (o := o + 3) rfl ((hc.from (k := 3)).first (k := 1)) h4
    obtain ⟨l4, q4⟩ := nums1_of_trod (cs := [c4]) (b := b) (o := o + 4) rfl ((hc.from (k := 4)).first (k := 1)) h5
    exact ⟨⟨l0, l1, l2, k, l4⟩, q0, q1, q2, hk, q4⟩
set_option maxRecDepth 100000 in
theorem s_of_trod {m b o : Nat} {cs : List Value} {y : DataW H × List MemPlace} (hl : cs.length = 1) (hc : CellsAt w b o cs) (h : DataW.trod enc Try.prog w 0 (fun _ => true) true m 9 cs = some y) : ∃ n, StAt w b o n := by
  obtain ⟨k, rfl, -⟩ := DataW.trod_string Try.underlying9 h
  exact ⟨k, hc 0 _ rfl⟩
set_option maxRecDepth 100000 in
theorem strs_of_trod {m b o : Nat} {cs : List Value} {y : DataW H × List MemPlace} (hl : cs.length = 1) (hc : CellsAt w b o cs) (h : DataW.trod enc Try.prog w 0 (fun _ => true) true m 28 cs = some y) : ∃ n, SlAt StRow w b o n := by
  match cs, hl with
  | [c0], _ => exact sl_of_trod ⟨#[]⟩ hc Try.underlying28 (by kernel_rfl : _ = 1) (by decide) (fun m b o cs y h1 h2 h3 => s_of_trod h1 h2 h3) h
set_option maxRecDepth 100000 in
theorem prg_of_trod {m : Nat} {cs : List Value} {y : DataW H × List MemPlace} (hl : cs.length = 12) (h : DataW.trod enc Try.prog w 0 (fun _ => true) true m 33 cs = some y) : ∃ (s : PgS) (p : Prg), cs = s.cells ∧ PgOk w s p := by
  match cs, hl with
  | [c0, c1, c2, c3, c4, c5, c6, c7, c8, c9, c10, c11], _ =>
    obtain ⟨n0, y0, h0⟩ := trod_field Try.underlying33 h 0 _ rfl 22 0 1 rfl rfl (by kernel_rfl)
    obtain ⟨n1, y1, h1⟩ := trod_field Try.underlying33 h 1 _ rfl 23 1 1 rfl rfl (by kernel_rfl)
    obtain ⟨n2, y2, h2⟩ := trod_field Try.underlying33 h 2 _ rfl 24 2 1 rfl rfl (by kernel_rfl)
    obtain ⟨n3, y3, h3⟩ := trod_field Try.underlying33 h 3 _ rfl 25 3 1 rfl rfl (by kernel_rfl)
    obtain ⟨n4, y4, h4⟩ := trod_field Try.underlying33 h 4 _ rfl 26 4 1 rfl rfl (by kernel_rfl)
    obtain ⟨n5, y5, h5⟩ := trod_field Try.underlying33 h 5 _ rfl 27 5 1 rfl rfl (by kernel_rfl)
    obtain ⟨n6, y6, h6⟩ := trod_field Try.underlying33 h 6 _ rfl 23 6 1 rfl rfl (by kernel_rfl)
    obtain ⟨nx, yx, hx⟩ := trod_field Try.underlying33 h 7 _ rfl 31 7 5 rfl rfl (by kernel_rfl)
    obtain ⟨n7, y7, h7⟩ := trod_field Try.underlying31 hx 0 _ rfl 28 0 1 rfl rfl (by kernel_rfl)
    obtain ⟨n8, y8, h8⟩ := trod_field Try.underlying31 hx 1 _ rfl 29 1 1 rfl rfl (by kernel_rfl)
    obtain ⟨n9, y9, h9⟩ := trod_field Try.underlying31 hx 2 _ rfl 28 2 1 rfl rfl (by kernel_rfl)
    obtain ⟨n10, y10, h10⟩ := trod_field Try.underlying31 hx 3 _ rfl 28 3 1 rfl rfl (by kernel_rfl)
    obtain ⟨n11, y11, h11⟩ := trod_field Try.underlying31 hx 4 _ rfl 28 4 1 rfl rfl (by kernel_rfl)
    simp only [List.take, List.drop] at h0 h1 h2 h3 h4 h5 h6 h7 h8 h9 h10 h11
    obtain ⟨l0, q0⟩ := open_rowAt [] Try.underlying22 (by kernel_rfl : _ = 1) (by decide) (fun m b o cs y h1 h2 h3 => ints_of_trod h1 h2 h3) h0
    obtain ⟨l1, q1⟩ := open_rowAt 0 Try.underlying23 (by kernel_rfl : _ = 1) (by decide) (fun m b o cs y h1 h2 h3 => i_of_trod h1 h2 h3) h1
    obtain ⟨l2, q2⟩ := open_rowAt ⟨[], [], [], 0⟩ Try.underlying24 (by kernel_rfl : _ = 4) (by decide) (fun m b o cs y h1 h2 h3 => stp_of_trod h1 h2 h3) h2
    obtain ⟨l3, q3⟩ := open_rowAt ⟨[], []⟩ Try.underlying25 (by kernel_rfl : _ = 2) (by decide) (fun m b o cs y h1 h2 h3 => actn_of_trod h1 h2 h3) h3
    obtain ⟨l4, q4⟩ := open_rowAt ⟨[], [], [], 0, []⟩ Try.underlying26 (by kernel_rfl : _ = 5) (by decide) (fun m b o cs y h1 h2 h3 => tbl_of_trod h1 h2 h3) h4
    obtain ⟨l5, q5⟩ := open_rowAt ⟨0, 0, 0, [], 0⟩ Try.underlying27 (by kernel_rfl : _ = 5) (by decide) (fun m b o cs y h1 h2 h3 => ist_of_trod h1 h2 h3) h5
    obtain ⟨l6, q6⟩ := open_rowAt 0 Try.underlying23 (by kernel_rfl : _ = 1) (by decide) (fun m b o cs y h1 h2 h3 => i_of_trod h1 h2 h3) h6
    obtain ⟨l7, q7⟩ := open_rowAt ⟨#[]⟩ Try.underlying28 (by kernel_rfl : _ = 1) (by decide) (fun m b o cs y h1 h2 h3 => s_of_trod h1 h2 h3) h7
    obtain ⟨l8, q8⟩ := open_rowAt [] Try.underlying29 (by kernel_rfl : _ = 1) (by decide) (fun m b o cs y h1 h2 h3 => strs_of_trod h1 h2 h3) h8
    obtain ⟨l9, q9⟩ := open_rowAt ⟨#[]⟩ Try.underlying28 (by kernel_rfl : _ = 1) (by decide) (fun m b o cs y h1 h2 h3 => s_of_trod h1 h2 h3) h9
    obtain ⟨l10, q10⟩ := open_rowAt ⟨#[]⟩ Try.underlying28 (by kernel_rfl : _ = 1) (by decide) (fun m b o cs y h1 h2 h3 => s_of_trod h1 h2 h3) h10
    obtain ⟨l11, q11⟩ := open_rowAt ⟨#[]⟩ Try.underlying28 (by kernel_rfl : _ = 1) (by decide) (fun m b o cs y h1 h2 h3 => s_of_trod h1 h2 h3) h11
    obtain ⟨pa0, cp0, rfl, -⟩ := q0.shape
    obtain ⟨pa1, cp1, rfl, -⟩ := q1.shape
    obtain ⟨pa2, cp2, rfl, -⟩ := q2.shape
    obtain ⟨pa3, cp3, rfl, -⟩ := q3.shape
    obtain ⟨pa4, cp4, rfl, -⟩ := q4.shape
    obtain ⟨pa5, cp5, rfl, -⟩ := q5.shape
    obtain ⟨pa6, cp6, rfl, -⟩ := q6.shape
    obtain ⟨pa7, cp7, rfl, -⟩ := q7.shape
    obtain ⟨pa8, cp8, rfl, -⟩ := q8.shape
    obtain ⟨pa9, cp9, rfl, -⟩ := q9.shape
    obtain ⟨pa10, cp10, rfl, -⟩ := q10.shape
    obtain ⟨pa11, cp11, rfl, -⟩ := q11.shape
    exact ⟨⟨pa0, _, cp0, pa1, _, cp1, pa2, _, cp2, pa3, _, cp3, pa4, _, cp4, pa5, _, cp5, pa6, _, cp6, pa7, _, cp7, pa8, _, cp8, pa9, _, cp9, pa10, _, cp10, pa11, _, cp11⟩, ⟨l0, l1, l2, l3, l4, l5, l6, l7, l8, l9, l10, l11⟩, rfl, q0, q1, q2, q3, q4, q5, q6, q7, q8, q9, q10, q11⟩
set_option maxRecDepth 100000 in
theorem open_prog {va : Value} {d : DataW H} {p : List MemPlace} (hv : Value.okWide Try.prog w .any 0 33 va) (h : DataW.Trod enc Try.prog w 0 (fun _ => true) true 33 va d p) : ∃ (s : PgS) (q : Prg), va = pgV s ∧ PgOk w s q := by
  obtain ⟨fuel, h⟩ := h
  obtain ⟨cs, rfl, hs⟩ := agg_cells Try.underlying33 hv
  have e : Try.prog.cellsOf 33 = 12 := by kernel_rfl
  rw [e] at hs
  obtain ⟨cl⟩ := cs
  obtain ⟨s, q, e2, hq⟩ := prg_of_trod hs h
  have e3 : cl = s.cells := e2
  exact ⟨s, q, by rw [e3]; rfl, hq⟩
end
end Go.Proofs.Ytehcclcokgmplaa

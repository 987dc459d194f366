/-
  The law NumBack holds of the given program: for every input the call answers true, and each argument reads behind the call as it read before; the row and its card.
  (After the kit's worked proof PinupProofs.)
-/
import Derived.Test.YtfalhemeiengcaaDoorCards
import Derived.Test.YtfalhemeiengcaaDoorTie
import Derived.Test.YtfalhemeiengcaaDoorBack
import Derived.WalkKit
import Derived.ProofKit
import Derived.OpenShut
import Derived.ShutString
import Derived.Deep.DeepHandedRow
import Derived.Lib.LaidTab
import Derived.LaidMore
import Derived.Lay
import Derived.Stop.Joined
import Derived.Lib.LaidCaseMet
import Derived.Lib.LaidU8
namespace Go.Proofs.YtfalhemeiengcaaDoor.numBack
open Go.ChangeShapes Go.WideShapes Go.ChangeAt Go.RowKit Go.Lib
open Go.ChangeMaps (open_string shut_string)

theorem own : ownKnob Tryd.prog.godebug = none := by kernel_rfl
theorem laidOut : laidOutB Tryd.prog = true := by kernel_rfl
theorem arr_two {cs : Array Value} {x y : Value} (h : cs.size = 2) (hx : cs[0]? = some x) (hy : cs[1]? = some y) : cs = #[x, y] := by
  apply Array.ext
  · simp [h]
  · intro i hi1 hi2
    rw [h] at hi1
    have h0 : i = 0 ∨ i = 1 := by omega
    rcases h0 with rfl | rfl
    · rw [Array.getElem?_eq_getElem (by omega)] at hx; simpa using hx
    · rw [Array.getElem?_eq_getElem (by omega)] at hy; simpa using hy
set_option maxRecDepth 100000 in
theorem cell_u64 {W : World} {v : Value} (hc : Cell.okWide Tryd.prog W .any 0 22 v) : ∃ n : Nat, v = .int .u64 (n : Int) ∧ n < B := by
  simp only [Cell.okWide, Tryd.underlying22] at hc
  obtain ⟨n, rfl, hn⟩ : ∃ n : Int, v = .int .u64 n ∧ IntKind.u64.has n := by cases v <;> simp_all [Cell.ok]
  obtain ⟨h0, h1⟩ := hn
  have m0 : IntKind.u64.min = 0 := by decide
  have m1 : IntKind.u64.max = 18446744073709551615 := by decide
  rw [m0] at h0
  rw [m1] at h1
  obtain ⟨m, rfl⟩ := Int.eq_ofNat_of_zero_le h0
  exact ⟨m, rfl, by unfold B; omega⟩
theorem two_parts {n0 n1 : Nat} (b0 : n0 < B) (b1 : n1 < B) : n0 * B + n1 < B * B := by
  have : n0 * B ≤ (B - 1) * B := Nat.mul_le_mul_right _ (by omega)
  have e2 : (B - 1) * B = B * B - B := by rw [Nat.sub_mul, Nat.one_mul]
  have e3 : B ≤ B * B := Nat.le_mul_of_pos_left _ B_pos
  omega
set_option maxRecDepth 100000 in
/-- A number that came in. -/
theorem open_num {W : World} {v : Value} (h : Value.okWide Tryd.prog W .any 0 24 v) : ∃ n : Nat, v = numV n ∧ n < B * B := by
  simp only [Value.okWide, Tryd.underlying24] at h
  obtain ⟨cs, rfl, h1, ts, h2, -, h4⟩ := h
  have e1 : Tryd.prog.cellsOf 24 = 2 := by kernel_rfl
  have e2 : Tryd.prog.cellTypes Tryd.prog.depth 24 = some [22, 22] := by kernel_rfl
  rw [e1] at h1
  rw [e2] at h2
  cases h2
  have q0 : cs[0]? = some (cs[0]'(by rw [h1]; decide)) := Array.getElem?_eq_getElem (by rw [h1]; decide)
  have q1 : cs[1]? = some (cs[1]'(by rw [h1]; decide)) := Array.getElem?_eq_getElem (by rw [h1]; decide)
  obtain ⟨t0, ht0, hc0⟩ := h4 0 _ q0
  obtain ⟨t1, ht1, hc1⟩ := h4 1 _ q1
  cases ht0
  cases ht1
  obtain ⟨n0, e0, b0⟩ := cell_u64 hc0
  obtain ⟨n1, e1', b1⟩ := cell_u64 hc1
  exact ⟨n0 * B + n1, (congrArg Value.agg (arr_two h1 (q0.trans (congrArg some e0)) (q1.trans (congrArg some e1')))).trans (numV_mk n0 n1 b1), two_parts b0 b1⟩


theorem accept_is : Rows.laid_unicode_utf8_acceptRanges (H := Unit) = Lib.acceptData := by kernel_rfl
theorem case_is : Rows.laid_unicode_CaseRanges = Lib.caseData := by kernel_rfl
theorem first_is : Rows.laid_unicode_utf8_first = Lib.firstData := by kernel_rfl
/-- WHAT THE ROW's LIST GIVES: the tables' cells. -/
theorem tabs {W : World} (h : laidMetH Tryd.prog Rows.numBackRow.laid W) : Tabs W := by
  have h1 : laidMet Tryd.prog [("unicode/utf8.acceptRanges", Rows.laid_unicode_utf8_acceptRanges), ("unicode.CaseRanges", Rows.laid_unicode_CaseRanges), ("unicode/utf8.first", Rows.laid_unicode_utf8_first)] W := h
  rw [accept_is, case_is, first_is] at h1
  exact ⟨caseVar_of_reads { Tryd.lays159 with } Tryd.lays159.t206 ⟨by kernel_rfl, by kernel_rfl, by kernel_rfl, by kernel_rfl, by kernel_rfl, by kernel_rfl⟩ (Lib.laidMet.reads h1 (.tail _ (.head _))),
    utf8Tabs_of_reads { Tryd.lays159 with } ⟨by kernel_rfl, by kernel_rfl, by kernel_rfl, by kernel_rfl, by kernel_rfl, by kernel_rfl, by kernel_rfl⟩ (Lib.laidMet.reads h1 (.tail _ (.tail _ (.head _)))) (Lib.laidMet.reads h1 (.head _))⟩

set_option maxRecDepth 100000 in
/-- WHAT THE WALK GIVES, FOR EVERY ARGUMENT AND EVERY WORLD THAT HOLDS THE TABLE. -/
theorem contract (H : Type) (enc : TypeId × Value → H) (W : World) (base : Nat) (args : Array Value) (ds gs : List (DataW H)) (before : List MemPlace)
    (hval : ∀ (j : Nat) t v, Tryd.f3.params[j]? = some t → args[j]? = some v → Value.okWide Tryd.prog W .any base t v)
    (hW : DataW.Whole enc Tryd.prog Tryd.f3.params.toList Rows.numBackSpec.vars false W args.toList ds gs before) (hL : laidMetH Tryd.prog Rows.numBackRow.laid W) :
    Calls Tryd.prog 3 args W fun e W' => ∃ v, e = .returned v ∧ Rows.numBackSpec.post enc Tryd.prog Tryd.f3 false true false false W args v W' := by
  have hW' := hW
  obtain ⟨p, q, hA0, hV, rfl, hfz, hnd⟩ := hW
  have hA : DataW.TrodAll enc Tryd.prog W 0 (fun _ => true) true Tryd.f3.params.toList args.toList ds p := hA0
  rw [Tryd.params3] at hA hval
  obtain ⟨v0, vs0, d0, ds0, p0, q0, hargs, rfl, rfl, h0, r0⟩ := trodAll_cons hA
  obtain ⟨v1, vs1, d1, ds1, p1, q1, rfl, rfl, rfl, h1, r1⟩ := trodAll_cons r0
  obtain ⟨rfl, rfl, rfl⟩ := trodAll_nil r1
  obtain rfl : args = #[v0, v1] := by cases args; simp_all
  obtain ⟨rfl, rfl⟩ := trodVars_none hV
  have k0 := h0
  have lt0 : ∀ x ∈ p0, x.block < W.heap.size := by obtain ⟨m, hm⟩ := k0; exact DataW.trod_lt m _ _ _ hm
  have k1 := h1
  have lt1 : ∀ x ∈ p1, x.block < W.heap.size := by obtain ⟨m, hm⟩ := k1; exact DataW.trod_lt m _ _ _ hm
  obtain ⟨n0, rfl, hn0⟩ := open_num (hval 0 24 v0 rfl rfl)
  obtain ⟨s1, rfl, -⟩ := open_string Tryd.underlying9 (hval 1 9 v1 rfl rfl) h1
  clear hA0
  refine (back_any n0 hn0 s1 W (tabs hL)).mono fun e W' ⟨he, bel⟩ => ?_
  subst he
  exact ⟨_, rfl, _, _, _, [], _, [], hW', trodAll_mk1 (shut_bool Tryd.underlying4 _), (trodAll_cons_mk (Below.trod laidOut (by kernel_rfl) (of_decide_eq_true (by kernel_rfl)) k0 bel lt0) (trodAll_cons_mk (Below.trod laidOut (by kernel_rfl) (of_decide_eq_true (by kernel_rfl)) k1 bel lt1) trodAll_mk0)), rfl, bel.frame _, fun h => by cases h⟩

theorem reads (os : Os) {H : Type} (enc : TypeId × Value → H) : ∃ places, DataW.whole enc Tryd.prog ((World.laidAll Tryd.prog os Rows.numBackRow.laid).forCall (fun _ _ => 0) ⟨#[], #[.agg #[.int .u64 0, .int .u64 0], .string ⟨#[]⟩], []⟩).memory Tryd.f3.params.toList Rows.numBackSpec.vars false (#[.agg #[.int .u64 0, .int .u64 0], .string ⟨#[]⟩] : Array Value).toList 8 = some ([.agg [.lit (.int .u64 0), .lit (.int .u64 0)], .lit (.string [])], [], places) :=
  ⟨[], by kernel_rfl⟩

set_option maxRecDepth 100000 in
/-- THE ROW's STEP. -/
theorem lifted (os : Os) (started : os.Started) (H : Type) (enc : TypeId × Value → H) :
    ReturnsInHanded {} Tryd.checked os 3 .any (fun w args => (Rows.numBackSpec.pre enc Tryd.prog Tryd.f3 Rows.numBackRow.domain false w args ∧ laidMetH Tryd.prog Rows.numBackRow.laid w) ∧ sizedMet enc Tryd.prog Tryd.f3 (OpenSpec.ofChange Rows.numBackSpec) false w args)
      (Rows.numBackSpec.post enc Tryd.prog Tryd.f3 false true false false) := by
  refine returnsInHanded_of_change_and (C := Tryd.checked) (X := fun w _ => laidMetH Tryd.prog Rows.numBackRow.laid w) (fun _ _ _ hh h => h.of_heap hh) own started (by kernel_rfl) Tryd.func3
    (ChangeSpec.witness_shaped (enc := enc) (C := Tryd.checked) (os := os) (X := fun w _ => laidMetH Tryd.prog Rows.numBackRow.laid w) false (World.laidAll Tryd.prog os Rows.numBackRow.laid) #[.agg #[.int .u64 0, .int .u64 0], .string ⟨#[]⟩] 8 (World.laidAll_os _ _ _)
      (World.shaped_of_ZipB (by kernel_rfl) (by kernel_rfl)) (by kernel_rfl) (by kernel_rfl) (by kernel_rfl)
      (by rw [MakeChecks.laidMetH_plain _ _ _ (by kernel_rfl)]; exact laidMet_laidAll _ (by kernel_rfl) (by kernel_rfl))) ?_
  intro W base args ds gs before hval hW _ _ hL _
  exact contract H enc W base args ds gs before hval hW hL

theorem said : Rows.NumBackSaid :=
  OpenClaim.holds_of_wide 3 Tryd.f3 rfl rfl rfl rfl rfl rfl rfl ⟨rfl, rfl, rfl, rfl, rfl⟩ rfl rfl rfl rfl rfl (by kernel_rfl) Tryd.func3 (by kernel_rfl)
    (of_decide_eq_true (by kernel_rfl)) (by unfold Func.isWrapper; first | (rw [if_pos (by decide +kernel)]; kernel_rfl) | (rw [if_neg (by decide +kernel)]; exact ⟨rfl, rfl⟩))
    (fun os started H enc _ => lifted os started H enc)

/-- No parameter wants a stand-in; the program's own looks are off: what the card asks. -/
theorem plain (f : FuncId) (fn : Func) (hf : Tryd.pinned.checked.prog.funcNamed "quillon/quillonlaw01.NumBack" = some f) (hfn : Tryd.pinned.checked.prog.funcs[f]? = some fn) :
    false = Tryd.pinned.checked.prog.looks [] ∧ ∀ (j : Nat) t, fn.params[j]? = some t → Tryd.pinned.checked.prog.wantsStandIn t = false := by
  obtain rfl : f = 3 := Option.some.inj ((show Tryd.prog.funcNamed "quillon/quillonlaw01.NumBack" = some 3 by kernel_rfl).symm.trans hf) |>.symm
  obtain rfl : fn = Tryd.f3 := (Option.some.inj (Tryd.func3.symm.trans hfn)).symm
  refine ⟨by kernel_rfl, fun j t ht => ?_⟩
  rw [Tryd.params3] at ht
  have ht : t = 24 ∨ t = 9 := by
    have := Array.mem_of_getElem? ht
    simpa using this
  rcases ht with rfl | rfl
  · exact (show Tryd.prog.wantsStandIn 24 = false by kernel_rfl)
  · exact (show Tryd.prog.wantsStandIn 9 = false by kernel_rfl)

/-- ████ THE CARD ████ -/
theorem card : Rows.NumBackCardSaid :=
  Claim7.holds_tied_plain_at .later [] _ _ _ _ said (fun _ h => by cases h) (by kernel_rfl) (fun _ h => by cases h) numBack_row_tie rfl ⟨rfl, rfl⟩ (by kernel_rfl) rfl plain (by kernel_rfl)
#print axioms card
end Go.Proofs.YtfalhemeiengcaaDoor.numBack

/-
  flow.jumps, known, reads.
-/
import Derived.Test.YtfhleldmkhllaaaFlowM
import Derived.ProofKit
import Derived.WalkKit
namespace Go.Proofs.Ytfhleldmkhllaaa
open Go.RowKit Flow

set_option maxRecDepth 100000 in
set_option maxHeartbeats 1000000 in
theorem jumps_any (x : Ins) (ev : Value) (w : World) : Calls Try.prog 14 #[insV x ev] w fun e w' => e = .returned (.bool (jmp x)) ∧ Below w.heap.size w w' := by
  obtain ⟨k, a, b, e, t⟩ := x
  unfold insV
  by_cases h7 : k = 7
  · subst h7
    go_enter Try.func14, Try.ntmps14
    go_wp2_with fail
    go_ret
    exact ⟨rfl, (by repeat (first | exact Below.refl _ _ | assumption | refine Below.drew ?_ | refine Below.alloc ?_ (by first | omega | (simp <;> omega)) _ | refine Below.setCell ?_ (by first | omega | (simp <;> omega)) _ | refine Below.trans ?_ (Below.mono (by assumption) (by first | omega | (simp <;> omega)))))⟩
  · go_enter Try.func14, Try.ntmps14
    go_wp2_with fail
    go_ret
    exact ⟨rfl, (by repeat (first | exact Below.refl _ _ | assumption | refine Below.drew ?_ | refine Below.alloc ?_ (by first | omega | (simp <;> omega)) _ | refine Below.setCell ?_ (by first | omega | (simp <;> omega)) _ | refine Below.trans ?_ (Below.mono (by assumption) (by first | omega | (simp <;> omega)))))⟩

theorem neq_num (x y : Int) (W : World) : (Go.binOp .neq 35 (.agg #[.int .u64 x, .int .u64 y]) (.agg #[.int .u64 0, .int .u64 0])).run Try.prog W = .ok (.bool (!(x == 0 && y == 0))) W := by
  by_cases hx : x = 0 <;> by_cases hy : y = 0 <;> simp [go_sem, hx, hy]

/-- What 'known' tells. -/
def knV (x : Ins) : Value := match knw x with | some b => .tuple #[.bool b, .bool true] | none => .tuple #[.bool false, .bool false]
set_option maxRecDepth 100000 in
set_option maxHeartbeats 2000000 in
theorem known_any (x : Ins) (ev : Value) (X : Nat → Prop) (w : World) (hc : CodeAt w X ev x.e) (hl : x.e.length ≤ 9223372036854775807) : Calls Try.prog 17 #[insV x ev] w fun e w' => e = .returned (knV x) ∧ Below w.heap.size w w' := by
  obtain ⟨k, a, b, e, t⟩ := x
  unfold insV
  dsimp only at hc hl ⊢
  by_cases h7 : k = 7
  · obtain ⟨pa, ca, hev⟩ := hc.shape
    by_cases h1 : e.length = 1
    · obtain ⟨n, rfl⟩ := List.length_eq_one_iff.1 h1
      obtain ⟨b0, o, cap, rfl, hlt, hn⟩ := hc.at (j := 0) (by simp)
      cases hev
      obtain ⟨op, wi, na, nb, hi, lo⟩ := n
      have hn2 : NodAt w b0 o ⟨op, wi, na, nb, hi, lo⟩ := by simpa using hn
      obtain ⟨c0, -, -, -, c4, c5⟩ := hn2
      have q := neq_num hi lo
      have d0 : (w.alloc (.cells #[.int .u8 k, .int .i64 a, .int .i64 b, .slice (some ⟨b0, o, none⟩) 1 ca, .int .i64 t] 30)).cell? ⟨b0, o, none⟩ = some (.int .u8 op) := (Below.cell ((Below.refl w.heap.size w).alloc (Nat.le_refl _) _) hlt).trans c0
      have d4 : (w.alloc (.cells #[.int .u8 k, .int .i64 a, .int .i64 b, .slice (some ⟨b0, o, none⟩) 1 ca, .int .i64 t] 30)).cell? ⟨b0, o + 4, none⟩ = some (.int .u64 hi) := (Below.cell ((Below.refl w.heap.size w).alloc (Nat.le_refl _) _) hlt).trans c4
      have d5 : (w.alloc (.cells #[.int .u8 k, .int .i64 a, .int .i64 b, .slice (some ⟨b0, o, none⟩) 1 ca, .int .i64 t] 30)).cell? ⟨b0, o + 5, none⟩ = some (.int .u64 lo) := (Below.cell ((Below.refl w.heap.size w).alloc (Nat.le_refl _) _) hlt).trans c5
      clear c0 c4 c5 hn hc
      by_cases ho : op = 1
      · have HJ : Hid (knV ⟨k, a, b, [⟨op, wi, na, nb, hi, lo⟩], t⟩ = .tuple #[.bool (!(hi == 0 && lo == 0)), .bool true]) := by show _ = _; unfold knV knw; simp [h7, ho]
        subst h7 ho
        go_enter Try.func17, Try.ntmps17
        go_wp2_with fail
        exact bodyPost_ret (by simp [results, Try.results17, go_sem]; rfl) rfl ⟨by rw [HJ.out]; try simp only [Bool.not_and], (by repeat (first | exact Below.refl _ _ | assumption | refine Below.drew ?_ | refine Below.alloc ?_ (by first | omega | (simp <;> omega)) _ | refine Below.setCell ?_ (by first | omega | (simp <;> omega)) _ | refine Below.trans ?_ (Below.mono (by assumption) (by first | omega | (simp <;> omega)))))⟩
      · have HJ : Hid (knV ⟨k, a, b, [⟨op, wi, na, nb, hi, lo⟩], t⟩ = .tuple #[.bool false, .bool false]) := by show _ = _; unfold knV knw; simp [h7, ho]
        subst h7
        go_enter Try.func17, Try.ntmps17
        go_wp2_with fail
        exact bodyPost_ret (by simp [results, Try.results17, go_sem]; rfl) rfl ⟨by rw [HJ.out], (by repeat (first | exact Below.refl _ _ | assumption | refine Below.drew ?_ | refine Below.alloc ?_ (by first | omega | (simp <;> omega)) _ | refine Below.setCell ?_ (by first | omega | (simp <;> omega)) _ | refine Below.trans ?_ (Below.mono (by assumption) (by first | omega | (simp <;> omega)))))⟩
    · have HJ : Hid (knV ⟨k, a, b, e, t⟩ = .tuple #[.bool false, .bool false]) := by
        show _ = _
        unfold knV knw
        rw [if_pos h7]
        cases e with
        | nil => rfl
        | cons n r => cases r with
                      | nil => exact absurd rfl h1
                      | cons m r => rfl
      subst h7 hev
      go_enter Try.func17, Try.ntmps17
      go_wp2_with fail
      exact bodyPost_ret (by simp [results, Try.results17, go_sem]; rfl) rfl ⟨by rw [HJ.out], (by repeat (first | exact Below.refl _ _ | assumption | refine Below.drew ?_ | refine Below.alloc ?_ (by first | omega | (simp <;> omega)) _ | refine Below.setCell ?_ (by first | omega | (simp <;> omega)) _ | refine Below.trans ?_ (Below.mono (by assumption) (by first | omega | (simp <;> omega)))))⟩
  · have HJ : Hid (knV ⟨k, a, b, e, t⟩ = .tuple #[.bool false, .bool false]) := by show _ = _; unfold knV knw; simp [h7]
    go_enter Try.func17, Try.ntmps17
    go_wp2_with fail
    exact bodyPost_ret (by simp [results, Try.results17, go_sem]; rfl) rfl ⟨by rw [HJ.out], (by repeat (first | exact Below.refl _ _ | assumption | refine Below.drew ?_ | refine Below.alloc ?_ (by first | omega | (simp <;> omega)) _ | refine Below.setCell ?_ (by first | omega | (simp <;> omega)) _ | refine Below.trans ?_ (Below.mono (by assumption) (by first | omega | (simp <;> omega)))))⟩

set_option maxRecDepth 100000 in
set_option maxHeartbeats 1000000 in
theorem isField_any (n : Nod) (w : World) : Calls Try.prog 21 #[nodV n] w fun e w' => e = .returned (.bool (n.op == 2)) ∧ Below w.heap.size w w' := by
  obtain ⟨op, wi, na, nb, hi, lo⟩ := n
  unfold nodV
  go_enter Try.func21, Try.ntmps21
  go_wp2_with fail
  go_ret
  exact ⟨rfl, (by repeat (first | exact Below.refl _ _ | assumption | refine Below.drew ?_ | refine Below.alloc ?_ (by first | omega | (simp <;> omega)) _ | refine Below.setCell ?_ (by first | omega | (simp <;> omega)) _ | refine Below.trans ?_ (Below.mono (by assumption) (by first | omega | (simp <;> omega)))))⟩

/-- The first node that is a field's. -/
def fst2 (e : List Nod) : Int := match e.findIdx? (fun n => n.op == 2) with | some i => (i : Int) | none => -1
theorem fst2_rd (e : List Nod) : decide (0 ≤ fst2 e) = rd e := by
  unfold fst2 rd
  cases h : e.findIdx? (fun n => n.op == 2) with
  | none =>
    rw [List.findIdx?_eq_none_iff] at h
    have : e.any (fun n => n.op == 2) = false := by simpa using h
    rw [this]; rfl
  | some i =>
    have h2 := List.findIdx?_isSome (xs := e) (p := fun n => n.op == 2)
    rw [h] at h2
    simp only [Option.isSome_some] at h2
    rw [← h2]
    simp

set_option maxRecDepth 100000 in
set_option maxHeartbeats 2000000 in
theorem index_any (ev : Value) (X : Nat → Prop) (e : List Nod) (w : World) (hc : CodeAt w X ev e) (hl : e.length ≤ 1000000000000000) : Calls Try.prog 22 #[ev, .func (.func 21) #[] #[]] w fun r w' => r = .returned (.int .i64 (fst2 e)) ∧ Below w.heap.size w w' := by
  obtain ⟨pa, ca, rfl⟩ := hc.shape
  have HC := Lib.hid hc
  have HF := Lib.hid isField_any
  clear hc
  go_enter Try.func22, Try.ntmps22
  go_wp2_with fail
  go_loopw [8] (fun i wr => ∃ k : Nat, k ≤ e.length ∧ i = .int .i64 (k : Int) ∧ Hid (∀ j, j < k → ((e.getD j dN).op == 2) = false) ∧ Hid (Below w.heap.size w wr)) (fun i _ => e.length - (RowKit.intOf i).toNat)
  case atStart => exact ⟨0, Nat.zero_le _, rfl, fun j h => absurd h (Nat.not_lt_zero j), Below.refl _ _⟩
  case round =>
    obtain ⟨k, hk, rfl, HN, HB⟩ := hrel
    by_cases hlt : k < e.length
    · obtain ⟨b0, o, cap, he, hb, hn⟩ := (HC.out.below HB.out).at hlt
      cases he
      obtain ⟨nd, hnd⟩ : ∃ nd, e.getD k dN = nd := ⟨_, rfl⟩
      rw [hnd] at hn
      have HD := Lib.hid hnd
      clear hnd
      have HF1 : Hid (∀ W, Calls Try.prog 21 #[nodV nd] W fun e w' => e = .returned (.bool (nd.op == 2)) ∧ Below W.heap.size W w') := fun W => HF.out nd W
      obtain ⟨op, wi, na, nb, hi, lo⟩ := nd
      unfold nodV at HF1
      obtain ⟨c0, c1, c2, c3, c4, c5⟩ := hn
      have hki : (k : Int) < (e.length : Int) := by omega
      by_cases h2 : (op == 2) = true
      · have HR : Hid (fst2 e = (k : Int)) := by
          show _ = _
          have : e.findIdx? (fun n => n.op == 2) = some k := by
            rw [List.findIdx?_eq_some_iff_getElem]
            have g := HD.out
            rw [List.getD_eq_getElem?_getD, List.getElem?_eq_getElem hlt] at g
            simp only [Option.getD_some] at g
            refine ⟨hlt, by rw [g]; exact h2, fun j hj => ?_⟩
            have := HN.out j hj
            rw [List.getD_eq_getElem?_getD, List.getElem?_eq_getElem (by omega)] at this
            simpa using this
          unfold fst2
          rw [this]
        rw [h2] at HF1
        go_wp2_with (first | (go_at_call 21; (with_reducible refine (HF1.out _).mono ?_); rintro e1 w1 ⟨rfl, hb1⟩))
        go_ret
        exact ⟨by rw [HR.out]; rfl, HB.out.trans (hb1.mono HB.out.size)⟩
      · have h2f : (op == 2) = false := by simpa using h2
        rw [h2f] at HF1
        go_wp2_with (first | (go_at_call 21; (with_reducible refine (HF1.out _).mono ?_); rintro e1 w1 ⟨rfl, hb1⟩))
        refine ⟨⟨k + 1, hlt, rfl, ?_, HB.out.trans (hb1.mono HB.out.size)⟩, by simp only [RowKit.intOf]; omega⟩
        intro j hj
        by_cases e2 : j = k
        · rw [e2, HD.out]; exact h2f
        · exact HN.out j (by omega)
    · obtain rfl : k = e.length := by omega
      go_wp2_with fail
      have HR : Hid (fst2 e = -1) := by
        show _ = _
        have : e.findIdx? (fun n => n.op == 2) = none := by
          rw [List.findIdx?_eq_none_iff]
          intro n hn
          obtain ⟨j, hj, rfl⟩ := List.mem_iff_getElem.1 hn
          have := HN.out j hj
          rw [List.getD_eq_getElem?_getD, List.getElem?_eq_getElem hj] at this
          exact this
        unfold fst2
        rw [this]
      go_ret
      exact ⟨by rw [HR.out]; rfl, HB.out⟩

set_option maxRecDepth 100000 in
set_option maxHeartbeats 1000000 in
theorem contains_any (ev : Value) (X : Nat → Prop) (e : List Nod) (w : World) (hc : CodeAt w X ev e) (hl : e.length ≤ 1000000000000000) : Calls Try.prog 20 #[ev, .func (.func 21) #[] #[]] w fun r w' => r = .returned (.bool (rd e)) ∧ Below w.heap.size w w' := by
  have HI := Lib.hid (index_any ev X e w hc hl)
  have HR := Lib.hid (fst2_rd e)
  clear hc
  generalize fst2 e = z at HI HR
  go_enter Try.func20, Try.ntmps20
  go_wp2_with fail
  refine HI.out.mono ?_
  rintro r w1 ⟨rfl, hb1⟩
  go_wp2_with fail
  all_goals
    go_ret
    exact ⟨by rw [← HR.out]; first | rfl | simp_all, hb1⟩

set_option maxRecDepth 100000 in
set_option maxHeartbeats 1000000 in
theorem reads_any (ev : Value) (X : Nat → Prop) (e : List Nod) (w : World) (hc : CodeAt w X ev e) (hl : e.length ≤ 1000000000000000) : Calls Try.prog 18 #[ev] w fun r w' => r = .returned (.bool (rd e)) ∧ Below w.heap.size w w' := by
  have HI := Lib.hid (contains_any ev X e w hc hl)
  clear hc
  generalize rd e = z at HI
  go_enter Try.func18, Try.ntmps18
  go_wp2_with fail
  refine HI.out.mono ?_
  rintro r w1 ⟨rfl, hb1⟩
  go_wp2_with fail
  go_ret
  exact ⟨rfl, hb1⟩

end Go.Proofs.Ytfhleldmkhllaaa

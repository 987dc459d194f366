/-
  Lemmas, joined: DevC, DevD, UMap.
-/
import Derived.Test.YtpgpjaackaedhaaJD03
import Derived.Test.YtpgpjaackaedhaaJD02
import Derived.LoopN
import Derived.WalkMore
import Derived.Test.YtpgpjaackaedhaaJD01
import Derived.Maps.Keyed
import Derived.Maps.Own
import Derived.ProofKit
/-
  The parser of a program whose one step accepts.
-/
namespace Go.Proofs.Ytpgpjaackaedhaa
open Go.RowKit

set_option maxRecDepth 100000 in
set_option maxHeartbeats 1600000 in
theorem next_plain (sp : Option Addr) (sn sc : Nat) (cp : Option Addr) (cn cc : Nat) (X : Nat) (w : World) :
    Calls Try.prog 12 #[dpV sp sn sc cp cn cc, .pointer (some ⟨X, 0, none⟩), .agg #[.slice none 0 0, .slice none 0 0, .slice none 0 0, .int .i64 (-1)]] w fun e w' => e = .returned (.int .i64 (-1)) ∧ Below w.heap.size w w' := by
  unfold dpV
  go_enter Try.func12, Try.ntmps12
  go_wp2_with fail
  go_ret
  exact ⟨rfl, (by repeat (first | exact Below.refl _ _ | assumption | refine Below.drew ?_ | refine Below.alloc ?_ (by first | omega | (simp <;> omega)) _ | refine Below.setCell ?_ (by first | omega | (simp <;> omega)) _ | refine Below.trans ?_ (Below.mono (by assumption) (by first | omega | (simp <;> omega)))))⟩

def RetParse (w : World) (port : Int) (n : Nat) (xs : List Int) (e : Ending) (w' : World) : Prop := ∃ p c g1 g2, e = .returned (.tuple #[pktD port (.slice p n c) (.slice (some ⟨g1, 0, none⟩) 0 0) (.slice (some ⟨g2, 0, none⟩) 0 0) false false 0, .bool true]) ∧ URow w' (.slice p n c) xs ∧ Below w.heap.size w w'

set_option maxRecDepth 100000 in
set_option maxHeartbeats 6400000 in
theorem parse_any (gs sc : Nat) (cp : Option Addr) (cn cc : Nat) (port : Int) (bp : Option Addr) (n bc : Nat) (xs : List Int) (w : World) (hb : URow w (.slice bp n bc) xs) (hn : n = xs.length) (hl : n ≤ 1000000)
    (h0 : w.cell? ⟨gs, 0, none⟩ = some (.slice none 0 0)) (h1 : w.cell? ⟨gs, 1, none⟩ = some (.slice none 0 0)) (h2 : w.cell? ⟨gs, 2, none⟩ = some (.slice none 0 0)) (h3 : w.cell? ⟨gs, 3, none⟩ = some (.int .i64 (-1))) :
    Calls Try.prog 7 #[dpV (some ⟨gs, 0, none⟩) 1 sc cp cn cc, .int .i64 port, .slice bp n bc] w (RetParse w port n xs) := by
  have HNEW : Hid (∀ W, Below w.heap.size w W → Calls Try.prog 10 #[dpV (some ⟨gs, 0, none⟩) 1 sc cp cn cc, .int .i64 port, .slice bp n bc] W (RetPkt W port n xs)) := fun W h => new_any _ _ _ _ _ _ _ _ _ _ _ W (hb.below keepU h) hn hl
  have HG : Hid (w.cell? ⟨gs, 0, none⟩ = some (.slice none 0 0) ∧ w.cell? ⟨gs, 1, none⟩ = some (.slice none 0 0) ∧ w.cell? ⟨gs, 2, none⟩ = some (.slice none 0 0) ∧ w.cell? ⟨gs, 3, none⟩ = some (.int .i64 (-1))) := ⟨h0, h1, h2, h3⟩
  have hgs : gs < w.heap.size := (cell_there h0).1
  clear hb hn hl h0 h1 h2 h3
  unfold dpV at HNEW ⊢
  go_enter Try.func7, Try.ntmps7
  go_wp2_with fail
  obtain ⟨W0, hW0⟩ : ∃ W0, W0 = ((w.alloc (.cells #[.slice none 0 0, .slice none 0 0, .slice (some ⟨gs, 0, none⟩) 1 sc, .slice none 0 0, .slice none 0 0, .slice cp cn cc, .slice none 0 0, .slice none 0 0, .slice none 0 0, .slice none 0 0, .slice none 0 0, .slice none 0 0] 49)).alloc (.cells #[.int .i64 0, .slice none 0 0, .slice none 0 0, .slice none 0 0, .slice none 0 0, .bool false, .bool false, .int .i64 0, .bool false] 60)) := ⟨_, rfl⟩
  have HW : Hid (Below w.heap.size w W0) := by show Below _ _ _; rw [hW0]; exact (by repeat (first | exact Below.refl _ _ | assumption | refine Below.drew ?_ | refine Below.alloc ?_ (by first | omega | (simp <;> omega)) _ | refine Below.setCell ?_ (by first | omega | (simp <;> omega)) _ | refine Below.trans ?_ (Below.mono (by assumption) (by first | omega | (simp <;> omega)))))
  have hsz0 : W0.heap.size = w.heap.size + 1 + 1 := by rw [hW0]; simp
  have hp0 : W0.heap[w.heap.size]? = some (.cells #[.slice none 0 0, .slice none 0 0, .slice (some ⟨gs, 0, none⟩) 1 sc, .slice none 0 0, .slice none 0 0, .slice cp cn cc, .slice none 0 0, .slice none 0 0, .slice none 0 0, .slice none 0 0, .slice none 0 0, .slice none 0 0] 49 (0, 0)) := by
    rw [hW0, Below.heap_alloc _ _ _ (by simp)]; exact heap_new _ _
  have HP : Hid (∀ W, Below W0.heap.size W0 W → W.cell? ⟨w.heap.size, 0, none⟩ = some (.slice none 0 0) ∧ W.cell? ⟨w.heap.size, 1, none⟩ = some (.slice none 0 0) ∧ W.cell? ⟨w.heap.size, 2, none⟩ = some (.slice (some ⟨gs, 0, none⟩) 1 sc) ∧ W.cell? ⟨w.heap.size, 3, none⟩ = some (.slice none 0 0) ∧ W.cell? ⟨w.heap.size, 4, none⟩ = some (.slice none 0 0) ∧ W.cell? ⟨w.heap.size, 5, none⟩ = some (.slice cp cn cc) ∧ W.cell? ⟨w.heap.size, 6, none⟩ = some (.slice none 0 0) ∧ W.cell? ⟨w.heap.size, 7, none⟩ = some (.slice none 0 0) ∧ W.cell? ⟨w.heap.size, 8, none⟩ = some (.slice none 0 0) ∧ W.cell? ⟨w.heap.size, 9, none⟩ = some (.slice none 0 0) ∧ W.cell? ⟨w.heap.size, 10, none⟩ = some (.slice none 0 0) ∧ W.cell? ⟨w.heap.size, 11, none⟩ = some (.slice none 0 0) ∧ W.cell? ⟨gs, 0, none⟩ = some (.slice none 0 0) ∧ W.cell? ⟨gs, 1, none⟩ = some (.slice none 0 0) ∧ W.cell? ⟨gs, 2, none⟩ = some (.slice none 0 0) ∧ W.cell? ⟨gs, 3, none⟩ = some (.int .i64 (-1))) := fun W h => by
    have h2 := (h.block _ (Array.getElem?_eq_some_iff.1 hp0).1).trans hp0
    obtain ⟨s0, s1, s2, s3⟩ := HG.out
    have hb := HW.out.trans (h.mono HW.out.size)
    have cc : ∀ i v, w.cell? ⟨gs, i, none⟩ = some v → W.cell? ⟨gs, i, none⟩ = some v := fun i v e => (hb.cell (p := ⟨gs, i, none⟩) hgs).trans e
    refine ⟨?_, ?_, ?_, ?_, ?_, ?_, ?_, ?_, ?_, ?_, ?_, ?_, cc _ _ s0, cc _ _ s1, cc _ _ s2, cc _ _ s3⟩ <;> simp [World.cell?, h2]
  have HR : Hid (W0.heap[w.heap.size + 1]? = some (.cells #[.int .i64 0, .slice none 0 0, .slice none 0 0, .slice none 0 0, .slice none 0 0, .bool false, .bool false, .int .i64 0, .bool false] 60 (0, 0))) := by
    show _ = _
    rw [hW0]
    have := heap_new (w.alloc (.cells #[.slice none 0 0, .slice none 0 0, .slice (some ⟨gs, 0, none⟩) 1 sc, .slice none 0 0, .slice none 0 0, .slice cp cn cc, .slice none 0 0, .slice none 0 0, .slice none 0 0, .slice none 0 0, .slice none 0 0, .slice none 0 0] 49)) (.cells #[.int .i64 0, .slice none 0 0, .slice none 0 0, .slice none 0 0, .slice none 0 0, .bool false, .bool false, .int .i64 0, .bool false] 60)
    simp only [World.size_alloc] at this
    exact this
  rw [← hW0]
  clear hW0 hp0 hgs
  obtain ⟨q0, q1, q2, q3, q4, q5, q6, q7, q8, q9, q10, q11, -, -, -, -⟩ := HP.out W0 (Below.refl _ _)
  go_step3
  go_wp2_with (go_at_call 10; refine (HNEW.out _ HW.out).mono ?_; rintro e w1 ⟨p, c, g1, g2, rfl, hu1, hb1⟩; unfold pktD; have HU1 := Lib.hid hu1; have HB1 := Lib.hid hb1; clear hu1 hb1)
  go_step3
  obtain ⟨W1, hW1⟩ : ∃ W1, W1 = w1.alloc (.cells #[.int .i64 port, .slice p n c, .slice (some ⟨g1, 0, none⟩) 0 0, .slice none 0 0, .slice (some ⟨g2, 0, none⟩) 0 0, .bool false, .bool false, .int .i64 0, .bool false] 60) := ⟨_, rfl⟩
  have HB2 : Hid (Below W0.heap.size W0 W1) := by show Below _ _ _; rw [hW1]; exact HB1.out.alloc HB1.out.size _
  have HX : Hid (W1.heap[w1.heap.size]? = some (.cells #[.int .i64 port, .slice p n c, .slice (some ⟨g1, 0, none⟩) 0 0, .slice none 0 0, .slice (some ⟨g2, 0, none⟩) 0 0, .bool false, .bool false, .int .i64 0, .bool false] 60 (0, 0))) := by show _ = _; rw [hW1]; exact heap_new w1 _
  have HU2 : Hid (URow W1 (.slice p n c) xs) := by show URow _ _ _; rw [hW1]; exact HU1.out.below keepU ((Below.refl _ _).alloc (Nat.le_refl _) _)
  have hX1 : w1.heap.size < W1.heap.size := by rw [hW1]; simp
  rw [← hW1]
  clear hW1 q0 q1 q2 q3 q4 q5 q6 q7 q8 q9 q10 q11 HU1
  generalize w1.heap.size = X at *
  go_wp2_with fail
  go_loopw [9, 10] (fun a m wr => ((a = .int .i64 0 ∧ m = .int .i64 0) ∨ (a = .int .i64 (-1) ∧ m = .int .i64 1)) ∧ Hid (Below W1.heap.size W1 wr)) (fun _ m _ => (1 - intOf m).toNat)
  case atStart => exact ⟨.inl ⟨rfl, rfl⟩, Below.refl _ _⟩
  case round =>
    obtain ⟨hc, HWR⟩ := hrel
    have HBR : Hid (Below W0.heap.size W0 wr) := HB2.out.trans (HWR.out.mono HB2.out.size)
    obtain ⟨q0, q1, q2, q3, q4, q5, q6, q7, q8, q9, q10, q11, s0, s1, s2, s3⟩ := HP.out wr HBR.out
    rcases hc with ⟨rfl, rfl⟩ | ⟨rfl, rfl⟩
    · have HNX : Hid (∀ W, Calls Try.prog 12 #[.agg #[.slice none 0 0, .slice none 0 0, .slice (some ⟨gs, 0, none⟩) 1 sc, .slice none 0 0, .slice none 0 0, .slice cp cn cc, .slice none 0 0, .slice none 0 0, .slice none 0 0, .slice none 0 0, .slice none 0 0, .slice none 0 0], .pointer (some ⟨X, 0, none⟩), .agg #[.slice none 0 0, .slice none 0 0, .slice none 0 0, .int .i64 (-1)]] W fun e w' => e = .returned (.int .i64 (-1)) ∧ Below W.heap.size W w') := fun W => next_plain _ _ _ _ _ _ X W
      go_wp2_with fail
      go_loopw [9, 35] (fun a i wq => a = .int .i64 0 ∧ i = .int .i64 0 ∧ wq = wr) (fun _ _ _ => 0)
      case atStart => exact ⟨rfl, rfl, rfl⟩
      case round =>
        obtain ⟨rfl, rfl, rfl⟩ := hrel
        go_wp2_with fail
        go_region_with (first | (go_at_call 12; refine (HNX.out _).mono ?_; rintro e w3 ⟨rfl, hb3⟩; have HW3 : Hid (Below W1.heap.size W1 w3) := HWR.out.trans ((below_drewN (Below.refl _ _) 1).trans (hb3.mono (by simp)) |>.mono HWR.out.size); clear hb3))
        all_goals
          clear q0 q1 q2 q3 q4 q5 q6 q7 q8 q9 q10 q11 s0 s1 s2 s3
          obtain ⟨q0, q1, q2, q3, q4, q5, q6, q7, q8, q9, q10, q11, s0, s1, s2, s3⟩ := HP.out w3 (HB2.out.trans (HW3.out.mono HB2.out.size))
          go_wp2_with fail
          exact ⟨⟨.inr ⟨rfl, rfl⟩, HW3⟩, by simp [intOf]⟩
    · have hx3 := (HWR.out.block X hX1).trans HX.out
      have hr3 := (HBR.out.block (w.heap.size + 1) (by omega)).trans HR.out
      have d0 : wr.cell? ⟨X, 0, none⟩ = some (.int .i64 port) := by simp [World.cell?, hx3]
      have e0 : wr.cell? ⟨w.heap.size + 1, 0, none⟩ = some (.int .i64 0) := by simp [World.cell?, hr3]
      have l0 : wr.frozen? ⟨w.heap.size + 1, 0, none⟩ = false := by simp [World.frozen?, hr3]
      have d1 : wr.cell? ⟨X, 1, none⟩ = some (.slice p n c) := by simp [World.cell?, hx3]
      have e1 : wr.cell? ⟨w.heap.size + 1, 1, none⟩ = some (.slice none 0 0) := by simp [World.cell?, hr3]
      have l1 : wr.frozen? ⟨w.heap.size + 1, 1, none⟩ = false := by simp [World.frozen?, hr3]
      have d2 : wr.cell? ⟨X, 2, none⟩ = some (.slice (some ⟨g1, 0, none⟩) 0 0) := by simp [World.cell?, hx3]
      have e2 : wr.cell? ⟨w.heap.size + 1, 2, none⟩ = some (.slice none 0 0) := by simp [World.cell?, hr3]
      have l2 : wr.frozen? ⟨w.heap.size + 1, 2, none⟩ = false := by simp [World.frozen?, hr3]
      have d3 : wr.cell? ⟨X, 3, none⟩ = some (.slice none 0 0) := by simp [World.cell?, hx3]
      have e3 : wr.cell? ⟨w.heap.size + 1, 3, none⟩ = some (.slice none 0 0) := by simp [World.cell?, hr3]
      have l3 : wr.frozen? ⟨w.heap.size + 1, 3, none⟩ = false := by simp [World.frozen?, hr3]
      have d4 : wr.cell? ⟨X, 4, none⟩ = some (.slice (some ⟨g2, 0, none⟩) 0 0) := by simp [World.cell?, hx3]
      have e4 : wr.cell? ⟨w.heap.size + 1, 4, none⟩ = some (.slice none 0 0) := by simp [World.cell?, hr3]
      have l4 : wr.frozen? ⟨w.heap.size + 1, 4, none⟩ = false := by simp [World.frozen?, hr3]
      have d5 : wr.cell? ⟨X, 5, none⟩ = some (.bool false) := by simp [World.cell?, hx3]
      have e5 : wr.cell? ⟨w.heap.size + 1, 5, none⟩ = some (.bool false) := by simp [World.cell?, hr3]
      have l5 : wr.frozen? ⟨w.heap.size + 1, 5, none⟩ = false := by simp [World.frozen?, hr3]
      have d6 : wr.cell? ⟨X, 6, none⟩ = some (.bool false) := by simp [World.cell?, hx3]
      have e6 : wr.cell? ⟨w.heap.size + 1, 6, none⟩ = some (.bool false) := by simp [World.cell?, hr3]
      have l6 : wr.frozen? ⟨w.heap.size + 1, 6, none⟩ = false := by simp [World.frozen?, hr3]
      have d7 : wr.cell? ⟨X, 7, none⟩ = some (.int .i64 0) := by simp [World.cell?, hx3]
      have e7 : wr.cell? ⟨w.heap.size + 1, 7, none⟩ = some (.int .i64 0) := by simp [World.cell?, hr3]
      have l7 : wr.frozen? ⟨w.heap.size + 1, 7, none⟩ = false := by simp [World.frozen?, hr3]
      have d8 : wr.cell? ⟨X, 8, none⟩ = some (.bool false) := by simp [World.cell?, hx3]
      have e8 : wr.cell? ⟨w.heap.size + 1, 8, none⟩ = some (.bool false) := by simp [World.cell?, hr3]
      have l8 : wr.frozen? ⟨w.heap.size + 1, 8, none⟩ = false := by simp [World.frozen?, hr3]
      go_wp2_with fail
      rw [Exit.noGoto_ret]
      have hb4 := set9_heap (.int .i64 port) (.slice p n c) (.slice (some ⟨g1, 0, none⟩) 0 0) (.slice none 0 0) (.slice (some ⟨g2, 0, none⟩) 0 0) (.bool false) (.bool false) (.int .i64 0) (.bool false) hr3
      refine bodyPost_ret (v := .tuple #[pktD port (.slice p n c) (.slice (some ⟨g1, 0, none⟩) 0 0) (.slice (some ⟨g2, 0, none⟩) 0 0) false false 0, .bool true]) ?_ rfl ⟨p, c, g1, g2, rfl, ?_, ?_⟩
      · obtain ⟨W4, hW4⟩ : ∃ W4, W4 = set9 wr (w.heap.size + 1) (.int .i64 port) (.slice p n c) (.slice (some ⟨g1, 0, none⟩) 0 0) (.slice none 0 0) (.slice (some ⟨g2, 0, none⟩) 0 0) (.bool false) (.bool false) (.int .i64 0) (.bool false) := ⟨_, rfl⟩
        change Sem.run Try.prog (results _ _) (set9 wr (w.heap.size + 1) (.int .i64 port) (.slice p n c) (.slice (some ⟨g1, 0, none⟩) 0 0) (.slice none 0 0) (.slice (some ⟨g2, 0, none⟩) 0 0) (.bool false) (.bool false) (.int .i64 0) (.bool false)) = Result.ok _ (set9 wr (w.heap.size + 1) (.int .i64 port) (.slice p n c) (.slice (some ⟨g1, 0, none⟩) 0 0) (.slice none 0 0) (.slice (some ⟨g2, 0, none⟩) 0 0) (.bool false) (.bool false) (.int .i64 0) (.bool false))
        rw [← hW4] at hb4 ⊢
        clear hW4
        have m0 : W4.cell? ⟨w.heap.size + 1, 0, none⟩ = some (.int .i64 port) := by simp [World.cell?, hb4]
        have m1 : W4.cell? ⟨w.heap.size + 1, 1, none⟩ = some (.slice p n c) := by simp [World.cell?, hb4]
        have m2 : W4.cell? ⟨w.heap.size + 1, 2, none⟩ = some (.slice (some ⟨g1, 0, none⟩) 0 0) := by simp [World.cell?, hb4]
        have m3 : W4.cell? ⟨w.heap.size + 1, 3, none⟩ = some (.slice none 0 0) := by simp [World.cell?, hb4]
        have m4 : W4.cell? ⟨w.heap.size + 1, 4, none⟩ = some (.slice (some ⟨g2, 0, none⟩) 0 0) := by simp [World.cell?, hb4]
        have m5 : W4.cell? ⟨w.heap.size + 1, 5, none⟩ = some (.bool false) := by simp [World.cell?, hb4]
        have m6 : W4.cell? ⟨w.heap.size + 1, 6, none⟩ = some (.bool false) := by simp [World.cell?, hb4]
        have m7 : W4.cell? ⟨w.heap.size + 1, 7, none⟩ = some (.int .i64 0) := by simp [World.cell?, hb4]
        have m8 : W4.cell? ⟨w.heap.size + 1, 8, none⟩ = some (.bool false) := by simp [World.cell?, hb4]
        simp [results, Try.results7, go_sem, pktD, m0, m1, m2, m3, m4, m5, m6, m7, m8]
      · have hu4 : URow wr (.slice p n c) xs := HU2.out.below keepU HWR.out
        exact hu4.apart (cells9_no8 hr3 (by simp)) (fun k hk _ => set9_other wr (.int .i64 port) (.slice p n c) (.slice (some ⟨g1, 0, none⟩) 0 0) (.slice none 0 0) (.slice (some ⟨g2, 0, none⟩) 0 0) (.bool false) (.bool false) (.int .i64 0) (.bool false) hk) (by show _ ≤ (set9 wr (w.heap.size + 1) (.int .i64 port) (.slice p n c) (.slice (some ⟨g1, 0, none⟩) 0 0) (.slice none 0 0) (.slice (some ⟨g2, 0, none⟩) 0 0) (.bool false) (.bool false) (.int .i64 0) (.bool false)).heap.size; rw [set9_size]; omega)
      · exact set9_below (.int .i64 port) (.slice p n c) (.slice (some ⟨g1, 0, none⟩) 0 0) (.slice none 0 0) (.slice (some ⟨g2, 0, none⟩) 0 0) (.bool false) (.bool false) (.int .i64 0) (.bool false) (HW.out.trans (HBR.out.mono HW.out.size)) (by omega)

end Go.Proofs.Ytpgpjaackaedhaa

/-
  header.Emit of a program that emits no header.
-/
namespace Go.Proofs.Ytpgpjaackaedhaa
open Go.RowKit

theorem own_mono {w : World} {base base' e size n : Nat} {v : Value} {xs : List Value} (h : w.ownsRow base e size v n xs) (hb : base' ≤ base) : w.ownsRow base' e size v n xs := by
  refine ⟨h.1, ?_⟩
  rcases h.2 with q | ⟨g, cap, cur, q1, q2, q3⟩
  · exact .inl q
  · exact .inr ⟨g, cap, cur, q1, Nat.le_trans hb q2, q3⟩

set_option maxRecDepth 100000 in
set_option maxHeartbeats 6400000 in
theorem emit_any (sp : Option Addr) (sn sc : Nat) (cp : Option Addr) (cn cc : Nat) (port : Int) (p : Option Addr) (n c : Nat) (g1 g2 : Nat) (d s : Bool) (ex : Int) (xs : List Int) (w : World) (hu : URow w (.slice p n c) xs) (hl : n ≤ 1000000) :
    Calls Try.prog 9 #[dpV sp sn sc cp cn cc, pktD port (.slice p n c) (.slice (some ⟨g1, 0, none⟩) 0 0) (.slice (some ⟨g2, 0, none⟩) 0 0) d s ex] w (RetU w xs) := by
  obtain ⟨hnl, hnc, hcm, -⟩ : n = xs.length ∧ n ≤ c ∧ c ≤ maxLen ∧ True := by
    obtain ⟨pa, cap, e, h1, h2, h3, -⟩ := hu
    cases e
    exact ⟨rfl, h1, h2, trivial⟩
  have HU := Lib.hid hu
  have HN := Lib.hid hnl
  unfold dpV pktD
  clear hu hnl
  go_enter Try.func9, Try.ntmps9
  go_wp2_with fail
  obtain ⟨Wa, hWa⟩ : ∃ Wa, Wa = (w.alloc (.cells #[.slice none 0 0, .slice none 0 0, .slice sp sn sc, .slice none 0 0, .slice none 0 0, .slice cp cn cc, .slice none 0 0, .slice none 0 0, .slice none 0 0, .slice none 0 0, .slice none 0 0, .slice none 0 0] 49)).alloc (.cells #[.int .i64 port, .slice p n c, .slice (some ⟨g1, 0, none⟩) 0 0, .slice none 0 0, .slice (some ⟨g2, 0, none⟩) 0 0, .bool d, .bool s, .int .i64 ex, .bool false] 60) := ⟨_, rfl⟩
  have hsa : Wa.heap.size = w.heap.size + 1 + 1 := by rw [hWa]; simp
  have hba : Below w.heap.size w Wa := by rw [hWa]; exact (by repeat (first | exact Below.refl _ _ | assumption | refine Below.drew ?_ | refine Below.alloc ?_ (by first | omega | (simp <;> omega)) _ | refine Below.setCell ?_ (by first | omega | (simp <;> omega)) _ | refine Below.trans ?_ (Below.mono (by assumption) (by first | omega | (simp <;> omega)))))
  have hxa : Wa.heap[w.heap.size + 1]? = some (.cells #[.int .i64 port, .slice p n c, .slice (some ⟨g1, 0, none⟩) 0 0, .slice none 0 0, .slice (some ⟨g2, 0, none⟩) 0 0, .bool d, .bool s, .int .i64 ex, .bool false] 60 (0, 0)) := by
    rw [hWa]
    have := heap_new (w.alloc (.cells #[.slice none 0 0, .slice none 0 0, .slice sp sn sc, .slice none 0 0, .slice none 0 0, .slice cp cn cc, .slice none 0 0, .slice none 0 0, .slice none 0 0, .slice none 0 0, .slice none 0 0, .slice none 0 0] 49)) (.cells #[.int .i64 port, .slice p n c, .slice (some ⟨g1, 0, none⟩) 0 0, .slice none 0 0, .slice (some ⟨g2, 0, none⟩) 0 0, .bool d, .bool s, .int .i64 ex, .bool false] 60)
    simp only [World.size_alloc] at this
    exact this
  rw [← hWa]
  clear hWa
  obtain ⟨W1, hW1⟩ : ∃ W1, W1 = ((Wa.alloc (.cells #[] 5)).alloc (.cells #[.slice (some ⟨w.heap.size + 1 + 1, 0, none⟩) 0 0] 23)).alloc (.cells #[.int .i64 0] 3) := ⟨_, rfl⟩
  have HB : Hid (Below w.heap.size w W1) := by show Below _ _ _; rw [hW1]; exact ((hba.alloc (by omega) _).alloc (by simp; omega) _).alloc (by simp; omega) _
  have HO : Hid (W1.ownsRow w.heap.size 5 1 (.slice (some ⟨w.heap.size + 1 + 1, 0, none⟩) 0 0) 0 []) := by
    show World.ownsRow _ _ _ _ _ _ _
    rw [hW1]
    have := owns_made0 Wa 5 1
    rw [hsa] at this
    exact ((own_mono this (by omega)).alloc _).alloc _
  have hx1 : W1.heap[w.heap.size + 1]? = some (.cells #[.int .i64 port, .slice p n c, .slice (some ⟨g1, 0, none⟩) 0 0, .slice none 0 0, .slice (some ⟨g2, 0, none⟩) 0 0, .bool d, .bool s, .int .i64 ex, .bool false] 60 (0, 0)) := by
    rw [hW1, Below.heap_alloc _ _ _ (by simp; omega), Below.heap_alloc _ _ _ (by simp; omega), Below.heap_alloc _ _ _ (by omega)]; exact hxa
  have hy1 : W1.heap[w.heap.size + 1 + 1 + 1]? = some (.cells #[.slice (some ⟨w.heap.size + 1 + 1, 0, none⟩) 0 0] 23 (0, 0)) := by
    rw [hW1, Below.heap_alloc _ _ _ (by simp; omega)]
    have := heap_new (Wa.alloc (.cells #[] 5)) (.cells #[.slice (some ⟨w.heap.size + 1 + 1, 0, none⟩) 0 0] 23)
    simp only [World.size_alloc, hsa] at this
    exact this
  rw [← hW1]
  clear hW1 hxa hba hsa
  have q1 : W1.cell? ⟨w.heap.size + 1, 1, none⟩ = some (.slice p n c) := by simp [World.cell?, hx1]
  have q2 : W1.cell? ⟨w.heap.size + 1 + 1 + 1, 0, none⟩ = some (.slice (some ⟨w.heap.size + 1 + 1, 0, none⟩) 0 0) := by simp [World.cell?, hy1]
  have HS : Hid (SrcAt W1 1 (.slice p n c) n (xs.flatMap fun n => [Value.int .u8 n])) := by
    have := (HU.out.below keepU HB.out).src flatU.toFlatG
    rwa [← HN.out] at this
  clear hx1 hy1
  go_loopw [18] (fun i wr => i = .int .i64 0 ∧ wr = W1) (fun _ _ => 0)
  case atStart => exact ⟨rfl, rfl⟩
  case round =>
    obtain ⟨rfl, rfl⟩ := hrel
    have hwz : w.heap.size ≤ wr.heap.size := HB.out.size
    go_wp2_with (first
      | (at_builtin; refine append_gen elemU8 rfl (.tmp 74) (.tmp 76) rfl w.heap.size (.slice (some ⟨w.heap.size + 1 + 1, 0, none⟩) 0 0) 0 [] rfl HO.out (.slice p n c) n _ rfl HS.out (by omega) (by unfold maxLen; omega) hwz ?_; intro y1 w1 h1 h2; have HO1 := Lib.hid h1; have HB1 : Hid (Below w.heap.size w w1) := below_grown HB.out HO.out h2 (Nat.le_refl _) hwz; clear h1 h2))
    go_ret
    refine ⟨_, rfl, RowAt.of_flat (base := w.heap.size) (E := 5) (n := 0 + n) flatU (l := xs) (by rw [Nat.zero_add]; exact HN.out) ?_, HB1.out⟩
    simpa using HO1.out

end Go.Proofs.Ytpgpjaackaedhaa

/-
  A map from small numbers to any values, made by the call: a store of a new key, a look-up.
-/
namespace Go.Proofs.Ytpgpjaackaedhaa
open Go.RowKit Go.Maps

/-- Block m is a map of these entries. -/
def UMap (w : World) (m : Nat) (es : List (Int × Value)) : Prop :=
  ∃ arr clock, w.heap[m]? = some (.map arr clock) ∧ arr.toList.map (fun e => (e.key, e.val)) = es.map (fun p => (Value.int .u8 p.1, p.2)) ∧ (∀ p ∈ es, (Lit.int .u8 p.1).wf = true) ∧ (es.map Prod.fst).Nodup

theorem UMap.empty (w : World) (m : Nat) (h : w.heap[m]? = some (.map #[] 0)) : UMap w m [] := ⟨#[], 0, h, rfl, by simp, by simp⟩
theorem UMap.kept {w w' : World} {m : Nat} {es : List (Int × Value)} (h : UMap w m es) (hb : w'.heap[m]? = w.heap[m]?) : UMap w' m es := by
  obtain ⟨arr, clock, h1, h2⟩ := h
  exact ⟨arr, clock, hb.trans h1, h2⟩
theorem UMap.lt {w : World} {m : Nat} {es : List (Int × Value)} (h : UMap w m es) : m < w.heap.size := by
  obtain ⟨arr, clock, hb, -⟩ := h
  exact (Array.getElem?_eq_some_iff.1 hb).1
theorem UMap.below {w w' : World} {m : Nat} {es : List (Int × Value)} (h : UMap w m es) (hb : Below w.heap.size w w') : UMap w' m es := h.kept (hb.block m h.lt)

section
variable {P : Program} {k T e : TypeId} {w : World} {m : Nat} {es : List (Int × Value)}

theorem UMap.keys {arr : Array MapEntry} (h : arr.toList.map (fun e => (e.key, e.val)) = es.map (fun p => (Value.int .u8 p.1, p.2))) {x : MapEntry} (hx : x ∈ arr.toList) : ∃ p ∈ es, x.key = .int .u8 p.1 ∧ x.val = p.2 := by
  have : (x.key, x.val) ∈ arr.toList.map (fun e => (e.key, e.val)) := List.mem_map.2 ⟨x, hx, rfl⟩
  rw [h] at this
  obtain ⟨p, hp, he⟩ := List.mem_map.1 this
  simp only [Prod.mk.injEq] at he
  exact ⟨p, hp, he.1.symm, he.2.symm⟩

theorem UMap.look (h : UMap w m es) (hk : P.underlying k = some (.int .u8)) (ht : P.underlying T = some (.map k e)) {x : Int} {v : Value} (hx : (x, v) ∈ es) :
    (Instr.lookup T (.map (some m)) (.int .u8 x) true).run P w = .ok (.tuple #[v, .bool true]) w := by
  obtain ⟨arr, clock, hb, h1, h2, h3⟩ := h
  have K := int_keyed hk
  have hkey := keyOf_int_mk hk (h2 _ hx)
  rcases K.find w hkey arr.toList (fun y hy => by obtain ⟨p, hp, e1, -⟩ := UMap.keys h1 hy; exact ⟨_, by rw [e1]; exact keyOf_int_mk hk (h2 _ hp)⟩) with ⟨f1, f2⟩ | ⟨j, e0, f1, f2, f3⟩
  · exfalso
    have : (Value.int .u8 x, v) ∈ arr.toList.map (fun e => (e.key, e.val)) := by rw [h1]; exact List.mem_map.2 ⟨_, hx, rfl⟩
    obtain ⟨y, hy, he⟩ := List.mem_map.1 this
    simp only [Prod.mk.injEq] at he
    exact f2 y hy he.1
  · obtain ⟨p, hp, e1, e2⟩ := UMap.keys h1 (List.mem_of_getElem? f2)
    have hpx : p.1 = x := by rw [f3] at e1; simpa using e1.symm
    have hv : p.2 = v := by
      have : ∀ (l : List (Int × Value)), (l.map Prod.fst).Nodup → p ∈ l → (x, v) ∈ l → p.2 = v := by
        intro l
        induction l with
        | nil => intro _ hp; cases hp
        | cons q l ih =>
          intro hn hp hx
          rw [List.map_cons, List.nodup_cons] at hn
          rcases List.mem_cons.1 hp with rfl | hp' <;> rcases List.mem_cons.1 hx with hx' | hx'
          · rw [← hx']
          · exact absurd (List.mem_map.2 ⟨_, hx', hpx.symm⟩) hn.1
          · exact absurd (List.mem_map.2 ⟨_, hp', by rw [← hx']; exact hpx⟩) hn.1
          · exact ih hn.2 hp' hx'
      exact this es h3 hp hx
    simp [Instr.lookup, run_underlying ht, MapKept.run_getObj_map hb, K.check w _ hkey, f1, Result.andThen, e2, hv]

theorem UMap.miss (h : UMap w m es) (hk : P.underlying k = some (.int .u8)) (ht : P.underlying T = some (.map k e)) {z : Value} (hz : (zeroValue e).run P w = .ok z w) {x : Int} (hw : (Lit.int .u8 x).wf = true) (hx : ∀ p ∈ es, p.1 ≠ x) :
    (Instr.lookup T (.map (some m)) (.int .u8 x) true).run P w = .ok (.tuple #[z, .bool false]) w := by
  obtain ⟨arr, clock, hb, h1, h2, h3⟩ := h
  have K := int_keyed hk
  have hkey := keyOf_int_mk hk hw
  rcases K.find w hkey arr.toList (fun y hy => by obtain ⟨p, hp, e1, -⟩ := UMap.keys h1 hy; exact ⟨_, by rw [e1]; exact keyOf_int_mk hk (h2 _ hp)⟩) with ⟨f1, f2⟩ | ⟨j, e0, f1, f2, f3⟩
  · simp [Instr.lookup, run_underlying ht, MapKept.run_getObj_map hb, K.check w _ hkey, f1, hz, Result.andThen]
  · exfalso
    obtain ⟨p, hp, e1, e2⟩ := UMap.keys h1 (List.mem_of_getElem? f2)
    rw [f3] at e1
    exact hx p hp (by simpa using e1.symm)

theorem UMap.put (h : UMap w m es) (hk : P.underlying k = some (.int .u8)) (ht : P.underlying T = some (.map k e)) {x : Int} (v : Value) (hw : (Lit.int .u8 x).wf = true) (hx : ∀ p ∈ es, p.1 ≠ x) :
    ∃ w', (Instr.mapUpdate T (.map (some m)) (.int .u8 x) v).run P w = .ok () w' ∧ UMap w' m (es ++ [(x, v)]) ∧ w.grownBy w' (some m) := by
  obtain ⟨arr, clock, hb, h1, h2, h3⟩ := h
  have K := int_keyed hk
  have hkey := keyOf_int_mk hk hw
  have hg : ∀ o : Obj, w.grownBy (ChangeMaps.setBlock w m o) (some m) := fun o => ⟨rfl, rfl, rfl, by simp [ChangeMaps.setBlock], fun i _ hi => ChangeMaps.heap_setBlock_other hb o (fun e => hi (by rw [e]))⟩
  rcases K.find w hkey arr.toList (fun y hy => by obtain ⟨p, hp, e1, -⟩ := UMap.keys h1 hy; exact ⟨_, by rw [e1]; exact keyOf_int_mk hk (h2 _ hp)⟩) with ⟨f1, f2⟩ | ⟨j, e0, f1, f2, f3⟩
  · refine ⟨ChangeMaps.setBlock w m (.map (arr.push ⟨.int .u8 x, v, clock⟩) (clock + 1)), ?_, ⟨_, _, ChangeMaps.heap_setBlock_same hb _, ?_, ?_, ?_⟩, hg _⟩
    · simp [Instr.mapUpdate, run_underlying ht, MapKept.run_getObj_map hb, K.check w false hkey, f1, MapKept.run_setObj_map _ hb, Result.andThen, ChangeMaps.setBlock]
    · rw [Array.toList_push, List.map_append, List.map_append, h1]; rfl
    · intro p hp
      rcases List.mem_append.1 hp with q | q
      · exact h2 p q
      · rw [List.mem_singleton.1 q]; exact hw
    · rw [List.map_append, List.nodup_append]
      refine ⟨h3, by simp, ?_⟩
      intro a ha b hb2
      obtain ⟨p, hp, rfl⟩ := List.mem_map.1 ha
      simp at hb2
      rw [hb2]
      exact hx p hp
  · exfalso
    obtain ⟨p, hp, e1, e2⟩ := UMap.keys h1 (List.mem_of_getElem? f2)
    rw [f3] at e1
    exact hx p hp (by simpa using e1.symm)

/-- A map literal's entry, at the operation. -/
theorem wpList_put {ops : Array Oper} {rest : List Oper} {o : Oper} {a : Act} {Q : Exit → Act → World → Prop} (hg : o.guard = none) (mo x v : Operand) (hop : o.op = Op.insert T mo x v)
    (hk : P.underlying k = some (.int .u8)) (ht : P.underlying T = some (.map k e)) (hm : a.eval mo = .map (some m)) (h : UMap w m es) (key : Int) (hx : a.eval x = .int .u8 key) (val : Value) (hv : a.eval v = val) (hw : (Lit.int .u8 key).wf = true) (hn : ∀ p ∈ es, p.1 ≠ key)
    (hK : ∀ w', UMap w' m (es ++ [(key, val)]) → w.grownBy w' (some m) → wpList P ops Q rest (a.put o.dst undef) w') : wpList P ops Q (o :: rest) a w := by
  refine wpList_plain hg fun K' hK' => ?_
  obtain ⟨w', hrun, r1, r2⟩ := h.put hk ht val hw hn
  unfold Oper.wp
  simp [execOp, hop, hm, hx, hv, hrun, Result.andThen]
  exact hK' _ _ (hK w' r1 r2)
end

end Go.Proofs.Ytpgpjaackaedhaa

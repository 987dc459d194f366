/-
  Lemmas, joined: DevK, DevL.
-/
import Derived.Test.YtpgpjaackaedhaaJD15
import Derived.Laws.BytesArg
/-
  device.Pass of a program without headers.
-/
namespace Go.Proofs.Ytpgpjaackaedhaa
open Go.RowKit Go.Maps

def set6 (w : World) (g : Nat) (b0 b1 b2 b3 b4 b5 : Value) : World := (((((w.setCell ⟨g, 0, none⟩ b0).setCell ⟨g, 1, none⟩ b1).setCell ⟨g, 2, none⟩ b2).setCell ⟨g, 3, none⟩ b3).setCell ⟨g, 4, none⟩ b4).setCell ⟨g, 5, none⟩ b5
theorem set6_heap {w : World} {g : Nat} {t : TypeId} {a0 a1 a2 a3 a4 a5 : Value} (b0 b1 b2 b3 b4 b5 : Value) (h : w.heap[g]? = some (.cells #[a0, a1, a2, a3, a4, a5] t (0, 0))) : (set6 w g b0 b1 b2 b3 b4 b5).heap[g]? = some (.cells #[b0, b1, b2, b3, b4, b5] t (0, 0)) := by
  have h1 : (w.setCell ⟨g, 0, none⟩ b0).heap[g]? = some (.cells #[b0, a1, a2, a3, a4, a5] t (0, 0)) := heap_setCell_same w g 0 _ t b0 h
  have h2 : ((w.setCell ⟨g, 0, none⟩ b0).setCell ⟨g, 1, none⟩ b1).heap[g]? = some (.cells #[b0, b1, a2, a3, a4, a5] t (0, 0)) := heap_setCell_same (w.setCell ⟨g, 0, none⟩ b0) g 1 _ t b1 h1
  have h3 : (((w.setCell ⟨g, 0, none⟩ b0).setCell ⟨g, 1, none⟩ b1).setCell ⟨g, 2, none⟩ b2).heap[g]? = some (.cells #[b0, b1, b2, a3, a4, a5] t (0, 0)) := heap_setCell_same ((w.setCell ⟨g, 0, none⟩ b0).setCell ⟨g, 1, none⟩ b1) g 2 _ t b2 h2
  have h4 : ((((w.setCell ⟨g, 0, none⟩ b0).setCell ⟨g, 1, none⟩ b1).setCell ⟨g, 2, none⟩ b2).setCell ⟨g, 3, none⟩ b3).heap[g]? = some (.cells #[b0, b1, b2, b3, a4, a5] t (0, 0)) := heap_setCell_same (((w.setCell ⟨g, 0, none⟩ b0).setCell ⟨g, 1, none⟩ b1).setCell ⟨g, 2, none⟩ b2) g 3 _ t b3 h3
  have h5 : (((((w.setCell ⟨g, 0, none⟩ b0).setCell ⟨g, 1, none⟩ b1).setCell ⟨g, 2, none⟩ b2).setCell ⟨g, 3, none⟩ b3).setCell ⟨g, 4, none⟩ b4).heap[g]? = some (.cells #[b0, b1, b2, b3, b4, a5] t (0, 0)) := heap_setCell_same ((((w.setCell ⟨g, 0, none⟩ b0).setCell ⟨g, 1, none⟩ b1).setCell ⟨g, 2, none⟩ b2).setCell ⟨g, 3, none⟩ b3) g 4 _ t b4 h4
  have h6 : ((((((w.setCell ⟨g, 0, none⟩ b0).setCell ⟨g, 1, none⟩ b1).setCell ⟨g, 2, none⟩ b2).setCell ⟨g, 3, none⟩ b3).setCell ⟨g, 4, none⟩ b4).setCell ⟨g, 5, none⟩ b5).heap[g]? = some (.cells #[b0, b1, b2, b3, b4, b5] t (0, 0)) := heap_setCell_same (((((w.setCell ⟨g, 0, none⟩ b0).setCell ⟨g, 1, none⟩ b1).setCell ⟨g, 2, none⟩ b2).setCell ⟨g, 3, none⟩ b3).setCell ⟨g, 4, none⟩ b4) g 5 _ t b5 h5
  exact h6
theorem set6_other (w : World) {g k : Nat} (b0 b1 b2 b3 b4 b5 : Value) (h : k ≠ g) : (set6 w g b0 b1 b2 b3 b4 b5).heap[k]? = w.heap[k]? := by
  unfold set6; rw [setCell_heap h, setCell_heap h, setCell_heap h, setCell_heap h, setCell_heap h, setCell_heap h]
theorem set6_size (w : World) (g : Nat) (b0 b1 b2 b3 b4 b5 : Value) : (set6 w g b0 b1 b2 b3 b4 b5).heap.size = w.heap.size := by unfold set6; simp
theorem set6_below {N : Nat} {w0 w : World} {g : Nat} (b0 b1 b2 b3 b4 b5 : Value) (h : Below N w0 w) (hg : N ≤ g) : Below N w0 (set6 w g b0 b1 b2 b3 b4 b5) := by
  unfold set6
  exact ((((((h.setCell hg b0).setCell hg b1).setCell hg b2).setCell hg b3).setCell hg b4).setCell hg b5)
theorem cells_no8 {w : World} {g : Nat} {t : TypeId} {l : List Value} (h : w.heap[g]? = some (.cells l.toArray t (0, 0))) (hn : ∀ a ∈ l, ∀ x, a ≠ .int .u8 x) (o : Nat) (x : Int) : w.cell? ⟨g, o, none⟩ ≠ some (.int .u8 x) := by
  intro hc
  simp only [World.cell?, h] at hc
  have hm : Value.int .u8 x ∈ l := List.mem_of_getElem? (l := l) (i := o) (a := Value.int .u8 x) (by simpa using hc)
  exact hn _ hm x rfl

/-- What becomes of a packet. -/
def goneV (out long : Bool) (port : Int) (b : Value) : Value := .agg #[.bool true, .bool out, .bool long, .bool false, .int .i64 port, b]
def PassR (w : World) (n v : Nat) (xs : List Int) (e : Ending) (w' : World) : Prop :=
  Below w.heap.size w w' ∧ (n = 2 → e = .returned (goneV false false 0 (.slice none 0 0))) ∧ (n = 1 → 64 < xs.length → e = .returned (goneV false true 0 (.slice none 0 0))) ∧
  (n = 1 → xs.length ≤ 64 → ∃ p c, e = .returned (goneV true false v (.slice p xs.length c)) ∧ URow w' (.slice p xs.length c) xs)

set_option maxRecDepth 100000 in
set_option maxHeartbeats 6400000 in
theorem pass_any (gs sc gI n uc gc v ec : Nat) (port : Int) (bp : Option Addr) (m bc : Nat) (xs : List Int) (w : World) (hv : v < 512) (hn : n = 1 ∨ n = 2) (hb : URow w (.slice bp m bc) xs) (hm : m = xs.length) (hl : m ≤ 1000000) (hc : ConstAt w gc v) (hI : InsAt w gI gc ec n)
    (h0 : w.cell? ⟨gs, 0, none⟩ = some (.slice none 0 0)) (h1 : w.cell? ⟨gs, 1, none⟩ = some (.slice none 0 0)) (h2 : w.cell? ⟨gs, 2, none⟩ = some (.slice none 0 0)) (h3 : w.cell? ⟨gs, 3, none⟩ = some (.int .i64 (-1))) :
    Calls Try.prog 5 #[dpV (some ⟨gs, 0, none⟩) 1 sc (some ⟨gI, 0, none⟩) n uc, .slice none 0 0, .int .i64 port, .slice bp m bc] w (PassR w n v xs) := by
  have hgs : gs < w.heap.size := (cell_there h0).1
  have hgc : gc < w.heap.size := (cell_there hc.1).1
  have hgI : gI < w.heap.size := (cell_there hI.1.1).1
  have HPA : Hid (∀ W, Below w.heap.size w W → Calls Try.prog 7 #[dpV (some ⟨gs, 0, none⟩) 1 sc (some ⟨gI, 0, none⟩) n uc, .int .i64 port, .slice bp m bc] W (RetParse W port m xs)) := fun W h => parse_any gs sc _ n uc port bp m bc xs W (hb.below keepU h) hm hl ((h.cell (p := ⟨gs, 0, none⟩) hgs).trans h0) ((h.cell (p := ⟨gs, 1, none⟩) hgs).trans h1) ((h.cell (p := ⟨gs, 2, none⟩) hgs).trans h2) ((h.cell (p := ⟨gs, 3, none⟩) hgs).trans h3)
  have HRU : Hid (∀ (X : Nat) (p : Option Addr) (c g1 g2 : Nat) (W : World), w.heap.size ≤ X → Below w.heap.size w W → W.heap[X]? = some (.cells (pkK port p m c g1 g2 v 0) 60 (0, 0)) → Calls Try.prog 8 #[dpV (some ⟨gs, 0, none⟩) 1 sc (some ⟨gI, 0, none⟩) n uc, .slice none 0 0, .pointer (some ⟨X, 0, none⟩), .slice (some ⟨gI, 0, none⟩) n uc, .slice none 0 0] W fun e w' => e = .returned (.tuple #[]) ∧ w'.heap[X]? = some (.cells (pkK port p m c g1 g2 v n) 60 (0, 0)) ∧ FrX X W w') := fun X p c g1 g2 W hX h hk => arun_any _ 1 sc _ n uc X gc v ec gI n uc port p m c g1 g2 W hv hn (hc.below h) (by omega) (hI.below h) (by omega) hk
  have HEM : Hid (∀ (p : Option Addr) (c g1 g2 : Nat) (d s : Bool) (ex : Int) (W : World), URow W (.slice p m c) xs → Calls Try.prog 9 #[dpV (some ⟨gs, 0, none⟩) 1 sc (some ⟨gI, 0, none⟩) n uc, pktD port (.slice p m c) (.slice (some ⟨g1, 0, none⟩) 0 0) (.slice (some ⟨g2, 0, none⟩) 0 0) d s ex] W (RetU W xs)) := fun p c g1 g2 d s ex W hu => emit_any _ 1 sc _ n uc port p m c g1 g2 d s ex xs W hu hl
  have HM := Lib.hid hm
  have HN := Lib.hid hn
  clear h0 h1 h2 h3 hb hc hI hl hm hn hgs hgc hgI
  unfold dpV at HPA HRU HEM ⊢
  go_enter Try.func5, Try.ntmps5
  go_upto_region 1 with fail
  obtain ⟨W0, hW0⟩ : ∃ W0, W0 = ((w.alloc (.cells #[.slice none 0 0, .slice none 0 0, .slice (some ⟨gs, 0, none⟩) 1 sc, .slice none 0 0, .slice none 0 0, .slice (some ⟨gI, 0, none⟩) n uc, .slice none 0 0, .slice none 0 0, .slice none 0 0, .slice none 0 0, .slice none 0 0, .slice none 0 0] 49)).alloc (.cells #[.bool false, .bool false, .bool false, .bool false, .int .i64 0, .slice none 0 0] 51)) := ⟨_, rfl⟩
  have HW : Hid (Below w.heap.size w W0) := by show Below _ _ _; rw [hW0]; exact (by repeat (first | exact Below.refl _ _ | assumption | refine Below.drew ?_ | refine Below.alloc ?_ (by first | omega | (simp <;> omega)) _ | refine Below.setCell ?_ (by first | omega | (simp <;> omega)) _ | refine Below.trans ?_ (Below.mono (by assumption) (by first | omega | (simp <;> omega)))))
  have hsz0 : W0.heap.size = w.heap.size + 1 + 1 := by rw [hW0]; simp
  have HP0 : Hid (W0.heap[w.heap.size]? = some (.cells #[.slice none 0 0, .slice none 0 0, .slice (some ⟨gs, 0, none⟩) 1 sc, .slice none 0 0, .slice none 0 0, .slice (some ⟨gI, 0, none⟩) n uc, .slice none 0 0, .slice none 0 0, .slice none 0 0, .slice none 0 0, .slice none 0 0, .slice none 0 0] 49 (0, 0))) := by
    show _ = _
    rw [hW0, Below.heap_alloc _ _ _ (by simp)]; exact heap_new _ _
  have HG0 : Hid (W0.heap[w.heap.size + 1]? = some (.cells #[.bool false, .bool false, .bool false, .bool false, .int .i64 0, .slice none 0 0] 51 (0, 0))) := by
    show _ = _
    rw [hW0]
    have := heap_new (w.alloc (.cells #[.slice none 0 0, .slice none 0 0, .slice (some ⟨gs, 0, none⟩) 1 sc, .slice none 0 0, .slice none 0 0, .slice (some ⟨gI, 0, none⟩) n uc, .slice none 0 0, .slice none 0 0, .slice none 0 0, .slice none 0 0, .slice none 0 0, .slice none 0 0] 49)) (.cells #[.bool false, .bool false, .bool false, .bool false, .int .i64 0, .slice none 0 0] 51)
    simp only [World.size_alloc] at this
    exact this
  have HP : Hid (∀ W : World, W.heap[w.heap.size]? = some (.cells #[.slice none 0 0, .slice none 0 0, .slice (some ⟨gs, 0, none⟩) 1 sc, .slice none 0 0, .slice none 0 0, .slice (some ⟨gI, 0, none⟩) n uc, .slice none 0 0, .slice none 0 0, .slice none 0 0, .slice none 0 0, .slice none 0 0, .slice none 0 0] 49 (0, 0)) → W.cell? ⟨w.heap.size, 0, none⟩ = some (.slice none 0 0) ∧ W.cell? ⟨w.heap.size, 1, none⟩ = some (.slice none 0 0) ∧ W.cell? ⟨w.heap.size, 2, none⟩ = some (.slice (some ⟨gs, 0, none⟩) 1 sc) ∧ W.cell? ⟨w.heap.size, 3, none⟩ = some (.slice none 0 0) ∧ W.cell? ⟨w.heap.size, 4, none⟩ = some (.slice none 0 0) ∧ W.cell? ⟨w.heap.size, 5, none⟩ = some (.slice (some ⟨gI, 0, none⟩) n uc) ∧ W.cell? ⟨w.heap.size, 6, none⟩ = some (.slice none 0 0) ∧ W.cell? ⟨w.heap.size, 7, none⟩ = some (.slice none 0 0) ∧ W.cell? ⟨w.heap.size, 8, none⟩ = some (.slice none 0 0) ∧ W.cell? ⟨w.heap.size, 9, none⟩ = some (.slice none 0 0) ∧ W.cell? ⟨w.heap.size, 10, none⟩ = some (.slice none 0 0) ∧ W.cell? ⟨w.heap.size, 11, none⟩ = some (.slice none 0 0)) := fun W h2 => by
    refine ⟨?_, ?_, ?_, ?_, ?_, ?_, ?_, ?_, ?_, ?_, ?_, ?_⟩ <;> simp [World.cell?, h2]
  rw [← hW0]
  clear hW0
  obtain ⟨q0, q1, q2, q3, q4, q5, q6, q7, q8, q9, q10, q11⟩ := HP.out W0 HP0.out
  go_upto_region 4 with (go_at_call 7; refine (HPA.out _ HW.out).mono ?_; rintro e w1 ⟨p, c, g1, g2, rfl, hu1, hb1⟩; unfold pktD; have HU1 := Lib.hid hu1; have HB1 := Lib.hid hb1; clear hu1 hb1)
  obtain ⟨W2, hW2⟩ : ∃ W2, W2 = w1.alloc (.cells #[.int .i64 port, .slice p m c, .slice (some ⟨g1, 0, none⟩) 0 0, .slice none 0 0, .slice (some ⟨g2, 0, none⟩) 0 0, .bool false, .bool false, .int .i64 0, .bool false] 60) := ⟨_, rfl⟩
  have HB2 : Hid (Below W0.heap.size W0 W2) := by show Below _ _ _; rw [hW2]; exact HB1.out.alloc HB1.out.size _
  have HX2 : Hid (W2.heap[w1.heap.size]? = some (.cells (pkK port p m c g1 g2 v 0) 60 (0, 0))) := by show _ = _; rw [hW2]; exact heap_new w1 _
  have HU2 : Hid (URow W2 (.slice p m c) xs) := by show URow _ _ _; rw [hW2]; exact HU1.out.below keepU ((Below.refl _ _).alloc (Nat.le_refl _) _)
  have hX0 : W0.heap.size ≤ w1.heap.size := HB1.out.size
  have hX1 : w1.heap.size < W2.heap.size := by rw [hW2]; simp
  rw [← hW2]
  clear hW2 q0 q1 q2 q3 q4 q5 q6 q7 q8 q9 q10 q11 HU1 HB1
  generalize w1.heap.size = X at *
  obtain ⟨q0, q1, q2, q3, q4, q5, q6, q7, q8, q9, q10, q11⟩ := HP.out W2 ((HB2.out.block _ (by omega)).trans HP0.out)
  go_upto_region 5 with (go_at_call 8; refine (HRU.out X p c g1 g2 W2 (by omega) (HW.out.trans (HB2.out.mono (by omega))) HX2.out).mono ?_; rintro e w3 ⟨rfl, h3, hf3⟩; have H3 := Lib.hid h3; have HF3 := Lib.hid hf3; clear h3 hf3)
  clear q0 q1 q2 q3 q4 q5 q6 q7 q8 q9 q10 q11
  have HP3 : Hid (w3.heap[w.heap.size]? = some (.cells #[.slice none 0 0, .slice none 0 0, .slice (some ⟨gs, 0, none⟩) 1 sc, .slice none 0 0, .slice none 0 0, .slice (some ⟨gI, 0, none⟩) n uc, .slice none 0 0, .slice none 0 0, .slice none 0 0, .slice none 0 0, .slice none 0 0, .slice none 0 0] 49 (0, 0))) := (HF3.out.oth _ (by omega) (by omega)).trans ((HB2.out.block _ (by omega)).trans HP0.out)
  have HG3 : Hid (w3.heap[w.heap.size + 1]? = some (.cells #[.bool false, .bool false, .bool false, .bool false, .int .i64 0, .slice none 0 0] 51 (0, 0))) := (HF3.out.oth _ (by omega) (by omega)).trans ((HB2.out.block _ (by omega)).trans HG0.out)
  have HU3 : Hid (URow w3 (.slice p m c) xs) := HU2.out.apart (cells_no8 HX2.out (by simp)) (fun k hk hl => HF3.out.oth k hl hk) HF3.out.bel.size
  have HB3 : Hid (Below w.heap.size w w3) := (HW.out.trans (HB2.out.mono (by omega))).trans (HF3.out.bel.mono (by omega))
  have hs3 : W2.heap.size ≤ w3.heap.size := HF3.out.bel.size
  have hX3 : X < w3.heap.size := by omega
  have hr3 : w.heap.size + 1 < w3.heap.size := by omega
  have hp3 : w.heap.size < w3.heap.size := by omega
  clear HP0 HG0 HU2 HX2 HW HF3 HB2 HPA HRU
  have HGC : Hid (w3.cell? ⟨w.heap.size + 1, 0, none⟩ = some (.bool false) ∧ w3.cell? ⟨w.heap.size + 1, 1, none⟩ = some (.bool false) ∧ w3.cell? ⟨w.heap.size + 1, 2, none⟩ = some (.bool false) ∧ w3.cell? ⟨w.heap.size + 1, 3, none⟩ = some (.bool false) ∧ w3.cell? ⟨w.heap.size + 1, 4, none⟩ = some (.int .i64 0) ∧ w3.cell? ⟨w.heap.size + 1, 5, none⟩ = some (.slice none 0 0) ∧ w3.frozen? ⟨w.heap.size + 1, 0, none⟩ = false ∧ w3.frozen? ⟨w.heap.size + 1, 1, none⟩ = false ∧ w3.frozen? ⟨w.heap.size + 1, 2, none⟩ = false ∧ w3.frozen? ⟨w.heap.size + 1, 3, none⟩ = false ∧ w3.frozen? ⟨w.heap.size + 1, 4, none⟩ = false ∧ w3.frozen? ⟨w.heap.size + 1, 5, none⟩ = false) := by
    have h2 := HG3.out
    refine ⟨?_, ?_, ?_, ?_, ?_, ?_, ?_, ?_, ?_, ?_, ?_, ?_⟩ <;> simp [World.cell?, World.frozen?, h2]
  rcases HN.out with rfl | rfl
  · have h3 : w3.heap[X]? = some (.cells (pkC port p m c g1 g2 false true v) 60 (0, 0)) := H3.out
    obtain ⟨k0, k1, k2, k3, k4, k5, k6, k7, k8, f5, f6, f7⟩ := pk_cells h3
    clear f5 f6 f7
    go_upto_region 8 with fail
    obtain ⟨W4, hW4⟩ : ∃ W4, W4 = w3.alloc (.cells #[.bool true, .bool false, .bool false, .bool false, .int .i64 0, .slice none 0 0] 51) := ⟨_, rfl⟩
    have hb4 : Below w3.heap.size w3 W4 := by rw [hW4]; exact (Below.refl _ _).alloc (Nat.le_refl _) _
    have HP4 : Hid (W4.heap[w.heap.size]? = some (.cells #[.slice none 0 0, .slice none 0 0, .slice (some ⟨gs, 0, none⟩) 1 sc, .slice none 0 0, .slice none 0 0, .slice (some ⟨gI, 0, none⟩) 1 uc, .slice none 0 0, .slice none 0 0, .slice none 0 0, .slice none 0 0, .slice none 0 0, .slice none 0 0] 49 (0, 0))) := (hb4.block _ (by omega)).trans HP3.out
    have HG4 : Hid (W4.heap[w.heap.size + 1]? = some (.cells #[.bool false, .bool false, .bool false, .bool false, .int .i64 0, .slice none 0 0] 51 (0, 0))) := (hb4.block _ (by omega)).trans HG3.out
    have HU4 : Hid (URow W4 (.slice p m c) xs) := HU3.out.below keepU hb4
    have HO4 : Hid (W4.heap[w3.heap.size]? = some (.cells #[.bool true, .bool false, .bool false, .bool false, .int .i64 0, .slice none 0 0] 51 (0, 0))) := by show _ = _; rw [hW4]; exact heap_new _ _
    have h4 := (hb4.block X hX3).trans h3
    have HB4 : Hid (Below w.heap.size w W4) := HB3.out.trans (hb4.mono (by omega))
    have hs4 : w3.heap.size < W4.heap.size := by rw [hW4]; simp
    rw [← hW4]
    clear hW4 hb4 k0 k1 k2 k3 k4 k5 k6 k7 k8 h3 HP3 HG3 HU3 HB3 H3
    generalize w3.heap.size = G at *
    obtain ⟨k0, k1, k2, k3, k4, k5, k6, k7, k8, f5, f6, f7⟩ := pk_cells h4
    clear f5 f6 f7
    obtain ⟨q0, q1, q2, q3, q4, q5, q6, q7, q8, q9, q10, q11⟩ := HP.out W4 HP4.out
    have hem := HEM.out p c g1 g2 false true (v : Int) W4 HU4.out
    unfold pktD at hem
    go_upto_region 9 with (go_at_call 9; refine hem.mono ?_; rintro e w5 ⟨v5, rfl, hu5, hb5⟩; obtain ⟨p5, c6, rfl, -, -⟩ := hu5.shape; rw [← HM.out] at hu5; have HU5 := Lib.hid hu5; have HB5 := Lib.hid hb5; clear hu5 hb5)
    rw [← HM.out]
    have HG5 : Hid (w5.heap[w.heap.size + 1]? = some (.cells #[.bool false, .bool false, .bool false, .bool false, .int .i64 0, .slice none 0 0] 51 (0, 0))) := (HB5.out.block _ (by omega)).trans HG4.out
    have HO5 : Hid (w5.heap[G]? = some (.cells #[.bool true, .bool false, .bool false, .bool false, .int .i64 0, .slice none 0 0] 51 (0, 0))) := (HB5.out.block _ (by omega)).trans HO4.out
    have HK5 : Hid (w5.heap[X]? = some (.cells (pkC port p m c g1 g2 false true v) 60 (0, 0))) := (HB5.out.block _ (by omega)).trans h4
    have HB6 : Hid (Below w.heap.size w w5) := HB4.out.trans (HB5.out.mono (by omega))
    have hs5 : W4.heap.size ≤ w5.heap.size := HB5.out.size
    have hOC : w5.cell? ⟨G, 0, none⟩ = some (.bool true) ∧ w5.cell? ⟨G, 1, none⟩ = some (.bool false) ∧ w5.cell? ⟨G, 2, none⟩ = some (.bool false) ∧ w5.cell? ⟨G, 3, none⟩ = some (.bool false) ∧ w5.cell? ⟨G, 4, none⟩ = some (.int .i64 0) ∧ w5.cell? ⟨G, 5, none⟩ = some (.slice none 0 0) ∧ w5.frozen? ⟨G, 0, none⟩ = false ∧ w5.frozen? ⟨G, 1, none⟩ = false ∧ w5.frozen? ⟨G, 2, none⟩ = false ∧ w5.frozen? ⟨G, 3, none⟩ = false ∧ w5.frozen? ⟨G, 4, none⟩ = false ∧ w5.frozen? ⟨G, 5, none⟩ = false := by
      have h2 := HO5.out
      refine ⟨?_, ?_, ?_, ?_, ?_, ?_, ?_, ?_, ?_, ?_, ?_, ?_⟩ <;> simp [World.cell?, World.frozen?, h2]
    have hGC : w5.cell? ⟨w.heap.size + 1, 0, none⟩ = some (.bool false) ∧ w5.cell? ⟨w.heap.size + 1, 1, none⟩ = some (.bool false) ∧ w5.cell? ⟨w.heap.size + 1, 2, none⟩ = some (.bool false) ∧ w5.cell? ⟨w.heap.size + 1, 3, none⟩ = some (.bool false) ∧ w5.cell? ⟨w.heap.size + 1, 4, none⟩ = some (.int .i64 0) ∧ w5.cell? ⟨w.heap.size + 1, 5, none⟩ = some (.slice none 0 0) ∧ w5.frozen? ⟨w.heap.size + 1, 0, none⟩ = false ∧ w5.frozen? ⟨w.heap.size + 1, 1, none⟩ = false ∧ w5.frozen? ⟨w.heap.size + 1, 2, none⟩ = false ∧ w5.frozen? ⟨w.heap.size + 1, 3, none⟩ = false ∧ w5.frozen? ⟨w.heap.size + 1, 4, none⟩ = false ∧ w5.frozen? ⟨w.heap.size + 1, 5, none⟩ = false := by
      have h2 := HG5.out
      refine ⟨?_, ?_, ?_, ?_, ?_, ?_, ?_, ?_, ?_, ?_, ?_, ?_⟩ <;> simp [World.cell?, World.frozen?, h2]
    clear HG4 HO4 h4 HB4 HB5 hem k0 k1 k2 k3 k4 k5 k6 k7 k8 q0 q1 q2 q3 q4 q5 q6 q7 q8 q9 q10 q11 HP4 HU4 HEM HGC
    obtain ⟨o0, o1, o2, o3, o4, o5, r0, r1, r2, r3, r4, r5⟩ := hOC
    obtain ⟨c0, c1, c2, c3, c4, c5, d0, d1, d2, d3, d4, d5⟩ := hGC
    have hGr : ¬ G = w.heap.size + 1 := by omega
    have hrG : ¬ w.heap.size + 1 = G := by omega
    by_cases hlt : 64 < m
    · have hgt : (64 : Int) < m := by omega
      go_wp2_with fail
      have hg := set6_heap (.bool true) (.bool false) (.bool true) (.bool false) (.int .i64 0) (.slice none 0 0) (((setCell_heap hrG).trans HG5.out) : (w5.setCell ⟨G, 2, none⟩ (.bool true)).heap[w.heap.size + 1]? = _)
      have hb7 := set6_below (.bool true) (.bool false) (.bool true) (.bool false) (.int .i64 0) (.slice none 0 0) (HB6.out.setCell (p := ⟨G, 2, none⟩) (by show w.heap.size ≤ G; omega) (.bool true)) (g := w.heap.size + 1) (by omega)
      have hot := fun k (hk : k ≠ w.heap.size + 1) => set6_other (w5.setCell ⟨G, 2, none⟩ (.bool true)) (g := w.heap.size + 1) (.bool true) (.bool false) (.bool true) (.bool false) (.int .i64 0) (.slice none 0 0) hk
      have hsz := set6_size (w5.setCell ⟨G, 2, none⟩ (.bool true)) (w.heap.size + 1) (.bool true) (.bool false) (.bool true) (.bool false) (.int .i64 0) (.slice none 0 0)
      obtain ⟨W7, hW7⟩ : ∃ W7, W7 = set6 (w5.setCell ⟨G, 2, none⟩ (.bool true)) (w.heap.size + 1) (.bool true) (.bool false) (.bool true) (.bool false) (.int .i64 0) (.slice none 0 0) := ⟨_, rfl⟩
      rw [← hW7] at hg hb7 hsz
      have hot2 : ∀ k, k ≠ w.heap.size + 1 → W7.heap[k]? = (w5.setCell ⟨G, 2, none⟩ (.bool true)).heap[k]? := fun k hk => by rw [hW7]; exact hot k hk
      unfold set6 at hW7
      rw [← hW7]
      clear hW7 hot c0 c1 c2 c3 c4 c5 d0 d1 d2 d3 d4 d5 o0 o1 o2 o3 o4 o5 r0 r1 r2 r3 r4 r5
      have m0 : W7.cell? ⟨w.heap.size + 1, 0, none⟩ = some (.bool true) := by simp [World.cell?, hg]
      have m1 : W7.cell? ⟨w.heap.size + 1, 1, none⟩ = some (.bool false) := by simp [World.cell?, hg]
      have m2 : W7.cell? ⟨w.heap.size + 1, 2, none⟩ = some (.bool true) := by simp [World.cell?, hg]
      have m3 : W7.cell? ⟨w.heap.size + 1, 3, none⟩ = some (.bool false) := by simp [World.cell?, hg]
      have m4 : W7.cell? ⟨w.heap.size + 1, 4, none⟩ = some (.int .i64 0) := by simp [World.cell?, hg]
      have m5 : W7.cell? ⟨w.heap.size + 1, 5, none⟩ = some (.slice none 0 0) := by simp [World.cell?, hg]
      refine bodyPost_ret (v := goneV false true 0 (.slice none 0 0)) ?_ rfl ⟨hb7, (fun e => by cases e), fun _ _ => rfl, (fun _ e => by have := HM.out; omega)⟩
      simp [results, Try.results5, go_sem, goneV, m0, m1, m2, m3, m4, m5]
    · have hgt : ¬ (64 : Int) < m := by omega
      go_upto_region 12 with fail
      obtain ⟨k0, k1, k2, k3, k4, k5, k6, k7, k8, -⟩ := pk_cells HK5.out
      clear k0 k1 k2 k3 k4 k5 k6 k8
      go_region
      obtain ⟨W6, hW6⟩ : ∃ W6, W6 = (((w5.setCell ⟨G, 1, none⟩ (.bool true)).setCell ⟨G, 4, none⟩ (.int .i64 v)).setCell ⟨G, 5, none⟩ (.slice p5 m c6)).drew := ⟨_, rfl⟩
      have hG6 : W6.heap[G]? = some (.cells #[.bool true, .bool true, .bool false, .bool false, .int .i64 v, .slice p5 m c6] 51 (0, 0)) := by
        rw [hW6]
        exact heap_setCell_same _ G 5 _ _ _ (heap_setCell_same _ G 4 _ _ _ (heap_setCell_same _ G 1 _ _ _ HO5.out))
      have hR6 : W6.heap[w.heap.size + 1]? = some (.cells #[.bool false, .bool false, .bool false, .bool false, .int .i64 0, .slice none 0 0] 51 (0, 0)) := by
        rw [hW6]
        exact (setCell_heap hrG).trans ((setCell_heap hrG).trans ((setCell_heap hrG).trans HG5.out))
      have hU6 : URow W6 (.slice p5 m c6) xs := HU5.out.apart (cells_no8 HO5.out (by simp)) (fun k hk _ => by rw [hW6]; exact (setCell_heap hk).trans ((setCell_heap hk).trans (setCell_heap hk))) (by rw [hW6]; simp)
      have hB7 : Below w.heap.size w W6 := by
        rw [hW6]
        exact ((((HB6.out.setCell (p := ⟨G, 1, none⟩) (by show w.heap.size ≤ G; omega) _).setCell (p := ⟨G, 4, none⟩) (by show w.heap.size ≤ G; omega) _).setCell (p := ⟨G, 5, none⟩) (by show w.heap.size ≤ G; omega) _).drew)
      rw [← hW6]
      clear hW6 k7 HO5 HG5 c0 c1 c2 c3 c4 c5 d0 d1 d2 d3 d4 d5 o0 o1 o2 o3 o4 o5 r0 r1 r2 r3 r4 r5
      have hOC : W6.cell? ⟨G, 0, none⟩ = some (.bool true) ∧ W6.cell? ⟨G, 1, none⟩ = some (.bool true) ∧ W6.cell? ⟨G, 2, none⟩ = some (.bool false) ∧ W6.cell? ⟨G, 3, none⟩ = some (.bool false) ∧ W6.cell? ⟨G, 4, none⟩ = some (.int .i64 v) ∧ W6.cell? ⟨G, 5, none⟩ = some (.slice p5 m c6) := by
        have h2 := hG6
        refine ⟨?_, ?_, ?_, ?_, ?_, ?_⟩ <;> simp [World.cell?, h2]
      have hGC : W6.cell? ⟨w.heap.size + 1, 0, none⟩ = some (.bool false) ∧ W6.cell? ⟨w.heap.size + 1, 1, none⟩ = some (.bool false) ∧ W6.cell? ⟨w.heap.size + 1, 2, none⟩ = some (.bool false) ∧ W6.cell? ⟨w.heap.size + 1, 3, none⟩ = some (.bool false) ∧ W6.cell? ⟨w.heap.size + 1, 4, none⟩ = some (.int .i64 0) ∧ W6.cell? ⟨w.heap.size + 1, 5, none⟩ = some (.slice none 0 0) ∧ W6.frozen? ⟨w.heap.size + 1, 0, none⟩ = false ∧ W6.frozen? ⟨w.heap.size + 1, 1, none⟩ = false ∧ W6.frozen? ⟨w.heap.size + 1, 2, none⟩ = false ∧ W6.frozen? ⟨w.heap.size + 1, 3, none⟩ = false ∧ W6.frozen? ⟨w.heap.size + 1, 4, none⟩ = false ∧ W6.frozen? ⟨w.heap.size + 1, 5, none⟩ = false := by
        have h2 := hR6
        refine ⟨?_, ?_, ?_, ?_, ?_, ?_, ?_, ?_, ?_, ?_, ?_, ?_⟩ <;> simp [World.cell?, World.frozen?, h2]
      obtain ⟨o0, o1, o2, o3, o4, o5⟩ := hOC
      obtain ⟨c0, c1, c2, c3, c4, c5, d0, d1, d2, d3, d4, d5⟩ := hGC
      go_wp2_with fail
      have hg := set6_heap (.bool true) (.bool true) (.bool false) (.bool false) (.int .i64 v) (.slice p5 m c6) hR6
      have hb7 := set6_below (.bool true) (.bool true) (.bool false) (.bool false) (.int .i64 v) (.slice p5 m c6) hB7 (g := w.heap.size + 1) (by omega)
      have hot := fun k (hk : k ≠ w.heap.size + 1) => set6_other W6 (g := w.heap.size + 1) (.bool true) (.bool true) (.bool false) (.bool false) (.int .i64 v) (.slice p5 m c6) hk
      have hsz := set6_size W6 (w.heap.size + 1) (.bool true) (.bool true) (.bool false) (.bool false) (.int .i64 v) (.slice p5 m c6)
      obtain ⟨W7, hW7⟩ : ∃ W7, W7 = set6 W6 (w.heap.size + 1) (.bool true) (.bool true) (.bool false) (.bool false) (.int .i64 v) (.slice p5 m c6) := ⟨_, rfl⟩
      rw [← hW7] at hg hb7 hsz
      have hot2 : ∀ k, k ≠ w.heap.size + 1 → W7.heap[k]? = W6.heap[k]? := fun k hk => by rw [hW7]; exact hot k hk
      unfold set6 at hW7
      rw [← hW7]
      clear hW7 hot c0 c1 c2 c3 c4 c5 d0 d1 d2 d3 d4 d5 o0 o1 o2 o3 o4 o5
      have m0 : W7.cell? ⟨w.heap.size + 1, 0, none⟩ = some (.bool true) := by simp [World.cell?, hg]
      have m1 : W7.cell? ⟨w.heap.size + 1, 1, none⟩ = some (.bool true) := by simp [World.cell?, hg]
      have m2 : W7.cell? ⟨w.heap.size + 1, 2, none⟩ = some (.bool false) := by simp [World.cell?, hg]
      have m3 : W7.cell? ⟨w.heap.size + 1, 3, none⟩ = some (.bool false) := by simp [World.cell?, hg]
      have m4 : W7.cell? ⟨w.heap.size + 1, 4, none⟩ = some (.int .i64 v) := by simp [World.cell?, hg]
      have m5 : W7.cell? ⟨w.heap.size + 1, 5, none⟩ = some (.slice p5 m c6) := by simp [World.cell?, hg]
      refine bodyPost_ret (v := goneV true false v (.slice p5 m c6)) ?_ rfl ⟨hb7, (fun e => by cases e), (fun _ e => by have := HM.out; omega), fun _ _ => ⟨p5, c6, by rw [← HM.out], by rw [← HM.out]; exact hU6.apart (cells_no8 hR6 (by simp)) (fun k hk _ => hot2 k hk) (Nat.le_of_eq hsz.symm)⟩⟩
      simp [results, Try.results5, go_sem, goneV, m0, m1, m2, m3, m4, m5]
  · have h3 : w3.heap[X]? = some (.cells (pkC port p m c g1 g2 true true v) 60 (0, 0)) := H3.out
    obtain ⟨k0, k1, k2, k3, k4, k5, k6, k7, k8, f5, f6, f7⟩ := pk_cells h3
    clear h3 f5 f6 f7
    obtain ⟨c0, c1, c2, c3, c4, c5, d0, d1, d2, d3, d4, d5⟩ := HGC.out
    go_wp2_with fail
    have hg := set6_heap (.bool true) (.bool false) (.bool false) (.bool false) (.int .i64 0) (.slice none 0 0) HG3.out
    have hb6 := set6_below (.bool true) (.bool false) (.bool false) (.bool false) (.int .i64 0) (.slice none 0 0) HB3.out (g := w.heap.size + 1) (by omega)
    obtain ⟨W6, hW6⟩ : ∃ W6, W6 = (set6 w3 (w.heap.size + 1) (.bool true) (.bool false) (.bool false) (.bool false) (.int .i64 0) (.slice none 0 0)).alloc (.cells #[.bool true, .bool false, .bool false, .bool false, .int .i64 0, .slice none 0 0] 51) := ⟨_, rfl⟩
    have hg6 : W6.heap[w.heap.size + 1]? = some (.cells #[.bool true, .bool false, .bool false, .bool false, .int .i64 0, .slice none 0 0] 51 (0, 0)) := by rw [hW6]; exact (Below.heap_alloc _ _ _ (by rw [set6_size]; omega)).trans hg
    have hB6 : Below w.heap.size w W6 := by rw [hW6]; exact hb6.alloc hb6.size _
    unfold set6 at hW6
    rw [← hW6]
    clear hW6 hg hb6 c0 c1 c2 c3 c4 c5 d0 d1 d2 d3 d4 d5 k0 k1 k2 k3 k4 k5 k6 k7 k8
    refine bodyPost_ret (v := goneV false false 0 (.slice none 0 0)) ?_ rfl ⟨hB6, fun _ => rfl, (fun e => by cases e), (fun e => by cases e)⟩
    have m0 : W6.cell? ⟨w.heap.size + 1, 0, none⟩ = some (.bool true) := by simp [World.cell?, hg6]
    have m1 : W6.cell? ⟨w.heap.size + 1, 1, none⟩ = some (.bool false) := by simp [World.cell?, hg6]
    have m2 : W6.cell? ⟨w.heap.size + 1, 2, none⟩ = some (.bool false) := by simp [World.cell?, hg6]
    have m3 : W6.cell? ⟨w.heap.size + 1, 3, none⟩ = some (.bool false) := by simp [World.cell?, hg6]
    have m4 : W6.cell? ⟨w.heap.size + 1, 4, none⟩ = some (.int .i64 0) := by simp [World.cell?, hg6]
    have m5 : W6.cell? ⟨w.heap.size + 1, 5, none⟩ = some (.slice none 0 0) := by simp [World.cell?, hg6]
    simp [results, Try.results5, go_sem, goneV, m0, m1, m2, m3, m4, m5]

end Go.Proofs.Ytpgpjaackaedhaa

/-
  Same of two that read the same bytes; bytes as a string.
-/
namespace Go.Proofs.Ytpgpjaackaedhaa
open Go.RowKit Go.Maps

theorem uconv {w : World} {v : Value} {xs : List Int} (h : URow w v xs) : (convert 23 9 v).run Try.prog w = .ok (.string (strOfNums xs)) w := by
  obtain ⟨pa, cap, rfl, h1, h2, -, h3⟩ := h
  by_cases h0 : 0 < xs.length
  · obtain ⟨b, o, rfl, hb, hc⟩ := h3 h0
    refine run_convert_bytes_arg w _ 5 Try.underlying23 Try.underlying5 b o xs.length cap xs rfl (fun i hi => ?_) _ Try.underlying9
    have := hc i xs[i] (List.getElem?_eq_getElem hi)
    unfold UAt at this
    rw [Nat.mul_one] at this
    rw [this, List.getD_eq_getElem?_getD, List.getElem?_eq_getElem hi]
    rfl
  · obtain rfl : xs = [] := List.eq_nil_of_length_eq_zero (by omega)
    cases pa with
    | none => exact run_convert_bytes_nil w _ 5 Try.underlying23 Try.underlying5 0 cap _ Try.underlying9
    | some a =>
      rw [run_convert_bytes_string w _ _ 5 _ _ _ Try.underlying23 Try.underlying5 Try.underlying9]
      exact run_bytesToString w a 0 cap [] rfl

set_option maxRecDepth 100000 in
set_option maxHeartbeats 1600000 in
theorem same_true (p1 p2 : Option Addr) (n c1 c2 : Nat) (xs : List Int) (w : World) (h1 : URow w (.slice p1 n c1) xs) (h2 : URow w (.slice p2 n c2) xs) :
    Calls Try.prog 6 #[goneV true false 3 (.slice p1 n c1), goneV true false 3 (.slice p2 n c2)] w fun e w' => e = .returned (.bool true) ∧ Below w.heap.size w w' := by
  have hb : Below w.heap.size w ((w.alloc (.cells #[.bool true, .bool true, .bool false, .bool false, .int .i64 3, .slice p1 n c1] 51)).alloc (.cells #[.bool true, .bool true, .bool false, .bool false, .int .i64 3, .slice p2 n c2] 51)) := (by repeat (first | exact Below.refl _ _ | assumption | refine Below.drew ?_ | refine Below.alloc ?_ (by first | omega | (simp <;> omega)) _ | refine Below.setCell ?_ (by first | omega | (simp <;> omega)) _ | refine Below.trans ?_ (Below.mono (by assumption) (by first | omega | (simp <;> omega)))))
  have HB := Lib.hid hb
  have k1 := uconv (h1.below keepU hb)
  have k2 := uconv (h2.below keepU hb)
  clear hb h1 h2
  unfold goneV
  generalize strOfNums xs = S at *
  go_enter Try.func6, Try.ntmps6
  go_wp2_with fail
  go_ret
  exact ⟨rfl, HB.out⟩

end Go.Proofs.Ytpgpjaackaedhaa

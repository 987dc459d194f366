/-
  Lemmas, joined: Set9, DevB.
-/
import Derived.Test.YtpgpjaackaedhaaJD01
import Derived.Test.YtpgpjaackaedhaaJD02
import Derived.LoopN
/-
  A struct of nine cells is stored: the block behind it; what lies apart stays.
-/
namespace Go.Proofs.Ytpgpjaackaedhaa
open Go.RowKit

def set9 (w : World) (g : Nat) (b0 b1 b2 b3 b4 b5 b6 b7 b8 : Value) : World := (((((((((w.setCell ⟨g, 0, none⟩ b0).setCell ⟨g, 1, none⟩ b1).setCell ⟨g, 2, none⟩ b2).setCell ⟨g, 3, none⟩ b3).setCell ⟨g, 4, none⟩ b4).setCell ⟨g, 5, none⟩ b5).setCell ⟨g, 6, none⟩ b6).setCell ⟨g, 7, none⟩ b7).setCell ⟨g, 8, none⟩ b8)
theorem set9_heap {w : World} {g : Nat} {t : TypeId} {a0 a1 a2 a3 a4 a5 a6 a7 a8 : Value} (b0 b1 b2 b3 b4 b5 b6 b7 b8 : Value) (h : w.heap[g]? = some (.cells #[a0, a1, a2, a3, a4, a5, a6, a7, a8] t (0, 0))) : (set9 w g b0 b1 b2 b3 b4 b5 b6 b7 b8).heap[g]? = some (.cells #[b0, b1, b2, b3, b4, b5, b6, b7, b8] t (0, 0)) := by
  have h0 : (w.setCell ⟨g, 0, none⟩ b0).heap[g]? = some (.cells #[b0, a1, a2, a3, a4, a5, a6, a7, a8] t (0, 0)) := heap_setCell_same w g 0 _ t b0 h
  have h1 : ((w.setCell ⟨g, 0, none⟩ b0).setCell ⟨g, 1, none⟩ b1).heap[g]? = some (.cells #[b0, b1, a2, a3, a4, a5, a6, a7, a8] t (0, 0)) := heap_setCell_same (w.setCell ⟨g, 0, none⟩ b0) g 1 _ t b1 h0
  have h2 : (((w.setCell ⟨g, 0, none⟩ b0).setCell ⟨g, 1, none⟩ b1).setCell ⟨g, 2, none⟩ b2).heap[g]? = some (.cells #[b0, b1, b2, a3, a4, a5, a6, a7, a8] t (0, 0)) := heap_setCell_same ((w.setCell ⟨g, 0, none⟩ b0).setCell ⟨g, 1, none⟩ b1) g 2 _ t b2 h1
  have h3 : ((((w.setCell ⟨g, 0, none⟩ b0).setCell ⟨g, 1, none⟩ b1).setCell ⟨g, 2, none⟩ b2).setCell ⟨g, 3, none⟩ b3).heap[g]? = some (.cells #[b0, b1, b2, b3, a4, a5, a6, a7, a8] t (0, 0)) := heap_setCell_same (((w.setCell ⟨g, 0, none⟩ b0).setCell ⟨g, 1, none⟩ b1).setCell ⟨g, 2, none⟩ b2) g 3 _ t b3 h2
  have h4 : (((((w.setCell ⟨g, 0, none⟩ b0).setCell ⟨g, 1, none⟩ b1).setCell ⟨g, 2, none⟩ b2).setCell ⟨g, 3, none⟩ b3).setCell ⟨g, 4, none⟩ b4).heap[g]? = some (.cells #[b0, b1, b2, b3, b4, a5, a6, a7, a8] t (0, 0)) := heap_setCell_same ((((w.setCell ⟨g, 0, none⟩ b0).setCell ⟨g, 1, none⟩ b1).setCell ⟨g, 2, none⟩ b2).setCell ⟨g, 3, none⟩ b3) g 4 _ t b4 h3
  have h5 : ((((((w.setCell ⟨g, 0, none⟩ b0).setCell ⟨g, 1, none⟩ b1).setCell ⟨g, 2, none⟩ b2).setCell ⟨g, 3, none⟩ b3).setCell ⟨g, 4, none⟩ b4).setCell ⟨g, 5, none⟩ b5).heap[g]? = some (.cells #[b0, b1, b2, b3, b4, b5, a6, a7, a8] t (0, 0)) := heap_setCell_same (((((w.setCell ⟨g, 0, none⟩ b0).setCell ⟨g, 1, none⟩ b1).setCell ⟨g, 2, none⟩ b2).setCell ⟨g, 3, none⟩ b3).setCell ⟨g, 4, none⟩ b4) g 5 _ t b5 h4
  have h6 : (((((((w.setCell ⟨g, 0, none⟩ b0).setCell ⟨g, 1, none⟩ b1).setCell ⟨g, 2, none⟩ b2).setCell ⟨g, 3, none⟩ b3).setCell ⟨g, 4, none⟩ b4).setCell ⟨g, 5, none⟩ b5).setCell ⟨g, 6, none⟩ b6).heap[g]? = some (.cells #[b0, b1, b2, b3, b4, b5, b6, a7, a8] t (0, 0)) := heap_setCell_same ((((((w.setCell ⟨g, 0, none⟩ b0).setCell ⟨g, 1, none⟩ b1).setCell ⟨g, 2, none⟩ b2).setCell ⟨g, 3, none⟩ b3).setCell ⟨g, 4, none⟩ b4).setCell ⟨g, 5, none⟩ b5) g 6 _ t b6 h5
  have h7 : ((((((((w.setCell ⟨g, 0, none⟩ b0).setCell ⟨g, 1, none⟩ b1).setCell ⟨g, 2, none⟩ b2).setCell ⟨g, 3, none⟩ b3).setCell ⟨g, 4, none⟩ b4).setCell ⟨g, 5, none⟩ b5).setCell ⟨g, 6, none⟩ b6).setCell ⟨g, 7, none⟩ b7).heap[g]? = some (.cells #[b0, b1, b2, b3, b4, b5, b6, b7, a8] t (0, 0)) := heap_setCell_same (((((((w.setCell ⟨g, 0, none⟩ b0).setCell ⟨g, 1, none⟩ b1).setCell ⟨g, 2, none⟩ b2).setCell ⟨g, 3, none⟩ b3).setCell ⟨g, 4, none⟩ b4).setCell ⟨g, 5, none⟩ b5).setCell ⟨g, 6, none⟩ b6) g 7 _ t b7 h6
  have h8 : (((((((((w.setCell ⟨g, 0, none⟩ b0).setCell ⟨g, 1, none⟩ b1).setCell ⟨g, 2, none⟩ b2).setCell ⟨g, 3, none⟩ b3).setCell ⟨g, 4, none⟩ b4).setCell ⟨g, 5, none⟩ b5).setCell ⟨g, 6, none⟩ b6).setCell ⟨g, 7, none⟩ b7).setCell ⟨g, 8, none⟩ b8).heap[g]? = some (.cells #[b0, b1, b2, b3, b4, b5, b6, b7, b8] t (0, 0)) := heap_setCell_same ((((((((w.setCell ⟨g, 0, none⟩ b0).setCell ⟨g, 1, none⟩ b1).setCell ⟨g, 2, none⟩ b2).setCell ⟨g, 3, none⟩ b3).setCell ⟨g, 4, none⟩ b4).setCell ⟨g, 5, none⟩ b5).setCell ⟨g, 6, none⟩ b6).setCell ⟨g, 7, none⟩ b7) g 8 _ t b8 h7
  exact h8
theorem set9_other (w : World) {g k : Nat} (b0 b1 b2 b3 b4 b5 b6 b7 b8 : Value) (h : k ≠ g) : (set9 w g b0 b1 b2 b3 b4 b5 b6 b7 b8).heap[k]? = w.heap[k]? := by
  unfold set9; rw [setCell_heap h, setCell_heap h, setCell_heap h, setCell_heap h, setCell_heap h, setCell_heap h, setCell_heap h, setCell_heap h, setCell_heap h]
theorem set9_size (w : World) (g : Nat) (b0 b1 b2 b3 b4 b5 b6 b7 b8 : Value) : (set9 w g b0 b1 b2 b3 b4 b5 b6 b7 b8).heap.size = w.heap.size := by unfold set9; simp
theorem set9_below {B : Nat} {w0 w : World} {g : Nat} (b0 b1 b2 b3 b4 b5 b6 b7 b8 : Value) (h : Below B w0 w) (hg : B ≤ g) : Below B w0 (set9 w g b0 b1 b2 b3 b4 b5 b6 b7 b8) := by
  unfold set9
  exact ((((((((h.setCell hg b0).setCell hg b1).setCell hg b2).setCell hg b3).setCell hg b4).setCell hg b5).setCell hg b6).setCell hg b7).setCell hg b8
/-- Bytes lie apart from a block that holds none. -/
theorem URow.apart {w w' : World} {g : Nat} {v : Value} {xs : List Int} (h : URow w v xs) (hg : ∀ (o : Nat) (x : Int), w.cell? ⟨g, o, none⟩ ≠ some (.int .u8 x)) (hk : ∀ k, k ≠ g → k < w.heap.size → w'.heap[k]? = w.heap[k]?) (hs : w.heap.size ≤ w'.heap.size) : URow w' v xs := by
  obtain ⟨pa, cap, e, h1, h2, h3, h4⟩ := h
  refine ⟨pa, cap, e, h1, h2, h3, fun h0 => ?_⟩
  obtain ⟨b, o, e1, e2, e3⟩ := h4 h0
  have hne : b ≠ g := by
    rintro rfl
    exact hg _ _ (e3 0 xs[0] (List.getElem?_eq_getElem h0))
  refine ⟨b, o, e1, by omega, fun j x hj => ?_⟩
  have := e3 j x hj
  show w'.cell? _ = _
  rw [← this]
  simp only [World.cell?, hk b hne e2]
theorem cells9_no8 {w : World} {g : Nat} {t : TypeId} {a0 a1 a2 a3 a4 a5 a6 a7 a8 : Value} (h : w.heap[g]? = some (.cells #[a0, a1, a2, a3, a4, a5, a6, a7, a8] t (0, 0))) (hn : ∀ a ∈ [a0, a1, a2, a3, a4, a5, a6, a7, a8], ∀ x, a ≠ .int .u8 x) (o : Nat) (x : Int) : w.cell? ⟨g, o, none⟩ ≠ some (.int .u8 x) := by
  intro hc
  simp only [World.cell?, h] at hc
  have hm : Value.int .u8 x ∈ [a0, a1, a2, a3, a4, a5, a6, a7, a8] := by
    have := List.mem_of_getElem? (l := [a0, a1, a2, a3, a4, a5, a6, a7, a8]) (i := o) (a := Value.int .u8 x) (by simpa using hc)
    exact this
  exact hn _ hm x rfl

end Go.Proofs.Ytpgpjaackaedhaa

/-
  header.New of a program without headers.
-/
namespace Go.Proofs.Ytpgpjaackaedhaa
open Go.RowKit

/-- A program of steps and a control alone. -/
def dpS (sp : Option Addr) (sn sc : Nat) (cp : Option Addr) (cn cc : Nat) : PgS := ⟨none, 0, 0, none, 0, 0, sp, sn, sc, none, 0, 0, none, 0, 0, cp, cn, cc, none, 0, 0, none, 0, 0, none, 0, 0, none, 0, 0, none, 0, 0, none, 0, 0⟩
def dpV (sp : Option Addr) (sn sc : Nat) (cp : Option Addr) (cn cc : Nat) : Value := .agg #[.slice none 0 0, .slice none 0 0, .slice sp sn sc, .slice none 0 0, .slice none 0 0, .slice cp cn cc, .slice none 0 0, .slice none 0 0, .slice none 0 0, .slice none 0 0, .slice none 0 0, .slice none 0 0]
def pktZ : Array Value := #[.int .i64 0, .slice none 0 0, .slice none 0 0, .slice none 0 0, .slice none 0 0, .bool false, .bool false, .int .i64 0, .bool false]
/-- A packet without headers, that came by a port, with bytes. -/
def pktD (port : Int) (r v m : Value) (d s : Bool) (e : Int) : Value := .agg #[.int .i64 port, r, v, .slice none 0 0, m, .bool d, .bool s, .int .i64 e, .bool false]
def RetPkt (w : World) (port : Int) (n : Nat) (xs : List Int) (e : Ending) (w' : World) : Prop := ∃ p c g1 g2, e = .returned (pktD port (.slice p n c) (.slice (some ⟨g1, 0, none⟩) 0 0) (.slice (some ⟨g2, 0, none⟩) 0 0) false false 0) ∧ URow w' (.slice p n c) xs ∧ Below w.heap.size w w'

theorem msB (W : World) : (Instr.makeSlice 56 (.int .i64 0) (.int .i64 0)).run Try.prog W = .ok (.slice (some ⟨W.heap.size, 0, none⟩) 0 0) (W.alloc (.cells #[] 4)) := by kernel_rfl
theorem msN (W : World) : (Instr.makeSlice 58 (.int .i64 0) (.int .i64 0)).run Try.prog W = .ok (.slice (some ⟨W.heap.size, 0, none⟩) 0 0) (W.alloc (.cells #[] 33)) := by kernel_rfl

set_option maxRecDepth 100000 in
set_option maxHeartbeats 6400000 in
theorem new_any (sp : Option Addr) (sn sc : Nat) (cp : Option Addr) (cn cc : Nat) (port : Int) (bp : Option Addr) (n bc : Nat) (xs : List Int) (w : World) (hb : URow w (.slice bp n bc) xs) (hn : n = xs.length) (hl : n ≤ 1000000) :
    Calls Try.prog 10 #[dpV sp sn sc cp cn cc, .int .i64 port, .slice bp n bc] w (RetPkt w port n xs) := by
  have HX := Lib.hid hb
  have HN := Lib.hid hn
  have HL := Lib.hid hl
  unfold dpV
  clear hb hn
  go_enter Try.func10, Try.ntmps10
  go_wp2_with fail
  rename_i K hK
  obtain ⟨W0, hW0⟩ : ∃ W0, W0 = ((w.alloc (.cells #[.slice none 0 0, .slice none 0 0, .slice sp sn sc, .slice none 0 0, .slice none 0 0, .slice cp cn cc, .slice none 0 0, .slice none 0 0, .slice none 0 0, .slice none 0 0, .slice none 0 0, .slice none 0 0] 49)).alloc (.cells #[.int .i64 0, .slice none 0 0, .slice none 0 0, .slice none 0 0, .slice none 0 0, .bool false, .bool false, .int .i64 0, .bool false] 60)) := ⟨_, rfl⟩
  have HB0 : Hid (Below w.heap.size w W0) := by show Below _ _ _; rw [hW0]; exact (by repeat (first | exact Below.refl _ _ | assumption | refine Below.drew ?_ | refine Below.alloc ?_ (by first | omega | (simp <;> omega)) _ | refine Below.setCell ?_ (by first | omega | (simp <;> omega)) _ | refine Below.trans ?_ (Below.mono (by assumption) (by first | omega | (simp <;> omega)))))
  have hsz0 : W0.heap.size = w.heap.size + 1 + 1 := by rw [hW0]; simp
  have HB : Hid (∀ (a : Act) (W : World), Below W0.heap.size W0 W → W.cell? ⟨w.heap.size, 0, none⟩ = some (.slice none 0 0) ∧ W.cell? ⟨w.heap.size, 1, none⟩ = some (.slice none 0 0)) := fun _ W h => by
    have h1 : W0.heap[w.heap.size]? = some (.cells #[.slice none 0 0, .slice none 0 0, .slice sp sn sc, .slice none 0 0, .slice none 0 0, .slice cp cn cc, .slice none 0 0, .slice none 0 0, .slice none 0 0, .slice none 0 0, .slice none 0 0, .slice none 0 0] 49 (0, 0)) := by
      rw [hW0, Below.heap_alloc _ _ _ (by simp)]; exact heap_new _ _
    have h2 := (h.block _ (Array.getElem?_eq_some_iff.1 h1).1).trans h1
    exact ⟨by simp [World.cell?, h2], by simp [World.cell?, h2]⟩
  have HC : Hid (∀ W, Below W0.heap.size W0 W → Calls Try.prog 18 #[.slice bp n bc] W (RetU W xs)) := fun W h => clone_any _ xs W (HX.out.below keepU (HB0.out.trans (h.mono HB0.out.size))) (by have := HN.out; have := HL.out; omega)
  have HR : Hid (W0.heap[w.heap.size + 1]? = some (.cells #[.int .i64 0, .slice none 0 0, .slice none 0 0, .slice none 0 0, .slice none 0 0, .bool false, .bool false, .int .i64 0, .bool false] 60 (0, 0))) := by
    show _ = _
    rw [hW0]
    have := heap_new (w.alloc (.cells #[.slice none 0 0, .slice none 0 0, .slice sp sn sc, .slice none 0 0, .slice none 0 0, .slice cp cn cc, .slice none 0 0, .slice none 0 0, .slice none 0 0, .slice none 0 0, .slice none 0 0, .slice none 0 0] 49)) (.cells #[.int .i64 0, .slice none 0 0, .slice none 0 0, .slice none 0 0, .slice none 0 0, .bool false, .bool false, .int .i64 0, .bool false] 60)
    simp only [World.size_alloc] at this
    exact this
  rw [← hW0]
  clear hW0 hl
  refine region_outL (by kernel_rfl) (fun Wk => Below W0.heap.size W0 Wk) (fun w1 w2 h1 h2 => h1.trans (h2.mono h1.size)) (by kernel_rfl) (by kernel_rfl) (Below.drew (Below.refl _ _)) ?_
  refine ⟨.eq ?_, trivial, rfl, fun aa ww ll hh => ?_, ?_⟩
  rotate_left
  · have e1 := (hh.old 1 (by kernel_rfl)).trans (evalO rfl)
    simp only [nthO] at e1
    refine out_val (wanted_none rfl) ?_
    rw [ex_moveO (by first | exact .inl rfl | exact .inr rfl) e1]
  refine ⟨.eq ?_, trivial, rfl, fun aa ww ll hh => ?_, ?_⟩
  rotate_left
  · have e2 := (hh.old 2 (by kernel_rfl)).trans (evalO rfl)
    simp only [nthO] at e2
    refine out_val (wanted_none rfl) ?_
    rw [ex_moveO (by first | exact .inl rfl | exact .inr rfl) e2]
  refine ⟨.rel (fun W v => ∃ p c, v = .slice p n c ∧ URow W (.slice p n c) xs), (fun _ _ _ ⟨p, c, h1, h2⟩ hb => ⟨p, c, h1, h2.below keepU hb⟩), rfl, fun aa ww ll hh => ?_, ?_⟩
  · have e11 := hh.get 1 0 (by kernel_rfl) rfl rfl rfl
    have ef : ∀ f, aa.eval (.func f) = .func (.func f) #[] #[] := fun _ => rfl
    refine out_call (wanted_none rfl) ?_ ((HC.out ww hh.inv).mono ?_)
    · clear hh
      generalize aa.eval = ev at e11 ef ⊢
      go_simp
    · rintro e w1 ⟨v, rfl, h1, h2⟩
      obtain ⟨p, c, rfl, -, -⟩ := h1.shape
      rw [← HN.out] at h1 ⊢
      exact ⟨_, rfl, ⟨p, c, rfl, h1⟩, h2⟩
  refine ⟨.eq ?_, trivial, rfl, fun aa ww ll hh => ?_, ?_⟩
  rotate_left
  · have e3 := (hh.old 3 (by kernel_rfl)).trans (evalO rfl)
    simp only [nthO] at e3
    refine out_val (wanted_none rfl) ?_
    clear hh
    generalize aa.eval = ev at e3 ⊢
    go_simp
    try rfl
  refine ⟨.eq ?_, trivial, rfl, fun aa ww ll hh => ?_, ?_⟩
  rotate_left
  · have e13 := hh.get 3 0 (by kernel_rfl) rfl rfl rfl
    obtain ⟨q0, q1⟩ := HB.out aa ww hh.inv
    refine out_val (wanted_none rfl) ?_
    clear hh
    generalize aa.eval = ev at e13 ⊢
    go_simp
    try rfl
  refine ⟨.eq ?_, trivial, rfl, fun aa ww ll hh => ?_, ?_⟩
  rotate_left
  · have e14 := hh.get 4 0 (by kernel_rfl) rfl rfl rfl
    obtain ⟨q0, q1⟩ := HB.out aa ww hh.inv
    refine out_val (wanted_none rfl) ?_
    clear hh
    generalize aa.eval = ev at e14 ⊢
    go_simp
    try rfl
  refine ⟨.rel (fun _ v => ∃ g, v = .slice (some ⟨g, 0, none⟩) 0 0), (fun _ _ _ h _ => h), rfl, fun aa ww ll hh => ?_, ?_⟩
  · have e15 := hh.get 5 0 (by kernel_rfl) rfl rfl rfl
    clear hh
    refine out_new (wanted_none rfl) (w' := ww.alloc (.cells #[] 4)) (v := .slice (some ⟨ww.heap.size, 0, none⟩) 0 0) ?_ ((Below.refl _ _).alloc (Nat.le_refl _) _) ⟨_, rfl⟩
    generalize aa.eval = ev at e15 ⊢
    go_simp
    rw [msB]
    rfl
  refine ⟨.eq ?_, trivial, rfl, fun aa ww ll hh => ?_, ?_⟩
  rotate_left
  · have e3 := (hh.old 3 (by kernel_rfl)).trans (evalO rfl)
    simp only [nthO] at e3
    refine out_val (wanted_none rfl) ?_
    clear hh
    generalize aa.eval = ev at e3 ⊢
    go_simp
    try rfl
  refine ⟨.eq ?_, trivial, rfl, fun aa ww ll hh => ?_, ?_⟩
  rotate_left
  · have e17 := hh.get 7 0 (by kernel_rfl) rfl rfl rfl
    obtain ⟨q0, q1⟩ := HB.out aa ww hh.inv
    refine out_val (wanted_none rfl) ?_
    clear hh
    generalize aa.eval = ev at e17 ⊢
    go_simp
    try rfl
  refine ⟨.eq ?_, trivial, rfl, fun aa ww ll hh => ?_, ?_⟩
  rotate_left
  · have e18 := hh.get 8 0 (by kernel_rfl) rfl rfl rfl
    obtain ⟨q0, q1⟩ := HB.out aa ww hh.inv
    refine out_val (wanted_none rfl) ?_
    clear hh
    generalize aa.eval = ev at e18 ⊢
    go_simp
    try rfl
  refine ⟨.rel (fun _ v => ∃ g, v = .slice (some ⟨g, 0, none⟩) 0 0), (fun _ _ _ h _ => h), rfl, fun aa ww ll hh => ?_, ?_⟩
  · have e19 := hh.get 9 0 (by kernel_rfl) rfl rfl rfl
    clear hh
    refine out_new (wanted_none rfl) (w' := ww.alloc (.cells #[] 33)) (v := .slice (some ⟨ww.heap.size, 0, none⟩) 0 0) ?_ ((Below.refl _ _).alloc (Nat.le_refl _) _) ⟨_, rfl⟩
    generalize aa.eval = ev at e19 ⊢
    go_simp
    rw [msN]
    rfl
  refine ⟨.rel (fun W v => ∃ p c g1 g2, v = .agg #[.int .i64 port, .slice p n c, .slice (some ⟨g1, 0, none⟩) 0 0, .slice none 0 0, .slice (some ⟨g2, 0, none⟩) 0 0, .bool false, .bool false, .int .i64 0, .bool false] ∧ URow W (.slice p n c) xs), (fun _ _ _ ⟨p, c, g1, g2, h1, h2⟩ hb => ⟨p, c, g1, g2, h1, h2.below keepU hb⟩), rfl, fun aa ww ll hh => ?_, ?_⟩
  · have e10 := hh.get 0 10 (by kernel_rfl) rfl rfl rfl
    obtain ⟨x12, e12, -, p12⟩ := hh.got 2 8 (by kernel_rfl) rfl rfl rfl
    obtain ⟨x16, e16, -, p16⟩ := hh.got 6 4 (by kernel_rfl) rfl rfl rfl
    obtain ⟨x20, e20, -, p20⟩ := hh.got 10 0 (by kernel_rfl) rfl rfl rfl
    obtain ⟨p, c, rfl, hu⟩ := p12
    obtain ⟨g1, rfl⟩ := p16
    obtain ⟨g2, rfl⟩ := p20
    clear hh
    refine out_new (wanted_none rfl) (w' := ww) (v := _) ?_ (Below.refl _ _) ⟨p, c, g1, g2, rfl, hu⟩
    generalize aa.eval = ev at e10 e12 e16 e20 ⊢
    go_simp
    try rfl
  refine ⟨.rel (fun W v => ∃ g, v = .pointer (some ⟨g, 0, none⟩) ∧ W0.heap.size ≤ g ∧ W.heap[g]? = some (.cells pktZ 60 (0, 0))), (fun _ _ _ ⟨g, h1, h2, h3⟩ hb => ⟨g, h1, h2, (hb.block g (Array.getElem?_eq_some_iff.1 h3).1).trans h3⟩), rfl, fun aa ww ll hh => ?_, ?_⟩
  · have hsz := hh.inv.size
    clear hh
    refine out_new (wanted_none rfl) (w' := ww.alloc (.cells pktZ 60)) (v := .pointer (some ⟨ww.heap.size, 0, none⟩)) ?_ ((Below.refl _ _).alloc (Nat.le_refl _) _) ⟨_, rfl, by show W0.heap.size ≤ _; omega, heap_new _ _⟩
    unfold pktZ
    go_simp
    try rfl
  intro ll w2 hS hok
  have p11 := hok 11 _ rfl
  have p12 := hok 12 _ rfl
  clear hok
  simp only [List.reverse_cons, List.reverse_nil, List.nil_append, List.cons_append, layO, Out.val, Act.put, List.setIfInBounds_toArray, List.set_cons_zero, List.set_cons_succ]
  refine ⟨(by first | trivial | rfl), ?_⟩
  obtain ⟨p, c, g1, g2, hv, hu⟩ := p11
  obtain ⟨g, hg, hgl, hgb⟩ := p12
  rw [hv, hg]
  unfold pktZ at hgb
  have c0 : w2.cell? ⟨g, 0, none⟩ = some (.int .i64 0) := by simp [World.cell?, hgb]
  have f0 : w2.frozen? ⟨g, 0, none⟩ = false := by simp [World.frozen?, hgb]
  have c1 : w2.cell? ⟨g, 1, none⟩ = some (.slice none 0 0) := by simp [World.cell?, hgb]
  have f1 : w2.frozen? ⟨g, 1, none⟩ = false := by simp [World.frozen?, hgb]
  have c2 : w2.cell? ⟨g, 2, none⟩ = some (.slice none 0 0) := by simp [World.cell?, hgb]
  have f2 : w2.frozen? ⟨g, 2, none⟩ = false := by simp [World.frozen?, hgb]
  have c3 : w2.cell? ⟨g, 3, none⟩ = some (.slice none 0 0) := by simp [World.cell?, hgb]
  have f3 : w2.frozen? ⟨g, 3, none⟩ = false := by simp [World.frozen?, hgb]
  have c4 : w2.cell? ⟨g, 4, none⟩ = some (.slice none 0 0) := by simp [World.cell?, hgb]
  have f4 : w2.frozen? ⟨g, 4, none⟩ = false := by simp [World.frozen?, hgb]
  have c5 : w2.cell? ⟨g, 5, none⟩ = some (.bool false) := by simp [World.cell?, hgb]
  have f5 : w2.frozen? ⟨g, 5, none⟩ = false := by simp [World.frozen?, hgb]
  have c6 : w2.cell? ⟨g, 6, none⟩ = some (.bool false) := by simp [World.cell?, hgb]
  have f6 : w2.frozen? ⟨g, 6, none⟩ = false := by simp [World.frozen?, hgb]
  have c7 : w2.cell? ⟨g, 7, none⟩ = some (.int .i64 0) := by simp [World.cell?, hgb]
  have f7 : w2.frozen? ⟨g, 7, none⟩ = false := by simp [World.frozen?, hgb]
  have c8 : w2.cell? ⟨g, 8, none⟩ = some (.bool false) := by simp [World.cell?, hgb]
  have f8 : w2.frozen? ⟨g, 8, none⟩ = false := by simp [World.frozen?, hgb]
  clear hv hg
  unfold Oper.wp
  go_simp
  refine hK _ _ ?_
  clear hK
  have hgw : g < w2.heap.size := (Array.getElem?_eq_some_iff.1 hgb).1
  have hb3 := set9_heap (.int .i64 port) (.slice p n c) (.slice (some ⟨g1, 0, none⟩) 0 0) (.slice none 0 0) (.slice (some ⟨g2, 0, none⟩) 0 0) (.bool false) (.bool false) (.int .i64 0) (.bool false) hgb
  have hB3 := set9_below (.int .i64 port) (.slice p n c) (.slice (some ⟨g1, 0, none⟩) 0 0) (.slice none 0 0) (.slice (some ⟨g2, 0, none⟩) 0 0) (.bool false) (.bool false) (.int .i64 0) (.bool false) hS hgl
  have hu3 : URow (set9 w2 g (.int .i64 port) (.slice p n c) (.slice (some ⟨g1, 0, none⟩) 0 0) (.slice none 0 0) (.slice (some ⟨g2, 0, none⟩) 0 0) (.bool false) (.bool false) (.int .i64 0) (.bool false)) (.slice p n c) xs := hu.apart (cells9_no8 hgb (by simp)) (fun k hk _ => set9_other w2 (.int .i64 port) (.slice p n c) (.slice (some ⟨g1, 0, none⟩) 0 0) (.slice none 0 0) (.slice (some ⟨g2, 0, none⟩) 0 0) (.bool false) (.bool false) (.int .i64 0) (.bool false) hk) (by rw [set9_size]; omega)
  have hs3 := set9_size w2 g (.int .i64 port) (.slice p n c) (.slice (some ⟨g1, 0, none⟩) 0 0) (.slice none 0 0) (.slice (some ⟨g2, 0, none⟩) 0 0) (.bool false) (.bool false) (.int .i64 0) (.bool false)
  change Code.wp _ _ _ _ (set9 w2 g (.int .i64 port) (.slice p n c) (.slice (some ⟨g1, 0, none⟩) 0 0) (.slice none 0 0) (.slice (some ⟨g2, 0, none⟩) 0 0) (.bool false) (.bool false) (.int .i64 0) (.bool false))
  generalize hW3 : set9 w2 g (.int .i64 port) (.slice p n c) (.slice (some ⟨g1, 0, none⟩) 0 0) (.slice none 0 0) (.slice (some ⟨g2, 0, none⟩) 0 0) (.bool false) (.bool false) (.int .i64 0) (.bool false) = W3 at *
  clear hW3 c0 f0 c1 f1 c2 f2 c3 f3 c4 f4 c5 f5 c6 f6 c7 f7 c8 f8
  obtain ⟨q0, q1⟩ := HB.out ⟨#[], []⟩ W3 hB3
  go_wp2_with fail
  go_loopw [25] (fun i wr => i = .int .i64 0 ∧ wr = W3) (fun _ _ => 0)
  case atStart => exact ⟨rfl, rfl⟩
  case round =>
    obtain ⟨rfl, rfl⟩ := hrel
    have d0 : wr.cell? ⟨g, 0, none⟩ = some (.int .i64 port) := by simp [World.cell?, hb3]
    have k0 : wr.frozen? ⟨g, 0, none⟩ = false := by simp [World.frozen?, hb3]
    have d1 : wr.cell? ⟨g, 1, none⟩ = some (.slice p n c) := by simp [World.cell?, hb3]
    have k1 : wr.frozen? ⟨g, 1, none⟩ = false := by simp [World.frozen?, hb3]
    have d2 : wr.cell? ⟨g, 2, none⟩ = some (.slice (some ⟨g1, 0, none⟩) 0 0) := by simp [World.cell?, hb3]
    have k2 : wr.frozen? ⟨g, 2, none⟩ = false := by simp [World.frozen?, hb3]
    have d3 : wr.cell? ⟨g, 3, none⟩ = some (.slice none 0 0) := by simp [World.cell?, hb3]
    have k3 : wr.frozen? ⟨g, 3, none⟩ = false := by simp [World.frozen?, hb3]
    have d4 : wr.cell? ⟨g, 4, none⟩ = some (.slice (some ⟨g2, 0, none⟩) 0 0) := by simp [World.cell?, hb3]
    have k4 : wr.frozen? ⟨g, 4, none⟩ = false := by simp [World.frozen?, hb3]
    have d5 : wr.cell? ⟨g, 5, none⟩ = some (.bool false) := by simp [World.cell?, hb3]
    have k5 : wr.frozen? ⟨g, 5, none⟩ = false := by simp [World.frozen?, hb3]
    have d6 : wr.cell? ⟨g, 6, none⟩ = some (.bool false) := by simp [World.cell?, hb3]
    have k6 : wr.frozen? ⟨g, 6, none⟩ = false := by simp [World.frozen?, hb3]
    have d7 : wr.cell? ⟨g, 7, none⟩ = some (.int .i64 0) := by simp [World.cell?, hb3]
    have k7 : wr.frozen? ⟨g, 7, none⟩ = false := by simp [World.frozen?, hb3]
    have d8 : wr.cell? ⟨g, 8, none⟩ = some (.bool false) := by simp [World.cell?, hb3]
    have k8 : wr.frozen? ⟨g, 8, none⟩ = false := by simp [World.frozen?, hb3]
    have hr3 : wr.heap[w.heap.size + 1]? = _ := (hB3.block _ (by omega)).trans HR.out
    have e0 : wr.cell? ⟨w.heap.size + 1, 0, none⟩ = some (.int .i64 0) := by simp [World.cell?, hr3]
    have l0 : wr.frozen? ⟨w.heap.size + 1, 0, none⟩ = false := by simp [World.frozen?, hr3]
    have e1 : wr.cell? ⟨w.heap.size + 1, 1, none⟩ = some (.slice none 0 0) := by simp [World.cell?, hr3]
    have l1 : wr.frozen? ⟨w.heap.size + 1, 1, none⟩ = false := by simp [World.frozen?, hr3]
    have e2 : wr.cell? ⟨w.heap.size + 1, 2, none⟩ = some (.slice none 0 0) := by simp [World.cell?, hr3]
    have l2 : wr.frozen? ⟨w.heap.size + 1, 2, none⟩ = false := by simp [World.frozen?, hr3]
    have e3 : wr.cell? ⟨w.heap.size + 1, 3, none⟩ = some (.slice none 0 0) := by simp [World.cell?, hr3]
    have l3 : wr.frozen? ⟨w.heap.size + 1, 3, none⟩ = false := by simp [World.frozen?, hr3]
    have e4 : wr.cell? ⟨w.heap.size + 1, 4, none⟩ = some (.slice none 0 0) := by simp [World.cell?, hr3]
    have l4 : wr.frozen? ⟨w.heap.size + 1, 4, none⟩ = false := by simp [World.frozen?, hr3]
    have e5 : wr.cell? ⟨w.heap.size + 1, 5, none⟩ = some (.bool false) := by simp [World.cell?, hr3]
    have l5 : wr.frozen? ⟨w.heap.size + 1, 5, none⟩ = false := by simp [World.frozen?, hr3]
    have e6 : wr.cell? ⟨w.heap.size + 1, 6, none⟩ = some (.bool false) := by simp [World.cell?, hr3]
    have l6 : wr.frozen? ⟨w.heap.size + 1, 6, none⟩ = false := by simp [World.frozen?, hr3]
    have e7 : wr.cell? ⟨w.heap.size + 1, 7, none⟩ = some (.int .i64 0) := by simp [World.cell?, hr3]
    have l7 : wr.frozen? ⟨w.heap.size + 1, 7, none⟩ = false := by simp [World.frozen?, hr3]
    have e8 : wr.cell? ⟨w.heap.size + 1, 8, none⟩ = some (.bool false) := by simp [World.cell?, hr3]
    have l8 : wr.frozen? ⟨w.heap.size + 1, 8, none⟩ = false := by simp [World.frozen?, hr3]
    go_wp2_with fail
    have hb4 := set9_heap (.int .i64 port) (.slice p n c) (.slice (some ⟨g1, 0, none⟩) 0 0) (.slice none 0 0) (.slice (some ⟨g2, 0, none⟩) 0 0) (.bool false) (.bool false) (.int .i64 0) (.bool false) hr3
    refine bodyPost_ret (v := pktD port (.slice p n c) (.slice (some ⟨g1, 0, none⟩) 0 0) (.slice (some ⟨g2, 0, none⟩) 0 0) false false 0) ?_ rfl ⟨p, c, g1, g2, rfl, ?_, ?_⟩
    · obtain ⟨W4, hW4⟩ : ∃ W4, W4 = set9 wr (w.heap.size + 1) (.int .i64 port) (.slice p n c) (.slice (some ⟨g1, 0, none⟩) 0 0) (.slice none 0 0) (.slice (some ⟨g2, 0, none⟩) 0 0) (.bool false) (.bool false) (.int .i64 0) (.bool false) := ⟨_, rfl⟩
      change Sem.run Try.prog (results _ _) (set9 wr (w.heap.size + 1) (.int .i64 port) (.slice p n c) (.slice (some ⟨g1, 0, none⟩) 0 0) (.slice none 0 0) (.slice (some ⟨g2, 0, none⟩) 0 0) (.bool false) (.bool false) (.int .i64 0) (.bool false)) = Result.ok _ (set9 wr (w.heap.size + 1) (.int .i64 port) (.slice p n c) (.slice (some ⟨g1, 0, none⟩) 0 0) (.slice none 0 0) (.slice (some ⟨g2, 0, none⟩) 0 0) (.bool false) (.bool false) (.int .i64 0) (.bool false))
      rw [← hW4] at hb4 ⊢
      clear hW4
      have m0 : W4.cell? ⟨w.heap.size + 1, 0, none⟩ = some (.int .i64 port) := by simp [World.cell?, hb4]
      have m1 : W4.cell? ⟨w.heap.size + 1, 1, none⟩ = some (.slice p n c) := by simp [World.cell?, hb4]
      have m2 : W4.cell? ⟨w.heap.size + 1, 2, none⟩ = some (.slice (some ⟨g1, 0, none⟩) 0 0) := by simp [World.cell?, hb4]
      have m3 : W4.cell? ⟨w.heap.size + 1, 3, none⟩ = some (.slice none 0 0) := by simp [World.cell?, hb4]
      have m4 : W4.cell? ⟨w.heap.size + 1, 4, none⟩ = some (.slice (some ⟨g2, 0, none⟩) 0 0) := by simp [World.cell?, hb4]
      have m5 : W4.cell? ⟨w.heap.size + 1, 5, none⟩ = some (.bool false) := by simp [World.cell?, hb4]
      have m6 : W4.cell? ⟨w.heap.size + 1, 6, none⟩ = some (.bool false) := by simp [World.cell?, hb4]
      have m7 : W4.cell? ⟨w.heap.size + 1, 7, none⟩ = some (.int .i64 0) := by simp [World.cell?, hb4]
      have m8 : W4.cell? ⟨w.heap.size + 1, 8, none⟩ = some (.bool false) := by simp [World.cell?, hb4]
      simp [results, Try.results10, go_sem, pktD, m0, m1, m2, m3, m4, m5, m6, m7, m8]
    · exact hu3.apart (cells9_no8 hr3 (by simp)) (fun k hk _ => set9_other wr (.int .i64 port) (.slice p n c) (.slice (some ⟨g1, 0, none⟩) 0 0) (.slice none 0 0) (.slice (some ⟨g2, 0, none⟩) 0 0) (.bool false) (.bool false) (.int .i64 0) (.bool false) hk) (by show _ ≤ (set9 wr (w.heap.size + 1) (.int .i64 port) (.slice p n c) (.slice (some ⟨g1, 0, none⟩) 0 0) (.slice none 0 0) (.slice (some ⟨g2, 0, none⟩) 0 0) (.bool false) (.bool false) (.int .i64 0) (.bool false)).heap.size; rw [set9_size]; omega)
    · exact set9_below (.int .i64 port) (.slice p n c) (.slice (some ⟨g1, 0, none⟩) 0 0) (.slice none 0 0) (.slice (some ⟨g2, 0, none⟩) 0 0) (.bool false) (.bool false) (.int .i64 0) (.bool false) (HB0.out.trans (hB3.mono HB0.out.size)) (by omega)

end Go.Proofs.Ytpgpjaackaedhaa

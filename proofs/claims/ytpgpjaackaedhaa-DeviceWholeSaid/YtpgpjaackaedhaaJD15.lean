/-
  Lemmas, joined: DevI, DevJ.
-/
import Derived.Test.YtpgpjaackaedhaaJD14
import Derived.Test.YtpgpjaackaedhaaJD02
import Derived.LoopN
import Derived.Deep.Cut
/-
  runner.run of one or two instructions: forward, and drop.
-/
namespace Go.Proofs.Ytpgpjaackaedhaa
open Go.RowKit Go.Maps

theorem len_succ (l : List Value) (n : Nat) (h : l.length = n + 1) : ∃ x t, l = x :: t ∧ t.length = n := by
  cases l with
  | nil => cases h
  | cons x t => exact ⟨x, t, rfl, by simpa using h⟩
theorem fr65 (a : Act) (hz : a.tmps.size = 65) (hd : a.defers = []) : ∃ x0 x1 x2 x3 x4 x5 x6 x7 x8 x9 x10 x11 x12 x13 x14 x15 x16 x17 x18 x19 x20 x21 x22 x23 x24 x25 x26 x27 x28 x29 x30 x31 x32 x33 x34 x35 x36 x37 x38 x39 x40 x41 x42 x43 x44 x45 x46 x47 x48 x49 x50 x51 x52 x53 x54 x55 x56 x57 x58 x59 x60 x61 x62 x63 x64, a = ⟨#[x0, x1, x2, x3, x4, x5, x6, x7, x8, x9, x10, x11, x12, x13, x14, x15, x16, x17, x18, x19, x20, x21, x22, x23, x24, x25, x26, x27, x28, x29, x30, x31, x32, x33, x34, x35, x36, x37, x38, x39, x40, x41, x42, x43, x44, x45, x46, x47, x48, x49, x50, x51, x52, x53, x54, x55, x56, x57, x58, x59, x60, x61, x62, x63, x64], []⟩ := by
  obtain ⟨⟨l0⟩, d⟩ := a
  obtain rfl : d = [] := hd
  have h0 : l0.length = 65 := hz
  clear hz
  obtain ⟨x0, l1, rfl, h1⟩ := len_succ l0 64 h0
  clear h0
  obtain ⟨x1, l2, rfl, h2⟩ := len_succ l1 63 h1
  clear h1
  obtain ⟨x2, l3, rfl, h3⟩ := len_succ l2 62 h2
  clear h2
  obtain ⟨x3, l4, rfl, h4⟩ := len_succ l3 61 h3
  clear h3
  obtain ⟨x4, l5, rfl, h5⟩ := len_succ l4 60 h4
  clear h4
  obtain ⟨x5, l6, rfl, h6⟩ := len_succ l5 59 h5
  clear h5
  obtain ⟨x6, l7, rfl, h7⟩ := len_succ l6 58 h6
  clear h6
  obtain ⟨x7, l8, rfl, h8⟩ := len_succ l7 57 h7
  clear h7
  obtain ⟨x8, l9, rfl, h9⟩ := len_succ l8 56 h8
  clear h8
  obtain ⟨x9, l10, rfl, h10⟩ := len_succ l9 55 h9
  clear h9
  obtain ⟨x10, l11, rfl, h11⟩ := len_succ l10 54 h10
  clear h10
  obtain ⟨x11, l12, rfl, h12⟩ := len_succ l11 53 h11
  clear h11
  obtain ⟨x12, l13, rfl, h13⟩ := len_succ l12 52 h12
  clear h12
  obtain ⟨x13, l14, rfl, h14⟩ := len_succ l13 51 h13
  clear h13
  obtain ⟨x14, l15, rfl, h15⟩ := len_succ l14 50 h14
  clear h14
  obtain ⟨x15, l16, rfl, h16⟩ := len_succ l15 49 h15
  clear h15
  obtain ⟨x16, l17, rfl, h17⟩ := len_succ l16 48 h16
  clear h16
  obtain ⟨x17, l18, rfl, h18⟩ := len_succ l17 47 h17
  clear h17
  obtain ⟨x18, l19, rfl, h19⟩ := len_succ l18 46 h18
  clear h18
  obtain ⟨x19, l20, rfl, h20⟩ := len_succ l19 45 h19
  clear h19
  obtain ⟨x20, l21, rfl, h21⟩ := len_succ l20 44 h20
  clear h20
  obtain ⟨x21, l22, rfl, h22⟩ := len_succ l21 43 h21
  clear h21
  obtain ⟨x22, l23, rfl, h23⟩ := len_succ l22 42 h22
  clear h22
  obtain ⟨x23, l24, rfl, h24⟩ := len_succ l23 41 h23
  clear h23
  obtain ⟨x24, l25, rfl, h25⟩ := len_succ l24 40 h24
  clear h24
  obtain ⟨x25, l26, rfl, h26⟩ := len_succ l25 39 h25
  clear h25
  obtain ⟨x26, l27, rfl, h27⟩ := len_succ l26 38 h26
  clear h26
  obtain ⟨x27, l28, rfl, h28⟩ := len_succ l27 37 h27
  clear h27
  obtain ⟨x28, l29, rfl, h29⟩ := len_succ l28 36 h28
  clear h28
  obtain ⟨x29, l30, rfl, h30⟩ := len_succ l29 35 h29
  clear h29
  obtain ⟨x30, l31, rfl, h31⟩ := len_succ l30 34 h30
  clear h30
  obtain ⟨x31, l32, rfl, h32⟩ := len_succ l31 33 h31
  clear h31
  obtain ⟨x32, l33, rfl, h33⟩ := len_succ l32 32 h32
  clear h32
  obtain ⟨x33, l34, rfl, h34⟩ := len_succ l33 31 h33
  clear h33
  obtain ⟨x34, l35, rfl, h35⟩ := len_succ l34 30 h34
  clear h34
  obtain ⟨x35, l36, rfl, h36⟩ := len_succ l35 29 h35
  clear h35
  obtain ⟨x36, l37, rfl, h37⟩ := len_succ l36 28 h36
  clear h36
  obtain ⟨x37, l38, rfl, h38⟩ := len_succ l37 27 h37
  clear h37
  obtain ⟨x38, l39, rfl, h39⟩ := len_succ l38 26 h38
  clear h38
  obtain ⟨x39, l40, rfl, h40⟩ := len_succ l39 25 h39
  clear h39
  obtain ⟨x40, l41, rfl, h41⟩ := len_succ l40 24 h40
  clear h40
  obtain ⟨x41, l42, rfl, h42⟩ := len_succ l41 23 h41
  clear h41
  obtain ⟨x42, l43, rfl, h43⟩ := len_succ l42 22 h42
  clear h42
  obtain ⟨x43, l44, rfl, h44⟩ := len_succ l43 21 h43
  clear h43
  obtain ⟨x44, l45, rfl, h45⟩ := len_succ l44 20 h44
  clear h44
  obtain ⟨x45, l46, rfl, h46⟩ := len_succ l45 19 h45
  clear h45
  obtain ⟨x46, l47, rfl, h47⟩ := len_succ l46 18 h46
  clear h46
  obtain ⟨x47, l48, rfl, h48⟩ := len_succ l47 17 h47
  clear h47
  obtain ⟨x48, l49, rfl, h49⟩ := len_succ l48 16 h48
  clear h48
  obtain ⟨x49, l50, rfl, h50⟩ := len_succ l49 15 h49
  clear h49
  obtain ⟨x50, l51, rfl, h51⟩ := len_succ l50 14 h50
  clear h50
  obtain ⟨x51, l52, rfl, h52⟩ := len_succ l51 13 h51
  clear h51
  obtain ⟨x52, l53, rfl, h53⟩ := len_succ l52 12 h52
  clear h52
  obtain ⟨x53, l54, rfl, h54⟩ := len_succ l53 11 h53
  clear h53
  obtain ⟨x54, l55, rfl, h55⟩ := len_succ l54 10 h54
  clear h54
  obtain ⟨x55, l56, rfl, h56⟩ := len_succ l55 9 h55
  clear h55
  obtain ⟨x56, l57, rfl, h57⟩ := len_succ l56 8 h56
  clear h56
  obtain ⟨x57, l58, rfl, h58⟩ := len_succ l57 7 h57
  clear h57
  obtain ⟨x58, l59, rfl, h59⟩ := len_succ l58 6 h58
  clear h58
  obtain ⟨x59, l60, rfl, h60⟩ := len_succ l59 5 h59
  clear h59
  obtain ⟨x60, l61, rfl, h61⟩ := len_succ l60 4 h60
  clear h60
  obtain ⟨x61, l62, rfl, h62⟩ := len_succ l61 3 h61
  clear h61
  obtain ⟨x62, l63, rfl, h63⟩ := len_succ l62 2 h62
  clear h62
  obtain ⟨x63, l64, rfl, h64⟩ := len_succ l63 1 h63
  clear h63
  obtain ⟨x64, l65, rfl, h65⟩ := len_succ l64 0 h64
  clear h64
  obtain rfl := List.eq_nil_of_length_eq_zero h65
  exact ⟨x0, x1, x2, x3, x4, x5, x6, x7, x8, x9, x10, x11, x12, x13, x14, x15, x16, x17, x18, x19, x20, x21, x22, x23, x24, x25, x26, x27, x28, x29, x30, x31, x32, x33, x34, x35, x36, x37, x38, x39, x40, x41, x42, x43, x44, x45, x46, x47, x48, x49, x50, x51, x52, x53, x54, x55, x56, x57, x58, x59, x60, x61, x62, x63, x64, rfl⟩

/-- What writing to block X keeps. -/
structure FrX (X : Nat) (w w' : World) : Prop where
  bel : Below X w w'
  oth : ∀ k, k < w.heap.size → k ≠ X → w'.heap[k]? = w.heap[k]?
theorem FrX.refl (X : Nat) (w : World) : FrX X w w := ⟨Below.refl _ _, fun _ _ _ => rfl⟩
theorem FrX.of_below {X : Nat} {w w' : World} (hX : X < w.heap.size) (h : Below w.heap.size w w') : FrX X w w' := ⟨h.mono (by omega), fun k hk _ => h.block k hk⟩
theorem FrX.trans {X : Nat} {w w' w2 : World} (h1 : FrX X w w') (h2 : FrX X w' w2) : FrX X w w2 :=
  ⟨h1.bel.trans h2.bel, fun k hk hx => (h2.oth k (Nat.lt_of_lt_of_le hk h1.bel.size) hx).trans (h1.oth k hk hx)⟩
theorem FrX.cell {X : Nat} {w w' : World} (h : FrX X w w') {g i : Nat} {v : Value} (hc : w.cell? ⟨g, i, none⟩ = some v) (hg : g ≠ X) : w'.cell? ⟨g, i, none⟩ = some v := by
  have := h.oth g (cell_there hc).1 hg
  simp only [World.cell?, this] at hc ⊢
  exact hc
theorem FrX.fresh {X : Nat} {w : World} {o : Obj} (h : X < w.heap.size) : (w.alloc o).heap[X]? = w.heap[X]? := Below.heap_alloc _ _ _ h
theorem FrX.const {X : Nat} {w w' : World} (h : FrX X w w') {gc v : Nat} (hc : ConstAt w gc v) (hg : gc ≠ X) : ConstAt w' gc v := by
  obtain ⟨h0, h1, h2, h3, h4, h5⟩ := hc
  exact ⟨h.cell h0 hg, h.cell h1 hg, h.cell h2 hg, h.cell h3 hg, h.cell h4 hg, h.cell h5 hg⟩

/-- The code of a forward, and of a drop behind it. -/
def InsAt (w : World) (gI gc ec n : Nat) : Prop :=
  (w.cell? ⟨gI, 0, none⟩ = some (.int .u8 5) ∧ w.cell? ⟨gI, 1, none⟩ = some (.int .i64 0) ∧ w.cell? ⟨gI, 2, none⟩ = some (.int .i64 0) ∧ w.cell? ⟨gI, 3, none⟩ = some (.slice (some ⟨gc, 0, none⟩) 1 ec) ∧ w.cell? ⟨gI, 4, none⟩ = some (.int .i64 0)) ∧
  (n = 2 → w.cell? ⟨gI, 5, none⟩ = some (.int .u8 4) ∧ w.cell? ⟨gI, 6, none⟩ = some (.int .i64 0) ∧ w.cell? ⟨gI, 7, none⟩ = some (.int .i64 0) ∧ w.cell? ⟨gI, 8, none⟩ = some (.slice none 0 0) ∧ w.cell? ⟨gI, 9, none⟩ = some (.int .i64 0))
theorem InsAt.frx {w w' : World} {gI gc ec n X : Nat} (h : InsAt w gI gc ec n) (hf : FrX X w w') (hg : gI ≠ X) : InsAt w' gI gc ec n :=
  ⟨⟨hf.cell h.1.1 hg, hf.cell h.1.2.1 hg, hf.cell h.1.2.2.1 hg, hf.cell h.1.2.2.2.1 hg, hf.cell h.1.2.2.2.2 hg⟩, fun e => ⟨hf.cell (h.2 e).1 hg, hf.cell (h.2 e).2.1 hg, hf.cell (h.2 e).2.2.1 hg, hf.cell (h.2 e).2.2.2.1 hg, hf.cell (h.2 e).2.2.2.2 hg⟩⟩
/-- The packet behind k instructions. -/
def pkK (port : Int) (p : Option Addr) (l c g1 g2 v : Nat) (k : Nat) : Array Value := pkC port p l c g1 g2 (decide (1 < k)) (decide (0 < k)) (if k = 0 then 0 else (v : Int))

set_option maxRecDepth 100000 in
set_option maxHeartbeats 6400000 in
theorem run_any (sp : Option Addr) (sn sc : Nat) (cp : Option Addr) (cn cc : Nat) (X gc v ec gI n uc : Nat) (port : Int) (p : Option Addr) (l c g1 g2 : Nat) (w : World) (hv : v < 512) (hn : n = 1 ∨ n = 2) (hc : ConstAt w gc v) (hg : gc ≠ X) (hI : InsAt w gI gc ec n) (hgI : gI ≠ X)
    (hX : w.heap[X]? = some (.cells (pkK port p l c g1 g2 v 0) 60 (0, 0))) :
    Calls Try.prog 13 #[rnV sp sn sc cp cn cc X, .slice (some ⟨gI, 0, none⟩) n uc] w fun e w' => e = .returned (.tuple #[]) ∧ w'.heap[X]? = some (.cells (pkK port p l c g1 g2 v n) 60 (0, 0)) ∧ FrX X w w' := by
  have hXl : X < w.heap.size := (Array.getElem?_eq_some_iff.1 hX).1
  have HFW : Hid (∀ W d s e, ConstAt W gc v → W.heap[X]? = some (.cells (pkC port p l c g1 g2 d s e) 60 (0, 0)) → Calls Try.prog 33 #[rnV sp sn sc cp cn cc X, inV 5 (some ⟨gc, 0, none⟩) 1 ec] W fun e w' => e = .returned (.tuple #[]) ∧ w'.heap[X]? = some (.cells (pkC port p l c g1 g2 false true v) 60 (0, 0)) ∧ FrX X W w') := fun W d s e h1 h2 => (forward_any sp sn sc cp cn cc X gc v ec 5 port p l c g1 g2 d s e W hv h1 hg h2).mono fun _ _ h => ⟨h.1, h.2.1, h.2.2.bel, h.2.2.oth⟩
  have HDR : Hid (∀ W d s e, W.heap[X]? = some (.cells (pkC port p l c g1 g2 d s e) 60 (0, 0)) → Calls Try.prog 32 #[rnV sp sn sc cp cn cc X, inV 4 none 0 0] W fun e' w' => e' = .returned (.tuple #[]) ∧ w'.heap[X]? = some (.cells (pkC port p l c g1 g2 true s e) 60 (0, 0)) ∧ FrX X W w') := fun W d s e h2 => (drop_any sp sn sc cp cn cc X 0 none 0 0 4 port p l c g1 g2 d s e W h2).mono fun _ _ h => ⟨h.1, h.2.1, h.2.2.1, h.2.2.2⟩
  have HL : Hid (∀ V, Below (w.heap.size + 1) (w.alloc (.cells #[.slice none 0 0, .slice none 0 0, .slice sp sn sc, .slice none 0 0, .slice none 0 0, .slice cp cn cc, .slice none 0 0, .slice none 0 0, .slice none 0 0, .slice none 0 0, .slice none 0 0, .slice none 0 0, .slice none 0 0, .pointer (some ⟨X, 0, none⟩), .slice none 0 0, .bool false] 70)) V → (Instr.loadAt 70 (.pointer (some ⟨w.heap.size, 0, none⟩))).run Try.prog V = .ok (rnV sp sn sc cp cn cc X) V) := fun V h => by
    have h1 := (h.block w.heap.size (by omega)).trans (heap_new w (.cells #[.slice none 0 0, .slice none 0 0, .slice sp sn sc, .slice none 0 0, .slice none 0 0, .slice cp cn cc, .slice none 0 0, .slice none 0 0, .slice none 0 0, .slice none 0 0, .slice none 0 0, .slice none 0 0, .slice none 0 0, .pointer (some ⟨X, 0, none⟩), .slice none 0 0, .bool false] 70))
    exact run_loadAt_mid V w.heap.size 0 70 _ _ (World.rangeAt_of_block h1 0 16) Try.underlying70 rfl rfl
  unfold rnV
  go_enter Try.func13, Try.ntmps13
  go_upto_region 1 with fail
  obtain ⟨R, hR⟩ : ∃ R, R = rnV sp sn sc cp cn cc X := ⟨_, rfl⟩
  obtain ⟨W0, hW0⟩ : ∃ W0, W0 = w.alloc (.cells #[.slice none 0 0, .slice none 0 0, .slice sp sn sc, .slice none 0 0, .slice none 0 0, .slice cp cn cc, .slice none 0 0, .slice none 0 0, .slice none 0 0, .slice none 0 0, .slice none 0 0, .slice none 0 0, .slice none 0 0, .pointer (some ⟨X, 0, none⟩), .slice none 0 0, .bool false] 70) := ⟨_, rfl⟩
  have hs0 : W0.heap.size = w.heap.size + 1 := by rw [hW0]; simp
  have HB0 : Hid (Below w.heap.size w W0) := by show Below _ _ _; rw [hW0]; exact (by repeat (first | exact Below.refl _ _ | assumption | refine Below.drew ?_ | refine Below.alloc ?_ (by first | omega | (simp <;> omega)) _ | refine Below.setCell ?_ (by first | omega | (simp <;> omega)) _ | refine Below.trans ?_ (Below.mono (by assumption) (by first | omega | (simp <;> omega)))))
  rw [← hW0] at HL ⊢
  clear hW0
  rw [← hR] at HL HFW HDR
  clear hR
  refine does_region _ w.heap.size (.slice (some ⟨gI, 0, none⟩) n uc) R W0 _ rfl rfl rfl rfl (fun V h => HL.out V (hs0 ▸ h)) ?_
  intro a' w1 hz hd h1 h2 h4 hU hB1
  obtain ⟨x0, x1, x2, x3, x4, x5, x6, x7, x8, x9, x10, x11, x12, x13, x14, x15, x16, x17, x18, x19, x20, x21, x22, x23, x24, x25, x26, x27, x28, x29, x30, x31, x32, x33, x34, x35, x36, x37, x38, x39, x40, x41, x42, x43, x44, x45, x46, x47, x48, x49, x50, x51, x52, x53, x54, x55, x56, x57, x58, x59, x60, x61, x62, x63, x64, rfl⟩ := fr65 a' hz hd
  have e1 : x1 = .slice (some ⟨gI, 0, none⟩) n uc := h1
  have e2 : x2 = .pointer (some ⟨w.heap.size, 0, none⟩) := h2
  have e4 : x4 = .map (some W0.heap.size) := h4
  subst e1 e2 e4
  clear hz hd h1 h2 h4
  have HF1 : Hid (FrX X w w1) := (FrX.of_below hXl HB0.out).trans (FrX.of_below (by omega) hB1)
  have HU := Lib.hid hU
  have HI1 : Hid (InsAt w1 gI gc ec n) := hI.frx HF1.out hgI
  have HC1 : Hid (ConstAt w1 gc v) := HF1.out.const hc hg
  have HX1 : Hid (w1.heap[X]? = some (.cells (pkK port p l c g1 g2 v 0) 60 (0, 0))) := (hB1.block X (by omega)).trans ((HB0.out.block X hXl).trans hX)
  have hm1 : W0.heap.size < w1.heap.size := hU.lt
  have hmX : W0.heap.size ≠ X := by omega
  have HIn := Lib.hid hI
  clear hU hB1 HB0 hI hc hX HL hs0
  have HN := Lib.hid hn
  have hn2 : 1 ≤ n ∧ n ≤ 2 := by omega
  clear hn
  dsimp only
  go_wp2_with fail
  go_loopw [5] (fun i wr => ∃ k : Nat, k ≤ n ∧ i = .int .i64 k ∧ Hid (FrX X w1 wr) ∧ Hid (wr.heap[X]? = some (.cells (pkK port p l c g1 g2 v k) 60 (0, 0)))) (fun i _ => n - (intOf i).toNat)
  case atStart => exact ⟨0, Nat.zero_le _, rfl, FrX.refl _ _, HX1.out⟩
  case round =>
    obtain ⟨k, hk, rfl, HFR, HXR⟩ := hrel
    have hXr : X < wr.heap.size := (Array.getElem?_eq_some_iff.1 HXR.out).1
    by_cases hlt : k < n
    · obtain rfl | ⟨rfl, rfl⟩ : k = 0 ∨ k = 1 ∧ n = 2 := by omega
      · have hU := HU.out.kept (w' := wr) (HFR.out.oth _ hm1 hmX)
        obtain ⟨⟨i0, i1, i2, i3, i4⟩, -⟩ := HI1.out.frx HFR.out hgI
        have hfr0 : FrX X wr (wr.alloc (.cells #[.int .u8 5, .int .i64 0, .int .i64 0, .slice (some ⟨gc, 0, none⟩) 1 ec, .int .i64 0] 39)) := FrX.of_below hXr ((Below.refl _ _).alloc (Nat.le_refl _) _)
        have hlk := (hU.below ((Below.refl _ _).alloc (Nat.le_refl _) (.cells #[.int .u8 5, .int .i64 0, .int .i64 0, .slice (some ⟨gc, 0, none⟩) 1 ec, .int .i64 0] 39))).look (P := Try.prog) (k := 5) (T := 93) (e := 92) Try.underlying5 Try.underlying93 (x := 5) (v := mfV 33 R) (by simp [doesM])
        have hcall := HFW.out _ _ _ _ (hfr0.const (HFR.out.const HC1.out hg) hg) ((FrX.fresh hXr).trans HXR.out)
        unfold mfV at hlk
        go_wp2_with (go_at_call 33; refine hcall.mono ?_; rintro e w2 ⟨rfl, hx2, hf2⟩; have HX2 := Lib.hid hx2; have HF2 := Lib.hid hf2; have hb2 := (hf2.oth wr.heap.size (by simp) (by omega)).trans (heap_new wr _); have j0 : w2.cell? ⟨wr.heap.size, 0, none⟩ = some (.int .u8 5) := (by simp [World.cell?, hb2]); have j4 : w2.cell? ⟨wr.heap.size, 4, none⟩ = some (.int .i64 0) := (by simp [World.cell?, hb2]); clear hx2 hf2 hb2 hlk hcall)
        exact ⟨⟨1, hlt, by go_num, (HFR.out.trans hfr0).trans HF2.out, HX2.out⟩, by simp [intOf]; omega⟩
      · have hU := HU.out.kept (w' := wr) (HFR.out.oth _ hm1 hmX)
        obtain ⟨-, hi⟩ := HI1.out.frx HFR.out hgI
        obtain ⟨i0, i1, i2, i3, i4⟩ := hi rfl
        clear hi
        have hfr0 : FrX X wr (wr.alloc (.cells #[.int .u8 4, .int .i64 0, .int .i64 0, .slice none 0 0, .int .i64 0] 39)) := FrX.of_below hXr ((Below.refl _ _).alloc (Nat.le_refl _) _)
        have hlk := (hU.below ((Below.refl _ _).alloc (Nat.le_refl _) (.cells #[.int .u8 4, .int .i64 0, .int .i64 0, .slice none 0 0, .int .i64 0] 39))).look (P := Try.prog) (k := 5) (T := 93) (e := 92) Try.underlying5 Try.underlying93 (x := 4) (v := mfV 32 R) (by simp [doesM])
        have hcall := HDR.out (wr.alloc (.cells #[.int .u8 4, .int .i64 0, .int .i64 0, .slice none 0 0, .int .i64 0] 39)) false true (v : Int) ((FrX.fresh hXr).trans HXR.out)
        unfold mfV at hlk
        go_wp2_with (go_at_call 32; refine hcall.mono ?_; rintro e w2 ⟨rfl, hx2, hf2⟩; have HX2 := Lib.hid hx2; have HF2 := Lib.hid hf2; have hb2 := (hf2.oth wr.heap.size (by simp) (by omega)).trans (heap_new wr _); have j0 : w2.cell? ⟨wr.heap.size, 0, none⟩ = some (.int .u8 4) := (by simp [World.cell?, hb2]); have j4 : w2.cell? ⟨wr.heap.size, 4, none⟩ = some (.int .i64 0) := (by simp [World.cell?, hb2]); clear hx2 hf2 hb2 hlk hcall)
        exact ⟨⟨2, by omega, by go_num, (HFR.out.trans hfr0).trans HF2.out, HX2.out⟩, by simp [intOf]⟩
    · obtain rfl : k = n := by omega
      go_wp2_with fail
      go_end0
      exact ⟨rfl, HXR.out, HF1.out.trans HFR.out⟩

end Go.Proofs.Ytpgpjaackaedhaa

/-
  action.Run of forward and drop.
-/
namespace Go.Proofs.Ytpgpjaackaedhaa
open Go.RowKit Go.Maps

theorem InsAt.below {w w' : World} {gI gc ec n : Nat} (h : InsAt w gI gc ec n) (hb : Below w.heap.size w w') : InsAt w' gI gc ec n := by
  have hg := (cell_there h.1.1).1
  have cc : ∀ i v, w.cell? ⟨gI, i, none⟩ = some v → w'.cell? ⟨gI, i, none⟩ = some v := fun i v e => (hb.cell (p := ⟨gI, i, none⟩) hg).trans e
  exact ⟨⟨cc _ _ h.1.1, cc _ _ h.1.2.1, cc _ _ h.1.2.2.1, cc _ _ h.1.2.2.2.1, cc _ _ h.1.2.2.2.2⟩, fun e => ⟨cc _ _ (h.2 e).1, cc _ _ (h.2 e).2.1, cc _ _ (h.2 e).2.2.1, cc _ _ (h.2 e).2.2.2.1, cc _ _ (h.2 e).2.2.2.2⟩⟩

set_option maxRecDepth 100000 in
set_option maxHeartbeats 1600000 in
theorem arun_any (sp : Option Addr) (sn sc : Nat) (cp : Option Addr) (cn cc : Nat) (X gc v ec gI n uc : Nat) (port : Int) (p : Option Addr) (l c g1 g2 : Nat) (w : World) (hv : v < 512) (hn : n = 1 ∨ n = 2) (hc : ConstAt w gc v) (hg : gc ≠ X) (hI : InsAt w gI gc ec n) (hgI : gI ≠ X)
    (hX : w.heap[X]? = some (.cells (pkK port p l c g1 g2 v 0) 60 (0, 0))) :
    Calls Try.prog 8 #[dpV sp sn sc cp cn cc, .slice none 0 0, .pointer (some ⟨X, 0, none⟩), .slice (some ⟨gI, 0, none⟩) n uc, .slice none 0 0] w fun e w' => e = .returned (.tuple #[]) ∧ w'.heap[X]? = some (.cells (pkK port p l c g1 g2 v n) 60 (0, 0)) ∧ FrX X w w' := by
  have hXl : X < w.heap.size := (Array.getElem?_eq_some_iff.1 hX).1
  have HR : Hid (∀ W, Below w.heap.size w W → Calls Try.prog 13 #[rnV sp sn sc cp cn cc X, .slice (some ⟨gI, 0, none⟩) n uc] W fun e w' => e = .returned (.tuple #[]) ∧ w'.heap[X]? = some (.cells (pkK port p l c g1 g2 v n) 60 (0, 0)) ∧ FrX X W w') := fun W h => run_any sp sn sc cp cn cc X gc v ec gI n uc port p l c g1 g2 W hv hn (hc.below h) hg (hI.below h) hgI ((h.block X hXl).trans hX)
  clear hn hc hI hX
  unfold dpV
  unfold rnV at HR
  go_enter Try.func8, Try.ntmps8
  have HB : Hid (Below w.heap.size w (w.alloc (.cells #[.slice none 0 0, .slice none 0 0, .slice sp sn sc, .slice none 0 0, .slice none 0 0, .slice cp cn cc, .slice none 0 0, .slice none 0 0, .slice none 0 0, .slice none 0 0, .slice none 0 0, .slice none 0 0] 49))) := (Below.refl _ _).alloc (Nat.le_refl _) _
  go_wp2_with (go_at_call 13; refine (HR.out _ HB.out).mono ?_; rintro e w1 ⟨rfl, h1, h2⟩; have H1 := Lib.hid h1; have H2 := Lib.hid h2; clear h1 h2)
  go_end0
  exact ⟨rfl, H1.out, (FrX.of_below hXl HB.out).trans H2.out⟩

end Go.Proofs.Ytpgpjaackaedhaa

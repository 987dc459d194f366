/-
  Lemmas, joined: Value, RefCut, RefAdd.
-/
import Derived.Test.YtnknpgfconfgjaaJA10
import Derived.Test.YtnknpgfconfgjaaJA05
import Derived.Outline
import Derived.BigQuiet
import Derived.Deep.QuietTactic
/-
  Code without fields, valued.
-/
namespace Go.Proofs.Ytnknpgfconfgjaa
open Go.RowKit Go.Maps

/-- A node: its kind, width, two numbers, its constant. -/
structure Nd where
  op : Int
  k : Int
  a : Int
  b : Int
  v : Nat
def Nd.val (d : Nd) : Value := nodeV d.op d.k d.a d.b ((d.v / B : Nat) : Int) ((d.v % B : Nat) : Int)
def Nd.cells (d : Nd) : List Value := [.int .u8 d.op, .int .i64 d.k, .int .i64 d.a, .int .i64 d.b, .int .u64 ((d.v / B : Nat) : Int), .int .u64 ((d.v % B : Nat) : Int)]

/-- What a node does to a stack. -/
inductive Step : Nd → List (Nat × Int) → List (Nat × Int) → Prop
  | const (k a b : Int) (v : Nat) (st) : v < B * B → Step ⟨1, k, a, b, v⟩ st (st ++ [(v % 2 ^ sh k, k)])
  | bnot (k a b : Int) (v : Nat) (st) (n : Nat) (j : Int) : n < B * B → Step ⟨7, k, a, b, v⟩ (st ++ [(n, j)]) (st ++ [(((n % 2 ^ sh k) ^^^ (2 ^ sh k - 1)) % 2 ^ sh k, k)])
  | neg (k a b : Int) (v : Nat) (st) (n : Nat) (j : Int) : n < B * B → Step ⟨8, k, a, b, v⟩ (st ++ [(n, j)]) (st ++ [((0 + (B * B - n)) % (B * B) % 2 ^ sh k % 2 ^ sh k, k)])
  | slice (k a b : Int) (v : Nat) (st) (n : Nat) (j : Int) : n < B * B → 0 ≤ b → b ≤ a → a < 128 → Step ⟨9, k, a, b, v⟩ (st ++ [(n, j)]) (st ++ [(n / 2 ^ sh b % 2 ^ sh (a - b + 1) % 2 ^ sh k, k)])
  | cat (k a b : Int) (v : Nat) (st) (n m : Nat) (i j : Int) : n < B * B → m < B * B → Step ⟨10, k, a, b, v⟩ (st ++ [(n, i)] ++ [(m, j)]) (st ++ [(((n * 2 ^ sh j % (B * B) % 2 ^ sh 128) ||| (m % 2 ^ sh j)) % 2 ^ sh k, k)])
  | add (k a b : Int) (v : Nat) (st) (n m : Nat) (i j : Int) : n < B * B → m < B * B → Step ⟨11, k, a, b, v⟩ (st ++ [(n, i)] ++ [(m, j)]) (st ++ [((n + m) % (B * B) % 2 ^ sh k % 2 ^ sh k, k)])
  | sub (k a b : Int) (v : Nat) (st) (n m : Nat) (i j : Int) : n < B * B → m < B * B → Step ⟨12, k, a, b, v⟩ (st ++ [(n, i)] ++ [(m, j)]) (st ++ [((n + (B * B - m)) % (B * B) % 2 ^ sh k % 2 ^ sh k, k)])
  | lt (k a b : Int) (v : Nat) (st) (n m : Nat) (i j : Int) : n < B * B → m < B * B → Step ⟨19, k, a, b, v⟩ (st ++ [(n, i)] ++ [(m, j)]) (st ++ [(oneN (decide (n < m)) % 2 ^ sh k, k)])
  | le (k a b : Int) (v : Nat) (st) (n m : Nat) (i j : Int) : n < B * B → m < B * B → Step ⟨20, k, a, b, v⟩ (st ++ [(n, i)] ++ [(m, j)]) (st ++ [(oneN (decide (n ≤ m)) % 2 ^ sh k, k)])

theorem node_step {d : Nd} {s s' : List (Nat × Int)} (h : Step d s s') (n0 m : Nat) (x : Value) (w : World) (hS : Stk w n0 m x s) (hl : s.length ≤ 50) :
    Calls Try.prog 26 #[.pointer (some ⟨m, 0, none⟩), d.val] w fun e w' => e = .returned (.tuple #[]) ∧ Stk w' n0 m x s' ∧ Below n0 w w' := by
  cases h with
  | const k a b v st hv => exact node_const n0 m x _ v k a b w hS hv (by omega)
  | bnot k a b v st n j hn => exact node_not n0 m x st n j k a b _ _ w hS (by simp at hl; omega) hn
  | neg k a b v st n j hn => exact node_neg n0 m x st n j k a b _ _ w hS (by simp at hl; omega) hn
  | slice k a b v st n j hn h0 h1 h2 => exact node_slice n0 m x st n j k a b _ _ w hS (by simp at hl; omega) hn h0 h1 h2
  | cat k a b v st n m i j hn hm => exact node_cat n0 _ x st n m i j k a b _ _ w hS (by simp at hl; omega) hn hm
  | add k a b v st n m i j hn hm => exact node_add n0 _ x st n m i j k a b _ _ w hS (by simp at hl; omega) hn hm
  | sub k a b v st n m i j hn hm => exact node_sub n0 _ x st n m i j k a b _ _ w hS (by simp at hl; omega) hn hm
  | lt k a b v st n m i j hn hm => exact node_lt n0 _ x st n m i j k a b _ _ w hS (by simp at hl; omega) hn hm
  | le k a b v st n m i j hn hm => exact node_le n0 _ x st n m i j k a b _ _ w hS (by simp at hl; omega) hn hm

theorem field_n (a b c : Int) (w : World) : (Instr.field 80 (.agg #[.int .u64 a, .int .u64 b, .int .i64 c]) 0).run Try.prog w = .ok (.agg #[.int .u64 a, .int .u64 b]) w := by kernel_rfl

/-- A program without anything. -/
def prog0 : Value := .agg #[.slice none 0 0, .slice none 0 0, .slice none 0 0, .slice none 0 0, .slice none 0 0, .slice none 0 0, .slice none 0 0, .slice none 0 0, .slice none 0 0, .slice none 0 0, .slice none 0 0, .slice none 0 0]

set_option maxRecDepth 100000 in
set_option maxHeartbeats 4000000 in
theorem value_any (nd : Nat → Nd) (sts : Nat → List (Nat × Int)) (N cap gx gc : Nat) (r : Nat) (kr : Int) (w : World) (hN : N ≤ 50) (hstep : ∀ i, i < N → Step (nd i) (sts i) (sts (i + 1))) (hlen : ∀ i, i ≤ N → (sts i).length ≤ 50) (h0 : sts 0 = []) (hr : sts N = [(r, kr)])
    (hc : ∀ i, i < N → ∀ j v, (nd i).cells[j]? = some v → w.cell? ⟨gc, i * 6 + j, none⟩ = some v) :
    Calls Try.prog 9 #[prog0, .pointer (some ⟨gx, 0, none⟩), .slice (some ⟨gc, 0, none⟩) N cap, .slice none 0 0] w (RetNum w r) := by
  unfold prog0
  have HC := Lib.hid hc
  have HST := Lib.hid hstep
  have HLE := Lib.hid hlen
  have HRR := Lib.hid hr
  have HGC : Hid (0 < N → gc < w.heap.size) := fun h => (cell_there (hc 0 h 0 (.int .u8 (nd 0).op) rfl)).1
  have HH0 := Lib.hid h0
  clear hc hstep hlen hr h0
  obtain ⟨y3, z3, he3, ey3, ez3⟩ := numV_parts r
  have HE3 := Lib.hid he3
  have HYZ : Hid (((r / B : Nat) : Int) = (y3 : Int) ∧ ((r % B : Nat) : Int) = (z3 : Int)) := ⟨by rw [ey3], by rw [ez3]⟩
  clear he3 ey3 ez3
  go_enter Try.func9, Try.ntmps9
  go_wp2_with fail
  obtain ⟨W0, hW0⟩ : ∃ W0, W0 = ((w.alloc (.cells #[.slice none 0 0, .slice none 0 0, .slice none 0 0, .slice none 0 0, .slice none 0 0, .slice none 0 0, .slice none 0 0, .slice none 0 0, .slice none 0 0, .slice none 0 0, .slice none 0 0, .slice none 0 0] 49)).alloc (.cells #[.int .u64 0, .int .u64 0] 24)).alloc (.cells #[.pointer (some ⟨gx, 0, none⟩), .slice none 0 0, .slice none 0 0] 77) := ⟨_, rfl⟩
  have HB0 : Hid (Below w.heap.size w W0) := by show Below _ _ _; rw [hW0]; exact (by repeat (first | exact Below.refl _ _ | assumption | refine Below.drew ?_ | refine Below.alloc ?_ (by first | omega | (simp <;> omega)) _ | refine Below.setCell ?_ (by first | omega | (simp <;> omega)) _ | refine Below.trans ?_ (Below.mono (by assumption) (by first | omega | (simp <;> omega)))))
  have hsz0 : W0.heap.size = w.heap.size + 1 + 1 + 1 := by rw [hW0]; simp
  have HM0 : Hid (W0.heap[w.heap.size + 1 + 1]? = some (.cells #[.pointer (some ⟨gx, 0, none⟩), .slice none 0 0, .slice none 0 0] 77 (0, 0))) := by
    show _ = _
    rw [hW0]
    have := heap_new ((w.alloc (.cells #[.slice none 0 0, .slice none 0 0, .slice none 0 0, .slice none 0 0, .slice none 0 0, .slice none 0 0, .slice none 0 0, .slice none 0 0, .slice none 0 0, .slice none 0 0, .slice none 0 0, .slice none 0 0] 49)).alloc (.cells #[.int .u64 0, .int .u64 0] 24)) (.cells #[.pointer (some ⟨gx, 0, none⟩), .slice none 0 0, .slice none 0 0] 77)
    simp only [World.size_alloc] at this
    exact this
  have HR0 : Hid (W0.heap[w.heap.size + 1]? = some (.cells #[.int .u64 0, .int .u64 0] 24 (0, 0))) := by
    show _ = _
    rw [hW0, Below.heap_alloc _ _ _ (by simp)]
    have := heap_new (w.alloc (.cells #[.slice none 0 0, .slice none 0 0, .slice none 0 0, .slice none 0 0, .slice none 0 0, .slice none 0 0, .slice none 0 0, .slice none 0 0, .slice none 0 0, .slice none 0 0, .slice none 0 0, .slice none 0 0] 49)) (.cells #[.int .u64 0, .int .u64 0] 24)
    simp only [World.size_alloc] at this
    exact this
  rw [← hW0]
  clear hW0
  go_loopw [21] (fun i wr => ∃ k : Nat, k ≤ N ∧ i = .int .i64 k ∧ Stk wr (w.heap.size + 1 + 1) (w.heap.size + 1 + 1) (.pointer (some ⟨gx, 0, none⟩)) (sts k) ∧ Below (w.heap.size + 1 + 1) W0 wr) (fun i _ => N - (intOf i).toNat)
  case atStart =>
    refine ⟨0, Nat.zero_le _, rfl, ?_, Below.refl _ _⟩
    rw [HH0.out]
    exact ⟨.slice none 0 0, HM0.out, ⟨rfl, .inl ⟨rfl, rfl⟩⟩, by simp [Value.ownBlock], Nat.le_refl _, by simp⟩
  case round =>
    obtain ⟨k, hk, rfl, hS, hB⟩ := hrel
    have HS := Lib.hid hS
    have HB := Lib.hid hB
    have hszr := hB.size
    rw [hsz0] at hszr
    clear hS hB
    by_cases hlt : k < N
    · obtain ⟨op, kk, a, b, v, hnd⟩ : ∃ op kk a b v, nd k = ⟨op, kk, a, b, v⟩ := ⟨_, _, _, _, _, rfl⟩
      have hgc := HGC.out (by omega)
      have HCK : Hid (∀ j u, (nd k).cells[j]? = some u → wr.cell? ⟨gc, k * 6 + j, none⟩ = some u) := fun j u h => (HB.out.cell (p := ⟨gc, k * 6 + j, none⟩) (by show gc < _; omega)).trans ((HB0.out.cell (p := ⟨gc, k * 6 + j, none⟩) hgc).trans (HC.out k hlt j u h))
      have HND : Hid (∀ W, Stk W (w.heap.size + 1 + 1) (w.heap.size + 1 + 1) (.pointer (some ⟨gx, 0, none⟩)) (sts k) → Calls Try.prog 26 #[.pointer (some ⟨w.heap.size + 1 + 1, 0, none⟩), (nd k).val] W fun e w' => e = .returned (.tuple #[]) ∧ Stk w' (w.heap.size + 1 + 1) (w.heap.size + 1 + 1) (.pointer (some ⟨gx, 0, none⟩)) (sts (k + 1)) ∧ Below (w.heap.size + 1 + 1) W w') := fun W h => node_step (HST.out k hlt) _ _ _ W h (HLE.out k (by omega))
      rw [hnd] at HCK HND
      have a0 : wr.cell? ⟨gc, k * 6, none⟩ = some (.int .u8 op) := HCK.out 0 _ rfl
      have a1 : wr.cell? ⟨gc, k * 6 + 1, none⟩ = some (.int .i64 kk) := HCK.out 1 _ rfl
      have a2 : wr.cell? ⟨gc, k * 6 + 2, none⟩ = some (.int .i64 a) := HCK.out 2 _ rfl
      have a3 : wr.cell? ⟨gc, k * 6 + 3, none⟩ = some (.int .i64 b) := HCK.out 3 _ rfl
      have a4 : wr.cell? ⟨gc, k * 6 + 4, none⟩ = some (.int .u64 ((v / B : Nat) : Int)) := HCK.out 4 _ rfl
      have a5 : wr.cell? ⟨gc, k * 6 + 5, none⟩ = some (.int .u64 ((v % B : Nat) : Int)) := HCK.out 5 _ rfl
      unfold Nd.val nodeV at HND
      dsimp only at HND
      generalize ((v / B : Nat) : Int) = v1 at *
      generalize ((v % B : Nat) : Int) = v2 at *
      clear HCK hnd
      go_wp2_with (go_at_call 26; refine (HND.out _ (HS.out.below ((Below.refl _ _).alloc (Nat.le_refl _) _))).mono ?_; rintro e w1 ⟨rfl, hs1, hb1⟩; have HS1 := Lib.hid hs1; have HB1 := Lib.hid hb1; clear hs1 hb1)
      go_roundw
      case rel => exact ⟨k + 1, by omega, by go_num, HS1.out, (HB.out.alloc (by omega) _).trans HB1.out⟩
      case measure => simp [intOf]; omega
    · have hkN : k = N := by omega
      subst hkN
      have HP : Hid (Calls Try.prog 27 #[.pointer (some ⟨w.heap.size + 1 + 1, 0, none⟩)] wr fun e w' => e = .returned (.agg #[.int .u64 (y3 : Int), .int .u64 (z3 : Int), .int .i64 kr]) ∧ Below (w.heap.size + 1 + 1) wr w') := by
        have h := HS.out
        rw [HRR.out] at h
        have hp := pop_any (w.heap.size + 1 + 1) (w.heap.size + 1 + 1) (.pointer (some ⟨gx, 0, none⟩)) [] r kr wr h
        rw [HYZ.out.1, HYZ.out.2] at hp
        exact hp.mono fun e w' h => ⟨h.1, h.2.2.1⟩
      have hfn := field_n
      go_wp2_with (go_at_call 27; refine HP.out.mono ?_; rintro e w1 ⟨rfl, hb1⟩; have HB1 := Lib.hid hb1; have hr1 : w1.heap[w.heap.size + 1]? = some (.cells #[.int .u64 0, .int .u64 0] 24 (0, 0)) := (hb1.block _ (by omega)).trans ((HB.out.block _ (by omega)).trans HR0.out); have b0 : w1.cell? ⟨w.heap.size + 1, 0, none⟩ = some (.int .u64 0) := (by simp [World.cell?, hr1]); have b1 : w1.cell? ⟨w.heap.size + 1, 1, none⟩ = some (.int .u64 0) := (by simp [World.cell?, hr1]); have b2 : w1.frozen? ⟨w.heap.size + 1, 0, none⟩ = false := (by simp [World.frozen?, hr1]); have b3 : w1.frozen? ⟨w.heap.size + 1, 1, none⟩ = false := (by simp [World.frozen?, hr1]); clear hb1 hr1)
      exact bodyPost_ret (v := .agg #[.int .u64 (y3 : Int), .int .u64 (z3 : Int)]) (by simp [results, Try.results9, go_sem, b0, b1, b2, b3]) rfl ⟨by rw [HE3.out], ((HB0.out.trans ((HB.out.mono (by omega)))).trans (HB1.out.mono (by omega))).setCell (by show w.heap.size ≤ w.heap.size + 1; omega) _ |>.setCell (by show w.heap.size ≤ w.heap.size + 1; omega) _⟩

end Go.Proofs.Ytnknpgfconfgjaa

/-
  Contracts of quillonref01.Cut and Not.
-/
namespace Go.Proofs.Ytnknpgfconfgjaa
open Go.RowKit

/-- What holds at a round's head of a loop that turns a row, bit by bit. -/
def InAt (g f : Nat → Bool) (w : World) (gx N k : Nat) (wr : World) : Prop :=
  wr.heap[gx]? = some (.cells (rowA fun i => if i < k then g i else f i) 70 (0, 0)) ∧
  (∃ c0 c1, wr.heap[N]? = some (.cells #[c0, c1] 24 (0, 0))) ∧ Below w.heap.size w wr

theorem InAt.cells {g f : Nat → Bool} {w wr : World} {gx N k : Nat} (h : InAt g f w gx N k wr) (hk : k < 128) :
    wr.cell? ⟨gx, k, none⟩ = some (.bool (f k)) ∧ wr.frozen? ⟨gx, k, none⟩ = false := by
  obtain ⟨h1, h2, h3⟩ := h
  refine ⟨?_, ?_⟩
  · rw [cell_of_row wr _ k _ _ _ h1, rowA_at _ k hk]
    simp
  · simp [World.frozen?, h1]

theorem InAt.step {g f : Nat → Bool} {w wr : World} {gx N k : Nat} {c : Bool} (h : InAt g f w gx N k wr) (hn : N ≠ gx) (hx : w.heap.size ≤ gx) (hc : g k = c) :
    Hid (InAt g f w gx N (k + 1) (wr.setCell ⟨gx, k, none⟩ (.bool c))) := by
  obtain ⟨h1, ⟨c0, c1, h2⟩, h3⟩ := h
  refine ⟨?_, ⟨c0, c1, ?_⟩, h3.setCell (by show w.heap.size ≤ gx; omega) _⟩
  · rw [setCell_row _ h1]
    congr 2
    apply rowA_congr
    intro i _
    simp only [put]
    by_cases e : i = k
    · subst e
      rw [if_pos rfl, if_pos (by omega), hc]
    · rw [if_neg e]
      by_cases e2 : i < k
      · rw [if_pos e2, if_pos (by omega)]
      · rw [if_neg e2, if_neg (by omega)]
  · rw [setCell_heap hn]
    exact h2

theorem InAt.done {g f : Nat → Bool} {w wr : World} {gx N : Nat} (h : InAt g f w gx N 128 wr) :
    wr.heap[gx]? = some (.cells (rowA g) 70 (0, 0)) ∧ (∃ c0 c1, wr.heap[N]? = some (.cells #[c0, c1] 24 (0, 0))) ∧ Below w.heap.size w wr := by
  obtain ⟨h1, h2, h3⟩ := h
  refine ⟨?_, h2, h3⟩
  rw [h1]
  congr 2
  exact rowA_congr fun i hi => by rw [if_pos hi]

theorem sh_bit (k : Int) (i : Nat) (hi : i < 128) : decide (i < sh k) = decide ((i : Int) < k) := by
  unfold sh
  simp only [decide_eq_decide]
  omega

set_option maxRecDepth 100000 in
set_option maxHeartbeats 4000000 in
theorem refCut_any (n : Nat) (c : Int) (hn : n < B * B) (w : World) :
    Calls Try.prog 7 #[numV n, .int .i64 c] w (RetNum w (n % 2 ^ sh c)) := by
  obtain ⟨f, hf⟩ : ∃ f, f = n.testBit := ⟨_, rfl⟩
  have HA : Hid (∀ W, Calls Try.prog 24 #[numV n] W fun e w' => e = .returned (.agg (rowA f)) ∧ Below W.heap.size W w') := fun W => by rw [hf]; exact refBits_any n hn W
  have HF := Lib.hid hf
  obtain ⟨h1, l1, e1, -, -⟩ := numV_parts n
  rw [e1] at HA ⊢
  clear e1 hf
  go_enter Try.func7, Try.ntmps7
  go_wp2_with fail
  refine (HA.out _).mono ?_
  rintro e w1 ⟨rfl, hb1⟩
  obtain ⟨W0, hW0⟩ : ∃ W0, W0 = (w.alloc (.cells #[.int .u64 (h1 : Int), .int .u64 (l1 : Int)] 24)).alloc (.cells #[.int .u64 0, .int .u64 0] 24) := ⟨_, rfl⟩
  have hbW : Below w.heap.size w W0 := by rw [hW0]; exact (by repeat (first | exact Below.refl _ _ | assumption | refine Below.drew ?_ | refine Below.alloc ?_ (by first | omega | (simp <;> omega)) _ | refine Below.setCell ?_ (by first | omega | (simp <;> omega)) _ | refine Below.trans ?_ (Below.mono (by assumption) (by first | omega | (simp <;> omega)))))
  have z1 : w.heap.size + 1 < W0.heap.size := by rw [hW0]; simp
  have cr : W0.heap[w.heap.size + 1]? = some (.cells #[.int .u64 0, .int .u64 0] 24 (0, 0)) := by
    rw [hW0]
    have := heap_new (w.alloc (.cells #[.int .u64 (h1 : Int), .int .u64 (l1 : Int)] 24)) (.cells #[.int .u64 0, .int .u64 0] 24)
    simp only [World.size_alloc] at this
    exact this
  rw [← hW0] at hb1
  have hs1 := hb1.size
  have cr1 := (hb1.block _ z1).trans cr
  have HB1 : Hid (Below w.heap.size w w1) := hbW.trans (hb1.mono hbW.size)
  clear hb1 hW0 hbW cr
  have hZ : Try.zeroCells70 = rowA fun _ => false := by kernel_rfl
  have hnew := heap_new w1 (.cells Try.zeroCells70 70)
  have HZS : Hid ((Try.zeroCells70).size = 128) := by show _ = _; rw [hZ]; exact rowA_size _
  have hset := setRow_heap _ _ _ (rowA f) _ _ hnew
  have HNW := Lib.hid hnew
  have HST := Lib.hid hset
  clear hZ hnew hset
  go_wp2_with (refine wpList_store_row rfl 70 (.tmp 5) (.tmp 8) rfl w1.heap.size (rowA f) rfl rfl 70 _ HNW.out (by rw [rowA_size]; exact infoRow) (by rw [rowA_size]; exact HZS.out) (rowA_one _) ?_)
  obtain ⟨g, hg⟩ : ∃ g : Nat → Bool, g = fun i => f i && decide ((i : Int) < c) := ⟨_, rfl⟩
  have HG : Hid (∀ i, g i = (f i && decide ((i : Int) < c))) := fun i => by rw [hg]
  have H0 : Hid (InAt g f w w1.heap.size (w.heap.size + 1) 0 ((w1.alloc (.cells Try.zeroCells70 70)).setRow w1.heap.size (rowA f))) :=
    ⟨by rw [HST.out]; congr 2, ⟨_, _, by rw [setRow_other _ _ _ _ (by omega), Below.heap_alloc _ _ _ (by omega)]; exact cr1⟩, below_setRow (HB1.out.alloc (by omega) _) (by omega) _⟩
  have HE : Hid (ofBits g 128 = n % 2 ^ sh c) := by
    show _ = _
    refine ofBits_eq (by rw [← BB_pow2]; exact Nat.lt_of_le_of_lt (Nat.mod_le _ _) hn) fun i hi => ?_
    rw [HG.out, HF.out, Nat.testBit_mod_two_pow, sh_bit c i hi, Bool.and_comm]
  clear hg HST HNW HZS HB1 cr1 HA
  generalize (w1.alloc (.cells Try.zeroCells70 70)).setRow w1.heap.size (rowA f) = W2 at *
  go_loopw [6] (fun i wr => ∃ k : Nat, k ≤ 128 ∧ i = .int .i64 k ∧ Hid (InAt g f w w1.heap.size (w.heap.size + 1) k wr)) (fun i _ => 128 - (intOf i).toNat)
  case atStart => exact ⟨0, Nat.zero_le _, rfl, H0⟩
  case round =>
    obtain ⟨k, hk, rfl, HK⟩ := hrel
    by_cases hlt : k < 128
    · obtain ⟨r1, r2⟩ := HK.out.cells hlt
      by_cases hc : (k : Int) < c <;> cases hf1 : f k
      all_goals
        rw [hf1] at r1
        have HGK : Hid (g k = (f k && decide ((k : Int) < c))) := HG.out k
        have HF1 := Lib.hid hf1
        have HC := Lib.hid hc
        clear hf1
        go_wp2_with fail
        go_roundw
        case rel => exact ⟨k + 1, by omega, by go_num, HK.out.step (by omega) (by omega) (by rw [HGK.out, HF1.out]; simp [HC.out])⟩
        case measure => simp [intOf]; omega
    · obtain rfl : k = 128 := by omega
      obtain ⟨r1, ⟨x0, x1, r3⟩, r4⟩ := HK.out.done
      have HNUM : Hid (∀ W, Calls Try.prog 25 #[.agg (rowA g)] W (RetNum W (n % 2 ^ sh c))) := fun W => by rw [← HE.out]; exact refNum_any _ W
      have HB4 := Lib.hid r4
      have H3 := Lib.hid r3
      clear r3 r4 HE HK H0 HG
      have hRR : (rowA g).size = 128 := rowA_size _
      generalize rowA g = RR at r1 HNUM hRR
      go_wp2_with (first
        | (refine wpList_load_row rfl 70 (.tmp 5) rfl w1.heap.size rfl 70 RR (0, 0) _ r1 Try.underlying70 rfl (by rw [hRR]; exact infoRow) ?_))
      clear r1
      obtain ⟨h3, l3, e3, -, -⟩ := numV_parts (n % 2 ^ sh c)
      have HE3 := Lib.hid e3
      have HNUM2 : Hid (∀ W, Calls Try.prog 25 #[.agg RR] W fun e w' => e = .returned (.agg #[.int .u64 (h3 : Int), .int .u64 (l3 : Int)]) ∧ Below W.heap.size W w') := fun W => by rw [← HE3.out]; exact HNUM.out W
      clear HNUM e3
      refine (HNUM2.out _).mono ?_
      rintro e w3 ⟨rfl, hb1⟩
      have hr := (hb1.block (w.heap.size + 1) (lt_of_block H3.out)).trans H3.out
      have q0 : w3.cell? ⟨w.heap.size + 1, 0, none⟩ = some x0 := by simp [World.cell?, hr]
      have q1 : w3.cell? ⟨w.heap.size + 1, 1, none⟩ = some x1 := by simp [World.cell?, hr]
      have qz : ∀ j, w3.frozen? ⟨w.heap.size + 1, j, none⟩ = false := fun j => by simp [World.frozen?, hr]
      have HR := Lib.hid hr
      have HB5 : Hid (Below w.heap.size w w3) := HB4.out.trans (hb1.mono HB4.out.size)
      clear hr hb1
      go_wp2_with fail
      have hg := set_lo (.int .u64 (l3 : Int)) (set_hi (.int .u64 (h3 : Int)) HR.out)
      exact bodyPost_ret (v := .agg #[.int .u64 (h3 : Int), .int .u64 (l3 : Int)]) (results_cell_row Try.results7 _ _ (w.heap.size + 1) _ _ _ _ (by simp [go_sem]) hg Try.underlying24 rfl (by kernel_rfl)) rfl ⟨by rw [HE3.out], (HB5.out.setCell (by show w.heap.size ≤ w.heap.size + 1; omega) _).setCell (by show w.heap.size ≤ w.heap.size + 1; omega) _⟩

end Go.Proofs.Ytnknpgfconfgjaa

/-
  Contract of quillonref01.Add: bit by bit.
-/
namespace Go.Proofs.Ytnknpgfconfgjaa
open Go.RowKit

/-- What is carried into a bit. -/
def carryB (fa fb : Nat → Bool) : Nat → Bool
  | 0 => false
  | k + 1 => fa k && fb k || fa k && carryB fa fb k || fb k && carryB fa fb k
def sumB (fa fb : Nat → Bool) (k : Nat) : Bool := (fa k != fb k) != carryB fa fb k
theorem sum_bits (fa fb : Nat → Bool) : ∀ k, ofBits fa k + ofBits fb k = ofBits (sumB fa fb) k + (if carryB fa fb k then 2 ^ k else 0)
  | 0 => by simp [ofBits, carryB]
  | k + 1 => by
    have ih := sum_bits fa fb k
    rw [ofBits, ofBits, ofBits, Nat.pow_succ]
    have e : sumB fa fb k = ((fa k != fb k) != carryB fa fb k) := rfl
    have e2 : carryB fa fb (k + 1) = (fa k && fb k || fa k && carryB fa fb k || fb k && carryB fa fb k) := rfl
    rw [e, e2]
    cases h1 : fa k <;> cases h2 : fb k <;> cases h3 : carryB fa fb k <;> simp [h3] at ih ⊢ <;> omega
theorem sum_num {a b : Nat} (ha : a < 2 ^ 128) (hb : b < 2 ^ 128) : ofBits (sumB a.testBit b.testBit) 128 = (a + b) % 2 ^ 128 := by
  have h := sum_bits a.testBit b.testBit 128
  rw [ofBits_eq ha fun _ _ => rfl, ofBits_eq hb fun _ _ => rfl] at h
  have l := ofBits_lt (sumB a.testBit b.testBit) 128
  rw [h]
  split
  · rw [Nat.add_mod_right, Nat.mod_eq_of_lt l]
  · rw [Nat.add_zero, Nat.mod_eq_of_lt l]

/-- What holds at a round's head of a loop that turns a row by another one, g of each bit. -/
def OpG (g fa fb : Nat → Bool) (w : World) (gx gy k : Nat) (wr : World) : Prop :=
  wr.heap[gx]? = some (.cells (rowA fun i => if i < k then g i else fa i) 70 (0, 0)) ∧ wr.heap[gy]? = some (.cells (rowA fb) 70 (0, 0)) ∧
  (∃ c0 c1, wr.heap[w.heap.size + 1 + 1]? = some (.cells #[c0, c1] 24 (0, 0))) ∧ Below w.heap.size w wr
theorem OpG.cells {g fa fb : Nat → Bool} {w wr : World} {gx gy k : Nat} (h : OpG g fa fb w gx gy k wr) (hk : k < 128) :
    wr.cell? ⟨gx, k, none⟩ = some (.bool (fa k)) ∧ wr.cell? ⟨gy, k, none⟩ = some (.bool (fb k)) ∧ wr.frozen? ⟨gx, k, none⟩ = false := by
  obtain ⟨h1, h2, h3, h4⟩ := h
  refine ⟨?_, ?_, ?_⟩
  · rw [cell_of_row wr _ k _ _ _ h1, rowA_at _ k hk]
    simp
  · rw [cell_of_row wr _ k _ _ _ h2, rowA_at _ k hk]
  · simp [World.frozen?, h1]
theorem OpG.step {g fa fb : Nat → Bool} {w wr w1 : World} {gx gy k : Nat} {c : Bool} (h : OpG g fa fb w gx gy k wr) (hw : w1.heap = wr.heap) (hb : Below w.heap.size w w1) (hn : gx ≠ gy) (hx : w.heap.size + 1 + 1 < gx) (hc : g k = c) :
    Hid (OpG g fa fb w gx gy (k + 1) (w1.setCell ⟨gx, k, none⟩ (.bool c))) := by
  obtain ⟨h1, h2, ⟨c0, c1, h3⟩, h4⟩ := h
  refine ⟨?_, ?_, ⟨c0, c1, ?_⟩, hb.setCell (by show w.heap.size ≤ gx; omega) _⟩
  · rw [setCell_row _ (by rw [hw]; exact h1)]
    congr 2
    apply rowA_congr
    intro i _
    simp only [put]
    by_cases e : i = k
    · subst e
      rw [if_pos rfl, if_pos (by omega), hc]
    · rw [if_neg e]
      by_cases e2 : i < k
      · rw [if_pos e2, if_pos (by omega)]
      · rw [if_neg e2, if_neg (by omega)]
  · rw [setCell_heap (fun e => hn e.symm), hw]
    exact h2
  · rw [setCell_heap (by omega), hw]
    exact h3

set_option maxRecDepth 100000 in
set_option maxHeartbeats 4000000 in
theorem refAdd_any (a b : Nat) (c : Int) (ha : a < B * B) (hb : b < B * B) (w : World) :
    Calls Try.prog 10 #[numV a, numV b, .int .i64 c] w (RetNum w ((a + b) % 2 ^ 128 % 2 ^ sh c)) := by
  obtain ⟨fa, hfa⟩ : ∃ fa, fa = a.testBit := ⟨_, rfl⟩
  obtain ⟨fb, hfb⟩ : ∃ fb, fb = b.testBit := ⟨_, rfl⟩
  have HA : Hid (∀ W, Calls Try.prog 24 #[numV a] W fun e w' => e = .returned (.agg (rowA fa)) ∧ Below W.heap.size W w') := fun W => by rw [hfa]; exact refBits_any a ha W
  have HB : Hid (∀ W, Calls Try.prog 24 #[numV b] W fun e w' => e = .returned (.agg (rowA fb)) ∧ Below W.heap.size W w') := fun W => by rw [hfb]; exact refBits_any b hb W
  have HFA := Lib.hid hfa
  have HFB := Lib.hid hfb
  obtain ⟨h1, l1, e1, -, -⟩ := numV_parts a
  obtain ⟨h2, l2, e2, -, -⟩ := numV_parts b
  rw [e1] at HA ⊢
  rw [e2] at HB ⊢
  clear e1 e2 hfa hfb
  go_enter Try.func10, Try.ntmps10
  go_wp2_with fail
  obtain ⟨W0, hW0⟩ : ∃ W0, W0 = ((w.alloc (.cells #[.int .u64 (h1 : Int), .int .u64 (l1 : Int)] 24)).alloc (.cells #[.int .u64 (h2 : Int), .int .u64 (l2 : Int)] 24)).alloc (.cells #[.int .u64 0, .int .u64 0] 24) := ⟨_, rfl⟩
  have hbW : Below w.heap.size w W0 := by rw [hW0]; exact (by repeat (first | exact Below.refl _ _ | assumption | refine Below.drew ?_ | refine Below.alloc ?_ (by first | omega | (simp <;> omega)) _ | refine Below.setCell ?_ (by first | omega | (simp <;> omega)) _ | refine Below.trans ?_ (Below.mono (by assumption) (by first | omega | (simp <;> omega)))))
  have z0 : w.heap.size < W0.heap.size := by rw [hW0]; simp <;> omega
  have z1 : w.heap.size + 1 < W0.heap.size := by rw [hW0]; simp
  have c0 : W0.cell? ⟨w.heap.size, 0, none⟩ = some (.int .u64 (h1 : Int)) := by rw [hW0]; simp [go_sem]
  have c1 : W0.cell? ⟨w.heap.size, 1, none⟩ = some (.int .u64 (l1 : Int)) := by rw [hW0]; simp [go_sem]
  have c2 : W0.cell? ⟨w.heap.size + 1, 0, none⟩ = some (.int .u64 (h2 : Int)) := by rw [hW0]; simp [go_sem]
  have c3 : W0.cell? ⟨w.heap.size + 1, 1, none⟩ = some (.int .u64 (l2 : Int)) := by rw [hW0]; simp [go_sem]
  have z2 : w.heap.size + 1 + 1 < W0.heap.size := by rw [hW0]; simp
  have cr : W0.heap[w.heap.size + 1 + 1]? = some (.cells #[.int .u64 0, .int .u64 0] 24 (0, 0)) := by
    rw [hW0]
    have := heap_new ((w.alloc (.cells #[.int .u64 (h1 : Int), .int .u64 (l1 : Int)] 24)).alloc (.cells #[.int .u64 (h2 : Int), .int .u64 (l2 : Int)] 24)) (.cells #[.int .u64 0, .int .u64 0] 24)
    simp only [World.size_alloc] at this
    exact this
  rw [← hW0]
  have HBW0 := Lib.hid hbW
  clear hW0 hbW
  refine wp_region_inv (by kernel_rfl) (fun L a' w' => ∃ v5 v6 v8 v9 v10 v11 : Value, a' = ⟨#[.agg #[.int .u64 (h1 : Int), .int .u64 (l1 : Int)], .agg #[.int .u64 (h2 : Int), .int .u64 (l2 : Int)], .int .i64 c, .pointer (some ⟨w.heap.size, 0, none⟩), .pointer (some ⟨w.heap.size + 1, 0, none⟩), undef, .pointer (some ⟨w.heap.size + 1 + 1, 0, none⟩), v5, v6, undef, undef, undef, v8, v9, v10, v11, undef, undef, undef, undef, undef, undef, undef, undef, undef, undef, undef, undef, undef, undef, undef, undef, undef, undef, undef, undef, undef, undef, undef, undef, undef, undef, undef, undef, undef, undef, undef, undef, undef, undef, undef, undef, undef, undef, undef, undef, undef, undef, undef, undef], []⟩ ∧ TwoI (.agg #[.int .u64 (h1 : Int), .int .u64 (l1 : Int)]) (.agg #[.int .u64 (h2 : Int), .int .u64 (l2 : Int)]) fa fb W0 L v5 v6 v8 v9 v10 v11 w') ?_ ?_ ?_ ?_
  · exact ⟨_, _, _, _, _, _, rfl, TwoI.init (by funext i; unfold did; match i with | 0 => rfl | 1 => rfl | 2 => rfl | 3 => rfl | 4 => rfl | 5 => rfl | 6 => rfl | 7 => rfl | i + 8 => rfl) (below_drewN (Below.refl _ _) 1)⟩
  · rintro L a' w' i hL hi hnd hdep ⟨v5, v6, v8, v9, v10, v11, rfl, hI⟩
    have hL8 : L.size = 8 := hL
    have HI := Lib.hid hI
    have d0 : w'.cell? ⟨w.heap.size, 0, none⟩ = some (.int .u64 (h1 : Int)) := (hI.below.cell (p := ⟨w.heap.size, 0, none⟩) z0).trans c0
    have d1 : w'.cell? ⟨w.heap.size, 1, none⟩ = some (.int .u64 (l1 : Int)) := (hI.below.cell (p := ⟨w.heap.size, 1, none⟩) z0).trans c1
    have d2 : w'.cell? ⟨w.heap.size + 1, 0, none⟩ = some (.int .u64 (h2 : Int)) := (hI.below.cell (p := ⟨w.heap.size + 1, 0, none⟩) z1).trans c2
    have d3 : w'.cell? ⟨w.heap.size + 1, 1, none⟩ = some (.int .u64 (l2 : Int)) := (hI.below.cell (p := ⟨w.heap.size + 1, 1, none⟩) z1).trans c3
    have hZ : Try.zeroCells70 = rowA fun _ => false := by kernel_rfl
    have HZ := Lib.hid hZ
    clear hZ hI
    match i, hi with
    | 0, _ =>
      clear hdep hnd
      refine wpOp_step rfl (fun K' hK => ?_)
      go_simp
      exact hK _ _ ⟨_, _, _, _, _, _, rfl, HI.out.s0 hL8⟩
    | 1, _ =>
      have q := HI.out.h0 (hdep _ rfl ⟨0, .data⟩ (by simp) (by kernel_rfl))
      subst q
      clear hdep hnd
      refine wpOp_step rfl (fun K' hK => ?_)
      go_simp
      refine (HA.out _).mono ?_
      rintro e w1 ⟨rfl, hb1⟩
      exact hK _ _ ⟨_, _, _, _, _, _, rfl, (HI.out.below' hb1).s1 hL8⟩
    | 2, _ =>
      clear hdep hnd
      refine wpOp_step rfl (fun K' hK => ?_)
      go_simp
      exact hK _ _ ⟨_, _, _, _, _, _, rfl, HI.out.s2 hL8⟩
    | 3, _ =>
      have q := HI.out.h2 (hdep _ rfl ⟨2, .data⟩ (by simp) (by kernel_rfl))
      subst q
      clear hdep hnd
      refine wpOp_step rfl (fun K' hK => ?_)
      go_simp
      refine (HB.out _).mono ?_
      rintro e w1 ⟨rfl, hb1⟩
      exact hK _ _ ⟨_, _, _, _, _, _, rfl, (HI.out.below' hb1).s3 hL8⟩
    | 4, _ =>
      have hnd' := Lib.hid hnd
      clear hdep hnd
      refine wpOp_step rfl (fun K' hK => ?_)
      go_simp
      rw [HZ.out]
      exact hK _ _ ⟨_, _, _, _, _, _, rfl, HI.out.s4 hL8 hnd'.out⟩
    | 5, _ =>
      have hnd' := Lib.hid hnd
      clear hdep hnd
      refine wpOp_step rfl (fun K' hK => ?_)
      go_simp
      rw [HZ.out]
      exact hK _ _ ⟨_, _, _, _, _, _, rfl, HI.out.s5 hL8 hnd'.out⟩
    | 6, _ =>
      have q4 := hdep _ rfl ⟨4, .data⟩ (by simp) (by kernel_rfl)
      have q := HI.out.h1 (hdep _ rfl ⟨1, .data⟩ (by simp) (by kernel_rfl))
      subst q
      obtain ⟨g, e1, -, e3⟩ := HI.out.h4 q4
      subst e1
      clear hdep hnd
      refine wpOp_step rfl (fun K' hK => ?_)
      refine store_wanted rfl ?_
      exact wp_store_row 70 (.tmp 7) (.tmp 13) rfl g (rowA fa) rfl rfl 70 _ e3 (by rw [rowA_size]; exact infoRow) (by rw [rowA_size, rowA_size]) (rowA_one _) (hK _ _ ⟨_, _, _, _, _, _, rfl, HI.out.s6 hL8 q4 rfl⟩)
    | 7, _ =>
      have q5 := hdep _ rfl ⟨5, .data⟩ (by simp) (by kernel_rfl)
      have q := HI.out.h3 (hdep _ rfl ⟨3, .data⟩ (by simp) (by kernel_rfl))
      subst q
      obtain ⟨g, e1, -, e3⟩ := HI.out.h5 q5
      subst e1
      clear hdep hnd
      refine wpOp_step rfl (fun K' hK => ?_)
      refine store_wanted rfl ?_
      exact wp_store_row 70 (.tmp 8) (.tmp 15) rfl g (rowA fb) rfl rfl 70 _ e3 (by rw [rowA_size]; exact infoRow) (by rw [rowA_size, rowA_size]) (rowA_one _) (hK _ _ ⟨_, _, _, _, _, _, rfl, HI.out.s7 hL8 q5 rfl⟩)
  · intro i o ho e he
    match i, ho with
    | 0, ho => cases ho; simp at he
    | 1, ho => cases ho; simp at he; subst he; show (0 : Nat) < 1; omega
    | 2, ho => cases ho; simp at he
    | 3, ho => cases ho; simp at he; rcases he with rfl | rfl <;> (simp <;> omega)
    | 4, ho => cases ho; simp at he
    | 5, ho => cases ho; simp at he
    | 6, ho => cases ho; simp at he; rcases he with rfl | rfl | rfl | rfl | rfl | rfl | rfl | rfl | rfl <;> (simp <;> omega)
    | 7, ho => cases ho; simp at he; rcases he with rfl | rfl | rfl | rfl | rfl | rfl | rfl | rfl | rfl | rfl <;> (simp <;> omega)
  rintro L a' w' hall ⟨v5, v6, v8, v9, v10, v11, rfl, hI⟩
  obtain ⟨rfl, rfl, rfl, rfl, gx, gy, hgn, rfl, rfl, hgx, hgy, hrx, hry, hbw⟩ := hI.all hall
  have HRX := Lib.hid hrx
  have HRY := Lib.hid hry
  have HBW := Lib.hid hbw
  have HGN := Lib.hid hgn
  clear hI hall hrx hry hbw hgn HA HB c0 c1 c2 c3
  have crx := (HBW.out.block (w.heap.size + 1 + 1) z2).trans cr
  have hgx0 : w.heap.size + 1 + 1 < gx := by omega
  have H0 : Hid (OpG (sumB fa fb) fa fb w gx gy 0 w') := ⟨by rw [HRX.out]; congr 2, HRY.out, ⟨_, _, crx⟩, HBW0.out.trans (HBW.out.mono HBW0.out.size)⟩
  clear crx cr HBW HBW0 z0 z1 z2 HRX HRY
  go_wp2_with fail
  go_loopw [9, 10] (fun cy i wr => ∃ k : Nat, k ≤ 128 ∧ i = .int .i64 k ∧ cy = .bool (carryB fa fb k) ∧ Hid (OpG (sumB fa fb) fa fb w gx gy k wr)) (fun _ i _ => 128 - (intOf i).toNat)
  case atStart => exact ⟨0, Nat.zero_le _, rfl, rfl, H0⟩
  case round =>
    obtain ⟨k, hk, rfl, rfl, HK⟩ := hrel
    by_cases hlt : k < 128
    · obtain ⟨r1, r2, r3⟩ := HK.out.cells hlt
      have HSU : Hid (sumB fa fb k = ((fa k != fb k) != carryB fa fb k)) := rfl
      have HCA : Hid (carryB fa fb (k + 1) = (fa k && fb k || fa k && carryB fa fb k || fb k && carryB fa fb k)) := rfl
      generalize hc0 : carryB fa fb k = cc at HSU HCA ⊢
      clear hc0
      cases hf1 : fa k <;> cases hf2 : fb k <;> cases cc
      all_goals
        rw [hf1] at r1 HSU HCA
        rw [hf2] at r2 HSU HCA
        clear hf1 hf2
        go_wp2_with fail
        go_quiet (fail)
        go_wp2_with fail
        go_roundw
        case rel => exact ⟨k + 1, by omega, by go_num, by rw [HCA.out]; rfl, HK.out.step rfl (below_drewN HK.out.2.2.2 _) HGN.out (by omega) (by rw [HSU.out]; rfl)⟩
        case measure => simp [intOf]; omega
    · obtain rfl : k = 128 := by omega
      obtain ⟨r1, r2, ⟨x0, x1, r3⟩, r4⟩ := HK.out
      have e : (rowA fun i => if i < 128 then sumB fa fb i else fa i) = rowA (sumB fa fb) := rowA_congr fun i hi => by rw [if_pos hi]
      rw [e] at r1
      have HE : Hid (ofBits (sumB fa fb) 128 = (a + b) % 2 ^ 128) := by
        show _ = _
        rw [HFA.out, HFB.out]
        exact sum_num (by rw [← BB_pow2]; exact ha) (by rw [← BB_pow2]; exact hb)
      have HNUM : Hid (∀ W, Calls Try.prog 25 #[.agg (rowA (sumB fa fb))] W (RetNum W ((a + b) % 2 ^ 128))) := fun W => by rw [← HE.out]; exact refNum_any _ W
      have HB4 := Lib.hid r4
      have H3 := Lib.hid r3
      clear e r2 r3 r4 HE HK H0 HGN
      have hRR : (rowA (sumB fa fb)).size = 128 := rowA_size _
      generalize (rowA (sumB fa fb)) = RR at r1 HNUM hRR
      generalize carryB fa fb 128 = cc
      go_wp2_with (first
        | (refine wpList_load_row rfl 70 (.tmp 7) rfl gx rfl 70 RR (0, 0) _ r1 Try.underlying70 rfl (by rw [hRR]; exact infoRow) ?_))
      clear r1
      obtain ⟨h3, l3, e3, -, -⟩ := numV_parts ((a + b) % 2 ^ 128)
      obtain ⟨h4, l4, e4, -, -⟩ := numV_parts ((a + b) % 2 ^ 128 % 2 ^ sh c)
      have HE3 := Lib.hid e3
      have HE4 := Lib.hid e4
      have HNUM2 : Hid (∀ W, Calls Try.prog 25 #[.agg RR] W fun e w' => e = .returned (.agg #[.int .u64 (h3 : Int), .int .u64 (l3 : Int)]) ∧ Below W.heap.size W w') := fun W => by rw [← HE3.out]; exact HNUM.out W
      have hcut : ∀ W, Calls Try.prog 7 #[numV ((a + b) % 2 ^ 128), .int .i64 c] W (RetNum W ((a + b) % 2 ^ 128 % 2 ^ sh c)) := fun W => refCut_any _ c (by rw [BB_pow2]; exact Nat.mod_lt _ (Nat.two_pow_pos _)) W
      unfold RetNum at hcut
      rw [HE3.out, HE4.out] at hcut
      have HCUT2 := Lib.hid hcut
      clear HNUM e3 e4 hcut HE3
      refine (HNUM2.out _).mono ?_
      rintro e w1 ⟨rfl, hb1⟩
      have HB6 : Hid (Below w.heap.size w w1) := HB4.out.trans (hb1.mono HB4.out.size)
      have H6 := Lib.hid ((hb1.block (w.heap.size + 1 + 1) (lt_of_block H3.out)).trans H3.out)
      clear hb1 H3 HB4
      go_wp2_with fail
      refine (HCUT2.out _).mono ?_
      rintro e w4 ⟨rfl, hb1⟩
      have hr := (hb1.block (w.heap.size + 1 + 1) (lt_of_block H6.out)).trans H6.out
      have q0 : w4.cell? ⟨w.heap.size + 1 + 1, 0, none⟩ = some x0 := by simp [World.cell?, hr]
      have q1 : w4.cell? ⟨w.heap.size + 1 + 1, 1, none⟩ = some x1 := by simp [World.cell?, hr]
      have qz : ∀ j, w4.frozen? ⟨w.heap.size + 1 + 1, j, none⟩ = false := fun j => by simp [World.frozen?, hr]
      have HR := Lib.hid hr
      have HB1 : Hid (Below w.heap.size w w4) := HB6.out.trans (hb1.mono HB6.out.size)
      clear hr hb1
      go_wp2_with fail
      have hg := set_lo (.int .u64 (l4 : Int)) (set_hi (.int .u64 (h4 : Int)) HR.out)
      exact bodyPost_ret (v := .agg #[.int .u64 (h4 : Int), .int .u64 (l4 : Int)]) (results_cell_row Try.results10 _ _ (w.heap.size + 1 + 1) _ _ _ _ (by simp [go_sem]) hg Try.underlying24 rfl (by kernel_rfl)) rfl ⟨by rw [HE4.out], (HB1.out.setCell (by show w.heap.size ≤ w.heap.size + 1 + 1; omega) _).setCell (by show w.heap.size ≤ w.heap.size + 1 + 1; omega) _⟩

end Go.Proofs.Ytnknpgfconfgjaa

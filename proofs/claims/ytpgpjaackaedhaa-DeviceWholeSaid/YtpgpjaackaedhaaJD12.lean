/-
  Lemmas, joined: Value, ValueG, DevE.
-/
import Derived.Test.YtpgpjaackaedhaaJD11
import Derived.Test.YtpgpjaackaedhaaJD01
import Derived.Test.YtpgpjaackaedhaaJD04
/-
  Code without fields, valued.
-/
namespace Go.Proofs.Ytpgpjaackaedhaa
open Go.RowKit Go.Maps

/-- A node: its kind, width, two numbers, its constant. -/
structure Nd where
  op : Int
  k : Int
  a : Int
  b : Int
  v : Nat
def Nd.val (d : Nd) : Value := nodeV d.op d.k d.a d.b ((d.v / B : Nat) : Int) ((d.v % B : Nat) : Int)
def Nd.cells (d : Nd) : List Value := [.int .u8 d.op, .int .i64 d.k, .int .i64 d.a, .int .i64 d.b, .int .u64 ((d.v / B : Nat) : Int), .int .u64 ((d.v % B : Nat) : Int)]

/-- What a node does to a stack. -/
inductive Step : Nd → List (Nat × Int) → List (Nat × Int) → Prop
  | const (k a b : Int) (v : Nat) (st) : v < B * B → Step ⟨1, k, a, b, v⟩ st (st ++ [(v % 2 ^ sh k, k)])
  | bnot (k a b : Int) (v : Nat) (st) (n : Nat) (j : Int) : n < B * B → Step ⟨7, k, a, b, v⟩ (st ++ [(n, j)]) (st ++ [(((n % 2 ^ sh k) ^^^ (2 ^ sh k - 1)) % 2 ^ sh k, k)])
  | neg (k a b : Int) (v : Nat) (st) (n : Nat) (j : Int) : n < B * B → Step ⟨8, k, a, b, v⟩ (st ++ [(n, j)]) (st ++ [((0 + (B * B - n)) % (B * B) % 2 ^ sh k % 2 ^ sh k, k)])
  | slice (k a b : Int) (v : Nat) (st) (n : Nat) (j : Int) : n < B * B → 0 ≤ b → b ≤ a → a < 128 → Step ⟨9, k, a, b, v⟩ (st ++ [(n, j)]) (st ++ [(n / 2 ^ sh b % 2 ^ sh (a - b + 1) % 2 ^ sh k, k)])
  | cat (k a b : Int) (v : Nat) (st) (n m : Nat) (i j : Int) : n < B * B → m < B * B → Step ⟨10, k, a, b, v⟩ (st ++ [(n, i)] ++ [(m, j)]) (st ++ [(((n * 2 ^ sh j % (B * B) % 2 ^ sh 128) ||| (m % 2 ^ sh j)) % 2 ^ sh k, k)])
  | add (k a b : Int) (v : Nat) (st) (n m : Nat) (i j : Int) : n < B * B → m < B * B → Step ⟨11, k, a, b, v⟩ (st ++ [(n, i)] ++ [(m, j)]) (st ++ [((n + m) % (B * B) % 2 ^ sh k % 2 ^ sh k, k)])
  | sub (k a b : Int) (v : Nat) (st) (n m : Nat) (i j : Int) : n < B * B → m < B * B → Step ⟨12, k, a, b, v⟩ (st ++ [(n, i)] ++ [(m, j)]) (st ++ [((n + (B * B - m)) % (B * B) % 2 ^ sh k % 2 ^ sh k, k)])
  | lt (k a b : Int) (v : Nat) (st) (n m : Nat) (i j : Int) : n < B * B → m < B * B → Step ⟨19, k, a, b, v⟩ (st ++ [(n, i)] ++ [(m, j)]) (st ++ [(oneN (decide (n < m)) % 2 ^ sh k, k)])
  | le (k a b : Int) (v : Nat) (st) (n m : Nat) (i j : Int) : n < B * B → m < B * B → Step ⟨20, k, a, b, v⟩ (st ++ [(n, i)] ++ [(m, j)]) (st ++ [(oneN (decide (n ≤ m)) % 2 ^ sh k, k)])

theorem node_step {d : Nd} {s s' : List (Nat × Int)} (h : Step d s s') (n0 m : Nat) (x : Value) (w : World) (hS : Stk w n0 m x s) (hl : s.length ≤ 50) :
    Calls Try.prog 47 #[.pointer (some ⟨m, 0, none⟩), d.val] w fun e w' => e = .returned (.tuple #[]) ∧ Stk w' n0 m x s' ∧ Below n0 w w' := by
  cases h with
  | const k a b v st hv => exact node_const n0 m x _ v k a b w hS hv (by omega)
  | bnot k a b v st n j hn => exact node_not n0 m x st n j k a b _ _ w hS (by simp at hl; omega) hn
  | neg k a b v st n j hn => exact node_neg n0 m x st n j k a b _ _ w hS (by simp at hl; omega) hn
  | slice k a b v st n j hn h0 h1 h2 => exact node_slice n0 m x st n j k a b _ _ w hS (by simp at hl; omega) hn h0 h1 h2
  | cat k a b v st n m i j hn hm => exact node_cat n0 _ x st n m i j k a b _ _ w hS (by simp at hl; omega) hn hm
  | add k a b v st n m i j hn hm => exact node_add n0 _ x st n m i j k a b _ _ w hS (by simp at hl; omega) hn hm
  | sub k a b v st n m i j hn hm => exact node_sub n0 _ x st n m i j k a b _ _ w hS (by simp at hl; omega) hn hm
  | lt k a b v st n m i j hn hm => exact node_lt n0 _ x st n m i j k a b _ _ w hS (by simp at hl; omega) hn hm
  | le k a b v st n m i j hn hm => exact node_le n0 _ x st n m i j k a b _ _ w hS (by simp at hl; omega) hn hm

theorem field_n (a b c : Int) (w : World) : (Instr.field 118 (.agg #[.int .u64 a, .int .u64 b, .int .i64 c]) 0).run Try.prog w = .ok (.agg #[.int .u64 a, .int .u64 b]) w := by kernel_rfl

end Go.Proofs.Ytpgpjaackaedhaa

/-
  Code without fields, valued, of any program.
-/
namespace Go.Proofs.Ytpgpjaackaedhaa
open Go.RowKit Go.Maps

set_option maxRecDepth 100000 in
set_option maxHeartbeats 4000000 in
theorem valueG_any (s : PgS) (nd : Nat → Nd) (sts : Nat → List (Nat × Int)) (N cap gx gc : Nat) (r : Nat) (kr : Int) (w : World) (hN : N ≤ 50) (hstep : ∀ i, i < N → Step (nd i) (sts i) (sts (i + 1))) (hlen : ∀ i, i ≤ N → (sts i).length ≤ 50) (h0 : sts 0 = []) (hr : sts N = [(r, kr)])
    (hc : ∀ i, i < N → ∀ j v, (nd i).cells[j]? = some v → w.cell? ⟨gc, i * 6 + j, none⟩ = some v) :
    Calls Try.prog 41 #[pgV s, .pointer (some ⟨gx, 0, none⟩), .slice (some ⟨gc, 0, none⟩) N cap, .slice none 0 0] w (RetNum w r) := by
  unfold pgV
  have HC := Lib.hid hc
  have HST := Lib.hid hstep
  have HLE := Lib.hid hlen
  have HRR := Lib.hid hr
  have HGC : Hid (0 < N → gc < w.heap.size) := fun h => (cell_there (hc 0 h 0 (.int .u8 (nd 0).op) rfl)).1
  have HH0 := Lib.hid h0
  clear hc hstep hlen hr h0
  obtain ⟨y3, z3, he3, ey3, ez3⟩ := numV_parts r
  have HE3 := Lib.hid he3
  have HYZ : Hid (((r / B : Nat) : Int) = (y3 : Int) ∧ ((r % B : Nat) : Int) = (z3 : Int)) := ⟨by rw [ey3], by rw [ez3]⟩
  clear he3 ey3 ez3
  go_enter Try.func41, Try.ntmps41
  go_wp2_with fail
  obtain ⟨W0, hW0⟩ : ∃ W0, W0 = ((w.alloc (.cells #[.slice s.hp s.hn s.hc, .slice s.mp s.mn s.mc, .slice s.sp s.sn s.sc, .slice s.ap s.an s.ac, .slice s.tp s.tn s.tc, .slice s.cp s.cn s.cc, .slice s.ep s.en s.ec, .slice s.v1 s.n1 s.c1, .slice s.v2 s.n2 s.c2, .slice s.v3 s.n3 s.c3, .slice s.v4 s.n4 s.c4, .slice s.v5 s.n5 s.c5] 49)).alloc (.cells #[.int .u64 0, .int .u64 0] 33)).alloc (.cells #[.pointer (some ⟨gx, 0, none⟩), .slice none 0 0, .slice none 0 0] 115) := ⟨_, rfl⟩
  have HB0 : Hid (Below w.heap.size w W0) := by show Below _ _ _; rw [hW0]; exact (by repeat (first | exact Below.refl _ _ | assumption | refine Below.drew ?_ | refine Below.alloc ?_ (by first | omega | (simp <;> omega)) _ | refine Below.setCell ?_ (by first | omega | (simp <;> omega)) _ | refine Below.trans ?_ (Below.mono (by assumption) (by first | omega | (simp <;> omega)))))
  have hsz0 : W0.heap.size = w.heap.size + 1 + 1 + 1 := by rw [hW0]; simp
  have HM0 : Hid (W0.heap[w.heap.size + 1 + 1]? = some (.cells #[.pointer (some ⟨gx, 0, none⟩), .slice none 0 0, .slice none 0 0] 115 (0, 0))) := by
    show _ = _
    rw [hW0]
    have := heap_new ((w.alloc (.cells #[.slice s.hp s.hn s.hc, .slice s.mp s.mn s.mc, .slice s.sp s.sn s.sc, .slice s.ap s.an s.ac, .slice s.tp s.tn s.tc, .slice s.cp s.cn s.cc, .slice s.ep s.en s.ec, .slice s.v1 s.n1 s.c1, .slice s.v2 s.n2 s.c2, .slice s.v3 s.n3 s.c3, .slice s.v4 s.n4 s.c4, .slice s.v5 s.n5 s.c5] 49)).alloc (.cells #[.int .u64 0, .int .u64 0] 33)) (.cells #[.pointer (some ⟨gx, 0, none⟩), .slice none 0 0, .slice none 0 0] 115)
    simp only [World.size_alloc] at this
    exact this
  have HR0 : Hid (W0.heap[w.heap.size + 1]? = some (.cells #[.int .u64 0, .int .u64 0] 33 (0, 0))) := by
    show _ = _
    rw [hW0, Below.heap_alloc _ _ _ (by simp)]
    have := heap_new (w.alloc (.cells #[.slice s.hp s.hn s.hc, .slice s.mp s.mn s.mc, .slice s.sp s.sn s.sc, .slice s.ap s.an s.ac, .slice s.tp s.tn s.tc, .slice s.cp s.cn s.cc, .slice s.ep s.en s.ec, .slice s.v1 s.n1 s.c1, .slice s.v2 s.n2 s.c2, .slice s.v3 s.n3 s.c3, .slice s.v4 s.n4 s.c4, .slice s.v5 s.n5 s.c5] 49)) (.cells #[.int .u64 0, .int .u64 0] 33)
    simp only [World.size_alloc] at this
    exact this
  rw [← hW0]
  clear hW0
  go_loopw [21] (fun i wr => ∃ k : Nat, k ≤ N ∧ i = .int .i64 k ∧ Stk wr (w.heap.size + 1 + 1) (w.heap.size + 1 + 1) (.pointer (some ⟨gx, 0, none⟩)) (sts k) ∧ Below (w.heap.size + 1 + 1) W0 wr) (fun i _ => N - (intOf i).toNat)
  case atStart =>
    refine ⟨0, Nat.zero_le _, rfl, ?_, Below.refl _ _⟩
    rw [HH0.out]
    exact ⟨.slice none 0 0, HM0.out, ⟨rfl, .inl ⟨rfl, rfl⟩⟩, by simp [Value.ownBlock], Nat.le_refl _, by simp⟩
  case round =>
    obtain ⟨k, hk, rfl, hS, hB⟩ := hrel
    have HS := Lib.hid hS
    have HB := Lib.hid hB
    have hszr := hB.size
    rw [hsz0] at hszr
    clear hS hB
    by_cases hlt : k < N
    · obtain ⟨op, kk, a, b, v, hnd⟩ : ∃ op kk a b v, nd k = ⟨op, kk, a, b, v⟩ := ⟨_, _, _, _, _, rfl⟩
      have hgc := HGC.out (by omega)
      have HCK : Hid (∀ j u, (nd k).cells[j]? = some u → wr.cell? ⟨gc, k * 6 + j, none⟩ = some u) := fun j u h => (HB.out.cell (p := ⟨gc, k * 6 + j, none⟩) (by show gc < _; omega)).trans ((HB0.out.cell (p := ⟨gc, k * 6 + j, none⟩) hgc).trans (HC.out k hlt j u h))
      have HND : Hid (∀ W, Stk W (w.heap.size + 1 + 1) (w.heap.size + 1 + 1) (.pointer (some ⟨gx, 0, none⟩)) (sts k) → Calls Try.prog 47 #[.pointer (some ⟨w.heap.size + 1 + 1, 0, none⟩), (nd k).val] W fun e w' => e = .returned (.tuple #[]) ∧ Stk w' (w.heap.size + 1 + 1) (w.heap.size + 1 + 1) (.pointer (some ⟨gx, 0, none⟩)) (sts (k + 1)) ∧ Below (w.heap.size + 1 + 1) W w') := fun W h => node_step (HST.out k hlt) _ _ _ W h (HLE.out k (by omega))
      rw [hnd] at HCK HND
      have a0 : wr.cell? ⟨gc, k * 6, none⟩ = some (.int .u8 op) := HCK.out 0 _ rfl
      have a1 : wr.cell? ⟨gc, k * 6 + 1, none⟩ = some (.int .i64 kk) := HCK.out 1 _ rfl
      have a2 : wr.cell? ⟨gc, k * 6 + 2, none⟩ = some (.int .i64 a) := HCK.out 2 _ rfl
      have a3 : wr.cell? ⟨gc, k * 6 + 3, none⟩ = some (.int .i64 b) := HCK.out 3 _ rfl
      have a4 : wr.cell? ⟨gc, k * 6 + 4, none⟩ = some (.int .u64 ((v / B : Nat) : Int)) := HCK.out 4 _ rfl
      have a5 : wr.cell? ⟨gc, k * 6 + 5, none⟩ = some (.int .u64 ((v % B : Nat) : Int)) := HCK.out 5 _ rfl
      unfold Nd.val nodeV at HND
      dsimp only at HND
      generalize ((v / B : Nat) : Int) = v1 at *
      generalize ((v % B : Nat) : Int) = v2 at *
      clear HCK hnd
      go_wp2_with (go_at_call 47; refine (HND.out _ (HS.out.below ((Below.refl _ _).alloc (Nat.le_refl _) _))).mono ?_; rintro e w1 ⟨rfl, hs1, hb1⟩; have HS1 := Lib.hid hs1; have HB1 := Lib.hid hb1; clear hs1 hb1)
      go_roundw
      case rel => exact ⟨k + 1, by omega, by go_num, HS1.out, (HB.out.alloc (by omega) _).trans HB1.out⟩
      case measure => simp [intOf]; omega
    · have hkN : k = N := by omega
      subst hkN
      have HP : Hid (Calls Try.prog 48 #[.pointer (some ⟨w.heap.size + 1 + 1, 0, none⟩)] wr fun e w' => e = .returned (.agg #[.int .u64 (y3 : Int), .int .u64 (z3 : Int), .int .i64 kr]) ∧ Below (w.heap.size + 1 + 1) wr w') := by
        have h := HS.out
        rw [HRR.out] at h
        have hp := pop_any (w.heap.size + 1 + 1) (w.heap.size + 1 + 1) (.pointer (some ⟨gx, 0, none⟩)) [] r kr wr h
        rw [HYZ.out.1, HYZ.out.2] at hp
        exact hp.mono fun e w' h => ⟨h.1, h.2.2.1⟩
      have hfn := field_n
      go_wp2_with (go_at_call 48; refine HP.out.mono ?_; rintro e w1 ⟨rfl, hb1⟩; have HB1 := Lib.hid hb1; have hr1 : w1.heap[w.heap.size + 1]? = some (.cells #[.int .u64 0, .int .u64 0] 33 (0, 0)) := (hb1.block _ (by omega)).trans ((HB.out.block _ (by omega)).trans HR0.out); have b0 : w1.cell? ⟨w.heap.size + 1, 0, none⟩ = some (.int .u64 0) := (by simp [World.cell?, hr1]); have b1 : w1.cell? ⟨w.heap.size + 1, 1, none⟩ = some (.int .u64 0) := (by simp [World.cell?, hr1]); have b2 : w1.frozen? ⟨w.heap.size + 1, 0, none⟩ = false := (by simp [World.frozen?, hr1]); have b3 : w1.frozen? ⟨w.heap.size + 1, 1, none⟩ = false := (by simp [World.frozen?, hr1]); clear hb1 hr1)
      exact bodyPost_ret (v := .agg #[.int .u64 (y3 : Int), .int .u64 (z3 : Int)]) (by simp [results, Try.results41, go_sem, b0, b1, b2, b3]) rfl ⟨by rw [HE3.out], ((HB0.out.trans ((HB.out.mono (by omega)))).trans (HB1.out.mono (by omega))).setCell (by show w.heap.size ≤ w.heap.size + 1; omega) _ |>.setCell (by show w.heap.size ≤ w.heap.size + 1; omega) _⟩

end Go.Proofs.Ytpgpjaackaedhaa

/-
  A runner's value of an instruction of one constant.
-/
namespace Go.Proofs.Ytpgpjaackaedhaa
open Go.RowKit

/-- A runner of a program of steps and a control alone, on the packet in block X. -/
def rnV (sp : Option Addr) (sn sc : Nat) (cp : Option Addr) (cn cc : Nat) (X : Nat) : Value := .agg #[.slice none 0 0, .slice none 0 0, .slice sp sn sc, .slice none 0 0, .slice none 0 0, .slice cp cn cc, .slice none 0 0, .slice none 0 0, .slice none 0 0, .slice none 0 0, .slice none 0 0, .slice none 0 0, .slice none 0 0, .pointer (some ⟨X, 0, none⟩), .slice none 0 0, .bool false]
/-- An instruction without places. -/
def inV (k : Int) (ep : Option Addr) (en ec : Nat) : Value := .agg #[.int .u8 k, .int .i64 0, .int .i64 0, .slice ep en ec, .int .i64 0]
/-- The code of one constant of 9 bits. -/
def ConstAt (w : World) (gc v : Nat) : Prop := w.cell? ⟨gc, 0, none⟩ = some (.int .u8 1) ∧ w.cell? ⟨gc, 1, none⟩ = some (.int .i64 9) ∧ w.cell? ⟨gc, 2, none⟩ = some (.int .i64 0) ∧ w.cell? ⟨gc, 3, none⟩ = some (.int .i64 0) ∧ w.cell? ⟨gc, 4, none⟩ = some (.int .u64 0) ∧ w.cell? ⟨gc, 5, none⟩ = some (.int .u64 (v : Int))
theorem ConstAt.below {w w' : World} {gc v : Nat} (h : ConstAt w gc v) (hb : Below w.heap.size w w') : ConstAt w' gc v := by
  obtain ⟨h0, h1, h2, h3, h4, h5⟩ := h
  have hg := (cell_there h0).1
  exact ⟨(hb.cell (p := ⟨gc, 0, none⟩) hg).trans h0, (hb.cell (p := ⟨gc, 1, none⟩) hg).trans h1, (hb.cell (p := ⟨gc, 2, none⟩) hg).trans h2, (hb.cell (p := ⟨gc, 3, none⟩) hg).trans h3, (hb.cell (p := ⟨gc, 4, none⟩) hg).trans h4, (hb.cell (p := ⟨gc, 5, none⟩) hg).trans h5⟩

theorem value_const (sp : Option Addr) (sn sc : Nat) (cp : Option Addr) (cn cc : Nat) (X gc v ec : Nat) (w : World) (hv : v < 512) (hc : ConstAt w gc v) :
    Calls Try.prog 41 #[.agg #[.slice none 0 0, .slice none 0 0, .slice sp sn sc, .slice none 0 0, .slice none 0 0, .slice cp cn cc, .slice none 0 0, .slice none 0 0, .slice none 0 0, .slice none 0 0, .slice none 0 0, .slice none 0 0], .pointer (some ⟨X, 0, none⟩), .slice (some ⟨gc, 0, none⟩) 1 ec, .slice none 0 0] w (RetNum w v) := by
  have hB : v < B * B := Nat.lt_trans hv (by unfold B; omega)
  have h1 : v / B = 0 := Nat.div_eq_of_lt (Nat.lt_trans hv (by unfold B; omega))
  have h2 : v % B = v := Nat.mod_eq_of_lt (Nat.lt_trans hv (by unfold B; omega))
  have s9 : (2 : Nat) ^ sh 9 = 512 := by decide
  refine valueG_any (dpS sp sn sc cp cn cc) (fun _ => ⟨1, 9, 0, 0, v⟩) (fun i => if i = 0 then [] else [(v, 9)]) 1 ec X gc v 9 w (by omega) (fun i hi => ?_) (fun i _ => ?_) rfl rfl (fun i hi j u hj => ?_)
  · obtain rfl : i = 0 := by omega
    have := Step.const 9 0 0 v [] hB
    rw [s9, Nat.mod_eq_of_lt hv] at this
    exact this
  · split <;> simp
  · obtain rfl : i = 0 := by omega
    obtain ⟨c0, c1, c2, c3, c4, c5⟩ := hc
    rw [Nat.zero_mul, Nat.zero_add]
    unfold Nd.cells at hj
    simp only [h1, h2] at hj
    match j, hj with
    | 0, hj => cases hj; exact c0
    | 1, hj => cases hj; exact c1
    | 2, hj => cases hj; exact c2
    | 3, hj => cases hj; exact c3
    | 4, hj => cases hj; exact c4
    | 5, hj => cases hj; exact c5

set_option maxRecDepth 100000 in
set_option maxHeartbeats 1600000 in
theorem rvalue_const (sp : Option Addr) (sn sc : Nat) (cp : Option Addr) (cn cc : Nat) (X gc v ec : Nat) (k : Int) (w : World) (hv : v < 512) (hc : ConstAt w gc v) :
    Calls Try.prog 35 #[rnV sp sn sc cp cn cc X, inV k (some ⟨gc, 0, none⟩) 1 ec] w (RetNum w v) := by
  have HC : Hid (∀ W, Below w.heap.size w W → Calls Try.prog 41 #[.agg #[.slice none 0 0, .slice none 0 0, .slice sp sn sc, .slice none 0 0, .slice none 0 0, .slice cp cn cc, .slice none 0 0, .slice none 0 0, .slice none 0 0, .slice none 0 0, .slice none 0 0, .slice none 0 0], .pointer (some ⟨X, 0, none⟩), .slice (some ⟨gc, 0, none⟩) 1 ec, .slice none 0 0] W (RetNum W v)) := fun W h => value_const _ _ _ _ _ _ X gc v ec W hv (hc.below h)
  obtain ⟨y3, z3, he3, -, -⟩ := numV_parts v
  have HR := Lib.hid he3
  unfold RetNum at HC
  rw [he3] at HC
  clear he3 hc hv
  unfold rnV inV
  go_enter Try.func35, Try.ntmps35
  go_wp2_with fail
  obtain ⟨W0, hW0⟩ : ∃ W0, W0 = ((w.alloc (.cells #[.slice none 0 0, .slice none 0 0, .slice sp sn sc, .slice none 0 0, .slice none 0 0, .slice cp cn cc, .slice none 0 0, .slice none 0 0, .slice none 0 0, .slice none 0 0, .slice none 0 0, .slice none 0 0, .slice none 0 0, .pointer (some ⟨X, 0, none⟩), .slice none 0 0, .bool false] 70)).alloc (.cells #[.int .u8 k, .int .i64 0, .int .i64 0, .slice (some ⟨gc, 0, none⟩) 1 ec, .int .i64 0] 39)).alloc (.cells #[.int .u64 0, .int .u64 0] 33) := ⟨_, rfl⟩
  have HB0 : Hid (Below w.heap.size w W0) := by show Below _ _ _; rw [hW0]; exact (by repeat (first | exact Below.refl _ _ | assumption | refine Below.drew ?_ | refine Below.alloc ?_ (by first | omega | (simp <;> omega)) _ | refine Below.setCell ?_ (by first | omega | (simp <;> omega)) _ | refine Below.trans ?_ (Below.mono (by assumption) (by first | omega | (simp <;> omega)))))
  have hs0 : W0.heap.size = w.heap.size + 1 + 1 + 1 := by rw [hW0]; simp
  have hr0 : W0.heap[w.heap.size]? = some (.cells #[.slice none 0 0, .slice none 0 0, .slice sp sn sc, .slice none 0 0, .slice none 0 0, .slice cp cn cc, .slice none 0 0, .slice none 0 0, .slice none 0 0, .slice none 0 0, .slice none 0 0, .slice none 0 0, .slice none 0 0, .pointer (some ⟨X, 0, none⟩), .slice none 0 0, .bool false] 70 (0, 0)) := by
    rw [hW0, Below.heap_alloc _ _ _ (by simp; omega), Below.heap_alloc _ _ _ (by simp)]; exact heap_new _ _
  have hi0 : W0.heap[w.heap.size + 1]? = some (.cells #[.int .u8 k, .int .i64 0, .int .i64 0, .slice (some ⟨gc, 0, none⟩) 1 ec, .int .i64 0] 39 (0, 0)) := by
    rw [hW0, Below.heap_alloc _ _ _ (by simp)]
    have := heap_new (w.alloc (.cells #[.slice none 0 0, .slice none 0 0, .slice sp sn sc, .slice none 0 0, .slice none 0 0, .slice cp cn cc, .slice none 0 0, .slice none 0 0, .slice none 0 0, .slice none 0 0, .slice none 0 0, .slice none 0 0, .slice none 0 0, .pointer (some ⟨X, 0, none⟩), .slice none 0 0, .bool false] 70)) (.cells #[.int .u8 k, .int .i64 0, .int .i64 0, .slice (some ⟨gc, 0, none⟩) 1 ec, .int .i64 0] 39)
    simp only [World.size_alloc] at this
    exact this
  have hn0 : W0.heap[w.heap.size + 1 + 1]? = some (.cells #[.int .u64 0, .int .u64 0] 33 (0, 0)) := by
    rw [hW0]
    have := heap_new ((w.alloc (.cells #[.slice none 0 0, .slice none 0 0, .slice sp sn sc, .slice none 0 0, .slice none 0 0, .slice cp cn cc, .slice none 0 0, .slice none 0 0, .slice none 0 0, .slice none 0 0, .slice none 0 0, .slice none 0 0, .slice none 0 0, .pointer (some ⟨X, 0, none⟩), .slice none 0 0, .bool false] 70)).alloc (.cells #[.int .u8 k, .int .i64 0, .int .i64 0, .slice (some ⟨gc, 0, none⟩) 1 ec, .int .i64 0] 39)) (.cells #[.int .u64 0, .int .u64 0] 33)
    simp only [World.size_alloc] at this
    exact this
  rw [← hW0]
  clear hW0
  have q0 : W0.cell? ⟨w.heap.size, 0, none⟩ = some (.slice none 0 0) := by simp [World.cell?, hr0]
  have q1 : W0.cell? ⟨w.heap.size, 1, none⟩ = some (.slice none 0 0) := by simp [World.cell?, hr0]
  have q2 : W0.cell? ⟨w.heap.size, 2, none⟩ = some (.slice sp sn sc) := by simp [World.cell?, hr0]
  have q3 : W0.cell? ⟨w.heap.size, 3, none⟩ = some (.slice none 0 0) := by simp [World.cell?, hr0]
  have q4 : W0.cell? ⟨w.heap.size, 4, none⟩ = some (.slice none 0 0) := by simp [World.cell?, hr0]
  have q5 : W0.cell? ⟨w.heap.size, 5, none⟩ = some (.slice cp cn cc) := by simp [World.cell?, hr0]
  have q6 : W0.cell? ⟨w.heap.size, 6, none⟩ = some (.slice none 0 0) := by simp [World.cell?, hr0]
  have q7 : W0.cell? ⟨w.heap.size, 7, none⟩ = some (.slice none 0 0) := by simp [World.cell?, hr0]
  have q8 : W0.cell? ⟨w.heap.size, 8, none⟩ = some (.slice none 0 0) := by simp [World.cell?, hr0]
  have q9 : W0.cell? ⟨w.heap.size, 9, none⟩ = some (.slice none 0 0) := by simp [World.cell?, hr0]
  have q10 : W0.cell? ⟨w.heap.size, 10, none⟩ = some (.slice none 0 0) := by simp [World.cell?, hr0]
  have q11 : W0.cell? ⟨w.heap.size, 11, none⟩ = some (.slice none 0 0) := by simp [World.cell?, hr0]
  have q12 : W0.cell? ⟨w.heap.size, 12, none⟩ = some (.slice none 0 0) := by simp [World.cell?, hr0]
  have q13 : W0.cell? ⟨w.heap.size, 13, none⟩ = some (.pointer (some ⟨X, 0, none⟩)) := by simp [World.cell?, hr0]
  have q14 : W0.cell? ⟨w.heap.size, 14, none⟩ = some (.slice none 0 0) := by simp [World.cell?, hr0]
  have q15 : W0.cell? ⟨w.heap.size, 15, none⟩ = some (.bool false) := by simp [World.cell?, hr0]
  have j0 : W0.cell? ⟨w.heap.size + 1, 0, none⟩ = some (.int .u8 k) := by simp [World.cell?, hi0]
  have j1 : W0.cell? ⟨w.heap.size + 1, 1, none⟩ = some (.int .i64 0) := by simp [World.cell?, hi0]
  have j2 : W0.cell? ⟨w.heap.size + 1, 2, none⟩ = some (.int .i64 0) := by simp [World.cell?, hi0]
  have j3 : W0.cell? ⟨w.heap.size + 1, 3, none⟩ = some (.slice (some ⟨gc, 0, none⟩) 1 ec) := by simp [World.cell?, hi0]
  have j4 : W0.cell? ⟨w.heap.size + 1, 4, none⟩ = some (.int .i64 0) := by simp [World.cell?, hi0]
  go_wp2_with (go_at_call 41; refine (HC.out _ HB0.out).mono ?_; rintro e w1 ⟨rfl, hb1⟩; have HB1 := Lib.hid hb1; have hn1 := (hb1.block (w.heap.size + 1 + 1) (by omega)).trans hn0; have b0 : w1.cell? ⟨w.heap.size + 1 + 1, 0, none⟩ = some (.int .u64 0) := (by simp [World.cell?, hn1]); have b1 : w1.cell? ⟨w.heap.size + 1 + 1, 1, none⟩ = some (.int .u64 0) := (by simp [World.cell?, hn1]); have b2 : w1.frozen? ⟨w.heap.size + 1 + 1, 0, none⟩ = false := (by simp [World.frozen?, hn1]); have b3 : w1.frozen? ⟨w.heap.size + 1 + 1, 1, none⟩ = false := (by simp [World.frozen?, hn1]); clear hb1 hn1)
  exact bodyPost_ret (v := .agg #[.int .u64 (y3 : Int), .int .u64 (z3 : Int)]) (by simp [results, Try.results35, go_sem, b0, b1, b2, b3]) rfl ⟨by rw [HR.out], ((HB0.out.trans (HB1.out.mono HB0.out.size)).setCell (by show w.heap.size ≤ w.heap.size + 1 + 1; omega) _).setCell (by show w.heap.size ≤ w.heap.size + 1 + 1; omega) _⟩

end Go.Proofs.Ytpgpjaackaedhaa

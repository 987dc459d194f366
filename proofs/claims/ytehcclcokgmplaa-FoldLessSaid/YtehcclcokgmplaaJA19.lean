/-
  Lemmas, joined: HasA, RunQ, ActA.
-/
import Derived.Test.YtehcclcokgmplaaJA14
import Derived.Test.YtehcclcokgmplaaJA18
import Derived.BigRegion
import Derived.Test.YtehcclcokgmplaaJA13
/-
  A packet behind a pointer: what is changed, what is kept; header.has, header.Get, action.among.
-/
namespace Go.Proofs.Ytehcclcokgmplaa
open Go.RowKit

/-- Only blocks of S change, and new ones. -/
structure Fr (S : Nat → Prop) (w w' : World) : Prop where
  os : w'.os = w.os
  tape : w'.tape = w.tape
  output : w'.output = w.output
  size : w.heap.size ≤ w'.heap.size
  block : ∀ k, k < w.heap.size → ¬ S k → w'.heap[k]? = w.heap[k]?
section
variable {S S' : Nat → Prop} {w w' w2 : World}
theorem Fr.refl (S : Nat → Prop) (w : World) : Fr S w w := ⟨rfl, rfl, rfl, Nat.le_refl _, fun _ _ _ => rfl⟩
theorem Fr.trans (h : Fr S w w') (k : Fr S w' w2) : Fr S w w2 := ⟨k.os.trans h.os, k.tape.trans h.tape, k.output.trans h.output, Nat.le_trans h.size k.size, fun i hi hs => (k.block i (Nat.lt_of_lt_of_le hi h.size) hs).trans (h.block i hi hs)⟩
theorem Fr.of_below (h : Below w.heap.size w w') : Fr S w w' := ⟨h.os, h.tape, h.output, h.size, fun k hk _ => h.block k hk⟩
theorem Fr.more (h : Fr S w w') (hs : ∀ k, S k → S' k) : Fr S' w w' := ⟨h.os, h.tape, h.output, h.size, fun k hk hn => h.block k hk fun e => hn (hs k e)⟩
theorem Fr.below (h : Fr S w w') {b : Nat} (hb : b ≤ w.heap.size) (hs : ∀ k, S k → b ≤ k) : Below b w w' := ⟨h.os, h.tape, h.output, h.size, fun k hk => h.block k (by omega) fun e => by have := hs k e; omega⟩
theorem Fr.set {X : Nat} {i : Nat} (h : Fr S w w') (hX : S X ∨ w.heap.size ≤ X) (u : Value) : Fr S w (w'.setCell ⟨X, i, none⟩ u) :=
  ⟨h.os, h.tape, h.output, by simpa [World.setCell] using h.size, fun k hk hn => (heap_setCell_other w' _ k u (fun e => by rcases hX with q | q; exact hn (by rw [show k = X from e]; exact q); exact absurd (show k = X from e) (by omega))).trans (h.block k hk hn)⟩
theorem Fr.cell (h : Fr S w w') {p : Addr} {v : Value} (hp : ¬ S p.block) (hc : w.cell? p = some v) : w'.cell? p = some v :=
  (World.cell?_of_block (w := w) (h.block p.block (cell_there hc).1 hp)).trans hc
end

/-- The packet, an invalid access more. -/
abbrev Pkt.acc (x : Pkt) (b : Bool) : Pkt := { x with access := x.access || b }
theorem PktB.setAcc {base : Nat} {w : World} {X : Nat} {x : Pkt} {r v f m : Value} {fs : List Value} (h : PktB base w X x r v f m fs) : PktB base (w.setCell ⟨X, 8, none⟩ (.bool true)) X (x.acc true) r v f m fs :=
  h.put (i := 8) (u := .bool true) (by simp [pktCells]) rfl rfl rfl rfl
theorem PktB.acc0 {base : Nat} {w : World} {X : Nat} {x : Pkt} {r v f m : Value} {fs : List Value} (h : PktB base w X x r v f m fs) : PktB base w X (x.acc false) r v f m fs := by
  have : x.acc false = x := by simp [Pkt.acc]
  rw [this]; exact h

/-- Blocks of a packet. -/
def PS (X : Nat) (r v f m : Value) (fs : List Value) (k : Nat) : Prop := k = X ∨ ∃ z ∈ [r, v, f, m] ++ fs, z.ownBlock = some k
theorem PktB.kept {base : Nat} {w w' : World} {X : Nat} {x : Pkt} {r v f m : Value} {fs : List Value} (h : PktB base w X x r v f m fs) (hk : ∀ k, PS X r v f m fs k → w'.heap[k]? = w.heap[k]?) : PktB base w' X x r v f m fs :=
  ⟨(hk X (.inl rfl)).trans h.st, own_far h.hr fun k e => hk k (.inr ⟨r, by simp, e⟩), own_far h.hv fun k e => hk k (.inr ⟨v, by simp, e⟩), own_far h.hf fun k e => hk k (.inr ⟨f, by simp, e⟩),
    fun i u l h1 h2 => (h.hfs i u l h1 h2).far fun k e => hk k (.inr ⟨u, by simp [List.mem_of_getElem? h1], e⟩), h.hm.far fun k e => hk k (.inr ⟨m, by simp, e⟩), h.lo, h.nd⟩
theorem PktB.blk {base : Nat} {w : World} {X : Nat} {x : Pkt} {r v f m : Value} {fs : List Value} (h : PktB base w X x r v f m fs) {k : Nat} (hk : PS X r v f m fs k) : base ≤ k ∧ k < w.heap.size := by
  rcases hk with rfl | ⟨z, hz, e⟩
  · exact ⟨h.lo, h.lt⟩
  · rcases List.mem_append.1 hz with q | q
    · simp only [List.mem_cons, List.not_mem_nil, or_false] at q
      rcases q with rfl | rfl | rfl | rfl
      · exact own_size h.hr e
      · exact own_size h.hv e
      · exact own_size h.hf e
      · exact own_size h.hm.1 e
    · obtain ⟨i, hi⟩ := List.getElem?_of_mem q
      have hlt := (List.getElem?_eq_some_iff.1 hi).1
      exact own_size (h.hfs i z _ hi (List.getElem?_eq_getElem (by rw [← h.flen]; exact hlt))).1 e
/-- What reading a field asks of memory. -/
structure PkAt (w : World) (X h f : Nat) (vg vc vn fg fn fc ug uc un : Nat) (vb : Bool) (y z : Int) : Prop where
  c2 : w.cell? ⟨X, 2, none⟩ = some (.slice (some ⟨vg, 0, none⟩) vn vc)
  c3 : w.cell? ⟨X, 3, none⟩ = some (.slice (some ⟨fg, 0, none⟩) fn fc)
  cv : w.cell? ⟨vg, h, none⟩ = some (.bool vb)
  cf : w.cell? ⟨fg, h, none⟩ = some (.slice (some ⟨ug, 0, none⟩) un uc)
  n0 : w.cell? ⟨ug, f * 2, none⟩ = some (.int .u64 y)
  n1 : w.cell? ⟨ug, f * 2 + 1, none⟩ = some (.int .u64 z)
theorem PktB.reads {base : Nat} {w : World} {X : Nat} {x : Pkt} {r v f m : Value} {fs : List Value} (hP : PktB base w X x r v f m fs) {h j n : Nat} {l : List Nat} {vb : Bool} (hl : x.fields[h]? = some l) (hn : l[j]? = some n) (hv : x.valid[h]? = some vb) :
    ∃ vg vc fg fc ug uc, PkAt w X h j vg vc x.valid.length fg x.fields.length fc ug uc l.length vb ((n / B : Nat) : Int) ((n % B : Nat) : Int) := by
  obtain ⟨vg, vc, rfl, -, hv0⟩ := hP.getValid hv
  obtain ⟨fg, fc, u, rfl, -, hf0, hu, hnu⟩ := hP.getRow hl
  have hlt := (List.getElem?_eq_some_iff.1 hn).1
  obtain ⟨ug, uc, rfl, -⟩ := own_some hnu.1 (by omega)
  obtain ⟨nb, no, e, -, -, y1, y2⟩ := hnu.row.get hn
  simp only [Option.some.injEq, Addr.mk.injEq, and_true] at e
  obtain ⟨rfl, rfl⟩ := e
  rw [Nat.zero_add] at y1 y2
  exact ⟨vg, vc, fg, fc, ug, uc, hP.cell (i := 2) rfl, hP.cell (i := 3) rfl, hv0, hf0, y1, y2⟩

theorem lt_of_some {W : World} {g : Nat} {o : Obj} (h : W.heap[g]? = some o) : g < W.heap.size := (Array.getElem?_eq_some_iff.1 h).1
/-- A box with a number's two halves. -/
def Bx2 (W : World) (g : Nat) (a b : Int) : Prop := W.heap[g]? = some (.cells #[.int .u64 a, .int .u64 b] 59 (0, 0))
theorem Bx2.cells {W : World} {g : Nat} {a b : Int} (h : Bx2 W g a b) : W.cell? ⟨g, 0, none⟩ = some (.int .u64 a) ∧ W.cell? ⟨g, 1, none⟩ = some (.int .u64 b) ∧ W.frozen? ⟨g, 0, none⟩ = false ∧ W.frozen? ⟨g, 1, none⟩ = false := by
  unfold Bx2 at h
  refine ⟨?_, ?_, ?_, ?_⟩ <;> simp [World.cell?, World.frozen?, h]

set_option maxRecDepth 100000 in
set_option maxHeartbeats 3200000 in
theorem has_true {base : Nat} {w : World} {X : Nat} {x : Pkt} {r v f m : Value} {fs : List Value} (hP : PktB base w X x r v f m fs) (h : Nat) (h1 : h < x.valid.length) (h2 : h < x.fields.length) :
    Calls Try.prog 78 #[.pointer (some ⟨X, 0, none⟩), .int .i64 (h : Int)] w fun e w' => e = .returned (.bool true) ∧ Below w.heap.size w w' := by
  obtain ⟨vg, vc, rfl, -, -⟩ := hP.getValid (List.getElem?_eq_getElem h1)
  obtain ⟨fg, fc, u, rfl, -, -, -, -⟩ := hP.getRow (List.getElem?_eq_getElem h2)
  have c2 := hP.cell (i := 2) rfl
  have c3 := hP.cell (i := 3) rfl
  have q1 : (h : Int) < (x.valid.length : Int) := by omega
  have q2 : (h : Int) < (x.fields.length : Int) := by omega
  have q0 : ¬ (h : Int) < 0 := by omega
  clear hP h1 h2
  generalize x.valid.length = vn at *
  generalize x.fields.length = fn at *
  go_enter Try.func78, Try.ntmps78
  go_wp2_with fail
  go_ret
  exact ⟨rfl, (by repeat (first | exact Below.refl _ _ | assumption | refine Below.drew ?_ | refine Below.alloc ?_ (by first | omega | (simp <;> omega)) _ | refine Below.setCell ?_ (by first | omega | (simp <;> omega)) _ | refine Below.trans ?_ (Below.mono (by assumption) (by first | omega | (simp <;> omega)))))⟩

set_option maxRecDepth 100000 in
set_option maxHeartbeats 6400000 in
theorem get_any {base : Nat} {w : World} {X : Nat} {x : Pkt} {r v f m : Value} {fs : List Value} (hP : PktB base w X x r v f m fs) {h j n : Nat} {l : List Nat} {vb : Bool} (hl : x.fields[h]? = some l) (hn : l[j]? = some n) (hv : x.valid[h]? = some vb) :
    Calls Try.prog 51 #[.pointer (some ⟨X, 0, none⟩), .int .i64 (h : Int), .int .i64 (j : Int)] w fun e w' => e = .returned (numV (if vb then n else 0)) ∧ PktB base w' X (x.acc !vb) r v f m fs ∧ Fr (· = X) w w' := by
  have h1 : h < x.valid.length := (List.getElem?_eq_some_iff.1 hv).1
  have h2 : h < x.fields.length := (List.getElem?_eq_some_iff.1 hl).1
  have h3 : j < l.length := (List.getElem?_eq_some_iff.1 hn).1
  obtain ⟨vg, vc, fg, fc, ug, uc, hA⟩ := hP.reads hl hn hv
  have HAS : Hid (∀ W, Below w.heap.size w W → Calls Try.prog 78 #[.pointer (some ⟨X, 0, none⟩), .int .i64 (h : Int)] W fun e w' => e = .returned (.bool true) ∧ Below W.heap.size W w') := fun W hb => has_true (hP.below hb) h h1 h2
  have HRD : Hid (∀ W, Below w.heap.size w W → PkAt W X h j vg vc x.valid.length fg x.fields.length fc ug uc l.length vb ((n / B : Nat) : Int) ((n % B : Nat) : Int)) := fun W hb => by
    obtain ⟨a1, a2, a3, a4, a5, a6⟩ := hA
    exact ⟨(hb.cell (cell_there a1).1).trans a1, (hb.cell (cell_there a2).1).trans a2, (hb.cell (cell_there a3).1).trans a3, (hb.cell (cell_there a4).1).trans a4, (hb.cell (cell_there a5).1).trans a5, (hb.cell (cell_there a6).1).trans a6⟩
  have HP := Lib.hid hP
  have hXl := hP.lt
  have HN : Hid (numV n = .agg #[.int .u64 ((n / B : Nat) : Int), .int .u64 ((n % B : Nat) : Int)]) := rfl
  have i1 : (h : Int) < (x.valid.length : Int) := by omega
  have i2 : (h : Int) < (x.fields.length : Int) := by omega
  have i3 : (j : Int) < (l.length : Int) := by omega
  have i4 : ¬ (l.length : Int) ≤ (j : Int) := by omega
  have i0 : ¬ (j : Int) < 0 := by omega
  clear hP hl hn hv hA h1 h2 h3
  generalize ((n / B : Nat) : Int) = n0 at *
  generalize ((n % B : Nat) : Int) = n2 at *
  generalize x.valid.length = vn at *
  generalize x.fields.length = fn at *
  generalize l.length = ll at *
  go_enter Try.func51, Try.ntmps51
  go_upto_region 1 with fail
  obtain ⟨W0, hW0⟩ : ∃ W0, W0 = w.alloc (.cells #[.int .u64 0, .int .u64 0] 59) := ⟨_, rfl⟩
  have HB0 : Hid (Below w.heap.size w W0) := by show Below _ _ _; rw [hW0]; exact (by repeat (first | exact Below.refl _ _ | assumption | refine Below.drew ?_ | refine Below.alloc ?_ (by first | omega | (simp <;> omega)) _ | refine Below.setCell ?_ (by first | omega | (simp <;> omega)) _ | refine Below.trans ?_ (Below.mono (by assumption) (by first | omega | (simp <;> omega)))))
  have HX0 : Hid (Bx2 W0 w.heap.size 0 0) := by show _ = _; rw [hW0]; exact heap_new _ _
  rw [← hW0]
  clear hW0
  obtain ⟨c2, c3, cv, cf, d0, d1⟩ := HRD.out W0 HB0.out
  go_upto_region 3 with (go_at_call 78; refine (HAS.out _ HB0.out).mono ?_; rintro e w1 ⟨rfl, hb1⟩; clear c2 c3 cv cf d0 d1; have HX1 : Hid (Bx2 w1 w.heap.size 0 0) := (hb1.block _ (lt_of_some HX0.out)).trans HX0.out; have HB1 : Hid (Below w.heap.size w w1) := HB0.out.trans (hb1.mono HB0.out.size); clear hb1; obtain ⟨c2, c3, cv, cf, d0, d1⟩ := HRD.out w1 HB1.out)
  have HP1 : Hid (PktB base w1 X x r v f m fs) := HP.out.below HB1.out
  cases vb
  · have e8 := HP1.out.cell (i := 8) rfl
    have f8 := HP1.out.free 8
    go_upto_region 5 with fail
    obtain ⟨W2, hW2⟩ : ∃ W2, W2 = w1.setCell ⟨X, 8, none⟩ (.bool true) := ⟨_, rfl⟩
    have HP2 : Hid (PktB base W2 X (x.acc true) r v f m fs) := by show PktB _ _ _ _ _ _ _ _ _; rw [hW2]; exact HP1.out.setAcc
    have HF2 : Hid (Fr (· = X) w W2) := by show Fr _ _ _; rw [hW2]; exact (Fr.of_below (S := (· = X)) HB1.out).set (X := X) (.inl rfl) _
    have hx2 : Bx2 W2 w.heap.size 0 0 := by rw [hW2]; exact (heap_setCell_other w1 _ _ _ (by show w.heap.size ≠ X; omega)).trans HX1.out
    have HS2 : Hid (w.heap.size < W2.heap.size) := lt_of_some hx2
    rw [← hW2]
    clear hW2 c2 c3 cv cf d0 d1 e8 f8
    obtain ⟨b0, b1, g0, g1⟩ := hx2.cells
    have HW0 : Hid (W2.heap.size > w.heap.size) := HS2.out
    have hXX := hXl
    go_wp2_with fail
    refine bodyPost_ret (v := .agg #[.int .u64 0, .int .u64 0]) ?_ rfl ⟨rfl, ?_, ?_⟩
    · simp [results, Try.results51, go_sem, b0, b1]
    · exact HP2.out.kept fun k hk => set2_other W2 w.heap.size 0 1 _ _ (by have := (HP.out.blk hk).2; omega)
    · exact (HF2.out.set (.inr (Nat.le_refl _)) _).set (.inr (Nat.le_refl _)) _
  · obtain ⟨b0, b1, g0, g1⟩ := HX1.out.cells
    go_wp2_with fail
    refine bodyPost_ret (v := .agg #[.int .u64 n0, .int .u64 n2]) ?_ rfl ⟨by rw [← HN.out], ?_, ?_⟩
    · simp [results, Try.results51, go_sem, b0, b1]
    · exact HP1.out.acc0.kept fun k hk => set2_other w1 w.heap.size 0 1 _ _ (by have := (HP.out.blk hk).2; omega)
    · exact ((Fr.of_below HB1.out).set (.inr (Nat.le_refl _)) _).set (.inr (Nat.le_refl _)) _

/-- The i-th of a row. -/
theorem among_any {w : World} {v : Value} {l : List Nat} (hv : NRow w v l) {i n : Nat} (hn : l[i]? = some n) :
    Calls Try.prog 52 #[v, .int .i64 (i : Int)] w (RetNum w n) := by
  obtain ⟨p, c, rfl, -⟩ := hv.shape
  obtain ⟨b, o, hp, hb, -, y1, y2⟩ := hv.get hn
  have hlt := (List.getElem?_eq_some_iff.1 hn).1
  have hbw : b < w.heap.size := hb
  have hlc := hv.ln
  subst hp
  have i1 : (i : Int) < (l.length : Int) := by omega
  have i2 : ¬ (l.length : Int) ≤ (i : Int) := by omega
  obtain ⟨z3, z4, he, e3, e4⟩ := numV_parts n
  have HE := Lib.hid he
  rw [← e3] at y1
  rw [← e4] at y2
  unfold RetNum
  rw [he]
  clear hv hn he e3 e4 hlc hb hlt
  generalize l.length = ll at *
  go_enter Try.func52, Try.ntmps52
  go_wp2_with fail
  exact bodyPost_ret (v := .agg #[.int .u64 (z3 : Int), .int .u64 (z4 : Int)]) (by simp [results, Try.results52, go_sem]) rfl ⟨rfl, (by repeat (first | exact Below.refl _ _ | assumption | refine Below.drew ?_ | refine Below.alloc ?_ (by first | omega | (simp <;> omega)) _ | refine Below.setCell ?_ (by first | omega | (simp <;> omega)) _ | refine Below.trans ?_ (Below.mono (by assumption) (by first | omega | (simp <;> omega)))))⟩

/-- Only box g is written, with one number. -/
structure BR (n g : Nat) (n0 n1 : Int) (W W' : World) : Prop where
  low : Below n W W'
  oth : ∀ k, k < W.heap.size → k ≠ g → W'.heap[k]? = W.heap[k]?
  kb : Bx2 W g n0 n1 → Bx2 W' g n0 n1
  ob : (∃ a b, Bx2 W g a b) → ∃ a b, Bx2 W' g a b
/-- What holds while a statement that stores a number into box g runs. -/
structure BS (n g : Nat) (W0 W : World) : Prop where
  low : Below n W0 W
  oth : ∀ k, k < W0.heap.size → k ≠ g → W.heap[k]? = W0.heap[k]?
  ob : ∃ a b, Bx2 W g a b
section
variable {n g : Nat} {n0 n1 : Int} {W0 W W' : World}
theorem BR.refl (n g : Nat) (n0 n1 : Int) (W : World) : BR n g n0 n1 W W := ⟨Below.refl _ _, fun _ _ _ => rfl, id, id⟩
theorem Bx2.below {a b : Int} (h : Bx2 W g a b) (hb : Below W.heap.size W W') : Bx2 W' g a b := (hb.block _ (lt_of_some h)).trans h
theorem BR.of_below (hn : n ≤ W.heap.size) (hb : Below W.heap.size W W') : BR n g n0 n1 W W' := ⟨hb.mono hn, fun k hk _ => hb.block k hk, fun h => h.below hb, fun ⟨a, b, h⟩ => ⟨a, b, h.below hb⟩⟩
theorem Bx2.put {a b : Int} (h : Bx2 W g a b) (x y : Int) : Bx2 ((W.setCell ⟨g, 0, none⟩ (.int .u64 x)).setCell ⟨g, 1, none⟩ (.int .u64 y)) g x y := by
  have h1 : (W.setCell ⟨g, 0, none⟩ (.int .u64 x)).heap[g]? = some (.cells #[.int .u64 x, .int .u64 b] 59 (0, 0)) := heap_setCell_same W g 0 _ _ _ h
  exact heap_setCell_same (W.setCell ⟨g, 0, none⟩ (.int .u64 x)) g 1 _ _ _ h1
theorem BR.put {a b : Int} (hn : n ≤ g) (h : Bx2 W g a b) : BR n g n0 n1 W ((W.setCell ⟨g, 0, none⟩ (.int .u64 n0)).setCell ⟨g, 1, none⟩ (.int .u64 n1)) :=
  ⟨((Below.refl n W).setCell hn _).setCell hn _, fun _k _ hk => set2_other W g 0 1 _ _ hk, fun _ => h.put _ _, fun _ => ⟨_, _, h.put _ _⟩⟩
theorem BS.step (h : BS n g W0 W) (hr : BR n g n0 n1 W W') : BS n g W0 W' := ⟨h.low.trans hr.low, fun k hk hg => (hr.oth k (Nat.lt_of_lt_of_le hk h.low.size) hg).trans (h.oth k hk hg), hr.ob h.ob⟩
theorem BS.start {a b : Int} (h : Bx2 W g a b) : BS n g W W.drew := ⟨Below.drew (Below.refl _ _), fun _ _ _ => rfl, ⟨_, _, h⟩⟩
theorem BS.cell (h : BS n g W0 W) {p : Addr} {v : Value} (hp : p.block ≠ g) (hc : W0.cell? p = some v) : W.cell? p = some v := (World.cell?_of_block (w := W0) (h.oth p.block (cell_there hc).1 hp)).trans hc
end

end Go.Proofs.Ytehcclcokgmplaa

/-
  Instructions that are run, step by step: from a place on.
-/
namespace Go.Proofs.Ytehcclcokgmplaa

/-- Leaves that may be: where they look. -/
theorem ofP_pos {l : List Int} {i : Int} (h : 0 < ofP l i) : 0 ≤ i ∧ i < (l.length : Int) := by
  unfold ofP at h
  split at h
  · omega
  · omega
theorem leaf_field {p : Prg} {act : Int} {n : Nod} (h : plain0P p act n = n.w) (hok : okP n.w = true) (hk : n.op = 2) : 0 ≤ n.a ∧ n.a < (p.heads.length : Int) ∧ 0 ≤ n.b ∧ n.b < ((p.heads.getD n.a.toNat []).length : Int) := by
  rw [okP_iff] at hok
  unfold plain0P at h
  rw [if_neg (by omega)] at h
  split at h
  · omega
  · split at h
    · rename_i e
      have := ofP_pos (l := p.heads.getD n.a.toNat []) (i := n.b) (by omega)
      exact ⟨e.1, e.2, this.1, this.2⟩
    · omega
theorem leaf_meta {p : Prg} {act : Int} {n : Nod} (h : plain0P p act n = n.w) (hok : okP n.w = true) (hk : n.op = 3) : 0 ≤ n.a ∧ n.a < (p.metas.length : Int) := by
  rw [okP_iff] at hok
  unfold plain0P at h
  rw [if_neg (by omega)] at h
  split at h
  · omega
  · exact ofP_pos (by omega)
theorem leaf_param {p : Prg} {act : Int} {n : Nod} (h : plain0P p act n = n.w) (hok : okP n.w = true) (hk : n.op = 4) : 0 ≤ act ∧ act < (p.acts.length : Int) ∧ 0 ≤ n.a ∧ n.a < (((p.acts.getD act.toNat ⟨[], []⟩).params.length : Nat) : Int) := by
  rw [okP_iff] at hok
  unfold plain0P at h
  rw [if_neg (by omega)] at h
  split at h
  · omega
  · rw [if_neg (show ¬ n.op = 2 by omega), if_neg (show ¬ n.op = 3 by omega)] at h
    split at h
    · rename_i e
      have := ofP_pos (l := (p.acts.getD act.toNat ⟨[], []⟩).params) (i := n.a) (by omega)
      exact ⟨e.1, e.2, this.1, this.2⟩
    · omega
theorem leaf_valid {p : Prg} {act : Int} {n : Nod} (h : plain0P p act n = n.w) (hok : okP n.w = true) (hk : n.op = 6) : 0 ≤ n.a ∧ n.a < (p.heads.length : Int) := by
  rw [okP_iff] at hok
  unfold plain0P at h
  rw [if_neg (by omega)] at h
  split at h
  · omega
  · rw [if_neg (show ¬ n.op = 2 by omega), if_neg (show ¬ n.op = 3 by omega), if_neg (show ¬ n.op = 4 by omega), if_neg (show ¬ n.op = 5 by omega)] at h
    split at h
    · assumption
    · omega

end Go.Proofs.Ytehcclcokgmplaa

/-
  Typed code on the machine's stack, node by node (plain law).
-/
namespace Go.Proofs.Ytehcclcokgmplaa

/-- The stack behind k nodes, the last number first. -/
def stkE (x : Pkt) (args : List Nat) (c : List Nod) (k : Nat) : List (Nat × Int) := (c.take k).foldl (stepE x args) []
/-- What one node does. -/
inductive NStep (p : Prg) (act : Int) (x : Pkt) (args : List Nat) (n : Nod) : List (Nat × Int) → List (Nat × Int) → Prop
  | leaf (st) : 1 ≤ n.op → n.op ≤ 6 → plain0P p act n = n.w → okP n.w = true → NStep p act x args n st ((leafP x args n % 2 ^ sh n.w, n.w) :: st)
  | un (a : Nat) (j : Int) (r) : isUn n.op → a < B * B → okP j = true → single0P n j = n.w → okP n.w = true → NStep p act x args n ((a, j) :: r) ((un1 n a % 2 ^ sh n.w, n.w) :: r)
  | bin (a : Nat) (i : Int) (b : Nat) (j : Int) (r) : ¬ isUn n.op → (n.op = 10 ∨ (11 ≤ n.op ∧ n.op ≤ 17) ∨ n.op = 18 ∨ n.op = 19 ∨ n.op = 20) → a < B * B → b < B * B → NStep p act x args n ((b, j) :: (a, i) :: r) ((bin2 n a b j % 2 ^ sh n.w, n.w) :: r)

theorem mod_ltBB (v : Nat) (k : Int) : v % 2 ^ sh k < B * B := sh_ltBB (k := k) (Nat.mod_lt _ (Nat.two_pow_pos _))
theorem stkE_succ (x : Pkt) (args : List Nat) (c : List Nod) {k : Nat} {n : Nod} (hn : c[k]? = some n) : stkE x args c (k + 1) = stepE x args (stkE x args c k) n := by
  unfold stkE
  rw [List.take_add_one, hn, List.foldl_append]; rfl

/-- What the stack keeps: the widths, small numbers. -/
def StkOk (p : Prg) (act : Int) (c : List Nod) (k : Nat) (st : List (Nat × Int)) : Prop := foldW p act [] (c.take k) = some (st.map Prod.snd) ∧ ∀ e ∈ st, e.1 < B * B ∧ okP e.2 = true
theorem foldW_some {p : Prg} {act : Int} {c d : List Nod} {st r : List Int} (h : foldW p act st (c ++ d) = some r) : ∃ s, foldW p act st c = some s ∧ foldW p act s d = some r := by
  rw [foldW_app] at h
  cases hq : foldW p act st c with
  | none => rw [hq] at h; cases h
  | some s => rw [hq] at h; exact ⟨s, rfl, h⟩
theorem stk_step {p : Prg} {act : Int} {c : List Nod} {wt : Int} (x : Pkt) (args : List Nat) (hw : widthP p act c = some wt) {k : Nat} {n : Nod} (hn : c[k]? = some n) (hs : StkOk p act c k (stkE x args c k)) :
    NStep p act x args n (stkE x args c k) (stkE x args c (k + 1)) ∧ StkOk p act c (k + 1) (stkE x args c (k + 1)) := by
  rw [stkE_succ x args c hn]
  generalize stkE x args c k = st at *
  obtain ⟨h1, h2⟩ := hs
  have hc : foldW p act [] c = some [wt] := by
    unfold widthP at hw
    split at hw
    · cases hw
    · split at hw
      · rename_i w' hq; cases hw; exact hq
      · cases hw
  have htk : c.take (k + 1) = c.take k ++ [n] := by rw [List.take_add_one, hn]; rfl
  have hd : c = c.take (k + 1) ++ c.drop (k + 1) := (List.take_append_drop _ _).symm
  obtain ⟨s2, h3, -⟩ := foldW_some (c := c.take (k + 1)) (d := c.drop (k + 1)) (by rw [← hd]; exact hc)
  have h3' := h3
  rw [htk] at h3'
  obtain ⟨s1, h4, h5⟩ := foldW_some h3'
  rw [h1] at h4
  cases h4
  rw [foldW] at h5
  cases hq : stepW p act (st.map Prod.snd) n with
  | none => rw [hq] at h5; cases h5
  | some s3 =>
    rw [hq] at h5
    simp only [foldW, Option.some.injEq] at h5
    subst h5
    unfold StkOk
    rw [h3]
    unfold stepW at hq
    simp only at hq
    split at hq
    · rename_i hop
      split at hq
      · rename_i hp
        cases hq
        have e : stepE x args st n = (leafP x args n % 2 ^ sh n.w, n.w) :: st := by unfold stepE; rw [if_pos hop.2]
        rw [e]
        have hok : okP n.w = true := by rw [← hp.1]; exact hp.2
        refine ⟨.leaf st hop.1 hop.2 hp.1 hok, by simp [hp.1], fun e he => ?_⟩
        rcases List.mem_cons.1 he with rfl | he
        · exact ⟨mod_ltBB _ _, hok⟩
        · exact h2 e he
      · cases hq
    · rename_i hop
      split at hq
      · cases hq
      · split at hq
        · rename_i hun
          split at hq
          · cases hq
          · rename_i t r hst
            split at hq
            · rename_i hp
              cases hq
              match st, hst with
              | (a, j) :: st, hst =>
                simp only [List.map_cons, List.cons.injEq] at hst
                obtain ⟨rfl, rfl⟩ := hst
                have e : stepE x args ((a, j) :: st) n = (un1 n a % 2 ^ sh n.w, n.w) :: st := by unfold stepE; rw [if_neg (isUn_gt hun), if_pos hun]
                rw [e]
                have hok : okP n.w = true := by rw [← hp.1]; exact hp.2
                have ha := h2 (a, j) (by simp)
                refine ⟨.un a j st hun ha.1 ha.2 hp.1 hok, by simp [hp.1], fun e he => ?_⟩
                rcases List.mem_cons.1 he with rfl | he
                · exact ⟨mod_ltBB _ _, hok⟩
                · exact h2 e (by simp [he])
            · cases hq
        · rename_i hun
          split at hq
          · rename_i b a r hst
            split at hq
            · rename_i hp
              cases hq
              match st, hst with
              | (b', j) :: (a', i) :: st, hst =>
                simp only [List.map_cons, List.cons.injEq] at hst
                obtain ⟨rfl, rfl, rfl⟩ := hst
                have hok : okP n.w = true := by rw [← hp.1]; exact hp.2
                have hb := bin_op hp.1 hok
                have e : stepE x args ((b', j) :: (a', i) :: st) n = (bin2 n a' b' j % 2 ^ sh n.w, n.w) :: st := by unfold stepE; rw [if_neg (by omega), if_neg hun]
                rw [e]
                refine ⟨.bin a' i b' j st hun hb (h2 (a', i) (by simp)).1 (h2 (b', j) (by simp)).1, by simp [hp.1], fun e he => ?_⟩
                rcases List.mem_cons.1 he with rfl | he
                · exact ⟨mod_ltBB _ _, hok⟩
                · exact h2 e (by simp [he])
            · cases hq
          · cases hq
theorem stk_ok {p : Prg} {act : Int} {c : List Nod} {wt : Int} (x : Pkt) (args : List Nat) (hw : widthP p act c = some wt) : ∀ k, k ≤ c.length → StkOk p act c k (stkE x args c k)
  | 0, _ => ⟨by simp [stkE, foldW], by simp [stkE]⟩
  | k + 1, hk => (stk_step x args hw (List.getElem?_eq_getElem (by omega)) (stk_ok x args hw k (by omega))).2
theorem nstep_at {p : Prg} {act : Int} {c : List Nod} {wt : Int} (x : Pkt) (args : List Nat) (hw : widthP p act c = some wt) {k : Nat} {n : Nod} (hn : c[k]? = some n) : NStep p act x args n (stkE x args c k) (stkE x args c (k + 1)) :=
  (stk_step x args hw hn (stk_ok x args hw k (Nat.le_of_lt (List.getElem?_eq_some_iff.1 hn).1))).1
theorem stkE_len {p : Prg} {act : Int} {c : List Nod} {wt : Int} (x : Pkt) (args : List Nat) (hw : widthP p act c = some wt) : ∀ k, k ≤ c.length → (stkE x args c k).length ≤ k
  | 0, _ => by simp [stkE]
  | k + 1, hk => by
    have ih := stkE_len x args hw k (by omega)
    have h := nstep_at x args hw (List.getElem?_eq_getElem (show k < c.length by omega))
    generalize stkE x args c k = st at *
    generalize stkE x args c (k + 1) = st2 at *
    cases h <;> simp at ih ⊢ <;> omega
theorem stkE_end {p : Prg} {act : Int} {c : List Nod} {wt : Int} (x : Pkt) (args : List Nat) (hw : widthP p act c = some wt) : ∃ j, stkE x args c c.length = [(evC x args c, j)] := by
  obtain ⟨t, rfl, ht⟩ := tree_of hw
  refine ⟨t.root.w, ?_⟩
  unfold stkE
  rw [List.take_length, foldE_flat x args ht, evC_flat x args ht]
/-- Has one of the first k nodes made an invalid access? -/
def accK (x : Pkt) (c : List Nod) (k : Nat) : Bool := (c.take k).any (leafA x)
theorem accK_succ {x : Pkt} {c : List Nod} {k : Nat} {n : Nod} (hn : c[k]? = some n) : accK x c (k + 1) = (accK x c k || leafA x n) := by
  unfold accK; rw [List.take_add_one, hn]; simp
theorem accK_end (x : Pkt) (c : List Nod) : accK x c c.length = accC x c := by unfold accK accC; rw [List.take_length]

end Go.Proofs.Ytehcclcokgmplaa

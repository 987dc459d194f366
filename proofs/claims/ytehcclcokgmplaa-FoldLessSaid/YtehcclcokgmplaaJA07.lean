/-
  Lemmas, joined: WidE, WidG, Tree, MayC.
-/
import Derived.Test.YtehcclcokgmplaaJA06
import Derived.Test.YtehcclcokgmplaaJA02
import Derived.Test.YtehcclcokgmplaaJA03
import Derived.Test.YtehcclcokgmplaaJA01
import Derived.Deep.QuietTactic
import Derived.BigQuiet
/-
  Layer 10's code, walked: what a node does to the widths.
-/
namespace Go.Proofs.Ytehcclcokgmplaa
open Go.RowKit Go.Maps

theorem NBox.apart {w w' : World} {g m : Nat} {op k a b x y : Int} (h : NBox w g op k a b x y) (ha : Apart m w w') (hne : g ≠ m) : NBox w' g op k a b x y := (ha.1 g h.lt hne).trans h
/-- A node's width of one value, of two, as the code has it. -/
def oneP (n : Nod) (w : Int) : Int :=
  if n.op = 7 ∨ n.op = 8 then w
  else if n.op = 13 ∨ n.op = 14 then (if 0 ≤ n.a ∧ n.a ≤ 127 then w else 0)
  else (if n.b < 0 ∨ n.a < n.b ∨ w ≤ n.a then 0 else n.a - n.b + 1)
def twoP (n : Nod) (v w : Int) : Int :=
  if n.op = 10 then v + w else if 20 < n.op ∨ v ≠ w then 0 else if 18 ≤ n.op then 1 else w

set_option maxRecDepth 100000 in
set_option maxHeartbeats 6400000 in
theorem does_leaf (s : PgS) (p : Prg) (act : Int) (n : Nod) (w : World) (n0 m : Nat) (q0 : Bool) (st : List Int) (hp : PgOk w s p) (hv : n.v < B * B) (hop : n.op ≤ 6) (hs : WStk w n0 m q0 st) :
    Calls Try.prog 13 #[.pointer (some ⟨m, 0, none⟩), pgV s, .int .i64 act, ndV n] w fun e w' => e = .returned (.int .i64 (giveP p act n)) ∧ WStk w' n0 m q0 st ∧ Below n0 w w' ∧ Apart m w w' := by
  obtain ⟨op, k, a, b, v⟩ := n
  have HN0 : Hid (n0 ≤ w.heap.size) := by obtain ⟨v, h1, -, -, h4, -⟩ := hs; exact Nat.le_of_lt (Nat.lt_of_le_of_lt h4 (Array.getElem?_eq_some_iff.1 h1).1)
  have hml := hs.lt
  have HGI : Hid (∀ W, Below w.heap.size w W → Calls Try.prog 19 #[pgV s, .int .i64 act, ndV ⟨op, k, a, b, v⟩] W fun e w' => e = .returned (.int .i64 (giveP p act ⟨op, k, a, b, v⟩)) ∧ Below W.heap.size W w') := fun W h => given_any s p act ⟨op, k, a, b, v⟩ W (hp.below h) hv
  unfold pgV ndV at HGI
  dsimp only at HGI
  generalize giveP p act ⟨op, k, a, b, v⟩ = R at *
  clear hp hv
  unfold pgV ndV
  obtain ⟨x, y, e1, e3, e4⟩ := numV_parts v
  dsimp only at *
  rw [← e3, ← e4] at HGI ⊢
  clear e1 e3 e4
  go_enter Try.func13, Try.ntmps13
  go_upto_region 1 with fail
  obtain ⟨W0, hW0⟩ : ∃ W0, W0 = (w.alloc (.cells #[.slice s.hp s.hn s.hc, .slice s.mp s.mn s.mc, .slice s.sp s.sn s.sc, .slice s.ap s.an s.ac, .slice s.tp s.tn s.tc, .slice s.cp s.cn s.cc, .slice s.ep s.en s.ec, .slice s.v1 s.n1 s.c1, .slice s.v2 s.n2 s.c2, .slice s.v3 s.n3 s.c3, .slice s.v4 s.n4 s.c4, .slice s.v5 s.n5 s.c5] 33)).alloc (.cells #[.int .u8 op, .int .i64 k, .int .i64 a, .int .i64 b, .int .u64 (x : Int), .int .u64 (y : Int)] 61) := ⟨_, rfl⟩
  have HB0 : Hid (Below w.heap.size w W0) := by show Below _ _ _; rw [hW0]; exact (by repeat (first | exact Below.refl _ _ | assumption | refine Below.drew ?_ | refine Below.alloc ?_ (by first | omega | (simp <;> omega)) _ | refine Below.setCell ?_ (by first | omega | (simp <;> omega)) _ | refine Below.trans ?_ (Below.mono (by assumption) (by first | omega | (simp <;> omega)))))
  have HPB : Hid (PBox W0 w.heap.size s) := by show _ = _; rw [hW0, Below.heap_alloc _ _ _ (by simp)]; exact heap_new _ _
  have HNB : Hid (NBox W0 (w.heap.size + 1) op k a b x y) := by
    show _ = _
    rw [hW0]
    have := heap_new (w.alloc (.cells #[.slice s.hp s.hn s.hc, .slice s.mp s.mn s.mc, .slice s.sp s.sn s.sc, .slice s.ap s.an s.ac, .slice s.tp s.tn s.tc, .slice s.cp s.cn s.cc, .slice s.ep s.en s.ec, .slice s.v1 s.n1 s.c1, .slice s.v2 s.n2 s.c2, .slice s.v3 s.n3 s.c3, .slice s.v4 s.n4 s.c4, .slice s.v5 s.n5 s.c5] 33)) (.cells #[.int .u8 op, .int .i64 k, .int .i64 a, .int .i64 b, .int .u64 (x : Int), .int .u64 (y : Int)] 61)
    simp only [World.size_alloc] at this
    exact this
  have HS0 : Hid (WStk W0 n0 m q0 st) := hs.below HB0.out
  rw [← hW0]
  clear hW0 hs
  obtain ⟨q0', q1, q2, q3, q4, q5, q6, q7, q8, q9, q10, q11⟩ := HPB.out.cells
  obtain ⟨c0, c1, c2, c3, c4, c5⟩ := HNB.out.cells
  have hg : w.heap.size + 1 ≠ m := by omega
  generalize w.heap.size + 1 = G at *
  go_wp2_with (go_at_call 19; refine (HGI.out _ HB0.out).mono ?_; rintro e w2 ⟨rfl, hb2⟩)
  go_ret
  exact ⟨rfl, HS0.out.below hb2, (HB0.out.trans (hb2.mono HB0.out.size)).mono HN0.out, Apart.of_below (HB0.out.trans (hb2.mono HB0.out.size))⟩
set_option maxRecDepth 100000 in
set_option maxHeartbeats 6400000 in
theorem does_one (s : PgS) (_p : Prg) (act : Int) (n : Nod) (w : World) (n0 m : Nat) (q0 : Bool) (r : List Int) (t : Int) (hop : isUn n.op) (ht : 0 < t ∧ t < 129) (hs : WStk w n0 m q0 (r ++ [t])) :
    Calls Try.prog 13 #[.pointer (some ⟨m, 0, none⟩), pgV s, .int .i64 act, ndV n] w fun e w' => e = .returned (.int .i64 (oneP n t)) ∧ WStk w' n0 m q0 r ∧ Below n0 w w' ∧ Apart m w w' := by
  obtain ⟨op, k, a, b, v⟩ := n
  have HN0 : Hid (n0 ≤ w.heap.size) := by obtain ⟨v, h1, -, -, h4, -⟩ := hs; exact Nat.le_of_lt (Nat.lt_of_le_of_lt h4 (Array.getElem?_eq_some_iff.1 h1).1)
  have hml := hs.lt
  obtain ⟨R, hR⟩ : ∃ R, R = oneP ⟨op, k, a, b, v⟩ t := ⟨_, rfl⟩
  rw [← hR]
  have HR := Lib.hid hR
  clear hR
  unfold pgV ndV
  obtain ⟨x, y, e1, e3, e4⟩ := numV_parts v
  dsimp only at *
  rw [← e3, ← e4]
  clear e1 e3 e4
  go_enter Try.func13, Try.ntmps13
  go_upto_region 1 with fail
  obtain ⟨W0, hW0⟩ : ∃ W0, W0 = (w.alloc (.cells #[.slice s.hp s.hn s.hc, .slice s.mp s.mn s.mc, .slice s.sp s.sn s.sc, .slice s.ap s.an s.ac, .slice s.tp s.tn s.tc, .slice s.cp s.cn s.cc, .slice s.ep s.en s.ec, .slice s.v1 s.n1 s.c1, .slice s.v2 s.n2 s.c2, .slice s.v3 s.n3 s.c3, .slice s.v4 s.n4 s.c4, .slice s.v5 s.n5 s.c5] 33)).alloc (.cells #[.int .u8 op, .int .i64 k, .int .i64 a, .int .i64 b, .int .u64 (x : Int), .int .u64 (y : Int)] 61) := ⟨_, rfl⟩
  have HB0 : Hid (Below w.heap.size w W0) := by show Below _ _ _; rw [hW0]; exact (by repeat (first | exact Below.refl _ _ | assumption | refine Below.drew ?_ | refine Below.alloc ?_ (by first | omega | (simp <;> omega)) _ | refine Below.setCell ?_ (by first | omega | (simp <;> omega)) _ | refine Below.trans ?_ (Below.mono (by assumption) (by first | omega | (simp <;> omega)))))
  have HPB : Hid (PBox W0 w.heap.size s) := by show _ = _; rw [hW0, Below.heap_alloc _ _ _ (by simp)]; exact heap_new _ _
  have HNB : Hid (NBox W0 (w.heap.size + 1) op k a b x y) := by
    show _ = _
    rw [hW0]
    have := heap_new (w.alloc (.cells #[.slice s.hp s.hn s.hc, .slice s.mp s.mn s.mc, .slice s.sp s.sn s.sc, .slice s.ap s.an s.ac, .slice s.tp s.tn s.tc, .slice s.cp s.cn s.cc, .slice s.ep s.en s.ec, .slice s.v1 s.n1 s.c1, .slice s.v2 s.n2 s.c2, .slice s.v3 s.n3 s.c3, .slice s.v4 s.n4 s.c4, .slice s.v5 s.n5 s.c5] 33)) (.cells #[.int .u8 op, .int .i64 k, .int .i64 a, .int .i64 b, .int .u64 (x : Int), .int .u64 (y : Int)] 61)
    simp only [World.size_alloc] at this
    exact this
  have HS0 : Hid (WStk W0 n0 m q0 (r ++ [t])) := hs.below HB0.out
  rw [← hW0]
  clear hW0 hs
  obtain ⟨q0', q1, q2, q3, q4, q5, q6, q7, q8, q9, q10, q11⟩ := HPB.out.cells
  obtain ⟨c0, c1, c2, c3, c4, c5⟩ := HNB.out.cells
  have hg : w.heap.size + 1 ≠ m := by omega
  generalize w.heap.size + 1 = G at *
  have hops : op = 7 ∨ op = 8 ∨ op = 9 ∨ op = 13 ∨ op = 14 := hop
  clear hop
  rcases hops with rfl | rfl | rfl | rfl | rfl
  all_goals
    go_wp2_with (go_at_call 20; refine (wpop_any n0 m q0 r t _ HS0.out).mono ?_; rintro e w2 ⟨rfl, hs2, hb2, ha2⟩; have HS2 := Lib.hid hs2; have HNB2 := Lib.hid (HNB.out.apart ha2 hg); obtain ⟨m0, m1, m2, m3, m4, m5⟩ := HNB2.out.cells; have HB2 : Hid (Below n0 w w2) := (HB0.out.mono HN0.out).trans hb2; have HA2 : Hid (Apart m w w2) := (Apart.of_below HB0.out).trans ha2; clear hs2 hb2 ha2)
    all_goals
      go_ret
      refine ⟨congrArg (fun b => Ending.returned (.int .i64 b)) ?_, HS2.out, HB2.out, HA2.out⟩
      rw [HR.out]
      simp only [oneP]
      try simp
      try omega
set_option maxRecDepth 100000 in
set_option maxHeartbeats 6400000 in
theorem does_two (s : PgS) (_p : Prg) (act : Int) (n : Nod) (w : World) (n0 m : Nat) (q0 : Bool) (r : List Int) (u t : Int) (hop : 6 < n.op) (hnu : ¬ isUn n.op) (ht : 0 < t ∧ t < 129) (hu : 0 < u ∧ u < 129) (hs : WStk w n0 m q0 (r ++ [u] ++ [t])) :
    Calls Try.prog 13 #[.pointer (some ⟨m, 0, none⟩), pgV s, .int .i64 act, ndV n] w fun e w' => e = .returned (.int .i64 (twoP n u t)) ∧ WStk w' n0 m q0 r ∧ Below n0 w w' ∧ Apart m w w' := by
  obtain ⟨op, k, a, b, v⟩ := n
  have HN0 : Hid (n0 ≤ w.heap.size) := by obtain ⟨v, h1, -, -, h4, -⟩ := hs; exact Nat.le_of_lt (Nat.lt_of_le_of_lt h4 (Array.getElem?_eq_some_iff.1 h1).1)
  have hml := hs.lt
  obtain ⟨R, hR⟩ : ∃ R, R = twoP ⟨op, k, a, b, v⟩ u t := ⟨_, rfl⟩
  rw [← hR]
  have HR := Lib.hid hR
  clear hR
  unfold pgV ndV
  obtain ⟨x, y, e1, e3, e4⟩ := numV_parts v
  dsimp only at *
  rw [← e3, ← e4]
  clear e1 e3 e4
  go_enter Try.func13, Try.ntmps13
  go_upto_region 1 with fail
  obtain ⟨W0, hW0⟩ : ∃ W0, W0 = (w.alloc (.cells #[.slice s.hp s.hn s.hc, .slice s.mp s.mn s.mc, .slice s.sp s.sn s.sc, .slice s.ap s.an s.ac, .slice s.tp s.tn s.tc, .slice s.cp s.cn s.cc, .slice s.ep s.en s.ec, .slice s.v1 s.n1 s.c1, .slice s.v2 s.n2 s.c2, .slice s.v3 s.n3 s.c3, .slice s.v4 s.n4 s.c4, .slice s.v5 s.n5 s.c5] 33)).alloc (.cells #[.int .u8 op, .int .i64 k, .int .i64 a, .int .i64 b, .int .u64 (x : Int), .int .u64 (y : Int)] 61) := ⟨_, rfl⟩
  have HB0 : Hid (Below w.heap.size w W0) := by show Below _ _ _; rw [hW0]; exact (by repeat (first | exact Below.refl _ _ | assumption | refine Below.drew ?_ | refine Below.alloc ?_ (by first | omega | (simp <;> omega)) _ | refine Below.setCell ?_ (by first | omega | (simp <;> omega)) _ | refine Below.trans ?_ (Below.mono (by assumption) (by first | omega | (simp <;> omega)))))
  have HPB : Hid (PBox W0 w.heap.size s) := by show _ = _; rw [hW0, Below.heap_alloc _ _ _ (by simp)]; exact heap_new _ _
  have HNB : Hid (NBox W0 (w.heap.size + 1) op k a b x y) := by
    show _ = _
    rw [hW0]
    have := heap_new (w.alloc (.cells #[.slice s.hp s.hn s.hc, .slice s.mp s.mn s.mc, .slice s.sp s.sn s.sc, .slice s.ap s.an s.ac, .slice s.tp s.tn s.tc, .slice s.cp s.cn s.cc, .slice s.ep s.en s.ec, .slice s.v1 s.n1 s.c1, .slice s.v2 s.n2 s.c2, .slice s.v3 s.n3 s.c3, .slice s.v4 s.n4 s.c4, .slice s.v5 s.n5 s.c5] 33)) (.cells #[.int .u8 op, .int .i64 k, .int .i64 a, .int .i64 b, .int .u64 (x : Int), .int .u64 (y : Int)] 61)
    simp only [World.size_alloc] at this
    exact this
  have HS0 : Hid (WStk W0 n0 m q0 (r ++ [u] ++ [t])) := hs.below HB0.out
  rw [← hW0]
  clear hW0 hs
  obtain ⟨q0', q1, q2, q3, q4, q5, q6, q7, q8, q9, q10, q11⟩ := HPB.out.cells
  obtain ⟨c0, c1, c2, c3, c4, c5⟩ := HNB.out.cells
  have hg : w.heap.size + 1 ≠ m := by omega
  generalize w.heap.size + 1 = G at *
  have hops : ¬ op = 7 ∧ ¬ op = 8 ∧ ¬ op = 9 ∧ ¬ op = 13 ∧ ¬ op = 14 := ⟨fun h => hnu (.inl h), fun h => hnu (.inr (.inl h)), fun h => hnu (.inr (.inr (.inl h))), fun h => hnu (.inr (.inr (.inr (.inl h)))), fun h => hnu (.inr (.inr (.inr (.inr h))))⟩
  obtain ⟨o7, o8, o9, o13, o14⟩ := hops
  clear hnu
  have hut : u = t ∨ ¬ u = t := by omega
  go_wp2_with (first | (go_at_call 20; refine (wpop_any n0 m q0 (r ++ [u]) t _ HS0.out).mono ?_; rintro e w2 ⟨rfl, hs2, hb2, ha2⟩; have HS2 := Lib.hid hs2; have HNB2 := Lib.hid (HNB.out.apart ha2 hg); obtain ⟨m0, m1, m2, m3, m4, m5⟩ := HNB2.out.cells; have HB2 : Hid (Below n0 w w2) := (HB0.out.mono HN0.out).trans hb2; have HA2 : Hid (Apart m w w2) := (Apart.of_below HB0.out).trans ha2; clear hs2 hb2 ha2) | (go_at_call 20; refine (wpop_any n0 m q0 r u _ HS2.out).mono ?_; rintro e w3 ⟨rfl, hs3, hb3, ha3⟩; have HS3 := Lib.hid hs3; have HNB3 := Lib.hid (HNB2.out.apart ha3 hg); obtain ⟨k0, k1, k2, k3, k4, k5⟩ := HNB3.out.cells; have HB3 : Hid (Below n0 w w3) := HB2.out.trans hb3; have HA3 : Hid (Apart m w w3) := HA2.out.trans ha3; clear hs3 hb3 ha3))
  all_goals
    go_ret
    refine ⟨congrArg (fun b => Ending.returned (.int .i64 b)) ?_, HS3.out, HB3.out, HA3.out⟩
    rw [HR.out]
    try simp only [beq_iff_eq, beq_eq_false_iff_ne, bne_iff_ne, ne_eq, bne_eq_false_iff_eq] at *
    simp only [twoP]
    repeat' split
    all_goals first | rfl | omega
set_option maxRecDepth 100000 in
set_option maxHeartbeats 6400000 in
theorem does_nil (s : PgS) (_p : Prg) (act : Int) (n : Nod) (w : World) (n0 m : Nat) (q0 : Bool) (hop : 6 < n.op) (hs : WStk w n0 m q0 []) :
    Calls Try.prog 13 #[.pointer (some ⟨m, 0, none⟩), pgV s, .int .i64 act, ndV n] w fun e w' => ∃ z : Int, e = .returned (.int .i64 z) ∧ WStk w' n0 m true [] ∧ Below n0 w w' ∧ Apart m w w' := by
  obtain ⟨op, k, a, b, v⟩ := n
  have HN0 : Hid (n0 ≤ w.heap.size) := by obtain ⟨v, h1, -, -, h4, -⟩ := hs; exact Nat.le_of_lt (Nat.lt_of_le_of_lt h4 (Array.getElem?_eq_some_iff.1 h1).1)
  have hml := hs.lt
  unfold pgV ndV
  obtain ⟨x, y, e1, e3, e4⟩ := numV_parts v
  dsimp only at *
  rw [← e3, ← e4]
  clear e1 e3 e4
  go_enter Try.func13, Try.ntmps13
  go_upto_region 1 with fail
  obtain ⟨W0, hW0⟩ : ∃ W0, W0 = (w.alloc (.cells #[.slice s.hp s.hn s.hc, .slice s.mp s.mn s.mc, .slice s.sp s.sn s.sc, .slice s.ap s.an s.ac, .slice s.tp s.tn s.tc, .slice s.cp s.cn s.cc, .slice s.ep s.en s.ec, .slice s.v1 s.n1 s.c1, .slice s.v2 s.n2 s.c2, .slice s.v3 s.n3 s.c3, .slice s.v4 s.n4 s.c4, .slice s.v5 s.n5 s.c5] 33)).alloc (.cells #[.int .u8 op, .int .i64 k, .int .i64 a, .int .i64 b, .int .u64 (x : Int), .int .u64 (y : Int)] 61) := ⟨_, rfl⟩
  have HB0 : Hid (Below w.heap.size w W0) := by show Below _ _ _; rw [hW0]; exact (by repeat (first | exact Below.refl _ _ | assumption | refine Below.drew ?_ | refine Below.alloc ?_ (by first | omega | (simp <;> omega)) _ | refine Below.setCell ?_ (by first | omega | (simp <;> omega)) _ | refine Below.trans ?_ (Below.mono (by assumption) (by first | omega | (simp <;> omega)))))
  have HPB : Hid (PBox W0 w.heap.size s) := by show _ = _; rw [hW0, Below.heap_alloc _ _ _ (by simp)]; exact heap_new _ _
  have HNB : Hid (NBox W0 (w.heap.size + 1) op k a b x y) := by
    show _ = _
    rw [hW0]
    have := heap_new (w.alloc (.cells #[.slice s.hp s.hn s.hc, .slice s.mp s.mn s.mc, .slice s.sp s.sn s.sc, .slice s.ap s.an s.ac, .slice s.tp s.tn s.tc, .slice s.cp s.cn s.cc, .slice s.ep s.en s.ec, .slice s.v1 s.n1 s.c1, .slice s.v2 s.n2 s.c2, .slice s.v3 s.n3 s.c3, .slice s.v4 s.n4 s.c4, .slice s.v5 s.n5 s.c5] 33)) (.cells #[.int .u8 op, .int .i64 k, .int .i64 a, .int .i64 b, .int .u64 (x : Int), .int .u64 (y : Int)] 61)
    simp only [World.size_alloc] at this
    exact this
  have HS0 : Hid (WStk W0 n0 m q0 []) := hs.below HB0.out
  rw [← hW0]
  clear hW0 hs
  obtain ⟨q0', q1, q2, q3, q4, q5, q6, q7, q8, q9, q10, q11⟩ := HPB.out.cells
  obtain ⟨c0, c1, c2, c3, c4, c5⟩ := HNB.out.cells
  have hg : w.heap.size + 1 ≠ m := by omega
  generalize w.heap.size + 1 = G at *
  go_wp2_with (first | (go_at_call 20; refine (wpop_nil n0 m _ _ HS0.out).mono ?_; rintro e w2 ⟨rfl, hs2, hb2, ha2⟩; have HS2 := Lib.hid hs2; have HNB2 := Lib.hid (HNB.out.apart ha2 hg); obtain ⟨m0, m1, m2, m3, m4, m5⟩ := HNB2.out.cells; have HB2 : Hid (Below n0 w w2) := (HB0.out.mono HN0.out).trans hb2; have HA2 : Hid (Apart m w w2) := (Apart.of_below HB0.out).trans ha2; clear hs2 hb2 ha2) | (go_at_call 20; refine (wpop_nil n0 m _ _ HS2.out).mono ?_; rintro e w3 ⟨rfl, hs2, hb2, ha2⟩; have HS3 := Lib.hid hs2; have HNB3 := Lib.hid (HNB2.out.apart ha2 hg); obtain ⟨k0, k1, k2, k3, k4, k5⟩ := HNB3.out.cells; have HB3 : Hid (Below n0 w w3) := HB2.out.trans hb2; have HA3 : Hid (Apart m w w3) := HA2.out.trans ha2; clear hs2 hb2 ha2))
  all_goals
    go_ret
    first
      | exact ⟨⟨_, rfl⟩, HS3.out, HB3.out, HA3.out⟩
      | exact ⟨⟨_, rfl⟩, HS2.out, HB2.out, HA2.out⟩
      | exact ⟨_, rfl, HS3.out, HB3.out, HA3.out⟩
      | exact ⟨_, rfl, HS2.out, HB2.out, HA2.out⟩
set_option maxRecDepth 100000 in
set_option maxHeartbeats 6400000 in
theorem does_few (s : PgS) (_p : Prg) (act : Int) (n : Nod) (w : World) (n0 m : Nat) (q0 : Bool) (t : Int) (hnu : ¬ isUn n.op) (hop : 6 < n.op) (hs : WStk w n0 m q0 [t]) :
    Calls Try.prog 13 #[.pointer (some ⟨m, 0, none⟩), pgV s, .int .i64 act, ndV n] w fun e w' => ∃ z : Int, e = .returned (.int .i64 z) ∧ WStk w' n0 m true [] ∧ Below n0 w w' ∧ Apart m w w' := by
  obtain ⟨op, k, a, b, v⟩ := n
  have HN0 : Hid (n0 ≤ w.heap.size) := by obtain ⟨v, h1, -, -, h4, -⟩ := hs; exact Nat.le_of_lt (Nat.lt_of_le_of_lt h4 (Array.getElem?_eq_some_iff.1 h1).1)
  have hml := hs.lt
  have hops : ¬ op = 7 ∧ ¬ op = 8 ∧ ¬ op = 9 ∧ ¬ op = 13 ∧ ¬ op = 14 := ⟨fun h => hnu (.inl h), fun h => hnu (.inr (.inl h)), fun h => hnu (.inr (.inr (.inl h))), fun h => hnu (.inr (.inr (.inr (.inl h)))), fun h => hnu (.inr (.inr (.inr (.inr h))))⟩
  obtain ⟨o7, o8, o9, o13, o14⟩ := hops
  clear hnu
  unfold pgV ndV
  obtain ⟨x, y, e1, e3, e4⟩ := numV_parts v
  dsimp only at *
  rw [← e3, ← e4]
  clear e1 e3 e4
  go_enter Try.func13, Try.ntmps13
  go_upto_region 1 with fail
  obtain ⟨W0, hW0⟩ : ∃ W0, W0 = (w.alloc (.cells #[.slice s.hp s.hn s.hc, .slice s.mp s.mn s.mc, .slice s.sp s.sn s.sc, .slice s.ap s.an s.ac, .slice s.tp s.tn s.tc, .slice s.cp s.cn s.cc, .slice s.ep s.en s.ec, .slice s.v1 s.n1 s.c1, .slice s.v2 s.n2 s.c2, .slice s.v3 s.n3 s.c3, .slice s.v4 s.n4 s.c4, .slice s.v5 s.n5 s.c5] 33)).alloc (.cells #[.int .u8 op, .int .i64 k, .int .i64 a, .int .i64 b, .int .u64 (x : Int), .int .u64 (y : Int)] 61) := ⟨_, rfl⟩
  have HB0 : Hid (Below w.heap.size w W0) := by show Below _ _ _; rw [hW0]; exact (by repeat (first | exact Below.refl _ _ | assumption | refine Below.drew ?_ | refine Below.alloc ?_ (by first | omega | (simp <;> omega)) _ | refine Below.setCell ?_ (by first | omega | (simp <;> omega)) _ | refine Below.trans ?_ (Below.mono (by assumption) (by first | omega | (simp <;> omega)))))
  have HPB : Hid (PBox W0 w.heap.size s) := by show _ = _; rw [hW0, Below.heap_alloc _ _ _ (by simp)]; exact heap_new _ _
  have HNB : Hid (NBox W0 (w.heap.size + 1) op k a b x y) := by
    show _ = _
    rw [hW0]
    have := heap_new (w.alloc (.cells #[.slice s.hp s.hn s.hc, .slice s.mp s.mn s.mc, .slice s.sp s.sn s.sc, .slice s.ap s.an s.ac, .slice s.tp s.tn s.tc, .slice s.cp s.cn s.cc, .slice s.ep s.en s.ec, .slice s.v1 s.n1 s.c1, .slice s.v2 s.n2 s.c2, .slice s.v3 s.n3 s.c3, .slice s.v4 s.n4 s.c4, .slice s.v5 s.n5 s.c5] 33)) (.cells #[.int .u8 op, .int .i64 k, .int .i64 a, .int .i64 b, .int .u64 (x : Int), .int .u64 (y : Int)] 61)
    simp only [World.size_alloc] at this
    exact this
  have HS0 : Hid (WStk W0 n0 m q0 [t]) := hs.below HB0.out
  rw [← hW0]
  clear hW0 hs
  obtain ⟨q0', q1, q2, q3, q4, q5, q6, q7, q8, q9, q10, q11⟩ := HPB.out.cells
  obtain ⟨c0, c1, c2, c3, c4, c5⟩ := HNB.out.cells
  have hg : w.heap.size + 1 ≠ m := by omega
  generalize w.heap.size + 1 = G at *
  go_wp2_with (first | (go_at_call 20; refine (wpop_any n0 m q0 [] t _ HS0.out).mono ?_; rintro e w2 ⟨rfl, hs2, hb2, ha2⟩; have HS2 := Lib.hid hs2; have HNB2 := Lib.hid (HNB.out.apart ha2 hg); obtain ⟨m0, m1, m2, m3, m4, m5⟩ := HNB2.out.cells; have HB2 : Hid (Below n0 w w2) := (HB0.out.mono HN0.out).trans hb2; have HA2 : Hid (Apart m w w2) := (Apart.of_below HB0.out).trans ha2; clear hs2 hb2 ha2) | (go_at_call 20; refine (wpop_nil n0 m _ _ HS2.out).mono ?_; rintro e w3 ⟨rfl, hs2, hb2, ha2⟩; have HS3 := Lib.hid hs2; have HNB3 := Lib.hid (HNB2.out.apart ha2 hg); obtain ⟨k0, k1, k2, k3, k4, k5⟩ := HNB3.out.cells; have HB3 : Hid (Below n0 w w3) := HB2.out.trans hb2; have HA3 : Hid (Apart m w w3) := HA2.out.trans ha2; clear hs2 hb2 ha2))
  all_goals
    go_ret
    first
      | exact ⟨⟨_, rfl⟩, HS3.out, HB3.out, HA3.out⟩
      | exact ⟨⟨_, rfl⟩, HS2.out, HB2.out, HA2.out⟩
      | exact ⟨_, rfl, HS3.out, HB3.out, HA3.out⟩
      | exact ⟨_, rfl, HS2.out, HB2.out, HA2.out⟩

end Go.Proofs.Ytehcclcokgmplaa

/-
  Layer 10's code: a node's step on the widths is the document's.
-/
namespace Go.Proofs.Ytehcclcokgmplaa
open Go.RowKit Go.Maps

theorem wA {z k : Int} : (z = k ∧ okP z = true) ↔ (z = k ∧ okP k = true) := ⟨fun ⟨h, g⟩ => ⟨h, h ▸ g⟩, fun ⟨h, g⟩ => ⟨h, h.symm ▸ g⟩⟩
theorem w0 {k : Int} : (0 = k ∧ okP k = true) ↔ False := ⟨fun q => absurd (q.1 ▸ q.2 : okP 0 = true) (by decide), False.elim⟩
theorem wB {x k : Int} {c : Prop} [Decidable c] : ((if c then x else 0) = k ∧ okP k = true) ↔ (c ∧ x = k ∧ okP k = true) := by
  by_cases h : c
  · rw [if_pos h]; exact ⟨fun g => ⟨h, g⟩, fun g => g.2⟩
  · rw [if_neg h, w0]; exact ⟨False.elim, fun g => h g.1⟩
theorem wC {x k : Int} {c : Prop} [Decidable c] : ((if c then 0 else x) = k ∧ okP k = true) ↔ (¬ c ∧ x = k ∧ okP k = true) := by
  by_cases h : c
  · rw [if_pos h, w0]; exact ⟨False.elim, fun g => g.1 h⟩
  · rw [if_neg h]; exact ⟨fun g => ⟨h, g⟩, fun g => g.2⟩
theorem ofP_if {c : Prop} [Decidable c] (l : List Int) (b : Int) : ofP (if c then l else []) b = if c then ofP l b else 0 := by
  by_cases h : c
  · rw [if_pos h, if_pos h]
  · rw [if_neg h, if_neg h]; unfold ofP; rw [if_pos (by simp; omega)]
theorem put_if {z k : Int} {y : Int} {q : Prop} [Decidable q] {st : List Int} (h : (z = k ∧ okP k = true) ↔ ((y = k ∧ okP k = true) ∧ q)) : (if z = k ∧ okP z = true then some (z :: st) else none) = if y = k ∧ okP k = true ∧ q then some (k :: st) else none := by
  by_cases hq : z = k ∧ okP k = true
  · obtain ⟨⟨a, b⟩, c⟩ := h.1 hq
    rw [if_pos (wA.2 hq), if_pos ⟨a, b, c⟩, hq.1]
  · rw [if_neg (fun x => hq (wA.1 x)), if_neg (fun x => hq (h.2 ⟨⟨x.1, x.2.1⟩, x.2.2⟩))]
theorem step_leaf (p : Prg) (act : Int) (st : List Int) (d : Nod) (h : d.op ≤ 6) : stepW p act st d = if giveP p act d = d.w ∧ okP d.w = true ∧ askP d = true then some (d.w :: st) else none := by
  obtain ⟨op, k, a, b, v⟩ := d
  dsimp only at h
  by_cases h1 : 1 ≤ op
  · unfold stepW
    dsimp only
    rw [if_pos ⟨h1, h⟩]
    refine put_if ?_
    have hops : op = 1 ∨ op = 2 ∨ op = 3 ∨ op = 4 ∨ op = 5 ∨ op = 6 := by omega
    unfold plain0P giveP askP actParams
    dsimp only
    generalize p.heads.getD a.toNat [] = L1
    generalize (p.acts.getD act.toNat ⟨[], []⟩).params = L2
    rcases hops with rfl | rfl | rfl | rfl | rfl | rfl
    · rw [if_pos rfl, if_pos rfl, wB, wB]
      simp
      constructor <;> intro h <;> simp_all
    all_goals
      simp [ofP_if, wB, wC]
      try (constructor <;> intro h <;> simp_all)
  · have e : giveP p act ⟨op, k, a, b, v⟩ = 0 := by
      unfold giveP
      dsimp only
      repeat (rw [if_neg (by omega)])
    rw [e, if_neg (fun q : 0 = k ∧ okP k = true ∧ _ => w0.1 ⟨q.1, q.2.1⟩)]
    unfold stepW
    dsimp only
    rw [if_neg (fun q => h1 q.1)]
    split
    · rfl
    · rw [if_neg (by unfold isUn; omega)]
      split
      · have e2 : ∀ aa bb, pair0P ⟨op, k, a, b, v⟩ aa bb = 0 := by
          intro aa bb
          unfold pair0P
          dsimp only
          split
          · rfl
          · rw [if_neg (by omega)]
            split
            · rfl
            · rw [if_neg (by omega), if_neg (by omega)]
        rw [e2, if_neg (fun q : 0 = k ∧ okP 0 = true => by cases q.2)]
      · rfl
theorem step_one (p : Prg) (act : Int) (t : Int) (r : List Int) (d : Nod) (h : isUn d.op) (_ht : 0 < t ∧ t < 129) : stepW p act (t :: r) d = if oneP d t = d.w ∧ okP d.w = true ∧ askP d = true then some (d.w :: r) else none := by
  obtain ⟨op, k, a, b, v⟩ := d
  have hops : op = 7 ∨ op = 8 ∨ op = 9 ∨ op = 13 ∨ op = 14 := h
  unfold stepW
  dsimp only
  rw [if_neg (by omega)]
  by_cases hv : v = 0
  · subst hv
    rw [if_neg (by simp), if_pos h]
    refine put_if ?_
    rcases hops with rfl | rfl | rfl | rfl | rfl
    all_goals
      simp [single0P, oneP, askP, wB, wC]
      try (constructor <;> intro h <;> simp_all)
      try omega
  · rw [if_pos hv, if_neg (fun q => by
      have := q.2.2
      unfold askP at this
      simp at this
      rcases this.1 with e | e
      · omega
      · exact hv e)]
theorem step_two (p : Prg) (act : Int) (u t : Int) (r : List Int) (d : Nod) (h : 6 < d.op) (hu : ¬ isUn d.op) : stepW p act (t :: u :: r) d = if twoP d u t = d.w ∧ okP d.w = true ∧ askP d = true then some (d.w :: r) else none := by
  obtain ⟨op, k, a, b, v⟩ := d
  have hops : ¬ (op = 7 ∨ op = 8 ∨ op = 9 ∨ op = 13 ∨ op = 14) := hu
  dsimp only at h
  unfold stepW
  dsimp only
  rw [if_neg (by omega)]
  by_cases hv : v = 0
  · subst hv
    rw [if_neg (by simp), if_neg hu]
    refine put_if ?_
    have e : askP ⟨op, k, a, b, 0⟩ = true ↔ a = 0 ∧ b = 0 := by
      unfold askP
      simp
      omega
    rw [e]
    unfold pair0P twoP
    dsimp only
    rw [wC]
    by_cases h10 : op = 10
    · subst h10
      simp
      constructor <;> intro h <;> simp_all
    · rw [if_neg h10, if_neg h10]
      by_cases hut : u = t
      · subst hut
        rw [if_neg (by simp)]
        by_cases hg : 20 < op
        · rw [if_neg (by omega), if_neg (by omega), if_pos (.inl hg), w0]
          simp
        · have e3 : ¬ (20 < op ∨ u ≠ u) := by simp [hg]
          rw [if_neg e3]
          by_cases h18 : 18 ≤ op
          · rw [if_pos (by omega), if_pos h18]
            constructor <;> intro h <;> simp_all
          · rw [if_neg (by omega), if_neg h18, if_pos (by omega)]
            constructor <;> intro h <;> simp_all
      · rw [if_pos hut, if_pos (.inr hut), w0]
        simp
  · rw [if_pos hv, if_neg (fun q => by
      have := q.2.2
      unfold askP at this
      simp at this
      rcases this.1 with e | e
      · omega
      · exact hv e)]
theorem step_nil (p : Prg) (act : Int) (d : Nod) (h : 6 < d.op) : stepW p act [] d = none := by
  unfold stepW
  dsimp only
  rw [if_neg (by omega)]
  split
  · rfl
  · split <;> rfl
theorem step_few (p : Prg) (act : Int) (t : Int) (d : Nod) (h : 6 < d.op) (hu : ¬ isUn d.op) : stepW p act [t] d = none := by
  unfold stepW
  dsimp only
  rw [if_neg (by omega)]
  split
  · rfl
  · first
      | rfl
      | rw [if_neg hu]

theorem does_all (s : PgS) (p : Prg) (act : Int) (n : Nod) (n0 m : Nat) (st : List Int) (hv : n.v < B * B) (hst : ∀ x ∈ st, 0 < x ∧ x < 129) :
    (∃ z rr, stepW p act st n = (if z = n.w ∧ okP n.w = true ∧ askP n = true then some (n.w :: rr) else none) ∧ ∀ W, PgOk W s p → WStk W n0 m false st.reverse → Calls Try.prog 13 #[.pointer (some ⟨m, 0, none⟩), pgV s, .int .i64 act, ndV n] W fun e w' => e = .returned (.int .i64 z) ∧ WStk w' n0 m false rr.reverse ∧ Below n0 W w' ∧ Apart m W w')
    ∨ (stepW p act st n = none ∧ ∀ W, PgOk W s p → WStk W n0 m false st.reverse → Calls Try.prog 13 #[.pointer (some ⟨m, 0, none⟩), pgV s, .int .i64 act, ndV n] W fun e w' => ∃ z : Int, e = .returned (.int .i64 z) ∧ WStk w' n0 m true [] ∧ Below n0 W w' ∧ Apart m W w') := by
  by_cases h6 : n.op ≤ 6
  · exact .inl ⟨_, st, step_leaf p act st n h6, fun W hp hs => does_leaf s p act n W n0 m false _ hp hv h6 hs⟩
  · have h7 : 6 < n.op := by omega
    cases st with
    | nil => exact .inr ⟨step_nil p act n h7, fun W hp hs => does_nil s p act n W n0 m false h7 hs⟩
    | cons t r =>
      by_cases hu : isUn n.op
      · exact .inl ⟨_, r, step_one p act t r n hu (hst t (by simp)), fun W hp hs => does_one s p act n W n0 m false r.reverse t hu (hst t (by simp)) (by rwa [List.reverse_cons] at hs)⟩
      · cases r with
        | nil => exact .inr ⟨step_few p act t n h7 hu, fun W hp hs => does_few s p act n W n0 m false t hu h7 hs⟩
        | cons u r => exact .inl ⟨_, r, step_two p act u t r n h7 hu, fun W hp hs => does_two s p act n W n0 m false r.reverse u t h7 hu (hst t (by simp)) (hst u (by simp)) (by rwa [List.reverse_cons, List.reverse_cons] at hs)⟩

end Go.Proofs.Ytehcclcokgmplaa

/-
  Typed code is a tree laid flat: the tree's value; the stack machine's; scanning backwards.
-/
namespace Go.Proofs.Ytehcclcokgmplaa

/-- A packet. -/
structure Pkt where
  port : Int
  rest : List Int
  valid : List Bool
  fields : List (List Nat)
  metas : List Nat
  dropped : Bool
  sent : Bool
  egress : Int
  access : Bool

inductive Tr
  | leaf (n : Nod)
  | un (n : Nod) (t : Tr)
  | bin (n : Nod) (a b : Tr)
def Tr.flat : Tr → List Nod
  | .leaf n => [n]
  | .un n t => t.flat ++ [n]
  | .bin n a b => a.flat ++ b.flat ++ [n]
def Tr.root : Tr → Nod
  | .leaf n => n
  | .un n _ => n
  | .bin n _ _ => n
/-- How many numbers a node asks. -/
def asksP (op : Int) : Nat := if op ≤ 6 then 0 else if op ≤ 9 ∨ op = 13 ∨ op = 14 then 1 else 2
/-- A typed tree. -/
inductive WTr (p : Prg) (act : Int) : Tr → Int → Prop
  | leaf (n : Nod) : 1 ≤ n.op → n.op ≤ 6 → plain0P p act n = n.w → okP n.w = true → WTr p act (.leaf n) n.w
  | un (n : Nod) (t : Tr) (w : Int) : isUn n.op → WTr p act t w → n.v = 0 → single0P n w = n.w → okP n.w = true → WTr p act (.un n t) n.w
  | bin (n : Nod) (a b : Tr) (wa wb : Int) : ¬ (1 ≤ n.op ∧ n.op ≤ 6) → ¬ isUn n.op → WTr p act a wa → WTr p act b wb → n.v = 0 → pair0P n wa wb = n.w → okP n.w = true → WTr p act (.bin n a b) n.w
theorem WTr.root {p : Prg} {act : Int} {t : Tr} {w : Int} (h : WTr p act t w) : t.root.w = w ∧ okP w = true := by
  cases h <;> exact ⟨rfl, by assumption⟩
theorem okP_iff {w : Int} : okP w = true ↔ 0 < w ∧ w < 129 := by unfold okP; simp
theorem Tr.flat_ne (t : Tr) : 0 < t.flat.length := by cases t <;> simp [Tr.flat] <;> omega
/-- A node that asks two is one of the eleven. -/
theorem bin_op {n : Nod} {a b : Int} (h : pair0P n a b = n.w) (hok : okP n.w = true) : n.op = 10 ∨ (11 ≤ n.op ∧ n.op ≤ 17) ∨ n.op = 18 ∨ n.op = 19 ∨ n.op = 20 := by
  rw [okP_iff] at hok
  unfold pair0P at h
  split at h
  · omega
  · split at h
    · omega
    · split at h
      · omega
      · split at h
        · omega
        · split at h
          · omega
          · omega

theorem foldW_app (p : Prg) (act : Int) : ∀ (c d : List Nod) (st : List Int), foldW p act st (c ++ d) = (foldW p act st c).bind fun s => foldW p act s d
  | [], d, st => rfl
  | n :: c, d, st => by
    rw [List.cons_append, foldW, foldW]
    cases stepW p act st n with
    | none => rfl
    | some s => exact foldW_app p act c d s

/-- Code that leaves these widths is typed trees laid flat, one behind the other. -/
theorem trees_of {p : Prg} {act : Int} : ∀ (k : Nat) (c : List Nod) (st : List Int), c.length = k → foldW p act [] c = some st → ∃ ts : List Tr, c = (ts.reverse.map Tr.flat).flatten ∧ ts.length = st.length ∧ ∀ (j : Nat) (t : Tr) (w : Int), ts[j]? = some t → st[j]? = some w → WTr p act t w := by
  intro k
  induction k with
  | zero =>
    intro c st hc h
    obtain rfl := List.length_eq_zero_iff.1 hc
    simp only [foldW, Option.some.injEq] at h
    subst h
    exact ⟨[], rfl, rfl, fun j t w h => by simp at h⟩
  | succ k ih =>
    intro c st hc h
    obtain ⟨c', n, rfl⟩ : ∃ c' n, c = c' ++ [n] := ⟨c.dropLast, c.getLast (by intro e; rw [e] at hc; cases hc), (List.dropLast_concat_getLast _).symm⟩
    rw [foldW_app] at h
    cases hq : foldW p act [] c' with
    | none => rw [hq] at h; cases h
    | some s =>
      rw [hq, Option.bind_some, foldW] at h
      cases hs : stepW p act s n with
      | none => rw [hs] at h; cases h
      | some s2 =>
        rw [hs] at h
        simp only [foldW, Option.some.injEq] at h
        subst h
        obtain ⟨ts, e1, e2, e3⟩ := ih c' s (by simpa using hc) hq
        unfold stepW at hs
        simp only at hs
        split at hs
        · rename_i hop
          split at hs
          · rename_i hw
            cases hs
            refine ⟨.leaf n :: ts, by rw [e1]; simp [Tr.flat], by simp [e2], fun j t w hj hw2 => ?_⟩
            cases j with
            | zero =>
              simp only [List.getElem?_cons_zero, Option.some.injEq] at hj hw2
              subst hj hw2
              rw [hw.1]
              exact .leaf n hop.1 hop.2 hw.1 (by rw [← hw.1]; exact hw.2)
            | succ j => exact e3 j t w (by simpa using hj) (by simpa using hw2)
          · cases hs
        · rename_i hop
          split at hs
          · cases hs
          · rename_i hv
            have hv0 : n.v = 0 := by omega
            split at hs
            · rename_i hun
              split at hs
              · cases hs
              · rename_i t r
                split at hs
                · rename_i hw
                  cases hs
                  match ts, e2 with
                  | tt :: tr, e2 =>
                    have h0 := e3 0 tt t rfl rfl
                    refine ⟨.un n tt :: tr, by rw [e1]; simp [Tr.flat], by simpa using e2, fun j x w hj hw2 => ?_⟩
                    cases j with
                    | zero =>
                      simp only [List.getElem?_cons_zero, Option.some.injEq] at hj hw2
                      subst hj hw2
                      rw [hw.1]
                      exact .un n tt t hun h0 hv0 hw.1 (by rw [← hw.1]; exact hw.2)
                    | succ j => exact e3 (j + 1) x w (by simpa using hj) (by simpa using hw2)
                · cases hs
            · rename_i hun
              split at hs
              · rename_i b a r
                split at hs
                · rename_i hw
                  cases hs
                  match ts, e2 with
                  | tb :: ta :: tr, e2 =>
                    have h0 := e3 0 tb b rfl rfl
                    have h1 := e3 1 ta a rfl rfl
                    refine ⟨.bin n ta tb :: tr, by rw [e1]; simp [Tr.flat], by simpa using e2, fun j x w hj hw2 => ?_⟩
                    cases j with
                    | zero =>
                      simp only [List.getElem?_cons_zero, Option.some.injEq] at hj hw2
                      subst hj hw2
                      rw [hw.1]
                      exact .bin n ta tb a b hop hun h1 h0 hv0 hw.1 (by rw [← hw.1]; exact hw.2)
                    | succ j => exact e3 (j + 2) x w (by simpa using hj) (by simpa using hw2)
                · cases hs
              · cases hs
/-- Code that has a width is a typed tree laid flat. -/
theorem tree_of {p : Prg} {act : Int} {c : List Nod} {w : Int} (h : widthP p act c = some w) : ∃ t : Tr, c = t.flat ∧ WTr p act t w := by
  unfold widthP at h
  split at h
  · cases h
  · split at h
    · rename_i w' hq
      cases h
      obtain ⟨ts, e1, e2, e3⟩ := trees_of _ c [w] rfl hq
      match ts, e2 with
      | [t], _ => exact ⟨t, by rw [e1]; simp, e3 0 t w rfl rfl⟩
    · cases h

theorem asks_leaf {n : Nod} (h : n.op ≤ 6) : asksP n.op = 0 := by unfold asksP; rw [if_pos h]
theorem asks_un {n : Nod} (h : isUn n.op) : asksP n.op = 1 := by
  unfold isUn at h; unfold asksP; rw [if_neg (by omega), if_pos (by omega)]
theorem asks_bin {n : Nod} (h : n.op = 10 ∨ (11 ≤ n.op ∧ n.op ≤ 17) ∨ n.op = 18 ∨ n.op = 19 ∨ n.op = 20) (hu : ¬ isUn n.op) : asksP n.op = 2 := by
  unfold isUn at hu; unfold asksP; rw [if_neg (by omega), if_neg (by omega)]
end Go.Proofs.Ytehcclcokgmplaa

/-
  Layer 10's document, walked: a code's width.
-/
namespace Go.Proofs.Ytehcclcokgmplaa
open Go.RowKit

theorem foldW_snoc {p : Prg} {act : Int} {c : List Nod} {k : Nat} {d : Nod} (h : c[k]? = some d) : foldW p act [] (c.take (k + 1)) = (foldW p act [] (c.take k)).bind fun st => stepW p act st d := by
  rw [List.take_add_one, h, foldW_app]
  congr 1
  funext st
  show foldW p act st [d] = _
  rw [foldW]
  cases stepW p act st d <;> rfl
theorem foldW_none {p : Prg} {act : Int} {c : List Nod} {k : Nat} (h : foldW p act [] (c.take k) = none) : widthP p act c = none := by
  have : foldW p act [] c = none := by
    have e := foldW_app p act (c.take k) (c.drop k) []
    rw [List.take_append_drop, h] at e
    exact e
  unfold widthP
  rw [this]
  split <;> rfl
theorem stepW_ok {p : Prg} {act : Int} {st st' : List Int} {d : Nod} (h : stepW p act st d = some st') (hs : ∀ x ∈ st, 0 < x ∧ x < 129) : (∀ x ∈ st', 0 < x ∧ x < 129) ∧ st'.length ≤ st.length + 1 := by
  have key : ∀ (w : Int) (r : List Int), (∀ x ∈ r, x ∈ st) → r.length ≤ st.length → (if w = d.w ∧ okP w = true then some (w :: r) else none) = some st' → (∀ x ∈ st', 0 < x ∧ x < 129) ∧ st'.length ≤ st.length + 1 := by
    intro w r h1 h2 h3
    split at h3
    · rename_i hc
      cases h3
      refine ⟨fun x hx => ?_, by simp; omega⟩
      rcases List.mem_cons.1 hx with rfl | hx
      · exact okP_iff.1 hc.2
      · exact hs x (h1 x hx)
    · cases h3
  unfold stepW at h
  dsimp only at h
  split at h
  · exact key _ _ (fun x hx => hx) (Nat.le_refl _) h
  · split at h
    · cases h
    · split at h
      · split at h
        · cases h
        · exact key _ _ (fun x hx => List.mem_cons_of_mem _ hx) (by simp) h
      · split at h
        · exact key _ _ (fun x hx => List.mem_cons_of_mem _ (List.mem_cons_of_mem _ hx)) (by simp; omega) h
        · cases h
theorem foldW_ok {p : Prg} {act : Int} {c : List Nod} : ∀ {k : Nat} {st : List Int}, foldW p act [] (c.take k) = some st → (∀ x ∈ st, 0 < x ∧ x < 129) ∧ st.length ≤ k
  | 0, st, h => by
    simp only [List.take_zero, foldW, Option.some.injEq] at h
    subst h
    exact ⟨fun x hx => by simp at hx, Nat.le_refl _⟩
  | k + 1, st, h => by
    by_cases hk : k < c.length
    · rw [foldW_snoc (List.getElem?_eq_getElem hk)] at h
      cases h1 : foldW p act [] (c.take k) with
      | none => rw [h1] at h; cases h
      | some s1 =>
        rw [h1] at h
        obtain ⟨a1, a2⟩ := foldW_ok h1
        obtain ⟨b1, b2⟩ := stepW_ok h a1
        exact ⟨b1, by omega⟩
    · rw [List.take_of_length_le (by omega)] at h
      have h' : foldW p act [] (c.take k) = some st := by rw [List.take_of_length_le (by omega)]; exact h
      obtain ⟨a1, a2⟩ := foldW_ok h'
      exact ⟨a1, by omega⟩

/-- What Width hands back. -/
def wRes : Option Int → Value
  | some x => .tuple #[.int .i64 x, .bool true]
  | none => .tuple #[.int .i64 0, .bool false]

def lastW : List Int → Option Int
  | [x] => some x
  | _ => none
theorem width_last {p : Prg} {act : Int} {c : List Nod} {st : List Int} (hl : c.length ≤ 6000) (h : foldW p act [] c = some st) : widthP p act c = lastW st := by
  unfold widthP
  rw [if_neg (by omega), h]
  cases st with
  | nil => rfl
  | cons a st => cases st <;> rfl

end Go.Proofs.Ytehcclcokgmplaa

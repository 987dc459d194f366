/-
  Lemmas, joined: Live, RefB, Zip, Pairs.
-/
import Derived.Test.YtlnkflmnjkmhkaaJR04
import Derived.Test.YtlnkflmnjkmhkaaJR01
/-
  The contracts of the store's methods at a store that is there, by their plain laws.
-/
namespace Go.Proofs.Ytlnkflmnjkmhkaa
open Go.RowKit Go.Maps

def notF (s : BS) (a : Int) : BS × Int := iteF s a 0 1
def andF (s : BS) (a b : Int) : BS × Int := iteF s a b 0
def orF (s : BS) (a b : Int) : BS × Int := iteF s a 1 b
def xorF (s : BS) (a b : Int) : BS × Int := iteF (notF s b).1 a (notF s b).2 b

/-- How a call ends that hands back an integer and turns the store. -/
def RetS (b : Nat) (O : Nat → Prop) (w : World) (r : BS × Int) (e : Ending) (w' : World) : Prop := e = .returned (.int .i64 r.2) ∧ ToSto b O w r.1 w'

theorem Sto.kept {w w' : World} {b : Nat} {O : Nat → Prop} {s : BS} (h : Sto w b O s) (hk : ∀ k, O k → w'.heap[k]? = w.heap[k]?) : Sto w' b O s := by
  obtain ⟨t, h1, h2, h3⟩ := h
  exact ⟨t, h1.kept hk, h2, h3⟩
theorem Sto.lt {w : World} {b : Nat} {O : Nat → Prop} {s : BS} (h : Sto w b O s) : ∀ k, O k → k < w.heap.size := by
  obtain ⟨t, h1, h2, h3⟩ := h
  exact h1.lt
theorem Sto.len {w : World} {b : Nat} {O : Nat → Prop} {s : BS} (h : Sto w b O s) : s.nodes.length ≤ 1048576 := by
  obtain ⟨t, h1, h2, h3⟩ := h
  exact h1.len
theorem ToSto.pre {b : Nat} {O O' : Nat → Prop} {w w1 w' : World} {s : BS} (h : ToSto b O' w1 s w') (he : Ext O O' w w1) : ToSto b O w s w' := by
  obtain ⟨O'', h1, h2⟩ := h
  exact ⟨O'', h1, he.trans h2⟩
theorem ToSto.below {b : Nat} {O : Nat → Prop} {w w1 w' : World} {s : BS} (h : ToSto b O w s w1) (hb : Below w1.heap.size w1 w') : ToSto b O w s w' := by
  obtain ⟨O'', h1, h2⟩ := h
  exact ⟨O'', h1.below hb, h2.trans (Ext.of_below hb)⟩

set_option maxRecDepth 100000 in
set_option maxHeartbeats 400000 in
theorem not_sto (b : Nat) (O : Nat → Prop) (s : BS) (a : Int) (w : World) (hs : Sto w b O s) :
    Calls Try.prog 85 #[.pointer (some ⟨b, 0, none⟩), .int .i64 a] w (RetS b O w (notF s a)) := by
  have HM := Lib.hid (ite_sto b O s a 0 1 w hs)
  clear hs
  go_enter Try.func85, Try.ntmps85
  go_wp2_with fail
  refine HM.out.mono ?_
  rintro e w1 ⟨rfl, h⟩
  have H := Lib.hid h
  clear h
  go_wp2_with fail
  go_ret
  exact ⟨rfl, H.out⟩

set_option maxRecDepth 100000 in
set_option maxHeartbeats 400000 in
theorem and_sto (b : Nat) (O : Nat → Prop) (s : BS) (a d : Int) (w : World) (hs : Sto w b O s) :
    Calls Try.prog 82 #[.pointer (some ⟨b, 0, none⟩), .int .i64 a, .int .i64 d] w (RetS b O w (andF s a d)) := by
  have HM := Lib.hid (ite_sto b O s a d 0 w hs)
  clear hs
  go_enter Try.func82, Try.ntmps82
  go_wp2_with fail
  refine HM.out.mono ?_
  rintro e w1 ⟨rfl, h⟩
  have H := Lib.hid h
  clear h
  go_wp2_with fail
  go_ret
  exact ⟨rfl, H.out⟩

set_option maxRecDepth 100000 in
set_option maxHeartbeats 400000 in
theorem or_sto (b : Nat) (O : Nat → Prop) (s : BS) (a d : Int) (w : World) (hs : Sto w b O s) :
    Calls Try.prog 83 #[.pointer (some ⟨b, 0, none⟩), .int .i64 a, .int .i64 d] w (RetS b O w (orF s a d)) := by
  have HM := Lib.hid (ite_sto b O s a 1 d w hs)
  clear hs
  go_enter Try.func83, Try.ntmps83
  go_wp2_with fail
  refine HM.out.mono ?_
  rintro e w1 ⟨rfl, h⟩
  have H := Lib.hid h
  clear h
  go_wp2_with fail
  go_ret
  exact ⟨rfl, H.out⟩

set_option maxRecDepth 100000 in
set_option maxHeartbeats 400000 in
theorem xor_sto (b : Nat) (O : Nat → Prop) (s : BS) (a d : Int) (w : World) (hs : Sto w b O s) :
    Calls Try.prog 84 #[.pointer (some ⟨b, 0, none⟩), .int .i64 a, .int .i64 d] w (RetS b O w (xorF s a d)) := by
  have HN := Lib.hid (not_sto b O s d w hs)
  have HM : Hid (∀ O' W, Sto W b O' (notF s d).1 → Calls Try.prog 87 #[.pointer (some ⟨b, 0, none⟩), .int .i64 a, .int .i64 (notF s d).2, .int .i64 d] W (RetS b O' W (xorF s a d))) := fun O' W h => ite_sto b O' _ a _ d W h
  clear hs
  generalize notF s d = nd at *
  go_enter Try.func84, Try.ntmps84
  go_wp2_with fail
  refine HN.out.mono ?_
  rintro e w1 ⟨rfl, O1, h1, h2⟩
  have H1 := Lib.hid h1
  have H2 := Lib.hid h2
  clear h1 h2
  go_wp2_with fail
  refine (HM.out O1 _ H1.out).mono ?_
  rintro e w2 ⟨rfl, h⟩
  have H : Hid (ToSto b O w (xorF s a d).1 w2) := h.pre H2.out
  clear h
  go_wp2_with fail
  go_ret
  exact ⟨rfl, H.out⟩

theorem var_sto (b : Nat) (O : Nat → Prop) (s : BS) (v : Int) (w : World) (hs : Sto w b O s) :
    Calls Try.prog 10 #[.pointer (some ⟨b, 0, none⟩), .int .i64 v] w (RetS b O w (varF s v)) := by
  obtain ⟨told, hI, ho, hT⟩ := hs
  refine (var_any b O s told v w hI).mono ?_
  rintro e w' ⟨h0, O', s', t', h1, h2, rfl, rfl⟩
  have key : Ord (varF s v).1.nodes ∧ ToldOk (varF s v).1.nodes t' := by
    unfold varF
    split
    · exact ⟨ho, hT⟩
    · rename_i hn
      have hv0 : 0 ≤ v := by omega
      have hv1 : v < 64 := by omega
      have h01 : Is s.nodes 0 ∧ Is s.nodes 1 := ⟨by unfold Is; omega, by unfold Is; omega⟩
      have t0 : topP s.nodes 0 = 64 := by unfold topP; simp
      have t1 : topP s.nodes 1 = 64 := by unfold topP; simp
      obtain ⟨⟨m, hm⟩, g2, -, -⟩ := node1_ok (t := ⟨v, 0, 1⟩) ho ⟨hv0, hv1⟩ h01.1 h01.2 (by show v < topP s.nodes 0; omega) (by show v < topP s.nodes 1; omega)
      refine ⟨g2, ?_⟩
      show ToldOk (node1 s ⟨v, 0, 1⟩).1.nodes t'
      rw [hm]
      exact hT.mono ho
  exact ⟨h0, O', ⟨t', h1, key.1, key.2⟩, h2⟩

set_option maxRecDepth 100000 in
set_option maxHeartbeats 400000 in
theorem full_sto (b : Nat) (O : Nat → Prop) (s : BS) (w : World) (hs : Sto w b O s) :
    Calls Try.prog 16 #[.pointer (some ⟨b, 0, none⟩)] w fun e w' => e = .returned (.bool s.full) ∧ w = w' := by
  obtain ⟨told, ⟨vn, m1, m2, c0, c1, c2, c3, c4, fz, own, hm12, hnb, hm1, hm2, hO, hcp1, hcp2, -⟩, -, -⟩ := hs
  clear c1 c2 c3 fz own hm12 hnb hm1 hm2 hO
  have hcap : ((s.cap : Int) == 0) = false := by rw [beq_eq_false_iff_ne]; omega
  cases hf : s.full
  all_goals
    rw [hf] at c4
    clear hf
    go_enter Try.func16, Try.ntmps16
    go_wp2
    go_ret
    exact ⟨rfl, rfl⟩

/-- A slice without an address has no room. -/
def NilOk (v : Value) : Prop := ∀ n c, v = .slice none n c → c = 0
theorem NilOk.some (a : Addr) (n c : Nat) : NilOk (.slice (some a) n c) := fun _ _ h => by cases h
theorem NilOk.nil : NilOk (.slice none 0 0) := fun _ _ h => by cases h; rfl
/-- A vector that reads as xs, beside the blocks O. -/
def IVecX (w : World) (O : Nat → Prop) (v : Value) (xs : List Int) : Prop := IVec w v xs ∧ (∀ k, v.ownBlock = some k → 0 < xs.length → ¬ O k) ∧ NilOk v

theorem IVecX.ext {w w' : World} {O O' : Nat → Prop} {v : Value} {xs : List Int} (h : IVecX w O v xs) (he : Ext O O' w w') : IVecX w' O' v xs := by
  obtain ⟨⟨pa, cap, h1, h2, h3, h4⟩, h5, h6⟩ := h
  subst h1
  by_cases h0 : 0 < xs.length
  · obtain ⟨b, off, e, hlt, hc⟩ := h4 h0
    subst e
    have hb := h5 b rfl h0
    refine ⟨⟨_, cap, rfl, h2, h3, fun _ => ⟨b, off, rfl, Nat.lt_of_lt_of_le hlt he.1.size, fun i hi => ?_⟩⟩, fun k hk _ => ?_, h6⟩
    · rw [(he.cell (p := ⟨b, off + i, none⟩) hlt hb).1]
      exact hc i hi
    · cases hk
      exact (he.cell (p := ⟨b, off, none⟩) hlt hb).2.2
  · exact ⟨⟨pa, cap, rfl, h2, h3, fun h => absurd h h0⟩, fun k hk h => absurd h h0, h6⟩

theorem IVecX.below {w w' : World} {O : Nat → Prop} {v : Value} {xs : List Int} (h : IVecX w O v xs) (hb : Below w.heap.size w w') : IVecX w' O v xs := h.ext (Ext.of_below hb)

theorem Ext.grown {O O' : Nat → Prop} {w w1 w2 : World} {row : Option Nat} (h : Ext O O' w w1) (hg : w1.grownBy w2 row) (hr : ∀ g, row = some g → w.heap.size ≤ g) : Ext O O' w w2 :=
  ⟨⟨hg.os.trans h.1.os, hg.tape.trans h.1.tape, hg.output.trans h.1.output, Nat.le_trans h.1.size hg.size, fun k hk hO => (hg.block k (Nat.lt_of_lt_of_le hk h.1.size) (fun e => by have := hr k e.symm; omega)).trans (h.1.block k hk hO)⟩, h.2⟩
theorem Ext.alloc {O O' : Nat → Prop} {w w1 : World} (h : Ext O O' w w1) (o : Obj) : Ext O O' w (w1.alloc o) := by
  have := h.trans (Ext.of_below ((Below.refl w1.heap.size w1).alloc (Nat.le_refl _) o))
  exact this

end Go.Proofs.Ytlnkflmnjkmhkaa

/-
  The reference's store of diagrams in memory; contracts of its small methods.
-/
namespace Go.Proofs.Ytlnkflmnjkmhkaa
open Go.RowKit Go.Maps

/-- At block b lies a store of the reference's, whose blocks are O. -/
def IsRef (w : World) (b : Nat) (O : Nat → Prop) (s : BS) : Prop :=
  ∃ v, w.cell? ⟨b, 0, none⟩ = some (.int .i64 (s.cap : Int)) ∧ w.cell? ⟨b, 1, none⟩ = some v ∧ w.cell? ⟨b, 2, none⟩ = some (.bool s.full) ∧ (∀ j, w.frozen? ⟨b, j, none⟩ = false) ∧
    w.ownsRow 0 149 3 v s.nodes.length (flat3 s.nodes) ∧ v.ownBlock ≠ some b ∧ (∀ k, O k ↔ k = b ∨ v.ownBlock = some k) ∧ s.cap ≤ 1048576 ∧ s.nodes.length ≤ s.cap ∧ ∀ t ∈ s.nodes, t.wf

variable {w w' : World} {b : Nat} {O : Nat → Prop} {s : BS}

theorem IsRef.lt (h : IsRef w b O s) : ∀ k, O k → k < w.heap.size := by
  obtain ⟨v, c0, c1, c2, f, own, hnb, hO, -⟩ := h
  intro k hk
  rcases (hO k).1 hk with rfl | h
  · exact (cell_there c0).1
  · exact (own.lt k h).2
theorem IsRef.kept (h : IsRef w b O s) (hk : ∀ k, O k → w'.heap[k]? = w.heap[k]?) : IsRef w' b O s := by
  obtain ⟨v, c0, c1, c2, f, own, hnb, hO, rest⟩ := h
  have hb : w'.heap[b]? = w.heap[b]? := hk b ((hO b).2 (.inl rfl))
  have e : ∀ j, w'.cell? ⟨b, j, none⟩ = w.cell? ⟨b, j, none⟩ := fun j => World.cell?_of_block hb
  refine ⟨v, (e 0).trans c0, (e 1).trans c1, (e 2).trans c2, fun j => (World.frozen?_of_block (a := ⟨b, j, none⟩) hb).trans (f j), ?_, hnb, hO, rest⟩
  obtain ⟨hl, h⟩ := own
  refine ⟨hl, ?_⟩
  rcases h with h | ⟨g, cap, cur, h1, h2, h3, h4⟩
  · exact .inl h
  · exact .inr ⟨g, cap, cur, h1, h2, (hk g ((hO g).2 (.inr (by rw [h1]; rfl)))).trans h3, h4⟩
theorem IsRef.below (h : IsRef w b O s) (hb : Below w.heap.size w w') : IsRef w' b O s := h.kept fun k hk => hb.block k (h.lt k hk)
theorem IsRef.len (h : IsRef w b O s) : s.nodes.length ≤ 1048576 ∧ s.nodes.length ≤ s.cap ∧ s.cap ≤ 1048576 := by
  obtain ⟨v, c0, c1, c2, f, own, hnb, hO, h1, h2, -⟩ := h
  omega
theorem IsRef.hasB (h : IsRef w b O s) : O b := by
  obtain ⟨v, c0, c1, c2, f, own, hnb, hO, -⟩ := h
  exact (hO b).2 (.inl rfl)
theorem IsRef.node (h : IsRef w b O s) (k : Nat) (hk : k < s.nodes.length) :
    ∃ g cn t, s.nodes[k]? = some t ∧ w.cell? ⟨b, 1, none⟩ = some (.slice (some ⟨g, 0, none⟩) s.nodes.length cn) ∧ s.nodes.length ≤ cn ∧ s.nodes.length ≤ 1048576 ∧
      w.cell? ⟨g, k * 3, none⟩ = some (.int .i64 t.a) ∧ w.cell? ⟨g, k * 3 + 1, none⟩ = some (.int .i64 t.b) ∧ w.cell? ⟨g, k * 3 + 2, none⟩ = some (.int .i64 t.c) := by
  obtain ⟨vn, c0, c1, c2, fz, own, hnb, hO, hcp1, hcp2, -⟩ := h
  have own' := own
  obtain ⟨-, ⟨h1, h2⟩ | ⟨g, cap, cur, h1, h2, h3, h4, h5, h6, h7⟩⟩ := own
  · exfalso
    omega
  · subst h1
    have hc := own'.cells (g := g) rfl
    obtain ⟨f1, f2, f3⟩ := flat3_at s.nodes k hk
    refine ⟨g, cap, s.nodes[k], List.getElem?_eq_getElem hk, c1, by omega, by omega, ?_, ?_, ?_⟩
    · have := hc _ _ f1; rw [show (⟨g, 0, none⟩ : Addr).add (k * 3) = ⟨g, k * 3, none⟩ from by unfold Addr.add; simp; omega] at this; exact this
    · have := hc _ _ f2; simpa [Addr.add] using this
    · have := hc _ _ f3; simpa [Addr.add] using this

set_option maxRecDepth 100000 in
set_option maxHeartbeats 400000 in
theorem top_ref (b : Nat) (O : Nat → Prop) (s : BS) (a : Int) (w : World) (hs : IsRef w b O s) (ha : Is s.nodes a) :
    Calls Try.prog 155 #[.pointer (some ⟨b, 0, none⟩), .int .i64 a] w fun e w' => e = .returned (.int .i64 (topP s.nodes a)) ∧ w = w' := by
  by_cases h2 : a < 2
  · have HE : Hid (topP s.nodes a = 64) := by show _ = _; unfold topP; rw [if_pos h2]
    have h1 : ¬ (1 < a) := by omega
    clear hs ha h2
    go_enter Try.func155, Try.ntmps155
    go_wp2
    go_ret
    exact ⟨by rw [HE.out]; rfl, rfl⟩
  · obtain ⟨k, rfl⟩ : ∃ k : Nat, a = (k : Int) + 2 := ⟨(a - 2).toNat, by omega⟩
    have hk : k < s.nodes.length := by unfold Is at ha; omega
    obtain ⟨g, cn, t, ht, c1, hcn, hle, n0, n1, n2⟩ := hs.node k hk
    have HE : Hid (topP s.nodes ((k : Int) + 2) = t.a) := by
      show _ = _
      unfold topP
      rw [if_neg h2, show ((k : Int) + 2 - 2).toNat = k from by omega, ht]
    clear hs ha ht n1 n2
    go_enter Try.func155, Try.ntmps155
    go_wp2
    go_ret
    exact ⟨by rw [HE.out]; rfl, rfl⟩

/-- A diagram under its variable's bit. -/
def partP (l : List T3) (a v : Int) (on : Bool) : Int := if on then hiP l a v else loP l a v

set_option maxRecDepth 100000 in
set_option maxHeartbeats 400000 in
theorem part_ref (b : Nat) (O : Nat → Prop) (s : BS) (a v : Int) (on : Bool) (w : World) (hs : IsRef w b O s) (ha : Is s.nodes a) (hv : v < 64) :
    Calls Try.prog 156 #[.pointer (some ⟨b, 0, none⟩), .int .i64 a, .int .i64 v, .bool on] w fun e w' => e = .returned (.int .i64 (partP s.nodes a v on)) ∧ w = w' := by
  have HT := Lib.hid (top_ref b O s a w hs ha)
  by_cases he : topP s.nodes a = v
  · have h2 : ¬ a < 2 := fun h => by simp [topP, h] at he; omega
    obtain ⟨k, rfl⟩ : ∃ k : Nat, a = (k : Int) + 2 := ⟨(a - 2).toNat, by omega⟩
    have hk : k < s.nodes.length := by unfold Is at ha; omega
    obtain ⟨g, cn, t, ht, c1, hcn, hle, n0, n1, n2⟩ := hs.node k hk
    have HP : Hid (partP s.nodes ((k : Int) + 2) v on = if on then t.c else t.b) := by
      show _ = _
      unfold partP hiP loP
      rw [if_pos he, if_pos he, show ((k : Int) + 2 - 2).toNat = k from by omega, ht]
    rw [he] at HT
    clear hs ha ht n0 he
    cases on
    all_goals
      go_enter Try.func156, Try.ntmps156
      go_wp2_with fail
      refine HT.out.mono ?_
      rintro e w1 ⟨rfl, rfl⟩
      go_wp2_with fail
      go_ret
      exact ⟨by rw [HP.out]; rfl, rfl⟩
  · have HP : Hid (partP s.nodes a v on = a) := by
      show _ = _
      unfold partP hiP loP
      rw [if_neg he, if_neg he]
      split <;> rfl
    have hb : (topP s.nodes a == v) = false := by rw [beq_eq_false_iff_ne]; exact he
    generalize topP s.nodes a = tp at *
    clear hs ha he
    go_enter Try.func156, Try.ntmps156
    go_wp2_with fail
    refine HT.out.mono ?_
    rintro e w1 ⟨rfl, rfl⟩
    go_wp2_with fail
    go_ret
    exact ⟨by rw [HP.out]; rfl, rfl⟩

set_option maxRecDepth 100000 in
set_option maxHeartbeats 400000 in
theorem right_ref (b : Nat) (O : Nat → Prop) (s : BS) (a : Int) (w : World) (hs : IsRef w b O s) :
    Calls Try.prog 144 #[.pointer (some ⟨b, 0, none⟩), .int .i64 a] w fun e w' => e = .returned (.int .i64 (rightP s.nodes a)) ∧ w = w' := by
  obtain ⟨vn, c0, c1, c2, fz, own, hnb, hO, hcp1, hcp2, -⟩ := hs
  obtain ⟨pn, cn, rfl, hln⟩ := own_shape own
  clear c0 c2 fz own hnb hO
  have hl : s.nodes.length ≤ 1048576 := by omega
  clear hcp1 hcp2 hln
  by_cases h0 : a < 0
  · have HE : Hid (rightP s.nodes a = 0) := by show _ = _; unfold rightP; rw [if_neg (by omega)]
    go_enter Try.func144, Try.ntmps144
    go_wp2
    go_ret
    exact ⟨by rw [HE.out]; rfl, rfl⟩
  · have h0' : 0 ≤ a := by omega
    by_cases h1 : a < s.nodes.length + 2
    · have HE : Hid (rightP s.nodes a = a) := by show _ = _; unfold rightP; rw [if_pos (by omega)]
      go_enter Try.func144, Try.ntmps144
      go_wp2
      go_ret
      exact ⟨by rw [HE.out]; rfl, rfl⟩
    · have HE : Hid (rightP s.nodes a = 0) := by show _ = _; unfold rightP; rw [if_neg (by omega)]
      go_enter Try.func144, Try.ntmps144
      go_wp2
      go_ret
      exact ⟨by rw [HE.out]; rfl, rfl⟩

set_option maxRecDepth 100000 in
set_option maxHeartbeats 400000 in
theorem made_ref (b : Nat) (O : Nat → Prop) (s : BS) (a : Int) (w : World) (hs : IsRef w b O s) :
    Calls Try.prog 125 #[.pointer (some ⟨b, 0, none⟩), .int .i64 a] w fun e w' => e = .returned (.int .i64 (if s.full then 0 else a)) ∧ w = w' := by
  obtain ⟨vn, c0, c1, c2, fz, own, hnb, hO, hcp1, hcp2, -⟩ := hs
  clear c0 c1 fz own hnb hO hcp1 hcp2
  cases hf : s.full
  all_goals
    rw [hf] at c2
    clear hf
    go_enter Try.func125, Try.ntmps125
    go_wp2
    go_ret
    exact ⟨rfl, rfl⟩

end Go.Proofs.Ytlnkflmnjkmhkaa

/-
  Contract of symbv.zip at two lists of integers, for any function value that hands back an integer and changes nothing that was.
-/
namespace Go.Proofs.Ytlnkflmnjkmhkaa
open Go.RowKit

theorem Try.infoInt : (Try.prog.info? 3).map (fun i => (i.zero, i.size, i.bytes)) = some (some (.int .i64 0), 1, 8) := by kernel_rfl

def zipL (g : Int → Int → Int) (xs ys : List Int) (n : Nat) : List Int := (List.range n).map fun i => g (xs.getD i 0) (ys.getD i 0)
theorem zipL_succ (g : Int → Int → Int) (xs ys : List Int) (n : Nat) : zipL g xs ys (n + 1) = zipL g xs ys n ++ [g (xs.getD n 0) (ys.getD n 0)] := by simp [zipL, List.range_succ]
theorem zipL_len (g : Int → Int → Int) (xs ys : List Int) (n : Nat) : (zipL g xs ys n).length = n := by simp [zipL]

set_option maxRecDepth 100000 in
set_option maxHeartbeats 1000000 in
theorem zip_any (f : Nat) (fst cp : Array Value) (g : Int → Int → Int) (va vb : Value) (xs ys : List Int) (w : World) (ha : IVec w va xs) (hb : IVec w vb ys)
    (hxl : xs.length ≤ 1000000) (hyl : ys.length ≤ 1000000)
    (hf : ∀ (x y : Int) W, Below w.heap.size w W → Calls Try.prog f (fst ++ (#[.int .i64 x, .int .i64 y] ++ cp)) W (RetInt W (g x y)))
    (hcall : ∀ (av : Array Value) (W : World), (callFunc f av).run Try.prog W = .ok (.enter f av) W) :
    Calls Try.prog 81 #[va, vb, .func (.func f) fst cp] w (RetVec w (zipL g xs ys (max xs.length ys.length))) := by
  obtain ⟨i0, hi, hz0, hz1, hz2⟩ := info_parts Try.infoInt
  obtain ⟨M, hM⟩ : ∃ M, M = max xs.length ys.length := ⟨_, rfl⟩
  have hMx : xs.length ≤ M := by omega
  have hMy : ys.length ≤ M := by omega
  have hMm : M ≤ 1000000 := by omega
  have hMo : M ≤ xs.length ∨ M ≤ ys.length := by omega
  rw [← hM]
  clear hM
  have HF := Lib.hid hf; clear hf
  obtain ⟨pa, ca, rfl, ha3, ha4, ha5⟩ := ha.shape
  obtain ⟨pb, cb, rfl, hb3, hb4, hb5⟩ := hb.shape
  clear ha hb
  have HA := Lib.hid ha5; clear ha5
  have HB := Lib.hid hb5; clear hb5
  go_enter Try.func81, Try.ntmps81
  go_wp2_with (first
    | (at_make; refine wpList_make_own _ rfl _ _ 33 rfl w.heap.size 3 i0 (.int .i64 0) 1 Try.underlying33 hi hz0 hz1 .i64 .i64 _ M rfl rfl (by omega) (by rw [hz2]; omega) (by unfold maxLen; omega) (Nat.le_refl _) ?_; intro w0 hown0 hgrow0))
  all_goals
    go_loopw [7, 19] (fun v i wr => ∃ k : Nat, k ≤ M ∧ i = .int .i64 k ∧ v = .slice (some ⟨w.heap.size, 0, none⟩) k M ∧ wr.ownsRow w.heap.size 3 1 v k ((zipL g xs ys k).map (Value.int .i64)) ∧ Below w.heap.size w wr)
      (fun _ i _ => M - (intOf i).toNat)
    case atStart => exact ⟨0, Nat.zero_le _, rfl, rfl, hown0, (Below.refl _ _).grown hgrow0 (Nat.le_refl _) (fun k h => by cases h)⟩
    case round =>
      obtain ⟨k, hk, rfl, rfl, hown, hnx⟩ := hrel
      have hsize := hnx.size
      by_cases hlt : k < M
      · by_cases hka : k < xs.length
        · by_cases hkb : k < ys.length
          · try (exfalso; omega)
            all_goals
              obtain ⟨ba, oa, rfl, ha2, ha5⟩ := HA.out (by omega)
              have ga := (hnx.cell (p := ⟨ba, oa + k, none⟩) ha2).trans (ha5 k hka)
              obtain ⟨bb, ob, rfl, hb2, hb5⟩ := HB.out (by omega)
              have gb := (hnx.cell (p := ⟨bb, ob + k, none⟩) hb2).trans (hb5 k hkb)
              have ez : Hid ((zipL g xs ys k).map (Value.int .i64) ++ [Value.int .i64 (g (xs[k]) (ys[k]))] = (zipL g xs ys (k + 1)).map (Value.int .i64)) := by show _ = _; rw [zipL_succ]; simp [hka, hkb]
              clear ha5 hb5
              go_wp2_with fail
              refine (HF.out _ _ _ hnx).mono ?_
              rintro e w1 ⟨rfl, hb1⟩
              go_wp2_with (at_builtin; refine wpList_append_fits _ rfl (.tmp 38) (.tmp 43) 33 rfl w.heap.size 3 i0 1 Try.underlying33 hi hz1 w.heap.size k M _ rfl ((own_below hown hb1).alloc _) ⟨w1.heap.size, 0, none⟩ 1 1 [.int .i64 _] rfl rfl (cell_one_new _ _ _) (ints_oneCell .i64 [_]) (by omega) ?_; intro w2 hown2 hgrow2)
              go_roundw
              case rel => exact ⟨k + 1, by omega, by go_num, rfl, ez.out ▸ hown2, (((hnx.trans (hb1.mono hsize)).alloc (by have := hb1.size; omega) _).grown hgrow2 (by have := hb1.size; simp; omega) (fun j hj => by cases hj; exact Nat.le_refl _))⟩
              case measure => simp [intOf]; omega
          · try (exfalso; omega)
            all_goals
              obtain ⟨ba, oa, rfl, ha2, ha5⟩ := HA.out (by omega)
              have ga := (hnx.cell (p := ⟨ba, oa + k, none⟩) ha2).trans (ha5 k hka)
              have eb : ys[k]?.getD 0 = 0 := by simp [List.getElem?_eq_none (Nat.le_of_not_lt hkb)]
              have ez : Hid ((zipL g xs ys k).map (Value.int .i64) ++ [Value.int .i64 (g (xs[k]) (0))] = (zipL g xs ys (k + 1)).map (Value.int .i64)) := by show _ = _; rw [zipL_succ]; simp [hka, eb]
              clear ha5 eb
              go_wp2_with fail
              refine (HF.out _ _ _ hnx).mono ?_
              rintro e w1 ⟨rfl, hb1⟩
              go_wp2_with (at_builtin; refine wpList_append_fits _ rfl (.tmp 38) (.tmp 43) 33 rfl w.heap.size 3 i0 1 Try.underlying33 hi hz1 w.heap.size k M _ rfl ((own_below hown hb1).alloc _) ⟨w1.heap.size, 0, none⟩ 1 1 [.int .i64 _] rfl rfl (cell_one_new _ _ _) (ints_oneCell .i64 [_]) (by omega) ?_; intro w2 hown2 hgrow2)
              go_roundw
              case rel => exact ⟨k + 1, by omega, by go_num, rfl, ez.out ▸ hown2, (((hnx.trans (hb1.mono hsize)).alloc (by have := hb1.size; omega) _).grown hgrow2 (by have := hb1.size; simp; omega) (fun j hj => by cases hj; exact Nat.le_refl _))⟩
              case measure => simp [intOf]; omega
        · by_cases hkb : k < ys.length
          · try (exfalso; omega)
            all_goals
              have ea : xs[k]?.getD 0 = 0 := by simp [List.getElem?_eq_none (Nat.le_of_not_lt hka)]
              obtain ⟨bb, ob, rfl, hb2, hb5⟩ := HB.out (by omega)
              have gb := (hnx.cell (p := ⟨bb, ob + k, none⟩) hb2).trans (hb5 k hkb)
              have ez : Hid ((zipL g xs ys k).map (Value.int .i64) ++ [Value.int .i64 (g (0) (ys[k]))] = (zipL g xs ys (k + 1)).map (Value.int .i64)) := by show _ = _; rw [zipL_succ]; simp [hkb, ea]
              clear ea hb5
              go_wp2_with fail
              refine (HF.out _ _ _ hnx).mono ?_
              rintro e w1 ⟨rfl, hb1⟩
              go_wp2_with (at_builtin; refine wpList_append_fits _ rfl (.tmp 38) (.tmp 43) 33 rfl w.heap.size 3 i0 1 Try.underlying33 hi hz1 w.heap.size k M _ rfl ((own_below hown hb1).alloc _) ⟨w1.heap.size, 0, none⟩ 1 1 [.int .i64 _] rfl rfl (cell_one_new _ _ _) (ints_oneCell .i64 [_]) (by omega) ?_; intro w2 hown2 hgrow2)
              go_roundw
              case rel => exact ⟨k + 1, by omega, by go_num, rfl, ez.out ▸ hown2, (((hnx.trans (hb1.mono hsize)).alloc (by have := hb1.size; omega) _).grown hgrow2 (by have := hb1.size; simp; omega) (fun j hj => by cases hj; exact Nat.le_refl _))⟩
              case measure => simp [intOf]; omega
          · exfalso; omega
      · obtain rfl : k = M := by omega
        go_wp2_with fail
        go_ret
        exact ⟨_, rfl, IVec.of_owns (zipL_len _ _ _ _) hown, hnx⟩

end Go.Proofs.Ytlnkflmnjkmhkaa

/-
  Contract of symop.pairs.
-/
namespace Go.Proofs.Ytlnkflmnjkmhkaa
open Go.RowKit

theorem Try.infoBits : (Try.prog.info? 131).map (fun i => (i.zero, i.size, i.bytes)) = some (some (.agg #[.int .i64 0, .int .i64 0]), 2, 16) := by kernel_rfl

/-- Both bits at a place. -/
def pairAt (xs ys : List Int) (i : Nat) : Int × Int := (xs.getD i 0, ys.getD i 0)

/-- The value reads as n pairs. -/
def PVec (w : World) (v : Value) (n : Nat) (p : Nat → Int × Int) : Prop :=
  ∃ pa cap, v = .slice pa n cap ∧ n ≤ cap ∧ cap ≤ maxLen ∧
    (0 < n → ∃ b off, pa = some ⟨b, off, none⟩ ∧ b < w.heap.size ∧ ∀ i, i < n → w.cell? ⟨b, off + i * 2, none⟩ = some (.int .i64 (p i).1) ∧ w.cell? ⟨b, off + i * 2 + 1, none⟩ = some (.int .i64 (p i).2))
theorem PVec.below {w w' : World} {v : Value} {n : Nat} {p : Nat → Int × Int} (h : PVec w v n p) (hb : Below w.heap.size w w') : PVec w' v n p := by
  obtain ⟨pa, cap, h1, h2, h3, h4⟩ := h
  refine ⟨pa, cap, h1, h2, h3, fun h0 => ?_⟩
  obtain ⟨b, off, e, hlt, hc⟩ := h4 h0
  exact ⟨b, off, e, Nat.lt_of_lt_of_le hlt hb.size, fun i hi => by
    rw [hb.cell (p := ⟨b, off + i * 2, none⟩) hlt, hb.cell (p := ⟨b, off + i * 2 + 1, none⟩) hlt]; exact hc i hi⟩

/-- n pairs, their cells in no block of O. -/
def PVecX (w : World) (O : Nat → Prop) (v : Value) (n : Nat) (p : Nat → Int × Int) : Prop :=
  ∃ pa cap, v = .slice pa n cap ∧ n ≤ cap ∧ cap ≤ maxLen ∧
    (0 < n → ∃ b off, pa = some ⟨b, off, none⟩ ∧ b < w.heap.size ∧ ¬ O b ∧ ∀ i, i < n → w.cell? ⟨b, off + i * 2, none⟩ = some (.int .i64 (p i).1) ∧ w.cell? ⟨b, off + i * 2 + 1, none⟩ = some (.int .i64 (p i).2))
theorem PVecX.pvec {w : World} {O : Nat → Prop} {v : Value} {n : Nat} {p : Nat → Int × Int} (h : PVecX w O v n p) : PVec w v n p := by
  obtain ⟨pa, cap, h1, h2, h3, h4⟩ := h
  refine ⟨pa, cap, h1, h2, h3, fun h0 => ?_⟩
  obtain ⟨b, off, e, hlt, -, hc⟩ := h4 h0
  exact ⟨b, off, e, hlt, hc⟩

def pc (xs ys : List Int) (k j : Nat) : Int := if j / 2 < k then (if j % 2 = 0 then xs.getD (j / 2) 0 else ys.getD (j / 2) 0) else 0
def pTo (xs ys : List Int) (M k : Nat) : List Value := (List.range (M * 2)).map fun j => .int .i64 (pc xs ys k j)
theorem pTo_len (xs ys : List Int) (M k : Nat) : (pTo xs ys M k).length = M * 2 := by simp [pTo]
theorem pTo_at (xs ys : List Int) (M k j : Nat) (hj : j < M * 2) : (pTo xs ys M k)[j]? = some (.int .i64 (pc xs ys k j)) := by simp [pTo, hj]
theorem pTo_zero (xs ys : List Int) (M : Nat) : pTo xs ys M 0 = List.replicate (M * 2) (.int .i64 0) := by
  simp [pTo, pc, List.map_const']
theorem pTo_both (xs ys : List Int) (M k : Nat) (hk : k < M) : ((pTo xs ys M k).set (k * 2) (.int .i64 (xs.getD k 0))).set (k * 2 + 1) (.int .i64 (ys.getD k 0)) = pTo xs ys M (k + 1) := by
  apply List.ext_getElem
  · simp [pTo]
  · intro j h1 h2
    rw [List.getElem_set, List.getElem_set]
    simp only [pTo, List.getElem_map, List.getElem_range, pc]
    by_cases e1 : k * 2 + 1 = j
    · subst e1
      rw [if_pos rfl, if_pos (by omega), if_neg (by omega)]
      congr 2; omega
    · rw [if_neg e1]
      by_cases e2 : k * 2 = j
      · subst e2
        rw [if_pos rfl, if_pos (by omega), if_pos (by omega)]
        congr 2; omega
      · rw [if_neg e2]
        by_cases e3 : j / 2 < k
        · have e4 : j / 2 < k + 1 := by omega
          simp only [if_pos e3, if_pos e4]
        · have e4 : ¬ j / 2 < k + 1 := by omega
          simp only [if_neg e3, if_neg e4]
theorem pTo_x (xs ys : List Int) (M k : Nat) : (pTo xs ys M k).set (k * 2) (.int .i64 0) = pTo xs ys M k := by
  apply List.ext_getElem
  · simp [pTo]
  · intro j h1 h2
    rw [List.getElem_set]
    split
    · rename_i e; subst e
      simp only [pTo, List.getElem_map, List.getElem_range, pc]
      rw [if_neg (by omega)]
    · rfl
theorem pTo_y (xs ys : List Int) (M k : Nat) (x : Value) : ((pTo xs ys M k).set (k * 2) x).set (k * 2 + 1) (.int .i64 0) = (pTo xs ys M k).set (k * 2) x := by
  apply List.ext_getElem
  · simp [pTo]
  · intro j h1 h2
    rw [List.getElem_set]
    split
    · rename_i e; subst e
      rw [List.getElem_set_ne (by omega)]
      simp only [pTo, List.getElem_map, List.getElem_range, pc]
      rw [if_neg (by omega)]
    · rfl

theorem two_zero_cells (n : Nat) : (madeCells (Value.agg #[.int .i64 0, .int .i64 0]).cells (n * 2)).toList = List.replicate (n * 2) (.int .i64 0) := by
  apply List.ext_getElem
  · simp [size_madeCells]
  · intro j h1 h2
    simp only [madeCells, Array.toList_map, Array.toList_range, List.getElem_map, List.getElem_range, List.getElem_replicate]
    have e : (Value.agg #[.int .i64 0, .int .i64 0]).cells = #[.int .i64 0, .int .i64 0] := rfl
    rw [e]
    have : j % 2 = 0 ∨ j % 2 = 1 := by omega
    rcases this with h | h
    · simp [h]
    · simp [h]

theorem PVecX.of_owns {w : World} {base e M : Nat} {v : Value} {xs ys : List Int} {O : Nat → Prop} (hO : ∀ k, O k → k < base) (h : w.ownsRow base e 2 v M (pTo xs ys M M)) : PVecX w O v M (pairAt xs ys) := by
  obtain ⟨hl, h⟩ := h
  rcases h with ⟨h1, h2⟩ | ⟨g, cap, cur, h1, h2, h3, h4, h5, h6, h7⟩
  · subst h2; exact ⟨none, 0, h1, Nat.le_refl _, Nat.zero_le _, fun h => absurd h (Nat.lt_irrefl 0)⟩
  · have hlt : g < w.heap.size := by
      rcases Nat.lt_or_ge g w.heap.size with h | h
      · exact h
      · rw [Array.getElem?_eq_none h] at h3; cases h3
    have hc : ∀ j, j < M * 2 → w.cell? ⟨g, j, none⟩ = some (.int .i64 (pc xs ys M j)) := fun j hj => by
      simp only [World.cell?, h3]
      have h8 : (cur.toList.take (M * 2))[j]? = some (.int .i64 (pc xs ys M j)) := by rw [h7]; exact pTo_at _ _ _ _ _ hj
      rw [List.getElem?_take_of_lt hj] at h8
      simpa using h8
    refine ⟨some ⟨g, 0, none⟩, cap, h1, h4, h5, fun _ => ⟨g, 0, rfl, hlt, fun h => by have := hO g h; omega, fun i hi => ⟨?_, ?_⟩⟩⟩
    · rw [Nat.zero_add, hc (i * 2) (by omega)]
      simp only [pc, pairAt]
      rw [if_pos (by omega), if_pos (by omega)]
      congr 3; omega
    · rw [Nat.zero_add, hc (i * 2 + 1) (by omega)]
      simp only [pc, pairAt]
      rw [if_pos (by omega), if_neg (by omega)]
      congr 3; omega

set_option maxRecDepth 100000 in
set_option maxHeartbeats 1000000 in
theorem pairs_any (O : Nat → Prop) (va vb : Value) (xs ys : List Int) (w : World) (hO : ∀ k, O k → k < w.heap.size) (ha : IVec w va xs) (hb : IVec w vb ys) (hxl : xs.length ≤ 1000000) (hyl : ys.length ≤ 1000000) :
    Calls Try.prog 111 #[va, vb] w fun e w' => ∃ v, e = .returned v ∧ PVecX w' O v (max xs.length ys.length) (pairAt xs ys) ∧ Below w.heap.size w w' := by
  obtain ⟨i0, hi, hz0, hz1, hz2⟩ := info_parts Try.infoBits
  have HO0 := Lib.hid hO; clear hO
  obtain ⟨M, hM⟩ : ∃ M, M = max xs.length ys.length := ⟨_, rfl⟩
  have hMx : xs.length ≤ M := by omega
  have hMy : ys.length ≤ M := by omega
  have hMm : M ≤ 1000000 := by omega
  have hMo : M ≤ xs.length ∨ M ≤ ys.length := by omega
  rw [← hM]
  clear hM
  obtain ⟨pa, ca, rfl, ha3, ha4, ha5⟩ := ha.shape
  obtain ⟨pb, cb, rfl, hb3, hb4, hb5⟩ := hb.shape
  clear ha hb
  have HA := Lib.hid ha5; clear ha5
  have HB := Lib.hid hb5; clear hb5
  go_enter Try.func111, Try.ntmps111
  go_wp2_with (first
    | (at_make; refine wpList_make_full _ rfl _ _ 132 rfl w.heap.size 131 i0 (.agg #[.int .i64 0, .int .i64 0]) 2 Try.underlying132 hi hz0 hz1 .i64 .i64 _ _ M rfl rfl (by omega) (by omega) (by rw [hz2]; omega) (by unfold maxLen; omega) (Nat.le_refl _) ?_; intro w0 hown0 hgrow0))
  all_goals rw [two_zero_cells, ← pTo_zero xs ys M] at hown0
  all_goals
    go_loopw [15] (fun i wr => ∃ k : Nat, k ≤ M ∧ i = .int .i64 k ∧ wr.ownsRow w.heap.size 131 2 (.slice (some ⟨w.heap.size, 0, none⟩) M M) M (pTo xs ys M k) ∧ Below w.heap.size w wr)
      (fun i _ => M - (intOf i).toNat)
    case atStart => exact ⟨0, Nat.zero_le _, rfl, hown0, (Below.refl _ _).grown hgrow0 (Nat.le_refl _) (fun k h => by cases h)⟩
    case round =>
      obtain ⟨k, hk, rfl, hown, hnx⟩ := hrel
      have hsize := hnx.size
      by_cases hlt : k < M
      · have q0 : wr.cell? ⟨w.heap.size, k * 2, none⟩ = some (.int .i64 0) := by
          rw [hown.cellAt (k * 2) (by omega), pTo_at _ _ _ _ _ (by omega)]
          simp only [pc]; rw [if_neg (by omega)]
        have q1 : wr.cell? ⟨w.heap.size, k * 2 + 1, none⟩ = some (.int .i64 0) := by
          rw [hown.cellAt (k * 2 + 1) (by omega), pTo_at _ _ _ _ _ (by omega)]
          simp only [pc]; rw [if_neg (by omega)]
        have z0 := hown.frozenAt (k * 2)
        have z1 := hown.frozenAt (k * 2 + 1)
        by_cases hka : k < xs.length
        · by_cases hkb : k < ys.length
          · try (exfalso; omega)
            all_goals
              obtain ⟨ba, oa, rfl, ha2, ha5⟩ := HA.out (by omega)
              have ga := (hnx.cell (p := ⟨ba, oa + k, none⟩) ha2).trans (ha5 k hka)
              clear ha5
              obtain ⟨bb, ob, rfl, hb2, hb5⟩ := HB.out (by omega)
              have gb := (hnx.cell (p := ⟨bb, ob + k, none⟩) hb2).trans (hb5 k hkb)
              clear hb5
              have ea : xs.getD k 0 = xs[k] := by simp [hka]
              have eb : ys.getD k 0 = ys[k] := by simp [hkb]
              have HT := pTo_both xs ys M k hlt
              rw [ea, eb] at HT
              have HO : Hid (((wr.setCell ⟨w.heap.size, k * 2, none⟩ (.int .i64 xs[k])).setCell ⟨w.heap.size, k * 2 + 1, none⟩ (.int .i64 ys[k])).ownsRow w.heap.size 131 2 (.slice (some ⟨w.heap.size, 0, none⟩) M M) M (pTo xs ys M (k + 1))) := by
                show World.ownsRow _ _ _ _ _ _ _
                rw [← HT]
                exact ((hown.stored (k * 2) (.int .i64 xs[k])).1.stored (k * 2 + 1) (.int .i64 ys[k])).1
              clear ea eb HT hown
              go_wp2_with fail
              go_roundw
              case rel => exact ⟨k + 1, by omega, by go_num, HO.out, (hnx.setCell (Nat.le_refl _) _).setCell (Nat.le_refl _) _⟩
              case measure => simp [intOf]; omega
          · try (exfalso; omega)
            all_goals
              obtain ⟨ba, oa, rfl, ha2, ha5⟩ := HA.out (by omega)
              have ga := (hnx.cell (p := ⟨ba, oa + k, none⟩) ha2).trans (ha5 k hka)
              clear ha5
              have ea : xs.getD k 0 = xs[k] := by simp [hka]
              have eb : ys.getD k 0 = 0 := by rw [List.getD_eq_getElem?_getD, List.getElem?_eq_none (Nat.le_of_not_lt hkb)]; rfl
              have HT := pTo_both xs ys M k hlt
              rw [ea, eb] at HT
              rw [pTo_y] at HT
              have HO : Hid ((wr.setCell ⟨w.heap.size, k * 2, none⟩ (.int .i64 xs[k])).ownsRow w.heap.size 131 2 (.slice (some ⟨w.heap.size, 0, none⟩) M M) M (pTo xs ys M (k + 1))) := by
                show World.ownsRow _ _ _ _ _ _ _
                rw [← HT]
                exact (hown.stored (k * 2) (.int .i64 xs[k])).1
              clear ea eb HT hown
              go_wp2_with fail
              go_roundw
              case rel => exact ⟨k + 1, by omega, by go_num, HO.out, hnx.setCell (Nat.le_refl _) _⟩
              case measure => simp [intOf]; omega
        · by_cases hkb : k < ys.length
          · try (exfalso; omega)
            all_goals
              obtain ⟨bb, ob, rfl, hb2, hb5⟩ := HB.out (by omega)
              have gb := (hnx.cell (p := ⟨bb, ob + k, none⟩) hb2).trans (hb5 k hkb)
              clear hb5
              have ea : xs.getD k 0 = 0 := by rw [List.getD_eq_getElem?_getD, List.getElem?_eq_none (Nat.le_of_not_lt hka)]; rfl
              have eb : ys.getD k 0 = ys[k] := by simp [hkb]
              have HT := pTo_both xs ys M k hlt
              rw [ea, eb] at HT
              rw [pTo_x] at HT
              have HO : Hid ((wr.setCell ⟨w.heap.size, k * 2 + 1, none⟩ (.int .i64 ys[k])).ownsRow w.heap.size 131 2 (.slice (some ⟨w.heap.size, 0, none⟩) M M) M (pTo xs ys M (k + 1))) := by
                show World.ownsRow _ _ _ _ _ _ _
                rw [← HT]
                exact (hown.stored (k * 2 + 1) (.int .i64 ys[k])).1
              clear ea eb HT hown
              go_wp2_with fail
              go_roundw
              case rel => exact ⟨k + 1, by omega, by go_num, HO.out, hnx.setCell (Nat.le_refl _) _⟩
              case measure => simp [intOf]; omega
          · exfalso; omega
      · obtain rfl : k = M := by omega
        go_wp2_with fail
        go_ret
        exact ⟨_, rfl, PVecX.of_owns HO0.out hown, hnx⟩

end Go.Proofs.Ytlnkflmnjkmhkaa

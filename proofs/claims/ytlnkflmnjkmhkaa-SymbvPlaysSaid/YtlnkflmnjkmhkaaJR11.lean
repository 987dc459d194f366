/-
  Lemmas, joined: RefB4, ZipS, SumS.
-/
import Derived.Test.YtlnkflmnjkmhkaaJR10
import Derived.Test.YtlnkflmnjkmhkaaJR06
import Derived.Test.YtlnkflmnjkmhkaaJR05
/-
  Contracts of the reference's Ite, Not, And, Or, Xor, Var, by the plain laws.
-/
namespace Go.Proofs.Ytlnkflmnjkmhkaa
open Go.RowKit Go.Maps

/-- A store of the reference's whose nodes may be. -/
def RSto (w : World) (b : Nat) (O : Nat → Prop) (s : BS) : Prop := IsRef w b O s ∧ Ord s.nodes
def ToRS (b : Nat) (O : Nat → Prop) (w : World) (s' : BS) (w' : World) : Prop := ∃ O', RSto w' b O' s' ∧ Ext O O' w w'
def RetRS (b : Nat) (O : Nat → Prop) (w : World) (r : BS × Int) (e : Ending) (w' : World) : Prop := e = .returned (.int .i64 r.2) ∧ ToRS b O w r.1 w'
theorem RSto.below {w w' : World} {b : Nat} {O : Nat → Prop} {s : BS} (h : RSto w b O s) (hb : Below w.heap.size w w') : RSto w' b O s := ⟨h.1.below hb, h.2⟩
theorem RSto.kept {w w' : World} {b : Nat} {O : Nat → Prop} {s : BS} (h : RSto w b O s) (hk : ∀ k, O k → w'.heap[k]? = w.heap[k]?) : RSto w' b O s := ⟨h.1.kept hk, h.2⟩
theorem RSto.lt {w : World} {b : Nat} {O : Nat → Prop} {s : BS} (h : RSto w b O s) : ∀ k, O k → k < w.heap.size := h.1.lt
theorem ToRS.pre {b : Nat} {O O' : Nat → Prop} {w w1 w' : World} {s : BS} (h : ToRS b O' w1 s w') (he : Ext O O' w w1) : ToRS b O w s w' := by
  obtain ⟨O'', h1, h2⟩ := h
  exact ⟨O'', h1, he.trans h2⟩

set_option maxRecDepth 100000 in
set_option maxHeartbeats 800000 in
theorem ite_rs (b : Nat) (O : Nat → Prop) (s : BS) (c a d : Int) (w : World) (hs : RSto w b O s) :
    Calls Try.prog 132 #[.pointer (some ⟨b, 0, none⟩), .int .i64 c, .int .i64 a, .int .i64 d] w (RetRS b O w (iteF s c a d)) := by
  obtain ⟨hI, ho⟩ := hs
  have HR : Hid (∀ x, Calls Try.prog 144 #[.pointer (some ⟨b, 0, none⟩), .int .i64 x] w fun e w' => e = .returned (.int .i64 (rightP s.nodes x)) ∧ w = w') := fun x => right_ref b O s x w hI
  have HS := Lib.hid hI
  have HO := Lib.hid ho
  by_cases hf : s.full = true
  · have HE : Hid (iteF s c a d = (s, 0)) := by show _ = _; simp [iteF, hf]
    have HI : Hid (∀ c a d, Calls Try.prog 150 #[.pointer (some ⟨b, 0, none⟩), .int .i64 c, .int .i64 a, .int .i64 d] w fun e w' => e = .returned (.int .i64 0) ∧ w = w') := fun c a d => iteR_full b O s c a d w hI hf
    have HM := made_ref b O s 0 w hI
    rw [hf] at HM
    have HM := Lib.hid HM
    clear hI ho hf
    go_enter Try.func132, Try.ntmps132
    go_wp2_with (first
      | (go_at_call 144; (with_reducible refine (HR.out _).mono ?_); rintro e w1 ⟨rfl, rfl⟩)
      | (go_at_call 150; (with_reducible refine (HI.out _ _ _).mono ?_); rintro e w1 ⟨rfl, rfl⟩)
      | (go_at_call 125; (refine HM.out.mono ?_); rintro e w1 ⟨rfl, rfl⟩))
    go_ret
    exact ⟨by rw [HE.out]; rfl, O, ⟨by rw [HE.out]; exact HS.out, by rw [HE.out]; exact HO.out⟩, Ext.refl _ _⟩
  · have hf' : s.full = false := by simpa using hf
    obtain ⟨X, hX⟩ := iteP_some 65 s (rightP s.nodes c) (rightP s.nodes a) (rightP s.nodes d) ho (rightP_is _ _) (rightP_is _ _) (rightP_is _ _) (by
      have h1 := (topP_le ho (rightP s.nodes c)).2
      have h2 := (topP_le ho (rightP s.nodes a)).2
      have h3 := (topP_le ho (rightP s.nodes d)).2
      simp only [min3]
      omega)
    have HE : Hid (iteF s c a d = (X.1, X.2.getD 0)) := by show _ = _; unfold iteF; rw [if_neg hf, hX]
    obtain ⟨g, k⟩ := iteP_ok _ _ _ _ _ _ ho (rightP_is _ _) (rightP_is _ _) (rightP_is _ _) hX
    have HG : Hid (Ord X.1.nodes) := g.ord
    have HFU : Hid (∀ r, (∀ i, X.2 = some i → r = i) → (if X.1.full then 0 else r) = X.2.getD 0) := fun r hr => by
      cases hx : X.2 with
      | none => rw [iteP_none _ _ _ _ _ _ hX hx]; rfl
      | some i => rw [(k i hx).1, hf', hr i hx]; rfl
    have HI := Lib.hid (iteR_at 65 b O s _ _ _ X w hI hf' ho (rightP_is _ c) (rightP_is _ a) (rightP_is _ d) hX)
    have HM : Hid (∀ O' r W, IsRef W b O' X.1 → Calls Try.prog 125 #[.pointer (some ⟨b, 0, none⟩), .int .i64 r] W fun e w' => e = .returned (.int .i64 (if X.1.full then 0 else r)) ∧ W = w') := fun O' r W h => made_ref b O' X.1 r W h
    clear hI ho hf hf' g k hX
    go_enter Try.func132, Try.ntmps132
    go_wp2_with (go_at_call 144; (with_reducible refine (HR.out _).mono ?_); rintro e w1 ⟨rfl, rfl⟩)
    refine HI.out.mono ?_
    rintro e w1 ⟨r, rfl, hr, O', h1, h2⟩
    have H1 := Lib.hid h1
    have H2 := Lib.hid h2
    have hfu := HFU.out r hr
    have HMR := HM.out O' r w1 h1
    rw [hfu] at HMR
    have HMR := Lib.hid HMR
    clear h1 h2 hfu hr HFU HM HI HR
    go_wp2_with (go_at_call 125; (refine HMR.out.mono ?_); rintro e w2 ⟨rfl, rfl⟩)
    go_ret
    exact ⟨by rw [HE.out]; rfl, O', ⟨by rw [HE.out]; exact H1.out, by rw [HE.out]; exact HG.out⟩, H2.out⟩

set_option maxRecDepth 100000 in
set_option maxHeartbeats 400000 in
theorem not_rs (b : Nat) (O : Nat → Prop) (s : BS) (a : Int) (w : World) (hs : RSto w b O s) :
    Calls Try.prog 130 #[.pointer (some ⟨b, 0, none⟩), .int .i64 a] w (RetRS b O w (notF s a)) := by
  have HM := Lib.hid (ite_rs b O s a 0 1 w hs)
  clear hs
  go_enter Try.func130, Try.ntmps130
  go_wp2_with fail
  refine HM.out.mono ?_
  rintro e w1 ⟨rfl, h⟩
  have H := Lib.hid h
  clear h
  go_wp2_with fail
  go_ret
  exact ⟨rfl, H.out⟩

set_option maxRecDepth 100000 in
set_option maxHeartbeats 400000 in
theorem and_rs (b : Nat) (O : Nat → Prop) (s : BS) (a d : Int) (w : World) (hs : RSto w b O s) :
    Calls Try.prog 131 #[.pointer (some ⟨b, 0, none⟩), .int .i64 a, .int .i64 d] w (RetRS b O w (andF s a d)) := by
  have HM := Lib.hid (ite_rs b O s a d 0 w hs)
  clear hs
  go_enter Try.func131, Try.ntmps131
  go_wp2_with fail
  refine HM.out.mono ?_
  rintro e w1 ⟨rfl, h⟩
  have H := Lib.hid h
  clear h
  go_wp2_with fail
  go_ret
  exact ⟨rfl, H.out⟩

set_option maxRecDepth 100000 in
set_option maxHeartbeats 400000 in
theorem or_rs (b : Nat) (O : Nat → Prop) (s : BS) (a d : Int) (w : World) (hs : RSto w b O s) :
    Calls Try.prog 133 #[.pointer (some ⟨b, 0, none⟩), .int .i64 a, .int .i64 d] w (RetRS b O w (orF s a d)) := by
  have HM := Lib.hid (ite_rs b O s a 1 d w hs)
  clear hs
  go_enter Try.func133, Try.ntmps133
  go_wp2_with fail
  refine HM.out.mono ?_
  rintro e w1 ⟨rfl, h⟩
  have H := Lib.hid h
  clear h
  go_wp2_with fail
  go_ret
  exact ⟨rfl, H.out⟩

set_option maxRecDepth 100000 in
set_option maxHeartbeats 400000 in
theorem xor_rs (b : Nat) (O : Nat → Prop) (s : BS) (a d : Int) (w : World) (hs : RSto w b O s) :
    Calls Try.prog 129 #[.pointer (some ⟨b, 0, none⟩), .int .i64 a, .int .i64 d] w (RetRS b O w (xorF s a d)) := by
  have HN := Lib.hid (not_rs b O s d w hs)
  have HM : Hid (∀ O' W, RSto W b O' (notF s d).1 → Calls Try.prog 132 #[.pointer (some ⟨b, 0, none⟩), .int .i64 a, .int .i64 (notF s d).2, .int .i64 d] W (RetRS b O' W (xorF s a d))) := fun O' W h => ite_rs b O' _ a _ d W h
  clear hs
  generalize notF s d = nd at *
  go_enter Try.func129, Try.ntmps129
  go_wp2_with fail
  refine HN.out.mono ?_
  rintro e w1 ⟨rfl, O1, h1, h2⟩
  have H1 := Lib.hid h1
  have H2 := Lib.hid h2
  clear h1 h2
  go_wp2_with fail
  refine (HM.out O1 _ H1.out).mono ?_
  rintro e w2 ⟨rfl, h⟩
  have H : Hid (ToRS b O w (xorF s a d).1 w2) := h.pre H2.out
  clear h
  go_wp2_with fail
  go_ret
  exact ⟨rfl, H.out⟩

set_option maxRecDepth 100000 in
set_option maxHeartbeats 800000 in
theorem var_rs (b : Nat) (O : Nat → Prop) (s : BS) (v : Int) (w : World) (hs : RSto w b O s) :
    Calls Try.prog 69 #[.pointer (some ⟨b, 0, none⟩), .int .i64 v] w (RetRS b O w (varF s v)) := by
  have HS := Lib.hid hs
  obtain ⟨hI, ho⟩ := hs
  by_cases hv : v < 0 ∨ 63 < v
  · have HE : Hid (varF s v = (s, 0)) := by show _ = _; unfold varF; rw [if_pos (by omega)]
    clear hI ho
    rcases hv with hv | hv
    · go_enter Try.func69, Try.ntmps69
      go_wp2
      go_ret
      exact ⟨by rw [HE.out]; rfl, O, by rw [HE.out]; exact HS.out, Ext.refl _ _⟩
    · have hv0 : ¬ v < 0 := by omega
      go_enter Try.func69, Try.ntmps69
      go_wp2
      go_ret
      exact ⟨by rw [HE.out]; rfl, O, by rw [HE.out]; exact HS.out, Ext.refl _ _⟩
  · have h0 : ¬ v < 0 := by omega
    have h1 : ¬ 63 < v := by omega
    have HT : Hid (Calls Try.prog 126 #[.pointer (some ⟨b, 0, none⟩), .int .i64 v, .int .i64 0, .int .i64 1] w fun e w' => ∃ r, e = .returned (.int .i64 r) ∧ (if (varF s v).1.full then 0 else r) = (varF s v).2 ∧ ToRS b O w (varF s v).1 w') := by
      by_cases hf : s.full = true
      · have e : varF s v = (s, 0) := by unfold varF; rw [if_pos (by simp [hf])]
        rw [e]
        refine (node_ref0 b O s v 0 1 w hI (.inr hf)).mono ?_
        rintro e' w' ⟨rfl, rfl⟩
        exact ⟨0, rfl, by simp, O, ⟨hI, ho⟩, Ext.refl _ _⟩
      · have hf' : s.full = false := by simpa using hf
        have e : varF s v = ((node1 s ⟨v, 0, 1⟩).1, (node1 s ⟨v, 0, 1⟩).2.getD 0) := by unfold varF; rw [if_neg (by simp [hf']; omega)]
        rw [e]
        have t0 : topP s.nodes 0 = 64 := by unfold topP; simp
        have t1 : topP s.nodes 1 = 64 := by unfold topP; simp
        have i01 : Is s.nodes 0 ∧ Is s.nodes 1 := ⟨by unfold Is; omega, by unfold Is; omega⟩
        obtain ⟨-, g2, -, g4⟩ := node1_ok (t := ⟨v, 0, 1⟩) ho ⟨by show 0 ≤ v; omega, by show v < 64; omega⟩ i01.1 i01.2 (by show v < topP s.nodes 0; omega) (by show v < topP s.nodes 1; omega)
        refine (node_ref1 b O s v 0 1 w hI (by omega) hf' ⟨WalkArith.wf_i64 (n := v) (by omega), WalkArith.wf_i64 (n := 0) (by omega), WalkArith.wf_i64 (n := 1) (by omega)⟩).mono ?_
        rintro e' w' ⟨h1, O', h2, h3⟩
        refine ⟨_, h1, ?_, O', ⟨h2, g2⟩, h3⟩
        cases hx : (node1 s ⟨v, 0, 1⟩).2 with
        | none => simp only; rw [node1_none hx]; simp
        | some i => simp only; rw [(g4 i hx).2.2.1, hf']; simp
    have HM : Hid (∀ O' r W, RSto W b O' (varF s v).1 → Calls Try.prog 125 #[.pointer (some ⟨b, 0, none⟩), .int .i64 r] W fun e w' => e = .returned (.int .i64 (if (varF s v).1.full then 0 else r)) ∧ W = w') := fun O' r W h => made_ref b O' _ r W h.1
    generalize varF s v = rv at *
    clear hI ho HS hv
    go_enter Try.func69, Try.ntmps69
    go_wp2_with fail
    refine HT.out.mono ?_
    rintro e w1 ⟨r, rfl, hr, O', h1, h2⟩
    have H1 := Lib.hid h1
    have H2 := Lib.hid h2
    have HMR := HM.out O' r w1 h1
    rw [hr] at HMR
    have HMR := Lib.hid HMR
    clear h1 h2 hr HM HT
    go_wp2_with (go_at_call 125; (refine HMR.out.mono ?_); rintro e w2 ⟨rfl, rfl⟩)
    go_ret
    exact ⟨rfl, O', H1.out, H2.out⟩

end Go.Proofs.Ytlnkflmnjkmhkaa

/-
  symbv.zip at a store that is there: element by element, each call turns the store.
-/
namespace Go.Proofs.Ytlnkflmnjkmhkaa
open Go.RowKit Go.Maps

/-- Element by element; the store behind it, and what is told. -/
def zipS (g : BS → Int → Int → BS × Int) (xs ys : List Int) : Nat → BS → BS × List Int
  | 0, s => (s, [])
  | n + 1, s => ((g (zipS g xs ys n s).1 (xs.getD n 0) (ys.getD n 0)).1, (zipS g xs ys n s).2 ++ [(g (zipS g xs ys n s).1 (xs.getD n 0) (ys.getD n 0)).2])
theorem zipS_len (g : BS → Int → Int → BS × Int) (xs ys : List Int) (n : Nat) (s : BS) : (zipS g xs ys n s).2.length = n := by
  induction n with
  | zero => rfl
  | succ n ih => simp [zipS, ih]

/-- How a call ends that hands back a vector and turns the store. -/
def RetVS (b : Nat) (O : Nat → Prop) (w : World) (r : BS × List Int) (e : Ending) (w' : World) : Prop :=
  ∃ v O', e = .returned v ∧ IVecX w' O' v r.2 ∧ Sto w' b O' r.1 ∧ Ext O O' w w'

/-- A row of the call's own is beside the store's blocks, and stays where they turn. -/
theorem own_ext {w w' : World} {O O' : Nat → Prop} {base e size n : Nat} {v : Value} {xs : List Value} (h : w.ownsRow base e size v n xs) (hO : ∀ g, v.ownBlock = some g → ¬ O g) (he : Ext O O' w w') :
    w'.ownsRow base e size v n xs ∧ ∀ g, v.ownBlock = some g → ¬ O' g := by
  have hlt := h.lt
  refine ⟨?_, fun g hg hO' => ?_⟩
  · obtain ⟨hl, h⟩ := h
    refine ⟨hl, ?_⟩
    rcases h with h | ⟨g, cap, cur, h1, h2, h3, h4⟩
    · exact .inl h
    · have hg : v.ownBlock = some g := by rw [h1]; rfl
      exact .inr ⟨g, cap, cur, h1, h2, by rw [he.1.block g (hlt g hg).2 (hO g hg)]; exact h3, h4⟩
  · rcases he.2 g hO' with h1 | h1
    · exact hO g hg h1
    · have := (hlt g hg).2; omega

/-- What holds at a round's head: the store, the row, and that nothing beside them has changed. -/
def ZipAt (b : Nat) (O : Nat → Prop) (w : World) (g : BS → Int → Int → BS × Int) (xs ys : List Int) (s0 : BS) (M k : Nat) (wr : World) : Prop :=
  ∃ O', Sto wr b O' (zipS g xs ys k s0).1 ∧ Ext O O' w wr ∧ ¬ O' w.heap.size ∧ wr.ownsRow w.heap.size 3 1 (.slice (some ⟨w.heap.size, 0, none⟩) k M) k ((zipS g xs ys k s0).2.map (Value.int .i64))

/-- A call in a round. -/
theorem ZipAt.call {b : Nat} {O O1 O2 : Nat → Prop} {w wr w1 : World} {s1 : BS} {M k : Nat} {zs : List Value} (he : Ext O O1 w wr) (hg : ¬ O1 w.heap.size) (hown : wr.ownsRow w.heap.size 3 1 (.slice (some ⟨w.heap.size, 0, none⟩) k M) k zs)
    (hs : Sto w1 b O2 s1) (hx : Ext O1 O2 wr w1) : Ext O O2 w w1 ∧ ¬ O2 w.heap.size ∧ w1.ownsRow w.heap.size 3 1 (.slice (some ⟨w.heap.size, 0, none⟩) k M) k zs := by
  obtain ⟨h1, h2⟩ := own_ext hown (fun g h => by cases h; exact hg) hx
  exact ⟨he.trans hx, h2 _ rfl, h1⟩

/-- Behind the append of a round. -/
theorem ZipAt.push {b : Nat} {O O2 : Nat → Prop} {w w1 w2 : World} {o : Obj} {g : BS → Int → Int → BS × Int} {xs ys : List Int} {s0 : BS} {M k : Nat} {x y : Int} (hx : xs.getD k 0 = x) (hy : ys.getD k 0 = y)
    (hs : Sto w1 b O2 (g (zipS g xs ys k s0).1 x y).1) (he : Ext O O2 w w1) (hn : ¬ O2 w.heap.size)
    (hown : w2.ownsRow w.heap.size 3 1 (.slice (some ⟨w.heap.size, 0, none⟩) (k + 1) M) (k + 1) ((zipS g xs ys k s0).2.map (Value.int .i64) ++ [Value.int .i64 (g (zipS g xs ys k s0).1 x y).2]))
    (hg : (w1.alloc o).grownBy w2 (some w.heap.size)) : ZipAt b O w g xs ys s0 M (k + 1) w2 := by
  have e : zipS g xs ys (k + 1) s0 = ((g (zipS g xs ys k s0).1 x y).1, (zipS g xs ys k s0).2 ++ [(g (zipS g xs ys k s0).1 x y).2]) := by rw [zipS, hx, hy]
  refine ⟨O2, ?_, (he.alloc o).grown hg (fun j hj => by cases hj; exact Nat.le_refl _), hn, ?_⟩
  · rw [e]
    refine (hs.below ((Below.refl w1.heap.size w1).alloc (Nat.le_refl _) o)).kept fun j hj => hg.block j ?_ (fun h => hn (by cases h; exact hj))
    have := hs.lt j hj
    simp
    omega
  · rw [e]
    simpa using hown

set_option maxRecDepth 100000 in
set_option maxHeartbeats 1000000 in
theorem zip_sto (f : Nat) (fst cp : Array Value) (g : BS → Int → Int → BS × Int) (b : Nat) (O : Nat → Prop) (s0 : BS) (va vb : Value) (xs ys : List Int) (w : World) (hs : Sto w b O s0) (ha : IVecX w O va xs) (hb : IVecX w O vb ys)
    (hxl : xs.length ≤ 1000000) (hyl : ys.length ≤ 1000000)
    (hf : ∀ (x y : Int) (s : BS) O' W, Ext O O' w W → Sto W b O' s → Calls Try.prog f (fst ++ (#[.int .i64 x, .int .i64 y] ++ cp)) W (RetS b O' W (g s x y)))
    (hcall : ∀ (av : Array Value) (W : World), (callFunc f av).run Try.prog W = .ok (.enter f av) W) :
    Calls Try.prog 81 #[va, vb, .func (.func f) fst cp] w (RetVS b O w (zipS g xs ys (max xs.length ys.length) s0)) := by
  obtain ⟨i0, hi, hz0, hz1, hz2⟩ := info_parts Try.infoInt
  obtain ⟨M, hM⟩ : ∃ M, M = max xs.length ys.length := ⟨_, rfl⟩
  have hMx : xs.length ≤ M := by omega
  have hMy : ys.length ≤ M := by omega
  have hMm : M ≤ 1000000 := by omega
  have hMo : M ≤ xs.length ∨ M ≤ ys.length := by omega
  rw [← hM]
  clear hM
  have HF := Lib.hid hf; clear hf
  have HS := Lib.hid hs; clear hs
  have HAX := Lib.hid ha
  have HBX := Lib.hid hb
  obtain ⟨pa, ca, rfl, ha3, ha4, -⟩ := ha.1.shape
  obtain ⟨pb, cb, rfl, hb3, hb4, -⟩ := hb.1.shape
  clear ha hb
  go_enter Try.func81, Try.ntmps81
  go_wp2_with (first
    | (at_make; refine wpList_make_own _ rfl _ _ 33 rfl w.heap.size 3 i0 (.int .i64 0) 1 Try.underlying33 hi hz0 hz1 .i64 .i64 _ M rfl rfl (by omega) (by rw [hz2]; omega) (by unfold maxLen; omega) (Nat.le_refl _) ?_; intro w0 hown0 hgrow0))
  all_goals
    have H0 : Hid (ZipAt b O w g xs ys s0 M 0 w0) := ⟨O, HS.out.below ((Below.refl _ _).grown hgrow0 (Nat.le_refl _) (fun k h => by cases h)), Ext.of_below ((Below.refl _ _).grown hgrow0 (Nat.le_refl _) (fun k h => by cases h)), fun h => by have := HS.out.lt _ h; omega, hown0⟩
    clear hown0 hgrow0
    go_loopw [7, 19] (fun v i wr => ∃ k : Nat, k ≤ M ∧ i = .int .i64 k ∧ v = .slice (some ⟨w.heap.size, 0, none⟩) k M ∧ Hid (ZipAt b O w g xs ys s0 M k wr))
      (fun _ i _ => M - (intOf i).toNat)
    case atStart => exact ⟨0, Nat.zero_le _, rfl, rfl, H0⟩
    case round =>
      obtain ⟨k, hk, rfl, rfl, HZ⟩ := hrel
      by_cases hlt : k < M
      · obtain ⟨O1, hs1, he1, hn1, hown1⟩ := HZ.out
        have hA := HAX.out.ext he1
        have hB := HBX.out.ext he1
        have HS1 := Lib.hid hs1
        have HE1 := Lib.hid he1
        have HN1 := Lib.hid hn1
        have HO1 := Lib.hid hown1
        clear hs1 he1 hn1 hown1
        by_cases hka : k < xs.length
        · by_cases hkb : k < ys.length
          · try (exfalso; omega)
            all_goals
              obtain ⟨pa', ca', ea', -, -, hac⟩ := hA.1
              obtain ⟨ba, oa, ea2, ha2, ha6⟩ := hac (by omega)
              simp only [Value.slice.injEq] at ea'
              obtain ⟨ea1, -, -⟩ := ea'
              subst ea1
              subst ea2
              have ga := ha6 k hka
              have ex : Hid (xs.getD k 0 = xs[k]) := by show _ = _; simp [hka]
              rw [ex.out] at ga
              clear hac ha6
              obtain ⟨pb', cb', eb', -, -, hbc⟩ := hB.1
              obtain ⟨bb, ob, eb2, hb2, hb6⟩ := hbc (by omega)
              simp only [Value.slice.injEq] at eb'
              obtain ⟨eb1, -, -⟩ := eb'
              subst eb1
              subst eb2
              have gb := hb6 k hkb
              have ey : Hid (ys.getD k 0 = ys[k]) := by show _ = _; simp [hkb]
              rw [ey.out] at gb
              clear hbc hb6
              clear hA hB
              go_wp2_with fail
              refine (HF.out _ _ _ O1 _ HE1.out HS1.out).mono ?_
              rintro e w1 ⟨rfl, O2, hs2, hx2⟩
              obtain ⟨he2, hn2, hown2⟩ := ZipAt.call HE1.out HN1.out HO1.out hs2 hx2
              have HS2 := Lib.hid hs2
              have HE2 := Lib.hid he2
              have HN2 := Lib.hid hn2
              clear hs2 hx2 he2 hn2
              go_wp2_with (at_builtin; refine wpList_append_fits _ rfl (.tmp 38) (.tmp 43) 33 rfl w.heap.size 3 i0 1 Try.underlying33 hi hz1 w.heap.size k M _ rfl (hown2.alloc _) ⟨w1.heap.size, 0, none⟩ 1 1 [.int .i64 _] rfl rfl (cell_one_new _ _ _) (ints_oneCell .i64 [_]) (by omega) ?_; intro w2 hown3 hgrow3)
              have HK : Hid (ZipAt b O w g xs ys s0 M (k + 1) w2) := ZipAt.push ex.out ey.out HS2.out HE2.out HN2.out hown3 hgrow3
              clear hown2 hown3 hgrow3
              go_roundw
              case rel => exact ⟨k + 1, by omega, by go_num, rfl, HK⟩
              case measure => simp [intOf]; omega
          · try (exfalso; omega)
            all_goals
              obtain ⟨pa', ca', ea', -, -, hac⟩ := hA.1
              obtain ⟨ba, oa, ea2, ha2, ha6⟩ := hac (by omega)
              simp only [Value.slice.injEq] at ea'
              obtain ⟨ea1, -, -⟩ := ea'
              subst ea1
              subst ea2
              have ga := ha6 k hka
              have ex : Hid (xs.getD k 0 = xs[k]) := by show _ = _; simp [hka]
              rw [ex.out] at ga
              clear hac ha6
              have ey : Hid (ys.getD k 0 = 0) := by show _ = _; simp [List.getElem?_eq_none (Nat.le_of_not_lt hkb)]
              clear hA hB
              go_wp2_with fail
              refine (HF.out _ _ _ O1 _ HE1.out HS1.out).mono ?_
              rintro e w1 ⟨rfl, O2, hs2, hx2⟩
              obtain ⟨he2, hn2, hown2⟩ := ZipAt.call HE1.out HN1.out HO1.out hs2 hx2
              have HS2 := Lib.hid hs2
              have HE2 := Lib.hid he2
              have HN2 := Lib.hid hn2
              clear hs2 hx2 he2 hn2
              go_wp2_with (at_builtin; refine wpList_append_fits _ rfl (.tmp 38) (.tmp 43) 33 rfl w.heap.size 3 i0 1 Try.underlying33 hi hz1 w.heap.size k M _ rfl (hown2.alloc _) ⟨w1.heap.size, 0, none⟩ 1 1 [.int .i64 _] rfl rfl (cell_one_new _ _ _) (ints_oneCell .i64 [_]) (by omega) ?_; intro w2 hown3 hgrow3)
              have HK : Hid (ZipAt b O w g xs ys s0 M (k + 1) w2) := ZipAt.push ex.out ey.out HS2.out HE2.out HN2.out hown3 hgrow3
              clear hown2 hown3 hgrow3
              go_roundw
              case rel => exact ⟨k + 1, by omega, by go_num, rfl, HK⟩
              case measure => simp [intOf]; omega
        · by_cases hkb : k < ys.length
          · try (exfalso; omega)
            all_goals
              have ex : Hid (xs.getD k 0 = 0) := by show _ = _; simp [List.getElem?_eq_none (Nat.le_of_not_lt hka)]
              obtain ⟨pb', cb', eb', -, -, hbc⟩ := hB.1
              obtain ⟨bb, ob, eb2, hb2, hb6⟩ := hbc (by omega)
              simp only [Value.slice.injEq] at eb'
              obtain ⟨eb1, -, -⟩ := eb'
              subst eb1
              subst eb2
              have gb := hb6 k hkb
              have ey : Hid (ys.getD k 0 = ys[k]) := by show _ = _; simp [hkb]
              rw [ey.out] at gb
              clear hbc hb6
              clear hA hB
              go_wp2_with fail
              refine (HF.out _ _ _ O1 _ HE1.out HS1.out).mono ?_
              rintro e w1 ⟨rfl, O2, hs2, hx2⟩
              obtain ⟨he2, hn2, hown2⟩ := ZipAt.call HE1.out HN1.out HO1.out hs2 hx2
              have HS2 := Lib.hid hs2
              have HE2 := Lib.hid he2
              have HN2 := Lib.hid hn2
              clear hs2 hx2 he2 hn2
              go_wp2_with (at_builtin; refine wpList_append_fits _ rfl (.tmp 38) (.tmp 43) 33 rfl w.heap.size 3 i0 1 Try.underlying33 hi hz1 w.heap.size k M _ rfl (hown2.alloc _) ⟨w1.heap.size, 0, none⟩ 1 1 [.int .i64 _] rfl rfl (cell_one_new _ _ _) (ints_oneCell .i64 [_]) (by omega) ?_; intro w2 hown3 hgrow3)
              have HK : Hid (ZipAt b O w g xs ys s0 M (k + 1) w2) := ZipAt.push ex.out ey.out HS2.out HE2.out HN2.out hown3 hgrow3
              clear hown2 hown3 hgrow3
              go_roundw
              case rel => exact ⟨k + 1, by omega, by go_num, rfl, HK⟩
              case measure => simp [intOf]; omega
          · exfalso; omega
      · obtain rfl : k = M := by omega
        go_wp2_with fail
        go_ret
        obtain ⟨O1, hs1, he1, hn1, hown1⟩ := HZ.out
        exact ⟨_, O1, rfl, ⟨IVec.of_owns (zipS_len _ _ _ _ _) hown1, fun j hj _ => by cases hj; exact hn1, NilOk.some _ _ _⟩, hs1, he1⟩

end Go.Proofs.Ytlnkflmnjkmhkaa

/-
  Contracts of symop.sum and its closure at a store that is there, by their plain laws.
-/
namespace Go.Proofs.Ytlnkflmnjkmhkaa
open Go.RowKit Go.Maps

/-- A bit of a sum: the calls, one by one. -/
def oneS (s : BS) (x y : Int) : BS × Int := xorF s x y
def bitS (s : BS) (c x y : Int) : BS × Int := xorF (oneS s x y).1 (oneS s x y).2 c
def bothS (s : BS) (c x y : Int) : BS × Int := andF (bitS s c x y).1 x y
def otherS (s : BS) (c x y : Int) : BS × Int := andF (bothS s c x y).1 c (oneS s x y).2
def carryS (s : BS) (c x y : Int) : BS × Int := orF (otherS s c x y).1 (bothS s c x y).2 (otherS s c x y).2

/-- The closure's two variables beside a store: the store's pointer; the bits up to now. -/
structure SumStS (w : World) (b : Nat) (Os : Nat → Prop) (s : BS) (O : Nat → Prop) (bS bV : Nat) (bits : List Int) : Prop where
  sto : Sto w b Os s
  cS : w.cell? ⟨bS, 0, none⟩ = some (.pointer (some ⟨b, 0, none⟩))
  nS : ¬ O bS
  nSs : ¬ Os bS
  fV : w.frozen? ⟨bV, 0, none⟩ = false
  vec : ∃ vv, w.cell? ⟨bV, 0, none⟩ = some vv ∧ w.ownsRow 0 3 1 vv bits.length (bits.map (Value.int .i64)) ∧ vv.ownBlock ≠ some bV ∧ ∀ j, O j ↔ j = bV ∨ vv.ownBlock = some j
  apart : ∀ j, Os j → ¬ O j

theorem SumStS.ltO {w : World} {b : Nat} {Os : Nat → Prop} {s : BS} {O : Nat → Prop} {bS bV : Nat} {bits : List Int} (h : SumStS w b Os s O bS bV bits) : ∀ j, O j → j < w.heap.size := by
  obtain ⟨vv, h5, h6, h7, h8⟩ := h.vec
  intro j hj
  rcases (h8 j).1 hj with rfl | e
  · exact (cell_there h5).1
  · exact (h6.lt j e).2

/-- Behind a call that turns the store alone. -/
theorem SumStS.ext {w w' : World} {b : Nat} {Os Os' : Nat → Prop} {s s' : BS} {O : Nat → Prop} {bS bV : Nat} {bits : List Int} (h : SumStS w b Os s O bS bV bits) (hs : Sto w' b Os' s') (he : Ext Os Os' w w') : SumStS w' b Os' s' O bS bV bits := by
  obtain ⟨h1, h2, h3, h4, h5, ⟨vv, h6, h7, h8, h9⟩, h10⟩ := h
  have nV : ¬ Os bV := fun hh => h10 _ hh ((h9 bV).2 (.inl rfl))
  have eS := he.cell (p := ⟨bS, 0, none⟩) (cell_there h2).1 h4
  have eV := he.cell (p := ⟨bV, 0, none⟩) (cell_there h6).1 nV
  refine ⟨hs, eS.1.trans h2, h3, eS.2.2, eV.2.1.trans h5, ⟨vv, eV.1.trans h6, ?_, h8, h9⟩, fun j hj hO => ?_⟩
  · obtain ⟨hl, h | ⟨g, cap, cur, q1, q2, q3, q4⟩⟩ := h7
    · exact ⟨hl, .inl h⟩
    · have hg : g < w.heap.size := (Array.getElem?_eq_some_iff.1 q3).1
      refine ⟨hl, .inr ⟨g, cap, cur, q1, q2, ?_, q4⟩⟩
      rw [he.1.block g hg (fun hh => h10 _ hh ((h9 g).2 (.inr (by rw [q1]; rfl))))]
      exact q3
  · have hlt : j < w.heap.size := by
      rcases (h9 j).1 hO with rfl | e
      · exact (cell_there h6).1
      · exact (h7.lt j e).2
    rcases he.2 j hj with q | q
    · exact h10 j q hO
    · omega

theorem SumStS.below {w w' : World} {b : Nat} {Os : Nat → Prop} {s : BS} {O : Nat → Prop} {bS bV : Nat} {bits : List Int} (h : SumStS w b Os s O bS bV bits) (hb : Below w.heap.size w w') : SumStS w' b Os s O bS bV bits :=
  h.ext (h.sto.below hb) (Ext.of_below hb)

theorem Ext.wider {O O' Z : Nat → Prop} {w w' : World} (h : Ext O O' w w') : Ext (fun j => O j ∨ Z j) (fun j => O' j ∨ Z j) w w' :=
  ⟨⟨h.1.os, h.1.tape, h.1.output, h.1.size, fun k hk hO => h.1.block k hk (fun hh => hO (.inl hh))⟩, fun k hk => by
    rcases hk with hk | hk
    · rcases h.2 k hk with q | q
      · exact .inl (.inl q)
      · exact .inr q
    · exact .inl (.inr hk)⟩

theorem sumstS_push {w A w3 : World} {b : Nat} {Os O : Nat → Prop} {s : BS} {bS bV : Nat} {bits : List Int} {z : Int} {vv v' : Value} (h : SumStS w b Os s O bS bV bits) (hv : w.cell? ⟨bV, 0, none⟩ = some vv) (hA : Below w.heap.size w A)
    (hg : A.grownBy w3 vv.ownBlock) (hwh : v'.ownBlock = vv.ownBlock ∨ ∀ j, v'.ownBlock = some j → A.heap.size ≤ j) (hown : w3.ownsRow 0 3 1 v' (bits.length + 1) (bits.map (Value.int .i64) ++ [.int .i64 z]))
    (hc : ∃ x, w3.cell? ⟨bV, 0, none⟩ = some x) (hf : w3.frozen? ⟨bV, 0, none⟩ = false) :
    ∃ O', SumStS (w3.setCell ⟨bV, 0, none⟩ v') b Os s O' bS bV (bits ++ [z]) ∧ Ext (fun j => Os j ∨ O j) (fun j => Os j ∨ O' j) w (w3.setCell ⟨bV, 0, none⟩ v') := by
  have hlO := h.ltO
  obtain ⟨h1, h2, h3, h4, h5, ⟨vv', h6, h7, h8, h9⟩, h10⟩ := h
  rw [hv] at h6
  cases h6
  have hAs := hA.size
  have hs3 := hg.size
  have hlV : bV < w.heap.size := (cell_there hv).1
  have hvb : v'.ownBlock ≠ some bV := fun e => by
    rcases hwh with q | q
    · exact h8 (q ▸ e)
    · have := q bV e; omega
  have hblk : ∀ j, j < w.heap.size → ¬ O j → (w3.setCell ⟨bV, 0, none⟩ v').heap[j]? = w.heap[j]? := fun j hj hO => by
    have q1 : j ≠ bV := fun e => hO ((h9 j).2 (.inl e))
    have q2 : vv.ownBlock ≠ some j := fun e => hO ((h9 j).2 (.inr e))
    rw [Below.heap_setCell w3 ⟨bV, 0, none⟩ v' j q1, hg.block j (by omega) (fun e => q2 e.symm)]
    exact hA.block j hj
  have hE : Ext O (fun j => j = bV ∨ v'.ownBlock = some j) w (w3.setCell ⟨bV, 0, none⟩ v') := by
    refine ⟨⟨hg.os.trans hA.os, hg.tape.trans hA.tape, hg.output.trans hA.output, by simp [World.setCell]; omega, hblk⟩, fun j hj => ?_⟩
    rcases hj with rfl | hj
    · exact .inl ((h9 _).2 (.inl rfl))
    · rcases hwh with q | q
      · exact .inl ((h9 _).2 (.inr (q ▸ hj)))
      · exact .inr (by have := q j hj; omega)
  obtain ⟨x, hc⟩ := hc
  have e := hE.cell (p := ⟨bS, 0, none⟩) (cell_there h2).1 h3
  refine ⟨fun j => j = bV ∨ v'.ownBlock = some j, ⟨h1.kept fun k hk => hblk k (h1.lt k hk) (h10 k hk), e.1.trans h2, e.2.2, h4, by rw [World.frozen?_setCell]; exact hf, ⟨v', World.cell?_setCell_same _ _ _ hc, ?_, hvb, fun j => Iff.rfl⟩, fun j hj hO => ?_⟩, ?_⟩
  · rw [List.length_append, List.map_append]
    exact own_setCell hown hvb v'
  · have hjl := h1.lt j hj
    rcases hE.2 j hO with q | q
    · exact h10 j hj q
    · omega
  · refine ⟨⟨hE.1.os, hE.1.tape, hE.1.output, hE.1.size, fun j hj hO => hblk j hj (fun hh => hO (.inr hh))⟩, fun j hj => ?_⟩
    rcases hj with hj | hj
    · exact .inl (.inl hj)
    · rcases hE.2 j hj with q | q
      · exact .inl (.inr q)
      · exact .inr q

theorem SumStS.row {w : World} {b : Nat} {Os : Nat → Prop} {s : BS} {O : Nat → Prop} {bS bV : Nat} {bits : List Int} {vv : Value} (h : SumStS w b Os s O bS bV bits) (hv : w.cell? ⟨bV, 0, none⟩ = some vv) :
    w.ownsRow 0 3 1 vv bits.length (bits.map (Value.int .i64)) ∧ vv.ownBlock ≠ some bV ∧ ∀ j, O j ↔ j = bV ∨ vv.ownBlock = some j := by
  obtain ⟨vv', h6, h7, h8, h9⟩ := h.vec
  rw [hv] at h6
  cases h6
  exact ⟨h7, h8, h9⟩
theorem SumStS.nV {w : World} {b : Nat} {Os : Nat → Prop} {s : BS} {O : Nat → Prop} {bS bV : Nat} {bits : List Int} (h : SumStS w b Os s O bS bV bits) : ¬ Os bV ∧ O bV := by
  obtain ⟨vv', h6, h7, h8, h9⟩ := h.vec
  have := (h9 bV).2 (.inl rfl)
  exact ⟨fun hh => h.apart _ hh this, this⟩

/-- Behind a call that turns the store alone a block of ours, and the box, are as they were. -/
theorem SumStS.keep {w w' : World} {b : Nat} {Os Os' : Nat → Prop} {s : BS} {O : Nat → Prop} {bS bV : Nat} {bits : List Int} (h : SumStS w b Os s O bS bV bits) (he : Ext Os Os' w w') :
    w'.cell? ⟨bS, 0, none⟩ = w.cell? ⟨bS, 0, none⟩ ∧ w'.cell? ⟨bV, 0, none⟩ = w.cell? ⟨bV, 0, none⟩ ∧ w'.frozen? ⟨bV, 0, none⟩ = w.frozen? ⟨bV, 0, none⟩ := by
  obtain ⟨vv, h6, -⟩ := h.vec
  exact ⟨(he.cell (p := ⟨bS, 0, none⟩) (cell_there h.cS).1 h.nSs).1, (he.cell (p := ⟨bV, 0, none⟩) (cell_there h6).1 h.nV.1).1, (he.cell (p := ⟨bV, 0, none⟩) (cell_there h6).1 h.nV.1).2.1⟩

set_option maxRecDepth 100000 in
set_option maxHeartbeats 1600000 in
theorem sum1_sto (b : Nat) (Os O : Nat → Prop) (s : BS) (bS bV : Nat) (bits : List Int) (c x y : Int) (w : World) (hk : bits.length ≤ 1000000) (h : SumStS w b Os s O bS bV bits) :
    Calls Try.prog 145 #[.int .i64 c, .agg #[.int .i64 x, .int .i64 y], .pointer (some ⟨bS, 0, none⟩), .pointer (some ⟨bV, 0, none⟩)] w fun e w' => e = .returned (.int .i64 (carryS s c x y).2) ∧
      ∃ Os' O', SumStS w' b Os' (carryS s c x y).1 O' bS bV (bits ++ [(bitS s c x y).2]) ∧ Ext (fun j => Os j ∨ O j) (fun j => Os' j ∨ O' j) w w' := by
  obtain ⟨i0, hi, hz0, hz1, hz2⟩ := info_parts Try.infoInt
  have HS := Lib.hid h
  obtain ⟨vv, h5, h6, h7, h8⟩ := h.vec
  obtain ⟨pv, cv, rfl, -⟩ := own_shape h6
  have h1 := h.cS
  have hlS := (cell_there h1).1
  have hlV := (cell_there h5).1
  have H1 : Hid (∀ W, Below w.heap.size w W → Calls Try.prog 84 #[.pointer (some ⟨b, 0, none⟩), .int .i64 x, .int .i64 y] W (RetS b Os W (oneS s x y))) := fun W hW => xor_sto b Os s x y W (h.sto.below hW)
  have H2 : Hid (∀ Os' W, Sto W b Os' (oneS s x y).1 → Calls Try.prog 84 #[.pointer (some ⟨b, 0, none⟩), .int .i64 (oneS s x y).2, .int .i64 c] W (RetS b Os' W (bitS s c x y))) := fun Os' W hW => xor_sto b Os' _ _ _ W hW
  have H3 : Hid (∀ Os' W, Sto W b Os' (bitS s c x y).1 → Calls Try.prog 82 #[.pointer (some ⟨b, 0, none⟩), .int .i64 x, .int .i64 y] W (RetS b Os' W (bothS s c x y))) := fun Os' W hW => and_sto b Os' _ _ _ W hW
  have H4 : Hid (∀ Os' W, Sto W b Os' (bothS s c x y).1 → Calls Try.prog 82 #[.pointer (some ⟨b, 0, none⟩), .int .i64 c, .int .i64 (oneS s x y).2] W (RetS b Os' W (otherS s c x y))) := fun Os' W hW => and_sto b Os' _ _ _ W hW
  have H5 : Hid (∀ Os' W, Sto W b Os' (otherS s c x y).1 → Calls Try.prog 83 #[.pointer (some ⟨b, 0, none⟩), .int .i64 (bothS s c x y).2, .int .i64 (otherS s c x y).2] W (RetS b Os' W (carryS s c x y))) := fun Os' W hW => or_sto b Os' _ _ _ W hW
  generalize carryS s c x y = r5 at *
  generalize otherS s c x y = r4 at *
  generalize bothS s c x y = r3 at *
  generalize bitS s c x y = r2 at *
  generalize oneS s x y = r1 at *
  obtain ⟨s1, i1⟩ := r1
  obtain ⟨s2, i2⟩ := r2
  obtain ⟨s3, i3⟩ := r3
  obtain ⟨s4, i4⟩ := r4
  obtain ⟨s5, i5⟩ := r5
  dsimp only at H1 H2 H3 H4 H5 ⊢
  clear h h6 h7 h8
  go_enter Try.func145, Try.ntmps145
  go_wp2_with fail
  refine (H1.out _ (by repeat (first | exact Below.refl _ _ | assumption | refine Below.drew ?_ | refine Below.alloc ?_ (by first | omega | (simp <;> omega)) _ | refine Below.setCell ?_ (by first | omega | (simp <;> omega)) _ | refine Below.trans ?_ (Below.mono (by assumption) (by first | omega | (simp <;> omega)))))).mono ?_
  rintro e w1 ⟨rfl, Os1, hs1, he1⟩
  dsimp only at hs1
  have hbA : Below w.heap.size w (w.alloc (.cells #[.int .i64 x, .int .i64 y] 131)) := (by repeat (first | exact Below.refl _ _ | assumption | refine Below.drew ?_ | refine Below.alloc ?_ (by first | omega | (simp <;> omega)) _ | refine Below.setCell ?_ (by first | omega | (simp <;> omega)) _ | refine Below.trans ?_ (Below.mono (by assumption) (by first | omega | (simp <;> omega)))))
  have hst1 := (HS.out.below hbA).ext hs1 he1
  have hn : ¬ Os w.heap.size := fun hh => by have := HS.out.sto.lt _ hh; omega
  have hnO : ¬ O w.heap.size := fun hh => by have := HS.out.ltO _ hh; omega
  have kx := he1.cell (p := ⟨w.heap.size, 0, none⟩) (by simp) hn
  have x0 : w1.cell? ⟨w.heap.size, 0, none⟩ = some (.int .i64 x) := by rw [kx.1]; simp [go_sem]
  have x1 : w1.cell? ⟨w.heap.size, 1, none⟩ = some (.int .i64 y) := by rw [(he1.cell (p := ⟨w.heap.size, 1, none⟩) (by simp) hn).1]; simp [go_sem]
  have k1 := (HS.out.below hbA).keep he1
  have s1c : w1.cell? ⟨bS, 0, none⟩ = some (.pointer (some ⟨b, 0, none⟩)) := hst1.cS
  have v1 : w1.cell? ⟨bV, 0, none⟩ = some (.slice pv bits.length cv) := k1.2.1.trans ((hbA.cell (p := ⟨bV, 0, none⟩) hlV).trans h5)
  have f1 : w1.frozen? ⟨bV, 0, none⟩ = false := hst1.fV
  have hsz1 : w.heap.size < w1.heap.size := (cell_there x0).1
  have hn1 : ¬ Os1 w.heap.size := kx.2.2
  have HE1 : Hid (Ext (fun j => Os j ∨ O j) (fun j => Os1 j ∨ O j) w w1) := ((Ext.of_below hbA).trans he1).wider
  have HST1 := Lib.hid hst1
  clear hs1 he1 hbA hst1 kx k1 hn h1 h5 H1 HS
  go_wp2_with fail
  go_region_law (first
    | (refine step_append_two rfl (.tmp 16) (.tmp 21) 34 rfl 3 i0 (.int .i64 0) 1 8 Try.underlying34 hi hz0 hz1 hz2 rfl (by decide) _ bits.length _ rfl ((HST2.out.row v2).1.alloc _) ⟨w2.heap.size, 0, none⟩ 1 1 [.int .i64 i2] rfl rfl (cell_one_new _ _ _) (ints_oneCell .i64 [i2]) (by unfold maxLen; omega) (by omega) ?_; intro v' w3 hown3 hgrow3 hwhere; obtain ⟨pv', cv', rfl, hlv⟩ := own_shape hown3; have v3 : w3.cell? ⟨bV, 0, none⟩ = some (.slice pv bits.length cv) := hgrow3.cell (a := ⟨bV, 0, none⟩) ((World.cell?_alloc_lt _ _ _ l2).trans v2) (fun h => (HST2.out.row v2).2.1 h.symm); have f3 : w3.frozen? ⟨bV, 0, none⟩ = false := (World.frozen?_of_block (a := ⟨bV, 0, none⟩) (hgrow3.block bV (by simp; omega) (fun h => (HST2.out.row v2).2.1 h.symm))).trans ((((Below.refl w2.heap.size w2).alloc (Nat.le_refl _) _).frozen (p := ⟨bV, 0, none⟩) l2).trans f2))
    | (go_simp; go_at_call 84; refine (H2.out Os1 _ (HST1.out.sto.below (below_drewN (Below.refl _ _) 1))).mono ?_; rintro e w2 ⟨rfl, Os2, hs2, he2⟩; dsimp only at hs2; have HST2 := Lib.hid ((HST1.out.below (below_drewN (Below.refl _ _) 1)).ext hs2 he2); have v2 : w2.cell? ⟨bV, 0, none⟩ = some (.slice pv bits.length cv) := ((HST1.out.below (below_drewN (Below.refl _ _) 1)).keep he2).2.1.trans v1; have f2 : w2.frozen? ⟨bV, 0, none⟩ = false := HST2.out.fV; have l2 : bV < w2.heap.size := (cell_there v2).1; have y0 : w2.cell? ⟨w.heap.size, 0, none⟩ = some (.int .i64 x) := (he2.cell (p := ⟨w.heap.size, 0, none⟩) hsz1 hn1).1.trans x0; have y1 : w2.cell? ⟨w.heap.size, 1, none⟩ = some (.int .i64 y) := (he2.cell (p := ⟨w.heap.size, 1, none⟩) hsz1 hn1).1.trans x1; have hn2 : ¬ Os2 w.heap.size := (he2.cell (p := ⟨w.heap.size, 0, none⟩) hsz1 hn1).2.2; have HE2 : Hid (Ext (fun j => Os1 j ∨ O j) (fun j => Os2 j ∨ O j) w1 w2) := ((Ext.of_below (below_drewN (Below.refl _ _) 1)).trans he2).wider; clear hs2 he2))
  all_goals
    have HP := Lib.hid (sumstS_push HST2.out v2 ((Below.refl w2.heap.size w2).alloc (Nat.le_refl _) _) hgrow3 hwhere hown3 ⟨_, v3⟩ f3)
    have hwr : some w.heap.size ≠ (Value.slice pv bits.length cv).ownBlock := fun h => hnO (((HST2.out.row v2).2.2 _).2 (.inr h.symm))
    have hVw : ¬ bV = w.heap.size := fun h => hnO (h ▸ HST2.out.nV.2)
    have z0 : w3.cell? ⟨w.heap.size, 0, none⟩ = some (.int .i64 x) := hgrow3.cell (a := ⟨w.heap.size, 0, none⟩) ((World.cell?_alloc_lt w2 _ ⟨w.heap.size, 0, none⟩ (cell_there y0).1).trans y0) hwr
    have z1 : w3.cell? ⟨w.heap.size, 1, none⟩ = some (.int .i64 y) := hgrow3.cell (a := ⟨w.heap.size, 1, none⟩) ((World.cell?_alloc_lt w2 _ ⟨w.heap.size, 1, none⟩ (cell_there y0).1).trans y1) hwr
    have g0 : (w3.setCell ⟨bV, 0, none⟩ (.slice pv' (bits.length + 1) cv')).cell? ⟨w.heap.size, 0, none⟩ = some (.int .i64 x) := (World.cell?_setCell_other _ _ _ _ (by simp [hVw])).trans z0
    have g1 : (w3.setCell ⟨bV, 0, none⟩ (.slice pv' (bits.length + 1) cv')).cell? ⟨w.heap.size, 1, none⟩ = some (.int .i64 y) := (World.cell?_setCell_other _ _ _ _ (by simp [hVw])).trans z1
    clear hgrow3 hwhere hown3 v3 f3 y0 y1 z0 z1 hwr v2 f2 l2 v1 f1 s1c x0 x1
    generalize w3.setCell ⟨bV, 0, none⟩ (.slice pv' (bits.length + 1) cv') = Y at *
    obtain ⟨O', hst, hext⟩ := HP.out
    have HST := Lib.hid hst
    have HEX := Lib.hid hext
    have s3c := hst.cS
    have hlY := (cell_there g0).1
    clear hst hext HP
    go_wp2_with fail
    refine (H3.out Os2 _ HST.out.sto).mono ?_
    rintro e w5 ⟨rfl, Os3, hs3, he3⟩
    dsimp only at hs3
    have hst3 := HST.out.ext hs3 he3
    have s5c : w5.cell? ⟨bS, 0, none⟩ = some (.pointer (some ⟨b, 0, none⟩)) := hst3.cS
    have HST3 := Lib.hid hst3
    have HE3 := Lib.hid he3
    clear hst3 hs3 he3
    go_wp2_with fail
    refine (H4.out Os3 _ HST3.out.sto).mono ?_
    rintro e w6 ⟨rfl, Os4, hs4, he4⟩
    dsimp only at hs4
    have hst4 := HST3.out.ext hs4 he4
    have s6c : w6.cell? ⟨bS, 0, none⟩ = some (.pointer (some ⟨b, 0, none⟩)) := hst4.cS
    have HST4 := Lib.hid hst4
    have HE4 := Lib.hid he4
    clear hst4 hs4 he4
    go_wp2_with fail
    refine (H5.out Os4 _ HST4.out.sto).mono ?_
    rintro e w7 ⟨rfl, Os5, hs5, he5⟩
    dsimp only at hs5
    have HST5 := Lib.hid (HST4.out.ext hs5 he5)
    have HE5 := Lib.hid he5
    clear hs5 he5
    go_wp2_with fail
    go_ret
    exact ⟨rfl, Os5, O', HST5.out, HE1.out.trans (HE2.out.trans (HEX.out.trans (HE3.out.wider.trans (HE4.out.wider.trans HE5.out.wider))))⟩

end Go.Proofs.Ytlnkflmnjkmhkaa

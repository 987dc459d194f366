/-
  flow.comes.
-/
import Derived.Test.YtfhleldmkhllaaaFlowS
import Derived.Shelf.AbstractIn
namespace Go.Proofs.Ytfhleldmkhllaaa
open Go.RowKit Flow Go.Shelf

attribute [local go_sem] Oper.semAt_some

/-- Block g holds r 0 .. r n. -/
def RowT (W : World) (g n : Nat) (r : Nat → Nat) : Prop := ∃ arr : Array Value, W.heap[g]? = some (.cells arr 3 (0, 0)) ∧ arr.size = n + 1 ∧ ∀ q, q ≤ n → arr[q]? = some (.int .i64 ((r q : Nat) : Int))
theorem RowT.cell {W : World} {g n : Nat} {r : Nat → Nat} (h : RowT W g n r) {q : Nat} (hq : q ≤ n) : W.cell? ⟨g, q, none⟩ = some (.int .i64 ((r q : Nat) : Int)) := by
  obtain ⟨arr, h1, h2, h3⟩ := h
  simp [World.cell?, h1, h3 q hq]
theorem RowT.frozen {W : World} {g n : Nat} {r : Nat → Nat} (h : RowT W g n r) (q : Nat) : W.frozen? ⟨g, q, none⟩ = false := by
  obtain ⟨arr, h1, h2, h3⟩ := h
  simp [World.frozen?, h1]
theorem RowT.lt {W : World} {g n : Nat} {r : Nat → Nat} (h : RowT W g n r) : g < W.heap.size := by
  obtain ⟨arr, h1, -⟩ := h
  exact (Array.getElem?_eq_some_iff.1 h1).1
theorem RowT.keep {W W' : World} {g n : Nat} {r : Nat → Nat} (h : RowT W g n r) (hk : W'.heap[g]? = W.heap[g]?) : RowT W' g n r := by
  obtain ⟨arr, h1, h2⟩ := h
  exact ⟨arr, hk.trans h1, h2⟩
theorem RowT.set {W : World} {g n : Nat} {r : Nat → Nat} (h : RowT W g n r) {q : Nat} (hq : q ≤ n) (v : Nat) : RowT (W.setCell ⟨g, q, none⟩ (.int .i64 (v : Int))) g n (fun p => if p = q then v else r p) := by
  obtain ⟨arr, h1, h2, h3⟩ := h
  refine ⟨_, heap_setCell_same _ _ _ _ _ _ h1, by simpa using h2, fun p hp => ?_⟩
  rw [Array.getElem?_setIfInBounds]
  by_cases e : q = p
  · subst e
    rw [if_pos rfl, if_pos (by omega)]
    simp
  · have e' : ¬ p = q := fun z => e (Eq.symm z)
    rw [if_neg e]
    simp only [if_neg e']
    exact h3 p hp
theorem RowT.of_owns {W : World} {base g m : Nat} {xs : List Value} {r : Nat → Nat} (h : W.ownsRow base 3 1 (.slice (some ⟨g, 0, none⟩) (m + 1) (m + 1)) (m + 1) xs) (hx : ∀ q, q ≤ m → xs[q]? = some (.int .i64 ((r q : Nat) : Int))) : RowT W g m r := by
  rcases h.2 with ⟨q, -⟩ | ⟨g', cap, cur, q1, q2, q3, q4, q5, q6, q7⟩
  · cases q
  · simp only [Value.slice.injEq, Option.some.injEq, Addr.mk.injEq, and_true, true_and] at q1
    obtain ⟨rfl, rfl⟩ := q1
    refine ⟨cur, q3, by omega, fun q hq => ?_⟩
    have := hx q hq
    rw [← q7, List.getElem?_take_of_lt (by omega)] at this
    simpa using this
theorem rowT_own {β : Type} (g n : Nat) (f : β → Nat → Nat) : Own (fun s W => RowT W g n (f s)) := fun s X Y row hs hg hrow => by
  obtain ⟨arr, h1, h2⟩ := hs
  exact ⟨arr, (grownBy_keeps_cells hg hrow h1 rfl).trans h1, h2⟩

theorem toList_madeCells_zero (n : Nat) : (madeCells (Value.int .i64 0).cells (n * 1)).toList = List.replicate n (Value.int .i64 0) := by
  rw [Nat.mul_one]; exact toList_madeCells_one _ n

theorem grownBy_setCell_at (w : World) (b i : Nat) (v : Value) : w.grownBy (w.setCell ⟨b, i, none⟩ v) (some b) :=
  ⟨rfl, rfl, rfl, by simp, fun k _ hk => by
    show (w.heap.modify b _)[k]? = _
    rw [Array.getElem?_modify, if_neg (fun e => hk (by rw [e]))]⟩

theorem Kb.alloc {n₀ Bs : Nat} {W : World} (h0 : n₀ ≤ W.heap.size) (hB : Bs < W.heap.size) (o : Obj) : Kb n₀ Bs W (W.alloc o) := fun g hg => Below.heap_alloc _ _ _ (by rcases hg with q | q <;> omega)
theorem RowT.congr {W : World} {g n : Nat} {r r' : Nat → Nat} (h : RowT W g n r) (he : ∀ q, q ≤ n → r q = r' q) : RowT W g n r' := by
  obtain ⟨arr, h1, h2, h3⟩ := h
  exact ⟨arr, h1, h2, fun q hq => by rw [← he q hq]; exact h3 q hq⟩

theorem infoInt2 : (Try.prog.info? 3).map (fun i => (i.zero, i.size, i.bytes)) = some (some (.int .i64 0), 1, 8) := by kernel_rfl

set_option maxRecDepth 100000 in
set_option maxHeartbeats 4000000 in
theorem comes_in (n : Nat) (hn : 6 ≤ n) (b o cap : Nat) (l : List Ins) (evf : Nat → Value) (X : Nat → Prop) (w : World) (hf : Fwd l) (h0 : 0 < l.length) (hlen : l.length * 56 ≤ 140737488355328) (hb : b < w.heap.size)
    (hc : ∀ j, j < l.length → w.cell? ⟨b, o + j * 5, none⟩ = some (.int .u8 (at' l j).k) ∧ w.cell? ⟨b, o + j * 5 + 1, none⟩ = some (.int .i64 (at' l j).a) ∧ w.cell? ⟨b, o + j * 5 + 2, none⟩ = some (.int .i64 (at' l j).b) ∧ w.cell? ⟨b, o + j * 5 + 3, none⟩ = some (evf j) ∧ w.cell? ⟨b, o + j * 5 + 4, none⟩ = some (.int .i64 (at' l j).to))
    (hev : ∀ j, j < l.length → CodeAt w X (evf j) (at' l j).e) (hel : ∀ j, j < l.length → (at' l j).e.length ≤ 1000000000000000) :
    CallsIn Fence.wide n Try.prog 10 #[.slice (some ⟨b, o, none⟩) l.length cap] w fun e W' => ∃ g, e = .returned (.slice (some ⟨g, 0, none⟩) (l.length + 1) (l.length + 1)) ∧ w.heap.size ≤ g ∧ RowT W' g l.length (T l) ∧ Below w.heap.size w W' := by
  obtain ⟨i0, hi, hz0, hz1, hz2⟩ := info_parts infoInt2
  have h1 : 1 ≤ n := by omega
  refine callsIn_of_wp_marks Try.func10 rfl trivial ?_ rfl
  simp only [Try.ntmps10, List.size_toArray, List.length_cons, List.length_nil, Nat.reduceAdd, Nat.reduceSub, Array.replicate_succ, Array.replicate_zero, List.push_toArray, List.append_toArray, List.nil_append, List.cons_append]
  refine wpIn_wide.2 ?_
  go_wp2_with (first
    | (at_make; (refine wpList_make_full _ rfl _ _ 38 rfl w.heap.size 3 i0 (.int .i64 0) 1 Try.underlying38 hi hz0 hz1 .i64 .i64 _ _ (l.length + 1) rfl rfl (by simp) (by simp) (by rw [hz2]; omega) (by unfold maxLen; omega) (Nat.le_refl _) ?_; intro w0 hown0 hgrow0; rw [toList_madeCells_zero] at hown0; have HR0 : Hid (RowT w0 w.heap.size l.length (fun _ => 0)) := RowT.of_owns hown0 (fun q hq => by simp [List.getElem?_replicate]; omega); have HB0 : Hid (Below w.heap.size w w0) := (Below.refl _ _).grown hgrow0 (Nat.le_refl _) (fun k h => by cases h); have HR1 : Hid (RowT (w0.alloc (.cells #[.slice (some ⟨w.heap.size, 0, none⟩) (l.length + 1) (l.length + 1)] 38)) w.heap.size l.length (fun _ => 0)) := HR0.out.keep (Below.heap_alloc _ _ _ HR0.out.lt); have c0 := HR1.out.cell (Nat.le_refl l.length); have f0 := HR1.out.frozen l.length; clear hown0 hgrow0))
    | (go_at_call 16; refine (callsIn_wide.1 (backward_in Fence.wide 3 trivial rfl _ _ _ _)).mono ?_; rintro e w1 ⟨rfl, rfl⟩))
  have hlt0 : w.heap.size < w0.heap.size := HR0.out.lt
  have hsz : (((w0.alloc (.cells #[.slice (some ⟨w.heap.size, 0, none⟩) (l.length + 1) (l.length + 1)] 38)).setCell ⟨w.heap.size, l.length, none⟩ (.int .i64 (l.length : Int))).alloc (.cells #[.slice (some ⟨b, o, none⟩) l.length cap] 22)).heap.size = w0.heap.size + 2 := by simp
  have bT : Boxed (((w0.alloc (.cells #[.slice (some ⟨w.heap.size, 0, none⟩) (l.length + 1) (l.length + 1)] 38)).setCell ⟨w.heap.size, l.length, none⟩ (.int .i64 (l.length : Int))).alloc (.cells #[.slice (some ⟨b, o, none⟩) l.length cap] 22)) w0.heap.size 38 (.slice (some ⟨w.heap.size, 0, none⟩) (l.length + 1) (l.length + 1)) :=
    ((Boxed.new w0 38 (.slice (some ⟨w.heap.size, 0, none⟩) (l.length + 1) (l.length + 1))).kept (grownBy_setCell_at _ _ _ _) (fun e => by simp at e; omega)).alloc _
  have bN : Boxed (((w0.alloc (.cells #[.slice (some ⟨w.heap.size, 0, none⟩) (l.length + 1) (l.length + 1)] 38)).setCell ⟨w.heap.size, l.length, none⟩ (.int .i64 (l.length : Int))).alloc (.cells #[.slice (some ⟨b, o, none⟩) l.length cap] 22)) (w0.heap.size + 1) 22 (.slice (some ⟨b, o, none⟩) l.length cap) := by
    have := Boxed.new ((w0.alloc (.cells #[.slice (some ⟨w.heap.size, 0, none⟩) (l.length + 1) (l.length + 1)] 38)).setCell ⟨w.heap.size, l.length, none⟩ (.int .i64 (l.length : Int))) 22 (.slice (some ⟨b, o, none⟩) l.length cap)
    simpa using this
  have hR : RowT (((w0.alloc (.cells #[.slice (some ⟨w.heap.size, 0, none⟩) (l.length + 1) (l.length + 1)] 38)).setCell ⟨w.heap.size, l.length, none⟩ (.int .i64 (l.length : Int))).alloc (.cells #[.slice (some ⟨b, o, none⟩) l.length cap] 22)) w.heap.size l.length (foldC l []) := by
    have h1 := HR1.out.set (Nat.le_refl l.length) l.length
    exact h1.keep (Below.heap_alloc _ _ _ h1.lt)
  have hB0 : Below w.heap.size w (((w0.alloc (.cells #[.slice (some ⟨w.heap.size, 0, none⟩) (l.length + 1) (l.length + 1)] 38)).setCell ⟨w.heap.size, l.length, none⟩ (.int .i64 (l.length : Int))).alloc (.cells #[.slice (some ⟨b, o, none⟩) l.length cap] 22)) :=
    ((HB0.out.alloc HB0.out.size _).setCell (Nat.le_refl _) _).alloc (by have := HB0.out.size; simp; omega) _
  generalize ((w0.alloc (.cells #[.slice (some ⟨w.heap.size, 0, none⟩) (l.length + 1) (l.length + 1)] 38)).setCell ⟨w.heap.size, l.length, none⟩ (.int .i64 (l.length : Int))).alloc (.cells #[.slice (some ⟨b, o, none⟩) l.length cap] 22) = W0 at *
  have hsi : ∀ j, j < l.length → ∃ p m c, evf j = .slice p m c := fun j hj => by obtain ⟨p, c, e⟩ := (hev j hj).shape; exact ⟨p, _, c, e⟩
  have hcW : ∀ j, j < l.length → W0.cell? ⟨b, o + j * 5, none⟩ = some (.int .u8 (at' l j).k) ∧ W0.cell? ⟨b, o + j * 5 + 1, none⟩ = some (.int .i64 (at' l j).a) ∧ W0.cell? ⟨b, o + j * 5 + 2, none⟩ = some (.int .i64 (at' l j).b) ∧ W0.cell? ⟨b, o + j * 5 + 3, none⟩ = some (evf j) ∧ W0.cell? ⟨b, o + j * 5 + 4, none⟩ = some (.int .i64 (at' l j).to) := fun j hj => by
    obtain ⟨c0, c1, c2, c3, c4⟩ := hc j hj
    exact ⟨(hB0.cell (p := ⟨b, _, none⟩) hb).trans c0, (hB0.cell (p := ⟨b, _, none⟩) hb).trans c1, (hB0.cell (p := ⟨b, _, none⟩) hb).trans c2, (hB0.cell (p := ⟨b, _, none⟩) hb).trans c3, (hB0.cell (p := ⟨b, _, none⟩) hb).trans c4⟩
  obtain ⟨S0, hS0⟩ : ∃ S0, w0.heap.size = S0 := ⟨_, rfl⟩
  rw [hS0] at hsz bT bN hlt0 ⊢
  refine wpIn_wide.1 (wpIn_rangeFunc_ownH (F := Fence.wide) (n := n) rfl h1 (gf := 19) (lb := #[.pointer (some ⟨S0 + 1, 0, none⟩)]) rfl trivial (enters_of Try.func19 (by kernel_rfl) rfl)
    (back_stops Fence.wide (n - 1) trivial rfl (by omega) (S0 + 1) w.heap.size b o cap l evf hb (by omega) W0 (by omega) (by omega) bN.cell hcW hsi) Kb.trans (Kb.put (by omega) (by omega)) (Below.refl _ _) (fun _ => rfl)
    (fun pre W => ((RowT W w.heap.size l.length (foldC l pre) ∧ Boxed W S0 38 (.slice (some ⟨w.heap.size, 0, none⟩) (l.length + 1) (l.length + 1))) ∧ Boxed W (S0 + 1) 22 (.slice (some ⟨b, o, none⟩) l.length cap)) ∧ Below w.heap.size w W)
    (fun _ _ _ => False)
    (OwnFrom.and (OwnFrom.and (OwnFrom.and (Own.from (rowT_own _ _ _) _) (Own.from (boxed_own _ _ _) _)) (Own.from (boxed_own _ _ _) _)) (ownFrom_below (Nat.le_refl _) (by omega)))
    (fun _ _ _ _ _ hs _ _ => hs)
    ⟨⟨⟨hR, bT⟩, bN⟩, hB0⟩
    (fun x a' W => ∃ Bx, S0 < Bx ∧ W.heap[Bx]? = some (.cells #[.int .u8 (at' l x.val).k, .int .i64 (at' l x.val).a, .int .i64 (at' l x.val).b, evf x.val, .int .i64 (at' l x.val).to] 30 (0, 0)) ∧ a' = { tmps := #[.slice (some ⟨b, o, none⟩) l.length cap, undef, .slice none 0 0, .pointer (some ⟨S0, 0, none⟩), .int .i64 ((x.val : Nat) : Int), .pointer (some ⟨Bx, 0, none⟩), undef, undef, .slice (some ⟨b, o, none⟩) l.length cap, .int .i64 (l.length : Int), .int .i64 ((l.length : Int) + 1), .slice (some ⟨w.heap.size, 0, none⟩) (l.length + 1) (l.length + 1), .slice (some ⟨w.heap.size, 0, none⟩) (l.length + 1) (l.length + 1), .slice (some ⟨b, o, none⟩) l.length cap, .int .i64 (l.length : Int), .slice (some ⟨b, o, none⟩) l.length cap, .int .i64 (l.length : Int), .pointer (some ⟨w.heap.size, l.length, none⟩), .slice (some ⟨b, o, none⟩) l.length cap, .func (.func 19) #[] #[.pointer (some ⟨S0 + 1, 0, none⟩)], .int .i64 ((x.val : Nat) : Int), insV (at' l x.val) (evf x.val), undef, undef, undef, undef, undef, undef, undef, undef, undef, undef, undef, undef, undef, undef, undef, undef, undef, undef, undef, undef, undef, undef, undef, undef, undef, undef, undef, undef, undef, undef, undef, undef, undef, undef, undef, undef, undef, undef, undef, undef, undef, undef, undef, undef, undef, undef, undef, undef, undef, undef, undef, undef, undef, undef, undef, undef, undef, undef, undef, undef, undef, undef, undef, undef, undef, undef, undef], defers := [] })
    (fun x a' _ X Y row hs hg hr => by obtain ⟨Bx, h1, h2, h3⟩ := hs; exact ⟨Bx, h1, (grownBy_keeps_cells hg (fun r e => (hr r e).2) h2 rfl).trans h2, h3⟩)
    ?assign ?body ?done ?stop)
  case assign =>
    rintro l' pre x W K ⟨⟨⟨hR1, bT1⟩, bN1⟩, hB1⟩ hK
    obtain ⟨p, m, c, e⟩ := hsi x.val x.isLt
    have hK2 := Lib.hid hK
    clear hK
    unfold insV
    rw [e]
    have hbn := bN1.lt
    gi_wp2
    exact hK2.out _ _ ((KeepsOthers.alloc _ _).from _) (Kb.alloc hB1.size hbn _) ⟨⟨⟨hR1.keep (Below.heap_alloc _ _ _ hR1.lt), bT1.alloc _⟩, bN1.alloc _⟩, hB1.alloc hB1.size _⟩ ⟨W.heap.size, bT1.lt, by rw [e]; exact heap_alloc_new _ _, by unfold insV; rw [e]⟩
  case body =>
    rintro l' pre x a' W hl ⟨r, hr⟩ ⟨⟨⟨hR1, bT1⟩, bN1⟩, hB1⟩ ⟨Bx, hBx, bX, rfl⟩ hlt
    obtain ⟨xi, hxi⟩ := x
    dsimp only at bX ⊢
    have hKN : Calls Try.prog 17 #[insV (at' l xi) (evf xi)] W fun e w' => e = .returned (knV (at' l xi)) ∧ Below W.heap.size W w' := known_any (at' l xi) (evf xi) X W ((hev xi hxi).below hB1) (by have := hel xi hxi; omega)
    have hRD : ∀ W', Below W.heap.size W W' → Calls Try.prog 18 #[evf xi] W' fun e w' => e = .returned (.bool (rd (at' l xi).e)) ∧ Below W'.heap.size W' w' := fun W' hW' => reads_any (evf xi) X (at' l xi).e W' (((hev xi hxi).below hB1).below (hW'.mono (Nat.le_refl _))) (hel xi hxi)
    have hjt : jmp (at' l xi) = true → xi < tn l xi ∧ tn l xi ≤ l.length := fun q => hf.tn hxi q
    have hto : jmp (at' l xi) = true → (at' l xi).to = ((tn l xi : Nat) : Int) := fun q => by have := hf xi hxi q; unfold tn; omega
    have hval : valC l (foldC l pre) xi = if knw (at' l xi) = some true then foldC l pre (xi + 1) else if knw (at' l xi) = some false ∨ (at' l xi).k = 8 then foldC l pre (tn l xi) else if (at' l xi).k = 7 ∧ rd (at' l xi).e = false ∧ foldC l pre (xi + 1) = foldC l pre (tn l xi) then foldC l pre (xi + 1) else xi := rfl
    have hfin : ∀ W', RowT W' w.heap.size l.length (fun p => if p = xi then valC l (foldC l pre) xi else foldC l pre p) → RowT W' w.heap.size l.length (foldC l (pre ++ [⟨xi, hxi⟩])) := fun W' h => by rw [foldC_snoc]; exact h
    have hknl : ∀ q, knw (at' l xi) = some q → (at' l xi).k = 7 := fun q hq => knw_seven hq
    obtain ⟨pe, me, ce, hee⟩ := hsi xi hxi
    rw [hee] at bX hKN hRD ⊢
    generalize foldC l pre = rr at *
    generalize valC l rr xi = vv at *
    generalize tn l xi = tj at *
    generalize at' l xi = ins at *
    have hstore : ∀ w1 : World, ∀ v : Nat, vv = v → Below W.heap.size W w1 → KeepsFrom W0.heap.size W (w1.setCell ⟨w.heap.size, xi, none⟩ (.int .i64 (v : Int))) ∧ Kb w.heap.size (S0 + 1) W (w1.setCell ⟨w.heap.size, xi, none⟩ (.int .i64 (v : Int))) ∧ (((RowT (w1.setCell ⟨w.heap.size, xi, none⟩ (.int .i64 (v : Int))) w.heap.size l.length (foldC l (pre ++ [⟨xi, hxi⟩])) ∧ Boxed (w1.setCell ⟨w.heap.size, xi, none⟩ (.int .i64 (v : Int))) S0 38 (.slice (some ⟨w.heap.size, 0, none⟩) (l.length + 1) (l.length + 1))) ∧ Boxed (w1.setCell ⟨w.heap.size, xi, none⟩ (.int .i64 (v : Int))) (S0 + 1) 22 (.slice (some ⟨b, o, none⟩) l.length cap)) ∧ Below w.heap.size w (w1.setCell ⟨w.heap.size, xi, none⟩ (.int .i64 (v : Int)))) := by
      intro w1 v hv hb1
      subst hv
      have q1 : RowT w1 w.heap.size l.length rr := hR1.keep (hb1.block _ hR1.lt)
      have q2 : ∀ g, g ≠ w.heap.size → g < W.heap.size → (w1.setCell ⟨w.heap.size, xi, none⟩ (.int .i64 (vv : Int))).heap[g]? = W.heap[g]? := fun g h1 h2 => ((grownBy_setCell_at w1 w.heap.size xi _).block g (by have := hb1.size; omega) (fun e => h1 (by simpa using e))).trans (hb1.block g h2)
      refine ⟨⟨by have := hb1.size; simp; omega, fun k o' hk ho _ => ?_⟩, fun g hg => ?_, ⟨⟨hfin _ (q1.set (by omega) vv), (q2 _ (by omega) bT1.lt).trans bT1⟩, (q2 _ (by omega) bN1.lt).trans bN1⟩, (hB1.trans (hb1.mono hB1.size)).setCell (Nat.le_refl _) _⟩
      · exact (q2 k (by omega) (Array.getElem?_eq_some_iff.1 ho).1).trans ho
      · rcases hg with q | q
        · exact q2 g (by omega) (Nat.lt_of_lt_of_le q hB1.size)
        · exact q2 g (by omega) (by rw [q]; exact bN1.lt)
    have HST := Lib.hid hstore
    have HRD := Lib.hid hRD
    have HVAL := Lib.hid hval
    clear hstore hRD hfin hval hcW hc hev hel hsi
    have cT := bT1.cell
    have v0 : W.cell? ⟨Bx, 0, none⟩ = some (.int .u8 ins.k) := by simp [World.cell?, bX]
    have v1 : W.cell? ⟨Bx, 1, none⟩ = some (.int .i64 ins.a) := by simp [World.cell?, bX]
    have v2 : W.cell? ⟨Bx, 2, none⟩ = some (.int .i64 ins.b) := by simp [World.cell?, bX]
    have v3 : W.cell? ⟨Bx, 3, none⟩ = some (.slice pe me ce) := by simp [World.cell?, bX]
    have v4 : W.cell? ⟨Bx, 4, none⟩ = some (.int .i64 ins.to) := by simp [World.cell?, bX]
    have hBxl : Bx < W.heap.size := (Array.getElem?_eq_some_iff.1 bX).1
    have HW : ∀ w1, Below W.heap.size W w1 → (RowT w1 w.heap.size l.length rr ∧ w1.cell? ⟨S0, 0, none⟩ = some (.slice (some ⟨w.heap.size, 0, none⟩) (l.length + 1) (l.length + 1)) ∧ w1.cell? ⟨Bx, 0, none⟩ = some (.int .u8 ins.k) ∧ w1.cell? ⟨Bx, 3, none⟩ = some (.slice pe me ce) ∧ w1.cell? ⟨Bx, 4, none⟩ = some (.int .i64 ins.to)) := fun w1 hb => ⟨hR1.keep (hb.block _ hR1.lt), (hb.cell (p := ⟨S0, 0, none⟩) bT1.lt).trans cT, (hb.cell (p := ⟨Bx, 0, none⟩) hBxl).trans v0, (hb.cell (p := ⟨Bx, 3, none⟩) hBxl).trans v3, (hb.cell (p := ⟨Bx, 4, none⟩) hBxl).trans v4⟩
    have HKN := Lib.hid hKN
    unfold insV at HKN
    have hmx : Try.prog.follows .mixedOrders = true := by kernel_rfl
    have hx1 : (xi : Int) < (l.length : Int) := by omega
    have hx2 : (xi : Int) + 1 < (l.length : Int) + 1 := by omega
    have hx3 : ¬ (xi : Int) + 1 < 0 := by omega
    have hx4 : 0 ≤ (xi : Int) + 1 := by omega
    have hx5 : (xi : Int) < (l.length : Int) + 1 := by omega
    have h1' : 1 ≤ n - 1 - 1 := by omega
    clear hKN hR1 bT1 bX hBxl cT
    cases hkn : knw ins with
    | some yes =>
      have HK2 : Calls Try.prog 17 #[.agg #[.int .u8 ins.k, .int .i64 ins.a, .int .i64 ins.b, .slice pe me ce, .int .i64 ins.to]] W fun e w' => e = .returned (.tuple #[.bool yes, .bool true]) ∧ Below W.heap.size W w' := by
        have := HKN.out
        unfold knV at this
        rw [hkn] at this
        exact this
      have hk7 := hknl yes hkn
      have hj := jmp7 hk7
      obtain ⟨j1, j2⟩ := hjt hj
      have j3 := hto hj
      rw [hk7, j3] at HK2 HW
      have HK3 := Lib.hid HK2
      have HWW := Lib.hid HW
      clear HK2 HW
      cases yes with
      | true =>
        have hv : vv = rr (xi + 1) := by rw [HVAL.out, hkn]; simp
        have HV := Lib.hid hv
        clear hv
        gi_wp2_with (refine ⟨trivial, ?_⟩; gi_at_call 17; refine (CallsIn.inRound l' (callsIn_wide.2 HK3.out)).mono ?_; rintro e w1 ⟨rfl, hb1⟩; have HBB := Lib.hid hb1; clear hb1)
        obtain ⟨z1, z2, z3, z4, z5⟩ := HWW.out w1 HBB.out
        refine r9 l' _ w1 S0 w.heap.size (l.length + 1) xi (rr (xi + 1)) _ _ rfl rfl rfl z2 (by omega) (by omega) (z1.cell (by omega)) _ (z1.cell (q := xi) (by omega)) (z1.frozen xi) ?_
        rintro a' W' rfl
        gi_wp2
        exact HST.out w1.drew _ HV.out (below_drewN HBB.out 1)
      | false =>
        have hv : vv = rr tj := by rw [HVAL.out, hkn]; simp
        have HV := Lib.hid hv
        clear hv
        gi_wp2_with (refine ⟨trivial, ?_⟩; gi_at_call 17; refine (CallsIn.inRound l' (callsIn_wide.2 HK3.out)).mono ?_; rintro e w1 ⟨rfl, hb1⟩; have HBB := Lib.hid hb1; clear hb1)
        obtain ⟨z1, z2, z3, z4, z5⟩ := HWW.out w1 HBB.out
        refine r12 l' _ w1 S0 w.heap.size (l.length + 1) xi (rr tj) Bx tj _ _ rfl rfl rfl rfl z2 z5 (by omega) (by omega) (z1.cell j2) _ (z1.cell (q := xi) (by omega)) (z1.frozen xi) ?_
        rintro a' W' rfl
        gi_wp2
        exact HST.out w1.drew _ HV.out (below_drewN HBB.out 1)
    | none =>
      have HK2 : Calls Try.prog 17 #[.agg #[.int .u8 ins.k, .int .i64 ins.a, .int .i64 ins.b, .slice pe me ce, .int .i64 ins.to]] W fun e w' => e = .returned (.tuple #[.bool false, .bool false]) ∧ Below W.heap.size W w' := by
        have := HKN.out
        unfold knV at this
        rw [hkn] at this
        exact this
      by_cases h8 : ins.k = 8
      · have hj : jmp ins = true := by unfold jmp; rw [h8]; rfl
        obtain ⟨j1, j2⟩ := hjt hj
        have j3 := hto hj
        have hv : vv = rr tj := by rw [HVAL.out, hkn, h8]; simp
        have HV := Lib.hid hv
        rw [h8, j3] at HK2 HW
        have HK3 := Lib.hid HK2
        have HWW := Lib.hid HW
        clear HK2 HW hv
        gi_wp2_with (first | (refine ⟨trivial, ?_⟩; gi_at_call 17; refine (CallsIn.inRound l' (callsIn_wide.2 HK3.out)).mono ?_; rintro e w1 ⟨rfl, hb1⟩; have HBB := Lib.hid hb1; obtain ⟨z1, z2, z3, z4, z5⟩ := HWW.out w1 HBB.out; clear hb1))
        refine r12 l' _ w1 S0 w.heap.size (l.length + 1) xi (rr tj) Bx tj _ _ rfl rfl rfl rfl z2 z5 (by omega) (by omega) (z1.cell j2) _ (z1.cell (q := xi) (by omega)) (z1.frozen xi) ?_
        rintro a' W' rfl
        gi_wp2
        exact HST.out w1.drew _ HV.out (below_drewN HBB.out 1)
      · have hk8 : (ins.k == 8) = false := beq_eq_false_iff_ne.2 h8
        by_cases h7 : ins.k = 7
        · have hj := jmp7 h7
          obtain ⟨j1, j2⟩ := hjt hj
          have j3 := hto hj
          rw [h7, j3] at HK2 HW
          have HK3 := Lib.hid HK2
          have HWW := Lib.hid HW
          clear HK2 HW
          cases hrd : rd ins.e with
          | true =>
            have hv : vv = xi := by rw [HVAL.out, hkn]; simp [h7, hrd]
            have HV := Lib.hid hv
            clear hv
            gi_wp2_with (first | (refine ⟨trivial, ?_⟩; gi_at_call 17; refine (CallsIn.inRound l' (callsIn_wide.2 HK3.out)).mono ?_; rintro e w1 ⟨rfl, hb1⟩; have HBB := Lib.hid hb1; obtain ⟨z1, z2, z3, z4, z5⟩ := HWW.out w1 HBB.out; clear hb1))
            refine r13r l' _ w1 S0 w.heap.size (l.length + 1) xi (rr (xi + 1)) (rr tj) Bx tj me ce pe 7 _ _ rfl rfl rfl rfl (fun w2 hb => by obtain ⟨p1, p2, p3, p4, p5⟩ := HWW.out w2 (HBB.out.trans (hb.mono HBB.out.size)); exact ⟨p2, p3, p4, p5, p1.cell (by omega), p1.cell (by omega)⟩) (by omega) (by omega) (by omega) rfl (fun w2 hb => by have := HRD.out w2 (HBB.out.trans (hb.mono HBB.out.size)); rw [hrd] at this; exact this) ?_
            rintro a' W' ⟨q1, q2, q3, q4, q5, q6⟩
            rename_i hKK
            have hBW := HBB.out.trans (q6.mono HBB.out.size)
            obtain ⟨p1, p2, -, -, -⟩ := HWW.out W' hBW
            refine hKK _ _ (wpIn_cond_false (show a'.eval (.tmp 57) = .bool false by show a'.tmps.getD 57 undef = _; rw [Array.getD_eq_getD_getElem?, q5]; rfl) ?_)
            refine r7 l' _ W' S0 w.heap.size (l.length + 1) xi _ a' q1 q2 q3 p2 (by omega) _ (p1.cell (q := xi) (by omega)) (p1.frozen xi) fun a2 => ?_
            gi_wp2
            exact HST.out W' _ HV.out hBW
          | false =>
            by_cases heq : rr (xi + 1) = rr tj
            · have hv : vv = rr (xi + 1) := by rw [HVAL.out, hkn]; simp [h7, hrd, heq]
              have HV := Lib.hid hv
              have HEQ := Lib.hid heq
              clear hv heq
              gi_wp2_with (first | (refine ⟨trivial, ?_⟩; gi_at_call 17; refine (CallsIn.inRound l' (callsIn_wide.2 HK3.out)).mono ?_; rintro e w1 ⟨rfl, hb1⟩; have HBB := Lib.hid hb1; obtain ⟨z1, z2, z3, z4, z5⟩ := HWW.out w1 HBB.out; clear hb1))
              refine r13e l' _ w1 S0 w.heap.size (l.length + 1) xi (rr (xi + 1)) (rr tj) Bx tj me ce pe 7 _ _ rfl rfl rfl rfl (fun w2 hb => by obtain ⟨p1, p2, p3, p4, p5⟩ := HWW.out w2 (HBB.out.trans (hb.mono HBB.out.size)); exact ⟨p2, p3, p4, p5, p1.cell (by omega), p1.cell (by omega)⟩) (by omega) (by omega) (by omega) rfl (fun w2 hb => by have := HRD.out w2 (HBB.out.trans (hb.mono HBB.out.size)); rw [hrd] at this; exact this) ?_
              rintro a' W' ⟨q1, q2, q3, q4, q5, q6⟩
              rename_i hKK
              have hBW := HBB.out.trans (q6.mono HBB.out.size)
              obtain ⟨p1, p2, -, -, -⟩ := HWW.out W' hBW
              refine hKK _ _ (wpIn_cond_true (show a'.eval (.tmp 57) = .bool true by show a'.tmps.getD 57 undef = _; rw [Array.getD_eq_getD_getElem?, q5, HEQ.out]; simp) ?_)
              refine r14 l' _ W' S0 w.heap.size (l.length + 1) xi (rr (xi + 1)) _ a' q1 q2 q3 p2 (by omega) (by omega) (p1.cell (by omega)) _ (p1.cell (q := xi) (by omega)) (p1.frozen xi) ?_
              rintro a2 W2 rfl
              gi_wp2
              exact HST.out W'.drew _ HV.out (below_drewN hBW 1)
            · have hv : vv = xi := by rw [HVAL.out, hkn]; simp [h7, hrd, heq]
              have HV := Lib.hid hv
              have HEQ := Lib.hid heq
              clear hv heq
              gi_wp2_with (first | (refine ⟨trivial, ?_⟩; gi_at_call 17; refine (CallsIn.inRound l' (callsIn_wide.2 HK3.out)).mono ?_; rintro e w1 ⟨rfl, hb1⟩; have HBB := Lib.hid hb1; obtain ⟨z1, z2, z3, z4, z5⟩ := HWW.out w1 HBB.out; clear hb1))
              refine r13e l' _ w1 S0 w.heap.size (l.length + 1) xi (rr (xi + 1)) (rr tj) Bx tj me ce pe 7 _ _ rfl rfl rfl rfl (fun w2 hb => by obtain ⟨p1, p2, p3, p4, p5⟩ := HWW.out w2 (HBB.out.trans (hb.mono HBB.out.size)); exact ⟨p2, p3, p4, p5, p1.cell (by omega), p1.cell (by omega)⟩) (by omega) (by omega) (by omega) rfl (fun w2 hb => by have := HRD.out w2 (HBB.out.trans (hb.mono HBB.out.size)); rw [hrd] at this; exact this) ?_
              rintro a' W' ⟨q1, q2, q3, q4, q5, q6⟩
              rename_i hKK
              have hBW := HBB.out.trans (q6.mono HBB.out.size)
              obtain ⟨p1, p2, -, -, -⟩ := HWW.out W' hBW
              refine hKK _ _ (wpIn_cond_false (show a'.eval (.tmp 57) = .bool false by show a'.tmps.getD 57 undef = _; rw [Array.getD_eq_getD_getElem?, q5]; have := HEQ.out; simp; omega) ?_)
              refine r7 l' _ W' S0 w.heap.size (l.length + 1) xi _ a' q1 q2 q3 p2 (by omega) _ (p1.cell (q := xi) (by omega)) (p1.frozen xi) fun a2 => ?_
              gi_wp2
              exact HST.out W' _ HV.out hBW
        · have HK3 := Lib.hid HK2
          have HWW := Lib.hid HW
          clear HK2 HW
          have hk7 : (ins.k == 7) = false := beq_eq_false_iff_ne.2 h7
          have hv : vv = xi := by rw [HVAL.out, hkn]; simp [h7, h8]
          have HV := Lib.hid hv
          clear hv
          gi_wp2_with (first | (refine ⟨trivial, ?_⟩; gi_at_call 17; refine (CallsIn.inRound l' (callsIn_wide.2 HK3.out)).mono ?_; rintro e w1 ⟨rfl, hb1⟩; have HBB := Lib.hid hb1; obtain ⟨z1, z2, z3, z4, z5⟩ := HWW.out w1 HBB.out; clear hb1))
          refine r13n l' _ w1 S0 w.heap.size (l.length + 1) xi 0 0 Bx 0 0 0 none ins.k _ _ rfl rfl rfl rfl (fun w2 hb => ⟨(HWW.out w2 (HBB.out.trans (hb.mono HBB.out.size))).2.1, (HWW.out w2 (HBB.out.trans (hb.mono HBB.out.size))).2.2.1⟩) hk7 ?_
          rintro a' W' ⟨q1, q2, q3, q4, q5, q6⟩
          rename_i hKK
          have hBW := HBB.out.trans (q6.mono HBB.out.size)
          obtain ⟨p1, p2, -, -, -⟩ := HWW.out W' hBW
          refine hKK _ _ (wpIn_cond_false (show a'.eval (.tmp 57) = .bool false by show a'.tmps.getD 57 undef = _; rw [Array.getD_eq_getD_getElem?, q5]; rfl) ?_)
          refine r7 l' _ W' S0 w.heap.size (l.length + 1) xi _ a' q1 q2 q3 p2 (by omega) _ (p1.cell (q := xi) (by omega)) (p1.frozen xi) fun a2 => ?_
          gi_wp2
          exact HST.out W' _ HV.out hBW
  case done =>
    rintro D zs W hD rfl ⟨⟨⟨hR1, bT1⟩, bN1⟩, hB1⟩ hK
    have cT := bT1.cell
    go_wp2
    refine ⟨by simp, .inl ⟨_, _, rfl, run_takeDeferred hK, ?_⟩⟩
    have hKb := Kb.put (n₀ := w.heap.size) (Bs := S0) (w := W0) (by omega) (by omega) W D _ (.deferred none) hD hK rfl rfl
    have hne : D ≠ w.heap.size := by omega
    have hRT : RowT W w.heap.size l.length (T l) := hR1.congr fun q hq => foldC_all hf hq
    exact ⟨_, results_tmp rfl _ _ _, ⟨_, rfl, Nat.le_refl _, hRT.keep (Array.getElem?_setIfInBounds_ne hne), hB1.trans (belowK_b (w := w) (Nat.le_refl _) W D _ _ (by omega) hK rfl rfl)⟩⟩
  case stop =>
    rintro D c pre W _ _ h _
    exact h.elim

end Go.Proofs.Ytfhleldmkhllaaa

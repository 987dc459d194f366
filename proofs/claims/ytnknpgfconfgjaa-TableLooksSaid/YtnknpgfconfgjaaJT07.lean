/-
  Lemmas, joined: TabG, TabI, TabH, TabJ.
-/
import Derived.Test.YtnknpgfconfgjaaJT06
import Derived.LoopN
import Derived.Deep.QuietTactic
import Derived.BigQuiet
/-
  The document's Order.
-/
namespace Go.Proofs.Ytnknpgfconfgjaa
open Go.RowKit Stab

/-- The list is the entries of a table below a place in their order. -/
structure OrdN (l : List Ent) (tab : Int) (k : Nat) (xs : List Int) : Prop where
  len : xs.length = (sel l tab k).length
  srt : Srt (tot l) (fnOf xs) 0 xs.length
  same : Same (fnOf (sel l tab k)) (fnOf xs) 0 xs.length
theorem OrdN.zero (l : List Ent) (tab : Int) : OrdN l tab 0 [] := ⟨rfl, fun i j _ _ h => by simp at h, fun x => Iff.rfl⟩
theorem OrdN.ord {l : List Ent} {tab : Int} {xs : List Int} (h : OrdN l tab l.length xs) : IsOrd l tab xs := ⟨h.len, h.srt, h.same⟩
theorem fnOf_mem {xs : List Int} {x : Int} : (∃ i, 0 ≤ i ∧ i < xs.length ∧ fnOf xs i = x) ↔ x ∈ xs := by
  rw [List.mem_iff_getElem]
  constructor
  · rintro ⟨i, -, hi, e⟩
    exact ⟨i, hi, by unfold fnOf at e; rw [List.getD_eq_getElem?_getD, List.getElem?_eq_getElem hi] at e; exact e⟩
  · rintro ⟨i, hi, e⟩
    exact ⟨i, Nat.zero_le _, hi, by unfold fnOf; rw [List.getD_eq_getElem?_getD, List.getElem?_eq_getElem hi]; exact e⟩
theorem fnOf_at {xs : List Int} {i : Nat} (hi : i < xs.length) : fnOf xs i = xs[i] := by
  unfold fnOf; rw [List.getD_eq_getElem?_getD, List.getElem?_eq_getElem hi]; rfl
theorem OrdN.mem {l : List Ent} {tab x : Int} {k : Nat} {xs : List Int} (h : OrdN l tab k xs) : x ∈ xs ↔ x ∈ sel l tab k := by
  rw [← fnOf_mem, ← fnOf_mem, ← h.len]; exact (h.same x).symm
theorem srt_pair {L : Int → Int → Bool} {xs : List Int} : Srt L (fnOf xs) 0 xs.length ↔ xs.Pairwise (fun a b => L a b = true) := by
  rw [List.pairwise_iff_getElem]
  constructor
  · intro h i j hi hj hij
    have := h i j (Nat.zero_le _) hij hj
    rwa [fnOf_at hi, fnOf_at hj] at this
  · intro h i j _ hij hj
    rw [fnOf_at (Nat.lt_trans hij hj), fnOf_at hj]
    exact h i j _ hj hij
theorem OrdN.step {l : List Ent} {tab : Int} {k p : Nat} {xs : List Int} (h : OrdN l tab k xs) (ht : (eAt l k).tab = tab) (hp : p ≤ xs.length)
    (h1 : ∀ j, p ≤ j → j < xs.length → lts l k (fnOf xs j) = true) (h2 : 0 < p → lts l k (fnOf xs (p - 1)) = false) : OrdN l tab (k + 1) (xs.take p ++ [(k : Int)] ++ xs.drop p) := by
  have hlt : ∀ x ∈ xs, x < (k : Int) := fun x hx => (mem_sel.1 (h.mem.1 hx)).2.1
  have hpw := srt_pair.1 h.srt
  have hel : ∀ x ∈ xs.drop p, tot l k x = true := fun x hx => by
    obtain ⟨j, hj, rfl⟩ := List.mem_iff_getElem.1 hx
    rw [List.length_drop] at hj
    rw [List.getElem_drop]
    rw [tot_lts (hlt _ (List.getElem_mem _))]
    have := h1 (p + j) (by omega) (by omega)
    rwa [fnOf_at (by omega)] at this
  have hal : ∀ x ∈ xs.take p, tot l x k = true := fun x hx => by
    obtain ⟨j, hj, rfl⟩ := List.mem_iff_getElem.1 hx
    rw [List.length_take] at hj
    rw [List.getElem_take]
    have hq := h2 (by omega)
    rw [fnOf_at (by omega)] at hq
    have hlt1 := hlt xs[p - 1] (List.getElem_mem (by omega))
    rw [← tot_lts hlt1] at hq
    have hq2 := (tot_ord l).tot (k : Int) xs[p - 1] (by omega) hq
    by_cases e : j = p - 1
    · subst e; exact hq2
    · have := List.pairwise_iff_getElem.1 hpw j (p - 1) (by omega) (by omega) (by omega)
      exact (tot_ord l).tr _ _ _ this hq2
  have hs : sel l tab (k + 1) = sel l tab k ++ [(k : Int)] := sel_succ_yes ht
  have hlen : (xs.take p ++ [(k : Int)] ++ xs.drop p).length = (sel l tab (k + 1)).length := by
    rw [hs]; simp [h.len.symm]; omega
  refine ⟨hlen, srt_pair.2 ?_, fun x => ?_⟩
  · rw [← List.take_append_drop p xs, List.pairwise_append] at hpw
    obtain ⟨q1, q2, q3⟩ := hpw
    rw [List.append_assoc, List.pairwise_append]
    refine ⟨q1, ?_, fun a ha b hb => ?_⟩
    · rw [List.singleton_append, List.pairwise_cons]
      exact ⟨hel, q2⟩
    · rw [List.singleton_append, List.mem_cons] at hb
      rcases hb with rfl | hb
      · exact hal a ha
      · exact q3 a ha b hb
  · rw [fnOf_mem, hlen, fnOf_mem, hs]
    have := h.mem (x := x)
    rw [← List.take_append_drop p xs] at this
    simp only [List.mem_append, List.mem_singleton] at this ⊢
    rw [← this]
    constructor
    · rintro ((a | b) | c)
      · exact .inl (.inl a)
      · exact .inr b
      · exact .inl (.inr c)
    · rintro ((a | b) | c)
      · exact .inl (.inl a)
      · exact .inr b
      · exact .inl (.inr c)
theorem OrdN.skip {l : List Ent} {tab : Int} {k : Nat} {xs : List Int} (h : OrdN l tab k xs) (ht : ¬ (eAt l k).tab = tab) : OrdN l tab (k + 1) xs := by
  have e := sel_succ_no ht
  exact ⟨by rw [e]; exact h.len, h.srt, by rw [e]; exact h.same⟩

end Go.Proofs.Ytnknpgfconfgjaa

/-
  The plain law of what is chosen: the best of the entries that match.
-/
namespace Go.Proofs.Ytnknpgfconfgjaa
open Go.RowKit Stab

/-- c is the best of the entries below a place that match; -1 if there is none. -/
def Best (l : List Ent) (tab : Int) (ks : List Nat) (k : Nat) (c : Int) : Prop :=
  (c = -1 ∧ ∀ j : Nat, j < k → matB (eAt l j) tab ks = false) ∨
  (0 ≤ c ∧ c < k ∧ matB (eAt l c) tab ks = true ∧ ∀ j : Nat, j < k → matB (eAt l j) tab ks = true → (j : Int) = c ∨ tot l c j = true)
theorem Best.unique {l : List Ent} {tab : Int} {ks : List Nat} {k : Nat} {c d : Int} (h : Best l tab ks k c) (h2 : Best l tab ks k d) : c = d := by
  rcases h with ⟨rfl, h⟩ | ⟨a1, a2, a3, a4⟩ <;> rcases h2 with ⟨rfl, g⟩ | ⟨b1, b2, b3, b4⟩
  · rfl
  · obtain ⟨d, rfl⟩ : ∃ n : Nat, d = (n : Int) := ⟨d.toNat, by omega⟩
    rw [h d (by omega)] at b3; cases b3
  · obtain ⟨c, rfl⟩ : ∃ n : Nat, c = (n : Int) := ⟨c.toNat, by omega⟩
    rw [g c (by omega)] at a3; cases a3
  · obtain ⟨d, rfl⟩ : ∃ n : Nat, d = (n : Int) := ⟨d.toNat, by omega⟩
    obtain ⟨c, rfl⟩ : ∃ n : Nat, c = (n : Int) := ⟨c.toNat, by omega⟩
    rcases a4 d (by omega) b3 with e | e
    · exact e.symm
    · rcases b4 c (by omega) a3 with e2 | e2
      · exact e2
      · rw [(tot_ord l).asym e] at e2; cases e2
theorem Best.zero (l : List Ent) (tab : Int) (ks : List Nat) : Best l tab ks 0 (-1) := .inl ⟨rfl, fun j h => absurd h (by omega)⟩
theorem Best.no {l : List Ent} {tab : Int} {ks : List Nat} {k : Nat} {c : Int} (h : Best l tab ks k c) (hm : matB (eAt l k) tab ks = false) : Best l tab ks (k + 1) c := by
  rcases h with ⟨rfl, h⟩ | ⟨a1, a2, a3, a4⟩
  · refine .inl ⟨rfl, fun j hj => ?_⟩
    by_cases e : j = k
    · subst e; exact hm
    · exact h j (by omega)
  · refine .inr ⟨a1, by omega, a3, fun j hj hmj => ?_⟩
    by_cases e : j = k
    · subst e; rw [hm] at hmj; cases hmj
    · exact a4 j (by omega) hmj
theorem Best.first {l : List Ent} {tab : Int} {ks : List Nat} {k : Nat} (h : Best l tab ks k (-1)) (hm : matB (eAt l k) tab ks = true) : Best l tab ks (k + 1) k := by
  rcases h with ⟨-, h⟩ | ⟨a1, -⟩
  · refine .inr ⟨by omega, by omega, hm, fun j hj hmj => ?_⟩
    by_cases e : j = k
    · exact .inl (by omega)
    · rw [h j (by omega)] at hmj; cases hmj
  · omega
theorem Best.next {l : List Ent} {tab : Int} {ks : List Nat} {k c : Nat} (h : Best l tab ks k (c : Int)) (hm : matB (eAt l k) tab ks = true) (hl : lts l k c = true) : Best l tab ks (k + 1) k := by
  rcases h with ⟨h, -⟩ | ⟨a1, a2, a3, a4⟩
  · omega
  · rw [← tot_lts a2] at hl
    refine .inr ⟨by omega, by omega, hm, fun j hj hmj => ?_⟩
    by_cases e : j = k
    · exact .inl (by omega)
    · rcases a4 j (by omega) hmj with e2 | e2
      · right; rw [e2]; exact hl
      · exact .inr ((tot_ord l).tr _ _ _ hl e2)
theorem Best.keep {l : List Ent} {tab : Int} {ks : List Nat} {k c : Nat} (h : Best l tab ks k (c : Int)) (hl : lts l k c = false) : Best l tab ks (k + 1) c := by
  rcases h with ⟨h, -⟩ | ⟨a1, a2, a3, a4⟩
  · omega
  · rw [← tot_lts a2] at hl
    refine .inr ⟨by omega, by omega, a3, fun j hj hmj => ?_⟩
    by_cases e : j = k
    · subst e; exact .inr ((tot_ord l).tot _ _ (by omega) hl)
    · exact a4 j (by omega) hmj
theorem matB_mem {l : List Ent} {tab : Int} {ks : List Nat} {xs : List Int} (h : IsOrd l tab xs) {j : Nat} (hj : j < l.length) (hm : matB (eAt l j) tab ks = true) : (j : Int) ∈ xs := by
  rw [h.mem]
  refine ⟨by omega, by omega, ?_⟩
  by_cases e : (eAt l (j : Int)).tab = tab
  · exact e
  · rw [matB_tab e] at hm; cases hm
/-- The first of the order that matches is the best. -/
theorem IsOrd.best {l : List Ent} {tab : Int} {ks : List Nat} {xs : List Int} (h : IsOrd l tab xs) {k : Nat} (hk : k < xs.length) (hno : ∀ j, j < k → matB (eAt l (fnOf xs j)) tab ks = false) (hm : matB (eAt l (fnOf xs k)) tab ks = true) : Best l tab ks l.length (fnOf xs k) := by
  have hmem : fnOf xs k ∈ xs := by rw [fnOf_at hk]; exact List.getElem_mem _
  have hb := h.mem.1 hmem
  refine .inr ⟨hb.1, hb.2.1, hm, fun j hj hmj => ?_⟩
  obtain ⟨i, -, hi, hij⟩ := fnOf_mem.2 (matB_mem h hj hmj)
  by_cases e : i = k
  · left; rw [← e]; exact hij.symm
  · right
    by_cases e2 : i < k
    · have := hno i e2
      rw [hij, hmj] at this; cases this
    · rw [← hij]
      exact h.srt k i (Nat.zero_le _) (by omega) hi
theorem IsOrd.none {l : List Ent} {tab : Int} {ks : List Nat} {xs : List Int} (h : IsOrd l tab xs) (hno : ∀ j, j < xs.length → matB (eAt l (fnOf xs j)) tab ks = false) : Best l tab ks l.length (-1) := by
  refine .inl ⟨rfl, fun j hj => ?_⟩
  cases hm : matB (eAt l j) tab ks
  · rfl
  · obtain ⟨i, -, hi, hij⟩ := fnOf_mem.2 (matB_mem h hj hm)
    have := hno i hi
    rw [hij, hm] at this; exact this

/-- What a call tells is the best one. -/
def RetBest (w : World) (l : List Ent) (tab : Int) (ks : List Nat) (e : Ending) (w' : World) : Prop := ∃ c, e = .returned (.int .i64 c) ∧ Best l tab ks l.length c ∧ Below w.heap.size w w'

end Go.Proofs.Ytnknpgfconfgjaa

/-
  The document's Order: walked.
-/
namespace Go.Proofs.Ytnknpgfconfgjaa
open Go.RowKit Stab

/-- A list of integers that is the table's order up to a place. -/
def OrdAt (l : List Ent) (tab : Int) (k : Nat) (w : World) (v : Value) : Prop := ∃ xs, IRow w v xs ∧ OrdN l tab k xs
set_option maxRecDepth 100000 in
set_option maxHeartbeats 6400000 in
theorem refOrder_any (l : List Ent) (tab : Int) (lv : Value) (w : World) (hl : ERow w lv l) (hn : l.length ≤ 40) :
    Calls Try.prog 18 #[lv, .int .i64 tab] w (RetOrd w (IsOrd l tab)) := by
  obtain ⟨la, lc, rfl, hc1, hc2⟩ := hl.shape
  have HL := Lib.hid hl
  clear hl
  obtain ⟨n, hnn⟩ : ∃ n, n = l.length := ⟨_, rfl⟩
  rw [← hnn] at hn hc1 HL ⊢
  have HN := Lib.hid hnn
  clear hnn
  have hcz : (n : Int) ≤ (lc : Int) := by omega
  go_enter Try.func18, Try.ntmps18
  go_wp2_with fail
  go_loopw [5, 6, 7, 8] (fun v i u u' wr => ∃ k : Nat, k ≤ n ∧ i = .int .i64 k ∧ Hid (OrdAt l tab k wr v) ∧ Hid (Below w.heap.size w wr)) (fun _ i _ _ _ => n - (intOf i).toNat)
  case atStart => exact ⟨0, Nat.zero_le _, rfl, ⟨[], RowAt.nil, OrdN.zero l tab⟩, Below.refl _ _⟩
  case round =>
    obtain ⟨k, hk, rfl, HO, HW⟩ := hrel
    by_cases hlt : k < n
    · obtain ⟨lb, lo, lc', he, hlb, hek⟩ := (HL.out.below keepE HW.out).at (eAt_nat l k (by have := HN.out; omega))
      simp only [Value.slice.injEq] at he
      obtain ⟨rfl, -, -⟩ := he
      obtain ⟨p1, n1, c1, r1, m1, d1, a0, a1, a2, a3, a4, a5, -, -⟩ := hek.six
      have HEK := Lib.hid hek
      obtain ⟨t1, e1⟩ : ∃ t, t = (eAt l k).tab := ⟨_, rfl⟩
      rw [← e1] at a0
      have HE := Lib.hid e1
      have z1 : (k : Int) < (n : Int) := by omega
      clear hek e1 a1 a2 a3 a4 a5
      by_cases ht : t1 = tab
      · subst ht
        obtain ⟨xs, hx, ho⟩ := HO.out
        obtain ⟨xp, xc, rfl, x1, x2⟩ := hx.shape
        have HX := Lib.hid hx
        have HOD := Lib.hid ho
        have HST : Hid (∀ p, p ≤ xs.length → (∀ j, p ≤ j → j < xs.length → lts l k (fnOf xs j) = true) → (0 < p → lts l k (fnOf xs (p - 1)) = false) → OrdN l t1 (k + 1) (xs.take p ++ [(k : Int)] ++ xs.drop p)) := fun p a b c => ho.step HE.out.symm a b c
        have HXL : Hid (xs.length ≤ n) := by show _ ≤ _; have := ho.len; have := sel_len l t1 k; omega
        obtain ⟨m, hm⟩ : ∃ m, m = xs.length := ⟨_, rfl⟩
        rw [← hm] at x1 HXL HX ⊢
        have HM := Lib.hid hm
        clear hx ho hm HO
        have xcz : (m : Int) ≤ (xc : Int) := by omega
        obtain ⟨wo, rfl⟩ : ∃ wo : World, wo = wr := ⟨_, rfl⟩
        go_wp2_with fail
        go_loopw [7] (fun q wr => ∃ p : Nat, p ≤ m ∧ q = .int .i64 p ∧ Hid (∀ j, p ≤ j → j < m → lts l k (fnOf xs j) = true) ∧ Hid (Below wo.heap.size wo wr)) (fun q _ => (intOf q).toNat)
        case atStart => exact ⟨m, Nat.le_refl _, rfl, fun j h1 h2 => absurd h1 (by omega), Below.refl _ _⟩
        case round =>
          obtain ⟨p, hp, rfl, HJ, HQ⟩ := hrel
          by_cases hp0 : p = 0
          · subst hp0
            have HJ2 : Hid (0 < 0 → lts l k (fnOf xs (0 - 1)) = false) := fun h => absurd h (by omega)
            have hd0 : decide ((0 : Int) < ((0 : Nat) : Int)) = false := by decide
            clear a0
            go_wp2_with fail
            go_quiet (fail)
            have HQ' : ∀ j, Hid (Below wo.heap.size wo (wr.drewN j)) := fun j => below_drewN HQ.out j
            generalize hwz : World.drewN wr _ = wz
            replace HQ : Hid (Below wo.heap.size wo wz) := by rw [← hwz]; exact HQ' _
            clear hwz HQ'
            obtain ⟨wr, rfl⟩ : ∃ wr : World, wr = wz := ⟨_, rfl⟩
            have zp : (0 : Int) ≤ ((0 : Nat) : Int) := by omega
            clear hd0
            have hw0 : Hid (Below wr.heap.size wr (wr.alloc (.cells #[] 3))) := (Below.refl _ _).alloc (Nat.le_refl _) _
            have hP : 0 ≤ 40 := by have := HXL.out; omega
            have hm40 : m ≤ 40 := by have := HXL.out; omega
            have hi1 := RowAt.hi' (HX.out.below keepI HQ.out) (k := 0) (by have := HM.out; omega)
            obtain ⟨v2, hr2, hi2⟩ := (HX.out.below keepI HQ.out).lo elemInt (k := 0) (by have := HM.out; omega)
            replace hr2 : ∀ W, (Instr.slice 39 (.slice xp m xc) (some (.int .i64 0)) none none).run Try.prog W = .ok v2 W := hr2
            have hl1 : (xs.take 0).length = 0 := by rw [List.length_take]; have := HM.out; omega
            have hl2 : (xs.drop 0).length = m - 0 := by rw [List.length_drop]; have := HM.out; omega
            have S1 : Hid (∀ W, Below wr.heap.size wr W → SrcAt W 1 (.slice xp 0 xc) 0 ((xs.take 0).flatMap (fun n => [Value.int .i64 n]))) := fun W hW => by have := (hi1.below keepI hW).src flatI.toFlatG; rwa [hl1] at this
            have S2 : Hid (∀ W, Below wr.heap.size wr W → SrcAt W 1 v2 (m - 0) ((xs.drop 0).flatMap (fun n => [Value.int .i64 n]))) := fun W hW => by have := (hi2.below keepI hW).src flatI.toFlatG; rwa [hl2] at this
            have HL12 := Lib.hid (And.intro hl1 hl2)
            have hmP : (0 : Int) ≤ (m : Int) := by omega
            have hpx : (0 : Int) ≤ (xc : Int) := by omega
            clear hi1 hi2 hl1 hl2
            cases xp
            all_goals
              go_wp2_with (first
              | (at_builtin; refine append_gen elemInt rfl (.tmp 43) (.tmp 46) rfl wr.heap.size (.slice (some ⟨wr.heap.size, 0, none⟩) 0 0) 0 [] rfl (owns_made0 wr 3 1) (.slice _ 0 xc) 0 _ rfl (S1.out _ ((Below.refl _ _).alloc (Nat.le_refl _) _)) (by omega) (by unfold maxLen; omega) (by simp) ?_; intro y1 w1 h1 h2; have HO1 := Lib.hid h1; have HB1 : Hid (Below wr.heap.size wr w1) := below_grown ((Below.refl _ _).alloc (Nat.le_refl _) _) (owns_made0 wr 3 1) h2 (Nat.le_refl _) (by simp); clear h1 h2)
              | (at_builtin; refine append_gen elemInt rfl (.tmp 48) (.tmp 50) rfl wr.heap.size y1 _ _ rfl (HO1.out.alloc _) _ 1 [.int .i64 (k : Int)] rfl (src_one (g := w1.heap.size) rfl (fun u hu => by simp at hu; subst hu; rfl) (fun j u hj => by match j, hj with | 0, hj => cases hj; simp [go_sem])) (by omega) (by unfold maxLen; omega) (by have := HB1.out.size; simp; omega) ?_; intro y2 w2 h1 h2; have HO2 := Lib.hid h1; have HB2 : Hid (Below wr.heap.size wr w2) := below_grown (HB1.out.alloc HB1.out.size _) (HO1.out.alloc _) h2 (Nat.le_refl _) (by have := HB1.out.size; simp; omega); clear h1 h2)
              | (at_builtin; refine append_gen elemInt rfl (.tmp 52) (.tmp 55) rfl wr.heap.size y2 _ _ rfl HO2.out v2 (m - 0) _ rfl (S2.out _ HB2.out) (by omega) (by unfold maxLen; omega) HB2.out.size ?_; intro y3 w3 h1 h2; have HO3 := Lib.hid h1; have HB3 : Hid (Below wr.heap.size wr w3) := below_grown HB2.out HO2.out h2 (Nat.le_refl _) HB2.out.size; clear h1 h2))
              go_roundw
              case rel =>
                refine ⟨k + 1, by omega, by go_num, ⟨_, RowAt.of_flat (base := wr.heap.size) (E := 3) (n := 0 + 0 + 1 + (m - 0)) flatI (l := xs.take 0 ++ [(k : Int)] ++ xs.drop 0) ?_ ?_, HST.out 0 (by have := HM.out; omega) (fun j h1 h2 => HJ.out j h1 (by rw [HM.out]; exact h2)) HJ2.out⟩, HW.out.trans ((HQ.out.trans (HB3.out.mono HQ.out.size)).mono HW.out.size)⟩
                · rw [List.length_append, List.length_append, HL12.out.1, HL12.out.2]; simp
                · have := HO3.out
                  simpa using this
              case measure => simp [intOf]; omega
          · clear a0
            have pp : (0 : Int) < (p : Int) := by omega
            have hdp : decide (0 < p) = true := decide_eq_true (by omega)
            have zp : (0 : Int) ≤ (p : Int) := by omega
            have hpm : p - 1 < m := by omega
            obtain ⟨y, hy⟩ : ∃ y : Nat, fnOf xs (p - 1) = (y : Int) ∧ y < n := by
              have hmem : fnOf xs (p - 1) ∈ xs := by rw [fnOf_at (by have := HM.out; omega)]; exact List.getElem_mem _
              have := mem_sel.1 (HOD.out.mem.1 hmem)
              exact ⟨(fnOf xs (p - 1)).toNat, by omega, by omega⟩
            obtain ⟨hy1, hy2⟩ := hy
            obtain ⟨xb, xo, xc', hxe, hxb, hxa⟩ := (HX.out.below keepI HQ.out).at (List.getElem?_eq_getElem (show p - 1 < xs.length by have := HM.out; omega))
            simp only [Value.slice.injEq] at hxe
            obtain ⟨rfl, -, -⟩ := hxe
            rw [← fnOf_at, hy1, Nat.mul_one] at hxa
            have x0 : wr.cell? ⟨xb, xo + (p - 1), none⟩ = some (.int .i64 (y : Int)) := hxa
            have hBQ := HW.out.trans (HQ.out.mono HW.out.size)
            obtain ⟨lb3, lo3, lc3, he3, -, hek⟩ := (HL.out.below keepE hBQ).at (eAt_nat l k (by have := HN.out; omega))
            simp only [Value.slice.injEq, Option.some.injEq, Addr.mk.injEq, and_true, true_and] at he3
            obtain ⟨⟨rfl, rfl⟩, -⟩ := he3
            obtain ⟨lb2, lo2, lc2, he2, -, hej⟩ := (HL.out.below keepE hBQ).at (eAt_nat l y (by have := HN.out; omega))
            simp only [Value.slice.injEq, Option.some.injEq, Addr.mk.injEq, and_true, true_and] at he2
            obtain ⟨⟨rfl, rfl⟩, -⟩ := he2
            obtain ⟨p1, n1, c1, r1, m1, d1, a0, a1, a2, a3, a4, a5, -, -⟩ := hek.six
            obtain ⟨p2, n2, c2, r2, m2, d2, b0, b1, b2, b3, b4, b5, -, -⟩ := hej.six
            obtain ⟨x, hx⟩ : ∃ x, x = lts l k (y : Int) := ⟨_, rfl⟩
            have HC : Hid (∀ W, Calls Try.prog 36 #[.agg #[.int .i64 (eAt l k).tab, .slice p1 n1 c1, .int .i64 (eAt l k).len, .int .i64 (eAt l k).prio, .int .i64 (eAt l k).act, .slice r1 m1 d1], .agg #[.int .i64 (eAt l y).tab, .slice p2 n2 c2, .int .i64 (eAt l y).len, .int .i64 (eAt l y).prio, .int .i64 (eAt l y).act, .slice r2 m2 d2]] W
                fun e w' => e = .returned (.bool x) ∧ Below W.heap.size W w') := fun W => by rw [hx]; exact refAhead_any _ _ _ _ _ _ _ _ _ _ _ _ _ _ _ _ _ _ _ _ W
            have HXX : Hid (x = lts l k (fnOf xs (p - 1))) := by show _ = _; rw [hx, hy1]
            clear hx hy1 hxa hBQ hek hej
            generalize (eAt l k).tab = t1 at *
            generalize (eAt l k).len = l1 at *
            generalize (eAt l k).prio = q1 at *
            generalize (eAt l k).act = s1 at *
            generalize (eAt l y).tab = t2 at *
            generalize (eAt l y).len = l2 at *
            generalize (eAt l y).prio = q2 at *
            generalize (eAt l y).act = s2 at *
            obtain ⟨r, hr⟩ : ∃ r, r = p - 1 := ⟨_, rfl⟩
            rw [← hr] at x0 hpm
            have HR2 : Hid (p = r + 1) := by show _ = _; omega
            have z2 : (r : Int) < (m : Int) := by omega
            have z3 : (0 : Int) ≤ (r : Int) := by omega
            have z4 : (y : Int) < (n : Int) := by omega
            have z5 : (0 : Int) ≤ (y : Int) := by omega
            have z6 : (0 : Int) ≤ (k : Int) := by omega
            have hS := Lib.hid (And.intro (below_drewN (Below.refl wr.heap.size wr) 1) (And.intro x0 (And.intro a0 (And.intro a1 (And.intro a2 (And.intro a3 (And.intro a4 (And.intro a5 (And.intro b0 (And.intro b1 (And.intro b2 (And.intro b3 (And.intro b4 b5)))))))))))))
            clear hr
            have hw1 : IntKind.i64.wrap ((p : Int) - 1) = (r : Int) := by have := HR2.out; have := HXL.out; rw [show (p : Int) - 1 = (r : Int) by omega]; exact IntWalk.i64_in _ (by omega)
            go_wp2_with fail
            go_region_held3 (fun Wk => Below (wr.heap.size) (wr) Wk ∧ Wk.cell? ⟨xb, xo + r, none⟩ = some (.int .i64 (y : Int)) ∧ Wk.cell? ⟨lb, lo + k * 6, none⟩ = some (.int .i64 t1) ∧ Wk.cell? ⟨lb, lo + k * 6 + 1, none⟩ = some (.slice p1 n1 c1) ∧ Wk.cell? ⟨lb, lo + k * 6 + 2, none⟩ = some (.int .i64 l1) ∧ Wk.cell? ⟨lb, lo + k * 6 + 3, none⟩ = some (.int .i64 q1) ∧ Wk.cell? ⟨lb, lo + k * 6 + 4, none⟩ = some (.int .i64 s1) ∧ Wk.cell? ⟨lb, lo + k * 6 + 5, none⟩ = some (.slice r1 m1 d1) ∧ Wk.cell? ⟨lb, lo + y * 6, none⟩ = some (.int .i64 t2) ∧ Wk.cell? ⟨lb, lo + y * 6 + 1, none⟩ = some (.slice p2 n2 c2) ∧ Wk.cell? ⟨lb, lo + y * 6 + 2, none⟩ = some (.int .i64 l2) ∧ Wk.cell? ⟨lb, lo + y * 6 + 3, none⟩ = some (.int .i64 q2) ∧ Wk.cell? ⟨lb, lo + y * 6 + 4, none⟩ = some (.int .i64 s2) ∧ Wk.cell? ⟨lb, lo + y * 6 + 5, none⟩ = some (.slice r2 m2 d2))
              (first | exact hS.out | exact held_13_0 hb1 (by assumption) | assumption)
              (first
              | (go_at_call 36; (with_reducible refine (HC.out _).mono ?_); rintro e w1 ⟨rfl, hb1⟩))
            rename_i hT
            have HB := Lib.hid hT.1
            clear hdp hS hT hb1 x0 a0 a1 a2 a3 a4 a5 b0 b1 b2 b3 b4 b5 HC
            have HQ' : Hid (Below wo.heap.size wo w1) := HQ.out.trans (HB.out.mono HQ.out.size)
            clear HQ HB
            cases x
            · have HJ2 : Hid (0 < p → lts l k (fnOf xs (p - 1)) = false) := fun _ => HXX.out.symm
              clear hw1
              have HQ := HQ'
              obtain ⟨wr, rfl⟩ : ∃ wr : World, wr = w1 := ⟨_, rfl⟩
              have hP : p ≤ 40 := by have := HXL.out; omega
              have hm40 : m ≤ 40 := by have := HXL.out; omega
              have hi1 := RowAt.hi' (HX.out.below keepI HQ.out) (k := p) (by have := HM.out; omega)
              obtain ⟨v2, hr2, hi2⟩ := (HX.out.below keepI HQ.out).lo elemInt (k := p) (by have := HM.out; omega)
              have hl1 : (xs.take p).length = p := by rw [List.length_take]; have := HM.out; omega
              have hl2 : (xs.drop p).length = m - p := by rw [List.length_drop]; have := HM.out; omega
              have S1 : Hid (∀ W, Below wr.heap.size wr W → SrcAt W 1 (.slice (some ⟨xb, xo, none⟩) p xc) p ((xs.take p).flatMap (fun n => [Value.int .i64 n]))) := fun W hW => by have := (hi1.below keepI hW).src flatI.toFlatG; rwa [hl1] at this
              have S2 : Hid (∀ W, Below wr.heap.size wr W → SrcAt W 1 v2 (m - p) ((xs.drop p).flatMap (fun n => [Value.int .i64 n]))) := fun W hW => by have := (hi2.below keepI hW).src flatI.toFlatG; rwa [hl2] at this
              have HL12 := Lib.hid (And.intro hl1 hl2)
              have hmP : (p : Int) ≤ (m : Int) := by omega
              have hpx : (p : Int) ≤ (xc : Int) := by omega
              clear hi1 hi2 hl1 hl2
              go_wp2_with (first
                | (at_builtin; refine append_gen elemInt rfl (.tmp 43) (.tmp 46) rfl wr.heap.size (.slice (some ⟨wr.heap.size, 0, none⟩) 0 0) 0 [] rfl (owns_made0 wr 3 1) (.slice (some ⟨xb, xo, none⟩) p xc) p _ rfl (S1.out _ ((Below.refl _ _).alloc (Nat.le_refl _) _)) (by omega) (by unfold maxLen; omega) (by simp) ?_; intro y1 w1 h1 h2; have HO1 := Lib.hid h1; have HB1 : Hid (Below wr.heap.size wr w1) := below_grown ((Below.refl _ _).alloc (Nat.le_refl _) _) (owns_made0 wr 3 1) h2 (Nat.le_refl _) (by simp); clear h1 h2)
                | (at_builtin; refine append_gen elemInt rfl (.tmp 48) (.tmp 50) rfl wr.heap.size y1 _ _ rfl (HO1.out.alloc _) _ 1 [.int .i64 (k : Int)] rfl (src_one (g := w1.heap.size) rfl (fun u hu => by simp at hu; subst hu; rfl) (fun j u hj => by match j, hj with | 0, hj => cases hj; simp [go_sem])) (by omega) (by unfold maxLen; omega) (by have := HB1.out.size; simp; omega) ?_; intro y2 w2 h1 h2; have HO2 := Lib.hid h1; have HB2 : Hid (Below wr.heap.size wr w2) := below_grown (HB1.out.alloc HB1.out.size _) (HO1.out.alloc _) h2 (Nat.le_refl _) (by have := HB1.out.size; simp; omega); clear h1 h2)
                | (at_builtin; refine append_gen elemInt rfl (.tmp 52) (.tmp 55) rfl wr.heap.size y2 _ _ rfl HO2.out v2 (m - p) _ rfl (S2.out _ HB2.out) (by omega) (by unfold maxLen; omega) HB2.out.size ?_; intro y3 w3 h1 h2; have HO3 := Lib.hid h1; have HB3 : Hid (Below wr.heap.size wr w3) := below_grown HB2.out HO2.out h2 (Nat.le_refl _) HB2.out.size; clear h1 h2))
              go_roundw
              case rel =>
                refine ⟨k + 1, by omega, by go_num, ⟨_, RowAt.of_flat (base := wr.heap.size) (E := 3) (n := 0 + p + 1 + (m - p)) flatI (l := xs.take p ++ [(k : Int)] ++ xs.drop p) ?_ ?_, HST.out p (by have := HM.out; omega) (fun j h1 h2 => HJ.out j h1 (by rw [HM.out]; exact h2)) HJ2.out⟩, HW.out.trans ((HQ.out.trans (HB3.out.mono HQ.out.size)).mono HW.out.size)⟩
                · rw [List.length_append, List.length_append, HL12.out.1, HL12.out.2]; simp
                · have := HO3.out
                  simpa using this
              case measure => simp [intOf]; omega
            · go_wp2_with fail
              go_roundw
              case rel =>
                refine ⟨r, by omega, by go_num, fun j h1 h2 => ?_, HQ'⟩
                by_cases e : j = r
                · have e2 : p - 1 = j := by have := HR2.out; omega
                  have := HXX.out.symm
                  rwa [e2] at this
                · exact HJ.out j (by have := HR2.out; omega) h2
              case measure => have := HR2.out; simp [intOf]; omega
      · have hne : (t1 == tab) = false := by rw [beq_eq_false_iff_ne]; exact ht
        have HS : Hid (OrdAt l tab (k + 1) wr u5) := by
          obtain ⟨xs, hx, ho⟩ := HO.out
          exact ⟨xs, hx, ho.skip (fun q => ht (HE.out.trans q))⟩
        go_wp2_with fail
        go_roundw
        case rel => exact ⟨k + 1, by omega, by go_num, HS, HW⟩
        case measure => simp [intOf]; omega
    · obtain rfl : k = n := by omega
      go_wp2_with fail
      go_ret
      obtain ⟨xs, hx, ho⟩ := HO.out
      exact ⟨_, xs, rfl, hx.ivec, OrdN.ord (by rw [← HN.out]; exact ho), HW.out⟩

end Go.Proofs.Ytnknpgfconfgjaa

/-
  table.Choose.
-/
namespace Go.Proofs.Ytnknpgfconfgjaa
open Go.RowKit Stab

/-- Entries of few patterns and arguments. -/
def Few (l : List Ent) : Prop := ∀ k : Nat, k < l.length → (eAt l k).pats.length ≤ 10 ∧ (eAt l k).args.length ≤ 10

set_option maxRecDepth 100000 in
set_option maxHeartbeats 3200000 in
theorem choose_any (l : List Ent) (tab : Int) (ks : List Nat) (lv kv : Value) (w : World) (hl : ERow w lv l) (hk : NRow w kv ks) (hn : l.length ≤ 40) (hf : Few l) :
    Calls Try.prog 19 #[lv, .int .i64 tab, kv] w (RetBest w l tab ks) := by
  obtain ⟨la, lc, rfl, hc1, hc2⟩ := hl.shape
  obtain ⟨ka, kc, rfl, kc1, kc2⟩ := hk.shape
  have HO := Lib.hid (order_any l tab _ w hl hn)
  have HL := Lib.hid hl
  have HK := Lib.hid hk
  have HF := Lib.hid hf
  obtain ⟨n, hnn⟩ : ∃ n, n = l.length := ⟨_, rfl⟩
  rw [← hnn] at hn hc1 HL HO ⊢
  have HN := Lib.hid hnn
  clear hl hk hf hnn
  go_enter Try.func19, Try.ntmps19
  go_wp2_with fail
  refine HO.out.mono ?_
  rintro e w1 ⟨v, xs, rfl, hx, ho, hb⟩
  obtain ⟨xa, xc, rfl, xc1, xc2, hxa⟩ := hx.shape
  have HX := Lib.hid hx
  have HXA := Lib.hid hxa
  have HOD := Lib.hid ho
  have HB := Lib.hid hb
  obtain ⟨m, hm⟩ : ∃ m, m = xs.length := ⟨_, rfl⟩
  rw [← hm] at xc1 HX ⊢
  have hm40 : m ≤ 40 := by have := ho.len; have := sel_len l tab l.length; have := HN.out; omega
  have HM := Lib.hid hm
  clear hx ho hb hm hxa HO
  go_wp2_with fail
  go_loopw [8, 13] (fun u i wr => ∃ k : Nat, k ≤ m ∧ i = .int .i64 k ∧ Hid (∀ j, j < k → matB (eAt l (fnOf xs j)) tab ks = false) ∧ Hid (Below w1.heap.size w1 wr)) (fun _ i _ => m - (intOf i).toNat)
  case atStart => exact ⟨0, Nat.zero_le _, rfl, fun j h => absurd h (by omega), Below.refl _ _⟩
  case round =>
    obtain ⟨k, hk, rfl, HJ, HW⟩ := hrel
    by_cases hlt : k < m
    · obtain ⟨y, hy1, hy2⟩ : ∃ y : Nat, fnOf xs k = (y : Int) ∧ y < n := by
        have hmem : fnOf xs k ∈ xs := by rw [fnOf_at (by have := HM.out; omega)]; exact List.getElem_mem _
        have := HOD.out.mem.1 hmem
        have := HN.out
        exact ⟨(fnOf xs k).toNat, by omega, by omega⟩
      obtain ⟨xb, xo, rfl, hxb, hxe⟩ := HXA.out (by have := HM.out; omega)
      have x0 := hxe k (by have := HM.out; omega)
      rw [← HW.out.cell (p := ⟨xb, xo + k, none⟩) hxb] at x0
      have e0 : xs.getD k 0 = (y : Int) := hy1
      rw [e0] at x0
      have hBW := HB.out.trans (HW.out.mono HB.out.size)
      obtain ⟨lb, lo, lc2, he2, -, hej⟩ := (HL.out.below keepE hBW).at (eAt_nat l y (by have := HN.out; omega))
      simp only [Value.slice.injEq] at he2
      obtain ⟨rfl, -, -⟩ := he2
      obtain ⟨p1, n1, c1, r1, m1, d1, a0, a1, a2, a3, a4, a5, hp, hr⟩ := hej.six
      obtain ⟨r, hr2⟩ : ∃ r, r = matB (eAt l y) tab ks := ⟨_, rfl⟩
      have hpl : (eAt l y).pats.length ≤ 1000000 := by have := (HF.out y (by have := HN.out; omega)).1; omega
      have HC : Hid (Calls Try.prog 15 #[.agg #[.int .i64 (eAt l y).tab, .slice p1 n1 c1, .int .i64 (eAt l y).len, .int .i64 (eAt l y).prio, .int .i64 (eAt l y).act, .slice r1 m1 d1], .int .i64 tab, .slice ka ks.length kc] wr fun e w' => e = .returned (.bool r) ∧ Below wr.heap.size wr w') := by
        rw [hr2]; exact matches_any (eAt l y) tab ks _ _ wr ⟨_, _, rfl, hp, hr⟩ (HK.out.below keepN hBW) hpl
      have HR : Hid (r = matB (eAt l (fnOf xs k)) tab ks) := by show _ = _; rw [hr2, hy1]
      have HY : Hid (fnOf xs k = (y : Int)) := hy1
      clear hr2 hy1 e0 hBW hej hp hr hxe hpl
      generalize (eAt l y).tab = t1 at *
      generalize (eAt l y).len = l1 at *
      generalize (eAt l y).prio = q1 at *
      generalize (eAt l y).act = s1 at *
      have z1 : (k : Int) < (m : Int) := by omega
      have z2 : (y : Int) < (n : Int) := by omega
      go_wp2_with fail
      refine HC.out.mono ?_
      rintro e w2 ⟨rfl, hb2⟩
      have HW2 : Hid (Below w1.heap.size w1 w2) := HW.out.trans (hb2.mono HW.out.size)
      clear hb2 HC a0 a1 a2 a3 a4 a5 x0
      cases r
      · go_wp2_with fail
        go_roundw
        case rel =>
          refine ⟨k + 1, by omega, by go_num, fun j hj => ?_, HW2⟩
          by_cases e : j = k
          · subst e; exact HR.out.symm
          · exact HJ.out j (by omega)
        case measure => simp [intOf]; omega
      · go_wp2_with fail
        go_ret
        refine ⟨(y : Int), rfl, ?_, HB.out.trans (HW2.out.mono HB.out.size)⟩
        rw [← HY.out]
        have hkx : k < xs.length := by have := HM.out; omega
        exact HOD.out.best hkx HJ.out HR.out.symm
    · obtain rfl : k = m := by omega
      go_wp2_with fail
      go_ret
      exact ⟨-1, rfl, HOD.out.none (by rw [← HM.out]; exact HJ.out), HB.out.trans (HW.out.mono HB.out.size)⟩

end Go.Proofs.Ytnknpgfconfgjaa

/-
  flow.Body.
-/
import Derived.Test.YtfhleldmkhllaaaFlowH
namespace Go.Proofs.Ytfhleldmkhllaaa
open Go.RowKit Go.Maps Flow

theorem append_ins2 {ops : Array Oper} {rest : List Oper} {o : Oper} {a : Act} {Q : Exit → Act → World → Prop} {w : World} (hgd : o.guard = none) (s x : Operand)
    (ho : o.op = .call { callee := .builtin .append, args := #[s, x], argTypes := #[22, 22] })
    (base g cap n : Nat) (xs : List Ins) (hn : n = xs.length) (hs : a.eval s = .slice (some ⟨g, 0, none⟩) n cap) (hown : OwnG w base g cap xs) (gb : Nat) (y : Ins) (ev : Value) (hx : a.eval x = .slice (some ⟨gb, 0, none⟩) 1 1) (hc : w.heap[gb]? = some (.cells #[.int .u8 y.k, .int .i64 y.a, .int .i64 y.b, ev, .int .i64 y.to] 30 (0, 0))) (hcode : CodeAt w (fun b => b ≠ g) ev y.e)
    (hl : (n + 1) * 56 ≤ 140737488355328) (hbase : base ≤ w.heap.size)
    (h : ∀ g2 cap2 w', OwnG w' base g2 cap2 (xs ++ [y]) → w.grownBy w' (some g) → wpList Try.prog ops Q rest (a.put o.dst (.slice (some ⟨g2, 0, none⟩) (n + 1) cap2)) w') : wpList Try.prog ops Q (o :: rest) a w := by
  subst hn
  exact append_ins hgd s x ho base g cap xs hs hown gb y ev hx hc hcode hl hbase h

open Classical in
/-- What Body makes. -/
noncomputable def bodyR (l : List Ins) : List Ins := if Fwd l then bodyF l else l

theorem OwnI.row {w : World} {base : Nat} {v : Value} {l : List Ins} (h : OwnI w base v l) : InsRow w Any v l := by
  rcases h with ⟨rfl, rfl⟩ | ⟨g, cap, rfl, hg⟩
  · exact InsRow.nil _ _
  · exact hg.row _ fun _ _ _ => trivial

set_option maxRecDepth 100000 in
set_option maxHeartbeats 4000000 in
/-- Where a jump goes back, or nothing is there. -/
theorem body_own (v : Value) (X : Nat → Prop) (l : List Ins) (w : World) (hv : InsRow w X v l) (hlen : l.length * 56 ≤ 140737488355328) (hcl : ∀ j, j < l.length → (at' l j).e.length * 48 ≤ 140737488355328) (hno : ¬ Fwd l ∨ l.length = 0) :
    Calls Try.prog 6 #[v] w fun e W' => ∃ v', e = .returned v' ∧ InsRow W' Any v' l ∧ Below w.heap.size w W' := by
  have H1 := Lib.hid (forward_any v X l w hv (by omega))
  have H2 : Hid (∀ W, Below w.heap.size w W → Calls Try.prog 9 #[v] W fun r w' => ∃ v', r = .returned v' ∧ OwnI w' W.heap.size v' l ∧ Below W.heap.size W w') := fun W hW => own_any v X l W (hv.below hW) hlen hcl
  obtain ⟨pa, ca, rfl⟩ := hv.shape
  clear hv
  go_enter Try.func6, Try.ntmps6
  go_wp2_with fail
  refine H1.out.mono ?_
  rintro e w1 ⟨⟨fb, rfl, hfb⟩, hb1⟩
  have HB1 := Lib.hid hb1
  cases fb
  · clear hb1 hfb
    go_wp2_with (first | (go_at_call 9; (with_reducible refine (H2.out _ HB1.out).mono ?_); rintro e1 w2 ⟨v2, rfl, ho2, hb2⟩))
    go_ret
    exact ⟨_, rfl, ho2.row, HB1.out.trans (hb2.mono HB1.out.size)⟩
  · have h0 : l.length = 0 := by
      rcases hno with q | q
      · exact absurd (hfb.1 rfl) q
      · exact q
    rw [h0] at H2 ⊢
    clear hb1 hfb
    go_wp2_with (first | (go_at_call 9; (with_reducible refine (H2.out _ HB1.out).mono ?_); rintro e1 w2 ⟨v2, rfl, ho2, hb2⟩))
    go_ret
    exact ⟨_, rfl, ho2.row, HB1.out.trans (hb2.mono HB1.out.size)⟩

/-- The places' cells. -/
def KRow (W : World) (gk : Nat) (l : List Ins) : Prop := gk < W.heap.size ∧ ∀ j, j < (Kp l).length → W.cell? ⟨gk, j, none⟩ = some (.int .i64 (((Kp l).getD j 0 : Nat) : Int))
theorem KRow.below {w w' : World} {gk : Nat} {l : List Ins} (h : KRow w gk l) (hb : Below w.heap.size w w') : KRow w' gk l :=
  ⟨Nat.lt_of_lt_of_le h.1 hb.size, fun j hj => (hb.cell (p := ⟨gk, j, none⟩) h.1).trans (h.2 j hj)⟩

set_option maxRecDepth 100000 in
set_option maxHeartbeats 8000000 in
theorem body_lays (v : Value) (X : Nat → Prop) (l : List Ins) (w : World) (hv : InsRow w X v l) (hlen : l.length * 56 ≤ 140737488355328) (hcl : ∀ j, j < l.length → (at' l j).e.length * 48 ≤ 140737488355328) (hf : Fwd l) (h0 : 0 < l.length) :
    Calls Try.prog 6 #[v] w fun e W' => ∃ v', e = .returned v' ∧ InsRow W' Any v' (bodyF l) ∧ Below w.heap.size w W' := by
  have H1 := Lib.hid (forward_any v X l w hv (by omega))
  have H2 : Hid (∀ W, Below w.heap.size w W → Calls Try.prog 10 #[v] W fun e W' => ∃ g, e = .returned (.slice (some ⟨g, 0, none⟩) (l.length + 1) (l.length + 1)) ∧ W.heap.size ≤ g ∧ RowT W' g l.length (T l) ∧ Below W.heap.size W W') := fun W hW => comes_any v X l W (hv.below hW) hf h0 hlen hcl
  have H3 : Hid (∀ W g, Below w.heap.size w W → RowT W g l.length (T l) → Calls Try.prog 11 #[v, .slice (some ⟨g, 0, none⟩) (l.length + 1) (l.length + 1)] W fun e W' => ∃ v', e = .returned v' ∧ W'.ownsRow W.heap.size 3 1 v' (ints ((List.range l.length).filter (R l))).length ((ints ((List.range l.length).filter (R l))).map (Value.int .i64)) ∧ Below W.heap.size W W') := fun W g hW hT => stay_any v X l g W (hv.below hW) hT hf hlen
  have HV := Lib.hid hv
  have HF := Lib.hid hf
  have HCL := Lib.hid hcl
  obtain ⟨pa, ca, rfl⟩ := hv.shape
  have hl0 : ¬ (l.length : Int) = 0 := by omega
  have hksl : (ints ((List.range l.length).filter (R l))).length ≤ 10000000000000 := by
    rw [ints_len]
    have := List.length_filter_le (R l) (List.range l.length)
    rw [List.length_range] at this
    omega
  clear hv hf hcl
  have hmm := @run_makeMap Try.prog
  go_enter Try.func6, Try.ntmps6
  go_wp2_with fail
  refine H1.out.mono ?_
  rintro e w1 ⟨⟨fb, rfl, hfb⟩, hb1⟩
  have HB1 := Lib.hid hb1
  cases fb
  · exact absurd (hfb.2 HF.out) (by decide)
  clear hb1 hfb
  go_wp2_with (first
    | (go_at_call 10; (with_reducible refine (H2.out _ HB1.out).mono ?_); rintro e1 w2 ⟨g, rfl, hg, hT, hb2⟩; have HT := Lib.hid hT; have HB2 : Hid (Below w.heap.size w w2) := HB1.out.trans (hb2.mono HB1.out.size); clear hT hb2)
    | (go_at_call 11; (with_reducible refine (H3.out _ g HB2.out HT.out).mono ?_); rintro e2 w3 ⟨v3, rfl, hO3, hb3⟩; have HO3 := Lib.hid (hO3.alloc (.cells #[.int .i64 (l.length : Int)] 3)); have HT3 := Lib.hid (HT.out.keep (hb3.block g HT.out.lt)); have HB3 : Hid (Below w.heap.size w w3) := HB2.out.trans (hb3.mono HB2.out.size); have hcell : (w3.alloc (.cells #[.int .i64 (l.length : Int)] 3)).cell? ⟨w3.heap.size, 0, none⟩ = some (.int .i64 (l.length : Int)) := (by simp [go_sem]); have hz2 : w2.heap.size ≤ w3.heap.size := hb3.size; have hob : ∀ j, v3.ownBlock = some j → w2.heap.size ≤ j := (fun j e => (hO3.lt j e).1); clear hO3 hb3)
    | (refine append_int rfl (.tmp 28) (.tmp 31) rfl w2.heap.size _ _ rfl HO3.out w3.heap.size (l.length : Int) rfl hcell hksl (by simp; omega) ?_; intro gk capk w4 hown4 hgrow4; have HOWN4 := Lib.hid hown4; have HT4 := Lib.hid (HT3.out.keep ((hgrow4.block g (by have := HT3.out.lt; simp; omega) (fun e => by have := hob g e.symm; have := HT.out.lt; omega)).trans (Below.heap_alloc _ _ _ HT3.out.lt))); have HB4 : Hid (Below w.heap.size w w4) := (HB3.out.alloc HB3.out.size _).grown hgrow4 (by have := HB3.out.size; simp; omega) (fun j e => by have := hob j e; have := HB2.out.size; omega); clear hown4 hgrow4))
  obtain ⟨M, hM⟩ : ∃ M, (ints ((List.range l.length).filter (R l))).length = M := ⟨_, rfl⟩
  have hKM : (Kp l).length = M + 1 := by unfold Kp; rw [List.length_append, ← ints_len, hM]; rfl
  have hKR : KRow w4 gk l := by
    have hr := HOWN4.out
    have e1 : ints ((List.range l.length).filter (R l)) ++ [(l.length : Int)] = ints (Kp l) := by unfold Kp; rw [ints_snoc]
    rw [e1] at hr
    rw [hM, show (ints (Kp l)).length = M + 1 by rw [ints_len, hKM]] at hr
    obtain ⟨c1, c2, c3, c4, c5⟩ := copied hr
    refine ⟨c2, fun j hj => ?_⟩
    rw [c5 j (by omega)]
    simp only [ints, List.map_map, List.getElem?_map, List.getElem?_eq_getElem hj, Option.map_some, Function.comp_apply, List.getD_eq_getElem?_getD, Option.getD_some]
  have hcap : M + 1 ≤ capk := by
    have hr := HOWN4.out
    have e1 : ints ((List.range l.length).filter (R l)) ++ [(l.length : Int)] = ints (Kp l) := by unfold Kp; rw [ints_snoc]
    rw [e1] at hr
    rw [hM, show (ints (Kp l)).length = M + 1 by rw [ints_len, hKM]] at hr
    exact (copied hr).2.2.1
  have HKR := Lib.hid hKR
  rw [hM] at hksl ⊢
  have hM2 : M ≤ l.length := by have := Kp_len l; omega
  clear hKR HOWN4 HO3 hob hcell hM
  have hgl := HT4.out.lt
  have hgkl := HKR.out.1
  go_loopw [6, 36] (fun c i wr => ∃ k cnt : Nat, k ≤ M + 1 ∧ i = .int .i64 (k : Int) ∧ c = .int .i64 (cnt : Int) ∧ (k ≤ M → cnt = pl l ((Kp l).getD k 0)) ∧ cnt ≤ l.length + 1 ∧ Hid (PMap wr w4.heap.size ((List.range k).map fun j => ((Kp l).getD j 0, pl l ((Kp l).getD j 0))) ∧ Below w4.heap.size w4 wr)) (fun _ i _ => M + 1 - (RowKit.intOf i).toNat)
  case atStart => exact ⟨0, 0, by omega, rfl, rfl, fun _ => (Kp_start l).1.symm, by omega, PMap.empty _ _ (heap_alloc_new w4 _), (by repeat (first | exact Below.refl _ _ | assumption | refine Below.drew ?_ | refine Below.alloc ?_ (by first | omega | (simp <;> omega)) _ | refine Below.setCell ?_ (by first | omega | (simp <;> omega)) _ | refine Below.trans ?_ (Below.mono (by assumption) (by first | omega | (simp <;> omega)))))⟩
  case round =>
    obtain ⟨k, cnt, hk, rfl, rfl, hcnt, hcb, HK⟩ := hrel
    by_cases hlt : k < M + 1
    · obtain ⟨h1, h2⟩ := HK.out
      obtain ⟨a1, a2, -, -⟩ := Kp_at l (k := k) (by omega)
      have ck := (h2.cell (p := ⟨gk, k, none⟩) hgkl).trans (HKR.out.2 k (by omega))
      have hcn := hcnt (by omega)
      have hnew : ∀ p ∈ (List.range k).map fun j => ((Kp l).getD j 0, pl l ((Kp l).getD j 0)), p.1 ≠ (Kp l).getD k 0 := by
        intro p hp
        obtain ⟨j, hj, rfl⟩ := List.mem_map.1 hp
        have hjk := List.mem_range.1 hj
        intro e
        have hnd := Kp_nodup l
        have e2 : (Kp l)[j]'(by omega) = (Kp l)[k]'(by omega) := by
          have e' : (Kp l).getD j 0 = (Kp l).getD k 0 := e
          rw [List.getD_eq_getElem?_getD, List.getD_eq_getElem?_getD, List.getElem?_eq_getElem (by omega), List.getElem?_eq_getElem (by omega)] at e'
          exact e'
        exact List.pairwise_iff_getElem.1 hnd j k (by omega) (by omega) hjk e2
      have hes : ((List.range k).map fun j => ((Kp l).getD j 0, pl l ((Kp l).getD j 0))) ++ [((Kp l).getD k 0, cnt)] = (List.range (k + 1)).map fun j => ((Kp l).getD j 0, pl l ((Kp l).getD j 0)) := by rw [List.range_succ, List.map_append, hcn]; rfl
      have HES := Lib.hid hes
      have HNEW := Lib.hid hnew
      have hki : (k : Int) < (M : Int) + 1 := by omega
      obtain ⟨x, hx⟩ : ∃ x, (Kp l).getD k 0 = x := ⟨_, rfl⟩
      have HX := Lib.hid hx
      rw [hx] at ck a1 hcn
      have hwf : (Lit.int .i64 ((x : Nat) : Int)).wf = true := by
        unfold Lit.wf
        rw [Bool.and_eq_true, decide_eq_true_eq, decide_eq_true_eq, show IntKind.i64.min = -9223372036854775808 by decide, show IntKind.i64.max = 9223372036854775807 by decide]
        omega
      have HPM := Lib.hid h1
      have HBW := Lib.hid h2
      clear h1 h2 hes hnew hx hcnt a2
      by_cases hkM : k < M
      · obtain ⟨s1, s2, s3, s4, -⟩ := Kp_step l (k := k) (by omega)
        obtain ⟨b1, -, -, -⟩ := Kp_at l (k := k + 1) (by omega)
        rw [HX.out] at s1 s2 s3 s4
        obtain ⟨y, hy⟩ : ∃ y, (Kp l).getD (k + 1) 0 = y := ⟨_, rfl⟩
        obtain ⟨tx, htx⟩ : ∃ tx, T l (x + 1) = tx := ⟨_, rfl⟩
        rw [htx, hy] at s3
        rw [hy] at s4 b1
        have hplb : pl l y ≤ l.length := by
          have h1 := pl_mono (l := l) b1
          have h2 := body_le HF.out
          rw [body_len] at h2
          omega
        have HNX : Hid (∀ p ∈ (List.range k).map fun j => ((Kp l).getD j 0, pl l ((Kp l).getD j 0)), p.1 ≠ x) := by
          show ∀ p ∈ _, _
          rw [← HX.out]; exact HNEW.out
        have HES2 : Hid (((List.range k).map fun j => ((Kp l).getD j 0, pl l ((Kp l).getD j 0))) ++ [(x, cnt)] = (List.range (k + 1)).map fun j => ((Kp l).getD j 0, pl l ((Kp l).getD j 0))) := by
          show _ = _
          rw [← HX.out]; exact HES.out
        have HTC : Hid (∀ W, Below w4.heap.size w4 W → W.cell? ⟨g, x + 1, none⟩ = some (.int .i64 (tx : Int)) ∧ W.cell? ⟨gk, k + 1, none⟩ = some (.int .i64 (y : Int))) := fun W hW => ⟨by
          have := (HT4.out.keep (hW.block g hgl)).cell (show x + 1 ≤ l.length by omega)
          rw [htx] at this; exact this, by
          have := (hW.cell (p := ⟨gk, k + 1, none⟩) hgkl).trans (HKR.out.2 (k + 1) (by omega))
          rw [hy] at this; exact this⟩
        have HY := Lib.hid hy
        have HS := Lib.hid (And.intro s1 (And.intro s3 s4))
        have hxi : (x : Int) < (l.length : Int) := by omega
        have hx1 : (x : Int) + 1 < (l.length : Int) + 1 := by omega
        have hk1 : (k : Int) + 1 < (M : Int) + 1 := by omega
        clear s1 s2 s3 s4 hy htx a1 b1 HES HNEW
        by_cases hq : tx = y
        · have hqi : (tx : Int) = (y : Int) := by omega
          go_wp2_with (first | (refine wpList_upd (k := 3) (e := 3) rfl (.tmp 41) (.tmp 42) (.tmp 43) rfl Try.underlying3 Try.underlying41 rfl HPM.out x rfl cnt rfl hwf HNX.out ?_; intro w5 hp5 hg5; have HP5 := Lib.hid hp5; have HB5 : Hid (Below w4.heap.size w4 w5) := HBW.out.grown hg5 HBW.out.size (fun j e => by cases e; exact Nat.le_refl _); obtain ⟨z1, z2⟩ := HTC.out w5 HB5.out; clear hp5 hg5))
          go_region
          go_wp2_with fail
          refine ⟨⟨k + 1, cnt + 1, by omega, rfl, by simp only [Value.int.injEq, true_and]; omega, fun _ => ?_, ?_, ?_, below_drewN HB5.out 1⟩, by simp only [RowKit.intOf]; omega⟩
          · obtain ⟨s1, s3, s4⟩ := HS.out
            rw [HY.out, s4, if_neg (fun e => (s3.1 e) hq), hcn]
          · obtain ⟨s1, s3, s4⟩ := HS.out
            rw [if_neg (fun e => (s3.1 e) hq)] at s4
            omega
          · rw [← HES2.out]; exact HP5.out
        · have hqi : ¬ (tx : Int) = (y : Int) := by omega
          go_wp2_with (first | (refine wpList_upd (k := 3) (e := 3) rfl (.tmp 41) (.tmp 42) (.tmp 43) rfl Try.underlying3 Try.underlying41 rfl HPM.out x rfl cnt rfl hwf HNX.out ?_; intro w5 hp5 hg5; have HP5 := Lib.hid hp5; have HB5 : Hid (Below w4.heap.size w4 w5) := HBW.out.grown hg5 HBW.out.size (fun j e => by cases e; exact Nat.le_refl _); obtain ⟨z1, z2⟩ := HTC.out w5 HB5.out; clear hp5 hg5))
          go_region
          go_wp2_with fail
          refine ⟨⟨k + 1, cnt + 2, by omega, rfl, by simp only [Value.int.injEq, true_and]; omega, fun _ => ?_, ?_, ?_, below_drewN HB5.out 1⟩, by simp only [RowKit.intOf]; omega⟩
          · obtain ⟨s1, s3, s4⟩ := HS.out
            rw [HY.out, s4, if_pos (s3.2 hq), hcn]
          · obtain ⟨s1, s3, s4⟩ := HS.out
            rw [if_pos (s3.2 hq)] at s4
            omega
          · rw [← HES2.out]; exact HP5.out
      · have ekM : k = M := by omega
        have exl : x = l.length := by
          have := Kp_last l
          rw [show (Kp l).length - 1 = k by omega, HX.out] at this
          exact this
        have HNX : Hid (∀ p ∈ (List.range k).map fun j => ((Kp l).getD j 0, pl l ((Kp l).getD j 0)), p.1 ≠ x) := by
          show ∀ p ∈ _, _
          rw [← HX.out]; exact HNEW.out
        have HES2 : Hid (((List.range k).map fun j => ((Kp l).getD j 0, pl l ((Kp l).getD j 0))) ++ [(x, cnt)] = (List.range (k + 1)).map fun j => ((Kp l).getD j 0, pl l ((Kp l).getD j 0))) := by
          show _ = _
          rw [← HX.out]; exact HES.out
        have hplb : pl l x ≤ l.length := by
          have h2 := body_le HF.out
          rw [body_len, ← exl] at h2
          exact exl ▸ h2
        subst exl
        have hcb2 : cnt + 1 ≤ l.length + 1 := by omega
        have hfin : ¬ k + 1 ≤ M := by omega
        clear HES HNEW a1 ekM
        go_wp2_with (first | (refine wpList_upd (k := 3) (e := 3) rfl (.tmp 41) (.tmp 42) (.tmp 43) rfl Try.underlying3 Try.underlying41 rfl HPM.out l.length rfl cnt rfl hwf HNX.out ?_; intro w5 hp5 hg5; have HP5 := Lib.hid hp5; have HB5 : Hid (Below w4.heap.size w4 w5) := HBW.out.grown hg5 HBW.out.size (fun j e => by cases e; exact Nat.le_refl _); clear hp5 hg5))
        go_region
        go_wp2_with fail
        refine ⟨⟨k + 1, cnt + 1, by omega, rfl, by simp only [Value.int.injEq, true_and]; omega, fun q => absurd q hfin, hcb2, ?_, below_drewN HB5.out 1⟩, by simp only [RowKit.intOf]; omega⟩
        rw [← HES2.out]; exact HP5.out
    · have ek : k = M + 1 := by omega
      have hkk : ¬ (k : Int) < (M : Int) + 1 := by omega
      obtain ⟨h1, h2⟩ := HK.out
      rw [ek] at h1
      have HPM := Lib.hid h1
      have HBW := Lib.hid h2
      have HB0 : Hid (Below w.heap.size w wr) := HB4.out.trans (h2.mono HB4.out.size)
      have HTW := Lib.hid (HT4.out.keep (h2.block g hgl))
      have HKW := Lib.hid (HKR.out.below h2)
      have hmw := h1.lt
      have hglw := Nat.lt_of_lt_of_le hgl h2.size
      have hgkw := Nat.lt_of_lt_of_le hgkl h2.size
      clear h1 h2 hcnt hcb HT4 HKR HB4 HK ek hlt hk
      generalize wr = Wb at *
      have hcap1 : (M : Int) ≤ (capk : Int) := by omega
      have hcap2 : M ≤ capk := by omega
      go_wp2_with fail
      go_loopw [9, 73] (fun o i wr => ∃ k gO capO : Nat, k ≤ M ∧ i = .int .i64 (k : Int) ∧ o = .slice (some ⟨gO, 0, none⟩) (ou l ((Kp l).getD k 0)).length capO ∧ Hid (OwnG wr Wb.heap.size gO capO (ou l ((Kp l).getD k 0)) ∧ Below Wb.heap.size Wb wr)) (fun _ i _ => M - (RowKit.intOf i).toNat)
      case atStart =>
        refine ⟨0, Wb.heap.size, 0, Nat.zero_le _, rfl, ?_, ?_, (by repeat (first | exact Below.refl _ _ | assumption | refine Below.drew ?_ | refine Below.alloc ?_ (by first | omega | (simp <;> omega)) _ | refine Below.setCell ?_ (by first | omega | (simp <;> omega)) _ | refine Below.trans ?_ (Below.mono (by assumption) (by first | omega | (simp <;> omega)))))⟩
        · rw [(Kp_start l).2]; rfl
        · rw [(Kp_start l).2]
          exact ⟨Nat.le_refl _, ⟨#[], heap_alloc_new _ _, rfl⟩, Nat.le_refl _, Nat.zero_le _, fun j hj => absurd hj (Nat.not_lt_zero j)⟩
      case round =>
        obtain ⟨k, gO, capO, hk, rfl, rfl, HK⟩ := hrel
        by_cases hlt : k < M
        · obtain ⟨h1, h2⟩ := HK.out
          obtain ⟨s1, s2, s3, s4, s5⟩ := Kp_step l (k := k) (by omega)
          obtain ⟨bb1, bb2, -, -⟩ := Kp_at l (k := k + 1) (by omega)
          have ck := (h2.cell (p := ⟨gk, k, none⟩) hgkw).trans (HKW.out.2 k (by omega))
          have HCKN : Hid (∀ W, Below Wb.heap.size Wb W → W.cell? ⟨gk, k + 1, none⟩ = some (.int .i64 (((Kp l).getD (k + 1) 0 : Nat) : Int))) := fun W hW => (hW.cell (p := ⟨gk, k + 1, none⟩) hgkw).trans (HKW.out.2 (k + 1) (by omega))
          have hmem : ∀ q, q ≤ l.length → (q = l.length ∨ R l q = true) → (q, pl l q) ∈ (List.range (M + 1)).map fun j => ((Kp l).getD j 0, pl l ((Kp l).getD j 0)) := by
            intro q hq hr
            obtain ⟨j, hj, e⟩ := List.mem_iff_getElem.1 (Kp_mem hq hr)
            refine List.mem_map.2 ⟨j, List.mem_range.2 (by omega), ?_⟩
            have : (Kp l).getD j 0 = q := by rw [List.getD_eq_getElem?_getD, List.getElem?_eq_getElem hj]; exact e
            rw [this]
          obtain ⟨x, hx⟩ : ∃ x, (Kp l).getD k 0 = x := ⟨_, rfl⟩
          obtain ⟨y, hy⟩ : ∃ y, (Kp l).getD (k + 1) 0 = y := ⟨_, rfl⟩
          rw [hx] at s1 s2 s3 s4 s5 ck h1 ⊢
          rw [hy] at s3 s4 s5 bb1 HCKN
          have HLK : Hid (∀ W q, Below Wb.heap.size Wb W → q ≤ l.length → (q = l.length ∨ R l q = true) → (Instr.lookup 41 (.map (some w4.heap.size)) (.int .i64 (q : Int)) false).run Try.prog W = .ok (.int .i64 ((pl l q : Nat) : Int)) W) := fun W q hW hq hr => (HPM.out.kept (hW.block _ hmw)).look Try.underlying3 Try.underlying41 (hmem q hq hr)
          obtain ⟨b0, o0, cap0, he0, hb0, hn0⟩ := ((HV.out.below HB0.out).below (h2.mono (Nat.le_refl _))).at s1
          cases he0
          obtain ⟨n0, n1, n2, ⟨ev, n3, n4⟩, n5⟩ := hn0
          have HCE : Hid (∀ W, Below wr.heap.size wr W → Calls Try.prog 12 #[ev] W fun r w' => ∃ v, r = .returned v ∧ CodeAt w' (fun b => W.heap.size ≤ b) v (at' l x).e ∧ Below W.heap.size W w') := fun W hW => cloneC_any ev X _ W (n4.below hW) (HCL.out x s1)
          obtain ⟨pe, ce, rfl⟩ := n4.shape
          have htx := T_le HF.out (show x + 1 ≤ l.length by omega)
          have hrx := R_fall HF.out s1 s2
          have hTT : (at' l x).k = 7 → tn l x ≤ l.length ∧ T l (tn l x) ≤ l.length ∧ R l (T l (tn l x)) = true ∧ (at' l x).to = ((tn l x : Nat) : Int) := fun h7 => by
            have h := HF.out.tn s1 (jmp7 h7)
            have h' := HF.out x s1 (jmp7 h7)
            exact ⟨h.2, T_le HF.out h.2, R_to HF.out s1 s2 h7, by unfold tn; omega⟩
          have HTC : Hid (∀ W q, Below Wb.heap.size Wb W → q ≤ l.length → W.cell? ⟨g, q, none⟩ = some (.int .i64 ((T l q : Nat) : Int))) := fun W q hW hq => (HTW.out.keep (hW.block g hglw)).cell hq
          have hlay : lay l x = ⟨(at' l x).k, (at' l x).a, (at' l x).b, (at' l x).e, if (at' l x).k = 7 then ((pl l (T l (tn l x)) : Nat) : Int) else (at' l x).to⟩ := by
            unfold lay
            split <;> rfl
          have hplen : pl l y ≤ l.length := by
            have h1 := pl_mono (l := l) bb1
            have h2 := body_le HF.out
            rw [body_len] at h2
            omega
          have hxl : (ou l x).length = pl l x := ou_len l x
          have hblk : blk l x = if ad l x = true then [lay l x, jum l x] else [lay l x] := by unfold blk; rw [if_pos s2]
          have hjum : jum l x = ⟨8, 0, 0, [], ((pl l (T l (x + 1)) : Nat) : Int)⟩ := rfl
          have HY := Lib.hid hy
          have hgOw := h1.lt
          have hgOb := h1.1
          have HOG := Lib.hid h1
          have HB5 := Lib.hid h2
          have HBL := Lib.hid (And.intro s5 (And.intro hblk (And.intro hlay hjum)))
          have hki : (k : Int) < (M : Int) := by omega
          have hki2 : (k : Int) + 1 < (M : Int) + 1 := by omega
          have hxi : (x : Int) < (l.length : Int) := by omega
          have hxi2 : (x : Int) + 1 < (l.length : Int) + 1 := by omega
          have hwr5 := h2.size
          clear h1 h2 s2 s5 bb1 bb2 hmem hx hy n4 hlay hblk hjum HK
          obtain ⟨xs, hxs⟩ : ∃ xs, ou l x = xs := ⟨_, rfl⟩
          rw [hxs] at hxl HOG HBL ⊢
          obtain ⟨tx, htxe⟩ : ∃ tx, T l (x + 1) = tx := ⟨_, rfl⟩
          have HTX := Lib.hid htxe
          rw [htxe] at s3 htx hrx HBL
          clear htxe hxs
          generalize at' l x = ins at *
          obtain ⟨tj, htj⟩ : ∃ tj, tn l x = tj := ⟨_, rfl⟩
          rw [htj] at hTT HBL
          clear htj
          obtain ⟨tt, htte⟩ : ∃ tt, T l tj = tt := ⟨_, rfl⟩
          have HTTE := Lib.hid htte
          rw [htte] at hTT HBL
          clear htte
          by_cases hq : tx = y
          · have hadn : ¬ ad l x = true := fun e => (s3.1 e) hq
            have hqi : (tx : Int) = (y : Int) := by omega
            rw [if_neg hadn] at s4
            by_cases h7 : ins.k = 7
            · obtain ⟨e1, e2, e3, e4⟩ := hTT h7
              have htj1 : (tj : Int) < (l.length : Int) + 1 := by omega
              go_wp2_with (first
                | (go_at_call 12; (with_reducible refine (HCE.out _ ((Below.refl _ _).alloc (Nat.le_refl _) _)).mono ?_); rintro e1 w1 ⟨v2, rfl, hc2, hb2⟩; obtain ⟨p2, ca2, rfl⟩ := hc2.shape; have y1 : w1.heap[wr.heap.size]? = some (.cells #[.int .u8 7, .int .i64 ins.a, .int .i64 ins.b, .slice pe ins.e.length ce, .int .i64 (tj : Int)] 30 (0, 0)) := (hb2.block _ (by simp)).trans (heap_alloc_new _ _); have hsz1 : wr.heap.size + 1 ≤ w1.heap.size := (by have := hb2.size; simpa using this); have hbw : Below wr.heap.size wr w1 := ((Below.refl _ _).alloc (Nat.le_refl _) _).trans (hb2.mono (by simp)); have HBV := Lib.hid (show Below wr.heap.size wr ((w1.setCell ⟨wr.heap.size, 3, none⟩ (.slice p2 ins.e.length ca2)).setCell ⟨wr.heap.size, 4, none⟩ (.int .i64 ((pl l tt : Nat) : Int))) from (hbw.setCell (Nat.le_refl _) _).setCell (Nat.le_refl _) _); have i0 : w1.cell? ⟨wr.heap.size, 0, none⟩ = some (.int .u8 7) := (by simp [World.cell?, y1]); have i1 : w1.cell? ⟨wr.heap.size, 1, none⟩ = some (.int .i64 ins.a) := (by simp [World.cell?, y1]); have i2 : w1.cell? ⟨wr.heap.size, 2, none⟩ = some (.int .i64 ins.b) := (by simp [World.cell?, y1]); have i3 : w1.cell? ⟨wr.heap.size, 3, none⟩ = some (.slice pe ins.e.length ce) := (by simp [World.cell?, y1]); have i4 : w1.cell? ⟨wr.heap.size, 4, none⟩ = some (.int .i64 (tj : Int)) := (by simp [World.cell?, y1]); have ifz : ∀ j, w1.frozen? ⟨wr.heap.size, j, none⟩ = false := (fun j => by simp [World.frozen?, y1]); have HC2 : Hid (CodeAt (((w1.setCell ⟨wr.heap.size, 3, none⟩ (.slice p2 ins.e.length ca2)).setCell ⟨wr.heap.size, 4, none⟩ (.int .i64 ((pl l tt : Nat) : Int))).alloc (.cells #[.int .u8 7, .int .i64 ins.a, .int .i64 ins.b, .slice p2 ins.e.length ca2, .int .i64 ((pl l tt : Nat) : Int)] 30)) (fun b => b ≠ gO) (.slice p2 ins.e.length ca2) ins.e) := hc2.keep (by simp) (fun b hb1 hb3 => ⟨by simp at hb3; omega, fun i => ((Below.cell ((Below.refl ((w1.setCell ⟨wr.heap.size, 3, none⟩ (.slice p2 ins.e.length ca2)).setCell ⟨wr.heap.size, 4, none⟩ (.int .i64 ((pl l tt : Nat) : Int))).heap.size ((w1.setCell ⟨wr.heap.size, 3, none⟩ (.slice p2 ins.e.length ca2)).setCell ⟨wr.heap.size, 4, none⟩ (.int .i64 ((pl l tt : Nat) : Int)))).alloc (Nat.le_refl _) _) (by simpa using hb1)).trans ((grownBy_setCell_at (w1.setCell ⟨wr.heap.size, 3, none⟩ (.slice p2 ins.e.length ca2)) wr.heap.size 4 _).cell_far ⟨b, i, none⟩ (by simpa using hb1) (by simp at hb3 ⊢; omega))).trans ((grownBy_setCell_at w1 wr.heap.size 3 _).cell_far ⟨b, i, none⟩ hb1 (by simp at hb3 ⊢; omega))⟩); have hsV : ((w1.setCell ⟨wr.heap.size, 3, none⟩ (.slice p2 ins.e.length ca2)).setCell ⟨wr.heap.size, 4, none⟩ (.int .i64 ((pl l tt : Nat) : Int))).heap.size = w1.heap.size := (by simp); have HBB := Lib.hid (show Below wr.heap.size wr (((w1.setCell ⟨wr.heap.size, 3, none⟩ (.slice p2 ins.e.length ca2)).setCell ⟨wr.heap.size, 4, none⟩ (.int .i64 ((pl l tt : Nat) : Int))).alloc (.cells #[.int .u8 7, .int .i64 ins.a, .int .i64 ins.b, .slice p2 ins.e.length ca2, .int .i64 ((pl l tt : Nat) : Int)] 30)) from HBV.out.alloc (by rw [hsV]; omega) _); have HcB := heap_alloc_new ((w1.setCell ⟨wr.heap.size, 3, none⟩ (.slice p2 ins.e.length ca2)).setCell ⟨wr.heap.size, 4, none⟩ (.int .i64 ((pl l tt : Nat) : Int))) (.cells #[.int .u8 7, .int .i64 ins.a, .int .i64 ins.b, .slice p2 ins.e.length ca2, .int .i64 ((pl l tt : Nat) : Int)] 30); rw [hsV] at HcB; have HOGB := Lib.hid (HOG.out.below HBB.out); have hsB : Wb.heap.size ≤ (((w1.setCell ⟨wr.heap.size, 3, none⟩ (.slice p2 ins.e.length ca2)).setCell ⟨wr.heap.size, 4, none⟩ (.int .i64 ((pl l tt : Nat) : Int))).alloc (.cells #[.int .u8 7, .int .i64 ins.a, .int .i64 ins.b, .slice p2 ins.e.length ca2, .int .i64 ((pl l tt : Nat) : Int)] 30)).heap.size := Nat.le_trans hwr5 HBB.out.size; have HBV1 : Below wr.heap.size wr (w1.setCell ⟨wr.heap.size, 3, none⟩ (.slice p2 ins.e.length ca2)) := hbw.setCell (Nat.le_refl _) _; have t7 : (w1.setCell ⟨wr.heap.size, 3, none⟩ (.slice p2 ins.e.length ca2)).cell? ⟨g, tj, none⟩ = some (.int .i64 (tt : Int)) := (by have := HTC.out (w1.setCell ⟨wr.heap.size, 3, none⟩ (.slice p2 ins.e.length ca2)) tj (HB5.out.trans (HBV1.mono hwr5)) e1; rw [HTTE.out] at this; exact this); have l7 := HLK.out (w1.setCell ⟨wr.heap.size, 3, none⟩ (.slice p2 ins.e.length ca2)) tt (HB5.out.trans (HBV1.mono hwr5)) e2 (.inr e3); clear HBV1; clear hc2 hb2 y1 hbw hsV)
                | (refine append_ins2 rfl (.tmp 97) (.tmp 99) rfl Wb.heap.size gO capO (pl l x) xs hxl.symm rfl HOGB.out w1.heap.size ⟨7, ins.a, ins.b, ins.e, ((pl l tt : Nat) : Int)⟩ (.slice p2 ins.e.length ca2) rfl HcB HC2.out (by omega) hsB ?_; intro g2 cap2 w2 hO2 hg2; have HO2 := Lib.hid hO2; have HB2 : Hid (Below Wb.heap.size Wb w2) := (HB5.out.trans (HBB.out.mono hwr5)).grown hg2 hsB (fun j e => by cases e; exact hgOb); have q1 : w2.cell? ⟨g, x + 1, none⟩ = some (.int .i64 (tx : Int)) := (by have := HTC.out w2 (x + 1) HB2.out (show x + 1 ≤ l.length by omega); rw [HTX.out] at this; exact this); have q2 := HCKN.out w2 HB2.out; have q3 := HLK.out w2 tx HB2.out htx (.inr hrx); clear hO2 hg2))
              refine ⟨⟨k + 1, g2, cap2, hlt, rfl, ?_, ?_, HB2.out⟩, by simp only [RowKit.intOf]; omega⟩
              · obtain ⟨s5, hblk, hlay, hjum⟩ := HBL.out
                rw [HY.out, ou_len, s4]
              · obtain ⟨s5, hblk, hlay, hjum⟩ := HBL.out
                rw [HY.out, s5, hblk, if_neg hadn, hlay, h7, if_pos rfl]
                exact HO2.out
            · have hk7 : (ins.k == 7) = false := beq_eq_false_iff_ne.2 h7
              go_wp2_with (first
                | (go_at_call 12; (with_reducible refine (HCE.out _ ((Below.refl _ _).alloc (Nat.le_refl _) _)).mono ?_); rintro e1 w1 ⟨v2, rfl, hc2, hb2⟩; obtain ⟨p2, ca2, rfl⟩ := hc2.shape; have y1 : w1.heap[wr.heap.size]? = some (.cells #[.int .u8 ins.k, .int .i64 ins.a, .int .i64 ins.b, .slice pe ins.e.length ce, .int .i64 ins.to] 30 (0, 0)) := (hb2.block _ (by simp)).trans (heap_alloc_new _ _); have hsz1 : wr.heap.size + 1 ≤ w1.heap.size := (by have := hb2.size; simpa using this); have hbw : Below wr.heap.size wr w1 := ((Below.refl _ _).alloc (Nat.le_refl _) _).trans (hb2.mono (by simp)); have HBV := Lib.hid (show Below wr.heap.size wr (w1.setCell ⟨wr.heap.size, 3, none⟩ (.slice p2 ins.e.length ca2)) from hbw.setCell (Nat.le_refl _) _); have i0 : w1.cell? ⟨wr.heap.size, 0, none⟩ = some (.int .u8 ins.k) := (by simp [World.cell?, y1]); have i1 : w1.cell? ⟨wr.heap.size, 1, none⟩ = some (.int .i64 ins.a) := (by simp [World.cell?, y1]); have i2 : w1.cell? ⟨wr.heap.size, 2, none⟩ = some (.int .i64 ins.b) := (by simp [World.cell?, y1]); have i3 : w1.cell? ⟨wr.heap.size, 3, none⟩ = some (.slice pe ins.e.length ce) := (by simp [World.cell?, y1]); have i4 : w1.cell? ⟨wr.heap.size, 4, none⟩ = some (.int .i64 ins.to) := (by simp [World.cell?, y1]); have ifz : ∀ j, w1.frozen? ⟨wr.heap.size, j, none⟩ = false := (fun j => by simp [World.frozen?, y1]); have HC2 : Hid (CodeAt ((w1.setCell ⟨wr.heap.size, 3, none⟩ (.slice p2 ins.e.length ca2)).alloc (.cells #[.int .u8 ins.k, .int .i64 ins.a, .int .i64 ins.b, .slice p2 ins.e.length ca2, .int .i64 ins.to] 30)) (fun b => b ≠ gO) (.slice p2 ins.e.length ca2) ins.e) := hc2.keep (by simp) (fun b hb1 hb3 => ⟨by simp at hb3; omega, fun i => (Below.cell ((Below.refl (w1.setCell ⟨wr.heap.size, 3, none⟩ (.slice p2 ins.e.length ca2)).heap.size (w1.setCell ⟨wr.heap.size, 3, none⟩ (.slice p2 ins.e.length ca2))).alloc (Nat.le_refl _) _) (by simpa using hb1)).trans ((grownBy_setCell_at w1 wr.heap.size 3 _).cell_far ⟨b, i, none⟩ hb1 (by simp at hb3 ⊢; omega))⟩); have hsV : (w1.setCell ⟨wr.heap.size, 3, none⟩ (.slice p2 ins.e.length ca2)).heap.size = w1.heap.size := (by simp); have HBB := Lib.hid (show Below wr.heap.size wr ((w1.setCell ⟨wr.heap.size, 3, none⟩ (.slice p2 ins.e.length ca2)).alloc (.cells #[.int .u8 ins.k, .int .i64 ins.a, .int .i64 ins.b, .slice p2 ins.e.length ca2, .int .i64 ins.to] 30)) from HBV.out.alloc (by rw [hsV]; omega) _); have HcB := heap_alloc_new (w1.setCell ⟨wr.heap.size, 3, none⟩ (.slice p2 ins.e.length ca2)) (.cells #[.int .u8 ins.k, .int .i64 ins.a, .int .i64 ins.b, .slice p2 ins.e.length ca2, .int .i64 ins.to] 30); rw [hsV] at HcB; have HOGB := Lib.hid (HOG.out.below HBB.out); have hsB : Wb.heap.size ≤ ((w1.setCell ⟨wr.heap.size, 3, none⟩ (.slice p2 ins.e.length ca2)).alloc (.cells #[.int .u8 ins.k, .int .i64 ins.a, .int .i64 ins.b, .slice p2 ins.e.length ca2, .int .i64 ins.to] 30)).heap.size := Nat.le_trans hwr5 HBB.out.size;  clear hc2 hb2 y1 hbw hsV)
                | (refine append_ins2 rfl (.tmp 97) (.tmp 99) rfl Wb.heap.size gO capO (pl l x) xs hxl.symm rfl HOGB.out w1.heap.size ⟨ins.k, ins.a, ins.b, ins.e, ins.to⟩ (.slice p2 ins.e.length ca2) rfl HcB HC2.out (by omega) hsB ?_; intro g2 cap2 w2 hO2 hg2; have HO2 := Lib.hid hO2; have HB2 : Hid (Below Wb.heap.size Wb w2) := (HB5.out.trans (HBB.out.mono hwr5)).grown hg2 hsB (fun j e => by cases e; exact hgOb); have q1 : w2.cell? ⟨g, x + 1, none⟩ = some (.int .i64 (tx : Int)) := (by have := HTC.out w2 (x + 1) HB2.out (show x + 1 ≤ l.length by omega); rw [HTX.out] at this; exact this); have q2 := HCKN.out w2 HB2.out; have q3 := HLK.out w2 tx HB2.out htx (.inr hrx); clear hO2 hg2))
              refine ⟨⟨k + 1, g2, cap2, hlt, rfl, ?_, ?_, HB2.out⟩, by simp only [RowKit.intOf]; omega⟩
              · obtain ⟨s5, hblk, hlay, hjum⟩ := HBL.out
                rw [HY.out, ou_len, s4]
              · obtain ⟨s5, hblk, hlay, hjum⟩ := HBL.out
                rw [HY.out, s5, hblk, if_neg hadn, hlay, if_neg h7]
                exact HO2.out
          · have hada : ad l x = true := s3.2 hq
            have hqi : ¬ (tx : Int) = (y : Int) := by omega
            rw [if_pos hada] at s4
            by_cases h7 : ins.k = 7
            · obtain ⟨e1, e2, e3, e4⟩ := hTT h7
              have htj1 : (tj : Int) < (l.length : Int) + 1 := by omega
              go_wp2_with (first
                | (go_at_call 12; (with_reducible refine (HCE.out _ ((Below.refl _ _).alloc (Nat.le_refl _) _)).mono ?_); rintro e1 w1 ⟨v2, rfl, hc2, hb2⟩; obtain ⟨p2, ca2, rfl⟩ := hc2.shape; have y1 : w1.heap[wr.heap.size]? = some (.cells #[.int .u8 7, .int .i64 ins.a, .int .i64 ins.b, .slice pe ins.e.length ce, .int .i64 (tj : Int)] 30 (0, 0)) := (hb2.block _ (by simp)).trans (heap_alloc_new _ _); have hsz1 : wr.heap.size + 1 ≤ w1.heap.size := (by have := hb2.size; simpa using this); have hbw : Below wr.heap.size wr w1 := ((Below.refl _ _).alloc (Nat.le_refl _) _).trans (hb2.mono (by simp)); have HBV := Lib.hid (show Below wr.heap.size wr ((w1.setCell ⟨wr.heap.size, 3, none⟩ (.slice p2 ins.e.length ca2)).setCell ⟨wr.heap.size, 4, none⟩ (.int .i64 ((pl l tt : Nat) : Int))) from (hbw.setCell (Nat.le_refl _) _).setCell (Nat.le_refl _) _); have i0 : w1.cell? ⟨wr.heap.size, 0, none⟩ = some (.int .u8 7) := (by simp [World.cell?, y1]); have i1 : w1.cell? ⟨wr.heap.size, 1, none⟩ = some (.int .i64 ins.a) := (by simp [World.cell?, y1]); have i2 : w1.cell? ⟨wr.heap.size, 2, none⟩ = some (.int .i64 ins.b) := (by simp [World.cell?, y1]); have i3 : w1.cell? ⟨wr.heap.size, 3, none⟩ = some (.slice pe ins.e.length ce) := (by simp [World.cell?, y1]); have i4 : w1.cell? ⟨wr.heap.size, 4, none⟩ = some (.int .i64 (tj : Int)) := (by simp [World.cell?, y1]); have ifz : ∀ j, w1.frozen? ⟨wr.heap.size, j, none⟩ = false := (fun j => by simp [World.frozen?, y1]); have HC2 : Hid (CodeAt (((w1.setCell ⟨wr.heap.size, 3, none⟩ (.slice p2 ins.e.length ca2)).setCell ⟨wr.heap.size, 4, none⟩ (.int .i64 ((pl l tt : Nat) : Int))).alloc (.cells #[.int .u8 7, .int .i64 ins.a, .int .i64 ins.b, .slice p2 ins.e.length ca2, .int .i64 ((pl l tt : Nat) : Int)] 30)) (fun b => b ≠ gO) (.slice p2 ins.e.length ca2) ins.e) := hc2.keep (by simp) (fun b hb1 hb3 => ⟨by simp at hb3; omega, fun i => ((Below.cell ((Below.refl ((w1.setCell ⟨wr.heap.size, 3, none⟩ (.slice p2 ins.e.length ca2)).setCell ⟨wr.heap.size, 4, none⟩ (.int .i64 ((pl l tt : Nat) : Int))).heap.size ((w1.setCell ⟨wr.heap.size, 3, none⟩ (.slice p2 ins.e.length ca2)).setCell ⟨wr.heap.size, 4, none⟩ (.int .i64 ((pl l tt : Nat) : Int)))).alloc (Nat.le_refl _) _) (by simpa using hb1)).trans ((grownBy_setCell_at (w1.setCell ⟨wr.heap.size, 3, none⟩ (.slice p2 ins.e.length ca2)) wr.heap.size 4 _).cell_far ⟨b, i, none⟩ (by simpa using hb1) (by simp at hb3 ⊢; omega))).trans ((grownBy_setCell_at w1 wr.heap.size 3 _).cell_far ⟨b, i, none⟩ hb1 (by simp at hb3 ⊢; omega))⟩); have hsV : ((w1.setCell ⟨wr.heap.size, 3, none⟩ (.slice p2 ins.e.length ca2)).setCell ⟨wr.heap.size, 4, none⟩ (.int .i64 ((pl l tt : Nat) : Int))).heap.size = w1.heap.size := (by simp); have HBB := Lib.hid (show Below wr.heap.size wr (((w1.setCell ⟨wr.heap.size, 3, none⟩ (.slice p2 ins.e.length ca2)).setCell ⟨wr.heap.size, 4, none⟩ (.int .i64 ((pl l tt : Nat) : Int))).alloc (.cells #[.int .u8 7, .int .i64 ins.a, .int .i64 ins.b, .slice p2 ins.e.length ca2, .int .i64 ((pl l tt : Nat) : Int)] 30)) from HBV.out.alloc (by rw [hsV]; omega) _); have HcB := heap_alloc_new ((w1.setCell ⟨wr.heap.size, 3, none⟩ (.slice p2 ins.e.length ca2)).setCell ⟨wr.heap.size, 4, none⟩ (.int .i64 ((pl l tt : Nat) : Int))) (.cells #[.int .u8 7, .int .i64 ins.a, .int .i64 ins.b, .slice p2 ins.e.length ca2, .int .i64 ((pl l tt : Nat) : Int)] 30); rw [hsV] at HcB; have HOGB := Lib.hid (HOG.out.below HBB.out); have hsB : Wb.heap.size ≤ (((w1.setCell ⟨wr.heap.size, 3, none⟩ (.slice p2 ins.e.length ca2)).setCell ⟨wr.heap.size, 4, none⟩ (.int .i64 ((pl l tt : Nat) : Int))).alloc (.cells #[.int .u8 7, .int .i64 ins.a, .int .i64 ins.b, .slice p2 ins.e.length ca2, .int .i64 ((pl l tt : Nat) : Int)] 30)).heap.size := Nat.le_trans hwr5 HBB.out.size; have HBV1 : Below wr.heap.size wr (w1.setCell ⟨wr.heap.size, 3, none⟩ (.slice p2 ins.e.length ca2)) := hbw.setCell (Nat.le_refl _) _; have t7 : (w1.setCell ⟨wr.heap.size, 3, none⟩ (.slice p2 ins.e.length ca2)).cell? ⟨g, tj, none⟩ = some (.int .i64 (tt : Int)) := (by have := HTC.out (w1.setCell ⟨wr.heap.size, 3, none⟩ (.slice p2 ins.e.length ca2)) tj (HB5.out.trans (HBV1.mono hwr5)) e1; rw [HTTE.out] at this; exact this); have l7 := HLK.out (w1.setCell ⟨wr.heap.size, 3, none⟩ (.slice p2 ins.e.length ca2)) tt (HB5.out.trans (HBV1.mono hwr5)) e2 (.inr e3); clear HBV1; clear hc2 hb2 y1 hbw hsV)
                | (refine append_ins2 rfl (.tmp 97) (.tmp 99) rfl Wb.heap.size gO capO (pl l x) xs hxl.symm rfl HOGB.out w1.heap.size ⟨7, ins.a, ins.b, ins.e, ((pl l tt : Nat) : Int)⟩ (.slice p2 ins.e.length ca2) rfl HcB HC2.out (by omega) hsB ?_; intro g2 cap2 w2 hO2 hg2; have HO2 := Lib.hid hO2; have HB2 : Hid (Below Wb.heap.size Wb w2) := (HB5.out.trans (HBB.out.mono hwr5)).grown hg2 hsB (fun j e => by cases e; exact hgOb); have q1 : w2.cell? ⟨g, x + 1, none⟩ = some (.int .i64 (tx : Int)) := (by have := HTC.out w2 (x + 1) HB2.out (show x + 1 ≤ l.length by omega); rw [HTX.out] at this; exact this); have q2 := HCKN.out w2 HB2.out; have q3 := HLK.out w2 tx HB2.out htx (.inr hrx); clear hO2 hg2)
                | (refine append_ins2 rfl (.tmp 113) (.tmp 118) rfl Wb.heap.size g2 cap2 (pl l x + 1) (xs ++ [⟨7, ins.a, ins.b, ins.e, ((pl l tt : Nat) : Int)⟩]) (by rw [List.length_append, hxl]; rfl) rfl (HO2.out.below ((Below.refl _ _).alloc (Nat.le_refl _) _)) w2.heap.size ⟨8, 0, 0, [], ((pl l tx : Nat) : Int)⟩ (.slice none 0 0) rfl (heap_alloc_new w2 _) (CodeAt.nil _ _) (by omega) (by have := HB2.out.size; simp; omega) ?_; intro g3 cap3 w3 hO3 hg3; have HO3 := Lib.hid hO3; have HB3 : Hid (Below Wb.heap.size Wb w3) := (HB2.out.alloc HB2.out.size _).grown hg3 (by have := HB2.out.size; simp; omega) (fun j e => by cases e; exact HO2.out.1); clear hO3 hg3))
              refine ⟨⟨k + 1, g3, cap3, hlt, rfl, ?_, ?_, HB3.out⟩, by simp only [RowKit.intOf]; omega⟩
              · obtain ⟨s5, hblk, hlay, hjum⟩ := HBL.out
                rw [HY.out, ou_len, s4]
              · obtain ⟨s5, hblk, hlay, hjum⟩ := HBL.out
                rw [HY.out, s5, hblk, if_pos hada, hlay, hjum, h7, if_pos rfl]
                have := HO3.out
                rw [List.append_assoc] at this
                exact this
            · have hk7 : (ins.k == 7) = false := beq_eq_false_iff_ne.2 h7
              go_wp2_with (first
                | (go_at_call 12; (with_reducible refine (HCE.out _ ((Below.refl _ _).alloc (Nat.le_refl _) _)).mono ?_); rintro e1 w1 ⟨v2, rfl, hc2, hb2⟩; obtain ⟨p2, ca2, rfl⟩ := hc2.shape; have y1 : w1.heap[wr.heap.size]? = some (.cells #[.int .u8 ins.k, .int .i64 ins.a, .int .i64 ins.b, .slice pe ins.e.length ce, .int .i64 ins.to] 30 (0, 0)) := (hb2.block _ (by simp)).trans (heap_alloc_new _ _); have hsz1 : wr.heap.size + 1 ≤ w1.heap.size := (by have := hb2.size; simpa using this); have hbw : Below wr.heap.size wr w1 := ((Below.refl _ _).alloc (Nat.le_refl _) _).trans (hb2.mono (by simp)); have HBV := Lib.hid (show Below wr.heap.size wr (w1.setCell ⟨wr.heap.size, 3, none⟩ (.slice p2 ins.e.length ca2)) from hbw.setCell (Nat.le_refl _) _); have i0 : w1.cell? ⟨wr.heap.size, 0, none⟩ = some (.int .u8 ins.k) := (by simp [World.cell?, y1]); have i1 : w1.cell? ⟨wr.heap.size, 1, none⟩ = some (.int .i64 ins.a) := (by simp [World.cell?, y1]); have i2 : w1.cell? ⟨wr.heap.size, 2, none⟩ = some (.int .i64 ins.b) := (by simp [World.cell?, y1]); have i3 : w1.cell? ⟨wr.heap.size, 3, none⟩ = some (.slice pe ins.e.length ce) := (by simp [World.cell?, y1]); have i4 : w1.cell? ⟨wr.heap.size, 4, none⟩ = some (.int .i64 ins.to) := (by simp [World.cell?, y1]); have ifz : ∀ j, w1.frozen? ⟨wr.heap.size, j, none⟩ = false := (fun j => by simp [World.frozen?, y1]); have HC2 : Hid (CodeAt ((w1.setCell ⟨wr.heap.size, 3, none⟩ (.slice p2 ins.e.length ca2)).alloc (.cells #[.int .u8 ins.k, .int .i64 ins.a, .int .i64 ins.b, .slice p2 ins.e.length ca2, .int .i64 ins.to] 30)) (fun b => b ≠ gO) (.slice p2 ins.e.length ca2) ins.e) := hc2.keep (by simp) (fun b hb1 hb3 => ⟨by simp at hb3; omega, fun i => (Below.cell ((Below.refl (w1.setCell ⟨wr.heap.size, 3, none⟩ (.slice p2 ins.e.length ca2)).heap.size (w1.setCell ⟨wr.heap.size, 3, none⟩ (.slice p2 ins.e.length ca2))).alloc (Nat.le_refl _) _) (by simpa using hb1)).trans ((grownBy_setCell_at w1 wr.heap.size 3 _).cell_far ⟨b, i, none⟩ hb1 (by simp at hb3 ⊢; omega))⟩); have hsV : (w1.setCell ⟨wr.heap.size, 3, none⟩ (.slice p2 ins.e.length ca2)).heap.size = w1.heap.size := (by simp); have HBB := Lib.hid (show Below wr.heap.size wr ((w1.setCell ⟨wr.heap.size, 3, none⟩ (.slice p2 ins.e.length ca2)).alloc (.cells #[.int .u8 ins.k, .int .i64 ins.a, .int .i64 ins.b, .slice p2 ins.e.length ca2, .int .i64 ins.to] 30)) from HBV.out.alloc (by rw [hsV]; omega) _); have HcB := heap_alloc_new (w1.setCell ⟨wr.heap.size, 3, none⟩ (.slice p2 ins.e.length ca2)) (.cells #[.int .u8 ins.k, .int .i64 ins.a, .int .i64 ins.b, .slice p2 ins.e.length ca2, .int .i64 ins.to] 30); rw [hsV] at HcB; have HOGB := Lib.hid (HOG.out.below HBB.out); have hsB : Wb.heap.size ≤ ((w1.setCell ⟨wr.heap.size, 3, none⟩ (.slice p2 ins.e.length ca2)).alloc (.cells #[.int .u8 ins.k, .int .i64 ins.a, .int .i64 ins.b, .slice p2 ins.e.length ca2, .int .i64 ins.to] 30)).heap.size := Nat.le_trans hwr5 HBB.out.size;  clear hc2 hb2 y1 hbw hsV)
                | (refine append_ins2 rfl (.tmp 97) (.tmp 99) rfl Wb.heap.size gO capO (pl l x) xs hxl.symm rfl HOGB.out w1.heap.size ⟨ins.k, ins.a, ins.b, ins.e, ins.to⟩ (.slice p2 ins.e.length ca2) rfl HcB HC2.out (by omega) hsB ?_; intro g2 cap2 w2 hO2 hg2; have HO2 := Lib.hid hO2; have HB2 : Hid (Below Wb.heap.size Wb w2) := (HB5.out.trans (HBB.out.mono hwr5)).grown hg2 hsB (fun j e => by cases e; exact hgOb); have q1 : w2.cell? ⟨g, x + 1, none⟩ = some (.int .i64 (tx : Int)) := (by have := HTC.out w2 (x + 1) HB2.out (show x + 1 ≤ l.length by omega); rw [HTX.out] at this; exact this); have q2 := HCKN.out w2 HB2.out; have q3 := HLK.out w2 tx HB2.out htx (.inr hrx); clear hO2 hg2)
                | (refine append_ins2 rfl (.tmp 113) (.tmp 118) rfl Wb.heap.size g2 cap2 (pl l x + 1) (xs ++ [⟨ins.k, ins.a, ins.b, ins.e, ins.to⟩]) (by rw [List.length_append, hxl]; rfl) rfl (HO2.out.below ((Below.refl _ _).alloc (Nat.le_refl _) _)) w2.heap.size ⟨8, 0, 0, [], ((pl l tx : Nat) : Int)⟩ (.slice none 0 0) rfl (heap_alloc_new w2 _) (CodeAt.nil _ _) (by omega) (by have := HB2.out.size; simp; omega) ?_; intro g3 cap3 w3 hO3 hg3; have HO3 := Lib.hid hO3; have HB3 : Hid (Below Wb.heap.size Wb w3) := (HB2.out.alloc HB2.out.size _).grown hg3 (by have := HB2.out.size; simp; omega) (fun j e => by cases e; exact HO2.out.1); clear hO3 hg3))
              refine ⟨⟨k + 1, g3, cap3, hlt, rfl, ?_, ?_, HB3.out⟩, by simp only [RowKit.intOf]; omega⟩
              · obtain ⟨s5, hblk, hlay, hjum⟩ := HBL.out
                rw [HY.out, ou_len, s4]
              · obtain ⟨s5, hblk, hlay, hjum⟩ := HBL.out
                rw [HY.out, s5, hblk, if_pos hada, hlay, hjum, if_neg h7]
                have := HO3.out
                rw [List.append_assoc] at this
                exact this
        · obtain rfl : k = M := by omega
          obtain ⟨h1, h2⟩ := HK.out
          have e : (Kp l).getD k 0 = l.length := by
            have := Kp_last l
            rw [show (Kp l).length - 1 = k by omega] at this
            exact this
          have e' : ou l ((Kp l).getD k 0) = bodyF l := by rw [e]; rfl
          go_wp2_with fail
          go_ret
          refine ⟨_, rfl, ?_, HB0.out.trans (h2.mono HB0.out.size)⟩
          rw [← e']
          exact h1.row _ (fun _ _ _ => trivial)

end Go.Proofs.Ytfhleldmkhllaaa

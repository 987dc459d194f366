/-
  flow.comes as a plain contract; flow.stay.
-/
import Derived.Test.YtfhleldmkhllaaaFlowF
namespace Go.Proofs.Ytfhleldmkhllaaa
open Go.RowKit Flow

theorem comes_any (v : Value) (X : Nat → Prop) (l : List Ins) (w : World) (hv : InsRow w X v l) (hf : Fwd l) (h0 : 0 < l.length) (hlen : l.length * 56 ≤ 140737488355328) (hel : ∀ j, j < l.length → (at' l j).e.length * 48 ≤ 140737488355328) :
    Calls Try.prog 10 #[v] w fun e W' => ∃ g, e = .returned (.slice (some ⟨g, 0, none⟩) (l.length + 1) (l.length + 1)) ∧ w.heap.size ≤ g ∧ RowT W' g l.length (T l) ∧ Below w.heap.size w W' := by
  obtain ⟨pa, cap, rfl, h2, h3, h4, h5⟩ := hv
  obtain ⟨b, o, rfl, hb, hin⟩ := h5 h0
  have hex : ∀ j, ∃ ev, j < l.length → w.cell? ⟨b, o + j * 5 + 3, none⟩ = some ev ∧ CodeAt w X ev (at' l j).e := fun j => by
    by_cases hj : j < l.length
    · obtain ⟨-, -, -, ⟨ev, q1, q2⟩, -⟩ := hin j hj
      exact ⟨ev, fun _ => ⟨q1, q2⟩⟩
    · exact ⟨undef, fun h => absurd h hj⟩
  obtain ⟨evf, hevf⟩ := Classical.axiomOfChoice hex
  refine callsIn_wide.1 (comes_in 6 (by omega) b o cap l evf X w hf h0 hlen hb (fun j hj => ?_) (fun j hj => (hevf j hj).2) (fun j hj => by have := hel j hj; omega))
  obtain ⟨c0, c1, c2, -, c4⟩ := hin j hj
  exact ⟨c0, c1, c2, (hevf j hj).1, c4⟩

/-- Block g holds r 0 .. r n, truths. -/
def RowBl (W : World) (g n : Nat) (r : Nat → Bool) : Prop := ∃ arr : Array Value, W.heap[g]? = some (.cells arr 4 (0, 0)) ∧ arr.size = n + 1 ∧ ∀ q, q ≤ n → arr[q]? = some (.bool (r q))
theorem RowBl.cell {W : World} {g n : Nat} {r : Nat → Bool} (h : RowBl W g n r) {q : Nat} (hq : q ≤ n) : W.cell? ⟨g, q, none⟩ = some (.bool (r q)) := by
  obtain ⟨arr, h1, h2, h3⟩ := h
  simp [World.cell?, h1, h3 q hq]
theorem RowBl.frozen {W : World} {g n : Nat} {r : Nat → Bool} (h : RowBl W g n r) (q : Nat) : W.frozen? ⟨g, q, none⟩ = false := by
  obtain ⟨arr, h1, h2, h3⟩ := h
  simp [World.frozen?, h1]
theorem RowBl.lt {W : World} {g n : Nat} {r : Nat → Bool} (h : RowBl W g n r) : g < W.heap.size := by
  obtain ⟨arr, h1, -⟩ := h
  exact (Array.getElem?_eq_some_iff.1 h1).1
theorem RowBl.keep {W W' : World} {g n : Nat} {r : Nat → Bool} (h : RowBl W g n r) (hk : W'.heap[g]? = W.heap[g]?) : RowBl W' g n r := by
  obtain ⟨arr, h1, h2⟩ := h
  exact ⟨arr, hk.trans h1, h2⟩
theorem RowBl.set {W : World} {g n : Nat} {r : Nat → Bool} (h : RowBl W g n r) {q : Nat} (hq : q ≤ n) (v : Bool) : RowBl (W.setCell ⟨g, q, none⟩ (.bool v)) g n (fun p => if p = q then v else r p) := by
  obtain ⟨arr, h1, h2, h3⟩ := h
  refine ⟨_, heap_setCell_same _ _ _ _ _ _ h1, by simpa using h2, fun p hp => ?_⟩
  rw [Array.getElem?_setIfInBounds]
  by_cases e : q = p
  · subst e
    rw [if_pos rfl, if_pos (by omega)]
    simp
  · have e' : ¬ p = q := fun z => e (Eq.symm z)
    rw [if_neg e]
    simp only [if_neg e']
    exact h3 p hp
theorem RowBl.congr {W : World} {g n : Nat} {r r' : Nat → Bool} (h : RowBl W g n r) (he : ∀ q, q ≤ n → r q = r' q) : RowBl W g n r' := by
  obtain ⟨arr, h1, h2, h3⟩ := h
  exact ⟨arr, h1, h2, fun q hq => by rw [← he q hq]; exact h3 q hq⟩
theorem RowBl.of_owns {W : World} {base g m : Nat} {xs : List Value} {r : Nat → Bool} (h : W.ownsRow base 4 1 (.slice (some ⟨g, 0, none⟩) (m + 1) (m + 1)) (m + 1) xs) (hx : ∀ q, q ≤ m → xs[q]? = some (.bool (r q))) : RowBl W g m r := by
  rcases h.2 with ⟨q, -⟩ | ⟨g', cap, cur, q1, q2, q3, q4, q5, q6, q7⟩
  · cases q
  · simp only [Value.slice.injEq, Option.some.injEq, Addr.mk.injEq, and_true, true_and] at q1
    obtain ⟨rfl, rfl⟩ := q1
    refine ⟨cur, q3, by omega, fun q hq => ?_⟩
    have := hx q hq
    rw [← q7, List.getElem?_take_of_lt (by omega)] at this
    simpa using this
theorem infoBool2 : (Try.prog.info? 4).map (fun i => (i.zero, i.size, i.bytes)) = some (some (.bool false), 1, 1) := by kernel_rfl
theorem toList_madeCells_false (n : Nat) : (madeCells (Value.bool false).cells (n * 1)).toList = List.replicate n (Value.bool false) := by
  rw [Nat.mul_one]; exact toList_madeCells_one _ n

theorem own_mono {w : World} {base base' e size n : Nat} {v : Value} {xs : List Value} (h : w.ownsRow base e size v n xs) (hb : base' ≤ base) : w.ownsRow base' e size v n xs := by
  refine ⟨h.1, ?_⟩
  rcases h.2 with q | ⟨g, cap, cur, q1, q2, q3⟩
  · exact .inl q
  · exact .inr ⟨g, cap, cur, q1, Nat.le_trans hb q2, q3⟩
/-- Places as integers. -/
def ints (l : List Nat) : List Int := l.map fun q : Nat => (q : Int)
theorem ints_len (l : List Nat) : (ints l).length = l.length := by simp [ints]
theorem ints_snoc (l : List Nat) (k : Nat) : ints (l ++ [k]) = ints l ++ [(k : Int)] := by simp [ints]

theorem append_int {ops : Array Oper} {rest : List Oper} {o : Oper} {a : Act} {Q : Exit → Act → World → Prop} {w : World} (hgd : o.guard = none) (s x : Operand)
    (ho : o.op = .call { callee := .builtin .append, args := #[s, x], argTypes := #[38, 38] })
    (base : Nat) (v : Value) (zs : List Int) (hs : a.eval s = v) (hown : w.ownsRow base 3 1 v zs.length (zs.map (Value.int .i64))) (g : Nat) (z : Int) (hx : a.eval x = .slice (some ⟨g, 0, none⟩) 1 1) (hc : w.cell? ⟨g, 0, none⟩ = some (.int .i64 z)) (hl : zs.length ≤ 10000000000000) (hbase : base ≤ w.heap.size)
    (h : ∀ g2 cap w', w'.ownsRow base 3 1 (.slice (some ⟨g2, 0, none⟩) (zs.length + 1) cap) (zs ++ [z]).length ((zs ++ [z]).map (Value.int .i64)) → w.grownBy w' v.ownBlock → wpList Try.prog ops Q rest (a.put o.dst (.slice (some ⟨g2, 0, none⟩) (zs.length + 1) cap)) w') : wpList Try.prog ops Q (o :: rest) a w := by
  obtain ⟨i0, hi, hz0, hz1, hz2⟩ := info_parts infoInt2
  have hcell : ∀ j u, [Value.int .i64 z][j]? = some u → w.cell? ((⟨g, 0, none⟩ : Addr).add j) = some u := by
    intro j u hu
    match j, hu with
    | 0, hu => simp at hu; subst hu; simpa [Addr.add] using hc
  exact wpList_append_lies _ hgd s x _ ho base 3 i0 (.int .i64 0) 1 8 Try.underlying38 hi hz0 hz1 hz2 rfl (by decide) v _ _ hs hown ⟨g, 0, none⟩ 1 1 [.int .i64 z] hx rfl hcell (fun u hu => by simp at hu; subst hu; rfl) (by decide) (by unfold maxLen; omega) (by omega) hbase _ rfl fun g2 cap w' h1 h2 _ _ => h g2 cap w' (by simpa using h1) h2

theorem st_len {l : List Ins} (hf : Fwd l) {k : Nat} (hk : k ≤ l.length) : (st l k).2.length ≤ k := by
  rw [st_out hf k hk]
  exact Nat.le_trans (List.length_filter_le _ _) (by simp)

set_option maxRecDepth 100000 in
set_option maxHeartbeats 8000000 in
theorem stay_any (v : Value) (X : Nat → Prop) (l : List Ins) (g : Nat) (w : World) (hv : InsRow w X v l) (hT : RowT w g l.length (T l)) (hf : Fwd l) (hlen : l.length * 56 ≤ 140737488355328) :
    Calls Try.prog 11 #[v, .slice (some ⟨g, 0, none⟩) (l.length + 1) (l.length + 1)] w fun e W' => ∃ v', e = .returned v' ∧ W'.ownsRow w.heap.size 3 1 v' (ints ((List.range l.length).filter (R l))).length ((ints ((List.range l.length).filter (R l))).map (Value.int .i64)) ∧ Below w.heap.size w W' := by
  obtain ⟨i0, hi, hz0, hz1, hz2⟩ := info_parts infoBool2
  obtain ⟨pa, ca, rfl⟩ := hv.shape
  have HV := Lib.hid hv
  have HT := Lib.hid hT
  have HF := Lib.hid hf
  have hgl := hT.lt
  have tc0 := hT.cell (Nat.zero_le l.length)
  have HT0 : Hid (T l 0 ≤ l.length) := T_le hf (Nat.zero_le _)
  clear hv hT hf
  go_enter Try.func11, Try.ntmps11
  go_wp2_with (first
    | (at_make; refine wpList_make_full _ rfl _ _ 31 rfl w.heap.size 4 i0 (.bool false) 1 Try.underlying31 hi hz0 hz1 .i64 .i64 _ _ (l.length + 1) rfl rfl (by simp) (by simp) (by rw [hz2]; omega) (by unfold maxLen; omega) (Nat.le_refl _) ?_; intro w0 hown0 hgrow0; rw [toList_madeCells_false] at hown0; have HR0 : Hid (RowBl w0 w.heap.size l.length (fun _ => false)) := RowBl.of_owns hown0 (fun q hq => by simp [List.getElem?_replicate]; omega); have HB0 : Hid (Below w.heap.size w w0) := (Below.refl _ _).grown hgrow0 (Nat.le_refl _) (fun k h => by cases h); have d0 := (HB0.out.cell (p := ⟨g, 0, none⟩) hgl).trans tc0; have c0 := HR0.out.cell HT0.out; have f0 := HR0.out.frozen (T l 0); have ht1 : ((T l 0 : Nat) : Int) < (l.length : Int) + 1 := (by have := HT0.out; omega); clear hown0 hgrow0))
  have hlt0 : w.heap.size < w0.heap.size := HR0.out.lt
  go_loopw [4, 19] (fun o i wr => ∃ k : Nat, k ≤ l.length ∧ i = .int .i64 (k : Int) ∧ (o = .slice none 0 0 ∨ ∃ p n c, o = .slice (some p) n c) ∧ Hid (wr.ownsRow (w.heap.size + 1) 3 1 o (ints (st l k).2).length ((ints (st l k).2).map (Value.int .i64)) ∧ RowBl wr w.heap.size l.length (st l k).1 ∧ Below w.heap.size w wr)) (fun _ i _ => l.length - (RowKit.intOf i).toNat)
  case atStart =>
    refine ⟨0, Nat.zero_le _, rfl, .inl rfl, ⟨rfl, .inl ⟨rfl, rfl⟩⟩, ?_, HB0.out.setCell (Nat.le_refl _) _⟩
    refine (HR0.out.set HT0.out true).congr fun q _ => ?_
    simp only [st]
    by_cases e : q = T l 0
    · simp [e]
    · simp [e]
  case round =>
    obtain ⟨k, hk, rfl, hsh, HK⟩ := hrel
    by_cases hlt : k < l.length
    · obtain ⟨h1, h2, h3⟩ := HK.out
      have hrk := R_at HF.out (Nat.le_refl k) hk
      obtain ⟨b0, o0, cap0, he0, hb0, hn0⟩ := (HV.out.below h3).at hlt
      cases he0
      obtain ⟨n0, n1, n2, ⟨ev, n3, n4⟩, n5⟩ := hn0
      obtain ⟨pe, ce, rfl⟩ := n4.shape
      have hki : (k : Int) < (l.length : Int) := by omega
      have hki1 : (k : Int) < (l.length : Int) + 1 := by omega
      have hkj : (k : Int) + 1 < (l.length : Int) + 1 := by omega
      have crA : ∀ o, (wr.alloc o).cell? ⟨w.heap.size, k, none⟩ = some (.bool ((st l k).1 k)) := fun o => (Below.cell ((Below.refl wr.heap.size wr).alloc (Nat.le_refl _) o) h2.lt).trans (h2.cell hk)
      have HT1 := Lib.hid (HT.out.keep (h3.block g hgl))
      have hslen := st_len HF.out hk
      cases hr : (st l k).1 k with
      | false =>
        have HS : Hid (st l (k + 1) = st l k) := by show _ = _; simp only [st]; rw [hr]; simp
        rw [hr] at crA
        have HKK := Lib.hid (And.intro h1 (And.intro h2 h3))
        clear h1 h2 h3 n4 hr
        rcases hsh with rfl | ⟨p, nn, c, rfl⟩
        all_goals
          go_wp2_with fail
          refine ⟨⟨k + 1, hlt, rfl, ?_, ?_⟩, by simp only [RowKit.intOf]; omega⟩
          · first | exact .inl rfl | exact .inr ⟨_, _, _, rfl⟩
          · obtain ⟨h1, h2, h3⟩ := HKK.out
            show _ ∧ _
            rw [HS.out]
            exact ⟨h1.alloc _, h2.keep (Below.heap_alloc _ _ _ h2.lt), h3.alloc h3.size _⟩
      | true =>
        have hT1 := T_le HF.out (show k + 1 ≤ l.length by omega)
        have hTT : (at' l k).k = 7 → T l (tn l k) ≤ l.length ∧ tn l k ≤ l.length ∧ (at' l k).to = ((tn l k : Nat) : Int) := fun h7 => by
          have h := HF.out.tn hlt (jmp7 h7)
          have h' := HF.out k hlt (jmp7 h7)
          exact ⟨T_le HF.out h.2, h.2, by unfold tn; omega⟩
        have HS : Hid ((st l (k + 1)).2 = (st l k).2 ++ [k] ∧ ((at' l k).k = 7 → (st l (k + 1)).1 = Flow.mark (Flow.mark (st l k).1 (T l (k + 1))) (T l (tn l k))) ∧ (¬ (at' l k).k = 7 → (st l (k + 1)).1 = Flow.mark (st l k).1 (T l (k + 1)))) := by
          refine ⟨?_, fun h7 => ?_, fun h7 => ?_⟩
          · simp only [st]; rw [hr]; simp
          · simp only [st]; rw [hr]; simp [h7]
          · simp only [st]; rw [hr]; simp [h7]
        rw [hr] at crA
        have hob : ∀ j, u4.ownBlock = some j → w.heap.size + 1 ≤ j ∧ j < wr.heap.size := fun j e => h1.lt j e
        have HKK := Lib.hid (And.intro h1 (And.intro h2 (And.intro h3 hob)))
        have HO1 : Hid (((wr.alloc (.cells #[.int .u8 (at' l k).k, .int .i64 (at' l k).a, .int .i64 (at' l k).b, .slice pe (at' l k).e.length ce, .int .i64 (at' l k).to] 30)).alloc (.cells #[.int .i64 (k : Int)] 3)).ownsRow (w.heap.size + 1) 3 1 u4 (ints (st l k).2).length ((ints (st l k).2).map (Value.int .i64))) := (h1.alloc _).alloc _
        have hcell : ((wr.alloc (.cells #[.int .u8 (at' l k).k, .int .i64 (at' l k).a, .int .i64 (at' l k).b, .slice pe (at' l k).e.length ce, .int .i64 (at' l k).to] 30)).alloc (.cells #[.int .i64 (k : Int)] 3)).cell? ⟨wr.heap.size + 1, 0, none⟩ = some (.int .i64 (k : Int)) := by simp [go_sem]
        have hzl := ints_len (st l k).2
        have hwl := h2.lt
        clear h1 h2 h3 n4 hr
        have hsl2 : (ints (st l k).2).length ≤ 10000000000000 := by omega
        generalize tn l k = tj at *
        generalize at' l k = ins at *
        obtain ⟨tt, htt⟩ : ∃ tt, T l tj = tt := ⟨_, rfl⟩
        rw [htt] at hTT HS
        have HTJ := Lib.hid htt
        clear htt
        obtain ⟨tk, htk⟩ : ∃ tk, T l (k + 1) = tk := ⟨_, rfl⟩
        rw [htk] at hT1 HS
        have tc1 : ∀ w2 : World, w2.heap[g]? = wr.heap[g]? → w2.cell? ⟨g, k + 1, none⟩ = some (.int .i64 (tk : Int)) := fun w2 h => by
          have := (HT1.out.keep h).cell (show k + 1 ≤ l.length by omega)
          rw [htk] at this; exact this
        have HTC := Lib.hid tc1
        have htk1 : (tk : Int) < (l.length : Int) + 1 := by omega
        clear tc1 htk
        have HARM : Hid (∀ w2 : World, ((wr.alloc (.cells #[.int .u8 ins.k, .int .i64 ins.a, .int .i64 ins.b, .slice pe ins.e.length ce, .int .i64 ins.to] 30)).alloc (.cells #[.int .i64 (k : Int)] 3)).grownBy w2 u4.ownBlock → (∀ q, q ≤ w.heap.size → w2.heap[q]? = wr.heap[q]?) ∧ w2.heap[wr.heap.size]? = some (.cells #[.int .u8 ins.k, .int .i64 ins.a, .int .i64 ins.b, .slice pe ins.e.length ce, .int .i64 ins.to] 30 (0, 0)) ∧ Below w.heap.size w w2) := by
          intro w2 hg
          obtain ⟨h1, h2, h3, hob⟩ := HKK.out
          refine ⟨fun q hq => ?_, ?_, ((h3.alloc h3.size _).alloc (by have := h3.size; simp; omega) _).grown hg (by have := h3.size; simp; omega) (fun j e => by have := hob j e; omega)⟩
          · rw [hg.block q (by simp; omega) (fun e => by have := hob q e.symm; omega), Below.heap_alloc _ _ _ (by simp; omega), Below.heap_alloc _ _ _ (by omega)]
          · rw [hg.block _ (by simp; omega) (fun e => by have := hob _ e.symm; omega), Below.heap_alloc _ _ _ (by simp), heap_alloc_new]
        by_cases h7 : ins.k = 7
        · obtain ⟨e1, e2, e3⟩ := hTT h7
          rw [h7, e3] at HO1 hcell HARM
          have HS2 := Lib.hid (And.intro HS.out.1 (HS.out.2.1 h7))
          have htj1 : (tj : Int) < (l.length : Int) + 1 := by omega
          have htt1 : (tt : Int) < (l.length : Int) + 1 := by omega
          have tc2 : ∀ w2 : World, w2.heap[g]? = wr.heap[g]? → w2.cell? ⟨g, tj, none⟩ = some (.int .i64 (tt : Int)) := fun w2 h => by
            have := (HT1.out.keep h).cell e2
            rw [HTJ.out] at this; exact this
          have HTC2 := Lib.hid tc2
          clear HS tc2
          go_wp2_with (first
            | (refine append_int rfl (.tmp 29) (.tmp 31) rfl (w.heap.size + 1) _ _ rfl HO1.out (wr.heap.size + 1) (k : Int) rfl hcell hsl2 (by simp; omega) ?_; intro g2 cap2 w2 hown hgrow; have HOWN := Lib.hid hown; obtain ⟨y1, y2, y3⟩ := HARM.out w2 hgrow; have HY := Lib.hid y1; have HB3 := Lib.hid y3; have z1 := HTC.out w2 (y1 g (by omega)); have HRB := Lib.hid (HKK.out.2.1.keep (y1 w.heap.size (Nat.le_refl _))); have z2 := HRB.out.cell hT1; have z3 := HRB.out.frozen tk; have hng : w.heap.size ≠ g := (by omega); have z0 : ∀ v, (w2.setCell ⟨w.heap.size, tk, none⟩ v).cell? ⟨wr.heap.size, 0, none⟩ = some (.int .u8 7) := (fun v => (World.cell?_setCell_other _ _ _ _ (fun q => absurd (congrArg Addr.block q) (by simp; omega))).trans (by simp [World.cell?, y2])); have z4 : ∀ v, (w2.setCell ⟨w.heap.size, tk, none⟩ v).cell? ⟨wr.heap.size, 4, none⟩ = some (.int .i64 (tj : Int)) := (fun v => (World.cell?_setCell_other _ _ _ _ (fun q => absurd (congrArg Addr.block q) (by simp; omega))).trans (by simp [World.cell?, y2])); have z5 : ∀ v, (w2.setCell ⟨w.heap.size, tk, none⟩ v).cell? ⟨g, tj, none⟩ = some (.int .i64 (tt : Int)) := (fun v => (World.cell?_setCell_other _ _ _ _ (fun q => absurd (congrArg Addr.block q) (by simp; omega))).trans (HTC2.out w2 (y1 g (by omega)))); have HRC := Lib.hid (HRB.out.set hT1 true); have z6 := HRC.out.cell e1; have z7 := HRC.out.frozen tt; clear hown hgrow y1 y2 y3))
          refine ⟨⟨k + 1, hlt, rfl, .inr ⟨_, _, _, rfl⟩, ?_, ?_, ?_⟩, by simp only [RowKit.intOf]; omega⟩
          · rw [HS2.out.1, ints_snoc]
            have hge := (HOWN.out.lt g2 rfl).1
            rw [← hzl]
            exact (HOWN.out.kept (grownBy_setCell_at w2 w.heap.size tk _) (.inr (fun e => by simp [Value.ownBlock] at e; omega))).kept (grownBy_setCell_at _ w.heap.size tt _) (.inr (fun e => by simp [Value.ownBlock] at e; omega))
          · rw [HS2.out.2]
            refine (HRC.out.set e1 true).congr fun q _ => ?_
            unfold Flow.mark
            by_cases eq1 : q = tt
            · simp [eq1]
            · by_cases eq2 : q = tk
              · have b1 : (q == tt) = false := beq_eq_false_iff_ne.2 eq1
                simp [eq1, eq2, b1]
              · have b1 : (q == tt) = false := beq_eq_false_iff_ne.2 eq1
                have b2 : (q == tk) = false := beq_eq_false_iff_ne.2 eq2
                simp [eq1, eq2, b1, b2]
          · exact (HB3.out.setCell (Nat.le_refl _) _).setCell (Nat.le_refl _) _
        · have hk7 : (ins.k == 7) = false := beq_eq_false_iff_ne.2 h7
          have HS2 := Lib.hid (And.intro HS.out.1 (HS.out.2.2 h7))
          clear HS
          go_wp2_with (first
            | (refine append_int rfl (.tmp 29) (.tmp 31) rfl (w.heap.size + 1) _ _ rfl HO1.out (wr.heap.size + 1) (k : Int) rfl hcell hsl2 (by simp; omega) ?_; intro g2 cap2 w2 hown hgrow; have HOWN := Lib.hid hown; obtain ⟨y1, y2, y3⟩ := HARM.out w2 hgrow; have HY := Lib.hid y1; have HB3 := Lib.hid y3; have z1 := HTC.out w2 (y1 g (by omega)); have HRB := Lib.hid (HKK.out.2.1.keep (y1 w.heap.size (Nat.le_refl _))); have z2 := HRB.out.cell hT1; have z3 := HRB.out.frozen tk; have z0 : ∀ v, (w2.setCell ⟨w.heap.size, tk, none⟩ v).cell? ⟨wr.heap.size, 0, none⟩ = some (.int .u8 ins.k) := (fun v => (World.cell?_setCell_other _ _ _ _ (fun q => absurd (congrArg Addr.block q) (by simp; omega))).trans (by simp [World.cell?, y2])); clear hown hgrow y1 y2 y3))
          refine ⟨⟨k + 1, hlt, rfl, .inr ⟨_, _, _, rfl⟩, ?_, ?_, ?_⟩, by simp only [RowKit.intOf]; omega⟩
          · rw [HS2.out.1, ints_snoc]
            have hge := (HOWN.out.lt g2 rfl).1
            rw [← hzl]
            exact HOWN.out.kept (grownBy_setCell_at w2 w.heap.size tk _) (.inr (fun e => by simp [Value.ownBlock] at e; omega))
          · rw [HS2.out.2]
            refine (HRB.out.set hT1 true).congr fun q _ => ?_
            unfold Flow.mark
            by_cases eq1 : q = tk
            · simp [eq1]
            · simp [eq1]
          · exact HB3.out.setCell (Nat.le_refl _) _
    · obtain rfl : k = l.length := by omega
      obtain ⟨h1, h2, h3⟩ := HK.out
      rw [st_out HF.out l.length (Nat.le_refl _)] at h1
      rcases hsh with rfl | ⟨p, n, c, rfl⟩
      all_goals
        go_wp2_with fail
        go_ret
        exact ⟨_, rfl, own_mono h1 (Nat.le_succ _), h3⟩

end Go.Proofs.Ytfhleldmkhllaaa

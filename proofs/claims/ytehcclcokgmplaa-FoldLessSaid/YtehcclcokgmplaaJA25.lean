/-
  Lemmas, joined: FolT, FolU, FolV, FolW.
-/
import Derived.Test.YtehcclcokgmplaaJA24
import Derived.BigRegion
/-
  Layer 35's code, walked: folded.
-/
namespace Go.Proofs.Ytehcclcokgmplaa
open Go.RowKit Go.Maps

theorem CO.grown {base b' : Nat} {w w' : World} {v u : Value} {l : List Nod} {n : Nat} {xs : List Value} (h : CO base w v l) (hs : w.ownsRow b' 35 1 u n xs) (hg : w.grownBy w' u.ownBlock) : CO base w' v l := by
  refine ⟨h.1.kept hg ?_, h.2⟩
  rcases h.1.2 with ⟨h2, h3⟩ | ⟨g, cap, cur, q1, q2, q3, -⟩
  · left; rw [h2]; rfl
  · right
    intro e
    rw [q1] at e
    rcases hs.2 with ⟨h2, h3⟩ | ⟨g2, cap2, cur2, s1, s2, s3, -⟩
    · rw [h2] at e; cases e
    · rw [s1] at e
      simp only [Value.ownBlock, Option.some.injEq] at e
      subst e
      rw [q3] at s3
      simp at s3
theorem Cos.grown {base b' : Nat} {w w' : World} {u : Value} {ss : List Sl} {ls : List (List Nod)} {n : Nat} {xs : List Value} (h : Cos base w ss ls) (hs : w.ownsRow b' 35 1 u n xs) (hg : w.grownBy w' u.ownBlock) : Cos base w' ss ls := ⟨h.1, fun j s l h1 h2 => (h.2 j s l h1 h2).grown hs hg⟩
theorem Cos.take {base : Nat} {w : World} {ss : List Sl} {l1 l2 : List (List Nod)} (h : Cos base w ss (l1 ++ l2)) : Cos base w (ss.take l1.length) l1 := by
  obtain ⟨h1, h2⟩ := h
  rw [List.length_append] at h1
  refine ⟨by rw [List.length_take]; omega, fun j s l h3 h4 => ?_⟩
  have hj := (List.getElem?_eq_some_iff.1 h4).1
  rw [List.getElem?_take_of_lt hj] at h3
  exact h2 j s l h3 (by rw [List.getElem?_append_left hj]; exact h4)
theorem Cos.drop {base : Nat} {w : World} {ss : List Sl} {l1 l2 : List (List Nod)} (h : Cos base w ss (l1 ++ l2)) : Cos base w (ss.drop l1.length) l2 := by
  obtain ⟨h1, h2⟩ := h
  rw [List.length_append] at h1
  refine ⟨by rw [List.length_drop]; omega, fun j s l h3 h4 => ?_⟩
  rw [List.getElem?_drop] at h3
  exact h2 _ s l h3 (by rw [List.getElem?_append_right (by omega), Nat.add_sub_cancel_left]; exact h4)
theorem Cos.snoc {base : Nat} {w : World} {ss : List Sl} {ls : List (List Nod)} {s : Sl} {l : List Nod} (h : Cos base w ss ls) (h2 : CO base w (slV s) l) : Cos base w (ss ++ [s]) (ls ++ [l]) := by
  obtain ⟨h1, h3⟩ := h
  refine ⟨by simp [h1], fun j s' l' h4 h5 => ?_⟩
  by_cases hj : j < ss.length
  · rw [List.getElem?_append_left hj] at h4
    rw [List.getElem?_append_left (by omega)] at h5
    exact h3 j s' l' h4 h5
  · have hj2 : j = ss.length := by
      have := (List.getElem?_eq_some_iff.1 h4).1
      rw [List.length_append, List.length_singleton] at this
      omega
    subst hj2
    rw [List.getElem?_append_right (Nat.le_refl _), Nat.sub_self] at h4
    rw [h1, List.getElem?_append_right (Nat.le_refl _), Nat.sub_self] at h5
    cases h4; cases h5
    exact h2
theorem own_take {w : World} {b E sz n k c : Nat} {p : Option Addr} {xs : List Value} (h : w.ownsRow b E sz (.slice p n c) n xs) (hk : k ≤ n) : w.ownsRow b E sz (.slice p k c) k (xs.take (k * sz)) := by
  obtain ⟨h0, h1⟩ := h
  have hks : k * sz ≤ n * sz := Nat.mul_le_mul_right _ hk
  refine ⟨by rw [List.length_take, h0]; omega, ?_⟩
  rcases h1 with ⟨h2, h3⟩ | ⟨g, cap, cur, q1, q2, q3, q4, q5, q6, q7⟩
  · cases h2
    obtain rfl : k = 0 := by omega
    exact .inl ⟨rfl, rfl⟩
  · cases q1
    refine .inr ⟨g, c, cur, rfl, q2, q3, by omega, q5, q6, ?_⟩
    rw [← q7, List.take_take, Nat.min_eq_left hks]
theorem flat_take (ss : List Sl) (k : Nat) : (ss.flatMap slE).take (k * 1) = (ss.take k).flatMap slE := by
  rw [Nat.mul_one]
  induction ss generalizing k with
  | nil => simp
  | cons s ss ih => cases k with
    | zero => simp
    | succ k => simp [slE]; exact ih k
theorem slice_lo {P : Program} {o : Oper} {S : TypeId} {v v1 : Value} {f : Int} {ev : Operand → Value} {w : World} {t1 t2 : Nat} (hu : P.underlying S = some (.slice (P.elem S))) (ho : o.op = Op.slice S (.tmp t1) (some (.tmp t2)) none none) (hs : (Instr.slice S v (some (.int .i64 f)) none none).run P w = .ok v1 w) (e1 : ev (.tmp t1) = v) (e2 : ev (.tmp t2) = .int .i64 f) :
    (execOp ev o).run P w = .ok (.value v1) w := by
  simp [execOp, ho, e1, e2, hs, run_sliceAt_slice (h := hu), Result.andThen]

set_option maxRecDepth 100000 in
set_option maxHeartbeats 12800000 in
theorem folded_any {p : Prg} {act wt : Int} (c : List Nod) (cp : Option Addr) (cn cc : Nat) (w : World) (hc : CRow w (.slice cp cn cc) c) (hw : widthP p act c = some wt) (hl : c.length ≤ 500) :
    Calls Try.prog 12 #[.slice cp cn cc] w fun e w' => (∃ t, c = t.flat ∧ WTr p act t wt ∧ ∃ v, e = .returned v ∧ CO w.heap.size w' v (foldT t).flat) ∧ Below w.heap.size w w' := by
  have HC := Lib.hid hc
  have HW := Lib.hid hw
  have HN : Hid (cn = c.length) := hc.ln.1
  have hcn : cn ≤ 500 := by have := HN.out; omega
  clear hc hw hl
  go_enter Try.func12, Try.ntmps12
  go_wp2_with fail
  go_loopw [3, 5, 6, 7, 10] (fun u3 u5 u6 u7 i wr => ∃ (k : Nat) (st : List Int) (ts : List Tr), k ≤ cn ∧ i = .int .i64 k ∧ Hid (FI p act c k st ts) ∧ Hid (CStk w.heap.size wr u3 (lsF ts)) ∧ Hid (Below w.heap.size w wr)) (fun _ _ _ _ i _ => cn - (intOf i).toNat)
  case atStart => exact ⟨0, [], [], Nat.zero_le _, rfl, FI.start p act c, ⟨[], World.ownsRow_nil _ _ _ _, rfl, fun j s l h => by simp at h⟩, Below.refl _ _⟩
  case round =>
    obtain ⟨k, st, ts, hk, rfl, HFI, HST, HBr⟩ := hrel
    obtain ⟨ss, hso, hcos⟩ := HST.out
    obtain ⟨sp, sc, rfl⟩ := own_shF hso
    have hsl : ss.length = ts.length := by rw [hcos.1, lsF_len]
    clear HST
    by_cases hlt : k < cn
    · have hki : (k : Int) < (cn : Int) := by omega
      obtain ⟨n, hn⟩ : ∃ n, c[k]? = some n := ⟨_, List.getElem?_eq_getElem (by have := HN.out; omega)⟩
      obtain ⟨kb, ko, rfl, hkb, d0, d1, d2, d3, hvv, d4, d5⟩ := (HC.out.below keepNd HBr.out).get hn
      obtain ⟨M, t', r, parts, hM, hM2, hrM, ⟨st2, hfi⟩, hls, hpl, hmd⟩ := fold_step HFI.out hn HW.out (by have := HN.out; omega) hvv
      obtain ⟨op, kk, a, b, v⟩ := n
      unfold fndV at hmd
      dsimp only at d0 d1 d2 d3 d4 d5 hvv hM hmd
      generalize ((v / B : Nat) : Int) = x at *
      generalize ((v % B : Nat) : Int) = y at *
      have d6 : wr.cell? ⟨kb, ko + k * 6 + 5, none⟩ = some (.int .u64 y) := d5
      have HF2 : Hid (FI p act c (k + 1) st2 (t' :: r)) := hfi
      obtain ⟨code, hcode⟩ : ∃ code, code = (foldT t').flat := ⟨_, rfl⟩
      rw [← hcode] at hmd
      have HLS2 : Hid (lsF (t' :: r) = lsF r ++ [code]) := by show _ = _; rw [lsF_cons, hcode]
      have hrl : (lsF r).length = r.length := lsF_len r
      obtain ⟨F, hF⟩ : ∃ F, F = r.length := ⟨_, rfl⟩
      rw [← hF] at hrM hrl
      have hrow : RowAt 1 SlcAt wr (.slice sp ss.length sc) ss := SOwn.row hso
      have hsc : ss.length ≤ sc := hrow.ln.2.1
      have hscm : sc ≤ maxLen := hrow.ln.2.2.1
      have hFs : F ≤ ss.length := by omega
      rw [hls] at hcos
      have hcd : Cos w.heap.size wr (ss.drop F) parts := by have := hcos.drop; rw [hrl] at this; exact this
      have hct : Cos w.heap.size wr (ss.take F) (lsF r) := by have := hcos.take; rw [hrl] at this; exact this
      have hdl : (ss.drop F).length = M := by rw [hcd.1, hpl]
      have htl : (ss.take F).length = F := by rw [hct.1, hrl]
      obtain ⟨v1, hv1, hr1⟩ := RowAt.lo elemCs hrow hFs
      have HV1 := Lib.hid hv1
      have hts500 : ss.length ≤ 1000000 := by
        have h1 := (foldW_ok HFI.out.fw).2
        have h2 := HFI.out.len
        omega
      have HCLN : Hid (∀ W, Below wr.heap.size wr W → Calls Try.prog 17 #[v1] W fun e w' => ∃ q1 q2, e = .returned (.slice q1 M q2) ∧ Prt w.heap.size w' (.slice q1 M q2) parts ∧ Below W.heap.size W w') := fun W h => by
        refine (cloneS_any (ss.drop F) v1 W (hr1.below keepSlc h) (by omega)).mono fun e w' ⟨v', h1, h2, h3⟩ => ?_
        obtain ⟨q1, q2, rfl⟩ := own_shF h2
        rw [hdl] at h1
        refine ⟨q1, q2, h1, ⟨ss.drop F, ?_, (hcd.below h).below h3⟩, h3⟩
        have h4 := SOwn.row h2
        rw [hdl] at h4
        exact h4
      have HMD : Hid (∀ (W : World) (pp : Option Addr) (pc : Nat), w.heap.size ≤ W.heap.size → Prt w.heap.size W (.slice pp M pc) parts → Calls Try.prog 18 #[.agg #[.int .u8 op, .int .i64 kk, .int .i64 a, .int .i64 b, .int .u64 x, .int .u64 y, .slice pp M pc]] W fun e w' => (∃ v, e = .returned v ∧ CO w.heap.size w' v code) ∧ Below W.heap.size W w') := fun W pp pc h1 h2 => hmd w.heap.size W pp pc h1 h2
      have HTAKE : Hid ((wr.ownsRow w.heap.size 35 1 (.slice sp F sc) F ((ss.take F).flatMap slE))) := by
        have := own_take hso hFs
        rw [flat_take] at this
        exact this
      have HCT := Lib.hid hct
      have HTL := Lib.hid htl
      have HTK : Hid (∀ W, Calls Try.prog 16 #[.int .u8 op] W fun e w' => e = .returned (.int .i64 (M : Int)) ∧ w' = W) := fun W => by
        have := takes_any op W
        rw [hM] at this
        exact this
      have hwF : wrap64 ((ss.length : Int) - (M : Int)) = (F : Int) := by unfold wrap64; omega
      have hFc : (F : Int) ≤ (sc : Int) := by omega
      have hFc2 : F ≤ sc := by omega
      have hF5 : F ≤ 1000000 := by omega
      clear d5 hn hvv hmd hcode hfi hM hrM hls hpl hcos hcd hct hdl htl hv1 hr1 hrow hso hF hrl hsl HFI hts500
      generalize ss.length = L at *
      go_upto_region 5 with fail
      obtain ⟨W1, hW1⟩ : ∃ W1, W1 = wr.alloc (.cells #[.int .u8 op, .int .i64 kk, .int .i64 a, .int .i64 b, .int .u64 x, .int .u64 y] 61) := ⟨_, rfl⟩
      have HX1 : Hid (Below wr.heap.size wr W1) := by show Below _ _ _; rw [hW1]; exact (Below.refl _ _).alloc (Nat.le_refl _) _
      have HY1 : Hid (w.heap.size ≤ W1.heap.size) := Nat.le_trans HBr.out.size HX1.out.size
      have HN1 : Hid (∀ W, Below W1.heap.size W1 W → W.cell? ⟨wr.heap.size, 0, none⟩ = some (.int .u8 op) ∧ W.cell? ⟨wr.heap.size, 1, none⟩ = some (.int .i64 kk) ∧ W.cell? ⟨wr.heap.size, 2, none⟩ = some (.int .i64 a) ∧ W.cell? ⟨wr.heap.size, 3, none⟩ = some (.int .i64 b) ∧ W.cell? ⟨wr.heap.size, 4, none⟩ = some (.int .u64 x) ∧ W.cell? ⟨wr.heap.size, 5, none⟩ = some (.int .u64 y)) := fun W h => by
        have hs : wr.heap.size < W1.heap.size := by rw [hW1]; simp
        refine ⟨(h.cell (p := ⟨wr.heap.size, 0, none⟩) hs).trans ?_, (h.cell (p := ⟨wr.heap.size, 1, none⟩) hs).trans ?_, (h.cell (p := ⟨wr.heap.size, 2, none⟩) hs).trans ?_, (h.cell (p := ⟨wr.heap.size, 3, none⟩) hs).trans ?_, (h.cell (p := ⟨wr.heap.size, 4, none⟩) hs).trans ?_, (h.cell (p := ⟨wr.heap.size, 5, none⟩) hs).trans ?_⟩
        all_goals (rw [hW1]; go_simp)
      rw [← hW1]
      clear hW1 d0 d1 d2 d3 d4 d6
      obtain ⟨n0, n1, n2, n3, n4, n5⟩ := HN1.out W1 (Below.refl _ _)
      go_upto_region 6 with (go_at_call 16; refine (HTK.out _).mono ?_; rintro e w3 ⟨rfl, hw3⟩; obtain rfl := hw3.symm)
      clear n0 n1 n2 n3 n4 n5
      rw [hwF]
      refine region_outS (by kernel_rfl) (fun Wk => Below W1.heap.size W1 Wk) (fun w1 w2 h1 h2 => h1.trans (h2.mono h1.size)) (by kernel_rfl) (Below.drew (Below.refl _ _)) ?_
      refine ⟨.eq ?_, trivial, rfl, fun aa ww ll hh => ?_, ?_⟩
      rotate_left
      · have e5 := (hh.old 5 (by kernel_rfl)).trans (evalO rfl)
        simp only [nthO] at e5
        obtain ⟨n0, n1, n2, n3, n4, n5⟩ := HN1.out ww hh.inv
        refine out_val (wanted_none rfl) ?_
        clear hh
        generalize aa.eval = ev at e5 ⊢
        go_simp
        try rfl
      refine ⟨.eq ?_, trivial, rfl, fun aa ww ll hh => ?_, ?_⟩
      rotate_left
      · have e3 := (hh.old 3 (by kernel_rfl)).trans (evalO rfl)
        simp only [nthO] at e3
        refine out_val (wanted_none rfl) ?_
        rw [ex_moveO (by first | exact .inl rfl | exact .inr rfl) e3]
      refine ⟨.eq ?_, trivial, rfl, fun aa ww ll hh => ?_, ?_⟩
      rotate_left
      · have e6 := (hh.old 6 (by kernel_rfl)).trans (evalO rfl)
        simp only [nthO] at e6
        refine out_val (wanted_none rfl) ?_
        rw [ex_moveO (by first | exact .inl rfl | exact .inr rfl) e6]
      refine ⟨.eq v1, trivial, rfl, fun aa ww ll hh => ?_, ?_⟩
      · have e21 := hh.get 1 1 (by kernel_rfl) rfl rfl rfl
        have e22 := hh.get 2 0 (by kernel_rfl) rfl rfl rfl
        refine out_val (wanted_none rfl) ?_
        have hs := HV1.out ww
        clear hh
        generalize aa.eval = ev at e21 e22 ⊢
        exact slice_lo Try.underlying42 rfl hs e21 e22
      refine ⟨.rel (fun W v => ∃ p c, v = .slice p M c ∧ Prt w.heap.size W (.slice p M c) parts), (fun W W' v ⟨p, c, h1, h2⟩ hb => ⟨p, c, h1, h2.below hb⟩), rfl, fun aa ww ll hh => ?_, ?_⟩
      · have e23 := hh.get 3 0 (by kernel_rfl) rfl rfl rfl
        have ef : ∀ f, aa.eval (.func f) = .func (.func f) #[] #[] := fun _ => rfl
        have HI := hh.inv
        refine out_call (wanted_none rfl) ?_ ((HCLN.out ww (HX1.out.trans (HI.mono HX1.out.size))).mono fun e w9 ⟨q1, q2, h1, h2, h3⟩ => ⟨_, h1, ⟨q1, q2, rfl, h2⟩, h3⟩)
        clear hh HI
        generalize aa.eval = ev at e23 ef ⊢
        go_simp
        try rfl
      refine ⟨.rel (fun W v => ∃ p c, v = .agg #[.int .u8 op, .int .i64 kk, .int .i64 a, .int .i64 b, .int .u64 x, .int .u64 y, .slice p M c] ∧ Prt w.heap.size W (.slice p M c) parts), (fun W W' v ⟨p, c, h1, h2⟩ hb => ⟨p, c, h1, h2.below hb⟩), rfl, fun aa ww ll hh => ?_, ?_⟩
      · have e20 := hh.get 0 4 (by kernel_rfl) rfl rfl rfl
        obtain ⟨x24, e24, -, p24⟩ := hh.got 4 0 (by kernel_rfl) rfl rfl rfl
        obtain ⟨pz, cz, rfl, hpz⟩ := p24
        refine out_new (wanted_none rfl) (v := .agg #[.int .u8 op, .int .i64 kk, .int .i64 a, .int .i64 b, .int .u64 x, .int .u64 y, .slice pz M cz]) ?_ (Below.refl _ _) ⟨_, _, rfl, hpz⟩
        clear hh hpz
        generalize aa.eval = ev at e20 e24 ⊢
        go_simp
        try rfl
      refine ⟨.rel (fun W v => CO w.heap.size W v code), (fun W W' v h hb => h.below hb), rfl, fun aa ww ll hh => ?_, ?_⟩
      · obtain ⟨x25, e25, -, p25⟩ := hh.got 5 0 (by kernel_rfl) rfl rfl rfl
        have ef : ∀ f, aa.eval (.func f) = .func (.func f) #[] #[] := fun _ => rfl
        obtain ⟨pz, cz, rfl, hpz⟩ := p25
        have HI := hh.inv
        have hq := HMD.out ww pz cz (Nat.le_trans HY1.out HI.size) hpz
        refine out_call (wanted_none rfl) ?_ (hq.mono fun e w9 ⟨⟨v9, h1, h2⟩, h3⟩ => ⟨v9, h1, h2, h3⟩)
        clear hh HI hq hpz
        generalize aa.eval = ev at e25 ef ⊢
        go_simp
        try rfl
      refine ⟨.rel (fun W v => CO w.heap.size W v code), (fun W W' v h hb => h.below hb), rfl, fun aa ww ll hh => ?_, ?_⟩
      · obtain ⟨x26, e26, -, p26⟩ := hh.got 6 0 (by kernel_rfl) rfl rfl rfl
        refine out_new (v := x26) (wanted_none rfl) ?_ (Below.refl _ _) p26
        rw [ex_moveO (by first | exact .inl rfl | exact .inr rfl) e26]
      intro ll w2 hS2 hok
      have p7 := hok 7 _ rfl
      clear hok
      simp only [List.reverse_cons, List.reverse_nil, List.nil_append, List.cons_append, layO, Out.val, Act.put, List.setIfInBounds_toArray, List.set_cons_zero, List.set_cons_succ]
      obtain ⟨vz, hvz⟩ : ∃ vz, vz = ll 7 := ⟨_, rfl⟩
      rw [← hvz] at p7 ⊢
      clear hvz
      obtain ⟨pz, cz, rfl⟩ := p7.shape
      have HCO2 := Lib.hid p7
      have HB2 : Hid (Below wr.heap.size wr w2) := HX1.out.trans (hS2.mono HX1.out.size)
      have HE2 : Hid (Below w.heap.size w w2) := HBr.out.trans (HB2.out.mono HBr.out.size)
      clear p7 hS2 HMD HCLN HTK HV1 HN1
      generalize hzl : code.length = zl at *
      have HT2 : Hid ((w2.alloc (.cells #[.slice pz zl cz] 35)).ownsRow w.heap.size 35 1 (.slice sp F sc) F ((ss.take F).flatMap slE)) := (own_below HTAKE.out HB2.out).alloc _
      have hsz2 : w.heap.size ≤ w2.heap.size := HE2.out.size
      go_wp2_with (at_builtin; refine append_gen elemCs rfl (.tmp 29) (.tmp 31) rfl w.heap.size (.slice sp F sc) F _ rfl HT2.out (.slice (some ⟨w2.heap.size, 0, none⟩) 1 1) 1 [.slice pz zl cz] rfl (src_one (g := w2.heap.size) rfl (fun u hu => by rw [List.mem_singleton.1 hu]; rfl) (fun j u hj => by match j, hj with | 0, hj => cases hj; simp [go_sem])) (by omega) (by unfold maxLen; omega) (by simp; omega) ?_; intro y1 w3 g1 g2; have HO3 := Lib.hid g1; have HG3 := Lib.hid g2; have HE3 : Hid (Below w.heap.size w w3) := below_grown (HE2.out.alloc hsz2 _) HT2.out g2 (Nat.le_refl _) (by simp; omega); clear g1 g2)
      go_roundw
      case rel =>
        refine ⟨k + 1, st2, t' :: r, by omega, by go_num, HF2.out, ⟨ss.take F ++ [(pz, zl, cz)], ?_, ?_⟩, HE3.out⟩
        · show World.ownsRow _ _ _ _ _ _ _
          rw [List.length_append, HTL.out, List.length_singleton, List.flatMap_append, List.flatMap_cons, List.flatMap_nil, List.append_nil]
          exact HO3.out
        · rw [HLS2.out]
          refine Cos.snoc ?_ ?_
          · exact ((HCT.out.below HB2.out).below ((Below.refl _ _).alloc (Nat.le_refl _) _)).grown HT2.out HG3.out
          · exact (HCO2.out.below ((Below.refl _ _).alloc (Nat.le_refl _) _)).grown HT2.out HG3.out
      case measure => simp [intOf]; omega
    · obtain rfl : k = cn := by omega
      have hkk : ¬ (k : Int) < (k : Int) := by omega
      have hfi := HFI.out
      rw [HN.out] at hfi
      obtain ⟨t, rfl, hct, ht⟩ := hfi.done HW.out
      have hprt : Prt w.heap.size wr (.slice sp ss.length sc) [(foldT t).flat] := CStk.prt ⟨ss, hso, hcos⟩
      obtain ⟨b1, o1, p1, n1, c1, rfl, hb1, hc1, hco1⟩ := hprt.el (j := 0) rfl
      simp only [Nat.add_zero] at hc1
      have hl1 : ss.length = 1 := hsl
      rw [hl1]
      have HCL : Hid (∀ W, Below wr.heap.size wr W → Calls Try.prog 11 #[.slice p1 n1 c1] W fun e w' => ∃ v', e = .returned v' ∧ CO W.heap.size w' v' (foldT t).flat ∧ Below W.heap.size W w') := fun W h => cloneC_any _ _ W (hco1.below h).row (by
        have h1 := foldT_len t
        have h2 := HN.out
        rw [hct] at h2
        omega)
      have HRES : Hid (c = t.flat ∧ WTr p act t wt) := ⟨hct, ht⟩
      clear hfi HFI hct ht hprt hco1 hso hcos hsl
      go_wp2_with (go_at_call 11; refine (HCL.out _ (Below.refl _ _)).mono ?_; rintro e w2 ⟨v', rfl, g1, g2⟩; have HC2 := Lib.hid g1; have HB2 := Lib.hid g2; clear g1 g2)
      go_ret
      exact ⟨⟨t, HRES.out.1, HRES.out.2, _, rfl, HC2.out.mono HBr.out.size⟩, HBr.out.trans (HB2.out.mono HBr.out.size)⟩

end Go.Proofs.Ytehcclcokgmplaa

/-
  Layer 35's code, walked: Code; SameCode of the same; known.
-/
namespace Go.Proofs.Ytehcclcokgmplaa
open Go.RowKit Go.Maps

/-- What Code makes of a code. -/
def CodeR (p : Prg) (act : Int) (c r : List Nod) : Prop := (∃ wt t, widthP p act c = some wt ∧ WTr p act t wt ∧ c = t.flat ∧ r = (foldT t).flat) ∨ (widthP p act c = none ∧ r = c)
theorem CodeR.le {p : Prg} {act : Int} {c r : List Nod} (h : CodeR p act c r) : r.length ≤ c.length := by
  rcases h with ⟨wt, t, -, -, rfl, rfl⟩ | ⟨-, rfl⟩
  · exact foldT_len t
  · exact Nat.le_refl _
theorem CodeR.twice {p : Prg} {act : Int} {c r r2 : List Nod} (h : CodeR p act c r) (h2 : CodeR p act r r2) (hl : c.length ≤ 500) : r2 = r := by
  have hle := h.le
  rcases h with ⟨wt, t, h3, h4, rfl, rfl⟩ | ⟨h3, rfl⟩
  · have hw := foldT_w h4
    have h5 := width_tree hw (by omega)
    rcases h2 with ⟨w2, t2, -, h7, h8, rfl⟩ | ⟨h6, -⟩
    · obtain rfl := flat_inj hw h7 h8
      rw [foldT_twice]
    · rw [h5] at h6; cases h6
  · rcases h2 with ⟨w2, t2, h6, -⟩ | ⟨-, rfl⟩
    · rw [h3] at h6; cases h6
    · rfl

set_option maxRecDepth 100000 in
set_option maxHeartbeats 3200000 in
theorem code_any (s : PgS) (p : Prg) (act : Int) (c : List Nod) (cp : Option Addr) (cn cc : Nat) (w : World) (hp : PgOk w s p) (hc : CRow w (.slice cp cn cc) c) (hl : c.length ≤ 500) :
    Calls Try.prog 6 #[pgV s, .int .i64 act, .slice cp cn cc] w fun e w' => (∃ r v, e = .returned v ∧ CodeR p act c r ∧ CO w.heap.size w' v r) ∧ Below w.heap.size w w' := by
  have hcn : cn ≤ 6000 := by have := hc.ln.1; omega
  have HWD : Hid (∀ W, Below w.heap.size w W → Calls Try.prog 10 #[pgV s, .int .i64 act, .slice cp cn cc] W fun e w' => e = .returned (wRes (widthP p act c)) ∧ Below W.heap.size W w') := fun W h => lwidth_any s p act c cp cn cc W (hp.below h) (hc.below keepNd h) hcn
  have HCL : Hid (∀ W, Below w.heap.size w W → Calls Try.prog 11 #[.slice cp cn cc] W fun e w' => ∃ v', e = .returned v' ∧ CO W.heap.size w' v' c ∧ Below W.heap.size W w') := fun W h => cloneC_any c _ W (hc.below keepNd h) (by omega)
  have HFD : Hid (∀ W wt, Below w.heap.size w W → widthP p act c = some wt → Calls Try.prog 12 #[.slice cp cn cc] W fun e w' => (∃ t, c = t.flat ∧ WTr p act t wt ∧ ∃ v, e = .returned v ∧ CO W.heap.size w' v (foldT t).flat) ∧ Below W.heap.size W w') := fun W wt h hw => folded_any c cp cn cc W (hc.below keepNd h) hw hl
  clear hp hc hl
  unfold pgV at HWD ⊢
  obtain ⟨q, hq⟩ : ∃ q, q = widthP p act c := ⟨_, rfl⟩
  rw [← hq] at HWD
  have HQ := Lib.hid hq
  clear hq
  go_enter Try.func6, Try.ntmps6
  go_upto_region 1 with fail
  obtain ⟨W0, hW0⟩ : ∃ W0, W0 = w.alloc (.cells #[.slice s.hp s.hn s.hc, .slice s.mp s.mn s.mc, .slice s.sp s.sn s.sc, .slice s.ap s.an s.ac, .slice s.tp s.tn s.tc, .slice s.cp s.cn s.cc, .slice s.ep s.en s.ec, .slice s.v1 s.n1 s.c1, .slice s.v2 s.n2 s.c2, .slice s.v3 s.n3 s.c3, .slice s.v4 s.n4 s.c4, .slice s.v5 s.n5 s.c5] 33) := ⟨_, rfl⟩
  have HB0 : Hid (Below w.heap.size w W0) := by show Below _ _ _; rw [hW0]; exact (by repeat (first | exact Below.refl _ _ | assumption | refine Below.drew ?_ | refine Below.alloc ?_ (by first | omega | (simp <;> omega)) _ | refine Below.setCell ?_ (by first | omega | (simp <;> omega)) _ | refine Below.trans ?_ (Below.mono (by assumption) (by first | omega | (simp <;> omega)))))
  have HPB : Hid (PBox W0 w.heap.size s) := by show _ = _; rw [hW0]; exact heap_new _ _
  rw [← hW0]
  clear hW0
  obtain ⟨q0, q1, q2, q3, q4, q5, q6, q7, q8, q9, q10, q11⟩ := HPB.out.cells
  cases q with
  | none =>
    go_wp2_with (first
      | (go_at_call 10; refine (HWD.out _ HB0.out).mono ?_; rintro e w2 ⟨rfl, g2⟩; unfold wRes; have HE2 : Hid (Below w.heap.size w w2) := HB0.out.trans (g2.mono HB0.out.size); clear g2)
      | (go_at_call 11; refine (HCL.out _ HE2.out).mono ?_; rintro e w3 ⟨v', rfl, g1, g2⟩; have HC3 := Lib.hid g1; have HE3 : Hid (Below w.heap.size w w3) := HE2.out.trans (g2.mono HE2.out.size); clear g1 g2))
    go_ret
    exact ⟨⟨c, _, rfl, .inr ⟨HQ.out.symm, rfl⟩, HC3.out.mono HE2.out.size⟩, HE3.out⟩
  | some wt =>
    go_wp2_with (first
      | (go_at_call 10; refine (HWD.out _ HB0.out).mono ?_; rintro e w2 ⟨rfl, g2⟩; unfold wRes; have HE2 : Hid (Below w.heap.size w w2) := HB0.out.trans (g2.mono HB0.out.size); clear g2)
      | (go_at_call 12; refine (HFD.out _ wt HE2.out HQ.out.symm).mono ?_; rintro e w3 ⟨⟨t, g0, gt, v', rfl, g1⟩, g2⟩; have HC3 := Lib.hid g1; have HGT := Lib.hid (And.intro g0 gt); have HE3 : Hid (Below w.heap.size w w3) := HE2.out.trans (g2.mono HE2.out.size); clear g0 gt g1 g2))
    go_ret
    exact ⟨⟨_, _, rfl, .inl ⟨wt, t, HQ.out.symm, HGT.out.2, HGT.out.1, rfl⟩, HC3.out.mono HE2.out.size⟩, HE3.out⟩

theorem neq_nodF (a b c d e f : Int) (W : World) : (Go.binOp .neq 61 (.agg #[.int .u8 a, .int .i64 b, .int .i64 c, .int .i64 d, .int .u64 e, .int .u64 f]) (.agg #[.int .u8 a, .int .i64 b, .int .i64 c, .int .i64 d, .int .u64 e, .int .u64 f])).run Try.prog W = .ok (.bool false) W := by
  simp [go_sem]
set_option maxRecDepth 100000 in
set_option maxHeartbeats 4000000 in
theorem sameC_any (u v : Value) (l : List Nod) (w : World) (hu : CRow w u l) (hv : CRow w v l) (hl : l.length ≤ 1000000) : Calls Try.prog 7 #[u, v] w fun r w' => r = .returned (.bool true) ∧ Below w.heap.size w w' := by
  obtain ⟨pu, cu, rfl, -⟩ := hu.shape
  obtain ⟨pv, cv, rfl, -⟩ := hv.shape
  have HU := Lib.hid hu
  have HV := Lib.hid hv
  clear hu hv
  go_enter Try.func7, Try.ntmps7
  go_wp2_with fail
  go_loopw [5] (fun i wr => ∃ k : Nat, k ≤ l.length ∧ i = .int .i64 (k : Int) ∧ Hid (Below w.heap.size w wr)) (fun i _ => l.length - (intOf i).toNat)
  case atStart => exact ⟨0, Nat.zero_le _, rfl, Below.refl _ _⟩
  case round =>
    obtain ⟨k, hk, rfl, HB⟩ := hrel
    by_cases hlt : k < l.length
    · obtain ⟨n, hn⟩ : ∃ n, l[k]? = some n := ⟨_, List.getElem?_eq_getElem hlt⟩
      obtain ⟨b0, o0, he0, hb0, c0, c1, c2, c3, -, c4, c5⟩ := (HU.out.below keepNd HB.out).get hn
      obtain ⟨b1, o1, he1, hb1, d0, d1, d2, d3, -, d4, d5⟩ := (HV.out.below keepNd HB.out).get hn
      subst he0
      subst he1
      obtain ⟨op, wi, na, nb, nv⟩ := n
      dsimp only at c0 c1 c2 c3 c4 c5 d0 d1 d2 d3 d4 d5
      generalize ((nv / B : Nat) : Int) = hi at *
      generalize ((nv % B : Nat) : Int) = lo at *
      have c6 : wr.cell? ⟨b0, o0 + k * 6 + 5, none⟩ = some (.int .u64 lo) := c5
      have d6 : wr.cell? ⟨b1, o1 + k * 6 + 5, none⟩ = some (.int .u64 lo) := d5
      have q := neq_nodF op wi na nb hi lo
      clear c5 d5 hn
      have hki : (k : Int) < (l.length : Int) := by omega
      go_wp2_with fail
      go_region
      go_wp2_with fail
      exact ⟨⟨k + 1, hlt, rfl, below_drewN HB.out 1⟩, by simp only [intOf]; omega⟩
    · obtain rfl : k = l.length := by omega
      go_wp2_with fail
      go_ret
      exact ⟨rfl, HB.out⟩

end Go.Proofs.Ytehcclcokgmplaa

/-
  Layer 35: the page's examples.
-/
namespace Go.Proofs.Ytehcclcokgmplaa
open Go.RowKit Go.Maps

def portN : Nod := ⟨5, 9, 0, 0, 0⟩
def k35a : List Nod := [portN, ⟨1, 9, 0, 0, 0⟩, ⟨11, 9, 0, 0, 0⟩]
def k35b : List Nod := [⟨1, 4, 0, 0, 3⟩, ⟨1, 4, 0, 0, 5⟩, ⟨12, 4, 0, 0, 0⟩]
def k35c : Nod := ⟨1, 4, 0, 0, 14⟩
theorem k35a_cells : k35a.flatMap ndE = [.int .u8 5, .int .i64 9, .int .i64 0, .int .i64 0, .int .u64 0, .int .u64 0, .int .u8 1, .int .i64 9, .int .i64 0, .int .i64 0, .int .u64 0, .int .u64 0, .int .u8 11, .int .i64 9, .int .i64 0, .int .i64 0, .int .u64 0, .int .u64 0] := by simp [k35a, portN, ndE]
theorem k35b_cells : k35b.flatMap ndE = [.int .u8 1, .int .i64 4, .int .i64 0, .int .i64 0, .int .u64 0, .int .u64 3, .int .u8 1, .int .i64 4, .int .i64 0, .int .i64 0, .int .u64 0, .int .u64 5, .int .u8 12, .int .i64 4, .int .i64 0, .int .i64 0, .int .u64 0, .int .u64 0] := by simp [k35b, ndE, B]
theorem port_cells : [portN].flatMap ndE = [.int .u8 5, .int .i64 9, .int .i64 0, .int .i64 0, .int .u64 0, .int .u64 0] := by simp [portN, ndE]
theorem k35c_cells : [k35c].flatMap ndE = [.int .u8 1, .int .i64 4, .int .i64 0, .int .i64 0, .int .u64 0, .int .u64 14] := by simp [k35c, ndE, B]
theorem small_cds {l : List Nod} (h : ∀ n ∈ l, n.v < 100) : Cds l := fun n hn => Nat.lt_trans (h n hn) (by decide)
theorem code_row {W : World} {g : Nat} {cs : Array Value} {l : List Nod} (hv : Cds l) (hg : W.heap[g]? = some (.cells cs 61 (0, 0))) (hc : l.flatMap ndE = cs.toList) (hn : l.length ≤ 1000) : CRow W (.slice (some ⟨g, 0, none⟩) l.length l.length) l := by
  have hsz : cs.size = l.length * 6 := by
    have h1 := congrArg List.length hc
    rw [flat_len flatNd.len] at h1
    have h2 : cs.toList.length = cs.size := Array.length_toList
    omega
  refine CO.row (base := 0) ⟨⟨flat_len flatNd.len l, .inr ⟨g, l.length, cs, rfl, Nat.zero_le _, hg, Nat.le_refl _, by unfold maxLen; omega, hsz, ?_⟩⟩, hv⟩
  rw [← hsz, hc]
  exact List.take_of_length_le (by rw [Array.length_toList]; exact Nat.le_refl _)
theorem typed_a : WTr p0 (-1) (.bin ⟨11, 9, 0, 0, 0⟩ (.leaf portN) (.leaf ⟨1, 9, 0, 0, 0⟩)) 9 :=
  .bin ⟨11, 9, 0, 0, 0⟩ _ _ 9 9 (by decide) (by unfold isUn; decide) (.leaf portN (by decide) (by decide) (by decide +kernel) (by decide)) (.leaf ⟨1, 9, 0, 0, 0⟩ (by decide) (by decide) (by decide +kernel) (by decide)) rfl (by decide +kernel) (by decide)
theorem typed_b : WTr p0 (-1) (.bin ⟨12, 4, 0, 0, 0⟩ (.leaf ⟨1, 4, 0, 0, 3⟩) (.leaf ⟨1, 4, 0, 0, 5⟩)) 4 :=
  .bin ⟨12, 4, 0, 0, 0⟩ _ _ 4 4 (by decide) (by unfold isUn; decide) (.leaf ⟨1, 4, 0, 0, 3⟩ (by decide) (by decide) (by decide +kernel) (by decide)) (.leaf ⟨1, 4, 0, 0, 5⟩ (by decide) (by decide) (by decide +kernel) (by decide)) rfl (by decide +kernel) (by decide)
theorem codeR_tree {p : Prg} {act wt : Int} {t : Tr} {r : List Nod} (ht : WTr p act t wt) (hl : t.flat.length ≤ 65536) (h : CodeR p act t.flat r) : r = (foldT t).flat := by
  rcases h with ⟨w2, t2, -, h2, h3, rfl⟩ | ⟨h1, -⟩
  · obtain rfl := flat_inj ht h2 h3
    rfl
  · rw [width_tree ht hl] at h1; cases h1
theorem fold_a {r : List Nod} (h : CodeR p0 (-1) k35a r) : r = [portN] := (codeR_tree typed_a (by decide) h).trans (by decide +kernel)
theorem fold_b {r : List Nod} (h : CodeR p0 (-1) k35b r) : r = [k35c] := (codeR_tree typed_b (by decide) h).trans (by decide +kernel)
theorem pg0 (W : World) : PgOk W s0P p0 := ⟨RowAt.nil, RowAt.nil, RowAt.nil, RowAt.nil, RowAt.nil, RowAt.nil, RowAt.nil, RowAt.nil, RowAt.nil, RowAt.nil, RowAt.nil, RowAt.nil⟩

set_option maxRecDepth 100000 in
set_option maxHeartbeats 1600000 in
theorem c35_any (n : Int) (w : World) : Calls Try.prog 9 #[.int .u64 n] w fun e w' => e = .returned (.agg #[.int .u8 1, .int .i64 4, .int .i64 0, .int .i64 0, .int .u64 0, .int .u64 n]) ∧ Below w.heap.size w w' := by
  go_enter Try.func9, Try.ntmps9
  go_wp2_with fail
  refine bodyPost_ret (v := .agg #[.int .u8 1, .int .i64 4, .int .i64 0, .int .i64 0, .int .u64 0, .int .u64 n]) (by simp [results, Try.results9, go_sem]) rfl ⟨rfl, ?_⟩
  exact (by repeat (first | exact Below.refl _ _ | assumption | refine Below.drew ?_ | refine Below.alloc ?_ (by first | omega | (simp <;> omega)) _ | refine Below.setCell ?_ (by first | omega | (simp <;> omega)) _ | refine Below.trans ?_ (Below.mono (by assumption) (by first | omega | (simp <;> omega)))))

end Go.Proofs.Ytehcclcokgmplaa

/-
  Layer 35: the page's examples hold.
-/
namespace Go.Proofs.Ytehcclcokgmplaa
open Go.RowKit Go.Maps

abbrev ca : Array Value := #[.int .u8 5, .int .i64 9, .int .i64 0, .int .i64 0, .int .u64 0, .int .u64 0, .int .u8 1, .int .i64 9, .int .i64 0, .int .i64 0, .int .u64 0, .int .u64 0, .int .u8 11, .int .i64 9, .int .i64 0, .int .i64 0, .int .u64 0, .int .u64 0]
abbrev cb : Array Value := #[.int .u8 1, .int .i64 4, .int .i64 0, .int .i64 0, .int .u64 0, .int .u64 3, .int .u8 1, .int .i64 4, .int .i64 0, .int .i64 0, .int .u64 0, .int .u64 5, .int .u8 12, .int .i64 4, .int .i64 0, .int .i64 0, .int .u64 0, .int .u64 0]
theorem code_a (W : World) (g : Nat) (hg : W.heap[g]? = some (.cells ca 61 (0, 0))) : Calls Try.prog 6 #[.agg #[.slice none 0 0, .slice none 0 0, .slice none 0 0, .slice none 0 0, .slice none 0 0, .slice none 0 0, .slice none 0 0, .slice none 0 0, .slice none 0 0, .slice none 0 0, .slice none 0 0, .slice none 0 0], .int .i64 (-1), .slice (some ⟨g, 0, none⟩) 3 3] W fun e w' => (∃ p c, e = .returned (.slice p 1 c) ∧ CRow w' (.slice p 1 c) [portN]) ∧ Below W.heap.size W w' :=
  (code_any s0P p0 (-1) k35a (some ⟨g, 0, none⟩) 3 3 W (pg0 W) (code_row (l := k35a) (small_cds (by decide)) hg k35a_cells (by decide)) (by decide)).mono fun e w' ⟨⟨r, v, h1, h2, h3⟩, h4⟩ => by
    obtain rfl := fold_a h2
    obtain ⟨p, c, rfl⟩ := h3.shape
    exact ⟨⟨p, c, h1, h3.row⟩, h4⟩
theorem code_b (W : World) (g : Nat) (hg : W.heap[g]? = some (.cells cb 61 (0, 0))) : Calls Try.prog 6 #[.agg #[.slice none 0 0, .slice none 0 0, .slice none 0 0, .slice none 0 0, .slice none 0 0, .slice none 0 0, .slice none 0 0, .slice none 0 0, .slice none 0 0, .slice none 0 0, .slice none 0 0, .slice none 0 0], .int .i64 (-1), .slice (some ⟨g, 0, none⟩) 3 3] W fun e w' => (∃ p c, e = .returned (.slice p 1 c) ∧ CRow w' (.slice p 1 c) [k35c]) ∧ Below W.heap.size W w' :=
  (code_any s0P p0 (-1) k35b (some ⟨g, 0, none⟩) 3 3 W (pg0 W) (code_row (l := k35b) (small_cds (by decide)) hg k35b_cells (by decide)) (by decide)).mono fun e w' ⟨⟨r, v, h1, h2, h3⟩, h4⟩ => by
    obtain rfl := fold_b h2
    obtain ⟨p, c, rfl⟩ := h3.shape
    exact ⟨⟨p, c, h1, h3.row⟩, h4⟩
theorem same_port (W : World) (u : Value) (g : Nat) (hu : CRow W u [portN]) (hg : W.heap[g]? = some (.cells #[.int .u8 5, .int .i64 9, .int .i64 0, .int .i64 0, .int .u64 0, .int .u64 0] 61 (0, 0))) : Calls Try.prog 7 #[u, .slice (some ⟨g, 0, none⟩) 1 1] W fun r w' => r = .returned (.bool true) ∧ Below W.heap.size W w' :=
  sameC_any u _ [portN] W hu (code_row (l := [portN]) (small_cds (by decide)) hg port_cells (by decide)) (by decide)
theorem same_c (W : World) (u : Value) (g : Nat) (hu : CRow W u [k35c]) (hg : W.heap[g]? = some (.cells #[.int .u8 1, .int .i64 4, .int .i64 0, .int .i64 0, .int .u64 0, .int .u64 14] 61 (0, 0))) : Calls Try.prog 7 #[u, .slice (some ⟨g, 0, none⟩) 1 1] W fun r w' => r = .returned (.bool true) ∧ Below W.heap.size W w' :=
  sameC_any u _ [k35c] W hu (code_row (l := [k35c]) (small_cds (by decide)) hg k35c_cells (by decide)) (by decide)

set_option maxRecDepth 100000 in
set_option maxHeartbeats 3200000 in
theorem known35_true (w : World) : Calls Try.prog 5 #[] w fun e w' => e = .returned (.bool true) ∧ Below w.heap.size w w' := by
  go_enter Try.func5, Try.ntmps5
  go_upto_region 3 with fail
  obtain ⟨W1, hW1⟩ : ∃ W1, W1 = (w.alloc (.cells #[.int .u8 5, .int .i64 9, .int .i64 0, .int .i64 0, .int .u64 0, .int .u64 0] 61)).alloc (.cells #[.int .u8 1, .int .i64 9, .int .i64 0, .int .i64 0, .int .u64 0, .int .u64 0] 61) := ⟨_, rfl⟩
  have HE1 : Hid (Below w.heap.size w W1) := by show Below _ _ _; rw [hW1]; exact (by repeat (first | exact Below.refl _ _ | assumption | refine Below.drew ?_ | refine Below.alloc ?_ (by first | omega | (simp <;> omega)) _ | refine Below.setCell ?_ (by first | omega | (simp <;> omega)) _ | refine Below.trans ?_ (Below.mono (by assumption) (by first | omega | (simp <;> omega)))))
  have hs : w.heap.size < W1.heap.size := by rw [hW1]; simp; omega
  have HR1 : Hid (∀ W, Below W1.heap.size W1 W → W.cell? ⟨w.heap.size, 0, none⟩ = some (.int .u8 5) ∧ W.cell? ⟨w.heap.size, 1, none⟩ = some (.int .i64 9) ∧ W.cell? ⟨w.heap.size, 2, none⟩ = some (.int .i64 0) ∧ W.cell? ⟨w.heap.size, 3, none⟩ = some (.int .i64 0) ∧ W.cell? ⟨w.heap.size, 4, none⟩ = some (.int .u64 0) ∧ W.cell? ⟨w.heap.size, 5, none⟩ = some (.int .u64 0)) := fun W h => by
    refine ⟨(h.cell (p := ⟨w.heap.size, 0, none⟩) hs).trans ?_, (h.cell (p := ⟨w.heap.size, 1, none⟩) hs).trans ?_, (h.cell (p := ⟨w.heap.size, 2, none⟩) hs).trans ?_, (h.cell (p := ⟨w.heap.size, 3, none⟩) hs).trans ?_, (h.cell (p := ⟨w.heap.size, 4, none⟩) hs).trans ?_, (h.cell (p := ⟨w.heap.size, 5, none⟩) hs).trans ?_⟩
    all_goals (rw [hW1]; go_simp)
  have z0 : W1.cell? ⟨w.heap.size + 1, 0, none⟩ = some (.int .u8 1) ∧ W1.cell? ⟨w.heap.size + 1, 1, none⟩ = some (.int .i64 9) ∧ W1.cell? ⟨w.heap.size + 1, 2, none⟩ = some (.int .i64 0) ∧ W1.cell? ⟨w.heap.size + 1, 3, none⟩ = some (.int .i64 0) ∧ W1.cell? ⟨w.heap.size + 1, 4, none⟩ = some (.int .u64 0) ∧ W1.cell? ⟨w.heap.size + 1, 5, none⟩ = some (.int .u64 0) := by
    rw [hW1]
    refine ⟨?_, ?_, ?_, ?_, ?_, ?_⟩ <;> go_simp
  obtain ⟨z0, z1, z2, z3, z4, z5⟩ := z0
  rw [← hW1]
  clear hW1
  obtain ⟨r0, r1, r2, r3, r4, r5⟩ := HR1.out W1 (Below.refl _ _)
  go_upto_region 4 with (go_at_call 6; refine (code_a (W1.alloc (.cells ca 61)) W1.heap.size (heap_new _ _)).mono ?_; rintro e w2 ⟨⟨p1, c1, rfl, g1⟩, g2⟩; have HX := Lib.hid g1; have HB2 : Hid (Below W1.heap.size W1 w2) := ((Below.refl _ _).alloc (Nat.le_refl _) _).trans (g2.mono (by simp)); clear g1 g2)
  clear r0 r1 r2 r3 r4 r5 z0 z1 z2 z3 z4 z5
  go_upto_region 5 with (first
    | (go_at_call_of 9 (Value.int IntKind.u64 3); refine (c35_any 3 w2).mono ?_; rintro e w3 ⟨rfl, g2⟩; have HB3 := Lib.hid g2; clear g2)
    | (go_at_call_of 9 (Value.int IntKind.u64 5); refine (c35_any 5 w3).mono ?_; rintro e w4 ⟨rfl, g2⟩; have HB4 := Lib.hid g2; clear g2)
    | (go_at_call 6; refine (code_b (w4.alloc (.cells cb 61)) w4.heap.size (heap_new _ _)).mono ?_; rintro e w5 ⟨⟨p2, c2, rfl, g1⟩, g2⟩; have HY := Lib.hid g1; have HB5 : Hid (Below w4.heap.size w4 w5) := ((Below.refl _ _).alloc (Nat.le_refl _) _).trans (g2.mono (by simp)); clear g1 g2))
  have HB25 : Hid (Below w2.heap.size w2 w5) := HB3.out.trans ((HB4.out.trans (HB5.out.mono HB4.out.size)).mono HB3.out.size)
  have HX5 : Hid (∀ W, Below w5.heap.size w5 W → CRow W (.slice p1 1 c1) [portN]) := fun W h => (HX.out.below keepNd HB25.out).below keepNd h
  have HY5 : Hid (∀ W, Below w5.heap.size w5 W → CRow W (.slice p2 1 c2) [k35c]) := fun W h => HY.out.below keepNd h
  have HE5 : Hid (Below w.heap.size w w5) := HE1.out.trans ((HB2.out.trans (HB25.out.mono HB2.out.size)).mono HE1.out.size)
  obtain ⟨r0, r1, r2, r3, r4, r5⟩ := HR1.out w5 (HB2.out.trans (HB25.out.mono HB2.out.size))
  clear HR1 HX HY HB3 HB4 HB5 HB25 HB2
  go_wp2_with (first
    | (go_at_call_of 9 (Value.int IntKind.u64 14); refine (c35_any 14 w6).mono ?_; rintro e w7 ⟨rfl, g2⟩; have HB7 : Hid (Below w5.heap.size w5 w7) := HB6.out.trans (g2.mono HB6.out.size); clear g2)
    | (go_at_call 7; (with_reducible refine (same_port (w5.alloc (.cells #[.int .u8 5, .int .i64 9, .int .i64 0, .int .i64 0, .int .u64 0, .int .u64 0] 61)) (.slice p1 1 c1) w5.heap.size (HX5.out _ ((Below.refl _ _).alloc (Nat.le_refl _) _)) (heap_new _ _)).mono ?_); rintro e w6 ⟨rfl, g2⟩; have HB6 : Hid (Below w5.heap.size w5 w6) := ((Below.refl _ _).alloc (Nat.le_refl _) _).trans (g2.mono (by simp)); clear g2)
    | (go_at_call 7; (with_reducible refine (same_c (w7.alloc (.cells #[.int .u8 1, .int .i64 4, .int .i64 0, .int .i64 0, .int .u64 0, .int .u64 14] 61)) (.slice p2 1 c2) w7.heap.size (HY5.out _ (HB7.out.alloc HB7.out.size _)) (heap_new _ _)).mono ?_); rintro e w8 ⟨rfl, g2⟩; have HB8 : Hid (Below w5.heap.size w5 w8) := (HB7.out.alloc HB7.out.size _).trans (g2.mono (by have := HB7.out.size; simp; omega)); clear g2))
  go_ret
  exact ⟨rfl, HE5.out.trans (HB8.out.mono HE5.out.size)⟩

end Go.Proofs.Ytehcclcokgmplaa

/-
  Lemmas, joined: TabT, OpenG, OpenT.
-/
import Derived.Test.YtnknpgfconfgjaaJF06
import Derived.Test.YtnknpgfconfgjaaRows
import Derived.WalkKit
import Derived.ProofKit
import Derived.OpenShut
import Derived.ChangeOld
import Derived.Below
import Derived.Deep.Slices
import Derived.Test.YtnknpgfconfgjaaJF01
/-
  The law TableFirst walked.
-/
namespace Go.Proofs.Ytnknpgfconfgjaa
open Go.RowKit Go.Maps Stab

theorem zeroInt (w : World) : (zeroValue 3).run Try.prog w = .ok (.int .i64 0) w := by kernel_rfl
theorem intK : Keyed Try.prog 3 := int_keyed Try.underlying3

set_option maxRecDepth 100000 in
set_option maxHeartbeats 12000000 in
theorem first_any (l : List Ent) (tab : Int) (ks : List Nat) (lv kv : Value) (w : World) (hl : ERow w lv l) (hk : NRow w kv ks) :
    Calls Try.prog 5 #[lv, .int .i64 tab, kv] w fun e w' => e = .returned (.bool true) ∧ Below w.heap.size w w' := by
  obtain ⟨la, lc, rfl, hc1, hc2⟩ := hl.shape
  obtain ⟨ka, kc, rfl, kc1, kc2⟩ := hk.shape
  have HKN := Lib.hid known20_true
  have HL := Lib.hid hl
  have HK := Lib.hid hk
  obtain ⟨n, hnn⟩ : ∃ n, n = l.length := ⟨_, rfl⟩
  rw [← hnn] at hc1 HL ⊢
  have HN := Lib.hid hnn
  have hcz : (n : Int) ≤ (lc : Int) := by omega
  clear hl hk hnn
  unfold maxLen at hc2 kc2
  have HGR : Hid (Calls Try.prog 13 #[.slice la n lc] w (RetGreat l w)) := great_any l _ w HL.out
  have hmm := @run_makeMap Try.prog
  go_enter Try.func5, Try.ntmps5
  go_wp2_with fail
  refine HGR.out.mono ?_
  rintro e w1 ⟨b, rfl, hgr, hb1⟩
  have HB1 := Lib.hid hb1
  have HGT := Lib.hid hgr
  clear hgr hb1 HGR
  cases b
  rotate_left
  · go_wp2_with fail
    refine (HKN.out _).mono ?_
    rintro e w2 ⟨rfl, hb2⟩
    have HB2 := Lib.hid (HB1.out.trans (hb2.mono HB1.out.size))
    clear hb2
    go_wp2_with fail
    go_ret
    exact ⟨rfl, HB2.out⟩
  by_cases hk10 : 10 < ks.length
  · go_wp2_with fail
    refine (HKN.out _).mono ?_
    rintro e w2 ⟨rfl, hb2⟩
    have HB2 := Lib.hid (HB1.out.trans (hb2.mono HB1.out.size))
    clear hb2
    go_wp2_with fail
    go_ret
    exact ⟨rfl, HB2.out⟩
  obtain ⟨hf, hn40⟩ := HGT.out (by trivial)
  have HF := Lib.hid hf
  clear hf HGT
  rw [← HN.out] at hn40
  have hdk : decide ((10 : Int) < (ks.length : Int)) = false := decide_eq_false (by omega)
  go_wp2_with fail
  clear hdk hk10
  go_loopw [7, 9, 27] (fun v u i wr => ∃ k : Nat, k ≤ n ∧ i = .int .i64 k ∧ Hid (OwnE w wr w1.heap.size v (ownOf l tab k)) ∧ Hid (Below w1.heap.size w1 wr)) (fun _ _ i _ => n - (intOf i).toNat)
  case atStart => exact ⟨0, Nat.zero_le _, rfl, ⟨[], rfl, fun j x c h => by simp [ownOf, sel] at h, World.ownsRow_nil _ _ _ _⟩, Below.refl _ _⟩
  case round =>
    obtain ⟨k, hk, rfl, HO, HW⟩ := hrel
    by_cases hlt : k < n
    · obtain ⟨lb, lo, lc', he, hlb, hek⟩ := (HL.out.below keepE (HB1.out.trans (HW.out.mono HB1.out.size))).at (eAt_nat l k (by have := HN.out; omega))
      simp only [Value.slice.injEq] at he
      obtain ⟨rfl, -, -⟩ := he
      obtain ⟨lb2, lo2, lc2', he2, hlb2, hek2⟩ := HL.out.at (eAt_nat l k (by have := HN.out; omega))
      simp only [Value.slice.injEq, Option.some.injEq, Addr.mk.injEq, and_true, true_and] at he2
      obtain ⟨⟨rfl, rfl⟩, -⟩ := he2
      obtain ⟨p1, n1, c1, r1, m1, d1, a0, a1, a2, a3, a4, a5, hp, hr⟩ := hek2.six
      have hbw := HB1.out.trans (HW.out.mono HB1.out.size)
      replace a0 := (hbw.cell (p := ⟨lb, lo + k * 6, none⟩) hlb2).trans a0
      replace a1 := (hbw.cell (p := ⟨lb, lo + k * 6 + 1, none⟩) hlb2).trans a1
      replace a2 := (hbw.cell (p := ⟨lb, lo + k * 6 + 2, none⟩) hlb2).trans a2
      replace a3 := (hbw.cell (p := ⟨lb, lo + k * 6 + 3, none⟩) hlb2).trans a3
      replace a4 := (hbw.cell (p := ⟨lb, lo + k * 6 + 4, none⟩) hlb2).trans a4
      replace a5 := (hbw.cell (p := ⟨lb, lo + k * 6 + 5, none⟩) hlb2).trans a5
      have HEC : Hid (EntC w [.int .i64 (eAt l k).tab, .slice p1 n1 c1, .int .i64 (eAt l k).len, .int .i64 (eAt l k).prio, .int .i64 (eAt l k).act, .slice r1 m1 d1] (eAt l k)) := ⟨_, _, _, _, _, _, rfl, hp, hr⟩
      have HYES : Hid ((eAt l k).tab = tab → ownOf l tab (k + 1) = ownOf l tab k ++ [eAt l k]) := ownOf_yes
      have HNO : Hid (¬ (eAt l k).tab = tab → ownOf l tab (k + 1) = ownOf l tab k) := ownOf_no
      obtain ⟨ls, g1, g2, g3⟩ := HO.out
      have HG12 := Lib.hid (And.intro g1 g2)
      have HOR := Lib.hid g3
      have hol : (ownOf l tab k).length ≤ 40 := by rw [ownOf_len]; have := sel_len l tab k; omega
      clear hek hek2 hp hr hbw g1 g2 g3
      generalize eAt l (k : Int) = x at *
      generalize ownOf l tab k = es at *
      obtain ⟨t1, xp, l1, q1, s1, xa⟩ := x
      dsimp only at *
      have z1 : (k : Int) < (n : Int) := by omega
      by_cases ht : t1 = tab
      · subst ht
        have HZ : Hid (w1.heap.size ≤ wr.heap.size) := HW.out.size
        have HS := Lib.hid (HYES.out rfl)
        go_wp2_with (at_builtin; refine append_gen elemEnt rfl (.tmp 35) (.tmp 37) rfl w1.heap.size u7 es.length ls.flatten rfl ((HOR.out.alloc _).alloc _) _ 1 [.int .i64 t1, .slice p1 n1 c1, .int .i64 l1, .int .i64 q1, .int .i64 s1, .slice r1 m1 d1] rfl (src_one (g := wr.heap.size + 1) rfl (fun u hu => by simp at hu; rcases hu with rfl | rfl | rfl | rfl | rfl | rfl <;> rfl) (fun j u hj => by match j, hj with | 0, hj => cases hj; simp [go_sem] | 1, hj => cases hj; simp [go_sem] | 2, hj => cases hj; simp [go_sem] | 3, hj => cases hj; simp [go_sem] | 4, hj => cases hj; simp [go_sem] | 5, hj => cases hj; simp [go_sem])) (by omega) (by unfold maxLen; omega) (by have := HZ.out; simp only [World.size_alloc]; omega) ?_; intro v' w' h1 h2; have HO2 := Lib.hid h1; have HW2 : Hid (Below w1.heap.size w1 w') := below_grown ((HW.out.alloc HZ.out _).alloc (by have := HZ.out; simp only [World.size_alloc]; omega) _) ((HOR.out.alloc _).alloc _) h2 (Nat.le_refl _) (by have := HZ.out; simp only [World.size_alloc]; omega); clear h1 h2)
        go_roundw
        case rel => exact ⟨k + 1, by omega, by go_num, by show OwnE _ _ _ _ _; rw [HS.out]; exact OwnE.snoc HG12.out.1 HG12.out.2 HEC.out HO2.out, HW2⟩
        case measure => simp [intOf]; omega
      · have hne : (t1 == tab) = false := by rw [beq_eq_false_iff_ne]; exact ht
        have HS := Lib.hid (HNO.out ht)
        have HO2 : ∀ o, Hid (OwnE w (wr.alloc o) w1.heap.size u7 (ownOf l tab (k + 1))) := fun o => by
          show OwnE _ _ _ _ _
          rw [HS.out]; exact ⟨ls, HG12.out.1, HG12.out.2, HOR.out.alloc _⟩
        have HW2 : ∀ o, Hid (Below w1.heap.size w1 (wr.alloc o)) := fun o => HW.out.alloc HW.out.size o
        go_wp2_with fail
        go_roundw
        case rel => exact ⟨k + 1, by omega, by go_num, HO2 _, HW2 _⟩
        case measure => simp [intOf]; omega
    · obtain rfl : k = n := by omega
      have HBW : Hid (Below w.heap.size w wr) := HB1.out.trans (HW.out.mono HB1.out.size)
      have HOW : Hid (ERow wr u7 (ownOf l tab k)) := HO.out.row HBW.out
      obtain ⟨oa, oc, hov, ho1, ho2⟩ := HOW.out.shape
      subst hov
      have HORD := Lib.hid (order_any l tab _ wr (HL.out.below keepE HBW.out) (by rw [← HN.out]; exact hn40))
      have HOLN : Hid ((ownOf l tab k).length = (sel l tab l.length).length) := by show _ = _; rw [ownOf_len, HN.out]
      obtain ⟨q, hq⟩ : ∃ q, q = (ownOf l tab k).length := ⟨_, rfl⟩
      rw [← hq] at HOW HOLN ho1 ⊢
      have HQ := Lib.hid hq
      have HO1 : Hid (ERow wr (.slice oa q oc) (ownOf l tab l.length)) := by
        have h1 := HOW.out
        have h2 := HN.out
        rw [h2] at h1
        exact h1
      have hq40 : q ≤ 40 := by rw [hq, ownOf_len]; have := sel_len l tab k; omega
      have HQL : Hid ((ownOf l tab l.length).length ≤ 40) := by show _ ≤ _; rw [ownOf_len, ← HOLN.out]; exact hq40
      clear hq HO HOW
      go_wp2_with fail
      refine HORD.out.mono ?_
      rintro e w2 ⟨v, xs, rfl, hx, ho, hb2⟩
      obtain ⟨xa, xc, rfl, xc1, xc2, hxa⟩ := hx.shape
      have hxq : xs.length = q := ho.len.trans HOLN.out.symm
      rw [hxq] at xc1 ⊢
      have HXA := Lib.hid hxa
      have HOD := Lib.hid ho
      have HXQ := Lib.hid hxq
      have HB2 : Hid (Below w.heap.size w w2) := HBW.out.trans (hb2.mono HBW.out.size)
      have HO2 := Lib.hid (HO1.out.below keepE hb2)
      clear hx hxa ho hxq hb2 HORD HO1 HBW HW
      have HM0 : Hid ((w2.alloc (.map #[] 0)).ownsMap Try.prog 3 (plainElem Try.prog 3) w2.heap.size 0 (seenD xs 0)) := World.ownsMap_made _ _ _ _
      have hxz : (q : Int) ≤ (xc : Int) := by omega
      have hoz : (q : Int) ≤ (oc : Int) := by omega
      go_wp2_with fail
      go_loopw [12, 14, 46] (fun f u i wr => ∃ (k2 : Nat) (c : Int), k2 ≤ q ∧ i = .int .i64 k2 ∧ f = .int .i64 c ∧ Hid (FirstAt l tab ks xs k2 c) ∧ Hid (wr.ownsMap Try.prog 3 (plainElem Try.prog 3) w2.heap.size k2 (seenD xs k2)) ∧ Hid (Below w2.heap.size w2 wr)) (fun _ _ i _ => q - (intOf i).toNat)
      case atStart => exact ⟨0, -1, Nat.zero_le _, rfl, rfl, .inl ⟨rfl, fun j h => absurd h (Nat.not_lt_zero j)⟩, HM0.out, (Below.refl _ _).alloc (Nat.le_refl _) _⟩
      case round =>
        obtain ⟨k2, c, hk2, rfl, rfl, HFI, HMA, HW2⟩ := hrel
        have hbw := HB2.out.trans (HW2.out.mono HB2.out.size)
        by_cases hlt2 : k2 < q
        · have hmem : fnOf xs k2 ∈ xs := by rw [fnOf_at (by have := HXQ.out; omega)]; exact List.getElem_mem _
          have hme := HOD.out.mem.1 hmem
          obtain ⟨y, hy1, hy2⟩ : ∃ y : Nat, fnOf xs k2 = (y : Int) ∧ y < k := by
            have := HN.out
            exact ⟨(fnOf xs k2).toNat, by omega, by omega⟩
          rw [hy1] at hme
          obtain ⟨xb, xo, rfl, hxb, hxe⟩ := HXA.out (by have := HXQ.out; omega)
          have x0 := hxe k2 (by have := HXQ.out; omega)
          rw [← HW2.out.cell (p := ⟨xb, xo + k2, none⟩) hxb] at x0
          have e0 : xs.getD k2 0 = (y : Int) := hy1
          rw [e0] at x0
          obtain ⟨lb, lo, lc2, he2, hlb, hej⟩ := HL.out.at (eAt_nat l y (by have := HN.out; omega))
          simp only [Value.slice.injEq] at he2
          obtain ⟨rfl, -, -⟩ := he2
          obtain ⟨p1, n1, c1, r1, m1, d1, a0, a1, a2, a3, a4, a5, hp, hr⟩ := hej.six
          have hwf : (Lit.int .i64 (y : Int)).wf = true := by
            have h0 : IntKind.i64.min = -9223372036854775808 := by decide
            have h1 : IntKind.i64.max = 9223372036854775807 := by decide
            simp only [Lit.wf, Bool.and_eq_true, decide_eq_true_eq, h0, h1]
            omega
          have hkey : keyOf Try.prog 3 (.int .i64 (y : Int)) = some (.int .i64 (y : Int)) := keyOf_int_mk Try.underlying3 hwf
          obtain ⟨c0, hrun, hat, -⟩ := HMA.out.lookup_int intK Try.underlying67 Try.underlying3 (zeroInt _) hkey
          have hc0 : c0 = 0 := by
            rw [seen_not (fun j hj => by
              have := HOD.out.srt j k2 (Nat.zero_le _) hj (by have := HXQ.out; omega)
              rw [← hy1]
              intro e
              rw [e, (tot_ord l).irr] at this
              cases this)] at hat
            simpa using hat.symm
          subst hc0
          obtain ⟨w', hupd, hown', hgr'⟩ := HMA.out.update intK Try.underlying67 (by unfold maxLen; omega) hkey (plainElem_int (H := Unit) Try.underlying3 (a := 1) (by decide))
          have HMA2 : Hid (w'.ownsMap Try.prog 3 (plainElem Try.prog 3) w2.heap.size (k2 + 1) (seenD xs (k2 + 1))) := by
            show World.ownsMap _ _ _ _ _ _ _
            unfold seenD
            rw [hy1]; exact hown'
          have hb' : Below w2.heap.size w2 w' := HW2.out.grown hgr' HW2.out.size (fun j hj => by cases hj; exact Nat.le_refl _)
          have hbw' := HB2.out.trans (hb'.mono HB2.out.size)
          have t0 := (hbw.cell (p := ⟨lb, lo + y * 6, none⟩) hlb).trans a0
          replace a0 := (hbw'.cell (p := ⟨lb, lo + y * 6, none⟩) hlb).trans a0
          replace a1 := (hbw'.cell (p := ⟨lb, lo + y * 6 + 1, none⟩) hlb).trans a1
          replace a2 := (hbw'.cell (p := ⟨lb, lo + y * 6 + 2, none⟩) hlb).trans a2
          replace a3 := (hbw'.cell (p := ⟨lb, lo + y * 6 + 3, none⟩) hlb).trans a3
          replace a4 := (hbw'.cell (p := ⟨lb, lo + y * 6 + 4, none⟩) hlb).trans a4
          replace a5 := (hbw'.cell (p := ⟨lb, lo + y * 6 + 5, none⟩) hlb).trans a5
          obtain ⟨r, hr2⟩ : ∃ r, r = matB (eAt l y) tab ks := ⟨_, rfl⟩
          have hpl : (eAt l (y : Int)).pats.length ≤ 1000000 := by have := (HF.out y (by have := HN.out; omega)).1; omega
          have HC : Hid (Calls Try.prog 15 #[.agg #[.int .i64 (eAt l y).tab, .slice p1 n1 c1, .int .i64 (eAt l y).len, .int .i64 (eAt l y).prio, .int .i64 (eAt l y).act, .slice r1 m1 d1], .int .i64 tab, .slice ka ks.length kc] w' fun e w'' => e = .returned (.bool r) ∧ Below w'.heap.size w' w'') := by
            rw [hr2]; exact matches_any (eAt l y) tab ks _ _ w' ⟨_, _, rfl, hp.below keepP hbw', hr.below keepN hbw'⟩ (HK.out.below keepN hbw') hpl
          have HR : Hid (r = matB (eAt l (fnOf xs k2)) tab ks) := by show _ = _; rw [hr2, hy1]
          have HY : Hid (fnOf xs k2 = (y : Int)) := hy1
          have HB' := Lib.hid hb'
          have htab : (eAt l (y : Int)).tab = tab := hme.2.2
          rw [htab] at a0 t0 HC
          generalize (eAt l (y : Int)).len = l1 at *
          generalize (eAt l (y : Int)).prio = q1 at *
          generalize (eAt l (y : Int)).act = s1 at *
          have z1 : (k2 : Int) < (q : Int) := by omega
          have z2 : (y : Int) < (k : Int) := by omega
          have z3 : (0 : Int) ≤ (y : Int) := by omega
          clear hmem hme e0 hej hp hr hxe hwf hkey hat hown' hgr' hb' hbw' hr2 hpl htab hy1 hbw
          by_cases hcn : c < 0
          · have hcm : c = -1 := by
              rcases HFI.out with ⟨h, -⟩ | ⟨j, -, -, h, -⟩
              · exact h
              · omega
            subst hcm
            go_wp2_with fail
            refine HC.out.mono ?_
            rintro e w3 ⟨rfl, hb3⟩
            have HW3 : Hid (Below w2.heap.size w2 w3) := HB'.out.trans (hb3.mono HB'.out.size)
            have HMA3 : Hid (w3.ownsMap Try.prog 3 (plainElem Try.prog 3) w2.heap.size (k2 + 1) (seenD xs (k2 + 1))) := HMA2.out.kept ⟨hb3.os, hb3.tape, hb3.output, hb3.size, fun j hj _ => hb3.block j hj⟩ (row := none) (by simp)
            clear hb3 HC a0 a1 a2 a3 a4 a5 x0 t0 hrun hupd
            cases r
            · go_wp2_with fail
              go_roundw
              case rel => exact ⟨k2 + 1, -1, by omega, by go_num, rfl, HFI.out.no HR.out.symm, HMA3, HW3⟩
              case measure => simp [intOf]; omega
            · go_wp2_with fail
              go_roundw
              case rel => exact ⟨k2 + 1, y, by omega, by go_num, rfl, by rw [← HY.out]; exact HFI.out.yes (by rw [HY.out]; omega) HR.out.symm, HMA3, HW3⟩
              case measure => simp [intOf]; omega
          · have hdc : decide (c < 0) = false := decide_eq_false hcn
            clear HC
            go_wp2_with fail
            go_roundw
            case rel => exact ⟨k2 + 1, c, by omega, by go_num, rfl, HFI.out.had (by omega), HMA2, HB'⟩
            case measure => simp [intOf]; omega
        · obtain rfl : q = k2 := by omega
          have HBE : Hid (Best l tab ks l.length c) := by
            have := HFI.out
            rw [← HXQ.out] at this
            exact this.best HOD.out
          have HBW := Lib.hid hbw
          have hs2 := HW2.out.size
          have HO3 := Lib.hid (HO2.out.below keepE HW2.out)
          have HCH := Lib.hid (choose_any l tab ks _ _ wr (HL.out.below keepE HBW.out) (HK.out.below keepN HBW.out) (by rw [← HN.out]; exact hn40) HF.out)
          clear hbw HFI HMA HM0 HO2 hs2
          go_wp2_with fail
          refine HCH.out.mono ?_
          rintro e w3 ⟨c', rfl, hbest, hb3⟩
          obtain rfl := HBE.out.unique hbest
          have HB3 : Hid (Below w.heap.size w w3) := HBW.out.trans (hb3.mono HBW.out.size)
          have HO4 := Lib.hid (HO3.out.below keepE hb3)
          clear hbest hb3 HCH HBE HO3
          have HLO := Lib.hid (lookup_any l tab ks (-1) [] _ _ _ w3 (HL.out.below keepE HB3.out) (HK.out.below keepN HB3.out) RowAt.nil (by rw [← HN.out]; exact hn40) HF.out (by decide))
          go_wp2_with fail
          refine HLO.out.mono ?_
          rintro e w4 ⟨a, g, v, rfl, hlk, hown, hb4⟩
          obtain ⟨vp, vc, rfl⟩ := hown.shape
          have HLK := Lib.hid hlk
          have HB4 : Hid (Below w.heap.size w w4) := HB3.out.trans (hb4.mono HB3.out.size)
          have HLO2 := Lib.hid (lookup_any (ownOf l tab l.length) tab ks (-1) [] _ _ _ w4 (HO4.out.below keepE hb4) (HK.out.below keepN HB4.out) RowAt.nil HQL.out (few_own HF.out) (by decide))
          clear hlk hown hb4 HLO HO4
          go_wp2_with fail
          refine HLO2.out.mono ?_
          rintro e w5 ⟨b, h, v, rfl, hlk, hown, hb5⟩
          obtain ⟨up, uc, rfl⟩ := hown.shape
          obtain ⟨rfl, rfl⟩ := look_own HLK.out hlk
          have HB5 : Hid (Below w.heap.size w w5) := HB4.out.trans (hb5.mono HB4.out.size)
          clear hlk hown hb5 HLO2 HLK
          go_wp2_with fail
          refine (HKN.out _).mono ?_
          rintro e w6 ⟨rfl, hb6⟩
          have hb7 := (HB5.out.alloc HB5.out.size (.cells #[.int .i64 a, .slice vp g.length vc] 56)).alloc (HB5.out.alloc HB5.out.size _).size (.cells #[.int .i64 a, .slice up g.length uc] 56)
          have HB6 := Lib.hid (hb7.trans (hb6.mono hb7.size))
          clear hb6 hb7
          go_wp2_with fail
          go_ret
          exact ⟨rfl, HB6.out⟩

end Go.Proofs.Ytnknpgfconfgjaa

/-
  Opening a parameter: slices of any elements, structs by value, numbers.
-/
namespace Go.Proofs.Ytnknpgfconfgjaa
open Go.ChangeShapes Go.WideShapes Go.ChangeAt Go.RowKit Go.Deep

section
variable {H : Type} {enc : TypeId × Value → H} {w : World}

theorem u64_of_wf {n : Int} (h : (Lit.int IntKind.u64 n).wf = true) : ∃ k : Nat, n = (k : Int) ∧ k < 18446744073709551616 := by
  have h0 : IntKind.u64.min = 0 := by decide
  have h1 : IntKind.u64.max = 18446744073709551615 := by decide
  simp only [Lit.wf, Bool.and_eq_true, decide_eq_true_eq, h0, h1] at h
  obtain ⟨n, rfl⟩ := Int.eq_ofNat_of_zero_le h.1
  exact ⟨n, rfl, by omega⟩

/-- A struct's fields, one after the other. -/
theorem trod_field {t : TypeId} {fs : Array Field} {fuel : Nat} {cs : List Value} {x : DataW H × List MemPlace} (ht : Try.prog.underlying t = some (.struct fs)) (h : DataW.trod enc Try.prog w 0 (fun _ => true) true fuel t cs = some x)
    (i : Nat) (f : Field) (hf : fs[i]? = some f) (ty o c : Nat) (h1 : f.type = ty) (h2 : f.offset = o) (h3 : Try.prog.cellsOf ty = c) : ∃ n y, DataW.trod enc Try.prog w 0 (fun _ => true) true n ty ((cs.drop o).take c) = some y := by
  subst h1 h2 h3
  obtain ⟨xs, n, rfl, -, -, hl, hg⟩ := DataW.trod_struct ht h
  have hi : i < fs.size := (Array.getElem?_eq_some_iff.1 hf).1
  exact ⟨n, _, (hg i f hf).trans (List.getElem?_eq_getElem (by omega))⟩

theorem hadd0 (ab ao i : Nat) : (Addr.mk ab ao none).add i = ⟨ab, ao + i, none⟩ := by
  unfold Addr.add
  by_cases hi : i = 0 <;> simp [hi]

set_option maxRecDepth 100000 in
theorem open_rowAt {α : Type} {At : World → Nat → Nat → α → Prop} {t e : TypeId} {c : Nat} {fuel : Nat} {va : Value} {x : DataW H × List MemPlace} (d : α) (ht : Try.prog.underlying t = some (.slice e)) (hc : Try.prog.cellsOf e = c) (hc0 : 0 < c)
    (hel : ∀ (m b o : Nat) (cs : List Value) (y : DataW H × List MemPlace), cs.length = c → CellsAt w b o cs → DataW.trod enc Try.prog w 0 (fun _ => true) true m e cs = some y → ∃ x, At w b o x)
    (h : DataW.trod enc Try.prog w 0 (fun _ => true) true fuel t [va] = some x) : ∃ l, RowAt c At w va l := by
  subst hc
  rcases open_slice ht h with ⟨he, -⟩ | ⟨a, len, cap, m, n, D, Pl, he, -, hl, hm, hmm, hxx, hx⟩
  · simp only [List.cons.injEq, and_true] at he
    exact ⟨[], by rw [he]; exact RowAt.nil⟩
  simp only [List.cons.injEq, and_true] at he
  simp only [if_true] at hmm
  subst hmm he
  have key : ∀ j, j < len → ∃ cs y, cs.length = Try.prog.cellsOf e ∧ (∀ i, i < Try.prog.cellsOf e → w.cell? (a.add (j * Try.prog.cellsOf e + i)) = cs[i]?) ∧ DataW.trod enc Try.prog w 0 (fun _ => true) true n e cs = some y := by
    intro j hj
    obtain ⟨cs, hcs, htr⟩ := hx j (by omega)
    obtain ⟨-, hlen, hat⟩ := World.cells?_some hcs
    refine ⟨cs, _, hlen, fun i hi => ?_, htr⟩
    rw [← Go.Deep.add_add]; exact hat i hi
  by_cases h0 : 0 < len
  · obtain ⟨cs0, -, hl0, hc0', -⟩ := key 0 h0
    have c0 := hc0' 0 hc0
    rw [List.getElem?_eq_getElem (by omega), Nat.zero_mul, Nat.add_zero] at c0
    obtain ⟨ab, ao, asp⟩ := a
    have hsp : asp = none := (cell_there c0).2
    have hblk := (cell_there c0).1
    subst hsp
    rw [hadd0] at hblk
    have key2 : ∀ j, ∃ y : α, j < len → At w ab (ao + j * Try.prog.cellsOf e) y := by
      intro j
      by_cases hj : j < len
      · obtain ⟨cs, y, h1, h2, h3⟩ := key j hj
        obtain ⟨x, hx⟩ := hel n ab (ao + j * Try.prog.cellsOf e) cs y h1 (fun i v hi => by
          have hlt := (List.getElem?_eq_some_iff.1 hi).1
          have := h2 i (by omega)
          rw [hadd0] at this
          rw [Nat.add_assoc, this]; exact hi) h3
        exact ⟨x, fun _ => hx⟩
      · exact ⟨d, fun h => absurd h hj⟩
    obtain ⟨f, hf⟩ := Classical.axiomOfChoice key2
    refine ⟨(List.range len).map f, some ⟨ab, ao, none⟩, _, by simp, by simpa using hl, hm, (fun q => by cases q), fun _ => ⟨ab, ao, rfl, hblk, fun j x hj => ?_⟩⟩
    have hjl : j < len := by have := (List.getElem?_eq_some_iff.1 hj).1; simpa using this
    have : f j = x := by simpa [hjl] using hj
    rw [← this]; exact hf j hjl
  · obtain rfl : len = 0 := by omega
    exact ⟨[], some a, _, rfl, Nat.zero_le _, hm, (fun q => by cases q), fun h => absurd h (Nat.lt_irrefl 0)⟩

set_option maxRecDepth 100000 in
theorem slice_cells {t e : TypeId} {va : Value} {base : Nat} (ht : Try.prog.underlying t = some (.slice e)) (hv : Value.okWide Try.prog w .any base t va) : va.cells.toList = [va] := by
  simp only [Value.okWide, Cell.okWide, ht] at hv
  cases va <;> first | rfl | (simp [Cell.ok, ht] at hv)
end
end Go.Proofs.Ytnknpgfconfgjaa

/-
  Parameters of tables opened: entries, numbers, runs.
-/
namespace Go.Proofs.Ytnknpgfconfgjaa
open Go.ChangeShapes Go.WideShapes Go.ChangeAt Go.RowKit Go.Deep

section
variable {H : Type} {enc : TypeId × Value → H} {w : World}

set_option maxRecDepth 100000 in
theorem nAt_of_trod {m b o : Nat} {c0 c1 : Value} {y : DataW H × List MemPlace} (hc : CellsAt w b o [c0, c1]) (h : DataW.trod enc Try.prog w 0 (fun _ => true) true m 24 [c0, c1] = some y) : ∃ n, NAt w b o n := by
  obtain ⟨n0, y0, h0⟩ := trod_field Try.underlying24 h 0 _ rfl 22 0 1 rfl rfl (by kernel_rfl)
  obtain ⟨n1, y1, h1⟩ := trod_field Try.underlying24 h 1 _ rfl 22 1 1 rfl rfl (by kernel_rfl)
  obtain ⟨v0, e0, -, b0⟩ := DataW.trod_int Try.underlying22 h0
  obtain ⟨v1, e1, -, b1⟩ := DataW.trod_int Try.underlying22 h1
  simp only [List.drop_zero, List.take, List.drop] at e0 e1
  obtain ⟨k0, rfl, l0⟩ := u64_of_wf b0
  obtain ⟨k1, rfl, l1⟩ := u64_of_wf b1
  simp only [List.cons.injEq, and_true] at e0 e1
  subst e0 e1
  have hB : B = 18446744073709551616 := rfl
  rw [← hB] at l0 l1
  have hB0 : 0 < B := by decide
  have e1 : (k0 * B + k1) / B = k0 := by
    rw [Nat.mul_comm, Nat.mul_add_div hB0, Nat.div_eq_of_lt l1, Nat.add_zero]
  have e2 : (k0 * B + k1) % B = k1 := by
    rw [Nat.mul_comm, Nat.mul_add_mod, Nat.mod_eq_of_lt l1]
  refine ⟨k0 * B + k1, ?_, ?_, ?_⟩
  · have : (k0 + 1) * B ≤ B * B := Nat.mul_le_mul_right _ l0
    rw [Nat.succ_mul] at this
    omega
  · rw [e1]; exact hc 0 _ rfl
  · rw [e2]; exact hc 1 _ rfl
set_option maxRecDepth 100000 in
theorem pAt_of_trod {m b o : Nat} {c0 c1 c2 c3 : Value} {y : DataW H × List MemPlace} (hc : CellsAt w b o [c0, c1, c2, c3]) (h : DataW.trod enc Try.prog w 0 (fun _ => true) true m 85 [c0, c1, c2, c3] = some y) : ∃ n, PAt w b o n := by
  obtain ⟨n0, y0, h0⟩ := trod_field Try.underlying85 h 0 _ rfl 24 0 2 rfl rfl (by kernel_rfl)
  obtain ⟨n1, y1, h1⟩ := trod_field Try.underlying85 h 1 _ rfl 24 2 2 rfl rfl (by kernel_rfl)
  simp only [List.drop_zero, List.take, List.drop] at h0 h1
  obtain ⟨v, hv⟩ := nAt_of_trod (b := b) (o := o) (fun i u hi => hc i u (by
    match i, hi with
    | 0, hi => exact hi
    | 1, hi => exact hi)) h0
  obtain ⟨k, hk⟩ := nAt_of_trod (b := b) (o := o + 2) (fun i u hi => by
    rw [Nat.add_assoc]
    refine hc (2 + i) u ?_
    match i, hi with
    | 0, hi => exact hi
    | 1, hi => exact hi) h1
  exact ⟨⟨v, k⟩, hv, hk⟩
set_option maxRecDepth 100000 in
theorem nums_of_trod {fuel : Nat} {va : Value} {x : DataW H × List MemPlace} (h : DataW.trod enc Try.prog w 0 (fun _ => true) true fuel 29 [va] = some x) : ∃ l, NRow w va l :=
  open_rowAt 0 Try.underlying29 (by kernel_rfl : _ = 2) (by decide) (fun m b o cs y hl hc ht => by
    match cs, hl with
    | [c0, c1], _ => exact nAt_of_trod hc ht) h
set_option maxRecDepth 100000 in
theorem pats_of_trod {fuel : Nat} {va : Value} {x : DataW H × List MemPlace} (h : DataW.trod enc Try.prog w 0 (fun _ => true) true fuel 58 [va] = some x) : ∃ l, PRow w va l :=
  open_rowAt ⟨0, 0⟩ Try.underlying58 (by kernel_rfl : _ = 4) (by decide) (fun m b o cs y hl hc ht => by
    match cs, hl with
    | [c0, c1, c2, c3], _ => exact pAt_of_trod hc ht) h
set_option maxRecDepth 100000 in
theorem run_of_trod {m : Nat} {c0 c1 : Value} {y : DataW H × List MemPlace} (h : DataW.trod enc Try.prog w 0 (fun _ => true) true m 56 [c0, c1] = some y) : ∃ (a : Int) (g : List Nat), c0 = .int .i64 a ∧ NRow w c1 g := by
  obtain ⟨n0, y0, h0⟩ := trod_field Try.underlying56 h 0 _ rfl 3 0 1 rfl rfl (by kernel_rfl)
  obtain ⟨n1, y1, h1⟩ := trod_field Try.underlying56 h 1 _ rfl 29 1 1 rfl rfl (by kernel_rfl)
  simp only [List.drop_zero, List.take, List.drop] at h0 h1
  obtain ⟨k0, e0, -, -⟩ := DataW.trod_int Try.underlying3 h0
  simp only [List.cons.injEq, and_true] at e0
  obtain ⟨g, hg⟩ := nums_of_trod h1
  exact ⟨k0, g, e0, hg⟩
set_option maxRecDepth 100000 in
theorem eAt_of_trod {m b o : Nat} {c0 c1 c2 c3 c4 c5 : Value} {y : DataW H × List MemPlace} (hc : CellsAt w b o [c0, c1, c2, c3, c4, c5]) (h : DataW.trod enc Try.prog w 0 (fun _ => true) true m 60 [c0, c1, c2, c3, c4, c5] = some y) : ∃ n, EAt w b o n := by
  obtain ⟨n0, y0, h0⟩ := trod_field Try.underlying60 h 0 _ rfl 3 0 1 rfl rfl (by kernel_rfl)
  obtain ⟨n1, y1, h1⟩ := trod_field Try.underlying60 h 1 _ rfl 58 1 1 rfl rfl (by kernel_rfl)
  obtain ⟨n2, y2, h2⟩ := trod_field Try.underlying60 h 2 _ rfl 3 2 1 rfl rfl (by kernel_rfl)
  obtain ⟨n3, y3, h3⟩ := trod_field Try.underlying60 h 3 _ rfl 3 3 1 rfl rfl (by kernel_rfl)
  obtain ⟨n4, y4, h4⟩ := trod_field Try.underlying60 h 4 _ rfl 56 4 2 rfl rfl (by kernel_rfl)
  obtain ⟨k0, e0, -, -⟩ := DataW.trod_int Try.underlying3 h0
  obtain ⟨k2, e2, -, -⟩ := DataW.trod_int Try.underlying3 h2
  obtain ⟨k3, e3, -, -⟩ := DataW.trod_int Try.underlying3 h3
  simp only [List.drop_zero, List.take, List.drop] at e0 h1 e2 e3 h4
  simp only [List.cons.injEq, and_true] at e0 e2 e3
  subst e0 e2 e3
  obtain ⟨l, hl⟩ := pats_of_trod h1
  obtain ⟨a, g, rfl, hg⟩ := run_of_trod h4
  exact ⟨⟨k0, l, k2, k3, a, g⟩, hc 0 _ rfl, ⟨_, hc 1 _ rfl, hl⟩, hc 2 _ rfl, hc 3 _ rfl, hc 4 _ rfl, ⟨_, hc 5 _ rfl, hg⟩⟩

set_option maxRecDepth 100000 in
theorem open_entries {va : Value} {d : DataW H} {p : List MemPlace} (hv : Value.okWide Try.prog w .any 0 54 va) (h : DataW.Trod enc Try.prog w 0 (fun _ => true) true 54 va d p) : ∃ l, ERow w va l := by
  obtain ⟨fuel, h⟩ := h
  rw [slice_cells Try.underlying54 hv] at h
  exact open_rowAt ⟨0, [], 0, 0, 0, []⟩ Try.underlying54 (by kernel_rfl : _ = 6) (by decide) (fun m b o cs y hl hc ht => by
    match cs, hl with
    | [c0, c1, c2, c3, c4, c5], _ => exact eAt_of_trod hc ht) h
set_option maxRecDepth 100000 in
theorem open_nums {va : Value} {d : DataW H} {p : List MemPlace} (hv : Value.okWide Try.prog w .any 0 29 va) (h : DataW.Trod enc Try.prog w 0 (fun _ => true) true 29 va d p) : ∃ l, NRow w va l := by
  obtain ⟨fuel, h⟩ := h
  rw [slice_cells Try.underlying29 hv] at h
  exact nums_of_trod h
set_option maxRecDepth 100000 in
theorem open_i64 {W : World} {v : Value} (h : Value.okWide Try.prog W .any 0 3 v) : ∃ n, v = .int .i64 n ∧ IntKind.i64.has n := by
  simp only [Value.okWide, Cell.okWide, Try.underlying3] at h
  cases v <;> simp_all [Cell.ok]

end
end Go.Proofs.Ytnknpgfconfgjaa

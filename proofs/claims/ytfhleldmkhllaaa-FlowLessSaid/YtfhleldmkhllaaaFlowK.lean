/-
  The law FlowLess walked.
-/
import Derived.Test.YtfhleldmkhllaaaFlowJ
import Derived.Test.YtfhleldmkhllaaaFlowG
import Derived.Test.YtfhleldmkhllaaaFlowB
namespace Go.Proofs.Ytfhleldmkhllaaa
open Go.RowKit Go.Maps Flow

theorem bodyR_bodyR (l : List Ins) : bodyR (bodyR l) = bodyR l := by
  by_cases hf : Fwd l
  · have h1 : bodyR l = bodyF l := by unfold bodyR; rw [if_pos hf]
    rw [h1]
    unfold bodyR
    rw [if_pos (body_fwd hf), body_body hf]
  · have h1 : bodyR l = l := by unfold bodyR; rw [if_neg hf]
    rw [h1, h1]
theorem bodyR_le (l : List Ins) : (bodyR l).length ≤ l.length := by
  unfold bodyR
  split
  · rename_i hf; exact body_le hf
  · exact Nat.le_refl _
theorem bodyR_code {l : List Ins} {B : Nat} (hcl : ∀ j, j < l.length → (at' l j).e.length * 48 ≤ B) : ∀ j, j < (bodyR l).length → (at' (bodyR l) j).e.length * 48 ≤ B := by
  unfold bodyR
  split
  · intro p hp
    rw [body_len] at hp
    obtain ⟨i, h1, h2, rfl | ⟨ha, rfl⟩⟩ := body_cases l l.length p hp (Nat.le_refl _)
    · rw [(body_lay h1 h2).1, (lay_jmp l i).2.2.1]; exact hcl i h1
    · rw [(body_jum h1 h2 ha).1]
      show 0 * 48 ≤ B
      omega
  · exact hcl

set_option maxRecDepth 100000 in
set_option maxHeartbeats 8000000 in
theorem law_any (v : Value) (X : Nat → Prop) (l : List Ins) (w : World) (hv : InsRow w X v l) (hlen : l.length * 56 ≤ 140737488355328) (hcl : ∀ j, j < l.length → (at' l j).e.length * 48 ≤ 140737488355328) :
    Calls Try.prog 3 #[v] w fun e W' => e = .returned (.bool true) ∧ Below w.heap.size w W' := by
  obtain ⟨i0, hi, hz0, hz1, hz2⟩ := info_parts infoBool2
  have HW := Lib.hid (weigh_any v X l w hv (by omega))
  have hle := bodyR_le l
  have HBD : Hid (∀ W, Below w.heap.size w W → Calls Try.prog 6 #[v] W fun e W' => ∃ v', e = .returned v' ∧ InsRow W' Any v' (bodyR l) ∧ Below W.heap.size W W') := fun W hW => body_any v X l W (hv.below hW) hlen hcl
  have HB2 : Hid (∀ u W, InsRow W Any u (bodyR l) → Calls Try.prog 6 #[u] W fun e W' => ∃ v', e = .returned v' ∧ InsRow W' Any v' (bodyR l) ∧ Below W.heap.size W W') := by
    intro u W hW
    have := body_any u Any (bodyR l) W hW (by omega) (bodyR_code hcl)
    rw [bodyR_bodyR] at this
    exact this
  have HSX : Hid (∀ u y Y W, InsRow W Any u (bodyR l) → InsRow W Y y (bodyR l) → Calls Try.prog 7 #[u, y] W fun r w' => r = .returned (.bool true) ∧ Below W.heap.size W w') := fun u y Y W h1 h2 => sameinsts_any u y Any Y (bodyR l) W h1 h2 (by omega) (fun j hj => by have := bodyR_code hcl j hj; omega)
  have HKN := Lib.hid known_law
  have HV := Lib.hid hv
  have HXF : Hid (Fwd l → Fwd (bodyR l) ∧ (∀ p, p < (bodyR l).length → rc (bodyR l) p p = true ∧ ((at' (bodyR l) p).k = 8 → (at' (bodyR l) p).to ≠ ((p + 1 : Nat) : Int)))) := by
    intro hf
    have h1 : bodyR l = bodyF l := by unfold bodyR; rw [if_pos hf]
    rw [h1]
    exact ⟨body_fwd hf, fun p hp => ⟨body_reached hf hp, body_far hf hp⟩⟩
  have HXN : Hid (¬ Fwd l → l = bodyR l) := by
    intro hf
    unfold bodyR
    rw [if_neg hf]
  obtain ⟨pa, ca, rfl⟩ := hv.shape
  clear hv
  generalize bodyR l = x at *
  go_enter Try.func3, Try.ntmps3
  go_wp2_with fail
  refine HW.out.mono ?_
  rintro e w1 ⟨⟨z, rfl⟩, hb1⟩
  have HB1 := Lib.hid hb1
  clear hb1
  by_cases hz : 2000 < z
  · go_wp2_with fail
    refine (HKN.out _).mono ?_
    rintro e w2 ⟨rfl, hb2⟩
    have HB2W := Lib.hid hb2
    clear hb2
    go_wp2_with fail
    go_ret
    exact ⟨rfl, HB1.out.trans (HB2W.out.mono HB1.out.size)⟩
  · go_wp2_with fail
    refine (HBD.out _ HB1.out).mono ?_
    rintro e w2 ⟨v2, rfl, hr2, hb2⟩
    obtain ⟨p2, c2, rfl⟩ := hr2.shape
    have HR2 := Lib.hid hr2
    have HB2W := Lib.hid (HB1.out.trans (hb2.mono HB1.out.size))
    clear hr2 hb2
    have hxl : ¬ (l.length : Int) < (x.length : Int) := by omega
    go_wp2_with fail
    refine (HB2.out _ _ HR2.out).mono ?_
    rintro e w3 ⟨v3, rfl, hr3, hb3⟩
    obtain ⟨p3, c3, rfl⟩ := hr3.shape
    have HR3 := Lib.hid hr3
    have HB3W := Lib.hid hb3
    clear hr3 hb3
    go_wp2_with fail
    refine (HSX.out _ _ _ _ HR3.out (HR2.out.below HB3W.out)).mono ?_
    rintro e w4 ⟨rfl, hb4⟩
    have HB4 := Lib.hid (HB2W.out.trans ((HB3W.out.trans (hb4.mono HB3W.out.size)).mono HB2W.out.size))
    have HR4 := Lib.hid (HR2.out.below (HB3W.out.trans (hb4.mono HB3W.out.size)))
    clear hb4 HR3 HB3W
    go_wp2_with fail
    have HNF : Hid (¬ Fwd l → ∀ W, Below w4.heap.size w4 W → Calls Try.prog 7 #[.slice p2 x.length c2, .slice pa l.length ca] W fun r w' => r = .returned (.bool true) ∧ Below W.heap.size W w') := by
      intro hf W hW
      have h1 := HR4.out.below hW
      have h2 := HV.out.below (HB4.out.trans (hW.mono HB4.out.size))
      have hx := HXN.out hf
      refine HSX.out _ _ X W h1 ?_
      rw [hx] at h2
      rw [← hx] at h2 ⊢
      exact h2
    have hs4 := HB4.out.size
    have HLE := Lib.hid hle
    have hdf : decide (l.length < x.length) = false := decide_eq_false (by omega)
    have hdz : decide (2000 < z) = false := decide_eq_false (by omega)
    simp only [hdf, hdz]
    clear hle hxl hz hs4 hdf hdz
    go_loopw [30] (fun i wr => ∃ k : Nat, k ≤ l.length ∧ i = .int .i64 (k : Int) ∧ Hid (∀ j, j < k → jmp (at' l j) = true → (j : Int) < (at' l j).to ∧ (at' l j).to ≤ (l.length : Int)) ∧ Hid (Below w4.heap.size w4 wr)) (fun i _ => l.length - (RowKit.intOf i).toNat)
    case atStart => exact ⟨0, Nat.zero_le _, rfl, fun j h => absurd h (Nat.not_lt_zero j), Below.refl _ _⟩
    case round =>
      obtain ⟨k, hk, rfl, HN, HB⟩ := hrel
      by_cases hlt : k < l.length
      · obtain ⟨b0, o, cap, he, hb, hn⟩ := (HV.out.below (HB4.out.trans (HB.out.mono HB4.out.size))).at hlt
        cases he
        have HS : Hid ((jmp (at' l k) = true → ((k : Int) < (at' l k).to ∧ (at' l k).to ≤ (l.length : Int))) → ∀ j, j < k + 1 → jmp (at' l j) = true → (j : Int) < (at' l j).to ∧ (at' l j).to ≤ (l.length : Int)) := by
          intro h2 j hj hjj
          by_cases e2 : j = k
          · rw [e2]; exact h2 (by rw [← e2]; exact hjj)
          · exact HN.out j (by omega) hjj
        have HS3 : Hid (jmp (at' l k) = true → ¬ ((k : Int) < (at' l k).to ∧ (at' l k).to ≤ (l.length : Int)) → ¬ Fwd l) := by
          intro h1 h2 hf
          exact h2 (hf k hlt h1)
        have HNFK : Hid ((jmp (at' l k) = true ∧ ¬ ((k : Int) < (at' l k).to ∧ (at' l k).to ≤ (l.length : Int))) → ∀ W, Below wr.heap.size wr W → Calls Try.prog 7 #[.slice p2 x.length c2, .slice (some ⟨b0, o, none⟩) l.length ca] W fun r w' => r = .returned (.bool true) ∧ Below W.heap.size W w') := fun h W hW => HNF.out (HS3.out h.1 h.2) W (HB.out.trans (hW.mono HB.out.size))
        generalize at' l k = y at *
        obtain ⟨c0, c1, c2', ⟨ev, c3, hcv⟩, c4⟩ := hn
        obtain ⟨pe, ce, rfl⟩ := hcv.shape
        clear hcv
        have hki : (k : Int) < (l.length : Int) := by omega
        obtain ⟨xk, xa, xb, xe, xt⟩ := y
        dsimp only at *
        by_cases hj : xk = 7 ∨ xk = 8
        · by_cases hg : (k : Int) < xt ∧ xt ≤ (l.length : Int)
          · obtain ⟨hg1, hg2⟩ := hg
            rcases hj with rfl | rfl
            all_goals
              go_wp2_with fail
              exact ⟨⟨k + 1, hlt, rfl, HS.out (fun _ => ⟨hg1, hg2⟩), HB.out.alloc HB.out.size _⟩, by simp only [RowKit.intOf]; omega⟩
          · have hjb : jmp ⟨xk, xa, xb, xe, xt⟩ = true := by rcases hj with q | q <;> simp [jmp, q]
            have HNK := Lib.hid (HNFK.out ⟨hjb, hg⟩)
            have hs5 := HB.out.size
            clear hjb HNFK HS HS3
            by_cases hg1 : xt ≤ (k : Int)
            · rcases hj with rfl | rfl
              all_goals
                go_wp2_with fail
                refine (HNK.out _ ((Below.refl _ _).alloc (Nat.le_refl _) _)).mono ?_
                rintro e w5 ⟨rfl, hb5⟩
                have HB5 := Lib.hid (HB.out.trans (((Below.refl wr.heap.size wr).alloc (Nat.le_refl _) _).trans (hb5.mono (by simp))|>.mono HB.out.size))
                clear hb5
                go_wp2_with fail
                refine (HKN.out _).mono ?_
                rintro e w6 ⟨rfl, hb6⟩
                have HB6 := Lib.hid hb6
                clear hb6
                go_wp2_with fail
                go_ret
                exact ⟨rfl, HB4.out.trans ((HB5.out.trans (HB6.out.mono HB5.out.size)).mono HB4.out.size)⟩
            · have hg2 : (l.length : Int) < xt := by omega
              have hg3 : (k : Int) < xt := by omega
              clear hg hg1
              rcases hj with rfl | rfl
              all_goals
                go_wp2_with fail
                refine (HNK.out _ ((Below.refl _ _).alloc (Nat.le_refl _) _)).mono ?_
                rintro e w5 ⟨rfl, hb5⟩
                have HB5 := Lib.hid (HB.out.trans (((Below.refl wr.heap.size wr).alloc (Nat.le_refl _) _).trans (hb5.mono (by simp))|>.mono HB.out.size))
                clear hb5
                go_wp2_with fail
                refine (HKN.out _).mono ?_
                rintro e w6 ⟨rfl, hb6⟩
                have HB6 := Lib.hid hb6
                clear hb6
                go_wp2_with fail
                go_ret
                exact ⟨rfl, HB4.out.trans ((HB5.out.trans (HB6.out.mono HB5.out.size)).mono HB4.out.size)⟩
        · obtain ⟨h7, h8⟩ := not_or.1 hj
          go_wp2_with fail
          refine ⟨⟨k + 1, hlt, rfl, HS.out (fun q => ?_), HB.out.alloc HB.out.size _⟩, by simp only [RowKit.intOf]; omega⟩
          simp [jmp, h7, h8] at q
      · obtain rfl : k = l.length := by omega
        obtain ⟨hfx, hrx⟩ := HXF.out (fun j h1 h2 => HN.out j h1 h2)
        have HXP := Lib.hid hrx
        have HXW := Lib.hid hfx
        have HBQ := Lib.hid (HB4.out.trans (HB.out.mono HB4.out.size))
        have HRQ := Lib.hid (HR4.out.below HB.out)
        have hxm : x.length * 56 ≤ 140737488355328 := by have := HLE.out; omega
        clear hfx hrx HXF HXN HN HB HR4 HB4 HNF HV HLE HSX HB2 HR2 HB2W HB1 hlt hk
        generalize wr = wq at *
        go_wp2_with (first
          | (at_make; refine wpList_make_full _ rfl _ _ 31 rfl wq.heap.size 4 i0 (.bool false) 1 Try.underlying31 hi hz0 hz1 .i64 .i64 _ _ (x.length + 1) rfl rfl (by simp) (by simp) (by rw [hz2]; omega) (by unfold maxLen; omega) (Nat.le_refl _) ?_; intro w0 hown0 hgrow0; rw [toList_madeCells_false] at hown0; have HR0 : Hid (RowBl w0 wq.heap.size x.length (fun _ => false)) := RowBl.of_owns hown0 (fun q hq => by simp [List.getElem?_replicate]; omega); have HB0 : Hid (Below wq.heap.size wq w0) := (Below.refl _ _).grown hgrow0 (Nat.le_refl _) (fun k h => by cases h); have c0 := HR0.out.cell (Nat.zero_le _); have f0 := HR0.out.frozen 0; clear hown0 hgrow0))
        go_loopw [71] (fun i wr => ∃ k : Nat, k ≤ x.length ∧ i = .int .i64 (k : Int) ∧ Hid (RowBl wr wq.heap.size x.length (rc x k)) ∧ Hid (Below wq.heap.size wq wr)) (fun i _ => x.length - (RowKit.intOf i).toNat)
        case atStart =>
          refine ⟨0, Nat.zero_le _, rfl, (HR0.out.set (Nat.zero_le _) true).congr fun q _ => ?_, HB0.out.setCell (Nat.le_refl _) _⟩
          show (if q = 0 then true else false) = (q == 0)
          by_cases e : q = 0 <;> simp [e]
        case round =>
          obtain ⟨k, hk, rfl, HRB, HB⟩ := hrel
          by_cases hlt : k < x.length
          · obtain ⟨b0, o, cap, he, hb, hn⟩ := (HRQ.out.below HB.out).at hlt
            cases he
            obtain ⟨h5, h6⟩ := HXP.out k hlt
            have h4 := HXW.out k hlt
            have HS : Hid (∀ b1, b1 = (rc x k (k + 1) || !((at' x k).k == 8)) → (jmp (at' x k) = true → rc x (k + 1) = setB (setB (rc x k) (k + 1) b1) (at' x k).to.toNat true) ∧ (jmp (at' x k) = false → rc x (k + 1) = setB (rc x k) (k + 1) b1)) := by
              rintro b1 rfl
              refine ⟨fun q => ?_, fun q => ?_⟩
              · simp only [rc, tn]; rw [if_pos q]
              · simp only [rc]; rw [if_neg (by rw [q]; decide)]
            have hki : (k : Int) < (x.length : Int) := by omega
            have hki1 : (k : Int) < (x.length : Int) + 1 := by omega
            have hkj : (k : Int) + 1 < (x.length : Int) + 1 := by omega
            have HRA : Hid (∀ o, RowBl (wr.alloc o) wq.heap.size x.length (rc x k)) := fun o => HRB.out.keep (Below.heap_alloc _ _ _ HRB.out.lt)
            have hwl := HRB.out.lt
            have crA : ∀ o, (wr.alloc o).cell? ⟨wq.heap.size, k, none⟩ = some (.bool true) := fun o => by have := (HRA.out o).cell hk; rw [h5] at this; exact this
            have crB : ∀ o, (wr.alloc o).cell? ⟨wq.heap.size, k + 1, none⟩ = some (.bool (rc x k (k + 1))) := fun o => (HRA.out o).cell (by omega)
            have crF : ∀ o, (wr.alloc o).frozen? ⟨wq.heap.size, k + 1, none⟩ = false := fun o => (HRA.out o).frozen _
            generalize rc x k (k + 1) = r1 at *
            generalize at' x k = y at *
            obtain ⟨c0, c1, c2', ⟨ev, c3, hcv⟩, c4⟩ := hn
            obtain ⟨pe, ce, rfl⟩ := hcv.shape
            clear hcv h5
            obtain ⟨xk, xa, xb, xe, xt⟩ := y
            dsimp only at *
            by_cases h7 : xk = 7
            · subst h7
              obtain ⟨h41, h42⟩ := h4 rfl
              obtain ⟨tj, rfl⟩ : ∃ tj : Nat, xt = (tj : Int) := ⟨xt.toNat, by omega⟩
              have htj1 : (tj : Int) < (x.length : Int) + 1 := by omega
              have htj : tj ≤ x.length := by omega
              have HRS : Hid (∀ b, RowBl (wr.setCell ⟨wq.heap.size, k + 1, none⟩ (.bool b)) wq.heap.size x.length (setB (rc x k) (k + 1) b)) := fun b => HRB.out.set (show k + 1 ≤ x.length by omega) b
              have HRS2 : Hid (∀ b o, RowBl ((wr.setCell ⟨wq.heap.size, k + 1, none⟩ (.bool b)).alloc o) wq.heap.size x.length (setB (rc x k) (k + 1) b)) := fun b o => (HRS.out b).keep (Below.heap_alloc _ _ _ (HRS.out b).lt)
              have crG : ∀ b o, ((wr.setCell ⟨wq.heap.size, k + 1, none⟩ (.bool b)).alloc o).frozen? ⟨wq.heap.size, tj, none⟩ = false := fun b o => (HRS2.out b o).frozen _
              have crH : ∀ b o, ((wr.setCell ⟨wq.heap.size, k + 1, none⟩ (.bool b)).alloc o).cell? ⟨wq.heap.size, tj, none⟩ = some (.bool (setB (rc x k) (k + 1) b tj)) := fun b o => (HRS2.out b o).cell htj
              have HS1 := Lib.hid ((HS.out true (by cases r1 <;> rfl)).1 rfl)
              clear HS h6 h4
              cases r1
              · go_wp2_with fail
                refine ⟨⟨k + 1, hlt, rfl, ?_, ((HB.out.setCell (Nat.le_refl _) _).setCell (Nat.le_refl _) _).alloc (by have := HB.out.size; simpa using this) _⟩, by simp only [RowKit.intOf]; omega⟩
                rw [HS1.out]
                exact ((HRS.out true).set htj true).keep (Below.heap_alloc _ _ _ ((HRS.out true).set htj true).lt)
              · go_wp2_with fail
                refine ⟨⟨k + 1, hlt, rfl, ?_, ((HB.out.setCell (Nat.le_refl _) _).setCell (Nat.le_refl _) _).alloc (by have := HB.out.size; simpa using this) _⟩, by simp only [RowKit.intOf]; omega⟩
                rw [HS1.out]
                exact ((HRS.out true).set htj true).keep (Below.heap_alloc _ _ _ ((HRS.out true).set htj true).lt)
            · by_cases h8 : xk = 8
              · subst h8
                obtain ⟨h41, h42⟩ := h4 rfl
                obtain ⟨tj, rfl⟩ : ∃ tj : Nat, xt = (tj : Int) := ⟨xt.toNat, by omega⟩
                have htj1 : (tj : Int) < (x.length : Int) + 1 := by omega
                have htj : tj ≤ x.length := by omega
                have HRS : Hid (∀ b, RowBl (wr.setCell ⟨wq.heap.size, k + 1, none⟩ (.bool b)) wq.heap.size x.length (setB (rc x k) (k + 1) b)) := fun b => HRB.out.set (show k + 1 ≤ x.length by omega) b
                have HRS2 : Hid (∀ b o, RowBl ((wr.setCell ⟨wq.heap.size, k + 1, none⟩ (.bool b)).alloc o) wq.heap.size x.length (setB (rc x k) (k + 1) b)) := fun b o => (HRS.out b).keep (Below.heap_alloc _ _ _ (HRS.out b).lt)
                have crG : ∀ b o, ((wr.setCell ⟨wq.heap.size, k + 1, none⟩ (.bool b)).alloc o).frozen? ⟨wq.heap.size, tj, none⟩ = false := fun b o => (HRS2.out b o).frozen _
                have crH : ∀ b o, ((wr.setCell ⟨wq.heap.size, k + 1, none⟩ (.bool b)).alloc o).cell? ⟨wq.heap.size, tj, none⟩ = some (.bool (setB (rc x k) (k + 1) b tj)) := fun b o => (HRS2.out b o).cell htj
                have hne : ¬ (tj : Int) = (k : Int) + 1 := by have := h6 rfl; omega
                have hneb : ((tj : Int) == (k : Int) + 1) = false := beq_eq_false_iff_ne.2 hne
                have HS1 := Lib.hid ((HS.out r1 (by cases r1 <;> rfl)).1 rfl)
                clear HS h6 h4 h7
                cases r1
                · go_wp2_with fail
                  refine ⟨⟨k + 1, hlt, rfl, ?_, ((HB.out.setCell (Nat.le_refl _) _).setCell (Nat.le_refl _) _).alloc (by have := HB.out.size; simpa using this) _⟩, by simp only [RowKit.intOf]; omega⟩
                  rw [HS1.out]
                  exact ((HRS.out false).set htj true).keep (Below.heap_alloc _ _ _ ((HRS.out false).set htj true).lt)
                · go_wp2_with fail
                  refine ⟨⟨k + 1, hlt, rfl, ?_, ((HB.out.setCell (Nat.le_refl _) _).setCell (Nat.le_refl _) _).alloc (by have := HB.out.size; simpa using this) _⟩, by simp only [RowKit.intOf]; omega⟩
                  rw [HS1.out]
                  exact ((HRS.out true).set htj true).keep (Below.heap_alloc _ _ _ ((HRS.out true).set htj true).lt)
              · have HS1 := Lib.hid ((HS.out true (by simp [h8])).2 (by simp [jmp, h7, h8]))
                have HRS : Hid (∀ b, RowBl (wr.setCell ⟨wq.heap.size, k + 1, none⟩ (.bool b)) wq.heap.size x.length (setB (rc x k) (k + 1) b)) := fun b => HRB.out.set (show k + 1 ≤ x.length by omega) b
                have HRS2 : Hid (∀ b o, RowBl ((wr.setCell ⟨wq.heap.size, k + 1, none⟩ (.bool b)).alloc o) wq.heap.size x.length (setB (rc x k) (k + 1) b)) := fun b o => (HRS.out b).keep (Below.heap_alloc _ _ _ (HRS.out b).lt)
                have hk7 : (xk == 7) = false := beq_eq_false_iff_ne.2 h7
                have hk8 : (xk == 8) = false := beq_eq_false_iff_ne.2 h8
                clear HS h6 h4
                cases r1
                · go_wp2_with fail
                  refine ⟨⟨k + 1, hlt, rfl, ?_, (HB.out.setCell (Nat.le_refl _) _).alloc (by have := HB.out.size; simpa using this) _⟩, by simp only [RowKit.intOf]; omega⟩
                  rw [HS1.out]
                  have hne8 : (xk != 8) = true := by simp [h8]
                  rw [hne8]
                  exact HRS2.out true _
                · go_wp2_with fail
                  refine ⟨⟨k + 1, hlt, rfl, ?_, (HB.out.setCell (Nat.le_refl _) _).alloc (by have := HB.out.size; simpa using this) _⟩, by simp only [RowKit.intOf]; omega⟩
                  rw [HS1.out]
                  exact HRS2.out true _
          · obtain rfl : k = x.length := by omega
            go_wp2_with fail
            refine (HKN.out _).mono ?_
            rintro e w6 ⟨rfl, hb6⟩
            have HB6 := Lib.hid hb6
            clear hb6
            go_wp2_with fail
            go_ret
            exact ⟨rfl, HBQ.out.trans ((HB.out.trans (HB6.out.mono HB.out.size)).mono HBQ.out.size)⟩

end Go.Proofs.Ytfhleldmkhllaaa

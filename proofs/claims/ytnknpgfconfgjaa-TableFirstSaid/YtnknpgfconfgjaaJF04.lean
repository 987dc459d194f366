/-
  Lemmas, joined: StabU, StabV, TabE.
-/
import Derived.Test.YtnknpgfconfgjaaJF03
import Derived.Deep.DeepCutAuto
import Derived.LoopN
import Derived.Test.YtnknpgfconfgjaaJF02
/-
  slices.SortStableFunc: symMerge whole.
-/
namespace Go.Proofs.Ytnknpgfconfgjaa
open Go.RowKit Stab

theorem Stab.rot_id (f : Fn) (s m e : Nat) (hs : s ≤ m) (he : m ≤ e) (h : s = m ∨ m = e) : rot f s m e = f := by
  funext k
  unfold rot
  rcases h with h | h
  · subst h
    by_cases h1 : s ≤ k ∧ k < s + (e - s)
    · rw [if_pos h1]; congr 1; omega
    · rw [if_neg h1, if_neg (by omega)]
  · subst h
    rw [if_neg (by omega)]
    by_cases h1 : s + (m - m) ≤ k ∧ k < m
    · rw [if_pos h1]; congr 1; omega
    · rw [if_neg h1]

theorem Stab.Srt.eq {L : Int → Int → Bool} {f g : Fn} {a b : Nat} (h : Srt L f a b) (e : ∀ i, a ≤ i → i < b → g i = f i) : Srt L g a b := fun p q h1 h2 h3 => by
  rw [e p h1 (by omega), e q (by omega) h3]; exact h p q h1 h2 h3
theorem Stab.Mrg.eq {L : Int → Int → Bool} {f g : Fn} {a m b : Nat} (h : Mrg L f a m b) (e : ∀ i, a ≤ i → i < b → g i = f i) : Mrg L g a m b :=
  ⟨h.am, h.mb, h.s1.eq fun i h1 h2 => e i h1 (by have := h.mb; omega), h.s2.eq fun i h1 h2 => e i (by have := h.am; omega) h2, fun i j h1 h2 h3 h4 => by
    rw [e i h1 (by omega), e j (by omega) h4]; exact h.ap i j h1 h2 h3 h4⟩

/-- What is to be shown of the last part of a merge: all worlds in which the row is rotated. -/
def SmIH (V : Int → Prop) (L : Int → Int → Bool) (w0 : World) (g n cap c : Nat) (cb : Array Value) (z : Nat) : Prop :=
  ∀ (a m b : Nat) (f : Nat → Int) (w : World), b - a < z → b ≤ n → Mrg L f a m b → SWd V w0 g n f w →
    Calls Try.prog 77 #[.slice (some ⟨g, 0, none⟩) n cap, .int .i64 a, .int .i64 m, .int .i64 b, .func (.func c) #[] cb] w (SOk V w0 g n (fun f' => MrgOk L f f' a b))

set_option maxRecDepth 100000 in
set_option maxHeartbeats 3200000 in
theorem smg_gen (V : Int → Prop) (L : Int → Int → Bool) (hO : Ord L) (w0 : World) (g n cap c : Nat) (cb : Array Value) (cf : Int → Int → Int) (hC : CmpOk V w0 g c cb cf) (hlt : ∀ x y, x < y → (cf y x < 0 ↔ L y x = true))
    (a m b : Nat) (f : Nat → Int) (w : World) (hbn : b ≤ n) (hn : n ≤ 1000000) (ham : a + 1 < m) (hmb : m + 1 < b) (hM : Mrg L f a m b) (S : SWd V w0 g n f w) (ih : SmIH V L w0 g n cap c cb (b - a)) :
    Calls Try.prog 77 #[.slice (some ⟨g, 0, none⟩) n cap, .int .i64 a, .int .i64 m, .int .i64 b, .func (.func c) #[] cb] w (SOk V w0 g n (fun f' => MrgOk L f f' a b)) := by
  have HC := Lib.hid hC
  have HL := Lib.hid hlt
  have HM := Lib.hid hM
  have HS := Lib.hid S
  have IH := Lib.hid ih
  have hcall := hC.call
  have t0 : ((m : Int) - (a : Int) == 1) = false := by simp; omega
  have t1 : ((b : Int) - (m : Int) == 1) = false := by simp; omega
  have q1 : (a : Int) + (b : Int) ≤ 2000000 := by omega
  have q2 : (m : Int) ≤ 1000000 := by omega
  clear hC hlt S hM ih
  go_enter Try.func77, Try.ntmps77
  go_upto_if 140 with fail
  obtain ⟨mid, hmid⟩ : ∃ mid : Nat, mid = (a + b) / 2 := ⟨_, rfl⟩
  have hz1 : a < mid := by omega
  have hz2 : mid < b := by omega
  rw [show ((a : Int) + (b : Int)) / 2 = (mid : Int) by omega]
  have HMID := Lib.hid hmid
  clear hmid t0 t1
  go_cut [20, 21] (fun s r wx => ∃ s0 r0 : Nat, s = .int .i64 s0 ∧ r = .int .i64 r0 ∧ Hid ((mid < m ∧ s0 = mid + m - b ∧ r0 = mid) ∨ (m ≤ mid ∧ s0 = a ∧ r0 = m)) ∧ wx = w)
  case first =>
    as_aux_lemma =>
      by_cases h : mid < m
      · have hz : (mid : Int) < (m : Int) := by omega
        have hzb : decide ((mid : Int) < (m : Int)) = true := decide_eq_true hz
        go_wp2_with fail
        go_meet
        exact ⟨mid + m - b, mid, by have := HMID.out; congr 1; omega, rfl, .inl ⟨h, rfl, rfl⟩, rfl⟩
      · have hz : ¬ (mid : Int) < (m : Int) := by omega
        have hzb : decide ((mid : Int) < (m : Int)) = false := decide_eq_false hz
        go_wp2_with fail
        go_meet
        exact ⟨a, m, rfl, rfl, .inr ⟨by omega, rfl, rfl⟩, rfl⟩
  case rest =>
    as_aux_lemma =>
      obtain ⟨s0, r0, rfl, rfl, H0, rfl⟩ := hcut
      have hs0 : a ≤ s0 ∧ s0 ≤ r0 ∧ r0 ≤ m ∧ r0 ≤ mid ∧ mid + m < s0 + b + 1 := by have := HMID.out; have := H0.out; omega
      obtain ⟨hs1, hs2, hs3, hs4, hs5⟩ := hs0
      go_wp2
      obtain ⟨p, hp⟩ : ∃ p : Nat, p = mid + m - 1 := ⟨_, rfl⟩
      have hp1 : p + 1 = mid + m := by omega
      rw [show (mid : Int) + (m : Int) - 1 = (p : Int) by omega]
      clear hp
      go_loopg [20, 21, 23] (b - a) (fun gk vi vj vh wr => ∃ (i j : Nat), vi = .int .i64 i ∧ vj = .int .i64 j ∧ s0 ≤ i ∧ i ≤ j ∧ j ≤ r0 ∧ j - i ≤ gk ∧ Hid (SWd V w0 g n f wr) ∧ Hid (Srch L f p s0 r0 i j))
      case atStart => exact ⟨s0, r0, rfl, rfl, by omega, by omega, by omega, by omega, HS, Srch.start L f p s0 r0 hs2⟩
      case round =>
        as_aux_lemma =>
          clear HS
          obtain ⟨i, j, rfl, rfl, hi, hij, hjb, hgk, HS, HI⟩ := hrel
          by_cases hlt : i < j
          · have q3 : (i : Int) + (j : Int) ≤ 2000000 := by omega
            go_wp2
            obtain ⟨h, hh⟩ : ∃ h : Nat, h = (i + j) / 2 := ⟨_, rfl⟩
            have hi1 : i ≤ h := by omega
            have hj1 : h < j := by omega
            rw [show ((i : Int) + (j : Int)) / 2 = (h : Int) by omega]
            clear hh
            obtain ⟨k, hk⟩ : ∃ k, k = p - h := ⟨_, rfl⟩
            have hk1 : m ≤ k ∧ k < b := by have := H0.out; omega
            have l1 := HS.out.cell k (by omega)
            have l2 := HS.out.cell h (by omega)
            have hcc := Lib.hid (fun W hW => HC.out.con W hW (f k) (f h) (HS.out.val k (by omega)) (HS.out.val h (by omega)))
            have HX : Hid (L (f k) (f h) = true ↔ cf (f k) (f h) < 0) := (HL.out _ _ (HM.out.ap h k (by omega) (by omega) (by omega) (by omega))).symm
            have HW : Hid (∀ W, Below wr.heap.size wr W → w0.grownBy W (some g)) := fun W hW => grown_below HS.out.gr hW
            have q5 : (h : Int) < (n : Int) := by omega
            have q6 : (p : Int) - (h : Int) < (n : Int) := by omega
            have q7 : (0 : Int) ≤ (h : Int) := by omega
            have q8 : (0 : Int) ≤ (p : Int) - (h : Int) := by omega
            have q9 : ((p : Int) - (h : Int)).toNat = k := by omega
            have q8' : (h : Int) ≤ (p : Int) := by omega
            have qa : IntKind.i64.wrap ((p : Int) - (h : Int)) = (p : Int) - (h : Int) := by rw [IntKind.wrap_i64]; omega
            have hpk : Hid (p - h = k) := hk.symm
            obtain ⟨x, hx⟩ : ∃ x, x = f k := ⟨_, rfl⟩
            obtain ⟨y, hy⟩ : ∃ y, y = f h := ⟨_, rfl⟩
            rw [← hx, ← hy] at hcc HX
            rw [← hx] at l1
            rw [← hy] at l2
            have Hx := Lib.hid hx
            have Hy := Lib.hid hy
            clear hx hy hk q3
            go_region_held3 (fun Wk => Below (wr.heap.size) (wr) Wk ∧ Wk.cell? ⟨g, k, none⟩ = some (.int .i64 x) ∧ Wk.cell? ⟨g, h, none⟩ = some (.int .i64 y))
              (first | exact ⟨below_drewN (Below.refl _ _) 1, l1, l2⟩ | exact held_2_0 hb1 (by assumption) | go_keep)
              (((with_reducible refine (hcc.out _ (HW.out _ (And.left (by assumption)))).mono ?_); rintro e w1 ⟨rfl, hb1⟩))
            rename_i hS1
            have HS1 : Hid (SWd V w0 g n f w1) := HS.out.below hS1.1
            clear hS1 l1 l2 HS HW hcc hb1 q5 q6 q7 q8 q8' q9 qa
            by_cases hv : cf x y < 0
            · rw [show (!decide (cf x y < 0)) = false by simp; omega]
              go_wp2
              go_roundg (h - i)
              case measure => omega
              case rel => exact ⟨i, h, rfl, rfl, by omega, by omega, by omega, by omega, HS1, HI.out.left hi1 hj1 (by rw [hpk.out, ← Hx.out, ← Hy.out]; exact HX.out.2 hv)⟩
            · rw [show (!decide (cf x y < 0)) = true by simp; omega]
              go_wp2
              go_roundg (j - (h + 1))
              case measure => omega
              case rel =>
                refine ⟨h + 1, j, by go_num, rfl, by omega, by omega, by omega, by omega, HS1, HI.out.right hi1 hj1 ?_⟩
                rw [hpk.out, ← Hx.out, ← Hy.out]
                cases hq : L x y
                · rfl
                · have := HX.out.1 hq; exfalso; omega
          · obtain rfl : i = j := by omega
            obtain ⟨hcut, hmd, hsm⟩ := Srch.cut (by omega) (by omega) HMID.out H0.out (by rw [← show p = mid + m - 1 by omega]; exact HI.out)
            obtain ⟨e, he⟩ : ∃ e, e = mid + m - i := ⟨_, rfl⟩
            rw [← he] at hcut hmd
            have HCUT := Lib.hid hcut
            have hb := hcut.las
            have hb1 := hcut.sm
            have hb2 := hcut.me
            have hb3 := hcut.eb
            have he1 : e + i = mid + m := by omega
            have hme : mid ≤ e := by omega
            clear hcut he HI
            have q3 : (i : Int) ≤ (mid : Int) := by omega
            go_upto_region 39 with fail
            rw [show (mid : Int) + (m : Int) - (i : Int) = (e : Int) by omega]
            have HR : Hid (SWd V w0 g n f wr) := HS
            clear HS q1 q2 q3
            go_cut [185] (fun t wx => ∃ tb : Bool, t = .bool tb ∧ Hid (tb = decide (i < m ∧ m < e)) ∧ wx = wr)
            case first =>
              as_aux_lemma =>
                by_cases h1 : i < m
                · by_cases h2 : m < e
                  · have z1 : (i : Int) < (m : Int) := by omega
                    have z2 : (m : Int) < (e : Int) := by omega
                    go_wp2
                    go_meet
                    exact ⟨true, rfl, (decide_eq_true ⟨h1, h2⟩).symm, rfl⟩
                  · have z1 : (i : Int) < (m : Int) := by omega
                    have z2 : decide ((m : Int) < (e : Int)) = false := decide_eq_false (by omega)
                    have z3 : ¬ (m : Int) < (e : Int) := by omega
                    go_wp2
                    go_meet
                    exact ⟨false, rfl, (decide_eq_false (fun q => h2 q.2)).symm, rfl⟩
                · have z2 : decide ((i : Int) < (m : Int)) = false := decide_eq_false (by omega)
                  have z3 : ¬ (i : Int) < (m : Int) := by omega
                  go_wp2
                  go_meet
                  exact ⟨false, rfl, (decide_eq_false (fun q => h1 q.1)).symm, rfl⟩
            case rest =>
              as_aux_lemma =>
                obtain ⟨tb, rfl, HT, rfl⟩ := hcut
                go_upto_if 185 with fail
                go_cut [] (fun wx => Hid (SWd V w0 g n (rot f i m e) wx))
                case first =>
                  as_aux_lemma =>
                    cases tb
                    · go_wp2_with fail
                      go_meet
                      have hd := of_decide_eq_false HT.out.symm
                      show SWd V w0 g n (rot f i m e) _
                      rw [rot_id f i m e (by omega) (by omega) (by omega)]
                      exact HR.out
                    · have hd := of_decide_eq_true HT.out.symm
                      have HK := Lib.hid (rot_any V w0 g n cap (.func (.func c) #[] cb) i m e f _ hd.1 hd.2 (by omega) hn HR.out)
                      clear HR
                      go_wp2_with fail
                      refine HK.out.mono ?_
                      rintro e' w1 ⟨rfl, f1, S1, rfl⟩
                      have HS := Lib.hid S1
                      clear S1 HK
                      go_wp2_with fail
                      go_meet
                      exact HS
                case rest =>
                  as_aux_lemma =>
                    have HS := hcut
                    clear hcut HR HT
                    have hH := HCUT.out.halves HM.out hO
                    rw [hmd] at hH
                    have HH := Lib.hid hH
                    obtain ⟨r, hr⟩ : ∃ r, r = rot f i m e := ⟨_, rfl⟩
                    have hsame : Hid (Same f r a b) := by show Same f r a b; rw [hr]; exact (same_rot f hb1 hb2).more (out_rot f hb1 hb2) hb hb3
                    have hout : Hid (Out f r a b) := by show Out f r a b; rw [hr]; exact (out_rot f hb1 hb2).more hb hb3
                    rw [← hr] at HH HS
                    clear hH hr HCUT
                    go_upto_region 41 with fail
                    go_cut [199] (fun t wx => ∃ tb : Bool, t = .bool tb ∧ Hid (tb = decide (a < i ∧ i < mid)) ∧ wx = wc)
                    case first =>
                      as_aux_lemma =>
                        by_cases h1 : a < i
                        · by_cases h2 : i < mid
                          · have z1 : (a : Int) < (i : Int) := by omega
                            have z2 : (i : Int) < (mid : Int) := by omega
                            go_wp2
                            go_meet
                            exact ⟨true, rfl, (decide_eq_true ⟨h1, h2⟩).symm, rfl⟩
                          · have z1 : (a : Int) < (i : Int) := by omega
                            have z2 : decide ((i : Int) < (mid : Int)) = false := decide_eq_false (by omega)
                            have z3 : ¬ (i : Int) < (mid : Int) := by omega
                            go_wp2
                            go_meet
                            exact ⟨false, rfl, (decide_eq_false (fun q => h2 q.2)).symm, rfl⟩
                        · have z2 : decide ((a : Int) < (i : Int)) = false := decide_eq_false (by omega)
                          have z3 : ¬ (a : Int) < (i : Int) := by omega
                          go_wp2
                          go_meet
                          exact ⟨false, rfl, (decide_eq_false (fun q => h1 q.1)).symm, rfl⟩
                    case rest =>
                      as_aux_lemma =>
                        obtain ⟨tb, rfl, HT, rfl⟩ := hcut
                        go_upto_if 199 with fail
                        go_cut [] (fun wx => ∃ g1 : Nat → Int, Hid (SWd V w0 g n g1 wx) ∧ Hid (MrgOk L r g1 a mid))
                        case first =>
                          as_aux_lemma =>
                            cases tb
                            · go_wp2_with fail
                              go_meet
                              have hd := of_decide_eq_false HT.out.symm
                              refine ⟨r, HS, MrgOk.none ?_⟩
                              by_cases h1 : a < i
                              · exact HH.out.2.2.2.1 (by omega)
                              · exact HH.out.2.2.1 (by omega)
                            · have hd := of_decide_eq_true HT.out.symm
                              have HK := Lib.hid (IH.out a i mid r _ (by omega) (by omega) (HH.out.1 hd.1 hd.2) HS.out)
                              clear HS
                              go_wp2_with fail
                              refine HK.out.mono ?_
                              rintro e' w1 ⟨rfl, f1, S1, M1⟩
                              have HS := Lib.hid S1
                              have HM1 := Lib.hid M1
                              clear S1 M1 HK
                              go_wp2_with fail
                              go_meet
                              exact ⟨f1, HS, HM1⟩
                        case rest =>
                          as_aux_lemma =>
                            obtain ⟨g1, HS, HM1⟩ := hcut
                            clear HT
                            have hg : Hid (∀ k, mid ≤ k → k < b → g1 k = r k) := fun k h1 h2 => HM1.out.out k (.inr h1)
                            go_upto_region 43 with fail
                            go_cut [213] (fun t wx => ∃ tb : Bool, t = .bool tb ∧ Hid (tb = decide (mid < e ∧ e < b)) ∧ wx = wc)
                            case first =>
                              as_aux_lemma =>
                                by_cases h1 : mid < e
                                · by_cases h2 : e < b
                                  · have z1 : (mid : Int) < (e : Int) := by omega
                                    have z2 : (e : Int) < (b : Int) := by omega
                                    go_wp2
                                    go_meet
                                    exact ⟨true, rfl, (decide_eq_true ⟨h1, h2⟩).symm, rfl⟩
                                  · have z1 : (mid : Int) < (e : Int) := by omega
                                    have z2 : decide ((e : Int) < (b : Int)) = false := decide_eq_false (by omega)
                                    have z3 : ¬ (e : Int) < (b : Int) := by omega
                                    go_wp2
                                    go_meet
                                    exact ⟨false, rfl, (decide_eq_false (fun q => h2 q.2)).symm, rfl⟩
                                · have z2 : decide ((mid : Int) < (e : Int)) = false := decide_eq_false (by omega)
                                  have z3 : ¬ (mid : Int) < (e : Int) := by omega
                                  go_wp2
                                  go_meet
                                  exact ⟨false, rfl, (decide_eq_false (fun q => h1 q.1)).symm, rfl⟩
                            case rest =>
                              as_aux_lemma =>
                                obtain ⟨tb, rfl, HT, rfl⟩ := hcut
                                go_upto_if 213 with fail
                                cases tb
                                · go_wp2
                                  go_end0
                                  have hd := of_decide_eq_false HT.out.symm
                                  refine ⟨rfl, g1, HS.out, MrgOk.join (by omega) (by omega) hsame.out hout.out HH.out.2.2.2.2.2.2 HM1.out (MrgOk.none (Srt.eq ?_ hg.out))⟩
                                  by_cases h1 : mid < e
                                  · exact HH.out.2.2.2.2.1 (by omega)
                                  · exact HH.out.2.2.2.2.2.1 (by omega)
                                · have hd := of_decide_eq_true HT.out.symm
                                  have HK := Lib.hid (IH.out mid e b g1 _ (by omega) (by omega) ((HH.out.2.1 hd.1 hd.2).eq hg.out) HS.out)
                                  clear HS
                                  go_wp2_with fail
                                  refine HK.out.mono ?_
                                  rintro e' w1 ⟨rfl, f1, S1, M1⟩
                                  have HS := Lib.hid S1
                                  have HM2 := Lib.hid M1
                                  clear S1 M1 HK
                                  go_wp2_with fail
                                  go_end0
                                  exact ⟨rfl, f1, HS.out, MrgOk.join (by omega) (by omega) hsame.out hout.out HH.out.2.2.2.2.2.2 HM1.out HM2.out⟩

theorem smg_any (V : Int → Prop) (L : Int → Int → Bool) (hO : Ord L) (w0 : World) (g n cap c : Nat) (cb : Array Value) (cf : Int → Int → Int) (hC : CmpOk V w0 g c cb cf) (hlt : ∀ x y, x < y → (cf y x < 0 ↔ L y x = true)) (hn : n ≤ 1000000) :
    ∀ z, SmIH V L w0 g n cap c cb z
  | 0 => fun a m b f w h => absurd h (by omega)
  | z + 1 => fun a m b f w h hbn hM S => by
    have ih := smg_any V L hO w0 g n cap c cb cf hC hlt hn z
    have h1 := hM.am
    have h2 := hM.mb
    by_cases e1 : m = a + 1
    · subst e1; exact smg_one V L hO w0 g n cap c cb cf hC hlt a b f w hbn hn hM S
    · by_cases e2 : b = m + 1
      · subst e2; exact smg_oneR V L hO w0 g n cap c cb cf hC hlt a m f w hbn hn (by omega) hM S
      · exact smg_gen V L hO w0 g n cap c cb cf hC hlt a m b f w hbn hn (by omega) (by omega) hM S (fun a' m' b' f' w' h' => ih a' m' b' f' w' (by omega))

end Go.Proofs.Ytnknpgfconfgjaa

/-
  slices.SortStableFunc of at most 40 integers: sorted, the same things.
-/
namespace Go.Proofs.Ytnknpgfconfgjaa
open Go.RowKit Stab

/-- Blocks of 20 that are sorted: j of them. -/
structure Stab.Blk (L : Int → Int → Bool) (f g : Fn) (j : Nat) : Prop where
  s1 : 1 ≤ j → Srt L g 0 20 ∧ Same f g 0 20
  s2 : 2 ≤ j → Srt L g 20 40 ∧ Same f g 20 40
  out : ∀ k, 20 * j ≤ k → g k = f k

theorem Stab.Blk.zero (L : Int → Int → Bool) (f : Fn) : Blk L f f 0 := ⟨fun h => absurd h (by omega), fun h => absurd h (by omega), fun _ _ => rfl⟩

theorem Stab.Same.eq {f g g' : Fn} {a b : Nat} (h : Same f g a b) (e : ∀ i, a ≤ i → i < b → g' i = g i) : Same f g' a b := fun x => by
  rw [h x]
  exact ⟨fun ⟨i, h1, h2, h3⟩ => ⟨i, h1, h2, (e i h1 h2).trans h3⟩, fun ⟨i, h1, h2, h3⟩ => ⟨i, h1, h2, (e i h1 h2).symm.trans h3⟩⟩
theorem Stab.Same.eqL {f f' g : Fn} {a b : Nat} (h : Same f g a b) (e : ∀ i, a ≤ i → i < b → f' i = f i) : Same f' g a b := (h.symm.eq e).symm

theorem Stab.Blk.next {L : Int → Int → Bool} {f g g' : Fn} {j : Nat} (h : Blk L f g j) (hj : j ≤ 1) (m : MrgOk L g g' (20 * j) (20 * j + 20)) : Blk L f g' (j + 1) := by
  rcases (show j = 0 ∨ j = 1 by omega) with rfl | rfl
  · exact ⟨fun _ => ⟨m.srt, m.same.eqL fun i _ _ => (h.out i (by omega)).symm⟩, fun h => absurd h (by omega), fun k hk => (m.out k (by omega)).trans (h.out k (by omega))⟩
  · obtain ⟨a1, a2⟩ := h.s1 (Nat.le_refl _)
    exact ⟨fun _ => ⟨a1.eq fun i _ _ => m.out i (by omega), a2.eq fun i _ _ => m.out i (by omega)⟩, fun _ => ⟨m.srt, m.same.eqL fun i h1 _ => (h.out i (by omega)).symm⟩, fun k hk => (m.out k (by omega)).trans (h.out k (by omega))⟩

/-- Behind the blocks: all is sorted, or two parts are. -/
def Stab.Two (L : Int → Int → Bool) (f g : Fn) (n : Nat) : Prop := (n ≤ 20 → MrgOk L f g 0 n) ∧ (20 < n → Mrg L g 0 20 n ∧ Same f g 0 n ∧ Out f g 0 n)

theorem Stab.Same.join {f g : Fn} {a c b : Nat} (h : a ≤ c) (h' : c ≤ b) (p : Same f g a c) (q : Same f g c b) : Same f g a b := fun x => by
  constructor
  · rintro ⟨i, h1, h2, h3⟩
    by_cases e : i < c
    · obtain ⟨k, k1, k2, k3⟩ := (p x).1 ⟨i, h1, e, h3⟩; exact ⟨k, k1, by omega, k3⟩
    · obtain ⟨k, k1, k2, k3⟩ := (q x).1 ⟨i, by omega, h2, h3⟩; exact ⟨k, by omega, k2, k3⟩
  · rintro ⟨i, h1, h2, h3⟩
    by_cases e : i < c
    · obtain ⟨k, k1, k2, k3⟩ := (p x).2 ⟨i, h1, e, h3⟩; exact ⟨k, k1, by omega, k3⟩
    · obtain ⟨k, k1, k2, k3⟩ := (q x).2 ⟨i, by omega, h2, h3⟩; exact ⟨k, by omega, k2, k3⟩

theorem Stab.Blk.two {L : Int → Int → Bool} {f g g' : Fn} {j n : Nat} (h : Blk L f g j) (hj : j ≤ 2) (hn : n ≤ 40) (h1 : 20 * j ≤ n) (h2 : n < 20 * j + 20) (hasc : ∀ p q, p < q → q < n → f p < f q) (m : MrgOk L g g' (20 * j) n) : Two L f g' n := by
  rcases (show j = 0 ∨ j = 1 ∨ j = 2 by omega) with rfl | rfl | rfl
  · exact ⟨fun _ => ⟨m.srt, m.same.eqL fun i _ _ => (h.out i (by omega)).symm, fun k hk => (m.out k (by omega)).trans (h.out k (by omega))⟩, fun q => by omega⟩
  · obtain ⟨a1, a2⟩ := h.s1 (Nat.le_refl _)
    have b1 : Srt L g' 0 20 := a1.eq fun i _ _ => m.out i (by omega)
    have b2 : Same f g' 0 20 := a2.eq fun i _ _ => m.out i (by omega)
    have b3 : Same f g' 20 n := m.same.eqL fun i h1 _ => (h.out i (by omega)).symm
    have b4 : Out f g' 0 n := fun k hk => (m.out k (by omega)).trans (h.out k (by omega))
    refine ⟨fun e => ?_, fun e => ⟨⟨by omega, e, b1, m.srt, Apart.of_same (f := f) (fun i j _ h2 h3 h4 => hasc i j (by omega) h4) b2 b3⟩, Same.join (by omega) (by omega) b2 b3, b4⟩⟩
    obtain rfl : n = 20 := by omega
    exact ⟨b1, b2, b4⟩
  · obtain rfl : n = 40 := by omega
    obtain ⟨a1, a2⟩ := h.s1 (by omega)
    obtain ⟨a3, a4⟩ := h.s2 (by omega)
    have e : ∀ k, g' k = g k := fun k => m.out k (by omega)
    have b1 : Srt L g' 0 20 := a1.eq fun i _ _ => e i
    have b2 : Same f g' 0 20 := a2.eq fun i _ _ => e i
    have b3 : Srt L g' 20 40 := a3.eq fun i _ _ => e i
    have b5 : Same f g' 20 40 := a4.eq fun i _ _ => e i
    exact ⟨fun q => by omega, fun _ => ⟨⟨by omega, by omega, b1, b3, Apart.of_same (f := f) (fun i j _ h2 h3 h4 => hasc i j (by omega) h4) b2 b5⟩, Same.join (by omega) (by omega) b2 b5, fun k hk => (e k).trans (h.out k (by omega))⟩⟩

theorem Stab.Two.merged {L : Int → Int → Bool} {f g g' : Fn} {n : Nat} (h : Two L f g n) (hn : 20 < n) (m : MrgOk L g g' 0 n) : MrgOk L f g' 0 n := by
  obtain ⟨-, b, c⟩ := h.2 hn
  exact ⟨m.srt, b.trans m.same, c.trans m.out⟩

set_option maxRecDepth 100000 in
set_option maxHeartbeats 3200000 in
theorem stb_any (V : Int → Prop) (L : Int → Int → Bool) (hO : Ord L) (w0 : World) (g n cap c : Nat) (cb : Array Value) (cf : Int → Int → Int) (hC : CmpOk V w0 g c cb cf) (hlt : ∀ x y, x < y → (cf y x < 0 ↔ L y x = true))
    (f : Nat → Int) (w : World) (hn : n ≤ 40) (hasc : ∀ p q, p < q → q < n → f p < f q) (S : SWd V w0 g n f w) :
    Calls Try.prog 44 #[.slice (some ⟨g, 0, none⟩) n cap, .int .i64 n, .func (.func c) #[] cb] w (SOk V w0 g n (fun f' => MrgOk L f f' 0 n)) := by
  have HI := Lib.hid (fun a b f' w' h1 h2 h3 h4 => ins_any V L hO w0 g n cap c cb cf hC hlt a b f' w' h1 h2 (by omega) h3 h4)
  have HM := Lib.hid (smg_any V L hO w0 g n cap c cb cf hC hlt (by omega) 1000)
  have HA := Lib.hid hasc
  have HS := Lib.hid S
  have hcall := hC.call
  clear hC hlt S hasc
  go_enter Try.func44, Try.ntmps44
  go_wp2
  go_loopg [7, 8] 3 (fun gk va vb wr => ∃ (j : Nat) (fk : Nat → Int), va = .int .i64 (20 * j : Nat) ∧ vb = .int .i64 (20 * j + 20 : Nat) ∧ j ≤ 2 ∧ 20 * j ≤ n ∧ 3 ≤ gk + j ∧ Hid (SWd V w0 g n fk wr) ∧ Hid (Blk L f fk j))
  case atStart => exact ⟨0, f, rfl, rfl, by omega, by omega, by omega, HS, Blk.zero L f⟩
  case round =>
    clear HS
    obtain ⟨j, fk, rfl, rfl, hj, hjn, hgk, HS, HB⟩ := hrel
    by_cases hlt : 20 * j + 20 ≤ n
    · obtain ⟨a, ha⟩ : ∃ a, a = 20 * j := ⟨_, rfl⟩
      have HK := Lib.hid (HI.out (20 * j) (20 * j + 20) fk wr (by omega) hlt (fun p q h1 h2 h3 => by rw [HB.out.out p h1, HB.out.out q (by omega)]; exact HA.out p q h2 (by omega)) HS.out)
      rw [← ha] at HK hlt hjn
      rw [← ha]
      have Ha := Lib.hid ha
      clear ha HS
      go_wp2_with fail
      refine HK.out.mono ?_
      rintro e w1 ⟨rfl, f1, S1, M1⟩
      have HS := Lib.hid S1
      have HM1 := Lib.hid M1
      clear S1 M1 HK
      go_wp2_with fail
      have ha := Ha.out
      go_roundg (3 - (j + 1))
      case measure => omega
      case rel => exact ⟨j + 1, f1, by congr 1; omega, by congr 1; omega, by omega, by omega, by omega, HS, HB.out.next (by omega) (by have := HM1.out; rw [ha] at this; exact this)⟩
    · obtain ⟨a, ha⟩ : ∃ a, a = 20 * j := ⟨_, rfl⟩
      have HK := Lib.hid (HI.out (20 * j) n fk wr (by omega) (by omega) (fun p q h1 h2 h3 => by rw [HB.out.out p h1, HB.out.out q (by omega)]; exact HA.out p q h2 h3) HS.out)
      rw [← ha] at HK hlt hjn
      rw [← ha]
      have Ha := Lib.hid ha
      clear ha HS
      go_wp2_with fail
      refine HK.out.mono ?_
      rintro e w1 ⟨rfl, f1, S1, M1⟩
      have HS := Lib.hid S1
      have HT : Hid (Two L f f1 n) := HB.out.two hj hn (by have := Ha.out; omega) (by have := Ha.out; omega) HA.out (by have := Ha.out; rw [← this]; exact M1)
      clear S1 M1 HK HB hlt hjn Ha
      go_wp2_with fail
      go_loopg [6, 7, 8, 9] 2 (fun gk vs va vb vm wr => ∃ (fk : Nat → Int), Hid (SWd V w0 g n fk wr) ∧ ((vs = .int .i64 20 ∧ 2 ≤ gk ∧ Hid (Two L f fk n)) ∨ (vs = .int .i64 40 ∧ 1 ≤ gk ∧ Hid (MrgOk L f fk 0 n))))
      case atStart => exact ⟨f1, HS, .inl ⟨rfl, by omega, HT⟩⟩
      case round =>
        clear HS HT
        obtain ⟨fk, HS, h⟩ := hrel
        rcases h with ⟨rfl, hgk, HT⟩ | ⟨rfl, hgk, HT⟩
        · by_cases h1 : n ≤ 20
          · have z1 : ¬ (20 : Int) < (n : Int) := by omega
            go_wp2_with fail
            go_end0
            exact ⟨rfl, _, HS.out, HT.out.1 h1⟩
          · have z1 : (20 : Int) < (n : Int) := by omega
            have HK := Lib.hid (HM.out 0 20 n fk wr (by omega) (by omega) (HT.out.2 (by omega)).1 HS.out)
            clear HS
            by_cases h2 : n < 40
            · have z2 : ¬ (40 : Int) ≤ (n : Int) := by omega
              go_wp2_with fail
              refine wp_loop_rounds 1 ?_
              rw [rounds_succ]
              go_wp2_with fail
              refine HK.out.mono ?_
              rintro e w2 ⟨rfl, f2, S2, M2⟩
              have HS := Lib.hid S2
              have HM2 : Hid (MrgOk L f f2 0 n) := HT.out.merged (by omega) M2
              clear S2 M2 HK
              go_wp2_with fail
              go_roundg 1
              case measure => omega
              case rel => exact ⟨f2, HS, .inr ⟨rfl, Nat.le_refl _, HM2⟩⟩
            · have z2 : (40 : Int) ≤ (n : Int) := by omega
              have z3 : ¬ (60 : Int) < (n : Int) := by omega
              have z4 : ¬ (80 : Int) ≤ (n : Int) := by omega
              have en : n = 40 := by omega
              have e40 : ((n : Nat) : Int) = 40 := by omega
              rw [e40] at HK
              have EN := Lib.hid en
              clear en e40
              go_wp2_with fail
              refine wp_loop_rounds 2 ?_
              rw [rounds_succ]
              go_wp2_with fail
              refine HK.out.mono ?_
              rintro e w2 ⟨rfl, f2, S2, M2⟩
              have HS := Lib.hid S2
              have HM2 : Hid (MrgOk L f f2 0 n) := HT.out.merged (by omega) M2
              clear S2 M2 HK
              go_wp2_with fail
              rw [rounds_succ]
              go_wp2_with fail
              go_roundg 1
              case measure => omega
              case rel => exact ⟨f2, HS, .inr ⟨rfl, Nat.le_refl _, HM2⟩⟩
        · have z1 : ¬ (40 : Int) < (n : Int) := by omega
          go_wp2_with fail
          go_end0
          exact ⟨rfl, _, HS.out, HT.out⟩

set_option maxRecDepth 100000 in
set_option maxHeartbeats 800000 in
theorem sort_any (V : Int → Prop) (L : Int → Int → Bool) (hO : Ord L) (w0 : World) (g n cap c : Nat) (cb : Array Value) (cf : Int → Int → Int) (hC : CmpOk V w0 g c cb cf) (hlt : ∀ x y, x < y → (cf y x < 0 ↔ L y x = true))
    (f : Nat → Int) (w : World) (hn : n ≤ 40) (hasc : ∀ p q, p < q → q < n → f p < f q) (S : SWd V w0 g n f w) :
    Calls Try.prog 33 #[.slice (some ⟨g, 0, none⟩) n cap, .func (.func c) #[] cb] w (SOk V w0 g n (fun f' => MrgOk L f f' 0 n)) := by
  have HK := Lib.hid (stb_any V L hO w0 g n cap c cb cf hC hlt f w hn hasc S)
  clear hC hlt hasc S
  go_enter Try.func33, Try.ntmps33
  go_wp2_with fail
  refine HK.out.mono ?_
  rintro e w2 ⟨rfl, f2, S2, M2⟩
  go_wp2_with fail
  go_end0
  exact ⟨rfl, f2, S2, M2⟩

set_option maxRecDepth 100000 in
set_option maxHeartbeats 800000 in
theorem ins_nil (pa : Option Addr) (cap : Nat) (cv : Value) (w : World) : Calls Try.prog 76 #[.slice pa 0 cap, .int .i64 0, .int .i64 0, cv] w fun e w' => e = .returned (.tuple #[]) ∧ w' = w := by
  go_enter Try.func76, Try.ntmps76
  go_wp2_with fail
  refine wp_loop_rounds 1 ?_
  rw [rounds_succ]
  go_wp2_with fail
  go_end0
  exact ⟨rfl, rfl⟩

set_option maxRecDepth 100000 in
set_option maxHeartbeats 800000 in
theorem stb_nil (pa : Option Addr) (cap : Nat) (cv : Value) (w : World) : Calls Try.prog 44 #[.slice pa 0 cap, .int .i64 0, cv] w fun e w' => e = .returned (.tuple #[]) ∧ w' = w := by
  go_enter Try.func44, Try.ntmps44
  go_wp2_with fail
  refine wp_loop_rounds 1 ?_
  rw [rounds_succ]
  go_wp2_with fail
  refine (ins_nil _ _ _ _).mono ?_
  rintro e w2 ⟨rfl, rfl⟩
  go_wp2_with fail
  refine wp_loop_rounds 1 ?_
  rw [rounds_succ]
  go_wp2_with fail
  go_end0
  exact ⟨rfl, rfl⟩

set_option maxRecDepth 100000 in
set_option maxHeartbeats 800000 in
theorem sort_nil (pa : Option Addr) (cap : Nat) (cv : Value) (w : World) : Calls Try.prog 33 #[.slice pa 0 cap, cv] w fun e w' => e = .returned (.tuple #[]) ∧ w' = w := by
  go_enter Try.func33, Try.ntmps33
  go_wp2_with fail
  refine (stb_nil _ _ _ _).mono ?_
  rintro e w2 ⟨rfl, rfl⟩
  go_wp2_with fail
  go_end0
  exact ⟨rfl, rfl⟩

end Go.Proofs.Ytnknpgfconfgjaa

/-
  table.Order: the comparison that it hands to the sort.
-/
namespace Go.Proofs.Ytnknpgfconfgjaa
open Go.RowKit Stab

/-- An entry's six cells, with what its slices are. -/
theorem EAt.six {w : World} {b o : Nat} {e : Ent} (h : EAt w b o e) : ∃ p n c r m d, w.cell? ⟨b, o, none⟩ = some (.int .i64 e.tab) ∧ w.cell? ⟨b, o + 1, none⟩ = some (.slice p n c) ∧ w.cell? ⟨b, o + 2, none⟩ = some (.int .i64 e.len) ∧ w.cell? ⟨b, o + 3, none⟩ = some (.int .i64 e.prio) ∧
    w.cell? ⟨b, o + 4, none⟩ = some (.int .i64 e.act) ∧ w.cell? ⟨b, o + 5, none⟩ = some (.slice r m d) ∧ PRow w (.slice p n c) e.pats ∧ NRow w (.slice r m d) e.args := by
  obtain ⟨h1, ⟨v2, h2, k2⟩, h3, h4, h5, ⟨v6, h6, k6⟩⟩ := h
  obtain ⟨p, c, rfl, -⟩ := k2.shape
  obtain ⟨r, d, rfl, -⟩ := k6.shape
  exact ⟨p, _, c, r, _, d, h1, h2, h3, h4, h5, h6, k2, k6⟩

set_option maxRecDepth 100000 in
set_option maxHeartbeats 3200000 in
theorem cmp_any (l : List Ent) (lv : Value) (bx i j : Nat) (W : World) (hl : ERow W lv l) (hn : l.length ≤ 1000000) (hi : i < l.length) (hj : j < l.length) (hbx : W.cell? ⟨bx, 0, none⟩ = some lv) :
    Calls Try.prog 34 #[.int .i64 i, .int .i64 j, .pointer (some ⟨bx, 0, none⟩)] W fun e w' => e = .returned (.int .i64 (cmpE l i j)) ∧ Below W.heap.size W w' := by
  obtain ⟨lb, lo, lc, rfl, hlb, hei⟩ := hl.at (eAt_nat l i hi)
  obtain ⟨lb2, lo2, lc2, he2, -, hej⟩ := hl.at (eAt_nat l j hj)
  simp only [Value.slice.injEq, Option.some.injEq, Addr.mk.injEq, and_true, true_and] at he2
  obtain ⟨⟨rfl, rfl⟩, rfl⟩ := he2
  obtain ⟨p1, n1, c1, r1, m1, d1, a0, a1, a2, a3, a4, a5, -, -⟩ := hei.six
  obtain ⟨p2, n2, c2, r2, m2, d2, b0, b1, b2, b3, b4, b5, -, -⟩ := hej.six
  have HX : Hid (lts l i j = ahd (eAt l i).prio (eAt l i).len (eAt l j).prio (eAt l j).len) := rfl
  have HY : Hid (lts l j i = ahd (eAt l j).prio (eAt l j).len (eAt l i).prio (eAt l i).len) := rfl
  have HE : Hid (cmpE l i j = if lts l i j then -1 else if lts l j i then 1 else 0) := rfl
  obtain ⟨t1, l1, q1, s1, e1⟩ : ∃ t1 l1 q1 s1, t1 = (eAt l i).tab ∧ l1 = (eAt l i).len ∧ q1 = (eAt l i).prio ∧ s1 = (eAt l i).act := ⟨_, _, _, _, rfl, rfl, rfl, rfl⟩
  obtain ⟨t2, l2, q2, s2, e2⟩ : ∃ t1 l1 q1 s1, t1 = (eAt l j).tab ∧ l1 = (eAt l j).len ∧ q1 = (eAt l j).prio ∧ s1 = (eAt l j).act := ⟨_, _, _, _, rfl, rfl, rfl, rfl⟩
  rw [← e1.1] at a0
  rw [← e1.2.1] at a2
  rw [← e1.2.2.1] at a3
  rw [← e1.2.2.2] at a4
  rw [← e2.1] at b0
  rw [← e2.2.1] at b2
  rw [← e2.2.2.1] at b3
  rw [← e2.2.2.2] at b4
  rw [← e1.2.1, ← e1.2.2.1, ← e2.2.1, ← e2.2.2.1] at HX HY
  obtain ⟨x, hx⟩ : ∃ x, x = lts l i j := ⟨_, rfl⟩
  obtain ⟨y, hy⟩ : ∃ y, y = lts l j i := ⟨_, rfl⟩
  rw [← hx, ← hy] at HE
  rw [← hx] at HX
  rw [← hy] at HY
  have HC1 : Hid (∀ W, Calls Try.prog 35 #[.agg #[.int .i64 t1, .slice p1 n1 c1, .int .i64 l1, .int .i64 q1, .int .i64 s1, .slice r1 m1 d1], .agg #[.int .i64 t2, .slice p2 n2 c2, .int .i64 l2, .int .i64 q2, .int .i64 s2, .slice r2 m2 d2]] W
      fun e w' => e = .returned (.bool x) ∧ Below W.heap.size W w') := fun W => by rw [HX.out]; exact ahead_any _ _ _ _ _ _ _ _ _ _ _ _ _ _ _ _ _ _ _ _ W
  have HC2 : Hid (∀ W, Calls Try.prog 35 #[.agg #[.int .i64 t2, .slice p2 n2 c2, .int .i64 l2, .int .i64 q2, .int .i64 s2, .slice r2 m2 d2], .agg #[.int .i64 t1, .slice p1 n1 c1, .int .i64 l1, .int .i64 q1, .int .i64 s1, .slice r1 m1 d1]] W
      fun e w' => e = .returned (.bool y) ∧ Below W.heap.size W w') := fun W => by rw [HY.out]; exact ahead_any _ _ _ _ _ _ _ _ _ _ _ _ _ _ _ _ _ _ _ _ W
  obtain ⟨n, hnn⟩ : ∃ n, n = l.length := ⟨_, rfl⟩
  rw [← hnn] at hn hi hj
  rw [← hnn] at hbx
  have z1 : (i : Int) < (n : Int) := by omega
  have z2 : (j : Int) < (n : Int) := by omega
  have z3 : (0 : Int) ≤ (i : Int) := by omega
  have z4 : (0 : Int) ≤ (j : Int) := by omega
  clear hx hy e1 e2 HX HY hnn hl hei hej
  have hS := Lib.hid (And.intro (below_drewN (Below.refl W.heap.size W) 1) (And.intro hbx (And.intro a0 (And.intro a1 (And.intro a2 (And.intro a3 (And.intro a4 (And.intro a5 (And.intro b0 (And.intro b1 (And.intro b2 (And.intro b3 (And.intro b4 b5)))))))))))))
  have HR : Hid (cmpE l i j = if x then -1 else if y then 1 else 0) := HE
  clear HE
  obtain ⟨z, hz⟩ : ∃ z, z = cmpE l i j := ⟨_, rfl⟩
  rw [← hz] at HR ⊢
  clear hz
  go_enter Try.func34, Try.ntmps34
  go_wp2_with fail
  go_region_held3 (fun Wk => Below (W.heap.size) (W) Wk ∧ Wk.cell? ⟨bx, 0, none⟩ = some (.slice (some ⟨lb, lo, none⟩) n lc) ∧ Wk.cell? ⟨lb, lo + i * 6, none⟩ = some (.int .i64 t1) ∧ Wk.cell? ⟨lb, lo + i * 6 + 1, none⟩ = some (.slice p1 n1 c1) ∧ Wk.cell? ⟨lb, lo + i * 6 + 2, none⟩ = some (.int .i64 l1) ∧ Wk.cell? ⟨lb, lo + i * 6 + 3, none⟩ = some (.int .i64 q1) ∧ Wk.cell? ⟨lb, lo + i * 6 + 4, none⟩ = some (.int .i64 s1) ∧ Wk.cell? ⟨lb, lo + i * 6 + 5, none⟩ = some (.slice r1 m1 d1) ∧ Wk.cell? ⟨lb, lo + j * 6, none⟩ = some (.int .i64 t2) ∧ Wk.cell? ⟨lb, lo + j * 6 + 1, none⟩ = some (.slice p2 n2 c2) ∧ Wk.cell? ⟨lb, lo + j * 6 + 2, none⟩ = some (.int .i64 l2) ∧ Wk.cell? ⟨lb, lo + j * 6 + 3, none⟩ = some (.int .i64 q2) ∧ Wk.cell? ⟨lb, lo + j * 6 + 4, none⟩ = some (.int .i64 s2) ∧ Wk.cell? ⟨lb, lo + j * 6 + 5, none⟩ = some (.slice r2 m2 d2))
    (first | exact hS.out | exact held_13_0 hb1 (by assumption) | assumption)
    (first
    | (go_at_call 35; (with_reducible refine (HC1.out _).mono ?_); rintro e w1 ⟨rfl, hb1⟩))
  rename_i hT
  have HT := Lib.hid hT
  clear hbx a0 a1 a2 a3 a4 a5 b0 b1 b2 b3 b4 b5 hS hT hb1
  cases x
  · obtain ⟨hbb, hbx, a0, a1, a2, a3, a4, a5, b0, b1, b2, b3, b4, b5⟩ := HT.out
    have hS := Lib.hid (And.intro (below_drewN hbb 1) (And.intro hbx (And.intro a0 (And.intro a1 (And.intro a2 (And.intro a3 (And.intro a4 (And.intro a5 (And.intro b0 (And.intro b1 (And.intro b2 (And.intro b3 (And.intro b4 b5)))))))))))))
    clear hbb
    go_wp2_with fail
    go_region_held3 (fun Wk => Below (W.heap.size) (W) Wk ∧ Wk.cell? ⟨bx, 0, none⟩ = some (.slice (some ⟨lb, lo, none⟩) n lc) ∧ Wk.cell? ⟨lb, lo + i * 6, none⟩ = some (.int .i64 t1) ∧ Wk.cell? ⟨lb, lo + i * 6 + 1, none⟩ = some (.slice p1 n1 c1) ∧ Wk.cell? ⟨lb, lo + i * 6 + 2, none⟩ = some (.int .i64 l1) ∧ Wk.cell? ⟨lb, lo + i * 6 + 3, none⟩ = some (.int .i64 q1) ∧ Wk.cell? ⟨lb, lo + i * 6 + 4, none⟩ = some (.int .i64 s1) ∧ Wk.cell? ⟨lb, lo + i * 6 + 5, none⟩ = some (.slice r1 m1 d1) ∧ Wk.cell? ⟨lb, lo + j * 6, none⟩ = some (.int .i64 t2) ∧ Wk.cell? ⟨lb, lo + j * 6 + 1, none⟩ = some (.slice p2 n2 c2) ∧ Wk.cell? ⟨lb, lo + j * 6 + 2, none⟩ = some (.int .i64 l2) ∧ Wk.cell? ⟨lb, lo + j * 6 + 3, none⟩ = some (.int .i64 q2) ∧ Wk.cell? ⟨lb, lo + j * 6 + 4, none⟩ = some (.int .i64 s2) ∧ Wk.cell? ⟨lb, lo + j * 6 + 5, none⟩ = some (.slice r2 m2 d2))
      (first | exact hS.out | exact held_13_0 hb1 (by assumption) | assumption)
      (first
      | (go_at_call 35; (with_reducible refine (HC2.out _).mono ?_); rintro e w2 ⟨rfl, hb1⟩))
    rename_i hT2
    have HB := Lib.hid hT2.1
    clear hT2 hS hbx a0 a1 a2 a3 a4 a5 b0 b1 b2 b3 b4 b5 hb1
    cases y
    · go_wp2_with fail
      go_ret
      exact ⟨by rw [HR.out]; rfl, HB.out⟩
    · go_wp2_with fail
      go_ret
      exact ⟨by rw [HR.out]; rfl, HB.out⟩
  · have HB := Lib.hid HT.out.1
    go_wp2_with fail
    go_ret
    exact ⟨by rw [HR.out]; rfl, HB.out⟩

end Go.Proofs.Ytnknpgfconfgjaa

/-
  Lemmas, joined: WidH, EvP, StabP, TabB, TabC, TabP, StabM, StabR, StabS, StabT, StabU, StabV, TabE, TabF, TabD, TabG, TabI, TabJ, TabK, TabL, RunP.
-/
import Derived.Test.YtehcclcokgmplaaJA07
import Derived.Test.YtehcclcokgmplaaJA10
import Derived.Lib.Hide
import Derived.Test.YtehcclcokgmplaaJA04
import Derived.Deep.RegionHeld3
import Derived.BigRegion
import Derived.BigQuiet
import Derived.IntWalk
import Derived.Deep.AppendLies
import Derived.Outline
import Derived.Deep.DeepCutAuto
import Derived.LoopN
import Derived.Test.YtehcclcokgmplaaJA01
import Derived.Laws.AppendOwn
import Derived.Laws.AppendOwnNone
import Derived.Laws.OwnMore
import Derived.Deep.QuietTactic
import Derived.Test.YtehcclcokgmplaaJA03
import Derived.Test.YtehcclcokgmplaaJA02
/-
  Layer 10's code, walked: Width.
-/
namespace Go.Proofs.Ytehcclcokgmplaa
open Go.RowKit Go.Maps

theorem slice_of_own {w : World} {b E k n : Nat} {v : Value} {xs : List Value} (h : w.ownsRow b E k v n xs) : ∃ p c, v = .slice p n c := by
  obtain ⟨-, q | ⟨g, cap, cur, q1, -⟩⟩ := h
  · obtain ⟨rfl, rfl⟩ := q; exact ⟨none, 0, rfl⟩
  · exact ⟨_, cap, q1⟩
theorem push_wstk {w : World} {G : Nat} {rr : List Int} {z : Int} {v y : Value} (h : w.heap[G]? = some (.cells #[v, .bool false] 70 (0, 0))) (ho : w.ownsRow G 3 1 y (rr.length + 1) (wCells rr.reverse ++ [.int .i64 z])) (hy : y.ownBlock ≠ some G) (hl : rr.length < 6000) : WStk (w.setCell ⟨G, 0, none⟩ y) G G false (z :: rr).reverse := by
  refine ⟨y, heap_setCell2a h, ?_, hy, Nat.le_refl _, by simp; omega⟩
  have := own_setCell (i := 0) (u := y) ho hy
  rw [List.reverse_cons, wCells_snoc, List.length_append, List.length_reverse]
  exact this
theorem wpush_after {W0 w3 w5 : World} {o : Obj} {G : Nat} {pz : Option Addr} {cz : Nat} {z : Int} {y2 : Value} {rr : List Int} (g1 : w3.heap[G]? = some (.cells #[.slice pz rr.length cz, .bool false] 70 (0, 0))) (g3 : (Value.slice pz rr.length cz).ownBlock ≠ some G)
    (go : w3.ownsRow G 3 1 (.slice pz rr.length cz) rr.length (wCells rr.reverse)) (hB : Below G W0 w3) (h1 : w5.ownsRow G 3 1 y2 (rr.length + 1) (wCells rr.reverse ++ [.int .i64 z])) (h2 : (w3.alloc o).grownBy w5 (Value.slice pz rr.length cz).ownBlock) (hl : rr.length < 6000) :
    ∃ pq cq, y2 = .slice pq (rr.length + 1) cq ∧ w5.cell? ⟨G, 0, none⟩ = some (.slice pz rr.length cz) ∧ w5.frozen? ⟨G, 0, none⟩ = false ∧ WStk (w5.setCell ⟨G, 0, none⟩ y2) G G false (z :: rr).reverse ∧ Below G W0 (w5.setCell ⟨G, 0, none⟩ y2) := by
  have hG : G < w3.heap.size := (Array.getElem?_eq_some_iff.1 g1).1
  have k1 : w5.heap[G]? = some (.cells #[.slice pz rr.length cz, .bool false] 70 (0, 0)) := (push_kept g1 hG (Below.refl _ _) h2 g3).trans g1
  have k2 : y2.ownBlock ≠ some G := fun e => by
    obtain ⟨cur, q1, -⟩ := own_type h1 e
    rw [k1] at q1
    simp at q1
  obtain ⟨pq, cq, rfl⟩ := slice_of_own h1
  refine ⟨pq, cq, rfl, by simp [World.cell?, k1], by simp [World.frozen?, k1], push_wstk k1 h1 k2 hl, ?_⟩
  exact (below_grown (hB.alloc (Nat.le_of_lt hG) _) (go.alloc _) h2 (Nat.le_refl _) (by simp; omega)).setCell (Nat.le_refl _) _
set_option maxRecDepth 100000 in
set_option maxHeartbeats 6400000 in
theorem lwidth_any (s : PgS) (p : Prg) (act : Int) (c : List Nod) (cp : Option Addr) (n cc : Nat) (w : World) (hp : PgOk w s p) (hc : CRow w (.slice cp n cc) c) (hn : n ≤ 6000) :
    Calls Try.prog 10 #[pgV s, .int .i64 act, .slice cp n cc] w fun e w' => e = .returned (wRes (widthP p act c)) ∧ Below w.heap.size w w' := by
  obtain ⟨hcn, hcc, hcm, -⟩ := hc.ln
  have HNO : Hid (∀ k, foldW p act [] (c.take k) = none → widthP p act c = none) := fun k h => foldW_none h
  have HC := Lib.hid hc
  have HCN := Lib.hid hcn
  have HP := Lib.hid hp
  have hbig : ¬ (65536 : Int) < (n : Int) := by omega
  clear hp hc hcn
  unfold pgV
  go_enter Try.func10, Try.ntmps10
  go_upto_region 4 with fail
  obtain ⟨W0, hW0⟩ : ∃ W0, W0 = (w.alloc (.cells #[.slice s.hp s.hn s.hc, .slice s.mp s.mn s.mc, .slice s.sp s.sn s.sc, .slice s.ap s.an s.ac, .slice s.tp s.tn s.tc, .slice s.cp s.cn s.cc, .slice s.ep s.en s.ec, .slice s.v1 s.n1 s.c1, .slice s.v2 s.n2 s.c2, .slice s.v3 s.n3 s.c3, .slice s.v4 s.n4 s.c4, .slice s.v5 s.n5 s.c5] 33)).alloc (.cells #[.slice none 0 0, .bool false] 70) := ⟨_, rfl⟩
  have HB0 : Hid (Below w.heap.size w W0) := by show Below _ _ _; rw [hW0]; exact (by repeat (first | exact Below.refl _ _ | assumption | refine Below.drew ?_ | refine Below.alloc ?_ (by first | omega | (simp <;> omega)) _ | refine Below.setCell ?_ (by first | omega | (simp <;> omega)) _ | refine Below.trans ?_ (Below.mono (by assumption) (by first | omega | (simp <;> omega)))))
  have HPB : Hid (PBox W0 w.heap.size s) := by show _ = _; rw [hW0, Below.heap_alloc _ _ _ (by simp)]; exact heap_new _ _
  have hh : W0.heap[w.heap.size + 1]? = some (.cells #[.slice none 0 0, .bool false] 70 (0, 0)) := by
    rw [hW0]
    have := heap_new (w.alloc (.cells #[.slice s.hp s.hn s.hc, .slice s.mp s.mn s.mc, .slice s.sp s.sn s.sc, .slice s.ap s.an s.ac, .slice s.tp s.tn s.tc, .slice s.cp s.cn s.cc, .slice s.ep s.en s.ec, .slice s.v1 s.n1 s.c1, .slice s.v2 s.n2 s.c2, .slice s.v3 s.n3 s.c3, .slice s.v4 s.n4 s.c4, .slice s.v5 s.n5 s.c5] 33)) (.cells #[.slice none 0 0, .bool false] 70)
    simp only [World.size_alloc] at this
    exact this
  obtain ⟨G, hG⟩ : ∃ G, G = w.heap.size + 1 := ⟨_, rfl⟩
  have HG := Lib.hid hG
  rw [← hG] at hh ⊢
  rw [← hW0]
  have HS0 : Hid (WStk W0 G G false [].reverse) := ⟨_, hh, ⟨rfl, .inl ⟨rfl, rfl⟩⟩, (by intro e; cases e), Nat.le_refl _, Nat.zero_le _⟩
  clear hW0 hh hG
  go_wp2_with fail
  go_loopw [19] (fun i wr => ∃ (k : Nat) (st : List Int), k ≤ n ∧ i = .int .i64 k ∧ Hid (WStk wr G G false st.reverse) ∧ Hid (foldW p act [] (c.take k) = some st) ∧ Hid (Below G W0 wr)) (fun i _ => n - (intOf i).toNat)
  case atStart => exact ⟨0, [], Nat.zero_le _, rfl, HS0, rfl, Below.refl _ _⟩
  case round =>
    obtain ⟨k, st, hk, rfl, HS, HF, HW⟩ := hrel
    obtain ⟨hs1, hs2⟩ := foldW_ok HF.out
    have HS1 := Lib.hid hs1
    have HS2 := Lib.hid hs2
    clear hs1 hs2
    have HWC : Hid (Below w.heap.size w wr) := HB0.out.trans (HW.out.mono (by rw [HG.out]; omega))
    have HPR : Hid (PBox wr w.heap.size s) := (HW.out.block _ (by rw [HG.out]; omega)).trans HPB.out
    by_cases hlt : k < n
    · obtain ⟨d, hd⟩ : ∃ d, c[k]? = some d := ⟨_, List.getElem?_eq_getElem (by have := HCN.out; omega)⟩
      obtain ⟨bb, oo, rfl, hbb, c0, c1, c2, c3, hv, c4, c5⟩ := (HC.out.below keepNd HWC.out).get hd
      have hfk : foldW p act [] (c.take (k + 1)) = stepW p act st d := by rw [foldW_snoc hd, HF.out]; rfl
      have HFK := Lib.hid hfk
      have HDO := Lib.hid (does_all s p act d G G st hv HS1.out)
      obtain ⟨op, kk, a, b, v⟩ := d
      simp only at c0 c1 c2 c3 c4 c5 hv
      unfold pgV ndV at HDO
      dsimp only at HDO
      obtain ⟨x, hx⟩ : ∃ x : Int, x = ((v / B : Nat) : Int) := ⟨_, rfl⟩
      obtain ⟨y, hy⟩ : ∃ y : Int, y = ((v % B : Nat) : Int) := ⟨_, rfl⟩
      rw [← hx, ← hy] at HDO
      rw [← hx] at c4
      rw [← hy] at c5
      have HXY := Lib.hid (And.intro hx hy)
      clear hx hy
      clear hfk hd hv
      go_upto_region 7 with fail
      obtain ⟨W1, hW1⟩ : ∃ W1, W1 = wr.alloc (.cells #[.int .u8 op, .int .i64 kk, .int .i64 a, .int .i64 b, .int .u64 x, .int .u64 y] 61) := ⟨_, rfl⟩
      have HW1 : Hid (Below wr.heap.size wr W1) := by show Below _ _ _; rw [hW1]; exact (Below.refl _ _).alloc (Nat.le_refl _) _
      have HNB : Hid (NBox W1 wr.heap.size op kk a b x y) := by show _ = _; rw [hW1]; exact heap_new _ _
      have HS3 : Hid (WStk W1 G G false st.reverse) := HS.out.below HW1.out
      have hgn : wr.heap.size ≠ G := by have := HS.out.lt; omega
      have HP1 : Hid (PgOk W1 s p) := HP.out.below (HWC.out.trans (HW1.out.mono HWC.out.size))
      have HW0 : Hid (Below G W0 W1) := HW.out.trans (HW1.out.mono (by have := HS.out.lt; omega))
      have HPB1 : Hid (PBox W1 w.heap.size s) := HPR.out.below HW1.out
      rw [← hW1]
      clear hW1 c0 c1 c2 c3 c4 c5
      generalize wr.heap.size = N at *
      obtain ⟨n0, n1, n2, n3, n4, n5⟩ := HNB.out.cells
      obtain ⟨q0, q1, q2, q3, q4, q5, q6, q7, q8, q9, q10, q11⟩ := HPB1.out.cells
      rcases HDO.out with ⟨z, rr, e1, e2⟩ | ⟨e1, e2⟩
      · have HCA := Lib.hid (e2 W1 HP1.out HS3.out)
        have HE1 := Lib.hid e1
        clear e1 e2 HDO
        have HBG : Hid (∀ W, Below G W1 W → Below w.heap.size w W) := fun W h => HB0.out.trans ((HW0.out.trans h).mono (by rw [HG.out]; omega))
        have HWF : Hid (∀ W W', Below G W1 W → Below W.heap.size W W' → Below G W0 W') := fun W W' h h' => HW0.out.trans (h.trans (h'.mono (by have := h.size; have := HS3.out.lt; omega)))
        have HOKC : Hid (∀ W, Calls Try.prog 14 #[.int .i64 z] W fun e w' => e = .returned (.bool (okP z)) ∧ w' = W) := fun W => isWidth_any z W
        by_cases hz : z = kk
        · subst hz
          obtain ⟨ro, hro⟩ : ∃ ro, ro = okP z := ⟨_, rfl⟩
          rw [← hro] at HOKC
          obtain ⟨ra, hra⟩ : ∃ ra, ra = askP ⟨op, z, a, b, v⟩ := ⟨_, rfl⟩
          have HASK : Hid (∀ W, Calls Try.prog 15 #[.agg #[.int .u8 op, .int .i64 z, .int .i64 a, .int .i64 b, .int .u64 x, .int .u64 y]] W fun e w' => e = .returned (.bool ra) ∧ Below W.heap.size W w') := fun W => by rw [hra, HXY.out.1, HXY.out.2]; exact asks_any ⟨op, z, a, b, v⟩ W
          have HRO := Lib.hid hro
          have HRA := Lib.hid hra
          clear hro hra
          cases ro
          · go_wp2_with (first | (go_at_call 13; refine HCA.out.mono ?_; rintro e w2 ⟨rfl, hs2, hb2, ha2⟩; have HS4 := Lib.hid hs2; have HB2 := Lib.hid hb2; have HNB2 := Lib.hid (HNB.out.apart ha2 hgn); obtain ⟨m0, m1, m2, m3, m4, m5⟩ := HNB2.out.cells; obtain ⟨v2, g1, -⟩ := id hs2; have g0 : w2.cell? ⟨G, 0, none⟩ = some v2 := (by simp [World.cell?, g1]); have g00 : w2.cell? ⟨G, 1, none⟩ = some (.bool false) := (by simp [World.cell?, g1]); have HBE : Hid (Below w.heap.size w w2) := HBG.out _ hb2; clear g1 hs2 hb2 ha2) | (go_at_call 14; refine (HOKC.out _).mono ?_; rintro e w3 ⟨rfl, hw3⟩; obtain rfl : w2 = w3 := hw3.symm; clear hw3))
            refine bodyPost_ret (results_tmp2 rfl _ _ _) rfl ⟨?_, HBE.out⟩
            rw [HNO.out _ (HFK.out.trans ?_)]
            · rfl
            · rw [HE1.out, if_neg ?_]
              intro q; rw [← HRO.out] at q; exact absurd q.2.1 (by simp)
          · cases ra
            · go_wp2_with (first | (go_at_call 13; refine HCA.out.mono ?_; rintro e w2 ⟨rfl, hs2, hb2, ha2⟩; have HS4 := Lib.hid hs2; have HB2 := Lib.hid hb2; have HNB2 := Lib.hid (HNB.out.apart ha2 hgn); obtain ⟨m0, m1, m2, m3, m4, m5⟩ := HNB2.out.cells; obtain ⟨v2, g1, -⟩ := id hs2; have g0 : w2.cell? ⟨G, 0, none⟩ = some v2 := (by simp [World.cell?, g1]); have g00 : w2.cell? ⟨G, 1, none⟩ = some (.bool false) := (by simp [World.cell?, g1]); have HBE : Hid (Below w.heap.size w w2) := HBG.out _ hb2; clear g1 hs2 hb2 ha2) | (go_at_call 14; refine (HOKC.out _).mono ?_; rintro e w3 ⟨rfl, hw3⟩; obtain rfl : w2 = w3 := hw3.symm; clear hw3) | (go_at_call 15; refine (HASK.out _).mono ?_; rintro e w3 ⟨rfl, hb3⟩; have HB3 : Hid (Below w2.heap.size w2 w3) := hb3; have HS5 := Lib.hid (HS4.out.below hb3); obtain ⟨v3, g1, go, g3, g4, g5⟩ := HS5.out; rw [List.length_reverse] at go; obtain ⟨pz, cz, rfl⟩ : ∃ pz cz, v3 = .slice pz rr.length cz := slice_of_own go; have G1 := Lib.hid g1; have GO := Lib.hid go; have G3 := Lib.hid g3; have g0' : w3.cell? ⟨G, 0, none⟩ = some (.slice pz rr.length cz) := (by simp [World.cell?, g1]); have HBE3 : Hid (Below w.heap.size w w3) := HBE.out.trans (hb3.mono HBE.out.size); have HGL : Hid (G < w3.heap.size) := HS5.out.lt; clear g1 go g3 g4 g5 hb3))
              refine bodyPost_ret (results_tmp2 rfl _ _ _) rfl ⟨?_, HBE3.out⟩
              rw [HNO.out _ (HFK.out.trans ?_)]
              · rfl
              · rw [HE1.out, if_neg ?_]
                intro q; rw [← HRA.out] at q; exact absurd q.2.2 (by simp)
            · have HNX : Hid (foldW p act [] (c.take (k + 1)) = some (z :: rr)) := by
                show _ = _
                rw [HFK.out, HE1.out, if_pos ⟨rfl, HRO.out.symm, HRA.out.symm⟩]
              have HRL : Hid (rr.length < 6000) := by
                have := (foldW_ok HNX.out).2
                simp at this
                show _ < _
                omega
              have HL1 : Hid ((rr.length + 1) * 8 ≤ 140737488355328) := by have := HRL.out; show _ ≤ _; omega
              have HL2 : Hid (rr.length + 1 ≤ maxLen) := by have := HRL.out; show _ ≤ _; unfold maxLen; omega
              have HSZ : Hid (∀ (W : World) (o : Obj), G < W.heap.size → G ≤ (W.alloc o).heap.size) := fun W o h => by simp; omega
              go_wp2_with (first | (go_at_call 13; refine HCA.out.mono ?_; rintro e w2 ⟨rfl, hs2, hb2, ha2⟩; have HS4 := Lib.hid hs2; have HB2 := Lib.hid hb2; have HNB2 := Lib.hid (HNB.out.apart ha2 hgn); obtain ⟨m0, m1, m2, m3, m4, m5⟩ := HNB2.out.cells; obtain ⟨v2, g1, -⟩ := id hs2; have g0 : w2.cell? ⟨G, 0, none⟩ = some v2 := (by simp [World.cell?, g1]); have g00 : w2.cell? ⟨G, 1, none⟩ = some (.bool false) := (by simp [World.cell?, g1]); have HBE : Hid (Below w.heap.size w w2) := HBG.out _ hb2; clear g1 hs2 hb2 ha2) | (go_at_call 14; refine (HOKC.out _).mono ?_; rintro e w3 ⟨rfl, hw3⟩; obtain rfl : w2 = w3 := hw3.symm; clear hw3) | (go_at_call 15; refine (HASK.out _).mono ?_; rintro e w3 ⟨rfl, hb3⟩; have HB3 : Hid (Below w2.heap.size w2 w3) := hb3; have HS5 := Lib.hid (HS4.out.below hb3); obtain ⟨v3, g1, go, g3, g4, g5⟩ := HS5.out; rw [List.length_reverse] at go; obtain ⟨pz, cz, rfl⟩ : ∃ pz cz, v3 = .slice pz rr.length cz := slice_of_own go; have G1 := Lib.hid g1; have GO := Lib.hid go; have G3 := Lib.hid g3; have g0' : w3.cell? ⟨G, 0, none⟩ = some (.slice pz rr.length cz) := (by simp [World.cell?, g1]); have HBE3 : Hid (Below w.heap.size w w3) := HBE.out.trans (hb3.mono HBE.out.size); have HGL : Hid (G < w3.heap.size) := HS5.out.lt; clear g1 go g3 g4 g5 hb3) | (at_builtin; (have hq1 := GO.out.alloc (.cells #[.int .i64 z] 3)); (have hq2 := src_one (w := w3.alloc (.cells #[.int .i64 z] 3)) (g := w3.heap.size) (c := 1) (news := [.int .i64 z]) (size := 1) rfl (fun u hu => by simp at hu; subst hu; rfl) (fun j u hj => by match j, hj with | 0, hj => cases hj; simp [go_sem])); (refine append_gen elemInt rfl (.tmp 52) (.tmp 54) rfl G (.slice pz rr.length cz) rr.length (wCells rr.reverse) rfl hq1 (.slice (some ⟨w3.heap.size, 0, none⟩) 1 1) 1 [.int .i64 z] rfl hq2 HL1.out HL2.out (HSZ.out _ _ HGL.out) ?_); clear hq1 hq2; intro y2 w5 h1 h2; obtain ⟨pq, cq, rfl, kc, kf, hfin, hbf⟩ := wpush_after G1.out G3.out GO.out (HWF.out _ _ HB2.out HB3.out) h1 h2 HRL.out; have HFIN := Lib.hid hfin; have HBF := Lib.hid hbf; clear h1 h2 hfin hbf))
              go_roundw
              case rel => exact ⟨k + 1, z :: rr, by omega, by go_num, HFIN, HNX, HBF⟩
              case measure => simp [intOf]; omega
        · have hzk : (z != kk) = true := by simp [hz]
          have hzk2 : (z == kk) = false := by simp [hz]
          go_wp2_with (go_at_call 13; refine HCA.out.mono ?_; rintro e w2 ⟨rfl, hs2, hb2, ha2⟩; have HS4 := Lib.hid hs2; have HB2 := Lib.hid hb2; have HNB2 := Lib.hid (HNB.out.apart ha2 hgn); obtain ⟨m0, m1, m2, m3, m4, m5⟩ := HNB2.out.cells; obtain ⟨v2, g1, -⟩ := id hs2; have g0 : w2.cell? ⟨G, 0, none⟩ = some v2 := (by simp [World.cell?, g1]); have g00 : w2.cell? ⟨G, 1, none⟩ = some (.bool false) := (by simp [World.cell?, g1]); have HBE : Hid (Below w.heap.size w w2) := HBG.out _ hb2; clear g1 hs2 hb2 ha2)
          refine bodyPost_ret (results_tmp2 rfl _ _ _) rfl ⟨?_, HBE.out⟩
          rw [HNO.out _ (HFK.out.trans ?_)]
          · rfl
          · rw [HE1.out, if_neg ?_]
            exact fun q => hz q.1
      · have HCA := Lib.hid (e2 W1 HP1.out HS3.out)
        have HBG : Hid (∀ W, Below G W1 W → Below w.heap.size w W) := fun W h => HB0.out.trans ((HW0.out.trans h).mono (by rw [HG.out]; omega))
        have HE1 := Lib.hid e1
        clear e1 e2 HDO
        go_wp2_with (go_at_call 13; refine HCA.out.mono ?_; rintro e w2 ⟨z, rfl, hs2, hb2, ha2⟩; obtain ⟨v2, g1, -⟩ := id hs2; have g00 : w2.cell? ⟨G, 1, none⟩ = some (.bool true) := (by simp [World.cell?, g1]); have HBE : Hid (Below w.heap.size w w2) := HBG.out _ hb2; clear g1 hs2 hb2 ha2)
        refine bodyPost_ret (results_tmp2 rfl _ _ _) rfl ⟨?_, HBE.out⟩
        rw [HNO.out _ (HFK.out.trans HE1.out)]
        rfl
    · obtain rfl : k = n := by omega
      have hki : ¬ (k : Int) < (k : Int) := by omega
      have HLA : Hid (widthP p act c = lastW st) := width_last (by have := HCN.out; omega) (by have := HF.out; rwa [List.take_of_length_le (by have := HCN.out; omega)] at this)
      obtain ⟨v2, g1, go, g3, g4, g5⟩ := HS.out
      rw [List.length_reverse] at go
      obtain ⟨pz, cz, rfl⟩ : ∃ pz cz, v2 = .slice pz st.length cz := slice_of_own go
      have g0 : wr.cell? ⟨G, 0, none⟩ = some (.slice pz st.length cz) := by simp [World.cell?, g1]
      clear g1 g3 g4 g5
      rcases st with _ | ⟨z, _ | ⟨z2, r⟩⟩
      · dsimp only [List.length_nil] at g0
        clear go
        go_wp2_with fail
        refine bodyPost_ret (results_tmp2 rfl _ _ _) rfl ⟨?_, HWC.out⟩
        rw [HLA.out]
        rfl
      · dsimp only [List.length_cons, List.length_nil] at g0 go
        obtain ⟨g, rfl⟩ : ∃ g, pz = some ⟨g, 0, none⟩ := by
          obtain ⟨-, q | ⟨g, cap, cur, q1, -⟩⟩ := go
          · exact absurd q.2 (by omega)
          · simp at q1; exact ⟨g, q1.1⟩
        have gz : wr.cell? ⟨g, 0, none⟩ = some (.int .i64 z) := own_cell (n := 1) go (by simp [wCells])
        clear go
        go_wp2_with fail
        refine bodyPost_ret (results_tmp2 rfl _ _ _) rfl ⟨?_, HWC.out⟩
        rw [HLA.out]
        rfl
      · dsimp only [List.length_cons] at g0
        have hne : ¬ ((r.length + 1 + 1 : Nat) : Int) = 1 := by omega
        have hne2 : (((r.length + 1 + 1 : Nat) : Int) != 1) = true := by simp; omega
        clear go
        generalize r.length + 1 + 1 = LL at *
        go_wp2_with fail
        refine bodyPost_ret (results_tmp2 rfl _ _ _) rfl ⟨?_, HWC.out⟩
        rw [HLA.out]
        rfl

end Go.Proofs.Ytehcclcokgmplaa

/-
  The value of typed code, of a packet and arguments; packets that fit.
-/
namespace Go.Proofs.Ytehcclcokgmplaa

def truthN (b : Bool) : Nat := if b then 1 else 0
/-- Is there such a field? -/
def thereP (x : Pkt) (h f : Int) : Prop := 0 ≤ h ∧ h < (x.valid.length : Int) ∧ h < (x.fields.length : Int) ∧ 0 ≤ f ∧ f < ((x.fields.getD h.toNat []).length : Int)
instance (x : Pkt) (h f : Int) : Decidable (thereP x h f) := inferInstanceAs (Decidable (_ ∧ _))
def getP (x : Pkt) (h f : Int) : Nat := if thereP x h f ∧ x.valid.getD h.toNat false = true then (x.fields.getD h.toNat []).getD f.toNat 0 else 0
/-- Is it an invalid access? -/
def accP (x : Pkt) (h f : Int) : Bool := decide (thereP x h f) && !x.valid.getD h.toNat false

/-- A leaf's number, not yet cut. -/
def leafP (x : Pkt) (args : List Nat) (n : Nod) : Nat :=
  if n.op = 1 then n.v else if n.op = 2 then getP x n.a n.b else if n.op = 3 then x.metas.getD n.a.toNat 0 else if n.op = 4 then args.getD n.a.toNat 0 else if n.op = 5 then x.port.toNat else truthN (x.valid.getD n.a.toNat false)
def leafA (x : Pkt) (n : Nod) : Bool := decide (n.op = 2) && accP x n.a n.b
def un1 (n : Nod) (v : Nat) : Nat :=
  if n.op = 7 then (v % 2 ^ sh n.w) ^^^ (2 ^ sh n.w - 1) else if n.op = 8 then (0 + (B * B - v)) % (B * B) % 2 ^ sh n.w else if n.op = 9 then v / 2 ^ sh n.b % 2 ^ sh (n.a - n.b + 1) else if n.op = 13 then v * 2 ^ sh n.a % (B * B) % 2 ^ sh n.w else v / 2 ^ sh n.a
def bin2 (n : Nod) (a b : Nat) (wb : Int) : Nat :=
  if n.op = 10 then (a * 2 ^ sh wb % (B * B) % 2 ^ sh 128) ||| (b % 2 ^ sh wb) else if n.op = 11 then (a + b) % (B * B) % 2 ^ sh n.w else if n.op = 12 then (a + (B * B - b)) % (B * B) % 2 ^ sh n.w
  else if n.op = 15 then a &&& b else if n.op = 16 then a ^^^ b else if n.op = 17 then a ||| b else if n.op = 18 then truthN (decide (a = b)) else if n.op = 19 then truthN (decide (a < b)) else truthN (decide (a ≤ b))
/-- A tree's number. -/
def evT (x : Pkt) (args : List Nat) : Tr → Nat
  | .leaf n => leafP x args n % 2 ^ sh n.w
  | .un n t => un1 n (evT x args t) % 2 ^ sh n.w
  | .bin n a b => bin2 n (evT x args a) (evT x args b) b.root.w % 2 ^ sh n.w
theorem ev_lt (x : Pkt) (args : List Nat) (t : Tr) : evT x args t < 2 ^ sh t.root.w := by
  cases t <;> exact Nat.mod_lt _ (Nat.two_pow_pos _)
theorem pow_BB : (2 : Nat) ^ 128 = B * B := by decide
theorem sh_ltBB {v : Nat} {k : Int} (h : v < 2 ^ sh k) : v < B * B := by
  rw [← pow_BB]; exact Nat.lt_of_lt_of_le h (Nat.pow_le_pow_right (by omega) (sh_le k))
/-- One node more: a leaf, or it takes one, or two. -/
theorem tree_step {p : Prg} {act : Int} {st st2 : List Int} {n : Nod} {ts : List Tr} (hs : stepW p act st n = some st2) (e2 : ts.length = st.length) (e3 : ∀ (j : Nat) (t : Tr) (w : Int), ts[j]? = some t → st[j]? = some w → WTr p act t w) :
    (1 ≤ n.op ∧ n.op ≤ 6 ∧ plain0P p act n = n.w ∧ okP n.w = true ∧ st2 = n.w :: st) ∨
    (∃ t r w r', isUn n.op ∧ ts = t :: r ∧ st = w :: r' ∧ st2 = n.w :: r' ∧ WTr p act t w ∧ single0P n w = n.w ∧ okP n.w = true ∧ n.v = 0) ∨
    (∃ b a r wb wa r', ¬ (1 ≤ n.op ∧ n.op ≤ 6) ∧ ¬ isUn n.op ∧ ts = b :: a :: r ∧ st = wb :: wa :: r' ∧ st2 = n.w :: r' ∧ WTr p act a wa ∧ WTr p act b wb ∧ pair0P n wa wb = n.w ∧ okP n.w = true ∧ n.v = 0) := by
  unfold stepW at hs
  simp only at hs
  split at hs
  · rename_i hop
    split at hs
    · rename_i hw
      cases hs
      left
      exact ⟨hop.1, hop.2, hw.1, by rw [← hw.1]; exact hw.2, by rw [hw.1]⟩
    · cases hs
  · rename_i hop
    right
    split at hs
    · cases hs
    · rename_i hv
      have hv0 : n.v = 0 := by omega
      split at hs
      · rename_i hun
        left
        split at hs
        · cases hs
        · rename_i t r
          split at hs
          · rename_i hw
            cases hs
            match ts, e2 with
            | tt :: tr, e2 => exact ⟨tt, tr, t, r, hun, rfl, rfl, by rw [hw.1], e3 0 tt t rfl rfl, hw.1, by rw [← hw.1]; exact hw.2, hv0⟩
          · cases hs
      · rename_i hun
        right
        split at hs
        · rename_i b a r
          split at hs
          · rename_i hw
            cases hs
            match ts, e2 with
            | tb :: ta :: tr, e2 => exact ⟨tb, ta, tr, b, a, r, hop, hun, rfl, rfl, by rw [hw.1], e3 1 ta a rfl rfl, e3 0 tb b rfl rfl, hw.1, by rw [← hw.1]; exact hw.2, hv0⟩
          · cases hs
        · cases hs

end Go.Proofs.Ytehcclcokgmplaa



































/-
  slices.Clone of numbers; table.Lookup and the document's.
-/
namespace Go.Proofs.Ytehcclcokgmplaa
open Go.RowKit

def numC (n : Nat) : List Value := [.int .u64 ((n / B : Nat) : Int), .int .u64 ((n % B : Nat) : Int)]
theorem flatGN : FlatG 2 NAt numC where
  len := fun _ => rfl
  one := fun x u hu => by
    unfold numC at hu
    simp at hu
    rcases hu with rfl | rfl <;> rfl
  get := fun w b o x h i v hi => by
    match i, hi with
    | 0, hi => cases hi; exact h.2.1
    | 1, hi => cases hi; exact h.2.2
theorem putN {w : World} {b o n : Nat} (hn : n < B * B) (h : CellsAt w b o (numC n)) : NAt w b o n := ⟨hn, h 0 _ rfl, h 1 _ rfl⟩
/-- The list's numbers are numbers. -/
def Nums (l : List Nat) : Prop := ∀ n ∈ l, n < B * B
/-- Numbers in memory of a call's own. -/
def NOwn (base : Nat) (w : World) (v : Value) (l : List Nat) : Prop := w.ownsRow base 59 2 v l.length (l.flatMap numC) ∧ Nums l
theorem NOwn.row {base : Nat} {w : World} {v : Value} {l : List Nat} (h : NOwn base w v l) : NRow w v l :=
  RowAt.of_flatG flatGN.len rfl h.1 fun x hx _b _o => putN (h.2 x hx)

end Go.Proofs.Ytehcclcokgmplaa

/-
  Layer 21 as plain functions: codes' values, what is chosen, instructions that are run.
-/
namespace Go.Proofs.Ytehcclcokgmplaa

/-! ### a code's value, node by node (the last one first) -/
def stepE (x : Pkt) (args : List Nat) (st : List (Nat × Int)) (n : Nod) : List (Nat × Int) :=
  if n.op ≤ 6 then (leafP x args n % 2 ^ sh n.w, n.w) :: st
  else if isUn n.op then (match st with | [] => [] | a :: r => (un1 n a.1 % 2 ^ sh n.w, n.w) :: r)
  else (match st with | b :: a :: r => (bin2 n a.1 b.1 b.2 % 2 ^ sh n.w, n.w) :: r | _ => [])
def evC (x : Pkt) (args : List Nat) (c : List Nod) : Nat := match c.foldl (stepE x args) [] with | a :: _ => a.1 | [] => 0
def accC (x : Pkt) (c : List Nod) : Bool := c.any (leafA x)
theorem isUn_gt {op : Int} (h : isUn op) : ¬ op ≤ 6 := by unfold isUn at h; omega
theorem foldE_flat {p : Prg} {act : Int} {t : Tr} {w : Int} (x : Pkt) (args : List Nat) (h : WTr p act t w) : ∀ st, t.flat.foldl (stepE x args) st = (evT x args t, t.root.w) :: st := by
  induction h with
  | leaf n h1 h2 _ _ =>
    intro st
    simp only [Tr.flat, List.foldl_cons, List.foldl_nil, Tr.root, evT]
    unfold stepE; rw [if_pos h2]
  | un n t w hu _ _ _ _ ih =>
    intro st
    simp only [Tr.flat, List.foldl_append, List.foldl_cons, List.foldl_nil, ih st, Tr.root, evT]
    unfold stepE; rw [if_neg (isUn_gt hu), if_pos hu]
  | bin n a b wa wb h1 hu _ _ _ h6 h7 iha ihb =>
    intro st
    have hop := bin_op h6 h7
    simp only [Tr.flat, List.foldl_append, List.foldl_cons, List.foldl_nil, iha st, ihb, Tr.root, evT]
    unfold stepE; rw [if_neg (by omega), if_neg hu]
theorem evC_flat {p : Prg} {act : Int} {t : Tr} {w : Int} (x : Pkt) (args : List Nat) (h : WTr p act t w) : evC x args t.flat = evT x args t := by
  unfold evC; rw [foldE_flat x args h]
theorem leafA_un {x : Pkt} {n : Nod} (h : ¬ n.op ≤ 6) : leafA x n = false := by unfold leafA; rw [decide_eq_false (by omega)]; rfl
/-! ### what is chosen -/
/-! ### instructions -/
end Go.Proofs.Ytehcclcokgmplaa

/-
  Lemmas, joined: Law17P, Open17.
-/
import Derived.Test.YtlnkflmnjkmhkaaJR38
import Derived.Test.YtlnkflmnjkmhkaaJR19
import Derived.Deep.RegionHeld3
import Derived.Test.YtlnkflmnjkmhkaaRows
import Derived.WalkKit
import Derived.ProofKit
import Derived.OpenShut
import Derived.ChangeOld
import Derived.Below
import Derived.Deep.Slices
import Derived.Test.YtlnkflmnjkmhkaaJR01
/-
  The law SymbvPlays of layer 17: the walk.
-/
namespace Go.Proofs.Ytlnkflmnjkmhkaa
open Go.RowKit Go.Maps

set_option maxRecDepth 100000 in
set_option maxHeartbeats 1000000 in
theorem neq_same (a b : Int) (W : World) : (Go.binOp .neq 41 (.agg #[.int .u64 a, .int .u64 b]) (.agg #[.int .u64 a, .int .u64 b])).run Try.prog W = .ok (.bool false) W := by simp [go_sem]

theorem OpsAt17.below {w w' : World} {va : Value} {n : Nat} (h : OpsAt17 w va n) (hb : Below w.heap.size w w') : OpsAt17 w' va n := by
  obtain ⟨pa, cap, e, hm, hops⟩ := h
  refine ⟨pa, cap, e, hm, fun h0 => ?_⟩
  obtain ⟨d, off, e1, hd, hc⟩ := hops h0
  refine ⟨d, off, e1, Nat.lt_of_lt_of_le hd hb.size, fun k hk => ?_⟩
  obtain ⟨kind, oa, ob, oc, ok, ol, n0, n1, b0, b1, b2, q0, q1, q2, q3, q4, q5, q6, q7⟩ := hc k hk
  have e : ∀ j, w'.cell? ⟨d, j, none⟩ = w.cell? ⟨d, j, none⟩ := fun j => hb.cell (p := ⟨d, j, none⟩) hd
  exact ⟨kind, oa, ob, oc, ok, ol, n0, n1, b0, b1, b2, (e _).trans q0, (e _).trans q1, (e _).trans q2, (e _).trans q3, (e _).trans q4, (e _).trans q5, (e _).trans q6, (e _).trans q7⟩

theorem held17 {X W w1 : World} {g3 g4 bw : Nat} {a b c : Value} (hb : Below W.heap.size W w1) (h : Below X.heap.size X W ∧ W.cell? ⟨g3, 0, none⟩ = some a ∧ W.cell? ⟨g3, 1, none⟩ = some b ∧ W.cell? ⟨g4, 0, none⟩ = some a ∧ W.cell? ⟨g4, 1, none⟩ = some b ∧ W.cell? ⟨bw, 2, none⟩ = some c) :
    Below X.heap.size X w1 ∧ w1.cell? ⟨g3, 0, none⟩ = some a ∧ w1.cell? ⟨g3, 1, none⟩ = some b ∧ w1.cell? ⟨g4, 0, none⟩ = some a ∧ w1.cell? ⟨g4, 1, none⟩ = some b ∧ w1.cell? ⟨bw, 2, none⟩ = some c := by
  obtain ⟨e, -⟩ := bcell hb
  obtain ⟨q0, q1, q2, q3, q4, q5⟩ := h
  exact ⟨q0.trans (hb.mono q0.size), (e _ _ (cell_there q1).1).trans q1, (e _ _ (cell_there q2).1).trans q2, (e _ _ (cell_there q3).1).trans q3, (e _ _ (cell_there q4).1).trans q4, (e _ _ (cell_there q5).1).trans q5⟩

/-- A row of the round's own, written over. -/
def LoopV (z0 : Nat) (x : Value) (m : Nat) (w5 wr : World) : Prop := (∃ zs, wr.ownsRow z0 3 1 x m zs) ∧ Ext (fun i => x.ownBlock = some i) (fun i => x.ownBlock = some i) w5 wr
theorem LoopV.step {z0 m cx j : Nat} {px : Option Addr} {w5 wr : World} (h : LoopV z0 (.slice px m cx) m w5 wr) (hj : j < m) :
    ∃ gv, px = some ⟨gv, 0, none⟩ ∧ (∃ u, wr.cell? ⟨gv, j, none⟩ = some u) ∧ wr.frozen? ⟨gv, j, none⟩ = false ∧ ∀ u, LoopV z0 (.slice px m cx) m w5 (wr.setCell ⟨gv, j, none⟩ u) := by
  obtain ⟨⟨zs, hown⟩, hext⟩ := h
  have hown' := hown
  obtain ⟨hl, ⟨e, -⟩ | ⟨gv, cap, cur, e, -⟩⟩ := hown'
  · simp only [Value.slice.injEq] at e; omega
  · simp only [Value.slice.injEq, true_and] at e
    obtain ⟨rfl, rfl⟩ := e
    refine ⟨gv, rfl, ⟨zs[j]'(by omega), ?_⟩, hown.frozenAt j, fun u => ⟨⟨_, (hown.stored j u).1⟩, hext.setIn rfl rfl u⟩⟩
    rw [hown.cellAt j (by omega)]
    exact List.getElem?_eq_getElem _

set_option maxRecDepth 100000 in
set_option maxHeartbeats 1600000 in
theorem law17p_bad (c : Int) (pa : Option Addr) (n cp : Nat) (vb : Value) (w : World) (h : c < 2 ∨ 1048576 < c) (HL : Hid (OpsAt17 w (.slice pa n cp) n)) :
    Calls Try.prog 5 #[.int .i64 c, .slice pa n cp, vb] w fun e w' => e = .returned (.bool true) ∧ Below w.heap.size w w' := by
  have HN := Lib.hid (new_bad c w h)
  have HG := Lib.hid (great17_any pa n cp w HL.out)
  have HK : Hid (∀ W, Calls Try.prog 41 #[] W fun e w' => e = .returned (.bool true) ∧ Below W.heap.size W w') := fun W => known17_true W
  clear h
  go_enter Try.func5, Try.ntmps5
  go_wp2_with fail
  refine HN.out.mono ?_
  rintro e w0 ⟨rfl, rfl⟩
  go_wp2_with fail
  refine HG.out.mono ?_
  rintro e w1 ⟨⟨r, rfl, -⟩, hb1⟩
  have HB1 := Lib.hid hb1
  clear hb1
  cases r
  all_goals
    go_wp2_with fail
    refine (HK.out _).mono ?_
    rintro e w2 ⟨rfl, hb⟩
    have HB := Lib.hid (HB1.out.trans (hb.mono HB1.out.size))
    clear hb
    go_wp2_with fail
    go_ret
    exact ⟨rfl, HB.out⟩

set_option maxRecDepth 100000 in
set_option maxHeartbeats 4000000 in
theorem law17p_go (c : Nat) (pa : Option Addr) (n cp : Nat) (pb : Option Addr) (bs : List Bool) (cb : Nat) (w : World) (h0 : 2 ≤ c) (h1 : c ≤ 1048576) (HL : Hid (OpsAt17 w (.slice pa n cp) n)) (HBV : Hid (BVec w (.slice pb bs.length cb) bs)) (hbl : bs.length ≤ 9223372036854775807) :
    Calls Try.prog 5 #[.int .i64 c, .slice pa n cp, .slice pb bs.length cb] w fun e w' => e = .returned (.bool true) ∧ Below w.heap.size w w' := by
  have HN := Lib.hid (new_ok c w h0 h1)
  have HK : Hid (∀ W, Calls Try.prog 41 #[] W fun e w' => e = .returned (.bool true) ∧ Below W.heap.size W w') := fun W => known17_true W
  have hbn : Below w.heap.size w (newWorld w c) := by unfold newWorld; exact (by repeat (first | exact Below.refl _ _ | assumption | refine Below.drew ?_ | refine Below.alloc ?_ (by first | omega | (simp <;> omega)) _ | refine Below.setCell ?_ (by first | omega | (simp <;> omega)) _ | refine Below.trans ?_ (Below.mono (by assumption) (by first | omega | (simp <;> omega)))))
  have HG := Lib.hid (great17_any pa n cp (newWorld w c) (HL.out.below hbn))
  have HBN := Lib.hid hbn
  have HC2 : Hid (2 ≤ c) := h0
  obtain ⟨w0, hw0⟩ : ∃ w0, w0 = newWorld w c := ⟨_, rfl⟩
  have HW0 : Hid (newWorld w c = w0) := hw0.symm
  rw [← hw0] at HG HBN HN
  obtain ⟨b, hb⟩ : ∃ b, b = w.heap.size + 2 := ⟨_, rfl⟩
  have HBE := Lib.hid hb
  rw [← hb] at HN
  clear hb hw0 hbn h0 h1
  go_enter Try.func5, Try.ntmps5
  go_wp2_with fail
  refine HN.out.mono ?_
  rintro e wz ⟨rfl, rfl⟩
  clear HN
  go_wp2_with fail
  refine HG.out.mono ?_
  rintro e w1 ⟨⟨r, rfl, hr⟩, hb1⟩
  have HB1 : Hid (Below w.heap.size w w1) := HBN.out.trans (hb1.mono HBN.out.size)
  have HB01 := Lib.hid hb1
  have HR := Lib.hid hr
  clear hb1 hr HG
  cases r
  case true =>
    go_wp2_with fail
    refine (HK.out _).mono ?_
    rintro e w2 ⟨rfl, hb⟩
    have HB := Lib.hid (HB1.out.trans (hb.mono HB1.out.size))
    clear hb
    go_wp2_with fail
    go_ret
    exact ⟨rfl, HB.out⟩
  by_cases hc : 300 < c
  · go_wp2_with fail
    refine (HK.out _).mono ?_
    rintro e w2 ⟨rfl, hb⟩
    have HB := Lib.hid (HB1.out.trans (hb.mono HB1.out.size))
    clear hb
    go_wp2_with fail
    go_ret
    exact ⟨rfl, HB.out⟩
  by_cases hbs : 64 < bs.length
  · go_wp2_with fail
    refine (HK.out _).mono ?_
    rintro e w2 ⟨rfl, hb⟩
    have HB := Lib.hid (HB1.out.trans (hb.mono HB1.out.size))
    clear hb
    go_wp2_with fail
    go_ret
    exact ⟨rfl, HB.out⟩
  have hn : n ≤ 14 := HR.out rfl
  have hst := P17At.start w c HC2.out (by omega) HW0.out HB01.out
  rw [← HBE.out] at hst
  have HST := Lib.hid hst
  clear hst HB01 HW0 HBE HR HBN HC2
  go_wp2_with fail
  rw [show w1.alloc (.cells #[.int .i64 (c : Int), .slice none 0 0, .bool false] 31) = w1.alloc (refCells c) from rfl]
  generalize w1.alloc (refCells c) = W1 at *
  generalize w1.heap.size = bw at *
  clear HB1
  go_wp2_with fail
  go_loopw [10, 46] (fun v i wr => ∃ (k : Nat) (p : Option Addr) (q : Nat), k ≤ n ∧ i = .int .i64 k ∧ v = .slice p k q ∧ Hid (P17At w b bw k (.slice p k q) wr)) (fun _ i _ => n - (intOf i).toNat)
  case atStart => exact ⟨0, none, 0, Nat.zero_le _, rfl, rfl, HST⟩
  case round =>
    obtain ⟨k, pv, cv, hk, rfl, rfl, HP⟩ := hrel
    by_cases hlt : k < n
    · obtain ⟨pa', cp', e, -, hops⟩ := HL.out
      obtain ⟨d, off, hpa, hd, hops⟩ := hops (by omega)
      obtain ⟨kind, oa, ob, oc, ok, ol, n0, n1, b0, b1, bk, q0, q1, q2, q3, q4, q5, q6, q7⟩ := hops k hlt
      simp only [Value.slice.injEq] at e
      obtain ⟨e1, -, e2⟩ := e
      rw [hpa] at e1
      clear hops hpa e2
      subst e1
      obtain ⟨O, s, Ow, vals, xs, hp⟩ := HP.out
      have hbl := hp.below
      have r0 := (hbl.cell (p := ⟨d, off + k * 8, none⟩) hd).trans q0
      have r1 := (hbl.cell (p := ⟨d, off + k * 8 + 1, none⟩) hd).trans q1
      have r2 := (hbl.cell (p := ⟨d, off + k * 8 + 2, none⟩) hd).trans q2
      have r3 := (hbl.cell (p := ⟨d, off + k * 8 + 3, none⟩) hd).trans q3
      have r4 := (hbl.cell (p := ⟨d, off + k * 8 + 4, none⟩) hd).trans q4
      have r5 := (hbl.cell (p := ⟨d, off + k * 8 + 5, none⟩) hd).trans q5
      have r6 := (hbl.cell (p := ⟨d, off + k * 8 + 6, none⟩) hd).trans q6
      have r7 := (hbl.cell (p := ⟨d, off + k * 8 + 7, none⟩) hd).trans q7
      have HPW := Lib.hid hp
      clear q0 q1 q2 q3 q4 q5 q6 q7 hbl HP hp
      generalize wr = wa at *
      clear wr
      go_wp2_with fail
      obtain ⟨X, hX⟩ : ∃ X, X = wa.alloc (.cells #[.int .i64 kind, .int .i64 oa, .int .i64 ob, .int .i64 oc, .int .i64 ok, .int .i64 ol, .int .u64 (n0 : Int), .int .u64 (n1 : Int)] 70) := ⟨_, rfl⟩
      rw [← hX]
      have hBX : Below wa.heap.size wa X := by rw [hX]; exact (by repeat (first | exact Below.refl _ _ | assumption | refine Below.drew ?_ | refine Below.alloc ?_ (by first | omega | (simp <;> omega)) _ | refine Below.setCell ?_ (by first | omega | (simp <;> omega)) _ | refine Below.trans ?_ (Below.mono (by assumption) (by first | omega | (simp <;> omega)))))
      have hXs : wa.heap.size < X.heap.size := by rw [hX]; simp
      have HOC : Hid (OpCells17 X wa.heap.size kind oa ob oc ok ol (n0 : Int) (n1 : Int)) := by
        rw [hX]
        exact ⟨by simp [go_sem], by simp [go_sem], by simp [go_sem], by simp [go_sem], by simp [go_sem], by simp [go_sem], by simp [go_sem], by simp [go_sem]⟩
      have HPX : Hid (P17 w X b O s bw Ow s k (.slice pv k cv) vals xs) := HPW.out.later hBX
      have HNG : Hid (¬ MutV O Ow (.slice pv k cv) wa.heap.size) := fun q => Nat.lt_irrefl _ (HPW.out.lt _ q)
      clear hX hBX r0 r1 r2 r3 r4 r5 r6 r7 HPW hXs
      generalize wa.heap.size = gX at *
      clear wa
      obtain ⟨z0, hz0⟩ : ∃ z0, z0 = X.heap.size := ⟨_, rfl⟩
      have HZW : Hid (w.heap.size ≤ z0) := by show _ ≤ _; rw [hz0]; exact HPX.out.below.size
      have HOLD : Hid (∀ j, j < k → ∀ i, (vals j).ownBlock = some i → 0 < (xs j).length → i < z0) := by rw [hz0]; exact HPX.out.old
      obtain ⟨r, hr⟩ : ∃ r, r = callG kind oa ok ol (n0 * B + n1) (atX k xs oa) (atX k xs ob) (atX k xs oc) s := ⟨_, rfl⟩
      have HRL : Hid (r.2.length ≤ 600) := by show _ ≤ _; rw [hr]; exact callG_len (HPX.out.asked oa).2 (HPX.out.asked ob).2
      have HC0 : Hid (∀ x y W, ph17 w z0 b bw k gX kind oa ob oc ok ol n0 n1 s r (.slice pv k cv) vals xs 0 x y W → Calls Try.prog 43 #[.pointer (some ⟨b, 0, none⟩), .slice pv k cv, .agg #[.int .i64 kind, .int .i64 oa, .int .i64 ob, .int .i64 oc, .int .i64 ok, .int .i64 ol, .int .u64 n0, .int .u64 n1]] W fun e w' => ∃ x, e = .returned x ∧ ph17 w z0 b bw k gX kind oa ob oc ok ol n0 n1 s r (.slice pv k cv) vals xs 1 x y w') :=
        fun x y W h => ph17_call0 (by omega) b0 b1 bk hr x y W h
      have HC1 : Hid (∀ x y W, ph17 w z0 b bw k gX kind oa ob oc ok ol n0 n1 s r (.slice pv k cv) vals xs 1 x y W → Calls Try.prog 44 #[.pointer (some ⟨bw, 0, none⟩), .slice pv k cv, .agg #[.int .i64 kind, .int .i64 oa, .int .i64 ob, .int .i64 oc, .int .i64 ok, .int .i64 ol, .int .u64 n0, .int .u64 n1]] W fun e w' => ∃ y, e = .returned y ∧ ph17 w z0 b bw k gX kind oa ob oc ok ol n0 n1 s r (.slice pv k cv) vals xs 2 x y w') :=
        fun x y W h => ph17_call1 (by omega) b0 b1 bk hr x y W h
      have HH0 : Hid (∀ x y, ph17 w z0 b bw k gX kind oa ob oc ok ol n0 n1 s r (.slice pv k cv) vals xs 0 x y X) := fun x y => ⟨O, Ow, HPX.out, HOC.out, HNG.out, Nat.le_of_eq hz0⟩
      clear hr HPX HOC HNG hz0
      refine reg9 b bw gX kind oa ob oc ok ol n0 n1 (.slice pv k cv) (ph17 w z0 b bw k gX kind oa ob oc ok ol n0 n1 s r (.slice pv k cv) vals xs) X HH0 ?kl ?kc HC0 HC1 _ _ _ _ _ _ _ _ _ _ _ _ _ _ _ _ _ _ _ _ _ _ _ _ _ _ _ _ _ _ _ _ _ _ _ _ _ _ _ _ _ _ _ _ _ _ _ _ _ _ _ _ _ _ _ _ _ _ _ _ _ _ _ _ _ _ _ _ _ _ _ _ _ _ _ _ _ _ _ _ _ _ _ _ _ _ _ _ _ _ _ _ _ _ _ _ _ _ _ _ _ _ _ _ _ _ _ _ _ _ _ _ _ _ _ _ _ _ _ _ ?_
      case kl => exact fun k x y W W' h hb => ph17_later k x y W W' h hb
      case kc => exact fun k x y W h => ph17_cells k x y W h
      intro y0 y1 y2 y3 y4 y5 y6 y7 w2 hR
      dsimp only
      clear HC0 HC1 HH0
      obtain ⟨kk, hkk, hph⟩ := hR
      obtain ⟨O2, Ow2, hp2, hx2, hy2, hne⟩ := ph17_end kk hkk _ _ _ hph
      have HP2 := Lib.hid hp2
      have HX2 := Lib.hid hx2
      have HY2 := Lib.hid hy2
      have HNE := Lib.hid hne
      obtain ⟨px, cx, hxs, -⟩ := own_shape hx2.1
      subst hxs
      obtain ⟨⟨pu, cu, hu, -⟩, -⟩ := hy2
      subst hu
      clear hkk hph hp2 hx2 hne
      have hrl := HRL.out
      by_cases h300 : 300 < r.2.length
      · go_wp2_with fail
        refine (HK.out _).mono ?_
        rintro e w3 ⟨rfl, hb⟩
        have HB := Lib.hid (HP2.out.below.trans (hb.mono HP2.out.below.size))
        clear hb
        go_wp2_with fail
        go_ret
        exact ⟨rfl, HB.out⟩
      have hr300 : r.2.length ≤ 300 := by omega
      have HB2 : Hid (∀ W', Below w2.heap.size w2 W' → IVec W' (.slice px r.2.length cx) r.2 ∧ IVec W' (.slice pu r.2.length cu) r.2 ∧ Sto W' b O2 r.1 ∧ RSto W' bw Ow2 r.1 ∧ BVec W' (.slice pb bs.length cb) bs) := fun W' hb =>
        ⟨IVec.of_owns rfl (HX2.out.ext (Ext.of_below hb)).1, (HY2.out.below hb).1, HP2.out.sto.below hb, HP2.out.rst.below hb, HBV.out.below (HP2.out.below.trans (hb.mono HP2.out.below.size))⟩
      obtain ⟨h1, l1, e1, -, -⟩ := numV_parts (isN r.1.nodes r.2)
      obtain ⟨h2, l2, e2, -, -⟩ := numV_parts (evalV r.1.nodes (qOf bs) r.2)
      have HIS : Hid (∀ W', Below w2.heap.size w2 W' → Calls Try.prog 45 #[.pointer (some ⟨b, 0, none⟩), .slice px r.2.length cx] W' fun e w' => e = .returned (.tuple #[.agg #[.int .u64 (h1 : Int), .int .u64 (l1 : Int)], .bool (isB r.2)]) ∧ Below W'.heap.size W' w') := fun W' hb => by
        rw [← e1]; exact is_sto b O2 r.1 _ r.2 W' (HB2.out W' hb).2.2.1 (HB2.out W' hb).1 (by omega)
      have HIR : Hid (∀ W', Below w2.heap.size w2 W' → Calls Try.prog 46 #[.pointer (some ⟨bw, 0, none⟩), .slice pu r.2.length cu] W' fun e w' => e = .returned (.tuple #[.agg #[.int .u64 (h1 : Int), .int .u64 (l1 : Int)], .bool (isB r.2)]) ∧ Below W'.heap.size W' w') := fun W' hb => by
        rw [← e1]; exact is_rs bw Ow2 r.1 _ r.2 W' (HB2.out W' hb).2.2.2.1 (HB2.out W' hb).2.1 (by omega)
      have HES : Hid (∀ W', Below w2.heap.size w2 W' → Calls Try.prog 40 #[.pointer (some ⟨b, 0, none⟩), .slice px r.2.length cx, .slice pb bs.length cb] W' fun e w' => e = .returned (.agg #[.int .u64 (h2 : Int), .int .u64 (l2 : Int)]) ∧ Below W'.heap.size W' w') := fun W' hb => by
        rw [← e2]; exact eval_sto b O2 r.1 _ _ r.2 bs W' (HB2.out W' hb).2.2.1 (HB2.out W' hb).1 (by omega) (HB2.out W' hb).2.2.2.2 (by omega)
      have HER : Hid (∀ W', Below w2.heap.size w2 W' → Calls Try.prog 47 #[.pointer (some ⟨bw, 0, none⟩), .slice pu r.2.length cu, .slice pb bs.length cb] W' fun e w' => e = .returned (.agg #[.int .u64 (h2 : Int), .int .u64 (l2 : Int)]) ∧ Below W'.heap.size W' w') := fun W' hb => by
        rw [← e2]; exact eval_rs bw Ow2 r.1 _ _ r.2 bs W' (HB2.out W' hb).2.2.2.1 (HB2.out W' hb).2.1 (by omega) (HB2.out W' hb).2.2.2.2 (by omega)
      have HSM : Hid (∀ W', Below w2.heap.size w2 W' → Calls Try.prog 11 #[.slice px r.2.length cx, .slice pu r.2.length cu] W' fun e w' => e = .returned (.bool true) ∧ Below W'.heap.size W' w') := fun W' hb => same_any _ _ _ _ W' (HB2.out W' hb).1 (HB2.out W' hb).2.1 rfl (by omega) rfl
      have HFL : Hid (∀ W', Below w2.heap.size w2 W' → Calls Try.prog 16 #[.pointer (some ⟨b, 0, none⟩)] W' fun e w' => e = .returned (.bool r.1.full) ∧ W' = w') := fun W' hb => full_sto b O2 r.1 W' (HB2.out W' hb).2.2.1
      have z2 : w2.cell? ⟨bw, 2, none⟩ = some (.bool r.1.full) := by
        obtain ⟨⟨vn, -, -, z2, -⟩, -⟩ := HP2.out.rst
        exact z2
      clear e1 e2 h300
      generalize r.1.full = fu at *
      generalize isB r.2 = ib at *
      go_wp2_with fail
      refine (HIS.out _ (Below.refl _ _)).mono ?_
      rintro e w3 ⟨rfl, hb3⟩
      have z3 := (hb3.cell (p := ⟨bw, 2, none⟩) (cell_there z2).1).trans z2
      have HB3 := Lib.hid hb3
      clear hb3 HIS z2
      go_wp2_with fail
      obtain ⟨A3, hA3⟩ : ∃ A3, A3 = w3.alloc (.cells #[.int .u64 (h1 : Int), .int .u64 (l1 : Int)] 41) := ⟨_, rfl⟩
      rw [← hA3]
      have HBA3 : Hid (Below w2.heap.size w2 A3) := by show Below _ _ _; rw [hA3]; exact HB3.out.alloc HB3.out.size _
      have a30 : A3.cell? ⟨w3.heap.size, 0, none⟩ = some (.int .u64 (h1 : Int)) := by rw [hA3]; simp [go_sem]
      have a31 : A3.cell? ⟨w3.heap.size, 1, none⟩ = some (.int .u64 (l1 : Int)) := by rw [hA3]; simp [go_sem]
      have z4 : A3.cell? ⟨bw, 2, none⟩ = some (.bool fu) := by rw [hA3]; exact (World.cell?_alloc_lt w3 _ ⟨bw, 2, none⟩ (cell_there z3).1).trans z3
      clear hA3 z3 HB3
      generalize w3.heap.size = g3 at *
      refine (HIR.out _ HBA3.out).mono ?_
      rintro e w4 ⟨rfl, hb4⟩
      have b30 := (hb4.cell (p := ⟨g3, 0, none⟩) (cell_there a30).1).trans a30
      have b31 := (hb4.cell (p := ⟨g3, 1, none⟩) (cell_there a31).1).trans a31
      have z5 := (hb4.cell (p := ⟨bw, 2, none⟩) (cell_there z4).1).trans z4
      have HB4 : Hid (Below w2.heap.size w2 w4) := HBA3.out.trans (hb4.mono HBA3.out.size)
      clear hb4 HIR z4 a30 a31 HBA3
      go_wp2_with fail
      obtain ⟨A4, hA4⟩ : ∃ A4, A4 = w4.alloc (.cells #[.int .u64 (h1 : Int), .int .u64 (l1 : Int)] 41) := ⟨_, rfl⟩
      rw [← hA4]
      have HBA4 : Hid (Below w2.heap.size w2 A4) := by show Below _ _ _; rw [hA4]; exact HB4.out.alloc HB4.out.size _
      have d40 : A4.cell? ⟨w4.heap.size, 0, none⟩ = some (.int .u64 (h1 : Int)) := by rw [hA4]; simp [go_sem]
      have d41 : A4.cell? ⟨w4.heap.size, 1, none⟩ = some (.int .u64 (l1 : Int)) := by rw [hA4]; simp [go_sem]
      have d30 : A4.cell? ⟨g3, 0, none⟩ = some (.int .u64 (h1 : Int)) := by rw [hA4]; exact (World.cell?_alloc_lt w4 _ ⟨g3, 0, none⟩ (cell_there b30).1).trans b30
      have d31 : A4.cell? ⟨g3, 1, none⟩ = some (.int .u64 (l1 : Int)) := by rw [hA4]; exact (World.cell?_alloc_lt w4 _ ⟨g3, 1, none⟩ (cell_there b31).1).trans b31
      have z6 : A4.cell? ⟨bw, 2, none⟩ = some (.bool fu) := by rw [hA4]; exact (World.cell?_alloc_lt w4 _ ⟨bw, 2, none⟩ (cell_there z5).1).trans z5
      clear hA4 z5 b30 b31 HB4
      generalize w4.heap.size = g4 at *
      have hneq := neq_same
      have HUP : Hid (∀ W', Below A4.heap.size A4 W' → Below w2.heap.size w2 W') := fun W' hb => HBA4.out.trans (hb.mono HBA4.out.size)
      go_region_held3 (fun w' => Below A4.heap.size A4 w' ∧ w'.cell? ⟨g3, 0, none⟩ = some (.int .u64 (h1 : Int)) ∧ w'.cell? ⟨g3, 1, none⟩ = some (.int .u64 (l1 : Int)) ∧ w'.cell? ⟨g4, 0, none⟩ = some (.int .u64 (h1 : Int)) ∧ w'.cell? ⟨g4, 1, none⟩ = some (.int .u64 (l1 : Int)) ∧ w'.cell? ⟨bw, 2, none⟩ = some (.bool fu))
        (first | exact ⟨below_drewN (Below.refl _ _) 1, d30, d31, d40, d41, z6⟩ | exact held17 hb1 (by assumption) | go_keep)
        (first
          | (go_at_call 11; (with_reducible refine (HSM.out _ (HUP.out _ (And.left (by assumption)))).mono ?_); rintro e w1 ⟨rfl, hb1⟩)
          | (go_at_call 40; (with_reducible refine (HES.out _ (HUP.out _ (And.left (by assumption)))).mono ?_); rintro e w1 ⟨rfl, hb1⟩)
          | (go_at_call 47; (with_reducible refine (HER.out _ (HUP.out _ (And.left (by assumption)))).mono ?_); rintro e w1 ⟨rfl, hb1⟩)
          | (go_at_call 16; (with_reducible refine (HFL.out _ (HUP.out _ (And.left (by assumption)))).mono ?_); rintro e w1 ⟨rfl, rfl⟩))
      rename_i hh
      have hbW := HUP.out _ hh.1
      have HP5 : Hid (P17 w w1 b O2 r.1 bw Ow2 r.1 k (.slice pv k cv) vals xs) := HP2.out.later hbW
      have HX5 : Hid (RowV z0 (MutV O2 Ow2 (.slice pv k cv)) w1 (.slice px r.2.length cx) r.2) := HX2.out.ext (Ext.of_below hbW)
      have HY5 : Hid (IVecX w1 (MutV O2 Ow2 (.slice pv k cv)) (.slice pu r.2.length cu) r.2) := HY2.out.below hbW
      clear hh hbW HP2 HX2 HY2 HUP HSM HES HER HFL HBA4 d30 d31 d40 d41 z6 hneq HB2
      generalize w1 = w5 at *
      generalize r.1 = s2 at *
      generalize r.2 = ys at *
      clear HRL
      have HL0 : Hid (LoopV z0 (.slice px ys.length cx) ys.length w5 w5) := ⟨⟨_, HX5.out.1⟩, Ext.refl _ _⟩
      have hyl : ys.length ≤ 300 := hr300
      clear hrl hr300
      go_wp2_with fail
      go_loopw [110] (fun i wr => ∃ j : Nat, j ≤ ys.length ∧ i = .int .i64 j ∧ Hid (LoopV z0 (.slice px ys.length cx) ys.length w5 wr)) (fun i _ => ys.length - (intOf i).toNat)
      case atStart => exact ⟨0, Nat.zero_le _, rfl, HL0⟩
      case round =>
        obtain ⟨j, hj, rfl, HV⟩ := hrel
        by_cases hjt : j < ys.length
        · obtain ⟨gv, rfl, ⟨u, z1⟩, z2, z3⟩ := HV.out.step hjt
          have HN := Lib.hid (z3 (.int .i64 (-9)))
          clear z3
          go_wp2_with fail
          go_roundw
          case rel => exact ⟨j + 1, by omega, by go_num, HN⟩
          case measure => simp [intOf]; omega
        · obtain rfl : j = ys.length := by omega
          have HE := Lib.hid HV.out.2
          have HP6 : Hid (P17 w wr b O2 s2 bw Ow2 s2 k (.slice pv k cv) vals xs) := HP5.out.other HE.out (fun i hi => ⟨Nat.le_trans HZW.out (HX5.out.1.lt i hi).1, HX5.out.2 i hi⟩) (fun j hj i q1 q2 q3 => by have := HOLD.out j hj i q1 q2; have := (HX5.out.1.lt i q3).1; omega)
          have HY6 : Hid (IVecX wr (MutV O2 Ow2 (.slice pv k cv)) (.slice pu ys.length cu) ys) := ⟨((show IVecX w5 (fun i => (Value.slice px ys.length cx).ownBlock = some i) (.slice pu ys.length cu) ys from ⟨HY5.out.1, fun i q1 q2 q3 => HNE.out i q1 q2 q3, HY5.out.2.2⟩).ext HE.out).1, HY5.out.2.1, HY5.out.2.2⟩
          have HRA : ∀ o, Hid ((wr.alloc o).ownsRow 0 34 1 (.slice pv k cv) k ((List.range k).map vals)) := fun o => (HP6.out.later ((Below.refl _ _).alloc (Nat.le_refl _) o)).row
          clear HP5 HX5 HY5 HE HV HL0
          go_wp2_with (first
            | (at_builtin; refine append_vec1 rfl (.tmp 117) (.tmp 119) rfl (.slice pv k cv) k _ rfl (HRA _).out wr.heap.size (.slice pu ys.length cu) ⟨_, _, _, rfl⟩ rfl (by simp [go_sem]) (by omega) ?_; intro v6 w6 hown6 hgrow6 hwh6; obtain ⟨pv6, cv6, hv6, hvl6⟩ := own_shape hown6; subst hv6; have HK6 : Hid (P17At w b bw (k + 1) (.slice pv6 (k + 1) cv6) w6) := ⟨_, _, _, _, _, HP6.out.push HY6.out hyl hown6 hgrow6 hwh6⟩; clear hown6 hgrow6 hwh6))
          go_roundw
          case rel => exact ⟨k + 1, pv6, cv6, by omega, by go_num, rfl, HK6⟩
          case measure => simp [intOf]; omega
    · obtain rfl : k = n := by omega
      go_wp2_with fail
      refine (HK.out _).mono ?_
      rintro e w9 ⟨rfl, hb9⟩
      have hbl := HP.out
      obtain ⟨O, s, Ow, vals, xs, hp⟩ := hbl
      have hbl := hp.below
      have HB := Lib.hid (hbl.trans (hb9.mono hbl.size))
      clear hb9 hbl hp
      go_wp2_with fail
      go_ret
      exact ⟨rfl, HB.out⟩

theorem law17p (c : Int) (va vb : Value) (n : Nat) (bs : List Bool) (w : World) (HL : OpsAt17 w va n) (HB : BVec w vb bs) :
    Calls Try.prog 5 #[.int .i64 c, va, vb] w fun e w' => e = .returned (.bool true) ∧ Below w.heap.size w w' := by
  obtain ⟨pa, cp, rfl, hm, hops⟩ := HL
  by_cases hb : c < 2 ∨ 1048576 < c
  · exact law17p_bad c pa n cp vb w hb ⟨pa, cp, rfl, hm, hops⟩
  · obtain ⟨c, rfl⟩ : ∃ m : Nat, c = (m : Int) := ⟨c.toNat, by omega⟩
    have HB' := HB
    obtain ⟨pb, cb, rfl, q1, q2, -⟩ := HB'
    exact law17p_go c pa n cp pb bs cb w (by omega) (by omega) ⟨pa, cp, rfl, hm, hops⟩ HB (by unfold maxLen at q2; omega)

end Go.Proofs.Ytlnkflmnjkmhkaa

/-
  Parameters of the law SymbvPlays, opened: a slice of layer 17's calls (each call's eight cells), a slice of truths.
-/
namespace Go.Proofs.Ytlnkflmnjkmhkaa
open Go.ChangeShapes Go.WideShapes Go.ChangeAt Go.RowKit Go.Deep

section
variable {H : Type} {enc : TypeId × Value → H} {w : World}

theorem i64_of_wf {n : Int} (h : (Lit.int IntKind.i64 n).wf = true) : -9223372036854775808 ≤ n ∧ n ≤ 9223372036854775807 := by
  have h0 : IntKind.i64.min = -9223372036854775808 := by decide
  have h1 : IntKind.i64.max = 9223372036854775807 := by decide
  simpa only [Lit.wf, Bool.and_eq_true, decide_eq_true_eq, h0, h1] using h
theorem u64_of_wf {n : Int} (h : (Lit.int IntKind.u64 n).wf = true) : ∃ k : Nat, n = (k : Int) ∧ k < 18446744073709551616 := by
  have h0 : IntKind.u64.min = 0 := by decide
  have h1 : IntKind.u64.max = 18446744073709551615 := by decide
  simp only [Lit.wf, Bool.and_eq_true, decide_eq_true_eq, h0, h1] at h
  obtain ⟨n, rfl⟩ := Int.eq_ofNat_of_zero_le h.1
  exact ⟨n, rfl, by omega⟩

/-- A struct's fields, one after the other. -/
theorem trod_field {t : TypeId} {fs : Array Field} {fuel : Nat} {cs : List Value} {x : DataW H × List MemPlace} (ht : Try.prog.underlying t = some (.struct fs)) (h : DataW.trod enc Try.prog w 0 (fun _ => true) true fuel t cs = some x)
    (i : Nat) (f : Field) (hf : fs[i]? = some f) (ty o c : Nat) (h1 : f.type = ty) (h2 : f.offset = o) (h3 : Try.prog.cellsOf ty = c) : ∃ n y, DataW.trod enc Try.prog w 0 (fun _ => true) true n ty ((cs.drop o).take c) = some y := by
  subst h1 h2 h3
  obtain ⟨xs, n, rfl, -, -, hl, hg⟩ := DataW.trod_struct ht h
  have hi : i < fs.size := (Array.getElem?_eq_some_iff.1 hf).1
  exact ⟨n, _, (hg i f hf).trans (List.getElem?_eq_getElem (by omega))⟩

set_option maxRecDepth 100000 in
theorem trod_num2 {fuel : Nat} {c0 c1 : Value} {x : DataW H × List MemPlace} (h : DataW.trod enc Try.prog w 0 (fun _ => true) true fuel 41 [c0, c1] = some x) :
    ∃ v0 v1 : Nat, v0 < 18446744073709551616 ∧ v1 < 18446744073709551616 ∧ c0 = .int .u64 (v0 : Int) ∧ c1 = .int .u64 (v1 : Int) := by
  obtain ⟨n0, y0, h0⟩ := trod_field Try.underlying41 h 0 _ rfl 38 0 1 rfl rfl (by kernel_rfl)
  obtain ⟨n1, y1, h1⟩ := trod_field Try.underlying41 h 1 _ rfl 38 1 1 rfl rfl (by kernel_rfl)
  obtain ⟨v0, e0, -, b0⟩ := DataW.trod_int Try.underlying38 h0
  obtain ⟨v1, e1, -, b1⟩ := DataW.trod_int Try.underlying38 h1
  simp only [List.drop_zero, List.take, List.drop] at e0 e1
  obtain ⟨k0, rfl, l0⟩ := u64_of_wf b0
  obtain ⟨k1, rfl, l1⟩ := u64_of_wf b1
  simp only [List.cons.injEq, and_true] at e0 e1
  exact ⟨k0, k1, l0, l1, e0, e1⟩

set_option maxRecDepth 100000 in
theorem trod_op17 {fuel : Nat} {c0 c1 c2 c3 c4 c5 c6 c7 : Value} {x : DataW H × List MemPlace} (h : DataW.trod enc Try.prog w 0 (fun _ => true) true fuel 70 [c0, c1, c2, c3, c4, c5, c6, c7] = some x) :
    ∃ (kind oa ob oc ok ol : Int) (n0 n1 : Nat), n0 < 18446744073709551616 ∧ n1 < 18446744073709551616 ∧ (-9223372036854775808 ≤ ok ∧ ok ≤ 9223372036854775807) ∧ c0 = .int .i64 kind ∧ c1 = .int .i64 oa ∧ c2 = .int .i64 ob ∧ c3 = .int .i64 oc ∧ c4 = .int .i64 ok ∧ c5 = .int .i64 ol ∧ c6 = .int .u64 (n0 : Int) ∧ c7 = .int .u64 (n1 : Int) := by
  obtain ⟨n0, y0, h0⟩ := trod_field Try.underlying70 h 0 _ rfl 3 0 1 rfl rfl (by kernel_rfl)
  obtain ⟨n1, y1, h1⟩ := trod_field Try.underlying70 h 1 _ rfl 3 1 1 rfl rfl (by kernel_rfl)
  obtain ⟨n2, y2, h2⟩ := trod_field Try.underlying70 h 2 _ rfl 3 2 1 rfl rfl (by kernel_rfl)
  obtain ⟨n3, y3, h3⟩ := trod_field Try.underlying70 h 3 _ rfl 3 3 1 rfl rfl (by kernel_rfl)
  obtain ⟨n4, y4, h4⟩ := trod_field Try.underlying70 h 4 _ rfl 3 4 1 rfl rfl (by kernel_rfl)
  obtain ⟨n5, y5, h5⟩ := trod_field Try.underlying70 h 5 _ rfl 3 5 1 rfl rfl (by kernel_rfl)
  obtain ⟨n6, y6, h6⟩ := trod_field Try.underlying70 h 6 _ rfl 41 6 2 rfl rfl (by kernel_rfl)
  obtain ⟨k0, e0, -, -⟩ := DataW.trod_int Try.underlying3 h0
  obtain ⟨k1, e1, -, -⟩ := DataW.trod_int Try.underlying3 h1
  obtain ⟨k2, e2, -, -⟩ := DataW.trod_int Try.underlying3 h2
  obtain ⟨k3, e3, -, -⟩ := DataW.trod_int Try.underlying3 h3
  obtain ⟨k4, e4, -, hwf⟩ := DataW.trod_int Try.underlying3 h4
  obtain ⟨k5, e5, -, -⟩ := DataW.trod_int Try.underlying3 h5
  simp only [List.drop_zero, List.take, List.drop] at e0 e1 e2 e3 e4 e5 h6
  obtain ⟨v0, v1, a0, a1, rfl, rfl⟩ := trod_num2 h6
  simp only [List.cons.injEq, and_true] at e0 e1 e2 e3 e4 e5
  exact ⟨k0, k1, k2, k3, k4, k5, v0, v1, a0, a1, i64_of_wf hwf, e0, e1, e2, e3, e4, e5, rfl, rfl⟩

set_option maxRecDepth 100000 in
theorem open_ops17 {va : Value} {d : DataW H} {p : List MemPlace} (hv : Value.okWide Try.prog w .any 0 67 va) (h : DataW.Trod enc Try.prog w 0 (fun _ => true) true 67 va d p) :
    ∃ n, ∃ pa cap, va = .slice pa n cap ∧ n ≤ maxLen ∧ (0 < n → ∃ d off, pa = some ⟨d, off, none⟩ ∧ d < w.heap.size ∧ ∀ k, k < n →
  ∃ (kind oa ob oc ok ol : Int) (n0 n1 : Nat), n0 < 18446744073709551616 ∧ n1 < 18446744073709551616 ∧ (-9223372036854775808 ≤ ok ∧ ok ≤ 9223372036854775807) ∧ w.cell? ⟨d, off + k * 8, none⟩ = some (.int .i64 kind) ∧ w.cell? ⟨d, off + k * 8 + 1, none⟩ = some (.int .i64 oa) ∧ w.cell? ⟨d, off + k * 8 + 2, none⟩ = some (.int .i64 ob) ∧
    w.cell? ⟨d, off + k * 8 + 3, none⟩ = some (.int .i64 oc) ∧ w.cell? ⟨d, off + k * 8 + 4, none⟩ = some (.int .i64 ok) ∧ w.cell? ⟨d, off + k * 8 + 5, none⟩ = some (.int .i64 ol) ∧ w.cell? ⟨d, off + k * 8 + 6, none⟩ = some (.int .u64 (n0 : Int)) ∧ w.cell? ⟨d, off + k * 8 + 7, none⟩ = some (.int .u64 (n1 : Int))) := by
  obtain ⟨fuel, h⟩ := h
  have hcs : va.cells.toList = [va] := by
    simp only [Value.okWide, Cell.okWide, Try.underlying67] at hv
    cases va <;> first | rfl | (simp [Cell.ok, Try.underlying67] at hv)
  rw [hcs] at h
  rcases open_slice Try.underlying67 h with ⟨e, -⟩ | ⟨a, len, cap, m, n, D, Pl, e, -, hl, hm, hmm, -, hx⟩
  · simp only [List.cons.injEq, and_true] at e
    exact ⟨0, none, 0, e, by unfold maxLen; omega, fun h => absurd h (by omega)⟩
  simp only [List.cons.injEq, and_true] at e
  simp only [if_true] at hmm
  subst hmm
  have z : Try.prog.cellsOf 70 = 8 := by kernel_rfl
  rw [z] at hx
  have at_i : ∀ k, k < m → ∃ (kind oa ob oc ok ol : Int) (n0 n1 : Nat), n0 < 18446744073709551616 ∧ n1 < 18446744073709551616 ∧ (-9223372036854775808 ≤ ok ∧ ok ≤ 9223372036854775807) ∧ w.cell? (a.add (k * 8)) = some (.int .i64 kind) ∧ w.cell? (a.add (k * 8 + 1)) = some (.int .i64 oa) ∧ w.cell? (a.add (k * 8 + 2)) = some (.int .i64 ob) ∧
      w.cell? (a.add (k * 8 + 3)) = some (.int .i64 oc) ∧ w.cell? (a.add (k * 8 + 4)) = some (.int .i64 ok) ∧ w.cell? (a.add (k * 8 + 5)) = some (.int .i64 ol) ∧ w.cell? (a.add (k * 8 + 6)) = some (.int .u64 (n0 : Int)) ∧ w.cell? (a.add (k * 8 + 7)) = some (.int .u64 (n1 : Int)) := by
    intro k hk
    obtain ⟨cs, hc, ht⟩ := hx k hk
    obtain ⟨-, hlen, hat⟩ := World.cells?_some hc
    match cs, hlen with
    | [c0, c1, c2, c3, c4, c5, c6, c7], _ =>
      obtain ⟨kind, oa, ob, oc, ok, ol, n0, n1, b0, b1, b2, rfl, rfl, rfl, rfl, rfl, rfl, rfl, rfl⟩ := trod_op17 ht
      have at' : ∀ i, i < 8 → w.cell? (a.add (k * 8 + i)) = [Value.int .i64 kind, .int .i64 oa, .int .i64 ob, .int .i64 oc, .int .i64 ok, .int .i64 ol, .int .u64 (n0 : Int), .int .u64 (n1 : Int)][i]? := fun i hi => by
        rw [← Go.Deep.add_add]; exact hat i hi
      exact ⟨kind, oa, ob, oc, ok, ol, n0, n1, b0, b1, b2, at' 0 (by omega), at' 1 (by omega), at' 2 (by omega), at' 3 (by omega), at' 4 (by omega), at' 5 (by omega), at' 6 (by omega), at' 7 (by omega)⟩
  refine ⟨len, some a, m, e, by omega, fun hpos => ?_⟩
  obtain ⟨_, _, _, _, _, _, _, _, _, _, _, c0, -⟩ := at_i 0 (by omega)
  obtain ⟨ab, ao, asp⟩ := a
  have hsp : asp = none := (cell_there c0).2
  have hblk := (cell_there c0).1
  subst hsp
  have hadd : ∀ i, (Addr.mk ab ao none).add i = ⟨ab, ao + i, none⟩ := by
    intro i
    unfold Addr.add
    by_cases hi : i = 0 <;> simp [hi]
  refine ⟨ab, ao, rfl, by simpa [hadd] using hblk, fun k hk => ?_⟩
  have := at_i k (by omega)
  simp only [hadd, ← Nat.add_assoc] at this
  exact this

set_option maxRecDepth 100000 in
theorem open_bools {va : Value} {d : DataW H} {p : List MemPlace} (hv : Value.okWide Try.prog w .any 0 58 va) (h : DataW.Trod enc Try.prog w 0 (fun _ => true) true 58 va d p) :
    ∃ bs : List Bool, ∃ pa cap, va = .slice pa bs.length cap ∧ bs.length ≤ cap ∧ cap ≤ maxLen ∧
    (0 < bs.length → ∃ b off, pa = some ⟨b, off, none⟩ ∧ b < w.heap.size ∧ ∀ i, i < bs.length → w.cell? ⟨b, off + i, none⟩ = some (.bool (bs.getD i false))) := by
  obtain ⟨fuel, h⟩ := h
  have hcs : va.cells.toList = [va] := by
    simp only [Value.okWide, Cell.okWide, Try.underlying58] at hv
    cases va <;> first | rfl | (simp [Cell.ok, Try.underlying58] at hv)
  rw [hcs] at h
  rcases open_slice1 Try.underlying58 (by kernel_rfl) h with ⟨e, -⟩ | ⟨a, len, cap, m, n, V, D, Pl, e, -, hl, hm, hmm, -, hx⟩
  · simp only [List.cons.injEq, and_true] at e
    exact ⟨[], none, 0, e, Nat.le_refl _, Nat.zero_le _, fun h => absurd h (by simp)⟩
  simp only [List.cons.injEq, and_true] at e
  simp only [if_true] at hmm
  subst hmm
  have at_i : ∀ k, k < m → ∃ q : Bool, w.cell? (a.add k) = some (.bool q) := by
    intro k hk
    obtain ⟨hc, ht⟩ := hx k hk
    obtain ⟨q, e, -⟩ := DataW.trod_bool Try.underlying4 ht
    simp only [List.cons.injEq, and_true] at e
    exact ⟨q, by rw [hc, e]⟩
  obtain ⟨f, hf⟩ := choose_lt at_i
  refine ⟨(List.range len).map f, some a, m, by simpa using e, by simpa using hl, hm, fun hpos => ?_⟩
  have hpos : 0 < len := by simpa using hpos
  have c0 := hf 0 (by omega)
  obtain ⟨ab, ao, asp⟩ := a
  have hsp : asp = none := (cell_there c0).2
  have hblk := (cell_there c0).1
  subst hsp
  have hadd : ∀ i, (Addr.mk ab ao none).add i = ⟨ab, ao + i, none⟩ := by
    intro i
    unfold Addr.add
    by_cases hi : i = 0 <;> simp [hi]
  refine ⟨ab, ao, rfl, by simpa [hadd] using hblk, fun i hi => ?_⟩
  have hi : i < len := by simpa using hi
  have := hf i (by omega)
  rw [hadd] at this
  rw [this]
  simp [hi]

set_option maxRecDepth 100000 in
theorem open_int {W : World} {v : Value} (h : Value.okWide Try.prog W .any 0 3 v) : ∃ n, v = .int .i64 n ∧ IntKind.i64.has n := by
  simp only [Value.okWide, Cell.okWide, Try.underlying3] at h
  cases v <;> simp_all [Cell.ok]
end
end Go.Proofs.Ytlnkflmnjkmhkaa

/-
  Lemmas, joined: FolK, FolM, FolQ.
-/
import Derived.Test.YtehcclcokgmplaaJA18
import Derived.Test.YtehcclcokgmplaaJA22
import Derived.Laws.EntriesVeiled
/-
  Layer 35's code, walked: known.
-/
namespace Go.Proofs.Ytehcclcokgmplaa
open Go.RowKit Go.Maps

def s0P : PgS := ⟨none, 0, 0, none, 0, 0, none, 0, 0, none, 0, 0, none, 0, 0, none, 0, 0, none, 0, 0, none, 0, 0, none, 0, 0, none, 0, 0, none, 0, 0, none, 0, 0⟩
theorem pktF0 : PktF p0 x0 where
  v := rfl
  f := rfl
  m := rfl
  mf := fun j a h => by simp [x0] at h
  fl := fun j a h => by simp [x0] at h
  ff := fun j a h => by simp [x0] at h
  z := fun j a h => by simp [x0] at h
theorem pktB0 {W : World} {X base : Nat} (hg : W.heap[X]? = some (.cells #[.int .i64 0, .slice none 0 0, .slice none 0 0, .slice none 0 0, .slice none 0 0, .bool false, .bool false, .int .i64 0, .bool false] 98 (0, 0))) (hb : base ≤ X) : PktB base W X x0 (.slice none 0 0) (.slice none 0 0) (.slice none 0 0) (.slice none 0 0) [] where
  st := hg
  hr := World.ownsRow_nil _ _ _ _
  hv := World.ownsRow_nil _ _ _ _
  hf := World.ownsRow_nil _ _ _ _
  hfs := fun i u l h => by simp at h
  hm := ⟨World.ownsRow_nil _ _ _ _, fun n hn => by simp [x0] at hn⟩
  lo := hb
  nd := by show List.Nodup [X]; simp
/-- The value of constants' node, by the machine of an empty program. -/
theorem value0 (c : List Nod) (wt : Int) (cp : Option Addr) (cn cc X : Nat) (w : World) (hw : widthP p0 0 c = some wt) (hlen : c.length ≤ 6000) (hc : CRow w (.slice cp cn cc) c)
    (hg : w.heap[X]? = some (.cells #[.int .i64 0, .slice none 0 0, .slice none 0 0, .slice none 0 0, .slice none 0 0, .bool false, .bool false, .int .i64 0, .bool false] 98 (0, 0))) :
    Calls Try.prog 33 #[.agg #[.slice none 0 0, .slice none 0 0, .slice none 0 0, .slice none 0 0, .slice none 0 0, .slice none 0 0, .slice none 0 0, .slice none 0 0, .slice none 0 0, .slice none 0 0, .slice none 0 0, .slice none 0 0], .pointer (some ⟨X, 0, none⟩), .slice cp cn cc, .slice none 0 0] w fun e w' => e = .returned (numV (evC x0 [] c)) ∧ Below X w w' := by
  have h := valueA_any (base := X) (X := X) (p := p0) (act := 0) (wt := wt) (x := x0) (fs := []) (args := []) s0P c cp none cn cc 0 0 w hw hlen pktF0 (by decide) (fun _ h => by simp [p0] at h) (pktB0 hg (Nat.le_refl _)) hc RowAt.nil
  exact h.mono fun e w' ⟨h1, _, h3⟩ => ⟨h1, h3.below (Nat.le_of_lt (Array.getElem?_eq_some_iff.1 hg).1) fun q e => Nat.le_of_eq e.symm⟩

def allC (ls : List (List Nod)) : Bool := ls.all fun l => (cV l).2
theorem allC_snoc {ls : List (List Nod)} {k : Nat} {l : List Nod} (h : ls[k]? = some l) : allC (ls.take (k + 1)) = (allC (ls.take k) && (cV l).2) := by
  unfold allC
  rw [List.take_add_one, h, List.all_append]
  simp
theorem allC_false {ls : List (List Nod)} {k : Nat} {l : List Nod} (h : ls[k]? = some l) (hc : (cV l).2 = false) : allC ls = false := by
  unfold allC
  rw [List.all_eq_false]
  exact ⟨l, List.mem_of_getElem? h, by simp [hc]⟩
theorem code_lit {W : World} {g base : Nat} {n : Nod} (hv : n.v < B * B) (hb : base ≤ g) (hg : W.heap[g]? = some (.cells (ndE n).toArray 61 (0, 0))) : CO base W (.slice (some ⟨g, 0, none⟩) 1 1) [n] :=
  ⟨⟨rfl, .inr ⟨g, 1, _, rfl, hb, hg, Nat.le_refl _, by decide, rfl, by simp [ndE]⟩⟩, fun x hx => by rw [List.mem_singleton.1 hx]; exact hv⟩

set_option maxRecDepth 100000 in
set_option maxHeartbeats 6400000 in
theorem known_any (base : Nat) (n : Nod) (ls : List (List Nod)) (wt : Int) (pp : Option Addr) (pn pc : Nat) (w : World) (hp : Prt base w (.slice pp pn pc) ls) (hl : ls.flatten.length ≤ 5000) (hn : pn ≤ 6000) (hv : n.v < B * B) (hbase : base ≤ w.heap.size)
    (hw : allC ls = true → widthP p0 0 (ls.flatten ++ [n]) = some wt) (hR : allC ls = true → kN n ls.flatten < B * B) :
    Calls Try.prog 21 #[fndV n (.slice pp pn pc)] w (RetC base w (if allC ls = true then some [cst n (kN n ls.flatten)] else none)) := by
  have HPL : Hid (∀ W, Below w.heap.size w W → Calls Try.prog 27 #[fndV n (.slice pp pn pc)] W fun e w' => (∃ v, e = .returned v ∧ CO W.heap.size w' v (ls.flatten ++ [n])) ∧ Below W.heap.size W w') := fun W h => plain_any base n ls pp pn pc W (hp.below h) hl hn hv
  have HLN : Hid (pn = ls.length) := hp.len
  have HP := Lib.hid hp
  have HW := Lib.hid hw
  have HRV := Lib.hid hR
  have HBS := Lib.hid hbase
  have HLEN : Hid ((ls.flatten ++ [n]).length ≤ 6000) := by show _ ≤ _; rw [List.length_append, List.length_singleton]; omega
  have HKN : Hid (evC x0 [] (ls.flatten ++ [n]) = kN n ls.flatten) := rfl
  clear hp hl hv hw hR hbase
  generalize hcd : ls.flatten ++ [n] = code at *
  clear hcd
  obtain ⟨O, hO⟩ : ∃ O, O = (if allC ls = true then some [cst n (kN n ls.flatten)] else none) := ⟨_, rfl⟩
  rw [← hO]
  generalize kN n ls.flatten = R at *
  obtain ⟨zx, zy, hz, ex, ey⟩ := numV_parts R
  have HCST : Hid (ndE (cst n R) = [.int .u8 1, .int .i64 n.w, .int .i64 0, .int .i64 0, .int .u64 (zx : Int), .int .u64 (zy : Int)]) := by show _ = _; unfold ndE cst; rw [ex, ey]
  generalize hcs : cst n R = nd at *
  have HRC : Hid (allC ls = true → nd.v < B * B) := fun h => by rw [← hcs]; exact HRV.out h
  clear hcs HRV ex ey
  have HZ := Lib.hid hz
  clear hz
  have HO := Lib.hid hO
  clear hO
  obtain ⟨op, k, a, b, v⟩ := n
  dsimp only at HCST
  unfold fndV at HPL ⊢
  dsimp only at HPL ⊢
  generalize ((v / B : Nat) : Int) = x at *
  generalize ((v % B : Nat) : Int) = y at *
  go_enter Try.func21, Try.ntmps21
  go_upto_region 1 with fail
  obtain ⟨W1, hW1⟩ : ∃ W1, W1 = w.alloc (.cells #[.int .u8 op, .int .i64 k, .int .i64 a, .int .i64 b, .int .u64 x, .int .u64 y, .slice pp pn pc] 77) := ⟨_, rfl⟩
  have HQ1 : Hid (Below w.heap.size w W1) := by show Below _ _ _; rw [hW1]; exact (by repeat (first | exact Below.refl _ _ | assumption | refine Below.drew ?_ | refine Below.alloc ?_ (by first | omega | (simp <;> omega)) _ | refine Below.setCell ?_ (by first | omega | (simp <;> omega)) _ | refine Below.trans ?_ (Below.mono (by assumption) (by first | omega | (simp <;> omega)))))
  have HF1 : Hid (∀ W, Below W1.heap.size W1 W → W.cell? ⟨w.heap.size, 0, none⟩ = some (.int .u8 op) ∧ W.cell? ⟨w.heap.size, 1, none⟩ = some (.int .i64 k) ∧ W.cell? ⟨w.heap.size, 2, none⟩ = some (.int .i64 a) ∧ W.cell? ⟨w.heap.size, 3, none⟩ = some (.int .i64 b) ∧ W.cell? ⟨w.heap.size, 4, none⟩ = some (.int .u64 x) ∧ W.cell? ⟨w.heap.size, 5, none⟩ = some (.int .u64 y) ∧ W.cell? ⟨w.heap.size, 6, none⟩ = some (.slice pp pn pc)) := fun W h => by
    have hs : w.heap.size < W1.heap.size := by rw [hW1]; simp
    refine ⟨(h.cell (p := ⟨w.heap.size, 0, none⟩) hs).trans ?_, (h.cell (p := ⟨w.heap.size, 1, none⟩) hs).trans ?_, (h.cell (p := ⟨w.heap.size, 2, none⟩) hs).trans ?_, (h.cell (p := ⟨w.heap.size, 3, none⟩) hs).trans ?_, (h.cell (p := ⟨w.heap.size, 4, none⟩) hs).trans ?_, (h.cell (p := ⟨w.heap.size, 5, none⟩) hs).trans ?_, (h.cell (p := ⟨w.heap.size, 6, none⟩) hs).trans ?_⟩
    all_goals (rw [hW1]; go_simp)
  rw [← hW1]
  clear hW1
  obtain ⟨r0, r1, r2, r3, r4, r5, r6⟩ := HF1.out W1 (Below.refl _ _)
  go_wp2_with fail
  go_loopw [2, 3, 5, 6, 7, 12] (fun u2 u3 u5 u6 u7 i wr => ∃ q : Nat, q ≤ pn ∧ i = .int .i64 q ∧ Hid (allC (ls.take q) = true) ∧ Hid (Below W1.heap.size W1 wr)) (fun _ _ _ _ _ i _ => pn - (intOf i).toNat)
  case atStart => exact ⟨0, Nat.zero_le _, rfl, rfl, Below.refl _ _⟩
  case round =>
    obtain ⟨q, hq, rfl, HA, HBr⟩ := hrel
    have HEr : Hid (Below w.heap.size w wr) := HQ1.out.trans (HBr.out.mono HQ1.out.size)
    obtain ⟨r0, r1, r2, r3, r4, r5, r6⟩ := HF1.out wr HBr.out
    by_cases hlt : q < pn
    · have hki : (q : Int) < (pn : Int) := by omega
      obtain ⟨l, hc⟩ : ∃ l, ls[q]? = some l := ⟨_, List.getElem?_eq_getElem (by have := HLN.out; omega)⟩
      obtain ⟨kb, ko, cp, cn, cc, hps, hkb, y0, hy0⟩ := (HP.out.below HEr.out).el hc
      subst hps
      have HCO : Hid (∀ W, Below wr.heap.size wr W → Calls Try.prog 32 #[.slice cp cn cc] W fun e w' => e = .returned (.tuple #[numV (cV l).1, .bool (cV l).2]) ∧ Below W.heap.size W w') := fun W h => constant_any _ _ _ _ W (hy0.below h).row
      obtain ⟨tx, ty, ht, -, -⟩ := numV_parts (cV l).1
      rw [ht] at HCO
      have HS := Lib.hid (allC_snoc hc)
      have HFL := Lib.hid (fun h => allC_false hc h)
      clear ht hc hy0
      generalize (cV l).2 = cb at *
      cases cb
      · replace HO : Hid (O = none) := by show O = _; rw [HO.out, HFL.out rfl]; rfl
        go_wp2_with (go_at_call 32; refine (HCO.out _ (Below.refl _ _)).mono ?_; rintro e w2 ⟨rfl, g2⟩; have HE2 : Hid (Below w.heap.size w w2) := HEr.out.trans (g2.mono HEr.out.size); clear g2 r0 r1 r2 r3 r4 r5 r6)
        refine bodyPost_ret (results_tmp2 rfl _ _ _) rfl ?_
        rw [HO.out]
        exact ⟨⟨none, 0, 0, rfl, fun l h => by cases h⟩, HE2.out.alloc HE2.out.size _⟩
      · go_wp2_with (go_at_call 32; refine (HCO.out _ (Below.refl _ _)).mono ?_; rintro e w2 ⟨rfl, g2⟩; have HB2 : Hid (Below W1.heap.size W1 w2) := HBr.out.trans (g2.mono HBr.out.size); clear g2 r0 r1 r2 r3 r4 r5 r6)
        go_roundw
        case rel => exact ⟨q + 1, by omega, by go_num, by rw [HS.out, HA.out]; rfl, HB2.out.alloc HB2.out.size _⟩
        case measure => simp [intOf]; omega
    · obtain rfl : q = pn := by omega
      have hkk : ¬ (q : Int) < (q : Int) := by omega
      rw [HLN.out, List.take_length] at HA
      replace HO : Hid (O = some [nd]) := by show O = _; rw [HO.out, if_pos HA.out]
      replace HRC := Lib.hid (HRC.out HA.out)
      replace HW := Lib.hid (HW.out HA.out)
      go_upto_region 8 with fail
      have HEN : Hid (∀ W, Below wr.heap.size wr W → Below W1.heap.size W1 W) := fun W h => HBr.out.trans (h.mono HBr.out.size)
      have hg2 := heap_new wr (.cells #[.int .i64 0, .slice none 0 0, .slice none 0 0, .slice none 0 0, .slice none 0 0, .bool false, .bool false, .int .i64 0, .bool false] 98)
      have HG2 := Lib.hid hg2
      clear hg2
      obtain ⟨q0, q1, q2, q3, q4, q5, q6⟩ := HF1.out (wr.alloc (.cells #[.int .i64 0, .slice none 0 0, .slice none 0 0, .slice none 0 0, .slice none 0 0, .bool false, .bool false, .int .i64 0, .bool false] 98)) (HEN.out _ ((Below.refl _ _).alloc (Nat.le_refl _) _))
      clear r0 r1 r2 r3 r4 r5 r6
      go_upto_region 9 with (first
        | (go_at_call 27; refine (HPL.out _ (HEr.out.alloc HEr.out.size _)).mono ?_; rintro e w3 ⟨⟨z, rfl, g1⟩, g2⟩; obtain ⟨pz, cz, rfl⟩ := g1.shape; have HCO3 := Lib.hid g1; have HG3 := Lib.hid ((g2.block wr.heap.size (by simp)).trans HG2.out); have HE3 : Hid (Below wr.heap.size wr w3) := ((Below.refl _ _).alloc (Nat.le_refl _) _).trans (g2.mono (by simp)); clear g1 g2 q0 q1 q2 q3 q4 q5 q6; have hvv := value0 code wt pz _ cz wr.heap.size w3 HW.out HLEN.out HCO3.out.row HG3.out; rw [HKN.out, HZ.out] at hvv; have HVV := Lib.hid hvv; clear hvv)
        | (go_at_call 33; refine HVV.out.mono ?_; rintro e w4 ⟨rfl, g4⟩; have HE4 : Hid (Below wr.heap.size wr w4) := HE3.out.trans g4; clear g4))
      obtain ⟨W5, hW5⟩ : ∃ W5, W5 = w4.alloc (.cells #[.int .u64 (zx : Int), .int .u64 (zy : Int)] 59) := ⟨_, rfl⟩
      have HE5 : Hid (Below wr.heap.size wr W5) := by show Below _ _ _; rw [hW5]; exact HE4.out.alloc HE4.out.size _
      have b0 : W5.cell? ⟨w4.heap.size, 0, none⟩ = some (.int .u64 (zx : Int)) := by rw [hW5]; go_simp
      have b1 : W5.cell? ⟨w4.heap.size, 1, none⟩ = some (.int .u64 (zy : Int)) := by rw [hW5]; go_simp
      rw [← hW5]
      clear hW5
      obtain ⟨q0, q1, q2, q3, q4, q5, q6⟩ := HF1.out W5 (HEN.out _ HE5.out)
      go_wp2_with fail
      refine bodyPost_ret (results_tmp2 rfl _ _ _) rfl ?_
      rw [HO.out]
      have hb5 : Below w.heap.size w W5 := HEr.out.trans (HE5.out.mono HEr.out.size)
      refine ⟨⟨_, _, _, rfl, fun l h => ?_⟩, hb5.alloc hb5.size _⟩
      cases h
      refine code_lit HRC.out (Nat.le_trans HBS.out hb5.size) ?_
      rw [HCST.out]
      exact heap_new _ _

end Go.Proofs.Ytehcclcokgmplaa

/-
  Layer 35's code, walked: made, by what its rules answer.
-/
namespace Go.Proofs.Ytehcclcokgmplaa
open Go.RowKit Go.Maps

def firstO : List (Option (List Nod)) → List Nod → List Nod
  | [], d => d
  | some l :: _, _ => l
  | none :: r, d => firstO r d
theorem RetC.none {base : Nat} {w w' : World} {e : Ending} (h : RetC base w none e w') : (∃ p n c, e = .returned (.tuple #[.slice p n c, .bool false])) ∧ Below w.heap.size w w' := by
  obtain ⟨⟨p, n, c, h1, -⟩, h2⟩ := h
  exact ⟨⟨p, n, c, h1⟩, h2⟩
theorem RetC.some {base : Nat} {w w' : World} {e : Ending} {l : List Nod} (h : RetC base w (some l) e w') : (∃ p n c, e = .returned (.tuple #[.slice p n c, .bool true]) ∧ CO base w' (.slice p n c) l) ∧ Below w.heap.size w w' := by
  obtain ⟨⟨p, n, c, h1, h3⟩, h2⟩ := h
  exact ⟨⟨p, n, c, h1, h3 l rfl⟩, h2⟩

set_option maxRecDepth 100000 in
set_option maxHeartbeats 3200000 in
theorem made0_any (n : Nod) (pp : Option Addr) (pc : Nat) (w : World) (hv : n.v < B * B) :
    Calls Try.prog 18 #[fndV n (.slice pp 0 pc)] w fun e w' => (∃ v, e = .returned v ∧ CO w.heap.size w' v [n]) ∧ Below w.heap.size w w' := by
  have HV := Lib.hid hv
  have HND : Hid (ndE n = [.int .u8 n.op, .int .i64 n.w, .int .i64 n.a, .int .i64 n.b, .int .u64 ((n.v / B : Nat) : Int), .int .u64 ((n.v % B : Nat) : Int)]) := rfl
  unfold fndV
  generalize ((n.v / B : Nat) : Int) = x at *
  generalize ((n.v % B : Nat) : Int) = y at *
  clear hv
  go_enter Try.func18, Try.ntmps18
  go_wp2_with fail
  go_ret
  have hb : Below w.heap.size w ((w.alloc (.cells #[.int .u8 n.op, .int .i64 n.w, .int .i64 n.a, .int .i64 n.b, .int .u64 x, .int .u64 y, .slice pp 0 pc] 77)).alloc (.cells #[.int .u8 n.op, .int .i64 n.w, .int .i64 n.a, .int .i64 n.b, .int .u64 x, .int .u64 y] 61)) := (by repeat (first | exact Below.refl _ _ | assumption | refine Below.drew ?_ | refine Below.alloc ?_ (by first | omega | (simp <;> omega)) _ | refine Below.setCell ?_ (by first | omega | (simp <;> omega)) _ | refine Below.trans ?_ (Below.mono (by assumption) (by first | omega | (simp <;> omega)))))
  refine ⟨⟨_, rfl, code_lit HV.out (Nat.le_succ _) ?_⟩, hb⟩
  rw [HND.out]
  have := heap_new (w.alloc (.cells #[.int .u8 n.op, .int .i64 n.w, .int .i64 n.a, .int .i64 n.b, .int .u64 x, .int .u64 y, .slice pp 0 pc] 77)) (.cells #[.int .u8 n.op, .int .i64 n.w, .int .i64 n.a, .int .i64 n.b, .int .u64 x, .int .u64 y] 61)
  simp only [World.size_alloc] at this
  exact this

set_option maxRecDepth 100000 in
set_option maxHeartbeats 6400000 in
theorem made1_gen (base : Nat) (n : Nod) (ls : List (List Nod)) (o1 o2 o3 o4 : Option (List Nod)) (pp : Option Addr) (pc : Nat) (w : World) (hp : Prt base w (.slice pp 1 pc) ls) (hl : ls.flatten.length ≤ 5000) (hv : n.v < B * B) (hbase : base ≤ w.heap.size)
    (h1 : ∀ W, Below w.heap.size w W → Calls Try.prog 21 #[fndV n (.slice pp 1 pc)] W (RetC base W o1))
    (h2 : ∀ W, Below w.heap.size w W → Calls Try.prog 22 #[fndV n (.slice pp 1 pc)] W (RetC base W o2))
    (h3 : ∀ W, Below w.heap.size w W → Calls Try.prog 23 #[fndV n (.slice pp 1 pc)] W (RetC base W o3))
    (h4 : ∀ W, Below w.heap.size w W → Calls Try.prog 24 #[fndV n (.slice pp 1 pc)] W (RetC base W o4)) :
    Calls Try.prog 18 #[fndV n (.slice pp 1 pc)] w fun e w' => (∃ v, e = .returned v ∧ CO base w' v (firstO [o1, o2, o3, o4] (ls.flatten ++ [n]))) ∧ Below w.heap.size w w' := by
  have HPL : Hid (∀ W, Below w.heap.size w W → Calls Try.prog 27 #[fndV n (.slice pp 1 pc)] W fun e w' => (∃ v, e = .returned v ∧ CO W.heap.size w' v (ls.flatten ++ [n])) ∧ Below W.heap.size W w') := fun W h => plain_any base n ls pp 1 pc W (hp.below h) hl (by omega) hv
  have H1 := Lib.hid h1
  have H2 := Lib.hid h2
  have H3 := Lib.hid h3
  have H4 := Lib.hid h4
  have HBS := Lib.hid hbase
  clear hp hl hv hbase h1 h2 h3 h4
  generalize ls.flatten ++ [n] = d at *
  obtain ⟨RES, hRS⟩ : ∃ RES, RES = firstO [o1, o2, o3, o4] d := ⟨_, rfl⟩
  rw [← hRS]
  have HRS := Lib.hid hRS
  clear hRS
  obtain ⟨op, k, a, b, v⟩ := n
  unfold fndV at HPL H1 H2 H3 H4 ⊢
  dsimp only at HPL H1 H2 H3 H4 ⊢
  generalize ((v / B : Nat) : Int) = x at *
  generalize ((v % B : Nat) : Int) = y at *
  have ix0 : ∀ w, (Instr.index 82 (.agg #[.func (.func 21) #[] #[], .func (.func 22) #[] #[], .func (.func 23) #[] #[], .func (.func 24) #[] #[]]) (.int .i64 0)).run Try.prog w = .ok (.func (.func 21) #[] #[]) w := fun _ => by kernel_rfl
  have ix1 : ∀ w, (Instr.index 82 (.agg #[.func (.func 21) #[] #[], .func (.func 22) #[] #[], .func (.func 23) #[] #[], .func (.func 24) #[] #[]]) (.int .i64 1)).run Try.prog w = .ok (.func (.func 22) #[] #[]) w := fun _ => by kernel_rfl
  have ix2 : ∀ w, (Instr.index 82 (.agg #[.func (.func 21) #[] #[], .func (.func 22) #[] #[], .func (.func 23) #[] #[], .func (.func 24) #[] #[]]) (.int .i64 2)).run Try.prog w = .ok (.func (.func 23) #[] #[]) w := fun _ => by kernel_rfl
  have ix3 : ∀ w, (Instr.index 82 (.agg #[.func (.func 21) #[] #[], .func (.func 22) #[] #[], .func (.func 23) #[] #[], .func (.func 24) #[] #[]]) (.int .i64 3)).run Try.prog w = .ok (.func (.func 24) #[] #[]) w := fun _ => by kernel_rfl
  go_enter Try.func18, Try.ntmps18
  go_upto_region 1 with fail
  obtain ⟨W1, hW1⟩ : ∃ W1, W1 = w.alloc (.cells #[.int .u8 op, .int .i64 k, .int .i64 a, .int .i64 b, .int .u64 x, .int .u64 y, .slice pp 1 pc] 77) := ⟨_, rfl⟩
  have HQ1 : Hid (Below w.heap.size w W1) := by show Below _ _ _; rw [hW1]; exact (by repeat (first | exact Below.refl _ _ | assumption | refine Below.drew ?_ | refine Below.alloc ?_ (by first | omega | (simp <;> omega)) _ | refine Below.setCell ?_ (by first | omega | (simp <;> omega)) _ | refine Below.trans ?_ (Below.mono (by assumption) (by first | omega | (simp <;> omega)))))
  have HF1 : Hid (∀ W, Below W1.heap.size W1 W → W.cell? ⟨w.heap.size, 0, none⟩ = some (.int .u8 op) ∧ W.cell? ⟨w.heap.size, 1, none⟩ = some (.int .i64 k) ∧ W.cell? ⟨w.heap.size, 2, none⟩ = some (.int .i64 a) ∧ W.cell? ⟨w.heap.size, 3, none⟩ = some (.int .i64 b) ∧ W.cell? ⟨w.heap.size, 4, none⟩ = some (.int .u64 x) ∧ W.cell? ⟨w.heap.size, 5, none⟩ = some (.int .u64 y) ∧ W.cell? ⟨w.heap.size, 6, none⟩ = some (.slice pp 1 pc)) := fun W h => by
    have hs : w.heap.size < W1.heap.size := by rw [hW1]; simp
    refine ⟨(h.cell (p := ⟨w.heap.size, 0, none⟩) hs).trans ?_, (h.cell (p := ⟨w.heap.size, 1, none⟩) hs).trans ?_, (h.cell (p := ⟨w.heap.size, 2, none⟩) hs).trans ?_, (h.cell (p := ⟨w.heap.size, 3, none⟩) hs).trans ?_, (h.cell (p := ⟨w.heap.size, 4, none⟩) hs).trans ?_, (h.cell (p := ⟨w.heap.size, 5, none⟩) hs).trans ?_, (h.cell (p := ⟨w.heap.size, 6, none⟩) hs).trans ?_⟩
    all_goals (rw [hW1]; go_simp)
  rw [← hW1]
  clear hW1
  obtain ⟨r0, r1, r2, r3, r4, r5, r6⟩ := HF1.out W1 (Below.refl _ _)
  go_upto_region 4 with fail
  obtain ⟨W2, hW2⟩ : ∃ W2, W2 = W1.alloc (.cells #[.func (.func 21) #[] #[], .func (.func 22) #[] #[], .func (.func 23) #[] #[], .func (.func 24) #[] #[]] 82) := ⟨_, rfl⟩
  have HB12 : Hid (Below W1.heap.size W1 W2) := by show Below _ _ _; rw [hW2]; exact (Below.refl _ _).alloc (Nat.le_refl _) _
  have HQ2 : Hid (Below w.heap.size w W2) := HQ1.out.trans (HB12.out.mono HQ1.out.size)
  have b0 : W2.cell? ⟨W1.heap.size, 0, none⟩ = some (.func (.func 21) #[] #[]) := by rw [hW2]; go_simp
  have b1 : W2.cell? ⟨W1.heap.size, 1, none⟩ = some (.func (.func 22) #[] #[]) := by rw [hW2]; go_simp
  have b2 : W2.cell? ⟨W1.heap.size, 2, none⟩ = some (.func (.func 23) #[] #[]) := by rw [hW2]; go_simp
  have b3 : W2.cell? ⟨W1.heap.size, 3, none⟩ = some (.func (.func 24) #[] #[]) := by rw [hW2]; go_simp
  rw [← hW2]
  clear hW2 r0 r1 r2 r3 r4 r5 r6
  go_wp2_with fail
  go_loopw [2, 5, 6, 7, 21] (fun u2 u5 u6 u7 i wr => ∃ q : Nat, q ≤ 4 ∧ i = .int .i64 q ∧ Hid (1 ≤ q → o1 = none) ∧ Hid (2 ≤ q → o2 = none) ∧ Hid (3 ≤ q → o3 = none) ∧ Hid (4 ≤ q → o4 = none) ∧ Hid (Below W2.heap.size W2 wr)) (fun _ _ _ _ i _ => 4 - (intOf i).toNat)
  case atStart => exact ⟨0, Nat.zero_le _, rfl, (fun h => absurd h (by omega)), (fun h => absurd h (by omega)), (fun h => absurd h (by omega)), (fun h => absurd h (by omega)), Below.refl _ _⟩
  case round =>
    clear b0 b1 b2 b3
    obtain ⟨q, hq, rfl, HZ1, HZ2, HZ3, HZ4, HBr⟩ := hrel
    have HEr : Hid (Below w.heap.size w wr) := HQ2.out.trans (HBr.out.mono HQ2.out.size)
    obtain ⟨r0, r1, r2, r3, r4, r5, r6⟩ := HF1.out wr (HB12.out.trans (HBr.out.mono HB12.out.size))
    have hqs : q = 0 ∨ q = 1 ∨ q = 2 ∨ q = 3 ∨ q = 4 := by omega
    rcases hqs with rfl | rfl | rfl | rfl | rfl
    · cases o1 with
      | none =>
        go_wp2_with (go_at_call 21; refine (H1.out _ HEr.out).mono ?_; rintro e w2 h2; obtain ⟨⟨p3, n3, c3, rfl⟩, g2⟩ := h2.none; have HB2 : Hid (Below W2.heap.size W2 w2) := HBr.out.trans (g2.mono HBr.out.size); clear g2 h2 r0 r1 r2 r3 r4 r5 r6)
        go_roundw
        case rel => exact ⟨1, by omega, by go_num, (fun _ => by first | rfl | trivial), (fun h => absurd h (by omega)), (fun h => absurd h (by omega)), (fun h => absurd h (by omega)), HB2.out⟩
        case measure => simp [intOf]
      | some l =>
        replace HRS : Hid (RES = l) := by show RES = _; rw [HRS.out]; rfl
        go_wp2_with (go_at_call 21; refine (H1.out _ HEr.out).mono ?_; rintro e w2 h2; obtain ⟨⟨p3, n3, c3, rfl, g1⟩, g2⟩ := h2.some; have HC2 := Lib.hid g1; have HE2 : Hid (Below w.heap.size w w2) := HEr.out.trans (g2.mono HEr.out.size); clear g1 g2 h2 r0 r1 r2 r3 r4 r5 r6)
        go_ret
        exact ⟨⟨_, rfl, by rw [HRS.out]; exact HC2.out⟩, HE2.out⟩
    · obtain rfl : o1 = none := HZ1.out (by omega)
      cases o2 with
      | none =>
        go_wp2_with (go_at_call 22; refine (H2.out _ HEr.out).mono ?_; rintro e w2 h2; obtain ⟨⟨p3, n3, c3, rfl⟩, g2⟩ := h2.none; have HB2 : Hid (Below W2.heap.size W2 w2) := HBr.out.trans (g2.mono HBr.out.size); clear g2 h2 r0 r1 r2 r3 r4 r5 r6)
        go_roundw
        case rel => exact ⟨2, by omega, by go_num, (fun _ => by first | rfl | trivial), (fun _ => by first | rfl | trivial), (fun h => absurd h (by omega)), (fun h => absurd h (by omega)), HB2.out⟩
        case measure => simp [intOf]
      | some l =>
        replace HRS : Hid (RES = l) := by show RES = _; rw [HRS.out]; rfl
        go_wp2_with (go_at_call 22; refine (H2.out _ HEr.out).mono ?_; rintro e w2 h2; obtain ⟨⟨p3, n3, c3, rfl, g1⟩, g2⟩ := h2.some; have HC2 := Lib.hid g1; have HE2 : Hid (Below w.heap.size w w2) := HEr.out.trans (g2.mono HEr.out.size); clear g1 g2 h2 r0 r1 r2 r3 r4 r5 r6)
        go_ret
        exact ⟨⟨_, rfl, by rw [HRS.out]; exact HC2.out⟩, HE2.out⟩
    · obtain rfl : o1 = none := HZ1.out (by omega)
      obtain rfl : o2 = none := HZ2.out (by omega)
      cases o3 with
      | none =>
        go_wp2_with (go_at_call 23; refine (H3.out _ HEr.out).mono ?_; rintro e w2 h2; obtain ⟨⟨p3, n3, c3, rfl⟩, g2⟩ := h2.none; have HB2 : Hid (Below W2.heap.size W2 w2) := HBr.out.trans (g2.mono HBr.out.size); clear g2 h2 r0 r1 r2 r3 r4 r5 r6)
        go_roundw
        case rel => exact ⟨3, by omega, by go_num, (fun _ => by first | rfl | trivial), (fun _ => by first | rfl | trivial), (fun _ => by first | rfl | trivial), (fun h => absurd h (by omega)), HB2.out⟩
        case measure => simp [intOf]
      | some l =>
        replace HRS : Hid (RES = l) := by show RES = _; rw [HRS.out]; rfl
        go_wp2_with (go_at_call 23; refine (H3.out _ HEr.out).mono ?_; rintro e w2 h2; obtain ⟨⟨p3, n3, c3, rfl, g1⟩, g2⟩ := h2.some; have HC2 := Lib.hid g1; have HE2 : Hid (Below w.heap.size w w2) := HEr.out.trans (g2.mono HEr.out.size); clear g1 g2 h2 r0 r1 r2 r3 r4 r5 r6)
        go_ret
        exact ⟨⟨_, rfl, by rw [HRS.out]; exact HC2.out⟩, HE2.out⟩
    · obtain rfl : o1 = none := HZ1.out (by omega)
      obtain rfl : o2 = none := HZ2.out (by omega)
      obtain rfl : o3 = none := HZ3.out (by omega)
      cases o4 with
      | none =>
        go_wp2_with (go_at_call 24; refine (H4.out _ HEr.out).mono ?_; rintro e w2 h2; obtain ⟨⟨p3, n3, c3, rfl⟩, g2⟩ := h2.none; have HB2 : Hid (Below W2.heap.size W2 w2) := HBr.out.trans (g2.mono HBr.out.size); clear g2 h2 r0 r1 r2 r3 r4 r5 r6)
        go_roundw
        case rel => exact ⟨4, by omega, by go_num, (fun _ => by first | rfl | trivial), (fun _ => by first | rfl | trivial), (fun _ => by first | rfl | trivial), (fun _ => by first | rfl | trivial), HB2.out⟩
        case measure => simp [intOf]
      | some l =>
        replace HRS : Hid (RES = l) := by show RES = _; rw [HRS.out]; rfl
        go_wp2_with (go_at_call 24; refine (H4.out _ HEr.out).mono ?_; rintro e w2 h2; obtain ⟨⟨p3, n3, c3, rfl, g1⟩, g2⟩ := h2.some; have HC2 := Lib.hid g1; have HE2 : Hid (Below w.heap.size w w2) := HEr.out.trans (g2.mono HEr.out.size); clear g1 g2 h2 r0 r1 r2 r3 r4 r5 r6)
        go_ret
        exact ⟨⟨_, rfl, by rw [HRS.out]; exact HC2.out⟩, HE2.out⟩
    · obtain rfl : o1 = none := HZ1.out (by omega)
      obtain rfl : o2 = none := HZ2.out (by omega)
      obtain rfl : o3 = none := HZ3.out (by omega)
      obtain rfl : o4 = none := HZ4.out (by omega)
      replace HRS : Hid (RES = d) := by show RES = _; rw [HRS.out]; rfl
      go_wp2_with (go_at_call 27; refine (HPL.out _ HEr.out).mono ?_; rintro e w2 ⟨⟨z, rfl, g1⟩, g2⟩; have HC2 := Lib.hid g1; have HE2 : Hid (Below w.heap.size w w2) := HEr.out.trans (g2.mono HEr.out.size); clear g1 g2)
      go_ret
      exact ⟨⟨_, rfl, by rw [HRS.out]; exact HC2.out.mono (Nat.le_trans HBS.out HEr.out.size)⟩, HE2.out⟩

end Go.Proofs.Ytehcclcokgmplaa

/-
  Layer 35's code, walked: made of one part is madeU.
-/
namespace Go.Proofs.Ytehcclcokgmplaa
open Go.RowKit Go.Maps

def Tr.ini : Tr → List Nod
  | .leaf _ => []
  | .un _ t => t.flat
  | .bin _ a b => a.flat ++ b.flat
theorem flat_ini (t : Tr) : t.flat = t.ini ++ [t.root] := by cases t <;> rfl
theorem allC_one {p : Prg} {act w : Int} {t : Tr} (h : WTr p act t w) : allC [t.flat] = t.isC := by
  simp [allC, cV_tree h]
theorem allC_two {p : Prg} {act wa wb : Int} {a b : Tr} (ha : WTr p act a wa) (hb : WTr p act b wb) : allC [a.flat, b.flat] = (a.isC && b.isC) := by
  simp [allC, cV_tree ha, cV_tree hb]
theorem flat_one (l : List Nod) : [l].flatten = l := by simp
theorem flat_two (a b : List Nod) : [a, b].flatten = a ++ b := by simp
/-- What slice makes of a slice. -/
def sliceR (t : Tr) (n : Nod) : List Nod :=
  match t with
  | .un m t' => (madeU t' (slc n m)).flat
  | _ => []
theorem madeU_key {p : Prg} {act wt : Int} {t : Tr} {n : Nod} (ht : WTr p act t wt) :
    firstO [if allC [t.flat] = true then some [cst n (kN n [t.flat].flatten)] else none, if (n.op = 7 ∨ n.op = 8) ∧ t.root.op = n.op then some t.ini else none, if n.op = 9 then (if n.a = t.root.w - 1 ∧ n.b = 0 then some (t.ini ++ [t.root]) else if t.root.op = 9 then some (sliceR t n) else none) else none, if shf n then some t.flat else none] ([t.flat].flatten ++ [n]) = (madeU t n).flat := by
  rw [allC_one ht, flat_one, ← flat_ini]
  match t, ht with
  | .leaf m, .leaf _ h1 h2 h3 h4 =>
    have a1 : ¬ ((n.op = 7 ∨ n.op = 8) ∧ m.op = n.op) := by omega
    have a2 : ¬ m.op = 9 := by omega
    by_cases c1 : m.op = 1
    · simp [firstO, madeU, Tr.root, Tr.isC, Tr.ini, Tr.flat, c1]
    · by_cases c2 : n.op = 9
      · by_cases c3 : n.a = m.w - 1 ∧ n.b = 0
        · simp [firstO, madeU, Tr.root, Tr.isC, Tr.flat, c1, c2, c3]
        · by_cases c4 : shf n
          · simp [firstO, madeU, Tr.root, Tr.isC, Tr.flat, c1, c2, c3, a2, c4]
          · simp [firstO, madeU, Tr.root, Tr.isC, Tr.flat, c1, c2, c3, a2, c4]
      · by_cases c4 : shf n
        · simp [firstO, madeU, Tr.root, Tr.isC, Tr.flat, c1, c2, a1, c4]
        · simp [firstO, madeU, Tr.root, Tr.isC, Tr.flat, c1, c2, a1, c4]
  | .un m t', .un _ _ w2 h1 h2 h3 h4 h5 =>
    by_cases c1 : (n.op = 7 ∨ n.op = 8) ∧ m.op = n.op
    · simp [firstO, madeU, Tr.root, Tr.isC, Tr.ini, c1]
    · by_cases c2 : n.op = 9
      · by_cases c3 : n.a = m.w - 1 ∧ n.b = 0
        · simp [firstO, madeU, Tr.root, Tr.isC, Tr.flat, c2, c3]
        · by_cases c5 : m.op = 9
          · simp [firstO, madeU, Tr.root, Tr.isC, Tr.flat, sliceR, c2, c3, c5]
          · by_cases c4 : shf n
            · simp [firstO, madeU, Tr.root, Tr.isC, Tr.flat, c2, c3, c4, c5]
            · simp [firstO, madeU, Tr.root, Tr.isC, Tr.flat, c2, c3, c4, c5]
      · by_cases c4 : shf n
        · simp [firstO, madeU, Tr.root, Tr.isC, Tr.flat, c1, c2, c4]
        · simp [firstO, madeU, Tr.root, Tr.isC, Tr.flat, c1, c2, c4]
  | .bin m a b, .bin _ _ _ wa wb h1 h2 h3 h4 h5 h6 h7 =>
    have a1 : ¬ ((n.op = 7 ∨ n.op = 8) ∧ m.op = n.op) := by unfold isUn at h2; omega
    have a2 : ¬ m.op = 9 := by unfold isUn at h2; omega
    by_cases c2 : n.op = 9
    · by_cases c3 : n.a = m.w - 1 ∧ n.b = 0
      · simp [firstO, madeU, Tr.root, Tr.isC, Tr.flat, c2, c3]
      · by_cases c4 : shf n
        · simp [firstO, madeU, Tr.root, Tr.isC, Tr.flat, c2, c3, a2, c4]
        · simp [firstO, madeU, Tr.root, Tr.isC, Tr.flat, c2, c3, a2, c4]
    · by_cases c4 : shf n
      · simp [firstO, madeU, Tr.root, Tr.isC, Tr.flat, c2, a1, c4]
      · simp [firstO, madeU, Tr.root, Tr.isC, Tr.flat, c2, a1, c4]
theorem root_nine {p : Prg} {act wt : Int} {t : Tr} (ht : WTr p act t wt) (h : t.root.op = 9) : ∃ m t' w2, t = .un m t' ∧ m.op = 9 ∧ WTr p act t' w2 ∧ single0P m w2 = m.w ∧ okP m.w = true ∧ m.w = wt := by
  match t, ht, h with
  | .leaf m, .leaf _ h1 h2 h3 h4, h => exact absurd h (by show ¬ m.op = 9; omega)
  | .un m t', .un _ _ w2 h1 h2 h3 h4 h5, h => exact ⟨m, t', w2, rfl, h, h2, h4, h5, rfl⟩
  | .bin m a b, .bin _ _ _ wa wb h1 h2 h3 h4 h5 h6 h7, h => exact absurd (show isUn m.op by unfold isUn; have : m.op = 9 := h; omega) h2
theorem bb_pos : 0 < B * B := by decide
theorem madeU_via {p : Prg} {act : Int} (base : Nat) (t : Tr) (n : Nod) (wt : Int) (pp : Option Addr) (pc : Nat) (w : World) (ht : WTr p act t wt) (hu : isUn n.op) (hv : n.v = 0) (hs : single0P n wt = n.w) (hok : okP n.w = true) (hl : t.flat.length ≤ 3000) (hb : base ≤ w.heap.size) (hp : Prt base w (.slice pp 1 pc) [t.flat])
    (hm : ∀ m t', t = .un m t' → n.op = 9 → m.op = 9 → ∀ (W : World) (q : Option Addr) (c : Nat), Below w.heap.size w W → Prt base W (.slice q 1 c) [t'.flat] → Calls Try.prog 18 #[fndV (slc n m) (.slice q 1 c)] W fun e w' => (∃ v, e = .returned v ∧ CO base w' v (madeU t' (slc n m)).flat) ∧ Below W.heap.size W w') :
    Calls Try.prog 18 #[fndV n (.slice pp 1 pc)] w fun e w' => (∃ v, e = .returned v ∧ CO base w' v (madeU t n).flat) ∧ Below w.heap.size w w' := by
  have hfl : [t.flat].flatten.length ≤ 5000 := by rw [flat_one]; omega
  have hvB : n.v < B * B := by rw [hv]; exact bb_pos
  have hr := ht.root
  have hri : okP wt = true := hr.2
  rw [okP_iff] at hri
  have hini : [t.flat][0]? = some (t.ini ++ [t.root]) := by rw [← flat_ini]; rfl
  have hil : t.ini.length ≤ 6000 := by have := congrArg List.length (flat_ini t); rw [List.length_append] at this; omega
  have h := made1_gen base n [t.flat] _ _ _ _ pp pc w hp hfl hvB hb
    (fun W h => known_any base n [t.flat] n.w pp 1 pc W (hp.below h) hfl (by omega) hvB (Nat.le_trans hb h.size)
      (fun hc => by
        rw [allC_one ht] at hc
        rw [flat_one]
        exact width_tree (kN_un ht hc hu hv hs hok).1 (by show (t.flat ++ [n]).length ≤ _; rw [List.length_append, List.length_singleton]; omega))
      (fun hc => by
        rw [allC_one ht] at hc
        rw [flat_one]
        exact sh_ltBB (kN_un ht hc hu hv hs hok).2))
    (fun W h => twice_any base n [t.flat] t.ini t.root pp 1 pc W (hp.below h) hini hil (Nat.le_trans hb h.size))
    (fun W h => slice_any base n [t.flat] t.ini (sliceR t n) t.root pp 1 pc W (hp.below h) hini hil (Nat.le_trans hb h.size) (by rw [hr.1]; unfold wrap64; omega)
      (fun h9 h92 _ => by
        obtain ⟨m, t', w2, rfl, e1, e2, e3, e4, e5⟩ := root_nine ht h92
        have := slc_ok h9 e1 hs hok e5 e3 e4
        have e6 := okP_iff.1 e4
        have e7 := e2.root.2
        rw [okP_iff] at e7
        show wrap64 (n.a + m.b) = n.a + m.b ∧ wrap64 (n.b + m.b) = n.b + m.b
        unfold wrap64
        omega)
      (fun h9 h92 _ W2 q c hb2 hp2 => by
        obtain ⟨m, t', w2, rfl, e1, e2, e3, e4, e5⟩ := root_nine ht h92
        exact hm m t' rfl h9 e1 W2 q c (h.trans (hb2.mono h.size)) hp2))
    (fun W h => shift_any base n [t.flat] t.flat pp 1 pc W (hp.below h) rfl)
  rw [madeU_key ht] at h
  exact h
theorem madeU_any {p : Prg} {act : Int} (base : Nat) : ∀ (t : Tr) (n : Nod) (wt : Int) (pp : Option Addr) (pc : Nat) (w : World), WTr p act t wt → isUn n.op → n.v = 0 → single0P n wt = n.w → okP n.w = true → t.flat.length ≤ 3000 → base ≤ w.heap.size → Prt base w (.slice pp 1 pc) [t.flat] →
    Calls Try.prog 18 #[fndV n (.slice pp 1 pc)] w fun e w' => (∃ v, e = .returned v ∧ CO base w' v (madeU t n).flat) ∧ Below w.heap.size w w'
  | .leaf m, n, wt, pp, pc, w, ht, hu, hv, hs, hok, hl, hb, hp => madeU_via base (.leaf m) n wt pp pc w ht hu hv hs hok hl hb hp (fun m t' e => by cases e)
  | .bin m a b, n, wt, pp, pc, w, ht, hu, hv, hs, hok, hl, hb, hp => madeU_via base (.bin m a b) n wt pp pc w ht hu hv hs hok hl hb hp (fun m t' e => by cases e)
  | .un m t', n, wt, pp, pc, w, ht, hu, hv, hs, hok, hl, hb, hp => madeU_via base (.un m t') n wt pp pc w ht hu hv hs hok hl hb hp (fun m2 t2 e h9 h92 W q c hb2 hp2 => by
      cases e
      obtain ⟨m3, t3, w2, e0, e1, e2, e3, e4, e5⟩ := root_nine ht h92
      cases e0
      have hl2 : t'.flat.length ≤ 3000 := by simp only [Tr.flat, List.length_append] at hl; omega
      exact madeU_any base t' (slc n m) w2 q c W e2 hu hv (slc_ok h9 e1 hs hok e5 e3 e4).1 hok hl2 (Nat.le_trans hb hb2.size) hp2)

end Go.Proofs.Ytehcclcokgmplaa

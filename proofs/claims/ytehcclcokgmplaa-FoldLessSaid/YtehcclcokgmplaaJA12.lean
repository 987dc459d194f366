/-
  Lemmas, joined: FolP, GrtP, GrtA, FolA, FolB.
-/
import Derived.Test.YtehcclcokgmplaaJA11
import Derived.Test.YtehcclcokgmplaaJA03
import Derived.BigQuiet
import Derived.Deep.RegionLaw
import Derived.IntWalk
/-
  Folded code (layer 35) as a function on trees: it stays typed, grows no longer, and folded again it is the same.
-/
namespace Go.Proofs.Ytehcclcokgmplaa

def x0 : Pkt := ⟨0, [], [], [], [], false, false, 0, false⟩
def p0 : Prg := ⟨[], [], [], [], [], [], [], [], [], [], [], []⟩
/-- The value of a node behind its parts. -/
def kN (n : Nod) (c : List Nod) : Nat := evC x0 [] (c ++ [n])
def cst (n : Nod) (v : Nat) : Nod := ⟨1, n.w, 0, 0, v⟩
def Tr.isC : Tr → Bool
  | .leaf n => decide (n.op = 1)
  | _ => false
def Tr.isV (t : Tr) (v : Nat) : Bool := t.isC && decide (t.root.v = v)
def shf (n : Nod) : Prop := (n.op = 13 ∨ n.op = 14) ∧ n.a = 0
instance (n : Nod) : Decidable (shf n) := inferInstanceAs (Decidable (_ ∧ _))
def slc (n m : Nod) : Nod := ⟨n.op, n.w, n.a + m.b, n.b + m.b, n.v⟩
/-- What a node makes of one part. -/
def madeU : Tr → Nod → Tr
  | .leaf m, n => if m.op = 1 then .leaf (cst n (kN n [m])) else if n.op = 9 ∧ n.a = m.w - 1 ∧ n.b = 0 then .leaf m else if shf n then .leaf m else .un n (.leaf m)
  | .un m t, n => if (n.op = 7 ∨ n.op = 8) ∧ m.op = n.op then t else if n.op = 9 ∧ n.a = m.w - 1 ∧ n.b = 0 then .un m t else if n.op = 9 ∧ m.op = 9 then madeU t (slc n m) else if shf n then .un m t else .un n (.un m t)
  | .bin m a b, n => if n.op = 9 ∧ n.a = m.w - 1 ∧ n.b = 0 then .bin m a b else if shf n then .bin m a b else .un n (.bin m a b)
def either (n : Nod) : Prop := n.op = 11 ∨ n.op = 17 ∨ n.op = 16
instance (n : Nod) : Decidable (either n) := inferInstanceAs (Decidable (_ ∨ _))
def notN (n : Nod) : Nod := ⟨7, n.w, 0, 0, 0⟩
def onesN (n : Nod) : Nat := 2 ^ sh n.w - 1
/-- What a node makes of two. -/
def madeB (n : Nod) (a b : Tr) : Tr :=
  if a.isC = true ∧ b.isC = true then .leaf (cst n (kN n (a.flat ++ b.flat)))
  else if (either n ∨ n.op = 12) ∧ b.isV 0 = true then a
  else if either n ∧ a.isV 0 = true then b
  else if (n.op = 15 ∨ n.op = 16) ∧ b.isV (onesN n) = true then (if n.op = 15 then a else madeU a (notN n))
  else if (n.op = 15 ∨ n.op = 16) ∧ a.isV (onesN n) = true then (if n.op = 15 then b else madeU b (notN n))
  else .bin n a b
def foldT : Tr → Tr
  | .leaf n => .leaf n
  | .un n t => madeU (foldT t) n
  | .bin n a b => madeB n (foldT a) (foldT b)

theorem madeU_len : ∀ (t : Tr) (n : Nod), (madeU t n).flat.length ≤ t.flat.length + 1
  | .leaf m, n => by
    unfold madeU
    repeat' split
    all_goals simp [Tr.flat]
  | .un m t, n => by
    unfold madeU
    have := madeU_len t (slc n m)
    repeat' split
    all_goals simp [Tr.flat]
    all_goals omega
  | .bin m a b, n => by
    unfold madeU
    repeat' split
    all_goals simp [Tr.flat]
    all_goals omega
theorem madeB_len (n : Nod) (a b : Tr) : (madeB n a b).flat.length ≤ a.flat.length + b.flat.length + 1 := by
  unfold madeB
  have h1 := madeU_len a (notN n)
  have h2 := madeU_len b (notN n)
  repeat' split
  all_goals simp [Tr.flat]
  all_goals omega
theorem foldT_len : ∀ t : Tr, (foldT t).flat.length ≤ t.flat.length
  | .leaf n => Nat.le_refl _
  | .un n t => by
    have h1 := foldT_len t
    have h2 := madeU_len (foldT t) n
    simp only [foldT, Tr.flat, List.length_append, List.length_singleton]
    omega
  | .bin n a b => by
    have h1 := foldT_len a
    have h3 := foldT_len b
    have h2 := madeB_len n (foldT a) (foldT b)
    simp only [foldT, Tr.flat, List.length_append, List.length_singleton]
    omega

/-- A tree in which nothing is left to fold. -/
def Nm : Tr → Prop
  | .leaf _ => True
  | .un n t => Nm t ∧ madeU t n = .un n t
  | .bin n a b => Nm a ∧ Nm b ∧ madeB n a b = .bin n a b
theorem Nm.same : ∀ t : Tr, Nm t → foldT t = t
  | .leaf n, _ => rfl
  | .un n t, h => by rw [foldT, Nm.same t h.1, h.2]
  | .bin n a b, h => by rw [foldT, Nm.same a h.1, Nm.same b h.2.1, h.2.2]
theorem Nm.madeU : ∀ (t : Tr) (n : Nod), Nm t → Nm (madeU t n)
  | .leaf m, n, h => by
    by_cases e : Go.Proofs.Ytehcclcokgmplaa.madeU (.leaf m) n = .un n (.leaf m)
    · rw [e]; exact ⟨h, e⟩
    · unfold Go.Proofs.Ytehcclcokgmplaa.madeU at e ⊢
      repeat' split
      all_goals first | trivial | skip
      all_goals (exfalso; apply e; simp [*])
  | .un m t, n, h => by
    by_cases e : Go.Proofs.Ytehcclcokgmplaa.madeU (.un m t) n = .un n (.un m t)
    · rw [e]; exact ⟨h, e⟩
    · have ih := Nm.madeU t (slc n m) h.1
      unfold Go.Proofs.Ytehcclcokgmplaa.madeU at e ⊢
      repeat' split
      · exact h.1
      · exact h
      · exact ih
      · exact h
      · exfalso; apply e; simp [*]
  | .bin m a b, n, h => by
    by_cases e : Go.Proofs.Ytehcclcokgmplaa.madeU (.bin m a b) n = .un n (.bin m a b)
    · rw [e]; exact ⟨h, e⟩
    · unfold Go.Proofs.Ytehcclcokgmplaa.madeU at e ⊢
      repeat' split
      · exact h
      · exact h
      · exfalso; apply e; simp [*]
theorem Nm.madeB (n : Nod) (a b : Tr) (ha : Nm a) (hb : Nm b) : Nm (madeB n a b) := by
  by_cases e : Go.Proofs.Ytehcclcokgmplaa.madeB n a b = .bin n a b
  · rw [e]; exact ⟨ha, hb, e⟩
  · have h1 := Nm.madeU a (notN n) ha
    have h2 := Nm.madeU b (notN n) hb
    unfold Go.Proofs.Ytehcclcokgmplaa.madeB at e ⊢
    repeat' split
    all_goals first | trivial | assumption | skip
    all_goals (exfalso; apply e; simp [*])
theorem Nm.foldT : ∀ t : Tr, Nm (foldT t)
  | .leaf _n => trivial
  | .un n t => Nm.madeU _ n (Nm.foldT t)
  | .bin n a b => Nm.madeB n _ _ (Nm.foldT a) (Nm.foldT b)
/-- Folded again it is the same. -/
theorem foldT_twice (t : Tr) : foldT (foldT t) = foldT t := Nm.same _ (Nm.foldT t)

/-! Typed. -/
theorem cst_typed {p : Prg} {act : Int} {n : Nod} {v : Nat} (hok : okP n.w = true) (hv : v < 2 ^ sh n.w) : WTr p act (.leaf (cst n v)) n.w :=
  .leaf (cst n v) (show (1 : Int) ≤ 1 by omega) (show (1 : Int) ≤ 6 by omega) (by
    unfold plain0P cst
    dsimp only
    have : fitsP v n.w = true := by unfold fitsP; exact decide_eq_true (Nat.mod_eq_of_lt hv)
    rw [if_pos rfl, if_pos ⟨rfl, rfl, hok, this⟩]) hok
theorem const_any {p q : Prg} {act a2 w : Int} {t : Tr} (h : WTr p act t w) (hc : t.isC = true) : WTr q a2 t w := by
  cases h with
  | leaf n h1 h2 h3 h4 =>
    simp only [Tr.isC, decide_eq_true_eq] at hc
    refine .leaf n h1 h2 ?_ h4
    unfold plain0P at h3 ⊢
    rw [if_pos hc] at h3 ⊢
    exact h3
  | un n t w h1 h2 h3 h4 h5 => cases hc
  | bin n a b wa wb h1 h2 h3 h4 h5 h6 h7 => cases hc
theorem kN_un {p : Prg} {act w : Int} {n : Nod} {t : Tr} (h : WTr p act t w) (hc : t.isC = true) (hu : isUn n.op) (hv : n.v = 0) (hs : single0P n w = n.w) (hok : okP n.w = true) : WTr p0 0 (.un n t) n.w ∧ kN n t.flat < 2 ^ sh n.w := by
  have h1 : WTr p0 0 (.un n t) n.w := .un n t w hu (const_any h hc) hv hs hok
  refine ⟨h1, ?_⟩
  have e : kN n t.flat = evC x0 [] (Tr.un n t).flat := rfl
  rw [e, evC_flat x0 [] h1]
  exact ev_lt x0 [] (.un n t)
theorem kN_bin {p : Prg} {act wa wb : Int} {n : Nod} {a b : Tr} (ha : WTr p act a wa) (hb : WTr p act b wb) (ca : a.isC = true) (cb : b.isC = true) (h1 : ¬ (1 ≤ n.op ∧ n.op ≤ 6)) (hu : ¬ isUn n.op) (hv : n.v = 0) (hs : pair0P n wa wb = n.w) (hok : okP n.w = true) : WTr p0 0 (.bin n a b) n.w ∧ kN n (a.flat ++ b.flat) < 2 ^ sh n.w := by
  have h1 : WTr p0 0 (.bin n a b) n.w := .bin n a b wa wb h1 hu (const_any ha ca) (const_any hb cb) hv hs hok
  refine ⟨h1, ?_⟩
  have e : kN n (a.flat ++ b.flat) = evC x0 [] (Tr.bin n a b).flat := rfl
  rw [e, evC_flat x0 [] h1]
  exact ev_lt x0 [] (.bin n a b)
theorem single_not {n : Nod} {w : Int} (h : n.op = 7 ∨ n.op = 8) (hs : single0P n w = n.w) (hok : okP n.w = true) : n.w = w := by
  rw [okP_iff] at hok
  unfold single0P at hs
  rw [if_pos h] at hs
  split at hs <;> omega
theorem single_slice {n : Nod} {w : Int} (h : n.op = 9) (hs : single0P n w = n.w) (hok : okP n.w = true) : 0 ≤ n.b ∧ n.b ≤ n.a ∧ n.a < w ∧ n.w = n.a - n.b + 1 := by
  rw [okP_iff] at hok
  unfold single0P at hs
  rw [if_neg (by omega), if_neg (by omega), if_pos h] at hs
  split at hs <;> omega
theorem single_shf {n : Nod} {w : Int} (h : n.op = 13 ∨ n.op = 14) (hs : single0P n w = n.w) (hok : okP n.w = true) : n.w = w := by
  rw [okP_iff] at hok
  unfold single0P at hs
  rw [if_neg (by omega), if_pos h] at hs
  split at hs <;> omega
theorem slc_ok {n m : Nod} {w w2 : Int} (h : n.op = 9) (h2 : m.op = 9) (hs : single0P n w = n.w) (hok : okP n.w = true) (hm : m.w = w) (hs2 : single0P m w2 = m.w) (hok2 : okP m.w = true) : single0P (slc n m) w2 = (slc n m).w ∧ 0 ≤ n.a + m.b ∧ n.a + m.b < w2 ∧ 0 ≤ n.b + m.b ∧ n.b + m.b < w2 := by
  have a1 := single_slice h hs hok
  have a2 := single_slice h2 hs2 hok2
  refine ⟨?_, by omega⟩
  unfold single0P slc
  dsimp only
  rw [if_neg (by omega), if_neg (by omega), if_pos h, if_pos (by omega)]
  omega
theorem madeU_w {p : Prg} {act : Int} : ∀ (t : Tr) (n : Nod) (w : Int), WTr p act t w → isUn n.op → n.v = 0 → single0P n w = n.w → okP n.w = true → WTr p act (madeU t n) n.w
  | .leaf m, n, w, ht, hu, hv, hs, hok => by
    have hr := ht.root.1
    simp only [Tr.root] at hr
    unfold madeU
    split
    · exact cst_typed hok (kN_un ht (by simp [Tr.isC, *]) hu hv hs hok).2
    · split
      · rename_i h
        have := single_slice h.1 hs hok
        obtain rfl : w = n.w := by omega
        exact ht
      · split
        · rename_i h
          obtain rfl := single_shf h.1 hs hok
          exact ht
        · exact .un n _ w hu ht hv hs hok
  | .un m t, n, w, ht, hu, hv, hs, hok => by
    have hr := ht.root.1
    simp only [Tr.root] at hr
    have ht0 := ht
    cases ht with
    | un _ _ w2 g1 g2 g3 g4 g5 =>
      unfold madeU
      split
      · rename_i h
        have e1 := single_not h.1 hs hok
        have e2 := single_not (by rw [h.2]; exact h.1) g4 g5
        obtain rfl : w2 = n.w := by omega
        exact g2
      · split
        · rename_i h
          have := single_slice h.1 hs hok
          obtain e : m.w = n.w := by omega
          rw [← e]
          exact ht0
        · split
          · rename_i h
            exact madeU_w t (slc n m) w2 g2 hu hv (slc_ok h.1 h.2 hs hok rfl g4 g5).1 hok
          · split
            · rename_i h
              have e := single_shf h.1 hs hok
              rw [e]
              exact ht0
            · exact .un n _ _ hu ht0 hv hs hok
  | .bin m a b, n, w, ht, hu, hv, hs, hok => by
    have hr := ht.root.1
    simp only [Tr.root] at hr
    unfold madeU
    split
    · rename_i h
      have := single_slice h.1 hs hok
      obtain rfl : w = n.w := by omega
      exact ht
    · split
      · rename_i h
        obtain rfl := single_shf h.1 hs hok
        exact ht
      · exact .un n _ w hu ht hv hs hok
theorem pair_same {n : Nod} {wa wb : Int} (h : 11 ≤ n.op ∧ n.op ≤ 17) (hs : pair0P n wa wb = n.w) (hok : okP n.w = true) : wa = n.w ∧ wb = n.w := by
  rw [okP_iff] at hok
  unfold pair0P at hs
  split at hs
  · omega
  · rw [if_neg (by omega)] at hs
    split at hs
    · omega
    · have e : (if n.op = 18 ∨ n.op = 19 ∨ n.op = 20 then (1 : Int) else if 11 ≤ n.op ∧ n.op ≤ 17 then wa else 0) = wa := by rw [if_neg (by omega), if_pos h]
      first
        | rw [e] at hs; omega
        | omega
theorem not_ok {n : Nod} (hok : okP n.w = true) : isUn (notN n).op ∧ (notN n).v = 0 ∧ single0P (notN n) n.w = (notN n).w ∧ okP (notN n).w = true :=
  ⟨.inl rfl, rfl, by unfold single0P notN; simp, hok⟩
theorem madeB_w {p : Prg} {act : Int} (n : Nod) (a b : Tr) (wa wb : Int) (ha : WTr p act a wa) (hb : WTr p act b wb) (h1 : ¬ (1 ≤ n.op ∧ n.op ≤ 6)) (hu : ¬ isUn n.op) (hv : n.v = 0) (hs : pair0P n wa wb = n.w) (hok : okP n.w = true) : WTr p act (madeB n a b) n.w := by
  obtain ⟨q1, q2, q3, q4⟩ := not_ok hok
  unfold madeB
  split
  · rename_i h
    exact cst_typed hok (kN_bin ha hb h.1 h.2 h1 hu hv hs hok).2
  · split
    · rename_i h
      have h9 := h.1
      unfold either at h9
      obtain ⟨e, -⟩ := pair_same (by omega) hs hok
      rw [← e]; exact ha
    · split
      · rename_i h
        have h9 := h.1
        unfold either at h9
        obtain ⟨-, e⟩ := pair_same (by omega) hs hok
        rw [← e]; exact hb
      · split
        · rename_i h
          obtain ⟨e, -⟩ := pair_same (by omega) hs hok
          subst e
          split
          · exact ha
          · exact madeU_w a (notN n) _ ha q1 q2 q3 q4
        · split
          · rename_i h
            obtain ⟨-, e⟩ := pair_same (by omega) hs hok
            subst e
            split
            · exact hb
            · exact madeU_w b (notN n) _ hb q1 q2 q3 q4
          · exact .bin n a b wa wb h1 hu ha hb hv hs hok
theorem foldT_w {p : Prg} {act : Int} {t : Tr} {w : Int} (h : WTr p act t w) : WTr p act (foldT t) w := by
  induction h with
  | leaf n h1 h2 h3 h4 => exact .leaf n h1 h2 h3 h4
  | un n t w h1 h2 h3 h4 h5 ih => exact madeU_w _ n w ih h1 h3 h4 h5
  | bin n a b wa wb h1 h2 h3 h4 h5 h6 h7 ih1 ih2 => exact madeB_w n _ _ wa wb ih1 ih2 h1 h2 h5 h6 h7
/-- A typed tree laid flat has its width. -/
theorem foldW_tree {p : Prg} {act : Int} {t : Tr} {w : Int} (h : WTr p act t w) : ∀ st, foldW p act st t.flat = some (w :: st) := by
  induction h with
  | leaf n h1 h2 h3 h4 =>
    intro st
    simp only [Tr.flat, foldW, stepW]
    rw [if_pos ⟨h1, h2⟩, if_pos ⟨h3, by rw [h3]; exact h4⟩, h3]
  | un n t w h1 h2 h3 h4 h5 ih =>
    intro st
    rw [Tr.flat, foldW_app, ih]
    have : isUn n.op := h1
    simp only [Option.bind_some, foldW, stepW]
    rw [if_neg (by unfold isUn at this; omega), if_neg (by omega), if_pos h1, if_pos ⟨h4, by rw [h4]; exact h5⟩, h4]
  | bin n a b wa wb h1 h2 h3 h4 h5 h6 h7 ih1 ih2 =>
    intro st
    rw [Tr.flat, foldW_app, foldW_app, ih1, Option.bind_some, ih2, Option.bind_some]
    simp only [foldW, stepW]
    rw [if_neg h1, if_neg (by omega), if_neg h2, if_pos ⟨h6, by rw [h6]; exact h7⟩, h6]
theorem width_tree {p : Prg} {act : Int} {t : Tr} {w : Int} (h : WTr p act t w) (hl : t.flat.length ≤ 65536) : widthP p act t.flat = some w := by
  unfold widthP
  rw [if_neg (by omega), foldW_tree h]

end Go.Proofs.Ytehcclcokgmplaa



/-
  Layer 10's document, walked: weigh, Great.
-/
namespace Go.Proofs.Ytehcclcokgmplaa
open Go.RowKit

/-- A head of a list of heads; a code of a list of codes. -/
theorem IsRow.elG {w : World} {p : Option Addr} {n c : Nat} {l : List (List Int)} (h : IsRow w (.slice p n c) l) {j : Nat} {x : List Int} (hj : l[j]? = some x) : ∃ b o p1 n1 c1, p = some ⟨b, o, none⟩ ∧ b < w.heap.size ∧ w.cell? ⟨b, o + j, none⟩ = some (.slice p1 n1 c1) ∧ IRow w (.slice p1 n1 c1) x := by
  obtain ⟨b, o, e, h1, p1, n1, c1, h2, h3⟩ := h.get hj
  rw [Nat.mul_one] at h2
  exact ⟨b, o, p1, n1, c1, e, h1, h2, h3⟩
theorem CsRow.elG {w : World} {p : Option Addr} {n c : Nat} {l : List (List Nod)} (h : CsRow w (.slice p n c) l) {j : Nat} {x : List Nod} (hj : l[j]? = some x) : ∃ b o p1 n1 c1, p = some ⟨b, o, none⟩ ∧ b < w.heap.size ∧ w.cell? ⟨b, o + j, none⟩ = some (.slice p1 n1 c1) ∧ CRow w (.slice p1 n1 c1) x := by
  obtain ⟨b, o, e, h1, p1, n1, c1, h2, h3⟩ := h.get hj
  rw [Nat.mul_one] at h2
  exact ⟨b, o, p1, n1, c1, e, h1, h2, h3⟩
end Go.Proofs.Ytehcclcokgmplaa

/-
  Layer 35's code, walked: takes, constant, is.
-/
namespace Go.Proofs.Ytehcclcokgmplaa
open Go.RowKit Go.Maps

set_option maxRecDepth 100000 in
set_option maxHeartbeats 1600000 in
theorem takes_any (x : Int) (w : World) : Calls Try.prog 16 #[.int .u8 x] w fun e w' => e = .returned (.int .i64 (asksP x : Int)) ∧ w' = w := by
  obtain ⟨R, hR⟩ : ∃ R : Int, R = (asksP x : Int) := ⟨_, rfl⟩
  rw [← hR]
  have HR := Lib.hid hR
  clear hR
  have hops : x ≤ 6 ∨ x = 7 ∨ x = 8 ∨ x = 9 ∨ x = 13 ∨ x = 14 ∨ (6 < x ∧ ¬ x = 7 ∧ ¬ x = 8 ∧ ¬ x = 9 ∧ ¬ x = 13 ∧ ¬ x = 14) := by omega
  rcases hops with h | rfl | rfl | rfl | rfl | rfl | ⟨h, h7, h8, h9, h13, h14⟩
  all_goals
    go_enter Try.func16, Try.ntmps16
    go_wp2_with fail
    go_ret
    refine ⟨congrArg (fun b => Ending.returned (.int .i64 b)) ?_, rfl⟩
    rw [HR.out]
    unfold asksP
    try simp [*]
  all_goals
    split
    · omega
    · first
        | omega
        | (split <;> omega)

/-- A constant that stands alone. -/
def cV : List Nod → Nat × Bool
  | [m] => if m.op = 1 then (m.v, true) else (0, false)
  | _ => (0, false)
theorem cV_tree {p : Prg} {act w : Int} {t : Tr} (h : WTr p act t w) : cV t.flat = (if t.isC = true then t.root.v else 0, t.isC) := by
  cases h with
  | leaf n h1 h2 h3 h4 =>
    by_cases hc : n.op = 1
    · simp [Tr.flat, cV, Tr.isC, Tr.root, hc]
    · simp [Tr.flat, cV, Tr.isC, hc]
  | un n t w h1 h2 h3 h4 h5 =>
    have := t.flat_ne
    have e : ∀ l : List Nod, 0 < l.length → cV (l ++ [n]) = (0, false) := by
      intro l hl
      match l, hl with
      | a :: r, _ => cases r <;> rfl
    rw [Tr.flat, e _ this]
    rfl
  | bin n a b wa wb h1 h2 h3 h4 h5 h6 h7 =>
    have := a.flat_ne
    have e : ∀ l : List Nod, 0 < l.length → cV (l ++ [n]) = (0, false) := by
      intro l hl
      match l, hl with
      | a :: r, _ => cases r <;> rfl
    rw [Tr.flat, e _ (by simp; omega)]
    rfl
set_option maxRecDepth 100000 in
set_option maxHeartbeats 3200000 in
theorem constant_any (l : List Nod) (p : Option Addr) (n c : Nat) (w : World) (h : CRow w (.slice p n c) l) :
    Calls Try.prog 32 #[.slice p n c] w fun e w' => e = .returned (.tuple #[numV (cV l).1, .bool (cV l).2]) ∧ Below w.heap.size w w' := by
  have HN : Hid (n = l.length) := h.ln.1
  match l, h, HN with
  | [], h, HN =>
    obtain rfl : n = 0 := HN.out
    clear h
    show Calls _ _ _ _ fun e w' => e = .returned (.tuple #[numV 0, .bool false]) ∧ _
    go_enter Try.func32, Try.ntmps32
    go_wp2_with fail
    refine bodyPost_ret (v := .tuple #[.agg #[.int .u64 0, .int .u64 0], .bool false]) (by simp [results, Try.results32, go_sem]) rfl ⟨rfl, ?_⟩
    exact (by repeat (first | exact Below.refl _ _ | assumption | refine Below.drew ?_ | refine Below.alloc ?_ (by first | omega | (simp <;> omega)) _ | refine Below.setCell ?_ (by first | omega | (simp <;> omega)) _ | refine Below.trans ?_ (Below.mono (by assumption) (by first | omega | (simp <;> omega)))))
  | [⟨op, k, a, b, v⟩], h, HN =>
    obtain rfl : n = 1 := HN.out
    obtain ⟨bb, oo, rfl, hb, c0, c1, c2, c3, hv, c4, c5⟩ := h.get (j := 0) (x := ⟨op, k, a, b, v⟩) rfl
    dsimp only at c0 c1 c2 c3 c4 c5 hv
    simp only [Nat.zero_mul, Nat.add_zero] at c0 c1 c2 c3 c4 c5
    clear h
    by_cases h1 : op = 1
    · have e : cV [⟨op, k, a, b, v⟩] = (v, true) := by simp [cV, h1]
      rw [e]
      clear e
      dsimp only
      obtain ⟨x, y, e1, e3, e4⟩ := numV_parts v
      rw [e1]
      rw [← e3] at c4
      rw [← e4] at c5
      clear e1 e3 e4
      subst h1
      go_enter Try.func32, Try.ntmps32
      go_wp2_with fail
      refine bodyPost_ret (v := .tuple #[.agg #[.int .u64 x, .int .u64 y], .bool true]) (by simp [results, Try.results32, go_sem]) rfl ⟨rfl, ?_⟩
      exact (by repeat (first | exact Below.refl _ _ | assumption | refine Below.drew ?_ | refine Below.alloc ?_ (by first | omega | (simp <;> omega)) _ | refine Below.setCell ?_ (by first | omega | (simp <;> omega)) _ | refine Below.trans ?_ (Below.mono (by assumption) (by first | omega | (simp <;> omega)))))
    · have e : cV [⟨op, k, a, b, v⟩] = (0, false) := by simp [cV, h1]
      rw [e]
      clear e
      go_enter Try.func32, Try.ntmps32
      go_wp2_with fail
      refine bodyPost_ret (v := .tuple #[.agg #[.int .u64 0, .int .u64 0], .bool false]) (by simp [results, Try.results32, go_sem]) rfl ⟨rfl, ?_⟩
      exact (by repeat (first | exact Below.refl _ _ | assumption | refine Below.drew ?_ | refine Below.alloc ?_ (by first | omega | (simp <;> omega)) _ | refine Below.setCell ?_ (by first | omega | (simp <;> omega)) _ | refine Below.trans ?_ (Below.mono (by assumption) (by first | omega | (simp <;> omega)))))
  | m1 :: m2 :: r, h, HN =>
    have hne : ¬ (n : Int) = 1 := by have := HN.out; simp at this; omega
    have hne2 : ((n : Int) != 1) = true := by simp; omega
    clear h
    show Calls _ _ _ _ fun e w' => e = .returned (.tuple #[numV 0, .bool false]) ∧ _
    go_enter Try.func32, Try.ntmps32
    go_wp2_with fail
    refine bodyPost_ret (v := .tuple #[.agg #[.int .u64 0, .int .u64 0], .bool false]) (by simp [results, Try.results32, go_sem]) rfl ⟨rfl, ?_⟩
    exact (by repeat (first | exact Below.refl _ _ | assumption | refine Below.drew ?_ | refine Below.alloc ?_ (by first | omega | (simp <;> omega)) _ | refine Below.setCell ?_ (by first | omega | (simp <;> omega)) _ | refine Below.trans ?_ (Below.mono (by assumption) (by first | omega | (simp <;> omega)))))

/-- A node and its parts. -/
def fndV (n : Nod) (v : Value) : Value := .agg #[.int .u8 n.op, .int .i64 n.w, .int .i64 n.a, .int .i64 n.b, .int .u64 ((n.v / B : Nat) : Int), .int .u64 ((n.v % B : Nat) : Int), v]
set_option maxRecDepth 100000 in
set_option maxHeartbeats 3200000 in
theorem is_any (n : Nod) (ls : List (List Nod)) (pp : Option Addr) (pn pc i : Nat) (m : Nat) (w : World) (hr : CsRow w (.slice pp pn pc) ls) (hi : i < ls.length) :
    Calls Try.prog 36 #[fndV n (.slice pp pn pc), .int .i64 i, numV m] w fun e w' => e = .returned (.bool ((cV (ls.getD i [])).2 && decide ((cV (ls.getD i [])).1 = m))) ∧ Below w.heap.size w w' := by
  obtain ⟨op, k, a, b, v⟩ := n
  unfold fndV
  dsimp only
  generalize ((v / B : Nat) : Int) = x
  generalize ((v % B : Nat) : Int) = y
  have hpn : (i : Int) < (pn : Int) := by have := hr.ln.1; omega
  obtain ⟨bb, oo, p1, n1, c1, rfl, hb, hc, hrow⟩ := hr.elG (some_getD [] hi)
  have HCO : Hid (∀ W, Below w.heap.size w W → Calls Try.prog 32 #[.slice p1 n1 c1] W fun e w' => e = .returned (.tuple #[numV (cV (ls.getD i [])).1, .bool (cV (ls.getD i [])).2]) ∧ Below W.heap.size W w') := fun W h => constant_any _ _ _ _ W (hrow.below keepNd h)
  have heq := fun W => eqln (cV (ls.getD i [])).1 m W
  generalize (cV (ls.getD i [])).1 = q at *
  generalize (cV (ls.getD i [])).2 = bq at *
  obtain ⟨x1, y1, e1, -, -⟩ := numV_parts q
  obtain ⟨x2, y2, e2, -, -⟩ := numV_parts m
  rw [e1, e2] at heq
  rw [e1] at HCO
  rw [e2]
  have HB := Lib.hid hb
  clear hrow hr e1 e2 hi
  generalize decide (q = m) = dq at *
  go_enter Try.func36, Try.ntmps36
  go_upto_region 1 with fail
  obtain ⟨W1, hW1⟩ : ∃ W1, W1 = (w.alloc (.cells #[.int .u8 op, .int .i64 k, .int .i64 a, .int .i64 b, .int .u64 x, .int .u64 y, .slice (some ⟨bb, oo, none⟩) pn pc] 77)).alloc (.cells #[.int .u64 (x2 : Int), .int .u64 (y2 : Int)] 59) := ⟨_, rfl⟩
  have HW1 : Hid (Below w.heap.size w W1) := by show Below _ _ _; rw [hW1]; exact (by repeat (first | exact Below.refl _ _ | assumption | refine Below.drew ?_ | refine Below.alloc ?_ (by first | omega | (simp <;> omega)) _ | refine Below.setCell ?_ (by first | omega | (simp <;> omega)) _ | refine Below.trans ?_ (Below.mono (by assumption) (by first | omega | (simp <;> omega)))))
  have r0 : W1.cell? ⟨w.heap.size, 6, none⟩ = some (.slice (some ⟨bb, oo, none⟩) pn pc) := by rw [hW1]; go_simp
  have r1 : W1.cell? ⟨w.heap.size + 1, 0, none⟩ = some (.int .u64 (x2 : Int)) := by rw [hW1]; go_simp
  have r2 : W1.cell? ⟨w.heap.size + 1, 1, none⟩ = some (.int .u64 (y2 : Int)) := by rw [hW1]; go_simp
  have r3 : W1.cell? ⟨bb, oo + i, none⟩ = some (.slice p1 n1 c1) := (HW1.out.cell (p := ⟨bb, oo + i, none⟩) hb).trans hc
  have hs1 : w.heap.size + 1 < W1.heap.size := by rw [hW1]; simp
  have hs0 : w.heap.size < W1.heap.size := by omega
  rw [← hW1]
  clear hW1 hc hb
  generalize w.heap.size + 1 = G at *
  have HR1 := Lib.hid (And.intro r1 r2)
  have HS1 := Lib.hid hs1
  cases bq
  all_goals
    go_wp2_with (go_at_call 32; refine (HCO.out _ HW1.out).mono ?_; rintro e w2 ⟨rfl, hb2⟩; have k0 : (w2.alloc (.cells #[.int .u64 (x1 : Int), .int .u64 (y1 : Int)] 59)).cell? ⟨G, 0, none⟩ = some (.int .u64 (x2 : Int)) := ((hb2.alloc hb2.size _).cell (p := ⟨G, 0, none⟩) HS1.out).trans HR1.out.1; have k1 : (w2.alloc (.cells #[.int .u64 (x1 : Int), .int .u64 (y1 : Int)] 59)).cell? ⟨G, 1, none⟩ = some (.int .u64 (y2 : Int)) := ((hb2.alloc hb2.size _).cell (p := ⟨G, 1, none⟩) HS1.out).trans HR1.out.2; have HB2 : Hid (Below w.heap.size w (w2.alloc (.cells #[.int .u64 (x1 : Int), .int .u64 (y1 : Int)] 59))) := HW1.out.trans ((hb2.alloc hb2.size _).mono HW1.out.size); clear hb2)
    go_ret
    exact ⟨rfl, HB2.out⟩

end Go.Proofs.Ytehcclcokgmplaa

/-
  Layer 35's code, walked: codes in memory of the call's own; clones.
-/
namespace Go.Proofs.Ytehcclcokgmplaa
open Go.RowKit Go.Maps

def ndE (n : Nod) : List Value := [.int .u8 n.op, .int .i64 n.w, .int .i64 n.a, .int .i64 n.b, .int .u64 ((n.v / B : Nat) : Int), .int .u64 ((n.v % B : Nat) : Int)]
theorem flatNd : FlatG 6 NdAt ndE where
  len := fun _ => rfl
  one := fun x u hu => by
    unfold ndE at hu
    simp only [List.mem_cons, List.not_mem_nil, or_false] at hu
    rcases hu with rfl | rfl | rfl | rfl | rfl | rfl <;> rfl
  get := fun w b o x h i v hi => by
    obtain ⟨h0, h1, h2, h3, -, h4, h5⟩ := h
    match i, hi with
    | 0, hi => cases hi; exact h0
    | 1, hi => cases hi; exact h1
    | 2, hi => cases hi; exact h2
    | 3, hi => cases hi; exact h3
    | 4, hi => cases hi; exact h4
    | 5, hi => cases hi; exact h5
theorem putNd {w : World} {b o : Nat} {n : Nod} (hn : n.v < B * B) (h : CellsAt w b o (ndE n)) : NdAt w b o n := ⟨h 0 _ rfl, h 1 _ rfl, h 2 _ rfl, h 3 _ rfl, hn, h 4 _ rfl, h 5 _ rfl⟩
theorem elemNd : ElemOk 35 61 (.agg #[.int .u8 0, .int .i64 0, .int .i64 0, .int .i64 0, .int .u64 0, .int .u64 0]) 6 48 := ⟨Try.underlying35, by kernel_rfl, rfl, by decide⟩
/-- The code's numbers are numbers. -/
def Cds (l : List Nod) : Prop := ∀ n ∈ l, n.v < B * B
theorem RowAt.cds {w : World} {v : Value} {l : List Nod} (h : CRow w v l) : Cds l := by
  intro n hn
  obtain ⟨j, hj, rfl⟩ := List.mem_iff_getElem.1 hn
  obtain ⟨pa, cap, -, -, -, -, h5⟩ := h
  obtain ⟨b, o, -, -, h6⟩ := h5 (by omega)
  exact (h6 j _ (List.getElem?_eq_getElem hj)).2.2.2.2.1
/-- A code in memory of a call's own. -/
def CO (base : Nat) (w : World) (v : Value) (l : List Nod) : Prop := w.ownsRow base 61 6 v l.length (l.flatMap ndE) ∧ Cds l
theorem CO.row {base : Nat} {w : World} {v : Value} {l : List Nod} (h : CO base w v l) : CRow w v l :=
  RowAt.of_flatG flatNd.len rfl h.1 fun x hx _b _o => putNd (h.2 x hx)
theorem CO.below {base : Nat} {w w' : World} {v : Value} {l : List Nod} (h : CO base w v l) (hb : Below w.heap.size w w') : CO base w' v l := ⟨own_below h.1 hb, h.2⟩
theorem CO.mono {base b' : Nat} {w : World} {v : Value} {l : List Nod} (h : CO base w v l) (hb : b' ≤ base) : CO b' w v l := by
  obtain ⟨⟨h0, h1⟩, h2⟩ := h
  refine ⟨⟨h0, ?_⟩, h2⟩
  rcases h1 with h1 | ⟨g, cap, cur, q1, q2, q3⟩
  · exact .inl h1
  · exact .inr ⟨g, cap, cur, q1, Nat.le_trans hb q2, q3⟩
theorem CO.shape {base : Nat} {w : World} {v : Value} {l : List Nod} (h : CO base w v l) : ∃ p c, v = .slice p l.length c := by
  rcases h.1.2 with ⟨h2, h3⟩ | ⟨g, cap, cur, q1, -⟩
  · exact ⟨_, _, by rw [h2, h3]⟩
  · exact ⟨_, _, q1⟩

set_option maxRecDepth 100000 in
set_option maxHeartbeats 800000 in
theorem cloneC_any (l : List Nod) (v : Value) (w : World) (hv : CRow w v l) (hl : l.length ≤ 1000000) :
    Calls Try.prog 11 #[v] w fun e w' => ∃ v', e = .returned v' ∧ CO w.heap.size w' v' l ∧ Below w.heap.size w w' := by
  have HN := Lib.hid hv.cds
  have HV := Lib.hid hv
  obtain ⟨pa, ca, rfl, h1, h2, h3, -⟩ := hv.all
  clear hv
  cases pa with
  | none =>
    obtain rfl := h3 rfl
    obtain rfl : l = [] := List.eq_nil_of_length_eq_zero (by omega)
    clear h1 h2 h3 hl HV
    have q : (Go.binOp .eql 35 (.slice none 0 0) (.slice none 0 0)).run Try.prog w = .ok (.bool true) w := Lib.run_eql_slice_nil w _ _ none 0 0 0 0 Try.underlying35
    go_enter Try.func11, Try.ntmps11
    go_wp2_with fail
    go_ret
    exact ⟨_, rfl, ⟨World.ownsRow_nil _ _ _ _, HN.out⟩, Below.refl _ _⟩
  | some ad =>
    clear h3
    have q : ∀ m, (Go.binOp .eql 35 (.slice (some ad) m ca) (.slice none 0 0)).run Try.prog w = .ok (.bool false) w := fun m => Lib.run_eql_slice_nil w _ _ (some ad) m ca 0 0 Try.underlying35
    obtain ⟨n, hn⟩ : ∃ n, n = l.length := ⟨_, rfl⟩
    have S1 : Hid (∀ W, Below w.heap.size w W → SrcAt W 6 (.slice (some ad) n ca) n (l.flatMap ndE)) := fun W hW => by rw [hn]; exact (HV.out.below keepNd hW).src flatNd
    rw [← hn] at hl h1 ⊢
    have HNN := Lib.hid hn
    clear hn
    go_enter Try.func11, Try.ntmps11
    go_wp2_with (at_builtin; refine append_gen elemNd rfl (.tmp 5) (.tmp 6) rfl w.heap.size (.slice (some ⟨w.heap.size, 0, none⟩) 0 0) 0 [] rfl (owns_made0 w 61 6) (.slice (some ad) n ca) n _ rfl (S1.out _ ((Below.refl _ _).alloc (Nat.le_refl _) _)) (by omega) (by unfold maxLen; omega) (by simp) ?_; intro y1 w1 g1 g2; have HO1 := Lib.hid g1; have HB1 : Hid (Below w.heap.size w w1) := below_grown ((Below.refl _ _).alloc (Nat.le_refl _) _) (owns_made0 w 61 6) g2 (Nat.le_refl _) (by simp); clear g1 g2)
    go_ret
    refine ⟨_, rfl, ⟨?_, HN.out⟩, HB1.out⟩
    have := HO1.out
    rw [Nat.zero_add, List.nil_append, HNN.out] at this
    exact this

/-- A slice's three words. -/
abbrev Sl := Option Addr × Nat × Nat
def slV (s : Sl) : Value := .slice s.1 s.2.1 s.2.2
def SlcAt (w : World) (b o : Nat) (s : Sl) : Prop := w.cell? ⟨b, o, none⟩ = some (slV s)
theorem keepSlc : KeepAt SlcAt := fun _w _w' b o _n hb hlt h => (hb.cell (p := ⟨b, o, none⟩) hlt).trans h
def slE (s : Sl) : List Value := [slV s]
theorem flatS : Flat 1 SlcAt slE where
  len := fun _ => rfl
  one := fun x u hu => by unfold slE at hu; simp at hu; subst hu; rfl
  put := fun w b o x h => h 0 _ rfl
  get := fun w b o x h i v hi => by
    match i, hi with
    | 0, hi => cases hi; exact h
theorem elemCs : ElemOk 42 35 (.slice none 0 0) 1 24 := ⟨Try.underlying42, by kernel_rfl, rfl, by decide⟩
def SOwn (base : Nat) (w : World) (v : Value) (ss : List Sl) : Prop := w.ownsRow base 35 1 v ss.length (ss.flatMap slE)
theorem SOwn.row {base : Nat} {w : World} {v : Value} {ss : List Sl} (h : SOwn base w v ss) : RowAt 1 SlcAt w v ss := RowAt.of_flat flatS rfl h
/-- Codes of a call's own, by their slices. -/
def Cos (base : Nat) (w : World) (ss : List Sl) (ls : List (List Nod)) : Prop := ss.length = ls.length ∧ ∀ (j : Nat) (s : Sl) (l : List Nod), ss[j]? = some s → ls[j]? = some l → CO base w (slV s) l
theorem Cos.below {base : Nat} {w w' : World} {ss : List Sl} {ls : List (List Nod)} (h : Cos base w ss ls) (hb : Below w.heap.size w w') : Cos base w' ss ls := ⟨h.1, fun j s l h1 h2 => (h.2 j s l h1 h2).below hb⟩
/-- A node's parts. -/
def Prt (base : Nat) (w : World) (v : Value) (ls : List (List Nod)) : Prop := ∃ ss, RowAt 1 SlcAt w v ss ∧ Cos base w ss ls
theorem Prt.below {base : Nat} {w w' : World} {v : Value} {ls : List (List Nod)} (h : Prt base w v ls) (hb : Below w.heap.size w w') : Prt base w' v ls := by
  obtain ⟨ss, h1, h2⟩ := h
  exact ⟨ss, h1.below keepSlc hb, h2.below hb⟩
theorem Prt.cs {base : Nat} {w : World} {v : Value} {ls : List (List Nod)} (h : Prt base w v ls) : CsRow w v ls := by
  obtain ⟨ss, ⟨pa, cap, rfl, h2, h3, h4, h5⟩, h6, h7⟩ := h
  refine ⟨pa, cap, by rw [h6], by omega, h3, h4, fun h0 => ?_⟩
  obtain ⟨b, o, e1, e2, e3⟩ := h5 (by omega)
  refine ⟨b, o, e1, e2, fun j x hj => ?_⟩
  have hlt := (List.getElem?_eq_some_iff.1 hj).1
  obtain ⟨s, hs⟩ : ∃ s, ss[j]? = some s := ⟨_, List.getElem?_eq_getElem (by omega)⟩
  exact ⟨_, _, _, e3 j s hs, (h7 j s x hs hj).row⟩
theorem Prt.el {base : Nat} {w : World} {p : Option Addr} {n c : Nat} {ls : List (List Nod)} (h : Prt base w (.slice p n c) ls) {j : Nat} {l : List Nod} (hj : ls[j]? = some l) : ∃ b o p1 n1 c1, p = some ⟨b, o, none⟩ ∧ b < w.heap.size ∧ w.cell? ⟨b, o + j, none⟩ = some (.slice p1 n1 c1) ∧ CO base w (.slice p1 n1 c1) l := by
  obtain ⟨ss, ⟨pa, cap, e, h2, h3, h4, h5⟩, h6, h7⟩ := h
  cases e
  have hlt := (List.getElem?_eq_some_iff.1 hj).1
  obtain ⟨b, o, e1, e2, e3⟩ := h5 (by omega)
  obtain ⟨s, hs⟩ : ∃ s, ss[j]? = some s := ⟨_, List.getElem?_eq_getElem (by omega)⟩
  have h8 := e3 j s hs
  rw [Nat.mul_one] at h8
  exact ⟨b, o, _, _, _, e1, e2, h8, h7 j s l hs hj⟩
theorem Prt.len {base : Nat} {w : World} {p : Option Addr} {n c : Nat} {ls : List (List Nod)} (h : Prt base w (.slice p n c) ls) : n = ls.length := h.cs.ln.1
/-- A stack of codes: the row is the call's own. -/
def CStk (base : Nat) (w : World) (v : Value) (ls : List (List Nod)) : Prop := ∃ ss, SOwn base w v ss ∧ Cos base w ss ls
theorem CStk.prt {base : Nat} {w : World} {v : Value} {ls : List (List Nod)} (h : CStk base w v ls) : Prt base w v ls := by
  obtain ⟨ss, h1, h2⟩ := h
  exact ⟨ss, h1.row, h2⟩
set_option maxRecDepth 100000 in
set_option maxHeartbeats 800000 in
theorem cloneS_any (ss : List Sl) (v : Value) (w : World) (hv : RowAt 1 SlcAt w v ss) (hl : ss.length ≤ 1000000) :
    Calls Try.prog 17 #[v] w fun e w' => ∃ v', e = .returned v' ∧ SOwn w.heap.size w' v' ss ∧ Below w.heap.size w w' := by
  have HV := Lib.hid hv
  obtain ⟨pa, ca, rfl, h1, h2, h3, -⟩ := hv.all
  clear hv
  cases pa with
  | none =>
    obtain rfl := h3 rfl
    obtain rfl : ss = [] := List.eq_nil_of_length_eq_zero (by omega)
    clear h1 h2 h3 hl HV
    have q : (Go.binOp .eql 42 (.slice none 0 0) (.slice none 0 0)).run Try.prog w = .ok (.bool true) w := Lib.run_eql_slice_nil w _ _ none 0 0 0 0 Try.underlying42
    go_enter Try.func17, Try.ntmps17
    go_wp2_with fail
    go_ret
    exact ⟨_, rfl, World.ownsRow_nil _ _ _ _, Below.refl _ _⟩
  | some ad =>
    clear h3
    have q : ∀ m, (Go.binOp .eql 42 (.slice (some ad) m ca) (.slice none 0 0)).run Try.prog w = .ok (.bool false) w := fun m => Lib.run_eql_slice_nil w _ _ (some ad) m ca 0 0 Try.underlying42
    obtain ⟨n, hn⟩ : ∃ n, n = ss.length := ⟨_, rfl⟩
    have S1 : Hid (∀ W, Below w.heap.size w W → SrcAt W 1 (.slice (some ad) n ca) n (ss.flatMap slE)) := fun W hW => by rw [hn]; exact (HV.out.below keepSlc hW).src flatS.toFlatG
    rw [← hn] at hl h1 ⊢
    have HNN := Lib.hid hn
    clear hn
    go_enter Try.func17, Try.ntmps17
    go_wp2_with (at_builtin; refine append_gen elemCs rfl (.tmp 5) (.tmp 6) rfl w.heap.size (.slice (some ⟨w.heap.size, 0, none⟩) 0 0) 0 [] rfl (owns_made0 w 35 1) (.slice (some ad) n ca) n _ rfl (S1.out _ ((Below.refl _ _).alloc (Nat.le_refl _) _)) (by omega) (by unfold maxLen; omega) (by simp) ?_; intro y1 w1 g1 g2; have HO1 := Lib.hid g1; have HB1 : Hid (Below w.heap.size w w1) := below_grown ((Below.refl _ _).alloc (Nat.le_refl _) _) (owns_made0 w 35 1) g2 (Nat.le_refl _) (by simp); clear g1 g2)
    go_ret
    refine ⟨_, rfl, ?_, HB1.out⟩
    have := HO1.out
    rw [Nat.zero_add, List.nil_append, HNN.out] at this
    exact this

end Go.Proofs.Ytehcclcokgmplaa

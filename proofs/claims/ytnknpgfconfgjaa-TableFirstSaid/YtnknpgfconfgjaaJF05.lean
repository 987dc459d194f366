/-
  Lemmas, joined: AppG, TabF, TabD, TabG, TabI, TabH, TabJ, Out, TabK.
-/
import Derived.Test.YtnknpgfconfgjaaJF01
import Derived.Laws.AppendOwn
import Derived.Laws.AppendOwnNone
import Derived.Laws.OwnMore
import Derived.Test.YtnknpgfconfgjaaJF04
import Derived.Outline
import Derived.Test.YtnknpgfconfgjaaJF02
import Derived.LoopN
import Derived.Deep.QuietTactic
import Derived.BigQuiet
import Derived.RegionTactic
/-
  Rows in general: appending to a row of the call's own; cutting a slice; rows of integers.
-/
namespace Go.Proofs.Ytnknpgfconfgjaa
open Go.RowKit

/-- A slice type S of elements E: the zero, the cells, the bytes of one. -/
structure ElemOk (S E : TypeId) (z : Value) (size bytes : Nat) : Prop where
  und : Try.prog.underlying S = some (.slice E)
  inf : (Try.prog.info? E).map (fun i => (i.zero, i.size, i.bytes)) = some (some z, size, bytes)
  zs : z.cells.size = size
  sz : 0 < size

/-- A slice of m elements whose cells are news; nil, if it is so. -/
def SrcAt (w : World) (size : Nat) (vx : Value) (m : Nat) (news : List Value) : Prop :=
  news.length = m * size ∧ (∀ u ∈ news, u.oneCell' = true) ∧ ((vx = .slice none 0 0 ∧ m = 0) ∨ ∃ ad c, vx = .slice (some ad) m c ∧ ∀ j u, news[j]? = some u → w.cell? (ad.add j) = some u)

theorem grownBy_same (w : World) (row : Option Nat) : w.grownBy w row := ⟨rfl, rfl, rfl, Nat.le_refl _, fun _ _ _ => rfl⟩

theorem append_gen {S E : TypeId} {z : Value} {size bytes : Nat} (H : ElemOk S E z size bytes) {ops : Array Oper} {rest : List Oper} {o : Oper} {a : Act} {Q : Exit → Act → World → Prop} {w : World} (hgd : o.guard = none) (s x : Operand)
    (ho : o.op = .call { callee := .builtin .append, args := #[s, x], argTypes := #[S, S] })
    (base : Nat) (v : Value) (n : Nat) (xs : List Value) (hs : a.eval s = v) (hown : w.ownsRow base E size v n xs)
    (vx : Value) (m : Nat) (news : List Value) (hx : a.eval x = vx) (hsrc : SrcAt w size vx m news) (hl : (n + m) * bytes ≤ 140737488355328) (hm : n + m ≤ maxLen) (hbase : base ≤ w.heap.size)
    (h : ∀ v' w', w'.ownsRow base E size v' (n + m) (xs ++ news) → w.grownBy w' v.ownBlock → wpList Try.prog ops Q rest (a.put o.dst v') w') : wpList Try.prog ops Q (o :: rest) a w := by
  obtain ⟨i0, hi, hz0, hz1, hz2⟩ := info_parts H.inf
  obtain ⟨h1, h2, ⟨rfl, rfl⟩ | ⟨ad, c, rfl, h3⟩⟩ := hsrc
  · obtain rfl : news = [] := List.eq_nil_of_length_eq_zero (by omega)
    refine wpList_append_own_none hgd s x _ ho base E i0 size H.und hi v n xs hs hown hx ?_
    exact h v w (by simpa using hown) (grownBy_same _ _)
  · exact wpList_append_own _ hgd s x _ ho base E i0 z size bytes H.und hi hz0 hz1 hz2 H.zs H.sz v n xs hs hown ad m c news hx h1 h3 h2 hm hl hbase fun v' w' q1 q2 _ => h v' w' q1 q2

/-- Behind an append to a row of the call's own: older memory is as it was. -/
theorem below_grown {B : Nat} {w0 w w' : World} {v : Value} {base e size n : Nat} {xs : List Value} (hb : Below B w0 w) (hown : w.ownsRow base e size v n xs) (hg : w.grownBy w' v.ownBlock) (hbase : B ≤ base) (hB : B ≤ w.heap.size) : Below B w0 w' := by
  refine hb.grown hg hB (fun k hk => ?_)
  rcases hown.2 with ⟨q, -⟩ | ⟨g, cap, cur, q1, q2, -⟩
  · rw [q] at hk; cases hk
  · rw [q1] at hk
    simp only [Value.ownBlock] at hk
    cases hk
    omega

/-- What an empty slice that a call lays owns. -/
theorem owns_made0 (w : World) (E : TypeId) (size : Nat) : (w.alloc (.cells #[] E)).ownsRow w.heap.size E size (.slice (some ⟨w.heap.size, 0, none⟩) 0 0) 0 [] :=
  World.ownsRow_made w #[] 0 (Nat.le_refl _) (Nat.zero_le _) (by simp)

theorem addr_add (b o j : Nat) : (⟨b, o, none⟩ : Addr).add j = ⟨b, o + j, none⟩ := by
  unfold Addr.add
  split
  · subst_vars; rfl
  · rfl

/-- A block known whole is one element's source. -/
theorem src_one {w : World} {g c : Nat} {news : List Value} {size : Nat} (hl : news.length = size) (h1 : ∀ u ∈ news, u.oneCell' = true) (hc : ∀ j u, news[j]? = some u → w.cell? ⟨g, j, none⟩ = some u) : SrcAt w size (.slice (some ⟨g, 0, none⟩) 1 c) 1 news :=
  ⟨by omega, h1, .inr ⟨_, _, rfl, fun j u hj => by rw [addr_add, Nat.zero_add]; exact hc j u hj⟩⟩

theorem flatten_at {size : Nat} : ∀ {ls : List (List Value)} (_ : ∀ c ∈ ls, c.length = size) {j i : Nat} {c : List Value} {u : Value}, ls[j]? = some c → c[i]? = some u → ls.flatten[j * size + i]? = some u
  | [], _, j, _, _, _, h, _ => by simp at h
  | c0 :: ls, hs, 0, i, c, u, h, hi => by
    simp only [List.getElem?_cons_zero, Option.some.injEq] at h
    subst h
    have hlt := (List.getElem?_eq_some_iff.1 hi).1
    rw [List.flatten_cons, Nat.zero_mul, Nat.zero_add, List.getElem?_append_left hlt]
    exact hi
  | c0 :: ls, hs, j + 1, i, c, u, h, hi => by
    have h0 := hs c0 (by simp)
    rw [List.getElem?_cons_succ] at h
    have ih := flatten_at (fun c hc => hs c (by simp [hc])) h hi
    rw [List.flatten_cons, List.getElem?_append_right (by rw [h0, Nat.succ_mul]; omega), h0, ← ih]
    congr 1
    rw [Nat.succ_mul]; omega

/-- What a call has laid reads as a list. -/
theorem rowAt_of_owns {α : Type} {size : Nat} {At : World → Nat → Nat → α → Prop} {w : World} {base E n : Nat} {v : Value} {l : List α} {ls : List (List Value)} (hn : n = l.length) (hlen : ls.length = l.length) (h : w.ownsRow base E size v n ls.flatten) (hsz : ∀ c ∈ ls, c.length = size)
    (hat : ∀ (j : Nat) (x : α) (c : List Value), l[j]? = some x → ls[j]? = some c → ∀ b o, b < w.heap.size → CellsAt w b o c → At w b o x) : RowAt size At w v l := by
  subst hn
  obtain ⟨hl, h⟩ := h
  rcases h with ⟨h1, h2⟩ | ⟨g, cap, cur, h1, h2, h3, h4, h5, h6, h7⟩
  · obtain rfl := List.length_eq_zero_iff.1 h2
    rw [h1]; exact RowAt.nil
  · have hlt : g < w.heap.size := (Array.getElem?_eq_some_iff.1 h3).1
    refine ⟨some ⟨g, 0, none⟩, cap, h1, h4, h5, (fun h => by cases h), fun _ => ⟨g, 0, rfl, hlt, fun j x hj => ?_⟩⟩
    have hjl : j < l.length := (List.getElem?_eq_some_iff.1 hj).1
    obtain ⟨c, hc⟩ : ∃ c, ls[j]? = some c := ⟨_, List.getElem?_eq_getElem (by omega)⟩
    refine hat j x c hj hc g _ hlt fun i u hi => ?_
    have hil := (List.getElem?_eq_some_iff.1 hi).1
    have hcl := hsz c (List.mem_of_getElem? hc)
    have h8 := flatten_at hsz hc hi
    rw [← h7, List.getElem?_take_of_lt (by
      have : j * size + size ≤ l.length * size := by rw [← Nat.succ_mul]; exact Nat.mul_le_mul_right _ hjl
      omega)] at h8
    simp only [World.cell?, h3, Nat.zero_add]
    simpa using h8

/-- Things that lie flat: each one's cells. -/
structure FlatG {α : Type} (size : Nat) (At : World → Nat → Nat → α → Prop) (enc : α → List Value) : Prop where
  len : ∀ x, (enc x).length = size
  one : ∀ x, ∀ u ∈ enc x, u.oneCell' = true
  get : ∀ w b o x, At w b o x → CellsAt w b o (enc x)
theorem flat_len {α : Type} {size : Nat} {enc : α → List Value} (h : ∀ x, (enc x).length = size) : ∀ l : List α, (l.flatMap enc).length = l.length * size
  | [] => by simp
  | x :: l => by rw [List.flatMap_cons, List.length_append, h, flat_len h l, List.length_cons, Nat.succ_mul]; omega

theorem flat_at {α : Type} {size : Nat} {enc : α → List Value} (h : ∀ x, (enc x).length = size) : ∀ (l : List α) (j : Nat) (u : Value), (l.flatMap enc)[j]? = some u → ∃ k x i, l[k]? = some x ∧ (enc x)[i]? = some u ∧ j = k * size + i
  | [], j, u, hj => by simp at hj
  | x :: l, j, u, hj => by
    rw [List.flatMap_cons] at hj
    by_cases hlt : j < size
    · rw [List.getElem?_append_left (by rw [h]; exact hlt)] at hj
      exact ⟨0, x, j, rfl, hj, by omega⟩
    · rw [List.getElem?_append_right (by rw [h]; omega), h] at hj
      obtain ⟨k, y, i, h1, h2, h3⟩ := flat_at h l _ u hj
      exact ⟨k + 1, y, i, h1, h2, by rw [Nat.succ_mul]; omega⟩

theorem RowAt.src {α : Type} {size : Nat} {At : World → Nat → Nat → α → Prop} {enc : α → List Value} (hF : FlatG size At enc) {w : World} {v : Value} {l : List α} (h : RowAt size At w v l) : SrcAt w size v l.length (l.flatMap enc) := by
  refine ⟨flat_len hF.len l, fun u hu => ?_, ?_⟩
  · obtain ⟨x, -, hx⟩ := List.mem_flatMap.1 hu
    exact hF.one x u hx
  · obtain ⟨pa, cap, rfl, h2, h3, h4, h5⟩ := h
    cases pa with
    | none => obtain rfl := h4 rfl; have h0 : l.length = 0 := (by omega); exact .inl ⟨by rw [h0], h0⟩
    | some ad =>
      refine .inr ⟨ad, cap, rfl, fun j u hj => ?_⟩
      obtain ⟨k, x, i, e1, e2, e3⟩ := flat_at hF.len l j u hj
      obtain ⟨b, o, e4, -, e6⟩ := h5 (by have := (List.getElem?_eq_some_iff.1 e1).1; omega)
      cases e4
      have := hF.get _ _ _ _ (e6 k x e1) i u e2
      rw [addr_add, e3, ← Nat.add_assoc]; exact this

end Go.Proofs.Ytnknpgfconfgjaa

/-
  table.Order.
-/
namespace Go.Proofs.Ytnknpgfconfgjaa
open Go.RowKit Stab

theorem append_int {ops : Array Oper} {rest : List Oper} {o : Oper} {a : Act} {Q : Exit → Act → World → Prop} {w : World} (hgd : o.guard = none) (s x : Operand)
    (ho : o.op = .call { callee := .builtin .append, args := #[s, x], argTypes := #[39, 39] })
    (base : Nat) (v : Value) (n : Nat) (zs : List Value) (hs : a.eval s = v) (hown : w.ownsRow base 3 1 v n zs) (g : Nat) (z : Int) (hx : a.eval x = .slice (some ⟨g, 0, none⟩) 1 1) (hc : w.cell? ⟨g, 0, none⟩ = some (.int .i64 z)) (hl : n ≤ 1000000) (hbase : base ≤ w.heap.size)
    (h : ∀ v' w', w'.ownsRow base 3 1 v' (n + 1) (zs ++ [.int .i64 z]) → w.grownBy w' v.ownBlock → wpList Try.prog ops Q rest (a.put o.dst v') w') : wpList Try.prog ops Q (o :: rest) a w := by
  obtain ⟨i0, hi, hz0, hz1, hz2⟩ := info_parts infoInt
  have hcell : ∀ j u, [Value.int .i64 z][j]? = some u → w.cell? ((⟨g, 0, none⟩ : Addr).add j) = some u := by
    intro j u hu
    match j, hu with
    | 0, hu => simp at hu; subst hu; simpa [Addr.add] using hc
  exact wpList_append_own _ hgd s x _ ho base 3 i0 (.int .i64 0) 1 8 Try.underlying39 hi hz0 hz1 hz2 rfl (by decide) v n zs hs hown ⟨g, 0, none⟩ 1 1 [.int .i64 z] hx rfl hcell (fun u hu => by simp at hu; subst hu; rfl) (by unfold maxLen; omega) (by omega) hbase fun v' w' h1 h2 _ => h v' w' h1 h2

/-- A result that reads as integers, of which R is so. -/
def RetOrd (w : World) (R : List Int → Prop) (e : Ending) (w' : World) : Prop := ∃ v xs, e = .returned v ∧ IVec w' v xs ∧ R xs ∧ Below w.heap.size w w'

theorem sel_succ_yes {l : List Ent} {tab : Int} {k : Nat} (h : (eAt l k).tab = tab) : sel l tab (k + 1) = sel l tab k ++ [(k : Int)] := by
  show sel l tab k ++ _ = _; rw [if_pos h]
theorem sel_succ_no {l : List Ent} {tab : Int} {k : Nat} (h : ¬ (eAt l k).tab = tab) : sel l tab (k + 1) = sel l tab k := by
  show sel l tab k ++ _ = _; rw [if_neg h, List.append_nil]

theorem run_makeFunc (fn : Go.Fn) (first cap : Array Value) (w : World) : (Instr.makeFunc fn first cap).run Try.prog w = .ok (.func fn first cap) w := rfl

/-- A row's things as a list. -/
def lsOf (f : Nat → Int) (n : Nat) : List Int := (List.range n).map f
theorem lsOf_len (f : Nat → Int) (n : Nat) : (lsOf f n).length = n := by simp [lsOf]
theorem lsOf_fn (f : Nat → Int) (n i : Nat) (h : i < n) : fnOf (lsOf f n) i = f i := by
  unfold fnOf lsOf; rw [List.getD_eq_getElem?_getD]; simp [h]
theorem isOrd_of {l : List Ent} {tab : Int} {f : Nat → Int} {n : Nat} (hn : n = (sel l tab l.length).length) (h : MrgOk (tot l) (fnOf (sel l tab l.length)) f 0 n) : IsOrd l tab (lsOf f n) where
  len := (lsOf_len f n).trans hn
  srt := fun i j h1 h2 h3 => by
    rw [lsOf_len] at h3
    rw [lsOf_fn f n i (by omega), lsOf_fn f n j h3]; exact h.srt i j h1 h2 h3
  same := fun x => by
    rw [lsOf_len]
    exact (h.same.eq fun i _ hi => lsOf_fn f n i hi) x
theorem iVec_of {V : Int → Prop} {w0 w : World} {g n cap : Nat} {f : Nat → Int} (S : SWd V w0 g n f w) (hc : n ≤ cap) (hm : cap ≤ maxLen) : IVec w (.slice (some ⟨g, 0, none⟩) n cap) (lsOf f n) := by
  refine ⟨some ⟨g, 0, none⟩, cap, by rw [lsOf_len], by rw [lsOf_len]; exact hc, hm, fun _ => ⟨g, 0, rfl, S.glt, fun i hi => ?_⟩⟩
  rw [lsOf_len] at hi
  rw [Nat.zero_add, S.cell i hi]
  have := lsOf_fn f n i hi
  unfold fnOf at this
  rw [this]
theorem swd_of {V : Int → Prop} {w : World} {g n cap : Nat} {cur : Array Value} {zs : List Int} (hz : zs.length = n) (h3 : w.heap[g]? = some (.cells cur 3 (0, 0))) (h4 : n ≤ cap) (h6 : cur.size = cap * 1) (h7 : cur.toList.take (n * 1) = zs.map (Value.int .i64)) (hV : ∀ i, i < n → V (fnOf zs i)) : SWd V w g n (fnOf zs) w := by
  have hlt : g < w.heap.size := (Array.getElem?_eq_some_iff.1 h3).1
  refine ⟨fun i hi => ⟨?_, ?_⟩, World.grownBy.refl w _, hlt, hV⟩
  · simp only [World.cell?, h3]
    have h8 : (cur.toList.take (n * 1))[i]? = some (.int .i64 (fnOf zs i)) := by
      rw [h7]; unfold fnOf; rw [List.getD_eq_getElem?_getD]; simp [hz ▸ hi]
    rw [List.getElem?_take_of_lt (by omega)] at h8
    simpa using h8
  · simp [World.frozen?, h3]

set_option maxRecDepth 100000 in
set_option maxHeartbeats 3200000 in
theorem order_any (l : List Ent) (tab : Int) (lv : Value) (w : World) (hl : ERow w lv l) (hn : l.length ≤ 40) :
    Calls Try.prog 17 #[lv, .int .i64 tab] w (RetOrd w (IsOrd l tab)) := by
  obtain ⟨la, lc, rfl, hc1, hc2⟩ := hl.shape
  have HL := Lib.hid hl
  clear hl
  have hmf := run_makeFunc
  obtain ⟨n, hnn⟩ : ∃ n, n = l.length := ⟨_, rfl⟩
  rw [← hnn] at hn hc1 HL ⊢
  have HN := Lib.hid hnn
  clear hnn
  have hcz : (n : Int) ≤ (lc : Int) := by omega
  go_enter Try.func17, Try.ntmps17
  go_wp2_with fail
  have hb0 : Below w.heap.size w (w.alloc (.cells #[.slice la n lc] 54)) := (by repeat (first | exact Below.refl _ _ | assumption | refine Below.drew ?_ | refine Below.alloc ?_ (by first | omega | (simp <;> omega)) _ | refine Below.setCell ?_ (by first | omega | (simp <;> omega)) _ | refine Below.trans ?_ (Below.mono (by assumption) (by first | omega | (simp <;> omega)))))
  generalize hX : w.alloc (.cells #[.slice la n lc] 54) = X at hb0
  have hbx : X.cell? ⟨w.heap.size, 0, none⟩ = some (.slice la n lc) := by rw [← hX]; simp [go_sem]
  have hsx : X.heap.size = w.heap.size + 1 := by rw [← hX]; simp
  have hbelow : ∀ W, Below X.heap.size X W → Below w.heap.size w W ∧ W.cell? ⟨w.heap.size, 0, none⟩ = some (.slice la n lc) := fun W hW => ⟨hb0.trans (hW.mono hb0.size), (hW.cell (p := ⟨w.heap.size, 0, none⟩) (by rw [hsx]; exact Nat.lt_succ_self _)).trans hbx⟩
  have HX := Lib.hid hbelow
  have HSX := Lib.hid hsx
  clear hX hb0 hbelow hsx
  go_loopw [4, 5, 6, 9] (fun v u u' i wr => ∃ k : Nat, k ≤ n ∧ i = .int .i64 k ∧ Hid (wr.ownsRow X.heap.size 3 1 v (sel l tab k).length ((sel l tab k).map (Value.int .i64))) ∧ Hid (Below X.heap.size X wr)) (fun _ _ _ i _ => n - (intOf i).toNat)
  case atStart => exact ⟨0, Nat.zero_le _, rfl, ⟨by simp [sel], .inl ⟨rfl, rfl⟩⟩, Below.refl _ _⟩
  case round =>
    obtain ⟨k, hk, rfl, HO, HW⟩ := hrel
    by_cases hlt : k < n
    · obtain ⟨lb, lo, lc', he, hlb, hek⟩ := (HL.out.below keepE (HX.out _ HW.out).1).at (eAt_nat l k (by have := HN.out; omega))
      simp only [Value.slice.injEq] at he
      obtain ⟨rfl, -, -⟩ := he
      obtain ⟨p1, n1, c1, r1, m1, d1, a0, a1, a2, a3, a4, a5, -, -⟩ := hek.six
      obtain ⟨t1, e1⟩ : ∃ t, t = (eAt l k).tab := ⟨_, rfl⟩
      rw [← e1] at a0
      have HE := Lib.hid e1
      have z1 : (k : Int) < (n : Int) := by omega
      clear hek e1
      by_cases ht : t1 = tab
      · subst ht
        have HS : Hid (sel l t1 (k + 1) = sel l t1 k ++ [(k : Int)]) := sel_succ_yes HE.out.symm
        have HSL := Lib.hid (sel_len l t1 k)
        have HLN : Hid ((sel l t1 k).length ≤ 1000000) := by show _ ≤ _; have := HSL.out; omega
        have HZ : Hid (X.heap.size ≤ wr.heap.size) := HW.out.size
        go_wp2_with (refine append_int rfl (.tmp 18) (.tmp 20) rfl X.heap.size u4 _ _ rfl ((HO.out.alloc _).alloc _) (wr.heap.size + 1) (k : Int) rfl (by simp [go_sem]) HLN.out (by have := HZ.out; simp only [World.size_alloc]; omega) ?_; intro v' w' h1 h2; have HO2 := Lib.hid h1; have HW2 : Hid (Below X.heap.size X w') := below_grown ((HW.out.alloc HZ.out _).alloc (by have := HZ.out; simp only [World.size_alloc]; omega) _) ((HO.out.alloc _).alloc _) h2 (Nat.le_refl _) (by have := HZ.out; simp only [World.size_alloc]; omega); clear h1 h2)
        go_roundw
        case rel => exact ⟨k + 1, by omega, by go_num, by have := HO2.out; show World.ownsRow _ _ _ _ _ _ _; rw [HS.out]; simpa using this, HW2⟩
        case measure => simp [intOf]; omega
      · have HS : Hid (sel l tab (k + 1) = sel l tab k) := sel_succ_no (fun q => ht (HE.out.trans q))
        have hne : (t1 == tab) = false := by rw [beq_eq_false_iff_ne]; exact ht
        have HO2 : ∀ o, Hid ((wr.alloc o).ownsRow X.heap.size 3 1 u4 (sel l tab (k + 1)).length ((sel l tab (k + 1)).map (Value.int .i64))) := fun o => by rw [HS.out]; exact HO.out.alloc _
        have HW2 : ∀ o, Hid (Below X.heap.size X (wr.alloc o)) := fun o => HW.out.alloc HW.out.size o
        go_wp2_with fail
        go_roundw
        case rel => exact ⟨k + 1, by omega, by go_num, HO2 _, HW2 _⟩
        case measure => simp [intOf]; omega
    · obtain rfl : k = n := by omega
      have hval := HO.out.2
      have HV : Hid (∀ i, i < (sel l tab k).length → (0 ≤ fnOf (sel l tab k) i ∧ fnOf (sel l tab k) i < (l.length : Int))) := fun i hi => by
        have := sel_lt l tab hi; have h2 := HN.out; unfold fnOf; omega
      have HASC : Hid (∀ p q, p < q → q < (sel l tab k).length → fnOf (sel l tab k) p < fnOf (sel l tab k) q) := sel_asc l tab k
      have HLEN := Lib.hid (sel_len l tab k)
      rcases hval with ⟨rfl, he⟩ | ⟨g, cap, cur, rfl, q2, q3, q4, q5, q6, q7⟩
      · have h0 : (sel l tab k).length = 0 := by simpa using he
        have HH0 := Lib.hid h0
        clear he h0
        go_wp2_with fail
        refine (sort_nil none 0 _ _).mono ?_
        rintro e w1 ⟨rfl, rfl⟩
        go_wp2_with fail
        go_ret
        refine ⟨_, [], rfl, IVec.nil _, ⟨by rw [← HN.out]; exact HH0.out.symm, fun i j _ _ h => by simp at h, fun x => ⟨fun ⟨i, _, h, _⟩ => by simp at h, fun ⟨i, _, h, _⟩ => by simp at h⟩⟩, (HX.out _ HW.out).1⟩
      · have HO1 := Lib.hid (And.intro q2 (And.intro q3 (And.intro q4 (And.intro q5 (And.intro q6 q7)))))
        clear q2 q3 q4 q5 q6 q7
        have hcm := fun (i j : Nat) (W : World) (h1 : i < l.length) (h2 : j < l.length) (hW : Below X.heap.size X W) => cmp_any l (.slice la k lc) w.heap.size i j W (HL.out.below keepE (HX.out W hW).1) (by have := HN.out; omega) h1 h2 (HX.out W hW).2
        have HC : Hid (CmpOk (fun x => 0 ≤ x ∧ x < (l.length : Int)) wr g 34 #[.pointer (some ⟨w.heap.size, 0, none⟩)] (cmpE l)) := by
          refine ⟨fun av W => by kernel_rfl, fun W hW x y hx hy => ?_⟩
          obtain ⟨i, rfl⟩ : ∃ i : Nat, x = (i : Int) := ⟨x.toNat, by omega⟩
          obtain ⟨j, rfl⟩ : ∃ j : Nat, y = (j : Int) := ⟨y.toNat, by omega⟩
          exact hcm i j W (by omega) (by omega) (HW.out.grown hW HW.out.size (fun q h => by cases h; exact HO1.out.1))
        have HK : Hid (Calls Try.prog 33 #[.slice (some ⟨g, 0, none⟩) (sel l tab k).length cap, .func (.func 34) #[] #[.pointer (some ⟨w.heap.size, 0, none⟩)]] wr (SOk (fun x => 0 ≤ x ∧ x < (l.length : Int)) wr g (sel l tab k).length (fun f' => MrgOk (tot l) (fnOf (sel l tab k)) f' 0 (sel l tab k).length))) :=
          sort_any _ (tot l) (tot_ord l) wr g _ cap _ _ (cmpE l) HC.out (fun x y h => cmpE_neg h) (fnOf (sel l tab k)) wr (by have := HLEN.out; omega) HASC.out (swd_of rfl HO1.out.2.1 HO1.out.2.2.1 HO1.out.2.2.2.2.1 HO1.out.2.2.2.2.2 HV.out)
        clear hcm
        obtain ⟨z, hz⟩ : ∃ z, z = (sel l tab k).length := ⟨_, rfl⟩
        rw [← hz] at HK ⊢
        have HZ := Lib.hid hz
        clear hz
        go_wp2_with fail
        refine HK.out.mono ?_
        rintro e w1 ⟨rfl, f1, S1, M1⟩
        have HS := Lib.hid S1
        have HM := Lib.hid M1
        clear S1 M1 HK
        go_wp2_with fail
        go_ret
        have hB1 : Below X.heap.size X w1 := HW.out.grown HS.out.gr HW.out.size (fun q h => by cases h; exact HO1.out.1)
        exact ⟨_, lsOf f1 z, rfl, iVec_of HS.out (by rw [HZ.out]; exact HO1.out.2.2.1) HO1.out.2.2.2.1, isOrd_of (by rw [← HN.out]; exact HZ.out) (by rw [← HN.out]; exact HM.out), (HX.out _ hB1).1⟩

end Go.Proofs.Ytnknpgfconfgjaa



/-
  The document's Order.
-/
namespace Go.Proofs.Ytnknpgfconfgjaa
open Go.RowKit Stab

theorem fnOf_mem {xs : List Int} {x : Int} : (∃ i, 0 ≤ i ∧ i < xs.length ∧ fnOf xs i = x) ↔ x ∈ xs := by
  rw [List.mem_iff_getElem]
  constructor
  · rintro ⟨i, -, hi, e⟩
    exact ⟨i, hi, by unfold fnOf at e; rw [List.getD_eq_getElem?_getD, List.getElem?_eq_getElem hi] at e; exact e⟩
  · rintro ⟨i, hi, e⟩
    exact ⟨i, Nat.zero_le _, hi, by unfold fnOf; rw [List.getD_eq_getElem?_getD, List.getElem?_eq_getElem hi]; exact e⟩
theorem fnOf_at {xs : List Int} {i : Nat} (hi : i < xs.length) : fnOf xs i = xs[i] := by
  unfold fnOf; rw [List.getD_eq_getElem?_getD, List.getElem?_eq_getElem hi]; rfl
end Go.Proofs.Ytnknpgfconfgjaa

/-
  The plain law of what is chosen: the best of the entries that match.
-/
namespace Go.Proofs.Ytnknpgfconfgjaa
open Go.RowKit Stab

/-- c is the best of the entries below a place that match; -1 if there is none. -/
def Best (l : List Ent) (tab : Int) (ks : List Nat) (k : Nat) (c : Int) : Prop :=
  (c = -1 ∧ ∀ j : Nat, j < k → matB (eAt l j) tab ks = false) ∨
  (0 ≤ c ∧ c < k ∧ matB (eAt l c) tab ks = true ∧ ∀ j : Nat, j < k → matB (eAt l j) tab ks = true → (j : Int) = c ∨ tot l c j = true)
theorem Best.unique {l : List Ent} {tab : Int} {ks : List Nat} {k : Nat} {c d : Int} (h : Best l tab ks k c) (h2 : Best l tab ks k d) : c = d := by
  rcases h with ⟨rfl, h⟩ | ⟨a1, a2, a3, a4⟩ <;> rcases h2 with ⟨rfl, g⟩ | ⟨b1, b2, b3, b4⟩
  · rfl
  · obtain ⟨d, rfl⟩ : ∃ n : Nat, d = (n : Int) := ⟨d.toNat, by omega⟩
    rw [h d (by omega)] at b3; cases b3
  · obtain ⟨c, rfl⟩ : ∃ n : Nat, c = (n : Int) := ⟨c.toNat, by omega⟩
    rw [g c (by omega)] at a3; cases a3
  · obtain ⟨d, rfl⟩ : ∃ n : Nat, d = (n : Int) := ⟨d.toNat, by omega⟩
    obtain ⟨c, rfl⟩ : ∃ n : Nat, c = (n : Int) := ⟨c.toNat, by omega⟩
    rcases a4 d (by omega) b3 with e | e
    · exact e.symm
    · rcases b4 c (by omega) a3 with e2 | e2
      · exact e2
      · rw [(tot_ord l).asym e] at e2; cases e2
theorem matB_mem {l : List Ent} {tab : Int} {ks : List Nat} {xs : List Int} (h : IsOrd l tab xs) {j : Nat} (hj : j < l.length) (hm : matB (eAt l j) tab ks = true) : (j : Int) ∈ xs := by
  rw [h.mem]
  refine ⟨by omega, by omega, ?_⟩
  by_cases e : (eAt l (j : Int)).tab = tab
  · exact e
  · rw [matB_tab e] at hm; cases hm
/-- The first of the order that matches is the best. -/
theorem IsOrd.best {l : List Ent} {tab : Int} {ks : List Nat} {xs : List Int} (h : IsOrd l tab xs) {k : Nat} (hk : k < xs.length) (hno : ∀ j, j < k → matB (eAt l (fnOf xs j)) tab ks = false) (hm : matB (eAt l (fnOf xs k)) tab ks = true) : Best l tab ks l.length (fnOf xs k) := by
  have hmem : fnOf xs k ∈ xs := by rw [fnOf_at hk]; exact List.getElem_mem _
  have hb := h.mem.1 hmem
  refine .inr ⟨hb.1, hb.2.1, hm, fun j hj hmj => ?_⟩
  obtain ⟨i, -, hi, hij⟩ := fnOf_mem.2 (matB_mem h hj hmj)
  by_cases e : i = k
  · left; rw [← e]; exact hij.symm
  · right
    by_cases e2 : i < k
    · have := hno i e2
      rw [hij, hmj] at this; cases this
    · rw [← hij]
      exact h.srt k i (Nat.zero_le _) (by omega) hi
theorem IsOrd.none {l : List Ent} {tab : Int} {ks : List Nat} {xs : List Int} (h : IsOrd l tab xs) (hno : ∀ j, j < xs.length → matB (eAt l (fnOf xs j)) tab ks = false) : Best l tab ks l.length (-1) := by
  refine .inl ⟨rfl, fun j hj => ?_⟩
  cases hm : matB (eAt l j) tab ks
  · rfl
  · obtain ⟨i, -, hi, hij⟩ := fnOf_mem.2 (matB_mem h hj hm)
    have := hno i hi
    rw [hij, hm] at this; exact this

/-- What a call tells is the best one. -/
def RetBest (w : World) (l : List Ent) (tab : Int) (ks : List Nat) (e : Ending) (w' : World) : Prop := ∃ c, e = .returned (.int .i64 c) ∧ Best l tab ks l.length c ∧ Below w.heap.size w w'

end Go.Proofs.Ytnknpgfconfgjaa



/-
  table.Choose.
-/
namespace Go.Proofs.Ytnknpgfconfgjaa
open Go.RowKit Stab

/-- Entries of few patterns and arguments. -/
def Few (l : List Ent) : Prop := ∀ k : Nat, k < l.length → (eAt l k).pats.length ≤ 10 ∧ (eAt l k).args.length ≤ 10

set_option maxRecDepth 100000 in
set_option maxHeartbeats 3200000 in
theorem choose_any (l : List Ent) (tab : Int) (ks : List Nat) (lv kv : Value) (w : World) (hl : ERow w lv l) (hk : NRow w kv ks) (hn : l.length ≤ 40) (hf : Few l) :
    Calls Try.prog 19 #[lv, .int .i64 tab, kv] w (RetBest w l tab ks) := by
  obtain ⟨la, lc, rfl, hc1, hc2⟩ := hl.shape
  obtain ⟨ka, kc, rfl, kc1, kc2⟩ := hk.shape
  have HO := Lib.hid (order_any l tab _ w hl hn)
  have HL := Lib.hid hl
  have HK := Lib.hid hk
  have HF := Lib.hid hf
  obtain ⟨n, hnn⟩ : ∃ n, n = l.length := ⟨_, rfl⟩
  rw [← hnn] at hn hc1 HL HO ⊢
  have HN := Lib.hid hnn
  clear hl hk hf hnn
  go_enter Try.func19, Try.ntmps19
  go_wp2_with fail
  refine HO.out.mono ?_
  rintro e w1 ⟨v, xs, rfl, hx, ho, hb⟩
  obtain ⟨xa, xc, rfl, xc1, xc2, hxa⟩ := hx.shape
  have HX := Lib.hid hx
  have HXA := Lib.hid hxa
  have HOD := Lib.hid ho
  have HB := Lib.hid hb
  obtain ⟨m, hm⟩ : ∃ m, m = xs.length := ⟨_, rfl⟩
  rw [← hm] at xc1 HX ⊢
  have hm40 : m ≤ 40 := by have := ho.len; have := sel_len l tab l.length; have := HN.out; omega
  have HM := Lib.hid hm
  clear hx ho hb hm hxa HO
  go_wp2_with fail
  go_loopw [8, 13] (fun u i wr => ∃ k : Nat, k ≤ m ∧ i = .int .i64 k ∧ Hid (∀ j, j < k → matB (eAt l (fnOf xs j)) tab ks = false) ∧ Hid (Below w1.heap.size w1 wr)) (fun _ i _ => m - (intOf i).toNat)
  case atStart => exact ⟨0, Nat.zero_le _, rfl, fun j h => absurd h (by omega), Below.refl _ _⟩
  case round =>
    obtain ⟨k, hk, rfl, HJ, HW⟩ := hrel
    by_cases hlt : k < m
    · obtain ⟨y, hy1, hy2⟩ : ∃ y : Nat, fnOf xs k = (y : Int) ∧ y < n := by
        have hmem : fnOf xs k ∈ xs := by rw [fnOf_at (by have := HM.out; omega)]; exact List.getElem_mem _
        have := HOD.out.mem.1 hmem
        have := HN.out
        exact ⟨(fnOf xs k).toNat, by omega, by omega⟩
      obtain ⟨xb, xo, rfl, hxb, hxe⟩ := HXA.out (by have := HM.out; omega)
      have x0 := hxe k (by have := HM.out; omega)
      rw [← HW.out.cell (p := ⟨xb, xo + k, none⟩) hxb] at x0
      have e0 : xs.getD k 0 = (y : Int) := hy1
      rw [e0] at x0
      have hBW := HB.out.trans (HW.out.mono HB.out.size)
      obtain ⟨lb, lo, lc2, he2, -, hej⟩ := (HL.out.below keepE hBW).at (eAt_nat l y (by have := HN.out; omega))
      simp only [Value.slice.injEq] at he2
      obtain ⟨rfl, -, -⟩ := he2
      obtain ⟨p1, n1, c1, r1, m1, d1, a0, a1, a2, a3, a4, a5, hp, hr⟩ := hej.six
      obtain ⟨r, hr2⟩ : ∃ r, r = matB (eAt l y) tab ks := ⟨_, rfl⟩
      have hpl : (eAt l y).pats.length ≤ 1000000 := by have := (HF.out y (by have := HN.out; omega)).1; omega
      have HC : Hid (Calls Try.prog 15 #[.agg #[.int .i64 (eAt l y).tab, .slice p1 n1 c1, .int .i64 (eAt l y).len, .int .i64 (eAt l y).prio, .int .i64 (eAt l y).act, .slice r1 m1 d1], .int .i64 tab, .slice ka ks.length kc] wr fun e w' => e = .returned (.bool r) ∧ Below wr.heap.size wr w') := by
        rw [hr2]; exact matches_any (eAt l y) tab ks _ _ wr ⟨_, _, rfl, hp, hr⟩ (HK.out.below keepN hBW) hpl
      have HR : Hid (r = matB (eAt l (fnOf xs k)) tab ks) := by show _ = _; rw [hr2, hy1]
      have HY : Hid (fnOf xs k = (y : Int)) := hy1
      clear hr2 hy1 e0 hBW hej hp hr hxe hpl
      generalize (eAt l y).tab = t1 at *
      generalize (eAt l y).len = l1 at *
      generalize (eAt l y).prio = q1 at *
      generalize (eAt l y).act = s1 at *
      have z1 : (k : Int) < (m : Int) := by omega
      have z2 : (y : Int) < (n : Int) := by omega
      go_wp2_with fail
      refine HC.out.mono ?_
      rintro e w2 ⟨rfl, hb2⟩
      have HW2 : Hid (Below w1.heap.size w1 w2) := HW.out.trans (hb2.mono HW.out.size)
      clear hb2 HC a0 a1 a2 a3 a4 a5 x0
      cases r
      · go_wp2_with fail
        go_roundw
        case rel =>
          refine ⟨k + 1, by omega, by go_num, fun j hj => ?_, HW2⟩
          by_cases e : j = k
          · subst e; exact HR.out.symm
          · exact HJ.out j (by omega)
        case measure => simp [intOf]; omega
      · go_wp2_with fail
        go_ret
        refine ⟨(y : Int), rfl, ?_, HB.out.trans (HW2.out.mono HB.out.size)⟩
        rw [← HY.out]
        have hkx : k < xs.length := by have := HM.out; omega
        exact HOD.out.best hkx HJ.out HR.out.symm
    · obtain rfl : k = m := by omega
      go_wp2_with fail
      go_ret
      exact ⟨-1, rfl, HOD.out.none (by rw [← HM.out]; exact HJ.out), HB.out.trans (HW.out.mono HB.out.size)⟩

end Go.Proofs.Ytnknpgfconfgjaa

/-
  A region that draws its order, operation by operation: what each one yields, whatever has been done; guards that are not so; calls that make memory.
-/
namespace Go.Proofs.Ytnknpgfconfgjaa
open Go.RowKit

/-! ### the invariant over what has been done -/
/-! ### what operations yield -/

/-- What is known of what an operation yields: a value; something of it in memory; a function of what others yield. -/
inductive Out
  | eq (v : Value)
  | rel (p : World → Value → Prop)
  | fn (js : List Nat) (F : List Value → Value)
/-! ### the operations one behind the other (what is known of each one: the last one first) -/
/-! ### one operation -/
section
variable {P : Program} {ops : Array Oper} {Q : Exit → Act → World → Prop} {o : Oper} {k : Out} {l : Nat → Value} {a : Act} {w w' : World} {S : World → Prop} {Ks : List Out} {a0 : Act}
end

end Go.Proofs.Ytnknpgfconfgjaa



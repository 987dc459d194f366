/-
  Lemmas, joined: AppG, TabF, TabD.
-/
import Derived.Test.YtnknpgfconfgjaaJT01
import Derived.Laws.AppendOwn
import Derived.Laws.AppendOwnNone
import Derived.Laws.OwnMore
import Derived.Test.YtnknpgfconfgjaaJT05
import Derived.Outline
import Derived.Test.YtnknpgfconfgjaaJT03
import Derived.LoopN
/-
  Rows in general: appending to a row of the call's own; cutting a slice; rows of integers.
-/
namespace Go.Proofs.Ytnknpgfconfgjaa
open Go.RowKit

/-- A slice type S of elements E: the zero, the cells, the bytes of one. -/
structure ElemOk (S E : TypeId) (z : Value) (size bytes : Nat) : Prop where
  und : Try.prog.underlying S = some (.slice E)
  inf : (Try.prog.info? E).map (fun i => (i.zero, i.size, i.bytes)) = some (some z, size, bytes)
  zs : z.cells.size = size
  sz : 0 < size

/-- A slice of m elements whose cells are news; nil, if it is so. -/
def SrcAt (w : World) (size : Nat) (vx : Value) (m : Nat) (news : List Value) : Prop :=
  news.length = m * size ∧ (∀ u ∈ news, u.oneCell' = true) ∧ ((vx = .slice none 0 0 ∧ m = 0) ∨ ∃ ad c, vx = .slice (some ad) m c ∧ ∀ j u, news[j]? = some u → w.cell? (ad.add j) = some u)

theorem grownBy_same (w : World) (row : Option Nat) : w.grownBy w row := ⟨rfl, rfl, rfl, Nat.le_refl _, fun _ _ _ => rfl⟩

theorem append_gen {S E : TypeId} {z : Value} {size bytes : Nat} (H : ElemOk S E z size bytes) {ops : Array Oper} {rest : List Oper} {o : Oper} {a : Act} {Q : Exit → Act → World → Prop} {w : World} (hgd : o.guard = none) (s x : Operand)
    (ho : o.op = .call { callee := .builtin .append, args := #[s, x], argTypes := #[S, S] })
    (base : Nat) (v : Value) (n : Nat) (xs : List Value) (hs : a.eval s = v) (hown : w.ownsRow base E size v n xs)
    (vx : Value) (m : Nat) (news : List Value) (hx : a.eval x = vx) (hsrc : SrcAt w size vx m news) (hl : (n + m) * bytes ≤ 140737488355328) (hm : n + m ≤ maxLen) (hbase : base ≤ w.heap.size)
    (h : ∀ v' w', w'.ownsRow base E size v' (n + m) (xs ++ news) → w.grownBy w' v.ownBlock → wpList Try.prog ops Q rest (a.put o.dst v') w') : wpList Try.prog ops Q (o :: rest) a w := by
  obtain ⟨i0, hi, hz0, hz1, hz2⟩ := info_parts H.inf
  obtain ⟨h1, h2, ⟨rfl, rfl⟩ | ⟨ad, c, rfl, h3⟩⟩ := hsrc
  · obtain rfl : news = [] := List.eq_nil_of_length_eq_zero (by omega)
    refine wpList_append_own_none hgd s x _ ho base E i0 size H.und hi v n xs hs hown hx ?_
    exact h v w (by simpa using hown) (grownBy_same _ _)
  · exact wpList_append_own _ hgd s x _ ho base E i0 z size bytes H.und hi hz0 hz1 hz2 H.zs H.sz v n xs hs hown ad m c news hx h1 h3 h2 hm hl hbase fun v' w' q1 q2 _ => h v' w' q1 q2

/-- Behind an append to a row of the call's own: older memory is as it was. -/
theorem below_grown {B : Nat} {w0 w w' : World} {v : Value} {base e size n : Nat} {xs : List Value} (hb : Below B w0 w) (hown : w.ownsRow base e size v n xs) (hg : w.grownBy w' v.ownBlock) (hbase : B ≤ base) (hB : B ≤ w.heap.size) : Below B w0 w' := by
  refine hb.grown hg hB (fun k hk => ?_)
  rcases hown.2 with ⟨q, -⟩ | ⟨g, cap, cur, q1, q2, -⟩
  · rw [q] at hk; cases hk
  · rw [q1] at hk
    simp only [Value.ownBlock] at hk
    cases hk
    omega

/-- What an empty slice that a call lays owns. -/
theorem owns_made0 (w : World) (E : TypeId) (size : Nat) : (w.alloc (.cells #[] E)).ownsRow w.heap.size E size (.slice (some ⟨w.heap.size, 0, none⟩) 0 0) 0 [] :=
  World.ownsRow_made w #[] 0 (Nat.le_refl _) (Nat.zero_le _) (by simp)

theorem addr_add (b o j : Nat) : (⟨b, o, none⟩ : Addr).add j = ⟨b, o + j, none⟩ := by
  unfold Addr.add
  split
  · subst_vars; rfl
  · rfl

/-- A block known whole is one element's source. -/
theorem src_one {w : World} {g c : Nat} {news : List Value} {size : Nat} (hl : news.length = size) (h1 : ∀ u ∈ news, u.oneCell' = true) (hc : ∀ j u, news[j]? = some u → w.cell? ⟨g, j, none⟩ = some u) : SrcAt w size (.slice (some ⟨g, 0, none⟩) 1 c) 1 news :=
  ⟨by omega, h1, .inr ⟨_, _, rfl, fun j u hj => by rw [addr_add, Nat.zero_add]; exact hc j u hj⟩⟩

theorem flatten_at {size : Nat} : ∀ {ls : List (List Value)} (_ : ∀ c ∈ ls, c.length = size) {j i : Nat} {c : List Value} {u : Value}, ls[j]? = some c → c[i]? = some u → ls.flatten[j * size + i]? = some u
  | [], _, j, _, _, _, h, _ => by simp at h
  | c0 :: ls, hs, 0, i, c, u, h, hi => by
    simp only [List.getElem?_cons_zero, Option.some.injEq] at h
    subst h
    have hlt := (List.getElem?_eq_some_iff.1 hi).1
    rw [List.flatten_cons, Nat.zero_mul, Nat.zero_add, List.getElem?_append_left hlt]
    exact hi
  | c0 :: ls, hs, j + 1, i, c, u, h, hi => by
    have h0 := hs c0 (by simp)
    rw [List.getElem?_cons_succ] at h
    have ih := flatten_at (fun c hc => hs c (by simp [hc])) h hi
    rw [List.flatten_cons, List.getElem?_append_right (by rw [h0, Nat.succ_mul]; omega), h0, ← ih]
    congr 1
    rw [Nat.succ_mul]; omega

/-- What a call has laid reads as a list. -/
theorem rowAt_of_owns {α : Type} {size : Nat} {At : World → Nat → Nat → α → Prop} {w : World} {base E n : Nat} {v : Value} {l : List α} {ls : List (List Value)} (hn : n = l.length) (hlen : ls.length = l.length) (h : w.ownsRow base E size v n ls.flatten) (hsz : ∀ c ∈ ls, c.length = size)
    (hat : ∀ (j : Nat) (x : α) (c : List Value), l[j]? = some x → ls[j]? = some c → ∀ b o, b < w.heap.size → CellsAt w b o c → At w b o x) : RowAt size At w v l := by
  subst hn
  obtain ⟨hl, h⟩ := h
  rcases h with ⟨h1, h2⟩ | ⟨g, cap, cur, h1, h2, h3, h4, h5, h6, h7⟩
  · obtain rfl := List.length_eq_zero_iff.1 h2
    rw [h1]; exact RowAt.nil
  · have hlt : g < w.heap.size := (Array.getElem?_eq_some_iff.1 h3).1
    refine ⟨some ⟨g, 0, none⟩, cap, h1, h4, h5, (fun h => by cases h), fun _ => ⟨g, 0, rfl, hlt, fun j x hj => ?_⟩⟩
    have hjl : j < l.length := (List.getElem?_eq_some_iff.1 hj).1
    obtain ⟨c, hc⟩ : ∃ c, ls[j]? = some c := ⟨_, List.getElem?_eq_getElem (by omega)⟩
    refine hat j x c hj hc g _ hlt fun i u hi => ?_
    have hil := (List.getElem?_eq_some_iff.1 hi).1
    have hcl := hsz c (List.mem_of_getElem? hc)
    have h8 := flatten_at hsz hc hi
    rw [← h7, List.getElem?_take_of_lt (by
      have : j * size + size ≤ l.length * size := by rw [← Nat.succ_mul]; exact Nat.mul_le_mul_right _ hjl
      omega)] at h8
    simp only [World.cell?, h3, Nat.zero_add]
    simpa using h8

/-- Things that lie flat: each one's cells. -/
structure FlatG {α : Type} (size : Nat) (At : World → Nat → Nat → α → Prop) (enc : α → List Value) : Prop where
  len : ∀ x, (enc x).length = size
  one : ∀ x, ∀ u ∈ enc x, u.oneCell' = true
  get : ∀ w b o x, At w b o x → CellsAt w b o (enc x)
structure Flat {α : Type} (size : Nat) (At : World → Nat → Nat → α → Prop) (enc : α → List Value) : Prop extends FlatG size At enc where
  put : ∀ w b o x, CellsAt w b o (enc x) → At w b o x

theorem flat_len {α : Type} {size : Nat} {enc : α → List Value} (h : ∀ x, (enc x).length = size) : ∀ l : List α, (l.flatMap enc).length = l.length * size
  | [] => by simp
  | x :: l => by rw [List.flatMap_cons, List.length_append, h, flat_len h l, List.length_cons, Nat.succ_mul]; omega

theorem flat_at {α : Type} {size : Nat} {enc : α → List Value} (h : ∀ x, (enc x).length = size) : ∀ (l : List α) (j : Nat) (u : Value), (l.flatMap enc)[j]? = some u → ∃ k x i, l[k]? = some x ∧ (enc x)[i]? = some u ∧ j = k * size + i
  | [], j, u, hj => by simp at hj
  | x :: l, j, u, hj => by
    rw [List.flatMap_cons] at hj
    by_cases hlt : j < size
    · rw [List.getElem?_append_left (by rw [h]; exact hlt)] at hj
      exact ⟨0, x, j, rfl, hj, by omega⟩
    · rw [List.getElem?_append_right (by rw [h]; omega), h] at hj
      obtain ⟨k, y, i, h1, h2, h3⟩ := flat_at h l _ u hj
      exact ⟨k + 1, y, i, h1, h2, by rw [Nat.succ_mul]; omega⟩

theorem RowAt.of_flatG {α : Type} {size : Nat} {At : World → Nat → Nat → α → Prop} {enc : α → List Value} (hL : ∀ x, (enc x).length = size) {w : World} {base E n : Nat} {v : Value} {l : List α} (hn : n = l.length) (h : w.ownsRow base E size v n (l.flatMap enc)) (hput : ∀ x ∈ l, ∀ b o, CellsAt w b o (enc x) → At w b o x) : RowAt size At w v l := by
  rw [List.flatMap_def] at h
  refine rowAt_of_owns hn (by simp) h (fun c hc => ?_) fun j x c hj hc b o _ hcl => ?_
  · obtain ⟨x, -, rfl⟩ := List.mem_map.1 hc
    exact hL x
  · rw [List.getElem?_map, hj] at hc
    cases hc
    exact hput x (List.mem_of_getElem? hj) _ _ hcl
theorem RowAt.of_flat {α : Type} {size : Nat} {At : World → Nat → Nat → α → Prop} {enc : α → List Value} (hF : Flat size At enc) {w : World} {base E n : Nat} {v : Value} {l : List α} (hn : n = l.length) (h : w.ownsRow base E size v n (l.flatMap enc)) : RowAt size At w v l :=
  RowAt.of_flatG hF.len hn h fun x _ b o => hF.put w b o x

theorem RowAt.src {α : Type} {size : Nat} {At : World → Nat → Nat → α → Prop} {enc : α → List Value} (hF : FlatG size At enc) {w : World} {v : Value} {l : List α} (h : RowAt size At w v l) : SrcAt w size v l.length (l.flatMap enc) := by
  refine ⟨flat_len hF.len l, fun u hu => ?_, ?_⟩
  · obtain ⟨x, -, hx⟩ := List.mem_flatMap.1 hu
    exact hF.one x u hx
  · obtain ⟨pa, cap, rfl, h2, h3, h4, h5⟩ := h
    cases pa with
    | none => obtain rfl := h4 rfl; have h0 : l.length = 0 := (by omega); exact .inl ⟨by rw [h0], h0⟩
    | some ad =>
      refine .inr ⟨ad, cap, rfl, fun j u hj => ?_⟩
      obtain ⟨k, x, i, e1, e2, e3⟩ := flat_at hF.len l j u hj
      obtain ⟨b, o, e4, -, e6⟩ := h5 (by have := (List.getElem?_eq_some_iff.1 e1).1; omega)
      cases e4
      have := hF.get _ _ _ _ (e6 k x e1) i u e2
      rw [addr_add, e3, ← Nat.add_assoc]; exact this

theorem info_size {E : TypeId} {z : Value} {size bytes : Nat} (h : (Try.prog.info? E).map (fun i => (i.zero, i.size, i.bytes)) = some (some z, size, bytes)) (W : World) : (sizeOf E).run Try.prog W = .ok size W := by
  obtain ⟨i0, hi, hz0, hz1, hz2⟩ := info_parts h
  simp [sizeOf, typeInfo, hi, hz1, go_sem]

/-- v[:k] -/
theorem RowAt.hi {α : Type} {At : World → Nat → Nat → α → Prop} {S E : TypeId} {z : Value} {size bytes : Nat} (H : ElemOk S E z size bytes) {w : World} {v : Value} {l : List α} (h : RowAt size At w v l) {k : Nat} (hk : k ≤ l.length) :
    ∃ v1, (∀ W, (Instr.slice S v none (some (.int .i64 (k : Int))) none).run Try.prog W = .ok v1 W) ∧ RowAt size At w v1 (l.take k) := by
  obtain ⟨pa, cap, rfl, h2, h3, h4, h5⟩ := h
  have hu : Try.prog.underlying S = some (.slice (Try.prog.elem S)) := by rw [H.und]; simp [Program.elem, H.und]
  have he : Try.prog.elem S = E := by simp [Program.elem, H.und]
  refine ⟨.slice pa k cap, fun W => ?_, pa, cap, by rw [List.length_take, Nat.min_eq_left hk], by rw [List.length_take]; omega, h3, h4, fun h0 => ?_⟩
  · rw [run_slice_h W S pa l.length cap hu .i64 (k : Int) (by omega) (by omega), he, info_size H.inf]
    simp only [Result.andThen, sliced, Int.toNat_natCast, Nat.sub_zero, Nat.zero_mul]
    cases pa with
    | none => simp
    | some ad => simp [Addr.add]
  · rw [List.length_take] at h0
    obtain ⟨b, o, e1, e2, e3⟩ := h5 (by omega)
    exact ⟨b, o, e1, e2, fun j x hj => e3 j x (by
      have := (List.getElem?_eq_some_iff.1 hj).1
      rw [List.length_take] at this
      rw [List.getElem?_take_of_lt (by omega)] at hj
      exact hj)⟩

theorem RowAt.hi' {α : Type} {size : Nat} {At : World → Nat → Nat → α → Prop} {w : World} {pa : Option Addr} {n c : Nat} {l : List α} (h : RowAt size At w (.slice pa n c) l) {k : Nat} (hk : k ≤ l.length) : RowAt size At w (.slice pa k c) (l.take k) := by
  obtain ⟨pa', cap, e, h2, h3, h4, h5⟩ := h
  cases e
  refine ⟨pa, c, by rw [List.length_take, Nat.min_eq_left hk], by rw [List.length_take]; omega, h3, h4, fun h0 => ?_⟩
  rw [List.length_take] at h0
  obtain ⟨b, o, e1, e2, e3⟩ := h5 (by omega)
  exact ⟨b, o, e1, e2, fun j x hj => e3 j x (by
    have := (List.getElem?_eq_some_iff.1 hj).1
    rw [List.length_take] at this
    rw [List.getElem?_take_of_lt (by omega)] at hj
    exact hj)⟩

/-- v[k:] -/
theorem RowAt.lo {α : Type} {At : World → Nat → Nat → α → Prop} {S E : TypeId} {z : Value} {size bytes : Nat} (H : ElemOk S E z size bytes) {w : World} {v : Value} {l : List α} (h : RowAt size At w v l) {k : Nat} (hk : k ≤ l.length) :
    ∃ v1, (∀ W, (Instr.slice S v (some (.int .i64 (k : Int))) none none).run Try.prog W = .ok v1 W) ∧ RowAt size At w v1 (l.drop k) := by
  obtain ⟨pa, cap, rfl, h2, h3, h4, h5⟩ := h
  have hu : Try.prog.underlying S = some (.slice (Try.prog.elem S)) := by rw [H.und]; simp [Program.elem, H.und]
  have he : Try.prog.elem S = E := by simp [Program.elem, H.und]
  refine ⟨.slice (if cap = k then pa else pa.map (·.add (k * size))) (l.length - k) (cap - k), fun W => ?_, _, cap - k, by rw [List.length_drop], by rw [List.length_drop]; omega, by omega, fun e => ?_, fun h0 => ?_⟩
  · rw [run_slice_l W S pa l.length cap hu .i64 (k : Int) (by omega) (by omega), he, info_size H.inf]
    simp only [Result.andThen, sliced, Int.toNat_natCast]
  · by_cases hc : cap = k
    · omega
    · rw [if_neg hc] at e
      cases pa with
      | none => have := h4 rfl; omega
      | some ad => simp at e
  · rw [List.length_drop] at h0
    obtain ⟨b, o, rfl, e2, e3⟩ := h5 (by omega)
    refine ⟨b, o + k * size, by rw [if_neg (by omega)]; simp [addr_add], e2, fun j x hj => ?_⟩
    rw [List.getElem?_drop] at hj
    have := e3 _ x hj
    rw [Nat.add_mul] at this
    rw [Nat.add_assoc]
    exact this

/-- A list of integers. -/
def IAt (w : World) (b o : Nat) (n : Int) : Prop := w.cell? ⟨b, o, none⟩ = some (.int .i64 n)
theorem keepI : KeepAt IAt := fun w w' b o n hb hlt h => (hb.cell (p := ⟨b, o, none⟩) hlt).trans h
abbrev IRow := RowAt 1 IAt
theorem flatI : Flat 1 IAt (fun n => [Value.int .i64 n]) where
  len := fun _ => rfl
  one := fun x u hu => by simp at hu; subst hu; rfl
  put := fun w b o x h => h 0 _ rfl
  get := fun w b o x h i v hi => by
    match i, hi with
    | 0, hi => cases hi; exact h
theorem IRow.ivec {w : World} {v : Value} {xs : List Int} (h : IRow w v xs) : IVec w v xs := by
  obtain ⟨pa, cap, rfl, h2, h3, h4, h5⟩ := h
  refine ⟨pa, cap, rfl, h2, h3, fun h0 => ?_⟩
  obtain ⟨b, o, e1, e2, e3⟩ := h5 h0
  refine ⟨b, o, e1, e2, fun i hi => ?_⟩
  have := e3 i _ (List.getElem?_eq_getElem hi)
  rw [Nat.mul_one] at this
  have e4 : xs.getD i 0 = xs[i] := by simp [List.getD_eq_getElem?_getD, List.getElem?_eq_getElem hi]
  rw [e4]; exact this
theorem elemInt : ElemOk 39 3 (.int .i64 0) 1 8 := ⟨Try.underlying39, by kernel_rfl, rfl, by decide⟩

end Go.Proofs.Ytnknpgfconfgjaa

/-
  table.Order.
-/
namespace Go.Proofs.Ytnknpgfconfgjaa
open Go.RowKit Stab

theorem append_int {ops : Array Oper} {rest : List Oper} {o : Oper} {a : Act} {Q : Exit → Act → World → Prop} {w : World} (hgd : o.guard = none) (s x : Operand)
    (ho : o.op = .call { callee := .builtin .append, args := #[s, x], argTypes := #[39, 39] })
    (base : Nat) (v : Value) (n : Nat) (zs : List Value) (hs : a.eval s = v) (hown : w.ownsRow base 3 1 v n zs) (g : Nat) (z : Int) (hx : a.eval x = .slice (some ⟨g, 0, none⟩) 1 1) (hc : w.cell? ⟨g, 0, none⟩ = some (.int .i64 z)) (hl : n ≤ 1000000) (hbase : base ≤ w.heap.size)
    (h : ∀ v' w', w'.ownsRow base 3 1 v' (n + 1) (zs ++ [.int .i64 z]) → w.grownBy w' v.ownBlock → wpList Try.prog ops Q rest (a.put o.dst v') w') : wpList Try.prog ops Q (o :: rest) a w := by
  obtain ⟨i0, hi, hz0, hz1, hz2⟩ := info_parts infoInt
  have hcell : ∀ j u, [Value.int .i64 z][j]? = some u → w.cell? ((⟨g, 0, none⟩ : Addr).add j) = some u := by
    intro j u hu
    match j, hu with
    | 0, hu => simp at hu; subst hu; simpa [Addr.add] using hc
  exact wpList_append_own _ hgd s x _ ho base 3 i0 (.int .i64 0) 1 8 Try.underlying39 hi hz0 hz1 hz2 rfl (by decide) v n zs hs hown ⟨g, 0, none⟩ 1 1 [.int .i64 z] hx rfl hcell (fun u hu => by simp at hu; subst hu; rfl) (by unfold maxLen; omega) (by omega) hbase fun v' w' h1 h2 _ => h v' w' h1 h2

/-- A result that reads as integers, of which R is so. -/
def RetOrd (w : World) (R : List Int → Prop) (e : Ending) (w' : World) : Prop := ∃ v xs, e = .returned v ∧ IVec w' v xs ∧ R xs ∧ Below w.heap.size w w'

theorem sel_succ_yes {l : List Ent} {tab : Int} {k : Nat} (h : (eAt l k).tab = tab) : sel l tab (k + 1) = sel l tab k ++ [(k : Int)] := by
  show sel l tab k ++ _ = _; rw [if_pos h]
theorem sel_succ_no {l : List Ent} {tab : Int} {k : Nat} (h : ¬ (eAt l k).tab = tab) : sel l tab (k + 1) = sel l tab k := by
  show sel l tab k ++ _ = _; rw [if_neg h, List.append_nil]

theorem run_makeFunc (fn : Go.Fn) (first cap : Array Value) (w : World) : (Instr.makeFunc fn first cap).run Try.prog w = .ok (.func fn first cap) w := rfl

/-- A row's things as a list. -/
def lsOf (f : Nat → Int) (n : Nat) : List Int := (List.range n).map f
theorem lsOf_len (f : Nat → Int) (n : Nat) : (lsOf f n).length = n := by simp [lsOf]
theorem lsOf_fn (f : Nat → Int) (n i : Nat) (h : i < n) : fnOf (lsOf f n) i = f i := by
  unfold fnOf lsOf; rw [List.getD_eq_getElem?_getD]; simp [h]
theorem isOrd_of {l : List Ent} {tab : Int} {f : Nat → Int} {n : Nat} (hn : n = (sel l tab l.length).length) (h : MrgOk (tot l) (fnOf (sel l tab l.length)) f 0 n) : IsOrd l tab (lsOf f n) where
  len := (lsOf_len f n).trans hn
  srt := fun i j h1 h2 h3 => by
    rw [lsOf_len] at h3
    rw [lsOf_fn f n i (by omega), lsOf_fn f n j h3]; exact h.srt i j h1 h2 h3
  same := fun x => by
    rw [lsOf_len]
    exact (h.same.eq fun i _ hi => lsOf_fn f n i hi) x
theorem iVec_of {V : Int → Prop} {w0 w : World} {g n cap : Nat} {f : Nat → Int} (S : SWd V w0 g n f w) (hc : n ≤ cap) (hm : cap ≤ maxLen) : IVec w (.slice (some ⟨g, 0, none⟩) n cap) (lsOf f n) := by
  refine ⟨some ⟨g, 0, none⟩, cap, by rw [lsOf_len], by rw [lsOf_len]; exact hc, hm, fun _ => ⟨g, 0, rfl, S.glt, fun i hi => ?_⟩⟩
  rw [lsOf_len] at hi
  rw [Nat.zero_add, S.cell i hi]
  have := lsOf_fn f n i hi
  unfold fnOf at this
  rw [this]
theorem swd_of {V : Int → Prop} {w : World} {g n cap : Nat} {cur : Array Value} {zs : List Int} (hz : zs.length = n) (h3 : w.heap[g]? = some (.cells cur 3 (0, 0))) (h4 : n ≤ cap) (h6 : cur.size = cap * 1) (h7 : cur.toList.take (n * 1) = zs.map (Value.int .i64)) (hV : ∀ i, i < n → V (fnOf zs i)) : SWd V w g n (fnOf zs) w := by
  have hlt : g < w.heap.size := (Array.getElem?_eq_some_iff.1 h3).1
  refine ⟨fun i hi => ⟨?_, ?_⟩, World.grownBy.refl w _, hlt, hV⟩
  · simp only [World.cell?, h3]
    have h8 : (cur.toList.take (n * 1))[i]? = some (.int .i64 (fnOf zs i)) := by
      rw [h7]; unfold fnOf; rw [List.getD_eq_getElem?_getD]; simp [hz ▸ hi]
    rw [List.getElem?_take_of_lt (by omega)] at h8
    simpa using h8
  · simp [World.frozen?, h3]

set_option maxRecDepth 100000 in
set_option maxHeartbeats 3200000 in
theorem order_any (l : List Ent) (tab : Int) (lv : Value) (w : World) (hl : ERow w lv l) (hn : l.length ≤ 40) :
    Calls Try.prog 17 #[lv, .int .i64 tab] w (RetOrd w (IsOrd l tab)) := by
  obtain ⟨la, lc, rfl, hc1, hc2⟩ := hl.shape
  have HL := Lib.hid hl
  clear hl
  have hmf := run_makeFunc
  obtain ⟨n, hnn⟩ : ∃ n, n = l.length := ⟨_, rfl⟩
  rw [← hnn] at hn hc1 HL ⊢
  have HN := Lib.hid hnn
  clear hnn
  have hcz : (n : Int) ≤ (lc : Int) := by omega
  go_enter Try.func17, Try.ntmps17
  go_wp2_with fail
  have hb0 : Below w.heap.size w (w.alloc (.cells #[.slice la n lc] 54)) := (by repeat (first | exact Below.refl _ _ | assumption | refine Below.drew ?_ | refine Below.alloc ?_ (by first | omega | (simp <;> omega)) _ | refine Below.setCell ?_ (by first | omega | (simp <;> omega)) _ | refine Below.trans ?_ (Below.mono (by assumption) (by first | omega | (simp <;> omega)))))
  generalize hX : w.alloc (.cells #[.slice la n lc] 54) = X at hb0
  have hbx : X.cell? ⟨w.heap.size, 0, none⟩ = some (.slice la n lc) := by rw [← hX]; simp [go_sem]
  have hsx : X.heap.size = w.heap.size + 1 := by rw [← hX]; simp
  have hbelow : ∀ W, Below X.heap.size X W → Below w.heap.size w W ∧ W.cell? ⟨w.heap.size, 0, none⟩ = some (.slice la n lc) := fun W hW => ⟨hb0.trans (hW.mono hb0.size), (hW.cell (p := ⟨w.heap.size, 0, none⟩) (by rw [hsx]; exact Nat.lt_succ_self _)).trans hbx⟩
  have HX := Lib.hid hbelow
  have HSX := Lib.hid hsx
  clear hX hb0 hbelow hsx
  go_loopw [4, 5, 6, 9] (fun v u u' i wr => ∃ k : Nat, k ≤ n ∧ i = .int .i64 k ∧ Hid (wr.ownsRow X.heap.size 3 1 v (sel l tab k).length ((sel l tab k).map (Value.int .i64))) ∧ Hid (Below X.heap.size X wr)) (fun _ _ _ i _ => n - (intOf i).toNat)
  case atStart => exact ⟨0, Nat.zero_le _, rfl, ⟨by simp [sel], .inl ⟨rfl, rfl⟩⟩, Below.refl _ _⟩
  case round =>
    obtain ⟨k, hk, rfl, HO, HW⟩ := hrel
    by_cases hlt : k < n
    · obtain ⟨lb, lo, lc', he, hlb, hek⟩ := (HL.out.below keepE (HX.out _ HW.out).1).at (eAt_nat l k (by have := HN.out; omega))
      simp only [Value.slice.injEq] at he
      obtain ⟨rfl, -, -⟩ := he
      obtain ⟨p1, n1, c1, r1, m1, d1, a0, a1, a2, a3, a4, a5, -, -⟩ := hek.six
      obtain ⟨t1, e1⟩ : ∃ t, t = (eAt l k).tab := ⟨_, rfl⟩
      rw [← e1] at a0
      have HE := Lib.hid e1
      have z1 : (k : Int) < (n : Int) := by omega
      clear hek e1
      by_cases ht : t1 = tab
      · subst ht
        have HS : Hid (sel l t1 (k + 1) = sel l t1 k ++ [(k : Int)]) := sel_succ_yes HE.out.symm
        have HSL := Lib.hid (sel_len l t1 k)
        have HLN : Hid ((sel l t1 k).length ≤ 1000000) := by show _ ≤ _; have := HSL.out; omega
        have HZ : Hid (X.heap.size ≤ wr.heap.size) := HW.out.size
        go_wp2_with (refine append_int rfl (.tmp 18) (.tmp 20) rfl X.heap.size u4 _ _ rfl ((HO.out.alloc _).alloc _) (wr.heap.size + 1) (k : Int) rfl (by simp [go_sem]) HLN.out (by have := HZ.out; simp only [World.size_alloc]; omega) ?_; intro v' w' h1 h2; have HO2 := Lib.hid h1; have HW2 : Hid (Below X.heap.size X w') := below_grown ((HW.out.alloc HZ.out _).alloc (by have := HZ.out; simp only [World.size_alloc]; omega) _) ((HO.out.alloc _).alloc _) h2 (Nat.le_refl _) (by have := HZ.out; simp only [World.size_alloc]; omega); clear h1 h2)
        go_roundw
        case rel => exact ⟨k + 1, by omega, by go_num, by have := HO2.out; show World.ownsRow _ _ _ _ _ _ _; rw [HS.out]; simpa using this, HW2⟩
        case measure => simp [intOf]; omega
      · have HS : Hid (sel l tab (k + 1) = sel l tab k) := sel_succ_no (fun q => ht (HE.out.trans q))
        have hne : (t1 == tab) = false := by rw [beq_eq_false_iff_ne]; exact ht
        have HO2 : ∀ o, Hid ((wr.alloc o).ownsRow X.heap.size 3 1 u4 (sel l tab (k + 1)).length ((sel l tab (k + 1)).map (Value.int .i64))) := fun o => by rw [HS.out]; exact HO.out.alloc _
        have HW2 : ∀ o, Hid (Below X.heap.size X (wr.alloc o)) := fun o => HW.out.alloc HW.out.size o
        go_wp2_with fail
        go_roundw
        case rel => exact ⟨k + 1, by omega, by go_num, HO2 _, HW2 _⟩
        case measure => simp [intOf]; omega
    · obtain rfl : k = n := by omega
      have hval := HO.out.2
      have HV : Hid (∀ i, i < (sel l tab k).length → (0 ≤ fnOf (sel l tab k) i ∧ fnOf (sel l tab k) i < (l.length : Int))) := fun i hi => by
        have := sel_lt l tab hi; have h2 := HN.out; unfold fnOf; omega
      have HASC : Hid (∀ p q, p < q → q < (sel l tab k).length → fnOf (sel l tab k) p < fnOf (sel l tab k) q) := sel_asc l tab k
      have HLEN := Lib.hid (sel_len l tab k)
      rcases hval with ⟨rfl, he⟩ | ⟨g, cap, cur, rfl, q2, q3, q4, q5, q6, q7⟩
      · have h0 : (sel l tab k).length = 0 := by simpa using he
        have HH0 := Lib.hid h0
        clear he h0
        go_wp2_with fail
        refine (sort_nil none 0 _ _).mono ?_
        rintro e w1 ⟨rfl, rfl⟩
        go_wp2_with fail
        go_ret
        refine ⟨_, [], rfl, IVec.nil _, ⟨by rw [← HN.out]; exact HH0.out.symm, fun i j _ _ h => by simp at h, fun x => ⟨fun ⟨i, _, h, _⟩ => by simp at h, fun ⟨i, _, h, _⟩ => by simp at h⟩⟩, (HX.out _ HW.out).1⟩
      · have HO1 := Lib.hid (And.intro q2 (And.intro q3 (And.intro q4 (And.intro q5 (And.intro q6 q7)))))
        clear q2 q3 q4 q5 q6 q7
        have hcm := fun (i j : Nat) (W : World) (h1 : i < l.length) (h2 : j < l.length) (hW : Below X.heap.size X W) => cmp_any l (.slice la k lc) w.heap.size i j W (HL.out.below keepE (HX.out W hW).1) (by have := HN.out; omega) h1 h2 (HX.out W hW).2
        have HC : Hid (CmpOk (fun x => 0 ≤ x ∧ x < (l.length : Int)) wr g 34 #[.pointer (some ⟨w.heap.size, 0, none⟩)] (cmpE l)) := by
          refine ⟨fun av W => by kernel_rfl, fun W hW x y hx hy => ?_⟩
          obtain ⟨i, rfl⟩ : ∃ i : Nat, x = (i : Int) := ⟨x.toNat, by omega⟩
          obtain ⟨j, rfl⟩ : ∃ j : Nat, y = (j : Int) := ⟨y.toNat, by omega⟩
          exact hcm i j W (by omega) (by omega) (HW.out.grown hW HW.out.size (fun q h => by cases h; exact HO1.out.1))
        have HK : Hid (Calls Try.prog 33 #[.slice (some ⟨g, 0, none⟩) (sel l tab k).length cap, .func (.func 34) #[] #[.pointer (some ⟨w.heap.size, 0, none⟩)]] wr (SOk (fun x => 0 ≤ x ∧ x < (l.length : Int)) wr g (sel l tab k).length (fun f' => MrgOk (tot l) (fnOf (sel l tab k)) f' 0 (sel l tab k).length))) :=
          sort_any _ (tot l) (tot_ord l) wr g _ cap _ _ (cmpE l) HC.out (fun x y h => cmpE_neg h) (fnOf (sel l tab k)) wr (by have := HLEN.out; omega) HASC.out (swd_of rfl HO1.out.2.1 HO1.out.2.2.1 HO1.out.2.2.2.2.1 HO1.out.2.2.2.2.2 HV.out)
        clear hcm
        obtain ⟨z, hz⟩ : ∃ z, z = (sel l tab k).length := ⟨_, rfl⟩
        rw [← hz] at HK ⊢
        have HZ := Lib.hid hz
        clear hz
        go_wp2_with fail
        refine HK.out.mono ?_
        rintro e w1 ⟨rfl, f1, S1, M1⟩
        have HS := Lib.hid S1
        have HM := Lib.hid M1
        clear S1 M1 HK
        go_wp2_with fail
        go_ret
        have hB1 : Below X.heap.size X w1 := HW.out.grown HS.out.gr HW.out.size (fun q h => by cases h; exact HO1.out.1)
        exact ⟨_, lsOf f1 z, rfl, iVec_of HS.out (by rw [HZ.out]; exact HO1.out.2.2.1) HO1.out.2.2.2.1, isOrd_of (by rw [← HN.out]; exact HZ.out) (by rw [← HN.out]; exact HM.out), (HX.out _ hB1).1⟩

end Go.Proofs.Ytnknpgfconfgjaa

/-
  The document's Matches.
-/
namespace Go.Proofs.Ytnknpgfconfgjaa
open Go.RowKit

set_option maxRecDepth 100000 in
set_option maxHeartbeats 3200000 in
theorem refMatches_any (e : Ent) (tab : Int) (ks : List Nat) (ev kv : Value) (w : World) (he : EntV w ev e) (hk : NRow w kv ks) (hpl : e.pats.length ≤ 1000000) :
    Calls Try.prog 16 #[ev, .int .i64 tab, kv] w fun r w' => r = .returned (.bool (matB e tab ks)) ∧ Below w.heap.size w w' := by
  obtain ⟨pv, av, rfl, hp, ha⟩ := he
  obtain ⟨pp, pc, rfl, p1, p2⟩ := hp.shape
  obtain ⟨kp, kc, rfl, k1, k2⟩ := hk.shape
  obtain ⟨ap, ac, rfl, a1, a2⟩ := ha.shape
  obtain ⟨tb, pats, ln, pr, act, args⟩ := e
  simp only at hp ha p1 p2 a1 a2 hpl ⊢
  have HP := Lib.hid hp
  have HK := Lib.hid hk
  clear hp hk ha
  by_cases h1 : tb = tab
  · subst h1
    by_cases h2 : pats.length = ks.length
    · have HT : Hid ((∀ (k : Nat) (p : Pt) (n : Nat), pats[k]? = some p → ks[k]? = some n → agr p n = true) → matB ⟨tb, pats, ln, pr, act, args⟩ tb ks = true) := fun h => matB_yes rfl h2 h
      have HF : Hid (∀ (k n : Nat) (p : Pt), pats[k]? = some p → ks[k]? = some n → agr p n = false → matB ⟨tb, pats, ln, pr, act, args⟩ tb ks = false) := fun k n p q1 q2 q3 => matB_not q1 q2 q3
      obtain ⟨n, hn⟩ : ∃ n, n = pats.length := ⟨_, rfl⟩
      have hn2 : n = ks.length := hn.trans h2
      rw [← hn] at hpl p1 ⊢
      rw [← hn2] at k1 ⊢
      have HN := Lib.hid hn
      have HN2 := Lib.hid hn2
      have hpc : (n : Int) ≤ (pc : Int) := by omega
      clear hn hn2 h2
      go_enter Try.func16, Try.ntmps16
      go_wp2_with fail
      have hb0 : Below w.heap.size w (w.alloc (.cells #[.int .i64 tb, .slice pp n pc, .int .i64 ln, .int .i64 pr, .int .i64 act, .slice ap args.length ac] 60)) := (by repeat (first | exact Below.refl _ _ | assumption | refine Below.drew ?_ | refine Below.alloc ?_ (by first | omega | (simp <;> omega)) _ | refine Below.setCell ?_ (by first | omega | (simp <;> omega)) _ | refine Below.trans ?_ (Below.mono (by assumption) (by first | omega | (simp <;> omega)))))
      generalize hX : w.alloc (.cells #[.int .i64 tb, .slice pp n pc, .int .i64 ln, .int .i64 pr, .int .i64 act, .slice ap args.length ac] 60) = X at hb0
      have hbx : X.cell? ⟨w.heap.size, 1, none⟩ = some (.slice pp n pc) := by rw [← hX]; simp [go_sem]
      have hsx : w.heap.size < X.heap.size := by rw [← hX]; simp
      have HX : Hid (∀ W, Below X.heap.size X W → Below w.heap.size w W ∧ W.cell? ⟨w.heap.size, 1, none⟩ = some (.slice pp n pc)) := fun W hW => ⟨hb0.trans (hW.mono hb0.size), (hW.cell (p := ⟨w.heap.size, 1, none⟩) hsx).trans hbx⟩
      clear hX hb0 hbx
      go_loopw [7, 8] (fun u i wr => ∃ (k : Nat) (r : Bool), k ≤ n ∧ i = .int .i64 k ∧ u = .bool r ∧ Hid ((r = true → ∀ (j : Nat) (p : Pt) (x : Nat), j < k → pats[j]? = some p → ks[j]? = some x → agr p x = true) ∧ (r = false → matB ⟨tb, pats, ln, pr, act, args⟩ tb ks = false)) ∧ Hid (Below X.heap.size X wr)) (fun _ i _ => n - (intOf i).toNat)
      case atStart => exact ⟨0, true, by omega, rfl, rfl, ⟨fun _ j _ _ h => absurd h (by omega), fun h => by cases h⟩, Below.refl _ _⟩
      case round =>
        obtain ⟨k, r, hkn, rfl, rfl, HJ, HW⟩ := hrel
        cases r
        · go_wp2_with fail
          go_ret
          exact ⟨by rw [HJ.out.2 (by trivial)]; rfl, (HX.out _ HW.out).1⟩
        by_cases hlt : k < n
        · obtain ⟨p, hp⟩ : ∃ p, pats[k]? = some p := ⟨_, List.getElem?_eq_getElem (by have := HN.out; omega)⟩
          obtain ⟨x, hx⟩ : ∃ x, ks[k]? = some x := ⟨_, List.getElem?_eq_getElem (by have := HN2.out; omega)⟩
          obtain ⟨pb, po, pc', hpe, hpb, ⟨pv0, pc0, pc1⟩, ⟨pm0, pc2, pc3⟩⟩ := (HP.out.below keepP (HX.out _ HW.out).1).at hp
          obtain ⟨kb, ko, kc', hke, hkb, kx0, kc0, kc1⟩ := (HK.out.below keepN (HX.out _ HW.out).1).at hx
          simp only [Value.slice.injEq] at hpe hke
          obtain ⟨rfl, -, -⟩ := hpe
          obtain ⟨rfl, -, -⟩ := hke
          obtain ⟨v, m⟩ := p
          simp only at pv0 pc0 pc1 pm0 pc2 pc3
          have HC : Hid (∀ W, Calls Try.prog 32 #[.agg #[.int .u64 ((v / B : Nat) : Int), .int .u64 ((v % B : Nat) : Int), .int .u64 ((m / B : Nat) : Int), .int .u64 ((m % B : Nat) : Int)], .agg #[.int .u64 ((x / B : Nat) : Int), .int .u64 ((x % B : Nat) : Int)]] W fun e w' => e = .returned (.bool (agr ⟨v, m⟩ x)) ∧ Below W.heap.size W w') := fun W => refAgrees_any ⟨v, m⟩ x W kx0 pv0 pm0
          obtain ⟨q0, e0⟩ : ∃ q : Int, q = ((v / B : Nat) : Int) := ⟨_, rfl⟩
          obtain ⟨q1, e1⟩ : ∃ q : Int, q = ((v % B : Nat) : Int) := ⟨_, rfl⟩
          obtain ⟨q2, e2⟩ : ∃ q : Int, q = ((m / B : Nat) : Int) := ⟨_, rfl⟩
          obtain ⟨q3, e3⟩ : ∃ q : Int, q = ((m % B : Nat) : Int) := ⟨_, rfl⟩
          obtain ⟨q4, e4⟩ : ∃ q : Int, q = ((x / B : Nat) : Int) := ⟨_, rfl⟩
          obtain ⟨q5, e5⟩ : ∃ q : Int, q = ((x % B : Nat) : Int) := ⟨_, rfl⟩
          rw [← e0, ← e1, ← e2, ← e3, ← e4, ← e5] at HC
          rw [← e0] at pc0
          rw [← e1] at pc1
          rw [← e2] at pc2
          rw [← e3] at pc3
          replace pc3 : wr.cell? ⟨pb, po + k * 4 + 3, none⟩ = some (.int .u64 q3) := pc3
          rw [← e4] at kc0
          rw [← e5] at kc1
          have HPK := Lib.hid (And.intro hp hx)
          obtain ⟨r, hr⟩ : ∃ r, r = agr ⟨v, m⟩ x := ⟨_, rfl⟩
          rw [← hr] at HC
          have HR := Lib.hid hr
          have hbc := (HX.out _ HW.out).2
          have hx := Lib.hid (And.intro (below_drewN (Below.refl wr.heap.size wr) 1) (And.intro hbc (And.intro pc0 (And.intro pc1 (And.intro pc2 (And.intro pc3 (And.intro kc0 kc1)))))))
          clear e0 e1 e2 e3 e4 e5 hp pv0 pm0 kx0 hr
          have z1 : (k : Int) < (n : Int) := by omega
          have z0 : (0 : Int) ≤ (k : Int) := by omega
          go_wp2_with fail
          go_region_held3 (fun Wk => Below (wr.heap.size) (wr) Wk ∧ Wk.cell? ⟨w.heap.size, 1, none⟩ = some (.slice (some ⟨pb, po, none⟩) n pc) ∧ Wk.cell? ⟨pb, po + k * 4, none⟩ = some (.int .u64 q0) ∧ Wk.cell? ⟨pb, po + k * 4 + 1, none⟩ = some (.int .u64 q1) ∧ Wk.cell? ⟨pb, po + k * 4 + 2, none⟩ = some (.int .u64 q2) ∧ Wk.cell? ⟨pb, po + k * 4 + 3, none⟩ = some (.int .u64 q3) ∧ Wk.cell? ⟨kb, ko + k * 2, none⟩ = some (.int .u64 q4) ∧ Wk.cell? ⟨kb, ko + k * 2 + 1, none⟩ = some (.int .u64 q5))
            (first | exact hx.out | exact held_7_0 hb1 (by assumption) | assumption)
            (first
            | (go_at_call 32; (with_reducible refine (HC.out _).mono ?_); rintro e w1 ⟨rfl, hb1⟩))
          rename_i hS
          have HW1 : Hid (Below X.heap.size X w1) := HW.out.trans (hS.1.mono HW.out.size)
          clear hS hx hb1 HW HC hbc pc0 pc1 pc2 pc3 kc0 kc1
          go_wp2_with fail
          go_roundw
          case rel =>
            refine ⟨k + 1, r, by omega, by go_num, rfl, ⟨fun hr j p' x' hj h1 h2 => ?_, fun hr => HF.out k x ⟨v, m⟩ HPK.out.1 HPK.out.2 (HR.out.symm.trans hr)⟩, HW1⟩
            by_cases e : j = k
            · subst e
              rw [HPK.out.1] at h1
              rw [HPK.out.2] at h2
              cases h1
              cases h2
              exact HR.out.symm.trans hr
            · exact HJ.out.1 (by trivial) j p' x' (by omega) h1 h2
          case measure => simp [intOf]; omega
        · obtain rfl : k = n := by omega
          go_wp2_with fail
          go_ret
          exact ⟨by rw [HT.out fun k p x q1 q2 => HJ.out.1 (by trivial) k p x (by have := (List.getElem?_eq_some_iff.1 q1).1; have := HN.out; omega) q1 q2]; rfl, (HX.out _ HW.out).1⟩
    · have HE : Hid (matB ⟨tb, pats, ln, pr, act, args⟩ tb ks = false) := matB_len h2
      have hne : ¬ ((pats.length : Nat) : Int) = ((ks.length : Nat) : Int) := by omega
      have hne2 : (((pats.length : Nat) : Int) == ((ks.length : Nat) : Int)) = false := by rw [beq_eq_false_iff_ne]; exact hne
      clear h2
      go_enter Try.func16, Try.ntmps16
      go_wp2_with fail
      refine wp_loop_rounds 1 ?_
      rw [rounds_succ]
      go_wp2_with fail
      go_ret
      exact ⟨by rw [HE.out]; rfl, (by repeat (first | exact Below.refl _ _ | assumption | refine Below.drew ?_ | refine Below.alloc ?_ (by first | omega | (simp <;> omega)) _ | refine Below.setCell ?_ (by first | omega | (simp <;> omega)) _ | refine Below.trans ?_ (Below.mono (by assumption) (by first | omega | (simp <;> omega)))))⟩
  · have HE : Hid (matB ⟨tb, pats, ln, pr, act, args⟩ tab ks = false) := matB_tab h1
    have hne2 : (tb == tab) = false := by rw [beq_eq_false_iff_ne]; exact h1
    go_enter Try.func16, Try.ntmps16
    go_wp2_with fail
    refine wp_loop_rounds 1 ?_
    rw [rounds_succ]
    go_wp2_with fail
    go_ret
    exact ⟨by rw [HE.out]; rfl, (by repeat (first | exact Below.refl _ _ | assumption | refine Below.drew ?_ | refine Below.alloc ?_ (by first | omega | (simp <;> omega)) _ | refine Below.setCell ?_ (by first | omega | (simp <;> omega)) _ | refine Below.trans ?_ (Below.mono (by assumption) (by first | omega | (simp <;> omega)))))⟩

end Go.Proofs.Ytnknpgfconfgjaa

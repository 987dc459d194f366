/-
  Lemmas, joined: Out, MayA, MayB, MayB2.
-/
import Derived.Test.YtehcclcokgmplaaJA01
import Derived.RegionTactic
import Derived.Outline
import Derived.Test.YtehcclcokgmplaaJA02
import Derived.LoopN
import Derived.Deep.Cut
/-
  A region that draws its order, operation by operation: what each one yields, whatever has been done; guards that are not so; calls that make memory.
-/
namespace Go.Proofs.Ytehcclcokgmplaa
open Go.RowKit

/-! ### the invariant over what has been done -/
def didO (L : Array Bool) (i : Nat) : Bool := L.getD i false
theorem didO_set {L : Array Bool} {i j : Nat} (hi : i < L.size) : didO (L.setIfInBounds i true) j = (decide (j = i) || didO L j) := by
  unfold didO
  by_cases h : i = j
  · subst h
    simp [hi]
  · rw [getD_set_ne false h]
    have : decide (j = i) = false := by simp; omega
    rw [this, Bool.false_or]
theorem didO_none (n i : Nat) : didO (Array.replicate n false) i = false := by
  unfold didO
  rw [Array.getD_eq_getD_getElem?, Array.getElem?_replicate]
  split <;> rfl
theorem filterO_le {p q : Nat → Bool} (h : ∀ j, q j = true → p j = true) : ∀ l : List Nat, (l.filter q).length ≤ (l.filter p).length
  | [] => Nat.le_refl _
  | x :: l => by
    have ih := filterO_le h l
    rw [List.filter_cons, List.filter_cons]
    cases hq : q x
    · simp only [Bool.false_eq_true, if_false]
      split
      · simp only [List.length_cons]; omega
      · exact ih
    · rw [h x hq]
      simp only [if_true, List.length_cons]
      omega
theorem filterO_lt {p q : Nat → Bool} (h : ∀ j, q j = true → p j = true) {i : Nat} (hp : p i = true) (hq : q i = false) : ∀ l : List Nat, i ∈ l → (l.filter q).length < (l.filter p).length
  | [], hi => by cases hi
  | x :: l, hi => by
    rw [List.filter_cons, List.filter_cons]
    by_cases e : x = i
    · subst e
      have := filterO_le h l
      rw [hp, hq]
      simp only [Bool.false_eq_true, if_false, if_true, List.length_cons]
      omega
    · have ih := filterO_lt h hp hq l (by
        rcases List.mem_cons.1 hi with h1 | h1
        · exact absurd h1.symm e
        · exact h1)
      cases hq' : q x
      · simp only [Bool.false_eq_true, if_false]
        split
        · simp only [List.length_cons]; omega
        · exact ih
      · rw [h x hq']
        simp only [if_true, List.length_cons]
        omega

theorem wpAny_invO {P : Program} {md : Region.Mode} {ops : Array Oper} {Q : Exit → Act → World → Prop} (I : Array Bool → Act → World → Prop)
    (hstep : ∀ L a w i, L.size = ops.size → i < ops.size → didO L i = false → (∀ o, ops[i]? = some o → ∀ e ∈ o.after, Region.binds md e = true → didO L e.on = true) → I L a w → wpOp P ops Q i (I (L.setIfInBounds i true)) a w)
    (hend : ∀ L a w, L.size = ops.size → Region.ready md ops L = [] → I L a w → Q .normal a w) :
    ∀ (n : Nat) (L : Array Bool) (a : Act) (w : World), L.size = ops.size → (∀ i, i < ops.size → didO L i = false → 0 < n) → ((List.range ops.size).filter fun i => !didO L i).length ≤ n → I L a w → wpAny P md ops Q n L a w := by
  intro n
  induction n with
  | zero =>
    intro L a w hL hn hlen hI
    have hr : Region.ready md ops L = [] := by
      rw [List.eq_nil_iff_forall_not_mem]
      intro i hi
      obtain ⟨h1, o, ho, -⟩ := mem_ready.1 hi
      have hlt : i < ops.size := (Array.getElem?_eq_some_iff.1 ho).1
      have : didO L i = false := by unfold didO; simpa [hL, hlt] using h1
      exact absurd (hn i hlt this) (by omega)
    exact ⟨hr, hend L a w hL hr hI⟩
  | succ n ih =>
    intro L a w hL hn hlen hI
    refine ⟨fun hr => hend L a w hL hr hI, fun i hi => ?_⟩
    obtain ⟨h1, o, ho, hall⟩ := mem_ready.1 hi
    have hlt : i < ops.size := (Array.getElem?_eq_some_iff.1 ho).1
    have hd : didO L i = false := by unfold didO; simpa [hL, hlt] using h1
    refine wpOp_mono (fun a' w' hI' => ?_) (hstep L a w i hL hlt hd (fun o' ho' e he hb => by rw [ho] at ho'; cases ho'; exact hall e he hb) hI)
    have hset : ((List.range ops.size).filter fun j => !didO (L.setIfInBounds i true) j).length < ((List.range ops.size).filter fun j => !didO L j).length := by
      refine filterO_lt (fun j hj => ?_) (i := i) (by simp [hd]) (by rw [didO_set (by omega)]; simp) _ (List.mem_range.2 hlt)
      rw [didO_set (by omega)] at hj
      cases h : didO L j
      · rfl
      · rw [h] at hj; simp at hj
    refine ih _ a' w' (by simpa using hL) (fun j hj hdj => ?_) (by omega) hI'
    rcases Nat.eq_zero_or_pos n with h0 | h0
    · exfalso
      have hm : j ∈ (List.range ops.size).filter fun j => !didO (L.setIfInBounds i true) j := by
        rw [List.mem_filter, List.mem_range]
        exact ⟨hj, by simp [hdj]⟩
      have := List.length_pos_of_mem hm
      omega
    · exact h0

theorem wp_region_invO {P : Program} {ops : Array Oper} {Q : Exit → Act → World → Prop} {id : Nat} {a : Act} {w : World} (hm : P.follows .mixedOrders = true) (I : Array Bool → Act → World → Prop)
    (h0 : I (Array.replicate ops.size false) a w.drew)
    (hstep : ∀ L a w i, L.size = ops.size → i < ops.size → didO L i = false → (∀ o, ops[i]? = some o → ∀ e ∈ o.after, Region.binds .any e = true → didO L e.on = true) → I L a w → wpOp P ops Q i (I (L.setIfInBounds i true)) a w)
    (hback : ∀ (i : Nat) (o : Oper), ops[i]? = some o → ∀ e ∈ o.after, Region.binds .any e = true → e.on < i)
    (hend : ∀ L a w, (∀ i, i < ops.size → didO L i = true) → I L a w → Q .normal a w) : (Code.region id ops true).wp P Q a w := by
  refine wp_region_any hm (wpAny_invO I hstep (fun L a w hL hr hI => hend L a w ?_ hI) ops.size _ a _ (by simp) (fun i hi _ => by omega) ?_ h0)
  · intro i
    induction i using Nat.strongRecOn with
    | _ i ih =>
      intro hi
      cases hd : didO L i
      · exfalso
        have : i ∈ Region.ready .any ops L := by
          rw [mem_ready]
          refine ⟨?_, ops[i], Array.getElem?_eq_getElem hi, fun e he hb => ?_⟩
          · unfold didO at hd
            simpa [hL, hi] using hd
          · have hlt := hback i _ (Array.getElem?_eq_getElem hi) e he hb
            exact ih e.on hlt (by omega)
        rw [hr] at this
        cases this
      · rfl
  · exact Nat.le_trans (List.length_filter_le _ _) (by simp)

/-! ### what operations yield -/

/-- What is known of what an operation yields: a value; something of it in memory; a function of what others yield. -/
inductive Out
  | eq (v : Value)
  | rel (p : World → Value → Prop)
  | fn (js : List Nat) (F : List Value → Value)
def Out.js : Out → List Nat
  | .fn js _ => js
  | _ => []
def Out.ok (l : Nat → Value) (w : World) (v : Value) : Out → Prop
  | .eq u => v = u
  | .rel p => p w v
  | .fn js F => v = F (js.map l)
def Out.val (x : Value) : Out → Value
  | .eq v => v
  | _ => x
def Out.keeps : Out → Prop
  | .rel p => ∀ w w' v, p w v → Below w.heap.size w w' → p w' v
  | _ => True

def depsOf (o : Oper) : List Nat := (o.after.toList.filter fun e => Region.binds .any e).map (·.on)
def dstOf (ops : Array Oper) (j : Nat) : Option Tmp := (ops[j]?).bind (·.dst)
def writes (ops : Array Oper) (s : Tmp) : Bool := ops.toList.any fun o => o.dst == some s
def tmpsOf (o : Oper) : List Tmp := o.op.operands.toList.filterMap fun | .tmp t => some t | _ => none

/-- One operation is as is asked: its edges go back; its slots are of the region's own operations that it hangs on, or of none; its own slot is no other's. -/
def chkO (ops : Array Oper) (N i : Nat) (js : List Nat) (o : Oper) : Bool :=
  (depsOf o).all (fun j => decide (j < i)) && js.all (fun j => (depsOf o).contains j) &&
  (tmpsOf o).all (fun t => !writes ops t || (depsOf o).any (fun j => dstOf ops j == some t)) &&
  (match o.guard with | none => true | some (g, _) => (depsOf o).contains g && (dstOf ops g).isSome) &&
  (match o.op with | .select _ _ => false | _ => true) &&
  (match o.dst with | none => true | some d => decide (d < N) && (List.range ops.size).all (fun j => decide (j = i) || !(dstOf ops j == some d)))
def chkAll (ops : Array Oper) (N : Nat) (js : List (List Nat)) : Bool :=
  decide (js.length = ops.size) && (List.range ops.size).all (fun i => match ops[i]? with | none => true | some o => chkO ops N i (js.getD i []) o)

/-- What an operation stands on. -/
structure AtO (S : World → Prop) (Ks : List Out) (ops : Array Oper) (a0 : Act) (o : Oper) (a : Act) (w : World) (l : Nat → Value) : Prop where
  inv : S w
  old : ∀ t, writes ops t = false → a.eval (.tmp t) = a0.eval (.tmp t)
  dep : ∀ j, (depsOf o).contains j = true → ∀ d, dstOf ops j = some d → a.eval (.tmp d) = l j
  ok : ∀ j, (depsOf o).contains j = true → ∀ k, Ks[j]? = some k → k.ok l w (l j)
  yield : ∀ g b, o.guard = some (g, b) → yielded ops a.tmps g = (match l g with | .bool b => some b | _ => none)

/-- What is shown of an operation. -/
def OutStep (P : Program) (ops : Array Oper) (Q : Exit → Act → World → Prop) (o : Oper) (k : Out) (l : Nat → Value) (a : Act) (w : World) : Prop :=
  if Region.wanted o (yielded ops a.tmps) then ∀ K : Act → World → Prop, (∀ v w', Below w.heap.size w w' → k.ok l w' v → K (a.put o.dst v) w') → o.wp P a w K Q else k.ok l w undef

/-- The frame behind all. -/
def layO (a0 : Act) (l : Nat → Value) : List Out → List Oper → Nat → Act
  | k :: ks, o :: os, i => layO (a0.put o.dst (k.val (l i))) l ks os (i + 1)
  | _, _, _ => a0

structure FrO (ops : Array Oper) (a0 : Act) (L : Array Bool) (l : Nat → Value) (a : Act) : Prop where
  df : a.defers = a0.defers
  sz : a.tmps.size = a0.tmps.size
  old : ∀ s, (∀ j, didO L j = true → dstOf ops j ≠ some s) → a.tmps[s]? = a0.tmps[s]?
  new : ∀ j d, didO L j = true → dstOf ops j = some d → a.tmps[d]? = some (l j)

structure InO (S : World → Prop) (Ks : List Out) (ops : Array Oper) (a0 : Act) (L : Array Bool) (l : Nat → Value) (a : Act) (w : World) : Prop where
  ls : L.size = ops.size
  fr : FrO ops a0 L l a
  inv : S w
  ok : ∀ i, didO L i = true → ∀ k, Ks[i]? = some k → k.ok l w (l i)
  dp : ∀ i o, didO L i = true → ops[i]? = some o → ∀ j ∈ depsOf o, didO L j = true

theorem layO_at {a0 : Act} {l : Nat → Value} : ∀ (ks : List Out) (os : List Oper) (i : Nat) (a : Act) (s : Tmp), ks.length = os.length → (∀ (x : Nat) (o : Oper), os[x]? = some o → o.dst ≠ some s) → (layO a l ks os i).tmps[s]? = a.tmps[s]? ∧ (layO a l ks os i).tmps.size = a.tmps.size ∧ (layO a l ks os i).defers = a.defers
  | [], os, _, _, _, _, _ => by unfold layO; exact ⟨rfl, rfl, rfl⟩
  | k :: ks, [], _, _, _, _, _ => by unfold layO; exact ⟨rfl, rfl, rfl⟩
  | k :: ks, o :: os, i, a, s, hl, h => by
    unfold layO
    obtain ⟨h1, h2, h3⟩ := layO_at (a0 := a0) (l := l) ks os (i + 1) (a.put o.dst (k.val (l i))) s (by simpa using hl) (fun x o ho => h (x + 1) o (by simpa using ho))
    have h0 := h 0 o (by simp)
    cases hd : o.dst with
    | none => rw [hd] at h1 h2 h3; exact ⟨h1, h2, h3⟩
    | some d =>
      rw [hd] at h1 h2 h3 h0
      refine ⟨h1.trans ?_, h2.trans (by simp [Act.put]), h3⟩
      simp only [Act.put]
      rw [Array.getElem?_setIfInBounds_ne (fun e => h0 (by rw [e]))]
theorem layO_sz {l : Nat → Value} : ∀ (ks : List Out) (os : List Oper) (i : Nat) (a : Act), (layO a l ks os i).tmps.size = a.tmps.size ∧ (layO a l ks os i).defers = a.defers
  | [], os, _, _ => by unfold layO; exact ⟨rfl, rfl⟩
  | k :: ks, [], _, _ => by unfold layO; exact ⟨rfl, rfl⟩
  | k :: ks, o :: os, i, a => by
    unfold layO
    obtain ⟨h2, h3⟩ := layO_sz (l := l) ks os (i + 1) (a.put o.dst (k.val (l i)))
    refine ⟨h2.trans ?_, h3.trans ?_⟩ <;> cases o.dst <;> simp [Act.put]
theorem layO_new {l : Nat → Value} : ∀ (ks : List Out) (os : List Oper) (i : Nat) (a : Act) (x : Nat) (o : Oper) (k : Out) (d : Tmp), ks.length = os.length → ks[x]? = some k → os[x]? = some o → o.dst = some d → d < a.tmps.size → (∀ (y : Nat) (o' : Oper), y ≠ x → os[y]? = some o' → o'.dst ≠ some d) →
    (layO a l ks os i).tmps[d]? = some (k.val (l (i + x)))
  | [], _, _, _, x, _, _, _, _, hk, _, _, _, _ => by simp at hk
  | _ :: _, [], _, _, x, _, _, _, _, _, ho, _, _, _ => by simp at ho
  | k0 :: ks, o0 :: os, i, a, 0, o, k, d, hl, hk, ho, hd, hlt, hne => by
    simp only [List.getElem?_cons_zero, Option.some.injEq] at hk ho
    subst hk ho
    unfold layO
    rw [(layO_at (a0 := a) ks os (i + 1) _ d (by simpa using hl) (fun x o ho => hne (x + 1) o (by omega) (by simpa using ho))).1, hd]
    simp only [Act.put, Nat.add_zero]
    rw [Array.getElem?_setIfInBounds_self_of_lt hlt]
  | k0 :: ks, o0 :: os, i, a, x + 1, o, k, d, hl, hk, ho, hd, hlt, hne => by
    unfold layO
    have := layO_new (l := l) ks os (i + 1) (a.put o0.dst (k0.val (l i))) x o k d (by simpa using hl) (by simpa using hk) (by simpa using ho) hd (by cases o0.dst <;> simp [Act.put, hlt]) (fun y o' hy ho' => hne (y + 1) o' (by omega) (by simpa using ho'))
    rw [this, show i + 1 + x = i + (x + 1) by omega]

theorem chk_at {ops : Array Oper} {N : Nat} {js : List (List Nat)} (h : chkAll ops N js = true) {i : Nat} {o : Oper} (ho : ops[i]? = some o) : chkO ops N i (js.getD i []) o = true := by
  unfold chkAll at h
  rw [Bool.and_eq_true, List.all_eq_true] at h
  have := h.2 i (List.mem_range.2 (Array.getElem?_eq_some_iff.1 ho).1)
  simpa [ho] using this

structure ChkO (ops : Array Oper) (N i : Nat) (js : List Nat) (o : Oper) : Prop where
  back : ∀ j ∈ depsOf o, j < i
  js : ∀ j ∈ js, j ∈ depsOf o
  tmp : ∀ t ∈ tmpsOf o, writes ops t = false ∨ ∃ j ∈ depsOf o, dstOf ops j = some t
  guard : ∀ g b, o.guard = some (g, b) → g ∈ depsOf o ∧ ∃ d, dstOf ops g = some d
  sel : ∀ cs b, o.op ≠ .select cs b
  dst : ∀ d, o.dst = some d → d < N ∧ ∀ j, j ≠ i → dstOf ops j ≠ some d
theorem ChkO.of {ops : Array Oper} {N i : Nat} {js : List Nat} {o : Oper} (h : chkO ops N i js o = true) : ChkO ops N i js o := by
  unfold chkO at h
  simp only [Bool.and_eq_true, List.all_eq_true, List.contains_eq_mem, decide_eq_true_eq, Bool.or_eq_true, Bool.not_eq_true', List.any_eq_true, beq_iff_eq] at h
  obtain ⟨⟨⟨⟨⟨h1, h2⟩, h3⟩, h4⟩, h5⟩, h6⟩ := h
  refine ⟨h1, h2, h3, fun g b hg => ?_, fun cs b hs => ?_, fun d hd => ?_⟩
  · rw [hg] at h4
    simp only [Bool.and_eq_true, decide_eq_true_eq, Option.isSome_iff_exists] at h4
    exact h4
  · rw [hs] at h5; cases h5
  · rw [hd] at h6
    simp only [Bool.and_eq_true, decide_eq_true_eq, List.all_eq_true, Bool.or_eq_true, Bool.not_eq_true', beq_eq_false_iff_ne, List.mem_range] at h6
    refine ⟨h6.1, fun j hj e => ?_⟩
    have hlt : j < ops.size := by
      unfold dstOf at e
      cases q : ops[j]? with
      | none => rw [q] at e; cases e
      | some o' => exact (Array.getElem?_eq_some_iff.1 q).1
    rcases h6.2 j hlt with h | h
    · exact hj h
    · exact h e

def updO (l : Nat → Value) (i : Nat) (v : Value) : Nat → Value := fun j => if j = i then v else l j
theorem updO_self {l : Nat → Value} {i : Nat} {v : Value} : updO l i v i = v := if_pos rfl
theorem updO_ne {l : Nat → Value} {i j : Nat} {v : Value} (h : j ≠ i) : updO l i v j = l j := if_neg h
theorem put_at {a : Act} {dst : Option Tmp} {v : Value} {s : Tmp} (h : dst ≠ some s) : (a.put dst v).tmps[s]? = a.tmps[s]? := by
  cases dst with
  | none => rfl
  | some d => simp only [Act.put]; rw [Array.getElem?_setIfInBounds_ne (fun e => h (by rw [e]))]
theorem put_self {a : Act} {d : Tmp} {v : Value} (h : d < a.tmps.size) : (a.put (some d) v).tmps[d]? = some v := by
  simp only [Act.put]; rw [Array.getElem?_setIfInBounds_self_of_lt h]
theorem put_size {a : Act} {dst : Option Tmp} {v : Value} : (a.put dst v).tmps.size = a.tmps.size := by cases dst <;> simp [Act.put]
theorem put_defers {a : Act} {dst : Option Tmp} {v : Value} : (a.put dst v).defers = a.defers := by cases dst <;> rfl
theorem eval_of {a a' : Act} {t : Tmp} (h : a.tmps[t]? = a'.tmps[t]?) : a.eval (.tmp t) = a'.eval (.tmp t) := by
  simp only [Act.eval, Array.getD_eq_getD_getElem?, h]
theorem eval_some {a : Act} {t : Tmp} {v : Value} (h : a.tmps[t]? = some v) : a.eval (.tmp t) = v := by
  simp only [Act.eval, Array.getD_eq_getD_getElem?, h]; rfl

theorem InO.step {S : World → Prop} {Ks : List Out} {ops : Array Oper} {a0 a : Act} {L : Array Bool} {l : Nat → Value} {w w' : World} {i : Nat} {o : Oper} {k : Out} {v : Value} (h : InO S Ks ops a0 L l a w) (hst : ∀ w w', S w → Below w.heap.size w w' → S w') (hkp : ∀ k ∈ Ks, k.keeps)
    (hc : ∀ i o, ops[i]? = some o → ∀ k, Ks[i]? = some k → ChkO ops a0.tmps.size i k.js o) (hlen : Ks.length = ops.size) (ho : ops[i]? = some o) (hk : Ks[i]? = some k) (hn : didO L i = false) (hd : ∀ j ∈ depsOf o, didO L j = true) (hb : Below w.heap.size w w') (hv : k.ok l w' v) :
    InO S Ks ops a0 (L.setIfInBounds i true) (updO l i v) (a.put o.dst v) w' := by
  have hlt : i < ops.size := (Array.getElem?_eq_some_iff.1 ho).1
  have hset : ∀ j, didO (L.setIfInBounds i true) j = (decide (j = i) || didO L j) := fun j => didO_set (by rw [h.ls]; exact hlt)
  have hme : didO (L.setIfInBounds i true) i = true := by rw [hset]; simp
  have hdi : dstOf ops i = o.dst := by unfold dstOf; rw [ho]; rfl
  have hold : ∀ j, j ≠ i → didO (L.setIfInBounds i true) j = true → didO L j = true := fun j hj h2 => by rw [hset] at h2; simpa [hj] using h2
  have ci := hc i o ho k hk
  refine ⟨by simpa using h.ls, ⟨put_defers.trans h.fr.df, put_size.trans h.fr.sz, fun s hs => ?_, fun j d hj hjd => ?_⟩, hst _ _ h.inv hb, fun j hj kj hkj => ?_, fun j oj hj hoj x hx => ?_⟩
  · rw [put_at (by rw [← hdi]; exact hs i hme)]
    exact h.fr.old s fun j hj => hs j (by rw [hset, hj]; simp)
  · by_cases e : j = i
    · subst e
      rw [hdi] at hjd
      rw [hjd, updO_self]
      exact put_self (by rw [h.fr.sz]; exact (ci.dst d hjd).1)
    · rw [put_at (fun q => (ci.dst d q).2 j e hjd), updO_ne e]
      exact h.fr.new j d (hold j e hj) hjd
  · by_cases e : j = i
    · subst e
      rw [hk] at hkj; cases hkj
      rw [updO_self]
      cases k with
      | eq u => exact hv
      | rel p => exact hv
      | fn js F =>
        show v = F (js.map _)
        rw [List.map_congr_left fun x hx => updO_ne (l := l) (v := v) (fun q => by have := hd x (ci.js x hx); rw [q, hn] at this; cases this)]
        exact hv
    · rw [updO_ne e]
      have hokj := h.ok j (hold j e hj) kj hkj
      cases kj with
      | eq u => exact hokj
      | rel p => exact hkp _ (List.mem_of_getElem? hkj) w w' _ hokj hb
      | fn js F =>
        show l j = F (js.map _)
        have hjl : j < ops.size := by rw [← hlen]; exact (List.getElem?_eq_some_iff.1 hkj).1
        have cj := hc j _ (Array.getElem?_eq_getElem hjl) _ hkj
        rw [List.map_congr_left fun x hx => updO_ne (l := l) (v := v) (fun q => by have := h.dp j _ (hold j e hj) (Array.getElem?_eq_getElem hjl) x (cj.js x hx); rw [q, hn] at this; cases this)]
        exact hokj
  · by_cases e : j = i
    · subst e
      rw [ho] at hoj; cases hoj
      rw [hset, hd x hx]; simp
    · rw [hset, h.dp j oj (hold j e hj) hoj x hx]; simp

theorem region_out {P : Program} {ops : Array Oper} {Q : Exit → Act → World → Prop} {id : Nat} {a0 : Act} {w : World} (hm : P.follows .mixedOrders = true) (Ks : List Out) (S : World → Prop)
    (hst : ∀ w w', S w → Below w.heap.size w w' → S w') (hkp : ∀ k ∈ Ks, k.keeps) (hchk : chkAll ops a0.tmps.size (Ks.map Out.js) = true) (h0 : S w.drew)
    (hstep : ∀ (i : Nat) (o : Oper) (k : Out), ops[i]? = some o → Ks[i]? = some k → ∀ (a : Act) (w : World) (l : Nat → Value), AtO S Ks ops a0 o a w l → OutStep P ops Q o k l a w)
    (hend : ∀ (l : Nat → Value) (w : World), S w → (∀ (i : Nat) (k : Out), Ks[i]? = some k → k.ok l w (l i)) → Q .normal (layO a0 l Ks ops.toList 0) w) : (Code.region id ops true).wp P Q a0 w := by
  have hlen : Ks.length = ops.size := by
    unfold chkAll at hchk
    rw [Bool.and_eq_true, decide_eq_true_eq, List.length_map] at hchk
    exact hchk.1
  have hc : ∀ i o, ops[i]? = some o → ∀ k, Ks[i]? = some k → ChkO ops a0.tmps.size i k.js o := fun i o ho k hk => by
    have := chk_at hchk ho
    rw [List.getD_eq_getElem?_getD, List.getElem?_map, hk] at this
    exact ChkO.of this
  have hget : ∀ i o, ops[i]? = some o → ∃ k, Ks[i]? = some k := fun i o ho => ⟨_, List.getElem?_eq_getElem (by rw [hlen]; exact (Array.getElem?_eq_some_iff.1 ho).1)⟩
  refine wp_region_invO hm (fun L a w => ∃ l, InO S Ks ops a0 L l a w) ?_ ?_ ?_ ?_
  · refine ⟨fun _ => undef, by simp, ⟨rfl, rfl, fun _ _ => rfl, fun j d hj => ?_⟩, h0, fun i hi => ?_, fun i o hi => ?_⟩
    · rw [didO_none] at hj; cases hj
    · rw [didO_none] at hi; cases hi
    · rw [didO_none] at hi; cases hi
  · rintro L a w i hL hi hn hd ⟨l, hI⟩
    have ho := Array.getElem?_eq_getElem hi
    obtain ⟨k, hk⟩ := hget i _ ho
    have ci := hc i _ ho k hk
    have hd' : ∀ j ∈ depsOf ops[i], didO L j = true := fun j hj => by
      unfold depsOf at hj
      rw [List.mem_map] at hj
      obtain ⟨e, he, rfl⟩ := hj
      rw [List.mem_filter] at he
      exact hd _ ho e (by simpa using he.1) he.2
    have hat : AtO S Ks ops a0 ops[i] a w l := by
      refine ⟨hI.inv, fun t ht => eval_of (hI.fr.old t fun j _ e => ?_), fun j hj d hjd => eval_some (hI.fr.new j d (hd' j (by simpa using hj)) hjd), fun j hj kj hkj => hI.ok j (hd' j (by simpa using hj)) kj hkj, fun g b hg => ?_⟩
      · unfold writes at ht
        rw [List.any_eq_false] at ht
        unfold dstOf at e
        cases q : ops[j]? with
        | none => rw [q] at e; cases e
        | some o' =>
          rw [q] at e
          have := ht o' (by rw [Array.mem_toList_iff]; exact Array.mem_of_getElem? q)
          rw [beq_iff_eq] at this
          exact this e
      · obtain ⟨h1, d, h2⟩ := ci.guard g b hg
        have := hI.fr.new g d (hd' g h1) h2
        unfold yielded
        have e2 : (ops[g]?).bind (·.dst) = some d := h2
        rw [e2]
        simp only [Option.bind_some, this]
        cases l g <;> rfl
    have hs := hstep i _ k ho hk a w l hat
    refine wpOp_step ho fun K hK => ?_
    unfold OutStep at hs
    split
    · rename_i hw
      rw [if_pos hw] at hs
      exact hs K fun v w' hb hv => hK _ _ ⟨_, hI.step hst hkp hc hlen ho hk hn hd' hb hv⟩
    · rename_i hw
      rw [if_neg hw] at hs
      exact hK _ _ ⟨_, hI.step hst hkp hc hlen ho hk hn hd' (Below.refl _ _) hs⟩
  · intro i o ho e he hb
    obtain ⟨k, hk⟩ := hget i o ho
    exact (hc i o ho k hk).back e.on (by unfold depsOf; exact List.mem_map.2 ⟨e, List.mem_filter.2 ⟨by simpa using he, hb⟩, rfl⟩)
  · rintro L a w hall ⟨l, hI⟩
    have hok : ∀ (i : Nat) (k : Out), Ks[i]? = some k → k.ok l w (l i) := fun i k hk => hI.ok i (hall i (by rw [← hlen]; exact (List.getElem?_eq_some_iff.1 hk).1)) k hk
    have hlen2 : Ks.length = ops.toList.length := by simpa using hlen
    have e : a = layO a0 l Ks ops.toList 0 := by
      obtain ⟨s1, s2⟩ := layO_sz (l := l) Ks ops.toList 0 a0
      have ht : a.tmps = (layO a0 l Ks ops.toList 0).tmps := by
        refine Array.ext_getElem? fun s => ?_
        by_cases hw : ∃ j, j < ops.size ∧ dstOf ops j = some s
        · obtain ⟨j, hj, hjd⟩ := hw
          have ho := Array.getElem?_eq_getElem hj
          obtain ⟨k, hk⟩ := hget j _ ho
          have hd : (ops[j]).dst = some s := by unfold dstOf at hjd; rw [ho] at hjd; exact hjd
          have cj := hc j _ ho k hk
          rw [hI.fr.new j s (hall j hj) hjd, layO_new Ks ops.toList 0 a0 j ops[j] k s hlen2 hk (by simp) hd (cj.dst s hd).1 (fun y o' hy ho' e => (cj.dst s hd).2 y hy (by
            unfold dstOf
            have : ops[y]? = some o' := by simpa using ho'
            rw [this]; exact e)), Nat.zero_add]
          have := hok j k hk
          cases k with
          | eq u => have h2 : l j = u := this; rw [h2]; rfl
          | rel p => rfl
          | fn js F => rfl
        · rw [hI.fr.old s fun j hj e => hw ⟨j, by
            unfold dstOf at e
            cases q : ops[j]? with
            | none => rw [q] at e; cases e
            | some o' => exact (Array.getElem?_eq_some_iff.1 q).1, e⟩]
          rw [(layO_at (a0 := a0) Ks ops.toList 0 a0 s hlen2 fun x o ho e => hw ⟨x, by
            have : ops[x]? = some o := by simpa using ho
            exact ⟨(Array.getElem?_eq_some_iff.1 this).1, by unfold dstOf; rw [this]; exact e⟩⟩).1]
      obtain ⟨t, df⟩ := a
      have hdf : df = a0.defers := hI.fr.df
      generalize hX : layO a0 l Ks ops.toList 0 = X at *
      obtain ⟨t2, df2⟩ := X
      simp only at ht s2
      rw [ht, hdf, s2]
    rw [e]
    exact hend l w hI.inv hok

/-! ### the operations one behind the other (what is known of each one: the last one first) -/
def StepsO (P : Program) (ops : Array Oper) (Q : Exit → Act → World → Prop) (S : World → Prop) (a0 : Act) : List Oper → List Out → (List Out → Prop) → Prop
  | [], Rs, fin => fin Rs.reverse
  | o :: rest, Rs, fin => ∃ k : Out, k.keeps ∧ k.js = [] ∧ (∀ (a : Act) (w : World) (l : Nat → Value), AtO S Rs.reverse ops a0 o a w l → OutStep P ops Q o k l a w) ∧ StepsO P ops Q S a0 rest (k :: Rs) fin

theorem stepsO_full {P : Program} {ops : Array Oper} {Q : Exit → Act → World → Prop} {S : World → Prop} {a0 : Act} {fin : List Out → Prop} : ∀ (todo : List Oper) (Rs : List Out), (∀ k ∈ Rs, k.keeps ∧ k.js = []) → StepsO P ops Q S a0 todo Rs fin →
    ∃ Kf : List Out, Kf.take Rs.length = Rs.reverse ∧ Kf.length = Rs.length + todo.length ∧ fin Kf ∧ (∀ k ∈ Kf, k.keeps ∧ k.js = []) ∧ ∀ (x : Nat) (o : Oper) (k : Out), todo[x]? = some o → Kf[Rs.length + x]? = some k → ∀ (a : Act) (w : World) (l : Nat → Value), AtO S (Kf.take (Rs.length + x)) ops a0 o a w l → OutStep P ops Q o k l a w
  | [], Rs, hk, h => ⟨Rs.reverse, by rw [List.take_of_length_le (by simp)], by simp, h, (fun k hk2 => hk k (List.mem_reverse.1 hk2)), fun x o k ho => by simp at ho⟩
  | o :: rest, Rs, hk, h => by
    obtain ⟨k, h1, h2, h3, h4⟩ := h
    obtain ⟨Kf, q1, q2, q3, q4, q5⟩ := stepsO_full rest (k :: Rs) (fun x hx => by
      rw [List.mem_cons] at hx
      rcases hx with rfl | hx
      · exact ⟨h1, h2⟩
      · exact hk x hx) h4
    rw [List.length_cons] at q1 q2 q5
    rw [List.reverse_cons] at q1
    have hrl : Rs.reverse.length = Rs.length := by simp
    have q6 : Kf.take Rs.length = Rs.reverse := by
      have := congrArg (List.take Rs.length) q1
      rw [List.take_take, Nat.min_eq_left (by omega), List.take_left' hrl] at this
      exact this
    have q7 : Kf[Rs.length]? = some k := by
      have : (Kf.take (Rs.length + 1))[Rs.length]? = (Rs.reverse ++ [k])[Rs.length]? := by rw [q1]
      rw [List.getElem?_take_of_lt (by omega), List.getElem?_append_right (by omega)] at this
      simpa using this
    refine ⟨Kf, q6, by rw [q2, List.length_cons]; omega, q3, q4, fun x o' k' ho hk' => ?_⟩
    cases x with
    | zero =>
      have ho2 : o = o' := by simpa using ho
      subst ho2
      rw [Nat.add_zero, q7] at hk'
      cases hk'
      rw [Nat.add_zero, q6]
      exact h3
    | succ x =>
      have := q5 x o' k' (by simpa using ho) (by rw [show Rs.length + 1 + x = Rs.length + (x + 1) by omega]; exact hk')
      rw [show Rs.length + 1 + x = Rs.length + (x + 1) by omega] at this
      exact this

theorem region_outS {P : Program} {os : List Oper} {Q : Exit → Act → World → Prop} {id : Nat} {a0 : Act} {w : World} (hm : P.follows .mixedOrders = true) (S : World → Prop)
    (hst : ∀ w w', S w → Below w.heap.size w w' → S w') (hchk : chkAll os.toArray a0.tmps.size (os.map fun _ => []) = true) (h0 : S w.drew)
    (hsteps : StepsO P os.toArray Q S a0 os [] fun Ks => ∀ (l : Nat → Value) (w : World), S w → (∀ (i : Nat) (k : Out), Ks[i]? = some k → k.ok l w (l i)) → Q .normal (layO a0 l Ks os 0) w) : (Code.region id os.toArray true).wp P Q a0 w := by
  obtain ⟨Kf, -, h2, h3, h4, h5⟩ := stepsO_full os [] (fun k hk => by cases hk) hsteps
  rw [List.length_nil, Nat.zero_add] at h2
  have hjs : Kf.map Out.js = os.map fun _ => [] := by
    refine List.ext_getElem (by simp [h2]) fun i q1 q2 => ?_
    simp only [List.getElem_map]
    exact (h4 _ (List.getElem_mem _)).2
  refine region_out hm Kf S hst (fun k hk => (h4 k hk).1) (by rw [hjs]; exact hchk) h0 (fun i o k ho hk a w l hat => ?_) (by simpa using h3)
  have := h5 i o k (by simpa using ho) (by simpa using hk) a w l
  rw [List.length_nil, Nat.zero_add] at this
  exact this ⟨hat.inv, hat.old, hat.dep, fun j hj k' hk' => hat.ok j hj k' (by
    rw [List.getElem?_take] at hk'
    split at hk'
    · exact hk'
    · cases hk'), hat.yield⟩

def nthO : List Value → Nat → Value
  | [], _ => undef
  | v :: _, 0 => v
  | _ :: l, n + 1 => nthO l n
theorem nthO_eq : ∀ (l : List Value) (n : Nat), nthO l n = l.getD n undef
  | [], _ => by simp [nthO]
  | v :: _, 0 => by simp [nthO]
  | _ :: l, n + 1 => by rw [nthO, nthO_eq l n]; simp
theorem evalO {tm : List Value} {df : List Deferred} {t : Tmp} {v : Value} (h : nthO tm t = v) : (⟨tm.toArray, df⟩ : Act).eval (.tmp t) = v := by
  rw [← h, nthO_eq]
  simp [Act.eval, Array.getD_eq_getD_getElem?, List.getD_eq_getElem?_getD]

/-! ### one operation -/
section
variable {P : Program} {ops : Array Oper} {Q : Exit → Act → World → Prop} {o : Oper} {k : Out} {l : Nat → Value} {a : Act} {w w' : World} {S : World → Prop} {Ks : List Out} {a0 : Act}
/-- An operation that hangs on one that yields a known value. -/
theorem rev_at {Rs : List Out} {j m : Nat} {k : Out} (hm : Rs.length = m + 1 + j) (hk : Rs[m]? = some k) : Rs.reverse[j]? = some k := by
  rw [List.getElem?_reverse (by omega), ← hk]
  congr 1; omega
theorem AtO.get (h : AtO S Ks.reverse ops a0 o a w l) (j m : Nat) {d : Tmp} {v : Value} (hj : (depsOf o).contains j = true) (hd : dstOf ops j = some d) (hm : Ks.length = m + 1 + j) (hk : Ks[m]? = some (.eq v)) : a.eval (.tmp d) = v :=
  (h.dep j hj d hd).trans (h.ok j hj _ (rev_at hm hk))
theorem AtO.got (h : AtO S Ks.reverse ops a0 o a w l) (j m : Nat) {d : Tmp} {p : World → Value → Prop} (hj : (depsOf o).contains j = true) (hd : dstOf ops j = some d) (hm : Ks.length = m + 1 + j) (hk : Ks[m]? = some (.rel p)) : ∃ v, a.eval (.tmp d) = v ∧ l j = v ∧ p w v :=
  ⟨_, h.dep j hj d hd, rfl, h.ok j hj _ (rev_at hm hk)⟩
theorem AtO.go (h : AtO S Ks.reverse ops a0 o a w l) (m : Nat) {g : Nat} {b : Bool} (hg : o.guard = some (g, b)) (hj : (depsOf o).contains g = true) (hm : Ks.length = m + 1 + g) (hk : Ks[m]? = some (.eq (.bool b))) : Region.wanted o (yielded ops a.tmps) = true := by
  have e : l g = .bool b := h.ok g hj _ (rev_at hm hk)
  unfold Region.wanted
  rw [hg]
  simp only [h.yield g b hg, e, beq_self_eq_true]
theorem AtO.stop (h : AtO S Ks.reverse ops a0 o a w l) (m : Nat) {g : Nat} {b : Bool} {v : Value} (hg : o.guard = some (g, b)) (hj : (depsOf o).contains g = true) (hm : Ks.length = m + 1 + g) (hk : Ks[m]? = some (.eq v)) (hv : v = .bool (!b) ∨ v = undef) : Region.wanted o (yielded ops a.tmps) = false := by
  have e : l g = v := h.ok g hj _ (rev_at hm hk)
  unfold Region.wanted
  rw [hg]
  simp only [h.yield g b hg, e]
  rcases hv with rfl | rfl
  · cases b <;> rfl
  · rfl
theorem out_skip (hw : Region.wanted o (yielded ops a.tmps) = false) : OutStep P ops Q o (.eq undef) l a w := by
  unfold OutStep; rw [hw]; exact rfl
theorem out_val {v : Value} (hw : Region.wanted o (yielded ops a.tmps) = true) (hex : (execOp a.eval o).run P w = .ok (.value v) w) : OutStep P ops Q o (.eq v) l a w := by
  unfold OutStep; rw [hw]
  intro K hK
  unfold Oper.wp
  rw [hex, Oper.upon_value]
  exact hK v w (Below.refl _ _) rfl
theorem out_new {v : Value} (hw : Region.wanted o (yielded ops a.tmps) = true) (hex : (execOp a.eval o).run P w = .ok (.value v) w') (hb : Below w.heap.size w w') (hk : k.ok l w' v) : OutStep P ops Q o k l a w := by
  unfold OutStep; rw [hw]
  intro K hK
  unfold Oper.wp
  rw [hex, Oper.upon_value]
  exact hK v w' hb hk
theorem out_call {f : FuncId} {args : Array Value} (hw : Region.wanted o (yielded ops a.tmps) = true) (hex : (execOp a.eval o).run P w = .ok (.enter f args) w) (hc : Calls P f args w fun e w' => ∃ v, e = .returned v ∧ k.ok l w' v ∧ Below w.heap.size w w') : OutStep P ops Q o k l a w := by
  unfold OutStep; rw [hw]
  intro K hK
  unfold Oper.wp
  rw [hex, Oper.upon_enter]
  refine hc.mono ?_
  rintro e w' ⟨v, rfl, h1, h2⟩
  exact hK v w' h2 h1
theorem out_call_eq {f : FuncId} {args : Array Value} {v : Value} (hw : Region.wanted o (yielded ops a.tmps) = true) (hex : (execOp a.eval o).run P w = .ok (.enter f args) w) (hc : Calls P f args w fun e w' => e = .returned v ∧ Below w.heap.size w w') : OutStep P ops Q o (.eq v) l a w :=
  out_call hw hex (hc.mono fun _e _w' h => ⟨v, h.1, rfl, h.2⟩)
theorem ex_moveO {x : Operand} {ev : Operand → Value} {v : Value} (h : o.op = .move x ∨ o.op = .assign x) (hv : ev x = v) : (execOp ev o).run P w = .ok (.value v) w := by
  rcases h with h | h <;> (unfold execOp; rw [h, ← hv]; rfl)
theorem wanted_none (h : o.guard = none) : Region.wanted o (yielded ops a.tmps) = true := by unfold Region.wanted; rw [h]
end

end Go.Proofs.Ytehcclcokgmplaa

/-
  Layer 10's document, walked: ok, of, in, widths; ref01's Fits.
-/
namespace Go.Proofs.Ytehcclcokgmplaa
open Go.RowKit

/-- An element of a list of integers. -/
theorem IRow.el {w : World} {p : Option Addr} {n c : Nat} {l : List Int} (h : IRow w (.slice p n c) l) {j : Nat} (hj : j < l.length) : ∃ b o, p = some ⟨b, o, none⟩ ∧ b < w.heap.size ∧ w.cell? ⟨b, o + j, none⟩ = some (.int .i64 (l.getD j 0)) := by
  obtain ⟨b, o, e, h1, h2⟩ := h.get (some_getD 0 hj)
  rw [Nat.mul_one] at h2
  exact ⟨b, o, e, h1, h2⟩

theorem eql4 (x y z u : Nat) (W : World) : (Go.binOp .eql 59 (.agg #[.int .u64 (x : Int), .int .u64 (y : Int)]) (.agg #[.int .u64 (z : Int), .int .u64 (u : Int)])).run Try.prog W = .ok (.bool (decide (x = z ∧ y = u))) W := by
  have e : decide (x = z ∧ y = u) = (decide ((x : Int) = z) && decide ((y : Int) = u)) := by rw [← Bool.decide_and, decide_eq_decide]; omega
  rw [e]
  by_cases h1 : (x : Int) = z <;> by_cases h2 : (y : Int) = u <;> simp [go_sem, h1, h2]
/-- Two numbers' pairs, compared. -/
theorem eqln (a b : Nat) (W : World) : (Go.binOp .eql 59 (numV a) (numV b)).run Try.prog W = .ok (.bool (decide (a = b))) W := by
  have e : decide (a = b) = decide (a / B = b / B ∧ a % B = b % B) := by
    rw [decide_eq_decide]
    constructor
    · rintro rfl; exact ⟨rfl, rfl⟩
    · rintro ⟨h1, h2⟩
      rw [← Nat.div_add_mod a B, ← Nat.div_add_mod b B, h1, h2]
  rw [e]
  exact eql4 _ _ _ _ W
end Go.Proofs.Ytehcclcokgmplaa

/-
  Layer 10's document, walked: the widths of single nodes.
-/
namespace Go.Proofs.Ytehcclcokgmplaa
open Go.RowKit

/-- A node's value. -/
def ndV (n : Nod) : Value := .agg #[.int .u8 n.op, .int .i64 n.w, .int .i64 n.a, .int .i64 n.b, .int .u64 ((n.v / B : Nat) : Int), .int .u64 ((n.v % B : Nat) : Int)]
end Go.Proofs.Ytehcclcokgmplaa

/-
  Layer 10's document, walked: the width of a node that takes nothing.
-/
namespace Go.Proofs.Ytehcclcokgmplaa
open Go.RowKit

/-- The boxes of a program's and a node's value. -/
def PBox (w : World) (g : Nat) (s : PgS) : Prop := w.heap[g]? = some (.cells #[.slice s.hp s.hn s.hc, .slice s.mp s.mn s.mc, .slice s.sp s.sn s.sc, .slice s.ap s.an s.ac, .slice s.tp s.tn s.tc, .slice s.cp s.cn s.cc, .slice s.ep s.en s.ec, .slice s.v1 s.n1 s.c1, .slice s.v2 s.n2 s.c2, .slice s.v3 s.n3 s.c3, .slice s.v4 s.n4 s.c4, .slice s.v5 s.n5 s.c5] 33 (0, 0))
def NBox (w : World) (g : Nat) (op k a b v1 v2 : Int) : Prop := w.heap[g]? = some (.cells #[.int .u8 op, .int .i64 k, .int .i64 a, .int .i64 b, .int .u64 v1, .int .u64 v2] 61 (0, 0))
theorem PBox.below {w w' : World} {g : Nat} {s : PgS} (h : PBox w g s) (hb : Below w.heap.size w w') : PBox w' g s := (hb.block g (Array.getElem?_eq_some_iff.1 h).1).trans h
theorem NBox.below {w w' : World} {g : Nat} {op k a b v1 v2 : Int} (h : NBox w g op k a b v1 v2) (hb : Below w.heap.size w w') : NBox w' g op k a b v1 v2 := (hb.block g (Array.getElem?_eq_some_iff.1 h).1).trans h
theorem NBox.lt {w : World} {g : Nat} {op k a b v1 v2 : Int} (h : NBox w g op k a b v1 v2) : g < w.heap.size := (Array.getElem?_eq_some_iff.1 h).1
theorem PBox.cells {w : World} {g : Nat} {s : PgS} (h : PBox w g s) : w.cell? ⟨g, 0, none⟩ = some (.slice s.hp s.hn s.hc) ∧ w.cell? ⟨g, 1, none⟩ = some (.slice s.mp s.mn s.mc) ∧ w.cell? ⟨g, 2, none⟩ = some (.slice s.sp s.sn s.sc) ∧ w.cell? ⟨g, 3, none⟩ = some (.slice s.ap s.an s.ac) ∧ w.cell? ⟨g, 4, none⟩ = some (.slice s.tp s.tn s.tc) ∧ w.cell? ⟨g, 5, none⟩ = some (.slice s.cp s.cn s.cc) ∧ w.cell? ⟨g, 6, none⟩ = some (.slice s.ep s.en s.ec) ∧ w.cell? ⟨g, 7, none⟩ = some (.slice s.v1 s.n1 s.c1) ∧ w.cell? ⟨g, 8, none⟩ = some (.slice s.v2 s.n2 s.c2) ∧ w.cell? ⟨g, 9, none⟩ = some (.slice s.v3 s.n3 s.c3) ∧ w.cell? ⟨g, 10, none⟩ = some (.slice s.v4 s.n4 s.c4) ∧ w.cell? ⟨g, 11, none⟩ = some (.slice s.v5 s.n5 s.c5) := by
  unfold PBox at h
  refine ⟨?_, ?_, ?_, ?_, ?_, ?_, ?_, ?_, ?_, ?_, ?_, ?_⟩ <;> simp [World.cell?, h]
theorem NBox.cells {w : World} {g : Nat} {op k a b v1 v2 : Int} (h : NBox w g op k a b v1 v2) : w.cell? ⟨g, 0, none⟩ = some (.int .u8 op) ∧ w.cell? ⟨g, 1, none⟩ = some (.int .i64 k) ∧ w.cell? ⟨g, 2, none⟩ = some (.int .i64 a) ∧ w.cell? ⟨g, 3, none⟩ = some (.int .i64 b) ∧ w.cell? ⟨g, 4, none⟩ = some (.int .u64 v1) ∧ w.cell? ⟨g, 5, none⟩ = some (.int .u64 v2) := by
  unfold NBox at h
  refine ⟨?_, ?_, ?_, ?_, ?_, ?_⟩ <;> simp [World.cell?, h]
/-- An element of a list of lists of integers: the cell that holds its slice. -/
theorem IsRow.el {w : World} {p : Option Addr} {n c : Nat} {l : List (List Int)} (h : IsRow w (.slice p n c) l) {j : Nat} (hj : j < l.length) : ∃ b o p1 n1 c1, p = some ⟨b, o, none⟩ ∧ b < w.heap.size ∧ w.cell? ⟨b, o + j, none⟩ = some (.slice p1 n1 c1) ∧ IRow w (.slice p1 n1 c1) (l.getD j []) := by
  obtain ⟨b, o, e, h1, p1, n1, c1, h2, h3⟩ := h.get (some_getD [] hj)
  rw [Nat.mul_one] at h2
  exact ⟨b, o, p1, n1, c1, e, h1, h2, h3⟩
/-- An action's list of parameters. -/
theorem ActnRow.el {w : World} {p : Option Addr} {n c : Nat} {l : List Actn} (h : ActnRow w (.slice p n c) l) {j : Nat} (hj : j < l.length) : ∃ b o p1 n1 c1 p2 n2 c2, p = some ⟨b, o, none⟩ ∧ b < w.heap.size ∧ w.cell? ⟨b, o + j * 2, none⟩ = some (.slice p1 n1 c1) ∧ IRow w (.slice p1 n1 c1) (l.getD j ⟨[], []⟩).params ∧ w.cell? ⟨b, o + j * 2 + 1, none⟩ = some (.slice p2 n2 c2) ∧ IstRow w (.slice p2 n2 c2) (l.getD j ⟨[], []⟩).body := by
  obtain ⟨b, o, e, h1, ⟨p1, n1, c1, h2, h3⟩, ⟨p2, n2, c2, h4, h5⟩⟩ := h.get (some_getD ⟨[], []⟩ hj)
  exact ⟨b, o, p1, n1, c1, p2, n2, c2, e, h1, h2, h3, h4, h5⟩

end Go.Proofs.Ytehcclcokgmplaa

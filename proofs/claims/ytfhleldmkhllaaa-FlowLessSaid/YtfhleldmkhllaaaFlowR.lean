/-
  Regions that draw their order in the round of a range over a function: by what has been done.
-/
import Derived.Test.YtfhleldmkhllaaaFlowQ
import Derived.OrdersIn
import Derived.RegionTactic
namespace Go.Proofs.Ytfhleldmkhllaaa
open Go.RowKit Flow

/-- A region of a function's code, by its number. -/
def findRegion (n : Nat) : Code → Option Code
  | .region k ops any => if k = n then some (.region k ops any) else none
  | .seq a b => match findRegion n a with
    | some c => some c
    | none => findRegion n b
  | .block _ c => findRegion n c
  | .scope c => findRegion n c
  | .loop c => findRegion n c
  | .cond _ a b => match findRegion n a with
    | some c => some c
    | none => findRegion n b
  | .rangeFunc _ _ a b => match findRegion n a with
    | some c => some c
    | none => findRegion n b
  | _ => none

/-- Has an operation been done? -/
def did (L : Array Bool) (i : Nat) : Bool := L.getD i false
theorem did_set {L : Array Bool} {i j : Nat} (hi : i < L.size) : did (L.setIfInBounds i true) j = (decide (j = i) || did L j) := by
  unfold did
  by_cases h : i = j
  · subst h
    simp [hi]
  · rw [Array.getD_eq_getD_getElem?, Array.getD_eq_getD_getElem?, Array.getElem?_setIfInBounds_ne h]
    have : decide (j = i) = false := by simp; omega
    rw [this, Bool.false_or]
theorem did_none (n i : Nat) : did (Array.replicate n false) i = false := by
  unfold did
  rw [Array.getD_eq_getD_getElem?, Array.getElem?_replicate]
  split <;> rfl
theorem filter_le {p q : Nat → Bool} (h : ∀ j, q j = true → p j = true) : ∀ l : List Nat, (l.filter q).length ≤ (l.filter p).length
  | [] => Nat.le_refl _
  | x :: l => by
    have ih := filter_le h l
    rw [List.filter_cons, List.filter_cons]
    cases hq : q x
    · simp only [Bool.false_eq_true, if_false]
      split
      · simp only [List.length_cons]; omega
      · exact ih
    · rw [h x hq]
      simp only [if_true, List.length_cons]
      omega
theorem filter_lt {p q : Nat → Bool} (h : ∀ j, q j = true → p j = true) {i : Nat} (hp : p i = true) (hq : q i = false) : ∀ l : List Nat, i ∈ l → (l.filter q).length < (l.filter p).length
  | [], hi => by cases hi
  | x :: l, hi => by
    rw [List.filter_cons, List.filter_cons]
    by_cases e : x = i
    · subst e
      have := filter_le h l
      rw [hp, hq]
      simp only [Bool.false_eq_true, if_false, if_true, List.length_cons]
      omega
    · have ih := filter_lt h hp hq l (by
        rcases List.mem_cons.1 hi with h1 | h1
        · exact absurd h1.symm e
        · exact h1)
      cases hq' : q x
      · simp only [Bool.false_eq_true, if_false]
        split
        · simp only [List.length_cons]; omega
        · exact ih
      · rw [h x hq']
        simp only [if_true, List.length_cons]
        omega

section
variable {F : Fence} {m : Nat} {P : Program} {md : Region.Mode} {ops : Array Oper} {Q : Exit → Act → World → Prop}
theorem wpAnyIn_inv (I : Array Bool → Act → World → Prop)
    (hstep : ∀ L a w i, L.size = ops.size → i < ops.size → did L i = false → (∀ o, ops[i]? = some o → ∀ e ∈ o.after, Region.binds md e = true → did L e.on = true) → I L a w → wpOpIn F m P ops Q i (I (L.setIfInBounds i true)) a w)
    (hend : ∀ L a w, L.size = ops.size → Region.ready md ops L = [] → I L a w → Q .normal a w) :
    ∀ (n : Nat) (L : Array Bool) (a : Act) (w : World), L.size = ops.size → (∀ i, i < ops.size → did L i = false → 0 < n) → ((List.range ops.size).filter fun i => !did L i).length ≤ n → I L a w → wpAnyIn F m P md ops Q n L a w := by
  intro n
  induction n with
  | zero =>
    intro L a w hL hn hlen hI
    have hr : Region.ready md ops L = [] := by
      rw [List.eq_nil_iff_forall_not_mem]
      intro i hi
      obtain ⟨h1, o, ho, -⟩ := mem_ready.1 hi
      have hlt : i < ops.size := (Array.getElem?_eq_some_iff.1 ho).1
      have : did L i = false := by unfold did; simpa [hL, hlt] using h1
      exact absurd (hn i hlt this) (by omega)
    exact ⟨hr, hend L a w hL hr hI⟩
  | succ n ih =>
    intro L a w hL hn hlen hI
    refine ⟨fun hr => hend L a w hL hr hI, fun i hi => ?_⟩
    obtain ⟨h1, o, ho, hall⟩ := mem_ready.1 hi
    have hlt : i < ops.size := (Array.getElem?_eq_some_iff.1 ho).1
    have hd : did L i = false := by unfold did; simpa [hL, hlt] using h1
    refine wpOpIn_mono (fun a' w' hI' => ?_) (hstep L a w i hL hlt hd (fun o' ho' e he hb => by rw [ho] at ho'; cases ho'; exact hall e he hb) hI)
    have hset : ((List.range ops.size).filter fun j => !did (L.setIfInBounds i true) j).length < ((List.range ops.size).filter fun j => !did L j).length := by
      refine filter_lt (fun j hj => ?_) (i := i) (by simp [hd]) (by rw [did_set (by omega)]; simp) _ (List.mem_range.2 hlt)
      rw [did_set (by omega)] at hj
      cases h : did L j
      · rfl
      · rw [h] at hj; simp at hj
    refine ih _ a' w' (by simpa using hL) (fun j hj hdj => ?_) (by omega) hI'
    rcases Nat.eq_zero_or_pos n with h0 | h0
    · exfalso
      have hm : j ∈ (List.range ops.size).filter fun j => !did (L.setIfInBounds i true) j := by
        rw [List.mem_filter, List.mem_range]
        exact ⟨hj, by simp [hdj]⟩
      have := List.length_pos_of_mem hm
      omega
    · exact h0

theorem wpIn_region_inv {id : Nat} {a : Act} {w : World} (hm : P.follows .mixedOrders = true) (I : Array Bool → Act → World → Prop)
    (h0 : I (Array.replicate ops.size false) a w.drew)
    (hstep : ∀ L a w i, L.size = ops.size → i < ops.size → did L i = false → (∀ o, ops[i]? = some o → ∀ e ∈ o.after, Region.binds .any e = true → did L e.on = true) → I L a w → wpOpIn F m P ops Q i (I (L.setIfInBounds i true)) a w)
    (hback : ∀ (i : Nat) (o : Oper), ops[i]? = some o → ∀ e ∈ o.after, e.on < i)
    (hend : ∀ L a w, (∀ i, i < ops.size → did L i = true) → I L a w → Q .normal a w) : (Code.region id ops true).wpIn F m P Q a w := by
  refine wpIn_region_any hm (wpAnyIn_inv I hstep (fun L a w hL hr hI => hend L a w ?_ hI) ops.size _ a _ (by simp) (fun i hi _ => by omega) ?_ h0)
  · intro i
    induction i using Nat.strongRecOn with
    | _ i ih =>
      intro hi
      cases hd : did L i
      · exfalso
        have : i ∈ Region.ready .any ops L := by
          rw [mem_ready]
          refine ⟨?_, ops[i], Array.getElem?_eq_getElem hi, fun e he hb => ?_⟩
          · unfold did at hd
            simpa [hL, hi] using hd
          · have hlt := hback i _ (Array.getElem?_eq_getElem hi) e he
            exact ih e.on hlt (by omega)
        rw [hr] at this
        cases this
      · rfl
  · exact Nat.le_trans (List.length_filter_le _ _) (by simp)
end

/-- The frame where some operations are done. -/
structure RI (T : Array Value) (ds : List (Option Nat)) (vs : List Value) (L : Array Bool) (a : Act) : Prop where
  size : L.size = ds.length
  tsz : a.tmps.size = T.size
  old : ∀ s, (∀ i : Nat, ds[i]? ≠ some (some s)) → a.tmps[s]? = T[s]?
  new : ∀ (i s : Nat) (v : Value), did L i = true → ds[i]? = some (some s) → vs[i]? = some v → a.tmps[s]? = some v
/-- Slots are one each, and there. -/
def Slots (n : Nat) (ds : List (Option Nat)) : Prop := (∀ (i j s : Nat), ds[i]? = some (some s) → ds[j]? = some (some s) → i = j) ∧ ∀ (i s : Nat), ds[i]? = some (some s) → s < n
theorem RI.init {T : Array Value} {ds : List (Option Nat)} {vs : List Value} {a : Act} (ha : a.tmps = T) : RI T ds vs (Array.replicate ds.length false) a :=
  ⟨by simp, by rw [ha], fun s _ => by rw [ha], fun i s v h => by rw [did_none] at h; cases h⟩
theorem RI.put {T : Array Value} {ds : List (Option Nat)} {vs : List Value} {L : Array Bool} {a : Act} (h : RI T ds vs L a) (hs : Slots T.size ds) {i s : Nat} {v : Value} (hd : ds[i]? = some (some s)) (hv : vs[i]? = some v) : RI T ds vs (L.setIfInBounds i true) (a.put (some s) v) := by
  have hil : i < L.size := by rw [h.size]; exact (List.getElem?_eq_some_iff.1 hd).1
  have hst : s < a.tmps.size := by rw [h.tsz]; exact hs.2 i s hd
  refine ⟨by simp [h.size], by simp [Act.put, h.tsz], fun s' hs' => ?_, fun j s' v' hj hd' hv' => ?_⟩
  · have hne : s ≠ s' := fun e => hs' i (by rw [← e]; exact hd)
    show (a.tmps.setIfInBounds s v)[s']? = _
    rw [Array.getElem?_setIfInBounds_ne hne]
    exact h.old s' hs'
  · show (a.tmps.setIfInBounds s v)[s']? = _
    by_cases e : s = s'
    · subst e
      obtain rfl := hs.1 i j s hd hd'
      rw [hv] at hv'
      cases hv'
      rw [Array.getElem?_setIfInBounds, if_pos rfl, if_pos hst]
    · rw [Array.getElem?_setIfInBounds_ne e]
      refine h.new j s' v' ?_ hd' hv'
      rw [did_set hil] at hj
      have : decide (j = i) = false := by
        rw [decide_eq_false_iff_not]
        intro q
        rw [q, hd] at hd'
        cases hd'
        exact e rfl
      rwa [this, Bool.false_or] at hj
theorem RI.skip {T : Array Value} {ds : List (Option Nat)} {vs : List Value} {L : Array Bool} {a : Act} (h : RI T ds vs L a) {i : Nat} {v : Value} (hd : ds[i]? = some none) : RI T ds vs (L.setIfInBounds i true) (a.put none v) := by
  have hil : i < L.size := by rw [h.size]; exact (List.getElem?_eq_some_iff.1 hd).1
  refine ⟨by simp [h.size], by simp [Act.put, h.tsz], h.old, fun j s' v' hj hd' hv' => ?_⟩
  refine h.new j s' v' ?_ hd' hv'
  rw [did_set hil] at hj
  have : decide (j = i) = false := by
    rw [decide_eq_false_iff_not]
    intro q
    rw [q, hd] at hd'
    cases hd'
  rwa [this, Bool.false_or] at hj
theorem RI.ev {T : Array Value} {ds : List (Option Nat)} {vs : List Value} {L : Array Bool} {a : Act} (h : RI T ds vs L a) {i s : Nat} {v : Value} (hj : did L i = true) (hd : ds[i]? = some (some s)) (hv : vs[i]? = some v) : a.eval (.tmp s) = v := by
  show a.tmps.getD s undef = _
  rw [Array.getD_eq_getD_getElem?, h.new i s v hj hd hv]; rfl
theorem RI.ev0 {T : Array Value} {ds : List (Option Nat)} {vs : List Value} {L : Array Bool} {a : Act} (h : RI T ds vs L a) {s : Nat} {v : Value} (hs : ∀ i : Nat, ds[i]? ≠ some (some s)) (hv : T[s]? = some v) : a.eval (.tmp s) = v := by
  show a.tmps.getD s undef = _
  rw [Array.getD_eq_getD_getElem?, h.old s hs, hv]; rfl

section
variable {l' m : Nat} {P : Program} {ops : Array Oper} {Q : Exit → Act → World → Prop} {i : Nat} {o : Oper} {a : Act} {w w' : World} {K : Act → World → Prop}
theorem wpOpIn_val {v : Value} (ho : ops[i]? = some o) (hg : Region.wanted o (yielded ops a.tmps) = true) (hnd : ∀ c, o.op ≠ .defer c) (hex : (execOp a.eval o).run P w = .ok (.value v) w') (hK : K (a.put o.dst v) w') : wpOpIn (Fence.wide.inRound l') m P ops Q i K a w := by
  unfold wpOpIn
  rw [ho]
  simp only [hg, if_true]
  refine ⟨fun _ _ => trivial, ?_⟩
  rw [show (Fence.wide.inRound l').round = some l' from rfl, Oper.semAt_some _ _ _ hnd, hex]
  exact hK
theorem wpOpIn_skip (ho : ops[i]? = some o) (hg : Region.wanted o (yielded ops a.tmps) = true) (hnd : ∀ c, o.op ≠ .defer c) (hex : (execOp a.eval o).run P w = .ok .skip w') (hK : K (a.put o.dst undef) w') : wpOpIn (Fence.wide.inRound l') m P ops Q i K a w := by
  unfold wpOpIn
  rw [ho]
  simp only [hg, if_true]
  refine ⟨fun _ _ => trivial, ?_⟩
  rw [show (Fence.wide.inRound l').round = some l' from rfl, Oper.semAt_some _ _ _ hnd, hex]
  exact hK
theorem wpOpIn_not (ho : ops[i]? = some o) (hg : Region.wanted o (yielded ops a.tmps) = false) (hK : K (a.put o.dst undef) w) : wpOpIn (Fence.wide.inRound l') m P ops Q i K a w := by
  unfold wpOpIn
  rw [ho]
  simp only [hg, Bool.false_eq_true, if_false]
  exact ⟨fun _ _ => trivial, hK⟩
theorem wpOpIn_call {f : FuncId} {args : Array Value} {v : Value} (ho : ops[i]? = some o) (hg : Region.wanted o (yielded ops a.tmps) = true) (hnd : ∀ c, o.op ≠ .defer c) (hex : (execOp a.eval o).run P w = .ok (.enter f args) w)
    (hc : Calls P f args w fun e w' => e = .returned v ∧ Below w.heap.size w w') (hK : ∀ w', Below w.heap.size w w' → K (a.put o.dst v) w') : wpOpIn (Fence.wide.inRound l') m P ops Q i K a w := by
  unfold wpOpIn
  rw [ho]
  simp only [hg, if_true]
  refine ⟨fun _ _ => trivial, ?_⟩
  rw [show (Fence.wide.inRound l').round = some l' from rfl, Oper.semAt_some _ _ _ hnd, hex, Oper.uponIn_enter]
  refine ⟨(fun h => by cases h), CallsIn.inRound l' (callsIn_wide.2 (hc.mono ?_))⟩
  rintro e w1 ⟨rfl, hb⟩
  exact hK w1 hb
end

theorem wanted_un {o : Oper} {ops : Array Oper} {t : Array Value} (h : o.guard = none) : Region.wanted o (yielded ops t) = true := by unfold Region.wanted; rw [h]
theorem wanted_if {o oj : Oper} {ops : Array Oper} {a : Act} {j s : Nat} {b c : Bool} (h : o.guard = some (j, b)) (hj : ops[j]? = some oj) (hd : oj.dst = some s) (hv : a.eval (.tmp s) = .bool c) (hs : s < a.tmps.size) : Region.wanted o (yielded ops a.tmps) = (b == c) := by
  have h2 : a.tmps[s]? = some (.bool c) := by
    have : a.tmps.getD s undef = .bool c := hv
    rw [Array.getD_eq_getD_getElem?, Array.getElem?_eq_getElem hs] at this
    rw [Array.getElem?_eq_getElem hs]
    exact congrArg some this
  unfold Region.wanted yielded
  rw [h]
  simp only [hj, hd, Option.bind_some, h2]
  cases b <;> cases c <;> rfl

section
variable {o : Oper} {ev : Operand → Value} {w : World}
theorem ex_move {P : Program} {x : Operand} {v : Value} (h : o.op = .move x) (hv : ev x = v) : (execOp ev o).run P w = .ok (.value v) w := by
  simp [execOp, h, hv]
theorem ex_assign {P : Program} {x : Operand} {v : Value} (h : o.op = .assign x) (hv : ev x = v) : (execOp ev o).run P w = .ok (.value v) w := by
  simp [execOp, h, hv]
theorem ex_pick {P : Program} {c x y : Operand} {b : Bool} {v : Value} (h : o.op = .pick c x y) (hc : ev c = .bool b) (hv : (if b then ev x else ev y) = v) : (execOp ev o).run P w = .ok (.value v) w := by
  cases b <;> simp_all [execOp, go_sem]
theorem ex_add1 {x : Operand} {n : Int} (h : o.op = .binOp .add 3 x (.const (.int .i64 1)) 3) (hx : ev x = .int .i64 n) (h0 : 0 ≤ n) (h1 : n < 9000000000000000000) (hc : ev (.const (.int .i64 1)) = .int .i64 1) : (execOp ev o).run Try.prog w = .ok (.value (.int .i64 (n + 1))) w := by
  have : IntKind.i64.wrap (n + 1) = n + 1 := by rw [IntKind.wrap_i64]; omega
  simp [execOp, h, hx, hc, go_sem, this]
theorem ex_load_ints {x : Operand} {g j n c : Nat} {p : Option Addr} (h : o.op = .load 38 x) (hx : ev x = .pointer (some ⟨g, j, none⟩)) (h0 : w.cell? ⟨g, j, none⟩ = some (.slice p n c)) : (execOp ev o).run Try.prog w = .ok (.value (.slice p n c)) w := by
  simp [execOp, h, hx, go_sem, h0]
theorem ex_load_code {x : Operand} {g j n c : Nat} {p : Option Addr} (h : o.op = .load 28 x) (hx : ev x = .pointer (some ⟨g, j, none⟩)) (h0 : w.cell? ⟨g, j, none⟩ = some (.slice p n c)) : (execOp ev o).run Try.prog w = .ok (.value (.slice p n c)) w := by
  simp [execOp, h, hx, go_sem, h0]
theorem ex_load_int {x : Operand} {g j : Nat} {z : Int} (h : o.op = .load 3 x) (hx : ev x = .pointer (some ⟨g, j, none⟩)) (h0 : w.cell? ⟨g, j, none⟩ = some (.int .i64 z)) : (execOp ev o).run Try.prog w = .ok (.value (.int .i64 z)) w := by
  simp [execOp, h, hx, go_sem, h0]
theorem ex_load_u8 {x : Operand} {g j : Nat} {z : Int} (h : o.op = .load 5 x) (hx : ev x = .pointer (some ⟨g, j, none⟩)) (h0 : w.cell? ⟨g, j, none⟩ = some (.int .u8 z)) : (execOp ev o).run Try.prog w = .ok (.value (.int .u8 z)) w := by
  simp [execOp, h, hx, go_sem, h0]
theorem ex_field {x : Operand} {g k : Nat} (hk : k < 5) (h : o.op = .fieldAddr 30 x k) (hx : ev x = .pointer (some ⟨g, 0, none⟩)) : (execOp ev o).run Try.prog w = .ok (.value (.pointer (some ⟨g, k, none⟩))) w := by
  match k, hk with
  | 0, _ => simp [execOp, h, hx, go_sem]
  | 1, _ => simp [execOp, h, hx, go_sem]
  | 2, _ => simp [execOp, h, hx, go_sem]
  | 3, _ => simp [execOp, h, hx, go_sem]
  | 4, _ => simp [execOp, h, hx, go_sem]
theorem ex_index {x y : Operand} {g j n c : Nat} (h : o.op = .indexAddr 38 x y) (hx : ev x = .slice (some ⟨g, 0, none⟩) n c) (hy : ev y = .int .i64 (j : Int)) (hj : j < n) : (execOp ev o).run Try.prog w = .ok (.value (.pointer (some ⟨g, j, none⟩))) w := by
  have h1 : (j : Int) < (n : Int) := by omega
  simp [execOp, h, hx, hy, go_sem, h1, hj]
theorem ex_eq7 {x : Operand} {z : Int} (h : o.op = .binOp .eql 5 x (.const (.int .u8 7)) 5) (hx : ev x = .int .u8 z) (hc : ev (.const (.int .u8 7)) = .int .u8 7) : (execOp ev o).run Try.prog w = .ok (.value (.bool (z == 7))) w := by
  simp [execOp, h, hx, hc, go_sem]
theorem ex_eqI {x y : Operand} {z u : Int} (h : o.op = .binOp .eql 3 x y 3) (hx : ev x = .int .i64 z) (hy : ev y = .int .i64 u) : (execOp ev o).run Try.prog w = .ok (.value (.bool (z == u))) w := by
  simp [execOp, h, hx, hy, go_sem]
theorem ex_not {x : Operand} {b : Bool} (h : o.op = .unOp .not 4 x) (hx : ev x = .bool b) : (execOp ev o).run Try.prog w = .ok (.value (.bool (!b))) w := by
  simp [execOp, h, hx, go_sem]
theorem ex_callf {P : Program} {c : Call} {f : FuncId} {args : Array Value} (h : o.op = .call c) (hc : c.callee = .value (.func f)) (ha : c.args.map ev = args) (hf : ∀ av W, (callFunc f av).run P W = .ok (.enter f av) W) (hv : ev (.func f) = .func (.func f) #[] #[] := by rfl) : (execOp ev o).run P w = .ok (.enter f args) w := by
  simp [execOp, h, resolve, hc, hv, ha, invoke, go_sem, hf]
theorem ex_store_int {x y : Operand} {g j : Nat} {z : Int} {u : Value} (h : o.op = .store 3 x y) (hx : ev x = .pointer (some ⟨g, j, none⟩)) (hy : ev y = .int .i64 z) (h0 : w.cell? ⟨g, j, none⟩ = some u) (h1 : w.frozen? ⟨g, j, none⟩ = false) : (execOp ev o).run Try.prog w = .ok .skip (w.setCell ⟨g, j, none⟩ (.int .i64 z)) := by
  simp [execOp, h, hx, hy, go_sem, h0, h1]
end

end Go.Proofs.Ytfhleldmkhllaaa

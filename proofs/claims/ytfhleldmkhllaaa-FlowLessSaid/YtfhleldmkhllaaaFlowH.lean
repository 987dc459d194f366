/-
  What Body needs: the places that stay, one behind the other; a row of instructions grown by one; a map of places.
-/
import Derived.Test.YtfhleldmkhllaaaFlowG
import Derived.Maps.Keyed
import Derived.Maps.Own
import Derived.ProofKit
namespace Go.Proofs.Ytfhleldmkhllaaa
open Go.RowKit Go.Maps Flow

/-! ### the places that stay -/
def Kf (l : List Ins) (a : Nat) : List Nat := (List.range' a (l.length - a)).filter (R l) ++ [l.length]
theorem Kf_zero (l : List Ins) : Kf l 0 = (List.range l.length).filter (R l) ++ [l.length] := by
  unfold Kf; rw [Nat.sub_zero, List.range_eq_range']
theorem Kf_cons (l : List Ins) : ∀ a, a ≤ l.length → Kf l a = nx l a :: (if nx l a < l.length then Kf l (nx l a + 1) else []) := by
  refine down l.length ?_
  intro a ih ha
  by_cases h : a < l.length
  · have hr' : List.range' a (l.length - a) = a :: List.range' (a + 1) (l.length - (a + 1)) := by
      rw [show l.length - a = (l.length - (a + 1)) + 1 by omega, List.range'_succ]
    by_cases hr : R l a = true
    · rw [nx_R h hr, if_pos h]
      unfold Kf
      rw [hr', List.filter_cons, if_pos hr]
      rfl
    · rw [nx_not h hr, ← ih (a + 1) (by omega) (by omega)]
      unfold Kf
      rw [hr', List.filter_cons, if_neg hr]
  · have e : a = l.length := by omega
    rw [nx_end (by omega), if_neg (by omega), e]
    unfold Kf
    simp
theorem Kf_at (l : List Ins) : ∀ k a, a ≤ l.length → k < (Kf l a).length → (Kf l a).getD k 0 ≤ l.length ∧ ((Kf l a).getD k 0 = l.length ∨ R l ((Kf l a).getD k 0) = true) ∧ (k + 1 < (Kf l a).length → (Kf l a).getD k 0 < l.length ∧ (Kf l a).getD (k + 1) 0 = nx l ((Kf l a).getD k 0 + 1)) ∧ (k + 1 = (Kf l a).length → (Kf l a).getD k 0 = l.length)
  | 0, a, ha, _ => by
    obtain ⟨a1, a2, a3, a4⟩ := nx_all l a ha
    have e := Kf_cons l a ha
    by_cases h : nx l a < l.length
    · rw [if_pos h] at e
      have e2 := Kf_cons l (nx l a + 1) (by omega)
      rw [e]
      refine ⟨a2, .inr (a3 h), fun _ => ⟨h, ?_⟩, fun q => ?_⟩
      · show (Kf l (nx l a + 1)).getD 0 0 = _
        rw [e2]; rfl
      · rw [e2] at q; simp at q
    · rw [if_neg h] at e
      rw [e]
      have : nx l a = l.length := by omega
      refine ⟨a2, .inl this, fun q => ?_, fun _ => this⟩
      simp at q
  | k + 1, a, ha, hk => by
    have e := Kf_cons l a ha
    by_cases h : nx l a < l.length
    · rw [if_pos h] at e
      rw [e] at hk ⊢
      obtain ⟨a1, a2, a3, a4⟩ := Kf_at l k (nx l a + 1) (by omega) (by simpa using hk)
      refine ⟨a1, a2, fun q => a3 (by simpa using q), fun q => a4 (by simpa using q)⟩
    · rw [if_neg h] at e
      rw [e] at hk
      simp at hk
/-- The row of places. -/
def Kp (l : List Ins) : List Nat := (List.range l.length).filter (R l) ++ [l.length]
theorem Kp_pos (l : List Ins) : 0 < (Kp l).length := by simp [Kp]
theorem Kp_len (l : List Ins) : (Kp l).length ≤ l.length + 1 := by
  unfold Kp
  rw [List.length_append, List.length_singleton]
  have := List.length_filter_le (R l) (List.range l.length)
  rw [List.length_range] at this
  omega
theorem Kp_at (l : List Ins) {k : Nat} (hk : k < (Kp l).length) : (Kp l).getD k 0 ≤ l.length ∧ ((Kp l).getD k 0 = l.length ∨ R l ((Kp l).getD k 0) = true) ∧ (k + 1 < (Kp l).length → (Kp l).getD k 0 < l.length ∧ (Kp l).getD (k + 1) 0 = nx l ((Kp l).getD k 0 + 1)) ∧ (k + 1 = (Kp l).length → (Kp l).getD k 0 = l.length) := by
  have e : Kp l = Kf l 0 := (Kf_zero l).symm
  rw [e] at hk ⊢
  exact Kf_at l k 0 (Nat.zero_le _) hk
theorem Kp_first (l : List Ins) : (Kp l).getD 0 0 = nx l 0 := by
  have e : Kp l = Kf l 0 := (Kf_zero l).symm
  rw [e, Kf_cons l 0 (Nat.zero_le _)]; rfl
theorem Kp_start (l : List Ins) : pl l ((Kp l).getD 0 0) = 0 ∧ ou l ((Kp l).getD 0 0) = [] := by
  rw [Kp_first]
  obtain ⟨a1, a2, a3, a4⟩ := nx_all l 0 (Nat.zero_le _)
  exact none_R (fun ⟨i, h1, h2⟩ => a4 i (Nat.zero_le _) h1 h2)
/-- The step of both loops. -/
theorem Kp_step (l : List Ins) {k : Nat} (hk : k + 1 < (Kp l).length) : (Kp l).getD k 0 < l.length ∧ R l ((Kp l).getD k 0) = true ∧ (ad l ((Kp l).getD k 0) = true ↔ T l ((Kp l).getD k 0 + 1) ≠ (Kp l).getD (k + 1) 0) ∧ pl l ((Kp l).getD (k + 1) 0) = pl l ((Kp l).getD k 0) + (if ad l ((Kp l).getD k 0) = true then 2 else 1) ∧ ou l ((Kp l).getD (k + 1) 0) = ou l ((Kp l).getD k 0) ++ blk l ((Kp l).getD k 0) := by
  obtain ⟨a1, a2, a3, a4⟩ := Kp_at l (k := k) (by omega)
  obtain ⟨b1, b2⟩ := a3 hk
  have hr : R l ((Kp l).getD k 0) = true := by
    rcases a2 with q | q
    · omega
    · exact q
  rw [b2]
  obtain ⟨c1, c2⟩ := pl_next (l := l) b1 hr
  refine ⟨b1, hr, ?_, c1, c2⟩
  unfold ad
  simp
theorem Kp_mem {l : List Ins} {q : Nat} (hq : q ≤ l.length) (h : q = l.length ∨ R l q = true) : q ∈ Kp l := by
  unfold Kp
  rw [List.mem_append]
  by_cases e : q = l.length
  · exact .inr (by simp [e])
  · refine .inl (List.mem_filter.2 ⟨List.mem_range.2 (by omega), ?_⟩)
    rcases h with q' | q'
    · exact absurd q' e
    · exact q'
theorem Kp_nodup (l : List Ins) : (Kp l).Nodup := by
  unfold Kp
  rw [List.nodup_append]
  refine ⟨List.Pairwise.filter _ List.nodup_range, by simp, ?_⟩
  intro a ha b hb
  have := List.mem_range.1 (List.mem_filter.1 ha).1
  simp at hb
  omega
theorem Kp_last (l : List Ins) : (Kp l).getD ((Kp l).length - 1) 0 = l.length := by
  have h := Kp_pos l
  exact (Kp_at l (k := (Kp l).length - 1) (by omega)).2.2.2 (by omega)

/-! ### a row grown by one -/
theorem append_ins {ops : Array Oper} {rest : List Oper} {o : Oper} {a : Act} {Q : Exit → Act → World → Prop} {w : World} (hgd : o.guard = none) (s x : Operand)
    (ho : o.op = .call { callee := .builtin .append, args := #[s, x], argTypes := #[22, 22] })
    (base g cap : Nat) (xs : List Ins) (hs : a.eval s = .slice (some ⟨g, 0, none⟩) xs.length cap) (hown : OwnG w base g cap xs) (gb : Nat) (y : Ins) (ev : Value) (hx : a.eval x = .slice (some ⟨gb, 0, none⟩) 1 1) (hc : w.heap[gb]? = some (.cells #[.int .u8 y.k, .int .i64 y.a, .int .i64 y.b, ev, .int .i64 y.to] 30 (0, 0))) (hcode : CodeAt w (fun b => b ≠ g) ev y.e)
    (hl : (xs.length + 1) * 56 ≤ 140737488355328) (hbase : base ≤ w.heap.size)
    (h : ∀ g2 cap2 w', OwnG w' base g2 cap2 (xs ++ [y]) → w.grownBy w' (some g) → wpList Try.prog ops Q rest (a.put o.dst (.slice (some ⟨g2, 0, none⟩) (xs.length + 1) cap2)) w') : wpList Try.prog ops Q (o :: rest) a w := by
  obtain ⟨i0, hi, hz0, hz1, hz2⟩ := info_parts infoIns
  have hlt := hown.lt
  obtain ⟨h1, ⟨cur, h2, h2'⟩, h3, h4, h5⟩ := hown
  have hrow : w.ownsRow base 30 5 (.slice (some ⟨g, 0, none⟩) xs.length cap) xs.length (cur.toList.take (xs.length * 5)) := by
    refine ⟨?_, .inr ⟨g, cap, cur, rfl, h1, h2, h3, h4, h2', rfl⟩⟩
    have hcl : cur.toList.length = cap * 5 := (Array.length_toList).trans h2'
    rw [List.length_take, hcl]
    have := Nat.mul_le_mul_right 5 h3
    omega
  obtain ⟨pe, ce, rfl⟩ := hcode.shape
  refine wpList_append_lies _ hgd s x _ ho base 30 i0 _ 5 56 Try.underlying22 hi hz0 hz1 hz2 rfl (by decide) _ _ _ hs hrow ⟨gb, 0, none⟩ 1 1 (insC y (.slice pe y.e.length ce)) hx rfl (World.news_of_block hc) (fun u hu => by
    simp only [insC, List.mem_cons, List.not_mem_nil, or_false] at hu
    rcases hu with rfl | rfl | rfl | rfl | rfl <;> rfl) (by decide) (by unfold maxLen; omega) hl hbase _ rfl ?_
  intro g2 cap2 w' k1 k2 k3 k4
  obtain ⟨c1, c2, c3, c4, c5⟩ := copied k1
  have hob : (Value.slice (some ⟨g, 0, none⟩) xs.length cap).ownBlock = some g := rfl
  rw [hob] at k2 k3
  have hg2 : ∀ b, b < w.heap.size → b ≠ g → b ≠ g2 := fun b hb hne e => by
    rcases k3 with q | q
    · exact hne (by rw [e]; exact (Option.some.inj q).symm)
    · omega
  have hcodes : ∀ ev' e', CodeAt w (fun b => b ≠ g) ev' e' → CodeAt w' (fun b => b ≠ g2) ev' e' := fun ev' e' hh => hh.keep k2.size fun b hb hne => ⟨hg2 b hb hne, fun i => k2.cell_far ⟨b, i, none⟩ hb (fun q => hne (Option.some.inj q))⟩
  have hlen : (cur.toList.take (xs.length * 5)).length = xs.length * 5 := hrow.1
  refine h g2 cap2 w' ⟨c1, ?_, by simpa using c3, c4, fun j hj => ?_⟩ k2
  · rcases k1.2 with ⟨q, -⟩ | ⟨g', cap', cur', q1, q2, q3, q4, q5, q6, -⟩
    · cases q
    · simp only [Value.slice.injEq, Option.some.injEq, Addr.mk.injEq, and_true, true_and] at q1
      obtain ⟨rfl, rfl⟩ := q1
      exact ⟨cur', q3, q6⟩
  · rw [List.length_append, List.length_singleton] at hj
    by_cases hjl : j < xs.length
    · have e1 : at' (xs ++ [y]) j = at' xs j := by
        unfold at'
        exact getD_app hjl
      rw [e1]
      refine (h5 j hjl).move (fun i hi => ?_) (fun ev' hh => hcodes ev' _ hh)
      rw [c5 (j * 5 + i) (by omega), List.getElem?_append_left (by rw [hlen]; omega), List.getElem?_take_of_lt (by omega), Array.getElem?_toList]
      simp [World.cell?, h2]
    · have ej : j = xs.length := by omega
      have e1 : at' (xs ++ [y]) j = y := by
        unfold at'
        rw [ej, List.getD_eq_getElem?_getD, List.getElem?_append_right (Nat.le_refl _)]
        simp
      rw [e1, ej]
      have hcell : ∀ i, i < 5 → w'.cell? ⟨g2, xs.length * 5 + i, none⟩ = (insC y (.slice pe y.e.length ce))[i]? := fun i hi => by
        rw [c5 _ (by omega), List.getElem?_append_right (by rw [hlen]; omega), hlen, Nat.add_sub_cancel_left]
      exact ⟨hcell 0 (by omega), hcell 1 (by omega), hcell 2 (by omega), ⟨_, hcell 3 (by omega), hcodes _ _ hcode⟩, hcell 4 (by omega)⟩

/-! ### a map of places -/
def PMap (w : World) (m : Nat) (es : List (Nat × Nat)) : Prop :=
  ∃ arr clock, w.heap[m]? = some (.map arr clock) ∧ arr.toList.map (fun e => (e.key, e.val)) = es.map (fun p => (Value.int .i64 (p.1 : Int), Value.int .i64 (p.2 : Int))) ∧ (∀ p ∈ es, (Lit.int .i64 (p.1 : Int)).wf = true) ∧ (es.map Prod.fst).Nodup
theorem PMap.empty (w : World) (m : Nat) (h : w.heap[m]? = some (.map #[] 0)) : PMap w m [] := ⟨#[], 0, h, rfl, by simp, by simp⟩
theorem PMap.kept {w w' : World} {m : Nat} {es : List (Nat × Nat)} (h : PMap w m es) (hb : w'.heap[m]? = w.heap[m]?) : PMap w' m es := by
  obtain ⟨arr, clock, h1, h2⟩ := h
  exact ⟨arr, clock, hb.trans h1, h2⟩
theorem PMap.lt {w : World} {m : Nat} {es : List (Nat × Nat)} (h : PMap w m es) : m < w.heap.size := by
  obtain ⟨arr, clock, hb, -⟩ := h
  exact (Array.getElem?_eq_some_iff.1 hb).1
section
variable {P : Program} {k T e : TypeId} {w : World} {m : Nat} {es : List (Nat × Nat)}
theorem PMap.keys {arr : Array MapEntry} (h : arr.toList.map (fun e => (e.key, e.val)) = es.map (fun p => (Value.int .i64 (p.1 : Int), Value.int .i64 (p.2 : Int)))) {x : MapEntry} (hx : x ∈ arr.toList) : ∃ p ∈ es, x.key = .int .i64 (p.1 : Int) ∧ x.val = .int .i64 (p.2 : Int) := by
  have : (x.key, x.val) ∈ arr.toList.map (fun e => (e.key, e.val)) := List.mem_map.2 ⟨x, hx, rfl⟩
  rw [h] at this
  obtain ⟨p, hp, he⟩ := List.mem_map.1 this
  simp only [Prod.mk.injEq] at he
  exact ⟨p, hp, he.1.symm, he.2.symm⟩
theorem PMap.look (h : PMap w m es) (hk : P.underlying k = some (.int .i64)) (ht : P.underlying T = some (.map k e)) {x v : Nat} (hx : (x, v) ∈ es) :
    (Instr.lookup T (.map (some m)) (.int .i64 (x : Int)) false).run P w = .ok (.int .i64 (v : Int)) w := by
  obtain ⟨arr, clock, hb, h1, h2, h3⟩ := h
  have K := int_keyed hk
  have hkey := keyOf_int_mk hk (h2 _ hx)
  rcases K.find w hkey arr.toList (fun y hy => by obtain ⟨p, hp, e1, -⟩ := PMap.keys h1 hy; exact ⟨_, by rw [e1]; exact keyOf_int_mk hk (h2 _ hp)⟩) with ⟨f1, f2⟩ | ⟨j, e0, f1, f2, f3⟩
  · exfalso
    have : (Value.int .i64 (x : Int), Value.int .i64 (v : Int)) ∈ arr.toList.map (fun e => (e.key, e.val)) := by rw [h1]; exact List.mem_map.2 ⟨_, hx, rfl⟩
    obtain ⟨y, hy, he⟩ := List.mem_map.1 this
    simp only [Prod.mk.injEq] at he
    exact f2 y hy he.1
  · obtain ⟨p, hp, e1, e2⟩ := PMap.keys h1 (List.mem_of_getElem? f2)
    have hpx : p.1 = x := by rw [f3] at e1; simp at e1; omega
    have hv : p.2 = v := by
      have : ∀ (l : List (Nat × Nat)), (l.map Prod.fst).Nodup → p ∈ l → (x, v) ∈ l → p.2 = v := by
        intro l
        induction l with
        | nil => intro _ hp; cases hp
        | cons q l ih =>
          intro hn hp hx
          rw [List.map_cons, List.nodup_cons] at hn
          rcases List.mem_cons.1 hp with rfl | hp' <;> rcases List.mem_cons.1 hx with hx' | hx'
          · rw [← hx']
          · exact absurd (List.mem_map.2 ⟨_, hx', hpx.symm⟩) hn.1
          · exact absurd (List.mem_map.2 ⟨_, hp', by rw [← hx']; exact hpx⟩) hn.1
          · exact ih hn.2 hp' hx'
      exact this es h3 hp hx
    simp [Instr.lookup, run_underlying ht, MapKept.run_getObj_map hb, K.check w _ hkey, f1, Result.andThen, e2, hv]
theorem PMap.put (h : PMap w m es) (hk : P.underlying k = some (.int .i64)) (ht : P.underlying T = some (.map k e)) {x : Nat} (v : Nat) (hw : (Lit.int .i64 (x : Int)).wf = true) (hx : ∀ p ∈ es, p.1 ≠ x) :
    ∃ w', (Instr.mapUpdate T (.map (some m)) (.int .i64 (x : Int)) (.int .i64 (v : Int))).run P w = .ok () w' ∧ PMap w' m (es ++ [(x, v)]) ∧ w.grownBy w' (some m) := by
  obtain ⟨arr, clock, hb, h1, h2, h3⟩ := h
  have K := int_keyed hk
  have hkey := keyOf_int_mk hk hw
  have hg : ∀ o : Obj, w.grownBy (ChangeMaps.setBlock w m o) (some m) := fun o => ⟨rfl, rfl, rfl, by simp [ChangeMaps.setBlock], fun i _ hi => ChangeMaps.heap_setBlock_other hb o (fun e => hi (by rw [e]))⟩
  rcases K.find w hkey arr.toList (fun y hy => by obtain ⟨p, hp, e1, -⟩ := PMap.keys h1 hy; exact ⟨_, by rw [e1]; exact keyOf_int_mk hk (h2 _ hp)⟩) with ⟨f1, f2⟩ | ⟨j, e0, f1, f2, f3⟩
  · refine ⟨ChangeMaps.setBlock w m (.map (arr.push ⟨.int .i64 (x : Int), .int .i64 (v : Int), clock⟩) (clock + 1)), ?_, ⟨_, _, ChangeMaps.heap_setBlock_same hb _, ?_, ?_, ?_⟩, hg _⟩
    · simp [Instr.mapUpdate, run_underlying ht, MapKept.run_getObj_map hb, K.check w false hkey, f1, MapKept.run_setObj_map _ hb, Result.andThen, ChangeMaps.setBlock]
    · rw [Array.toList_push, List.map_append, List.map_append, h1]; rfl
    · intro p hp
      rcases List.mem_append.1 hp with q | q
      · exact h2 p q
      · rw [List.mem_singleton.1 q]; exact hw
    · rw [List.map_append, List.nodup_append]
      refine ⟨h3, by simp, ?_⟩
      intro a ha b hb2
      obtain ⟨p, hp, rfl⟩ := List.mem_map.1 ha
      simp at hb2
      rw [hb2]
      exact hx p hp
  · exfalso
    obtain ⟨p, hp, e1, e2⟩ := PMap.keys h1 (List.mem_of_getElem? f2)
    rw [f3] at e1
    exact hx p hp (by simp at e1; omega)
theorem wpList_upd {ops : Array Oper} {rest : List Oper} {o : Oper} {a : Act} {Q : Exit → Act → World → Prop} (hg : o.guard = none) (mo x v : Operand) (hop : o.op = Op.mapUpdate T mo x v)
    (hk : P.underlying k = some (.int .i64)) (ht : P.underlying T = some (.map k e)) (hm : a.eval mo = .map (some m)) (h : PMap w m es) (key : Nat) (hx : a.eval x = .int .i64 (key : Int)) (val : Nat) (hv : a.eval v = .int .i64 (val : Int)) (hw : (Lit.int .i64 (key : Int)).wf = true) (hn : ∀ p ∈ es, p.1 ≠ key)
    (hK : ∀ w', PMap w' m (es ++ [(key, val)]) → w.grownBy w' (some m) → wpList P ops Q rest (a.put o.dst undef) w') : wpList P ops Q (o :: rest) a w := by
  refine wpList_plain hg fun K' hK' => ?_
  obtain ⟨w', hrun, r1, r2⟩ := h.put hk ht val hw hn
  unfold Oper.wp
  simp [execOp, hop, hm, hx, hv, hrun, Result.andThen]
  exact hK' _ _ (hK w' r1 r2)
end

end Go.Proofs.Ytfhleldmkhllaaa

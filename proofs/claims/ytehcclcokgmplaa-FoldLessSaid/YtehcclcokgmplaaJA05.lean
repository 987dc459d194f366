/-
  Lemmas, joined: WidC, UMap, NumMore, NumMore2.
-/
import Derived.Test.YtehcclcokgmplaaJA04
import Derived.Test.YtehcclcokgmplaaJA01
import Derived.Maps.Keyed
import Derived.Maps.Own
import Derived.ProofKit
import Derived.Laws.Externs
import Derived.Deep.RegionHeld3
/-
  Layer 10's code, walked: given.
-/
namespace Go.Proofs.Ytehcclcokgmplaa
open Go.RowKit

/-- The width of a node that takes nothing, as the code has it. -/
def giveP (p : Prg) (act : Int) (n : Nod) : Int :=
  if n.op = 1 then (if n.a = 0 ∧ fitsP n.v n.w = true then n.w else 0)
  else if n.op = 2 then ofP (if 0 ≤ n.a ∧ n.a < (p.heads.length : Int) then p.heads.getD n.a.toNat [] else []) n.b
  else if n.op = 3 then ofP p.metas n.a
  else if n.op = 4 then ofP (actParams p.acts act) n.a
  else if n.op = 5 then (if n.a = 0 then 9 else 0)
  else if n.op = 6 then (if 0 ≤ n.a ∧ n.a < (p.heads.length : Int) then 1 else 0)
  else 0

set_option maxRecDepth 100000 in
set_option maxHeartbeats 6400000 in
theorem given_any (s : PgS) (p : Prg) (act : Int) (n : Nod) (w : World) (hp : PgOk w s p) (hv : n.v < B * B) :
    Calls Try.prog 19 #[pgV s, .int .i64 act, ndV n] w fun e w' => e = .returned (.int .i64 (giveP p act n)) ∧ Below w.heap.size w w' := by
  obtain ⟨op, k, a, b, v⟩ := n
  dsimp only at hv
  obtain ⟨R, hR⟩ : ∃ R, R = giveP p act ⟨op, k, a, b, v⟩ := ⟨_, rfl⟩
  rw [← hR]
  have HR := Lib.hid hR
  have HFI : Hid (∀ W, Calls Try.prog 28 #[numV v, .int .i64 k] W fun e w' => e = .returned (.bool (fitsP v k)) ∧ Below W.heap.size W w') := fun W => numFits_all v k W hv
  obtain ⟨LH, hLH⟩ : ∃ LH, LH = (if 0 ≤ a ∧ a < (p.heads.length : Int) then p.heads.getD a.toNat [] else []) := ⟨_, rfl⟩
  obtain ⟨dh, hdh⟩ : ∃ dh, dh = decide (0 ≤ a ∧ a < (p.heads.length : Int)) := ⟨_, rfl⟩
  have HHD : Hid (∀ W, Below w.heap.size w W → Calls Try.prog 29 #[.slice s.hp s.hn s.hc, .int .i64 a] W fun e w' => (∃ q m d, e = .returned (.tuple #[.slice q m d, .bool dh]) ∧ IRow W (.slice q m d) LH) ∧ w' = W) := fun W h => by rw [hLH, hdh]; exact atL_any p.heads _ _ _ a W (hp.below h).heads
  have HLH := Lib.hid hLH
  have HDH := Lib.hid hdh
  have HME : Hid (∀ W i, Below w.heap.size w W → Calls Try.prog 30 #[.slice s.mp s.mn s.mc, .int .i64 i] W fun e w' => e = .returned (.tuple #[.int .i64 (ofP p.metas i), .bool (decide (0 ≤ i ∧ i < (p.metas.length : Int)))]) ∧ w' = W) := fun W i h => atI_any p.metas _ _ _ i W (hp.below h).metas
  have HAC : Hid (∀ W i, Below w.heap.size w W → Calls Try.prog 31 #[.slice s.ap s.an s.ac, .int .i64 i] W fun e w' => (∃ q m d v, e = .returned (.tuple #[.agg #[.slice q m d, v], .bool (decide (0 ≤ i ∧ i < (p.acts.length : Int)))]) ∧ (∃ q2 m2 d2, v = .slice q2 m2 d2) ∧ IRow W (.slice q m d) (actParams p.acts i)) ∧ Below W.heap.size W w') := fun W i h => atA_any p.acts _ _ _ i W (hp.below h).acts
  have HOF : Hid (∀ l q m d i W, IRow W (.slice q m d) l → Calls Try.prog 30 #[.slice q m d, .int .i64 i] W fun e w' => e = .returned (.tuple #[.int .i64 (ofP l i), .bool (decide (0 ≤ i ∧ i < (l.length : Int)))]) ∧ w' = W) := fun l q m d i W h => atI_any l q m d i W h
  clear hR hp hv hLH hdh
  unfold pgV ndV
  obtain ⟨x, y, e1, e3, e4⟩ := numV_parts v
  rw [e1] at HFI
  dsimp only
  rw [← e3, ← e4]
  clear e1 e3 e4
  obtain ⟨r2, h2⟩ : ∃ r, r = fitsP v k := ⟨_, rfl⟩
  rw [← h2] at HFI
  have HR2 := Lib.hid h2
  clear h2
  go_enter Try.func19, Try.ntmps19
  go_upto_region 1 with fail
  obtain ⟨W0, hW0⟩ : ∃ W0, W0 = (w.alloc (.cells #[.slice s.hp s.hn s.hc, .slice s.mp s.mn s.mc, .slice s.sp s.sn s.sc, .slice s.ap s.an s.ac, .slice s.tp s.tn s.tc, .slice s.cp s.cn s.cc, .slice s.ep s.en s.ec, .slice s.v1 s.n1 s.c1, .slice s.v2 s.n2 s.c2, .slice s.v3 s.n3 s.c3, .slice s.v4 s.n4 s.c4, .slice s.v5 s.n5 s.c5] 33)).alloc (.cells #[.int .u8 op, .int .i64 k, .int .i64 a, .int .i64 b, .int .u64 (x : Int), .int .u64 (y : Int)] 61) := ⟨_, rfl⟩
  have HB0 : Hid (Below w.heap.size w W0) := by show Below _ _ _; rw [hW0]; exact (by repeat (first | exact Below.refl _ _ | assumption | refine Below.drew ?_ | refine Below.alloc ?_ (by first | omega | (simp <;> omega)) _ | refine Below.setCell ?_ (by first | omega | (simp <;> omega)) _ | refine Below.trans ?_ (Below.mono (by assumption) (by first | omega | (simp <;> omega)))))
  have HPB : Hid (PBox W0 w.heap.size s) := by show _ = _; rw [hW0, Below.heap_alloc _ _ _ (by simp)]; exact heap_new _ _
  have HNB : Hid (NBox W0 (w.heap.size + 1) op k a b x y) := by
    show _ = _
    rw [hW0]
    have := heap_new (w.alloc (.cells #[.slice s.hp s.hn s.hc, .slice s.mp s.mn s.mc, .slice s.sp s.sn s.sc, .slice s.ap s.an s.ac, .slice s.tp s.tn s.tc, .slice s.cp s.cn s.cc, .slice s.ep s.en s.ec, .slice s.v1 s.n1 s.c1, .slice s.v2 s.n2 s.c2, .slice s.v3 s.n3 s.c3, .slice s.v4 s.n4 s.c4, .slice s.v5 s.n5 s.c5] 33)) (.cells #[.int .u8 op, .int .i64 k, .int .i64 a, .int .i64 b, .int .u64 (x : Int), .int .u64 (y : Int)] 61)
    simp only [World.size_alloc] at this
    exact this
  rw [← hW0]
  clear hW0
  obtain ⟨q0, q1, q2, q3, q4, q5, q6, q7, q8, q9, q10, q11⟩ := HPB.out.cells
  obtain ⟨n0, n1, n2, n3, n4, n5⟩ := HNB.out.cells
  clear q2 q4 q5 q6 q7 q8 q9 q10 q11
  have hops : op = 1 ∨ op = 2 ∨ op = 3 ∨ op = 4 ∨ op = 5 ∨ op = 6 ∨ (¬ op = 1 ∧ ¬ op = 2 ∧ ¬ op = 3 ∧ ¬ op = 4 ∧ ¬ op = 5 ∧ ¬ op = 6) := by omega
  rcases hops with rfl | rfl | rfl | rfl | rfl | rfl | ⟨o1, o2, o3, o4, o5, o6⟩
  · cases r2
    all_goals
      go_wp2_with (go_at_call 28; refine (HFI.out _).mono ?_; rintro e w2 ⟨rfl, hb2⟩; obtain ⟨m0, m1, m2, m3, m4, m5⟩ := (HNB.out.below hb2).cells; have HB2 : Hid (Below w.heap.size w w2) := HB0.out.trans (hb2.mono HB0.out.size); clear hb2)
      all_goals
        go_ret
        refine ⟨congrArg (fun b => Ending.returned (.int .i64 b)) ?_, by first | exact HB2.out | exact HB0.out⟩
        rw [HR.out]
        have h := HR2.out.symm
        simp [giveP, *]
  · go_wp2_with (first | (go_at_call 29; refine (HHD.out _ HB0.out).mono ?_; rintro e w2 ⟨⟨q, m, d, rfl, hq⟩, rfl⟩; have HQ := Lib.hid hq; clear hq) | (go_at_call 30; refine (HOF.out _ _ _ _ _ _ HQ.out).mono ?_; rintro e w3 ⟨rfl, rfl⟩))
    go_ret
    refine ⟨congrArg (fun b => Ending.returned (.int .i64 b)) ?_, HB0.out⟩
    rw [HR.out, HLH.out]
    simp [giveP]
  · go_wp2_with (go_at_call 30; refine (HME.out _ _ HB0.out).mono ?_; rintro e w3 ⟨rfl, rfl⟩)
    go_ret
    exact ⟨congrArg (fun b => Ending.returned (.int .i64 b)) HR.out.symm, HB0.out⟩
  · go_wp2_with (first | (go_at_call 31; refine (HAC.out _ _ HB0.out).mono ?_; rintro e w2 ⟨⟨q, m, d, z, rfl, ⟨q2, m2, d2, rfl⟩, hq⟩, hb2⟩; obtain ⟨m0, m1, m2', m3, m4, m5⟩ := (HNB.out.below (hb2.alloc hb2.size (.cells #[.slice q m d, .slice q2 m2 d2] 50))).cells; have HB2 : Hid (Below w.heap.size w w2) := HB0.out.trans (hb2.mono HB0.out.size); have HQ : Hid (∀ W, Below w2.heap.size w2 W → IRow W (.slice q m d) (actParams p.acts act)) := (fun W h2 => (hq.below keepI hb2).below keepI h2); clear hq hb2) | (go_at_call 30; refine (HOF.out _ _ _ _ _ _ (HQ.out _ ((Below.refl _ _).alloc (Nat.le_refl _) _))).mono ?_; rintro e w3 ⟨rfl, rfl⟩))
    go_ret
    exact ⟨congrArg (fun b => Ending.returned (.int .i64 b)) HR.out.symm, HB2.out.alloc HB2.out.size _⟩
  · by_cases h : a = 0
    all_goals
      go_wp2_with fail
      go_ret
      refine ⟨congrArg (fun b => Ending.returned (.int .i64 b)) ?_, HB0.out⟩
      rw [HR.out]
      simp [giveP, *]
  · cases dh
    all_goals
      go_wp2_with (go_at_call 29; refine (HHD.out _ HB0.out).mono ?_; rintro e w2 ⟨⟨q, m, d, rfl, hq⟩, rfl⟩; clear hq)
      all_goals
        go_ret
        refine ⟨congrArg (fun b => Ending.returned (.int .i64 b)) ?_, HB0.out⟩
        rw [HR.out]
        first
          | have h := of_decide_eq_true HDH.out.symm
          | have h := of_decide_eq_false HDH.out.symm
        simp only [giveP]
        simp [h]
  · go_wp2_with fail
    go_ret
    refine ⟨congrArg (fun b => Ending.returned (.int .i64 b)) ?_, HB0.out⟩
    rw [HR.out]
    simp [giveP, *]

end Go.Proofs.Ytehcclcokgmplaa

/-
  A map from small numbers to any values, made by the call: a store of a new key, a look-up.
-/
namespace Go.Proofs.Ytehcclcokgmplaa
open Go.RowKit Go.Maps

/-- Block m is a map of these entries. -/
def UMap (w : World) (m : Nat) (es : List (Int × Value)) : Prop :=
  ∃ arr clock, w.heap[m]? = some (.map arr clock) ∧ arr.toList.map (fun e => (e.key, e.val)) = es.map (fun p => (Value.int .u8 p.1, p.2)) ∧ (∀ p ∈ es, (Lit.int .u8 p.1).wf = true) ∧ (es.map Prod.fst).Nodup

theorem UMap.empty (w : World) (m : Nat) (h : w.heap[m]? = some (.map #[] 0)) : UMap w m [] := ⟨#[], 0, h, rfl, by simp, by simp⟩
section
variable {P : Program} {k T e : TypeId} {w : World} {m : Nat} {es : List (Int × Value)}

theorem UMap.keys {arr : Array MapEntry} (h : arr.toList.map (fun e => (e.key, e.val)) = es.map (fun p => (Value.int .u8 p.1, p.2))) {x : MapEntry} (hx : x ∈ arr.toList) : ∃ p ∈ es, x.key = .int .u8 p.1 ∧ x.val = p.2 := by
  have : (x.key, x.val) ∈ arr.toList.map (fun e => (e.key, e.val)) := List.mem_map.2 ⟨x, hx, rfl⟩
  rw [h] at this
  obtain ⟨p, hp, he⟩ := List.mem_map.1 this
  simp only [Prod.mk.injEq] at he
  exact ⟨p, hp, he.1.symm, he.2.symm⟩

theorem UMap.look (h : UMap w m es) (hk : P.underlying k = some (.int .u8)) (ht : P.underlying T = some (.map k e)) {x : Int} {v : Value} (hx : (x, v) ∈ es) :
    (Instr.lookup T (.map (some m)) (.int .u8 x) true).run P w = .ok (.tuple #[v, .bool true]) w := by
  obtain ⟨arr, clock, hb, h1, h2, h3⟩ := h
  have K := int_keyed hk
  have hkey := keyOf_int_mk hk (h2 _ hx)
  rcases K.find w hkey arr.toList (fun y hy => by obtain ⟨p, hp, e1, -⟩ := UMap.keys h1 hy; exact ⟨_, by rw [e1]; exact keyOf_int_mk hk (h2 _ hp)⟩) with ⟨f1, f2⟩ | ⟨j, e0, f1, f2, f3⟩
  · exfalso
    have : (Value.int .u8 x, v) ∈ arr.toList.map (fun e => (e.key, e.val)) := by rw [h1]; exact List.mem_map.2 ⟨_, hx, rfl⟩
    obtain ⟨y, hy, he⟩ := List.mem_map.1 this
    simp only [Prod.mk.injEq] at he
    exact f2 y hy he.1
  · obtain ⟨p, hp, e1, e2⟩ := UMap.keys h1 (List.mem_of_getElem? f2)
    have hpx : p.1 = x := by rw [f3] at e1; simpa using e1.symm
    have hv : p.2 = v := by
      have : ∀ (l : List (Int × Value)), (l.map Prod.fst).Nodup → p ∈ l → (x, v) ∈ l → p.2 = v := by
        intro l
        induction l with
        | nil => intro _ hp; cases hp
        | cons q l ih =>
          intro hn hp hx
          rw [List.map_cons, List.nodup_cons] at hn
          rcases List.mem_cons.1 hp with rfl | hp' <;> rcases List.mem_cons.1 hx with hx' | hx'
          · rw [← hx']
          · exact absurd (List.mem_map.2 ⟨_, hx', hpx.symm⟩) hn.1
          · exact absurd (List.mem_map.2 ⟨_, hp', by rw [← hx']; exact hpx⟩) hn.1
          · exact ih hn.2 hp' hx'
      exact this es h3 hp hx
    simp [Instr.lookup, run_underlying ht, MapKept.run_getObj_map hb, K.check w _ hkey, f1, Result.andThen, e2, hv]

theorem UMap.miss (h : UMap w m es) (hk : P.underlying k = some (.int .u8)) (ht : P.underlying T = some (.map k e)) {z : Value} (hz : (zeroValue e).run P w = .ok z w) {x : Int} (hw : (Lit.int .u8 x).wf = true) (hx : ∀ p ∈ es, p.1 ≠ x) :
    (Instr.lookup T (.map (some m)) (.int .u8 x) true).run P w = .ok (.tuple #[z, .bool false]) w := by
  obtain ⟨arr, clock, hb, h1, h2, h3⟩ := h
  have K := int_keyed hk
  have hkey := keyOf_int_mk hk hw
  rcases K.find w hkey arr.toList (fun y hy => by obtain ⟨p, hp, e1, -⟩ := UMap.keys h1 hy; exact ⟨_, by rw [e1]; exact keyOf_int_mk hk (h2 _ hp)⟩) with ⟨f1, f2⟩ | ⟨j, e0, f1, f2, f3⟩
  · simp [Instr.lookup, run_underlying ht, MapKept.run_getObj_map hb, K.check w _ hkey, f1, hz, Result.andThen]
  · exfalso
    obtain ⟨p, hp, e1, e2⟩ := UMap.keys h1 (List.mem_of_getElem? f2)
    rw [f3] at e1
    exact hx p hp (by simpa using e1.symm)

theorem UMap.put (h : UMap w m es) (hk : P.underlying k = some (.int .u8)) (ht : P.underlying T = some (.map k e)) {x : Int} (v : Value) (hw : (Lit.int .u8 x).wf = true) (hx : ∀ p ∈ es, p.1 ≠ x) :
    ∃ w', (Instr.mapUpdate T (.map (some m)) (.int .u8 x) v).run P w = .ok () w' ∧ UMap w' m (es ++ [(x, v)]) ∧ w.grownBy w' (some m) := by
  obtain ⟨arr, clock, hb, h1, h2, h3⟩ := h
  have K := int_keyed hk
  have hkey := keyOf_int_mk hk hw
  have hg : ∀ o : Obj, w.grownBy (ChangeMaps.setBlock w m o) (some m) := fun o => ⟨rfl, rfl, rfl, by simp [ChangeMaps.setBlock], fun i _ hi => ChangeMaps.heap_setBlock_other hb o (fun e => hi (by rw [e]))⟩
  rcases K.find w hkey arr.toList (fun y hy => by obtain ⟨p, hp, e1, -⟩ := UMap.keys h1 hy; exact ⟨_, by rw [e1]; exact keyOf_int_mk hk (h2 _ hp)⟩) with ⟨f1, f2⟩ | ⟨j, e0, f1, f2, f3⟩
  · refine ⟨ChangeMaps.setBlock w m (.map (arr.push ⟨.int .u8 x, v, clock⟩) (clock + 1)), ?_, ⟨_, _, ChangeMaps.heap_setBlock_same hb _, ?_, ?_, ?_⟩, hg _⟩
    · simp [Instr.mapUpdate, run_underlying ht, MapKept.run_getObj_map hb, K.check w false hkey, f1, MapKept.run_setObj_map _ hb, Result.andThen, ChangeMaps.setBlock]
    · rw [Array.toList_push, List.map_append, List.map_append, h1]; rfl
    · intro p hp
      rcases List.mem_append.1 hp with q | q
      · exact h2 p q
      · rw [List.mem_singleton.1 q]; exact hw
    · rw [List.map_append, List.nodup_append]
      refine ⟨h3, by simp, ?_⟩
      intro a ha b hb2
      obtain ⟨p, hp, rfl⟩ := List.mem_map.1 ha
      simp at hb2
      rw [hb2]
      exact hx p hp
  · exfalso
    obtain ⟨p, hp, e1, e2⟩ := UMap.keys h1 (List.mem_of_getElem? f2)
    rw [f3] at e1
    exact hx p hp (by simpa using e1.symm)

/-- A map literal's entry, at the operation. -/
theorem wpList_put {ops : Array Oper} {rest : List Oper} {o : Oper} {a : Act} {Q : Exit → Act → World → Prop} (hg : o.guard = none) (mo x v : Operand) (hop : o.op = Op.insert T mo x v)
    (hk : P.underlying k = some (.int .u8)) (ht : P.underlying T = some (.map k e)) (hm : a.eval mo = .map (some m)) (h : UMap w m es) (key : Int) (hx : a.eval x = .int .u8 key) (val : Value) (hv : a.eval v = val) (hw : (Lit.int .u8 key).wf = true) (hn : ∀ p ∈ es, p.1 ≠ key)
    (hK : ∀ w', UMap w' m (es ++ [(key, val)]) → w.grownBy w' (some m) → wpList P ops Q rest (a.put o.dst undef) w') : wpList P ops Q (o :: rest) a w := by
  refine wpList_plain hg fun K' hK' => ?_
  obtain ⟨w', hrun, r1, r2⟩ := h.put hk ht val hw hn
  unfold Oper.wp
  simp [execOp, hop, hm, hx, hv, hrun, Result.andThen]
  exact hK' _ _ (hK w' r1 r2)
end

end Go.Proofs.Ytehcclcokgmplaa

/-
  Contracts of package num: Xor, Not, Add, Sub, Cat, Slice.
-/
namespace Go.Proofs.Ytehcclcokgmplaa
open Go.RowKit

set_option maxRecDepth 100000 in
set_option maxHeartbeats 400000 in
theorem xor1_any (a b : Int) (w : World) :
    Calls Try.prog 81 #[.int .u64 a, .int .u64 b] w fun e w' => e = .returned (.int .u64 (bits BinOp.xor IntKind.u64 a b)) ∧ w' = w := by
  go_enter Try.func81, Try.ntmps81
  go_wp2
  go_ret
  exact ⟨rfl, rfl⟩

set_option maxRecDepth 100000 in
set_option maxHeartbeats 400000 in
theorem both_xor (a b c d : Int) (w : World) :
    Calls Try.prog 49 #[.agg #[.int .u64 a, .int .u64 b], .agg #[.int .u64 c, .int .u64 d], .func (Fn.func 81) #[] #[]] w fun e w' => e = .returned (.agg #[.int .u64 (bits BinOp.xor IntKind.u64 a c), .int .u64 (bits BinOp.xor IntKind.u64 b d)]) ∧ Below w.heap.size w w' := by
  go_enter Try.func49, Try.ntmps49
  go_wp2
  refine wp_region_still_tail 13 (by kernel_rfl) (by kernel_rfl) ?_
  simp only [List.take_succ_cons, List.take_zero, List.drop_succ_cons, List.drop_zero]
  change wpStill _ _ (World.drew _) _ _ _
  repeat (first | still_step | still_call (xor1_any _ _ _))
  refine wpStill_nil ?_
  change wpList _ _ _ _ _ (World.drew _)
  go_wp2
  exact bodyPost_ret (v := .agg #[.int .u64 (bits BinOp.xor IntKind.u64 a c), .int .u64 (bits BinOp.xor IntKind.u64 b d)]) (by simp [results, Try.results49, go_sem]) rfl ⟨rfl, (by repeat (first | exact Below.refl _ _ | assumption | refine Below.drew ?_ | refine Below.alloc ?_ (by first | omega | (simp <;> omega)) _ | refine Below.setCell ?_ (by first | omega | (simp <;> omega)) _ | refine Below.trans ?_ (Below.mono (by assumption) (by first | omega | (simp <;> omega)))))⟩

set_option maxRecDepth 100000 in
set_option maxHeartbeats 400000 in
theorem xor_any (a b c d : Int) (w : World) :
    Calls Try.prog 71 #[.agg #[.int .u64 a, .int .u64 b], .agg #[.int .u64 c, .int .u64 d]] w fun e w' => e = .returned (.agg #[.int .u64 (bits BinOp.xor IntKind.u64 a c), .int .u64 (bits BinOp.xor IntKind.u64 b d)]) ∧ Below w.heap.size w w' := by
  go_enter Try.func71, Try.ntmps71
  go_wp2_with (go_at_call 49; refine (both_xor _ _ _ _ _).mono ?_; rintro e w1 ⟨rfl, hb⟩; obtain ⟨hc, hf⟩ := bcell hb; have hz := hb.size; simp at hz)
  exact bodyPost_ret (v := .agg #[.int .u64 (bits BinOp.xor IntKind.u64 a c), .int .u64 (bits BinOp.xor IntKind.u64 b d)]) (by simp [results, Try.results71, go_sem, hc]) rfl ⟨rfl, (by repeat (first | exact Below.refl _ _ | assumption | refine Below.drew ?_ | refine Below.alloc ?_ (by first | omega | (simp <;> omega)) _ | refine Below.setCell ?_ (by first | omega | (simp <;> omega)) _ | refine Below.trans ?_ (Below.mono (by assumption) (by first | omega | (simp <;> omega)))))⟩

theorem numXor_any (a b : Nat) (w : World) (ha : a < B * B) (hb : b < B * B) : Calls Try.prog 71 #[numV a, numV b] w (RetNum w (a ^^^ b)) :=
  (xor_any _ _ _ _ w).mono fun e w' ⟨h1, h2⟩ => ⟨by rw [h1, xor_num a b ha hb], h2⟩

set_option maxRecDepth 100000 in
set_option maxHeartbeats 400000 in
theorem numNot_any (n : Nat) (k : Int) (w : World) (hn : n < B * B) : Calls Try.prog 56 #[numV n, .int .i64 k] w (RetNum w ((n % 2 ^ sh k) ^^^ (2 ^ sh k - 1))) := by
  have hlt : n % 2 ^ sh k < B * B := Nat.lt_of_le_of_lt (Nat.mod_le _ _) hn
  have HC : Hid (∀ W, Calls Try.prog 39 #[numV n, .int .i64 k] W (RetNum W (n % 2 ^ sh k))) := fun W => numCut_any n k W hn
  have HM : Hid (∀ W, Calls Try.prog 37 #[.int .i64 k] W (RetNum W (2 ^ sh k - 1))) := fun W => numMask_any k W
  have HX : Hid (∀ W, Calls Try.prog 71 #[numV (n % 2 ^ sh k), numV (2 ^ sh k - 1)] W (RetNum W ((n % 2 ^ sh k) ^^^ (2 ^ sh k - 1)))) := fun W => numXor_any _ _ W hlt (mask_lt k)
  generalize n % 2 ^ sh k = m at *
  generalize 2 ^ sh k - 1 = q at *
  generalize m ^^^ q = r at *
  obtain ⟨y, z, he, -, -⟩ := numV_parts n
  obtain ⟨y1, z1, he1, -, -⟩ := numV_parts m
  obtain ⟨y2, z2, he2, -, -⟩ := numV_parts q
  obtain ⟨y3, z3, he3, -, -⟩ := numV_parts r
  have HR := Lib.hid he3
  unfold RetNum at HC HM HX
  rw [he, he1] at HC
  rw [he2] at HM
  rw [he1, he2, he3] at HX
  rw [he]
  clear he he1 he2 he3 hn hlt
  go_enter Try.func56, Try.ntmps56
  go_wp2_with (first
    | (go_at_call 39; refine (HC.out _).mono ?_; rintro e w1 ⟨rfl, hb1⟩; obtain ⟨hc1, hf1⟩ := bcell hb1; have hz1 := hb1.size; simp at hz1; have L1 : w.heap.size + 1 < w1.heap.size := by omega)
    | (go_at_call 37; refine (HM.out _).mono ?_; rintro e w2 ⟨rfl, hb2⟩; obtain ⟨hc2, hf2⟩ := bcell hb2; have hz2 := hb2.size; have L2 : w.heap.size + 1 < w2.heap.size := by omega)
    | (go_at_call 71; refine (HX.out _).mono ?_; rintro e w3 ⟨rfl, hb3⟩; obtain ⟨hc3, hf3⟩ := bcell hb3; have hz3 := hb3.size; have L3 : w.heap.size + 1 < w3.heap.size := by omega))
  exact bodyPost_ret (v := .agg #[.int .u64 (y3 : Int), .int .u64 (z3 : Int)]) (by simp [results, Try.results56, go_sem, hc1, hc2, hc3, L1, L2]) rfl ⟨by rw [HR.out], (by repeat (first | exact Below.refl _ _ | assumption | refine Below.drew ?_ | refine Below.alloc ?_ (by first | omega | (simp <;> omega)) _ | refine Below.setCell ?_ (by first | omega | (simp <;> omega)) _ | refine Below.trans ?_ (Below.mono (by assumption) (by first | omega | (simp <;> omega)))))⟩

theorem add64_call (x y c : Nat) (hc : c ≤ 1) (w : World) : (callFunc 80 #[.int .u64 x, .int .u64 y, .int .u64 c]).run Try.prog w =
      .ok (.value (.tuple #[.int .u64 (((x + y + c) % B : Nat) : Int), .int .u64 (((x + y + c) / B : Nat) : Int)])) w := by
  rw [run_callFunc_extern (show Try.prog.funcs[80]? = some Try.f80 by kernel_rfl) (by kernel_rfl) (by kernel_rfl) (by kernel_rfl) (e := add64Entry) (by kernel_rfl), run_add64 x y c (by omega) (by omega) (by omega) (by omega)]
  simp only [Result.andThen]
  unfold B
  congr 5 <;> omega

/-- The model's entry for a difference with a borrow. -/
def sub64E : Array Value → Sem Value := fun args => do
  let (x, y, b) ← Extern.MathBitsCarry.three "Sub64" args
  pure (Extern.MathBitsCarry.pair ((x + Extern.MathBitsCarry.m64 - y - b) % Extern.MathBitsCarry.m64) (if x < y + b then 1 else 0))
theorem run_sub64E (x y b : Nat) (hb : b ≤ 1) (w : World) :
    (sub64E #[.int .u64 x, .int .u64 y, .int .u64 b]).run Try.prog w =
      .ok (.tuple #[.int .u64 (((x + 18446744073709551616 - y - b) % 18446744073709551616 : Nat) : Int), .int .u64 ((if x < y + b then 1 else 0 : Nat) : Int)]) w := by
  have : b = 0 ∨ b = 1 := by omega
  rcases this with rfl | rfl <;> rfl
theorem sub64_call (x y c : Nat) (hc : c ≤ 1) (w : World) : (callFunc 79 #[.int .u64 x, .int .u64 y, .int .u64 c]).run Try.prog w =
      .ok (.value (.tuple #[.int .u64 (((x + B - y - c) % B : Nat) : Int), .int .u64 ((if x < y + c then 1 else 0 : Nat) : Int)])) w := by
  rw [run_callFunc_extern (show Try.prog.funcs[79]? = some Try.f79 by kernel_rfl) (by kernel_rfl) (by kernel_rfl) (by kernel_rfl) (e := sub64E) (by kernel_rfl), run_sub64E x y c hc]
  rfl

theorem add_parts {a b lo c hi : Nat} (_ha : a < B * B) (_hb : b < B * B) (hlo : lo = (a % B + b % B + 0) % B) (hc : c = (a % B + b % B + 0) / B) (hhi : hi = (a / B + b / B + c) % B) : hi * B + lo = (a + b) % (B * B) ∧ lo < B ∧ c ≤ 1 := by
  unfold B at *
  omega
theorem sub_parts {a b lo c hi : Nat} (ha : a < B * B) (hb : b < B * B) (hlo : lo = (a % B + B - b % B - 0) % B) (hc : c = if a % B < b % B + 0 then 1 else 0) (hhi : hi = (a / B + B - b / B - c) % B) : hi * B + lo = (a + (B * B - b)) % (B * B) ∧ lo < B ∧ c ≤ 1 := by
  unfold B at *
  split at hc <;> omega

end Go.Proofs.Ytehcclcokgmplaa

/-
  Contracts of num.Add and num.Sub.
-/
namespace Go.Proofs.Ytehcclcokgmplaa
open Go.RowKit

set_option maxRecDepth 100000 in
set_option maxHeartbeats 800000 in
theorem numAdd_any (a b : Nat) (k : Int) (w : World) (ha : a < B * B) (hb : b < B * B) : Calls Try.prog 67 #[numV a, numV b, .int .i64 k] w (RetNum w ((a + b) % (B * B) % 2 ^ sh k)) := by
  have hlt : (a + b) % (B * B) < B * B := Nat.mod_lt _ (by unfold B; omega)
  have HC : Hid (∀ W, Calls Try.prog 39 #[numV ((a + b) % (B * B)), .int .i64 k] W (RetNum W ((a + b) % (B * B) % 2 ^ sh k))) := fun W => numCut_any _ k W hlt
  obtain ⟨lo, hlo⟩ : ∃ lo, lo = (a % B + b % B + 0) % B := ⟨_, rfl⟩
  obtain ⟨c, hc⟩ : ∃ c, c = (a % B + b % B + 0) / B := ⟨_, rfl⟩
  obtain ⟨hi, hhi⟩ : ∃ hi, hi = (a / B + b / B + c) % B := ⟨_, rfl⟩
  obtain ⟨c2, hc2⟩ : ∃ c2, c2 = (a / B + b / B + c) / B := ⟨_, rfl⟩
  obtain ⟨e1, e2, e3⟩ := add_parts ha hb hlo hc hhi
  have h1 : ∀ W, (callFunc 80 #[.int .u64 (a % B : Nat), .int .u64 (b % B : Nat), .int .u64 0]).run Try.prog W = .ok (.value (.tuple #[.int .u64 (lo : Int), .int .u64 (c : Int)])) W := fun W => by
    rw [hlo, hc]; exact add64_call _ _ 0 (by omega) W
  have h2 : ∀ W, (callFunc 80 #[.int .u64 (a / B : Nat), .int .u64 (b / B : Nat), .int .u64 (c : Nat)]).run Try.prog W = .ok (.value (.tuple #[.int .u64 (hi : Int), .int .u64 (c2 : Int)])) W := fun W => by
    rw [hhi, hc2]; exact add64_call _ _ c e3 W
  have hv := numV_mk hi lo e2
  rw [e1] at hv
  generalize (a + b) % (B * B) % 2 ^ sh k = r at *
  generalize (a + b) % (B * B) = m at *
  obtain ⟨y3, z3, he3, -, -⟩ := numV_parts r
  have HR := Lib.hid he3
  unfold RetNum at HC
  rw [← hv, he3] at HC
  obtain ⟨ah, al, hea, qa, qb⟩ := numV_parts a
  obtain ⟨bh, bl, heb, qc, qd⟩ := numV_parts b
  rw [← qb, ← qd] at h1
  rw [← qa, ← qc] at h2
  rw [hea, heb]
  clear hlt hlo hc hhi hc2 e1 e2 e3 hv he3 hea heb qa qb qc qd ha hb
  go_enter Try.func67, Try.ntmps67
  go_wp2_with (first
    | simp only []
    | simp only [h2]
    | (go_at_call 39; refine (HC.out _).mono ?_; rintro e w1 ⟨rfl, hb1⟩; obtain ⟨hc1, hf1⟩ := bcell hb1; have hz1 := hb1.size; simp at hz1; have L1 : w.heap.size + 1 < w1.heap.size := by omega))
  exact bodyPost_ret (v := .agg #[.int .u64 (y3 : Int), .int .u64 (z3 : Int)]) (by simp [results, Try.results67, go_sem, hc1]) rfl ⟨by rw [HR.out], (by repeat (first | exact Below.refl _ _ | assumption | refine Below.drew ?_ | refine Below.alloc ?_ (by first | omega | (simp <;> omega)) _ | refine Below.setCell ?_ (by first | omega | (simp <;> omega)) _ | refine Below.trans ?_ (Below.mono (by assumption) (by first | omega | (simp <;> omega)))))⟩

set_option maxRecDepth 100000 in
set_option maxHeartbeats 800000 in
theorem numSub_any (a b : Nat) (k : Int) (w : World) (ha : a < B * B) (hb : b < B * B) : Calls Try.prog 58 #[numV a, numV b, .int .i64 k] w (RetNum w ((a + (B * B - b)) % (B * B) % 2 ^ sh k)) := by
  have hlt : (a + (B * B - b)) % (B * B) < B * B := Nat.mod_lt _ (by unfold B; omega)
  have HC : Hid (∀ W, Calls Try.prog 39 #[numV ((a + (B * B - b)) % (B * B)), .int .i64 k] W (RetNum W ((a + (B * B - b)) % (B * B) % 2 ^ sh k))) := fun W => numCut_any _ k W hlt
  obtain ⟨lo, hlo⟩ : ∃ lo, lo = (a % B + B - b % B - 0) % B := ⟨_, rfl⟩
  obtain ⟨c, hc⟩ : ∃ c, c = if a % B < b % B + 0 then 1 else 0 := ⟨_, rfl⟩
  obtain ⟨hi, hhi⟩ : ∃ hi, hi = (a / B + B - b / B - c) % B := ⟨_, rfl⟩
  obtain ⟨c2, hc2⟩ : ∃ c2, c2 = if a / B < b / B + c then 1 else 0 := ⟨_, rfl⟩
  obtain ⟨e1, e2, e3⟩ := sub_parts ha hb hlo hc hhi
  have h1 : ∀ W, (callFunc 79 #[.int .u64 (a % B : Nat), .int .u64 (b % B : Nat), .int .u64 0]).run Try.prog W = .ok (.value (.tuple #[.int .u64 (lo : Int), .int .u64 (c : Int)])) W := fun W => by
    rw [hlo, hc]; exact sub64_call _ _ 0 (by omega) W
  have h2 : ∀ W, (callFunc 79 #[.int .u64 (a / B : Nat), .int .u64 (b / B : Nat), .int .u64 (c : Nat)]).run Try.prog W = .ok (.value (.tuple #[.int .u64 (hi : Int), .int .u64 (c2 : Int)])) W := fun W => by
    rw [hhi, hc2]; exact sub64_call _ _ c e3 W
  have hv := numV_mk hi lo e2
  rw [e1] at hv
  generalize (a + (B * B - b)) % (B * B) % 2 ^ sh k = r at *
  generalize (a + (B * B - b)) % (B * B) = m at *
  obtain ⟨y3, z3, he3, -, -⟩ := numV_parts r
  have HR := Lib.hid he3
  unfold RetNum at HC
  rw [← hv, he3] at HC
  obtain ⟨ah, al, hea, qa, qb⟩ := numV_parts a
  obtain ⟨bh, bl, heb, qc, qd⟩ := numV_parts b
  rw [← qb, ← qd] at h1
  rw [← qa, ← qc] at h2
  rw [hea, heb]
  clear hlt hlo hc hhi hc2 e1 e2 e3 hv he3 hea heb qa qb qc qd ha hb
  go_enter Try.func58, Try.ntmps58
  go_wp2_with (first
    | simp only []
    | simp only [h2]
    | (go_at_call 39; refine (HC.out _).mono ?_; rintro e w1 ⟨rfl, hb1⟩; obtain ⟨hc1, hf1⟩ := bcell hb1; have hz1 := hb1.size; simp at hz1; have L1 : w.heap.size + 1 < w1.heap.size := by omega))
  exact bodyPost_ret (v := .agg #[.int .u64 (y3 : Int), .int .u64 (z3 : Int)]) (by simp [results, Try.results58, go_sem, hc1]) rfl ⟨by rw [HR.out], (by repeat (first | exact Below.refl _ _ | assumption | refine Below.drew ?_ | refine Below.alloc ?_ (by first | omega | (simp <;> omega)) _ | refine Below.setCell ?_ (by first | omega | (simp <;> omega)) _ | refine Below.trans ?_ (Below.mono (by assumption) (by first | omega | (simp <;> omega)))))⟩

set_option maxRecDepth 100000 in
set_option maxHeartbeats 800000 in
theorem numSlice_any (n : Nat) (hi lo : Int) (w : World) (hn : n < B * B) (h0 : 0 ≤ lo) (h1 : lo ≤ hi) (h2 : hi < 128) : Calls Try.prog 60 #[numV n, .int .i64 hi, .int .i64 lo] w (RetNum w (n / 2 ^ sh lo % 2 ^ sh (hi - lo + 1))) := by
  have hlt : n / 2 ^ sh lo < B * B := Nat.lt_of_le_of_lt (Nat.div_le_self _ _) hn
  have HS : Hid (∀ W, Calls Try.prog 42 #[numV n, .int .i64 lo] W (RetNum W (n / 2 ^ sh lo))) := fun W => numShr_any n lo W hn
  have HC : Hid (∀ W, Calls Try.prog 39 #[numV (n / 2 ^ sh lo), .int .i64 (hi - lo + 1)] W (RetNum W (n / 2 ^ sh lo % 2 ^ sh (hi - lo + 1)))) := fun W => numCut_any _ _ W hlt
  generalize n / 2 ^ sh lo % 2 ^ sh (hi - lo + 1) = r at *
  generalize n / 2 ^ sh lo = m at *
  obtain ⟨y, z, he, -, -⟩ := numV_parts n
  obtain ⟨y1, z1, he1, -, -⟩ := numV_parts m
  obtain ⟨y3, z3, he3, -, -⟩ := numV_parts r
  have HR := Lib.hid he3
  unfold RetNum at HC HS
  rw [he, he1] at HS
  rw [he1, he3] at HC
  rw [he]
  clear he he1 he3 hn hlt
  go_enter Try.func60, Try.ntmps60
  go_wp2_with (first
    | (go_at_call 42; refine (HS.out _).mono ?_; rintro e w1 ⟨rfl, hb1⟩; obtain ⟨hc1, hf1⟩ := bcell hb1; have hz1 := hb1.size; simp at hz1; have L1 : w.heap.size + 1 < w1.heap.size := by omega)
    | (go_at_call 39; refine (HC.out _).mono ?_; rintro e w2 ⟨rfl, hb2⟩; obtain ⟨hc2, hf2⟩ := bcell hb2; have hz2 := hb2.size; have L2 : w.heap.size + 1 < w2.heap.size := by omega))
  all_goals exact bodyPost_ret (v := .agg #[.int .u64 (y3 : Int), .int .u64 (z3 : Int)]) (by simp [results, Try.results60, go_sem, hc1, hc2, L1]) rfl ⟨by rw [HR.out], (by repeat (first | exact Below.refl _ _ | assumption | refine Below.drew ?_ | refine Below.alloc ?_ (by first | omega | (simp <;> omega)) _ | refine Below.setCell ?_ (by first | omega | (simp <;> omega)) _ | refine Below.trans ?_ (Below.mono (by assumption) (by first | omega | (simp <;> omega)))))⟩

end Go.Proofs.Ytehcclcokgmplaa

/-
  Lemmas, joined: RegS, Zip, Pairs, Fold.
-/
import Derived.Test.YtlnkflmnjkmhkaaJO06
import Derived.Test.YtlnkflmnjkmhkaaJO03
/-
  Regions that draw their order, call a store's functions and lay what is told into new slices: what holds whatever has been done.
-/
namespace Go.Proofs.Ytlnkflmnjkmhkaa
open Go.RowKit Go.Maps

/-- What an operation yields: a known value; a vector; a new slice of one known cell; a new slice of what others yield; the same as another. -/
inductive Kd
  | eq (v : Value)
  | vec (xs : List Int)
  | one (t : TypeId) (z : Value)
  | arr (t : TypeId) (js : List Nat)
  | same (j : Nat)

def Kd.ok (L : Array Bool) (l : List Value) (O : Nat → Prop) (w : World) (i : Nat) : Kd → Prop
  | .eq v => nth l i = v
  | .vec xs => IVecX w O (nth l i) xs
  | .one t z => ∃ g, nth l i = .slice (some ⟨g, 0, none⟩) 1 1 ∧ ¬ O g ∧ w.heap[g]? = some (.cells #[z] t (0, 0))
  | .arr t js => (∀ j ∈ js, did L j = true) ∧ ∃ g, nth l i = .slice (some ⟨g, 0, none⟩) js.length js.length ∧ ¬ O g ∧ w.heap[g]? = some (.cells (js.map (nth l)).toArray t (0, 0))
  | .same j => did L j = true ∧ nth l i = nth l j

structure StoR where
  kd : List Kd
  cs : List Nat
  st : Nat → BS

structure RSg (S : StoR) (b : Nat) (O2 : Nat → Prop) (WB : World) (L : Array Bool) (l : List Value) (w : World) (k : Nat) (O : Nat → Prop) : Prop where
  sto : Sto w b O (S.st k)
  ext : Ext O2 O WB w
  stage : ∀ j c, S.cs[j]? = some c → did L c = decide (j < k)
  ok : ∀ i e, did L i = true → S.kd[i]? = some e → e.ok L l O w i
def RS (S : StoR) (b : Nat) (O2 : Nat → Prop) (WB : World) (L : Array Bool) (l : List Value) (w : World) : Prop := ∃ k O, RSg S b O2 WB L l w k O

variable {S : StoR} {b : Nat} {O2 O O' : Nat → Prop} {WB w w' : World} {L : Array Bool} {l : List Value} {k : Nat}

theorem RS.init (h : ∀ i, did L i = false) (hs : Sto WB b O2 (S.st 0)) (hb : Below WB.heap.size WB w) : RS S b O2 WB L l w :=
  ⟨0, O2, hs.below hb, Ext.of_below hb, (fun j c _ => by rw [h]; simp), fun i e h1 => by rw [h] at h1; cases h1⟩

theorem Kd.old {e : Kd} {i j : Nat} {v : Value} (h : e.ok L l O w j) (he : Ext O O' w w') (hn : did L i = false) (hj : did L j = true) : e.ok (L.setIfInBounds i true) (l.set i v) O' w' j := by
  have ij : i ≠ j := fun q => by rw [q, hj] at hn; cases hn
  have keep : ∀ j, did L j = true → did (L.setIfInBounds i true) j = true ∧ nth (l.set i v) j = nth l j := fun j hj => by
    have ij : i ≠ j := fun q => by rw [q, hj] at hn; cases hn
    exact ⟨by rw [did_other (fun q => ij q.symm)]; exact hj, nth_other ij⟩
  have blk : ∀ g (o : Obj), ¬ O g → w.heap[g]? = some o → ¬ O' g ∧ w'.heap[g]? = some o := fun g o hg hw => by
    have hl := lt_of_block hw
    refine ⟨fun hO => ?_, (he.1.block g hl hg).trans hw⟩
    rcases he.2 g hO with q | q
    · exact hg q
    · omega
  cases e with
  | eq v => exact (nth_other ij).trans h
  | vec xs => show IVecX w' O' (nth (l.set i _) j) xs; rw [nth_other ij]; exact IVecX.ext h he
  | one t z =>
    obtain ⟨g, q1, q2, q3⟩ := h
    exact ⟨g, (nth_other ij).trans q1, blk g _ q2 q3⟩
  | arr t js =>
    obtain ⟨q0, g, q1, q2, q3⟩ := h
    refine ⟨fun j hj => (keep j (q0 j hj)).1, g, (nth_other ij).trans q1, ?_⟩
    have e : js.map (nth (l.set i v)) = js.map (nth l) := List.map_congr_left fun j hj => (keep j (q0 j hj)).2
    rw [e]
    exact blk g _ q2 q3
  | same m => exact ⟨(keep m h.1).1, by rw [(keep j hj).2, (keep m h.1).2]; exact h.2⟩

/-- Behind an operation that is no call of the store's. -/
theorem RS.quiet (i : Nat) (v : Value) (h : RS S b O2 WB L l w) (hn : did L i = false) (hc : (S.cs.all fun c => decide (c ≠ i)) = true) (hb : Below w.heap.size w w')
    (hnew : ∀ O e, (∀ g, O g → g < w.heap.size) → S.kd[i]? = some e → e.ok (L.setIfInBounds i true) (l.set i v) O w' i) : RS S b O2 WB (L.setIfInBounds i true) (l.set i v) w' := by
  obtain ⟨k, O, h⟩ := h
  refine ⟨k, O, h.sto.below hb, h.ext.trans (Ext.of_below hb), fun j c hj => ?_, fun j e hj hk => ?_⟩
  · have : c ≠ i := by
      have := List.all_eq_true.1 hc c (List.mem_of_getElem? hj)
      simpa using this
    rw [did_other this]
    exact h.stage j c hj
  · by_cases ij : j = i
    · subst ij; exact hnew O e (fun g hg => h.sto.lt g hg) hk
    · rw [did_other ij] at hj
      exact Kd.old (h.ok j e hj hk) (Ext.of_below hb) hn hj

/-- A known value. -/
theorem RS.val (i : Nat) (v : Value) (h : RS S b O2 WB L l w) (hn : did L i = false) (hl : i < l.length) (hc : (S.cs.all fun c => decide (c ≠ i)) = true) (hk : S.kd[i]? = some (.eq v)) (hb : Below w.heap.size w w') : RS S b O2 WB (L.setIfInBounds i true) (l.set i v) w' :=
  h.quiet i v hn hc hb fun O e _ he => by rw [hk] at he; cases he; exact nth_same hl
/-- The same as another. -/
theorem RS.copy (i j : Nat) (h : RS S b O2 WB L l w) (hn : did L i = false) (hj : did L j = true) (hl : i < l.length) (hc : (S.cs.all fun c => decide (c ≠ i)) = true) (hk : S.kd[i]? = some (.same j)) : RS S b O2 WB (L.setIfInBounds i true) (l.set i (nth l j)) w :=
  h.quiet i _ hn hc (Below.refl _ _) fun O e _ he => by
    rw [hk] at he; cases he
    have ij : i ≠ j := fun q => by rw [q, hj] at hn; cases hn
    exact ⟨by rw [did_other (fun q => ij q.symm)]; exact hj, by rw [nth_same hl, nth_other ij]⟩
/-- A new slice of one cell. -/
theorem RS.one (i : Nat) (t : TypeId) (z : Value) (h : RS S b O2 WB L l w) (hn : did L i = false) (hl : i < l.length) (hc : (S.cs.all fun c => decide (c ≠ i)) = true) (hk : S.kd[i]? = some (.one t z)) :
    RS S b O2 WB (L.setIfInBounds i true) (l.set i (.slice (some ⟨w.heap.size, 0, none⟩) 1 1)) (w.alloc (.cells #[z] t)) :=
  h.quiet i _ hn hc ((Below.refl _ _).alloc (Nat.le_refl _) _) fun O e hO he => by
    rw [hk] at he; cases he
    exact ⟨w.heap.size, nth_same hl, fun hg => Nat.lt_irrefl _ (hO _ hg), heap_new w _⟩
/-- A new slice of what others yield. -/
theorem RS.arr (i : Nat) (t : TypeId) (js : List Nat) (cs : Array Value) (n : Nat) (h : RS S b O2 WB L l w) (hn : did L i = false) (hl : i < l.length) (hc : (S.cs.all fun c => decide (c ≠ i)) = true) (hk : S.kd[i]? = some (.arr t js)) (hd : ∀ j ∈ js, did L j = true) (hcs : cs = (js.map (nth l)).toArray) (hlen : n = js.length) :
    RS S b O2 WB (L.setIfInBounds i true) (l.set i (.slice (some ⟨w.heap.size, 0, none⟩) n n)) (w.alloc (.cells cs t)) :=
  h.quiet i _ hn hc ((Below.refl _ _).alloc (Nat.le_refl _) _) fun O e hO he => by
    rw [hk] at he; cases he
    have ij : ∀ j ∈ js, i ≠ j := fun j hj q => by rw [q, hd j hj] at hn; cases hn
    refine ⟨fun j hj => by rw [did_other (fun q => ij j hj q.symm)]; exact hd j hj, w.heap.size, by rw [nth_same hl, hlen], fun hg => Nat.lt_irrefl _ (hO _ hg), ?_⟩
    rw [show js.map (nth (l.set i (.slice (some ⟨w.heap.size, 0, none⟩) n n))) = js.map (nth l) from List.map_congr_left fun j hj => nth_other (ij j hj), hcs]
    exact heap_new w _

/-- The store ahead of call j, and behind it. -/
theorem RS.call (i j : Nat) (h : RS S b O2 WB L l w) (hn : did L i = false) (hi : S.cs[j]? = some i) (hp : ∀ m, m < j → ∃ c, S.cs[m]? = some c ∧ did L c = true) :
    ∃ O, Sto w b O (S.st j) ∧ Ext O2 O WB w ∧ (∀ v O' w', i < L.size → i < l.length → Ext O O' w w' → Sto w' b O' (S.st (j + 1)) → (∀ a c, S.cs[a]? = some c → c = i → a = j) →
      (∀ e, S.kd[i]? = some e → e.ok (L.setIfInBounds i true) (l.set i v) O' w' i) → RS S b O2 WB (L.setIfInBounds i true) (l.set i v) w') := by
  obtain ⟨k, O, h⟩ := h
  have hk : k = j := by
    have h1 := h.stage j i hi
    rw [hn] at h1
    have h2 : ¬ j < k := by simpa using h1.symm
    rcases Nat.lt_or_ge k j with hlt | hge
    · obtain ⟨c, h3, h4⟩ := hp k hlt
      have := h.stage k c h3
      rw [h4] at this
      simp at this
    · omega
  subst hk
  refine ⟨O, h.sto, h.ext, fun v O' w' hL hl he hs huniq hnew => ⟨k + 1, O', hs, h.ext.trans he, fun a c ha => ?_, fun m e hm hke => ?_⟩⟩
  · by_cases hc : c = i
    · have := huniq a c ha hc
      subst this hc
      rw [did_same hL]
      simp
    · rw [did_other hc, h.stage a c ha]
      have : a ≠ k := fun q => by subst q; rw [hi] at ha; cases ha; exact hc rfl
      congr 1
      apply propext
      omega
  · by_cases hmi : m = i
    · subst hmi; exact hnew e hke
    · rw [did_other hmi] at hm
      exact Kd.old (h.ok m e hm hke) he hn hm

theorem did_none (n i : Nat) : did (Array.replicate n false) i = false := by
  unfold did
  rw [Array.getD_eq_getD_getElem?, Array.getElem?_replicate]
  split <;> rfl
theorem did_all (n i : Nat) (h : i < n) : did (Array.replicate n true) i = true := by
  unfold did
  rw [Array.getD_eq_getD_getElem?, Array.getElem?_replicate, if_pos h]
  rfl

theorem RS.got (h : RS S b O2 WB L l w) (i : Nat) {v : Value} (hd : did L i = true) (hk : S.kd[i]? = some (.eq v)) : nth l i = v := by
  obtain ⟨k, O, h⟩ := h
  exact h.ok i _ hd hk
theorem RS.isVec (h : RS S b O2 WB L l w) (i : Nat) {xs : List Int} (hd : did L i = true) (hk : S.kd[i]? = some (.vec xs)) : ∃ p n c, nth l i = .slice p n c := by
  obtain ⟨k, O, h⟩ := h
  obtain ⟨⟨p, c, e, -⟩, -⟩ : IVecX w O (nth l i) xs := h.ok i _ hd hk
  exact ⟨_, _, _, e⟩
theorem RS.isOne (h : RS S b O2 WB L l w) (i : Nat) {t : TypeId} {z : Value} (hd : did L i = true) (hk : S.kd[i]? = some (.one t z)) : ∃ g, nth l i = .slice (some ⟨g, 0, none⟩) 1 1 := by
  obtain ⟨k, O, h⟩ := h
  obtain ⟨g, e, -⟩ : ∃ g, nth l i = .slice (some ⟨g, 0, none⟩) 1 1 ∧ ¬ O g ∧ w.heap[g]? = some (.cells #[z] t (0, 0)) := h.ok i _ hd hk
  exact ⟨g, e⟩
theorem RS.cell (h : RS S b O2 WB L l w) {p : Addr} (hp : p.block < WB.heap.size) (hO : ¬ O2 p.block) : w.cell? p = WB.cell? p := by
  obtain ⟨k, O, h⟩ := h
  exact (h.ext.cell hp hO).1
theorem RS.chain (h : RS S b O2 WB L l w) (j : Nat) {c : Nat} (hd : did L c = true) (hc : S.cs[j]? = some c) : ∀ m, m < j + 1 → ∃ c, S.cs[m]? = some c ∧ did L c = true := by
  obtain ⟨k, O, h⟩ := h
  intro m hm
  have h1 := h.stage j c hc
  rw [hd] at h1
  have h2 : j < k := by simpa using h1.symm
  have hl : j < S.cs.length := (List.getElem?_eq_some_iff.1 hc).1
  refine ⟨S.cs[m], List.getElem?_eq_getElem (by omega), ?_⟩
  rw [h.stage m _ (List.getElem?_eq_getElem (by omega))]
  simp
  omega
theorem RS.uniq {l : List Nat} (h : l.Nodup) {a j c : Nat} (ha : l[a]? = some c) (hj : l[j]? = some c) : a = j := by
  obtain ⟨h1, e1⟩ := List.getElem?_eq_some_iff.1 ha
  obtain ⟨h2, e2⟩ := List.getElem?_eq_some_iff.1 hj
  exact (List.getElem_inj h).1 (e1.trans e2.symm)
theorem Kd.all {e : Kd} {i n : Nat} (h : e.ok L l O w i) (hj : ∀ j, did L j = true → did (Array.replicate n true) j = true) : e.ok (Array.replicate n true) l O w i := by
  cases e with
  | eq v => exact h
  | vec xs => exact h
  | one t z => exact h
  | arr t js => exact ⟨fun j hm => hj j (h.1 j hm), h.2⟩
  | same m => exact ⟨hj m h.1, h.2⟩
theorem RS.whole (h : RS S b O2 WB L l w) (n : Nat) (hall : ∀ i, i < n → did L i = true) (hL : L.size = n) (hcs : (S.cs.all fun c => decide (c < n)) = true) : RS S b O2 WB (Array.replicate n true) l w := by
  obtain ⟨k, O, h⟩ := h
  have hlt : ∀ j, did L j = true → j < n := fun j hj => by
    unfold did at hj
    rcases Nat.lt_or_ge j n with h | h
    · exact h
    · rw [Array.getD_eq_getD_getElem?, Array.getElem?_eq_none (by omega)] at hj; cases hj
  have hn : ∀ j, did (Array.replicate n true) j = true → j < n := fun j hj => by
    unfold did at hj
    rw [Array.getD_eq_getD_getElem?, Array.getElem?_replicate] at hj
    split at hj
    · assumption
    · cases hj
  refine ⟨k, O, h.sto, h.ext, fun j c hj => ?_, fun i e hd hk => ?_⟩
  · have hc : c < n := by
      have := List.all_eq_true.1 hcs c (List.mem_of_getElem? hj)
      simpa using this
    rw [← h.stage j c hj, did_all n c hc, hall c hc]
  · exact Kd.all (h.ok i e (hall i (hn i hd)) hk) fun j hj => did_all n j (hlt j hj)

end Go.Proofs.Ytlnkflmnjkmhkaa

/-
  Contract of symbv.zip at two lists of integers, for any function value that hands back an integer and changes nothing that was.
-/
namespace Go.Proofs.Ytlnkflmnjkmhkaa
open Go.RowKit

theorem Try.infoInt : (Try.prog.info? 3).map (fun i => (i.zero, i.size, i.bytes)) = some (some (.int .i64 0), 1, 8) := by kernel_rfl

def zipL (g : Int → Int → Int) (xs ys : List Int) (n : Nat) : List Int := (List.range n).map fun i => g (xs.getD i 0) (ys.getD i 0)
theorem zipL_succ (g : Int → Int → Int) (xs ys : List Int) (n : Nat) : zipL g xs ys (n + 1) = zipL g xs ys n ++ [g (xs.getD n 0) (ys.getD n 0)] := by simp [zipL, List.range_succ]
theorem zipL_len (g : Int → Int → Int) (xs ys : List Int) (n : Nat) : (zipL g xs ys n).length = n := by simp [zipL]

set_option maxRecDepth 100000 in
set_option maxHeartbeats 1000000 in
theorem zip_any (f : Nat) (fst cp : Array Value) (g : Int → Int → Int) (va vb : Value) (xs ys : List Int) (w : World) (ha : IVec w va xs) (hb : IVec w vb ys)
    (hxl : xs.length ≤ 1000000) (hyl : ys.length ≤ 1000000)
    (hf : ∀ (x y : Int) W, Below w.heap.size w W → Calls Try.prog f (fst ++ (#[.int .i64 x, .int .i64 y] ++ cp)) W (RetInt W (g x y)))
    (hcall : ∀ (av : Array Value) (W : World), (callFunc f av).run Try.prog W = .ok (.enter f av) W) :
    Calls Try.prog 81 #[va, vb, .func (.func f) fst cp] w (RetVec w (zipL g xs ys (max xs.length ys.length))) := by
  obtain ⟨i0, hi, hz0, hz1, hz2⟩ := info_parts Try.infoInt
  obtain ⟨M, hM⟩ : ∃ M, M = max xs.length ys.length := ⟨_, rfl⟩
  have hMx : xs.length ≤ M := by omega
  have hMy : ys.length ≤ M := by omega
  have hMm : M ≤ 1000000 := by omega
  have hMo : M ≤ xs.length ∨ M ≤ ys.length := by omega
  rw [← hM]
  clear hM
  have HF := Lib.hid hf; clear hf
  obtain ⟨pa, ca, rfl, ha3, ha4, ha5⟩ := ha.shape
  obtain ⟨pb, cb, rfl, hb3, hb4, hb5⟩ := hb.shape
  clear ha hb
  have HA := Lib.hid ha5; clear ha5
  have HB := Lib.hid hb5; clear hb5
  go_enter Try.func81, Try.ntmps81
  go_wp2_with (first
    | (at_make; refine wpList_make_own _ rfl _ _ 33 rfl w.heap.size 3 i0 (.int .i64 0) 1 Try.underlying33 hi hz0 hz1 .i64 .i64 _ M rfl rfl (by omega) (by rw [hz2]; omega) (by unfold maxLen; omega) (Nat.le_refl _) ?_; intro w0 hown0 hgrow0))
  all_goals
    go_loopw [7, 19] (fun v i wr => ∃ k : Nat, k ≤ M ∧ i = .int .i64 k ∧ v = .slice (some ⟨w.heap.size, 0, none⟩) k M ∧ wr.ownsRow w.heap.size 3 1 v k ((zipL g xs ys k).map (Value.int .i64)) ∧ Below w.heap.size w wr)
      (fun _ i _ => M - (intOf i).toNat)
    case atStart => exact ⟨0, Nat.zero_le _, rfl, rfl, hown0, (Below.refl _ _).grown hgrow0 (Nat.le_refl _) (fun k h => by cases h)⟩
    case round =>
      obtain ⟨k, hk, rfl, rfl, hown, hnx⟩ := hrel
      have hsize := hnx.size
      by_cases hlt : k < M
      · by_cases hka : k < xs.length
        · by_cases hkb : k < ys.length
          · try (exfalso; omega)
            all_goals
              obtain ⟨ba, oa, rfl, ha2, ha5⟩ := HA.out (by omega)
              have ga := (hnx.cell (p := ⟨ba, oa + k, none⟩) ha2).trans (ha5 k hka)
              obtain ⟨bb, ob, rfl, hb2, hb5⟩ := HB.out (by omega)
              have gb := (hnx.cell (p := ⟨bb, ob + k, none⟩) hb2).trans (hb5 k hkb)
              have ez : Hid ((zipL g xs ys k).map (Value.int .i64) ++ [Value.int .i64 (g (xs[k]) (ys[k]))] = (zipL g xs ys (k + 1)).map (Value.int .i64)) := by show _ = _; rw [zipL_succ]; simp [hka, hkb]
              clear ha5 hb5
              go_wp2_with fail
              refine (HF.out _ _ _ hnx).mono ?_
              rintro e w1 ⟨rfl, hb1⟩
              go_wp2_with (at_builtin; refine wpList_append_fits _ rfl (.tmp 38) (.tmp 43) 33 rfl w.heap.size 3 i0 1 Try.underlying33 hi hz1 w.heap.size k M _ rfl ((own_below hown hb1).alloc _) ⟨w1.heap.size, 0, none⟩ 1 1 [.int .i64 _] rfl rfl (cell_one_new _ _ _) (ints_oneCell .i64 [_]) (by omega) ?_; intro w2 hown2 hgrow2)
              go_roundw
              case rel => exact ⟨k + 1, by omega, by go_num, rfl, ez.out ▸ hown2, (((hnx.trans (hb1.mono hsize)).alloc (by have := hb1.size; omega) _).grown hgrow2 (by have := hb1.size; simp; omega) (fun j hj => by cases hj; exact Nat.le_refl _))⟩
              case measure => simp [intOf]; omega
          · try (exfalso; omega)
            all_goals
              obtain ⟨ba, oa, rfl, ha2, ha5⟩ := HA.out (by omega)
              have ga := (hnx.cell (p := ⟨ba, oa + k, none⟩) ha2).trans (ha5 k hka)
              have eb : ys[k]?.getD 0 = 0 := by simp [List.getElem?_eq_none (Nat.le_of_not_lt hkb)]
              have ez : Hid ((zipL g xs ys k).map (Value.int .i64) ++ [Value.int .i64 (g (xs[k]) (0))] = (zipL g xs ys (k + 1)).map (Value.int .i64)) := by show _ = _; rw [zipL_succ]; simp [hka, eb]
              clear ha5 eb
              go_wp2_with fail
              refine (HF.out _ _ _ hnx).mono ?_
              rintro e w1 ⟨rfl, hb1⟩
              go_wp2_with (at_builtin; refine wpList_append_fits _ rfl (.tmp 38) (.tmp 43) 33 rfl w.heap.size 3 i0 1 Try.underlying33 hi hz1 w.heap.size k M _ rfl ((own_below hown hb1).alloc _) ⟨w1.heap.size, 0, none⟩ 1 1 [.int .i64 _] rfl rfl (cell_one_new _ _ _) (ints_oneCell .i64 [_]) (by omega) ?_; intro w2 hown2 hgrow2)
              go_roundw
              case rel => exact ⟨k + 1, by omega, by go_num, rfl, ez.out ▸ hown2, (((hnx.trans (hb1.mono hsize)).alloc (by have := hb1.size; omega) _).grown hgrow2 (by have := hb1.size; simp; omega) (fun j hj => by cases hj; exact Nat.le_refl _))⟩
              case measure => simp [intOf]; omega
        · by_cases hkb : k < ys.length
          · try (exfalso; omega)
            all_goals
              have ea : xs[k]?.getD 0 = 0 := by simp [List.getElem?_eq_none (Nat.le_of_not_lt hka)]
              obtain ⟨bb, ob, rfl, hb2, hb5⟩ := HB.out (by omega)
              have gb := (hnx.cell (p := ⟨bb, ob + k, none⟩) hb2).trans (hb5 k hkb)
              have ez : Hid ((zipL g xs ys k).map (Value.int .i64) ++ [Value.int .i64 (g (0) (ys[k]))] = (zipL g xs ys (k + 1)).map (Value.int .i64)) := by show _ = _; rw [zipL_succ]; simp [hkb, ea]
              clear ea hb5
              go_wp2_with fail
              refine (HF.out _ _ _ hnx).mono ?_
              rintro e w1 ⟨rfl, hb1⟩
              go_wp2_with (at_builtin; refine wpList_append_fits _ rfl (.tmp 38) (.tmp 43) 33 rfl w.heap.size 3 i0 1 Try.underlying33 hi hz1 w.heap.size k M _ rfl ((own_below hown hb1).alloc _) ⟨w1.heap.size, 0, none⟩ 1 1 [.int .i64 _] rfl rfl (cell_one_new _ _ _) (ints_oneCell .i64 [_]) (by omega) ?_; intro w2 hown2 hgrow2)
              go_roundw
              case rel => exact ⟨k + 1, by omega, by go_num, rfl, ez.out ▸ hown2, (((hnx.trans (hb1.mono hsize)).alloc (by have := hb1.size; omega) _).grown hgrow2 (by have := hb1.size; simp; omega) (fun j hj => by cases hj; exact Nat.le_refl _))⟩
              case measure => simp [intOf]; omega
          · exfalso; omega
      · obtain rfl : k = M := by omega
        go_wp2_with fail
        go_ret
        exact ⟨_, rfl, IVec.of_owns (zipL_len _ _ _ _) hown, hnx⟩

end Go.Proofs.Ytlnkflmnjkmhkaa

/-
  Contract of symop.pairs.
-/
namespace Go.Proofs.Ytlnkflmnjkmhkaa
open Go.RowKit

theorem Try.infoBits : (Try.prog.info? 131).map (fun i => (i.zero, i.size, i.bytes)) = some (some (.agg #[.int .i64 0, .int .i64 0]), 2, 16) := by kernel_rfl

/-- Both bits at a place. -/
def pairAt (xs ys : List Int) (i : Nat) : Int × Int := (xs.getD i 0, ys.getD i 0)

/-- The value reads as n pairs. -/
def PVec (w : World) (v : Value) (n : Nat) (p : Nat → Int × Int) : Prop :=
  ∃ pa cap, v = .slice pa n cap ∧ n ≤ cap ∧ cap ≤ maxLen ∧
    (0 < n → ∃ b off, pa = some ⟨b, off, none⟩ ∧ b < w.heap.size ∧ ∀ i, i < n → w.cell? ⟨b, off + i * 2, none⟩ = some (.int .i64 (p i).1) ∧ w.cell? ⟨b, off + i * 2 + 1, none⟩ = some (.int .i64 (p i).2))
theorem PVec.below {w w' : World} {v : Value} {n : Nat} {p : Nat → Int × Int} (h : PVec w v n p) (hb : Below w.heap.size w w') : PVec w' v n p := by
  obtain ⟨pa, cap, h1, h2, h3, h4⟩ := h
  refine ⟨pa, cap, h1, h2, h3, fun h0 => ?_⟩
  obtain ⟨b, off, e, hlt, hc⟩ := h4 h0
  exact ⟨b, off, e, Nat.lt_of_lt_of_le hlt hb.size, fun i hi => by
    rw [hb.cell (p := ⟨b, off + i * 2, none⟩) hlt, hb.cell (p := ⟨b, off + i * 2 + 1, none⟩) hlt]; exact hc i hi⟩

/-- n pairs, their cells in no block of O. -/
def PVecX (w : World) (O : Nat → Prop) (v : Value) (n : Nat) (p : Nat → Int × Int) : Prop :=
  ∃ pa cap, v = .slice pa n cap ∧ n ≤ cap ∧ cap ≤ maxLen ∧
    (0 < n → ∃ b off, pa = some ⟨b, off, none⟩ ∧ b < w.heap.size ∧ ¬ O b ∧ ∀ i, i < n → w.cell? ⟨b, off + i * 2, none⟩ = some (.int .i64 (p i).1) ∧ w.cell? ⟨b, off + i * 2 + 1, none⟩ = some (.int .i64 (p i).2))
theorem PVecX.pvec {w : World} {O : Nat → Prop} {v : Value} {n : Nat} {p : Nat → Int × Int} (h : PVecX w O v n p) : PVec w v n p := by
  obtain ⟨pa, cap, h1, h2, h3, h4⟩ := h
  refine ⟨pa, cap, h1, h2, h3, fun h0 => ?_⟩
  obtain ⟨b, off, e, hlt, -, hc⟩ := h4 h0
  exact ⟨b, off, e, hlt, hc⟩

def pc (xs ys : List Int) (k j : Nat) : Int := if j / 2 < k then (if j % 2 = 0 then xs.getD (j / 2) 0 else ys.getD (j / 2) 0) else 0
def pTo (xs ys : List Int) (M k : Nat) : List Value := (List.range (M * 2)).map fun j => .int .i64 (pc xs ys k j)
theorem pTo_len (xs ys : List Int) (M k : Nat) : (pTo xs ys M k).length = M * 2 := by simp [pTo]
theorem pTo_at (xs ys : List Int) (M k j : Nat) (hj : j < M * 2) : (pTo xs ys M k)[j]? = some (.int .i64 (pc xs ys k j)) := by simp [pTo, hj]
theorem pTo_zero (xs ys : List Int) (M : Nat) : pTo xs ys M 0 = List.replicate (M * 2) (.int .i64 0) := by
  simp [pTo, pc, List.map_const']
theorem pTo_both (xs ys : List Int) (M k : Nat) (hk : k < M) : ((pTo xs ys M k).set (k * 2) (.int .i64 (xs.getD k 0))).set (k * 2 + 1) (.int .i64 (ys.getD k 0)) = pTo xs ys M (k + 1) := by
  apply List.ext_getElem
  · simp [pTo]
  · intro j h1 h2
    rw [List.getElem_set, List.getElem_set]
    simp only [pTo, List.getElem_map, List.getElem_range, pc]
    by_cases e1 : k * 2 + 1 = j
    · subst e1
      rw [if_pos rfl, if_pos (by omega), if_neg (by omega)]
      congr 2; omega
    · rw [if_neg e1]
      by_cases e2 : k * 2 = j
      · subst e2
        rw [if_pos rfl, if_pos (by omega), if_pos (by omega)]
        congr 2; omega
      · rw [if_neg e2]
        by_cases e3 : j / 2 < k
        · have e4 : j / 2 < k + 1 := by omega
          simp only [if_pos e3, if_pos e4]
        · have e4 : ¬ j / 2 < k + 1 := by omega
          simp only [if_neg e3, if_neg e4]
theorem pTo_x (xs ys : List Int) (M k : Nat) : (pTo xs ys M k).set (k * 2) (.int .i64 0) = pTo xs ys M k := by
  apply List.ext_getElem
  · simp [pTo]
  · intro j h1 h2
    rw [List.getElem_set]
    split
    · rename_i e; subst e
      simp only [pTo, List.getElem_map, List.getElem_range, pc]
      rw [if_neg (by omega)]
    · rfl
theorem pTo_y (xs ys : List Int) (M k : Nat) (x : Value) : ((pTo xs ys M k).set (k * 2) x).set (k * 2 + 1) (.int .i64 0) = (pTo xs ys M k).set (k * 2) x := by
  apply List.ext_getElem
  · simp [pTo]
  · intro j h1 h2
    rw [List.getElem_set]
    split
    · rename_i e; subst e
      rw [List.getElem_set_ne (by omega)]
      simp only [pTo, List.getElem_map, List.getElem_range, pc]
      rw [if_neg (by omega)]
    · rfl

theorem two_zero_cells (n : Nat) : (madeCells (Value.agg #[.int .i64 0, .int .i64 0]).cells (n * 2)).toList = List.replicate (n * 2) (.int .i64 0) := by
  apply List.ext_getElem
  · simp [size_madeCells]
  · intro j h1 h2
    simp only [madeCells, Array.toList_map, Array.toList_range, List.getElem_map, List.getElem_range, List.getElem_replicate]
    have e : (Value.agg #[.int .i64 0, .int .i64 0]).cells = #[.int .i64 0, .int .i64 0] := rfl
    rw [e]
    have : j % 2 = 0 ∨ j % 2 = 1 := by omega
    rcases this with h | h
    · simp [h]
    · simp [h]

theorem PVecX.of_owns {w : World} {base e M : Nat} {v : Value} {xs ys : List Int} {O : Nat → Prop} (hO : ∀ k, O k → k < base) (h : w.ownsRow base e 2 v M (pTo xs ys M M)) : PVecX w O v M (pairAt xs ys) := by
  obtain ⟨hl, h⟩ := h
  rcases h with ⟨h1, h2⟩ | ⟨g, cap, cur, h1, h2, h3, h4, h5, h6, h7⟩
  · subst h2; exact ⟨none, 0, h1, Nat.le_refl _, Nat.zero_le _, fun h => absurd h (Nat.lt_irrefl 0)⟩
  · have hlt : g < w.heap.size := by
      rcases Nat.lt_or_ge g w.heap.size with h | h
      · exact h
      · rw [Array.getElem?_eq_none h] at h3; cases h3
    have hc : ∀ j, j < M * 2 → w.cell? ⟨g, j, none⟩ = some (.int .i64 (pc xs ys M j)) := fun j hj => by
      simp only [World.cell?, h3]
      have h8 : (cur.toList.take (M * 2))[j]? = some (.int .i64 (pc xs ys M j)) := by rw [h7]; exact pTo_at _ _ _ _ _ hj
      rw [List.getElem?_take_of_lt hj] at h8
      simpa using h8
    refine ⟨some ⟨g, 0, none⟩, cap, h1, h4, h5, fun _ => ⟨g, 0, rfl, hlt, fun h => by have := hO g h; omega, fun i hi => ⟨?_, ?_⟩⟩⟩
    · rw [Nat.zero_add, hc (i * 2) (by omega)]
      simp only [pc, pairAt]
      rw [if_pos (by omega), if_pos (by omega)]
      congr 3; omega
    · rw [Nat.zero_add, hc (i * 2 + 1) (by omega)]
      simp only [pc, pairAt]
      rw [if_pos (by omega), if_neg (by omega)]
      congr 3; omega

set_option maxRecDepth 100000 in
set_option maxHeartbeats 1000000 in
theorem pairs_any (O : Nat → Prop) (va vb : Value) (xs ys : List Int) (w : World) (hO : ∀ k, O k → k < w.heap.size) (ha : IVec w va xs) (hb : IVec w vb ys) (hxl : xs.length ≤ 1000000) (hyl : ys.length ≤ 1000000) :
    Calls Try.prog 111 #[va, vb] w fun e w' => ∃ v, e = .returned v ∧ PVecX w' O v (max xs.length ys.length) (pairAt xs ys) ∧ Below w.heap.size w w' := by
  obtain ⟨i0, hi, hz0, hz1, hz2⟩ := info_parts Try.infoBits
  have HO0 := Lib.hid hO; clear hO
  obtain ⟨M, hM⟩ : ∃ M, M = max xs.length ys.length := ⟨_, rfl⟩
  have hMx : xs.length ≤ M := by omega
  have hMy : ys.length ≤ M := by omega
  have hMm : M ≤ 1000000 := by omega
  have hMo : M ≤ xs.length ∨ M ≤ ys.length := by omega
  rw [← hM]
  clear hM
  obtain ⟨pa, ca, rfl, ha3, ha4, ha5⟩ := ha.shape
  obtain ⟨pb, cb, rfl, hb3, hb4, hb5⟩ := hb.shape
  clear ha hb
  have HA := Lib.hid ha5; clear ha5
  have HB := Lib.hid hb5; clear hb5
  go_enter Try.func111, Try.ntmps111
  go_wp2_with (first
    | (at_make; refine wpList_make_full _ rfl _ _ 132 rfl w.heap.size 131 i0 (.agg #[.int .i64 0, .int .i64 0]) 2 Try.underlying132 hi hz0 hz1 .i64 .i64 _ _ M rfl rfl (by omega) (by omega) (by rw [hz2]; omega) (by unfold maxLen; omega) (Nat.le_refl _) ?_; intro w0 hown0 hgrow0))
  all_goals rw [two_zero_cells, ← pTo_zero xs ys M] at hown0
  all_goals
    go_loopw [15] (fun i wr => ∃ k : Nat, k ≤ M ∧ i = .int .i64 k ∧ wr.ownsRow w.heap.size 131 2 (.slice (some ⟨w.heap.size, 0, none⟩) M M) M (pTo xs ys M k) ∧ Below w.heap.size w wr)
      (fun i _ => M - (intOf i).toNat)
    case atStart => exact ⟨0, Nat.zero_le _, rfl, hown0, (Below.refl _ _).grown hgrow0 (Nat.le_refl _) (fun k h => by cases h)⟩
    case round =>
      obtain ⟨k, hk, rfl, hown, hnx⟩ := hrel
      have hsize := hnx.size
      by_cases hlt : k < M
      · have q0 : wr.cell? ⟨w.heap.size, k * 2, none⟩ = some (.int .i64 0) := by
          rw [hown.cellAt (k * 2) (by omega), pTo_at _ _ _ _ _ (by omega)]
          simp only [pc]; rw [if_neg (by omega)]
        have q1 : wr.cell? ⟨w.heap.size, k * 2 + 1, none⟩ = some (.int .i64 0) := by
          rw [hown.cellAt (k * 2 + 1) (by omega), pTo_at _ _ _ _ _ (by omega)]
          simp only [pc]; rw [if_neg (by omega)]
        have z0 := hown.frozenAt (k * 2)
        have z1 := hown.frozenAt (k * 2 + 1)
        by_cases hka : k < xs.length
        · by_cases hkb : k < ys.length
          · try (exfalso; omega)
            all_goals
              obtain ⟨ba, oa, rfl, ha2, ha5⟩ := HA.out (by omega)
              have ga := (hnx.cell (p := ⟨ba, oa + k, none⟩) ha2).trans (ha5 k hka)
              clear ha5
              obtain ⟨bb, ob, rfl, hb2, hb5⟩ := HB.out (by omega)
              have gb := (hnx.cell (p := ⟨bb, ob + k, none⟩) hb2).trans (hb5 k hkb)
              clear hb5
              have ea : xs.getD k 0 = xs[k] := by simp [hka]
              have eb : ys.getD k 0 = ys[k] := by simp [hkb]
              have HT := pTo_both xs ys M k hlt
              rw [ea, eb] at HT
              have HO : Hid (((wr.setCell ⟨w.heap.size, k * 2, none⟩ (.int .i64 xs[k])).setCell ⟨w.heap.size, k * 2 + 1, none⟩ (.int .i64 ys[k])).ownsRow w.heap.size 131 2 (.slice (some ⟨w.heap.size, 0, none⟩) M M) M (pTo xs ys M (k + 1))) := by
                show World.ownsRow _ _ _ _ _ _ _
                rw [← HT]
                exact ((hown.stored (k * 2) (.int .i64 xs[k])).1.stored (k * 2 + 1) (.int .i64 ys[k])).1
              clear ea eb HT hown
              go_wp2_with fail
              go_roundw
              case rel => exact ⟨k + 1, by omega, by go_num, HO.out, (hnx.setCell (Nat.le_refl _) _).setCell (Nat.le_refl _) _⟩
              case measure => simp [intOf]; omega
          · try (exfalso; omega)
            all_goals
              obtain ⟨ba, oa, rfl, ha2, ha5⟩ := HA.out (by omega)
              have ga := (hnx.cell (p := ⟨ba, oa + k, none⟩) ha2).trans (ha5 k hka)
              clear ha5
              have ea : xs.getD k 0 = xs[k] := by simp [hka]
              have eb : ys.getD k 0 = 0 := by rw [List.getD_eq_getElem?_getD, List.getElem?_eq_none (Nat.le_of_not_lt hkb)]; rfl
              have HT := pTo_both xs ys M k hlt
              rw [ea, eb] at HT
              rw [pTo_y] at HT
              have HO : Hid ((wr.setCell ⟨w.heap.size, k * 2, none⟩ (.int .i64 xs[k])).ownsRow w.heap.size 131 2 (.slice (some ⟨w.heap.size, 0, none⟩) M M) M (pTo xs ys M (k + 1))) := by
                show World.ownsRow _ _ _ _ _ _ _
                rw [← HT]
                exact (hown.stored (k * 2) (.int .i64 xs[k])).1
              clear ea eb HT hown
              go_wp2_with fail
              go_roundw
              case rel => exact ⟨k + 1, by omega, by go_num, HO.out, hnx.setCell (Nat.le_refl _) _⟩
              case measure => simp [intOf]; omega
        · by_cases hkb : k < ys.length
          · try (exfalso; omega)
            all_goals
              obtain ⟨bb, ob, rfl, hb2, hb5⟩ := HB.out (by omega)
              have gb := (hnx.cell (p := ⟨bb, ob + k, none⟩) hb2).trans (hb5 k hkb)
              clear hb5
              have ea : xs.getD k 0 = 0 := by rw [List.getD_eq_getElem?_getD, List.getElem?_eq_none (Nat.le_of_not_lt hka)]; rfl
              have eb : ys.getD k 0 = ys[k] := by simp [hkb]
              have HT := pTo_both xs ys M k hlt
              rw [ea, eb] at HT
              rw [pTo_x] at HT
              have HO : Hid ((wr.setCell ⟨w.heap.size, k * 2 + 1, none⟩ (.int .i64 ys[k])).ownsRow w.heap.size 131 2 (.slice (some ⟨w.heap.size, 0, none⟩) M M) M (pTo xs ys M (k + 1))) := by
                show World.ownsRow _ _ _ _ _ _ _
                rw [← HT]
                exact (hown.stored (k * 2 + 1) (.int .i64 ys[k])).1
              clear ea eb HT hown
              go_wp2_with fail
              go_roundw
              case rel => exact ⟨k + 1, by omega, by go_num, HO.out, hnx.setCell (Nat.le_refl _) _⟩
              case measure => simp [intOf]; omega
          · exfalso; omega
      · obtain rfl : k = M := by omega
        go_wp2_with fail
        go_ret
        exact ⟨_, rfl, PVecX.of_owns HO0.out hown, hnx⟩

end Go.Proofs.Ytlnkflmnjkmhkaa

/-
  Contracts of symop.fold at pairs and at integers: an invariant that each call keeps.
-/
namespace Go.Proofs.Ytlnkflmnjkmhkaa
open Go.RowKit

/-- An integer is handed back of which J is so. -/
def RetJ (J : Int → World → Prop) (e : Ending) (w' : World) : Prop := ∃ r, e = .returned (.int .i64 r) ∧ J r w'

set_option maxRecDepth 100000 in
set_option maxHeartbeats 1000000 in
theorem fold_bits (f : Nat) (fst cp : Array Value) (v : Value) (n : Nat) (p : Nat → Int × Int) (I : Nat → Int → World → Prop) (t0 : Int) (w : World) (hn : n ≤ 1000000) (h0 : I 0 t0 w)
    (hP : ∀ k t W, I k t W → PVec W v n p) (hB : ∀ k t W W', I k t W → Below W.heap.size W W' → I k t W')
    (hcall : ∀ (av : Array Value) (W : World), (callFunc f av).run Try.prog W = .ok (.enter f av) W)
    (hf : ∀ k, k < n → ∀ (t : Int) W, I k t W → Calls Try.prog f (fst ++ (#[.int .i64 t, .agg #[.int .i64 (p k).1, .int .i64 (p k).2]] ++ cp)) W (RetJ (I (k + 1)))) :
    Calls Try.prog 110 #[v, .int .i64 t0, .func (.func f) fst cp] w (RetJ (I n)) := by
  have HP := Lib.hid hP; clear hP
  have HB := Lib.hid hB; clear hB
  have HF := Lib.hid hf; clear hf
  have H0 := Lib.hid h0; clear h0
  obtain ⟨pa, ca, rfl, ha3, ha4, -⟩ := HP.out 0 t0 w H0.out
  go_enter Try.func110, Try.ntmps110
  go_wp2_with fail
  go_loopw [1, 11] (fun t i wr => ∃ (k : Nat) (tt : Int), k ≤ n ∧ i = .int .i64 k ∧ t = .int .i64 tt ∧ Hid (I k tt wr)) (fun _ i _ => n - (intOf i).toNat)
  case atStart => exact ⟨0, t0, Nat.zero_le _, rfl, rfl, H0.out⟩
  case round =>
    obtain ⟨k, tt, hk, rfl, rfl, HI⟩ := hrel
    by_cases hlt : k < n
    · obtain ⟨pa', ca', he, -, -, hc⟩ := HP.out k tt wr HI.out
      simp only [Value.slice.injEq, true_and] at he
      obtain ⟨b, off, hpa, hbl, hcc⟩ := hc (by omega)
      obtain ⟨he1, he2⟩ := he
      rw [hpa] at he1
      clear hc hpa he2
      subst he1
      obtain ⟨g0, g1⟩ := hcc k hlt
      clear hcc
      have HI2 : ∀ o, Hid (I k tt (wr.alloc o)) := fun o => HB.out k tt wr _ HI.out ((Below.refl _ _).alloc (Nat.le_refl _) o)
      go_wp2_with fail
      refine (HF.out k hlt tt _ (HI2 _).out).mono ?_
      rintro e w1 ⟨r, rfl, hr⟩
      have HR := Lib.hid hr
      clear hr HI2
      go_wp2_with fail
      go_roundw
      case rel => exact ⟨k + 1, r, by omega, by go_num, rfl, HR⟩
      case measure => simp [intOf]; omega
    · obtain rfl : k = n := by omega
      go_wp2_with fail
      go_ret
      exact ⟨tt, rfl, HI.out⟩

set_option maxRecDepth 100000 in
set_option maxHeartbeats 1000000 in
theorem fold_int (f : Nat) (fst cp : Array Value) (v : Value) (xs : List Int) (I : Nat → Int → World → Prop) (t0 : Int) (w : World) (hn : xs.length ≤ 1000000) (h0 : I 0 t0 w)
    (hP : ∀ k t W, I k t W → IVec W v xs)
    (hcall : ∀ (av : Array Value) (W : World), (callFunc f av).run Try.prog W = .ok (.enter f av) W)
    (hf : ∀ k, k < xs.length → ∀ (t : Int) W, I k t W → Calls Try.prog f (fst ++ (#[.int .i64 t, .int .i64 (xs.getD k 0)] ++ cp)) W (RetJ (I (k + 1)))) :
    Calls Try.prog 114 #[v, .int .i64 t0, .func (.func f) fst cp] w (RetJ (I xs.length)) := by
  have HP := Lib.hid hP; clear hP
  have HF := Lib.hid hf; clear hf
  have H0 := Lib.hid h0; clear h0
  obtain ⟨pa, ca, rfl, ha3, ha4, -⟩ := HP.out 0 t0 w H0.out
  go_enter Try.func114, Try.ntmps114
  go_wp2_with fail
  go_loopw [1, 11] (fun t i wr => ∃ (k : Nat) (tt : Int), k ≤ xs.length ∧ i = .int .i64 k ∧ t = .int .i64 tt ∧ Hid (I k tt wr)) (fun _ i _ => xs.length - (intOf i).toNat)
  case atStart => exact ⟨0, t0, Nat.zero_le _, rfl, rfl, H0.out⟩
  case round =>
    obtain ⟨k, tt, hk, rfl, rfl, HI⟩ := hrel
    by_cases hlt : k < xs.length
    · obtain ⟨pa', ca', he, -, -, hc⟩ := HP.out k tt wr HI.out
      simp only [Value.slice.injEq, true_and] at he
      obtain ⟨b, off, hpa, hbl, hcc⟩ := hc (by omega)
      obtain ⟨he1, he2⟩ := he
      rw [hpa] at he1
      clear hc hpa he2
      subst he1
      have g0 := hcc k hlt
      clear hcc
      have HX : Hid (xs.getD k 0 = xs[k]) := by show _ = _; simp [hlt]
      have HC := Lib.hid (HF.out k hlt tt _ HI.out)
      rw [HX.out] at HC
      go_wp2_with fail
      refine HC.out.mono ?_
      rintro e w1 ⟨r, rfl, hr⟩
      have HR := Lib.hid hr
      clear hr
      go_wp2_with fail
      go_roundw
      case rel => exact ⟨k + 1, r, by omega, by go_num, rfl, HR⟩
      case measure => simp [intOf]; omega
    · obtain rfl : k = xs.length := by omega
      go_wp2_with fail
      go_ret
      exact ⟨tt, rfl, HI.out⟩

end Go.Proofs.Ytlnkflmnjkmhkaa

/-
  Lemmas, joined: FolC, OutR.
-/
import Derived.Test.YtehcclcokgmplaaJA12
import Derived.Lib.AppendZerosOnto
import Derived.Test.YtehcclcokgmplaaJA03
/-
  Layer 35's code, walked: slices.Grow, slices.Concat, plain.
-/
namespace Go.Proofs.Ytehcclcokgmplaa
open Go.RowKit Go.Maps

theorem own_shF {w : World} {b E sz n : Nat} {v : Value} {xs : List Value} (h : w.ownsRow b E sz v n xs) : ∃ p c, v = .slice p n c := by
  rcases h.2 with ⟨h2, h3⟩ | ⟨g, cap, cur, q1, -⟩
  · exact ⟨_, _, by rw [h2, h3]⟩
  · exact ⟨_, _, q1⟩
set_option maxRecDepth 100000 in
set_option maxHeartbeats 1600000 in
theorem growC_any (n : Nat) (w : World) (hn : n ≤ 1000000) :
    Calls Try.prog 43 #[.slice none 0 0, .int .i64 n] w fun e w' => ∃ v, e = .returned v ∧ w'.ownsRow w.heap.size 61 6 v 0 [] ∧ Below w.heap.size w w' := by
  have h1 : ¬ ((n : Int) < 0) := by omega
  have h2 : wrap64 ((0 : Int) - 0) = 0 := by unfold wrap64; omega
  have h3 : wrap64 ((n : Int) - 0) = (n : Int) := by unfold wrap64; omega
  by_cases h0 : n = 0
  · subst h0
    go_enter Try.func43, Try.ntmps43
    go_wp2_with fail
    go_ret
    exact ⟨_, rfl, World.ownsRow_nil _ _ _ _, Below.refl _ _⟩
  · have h4 : (n : Int) > 0 := by omega
    obtain ⟨i0, hi, hz0, hz1, hz2⟩ := info_parts elemNd.inf
    have hold : (Builtin.firstCells i0.size 0 (.slice none 0 0)).run Try.prog w.drew = .ok ([] : List Value).toArray w.drew := run_firstCells_none w.drew i0.size 0 0 0
    have hrz : ∀ ty, (Builtin.append_ #[35, 3] ty #[.slice none 0 0, .int .i64 (n : Int)]).run Try.prog w = .ok (.slice (some ⟨w.heap.size, 0, none⟩) n (grownCap w n 0 61)) (w.drew.alloc (.cells (([] : List Value).toArray ++ Builtin.zeroCells (Value.agg #[.int .u8 0, .int .i64 0, .int .i64 0, .int .i64 0, .int .u64 0, .int .u64 0]).cells n ++ Builtin.zeroCells (Value.agg #[.int .u8 0, .int .i64 0, .int .i64 0, .int .i64 0, .int .u64 0, .int .u64 0]).cells (grownCap w n 0 61 - n)) 61)) := fun ty => by
      have h := Lib.run_append_grow_zeros w 35 3 ty 61 i0 _ .i64 .i64 Try.underlying35 Try.underlying3 hi hz0 none 0 0 [] hold n (by omega) (by rw [hz1]; decide) (by omega) (by omega) (by rw [hz2]; omega) (by rw [hz2]; exact growslice_fits (by omega) (by omega))
      simpa only [Nat.zero_add] using h
    have hG1 : n ≤ grownCap w n 0 61 := grownCap_ge w _ _ _
    have hG2 : grownCap w n 0 61 ≤ maxLen := grownCap_le_maxLen w _ _ _ (by unfold maxLen; omega)
    generalize grownCap w n 0 61 = G at hrz hG1 hG2
    obtain ⟨cs, hcs⟩ : ∃ cs, cs = ([] : List Value).toArray ++ Builtin.zeroCells (Value.agg #[.int .u8 0, .int .i64 0, .int .i64 0, .int .i64 0, .int .u64 0, .int .u64 0]).cells n ++ Builtin.zeroCells (Value.agg #[.int .u8 0, .int .i64 0, .int .i64 0, .int .i64 0, .int .u64 0, .int .u64 0]).cells (G - n) := ⟨_, rfl⟩
    have hsz : cs.size = G * 6 := by
      rw [hcs, Array.size_append, Array.size_append, size_zeroCells, size_zeroCells]
      show 0 + n * 6 + (G - n) * 6 = _
      omega
    rw [← hcs] at hrz
    have HO : Hid ((w.drew.alloc (.cells cs 61)).ownsRow w.heap.size 61 6 (.slice (some ⟨w.heap.size, 0, none⟩) 0 G) 0 []) := by
      have := World.ownsRow_made (base := w.heap.size) (e := 61) (size := 6) w.drew cs G (by simp) hG2 hsz
      show World.ownsRow _ _ _ _ _ _ _
      simpa using this
    have HB : Hid (Below w.heap.size w (w.drew.alloc (.cells cs 61))) := (below_drewN (Below.refl _ _) 1).alloc (by simp) _
    have hG63 : G ≤ 9223372036854775807 := by unfold maxLen at hG2; omega
    clear hold hcs hsz hi hz0 hz1 hz2 hG2
    go_enter Try.func43, Try.ntmps43
    go_wp2_with (at_builtin; refine Lib.wpList_append_run _ rfl _ _ _ _ rfl _ _ rfl rfl _ _ (hrz _) ?_)
    all_goals
      go_ret
      exact ⟨_, rfl, HO.out, HB.out⟩

theorem flat_snoc {ls : List (List Nod)} {k : Nat} {l : List Nod} (h : ls[k]? = some l) : (ls.take (k + 1)).flatten = (ls.take k).flatten ++ l := by
  rw [List.take_add_one, h, List.flatten_append]
  simp
theorem flat_le (ls : List (List Nod)) (k : Nat) : (ls.take k).flatten.length ≤ ls.flatten.length := by
  conv => rhs; rw [← List.take_append_drop k ls, List.flatten_append, List.length_append]
  omega
set_option maxRecDepth 100000 in
set_option maxHeartbeats 3200000 in
theorem concat_any (base : Nat) (ls : List (List Nod)) (p : Option Addr) (n c : Nat) (w : World) (h : Prt base w (.slice p n c) ls) (hl : ls.flatten.length ≤ 6000) (hn : n ≤ 6000) :
    Calls Try.prog 38 #[.slice p n c] w fun e w' => (∃ v, e = .returned v ∧ CO w.heap.size w' v ls.flatten) ∧ Below w.heap.size w w' := by
  have HN : Hid (n = ls.length) := h.len
  have HP := Lib.hid h
  have HT : Hid (∀ k l, ls[k]? = some l → (ls.take k).flatten.length + l.length ≤ 6000 ∧ (ls.take (k + 1)).flatten.length = (ls.take k).flatten.length + l.length ∧ ((ls.take (k + 1)).flatten).flatMap ndE = ((ls.take k).flatten).flatMap ndE ++ l.flatMap ndE) := fun k l hk => by
    have h1 := flat_le ls (k + 1)
    have h2 := flat_snoc hk
    have h3 : (ls.take (k + 1)).flatten.length = (ls.take k).flatten.length + l.length := by rw [h2, List.length_append]
    exact ⟨by omega, h3, by rw [h2, List.flatMap_append]⟩
  have HL := Lib.hid hl
  clear h hl
  go_enter Try.func38, Try.ntmps38
  go_wp2_with fail
  go_loopw [3, 5, 11] (fun u3 u5 i wr => ∃ k : Nat, k ≤ n ∧ i = .int .i64 k ∧ u3 = .int .i64 (((ls.take k).flatten.length : Nat) : Int) ∧ wr = w) (fun _ _ i _ => n - (intOf i).toNat)
  case atStart => exact ⟨0, Nat.zero_le _, rfl, rfl, rfl⟩
  case round =>
    obtain ⟨k, hk, rfl, rfl, hww⟩ := hrel
    subst wr
    by_cases hlt : k < n
    · have hki : (k : Int) < (n : Int) := by omega
      obtain ⟨l, hc⟩ : ∃ l, ls[k]? = some l := ⟨_, List.getElem?_eq_getElem (by have := HN.out; omega)⟩
      obtain ⟨kb, ko, cp, cn, cc, hps, hkb, y0, hy0⟩ := HP.out.el hc
      subst hps
      obtain rfl : cn = l.length := hy0.row.ln.1
      obtain ⟨t1, t2, -⟩ := HT.out k l hc
      rw [← t2] at t1
      obtain ⟨A2, hA2⟩ : ∃ A2, A2 = (ls.take (k + 1)).flatten.length := ⟨_, rfl⟩
      rw [← hA2] at t1 t2
      have HA2 := Lib.hid hA2
      have HT2 := Lib.hid t2
      clear hA2
      generalize (ls.take k).flatten.length = A at *
      generalize l.length = L at *
      have hw1 : wrap64 ((A : Int) + (L : Int)) = (A2 : Int) := by have := HT2.out; unfold wrap64; omega
      have hw2 : ¬ (A2 : Int) < 0 := by omega
      clear t2 hc hy0
      go_wp2_with fail
      go_roundw
      case rel => exact ⟨k + 1, by omega, by go_num, by rw [← HA2.out, hw1], by first | rfl | trivial⟩
      case measure => simp [intOf]; omega
    · have hkN : k = n := by omega
      subst hkN
      have hkk : ¬ (k : Int) < (k : Int) := by omega
      have HTK : Hid (ls.take k = ls) := List.take_of_length_le (by have := HN.out; omega)
      have HG : Hid (∀ W, Calls Try.prog 43 #[.slice none 0 0, .int .i64 (((ls.take k).flatten.length : Nat) : Int)] W fun e w' => ∃ v, e = .returned v ∧ w'.ownsRow W.heap.size 61 6 v 0 [] ∧ Below W.heap.size W w') := fun W => growC_any _ W (by rw [HTK.out]; have := HL.out; omega)
      generalize (ls.take k).flatten.length = A at *
      go_wp2_with (go_at_call 43; refine (HG.out _).mono ?_; rintro e w1 ⟨y, rfl, g1, g2⟩; have HO1 := Lib.hid g1; have HB1 := Lib.hid g2; clear g1 g2)
      go_loopw [6, 8, 27] (fun u6 u8 i wq => ∃ k' : Nat, k' ≤ k ∧ i = .int .i64 k' ∧ Hid (wq.ownsRow w.heap.size 61 6 u6 (ls.take k').flatten.length (((ls.take k').flatten).flatMap ndE)) ∧ Hid (Below w.heap.size w wq)) (fun _ _ i _ => k - (intOf i).toNat)
      case atStart => exact ⟨0, Nat.zero_le _, rfl, HO1.out, HB1.out⟩
      case round =>
        obtain ⟨j, hj, rfl, HO, HB⟩ := hrel
        obtain ⟨pu, cu, rfl⟩ := own_shF HO.out
        by_cases hlt2 : j < k
        · have hji : (j : Int) < (k : Int) := by omega
          obtain ⟨l, hc⟩ : ∃ l, ls[j]? = some l := ⟨_, List.getElem?_eq_getElem (by have := HN.out; omega)⟩
          obtain ⟨kb, ko, cp, cn, cc, hps, hkb, y0, hy0⟩ := (HP.out.below HB.out).el hc
          subst hps
          obtain rfl : cn = l.length := hy0.row.ln.1
          have HS : Hid (SrcAt wr 6 (.slice cp l.length cc) l.length (l.flatMap ndE)) := hy0.row.src flatNd
          obtain ⟨t1, t2, t3⟩ := HT.out j l hc
          have HT2 := Lib.hid t2
          have HT3 := Lib.hid t3
          clear t2 t3 hc hy0
          generalize (ls.take j).flatten.length = A1 at *
          generalize l.length = L at *
          go_wp2_with (at_builtin; refine append_gen elemNd rfl (.tmp 31) (.tmp 32) rfl w.heap.size (.slice pu A1 cu) A1 _ rfl HO.out (.slice cp L cc) L _ rfl HS.out (by omega) (by unfold maxLen; omega) HB.out.size ?_; intro y1 w1 g1 g2; have HO2 := Lib.hid g1; have HB2 : Hid (Below w.heap.size w w1) := below_grown HB.out HO.out g2 (Nat.le_refl _) HB.out.size; clear g1 g2)
          go_roundw
          case rel => exact ⟨j + 1, by omega, by go_num, by rw [HT2.out, HT3.out]; exact HO2.out, HB2.out⟩
          case measure => simp [intOf]; omega
        · have hjk : j = k := by omega
          subst hjk
          have hkk2 : ¬ (j : Int) < (j : Int) := by omega
          rw [HTK.out] at HO
          obtain ⟨N, hN⟩ : ∃ N, N = ls.flatten.length := ⟨_, rfl⟩
          rw [← hN] at HO
          have HNN := Lib.hid hN
          clear hN
          rw [HTK.out, ← HNN.out]
          go_wp2_with fail
          go_ret
          have h1 : wr.ownsRow w.heap.size 61 6 (.slice pu N cu) ls.flatten.length (ls.flatten.flatMap ndE) := by
            have h := HO.out
            rw [HNN.out] at h ⊢
            exact h
          exact ⟨⟨_, rfl, h1, fun x hx => by
            obtain ⟨l, hl, hx2⟩ := List.mem_flatten.1 hx
            obtain ⟨q, hq, rfl⟩ := List.mem_iff_getElem.1 hl
            obtain ⟨kb, ko, cp, cn, cc, -, -, -, hy0⟩ := HP.out.el (List.getElem?_eq_getElem hq)
            exact hy0.2 x hx2⟩, HB.out⟩

end Go.Proofs.Ytehcclcokgmplaa

/-
  A region that draws its order, operation by operation, where operations may also write: what each step keeps is a relation of the caller's choice; what an operation leaves may speak of what others yield.
-/
namespace Go.Proofs.Ytehcclcokgmplaa
namespace OutR
open Go.RowKit

/-! ### what operations yield -/

/-- What is known of what an operation yields: a value; something of it in memory; a function of what others yield. -/
inductive Out
  | eq (v : Value)
  | rel (p : World → Value → Prop)
  | rell (js : List Nat) (p : List Value → World → Value → Prop)
  | fn (js : List Nat) (F : List Value → Value)
def Out.js : Out → List Nat
  | .fn js _ => js
  | .rell js _ => js
  | _ => []
def Out.ok (l : Nat → Value) (w : World) (v : Value) : Out → Prop
  | .eq u => v = u
  | .rel p => p w v
  | .rell js p => p (js.map l) w v
  | .fn js F => v = F (js.map l)
def Out.val (x : Value) : Out → Value
  | .eq v => v
  | _ => x
def Out.keeps (R : World → World → Prop) : Out → Prop
  | .rel p => ∀ w w' v, p w v → R w w' → p w' v
  | .rell _ p => ∀ xs w w' v, p xs w v → R w w' → p xs w' v
  | _ => True

/-- What an operation stands on. -/
structure AtO (S : World → Prop) (Ks : List Out) (ops : Array Oper) (a0 : Act) (o : Oper) (a : Act) (w : World) (l : Nat → Value) : Prop where
  inv : S w
  old : ∀ t, writes ops t = false → a.eval (.tmp t) = a0.eval (.tmp t)
  dep : ∀ j, (depsOf o).contains j = true → ∀ d, dstOf ops j = some d → a.eval (.tmp d) = l j
  ok : ∀ j, (depsOf o).contains j = true → ∀ k, Ks[j]? = some k → k.ok l w (l j)
  yield : ∀ g b, o.guard = some (g, b) → yielded ops a.tmps g = (match l g with | .bool b => some b | _ => none)

/-- What is shown of an operation. -/
def OutStep (R : World → World → Prop) (P : Program) (ops : Array Oper) (Q : Exit → Act → World → Prop) (o : Oper) (k : Out) (l : Nat → Value) (a : Act) (w : World) : Prop :=
  if Region.wanted o (yielded ops a.tmps) then ∀ K : Act → World → Prop, (∀ v w', R w w' → k.ok l w' v → K (a.put o.dst v) w') → o.wp P a w K Q else k.ok l w undef

/-- The frame behind all. -/
def layO (a0 : Act) (l : Nat → Value) : List Out → List Oper → Nat → Act
  | k :: ks, o :: os, i => layO (a0.put o.dst (k.val (l i))) l ks os (i + 1)
  | _, _, _ => a0

structure FrO (ops : Array Oper) (a0 : Act) (L : Array Bool) (l : Nat → Value) (a : Act) : Prop where
  df : a.defers = a0.defers
  sz : a.tmps.size = a0.tmps.size
  old : ∀ s, (∀ j, didO L j = true → dstOf ops j ≠ some s) → a.tmps[s]? = a0.tmps[s]?
  new : ∀ j d, didO L j = true → dstOf ops j = some d → a.tmps[d]? = some (l j)

structure InO (S : World → Prop) (Ks : List Out) (ops : Array Oper) (a0 : Act) (L : Array Bool) (l : Nat → Value) (a : Act) (w : World) : Prop where
  ls : L.size = ops.size
  fr : FrO ops a0 L l a
  inv : S w
  ok : ∀ i, didO L i = true → ∀ k, Ks[i]? = some k → k.ok l w (l i)
  dp : ∀ i o, didO L i = true → ops[i]? = some o → ∀ j ∈ depsOf o, didO L j = true

theorem layO_at {a0 : Act} {l : Nat → Value} : ∀ (ks : List Out) (os : List Oper) (i : Nat) (a : Act) (s : Tmp), ks.length = os.length → (∀ (x : Nat) (o : Oper), os[x]? = some o → o.dst ≠ some s) → (layO a l ks os i).tmps[s]? = a.tmps[s]? ∧ (layO a l ks os i).tmps.size = a.tmps.size ∧ (layO a l ks os i).defers = a.defers
  | [], os, _, _, _, _, _ => by unfold layO; exact ⟨rfl, rfl, rfl⟩
  | k :: ks, [], _, _, _, _, _ => by unfold layO; exact ⟨rfl, rfl, rfl⟩
  | k :: ks, o :: os, i, a, s, hl, h => by
    unfold layO
    obtain ⟨h1, h2, h3⟩ := layO_at (a0 := a0) (l := l) ks os (i + 1) (a.put o.dst (k.val (l i))) s (by simpa using hl) (fun x o ho => h (x + 1) o (by simpa using ho))
    have h0 := h 0 o (by simp)
    cases hd : o.dst with
    | none => rw [hd] at h1 h2 h3; exact ⟨h1, h2, h3⟩
    | some d =>
      rw [hd] at h1 h2 h3 h0
      refine ⟨h1.trans ?_, h2.trans (by simp [Act.put]), h3⟩
      simp only [Act.put]
      rw [Array.getElem?_setIfInBounds_ne (fun e => h0 (by rw [e]))]
theorem layO_sz {l : Nat → Value} : ∀ (ks : List Out) (os : List Oper) (i : Nat) (a : Act), (layO a l ks os i).tmps.size = a.tmps.size ∧ (layO a l ks os i).defers = a.defers
  | [], os, _, _ => by unfold layO; exact ⟨rfl, rfl⟩
  | k :: ks, [], _, _ => by unfold layO; exact ⟨rfl, rfl⟩
  | k :: ks, o :: os, i, a => by
    unfold layO
    obtain ⟨h2, h3⟩ := layO_sz (l := l) ks os (i + 1) (a.put o.dst (k.val (l i)))
    refine ⟨h2.trans ?_, h3.trans ?_⟩ <;> cases o.dst <;> simp [Act.put]
theorem layO_new {l : Nat → Value} : ∀ (ks : List Out) (os : List Oper) (i : Nat) (a : Act) (x : Nat) (o : Oper) (k : Out) (d : Tmp), ks.length = os.length → ks[x]? = some k → os[x]? = some o → o.dst = some d → d < a.tmps.size → (∀ (y : Nat) (o' : Oper), y ≠ x → os[y]? = some o' → o'.dst ≠ some d) →
    (layO a l ks os i).tmps[d]? = some (k.val (l (i + x)))
  | [], _, _, _, x, _, _, _, _, hk, _, _, _, _ => by simp at hk
  | _ :: _, [], _, _, x, _, _, _, _, _, ho, _, _, _ => by simp at ho
  | k0 :: ks, o0 :: os, i, a, 0, o, k, d, hl, hk, ho, hd, hlt, hne => by
    simp only [List.getElem?_cons_zero, Option.some.injEq] at hk ho
    subst hk ho
    unfold layO
    rw [(layO_at (a0 := a) ks os (i + 1) _ d (by simpa using hl) (fun x o ho => hne (x + 1) o (by omega) (by simpa using ho))).1, hd]
    simp only [Act.put, Nat.add_zero]
    rw [Array.getElem?_setIfInBounds_self_of_lt hlt]
  | k0 :: ks, o0 :: os, i, a, x + 1, o, k, d, hl, hk, ho, hd, hlt, hne => by
    unfold layO
    have := layO_new (l := l) ks os (i + 1) (a.put o0.dst (k0.val (l i))) x o k d (by simpa using hl) (by simpa using hk) (by simpa using ho) hd (by cases o0.dst <;> simp [Act.put, hlt]) (fun y o' hy ho' => hne (y + 1) o' (by omega) (by simpa using ho'))
    rw [this, show i + 1 + x = i + (x + 1) by omega]

theorem InO.step {R : World → World → Prop} {S : World → Prop} {Ks : List Out} {ops : Array Oper} {a0 a : Act} {L : Array Bool} {l : Nat → Value} {w w' : World} {i : Nat} {o : Oper} {k : Out} {v : Value} (h : InO S Ks ops a0 L l a w) (hst : ∀ w w', S w → R w w' → S w') (hkp : ∀ k ∈ Ks, k.keeps R)
    (hc : ∀ i o, ops[i]? = some o → ∀ k, Ks[i]? = some k → ChkO ops a0.tmps.size i k.js o) (hlen : Ks.length = ops.size) (ho : ops[i]? = some o) (hk : Ks[i]? = some k) (hn : didO L i = false) (hd : ∀ j ∈ depsOf o, didO L j = true) (hb : R w w') (hv : k.ok l w' v) :
    InO S Ks ops a0 (L.setIfInBounds i true) (updO l i v) (a.put o.dst v) w' := by
  have hlt : i < ops.size := (Array.getElem?_eq_some_iff.1 ho).1
  have hset : ∀ j, didO (L.setIfInBounds i true) j = (decide (j = i) || didO L j) := fun j => didO_set (by rw [h.ls]; exact hlt)
  have hme : didO (L.setIfInBounds i true) i = true := by rw [hset]; simp
  have hdi : dstOf ops i = o.dst := by unfold dstOf; rw [ho]; rfl
  have hold : ∀ j, j ≠ i → didO (L.setIfInBounds i true) j = true → didO L j = true := fun j hj h2 => by rw [hset] at h2; simpa [hj] using h2
  have ci := hc i o ho k hk
  refine ⟨by simpa using h.ls, ⟨put_defers.trans h.fr.df, put_size.trans h.fr.sz, fun s hs => ?_, fun j d hj hjd => ?_⟩, hst _ _ h.inv hb, fun j hj kj hkj => ?_, fun j oj hj hoj x hx => ?_⟩
  · rw [put_at (by rw [← hdi]; exact hs i hme)]
    exact h.fr.old s fun j hj => hs j (by rw [hset, hj]; simp)
  · by_cases e : j = i
    · subst e
      rw [hdi] at hjd
      rw [hjd, updO_self]
      exact put_self (by rw [h.fr.sz]; exact (ci.dst d hjd).1)
    · rw [put_at (fun q => (ci.dst d q).2 j e hjd), updO_ne e]
      exact h.fr.new j d (hold j e hj) hjd
  · by_cases e : j = i
    · subst e
      rw [hk] at hkj; cases hkj
      rw [updO_self]
      cases k with
      | eq u => exact hv
      | rel p => exact hv
      | rell js p =>
        show p (js.map _) w' v
        rw [List.map_congr_left fun x hx => updO_ne (l := l) (v := v) (fun q => by have := hd x (ci.js x hx); rw [q, hn] at this; cases this)]
        exact hv
      | fn js F =>
        show v = F (js.map _)
        rw [List.map_congr_left fun x hx => updO_ne (l := l) (v := v) (fun q => by have := hd x (ci.js x hx); rw [q, hn] at this; cases this)]
        exact hv
    · rw [updO_ne e]
      have hokj := h.ok j (hold j e hj) kj hkj
      cases kj with
      | eq u => exact hokj
      | rel p => exact hkp _ (List.mem_of_getElem? hkj) w w' _ hokj hb
      | rell js p =>
        show p (js.map _) w' (l j)
        have hjl : j < ops.size := by rw [← hlen]; exact (List.getElem?_eq_some_iff.1 hkj).1
        have cj := hc j _ (Array.getElem?_eq_getElem hjl) _ hkj
        rw [List.map_congr_left fun x hx => updO_ne (l := l) (v := v) (fun q => by have := h.dp j _ (hold j e hj) (Array.getElem?_eq_getElem hjl) x (cj.js x hx); rw [q, hn] at this; cases this)]
        exact hkp _ (List.mem_of_getElem? hkj) _ w w' _ hokj hb
      | fn js F =>
        show l j = F (js.map _)
        have hjl : j < ops.size := by rw [← hlen]; exact (List.getElem?_eq_some_iff.1 hkj).1
        have cj := hc j _ (Array.getElem?_eq_getElem hjl) _ hkj
        rw [List.map_congr_left fun x hx => updO_ne (l := l) (v := v) (fun q => by have := h.dp j _ (hold j e hj) (Array.getElem?_eq_getElem hjl) x (cj.js x hx); rw [q, hn] at this; cases this)]
        exact hokj
  · by_cases e : j = i
    · subst e
      rw [ho] at hoj; cases hoj
      rw [hset, hd x hx]; simp
    · rw [hset, h.dp j oj (hold j e hj) hoj x hx]; simp

theorem region_out {R : World → World → Prop} (hR : ∀ w, R w w) {P : Program} {ops : Array Oper} {Q : Exit → Act → World → Prop} {id : Nat} {a0 : Act} {w : World} (hm : P.follows .mixedOrders = true) (Ks : List Out) (S : World → Prop)
    (hst : ∀ w w', S w → R w w' → S w') (hkp : ∀ k ∈ Ks, k.keeps R) (hchk : chkAll ops a0.tmps.size (Ks.map Out.js) = true) (h0 : S w.drew)
    (hstep : ∀ (i : Nat) (o : Oper) (k : Out), ops[i]? = some o → Ks[i]? = some k → ∀ (a : Act) (w : World) (l : Nat → Value), AtO S Ks ops a0 o a w l → OutStep R P ops Q o k l a w)
    (hend : ∀ (l : Nat → Value) (w : World), S w → (∀ (i : Nat) (k : Out), Ks[i]? = some k → k.ok l w (l i)) → Q .normal (layO a0 l Ks ops.toList 0) w) : (Code.region id ops true).wp P Q a0 w := by
  have hlen : Ks.length = ops.size := by
    unfold chkAll at hchk
    rw [Bool.and_eq_true, decide_eq_true_eq, List.length_map] at hchk
    exact hchk.1
  have hc : ∀ i o, ops[i]? = some o → ∀ k, Ks[i]? = some k → ChkO ops a0.tmps.size i k.js o := fun i o ho k hk => by
    have := chk_at hchk ho
    rw [List.getD_eq_getElem?_getD, List.getElem?_map, hk] at this
    exact ChkO.of this
  have hget : ∀ i o, ops[i]? = some o → ∃ k, Ks[i]? = some k := fun i o ho => ⟨_, List.getElem?_eq_getElem (by rw [hlen]; exact (Array.getElem?_eq_some_iff.1 ho).1)⟩
  refine wp_region_invO hm (fun L a w => ∃ l, InO S Ks ops a0 L l a w) ?_ ?_ ?_ ?_
  · refine ⟨fun _ => undef, by simp, ⟨rfl, rfl, fun _ _ => rfl, fun j d hj => ?_⟩, h0, fun i hi => ?_, fun i o hi => ?_⟩
    · rw [didO_none] at hj; cases hj
    · rw [didO_none] at hi; cases hi
    · rw [didO_none] at hi; cases hi
  · rintro L a w i hL hi hn hd ⟨l, hI⟩
    have ho := Array.getElem?_eq_getElem hi
    obtain ⟨k, hk⟩ := hget i _ ho
    have ci := hc i _ ho k hk
    have hd' : ∀ j ∈ depsOf ops[i], didO L j = true := fun j hj => by
      unfold depsOf at hj
      rw [List.mem_map] at hj
      obtain ⟨e, he, rfl⟩ := hj
      rw [List.mem_filter] at he
      exact hd _ ho e (by simpa using he.1) he.2
    have hat : AtO S Ks ops a0 ops[i] a w l := by
      refine ⟨hI.inv, fun t ht => eval_of (hI.fr.old t fun j _ e => ?_), fun j hj d hjd => eval_some (hI.fr.new j d (hd' j (by simpa using hj)) hjd), fun j hj kj hkj => hI.ok j (hd' j (by simpa using hj)) kj hkj, fun g b hg => ?_⟩
      · unfold writes at ht
        rw [List.any_eq_false] at ht
        unfold dstOf at e
        cases q : ops[j]? with
        | none => rw [q] at e; cases e
        | some o' =>
          rw [q] at e
          have := ht o' (by rw [Array.mem_toList_iff]; exact Array.mem_of_getElem? q)
          rw [beq_iff_eq] at this
          exact this e
      · obtain ⟨h1, d, h2⟩ := ci.guard g b hg
        have := hI.fr.new g d (hd' g h1) h2
        unfold yielded
        have e2 : (ops[g]?).bind (·.dst) = some d := h2
        rw [e2]
        simp only [Option.bind_some, this]
        cases l g <;> rfl
    have hs := hstep i _ k ho hk a w l hat
    refine wpOp_step ho fun K hK => ?_
    unfold OutStep at hs
    split
    · rename_i hw
      rw [if_pos hw] at hs
      exact hs K fun v w' hb hv => hK _ _ ⟨_, hI.step hst hkp hc hlen ho hk hn hd' hb hv⟩
    · rename_i hw
      rw [if_neg hw] at hs
      exact hK _ _ ⟨_, hI.step hst hkp hc hlen ho hk hn hd' (hR _) hs⟩
  · intro i o ho e he hb
    obtain ⟨k, hk⟩ := hget i o ho
    exact (hc i o ho k hk).back e.on (by unfold depsOf; exact List.mem_map.2 ⟨e, List.mem_filter.2 ⟨by simpa using he, hb⟩, rfl⟩)
  · rintro L a w hall ⟨l, hI⟩
    have hok : ∀ (i : Nat) (k : Out), Ks[i]? = some k → k.ok l w (l i) := fun i k hk => hI.ok i (hall i (by rw [← hlen]; exact (List.getElem?_eq_some_iff.1 hk).1)) k hk
    have hlen2 : Ks.length = ops.toList.length := by simpa using hlen
    have e : a = layO a0 l Ks ops.toList 0 := by
      obtain ⟨s1, s2⟩ := layO_sz (l := l) Ks ops.toList 0 a0
      have ht : a.tmps = (layO a0 l Ks ops.toList 0).tmps := by
        refine Array.ext_getElem? fun s => ?_
        by_cases hw : ∃ j, j < ops.size ∧ dstOf ops j = some s
        · obtain ⟨j, hj, hjd⟩ := hw
          have ho := Array.getElem?_eq_getElem hj
          obtain ⟨k, hk⟩ := hget j _ ho
          have hd : (ops[j]).dst = some s := by unfold dstOf at hjd; rw [ho] at hjd; exact hjd
          have cj := hc j _ ho k hk
          rw [hI.fr.new j s (hall j hj) hjd, layO_new Ks ops.toList 0 a0 j ops[j] k s hlen2 hk (by simp) hd (cj.dst s hd).1 (fun y o' hy ho' e => (cj.dst s hd).2 y hy (by
            unfold dstOf
            have : ops[y]? = some o' := by simpa using ho'
            rw [this]; exact e)), Nat.zero_add]
          have := hok j k hk
          cases k with
          | eq u => have h2 : l j = u := this; rw [h2]; rfl
          | rel p => rfl
          | rell js p => rfl
          | fn js F => rfl
        · rw [hI.fr.old s fun j hj e => hw ⟨j, by
            unfold dstOf at e
            cases q : ops[j]? with
            | none => rw [q] at e; cases e
            | some o' => exact (Array.getElem?_eq_some_iff.1 q).1, e⟩]
          rw [(layO_at (a0 := a0) Ks ops.toList 0 a0 s hlen2 fun x o ho e => hw ⟨x, by
            have : ops[x]? = some o := by simpa using ho
            exact ⟨(Array.getElem?_eq_some_iff.1 this).1, by unfold dstOf; rw [this]; exact e⟩⟩).1]
      obtain ⟨t, df⟩ := a
      have hdf : df = a0.defers := hI.fr.df
      generalize hX : layO a0 l Ks ops.toList 0 = X at *
      obtain ⟨t2, df2⟩ := X
      simp only at ht s2
      rw [ht, hdf, s2]
    rw [e]
    exact hend l w hI.inv hok

/-! ### the operations one behind the other (what is known of each one: the last one first) -/
def StepsO (R : World → World → Prop) (P : Program) (ops : Array Oper) (Q : Exit → Act → World → Prop) (S : World → Prop) (a0 : Act) : List Oper → List Out → (List Out → Prop) → Prop
  | [], Rs, fin => fin Rs.reverse
  | o :: rest, Rs, fin => ∃ k : Out, k.keeps R ∧ k.js.all (fun j => (depsOf o).contains j) = true ∧ (∀ (a : Act) (w : World) (l : Nat → Value), AtO S Rs.reverse ops a0 o a w l → OutStep R P ops Q o k l a w) ∧ StepsO R P ops Q S a0 rest (k :: Rs) fin

theorem stepsO_full {R : World → World → Prop} {P : Program} {ops : Array Oper} {Q : Exit → Act → World → Prop} {S : World → Prop} {a0 : Act} {fin : List Out → Prop} : ∀ (todo : List Oper) (Rs : List Out), (∀ k ∈ Rs, k.keeps R) → StepsO R P ops Q S a0 todo Rs fin →
    ∃ Kf : List Out, Kf.take Rs.length = Rs.reverse ∧ Kf.length = Rs.length + todo.length ∧ fin Kf ∧ (∀ k ∈ Kf, k.keeps R) ∧ ∀ (x : Nat) (o : Oper) (k : Out), todo[x]? = some o → Kf[Rs.length + x]? = some k → k.js.all (fun j => (depsOf o).contains j) = true ∧ ∀ (a : Act) (w : World) (l : Nat → Value), AtO S (Kf.take (Rs.length + x)) ops a0 o a w l → OutStep R P ops Q o k l a w
  | [], Rs, hk, h => ⟨Rs.reverse, by rw [List.take_of_length_le (by simp)], by simp, h, (fun k hk2 => hk k (List.mem_reverse.1 hk2)), fun x o k ho => by simp at ho⟩
  | o :: rest, Rs, hk, h => by
    obtain ⟨k, h1, h2, h3, h4⟩ := h
    obtain ⟨Kf, q1, q2, q3, q4, q5⟩ := stepsO_full rest (k :: Rs) (fun x hx => by
      rw [List.mem_cons] at hx
      rcases hx with rfl | hx
      · exact h1
      · exact hk x hx) h4
    rw [List.length_cons] at q1 q2 q5
    rw [List.reverse_cons] at q1
    have hrl : Rs.reverse.length = Rs.length := by simp
    have q6 : Kf.take Rs.length = Rs.reverse := by
      have := congrArg (List.take Rs.length) q1
      rw [List.take_take, Nat.min_eq_left (by omega), List.take_left' hrl] at this
      exact this
    have q7 : Kf[Rs.length]? = some k := by
      have : (Kf.take (Rs.length + 1))[Rs.length]? = (Rs.reverse ++ [k])[Rs.length]? := by rw [q1]
      rw [List.getElem?_take_of_lt (by omega), List.getElem?_append_right (by omega)] at this
      simpa using this
    refine ⟨Kf, q6, by rw [q2, List.length_cons]; omega, q3, q4, fun x o' k' ho hk' => ?_⟩
    cases x with
    | zero =>
      have ho2 : o = o' := by simpa using ho
      subst ho2
      rw [Nat.add_zero, q7] at hk'
      cases hk'
      rw [Nat.add_zero, q6]
      exact ⟨h2, h3⟩
    | succ x =>
      have := q5 x o' k' (by simpa using ho) (by rw [show Rs.length + 1 + x = Rs.length + (x + 1) by omega]; exact hk')
      rw [show Rs.length + 1 + x = Rs.length + (x + 1) by omega] at this
      exact this

theorem chkO_js {ops : Array Oper} {N i : Nat} {js : List Nat} {o : Oper} (h : chkO ops N i [] o = true) (hj : js.all (fun j => (depsOf o).contains j) = true) : chkO ops N i js o = true := by
  unfold chkO at h ⊢
  simp only [Bool.and_eq_true] at h ⊢
  obtain ⟨⟨⟨⟨⟨h1, -⟩, h3⟩, h4⟩, h5⟩, h6⟩ := h
  exact ⟨⟨⟨⟨⟨h1, hj⟩, h3⟩, h4⟩, h5⟩, h6⟩

theorem region_outR (R : World → World → Prop) (hR : ∀ w, R w w) {P : Program} {os : List Oper} {Q : Exit → Act → World → Prop} {id : Nat} {a0 : Act} {w : World} (hm : P.follows .mixedOrders = true) (S : World → Prop)
    (hst : ∀ w w', S w → R w w' → S w') (hchk : chkAll os.toArray a0.tmps.size (os.map fun _ => []) = true) (h0 : S w.drew)
    (hsteps : StepsO R P os.toArray Q S a0 os [] fun Ks => ∀ (l : Nat → Value) (w : World), S w → (∀ (i : Nat) (k : Out), Ks[i]? = some k → k.ok l w (l i)) → Q .normal (layO a0 l Ks os 0) w) : (Code.region id os.toArray true).wp P Q a0 w := by
  obtain ⟨Kf, -, h2, h3, h4, h5⟩ := stepsO_full os [] (fun k hk => by cases hk) hsteps
  rw [List.length_nil, Nat.zero_add] at h2
  refine region_out hR hm Kf S hst (fun k hk => h4 k hk) ?_ h0 (fun i o k ho hk a w l hat => ?_) (by simpa using h3)
  · unfold chkAll at hchk ⊢
    simp only [Bool.and_eq_true, decide_eq_true_eq, List.length_map, List.size_toArray, List.all_eq_true, List.mem_range] at hchk ⊢
    refine ⟨h2, fun i hi => ?_⟩
    have hc := hchk.2 i hi
    have ho : os[i]? = some os[i] := List.getElem?_eq_getElem hi
    have hk : Kf[i]? = some (Kf[i]'(by rw [h2]; exact hi)) := List.getElem?_eq_getElem _
    have hj := (h5 i _ _ ho (by rw [List.length_nil, Nat.zero_add]; exact hk)).1
    simp only [List.getElem?_toArray, ho, List.getD_eq_getElem?_getD, List.getElem?_map, hk, Option.map_some, Option.getD_some] at hc ⊢
    exact chkO_js hc hj
  · have := (h5 i o k (by simpa using ho) (by simpa using hk)).2 a w l
    rw [List.length_nil, Nat.zero_add] at this
    exact this ⟨hat.inv, hat.old, hat.dep, fun j hj k' hk' => hat.ok j hj k' (by
      rw [List.getElem?_take] at hk'
      split at hk'
      · exact hk'
      · cases hk'), hat.yield⟩

/-! ### one operation -/
section
variable {P : Program} {ops : Array Oper} {Q : Exit → Act → World → Prop} {o : Oper} {k : Out} {l : Nat → Value} {a : Act} {w w' : World} {S : World → Prop} {Ks : List Out} {a0 : Act} {R : World → World → Prop}
/-- An operation that hangs on one that yields a known value. -/
theorem rev_at {Rs : List Out} {j m : Nat} {k : Out} (hm : Rs.length = m + 1 + j) (hk : Rs[m]? = some k) : Rs.reverse[j]? = some k := by
  rw [List.getElem?_reverse (by omega), ← hk]
  congr 1; omega
theorem AtO.get (h : AtO S Ks.reverse ops a0 o a w l) (j m : Nat) {d : Tmp} {v : Value} (hj : (depsOf o).contains j = true) (hd : dstOf ops j = some d) (hm : Ks.length = m + 1 + j) (hk : Ks[m]? = some (.eq v)) : a.eval (.tmp d) = v :=
  (h.dep j hj d hd).trans (h.ok j hj _ (rev_at hm hk))
theorem AtO.got (h : AtO S Ks.reverse ops a0 o a w l) (j m : Nat) {d : Tmp} {p : World → Value → Prop} (hj : (depsOf o).contains j = true) (hd : dstOf ops j = some d) (hm : Ks.length = m + 1 + j) (hk : Ks[m]? = some (.rel p)) : ∃ v, a.eval (.tmp d) = v ∧ l j = v ∧ p w v :=
  ⟨_, h.dep j hj d hd, rfl, h.ok j hj _ (rev_at hm hk)⟩
theorem AtO.go (h : AtO S Ks.reverse ops a0 o a w l) (m : Nat) {g : Nat} {b : Bool} (hg : o.guard = some (g, b)) (hj : (depsOf o).contains g = true) (hm : Ks.length = m + 1 + g) (hk : Ks[m]? = some (.eq (.bool b))) : Region.wanted o (yielded ops a.tmps) = true := by
  have e : l g = .bool b := h.ok g hj _ (rev_at hm hk)
  unfold Region.wanted
  rw [hg]
  simp only [h.yield g b hg, e, beq_self_eq_true]
theorem out_val (hR : ∀ w, R w w) {v : Value} (hw : Region.wanted o (yielded ops a.tmps) = true) (hex : (execOp a.eval o).run P w = .ok (.value v) w) : OutStep R P ops Q o (.eq v) l a w := by
  unfold OutStep; rw [hw]
  intro K hK
  unfold Oper.wp
  rw [hex, Oper.upon_value]
  exact hK v w (hR w) rfl
theorem out_new {v : Value} (hw : Region.wanted o (yielded ops a.tmps) = true) (hex : (execOp a.eval o).run P w = .ok (.value v) w') (hb : R w w') (hk : k.ok l w' v) : OutStep R P ops Q o k l a w := by
  unfold OutStep; rw [hw]
  intro K hK
  unfold Oper.wp
  rw [hex, Oper.upon_value]
  exact hK v w' hb hk
theorem out_store (hw : Region.wanted o (yielded ops a.tmps) = true) (hex : (execOp a.eval o).run P w = .ok .skip w') (hb : R w w') (hk : k.ok l w' undef) : OutStep R P ops Q o k l a w := by
  unfold OutStep; rw [hw]
  intro K hK
  unfold Oper.wp
  rw [hex, Oper.upon_skip]
  exact hK undef w' hb hk
theorem out_call {f : FuncId} {args : Array Value} (hw : Region.wanted o (yielded ops a.tmps) = true) (hex : (execOp a.eval o).run P w = .ok (.enter f args) w) (hc : Calls P f args w fun e w' => ∃ v, e = .returned v ∧ k.ok l w' v ∧ R w w') : OutStep R P ops Q o k l a w := by
  unfold OutStep; rw [hw]
  intro K hK
  unfold Oper.wp
  rw [hex, Oper.upon_enter]
  refine hc.mono ?_
  rintro e w' ⟨v, rfl, h1, h2⟩
  exact hK v w' h2 h1
theorem out_call_eq {f : FuncId} {args : Array Value} {v : Value} (hw : Region.wanted o (yielded ops a.tmps) = true) (hex : (execOp a.eval o).run P w = .ok (.enter f args) w) (hc : Calls P f args w fun e w' => e = .returned v ∧ R w w') : OutStep R P ops Q o (.eq v) l a w :=
  out_call hw hex (hc.mono fun _e _w' h => ⟨v, h.1, rfl, h.2⟩)
end

end OutR
end Go.Proofs.Ytehcclcokgmplaa

/-
  Lemmas, joined: Var, IteP, Ite.
-/
import Derived.Test.YtlnkflmnjkmhkaaJS02
/-
  Contracts of (*Store).node in one, of made at a full store, of Var at a store that is there.
-/
namespace Go.Proofs.Ytlnkflmnjkmhkaa
open Go.RowKit Go.Maps

/-- The node of a variable, a lo and a hi; none: the store is full. -/
def node1 (s : BS) (t : T3) : BS × Option Int :=
  if t.b = t.c then (s, some t.b) else
  match byOf s.nodes t with
  | some i => (s, some i)
  | none => if s.nodes.length = s.cap then ({ s with full := true }, none) else ({ s with nodes := s.nodes ++ [t] }, some ((s.nodes.length + 2 : Nat) : Int))

/-- How a call ends that makes a node, or gives up. -/
def Gives (b : Nat) (O : Nat → Prop) (told : T3 → Option Int) (w : World) (r : BS × Option Int) (e : Ending) (w' : World) : Prop :=
  (∃ i, r.2 = some i ∧ e = .returned (.int .i64 i) ∧ Made b O w (fun s' t' => s' = r.1 ∧ t' = told) w') ∨
  (r.2 = none ∧ e = .panicked [{ v := overV, recovered := false }] ∧ Made b O w (fun s' t' => s' = r.1 ∧ t' = told) w')

theorem node_any (b : Nat) (O : Nat → Prop) (s : BS) (told : T3 → Option Int) (v lo hi : Int) (w : World) (hs : IsBdd w b O s told) (hw : (⟨v, lo, hi⟩ : T3).wf) :
    Calls Try.prog 67 #[.pointer (some ⟨b, 0, none⟩), .int .i64 v, .int .i64 lo, .int .i64 hi] w (Gives b O told w (node1 s ⟨v, lo, hi⟩)) := by
  have hcap : s.nodes.length ≤ s.cap := by
    obtain ⟨vn, m1, m2, c0, c1, c2, c3, c4, fz, own, hm12, hnb, hm1, hm2, hO, hcp1, hcp2, hcp3, -⟩ := hs
    exact hcp3
  by_cases h1 : lo = hi
  · subst h1
    have e : node1 s ⟨v, lo, lo⟩ = (s, some lo) := by simp [node1]
    rw [e]
    exact (node_same b v lo w).mono fun e w' ⟨h1, h2⟩ => .inl ⟨lo, rfl, h1, O, s, told, hs.below h2, Ext.of_below h2, rfl, rfl⟩
  · have h1' : (lo == hi) = false := by rw [beq_eq_false_iff_ne]; exact h1
    cases hby : byOf s.nodes ⟨v, lo, hi⟩ with
    | some i =>
      have e : node1 s ⟨v, lo, hi⟩ = (s, some i) := by simp [node1, h1, hby]
      rw [e]
      exact (node_found b O s told v lo hi i w hs h1' hw hby).mono fun e w' ⟨h1, h2⟩ => .inl ⟨i, rfl, h1, O, s, told, hs.below h2, Ext.of_below h2, rfl, rfl⟩
    | none =>
      by_cases hc : s.nodes.length = s.cap
      · have e : node1 s ⟨v, lo, hi⟩ = ({ s with full := true }, none) := by simp [node1, h1, hby, hc]
        rw [e]
        exact (node_over b O s told v lo hi w hs h1' hw hby hc).mono fun e w' ⟨h1, h2, h3⟩ => .inr ⟨rfl, h1, O, _, told, h2, ⟨h3, fun _ h => .inl h⟩, rfl, rfl⟩
      · have e : node1 s ⟨v, lo, hi⟩ = ({ s with nodes := s.nodes ++ [⟨v, lo, hi⟩] }, some ((s.nodes.length + 2 : Nat) : Int)) := by simp [node1, h1, hby, hc]
        rw [e]
        exact (node_new b O s told v lo hi w hs h1' hw hby (by omega)).mono fun e w' ⟨h1, O', h2, h3⟩ => .inl ⟨_, rfl, h1, O', _, told, h2, h3, rfl, rfl⟩

/-- A call of made: what the call that it is handed gives. -/
theorem made_any (b : Nat) (O : Nat → Prop) (s : BS) (told : T3 → Option Int) (f : Nat) (fst cp : Array Value) (r : BS × Option Int) (told' : T3 → Option Int) (w : World) (hs : IsBdd w b O s told) (hfull : s.full = false)
    (hcall : ∀ (av : Array Value) (W : World), (callFunc f av).run Try.prog W = .ok (.enter f av) W)
    (hf : Calls Try.prog f (fst ++ cp) (w.alloc (.cells #[.int .i64 0] 3)) (Gives b O told' (w.alloc (.cells #[.int .i64 0] 3)) r)) :
    Calls Try.prog 65 #[.pointer (some ⟨b, 0, none⟩), .func (.func f) fst cp] w fun e w' => e = .returned (.int .i64 (r.2.getD 0)) ∧ Made b O w (fun s' t' => s' = r.1 ∧ t' = told') w' := by
  obtain ⟨s1, r2⟩ := r
  cases r2 with
  | some i =>
    refine made_ret b O s told f fst cp i _ w hs hfull hcall (hf.mono fun e w' h => ?_)
    rcases h with ⟨j, h1, h2, h3⟩ | ⟨h1, h2, h3⟩
    · cases h1; exact ⟨h2, h3⟩
    · cases h1
  | none =>
    refine made_over b O s told f fst cp _ w hs hfull hcall (hf.mono fun e w' h => ?_)
    rcases h with ⟨j, h1, h2, h3⟩ | ⟨h1, h2, h3⟩
    · cases h1
    · exact ⟨h2, h3⟩

set_option maxRecDepth 100000 in
set_option maxHeartbeats 800000 in
theorem made_full (b : Nat) (O : Nat → Prop) (s : BS) (told : T3 → Option Int) (fv : Value) (w : World) (hs : IsBdd w b O s told) (hfull : s.full = true) :
    Calls Try.prog 65 #[.pointer (some ⟨b, 0, none⟩), fv] w (RetInt w 0) := by
  obtain ⟨vn, m1, m2, c0, c1, c2, c3, c4, fz, own, hm12, hnb, hm1, hm2, hO, hcp1, hcp2, -⟩ := hs
  rw [hfull] at c4
  clear c1 c2 c3 fz own hm12 hnb hm1 hm2 hO hfull
  have hcap : ((s.cap : Int) == 0) = false := by rw [beq_eq_false_iff_ne]; omega
  have hbl := (cell_there c0).1
  have c0' : ∀ o, (w.alloc o).cell? ⟨b, 0, none⟩ = some (.int .i64 (s.cap : Int)) := fun o => (World.cell?_alloc_lt w o ⟨b, 0, none⟩ hbl).trans c0
  have c4' : ∀ o, (w.alloc o).cell? ⟨b, 4, none⟩ = some (.bool true) := fun o => (World.cell?_alloc_lt w o ⟨b, 4, none⟩ hbl).trans c4
  clear c0 c4
  go_enter Try.func65, Try.ntmps65
  go_wp2
  exact bodyPost_ret (v := .int .i64 0) (by simp [results, Try.results65, go_sem]) rfl ⟨rfl, (by repeat (first | exact Below.refl _ _ | assumption | refine Below.drew ?_ | refine Below.alloc ?_ (by first | omega | (simp <;> omega)) _ | refine Below.setCell ?_ (by first | omega | (simp <;> omega)) _ | refine Below.trans ?_ (Below.mono (by assumption) (by first | omega | (simp <;> omega)))))⟩

set_option maxRecDepth 100000 in
set_option maxHeartbeats 800000 in
theorem var1_any (b : Nat) (O : Nat → Prop) (s : BS) (told : T3 → Option Int) (p q : Addr) (v : Int) (w : World) (hs : IsBdd w b O s told) (hw : (⟨v, 0, 1⟩ : T3).wf) (hp : w.cell? p = some (.pointer (some ⟨b, 0, none⟩))) (hq : w.cell? q = some (.int .i64 v)) :
    Calls Try.prog 66 #[.pointer (some p), .pointer (some q)] w (Gives b O told w (node1 s ⟨v, 0, 1⟩)) := by
  have HN := Lib.hid (node_any b O s told v 0 1 w hs hw)
  clear hs hw
  go_enter Try.func66, Try.ntmps66
  go_wp2_with fail
  refine HN.out.mono ?_
  rintro e w' (⟨i, h1, rfl, h3⟩ | ⟨h1, rfl, h3⟩)
  · have H1 := Lib.hid h1
    have H3 := Lib.hid h3
    clear h1 h3
    go_wp2_with fail
    go_ret
    exact .inl ⟨i, H1.out, rfl, H3.out⟩
  · have H1 := Lib.hid h1
    have H3 := Lib.hid h3
    clear h1 h3
    go_wp2_with fail
    exact ⟨rfl, .inr ⟨H1.out, rfl, H3.out⟩⟩

/-- Var of a store. -/
def varF (s : BS) (v : Int) : BS × Int :=
  if s.full ∨ v < 0 ∨ 64 ≤ v then (s, 0) else ((node1 s ⟨v, 0, 1⟩).1, (node1 s ⟨v, 0, 1⟩).2.getD 0)

theorem call_var1 (av : Array Value) (W : World) : (callFunc 66 av).run Try.prog W = .ok (.enter 66 av) W := by kernel_rfl

set_option maxRecDepth 100000 in
set_option maxHeartbeats 800000 in
theorem var_any (b : Nat) (O : Nat → Prop) (s : BS) (told : T3 → Option Int) (v : Int) (w : World) (hs : IsBdd w b O s told) :
    Calls Try.prog 10 #[.pointer (some ⟨b, 0, none⟩), .int .i64 v] w fun e w' => e = .returned (.int .i64 (varF s v).2) ∧ Made b O w (fun s' t' => s' = (varF s v).1 ∧ t' = told) w' := by
  have HS := Lib.hid hs
  have hmf := run_makeFunc
  have hB : Below w.heap.size w ((w.alloc (.cells #[.pointer (some ⟨b, 0, none⟩)] 23)).alloc (.cells #[.int .i64 v] 3)) := (by repeat (first | exact Below.refl _ _ | assumption | refine Below.drew ?_ | refine Below.alloc ?_ (by first | omega | (simp <;> omega)) _ | refine Below.setCell ?_ (by first | omega | (simp <;> omega)) _ | refine Below.trans ?_ (Below.mono (by assumption) (by first | omega | (simp <;> omega)))))
  have HB := Lib.hid hB; clear hB
  by_cases hv : v < 0 ∨ 64 ≤ v
  · have HE : Hid (varF s v = (s, 0)) := by show _ = _; simp [varF, hv]
    clear hs
    rcases hv with hv | hv
    all_goals
      go_enter Try.func10, Try.ntmps10
      go_wp2_with fail
      go_ret
      exact ⟨by rw [HE.out]; rfl, O, s, told, HS.out.below HB.out, Ext.of_below HB.out, by rw [HE.out], rfl⟩
  · have hv0 : 0 ≤ v := by omega
    have hv1 : v < 64 := by omega
    clear hv
    by_cases hf : s.full = true
    · have HE : Hid (varF s v = (s, 0)) := by show _ = _; simp [varF, hf]
      have HM : Hid (∀ fv, Calls Try.prog 65 #[.pointer (some ⟨b, 0, none⟩), fv] ((w.alloc (.cells #[.pointer (some ⟨b, 0, none⟩)] 23)).alloc (.cells #[.int .i64 v] 3)) (RetInt ((w.alloc (.cells #[.pointer (some ⟨b, 0, none⟩)] 23)).alloc (.cells #[.int .i64 v] 3)) 0)) := fun fv => made_full b O s told fv _ (HS.out.below HB.out) hf
      clear hs hf
      go_enter Try.func10, Try.ntmps10
      go_wp2_with fail
      refine (HM.out _).mono ?_
      rintro e w1 ⟨rfl, hb⟩
      go_wp2_with fail
      go_ret
      have hB2 : Below w.heap.size w w1 := HB.out.trans (hb.mono HB.out.size)
      exact ⟨by rw [HE.out]; rfl, O, s, told, HS.out.below hB2, Ext.of_below hB2, by rw [HE.out], rfl⟩
    · have hf' : s.full = false := by simpa using hf
      have HE : Hid (varF s v = ((node1 s ⟨v, 0, 1⟩).1, (node1 s ⟨v, 0, 1⟩).2.getD 0)) := by
        show _ = _
        unfold varF
        rw [if_neg (by rw [hf']; simp; omega)]
      have hW : (⟨v, 0, 1⟩ : T3).wf := ⟨WalkArith.wf_i64 (n := v) (by omega), WalkArith.wf_i64 (n := 0) (by omega), WalkArith.wf_i64 (n := 1) (by omega)⟩
      have HM : Hid (Calls Try.prog 65 #[.pointer (some ⟨b, 0, none⟩), .func (.func 66) #[] #[.pointer (some ⟨w.heap.size, 0, none⟩), .pointer (some ⟨w.heap.size + 1, 0, none⟩)]] ((w.alloc (.cells #[.pointer (some ⟨b, 0, none⟩)] 23)).alloc (.cells #[.int .i64 v] 3))
          fun e w' => e = .returned (.int .i64 ((node1 s ⟨v, 0, 1⟩).2.getD 0)) ∧ Made b O ((w.alloc (.cells #[.pointer (some ⟨b, 0, none⟩)] 23)).alloc (.cells #[.int .i64 v] 3)) (fun s' t' => s' = (node1 s ⟨v, 0, 1⟩).1 ∧ t' = told) w') := by
        refine made_any b O s told 66 #[] #[.pointer (some ⟨w.heap.size, 0, none⟩), .pointer (some ⟨w.heap.size + 1, 0, none⟩)] _ told _ (HS.out.below HB.out) hf' call_var1 ?_
        refine var1_any b O s told _ _ v _ ((HS.out.below HB.out).below (by repeat (first | exact Below.refl _ _ | assumption | refine Below.drew ?_ | refine Below.alloc ?_ (by first | omega | (simp <;> omega)) _ | refine Below.setCell ?_ (by first | omega | (simp <;> omega)) _ | refine Below.trans ?_ (Below.mono (by assumption) (by first | omega | (simp <;> omega)))))) hW ?_ ?_
        · simp [go_sem]
        · simp [go_sem]
      clear hs hf hf' hW
      go_enter Try.func10, Try.ntmps10
      go_wp2_with fail
      refine HM.out.mono ?_
      rintro e w1 ⟨rfl, O', s', told', h1, h2, h3, h4⟩
      have H1 := Lib.hid h1
      have H3 := Lib.hid h3
      have H4 := Lib.hid h4
      clear h1 h3 h4
      go_wp2_with fail
      go_ret
      exact ⟨by rw [HE.out]; rfl, O', s', told', H1.out, (Ext.of_below HB.out).trans h2, by rw [H3.out, HE.out], H4.out⟩

end Go.Proofs.Ytlnkflmnjkmhkaa

/-
  The plain law of Ite: what it makes of a store, without its table of answers; that what it told stays so.
-/
namespace Go.Proofs.Ytlnkflmnjkmhkaa
open Go.RowKit Go.Maps

/-- The variable of a diagram; 64 of 0 and 1. -/
def topP (l : List T3) (a : Int) : Int := if a < 2 then 64 else match l[(a - 2).toNat]? with | some t => t.a | none => 64
/-- A diagram where the variable v is false, true. -/
def loP (l : List T3) (a v : Int) : Int := if topP l a = v then (match l[(a - 2).toNat]? with | some t => t.b | none => a) else a
def hiP (l : List T3) (a v : Int) : Int := if topP l a = v then (match l[(a - 2).toNat]? with | some t => t.c | none => a) else a
/-- The least of three diagrams' variables. -/
def min3 (l : List T3) (c a b : Int) : Int := min (min (topP l c) (topP l a)) (topP l b)

/-- Ite of three diagrams: the store behind it, and what is told (none: the store is full); none: no fuel was left. -/
def iteP : Nat → BS → Int → Int → Int → Option (BS × Option Int)
  | 0, _, _, _, _ => none
  | f + 1, s, c, a, b =>
    if c = 1 ∨ a = b then some (s, some a) else if c = 0 then some (s, some b) else if a = 1 ∧ b = 0 then some (s, some c) else
    match iteP f s (loP s.nodes c (min3 s.nodes c a b)) (loP s.nodes a (min3 s.nodes c a b)) (loP s.nodes b (min3 s.nodes c a b)) with
    | none => none
    | some (s1, none) => some (s1, none)
    | some (s1, some lo) =>
      match iteP f s1 (hiP s.nodes c (min3 s.nodes c a b)) (hiP s.nodes a (min3 s.nodes c a b)) (hiP s.nodes b (min3 s.nodes c a b)) with
      | none => none
      | some (s2, none) => some (s2, none)
      | some (s2, some hi) => some (node1 s2 ⟨min3 s.nodes c a b, lo, hi⟩)

/-- Ite where all nodes are there already. -/
def lookP : Nat → List T3 → Int → Int → Int → Option Int
  | 0, _, _, _, _ => none
  | f + 1, l, c, a, b =>
    if c = 1 ∨ a = b then some a else if c = 0 then some b else if a = 1 ∧ b = 0 then some c else
    match lookP f l (loP l c (min3 l c a b)) (loP l a (min3 l c a b)) (loP l b (min3 l c a b)) with
    | none => none
    | some lo =>
      match lookP f l (hiP l c (min3 l c a b)) (hiP l a (min3 l c a b)) (hiP l b (min3 l c a b)) with
      | none => none
      | some hi => if lo = hi then some lo else byOf l ⟨min3 l c a b, lo, hi⟩

/-- A diagram of the nodes l. -/
def Is (l : List T3) (a : Int) : Prop := 0 ≤ a ∧ a < l.length + 2

/-- Nodes that may be: each one's parts are ahead of it, and have greater variables. -/
structure Ord (l : List T3) : Prop where
  var : ∀ (i : Nat) (t : T3), l[i]? = some t → 0 ≤ t.a ∧ t.a < 64
  lo : ∀ (i : Nat) (t : T3), l[i]? = some t → 0 ≤ t.b ∧ t.b < i + 2
  hi : ∀ (i : Nat) (t : T3), l[i]? = some t → 0 ≤ t.c ∧ t.c < i + 2
  loTop : ∀ (i : Nat) (t : T3), l[i]? = some t → t.a < topP l t.b
  hiTop : ∀ (i : Nat) (t : T3), l[i]? = some t → t.a < topP l t.c

theorem topP_le {l : List T3} (h : Ord l) (a : Int) : topP l a ≤ 64 ∧ 0 ≤ topP l a := by
  unfold topP
  split
  · omega
  · split
    · rename_i t ht
      have := h.var _ t ht
      omega
    · omega

theorem Is.mono {l m : List T3} {a : Int} (h : Is l a) : Is (l ++ m) a := by
  unfold Is at *
  simp
  omega

theorem is_ix {l : List T3} {a : Int} (h : Is l a) (h2 : 2 ≤ a) : (a - 2).toNat < l.length := by
  unfold Is at h
  omega

theorem topP_mono {l m : List T3} {a : Int} (h : Is l a) : topP (l ++ m) a = topP l a := by
  unfold topP
  split
  · rfl
  · rw [List.getElem?_append_left (is_ix h (by omega))]
theorem loP_mono {l m : List T3} {a v : Int} (h : Is l a) (hv : v < 64) : loP (l ++ m) a v = loP l a v := by
  unfold loP
  rw [topP_mono h]
  split
  · rename_i e
    by_cases h2 : a < 2
    · simp [topP, h2] at e; omega
    · rw [List.getElem?_append_left (is_ix h (by omega))]
  · rfl
theorem hiP_mono {l m : List T3} {a v : Int} (h : Is l a) (hv : v < 64) : hiP (l ++ m) a v = hiP l a v := by
  unfold hiP
  rw [topP_mono h]
  split
  · rename_i e
    by_cases h2 : a < 2
    · simp [topP, h2] at e; omega
    · rw [List.getElem?_append_left (is_ix h (by omega))]
  · rfl
theorem min3_mono {l m : List T3} {c a b : Int} (hc : Is l c) (ha : Is l a) (hb : Is l b) : min3 (l ++ m) c a b = min3 l c a b := by
  unfold min3
  rw [topP_mono hc, topP_mono ha, topP_mono hb]

/-- What is below a diagram. -/
theorem loP_is {l : List T3} (h : Ord l) {a v : Int} (ha : Is l a) (hv : v < 64) (hle : v ≤ topP l a) : Is l (loP l a v) ∧ v < topP l (loP l a v) := by
  unfold loP
  split
  · rename_i e
    by_cases h2 : a < 2
    · simp [topP, h2] at e; omega
    · have h3 := is_ix ha (by omega)
      rw [List.getElem?_eq_getElem h3]
      have h4 := h.lo _ _ (List.getElem?_eq_getElem h3)
      have h5 := h.loTop _ _ (List.getElem?_eq_getElem h3)
      have h6 : topP l a = (l[(a - 2).toNat]).a := by unfold topP; rw [if_neg h2, List.getElem?_eq_getElem h3]
      simp only
      unfold Is
      unfold Is at ha
      omega
  · exact ⟨ha, by omega⟩
theorem hiP_is {l : List T3} (h : Ord l) {a v : Int} (ha : Is l a) (hv : v < 64) (hle : v ≤ topP l a) : Is l (hiP l a v) ∧ v < topP l (hiP l a v) := by
  unfold hiP
  split
  · rename_i e
    by_cases h2 : a < 2
    · simp [topP, h2] at e; omega
    · have h3 := is_ix ha (by omega)
      rw [List.getElem?_eq_getElem h3]
      have h4 := h.hi _ _ (List.getElem?_eq_getElem h3)
      have h5 := h.hiTop _ _ (List.getElem?_eq_getElem h3)
      have h6 : topP l a = (l[(a - 2).toNat]).a := by unfold topP; rw [if_neg h2, List.getElem?_eq_getElem h3]
      simp only
      unfold Is
      unfold Is at ha
      omega
  · exact ⟨ha, by omega⟩

/-- Where nothing is plain, one of the three has a variable. -/
theorem min3_lt {l : List T3} (h : Ord l) {c a b : Int} (hc : Is l c) (h1 : ¬ (c = 1 ∨ a = b)) (h0 : ¬ c = 0) : min3 l c a b < 64 ∧ min3 l c a b ≤ topP l c ∧ min3 l c a b ≤ topP l a ∧ min3 l c a b ≤ topP l b ∧ 0 ≤ min3 l c a b := by
  have hc2 : 2 ≤ c := by unfold Is at hc; omega
  have h3 := is_ix hc hc2
  have h6 : topP l c = (l[(c - 2).toNat]).a := by unfold topP; rw [if_neg (by omega), List.getElem?_eq_getElem h3]
  have h7 := h.var _ _ (List.getElem?_eq_getElem h3)
  have ha := topP_le h a
  have hb := topP_le h b
  unfold min3
  omega

theorem byOf_some {l : List T3} {t : T3} {i : Int} (h : byOf l t = some i) : ∃ k : Nat, i = k + 2 ∧ l[k]? = some t := by
  unfold byOf at h
  simp only [Option.map_eq_some_iff] at h
  obtain ⟨k, hk, rfl⟩ := h
  refine ⟨k, by simp, ?_⟩
  rw [List.idxOf?, List.findIdx?_eq_some_iff_getElem] at hk
  obtain ⟨h1, h2, -⟩ := hk
  rw [List.getElem?_eq_getElem h1]
  simpa using h2

theorem byOf_mono {l m : List T3} {t : T3} {i : Int} (h : byOf l t = some i) : byOf (l ++ m) t = some i := by
  unfold byOf at *
  simp only [Option.map_eq_some_iff] at *
  obtain ⟨k, hk, rfl⟩ := h
  refine ⟨k, ?_, rfl⟩
  rw [List.idxOf?] at hk ⊢
  rw [List.findIdx?_append, hk]
  rfl

/-- Behind node the nodes that were are there still; what is told is one. -/
theorem node1_ok {s : BS} {t : T3} (h : Ord s.nodes) (hv : 0 ≤ t.a ∧ t.a < 64) (hlo : Is s.nodes t.b) (hhi : Is s.nodes t.c) (hl : t.a < topP s.nodes t.b) (hh : t.a < topP s.nodes t.c) :
    (∃ m, (node1 s t).1.nodes = s.nodes ++ m) ∧ Ord (node1 s t).1.nodes ∧ (node1 s t).1.cap = s.cap ∧
    ∀ r, (node1 s t).2 = some r → Is (node1 s t).1.nodes r ∧ t.a ≤ topP (node1 s t).1.nodes r ∧ (node1 s t).1.full = s.full ∧ (if t.b = t.c then some t.b else byOf (node1 s t).1.nodes t) = some r := by
  unfold node1
  split
  · rename_i e
    refine ⟨⟨[], by simp⟩, h, rfl, fun r hr => ?_⟩
    simp at hr
    subst hr
    exact ⟨hlo, by show t.a ≤ topP s.nodes t.b; omega, rfl, rfl⟩
  · rename_i e
    split
    · rename_i i hi
      refine ⟨⟨[], by simp⟩, h, rfl, fun r hr => ?_⟩
      simp at hr
      subst hr
      obtain ⟨k, rfl, hk⟩ := byOf_some hi
      have hk2 := (List.getElem?_eq_some_iff.1 hk).1
      refine ⟨by show 0 ≤ _ ∧ _ < (s.nodes.length : Int) + 2; omega, ?_, rfl, hi⟩
      show t.a ≤ topP s.nodes _
      unfold topP
      rw [if_neg (by omega)]
      have e2 : ((k : Int) + 2 - 2).toNat = k := by omega
      rw [e2, hk]
      exact Int.le_refl _
    · rename_i hn
      split
      · refine ⟨⟨[], by simp⟩, h, rfl, fun r hr => ?_⟩
        simp at hr
      · refine ⟨⟨[t], rfl⟩, ?_, rfl, fun r hr => ?_⟩
        · have hcase : ∀ (i : Nat) (u : T3), (s.nodes ++ [t])[i]? = some u → (s.nodes[i]? = some u) ∨ (i = s.nodes.length ∧ u = t) := by
            intro i u hu
            rw [List.getElem?_append] at hu
            split at hu
            · exact .inl hu
            · rename_i hge
              right
              rw [List.getElem?_singleton] at hu
              split at hu
              · simp at hu; exact ⟨by omega, hu.symm⟩
              · simp at hu
          have hisT : ∀ (i : Nat) (u : T3), s.nodes[i]? = some u → Is s.nodes u.b ∧ Is s.nodes u.c := fun i u hu => by
            have h1 := h.lo i u hu
            have h2 := h.hi i u hu
            have h3 := (List.getElem?_eq_some_iff.1 hu).1
            unfold Is
            omega
          constructor
          · intro i u hu
            rcases hcase i u hu with h1 | ⟨rfl, rfl⟩
            · exact h.var i u h1
            · exact hv
          · intro i u hu
            rcases hcase i u hu with h1 | ⟨rfl, rfl⟩
            · exact h.lo i u h1
            · exact hlo
          · intro i u hu
            rcases hcase i u hu with h1 | ⟨rfl, rfl⟩
            · exact h.hi i u h1
            · exact hhi
          · intro i u hu
            rcases hcase i u hu with h1 | ⟨rfl, rfl⟩
            · rw [topP_mono (hisT i u h1).1]; exact h.loTop i u h1
            · rw [topP_mono hlo]; exact hl
          · intro i u hu
            rcases hcase i u hu with h1 | ⟨rfl, rfl⟩
            · rw [topP_mono (hisT i u h1).2]; exact h.hiTop i u h1
            · rw [topP_mono hhi]; exact hh
        · simp at hr
          subst hr
          refine ⟨by unfold Is; simp; omega, ?_, rfl, ?_⟩
          · unfold topP
            rw [if_neg (by omega)]
            have e2 : ((s.nodes.length : Int) + 2 - 2).toNat = s.nodes.length := by omega
            rw [e2]
            simp
          · rw [byOf_append hn]
            simp [upd3]

/-- The store behind a call holds what it held. -/
structure Grew (s s' : BS) : Prop where
  nodes : ∃ m, s'.nodes = s.nodes ++ m
  ord : Ord s'.nodes
  cap : s'.cap = s.cap

theorem Grew.refl {s : BS} (h : Ord s.nodes) : Grew s s := ⟨⟨[], by simp⟩, h, rfl⟩
theorem Grew.trans {s s' s'' : BS} (h : Grew s s') (k : Grew s' s'') : Grew s s'' := by
  obtain ⟨m, hm⟩ := h.nodes
  obtain ⟨n, hn⟩ := k.nodes
  exact ⟨⟨m ++ n, by rw [hn, hm, List.append_assoc]⟩, k.ord, k.cap.trans h.cap⟩
theorem Grew.is {s s' : BS} (h : Grew s s') {a : Int} (ha : Is s.nodes a) : Is s'.nodes a ∧ topP s'.nodes a = topP s.nodes a := by
  obtain ⟨m, hm⟩ := h.nodes
  rw [hm]
  exact ⟨ha.mono, topP_mono ha⟩

/-- What is looked up stays so where nodes are added. -/
theorem lookP_mono {l m : List T3} (h : Ord l) : ∀ (f : Nat) (c a b r : Int), Is l c → Is l a → Is l b → lookP f l c a b = some r → lookP f (l ++ m) c a b = some r := by
  intro f
  induction f with
  | zero => intro c a b r _ _ _ h; simp [lookP] at h
  | succ f ih =>
    intro c a b r hc ha hb hr
    rw [lookP] at hr ⊢
    split at hr
    · rename_i h1; rw [if_pos h1]; exact hr
    rename_i h1
    rw [if_neg h1]
    split at hr
    · rename_i h2; rw [if_pos h2]; exact hr
    rename_i h2
    rw [if_neg h2]
    split at hr
    · rename_i h3; rw [if_pos h3]; exact hr
    rename_i h3
    rw [if_neg h3]
    obtain ⟨q1, q2, q3, q4, q5⟩ := min3_lt h hc h1 h2
    rw [min3_mono hc ha hb, loP_mono hc q1, loP_mono ha q1, loP_mono hb q1, hiP_mono hc q1, hiP_mono ha q1, hiP_mono hb q1]
    generalize min3 l c a b = v at *
    split at hr
    · cases hr
    · rename_i lo hlo
      rw [ih _ _ _ _ (loP_is h hc q1 q2).1 (loP_is h ha q1 q3).1 (loP_is h hb q1 q4).1 hlo]
      simp only
      split at hr
      · cases hr
      · rename_i hi hhi
        rw [ih _ _ _ _ (hiP_is h hc q1 q2).1 (hiP_is h ha q1 q3).1 (hiP_is h hb q1 q4).1 hhi]
        simp only
        split at hr
        · rename_i h4; rw [if_pos h4]; exact hr
        · rename_i h4; rw [if_neg h4]; exact byOf_mono hr

/-- What a call of Ite comes to. -/
theorem iteP_ok : ∀ (f : Nat) (s : BS) (c a b : Int) (X : BS × Option Int), Ord s.nodes → Is s.nodes c → Is s.nodes a → Is s.nodes b → iteP f s c a b = some X →
    Grew s X.1 ∧ ∀ r, X.2 = some r → X.1.full = s.full ∧ Is X.1.nodes r ∧ min3 s.nodes c a b ≤ topP X.1.nodes r ∧ lookP f X.1.nodes c a b = some r := by
  intro f
  induction f with
  | zero => intro s c a b X _ _ _ _ h; simp [iteP] at h
  | succ f ih =>
    intro s c a b X h hc ha hb hX
    rw [iteP] at hX
    have g0 := Grew.refl h
    split at hX
    · rename_i h1
      cases hX
      refine ⟨g0, fun r hr => ?_⟩
      cases hr
      refine ⟨rfl, ha, by simp only [min3]; omega, by rw [lookP, if_pos h1]⟩
    rename_i h1
    split at hX
    · rename_i h2
      cases hX
      refine ⟨g0, fun r hr => ?_⟩
      cases hr
      refine ⟨rfl, hb, by simp only [min3]; omega, by rw [lookP, if_neg h1, if_pos h2]⟩
    rename_i h2
    split at hX
    · rename_i h3
      cases hX
      refine ⟨g0, fun r hr => ?_⟩
      cases hr
      refine ⟨rfl, hc, by simp only [min3]; omega, by rw [lookP, if_neg h1, if_neg h2, if_pos h3]⟩
    rename_i h3
    obtain ⟨q1, q2, q3, q4, q5⟩ := min3_lt h hc h1 h2
    have lc := loP_is h hc q1 q2
    have la := loP_is h ha q1 q3
    have lb := loP_is h hb q1 q4
    have hc' := hiP_is h hc q1 q2
    have ha' := hiP_is h ha q1 q3
    have hb' := hiP_is h hb q1 q4
    generalize hv : min3 s.nodes c a b = v at *
    split at hX
    · cases hX
    · rename_i s1 e1
      cases hX
      exact ⟨(ih _ _ _ _ _ h lc.1 la.1 lb.1 e1).1, fun r hr => by cases hr⟩
    rename_i s1 lo e1
    obtain ⟨g1, k1⟩ := ih _ _ _ _ _ h lc.1 la.1 lb.1 e1
    obtain ⟨k11, k12, k13, k14⟩ := k1 lo rfl
    simp only at k11 k12 k13 k14 g1
    split at hX
    · cases hX
    · rename_i s2 e2
      cases hX
      exact ⟨g1.trans (ih _ _ _ _ _ g1.ord (g1.is hc'.1).1 (g1.is ha'.1).1 (g1.is hb'.1).1 e2).1, fun r hr => by cases hr⟩
    rename_i s2 hi e2
    obtain ⟨g2, k2⟩ := ih _ _ _ _ _ g1.ord (g1.is hc'.1).1 (g1.is ha'.1).1 (g1.is hb'.1).1 e2
    obtain ⟨k21, k22, k23, k24⟩ := k2 hi rfl
    simp only at k21 k22 k23 k24 g2
    have tlo : v < topP s1.nodes lo := by
      have e : v < min3 s.nodes (loP s.nodes c v) (loP s.nodes a v) (loP s.nodes b v) := by simp only [min3]; omega
      omega
    have thi : v < topP s2.nodes hi := by
      have e : v < min3 s1.nodes (hiP s.nodes c v) (hiP s.nodes a v) (hiP s.nodes b v) := by
        simp only [min3]
        rw [(g1.is hc'.1).2, (g1.is ha'.1).2, (g1.is hb'.1).2]
        omega
      omega
    have n := node1_ok (s := s2) (t := ⟨v, lo, hi⟩) g2.ord ⟨q5, q1⟩ (g2.is k12).1 k22 (by rw [(g2.is k12).2]; exact tlo) thi
    obtain ⟨n1, n2, n3, n4⟩ := n
    cases hX
    have g3 : Grew s2 (node1 s2 ⟨v, lo, hi⟩).1 := ⟨n1, n2, n3⟩
    refine ⟨(g1.trans g2).trans g3, fun r hr => ?_⟩
    obtain ⟨n5, n6, n7, n8⟩ := n4 r hr
    refine ⟨by rw [n7, k21, k11], n5, n6, ?_⟩
    obtain ⟨m1, em1⟩ := g1.nodes
    obtain ⟨m2, em2⟩ := g2.nodes
    obtain ⟨m3, em3⟩ := g3.nodes
    have E : (node1 s2 ⟨v, lo, hi⟩).1.nodes = s.nodes ++ (m1 ++ m2 ++ m3) := by rw [em3, em2, em1]; simp
    have E1 : (node1 s2 ⟨v, lo, hi⟩).1.nodes = s1.nodes ++ (m2 ++ m3) := by rw [em3, em2]; simp
    rw [lookP, if_neg h1, if_neg h2, if_neg h3]
    have d1 : lookP f (node1 s2 ⟨v, lo, hi⟩).1.nodes (loP s.nodes c v) (loP s.nodes a v) (loP s.nodes b v) = some lo := by
      rw [E1]
      exact lookP_mono g1.ord f _ _ _ _ (g1.is lc.1).1 (g1.is la.1).1 (g1.is lb.1).1 k14
    have d2 : lookP f (node1 s2 ⟨v, lo, hi⟩).1.nodes (hiP s.nodes c v) (hiP s.nodes a v) (hiP s.nodes b v) = some hi := by
      rw [em3]
      exact lookP_mono g2.ord f _ _ _ _ (g2.is (g1.is hc'.1).1).1 (g2.is (g1.is ha'.1).1).1 (g2.is (g1.is hb'.1).1).1 k24
    generalize (node1 s2 ⟨v, lo, hi⟩).1.nodes = L at *
    subst E
    rw [min3_mono hc ha hb, hv, loP_mono hc q1, loP_mono ha q1, loP_mono hb q1, hiP_mono hc q1, hiP_mono ha q1, hiP_mono hb q1, d1]
    simp only
    rw [d2]
    exact n8

/-- Where all nodes are there, Ite adds none, whatever the fuel is. -/
theorem iteP_of_look : ∀ (f g : Nat) (s : BS) (c a b r : Int) (X : BS × Option Int), lookP g s.nodes c a b = some r → iteP f s c a b = some X → X = (s, some r) := by
  intro f
  induction f with
  | zero => intro g s c a b r X _ h; simp [iteP] at h
  | succ f ih =>
    intro g s c a b r X hl hX
    cases g with
    | zero => simp [lookP] at hl
    | succ g =>
      rw [iteP] at hX
      rw [lookP] at hl
      split at hX
      · rename_i h1
        rw [if_pos h1] at hl
        cases hX; cases hl; rfl
      rename_i h1
      rw [if_neg h1] at hl
      split at hX
      · rename_i h2
        rw [if_pos h2] at hl
        cases hX; cases hl; rfl
      rename_i h2
      rw [if_neg h2] at hl
      split at hX
      · rename_i h3
        rw [if_pos h3] at hl
        cases hX; cases hl; rfl
      rename_i h3
      rw [if_neg h3] at hl
      split at hl
      · cases hl
      rename_i lo hlo
      split at hl
      · cases hl
      rename_i hi hhi
      split at hX
      · cases hX
      · rename_i s1 e1
        have := ih _ _ _ _ _ _ _ hlo e1
        cases this
      rename_i s1 lo' e1
      have := ih _ _ _ _ _ _ _ hlo e1
      cases this
      split at hX
      · cases hX
      · rename_i s2 e2
        have := ih _ _ _ _ _ _ _ hhi e2
        cases this
      rename_i s2 hi' e2
      have := ih _ _ _ _ _ _ _ hhi e2
      cases this
      cases hX
      unfold node1
      split at hl
      · rename_i h4
        cases hl
        simp only
        rw [if_pos h4]
      · rename_i h4
        simp only
        rw [if_neg h4, hl]

/-- With enough fuel Ite comes to something. -/
theorem iteP_some : ∀ (f : Nat) (s : BS) (c a b : Int), Ord s.nodes → Is s.nodes c → Is s.nodes a → Is s.nodes b → 65 ≤ f + min3 s.nodes c a b → ∃ X, iteP f s c a b = some X := by
  intro f
  induction f with
  | zero =>
    intro s c a b h hc ha hb hf
    have := topP_le h c
    exfalso
    simp only [min3] at hf
    omega
  | succ f ih =>
    intro s c a b h hc ha hb hf
    rw [iteP]
    split
    · exact ⟨_, rfl⟩
    rename_i h1
    split
    · exact ⟨_, rfl⟩
    rename_i h2
    split
    · exact ⟨_, rfl⟩
    rename_i h3
    obtain ⟨q1, q2, q3, q4, q5⟩ := min3_lt h hc h1 h2
    have lc := loP_is h hc q1 q2
    have la := loP_is h ha q1 q3
    have lb := loP_is h hb q1 q4
    have hc' := hiP_is h hc q1 q2
    have ha' := hiP_is h ha q1 q3
    have hb' := hiP_is h hb q1 q4
    generalize hv : min3 s.nodes c a b = v at *
    obtain ⟨X1, e1⟩ := ih s (loP s.nodes c v) (loP s.nodes a v) (loP s.nodes b v) h lc.1 la.1 lb.1 (by
      have : v < min3 s.nodes (loP s.nodes c v) (loP s.nodes a v) (loP s.nodes b v) := by simp only [min3]; omega
      omega)
    rw [e1]
    obtain ⟨s1, r1⟩ := X1
    cases r1 with
    | none => exact ⟨_, rfl⟩
    | some lo =>
      obtain ⟨g1, -⟩ := iteP_ok _ _ _ _ _ _ h lc.1 la.1 lb.1 e1
      simp only at g1 ⊢
      obtain ⟨X2, e2⟩ := ih s1 (hiP s.nodes c v) (hiP s.nodes a v) (hiP s.nodes b v) g1.ord (g1.is hc'.1).1 (g1.is ha'.1).1 (g1.is hb'.1).1 (by
        have : v < min3 s1.nodes (hiP s.nodes c v) (hiP s.nodes a v) (hiP s.nodes b v) := by
          simp only [min3]
          rw [(g1.is hc'.1).2, (g1.is ha'.1).2, (g1.is hb'.1).2]
          omega
        omega)
      rw [e2]
      obtain ⟨s2, r2⟩ := X2
      cases r2 with
      | none => exact ⟨_, rfl⟩
      | some hi => exact ⟨_, rfl⟩

end Go.Proofs.Ytlnkflmnjkmhkaa

/-
  Contracts of the store's small methods at a store that is there: top, split, right.
-/
namespace Go.Proofs.Ytlnkflmnjkmhkaa
open Go.RowKit Go.Maps

/-- The cells of a node. -/
theorem IsBdd.node {w : World} {b : Nat} {O : Nat → Prop} {s : BS} {told : T3 → Option Int} (h : IsBdd w b O s told) (k : Nat) (hk : k < s.nodes.length) :
    ∃ g cn t, s.nodes[k]? = some t ∧ w.cell? ⟨b, 1, none⟩ = some (.slice (some ⟨g, 0, none⟩) s.nodes.length cn) ∧ s.nodes.length ≤ cn ∧ s.nodes.length ≤ 1048576 ∧
      w.cell? ⟨g, k * 3, none⟩ = some (.int .i64 t.a) ∧ w.cell? ⟨g, k * 3 + 1, none⟩ = some (.int .i64 t.b) ∧ w.cell? ⟨g, k * 3 + 2, none⟩ = some (.int .i64 t.c) := by
  obtain ⟨vn, m1, m2, c0, c1, c2, c3, c4, fz, own, hm12, hnb, hm1, hm2, hO, hcp1, hcp2, hcp3, -⟩ := h
  have own' := own
  obtain ⟨-, ⟨h1, h2⟩ | ⟨g, cap, cur, h1, h2, h3, h4, h5, h6, h7⟩⟩ := own
  · exfalso
    omega
  · subst h1
    have hc := own'.cells (g := g) rfl
    obtain ⟨f1, f2, f3⟩ := flat3_at s.nodes k hk
    refine ⟨g, cap, s.nodes[k], List.getElem?_eq_getElem hk, c1, by omega, by omega, ?_, ?_, ?_⟩
    · have := hc _ _ f1; rw [show (⟨g, 0, none⟩ : Addr).add (k * 3) = ⟨g, k * 3, none⟩ from by unfold Addr.add; simp; omega] at this; exact this
    · have := hc _ _ f2; simpa [Addr.add] using this
    · have := hc _ _ f3; simpa [Addr.add] using this

set_option maxRecDepth 100000 in
set_option maxHeartbeats 400000 in
theorem top_any (b : Nat) (O : Nat → Prop) (s : BS) (told : T3 → Option Int) (a : Int) (w : World) (hs : IsBdd w b O s told) (ha : Is s.nodes a) :
    Calls Try.prog 151 #[.pointer (some ⟨b, 0, none⟩), .int .i64 a] w fun e w' => e = .returned (.int .i64 (topP s.nodes a)) ∧ w = w' := by
  by_cases h2 : a < 2
  · have HE : Hid (topP s.nodes a = 64) := by show _ = _; unfold topP; rw [if_pos h2]
    clear hs ha
    go_enter Try.func151, Try.ntmps151
    go_wp2
    go_ret
    exact ⟨by rw [HE.out]; rfl, rfl⟩
  · obtain ⟨k, rfl⟩ : ∃ k : Nat, a = (k : Int) + 2 := ⟨(a - 2).toNat, by omega⟩
    have hk : k < s.nodes.length := by unfold Is at ha; omega
    obtain ⟨g, cn, t, ht, c1, hcn, hle, n0, n1, n2⟩ := hs.node k hk
    have HE : Hid (topP s.nodes ((k : Int) + 2) = t.a) := by
      show _ = _
      unfold topP
      rw [if_neg h2, show ((k : Int) + 2 - 2).toNat = k from by omega, ht]
    clear hs ha ht n1 n2
    go_enter Try.func151, Try.ntmps151
    go_wp2
    go_ret
    exact ⟨by rw [HE.out]; rfl, rfl⟩

/-- A diagram; what is none is 0. -/
def rightP (l : List T3) (a : Int) : Int := if 0 ≤ a ∧ a < l.length + 2 then a else 0
theorem rightP_is (l : List T3) (a : Int) : Is l (rightP l a) := by unfold rightP Is; split <;> omega

set_option maxRecDepth 100000 in
set_option maxHeartbeats 400000 in
theorem right_any (b : Nat) (O : Nat → Prop) (s : BS) (told : T3 → Option Int) (a : Int) (w : World) (hs : IsBdd w b O s told) :
    Calls Try.prog 138 #[.pointer (some ⟨b, 0, none⟩), .int .i64 a] w fun e w' => e = .returned (.int .i64 (rightP s.nodes a)) ∧ w = w' := by
  obtain ⟨vn, m1, m2, c0, c1, c2, c3, c4, fz, own, hm12, hnb, hm1, hm2, hO, hcp1, hcp2, hcp3, -⟩ := hs
  obtain ⟨pn, cn, rfl, hln⟩ := own_shape own
  clear c0 c2 c3 c4 fz own hm12 hnb hm1 hm2 hO
  have hl : s.nodes.length ≤ 1048576 := by omega
  clear hcp1 hcp2 hcp3 hln
  by_cases h0 : a < 0
  · have HE : Hid (rightP s.nodes a = 0) := by show _ = _; unfold rightP; rw [if_neg (by omega)]
    go_enter Try.func138, Try.ntmps138
    go_wp2
    go_ret
    exact ⟨by rw [HE.out]; rfl, rfl⟩
  · have h0' : 0 ≤ a := by omega
    by_cases h1 : a < s.nodes.length + 2
    · have HE : Hid (rightP s.nodes a = a) := by show _ = _; unfold rightP; rw [if_pos (by omega)]
      go_enter Try.func138, Try.ntmps138
      go_wp2
      go_ret
      exact ⟨by rw [HE.out]; rfl, rfl⟩
    · have HE : Hid (rightP s.nodes a = 0) := by show _ = _; unfold rightP; rw [if_neg (by omega)]
      go_enter Try.func138, Try.ntmps138
      go_wp2
      go_ret
      exact ⟨by rw [HE.out]; rfl, rfl⟩

set_option maxRecDepth 100000 in
set_option maxHeartbeats 800000 in
theorem split_any (b : Nat) (O : Nat → Prop) (s : BS) (told : T3 → Option Int) (a v : Int) (w : World) (hs : IsBdd w b O s told) (ha : Is s.nodes a) (hv : v < 64) :
    Calls Try.prog 152 #[.pointer (some ⟨b, 0, none⟩), .int .i64 a, .int .i64 v] w fun e w' => e = .returned (.tuple #[.int .i64 (loP s.nodes a v), .int .i64 (hiP s.nodes a v)]) ∧ Below w.heap.size w w' := by
  have HT := Lib.hid (top_any b O s told a w hs ha)
  by_cases h1 : topP s.nodes a = v
  · have h2 : 2 ≤ a := by
      by_cases h : a < 2
      · unfold topP at h1; rw [if_pos h] at h1; omega
      · omega
    obtain ⟨k, rfl⟩ : ∃ k : Nat, a = (k : Int) + 2 := ⟨(a - 2).toNat, by omega⟩
    have hk : k < s.nodes.length := by unfold Is at ha; omega
    obtain ⟨g, cn, t, ht, c1, hcn, hle, n0, n1, n2⟩ := hs.node k hk
    have e2 : ((k : Int) + 2 - 2).toNat = k := by omega
    have HE : Hid (loP s.nodes ((k : Int) + 2) v = t.b ∧ hiP s.nodes ((k : Int) + 2) v = t.c) := by
      show _ ∧ _
      unfold loP hiP
      rw [if_pos h1, if_pos h1, e2, ht]
      exact ⟨rfl, rfl⟩
    have hb : (topP s.nodes ((k : Int) + 2) != v) = false := by simp [h1]
    have hi0 : (0 : Int) ≤ (k : Int) + 2 - 2 := by omega
    have hi1 : (k : Int) + 2 - 2 < s.nodes.length := by omega
    have hw0 : IntKind.i64.wrap ((k : Int) + 2 - 2) = (k : Int) := by rw [IntWalk.i64_in _ (by omega)]; omega
    clear hs ha ht n0 h1 e2 hi0 hi1
    generalize topP s.nodes ((k : Int) + 2) = tp at *
    go_enter Try.func152, Try.ntmps152
    go_wp2_with fail
    refine HT.out.mono ?_
    rintro e w1 ⟨rfl, rfl⟩
    go_wp2_with fail
    go_quiet (fail)
    go_wp2_with fail
    go_ret2
    exact ⟨by rw [HE.out.1, HE.out.2]; rfl, below_drewN (Below.refl _ _) _⟩
  · have HE : Hid (loP s.nodes a v = a ∧ hiP s.nodes a v = a) := by
      show _ ∧ _
      unfold loP hiP
      rw [if_neg h1, if_neg h1]
      exact ⟨rfl, rfl⟩
    have hb : (topP s.nodes a != v) = true := by simpa using h1
    clear hs ha h1
    generalize topP s.nodes a = tp at *
    go_enter Try.func152, Try.ntmps152
    go_wp2_with fail
    refine HT.out.mono ?_
    rintro e w1 ⟨rfl, rfl⟩
    go_wp2_with fail
    go_ret2
    exact ⟨by rw [HE.out.1, HE.out.2]; rfl, Below.refl _ _⟩

end Go.Proofs.Ytlnkflmnjkmhkaa

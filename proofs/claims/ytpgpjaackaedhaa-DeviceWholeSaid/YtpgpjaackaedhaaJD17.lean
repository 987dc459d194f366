/-
  Lemmas, joined: DevM, DevN.
-/
import Derived.Test.YtpgpjaackaedhaaJD16
/-
  The program of the statements of the device in memory; known.
-/
namespace Go.Proofs.Ytpgpjaackaedhaa
open Go.RowKit Go.Maps

theorem chain4 (w : World) (o0 o1 o2 o3 : Obj) : ((((w.alloc o0).alloc o1).alloc o2).alloc o3).heap[w.heap.size]? = some o0 ∧ ((((w.alloc o0).alloc o1).alloc o2).alloc o3).heap[w.heap.size + 1]? = some o1 ∧ ((((w.alloc o0).alloc o1).alloc o2).alloc o3).heap[w.heap.size + 1 + 1]? = some o2 ∧ ((((w.alloc o0).alloc o1).alloc o2).alloc o3).heap[w.heap.size + 1 + 1 + 1]? = some o3 := by
  have h1 := heap_new (w.alloc o0) o1
  have h2 := heap_new ((w.alloc o0).alloc o1) o2
  have h3 := heap_new (((w.alloc o0).alloc o1).alloc o2) o3
  simp only [World.size_alloc] at h1 h2 h3
  refine ⟨?_, ?_, ?_, h3⟩
  · rw [Below.heap_alloc _ _ _ (by simp; omega), Below.heap_alloc _ _ _ (by simp; omega), Below.heap_alloc _ _ _ (by simp)]; exact heap_new _ _
  · rw [Below.heap_alloc _ _ _ (by simp), Below.heap_alloc _ _ _ (by simp)]; exact h1
  · rw [Below.heap_alloc _ _ _ (by simp)]; exact h2

/-- The steps, the code and the instructions of the program. -/
structure PAt (w : World) (gs gc gI v n : Nat) : Prop where
  s0 : w.cell? ⟨gs, 0, none⟩ = some (.slice none 0 0)
  s1 : w.cell? ⟨gs, 1, none⟩ = some (.slice none 0 0)
  s2 : w.cell? ⟨gs, 2, none⟩ = some (.slice none 0 0)
  s3 : w.cell? ⟨gs, 3, none⟩ = some (.int .i64 (-1))
  c : ConstAt w gc v
  i : InsAt w gI gc 1 n
theorem PAt.below {w w' : World} {gs gc gI v n : Nat} (h : PAt w gs gc gI v n) (hb : Below w.heap.size w w') : PAt w' gs gc gI v n := by
  have hg : gs < w.heap.size := (cell_there h.s0).1
  exact ⟨(hb.cell (p := ⟨gs, 0, none⟩) hg).trans h.s0, (hb.cell (p := ⟨gs, 1, none⟩) hg).trans h.s1, (hb.cell (p := ⟨gs, 2, none⟩) hg).trans h.s2, (hb.cell (p := ⟨gs, 3, none⟩) hg).trans h.s3, h.c.below hb, h.i.below hb⟩
theorem PAt.pass {w : World} {gs gc gI v n uc : Nat} {port : Int} {bp : Option Addr} {m bc : Nat} {xs : List Int} (h : PAt w gs gc gI v n) (hv : v < 512) (hn : n = 1 ∨ n = 2) (hb : URow w (.slice bp m bc) xs) (hm : m = xs.length) (hl : m ≤ 1000000) :
    Calls Try.prog 5 #[dpV (some ⟨gs, 0, none⟩) 1 1 (some ⟨gI, 0, none⟩) n uc, .slice none 0 0, .int .i64 port, .slice bp m bc] w (PassR w n v xs) :=
  pass_any gs 1 gI n uc gc v 1 port bp m bc xs w hv hn hb hm hl h.c h.i h.s0 h.s1 h.s2 h.s3
theorem PAt.of {W : World} {gs gc gI v : Nat} (h0 : W.heap[gs]? = some (.cells #[.slice none 0 0, .slice none 0 0, .slice none 0 0, .int .i64 (-1)] 29 (0, 0))) (h1 : W.heap[gc]? = some (.cells #[.int .u8 1, .int .i64 9, .int .i64 0, .int .i64 0, .int .u64 0, .int .u64 (v : Int)] 35 (0, 0))) (h2 : W.heap[gI]? = some (.cells #[.int .u8 5, .int .i64 0, .int .i64 0, .slice (some ⟨gc, 0, none⟩) 1 1, .int .i64 0] 39 (0, 0))) : PAt W gs gc gI v 1 := by
  refine ⟨?_, ?_, ?_, ?_, ⟨?_, ?_, ?_, ?_, ?_, ?_⟩, ⟨⟨?_, ?_, ?_, ?_, ?_⟩, fun e => by cases e⟩⟩ <;> simp [World.cell?, h0, h1, h2]
theorem prog_new (w : World) (v : Nat) : PAt ((((w.alloc (.cells #[.slice none 0 0, .slice none 0 0, .slice none 0 0, .int .i64 (-1)] 29)).alloc (.cells #[.int .u8 1, .int .i64 9, .int .i64 0, .int .i64 0, .int .u64 0, .int .u64 (v : Int)] 35)).alloc (.cells #[.int .u8 5, .int .i64 0, .int .i64 0, .slice (some ⟨w.heap.size + 1, 0, none⟩) 1 1, .int .i64 0] 39)).alloc (.cells #[.slice none 0 0, .slice none 0 0, .slice (some ⟨w.heap.size, 0, none⟩) 1 1, .slice none 0 0, .slice none 0 0, .slice (some ⟨w.heap.size + 1 + 1, 0, none⟩) 1 1, .slice none 0 0, .slice none 0 0, .slice none 0 0, .slice none 0 0, .slice none 0 0, .slice none 0 0] 49)) w.heap.size (w.heap.size + 1) (w.heap.size + 1 + 1) v 1 := by
  obtain ⟨h0, h1, h2, -⟩ := chain4 w (.cells #[.slice none 0 0, .slice none 0 0, .slice none 0 0, .int .i64 (-1)] 29) (.cells #[.int .u8 1, .int .i64 9, .int .i64 0, .int .i64 0, .int .u64 0, .int .u64 (v : Int)] 35) (.cells #[.int .u8 5, .int .i64 0, .int .i64 0, .slice (some ⟨w.heap.size + 1, 0, none⟩) 1 1, .int .i64 0] 39) (.cells #[.slice none 0 0, .slice none 0 0, .slice (some ⟨w.heap.size, 0, none⟩) 1 1, .slice none 0 0, .slice none 0 0, .slice (some ⟨w.heap.size + 1 + 1, 0, none⟩) 1 1, .slice none 0 0, .slice none 0 0, .slice none 0 0, .slice none 0 0, .slice none 0 0, .slice none 0 0] 49)
  exact PAt.of h0 h1 h2

theorem one_new (w : World) (x : Int) : URow (w.alloc (.cells #[.int .u8 x] 5)) (.slice (some ⟨w.heap.size, 0, none⟩) 1 1) [x] := by
  refine ⟨_, 1, rfl, Nat.le_refl _, by decide, (fun e => by cases e), fun _ => ⟨w.heap.size, 0, rfl, by simp, fun j y hj => ?_⟩⟩
  match j, hj with
  | 0, hj =>
    cases hj
    show (w.alloc _).cell? ⟨w.heap.size, 0 + 0 * 1, none⟩ = _
    have hw := heap_new w (.cells #[.int .u8 x] 5)
    generalize w.alloc (.cells #[.int .u8 x] 5) = W at hw ⊢
    simp [World.cell?, hw]

set_option maxRecDepth 100000 in
set_option maxHeartbeats 3200000 in
theorem known22_true (w : World) : Calls Try.prog 4 #[] w fun e w' => e = .returned (.bool true) ∧ Below w.heap.size w w' := by
  go_enter Try.func4, Try.ntmps4
  go_upto_region 2 with fail
  obtain ⟨W1, hW1⟩ : ∃ W1, W1 = ((((w.alloc (.cells #[.slice none 0 0, .slice none 0 0, .slice none 0 0, .int .i64 (-1)] 29)).alloc (.cells #[.int .u8 1, .int .i64 9, .int .i64 0, .int .i64 0, .int .u64 0, .int .u64 3] 35)).alloc (.cells #[.int .u8 5, .int .i64 0, .int .i64 0, .slice (some ⟨w.heap.size + 1, 0, none⟩) 1 1, .int .i64 0] 39)).alloc (.cells #[.slice none 0 0, .slice none 0 0, .slice (some ⟨w.heap.size, 0, none⟩) 1 1, .slice none 0 0, .slice none 0 0, .slice (some ⟨w.heap.size + 1 + 1, 0, none⟩) 1 1, .slice none 0 0, .slice none 0 0, .slice none 0 0, .slice none 0 0, .slice none 0 0, .slice none 0 0] 49)) := ⟨_, rfl⟩
  have hp : PAt W1 w.heap.size (w.heap.size + 1) (w.heap.size + 1 + 1) 3 1 := by rw [hW1]; exact prog_new w 3
  have hb1 : Below w.heap.size w W1 := by rw [hW1]; exact (by repeat (first | exact Below.refl _ _ | assumption | refine Below.drew ?_ | refine Below.alloc ?_ (by first | omega | (simp <;> omega)) _ | refine Below.setCell ?_ (by first | omega | (simp <;> omega)) _ | refine Below.trans ?_ (Below.mono (by assumption) (by first | omega | (simp <;> omega)))))
  have hg : W1.heap[w.heap.size + 1 + 1 + 1]? = some (.cells #[.slice none 0 0, .slice none 0 0, .slice (some ⟨w.heap.size, 0, none⟩) 1 1, .slice none 0 0, .slice none 0 0, .slice (some ⟨w.heap.size + 1 + 1, 0, none⟩) 1 1, .slice none 0 0, .slice none 0 0, .slice none 0 0, .slice none 0 0, .slice none 0 0, .slice none 0 0] 49 (0, 0)) := by rw [hW1]; exact (chain4 _ _ _ _ _).2.2.2
  rw [← hW1]
  clear hW1
  have q0 : W1.cell? ⟨w.heap.size + 1 + 1 + 1, 0, none⟩ = some (.slice none 0 0) := by simp [World.cell?, hg]
  have q1 : W1.cell? ⟨w.heap.size + 1 + 1 + 1, 1, none⟩ = some (.slice none 0 0) := by simp [World.cell?, hg]
  have q2 : W1.cell? ⟨w.heap.size + 1 + 1 + 1, 2, none⟩ = some (.slice (some ⟨w.heap.size, 0, none⟩) 1 1) := by simp [World.cell?, hg]
  have q3 : W1.cell? ⟨w.heap.size + 1 + 1 + 1, 3, none⟩ = some (.slice none 0 0) := by simp [World.cell?, hg]
  have q4 : W1.cell? ⟨w.heap.size + 1 + 1 + 1, 4, none⟩ = some (.slice none 0 0) := by simp [World.cell?, hg]
  have q5 : W1.cell? ⟨w.heap.size + 1 + 1 + 1, 5, none⟩ = some (.slice (some ⟨w.heap.size + 1 + 1, 0, none⟩) 1 1) := by simp [World.cell?, hg]
  have q6 : W1.cell? ⟨w.heap.size + 1 + 1 + 1, 6, none⟩ = some (.slice none 0 0) := by simp [World.cell?, hg]
  have q7 : W1.cell? ⟨w.heap.size + 1 + 1 + 1, 7, none⟩ = some (.slice none 0 0) := by simp [World.cell?, hg]
  have q8 : W1.cell? ⟨w.heap.size + 1 + 1 + 1, 8, none⟩ = some (.slice none 0 0) := by simp [World.cell?, hg]
  have q9 : W1.cell? ⟨w.heap.size + 1 + 1 + 1, 9, none⟩ = some (.slice none 0 0) := by simp [World.cell?, hg]
  have q10 : W1.cell? ⟨w.heap.size + 1 + 1 + 1, 10, none⟩ = some (.slice none 0 0) := by simp [World.cell?, hg]
  have q11 : W1.cell? ⟨w.heap.size + 1 + 1 + 1, 11, none⟩ = some (.slice none 0 0) := by simp [World.cell?, hg]
  have hb2 : Below W1.heap.size W1 (W1.alloc (.cells #[.int .u8 170] 5)) := (Below.refl _ _).alloc (Nat.le_refl _) _
  have hpass := (hp.below hb2).pass (uc := 1) (port := 1) (by decide) (.inl rfl) (one_new W1 170) rfl (by decide)
  have HB1 := Lib.hid hb1
  have HB2 := Lib.hid hb2
  clear hb1 hb2 hp hg
  unfold dpV at hpass
  go_upto_region 3 with (go_at_call 5; refine hpass.mono ?_; rintro e w3 ⟨hb3, -, -, hr⟩; obtain ⟨p, c, rfl, hu⟩ := hr rfl (by decide); unfold goneV; have HB3 := Lib.hid hb3; have HU3 := Lib.hid hu; clear hb3 hu hr hpass)
  obtain ⟨W4, hW4⟩ : ∃ W4, W4 = w3.alloc (.cells #[.bool true, .bool true, .bool false, .bool false, .int .i64 3, .slice p 1 c] 51) := ⟨_, rfl⟩
  have hb4 : Below w3.heap.size w3 W4 := by rw [hW4]; exact (Below.refl _ _).alloc (Nat.le_refl _) _
  have hg4 : W4.heap[w3.heap.size]? = some (.cells #[.bool true, .bool true, .bool false, .bool false, .int .i64 3, .slice p 1 c] 51 (0, 0)) := by rw [hW4]; exact heap_new _ _
  have h13 : Below w.heap.size w W4 := by
    have h3 := HB2.out.size
    have h4 := HB3.out.size
    have h5 := HB1.out.size
    exact ((HB1.out.trans (HB2.out.mono h5)).trans (HB3.out.mono (by omega))).trans (hb4.mono (by omega))
  have hu4 := HU3.out.below keepU hb4
  rw [← hW4]
  clear hW4 HB1 HB2 HB3 HU3 hb4 q0 q1 q2 q3 q4 q5 q6 q7 q8 q9 q10 q11
  have c0 : W4.cell? ⟨w3.heap.size, 0, none⟩ = some (.bool true) := by simp [World.cell?, hg4]
  have c1 : W4.cell? ⟨w3.heap.size, 1, none⟩ = some (.bool true) := by simp [World.cell?, hg4]
  have c2 : W4.cell? ⟨w3.heap.size, 2, none⟩ = some (.bool false) := by simp [World.cell?, hg4]
  have c3 : W4.cell? ⟨w3.heap.size, 3, none⟩ = some (.bool false) := by simp [World.cell?, hg4]
  have c4 : W4.cell? ⟨w3.heap.size, 4, none⟩ = some (.int .i64 3) := by simp [World.cell?, hg4]
  have c5 : W4.cell? ⟨w3.heap.size, 5, none⟩ = some (.slice p 1 c) := by simp [World.cell?, hg4]
  have hb5 : Below W4.heap.size W4 (W4.alloc (.cells #[.int .u8 170] 5)) := (Below.refl _ _).alloc (Nat.le_refl _) _
  have hsame := same_true p (some ⟨W4.heap.size, 0, none⟩) 1 c 1 [170] _ (hu4.below keepU hb5) (one_new W4 170)
  have H13 := Lib.hid (h13.trans (hb5.mono h13.size))
  clear h13 hb5 hu4 hg4
  unfold goneV at hsame
  go_wp2_with (go_at_call 6; refine hsame.mono ?_; rintro e w6 ⟨rfl, hb6⟩; have HB6 := Lib.hid hb6; clear hb6 hsame)
  go_ret
  exact ⟨rfl, H13.out.trans (HB6.out.mono H13.out.size)⟩

end Go.Proofs.Ytpgpjaackaedhaa

/-
  The law DeviceWhole, walked.
-/
namespace Go.Proofs.Ytpgpjaackaedhaa
open Go.RowKit Go.Maps

theorem elemInst : ElemOk 40 39 (.agg #[.int .u8 0, .int .i64 0, .int .i64 0, .slice none 0 0, .int .i64 0]) 5 56 := ⟨Try.underlying40, by kernel_rfl, rfl, by decide⟩

theorem own_cells {w : World} {base e size n : Nat} {y : Value} {l : List Value} (hn : 0 < n) (h : w.ownsRow base e size y n l) : ∃ g c cur, y = .slice (some ⟨g, 0, none⟩) n c ∧ base ≤ g ∧ w.heap[g]? = some (.cells cur e (0, 0)) ∧ ∀ i u, l[i]? = some u → w.cell? ⟨g, i, none⟩ = some u := by
  obtain ⟨hl, ⟨-, h0⟩ | ⟨g, cap, cur, h1, h2, h3, h4, h5, h6, h7⟩⟩ := h
  · omega
  · refine ⟨g, cap, cur, h1, h2, h3, fun i u hi => ?_⟩
    have hil : i < n * size := by rw [← hl]; exact (List.getElem?_eq_some_iff.1 hi).1
    rw [← h7, List.getElem?_take_of_lt hil] at hi
    simp only [World.cell?, h3]
    simpa using hi
theorem ins_two {w : World} {base gc : Nat} {y : Value} (h : w.ownsRow base 39 5 y 2 [.int .u8 5, .int .i64 0, .int .i64 0, .slice (some ⟨gc, 0, none⟩) 1 1, .int .i64 0, .int .u8 4, .int .i64 0, .int .i64 0, .slice none 0 0, .int .i64 0]) : ∃ g c, y = .slice (some ⟨g, 0, none⟩) 2 c ∧ base ≤ g ∧ g < w.heap.size ∧ InsAt w g gc 1 2 := by
  obtain ⟨g, c, cur, h1, h2, h3, h4⟩ := own_cells (by decide) h
  exact ⟨g, c, h1, h2, (Array.getElem?_eq_some_iff.1 h3).1, ⟨h4 0 _ rfl, h4 1 _ rfl, h4 2 _ rfl, h4 3 _ rfl, h4 4 _ rfl⟩, fun _ => ⟨h4 5 _ rfl, h4 6 _ rfl, h4 7 _ rfl, h4 8 _ rfl, h4 9 _ rfl⟩⟩

set_option maxRecDepth 100000 in
set_option maxHeartbeats 6400000 in
theorem whole_any (port to : Int) (drop : Bool) (bp : Option Addr) (m bc : Nat) (xs : List Int) (w : World) (w0 : (Lit.int .u16 port).wf = true) (w1 : (Lit.int .u16 to).wf = true) (hb : URow w (.slice bp m bc) xs) (hm : m = xs.length) :
    Calls Try.prog 3 #[.int .u16 port, .int .u16 to, .bool drop, .slice bp m bc] w fun e w' => e = .returned (.bool true) ∧ Below w.heap.size w w' := by
  have emn : IntKind.u16.min = 0 := rfl
  have emx : IntKind.u16.max = 65535 := rfl
  have hto : 0 ≤ to ∧ to ≤ 65535 := by simpa [Lit.wf, emn, emx] using w1
  have hpo : 0 ≤ port ∧ port ≤ 65535 := by simpa [Lit.wf, emn, emx] using w0
  clear w0 w1 emn emx
  have HU := Lib.hid hb
  have HM := Lib.hid hm
  clear hb hm
  by_cases h80 : 80 < m
  · have h80' : (80 : Int) < m := by omega
    have hk := known22_true w
    go_enter Try.func3, Try.ntmps3
    go_wp2_with (go_at_call 4; refine hk.mono ?_; rintro e w6 ⟨rfl, hb6⟩; have HB6 := Lib.hid hb6; clear hb6 hk)
    go_ret
    exact ⟨rfl, HB6.out⟩
  · have h80' : ¬ (80 : Int) < m := by omega
    go_enter Try.func3, Try.ntmps3
    go_upto_region 5 with fail
    obtain ⟨v, hv, hvlt⟩ : ∃ v : Nat, to % 512 = (v : Int) ∧ v < 512 := ⟨(to % 512).toNat, by omega, by omega⟩
    rw [hv]
    obtain ⟨W1, hW1⟩ : ∃ W1, W1 = ((((w.alloc (.cells #[.slice none 0 0, .slice none 0 0, .slice none 0 0, .int .i64 (-1)] 29)).alloc (.cells #[.int .u8 1, .int .i64 9, .int .i64 0, .int .i64 0, .int .u64 0, .int .u64 (v : Int)] 35)).alloc (.cells #[.int .u8 5, .int .i64 0, .int .i64 0, .slice (some ⟨w.heap.size + 1, 0, none⟩) 1 1, .int .i64 0] 39)).alloc (.cells #[.slice none 0 0, .slice none 0 0, .slice (some ⟨w.heap.size, 0, none⟩) 1 1, .slice none 0 0, .slice none 0 0, .slice (some ⟨w.heap.size + 1 + 1, 0, none⟩) 1 1, .slice none 0 0, .slice none 0 0, .slice none 0 0, .slice none 0 0, .slice none 0 0, .slice none 0 0] 49)) := ⟨_, rfl⟩
    have hp : PAt W1 w.heap.size (w.heap.size + 1) (w.heap.size + 1 + 1) v 1 := by rw [hW1]; exact prog_new w v
    have hb1 : Below w.heap.size w W1 := by rw [hW1]; exact (by repeat (first | exact Below.refl _ _ | assumption | refine Below.drew ?_ | refine Below.alloc ?_ (by first | omega | (simp <;> omega)) _ | refine Below.setCell ?_ (by first | omega | (simp <;> omega)) _ | refine Below.trans ?_ (Below.mono (by assumption) (by first | omega | (simp <;> omega)))))
    obtain ⟨-, -, hi0, hg⟩ := chain4 w (.cells #[.slice none 0 0, .slice none 0 0, .slice none 0 0, .int .i64 (-1)] 29) (.cells #[.int .u8 1, .int .i64 9, .int .i64 0, .int .i64 0, .int .u64 0, .int .u64 (v : Int)] 35) (.cells #[.int .u8 5, .int .i64 0, .int .i64 0, .slice (some ⟨w.heap.size + 1, 0, none⟩) 1 1, .int .i64 0] 39) (.cells #[.slice none 0 0, .slice none 0 0, .slice (some ⟨w.heap.size, 0, none⟩) 1 1, .slice none 0 0, .slice none 0 0, .slice (some ⟨w.heap.size + 1 + 1, 0, none⟩) 1 1, .slice none 0 0, .slice none 0 0, .slice none 0 0, .slice none 0 0, .slice none 0 0, .slice none 0 0] 49)
    have hsz : W1.heap.size = w.heap.size + 1 + 1 + 1 + 1 := by rw [hW1]; simp
    rw [← hW1] at hi0 hg ⊢
    clear hW1
    have HBW := Lib.hid hb1
    have hpo2 : 0 ≤ port % 512 ∧ port % 512 < 512 := by omega
    cases drop
    · have hu1 : URow W1 (.slice bp m bc) xs := HU.out.below keepU HBW.out
      have hpass := hp.pass (uc := 1) (port := port % 512) hvlt (.inl rfl) hu1 HM.out (by omega)
      unfold dpV at hpass
      have q0 : W1.cell? ⟨w.heap.size + 1 + 1 + 1, 0, none⟩ = some (.slice none 0 0) := by simp [World.cell?, hg]
      have q1 : W1.cell? ⟨w.heap.size + 1 + 1 + 1, 1, none⟩ = some (.slice none 0 0) := by simp [World.cell?, hg]
      have q2 : W1.cell? ⟨w.heap.size + 1 + 1 + 1, 2, none⟩ = some (.slice (some ⟨w.heap.size, 0, none⟩) 1 1) := by simp [World.cell?, hg]
      have q3 : W1.cell? ⟨w.heap.size + 1 + 1 + 1, 3, none⟩ = some (.slice none 0 0) := by simp [World.cell?, hg]
      have q4 : W1.cell? ⟨w.heap.size + 1 + 1 + 1, 4, none⟩ = some (.slice none 0 0) := by simp [World.cell?, hg]
      have q5 : W1.cell? ⟨w.heap.size + 1 + 1 + 1, 5, none⟩ = some (.slice (some ⟨w.heap.size + 1 + 1, 0, none⟩) 1 1) := by simp [World.cell?, hg]
      have q6 : W1.cell? ⟨w.heap.size + 1 + 1 + 1, 6, none⟩ = some (.slice none 0 0) := by simp [World.cell?, hg]
      have q7 : W1.cell? ⟨w.heap.size + 1 + 1 + 1, 7, none⟩ = some (.slice none 0 0) := by simp [World.cell?, hg]
      have q8 : W1.cell? ⟨w.heap.size + 1 + 1 + 1, 8, none⟩ = some (.slice none 0 0) := by simp [World.cell?, hg]
      have q9 : W1.cell? ⟨w.heap.size + 1 + 1 + 1, 9, none⟩ = some (.slice none 0 0) := by simp [World.cell?, hg]
      have q10 : W1.cell? ⟨w.heap.size + 1 + 1 + 1, 10, none⟩ = some (.slice none 0 0) := by simp [World.cell?, hg]
      have q11 : W1.cell? ⟨w.heap.size + 1 + 1 + 1, 11, none⟩ = some (.slice none 0 0) := by simp [World.cell?, hg]
      clear hp hb1 hu1 hi0 hg
      by_cases h64 : 64 < m
      · have h64i : (64 : Int) < m := by omega
        have h64j : ¬ (m : Int) ≤ 64 := by omega
        go_upto_region 8 with (go_at_call 5; refine hpass.mono ?_; rintro e w3 ⟨hb3, hr2, hr1, hr0⟩; obtain rfl := hr1 rfl (by rw [← HM.out]; exact h64); unfold goneV; have HB3 := Lib.hid hb3; clear hb3 hr2 hr1 hr0 hpass)
        have hb4 : Below w.heap.size w (w3.alloc (.cells #[.bool true, .bool false, .bool true, .bool false, .int .i64 0, .slice none 0 0] 51)) := (HBW.out.trans (HB3.out.mono HBW.out.size)).alloc (Nat.le_trans HBW.out.size HB3.out.size) _
        have HB4 := Lib.hid hb4
        clear hb4
        go_wp2_with (go_at_call 4; refine (known22_true _).mono ?_; rintro e w6 ⟨rfl, hb6⟩; have HB6 := Lib.hid hb6; clear hb6)
        go_ret
        exact ⟨rfl, HB4.out.trans (HB6.out.mono HB4.out.size)⟩
      · have h64i : ¬ (64 : Int) < m := by omega
        have h64j : (m : Int) ≤ 64 := by omega
        go_upto_region 8 with (go_at_call 5; refine hpass.mono ?_; rintro e w3 ⟨hb3, hr2, hr1, hr0⟩; obtain ⟨p, c, rfl, hu⟩ := hr0 rfl (by rw [← HM.out]; omega); rw [← HM.out] at hu ⊢; have HU3 := Lib.hid hu; clear hu; unfold goneV; have HB3 := Lib.hid hb3; clear hb3 hr2 hr1 hr0 hpass)
        have hb4 : Below w.heap.size w (w3.alloc (.cells #[.bool true, .bool true, .bool false, .bool false, .int .i64 (v : Int), .slice p m c] 51)) := (HBW.out.trans (HB3.out.mono HBW.out.size)).alloc (Nat.le_trans HBW.out.size HB3.out.size) _
        have HB4 := Lib.hid hb4
        clear hb4
        have k1 := uconv (HU3.out.below keepU ((Below.refl _ _).alloc (Nat.le_refl _) (.cells #[.bool true, .bool true, .bool false, .bool false, .int .i64 (v : Int), .slice p m c] 51)))
        have k2 := uconv (HU.out.below keepU HB4.out)
        generalize strOfNums xs = S at k1 k2
        go_wp2_with (go_at_call 4; refine (known22_true _).mono ?_; rintro e w6 ⟨rfl, hb6⟩; have HB6 := Lib.hid hb6; clear hb6)
        go_ret
        exact ⟨rfl, HB4.out.trans (HB6.out.mono HB4.out.size)⟩
    · go_upto_region 6 with fail
      have q0 : W1.cell? ⟨w.heap.size + 1 + 1 + 1, 0, none⟩ = some (.slice none 0 0) := by simp [World.cell?, hg]
      have q1 : W1.cell? ⟨w.heap.size + 1 + 1 + 1, 1, none⟩ = some (.slice none 0 0) := by simp [World.cell?, hg]
      have q2 : W1.cell? ⟨w.heap.size + 1 + 1 + 1, 2, none⟩ = some (.slice (some ⟨w.heap.size, 0, none⟩) 1 1) := by simp [World.cell?, hg]
      have q3 : W1.cell? ⟨w.heap.size + 1 + 1 + 1, 3, none⟩ = some (.slice none 0 0) := by simp [World.cell?, hg]
      have q4 : W1.cell? ⟨w.heap.size + 1 + 1 + 1, 4, none⟩ = some (.slice none 0 0) := by simp [World.cell?, hg]
      have q5 : W1.cell? ⟨w.heap.size + 1 + 1 + 1, 5, none⟩ = some (.slice (some ⟨w.heap.size + 1 + 1, 0, none⟩) 1 1) := by simp [World.cell?, hg]
      have q6 : W1.cell? ⟨w.heap.size + 1 + 1 + 1, 6, none⟩ = some (.slice none 0 0) := by simp [World.cell?, hg]
      have q7 : W1.cell? ⟨w.heap.size + 1 + 1 + 1, 7, none⟩ = some (.slice none 0 0) := by simp [World.cell?, hg]
      have q8 : W1.cell? ⟨w.heap.size + 1 + 1 + 1, 8, none⟩ = some (.slice none 0 0) := by simp [World.cell?, hg]
      have q9 : W1.cell? ⟨w.heap.size + 1 + 1 + 1, 9, none⟩ = some (.slice none 0 0) := by simp [World.cell?, hg]
      have q10 : W1.cell? ⟨w.heap.size + 1 + 1 + 1, 10, none⟩ = some (.slice none 0 0) := by simp [World.cell?, hg]
      have q11 : W1.cell? ⟨w.heap.size + 1 + 1 + 1, 11, none⟩ = some (.slice none 0 0) := by simp [World.cell?, hg]
      have hown : W1.ownsRow (w.heap.size + 1 + 1) 39 5 (.slice (some ⟨w.heap.size + 1 + 1, 0, none⟩) 1 1) 1 [.int .u8 5, .int .i64 0, .int .i64 0, .slice (some ⟨w.heap.size + 1, 0, none⟩) 1 1, .int .i64 0] := ⟨rfl, .inr ⟨_, 1, _, rfl, Nat.le_refl _, hi0, Nat.le_refl _, by decide, rfl, rfl⟩⟩
      have HOW := Lib.hid hown
      have HP := Lib.hid hp
      have HG := Lib.hid hg
      have HSZ := Lib.hid hsz
      clear hown hp hb1 hi0 hg hsz
      go_upto_region 7 with (at_builtin; (refine append_gen elemInst rfl (.tmp 29) (.tmp 31) rfl (w.heap.size + 1 + 1) (.slice (some ⟨w.heap.size + 1 + 1, 0, none⟩) 1 1) 1 _ rfl (HOW.out.alloc _) (.slice (some ⟨W1.heap.size, 0, none⟩) 1 1) 1 [.int .u8 4, .int .i64 0, .int .i64 0, .slice none 0 0, .int .i64 0] rfl (src_one (g := W1.heap.size) rfl (fun u hu => by simp at hu; rcases hu with rfl | rfl | rfl | rfl | rfl <;> rfl) (fun j u hj => by match j, hj with | 0, hj => (cases hj; simp [go_sem]) | 1, hj => (cases hj; simp [go_sem]) | 2, hj => (cases hj; simp [go_sem]) | 3, hj => (cases hj; simp [go_sem]) | 4, hj => (cases hj; simp [go_sem]))) (by omega) (by unfold maxLen; omega) (by have := HSZ.out; simp; omega) ?_; intro y w2 h1 h2; have HY := Lib.hid h1; have HGR := Lib.hid h2; obtain ⟨g2, c2, rfl, hg2, hg2l, hI2⟩ := ins_two h1; have HI2 := Lib.hid hI2; have hP2 := (h2.block (w.heap.size + 1 + 1 + 1) (by have := HSZ.out; simp; omega) (by show some (w.heap.size + 1 + 1 + 1) ≠ some (w.heap.size + 1 + 1); simp)).trans ((Below.heap_alloc _ _ _ (by have := HSZ.out; omega)).trans HG.out); have o5 : w2.cell? ⟨w.heap.size + 1 + 1 + 1, 5, none⟩ = some (.slice (some ⟨w.heap.size + 1 + 1, 0, none⟩) 1 1) := (by simp [World.cell?, hP2]); have z5 : w2.frozen? ⟨w.heap.size + 1 + 1 + 1, 5, none⟩ = false := (by simp [World.frozen?, hP2]); have HP2 := Lib.hid hP2; clear h1 h2 hI2 hP2))
      have hbl : Below (w.heap.size + 1 + 1) W1 w2 := below_grown ((Below.refl _ _).alloc (by have := HSZ.out; omega) _) (HOW.out.alloc _) HGR.out (Nat.le_refl _) (by have := HSZ.out; simp; omega)
      have hne : g2 ≠ w.heap.size + 1 + 1 + 1 := by
        rintro rfl
        obtain ⟨cur, hcur, -⟩ := own_type HY.out rfl
        rw [HP2.out] at hcur
        cases hcur
      obtain ⟨W3, hW3⟩ : ∃ W3, W3 = w2.setCell ⟨w.heap.size + 1 + 1 + 1, 5, none⟩ (.slice (some ⟨g2, 0, none⟩) 2 c2) := ⟨_, rfl⟩
      have hg : W3.heap[w.heap.size + 1 + 1 + 1]? = some (.cells #[.slice none 0 0, .slice none 0 0, .slice (some ⟨w.heap.size, 0, none⟩) 1 1, .slice none 0 0, .slice none 0 0, .slice (some ⟨g2, 0, none⟩) 2 c2, .slice none 0 0, .slice none 0 0, .slice none 0 0, .slice none 0 0, .slice none 0 0, .slice none 0 0] 49 (0, 0)) := by rw [hW3]; exact heap_setCell_same _ _ 5 _ _ _ HP2.out
      have hb3 : Below (w.heap.size + 1 + 1) W1 W3 := by rw [hW3]; exact hbl.setCell (by show _ ≤ w.heap.size + 1 + 1 + 1; omega) _
      have hp : PAt W3 w.heap.size (w.heap.size + 1) g2 v 2 := by
        obtain ⟨s0, s1, s2, s3, ⟨a0, a1, a2, a3, a4, a5⟩, -⟩ := HP.out
        have cc : ∀ g i v, g < w.heap.size + 1 + 1 → W1.cell? ⟨g, i, none⟩ = some v → W3.cell? ⟨g, i, none⟩ = some v := fun g i v hl h => (hb3.cell (p := ⟨g, i, none⟩) hl).trans h
        have hf : FrX (w.heap.size + 1 + 1 + 1) w2 W3 := by rw [hW3]; exact ⟨(Below.refl _ _).setCell (p := ⟨w.heap.size + 1 + 1 + 1, 5, none⟩) (Nat.le_refl (w.heap.size + 1 + 1 + 1)) _, fun k _ hk => setCell_heap hk⟩
        exact ⟨cc _ _ _ (by omega) s0, cc _ _ _ (by omega) s1, cc _ _ _ (by omega) s2, cc _ _ _ (by omega) s3, ⟨cc _ _ _ (by omega) a0, cc _ _ _ (by omega) a1, cc _ _ _ (by omega) a2, cc _ _ _ (by omega) a3, cc _ _ _ (by omega) a4, cc _ _ _ (by omega) a5⟩, HI2.out.frx hf hne⟩
      have hbw : Below w.heap.size w W3 := HBW.out.trans (hb3.mono (by omega))
      rw [← hW3]
      clear hW3 q0 q1 q2 q3 q4 q5 q6 q7 q8 q9 q10 q11 o5 z5 HP HI2 HP2 HY HGR HOW HG hbl hb3 hne HBW
      have HBW := Lib.hid hbw
      have hu1 : URow W3 (.slice bp m bc) xs := HU.out.below keepU HBW.out
      have hpass := hp.pass (uc := c2) (port := port % 512) hvlt (.inr rfl) hu1 HM.out (by omega)
      unfold dpV at hpass
      have q0 : W3.cell? ⟨w.heap.size + 1 + 1 + 1, 0, none⟩ = some (.slice none 0 0) := by simp [World.cell?, hg]
      have q1 : W3.cell? ⟨w.heap.size + 1 + 1 + 1, 1, none⟩ = some (.slice none 0 0) := by simp [World.cell?, hg]
      have q2 : W3.cell? ⟨w.heap.size + 1 + 1 + 1, 2, none⟩ = some (.slice (some ⟨w.heap.size, 0, none⟩) 1 1) := by simp [World.cell?, hg]
      have q3 : W3.cell? ⟨w.heap.size + 1 + 1 + 1, 3, none⟩ = some (.slice none 0 0) := by simp [World.cell?, hg]
      have q4 : W3.cell? ⟨w.heap.size + 1 + 1 + 1, 4, none⟩ = some (.slice none 0 0) := by simp [World.cell?, hg]
      have q5 : W3.cell? ⟨w.heap.size + 1 + 1 + 1, 5, none⟩ = some (.slice (some ⟨g2, 0, none⟩) 2 c2) := by simp [World.cell?, hg]
      have q6 : W3.cell? ⟨w.heap.size + 1 + 1 + 1, 6, none⟩ = some (.slice none 0 0) := by simp [World.cell?, hg]
      have q7 : W3.cell? ⟨w.heap.size + 1 + 1 + 1, 7, none⟩ = some (.slice none 0 0) := by simp [World.cell?, hg]
      have q8 : W3.cell? ⟨w.heap.size + 1 + 1 + 1, 8, none⟩ = some (.slice none 0 0) := by simp [World.cell?, hg]
      have q9 : W3.cell? ⟨w.heap.size + 1 + 1 + 1, 9, none⟩ = some (.slice none 0 0) := by simp [World.cell?, hg]
      have q10 : W3.cell? ⟨w.heap.size + 1 + 1 + 1, 10, none⟩ = some (.slice none 0 0) := by simp [World.cell?, hg]
      have q11 : W3.cell? ⟨w.heap.size + 1 + 1 + 1, 11, none⟩ = some (.slice none 0 0) := by simp [World.cell?, hg]
      clear hp hbw hu1 hg
      · skip
        go_upto_region 8 with (go_at_call 5; refine hpass.mono ?_; rintro e w3 ⟨hb3, hr2, hr1, hr0⟩; obtain rfl := hr2 rfl; unfold goneV; have HB3 := Lib.hid hb3; clear hb3 hr2 hr1 hr0 hpass)
        have hb4 : Below w.heap.size w (w3.alloc (.cells #[.bool true, .bool false, .bool false, .bool false, .int .i64 0, .slice none 0 0] 51)) := (HBW.out.trans (HB3.out.mono HBW.out.size)).alloc (Nat.le_trans HBW.out.size HB3.out.size) _
        have HB4 := Lib.hid hb4
        clear hb4
        go_wp2_with (go_at_call 4; refine (known22_true _).mono ?_; rintro e w6 ⟨rfl, hb6⟩; have HB6 := Lib.hid hb6; clear hb6)
        go_ret
        exact ⟨rfl, HB4.out.trans (HB6.out.mono HB4.out.size)⟩

/-- Bytes that came in. -/
theorem URow.of_row {w : World} {a : Option Addr} {len cap : Nat} {zs : List Int} (h : (a = none ∧ len = 0 ∧ cap = 0 ∧ zs = []) ∨
    ∃ x, a = some x ∧ len ≤ cap ∧ cap ≤ maxLen ∧ zs.length = cap ∧ (∀ i, i < zs.length → w.cell? (x.add i) = some (.int .u8 (zs.getD i 0))) ∧ ∀ n ∈ zs, (Lit.int .u8 n).wf = true) :
    URow w (.slice a len cap) (zs.take len) ∧ len = (zs.take len).length := by
  rcases h with ⟨rfl, rfl, rfl, rfl⟩ | ⟨x, rfl, h1, h2, h3, h4, -⟩
  · exact ⟨RowAt.nil, rfl⟩
  · have hl : (zs.take len).length = len := by rw [List.length_take]; omega
    refine ⟨⟨some x, cap, by rw [hl], by omega, h2, (fun e => by cases e), fun h0 => ?_⟩, hl.symm⟩
    obtain ⟨b, off, sp⟩ := x
    have hsp : sp = none := by
      have := (cell_there (h4 0 (by omega))).2
      revert this
      unfold Addr.add
      split <;> simp_all
    subst hsp
    refine ⟨b, off, rfl, ?_, fun j y hj => ?_⟩
    · have := (cell_there (h4 0 (by omega))).1
      rw [addr_add] at this
      exact this
    · have hjl : j < (zs.take len).length := (List.getElem?_eq_some_iff.1 hj).1
      have h5 := h4 j (by omega)
      rw [addr_add] at h5
      rw [List.getElem?_take_of_lt (by omega)] at hj
      rw [List.getD_eq_getElem?_getD, hj] at h5
      rw [Nat.mul_one]
      exact h5

end Go.Proofs.Ytpgpjaackaedhaa

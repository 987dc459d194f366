/-
  Contract of num.Parse at any text of less than 1000 bytes: by what ToLower makes of what stands behind 0x; what is no number.
-/
import Derived.Test.YtfalhemeiengcaaDoorParse
namespace Go.Proofs.YtfalhemeiengcaaDoor
open Go.RowKit Go.Maps Go.Lib

set_option maxRecDepth 100000 in
set_option maxHeartbeats 8000000 in
/-- Behind 0x: digits alone, as they stand in lower case. -/
theorem parse_hexG (s : ByteArray) (w : World) (hp : hasPrefix s.data.toList [48, 120] = true) (t : ByteArray) (hsz : t.size < 1000) (HL0 : ∀ W, Below w.heap.size w W → Calls Tryd.prog 44 #[.string ⟨(trimPrefix s.data.toList [48, 120]).toArray⟩] W fun e w' => e = .returned (.string t) ∧ Below W.heap.size W w') (hne : 0 < t.size) (htr : trimS t.data.toList D16.data.toList = []) (hall : AllDig D16 t) :
    Calls Tryd.prog 7 #[.string s] w fun e w' => e = .returned (parseV 16 D16 t) ∧ Below w.heap.size w w' := by
  obtain ⟨r0, hr0⟩ : ∃ r : ByteArray, r = ⟨(trimPrefix s.data.toList [48, 120]).toArray⟩ := ⟨_, rfl⟩
  have HC : Hid (∀ W, Calls Tryd.prog 43 #[.string s, .string ⟨#[48, 120]⟩] W fun e w' => e = .returned (.tuple #[.string r0, .bool true]) ∧ w' = W) := fun W => by
    have := Tryd.strings_CutPrefix s ⟨#[48, 120]⟩ W
    rw [show (⟨#[48, 120]⟩ : ByteArray).data.toList = [48, 120] from rfl, hp, ← hr0] at this
    exact this
  rw [← hr0] at HL0
  have HL := Lib.hid HL0
  clear HL0 hp
  have HT : Hid (∀ W, Calls Tryd.prog 45 #[.string t, .string ⟨#[48, 49, 50, 51, 52, 53, 54, 55, 56, 57, 97, 98, 99, 100, 101, 102]⟩] W fun e w' => e = .returned (.string ⟨#[]⟩) ∧ Below W.heap.size W w') := fun W => by
    have := Any.strings_Trim_laid Tryd.lays160 (by kernel_rfl) t D16 W (by omega) (by decide) (ascii_of_all (by decide))
    rw [htr] at this
    exact this
  have hnl : ¬ t.toList = [] := by
    rw [Go.ByteArray.toList_eq]
    intro h
    have h2 := congrArg List.length h
    rw [Array.length_toList] at h2
    have h3 : t.size = 0 := h2
    omega
  have hni : t.toList.isEmpty = false := List.isEmpty_eq_false_iff.2 hnl
  clear htr hnl hr0
  go_enter Tryd.func7, Tryd.ntmps7
  go_wp2_with (first
    | (go_at_call 43; refine (HC.out _).mono ?_; rintro e w1 ⟨rfl, rfl⟩)
    | (go_at_call 44; (with_reducible refine (HL.out _ ((Below.refl _ _).alloc (Nat.le_refl _) _)).mono ?_); rintro e wL ⟨rfl, hbL⟩; have HBL := Lib.hid hbL; clear hbL)
    | (go_at_call 45; (with_reducible refine (HT.out _).mono ?_); rintro e w1 ⟨rfl, hbT⟩; have hb1 := HBL.out.trans (hbT.mono HBL.out.size); clear hbT))
  obtain ⟨A, hA⟩ : ∃ A, A = (w1.alloc (.cells #[.int .u64 0, .int .u64 0] 24)).iter t 0 := ⟨_, rfl⟩
  have HB1 := Lib.hid hb1
  have hz1 : w.heap.size < w1.heap.size := by have := hb1.size; rw [World.size_alloc] at this; omega
  have H0 : Hid (PAt w w.heap.size w1.heap.size 16 D16 t 0 A) := by
    show PAt w w.heap.size w1.heap.size 16 D16 t 0 A
    rw [hA]
    have g0 := (hb1.block w.heap.size (by simp)).trans (heap_new w _)
    refine ⟨?_, ?_, ?_, ?_, Nat.le_refl _, hz1⟩
    · show ((w1.alloc _).alloc _).heap[w.heap.size]? = _
      rw [Below.heap_alloc _ _ _ (by simp; omega), Below.heap_alloc _ _ _ hz1]; exact g0
    · show ((w1.alloc _).alloc _).heap[w1.heap.size]? = _
      rw [Below.heap_alloc _ _ _ (by simp), heap_new]
      simp [foldN]
    · have := World.iter_heap (w1.alloc (.cells #[.int .u64 0, .int .u64 0] 24)) t 0
      simpa using this
    · have hbw : Below w.heap.size w w1 := ((Below.refl _ _).alloc (Nat.le_refl _) _).trans (hb1.mono (by simp))
      exact (hbw.alloc hbw.size _).alloc (by have := hbw.size; simp; omega) _
  rw [← hA]
  clear hA hb1
  go_loopw [9] (fun okv wr => ∃ pos : Nat, pos ≤ t.size ∧ okv = .bool (foldN 16 D16 (t.data.toList.take pos)).2 ∧ Hid (PAt w w.heap.size w1.heap.size 16 D16 t pos wr)) (fun _ wr => t.size - wr.iterPos (w1.heap.size + 1))
  case atStart => exact ⟨0, Nat.zero_le _, rfl, H0⟩
  case round =>
    obtain ⟨pos, hps, rfl, HP⟩ := hrel
    obtain ⟨p1, p2, p3, p4, p5, p6⟩ := HP.out
    have hmu : wr.iterPos (w1.heap.size + 1) = pos := by simp [World.iterPos, p3]
    obtain ⟨⟨n, ok⟩, hf⟩ : ∃ p, foldN 16 D16 (t.data.toList.take pos) = p := ⟨_, rfl⟩
    rw [hf] at p2 ⊢
    have hn : n < B * B := by
      have := foldN_lt 16 D16 (t.data.toList.take pos) (0, true) (Nat.mul_pos B_pos B_pos)
      have e : (foldN 16 D16 (t.data.toList.take pos)).1 < B * B := this
      rw [hf] at e; exact e
    have HF := Lib.hid hf
    clear H0 hf
    by_cases hp : pos < t.size
    · obtain ⟨x0, x1, x2⟩ := hall pos hp
      have hnext : ∀ ty, (Instr.next (.pointer (some ⟨w1.heap.size + 1, 0, none⟩)) true ty).run Tryd.prog wr = _ := fun ty => run_next_ascii_at wr (w1.heap.size + 1) t pos ty p3 hp x0
      have k3 := iterAt_heap wr (w1.heap.size + 1) t pos (pos + 1) p3
      have k4 : Below w.heap.size w (wr.iterAt (w1.heap.size + 1) t (pos + 1)) := below_iterAt p4 (by omega) t (pos + 1)
      have k1 := (iterAt_other (w := wr) (s := t) (p := pos + 1) (show w.heap.size ≠ w1.heap.size + 1 by omega)).trans p1
      have k2 := (iterAt_other (w := wr) (s := t) (p := pos + 1) (show w1.heap.size ≠ w1.heap.size + 1 by omega)).trans p2
      generalize wr.iterAt (w1.heap.size + 1) t (pos + 1) = W1 at hnext k1 k2 k3 k4
      have htl : pos < t.data.toList.length := by rw [Array.length_toList]; exact hp
      have hsn : foldN 16 D16 (t.data.toList.take (pos + 1)) = ((n * 16 + digV D16 (t[pos]'hp)) % (B * B), ok && decide (n * 16 + digV D16 (t[pos]'hp) < B * B)) := by
        rw [List.take_add_one, List.getElem?_eq_getElem htl]
        show foldN 16 D16 (_ ++ [t.data.toList[pos]]) = _
        rw [foldN_snoc, HF.out, Array.getElem_toList]
        rfl
      obtain ⟨c, hc⟩ : ∃ c, t[pos]'hp = c := ⟨_, rfl⟩
      rw [hc] at x0 x1 x2 hnext hsn
      obtain ⟨d, hd⟩ : ∃ d, digV D16 c = d := ⟨_, rfl⟩
      have hdi : indexByte D16.data.toList c = (d : Int) := by rw [← hd]; unfold digV; omega
      have hd100 : d < 100 := by omega
      rw [hd] at hsn
      have HIX : Hid (∀ W, Calls Tryd.prog 47 #[.string D16, .int .i32 (c.toNat : Int)] W fun e w' => e = .returned (.int .i64 (d : Int)) ∧ Below W.heap.size W w') := fun W => by
        have h := Tryd.strings_IndexRune_ascii D16 (c.toNat : Int) W (by omega) (by omega)
        have ec : ((c.toNat : Int)).toNat.toUInt8 = c := by simp
        rw [ec, hdi] at h
        refine h.mono ?_
        rintro e w' ⟨rfl, rfl⟩
        exact ⟨rfl, Below.refl _ _⟩
      have HTM0 : ∀ W, Calls Tryd.prog 46 #[numV n, .int .u64 ((16 : Nat) : Int), .int .u64 (d : Int)] W fun e w' => e = .returned (timesV n 16 d) ∧ Below W.heap.size W w' := fun W => times_any n 16 d W hn (by unfold B; decide) (by unfold B; omega)
      unfold timesV at HTM0
      obtain ⟨m2, hm2⟩ : ∃ m, (n * 16 + d) % (B * B) = m := ⟨_, rfl⟩
      obtain ⟨ok2, hok2⟩ : ∃ o, decide (n * 16 + d < B * B) = o := ⟨_, rfl⟩
      rw [hm2, hok2] at HTM0 hsn
      obtain ⟨a, b, hea, qa, qb⟩ := numV_parts n
      obtain ⟨a2, b2, heb, qa2, qb2⟩ := numV_parts m2
      rw [hea, heb] at HTM0
      rw [← qa, ← qb] at k2
      have HTM := Lib.hid HTM0
      have C0 : Hid (W1.cell? ⟨w1.heap.size, 0, none⟩ = some (.int .u64 (a : Int))) := by show _ = _; simp [World.cell?, k2]
      have C1 : Hid (W1.cell? ⟨w1.heap.size, 1, none⟩ = some (.int .u64 (b : Int))) := by show _ = _; simp [World.cell?, k2]
      have HK := Lib.hid (And.intro k1 (And.intro k2 (And.intro k3 k4)))
      have HSN := Lib.hid hsn
      have HQ := Lib.hid (And.intro qa2 qb2)
      clear k1 k2 k3 k4 hsn HTM0 hea heb qa qb qa2 qb2 hm2 hok2 hdi hd hc x0 x1 x2 p1 p2 p3 p4 hn hall
      go_wp2_with fail
      refine parseB w1.heap.size a b 16 d a2 b2 ⟨#[48, 49, 50, 51, 52, 53, 54, 55, 56, 57, 97, 98, 99, 100, 101, 102]⟩ (c.toNat : Int) ok2 W1 C0 C1 (Lib.hid hd100) HIX HTM _ _ _ _ _ _ _ _ _ _ _ _ _ _ _ _ _ _ _ _ _ _ _ _ _ _ _ _ _ _ _ _ _ _ _ _ _ _ _ _ _ _ _ _ _ _ _ _ _ _ _ _ ?_
      intro g w' hb' hg' hcell
      dsimp only
      simp only [show (((16 : Nat) : Int)) = 16 from rfl]
      obtain ⟨k1, k2, k3, k4⟩ := HK.out
      have l2 := (hb'.block w1.heap.size (lt_of_block k2)).trans k2
      have v0 : w'.cell? ⟨g, 0, none⟩ = some (.int .u64 (a2 : Int)) := by simp [World.cell?, hcell]
      have v1 : w'.cell? ⟨g, 1, none⟩ = some (.int .u64 (b2 : Int)) := by simp [World.cell?, hcell]
      have u0 : w'.cell? ⟨w1.heap.size, 0, none⟩ = some (.int .u64 (a : Int)) := by simp [World.cell?, l2]
      have u1 : w'.cell? ⟨w1.heap.size, 1, none⟩ = some (.int .u64 (b : Int)) := by simp [World.cell?, l2]
      have uf : ∀ j, w'.frozen? ⟨w1.heap.size, j, none⟩ = false := fun j => by simp [World.frozen?, l2]
      have HP2 : Hid (PAt w w.heap.size w1.heap.size 16 D16 t (pos + 1) ((w'.setCell ⟨w1.heap.size, 0, none⟩ (.int .u64 (a2 : Int))).setCell ⟨w1.heap.size, 1, none⟩ (.int .u64 (b2 : Int)))) := by
        refine ⟨?_, ?_, ?_, ?_, Nat.le_refl _, hz1⟩
        · rw [setCell_heap (by omega), setCell_heap (by omega), hb'.block _ (lt_of_block k1)]; exact k1
        · rw [heap_setCell_same _ _ _ _ _ _ (heap_setCell_same _ _ _ _ _ _ l2), HSN.out, ← HQ.out.1, ← HQ.out.2]; simp
        · rw [setCell_heap (by omega), setCell_heap (by omega), hb'.block _ (lt_of_block k3)]; exact k3
        · exact ((k4.trans (hb'.mono k4.size)).setCell (by show w.heap.size ≤ w1.heap.size; omega) _).setCell (by show w.heap.size ≤ w1.heap.size; omega) _
      have hmu2 : ((w'.setCell ⟨w1.heap.size, 0, none⟩ (.int .u64 (a2 : Int))).setCell ⟨w1.heap.size, 1, none⟩ (.int .u64 (b2 : Int))).iterPos (w1.heap.size + 1) = pos + 1 := by
        have := HP2.out.2.2.1
        simp [World.iterPos, this]
      clear k1 k2 k3 k4 l2 hcell hb' hg' HK C0 C1 HIX HTM
      cases ok
      · go_wp2_with fail
        go_roundw
        case rel => exact ⟨pos + 1, hp, by rw [HSN.out]; rfl, HP2⟩
        case measure => rw [hmu, hmu2]; omega
      · go_wp2_with fail
        go_roundw
        case rel => exact ⟨pos + 1, hp, by rw [HSN.out]; rfl, HP2⟩
        case measure => rw [hmu, hmu2]; omega
    · have hnext : ∀ ty, (Instr.next (.pointer (some ⟨w1.heap.size + 1, 0, none⟩)) true ty).run Tryd.prog wr = _ := fun ty => run_next_end_at wr (w1.heap.size + 1) t pos ty p3 hp
      have hall2 : t.data.toList.take pos = t.data.toList := List.take_of_length_le (by rw [Array.length_toList]; exact Nat.le_of_not_lt hp)
      have HF2 : Hid (foldN 16 D16 t.data.toList = (n, ok)) := by show _ = _; rw [← hall2]; exact HF.out
      have HB4 := Lib.hid p4
      have r0c : wr.cell? ⟨w.heap.size, 0, none⟩ = some (.int .u64 0) := by simp [World.cell?, p1]
      have r1c : wr.cell? ⟨w.heap.size, 1, none⟩ = some (.int .u64 0) := by simp [World.cell?, p1]
      have rf : ∀ j, wr.frozen? ⟨w.heap.size, j, none⟩ = false := fun j => by simp [World.frozen?, p1]
      obtain ⟨a, b, hea, qa, qb⟩ := numV_parts n
      rw [← qa, ← qb] at p2
      have n0c : wr.cell? ⟨w1.heap.size, 0, none⟩ = some (.int .u64 (a : Int)) := by simp [World.cell?, p2]
      have n1c : wr.cell? ⟨w1.heap.size, 1, none⟩ = some (.int .u64 (b : Int)) := by simp [World.cell?, p2]
      have HE := Lib.hid hea
      clear p1 p2 p3 p4 hea qa qb hall2 hall hn
      cases ok
      · have HV : Hid (parseV 16 D16 t = .tuple #[.agg #[.int .u64 0, .int .u64 0], .int .i64 5]) := by show _ = _; unfold parseV; rw [HF2.out]; rfl
        go_wp2_with fail
        exact bodyPost_ret (v := .tuple #[.agg #[.int .u64 0, .int .u64 0], .int .i64 5]) (by simp [results, Tryd.results7, go_sem, r0c, r1c, rf]) rfl ⟨by rw [HV.out], (HB4.out.setCell (by show w.heap.size ≤ w.heap.size; omega) _).setCell (by show w.heap.size ≤ w.heap.size; omega) _⟩
      · have HV : Hid (parseV 16 D16 t = .tuple #[.agg #[.int .u64 (a : Int), .int .u64 (b : Int)], .int .i64 0]) := by show _ = _; unfold parseV; rw [HF2.out]; simp only [if_true]; rw [HE.out]
        go_wp2_with fail
        exact bodyPost_ret (v := .tuple #[.agg #[.int .u64 (a : Int), .int .u64 (b : Int)], .int .i64 0]) (by simp [results, Tryd.results7, go_sem, r0c, r1c, rf]) rfl ⟨by rw [HV.out], (HB4.out.setCell (by show w.heap.size ≤ w.heap.size; omega) _).setCell (by show w.heap.size ≤ w.heap.size; omega) _⟩

set_option maxRecDepth 100000 in
set_option maxHeartbeats 4000000 in
/-- Behind 0x: what is no digit. -/
theorem parse_formH (s : ByteArray) (w : World) (hp : hasPrefix s.data.toList [48, 120] = true) (t : ByteArray) (hsz : t.size < 1000) (HL0 : ∀ W, Below w.heap.size w W → Calls Tryd.prog 44 #[.string ⟨(trimPrefix s.data.toList [48, 120]).toArray⟩] W fun e w' => e = .returned (.string t) ∧ Below W.heap.size W w') (hne : 0 < t.size) (htr : ¬ trimS t.data.toList D16.data.toList = []) :
    Calls Tryd.prog 7 #[.string s] w fun e w' => e = .returned (.tuple #[.agg #[.int .u64 0, .int .u64 0], .int .i64 4]) ∧ Below w.heap.size w w' := by
  obtain ⟨r0, hr0⟩ : ∃ r : ByteArray, r = ⟨(trimPrefix s.data.toList [48, 120]).toArray⟩ := ⟨_, rfl⟩
  have HC : Hid (∀ W, Calls Tryd.prog 43 #[.string s, .string ⟨#[48, 120]⟩] W fun e w' => e = .returned (.tuple #[.string r0, .bool true]) ∧ w' = W) := fun W => by
    have := Tryd.strings_CutPrefix s ⟨#[48, 120]⟩ W
    rw [show (⟨#[48, 120]⟩ : ByteArray).data.toList = [48, 120] from rfl, hp, ← hr0] at this
    exact this
  rw [← hr0] at HL0
  have HL := Lib.hid HL0
  clear HL0 hp
  obtain ⟨u0, hu0⟩ : ∃ u : ByteArray, u = ⟨(trimS t.data.toList D16.data.toList).toArray⟩ := ⟨_, rfl⟩
  have HT : Hid (∀ W, Calls Tryd.prog 45 #[.string t, .string ⟨#[48, 49, 50, 51, 52, 53, 54, 55, 56, 57, 97, 98, 99, 100, 101, 102]⟩] W fun e w' => e = .returned (.string u0) ∧ Below W.heap.size W w') := fun W => by
    have := Any.strings_Trim_laid Tryd.lays160 (by kernel_rfl) t D16 W (by omega) (by decide) (ascii_of_all (by decide))
    rw [← hu0] at this
    exact this
  have hnl : ¬ t.toList = [] := by
    rw [Go.ByteArray.toList_eq]
    intro h
    have h2 := congrArg List.length h
    rw [Array.length_toList] at h2
    have h3 : t.size = 0 := h2
    omega
  have hni : t.toList.isEmpty = false := List.isEmpty_eq_false_iff.2 hnl
  have hul : ¬ u0.toList = [] := by
    rw [Go.ByteArray.toList_eq, hu0]
    exact htr
  have hui : u0.toList.isEmpty = false := List.isEmpty_eq_false_iff.2 hul
  clear htr hnl hul hu0
  clear hr0
  go_enter Tryd.func7, Tryd.ntmps7
  go_wp2_with (first
    | (go_at_call 43; refine (HC.out _).mono ?_; rintro e w1 ⟨rfl, rfl⟩)
    | (go_at_call 44; (with_reducible refine (HL.out _ ((Below.refl _ _).alloc (Nat.le_refl _) _)).mono ?_); rintro e wL ⟨rfl, hbL⟩; have HBL := Lib.hid hbL; clear hbL)
    | (go_at_call 45; (with_reducible refine (HT.out _).mono ?_); rintro e w1 ⟨rfl, hbT⟩; have HB := Lib.hid (HBL.out.trans (hbT.mono HBL.out.size)); clear hbT; have g0 := ((HB.out).block w.heap.size (by simp)).trans (heap_new w _); have v0 : w1.cell? ⟨w.heap.size, 0, none⟩ = some (.int .u64 0) := (by simp [World.cell?, g0]); have v1 : w1.cell? ⟨w.heap.size, 1, none⟩ = some (.int .u64 0) := (by simp [World.cell?, g0]); have vf : ∀ j, w1.frozen? ⟨w.heap.size, j, none⟩ = false := (fun j => by simp [World.frozen?, g0]); clear g0))
  have hbw : Below w.heap.size w w1 := ((Below.refl _ _).alloc (Nat.le_refl _) _).trans (HB.out.mono (by simp))
  exact bodyPost_ret (v := .tuple #[.agg #[.int .u64 0, .int .u64 0], .int .i64 4]) (by simp [results, Tryd.results7, go_sem, v0, v1, vf]) rfl ⟨rfl, (hbw.setCell (by show w.heap.size ≤ w.heap.size; omega) _).setCell (by show w.heap.size ≤ w.heap.size; omega) _⟩

set_option maxRecDepth 100000 in
set_option maxHeartbeats 4000000 in
/-- Behind 0x: nothing. -/
theorem parse_emptyH (s : ByteArray) (w : World) (hp : hasPrefix s.data.toList [48, 120] = true) (HL0 : ∀ W, Below w.heap.size w W → Calls Tryd.prog 44 #[.string ⟨(trimPrefix s.data.toList [48, 120]).toArray⟩] W fun e w' => e = .returned (.string ⟨#[]⟩) ∧ Below W.heap.size W w') :
    Calls Tryd.prog 7 #[.string s] w fun e w' => e = .returned (.tuple #[.agg #[.int .u64 0, .int .u64 0], .int .i64 4]) ∧ Below w.heap.size w w' := by
  obtain ⟨r0, hr0⟩ : ∃ r : ByteArray, r = ⟨(trimPrefix s.data.toList [48, 120]).toArray⟩ := ⟨_, rfl⟩
  have HC : Hid (∀ W, Calls Tryd.prog 43 #[.string s, .string ⟨#[48, 120]⟩] W fun e w' => e = .returned (.tuple #[.string r0, .bool true]) ∧ w' = W) := fun W => by
    have := Tryd.strings_CutPrefix s ⟨#[48, 120]⟩ W
    rw [show (⟨#[48, 120]⟩ : ByteArray).data.toList = [48, 120] from rfl, hp, ← hr0] at this
    exact this
  rw [← hr0] at HL0
  have HL := Lib.hid HL0
  clear HL0 hp
  clear hr0
  go_enter Tryd.func7, Tryd.ntmps7
  go_wp2_with (first
    | (go_at_call 43; refine (HC.out _).mono ?_; rintro e w1 ⟨rfl, rfl⟩)
    | (go_at_call 44; (with_reducible refine (HL.out _ ((Below.refl _ _).alloc (Nat.le_refl _) _)).mono ?_); rintro e wL ⟨rfl, hbL⟩; have HBL := Lib.hid hbL; clear hbL; have g0 := ((HBL.out).block w.heap.size (by simp)).trans (heap_new w _); have v0 : wL.cell? ⟨w.heap.size, 0, none⟩ = some (.int .u64 0) := (by simp [World.cell?, g0]); have v1 : wL.cell? ⟨w.heap.size, 1, none⟩ = some (.int .u64 0) := (by simp [World.cell?, g0]); have vf : ∀ j, wL.frozen? ⟨w.heap.size, j, none⟩ = false := (fun j => by simp [World.frozen?, g0]); clear g0))
  have hbw : Below w.heap.size w wL := ((Below.refl _ _).alloc (Nat.le_refl _) _).trans (HBL.out.mono (by simp))
  exact bodyPost_ret (v := .tuple #[.agg #[.int .u64 0, .int .u64 0], .int .i64 4]) (by simp [results, Tryd.results7, go_sem, v0, v1, vf]) rfl ⟨rfl, (hbw.setCell (by show w.heap.size ≤ w.heap.size; omega) _).setCell (by show w.heap.size ≤ w.heap.size; omega) _⟩

set_option maxRecDepth 100000 in
set_option maxHeartbeats 4000000 in
/-- Without 0x: what is no digit. -/
theorem parse_formD (t : ByteArray) (w : World) (hsz : t.size < 1000) (hp : hasPrefix t.data.toList [48, 120] = false) (hne : 0 < t.size) (htr : ¬ trimS t.data.toList D10.data.toList = []) :
    Calls Tryd.prog 7 #[.string t] w fun e w' => e = .returned (.tuple #[.agg #[.int .u64 0, .int .u64 0], .int .i64 4]) ∧ Below w.heap.size w w' := by
  obtain ⟨r0, HC0⟩ : ∃ r : ByteArray, ∀ W, Calls Tryd.prog 43 #[.string t, .string ⟨#[48, 120]⟩] W fun e w' => e = .returned (.tuple #[.string r, .bool false]) ∧ w' = W := ⟨_, fun W => by
    have := Tryd.strings_CutPrefix t ⟨#[48, 120]⟩ W
    rw [show (⟨#[48, 120]⟩ : ByteArray).data.toList = [48, 120] from rfl, hp] at this
    exact this⟩
  have HC := Lib.hid HC0
  clear HC0 hp
  obtain ⟨u0, hu0⟩ : ∃ u : ByteArray, u = ⟨(trimS t.data.toList D10.data.toList).toArray⟩ := ⟨_, rfl⟩
  have HT : Hid (∀ W, Calls Tryd.prog 45 #[.string t, .string ⟨#[48, 49, 50, 51, 52, 53, 54, 55, 56, 57]⟩] W fun e w' => e = .returned (.string u0) ∧ Below W.heap.size W w') := fun W => by
    have := Any.strings_Trim_laid Tryd.lays160 (by kernel_rfl) t D10 W (by omega) (by decide) (ascii_of_all (by decide))
    rw [← hu0] at this
    exact this
  have hnl : ¬ t.toList = [] := by
    rw [Go.ByteArray.toList_eq]
    intro h
    have h2 := congrArg List.length h
    rw [Array.length_toList] at h2
    have h3 : t.size = 0 := h2
    omega
  have hni : t.toList.isEmpty = false := List.isEmpty_eq_false_iff.2 hnl
  have hul : ¬ u0.toList = [] := by
    rw [Go.ByteArray.toList_eq, hu0]
    exact htr
  have hui : u0.toList.isEmpty = false := List.isEmpty_eq_false_iff.2 hul
  clear htr hnl hul hu0
  go_enter Tryd.func7, Tryd.ntmps7
  go_wp2_with (first
    | (go_at_call 43; refine (HC.out _).mono ?_; rintro e w1 ⟨rfl, rfl⟩)
    | (go_at_call 45; (with_reducible refine (HT.out _).mono ?_); rintro e w1 ⟨rfl, hbT⟩; have HB := Lib.hid hbT; clear hbT; have g0 := ((HB.out).block w.heap.size (by simp)).trans (heap_new w _); have v0 : w1.cell? ⟨w.heap.size, 0, none⟩ = some (.int .u64 0) := (by simp [World.cell?, g0]); have v1 : w1.cell? ⟨w.heap.size, 1, none⟩ = some (.int .u64 0) := (by simp [World.cell?, g0]); have vf : ∀ j, w1.frozen? ⟨w.heap.size, j, none⟩ = false := (fun j => by simp [World.frozen?, g0]); clear g0))
  have hbw : Below w.heap.size w w1 := ((Below.refl _ _).alloc (Nat.le_refl _) _).trans (HB.out.mono (by simp))
  exact bodyPost_ret (v := .tuple #[.agg #[.int .u64 0, .int .u64 0], .int .i64 4]) (by simp [results, Tryd.results7, go_sem, v0, v1, vf]) rfl ⟨rfl, (hbw.setCell (by show w.heap.size ≤ w.heap.size; omega) _).setCell (by show w.heap.size ≤ w.heap.size; omega) _⟩

set_option maxRecDepth 100000 in
set_option maxHeartbeats 4000000 in
/-- The empty text. -/
theorem parse_emptyD (w : World) :
    Calls Tryd.prog 7 #[.string ⟨#[]⟩] w fun e w' => e = .returned (.tuple #[.agg #[.int .u64 0, .int .u64 0], .int .i64 4]) ∧ Below w.heap.size w w' := by
  obtain ⟨r0, HC0⟩ : ∃ r : ByteArray, ∀ W, Calls Tryd.prog 43 #[.string ⟨#[]⟩, .string ⟨#[48, 120]⟩] W fun e w' => e = .returned (.tuple #[.string r, .bool false]) ∧ w' = W := ⟨_, fun W => by
    have := Tryd.strings_CutPrefix ⟨#[]⟩ ⟨#[48, 120]⟩ W
    rw [show (⟨#[48, 120]⟩ : ByteArray).data.toList = [48, 120] from rfl] at this
    exact this⟩
  have HC := Lib.hid HC0
  clear HC0
  go_enter Tryd.func7, Tryd.ntmps7
  go_wp2_with (first
    | (go_at_call 43; refine (HC.out _).mono ?_; rintro e w1 ⟨rfl, rfl⟩))

  have v0 : (w.alloc (.cells #[.int .u64 0, .int .u64 0] 24)).cell? ⟨w.heap.size, 0, none⟩ = some (.int .u64 0) := by simp [go_sem]
  have v1 : (w.alloc (.cells #[.int .u64 0, .int .u64 0] 24)).cell? ⟨w.heap.size, 1, none⟩ = some (.int .u64 0) := by simp [go_sem]
  exact bodyPost_ret (v := .tuple #[.agg #[.int .u64 0, .int .u64 0], .int .i64 4]) (by simp [results, Tryd.results7, go_sem, v0, v1]) rfl ⟨rfl, (Below.refl _ _).alloc (Nat.le_refl _) _⟩

end Go.Proofs.YtfalhemeiengcaaDoor

/-
  num.Text at 2^64.
-/
import Derived.Test.YtfalhemeiengcaaDoorDiv
import Derived.Deep.AppendLies
import Derived.Laws.AppendOwnNone
import Derived.Laws.IdiomStrings
namespace Go.Proofs.YtfalhemeiengcaaDoor
open Go.RowKit Go.Maps Go.Lib

/-- What is left behind k digits; the digits. -/
def nk (k : Nat) : Nat := 18446744073709551616 / 10 ^ k
def dk : Nat → List UInt8
  | 0 => []
  | k + 1 => UInt8.ofNat (48 + nk k % 10) :: dk k
theorem nk_next (k : Nat) : nk (k + 1) = nk k / 10 := by unfold nk; rw [Nat.pow_succ, ← Nat.div_div_eq_div_mul]
theorem nk_pos {k : Nat} (h : k < 20) : 0 < nk k := by
  unfold nk
  refine Nat.div_pos ?_ (Nat.pow_pos (by decide))
  have : 10 ^ k ≤ 10 ^ 19 := Nat.pow_le_pow_right (by decide) (by omega)
  have e : (10 : Nat) ^ 19 = 10000000000000000000 := by decide
  omega
theorem nk_small {k : Nat} (h : 0 < k) : nk k < 18446744073709551616 := by
  unfold nk
  refine Nat.div_lt_self (by decide) ?_
  exact Nat.one_lt_pow (by omega) (by decide)
theorem nk_end : nk 20 = 0 := by unfold nk; decide
theorem dk_length : ∀ k, (dk k).length = k
  | 0 => rfl
  | k + 1 => by simp [dk, dk_length k]

def cellsB (l : List UInt8) : List Value := l.map fun b => .int .u8 (b.toNat : Int)
/-- The bytes up to now. -/
def RowB (w : World) (b0 : Nat) (v : Value) (l : List UInt8) : Prop :=
  (v = .slice none 0 0 ∧ l = []) ∨ 0 < l.length ∧ ∃ g cap cur, v = .slice (some ⟨g, 0, none⟩) l.length cap ∧ b0 < g ∧ w.heap[g]? = some (.cells cur 5 (0, 0)) ∧ cur.toList.take l.length = cellsB l
theorem RowB.keep {w w' : World} {b0 : Nat} {v : Value} {l : List UInt8} (h : RowB w b0 v l) (hk : ∀ g, b0 < g → g < w.heap.size → w'.heap[g]? = w.heap[g]?) : RowB w' b0 v l := by
  rcases h with h | ⟨hl, g, cap, cur, e, h1, h2, h3⟩
  · exact .inl h
  · exact .inr ⟨hl, g, cap, cur, e, h1, (hk g h1 (lt_of_block h2)).trans h2, h3⟩
theorem row_news {w : World} {g : Nat} {cur : Array Value} {t : TypeId} {fr : Nat × Nat} {l : List Value} {n : Nat} (h : w.heap[g]? = some (.cells cur t fr)) (ht : cur.toList.take n = l) : ∀ j u, l[j]? = some u → w.cell? ((⟨g, 0, none⟩ : Addr).add j) = some u := by
  intro j u hu
  refine World.news_of_block h j u ?_
  rw [← ht, List.getElem?_take] at hu
  split at hu
  · exact hu
  · cases hu

theorem far_alloc {w : World} {gb b0 i j : Nat} {v u : Value} {o o2 : Obj} (h : w.heap[gb]? = some o) (hne : gb ≠ b0) : (((w.setCell ⟨b0, i, none⟩ v).setCell ⟨b0, j, none⟩ u).alloc o2).heap[gb]? = some o := by
  have hl := lt_of_block h
  rw [Below.heap_alloc _ _ _ (by simpa using hl), setCell_heap hne, setCell_heap hne, h]
theorem infoU8 : (Tryd.prog.info? 5).map (fun i => (i.zero, i.size, i.bytes)) = some (some (.int .u8 0), 1, 1) := by kernel_rfl

theorem own_lit (W : World) (b0 H : Nat) (v : Value) (h : b0 ≤ H) (hH : W.heap.size = H) : (W.alloc (.cells #[v] 5)).ownsRow b0 5 1 (.slice (some ⟨H, 0, none⟩) 1 1) 1 [v] := by
  subst hH
  exact ⟨rfl, .inr ⟨W.heap.size, 1, #[v], rfl, h, heap_new W _, Nat.le_refl _, by unfold maxLen; omega, rfl, rfl⟩⟩
theorem cellsB_one (l : List UInt8) : ∀ u ∈ cellsB l, u.oneCell' = true := by
  intro u hu
  obtain ⟨b, -, rfl⟩ := List.mem_map.1 hu
  rfl
theorem dig_cell {d : Nat} (h : d < 10) : ((UInt8.ofNat (48 + d)).toNat : Int) = 48 + (d : Int) := by
  rw [UInt8.toNat_ofNat']
  omega

def TxI (w : World) (k : Nat) (wr : World) : Prop :=
  wr.heap[w.heap.size]? = some (.cells #[.int .u64 ((nk k / B : Nat) : Int), .int .u64 ((nk k % B : Nat) : Int)] 24 (0, 0)) ∧ Below w.heap.size w wr

def txM (w wr : World) : Nat := match wr.cell? ⟨w.heap.size, 0, none⟩, wr.cell? ⟨w.heap.size, 1, none⟩ with | some (.int _ a), some (.int _ b) => a.toNat * B + b.toNat | _, _ => 0
theorem TxI.meas {w wr : World} {k : Nat} (h : TxI w k wr) : txM w wr = nk k := by
  have c0 : wr.cell? ⟨w.heap.size, 0, none⟩ = some (.int .u64 ((nk k / B : Nat) : Int)) := by simp [World.cell?, h.1]
  have c1 : wr.cell? ⟨w.heap.size, 1, none⟩ = some (.int .u64 ((nk k % B : Nat) : Int)) := by simp [World.cell?, h.1]
  unfold txM
  rw [c0, c1]
  show ((nk k / B : Nat) : Int).toNat * B + ((nk k % B : Nat) : Int).toNat = nk k
  rw [Int.toNat_natCast, Int.toNat_natCast]
  exact Nat.div_add_mod' _ _
theorem neq_num0 (x y : Int) (h : x ≠ 0 ∨ y ≠ 0) (W : World) : (Go.binOp .neq 24 (.agg #[.int .u64 x, .int .u64 y]) (.agg #[.int .u64 0, .int .u64 0])).run Tryd.prog W = .ok (.bool true) W := by
  rcases h with h | h <;> simp [go_sem, h]
theorem neq_num1 (W : World) : (Go.binOp .neq 24 (.agg #[.int .u64 0, .int .u64 0]) (.agg #[.int .u64 0, .int .u64 0])).run Tryd.prog W = .ok (.bool false) W := by
  simp [go_sem]

set_option maxRecDepth 100000 in
set_option maxHeartbeats 8000000 in
theorem text_one (w : World) : Calls Tryd.prog 8 #[.agg #[.int .u64 1, .int .u64 0]] w fun e w' => e = .returned (.string ⟨#[49, 56, 52, 52, 54, 55, 52, 52, 48, 55, 51, 55, 48, 57, 53, 53, 49, 54, 49, 54]⟩) ∧ Below w.heap.size w w' := by
  obtain ⟨i0, hi0, hz0, hz1, hz2⟩ := info_parts infoU8
  go_enter Tryd.func8, Tryd.ntmps8
  go_wp2_with fail
  go_loopw [3] (fun v wr => ∃ k : Nat, k ≤ 20 ∧ Hid (RowB wr w.heap.size v (dk k)) ∧ Hid (TxI w k wr)) (fun _ wr => txM w wr)
  case atStart =>
    refine ⟨0, Nat.zero_le _, .inl ⟨rfl, rfl⟩, ?_, (by repeat (first | exact Below.refl _ _ | assumption | refine Below.drew ?_ | refine Below.alloc ?_ (by first | omega | (simp <;> omega)) _ | refine Below.setCell ?_ (by first | omega | (simp <;> omega)) _ | refine Below.trans ?_ (Below.mono (by assumption) (by first | omega | (simp <;> omega)))))⟩
    rw [heap_new]; rfl
  case round =>
    obtain ⟨k, hk, HR, HX⟩ := hrel
    obtain ⟨x1, x2⟩ := HX.out
    have c0 : wr.cell? ⟨w.heap.size, 0, none⟩ = some (.int .u64 ((nk k / B : Nat) : Int)) := by simp [World.cell?, x1]
    have c1 : wr.cell? ⟨w.heap.size, 1, none⟩ = some (.int .u64 ((nk k % B : Nat) : Int)) := by simp [World.cell?, x1]
    have f0 : ∀ j, wr.frozen? ⟨w.heap.size, j, none⟩ = false := fun j => by simp [World.frozen?, x1]
    have hlw := lt_of_block x1
    by_cases h20 : k < 20
    · have hps := nk_pos h20
      obtain ⟨hi, hhi⟩ : ∃ x, nk k / B = x := ⟨_, rfl⟩
      obtain ⟨lo, hlo⟩ : ∃ x, nk k % B = x := ⟨_, rfl⟩
      obtain ⟨m, hm⟩ : ∃ x, nk (k + 1) = x := ⟨_, rfl⟩
      obtain ⟨d, hd⟩ : ∃ x, nk k % 10 = x := ⟨_, rfl⟩
      have hmB : m < B := by rw [← hm]; exact nk_small (by omega)
      have hd10 : d < 10 := by rw [← hd]; exact Nat.mod_lt _ (by decide)
      have HDI : Hid (hi < 2 ∧ ∀ W, Calls Tryd.prog 48 #[.int .u64 (hi : Int), .int .u64 (lo : Int), .int .u64 10] W fun e w' => e = .returned (.tuple #[.int .u64 (m : Int), .int .u64 (d : Int)]) ∧ Below W.heap.size W w') := by
        by_cases h0 : k = 0
        · subst h0
          have e1 : hi = 1 := by rw [← hhi]; rfl
          have e2 : lo = 0 := by rw [← hlo]; rfl
          have e3 : m = 1844674407370955161 := by rw [← hm]; rfl
          have e4 : d = 6 := by rw [← hd]; rfl
          rw [e1, e2, e3, e4]
          exact ⟨by decide, fun W => div_one W⟩
        · have hs := nk_small (k := k) (by omega)
          have e1 : hi = 0 := by rw [← hhi]; exact Nat.div_eq_of_lt hs
          have e2 : lo = nk k := by rw [← hlo]; exact Nat.mod_eq_of_lt hs
          have e3 : m = nk k / 10 := by rw [← hm]; exact nk_next k
          rw [e1, e2, e3, ← hd]
          exact ⟨by decide, fun W => div_low (nk k) hs W⟩
      have hhi2 := HDI.out.1
      have HD : Hid (∀ W, Calls Tryd.prog 48 #[.int .u64 (hi : Int), .int .u64 (lo : Int), .int .u64 10] W fun e w' => e = .returned (.tuple #[.int .u64 (m : Int), .int .u64 (d : Int)]) ∧ Below W.heap.size W w') := HDI.out.2
      have hnz : (hi : Int) ≠ 0 ∨ (lo : Int) ≠ 0 := by
        have := Nat.div_add_mod' (nk k) B
        rw [hhi, hlo] at this
        by_cases q : hi = 0
        · right; intro e; rw [q] at this; omega
        · left; omega
      have hneq := fun W => neq_num0 (hi : Int) (lo : Int) hnz W
      have q1 : IntKind.u64.wrap ((hi : Int) / 10) = 0 := by
        show ((hi : Int) / 10) % 18446744073709551616 = _
        omega
      have q3 : (hi : Int) % 10 = (hi : Int) := by omega
      have q4 : IntKind.u64.wrap (48 + (d : Int)) = 48 + (d : Int) := by
        show (48 + (d : Int)) % 18446744073709551616 = _
        omega
      have q5 : IntKind.u8.wrap (48 + (d : Int)) = 48 + (d : Int) := by
        show (48 + (d : Int)) % 256 = _
        omega
      rw [hhi] at c0
      rw [hlo] at c1
      have HM := Lib.hid (And.intro hm (And.intro hd (And.intro hmB hd10)))
      have HPS := Lib.hid hps
      have HX1 := Lib.hid x1
      have HX2 := Lib.hid x2
      clear hhi hlo hm hd hmB hd10 HDI hhi2 hnz hps x1 x2
      rcases HR.out with ⟨rfl, hl0⟩ | ⟨hlp, gb, cap, cur, rfl, hgb, hcur, htake⟩
      · have HL0 := Lib.hid hl0
        clear hl0
        go_wp2_with fail
        go_region
        go_wp2_with (first
          | (go_at_call 48; (with_reducible refine (HD.out _).mono ?_); rintro e w1 ⟨rfl, hb1⟩; have y1 := (hb1.block w.heap.size hlw).trans HX1.out; have HB1 := Lib.hid hb1; have d0 : w1.cell? ⟨w.heap.size, 0, none⟩ = some (.int .u64 ((nk k / B : Nat) : Int)) := (by simp [World.cell?, y1]); have d1 : w1.cell? ⟨w.heap.size, 1, none⟩ = some (.int .u64 ((nk k % B : Nat) : Int)) := (by simp [World.cell?, y1]); have g0 : ∀ j, w1.frozen? ⟨w.heap.size, j, none⟩ = false := (fun j => by simp [World.frozen?, y1]); have HY1 := Lib.hid y1; clear y1 hb1)
          | (refine wpList_append_own_none rfl (.tmp 35) (.tmp 36) 31 rfl w.heap.size 5 i0 1 Tryd.underlying31 hi0 (.slice (some ⟨w1.heap.size, 0, none⟩) 1 1) 1 [.int .u8 (48 + (d : Int))] rfl (own_lit _ _ _ _ (by have := HB1.out.size; omega) (by simp)) rfl ?_))
        have HX3 : Hid (TxI w (k + 1) (((w1.setCell ⟨w.heap.size, 0, none⟩ (.int .u64 0)).setCell ⟨w.heap.size, 1, none⟩ (.int .u64 (m : Int))).alloc (.cells #[.int .u8 (48 + (d : Int))] 5))) := by
          obtain ⟨m1, m2, m3, m4⟩ := HM.out
          have hz : wr.heap.size ≤ w1.heap.size := HB1.out.size
          refine ⟨?_, ?_⟩
          · rw [Below.heap_alloc _ _ _ (by simp; omega), heap_setCell_same _ _ _ _ _ _ (heap_setCell_same _ _ _ _ _ _ HY1.out), m1, Nat.div_eq_of_lt m3, Nat.mod_eq_of_lt m3]; simp
          · exact ((((below_drewN HX2.out 1).trans (HB1.out.mono HX2.out.size)).setCell (by show w.heap.size ≤ w.heap.size; omega) _).setCell (by show w.heap.size ≤ w.heap.size; omega) _).alloc (by simp; omega) _
        have HR3 : Hid (RowB (((w1.setCell ⟨w.heap.size, 0, none⟩ (.int .u64 0)).setCell ⟨w.heap.size, 1, none⟩ (.int .u64 (m : Int))).alloc (.cells #[.int .u8 (48 + (d : Int))] 5)) w.heap.size (.slice (some ⟨w1.heap.size, 0, none⟩) 1 1) (dk (k + 1))) := by
          obtain ⟨m1, m2, m3, m4⟩ := HM.out
          have hz : wr.heap.size ≤ w1.heap.size := HB1.out.size
          have e : dk (k + 1) = [UInt8.ofNat (48 + d)] := by unfold dk; rw [HL0.out, m2]
          rw [e]
          refine .inr ⟨Nat.lt_succ_self 0, w1.heap.size, 1, #[.int .u8 (48 + (d : Int))], rfl, by omega, ?_, ?_⟩
          · have := heap_new ((w1.setCell ⟨w.heap.size, 0, none⟩ (.int .u64 0)).setCell ⟨w.heap.size, 1, none⟩ (.int .u64 (m : Int))) (.cells #[.int .u8 (48 + (d : Int))] 5)
            simpa using this
          · unfold cellsB
            simp only [List.map_cons, List.map_nil]
            rw [dig_cell m4]; rfl
        go_wp2_with fail
        refine ⟨⟨k + 1, h20, HR3, HX3⟩, ?_⟩
        rw [HX3.out.meas, HX.out.meas, nk_next]
        exact Nat.div_lt_self HPS.out (by decide)
      · have hkl : (dk k).length = k := dk_length k
        have hbase : w.heap.size ≤ wr.heap.size := HX2.out.size
        have hgl := lt_of_block hcur
        have HCU := Lib.hid (And.intro hcur htake)
        have hnl : (cellsB (dk k)).length = k * 1 := by unfold cellsB; rw [List.length_map, hkl, Nat.mul_one]
        rw [hkl] at hlp
        have HKL := Lib.hid hkl
        rw [hkl]
        clear hcur htake hkl
        go_wp2_with fail
        go_region
        go_wp2_with (first
          | (go_at_call 48; (with_reducible refine (HD.out _).mono ?_); rintro e w1 ⟨rfl, hb1⟩; have y1 := (hb1.block w.heap.size hlw).trans HX1.out; have HB1 := Lib.hid hb1; have d0 : w1.cell? ⟨w.heap.size, 0, none⟩ = some (.int .u64 ((nk k / B : Nat) : Int)) := (by simp [World.cell?, y1]); have d1 : w1.cell? ⟨w.heap.size, 1, none⟩ = some (.int .u64 ((nk k % B : Nat) : Int)) := (by simp [World.cell?, y1]); have g0 : ∀ j, w1.frozen? ⟨w.heap.size, j, none⟩ = false := (fun j => by simp [World.frozen?, y1]); have HY1 := Lib.hid y1; clear y1 hb1)
          | (refine wpList_append_lies _ rfl (.tmp 35) (.tmp 36) 31 rfl w.heap.size 5 i0 (.int .u8 0) 1 1 Tryd.underlying31 hi0 hz0 hz1 hz2 rfl (by decide) (.slice (some ⟨w1.heap.size, 0, none⟩) 1 1) 1 [.int .u8 (48 + (d : Int))] rfl (own_lit _ _ _ _ (by have : wr.heap.size ≤ w1.heap.size := HB1.out.size; omega) (by simp)) ⟨gb, 0, none⟩ k cap (cellsB (dk k)) rfl hnl ?_ (cellsB_one _) hlp (by unfold maxLen; omega) (by omega) (by have : wr.heap.size ≤ w1.heap.size := HB1.out.size; simp; omega) _ rfl ?_; exact row_news (far_alloc ((HB1.out.block gb hgl).trans HCU.out.1) (by omega)) HCU.out.2; intro g2 cap2 w2 hown hgrow hat hlt; have HOWN := Lib.hid hown; have HGR := Lib.hid hgrow; have HAT := Lib.hid hat; clear hown hgrow hat hlt))
        have hz : wr.heap.size ≤ w1.heap.size := HB1.out.size
        have hbx : w2.heap[w.heap.size]? = some (.cells #[.int .u64 0, .int .u64 (m : Int)] 24 (0, 0)) := by
          rw [HGR.out.block _ (by simp; omega) (by simp [Value.ownBlock]; omega), Below.heap_alloc _ _ _ (by simp; omega), heap_setCell_same _ _ _ _ _ _ (heap_setCell_same _ _ _ _ _ _ HY1.out)]; simp
        have HX3 : Hid (TxI w (k + 1) w2) := by
          obtain ⟨m1, m2, m3, m4⟩ := HM.out
          refine ⟨?_, ?_⟩
          · rw [hbx, m1, Nat.div_eq_of_lt m3, Nat.mod_eq_of_lt m3]; rfl
          · exact ((((below_drewN HX2.out 1).trans (HB1.out.mono HX2.out.size)).setCell (by show w.heap.size ≤ w.heap.size; omega) _).setCell (by show w.heap.size ≤ w.heap.size; omega) _).alloc (by simp; omega) _ |>.grown HGR.out (by simp; omega) (fun j e => by simp [Value.ownBlock] at e; omega)
        have HR3 : Hid (RowB w2 w.heap.size (.slice (some ⟨g2, 0, none⟩) (1 + k) cap2) (dk (k + 1))) := by
          obtain ⟨m1, m2, m3, m4⟩ := HM.out
          have e : dk (k + 1) = UInt8.ofNat (48 + d) :: dk k := by conv => lhs; unfold dk; rw [m2]
          rw [e]
          obtain ⟨-, q | ⟨g3, cap3, cur3, e1, e2, e3, e4, e5, e6, e7⟩⟩ := HOWN.out
          · exact absurd q.1 (by simp)
          · simp only [Value.slice.injEq, Option.some.injEq, Addr.mk.injEq, and_true, true_and] at e1
            obtain ⟨rfl, rfl⟩ := e1
            refine .inr ⟨Nat.succ_pos _, g2, cap2, cur3, by rw [List.length_cons, HKL.out, Nat.add_comm], ?_, e3, ?_⟩
            · rcases HAT.out with q | q
              · simp [Value.ownBlock] at q; omega
              · rw [q]; simp; omega
            · rw [List.length_cons, HKL.out, Nat.add_comm k 1]
              rw [Nat.mul_one] at e7
              rw [e7]
              unfold cellsB
              rw [List.map_cons, dig_cell m4]; rfl
        clear hbx
        go_wp2_with fail
        refine ⟨⟨k + 1, h20, HR3, HX3⟩, ?_⟩
        rw [HX3.out.meas, HX.out.meas, nk_next]
        exact Nat.div_lt_self HPS.out (by decide)
    · obtain rfl : k = 20 := by omega
      have hneq := neq_num1
      rw [nk_end] at c0 c1
      rcases HR.out with ⟨-, hl0⟩ | ⟨-, gb, cap, cur, rfl, hgb, hcur, htake⟩
      · exact absurd (congrArg List.length hl0) (by rw [dk_length]; decide)
      · have hkl : (dk 20).length = 20 := dk_length 20
        rw [hkl] at htake ⊢
        have hconv : (convert 31 9 (.slice (some ⟨gb, 0, none⟩) 20 cap)).run Tryd.prog wr = .ok (.string ⟨(dk 20).toArray⟩) wr := by
          have := run_convert_bytes_back (P := Tryd.prog) wr 31 9 5 ⟨gb, 0, none⟩ cap (dk 20) Tryd.underlying31 Tryd.underlying5 Tryd.underlying9 (fun j hj => by
            refine row_news hcur htake j _ ?_
            unfold cellsB
            rw [List.getElem?_map, List.getElem?_eq_getElem hj]; rfl)
          rw [hkl] at this
          exact this
        have e : (⟨(dk 20).toArray⟩ : ByteArray) = ⟨#[49, 56, 52, 52, 54, 55, 52, 52, 48, 55, 51, 55, 48, 57, 53, 53, 49, 54, 49, 54]⟩ := by kernel_rfl
        rw [e] at hconv
        have HB := Lib.hid x2
        clear hcur htake x1 x2 hkl e
        go_wp2_with fail
        exact bodyPost_ret (v := .string ⟨#[49, 56, 52, 52, 54, 55, 52, 52, 48, 55, 51, 55, 48, 57, 53, 53, 49, 54, 49, 54]⟩) (by simp [results, Tryd.results8, go_sem]) rfl ⟨rfl, HB.out⟩

end Go.Proofs.YtfalhemeiengcaaDoor

/-
  num.Bytes of sixteen bytes, and num.From of them.
-/
import Derived.Test.YtfalhemeiengcaaDoorNumText
import Derived.Laws.OwnMore
import Derived.Deep.AppendLies
namespace Go.Proofs.YtfalhemeiengcaaDoor
open Go.RowKit Go.Maps Go.Lib

/-- A number's byte, the highest first. -/
def byV (n j : Nat) : Nat := n / 2 ^ (8 * (15 - j)) % 256
def byL (n k : Nat) : List Value := (List.range k).map fun j => .int .u8 (byV n j : Int)
theorem byL_len (n k : Nat) : (byL n k).length = k := by simp [byL]
theorem byL_snoc (n k : Nat) : byL n (k + 1) = byL n k ++ [.int .u8 (byV n k : Int)] := by simp [byL, List.range_succ]
theorem byL_at (n k j : Nat) (h : j < k) : (byL n k)[j]? = some (.int .u8 (byV n j : Int)) := by simp [byL, h]
theorem byV_lt (n j : Nat) : byV n j < 256 := Nat.mod_lt _ (by decide)
/-- What is read of the first bytes. -/
def acc (n k : Nat) : Nat := n / 2 ^ (8 * (16 - k))
theorem acc_zero {n : Nat} (hn : n < B * B) : acc n 0 = 0 := Nat.div_eq_of_lt (by rw [← BB_pow]; exact hn)
theorem acc_end (n : Nat) : acc n 16 = n := by simp [acc]
theorem acc_lt {n : Nat} (hn : n < B * B) (k : Nat) : acc n k < B * B := Nat.lt_of_le_of_lt (Nat.div_le_self _ _) hn
theorem acc_step {n k : Nat} (hn : n < B * B) (hk : k < 16) : (acc n k * 2 ^ sh 8 % (B * B) % 2 ^ sh 128) ||| byV n k = acc n (k + 1) := by
  have s8 : sh 8 = 8 := by decide
  have s128 : sh 128 = 128 := by decide
  rw [s8, s128, ← BB_pow]
  have hx : acc n (k + 1) / 256 = acc n k := by
    unfold acc
    rw [Nat.div_div_eq_div_mul, show (256 : Nat) = 2 ^ 8 from rfl, ← Nat.pow_add]
    congr 2; omega
  have hy : acc n (k + 1) % 256 = byV n k := by
    unfold acc byV
    rw [show 16 - (k + 1) = 15 - k by omega]
  have hlt := acc_lt hn (k + 1)
  have hz := byV_lt n k
  have hm : acc n k * 2 ^ 8 < B * B := by rw [show (2 : Nat) ^ 8 = 256 from rfl]; omega
  rw [Nat.mod_eq_of_lt hm, Nat.mod_eq_of_lt hm, Nat.mul_comm, ← Nat.two_pow_add_eq_or_of_lt (show byV n k < 2 ^ 8 from hz)]
  rw [show (2 : Nat) ^ 8 = 256 from rfl]
  omega

theorem field_lo2 (u v : Int) (W : World) : (Instr.field 24 (.agg #[.int .u64 u, .int .u64 v]) 1).run Tryd.prog W = .ok (.int .u64 v) W := by kernel_rfl
theorem own_mono {w : World} {base base' e size n : Nat} {v : Value} {xs : List Value} (h : w.ownsRow base e size v n xs) (hb : base' ≤ base) : w.ownsRow base' e size v n xs := by
  refine ⟨h.1, ?_⟩
  rcases h.2 with q | ⟨g, cap, cur, q1, q2, q3⟩
  · exact .inl q
  · exact .inr ⟨g, cap, cur, q1, Nat.le_trans hb q2, q3⟩

theorem append_byte {ops : Array Oper} {rest : List Oper} {o : Oper} {a : Act} {Q : Exit → Act → World → Prop} {w : World} (hgd : o.guard = none) (s x : Operand)
    (ho : o.op = .call { callee := .builtin .append, args := #[s, x], argTypes := #[31, 31] })
    (base : Nat) (v : Value) (n : Nat) (zs : List Value) (hs : a.eval s = v) (hown : w.ownsRow base 5 1 v n zs) (g : Nat) (z : Int) (hx : a.eval x = .slice (some ⟨g, 0, none⟩) 1 1) (hc : w.cell? ⟨g, 0, none⟩ = some (.int .u8 z)) (hl : n ≤ 1000) (hbase : base ≤ w.heap.size)
    (h : ∀ v' w', w'.ownsRow base 5 1 v' (n + 1) (zs ++ [.int .u8 z]) → w.grownBy w' v.ownBlock → wpList Tryd.prog ops Q rest (a.put o.dst v') w') : wpList Tryd.prog ops Q (o :: rest) a w := by
  obtain ⟨i0, hi, hz0, hz1, hz2⟩ := info_parts infoU8
  have hcell : ∀ j u, [Value.int .u8 z][j]? = some u → w.cell? ((⟨g, 0, none⟩ : Addr).add j) = some u := by
    intro j u hu
    match j, hu with
    | 0, hu => simp at hu; subst hu; simpa [Addr.add] using hc
  exact wpList_append_own _ hgd s x _ ho base 5 i0 (.int .u8 0) 1 1 Tryd.underlying31 hi hz0 hz1 hz2 rfl (by decide) v n zs hs hown ⟨g, 0, none⟩ 1 1 [.int .u8 z] hx rfl hcell (fun u hu => by simp at hu; subst hu; rfl) (by unfold maxLen; omega) (by omega) hbase fun v' w' h1 h2 _ => h v' w' h1 h2

set_option maxRecDepth 100000 in
set_option maxHeartbeats 2000000 in
theorem bytes_any (n : Nat) (hn : n < B * B) (w : World) : Calls Tryd.prog 10 #[numV n, .int .i64 16] w fun e w' => ∃ v, e = .returned v ∧ w'.ownsRow w.heap.size 5 1 v 16 (byL n 16) ∧ Below w.heap.size w w' := by
  obtain ⟨ya, za, ea, qa1, qa0⟩ := numV_parts n
  have HS0 : Hid (∀ (k : Int) (W : World), Calls Tryd.prog 37 #[.agg #[.int .u64 (ya : Int), .int .u64 (za : Int)], .int .i64 k] W (RetNum W (n / 2 ^ sh k))) := fun k W => by rw [← ea]; exact numShr_any n k W hn
  rw [ea]
  clear ea qa1 qa0 hn
  go_enter Tryd.func10, Tryd.ntmps10
  go_wp2_with fail
  go_loopw [4, 5] (fun v i wr => ∃ k : Nat, k ≤ 16 ∧ i = .int .i64 (15 - (k : Int)) ∧ Hid (wr.ownsRow (w.heap.size + 1) 5 1 v k (byL n k) ∧ wr.heap[w.heap.size]? = some (.cells #[.int .u64 (ya : Int), .int .u64 (za : Int)] 24 (0, 0)) ∧ Below w.heap.size w wr)) (fun _ i _ => (RowKit.intOf i + 1).toNat)
  case atStart => exact ⟨0, Nat.zero_le _, rfl, ⟨rfl, .inl ⟨rfl, rfl⟩⟩, heap_new _ _, (by repeat (first | exact Below.refl _ _ | assumption | refine Below.drew ?_ | refine Below.alloc ?_ (by first | omega | (simp <;> omega)) _ | refine Below.setCell ?_ (by first | omega | (simp <;> omega)) _ | refine Below.trans ?_ (Below.mono (by assumption) (by first | omega | (simp <;> omega)))))⟩
  case round =>
    obtain ⟨k, hk, rfl, HK⟩ := hrel
    obtain ⟨h1, h2, h3⟩ := HK.out
    have hlw := lt_of_block h2
    by_cases h16 : k < 16
    · have c0 : wr.cell? ⟨w.heap.size, 0, none⟩ = some (.int .u64 (ya : Int)) := by simp [World.cell?, h2]
      have c1 : wr.cell? ⟨w.heap.size, 1, none⟩ = some (.int .u64 (za : Int)) := by simp [World.cell?, h2]
      obtain ⟨i, hi⟩ : ∃ i : Int, 15 - (k : Int) = i := ⟨_, rfl⟩
      have hi0 : 0 ≤ i := by omega
      have hi1 : ¬ i < 0 := by omega
      have hw : wrap64 (8 * i) = 8 * i := (by unfold wrap64; omega)
      have hsh : sh (8 * i) = 8 * (15 - k) := by unfold sh; omega
      obtain ⟨m, hm⟩ : ∃ m, n / 2 ^ sh (8 * i) = m := ⟨_, rfl⟩
      have HS1 := HS0.out (8 * i)
      rw [hm] at HS1
      obtain ⟨y2, z2, e2, -, q2⟩ := numV_parts m
      unfold RetNum at HS1
      rw [e2] at HS1
      have hb : IntKind.u8.wrap (z2 : Int) = (byV n k : Int) := by
        show ((z2 : Int)) % 256 = _
        unfold byV
        rw [← hsh, hm, q2]
        unfold B
        omega
      have HS := Lib.hid HS1
      rw [hi]
      have HI := Lib.hid hi
      have HLW := Lib.hid hlw
      obtain ⟨x, hx⟩ : ∃ x, byV n k = x := ⟨_, rfl⟩
      rw [hx] at hb
      have HX := Lib.hid hx
      clear hx HS1 e2 q2 hm hsh h1 h2 h3 hi hlw
      have hfl : ∀ W, (Instr.field 24 (.agg #[.int .u64 (y2 : Int), .int .u64 (z2 : Int)]) 1).run Tryd.prog W = .ok (.int .u64 (z2 : Int)) W := fun W => field_lo2 _ _ W
      go_wp2_with (first
        | (go_at_call 37; (with_reducible refine (HS.out _).mono ?_); rintro e w1 ⟨rfl, hb1⟩; have HB1 := Lib.hid hb1; have HO1 := Lib.hid ((own_below HK.out.1 hb1).alloc (.cells #[.int .u8 (x : Int)] 5)); have hcell : (w1.alloc (.cells #[.int .u8 (x : Int)] 5)).cell? ⟨w1.heap.size, 0, none⟩ = some (.int .u8 (x : Int)) := (by simp [go_sem]); have hz1 : w.heap.size + 1 ≤ w1.heap.size := (by have := hb1.size; have := HLW.out; omega); clear hb1)
        | (refine append_byte rfl (.tmp 14) (.tmp 21) rfl (w.heap.size + 1) _ k (byL n k) rfl HO1.out w1.heap.size (x : Int) rfl hcell (by omega) (by simp; omega) ?_; intro v2 w2 hown hgrow; have HOWN := Lib.hid hown; have HGR := Lib.hid hgrow; clear hown hgrow))
      have hg : (w1.alloc (.cells #[.int .u8 (x : Int)] 5)).grownBy w2 u4.ownBlock := HGR.out
      have hz : wr.heap.size ≤ w1.heap.size := HB1.out.size
      have hbl : ∀ j, u4.ownBlock = some j → w.heap.size + 1 ≤ j := fun j e => (HK.out.1.lt j e).1
      refine ⟨⟨k + 1, h16, ?_, ?_, ?_, ?_⟩, ?_⟩
      · rw [show wrap64 (i - 1) = 15 - ((k + 1 : Nat) : Int) by have := HI.out; unfold wrap64; omega]
      · rw [byL_snoc, HX.out]; exact HOWN.out
      · rw [hg.block _ (by simp; omega) (fun e => by have := hbl _ e.symm; omega), Below.heap_alloc _ _ _ (by omega), HB1.out.block _ HLW.out]
        exact HK.out.2.1
      · exact ((HK.out.2.2.trans (HB1.out.mono HK.out.2.2.size)).alloc (by have := HK.out.2.2.size; omega) (.cells #[.int .u8 (x : Int)] 5)).grown hg (by have := HK.out.2.2.size; rw [World.size_alloc]; omega) (fun j e => by have := hbl j e; omega)
      · have := HI.out
        simp only [RowKit.intOf, wrap64]
        omega
    · obtain rfl : k = 16 := by omega
      go_wp2_with fail
      go_ret
      exact ⟨_, rfl, own_mono h1 (Nat.le_succ _), h3⟩

set_option maxRecDepth 100000 in
set_option maxHeartbeats 2000000 in
theorem from_any (n : Nat) (hn : n < B * B) (g cap : Nat) (w : World) (hc : ∀ j, j < 16 → w.cell? ⟨g, j, none⟩ = some (.int .u8 (byV n j : Int))) : Calls Tryd.prog 9 #[.slice (some ⟨g, 0, none⟩) 16 cap] w (RetNum w n) := by
  have HC := Lib.hid hc
  have hg : g < w.heap.size := by
    have := hc 0 (by decide)
    exact block_lt_of_cell this
  have HN := Lib.hid hn
  clear hc hn
  go_enter Tryd.func9, Tryd.ntmps9
  go_wp2_with fail
  go_loopw [7] (fun i wr => ∃ k : Nat, k ≤ 16 ∧ i = .int .i64 (k : Int) ∧ Hid (wr.heap[w.heap.size]? = some (.cells #[.int .u64 ((acc n k / B : Nat) : Int), .int .u64 ((acc n k % B : Nat) : Int)] 24 (0, 0)) ∧ Below w.heap.size w wr)) (fun i _ => 16 - (RowKit.intOf i).toNat)
  case atStart =>
    refine ⟨0, Nat.zero_le _, rfl, ?_, (by repeat (first | exact Below.refl _ _ | assumption | refine Below.drew ?_ | refine Below.alloc ?_ (by first | omega | (simp <;> omega)) _ | refine Below.setCell ?_ (by first | omega | (simp <;> omega)) _ | refine Below.trans ?_ (Below.mono (by assumption) (by first | omega | (simp <;> omega)))))⟩
    rw [heap_new, acc_zero HN.out]
    rfl
  case round =>
    obtain ⟨k, hk, rfl, HK⟩ := hrel
    obtain ⟨h2, h3⟩ := HK.out
    have hlw := lt_of_block h2
    have f0 : ∀ j, wr.frozen? ⟨w.heap.size, j, none⟩ = false := fun j => by simp [World.frozen?, h2]
    have HF0 := Lib.hid f0
    by_cases h16 : k < 16
    · have cx := (h3.cell (p := ⟨g, k, none⟩) hg).trans (HC.out k h16)
      have hstep := acc_step HN.out h16
      have hx256 := byV_lt n k
      obtain ⟨x, hx⟩ : ∃ x, byV n k = x := ⟨_, rfl⟩
      rw [hx] at cx hstep hx256
      obtain ⟨y, z, ey, qy, qz⟩ := numV_parts (acc n k)
      rw [← qy, ← qz] at h2
      have c0 : wr.cell? ⟨w.heap.size, 0, none⟩ = some (.int .u64 (y : Int)) := by simp [World.cell?, h2]
      have c1 : wr.cell? ⟨w.heap.size, 1, none⟩ = some (.int .u64 (z : Int)) := by simp [World.cell?, h2]
      have H1 : ∀ W, Calls Tryd.prog 35 #[numV (acc n k), .int .i64 8, .int .i64 128] W (RetNum W (acc n k * 2 ^ sh 8 % (B * B) % 2 ^ sh 128)) := fun W => numShl_any _ 8 128 W (acc_lt HN.out k)
      have H2 : ∀ W, Calls Tryd.prog 15 #[.int .u64 (x : Int)] W (RetNum W x) := fun W => numOf_any x (by unfold B; omega) W
      obtain ⟨m, hm⟩ : ∃ m, acc n k * 2 ^ sh 8 % (B * B) % 2 ^ sh 128 = m := ⟨_, rfl⟩
      rw [hm] at hstep H1
      have hmB : m < B * B := by rw [← hm]; exact Nat.lt_of_le_of_lt (Nat.mod_le _ _) (Nat.mod_lt _ (Nat.mul_pos B_pos B_pos))
      have H3 : ∀ W, Calls Tryd.prog 28 #[numV m, numV x] W (RetNum W (m ||| x)) := fun W => numOr_any m x W hmB (Nat.lt_of_lt_of_le (show x < B by unfold B; omega) (Nat.le_mul_of_pos_left _ B_pos))
      rw [hstep] at H3
      obtain ⟨y2, z2, e2, q2, r2⟩ := numV_parts (acc n (k + 1))
      unfold RetNum at H1 H2 H3
      rw [ey] at H1
      rw [e2] at H3
      have hcv : IntKind.u64.wrap (x : Int) = (x : Int) := by
        show ((x : Int)) % 18446744073709551616 = _
        omega
      have HS1 := Lib.hid H1
      have HS2 := Lib.hid H2
      have HS3 := Lib.hid H3
      have HQ := Lib.hid (And.intro q2 r2)
      have HB2 := Lib.hid h2
      have HB3 := Lib.hid h3
      clear H1 H2 H3 e2 q2 r2 hstep hm hmB ey qy qz hx hx256 h2 h3
      have hk16 : (k : Int) < 16 := by omega
      go_wp2_with (first
        | (go_at_call 35; (with_reducible refine (HS1.out _).mono ?_); rintro e w1 ⟨rfl, hb1⟩; have HX1 := Lib.hid hb1; clear hb1)
        | (go_at_call 15; (with_reducible refine (HS2.out _).mono ?_); rintro e w2 ⟨rfl, hb2⟩; have HX2 := Lib.hid hb2; clear hb2)
        | (go_at_call 28; (with_reducible refine (HS3.out _).mono ?_); rintro e w3 ⟨rfl, hb3⟩; have HX3 := Lib.hid ((HX1.out.trans (HX2.out.mono HX1.out.size)).trans (hb3.mono (Nat.le_trans HX1.out.size HX2.out.size))); clear hb3; have b3 := Lib.hid ((HX3.out.block w.heap.size hlw).trans HB2.out); have g3 : ∀ j, w3.frozen? ⟨w.heap.size, j, none⟩ = false := (fun j => by simp [World.frozen?, b3.out]); have k0 : w3.cell? ⟨w.heap.size, 0, none⟩ = some (.int .u64 (y : Int)) := (by simp [World.cell?, b3.out]); have k1 : w3.cell? ⟨w.heap.size, 1, none⟩ = some (.int .u64 (z : Int)) := (by simp [World.cell?, b3.out])))
      refine ⟨⟨k + 1, h16, ?_, ?_, ?_⟩, ?_⟩
      · rfl
      · rw [heap_setCell_same _ _ _ _ _ _ (heap_setCell_same _ _ _ _ _ _ b3.out), ← HQ.out.1, ← HQ.out.2]; simp
      · exact (((HB3.out.trans (HX3.out.mono HB3.out.size)).setCell (by show w.heap.size ≤ w.heap.size; omega) _).setCell (by show w.heap.size ≤ w.heap.size; omega) _)
      · simp only [RowKit.intOf]
        omega
    · obtain rfl : k = 16 := by omega
      rw [acc_end] at h2
      obtain ⟨y, z, ey, qy, qz⟩ := numV_parts n
      rw [← qy, ← qz] at h2
      have c0 : wr.cell? ⟨w.heap.size, 0, none⟩ = some (.int .u64 (y : Int)) := by simp [World.cell?, h2]
      have c1 : wr.cell? ⟨w.heap.size, 1, none⟩ = some (.int .u64 (z : Int)) := by simp [World.cell?, h2]
      have HE := Lib.hid ey
      have HB3 := Lib.hid h3
      clear ey qy qz h2 h3
      go_wp2_with fail
      exact bodyPost_ret (v := .agg #[.int .u64 (y : Int), .int .u64 (z : Int)]) (by simp [results, Tryd.results9, go_sem, c0, c1, f0]) rfl ⟨by rw [HE.out], (HB3.out.setCell (by show w.heap.size ≤ w.heap.size; omega) _).setCell (by show w.heap.size ≤ w.heap.size; omega) _⟩

end Go.Proofs.YtfalhemeiengcaaDoor

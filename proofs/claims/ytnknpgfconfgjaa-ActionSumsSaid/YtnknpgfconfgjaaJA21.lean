/-
  The law ActionSums of layer 21: the walk.
-/
import Derived.Test.YtnknpgfconfgjaaJA19
import Derived.Test.YtnknpgfconfgjaaJA20

namespace Go.Proofs.Ytnknpgfconfgjaa
open Go.RowKit Go.Maps

theorem width_in (wI : Int) : 1 ≤ wrap64 (1 + wrap64 ((IntKind.u64.wrap wI).tmod 128)) ∧ wrap64 (1 + wrap64 ((IntKind.u64.wrap wI).tmod 128)) ≤ 128 := by
  rw [IntKind.wrap_u64]
  have h0 : 0 ≤ wI % 18446744073709551616 := by omega
  rw [Int.tmod_eq_emod_of_nonneg h0]
  unfold wrap64
  omega
theorem part_in (k W : Int) (h1 : 1 ≤ W) (h2 : W ≤ 128) : 0 ≤ wrap64 ((IntKind.u64.wrap k).tmod (IntKind.u64.wrap W)) ∧ wrap64 ((IntKind.u64.wrap k).tmod (IntKind.u64.wrap W)) < W := by
  rw [IntKind.wrap_u64, IntKind.wrap_u64]
  have e : W % 18446744073709551616 = W := by omega
  rw [e]
  have h0 : 0 ≤ k % 18446744073709551616 := by omega
  rw [Int.tmod_eq_emod_of_nonneg h0]
  have a1 := Int.emod_nonneg (k % 18446744073709551616) (show W ≠ 0 by omega)
  have a2 := Int.emod_lt_of_pos (k % 18446744073709551616) (show 0 < W by omega)
  unfold wrap64
  omega

/-- Code's value, by the law's closure. -/
theorem of_of {l : List Nd} {r : Nat} (hr : RunsTo l r) (gp gx gc cap : Nat) (W : World) (t : TypeId) (hp : W.cell? ⟨gp, 0, none⟩ = some (.pointer (some ⟨gx, 0, none⟩))) (h : W.heap[gc]? = some (.cells (l.flatMap Nd.cells).toArray t (0, 0))) (h0 : 0 < l.length) :
    Calls Try.prog 8 #[.slice (some ⟨gc, 0, none⟩) l.length cap, .pointer (some ⟨gp, 0, none⟩)] W (RetNum W r) := by
  obtain ⟨sts, kr, hr⟩ := hr
  exact of_any hr gp gx gc cap W hp (CodeAt.of_block h) h0
theorem of_cells {l : List Nd} {r : Nat} (hr : RunsTo l r) (gp gx gc cap : Nat) (W : World) (hp : W.cell? ⟨gp, 0, none⟩ = some (.pointer (some ⟨gx, 0, none⟩))) (h : ∀ (i : Nat) (u : Value), (l.flatMap Nd.cells)[i]? = some u → W.cell? ⟨gc, i, none⟩ = some u) (h0 : 0 < l.length) :
    Calls Try.prog 8 #[.slice (some ⟨gc, 0, none⟩) l.length cap, .pointer (some ⟨gp, 0, none⟩)] W (RetNum W r) := by
  obtain ⟨sts, kr, hr⟩ := hr
  refine of_any hr gp gx gc cap W hp (fun i hi j v hv => ?_) h0
  have hw : CodeAt (W.alloc (.cells (l.flatMap Nd.cells).toArray 0)) W.heap.size l.length (ndL l) := CodeAt.of_block (heap_new W _)
  have h2 := hw i hi j v hv
  have h3 : (l.flatMap Nd.cells)[i * 6 + j]? = some v := by
    have hb := heap_new W (.cells (l.flatMap Nd.cells).toArray 0)
    simp only [World.cell?, hb] at h2
    simpa using h2
  exact h _ _ h3

set_option maxRecDepth 100000 in
set_option maxHeartbeats 16000000 in
theorem law21 (a b : Nat) (wI k : Int) (w : World) (ha : a < B * B) (hb : b < B * B) :
    Calls Try.prog 3 #[numV a, numV b, .int .i64 wI, .int .i64 k] w fun e w' => e = .returned (.bool true) ∧ Below w.heap.size w w' := by
  obtain ⟨Wi, hWi⟩ : ∃ Wi, wrap64 (1 + wrap64 ((IntKind.u64.wrap wI).tmod 128)) = Wi := ⟨_, rfl⟩
  obtain ⟨b1, b2⟩ := width_in wI
  rw [hWi] at b1 b2
  obtain ⟨ji, hji⟩ : ∃ ji, wrap64 ((IntKind.u64.wrap k).tmod (IntKind.u64.wrap Wi)) = ji := ⟨_, rfl⟩
  obtain ⟨b3, b4⟩ := part_in k Wi b1 b2
  rw [hji] at b3 b4
  have HWI := Lib.hid hWi
  have HJI := Lib.hid hji
  clear hWi hji
  obtain ⟨W, rfl⟩ := Int.eq_ofNat_of_zero_le (show 0 ≤ Wi by omega)
  obtain ⟨j, rfl⟩ := Int.eq_ofNat_of_zero_le b3
  have hsW : sh (W : Int) = W := by unfold sh; omega
  -- the numbers
  obtain ⟨m, hm⟩ : ∃ m, m = a % 2 ^ sh (W : Int) := ⟨_, rfl⟩
  obtain ⟨n, hn⟩ : ∃ n, n = b % 2 ^ sh (W : Int) := ⟨_, rfl⟩
  have hml : m < 2 ^ sh (W : Int) := by rw [hm]; exact Nat.mod_lt _ (Nat.two_pow_pos _)
  have hnl : n < 2 ^ sh (W : Int) := by rw [hn]; exact Nat.mod_lt _ (Nat.two_pow_pos _)
  have HA1 : ∀ W', Calls Try.prog 7 #[numV a, .int .i64 (W : Int)] W' (RetNum W' m) := fun W' => by rw [hm]; exact refCut_any a _ ha W'
  have HA2 : ∀ W', Calls Try.prog 7 #[numV b, .int .i64 (W : Int)] W' (RetNum W' n) := fun W' => by rw [hn]; exact refCut_any b _ hb W'
  have HC1 : ∀ gw W', W'.cell? ⟨gw, 0, none⟩ = some (.int .i64 (W : Int)) → Calls Try.prog 6 #[numV a, .pointer (some ⟨gw, 0, none⟩)] W' fun e w' => e = .returned (Nd.val ⟨1, W, 0, 0, m⟩) ∧ Below W'.heap.size W' w' := fun gw W' h => by rw [hm]; exact c_any gw a W W' ha h
  have HC2 : ∀ gw W', W'.cell? ⟨gw, 0, none⟩ = some (.int .i64 (W : Int)) → Calls Try.prog 6 #[numV b, .pointer (some ⟨gw, 0, none⟩)] W' fun e w' => e = .returned (Nd.val ⟨1, W, 0, 0, n⟩) ∧ Below W'.heap.size W' w' := fun gw W' h => by rw [hn]; exact c_any gw b W W' hb h
  have HAD : ∀ W', Calls Try.prog 10 #[numV m, numV n, .int .i64 (W : Int)] W' (RetNum W' ((m + n) % 2 ^ 128 % 2 ^ sh (W : Int))) := fun W' => refAdd_any m n W (lt_BB hml) (lt_BB hnl) W'
  have HSU : ∀ W', Calls Try.prog 11 #[numV m, numV n, .int .i64 (W : Int)] W' (RetNum W' (subN m n W)) := fun W' => refSub_any m n W (lt_BB hml) (lt_BB hnl) W'
  have R1 := run_add hml hnl
  have R2 := run_sub hml hnl
  have R3 := run_notnot hml
  have R4 := run_neg hml
  have R5 := run_lt hml hnl
  have R6 := run_lenot hml hnl
  have R7 : 0 < j → RunsTo [cN W m, ⟨9, (W : Int) - j, (W : Int) - 1, j, 0⟩, cN W m, ⟨9, j, (j : Int) - 1, 0, 0⟩, ⟨10, W, 0, 0, 0⟩] m := fun h => run_cat (by omega) h (by omega) (by rw [← hsW]; exact hml)
  generalize (m + n) % 2 ^ 128 % 2 ^ sh (W : Int) = r1 at *
  generalize subN m n W = r2 at *
  generalize oneN (decide (m < n)) = r5 at *
  unfold cN at R1 R2 R3 R4 R5 R6 R7
  clear hm hn
  obtain ⟨ay, az, hea, qay, qaz⟩ := numV_parts a
  obtain ⟨bY, bZ, heb, qby, qbz⟩ := numV_parts b
  obtain ⟨my, mz, hem, qmy, qmz⟩ := numV_parts m
  obtain ⟨ny, nz, hen, qny, qnz⟩ := numV_parts n
  obtain ⟨r1y, r1z, he1, q1y, q1z⟩ := numV_parts r1
  obtain ⟨r2y, r2z, he2, q2y, q2z⟩ := numV_parts r2
  obtain ⟨r5y, r5z, he5, q5y, q5z⟩ := numV_parts r5
  obtain ⟨Wi, hWi⟩ : ∃ Wi : Int, Wi = (W : Int) := ⟨_, rfl⟩
  obtain ⟨ji, hji⟩ : ∃ ji : Int, ji = (j : Int) := ⟨_, rfl⟩
  obtain ⟨Wj, hWj⟩ : ∃ Wj : Int, Wj = Wi - ji := ⟨_, rfl⟩
  obtain ⟨W1, hW1⟩ : ∃ W1 : Int, W1 = Wi - 1 := ⟨_, rfl⟩
  obtain ⟨j1, hj1⟩ : ∃ j1 : Int, j1 = ji - 1 := ⟨_, rfl⟩
  -- what the calls tell
  have HCUTA : Hid (∀ W', Calls Try.prog 7 #[.agg #[.int .u64 (ay : Int), .int .u64 (az : Int)], .int .i64 Wi] W' fun e w' => e = .returned (.agg #[.int .u64 (my : Int), .int .u64 (mz : Int)]) ∧ Below W'.heap.size W' w') := fun W' => by
    have h := HA1 W'
    unfold RetNum at h
    rw [hea, hem, ← hWi] at h
    exact h
  have HCUTB : Hid (∀ W', Calls Try.prog 7 #[.agg #[.int .u64 (bY : Int), .int .u64 (bZ : Int)], .int .i64 Wi] W' fun e w' => e = .returned (.agg #[.int .u64 (ny : Int), .int .u64 (nz : Int)]) ∧ Below W'.heap.size W' w') := fun W' => by
    have h := HA2 W'
    unfold RetNum at h
    rw [heb, hen, ← hWi] at h
    exact h
  have HCA0 : Hid (∀ gw W', W'.cell? ⟨gw, 0, none⟩ = some (.int .i64 Wi) → Calls Try.prog 6 #[.agg #[.int .u64 (ay : Int), .int .u64 (az : Int)], .pointer (some ⟨gw, 0, none⟩)] W' fun e w' => e = .returned (.agg #[.int .u8 1, .int .i64 Wi, .int .i64 0, .int .i64 0, .int .u64 (my : Int), .int .u64 (mz : Int)]) ∧ Below W'.heap.size W' w') := fun gw W' hw => by
    rw [hWi] at hw
    have h := HC1 gw W' hw
    unfold Nd.val nodeV at h
    dsimp only at h
    rw [hea, ← qmy, ← qmz, ← hWi] at h
    exact h
  have HCB0 : Hid (∀ gw W', W'.cell? ⟨gw, 0, none⟩ = some (.int .i64 Wi) → Calls Try.prog 6 #[.agg #[.int .u64 (bY : Int), .int .u64 (bZ : Int)], .pointer (some ⟨gw, 0, none⟩)] W' fun e w' => e = .returned (.agg #[.int .u8 1, .int .i64 Wi, .int .i64 0, .int .i64 0, .int .u64 (ny : Int), .int .u64 (nz : Int)]) ∧ Below W'.heap.size W' w') := fun gw W' hw => by
    rw [hWi] at hw
    have h := HC2 gw W' hw
    unfold Nd.val nodeV at h
    dsimp only at h
    rw [heb, ← qny, ← qnz, ← hWi] at h
    exact h
  have HADD : Hid (∀ W', Calls Try.prog 10 #[.agg #[.int .u64 (my : Int), .int .u64 (mz : Int)], .agg #[.int .u64 (ny : Int), .int .u64 (nz : Int)], .int .i64 Wi] W' fun e w' => e = .returned (.agg #[.int .u64 (r1y : Int), .int .u64 (r1z : Int)]) ∧ Below W'.heap.size W' w') := fun W' => by
    have h := HAD W'
    unfold RetNum at h
    rw [hem, hen, he1, ← hWi] at h
    exact h
  have HSUB : Hid (∀ W', Calls Try.prog 11 #[.agg #[.int .u64 (my : Int), .int .u64 (mz : Int)], .agg #[.int .u64 (ny : Int), .int .u64 (nz : Int)], .int .i64 Wi] W' fun e w' => e = .returned (.agg #[.int .u64 (r2y : Int), .int .u64 (r2z : Int)]) ∧ Below W'.heap.size W' w') := fun W' => by
    have h := HSU W'
    unfold RetNum at h
    rw [hem, hen, he2, ← hWi] at h
    exact h
  have HOF1x : Hid (∀ gP gx W' gc, W'.cell? ⟨gP, 0, none⟩ = some (.pointer (some ⟨gx, 0, none⟩)) → W'.heap[gc]? = some (.cells #[.int .u8 1, .int .i64 Wi, .int .i64 0, .int .i64 0, .int .u64 (my : Int), .int .u64 (mz : Int), .int .u8 1, .int .i64 Wi, .int .i64 0, .int .i64 0, .int .u64 (ny : Int), .int .u64 (nz : Int), .int .u8 11, .int .i64 Wi, .int .i64 0, .int .i64 0, .int .u64 0, .int .u64 0] 33 (0, 0)) → Calls Try.prog 8 #[.slice (some ⟨gc, 0, none⟩) 3 3, .pointer (some ⟨gP, 0, none⟩)] W' fun e w' => e = .returned (.agg #[.int .u64 (r1y : Int), .int .u64 (r1z : Int)]) ∧ Below W'.heap.size W' w') := fun gP gx W' gc h1 h2 => by
    rw [qmy, qmz, qny, qnz, hWi] at h2
    have h := of_of R1 gP gx gc 3 W' _ h1 (by simpa [Nd.cells] using h2) (by simp)
    unfold RetNum at h
    rw [he1] at h
    exact h
  have HOF2x : Hid (∀ gP gx W' gc, W'.cell? ⟨gP, 0, none⟩ = some (.pointer (some ⟨gx, 0, none⟩)) → W'.heap[gc]? = some (.cells #[.int .u8 1, .int .i64 Wi, .int .i64 0, .int .i64 0, .int .u64 (my : Int), .int .u64 (mz : Int), .int .u8 1, .int .i64 Wi, .int .i64 0, .int .i64 0, .int .u64 (ny : Int), .int .u64 (nz : Int), .int .u8 12, .int .i64 Wi, .int .i64 0, .int .i64 0, .int .u64 0, .int .u64 0] 33 (0, 0)) → Calls Try.prog 8 #[.slice (some ⟨gc, 0, none⟩) 3 3, .pointer (some ⟨gP, 0, none⟩)] W' fun e w' => e = .returned (.agg #[.int .u64 (r2y : Int), .int .u64 (r2z : Int)]) ∧ Below W'.heap.size W' w') := fun gP gx W' gc h1 h2 => by
    rw [qmy, qmz, qny, qnz, hWi] at h2
    have h := of_of R2 gP gx gc 3 W' _ h1 (by simpa [Nd.cells] using h2) (by simp)
    unfold RetNum at h
    rw [he2] at h
    exact h
  have HOF3x : Hid (∀ gP gx W' gc, W'.cell? ⟨gP, 0, none⟩ = some (.pointer (some ⟨gx, 0, none⟩)) → W'.heap[gc]? = some (.cells #[.int .u8 1, .int .i64 Wi, .int .i64 0, .int .i64 0, .int .u64 (my : Int), .int .u64 (mz : Int), .int .u8 7, .int .i64 Wi, .int .i64 0, .int .i64 0, .int .u64 0, .int .u64 0, .int .u8 7, .int .i64 Wi, .int .i64 0, .int .i64 0, .int .u64 0, .int .u64 0] 33 (0, 0)) → Calls Try.prog 8 #[.slice (some ⟨gc, 0, none⟩) 3 3, .pointer (some ⟨gP, 0, none⟩)] W' fun e w' => e = .returned (.agg #[.int .u64 (my : Int), .int .u64 (mz : Int)]) ∧ Below W'.heap.size W' w') := fun gP gx W' gc h1 h2 => by
    rw [qmy, qmz, hWi] at h2
    have h := of_of R3 gP gx gc 3 W' _ h1 (by simpa [Nd.cells] using h2) (by simp)
    unfold RetNum at h
    rw [hem] at h
    exact h
  have HOF4x : Hid (∀ gP gx W' gc, W'.cell? ⟨gP, 0, none⟩ = some (.pointer (some ⟨gx, 0, none⟩)) → W'.heap[gc]? = some (.cells #[.int .u8 1, .int .i64 Wi, .int .i64 0, .int .i64 0, .int .u64 (my : Int), .int .u64 (mz : Int), .int .u8 8, .int .i64 Wi, .int .i64 0, .int .i64 0, .int .u64 0, .int .u64 0, .int .u8 1, .int .i64 Wi, .int .i64 0, .int .i64 0, .int .u64 (my : Int), .int .u64 (mz : Int), .int .u8 11, .int .i64 Wi, .int .i64 0, .int .i64 0, .int .u64 0, .int .u64 0] 33 (0, 0)) → Calls Try.prog 8 #[.slice (some ⟨gc, 0, none⟩) 4 4, .pointer (some ⟨gP, 0, none⟩)] W' fun e w' => e = .returned (.agg #[.int .u64 0, .int .u64 0]) ∧ Below W'.heap.size W' w') := fun gP gx W' gc h1 h2 => by
    rw [qmy, qmz, hWi] at h2
    have h := of_of R4 gP gx gc 4 W' _ h1 (by simpa [Nd.cells] using h2) (by simp)
    unfold RetNum at h
    exact h
  have HOF5x : Hid (∀ gP gx W' gc, W'.cell? ⟨gP, 0, none⟩ = some (.pointer (some ⟨gx, 0, none⟩)) → W'.heap[gc]? = some (.cells #[.int .u8 1, .int .i64 Wi, .int .i64 0, .int .i64 0, .int .u64 (my : Int), .int .u64 (mz : Int), .int .u8 1, .int .i64 Wi, .int .i64 0, .int .i64 0, .int .u64 (ny : Int), .int .u64 (nz : Int), .int .u8 19, .int .i64 1, .int .i64 0, .int .i64 0, .int .u64 0, .int .u64 0] 33 (0, 0)) → Calls Try.prog 8 #[.slice (some ⟨gc, 0, none⟩) 3 3, .pointer (some ⟨gP, 0, none⟩)] W' fun e w' => e = .returned (.agg #[.int .u64 (r5y : Int), .int .u64 (r5z : Int)]) ∧ Below W'.heap.size W' w') := fun gP gx W' gc h1 h2 => by
    rw [qmy, qmz, qny, qnz, hWi] at h2
    have h := of_of R5 gP gx gc 3 W' _ h1 (by simpa [Nd.cells] using h2) (by simp)
    unfold RetNum at h
    rw [he5] at h
    exact h
  have HOF6x : Hid (∀ gP gx W' gc, W'.cell? ⟨gP, 0, none⟩ = some (.pointer (some ⟨gx, 0, none⟩)) → W'.heap[gc]? = some (.cells #[.int .u8 1, .int .i64 Wi, .int .i64 0, .int .i64 0, .int .u64 (ny : Int), .int .u64 (nz : Int), .int .u8 1, .int .i64 Wi, .int .i64 0, .int .i64 0, .int .u64 (my : Int), .int .u64 (mz : Int), .int .u8 20, .int .i64 1, .int .i64 0, .int .i64 0, .int .u64 0, .int .u64 0, .int .u8 7, .int .i64 1, .int .i64 0, .int .i64 0, .int .u64 0, .int .u64 0] 33 (0, 0)) → Calls Try.prog 8 #[.slice (some ⟨gc, 0, none⟩) 4 4, .pointer (some ⟨gP, 0, none⟩)] W' fun e w' => e = .returned (.agg #[.int .u64 (r5y : Int), .int .u64 (r5z : Int)]) ∧ Below W'.heap.size W' w') := fun gP gx W' gc h1 h2 => by
    rw [qmy, qmz, qny, qnz, hWi] at h2
    have h := of_of R6 gP gx gc 4 W' _ h1 (by simpa [Nd.cells] using h2) (by simp)
    unfold RetNum at h
    rw [he5] at h
    exact h
  have HOF7x : Hid (0 < ji → ∀ gP gx W' gc cap, W'.cell? ⟨gP, 0, none⟩ = some (.pointer (some ⟨gx, 0, none⟩)) → (∀ (i : Nat) (u : Value), ([.int .u8 1, .int .i64 Wi, .int .i64 0, .int .i64 0, .int .u64 (my : Int), .int .u64 (mz : Int), .int .u8 9, .int .i64 Wj, .int .i64 W1, .int .i64 ji, .int .u64 0, .int .u64 0] ++ [.int .u8 1, .int .i64 Wi, .int .i64 0, .int .i64 0, .int .u64 (my : Int), .int .u64 (mz : Int), .int .u8 9, .int .i64 ji, .int .i64 j1, .int .i64 0, .int .u64 0, .int .u64 0] ++ [.int .u8 10, .int .i64 Wi, .int .i64 0, .int .i64 0, .int .u64 0, .int .u64 0])[i]? = some u → W'.cell? ⟨gc, i, none⟩ = some u) → Calls Try.prog 8 #[.slice (some ⟨gc, 0, none⟩) 5 cap, .pointer (some ⟨gP, 0, none⟩)] W' fun e w' => e = .returned (.agg #[.int .u64 (my : Int), .int .u64 (mz : Int)]) ∧ Below W'.heap.size W' w') := fun hj gP gx W' gc cap h1 h2 => by
    rw [hW1, hWj, hj1, qmy, qmz, hWi, hji] at h2
    have h := of_cells (R7 (by omega)) gP gx gc cap W' h1 (by simpa [Nd.cells] using h2) (by simp)
    unfold RetNum at h
    rw [hem] at h
    exact h
  have c1 : 1 ≤ Wi := by omega
  have c2 : Wi ≤ 128 := by omega
  have c3 : 0 ≤ ji := by omega
  have c4 : ji < Wi := by omega
  have HHW : Hid (wrap64 (1 + wrap64 ((IntKind.u64.wrap wI).tmod 128)) = Wi) := by rw [hWi]; exact HWI.out
  have HHJ : Hid (wrap64 ((IntKind.u64.wrap k).tmod (IntKind.u64.wrap Wi)) = ji) := by rw [hWi, hji]; exact HJI.out
  have hd1 : IntKind.i64.wrap (Wi - ji) = Wj := by rw [hWj]; exact IntWalk.i64_in _ (by omega)
  have hd2 : IntKind.i64.wrap (Wi - 1) = W1 := by rw [hW1]; exact IntWalk.i64_in _ (by omega)
  have hd3 : ji - 1 = j1 := hj1.symm
  have HD1 := Lib.hid hd1
  have HD2 := Lib.hid hd2
  have HD3 := Lib.hid hd3
  rw [hea, heb]
  clear HWI HJI b1 b2 b3 b4 hsW HA1 HA2 HC1 HC2 HAD HSU R1 R2 R3 R4 R5 R6 R7 hea heb hem hen he1 he2 he5 qay qaz qby qbz qmy qmz qny qnz q1y q1z q2y q2z q5y q5z hWi hWj hW1 hj1 hd1 hd2 hd3 ha hb hml hnl
  clear hji
  go_enter Try.func3, Try.ntmps3
  go_wp2_with fail
  case isTrue h =>
    exfalso
    rw [HHW.out, IntKind.wrap_u64] at h
    omega
  rw [HHW.out, HHJ.out]
  obtain ⟨W0, hW0⟩ : ∃ W0, W0 = ((((w.alloc (.cells #[.int .u64 (ay : Int), .int .u64 (az : Int)] 24)).alloc (.cells #[.int .u64 (bY : Int), .int .u64 (bZ : Int)] 24)).alloc (.cells #[.int .i64 Wi] 3)).alloc (.cells #[.int .i64 0, .slice none 0 0, .slice none 0 0, .slice none 0 0, .slice none 0 0, .bool false, .bool false, .int .i64 0, .bool false] 31)).alloc (.cells #[.pointer (some ⟨w.heap.size + 1 + 1 + 1, 0, none⟩)] 25) := ⟨_, rfl⟩
  have HB0 : Hid (Below w.heap.size w W0) := by show Below _ _ _; rw [hW0]; exact (by repeat (first | exact Below.refl _ _ | assumption | refine Below.drew ?_ | refine Below.alloc ?_ (by first | omega | (simp <;> omega)) _ | refine Below.setCell ?_ (by first | omega | (simp <;> omega)) _ | refine Below.trans ?_ (Below.mono (by assumption) (by first | omega | (simp <;> omega)))))
  have hz0 : W0.heap.size = w.heap.size + 1 + 1 + 1 + 1 + 1 := by rw [hW0]; simp
  have HX0 : Hid (W0.cell? ⟨w.heap.size, 0, none⟩ = some (.int .u64 (ay : Int)) ∧ W0.cell? ⟨w.heap.size, 1, none⟩ = some (.int .u64 (az : Int)) ∧ W0.cell? ⟨w.heap.size + 1, 0, none⟩ = some (.int .u64 (bY : Int)) ∧ W0.cell? ⟨w.heap.size + 1, 1, none⟩ = some (.int .u64 (bZ : Int)) ∧ W0.cell? ⟨w.heap.size + 1 + 1, 0, none⟩ = some (.int .i64 Wi) ∧ W0.cell? ⟨w.heap.size + 1 + 1 + 1 + 1, 0, none⟩ = some (.pointer (some ⟨w.heap.size + 1 + 1 + 1, 0, none⟩))) := by
    show _ ∧ _
    rw [hW0]
    refine ⟨?_, ?_, ?_, ?_, ?_, ?_⟩ <;> simp [go_sem]
  rw [← hW0]
  clear hW0
  have HC6 : Hid (∀ W', Below W0.heap.size W0 W' → W'.cell? ⟨w.heap.size, 0, none⟩ = some (.int .u64 (ay : Int)) ∧ W'.cell? ⟨w.heap.size, 1, none⟩ = some (.int .u64 (az : Int)) ∧ W'.cell? ⟨w.heap.size + 1, 0, none⟩ = some (.int .u64 (bY : Int)) ∧ W'.cell? ⟨w.heap.size + 1, 1, none⟩ = some (.int .u64 (bZ : Int)) ∧ W'.cell? ⟨w.heap.size + 1 + 1, 0, none⟩ = some (.int .i64 Wi)) := fun W' hb => by
    obtain ⟨x0, x1, x2, x3, x4, -⟩ := HX0.out
    exact ⟨(hb.cell (cell_there x0).1).trans x0, (hb.cell (cell_there x1).1).trans x1, (hb.cell (cell_there x2).1).trans x2, (hb.cell (cell_there x3).1).trans x3, (hb.cell (cell_there x4).1).trans x4⟩
  refine sreg6 w.heap.size (w.heap.size + 1) (w.heap.size + 1 + 1) ay az bY bZ my mz ny nz Wi HCUTA HCUTB W0 HC6 _ _ _ _ _ _ _ _ _ _ _ _ _ _ _ _ _ _ _ _ _ _ _ _ _ _ _ _ _ _ _ _ _ _ _ _ _ _ _ _ _ _ _ _ _ _ _ _ _ _ _ _ _ _ _ _ _ _ _ _ _ _ _ _ _ _ _ _ _ _ _ _ _ _ _ _ _ _ _ _ _ _ _ _ _ _ _ _ _ _ _ _ _ _ _ _ _ _ _ _ _ _ _ _ _ _ _ _ _ _ _ _ _ _ _ _ _ _ _ _ _ _ _ _ _ _ _ _ _ _ _ _ _ _ _ _ _ _ _ _ _ _ _ _ _ _ _ _ _ _ _ _ _ _ _ _ _ _ _ ?_
  intro gM gN _ _ _ _ _ _ w3 hB3 f0 e0 f1 e1
  dsimp only
  have HB3 := Lib.hid hB3
  have HE0 := Lib.hid e0
  have HE1 := Lib.hid e1
  have hz3 := hB3.size
  have k4 := (HC6.out w3 hB3).2.2.2.2
  clear hB3 e0 e1 HC6 HCUTA HCUTB
  go_wp2_with fail
  obtain ⟨W4, hW4⟩ : ∃ W4, W4 = w3.alloc (.cells #[.int .u8 7, .int .i64 Wi, .int .i64 0, .int .i64 0, .int .u64 0, .int .u64 0] 33) := ⟨_, rfl⟩
  obtain ⟨gD, hgD⟩ : ∃ gD, gD = w3.heap.size := ⟨_, rfl⟩
  have HS4 : Hid (Below w.heap.size w W4 ∧ W4.cell? ⟨w.heap.size, 0, none⟩ = some (.int .u64 (ay : Int)) ∧ W4.cell? ⟨w.heap.size, 1, none⟩ = some (.int .u64 (az : Int)) ∧ W4.cell? ⟨w.heap.size + 1, 0, none⟩ = some (.int .u64 (bY : Int)) ∧ W4.cell? ⟨w.heap.size + 1, 1, none⟩ = some (.int .u64 (bZ : Int)) ∧ W4.cell? ⟨w.heap.size + 1 + 1, 0, none⟩ = some (.int .i64 Wi) ∧ W4.cell? ⟨w.heap.size + 1 + 1 + 1 + 1, 0, none⟩ = some (.pointer (some ⟨w.heap.size + 1 + 1 + 1, 0, none⟩)) ∧ W4.cell? ⟨gM, 0, none⟩ = some (.int .u64 (my : Int)) ∧ W4.cell? ⟨gM, 1, none⟩ = some (.int .u64 (mz : Int)) ∧ W4.cell? ⟨gN, 0, none⟩ = some (.int .u64 (ny : Int)) ∧ W4.cell? ⟨gN, 1, none⟩ = some (.int .u64 (nz : Int)) ∧ W4.cell? ⟨gD, 0, none⟩ = some (.int .u8 7) ∧ W4.cell? ⟨gD, 1, none⟩ = some (.int .i64 Wi) ∧ W4.cell? ⟨gD, 2, none⟩ = some (.int .i64 0) ∧ W4.cell? ⟨gD, 3, none⟩ = some (.int .i64 0) ∧ W4.cell? ⟨gD, 4, none⟩ = some (.int .u64 0) ∧ W4.cell? ⟨gD, 5, none⟩ = some (.int .u64 0)) := by
    have hb4 : Below w3.heap.size w3 W4 := by rw [hW4]; exact (Below.refl _ _).alloc (Nat.le_refl _) _
    have hd : W4.heap[gD]? = some (.cells #[.int .u8 7, .int .i64 Wi, .int .i64 0, .int .i64 0, .int .u64 0, .int .u64 0] 33 (0, 0)) := by rw [hW4, hgD]; exact heap_new w3 _
    have hb34 : Below W0.heap.size W0 W4 := HB3.out.trans (hb4.mono hz3)
    have hM := (hb4.block gM (lt_of_block HE0.out)).trans HE0.out
    have hN := (hb4.block gN (lt_of_block HE1.out)).trans HE1.out
    obtain ⟨x0, x1, x2, x3, x4, x5⟩ := HX0.out
    refine ⟨HB0.out.trans (hb34.mono (by omega)), (hb34.cell (cell_there x0).1).trans x0, (hb34.cell (cell_there x1).1).trans x1, (hb34.cell (cell_there x2).1).trans x2, (hb34.cell (cell_there x3).1).trans x3, (hb34.cell (cell_there x4).1).trans x4, (hb34.cell (cell_there x5).1).trans x5, ?_, ?_, ?_, ?_, ?_, ?_, ?_, ?_, ?_, ?_⟩ <;> simp [World.cell?, hM, hN, hd]
  rw [← hgD, ← hW4]
  clear k4 hW4 hgD HX0 HB0 HB3 HE0 HE1 f0 f1 hz3 hz0
  have HCA := Lib.hid (HCA0.out (w.heap.size + 1 + 1))
  have HCB := Lib.hid (HCB0.out (w.heap.size + 1 + 1))
  have HOF1 := Lib.hid (HOF1x.out (w.heap.size + 1 + 1 + 1 + 1) (w.heap.size + 1 + 1 + 1))
  have HOF2 := Lib.hid (HOF2x.out (w.heap.size + 1 + 1 + 1 + 1) (w.heap.size + 1 + 1 + 1))
  have HOF3 := Lib.hid (HOF3x.out (w.heap.size + 1 + 1 + 1 + 1) (w.heap.size + 1 + 1 + 1))
  have HOF4 := Lib.hid (HOF4x.out (w.heap.size + 1 + 1 + 1 + 1) (w.heap.size + 1 + 1 + 1))
  have HOF5 := Lib.hid (HOF5x.out (w.heap.size + 1 + 1 + 1 + 1) (w.heap.size + 1 + 1 + 1))
  have HOF6 := Lib.hid (HOF6x.out (w.heap.size + 1 + 1 + 1 + 1) (w.heap.size + 1 + 1 + 1))
  refine sreg8 w.heap.size (w.heap.size + 1) (w.heap.size + 1 + 1) (w.heap.size + 1 + 1 + 1 + 1) (w.heap.size + 1 + 1 + 1) gM gN gD ay az bY bZ my mz ny nz r1y r1z r2y r2z r5y r5z Wi w W4 HS4 HCA HCB HADD HSUB HOF1 HOF2 HOF3 HOF4 _ _ _ _ _ _ _ _ _ _ _ _ _ _ _ _ _ _ _ _ _ _ _ _ _ _ _ _ _ _ _ _ _ _ _ _ _ _ _ _ _ _ _ _ _ _ _ _ _ _ _ _ _ _ _ _ _ _ _ _ _ _ _ _ _ _ _ _ _ _ _ _ _ _ _ _ _ _ _ _ _ _ _ _ _ _ _ _ _ _ _ _ _ _ _ _ _ _ _ _ _ _ _ _ _ _ _ _ _ _ _ _ _ _ _ _ _ _ _ _ _ _ _ _ _ _ _ _ _ _ _ _ _ _ _ _ _ _ _ _ _ _ _ _ _ _ _ _ _ _ _ _ _ ?_
  intro _ _ _ _ _ _ _ _ _ _ _ _ _ _ _ _ _ _ _ _ _ _ _ _ _ _ _ _ _ _ _ _ _ _ _ _ _ _ _ _ _ _ _ _ _ _ _ _ _ _ _ _ _ _ _ _ _ _ _ _ _ _ w5 hS5
  have HS5 := Lib.hid hS5
  clear hS5 HADD HSUB HOF1 HOF2 HOF3 HOF4 HOF1x HOF2x HOF3x HOF4x
  dsimp only
  go_wp2_with fail
  refine sreg10 w.heap.size (w.heap.size + 1) (w.heap.size + 1 + 1) (w.heap.size + 1 + 1 + 1 + 1) (w.heap.size + 1 + 1 + 1) gM gN gD ay az bY bZ my mz ny nz r1y r1z r2y r2z r5y r5z Wi w w5 HS5 HCA HCB HOF5 HOF6 _ _ _ _ _ _ _ _ _ _ _ _ _ _ _ _ _ _ _ _ _ _ _ _ _ _ _ _ _ _ _ _ _ _ _ _ _ _ _ _ _ _ _ _ _ _ _ _ _ _ _ _ _ _ _ _ _ _ _ _ _ _ _ _ _ _ _ _ _ _ _ _ _ _ _ _ _ _ _ _ _ _ _ _ _ _ _ _ _ _ _ _ _ _ _ _ _ _ _ _ _ _ _ _ _ _ _ _ _ _ _ _ _ _ _ _ _ _ _ _ _ _ _ _ _ _ _ _ _ _ _ _ _ _ _ _ _ _ _ _ _ _ _ _ _ _ _ _ _ _ _ _ _ ?_
  intro _ _ _ _ _ _ _ _ _ _ _ _ _ _ _ _ _ _ _ _ _ w6 hS6
  have HS6 := Lib.hid hS6
  clear hS6 HOF5 HOF6 HOF5x HOF6x
  have HKN : Hid (∀ W', Calls Try.prog 12 #[] W' fun e w' => e = .returned (.bool true) ∧ Below W'.heap.size W' w') := fun W' => known21_true W'
  dsimp only
  by_cases hj0 : ji = 0
  · subst hj0
    go_wp2_with (go_at_call 12; refine (HKN.out _).mono ?_; rintro e w7 ⟨rfl, hb7⟩; have HB7 := Lib.hid hb7; clear hb7)
    go_ret
    exact ⟨rfl, HS6.out.1.trans (HB7.out.mono HS6.out.1.size)⟩
  · have hj1 : 0 < ji := by omega
    go_wp2_with fail
    refine sreg14 w.heap.size (w.heap.size + 1) (w.heap.size + 1 + 1) (w.heap.size + 1 + 1 + 1 + 1) (w.heap.size + 1 + 1 + 1) gM gN gD ay az bY bZ my mz ny nz r1y r1z r2y r2z r5y r5z Wi ji Wj W1 w w6 HS6 HCA HCB HD1.out HD2.out _ _ _ _ _ _ _ _ _ _ _ _ _ _ _ _ _ _ _ _ _ _ _ _ _ _ _ _ _ _ _ _ _ _ _ _ _ _ _ _ _ _ _ _ _ _ _ _ _ _ _ _ _ _ _ _ _ _ _ _ _ _ _ _ _ _ _ _ _ _ _ _ _ _ _ _ _ _ _ _ _ _ _ _ _ _ _ _ _ _ _ _ _ _ _ _ _ _ _ _ _ _ _ _ _ _ _ _ _ _ _ _ _ _ _ _ _ _ _ _ _ _ _ _ _ _ _ _ _ _ _ _ _ _ _ _ _ _ _ _ _ _ _ _ _ _ _ _ _ _ _ _ ?_
    intro _ _ _ _ _ _ _ _ _ _ g15 w7 hS7 hq7
    have HS7 := Lib.hid hS7
    have HQ7 := Lib.hid hq7
    obtain ⟨-, y0, y1, -, -, y4, -⟩ := hS7
    clear hq7
    dsimp only
    go_wp2_with (go_at_call 6; refine (HCA.out _ y4).mono ?_; rintro e w8 ⟨rfl, hb8⟩; have HB8 := Lib.hid hb8; clear hb8)
    rw [HD3.out]
    obtain ⟨W9, hW9⟩ : ∃ W9, W9 = w8.alloc (.cells #[.int .u8 1, .int .i64 Wi, .int .i64 0, .int .i64 0, .int .u64 (my : Int), .int .u64 (mz : Int), .int .u8 9, .int .i64 ji, .int .i64 j1, .int .i64 0, .int .u64 0, .int .u64 0] 33) := ⟨_, rfl⟩
    have h16 : W9.heap[w8.heap.size]? = some (.cells #[.int .u8 1, .int .i64 Wi, .int .i64 0, .int .i64 0, .int .u64 (my : Int), .int .u64 (mz : Int), .int .u8 9, .int .i64 ji, .int .i64 j1, .int .i64 0, .int .u64 0, .int .u64 0] 33 (0, 0)) := by rw [hW9]; exact heap_new w8 _
    have hb9 : Below w7.heap.size w7 W9 := by rw [hW9]; exact HB8.out.alloc HB8.out.size _
    have hl15 : g15 < w7.heap.size := lt_of_block HQ7.out.1
    rw [← hW9]
    clear hW9 y0 y1 y4
    have HS9 : Hid (Below w.heap.size w W9 ∧ W9.cell? ⟨w.heap.size, 0, none⟩ = some (.int .u64 (ay : Int)) ∧ W9.cell? ⟨w.heap.size, 1, none⟩ = some (.int .u64 (az : Int)) ∧ W9.cell? ⟨w.heap.size + 1, 0, none⟩ = some (.int .u64 (bY : Int)) ∧ W9.cell? ⟨w.heap.size + 1, 1, none⟩ = some (.int .u64 (bZ : Int)) ∧ W9.cell? ⟨w.heap.size + 1 + 1, 0, none⟩ = some (.int .i64 Wi) ∧ W9.cell? ⟨w.heap.size + 1 + 1 + 1 + 1, 0, none⟩ = some (.pointer (some ⟨w.heap.size + 1 + 1 + 1, 0, none⟩)) ∧ W9.cell? ⟨gM, 0, none⟩ = some (.int .u64 (my : Int)) ∧ W9.cell? ⟨gM, 1, none⟩ = some (.int .u64 (mz : Int)) ∧ W9.cell? ⟨gN, 0, none⟩ = some (.int .u64 (ny : Int)) ∧ W9.cell? ⟨gN, 1, none⟩ = some (.int .u64 (nz : Int)) ∧ W9.cell? ⟨gD, 0, none⟩ = some (.int .u8 7) ∧ W9.cell? ⟨gD, 1, none⟩ = some (.int .i64 Wi) ∧ W9.cell? ⟨gD, 2, none⟩ = some (.int .i64 0) ∧ W9.cell? ⟨gD, 3, none⟩ = some (.int .i64 0) ∧ W9.cell? ⟨gD, 4, none⟩ = some (.int .u64 0) ∧ W9.cell? ⟨gD, 5, none⟩ = some (.int .u64 0)) := held_16_0 hb9 HS7.out
    have H15 : Hid (W9.heap[g15]? = some (.cells #[.int .u8 1, .int .i64 Wi, .int .i64 0, .int .i64 0, .int .u64 (my : Int), .int .u64 (mz : Int), .int .u8 9, .int .i64 Wj, .int .i64 W1, .int .i64 ji, .int .u64 0, .int .u64 0] 33 (0, 0))) := (hb9.block _ hl15).trans HQ7.out.1
    have HG15 : Hid (w6.heap.size ≤ g15 ∧ w6.heap.size ≤ W9.heap.size) := ⟨HQ7.out.2, Nat.le_trans (Nat.le_trans HQ7.out.2 (Nat.le_of_lt hl15)) hb9.size⟩
    have H16 := Lib.hid h16
    have HOF7 := Lib.hid (HOF7x.out hj1 (w.heap.size + 1 + 1 + 1 + 1) (w.heap.size + 1 + 1 + 1))
    clear h16 hb9
    refine sreg16 w.heap.size (w.heap.size + 1) (w.heap.size + 1 + 1) (w.heap.size + 1 + 1 + 1 + 1) (w.heap.size + 1 + 1 + 1) gM gN gD ay az bY bZ my mz ny nz r1y r1z r2y r2z r5y r5z Wi g15 w8.heap.size W1 Wj ji j1 w6 w W9 HS9 HOF7 HKN HS6 HG15 H15 H16 _ _ _ _ _ _ _ _ _ _ _ _ _ _ _ _ _ _ _ _ _ _ _ _ _ _ _ _ _ _ _ _ _ _ _ _ _ _ _ _ _ _ _ _ _ _ _ _ _ _ _ _ _ _ _ _ _ _ _ _ _ _ _ _ _ _ _ _ _ _ _ _ _ _ _ _ _ _ _ _ _ _ _ _ _ _ _ _ _ _ _ _ _ _ _ _ _ _ _ _ _ _ _ _ _ _ _ _ _ _ _ _ _ _ _ _ _ _ _ _ _ _ _ _ _ _ _ _ _ _ _ _ _ _ _ _ _ _ _ _ _ _ _ _ _ _ _ _ _ _ _ ?_
    intro _ _ _ _ _ _ _ _ _ _ _ _ _ _ w10 hS10 _
    have HB10 := Lib.hid hS10.1
    clear hS10
    dsimp only
    go_wp2_with fail
    go_ret
    exact ⟨rfl, HB10.out⟩

end Go.Proofs.Ytnknpgfconfgjaa

/-
  Layer 2: contracts of Where, of the program and of the document.
-/
import Derived.Test.YtnahjgiihddofaaDoorTextP
import Derived.Test.YtnahjgiihddofaaDoorShelf
import Derived.Test.YtnahjgiihddofaaDoorLib
namespace Go.Proofs.YtnahjgiihddofaaDoor
open Go.RowKit Go.Lib

/-- A place, as a value. -/
def plV (p : Nat × Nat) : Value := .agg #[.int .i64 (p.1 : Int), .int .i64 (p.2 : Int)]

theorem w64 {x : Int} (h0 : -9223372036854775808 ≤ x) (h1 : x ≤ 9223372036854775807) : wrap64 x = x := by unfold wrap64; omega

theorem ext_take (s : ByteArray) (n : Nat) : (s.extract 0 n).data.toList = s.data.toList.take n := by
  rw [ByteArray.data_extract, Array.toList_extract]
  simp [List.extract]
theorem ext_size (s : ByteArray) {n : Nat} (h : n ≤ s.size) : (s.extract 0 n).size = n := by
  rw [ByteArray.size_extract]; omega
theorem size_list (s : ByteArray) : s.data.toList.length = s.size := by rw [Array.length_toList]; rfl

set_option maxRecDepth 100000 in
set_option maxHeartbeats 1000000 in
theorem where_any (s : ByteArray) (k : Int) (w : World) (hs : s.size ≤ 400) :
    Calls Tryd.prog 8 #[.string s, .int .i64 k] w fun e w' => e = .returned (plV (whereP s.data.toList k)) ∧ Below w.heap.size w w' := by
  obtain ⟨n, hn, hle⟩ : ∃ n : Nat, max 0 (min k (s.size : Int)) = (n : Int) ∧ n ≤ s.size := ⟨(max 0 (min k (s.size : Int))).toNat, by omega, by omega⟩
  have hc : cutN s.data.toList k = n := by unfold cutN; rw [size_list]; omega
  have HN := Lib.hid hn
  have h0 : 0 ≤ max 0 (min k (s.size : Int)) := by omega
  have h2 : max 0 (min k (s.size : Int)) ≤ (s.size : Int) := by omega
  clear hn
  go_enter Tryd.func8, Tryd.ntmps8
  go_wp2_with (first
    | (go_at_call 18; refine (Tryd.strings_LastIndexByte _ _ ?_ _).mono ?_; (simp only [ByteArray.size_extract]; omega); rintro e w1 ⟨rfl, rfl⟩)
    | (go_at_call 19; refine (Tryd.strings_Count_one _ _ _).mono ?_; rintro e w1 ⟨rfl, rfl⟩))
  have e2 : (max 0 (min k (s.size : Int))).toNat = n := by rw [HN.out]; rfl
  have hx := posP_last (s.extract 0 n) n (by rw [ext_size s hle]; exact Nat.le_refl _)
  have hl : lastIndexByte (s.extract 0 n) 10 = lastIdx (s.extract 0 n) 10 n := by unfold lastIndexByte; rw [ext_size s hle]
  rw [ext_take, List.take_take, Nat.min_self] at hx
  have hp := posP_count (s.data.toList.take n)
  have hb := posP_le (s.data.toList.take n)
  have hb1 := posP_pos (s.data.toList.take n)
  have hlen : (s.data.toList.take n).length = n := by rw [List.length_take, size_list]; omega
  rw [hlen] at hb
  have hcb : countByte (s.data.toList.take n) 10 = (s.data.toList.take n).count 10 := rfl
  have r1 : wrap64 (((countByte (s.data.toList.take n) 10 : Nat) : Int) + 1) = ((posP (s.data.toList.take n)).1 : Int) := by rw [w64 (by omega) (by omega), hcb, hp]; rfl
  have r2 : wrap64 (wrap64 ((n : Int) - wrap64 (lastIdx (s.extract 0 n) 10 n + 1)) + 1) = ((posP (s.data.toList.take n)).2 : Int) := by
    rw [w64 (x := lastIdx (s.extract 0 n) 10 n + 1) (by omega) (by omega), w64 (x := (n : Int) - _) (by omega) (by omega), w64 (by omega) (by omega)]; omega
  refine bodyPost_ret (v := plV (whereP s.data.toList k)) ?_ rfl ⟨rfl, (by repeat (first | exact Below.refl _ _ | assumption | refine Below.drew ?_ | refine Below.alloc ?_ (by first | omega | (simp <;> omega)) _ | refine Below.setCell ?_ (by first | omega | (simp <;> omega)) _ | refine Below.trans ?_ (Below.mono (by assumption) (by first | omega | (simp <;> omega)))))⟩
  unfold plV whereP
  rw [hc, e2, HN.out, hl, r1, r2]
  simp [results, Tryd.results8, go_sem]

end Go.Proofs.YtnahjgiihddofaaDoor

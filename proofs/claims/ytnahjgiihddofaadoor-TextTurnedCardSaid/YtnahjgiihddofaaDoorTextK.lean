/-
  Layer 2: the words.
-/
import Derived.Test.YtnahjgiihddofaaDoorTextR
namespace Go.Proofs.YtnahjgiihddofaaDoor
open Go.RowKit Go.Lib

def wordsB : List ByteArray := [⟨#[111, 107]⟩, ⟨#[110, 105, 108]⟩, ⟨#[97, 114, 103]⟩, ⟨#[108, 111, 110, 103]⟩, ⟨#[102, 111, 114, 109]⟩, ⟨#[111, 118, 101, 114]⟩, ⟨#[100, 101, 101, 112]⟩, ⟨#[110, 111, 110, 101]⟩, ⟨#[116, 119, 105, 99, 101]⟩, ⟨#[107, 105, 110, 100]⟩, ⟨#[119, 105, 100, 116, 104]⟩, ⟨#[99, 121, 99, 108, 101]⟩, ⟨#[102, 117, 108, 108]⟩, ⟨#[115, 104, 111, 114, 116]⟩, ⟨#[115, 116, 97, 116, 101]⟩, ⟨#[115, 117, 109]⟩]
def wordB (e : Int) : ByteArray := if 0 ≤ e ∧ e < 16 then wordsB.getD e.toNat ⟨#[]⟩ else (⟨#[111, 116, 104, 101, 114]⟩ : ByteArray)
theorem wordB_in {n : Nat} (h : n < 16) : wordB (n : Int) = wordsB.getD n ⟨#[]⟩ := by unfold wordB; rw [if_pos ⟨by omega, by omega⟩]; rfl
theorem wordB_out {e : Int} (h : ¬ (0 ≤ e ∧ e < 16)) : wordB e = (⟨#[111, 116, 104, 101, 114]⟩ : ByteArray) := by unfold wordB; rw [if_neg h]
def WordsAt (w : World) (g : Nat) : Prop := w.heap[g]? = some (.cells #[.string ⟨#[111, 107]⟩, .string ⟨#[110, 105, 108]⟩, .string ⟨#[97, 114, 103]⟩, .string ⟨#[108, 111, 110, 103]⟩, .string ⟨#[102, 111, 114, 109]⟩, .string ⟨#[111, 118, 101, 114]⟩, .string ⟨#[100, 101, 101, 112]⟩, .string ⟨#[110, 111, 110, 101]⟩, .string ⟨#[116, 119, 105, 99, 101]⟩, .string ⟨#[107, 105, 110, 100]⟩, .string ⟨#[119, 105, 100, 116, 104]⟩, .string ⟨#[99, 121, 99, 108, 101]⟩, .string ⟨#[102, 117, 108, 108]⟩, .string ⟨#[115, 104, 111, 114, 116]⟩, .string ⟨#[115, 116, 97, 116, 101]⟩, .string ⟨#[115, 117, 109]⟩] 9 (0, 0))
theorem words_cell {w : World} {g n : Nat} (h : WordsAt w g) (hn : n < 16) : w.cell? ⟨g, n, none⟩ = some (.string (wordsB.getD n ⟨#[]⟩)) := by
  unfold WordsAt at h
  match n, hn with
  | 0, _ => simp [World.cell?, h, wordsB]
  | 1, _ => simp [World.cell?, h, wordsB]
  | 2, _ => simp [World.cell?, h, wordsB]
  | 3, _ => simp [World.cell?, h, wordsB]
  | 4, _ => simp [World.cell?, h, wordsB]
  | 5, _ => simp [World.cell?, h, wordsB]
  | 6, _ => simp [World.cell?, h, wordsB]
  | 7, _ => simp [World.cell?, h, wordsB]
  | 8, _ => simp [World.cell?, h, wordsB]
  | 9, _ => simp [World.cell?, h, wordsB]
  | 10, _ => simp [World.cell?, h, wordsB]
  | 11, _ => simp [World.cell?, h, wordsB]
  | 12, _ => simp [World.cell?, h, wordsB]
  | 13, _ => simp [World.cell?, h, wordsB]
  | 14, _ => simp [World.cell?, h, wordsB]
  | 15, _ => simp [World.cell?, h, wordsB]
  | n + 16, hn => omega

set_option maxRecDepth 100000 in
set_option maxHeartbeats 1000000 in
theorem nth_any (e : Int) (g : Nat) (w : World) (HW : Hid (WordsAt w g)) : Calls Tryd.prog 22 #[.int .i64 e, .slice (some ⟨g, 0, none⟩) 16 16] w fun r w' => r = .returned (.string (wordB e)) ∧ Below w.heap.size w w' := by
  go_enter Tryd.func22, Tryd.ntmps22
  by_cases h0 : e < 0
  · rw [wordB_out (by omega)]
    go_wp2_with fail
    exact bodyPost_ret (v := .string (⟨#[111, 116, 104, 101, 114]⟩ : ByteArray)) (by simp [results, Tryd.results22, go_sem]) rfl ⟨rfl, (by repeat (first | exact Below.refl _ _ | assumption | refine Below.drew ?_ | refine Below.alloc ?_ (by first | omega | (simp <;> omega)) _ | refine Below.setCell ?_ (by first | omega | (simp <;> omega)) _ | refine Below.trans ?_ (Below.mono (by assumption) (by first | omega | (simp <;> omega)))))⟩
  · obtain ⟨n, rfl⟩ := Int.eq_ofNat_of_zero_le (by omega : 0 ≤ e)
    by_cases h1 : n < 16
    · have hc := words_cell HW.out h1
      rw [wordB_in h1]
      have hi : (n : Int) < 16 := by omega
      go_wp2_with fail
      refine bodyPost_ret (v := .string (wordsB.getD n ⟨#[]⟩)) (by simp [results, Tryd.results22, go_sem]) rfl ⟨rfl, (by repeat (first | exact Below.refl _ _ | assumption | refine Below.drew ?_ | refine Below.alloc ?_ (by first | omega | (simp <;> omega)) _ | refine Below.setCell ?_ (by first | omega | (simp <;> omega)) _ | refine Below.trans ?_ (Below.mono (by assumption) (by first | omega | (simp <;> omega)))))⟩
    · rw [wordB_out (by omega)]
      have hi : ¬ (n : Int) < 16 := by omega
      go_wp2_with fail
      exact bodyPost_ret (v := .string (⟨#[111, 116, 104, 101, 114]⟩ : ByteArray)) (by simp [results, Tryd.results22, go_sem]) rfl ⟨rfl, (by repeat (first | exact Below.refl _ _ | assumption | refine Below.drew ?_ | refine Below.alloc ?_ (by first | omega | (simp <;> omega)) _ | refine Below.setCell ?_ (by first | omega | (simp <;> omega)) _ | refine Below.trans ?_ (Below.mono (by assumption) (by first | omega | (simp <;> omega)))))⟩

set_option maxRecDepth 100000 in
set_option maxHeartbeats 1000000 in
theorem word_any (e : Int) (w : World) : Calls Tryd.prog 14 #[.int .i64 e] w fun r w' => r = .returned (.string (wordB e)) ∧ Below w.heap.size w w' := by
  go_enter Tryd.func14, Tryd.ntmps14
  go_wp2_with (first
    | (go_at_call 22; refine (nth_any e _ _ (Lib.hid (heap_one _ _))).mono ?_; rintro r w1 ⟨rfl, hb⟩))
  have hb1 : Below w.heap.size w w1 := ((Below.refl _ _).alloc (Nat.le_refl _) _).trans (hb.mono (by simp))
  exact bodyPost_ret (v := .string (wordB e)) (by simp [results, Tryd.results14, go_sem]) rfl ⟨rfl, hb1⟩

set_option maxRecDepth 100000 in
set_option maxHeartbeats 1000000 in
theorem refWord_any (e : Int) (w : World) : Calls Tryd.prog 15 #[.int .i64 e] w fun r w' => r = .returned (.string (wordB e)) ∧ Below w.heap.size w w' := by
  go_enter Tryd.func15, Tryd.ntmps15
  go_wp2_with fail
  go_loopw [4] (fun i wr => ∃ j : Nat, j ≤ 16 ∧ i = .int .i64 j ∧ Hid ((∀ t : Nat, t < j → e ≠ t) ∧ WordsAt wr w.heap.size ∧ Below w.heap.size w wr)) (fun i _ => 16 - (RowKit.intOf i).toNat)
  case atStart => exact ⟨0, Nat.zero_le _, rfl, fun t h => by omega, heap_one _ _, (by repeat (first | exact Below.refl _ _ | assumption | refine Below.drew ?_ | refine Below.alloc ?_ (by first | omega | (simp <;> omega)) _ | refine Below.setCell ?_ (by first | omega | (simp <;> omega)) _ | refine Below.trans ?_ (Below.mono (by assumption) (by first | omega | (simp <;> omega)))))⟩
  case round =>
    obtain ⟨j, hj, rfl, HJ⟩ := hrel
    by_cases hlt : j < 16
    · have hi : (j : Int) < 16 := by omega
      have hc := words_cell HJ.out.2.1 hlt
      by_cases he : e = j
      · subst he
        go_wp2_with fail
        exact bodyPost_ret (v := .string (wordsB.getD j ⟨#[]⟩)) (by simp [results, Tryd.results15, go_sem]) rfl ⟨by rw [wordB_in hlt], HJ.out.2.2⟩
      · have HN : Hid ((∀ t : Nat, t < j + 1 → e ≠ t) ∧ WordsAt wr w.heap.size ∧ Below w.heap.size w wr) := ⟨fun t ht => by by_cases q : t = j; rw [q]; exact he; exact HJ.out.1 t (by omega), HJ.out.2⟩
        go_wp2_with fail
        exact ⟨⟨j + 1, hlt, rfl, HN⟩, by show 16 - (((j : Int) + 1)).toNat < 16 - ((j : Int)).toNat; omega⟩
    · obtain rfl : j = 16 := by omega
      have hw : wordB e = (⟨#[111, 116, 104, 101, 114]⟩ : ByteArray) := wordB_out fun ⟨a, b⟩ => HJ.out.1 e.toNat (by omega) (by omega)
      go_wp2_with fail
      exact bodyPost_ret (v := .string (⟨#[111, 116, 104, 101, 114]⟩ : ByteArray)) (by simp [results, Tryd.results15, go_sem]) rfl ⟨by rw [hw], HJ.out.2.2⟩

end Go.Proofs.YtnahjgiihddofaaDoor

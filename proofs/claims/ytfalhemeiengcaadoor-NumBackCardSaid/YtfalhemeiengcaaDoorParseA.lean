/-
  Contract of num.Parse at any text of at most 60 bytes.
-/
import Derived.Test.YtfalhemeiengcaaDoorParseG
import Derived.Test.YtfalhemeiengcaaDoorBackP
import Derived.Shelf.Strings.CaseAny
namespace Go.Proofs.YtfalhemeiengcaaDoor
open Go.RowKit Go.Maps Go.Lib

theorem encode_le4 (z : Int) : (Lib.encodeRune z).length ≤ 4 := by
  unfold Lib.encodeRune Lib.encodeRuneZ
  rw [List.length_map]
  repeat' split
  all_goals simp
/-- strings.Map makes a string at most four times as long (after the kit's worked text of the toy letters). -/
theorem mapD_len4 (f : Int → Int) : ∀ (n : Nat) (l : List UInt8), l.length ≤ n → (Lib.mapD f l).length ≤ 4 * l.length
  | 0, l, hn => by
    have : l = [] := List.eq_nil_of_length_eq_zero (by omega)
    subst this
    simp [Lib.mapD_nil]
  | n + 1, l, hn => by
    by_cases hne : l = []
    · subst hne
      simp [Lib.mapD_nil]
    · have hw := Lib.decodeL_width l
      have hle := Lib.decodeL_le l hne
      have ih := mapD_len4 f n (l.drop (Lib.decodeL l).2) (by rw [List.length_drop]; omega)
      rw [List.length_drop] at ih
      rw [Lib.mapD_step f l hne, List.length_append]
      have hh : (if 0 ≤ f (Lib.decodeL l).1 then Lib.encodeRune (f (Lib.decodeL l).1) else []).length ≤ 4 := by
        split
        · exact encode_le4 _
        · simp
      omega

/-- The two tables that ToLower reads. -/
def Tabs (w : World) : Prop := CaseVar (Tryd.lays159_ren.g 13) caseA w ∧ Lib.Utf8Tabs (Tryd.lays159_ren.g 3) (Tryd.lays159_ren.g 4) w
theorem Tabs.below {w W : World} (h : Tabs w) (hb : Below w.heap.size w W) : Tabs W := by
  have key : ∀ {p : Addr} {v : Value}, w.cell? p = some v → W.cell? p = some v := fun {p v} hc => (hb.cell (block_lt_of_cell hc)).trans hc
  obtain ⟨⟨R, oR, cap, h1, h2⟩, h3, h4⟩ := h
  refine ⟨⟨R, oR, cap, key h1, fun i hi => ?_⟩, fun c hc => key (h3 c hc), fun i hi => ⟨key (h4 i hi).1, key (h4 i hi).2⟩⟩
  obtain ⟨a1, a2, a3, a4, a5⟩ := h2 i hi
  exact ⟨key a1, key a2, key a3, key a4, key a5⟩

theorem dig10 : ∀ c ∈ D10.data.toList, c.toNat < 128 ∧ 0 ≤ indexByte D10.data.toList c ∧ indexByte D10.data.toList c < 100 := by decide
theorem dig16 : ∀ c ∈ D16.data.toList, c.toNat < 128 ∧ 0 ≤ indexByte D16.data.toList c ∧ indexByte D16.data.toList c < 100 := by decide
theorem allDig_of {D t : ByteArray} (hD : ∀ c ∈ D.data.toList, c.toNat < 128 ∧ 0 ≤ indexByte D.data.toList c ∧ indexByte D.data.toList c < 100) (h : trimS t.data.toList D.data.toList = []) : AllDig D t := by
  intro i hi
  have hm : (t[i]'hi) ∈ t.data.toList := by
    show t.data[i]'hi ∈ t.data.toList
    simp
  exact hD _ (List.contains_iff_mem.1 (trim_nil.1 h _ hm))

theorem size_toList (s : ByteArray) : s.data.toList.length = s.size := by rw [Array.length_toList]; rfl

/-- What is known of a text that was parsed. -/
def ParseLaw (s : ByteArray) (y : Nat) (f : Int) : Prop :=
  y < B * B ∧ (f = 0 → 0 < s.size ∧ (s.data.toList.head? = some 48 ∨ (IsLen y s.size ∧ dN y s.size = s.data.toList)))

theorem parseLaw_err (s : ByteArray) (f : Int) (h : f ≠ 0) : ParseLaw s 0 f := ⟨Nat.mul_pos B_pos B_pos, fun e => absurd e h⟩

theorem fold_lt (y : Nat) (D t : ByteArray) : (foldN y D t.data.toList).1 < B * B := foldN_lt y D t.data.toList (0, true) (Nat.mul_pos B_pos B_pos)

theorem parse_any (s : ByteArray) (w : World) (hs : s.size ≤ 60) (hT : Tabs w) :
    ∃ (y : Nat) (f : Int), ParseLaw s y f ∧ Calls Tryd.prog 7 #[.string s] w fun e w' => e = .returned (.tuple #[numV y, .int .i64 f]) ∧ Below w.heap.size w w' := by
  have hsl := size_toList s
  by_cases hp : hasPrefix s.data.toList [48, 120] = true
  · -- behind 0x
    have hhead : s.data.toList.head? = some 48 := by
      unfold hasPrefix at hp
      rw [List.isPrefixOf_iff_prefix] at hp
      obtain ⟨r, hr⟩ := hp
      rw [← hr]; rfl
    have hpos : 0 < s.size := by
      rw [← hsl]
      cases hq : s.data.toList with
      | nil => rw [hq] at hhead; cases hhead
      | cons a l => simp
    obtain ⟨r0, hr0⟩ : ∃ r : ByteArray, r = ⟨(trimPrefix s.data.toList [48, 120]).toArray⟩ := ⟨_, rfl⟩
    have hrl : r0.data.toList = trimPrefix s.data.toList [48, 120] := by rw [hr0]
    have hrn : r0.data.toList.length ≤ 60 := by
      rw [hrl]; unfold trimPrefix; rw [if_pos hp]
      have h2 : (List.drop [48, 120].length s.data.toList).length ≤ s.data.toList.length := List.Sublist.length_le (List.drop_sublist _ _)
      rw [hsl] at h2
      exact Nat.le_trans h2 hs
    have hrz : r0.size ≤ 60 := by rw [← size_toList]; exact hrn
    obtain ⟨t, ht⟩ : ∃ t : ByteArray, t = ⟨(Lib.toLowerD r0.data.toList).toArray⟩ := ⟨_, rfl⟩
    have htz : t.size < 1000 := by
      have h4 := mapD_len4 Lib.toLowerU _ r0.data.toList (Nat.le_refl _)
      rw [← size_toList, ht]
      show (Lib.toLowerD r0.data.toList).toArray.toList.length < 1000
      unfold Lib.toLowerD
      simp only
      omega
    have hL : ∀ W, Below w.heap.size w W → Calls Tryd.prog 44 #[.string ⟨(trimPrefix s.data.toList [48, 120]).toArray⟩] W fun e w' => e = .returned (.string t) ∧ Below W.heap.size W w' := fun W hW => by
      rw [← hr0, ht]
      have := hT.below hW
      exact Any.strings_ToLower_any Tryd.lays159 Tryd.Builder_Extra_159 r0 W (by omega) this.1 this.2
    by_cases ht0 : t.size = 0
    · have e : t = ⟨#[]⟩ := by
        cases t with
        | mk d => have : d = #[] := Array.eq_empty_of_size_eq_zero ht0; rw [this]
      rw [e] at hL
      exact ⟨0, 4, parseLaw_err s 4 (by decide), parse_emptyH s w hp hL⟩
    · by_cases htr : trimS t.data.toList D16.data.toList = []
      · have hc := parse_hexG s w hp t htz hL (by omega) htr (allDig_of dig16 htr)
        unfold parseV at hc
        by_cases hf : (foldN 16 D16 t.data.toList).2 = true
        · rw [if_pos hf] at hc
          exact ⟨_, 0, ⟨fold_lt _ _ _, fun _ => ⟨hpos, .inl hhead⟩⟩, hc⟩
        · rw [if_neg hf] at hc
          exact ⟨0, 5, parseLaw_err s 5 (by decide), hc⟩
      · exact ⟨0, 4, parseLaw_err s 4 (by decide), parse_formH s w hp t htz hL (by omega) htr⟩
  · have hp' : hasPrefix s.data.toList [48, 120] = false := by simpa using hp
    by_cases hs0 : s.size = 0
    · have e : s = ⟨#[]⟩ := by
        cases s with
        | mk d => have : d = #[] := Array.eq_empty_of_size_eq_zero hs0; rw [this]
      subst e
      exact ⟨0, 4, parseLaw_err _ 4 (by decide), parse_emptyD w⟩
    · by_cases htr : trimS s.data.toList D10.data.toList = []
      · have hc := parse_dec s w (by omega) hp' (by omega) htr (allDig_of dig10 htr)
        unfold parseV at hc
        by_cases hf : (foldN 10 D10 s.data.toList).2 = true
        · rw [if_pos hf] at hc
          obtain ⟨e1, e2⟩ := vl_of_fold hf
          rw [e1] at hc
          have hD : ∀ c ∈ s.data.toList, IsD c := fun c hcm => isD_of_mem (trim_nil.1 htr c hcm)
          refine ⟨_, 0, ⟨e2, fun _ => ⟨by omega, ?_⟩⟩, hc⟩
          by_cases h48 : s.data.toList.head? = some 48
          · exact .inl h48
          · refine .inr ?_
            rw [← hsl]
            exact ⟨isLen_vl hD (fun e => hs0 (by rw [← hsl, e]; rfl)) h48 e2, dN_vl hD⟩
        · rw [if_neg hf] at hc
          exact ⟨0, 5, parseLaw_err s 5 (by decide), hc⟩
      · exact ⟨0, 4, parseLaw_err s 4 (by decide), parse_formD s w (by omega) hp' (by omega) htr⟩

/-- A number's text is parsed as it. -/
theorem parse_text (n K : Nat) (hn : n < B * B) (hK : IsLen n K) (w : World) :
    Calls Tryd.prog 7 #[.string ⟨(dN n K).toArray⟩] w fun e w' => e = .returned (.tuple #[numV n, .int .i64 0]) ∧ Below w.heap.size w w' := by
  obtain ⟨k1, k39, k0, kp⟩ := hK
  have hlen := dN_length n K
  have hD := dN_isD n K
  have hvl := vl_dN K n k0
  have htr : trimS (dN n K) D10.data.toList = [] := trim_nil.2 fun c hc => mem_of_isD (hD c hc)
  obtain ⟨t, ht⟩ : ∃ t : ByteArray, t = ⟨(dN n K).toArray⟩ := ⟨_, rfl⟩
  have htl : t.data.toList = dN n K := by rw [ht]
  have htz : t.size = K := by rw [← size_toList, htl, hlen]
  have hp : hasPrefix t.data.toList [48, 120] = false := by
    cases hq : hasPrefix t.data.toList [48, 120] with
    | false => rfl
    | true =>
      unfold hasPrefix at hq
      rw [List.isPrefixOf_iff_prefix] at hq
      obtain ⟨r, hr⟩ := hq
      have := hD 120 (by rw [← htl, ← hr]; simp)
      exact absurd this.2 (by decide)
  rw [← ht]
  rw [← htl] at htr
  have hc := parse_dec t w (by omega) hp (by omega) htr (allDig_of dig10 htr)
  unfold parseV at hc
  rw [htl, fold_of_vl (by rw [hvl]; exact hn), hvl] at hc
  simpa using hc

end Go.Proofs.YtfalhemeiengcaaDoor

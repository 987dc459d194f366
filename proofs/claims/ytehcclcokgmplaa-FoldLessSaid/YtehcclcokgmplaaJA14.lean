/-
  Lemmas, joined: PktM, AppR, FolD.
-/
import Derived.Test.YtehcclcokgmplaaJA11
import Derived.Test.YtehcclcokgmplaaJA13
import Derived.Test.YtehcclcokgmplaaJA01
import Derived.ArgAppend
/-
  Packets in memory: a value that reads as one; a packet in blocks of a call's own, and what writing to it does.
-/
namespace Go.Proofs.Ytehcclcokgmplaa
open Go.RowKit

/-- A row of a call's own, one of whose elements is written over. -/
theorem own_set {w : World} {base E size n g cap : Nat} {xs : List Value} (h : w.ownsRow base E size (.slice (some ⟨g, 0, none⟩) n cap) n xs) {i : Nat} (_hi : i < xs.length) (v : Value) : (w.setCell ⟨g, i, none⟩ v).ownsRow base E size (.slice (some ⟨g, 0, none⟩) n cap) n (xs.set i v) := by
  obtain ⟨hl, h | ⟨g', cap', cur, h1, h2, h3, h4, h5, h6, h7⟩⟩ := h
  · simp at h
  · simp only [Value.slice.injEq, Option.some.injEq, Addr.mk.injEq, and_true, true_and] at h1
    obtain ⟨rfl, rfl⟩ := h1
    refine ⟨by simpa using hl, .inr ⟨g, cap, _, rfl, h2, heap_setCell_same w g i cur E v h3, h4, h5, by simpa using h6, ?_⟩⟩
    rw [Array.toList_setIfInBounds, List.take_set, h7]
theorem own_far {w w' : World} {base E size n : Nat} {v : Value} {xs : List Value} (h : w.ownsRow base E size v n xs) (hk : ∀ k, v.ownBlock = some k → w'.heap[k]? = w.heap[k]?) : w'.ownsRow base E size v n xs := by
  obtain ⟨hl, h | ⟨g, cap, cur, h1, h2, h3, h4⟩⟩ := h
  · exact ⟨hl, .inl h⟩
  · exact ⟨hl, .inr ⟨g, cap, cur, h1, h2, by rw [hk g (by rw [h1]; rfl)]; exact h3, h4⟩⟩
theorem NOwn.far {w w' : World} {base : Nat} {v : Value} {l : List Nat} (h : NOwn base w v l) (hk : ∀ k, v.ownBlock = some k → w'.heap[k]? = w.heap[k]?) : NOwn base w' v l := ⟨own_far h.1 hk, h.2⟩
theorem own_size {w : World} {base E size n : Nat} {v : Value} {xs : List Value} (h : w.ownsRow base E size v n xs) {k : Nat} (hk : v.ownBlock = some k) : base ≤ k ∧ k < w.heap.size := h.lt k hk
theorem own_get {w : World} {n0 e n k : Nat} {g cap : Nat} {xs : List Value} (h : w.ownsRow n0 e k (.slice (some ⟨g, 0, none⟩) n cap) n xs) {i : Nat} {v : Value} (hv : xs[i]? = some v) : w.cell? ⟨g, i, none⟩ = some v := by
  obtain ⟨hl, h | ⟨g', cap', cur, h1, h2, h3, h4, h5, h6, h7⟩⟩ := h
  · simp at h
  · simp only [Value.slice.injEq, Option.some.injEq, Addr.mk.injEq, and_true, true_and] at h1
    obtain ⟨rfl, rfl⟩ := h1
    rw [← h7] at hv
    have hi : i < n * k := by
      have := (List.getElem?_eq_some_iff.1 hv).1
      simp at this; omega
    rw [List.getElem?_take_of_lt hi] at hv
    simp only [World.cell?, h3]
    simpa using hv
/-- A row's element's block. -/
theorem own_some {w : World} {base E size n : Nat} {v : Value} {xs : List Value} (h : w.ownsRow base E size v n xs) (hn : 0 < n) : ∃ g cap, v = .slice (some ⟨g, 0, none⟩) n cap ∧ base ≤ g ∧ g < w.heap.size ∧ n ≤ cap ∧ cap ≤ maxLen ∧ (∀ i u, xs[i]? = some u → w.cell? ⟨g, i, none⟩ = some u) ∧ (∀ i, w.frozen? ⟨g, i, none⟩ = false) := by
  obtain ⟨hl, h | ⟨g, cap, cur, h1, h2, h3, h4, h5, h6, h7⟩⟩ := h
  · omega
  · refine ⟨g, cap, h1, h2, (Array.getElem?_eq_some_iff.1 h3).1, h4, h5, fun i u hi => ?_, fun i => by simp [World.frozen?, h3]⟩
    subst h1
    exact own_get ⟨hl, .inr ⟨g, cap, cur, rfl, h2, h3, h4, h5, h6, h7⟩⟩ hi

/-- The cells of a packet's struct. -/
def pktCells (x : Pkt) (r v f m : Value) : List Value := [.int .i64 x.port, r, v, f, m, .bool x.dropped, .bool x.sent, .int .i64 x.egress, .bool x.access]
/-- The packet x lies in blocks from base on: its struct is block X. -/
structure PktB (base : Nat) (w : World) (X : Nat) (x : Pkt) (r v f m : Value) (fs : List Value) : Prop where
  st : w.heap[X]? = some (.cells (pktCells x r v f m).toArray 98 (0, 0))
  hr : w.ownsRow base 5 1 r x.rest.length (x.rest.map (Value.int .u8))
  hv : w.ownsRow base 4 1 v x.valid.length (x.valid.map Value.bool)
  hf : w.ownsRow base 52 1 f x.fields.length fs
  hfs : ∀ (i : Nat) (u : Value) (l : List Nat), fs[i]? = some u → x.fields[i]? = some l → NOwn base w u l
  hm : NOwn base w m x.metas
  lo : base ≤ X
  nd : (X :: ([r, v, f, m] ++ fs).filterMap Value.ownBlock).Nodup
theorem PktB.flen {base : Nat} {w : World} {X : Nat} {x : Pkt} {r v f m : Value} {fs : List Value} (h : PktB base w X x r v f m fs) : fs.length = x.fields.length := by have := h.hf.1; omega
/-- Another world in which the packet's blocks are the same. -/
theorem PktB.far {base : Nat} {w w' : World} {X : Nat} {x : Pkt} {r v f m : Value} {fs : List Value} (h : PktB base w X x r v f m fs) (hk : ∀ k, base ≤ k → k < w.heap.size → w'.heap[k]? = w.heap[k]?) : PktB base w' X x r v f m fs := by
  have hX : X < w.heap.size := (Array.getElem?_eq_some_iff.1 h.st).1
  refine ⟨(hk X h.lo hX).trans h.st, own_far h.hr fun k e => ?_, own_far h.hv fun k e => ?_, own_far h.hf fun k e => ?_, fun i u l h1 h2 => (h.hfs i u l h1 h2).far fun k e => ?_, h.hm.far fun k e => ?_, h.lo, h.nd⟩
  · have := own_size h.hr e; exact hk k this.1 this.2
  · have := own_size h.hv e; exact hk k this.1 this.2
  · have := own_size h.hf e; exact hk k this.1 this.2
  · have := own_size (h.hfs i u l h1 h2).1 e; exact hk k this.1 this.2
  · have := own_size h.hm.1 e; exact hk k this.1 this.2
theorem PktB.below {base : Nat} {w w' : World} {X : Nat} {x : Pkt} {r v f m : Value} {fs : List Value} (h : PktB base w X x r v f m fs) (hb : Below w.heap.size w w') : PktB base w' X x r v f m fs := h.far fun k _ hk => hb.block k hk
/-- A cell of the struct. -/
theorem PktB.cell {base : Nat} {w : World} {X : Nat} {x : Pkt} {r v f m : Value} {fs : List Value} (h : PktB base w X x r v f m fs) {i : Nat} {u : Value} (hi : (pktCells x r v f m)[i]? = some u) : w.cell? ⟨X, i, none⟩ = some u := by
  simp only [World.cell?, h.st]
  simpa using hi
theorem PktB.free {base : Nat} {w : World} {X : Nat} {x : Pkt} {r v f m : Value} {fs : List Value} (h : PktB base w X x r v f m fs) (i : Nat) : w.frozen? ⟨X, i, none⟩ = false := by simp [World.frozen?, h.st]
theorem PktB.lt {base : Nat} {w : World} {X : Nat} {x : Pkt} {r v f m : Value} {fs : List Value} (h : PktB base w X x r v f m fs) : X < w.heap.size := (Array.getElem?_eq_some_iff.1 h.st).1

/-- A scalar of the struct is written. -/
theorem PktB.put {base : Nat} {w : World} {X : Nat} {x y : Pkt} {r v f m : Value} {fs : List Value} (h : PktB base w X x r v f m fs) {i : Nat} {u : Value} (hc : (pktCells x r v f m).set i u = pktCells y r v f m) (e1 : y.rest = x.rest) (e2 : y.valid = x.valid) (e3 : y.fields = x.fields) (e4 : y.metas = x.metas) : PktB base (w.setCell ⟨X, i, none⟩ u) X y r v f m fs := by
  have hne : ∀ k, k ∈ ([r, v, f, m] ++ fs).filterMap Value.ownBlock → (w.setCell ⟨X, i, none⟩ u).heap[k]? = w.heap[k]? := fun k hk => heap_setCell_other w _ k u (fun e => (List.nodup_cons.1 h.nd).1 (by have : k = X := e; rw [this] at hk; exact hk))
  have hmem : ∀ z ∈ [r, v, f, m] ++ fs, ∀ k, z.ownBlock = some k → (w.setCell ⟨X, i, none⟩ u).heap[k]? = w.heap[k]? := fun z hz k hk => hne k (List.mem_filterMap.2 ⟨z, hz, hk⟩)
  refine ⟨?_, ?_, ?_, ?_, ?_, ?_, h.lo, h.nd⟩
  · rw [heap_setCell_same w X i _ _ u h.st, ← hc]
    simp
  · rw [e1]; exact own_far h.hr (hmem r (by simp))
  · rw [e2]; exact own_far h.hv (hmem v (by simp))
  · rw [e3]; exact own_far h.hf (hmem f (by simp))
  · intro j z l h1 h2
    rw [e3] at h2
    exact (h.hfs j z l h1 h2).far (hmem z (by simp [List.mem_of_getElem? h1]))
  · rw [e4]; exact h.hm.far (hmem m (by simp))

theorem blocks_ne {L : List Value} (h : (L.filterMap Value.ownBlock).Nodup) {a b : Nat} {z y : Value} (ha : L[a]? = some z) (hb : L[b]? = some y) (hab : a ≠ b) {g k : Nat} (hg : z.ownBlock = some g) (hk : y.ownBlock = some k) : k ≠ g := by
  rw [List.Nodup, List.pairwise_filterMap, List.pairwise_iff_getElem] at h
  obtain ⟨a1, rfl⟩ := List.getElem?_eq_some_iff.1 ha
  obtain ⟨b1, rfl⟩ := List.getElem?_eq_some_iff.1 hb
  rcases Nat.lt_or_gt_of_ne hab with q | q
  · exact (h a b a1 b1 q g hg k hk).symm
  · exact h b a b1 a1 q k hk g hg

section
variable {base : Nat} {w w' : World} {X : Nat} {x : Pkt} {r v f m : Value} {fs : List Value}
theorem PktB.nd2 (h : PktB base w X x r v f m fs) : (([r, v, f, m] ++ fs).filterMap Value.ownBlock).Nodup := (List.nodup_cons.1 h.nd).2
theorem PktB.nX (h : PktB base w X x r v f m fs) {a : Nat} {z : Value} (ha : ([r, v, f, m] ++ fs)[a]? = some z) {g : Nat} (hg : z.ownBlock = some g) : g ≠ X := fun e =>
  (List.nodup_cons.1 h.nd).1 (by rw [← e]; exact List.mem_filterMap.2 ⟨z, List.mem_of_getElem? ha, hg⟩)
/-- Only the block of the a-th row is written. -/
theorem PktB.row (h : PktB base w X x r v f m fs) {a : Nat} {z : Value} (ha : ([r, v, f, m] ++ fs)[a]? = some z) {g : Nat} (hg : z.ownBlock = some g) (hk : ∀ k, k ≠ g → w'.heap[k]? = w.heap[k]?) :
    w'.heap[X]? = some (.cells (pktCells x r v f m).toArray 98 (0, 0)) ∧ ∀ (b : Nat) (y : Value), ([r, v, f, m] ++ fs)[b]? = some y → b ≠ a → ∀ k, y.ownBlock = some k → w'.heap[k]? = w.heap[k]? :=
  ⟨(hk X (h.nX ha hg).symm).trans h.st, fun _b _y hb hab k hy => hk k (blocks_ne h.nd2 ha hb (fun e => hab e.symm) hg hy)⟩
theorem set2_other (w : World) (g i j : Nat) (a b : Value) {k : Nat} (h : k ≠ g) : ((w.setCell ⟨g, i, none⟩ a).setCell ⟨g, j, none⟩ b).heap[k]? = w.heap[k]? :=
  (heap_setCell_other _ _ k b h).trans (heap_setCell_other w _ k a h)
/-- Whether a header is valid is written. -/
theorem PktB.valid (h : PktB base w X x r v f m fs) {j : Nat} (b : Bool) (hj : j < x.valid.length) : ∃ g cap, v = .slice (some ⟨g, 0, none⟩) x.valid.length cap ∧ base ≤ g ∧ g < w.heap.size ∧ g ≠ X ∧ (x.valid.length : Int) ≤ (cap : Int) ∧
    (∀ q, w.frozen? ⟨g, q, none⟩ = false) ∧ (∃ y, w.cell? ⟨g, j, none⟩ = some y) ∧
    PktB base (w.setCell ⟨g, j, none⟩ (.bool b)) X { x with valid := x.valid.set j b } r v f m fs := by
  obtain ⟨g, cap, rfl, g1, g2, g3, g4, g5, g6⟩ := own_some h.hv (by omega)
  have ha : ([r, .slice (some ⟨g, 0, none⟩) x.valid.length cap, f, m] ++ fs)[1]? = some (.slice (some ⟨g, 0, none⟩) x.valid.length cap) := rfl
  refine ⟨g, cap, rfl, g1, g2, h.nX ha rfl, by omega, g6, ⟨_, g5 j _ (List.getElem?_eq_getElem (by simpa using hj))⟩, ?_⟩
  obtain ⟨s1, s2⟩ := h.row (w' := w.setCell ⟨g, j, none⟩ (.bool b)) ha rfl (fun q hq => heap_setCell_other w _ q _ hq)
  refine ⟨s1, own_far h.hr (s2 0 r rfl (by omega)), ?_, own_far h.hf (s2 2 f rfl (by omega)), fun a z l' h1 h2 => (h.hfs a z l' h1 h2).far (s2 (4 + a) z ?_ (by omega)), h.hm.far (s2 3 m rfl (by omega)), h.lo, h.nd⟩
  · have := own_set h.hv (i := j) (by simpa using hj) (.bool b)
    rw [← List.map_set] at this
    rw [List.length_set]; exact this
  · rw [List.getElem?_append_right (by simp)]; simpa using h1

/-- Reading. -/
theorem PktB.getValid (h : PktB base w X x r v f m fs) {j : Nat} {b : Bool} (hj : x.valid[j]? = some b) : ∃ g cap, v = .slice (some ⟨g, 0, none⟩) x.valid.length cap ∧ (x.valid.length : Int) ≤ (cap : Int) ∧ w.cell? ⟨g, j, none⟩ = some (.bool b) := by
  have hlt := (List.getElem?_eq_some_iff.1 hj).1
  obtain ⟨g, cap, rfl, g1, g2, g3, g4, g5, g6⟩ := own_some h.hv (by omega)
  exact ⟨g, cap, rfl, by omega, g5 j _ (by rw [List.getElem?_map, hj]; rfl)⟩
theorem PktB.getRow (h : PktB base w X x r v f m fs) {i : Nat} {l : List Nat} (hi : x.fields[i]? = some l) : ∃ g cap u, f = .slice (some ⟨g, 0, none⟩) x.fields.length cap ∧ (x.fields.length : Int) ≤ (cap : Int) ∧ w.cell? ⟨g, i, none⟩ = some u ∧ fs[i]? = some u ∧ NOwn base w u l := by
  have hlt := (List.getElem?_eq_some_iff.1 hi).1
  obtain ⟨g, cap, e, g1, g2, g3, g4, g5, g6⟩ := own_some h.hf (by omega)
  have hu := List.getElem?_eq_getElem (l := fs) (i := i) (by rw [h.flen]; exact hlt)
  exact ⟨g, cap, _, e, by omega, g5 i _ hu, hu, h.hfs i _ l hu hi⟩
end

end Go.Proofs.Ytehcclcokgmplaa

/-
  An append of one thing among a drawn region's operations, arm by arm, for any element type.
-/
namespace Go.Proofs.Ytehcclcokgmplaa
open Go.RowKit

theorem OutR.out_app4 {R : World → World → Prop} {ops : Array Oper} {Q : Exit → Act → World → Prop} {o : Oper} {k : Out} {l : Nat → Value} {a : Act} {w : World} {S E : TypeId} {z : Value} {size bytes : Nat} (hw : Region.wanted o (yielded ops a.tmps) = true) (H : ElemOk S E z size bytes)
    (s x : Operand) (ho : o.op = Op.call { callee := Callee.builtin Builtin.append, args := #[s, x], argTypes := #[S, S] })
    (b : Nat) (v : Value) (n : Nat) (xs : List Value) (hs : a.eval s = v) (hown : w.ownsRow b E size v n xs)
    (vx : Value) (m : Nat) (news : List Value) (hx : a.eval x = vx) (hsrc : SrcAt w size vx m news)
    (h63 : n + m ≤ maxLen) (hbytes : (n + m) * bytes ≤ 140737488355328)
    (h0 : m = 0 → news = [] → R w w ∧ k.ok l w v)
    (hf : ∀ g cap w', v = .slice (some ⟨g, 0, none⟩) n cap → n + m ≤ cap → w'.ownsRow b E size (.slice (some ⟨g, 0, none⟩) (n + m) cap) (n + m) (xs ++ news) → w.grownBy w' (some g) → R w w' ∧ k.ok l w' (.slice (some ⟨g, 0, none⟩) (n + m) cap))
    (hg : ∀ v' w', w'.ownsRow w.heap.size E size v' (n + m) (xs ++ news) → w.grownBy w' none → R w w' ∧ k.ok l w' v') : OutStep R Try.prog ops Q o k l a w := by
  unfold OutStep
  rw [if_pos hw]
  intro K hK
  obtain ⟨i0, hi, hz0, hz1, hz2⟩ := info_parts H.inf
  obtain ⟨h1, h2, ⟨rfl, rfl⟩ | ⟨ad, c, rfl, h3⟩⟩ := hsrc
  · obtain rfl : news = [] := List.eq_nil_of_length_eq_zero (by omega)
    have hrun := run_append_owned_none (P := Try.prog) w b S o.type E i0 size H.und hi v n xs hown
    unfold Oper.wp
    simp [execOp, ho, resolve, invoke, builtin, hs, hx, hrun, Result.andThen]
    exact hK _ _ (h0 rfl rfl).1 (h0 rfl rfl).2
  · have hown' := hown
    obtain ⟨hlx, hsh⟩ := hown
    rcases hsh with ⟨rfl, rfl⟩ | ⟨g, cap, cur, rfl, hg0, hg1, hg2, hg3, hg4, hg5⟩
    · have hxs : xs = [] := List.eq_nil_of_length_eq_zero (by simpa using hlx)
      subst hxs
      obtain ⟨v', w', hrun, r1, r2, _⟩ := run_append_own (P := Try.prog) w w.heap.size S o.type E i0 z size bytes H.und hi hz0 hz1 hz2 H.zs H.sz (.slice none 0 0) 0 [] (World.ownsRow_nil w _ E size) ad m c news h1 h3 h2 h63 hbytes (Nat.le_refl _)
      unfold Oper.wp
      simp [execOp, ho, resolve, invoke, builtin, hs, hx, hrun, Result.andThen]
      exact hK _ _ (hg v' w' r1 r2).1 (hg v' w' r1 r2).2
    · by_cases hroom : n + m ≤ cap
      · obtain ⟨w', hrun, r1, r2⟩ := run_append_fits (P := Try.prog) w b S o.type E i0 size H.und hi hz1 g n cap xs hown' ad m c news h1 h3 h2 hroom
        unfold Oper.wp
        simp [execOp, ho, resolve, invoke, builtin, hs, hx, hrun, Result.andThen]
        exact hK _ _ (hf g cap w' rfl hroom r1 r2).1 (hf g cap w' rfl hroom r1 r2).2
      · obtain ⟨v', w', hrun, r1, r2⟩ := run_append_arg_grows (P := Try.prog) w S o.type E i0 z size bytes H.und hi hz0 hz1 hz2 H.zs H.sz ⟨g, 0, none⟩ n cap xs (by simpa using hlx) (hown'.cells rfl) ad m c news h1 h3 (by omega) h63 hbytes
        unfold Oper.wp
        simp [execOp, ho, resolve, invoke, builtin, hs, hx, hrun, Result.andThen]
        exact hK _ _ (hg v' w' r1 r2).1 (hg v' w' r1 r2).2

theorem own_baseR {w : World} {b b' E size n : Nat} {v : Value} {xs : List Value} (h : w.ownsRow b E size v n xs) (hb : b' ≤ b) : w.ownsRow b' E size v n xs := by
  obtain ⟨h0, h1⟩ := h
  refine ⟨h0, ?_⟩
  rcases h1 with h1 | ⟨g, cap, cur, q1, q2, q3⟩
  · exact .inl h1
  · exact .inr ⟨g, cap, cur, q1, Nat.le_trans hb q2, q3⟩
/-- Nothing below b is touched; the row of n things stays, and that of one more; a block that holds the one thing stays. -/
structure AR (E : TypeId) (size b n : Nat) (xs nw : List Value) (W W' : World) : Prop where
  low : Below b W W'
  s : ∀ v, W.ownsRow b E size v n xs → W'.ownsRow b E size v n xs
  t : ∀ v, W.ownsRow b E size v (n + 1) (xs ++ nw) → W'.ownsRow b E size v (n + 1) (xs ++ nw)
  o : ∀ g, b ≤ g → W.heap[g]? = some (.cells nw.toArray E (0, 0)) → W'.heap[g]? = some (.cells nw.toArray E (0, 0))
section
variable {E : TypeId} {size b n : Nat} {xs nw : List Value} {W W' : World}
theorem AR.refl (E : TypeId) (size b n : Nat) (xs nw : List Value) (W : World) : AR E size b n xs nw W W := ⟨Below.refl _ _, fun _ => id, fun _ => id, fun _ _ => id⟩
theorem AR.of_below (hb : b ≤ W.heap.size) (h : Below W.heap.size W W') : AR E size b n xs nw W W' :=
  ⟨h.mono hb, fun _ q => own_far q fun z hz => h.block z (own_size q hz).2, fun _ q => own_far q fun z hz => h.block z (own_size q hz).2, fun g _ e => (h.block g (Array.getElem?_eq_some_iff.1 e).1).trans e⟩
theorem AR.grow (hb : b ≤ W.heap.size) (h : W.grownBy W' none) : AR E size b n xs nw W W' :=
  AR.of_below hb ⟨h.os, h.tape, h.output, h.size, fun k hk => h.block k hk (by simp)⟩
/-- An append that fits. -/
theorem AR.fits {g cap : Nat} (hz : 0 < size) (hnl : nw.length = size) (hs : W.ownsRow b E size (.slice (some ⟨g, 0, none⟩) n cap) n xs) (hr : n + 1 ≤ cap) (hw : W'.ownsRow b E size (.slice (some ⟨g, 0, none⟩) (n + 1) cap) (n + 1) (xs ++ nw)) (h : W.grownBy W' (some g)) : AR E size b n xs nw W W' := by
  have hf : ∀ (n : Nat) (xs : List Value) (v : Value), W.ownsRow b E size v n xs → v.ownBlock ≠ some g → W'.ownsRow b E size v n xs := fun n xs v q hn => own_far q fun z hz => h.block z (own_size q hz).2 (by rintro e; cases e; exact hn hz)
  have hl : xs.length = n * size := hs.1
  have hw0 := hw
  rcases hs.2 with ⟨q, -⟩ | ⟨g2, cap2, cur, q, hbg, q1, q2, q3, q4, q5⟩
  · cases q
  simp only [Value.slice.injEq, Option.some.injEq, Addr.mk.injEq, and_true, true_and] at q
  obtain ⟨rfl, rfl⟩ := q
  rcases hw.2 with ⟨q, -⟩ | ⟨g2, cap2, cur', q, -, p1, p2, -, p4, p5⟩
  · cases q
  simp only [Value.slice.injEq, Option.some.injEq, Addr.mk.injEq, and_true, true_and] at q
  obtain ⟨rfl, rfl⟩ := q
  have hB : Below b W W' := ⟨h.os, h.tape, h.output, h.size, fun k hk => by
    by_cases hkw : k < W.heap.size
    · exact h.block k hkw (by simp; omega)
    · have := (Array.getElem?_eq_some_iff.1 q1).1; omega⟩
  refine ⟨hB, fun v q => ?_, fun v q => ?_, fun k hk e => ?_⟩
  · by_cases hv : v.ownBlock = some g
    · rcases q.2 with ⟨rfl, -⟩ | ⟨g2, cap2, cur2, rfl, -, r1, r2, r3, r4, r5⟩
      · cases hv
      · simp only [Value.ownBlock, Option.some.injEq] at hv
        subst hv
        rw [q1] at r1
        simp only [Option.some.injEq, Obj.cells.injEq, and_true] at r1
        subst r1
        obtain rfl : cap = cap2 := Nat.eq_of_mul_eq_mul_right hz (by omega)
        refine ⟨q.1, .inr ⟨_, _, cur', rfl, hbg, p1, r2, r3, p4, ?_⟩⟩
        have e2 : (cur'.toList.take ((n + 1) * size)).take (n * size) = (xs ++ nw).take (n * size) := by rw [p5]
        rw [List.take_take, Nat.min_eq_left (Nat.mul_le_mul_right _ (Nat.le_succ _)), ← hl, List.take_left] at e2
        rw [← hl]; exact e2
    · exact hf _ _ v q hv
  · by_cases hv : v.ownBlock = some g
    · rcases q.2 with ⟨rfl, -⟩ | ⟨g2, cap2, cur2, rfl, -, r1, r2, r3, r4, r5⟩
      · cases hv
      · simp only [Value.ownBlock, Option.some.injEq] at hv
        subst hv
        rw [q1] at r1
        simp only [Option.some.injEq, Obj.cells.injEq, and_true] at r1
        subst r1
        obtain rfl : cap = cap2 := Nat.eq_of_mul_eq_mul_right hz (by omega)
        exact hw0
    · exact hf _ _ v q hv
  · by_cases hkg : k = g
    · subst hkg
      rw [q1] at e
      simp only [Option.some.injEq, Obj.cells.injEq, and_true] at e
      subst e
      rw [List.size_toArray, hnl] at q4
      obtain rfl : cap = 1 := Nat.eq_of_mul_eq_mul_right hz (by omega)
      obtain rfl : n = 0 := by omega
      have hx0 : xs = [] := List.eq_nil_of_length_eq_zero (by omega)
      subst hx0
      rw [p1]
      simp only [Nat.zero_add, Nat.one_mul, List.nil_append] at p5 p4
      rw [List.take_of_length_le (by rw [Array.length_toList]; omega)] at p5
      congr 1
      simp only [Obj.cells.injEq, and_true]
      exact Array.toList_inj.1 (by rw [p5])
    · exact (h.block k (Array.getElem?_eq_some_iff.1 e).1 (by simp [hkg])).trans e
end

theorem app_one {E S : TypeId} {z : Value} {size bytes b n : Nat} {xs nw : List Value} {ops : Array Oper} {Q : Exit → Act → World → Prop} {o : Oper} {lv : Nat → Value} {a : Act} {w : World} (H : ElemOk S E z size bytes) (hw : Region.wanted o (yielded ops a.tmps) = true) (s y : Operand) (ho : o.op = Op.call { callee := Callee.builtin Builtin.append, args := #[s, y], argTypes := #[S, S] })
    {v : Value} (hs : a.eval s = v) (hv : w.ownsRow b E size v n xs) {g : Nat} (hx : a.eval y = .slice (some ⟨g, 0, none⟩) 1 1) (hg : w.heap[g]? = some (.cells nw.toArray E (0, 0))) (hnl : nw.length = size) (hone : ∀ u ∈ nw, u.oneCell' = true) (h40 : (n + 1) * bytes ≤ 140737488355328) (h41 : n + 1 ≤ maxLen) (hb : b ≤ w.heap.size) :
    OutR.OutStep (AR E size b n xs nw) Try.prog ops Q o (.rel fun W v => W.ownsRow b E size v (n + 1) (xs ++ nw)) lv a w := by
  refine OutR.out_app4 hw H s y ho b v n _ hs hv _ 1 nw hx (src_one hnl hone fun j u hj => ?_) h41 h40 (fun e1 e2 => by cases e1) (fun g2 cap w' e hc q hg => ?_) (fun v' w' q hg => ⟨AR.grow hb hg, ?_⟩)
  · simp only [World.cell?, hg]
    simpa using hj
  · subst e
    exact ⟨AR.fits H.sz hnl hv hc q hg, q⟩
  · exact own_baseR q hb

end Go.Proofs.Ytehcclcokgmplaa

/-
  Layer 35's code, walked: plain.
-/
namespace Go.Proofs.Ytehcclcokgmplaa
open Go.RowKit Go.Maps

set_option maxRecDepth 100000 in
set_option maxHeartbeats 3200000 in
theorem plain_any (base : Nat) (n : Nod) (ls : List (List Nod)) (pp : Option Addr) (pn pc : Nat) (w : World) (hp : Prt base w (.slice pp pn pc) ls) (hl : ls.flatten.length ≤ 5000) (hn : pn ≤ 6000) (hv : n.v < B * B) :
    Calls Try.prog 27 #[fndV n (.slice pp pn pc)] w fun e w' => (∃ v, e = .returned v ∧ CO w.heap.size w' v (ls.flatten ++ [n])) ∧ Below w.heap.size w w' := by
  obtain ⟨op, k, a, b, v⟩ := n
  have HV : Hid (Cds [⟨op, k, a, b, v⟩]) := fun x hx => by rw [List.mem_singleton.1 hx]; exact hv
  unfold fndV
  dsimp only
  have HND : Hid (ndE ⟨op, k, a, b, v⟩ = [.int .u8 op, .int .i64 k, .int .i64 a, .int .i64 b, .int .u64 ((v / B : Nat) : Int), .int .u64 ((v % B : Nat) : Int)]) := rfl
  obtain ⟨x, hx⟩ : ∃ x : Nat, x = v / B := ⟨_, rfl⟩
  obtain ⟨y, hy⟩ : ∃ y : Nat, y = v % B := ⟨_, rfl⟩
  rw [← hx, ← hy] at HND ⊢
  obtain ⟨nd, hnd⟩ : ∃ nd : Nod, nd = ⟨op, k, a, b, v⟩ := ⟨_, rfl⟩
  rw [← hnd] at HND HV ⊢
  clear hx hy hnd hv
  have HC : Hid (∀ W, Below w.heap.size w W → Calls Try.prog 38 #[.slice pp pn pc] W fun e w' => (∃ v, e = .returned v ∧ CO W.heap.size w' v ls.flatten) ∧ Below W.heap.size W w') := fun W h => concat_any base ls pp pn pc W (hp.below h) (by omega) hn
  obtain ⟨L, hL⟩ : ∃ L, L = ls.flatten.length := ⟨_, rfl⟩
  rw [← hL] at hl
  have HL := Lib.hid hL
  have HCD0 : Hid (Cds ls.flatten) := fun x hx => by
    obtain ⟨l, hl, hx2⟩ := List.mem_flatten.1 hx
    obtain ⟨q, hq, rfl⟩ := List.mem_iff_getElem.1 hl
    obtain ⟨kb, ko, cp, cn, cc, -, -, -, hy0⟩ := hp.el (List.getElem?_eq_getElem hq)
    exact hy0.2 x hx2
  clear hp hn hL
  go_enter Try.func27, Try.ntmps27
  go_upto_region 1 with fail
  obtain ⟨W1, hW1⟩ : ∃ W1, W1 = w.alloc (.cells #[.int .u8 op, .int .i64 k, .int .i64 a, .int .i64 b, .int .u64 (x : Int), .int .u64 (y : Int), .slice pp pn pc] 77) := ⟨_, rfl⟩
  have HW1 : Hid (Below w.heap.size w W1) := by show Below _ _ _; rw [hW1]; exact (by repeat (first | exact Below.refl _ _ | assumption | refine Below.drew ?_ | refine Below.alloc ?_ (by first | omega | (simp <;> omega)) _ | refine Below.setCell ?_ (by first | omega | (simp <;> omega)) _ | refine Below.trans ?_ (Below.mono (by assumption) (by first | omega | (simp <;> omega)))))
  have HR : Hid (∀ W, Below W1.heap.size W1 W → W.cell? ⟨w.heap.size, 0, none⟩ = some (.int .u8 op) ∧ W.cell? ⟨w.heap.size, 1, none⟩ = some (.int .i64 k) ∧ W.cell? ⟨w.heap.size, 2, none⟩ = some (.int .i64 a) ∧ W.cell? ⟨w.heap.size, 3, none⟩ = some (.int .i64 b) ∧ W.cell? ⟨w.heap.size, 4, none⟩ = some (.int .u64 (x : Int)) ∧ W.cell? ⟨w.heap.size, 5, none⟩ = some (.int .u64 (y : Int)) ∧ W.cell? ⟨w.heap.size, 6, none⟩ = some (.slice pp pn pc)) := fun W h => by
    have hs : w.heap.size < W1.heap.size := by rw [hW1]; simp
    refine ⟨(h.cell (p := ⟨w.heap.size, 0, none⟩) hs).trans ?_, (h.cell (p := ⟨w.heap.size, 1, none⟩) hs).trans ?_, (h.cell (p := ⟨w.heap.size, 2, none⟩) hs).trans ?_, (h.cell (p := ⟨w.heap.size, 3, none⟩) hs).trans ?_, (h.cell (p := ⟨w.heap.size, 4, none⟩) hs).trans ?_, (h.cell (p := ⟨w.heap.size, 5, none⟩) hs).trans ?_, (h.cell (p := ⟨w.heap.size, 6, none⟩) hs).trans ?_⟩
    all_goals (rw [hW1]; go_simp)
  have HS1 : Hid (W1.heap.size = w.heap.size + 1) := by show _ = _; rw [hW1]; simp
  rw [← hW1]
  clear hW1
  have HC2 : Hid (∀ W, Below W1.heap.size W1 W → Calls Try.prog 38 #[.slice pp pn pc] W fun e w' => ∃ v, e = .returned v ∧ w'.ownsRow W1.heap.size 61 6 v L (ls.flatten.flatMap ndE) ∧ Below W.heap.size W w') := fun W h => (HC.out W (HW1.out.trans (h.mono HW1.out.size))).mono fun e w' ⟨⟨v, h1, h2⟩, h3⟩ => ⟨v, h1, by rw [HL.out]; exact own_baseR h2.1 h.size, h3⟩
  have HCD : Hid (Cds ls.flatten) := HCD0.out
  refine OutR.region_outR (AR 61 6 W1.heap.size L (ls.flatten.flatMap ndE) [Value.int .u8 op, .int .i64 k, .int .i64 a, .int .i64 b, .int .u64 (x : Int), .int .u64 (y : Int)]) (AR.refl _ _ _ _ _ _) (by kernel_rfl) (fun W => Below W1.heap.size W1 W) (fun _ _ h hr => h.trans hr.low) (by kernel_rfl) (Below.drew (Below.refl _ _)) ?_
  refine ⟨.eq ?_, trivial, rfl, fun aa ww ll hh => ?_, ?_⟩
  rotate_left
  · have e1 := (hh.old 1 (by kernel_rfl)).trans (evalO rfl)
    simp only [nthO] at e1
    refine OutR.out_val (AR.refl _ _ _ _ _ _) (wanted_none rfl) ?_
    clear hh
    generalize aa.eval = ev at e1 ⊢
    go_simp
    try rfl
  refine ⟨.eq ?_, trivial, rfl, fun aa ww ll hh => ?_, ?_⟩
  rotate_left
  · have e3 := hh.get 0 0 (by kernel_rfl) rfl rfl rfl
    obtain ⟨r0, r1, r2, r3, r4, r5, r6⟩ := HR.out ww hh.inv
    refine OutR.out_val (AR.refl _ _ _ _ _ _) (wanted_none rfl) ?_
    clear hh
    generalize aa.eval = ev at e3 ⊢
    go_simp
    try rfl
  refine ⟨.rel (fun W v => W.ownsRow W1.heap.size 61 6 v L (ls.flatten.flatMap ndE)), (fun W W' v h hr => hr.s v h), rfl, fun aa ww ll hh => ?_, ?_⟩
  · have e4 := hh.get 1 0 (by kernel_rfl) rfl rfl rfl
    have ef : ∀ f, aa.eval (.func f) = .func (.func f) #[] #[] := fun _ => rfl
    have HI := hh.inv
    obtain ⟨r0, r1, r2, r3, r4, r5, r6⟩ := HR.out ww HI
    refine OutR.out_call (wanted_none rfl) ?_ ((HC2.out ww HI).mono fun e w9 ⟨v9, h1, h2, h3⟩ => ⟨v9, h1, h2, AR.of_below HI.size h3⟩)
    clear hh HI
    generalize aa.eval = ev at e4 ef ⊢
    go_simp
    try rfl
  refine ⟨.eq ?_, trivial, rfl, fun aa ww ll hh => ?_, ?_⟩
  rotate_left
  · have e1 := (hh.old 1 (by kernel_rfl)).trans (evalO rfl)
    simp only [nthO] at e1
    refine OutR.out_val (AR.refl _ _ _ _ _ _) (wanted_none rfl) ?_
    clear hh
    generalize aa.eval = ev at e1 ⊢
    go_simp
    try rfl
  refine ⟨.eq ?_, trivial, rfl, fun aa ww ll hh => ?_, ?_⟩
  rotate_left
  · have e6 := hh.get 3 0 (by kernel_rfl) rfl rfl rfl
    obtain ⟨r0, r1, r2, r3, r4, r5, r6⟩ := HR.out ww hh.inv
    refine OutR.out_val (AR.refl _ _ _ _ _ _) (wanted_none rfl) ?_
    clear hh
    generalize aa.eval = ev at e6 ⊢
    go_simp
    try rfl
  refine ⟨.rel (fun W v => ∃ g : Nat, v = .slice (some ⟨g, 0, none⟩) 1 1 ∧ W1.heap.size ≤ g ∧ W.heap[g]? = some (.cells [Value.int .u8 op, .int .i64 k, .int .i64 a, .int .i64 b, .int .u64 (x : Int), .int .u64 (y : Int)].toArray 61 (0, 0))), (fun W W' v ⟨g, h1, h2, h3⟩ hr => ⟨g, h1, h2, hr.o g h2 h3⟩), rfl, fun aa ww ll hh => ?_, ?_⟩
  · have e7 := hh.get 4 0 (by kernel_rfl) rfl rfl rfl
    have hsz := hh.inv.size
    clear hh
    refine OutR.out_new (wanted_none rfl) (w' := ww.alloc (.cells #[.int .u8 op, .int .i64 k, .int .i64 a, .int .i64 b, .int .u64 (x : Int), .int .u64 (y : Int)] 61)) (v := .slice (some ⟨ww.heap.size, 0, none⟩) 1 1) ?_ (AR.of_below hsz ((Below.refl _ _).alloc (Nat.le_refl _) _)) ⟨ww.heap.size, rfl, hsz, heap_new _ _⟩
    generalize aa.eval = ev at e7 ⊢
    go_simp
    try rfl
  refine ⟨.rel (fun W v => W.ownsRow W1.heap.size 61 6 v (L + 1) ((ls.flatten.flatMap ndE) ++ [Value.int .u8 op, .int .i64 k, .int .i64 a, .int .i64 b, .int .u64 (x : Int), .int .u64 (y : Int)])), (fun W W' v h hr => hr.t v h), rfl, fun aa ww ll hh => ?_, ?_⟩
  · obtain ⟨x5, e5, -, p5⟩ := hh.got 2 3 (by kernel_rfl) rfl rfl rfl
    obtain ⟨x8, e8, -, p8⟩ := hh.got 5 0 (by kernel_rfl) rfl rfl rfl
    obtain ⟨gq, rfl, hgq, hq0⟩ := p8
    have HI := hh.inv
    exact app_one elemNd (wanted_none rfl) (.tmp 5) (.tmp 8) rfl e5 p5 e8 hq0 rfl (fun u hu => by simp only [List.mem_cons, List.not_mem_nil, or_false] at hu; rcases hu with rfl | rfl | rfl | rfl | rfl | rfl <;> rfl) (by omega) (by unfold maxLen; omega) HI.size
  refine ⟨.rel (fun W v => W.ownsRow W1.heap.size 61 6 v (L + 1) ((ls.flatten.flatMap ndE) ++ [Value.int .u8 op, .int .i64 k, .int .i64 a, .int .i64 b, .int .u64 (x : Int), .int .u64 (y : Int)])), (fun W W' v h hr => hr.t v h), rfl, fun aa ww ll hh => ?_, ?_⟩
  · obtain ⟨x9, e9, -, p9⟩ := hh.got 6 0 (by kernel_rfl) rfl rfl rfl
    refine OutR.out_new (v := x9) (wanted_none rfl) ?_ (AR.refl _ _ _ _ _ _ _) p9
    rw [ex_moveO (by first | exact .inl rfl | exact .inr rfl) e9]
  intro ll w2 hS2 hok
  have p7 := hok 7 _ rfl
  clear hok
  simp only [List.reverse_cons, List.reverse_nil, List.nil_append, List.cons_append, OutR.layO, OutR.Out.val, Act.put, List.setIfInBounds_toArray, List.set_cons_zero, List.set_cons_succ]
  clear HC HC2
  have HO3 := Lib.hid p7
  have HB3 : Hid (Below w.heap.size w w2) := HW1.out.trans (hS2.mono HW1.out.size)
  clear p7 hS2
  go_wp2_with fail
  go_ret
  refine ⟨⟨_, rfl, ?_, fun x hx => ?_⟩, HB3.out⟩
  · rw [List.length_append, ← HL.out, List.flatMap_append, List.flatMap_cons, List.flatMap_nil, List.append_nil, HND.out]
    exact own_baseR HO3.out HW1.out.size
  · rcases List.mem_append.1 hx with h | h
    · exact HCD.out x h
    · exact HV.out x h

end Go.Proofs.Ytehcclcokgmplaa

/-
  A region that draws its order, by an invariant over what has been done: only the edges that bind.
-/
import Derived.Test.YtfalhemeiengcaaDoorInv
namespace Go.Proofs.YtfalhemeiengcaaDoor
open Go.RowKit Go.Maps

theorem wp_region_inv2 {P : Program} {ops : Array Oper} {Q : Exit → Act → World → Prop} {id : Nat} {a : Act} {w : World} (hm : P.follows .mixedOrders = true) (I : Array Bool → Act → World → Prop)
    (h0 : I (Array.replicate ops.size false) a w.drew)
    (hstep : ∀ L a w i, L.size = ops.size → i < ops.size → did L i = false → (∀ o, ops[i]? = some o → ∀ e ∈ o.after, Region.binds .any e = true → did L e.on = true) → I L a w → wpOp P ops Q i (I (L.setIfInBounds i true)) a w)
    (hback : ∀ (i : Nat) (o : Oper), ops[i]? = some o → ∀ e ∈ o.after, Region.binds .any e = true → e.on < i)
    (hend : ∀ L a w, (∀ i, i < ops.size → did L i = true) → I L a w → Q .normal a w) : (Code.region id ops true).wp P Q a w := by
  refine wp_region_any hm (wpAny_inv I hstep (fun L a w hL hr hI => hend L a w ?_ hI) ops.size _ a _ (by simp) (fun i hi _ => by omega) ?_ ?_ h0)
  · intro i
    induction i using Nat.strongRecOn with
    | _ i ih =>
      intro hi
      cases hd : did L i
      · exfalso
        have : i ∈ Region.ready .any ops L := by
          rw [mem_ready]
          refine ⟨?_, ops[i], Array.getElem?_eq_getElem hi, fun e he hb => ?_⟩
          · unfold did at hd
            simpa [hL, hi] using hd
          · have hlt := hback i _ (Array.getElem?_eq_getElem hi) e he hb
            exact ih e.on hlt (by omega)
        rw [hr] at this
        cases this
      · rfl
  · unfold Region.ready
    exact Nat.le_trans (List.length_filter_le _ _) (by simp)
  · exact Nat.le_trans (List.length_filter_le _ _) (by simp)

end Go.Proofs.YtfalhemeiengcaaDoor

/-
  Lemmas, joined: Law21C3, Law21C4.
-/
import Derived.Test.YtnknpgfconfgjaaJA15
/-
  The law ActionSums of layer 21: the region of the sums, step by step
-/
namespace Go.Proofs.Ytnknpgfconfgjaa
open Go.RowKit Go.Maps

set_option maxRecDepth 100000 in
set_option maxHeartbeats 2000000 in
theorem st8_32 {gA gB gW gP gx gM gN gD ay az bY bZ my mz ny nz r1y r1z r2y r2z r5y r5z : Nat} {Wi : Int} {WB w : World} {T l : List Value} {L : Array Bool} (Q : Exit → Act → World → Prop) (c : C8 gA gB gW gP gx gM gN gD ay az bY bZ my mz ny nz r1y r1z r2y r2z r5y r5z Wi WB T) (h : At (sR gA gB gW gP gx gM gN gD ay az bY bZ my mz ny nz r1y r1z r2y r2z r5y r5z Wi WB) 63 40 T L l w 32)
    (hdep : ∀ o, reg8.1[32]? = some o → ∀ e ∈ o.after, Region.binds .any e = true → did L e.on = true) :
    wpOp Try.prog reg8.1 Q 32 (SI (sR gA gB gW gP gx gM gN gD ay az bY bZ my mz ny nz r1y r1z r2y r2z r5y r5z Wi WB) 63 40 T (L.setIfInBounds 32 true)) (frm 40 T l) w := by
  obtain ⟨o, ho, hd, hg, hop⟩ := op8_32
  obtain ⟨oj, hj, hdj, -, -⟩ := op8_16
  have hw := wanted_go hg hj hdj (by rw [h.len]; decide) h.old (h.rw.got 16 (dep_of (a := 16) (by kernel_rfl) hdep) rfl)
  exact step_val (v := .bool false) h ho hd hw rfl (ex_neq hop ((h.ev (j := 27) (by decide)).trans (h.rw.got 27 (dep_of (a := 27) (by kernel_rfl) hdep) rfl)) ((h.ev (j := 31) (by decide)).trans (h.rw.got 31 (dep_of (a := 31) (by kernel_rfl) hdep) rfl)))

set_option maxRecDepth 100000 in
set_option maxHeartbeats 2000000 in
theorem st8_33 {gA gB gW gP gx gM gN gD ay az bY bZ my mz ny nz r1y r1z r2y r2z r5y r5z : Nat} {Wi : Int} {WB w : World} {T l : List Value} {L : Array Bool} (Q : Exit → Act → World → Prop) (c : C8 gA gB gW gP gx gM gN gD ay az bY bZ my mz ny nz r1y r1z r2y r2z r5y r5z Wi WB T) (h : At (sR gA gB gW gP gx gM gN gD ay az bY bZ my mz ny nz r1y r1z r2y r2z r5y r5z Wi WB) 63 40 T L l w 33)
    (hdep : ∀ o, reg8.1[33]? = some o → ∀ e ∈ o.after, Region.binds .any e = true → did L e.on = true) :
    wpOp Try.prog reg8.1 Q 33 (SI (sR gA gB gW gP gx gM gN gD ay az bY bZ my mz ny nz r1y r1z r2y r2z r5y r5z Wi WB) 63 40 T (L.setIfInBounds 33 true)) (frm 40 T l) w := by
  obtain ⟨o, ho, hd, hg, hop⟩ := op8_33
  have hw := wanted_un (ops := reg8.1) (t := (frm 40 T l).tmps) hg
  exact step_val (v := .bool false) h ho hd hw rfl (ex_pick hop ((h.ev (j := 16) (by decide)).trans (h.rw.got 16 (dep_of (a := 16) (by kernel_rfl) hdep) rfl)) ((h.ev (j := 32) (by decide)).trans (h.rw.got 32 (dep_of (a := 32) (by kernel_rfl) hdep) rfl)))

set_option maxRecDepth 100000 in
set_option maxHeartbeats 2000000 in
theorem st8_34 {gA gB gW gP gx gM gN gD ay az bY bZ my mz ny nz r1y r1z r2y r2z r5y r5z : Nat} {Wi : Int} {WB w : World} {T l : List Value} {L : Array Bool} (Q : Exit → Act → World → Prop) (c : C8 gA gB gW gP gx gM gN gD ay az bY bZ my mz ny nz r1y r1z r2y r2z r5y r5z Wi WB T) (h : At (sR gA gB gW gP gx gM gN gD ay az bY bZ my mz ny nz r1y r1z r2y r2z r5y r5z Wi WB) 63 40 T L l w 34)
    (hdep : ∀ o, reg8.1[34]? = some o → ∀ e ∈ o.after, Region.binds .any e = true → did L e.on = true) :
    wpOp Try.prog reg8.1 Q 34 (SI (sR gA gB gW gP gx gM gN gD ay az bY bZ my mz ny nz r1y r1z r2y r2z r5y r5z Wi WB) 63 40 T (L.setIfInBounds 34 true)) (frm 40 T l) w := by
  obtain ⟨o, ho, hd, hg, hop⟩ := op8_34
  have hw := wanted_un (ops := reg8.1) (t := (frm 40 T l).tmps) hg
  exact step_val (v := .bool false) h ho hd hw rfl (ex_move hop ((h.ev (j := 33) (by decide)).trans (h.rw.got 33 (dep_of (a := 33) (by kernel_rfl) hdep) rfl)))

set_option maxRecDepth 100000 in
set_option maxHeartbeats 2000000 in
theorem st8_35 {gA gB gW gP gx gM gN gD ay az bY bZ my mz ny nz r1y r1z r2y r2z r5y r5z : Nat} {Wi : Int} {WB w : World} {T l : List Value} {L : Array Bool} (Q : Exit → Act → World → Prop) (c : C8 gA gB gW gP gx gM gN gD ay az bY bZ my mz ny nz r1y r1z r2y r2z r5y r5z Wi WB T) (h : At (sR gA gB gW gP gx gM gN gD ay az bY bZ my mz ny nz r1y r1z r2y r2z r5y r5z Wi WB) 63 40 T L l w 35)
    (hdep : ∀ o, reg8.1[35]? = some o → ∀ e ∈ o.after, Region.binds .any e = true → did L e.on = true) :
    wpOp Try.prog reg8.1 Q 35 (SI (sR gA gB gW gP gx gM gN gD ay az bY bZ my mz ny nz r1y r1z r2y r2z r5y r5z Wi WB) 63 40 T (L.setIfInBounds 35 true)) (frm 40 T l) w := by
  obtain ⟨o, ho, hd, hg, hop⟩ := op8_35
  obtain ⟨oj, hj, hdj, -, -⟩ := op8_34
  have hw := wanted_go hg hj hdj (by rw [h.len]; decide) h.old (h.rw.got 34 (dep_of (a := 34) (by kernel_rfl) hdep) rfl)
  exact step_val (v := .func (Fn.func 8) #[] #[.pointer (some ⟨gP, 0, none⟩)]) h ho hd hw rfl (ex_move hop ((h.ev0 (s := 11) (by decide)).trans c.t11))

set_option maxRecDepth 100000 in
set_option maxHeartbeats 2000000 in
theorem st8_36 {gA gB gW gP gx gM gN gD ay az bY bZ my mz ny nz r1y r1z r2y r2z r5y r5z : Nat} {Wi : Int} {WB w : World} {T l : List Value} {L : Array Bool} (Q : Exit → Act → World → Prop) (c : C8 gA gB gW gP gx gM gN gD ay az bY bZ my mz ny nz r1y r1z r2y r2z r5y r5z Wi WB T) (h : At (sR gA gB gW gP gx gM gN gD ay az bY bZ my mz ny nz r1y r1z r2y r2z r5y r5z Wi WB) 63 40 T L l w 36)
    (hdep : ∀ o, reg8.1[36]? = some o → ∀ e ∈ o.after, Region.binds .any e = true → did L e.on = true) :
    wpOp Try.prog reg8.1 Q 36 (SI (sR gA gB gW gP gx gM gN gD ay az bY bZ my mz ny nz r1y r1z r2y r2z r5y r5z Wi WB) 63 40 T (L.setIfInBounds 36 true)) (frm 40 T l) w := by
  obtain ⟨o, ho, hd, hg, hop⟩ := op8_36
  obtain ⟨oj, hj, hdj, -, -⟩ := op8_34
  have hw := wanted_go hg hj hdj (by rw [h.len]; decide) h.old (h.rw.got 34 (dep_of (a := 34) (by kernel_rfl) hdep) rfl)
  exact step_val (v := .func (Fn.func 6) #[] #[.pointer (some ⟨gW, 0, none⟩)]) h ho hd hw rfl (ex_move hop ((h.ev0 (s := 10) (by decide)).trans c.t10))

set_option maxRecDepth 100000 in
set_option maxHeartbeats 2000000 in
theorem st8_37 {gA gB gW gP gx gM gN gD ay az bY bZ my mz ny nz r1y r1z r2y r2z r5y r5z : Nat} {Wi : Int} {WB w : World} {T l : List Value} {L : Array Bool} (Q : Exit → Act → World → Prop) (c : C8 gA gB gW gP gx gM gN gD ay az bY bZ my mz ny nz r1y r1z r2y r2z r5y r5z Wi WB T) (h : At (sR gA gB gW gP gx gM gN gD ay az bY bZ my mz ny nz r1y r1z r2y r2z r5y r5z Wi WB) 63 40 T L l w 37)
    (hdep : ∀ o, reg8.1[37]? = some o → ∀ e ∈ o.after, Region.binds .any e = true → did L e.on = true) :
    wpOp Try.prog reg8.1 Q 37 (SI (sR gA gB gW gP gx gM gN gD ay az bY bZ my mz ny nz r1y r1z r2y r2z r5y r5z Wi WB) 63 40 T (L.setIfInBounds 37 true)) (frm 40 T l) w := by
  obtain ⟨o, ho, hd, hg, hop⟩ := op8_37
  obtain ⟨oj, hj, hdj, -, -⟩ := op8_34
  have hw := wanted_go hg hj hdj (by rw [h.len]; decide) h.old (h.rw.got 34 (dep_of (a := 34) (by kernel_rfl) hdep) rfl)
  obtain ⟨z0, z1, z2, z3, z4, z5, z6, z7, z8, z9, z10, z11, z12, z13, z14, z15⟩ := c.cells w h.rw.glob
  exact step_val (v := .agg #[.int .u64 (ay : Int), .int .u64 (az : Int)]) h ho hd hw rfl (ex_load_num hop ((h.ev0 (s := 4) (by decide)).trans c.t4) z0 z1)

set_option maxRecDepth 100000 in
set_option maxHeartbeats 2000000 in
theorem st8_38 {gA gB gW gP gx gM gN gD ay az bY bZ my mz ny nz r1y r1z r2y r2z r5y r5z : Nat} {Wi : Int} {WB w : World} {T l : List Value} {L : Array Bool} (Q : Exit → Act → World → Prop) (c : C8 gA gB gW gP gx gM gN gD ay az bY bZ my mz ny nz r1y r1z r2y r2z r5y r5z Wi WB T) (h : At (sR gA gB gW gP gx gM gN gD ay az bY bZ my mz ny nz r1y r1z r2y r2z r5y r5z Wi WB) 63 40 T L l w 38)
    (hdep : ∀ o, reg8.1[38]? = some o → ∀ e ∈ o.after, Region.binds .any e = true → did L e.on = true) :
    wpOp Try.prog reg8.1 Q 38 (SI (sR gA gB gW gP gx gM gN gD ay az bY bZ my mz ny nz r1y r1z r2y r2z r5y r5z Wi WB) 63 40 T (L.setIfInBounds 38 true)) (frm 40 T l) w := by
  obtain ⟨o, ho, hd, hg, hop⟩ := op8_38
  obtain ⟨oj, hj, hdj, -, -⟩ := op8_34
  have hw := wanted_go hg hj hdj (by rw [h.len]; decide) h.old (h.rw.got 34 (dep_of (a := 34) (by kernel_rfl) hdep) rfl)
  obtain ⟨z0, z1, z2, z3, z4, z5, z6, z7, z8, z9, z10, z11, z12, z13, z14, z15⟩ := c.cells w h.rw.glob
  have e77 := ((h.ev (j := 37) (by decide)).trans (h.rw.got 37 (dep_of (a := 37) (by kernel_rfl) hdep) rfl))
  exact step_call (v := .agg #[.int .u8 1, .int .i64 Wi, .int .i64 0, .int .i64 0, .int .u64 (my : Int), .int .u64 (mz : Int)]) h ho hd hw rfl (ex_call hop rfl ((h.ev (j := 36) (by decide)).trans (h.rw.got 36 (dep_of (a := 36) (by kernel_rfl) hdep) rfl)) (args := #[.agg #[.int .u64 (ay : Int), .int .u64 (az : Int)]]) (by simp only [List.map_toArray, List.map_cons, List.map_nil]; rw [e77]) (by simp) (fun av W => by kernel_rfl)) (c.HCA w z4)

set_option maxRecDepth 100000 in
set_option maxHeartbeats 2000000 in
theorem st8_39 {gA gB gW gP gx gM gN gD ay az bY bZ my mz ny nz r1y r1z r2y r2z r5y r5z : Nat} {Wi : Int} {WB w : World} {T l : List Value} {L : Array Bool} (Q : Exit → Act → World → Prop) (c : C8 gA gB gW gP gx gM gN gD ay az bY bZ my mz ny nz r1y r1z r2y r2z r5y r5z Wi WB T) (h : At (sR gA gB gW gP gx gM gN gD ay az bY bZ my mz ny nz r1y r1z r2y r2z r5y r5z Wi WB) 63 40 T L l w 39)
    (hdep : ∀ o, reg8.1[39]? = some o → ∀ e ∈ o.after, Region.binds .any e = true → did L e.on = true) :
    wpOp Try.prog reg8.1 Q 39 (SI (sR gA gB gW gP gx gM gN gD ay az bY bZ my mz ny nz r1y r1z r2y r2z r5y r5z Wi WB) 63 40 T (L.setIfInBounds 39 true)) (frm 40 T l) w := by
  obtain ⟨o, ho, hd, hg, hop⟩ := op8_39
  obtain ⟨oj, hj, hdj, -, -⟩ := op8_34
  have hw := wanted_go hg hj hdj (by rw [h.len]; decide) h.old (h.rw.got 34 (dep_of (a := 34) (by kernel_rfl) hdep) rfl)
  obtain ⟨z0, z1, z2, z3, z4, z5, z6, z7, z8, z9, z10, z11, z12, z13, z14, z15⟩ := c.cells w h.rw.glob
  exact step_val (v := .agg #[.int .u8 7, .int .i64 Wi, .int .i64 0, .int .i64 0, .int .u64 0, .int .u64 0]) h ho hd hw rfl (ex_load_node hop ((h.ev0 (s := 14) (by decide)).trans c.t14) z10 z11 z12 z13 z14 z15)

set_option maxRecDepth 100000 in
set_option maxHeartbeats 2000000 in
theorem st8_40 {gA gB gW gP gx gM gN gD ay az bY bZ my mz ny nz r1y r1z r2y r2z r5y r5z : Nat} {Wi : Int} {WB w : World} {T l : List Value} {L : Array Bool} (Q : Exit → Act → World → Prop) (c : C8 gA gB gW gP gx gM gN gD ay az bY bZ my mz ny nz r1y r1z r2y r2z r5y r5z Wi WB T) (h : At (sR gA gB gW gP gx gM gN gD ay az bY bZ my mz ny nz r1y r1z r2y r2z r5y r5z Wi WB) 63 40 T L l w 40)
    (hdep : ∀ o, reg8.1[40]? = some o → ∀ e ∈ o.after, Region.binds .any e = true → did L e.on = true) :
    wpOp Try.prog reg8.1 Q 40 (SI (sR gA gB gW gP gx gM gN gD ay az bY bZ my mz ny nz r1y r1z r2y r2z r5y r5z Wi WB) 63 40 T (L.setIfInBounds 40 true)) (frm 40 T l) w := by
  obtain ⟨o, ho, hd, hg, hop⟩ := op8_40
  obtain ⟨oj, hj, hdj, -, -⟩ := op8_34
  have hw := wanted_go hg hj hdj (by rw [h.len]; decide) h.old (h.rw.got 34 (dep_of (a := 34) (by kernel_rfl) hdep) rfl)
  obtain ⟨z0, z1, z2, z3, z4, z5, z6, z7, z8, z9, z10, z11, z12, z13, z14, z15⟩ := c.cells w h.rw.glob
  exact step_val (v := .agg #[.int .u8 7, .int .i64 Wi, .int .i64 0, .int .i64 0, .int .u64 0, .int .u64 0]) h ho hd hw rfl (ex_load_node hop ((h.ev0 (s := 14) (by decide)).trans c.t14) z10 z11 z12 z13 z14 z15)

set_option maxRecDepth 100000 in
set_option maxHeartbeats 2000000 in
theorem st8_41 {gA gB gW gP gx gM gN gD ay az bY bZ my mz ny nz r1y r1z r2y r2z r5y r5z : Nat} {Wi : Int} {WB w : World} {T l : List Value} {L : Array Bool} (Q : Exit → Act → World → Prop) (c : C8 gA gB gW gP gx gM gN gD ay az bY bZ my mz ny nz r1y r1z r2y r2z r5y r5z Wi WB T) (h : At (sR gA gB gW gP gx gM gN gD ay az bY bZ my mz ny nz r1y r1z r2y r2z r5y r5z Wi WB) 63 40 T L l w 41)
    (hdep : ∀ o, reg8.1[41]? = some o → ∀ e ∈ o.after, Region.binds .any e = true → did L e.on = true) :
    wpOp Try.prog reg8.1 Q 41 (SI (sR gA gB gW gP gx gM gN gD ay az bY bZ my mz ny nz r1y r1z r2y r2z r5y r5z Wi WB) 63 40 T (L.setIfInBounds 41 true)) (frm 40 T l) w := by
  obtain ⟨o, ho, hd, hg, hop⟩ := op8_41
  obtain ⟨oj, hj, hdj, -, -⟩ := op8_34
  have hw := wanted_go hg hj hdj (by rw [h.len]; decide) h.old (h.rw.got 34 (dep_of (a := 34) (by kernel_rfl) hdep) rfl)
  exact step_new (js := []) h ho hd hw rfl (fun j hj => by cases hj) ((Below.refl _ _).alloc (Nat.le_refl _) _) ⟨w.heap.size, rfl, ⟨Nat.le_refl _, by simp⟩, heap_new w _⟩ (ex_slice3 hop ((h.ev (j := 38) (by decide)).trans (h.rw.got 38 (dep_of (a := 38) (by kernel_rfl) hdep) rfl)) ((h.ev (j := 39) (by decide)).trans (h.rw.got 39 (dep_of (a := 39) (by kernel_rfl) hdep) rfl)) ((h.ev (j := 40) (by decide)).trans (h.rw.got 40 (dep_of (a := 40) (by kernel_rfl) hdep) rfl)))

set_option maxRecDepth 100000 in
set_option maxHeartbeats 2000000 in
theorem st8_42 {gA gB gW gP gx gM gN gD ay az bY bZ my mz ny nz r1y r1z r2y r2z r5y r5z : Nat} {Wi : Int} {WB w : World} {T l : List Value} {L : Array Bool} (Q : Exit → Act → World → Prop) (c : C8 gA gB gW gP gx gM gN gD ay az bY bZ my mz ny nz r1y r1z r2y r2z r5y r5z Wi WB T) (h : At (sR gA gB gW gP gx gM gN gD ay az bY bZ my mz ny nz r1y r1z r2y r2z r5y r5z Wi WB) 63 40 T L l w 42)
    (hdep : ∀ o, reg8.1[42]? = some o → ∀ e ∈ o.after, Region.binds .any e = true → did L e.on = true) :
    wpOp Try.prog reg8.1 Q 42 (SI (sR gA gB gW gP gx gM gN gD ay az bY bZ my mz ny nz r1y r1z r2y r2z r5y r5z Wi WB) 63 40 T (L.setIfInBounds 42 true)) (frm 40 T l) w := by
  obtain ⟨o, ho, hd, hg, hop⟩ := op8_42
  obtain ⟨oj, hj, hdj, -, -⟩ := op8_34
  have hw := wanted_go hg hj hdj (by rw [h.len]; decide) h.old (h.rw.got 34 (dep_of (a := 34) (by kernel_rfl) hdep) rfl)
  obtain ⟨z0, z1, z2, z3, z4, z5, z6, z7, z8, z9, z10, z11, z12, z13, z14, z15⟩ := c.cells w h.rw.glob
  obtain ⟨BS, -, gS, eS, -, hS⟩ := h.rw.made 41 (dep_of (a := 41) (by kernel_rfl) hdep) rfl
  have e81 := (h.ev (j := 41) (by decide)).trans eS
  exact step_call (v := .agg #[.int .u64 (my : Int), .int .u64 (mz : Int)]) h ho hd hw rfl (ex_call hop rfl ((h.ev (j := 35) (by decide)).trans (h.rw.got 35 (dep_of (a := 35) (by kernel_rfl) hdep) rfl)) (args := #[.slice (some ⟨gS, 0, none⟩) 3 3]) (by simp only [List.map_toArray, List.map_cons, List.map_nil]; exact congrArg (fun x => #[x]) e81) (by simp) (fun av W => by kernel_rfl)) (c.HOF3 w gS z5 hS)

set_option maxRecDepth 100000 in
set_option maxHeartbeats 2000000 in
theorem st8_43 {gA gB gW gP gx gM gN gD ay az bY bZ my mz ny nz r1y r1z r2y r2z r5y r5z : Nat} {Wi : Int} {WB w : World} {T l : List Value} {L : Array Bool} (Q : Exit → Act → World → Prop) (c : C8 gA gB gW gP gx gM gN gD ay az bY bZ my mz ny nz r1y r1z r2y r2z r5y r5z Wi WB T) (h : At (sR gA gB gW gP gx gM gN gD ay az bY bZ my mz ny nz r1y r1z r2y r2z r5y r5z Wi WB) 63 40 T L l w 43)
    (hdep : ∀ o, reg8.1[43]? = some o → ∀ e ∈ o.after, Region.binds .any e = true → did L e.on = true) :
    wpOp Try.prog reg8.1 Q 43 (SI (sR gA gB gW gP gx gM gN gD ay az bY bZ my mz ny nz r1y r1z r2y r2z r5y r5z Wi WB) 63 40 T (L.setIfInBounds 43 true)) (frm 40 T l) w := by
  obtain ⟨o, ho, hd, hg, hop⟩ := op8_43
  obtain ⟨oj, hj, hdj, -, -⟩ := op8_34
  have hw := wanted_go hg hj hdj (by rw [h.len]; decide) h.old (h.rw.got 34 (dep_of (a := 34) (by kernel_rfl) hdep) rfl)
  obtain ⟨z0, z1, z2, z3, z4, z5, z6, z7, z8, z9, z10, z11, z12, z13, z14, z15⟩ := c.cells w h.rw.glob
  exact step_val (v := .agg #[.int .u64 (my : Int), .int .u64 (mz : Int)]) h ho hd hw rfl (ex_load_num hop ((h.ev0 (s := 12) (by decide)).trans c.t12) z6 z7)

set_option maxRecDepth 100000 in
set_option maxHeartbeats 2000000 in
theorem st8_44 {gA gB gW gP gx gM gN gD ay az bY bZ my mz ny nz r1y r1z r2y r2z r5y r5z : Nat} {Wi : Int} {WB w : World} {T l : List Value} {L : Array Bool} (Q : Exit → Act → World → Prop) (c : C8 gA gB gW gP gx gM gN gD ay az bY bZ my mz ny nz r1y r1z r2y r2z r5y r5z Wi WB T) (h : At (sR gA gB gW gP gx gM gN gD ay az bY bZ my mz ny nz r1y r1z r2y r2z r5y r5z Wi WB) 63 40 T L l w 44)
    (hdep : ∀ o, reg8.1[44]? = some o → ∀ e ∈ o.after, Region.binds .any e = true → did L e.on = true) :
    wpOp Try.prog reg8.1 Q 44 (SI (sR gA gB gW gP gx gM gN gD ay az bY bZ my mz ny nz r1y r1z r2y r2z r5y r5z Wi WB) 63 40 T (L.setIfInBounds 44 true)) (frm 40 T l) w := by
  obtain ⟨o, ho, hd, hg, hop⟩ := op8_44
  obtain ⟨oj, hj, hdj, -, -⟩ := op8_34
  have hw := wanted_go hg hj hdj (by rw [h.len]; decide) h.old (h.rw.got 34 (dep_of (a := 34) (by kernel_rfl) hdep) rfl)
  exact step_val (v := .bool false) h ho hd hw rfl (ex_neq hop ((h.ev (j := 42) (by decide)).trans (h.rw.got 42 (dep_of (a := 42) (by kernel_rfl) hdep) rfl)) ((h.ev (j := 43) (by decide)).trans (h.rw.got 43 (dep_of (a := 43) (by kernel_rfl) hdep) rfl)))

set_option maxRecDepth 100000 in
set_option maxHeartbeats 2000000 in
theorem st8_45 {gA gB gW gP gx gM gN gD ay az bY bZ my mz ny nz r1y r1z r2y r2z r5y r5z : Nat} {Wi : Int} {WB w : World} {T l : List Value} {L : Array Bool} (Q : Exit → Act → World → Prop) (c : C8 gA gB gW gP gx gM gN gD ay az bY bZ my mz ny nz r1y r1z r2y r2z r5y r5z Wi WB T) (h : At (sR gA gB gW gP gx gM gN gD ay az bY bZ my mz ny nz r1y r1z r2y r2z r5y r5z Wi WB) 63 40 T L l w 45)
    (hdep : ∀ o, reg8.1[45]? = some o → ∀ e ∈ o.after, Region.binds .any e = true → did L e.on = true) :
    wpOp Try.prog reg8.1 Q 45 (SI (sR gA gB gW gP gx gM gN gD ay az bY bZ my mz ny nz r1y r1z r2y r2z r5y r5z Wi WB) 63 40 T (L.setIfInBounds 45 true)) (frm 40 T l) w := by
  obtain ⟨o, ho, hd, hg, hop⟩ := op8_45
  have hw := wanted_un (ops := reg8.1) (t := (frm 40 T l).tmps) hg
  exact step_val (v := .bool false) h ho hd hw rfl (ex_pick hop ((h.ev (j := 34) (by decide)).trans (h.rw.got 34 (dep_of (a := 34) (by kernel_rfl) hdep) rfl)) ((h.ev (j := 44) (by decide)).trans (h.rw.got 44 (dep_of (a := 44) (by kernel_rfl) hdep) rfl)))

set_option maxRecDepth 100000 in
set_option maxHeartbeats 2000000 in
theorem st8_46 {gA gB gW gP gx gM gN gD ay az bY bZ my mz ny nz r1y r1z r2y r2z r5y r5z : Nat} {Wi : Int} {WB w : World} {T l : List Value} {L : Array Bool} (Q : Exit → Act → World → Prop) (c : C8 gA gB gW gP gx gM gN gD ay az bY bZ my mz ny nz r1y r1z r2y r2z r5y r5z Wi WB T) (h : At (sR gA gB gW gP gx gM gN gD ay az bY bZ my mz ny nz r1y r1z r2y r2z r5y r5z Wi WB) 63 40 T L l w 46)
    (hdep : ∀ o, reg8.1[46]? = some o → ∀ e ∈ o.after, Region.binds .any e = true → did L e.on = true) :
    wpOp Try.prog reg8.1 Q 46 (SI (sR gA gB gW gP gx gM gN gD ay az bY bZ my mz ny nz r1y r1z r2y r2z r5y r5z Wi WB) 63 40 T (L.setIfInBounds 46 true)) (frm 40 T l) w := by
  obtain ⟨o, ho, hd, hg, hop⟩ := op8_46
  have hw := wanted_un (ops := reg8.1) (t := (frm 40 T l).tmps) hg
  exact step_val (v := .bool false) h ho hd hw rfl (ex_move hop ((h.ev (j := 45) (by decide)).trans (h.rw.got 45 (dep_of (a := 45) (by kernel_rfl) hdep) rfl)))

set_option maxRecDepth 100000 in
set_option maxHeartbeats 2000000 in
theorem st8_47 {gA gB gW gP gx gM gN gD ay az bY bZ my mz ny nz r1y r1z r2y r2z r5y r5z : Nat} {Wi : Int} {WB w : World} {T l : List Value} {L : Array Bool} (Q : Exit → Act → World → Prop) (c : C8 gA gB gW gP gx gM gN gD ay az bY bZ my mz ny nz r1y r1z r2y r2z r5y r5z Wi WB T) (h : At (sR gA gB gW gP gx gM gN gD ay az bY bZ my mz ny nz r1y r1z r2y r2z r5y r5z Wi WB) 63 40 T L l w 47)
    (hdep : ∀ o, reg8.1[47]? = some o → ∀ e ∈ o.after, Region.binds .any e = true → did L e.on = true) :
    wpOp Try.prog reg8.1 Q 47 (SI (sR gA gB gW gP gx gM gN gD ay az bY bZ my mz ny nz r1y r1z r2y r2z r5y r5z Wi WB) 63 40 T (L.setIfInBounds 47 true)) (frm 40 T l) w := by
  obtain ⟨o, ho, hd, hg, hop⟩ := op8_47
  obtain ⟨oj, hj, hdj, -, -⟩ := op8_46
  have hw := wanted_go hg hj hdj (by rw [h.len]; decide) h.old (h.rw.got 46 (dep_of (a := 46) (by kernel_rfl) hdep) rfl)
  exact step_val (v := .func (Fn.func 8) #[] #[.pointer (some ⟨gP, 0, none⟩)]) h ho hd hw rfl (ex_move hop ((h.ev0 (s := 11) (by decide)).trans c.t11))

end Go.Proofs.Ytnknpgfconfgjaa

/-
  The law ActionSums of layer 21: the region of the sums, step by step
-/
namespace Go.Proofs.Ytnknpgfconfgjaa
open Go.RowKit Go.Maps

set_option maxRecDepth 100000 in
set_option maxHeartbeats 2000000 in
theorem st8_48 {gA gB gW gP gx gM gN gD ay az bY bZ my mz ny nz r1y r1z r2y r2z r5y r5z : Nat} {Wi : Int} {WB w : World} {T l : List Value} {L : Array Bool} (Q : Exit → Act → World → Prop) (c : C8 gA gB gW gP gx gM gN gD ay az bY bZ my mz ny nz r1y r1z r2y r2z r5y r5z Wi WB T) (h : At (sR gA gB gW gP gx gM gN gD ay az bY bZ my mz ny nz r1y r1z r2y r2z r5y r5z Wi WB) 63 40 T L l w 48)
    (hdep : ∀ o, reg8.1[48]? = some o → ∀ e ∈ o.after, Region.binds .any e = true → did L e.on = true) :
    wpOp Try.prog reg8.1 Q 48 (SI (sR gA gB gW gP gx gM gN gD ay az bY bZ my mz ny nz r1y r1z r2y r2z r5y r5z Wi WB) 63 40 T (L.setIfInBounds 48 true)) (frm 40 T l) w := by
  obtain ⟨o, ho, hd, hg, hop⟩ := op8_48
  obtain ⟨oj, hj, hdj, -, -⟩ := op8_46
  have hw := wanted_go hg hj hdj (by rw [h.len]; decide) h.old (h.rw.got 46 (dep_of (a := 46) (by kernel_rfl) hdep) rfl)
  exact step_val (v := .func (Fn.func 6) #[] #[.pointer (some ⟨gW, 0, none⟩)]) h ho hd hw rfl (ex_move hop ((h.ev0 (s := 10) (by decide)).trans c.t10))

set_option maxRecDepth 100000 in
set_option maxHeartbeats 2000000 in
theorem st8_49 {gA gB gW gP gx gM gN gD ay az bY bZ my mz ny nz r1y r1z r2y r2z r5y r5z : Nat} {Wi : Int} {WB w : World} {T l : List Value} {L : Array Bool} (Q : Exit → Act → World → Prop) (c : C8 gA gB gW gP gx gM gN gD ay az bY bZ my mz ny nz r1y r1z r2y r2z r5y r5z Wi WB T) (h : At (sR gA gB gW gP gx gM gN gD ay az bY bZ my mz ny nz r1y r1z r2y r2z r5y r5z Wi WB) 63 40 T L l w 49)
    (hdep : ∀ o, reg8.1[49]? = some o → ∀ e ∈ o.after, Region.binds .any e = true → did L e.on = true) :
    wpOp Try.prog reg8.1 Q 49 (SI (sR gA gB gW gP gx gM gN gD ay az bY bZ my mz ny nz r1y r1z r2y r2z r5y r5z Wi WB) 63 40 T (L.setIfInBounds 49 true)) (frm 40 T l) w := by
  obtain ⟨o, ho, hd, hg, hop⟩ := op8_49
  obtain ⟨oj, hj, hdj, -, -⟩ := op8_46
  have hw := wanted_go hg hj hdj (by rw [h.len]; decide) h.old (h.rw.got 46 (dep_of (a := 46) (by kernel_rfl) hdep) rfl)
  obtain ⟨z0, z1, z2, z3, z4, z5, z6, z7, z8, z9, z10, z11, z12, z13, z14, z15⟩ := c.cells w h.rw.glob
  exact step_val (v := .agg #[.int .u64 (ay : Int), .int .u64 (az : Int)]) h ho hd hw rfl (ex_load_num hop ((h.ev0 (s := 4) (by decide)).trans c.t4) z0 z1)

set_option maxRecDepth 100000 in
set_option maxHeartbeats 2000000 in
theorem st8_50 {gA gB gW gP gx gM gN gD ay az bY bZ my mz ny nz r1y r1z r2y r2z r5y r5z : Nat} {Wi : Int} {WB w : World} {T l : List Value} {L : Array Bool} (Q : Exit → Act → World → Prop) (c : C8 gA gB gW gP gx gM gN gD ay az bY bZ my mz ny nz r1y r1z r2y r2z r5y r5z Wi WB T) (h : At (sR gA gB gW gP gx gM gN gD ay az bY bZ my mz ny nz r1y r1z r2y r2z r5y r5z Wi WB) 63 40 T L l w 50)
    (hdep : ∀ o, reg8.1[50]? = some o → ∀ e ∈ o.after, Region.binds .any e = true → did L e.on = true) :
    wpOp Try.prog reg8.1 Q 50 (SI (sR gA gB gW gP gx gM gN gD ay az bY bZ my mz ny nz r1y r1z r2y r2z r5y r5z Wi WB) 63 40 T (L.setIfInBounds 50 true)) (frm 40 T l) w := by
  obtain ⟨o, ho, hd, hg, hop⟩ := op8_50
  obtain ⟨oj, hj, hdj, -, -⟩ := op8_46
  have hw := wanted_go hg hj hdj (by rw [h.len]; decide) h.old (h.rw.got 46 (dep_of (a := 46) (by kernel_rfl) hdep) rfl)
  obtain ⟨z0, z1, z2, z3, z4, z5, z6, z7, z8, z9, z10, z11, z12, z13, z14, z15⟩ := c.cells w h.rw.glob
  have e89 := ((h.ev (j := 49) (by decide)).trans (h.rw.got 49 (dep_of (a := 49) (by kernel_rfl) hdep) rfl))
  exact step_call (v := .agg #[.int .u8 1, .int .i64 Wi, .int .i64 0, .int .i64 0, .int .u64 (my : Int), .int .u64 (mz : Int)]) h ho hd hw rfl (ex_call hop rfl ((h.ev (j := 48) (by decide)).trans (h.rw.got 48 (dep_of (a := 48) (by kernel_rfl) hdep) rfl)) (args := #[.agg #[.int .u64 (ay : Int), .int .u64 (az : Int)]]) (by simp only [List.map_toArray, List.map_cons, List.map_nil]; rw [e89]) (by simp) (fun av W => by kernel_rfl)) (c.HCA w z4)

set_option maxRecDepth 100000 in
set_option maxHeartbeats 2000000 in
theorem st8_51 {gA gB gW gP gx gM gN gD ay az bY bZ my mz ny nz r1y r1z r2y r2z r5y r5z : Nat} {Wi : Int} {WB w : World} {T l : List Value} {L : Array Bool} (Q : Exit → Act → World → Prop) (c : C8 gA gB gW gP gx gM gN gD ay az bY bZ my mz ny nz r1y r1z r2y r2z r5y r5z Wi WB T) (h : At (sR gA gB gW gP gx gM gN gD ay az bY bZ my mz ny nz r1y r1z r2y r2z r5y r5z Wi WB) 63 40 T L l w 51)
    (hdep : ∀ o, reg8.1[51]? = some o → ∀ e ∈ o.after, Region.binds .any e = true → did L e.on = true) :
    wpOp Try.prog reg8.1 Q 51 (SI (sR gA gB gW gP gx gM gN gD ay az bY bZ my mz ny nz r1y r1z r2y r2z r5y r5z Wi WB) 63 40 T (L.setIfInBounds 51 true)) (frm 40 T l) w := by
  obtain ⟨o, ho, hd, hg, hop⟩ := op8_51
  obtain ⟨oj, hj, hdj, -, -⟩ := op8_46
  have hw := wanted_go hg hj hdj (by rw [h.len]; decide) h.old (h.rw.got 46 (dep_of (a := 46) (by kernel_rfl) hdep) rfl)
  obtain ⟨z0, z1, z2, z3, z4, z5, z6, z7, z8, z9, z10, z11, z12, z13, z14, z15⟩ := c.cells w h.rw.glob
  exact step_val (v := .int .i64 Wi) h ho hd hw rfl (ex_load_int hop ((h.ev0 (s := 6) (by decide)).trans c.t6) z4)

set_option maxRecDepth 100000 in
set_option maxHeartbeats 2000000 in
theorem st8_52 {gA gB gW gP gx gM gN gD ay az bY bZ my mz ny nz r1y r1z r2y r2z r5y r5z : Nat} {Wi : Int} {WB w : World} {T l : List Value} {L : Array Bool} (Q : Exit → Act → World → Prop) (c : C8 gA gB gW gP gx gM gN gD ay az bY bZ my mz ny nz r1y r1z r2y r2z r5y r5z Wi WB T) (h : At (sR gA gB gW gP gx gM gN gD ay az bY bZ my mz ny nz r1y r1z r2y r2z r5y r5z Wi WB) 63 40 T L l w 52)
    (hdep : ∀ o, reg8.1[52]? = some o → ∀ e ∈ o.after, Region.binds .any e = true → did L e.on = true) :
    wpOp Try.prog reg8.1 Q 52 (SI (sR gA gB gW gP gx gM gN gD ay az bY bZ my mz ny nz r1y r1z r2y r2z r5y r5z Wi WB) 63 40 T (L.setIfInBounds 52 true)) (frm 40 T l) w := by
  obtain ⟨o, ho, hd, hg, hop⟩ := op8_52
  obtain ⟨oj, hj, hdj, -, -⟩ := op8_46
  have hw := wanted_go hg hj hdj (by rw [h.len]; decide) h.old (h.rw.got 46 (dep_of (a := 46) (by kernel_rfl) hdep) rfl)
  exact step_val (v := .agg #[.int .u8 8, .int .i64 Wi, .int .i64 0, .int .i64 0, .int .u64 0, .int .u64 0]) h ho hd hw rfl (ex_build_node hop rfl ((h.ev (j := 51) (by decide)).trans (h.rw.got 51 (dep_of (a := 51) (by kernel_rfl) hdep) rfl)))

set_option maxRecDepth 100000 in
set_option maxHeartbeats 2000000 in
theorem st8_53 {gA gB gW gP gx gM gN gD ay az bY bZ my mz ny nz r1y r1z r2y r2z r5y r5z : Nat} {Wi : Int} {WB w : World} {T l : List Value} {L : Array Bool} (Q : Exit → Act → World → Prop) (c : C8 gA gB gW gP gx gM gN gD ay az bY bZ my mz ny nz r1y r1z r2y r2z r5y r5z Wi WB T) (h : At (sR gA gB gW gP gx gM gN gD ay az bY bZ my mz ny nz r1y r1z r2y r2z r5y r5z Wi WB) 63 40 T L l w 53)
    (hdep : ∀ o, reg8.1[53]? = some o → ∀ e ∈ o.after, Region.binds .any e = true → did L e.on = true) :
    wpOp Try.prog reg8.1 Q 53 (SI (sR gA gB gW gP gx gM gN gD ay az bY bZ my mz ny nz r1y r1z r2y r2z r5y r5z Wi WB) 63 40 T (L.setIfInBounds 53 true)) (frm 40 T l) w := by
  obtain ⟨o, ho, hd, hg, hop⟩ := op8_53
  obtain ⟨oj, hj, hdj, -, -⟩ := op8_46
  have hw := wanted_go hg hj hdj (by rw [h.len]; decide) h.old (h.rw.got 46 (dep_of (a := 46) (by kernel_rfl) hdep) rfl)
  exact step_val (v := .func (Fn.func 6) #[] #[.pointer (some ⟨gW, 0, none⟩)]) h ho hd hw rfl (ex_move hop ((h.ev0 (s := 10) (by decide)).trans c.t10))

set_option maxRecDepth 100000 in
set_option maxHeartbeats 2000000 in
theorem st8_54 {gA gB gW gP gx gM gN gD ay az bY bZ my mz ny nz r1y r1z r2y r2z r5y r5z : Nat} {Wi : Int} {WB w : World} {T l : List Value} {L : Array Bool} (Q : Exit → Act → World → Prop) (c : C8 gA gB gW gP gx gM gN gD ay az bY bZ my mz ny nz r1y r1z r2y r2z r5y r5z Wi WB T) (h : At (sR gA gB gW gP gx gM gN gD ay az bY bZ my mz ny nz r1y r1z r2y r2z r5y r5z Wi WB) 63 40 T L l w 54)
    (hdep : ∀ o, reg8.1[54]? = some o → ∀ e ∈ o.after, Region.binds .any e = true → did L e.on = true) :
    wpOp Try.prog reg8.1 Q 54 (SI (sR gA gB gW gP gx gM gN gD ay az bY bZ my mz ny nz r1y r1z r2y r2z r5y r5z Wi WB) 63 40 T (L.setIfInBounds 54 true)) (frm 40 T l) w := by
  obtain ⟨o, ho, hd, hg, hop⟩ := op8_54
  obtain ⟨oj, hj, hdj, -, -⟩ := op8_46
  have hw := wanted_go hg hj hdj (by rw [h.len]; decide) h.old (h.rw.got 46 (dep_of (a := 46) (by kernel_rfl) hdep) rfl)
  obtain ⟨z0, z1, z2, z3, z4, z5, z6, z7, z8, z9, z10, z11, z12, z13, z14, z15⟩ := c.cells w h.rw.glob
  exact step_val (v := .agg #[.int .u64 (ay : Int), .int .u64 (az : Int)]) h ho hd hw rfl (ex_load_num hop ((h.ev0 (s := 4) (by decide)).trans c.t4) z0 z1)

set_option maxRecDepth 100000 in
set_option maxHeartbeats 2000000 in
theorem st8_55 {gA gB gW gP gx gM gN gD ay az bY bZ my mz ny nz r1y r1z r2y r2z r5y r5z : Nat} {Wi : Int} {WB w : World} {T l : List Value} {L : Array Bool} (Q : Exit → Act → World → Prop) (c : C8 gA gB gW gP gx gM gN gD ay az bY bZ my mz ny nz r1y r1z r2y r2z r5y r5z Wi WB T) (h : At (sR gA gB gW gP gx gM gN gD ay az bY bZ my mz ny nz r1y r1z r2y r2z r5y r5z Wi WB) 63 40 T L l w 55)
    (hdep : ∀ o, reg8.1[55]? = some o → ∀ e ∈ o.after, Region.binds .any e = true → did L e.on = true) :
    wpOp Try.prog reg8.1 Q 55 (SI (sR gA gB gW gP gx gM gN gD ay az bY bZ my mz ny nz r1y r1z r2y r2z r5y r5z Wi WB) 63 40 T (L.setIfInBounds 55 true)) (frm 40 T l) w := by
  obtain ⟨o, ho, hd, hg, hop⟩ := op8_55
  obtain ⟨oj, hj, hdj, -, -⟩ := op8_46
  have hw := wanted_go hg hj hdj (by rw [h.len]; decide) h.old (h.rw.got 46 (dep_of (a := 46) (by kernel_rfl) hdep) rfl)
  obtain ⟨z0, z1, z2, z3, z4, z5, z6, z7, z8, z9, z10, z11, z12, z13, z14, z15⟩ := c.cells w h.rw.glob
  have e94 := ((h.ev (j := 54) (by decide)).trans (h.rw.got 54 (dep_of (a := 54) (by kernel_rfl) hdep) rfl))
  exact step_call (v := .agg #[.int .u8 1, .int .i64 Wi, .int .i64 0, .int .i64 0, .int .u64 (my : Int), .int .u64 (mz : Int)]) h ho hd hw rfl (ex_call hop rfl ((h.ev (j := 53) (by decide)).trans (h.rw.got 53 (dep_of (a := 53) (by kernel_rfl) hdep) rfl)) (args := #[.agg #[.int .u64 (ay : Int), .int .u64 (az : Int)]]) (by simp only [List.map_toArray, List.map_cons, List.map_nil]; rw [e94]) (by simp) (fun av W => by kernel_rfl)) (c.HCA w z4)

set_option maxRecDepth 100000 in
set_option maxHeartbeats 2000000 in
theorem st8_56 {gA gB gW gP gx gM gN gD ay az bY bZ my mz ny nz r1y r1z r2y r2z r5y r5z : Nat} {Wi : Int} {WB w : World} {T l : List Value} {L : Array Bool} (Q : Exit → Act → World → Prop) (c : C8 gA gB gW gP gx gM gN gD ay az bY bZ my mz ny nz r1y r1z r2y r2z r5y r5z Wi WB T) (h : At (sR gA gB gW gP gx gM gN gD ay az bY bZ my mz ny nz r1y r1z r2y r2z r5y r5z Wi WB) 63 40 T L l w 56)
    (hdep : ∀ o, reg8.1[56]? = some o → ∀ e ∈ o.after, Region.binds .any e = true → did L e.on = true) :
    wpOp Try.prog reg8.1 Q 56 (SI (sR gA gB gW gP gx gM gN gD ay az bY bZ my mz ny nz r1y r1z r2y r2z r5y r5z Wi WB) 63 40 T (L.setIfInBounds 56 true)) (frm 40 T l) w := by
  obtain ⟨o, ho, hd, hg, hop⟩ := op8_56
  obtain ⟨oj, hj, hdj, -, -⟩ := op8_46
  have hw := wanted_go hg hj hdj (by rw [h.len]; decide) h.old (h.rw.got 46 (dep_of (a := 46) (by kernel_rfl) hdep) rfl)
  obtain ⟨z0, z1, z2, z3, z4, z5, z6, z7, z8, z9, z10, z11, z12, z13, z14, z15⟩ := c.cells w h.rw.glob
  exact step_val (v := .int .i64 Wi) h ho hd hw rfl (ex_load_int hop ((h.ev0 (s := 6) (by decide)).trans c.t6) z4)

set_option maxRecDepth 100000 in
set_option maxHeartbeats 2000000 in
theorem st8_57 {gA gB gW gP gx gM gN gD ay az bY bZ my mz ny nz r1y r1z r2y r2z r5y r5z : Nat} {Wi : Int} {WB w : World} {T l : List Value} {L : Array Bool} (Q : Exit → Act → World → Prop) (c : C8 gA gB gW gP gx gM gN gD ay az bY bZ my mz ny nz r1y r1z r2y r2z r5y r5z Wi WB T) (h : At (sR gA gB gW gP gx gM gN gD ay az bY bZ my mz ny nz r1y r1z r2y r2z r5y r5z Wi WB) 63 40 T L l w 57)
    (hdep : ∀ o, reg8.1[57]? = some o → ∀ e ∈ o.after, Region.binds .any e = true → did L e.on = true) :
    wpOp Try.prog reg8.1 Q 57 (SI (sR gA gB gW gP gx gM gN gD ay az bY bZ my mz ny nz r1y r1z r2y r2z r5y r5z Wi WB) 63 40 T (L.setIfInBounds 57 true)) (frm 40 T l) w := by
  obtain ⟨o, ho, hd, hg, hop⟩ := op8_57
  obtain ⟨oj, hj, hdj, -, -⟩ := op8_46
  have hw := wanted_go hg hj hdj (by rw [h.len]; decide) h.old (h.rw.got 46 (dep_of (a := 46) (by kernel_rfl) hdep) rfl)
  exact step_val (v := .agg #[.int .u8 11, .int .i64 Wi, .int .i64 0, .int .i64 0, .int .u64 0, .int .u64 0]) h ho hd hw rfl (ex_build_node hop rfl ((h.ev (j := 56) (by decide)).trans (h.rw.got 56 (dep_of (a := 56) (by kernel_rfl) hdep) rfl)))

set_option maxRecDepth 100000 in
set_option maxHeartbeats 2000000 in
theorem st8_58 {gA gB gW gP gx gM gN gD ay az bY bZ my mz ny nz r1y r1z r2y r2z r5y r5z : Nat} {Wi : Int} {WB w : World} {T l : List Value} {L : Array Bool} (Q : Exit → Act → World → Prop) (c : C8 gA gB gW gP gx gM gN gD ay az bY bZ my mz ny nz r1y r1z r2y r2z r5y r5z Wi WB T) (h : At (sR gA gB gW gP gx gM gN gD ay az bY bZ my mz ny nz r1y r1z r2y r2z r5y r5z Wi WB) 63 40 T L l w 58)
    (hdep : ∀ o, reg8.1[58]? = some o → ∀ e ∈ o.after, Region.binds .any e = true → did L e.on = true) :
    wpOp Try.prog reg8.1 Q 58 (SI (sR gA gB gW gP gx gM gN gD ay az bY bZ my mz ny nz r1y r1z r2y r2z r5y r5z Wi WB) 63 40 T (L.setIfInBounds 58 true)) (frm 40 T l) w := by
  obtain ⟨o, ho, hd, hg, hop⟩ := op8_58
  obtain ⟨oj, hj, hdj, -, -⟩ := op8_46
  have hw := wanted_go hg hj hdj (by rw [h.len]; decide) h.old (h.rw.got 46 (dep_of (a := 46) (by kernel_rfl) hdep) rfl)
  exact step_new (js := []) h ho hd hw rfl (fun j hj => by cases hj) ((Below.refl _ _).alloc (Nat.le_refl _) _) ⟨w.heap.size, rfl, ⟨Nat.le_refl _, by simp⟩, heap_new w _⟩ (ex_slice4 hop ((h.ev (j := 50) (by decide)).trans (h.rw.got 50 (dep_of (a := 50) (by kernel_rfl) hdep) rfl)) ((h.ev (j := 52) (by decide)).trans (h.rw.got 52 (dep_of (a := 52) (by kernel_rfl) hdep) rfl)) ((h.ev (j := 55) (by decide)).trans (h.rw.got 55 (dep_of (a := 55) (by kernel_rfl) hdep) rfl)) ((h.ev (j := 57) (by decide)).trans (h.rw.got 57 (dep_of (a := 57) (by kernel_rfl) hdep) rfl)))

set_option maxRecDepth 100000 in
set_option maxHeartbeats 2000000 in
theorem st8_59 {gA gB gW gP gx gM gN gD ay az bY bZ my mz ny nz r1y r1z r2y r2z r5y r5z : Nat} {Wi : Int} {WB w : World} {T l : List Value} {L : Array Bool} (Q : Exit → Act → World → Prop) (c : C8 gA gB gW gP gx gM gN gD ay az bY bZ my mz ny nz r1y r1z r2y r2z r5y r5z Wi WB T) (h : At (sR gA gB gW gP gx gM gN gD ay az bY bZ my mz ny nz r1y r1z r2y r2z r5y r5z Wi WB) 63 40 T L l w 59)
    (hdep : ∀ o, reg8.1[59]? = some o → ∀ e ∈ o.after, Region.binds .any e = true → did L e.on = true) :
    wpOp Try.prog reg8.1 Q 59 (SI (sR gA gB gW gP gx gM gN gD ay az bY bZ my mz ny nz r1y r1z r2y r2z r5y r5z Wi WB) 63 40 T (L.setIfInBounds 59 true)) (frm 40 T l) w := by
  obtain ⟨o, ho, hd, hg, hop⟩ := op8_59
  obtain ⟨oj, hj, hdj, -, -⟩ := op8_46
  have hw := wanted_go hg hj hdj (by rw [h.len]; decide) h.old (h.rw.got 46 (dep_of (a := 46) (by kernel_rfl) hdep) rfl)
  obtain ⟨z0, z1, z2, z3, z4, z5, z6, z7, z8, z9, z10, z11, z12, z13, z14, z15⟩ := c.cells w h.rw.glob
  obtain ⟨BS, -, gS, eS, -, hS⟩ := h.rw.made 58 (dep_of (a := 58) (by kernel_rfl) hdep) rfl
  have e98 := (h.ev (j := 58) (by decide)).trans eS
  exact step_call (v := .agg #[.int .u64 0, .int .u64 0]) h ho hd hw rfl (ex_call hop rfl ((h.ev (j := 47) (by decide)).trans (h.rw.got 47 (dep_of (a := 47) (by kernel_rfl) hdep) rfl)) (args := #[.slice (some ⟨gS, 0, none⟩) 4 4]) (by simp only [List.map_toArray, List.map_cons, List.map_nil]; exact congrArg (fun x => #[x]) e98) (by simp) (fun av W => by kernel_rfl)) (c.HOF4 w gS z5 hS)

set_option maxRecDepth 100000 in
set_option maxHeartbeats 2000000 in
theorem st8_60 {gA gB gW gP gx gM gN gD ay az bY bZ my mz ny nz r1y r1z r2y r2z r5y r5z : Nat} {Wi : Int} {WB w : World} {T l : List Value} {L : Array Bool} (Q : Exit → Act → World → Prop) (c : C8 gA gB gW gP gx gM gN gD ay az bY bZ my mz ny nz r1y r1z r2y r2z r5y r5z Wi WB T) (h : At (sR gA gB gW gP gx gM gN gD ay az bY bZ my mz ny nz r1y r1z r2y r2z r5y r5z Wi WB) 63 40 T L l w 60)
    (hdep : ∀ o, reg8.1[60]? = some o → ∀ e ∈ o.after, Region.binds .any e = true → did L e.on = true) :
    wpOp Try.prog reg8.1 Q 60 (SI (sR gA gB gW gP gx gM gN gD ay az bY bZ my mz ny nz r1y r1z r2y r2z r5y r5z Wi WB) 63 40 T (L.setIfInBounds 60 true)) (frm 40 T l) w := by
  obtain ⟨o, ho, hd, hg, hop⟩ := op8_60
  obtain ⟨oj, hj, hdj, -, -⟩ := op8_46
  have hw := wanted_go hg hj hdj (by rw [h.len]; decide) h.old (h.rw.got 46 (dep_of (a := 46) (by kernel_rfl) hdep) rfl)
  exact step_val (v := .agg #[.int .u64 0, .int .u64 0]) h ho hd hw rfl (ex_build_num hop)

set_option maxRecDepth 100000 in
set_option maxHeartbeats 2000000 in
theorem st8_61 {gA gB gW gP gx gM gN gD ay az bY bZ my mz ny nz r1y r1z r2y r2z r5y r5z : Nat} {Wi : Int} {WB w : World} {T l : List Value} {L : Array Bool} (Q : Exit → Act → World → Prop) (c : C8 gA gB gW gP gx gM gN gD ay az bY bZ my mz ny nz r1y r1z r2y r2z r5y r5z Wi WB T) (h : At (sR gA gB gW gP gx gM gN gD ay az bY bZ my mz ny nz r1y r1z r2y r2z r5y r5z Wi WB) 63 40 T L l w 61)
    (hdep : ∀ o, reg8.1[61]? = some o → ∀ e ∈ o.after, Region.binds .any e = true → did L e.on = true) :
    wpOp Try.prog reg8.1 Q 61 (SI (sR gA gB gW gP gx gM gN gD ay az bY bZ my mz ny nz r1y r1z r2y r2z r5y r5z Wi WB) 63 40 T (L.setIfInBounds 61 true)) (frm 40 T l) w := by
  obtain ⟨o, ho, hd, hg, hop⟩ := op8_61
  obtain ⟨oj, hj, hdj, -, -⟩ := op8_46
  have hw := wanted_go hg hj hdj (by rw [h.len]; decide) h.old (h.rw.got 46 (dep_of (a := 46) (by kernel_rfl) hdep) rfl)
  exact step_val (v := .bool false) h ho hd hw rfl (ex_neq hop ((h.ev (j := 59) (by decide)).trans (h.rw.got 59 (dep_of (a := 59) (by kernel_rfl) hdep) rfl)) ((h.ev (j := 60) (by decide)).trans (h.rw.got 60 (dep_of (a := 60) (by kernel_rfl) hdep) rfl)))

set_option maxRecDepth 100000 in
set_option maxHeartbeats 2000000 in
theorem st8_62 {gA gB gW gP gx gM gN gD ay az bY bZ my mz ny nz r1y r1z r2y r2z r5y r5z : Nat} {Wi : Int} {WB w : World} {T l : List Value} {L : Array Bool} (Q : Exit → Act → World → Prop) (c : C8 gA gB gW gP gx gM gN gD ay az bY bZ my mz ny nz r1y r1z r2y r2z r5y r5z Wi WB T) (h : At (sR gA gB gW gP gx gM gN gD ay az bY bZ my mz ny nz r1y r1z r2y r2z r5y r5z Wi WB) 63 40 T L l w 62)
    (hdep : ∀ o, reg8.1[62]? = some o → ∀ e ∈ o.after, Region.binds .any e = true → did L e.on = true) :
    wpOp Try.prog reg8.1 Q 62 (SI (sR gA gB gW gP gx gM gN gD ay az bY bZ my mz ny nz r1y r1z r2y r2z r5y r5z Wi WB) 63 40 T (L.setIfInBounds 62 true)) (frm 40 T l) w := by
  obtain ⟨o, ho, hd, hg, hop⟩ := op8_62
  have hw := wanted_un (ops := reg8.1) (t := (frm 40 T l).tmps) hg
  exact step_val (v := .bool false) h ho hd hw rfl (ex_pick hop ((h.ev (j := 46) (by decide)).trans (h.rw.got 46 (dep_of (a := 46) (by kernel_rfl) hdep) rfl)) ((h.ev (j := 61) (by decide)).trans (h.rw.got 61 (dep_of (a := 61) (by kernel_rfl) hdep) rfl)))

end Go.Proofs.Ytnknpgfconfgjaa

/-
  The law ActionSums of layer 21: the region of the sums, step by step
-/
import Derived.Test.YtnknpgfconfgjaaJA15

namespace Go.Proofs.Ytnknpgfconfgjaa
open Go.RowKit Go.Maps

set_option maxRecDepth 100000 in
set_option maxHeartbeats 2000000 in
theorem st8_16 {gA gB gW gP gx gM gN gD ay az bY bZ my mz ny nz r1y r1z r2y r2z r5y r5z : Nat} {Wi : Int} {WB w : World} {T l : List Value} {L : Array Bool} (Q : Exit → Act → World → Prop) (c : C8 gA gB gW gP gx gM gN gD ay az bY bZ my mz ny nz r1y r1z r2y r2z r5y r5z Wi WB T) (h : At (sR gA gB gW gP gx gM gN gD ay az bY bZ my mz ny nz r1y r1z r2y r2z r5y r5z Wi WB) 63 40 T L l w 16)
    (hdep : ∀ o, reg8.1[16]? = some o → ∀ e ∈ o.after, Region.binds .any e = true → did L e.on = true) :
    wpOp Try.prog reg8.1 Q 16 (SI (sR gA gB gW gP gx gM gN gD ay az bY bZ my mz ny nz r1y r1z r2y r2z r5y r5z Wi WB) 63 40 T (L.setIfInBounds 16 true)) (frm 40 T l) w := by
  obtain ⟨o, ho, hd, hg, hop⟩ := op8_16
  have hw := wanted_un (ops := reg8.1) (t := (frm 40 T l).tmps) hg
  exact step_val (v := .bool false) h ho hd hw rfl (ex_move hop ((h.ev (j := 15) (by decide)).trans (h.rw.got 15 (dep_of (a := 15) (by kernel_rfl) hdep) rfl)))

set_option maxRecDepth 100000 in
set_option maxHeartbeats 2000000 in
theorem st8_17 {gA gB gW gP gx gM gN gD ay az bY bZ my mz ny nz r1y r1z r2y r2z r5y r5z : Nat} {Wi : Int} {WB w : World} {T l : List Value} {L : Array Bool} (Q : Exit → Act → World → Prop) (c : C8 gA gB gW gP gx gM gN gD ay az bY bZ my mz ny nz r1y r1z r2y r2z r5y r5z Wi WB T) (h : At (sR gA gB gW gP gx gM gN gD ay az bY bZ my mz ny nz r1y r1z r2y r2z r5y r5z Wi WB) 63 40 T L l w 17)
    (hdep : ∀ o, reg8.1[17]? = some o → ∀ e ∈ o.after, Region.binds .any e = true → did L e.on = true) :
    wpOp Try.prog reg8.1 Q 17 (SI (sR gA gB gW gP gx gM gN gD ay az bY bZ my mz ny nz r1y r1z r2y r2z r5y r5z Wi WB) 63 40 T (L.setIfInBounds 17 true)) (frm 40 T l) w := by
  obtain ⟨o, ho, hd, hg, hop⟩ := op8_17
  obtain ⟨oj, hj, hdj, -, -⟩ := op8_16
  have hw := wanted_go hg hj hdj (by rw [h.len]; decide) h.old (h.rw.got 16 (dep_of (a := 16) (by kernel_rfl) hdep) rfl)
  exact step_val (v := .func (Fn.func 8) #[] #[.pointer (some ⟨gP, 0, none⟩)]) h ho hd hw rfl (ex_move hop ((h.ev0 (s := 11) (by decide)).trans c.t11))

set_option maxRecDepth 100000 in
set_option maxHeartbeats 2000000 in
theorem st8_18 {gA gB gW gP gx gM gN gD ay az bY bZ my mz ny nz r1y r1z r2y r2z r5y r5z : Nat} {Wi : Int} {WB w : World} {T l : List Value} {L : Array Bool} (Q : Exit → Act → World → Prop) (c : C8 gA gB gW gP gx gM gN gD ay az bY bZ my mz ny nz r1y r1z r2y r2z r5y r5z Wi WB T) (h : At (sR gA gB gW gP gx gM gN gD ay az bY bZ my mz ny nz r1y r1z r2y r2z r5y r5z Wi WB) 63 40 T L l w 18)
    (hdep : ∀ o, reg8.1[18]? = some o → ∀ e ∈ o.after, Region.binds .any e = true → did L e.on = true) :
    wpOp Try.prog reg8.1 Q 18 (SI (sR gA gB gW gP gx gM gN gD ay az bY bZ my mz ny nz r1y r1z r2y r2z r5y r5z Wi WB) 63 40 T (L.setIfInBounds 18 true)) (frm 40 T l) w := by
  obtain ⟨o, ho, hd, hg, hop⟩ := op8_18
  obtain ⟨oj, hj, hdj, -, -⟩ := op8_16
  have hw := wanted_go hg hj hdj (by rw [h.len]; decide) h.old (h.rw.got 16 (dep_of (a := 16) (by kernel_rfl) hdep) rfl)
  exact step_val (v := .func (Fn.func 6) #[] #[.pointer (some ⟨gW, 0, none⟩)]) h ho hd hw rfl (ex_move hop ((h.ev0 (s := 10) (by decide)).trans c.t10))

set_option maxRecDepth 100000 in
set_option maxHeartbeats 2000000 in
theorem st8_19 {gA gB gW gP gx gM gN gD ay az bY bZ my mz ny nz r1y r1z r2y r2z r5y r5z : Nat} {Wi : Int} {WB w : World} {T l : List Value} {L : Array Bool} (Q : Exit → Act → World → Prop) (c : C8 gA gB gW gP gx gM gN gD ay az bY bZ my mz ny nz r1y r1z r2y r2z r5y r5z Wi WB T) (h : At (sR gA gB gW gP gx gM gN gD ay az bY bZ my mz ny nz r1y r1z r2y r2z r5y r5z Wi WB) 63 40 T L l w 19)
    (hdep : ∀ o, reg8.1[19]? = some o → ∀ e ∈ o.after, Region.binds .any e = true → did L e.on = true) :
    wpOp Try.prog reg8.1 Q 19 (SI (sR gA gB gW gP gx gM gN gD ay az bY bZ my mz ny nz r1y r1z r2y r2z r5y r5z Wi WB) 63 40 T (L.setIfInBounds 19 true)) (frm 40 T l) w := by
  obtain ⟨o, ho, hd, hg, hop⟩ := op8_19
  obtain ⟨oj, hj, hdj, -, -⟩ := op8_16
  have hw := wanted_go hg hj hdj (by rw [h.len]; decide) h.old (h.rw.got 16 (dep_of (a := 16) (by kernel_rfl) hdep) rfl)
  obtain ⟨z0, z1, z2, z3, z4, z5, z6, z7, z8, z9, z10, z11, z12, z13, z14, z15⟩ := c.cells w h.rw.glob
  exact step_val (v := .agg #[.int .u64 (ay : Int), .int .u64 (az : Int)]) h ho hd hw rfl (ex_load_num hop ((h.ev0 (s := 4) (by decide)).trans c.t4) z0 z1)

set_option maxRecDepth 100000 in
set_option maxHeartbeats 2000000 in
theorem st8_20 {gA gB gW gP gx gM gN gD ay az bY bZ my mz ny nz r1y r1z r2y r2z r5y r5z : Nat} {Wi : Int} {WB w : World} {T l : List Value} {L : Array Bool} (Q : Exit → Act → World → Prop) (c : C8 gA gB gW gP gx gM gN gD ay az bY bZ my mz ny nz r1y r1z r2y r2z r5y r5z Wi WB T) (h : At (sR gA gB gW gP gx gM gN gD ay az bY bZ my mz ny nz r1y r1z r2y r2z r5y r5z Wi WB) 63 40 T L l w 20)
    (hdep : ∀ o, reg8.1[20]? = some o → ∀ e ∈ o.after, Region.binds .any e = true → did L e.on = true) :
    wpOp Try.prog reg8.1 Q 20 (SI (sR gA gB gW gP gx gM gN gD ay az bY bZ my mz ny nz r1y r1z r2y r2z r5y r5z Wi WB) 63 40 T (L.setIfInBounds 20 true)) (frm 40 T l) w := by
  obtain ⟨o, ho, hd, hg, hop⟩ := op8_20
  obtain ⟨oj, hj, hdj, -, -⟩ := op8_16
  have hw := wanted_go hg hj hdj (by rw [h.len]; decide) h.old (h.rw.got 16 (dep_of (a := 16) (by kernel_rfl) hdep) rfl)
  obtain ⟨z0, z1, z2, z3, z4, z5, z6, z7, z8, z9, z10, z11, z12, z13, z14, z15⟩ := c.cells w h.rw.glob
  have e59 := ((h.ev (j := 19) (by decide)).trans (h.rw.got 19 (dep_of (a := 19) (by kernel_rfl) hdep) rfl))
  exact step_call (v := .agg #[.int .u8 1, .int .i64 Wi, .int .i64 0, .int .i64 0, .int .u64 (my : Int), .int .u64 (mz : Int)]) h ho hd hw rfl (ex_call hop rfl ((h.ev (j := 18) (by decide)).trans (h.rw.got 18 (dep_of (a := 18) (by kernel_rfl) hdep) rfl)) (args := #[.agg #[.int .u64 (ay : Int), .int .u64 (az : Int)]]) (by simp only [List.map_toArray, List.map_cons, List.map_nil]; rw [e59]) (by simp) (fun av W => by kernel_rfl)) (c.HCA w z4)

set_option maxRecDepth 100000 in
set_option maxHeartbeats 2000000 in
theorem st8_21 {gA gB gW gP gx gM gN gD ay az bY bZ my mz ny nz r1y r1z r2y r2z r5y r5z : Nat} {Wi : Int} {WB w : World} {T l : List Value} {L : Array Bool} (Q : Exit → Act → World → Prop) (c : C8 gA gB gW gP gx gM gN gD ay az bY bZ my mz ny nz r1y r1z r2y r2z r5y r5z Wi WB T) (h : At (sR gA gB gW gP gx gM gN gD ay az bY bZ my mz ny nz r1y r1z r2y r2z r5y r5z Wi WB) 63 40 T L l w 21)
    (hdep : ∀ o, reg8.1[21]? = some o → ∀ e ∈ o.after, Region.binds .any e = true → did L e.on = true) :
    wpOp Try.prog reg8.1 Q 21 (SI (sR gA gB gW gP gx gM gN gD ay az bY bZ my mz ny nz r1y r1z r2y r2z r5y r5z Wi WB) 63 40 T (L.setIfInBounds 21 true)) (frm 40 T l) w := by
  obtain ⟨o, ho, hd, hg, hop⟩ := op8_21
  obtain ⟨oj, hj, hdj, -, -⟩ := op8_16
  have hw := wanted_go hg hj hdj (by rw [h.len]; decide) h.old (h.rw.got 16 (dep_of (a := 16) (by kernel_rfl) hdep) rfl)
  exact step_val (v := .func (Fn.func 6) #[] #[.pointer (some ⟨gW, 0, none⟩)]) h ho hd hw rfl (ex_move hop ((h.ev0 (s := 10) (by decide)).trans c.t10))

set_option maxRecDepth 100000 in
set_option maxHeartbeats 2000000 in
theorem st8_22 {gA gB gW gP gx gM gN gD ay az bY bZ my mz ny nz r1y r1z r2y r2z r5y r5z : Nat} {Wi : Int} {WB w : World} {T l : List Value} {L : Array Bool} (Q : Exit → Act → World → Prop) (c : C8 gA gB gW gP gx gM gN gD ay az bY bZ my mz ny nz r1y r1z r2y r2z r5y r5z Wi WB T) (h : At (sR gA gB gW gP gx gM gN gD ay az bY bZ my mz ny nz r1y r1z r2y r2z r5y r5z Wi WB) 63 40 T L l w 22)
    (hdep : ∀ o, reg8.1[22]? = some o → ∀ e ∈ o.after, Region.binds .any e = true → did L e.on = true) :
    wpOp Try.prog reg8.1 Q 22 (SI (sR gA gB gW gP gx gM gN gD ay az bY bZ my mz ny nz r1y r1z r2y r2z r5y r5z Wi WB) 63 40 T (L.setIfInBounds 22 true)) (frm 40 T l) w := by
  obtain ⟨o, ho, hd, hg, hop⟩ := op8_22
  obtain ⟨oj, hj, hdj, -, -⟩ := op8_16
  have hw := wanted_go hg hj hdj (by rw [h.len]; decide) h.old (h.rw.got 16 (dep_of (a := 16) (by kernel_rfl) hdep) rfl)
  obtain ⟨z0, z1, z2, z3, z4, z5, z6, z7, z8, z9, z10, z11, z12, z13, z14, z15⟩ := c.cells w h.rw.glob
  exact step_val (v := .agg #[.int .u64 (bY : Int), .int .u64 (bZ : Int)]) h ho hd hw rfl (ex_load_num hop ((h.ev0 (s := 5) (by decide)).trans c.t5) z2 z3)

set_option maxRecDepth 100000 in
set_option maxHeartbeats 2000000 in
theorem st8_23 {gA gB gW gP gx gM gN gD ay az bY bZ my mz ny nz r1y r1z r2y r2z r5y r5z : Nat} {Wi : Int} {WB w : World} {T l : List Value} {L : Array Bool} (Q : Exit → Act → World → Prop) (c : C8 gA gB gW gP gx gM gN gD ay az bY bZ my mz ny nz r1y r1z r2y r2z r5y r5z Wi WB T) (h : At (sR gA gB gW gP gx gM gN gD ay az bY bZ my mz ny nz r1y r1z r2y r2z r5y r5z Wi WB) 63 40 T L l w 23)
    (hdep : ∀ o, reg8.1[23]? = some o → ∀ e ∈ o.after, Region.binds .any e = true → did L e.on = true) :
    wpOp Try.prog reg8.1 Q 23 (SI (sR gA gB gW gP gx gM gN gD ay az bY bZ my mz ny nz r1y r1z r2y r2z r5y r5z Wi WB) 63 40 T (L.setIfInBounds 23 true)) (frm 40 T l) w := by
  obtain ⟨o, ho, hd, hg, hop⟩ := op8_23
  obtain ⟨oj, hj, hdj, -, -⟩ := op8_16
  have hw := wanted_go hg hj hdj (by rw [h.len]; decide) h.old (h.rw.got 16 (dep_of (a := 16) (by kernel_rfl) hdep) rfl)
  obtain ⟨z0, z1, z2, z3, z4, z5, z6, z7, z8, z9, z10, z11, z12, z13, z14, z15⟩ := c.cells w h.rw.glob
  have e62 := ((h.ev (j := 22) (by decide)).trans (h.rw.got 22 (dep_of (a := 22) (by kernel_rfl) hdep) rfl))
  exact step_call (v := .agg #[.int .u8 1, .int .i64 Wi, .int .i64 0, .int .i64 0, .int .u64 (ny : Int), .int .u64 (nz : Int)]) h ho hd hw rfl (ex_call hop rfl ((h.ev (j := 21) (by decide)).trans (h.rw.got 21 (dep_of (a := 21) (by kernel_rfl) hdep) rfl)) (args := #[.agg #[.int .u64 (bY : Int), .int .u64 (bZ : Int)]]) (by simp only [List.map_toArray, List.map_cons, List.map_nil]; rw [e62]) (by simp) (fun av W => by kernel_rfl)) (c.HCB w z4)

set_option maxRecDepth 100000 in
set_option maxHeartbeats 2000000 in
theorem st8_24 {gA gB gW gP gx gM gN gD ay az bY bZ my mz ny nz r1y r1z r2y r2z r5y r5z : Nat} {Wi : Int} {WB w : World} {T l : List Value} {L : Array Bool} (Q : Exit → Act → World → Prop) (c : C8 gA gB gW gP gx gM gN gD ay az bY bZ my mz ny nz r1y r1z r2y r2z r5y r5z Wi WB T) (h : At (sR gA gB gW gP gx gM gN gD ay az bY bZ my mz ny nz r1y r1z r2y r2z r5y r5z Wi WB) 63 40 T L l w 24)
    (hdep : ∀ o, reg8.1[24]? = some o → ∀ e ∈ o.after, Region.binds .any e = true → did L e.on = true) :
    wpOp Try.prog reg8.1 Q 24 (SI (sR gA gB gW gP gx gM gN gD ay az bY bZ my mz ny nz r1y r1z r2y r2z r5y r5z Wi WB) 63 40 T (L.setIfInBounds 24 true)) (frm 40 T l) w := by
  obtain ⟨o, ho, hd, hg, hop⟩ := op8_24
  obtain ⟨oj, hj, hdj, -, -⟩ := op8_16
  have hw := wanted_go hg hj hdj (by rw [h.len]; decide) h.old (h.rw.got 16 (dep_of (a := 16) (by kernel_rfl) hdep) rfl)
  obtain ⟨z0, z1, z2, z3, z4, z5, z6, z7, z8, z9, z10, z11, z12, z13, z14, z15⟩ := c.cells w h.rw.glob
  exact step_val (v := .int .i64 Wi) h ho hd hw rfl (ex_load_int hop ((h.ev0 (s := 6) (by decide)).trans c.t6) z4)

set_option maxRecDepth 100000 in
set_option maxHeartbeats 2000000 in
theorem st8_25 {gA gB gW gP gx gM gN gD ay az bY bZ my mz ny nz r1y r1z r2y r2z r5y r5z : Nat} {Wi : Int} {WB w : World} {T l : List Value} {L : Array Bool} (Q : Exit → Act → World → Prop) (c : C8 gA gB gW gP gx gM gN gD ay az bY bZ my mz ny nz r1y r1z r2y r2z r5y r5z Wi WB T) (h : At (sR gA gB gW gP gx gM gN gD ay az bY bZ my mz ny nz r1y r1z r2y r2z r5y r5z Wi WB) 63 40 T L l w 25)
    (hdep : ∀ o, reg8.1[25]? = some o → ∀ e ∈ o.after, Region.binds .any e = true → did L e.on = true) :
    wpOp Try.prog reg8.1 Q 25 (SI (sR gA gB gW gP gx gM gN gD ay az bY bZ my mz ny nz r1y r1z r2y r2z r5y r5z Wi WB) 63 40 T (L.setIfInBounds 25 true)) (frm 40 T l) w := by
  obtain ⟨o, ho, hd, hg, hop⟩ := op8_25
  obtain ⟨oj, hj, hdj, -, -⟩ := op8_16
  have hw := wanted_go hg hj hdj (by rw [h.len]; decide) h.old (h.rw.got 16 (dep_of (a := 16) (by kernel_rfl) hdep) rfl)
  exact step_val (v := .agg #[.int .u8 12, .int .i64 Wi, .int .i64 0, .int .i64 0, .int .u64 0, .int .u64 0]) h ho hd hw rfl (ex_build_node hop rfl ((h.ev (j := 24) (by decide)).trans (h.rw.got 24 (dep_of (a := 24) (by kernel_rfl) hdep) rfl)))

set_option maxRecDepth 100000 in
set_option maxHeartbeats 2000000 in
theorem st8_26 {gA gB gW gP gx gM gN gD ay az bY bZ my mz ny nz r1y r1z r2y r2z r5y r5z : Nat} {Wi : Int} {WB w : World} {T l : List Value} {L : Array Bool} (Q : Exit → Act → World → Prop) (c : C8 gA gB gW gP gx gM gN gD ay az bY bZ my mz ny nz r1y r1z r2y r2z r5y r5z Wi WB T) (h : At (sR gA gB gW gP gx gM gN gD ay az bY bZ my mz ny nz r1y r1z r2y r2z r5y r5z Wi WB) 63 40 T L l w 26)
    (hdep : ∀ o, reg8.1[26]? = some o → ∀ e ∈ o.after, Region.binds .any e = true → did L e.on = true) :
    wpOp Try.prog reg8.1 Q 26 (SI (sR gA gB gW gP gx gM gN gD ay az bY bZ my mz ny nz r1y r1z r2y r2z r5y r5z Wi WB) 63 40 T (L.setIfInBounds 26 true)) (frm 40 T l) w := by
  obtain ⟨o, ho, hd, hg, hop⟩ := op8_26
  obtain ⟨oj, hj, hdj, -, -⟩ := op8_16
  have hw := wanted_go hg hj hdj (by rw [h.len]; decide) h.old (h.rw.got 16 (dep_of (a := 16) (by kernel_rfl) hdep) rfl)
  exact step_new (js := []) h ho hd hw rfl (fun j hj => by cases hj) ((Below.refl _ _).alloc (Nat.le_refl _) _) ⟨w.heap.size, rfl, ⟨Nat.le_refl _, by simp⟩, heap_new w _⟩ (ex_slice3 hop ((h.ev (j := 20) (by decide)).trans (h.rw.got 20 (dep_of (a := 20) (by kernel_rfl) hdep) rfl)) ((h.ev (j := 23) (by decide)).trans (h.rw.got 23 (dep_of (a := 23) (by kernel_rfl) hdep) rfl)) ((h.ev (j := 25) (by decide)).trans (h.rw.got 25 (dep_of (a := 25) (by kernel_rfl) hdep) rfl)))

set_option maxRecDepth 100000 in
set_option maxHeartbeats 2000000 in
theorem st8_27 {gA gB gW gP gx gM gN gD ay az bY bZ my mz ny nz r1y r1z r2y r2z r5y r5z : Nat} {Wi : Int} {WB w : World} {T l : List Value} {L : Array Bool} (Q : Exit → Act → World → Prop) (c : C8 gA gB gW gP gx gM gN gD ay az bY bZ my mz ny nz r1y r1z r2y r2z r5y r5z Wi WB T) (h : At (sR gA gB gW gP gx gM gN gD ay az bY bZ my mz ny nz r1y r1z r2y r2z r5y r5z Wi WB) 63 40 T L l w 27)
    (hdep : ∀ o, reg8.1[27]? = some o → ∀ e ∈ o.after, Region.binds .any e = true → did L e.on = true) :
    wpOp Try.prog reg8.1 Q 27 (SI (sR gA gB gW gP gx gM gN gD ay az bY bZ my mz ny nz r1y r1z r2y r2z r5y r5z Wi WB) 63 40 T (L.setIfInBounds 27 true)) (frm 40 T l) w := by
  obtain ⟨o, ho, hd, hg, hop⟩ := op8_27
  obtain ⟨oj, hj, hdj, -, -⟩ := op8_16
  have hw := wanted_go hg hj hdj (by rw [h.len]; decide) h.old (h.rw.got 16 (dep_of (a := 16) (by kernel_rfl) hdep) rfl)
  obtain ⟨z0, z1, z2, z3, z4, z5, z6, z7, z8, z9, z10, z11, z12, z13, z14, z15⟩ := c.cells w h.rw.glob
  obtain ⟨BS, -, gS, eS, -, hS⟩ := h.rw.made 26 (dep_of (a := 26) (by kernel_rfl) hdep) rfl
  have e66 := (h.ev (j := 26) (by decide)).trans eS
  exact step_call (v := .agg #[.int .u64 (r2y : Int), .int .u64 (r2z : Int)]) h ho hd hw rfl (ex_call hop rfl ((h.ev (j := 17) (by decide)).trans (h.rw.got 17 (dep_of (a := 17) (by kernel_rfl) hdep) rfl)) (args := #[.slice (some ⟨gS, 0, none⟩) 3 3]) (by simp only [List.map_toArray, List.map_cons, List.map_nil]; exact congrArg (fun x => #[x]) e66) (by simp) (fun av W => by kernel_rfl)) (c.HOF2 w gS z5 hS)

set_option maxRecDepth 100000 in
set_option maxHeartbeats 2000000 in
theorem st8_28 {gA gB gW gP gx gM gN gD ay az bY bZ my mz ny nz r1y r1z r2y r2z r5y r5z : Nat} {Wi : Int} {WB w : World} {T l : List Value} {L : Array Bool} (Q : Exit → Act → World → Prop) (c : C8 gA gB gW gP gx gM gN gD ay az bY bZ my mz ny nz r1y r1z r2y r2z r5y r5z Wi WB T) (h : At (sR gA gB gW gP gx gM gN gD ay az bY bZ my mz ny nz r1y r1z r2y r2z r5y r5z Wi WB) 63 40 T L l w 28)
    (hdep : ∀ o, reg8.1[28]? = some o → ∀ e ∈ o.after, Region.binds .any e = true → did L e.on = true) :
    wpOp Try.prog reg8.1 Q 28 (SI (sR gA gB gW gP gx gM gN gD ay az bY bZ my mz ny nz r1y r1z r2y r2z r5y r5z Wi WB) 63 40 T (L.setIfInBounds 28 true)) (frm 40 T l) w := by
  obtain ⟨o, ho, hd, hg, hop⟩ := op8_28
  obtain ⟨oj, hj, hdj, -, -⟩ := op8_16
  have hw := wanted_go hg hj hdj (by rw [h.len]; decide) h.old (h.rw.got 16 (dep_of (a := 16) (by kernel_rfl) hdep) rfl)
  obtain ⟨z0, z1, z2, z3, z4, z5, z6, z7, z8, z9, z10, z11, z12, z13, z14, z15⟩ := c.cells w h.rw.glob
  exact step_val (v := .agg #[.int .u64 (my : Int), .int .u64 (mz : Int)]) h ho hd hw rfl (ex_load_num hop ((h.ev0 (s := 12) (by decide)).trans c.t12) z6 z7)

set_option maxRecDepth 100000 in
set_option maxHeartbeats 2000000 in
theorem st8_29 {gA gB gW gP gx gM gN gD ay az bY bZ my mz ny nz r1y r1z r2y r2z r5y r5z : Nat} {Wi : Int} {WB w : World} {T l : List Value} {L : Array Bool} (Q : Exit → Act → World → Prop) (c : C8 gA gB gW gP gx gM gN gD ay az bY bZ my mz ny nz r1y r1z r2y r2z r5y r5z Wi WB T) (h : At (sR gA gB gW gP gx gM gN gD ay az bY bZ my mz ny nz r1y r1z r2y r2z r5y r5z Wi WB) 63 40 T L l w 29)
    (hdep : ∀ o, reg8.1[29]? = some o → ∀ e ∈ o.after, Region.binds .any e = true → did L e.on = true) :
    wpOp Try.prog reg8.1 Q 29 (SI (sR gA gB gW gP gx gM gN gD ay az bY bZ my mz ny nz r1y r1z r2y r2z r5y r5z Wi WB) 63 40 T (L.setIfInBounds 29 true)) (frm 40 T l) w := by
  obtain ⟨o, ho, hd, hg, hop⟩ := op8_29
  obtain ⟨oj, hj, hdj, -, -⟩ := op8_16
  have hw := wanted_go hg hj hdj (by rw [h.len]; decide) h.old (h.rw.got 16 (dep_of (a := 16) (by kernel_rfl) hdep) rfl)
  obtain ⟨z0, z1, z2, z3, z4, z5, z6, z7, z8, z9, z10, z11, z12, z13, z14, z15⟩ := c.cells w h.rw.glob
  exact step_val (v := .agg #[.int .u64 (ny : Int), .int .u64 (nz : Int)]) h ho hd hw rfl (ex_load_num hop ((h.ev0 (s := 13) (by decide)).trans c.t13) z8 z9)

set_option maxRecDepth 100000 in
set_option maxHeartbeats 2000000 in
theorem st8_30 {gA gB gW gP gx gM gN gD ay az bY bZ my mz ny nz r1y r1z r2y r2z r5y r5z : Nat} {Wi : Int} {WB w : World} {T l : List Value} {L : Array Bool} (Q : Exit → Act → World → Prop) (c : C8 gA gB gW gP gx gM gN gD ay az bY bZ my mz ny nz r1y r1z r2y r2z r5y r5z Wi WB T) (h : At (sR gA gB gW gP gx gM gN gD ay az bY bZ my mz ny nz r1y r1z r2y r2z r5y r5z Wi WB) 63 40 T L l w 30)
    (hdep : ∀ o, reg8.1[30]? = some o → ∀ e ∈ o.after, Region.binds .any e = true → did L e.on = true) :
    wpOp Try.prog reg8.1 Q 30 (SI (sR gA gB gW gP gx gM gN gD ay az bY bZ my mz ny nz r1y r1z r2y r2z r5y r5z Wi WB) 63 40 T (L.setIfInBounds 30 true)) (frm 40 T l) w := by
  obtain ⟨o, ho, hd, hg, hop⟩ := op8_30
  obtain ⟨oj, hj, hdj, -, -⟩ := op8_16
  have hw := wanted_go hg hj hdj (by rw [h.len]; decide) h.old (h.rw.got 16 (dep_of (a := 16) (by kernel_rfl) hdep) rfl)
  obtain ⟨z0, z1, z2, z3, z4, z5, z6, z7, z8, z9, z10, z11, z12, z13, z14, z15⟩ := c.cells w h.rw.glob
  exact step_val (v := .int .i64 Wi) h ho hd hw rfl (ex_load_int hop ((h.ev0 (s := 6) (by decide)).trans c.t6) z4)

set_option maxRecDepth 100000 in
set_option maxHeartbeats 2000000 in
theorem st8_31 {gA gB gW gP gx gM gN gD ay az bY bZ my mz ny nz r1y r1z r2y r2z r5y r5z : Nat} {Wi : Int} {WB w : World} {T l : List Value} {L : Array Bool} (Q : Exit → Act → World → Prop) (c : C8 gA gB gW gP gx gM gN gD ay az bY bZ my mz ny nz r1y r1z r2y r2z r5y r5z Wi WB T) (h : At (sR gA gB gW gP gx gM gN gD ay az bY bZ my mz ny nz r1y r1z r2y r2z r5y r5z Wi WB) 63 40 T L l w 31)
    (hdep : ∀ o, reg8.1[31]? = some o → ∀ e ∈ o.after, Region.binds .any e = true → did L e.on = true) :
    wpOp Try.prog reg8.1 Q 31 (SI (sR gA gB gW gP gx gM gN gD ay az bY bZ my mz ny nz r1y r1z r2y r2z r5y r5z Wi WB) 63 40 T (L.setIfInBounds 31 true)) (frm 40 T l) w := by
  obtain ⟨o, ho, hd, hg, hop⟩ := op8_31
  obtain ⟨oj, hj, hdj, -, -⟩ := op8_16
  have hw := wanted_go hg hj hdj (by rw [h.len]; decide) h.old (h.rw.got 16 (dep_of (a := 16) (by kernel_rfl) hdep) rfl)
  have e68 := ((h.ev (j := 28) (by decide)).trans (h.rw.got 28 (dep_of (a := 28) (by kernel_rfl) hdep) rfl))
  have e69 := ((h.ev (j := 29) (by decide)).trans (h.rw.got 29 (dep_of (a := 29) (by kernel_rfl) hdep) rfl))
  have e70 := ((h.ev (j := 30) (by decide)).trans (h.rw.got 30 (dep_of (a := 30) (by kernel_rfl) hdep) rfl))
  exact step_call (v := .agg #[.int .u64 (r2y : Int), .int .u64 (r2z : Int)]) h ho hd hw rfl (ex_call hop rfl rfl (args := #[.agg #[.int .u64 (my : Int), .int .u64 (mz : Int)], .agg #[.int .u64 (ny : Int), .int .u64 (nz : Int)], .int .i64 Wi]) (by simp only [List.map_toArray, List.map_cons, List.map_nil]; rw [e68, e69, e70]) (by simp) (fun av W => by kernel_rfl)) (c.HSUB w)

end Go.Proofs.Ytnknpgfconfgjaa

/-
  The law ActionSums of layer 21: the region of the sums, step by step
-/
import Derived.Test.YtnknpgfconfgjaaJA15

namespace Go.Proofs.Ytnknpgfconfgjaa
open Go.RowKit Go.Maps

set_option maxRecDepth 100000 in
set_option maxHeartbeats 2000000 in
theorem st8_0 {gA gB gW gP gx gM gN gD ay az bY bZ my mz ny nz r1y r1z r2y r2z r5y r5z : Nat} {Wi : Int} {WB w : World} {T l : List Value} {L : Array Bool} (Q : Exit → Act → World → Prop) (c : C8 gA gB gW gP gx gM gN gD ay az bY bZ my mz ny nz r1y r1z r2y r2z r5y r5z Wi WB T) (h : At (sR gA gB gW gP gx gM gN gD ay az bY bZ my mz ny nz r1y r1z r2y r2z r5y r5z Wi WB) 63 40 T L l w 0)
    (hdep : ∀ o, reg8.1[0]? = some o → ∀ e ∈ o.after, Region.binds .any e = true → did L e.on = true) :
    wpOp Try.prog reg8.1 Q 0 (SI (sR gA gB gW gP gx gM gN gD ay az bY bZ my mz ny nz r1y r1z r2y r2z r5y r5z Wi WB) 63 40 T (L.setIfInBounds 0 true)) (frm 40 T l) w := by
  obtain ⟨o, ho, hd, hg, hop⟩ := op8_0
  have hw := wanted_un (ops := reg8.1) (t := (frm 40 T l).tmps) hg
  exact step_val (v := .func (Fn.func 8) #[] #[.pointer (some ⟨gP, 0, none⟩)]) h ho hd hw rfl (ex_move hop ((h.ev0 (s := 11) (by decide)).trans c.t11))

set_option maxRecDepth 100000 in
set_option maxHeartbeats 2000000 in
theorem st8_1 {gA gB gW gP gx gM gN gD ay az bY bZ my mz ny nz r1y r1z r2y r2z r5y r5z : Nat} {Wi : Int} {WB w : World} {T l : List Value} {L : Array Bool} (Q : Exit → Act → World → Prop) (c : C8 gA gB gW gP gx gM gN gD ay az bY bZ my mz ny nz r1y r1z r2y r2z r5y r5z Wi WB T) (h : At (sR gA gB gW gP gx gM gN gD ay az bY bZ my mz ny nz r1y r1z r2y r2z r5y r5z Wi WB) 63 40 T L l w 1)
    (hdep : ∀ o, reg8.1[1]? = some o → ∀ e ∈ o.after, Region.binds .any e = true → did L e.on = true) :
    wpOp Try.prog reg8.1 Q 1 (SI (sR gA gB gW gP gx gM gN gD ay az bY bZ my mz ny nz r1y r1z r2y r2z r5y r5z Wi WB) 63 40 T (L.setIfInBounds 1 true)) (frm 40 T l) w := by
  obtain ⟨o, ho, hd, hg, hop⟩ := op8_1
  have hw := wanted_un (ops := reg8.1) (t := (frm 40 T l).tmps) hg
  exact step_val (v := .func (Fn.func 6) #[] #[.pointer (some ⟨gW, 0, none⟩)]) h ho hd hw rfl (ex_move hop ((h.ev0 (s := 10) (by decide)).trans c.t10))

set_option maxRecDepth 100000 in
set_option maxHeartbeats 2000000 in
theorem st8_2 {gA gB gW gP gx gM gN gD ay az bY bZ my mz ny nz r1y r1z r2y r2z r5y r5z : Nat} {Wi : Int} {WB w : World} {T l : List Value} {L : Array Bool} (Q : Exit → Act → World → Prop) (c : C8 gA gB gW gP gx gM gN gD ay az bY bZ my mz ny nz r1y r1z r2y r2z r5y r5z Wi WB T) (h : At (sR gA gB gW gP gx gM gN gD ay az bY bZ my mz ny nz r1y r1z r2y r2z r5y r5z Wi WB) 63 40 T L l w 2)
    (hdep : ∀ o, reg8.1[2]? = some o → ∀ e ∈ o.after, Region.binds .any e = true → did L e.on = true) :
    wpOp Try.prog reg8.1 Q 2 (SI (sR gA gB gW gP gx gM gN gD ay az bY bZ my mz ny nz r1y r1z r2y r2z r5y r5z Wi WB) 63 40 T (L.setIfInBounds 2 true)) (frm 40 T l) w := by
  obtain ⟨o, ho, hd, hg, hop⟩ := op8_2
  have hw := wanted_un (ops := reg8.1) (t := (frm 40 T l).tmps) hg
  obtain ⟨z0, z1, z2, z3, z4, z5, z6, z7, z8, z9, z10, z11, z12, z13, z14, z15⟩ := c.cells w h.rw.glob
  exact step_val (v := .agg #[.int .u64 (ay : Int), .int .u64 (az : Int)]) h ho hd hw rfl (ex_load_num hop ((h.ev0 (s := 4) (by decide)).trans c.t4) z0 z1)

set_option maxRecDepth 100000 in
set_option maxHeartbeats 2000000 in
theorem st8_3 {gA gB gW gP gx gM gN gD ay az bY bZ my mz ny nz r1y r1z r2y r2z r5y r5z : Nat} {Wi : Int} {WB w : World} {T l : List Value} {L : Array Bool} (Q : Exit → Act → World → Prop) (c : C8 gA gB gW gP gx gM gN gD ay az bY bZ my mz ny nz r1y r1z r2y r2z r5y r5z Wi WB T) (h : At (sR gA gB gW gP gx gM gN gD ay az bY bZ my mz ny nz r1y r1z r2y r2z r5y r5z Wi WB) 63 40 T L l w 3)
    (hdep : ∀ o, reg8.1[3]? = some o → ∀ e ∈ o.after, Region.binds .any e = true → did L e.on = true) :
    wpOp Try.prog reg8.1 Q 3 (SI (sR gA gB gW gP gx gM gN gD ay az bY bZ my mz ny nz r1y r1z r2y r2z r5y r5z Wi WB) 63 40 T (L.setIfInBounds 3 true)) (frm 40 T l) w := by
  obtain ⟨o, ho, hd, hg, hop⟩ := op8_3
  have hw := wanted_un (ops := reg8.1) (t := (frm 40 T l).tmps) hg
  obtain ⟨z0, z1, z2, z3, z4, z5, z6, z7, z8, z9, z10, z11, z12, z13, z14, z15⟩ := c.cells w h.rw.glob
  have e42 := ((h.ev (j := 2) (by decide)).trans (h.rw.got 2 (dep_of (a := 2) (by kernel_rfl) hdep) rfl))
  exact step_call (v := .agg #[.int .u8 1, .int .i64 Wi, .int .i64 0, .int .i64 0, .int .u64 (my : Int), .int .u64 (mz : Int)]) h ho hd hw rfl (ex_call hop rfl ((h.ev (j := 1) (by decide)).trans (h.rw.got 1 (dep_of (a := 1) (by kernel_rfl) hdep) rfl)) (args := #[.agg #[.int .u64 (ay : Int), .int .u64 (az : Int)]]) (by simp only [List.map_toArray, List.map_cons, List.map_nil]; rw [e42]) (by simp) (fun av W => by kernel_rfl)) (c.HCA w z4)

set_option maxRecDepth 100000 in
set_option maxHeartbeats 2000000 in
theorem st8_4 {gA gB gW gP gx gM gN gD ay az bY bZ my mz ny nz r1y r1z r2y r2z r5y r5z : Nat} {Wi : Int} {WB w : World} {T l : List Value} {L : Array Bool} (Q : Exit → Act → World → Prop) (c : C8 gA gB gW gP gx gM gN gD ay az bY bZ my mz ny nz r1y r1z r2y r2z r5y r5z Wi WB T) (h : At (sR gA gB gW gP gx gM gN gD ay az bY bZ my mz ny nz r1y r1z r2y r2z r5y r5z Wi WB) 63 40 T L l w 4)
    (hdep : ∀ o, reg8.1[4]? = some o → ∀ e ∈ o.after, Region.binds .any e = true → did L e.on = true) :
    wpOp Try.prog reg8.1 Q 4 (SI (sR gA gB gW gP gx gM gN gD ay az bY bZ my mz ny nz r1y r1z r2y r2z r5y r5z Wi WB) 63 40 T (L.setIfInBounds 4 true)) (frm 40 T l) w := by
  obtain ⟨o, ho, hd, hg, hop⟩ := op8_4
  have hw := wanted_un (ops := reg8.1) (t := (frm 40 T l).tmps) hg
  exact step_val (v := .func (Fn.func 6) #[] #[.pointer (some ⟨gW, 0, none⟩)]) h ho hd hw rfl (ex_move hop ((h.ev0 (s := 10) (by decide)).trans c.t10))

set_option maxRecDepth 100000 in
set_option maxHeartbeats 2000000 in
theorem st8_5 {gA gB gW gP gx gM gN gD ay az bY bZ my mz ny nz r1y r1z r2y r2z r5y r5z : Nat} {Wi : Int} {WB w : World} {T l : List Value} {L : Array Bool} (Q : Exit → Act → World → Prop) (c : C8 gA gB gW gP gx gM gN gD ay az bY bZ my mz ny nz r1y r1z r2y r2z r5y r5z Wi WB T) (h : At (sR gA gB gW gP gx gM gN gD ay az bY bZ my mz ny nz r1y r1z r2y r2z r5y r5z Wi WB) 63 40 T L l w 5)
    (hdep : ∀ o, reg8.1[5]? = some o → ∀ e ∈ o.after, Region.binds .any e = true → did L e.on = true) :
    wpOp Try.prog reg8.1 Q 5 (SI (sR gA gB gW gP gx gM gN gD ay az bY bZ my mz ny nz r1y r1z r2y r2z r5y r5z Wi WB) 63 40 T (L.setIfInBounds 5 true)) (frm 40 T l) w := by
  obtain ⟨o, ho, hd, hg, hop⟩ := op8_5
  have hw := wanted_un (ops := reg8.1) (t := (frm 40 T l).tmps) hg
  obtain ⟨z0, z1, z2, z3, z4, z5, z6, z7, z8, z9, z10, z11, z12, z13, z14, z15⟩ := c.cells w h.rw.glob
  exact step_val (v := .agg #[.int .u64 (bY : Int), .int .u64 (bZ : Int)]) h ho hd hw rfl (ex_load_num hop ((h.ev0 (s := 5) (by decide)).trans c.t5) z2 z3)

set_option maxRecDepth 100000 in
set_option maxHeartbeats 2000000 in
theorem st8_6 {gA gB gW gP gx gM gN gD ay az bY bZ my mz ny nz r1y r1z r2y r2z r5y r5z : Nat} {Wi : Int} {WB w : World} {T l : List Value} {L : Array Bool} (Q : Exit → Act → World → Prop) (c : C8 gA gB gW gP gx gM gN gD ay az bY bZ my mz ny nz r1y r1z r2y r2z r5y r5z Wi WB T) (h : At (sR gA gB gW gP gx gM gN gD ay az bY bZ my mz ny nz r1y r1z r2y r2z r5y r5z Wi WB) 63 40 T L l w 6)
    (hdep : ∀ o, reg8.1[6]? = some o → ∀ e ∈ o.after, Region.binds .any e = true → did L e.on = true) :
    wpOp Try.prog reg8.1 Q 6 (SI (sR gA gB gW gP gx gM gN gD ay az bY bZ my mz ny nz r1y r1z r2y r2z r5y r5z Wi WB) 63 40 T (L.setIfInBounds 6 true)) (frm 40 T l) w := by
  obtain ⟨o, ho, hd, hg, hop⟩ := op8_6
  have hw := wanted_un (ops := reg8.1) (t := (frm 40 T l).tmps) hg
  obtain ⟨z0, z1, z2, z3, z4, z5, z6, z7, z8, z9, z10, z11, z12, z13, z14, z15⟩ := c.cells w h.rw.glob
  have e45 := ((h.ev (j := 5) (by decide)).trans (h.rw.got 5 (dep_of (a := 5) (by kernel_rfl) hdep) rfl))
  exact step_call (v := .agg #[.int .u8 1, .int .i64 Wi, .int .i64 0, .int .i64 0, .int .u64 (ny : Int), .int .u64 (nz : Int)]) h ho hd hw rfl (ex_call hop rfl ((h.ev (j := 4) (by decide)).trans (h.rw.got 4 (dep_of (a := 4) (by kernel_rfl) hdep) rfl)) (args := #[.agg #[.int .u64 (bY : Int), .int .u64 (bZ : Int)]]) (by simp only [List.map_toArray, List.map_cons, List.map_nil]; rw [e45]) (by simp) (fun av W => by kernel_rfl)) (c.HCB w z4)

set_option maxRecDepth 100000 in
set_option maxHeartbeats 2000000 in
theorem st8_7 {gA gB gW gP gx gM gN gD ay az bY bZ my mz ny nz r1y r1z r2y r2z r5y r5z : Nat} {Wi : Int} {WB w : World} {T l : List Value} {L : Array Bool} (Q : Exit → Act → World → Prop) (c : C8 gA gB gW gP gx gM gN gD ay az bY bZ my mz ny nz r1y r1z r2y r2z r5y r5z Wi WB T) (h : At (sR gA gB gW gP gx gM gN gD ay az bY bZ my mz ny nz r1y r1z r2y r2z r5y r5z Wi WB) 63 40 T L l w 7)
    (hdep : ∀ o, reg8.1[7]? = some o → ∀ e ∈ o.after, Region.binds .any e = true → did L e.on = true) :
    wpOp Try.prog reg8.1 Q 7 (SI (sR gA gB gW gP gx gM gN gD ay az bY bZ my mz ny nz r1y r1z r2y r2z r5y r5z Wi WB) 63 40 T (L.setIfInBounds 7 true)) (frm 40 T l) w := by
  obtain ⟨o, ho, hd, hg, hop⟩ := op8_7
  have hw := wanted_un (ops := reg8.1) (t := (frm 40 T l).tmps) hg
  obtain ⟨z0, z1, z2, z3, z4, z5, z6, z7, z8, z9, z10, z11, z12, z13, z14, z15⟩ := c.cells w h.rw.glob
  exact step_val (v := .int .i64 Wi) h ho hd hw rfl (ex_load_int hop ((h.ev0 (s := 6) (by decide)).trans c.t6) z4)

set_option maxRecDepth 100000 in
set_option maxHeartbeats 2000000 in
theorem st8_8 {gA gB gW gP gx gM gN gD ay az bY bZ my mz ny nz r1y r1z r2y r2z r5y r5z : Nat} {Wi : Int} {WB w : World} {T l : List Value} {L : Array Bool} (Q : Exit → Act → World → Prop) (c : C8 gA gB gW gP gx gM gN gD ay az bY bZ my mz ny nz r1y r1z r2y r2z r5y r5z Wi WB T) (h : At (sR gA gB gW gP gx gM gN gD ay az bY bZ my mz ny nz r1y r1z r2y r2z r5y r5z Wi WB) 63 40 T L l w 8)
    (hdep : ∀ o, reg8.1[8]? = some o → ∀ e ∈ o.after, Region.binds .any e = true → did L e.on = true) :
    wpOp Try.prog reg8.1 Q 8 (SI (sR gA gB gW gP gx gM gN gD ay az bY bZ my mz ny nz r1y r1z r2y r2z r5y r5z Wi WB) 63 40 T (L.setIfInBounds 8 true)) (frm 40 T l) w := by
  obtain ⟨o, ho, hd, hg, hop⟩ := op8_8
  have hw := wanted_un (ops := reg8.1) (t := (frm 40 T l).tmps) hg
  exact step_val (v := .agg #[.int .u8 11, .int .i64 Wi, .int .i64 0, .int .i64 0, .int .u64 0, .int .u64 0]) h ho hd hw rfl (ex_build_node hop rfl ((h.ev (j := 7) (by decide)).trans (h.rw.got 7 (dep_of (a := 7) (by kernel_rfl) hdep) rfl)))

set_option maxRecDepth 100000 in
set_option maxHeartbeats 2000000 in
theorem st8_9 {gA gB gW gP gx gM gN gD ay az bY bZ my mz ny nz r1y r1z r2y r2z r5y r5z : Nat} {Wi : Int} {WB w : World} {T l : List Value} {L : Array Bool} (Q : Exit → Act → World → Prop) (c : C8 gA gB gW gP gx gM gN gD ay az bY bZ my mz ny nz r1y r1z r2y r2z r5y r5z Wi WB T) (h : At (sR gA gB gW gP gx gM gN gD ay az bY bZ my mz ny nz r1y r1z r2y r2z r5y r5z Wi WB) 63 40 T L l w 9)
    (hdep : ∀ o, reg8.1[9]? = some o → ∀ e ∈ o.after, Region.binds .any e = true → did L e.on = true) :
    wpOp Try.prog reg8.1 Q 9 (SI (sR gA gB gW gP gx gM gN gD ay az bY bZ my mz ny nz r1y r1z r2y r2z r5y r5z Wi WB) 63 40 T (L.setIfInBounds 9 true)) (frm 40 T l) w := by
  obtain ⟨o, ho, hd, hg, hop⟩ := op8_9
  have hw := wanted_un (ops := reg8.1) (t := (frm 40 T l).tmps) hg
  exact step_new (js := []) h ho hd hw rfl (fun j hj => by cases hj) ((Below.refl _ _).alloc (Nat.le_refl _) _) ⟨w.heap.size, rfl, ⟨Nat.le_refl _, by simp⟩, heap_new w _⟩ (ex_slice3 hop ((h.ev (j := 3) (by decide)).trans (h.rw.got 3 (dep_of (a := 3) (by kernel_rfl) hdep) rfl)) ((h.ev (j := 6) (by decide)).trans (h.rw.got 6 (dep_of (a := 6) (by kernel_rfl) hdep) rfl)) ((h.ev (j := 8) (by decide)).trans (h.rw.got 8 (dep_of (a := 8) (by kernel_rfl) hdep) rfl)))

set_option maxRecDepth 100000 in
set_option maxHeartbeats 2000000 in
theorem st8_10 {gA gB gW gP gx gM gN gD ay az bY bZ my mz ny nz r1y r1z r2y r2z r5y r5z : Nat} {Wi : Int} {WB w : World} {T l : List Value} {L : Array Bool} (Q : Exit → Act → World → Prop) (c : C8 gA gB gW gP gx gM gN gD ay az bY bZ my mz ny nz r1y r1z r2y r2z r5y r5z Wi WB T) (h : At (sR gA gB gW gP gx gM gN gD ay az bY bZ my mz ny nz r1y r1z r2y r2z r5y r5z Wi WB) 63 40 T L l w 10)
    (hdep : ∀ o, reg8.1[10]? = some o → ∀ e ∈ o.after, Region.binds .any e = true → did L e.on = true) :
    wpOp Try.prog reg8.1 Q 10 (SI (sR gA gB gW gP gx gM gN gD ay az bY bZ my mz ny nz r1y r1z r2y r2z r5y r5z Wi WB) 63 40 T (L.setIfInBounds 10 true)) (frm 40 T l) w := by
  obtain ⟨o, ho, hd, hg, hop⟩ := op8_10
  have hw := wanted_un (ops := reg8.1) (t := (frm 40 T l).tmps) hg
  obtain ⟨z0, z1, z2, z3, z4, z5, z6, z7, z8, z9, z10, z11, z12, z13, z14, z15⟩ := c.cells w h.rw.glob
  obtain ⟨BS, -, gS, eS, -, hS⟩ := h.rw.made 9 (dep_of (a := 9) (by kernel_rfl) hdep) rfl
  have e49 := (h.ev (j := 9) (by decide)).trans eS
  exact step_call (v := .agg #[.int .u64 (r1y : Int), .int .u64 (r1z : Int)]) h ho hd hw rfl (ex_call hop rfl ((h.ev (j := 0) (by decide)).trans (h.rw.got 0 (dep_of (a := 0) (by kernel_rfl) hdep) rfl)) (args := #[.slice (some ⟨gS, 0, none⟩) 3 3]) (by simp only [List.map_toArray, List.map_cons, List.map_nil]; exact congrArg (fun x => #[x]) e49) (by simp) (fun av W => by kernel_rfl)) (c.HOF1 w gS z5 hS)

set_option maxRecDepth 100000 in
set_option maxHeartbeats 2000000 in
theorem st8_11 {gA gB gW gP gx gM gN gD ay az bY bZ my mz ny nz r1y r1z r2y r2z r5y r5z : Nat} {Wi : Int} {WB w : World} {T l : List Value} {L : Array Bool} (Q : Exit → Act → World → Prop) (c : C8 gA gB gW gP gx gM gN gD ay az bY bZ my mz ny nz r1y r1z r2y r2z r5y r5z Wi WB T) (h : At (sR gA gB gW gP gx gM gN gD ay az bY bZ my mz ny nz r1y r1z r2y r2z r5y r5z Wi WB) 63 40 T L l w 11)
    (hdep : ∀ o, reg8.1[11]? = some o → ∀ e ∈ o.after, Region.binds .any e = true → did L e.on = true) :
    wpOp Try.prog reg8.1 Q 11 (SI (sR gA gB gW gP gx gM gN gD ay az bY bZ my mz ny nz r1y r1z r2y r2z r5y r5z Wi WB) 63 40 T (L.setIfInBounds 11 true)) (frm 40 T l) w := by
  obtain ⟨o, ho, hd, hg, hop⟩ := op8_11
  have hw := wanted_un (ops := reg8.1) (t := (frm 40 T l).tmps) hg
  obtain ⟨z0, z1, z2, z3, z4, z5, z6, z7, z8, z9, z10, z11, z12, z13, z14, z15⟩ := c.cells w h.rw.glob
  exact step_val (v := .agg #[.int .u64 (my : Int), .int .u64 (mz : Int)]) h ho hd hw rfl (ex_load_num hop ((h.ev0 (s := 12) (by decide)).trans c.t12) z6 z7)

set_option maxRecDepth 100000 in
set_option maxHeartbeats 2000000 in
theorem st8_12 {gA gB gW gP gx gM gN gD ay az bY bZ my mz ny nz r1y r1z r2y r2z r5y r5z : Nat} {Wi : Int} {WB w : World} {T l : List Value} {L : Array Bool} (Q : Exit → Act → World → Prop) (c : C8 gA gB gW gP gx gM gN gD ay az bY bZ my mz ny nz r1y r1z r2y r2z r5y r5z Wi WB T) (h : At (sR gA gB gW gP gx gM gN gD ay az bY bZ my mz ny nz r1y r1z r2y r2z r5y r5z Wi WB) 63 40 T L l w 12)
    (hdep : ∀ o, reg8.1[12]? = some o → ∀ e ∈ o.after, Region.binds .any e = true → did L e.on = true) :
    wpOp Try.prog reg8.1 Q 12 (SI (sR gA gB gW gP gx gM gN gD ay az bY bZ my mz ny nz r1y r1z r2y r2z r5y r5z Wi WB) 63 40 T (L.setIfInBounds 12 true)) (frm 40 T l) w := by
  obtain ⟨o, ho, hd, hg, hop⟩ := op8_12
  have hw := wanted_un (ops := reg8.1) (t := (frm 40 T l).tmps) hg
  obtain ⟨z0, z1, z2, z3, z4, z5, z6, z7, z8, z9, z10, z11, z12, z13, z14, z15⟩ := c.cells w h.rw.glob
  exact step_val (v := .agg #[.int .u64 (ny : Int), .int .u64 (nz : Int)]) h ho hd hw rfl (ex_load_num hop ((h.ev0 (s := 13) (by decide)).trans c.t13) z8 z9)

set_option maxRecDepth 100000 in
set_option maxHeartbeats 2000000 in
theorem st8_13 {gA gB gW gP gx gM gN gD ay az bY bZ my mz ny nz r1y r1z r2y r2z r5y r5z : Nat} {Wi : Int} {WB w : World} {T l : List Value} {L : Array Bool} (Q : Exit → Act → World → Prop) (c : C8 gA gB gW gP gx gM gN gD ay az bY bZ my mz ny nz r1y r1z r2y r2z r5y r5z Wi WB T) (h : At (sR gA gB gW gP gx gM gN gD ay az bY bZ my mz ny nz r1y r1z r2y r2z r5y r5z Wi WB) 63 40 T L l w 13)
    (hdep : ∀ o, reg8.1[13]? = some o → ∀ e ∈ o.after, Region.binds .any e = true → did L e.on = true) :
    wpOp Try.prog reg8.1 Q 13 (SI (sR gA gB gW gP gx gM gN gD ay az bY bZ my mz ny nz r1y r1z r2y r2z r5y r5z Wi WB) 63 40 T (L.setIfInBounds 13 true)) (frm 40 T l) w := by
  obtain ⟨o, ho, hd, hg, hop⟩ := op8_13
  have hw := wanted_un (ops := reg8.1) (t := (frm 40 T l).tmps) hg
  obtain ⟨z0, z1, z2, z3, z4, z5, z6, z7, z8, z9, z10, z11, z12, z13, z14, z15⟩ := c.cells w h.rw.glob
  exact step_val (v := .int .i64 Wi) h ho hd hw rfl (ex_load_int hop ((h.ev0 (s := 6) (by decide)).trans c.t6) z4)

set_option maxRecDepth 100000 in
set_option maxHeartbeats 2000000 in
theorem st8_14 {gA gB gW gP gx gM gN gD ay az bY bZ my mz ny nz r1y r1z r2y r2z r5y r5z : Nat} {Wi : Int} {WB w : World} {T l : List Value} {L : Array Bool} (Q : Exit → Act → World → Prop) (c : C8 gA gB gW gP gx gM gN gD ay az bY bZ my mz ny nz r1y r1z r2y r2z r5y r5z Wi WB T) (h : At (sR gA gB gW gP gx gM gN gD ay az bY bZ my mz ny nz r1y r1z r2y r2z r5y r5z Wi WB) 63 40 T L l w 14)
    (hdep : ∀ o, reg8.1[14]? = some o → ∀ e ∈ o.after, Region.binds .any e = true → did L e.on = true) :
    wpOp Try.prog reg8.1 Q 14 (SI (sR gA gB gW gP gx gM gN gD ay az bY bZ my mz ny nz r1y r1z r2y r2z r5y r5z Wi WB) 63 40 T (L.setIfInBounds 14 true)) (frm 40 T l) w := by
  obtain ⟨o, ho, hd, hg, hop⟩ := op8_14
  have hw := wanted_un (ops := reg8.1) (t := (frm 40 T l).tmps) hg
  have e51 := ((h.ev (j := 11) (by decide)).trans (h.rw.got 11 (dep_of (a := 11) (by kernel_rfl) hdep) rfl))
  have e52 := ((h.ev (j := 12) (by decide)).trans (h.rw.got 12 (dep_of (a := 12) (by kernel_rfl) hdep) rfl))
  have e53 := ((h.ev (j := 13) (by decide)).trans (h.rw.got 13 (dep_of (a := 13) (by kernel_rfl) hdep) rfl))
  exact step_call (v := .agg #[.int .u64 (r1y : Int), .int .u64 (r1z : Int)]) h ho hd hw rfl (ex_call hop rfl rfl (args := #[.agg #[.int .u64 (my : Int), .int .u64 (mz : Int)], .agg #[.int .u64 (ny : Int), .int .u64 (nz : Int)], .int .i64 Wi]) (by simp only [List.map_toArray, List.map_cons, List.map_nil]; rw [e51, e52, e53]) (by simp) (fun av W => by kernel_rfl)) (c.HADD w)

set_option maxRecDepth 100000 in
set_option maxHeartbeats 2000000 in
theorem st8_15 {gA gB gW gP gx gM gN gD ay az bY bZ my mz ny nz r1y r1z r2y r2z r5y r5z : Nat} {Wi : Int} {WB w : World} {T l : List Value} {L : Array Bool} (Q : Exit → Act → World → Prop) (c : C8 gA gB gW gP gx gM gN gD ay az bY bZ my mz ny nz r1y r1z r2y r2z r5y r5z Wi WB T) (h : At (sR gA gB gW gP gx gM gN gD ay az bY bZ my mz ny nz r1y r1z r2y r2z r5y r5z Wi WB) 63 40 T L l w 15)
    (hdep : ∀ o, reg8.1[15]? = some o → ∀ e ∈ o.after, Region.binds .any e = true → did L e.on = true) :
    wpOp Try.prog reg8.1 Q 15 (SI (sR gA gB gW gP gx gM gN gD ay az bY bZ my mz ny nz r1y r1z r2y r2z r5y r5z Wi WB) 63 40 T (L.setIfInBounds 15 true)) (frm 40 T l) w := by
  obtain ⟨o, ho, hd, hg, hop⟩ := op8_15
  have hw := wanted_un (ops := reg8.1) (t := (frm 40 T l).tmps) hg
  exact step_val (v := .bool false) h ho hd hw rfl (ex_neq hop ((h.ev (j := 10) (by decide)).trans (h.rw.got 10 (dep_of (a := 10) (by kernel_rfl) hdep) rfl)) ((h.ev (j := 14) (by decide)).trans (h.rw.got 14 (dep_of (a := 14) (by kernel_rfl) hdep) rfl)))

end Go.Proofs.Ytnknpgfconfgjaa

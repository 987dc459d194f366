/-
  The law DeviceAgain holds of the given program wherever what it reads is of bulk at most 1048576: the call answers true, and each argument reads behind the call as it read before. No other condition.
-/
import Derived.Test.YtikilcbpogfgkaaGreatJG42
set_option maxRecDepth 100000
namespace Go.Proofs.YtikilcbpogfgkaaGreat.deviceAgain
open Go.ChangeShapes Go.WideShapes Go.ChangeAt Go.RowKit
variable {H:Type} {w:World} {va:Value} {p:List MemPlace}
theorem own:ownKnob Tryz.prog.godebug=none:=by kernel_rfl
theorem laidOut:laidOutB Tryz.prog=true:=by kernel_rfl
theorem bulks4 {d1 d2 d3 d4:DataW H} (h:Rows.uptoSmall H [d1,d2,d3,d4]=true):Rows.uptoBulk d1<=KB/\Rows.uptoBulk d2<=KB:=by
 have h:Rows.uptoBulkAll [d1,d2,d3,d4]<=1048576:=of_decide_eq_true h;simp only[Rows.uptoBulkAll] at h;unfold KB;omega
theorem open_i64 {enc:TypeId×Value->H} {d:DataW H} (hv:Value.okWide Tryz.prog w .any 0 3 va) (h:DataW.Trod enc Tryz.prog w 0 (fun _=>true) true 3 va d p):∃n,va= .int .i64 n:=by
 obtain ⟨r,e,-⟩:=Go.ChangeShapes.open_int Tryz.underlying3 hv h;exact ⟨r,e⟩
theorem open_bytes {enc:TypeId×Value->H} {d:DataW H} (hv:Value.okWide Tryz.prog w .any 0 35 va) (h:DataW.Trod enc Tryz.prog w 0 (fun _=>true) true 35 va d p):∃l,URow w va l:=by
 obtain ⟨fuel,h⟩:=h;rw[slice_cells Tryz.underlying35 hv] at h;exact open_rowAt (0:Int) Tryz.underlying35 (by kernel_rfl:_=1) dq (fun m b o cs y h1 h2 h3=>u_of_trod h1 h2 h3) h
theorem contract (H:Type) (enc:TypeId×Value->H) (W:World) (base:Nat) (args:Array Value) (ds gs:List (DataW H)) (before:List MemPlace)
 (hval0:∀(j:Nat) t v,Tryz.f3.params[j]?=some t->args[j]?=some v->Value.okWide Tryz.prog W .any base t v)
 (hW:DataW.Whole enc Tryz.prog Tryz.f3.params.toList Rows.deviceAgainSpec.vars false W args.toList ds gs before) (hk:Rows.uptoSmall H (ds++gs)=true):
 Calls Tryz.prog 3 args W fun e W'=>∃v,e= .returned v/\Rows.deviceAgainSpec.post enc Tryz.prog Tryz.f3 false true false false W args v W':=by
 have hval:∀(j:Nat) t v,Tryz.f3.params[j]?=some t->args[j]?=some v->Value.okWide Tryz.prog W .any base t v:=hval0;have hW':=hW;obtain ⟨p,q,hA0,hV,rfl,hfz,hnd⟩:=hW;have hA:DataW.TrodAll enc Tryz.prog W 0 (fun _=>true) true Tryz.f3.params.toList args.toList ds p:=hA0;rw[Tryz.params3] at hA hval;obtain ⟨v0,vs0,d0,ds0,p0,q0,hargs,rfl,rfl,h0,r0⟩:=trodAll_cons hA;obtain ⟨v1,vs1,d1,ds1,p1,q1,rfl,rfl,rfl,h1,r1⟩:=trodAll_cons r0;obtain ⟨v2,vs2,d2,ds2,p2,q2,rfl,rfl,rfl,h2,r2⟩:=trodAll_cons r1;obtain ⟨v3,vs3,d3,ds3,p3,q3,rfl,rfl,rfl,h3,r3⟩:=trodAll_cons r2;obtain ⟨rfl,rfl,rfl⟩:=trodAll_nil r3;obtain rfl:args=#[v0,v1,v2,v3]:=by cases args;simp_all
 obtain ⟨rfl,rfl⟩:=trodVars_none hV;have k0:=h0;have lt0:∀x∈p0,x.block<W.heap.size:=by obtain ⟨m,hm⟩:=k0;exact DataW.trod_lt m _ _ _ hm
 have k1:=h1;have lt1:∀x∈p1,x.block<W.heap.size:=by obtain ⟨m,hm⟩:=k1;exact DataW.trod_lt m _ _ _ hm
 have k2:=h2;have lt2:∀x∈p2,x.block<W.heap.size:=by obtain ⟨m,hm⟩:=k2;exact DataW.trod_lt m _ _ _ hm
 have k3:=h3;have lt3:∀x∈p3,x.block<W.heap.size:=by obtain ⟨m,hm⟩:=k3;exact DataW.trod_lt m _ _ _ hm
 simp only[List.append_nil] at hk;obtain ⟨b0,b1⟩:=bulks4 hk;obtain ⟨s,pr,rfl,hp,hL⟩:=open_progK (hval 0 33 v0 rfl rfl) k0 b0;obtain ⟨l,hl,hla⟩:=open_entriesK (hval 1 34 v1 rfl rfl) k1 b1;obtain ⟨port,rfl⟩:=open_i64 (hval 2 3 v2 rfl rfl) k2;obtain ⟨xs,hx⟩:=open_bytes (hval 3 35 v3 rfl rfl) k3;obtain ⟨lp,lc,rfl,-⟩:=hl.shape;obtain ⟨bp,bc,rfl,-⟩:=hx.shape;clear hA0 hval0;refine (againLaw_any s pr l lp l.length lc port bp xs.length bc xs W hp hL hl hla hx).mono fun e W' ⟨he,bel⟩=>?_
 subst he;exact ⟨_,rfl,_,_,_,[],_,[],hW',trodAll_mk1 (shut_bool Tryz.underlying4 _),(trodAll_cons_mk (Below.trod laidOut kq (of_decide_eq_true kq) k0 bel lt0) (trodAll_cons_mk (Below.trod laidOut kq (of_decide_eq_true kq) k1 bel lt1) (trodAll_cons_mk (Below.trod laidOut kq (of_decide_eq_true kq) k2 bel lt2) (trodAll_cons_mk (Below.trod laidOut kq (of_decide_eq_true kq) k3 bel lt3) trodAll_mk0)))),rfl,bel.frame _,fun h=>by cases h⟩
theorem lifted (os:Os) (started:os.Started) (H:Type) (enc:TypeId×Value->H) (F:Stop.Interp):
 ReturnsInHanded {} Tryz.checked os 3 .any ((Rows.OpenSpec.upto Rows.deviceAgainSpec).pre6 enc Tryz.prog Tryz.f3 Rows.deviceAgainUptoRow.domain false) (((Rows.OpenSpec.upto Rows.deviceAgainSpec).at F).post enc Tryz.prog Tryz.f3 false true false false):=by
 refine returnsInHanded_of_cond (C:=Tryz.checked) (s:=Rows.OpenSpec.upto Rows.deviceAgainSpec) (k:=Rows.uptoSmall) rfl own started kq Tryz.func3
  (OpenSpec.witness (enc:=enc) (C:=Tryz.checked) (s:=Rows.OpenSpec.upto Rows.deviceAgainSpec) (k:=Rows.uptoSmall) rfl false ⟨#[],#[.agg #[.slice none 0 0, .slice none 0 0, .slice none 0 0, .slice none 0 0, .slice none 0 0, .slice none 0 0, .slice none 0 0, .slice none 0 0, .slice none 0 0, .slice none 0 0, .slice none 0 0, .slice none 0 0], .slice none 0 0, .int .i64 0, .slice none 0 0],[]⟩ 8 kq kq kq
   (x:=([.agg [.nil, .nil, .nil, .nil, .nil, .nil, .nil, .agg [.nil, .nil, .nil, .nil, .nil]], .nil, .lit (.int .i64 0), .nil],[],[])) kq rfl kq) ?_
 intro W base args ds gs before hval hW _ hk _;exact contract H enc W base args ds gs before hval hW hk
theorem proved:Rows.DeviceAgainUptoSaid:=
 OpenClaim.holds_of_cond 3 Tryz.f3 rfl rfl rfl rfl rfl rfl rfl ⟨rfl,rfl,rfl,rfl,rfl⟩ rfl rfl rfl rfl rfl kq Tryz.func3 kq
  (of_decide_eq_true kq) (by unfold Func.isWrapper;first|(rw[if_pos (by decide +kernel)];kernel_rfl)|(rw[if_neg (by decide +kernel)];exact ⟨rfl,rfl⟩))
  (fun os started H enc _ F=>lifted os started H enc F)
end Go.Proofs.YtikilcbpogfgkaaGreat.deviceAgain

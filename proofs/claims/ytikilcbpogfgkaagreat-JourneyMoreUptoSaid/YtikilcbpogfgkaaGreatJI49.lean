/- JourneyMore, of all that is of bulk at most 1048576. -/
import Derived.Test.YtikilcbpogfgkaaGreatJI47
import Derived.Test.YtikilcbpogfgkaaGreatJI48
set_option maxRecDepth 100000
namespace Go.Proofs.YtikilcbpogfgkaaGreat.journeyMore
open Go.ChangeShapes Go.WideShapes Go.ChangeAt Go.RowKit
variable {H:Type} {w:World} {va:Value} {p:List MemPlace}
theorem own:ownKnob Tryz.prog.godebug=none:=by kernel_rfl
theorem laidOut:laidOutB Tryz.prog=true:=by kernel_rfl
theorem bulks6 {d1 d2 d3 d4 d5 d6:DataW H} (h:Rows.uptoSmall H [d1,d2,d3,d4,d5,d6]=true):Rows.uptoBulk d1<=KB/\Rows.uptoBulk d2<=KB/\Rows.uptoBulk d3<=KB:=by
 have h:Rows.uptoBulkAll [d1,d2,d3,d4,d5,d6]<=1048576:=of_decide_eq_true h;simp only[Rows.uptoBulkAll] at h;unfold KB;omega
theorem open_i64M {enc:TypeId×Value->H} {d:DataW H} (hv:Value.okWide Tryz.prog w .any 0 3 va) (h:DataW.Trod enc Tryz.prog w 0 (fun _=>true) true 3 va d p):∃n,va= .int .i64 n:=by
 obtain ⟨r,e,-⟩:=Go.ChangeShapes.open_int Tryz.underlying3 hv h;exact ⟨r,e⟩
theorem open_bytesM {enc:TypeId×Value->H} {d:DataW H} (hv:Value.okWide Tryz.prog w .any 0 35 va) (h:DataW.Trod enc Tryz.prog w 0 (fun _=>true) true 35 va d p):∃l,URow w va l:=by
 obtain ⟨fuel,h⟩:=h;rw[slice_cells Tryz.underlying35 hv] at h;exact open_rowAt (0:Int) Tryz.underlying35 (by kernel_rfl:_=1) dq (fun m b o cs y h1 h2 h3=>u_of_trod h1 h2 h3) h
theorem tl {enc:TypeId×Value->H} {d:DataW H} {t:TypeId} (h:DataW.Trod enc Tryz.prog w 0 (fun _=>true) true t va d p):∀x∈p,x.block<w.heap.size:=by
 obtain ⟨m,hm⟩:=h;exact DataW.trod_lt m _ _ _ hm
theorem contract (H:Type) (enc:TypeId×Value->H) (W:World) (base:Nat) (args:Array Value) (ds gs:List (DataW H)) (before:List MemPlace)
 (hval0:∀(j:Nat) t v,Tryz.f4.params[j]?=some t->args[j]?=some v->Value.okWide Tryz.prog W .any base t v)
 (hW:DataW.Whole enc Tryz.prog Tryz.f4.params.toList Rows.journeyMoreSpec.vars false W args.toList ds gs before) (hk:Rows.uptoSmall H (ds++gs)=true):
 Calls Tryz.prog 4 args W fun e W'=>∃v,e= .returned v/\Rows.journeyMoreSpec.post enc Tryz.prog Tryz.f4 false true false false W args v W':=by
 have hval:∀(j:Nat) t v,Tryz.f4.params[j]?=some t->args[j]?=some v->Value.okWide Tryz.prog W .any base t v:=hval0;have hW':=hW;obtain ⟨p,q,hA0,hV,rfl,hfz,hnd⟩:=hW;have hA:DataW.TrodAll enc Tryz.prog W 0 (fun _=>true) true Tryz.f4.params.toList args.toList ds p:=hA0;rw[Tryz.params4] at hA hval;obtain ⟨v0,vs0,d0,ds0,p0,q0,hargs,rfl,rfl,h0,r0⟩:=trodAll_cons hA;obtain ⟨v1,vs1,d1,ds1,p1,q1,rfl,rfl,rfl,h1,r1⟩:=trodAll_cons r0;obtain ⟨v2,vs2,d2,ds2,p2,q2,rfl,rfl,rfl,h2,r2⟩:=trodAll_cons r1;obtain ⟨v3,vs3,d3,ds3,p3,q3,rfl,rfl,rfl,h3,r3⟩:=trodAll_cons r2;obtain ⟨v4,vs4,d4,ds4,p4,q4,rfl,rfl,rfl,h4,r4⟩:=trodAll_cons r3;obtain ⟨v5,vs5,d5,ds5,p5,q5,rfl,rfl,rfl,h5,r5⟩:=trodAll_cons r4;obtain ⟨rfl,rfl,rfl⟩:=trodAll_nil r5;obtain rfl:args=#[v0,v1,v2,v3,v4,v5]:=by cases args;simp_all
 obtain ⟨rfl,rfl⟩:=trodVars_none hV;have k0:=h0;have lt0:=tl k0;have k1:=h1;have lt1:=tl k1;have k2:=h2;have lt2:=tl k2;have k3:=h3;have lt3:=tl k3;have k4:=h4;have lt4:=tl k4;have k5:=h5;have lt5:=tl k5
 simp only[List.append_nil] at hk;obtain ⟨b0,b1,b2⟩:=bulks6 hk;obtain ⟨s,pr,rfl,hp,hL⟩:=open_progK (hval 0 33 v0 rfl rfl) k0 b0;obtain ⟨l,hl,hla⟩:=open_listsK (hval 1 49 v1 rfl rfl) k1 b1;obtain ⟨tn,nt,rfl,hn,hln⟩:=open_netK (hval 2 52 v2 rfl rfl) k2 b2;obtain ⟨ed,rfl⟩:=open_end (hval 3 54 v3 rfl rfl) k3;obtain ⟨xs,hx⟩:=open_bytesM (hval 4 35 v4 rfl rfl) k4;obtain ⟨hops,rfl⟩:=open_i64M (hval 5 3 v5 rfl rfl) k5;obtain ⟨lp,lc,rfl,-⟩:=hl.shape;obtain ⟨bp,bc,rfl,-⟩:=hx.shape;clear hA0 hval0;refine (moreLaw_any s pr l lp l.length lc tn nt ed bp xs.length bc xs hops W hp hL hl hla hn hln hx).mono fun e W' ⟨he,bel⟩=>?_
 subst he;exact ⟨_,rfl,_,_,_,[],_,[],hW',trodAll_mk1 (shut_bool Tryz.underlying4 _),(trodAll_cons_mk (Below.trod laidOut kq (of_decide_eq_true kq) k0 bel lt0) (trodAll_cons_mk (Below.trod laidOut kq (of_decide_eq_true kq) k1 bel lt1) (trodAll_cons_mk (Below.trod laidOut kq (of_decide_eq_true kq) k2 bel lt2) (trodAll_cons_mk (Below.trod laidOut kq (of_decide_eq_true kq) k3 bel lt3) (trodAll_cons_mk (Below.trod laidOut kq (of_decide_eq_true kq) k4 bel lt4) (trodAll_cons_mk (Below.trod laidOut kq (of_decide_eq_true kq) k5 bel lt5) trodAll_mk0)))))),rfl,bel.frame _,fun h=>by cases h⟩
theorem lifted (os:Os) (started:os.Started) (H:Type) (enc:TypeId×Value->H) (F:Stop.Interp):
 ReturnsInHanded {} Tryz.checked os 4 .any ((Rows.OpenSpec.upto Rows.journeyMoreSpec).pre6 enc Tryz.prog Tryz.f4 Rows.journeyMoreUptoRow.domain false) (((Rows.OpenSpec.upto Rows.journeyMoreSpec).at F).post enc Tryz.prog Tryz.f4 false true false false):=by
 refine returnsInHanded_of_cond (C:=Tryz.checked) (s:=Rows.OpenSpec.upto Rows.journeyMoreSpec) (k:=Rows.uptoSmall) rfl own started kq Tryz.func4
  (OpenSpec.witness (enc:=enc) (C:=Tryz.checked) (s:=Rows.OpenSpec.upto Rows.journeyMoreSpec) (k:=Rows.uptoSmall) rfl false ⟨#[],#[.agg #[.slice none 0 0, .slice none 0 0, .slice none 0 0, .slice none 0 0, .slice none 0 0, .slice none 0 0, .slice none 0 0, .slice none 0 0, .slice none 0 0, .slice none 0 0, .slice none 0 0, .slice none 0 0], .slice none 0 0, .agg #[.slice none 0 0, .slice none 0 0, .slice none 0 0], .agg #[.int .i64 0, .int .i64 0], .slice none 0 0, .int .i64 0],[]⟩ 8 kq kq kq
   (x:=([.agg [.nil, .nil, .nil, .nil, .nil, .nil, .nil, .agg [.nil, .nil, .nil, .nil, .nil]], .nil, .agg [.nil, .nil, .nil], .agg [.lit (.int .i64 0), .lit (.int .i64 0)], .nil, .lit (.int .i64 0)],[],[])) kq rfl kq) ?_
 intro W base args ds gs before hval hW _ hk _;exact contract H enc W base args ds gs before hval hW hk
theorem proved:Rows.JourneyMoreUptoSaid:=
 OpenClaim.holds_of_cond 4 Tryz.f4 rfl rfl rfl rfl rfl rfl rfl ⟨rfl,rfl,rfl,rfl,rfl⟩ rfl rfl rfl rfl rfl kq Tryz.func4 kq
  (of_decide_eq_true kq) (by unfold Func.isWrapper;first|(rw[if_pos (by decide +kernel)];kernel_rfl)|(rw[if_neg (by decide +kernel)];exact ⟨rfl,rfl⟩))
  (fun os started H enc _ F=>lifted os started H enc F)
end Go.Proofs.YtikilcbpogfgkaaGreat.journeyMore

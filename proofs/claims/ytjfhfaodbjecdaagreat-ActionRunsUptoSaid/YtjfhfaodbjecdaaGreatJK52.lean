/-
  The law ActionRuns holds of the given program wherever what it reads is of bulk at most 1048576: the call answers true, and each argument reads behind the call as it read before. No other condition.
-/
import Derived.Test.YtjfhfaodbjecdaaGreatJK51
set_option maxRecDepth 100000
namespace Go.Proofs.YtjfhfaodbjecdaaGreat.actionRuns
open Go.ChangeShapes Go.WideShapes Go.ChangeAt Go.RowKit
theorem own:ownKnob Tryz.prog.godebug=none:=by kernel_rfl
theorem pG:laidOutB Tryz.prog=true:=by kernel_rfl
theorem xI (H:Type) (enc:TypeId×Value->H) (W:World) (base:Nat) (args:Array Value) (ds gs:List (DataW H)) (before:List MemPlace)
 (hval0:∀(j:Nat) t v,Tryz.f3.params[j]?=some t->args[j]?=some v->Value.okWide Tryz.prog W .any base t v)
 (hW:DataW.Whole enc Tryz.prog Tryz.f3.params.toList Rows.actionRunsSpec.vars false W args.toList ds gs before) (hk:Rows.uptoSmall H (ds++gs)=true):
 Calls Tryz.prog 3 args W fun e W'=>∃v,e= .returned v/\Rows.actionRunsSpec.post enc Tryz.prog Tryz.f3 false true false false W args v W':=by
 have hval:∀(j:Nat) t v,Tryz.f3.params[j]?=some t->args[j]?=some v->Value.okWide Tryz.prog W .any base t v:=hval0;have hW':=hW;obtain ⟨p,q,hA0,hV,rfl,hfz,hnd⟩:=hW;have hA:DataW.TrodAll enc Tryz.prog W 0 (fun _=>true) true Tryz.f3.params.toList args.toList ds p:=hA0;rw[Tryz.params3] at hA hval;obtain ⟨v0,vs0,d0,ds0,p0,q0,hargs,rfl,rfl,h0,r0⟩:=trodAll_cons hA;obtain ⟨v1,vs1,d1,ds1,p1,q1,rfl,rfl,rfl,h1,r1⟩:=trodAll_cons r0;obtain ⟨v2,vs2,d2,ds2,p2,q2,rfl,rfl,rfl,h2,r2⟩:=trodAll_cons r1;obtain ⟨rfl,rfl,rfl⟩:=trodAll_nil r2;obtain rfl:args=#[v0,v1,v2]:=by cases args;simp_all
 obtain ⟨rfl,rfl⟩:=trodVars_none hV;have k0:=h0;have lt0:∀x∈p0,x.block<W.heap.size:=by obtain ⟨m,hm⟩:=k0;exact DataW.trod_lt m _ _ _ hm
 have k1:=h1;have lt1:∀x∈p1,x.block<W.heap.size:=by obtain ⟨m,hm⟩:=k1;exact DataW.trod_lt m _ _ _ hm
 have k2:=h2;have lt2:∀x∈p2,x.block<W.heap.size:=by obtain ⟨m,hm⟩:=k2;exact DataW.trod_lt m _ _ _ hm
 simp only[List.append_nil] at hk;obtain ⟨b0,b1,-⟩:=AO hk;obtain ⟨s,pr,rfl,hp,hL⟩:=sF (hval 0 33 v0 rfl rfl) k0 b0;obtain ⟨l,hl,hla⟩:=nG (hval 1 34 v1 rfl rfl) k1 b1;obtain ⟨qk,x,rfl,hq⟩:=xH (hval 2 40 v2 rfl rfl) k2;obtain ⟨lp,lc,rfl,-⟩:=hl.shape;clear hA0 hval0;refine (qY s pr l lp l.length lc qk x W hp hL hl hla hq).mono fun e W' ⟨he,bel⟩=>?_
 subst he;exact ⟨_,rfl,_,_,_,[],_,[],hW',trodAll_mk1 (shut_bool Tryz.underlying4 _),(trodAll_cons_mk (Below.trod pG kq (of_decide_eq_true kq) k0 bel lt0) (trodAll_cons_mk (Below.trod pG kq (of_decide_eq_true kq) k1 bel lt1) (trodAll_cons_mk (Below.trod pG kq (of_decide_eq_true kq) k2 bel lt2) trodAll_mk0))),rfl,bel.frame _,fun h=>by cases h⟩
theorem AP (os:Os) (started:os.Started) (H:Type) (enc:TypeId×Value->H) (F:Stop.Interp):
 ReturnsInHanded {} Tryz.checked os 3 .any ((Rows.OpenSpec.upto Rows.actionRunsSpec).pre6 enc Tryz.prog Tryz.f3 Rows.actionRunsUptoRow.domain false) (((Rows.OpenSpec.upto Rows.actionRunsSpec).at F).post enc Tryz.prog Tryz.f3 false true false false):=by
 refine returnsInHanded_of_cond (C:=Tryz.checked) (s:=Rows.OpenSpec.upto Rows.actionRunsSpec) (k:=Rows.uptoSmall) rfl own started kq Tryz.func3
  (OpenSpec.witness (enc:=enc) (C:=Tryz.checked) (s:=Rows.OpenSpec.upto Rows.actionRunsSpec) (k:=Rows.uptoSmall) rfl false ⟨#[],#[.agg #[.slice none 0 0, .slice none 0 0, .slice none 0 0, .slice none 0 0, .slice none 0 0, .slice none 0 0, .slice none 0 0, .slice none 0 0, .slice none 0 0, .slice none 0 0, .slice none 0 0, .slice none 0 0], .slice none 0 0, .agg zA],[]⟩ 8 kq kq kq
   (x:=([.agg [.nil, .nil, .nil, .nil, .nil, .nil, .nil, .agg [.nil, .nil, .nil, .nil, .nil]], .nil, .agg [.lit (.int .i64 0), .nil, .nil, .nil, .nil, .lit (.bool false), .lit (.bool false), .lit (.int .i64 0), .lit (.bool false)]],[],[])) kq rfl kq) ?_
 intro W base args ds gs before hval hW _ hk _;exact xI H enc W base args ds gs before hval hW hk
theorem proved:Rows.ActionRunsUptoSaid:=
 OpenClaim.holds_of_cond 3 Tryz.f3 rfl rfl rfl rfl rfl rfl rfl ⟨rfl,rfl,rfl,rfl,rfl⟩ rfl rfl rfl rfl rfl kq Tryz.func3 kq
  (of_decide_eq_true kq) (by unfold Func.isWrapper;first|(rw[if_pos (by decide +kernel)];kernel_rfl)|(rw[if_neg (by decide +kernel)];exact ⟨rfl,rfl⟩))
  (fun os started H enc _ F=>AP os started H enc F)
end Go.Proofs.YtjfhfaodbjecdaaGreat.actionRuns

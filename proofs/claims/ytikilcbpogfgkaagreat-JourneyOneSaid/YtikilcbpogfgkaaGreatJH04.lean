/- Lemmas. -/
import Derived.Test.YtikilcbpogfgkaaGreatJH01
import Derived.ProofKit
import Derived.Deep.RegionHeld3
set_option maxHeartbeats 1000000
set_option maxRecDepth 100000
namespace Go.Proofs.YtikilcbpogfgkaaGreat
open Go.RowKit Go.Maps
variable {w w' W w1:World} {m a b lo c hi g:Nat} {es:List (Int×Value)} {x:Int} {p p0 p1 p2 p3 p4 p5:Addr} {v0 v1 v2 v3 v4 v5:Value}
def UMap (w:World) (m:Nat) (es:List (Int×Value)):Prop:=
 ∃arr clock,w.heap[m]?=some (.map arr clock)/\arr.toList.map (fun e=>(e.key,e.val))=es.map (fun p=>(Value.int .u8 p.1,p.2))/\(∀ p∈es,(Lit.int .u8 p.1).wf=true)/\(es.map Prod.fst).Nodup
theorem UMap.empty (w:World) (m:Nat) (h:w.heap[m]?=some (.map #[] 0)):UMap w m []:=⟨#[],0,h,rfl,by simp,by simp⟩
theorem UMap.kept (h:UMap w m es) (hb:w'.heap[m]?=w.heap[m]?):UMap w' m es:=by
 obtain ⟨arr,clock,h1,h2⟩:=h;exact ⟨arr,clock,hb.trans h1,h2⟩
theorem UMap.lt (h:UMap w m es):m<w.heap.size:=by
 obtain ⟨arr,clock,hb,-⟩:=h;exact (gA_ hb).1
theorem UMap.below (h:UMap w m es) (hb:Bl w w'):UMap w' m es:=h.kept (hb.block m h.lt)
section
variable {P:Program} {k T e:TypeId} {w:World} {m:Nat} {es:List (Int×Value)}
theorem UMap.keys {arr:Array MapEntry} (h:arr.toList.map (fun e=>(e.key,e.val))=es.map (fun p=>(Value.int .u8 p.1,p.2))) {x:MapEntry} (hx:x∈arr.toList):∃p∈es,x.key= .int .u8 p.1/\x.val=p.2:=by
 have:(x.key,x.val)∈arr.toList.map (fun e=>(e.key,e.val)):=List.mem_map.2 ⟨x,hx,rfl⟩;rw[h] at this;obtain ⟨p,hp,he⟩:=List.mem_map.1 this;simp only[Prod.mk.injEq] at he;exact ⟨p,hp,he.1.symm,he.2.symm⟩
theorem UMap.look (h:UMap w m es) (hk:P.underlying k=some (.int .u8)) (ht:P.underlying T=some (.map k e)) {v:Value} (hx:(x,v)∈es):
 (Instr.lookup T (.map (some m)) (.int .u8 x) true).run P w= .ok (.tuple #[v, .bool true]) w:=by
 obtain ⟨arr,clock,hb,h1,h2,h3⟩:=h;have K:=int_keyed hk;have hkey:=keyOf_int_mk hk (h2 _ hx);rcases K.find w hkey arr.toList (fun y hy=>by obtain ⟨p,hp,e1,-⟩:=UMap.keys h1 hy;exact ⟨_,by rw[e1];exact keyOf_int_mk hk (h2 _ hp)⟩) with ⟨f1,f2⟩|⟨j,e0,f1,f2,f3⟩
 ·exfalso;have:(Value.int .u8 x,v)∈arr.toList.map (fun e=>(e.key,e.val)):=by rw[h1];exact List.mem_map.2 ⟨_,hx,rfl⟩
  obtain ⟨y,hy,he⟩:=List.mem_map.1 this;simp only[Prod.mk.injEq] at he;exact f2 y hy he.1
 ·obtain ⟨p,hp,e1,e2⟩:=UMap.keys h1 (gM_ f2);have hpx:p.1=x:=by rw[f3] at e1;simpa using e1.symm
  have hv:p.2=v:=by
   have:∀(l:List (Int×Value)),(l.map Prod.fst).Nodup->p∈l->(x,v)∈l->p.2=v:=by
    intro l;induction l with
    |nil=>intro _ hp;cases hp
    |cons q l ih=>
     intro hn hp hx;rw[List.map_cons,List.nodup_cons] at hn;rcases List.mem_cons.1 hp with rfl|hp'<;>rcases List.mem_cons.1 hx with hx'|hx'
     ·rw[<- hx']
     ·exact absurd (List.mem_map.2 ⟨_,hx',hpx.symm⟩) hn.1
     ·exact absurd (List.mem_map.2 ⟨_,hp',by rw[<- hx'];exact hpx⟩) hn.1
     ·exact ih hn.2 hp' hx'
   exact this es h3 hp hx
  simp[Instr.lookup,run_underlying ht,MapKept.run_getObj_map hb,K.check w _ hkey,f1,Result.andThen,e2,hv]
theorem UMap.miss (h:UMap w m es) (hk:P.underlying k=some (.int .u8)) (ht:P.underlying T=some (.map k e)) {z:Value} (hz:(zeroValue e).run P w= .ok z w) (hw:(Lit.int .u8 x).wf=true) (hx:∀p∈es,p.1≠x):
 (Instr.lookup T (.map (some m)) (.int .u8 x) true).run P w= .ok (.tuple #[z, .bool false]) w:=by
 obtain ⟨arr,clock,hb,h1,h2,h3⟩:=h;have K:=int_keyed hk;have hkey:=keyOf_int_mk hk hw;rcases K.find w hkey arr.toList (fun y hy=>by obtain ⟨p,hp,e1,-⟩:=UMap.keys h1 hy;exact ⟨_,by rw[e1];exact keyOf_int_mk hk (h2 _ hp)⟩) with ⟨f1,f2⟩|⟨j,e0,f1,f2,f3⟩
 ·simp[Instr.lookup,run_underlying ht,MapKept.run_getObj_map hb,K.check w _ hkey,f1,hz,Result.andThen]
 ·exfalso;obtain ⟨p,hp,e1,e2⟩:=UMap.keys h1 (gM_ f2);rw[f3] at e1;exact hx p hp (by simpa using e1.symm)
theorem UMap.put (h:UMap w m es) (hk:P.underlying k=some (.int .u8)) (ht:P.underlying T=some (.map k e)) (v:Value) (hw:(Lit.int .u8 x).wf=true) (hx:∀p∈es,p.1≠x):
 ∃w',(Instr.mapUpdate T (.map (some m)) (.int .u8 x) v).run P w= .ok () w'/\UMap w' m (es++[(x,v)])/\w.grownBy w' (some m):=by
 obtain ⟨arr,clock,hb,h1,h2,h3⟩:=h;have K:=int_keyed hk;have hkey:=keyOf_int_mk hk hw;have hg:∀o:Obj,w.grownBy (ChangeMaps.setBlock w m o) (some m):=fun o=>⟨rfl,rfl,rfl,by simp[ChangeMaps.setBlock],fun i _ hi=>ChangeMaps.heap_setBlock_other hb o (fun e=>hi (by rw[e]))⟩
 rcases K.find w hkey arr.toList (fun y hy=>by obtain ⟨p,hp,e1,-⟩:=UMap.keys h1 hy;exact ⟨_,by rw[e1];exact keyOf_int_mk hk (h2 _ hp)⟩) with ⟨f1,f2⟩|⟨j,e0,f1,f2,f3⟩
 ·refine ⟨ChangeMaps.setBlock w m (.map (arr.push ⟨.int .u8 x,v,clock⟩) (clock+1)),?_,⟨_,_,ChangeMaps.heap_setBlock_same hb _,?_,?_,?_⟩,hg _⟩
  ·simp[Instr.mapUpdate,run_underlying ht,MapKept.run_getObj_map hb,K.check w false hkey,f1,MapKept.run_setObj_map _ hb,Result.andThen,ChangeMaps.setBlock]
  ·rw[Array.toList_push,List.map_append,List.map_append,h1];rfl
  ·intro p hp;rcases List.mem_append.1 hp with q|q
   ·exact h2 p q
   ·rw[List.mem_singleton.1 q];exact hw
  ·rw[List.map_append,List.nodup_append];refine ⟨h3,by simp,?_⟩;intro a ha b hb2;obtain ⟨p,hp,rfl⟩:=List.mem_map.1 ha;simp at hb2;rw[hb2];exact hx p hp
 ·exfalso;obtain ⟨p,hp,e1,e2⟩:=UMap.keys h1 (gM_ f2);rw[f3] at e1;exact hx p hp (by simpa using e1.symm)
theorem wpList_put {ops:Array Oper} {rest:List Oper} {o:Oper} {a:Act} {Q:Exit->Act->World->Prop} (hg:o.guard=none) (mo x v:Operand) (hop:o.op=Op.insert T mo x v)
 (hk:P.underlying k=some (.int .u8)) (ht:P.underlying T=some (.map k e)) (hm:a.eval mo= .map (some m)) (h:UMap w m es) (key:Int) (hx:a.eval x= .int .u8 key) (val:Value) (hv:a.eval v=val) (hw:(Lit.int .u8 key).wf=true) (hn:∀p∈es,p.1≠key)
 (hK:∀w',UMap w' m (es++[(key,val)])->w.grownBy w' (some m)->wpList P ops Q rest (a.put o.dst undef) w'):wpList P ops Q (o::rest) a w:=by
 refine wpList_plain hg fun K' hK'=>?_
 obtain ⟨w',hrun,r1,r2⟩:=h.put hk ht val hw hn;unfold Oper.wp;simp[execOp,hop,hm,hx,hv,hrun,Result.andThen];exact hK' _ _ (hK w' r1 r2)
end
open Go.RowKit
theorem numOf_val (n:Nat) (hn:n<B):Value.agg #[.int .u64 0, .int .u64 (n:Int)]=numV n:=by
 have he:=numV_mk 0 n hn;rw[Nat.zero_mul,Nat.zero_add] at he;exact he
theorem numOf_any (n:Nat) (hn:n<B) (w:World):
 Calls Tryz.prog 65 #[.int .u64 (n:Int)] w (RetNum w n):=by
 have H:=hD (numOf_val n hn);clear hn;go_enter Tryz.func65,Tryz.ntmps65;go_wp2;exact bodyPost_ret (v:= .agg #[.int .u64 0, .int .u64 (n:Int)]) (by simp[results,Tryz.results65,go_sem]) rfl ⟨by rw[H.o],bL⟩
theorem shr_val (n s:Nat) (hn:n<B*B):(s<64->∀h l:Nat,h=n/B->l=n%B->Value.agg #[.int .u64 ((h:Int)/2 ^ s), .int .u64 (bits .or .u64 ((l:Int)/2 ^ s) (IntKind.u64.wrap ((h:Int)*2 ^ (64-s))))]=numV (n/2 ^ s))/\
 (64<=s->∀h l:Nat,h=n/B->l=n%B->Value.agg #[.int .u64 0, .int .u64 ((h:Int)/2 ^ (s-64))]=numV (n/2 ^ s)):=by
 refine ⟨fun hs h l e1 e2=>?_,fun hs h l e1 e2=>?_⟩
 ·subst e1 e2;rw[shr_small _ _ _ (half_lt hn) (low_lt _) hs,parts_eq]
 ·subst e1 e2;rw[shr_great _ (n%B) _ (half_lt hn) (low_lt _) hs,parts_eq]
theorem numShr_any (n:Nat) (k:Int) (w:World) (hn:n<B*B):
 Calls Tryz.prog 95 #[numV n, .int .i64 k] w (RetNum w (n/2 ^ sh k)):=by
 have HV:=hD (shr_val n (sh k) hn);obtain ⟨y,z,he,hh,hl⟩:=numV_parts n;have HH:Hd (y=n/B/\z=n%B):=⟨hh,hl⟩;rw[he];clear he hh hl hn;rcases Int.lt_or_le 0 k with h0|h0
 ·obtain ⟨s,rfl⟩:=Int.eq_ofNat_of_zero_le (Int.le_of_lt h0);have h0':0<s:=om
  clear h0;rcases Nat.lt_or_ge s 64 with h1|h1
  ·have HS:Hd (sh (s:Int)=s):=by show _=_;unfold sh;omega
   go_enter Tryz.func95,Tryz.ntmps95;go_wp2;exact bodyPost_ret (v:= .agg #[.int .u64 ((y:Int)/2 ^ s), .int .u64 (bits .or .u64 ((z:Int)/2 ^ s) (IntKind.u64.wrap ((y:Int)*2 ^ (64-s))))]) (by simp[results,Tryz.results95,go_sem]) rfl ⟨by rw[HS.o] at HV⊢;rw[HV.o.1 h1 y z HH.o.1 HH.o.2],bL⟩
  ·rcases Nat.lt_or_ge s 129 with h2|h2
   ·have HS:Hd (sh (s:Int)=s):=by show _=_;unfold sh;omega
    by_cases h3:s=128
    ·subst h3;go_enter Tryz.func95,Tryz.ntmps95;go_wp2;exact bodyPost_ret (v:= .agg #[.int .u64 0, .int .u64 ((y:Int)/18446744073709551616)]) (by simp[results,Tryz.results95,go_sem]) rfl ⟨by rw[HS.o] at HV⊢;rw[<- HV.o.2 h1 y z HH.o.1 HH.o.2];simp,bL⟩
    ·have h4:s<128:=om
     clear h3 h2;go_enter Tryz.func95,Tryz.ntmps95;go_wp2;exact bodyPost_ret (v:= .agg #[.int .u64 0, .int .u64 ((y:Int)/2 ^ (s-64))]) (by simp[results,Tryz.results95,go_sem]) rfl ⟨by rw[HS.o] at HV⊢;rw[HV.o.2 h1 y z HH.o.1 HH.o.2],bL⟩
   ·have HS:Hd (sh (s:Int)=128):=by show _=_;unfold sh;omega
    go_enter Tryz.func95,Tryz.ntmps95;go_wp2;exact bodyPost_ret (v:= .agg #[.int .u64 0, .int .u64 ((y:Int)/18446744073709551616)]) (by simp[results,Tryz.results95,go_sem]) rfl ⟨by rw[HS.o] at HV⊢;rw[<- HV.o.2 om y z HH.o.1 HH.o.2];simp,bL⟩
 ·have HS:Hd (sh k=0):=by show _=_;unfold sh;omega
  go_enter Tryz.func95,Tryz.ntmps95;go_wp2
  all_goals exact bodyPost_ret (v:= .agg #[.int .u64 (y:Int), .int .u64 (bits .or .u64 (z:Int) (IntKind.u64.wrap ((y:Int)*18446744073709551616)))]) (by simp[results,Tryz.results95,go_sem]) rfl ⟨by rw[HS.o] at HV⊢;rw[<- HV.o.1 om y z HH.o.1 HH.o.2];simp,bL⟩
theorem ones_val:Value.agg #[.int .u64 18446744073709551615, .int .u64 18446744073709551615]=numV (B*B-1):=by kernel_rfl
theorem BB_pow:B*B=2 ^ 128:=by rw[B_pow, <-Nat.pow_add]
theorem ones_div (t:Nat) (h:t<=128):(B*B-1)/2 ^ (128-t)=2 ^ t-1:=by
 have h1:B*B=2 ^ t*2 ^ (128-t):=by rw[BB_pow, <-Nat.pow_add];congr 1;omega
 have h2:0<2 ^ (128-t):=Nat.two_pow_pos _;have h3:0<2 ^ t:=Nat.two_pow_pos _;apply Nat.div_eq_of_lt_le
 ·rw[Nat.sub_mul,h1];omega
 ·rw[h1,Nat.sub_add_cancel h3];have:0<2 ^ t*2 ^ (128-t):=Nat.mul_pos h3 h2;omega
theorem mask_lt (w:Int):2 ^ sh w-1<B*B:=by
 have h1:2 ^ sh w<=2 ^ 128:=Nat.pow_le_pow_right om (sh_le w);have h2:0<2 ^ sh w:=Nat.two_pow_pos _;rw[BB_pow];omega
theorem numMask_any (k:Int) (w:World):Calls Tryz.prog 117 #[.int .i64 k] w (RetNum w (2 ^ sh k-1)):=by
 by_cases h0:k<1
 ·have HS:Hd (sh k=0):=by show _=_;unfold sh;omega
  go_enter Tryz.func117,Tryz.ntmps117;go_wp2_with fail;exact bodyPost_ret (v:= .agg #[.int .u64 0, .int .u64 0]) (by simp[results,Tryz.results117,go_sem]) rfl ⟨by rw[HS.o];rfl,bL⟩
 ·have HS:∀j:Int,(128<k->j=0)->(k<=128->j=128-k)->Hd ((B*B-1)/2 ^ sh j=2 ^ sh k-1):=by
   intro j h1 h2;show _=_;rw[<- ones_div _ (sh_le k)];have:sh j=128-sh k:=by unfold sh;omega
   rw[this]
  have HL:Hd (B*B-1<B*B):=by show _<_;unfold B;omega
  have HO:=hD ones_val;go_enter Tryz.func117,Tryz.ntmps117;go_wp2_with fail
  all_goals
   rw[HO.o];refine (numShr_any _ _ _ HL.o).mono ?_;rintro e w1 ⟨rfl,hb⟩;obtain ⟨hc,hf⟩:=bcell hb;have hz:=hb.size;simp at hz;obtain ⟨y,z,he,-,-⟩:=numV_parts ((B*B-1)/2 ^ sh _);have HE:=hD he;rw[he];clear he;go_wp2_with fail;have L2:w.heap.size<w.heap.size+1+1:=om
   exact bodyPost_ret (v:= .agg #[.int .u64 (y:Int), .int .u64 (z:Int)]) (by simp[results,Tryz.results117,go_sem,hc,L2]) rfl ⟨by rw[<- HE.o];rw[(HS _ (by intro;omega) (by intro;omega)).o],bL⟩
theorem numCut_any (n:Nat) (k:Int) (w:World) (hn:n<B*B):Calls Tryz.prog 99 #[numV n, .int .i64 k] w (RetNum w (n%2 ^ sh k)):=by
 have HV:Hd (n &&& (2 ^ sh k-1)=n%2 ^ sh k):=Nat.and_two_pow_sub_one_eq_mod n (sh k);have HB:=hD (and_num n (2 ^ sh k-1) hn (mask_lt k));obtain ⟨y,z,he,hy,hz0⟩:=numV_parts n;obtain ⟨u,v,hm,hu,hv⟩:=numV_parts (2 ^ sh k-1);rw[<- hy, <-hz0, <-hu, <-hv] at HB;have HM:=hD hm;rw[he];clear he hy hz0 hm hu hv;go_enter Tryz.func99,Tryz.ntmps99;go_wp2_with fail;go_region_with (first
  |(go_at_call 117;refine (numMask_any _ _).mono ?_;rintro e w1 ⟨rfl,hb⟩;rw[HM.o];obtain ⟨hc,hf⟩:=bcell hb;have hz:=hb.size;simp at hz;have L1:w.heap.size+1<w1.heap.size:=by omega)
  |(go_at_call 101;refine (and_any _ _ _ _ _).mono ?_;rintro e w2 ⟨rfl,hb2⟩;obtain ⟨hc2,hf2⟩:=bcell hb2;have hz2:=hb2.size))
 all_goals go_wp2_with fail
 all_goals exact bodyPost_ret (v:= .agg #[.int .u64 (bits .and .u64 (y:Int) (u:Int)), .int .u64 (bits .and .u64 (z:Int) (v:Int))]) (by simp[results,Tryz.results99,go_sem,hc,hc2,L1]) rfl ⟨by rw[HB.o,HV.o],bL⟩
theorem numShl_any (n:Nat) (k j:Int) (w:World) (hn:n<B*B):Calls Tryz.prog 64 #[numV n, .int .i64 k, .int .i64 j] w (RetNum w (n*2 ^ sh k%(B*B)%2 ^ sh j)):=by
 have HC:Hd (n*2 ^ sh k%(B*B)<B*B):=Nat.mod_lt _ (by unfold B;omega);have HV1:sh k<64->∀y z:Nat,y=n/B->z=n%B->Value.agg #[.int .u64 (bits .or .u64 (IntKind.u64.wrap ((y:Int)*2 ^ sh k)) ((z:Int)/2 ^ (64-sh k))), .int .u64 (IntKind.u64.wrap ((z:Int)*2 ^ sh k))]=numV (n*2 ^ sh k%(B*B)):=by
  intro hs y z e1 e2;subst e1 e2;rw[shl_small _ _ _ (half_lt hn) (low_lt _) hs,parts_eq]
 have HV2:64<=sh k->∀z:Nat,z=n%B->Value.agg #[.int .u64 (IntKind.u64.wrap ((z:Int)*2 ^ (sh k-64))), .int .u64 0]=numV (n*2 ^ sh k%(B*B)):=by
  intro hs z e2;subst e2;rw[shl_great _ (n%B) _ (half_lt hn) (low_lt _) hs,parts_eq]
 have HA:=hD HV1;clear HV1;have HB:=hD HV2;clear HV2;obtain ⟨y,z,he,hy,hz0⟩:=numV_parts n;have HH:Hd (y=n/B/\z=n%B):=⟨hy,hz0⟩;rw[he];clear he hy hz0 hn;rcases Int.lt_or_le 0 k with h0|h0
 ·obtain ⟨s,rfl⟩:=Int.eq_ofNat_of_zero_le (Int.le_of_lt h0);have h0':0<s:=om
  clear h0;rcases Nat.lt_or_ge s 64 with h1|h1
  ·have HS:Hd (sh (s:Int)=s):=by show _=_;unfold sh;omega
   have HE:Hd (Value.agg #[.int .u64 (bits .or .u64 (IntKind.u64.wrap ((y:Int)*2 ^ s)) ((z:Int)/2 ^ (64-s))), .int .u64 (IntKind.u64.wrap ((z:Int)*2 ^ s))]=numV (n*2 ^ sh (s:Int)%(B*B))):=by
    show _=_;rw[<- HA.o (by rw[HS.o];exact h1) y z HH.o.1 HH.o.2,HS.o]
   go_enter Tryz.func64,Tryz.ntmps64;go_wp2_with (go_at_call 98;go_in);rw[HE.o];refine (numCut_any _ _ _ HC.o).mono ?_;rintro e w1 ⟨rfl,hb⟩;obtain ⟨hc,hf⟩:=bcell hb;have hz:=hb.size;simp at hz;have L1:w.heap.size+1<w1.heap.size:=om
   obtain ⟨u,v,hm,-,-⟩:=numV_parts (n*2 ^ sh _%(B*B)%2 ^ sh j);have HM:=hD hm;rw[hm];clear hm;go_wp2_with fail;exact bodyPost_ret (v:= .agg #[.int .u64 (u:Int), .int .u64 (v:Int)]) (by simp[results,Tryz.results64,go_sem,hc]) rfl ⟨by rw[<- HM.o],bL⟩
  ·rcases Nat.lt_or_ge s 128 with h2|h2
   ·have HS:Hd (sh (s:Int)=s):=by show _=_;unfold sh;omega
    have HE:Hd (Value.agg #[.int .u64 (IntKind.u64.wrap ((z:Int)*2 ^ (s-64))), .int .u64 0]=numV (n*2 ^ sh (s:Int)%(B*B))):=by
     show _=_;rw[<- HB.o (by rw[HS.o];exact h1) z HH.o.2,HS.o]
    go_enter Tryz.func64,Tryz.ntmps64;go_wp2_with (go_at_call 98;go_in);rw[HE.o];refine (numCut_any _ _ _ HC.o).mono ?_;rintro e w1 ⟨rfl,hb⟩;obtain ⟨hc,hf⟩:=bcell hb;have hz:=hb.size;simp at hz;have L1:w.heap.size+1<w1.heap.size:=om
    obtain ⟨u,v,hm,-,-⟩:=numV_parts (n*2 ^ sh _%(B*B)%2 ^ sh j);have HM:=hD hm;rw[hm];clear hm;go_wp2_with fail;exact bodyPost_ret (v:= .agg #[.int .u64 (u:Int), .int .u64 (v:Int)]) (by simp[results,Tryz.results64,go_sem,hc]) rfl ⟨by rw[<- HM.o],bL⟩
   ·have HS:Hd (sh (s:Int)=128):=by show _=_;unfold sh;omega
    have HE:Hd (Value.agg #[.int .u64 (IntKind.u64.wrap ((z:Int)*18446744073709551616)), .int .u64 0]=numV (n*2 ^ sh (s:Int)%(B*B))):=by
     show _=_;rw[<- HB.o (by rw[HS.o];omega) z HH.o.2,HS.o];simp
    by_cases h3:s=128
    ·subst h3;go_enter Tryz.func64,Tryz.ntmps64;go_wp2_with (go_at_call 98;go_in);rw[HE.o];refine (numCut_any _ _ _ HC.o).mono ?_;rintro e w1 ⟨rfl,hb⟩;obtain ⟨hc,hf⟩:=bcell hb;have hz:=hb.size;simp at hz;have L1:w.heap.size+1<w1.heap.size:=om
     obtain ⟨u,v,hm,-,-⟩:=numV_parts (n*2 ^ sh _%(B*B)%2 ^ sh j);have HM:=hD hm;rw[hm];clear hm;go_wp2_with fail;exact bodyPost_ret (v:= .agg #[.int .u64 (u:Int), .int .u64 (v:Int)]) (by simp[results,Tryz.results64,go_sem,hc]) rfl ⟨by rw[<- HM.o],bL⟩
    ·have h4:128<s:=om
     clear h3 h2;go_enter Tryz.func64,Tryz.ntmps64;go_wp2_with (go_at_call 98;go_in);rw[HE.o];refine (numCut_any _ _ _ HC.o).mono ?_;rintro e w1 ⟨rfl,hb⟩;obtain ⟨hc,hf⟩:=bcell hb;have hz:=hb.size;simp at hz;have L1:w.heap.size+1<w1.heap.size:=om
     obtain ⟨u,v,hm,-,-⟩:=numV_parts (n*2 ^ sh _%(B*B)%2 ^ sh j);have HM:=hD hm;rw[hm];clear hm;go_wp2_with fail;exact bodyPost_ret (v:= .agg #[.int .u64 (u:Int), .int .u64 (v:Int)]) (by simp[results,Tryz.results64,go_sem,hc]) rfl ⟨by rw[<- HM.o],bL⟩
 ·have HS:Hd (sh k=0):=by show _=_;unfold sh;omega
  have HE:Hd (Value.agg #[.int .u64 (bits .or .u64 (IntKind.u64.wrap (y:Int)) ((z:Int)/18446744073709551616)), .int .u64 (IntKind.u64.wrap ((z:Int)))]=numV (n*2 ^ sh k%(B*B))):=by
   show _=_;rw[<- HA.o (by rw[HS.o];omega) y z HH.o.1 HH.o.2,HS.o];simp
  go_enter Tryz.func64,Tryz.ntmps64;go_wp2_with (go_at_call 98;go_in);rw[HE.o];refine (numCut_any _ _ _ HC.o).mono ?_;rintro e w1 ⟨rfl,hb⟩;obtain ⟨hc,hf⟩:=bcell hb;have hz:=hb.size;simp at hz;have L1:w.heap.size+1<w1.heap.size:=om
  obtain ⟨u,v,hm,-,-⟩:=numV_parts (n*2 ^ sh _%(B*B)%2 ^ sh j);have HM:=hD hm;rw[hm];clear hm;go_wp2_with fail;exact bodyPost_ret (v:= .agg #[.int .u64 (u:Int), .int .u64 (v:Int)]) (by simp[results,Tryz.results64,go_sem,hc]) rfl ⟨by rw[<- HM.o],bL⟩
open Go.RowKit
theorem xor1_any (a b:Int) (w:World):
 Calls Tryz.prog 159 #[.int .u64 a, .int .u64 b] w fun e w'=>e= .returned (.int .u64 (bits BinOp.xor IntKind.u64 a b))/\w'=w:=by
 go_enter Tryz.func159,Tryz.ntmps159;go_wp2;go_ret;exact ⟨rfl,rfl⟩
theorem both_xor (a b c d:Int) (w:World):
 Calls Tryz.prog 96 #[.agg #[.int .u64 a, .int .u64 b], .agg #[.int .u64 c, .int .u64 d], .func (Fn.func 159) #[] #[]] w fun e w'=>e= .returned (.agg #[.int .u64 (bits BinOp.xor IntKind.u64 a c), .int .u64 (bits BinOp.xor IntKind.u64 b d)])/\Bl w w':=by
 go_enter Tryz.func96,Tryz.ntmps96;go_wp2;refine wp_region_still_tail 13 kq kq ?_;simp only[List.take_succ_cons,List.take_zero,List.drop_succ_cons,List.drop_zero];change wpStill _ _ (World.drew _) _ _ _
 repeat (first|still_step|still_call (xor1_any _ _ _))
 refine wpStill_nil ?_;change wpList _ _ _ _ _ (World.drew _);go_wp2;exact bodyPost_ret (v:= .agg #[.int .u64 (bits BinOp.xor IntKind.u64 a c), .int .u64 (bits BinOp.xor IntKind.u64 b d)]) (by simp[results,Tryz.results96,go_sem]) rfl ⟨rfl,bL⟩
theorem xor_any (a b c d:Int) (w:World):
 Calls Tryz.prog 148 #[.agg #[.int .u64 a, .int .u64 b], .agg #[.int .u64 c, .int .u64 d]] w fun e w'=>e= .returned (.agg #[.int .u64 (bits BinOp.xor IntKind.u64 a c), .int .u64 (bits BinOp.xor IntKind.u64 b d)])/\Bl w w':=by
 go_enter Tryz.func148,Tryz.ntmps148;go_wp2_with (go_at_call 96;refine (both_xor _ _ _ _ _).mono ?_;rintro e w1 ⟨rfl,hb⟩;obtain ⟨hc,hf⟩:=bcell hb;have hz:=hb.size;simp at hz);exact bodyPost_ret (v:= .agg #[.int .u64 (bits BinOp.xor IntKind.u64 a c), .int .u64 (bits BinOp.xor IntKind.u64 b d)]) (by simp[results,Tryz.results148,go_sem,hc]) rfl ⟨rfl,bL⟩
theorem numXor_any (a b:Nat) (w:World) (ha:a<B*B) (hb:b<B*B):Calls Tryz.prog 148 #[numV a,numV b] w (RetNum w (a ^^^ b)):=
 (xor_any _ _ _ _ w).mono fun e w' ⟨h1,h2⟩=>⟨by rw[h1,xor_num a b ha hb],h2⟩
theorem numNot_any (n:Nat) (k:Int) (w:World) (hn:n<B*B):Calls Tryz.prog 134 #[numV n, .int .i64 k] w (RetNum w ((n%2 ^ sh k) ^^^ (2 ^ sh k-1))):=by
 have hlt:n%2 ^ sh k<B*B:=Nat.lt_of_le_of_lt (Nat.mod_le _ _) hn;have HC:Hd (∀ W,Calls Tryz.prog 99 #[numV n, .int .i64 k] W (RetNum W (n%2 ^ sh k))):=fun W=>numCut_any n k W hn
 have HM:Hd (∀ W,Calls Tryz.prog 117 #[.int .i64 k] W (RetNum W (2 ^ sh k-1))):=fun W=>numMask_any k W
 have HX:Hd (∀ W,Calls Tryz.prog 148 #[numV (n%2 ^ sh k),numV (2 ^ sh k-1)] W (RetNum W ((n%2 ^ sh k) ^^^ (2 ^ sh k-1)))):=fun W=>numXor_any _ _ W hlt (mask_lt k)
 generalize n%2 ^ sh k=m at*;generalize 2 ^ sh k-1=q at*;generalize m ^^^ q=r at*;obtain ⟨y,z,he,-,-⟩:=numV_parts n;obtain ⟨y1,z1,he1,-,-⟩:=numV_parts m;obtain ⟨y2,z2,he2,-,-⟩:=numV_parts q;obtain ⟨y3,z3,he3,-,-⟩:=numV_parts r;have HR:=hD he3;unfold RetNum at HC HM HX;rw[he,he1] at HC;rw[he2] at HM;rw[he1,he2,he3] at HX;rw[he];clear he he1 he2 he3 hn hlt;go_enter Tryz.func134,Tryz.ntmps134;go_wp2_with (first
  |(go_at_call 99;refine (HC.o _).mono ?_;rintro e w1 ⟨rfl,hb1⟩;obtain ⟨hc1,hf1⟩:=bcell hb1;have hz1:=hb1.size;simp at hz1;have L1:w.heap.size+1<w1.heap.size:=by omega)
  |(go_at_call 117;refine (HM.o _).mono ?_;rintro e w2 ⟨rfl,hb2⟩;obtain ⟨hc2,hf2⟩:=bcell hb2;have hz2:=hb2.size;have L2:w.heap.size+1<w2.heap.size:=by omega)
  |(go_at_call 148;refine (HX.o _).mono ?_;rintro e w3 ⟨rfl,hb3⟩;obtain ⟨hc3,hf3⟩:=bcell hb3;have hz3:=hb3.size;have L3:w.heap.size+1<w3.heap.size:=by omega))
 exact bodyPost_ret (v:= .agg #[.int .u64 (y3:Int), .int .u64 (z3:Int)]) (by simp[results,Tryz.results134,go_sem,hc1,hc2,hc3,L1,L2]) rfl ⟨by rw[HR.o],bL⟩
theorem add64_call (x y c:Nat) (hc:c<=1) (w:World):(callFunc 158 #[.int .u64 x, .int .u64 y, .int .u64 c]).run Tryz.prog w=
 .ok (.value (.tuple #[.int .u64 (((x+y+c)%B:Nat):Int), .int .u64 (((x+y+c)/B:Nat):Int)])) w:=by
 rw[run_callFunc_extern (show Tryz.prog.funcs[158]?=some Tryz.f158 by kernel_rfl) kq kq kq (e:=add64Entry) kq,run_add64 x y c om om om om];simp only[Result.andThen];unfold B;congr 5<;>omega
def sub64E:Array Value->Sem Value:=fun args=>do
 let (x,y,b) <-Extern.MathBitsCarry.three "Sub64" args
 pure (Extern.MathBitsCarry.pair ((x+Extern.MathBitsCarry.m64-y-b)%Extern.MathBitsCarry.m64) (if x<y+b then 1 else 0))
theorem run_sub64E (x y b:Nat) (hb:b<=1) (w:World):
 (sub64E #[.int .u64 x, .int .u64 y, .int .u64 b]).run Tryz.prog w=
  .ok (.tuple #[.int .u64 (((x+18446744073709551616-y-b)%18446744073709551616:Nat):Int), .int .u64 ((if x<y+b then 1 else 0:Nat):Int)]) w:=by
 have:b=0\/b=1:=om
 rcases this with rfl|rfl<;>rfl
theorem sub64_call (x y c:Nat) (hc:c<=1) (w:World):(callFunc 157 #[.int .u64 x, .int .u64 y, .int .u64 c]).run Tryz.prog w=
 .ok (.value (.tuple #[.int .u64 (((x+B-y-c)%B:Nat):Int), .int .u64 ((if x<y+c then 1 else 0:Nat):Int)])) w:=by
 rw[run_callFunc_extern (show Tryz.prog.funcs[157]?=some Tryz.f157 by kernel_rfl) kq kq kq (e:=sub64E) kq,run_sub64E x y c hc];rfl
theorem add_parts (_ha:a<B*B) (_hb:b<B*B) (hlo:lo=(a%B+b%B+0)%B) (hc:c=(a%B+b%B+0)/B) (hhi:hi=(a/B+b/B+c)%B):hi*B+lo=(a+b)%(B*B)/\lo<B/\c<=1:=by
 unfold B at*;omega
theorem sub_parts (ha:a<B*B) (hb:b<B*B) (hlo:lo=(a%B+B-b%B-0)%B) (hc:c=if a%B<b%B+0 then 1 else 0) (hhi:hi=(a/B+B-b/B-c)%B):hi*B+lo=(a+(B*B-b))%(B*B)/\lo<B/\c<=1:=by
 unfold B at*;split at hc<;>omega
open Go.RowKit
theorem numAdd_any (a b:Nat) (k:Int) (w:World) (ha:a<B*B) (hb:b<B*B):Calls Tryz.prog 144 #[numV a,numV b, .int .i64 k] w (RetNum w ((a+b)%(B*B)%2 ^ sh k)):=by
 have hlt:(a+b)%(B*B)<B*B:=Nat.mod_lt _ (by unfold B;omega);have HC:Hd (∀ W,Calls Tryz.prog 99 #[numV ((a+b)%(B*B)), .int .i64 k] W (RetNum W ((a+b)%(B*B)%2 ^ sh k))):=fun W=>numCut_any _ k W hlt
 obtain ⟨lo,hlo⟩:=nm ((a%B+b%B+0)%B);obtain ⟨c,hc⟩:=nm ((a%B+b%B+0)/B);obtain ⟨hi,hhi⟩:=nm ((a/B+b/B+c)%B);obtain ⟨c2,hc2⟩:=nm ((a/B+b/B+c)/B);obtain ⟨e1,e2,e3⟩:=add_parts ha hb hlo hc hhi;have h1:∀W,(callFunc 158 #[.int .u64 (a%B:Nat), .int .u64 (b%B:Nat), .int .u64 0]).run Tryz.prog W= .ok (.value (.tuple #[.int .u64 (lo:Int), .int .u64 (c:Int)])) W:=fun W=>by
  rw[hlo,hc];exact add64_call _ _ 0 om W
 have h2:∀W,(callFunc 158 #[.int .u64 (a/B:Nat), .int .u64 (b/B:Nat), .int .u64 (c:Nat)]).run Tryz.prog W= .ok (.value (.tuple #[.int .u64 (hi:Int), .int .u64 (c2:Int)])) W:=fun W=>by
  rw[hhi,hc2];exact add64_call _ _ c e3 W
 have hv:=numV_mk hi lo e2;rw[e1] at hv;generalize (a+b)%(B*B)%2 ^ sh k=r at*;generalize (a+b)%(B*B)=m at*;obtain ⟨y3,z3,he3,-,-⟩:=numV_parts r;have HR:=hD he3;unfold RetNum at HC;rw[<- hv,he3] at HC;obtain ⟨ah,al,hea,qa,qb⟩:=numV_parts a;obtain ⟨bh,bl,heb,qc,qd⟩:=numV_parts b;rw[<- qb, <-qd] at h1;rw[<- qa, <-qc] at h2;rw[hea,heb];clear hlt hlo hc hhi hc2 e1 e2 e3 hv he3 hea heb qa qb qc qd ha hb;go_enter Tryz.func144,Tryz.ntmps144;go_wp2_with (first
  |simp only[]
  |simp only[h2]
  |(go_at_call 99;refine (HC.o _).mono ?_;rintro e w1 ⟨rfl,hb1⟩;obtain ⟨hc1,hf1⟩:=bcell hb1;have hz1:=hb1.size;simp at hz1;have L1:w.heap.size+1<w1.heap.size:=by omega))
 exact bodyPost_ret (v:= .agg #[.int .u64 (y3:Int), .int .u64 (z3:Int)]) (by simp[results,Tryz.results144,go_sem,hc1]) rfl ⟨by rw[HR.o],bL⟩
theorem numSub_any (a b:Nat) (k:Int) (w:World) (ha:a<B*B) (hb:b<B*B):Calls Tryz.prog 136 #[numV a,numV b, .int .i64 k] w (RetNum w ((a+(B*B-b))%(B*B)%2 ^ sh k)):=by
 have hlt:(a+(B*B-b))%(B*B)<B*B:=Nat.mod_lt _ (by unfold B;omega);have HC:Hd (∀ W,Calls Tryz.prog 99 #[numV ((a+(B*B-b))%(B*B)), .int .i64 k] W (RetNum W ((a+(B*B-b))%(B*B)%2 ^ sh k))):=fun W=>numCut_any _ k W hlt
 obtain ⟨lo,hlo⟩:=nm ((a%B+B-b%B-0)%B);obtain ⟨c,hc⟩:=nm (if a%B<b%B+0 then 1 else 0)
 obtain ⟨hi,hhi⟩:=nm ((a/B+B-b/B-c)%B);obtain ⟨c2,hc2⟩:=nm (if a/B<b/B+c then 1 else 0)
 obtain ⟨e1,e2,e3⟩:=sub_parts ha hb hlo hc hhi;have h1:∀W,(callFunc 157 #[.int .u64 (a%B:Nat), .int .u64 (b%B:Nat), .int .u64 0]).run Tryz.prog W= .ok (.value (.tuple #[.int .u64 (lo:Int), .int .u64 (c:Int)])) W:=fun W=>by
  rw[hlo,hc];exact sub64_call _ _ 0 om W
 have h2:∀W,(callFunc 157 #[.int .u64 (a/B:Nat), .int .u64 (b/B:Nat), .int .u64 (c:Nat)]).run Tryz.prog W= .ok (.value (.tuple #[.int .u64 (hi:Int), .int .u64 (c2:Int)])) W:=fun W=>by
  rw[hhi,hc2];exact sub64_call _ _ c e3 W
 have hv:=numV_mk hi lo e2;rw[e1] at hv;generalize (a+(B*B-b))%(B*B)%2 ^ sh k=r at*;generalize (a+(B*B-b))%(B*B)=m at*;obtain ⟨y3,z3,he3,-,-⟩:=numV_parts r;have HR:=hD he3;unfold RetNum at HC;rw[<- hv,he3] at HC;obtain ⟨ah,al,hea,qa,qb⟩:=numV_parts a;obtain ⟨bh,bl,heb,qc,qd⟩:=numV_parts b;rw[<- qb, <-qd] at h1;rw[<- qa, <-qc] at h2;rw[hea,heb];clear hlt hlo hc hhi hc2 e1 e2 e3 hv he3 hea heb qa qb qc qd ha hb;go_enter Tryz.func136,Tryz.ntmps136;go_wp2_with (first
  |simp only[]
  |simp only[h2]
  |(go_at_call 99;refine (HC.o _).mono ?_;rintro e w1 ⟨rfl,hb1⟩;obtain ⟨hc1,hf1⟩:=bcell hb1;have hz1:=hb1.size;simp at hz1;have L1:w.heap.size+1<w1.heap.size:=by omega))
 exact bodyPost_ret (v:= .agg #[.int .u64 (y3:Int), .int .u64 (z3:Int)]) (by simp[results,Tryz.results136,go_sem,hc1]) rfl ⟨by rw[HR.o],bL⟩
theorem numSlice_any (n:Nat) (hi lo:Int) (w:World) (hn:n<B*B) (h0:0<=lo) (h1:lo<=hi) (h2:hi<128):Calls Tryz.prog 138 #[numV n, .int .i64 hi, .int .i64 lo] w (RetNum w (n/2 ^ sh lo%2 ^ sh (hi-lo+1))):=by
 have hlt:n/2 ^ sh lo<B*B:=Nat.lt_of_le_of_lt (Nat.div_le_self _ _) hn;have HS:Hd (∀ W,Calls Tryz.prog 95 #[numV n, .int .i64 lo] W (RetNum W (n/2 ^ sh lo))):=fun W=>numShr_any n lo W hn
 have HC:Hd (∀ W,Calls Tryz.prog 99 #[numV (n/2 ^ sh lo), .int .i64 (hi-lo+1)] W (RetNum W (n/2 ^ sh lo%2 ^ sh (hi-lo+1)))):=fun W=>numCut_any _ _ W hlt
 generalize n/2 ^ sh lo%2 ^ sh (hi-lo+1)=r at*;generalize n/2 ^ sh lo=m at*;obtain ⟨y,z,he,-,-⟩:=numV_parts n;obtain ⟨y1,z1,he1,-,-⟩:=numV_parts m;obtain ⟨y3,z3,he3,-,-⟩:=numV_parts r;have HR:=hD he3;unfold RetNum at HC HS;rw[he,he1] at HS;rw[he1,he3] at HC;rw[he];clear he he1 he3 hn hlt;go_enter Tryz.func138,Tryz.ntmps138;go_wp2_with (first
  |(go_at_call 95;refine (HS.o _).mono ?_;rintro e w1 ⟨rfl,hb1⟩;obtain ⟨hc1,hf1⟩:=bcell hb1;have hz1:=hb1.size;simp at hz1;have L1:w.heap.size+1<w1.heap.size:=by omega)
  |(go_at_call 99;refine (HC.o _).mono ?_;rintro e w2 ⟨rfl,hb2⟩;obtain ⟨hc2,hf2⟩:=bcell hb2;have hz2:=hb2.size;have L2:w.heap.size+1<w2.heap.size:=by omega))
 all_goals exact bodyPost_ret (v:= .agg #[.int .u64 (y3:Int), .int .u64 (z3:Int)]) (by simp[results,Tryz.results138,go_sem,hc1,hc2,L1]) rfl ⟨by rw[HR.o],bL⟩
open Go.RowKit
theorem cell?_some_after {r:Addr} (a:Value) (h:∃x,W.cell? p=some x):∃x,(W.setCell r a).cell? p=some x:=by
 obtain ⟨x,hx⟩:=h;by_cases e:p=r
 ·subst e;exact ⟨a,World.cell?_setCell_same _ _ _ hx⟩
 ·exact ⟨x,(World.cell?_setCell_other _ _ _ _ (fun q=>e q.symm)).trans hx⟩
theorem cell?_apart {j:Nat} {a v:Value} (h:p.block≠g) (hc:W.cell? p=some v):(W.setCell ⟨g,j,none⟩ a).cell? p=some v:=
 (World.cell?_setCell_other _ _ _ _ (fun q=>h (by rw[<- q]))).trans hc
theorem held_6_0 (hb:Bl W w1) (h:Bl w W/\W.cell? p0=some v0/\W.cell? p1=some v1/\W.cell? p2=some v2/\W.cell? p3=some v3/\W.cell? p4=some v4/\W.cell? p5=some v5):
 Bl w w1/\w1.cell? p0=some v0/\w1.cell? p1=some v1/\w1.cell? p2=some v2/\w1.cell? p3=some v3/\w1.cell? p4=some v4/\w1.cell? p5=some v5:=by
 obtain ⟨q,q0,q1,q2,q3,q4,q5⟩:=h;exact ⟨q.trans (hb.mono q.size),(hb.cell (cell_there q0).1).trans q0,(hb.cell (cell_there q1).1).trans q1,(hb.cell (cell_there q2).1).trans q2,(hb.cell (cell_there q3).1).trans q3,(hb.cell (cell_there q4).1).trans q4,(hb.cell (cell_there q5).1).trans q5⟩
theorem held_4_0 (hb:Bl W w1) (h:Bl w W/\W.cell? p0=some v0/\W.cell? p1=some v1/\W.cell? p2=some v2/\W.cell? p3=some v3):
 Bl w w1/\w1.cell? p0=some v0/\w1.cell? p1=some v1/\w1.cell? p2=some v2/\w1.cell? p3=some v3:=by
 obtain ⟨q,q0,q1,q2,q3⟩:=h;exact ⟨q.trans (hb.mono q.size),(hb.cell (cell_there q0).1).trans q0,(hb.cell (cell_there q1).1).trans q1,(hb.cell (cell_there q2).1).trans q2,(hb.cell (cell_there q3).1).trans q3⟩
theorem held_4_2 (hb:Bl W w1) (h:Bl w W/\W.cell? p0=some v0/\W.cell? p1=some v1/\W.cell? p2=some v2/\W.cell? p3=some v3/\(∃ x,W.cell? ⟨g,0,none⟩=some x)/\(∃ x,W.cell? ⟨g,1,none⟩=some x)/\W.frozen? ⟨g,0,none⟩=false/\W.frozen? ⟨g,1,none⟩=false):
 Bl w w1/\w1.cell? p0=some v0/\w1.cell? p1=some v1/\w1.cell? p2=some v2/\w1.cell? p3=some v3/\(∃ x,w1.cell? ⟨g,0,none⟩=some x)/\(∃ x,w1.cell? ⟨g,1,none⟩=some x)/\w1.frozen? ⟨g,0,none⟩=false/\w1.frozen? ⟨g,1,none⟩=false:=by
 obtain ⟨q,q0,q1,q2,q3,⟨x0,z0⟩,⟨x1,z1⟩,f0,f1⟩:=h;exact ⟨q.trans (hb.mono q.size),(hb.cell (cell_there q0).1).trans q0,(hb.cell (cell_there q1).1).trans q1,(hb.cell (cell_there q2).1).trans q2,(hb.cell (cell_there q3).1).trans q3,⟨x0,(hb.cell (cell_there z0).1).trans z0⟩,⟨x1,(hb.cell (cell_there z1).1).trans z1⟩,(hb.frozen (cell_there z0).1).trans f0,(hb.frozen (cell_there z1).1).trans f1⟩
theorem heldset_4_2 (a0 a1:Value) (hg:w.heap.size<=g) (hn:p0.block≠g/\p1.block≠g/\p2.block≠g/\p3.block≠g) (h:Bl w W/\W.cell? p0=some v0/\W.cell? p1=some v1/\W.cell? p2=some v2/\W.cell? p3=some v3/\(∃ x,W.cell? ⟨g,0,none⟩=some x)/\(∃ x,W.cell? ⟨g,1,none⟩=some x)/\W.frozen? ⟨g,0,none⟩=false/\W.frozen? ⟨g,1,none⟩=false):
 Bl w ((W.setCell ⟨g,0,none⟩ a0).setCell ⟨g,1,none⟩ a1)/\((W.setCell ⟨g,0,none⟩ a0).setCell ⟨g,1,none⟩ a1).cell? p0=some v0/\((W.setCell ⟨g,0,none⟩ a0).setCell ⟨g,1,none⟩ a1).cell? p1=some v1/\((W.setCell ⟨g,0,none⟩ a0).setCell ⟨g,1,none⟩ a1).cell? p2=some v2/\((W.setCell ⟨g,0,none⟩ a0).setCell ⟨g,1,none⟩ a1).cell? p3=some v3/\(∃ x,((W.setCell ⟨g,0,none⟩ a0).setCell ⟨g,1,none⟩ a1).cell? ⟨g,0,none⟩=some x)/\(∃ x,((W.setCell ⟨g,0,none⟩ a0).setCell ⟨g,1,none⟩ a1).cell? ⟨g,1,none⟩=some x)/\((W.setCell ⟨g,0,none⟩ a0).setCell ⟨g,1,none⟩ a1).frozen? ⟨g,0,none⟩=false/\((W.setCell ⟨g,0,none⟩ a0).setCell ⟨g,1,none⟩ a1).frozen? ⟨g,1,none⟩=false:=by
 obtain ⟨q,q0,q1,q2,q3,⟨x0,z0⟩,⟨x1,z1⟩,f0,f1⟩:=h;obtain ⟨d0,d1,d2,d3⟩:=hn;refine ⟨((q.setCell (by exact hg) _).setCell (by exact hg) _),(cell?_apart d0 (cell?_apart d0 q0)),(cell?_apart d1 (cell?_apart d1 q1)),(cell?_apart d2 (cell?_apart d2 q2)),(cell?_apart d3 (cell?_apart d3 q3)),?_,?_,?_,?_⟩
 ·exact cell?_some_after _ (cell?_some_after _ (⟨x0,z0⟩))
 ·exact cell?_some_after _ (cell?_some_after _ (⟨x1,z1⟩))
 ·simp only[World.frozen?_setCell];exact f0
 ·simp only[World.frozen?_setCell];exact f1
theorem held_2_0 (hb:Bl W w1) (h:Bl w W/\W.cell? p0=some v0/\W.cell? p1=some v1):
 Bl w w1/\w1.cell? p0=some v0/\w1.cell? p1=some v1:=by
 obtain ⟨q,q0,q1⟩:=h;exact ⟨q.trans (hb.mono q.size),(hb.cell (cell_there q0).1).trans q0,(hb.cell (cell_there q1).1).trans q1⟩
theorem held_13_0 {p6 p7 p8 p9 p10 p11 p12:Addr} {v6 v7 v8 v9 v10 v11 v12:Value} (hb:Bl W w1) (h:Bl w W/\W.cell? p0=some v0/\W.cell? p1=some v1/\W.cell? p2=some v2/\W.cell? p3=some v3/\W.cell? p4=some v4/\W.cell? p5=some v5/\W.cell? p6=some v6/\W.cell? p7=some v7/\W.cell? p8=some v8/\W.cell? p9=some v9/\W.cell? p10=some v10/\W.cell? p11=some v11/\W.cell? p12=some v12):
 Bl w w1/\w1.cell? p0=some v0/\w1.cell? p1=some v1/\w1.cell? p2=some v2/\w1.cell? p3=some v3/\w1.cell? p4=some v4/\w1.cell? p5=some v5/\w1.cell? p6=some v6/\w1.cell? p7=some v7/\w1.cell? p8=some v8/\w1.cell? p9=some v9/\w1.cell? p10=some v10/\w1.cell? p11=some v11/\w1.cell? p12=some v12:=by
 obtain ⟨q,q0,q1,q2,q3,q4,q5,q6,q7,q8,q9,q10,q11,q12⟩:=h;exact ⟨q.trans (hb.mono q.size),(hb.cell (cell_there q0).1).trans q0,(hb.cell (cell_there q1).1).trans q1,(hb.cell (cell_there q2).1).trans q2,(hb.cell (cell_there q3).1).trans q3,(hb.cell (cell_there q4).1).trans q4,(hb.cell (cell_there q5).1).trans q5,(hb.cell (cell_there q6).1).trans q6,(hb.cell (cell_there q7).1).trans q7,(hb.cell (cell_there q8).1).trans q8,(hb.cell (cell_there q9).1).trans q9,(hb.cell (cell_there q10).1).trans q10,(hb.cell (cell_there q11).1).trans q11,(hb.cell (cell_there q12).1).trans q12⟩
end Go.Proofs.YtikilcbpogfgkaaGreat

/- Lemmas. -/
import Derived.Test.YtikilcbpogfgkaaGreatJI22
set_option maxHeartbeats 2000000
set_option maxRecDepth 100000
namespace Go.Proofs.YtikilcbpogfgkaaGreat
open Go.RowKit Go.Maps
variable {w w':World} {m a b lo c hi n0 n g cap:Nat} {es:List (Int×Value)} {x:Int} {xs:List Value} {p:Addr}
def UMap (w:World) (m:Nat) (es:List (Int×Value)):Prop:=
 ∃arr clock,w.heap[m]?=some (.map arr clock)/\arr.toList.map (fun e=>(e.key,e.val))=es.map (fun p=>(Value.int .u8 p.1,p.2))/\(∀ p∈es,(Lit.int .u8 p.1).wf=true)/\(es.map Prod.fst).Nodup
theorem UMap.empty (w:World) (m:Nat) (h:w.heap[m]?=some (.map #[] 0)):UMap w m []:=⟨#[],0,h,rfl,by simp,by simp⟩
theorem UMap.kept (h:UMap w m es) (hb:w'.heap[m]?=w.heap[m]?):UMap w' m es:=by
 obtain ⟨arr,clock,h1,h2⟩:=h;exact ⟨arr,clock,hb.trans h1,h2⟩
theorem UMap.lt (h:UMap w m es):m<w.heap.size:=by
 obtain ⟨arr,clock,hb,-⟩:=h;exact (gA_ hb).1
theorem UMap.below (h:UMap w m es) (hb:Bl w w'):UMap w' m es:=h.kept (hb.block m h.lt)
section
variable {P:Program} {k T e:TypeId} {w:World} {m:Nat} {es:List (Int×Value)}
theorem UMap.keys {arr:Array MapEntry} (h:arr.toList.map (fun e=>(e.key,e.val))=es.map (fun p=>(Value.int .u8 p.1,p.2))) {x:MapEntry} (hx:x∈arr.toList):∃p∈es,x.key= .int .u8 p.1/\x.val=p.2:=by
 have:(x.key,x.val)∈arr.toList.map (fun e=>(e.key,e.val)):=List.mem_map.2 ⟨x,hx,rfl⟩;rw[h] at this;obtain ⟨p,hp,he⟩:=List.mem_map.1 this;simp only[Prod.mk.injEq] at he;exact ⟨p,hp,he.1.symm,he.2.symm⟩
theorem UMap.look (h:UMap w m es) (hk:P.underlying k=some (.int .u8)) (ht:P.underlying T=some (.map k e)) {v:Value} (hx:(x,v)∈es):
 (Instr.lookup T (.map (some m)) (.int .u8 x) true).run P w= .ok (.tuple #[v, .bool true]) w:=by
 obtain ⟨arr,clock,hb,h1,h2,h3⟩:=h;have K:=int_keyed hk;have hkey:=keyOf_int_mk hk (h2 _ hx);rcases K.find w hkey arr.toList (fun y hy=>by obtain ⟨p,hp,e1,-⟩:=UMap.keys h1 hy;exact ⟨_,by rw[e1];exact keyOf_int_mk hk (h2 _ hp)⟩) with ⟨f1,f2⟩|⟨j,e0,f1,f2,f3⟩
 ·exfalso;have:(Value.int .u8 x,v)∈arr.toList.map (fun e=>(e.key,e.val)):=by rw[h1];exact List.mem_map.2 ⟨_,hx,rfl⟩
  obtain ⟨y,hy,he⟩:=List.mem_map.1 this;simp only[Prod.mk.injEq] at he;exact f2 y hy he.1
 obtain ⟨p,hp,e1,e2⟩:=UMap.keys h1 (gM_ f2);have hpx:p.1=x:=by rw[f3] at e1;simpa using e1.symm
 have hv:p.2=v:=by
  have:∀(l:List (Int×Value)),(l.map Prod.fst).Nodup->p∈l->(x,v)∈l->p.2=v:=by
   intro l;induction l with
   |nil=>intro _ hp;cases hp
   |cons q l ih=>
    intro hn hp hx;rw[List.map_cons,List.nodup_cons] at hn;rcases List.mem_cons.1 hp with rfl|hp'<;>rcases List.mem_cons.1 hx with hx'|hx'
    ·rw[<- hx']
    ·exact absurd (List.mem_map.2 ⟨_,hx',hpx.symm⟩) hn.1
    ·exact absurd (List.mem_map.2 ⟨_,hp',by rw[<- hx'];exact hpx⟩) hn.1
    exact ih hn.2 hp' hx'
  exact this es h3 hp hx
 simp[Instr.lookup,run_underlying ht,MapKept.run_getObj_map hb,K.check w _ hkey,f1,Result.andThen,e2,hv]
theorem UMap.miss (h:UMap w m es) (hk:P.underlying k=some (.int .u8)) (ht:P.underlying T=some (.map k e)) {z:Value} (hz:(zeroValue e).run P w= .ok z w) (hw:(Lit.int .u8 x).wf=true) (hx:∀p∈es,p.1≠x):
 (Instr.lookup T (.map (some m)) (.int .u8 x) true).run P w= .ok (.tuple #[z, .bool false]) w:=by
 obtain ⟨arr,clock,hb,h1,h2,h3⟩:=h;have K:=int_keyed hk;have hkey:=keyOf_int_mk hk hw;rcases K.find w hkey arr.toList (fun y hy=>by obtain ⟨p,hp,e1,-⟩:=UMap.keys h1 hy;exact ⟨_,by rw[e1];exact keyOf_int_mk hk (h2 _ hp)⟩) with ⟨f1,f2⟩|⟨j,e0,f1,f2,f3⟩
 ·simp[Instr.lookup,run_underlying ht,MapKept.run_getObj_map hb,K.check w _ hkey,f1,hz,Result.andThen]
 exact gZ3
theorem UMap.put (h:UMap w m es) (hk:P.underlying k=some (.int .u8)) (ht:P.underlying T=some (.map k e)) (v:Value) (hw:(Lit.int .u8 x).wf=true) (hx:∀p∈es,p.1≠x):
 ∃w',(Instr.mapUpdate T (.map (some m)) (.int .u8 x) v).run P w= .ok () w'/\UMap w' m (es++[(x,v)])/\w.grownBy w' (some m):=by
 obtain ⟨arr,clock,hb,h1,h2,h3⟩:=h;have K:=int_keyed hk;have hkey:=keyOf_int_mk hk hw;have hg:∀o:Obj,w.grownBy (ChangeMaps.setBlock w m o) (some m):=fun o=>⟨rfl,rfl,rfl,by simp[ChangeMaps.setBlock],fun i _ hi=>ChangeMaps.heap_setBlock_other hb o (fun e=>hi (by rw[e]))⟩
 rcases K.find w hkey arr.toList (fun y hy=>by obtain ⟨p,hp,e1,-⟩:=UMap.keys h1 hy;exact ⟨_,by rw[e1];exact keyOf_int_mk hk (h2 _ hp)⟩) with ⟨f1,f2⟩|⟨j,e0,f1,f2,f3⟩
 ·refine ⟨ChangeMaps.setBlock w m (.map (arr.push ⟨.int .u8 x,v,clock⟩) (clock+1)),?_,⟨_,_,ChangeMaps.heap_setBlock_same hb _,?_,?_,?_⟩,hg _⟩
  ·simp[Instr.mapUpdate,run_underlying ht,MapKept.run_getObj_map hb,K.check w false hkey,f1,MapKept.run_setObj_map _ hb,Result.andThen,ChangeMaps.setBlock]
  ·rw[Array.toList_push,List.map_append,List.map_append,h1];rfl
  ·intro p hp;rcases List.mem_append.1 hp with q|q
   ·exact h2 p q
   rw[List.mem_singleton.1 q];exact hw
  rw[List.map_append,List.nodup_append];refine ⟨h3,by simp,?_⟩;intro a ha b hb2;obtain ⟨p,hp,rfl⟩:=List.mem_map.1 ha;simp at hb2;rw[hb2];exact hx p hp
 exact gZ3
theorem wpList_put {ops:Array Oper} {rest:List Oper} {o:Oper} {a:Act} {Q:Exit->Act->World->Prop} (hg:o.guard=none) (mo x v:Operand) (hop:o.op=Op.insert T mo x v)
 (hk:P.underlying k=some (.int .u8)) (ht:P.underlying T=some (.map k e)) (hm:a.eval mo= .map (some m)) (h:UMap w m es) (key:Int) (hx:a.eval x= .int .u8 key) (val:Value) (hv:a.eval v=val) (hw:(Lit.int .u8 key).wf=true) (hn:∀p∈es,p.1≠key)
 (hK:∀w',UMap w' m (es++[(key,val)])->w.grownBy w' (some m)->wpList P ops Q rest (a.put o.dst undef) w'):wpList P ops Q (o::rest) a w:=by
 refine wpList_plain hg fun K' hK'=>?_
 obtain ⟨w',hrun,r1,r2⟩:=h.put hk ht val hw hn;unfold Oper.wp;simp[execOp,hop,hm,hx,hv,hrun,Result.andThen];exact hK' _ _ (hK w' r1 r2)
end
open Go.RowKit
theorem xor1_any (a b:Int) (w:World):
 Calls Tryz.prog 159 #[.int .u64 a, .int .u64 b] w fun e w'=>e= .returned (.int .u64 (bits BinOp.xor IntKind.u64 a b))/\w'=w:=by
 go_enter Tryz.func159,Tryz.ntmps159;go_wp2;go_ret;exact ⟨rfl,rfl⟩
theorem both_xor (a b c d:Int) (w:World):
 Calls Tryz.prog 96 #[.agg #[.int .u64 a, .int .u64 b], .agg #[.int .u64 c, .int .u64 d], .func (Fn.func 159) #[] #[]] w fun e w'=>e= .returned (.agg #[.int .u64 (bits BinOp.xor IntKind.u64 a c), .int .u64 (bits BinOp.xor IntKind.u64 b d)])/\Bl w w':=by
 go_enter Tryz.func96,Tryz.ntmps96;go_wp2;refine wp_region_still_tail 13 kq kq ?_;simp only[List.take_succ_cons,List.take_zero,List.drop_succ_cons,List.drop_zero];change wpStill _ _ (World.drew _) _ _ _;repeat (first|still_step|still_call (xor1_any _ _ _))
 refine wpStill_nil ?_;change wpList _ _ _ _ _ (World.drew _);go_wp2;exact bodyPost_ret (v:= .agg #[.int .u64 (bits BinOp.xor IntKind.u64 a c), .int .u64 (bits BinOp.xor IntKind.u64 b d)]) (by simp[results,Tryz.results96,go_sem]) rfl ⟨rfl,bL⟩
theorem xor_any (a b c d:Int) (w:World):
 Calls Tryz.prog 148 #[.agg #[.int .u64 a, .int .u64 b], .agg #[.int .u64 c, .int .u64 d]] w fun e w'=>e= .returned (.agg #[.int .u64 (bits BinOp.xor IntKind.u64 a c), .int .u64 (bits BinOp.xor IntKind.u64 b d)])/\Bl w w':=by
 go_enter Tryz.func148,Tryz.ntmps148;go_wp2_with (go_at_call 96;refine (both_xor _ _ _ _ _).mono ?_;rintro e w1 ⟨rfl,hb⟩;obtain ⟨hc,hf⟩:=bcell hb;have hz:=hb.size;simp at hz);exact bodyPost_ret (v:= .agg #[.int .u64 (bits BinOp.xor IntKind.u64 a c), .int .u64 (bits BinOp.xor IntKind.u64 b d)]) (by simp[results,Tryz.results148,go_sem,hc]) rfl ⟨rfl,bL⟩
theorem numXor_any (a b:Nat) (w:World) (ha:a<B*B) (hb:b<B*B):Calls Tryz.prog 148 #[numV a,numV b] w (RetNum w (a ^^^ b)):=
 (xor_any _ _ _ _ w).mono fun e w' ⟨h1,h2⟩=>⟨by rw[h1,xor_num a b ha hb],h2⟩
theorem numNot_any (n:Nat) (k:Int) (w:World) (hn:n<B*B):Calls Tryz.prog 134 #[numV n, .int .i64 k] w (RetNum w ((n%2 ^ sh k) ^^^ (2 ^ sh k-1))):=by
 have hlt:n%2 ^ sh k<B*B:=Nat.lt_of_le_of_lt (Nat.mod_le _ _) hn;have HC:Hd (∀ W,Calls Tryz.prog 99 #[numV n, .int .i64 k] W (RetNum W (n%2 ^ sh k))):=fun W=>numCut_any n k W hn
 have HM:Hd (∀ W,Calls Tryz.prog 117 #[.int .i64 k] W (RetNum W (2 ^ sh k-1))):=fun W=>numMask_any k W
 have HX:Hd (∀ W,Calls Tryz.prog 148 #[numV (n%2 ^ sh k),numV (2 ^ sh k-1)] W (RetNum W ((n%2 ^ sh k) ^^^ (2 ^ sh k-1)))):=fun W=>numXor_any _ _ W hlt (mask_lt k)
 generalize n%2 ^ sh k=m at*;generalize 2 ^ sh k-1=q at*;generalize m ^^^ q=r at*;obtain ⟨y,z,he,-,-⟩:=numV_parts n;obtain ⟨y1,z1,he1,-,-⟩:=numV_parts m;obtain ⟨y2,z2,he2,-,-⟩:=numV_parts q;obtain ⟨y3,z3,he3,-,-⟩:=numV_parts r;have HR:=hD he3;unfold RetNum at HC HM HX;rw[he,he1] at HC;rw[he2] at HM;rw[he1,he2,he3] at HX;rw[he];clear he he1 he2 he3 hn hlt;go_enter Tryz.func134,Tryz.ntmps134;go_wp2_with (first
  |(go_at_call 99;refine (HC.o _).mono ?_;rintro e w1 ⟨rfl,hb1⟩;obtain ⟨hc1,hf1⟩:=bcell hb1;have hz1:=hb1.size;simp at hz1;have L1:w.heap.size+1<w1.heap.size:=by omega)
  |(go_at_call 117;refine (HM.o _).mono ?_;rintro e w2 ⟨rfl,hb2⟩;obtain ⟨hc2,hf2⟩:=bcell hb2;have hz2:=hb2.size;have L2:w.heap.size+1<w2.heap.size:=by omega)
  |(go_at_call 148;refine (HX.o _).mono ?_;rintro e w3 ⟨rfl,hb3⟩;obtain ⟨hc3,hf3⟩:=bcell hb3;have hz3:=hb3.size;have L3:w.heap.size+1<w3.heap.size:=by omega))
 exact bodyPost_ret (v:= .agg #[.int .u64 (y3:Int), .int .u64 (z3:Int)]) (by simp[results,Tryz.results134,go_sem,hc1,hc2,hc3,L1,L2]) rfl ⟨by rw[HR.o],bL⟩
theorem add64_call (x y c:Nat) (hc:c<=1) (w:World):(callFunc 158 #[.int .u64 x, .int .u64 y, .int .u64 c]).run Tryz.prog w=
 .ok (.value (.tuple #[.int .u64 (((x+y+c)%B:Nat):Int), .int .u64 (((x+y+c)/B:Nat):Int)])) w:=by
 rw[run_callFunc_extern (show Tryz.prog.funcs[158]?=some Tryz.f158 by kernel_rfl) kq kq kq (e:=add64Entry) kq,run_add64 x y c om om om om];simp only[Result.andThen];unfold B;congr 5<;>omega
def sub64E:Array Value->Sem Value:=fun args=>do
 let (x,y,b) <-Extern.MathBitsCarry.three "Sub64" args
 pure (Extern.MathBitsCarry.pair ((x+Extern.MathBitsCarry.m64-y-b)%Extern.MathBitsCarry.m64) (if x<y+b then 1 else 0))
theorem run_sub64E (x y b:Nat) (hb:b<=1) (w:World):
 (sub64E #[.int .u64 x, .int .u64 y, .int .u64 b]).run Tryz.prog w=
  .ok (.tuple #[.int .u64 (((x+18446744073709551616-y-b)%18446744073709551616:Nat):Int), .int .u64 ((if x<y+b then 1 else 0:Nat):Int)]) w:=by
 have:b=0\/b=1:=om;rcases this with rfl|rfl<;>rfl
theorem sub64_call (x y c:Nat) (hc:c<=1) (w:World):(callFunc 157 #[.int .u64 x, .int .u64 y, .int .u64 c]).run Tryz.prog w=
 .ok (.value (.tuple #[.int .u64 (((x+B-y-c)%B:Nat):Int), .int .u64 ((if x<y+c then 1 else 0:Nat):Int)])) w:=by
 rw[run_callFunc_extern (show Tryz.prog.funcs[157]?=some Tryz.f157 by kernel_rfl) kq kq kq (e:=sub64E) kq,run_sub64E x y c hc];rfl
theorem add_parts (_ha:a<B*B) (_hb:b<B*B) (hlo:lo=(a%B+b%B+0)%B) (hc:c=(a%B+b%B+0)/B) (hhi:hi=(a/B+b/B+c)%B):hi*B+lo=(a+b)%(B*B)/\lo<B/\c<=1:=by
 unfold B at*;omega
theorem sub_parts (ha:a<B*B) (hb:b<B*B) (hlo:lo=(a%B+B-b%B-0)%B) (hc:c=if a%B<b%B+0 then 1 else 0) (hhi:hi=(a/B+B-b/B-c)%B):hi*B+lo=(a+(B*B-b))%(B*B)/\lo<B/\c<=1:=by
 unfold B at*;split at hc<;>omega
open Go.RowKit
theorem numAdd_any (a b:Nat) (k:Int) (w:World) (ha:a<B*B) (hb:b<B*B):Calls Tryz.prog 144 #[numV a,numV b, .int .i64 k] w (RetNum w ((a+b)%(B*B)%2 ^ sh k)):=by
 have hlt:(a+b)%(B*B)<B*B:=Nat.mod_lt _ (by unfold B;omega);have HC:Hd (∀ W,Calls Tryz.prog 99 #[numV ((a+b)%(B*B)), .int .i64 k] W (RetNum W ((a+b)%(B*B)%2 ^ sh k))):=fun W=>numCut_any _ k W hlt
 obtain ⟨lo,hlo⟩:=nm ((a%B+b%B+0)%B);obtain ⟨c,hc⟩:=nm ((a%B+b%B+0)/B);obtain ⟨hi,hhi⟩:=nm ((a/B+b/B+c)%B);obtain ⟨c2,hc2⟩:=nm ((a/B+b/B+c)/B);obtain ⟨e1,e2,e3⟩:=add_parts ha hb hlo hc hhi;have h1:∀W,(callFunc 158 #[.int .u64 (a%B:Nat), .int .u64 (b%B:Nat), .int .u64 0]).run Tryz.prog W= .ok (.value (.tuple #[.int .u64 (lo:Int), .int .u64 (c:Int)])) W:=fun W=>by
  rw[hlo,hc];exact add64_call _ _ 0 om W
 have h2:∀W,(callFunc 158 #[.int .u64 (a/B:Nat), .int .u64 (b/B:Nat), .int .u64 (c:Nat)]).run Tryz.prog W= .ok (.value (.tuple #[.int .u64 (hi:Int), .int .u64 (c2:Int)])) W:=fun W=>by
  rw[hhi,hc2];exact add64_call _ _ c e3 W
 have hv:=numV_mk hi lo e2;rw[e1] at hv;generalize (a+b)%(B*B)%2 ^ sh k=r at*;generalize (a+b)%(B*B)=m at*;obtain ⟨y3,z3,he3,-,-⟩:=numV_parts r;have HR:=hD he3;unfold RetNum at HC;rw[<- hv,he3] at HC;obtain ⟨ah,al,hea,qa,qb⟩:=numV_parts a;obtain ⟨bh,bl,heb,qc,qd⟩:=numV_parts b;rw[<- qb, <-qd] at h1;rw[<- qa, <-qc] at h2;rw[hea,heb];clear hlt hlo hc hhi hc2 e1 e2 e3 hv he3 hea heb qa qb qc qd ha hb;go_enter Tryz.func144,Tryz.ntmps144;go_wp2_with (first
  |simp only[]
  |simp only[h2]
  |(go_at_call 99;refine (HC.o _).mono ?_;rintro e w1 ⟨rfl,hb1⟩;obtain ⟨hc1,hf1⟩:=bcell hb1;have hz1:=hb1.size;simp at hz1;have L1:w.heap.size+1<w1.heap.size:=by omega))
 exact bodyPost_ret (v:= .agg #[.int .u64 (y3:Int), .int .u64 (z3:Int)]) (by simp[results,Tryz.results144,go_sem,hc1]) rfl ⟨by rw[HR.o],bL⟩
theorem numSub_any (a b:Nat) (k:Int) (w:World) (ha:a<B*B) (hb:b<B*B):Calls Tryz.prog 136 #[numV a,numV b, .int .i64 k] w (RetNum w ((a+(B*B-b))%(B*B)%2 ^ sh k)):=by
 have hlt:(a+(B*B-b))%(B*B)<B*B:=Nat.mod_lt _ (by unfold B;omega);have HC:Hd (∀ W,Calls Tryz.prog 99 #[numV ((a+(B*B-b))%(B*B)), .int .i64 k] W (RetNum W ((a+(B*B-b))%(B*B)%2 ^ sh k))):=fun W=>numCut_any _ k W hlt
 obtain ⟨lo,hlo⟩:=nm ((a%B+B-b%B-0)%B);obtain ⟨c,hc⟩:=nm (if a%B<b%B+0 then 1 else 0);obtain ⟨hi,hhi⟩:=nm ((a/B+B-b/B-c)%B);obtain ⟨c2,hc2⟩:=nm (if a/B<b/B+c then 1 else 0);obtain ⟨e1,e2,e3⟩:=sub_parts ha hb hlo hc hhi;have h1:∀W,(callFunc 157 #[.int .u64 (a%B:Nat), .int .u64 (b%B:Nat), .int .u64 0]).run Tryz.prog W= .ok (.value (.tuple #[.int .u64 (lo:Int), .int .u64 (c:Int)])) W:=fun W=>by
  rw[hlo,hc];exact sub64_call _ _ 0 om W
 have h2:∀W,(callFunc 157 #[.int .u64 (a/B:Nat), .int .u64 (b/B:Nat), .int .u64 (c:Nat)]).run Tryz.prog W= .ok (.value (.tuple #[.int .u64 (hi:Int), .int .u64 (c2:Int)])) W:=fun W=>by
  rw[hhi,hc2];exact sub64_call _ _ c e3 W
 have hv:=numV_mk hi lo e2;rw[e1] at hv;generalize (a+(B*B-b))%(B*B)%2 ^ sh k=r at*;generalize (a+(B*B-b))%(B*B)=m at*;obtain ⟨y3,z3,he3,-,-⟩:=numV_parts r;have HR:=hD he3;unfold RetNum at HC;rw[<- hv,he3] at HC;obtain ⟨ah,al,hea,qa,qb⟩:=numV_parts a;obtain ⟨bh,bl,heb,qc,qd⟩:=numV_parts b;rw[<- qb, <-qd] at h1;rw[<- qa, <-qc] at h2;rw[hea,heb];clear hlt hlo hc hhi hc2 e1 e2 e3 hv he3 hea heb qa qb qc qd ha hb;go_enter Tryz.func136,Tryz.ntmps136;go_wp2_with (first
  |simp only[]
  |simp only[h2]
  |(go_at_call 99;refine (HC.o _).mono ?_;rintro e w1 ⟨rfl,hb1⟩;obtain ⟨hc1,hf1⟩:=bcell hb1;have hz1:=hb1.size;simp at hz1;have L1:w.heap.size+1<w1.heap.size:=by omega))
 exact bodyPost_ret (v:= .agg #[.int .u64 (y3:Int), .int .u64 (z3:Int)]) (by simp[results,Tryz.results136,go_sem,hc1]) rfl ⟨by rw[HR.o],bL⟩
theorem numSlice_any (n:Nat) (hi lo:Int) (w:World) (hn:n<B*B) (h0:0<=lo) (h1:lo<=hi) (h2:hi<128):Calls Tryz.prog 138 #[numV n, .int .i64 hi, .int .i64 lo] w (RetNum w (n/2 ^ sh lo%2 ^ sh (hi-lo+1))):=by
 have hlt:n/2 ^ sh lo<B*B:=Nat.lt_of_le_of_lt (Nat.div_le_self _ _) hn;have HS:Hd (∀ W,Calls Tryz.prog 95 #[numV n, .int .i64 lo] W (RetNum W (n/2 ^ sh lo))):=fun W=>numShr_any n lo W hn
 have HC:Hd (∀ W,Calls Tryz.prog 99 #[numV (n/2 ^ sh lo), .int .i64 (hi-lo+1)] W (RetNum W (n/2 ^ sh lo%2 ^ sh (hi-lo+1)))):=fun W=>numCut_any _ _ W hlt
 generalize n/2 ^ sh lo%2 ^ sh (hi-lo+1)=r at*;generalize n/2 ^ sh lo=m at*;obtain ⟨y,z,he,-,-⟩:=numV_parts n;obtain ⟨y1,z1,he1,-,-⟩:=numV_parts m;obtain ⟨y3,z3,he3,-,-⟩:=numV_parts r;have HR:=hD he3;unfold RetNum at HC HS;rw[he,he1] at HS;rw[he1,he3] at HC;rw[he];clear he he1 he3 hn hlt;go_enter Tryz.func138,Tryz.ntmps138;go_wp2_with (first
  |(go_at_call 95;refine (HS.o _).mono ?_;rintro e w1 ⟨rfl,hb1⟩;obtain ⟨hc1,hf1⟩:=bcell hb1;have hz1:=hb1.size;simp at hz1;have L1:w.heap.size+1<w1.heap.size:=by omega)
  |(go_at_call 99;refine (HC.o _).mono ?_;rintro e w2 ⟨rfl,hb2⟩;obtain ⟨hc2,hf2⟩:=bcell hb2;have hz2:=hb2.size;have L2:w.heap.size+1<w2.heap.size:=by omega))
 all_goals exact bodyPost_ret (v:= .agg #[.int .u64 (y3:Int), .int .u64 (z3:Int)]) (by simp[results,Tryz.results138,go_sem,hc1,hc2,L1]) rfl ⟨by rw[HR.o],bL⟩
open Go.RowKit
theorem numCat_any (a b:Nat) (k:Int) (w:World) (ha:a<B*B) (hb:b<B*B):Calls Tryz.prog 142 #[numV a,numV b, .int .i64 k] w (RetNum w ((a*2 ^ sh k%(B*B)%2 ^ sh 128) ||| (b%2 ^ sh k))):=by
 have hl1:a*2 ^ sh k%(B*B)%2 ^ sh 128<B*B:=Nat.lt_of_le_of_lt (Nat.mod_le _ _) (Nat.mod_lt _ (by unfold B;omega));have hl2:b%2 ^ sh k<B*B:=Nat.lt_of_le_of_lt (Nat.mod_le _ _) hb;have HS:Hd (∀ W,Calls Tryz.prog 64 #[numV a, .int .i64 k, .int .i64 128] W (RetNum W (a*2 ^ sh k%(B*B)%2 ^ sh 128))):=fun W=>numShl_any a k 128 W ha
 have HC:Hd (∀ W,Calls Tryz.prog 99 #[numV b, .int .i64 k] W (RetNum W (b%2 ^ sh k))):=fun W=>numCut_any _ _ W hb
 have HO:Hd (∀ W,Calls Tryz.prog 63 #[numV (a*2 ^ sh k%(B*B)%2 ^ sh 128),numV (b%2 ^ sh k)] W (RetNum W ((a*2 ^ sh k%(B*B)%2 ^ sh 128) ||| (b%2 ^ sh k)))):=fun W=>numOr_any _ _ W hl1 hl2
 generalize a*2 ^ sh k%(B*B)%2 ^ sh 128=m at*;generalize b%2 ^ sh k=q at*;generalize m ||| q=r at*
 obtain ⟨y,z,he,-,-⟩:=numV_parts a;obtain ⟨y0,z0,he0,-,-⟩:=numV_parts b;obtain ⟨y1,z1,he1,-,-⟩:=numV_parts m;obtain ⟨y2,z2,he2,-,-⟩:=numV_parts q;obtain ⟨y3,z3,he3,-,-⟩:=numV_parts r;have HR:=hD he3;unfold RetNum at HC HS HO;rw[he,he1] at HS;rw[he0,he2] at HC;rw[he1,he2,he3] at HO;rw[he,he0];clear he he0 he1 he2 he3 ha hb hl1 hl2;go_enter Tryz.func142,Tryz.ntmps142;go_wp2_with fail;obtain ⟨W0,hW0⟩:=nm (((w.alloc (.cells #[.int .u64 (y:Int), .int .u64 (z:Int)] 82)).alloc (.cells #[.int .u64 (y0:Int), .int .u64 (z0:Int)] 82)).alloc (.cells #[.int .u64 0, .int .u64 0] 82));have HS0:Hd ((fun Wk=>Below (w.heap.size) (w) Wk/\Cl Wk w.heap.size 0 (.int .u64 (y:Int))/\Cl Wk w.heap.size 1 (.int .u64 (z:Int))/\Cl Wk (w.heap.size+1) 0 (.int .u64 (y0:Int))/\Cl Wk (w.heap.size+1) 1 (.int .u64 (z0:Int))/\(∃ x,Cl Wk (w.heap.size+1+1) 0 x)/\(∃ x,Cl Wk (w.heap.size+1+1) 1 x)/\Wk.frozen? ⟨w.heap.size+1+1,0,none⟩=false/\Wk.frozen? ⟨w.heap.size+1+1,1,none⟩=false) W0.drew):=by
  show _/\_;rw[hW0];exact ⟨below_drewN bL 1,by simp[go_sem],by simp[go_sem],by simp[go_sem],by simp[go_sem],⟨.int .u64 0,by simp[go_sem]⟩,⟨.int .u64 0,by simp[go_sem]⟩,by simp[go_sem],by simp[go_sem]⟩
 rw[<- hW0];clear hW0;have hs0:=HS0.o;obtain ⟨-,c0,c1,c2,c3,⟨x4,c4⟩,⟨x5,c5⟩,f4,f5⟩:=hs0;simp only[Cl,World.cell?_drew] at c0 c1 c2 c3 c4 c5;rw[World.frozen?_drew] at f4 f5;go_region_held3 (fun Wk=>Below (w.heap.size) (w) Wk/\Wk.cell? ⟨w.heap.size,0,none⟩=some (.int .u64 (y:Int))/\Wk.cell? ⟨w.heap.size,1,none⟩=some (.int .u64 (z:Int))/\Wk.cell? ⟨w.heap.size+1,0,none⟩=some (.int .u64 (y0:Int))/\Wk.cell? ⟨w.heap.size+1,1,none⟩=some (.int .u64 (z0:Int))/\(∃ x,Wk.cell? ⟨w.heap.size+1+1,0,none⟩=some x)/\(∃ x,Wk.cell? ⟨w.heap.size+1+1,1,none⟩=some x)/\Wk.frozen? ⟨w.heap.size+1+1,0,none⟩=false/\Wk.frozen? ⟨w.heap.size+1+1,1,none⟩=false)
  (first|exact HS0.o|exact held_4_2 hb1 (by assumption)|exact heldset_4_2 _ _ om (by simp<;>omega) (by assumption))
  (first
  |(go_at_call 64;refine (HS.o _).mono ?_;rintro e w1 ⟨rfl,hb1⟩)
  |(go_at_call 99;refine (HC.o _).mono ?_;rintro e w1 ⟨rfl,hb1⟩)
  |(go_at_call 63;refine (HO.o _).mono ?_;rintro e w1 ⟨rfl,hb1⟩;obtain ⟨-,-,-,-,-,⟨x6,g4⟩,⟨x7,g5⟩,g6,g7⟩:=held_4_2 hb1 (by assumption)))
 rename_i hS;have HBF:=hD hS.1;clear hS;have y5:(w1.setCell ⟨w.heap.size+1+1,0,none⟩ (.int .u64 (y3:Int))).cell? ⟨w.heap.size+1+1,1,none⟩=some x7:=by rw[World.cell?_setCell_other _ _ _ _ sm];exact g5
 have y0':((w1.setCell ⟨w.heap.size+1+1,0,none⟩ (.int .u64 (y3:Int))).setCell ⟨w.heap.size+1+1,1,none⟩ (.int .u64 (z3:Int))).cell? ⟨w.heap.size+1+1,0,none⟩=some (.int .u64 (y3:Int)):=by
  rw[World.cell?_setCell_other _ _ _ _ sm];exact World.cell?_setCell_same _ _ _ g4
 have y1':((w1.setCell ⟨w.heap.size+1+1,0,none⟩ (.int .u64 (y3:Int))).setCell ⟨w.heap.size+1+1,1,none⟩ (.int .u64 (z3:Int))).cell? ⟨w.heap.size+1+1,1,none⟩=some (.int .u64 (z3:Int)):=World.cell?_setCell_same _ _ _ y5;clear y5 g4 g5 g6 g7 c0 c1 c2 c3 c4 c5 f4 f5;generalize (w1.setCell ⟨w.heap.size+1+1,0,none⟩ (.int .u64 (y3:Int))).setCell ⟨w.heap.size+1+1,1,none⟩ (.int .u64 (z3:Int))=WF at*;go_wp2_with fail;exact bodyPost_ret (v:= .agg #[.int .u64 (y3:Int), .int .u64 (z3:Int)]) (by simp[results,Tryz.results142,go_sem,y0',y1']) rfl ⟨by rw[HR.o],HBF.o⟩
theorem isNaN_any (x:Int) (w:World):Calls Tryz.prog 163 #[.int .u64 x] w fun e w'=>e= .returned (.bool false)/\w'=w:=by
 go_enter Tryz.func163,Tryz.ntmps163;go_wp2;go_ret;exact ⟨rfl,rfl⟩
def cmpI (a b:Nat):Int:=if a<b then -1 else if b<a then 1 else 0
theorem compare_any (x y:Nat) (w:World):Calls Tryz.prog 161 #[.int .u64 (x:Int), .int .u64 (y:Int)] w fun e w'=>e= .returned (.int .i64 (cmpI x y))/\w'=w:=by
 have h1:x<y->Hd (cmpI x y= -1):=fun h=>by show _=_;unfold cmpI;rw[if_pos h]
 have h2:y<x->Hd (cmpI x y=1):=fun h=>by show _=_;unfold cmpI;rw[if_neg om,if_pos h]
 have h3:x=y->Hd (cmpI x y=0):=fun h=>by show _=_;unfold cmpI;rw[if_neg om,if_neg om]
 have H:=hD (And.intro h1 (And.intro h2 h3));clear h1 h2 h3;go_enter Tryz.func161,Tryz.ntmps161;go_wp2_with (go_at_call 163;refine (isNaN_any _ _).mono ?_;rintro e w1 ⟨rfl,rfl⟩);all_goals go_ret
 ·exact ⟨by rw[(H.o.1 om).o];rfl,rfl⟩
 ·exact ⟨by rw[(H.o.2.1 om).o];rfl,rfl⟩
 ·exact ⟨by rw[(H.o.2.2 om).o];rfl,rfl⟩
theorem or2_any (g t:Nat) (a b:Int) (w:World) (h0:w.heap[g]?=some (.cells #[.int .i64 a, .int .i64 b] t (0,0))):Calls Tryz.prog 160 #[.slice (some ⟨g,0,none⟩) 2 2] w fun e w'=>e= .returned (.int .i64 (if a≠0 then a else b))/\w'=w:=by
 have c0:w.cell? ⟨g,0,none⟩=some (.int .i64 a):=by simp[World.cell?,h0]
 have c1:w.cell? ⟨g,1,none⟩=some (.int .i64 b):=by simp[World.cell?,h0]
 clear h0;have V1:a≠0->Hd ((if a≠0 then a else b)=a):=fun h=>if_pos h
 have V2:a=0->Hd ((if a≠0 then a else b)=b):=fun h=>if_neg (by simp[h])
 have HV:=hD (And.intro V1 V2);clear V1 V2;generalize (if a≠0 then a else b)=r at*;go_enter Tryz.func160,Tryz.ntmps160;go_wp2;go_loop [8] (fun i=>∃k:Nat,k<=2/\i= .int .i64 k/\(0<k->a=0)/\(1<k->b=0)) (fun i=>2-(intOf i).toNat)
 case atStart=>exact ⟨0,om,rfl,om,om⟩
 case round=>
  obtain ⟨k,hk,rfl,hz0,hz1⟩:=hrel;have hcase:k=0\/k=1\/k=2:=om;rcases hcase with rfl|rfl|rfl
  ·by_cases ha:a=0
   ·subst ha;go_wp2;go_round
    case rel=>exact ⟨1,om,rfl,by simp,om⟩
    case measure=>simp[intOf]
   have hd:decide (a=0)=false:=decide_eq_false ha;have hd2:(a !=0)=true:=by simpa using ha
   go_wp2;go_ret;exact ⟨by rw[(HV.o.1 ha).o];rfl,rfl⟩
  ·have ha:=hz0 om;by_cases hb:b=0
   ·subst hb;go_wp2;go_round
    case rel=>exact ⟨2,om,rfl,fun _=>ha,by simp⟩
    case measure=>simp[intOf]
   have hd:decide (b=0)=false:=decide_eq_false hb;have hd2:(b !=0)=true:=by simpa using hb
   go_wp2;go_ret;exact ⟨by rw[(HV.o.2 ha).o];rfl,rfl⟩
  have ha:=hz0 om;have hb:=hz1 om;go_wp2;go_ret;exact ⟨by rw[(HV.o.2 ha).o,hb];rfl,rfl⟩
theorem cmp_parts (_ha:a<B*B) (_hb:b<B*B):(if cmpI (a/B) (b/B)≠0 then cmpI (a/B) (b/B) else cmpI (a%B) (b%B))=cmpI a b:=by
 unfold cmpI B at*;repeat split
 all_goals first|rfl|omega|simp_all
theorem numCmp_any (a b:Nat) (w:World) (ha:a<B*B) (hb:b<B*B):Calls Tryz.prog 152 #[numV a,numV b] w fun e w'=>e= .returned (.int .i64 (cmpI a b))/\Bl w w':=by
 have hv:=cmp_parts ha hb;have H1:∀W,Calls Tryz.prog 161 #[.int .u64 (a/B:Nat), .int .u64 (b/B:Nat)] W fun e w'=>e= .returned (.int .i64 (cmpI (a/B) (b/B)))/\w'=W:=fun W=>compare_any _ _ W
 have H2:∀W,Calls Tryz.prog 161 #[.int .u64 (a%B:Nat), .int .u64 (b%B:Nat)] W fun e w'=>e= .returned (.int .i64 (cmpI (a%B) (b%B)))/\w'=W:=fun W=>compare_any _ _ W
 have H3:∀(g:Nat) W,W.heap[g]?=some (.cells #[.int .i64 (cmpI (a/B) (b/B)), .int .i64 (cmpI (a%B) (b%B))] 3 (0,0))->Calls Tryz.prog 160 #[.slice (some ⟨g,0,none⟩) 2 2] W fun e w'=>e= .returned (.int .i64 (cmpI a b))/\w'=W:=fun g W h=>by rw[<- hv];exact or2_any g _ _ _ W h
 obtain ⟨ah,al,hea,qa,qb⟩:=numV_parts a;obtain ⟨bh,bl,heb,qc,qd⟩:=numV_parts b;rw[<- qa, <-qc] at H1 H3;rw[<- qb, <-qd] at H2 H3;rw[hea,heb];generalize cmpI ah bh=x at*;generalize cmpI al bl=y at*;generalize cmpI a b=z at*;have HH1:=hD H1;have HH2:=hD H2;have HH3:=hD H3;clear hv H1 H2 H3 qa qb qc qd hea heb ha hb;go_enter Tryz.func152,Tryz.ntmps152;go_wp2_with fail;obtain ⟨W0,hW0⟩:=nm ((w.alloc (.cells #[.int .u64 (ah:Int), .int .u64 (al:Int)] 82)).alloc (.cells #[.int .u64 (bh:Int), .int .u64 (bl:Int)] 82));have HS0:Hd ((fun Wk=>Below (w.heap.size) (w) Wk/\Cl Wk w.heap.size 0 (.int .u64 (ah:Int))/\Cl Wk w.heap.size 1 (.int .u64 (al:Int))/\Cl Wk (w.heap.size+1) 0 (.int .u64 (bh:Int))/\Cl Wk (w.heap.size+1) 1 (.int .u64 (bl:Int))) W0.drew):=by
  show _/\_;rw[hW0];exact ⟨below_drewN bL 1,by simp[go_sem],by simp[go_sem],by simp[go_sem],by simp[go_sem]⟩
 rw[<- hW0];clear hW0;have hs0:=HS0.o;obtain ⟨-,c0,c1,c2,c3⟩:=hs0;simp only[Cl,World.cell?_drew] at c0 c1 c2 c3;have hal:∀(W:World) (o:Obj),Bl W (W.alloc o):=fun W o=>br.alloc lr _
 have HAL:=hD hal;clear hal;go_region_held3 (fun Wk=>Below (w.heap.size) (w) Wk/\Wk.cell? ⟨w.heap.size,0,none⟩=some (.int .u64 (ah:Int))/\Wk.cell? ⟨w.heap.size,1,none⟩=some (.int .u64 (al:Int))/\Wk.cell? ⟨w.heap.size+1,0,none⟩=some (.int .u64 (bh:Int))/\Wk.cell? ⟨w.heap.size+1,1,none⟩=some (.int .u64 (bl:Int)))
  (first|exact HS0.o|assumption|exact held_4_0 (HAL.o _ _) (by assumption))
  (first
  |(go_at_call 161;(with_reducible refine (HH1.o _).mono ?_);rintro e w1 ⟨rfl,rfl⟩)
  |(go_at_call 161;(with_reducible refine (HH2.o _).mono ?_);rintro e w1 ⟨rfl,rfl⟩)
  |(go_at_call 160;refine (HH3.o W0.heap.size _ ?_).mono ?_;exact heap_new W0 _;rintro e w2 ⟨rfl,rfl⟩))
 rename_i hS;have HBF:=hD hS.1;clear hS c0 c1 c2 c3;go_wp2_with fail;go_ret;exact ⟨rfl,HBF.o⟩
open Go.RowKit Go.Maps
theorem run_mkFunc (P:Program) (fn:Fn) (first cap:Array Value) (w:World):(Instr.makeFunc fn first cap).run P w= .ok (.func fn first cap) w:=rfl
def fnV (f g:Nat):Value:= .func (Fn.func f) #[] #[.pointer (some ⟨g,0,none⟩)]
def fn0 (f:Nat):Value:= .func (Fn.func f) #[] #[]
def aloneM (g:Nat):List (Int×Value):=[(7,fnV 133 g),(8,fnV 135 g),(9,fnV 137 g),(13,fnV 139 g),(14,fnV 140 g)]
def bothM (g:Nat):List (Int×Value):=[(10,fn0 141),(11,fnV 143 g),(12,fnV 145 g),(15,fn0 146),(16,fn0 147),(17,fn0 149),(18,fn0 150),(19,fn0 151),(20,fn0 153)]
theorem alone_any (c0 c1 c2 c3 c4 c5:Int) (w:World):
 Calls Tryz.prog 126 #[.agg #[.int .u8 c0, .int .i64 c1, .int .i64 c2, .int .i64 c3, .int .u64 c4, .int .u64 c5]] w fun e w'=>∃m,e= .returned (.map (some m))/\UMap w' m (aloneM w.heap.size)/\w'.heap[w.heap.size]?=some (.cells #[.int .u8 c0, .int .i64 c1, .int .i64 c2, .int .i64 c3, .int .u64 c4, .int .u64 c5] 84 (0,0))/\Bl w w':=by
 have hmm:=@run_makeMap Tryz.prog;have hmf:=run_mkFunc Tryz.prog;have HM:∀W,UMap (World.alloc W (.map #[] 0)) W.heap.size []:=fun W=>UMap.empty _ _ (heap_new W _)
 have h0:=HM (w.alloc (.cells #[.int .u8 c0, .int .i64 c1, .int .i64 c2, .int .i64 c3, .int .u64 c4, .int .u64 c5] 84));rw[World.size_alloc] at h0;have HB:Hd (Below (w.heap.size+1) (w.alloc (.cells #[.int .u8 c0, .int .i64 c1, .int .i64 c2, .int .i64 c3, .int .u64 c4, .int .u64 c5] 84)) ((w.alloc (.cells #[.int .u8 c0, .int .i64 c1, .int .i64 c2, .int .i64 c3, .int .u64 c4, .int .u64 c5] 84)).alloc (.map #[] 0))):=br.alloc sm _;have hB:=HB.o;clear HM;go_enter Tryz.func126,Tryz.ntmps126;go_wp2_with (refine wpList_put (k:=5) (e:=194) (by rfl) _ _ _ (by rfl) Tryz.underlying5 Tryz.underlying196 (by rfl) h0 _ (by rfl) _ (by rfl) dq sm ?_;clear h0;intro w1 h0 hg1;replace hB:=hB.grown hg1 (Nat.le_trans sm hB.size) (fun k e=>by cases e;simp);clear hg1);go_ret;exact gR3
theorem both_any (c0 c1 c2 c3 c4 c5:Int) (w:World):
 Calls Tryz.prog 127 #[.agg #[.int .u8 c0, .int .i64 c1, .int .i64 c2, .int .i64 c3, .int .u64 c4, .int .u64 c5]] w fun e w'=>∃m,e= .returned (.map (some m))/\UMap w' m (bothM w.heap.size)/\w'.heap[w.heap.size]?=some (.cells #[.int .u8 c0, .int .i64 c1, .int .i64 c2, .int .i64 c3, .int .u64 c4, .int .u64 c5] 84 (0,0))/\Bl w w':=by
 have hmm:=@run_makeMap Tryz.prog;have hmf:=run_mkFunc Tryz.prog;have HM:∀W,UMap (World.alloc W (.map #[] 0)) W.heap.size []:=fun W=>UMap.empty _ _ (heap_new W _)
 have h0:=HM (w.alloc (.cells #[.int .u8 c0, .int .i64 c1, .int .i64 c2, .int .i64 c3, .int .u64 c4, .int .u64 c5] 84));rw[World.size_alloc] at h0;have HB:Hd (Below (w.heap.size+1) (w.alloc (.cells #[.int .u8 c0, .int .i64 c1, .int .i64 c2, .int .i64 c3, .int .u64 c4, .int .u64 c5] 84)) ((w.alloc (.cells #[.int .u8 c0, .int .i64 c1, .int .i64 c2, .int .i64 c3, .int .u64 c4, .int .u64 c5] 84)).alloc (.map #[] 0))):=br.alloc sm _;have hB:=HB.o;clear HM;go_enter Tryz.func127,Tryz.ntmps127;go_wp2_with (refine wpList_put (k:=5) (e:=198) (by rfl) _ _ _ (by rfl) Tryz.underlying5 Tryz.underlying200 (by rfl) h0 _ (by rfl) _ (by rfl) dq sm ?_;clear h0;intro w1 h0 hg1;replace hB:=hB.grown hg1 (Nat.le_trans sm hB.size) (fun k e=>by cases e;simp);clear hg1);go_ret;exact gR3
open Go.RowKit Go.Maps
def sized3 (p:Nat×Int):List Value:=[.int .u64 ((p.1/B:Nat):Int), .int .u64 ((p.1%B:Nat):Int), .int .i64 p.2]
def stkCells (st:List (Nat×Int)):List Value:=st.flatMap sized3
theorem stkCells_snoc (st:List (Nat×Int)) (p:Nat×Int):stkCells (st++[p])=stkCells st++sized3 p:=by simp[stkCells]
theorem stkCells_length (st:List (Nat×Int)):(stkCells st).length=st.length*3:=by
 induction st with
 |nil=>rfl
 |cons p st ih=>simp only[stkCells,List.flatMap_cons,List.length_append,List.length_cons] at ih⊢;rw[ih];simp[sized3];omega
def Stk (w:World) (n0 m:Nat) (x:Value×Value) (st:List (Nat×Int)):Prop:=
 ∃v,w.heap[m]?=some (.cells #[x.1,x.2,v] 184 (0,0))/\w.ownsRow n0 187 3 v st.length (stkCells st)/\v.ownBlock≠some m/\n0<=m/\st.length<=100000
theorem Stk.below {x:Value×Value} {st:List (Nat×Int)} (h:Stk w n0 m x st) (hb:Bl w w'):Stk w' n0 m x st:=by
 obtain ⟨v,h1,h2,h3,h4,h5⟩:=h;refine ⟨v,(hb.block m ?_).trans h1,own_below h2 hb,h3,h4,h5⟩;exact (gA_ h1).1
theorem own_cut {e k:Nat} {ys:List Value} (h:w.ownsRow n0 e k (.slice (some ⟨g,0,none⟩) (n+1) cap) (n+1) (xs++ys)) (hx:xs.length=n*k):w.ownsRow n0 e k (.slice (some ⟨g,0,none⟩) n cap) n xs:=by
 obtain ⟨hl,h|⟨g',cap',cur,h1,h2,h3,h4,h5,h6,h7⟩⟩:=h
 ·exact absurd h.2 om
 simp only[Value.slice.injEq,Option.some.injEq,Addr.mk.injEq,and_true,true_and] at h1;obtain ⟨rfl,rfl⟩:=h1;refine ⟨hx, .inr ⟨g,cap,cur,rfl,h2,h3,om,h5,h6,?_⟩⟩;have:cur.toList.take (n*k)=(cur.toList.take ((n+1)*k)).take (n*k):=by rw[List.take_take];congr 1;rw[Nat.add_mul];omega
 rw[this,h7,List.take_append_of_le_length om,List.take_of_length_le om]
theorem own_cell {e k:Nat} (h:w.ownsRow n0 e k (.slice (some ⟨g,0,none⟩) n cap) n xs) {i:Nat} {v:Value} (hv:xs[i]?=some v):w.cell? ⟨g,i,none⟩=some v:=by
 exact gP1
def Apart (m:Nat) (w w':World):Prop:=(∀ k,k<w.heap.size->k≠m->w'.heap[k]?=w.heap[k]?)/\w.heap.size<=w'.heap.size
theorem Apart.cell (h:Apart m w w') {v:Value} (hp:p.block≠m) (hc:w.cell? p=some v):w'.cell? p=some v:=by
 have:=h.1 p.block (cell_there hc).1 hp;simpa [World.cell?,this] using hc
theorem Apart.frozen (h:Apart m w w') {v:Value} (hp:p.block≠m) (hc:w.cell? p=some v):w'.frozen? p=w.frozen? p:=by
 have:=h.1 p.block (cell_there hc).1 hp;simp[World.frozen?,this]
theorem heap_setCell3 {a b c v:Value} {t:TypeId} (h:w.heap[m]?=some (.cells #[a,b,c] t (0,0))):(w.setCell ⟨m,2,none⟩ v).heap[m]?=some (.cells #[a,b,v] t (0,0)):=
 heap_setCell_same w m 2 _ t v h
theorem pop_any (n0 m:Nat) (x:Value×Value) (st:List (Nat×Int)) (a:Nat) (k:Int) (w:World) (h:Stk w n0 m x (st++[(a,k)])):
 Calls Tryz.prog 119 #[.pointer (some ⟨m,0,none⟩)] w fun e w'=>e= .returned (.agg #[.int .u64 ((a/B:Nat):Int), .int .u64 ((a%B:Nat):Int), .int .i64 k])/\Stk w' n0 m x st/\Below n0 w w'/\Apart m w w':=by
 obtain ⟨v,h1,h2,h3,h4,h5⟩:=h;have hn0:n0<=w.heap.size:=Nat.le_of_lt (Nat.lt_of_le_of_lt h4 (gA_ h1).1);rw[List.length_append,List.length_singleton] at h2 h5;have hx:=stkCells_length st;rw[stkCells_snoc] at h2;obtain ⟨g,cap,rfl,hcap⟩:∃g cap,v= .slice (some ⟨g,0,none⟩) (st.length+1) cap/\st.length+1<=cap:=by
  obtain ⟨-,q|⟨g,cap,cur,q1,-,-,q2,-⟩⟩:=h2
  ·exact absurd q.2 om
  exact ⟨g,cap,q1,q2⟩
 have c2:w.cell? ⟨m,2,none⟩=some (.slice (some ⟨g,0,none⟩) (st.length+1) cap):=by simp[World.cell?,h1]
 have f2:w.frozen? ⟨m,2,none⟩=false:=by simp[World.frozen?,h1]
 have e0:w.cell? ⟨g,st.length*3,none⟩=some (.int .u64 ((a/B:Nat):Int)):=own_cell h2 (by rw[List.getElem?_append_right om,hx,Nat.sub_self];rfl);have e1:w.cell? ⟨g,st.length*3+1,none⟩=some (.int .u64 ((a%B:Nat):Int)):=own_cell h2 (by rw[List.getElem?_append_right om,hx,Nat.add_sub_cancel_left];rfl);have e2:w.cell? ⟨g,st.length*3+2,none⟩=some (.int .i64 k):=own_cell h2 (by rw[List.getElem?_append_right om,hx,Nat.add_sub_cancel_left];rfl);have hgm:g≠m:=fun e=>h3 (by rw[e];rfl)
 have hml:m<w.heap.size:=(gA_ h1).1;have hgl:g<w.heap.size:=(cell_there e0).1;have HE:Hd (∀ W:World,(∀ k,k<w.heap.size->W.heap[k]?=w.heap[k]?)->Stk (W.setCell ⟨m,2,none⟩ (.slice (some ⟨g,0,none⟩) st.length cap)) n0 m x st):=by
  intro W hW;refine ⟨.slice (some ⟨g,0,none⟩) st.length cap,heap_setCell3 ((hW m hml).trans h1),?_,h3,h4,om⟩;obtain ⟨q0,q|⟨g',cap',cur,q1,q2,q3,q4⟩⟩:=own_cut h2 hx
  ·exact absurd q.1 sm
  simp only[Value.slice.injEq,Option.some.injEq,Addr.mk.injEq,and_true,true_and] at q1;obtain ⟨rfl,rfl⟩:=q1;exact ⟨q0, .inr ⟨g,cap,cur,rfl,q2,by rw[setCell_heap hgm];exact (hW g (gA_ q3).1).trans q3,q4⟩⟩
 clear h1 h2 h3 hx;generalize st.length=N at*;generalize ((a/B:Nat):Int)=A1 at*;generalize ((a%B:Nat):Int)=A2 at*;have HM4:=hD h4;have HN0:=hD hn0;clear h4 hn0;go_enter Tryz.func119,Tryz.ntmps119;go_wp2_with fail;go_region;all_goals go_wp2_with fail
 go_region;all_goals go_wp2_with fail
 have hS:=HE.o w fun k _=>rfl
 have hb:Below (w.setCell ⟨m,2,none⟩ (.slice (some ⟨g,0,none⟩) N cap)).heap.size (w.setCell ⟨m,2,none⟩ (.slice (some ⟨g,0,none⟩) N cap)) (((((w.setCell ⟨m,2,none⟩ (.slice (some ⟨g,0,none⟩) N cap)).alloc (.cells #[.int .u64 A1, .int .u64 A2, .int .i64 k] 187)).alloc (.cells #[.int .u64 A1, .int .u64 A2, .int .i64 k] 187)).drew).drew):=
  below_drewN (below_drewN ((br.alloc lr _).alloc sm _) 1) 1
 have hs:(w.setCell ⟨m,2,none⟩ (.slice (some ⟨g,0,none⟩) N cap)).heap.size=w.heap.size:=by simp
 have hb0:Below n0 w (w.setCell ⟨m,2,none⟩ (.slice (some ⟨g,0,none⟩) N cap)):=br.setCell (by exact HM4.o) _;exact bodyPost_ret (v:= .agg #[.int .u64 A1, .int .u64 A2, .int .i64 k]) (by simp[results,Tryz.results119,go_sem]) rfl ⟨rfl,hS.below hb,hb0.trans (hb.mono (by rw[hs];exact HN0.o)),⟨fun k hk hne=>(hb.block k (by rw[hs];exact hk)).trans (setCell_heap hne),by have:=hb.size;rw[hs] at this;exact this⟩⟩
open Go.RowKit Go.Maps
def nodeV (op c1 c2 c3 c4 c5:Int):Value:= .agg #[.int .u8 op, .int .i64 c1, .int .i64 c2, .int .i64 c3, .int .u64 c4, .int .u64 c5]
theorem leaf_const (m:Nat) (c1 c2 c3 c4 c5:Int) (w:World):
 Calls Tryz.prog 125 #[.pointer (some ⟨m,0,none⟩),nodeV 1 c1 c2 c3 c4 c5] w fun e w'=>e= .returned (.tuple #[.agg #[.int .u64 c4, .int .u64 c5], .bool true])/\Bl w w':=by
 unfold nodeV;go_enter Tryz.func125,Tryz.ntmps125;go_wp2_with fail;exact bodyPost_ret (v:= .tuple #[.agg #[.int .u64 c4, .int .u64 c5], .bool true]) (by simp[results,Tryz.results125,go_sem]) rfl ⟨rfl,bL⟩
theorem leaf_none (m:Nat) (op c1 c2 c3 c4 c5:Int) (w:World) (h1:6<op):
 Calls Tryz.prog 125 #[.pointer (some ⟨m,0,none⟩),nodeV op c1 c2 c3 c4 c5] w fun e w'=>e= .returned (.tuple #[.agg #[.int .u64 0, .int .u64 0], .bool false])/\Bl w w':=by
 unfold nodeV;have n1:¬op=1:=om;have n2:¬op=2:=om;have n3:¬op=3:=om;have n4:¬op=4:=om;have n5:¬op=5:=om;have n6:¬op=6:=om;clear h1;go_enter Tryz.func125,Tryz.ntmps125;go_wp2_with fail;exact bodyPost_ret (v:= .tuple #[.agg #[.int .u64 0, .int .u64 0], .bool false]) (by simp[results,Tryz.results125,go_sem]) rfl ⟨rfl,bL⟩
end Go.Proofs.YtikilcbpogfgkaaGreat

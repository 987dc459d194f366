/-
  Lemmas, joined: ActP, ActQ, Value, Six, Of3, Code, Known21.
-/
import Derived.Test.YtjfhfaodbjecdaaGreatJC36
import Derived.LoopN
import Derived.Deep.Cut
import Derived.Test.YtjfhfaodbjecdaaGreatJC31
import Derived.Test.YtjfhfaodbjecdaaGreatJC24
set_option maxHeartbeats 12800000
set_option maxRecDepth 100000
namespace Go.Proofs.YtjfhfaodbjecdaaGreat
open Go.RowKit Go.Maps Stab
theorem len_succ (l:List Value) (n:Nat) (h:l.length=n+1):∃x t,l=x::t/\t.length=n:=by
 cases l with
 |nil=>cases h
 |cons x t=>exact ⟨x,t,rfl,by simpa using h⟩
theorem fr65 (a:Act) (hz:a.tmps.size=65) (hd:a.defers=[]):∃x0 x1 x2 x3 x4 x5 x6 x7 x8 x9 x10 x11 x12 x13 x14 x15 x16 x17 x18 x19 x20 x21 x22 x23 x24 x25 x26 x27 x28 x29 x30 x31 x32 x33 x34 x35 x36 x37 x38 x39 x40 x41 x42 x43 x44 x45 x46 x47 x48 x49 x50 x51 x52 x53 x54 x55 x56 x57 x58 x59 x60 x61 x62 x63 x64,a=⟨#[x0,x1,x2,x3,x4,x5,x6,x7,x8,x9,x10,x11,x12,x13,x14,x15,x16,x17,x18,x19,x20,x21,x22,x23,x24,x25,x26,x27,x28,x29,x30,x31,x32,x33,x34,x35,x36,x37,x38,x39,x40,x41,x42,x43,x44,x45,x46,x47,x48,x49,x50,x51,x52,x53,x54,x55,x56,x57,x58,x59,x60,x61,x62,x63,x64],[]⟩:=by
 obtain ⟨⟨l0⟩,d⟩:=a;obtain rfl:d=[]:=hd;have h0:l0.length=65:=hz;clear hz;obtain ⟨x0,l1,rfl,h1⟩:=len_succ l0 64 h0;clear h0;obtain ⟨x1,l2,rfl,h2⟩:=len_succ l1 63 h1;clear h1;obtain ⟨x2,l3,rfl,h3⟩:=len_succ l2 62 h2;clear h2;obtain ⟨x3,l4,rfl,h4⟩:=len_succ l3 61 h3;clear h3;obtain ⟨x4,l5,rfl,h5⟩:=len_succ l4 60 h4;clear h4;obtain ⟨x5,l6,rfl,h6⟩:=len_succ l5 59 h5;clear h5;obtain ⟨x6,l7,rfl,h7⟩:=len_succ l6 58 h6;clear h6;obtain ⟨x7,l8,rfl,h8⟩:=len_succ l7 57 h7;clear h7;obtain ⟨x8,l9,rfl,h9⟩:=len_succ l8 56 h8;clear h8;obtain ⟨x9,l10,rfl,h10⟩:=len_succ l9 55 h9;clear h9;obtain ⟨x10,l11,rfl,h11⟩:=len_succ l10 54 h10;clear h10;obtain ⟨x11,l12,rfl,h12⟩:=len_succ l11 53 h11;clear h11;obtain ⟨x12,l13,rfl,h13⟩:=len_succ l12 52 h12;clear h12;obtain ⟨x13,l14,rfl,h14⟩:=len_succ l13 51 h13;clear h13;obtain ⟨x14,l15,rfl,h15⟩:=len_succ l14 50 h14;clear h14;obtain ⟨x15,l16,rfl,h16⟩:=len_succ l15 49 h15;clear h15;obtain ⟨x16,l17,rfl,h17⟩:=len_succ l16 48 h16;clear h16;obtain ⟨x17,l18,rfl,h18⟩:=len_succ l17 47 h17;clear h17;obtain ⟨x18,l19,rfl,h19⟩:=len_succ l18 46 h18;clear h18;obtain ⟨x19,l20,rfl,h20⟩:=len_succ l19 45 h19;clear h19;obtain ⟨x20,l21,rfl,h21⟩:=len_succ l20 44 h20;clear h20;obtain ⟨x21,l22,rfl,h22⟩:=len_succ l21 43 h21;clear h21;obtain ⟨x22,l23,rfl,h23⟩:=len_succ l22 42 h22;clear h22;obtain ⟨x23,l24,rfl,h24⟩:=len_succ l23 41 h23;clear h23;obtain ⟨x24,l25,rfl,h25⟩:=len_succ l24 40 h24;clear h24;obtain ⟨x25,l26,rfl,h26⟩:=len_succ l25 39 h25;clear h25;obtain ⟨x26,l27,rfl,h27⟩:=len_succ l26 38 h26;clear h26;obtain ⟨x27,l28,rfl,h28⟩:=len_succ l27 37 h27;clear h27;obtain ⟨x28,l29,rfl,h29⟩:=len_succ l28 36 h28;clear h28;obtain ⟨x29,l30,rfl,h30⟩:=len_succ l29 35 h29;clear h29;obtain ⟨x30,l31,rfl,h31⟩:=len_succ l30 34 h30;clear h30;obtain ⟨x31,l32,rfl,h32⟩:=len_succ l31 33 h31;clear h31;obtain ⟨x32,l33,rfl,h33⟩:=len_succ l32 32 h32;clear h32;obtain ⟨x33,l34,rfl,h34⟩:=len_succ l33 31 h33;clear h33;obtain ⟨x34,l35,rfl,h35⟩:=len_succ l34 30 h34;clear h34;obtain ⟨x35,l36,rfl,h36⟩:=len_succ l35 29 h35;clear h35;obtain ⟨x36,l37,rfl,h37⟩:=len_succ l36 28 h36;clear h36;obtain ⟨x37,l38,rfl,h38⟩:=len_succ l37 27 h37;clear h37;obtain ⟨x38,l39,rfl,h39⟩:=len_succ l38 26 h38;clear h38;obtain ⟨x39,l40,rfl,h40⟩:=len_succ l39 25 h39;clear h39;obtain ⟨x40,l41,rfl,h41⟩:=len_succ l40 24 h40;clear h40;obtain ⟨x41,l42,rfl,h42⟩:=len_succ l41 23 h41;clear h41;obtain ⟨x42,l43,rfl,h43⟩:=len_succ l42 22 h42;clear h42;obtain ⟨x43,l44,rfl,h44⟩:=len_succ l43 21 h43;clear h43;obtain ⟨x44,l45,rfl,h45⟩:=len_succ l44 20 h44;clear h44;obtain ⟨x45,l46,rfl,h46⟩:=len_succ l45 19 h45;clear h45;obtain ⟨x46,l47,rfl,h47⟩:=len_succ l46 18 h46;clear h46;obtain ⟨x47,l48,rfl,h48⟩:=len_succ l47 17 h47;clear h47;obtain ⟨x48,l49,rfl,h49⟩:=len_succ l48 16 h48;clear h48;obtain ⟨x49,l50,rfl,h50⟩:=len_succ l49 15 h49;clear h49;obtain ⟨x50,l51,rfl,h51⟩:=len_succ l50 14 h50;clear h50;obtain ⟨x51,l52,rfl,h52⟩:=len_succ l51 13 h51;clear h51;obtain ⟨x52,l53,rfl,h53⟩:=len_succ l52 12 h52;clear h52;obtain ⟨x53,l54,rfl,h54⟩:=len_succ l53 11 h53;clear h53;obtain ⟨x54,l55,rfl,h55⟩:=len_succ l54 10 h54;clear h54;obtain ⟨x55,l56,rfl,h56⟩:=len_succ l55 9 h55;clear h55;obtain ⟨x56,l57,rfl,h57⟩:=len_succ l56 8 h56;clear h56;obtain ⟨x57,l58,rfl,h58⟩:=len_succ l57 7 h57;clear h57;obtain ⟨x58,l59,rfl,h59⟩:=len_succ l58 6 h58;clear h58;obtain ⟨x59,l60,rfl,h60⟩:=len_succ l59 5 h59;clear h59;obtain ⟨x60,l61,rfl,h61⟩:=len_succ l60 4 h60;clear h60;obtain ⟨x61,l62,rfl,h62⟩:=len_succ l61 3 h61;clear h61;obtain ⟨x62,l63,rfl,h63⟩:=len_succ l62 2 h62;clear h62;obtain ⟨x63,l64,rfl,h64⟩:=len_succ l63 1 h63;clear h63;obtain ⟨x64,l65,rfl,h65⟩:=len_succ l64 0 h64;clear h64;obtain rfl:=List.eq_nil_of_length_eq_zero h65;exact ⟨x0,x1,x2,x3,x4,x5,x6,x7,x8,x9,x10,x11,x12,x13,x14,x15,x16,x17,x18,x19,x20,x21,x22,x23,x24,x25,x26,x27,x28,x29,x30,x31,x32,x33,x34,x35,x36,x37,x38,x39,x40,x41,x42,x43,x44,x45,x46,x47,x48,x49,x50,x51,x52,x53,x54,x55,x56,x57,x58,x59,x60,x61,x62,x63,x64,rfl⟩
theorem UMap.kept2 {w w':World} {m:Nat} {es:List (Int×Value)} (h:UMap w m es) (hb:w'.heap[m]?=w.heap[m]?):UMap w' m es:=h.kept hb
section
variable {w0 w w':World} {base X:Nat} {p:Prg} {act:Int} {x y:Pkt} {r v f mm:Value} {fs:List Value} {args:List Nat} {gp:Option Addr} {gn gc:Nat}
theorem runRA (h:RCtx w0 w base X p act x r v f mm fs args gp gn gc) (s:PgS) (lp:Option Addr) (ln lc:Nat) (wi:Bool) {l:List Ent} {c:List Ist} {cp:Option Addr} {cn cc:Nat} (hp:PgOk w0 s p) (hW:WPos p) (hSm:Sm p) (hl:ERow w0 (.slice lp ln lc) l) (hc:IstRow w0 (.slice cp cn cc) c) (hcl:∀i∈c,i.e.length<=6000) (hm:mayInstsP p act c=true) (hwi:act<0->wi=false) (hao:act<0->ApOk p l) (hrun:act<0->RunsIn w0 base X p s lp ln lc l r v f mm fs):
 Calls Tryz.prog 21 #[rnA s lp ln lc X gp gn gc wi, .slice cp cn cc] w fun e w'=>e= .returned (.tuple #[])/\PktB base w' X (runA p l act args c x) r v f mm fs/\Fr (PS X r v f mm fs) w w':=by
 obtain ⟨R,hR⟩:∃R,R=rnA s lp ln lc X gp gn gc wi:=⟨_,rfl⟩;have HDO:Hid (∀ (W:World) (y:Pkt) (i:Ist) (ep:Option Addr) (en ec:Nat),RCtx w0 W base X p act y r v f mm fs args gp gn gc->InsOk w0 p act i ep en ec->1<=i.k->i.k<=6->∃fk,(i.k,mfV fk R)∈doesM R/\(∀ vs V,(callFunc fk vs).run Tryz.prog V= .ok (.enter fk vs) V)/\Calls Tryz.prog fk #[R,inA i ep en ec] W fun e w'=>e= .returned (.tuple #[])/\PktB base w' X (doI p (apF p l act) args y i) r v f mm fs/\Fr (PS X r v f mm fs) W w'):=by
  rw[hR];exact fun W y i ep en ec h hi k1 k6=>by
   have hk:i.k=1\/i.k=2\/i.k=3\/i.k=4\/i.k=5\/i.k=6:=by omega
   rcases hk with hk|hk|hk|hk|hk|hk
   ·exact ⟨43,by rw[hk];simp[doesM],fun vs V=>by first|rfl|kernel_rfl|simp[go_sem],doSet h s lp ln lc wi _ hp hW hi hk⟩
   ·exact ⟨44,by rw[hk];simp[doesM],fun vs V=>by first|rfl|kernel_rfl|simp[go_sem],doMeta h s lp ln lc wi _ hp hW hi hk⟩
   ·exact ⟨45,by rw[hk];simp[doesM],fun vs V=>by first|rfl|kernel_rfl|simp[go_sem],doApply h s lp ln lc wi hp hl hSm hwi hao hrun hi hk⟩
   ·exact ⟨46,by rw[hk];simp[doesM],fun vs V=>by first|rfl|kernel_rfl|simp[go_sem],doDrop h s lp ln lc wi _ hk⟩
   ·exact ⟨47,by rw[hk];simp[doesM],fun vs V=>by first|rfl|kernel_rfl|simp[go_sem],doForward h s lp ln lc wi _ hW hi hk⟩
   ·exact ⟨48,by rw[hk];simp[doesM],fun vs V=>by first|rfl|kernel_rfl|simp[go_sem],doValid h s lp ln lc wi _ hi hk⟩
 have HV:Hid (∀ (W:World) (y:Pkt) (i:Ist) (ep:Option Addr) (en ec:Nat),RCtx w0 W base X p act y r v f mm fs args gp gn gc->InsOk w0 p act i ep en ec->i.k=7->Calls Tryz.prog 49 #[R,inA i ep en ec] W fun e w'=>e= .returned (numV (evC y args i.e))/\PktB base w' X (seen y i.e) r v f mm fs/\Fr (·=X) W w'):=by
  rw[hR];exact fun W y i ep en ec h hi hk=>by
   obtain ⟨wt,-,h2⟩:=hi.width (.inr (.inr (.inr hk))) hW;exact rvalueA h s lp ln lc wi h2 hi.len hi.code
 obtain ⟨Z,hZ⟩:∃Z,Z=runA p l act args c x:=⟨_,rfl⟩;rw[<- hZ];have HR:Hid (Z=runFrom p (apF p l act) args c 0 x):=hZ;have HJ:Hid (JumpsOk c):=mayInsts_jumps hm;have HMI:Hid (∀ i∈c,MayI p act i):=mayInsts_mem hm;have HC:=hD hc;have HCL:=hD hcl;have HN:Hid (cn=c.length):=hc.ln.1;have hcn6:cn<=65536:=by have:=mayInsts_len hm;have:=hc.ln.1;omega
 have HAO:=hD hao;have HX:=hD h;have HPS:Hid (∀ k,PS X r v f mm fs k->k<w.heap.size):=fun k hk=>(h.lt hk).2
 have hXl:=h.P.lt;have HL:Hid (∀ V:World,V.heap[w.heap.size]?=some (.cells #[.slice s.hp s.hn s.hc, .slice s.mp s.mn s.mc, .slice s.sp s.sn s.sc, .slice s.ap s.an s.ac, .slice s.tp s.tn s.tc, .slice s.cp s.cn s.cc, .slice s.ep s.en s.ec, .slice s.v1 s.n1 s.c1, .slice s.v2 s.n2 s.c2, .slice s.v3 s.n3 s.c3, .slice s.v4 s.n4 s.c4, .slice s.v5 s.n5 s.c5, .slice lp ln lc, .pointer (some ⟨X,0,none⟩), .slice gp gn gc, .bool wi] 72 (0,0))->(Instr.loadAt 72 (.pointer (some ⟨w.heap.size,0,none⟩))).run Tryz.prog V= .ok R V):=fun V h1=>by
  rw[hR];exact run_loadAt_mid V w.heap.size 0 72 _ _ (World.rangeAt_of_block h1 0 16) Tryz.underlying72 rfl rfl
 clear h hp hW hSm hl hc hcl hm hwi hao hrun hZ;unfold rnA at hR;have HRR:=hD hR;rw[show rnA s lp ln lc X gp gn gc wi= .agg #[.slice s.hp s.hn s.hc, .slice s.mp s.mn s.mc, .slice s.sp s.sn s.sc, .slice s.ap s.an s.ac, .slice s.tp s.tn s.tc, .slice s.cp s.cn s.cc, .slice s.ep s.en s.ec, .slice s.v1 s.n1 s.c1, .slice s.v2 s.n2 s.c2, .slice s.v3 s.n3 s.c3, .slice s.v4 s.n4 s.c4, .slice s.v5 s.n5 s.c5, .slice lp ln lc, .pointer (some ⟨X,0,none⟩), .slice gp gn gc, .bool wi] from rfl];clear hR;go_enter Tryz.func21,Tryz.ntmps21;go_upto_region 1 with fail
 obtain ⟨W0,hW0⟩:∃W0,W0=w.alloc (.cells #[.slice s.hp s.hn s.hc, .slice s.mp s.mn s.mc, .slice s.sp s.sn s.sc, .slice s.ap s.an s.ac, .slice s.tp s.tn s.tc, .slice s.cp s.cn s.cc, .slice s.ep s.en s.ec, .slice s.v1 s.n1 s.c1, .slice s.v2 s.n2 s.c2, .slice s.v3 s.n3 s.c3, .slice s.v4 s.n4 s.c4, .slice s.v5 s.n5 s.c5, .slice lp ln lc, .pointer (some ⟨X,0,none⟩), .slice gp gn gc, .bool wi] 72):=⟨_,rfl⟩;have hs0:W0.heap.size=w.heap.size+1:=by rw[hW0];simp
 have HB0:Hid (Below w.heap.size w W0):=by show Below _ _ _;rw[hW0];exact (by repeat (first|exact Below.refl _ _|assumption|refine Below.drew ?_|refine blA ?_|refine blS ?_|refine blT ?_ (by assumption)))
 have HRB:Hid (W0.heap[w.heap.size]?=some (.cells #[.slice s.hp s.hn s.hc, .slice s.mp s.mn s.mc, .slice s.sp s.sn s.sc, .slice s.ap s.an s.ac, .slice s.tp s.tn s.tc, .slice s.cp s.cn s.cc, .slice s.ep s.en s.ec, .slice s.v1 s.n1 s.c1, .slice s.v2 s.n2 s.c2, .slice s.v3 s.n3 s.c3, .slice s.v4 s.n4 s.c4, .slice s.v5 s.n5 s.c5, .slice lp ln lc, .pointer (some ⟨X,0,none⟩), .slice gp gn gc, .bool wi] 72 (0,0))):=by show _=_;rw[hW0];exact heap_new _ _
 rw[<- hW0];clear hW0;refine does_region _ w.heap.size (.slice cp cn cc) R W0 _ rfl rfl rfl rfl (fun V h=>HL.out V ((h.block _ (by omega)).trans HRB.out)) ?_;intro a' w1 hz hd h1 h2 h4 hU hB1;obtain ⟨x0,x1,x2,x3,x4,x5,x6,x7,x8,x9,x10,x11,x12,x13,x14,x15,x16,x17,x18,x19,x20,x21,x22,x23,x24,x25,x26,x27,x28,x29,x30,x31,x32,x33,x34,x35,x36,x37,x38,x39,x40,x41,x42,x43,x44,x45,x46,x47,x48,x49,x50,x51,x52,x53,x54,x55,x56,x57,x58,x59,x60,x61,x62,x63,x64,rfl⟩:=fr65 a' hz hd;have e1:x1= .slice cp cn cc:=h1;have e2:x2= .pointer (some ⟨w.heap.size,0,none⟩):=h2;have e4:x4= .map (some W0.heap.size):=h4;subst e1 e2 e4;clear hz hd h1 h2 h4;have HU:=hD hU;have HBW:Hid (Below w.heap.size w w1):=HB0.out.trans (hB1.mono HB0.out.size);have HX1:Hid (RCtx w0 w1 base X p act x r v f mm fs args gp gn gc):=HX.out.below HBW.out;have HRB1:Hid (w1.heap[w.heap.size]?=some (.cells #[.slice s.hp s.hn s.hc, .slice s.mp s.mn s.mc, .slice s.sp s.sn s.sc, .slice s.ap s.an s.ac, .slice s.tp s.tn s.tc, .slice s.cp s.cn s.cc, .slice s.ep s.en s.ec, .slice s.v1 s.n1 s.c1, .slice s.v2 s.n2 s.c2, .slice s.v3 s.n3 s.c3, .slice s.v4 s.n4 s.c4, .slice s.v5 s.n5 s.c5, .slice lp ln lc, .pointer (some ⟨X,0,none⟩), .slice gp gn gc, .bool wi] 72 (0,0))):=(hB1.block _ (by omega)).trans HRB.out;have hm1:W0.heap.size<w1.heap.size:=hU.lt;have HPSW:Hid (∀ k,PS X r v f mm fs k->k<w.heap.size):=HPS;have HM0:Hid (W0.heap.size=w.heap.size+1):=hs0;have hw1:w.heap.size<w1.heap.size:=by omega
 clear hU hB1 HB0 hs0;dsimp only;go_wp2_with fail;go_loopw [5] (fun u wr=>∃(a:Nat) (y:Pkt),a<=cn/\u= .int .i64 a/\Hid (Z=runFrom p (apF p l act) args c a y)/\Hid (RCtx w0 wr base X p act y r v f mm fs args gp gn gc)/\Hid (Fr (PS X r v f mm fs) w1 wr)) (fun u _=>cn-(intOf u).toNat)
 case atStart=>exact ⟨0,x,Nat.zero_le _,rfl,HR.out,HX1.out,Fr.refl _ _⟩
 case round=>
  obtain ⟨a,y,ha,rfl,HRA,HCX,HFR⟩:=hrel;have hwr:w1.heap.size<=wr.heap.size:=HFR.out.size;by_cases hlt:a<cn
  ·have hai:(a:Int)<(cn:Int):=by omega
   have hac:a<c.length:=by have:=HN.out;omega
   obtain ⟨i,hi⟩:∃i,i=istAt c a:=⟨_,rfl⟩;have hia:c[a]?=some i:=by rw[hi];exact istAt_some hac
   have HRS:Hid (Z=runFrom p (apF p l act) args c (nextI args y i a) (doI p (apF p l act) args y i)):=by show _=_;rw[HRA.out,runFrom_step HJ.out hac, <-hi]
   have HNG:Hid (a<nextI args y i a/\nextI args y i a<=c.length):=⟨by rw[hi];exact nextI_gt HJ.out args y hac,by rw[hi];exact nextI_le HJ.out args y hac⟩;have him:=List.mem_of_getElem? hia;obtain ⟨b,o,ep,en,ec,rfl,hb,y0,y1,y2,y3,y4,hye⟩:=IstRow.el HC.out hia;have hmi:=HMI.out i him;have HIO:Hid (InsOk w0 p act i ep en ec):=⟨hmi,HCL.out i him,hye⟩;have HOK:Hid (PktF p (doI p (apF p l act) args y i)/\(doI p (apF p l act) args y i).port=y.port):=doI_ok args HCX.out.F hmi HAO.out;obtain ⟨wk,hwk,-⟩:=mayI_code hmi;have HWK:=hD hwk;have hlow:=HCX.out.low;have c0:=(hlow.cell (p:=⟨b,o+a*5,none⟩) hb).trans y0;have c1:=(hlow.cell (p:=⟨b,o+a*5+1,none⟩) hb).trans y1;have c2:=(hlow.cell (p:=⟨b,o+a*5+2,none⟩) hb).trans y2;have c3:=(hlow.cell (p:=⟨b,o+a*5+3,none⟩) hb).trans y3;have c4:=(hlow.cell (p:=⟨b,o+a*5+4,none⟩) hb).trans y4;have hU:=HU.out.kept2 (w':=wr) (HFR.out.block _ hm1 (fun e=>by have:=HPSW.out _ e;have:=HM0.out;omega));obtain ⟨ik,ia,ib,ie,it⟩:=i;dsimp only at c0 c1 c2 c3 c4;have hk:ik=1\/ik=2\/ik=3\/ik=4\/ik=5\/ik=6\/ik=7\/ik=8:=by
    by_cases h1:ik=1
    ·exact .inl h1
    ·by_cases h2:ik=2
     ·exact .inr (.inl h2)
     ·by_cases h3:ik=3
      ·exact .inr (.inr (.inl h3))
      ·by_cases h6:ik=6
       ·omega
       ·rcases instW_rest hwk h1 h2 h3 h6 with ⟨h,-⟩|⟨h,-⟩|⟨h,-⟩|⟨h,-⟩<;>dsimp only at h<;>omega
   clear hi hia him hmi hwk hb hye y0 y1 y2 y3 y4 hlow;have hk3:(1<=ik/\ik<=6)\/ik=7\/ik=8:=by omega
   clear hk;rcases hk3 with hk6|rfl|rfl
   ·
    obtain ⟨fk,hmem,hcf,hcall⟩:=HDO.out (wr.alloc (.cells #[.int .u8 ik, .int .i64 ia, .int .i64 ib, .slice ep en ec, .int .i64 it] 75)) y ⟨ik,ia,ib,ie,it⟩ ep en ec (HCX.out.below ((Below.refl _ _).alloc (Nat.le_refl _) _)) HIO.out hk6.1 hk6.2;have hlk:=(hU.below ((Below.refl _ _).alloc (Nat.le_refl _) (.cells #[.int .u8 ik, .int .i64 ia, .int .i64 ib, .slice ep en ec, .int .i64 it] 75))).look (P:=Tryz.prog) (k:=5) (T:=108) (e:=107) Tryz.underlying5 Tryz.underlying108 (x:=ik) (v:=mfV fk R) hmem;have hnx:nextI args y ⟨ik,ia,ib,ie,it⟩ a=a+1:=by unfold nextI;rw[if_neg (fun e=>by rcases e with e|e;dsimp only at e;omega;have:=e.1;dsimp only at this;omega)]
    rw[hnx] at HRS HNG;have hk8:¬ik=8:=by omega
    have hk7:¬ik=7:=by omega
    clear hnx hmem hk6;unfold mfV at hlk;unfold inA at hcall;go_wp2_with (refine hcall.mono ?_;rintro e w2 ⟨rfl,hp2,hf2⟩;have HP2:=hD hp2;have HF2:=hD hf2;have hb2:=(hf2.block wr.heap.size (by simp) (fun e=>by have:=HPSW.out _ e;omega)).trans (heap_new wr _);have j0:w2.cell? ⟨wr.heap.size,0,none⟩=some (.int .u8 ik):=(by simp[World.cell?,hb2]);have j4:w2.cell? ⟨wr.heap.size,4,none⟩=some (.int .i64 it):=(by simp[World.cell?,hb2]);clear hp2 hf2 hb2 hlk);have HF3:Hid (Fr (PS X r v f mm fs) wr w2):=(Fr.of_below ((Below.refl _ _).alloc (Nat.le_refl _) _)).trans HF2.out;exact ⟨⟨a+1,_,by omega,by go_num,HRS.out,HCX.out.step HF3.out HP2.out HOK.out.1 HOK.out.2,HFR.out.trans HF3.out⟩,by simp[intOf];omega⟩
   ·
    obtain ⟨N,hN⟩:∃N,N=evC y args ie:=⟨_,rfl⟩;have hlk:=(hU.below ((Below.refl _ _).alloc (Nat.le_refl _) (.cells #[.int .u8 7, .int .i64 ia, .int .i64 ib, .slice ep en ec, .int .i64 it] 75))).miss (P:=Tryz.prog) (k:=5) (T:=108) (e:=107) Tryz.underlying5 Tryz.underlying108 (Tryz.zeroValue107 _) (x:=7) (by decide) (by simp[doesM]);have hval:=HV.out (wr.alloc (.cells #[.int .u8 7, .int .i64 ia, .int .i64 ib, .slice ep en ec, .int .i64 it] 75)) y ⟨7,ia,ib,ie,it⟩ ep en ec (HCX.out.below ((Below.refl _ _).alloc (Nat.le_refl _) _)) HIO.out rfl;have hrb:RnBox wr w.heap.size s lp ln lc X gp gn gc wi:=(HFR.out.block _ hw1 (fun e=>absurd (HPSW.out _ e) (Nat.lt_irrefl _))).trans HRB1.out;have hlw:w.heap.size<wr.heap.size:=by omega
    have hrb2:RnBox (wr.alloc (.cells #[.int .u8 7, .int .i64 ia, .int .i64 ib, .slice ep en ec, .int .i64 it] 75)) w.heap.size s lp ln lc X gp gn gc wi:=(Below.heap_alloc _ _ _ hlw).trans hrb;obtain ⟨r0,r1,r2,r3,r4,r5,r6,r7,r8,r9,r10,r11,r12,r13,r14,r15⟩:=hrb2.cells;rw[HRR.out] at hval;clear hrb hrb2;obtain ⟨y3,z3,he3,hy3,hz3⟩:=numV_parts N;have hev:evC y args (⟨7,ia,ib,ie,it⟩:Ist).e=N:=hN.symm;rw[hev,he3] at hval;have heq:∀W,(Go.binOp .eql 60 (.agg #[.int .u64 (y3:Int), .int .u64 (z3:Int)]) (.agg #[.int .u64 0, .int .u64 0])).run Tryz.prog W= .ok (.bool (decide (N=0))) W:=fun W=>by
     have h:=eqp y3 z3 0 0 W;have e:decide (y3=0/\z3=0)=decide (N=0):=by
      rw[decide_eq_decide,hy3,hz3];constructor
      ·rintro ⟨h1,h2⟩;have:=Nat.div_add_mod N B;rw[h1,h2] at this;simpa using this.symm
      ·rintro rfl;exact ⟨by simp,by simp⟩
     rw[e] at h;exact h
    have hdo:doI p (apF p l act) args y ⟨7,ia,ib,ie,it⟩=seen y ie:=by unfold doI execB;rfl
    rw[hdo] at HRS HOK;clear hev he3 hy3 hz3 hdo;unfold inA at hval;dsimp only at hval;by_cases hz:N=0
    ·have hnx:nextI args y ⟨7,ia,ib,ie,it⟩ a=it.toNat:=by unfold nextI;rw[if_pos (.inr ⟨rfl,by rw[<- hz,hN]⟩)]
     rw[hnx] at HRS HNG;obtain ⟨t,rfl⟩:∃t:Nat,it=(t:Int):=⟨it.toNat,by have:=HNG.out.1;omega⟩;have hmx:max ((a:Int)+1) (t:Int)=(t:Int):=by have:=HNG.out.1;simp only[Int.toNat_natCast] at this;omega
     have HTA:Hid (a<t/\t<=c.length):=by show _/\_;have:=HNG.out;simpa using this
     have HRT:Hid (Z=runFrom p (apF p l act) args c t (seen y ie)):=by show Z=_;have:=HRS.out;simpa using this
     have hzb:decide (N=0)=true:=decide_eq_true hz;rw[hzb] at heq;clear hnx hz hzb hN;go_wp2_with (go_at_call 49;refine hval.mono ?_;rintro e w2 ⟨rfl,hp2,hf2⟩;have HP2:=hD hp2;have HF2:=hD hf2;have hb2:=(hf2.block wr.heap.size (by simp) (by show ¬wr.heap.size=X;omega)).trans (heap_new wr _);have j0:w2.cell? ⟨wr.heap.size,0,none⟩=some (.int .u8 7):=(by simp[World.cell?,hb2]);have j4:w2.cell? ⟨wr.heap.size,4,none⟩=some (.int .i64 (t:Int)):=(by simp[World.cell?,hb2]);clear hp2 hf2 hb2 hlk);have HF3:Hid (Fr (PS X r v f mm fs) wr w2):=(Fr.of_below ((Below.refl _ _).alloc (Nat.le_refl _) _)).trans HF2.out.ps;exact ⟨⟨t,_,by have:=HTA.out;have:=HN.out;omega,by go_num,HRT.out,HCX.out.step HF3.out HP2.out HOK.out.1 HOK.out.2,HFR.out.trans HF3.out⟩,by have:=HTA.out;simp[intOf];omega⟩
    ·have hnx:nextI args y ⟨7,ia,ib,ie,it⟩ a=a+1:=by unfold nextI;rw[if_neg (fun e=>by rcases e with e|⟨-,e⟩;exact absurd (show (7:Int)=8 from e) (by decide);exact hz (by rw[hN];exact e))]
     rw[hnx] at HRS HNG;have hzb:decide (N=0)=false:=decide_eq_false hz;rw[hzb] at heq;clear hnx hz hzb hN;go_wp2_with (go_at_call 49;refine hval.mono ?_;rintro e w2 ⟨rfl,hp2,hf2⟩;have HP2:=hD hp2;have HF2:=hD hf2;have hb2:=(hf2.block wr.heap.size (by simp) (by show ¬wr.heap.size=X;omega)).trans (heap_new wr _);have j0:w2.cell? ⟨wr.heap.size,0,none⟩=some (.int .u8 7):=(by simp[World.cell?,hb2]);have j4:w2.cell? ⟨wr.heap.size,4,none⟩=some (.int .i64 it):=(by simp[World.cell?,hb2]);clear hp2 hf2 hb2 hlk);have HF3:Hid (Fr (PS X r v f mm fs) wr w2):=(Fr.of_below ((Below.refl _ _).alloc (Nat.le_refl _) _)).trans HF2.out.ps;exact ⟨⟨a+1,_,by omega,by go_num,HRS.out,HCX.out.step HF3.out HP2.out HOK.out.1 HOK.out.2,HFR.out.trans HF3.out⟩,by simp[intOf];omega⟩
   ·
    have hnx:nextI args y ⟨8,ia,ib,ie,it⟩ a=it.toNat:=by unfold nextI;rw[if_pos (.inl rfl)]
    rw[hnx] at HRS HNG;obtain ⟨t,rfl⟩:∃t:Nat,it=(t:Int):=⟨it.toNat,by have:=HNG.out.1;omega⟩;have hmx:max ((a:Int)+1) (t:Int)=(t:Int):=by have:=HNG.out.1;simp only[Int.toNat_natCast] at this;omega
    have HTA:Hid (a<t/\t<=c.length):=by show _/\_;have:=HNG.out;simpa using this
    have hdo:doI p (apF p l act) args y ⟨8,ia,ib,ie,(t:Int)⟩=y:=by unfold doI execB;rfl
    rw[hdo] at HRS;have HRT:Hid (Z=runFrom p (apF p l act) args c t y):=by show Z=_;have:=HRS.out;simpa using this
    have hlk:=(hU.below ((Below.refl _ _).alloc (Nat.le_refl _) (.cells #[.int .u8 8, .int .i64 ia, .int .i64 ib, .slice ep en ec, .int .i64 (t:Int)] 75))).miss (P:=Tryz.prog) (k:=5) (T:=108) (e:=107) Tryz.underlying5 Tryz.underlying108 (Tryz.zeroValue107 _) (x:=8) (by decide) (by simp[doesM]);clear hnx hdo;go_wp2_with fail;have HB3:Hid (Below wr.heap.size wr (wr.alloc (.cells #[.int .u8 8, .int .i64 ia, .int .i64 ib, .slice ep en ec, .int .i64 (t:Int)] 75))):=(Below.refl _ _).alloc (Nat.le_refl _) _;exact ⟨⟨t,_,by have:=HTA.out;have:=HN.out;omega,by go_num,HRT.out,HCX.out.below HB3.out,HFR.out.trans (Fr.of_below HB3.out)⟩,by have:=HTA.out;simp[intOf];omega⟩
  ·have hcnl:¬(a:Int)<(cn:Int):=by omega
   have HEND:Hid (Z=y):=by show _=_;rw[HRA.out];exact runFrom_stop (by have:=HN.out;omega)
   go_wp2_with fail;go_end0;exact ⟨rfl,by rw[HEND.out];exact HCX.out.P,(Fr.of_below HBW.out).trans HFR.out⟩
end
open Go.RowKit Stab
section
variable {w0 w w':World} {base X:Nat} {p:Prg} {act:Int} {x y:Pkt} {r v f mm:Value} {fs:List Value} {args:List Nat} {gp:Option Addr} {gn gc:Nat}
theorem runsIn (s:PgS) (lp:Option Addr) (ln lc:Nat) {l:List Ent} (hp:PgOk w0 s p) (hW:WPos p) (hSm:Sm p) (hl:ERow w0 (.slice lp ln lc) l):RunsIn w0 base X p s lp ln lc l r v f mm fs:=
 fun j W y args gp gn gc c bp bn bc hc hrow hlen hm hj=>runRA hc s lp ln lc true hp hW hSm hl hrow hlen hm (fun h=>by omega) (fun h=>by omega) (fun h=>by omega)
theorem actionRun (h:RCtx w0 w base X p act x r v f mm fs args gp gn gc) (s:PgS) (lp:Option Addr) (ln lc:Nat) {l:List Ent} {c:List Ist} {cp:Option Addr} {cn cc:Nat} (hp:PgOk w0 s p) (hW:WPos p) (hSm:Sm p) (hl:ERow w0 (.slice lp ln lc) l) (hc:IstRow w0 (.slice cp cn cc) c) (hcl:∀i∈c,i.e.length<=6000) (hm:mayInstsP p act c=true) (hao:act<0->ApOk p l):
 Calls Tryz.prog 8 #[pgV s, .slice lp ln lc, .pointer (some ⟨X,0,none⟩), .slice cp cn cc, .slice gp gn gc] w fun e w'=>e= .returned (.tuple #[])/\PktB base w' X (runA p l act args c x) r v f mm fs/\Fr (PS X r v f mm fs) w w':=by
 have HR:Hid (∀ W,Below w.heap.size w W->Calls Tryz.prog 21 #[.agg #[.slice s.hp s.hn s.hc, .slice s.mp s.mn s.mc, .slice s.sp s.sn s.sc, .slice s.ap s.an s.ac, .slice s.tp s.tn s.tc, .slice s.cp s.cn s.cc, .slice s.ep s.en s.ec, .slice s.v1 s.n1 s.c1, .slice s.v2 s.n2 s.c2, .slice s.v3 s.n3 s.c3, .slice s.v4 s.n4 s.c4, .slice s.v5 s.n5 s.c5, .slice lp ln lc, .pointer (some ⟨X,0,none⟩), .slice gp gn gc, .bool false], .slice cp cn cc] W fun e w'=>e= .returned (.tuple #[])/\PktB base w' X (runA p l act args c x) r v f mm fs/\Fr (PS X r v f mm fs) W w'):=fun W hb=>
  runRA (h.below hb) s lp ln lc false hp hW hSm hl hc hcl hm (fun _=>rfl) hao (fun _=>runsIn s lp ln lc hp hW hSm hl)
 clear h hp hW hSm hl hc hcl hm hao;unfold pgV;go_enter Tryz.func8,Tryz.ntmps8;have HB:Hid (Below w.heap.size w (w.alloc (.cells #[.slice s.hp s.hn s.hc, .slice s.mp s.mn s.mc, .slice s.sp s.sn s.sc, .slice s.ap s.an s.ac, .slice s.tp s.tn s.tc, .slice s.cp s.cn s.cc, .slice s.ep s.en s.ec, .slice s.v1 s.n1 s.c1, .slice s.v2 s.n2 s.c2, .slice s.v3 s.n3 s.c3, .slice s.v4 s.n4 s.c4, .slice s.v5 s.n5 s.c5] 33))):=(Below.refl _ _).alloc (Nat.le_refl _) _;go_wp2_with (go_at_call 21;refine (HR.out _ HB.out).mono ?_;rintro e w1 ⟨rfl,h1,h2⟩;have H1:=hD h1;have H2:=hD h2;clear h1 h2);go_end0;exact ⟨rfl,H1.out,(Fr.of_below HB.out).trans H2.out⟩
end
open Go.RowKit Go.Maps
structure Nd where
 op:Int
 k:Int
 a:Int
 b:Int
 v:Nat
def Nd.val (d:Nd):Value:=nodeV d.op d.k d.a d.b ((d.v/B:Nat):Int) ((d.v%B:Nat):Int)
def Nd.cells (d:Nd):List Value:=[.int .u8 d.op, .int .i64 d.k, .int .i64 d.a, .int .i64 d.b, .int .u64 ((d.v/B:Nat):Int), .int .u64 ((d.v%B:Nat):Int)]
inductive Step:Nd->List (Nat×Int)->List (Nat×Int)->Prop
 |const (k a b:Int) (v:Nat) (st):v<B*B->Step ⟨1,k,a,b,v⟩ st (st++[(v%2 ^ sh k,k)])
 |bnot (k a b:Int) (v:Nat) (st) (n:Nat) (j:Int):n<B*B->Step ⟨7,k,a,b,v⟩ (st++[(n,j)]) (st++[(((n%2 ^ sh k) ^^^ (2 ^ sh k-1))%2 ^ sh k,k)])
 |neg (k a b:Int) (v:Nat) (st) (n:Nat) (j:Int):n<B*B->Step ⟨8,k,a,b,v⟩ (st++[(n,j)]) (st++[((0+(B*B-n))%(B*B)%2 ^ sh k%2 ^ sh k,k)])
 |slice (k a b:Int) (v:Nat) (st) (n:Nat) (j:Int):n<B*B->0<=b->b<=a->a<128->Step ⟨9,k,a,b,v⟩ (st++[(n,j)]) (st++[(n/2 ^ sh b%2 ^ sh (a-b+1)%2 ^ sh k,k)])
 |cat (k a b:Int) (v:Nat) (st) (n m:Nat) (i j:Int):n<B*B->m<B*B->Step ⟨10,k,a,b,v⟩ (st++[(n,i)]++[(m,j)]) (st++[(((n*2 ^ sh j%(B*B)%2 ^ sh 128) ||| (m%2 ^ sh j))%2 ^ sh k,k)])
 |add (k a b:Int) (v:Nat) (st) (n m:Nat) (i j:Int):n<B*B->m<B*B->Step ⟨11,k,a,b,v⟩ (st++[(n,i)]++[(m,j)]) (st++[((n+m)%(B*B)%2 ^ sh k%2 ^ sh k,k)])
 |sub (k a b:Int) (v:Nat) (st) (n m:Nat) (i j:Int):n<B*B->m<B*B->Step ⟨12,k,a,b,v⟩ (st++[(n,i)]++[(m,j)]) (st++[((n+(B*B-m))%(B*B)%2 ^ sh k%2 ^ sh k,k)])
 |lt (k a b:Int) (v:Nat) (st) (n m:Nat) (i j:Int):n<B*B->m<B*B->Step ⟨19,k,a,b,v⟩ (st++[(n,i)]++[(m,j)]) (st++[(oneN (decide (n<m))%2 ^ sh k,k)])
 |le (k a b:Int) (v:Nat) (st) (n m:Nat) (i j:Int):n<B*B->m<B*B->Step ⟨20,k,a,b,v⟩ (st++[(n,i)]++[(m,j)]) (st++[(oneN (decide (n<=m))%2 ^ sh k,k)])
theorem node_step {d:Nd} {s s':List (Nat×Int)} (h:Step d s s') (n0 m:Nat) (x:Value×Value) (w:World) (hS:Stk w n0 m x s) (hl:s.length<=50):
 Calls Tryz.prog 41 #[.pointer (some ⟨m,0,none⟩),d.val] w fun e w'=>e= .returned (.tuple #[])/\Stk w' n0 m x s'/\Below n0 w w':=by
 cases h with
 |const k a b v st hv=>exact node_const n0 m x _ v k a b w hS hv (by omega)
 |bnot k a b v st n j hn=>exact node_not n0 m x st n j k a b _ _ w hS (by simp at hl;omega) hn
 |neg k a b v st n j hn=>exact node_neg n0 m x st n j k a b _ _ w hS (by simp at hl;omega) hn
 |slice k a b v st n j hn h0 h1 h2=>exact node_slice n0 m x st n j k a b _ _ w hS (by simp at hl;omega) hn h0 h1 h2
 |cat k a b v st n m i j hn hm=>exact node_cat n0 _ x st n m i j k a b _ _ w hS (by simp at hl;omega) hn hm
 |add k a b v st n m i j hn hm=>exact node_add n0 _ x st n m i j k a b _ _ w hS (by simp at hl;omega) hn hm
 |sub k a b v st n m i j hn hm=>exact node_sub n0 _ x st n m i j k a b _ _ w hS (by simp at hl;omega) hn hm
 |lt k a b v st n m i j hn hm=>exact node_lt n0 _ x st n m i j k a b _ _ w hS (by simp at hl;omega) hn hm
 |le k a b v st n m i j hn hm=>exact node_le n0 _ x st n m i j k a b _ _ w hS (by simp at hl;omega) hn hm
theorem field_n (a b c:Int) (w:World):(Instr.field 105 (.agg #[.int .u64 a, .int .u64 b, .int .i64 c]) 0).run Tryz.prog w= .ok (.agg #[.int .u64 a, .int .u64 b]) w:=by kernel_rfl
def prog0:Value:= .agg #[.slice none 0 0, .slice none 0 0, .slice none 0 0, .slice none 0 0, .slice none 0 0, .slice none 0 0, .slice none 0 0, .slice none 0 0, .slice none 0 0, .slice none 0 0, .slice none 0 0, .slice none 0 0]
theorem value_any (nd:Nat->Nd) (sts:Nat->List (Nat×Int)) (N cap gx gc:Nat) (r:Nat) (kr:Int) (w:World) (hN:N<=50) (hstep:∀i,i<N->Step (nd i) (sts i) (sts (i+1))) (hlen:∀i,i<=N->(sts i).length<=50) (h0:sts 0=[]) (hr:sts N=[(r,kr)])
 (hc:∀i,i<N->∀j v,(nd i).cells[j]?=some v->w.cell? ⟨gc,i*6+j,none⟩=some v):
 Calls Tryz.prog 20 #[prog0, .pointer (some ⟨gx,0,none⟩), .slice (some ⟨gc,0,none⟩) N cap, .slice none 0 0] w (RetNum w r):=by
 unfold prog0;have HC:=hD hc;have HST:=hD hstep;have HLE:=hD hlen;have HRR:=hD hr;have HGC:Hid (0<N->gc<w.heap.size):=fun h=>(cell_there (hc 0 h 0 (.int .u8 (nd 0).op) rfl)).1
 have HH0:=hD h0;clear hc hstep hlen hr h0;obtain ⟨y3,z3,he3,ey3,ez3⟩:=numV_parts r;have HE3:=hD he3;have HYZ:Hid (((r/B:Nat):Int)=(y3:Int)/\((r%B:Nat):Int)=(z3:Int)):=⟨by rw[ey3],by rw[ez3]⟩;clear he3 ey3 ez3;go_enter Tryz.func20,Tryz.ntmps20;go_wp2_with fail;obtain ⟨W0,hW0⟩:∃W0,W0=((w.alloc (.cells #[.slice none 0 0, .slice none 0 0, .slice none 0 0, .slice none 0 0, .slice none 0 0, .slice none 0 0, .slice none 0 0, .slice none 0 0, .slice none 0 0, .slice none 0 0, .slice none 0 0, .slice none 0 0] 33)).alloc (.cells #[.int .u64 0, .int .u64 0] 60)).alloc (.cells #[.pointer (some ⟨gx,0,none⟩), .slice none 0 0, .slice none 0 0] 102):=⟨_,rfl⟩;have HB0:Hid (Below w.heap.size w W0):=by show Below _ _ _;rw[hW0];exact (by repeat (first|exact Below.refl _ _|assumption|refine Below.drew ?_|refine blA ?_|refine blS ?_|refine blT ?_ (by assumption)))
 have hsz0:W0.heap.size=w.heap.size+1+1+1:=by rw[hW0];simp
 have HM0:Hid (W0.heap[w.heap.size+1+1]?=some (.cells #[.pointer (some ⟨gx,0,none⟩), .slice none 0 0, .slice none 0 0] 102 (0,0))):=by
  show _=_;rw[hW0];have:=heap_new ((w.alloc (.cells #[.slice none 0 0, .slice none 0 0, .slice none 0 0, .slice none 0 0, .slice none 0 0, .slice none 0 0, .slice none 0 0, .slice none 0 0, .slice none 0 0, .slice none 0 0, .slice none 0 0, .slice none 0 0] 33)).alloc (.cells #[.int .u64 0, .int .u64 0] 60)) (.cells #[.pointer (some ⟨gx,0,none⟩), .slice none 0 0, .slice none 0 0] 102);simp only[World.size_alloc] at this;exact this
 have HR0:Hid (W0.heap[w.heap.size+1]?=some (.cells #[.int .u64 0, .int .u64 0] 60 (0,0))):=by
  show _=_;rw[hW0,Below.heap_alloc _ _ _ (by simp)];have:=heap_new (w.alloc (.cells #[.slice none 0 0, .slice none 0 0, .slice none 0 0, .slice none 0 0, .slice none 0 0, .slice none 0 0, .slice none 0 0, .slice none 0 0, .slice none 0 0, .slice none 0 0, .slice none 0 0, .slice none 0 0] 33)) (.cells #[.int .u64 0, .int .u64 0] 60);simp only[World.size_alloc] at this;exact this
 rw[<- hW0];clear hW0;go_loopw [21] (fun i wr=>∃k:Nat,k<=N/\i= .int .i64 k/\Stk wr (w.heap.size+1+1) (w.heap.size+1+1) (.pointer (some ⟨gx,0,none⟩), .slice none 0 0) (sts k)/\Below (w.heap.size+1+1) W0 wr) (fun i _=>N-(intOf i).toNat)
 case atStart=>
  refine ⟨0,Nat.zero_le _,rfl,?_,Below.refl _ _⟩;rw[HH0.out];exact ⟨.slice none 0 0,HM0.out,⟨rfl, .inl ⟨rfl,rfl⟩⟩,by simp[Value.ownBlock],Nat.le_refl _,by simp⟩
 case round=>
  obtain ⟨k,hk,rfl,hS,hB⟩:=hrel;have HS:=hD hS;have HB:=hD hB;have hszr:=hB.size;rw[hsz0] at hszr;clear hS hB;by_cases hlt:k<N
  ·obtain ⟨op,kk,a,b,v,hnd⟩:∃op kk a b v,nd k=⟨op,kk,a,b,v⟩:=⟨_,_,_,_,_,rfl⟩;have hgc:=HGC.out (by omega);have HCK:Hid (∀ j u,(nd k).cells[j]?=some u->wr.cell? ⟨gc,k*6+j,none⟩=some u):=fun j u h=>(HB.out.cell (p:=⟨gc,k*6+j,none⟩) (by show gc<_;omega)).trans ((HB0.out.cell (p:=⟨gc,k*6+j,none⟩) hgc).trans (HC.out k hlt j u h))
   have HND:Hid (∀ W,Stk W (w.heap.size+1+1) (w.heap.size+1+1) (.pointer (some ⟨gx,0,none⟩), .slice none 0 0) (sts k)->Calls Tryz.prog 41 #[.pointer (some ⟨w.heap.size+1+1,0,none⟩),(nd k).val] W fun e w'=>e= .returned (.tuple #[])/\Stk w' (w.heap.size+1+1) (w.heap.size+1+1) (.pointer (some ⟨gx,0,none⟩), .slice none 0 0) (sts (k+1))/\Below (w.heap.size+1+1) W w'):=fun W h=>node_step (HST.out k hlt) _ _ _ W h (HLE.out k (by omega))
   rw[hnd] at HCK HND;have a0:wr.cell? ⟨gc,k*6,none⟩=some (.int .u8 op):=HCK.out 0 _ rfl;have a1:wr.cell? ⟨gc,k*6+1,none⟩=some (.int .i64 kk):=HCK.out 1 _ rfl;have a2:wr.cell? ⟨gc,k*6+2,none⟩=some (.int .i64 a):=HCK.out 2 _ rfl;have a3:wr.cell? ⟨gc,k*6+3,none⟩=some (.int .i64 b):=HCK.out 3 _ rfl;have a4:wr.cell? ⟨gc,k*6+4,none⟩=some (.int .u64 ((v/B:Nat):Int)):=HCK.out 4 _ rfl;have a5:wr.cell? ⟨gc,k*6+5,none⟩=some (.int .u64 ((v%B:Nat):Int)):=HCK.out 5 _ rfl;unfold Nd.val nodeV at HND;dsimp only at HND;generalize ((v/B:Nat):Int)=v1 at*;generalize ((v%B:Nat):Int)=v2 at*;clear HCK hnd;go_wp2_with (go_at_call 41;refine (HND.out _ (HS.out.below ((Below.refl _ _).alloc (Nat.le_refl _) _))).mono ?_;rintro e w1 ⟨rfl,hs1,hb1⟩;have HS1:=hD hs1;have HB1:=hD hb1;clear hs1 hb1);go_roundw
   case rel=>exact ⟨k+1,by omega,by go_num,HS1.out,(HB.out.alloc (by omega) _).trans HB1.out⟩
   case measure=>simp[intOf];omega
  ·have hkN:k=N:=by omega
   subst hkN;have HP:Hid (Calls Tryz.prog 42 #[.pointer (some ⟨w.heap.size+1+1,0,none⟩)] wr fun e w'=>e= .returned (.agg #[.int .u64 (y3:Int), .int .u64 (z3:Int), .int .i64 kr])/\Below (w.heap.size+1+1) wr w'):=by
    have h:=HS.out;rw[HRR.out] at h;have hp:=pop_any (w.heap.size+1+1) (w.heap.size+1+1) (.pointer (some ⟨gx,0,none⟩), .slice none 0 0) [] r kr wr h;rw[HYZ.out.1,HYZ.out.2] at hp;exact hp.mono fun e w' h=>⟨h.1,h.2.2.1⟩
   have hfn:=field_n;go_wp2_with (go_at_call 42;refine HP.out.mono ?_;rintro e w1 ⟨rfl,hb1⟩;have HB1:=hD hb1;have hr1:w1.heap[w.heap.size+1]?=some (.cells #[.int .u64 0, .int .u64 0] 60 (0,0)):=(hb1.block _ (by omega)).trans ((HB.out.block _ (by omega)).trans HR0.out);have b0:w1.cell? ⟨w.heap.size+1,0,none⟩=some (.int .u64 0):=(by simp[World.cell?,hr1]);have b1:w1.cell? ⟨w.heap.size+1,1,none⟩=some (.int .u64 0):=(by simp[World.cell?,hr1]);have b2:w1.frozen? ⟨w.heap.size+1,0,none⟩=false:=(by simp[World.frozen?,hr1]);have b3:w1.frozen? ⟨w.heap.size+1,1,none⟩=false:=(by simp[World.frozen?,hr1]);clear hb1 hr1);exact bodyPost_ret (v:= .agg #[.int .u64 (y3:Int), .int .u64 (z3:Int)]) (by simp[results,Tryz.results20,go_sem,b0,b1,b2,b3]) rfl ⟨by rw[HE3.out],((HB0.out.trans ((HB.out.mono (by omega)))).trans (HB1.out.mono (by omega))).setCell (by show w.heap.size<=w.heap.size+1;omega) _ |>.setCell (by show w.heap.size<=w.heap.size+1;omega) _⟩
open Go.RowKit Go.Maps
def sixN (w:World) (g:Nat) (b0 b1 b2 b3 b4 b5:Value):World:=(((((w.setCell ⟨g,0,none⟩ b0).setCell ⟨g,1,none⟩ b1).setCell ⟨g,2,none⟩ b2).setCell ⟨g,3,none⟩ b3).setCell ⟨g,4,none⟩ b4).setCell ⟨g,5,none⟩ b5
theorem sixN_set {w:World} {g:Nat} {a0 a1 a2 a3 a4 a5 b0 b1 b2 b3 b4 b5:Value} {t:TypeId} (h:w.heap[g]?=some (.cells #[a0,a1,a2,a3,a4,a5] t (0,0))):(sixN w g b0 b1 b2 b3 b4 b5).heap[g]?=some (.cells #[b0,b1,b2,b3,b4,b5] t (0,0)):=
 heap_setCell_same _ g 5 _ t b5 (heap_setCell_same _ g 4 _ t b4 (heap_setCell_same _ g 3 _ t b3 (heap_setCell_same _ g 2 _ t b2 (heap_setCell_same _ g 1 _ t b1 (heap_setCell_same _ g 0 _ t b0 h)))))
open Go.RowKit Go.Maps
structure Runs (nd:Nat->Nd) (N:Nat) (r:Nat) (sts:Nat->List (Nat×Int)) (kr:Int):Prop where
 small:N<=50
 step:∀i,i<N->Step (nd i) (sts i) (sts (i+1))
 len:∀i,i<=N->(sts i).length<=50
 start:sts 0=[]
 fin:sts N=[(r,kr)]
def CodeAt (w:World) (gc N:Nat) (nd:Nat->Nd):Prop:=∀i,i<N->∀j v,(nd i).cells[j]?=some v->w.cell? ⟨gc,i*6+j,none⟩=some v
def ndL (l:List Nd) (i:Nat):Nd:=l.getD i ⟨0,0,0,0,0⟩
def stL (l:List (List (Nat×Int))) (i:Nat):List (Nat×Int):=l.getD i []
theorem CodeAt.of_block {w:World} {gc:Nat} {l:List Nd} {t:TypeId} {fr:Nat×Nat} (h:w.heap[gc]?=some (.cells (l.flatMap Nd.cells).toArray t fr)):CodeAt w gc l.length (ndL l):=by
 intro i hi j v hv;have hj:j<6:=by
  have:=(List.getElem?_eq_some_iff.1 hv).1;simpa [Nd.cells] using this
 have key:∀(l:List Nd) (i:Nat),i<l.length->(l.flatMap Nd.cells)[i*6+j]?=(ndL l i).cells[j]?:=by
  intro l;induction l with
  |nil=>intro i hi;simp at hi
  |cons d l ih=>
   intro i hi;rw[List.flatMap_cons];cases i with
   |zero=>
    rw[Nat.zero_mul,Nat.zero_add,List.getElem?_append_left (by simp[Nd.cells];omega)];rfl
   |succ i=>
    have hd:d.cells.length=6:=rfl;rw[List.getElem?_append_right (by rw[hd];omega),hd,show (i+1)*6+j-6=i*6+j by omega];exact ih i (by simpa using hi)
 have e:=(key l i hi).trans hv;simp only[World.cell?,h];simpa using e
theorem Runs.of_list {l:List Nd} {ss:List (List (Nat×Int))} {r:Nat} {kr:Int} (hn:l.length<=40) (hs:∀i,i<l.length->Step (ndL l i) (stL ss i) (stL ss (i+1))) (hl:∀s∈ss,s.length<=50) (h0:stL ss 0=[]) (hr:stL ss l.length=[(r,kr)]):Runs (ndL l) l.length r (stL ss) kr:=by
 refine ⟨by omega,hs,fun i _=>?_,h0,hr⟩;unfold stL;rw[List.getD_eq_getElem?_getD];cases h:ss[i]? with
 |none=>simp
 |some s=>simpa using hl s (List.mem_of_getElem? h)
open Go.RowKit Go.Maps
abbrev cN (k:Int) (v:Nat):Nd:=⟨1,k,0,0,v⟩
def RunsTo (l:List Nd) (r:Nat):Prop:=∃sts kr,Runs (ndL l) l.length r sts kr
variable {k:Int} {m n:Nat}
theorem pow_le_BB (k:Int):2 ^ sh k<=B*B:=by rw[BB_pow];exact Nat.pow_le_pow_right (by omega) (sh_le k)
theorem lt_BB (hm:m<2 ^ sh k):m<B*B:=Nat.lt_of_lt_of_le hm (pow_le_BB k)
theorem run_two (op:Int) (v:Nat) (hm:m<2 ^ sh k) (hn:n<2 ^ sh k) (kk:Int) (h:∀i j,Step ⟨op,kk,0,0,0⟩ ([]++[(m,i)]++[(n,j)]) ([]++[(v%2 ^ sh kk,kk)])):RunsTo [cN k m,cN k n,⟨op,kk,0,0,0⟩] (v%2 ^ sh kk):=by
 have e1:m%2 ^ sh k=m:=Nat.mod_eq_of_lt hm;have e2:n%2 ^ sh k=n:=Nat.mod_eq_of_lt hn;refine ⟨stL [[],[(m,k)],[(m,k),(n,k)],[(v%2 ^ sh kk,kk)]],kk,Runs.of_list (by simp) (fun i hi=>?_) (by simp) rfl rfl⟩
 match i,hi with
 |0,_=>
  have:=Step.const k 0 0 m [] (lt_BB hm);rw[e1] at this;exact this
 |1,_=>
  have:=Step.const k 0 0 n [(m,k)] (lt_BB hn);rw[e2] at this;exact this
 |2,_=>exact h k k
 |i+3,hi=>exact absurd hi (by show ¬(i+3<3);omega)
theorem run_sub (hm:m<2 ^ sh k) (hn:n<2 ^ sh k):RunsTo [cN k m,cN k n,⟨12,k,0,0,0⟩] (subN m n k):=by
 have h:=run_two (k:=k) 12 ((m+(B*B-n))%(B*B)%2 ^ sh k) hm hn k (fun i j=>Step.sub k 0 0 0 [] m n i j (lt_BB hm) (lt_BB hn));rw[Nat.mod_mod,BB_pow] at h;exact h
open Go.RowKit Go.Maps
theorem kc_any (n:Nat) (w:World) (hn:n<B):
 Calls Tryz.prog 18 #[.int .u64 (n:Int)] w fun e w'=>e= .returned (Nd.val ⟨1,4,0,0,n⟩)/\Below w.heap.size w w':=by
 have HO:Hid (∀ W,Calls Tryz.prog 19 #[.int .u64 (n:Int)] W (RetNum W n)):=fun W=>refOf_any n hn W
 unfold Nd.val nodeV;dsimp only;obtain ⟨y3,z3,he3,ey3,ez3⟩:=numV_parts n;unfold RetNum at HO;rw[he3] at HO;rw[<- ey3, <-ez3];clear he3 ey3 ez3 hn;go_enter Tryz.func18,Tryz.ntmps18;go_wp2_with (go_at_call 19;refine (HO.out _).mono ?_;rintro e w1 ⟨rfl,hb1⟩;obtain ⟨hc,hf⟩:=bcell hb1;have hz1:=hb1.size;(try simp at hz1);have L1:w.heap.size<w1.heap.size:=by omega);have h0:w1.heap[w.heap.size]?=some (.cells #[.int .u8 0, .int .i64 0, .int .i64 0, .int .i64 0, .int .u64 0, .int .u64 0] 65 (0,0)):=by
  rw[hb1.block _ (by simp)];exact heap_new w _
 have h6:=sixN_set (b0:= .int .u8 1) (b1:= .int .i64 4) (b2:= .int .i64 0) (b3:= .int .i64 0) (b4:= .int .u64 (y3:Int)) (b5:= .int .u64 (z3:Int)) h0;have hbF:Below w.heap.size w (sixN w1 w.heap.size (.int .u8 1) (.int .i64 4) (.int .i64 0) (.int .i64 0) (.int .u64 (y3:Int)) (.int .u64 (z3:Int))):=by
  have hA:Below w.heap.size w w1:=Below.trans (by repeat (first|exact Below.refl _ _|assumption|refine Below.drew ?_|refine blA ?_|refine blS ?_|refine blT ?_ (by assumption))) (hb1.mono (by simp<;>omega));exact (((((hA.setCell (Nat.le_refl _) _).setCell (Nat.le_refl _) _).setCell (Nat.le_refl _) _).setCell (Nat.le_refl _) _).setCell (Nat.le_refl _) _).setCell (Nat.le_refl _) _
 change bodyPost _ _ _ _ _ (sixN w1 w.heap.size (.int .u8 1) (.int .i64 4) (.int .i64 0) (.int .i64 0) (.int .u64 (y3:Int)) (.int .u64 (z3:Int)));generalize sixN w1 w.heap.size (.int .u8 1) (.int .i64 4) (.int .i64 0) (.int .i64 0) (.int .u64 (y3:Int)) (.int .u64 (z3:Int))=WF at*;have e0:WF.cell? ⟨w.heap.size,0,none⟩=some (.int .u8 1):=by simp[World.cell?,h6]
 have e1:WF.cell? ⟨w.heap.size,1,none⟩=some (.int .i64 4):=by simp[World.cell?,h6]
 have e2:WF.cell? ⟨w.heap.size,2,none⟩=some (.int .i64 0):=by simp[World.cell?,h6]
 have e3:WF.cell? ⟨w.heap.size,3,none⟩=some (.int .i64 0):=by simp[World.cell?,h6]
 have e4:WF.cell? ⟨w.heap.size,4,none⟩=some (.int .u64 (y3:Int)):=by simp[World.cell?,h6]
 have e5:WF.cell? ⟨w.heap.size,5,none⟩=some (.int .u64 (z3:Int)):=by simp[World.cell?,h6]
 exact bodyPost_ret (v:= .agg #[.int .u8 1, .int .i64 4, .int .i64 0, .int .i64 0, .int .u64 (y3:Int), .int .u64 (z3:Int)]) (by simp[results,Tryz.results18,go_sem,e0,e1,e2,e3,e4,e5]) rfl ⟨rfl,hbF⟩
theorem value_of {l:List Nd} {r:Nat} (hr:RunsTo l r) (gx gc cap:Nat) (w:World) (t:TypeId) (h:w.heap[gc]?=some (.cells (l.flatMap Nd.cells).toArray t (0,0))):
 Calls Tryz.prog 20 #[prog0, .pointer (some ⟨gx,0,none⟩), .slice (some ⟨gc,0,none⟩) l.length cap, .slice none 0 0] w (RetNum w r):=by
 obtain ⟨sts,kr,hr⟩:=hr;exact value_any (ndL l) sts l.length cap gx gc r kr w hr.small hr.step hr.len hr.start hr.fin (CodeAt.of_block h)
theorem run_k1:RunsTo [cN 4 5,cN 4 3,⟨12,4,0,0,0⟩] 2:=by
 have h:=run_sub (k:=4) (m:=5) (n:=3) (by decide) (by decide);have e:subN 5 3 4=2:=by decide
 rwa [e] at h
theorem run_k2:RunsTo [cN 4 3,cN 4 5,⟨12,4,0,0,0⟩] 14:=by
 have h:=run_sub (k:=4) (m:=3) (n:=5) (by decide) (by decide);have e:subN 3 5 4=14:=by decide
 rwa [e] at h
end Go.Proofs.YtjfhfaodbjecdaaGreat

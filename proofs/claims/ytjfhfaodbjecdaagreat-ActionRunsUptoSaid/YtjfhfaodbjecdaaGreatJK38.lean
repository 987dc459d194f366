/-
  Layer 21's document, walked: Run.
-/
import Derived.Test.YtjfhfaodbjecdaaGreatJK34
import Derived.Test.YtjfhfaodbjecdaaGreatJK37
set_option maxHeartbeats 51200000
set_option maxRecDepth 100000
namespace Go.Proofs.YtjfhfaodbjecdaaGreat
open Go.RowKit Stab
theorem PktSm.of {p:Prg} {x:Pkt} (hx:PktF p x) (hS:Sm p) (hr:x.rest.length<=1000000):PktSm x:=
 ⟨hr,by rw[hx.v];have:=hS.heads;omega,by rw[hx.f];have:=hS.heads;omega,fun l hl=>by
  obtain ⟨j,hj⟩:=List.getElem?_of_mem hl;rw[hx.fl j l hj];have hjl:=(bO hj).1;have:=hS.head _ (cX (aA (l:=p.heads) (j:=j) [] (by have:=hx.f;omega)));omega,by rw[hx.m];have:=hS.metas;omega⟩
def AnsY (w0:World) (q0:KS) (x:Pkt) (w:World) (y:Pkt) (e:Ending):Prop:=∃q,e= .returned (kV q y.port y.dropped y.sent y.egress y.access)/\KOk w q y/\∀S:Nat->Prop,(∀ b,S b->b<w0.heap.size)->KApart w0 S q0 x->KApart w S q y
theorem KApart.rows {w:World} {S:Nat->Prop} {k:KS} {x y:Pkt} (h:KApart w S k x) (h1:y.rest=x.rest) (h2:y.valid=x.valid) (h3:y.fields=x.fields) (h4:y.metas=x.metas):KApart w S k y:=fun w' ha=>(h w' ha).rows h1 h2 h3 h4
theorem KApart.weak {w:World} {S T:Nat->Prop} {k:KS} {x:Pkt} (h:KApart w T k x) (hST:∀b,S b->T b):KApart w S k x:=fun w' ha=>h w' ⟨ha.os,ha.tape,ha.output,ha.size,fun b hb hT=>ha.block b hb (fun hS=>hT (hST b hS))⟩
theorem ou {p:Prg} {act ia ib it w k:Int} {ie:List Nod} (h:bK p act ⟨k,ia,ib,ie,it⟩=some w) (hk:k=3\/k=4\/k=6\/k=8):w=0:=by
 rcases hk with rfl|rfl|rfl|rfl
 ·exact (fF h rfl).2.2.2.2
 ·rcases fq h (by show (4:Int)≠1;decide) (by show (4:Int)≠2;decide) (by show (4:Int)≠3;decide) (by show (4:Int)≠6;decide) with ⟨h1,h2⟩|⟨h1,h2⟩|⟨h1,h2⟩|⟨h1,h2⟩<;>first|exact h2|(exfalso;dsimp only at h1;omega)
 ·exact (iv h rfl).2.2.2
 rcases fq h (by show (8:Int)≠1;decide) (by show (8:Int)≠2;decide) (by show (8:Int)≠3;decide) (by show (8:Int)≠6;decide) with ⟨h1,h2⟩|⟨h1,h2⟩|⟨h1,h2⟩|⟨h1,h2⟩<;>first|exact h2|(exfalso;dsimp only at h1;omega)
theorem Af {w:World} (o0 o1 o2:Obj):∀W,W=(((w.alloc o0).alloc o1).alloc o2)->W.heap[w.heap.size]?=some o0/\W.heap[w.heap.size+1]?=some o1/\W.heap[w.heap.size+1+1]?=some o2/\Bl w W:=three o0 o1 o2
structure WPos (p:Prg):Prop where
 head:∀l∈p.heads,∀k∈l,(0:Int)<k
 metas:∀k∈p.metas,(0:Int)<k
theorem WPos.at {p:Prg} (h:WPos p) {i j:Nat} (hi:i<p.heads.length) (hj:j<(p.heads.getD i []).length):(0:Int)<(p.heads.getD i []).getD j 0:=
 h.head _ (cX (aA (l:=p.heads) (j:=i) [] hi)) _ (cX (aA (l:=p.heads.getD i []) (j:=j) 0 hj))
theorem sk {p:Prg} {x:Pkt} {h f n:Nat} {l:List Nat} {vb:Bool} (hl:x.fields[h]?=some l) (hf:f<l.length) (hv:x.valid[h]?=some vb):gj p x h f n=if vb=true then { x with fields:=x.fields.set h (l.set f (n%2 ^ sh (kh p h f))) } else { x with access:=true }:=by
 have h1:=(bO hl).1;have h2:=(bO hv).1;have h3:x.fields.getD h []=l:=by simp[List.getD,hl]
 have h4:x.valid.getD h false=vb:=by simp[List.getD,hv]
 unfold gj;rw[if_pos (by unfold fJ;rw[Int.toNat_natCast,h3];simp;omega),Int.toNat_natCast,Int.toNat_natCast,h3,h4]
theorem TblRow.el {w:World} {p:Option Addr} {n c:Nat} {l:List Tbl} (h:TblRow w (.slice p n c) l) {j:Nat} {x:Tbl} (hj:l[j]?=some x):∃b o p1 n1 c1 p2 n2 c2,p=some ⟨b,o,none⟩/\b<w.heap.size/\w.cell? ⟨b,o+j*5,none⟩=some (.slice p1 n1 c1)/\CsRow w (.slice p1 n1 c1) x.keys/\w.cell? ⟨b,o+j*5+3,none⟩=some (.int .i64 x.dact)/\w.cell? ⟨b,o+j*5+4,none⟩=some (.slice p2 n2 c2)/\NRow w (.slice p2 n2 c2) x.dargs:=by
 obtain ⟨b,o,e,h1,⟨p1,n1,c1,h2,h3⟩,-,-,h4,⟨p2,n2,c2,h5,h6⟩⟩:=h.get hj;exact ⟨b,o,p1,n1,c1,p2,n2,c2,e,h1,h2,h3,h4,h5,h6⟩
theorem iw {W:World} {g:Nat} {x:Int} {y:Value} (h:W.heap[g]?=some (R1 x y)):W.cell? ⟨g,0,none⟩=some (.int .i64 x)/\W.cell? ⟨g,1,none⟩=some y/\W.frozen? ⟨g,0,none⟩=false/\W.frozen? ⟨g,1,none⟩=false:=by
 unfold R1 at h;refine ⟨?_,?_,?_,?_⟩<;>simp[World.cell?,World.frozen?,h]
structure ApOk (p:Prg) (l:List Ent):Prop where
 keys:∀i:Nat,i<p.tabs.length->(dK p i).keys.length<=6000/\(∀ c∈(dK p i).keys,c.length<=6000)/\∀c∈(dK p i).keys,∃wt,aL p (-1) c=some wt
 act:∀(i:Nat) (ks:List Nat),i<p.tabs.length->0<=jt l i ks (dK p i).dact/\jt l i ks (dK p i).dact<(p.acts.length:Int)/\(lV l i ks (dK p i).dargs).length=(cZ p (jt l i ks (dK p i).dact)).params.length
 body:∀j:Nat,j<p.acts.length->aH p j (cZ p j).body=true/\∀i∈(cZ p j).body,i.e.length<=6000
 few:l.length<=40/\sj l
def fN (p:Prg) (l:List Ent) (act:Int):Pkt->Ist->Pkt:=if act<0 then eK p l else fun x _=>x
def eM (p:Prg) (l:List Ent) (act:Int) (args:List Nat) (c:List Ist) (x:Pkt):Pkt:=bu p (fN p l act) args c 0 x
def YB (w:World) (g:Nat) (k:KS) (y:Pkt):Prop:=Bx w g [.int .i64 y.port, .slice k.rp k.rn k.rc, .slice k.vp k.vn k.vc, .slice k.fp k.fn k.fc, .slice k.mp k.mn k.mc, .bool y.dropped, .bool y.sent, .int .i64 y.egress, .bool y.access]
def Bh (W1:World) (k:KS) (y:Pkt) (W:World) (k2:KS) (Y:Pkt):Prop:=∀S:Nat->Prop,(∀ b,S b->b<W1.heap.size)->KApart W1 S k y->KApart W S k2 Y
structure RunSt (p:Prg) (s:PgS) (q:KS) (x:Pkt) (w wr:World) (k:KS) (y:Pkt):Prop where
 q0:KOk w q x
 ap:∀S:Nat->Prop,(∀ b,S b->b<w.heap.size)->KApart w S q x->KApart wr (fun b=>S b\/(w.heap.size<=b/\b<=w.heap.size+1+1)) k y
 fits:PktF p y
 rest:y.rest=x.rest
 port:y.port=x.port
 box:YB wr (w.heap.size+1) k y
 prog:PBox wr (w.heap.size) s
 res:Bx wr (w.heap.size+1+1) zL
 low:Bl w wr
section
variable {p:Prg} {s:PgS} {q k k':KS} {x y y':Pkt} {w wr w' w2:World}
theorem RunSt.ok (h:RunSt p s q x w wr k y):KOk wr k y:=(h.ap (fun _=>False) (fun _ hb=>hb.elim) h.q0.apart).ok
theorem RunSt.below (h:RunSt p s q x w wr k y) (hb:Bl wr w'):RunSt p s q x w w' k y:=
 ⟨h.q0,fun S hS ha=>(h.ap S hS ha).below hb,h.fits,h.rest,h.port,Bx.below h.box hb,h.prog.below hb,h.res.below hb,h.low.trans (hb.mono h.low.size)⟩
theorem RunSt.replace (h:RunSt p s q x w wr k y) (hb:Bl wr w') (hk:∀S:Nat->Prop,(∀ b,S b->b<wr.heap.size)->KApart wr S k y->KApart w' S k' y') (hlow:Below w.heap.size w' w2) (hoth:∀z,z≠w.heap.size+1->w2.heap[z]?=w'.heap[z]?) (hbox:YB w2 (w.heap.size+1) k' y') (hf:PktF p y') (hr:y'.rest=x.rest) (hp:y'.port=x.port):RunSt p s q x w w2 k' y':=by
 have hlt:=Bx.lt h.box;have hlr:=Bx.lt h.res;refine ⟨h.q0,fun S hS ha=>?_,hf,hr,hp,hbox,(hoth _ om).trans (h.prog.below hb),(hoth _ om).trans (h.res.below hb),(h.low.trans (hb.mono h.low.size)).trans hlow⟩;refine (hk _ (fun b hb2=>?_) (h.ap S hS ha)).step ⟨hlow.os,hlow.tape,hlow.output,hlow.size,fun b _ hne=>hoth b (fun e=>hne (.inr om))⟩;rcases hb2 with hb2|hb2
 ·have:=hS b hb2;omega
 have:=Bx.lt h.res;omega
theorem RunSt.put (h:RunSt p s q x w wr k y) {j:Nat} {v:Value} (hc:((kL k y.port y.dropped y.sent y.egress y.access):List Value).set j v=[.int .i64 y'.port, .slice k.rp k.rn k.rc, .slice k.vp k.vn k.vc, .slice k.fp k.fn k.fc, .slice k.mp k.mn k.mc, .bool y'.dropped, .bool y'.sent, .int .i64 y'.egress, .bool y'.access]) (h1:y'.rest=y.rest) (h2:y'.valid=y.valid) (h3:y'.fields=y.fields) (h4:y'.metas=y.metas) (h5:y'.port=y.port):RunSt p s q x w (wr.setCell ⟨w.heap.size+1,j,none⟩ v) k y':=
 h.replace br (fun S _ ha=>ha.rows h1 h2 h3 h4) (br.setCell (by show w.heap.size<=w.heap.size+1;omega) _) (fun z hz=>heap_setCell_other wr _ z v (by show z≠w.heap.size+1;exact hz)) (by
  have hp:=Bx.put h.box j v;rw[hc] at hp;exact hp) (h.fits.other h2 h3 h4) (h1.trans h.rest) (h5.trans h.port)
end
theorem ow {act:Int} (s:PgS) (p:Prg) (l:List Ent) (lp:Option Addr) (ln lc:Nat) (q:KS) (x:Pkt) (c:List Ist) (cp:Option Addr) (cn cc:Nat) (args:List Nat) (gp:Option Addr) (gn gc:Nat) (w:World) (hp:PgOk w s p) (hSm:Sm p) (hl:ERow w (.slice lp ln lc) l) (hq:KOk w q x) (hx:PktF p x) (hr:x.rest.length<=1000000) (hpo:0<=x.port/\x.port<=511)
 (hc:IstRow w (.slice cp cn cc) c) (hcl:∀i∈c,i.e.length<=6000) (hg:NRow w (.slice gp gn gc) args) (hm:aH p act c=true) (hW:WPos p) (hao:act<0->ApOk p l) (hap:act<0->∀(j:Nat) (q:KS) (x:Pkt) (c:List Ist) (cp:Option Addr) (cn cc:Nat) (args:List Nat) (gp:Option Addr) (gn gc:Nat) (W:World),Bl w W->KOk W q x->PktF p x->x.rest.length<=1000000->0<=x.port/\x.port<=511->IstRow W (.slice cp cn cc) c->(∀ i∈c,i.e.length<=6000)->NRow W (.slice gp gn gc) args->aH p j c=true->j<p.acts.length->args.length=(p.acts.getD j ⟨[],[]⟩).params.length->Calls Tryz.prog 10 #[cE s, .slice lp ln lc,kV q x.port x.dropped x.sent x.egress x.access, .slice cp cn cc, .slice gp gn gc] W fun e w'=>AnsY W q x w' (eM p l j args c x) e/\Bl W w')
 (hargs:0<=act->act<(p.acts.length:Int)->args.length=(p.acts.getD act.toNat ⟨[],[]⟩).params.length):
 Calls Tryz.prog 10 #[cE s, .slice lp ln lc,kV q x.port x.dropped x.sent x.egress x.access, .slice cp cn cc, .slice gp gn gc] w fun e w'=>AnsY w q x w' (eM p l act args c x) e/\Bl w w':=by
 obtain ⟨R,hR⟩:=nm (eM p l act args c x);rw[<- hR];have HR:Hd (R=bu p (fN p l act) args c 0 x):=hR;have HJ:Hd (gw c):=iu hm;have HMI:=hD (dU hm);have HP:=hD hp;have HSM:=hD hSm;have HL:=hD hl;have HC:=hD hc;have HCL:=hD hcl;have HN:Hd (cn=c.length):=hc.ln.1;have hcn6:cn<=65536:=by have:=hc.ln.1;have:=jx hm;omega
 have HG:=hD hg;have HPO:=hD hpo;have HRL:=hD hr;have HAR:=hD hargs;have HW:=hD hW;have HAO:=hD hao;have HAP:=hD hap;have HKQ:=hD hq;have HXF:=hD hx;clear hR hm hp hSm hl hc hcl hg hpo hr hargs hq hx hW hao hap;unfold cE kV at HAP⊢;go_enter Tryz.func10,Tryz.ntmps10;go_upto_region 1 with fail;obtain ⟨W0,hW0⟩:=nm (((w.alloc (.cells (pA s) 33)).alloc (.cells (kA q x.port x.dropped x.sent x.egress x.access) 40)).alloc (.cells zA 40));obtain ⟨z0,z1,z2,zb⟩:=Af _ _ _ W0 hW0;have HS0:Hd (RunSt p s q x w W0 q x):=⟨HKQ.o,fun S hS ha=>ha.more zb (fun b hb=>hb.imp id (fun e=>e.1)),HXF.o,rfl,rfl,z1,z0,z2,zb⟩;rw[<- hW0];clear hW0 z0 z1 z2 zb;go_wp2_with fail;go_loopw [11,12,13,14,15,16] (fun u11 u12 u13 u14 u15 u16 wr=>∃(a:Nat) (y:Pkt) (k:KS),a<=cn/\u11= .int .i64 a/\Hd (R=bu p (fN p l act) args c a y)/\Hd (RunSt p s q x w wr k y)) (fun u11 _ _ _ _ _ _=>cn-(intOf u11).toNat)
 case atStart=>exact ⟨0,x,q,zl,rfl,HR.o,HS0.o⟩
 case round=>
  obtain ⟨a,y,k,ha,rfl,HRA,HST⟩:=hrel;by_cases hlt:a<cn
  ·have hai:(a:Int)<(cn:Int):=om;have hac:a<c.length:=by have:=HN.o;omega
   obtain ⟨i,hi⟩:=nm (hQ c a);have hia:c[a]?=some i:=by rw[hi];exact i8 hac
   have HRS:Hd (R=bu p (fN p l act) args c (bB args y i a) (eW p (fN p l act) args y i)):=by show _=_;rw[HRA.o,jA HJ.o hac, <-hi]
   have HNG:Hd (a<bB args y i a/\bB args y i a<=c.length):=⟨by rw[hi];exact jy HJ.o args y hac,by rw[hi];exact qE HJ.o args y hac⟩;have him:=cX hia;have hmi:=HMI.o i him;obtain ⟨wk,hwk,hcode⟩:=eo hmi;obtain ⟨b,o,ep,en,ec,rfl,hb,y0,y1,y2,y3,y4,hye⟩:=IstRow.el (HC.o.below dP HST.o.low) hia;have HYC:Hd (∀ W,Bl wr W->Cl W b (o+a*5) (.int .u8 i.k)/\Cl W b (o+a*5+1) (.int .i64 i.a)/\Cl W b (o+a*5+2) (.int .i64 i.b)/\Cl W b (o+a*5+3) (.slice ep en ec)/\Cl W b (o+a*5+4) (.int .i64 i.to)):=fun W h=>⟨(h.cell (p:=⟨b,o+a*5,none⟩) hb).trans y0,(h.cell (p:=⟨b,o+a*5+1,none⟩) hb).trans y1,(h.cell (p:=⟨b,o+a*5+2,none⟩) hb).trans y2,(h.cell (p:=⟨b,o+a*5+3,none⟩) hb).trans y3,(h.cell (p:=⟨b,o+a*5+4,none⟩) hb).trans y4⟩
   have HEN:Hd (en=i.e.length):=hye.ln.1;have HYE:=hD hye;have HMX:=hD hmi;have HWK:=hD hwk;have HCO:=hD hcode;have HIM:=hD him;obtain ⟨ik,ia,ib,ie,it⟩:=i;dsimp only at y0 y1 y2 y3 y4 HYC HEN HYE HWK HCO;have hk:ik=1\/ik=2\/ik=3\/ik=4\/ik=5\/ik=6\/ik=7\/ik=8:=by
    exact Dl
   clear hi hia him hmi hwk hcode hb hye;rcases hk with rfl|rfl|rfl|rfl|rfl|rfl|rfl|rfl
   ·obtain ⟨va0,va,vb0,vbb,hwk1⟩:=jW HWK.o rfl;dsimp only at va0 va vb0 vbb hwk1;obtain ⟨hh,rfl⟩:∃z:Nat,ia=(z:Int):=⟨ia.toNat,om⟩;obtain ⟨ff,rfl⟩:∃z:Nat,ib=(z:Int):=⟨ib.toNat,om⟩;rw[Int.toNat_natCast] at vbb hwk1;rw[Int.toNat_natCast] at hwk1;have hwz:¬wk=0:=by
     have:=HW.o.at (i:=hh) (j:=ff) om om;omega
    have hxf:=HST.o.fits;have b1:=aA (l:=y.fields) (j:=hh) [] (by have:=hxf.f;omega);have b2:=aA (l:=y.valid) (j:=hh) false (by have:=hxf.v;omega);have b3:=hxf.fl hh _ b1;obtain ⟨yl,hyl⟩:=nm (y.fields.getD hh []);obtain ⟨vv,hvv⟩:=nm (y.valid.getD hh false);rw[<- hyl] at b1 b3;rw[<- hvv] at b2;have b4:ff<yl.length:=om;have HBF:Hd (y.fields[hh]?=some yl/\ff<yl.length/\y.valid[hh]?=some vv):=⟨b1,b4,b2⟩;clear va0 va vb0 vbb hwk1 hxf b1 b2 b3 b4 hyl hvv;have hdo:eW p (fN p l act) args y ⟨1,(hh:Int),(ff:Int),ie,it⟩=(gj p (aQ y ie) (hh:Int) (ff:Int) (ct y args ie)):=by unfold eW dw;rfl
    have hnx:bB args y ⟨1,(hh:Int),(ff:Int),ie,it⟩ a=a+1:=by unfold bB;rfl
    rw[hdo,hnx] at HRS;clear hdo hnx;have hen:0<en:=by
     exact Ca
    have hwd:∃z,aL p act ie=some z:=by
     exact Cc
    obtain ⟨wz,hwd⟩:=hwd;have hvB:ct y args ie<B*B:=cL (cI y args hwd);obtain ⟨n,hn⟩:=nm (ct y args ie);obtain ⟨ab,hab⟩:=nm (y.access||co y ie);obtain ⟨n0,hn0⟩:=nm ((n/B:Nat):Int);obtain ⟨n1,hn1⟩:=nm ((n%B:Nat):Int);have HNB:Hd (n<B*B/\n0=((n/B:Nat):Int)/\n1=((n%B:Nat):Int)/\n=ct y args ie/\(aQ y ie).access=ab):=⟨by rw[hn];exact hvB,hn0,hn1,hn,hab.symm⟩;have HVL:Hd (∀ W,Bl wr W->Calls Tryz.prog 22 #[.agg (kA k y.port y.dropped y.sent y.egress y.access), .slice ep en ec, .slice gp gn gc] W fun e w'=>fW n0 n1 (.agg (kA k y.port y.dropped y.sent y.egress ab)) e/\Bl W w'):=fun W h=>by
     have hv:=eH (p:=p) (act:=act) (args:=args) (w:=W) y.dropped y.sent y.access y.egress ⟨HST.o.ok.below h,HYE.o.below dE h,(HG.o.below aM HST.o.low).below aM h,HST.o.fits,by have:=HCL.o _ HIM.o;dsimp only at this;omega,by rw[HST.o.port];exact HPO.o,HAR.o⟩ hwd;rw[<- hab, <-hn] at hv;unfold AnsV jV at hv;rw[<- hn0, <-hn1] at hv;exact hv
    have heni:(0:Int)<(en:Int):=om;clear hen hwd hvB hn hab hn0 hn1 hwz;go_upto_region 6 with fail;obtain ⟨W1,hW1⟩:=nm ((wr.alloc (.cells #[.int .u8 1, .int .i64 (hh:Int), .int .i64 (ff:Int), .slice ep en ec, .int .i64 it] 75)).alloc (.cells #[.int .u64 0, .int .u64 0] 60));have HI1:Hd (IBox W1 (wr.heap.size) 1 (hh:Int) (ff:Int) ep en ec it):=by show _=_;rw[hW1,Below.heap_alloc _ _ _ sm];exact ag _ _
    have HA1:Hd (NB W1 (wr.heap.size+1) (.int .u64 0) (.int .u64 0)):=by
     show _=_;rw[hW1];exact xS _ _ _
    have HB1:Hd (Bl wr W1):=by show Below _ _ _;rw[hW1];exact (br.alloc lr _).alloc sm _
    rw[<- hW1];clear hW1 y0 y1 y2 y3 y4;have HS1:=hD (HST.o.below HB1.o);obtain ⟨i0,i1,i2,i3,i4⟩:=HI1.o.cells;have hbx:Bx W1 (w.heap.size+1) (kL k y.port y.dropped y.sent y.egress y.access):=HS1.o.box;obtain ⟨d0,d1,d2,d3,d4,d5,d6,d7,d8⟩:=Bx.c9 hbx;clear hbx;have hlt7:w.heap.size+1+1<wr.heap.size:=Bx.lt HST.o.res;go_upto_region 8 with (go_at_call 22;(with_reducible refine (HVL.o _ HB1.o).mono ?_);rintro e w2 ⟨he,hb2⟩;unfold fW at he;subst he;have HS2:=hD (HS1.o.below hb2);have HI2:Hd (IBox w2 (wr.heap.size) 1 (hh:Int) (ff:Int) ep en ec it):=HI1.o.below hb2;have HA2:=hD (HA1.o.below hb2);have HB2:=hD (HB1.o.trans (hb2.mono HB1.o.size));have hbx2:Bx w2 (w.heap.size+1) (kL k y.port y.dropped y.sent y.egress y.access):=HS2.o.box;obtain ⟨e0,e1,e2,e3,e4,e5,e6,e7,e8⟩:=hbx2.c9;obtain ⟨f0,f1,f2,f3,f4,f5,f6,f7,f8⟩:=hbx2.f9;have x0:=HA2.o.c0;have x1:=HA2.o.c1;have x2:=HA2.o.free 0;have x3:=HA2.o.free 1;clear hbx2 hb2);obtain ⟨W8,hW8⟩:=nm ((w2.setCell ⟨wr.heap.size+1,0,none⟩ (.int .u64 n0)).setCell ⟨wr.heap.size+1,1,none⟩ (.int .u64 n1));have hX8:Bx W8 (w.heap.size+1) (kL k y.port y.dropped y.sent y.egress y.access):=by rw[hW8];exact (Bx.other HS2.o.box om _).other om _
    have hA8:NB W8 (wr.heap.size+1) (.int .u64 n0) (.int .u64 n1):=by rw[hW8];exact HA2.o.put _ _
    have hI8:IBox W8 (wr.heap.size) 1 (hh:Int) (ff:Int) ep en ec it:=by rw[hW8];exact (heap_setCell_other _ _ _ _ (by show wr.heap.size≠wr.heap.size+1;omega)).trans ((heap_setCell_other w2 _ _ _ (by show wr.heap.size≠wr.heap.size+1;omega)).trans HI2.o)
    have hB8:Bl wr W8:=by rw[hW8];exact (HB2.o.setCell (by show wr.heap.size<=wr.heap.size+1;omega) _).setCell (by show wr.heap.size<=wr.heap.size+1;omega) _
    rw[<- hW8, <-bw];clear hW8 x0 x1 x2 x3 d0 e0 f0 d1 e1 f1 d2 e2 f2 d3 e3 f3 d4 e4 f4 d5 e5 f5 d6 e6 f6 d7 e7 f7 d8 e8 f8 i0 i1 i2 i3 i4;obtain ⟨W3,hW9,hX9,hO9,hB9,-⟩:=ni hX8 (kL k y.port y.dropped y.sent y.egress ab) rfl;rw[hW9];clear hW9;have hB9:=hB9 (w.heap.size) _ (Below.refl _ W8) om;have HA3:Hd (NB W3 (wr.heap.size+1) (.int .u64 n0) (.int .u64 n1)):=(hO9 _ om).trans hA8;have HI3:Hd (IBox W3 (wr.heap.size) 1 (hh:Int) (ff:Int) ep en ec it):=(hO9 _ om).trans hI8;have HS3:Hd (RunSt p s q x w W3 k (aQ y ie)):=HST.o.replace hB8 (fun S _ hka=>(hka.below hB8).rows rfl rfl rfl rfl) hB9 hO9 (by
     unfold YB;rw[HNB.o.2.2.2.2];exact hX9) (HST.o.fits.other rfl rfl rfl) HST.o.rest HST.o.port
    clear hX8 hA8 hI8 hB8 hX9 hO9 hB9;obtain ⟨i0,i1,i2,i3,i4⟩:=HI3.o.cells;have x0:=HA3.o.c0;have x1:=HA3.o.c1;have hbx:Bx W3 (w.heap.size+1) (kL k y.port y.dropped y.sent y.egress ab):=by
     exact CC
    obtain ⟨d0,d1,d2,d3,d4,d5,d6,d7,d8⟩:=Bx.c9 hbx;obtain ⟨p0,p1,p2,p3,p4,p5,p6,p7,p8,p9,p10,p11⟩:=HS3.o.prog.cells;have HSE:Hd (Calls Tryz.prog 23 #[.agg (pA s), .agg (kA k y.port y.dropped y.sent y.egress ab), .int .i64 (hh:Int), .int .i64 (ff:Int), .agg #[.int .u64 n0, .int .u64 n1]] W3 fun e w'=>qH y.port y.egress y.dropped y.sent (ab|| !vv) W3 k (aQ y ie) w' (if vv=true then { aQ y ie with fields:=y.fields.set hh (yl.set ff (n%2 ^ sh (kh p hh ff))) } else aQ y ie) e/\Bl W3 w'):=by
     have h:=uv s p k (aQ y ie) y.port y.egress y.dropped y.sent ab vv hh ff n yl W3 (HP.o.below HS3.o.low) HS3.o.ok HS3.o.fits (PktSm.of HS3.o.fits HSM.o (by rw[HS3.o.rest];exact HRL.o)) HBF.o.1 HBF.o.2.1 HBF.o.2.2 HNB.o.1;unfold cE kV jV at h;rw[<- HNB.o.2.1, <-HNB.o.2.2.1] at h;exact h
    clear hbx;go_upto_region 11 with (go_at_call 23;(with_reducible refine HSE.o.mono ?_);rintro e w5 ⟨⟨k2,he,hk2,hap2⟩,hb2⟩;subst he;unfold kV;have HAP2:=hD hap2;have HS5:=hD (HS3.o.below hb2);have HBB:=hD hb2;have hbx2:Bx w5 (w.heap.size+1) (kL k y.port y.dropped y.sent y.egress ab):=(by have h:=HS5.o.box;unfold YB at h;rw[HNB.o.2.2.2.2] at h;exact h);obtain ⟨e0,e1,e2,e3,e4,e5,e6,e7,e8⟩:=hbx2.c9;obtain ⟨f0,f1,f2,f3,f4,f5,f6,f7,f8⟩:=hbx2.f9;clear hb2 hap2 hk2 hbx2);rw[<- bw];have hbx2:Bx w5 (w.heap.size+1) (kL k y.port y.dropped y.sent y.egress ab):=(by have h:=HS5.o.box;unfold YB at h;rw[HNB.o.2.2.2.2] at h;exact h);obtain ⟨w4,hW9,hX4,hO4,hB4,-⟩:=ni hbx2 [.int .i64 y.port, .slice k2.rp k2.rn k2.rc, .slice k2.vp k2.vn k2.vc, .slice k2.fp k2.fn k2.fc, .slice k2.mp k2.mn k2.mc, .bool y.dropped, .bool y.sent, .int .i64 y.egress, .bool (ab|| !vv)] rfl;rw[hW9];clear hW9;have hB4:=hB4 (w.heap.size) _ (Below.refl _ w5) om;have HS6:Hd (RunSt p s q x w w4 k2 (gj p (aQ y ie) (hh:Int) (ff:Int) (ct y args ie))):=by
     obtain ⟨c1,c2,c3⟩:=HBF.o;have hac:=HNB.o.2.2.2.2;have hnn:=HNB.o.2.2.2.1;have hnb:=HNB.o.1;have hse:(gj p (aQ y ie) (hh:Int) (ff:Int) (ct y args ie))=if vv=true then { aQ y ie with fields:=y.fields.set hh (yl.set ff (n%2 ^ sh (kh p hh ff))) } else { aQ y ie with access:=true }:=by rw[hnn];exact sk (x:=aQ y ie) c1 c2 c3
     have hfit:PktF p (gj p (aQ y ie) (hh:Int) (ff:Int) (ct y args ie)):=nV HS3.o.fits _ _ _;rw[hse] at hfit⊢;cases vv
     ·refine HS3.o.replace HBB.o (fun S hS hka=>(HAP2.o S hS hka).rows rfl rfl rfl rfl) hB4 hO4 ?_ hfit HST.o.rest HST.o.port;have e1:(ab|| !false)=true:=by cases ab<;>rfl
      rw[e1] at hX4;exact hX4
     ·refine HS3.o.replace HBB.o (fun S hS hka=>(HAP2.o S hS hka).rows rfl rfl rfl rfl) hB4 hO4 ?_ hfit HST.o.rest HST.o.port;have e1:(ab|| !true)=ab:=by cases ab<;>rfl
      rw[e1, <-hac] at hX4;exact hX4
    clear hbx2 hX4 hO4 hB4 d0 d1 d2 d3 d4 d5 d6 d7 d8 e0 e1 e2 e3 e4 e5 e6 e7 e8 f0 f1 f2 f3 f4 f5 f6 f7 f8 p0 p1 p2 p3 p4 p5 p6 p7 p8 p9 p10 p11;go_wp2_with fail;go_roundw
    case rel=>exact ⟨a+1,_,k2,om,by go_num,HRS.o,HS6.o⟩
    case measure=>exact mz
   ·obtain ⟨va0,va,vb0,hwk1⟩:=i9 HWK.o rfl;dsimp only at va0 va vb0 hwk1;obtain ⟨jj,rfl⟩:∃z:Nat,ia=(z:Int):=⟨ia.toNat,om⟩;rw[Int.toNat_natCast] at hwk1;have hjm:=aA (l:=p.metas) (j:=jj) 0 om;have hwz:¬wk=0:=by
     have:=HW.o.metas _ (cX hjm);omega
    obtain ⟨wd,hwd9⟩:=nm (p.metas.getD jj 0);obtain ⟨mb,mo,hmps,hmb,z0⟩:=IRow.el HP.o.metas (j:=jj) om;rw[<- hwd9] at z0;have HMC:Hd (∀ W,Bl w W->Cl W mb (mo+jj) (.int .i64 wd)):=fun W hb=>(hb.cell (p:=⟨mb,mo+jj,none⟩) hmb).trans z0
    have HMPS:=hD hmps;have hjs:(jj:Int)<(s.mn:Int):=by have:=HP.o.metas.ln.1;omega
    have hjy:jj<y.metas.length:=by have:=HST.o.fits.m;omega
    have HJY:=hD hjy;have HWD:Hd (wd=p.metas.getD jj 0):=hwd9;clear va0 va vb0 hwk1 hjm hmps hmb z0 hwd9 hjy;have hdo:eW p (fN p l act) args y ⟨2,(jj:Int),ib,ie,it⟩={ aQ y ie with metas:=y.metas.set jj (ct y args ie%2 ^ sh wd) }:=by rw[HWD.o];unfold eW dw;rfl
    have hnx:bB args y ⟨2,(jj:Int),ib,ie,it⟩ a=a+1:=by unfold bB;rfl
    rw[hdo,hnx] at HRS;clear hdo hnx;have hen:0<en:=by
     exact Ca
    have hwd:∃z,aL p act ie=some z:=by
     exact Cc
    obtain ⟨wz,hwd⟩:=hwd;have hvB:ct y args ie<B*B:=cL (cI y args hwd);obtain ⟨n,hn⟩:=nm (ct y args ie);obtain ⟨ab,hab⟩:=nm (y.access||co y ie);obtain ⟨n0,hn0⟩:=nm ((n/B:Nat):Int);obtain ⟨n1,hn1⟩:=nm ((n%B:Nat):Int);have HNB:Hd (n<B*B/\n0=((n/B:Nat):Int)/\n1=((n%B:Nat):Int)/\n=ct y args ie/\(aQ y ie).access=ab):=⟨by rw[hn];exact hvB,hn0,hn1,hn,hab.symm⟩;have HVL:Hd (∀ W,Bl wr W->Calls Tryz.prog 22 #[.agg (kA k y.port y.dropped y.sent y.egress y.access), .slice ep en ec, .slice gp gn gc] W fun e w'=>fW n0 n1 (.agg (kA k y.port y.dropped y.sent y.egress ab)) e/\Bl W w'):=fun W h=>by
     have hv:=eH (p:=p) (act:=act) (args:=args) (w:=W) y.dropped y.sent y.access y.egress ⟨HST.o.ok.below h,HYE.o.below dE h,(HG.o.below aM HST.o.low).below aM h,HST.o.fits,by have:=HCL.o _ HIM.o;dsimp only at this;omega,by rw[HST.o.port];exact HPO.o,HAR.o⟩ hwd;rw[<- hab, <-hn] at hv;unfold AnsV jV at hv;rw[<- hn0, <-hn1] at hv;exact hv
    have heni:(0:Int)<(en:Int):=om;clear hen hwd hvB hn hab hn0 hn1 hwz;go_upto_region 6 with fail;obtain ⟨W1,hW1⟩:=nm ((wr.alloc (.cells #[.int .u8 2, .int .i64 (jj:Int), .int .i64 ib, .slice ep en ec, .int .i64 it] 75)).alloc (.cells #[.int .u64 0, .int .u64 0] 60));have HI1:Hd (IBox W1 (wr.heap.size) 2 (jj:Int) ib ep en ec it):=by show _=_;rw[hW1,Below.heap_alloc _ _ _ sm];exact ag _ _
    have HA1:Hd (NB W1 (wr.heap.size+1) (.int .u64 0) (.int .u64 0)):=by
     show _=_;rw[hW1];exact xS _ _ _
    have HB1:Hd (Bl wr W1):=by show Below _ _ _;rw[hW1];exact (br.alloc lr _).alloc sm _
    rw[<- hW1];clear hW1 y0 y1 y2 y3 y4;have HS1:=hD (HST.o.below HB1.o);obtain ⟨i0,i1,i2,i3,i4⟩:=HI1.o.cells;have hbx:Bx W1 (w.heap.size+1) (kL k y.port y.dropped y.sent y.egress y.access):=HS1.o.box;obtain ⟨d0,d1,d2,d3,d4,d5,d6,d7,d8⟩:=Bx.c9 hbx;clear hbx;have hlt7:w.heap.size+1+1<wr.heap.size:=Bx.lt HST.o.res;go_upto_region 8 with (go_at_call 22;(with_reducible refine (HVL.o _ HB1.o).mono ?_);rintro e w2 ⟨he,hb2⟩;unfold fW at he;subst he;have HS2:=hD (HS1.o.below hb2);have HI2:Hd (IBox w2 (wr.heap.size) 2 (jj:Int) ib ep en ec it):=HI1.o.below hb2;have HA2:=hD (HA1.o.below hb2);have HB2:=hD (HB1.o.trans (hb2.mono HB1.o.size));have hbx2:Bx w2 (w.heap.size+1) (kL k y.port y.dropped y.sent y.egress y.access):=HS2.o.box;obtain ⟨e0,e1,e2,e3,e4,e5,e6,e7,e8⟩:=hbx2.c9;obtain ⟨f0,f1,f2,f3,f4,f5,f6,f7,f8⟩:=hbx2.f9;have x0:=HA2.o.c0;have x1:=HA2.o.c1;have x2:=HA2.o.free 0;have x3:=HA2.o.free 1;clear hbx2 hb2);obtain ⟨W8,hW8⟩:=nm ((w2.setCell ⟨wr.heap.size+1,0,none⟩ (.int .u64 n0)).setCell ⟨wr.heap.size+1,1,none⟩ (.int .u64 n1));have hX8:Bx W8 (w.heap.size+1) (kL k y.port y.dropped y.sent y.egress y.access):=by rw[hW8];exact (Bx.other HS2.o.box om _).other om _
    have hA8:NB W8 (wr.heap.size+1) (.int .u64 n0) (.int .u64 n1):=by rw[hW8];exact HA2.o.put _ _
    have hI8:IBox W8 (wr.heap.size) 2 (jj:Int) ib ep en ec it:=by rw[hW8];exact (heap_setCell_other _ _ _ _ (by show wr.heap.size≠wr.heap.size+1;omega)).trans ((heap_setCell_other w2 _ _ _ (by show wr.heap.size≠wr.heap.size+1;omega)).trans HI2.o)
    have hB8:Bl wr W8:=by rw[hW8];exact (HB2.o.setCell (by show wr.heap.size<=wr.heap.size+1;omega) _).setCell (by show wr.heap.size<=wr.heap.size+1;omega) _
    rw[<- hW8, <-bw];clear hW8 x0 x1 x2 x3 d0 e0 f0 d1 e1 f1 d2 e2 f2 d3 e3 f3 d4 e4 f4 d5 e5 f5 d6 e6 f6 d7 e7 f7 d8 e8 f8 i0 i1 i2 i3 i4;obtain ⟨W3,hW9,hX9,hO9,hB9,-⟩:=ni hX8 (kL k y.port y.dropped y.sent y.egress ab) rfl;rw[hW9];clear hW9;have hB9:=hB9 (w.heap.size) _ (Below.refl _ W8) om;have HA3:Hd (NB W3 (wr.heap.size+1) (.int .u64 n0) (.int .u64 n1)):=(hO9 _ om).trans hA8;have HI3:Hd (IBox W3 (wr.heap.size) 2 (jj:Int) ib ep en ec it):=(hO9 _ om).trans hI8;have HS3:Hd (RunSt p s q x w W3 k (aQ y ie)):=HST.o.replace hB8 (fun S _ hka=>(hka.below hB8).rows rfl rfl rfl rfl) hB9 hO9 (by
     unfold YB;rw[HNB.o.2.2.2.2];exact hX9) (HST.o.fits.other rfl rfl rfl) HST.o.rest HST.o.port
    clear hX8 hA8 hI8 hB8 hX9 hO9 hB9;obtain ⟨i0,i1,i2,i3,i4⟩:=HI3.o.cells;have x0:=HA3.o.c0;have x1:=HA3.o.c1;obtain ⟨M,hM⟩:=nm (n%2 ^ sh wd);have hMB:M<B*B:=by rw[hM];exact Nat.lt_of_le_of_lt (Nat.mod_le _ _) HNB.o.1
    have hcut:=kx n HNB.o.1 wd;rw[<- hM] at hcut;rw[<- HNB.o.2.1, <-HNB.o.2.2.1] at hcut;rw[<- HNB.o.2.2.2.1, <-hM] at HRS;have HMB:=hD hMB;have HMF:Hd (bH M (p.metas.getD jj 0)=true):=by show _=_;rw[<- HWD.o,hM];exact jR n _
    obtain ⟨c0,hc0⟩:=nm ((M/B:Nat):Int);obtain ⟨c9,hc9⟩:=nm ((M%B:Nat):Int);rw[<- hc0, <-hc9] at hcut;have HCC:=hD (And.intro hc0 hc9);have HCut:=hD hcut;have hbx:Bx W3 (w.heap.size+1) (kL k y.port y.dropped y.sent y.egress ab):=by
     exact CC
    have HOW:=hD (iH k (aQ y ie) y.port y.egress y.dropped y.sent ab W3 HS3.o.ok (PktSm.of HS3.o.fits HSM.o (by rw[HS3.o.rest];exact HRL.o)));unfold kV at HOW;clear hM hMB hcut hc0 hc9;have hlt3:w.heap.size+1+1<W3.heap.size:=Bx.lt HS3.o.res;have hlt4:wr.heap.size+1<W3.heap.size:=by
     have:=HA3.o;exact (bV this).1
    obtain ⟨d0,d1,d2,d3,d4,d5,d6,d7,d8⟩:=Bx.c9 hbx;clear hbx;go_upto_region 13 with (go_at_call 7;(with_reducible refine HOW.o.mono ?_);rintro e w5 ⟨⟨r,v,f',m,fs,rfl,hO⟩,hb2⟩;obtain ⟨kk,rfl,rfl,rfl,rfl,-⟩:=hO.ks;have HO5:=hD hO;have HB5:=hD hb2;have HS5:=hD (HS3.o.below hb2);have hbx2:Bx w5 (w.heap.size+1) (kL k y.port y.dropped y.sent y.egress ab):=(by have h:=HS5.o.box;unfold YB at h;rw[HNB.o.2.2.2.2] at h;exact h);obtain ⟨e0,e1,e2,e3,e4,e5,e6,e7,e8⟩:=hbx2.c9;obtain ⟨f0,f1,f2,f3,f4,f5,f6,f7,f8⟩:=hbx2.f9;clear hb2 hbx2 hO);rw[<- bw];have hbx2:Bx w5 (w.heap.size+1) (kL k y.port y.dropped y.sent y.egress ab):=(by have h:=HS5.o.box;unfold YB at h;rw[HNB.o.2.2.2.2] at h;exact h);obtain ⟨W4,hW9,hX4,hO4,hB4,-⟩:=ni hbx2 (kL kk y.port y.dropped y.sent y.egress ab) rfl;rw[hW9];clear hW9;have hB4:=hB4 (w.heap.size) _ (Below.refl _ w5) om;have HX4:=hD hX4;have HLW:Hd (Bl w W4):=HS5.o.low.trans hB4;have HP4:Hd (PBox W4 (w.heap.size) s):=(hO4 _ om).trans HS5.o.prog;have HZ4:Hd (Bx W4 (w.heap.size+1+1) zL):=(hO4 _ om).trans HS5.o.res;have HA4:Hd (NB W4 (wr.heap.size+1) (.int .u64 n0) (.int .u64 n1)):=(hO4 _ om).trans (HA3.o.below HB5.o);have HI4:Hd (IBox W4 (wr.heap.size) 2 (jj:Int) ib ep en ec it):=(hO4 _ om).trans (HI3.o.below HB5.o);have HO4:Hd (PktO W3.heap.size W4 { aQ y ie with access:=ab } (.slice kk.rp kk.rn kk.rc) (.slice kk.vp kk.vn kk.vc) (.slice kk.fp kk.fn kk.fc) (.slice kk.mp kk.mn kk.mc) fs):=by
     have h:=HO5.o.far (w':=W4) (fun z h1 h2=>hO4 z om);exact ⟨h.hr,h.hv,h.hf,h.hfs,h.hm,h.nd⟩
    have hpb:PktB (w.heap.size+1) W4 (w.heap.size+1) { aQ y ie with access:=ab } (.slice kk.rp kk.rn kk.rc) (.slice kk.vp kk.vn kk.vc) (.slice kk.fp kk.fn kk.fc) (.slice kk.mp kk.mn kk.mc) fs:=
     (HO4.o.lower om).boxed hX4 lr fun z hz e=>by have:=HO4.o.blk z hz _ e;omega
    obtain ⟨ug,ucap,hu,-,hul,hux,hulc,-⟩:=hpb.setMeta (j:=jj) HJY.o HMB.o;have hug:W3.heap.size<=ug:=(aB HO4.o.hm.1 (by rw[hu];rfl)).1;have hmk:kk.mn=y.metas.length:=by
     have h:=hu;simp only[Value.slice.injEq] at h;exact h.2.1
    have HPB4:=hD hpb;have HMP:Hd (Value.slice kk.mp kk.mn kk.mc= .slice (some ⟨ug,0,none⟩) kk.mn ucap):=by
     show _=_;rw[hmk];have h:=hu;rw[hmk] at h;exact h
    have hjk:(jj:Int)<(kk.mn:Int):=by rw[hmk];have:=HJY.o;omega
    have hmc:(kk.mn:Int)<=(ucap:Int):=by rw[hmk];exact hulc
    have HUG:=hD (And.intro hug (And.intro hul hux));have HLT:=hD (And.intro hlt7 (And.intro hlt3 hlt4));clear hX4 hO4 hB4 hbx2 hpb hu hul hux hug hmk hulc d0 d1 d2 d3 d4 d5 d6 d7 d8 e0 e1 e2 e3 e4 e5 e6 e7 e8 f0 f1 f2 f3 f4 f5 f6 f7 f8 i0 i1 i2 i3 i4 x0 x1;refine eD kq (fun Wk=>Bl W4 Wk) (fun w1 w2 h1 h2=>h1.trans (h2.mono h1.size)) kq kq (Below.drew br) ?_;refine bC ?_ (fun aa ww ll hh=>?_) ?_;rotate_left
    ·have e7:=hh.oL 7;exact ov gX
    refine bC ?_ (fun aa ww ll hh=>?_) ?_;rotate_left
    ·have e56:=hh.gt 0 0;exact gI
    refine bC ?_ (fun aa ww ll hh=>?_) ?_;rotate_left
    ·have e12:=hh.oL 12;exact ov gX
    refine bC ?_ (fun aa ww ll hh=>?_) ?_;rotate_left
    ·have e58:=hh.gt 2 0;exact gI
    refine bC ?_ (fun aa ww ll hh=>?_) ?_;rotate_left
    ·have e13:=hh.oL 13;exact gI
    refine bC ?_ (fun aa ww ll hh=>?_) ?_;rotate_left
    ·have e5:=hh.oL 5;exact ov gX
    refine bC ?_ (fun aa ww ll hh=>?_) ?_;rotate_left
    ·have e61:=hh.gt 5 0;exact gI
    refine bC ?_ (fun aa ww ll hh=>?_) ?_;rotate_left
    ·have e12:=hh.oL 12;exact ov gX
    refine bC ?_ (fun aa ww ll hh=>?_) ?_;rotate_left
    ·have e63:=hh.gt 7 0;exact gI
    refine bC ?_ (fun aa ww ll hh=>?_) ?_;rotate_left
    ·have e62:=hh.gt 6 2;have e64:=hh.gt 8 0;exact ov gX
    refine bC ?_ (fun aa ww ll hh=>?_) ?_;rotate_left
    ·have e65:=hh.gt 9 0;exact gI
    refine ⟨.eq (.agg #[.int .u64 c0, .int .u64 c9]),trivial,rfl,fun aa ww ll hh=>?_,?_⟩
    ·have e60:=hh.gt 4 6;have e66:=hh.gt 10 0;have ef:=fQ aa;refine aE (aj rfl) ?_ (HCut.o ww);exact gX
    refine bC ?_ (fun aa ww ll hh=>?_) ?_;rotate_left
    ·have e57:=hh.gt 1 10;have e59:=hh.gt 3 8;exact ov gX
    intro ll w6 hS6 hok;clear hok;simp only[ly];refine ⟨(by first|trivial|rfl),?_⟩;have hpb6:=HPB4.o.below hS6;obtain ⟨ug2,ucap2,hu2,-,-,-,-,hfree,⟨k0,hk0⟩,⟨k1,hk1⟩,hpb7⟩:=hpb6.setMeta (j:=jj) HJY.o HMB.o;have hu3:=HMP.o.symm.trans hu2;simp only[Value.slice.injEq,Option.some.injEq,Addr.mk.injEq,and_true,true_and] at hu3;obtain ⟨rfl,-⟩:=hu3;rw[<- HCC.o.1, <-HCC.o.2] at hpb7;have g0:=hfree (jj*2);have g1:=hfree (jj*2+1);have HL6:=hD (HLW.o.trans (hS6.mono HLW.o.size));have HZ6:=hD (HZ4.o.below hS6);have HP6:=hD (HP4.o.below hS6);have HI6:=hD (show IBox w6 wr.heap.size 2 (jj:Int) ib ep en ec it from HI4.o.below hS6);clear hfree hpb6 hS6 hu2;unfold Oper.wp;go_simp;obtain ⟨W7,hW7⟩:=nm ((w6.setCell ⟨ug,jj*2,none⟩ (.int .u64 c0)).setCell ⟨ug,jj*2+1,none⟩ (.int .u64 c9));rw[<- hW7] at hpb7;have hO7:=hpb7.toO.raise fun z hz e he=>(HO4.o.blk z hz e he).1
    have hX7:=hpb7.st;have hZ7:Bx W7 (w.heap.size+1+1) zL:=by rw[hW7];exact (HZ6.o.other (by have:=HUG.o;have:=HLT.o;omega) _).other (by have:=HUG.o;have:=HLT.o;omega) _
    have hP7:PBox W7 (w.heap.size) s:=by rw[hW7];exact (heap_setCell_other _ _ _ _ (by show w.heap.size≠ug;have:=HUG.o;have:=HLT.o;omega)).trans ((heap_setCell_other w6 _ _ _ (by show w.heap.size≠ug;have:=HUG.o;have:=HLT.o;omega)).trans HP6.o)
    have hI7:IBox W7 (wr.heap.size) 2 (jj:Int) ib ep en ec it:=by rw[hW7];exact (heap_setCell_other _ _ _ _ (by show wr.heap.size≠ug;have:=HUG.o;have:=HLT.o;omega)).trans ((heap_setCell_other w6 _ _ _ (by show wr.heap.size≠ug;have:=HUG.o;have:=HLT.o;omega)).trans HI6.o)
    have hL7:Bl w W7:=by rw[hW7];exact (HL6.o.setCell (by show w.heap.size<=ug;have:=HUG.o;have:=HLT.o;omega) _).setCell (by show w.heap.size<=ug;have:=HUG.o;have:=HLT.o;omega) _
    rw[<- hW7];clear hW7 hk0 hk1 g0 g1;have HS7:Hd (RunSt p s q x w W7 kk { aQ y ie with metas:=y.metas.set jj M }):=by
     have hlt:=HLT.o;refine ⟨HKQ.o,fun S hS _=>hO7.apart (fun b hb=>?_) rfl rfl rfl rfl,HS3.o.fits.metas_set jj M HMF.o,HST.o.rest,HST.o.port,?_,hP7,hZ7,hL7⟩
     ·rcases hb with hb|hb
      ·have:=hS b hb;omega
      omega
     have hac:=HNB.o.2.2.2.2;have h:Bx W7 (w.heap.size+1) (kL kk y.port y.dropped y.sent y.egress ab):=hX7;rw[<- hac] at h;exact h
    clear hO7 hX7 hZ7 hP7 hL7 hpb7;obtain ⟨i0,i1,i2,i3,i4⟩:=hI7.cells;clear hI7;go_wp2_with fail;go_roundw
    case rel=>exact ⟨a+1,_,kk,om,by go_num,HRS.o,HS7.o⟩
    case measure=>exact mz
   ·obtain ⟨vact,va0,va,vb0,hwz⟩:=fF HWK.o rfl;dsimp only at va0 va vb0;obtain ⟨jj,rfl⟩:∃z:Nat,ia=(z:Int):=⟨ia.toNat,om⟩;have hjt:jj<p.tabs.length:=om;have hAO:=HAO.o vact;obtain ⟨T,hT⟩:=nm (dK p (jj:Int));have hTj:p.tabs[jj]?=some T:=by
     rw[hT];unfold dK;rw[Int.toNat_natCast];exact aA (l:=p.tabs) (j:=jj) _ hjt
    obtain ⟨tb,tq,kp,kn,kc,dp,dn,dc,htps,htb,t0,hk0,t3,t4,hd0⟩:=TblRow.el HP.o.tabs hTj;have HTC:Hd (∀ W,Bl w W->Cl W tb (tq+jj*5) (.slice kp kn kc)/\Cl W tb (tq+jj*5+3) (.int .i64 T.dact)/\Cl W tb (tq+jj*5+4) (.slice dp dn dc)):=fun W hb=>⟨(hb.cell (p:=⟨tb,tq+jj*5,none⟩) htb).trans t0,(hb.cell (p:=⟨tb,tq+jj*5+3,none⟩) htb).trans t3,(hb.cell (p:=⟨tb,tq+jj*5+4,none⟩) htb).trans t4⟩
    have HTPS:=hD htps;have hjs:(jj:Int)<(s.tn:Int):=by have:=HP.o.tabs.ln.1;omega
    obtain ⟨KSS,hKS⟩:=nm (ki y T.keys);obtain ⟨AA,hA⟩:=nm (jt l (jj:Int) KSS T.dact);obtain ⟨GG,hG⟩:=nm (lV l (jj:Int) KSS T.dargs);have hact:=hAO.act jj KSS hjt;rw[<- hT, <-hA, <-hG] at hact;obtain ⟨AN,rfl⟩:∃z:Nat,AA=(z:Int):=⟨AA.toNat,om⟩;obtain ⟨BD,hBD⟩:=nm ((cZ p (AN:Int)).body);have hAN:AN<p.acts.length:=om;have hbody:=hAO.body AN hAN;rw[<- hBD] at hbody;have hkeys:=hAO.keys jj hjt;rw[<- hT] at hkeys;obtain ⟨ab,hab⟩:=nm (y.access||T.keys.any (co y));obtain ⟨Y,hY⟩:=nm (eM p l (AN:Int) GG BD (dT y T.keys));have hdo:eW p (fN p l act) args y ⟨3,(jj:Int),ib,ie,it⟩=Y:=by
     rw[hY,hBD];unfold eW;rw[if_pos rfl];unfold fN;rw[if_pos vact];unfold eK;simp only;rw[<- hT, <-hKS, <-hA, <-hG];unfold eM nB bu fN;rw[if_neg om]
    have hnx:bB args y ⟨3,(jj:Int),ib,ie,it⟩ a=a+1:=by unfold bB;rfl
    have HRS2:Hd (R=bu p (fN p l act) args c (a+1) Y):=by show _=_;rw[HRS.o,hdo,hnx]
    have hall:=qw (p:=p) (act:=(AN:Int)) GG (c:=BD) hbody.1 (x:=dT y T.keys) y.egress (HST.o.fits.other rfl rfl rfl) (.inl rfl);have hYB:nB p GG BD (dT y T.keys)=Y:=by
     rw[hY];unfold eM nB bu fN;rw[if_neg om]
    rw[hYB] at hall;have HAL:Hd (PktF p Y/\Y.rest=y.rest/\Y.port=y.port):=⟨hall.1,hall.2.1.rest,hall.2.1.port⟩;obtain ⟨xb,xo,x1p,x1n,x1c,bp,bn,bc,haps,hxb,-,-,a4,hbd0⟩:=ActnRow.el HP.o.acts (j:=AN) hAN;have hBD2:(p.acts.getD AN ⟨[],[]⟩).body=BD:=by rw[hBD];unfold cZ;rw[Int.toNat_natCast]
    rw[hBD2] at hbd0;have HAC:Hd (∀ W,Bl w W->Cl W xb (xo+AN*2+1) (.slice bp bn bc)):=fun W hb=>(hb.cell (p:=⟨xb,xo+AN*2+1,none⟩) hxb).trans a4
    have HAPS:=hD haps;have has:(AN:Int)<(s.an:Int):=by have:=HP.o.acts.ln.1;omega
    have HKEY0:Hd (∀ W,Bl w W->KOk W k y->Calls Tryz.prog 12 #[.agg (kA k y.port y.dropped y.sent y.egress y.access), .slice kp kn kc] W fun e w'=>wE W.heap.size w' KSS (.agg (kA k y.port y.dropped y.sent y.egress ab)) e/\Bl W w'):=fun W hb hko=>by
     have h:=mB (p:=p) (x:=y) (q:=k) (w:=W) T.keys kp kn kc y.dropped y.sent y.access y.egress hko HST.o.fits (by rw[HST.o.port];exact HPO.o) (hk0.below eh hb) (by have:=hk0.ln.1;omega) (fun c hc=>by have:=hkeys.2.1 c hc;omega) hkeys.2.2;rw[<- hKS, <-hab] at h;exact h
    have HLK0:Hd (∀ (kv:Value) (W:World),Bl w W->NRow W kv KSS->Calls Tryz.prog 25 #[.slice lp ln lc, .int .i64 (jj:Int),kv, .agg #[.int .i64 T.dact, .slice dp dn dc]] W fun e w'=>∃v,e= .returned v/\(∃ u,v= .agg #[.int .i64 (AN:Int),u]/\NRow w' u GG)/\Bl W w'):=fun kv W hb hkv=>by
     refine (mD l (jj:Int) KSS T.dact T.dargs (.slice lp ln lc) kv (.slice dp dn dc) W (HL.o.below eN hb) hkv (hd0.below aM hb) hAO.few.1 hAO.few.2).mono ?_;rintro e w' ⟨a2,g2,v2,rfl,hl2,hn2,hb2⟩;obtain ⟨e1,e2⟩:=hl2.unique (sY l (jj:Int) KSS T.dact T.dargs);rw[<- hA] at e1;rw[<- hG] at e2;subst e1 e2;exact ⟨_,rfl,⟨v2,rfl,hn2⟩,hb2⟩
    have HAB:Hd ((dT y T.keys).access=ab):=hab.symm;have HNR0:Hd (∀ (u:Value) (W:World),Bl w W->KOk W k y->NRow W u GG->Calls Tryz.prog 10 #[.agg (pA s), .slice lp ln lc, .agg (kA k y.port y.dropped y.sent y.egress ab), .slice bp bn bc,u] W fun e w'=>AnsY W k (dT y T.keys) w' Y e/\Bl W w'):=fun u W hb hko hu=>by
     obtain ⟨up,uc,rfl,-⟩:=hu.shape;have h:=HAP.o vact AN k (dT y T.keys) BD bp bn bc GG up _ uc W hb (hko.rows rfl rfl rfl rfl) (HST.o.fits.other rfl rfl rfl) (by show y.rest.length<=_;rw[HST.o.rest];exact HRL.o) (by show 0<=y.port/\y.port<=_;rw[HST.o.port];exact HPO.o) (hbd0.below dP hb) hbody.2 hu hbody.1 hAN (by rw[hact.2.2];unfold cZ;rw[Int.toNat_natCast]);rw[HAB.o, <-hY] at h;exact h
    clear hjt hAO hTj htps htb t0 hk0 t3 t4 hd0 hact hbody hkeys hdo hnx hall hYB haps hxb a4 hbd0 hBD2 va0 va vb0 hab hY hKS hA hG hT hBD hAN HRS;have hen:en=0:=by
     exact AY
    subst hen;go_upto_region 6 with fail;obtain ⟨W1,hW1⟩:=nm ((wr.alloc (.cells #[.int .u8 3, .int .i64 (jj:Int), .int .i64 ib, .slice ep 0 ec, .int .i64 it] 75)).alloc (.cells #[.int .u64 0, .int .u64 0] 60));have HI1:Hd (IBox W1 wr.heap.size 3 (jj:Int) ib ep 0 ec it):=by show _=_;rw[hW1,Below.heap_alloc _ _ _ sm];exact ag _ _
    have HB1:Hd (Bl wr W1):=by show Below _ _ _;rw[hW1];exact (br.alloc lr _).alloc sm _
    rw[<- hW1];clear hW1 y0 y1 y2 y3 y4;have HS1:=hD (HST.o.below HB1.o);obtain ⟨i0,i1,i2,i3,i4⟩:=HI1.o.cells;have HKEY:Hd (∀ W,Bl W1 W->Calls Tryz.prog 12 #[.agg (kA k y.port y.dropped y.sent y.egress y.access), .slice kp kn kc] W fun e w'=>∃v,e= .returned v/\(∃ u,v= .tuple #[u, .agg (kA k y.port y.dropped y.sent y.egress ab)]/\NRow w' u KSS)/\AR W1.heap.size P0 (JP (kL k y.port y.dropped y.sent y.egress ab)) W w'):=fun W hb=>by
     refine (HKEY0.o W (HS1.o.low.trans (hb.mono HS1.o.low.size)) (HS1.o.ok.below hb)).mono ?_;rintro e w' ⟨⟨u,rfl,hu⟩,hb2⟩;exact ⟨_,rfl,⟨u,rfl,hu.row⟩,AR.of_below JP.below hb.size hb2⟩
    go_upto_region 15 with fail;clear i0 i1 i2 i3 i4;refine aR (AR W1.heap.size P0 (JP (kL k y.port y.dropped y.sent y.egress ab))) (AR.refl _ _ _) kq (fun W=>Bl W1 W) (fun _ _ h hr=>h.trans hr.low) kq (Below.drew br) ?_;refine sq (fun aa ww ll hh=>by have:=hh.oL 7;have hS1:=HS1.o.below hh.inv;have X4:Bx ww (w.heap.size+1) (kL k y.port y.dropped y.sent y.egress y.access):=hS1.box;obtain ⟨s0,s1,s2,s3,s4,s5,s6,s7,s8⟩:=X4.c9;have q4:=hS1.prog.cells.2.2.2.2.1;rw[HTPS.o] at q4;have y0:=(HTC.o ww (HS1.o.low.trans (hh.inv.mono HS1.o.low.size))).1;obtain ⟨i0,i1,i2,i3,i4⟩:=(show IBox ww wr.heap.size 3 (jj:Int) ib ep 0 ec it from HI1.o.below hh.inv).cells;clear X4 hS1;exact ov gX) ?_;refine sq (fun aa ww ll hh=>by have:=hh.oL 5;exact ov gX) ?_;refine sq (fun aa ww ll hh=>by have:=hh.gt 1 0;have hS1:=HS1.o.below hh.inv;have X4:Bx ww (w.heap.size+1) (kL k y.port y.dropped y.sent y.egress y.access):=hS1.box;obtain ⟨s0,s1,s2,s3,s4,s5,s6,s7,s8⟩:=X4.c9;have q4:=hS1.prog.cells.2.2.2.2.1;rw[HTPS.o] at q4;have y0:=(HTC.o ww (HS1.o.low.trans (hh.inv.mono HS1.o.low.size))).1;obtain ⟨i0,i1,i2,i3,i4⟩:=(show IBox ww wr.heap.size 3 (jj:Int) ib ep 0 ec it from HI1.o.below hh.inv).cells;clear X4 hS1;exact ov gX) ?_;refine sq (fun aa ww ll hh=>by have:=hh.oL 12;exact ov gX) ?_;refine sq (fun aa ww ll hh=>by have:=hh.gt 3 0;have hS1:=HS1.o.below hh.inv;have X4:Bx ww (w.heap.size+1) (kL k y.port y.dropped y.sent y.egress y.access):=hS1.box;obtain ⟨s0,s1,s2,s3,s4,s5,s6,s7,s8⟩:=X4.c9;have q4:=hS1.prog.cells.2.2.2.2.1;rw[HTPS.o] at q4;have y0:=(HTC.o ww (HS1.o.low.trans (hh.inv.mono HS1.o.low.size))).1;obtain ⟨i0,i1,i2,i3,i4⟩:=(show IBox ww wr.heap.size 3 (jj:Int) ib ep 0 ec it from HI1.o.below hh.inv).cells;clear X4 hS1;exact ov gX) ?_;refine sq (fun aa ww ll hh=>by have:=hh.gt 2 2;have:=hh.gt 4 0;exact ov gX) ?_;refine sq (fun aa ww ll hh=>by have:=hh.gt 5 0;exact ov gX) ?_;refine sq (fun aa ww ll hh=>by have:=hh.gt 6 0;have hS1:=HS1.o.below hh.inv;have X4:Bx ww (w.heap.size+1) (kL k y.port y.dropped y.sent y.egress y.access):=hS1.box;obtain ⟨s0,s1,s2,s3,s4,s5,s6,s7,s8⟩:=X4.c9;have q4:=hS1.prog.cells.2.2.2.2.1;rw[HTPS.o] at q4;have y0:=(HTC.o ww (HS1.o.low.trans (hh.inv.mono HS1.o.low.size))).1;obtain ⟨i0,i1,i2,i3,i4⟩:=(show IBox ww wr.heap.size 3 (jj:Int) ib ep 0 ec it from HI1.o.below hh.inv).cells;clear X4 hS1;exact ov gX) ?_;refine ⟨.rel (fun W v=>∃u,v= .tuple #[u, .agg (kA k y.port y.dropped y.sent y.egress ab)]/\NRow W u KSS),(fun W W' v ⟨u,h1,h2⟩ hr=>⟨u,h1,hr.nrow u _ h2⟩),rfl,fun aa ww ll hh=>?_,?_⟩
    ·have e72:=hh.gt 0 7;have e79:=hh.gt 7 0;have ef:=fQ aa;have HI:=hh.inv;refine du (aj rfl) ?_ (HKEY.o ww HI);try clear HI;exact gX
    refine ⟨.rel (fun W v=>∃u,v= .tuple #[u, .agg (kA k y.port y.dropped y.sent y.egress ab)]/\NRow W u KSS),(fun W W' v ⟨u,h1,h2⟩ hr=>⟨u,h1,hr.nrow u _ h2⟩),rfl,fun aa ww ll hh=>?_,?_⟩
    ·obtain ⟨x80,e80,-,p80⟩:=hh.got 8 0 kq rfl rfl rfl;refine dR (aj rfl) (w':=ww) (v:=x80) ?_ (AR.refl _ _ _ _) p80;exact fP (by first|exact .inl rfl|exact .inr rfl) e80
    refine ⟨.rel (fun W v=>NRow W v KSS),(fun W W' v h hr=>hr.nrow v _ h),rfl,fun aa ww ll hh=>?_,?_⟩
    ·obtain ⟨x71,e71,-,p71⟩:=hh.got 9 0 kq rfl rfl rfl;obtain ⟨u9,rfl,hu9⟩:=p71;refine dR (aj rfl) (w':=ww) (v:=u9) ?_ (AR.refl _ _ _ _) hu9;try clear hu9;exact gX
    refine ⟨.eq (.agg (kA k y.port y.dropped y.sent y.egress ab)),trivial,rfl,fun aa ww ll hh=>?_,?_⟩
    ·obtain ⟨x71,e71,-,p71⟩:=hh.got 9 1 kq rfl rfl rfl;obtain ⟨u9,rfl,-⟩:=p71;exact ov gX
    refine ⟨.rel (fun W v=>∃g:Nat,v= .pointer (some ⟨g,0,none⟩)/\W1.heap.size<=g/\(W.heap[g]?=some P0\/JP (kL k y.port y.dropped y.sent y.egress ab) W g)),(fun W W' v ⟨g,h1,h2,h3⟩ hr=>⟨g,h1,h2,hr.zz g h2 h3⟩),rfl,fun aa ww ll hh=>?_,?_⟩
    ·have hsz:=hh.inv.size;clear hh;refine dR (aj rfl) (w':=ww.alloc (.cells zA 40)) (v:= .pointer (some ⟨ww.heap.size,0,none⟩)) ?_ (AR.of_below JP.below hsz (br.alloc lr _)) ⟨_,rfl,hsz, .inl (ag _ _)⟩;go_simp;try rfl
    refine ⟨.rel (fun W v=>NRow W v KSS),(fun W W' v h hr=>hr.nrow v _ h),rfl,fun aa ww ll hh=>?_,?_⟩
    ·obtain ⟨x81,e81,-,p81⟩:=hh.got 10 2 kq rfl rfl rfl;refine dR (aj rfl) (w':=ww) (v:=x81) ?_ (AR.refl _ _ _ _) p81;exact fP (by first|exact .inl rfl|exact .inr rfl) e81
    refine ⟨.rell [12] (fun vs W _=>∃g:Nat,vs=[.pointer (some ⟨g,0,none⟩)]/\W1.heap.size<=g/\JP (kL k y.port y.dropped y.sent y.egress ab) W g),(fun vs W W' v ⟨g,h1,h2,h3⟩ hr=>⟨g,h1,h2,hr.p1 g h2 h3⟩),rfl,fun aa ww ll hh=>?_,?_⟩
    ·obtain ⟨x15,e15,-,p15⟩:=hh.got 12 1 kq rfl rfl rfl;have e82:=hh.gt 11 2;obtain ⟨z9,ez9,lz9,gg,rfl,h2,h3⟩:=hh.got 12 1 kq rfl rfl rfl;obtain ⟨cc9,hlen,hk⟩:=th rfl h3;obtain ⟨j0,j1,j2,j3,j4,j5,j6,j7,j8,rfl⟩:=sd hlen;obtain ⟨u0,u1,u2,u3,u4,u5,u6,u7,u8⟩:=hk.c9;obtain ⟨r0,r1,r2,r3,r4,r5,r6,r7,r8⟩:=hk.f9;have hs:=ux sm h2 h3;refine bk (aj rfl) (w':=bw ww gg (.int .i64 y.port) (.slice k.rp k.rn k.rc) (.slice k.vp k.vn k.vc) (.slice k.fp k.fn k.fc) (.slice k.mp k.mn k.mc) (.bool y.dropped) (.bool y.sent) (.int .i64 y.egress) (.bool ab)) ?_ hs.1 ⟨gg,by simp only[List.map_cons,List.map_nil,lz9],h2,hs.2⟩;rw[ez9] at e15;subst e15;have e15:=ez9;try clear p15;exact gX
    intro ll w2 hS2 hok;have p13:=hok 13 _ rfl;have p14:=hok 14 _ rfl;clear hok;simp only[ly];obtain ⟨g15,e15,b15,h15⟩:=p14;simp only[List.map_cons,List.map_nil,List.cons.injEq,and_true] at e15;rw[e15];have HS2:=hD (HS1.o.below hS2);have HI2:Hd (IBox w2 wr.heap.size 3 (jj:Int) ib ep 0 ec it):=HI1.o.below hS2;have HB2:=hD hS2;have HX2:Hd (Bx w2 g15 (kL k y.port y.dropped y.sent y.egress ab)):=h15;have HK2:=hD p13;generalize ll 13=kv at*;have HLK:Hd (∀ W,Bl w2 W->Calls Tryz.prog 25 #[.slice lp ln lc, .int .i64 (jj:Int),kv, .agg #[.int .i64 T.dact, .slice dp dn dc]] W fun e w'=>∃v,e= .returned v/\(∃ u,v= .agg #[.int .i64 (AN:Int),u]/\NRow w' u GG)/\AR w2.heap.size R0 (JR (AN:Int) GG) W w'):=fun W hb=>by
     refine (HLK0.o kv W (HS2.o.low.trans (hb.mono HS2.o.low.size)) (HK2.o.below aM hb)).mono ?_;rintro e w' ⟨v,rfl,hu,hb2⟩;exact ⟨_,rfl,hu,AR.of_below JR.below hb.size hb2⟩
    clear e15 h15 p13 hS2 b15;generalize ll 8=l8 at*;generalize ll 9=l9 at*;generalize ll 10=l10 at*;go_upto_region 16 with fail;refine aR (AR w2.heap.size R0 (JR (AN:Int) GG)) (AR.refl _ _ _) kq (fun W=>Bl w2 W) (fun _ _ h hr=>h.trans hr.low) kq (Below.drew br) ?_;refine sq (fun aa ww ll hh=>by exact ov (bg (hh.oL 1))) ?_;refine sq (fun aa ww ll hh=>by have:=hh.oL 12;exact ov gX) ?_;refine sq (fun aa ww ll hh=>by have:=hh.gt 1 0;have hS1:=HS2.o.below hh.inv;have q4:=hS1.prog.cells.2.2.2.2.1;rw[HTPS.o] at q4;obtain ⟨-,y3,y4⟩:=HTC.o ww (HS2.o.low.trans (hh.inv.mono HS2.o.low.size));obtain ⟨i0,i1,i2,i3,i4⟩:=(show IBox ww wr.heap.size 3 (jj:Int) ib ep 0 ec it from HI2.o.below hh.inv).cells;clear hS1;exact ov gX) ?_;refine sq (fun aa ww ll hh=>by exact ov (bg (hh.oL 14))) ?_;refine sq (fun aa ww ll hh=>by have:=hh.oL 5;exact ov gX) ?_;refine sq (fun aa ww ll hh=>by have:=hh.gt 4 0;have hS1:=HS2.o.below hh.inv;have q4:=hS1.prog.cells.2.2.2.2.1;rw[HTPS.o] at q4;obtain ⟨-,y3,y4⟩:=HTC.o ww (HS2.o.low.trans (hh.inv.mono HS2.o.low.size));obtain ⟨i0,i1,i2,i3,i4⟩:=(show IBox ww wr.heap.size 3 (jj:Int) ib ep 0 ec it from HI2.o.below hh.inv).cells;clear hS1;exact ov gX) ?_;refine sq (fun aa ww ll hh=>by have:=hh.oL 12;exact ov gX) ?_;refine sq (fun aa ww ll hh=>by have:=hh.gt 6 0;have hS1:=HS2.o.below hh.inv;have q4:=hS1.prog.cells.2.2.2.2.1;rw[HTPS.o] at q4;obtain ⟨-,y3,y4⟩:=HTC.o ww (HS2.o.low.trans (hh.inv.mono HS2.o.low.size));obtain ⟨i0,i1,i2,i3,i4⟩:=(show IBox ww wr.heap.size 3 (jj:Int) ib ep 0 ec it from HI2.o.below hh.inv).cells;clear hS1;exact ov gX) ?_;refine sq (fun aa ww ll hh=>by have:=hh.gt 5 2;have:=hh.gt 7 0;exact ov gX) ?_;refine sq (fun aa ww ll hh=>by have:=hh.gt 8 0;exact ov gX) ?_;refine sq (fun aa ww ll hh=>by have:=hh.gt 9 0;have hS1:=HS2.o.below hh.inv;have q4:=hS1.prog.cells.2.2.2.2.1;rw[HTPS.o] at q4;obtain ⟨-,y3,y4⟩:=HTC.o ww (HS2.o.low.trans (hh.inv.mono HS2.o.low.size));obtain ⟨i0,i1,i2,i3,i4⟩:=(show IBox ww wr.heap.size 3 (jj:Int) ib ep 0 ec it from HI2.o.below hh.inv).cells;clear hS1;exact ov gX) ?_;refine ⟨.rel (fun W v=>∃u,v= .agg #[.int .i64 (AN:Int),u]/\NRow W u GG),(fun W W' v ⟨u,h1,h2⟩ hr=>⟨u,h1,hr.nrow u _ h2⟩),rfl,fun aa ww ll hh=>?_,?_⟩
    ·have e83:=hh.gt 0 10;have e85:=hh.gt 2 8;have e86:=hh.gt 3 7;have e93:=hh.gt 10 0;have ef:=fQ aa;have HI:=hh.inv;refine du (aj rfl) ?_ (HLK.o ww HI);try clear HI;exact gX
    refine ⟨.rel (fun W v=>∃g:Nat,v= .pointer (some ⟨g,0,none⟩)/\w2.heap.size<=g/\(W.heap[g]?=some R0\/JR (AN:Int) GG W g)),(fun W W' v ⟨g,h1,h2,h3⟩ hr=>⟨g,h1,h2,hr.zz g h2 h3⟩),rfl,fun aa ww ll hh=>?_,?_⟩
    ·have hsz:=hh.inv.size;clear hh;refine dR (aj rfl) (w':=ww.alloc (.cells #[.int .i64 0, .slice none 0 0] 52)) (v:= .pointer (some ⟨ww.heap.size,0,none⟩)) ?_ (AR.of_below JR.below hsz (br.alloc lr _)) ⟨_,rfl,hsz, .inl (ag _ _)⟩;go_simp;try rfl
    refine ⟨.rell [12] (fun vs W _=>∃g:Nat,vs=[.pointer (some ⟨g,0,none⟩)]/\w2.heap.size<=g/\JR (AN:Int) GG W g),(fun vs W W' v ⟨g,h1,h2,h3⟩ hr=>⟨g,h1,h2,hr.p1 g h2 h3⟩),rfl,fun aa ww ll hh=>?_,?_⟩
    ·obtain ⟨x16,e16,-,p16⟩:=hh.got 12 0 kq rfl rfl rfl;obtain ⟨x94,e94,-,p94⟩:=hh.got 11 1 kq rfl rfl rfl;obtain ⟨z9,ez9,lz9,gg,rfl,h2,h3⟩:=hh.got 12 0 kq rfl rfl rfl;obtain ⟨u9,rfl,hu9⟩:=p94;obtain ⟨up9,uc9,hue9,-⟩:=RowAt.shape hu9;subst hue9;obtain ⟨rx,ry,hk,-⟩:=mE h3;obtain ⟨u0,u1,u2,u3⟩:=iw hk;have hs:=Ae hu9 h2 h3;refine bk (aj rfl) (w':=(ww.setCell ⟨gg,0,none⟩ (.int .i64 (AN:Int))).setCell ⟨gg,1,none⟩ (.slice up9 GG.length uc9)) ?_ hs.1 ⟨gg,by simp only[List.map_cons,List.map_nil,lz9],h2,hs.2⟩;rw[ez9] at e16;subst e16;have e16:=ez9;try clear hu9;exact gX
    intro ll w6 hS6 hok;have p13:=hok 13 _ rfl;clear hok;simp only[ly];obtain ⟨g16,e16,b16,u16',h16,hn16⟩:=p13;obtain ⟨up16,uc16,hue16,-⟩:=RowAt.shape hn16;subst hue16;simp only[List.map_cons,List.map_nil,List.cons.injEq,and_true] at e16;rw[e16];have HS6:=hD (HS2.o.below hS6);have HI6:Hd (IBox w6 wr.heap.size 3 (jj:Int) ib ep 0 ec it):=HI2.o.below hS6;have HB6:=hD (HB2.o.trans (hS6.mono HB2.o.size));have HX6:Hd (Bx w6 g15 (kL k y.port y.dropped y.sent y.egress ab)):=HX2.o.below hS6;have HR6:=hD h16;have HN6:=hD hn16;have HNR:Hd (∀ W,Bl w6 W->Calls Tryz.prog 10 #[.agg #[.slice s.hp s.hn s.hc, .slice s.mp s.mn s.mc, .slice s.sp s.sn s.sc, .slice s.ap s.an s.ac, .slice s.tp s.tn s.tc, .slice s.cp s.cn s.cc, .slice s.ep s.en s.ec, .slice s.v1 s.n1 s.c1, .slice s.v2 s.n2 s.c2, .slice s.v3 s.n3 s.c3, .slice s.v4 s.n4 s.c4, .slice s.v5 s.n5 s.c5], .slice lp ln lc, .agg #[.int .i64 y.port, .slice k.rp k.rn k.rc, .slice k.vp k.vn k.vc, .slice k.fp k.fn k.fc, .slice k.mp k.mn k.mc, .bool y.dropped, .bool y.sent, .int .i64 y.egress, .bool ab], .slice bp bn bc, .slice up16 GG.length uc16] W fun e w'=>∃v,e= .returned v/\(∃ k2:KS,v= .agg #[.int .i64 Y.port, .slice k2.rp k2.rn k2.rc, .slice k2.vp k2.vn k2.vc, .slice k2.fp k2.fn k2.fc, .slice k2.mp k2.mn k2.mc, .bool Y.dropped, .bool Y.sent, .int .i64 Y.egress, .bool Y.access]/\Bh W1 k y w' k2 Y)/\Bl W w'):=fun W hb=>by
     have hb1:=HB6.o.trans (hb.mono HB6.o.size);refine (HNR0.o (.slice up16 GG.length uc16) W (HS6.o.low.trans (hb.mono HS6.o.low.size)) (HS1.o.ok.below hb1) (HN6.o.below aM hb)).mono ?_;rintro e w' ⟨⟨k2,rfl,-,hap2⟩,hb2⟩;exact ⟨_,rfl,⟨k2,rfl,fun S hS hka=>hap2 S (fun b hb3=>Nat.lt_of_lt_of_le (hS b hb3) hb1.size) ((hka.below hb1).rows rfl rfl rfl rfl)⟩,hb2⟩
    clear e16 h16 hn16 hS6 b16;generalize ll 11=l11 at*;rw[HAPS.o] at HNR;go_upto_region 17 with fail;refine eD kq (fun Wk=>Bl w6 Wk) (fun w1 w2 h1 h2=>h1.trans (h2.mono h1.size)) kq kq (Below.drew br) ?_;refine bC ?_ (fun aa ww ll hh=>?_) ?_;rotate_left
    ·have e5:=hh.oL 5;exact gK
    refine bC ?_ (fun aa ww ll hh=>?_) ?_;rotate_left
    ·have e1:=hh.oL 1;refine ov ?_;rw[bg e1]
    refine bC ?_ (fun aa ww ll hh=>?_) ?_;rotate_left
    ·have e15:=hh.oL 15;exact gK
    refine bC ?_ (fun aa ww ll hh=>?_) ?_;rotate_left
    ·have e5:=hh.oL 5;exact ov gX
    refine bC ?_ (fun aa ww ll hh=>?_) ?_;rotate_left
    ·have e98:=hh.gt 3 0;exact gK
    refine bC ?_ (fun aa ww ll hh=>?_) ?_;rotate_left
    ·have e16:=hh.oL 16;exact ov gX
    refine bC ?_ (fun aa ww ll hh=>?_) ?_;rotate_left
    ·have e100:=hh.gt 5 0;exact gK
    refine bC ?_ (fun aa ww ll hh=>?_) ?_;rotate_left
    ·have e99:=hh.gt 4 2;have e101:=hh.gt 6 0;exact ov gX
    refine bC ?_ (fun aa ww ll hh=>?_) ?_;rotate_left
    ·have e102:=hh.gt 7 0;exact ov gX
    refine bC ?_ (fun aa ww ll hh=>?_) ?_;rotate_left
    ·have e103:=hh.gt 8 0;exact gK
    refine bC ?_ (fun aa ww ll hh=>?_) ?_;rotate_left
    ·have e16:=hh.oL 16;exact ov gX
    refine bC ?_ (fun aa ww ll hh=>?_) ?_;rotate_left
    ·have e105:=hh.gt 10 0;exact gK
    refine ⟨.rel (fun W v=>∃k2:KS,v= .agg (kA k2 Y.port Y.dropped Y.sent Y.egress Y.access)/\Bh W1 k y W k2 Y),(fun W W' v ⟨k2,h1,h2⟩ hr=>⟨k2,h1,fun S hS hka=>(h2 S hS hka).below hr⟩),rfl,fun aa ww ll hh=>?_,?_⟩
    ·have e95:=hh.gt 0 11;have e96:=hh.gt 1 10;have e97:=hh.gt 2 9;have e104:=hh.gt 9 2;have e106:=hh.gt 11 0;have ef:=fQ aa;have HI:=hh.inv;refine du (aj rfl) ?_ (HNR.o ww HI);try clear HI;exact gX
     try exact HAPS.o.symm
    intro ll w7 hS7 hok;have p12:=hok 12 _ rfl;clear hok;simp only[ly];refine ⟨(by first|trivial|rfl),?_⟩;obtain ⟨k2,e12,hap2⟩:=p12;rw[e12];have HS7:=hD (HS6.o.below hS7);have HI7:Hd (IBox w7 wr.heap.size 3 (jj:Int) ib ep 0 ec it):=HI6.o.below hS7;have HB7:=hD (HB6.o.trans (hS7.mono HB6.o.size));have HAP7:=hD hap2;have hbx7:Bx w7 (w.heap.size+1) (kL k y.port y.dropped y.sent y.egress y.access):=HS7.o.box;obtain ⟨e0,e1,e2,e3,e4,e5,e6,e7,e8⟩:=Bx.c9 hbx7;have f0:=Bx.free hbx7 0;have f1:=Bx.free hbx7 1;have f2:=Bx.free hbx7 2;have f3:=Bx.free hbx7 3;have f4:=Bx.free hbx7 4;have f5:=Bx.free hbx7 5;have f6:=Bx.free hbx7 6;have f7:=Bx.free hbx7 7;have f8:=Bx.free hbx7 8;clear hap2 hS7 e12;unfold Oper.wp;go_simp;rw[<- bw];obtain ⟨w9,hW9,hX4,hO4,hB4,-⟩:=ni hbx7 (kL k2 Y.port Y.dropped Y.sent Y.egress Y.access) rfl;rw[hW9];clear hW9;have hB4:=hB4 (w.heap.size) _ (Below.refl _ w7) om;have HS9:Hd (RunSt p s q x w w9 k2 Y):=HS1.o.replace HB7.o HAP7.o hB4 hO4 hX4 HAL.o.1 (HAL.o.2.1.trans HST.o.rest) (HAL.o.2.2.trans HST.o.port);have hlt7:w.heap.size+1+1<wr.heap.size:=Bx.lt HST.o.res;obtain ⟨i0,i1,i2,i3,i4⟩:=(show IBox w9 wr.heap.size 3 (jj:Int) ib ep 0 ec it from (hO4 _ om).trans HI7.o).cells;clear hX4 hO4 hB4 hbx7 e0 e1 e2 e3 e4 e5 e6 e7 e8 f0 f1 f2 f3 f4 f5 f6 f7 f8;go_wp2_with fail;go_roundw
    case rel=>exact ⟨a+1,_,k2,om,by go_num,HRS2.o,HS9.o⟩
    case measure=>exact mz
   ·have hwz:wk=0:=ou HWK.o (.inr (.inl rfl));have hdo:eW p (fN p l act) args y ⟨4,ia,ib,ie,it⟩={ y with dropped:=true }:=by unfold eW dw;rfl
    have hnx:bB args y ⟨4,ia,ib,ie,it⟩ a=a+1:=by unfold bB;rfl
    have HRS2:Hd (R=bu p (fN p l act) args c (a+1) ({ y with dropped:=true })):=by show _=_;rw[HRS.o,hdo,hnx]
    have HNG2:Hd (a<a+1/\a+1<=c.length):=by show _/\_;rw[<- hnx];exact HNG.o
    clear hdo hnx;have hen:en=0:=by
     exact AY
    subst hen;go_upto_region 6 with fail;obtain ⟨W1,hW1⟩:=nm ((wr.alloc (.cells #[.int .u8 4, .int .i64 ia, .int .i64 ib, .slice ep 0 ec, .int .i64 it] 75)).alloc (.cells #[.int .u64 0, .int .u64 0] 60));have HI1:Hd (IBox W1 wr.heap.size 4 ia ib ep 0 ec it):=by show _=_;rw[hW1,Below.heap_alloc _ _ _ sm];exact ag _ _
    have HB1:Hd (Bl wr W1):=by show Below _ _ _;rw[hW1];exact (br.alloc lr _).alloc sm _
    rw[<- hW1];clear hW1 y0 y1 y2 y3 y4;have HS1:=hD (HST.o.below HB1.o);obtain ⟨i0,i1,i2,i3,i4⟩:=HI1.o.cells;have hbx:Bx W1 (w.heap.size+1) (kL k y.port y.dropped y.sent y.egress y.access):=HS1.o.box;have a5:=hbx.cell (i:=5) rfl;have f5:=hbx.free 5;clear hbx;go_wp2_with fail;have HS2:=hD (HS1.o.put (j:=5) (v:= .bool true) (y':={ y with dropped:=true }) rfl rfl rfl rfl rfl rfl);go_roundw
    case rel=>exact ⟨a+1,_,k,om,by go_num,HRS2.o,HS2.o⟩
    case measure=>exact mz
   ·have hw9:wk=9:=iF HWK.o rfl;have hwz:¬wk=0:=om;have hdo:eW p (fN p l act) args y ⟨5,ia,ib,ie,it⟩={ aQ y ie with egress:=(ct y args ie:Nat),sent:=true,dropped:=false }:=by unfold eW dw;rfl
    have hnx:bB args y ⟨5,ia,ib,ie,it⟩ a=a+1:=by unfold bB;rfl
    rw[hdo,hnx] at HRS;clear hdo hnx;have hev:ct y args ie<512:=by
     rcases HCO.o with ⟨h2,-⟩|⟨-,h2⟩
     ·omega
     have:=cI y args h2;rw[hw9] at this;exact this
    have HEV:=hD hev;clear hev hw9;have hen:0<en:=by
     exact Ca
    have hwd:∃z,aL p act ie=some z:=by
     exact Cc
    obtain ⟨wz,hwd⟩:=hwd;have hvB:ct y args ie<B*B:=cL (cI y args hwd);obtain ⟨n,hn⟩:=nm (ct y args ie);obtain ⟨ab,hab⟩:=nm (y.access||co y ie);obtain ⟨n0,hn0⟩:=nm ((n/B:Nat):Int);obtain ⟨n1,hn1⟩:=nm ((n%B:Nat):Int);have HNB:Hd (n<B*B/\n0=((n/B:Nat):Int)/\n1=((n%B:Nat):Int)/\n=ct y args ie/\(aQ y ie).access=ab):=⟨by rw[hn];exact hvB,hn0,hn1,hn,hab.symm⟩;have HVL:Hd (∀ W,Bl wr W->Calls Tryz.prog 22 #[.agg (kA k y.port y.dropped y.sent y.egress y.access), .slice ep en ec, .slice gp gn gc] W fun e w'=>fW n0 n1 (.agg (kA k y.port y.dropped y.sent y.egress ab)) e/\Bl W w'):=fun W h=>by
     have hv:=eH (p:=p) (act:=act) (args:=args) (w:=W) y.dropped y.sent y.access y.egress ⟨HST.o.ok.below h,HYE.o.below dE h,(HG.o.below aM HST.o.low).below aM h,HST.o.fits,by have:=HCL.o _ HIM.o;dsimp only at this;omega,by rw[HST.o.port];exact HPO.o,HAR.o⟩ hwd;rw[<- hab, <-hn] at hv;unfold AnsV jV at hv;rw[<- hn0, <-hn1] at hv;exact hv
    have heni:(0:Int)<(en:Int):=om;clear hen hwd hvB hn hab hn0 hn1 hwz;go_upto_region 6 with fail;obtain ⟨W1,hW1⟩:=nm ((wr.alloc (.cells #[.int .u8 5, .int .i64 ia, .int .i64 ib, .slice ep en ec, .int .i64 it] 75)).alloc (.cells #[.int .u64 0, .int .u64 0] 60));have HI1:Hd (IBox W1 (wr.heap.size) 5 ia ib ep en ec it):=by show _=_;rw[hW1,Below.heap_alloc _ _ _ sm];exact ag _ _
    have HA1:Hd (NB W1 (wr.heap.size+1) (.int .u64 0) (.int .u64 0)):=by
     show _=_;rw[hW1];exact xS _ _ _
    have HB1:Hd (Bl wr W1):=by show Below _ _ _;rw[hW1];exact (br.alloc lr _).alloc sm _
    rw[<- hW1];clear hW1 y0 y1 y2 y3 y4;have HS1:=hD (HST.o.below HB1.o);obtain ⟨i0,i1,i2,i3,i4⟩:=HI1.o.cells;have hbx:Bx W1 (w.heap.size+1) (kL k y.port y.dropped y.sent y.egress y.access):=HS1.o.box;obtain ⟨d0,d1,d2,d3,d4,d5,d6,d7,d8⟩:=Bx.c9 hbx;clear hbx;have hlt7:w.heap.size+1+1<wr.heap.size:=Bx.lt HST.o.res;go_upto_region 8 with (go_at_call 22;(with_reducible refine (HVL.o _ HB1.o).mono ?_);rintro e w2 ⟨he,hb2⟩;unfold fW at he;subst he;have HS2:=hD (HS1.o.below hb2);have HI2:Hd (IBox w2 (wr.heap.size) 5 ia ib ep en ec it):=HI1.o.below hb2;have HA2:=hD (HA1.o.below hb2);have HB2:=hD (HB1.o.trans (hb2.mono HB1.o.size));have hbx2:Bx w2 (w.heap.size+1) (kL k y.port y.dropped y.sent y.egress y.access):=HS2.o.box;obtain ⟨e0,e1,e2,e3,e4,e5,e6,e7,e8⟩:=hbx2.c9;obtain ⟨f0,f1,f2,f3,f4,f5,f6,f7,f8⟩:=hbx2.f9;have x0:=HA2.o.c0;have x1:=HA2.o.c1;have x2:=HA2.o.free 0;have x3:=HA2.o.free 1;clear hbx2 hb2);obtain ⟨W8,hW8⟩:=nm ((w2.setCell ⟨wr.heap.size+1,0,none⟩ (.int .u64 n0)).setCell ⟨wr.heap.size+1,1,none⟩ (.int .u64 n1));have hX8:Bx W8 (w.heap.size+1) (kL k y.port y.dropped y.sent y.egress y.access):=by rw[hW8];exact (Bx.other HS2.o.box om _).other om _
    have hA8:NB W8 (wr.heap.size+1) (.int .u64 n0) (.int .u64 n1):=by rw[hW8];exact HA2.o.put _ _
    have hI8:IBox W8 (wr.heap.size) 5 ia ib ep en ec it:=by rw[hW8];exact (heap_setCell_other _ _ _ _ (by show wr.heap.size≠wr.heap.size+1;omega)).trans ((heap_setCell_other w2 _ _ _ (by show wr.heap.size≠wr.heap.size+1;omega)).trans HI2.o)
    have hB8:Bl wr W8:=by rw[hW8];exact (HB2.o.setCell (by show wr.heap.size<=wr.heap.size+1;omega) _).setCell (by show wr.heap.size<=wr.heap.size+1;omega) _
    rw[<- hW8, <-bw];clear hW8 x0 x1 x2 x3 d0 e0 f0 d1 e1 f1 d2 e2 f2 d3 e3 f3 d4 e4 f4 d5 e5 f5 d6 e6 f6 d7 e7 f7 d8 e8 f8 i0 i1 i2 i3 i4;obtain ⟨W3,hW9,hX9,hO9,hB9,-⟩:=ni hX8 (kL k y.port y.dropped y.sent y.egress ab) rfl;rw[hW9];clear hW9;have hB9:=hB9 (w.heap.size) _ (Below.refl _ W8) om;have HA3:Hd (NB W3 (wr.heap.size+1) (.int .u64 n0) (.int .u64 n1)):=(hO9 _ om).trans hA8;have HI3:Hd (IBox W3 (wr.heap.size) 5 ia ib ep en ec it):=(hO9 _ om).trans hI8;have HS3:Hd (RunSt p s q x w W3 k (aQ y ie)):=HST.o.replace hB8 (fun S _ hka=>(hka.below hB8).rows rfl rfl rfl rfl) hB9 hO9 (by
     unfold YB;rw[HNB.o.2.2.2.2];exact hX9) (HST.o.fits.other rfl rfl rfl) HST.o.rest HST.o.port
    clear hX8 hA8 hI8 hB8 hX9 hO9 hB9;obtain ⟨i0,i1,i2,i3,i4⟩:=HI3.o.cells;have x0:=HA3.o.c0;have x1:=HA3.o.c1;have hm5:∃m:Nat,n1=(m:Int)/\m<512/\ct y args ie=m:=by
     obtain ⟨-,-,h2,h3,-⟩:=HNB.o;have h4:=HEV.o;refine ⟨n,?_,om,h3.symm⟩;rw[h2,Nat.mod_eq_of_lt (by rw[h3];unfold B;omega)]
    obtain ⟨m,rfl,hm,hev⟩:=hm5;rw[hev] at HRS;clear hev;have hcv:IntKind.i64.wrap (m:Int)=(m:Int):=by rw[IntKind.wrap_i64];omega
    have hbx:Bx W3 (w.heap.size+1) (kL k y.port y.dropped y.sent y.egress ab):=by
     exact CC
    have a5:=hbx.cell (i:=5) rfl;have a6:=hbx.cell (i:=6) rfl;have a7:=hbx.cell (i:=7) rfl;have f5:=hbx.free 5;have f6:=hbx.free 6;have f7:=hbx.free 7;clear hbx;go_wp2_with fail;try rw[hcv]
    have HS4:=hD (((HS3.o.put (j:=7) (v:= .int .i64 (m:Int)) (y':={ aQ y ie with egress:=(m:Int) }) rfl rfl rfl rfl rfl rfl).put (j:=6) (v:= .bool true) (y':={ aQ y ie with egress:=(m:Int),sent:=true }) rfl rfl rfl rfl rfl rfl).put (j:=5) (v:= .bool false) (y':={ aQ y ie with egress:=(m:Int),sent:=true,dropped:=false }) rfl rfl rfl rfl rfl rfl);go_roundw
    case rel=>exact ⟨a+1,_,k,om,by go_num,HRS.o,HS4.o⟩
    case measure=>exact mz
   ·obtain ⟨va,vb1,vbb,hwz⟩:=iv HWK.o rfl;dsimp only at va vb1 vbb;obtain ⟨hh,rfl⟩:∃z:Nat,ia=(z:Int):=⟨ia.toNat,om⟩;rcases vbb with rfl|rfl
    ·skip;have hdo:eW p (fN p l act) args y ⟨6,(hh:Int),0,ie,it⟩=ba y (hh:Int) false:=by unfold eW dw;rfl
     have hnx:bB args y ⟨6,(hh:Int),0,ie,it⟩ a=a+1:=by unfold bB;rfl
     have HRS2:Hd (R=bu p (fN p l act) args c (a+1) (ba y (hh:Int) false)):=by show _=_;rw[HRS.o,hdo,hnx]
     have HNG2:Hd (a<a+1/\a+1<=c.length):=by show _/\_;rw[<- hnx];exact HNG.o
     clear hdo hnx;have hen:en=0:=by
      exact AY
     subst hen;go_upto_region 6 with fail;obtain ⟨W1,hW1⟩:=nm ((wr.alloc (.cells #[.int .u8 6, .int .i64 (hh:Int), .int .i64 0, .slice ep 0 ec, .int .i64 it] 75)).alloc (.cells #[.int .u64 0, .int .u64 0] 60));have HI1:Hd (IBox W1 wr.heap.size 6 (hh:Int) 0 ep 0 ec it):=by show _=_;rw[hW1,Below.heap_alloc _ _ _ sm];exact ag _ _
     have HB1:Hd (Bl wr W1):=by show Below _ _ _;rw[hW1];exact (br.alloc lr _).alloc sm _
     rw[<- hW1];clear hW1 y0 y1 y2 y3 y4;have HS1:=hD (HST.o.below HB1.o);obtain ⟨i0,i1,i2,i3,i4⟩:=HI1.o.cells;have hbx:Bx W1 (w.heap.size+1) (kL k y.port y.dropped y.sent y.egress y.access):=HS1.o.box;obtain ⟨d0,d1,d2,d3,d4,d5,d6,d7,d8⟩:=Bx.c9 hbx;have HVA:Hd (Calls Tryz.prog 26 #[.agg (kA k y.port y.dropped y.sent y.egress y.access), .int .i64 (hh:Int), .bool false] W1 fun e w'=>qH y.port y.egress y.dropped y.sent y.access W1 k y w' (ba y (hh:Int) false) e/\Bl W1 w'):=by
      have hxf:=HST.o.fits;have b1:=aA (l:=y.fields) (j:=hh) [] (by have:=hxf.f;omega);have b2:=aA (l:=y.valid) (j:=hh) false (by have:=hxf.v;omega);exact ky k y y.port y.egress y.dropped y.sent y.access _ false hh _ W1 HS1.o.ok (PktSm.of hxf HSM.o (by rw[HST.o.rest];exact HRL.o)) b1 b2
     clear hbx va vb1;go_upto_region 26 with (go_at_call 26;(with_reducible refine HVA.o.mono ?_);rintro e w2 ⟨⟨k2,he,hk2,hap2⟩,hb2⟩;subst he;unfold kV;have HAP2:=hD hap2;have HS2:=hD (HS1.o.below hb2);have HBB:=hD hb2;have hbx2:Bx w2 (w.heap.size+1) (kL k y.port y.dropped y.sent y.egress y.access):=HS2.o.box;obtain ⟨e0,e1,e2,e3,e4,e5,e6,e7,e8⟩:=hbx2.c9;obtain ⟨f0,f1,f2,f3,f4,f5,f6,f7,f8⟩:=hbx2.f9;clear hbx2 hb2 hap2 hk2);rw[<- bw];have hbx2:Bx w2 (w.heap.size+1) (kL k y.port y.dropped y.sent y.egress y.access):=HS2.o.box;obtain ⟨w4,hW9,hX4,hO4,hB4,-⟩:=ni hbx2 (kL k2 y.port y.dropped y.sent y.egress y.access) rfl;rw[hW9];clear hW9;have hB4:=hB4 (w.heap.size) _ (Below.refl _ w2) om;have HS3:Hd (RunSt p s q x w w4 k2 (ba y (hh:Int) false)):=by
      have hst:=gm y (hh:Int) false;have hsc:(ba y (hh:Int) false).dropped=y.dropped/\(ba y (hh:Int) false).sent=y.sent/\(ba y (hh:Int) false).egress=y.egress/\(ba y (hh:Int) false).access=y.access:=by unfold ba;split<;>exact ⟨rfl,rfl,rfl,rfl⟩
      exact Du
     exact Dt
    skip;have hdo:eW p (fN p l act) args y ⟨6,(hh:Int),1,ie,it⟩=ba y (hh:Int) true:=by unfold eW dw;rfl
    have hnx:bB args y ⟨6,(hh:Int),1,ie,it⟩ a=a+1:=by unfold bB;rfl
    have HRS2:Hd (R=bu p (fN p l act) args c (a+1) (ba y (hh:Int) true)):=by show _=_;rw[HRS.o,hdo,hnx]
    have HNG2:Hd (a<a+1/\a+1<=c.length):=by show _/\_;rw[<- hnx];exact HNG.o
    clear hdo hnx;have hen:en=0:=by
     exact AY
    subst hen;go_upto_region 6 with fail;obtain ⟨W1,hW1⟩:=nm ((wr.alloc (.cells #[.int .u8 6, .int .i64 (hh:Int), .int .i64 1, .slice ep 0 ec, .int .i64 it] 75)).alloc (.cells #[.int .u64 0, .int .u64 0] 60));have HI1:Hd (IBox W1 wr.heap.size 6 (hh:Int) 1 ep 0 ec it):=by show _=_;rw[hW1,Below.heap_alloc _ _ _ sm];exact ag _ _
    have HB1:Hd (Bl wr W1):=by show Below _ _ _;rw[hW1];exact (br.alloc lr _).alloc sm _
    rw[<- hW1];clear hW1 y0 y1 y2 y3 y4;have HS1:=hD (HST.o.below HB1.o);obtain ⟨i0,i1,i2,i3,i4⟩:=HI1.o.cells;have hbx:Bx W1 (w.heap.size+1) (kL k y.port y.dropped y.sent y.egress y.access):=HS1.o.box;obtain ⟨d0,d1,d2,d3,d4,d5,d6,d7,d8⟩:=Bx.c9 hbx;have HVA:Hd (Calls Tryz.prog 26 #[.agg (kA k y.port y.dropped y.sent y.egress y.access), .int .i64 (hh:Int), .bool true] W1 fun e w'=>qH y.port y.egress y.dropped y.sent y.access W1 k y w' (ba y (hh:Int) true) e/\Bl W1 w'):=by
     have hxf:=HST.o.fits;have b1:=aA (l:=y.fields) (j:=hh) [] (by have:=hxf.f;omega);have b2:=aA (l:=y.valid) (j:=hh) false (by have:=hxf.v;omega);exact ky k y y.port y.egress y.dropped y.sent y.access _ true hh _ W1 HS1.o.ok (PktSm.of hxf HSM.o (by rw[HST.o.rest];exact HRL.o)) b1 b2
    clear hbx va vb1;go_upto_region 26 with (go_at_call 26;(with_reducible refine HVA.o.mono ?_);rintro e w2 ⟨⟨k2,he,hk2,hap2⟩,hb2⟩;subst he;unfold kV;have HAP2:=hD hap2;have HS2:=hD (HS1.o.below hb2);have HBB:=hD hb2;have hbx2:Bx w2 (w.heap.size+1) (kL k y.port y.dropped y.sent y.egress y.access):=HS2.o.box;obtain ⟨e0,e1,e2,e3,e4,e5,e6,e7,e8⟩:=hbx2.c9;obtain ⟨f0,f1,f2,f3,f4,f5,f6,f7,f8⟩:=hbx2.f9;clear hbx2 hb2 hap2 hk2);rw[<- bw];have hbx2:Bx w2 (w.heap.size+1) (kL k y.port y.dropped y.sent y.egress y.access):=HS2.o.box;obtain ⟨w4,hW9,hX4,hO4,hB4,-⟩:=ni hbx2 (kL k2 y.port y.dropped y.sent y.egress y.access) rfl;rw[hW9];clear hW9;have hB4:=hB4 (w.heap.size) _ (Below.refl _ w2) om;have HS3:Hd (RunSt p s q x w w4 k2 (ba y (hh:Int) true)):=by
     have hst:=gm y (hh:Int) true;have hsc:(ba y (hh:Int) true).dropped=y.dropped/\(ba y (hh:Int) true).sent=y.sent/\(ba y (hh:Int) true).egress=y.egress/\(ba y (hh:Int) true).access=y.access:=by unfold ba;split<;>exact ⟨rfl,rfl,rfl,rfl⟩
     exact Du
    exact Dt
   ·have hwz:¬wk=0:=by
     rcases fq HWK.o (by show (7:Int)≠1;decide) (by show (7:Int)≠2;decide) (by show (7:Int)≠3;decide) (by show (7:Int)≠6;decide) with ⟨h1,h2⟩|⟨h1,h2⟩|⟨h1,h2⟩|⟨h1,h2⟩<;>first|omega|(exfalso;dsimp only at h1;omega)
    have hdo:eW p (fN p l act) args y ⟨7,ia,ib,ie,it⟩=aQ y ie:=by unfold eW dw;rfl
    have hnx:bB args y ⟨7,ia,ib,ie,it⟩ a=if ct y args ie=0 then it.toNat else a+1:=by
     unfold bB;by_cases h:ct y args ie=0
     ·rw[if_pos (.inr ⟨rfl,h⟩),if_pos h]
     rw[if_neg (fun h1=>h1.elim (fun h2=>absurd h2 (by show ¬(7:Int)=8;decide)) (fun h2=>h h2.2)),if_neg h]
    rw[hdo,hnx] at HRS;rw[hnx] at HNG;clear hdo hnx;have hen:0<en:=by
     exact Ca
    have hwd:∃z,aL p act ie=some z:=by
     exact Cc
    obtain ⟨wz,hwd⟩:=hwd;have hvB:ct y args ie<B*B:=cL (cI y args hwd);obtain ⟨n,hn⟩:=nm (ct y args ie);obtain ⟨ab,hab⟩:=nm (y.access||co y ie);obtain ⟨n0,hn0⟩:=nm ((n/B:Nat):Int);obtain ⟨n1,hn1⟩:=nm ((n%B:Nat):Int);have HNB:Hd (n<B*B/\n0=((n/B:Nat):Int)/\n1=((n%B:Nat):Int)/\n=ct y args ie/\(aQ y ie).access=ab):=⟨by rw[hn];exact hvB,hn0,hn1,hn,hab.symm⟩;have HVL:Hd (∀ W,Bl wr W->Calls Tryz.prog 22 #[.agg (kA k y.port y.dropped y.sent y.egress y.access), .slice ep en ec, .slice gp gn gc] W fun e w'=>fW n0 n1 (.agg (kA k y.port y.dropped y.sent y.egress ab)) e/\Bl W w'):=fun W h=>by
     have hv:=eH (p:=p) (act:=act) (args:=args) (w:=W) y.dropped y.sent y.access y.egress ⟨HST.o.ok.below h,HYE.o.below dE h,(HG.o.below aM HST.o.low).below aM h,HST.o.fits,by have:=HCL.o _ HIM.o;dsimp only at this;omega,by rw[HST.o.port];exact HPO.o,HAR.o⟩ hwd;rw[<- hab, <-hn] at hv;unfold AnsV jV at hv;rw[<- hn0, <-hn1] at hv;exact hv
    have heni:(0:Int)<(en:Int):=om;clear hen hwd hvB hn hab hn0 hn1 hwz;go_upto_region 6 with fail;obtain ⟨W1,hW1⟩:=nm ((wr.alloc (.cells #[.int .u8 7, .int .i64 ia, .int .i64 ib, .slice ep en ec, .int .i64 it] 75)).alloc (.cells #[.int .u64 0, .int .u64 0] 60));have HI1:Hd (IBox W1 (wr.heap.size) 7 ia ib ep en ec it):=by show _=_;rw[hW1,Below.heap_alloc _ _ _ sm];exact ag _ _
    have HA1:Hd (NB W1 (wr.heap.size+1) (.int .u64 0) (.int .u64 0)):=by
     show _=_;rw[hW1];exact xS _ _ _
    have HB1:Hd (Bl wr W1):=by show Below _ _ _;rw[hW1];exact (br.alloc lr _).alloc sm _
    rw[<- hW1];clear hW1 y0 y1 y2 y3 y4;have HS1:=hD (HST.o.below HB1.o);obtain ⟨i0,i1,i2,i3,i4⟩:=HI1.o.cells;have hbx:Bx W1 (w.heap.size+1) (kL k y.port y.dropped y.sent y.egress y.access):=HS1.o.box;obtain ⟨d0,d1,d2,d3,d4,d5,d6,d7,d8⟩:=Bx.c9 hbx;clear hbx;have hlt7:w.heap.size+1+1<wr.heap.size:=Bx.lt HST.o.res;go_upto_region 8 with (go_at_call 22;(with_reducible refine (HVL.o _ HB1.o).mono ?_);rintro e w2 ⟨he,hb2⟩;unfold fW at he;subst he;have HS2:=hD (HS1.o.below hb2);have HI2:Hd (IBox w2 (wr.heap.size) 7 ia ib ep en ec it):=HI1.o.below hb2;have HA2:=hD (HA1.o.below hb2);have HB2:=hD (HB1.o.trans (hb2.mono HB1.o.size));have hbx2:Bx w2 (w.heap.size+1) (kL k y.port y.dropped y.sent y.egress y.access):=HS2.o.box;obtain ⟨e0,e1,e2,e3,e4,e5,e6,e7,e8⟩:=hbx2.c9;obtain ⟨f0,f1,f2,f3,f4,f5,f6,f7,f8⟩:=hbx2.f9;have x0:=HA2.o.c0;have x1:=HA2.o.c1;have x2:=HA2.o.free 0;have x3:=HA2.o.free 1;clear hbx2 hb2);obtain ⟨W8,hW8⟩:=nm ((w2.setCell ⟨wr.heap.size+1,0,none⟩ (.int .u64 n0)).setCell ⟨wr.heap.size+1,1,none⟩ (.int .u64 n1));have hX8:Bx W8 (w.heap.size+1) (kL k y.port y.dropped y.sent y.egress y.access):=by rw[hW8];exact (Bx.other HS2.o.box om _).other om _
    have hA8:NB W8 (wr.heap.size+1) (.int .u64 n0) (.int .u64 n1):=by rw[hW8];exact HA2.o.put _ _
    have hI8:IBox W8 (wr.heap.size) 7 ia ib ep en ec it:=by rw[hW8];exact (heap_setCell_other _ _ _ _ (by show wr.heap.size≠wr.heap.size+1;omega)).trans ((heap_setCell_other w2 _ _ _ (by show wr.heap.size≠wr.heap.size+1;omega)).trans HI2.o)
    have hB8:Bl wr W8:=by rw[hW8];exact (HB2.o.setCell (by show wr.heap.size<=wr.heap.size+1;omega) _).setCell (by show wr.heap.size<=wr.heap.size+1;omega) _
    rw[<- hW8, <-bw];clear hW8 x0 x1 x2 x3 d0 e0 f0 d1 e1 f1 d2 e2 f2 d3 e3 f3 d4 e4 f4 d5 e5 f5 d6 e6 f6 d7 e7 f7 d8 e8 f8 i0 i1 i2 i3 i4;obtain ⟨W3,hW9,hX9,hO9,hB9,-⟩:=ni hX8 (kL k y.port y.dropped y.sent y.egress ab) rfl;rw[hW9];clear hW9;have hB9:=hB9 (w.heap.size) _ (Below.refl _ W8) om;have HA3:Hd (NB W3 (wr.heap.size+1) (.int .u64 n0) (.int .u64 n1)):=(hO9 _ om).trans hA8;have HI3:Hd (IBox W3 (wr.heap.size) 7 ia ib ep en ec it):=(hO9 _ om).trans hI8;have HS3:Hd (RunSt p s q x w W3 k (aQ y ie)):=HST.o.replace hB8 (fun S _ hka=>(hka.below hB8).rows rfl rfl rfl rfl) hB9 hO9 (by
     unfold YB;rw[HNB.o.2.2.2.2];exact hX9) (HST.o.fits.other rfl rfl rfl) HST.o.rest HST.o.port
    clear hX8 hA8 hI8 hB8 hX9 hO9 hB9;obtain ⟨i0,i1,i2,i3,i4⟩:=HI3.o.cells;have x0:=HA3.o.c0;have x1:=HA3.o.c1;have hc3:(n0=0/\n1=0/\n=0)\/(n≠0/\n0=0/\¬n1=0)\/(n≠0/\¬n0=0):=by
     obtain ⟨-,h1,h2,-⟩:=HNB.o;have h3:=Nat.div_add_mod n B;by_cases g0:n0=0
     ·by_cases g1:n1=0
      ·left;refine ⟨g0,g1,?_⟩;have e0:n/B=0:=om;have e1:n%B=0:=om;rw[e0,e1] at h3;omega
      right;left;refine ⟨fun hz=>g1 ?_,g0,g1⟩;rw[h2,hz];simp
     right;right;refine ⟨fun hz=>g0 ?_,g0⟩;rw[h1,hz];simp
    go_upto_region 29 with fail;rcases hc3 with ⟨rfl,rfl,hz⟩|⟨hz,rfl,g1⟩|⟨hz,g1⟩
    ·have HZ:=hD hz;clear hz;refine dZ W3 ?_;refine sq (fun aa ww ll hh=>by have:=hh.oL 13;have x0:=(HA3.o.below hh.inv).c0;have x1:=(HA3.o.below hh.inv).c1;exact ov gX) ?_;refine ⟨.eq (.agg #[.int .u64 0, .int .u64 0]),trivial,rfl,fun aa ww ll hh=>?_,?_⟩
     ·exact D8
     refine sq (fun aa ww ll hh=>by have:=hh.gt 0 1;have:=hh.gt 1 0;exact ov gX) ?_;intro ll w5 hS5 hok;clear hok;simp only[ly];have HS5:=hD (HS3.o.below hS5);obtain ⟨i0,i1,i2,i3,i4⟩:=(show IBox w5 (wr.heap.size) 7 ia ib ep en ec it from HI3.o.below hS5).cells;clear hS5;have HRS2:=HRS.o;have HNG2:=HNG.o;rw[if_pos (by rw[<- HNB.o.2.2.2.1];exact HZ.o)] at HRS2 HNG2;obtain ⟨tt,rfl⟩:∃tt:Nat,it=(tt:Int):=⟨it.toNat,om⟩;rw[Int.toNat_natCast] at HRS2 HNG2;have HR2:=hD HRS2;have HG2:=hD HNG2;clear HRS2 HNG2;go_wp2_with fail;go_roundw
     case rel=>exact ⟨tt,_,k,by have:=HG2.o;have:=HN.o;omega,rfl,HR2.o,HS5.o⟩
     case measure=>simp[intOf];have:=HG2.o;omega
    ·exact CY
    exact CY
   have hwz:wk=0:=ou HWK.o (.inr (.inr (.inr rfl)));have hdo:eW p (fN p l act) args y ⟨8,ia,ib,ie,it⟩=y:=by unfold eW dw;rfl
   have hnx:bB args y ⟨8,ia,ib,ie,it⟩ a=it.toNat:=by unfold bB;rfl
   have HRS2:Hd (R=bu p (fN p l act) args c (it.toNat) (y)):=by show _=_;rw[HRS.o,hdo,hnx]
   have HNG2:Hd (a<it.toNat/\it.toNat<=c.length):=by show _/\_;rw[<- hnx];exact HNG.o
   clear hdo hnx;have hen:en=0:=by
    exact AY
   subst hen;go_upto_region 6 with fail;obtain ⟨W1,hW1⟩:=nm ((wr.alloc (.cells #[.int .u8 8, .int .i64 ia, .int .i64 ib, .slice ep 0 ec, .int .i64 it] 75)).alloc (.cells #[.int .u64 0, .int .u64 0] 60));have HI1:Hd (IBox W1 wr.heap.size 8 ia ib ep 0 ec it):=by show _=_;rw[hW1,Below.heap_alloc _ _ _ sm];exact ag _ _
   have HB1:Hd (Bl wr W1):=by show Below _ _ _;rw[hW1];exact (br.alloc lr _).alloc sm _
   rw[<- hW1];clear hW1 y0 y1 y2 y3 y4;have HS1:=hD (HST.o.below HB1.o);obtain ⟨i0,i1,i2,i3,i4⟩:=HI1.o.cells;have hit:0<=it:=by have:=HNG2.o;omega
   obtain ⟨tt,rfl⟩:∃tt:Nat,it=(tt:Int):=⟨it.toNat,om⟩;rw[Int.toNat_natCast] at HRS2 HNG2;clear hit;go_wp2_with fail;go_roundw
   case rel=>exact ⟨tt,y,k,by have:=HNG2.o;have:=HN.o;omega,rfl,HRS2.o,HS1.o⟩
   case measure=>simp[intOf];have:=HNG2.o;omega
  obtain rfl:a=cn:=om;have hai:¬(a:Int)<(a:Int):=om;have hRy:R=y:=by rw[HRA.o];exact jz (by have:=HN.o;omega)
  have hbx:Bx wr (w.heap.size+1) (kL k y.port y.dropped y.sent y.egress y.access):=HST.o.box;obtain ⟨d0,d1,d2,d3,d4,d5,d6,d7,d8⟩:=Bx.c9 hbx;obtain ⟨e0,e1,e2,e3,e4,e5,e6,e7,e8⟩:=Bx.c9 HST.o.res;have r0:=Bx.free HST.o.res 0;have r1:=Bx.free HST.o.res 1;have r2:=Bx.free HST.o.res 2;have r3:=Bx.free HST.o.res 3;have r4:=Bx.free HST.o.res 4;have r5:=Bx.free HST.o.res 5;have r6:=Bx.free HST.o.res 6;have r7:=Bx.free HST.o.res 7;have r8:=Bx.free HST.o.res 8;clear hbx;go_wp2_with fail;rw[<- bw];have p6:Bx (bw wr (w.heap.size+1+1) (.int .i64 y.port) (.slice k.rp k.rn k.rc) (.slice k.vp k.vn k.vc) (.slice k.fp k.fn k.fc) (.slice k.mp k.mn k.mc) (.bool y.dropped) (.bool y.sent) (.int .i64 y.egress) (.bool y.access)) (w.heap.size+1+1) (kL k y.port y.dropped y.sent y.egress y.access):=bU (.int .i64 y.port) (.slice k.rp k.rn k.rc) (.slice k.vp k.vn k.vc) (.slice k.fp k.fn k.fc) (.slice k.mp k.mn k.mc) (.bool y.dropped) (.bool y.sent) (.int .i64 y.egress) (.bool y.access) HST.o.res;have hO9:∀z,z≠w.heap.size+1+1->(bw wr (w.heap.size+1+1) (.int .i64 y.port) (.slice k.rp k.rn k.rc) (.slice k.vp k.vn k.vc) (.slice k.fp k.fn k.fc) (.slice k.mp k.mn k.mc) (.bool y.dropped) (.bool y.sent) (.int .i64 y.egress) (.bool y.access)).heap[z]?=wr.heap[z]?:=fun z hz=>cC wr (.int .i64 y.port) (.slice k.rp k.rn k.rc) (.slice k.vp k.vn k.vc) (.slice k.fp k.fn k.fc) (.slice k.mp k.mn k.mc) (.bool y.dropped) (.bool y.sent) (.int .i64 y.egress) (.bool y.access) hz
  have hB9:=cM (g:=w.heap.size+1+1) (.int .i64 y.port) (.slice k.rp k.rn k.rc) (.slice k.vp k.vn k.vc) (.slice k.fp k.fn k.fc) (.slice k.mp k.mn k.mc) (.bool y.dropped) (.bool y.sent) (.int .i64 y.egress) (.bool y.access) HST.o.low om;have hA9:=cM (B:=w.heap.size+1+1) (g:=w.heap.size+1+1) (.int .i64 y.port) (.slice k.rp k.rn k.rc) (.slice k.vp k.vn k.vc) (.slice k.fp k.fn k.fc) (.slice k.mp k.mn k.mc) (.bool y.dropped) (.bool y.sent) (.int .i64 y.egress) (.bool y.access) (Below.refl _ wr) lr;generalize bw wr (w.heap.size+1+1) (.int .i64 y.port) (.slice k.rp k.rn k.rc) (.slice k.vp k.vn k.vc) (.slice k.fp k.fn k.fc) (.slice k.mp k.mn k.mc) (.bool y.dropped) (.bool y.sent) (.int .i64 y.egress) (.bool y.access)=w9 at*;have hap:∀S:Nat->Prop,(∀ b,S b->b<w.heap.size)->KApart w S q x->KApart w9 S k y:=fun S hS hka=>((HST.o.ap S hS hka).step ⟨hA9.os,hA9.tape,hA9.output,hA9.size,fun b _ hne=>hO9 b (fun e=>hne (.inr om))⟩).weak (fun b hb=> .inl hb)
  obtain ⟨m0,m1,m2,m3,m4,m5,m6,m7,m8⟩:=Bx.c9 p6;refine bodyPost_ret (v:= .agg (kA k y.port y.dropped y.sent y.egress y.access)) ?_ rfl ⟨⟨k,?_,?_,fun S hS hka=>?_⟩,hB9⟩
  ·simp[results,Tryz.results10,go_sem,m0,m1,m2,m3,m4,m5,m6,m7,m8]
  ·first|rfl|(rw[hRy];rfl)
  ·first|exact (hap (fun _=>False) (fun _ h=>h.elim) HKQ.o.apart).ok|rw[hRy];exact (hap (fun _=>False) (fun _ h=>h.elim) HKQ.o.apart).ok
  first|exact hap S hS hka|(rw[hRy];exact hap S hS hka)
end Go.Proofs.YtjfhfaodbjecdaaGreat

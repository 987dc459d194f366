/-
  topo.there, and the document's.
-/
import Derived.Test.YtikilcbpogfgkaaGreatJI38
set_option maxHeartbeats 3200000
set_option maxRecDepth 100000
namespace Go.Proofs.YtikilcbpogfgkaaGreat
open Go.RowKit
theorem IsRow.elT {w:World} {p:Option Addr} {n c:Nat} {l:List (List Int)} (h:IsRow w (.slice p n c) l) {j:Nat} (hj:j<l.length):∃b o p1 n1 c1,p=some ⟨b,o,none⟩/\b<w.heap.size/\w.cell? ⟨b,o+j,none⟩=some (.slice p1 n1 c1)/\IRow w (.slice p1 n1 c1) (l.getD j []):=by
 obtain ⟨b,o,e,h1,p1,n1,c1,h2,h3⟩:=h.get (some_getD [] hj);exact gO2
theorem there_any (s:NtS) (n:Net) (e:Ed) (w:World) (h:NtOk w s n):
 Calls Tryz.prog 76 #[ntV s,EdV e] w fun r w'=>r= .returned (.bool (ntThere n e))/\Bl w w':=by
 have HN:Hd (s.pn=n.ports.length):=h.ports.ln.1;have HP:=hD h.ports;obtain ⟨T,hT⟩:=nm (ntThere n e);have HT:=hD hT;rw[<- hT];clear h hT;obtain ⟨sw,port⟩:=e;unfold ntV EdV;dsimp only at HT⊢;go_enter Tryz.func76,Tryz.ntmps76;go_upto_region 1 with fail;obtain ⟨W0,hW0⟩:=nm ((w.alloc (.cells #[.slice s.sp s.sn s.sc, .slice s.pp s.pn s.pc, .slice s.lp s.ln s.lc] 52)).alloc (.cells #[.int .i64 sw, .int .i64 port] 54));have HB0:Hd (Bl w W0):=by show Below _ _ _;rw[hW0];exact bL
 have HCE:Hd (∀ W,Bl W0 W->(Cl W w.heap.size 0 (.slice s.sp s.sn s.sc)/\Cl W w.heap.size 1 (.slice s.pp s.pn s.pc)/\Cl W w.heap.size 2 (.slice s.lp s.ln s.lc)/\Cl W (w.heap.size+1) 0 (.int .i64 sw)/\Cl W (w.heap.size+1) 1 (.int .i64 port))):=fun W hb=>by
  have hz:W0.heap.size=w.heap.size+1+1:=by rw[hW0];simp
  refine ⟨(hb.cell (p:=⟨w.heap.size,0,none⟩) (by show w.heap.size<_;omega)).trans ?_,(hb.cell (p:=⟨w.heap.size,1,none⟩) (by show w.heap.size<_;omega)).trans ?_,(hb.cell (p:=⟨w.heap.size,2,none⟩) (by show w.heap.size<_;omega)).trans ?_,(hb.cell (p:=⟨w.heap.size+1,0,none⟩) (by show w.heap.size+1<_;omega)).trans ?_,(hb.cell (p:=⟨w.heap.size+1,1,none⟩) (by show w.heap.size+1<_;omega)).trans ?_⟩<;>rw[hW0]<;>simp[go_sem]
 rw[<- hW0];clear hW0;by_cases h0:0<=sw
 ·by_cases h1:sw<(s.pn:Int)
  ·obtain ⟨k,rfl⟩:∃k:Nat,sw=(k:Int):=⟨sw.toNat,om⟩;obtain ⟨b,o,p1,n1,c1,hps,hb,y0,hy⟩:=IsRow.elT (HP.o.below keepIs HB0.o) (j:=k) (by have:=HN.o;omega);obtain ⟨R,hR⟩:=nm ((n.ports.getD k []).contains port);have HC:Hd (∀ W,Bl W0 W->Calls Tryz.prog 107 #[.slice p1 n1 c1, .int .i64 port] W fun r w'=>r= .returned (.bool R)/\Bl W w'):=fun W hw=>by
    rw[hR];exact contains_int _ p1 n1 c1 port W (hy.below keepI hw)
   exact gB
  exact gO
 exact gH1
theorem there13_any (s:NtS) (n:Net) (e:Ed) (w:World) (h:NtOk w s n):
 Calls Tryz.prog 74 #[ntV s,EdV e] w fun r w'=>r= .returned (.bool (ntThere n e))/\Bl w w':=by
 have HN:Hd (s.pn=n.ports.length):=h.ports.ln.1;have HP:=hD h.ports;obtain ⟨T,hT⟩:=nm (ntThere n e);have HT:=hD hT;rw[<- hT];clear h hT;obtain ⟨sw,port⟩:=e;unfold ntV EdV;dsimp only at HT⊢;go_enter Tryz.func74,Tryz.ntmps74;go_upto_region 1 with fail;obtain ⟨W0,hW0⟩:=nm ((w.alloc (.cells #[.slice s.sp s.sn s.sc, .slice s.pp s.pn s.pc, .slice s.lp s.ln s.lc] 52)).alloc (.cells #[.int .i64 sw, .int .i64 port] 54));have HB0:Hd (Bl w W0):=by show Below _ _ _;rw[hW0];exact bL
 have HCE:Hd (∀ W,Bl W0 W->(Cl W w.heap.size 0 (.slice s.sp s.sn s.sc)/\Cl W w.heap.size 1 (.slice s.pp s.pn s.pc)/\Cl W w.heap.size 2 (.slice s.lp s.ln s.lc)/\Cl W (w.heap.size+1) 0 (.int .i64 sw)/\Cl W (w.heap.size+1) 1 (.int .i64 port))):=fun W hb=>by
  have hz:W0.heap.size=w.heap.size+1+1:=by rw[hW0];simp
  refine ⟨(hb.cell (p:=⟨w.heap.size,0,none⟩) (by show w.heap.size<_;omega)).trans ?_,(hb.cell (p:=⟨w.heap.size,1,none⟩) (by show w.heap.size<_;omega)).trans ?_,(hb.cell (p:=⟨w.heap.size,2,none⟩) (by show w.heap.size<_;omega)).trans ?_,(hb.cell (p:=⟨w.heap.size+1,0,none⟩) (by show w.heap.size+1<_;omega)).trans ?_,(hb.cell (p:=⟨w.heap.size+1,1,none⟩) (by show w.heap.size+1<_;omega)).trans ?_⟩<;>rw[hW0]<;>simp[go_sem]
 rw[<- hW0];clear hW0;by_cases h0:0<=sw
 ·by_cases h1:sw<(s.pn:Int)
  ·obtain ⟨k,rfl⟩:∃k:Nat,sw=(k:Int):=⟨sw.toNat,om⟩;obtain ⟨b,o,p1,n1,c1,hps,hb,y0,hy⟩:=IsRow.elT (HP.o.below keepIs HB0.o) (j:=k) (by have:=HN.o;omega);obtain ⟨R,hR⟩:=nm ((n.ports.getD k []).contains port);have HC:Hd (∀ W,Bl W0 W->Calls Tryz.prog 106 #[.slice p1 n1 c1, .int .i64 port] W fun r w'=>r= .returned (.bool R)/\Bl W w'):=fun W hw=>by
    rw[hR];exact has1_any _ p1 n1 c1 port W (hy.below keepI hw)
   exact gB
  exact gO
 exact gH1
end Go.Proofs.YtikilcbpogfgkaaGreat

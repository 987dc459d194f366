/- Lemmas. -/
import Derived.Test.YtikilcbpogfgkaaGreatJI18
set_option maxHeartbeats 3200000
set_option maxRecDepth 100000
namespace Go.Proofs.YtikilcbpogfgkaaGreat
open Go.RowKit Stab
variable {g g':Fn} {a b j c n o k cap base:Nat} {L:Int->Int->Bool} {w:World} {l:List Ent} {tab:Int} {V:Int->Prop} {xs:List Int} {ks:List Nat} {v:Value}
structure Stab.Blk (L:Int->Int->Bool) (f g:Fn) (j:Nat):Prop where
 s1:1<=j->Srt L g 0 20/\Same f g 0 20
 s2:2<=j->Srt L g 20 40/\Same f g 20 40
 o:∀k,20*j<=k->g k=f k
theorem Stab.Blk.zero (L:Int->Int->Bool) (f:Fn):Blk L f f 0:=⟨fun h=>absurd h om,fun h=>absurd h om,fun _ _=>rfl⟩
theorem Stab.Same.eq {f:Fn} (h:Same f g a b) (e:∀i,a<=i->i<b->g' i=g i):Same f g' a b:=fun x=>by
 rw[h x];exact ⟨fun ⟨i,h1,h2,h3⟩=>⟨i,h1,h2,(e i h1 h2).trans h3⟩,fun ⟨i,h1,h2,h3⟩=>⟨i,h1,h2,(e i h1 h2).symm.trans h3⟩⟩
theorem Stab.Same.eqL {f f':Fn} (h:Same f g a b) (e:∀i,a<=i->i<b->f' i=f i):Same f' g a b:=(h.symm.eq e).symm
theorem Stab.Blk.next {f:Fn} (h:Blk L f g j) (hj:j<=1) (m:MrgOk L g g' (20*j) (20*j+20)):Blk L f g' (j+1):=by
 rcases (show j=0\/j=1 by omega) with rfl|rfl
 ·exact ⟨fun _=>⟨m.srt,m.same.eqL fun i _ _=>(h.o i om).symm⟩,fun h=>absurd h om,fun k hk=>(m.o k om).trans (h.o k om)⟩
 obtain ⟨a1,a2⟩:=h.s1 lr;exact ⟨fun _=>⟨a1.eq fun i _ _=>m.o i om,a2.eq fun i _ _=>m.o i om⟩,fun _=>⟨m.srt,m.same.eqL fun i h1 _=>(h.o i om).symm⟩,fun k hk=>(m.o k om).trans (h.o k om)⟩
def Stab.Two (L:Int->Int->Bool) (f g:Fn) (n:Nat):Prop:=(n<=20->MrgOk L f g 0 n)/\(20<n->Mrg L g 0 20 n/\Same f g 0 n/\Outw f g 0 n)
theorem Stab.Same.join {f:Fn} (h:a<=c) (h':c<=b) (p:Same f g a c) (q:Same f g c b):Same f g a b:=fun x=>by
 constructor
 ·rintro ⟨i,h1,h2,h3⟩;by_cases e:i<c
  ·obtain ⟨k,k1,k2,k3⟩:=(p x).1 ⟨i,h1,e,h3⟩;exact ⟨k,k1,om,k3⟩
  ·obtain ⟨k,k1,k2,k3⟩:=(q x).1 ⟨i,om,h2,h3⟩;exact ⟨k,om,k2,k3⟩
 ·rintro ⟨i,h1,h2,h3⟩;by_cases e:i<c
  ·obtain ⟨k,k1,k2,k3⟩:=(p x).2 ⟨i,h1,e,h3⟩;exact ⟨k,k1,om,k3⟩
  ·obtain ⟨k,k1,k2,k3⟩:=(q x).2 ⟨i,om,h2,h3⟩;exact ⟨k,om,k2,k3⟩
theorem Stab.Blk.two {f:Fn} (h:Blk L f g j) (hj:j<=2) (hn:n<=40) (h1:20*j<=n) (h2:n<20*j+20) (hasc:∀p q,p<q->q<n->f p<f q) (m:MrgOk L g g' (20*j) n):Two L f g' n:=by
 rcases (show j=0\/j=1\/j=2 by omega) with rfl|rfl|rfl
 ·exact ⟨fun _=>⟨m.srt,m.same.eqL fun i _ _=>(h.o i om).symm,fun k hk=>(m.o k om).trans (h.o k om)⟩,fun q=>by omega⟩
 ·obtain ⟨a1,a2⟩:=h.s1 lr;have b1:Srt L g' 0 20:=a1.eq fun i _ _=>m.o i om
  have b2:Same f g' 0 20:=a2.eq fun i _ _=>m.o i om
  have b3:Same f g' 20 n:=m.same.eqL fun i h1 _=>(h.o i om).symm
  have b4:Outw f g' 0 n:=fun k hk=>(m.o k om).trans (h.o k om)
  refine ⟨fun e=>?_,fun e=>⟨⟨om,e,b1,m.srt,Apart.of_same (f:=f) (fun i j _ h2 h3 h4=>hasc i j om h4) b2 b3⟩,Same.join om om b2 b3,b4⟩⟩;obtain rfl:n=20:=om;exact ⟨b1,b2,b4⟩
 obtain rfl:n=40:=om;obtain ⟨a1,a2⟩:=h.s1 om;obtain ⟨a3,a4⟩:=h.s2 om;have e:∀k,g' k=g k:=fun k=>m.o k om
 have b1:Srt L g' 0 20:=a1.eq fun i _ _=>e i
 have b2:Same f g' 0 20:=a2.eq fun i _ _=>e i
 have b3:Srt L g' 20 40:=a3.eq fun i _ _=>e i
 have b5:Same f g' 20 40:=a4.eq fun i _ _=>e i
 exact ⟨fun q=>by omega,fun _=>⟨⟨om,om,b1,b3,Apart.of_same (f:=f) (fun i j _ h2 h3 h4=>hasc i j om h4) b2 b5⟩,Same.join om om b2 b5,fun k hk=>(e k).trans (h.o k om)⟩⟩
theorem Stab.Two.merged {f:Fn} (h:Two L f g n) (hn:20<n) (m:MrgOk L g g' 0 n):MrgOk L f g' 0 n:=by
 obtain ⟨-,b,c⟩:=h.2 hn;exact ⟨m.srt,b.trans m.same,c.trans m.o⟩
theorem stb_any (V:Int->Prop) (L:Int->Int->Bool) (hO:Ord L) (w0:World) (g n cap c:Nat) (cb:Array Value) (cf:Int->Int->Int) (hC:CmpOk V w0 g c cb cf) (hlt:∀x y,x<y->(cf y x<0↔L y x=true))
 (f:Nat->Int) (w:World) (hn:n<=40) (hasc:∀p q,p<q->q<n->f p<f q) (S:SWd V w0 g n f w):
 Calls Tryz.prog 162 #[.slice (some ⟨g,0,none⟩) n cap, .int .i64 n, .func (.func c) #[] cb] w (SOk V w0 g n (fun f'=>MrgOk L f f' 0 n)):=by
 have HI:=hD (fun a b f' w' h1 h2 h3 h4=>ins_any V L hO w0 g n cap c cb cf hC hlt a b f' w' h1 h2 om h3 h4);have HM:=hD (smg_any V L hO w0 g n cap c cb cf hC hlt om 1000);have HA:=hD hasc;have HS:=hD S;have hcall:=hC.call;clear hC hlt S hasc;go_enter Tryz.func162,Tryz.ntmps162;go_wp2;go_loopg [7,8] 3 (fun gk va vb wr=>∃(j:Nat) (fk:Nat->Int),va= .int .i64 (20*j:Nat)/\vb= .int .i64 (20*j+20:Nat)/\j<=2/\20*j<=n/\3<=gk+j/\Hd (SWd V w0 g n fk wr)/\Hd (Blk L f fk j))
 case atStart=>exact ⟨0,f,rfl,rfl,om,om,om,HS,Blk.zero L f⟩
 case round=>
  clear HS;obtain ⟨j,fk,rfl,rfl,hj,hjn,hgk,HS,HB⟩:=hrel;by_cases hlt:20*j+20<=n
  ·obtain ⟨a,ha⟩:=nm (20*j);have HK:=hD (HI.o (20*j) (20*j+20) fk wr om hlt (fun p q h1 h2 h3=>by rw[HB.o.o p h1,HB.o.o q om];exact HA.o p q h2 om) HS.o);rw[<- ha] at HK hlt hjn;rw[<- ha];have Ha:=hD ha;clear ha HS;go_wp2_with fail;refine HK.o.mono ?_;rintro e w1 ⟨rfl,f1,S1,M1⟩;have HS:=hD S1;have HM1:=hD M1;clear S1 M1 HK;go_wp2_with fail;have ha:=Ha.o;go_roundg (3-(j+1))
   case measure=>omega
   case rel=>exact ⟨j+1,f1,by congr 1;omega,by congr 1;omega,om,om,om,HS,HB.o.next om (by have:=HM1.o;rw[ha] at this;exact this)⟩
  obtain ⟨a,ha⟩:=nm (20*j);have HK:=hD (HI.o (20*j) n fk wr om om (fun p q h1 h2 h3=>by rw[HB.o.o p h1,HB.o.o q om];exact HA.o p q h2 h3) HS.o);rw[<- ha] at HK hlt hjn;rw[<- ha];have Ha:=hD ha;clear ha HS;go_wp2_with fail;refine HK.o.mono ?_;rintro e w1 ⟨rfl,f1,S1,M1⟩;have HS:=hD S1;have HT:Hd (Two L f f1 n):=HB.o.two hj hn (by have:=Ha.o;omega) (by have:=Ha.o;omega) HA.o (by have:=Ha.o;rw[<- this];exact M1);clear S1 M1 HK HB hlt hjn Ha;go_wp2_with fail;go_loopg [6,7,8,9] 2 (fun gk vs va vb vm wr=>∃(fk:Nat->Int),Hd (SWd V w0 g n fk wr)/\((vs= .int .i64 20/\2<=gk/\Hd (Two L f fk n))\/(vs= .int .i64 40/\1<=gk/\Hd (MrgOk L f fk 0 n))))
  case atStart=>exact ⟨f1,HS, .inl ⟨rfl,om,HT⟩⟩
  case round=>
   clear HS HT;obtain ⟨fk,HS,h⟩:=hrel;rcases h with ⟨rfl,hgk,HT⟩|⟨rfl,hgk,HT⟩
   ·by_cases h1:n<=20
    ·have z1:¬(20:Int)<(n:Int):=om;go_wp2_with fail;go_end0;exact ⟨rfl,_,HS.o,HT.o.1 h1⟩
    have z1:(20:Int)<(n:Int):=om;have HK:=hD (HM.o 0 20 n fk wr om om (HT.o.2 om).1 HS.o);clear HS;by_cases h2:n<40
    ·have z2:¬(40:Int)<=(n:Int):=om;go_wp2_with fail;refine wp_loop_rounds 1 ?_;rw[rounds_succ];go_wp2_with fail;refine HK.o.mono ?_;rintro e w2 ⟨rfl,f2,S2,M2⟩;have HS:=hD S2;have HM2:Hd (MrgOk L f f2 0 n):=HT.o.merged om M2;clear S2 M2 HK;exact gQ4
    have z2:(40:Int)<=(n:Int):=om;have z3:¬(60:Int)<(n:Int):=om;have z4:¬(80:Int)<=(n:Int):=om;have en:n=40:=om;have e40:((n:Nat):Int)=40:=om;rw[e40] at HK;have EN:=hD en;clear en e40;go_wp2_with fail;refine wp_loop_rounds 2 ?_;rw[rounds_succ];go_wp2_with fail;refine HK.o.mono ?_;rintro e w2 ⟨rfl,f2,S2,M2⟩;have HS:=hD S2;have HM2:Hd (MrgOk L f f2 0 n):=HT.o.merged om M2;clear S2 M2 HK;go_wp2_with fail;rw[rounds_succ];exact gQ4
   have z1:¬(40:Int)<(n:Int):=om;go_wp2_with fail;go_end0;exact ⟨rfl,_,HS.o,HT.o⟩
theorem sort_any (V:Int->Prop) (L:Int->Int->Bool) (hO:Ord L) (w0:World) (g n cap c:Nat) (cb:Array Value) (cf:Int->Int->Int) (hC:CmpOk V w0 g c cb cf) (hlt:∀x y,x<y->(cf y x<0↔L y x=true))
 (f:Nat->Int) (w:World) (hn:n<=40) (hasc:∀p q,p<q->q<n->f p<f q) (S:SWd V w0 g n f w):
 Calls Tryz.prog 154 #[.slice (some ⟨g,0,none⟩) n cap, .func (.func c) #[] cb] w (SOk V w0 g n (fun f'=>MrgOk L f f' 0 n)):=by
 have HK:=hD (stb_any V L hO w0 g n cap c cb cf hC hlt f w hn hasc S);clear hC hlt hasc S;go_enter Tryz.func154,Tryz.ntmps154;go_wp2_with fail;refine HK.o.mono ?_;rintro e w2 ⟨rfl,f2,S2,M2⟩;go_wp2_with fail;go_end0;exact ⟨rfl,f2,S2,M2⟩
theorem ins_nil (pa:Option Addr) (cap:Nat) (cv:Value) (w:World):Calls Tryz.prog 164 #[.slice pa 0 cap, .int .i64 0, .int .i64 0,cv] w fun e w'=>e= .returned (.tuple #[])/\w'=w:=by
 go_enter Tryz.func164,Tryz.ntmps164;exact gA5
theorem stb_nil (pa:Option Addr) (cap:Nat) (cv:Value) (w:World):Calls Tryz.prog 162 #[.slice pa 0 cap, .int .i64 0,cv] w fun e w'=>e= .returned (.tuple #[])/\w'=w:=by
 go_enter Tryz.func162,Tryz.ntmps162;go_wp2_with fail;refine wp_loop_rounds 1 ?_;rw[rounds_succ];go_wp2_with fail;refine (ins_nil _ _ _ _).mono ?_;rintro e w2 ⟨rfl,rfl⟩;exact gA5
theorem sort_nil (pa:Option Addr) (cap:Nat) (cv:Value) (w:World):Calls Tryz.prog 154 #[.slice pa 0 cap,cv] w fun e w'=>e= .returned (.tuple #[])/\w'=w:=by
 go_enter Tryz.func154,Tryz.ntmps154;go_wp2_with fail;refine (stb_nil _ _ _ _).mono ?_;rintro e w2 ⟨rfl,rfl⟩;go_wp2_with fail;go_end0;exact ⟨rfl,rfl⟩
open Go.RowKit Stab
theorem EAt.six {e:Ent} (h:EAt w b o e):∃p n c r m d,w.cell? ⟨b,o,none⟩=some (.int .i64 e.tab)/\w.cell? ⟨b,o+1,none⟩=some (.slice p n c)/\w.cell? ⟨b,o+2,none⟩=some (.int .i64 e.len)/\w.cell? ⟨b,o+3,none⟩=some (.int .i64 e.prio)/\
 w.cell? ⟨b,o+4,none⟩=some (.int .i64 e.act)/\w.cell? ⟨b,o+5,none⟩=some (.slice r m d)/\PRow w (.slice p n c) e.pats/\NRow w (.slice r m d) e.args:=by
 obtain ⟨h1,⟨v2,h2,k2⟩,h3,h4,h5,⟨v6,h6,k6⟩⟩:=h;obtain ⟨p,c,rfl,-⟩:=k2.shape;obtain ⟨r,d,rfl,-⟩:=k6.shape;exact ⟨p,_,c,r,_,d,h1,h2,h3,h4,h5,h6,k2,k6⟩
theorem cmp_any (l:List Ent) (lv:Value) (bx i j:Nat) (W:World) (hl:ERow W lv l) (_hn:l.length<=1000000) (hi:i<l.length) (hj:j<l.length) (hbx:W.cell? ⟨bx,0,none⟩=some lv):
 Calls Tryz.prog 155 #[.int .i64 i, .int .i64 j, .pointer (some ⟨bx,0,none⟩)] W fun e w'=>e= .returned (.int .i64 (cmpE l i j))/\Bl W w':=by
 obtain ⟨lb,lo,lc,rfl,hlb,hei⟩:=hl.at (eAt_nat l i hi);obtain ⟨lb2,lo2,lc2,he2,-,hej⟩:=hl.at (eAt_nat l j hj);simp only[Value.slice.injEq,Option.some.injEq,Addr.mk.injEq,and_true,true_and] at he2;obtain ⟨⟨rfl,rfl⟩,rfl⟩:=he2;obtain ⟨p1,n1,c1,r1,m1,d1,a0,a1,a2,a3,a4,a5,-,-⟩:=hei.six;obtain ⟨p2,n2,c2,r2,m2,d2,b0,b1,b2,b3,b4,b5,-,-⟩:=hej.six;have HX:Hd (lts l i j=ahd (eAt l i).prio (eAt l i).len (eAt l j).prio (eAt l j).len):=rfl;have HY:Hd (lts l j i=ahd (eAt l j).prio (eAt l j).len (eAt l i).prio (eAt l i).len):=rfl;have HE:Hd (cmpE l i j=if lts l i j then -1 else if lts l j i then 1 else 0):=rfl;obtain ⟨t1,l1,q1,s1,e1⟩:∃t1 l1 q1 s1,t1=(eAt l i).tab/\l1=(eAt l i).len/\q1=(eAt l i).prio/\s1=(eAt l i).act:=⟨_,_,_,_,rfl,rfl,rfl,rfl⟩;obtain ⟨t2,l2,q2,s2,e2⟩:∃t1 l1 q1 s1,t1=(eAt l j).tab/\l1=(eAt l j).len/\q1=(eAt l j).prio/\s1=(eAt l j).act:=⟨_,_,_,_,rfl,rfl,rfl,rfl⟩;rw[<- e1.1] at a0;rw[<- e1.2.1] at a2;rw[<- e1.2.2.1] at a3;rw[<- e1.2.2.2] at a4;rw[<- e2.1] at b0;rw[<- e2.2.1] at b2;rw[<- e2.2.2.1] at b3;rw[<- e2.2.2.2] at b4;rw[<- e1.2.1, <-e1.2.2.1, <-e2.2.1, <-e2.2.2.1] at HX HY;obtain ⟨x,hx⟩:=nm (lts l i j);obtain ⟨y,hy⟩:=nm (lts l j i);rw[<- hx, <-hy] at HE;rw[<- hx] at HX;rw[<- hy] at HY;have HC1:Hd (∀ W,Calls Tryz.prog 156 #[.agg #[.int .i64 t1, .slice p1 n1 c1, .int .i64 l1, .int .i64 q1, .int .i64 s1, .slice r1 m1 d1], .agg #[.int .i64 t2, .slice p2 n2 c2, .int .i64 l2, .int .i64 q2, .int .i64 s2, .slice r2 m2 d2]] W
  fun e w'=>e= .returned (.bool x)/\Bl W w'):=fun W=>by rw[HX.o];exact ahead_any _ _ _ _ _ _ _ _ _ _ _ _ _ _ _ _ _ _ _ _ W
 have HC2:Hd (∀ W,Calls Tryz.prog 156 #[.agg #[.int .i64 t2, .slice p2 n2 c2, .int .i64 l2, .int .i64 q2, .int .i64 s2, .slice r2 m2 d2], .agg #[.int .i64 t1, .slice p1 n1 c1, .int .i64 l1, .int .i64 q1, .int .i64 s1, .slice r1 m1 d1]] W
  fun e w'=>e= .returned (.bool y)/\Bl W w'):=fun W=>by rw[HY.o];exact ahead_any _ _ _ _ _ _ _ _ _ _ _ _ _ _ _ _ _ _ _ _ W
 obtain ⟨n,hnn⟩:=nm l.length;rw[<- hnn] at _hn hi hj;rw[<- hnn] at hbx;have z1:(i:Int)<(n:Int):=om;have z2:(j:Int)<(n:Int):=om;have z3:(0:Int)<=(i:Int):=om;have z4:(0:Int)<=(j:Int):=om;clear hx hy e1 e2 HX HY hnn hl hei hej;have hS:=hD (And.intro (below_drewN (Below.refl W.heap.size W) 1) (And.intro hbx (And.intro a0 (And.intro a1 (And.intro a2 (And.intro a3 (And.intro a4 (And.intro a5 (And.intro b0 (And.intro b1 (And.intro b2 (And.intro b3 (And.intro b4 b5)))))))))))));have HR:Hd (cmpE l i j=if x then -1 else if y then 1 else 0):=HE;clear HE;obtain ⟨z,hz⟩:=nm (cmpE l i j);rw[<- hz] at HR⊢;clear hz;go_enter Tryz.func155,Tryz.ntmps155;go_wp2_with fail;go_region_held3 (fun Wk=>Below (W.heap.size) (W) Wk/\Wk.cell? ⟨bx,0,none⟩=some (.slice (some ⟨lb,lo,none⟩) n lc)/\Wk.cell? ⟨lb,lo+i*6,none⟩=some (.int .i64 t1)/\Wk.cell? ⟨lb,lo+i*6+1,none⟩=some (.slice p1 n1 c1)/\Wk.cell? ⟨lb,lo+i*6+2,none⟩=some (.int .i64 l1)/\Wk.cell? ⟨lb,lo+i*6+3,none⟩=some (.int .i64 q1)/\Wk.cell? ⟨lb,lo+i*6+4,none⟩=some (.int .i64 s1)/\Wk.cell? ⟨lb,lo+i*6+5,none⟩=some (.slice r1 m1 d1)/\Wk.cell? ⟨lb,lo+j*6,none⟩=some (.int .i64 t2)/\Wk.cell? ⟨lb,lo+j*6+1,none⟩=some (.slice p2 n2 c2)/\Wk.cell? ⟨lb,lo+j*6+2,none⟩=some (.int .i64 l2)/\Wk.cell? ⟨lb,lo+j*6+3,none⟩=some (.int .i64 q2)/\Wk.cell? ⟨lb,lo+j*6+4,none⟩=some (.int .i64 s2)/\Wk.cell? ⟨lb,lo+j*6+5,none⟩=some (.slice r2 m2 d2))
  (first|exact hS.o|exact held_13_0 hb1 (by assumption)|assumption)
  (first
  |(go_at_call 156;(with_reducible refine (HC1.o _).mono ?_);rintro e w1 ⟨rfl,hb1⟩))
 rename_i hT;have HT:=hD hT;clear hbx a0 a1 a2 a3 a4 a5 b0 b1 b2 b3 b4 b5 hS hT hb1;cases x
 ·obtain ⟨hbb,hbx,a0,a1,a2,a3,a4,a5,b0,b1,b2,b3,b4,b5⟩:=HT.o;have hS:=hD (And.intro (below_drewN hbb 1) (And.intro hbx (And.intro a0 (And.intro a1 (And.intro a2 (And.intro a3 (And.intro a4 (And.intro a5 (And.intro b0 (And.intro b1 (And.intro b2 (And.intro b3 (And.intro b4 b5)))))))))))));clear hbb;go_wp2_with fail;go_region_held3 (fun Wk=>Below (W.heap.size) (W) Wk/\Wk.cell? ⟨bx,0,none⟩=some (.slice (some ⟨lb,lo,none⟩) n lc)/\Wk.cell? ⟨lb,lo+i*6,none⟩=some (.int .i64 t1)/\Wk.cell? ⟨lb,lo+i*6+1,none⟩=some (.slice p1 n1 c1)/\Wk.cell? ⟨lb,lo+i*6+2,none⟩=some (.int .i64 l1)/\Wk.cell? ⟨lb,lo+i*6+3,none⟩=some (.int .i64 q1)/\Wk.cell? ⟨lb,lo+i*6+4,none⟩=some (.int .i64 s1)/\Wk.cell? ⟨lb,lo+i*6+5,none⟩=some (.slice r1 m1 d1)/\Wk.cell? ⟨lb,lo+j*6,none⟩=some (.int .i64 t2)/\Wk.cell? ⟨lb,lo+j*6+1,none⟩=some (.slice p2 n2 c2)/\Wk.cell? ⟨lb,lo+j*6+2,none⟩=some (.int .i64 l2)/\Wk.cell? ⟨lb,lo+j*6+3,none⟩=some (.int .i64 q2)/\Wk.cell? ⟨lb,lo+j*6+4,none⟩=some (.int .i64 s2)/\Wk.cell? ⟨lb,lo+j*6+5,none⟩=some (.slice r2 m2 d2))
   (first|exact hS.o|exact held_13_0 hb1 (by assumption)|assumption)
   (first
   |(go_at_call 156;(with_reducible refine (HC2.o _).mono ?_);rintro e w2 ⟨rfl,hb1⟩))
  rename_i hT2;have HB:=hD hT2.1;clear hT2 hS hbx a0 a1 a2 a3 a4 a5 b0 b1 b2 b3 b4 b5 hb1;cases y
  ·exact gO4
  ·exact gO4
 ·have HB:=hD HT.o.1;exact gO4
open Go.RowKit Stab
theorem append_int {ops:Array Oper} {rest:List Oper} {o:Oper} {a:Act} {Q:Exit->Act->World->Prop} (hgd:o.guard=none) (s x:Operand)
 (ho:o.op= .call { callee:= .builtin .append,args:=#[s,x],argTypes:=#[23,23] })
 (base:Nat) (v:Value) (n:Nat) (zs:List Value) (hs:a.eval s=v) (hown:w.ownsRow base 3 1 v n zs) (g:Nat) (z:Int) (hx:a.eval x= .slice (some ⟨g,0,none⟩) 1 1) (hc:w.cell? ⟨g,0,none⟩=some (.int .i64 z)) (hl:n<=1000000) (hbase:base<=w.heap.size)
 (h:∀v' w',w'.ownsRow base 3 1 v' (n+1) (zs++[.int .i64 z])->w.grownBy w' v.ownBlock->wpList Tryz.prog ops Q rest (a.put o.dst v') w'):wpList Tryz.prog ops Q (o::rest) a w:=by
 obtain ⟨i0,hi,hz0,hz1,hz2⟩:=info_parts infoInt;have hcell:∀j u,[Value.int .i64 z][j]?=some u->w.cell? ((⟨g,0,none⟩:Addr).add j)=some u:=by
  exact gY2
 exact wpList_append_own _ hgd s x _ ho base 3 i0 (.int .i64 0) 1 8 Tryz.underlying23 hi hz0 hz1 hz2 rfl dq v n zs hs hown ⟨g,0,none⟩ 1 1 [.int .i64 z] hx rfl hcell (fun u hu=>by simp at hu;subst hu;rfl) (by unfold maxLen;omega) om hbase fun v' w' h1 h2 _=>h v' w' h1 h2
def RetOrd (w:World) (R:List Int->Prop) (e:Ending) (w':World):Prop:=∃v xs,e= .returned v/\IVec w' v xs/\R xs/\Bl w w'
theorem sel_succ_yes (h:(eAt l k).tab=tab):sel l tab (k+1)=sel l tab k++[(k:Int)]:=by
 show sel l tab k++_=_;rw[if_pos h]
theorem sel_succ_no (h:¬(eAt l k).tab=tab):sel l tab (k+1)=sel l tab k:=by
 show sel l tab k++_=_;rw[if_neg h,List.append_nil]
theorem run_makeFunc (fn:Go.Fn) (first cap:Array Value) (w:World):(Instr.makeFunc fn first cap).run Tryz.prog w= .ok (.func fn first cap) w:=rfl
def lsOf (f:Nat->Int) (n:Nat):List Int:=(List.range n).map f
theorem lsOf_len (f:Nat->Int) (n:Nat):(lsOf f n).length=n:=by simp[lsOf]
theorem lsOf_fn (f:Nat->Int) (n i:Nat) (h:i<n):fnOf (lsOf f n) i=f i:=by
 unfold fnOf lsOf;rw[List.getD_eq_getElem?_getD];simp[h]
theorem isOrd_of {f:Nat->Int} (hn:n=(sel l tab l.length).length) (h:MrgOk (tot l) (fnOf (sel l tab l.length)) f 0 n):IsOrd l tab (lsOf f n) where
 len:=(lsOf_len f n).trans hn
 srt:=fun i j h1 h2 h3=>by
  rw[lsOf_len] at h3;rw[lsOf_fn f n i om,lsOf_fn f n j h3];exact h.srt i j h1 h2 h3
 same:=fun x=>by
  rw[lsOf_len];exact (h.same.eq fun i _ hi=>lsOf_fn f n i hi) x
theorem iVec_of {w0:World} {g:Nat} {f:Nat->Int} (S:SWd V w0 g n f w) (hc:n<=cap) (hm:cap<=maxLen):IVec w (.slice (some ⟨g,0,none⟩) n cap) (lsOf f n):=by
 refine ⟨some ⟨g,0,none⟩,cap,by rw[lsOf_len],by rw[lsOf_len];exact hc,hm,fun _=>⟨g,0,rfl,S.glt,fun i hi=>?_⟩⟩;rw[lsOf_len] at hi;rw[Nat.zero_add,S.cell i hi];have:=lsOf_fn f n i hi;unfold fnOf at this;rw[this]
theorem swd_of {g:Nat} {cur:Array Value} {zs:List Int} (hz:zs.length=n) (h3:w.heap[g]?=some (.cells cur 3 (0,0))) (_h4:n<=cap) (_h6:cur.size=cap*1) (h7:cur.toList.take (n*1)=zs.map (Value.int .i64)) (hV:∀i,i<n->V (fnOf zs i)):SWd V w g n (fnOf zs) w:=by
 have hlt:g<w.heap.size:=(gA_ h3).1;refine ⟨fun i hi=>⟨?_,?_⟩,World.grownBy.refl w _,hlt,hV⟩
 ·simp only[World.cell?,h3];have h8:(cur.toList.take (n*1))[i]?=some (.int .i64 (fnOf zs i)):=by
   rw[h7];unfold fnOf;rw[List.getD_eq_getElem?_getD];simp[hz ▸ hi]
  rw[List.getElem?_take_of_lt om] at h8;simpa using h8
 simp[World.frozen?,h3]
theorem order_any (l:List Ent) (tab:Int) (lv:Value) (w:World) (hl:ERow w lv l) (hn:l.length<=40):
 Calls Tryz.prog 128 #[lv, .int .i64 tab] w (RetOrd w (IsOrd l tab)):=by
 obtain ⟨la,lc,rfl,hc1,hc2⟩:=hl.shape;have HL:=hD hl;clear hl;have hmf:=run_makeFunc;obtain ⟨n,hnn⟩:=nm l.length;rw[<- hnn] at hn hc1 HL⊢;have HN:=hD hnn;clear hnn;have hcz:(n:Int)<=(lc:Int):=om;go_enter Tryz.func128,Tryz.ntmps128;go_wp2_with fail;have hb0:Bl w (w.alloc (.cells #[.slice la n lc] 34)):=bL;generalize hX:w.alloc (.cells #[.slice la n lc] 34)=X at hb0;have hbx:X.cell? ⟨w.heap.size,0,none⟩=some (.slice la n lc):=by rw[<- hX];simp[go_sem]
 have hsx:X.heap.size=w.heap.size+1:=by rw[<- hX];simp
 have hbelow:∀W,Bl X W->Bl w W/\W.cell? ⟨w.heap.size,0,none⟩=some (.slice la n lc):=fun W hW=>⟨hb0.trans (hW.mono hb0.size),(hW.cell (p:=⟨w.heap.size,0,none⟩) (by rw[hsx];exact Nat.lt_succ_self _)).trans hbx⟩
 have HX:=hD hbelow;have HSX:=hD hsx;clear hX hb0 hbelow hsx;go_loopw [4,5,6,9] (fun v u u' i wr=>∃k:Nat,k<=n/\i= .int .i64 k/\Hd (wr.ownsRow X.heap.size 3 1 v (sel l tab k).length ((sel l tab k).map (Value.int .i64)))/\Hd (Bl X wr)) (fun _ _ _ i _=>n-(intOf i).toNat)
 case atStart=>exact ⟨0,zl,rfl,⟨by simp[sel], .inl ⟨rfl,rfl⟩⟩,Below.refl _ _⟩
 case round=>
  obtain ⟨k,hk,rfl,HO,HW⟩:=hrel;by_cases hlt:k<n
  ·obtain ⟨lb,lo,lc',he,hlb,hek⟩:=(HL.o.below keepE (HX.o _ HW.o).1).at (eAt_nat l k (by have:=HN.o;omega));simp only[Value.slice.injEq] at he;obtain ⟨rfl,-,-⟩:=he;obtain ⟨p1,n1,c1,r1,m1,d1,a0,a1,a2,a3,a4,a5,-,-⟩:=hek.six;obtain ⟨t1,e1⟩:=nm ((eAt l k).tab);rw[<- e1] at a0;have HE:=hD e1;have z1:(k:Int)<(n:Int):=om;clear hek e1;by_cases ht:t1=tab
   ·subst ht;have HS:Hd (sel l t1 (k+1)=sel l t1 k++[(k:Int)]):=sel_succ_yes HE.o.symm;have HSL:=hD (sel_len l t1 k);have HLN:Hd ((sel l t1 k).length<=1000000):=by show _<=_;have:=HSL.o;omega
    have HZ:Hd (X.heap.size<=wr.heap.size):=HW.o.size;go_wp2_with (refine append_int rfl (.tmp 18) (.tmp 20) rfl X.heap.size u4 _ _ rfl ((HO.o.alloc _).alloc _) (wr.heap.size+1) (k:Int) rfl (by simp[go_sem]) HLN.o (by have:=HZ.o;simp only[World.size_alloc];omega) ?_;intro v' w' h1 h2;have HO2:=hD h1;have HW2:Hd (Bl X w'):=below_grown ((HW.o.alloc HZ.o _).alloc (by have:=HZ.o;simp only[World.size_alloc];omega) _) ((HO.o.alloc _).alloc _) h2 lr (by have:=HZ.o;simp only[World.size_alloc];omega);clear h1 h2);go_roundw
    case rel=>exact ⟨k+1,om,by go_num,by have:=HO2.o;show World.ownsRow _ _ _ _ _ _ _;rw[HS.o];simpa using this,HW2⟩
    case measure=>exact mz
   have HS:Hd (sel l tab (k+1)=sel l tab k):=sel_succ_no (fun q=>ht (HE.o.trans q));have hne:(t1==tab)=false:=by rw[beq_eq_false_iff_ne];exact ht
   have HO2:∀o,Hd ((wr.alloc o).ownsRow X.heap.size 3 1 u4 (sel l tab (k+1)).length ((sel l tab (k+1)).map (Value.int .i64))):=fun o=>by rw[HS.o];exact HO.o.alloc _
   have HW2:∀o,Hd (Bl X (wr.alloc o)):=fun o=>HW.o.alloc HW.o.size o
   go_wp2_with fail;go_roundw
   case rel=>exact ⟨k+1,om,by go_num,HO2 _,HW2 _⟩
   case measure=>exact mz
  obtain rfl:k=n:=om;have hval:=HO.o.2;have HV:Hd (∀ i,i<(sel l tab k).length->(0<=fnOf (sel l tab k) i/\fnOf (sel l tab k) i<(l.length:Int))):=fun i hi=>by
   have:=sel_lt l tab hi;have h2:=HN.o;unfold fnOf;omega
  have HASC:Hd (∀ p q,p<q->q<(sel l tab k).length->fnOf (sel l tab k) p<fnOf (sel l tab k) q):=sel_asc l tab k;have HLEN:=hD (sel_len l tab k);rcases hval with ⟨rfl,he⟩|⟨g,cap,cur,rfl,q2,q3,q4,q5,q6,q7⟩
  ·have h0:(sel l tab k).length=0:=by simpa using he
   have HH0:=hD h0;clear he h0;go_wp2_with fail;refine (sort_nil none 0 _ _).mono ?_;rintro e w1 ⟨rfl,rfl⟩;go_wp2_with fail;go_ret;refine ⟨_,[],rfl,IVec.nil _,⟨by rw[<- HN.o];exact HH0.o.symm,fun i j _ _ h=>by simp at h,fun x=>⟨fun ⟨i,_,h,_⟩=>by simp at h,fun ⟨i,_,h,_⟩=>by simp at h⟩⟩,(HX.o _ HW.o).1⟩
  have HO1:=hD (And.intro q2 (And.intro q3 (And.intro q4 (And.intro q5 (And.intro q6 q7)))));clear q2 q3 q4 q5 q6 q7;have hcm:=fun (i j:Nat) (W:World) (h1:i<l.length) (h2:j<l.length) (hW:Bl X W)=>cmp_any l (.slice la k lc) w.heap.size i j W (HL.o.below keepE (HX.o W hW).1) (by have:=HN.o;omega) h1 h2 (HX.o W hW).2
  have HC:Hd (CmpOk (fun x=>0<=x/\x<(l.length:Int)) wr g 155 #[.pointer (some ⟨w.heap.size,0,none⟩)] (cmpE l)):=by
   refine ⟨fun av W=>by kernel_rfl,fun W hW x y hx hy=>?_⟩;obtain ⟨i,rfl⟩:∃i:Nat,x=(i:Int):=⟨x.toNat,om⟩;obtain ⟨j,rfl⟩:∃j:Nat,y=(j:Int):=⟨y.toNat,om⟩;exact hcm i j W om om (HW.o.grown hW HW.o.size (fun q h=>by cases h;exact HO1.o.1))
  have HK:Hd (Calls Tryz.prog 154 #[.slice (some ⟨g,0,none⟩) (sel l tab k).length cap, .func (.func 155) #[] #[.pointer (some ⟨w.heap.size,0,none⟩)]] wr (SOk (fun x=>0<=x/\x<(l.length:Int)) wr g (sel l tab k).length (fun f'=>MrgOk (tot l) (fnOf (sel l tab k)) f' 0 (sel l tab k).length))):=
   sort_any _ (tot l) (tot_ord l) wr g _ cap _ _ (cmpE l) HC.o (fun x y h=>cmpE_neg h) (fnOf (sel l tab k)) wr (by have:=HLEN.o;omega) HASC.o (swd_of rfl HO1.o.2.1 HO1.o.2.2.1 HO1.o.2.2.2.2.1 HO1.o.2.2.2.2.2 HV.o)
  clear hcm;obtain ⟨z,hz⟩:=nm ((sel l tab k).length);rw[<- hz] at HK⊢;have HZ:=hD hz;clear hz;go_wp2_with fail;refine HK.o.mono ?_;rintro e w1 ⟨rfl,f1,S1,M1⟩;have HS:=hD S1;have HM:=hD M1;clear S1 M1 HK;go_wp2_with fail;go_ret;have hB1:Bl X w1:=HW.o.grown HS.o.gr HW.o.size (fun q h=>by cases h;exact HO1.o.1);exact ⟨_,lsOf f1 z,rfl,iVec_of HS.o (by rw[HZ.o];exact HO1.o.2.2.1) HO1.o.2.2.2.1,isOrd_of (by rw[<- HN.o];exact HZ.o) (by rw[<- HN.o];exact HM.o),(HX.o _ hB1).1⟩
open Go.RowKit Stab
theorem fnOf_mem {x:Int}:(∃ i,0<=i/\i<xs.length/\fnOf xs i=x)↔x∈xs:=by
 rw[List.mem_iff_getElem];constructor
 ·rintro ⟨i,-,hi,e⟩;exact ⟨i,hi,by unfold fnOf at e;rw[List.getD_eq_getElem?_getD,gE_ hi] at e;exact e⟩
 rintro ⟨i,hi,e⟩;exact ⟨i,zl,hi,by unfold fnOf;rw[List.getD_eq_getElem?_getD,gE_ hi];exact e⟩
theorem fnOf_at {i:Nat} (hi:i<xs.length):fnOf xs i=xs[i]:=by
 unfold fnOf;rw[List.getD_eq_getElem?_getD,gE_ hi];rfl
open Go.RowKit Stab
def Best (l:List Ent) (tab:Int) (ks:List Nat) (k:Nat) (c:Int):Prop:=
 (c= -1/\∀j:Nat,j<k->matB (eAt l j) tab ks=false)\/
 (0<=c/\c<k/\matB (eAt l c) tab ks=true/\∀j:Nat,j<k->matB (eAt l j) tab ks=true->(j:Int)=c\/tot l c j=true)
theorem Best.unique {c d:Int} (h:Best l tab ks k c) (h2:Best l tab ks k d):c=d:=by
 rcases h with ⟨rfl,h⟩|⟨a1,a2,a3,a4⟩<;>rcases h2 with ⟨rfl,g⟩|⟨b1,b2,b3,b4⟩
 ·rfl
 ·obtain ⟨d,rfl⟩:∃n:Nat,d=(n:Int):=⟨d.toNat,om⟩;rw[h d om] at b3;cases b3
 ·obtain ⟨c,rfl⟩:∃n:Nat,c=(n:Int):=⟨c.toNat,om⟩;rw[g c om] at a3;cases a3
 obtain ⟨d,rfl⟩:∃n:Nat,d=(n:Int):=⟨d.toNat,om⟩;obtain ⟨c,rfl⟩:∃n:Nat,c=(n:Int):=⟨c.toNat,om⟩;rcases a4 d om b3 with e|e
 ·exact e.symm
 rcases b4 c om a3 with e2|e2
 ·exact e2
 rw[(tot_ord l).asym e] at e2;cases e2
theorem Best.zero (l:List Ent) (tab:Int) (ks:List Nat):Best l tab ks 0 (-1):= .inl ⟨rfl,fun j h=>absurd h om⟩
theorem Best.no {c:Int} (h:Best l tab ks k c) (hm:matB (eAt l k) tab ks=false):Best l tab ks (k+1) c:=by
 rcases h with ⟨rfl,h⟩|⟨a1,a2,a3,a4⟩
 ·refine .inl ⟨rfl,fun j hj=>?_⟩;by_cases e:j=k
  ·subst e;exact hm
  exact h j om
 refine .inr ⟨a1,om,a3,fun j hj hmj=>?_⟩;by_cases e:j=k
 ·subst e;rw[hm] at hmj;cases hmj
 exact a4 j om hmj
theorem Best.first (h:Best l tab ks k (-1)) (hm:matB (eAt l k) tab ks=true):Best l tab ks (k+1) k:=by
 rcases h with ⟨-,h⟩|⟨a1,-⟩
 ·refine .inr ⟨om,om,hm,fun j hj hmj=>?_⟩;by_cases e:j=k
  ·exact .inl om
  rw[h j om] at hmj;cases hmj
 omega
theorem Best.next (h:Best l tab ks k (c:Int)) (hm:matB (eAt l k) tab ks=true) (hl:lts l k c=true):Best l tab ks (k+1) k:=by
 rcases h with ⟨h,-⟩|⟨a1,a2,a3,a4⟩
 ·omega
 rw[<- tot_lts a2] at hl;refine .inr ⟨om,om,hm,fun j hj hmj=>?_⟩;by_cases e:j=k
 ·exact .inl om
 rcases a4 j om hmj with e2|e2
 ·right;rw[e2];exact hl
 exact .inr ((tot_ord l).tr _ _ _ hl e2)
theorem Best.keep (h:Best l tab ks k (c:Int)) (hl:lts l k c=false):Best l tab ks (k+1) c:=by
 rcases h with ⟨h,-⟩|⟨a1,a2,a3,a4⟩
 ·omega
 rw[<- tot_lts a2] at hl;refine .inr ⟨om,om,a3,fun j hj hmj=>?_⟩;by_cases e:j=k
 ·subst e;exact .inr ((tot_ord l).tot _ _ om hl)
 exact a4 j om hmj
theorem matB_mem (h:IsOrd l tab xs) (hj:j<l.length) (hm:matB (eAt l j) tab ks=true):(j:Int)∈xs:=by
 rw[h.mem];refine ⟨om,om,?_⟩;by_cases e:(eAt l (j:Int)).tab=tab
 ·exact e
 rw[matB_tab e] at hm;cases hm
theorem IsOrd.best (h:IsOrd l tab xs) (hk:k<xs.length) (hno:∀j,j<k->matB (eAt l (fnOf xs j)) tab ks=false) (hm:matB (eAt l (fnOf xs k)) tab ks=true):Best l tab ks l.length (fnOf xs k):=by
 have hmem:fnOf xs k∈xs:=by rw[fnOf_at hk];exact List.getElem_mem _
 have hb:=h.mem.1 hmem;refine .inr ⟨hb.1,hb.2.1,hm,fun j hj hmj=>?_⟩;obtain ⟨i,-,hi,hij⟩:=fnOf_mem.2 (matB_mem h hj hmj);by_cases e:i=k
 ·left;rw[<- e];exact hij.symm
 right;by_cases e2:i<k
 ·have:=hno i e2;rw[hij,hmj] at this;cases this
 rw[<- hij];exact h.srt k i (zl) om hi
theorem IsOrd.none (h:IsOrd l tab xs) (hno:∀j,j<xs.length->matB (eAt l (fnOf xs j)) tab ks=false):Best l tab ks l.length (-1):=by
 refine .inl ⟨rfl,fun j hj=>?_⟩;cases hm:matB (eAt l j) tab ks
 ·rfl
 ·obtain ⟨i,-,hi,hij⟩:=fnOf_mem.2 (matB_mem h hj hm);have:=hno i hi;rw[hij,hm] at this;exact this
def RetBest (w:World) (l:List Ent) (tab:Int) (ks:List Nat) (e:Ending) (w':World):Prop:=∃c,e= .returned (.int .i64 c)/\Best l tab ks l.length c/\Bl w w'
open Go.RowKit Stab
def numC (n:Nat):List Value:=[.int .u64 ((n/B:Nat):Int), .int .u64 ((n%B:Nat):Int)]
theorem flatGN:FlatG 2 NAt numC where
 len:=fun _=>rfl
 one:=fun x u hu=>by
  unfold numC at hu;simp at hu;rcases hu with rfl|rfl<;>rfl
 get:=fun w b o x h i v hi=>by
  match i,hi with
  |0,hi=>cases hi;exact h.2.1
  |1,hi=>cases hi;exact h.2.2
theorem putN (hn:n<B*B) (h:CellsAt w b o (numC n)):NAt w b o n:=⟨hn,h 0 _ rfl,h 1 _ rfl⟩
theorem elemNum:ElemOk 43 82 (.agg #[.int .u64 0, .int .u64 0]) 2 16:=⟨Tryz.underlying43,infoNum,rfl,by decide⟩
def Nums (l:List Nat):Prop:=∀n∈l,n<B*B
theorem RowAt.nums {l:List Nat} (h:NRow w v l):Nums l:=by
 intro n hn;obtain ⟨j,hj,rfl⟩:=List.mem_iff_getElem.1 hn;obtain ⟨pa,cap,-,-,-,-,h5⟩:=h;obtain ⟨b,o,-,-,h6⟩:=h5 om;exact (h6 j _ (gE_ hj)).1
def NOwn (base:Nat) (w:World) (v:Value) (l:List Nat):Prop:=w.ownsRow base 82 2 v l.length (l.flatMap numC)/\Nums l
theorem NOwn.row {l:List Nat} (h:NOwn base w v l):NRow w v l:=
 RowAt.of_flatG flatGN.len rfl h.1 fun x hx _b _o=>putN (h.2 x hx)
theorem cloneN_any (l:List Nat) (v:Value) (w:World) (hv:NRow w v l) (hl:l.length<=1000000):
 Calls Tryz.prog 124 #[v] w fun e w'=>∃v',e= .returned v'/\NOwn w.heap.size w' v' l/\Bl w w':=by
 have HN:=hD hv.nums;have HV:=hD hv;obtain ⟨pa,ca,rfl,h1,h2,h3,-⟩:=hv.all;clear hv;cases pa with
 |none=>
  obtain rfl:=h3 rfl;obtain rfl:l=[]:=List.eq_nil_of_length_eq_zero om;clear h1 h2 h3 hl HV;have q:(Go.binOp .eql 43 (.slice none 0 0) (.slice none 0 0)).run Tryz.prog w= .ok (.bool true) w:=Lib.run_eql_slice_nil w _ _ none 0 0 0 0 Tryz.underlying43;go_enter Tryz.func124,Tryz.ntmps124;go_wp2_with fail;go_ret;exact ⟨_,rfl,⟨World.ownsRow_nil _ _ _ _,HN.o⟩,Below.refl _ _⟩
 |some ad=>
  clear h3;have q:∀m,(Go.binOp .eql 43 (.slice (some ad) m ca) (.slice none 0 0)).run Tryz.prog w= .ok (.bool false) w:=fun m=>Lib.run_eql_slice_nil w _ _ (some ad) m ca 0 0 Tryz.underlying43
  obtain ⟨n,hn⟩:=nm l.length;have S1:Hd (∀ W,Bl w W->SrcAt W 2 (.slice (some ad) n ca) n (l.flatMap numC)):=fun W hW=>by rw[hn];exact (HV.o.below keepN hW).src flatGN
  rw[<- hn] at hl h1⊢;have HNN:=hD hn;clear hn;go_enter Tryz.func124,Tryz.ntmps124;go_wp2_with (at_builtin;refine append_gen elemNum rfl (.tmp 5) (.tmp 6) rfl w.heap.size (.slice (some ⟨w.heap.size,0,none⟩) 0 0) 0 [] rfl (owns_made0 w 82 2) (.slice (some ad) n ca) n _ rfl (S1.o _ (br.alloc lr _)) om (by unfold maxLen;omega) sm ?_;intro y1 w1 g1 g2;have HO1:=hD g1;have HB1:Hd (Bl w w1):=below_grown (br.alloc lr _) (owns_made0 w 82 2) g2 lr sm;clear g1 g2);go_ret;refine ⟨_,rfl,⟨?_,HN.o⟩,HB1.o⟩;have:=HO1.o;rw[Nat.zero_add,List.nil_append,HNN.o] at this;exact this
def Look (l:List Ent) (tab:Int) (ks:List Nat) (a0:Int) (g0:List Nat) (a:Int) (g:List Nat):Prop:=∃c,Best l tab ks l.length c/\a=(if c<0 then a0 else (eAt l c).act)/\g=(if c<0 then g0 else (eAt l c).args)
theorem Look.unique {a0 a b:Int} {g0 g h:List Nat} (x:Look l tab ks a0 g0 a g) (y:Look l tab ks a0 g0 b h):a=b/\g=h:=by
 obtain ⟨c,h1,h2,h3⟩:=x;obtain ⟨d,k1,k2,k3⟩:=y;obtain rfl:=h1.unique k1;exact ⟨h2.trans k2.symm,h3.trans k3.symm⟩
def RetRunO (w:World) (R:Int->List Nat->Prop) (e:Ending) (w':World):Prop:=∃a g v,e= .returned (.agg #[.int .i64 a,v])/\R a g/\NOwn w.heap.size w' v g/\Bl w w'
theorem NOwn.mono {base':Nat} {l:List Nat} (h:NOwn base w v l) (hb:base'<=base):NOwn base' w v l:=by
 obtain ⟨⟨h1,h2⟩,h3⟩:=h;refine ⟨⟨h1,?_⟩,h3⟩;rcases h2 with h2|⟨g,cap,cur,q1,q2,q3⟩
 ·exact .inl h2
 exact .inr ⟨g,cap,cur,q1,om,q3⟩
theorem NOwn.at {w':World} {l:List Nat} (h:NOwn base w v l) (hk:∀k,base<=k->w'.heap[k]?=w.heap[k]?):NOwn base w' v l:=by
 obtain ⟨⟨h1,h2⟩,h3⟩:=h;refine ⟨⟨h1,?_⟩,h3⟩;rcases h2 with h2|⟨g,cap,cur,q1,q2,q3,q4⟩
 ·exact .inl h2
 exact .inr ⟨g,cap,cur,q1,q2,by rw[hk g q2];exact q3,q4⟩
theorem NOwn.shape {l:List Nat} (h:NOwn base w v l):∃p c,v= .slice p l.length c:=by
 rcases h.1.2 with ⟨h2,h3⟩|⟨g,cap,cur,q1,-⟩
 ·exact ⟨_,_,by rw[h2,h3]⟩
 exact ⟨_,_,q1⟩
end Go.Proofs.YtikilcbpogfgkaaGreat

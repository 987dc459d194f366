/- Lemmas. -/
import Derived.Test.YtjfhfaodbjecdaaGreatRows
import Derived.Lib.Hide
import Derived.Deep.LoopGhost
import Derived.Deep.RegionWith
import Derived.WalkSpells
import Derived.WalkLawsBesides
import Derived.Deep.AppendLies
import Derived.Laws.AppendOwnNone
import Derived.BigQuiet
import Derived.StillTailTactics
set_option maxHeartbeats 400000
set_option maxRecDepth 100000
namespace Go.Proofs.YtjfhfaodbjecdaaGreat
open Go.RowKit
variable {P:Prop} {W w w':World} {xs:List Value} {base e size n j E c sz fuel:Nat} {α:Type} {state:Int} {aQ now:List Int}
def Hd (p:Prop):Prop:=p
theorem Hd.o {p:Prop} (h:Hd p):p:=h
theorem br {n:Nat} {w:World}:Below n w w:=Below.refl _ _
theorem lr {n:Nat}:n<=n:=Nat.le_refl _
theorem zl {n:Nat}:0<=n:=Nat.zero_le _
theorem sm {P:Prop} (h:P:=by simp):P:=h
theorem bV {A:Type _} {a:Array A} {i:Nat} {v:A} (h:a[i]?=some v):∃h:i<a.size,a[i]=v:=Array.getElem?_eq_some_iff.1 h
theorem bO {A:Type _} {l:List A} {i:Nat} {v:A} (h:l[i]?=some v):∃h:i<l.length,l[i]=v:=List.getElem?_eq_some_iff.1 h
theorem bS {A:Type _} {l:List A} {i:Nat} (h:i<l.length):l[i]?=some l[i]:=List.getElem?_eq_getElem h
theorem cX {A:Type _} {l:List A} {i:Nat} {v:A} (h:l[i]?=some v):v∈l:=List.mem_of_getElem? h
theorem om (h : P := by omega) : P := h
theorem kq (h : P := by kernel_rfl) : P := h
theorem dq (h : P := by decide) : P := h
theorem mz (h : P := by simp[intOf];omega) : P := h
theorem nm {A : Sort _} (x : A) : ∃ z, z = x := ⟨_, rfl⟩
abbrev Bl (w W : World) : Prop := Below w.heap.size w W
@[simp] abbrev Cl (w : World) (b o : Nat) (v : Value) : Prop := w.cell? ⟨b, o, none⟩ = some v
abbrev CR (f : FuncId) (vs : Array Value) (W : World) (v : Value) : Prop := Calls Tryz.prog f vs W fun e w' => e = .returned v ∧ Below W.heap.size W w'
theorem bT {w1:World} (hb:Bl W w1):(∀ b o,b<W.heap.size->w1.cell? ⟨b,o,none⟩=W.cell? ⟨b,o,none⟩)/\(∀ b o,b<W.heap.size->w1.frozen? ⟨b,o,none⟩=W.frozen? ⟨b,o,none⟩):=
 ⟨fun b o h=>hb.cell (p:=⟨b,o,none⟩) h,fun b o h=>hb.frozen (p:=⟨b,o,none⟩) h⟩
def IVec (w:World) (v:Value) (xs:List Int):Prop:=
 ∃pa cap,v= .slice pa xs.length cap/\xs.length<=cap/\cap<=maxLen/\
  (0<xs.length->∃b off,pa=some ⟨b,off,none⟩/\b<w.heap.size/\∀i,i<xs.length->w.cell? ⟨b,off+i,none⟩=some (.int .i64 (xs.getD i 0)))
theorem IVec.nil (w:World):IVec w (.slice none 0 0) []:=⟨none,0,rfl,Nat.le_refl _,zl,fun h=>absurd h (Nat.lt_irrefl 0)⟩
theorem IVec.shape {v:Value} {xs:List Int} (h:IVec w v xs):∃pa cap,v= .slice pa xs.length cap/\xs.length<=cap/\cap<=maxLen/\
 (0<xs.length->∃b off,pa=some ⟨b,off,none⟩/\b<w.heap.size/\∀i,i<xs.length->w.cell? ⟨b,off+i,none⟩=some (.int .i64 (xs.getD i 0))):=h
theorem af {a:Addr} {v:Value} (h:w.cell? a=some v):a.block<w.heap.size/\a.spot=none:=by
 unfold World.cell? at h;split at h
 ·rename_i c t f hb;refine ⟨(bV hb).1,?_⟩;split at h
  ·cases h
  rename_i hs;simpa using hs
 cases h
theorem nH {v:Value} (h:w.ownsRow base e size v n xs) (hb:Bl w w'):w'.ownsRow base e size v n xs:=by
 obtain ⟨hl,h⟩:=h;refine ⟨hl,?_⟩;rcases h with h|⟨g,cap,cur,h1,h2,h3,h4⟩
 ·exact .inl h
 have hlt:g<w.heap.size:=by
  rcases Nat.lt_or_ge g w.heap.size with h|h
  ·exact h
  rw[Array.getElem?_eq_none h] at h3;cases h3
 exact .inr ⟨g,cap,cur,h1,h2,by rw[hb.block g hlt];exact h3,h4⟩
theorem bL (h : Below n w W := by repeat (first|exact br|assumption|refine Below.drew ?_|refine Eb ?_|refine Ec ?_|refine Ed ?_ (by assumption))) : Below n w W := h
theorem hD (h:P):Hd P:=h
theorem Eb {o:Obj} (h:Below n w W) (hn:n<=W.heap.size:=by first|omega|(simp<;>omega)):Below n w (W.alloc o):=Below.alloc h hn o
theorem Ec {p:Addr} {v:Value} (h:Below n w W) (hn:n<=p.block:=by first|omega|(simp<;>omega)):Below n w (W.setCell p v):=Below.setCell h hn v
theorem Ed {m:Nat} {v:World} (h:Below n w v) (h2:Below m v W) (hn:n<=m:=by first|omega|(simp<;>omega)):Below n w W:=Below.trans h (Below.mono h2 hn)
open Go.RowKit
def RowAt {α:Type} (sz:Nat) (At:World->Nat->Nat->α->Prop) (w:World) (v:Value) (l:List α):Prop:=
 ∃pa cap,v= .slice pa l.length cap/\l.length<=cap/\cap<=maxLen/\(pa=none->cap=0)/\
  (0<l.length->∃b o,pa=some ⟨b,o,none⟩/\b<w.heap.size/\∀j x,l[j]?=some x->At w b (o+j*sz) x)
def cG {α:Type} (At:World->Nat->Nat->α->Prop):Prop:=∀(w w':World) (b o:Nat) (x:α),Bl w w'->b<w.heap.size->At w b o x->At w' b o x
section
variable {α:Type} {sz:Nat} {At:World->Nat->Nat->α->Prop} {w w':World} {v:Value} {l:List α}
theorem RowAt.nil:RowAt sz At w (.slice none 0 0) ([]:List α):=⟨none,0,rfl,Nat.le_refl _,zl,fun _=>rfl,fun h=>absurd h (Nat.lt_irrefl 0)⟩
theorem RowAt.below (h:RowAt sz At w v l) (hk:cG At) (hb:Bl w w'):RowAt sz At w' v l:=by
 obtain ⟨pa,cap,h1,h2,h3,h4,h5⟩:=h;refine ⟨pa,cap,h1,h2,h3,h4,fun h0=>?_⟩;obtain ⟨b,o,e1,e2,e4⟩:=h5 h0;exact ⟨b,o,e1,Nat.lt_of_lt_of_le e2 hb.size,fun j x hj=>hk w w' b _ x hb e2 (e4 j x hj)⟩
theorem RowAt.shape (h:RowAt sz At w v l):∃pa cap,v= .slice pa l.length cap/\l.length<=cap/\cap<=maxLen:=by
 obtain ⟨pa,cap,h1,h2,h3,-⟩:=h;exact ⟨pa,cap,h1,h2,h3⟩
theorem RowAt.at (h:RowAt sz At w v l) {x:α} (hj:l[j]?=some x):∃b o cap,v= .slice (some ⟨b,o,none⟩) l.length cap/\b<w.heap.size/\At w b (o+j*sz) x:=by
 obtain ⟨pa,cap,h1,h2,h3,h4,h5⟩:=h;have hlt:j<l.length:=(bO hj).1;obtain ⟨b,o,rfl,e2,e4⟩:=h5 om;exact ⟨b,o,cap,h1,e2,e4 j x hj⟩
theorem RowAt.all (h:RowAt sz At w v l):∃pa cap,v= .slice pa l.length cap/\l.length<=cap/\cap<=maxLen/\(pa=none->cap=0)/\
 (0<l.length->∃b o,pa=some ⟨b,o,none⟩/\b<w.heap.size/\∀j x,l[j]?=some x->At w b (o+j*sz) x):=h
end
def CellsAt (w:World) (b o:Nat) (cs:List Value):Prop:=∀i v,cs[i]?=some v->w.cell? ⟨b,o+i,none⟩=some v
open Go
def B:Nat:=18446744073709551616
theorem fx:B=2 ^ 64:=rfl
theorem sG:0<B:=by unfold B;omega
def aC (n:Nat):Value:= .agg #[.int .u64 ((n/B:Nat):Int), .int .u64 ((n%B:Nat):Int)]
def sh (k:Int):Nat:=(max 0 (min k 128)).toNat
theorem ld (k:Int):sh k<=128:=by unfold sh;omega
theorem ae (n:Nat):∃h l:Nat,aC n= .agg #[.int .u64 (h:Int), .int .u64 (l:Int)]/\h=n/B/\l=n%B:=⟨_,_,rfl,rfl,rfl⟩
theorem fA (h l:Nat) (hl:l<B):Value.agg #[.int .u64 (h:Int), .int .u64 (l:Int)]=aC (h*B+l):=by
 unfold aC;have e1:(h*B+l)/B=h:=by rw[Nat.add_comm,Nat.add_mul_div_right _ _ sG,Nat.div_eq_of_lt hl,Nat.zero_add]
 have e2:(h*B+l)%B=l:=by rw[Nat.add_comm,Nat.add_mul_mod_self_right,Nat.mod_eq_of_lt hl]
 rw[e1,e2]
theorem dB (h:n<B*B):n/B<B:=Nat.div_lt_of_lt_mul h
theorem eJ (n:Nat):n%B<B:=Nat.mod_lt _ sG
theorem je (n:Nat):n/B*B+n%B=n:=by rw[Nat.mul_comm];exact Nat.div_add_mod n B
theorem ee (x:Nat):IntKind.u64.wrap (x:Int)=((x%B:Nat):Int):=by rw[IntKind.wrap_u64];unfold B;omega
theorem kH (a b:Nat) (ha:a<B) (hb:b<B):bits .or .u64 (a:Int) (b:Int)=((a ||| b:Nat):Int):=u64_or_nat a b ha hb
theorem pJ (a b:Nat) (ha:a<B) (hb:b<B):bits .and .u64 (a:Int) (b:Int)=((a &&& b:Nat):Int):=u64_and_nat a b ha hb
theorem pK (a b:Nat) (ha:a<B) (hb:b<B):bits .xor .u64 (a:Int) (b:Int)=((a ^^^ b:Nat):Int):=u64_xor_nat a b ha hb
theorem lf (s:Nat) (h:s<=64):2 ^ s*2 ^ (64-s)=B:=by rw[<- Nat.pow_add,fx];congr 1;omega
theorem tD (h l t u:Nat) (htu:t*u=B) (ht:0<t) (hu:0<u) (hl:l<B):
 (h*B+l)/t=(h/t)*B+((h%t)*u+l/t)/\l/t<u/\(h%t)*u+l/t<B:=by
 have hlt:l/t<u:=Nat.div_lt_of_lt_mul (by rw[htu];exact hl);refine ⟨?_,hlt,?_⟩
 ·have e:h*B+l=t*(h*u)+l:=by rw[<- htu];congr 1;rw[Nat.mul_left_comm]
  rw[e,Nat.mul_add_div ht];have e2:h*u=(h/t)*B+(h%t)*u:=by
   conv=>lhs;rw[<- Nat.div_add_mod h t]
   rw[Nat.add_mul, <-htu];congr 1;rw[Nat.mul_comm t,Nat.mul_assoc]
  rw[e2,Nat.add_assoc]
 have h1:h%t<t:=Nat.mod_lt _ ht;have h2:(h%t+1)*u<=t*u:=Nat.mul_le_mul_right u h1;rw[Nat.add_mul,Nat.one_mul,htu] at h2;omega
theorem tE (h l s:Nat) (hh:h<B) (hl:l<B) (h0:s<64):
 Value.agg #[.int .u64 ((h:Int)/2 ^ s), .int .u64 (bits .or .u64 ((l:Int)/2 ^ s) (IntKind.u64.wrap ((h:Int)*2 ^ (64-s))))]=aC ((h*B+l)/2 ^ s):=by
 have htu:=lf s om;have ht:0<2 ^ s:=Nat.two_pow_pos s;have hu:0<2 ^ (64-s):=Nat.two_pow_pos _;obtain ⟨e1,e2,e3⟩:=tD h l (2 ^ s) (2 ^ (64-s)) htu ht hu hl;have c1:(h:Int)/2 ^ s=((h/2 ^ s:Nat):Int):=by push_cast;rfl
 have c2:(l:Int)/2 ^ s=((l/2 ^ s:Nat):Int):=by push_cast;rfl
 have c3:(h:Int)*2 ^ (64-s)=((h*2 ^ (64-s):Nat):Int):=by push_cast;rfl
 have hm:h*2 ^ (64-s)%B=(h%2 ^ s)*2 ^ (64-s):=by rw[<- htu,Nat.mul_mod_mul_right]
 rw[c1,c2,c3,ee,hm,kH _ _ (Nat.lt_of_le_of_lt (Nat.div_le_self _ _) hl) (Nat.lt_of_le_of_lt (Nat.le_add_right _ _) e3),Nat.or_comm,nat_join (64-s) _ _ (by rw[Nat.mul_mod_left]) e2,fA _ _ e3,e1]
theorem tF (h l s:Nat) (hh:h<B) (hl:l<B) (h0:64<=s):
 Value.agg #[.int .u64 0, .int .u64 ((h:Int)/2 ^ (s-64))]=aC ((h*B+l)/2 ^ s):=by
 have c1:(h:Int)/2 ^ (s-64)=((h/2 ^ (s-64):Nat):Int):=by push_cast;rfl
 have e:(h*B+l)/2 ^ s=h/2 ^ (s-64):=by
  have:2 ^ s=B*2 ^ (s-64):=by rw[fx, <-Nat.pow_add];congr 1;omega
  rw[this, <-Nat.div_div_eq_div_mul,Nat.add_comm,Nat.add_mul_div_right _ _ sG,Nat.div_eq_of_lt hl,Nat.zero_add]
 have h2:=fA 0 (h/2 ^ (s-64)) (Nat.lt_of_le_of_lt (Nat.div_le_self _ _) hh);rw[c1,e];rw[Nat.zero_mul,Nat.zero_add] at h2;exact h2
theorem tG (h l s:Nat) (hh:h<B) (hl:l<B) (h0:s<64):
 Value.agg #[.int .u64 (bits .or .u64 (IntKind.u64.wrap ((h:Int)*2 ^ s)) ((l:Int)/2 ^ (64-s))), .int .u64 (IntKind.u64.wrap ((l:Int)*2 ^ s))]=aC ((h*B+l)*2 ^ s%(B*B)):=by
 have htu:=lf s om;have ht:0<2 ^ s:=Nat.two_pow_pos s;have hu:0<2 ^ (64-s):=Nat.two_pow_pos _;have c1:(h:Int)*2 ^ s=((h*2 ^ s:Nat):Int):=by push_cast;rfl
 have c2:(l:Int)*2 ^ s=((l*2 ^ s:Nat):Int):=by push_cast;rfl
 have c3:(l:Int)/2 ^ (64-s)=((l/2 ^ (64-s):Nat):Int):=by push_cast;rfl
 have hlt:l/2 ^ (64-s)<2 ^ s:=Nat.div_lt_of_lt_mul (by rw[Nat.mul_comm,htu];exact hl);have hm:h*2 ^ s%B=(h%2 ^ (64-s))*2 ^ s:=by rw[<- htu,Nat.mul_comm (2 ^ s) (2 ^ (64-s)),Nat.mul_mod_mul_right]
 have hm2:l*2 ^ s=(l/2 ^ (64-s))*B+(l%2 ^ (64-s))*2 ^ s:=by
  conv=>lhs;rw[<- Nat.div_add_mod l (2 ^ (64-s))]
  rw[Nat.add_mul, <-htu];congr 1;rw[Nat.mul_comm (2 ^ (64-s)),Nat.mul_assoc,Nat.mul_comm (2 ^ (64-s))]
 have hx:(l%2 ^ (64-s))*2 ^ s<B:=by
  have h1:l%2 ^ (64-s)<2 ^ (64-s):=Nat.mod_lt _ hu;have h2:(l%2 ^ (64-s)+1)*2 ^ s<=2 ^ (64-s)*2 ^ s:=Nat.mul_le_mul_right _ h1;rw[Nat.add_mul,Nat.one_mul,Nat.mul_comm (2 ^ (64-s)),htu] at h2;omega
 have hm3:l*2 ^ s%B=(l%2 ^ (64-s))*2 ^ s:=by rw[hm2,Nat.add_comm,Nat.add_mul_mod_self_right,Nat.mod_eq_of_lt hx]
 have hy:(h%2 ^ (64-s))*2 ^ s+l/2 ^ (64-s)<B:=by
  have h1:h%2 ^ (64-s)<2 ^ (64-s):=Nat.mod_lt _ hu;have h2:(h%2 ^ (64-s)+1)*2 ^ s<=2 ^ (64-s)*2 ^ s:=Nat.mul_le_mul_right _ h1;rw[Nat.add_mul,Nat.one_mul,Nat.mul_comm (2 ^ (64-s)),htu] at h2;omega
 have hz:h*2 ^ s=(h/2 ^ (64-s))*B+(h%2 ^ (64-s))*2 ^ s:=by
  conv=>lhs;rw[<- Nat.div_add_mod h (2 ^ (64-s))]
  rw[Nat.add_mul, <-htu];congr 1;rw[Nat.mul_comm (2 ^ (64-s)),Nat.mul_assoc,Nat.mul_comm (2 ^ (64-s))]
 have he:(h*B+l)*2 ^ s%(B*B)=((h%2 ^ (64-s))*2 ^ s+l/2 ^ (64-s))*B+(l%2 ^ (64-s))*2 ^ s:=by
  have e1:(h*B+l)*2 ^ s=(h/2 ^ (64-s))*(B*B)+(((h%2 ^ (64-s))*2 ^ s+l/2 ^ (64-s))*B+(l%2 ^ (64-s))*2 ^ s):=by
   rw[Nat.add_mul,hm2,Nat.mul_assoc,Nat.mul_comm B, <-Nat.mul_assoc,hz];simp only[Nat.add_mul,Nat.mul_assoc,Nat.add_assoc]
  have e2:((h%2 ^ (64-s))*2 ^ s+l/2 ^ (64-s))*B+(l%2 ^ (64-s))*2 ^ s<B*B:=by
   have h2:((h%2 ^ (64-s))*2 ^ s+l/2 ^ (64-s)+1)*B<=B*B:=Nat.mul_le_mul_right _ hy;rw[Nat.add_mul _ 1,Nat.one_mul] at h2;omega
  rw[e1,Nat.add_comm,Nat.add_mul_mod_self_right,Nat.mod_eq_of_lt e2]
 rw[c1,c2,c3,ee,ee,hm,hm3,kH _ _ (Nat.lt_of_le_of_lt (Nat.le_add_right _ _) hy) (Nat.lt_of_le_of_lt (Nat.div_le_self _ _) hl),nat_join s _ _ (by rw[Nat.mul_mod_left]) hlt,fA _ _ hx,he]
theorem tH (h l s:Nat) (hh:h<B) (hl:l<B) (h0:64<=s):
 Value.agg #[.int .u64 (IntKind.u64.wrap ((l:Int)*2 ^ (s-64))), .int .u64 0]=aC ((h*B+l)*2 ^ s%(B*B)):=by
 have c1:(l:Int)*2 ^ (s-64)=((l*2 ^ (s-64):Nat):Int):=by push_cast;rfl
 have hs:2 ^ s=2 ^ (s-64)*B:=by rw[fx, <-Nat.pow_add];congr 1;omega
 have e:(h*B+l)*2 ^ s%(B*B)=(l*2 ^ (s-64)%B)*B:=by
  have e0:(h*B+l)*2 ^ (s-64)%B=l*2 ^ (s-64)%B:=by
   rw[Nat.add_mul,Nat.mul_right_comm,Nat.add_comm,Nat.add_mul_mod_self_right]
  rw[hs, <-Nat.mul_assoc,Nat.mul_mod_mul_right,e0]
 have h2:=fA (l*2 ^ (s-64)%B) 0 sG;rw[Nat.add_zero, <-e] at h2;rw[c1,ee];exact h2
theorem zJ (a b:Nat) (ha:a<B*B) (hb:b<B*B):
 Value.agg #[.int .u64 (bits .or .u64 ((a/B:Nat):Int) ((b/B:Nat):Int)), .int .u64 (bits .or .u64 ((a%B:Nat):Int) ((b%B:Nat):Int))]=aC (a ||| b):=by
 rw[kH _ _ (dB ha) (dB hb),kH _ _ (eJ _) (eJ _)];unfold aC;rw[fx,Nat.or_div_two_pow,Nat.or_mod_two_pow]
theorem sH (a b:Nat) (ha:a<B*B) (hb:b<B*B):
 Value.agg #[.int .u64 (bits .and .u64 ((a/B:Nat):Int) ((b/B:Nat):Int)), .int .u64 (bits .and .u64 ((a%B:Nat):Int) ((b%B:Nat):Int))]=aC (a &&& b):=by
 rw[pJ _ _ (dB ha) (dB hb),pJ _ _ (eJ _) (eJ _)];unfold aC;rw[fx,Nat.and_div_two_pow,Nat.and_mod_two_pow]
theorem xN (a b:Nat) (ha:a<B*B) (hb:b<B*B):
 Value.agg #[.int .u64 (bits .xor .u64 ((a/B:Nat):Int) ((b/B:Nat):Int)), .int .u64 (bits .xor .u64 ((a%B:Nat):Int) ((b%B:Nat):Int))]=aC (a ^^^ b):=by
 rw[pK _ _ (dB ha) (dB hb),pK _ _ (eJ _) (eJ _)];unfold aC;rw[fx,Nat.xor_div_two_pow,Nat.xor_mod_two_pow]
open Go.RowKit
def zq (w:World) (b o:Nat) (n:Nat):Prop:=n<B*B/\w.cell? ⟨b,o,none⟩=some (.int .u64 ((n/B:Nat):Int))/\w.cell? ⟨b,o+1,none⟩=some (.int .u64 ((n%B:Nat):Int))
theorem aM:cG zq:=fun w w' b o n hb hlt ⟨h0,h1,h2⟩=>⟨h0,(hb.cell (p:=⟨b,o,none⟩) hlt).trans h1,(hb.cell (p:=⟨b,o+1,none⟩) hlt).trans h2⟩
structure Pt where
 v:Nat
 m:Nat
def Ci (w:World) (b o:Nat) (p:Pt):Prop:=zq w b o p.v/\zq w b (o+2) p.m
theorem lg:cG Ci:=fun w w' b o p hb hlt ⟨h1,h2⟩=>⟨aM w w' b o p.v hb hlt h1,aM w w' b (o+2) p.m hb hlt h2⟩
abbrev NRow:=RowAt 2 zq
abbrev oI:=RowAt 4 Ci
structure Ent where
 tab:Int
 pats:List Pt
 len:Int
 prio:Int
 act:Int
 args:List Nat
def EAt (w:World) (b o:Nat) (e:Ent):Prop:=
 w.cell? ⟨b,o,none⟩=some (.int .i64 e.tab)/\(∃ v,w.cell? ⟨b,o+1,none⟩=some v/\oI w v e.pats)/\w.cell? ⟨b,o+2,none⟩=some (.int .i64 e.len)/\w.cell? ⟨b,o+3,none⟩=some (.int .i64 e.prio)/\
 w.cell? ⟨b,o+4,none⟩=some (.int .i64 e.act)/\(∃ v,w.cell? ⟨b,o+5,none⟩=some v/\NRow w v e.args)
theorem eN:cG EAt:=fun w w' b o e hb hlt ⟨h1,⟨v2,h2,k2⟩,h3,h4,h5,⟨v6,h6,k6⟩⟩=>
 ⟨(hb.cell (p:=⟨b,o,none⟩) hlt).trans h1,⟨v2,(hb.cell (p:=⟨b,o+1,none⟩) hlt).trans h2,k2.below lg hb⟩,(hb.cell (p:=⟨b,o+2,none⟩) hlt).trans h3,(hb.cell (p:=⟨b,o+3,none⟩) hlt).trans h4,(hb.cell (p:=⟨b,o+4,none⟩) hlt).trans h5,⟨v6,(hb.cell (p:=⟨b,o+5,none⟩) hlt).trans h6,k6.below aM hb⟩⟩
abbrev ERow:=RowAt 6 EAt
def xO (p:Pt):Value:= .agg #[.int .u64 ((p.v/B:Nat):Int), .int .u64 ((p.v%B:Nat):Int), .int .u64 ((p.m/B:Nat):Int), .int .u64 ((p.m%B:Nat):Int)]
def A6 (w:World) (v:Value) (e:Ent):Prop:=∃pv av,v= .agg #[.int .i64 e.tab,pv, .int .i64 e.len, .int .i64 e.prio, .int .i64 e.act,av]/\oI w pv e.pats/\NRow w av e.args
theorem sI:(Tryz.prog.info? 60).map (fun i=>(i.zero,i.size,i.bytes))=some (some (.agg #[.int .u64 0, .int .u64 0]),2,16):=by kernel_rfl
theorem sJ:(Tryz.prog.info? 3).map (fun i=>(i.zero,i.size,i.bytes))=some (some (.int .i64 0),1,8):=by kernel_rfl
open Go.RowKit
structure ElemOk (S E:TypeId) (z:Value) (size bytes:Nat):Prop where
 und:Tryz.prog.underlying S=some (.slice E)
 inf:(Tryz.prog.info? E).map (fun i=>(i.zero,i.size,i.bytes))=some (some z,size,bytes)
 zs:z.cells.size=size
 sz:0<size
def ke (w:World) (size:Nat) (vx:Value) (m:Nat) (news:List Value):Prop:=
 news.length=m*size/\(∀ u∈news,u.oneCell'=true)/\((vx= .slice none 0 0/\m=0)\/∃ad c,vx= .slice (some ad) m c/\∀j u,news[j]?=some u->w.cell? (ad.add j)=some u)
theorem jf (w:World) (row:Option Nat):w.grownBy w row:=⟨rfl,rfl,rfl,Nat.le_refl _,fun _ _ _=>rfl⟩
theorem dD {S E:TypeId} {z:Value} {bytes:Nat} (H:ElemOk S E z size bytes) {ops:Array Oper} {rest:List Oper} {o:Oper} {a:Act} {Q:Exit->Act->World->Prop} (hgd:o.guard=none) (s x:Operand)
 (ho:o.op= .call { callee:= .builtin .append,args:=#[s,x],argTypes:=#[S,S] })
 (base:Nat) (v:Value) (n:Nat) (xs:List Value) (hs:a.eval s=v) (hown:w.ownsRow base E size v n xs)
 (vx:Value) (m:Nat) (news:List Value) (hx:a.eval x=vx) (hsrc:ke w size vx m news) (hl:(n+m)*bytes<=140737488355328) (hm:n+m<=maxLen) (hbase:base<=w.heap.size)
 (h:∀v' w',w'.ownsRow base E size v' (n+m) (xs++news)->w.grownBy w' v.ownBlock->wpList Tryz.prog ops Q rest (a.put o.dst v') w'):wpList Tryz.prog ops Q (o::rest) a w:=by
 obtain ⟨i0,hi,hz0,hz1,hz2⟩:=info_parts H.inf;obtain ⟨h1,h2,⟨rfl,rfl⟩|⟨ad,c,rfl,h3⟩⟩:=hsrc
 ·obtain rfl:news=[]:=List.eq_nil_of_length_eq_zero om;refine wpList_append_own_none hgd s x _ ho base E i0 size H.und hi v n xs hs hown hx ?_;exact h v w (by simpa using hown) (jf _ _)
 exact wpList_append_own _ hgd s x _ ho base E i0 z size bytes H.und hi hz0 hz1 hz2 H.zs H.sz v n xs hs hown ad m c news hx h1 h3 h2 hm hl hbase fun v' w' q1 q2 _=>h v' w' q1 q2
theorem aW {B:Nat} {w0:World} {v:Value} (hb:Below B w0 w) (hown:w.ownsRow base e size v n xs) (hg:w.grownBy w' v.ownBlock) (hbase:B<=base) (hB:B<=w.heap.size):Below B w0 w':=by
 refine hb.grown hg hB (fun k hk=>?_);rcases hown.2 with ⟨q,-⟩|⟨g,cap,cur,q1,q2,-⟩
 ·rw[q] at hk;cases hk
 rw[q1] at hk;simp only[Value.ownBlock] at hk;cases hk;omega
theorem a9 (w:World) (E:TypeId) (size:Nat):(w.alloc (.cells #[] E)).ownsRow w.heap.size E size (.slice (some ⟨w.heap.size,0,none⟩) 0 0) 0 []:=
 World.ownsRow_made w #[] 0 lr (zl) sm
theorem pL (b o j:Nat):(⟨b,o,none⟩:Addr).add j=⟨b,o+j,none⟩:=by
 unfold Addr.add;split
 ·subst_vars;rfl
 rfl
theorem iA {g:Nat} {news:List Value} (hl:news.length=size) (h1:∀u∈news,u.oneCell'=true) (hc:∀j u,news[j]?=some u->w.cell? ⟨g,j,none⟩=some u):ke w size (.slice (some ⟨g,0,none⟩) 1 c) 1 news:=
 ⟨om,h1, .inr ⟨_,_,rfl,fun j u hj=>by rw[pL,Nat.zero_add];exact hc j u hj⟩⟩
theorem lh:∀{ls:List (List Value)} (_:∀c∈ls,c.length=size) {j i:Nat} {c:List Value} {u:Value},ls[j]?=some c->c[i]?=some u->ls.flatten[j*size+i]?=some u
 |[],_,j,_,_,_,h,_=>by simp at h
 |c0::ls,hs,0,i,c,u,h,hi=>by
  simp only[List.getElem?_cons_zero,Option.some.injEq] at h;subst h;have hlt:=(bO hi).1;rw[List.flatten_cons,Nat.zero_mul,Nat.zero_add,List.getElem?_append_left hlt];exact hi
 |c0::ls,hs,j+1,i,c,u,h,hi=>by
  have h0:=hs c0 sm;rw[List.getElem?_cons_succ] at h;have ih:=lh (fun c hc=>hs c (by simp[hc])) h hi;rw[List.flatten_cons,List.getElem?_append_right (by rw[h0,Nat.succ_mul];omega),h0, <-ih];congr 1;rw[Nat.succ_mul];omega
theorem iO {At:World->Nat->Nat->α->Prop} {v:Value} {l:List α} {ls:List (List Value)} (hn:n=l.length) (hlen:ls.length=l.length) (h:w.ownsRow base E size v n ls.flatten) (hsz:∀c∈ls,c.length=size)
 (hat:∀(j:Nat) (x:α) (c:List Value),l[j]?=some x->ls[j]?=some c->∀b o,b<w.heap.size->CellsAt w b o c->At w b o x):RowAt size At w v l:=by
 subst hn;obtain ⟨hl,h⟩:=h;rcases h with ⟨h1,h2⟩|⟨g,cap,cur,h1,h2,h3,h4,h5,h6,h7⟩
 ·obtain rfl:=List.length_eq_zero_iff.1 h2;rw[h1];exact RowAt.nil
 have hlt:g<w.heap.size:=(bV h3).1;refine ⟨some ⟨g,0,none⟩,cap,h1,h4,h5,(fun h=>by cases h),fun _=>⟨g,0,rfl,hlt,fun j x hj=>?_⟩⟩;have hjl:j<l.length:=(bO hj).1;obtain ⟨c,hc⟩:∃c,ls[j]?=some c:=⟨_,bS om⟩;refine hat j x c hj hc g _ hlt fun i u hi=>?_
 have hil:=(bO hi).1;have hcl:=hsz c (cX hc);have h8:=lh hsz hc hi;rw[<- h7,List.getElem?_take_of_lt (by
  have:j*size+size<=l.length*size:=by rw[<- Nat.succ_mul];exact Nat.mul_le_mul_right _ hjl
  omega)] at h8
 simp only[World.cell?,h3,Nat.zero_add];simpa using h8
structure FlatG {α:Type} (size:Nat) (At:World->Nat->Nat->α->Prop) (enc:α->List Value):Prop where
 len:∀x,(enc x).length=size
 one:∀x,∀u∈enc x,u.oneCell'=true
 get:∀w b o x,At w b o x->CellsAt w b o (enc x)
structure Flat {α:Type} (size:Nat) (At:World->Nat->Nat->α->Prop) (enc:α->List Value):Prop extends FlatG size At enc where
 put:∀w b o x,CellsAt w b o (enc x)->At w b o x
theorem eC {enc:α->List Value} (h:∀x,(enc x).length=size):∀l:List α,(l.flatMap enc).length=l.length*size
 |[]=>by simp
 |x::l=>by rw[List.flatMap_cons,List.length_append,h,eC h l,List.length_cons,Nat.succ_mul];omega
theorem sK {enc:α->List Value} (h:∀x,(enc x).length=size):∀(l:List α) (j:Nat) (u:Value),(l.flatMap enc)[j]?=some u->∃k x i,l[k]?=some x/\(enc x)[i]?=some u/\j=k*size+i
 |[],j,u,hj=>by simp at hj
 |x::l,j,u,hj=>by
  rw[List.flatMap_cons] at hj;by_cases hlt:j<size
  ·rw[List.getElem?_append_left (by rw[h];exact hlt)] at hj;exact ⟨0,x,j,rfl,hj,om⟩
  ·rw[List.getElem?_append_right (by rw[h];omega),h] at hj;obtain ⟨k,y,i,h1,h2,h3⟩:=sK h l _ u hj;exact ⟨k+1,y,i,h1,h2,by rw[Nat.succ_mul];omega⟩
theorem RowAt.of_flatG {At:World->Nat->Nat->α->Prop} {enc:α->List Value} (hL:∀x,(enc x).length=size) {v:Value} {l:List α} (hn:n=l.length) (h:w.ownsRow base E size v n (l.flatMap enc)) (hput:∀x∈l,∀b o,CellsAt w b o (enc x)->At w b o x):RowAt size At w v l:=by
 rw[List.flatMap_def] at h;refine iO hn sm h (fun c hc=>?_) fun j x c hj hc b o _ hcl=>?_
 ·obtain ⟨x,-,rfl⟩:=List.mem_map.1 hc;exact hL x
 rw[List.getElem?_map,hj] at hc;cases hc;exact hput x (cX hj) _ _ hcl
theorem RowAt.of_flat {At:World->Nat->Nat->α->Prop} {enc:α->List Value} (hF:Flat size At enc) {v:Value} {l:List α} (hn:n=l.length) (h:w.ownsRow base E size v n (l.flatMap enc)):RowAt size At w v l:=
 RowAt.of_flatG hF.len hn h fun x _ b o=>hF.put w b o x
theorem RowAt.src {At:World->Nat->Nat->α->Prop} {enc:α->List Value} (hF:FlatG size At enc) {v:Value} {l:List α} (h:RowAt size At w v l):ke w size v l.length (l.flatMap enc):=by
 refine ⟨eC hF.len l,fun u hu=>?_,?_⟩
 ·obtain ⟨x,-,hx⟩:=List.mem_flatMap.1 hu;exact hF.one x u hx
 obtain ⟨pa,cap,rfl,h2,h3,h4,h5⟩:=h;cases pa with
 |none=>obtain rfl:=h4 rfl;have h0:l.length=0:=om;exact .inl ⟨by rw[h0],h0⟩
 |some ad=>
  refine .inr ⟨ad,cap,rfl,fun j u hj=>?_⟩;obtain ⟨k,x,i,e1,e2,e3⟩:=sK hF.len l j u hj;obtain ⟨b,o,e4,-,e6⟩:=h5 (by have:=(bO e1).1;omega);cases e4;have:=hF.get _ _ _ _ (e6 k x e1) i u e2;rw[pL,e3, <-Nat.add_assoc];exact this
theorem RowAt.hi' {At:World->Nat->Nat->α->Prop} {pa:Option Addr} {l:List α} (h:RowAt size At w (.slice pa n c) l) {k:Nat} (hk:k<=l.length):RowAt size At w (.slice pa k c) (l.take k):=by
 obtain ⟨pa',cap,e,h2,h3,h4,h5⟩:=h;cases e;refine ⟨pa,c,by rw[List.length_take,Nat.min_eq_left hk],by rw[List.length_take];omega,h3,h4,fun h0=>?_⟩;rw[List.length_take] at h0;obtain ⟨b,o,e1,e2,e3⟩:=h5 om;exact ⟨b,o,e1,e2,fun j x hj=>e3 j x (by
  have:=(bO hj).1;rw[List.length_take] at this;rw[List.getElem?_take_of_lt om] at hj;exact hj)⟩
def Cj (w:World) (b o:Nat) (n:Int):Prop:=w.cell? ⟨b,o,none⟩=some (.int .i64 n)
theorem bW:cG Cj:=fun w w' b o n hb hlt h=>(hb.cell (p:=⟨b,o,none⟩) hlt).trans h
abbrev IRow:=RowAt 1 Cj
theorem li:Flat 1 Cj (fun n=>[Value.int .i64 n]) where
 len:=fun _=>rfl
 one:=fun x u hu=>by simp at hu;subst hu;rfl
 put:=fun w b o x h=>h 0 _ rfl
 get:=fun w b o x h i v hi=>by
  match i,hi with
  |0,hi=>cases hi;exact h
theorem iB:ElemOk 23 3 (.int .i64 0) 1 8:=⟨Tryz.underlying23,by kernel_rfl,rfl,by decide⟩
open Go.RowKit
def A7 (w:World) (b o:Nat) (k:Int):Prop:=w.cell? ⟨b,o,none⟩=some (.int .u8 k)
theorem jg:cG A7:=fun w w' b o n hb hlt h=>(hb.cell (p:=⟨b,o,none⟩) hlt).trans h
abbrev URow:=RowAt 1 A7
theorem zr:Flat 1 A7 (fun n=>[Value.int .u8 n]) where
 len:=fun _=>rfl
 one:=fun x u hu=>by simp at hu;subst hu;rfl
 put:=fun w b o x h=>h 0 _ rfl
 get:=fun w b o x h i v hi=>by
  match i,hi with
  |0,hi=>cases hi;exact h
theorem zK:ElemOk 35 5 (.int .u8 0) 1 1:=⟨Tryz.underlying35,by kernel_rfl,rfl,by decide⟩
structure PgS where
 hp:Option Addr
 hn:Nat
 hc:Nat
 mp:Option Addr
 mn:Nat
 mc:Nat
 sp:Option Addr
 sn:Nat
 sc:Nat
 ap:Option Addr
 an:Nat
 ac:Nat
 tp:Option Addr
 tn:Nat
 tc:Nat
 cp:Option Addr
 cn:Nat
 cc:Nat
 ep:Option Addr
 en:Nat
 ec:Nat
 v1:Option Addr
 n1:Nat
 c1:Nat
 v2:Option Addr
 n2:Nat
 c2:Nat
 v3:Option Addr
 n3:Nat
 c3:Nat
 v4:Option Addr
 n4:Nat
 c4:Nat
 v5:Option Addr
 n5:Nat
 c5:Nat
def PgS.cells (s:PgS):List Value:=[.slice s.hp s.hn s.hc, .slice s.mp s.mn s.mc, .slice s.sp s.sn s.sc, .slice s.ap s.an s.ac, .slice s.tp s.tn s.tc, .slice s.cp s.cn s.cc, .slice s.ep s.en s.ec, .slice s.v1 s.n1 s.c1, .slice s.v2 s.n2 s.c2, .slice s.v3 s.n3 s.c3, .slice s.v4 s.n4 s.c4, .slice s.v5 s.n5 s.c5]
@[simp] abbrev pA (s:PgS):Array Value:=#[.slice s.hp s.hn s.hc, .slice s.mp s.mn s.mc, .slice s.sp s.sn s.sc, .slice s.ap s.an s.ac, .slice s.tp s.tn s.tc, .slice s.cp s.cn s.cc, .slice s.ep s.en s.ec, .slice s.v1 s.n1 s.c1, .slice s.v2 s.n2 s.c2, .slice s.v3 s.n3 s.c3, .slice s.v4 s.n4 s.c4, .slice s.v5 s.n5 s.c5]
@[simp] abbrev zA:Array Value:=#[.int .i64 0, .slice none 0 0, .slice none 0 0, .slice none 0 0, .slice none 0 0, .bool false, .bool false, .int .i64 0, .bool false]
@[simp] abbrev zL:List Value:=[.int .i64 0, .slice none 0 0, .slice none 0 0, .slice none 0 0, .slice none 0 0, .bool false, .bool false, .int .i64 0, .bool false]
def cE (s:PgS):Value:= .agg #[.slice s.hp s.hn s.hc, .slice s.mp s.mn s.mc, .slice s.sp s.sn s.sc, .slice s.ap s.an s.ac, .slice s.tp s.tn s.tc, .slice s.cp s.cn s.cc, .slice s.ep s.en s.ec, .slice s.v1 s.n1 s.c1, .slice s.v2 s.n2 s.c2, .slice s.v3 s.n3 s.c3, .slice s.v4 s.n4 s.c4, .slice s.v5 s.n5 s.c5]
open Go.RowKit
def SlAt {α:Type} (R:World->Value->α->Prop) (w:World) (b o:Nat) (x:α):Prop:=∃p n c,w.cell? ⟨b,o,none⟩=some (.slice p n c)/\R w (.slice p n c) x
def zt {α:Type} (R:World->Value->α->Prop):Prop:=∀(w w':World) (v:Value) (x:α),R w v x->Bl w w'->R w' v x
theorem RowAt.keep {At:World->Nat->Nat->α->Prop} (h:cG At):zt (RowAt sz At):=fun _ _ _ _ h1 hb=>h1.below h hb
theorem SlAt.keep {R:World->Value->α->Prop} (h:zt R):cG (SlAt R):=fun w w' b o x hb hlt ⟨p,n,c,h1,h2⟩=>⟨p,n,c,(hb.cell (p:=⟨b,o,none⟩) hlt).trans h1,h w w' _ x h2 hb⟩
def zM (w:World) (b o:Nat) (s:ByteArray):Prop:=w.cell? ⟨b,o,none⟩=some (.string s)
theorem pM:cG zM:=fun w w' b o n hb hlt h=>(hb.cell (p:=⟨b,o,none⟩) hlt).trans h
abbrev lj:=RowAt 1 zM
abbrev StsRow:=RowAt 1 (SlAt lj)
theorem sL:cG (SlAt lj):=SlAt.keep (RowAt.keep pM)
abbrev IsRow:=RowAt 1 (SlAt IRow)
theorem ii:cG (SlAt IRow):=SlAt.keep (RowAt.keep bW)
structure Nod where
 op:Int
 w:Int
 a:Int
 b:Int
 v:Nat
 deriving DecidableEq
def zN (w:World) (b o:Nat) (n:Nod):Prop:=
 w.cell? ⟨b,o,none⟩=some (.int .u8 n.op)/\w.cell? ⟨b,o+1,none⟩=some (.int .i64 n.w)/\w.cell? ⟨b,o+2,none⟩=some (.int .i64 n.a)/\w.cell? ⟨b,o+3,none⟩=some (.int .i64 n.b)/\zq w b (o+4) n.v
theorem dE:cG zN:=fun w w' b o n hb hlt ⟨h1,h2,h3,h4,h5⟩=>
 ⟨(hb.cell (p:=⟨b,o,none⟩) hlt).trans h1,(hb.cell (p:=⟨b,o+1,none⟩) hlt).trans h2,(hb.cell (p:=⟨b,o+2,none⟩) hlt).trans h3,(hb.cell (p:=⟨b,o+3,none⟩) hlt).trans h4,aM w w' b (o+4) n.v hb hlt h5⟩
abbrev eQ:=RowAt 6 zN
abbrev CsRow:=RowAt 1 (SlAt eQ)
theorem eh:cG (SlAt eQ):=SlAt.keep (RowAt.keep dE)
structure Ist where
 k:Int
 a:Int
 b:Int
 e:List Nod
 to:Int
def uX (w:World) (b o:Nat) (i:Ist):Prop:=
 w.cell? ⟨b,o,none⟩=some (.int .u8 i.k)/\w.cell? ⟨b,o+1,none⟩=some (.int .i64 i.a)/\w.cell? ⟨b,o+2,none⟩=some (.int .i64 i.b)/\SlAt eQ w b (o+3) i.e/\w.cell? ⟨b,o+4,none⟩=some (.int .i64 i.to)
theorem dP:cG uX:=fun w w' b o n hb hlt ⟨h1,h2,h3,h4,h5⟩=>
 ⟨(hb.cell (p:=⟨b,o,none⟩) hlt).trans h1,(hb.cell (p:=⟨b,o+1,none⟩) hlt).trans h2,(hb.cell (p:=⟨b,o+2,none⟩) hlt).trans h3,eh w w' b (o+3) n.e hb hlt h4,(hb.cell (p:=⟨b,o+4,none⟩) hlt).trans h5⟩
abbrev IstRow:=RowAt 5 uX
structure Brn where
 pats:List Pt
 to:Int
def uY (w:World) (b o:Nat) (x:Brn):Prop:=SlAt oI w b o x.pats/\w.cell? ⟨b,o+1,none⟩=some (.int .i64 x.to)
theorem iC:cG uY:=fun w w' b o n hb hlt ⟨h1,h2⟩=>⟨SlAt.keep (RowAt.keep lg) w w' b o _ hb hlt h1,(hb.cell (p:=⟨b,o+1,none⟩) hlt).trans h2⟩
abbrev BrnRow:=RowAt 2 uY
structure Stp where
 takes:List Int
 keys:List (List Nod)
 brs:List Brn
 to:Int
def uZ (w:World) (b o:Nat) (x:Stp):Prop:=SlAt IRow w b o x.takes/\SlAt CsRow w b (o+1) x.keys/\SlAt BrnRow w b (o+2) x.brs/\w.cell? ⟨b,o+3,none⟩=some (.int .i64 x.to)
theorem sM:cG uZ:=fun w w' b o n hb hlt ⟨h1,h2,h3,h4⟩=>
 ⟨ii w w' b o _ hb hlt h1,SlAt.keep (RowAt.keep eh) w w' b _ _ hb hlt h2,SlAt.keep (RowAt.keep iC) w w' b _ _ hb hlt h3,(hb.cell (p:=⟨b,o+3,none⟩) hlt).trans h4⟩
abbrev zO:=RowAt 4 uZ
structure Actn where
 params:List Int
 body:List Ist
def rq (w:World) (b o:Nat) (x:Actn):Prop:=SlAt IRow w b o x.params/\SlAt IstRow w b (o+1) x.body
theorem lk:cG rq:=fun w w' b o n hb hlt ⟨h1,h2⟩=>⟨ii w w' b o _ hb hlt h1,SlAt.keep (RowAt.keep dP) w w' b _ _ hb hlt h2⟩
abbrev ActnRow:=RowAt 2 rq
structure Tbl where
 keys:List (List Nod)
 kinds:List Int
 acts:List Int
 dact:Int
 dargs:List Nat
def vd (w:World) (b o:Nat) (x:Tbl):Prop:=SlAt CsRow w b o x.keys/\SlAt URow w b (o+1) x.kinds/\SlAt IRow w b (o+2) x.acts/\w.cell? ⟨b,o+3,none⟩=some (.int .i64 x.dact)/\SlAt NRow w b (o+4) x.dargs
theorem sN:cG vd:=fun w w' b o n hb hlt ⟨h1,h2,h3,h4,h5⟩=>
 ⟨SlAt.keep (RowAt.keep eh) w w' b _ _ hb hlt h1,SlAt.keep (RowAt.keep jg) w w' b _ _ hb hlt h2,ii w w' b _ _ hb hlt h3,(hb.cell (p:=⟨b,o+3,none⟩) hlt).trans h4,SlAt.keep (RowAt.keep aM) w w' b _ _ hb hlt h5⟩
abbrev TblRow:=RowAt 5 vd
structure Prg where
 heads:List (List Int)
 metas:List Int
 steps:List Stp
 acts:List Actn
 tabs:List Tbl
 ctl:List Ist
 emit:List Int
 nh:List ByteArray
 nf:List (List ByteArray)
 nm:List ByteArray
 na:List ByteArray
 nt:List ByteArray
structure PgOk (w:World) (s:PgS) (p:Prg):Prop where
 heads:IsRow w (.slice s.hp s.hn s.hc) p.heads
 metas:IRow w (.slice s.mp s.mn s.mc) p.metas
 steps:zO w (.slice s.sp s.sn s.sc) p.steps
 acts:ActnRow w (.slice s.ap s.an s.ac) p.acts
 tabs:TblRow w (.slice s.tp s.tn s.tc) p.tabs
 ctl:IstRow w (.slice s.cp s.cn s.cc) p.ctl
 emit:IRow w (.slice s.ep s.en s.ec) p.emit
 nh:lj w (.slice s.v1 s.n1 s.c1) p.nh
 nf:StsRow w (.slice s.v2 s.n2 s.c2) p.nf
 nm:lj w (.slice s.v3 s.n3 s.c3) p.nm
 na:lj w (.slice s.v4 s.n4 s.c4) p.na
 nt:lj w (.slice s.v5 s.n5 s.c5) p.nt
theorem PgOk.below {s:PgS} {p:Prg} (h:PgOk w s p) (hb:Bl w w'):PgOk w' s p:=
 ⟨h.heads.below ii hb,h.metas.below bW hb,h.steps.below sM hb,h.acts.below lk hb,h.tabs.below sN hb,h.ctl.below dP hb,h.emit.below bW hb,h.nh.below pM hb,h.nf.below sL hb,h.nm.below pM hb,h.na.below pM hb,h.nt.below pM hb⟩
theorem RowAt.ln {At:World->Nat->Nat->α->Prop} {p:Option Addr} {l:List α} (h:RowAt sz At w (.slice p n c) l):n=l.length/\n<=c/\c<=maxLen/\(p=none->c=0):=by
 obtain ⟨pa,cap,e,h1,h2,h3,-⟩:=h;cases e;exact ⟨rfl,h1,h2,h3⟩
theorem RowAt.get {At:World->Nat->Nat->α->Prop} {p:Option Addr} {l:List α} (h:RowAt sz At w (.slice p n c) l) {x:α} (hj:l[j]?=some x):∃b o,p=some ⟨b,o,none⟩/\b<w.heap.size/\At w b (o+j*sz) x:=by
 obtain ⟨b,o,cap,e,h1,h2⟩:=h.at hj;cases e;exact ⟨b,o,rfl,h1,h2⟩
theorem getD_some {l:List α} {x d:α} (h:l[j]?=some x):l.getD j d=x:=by rw[List.getD_eq_getElem?_getD,h];rfl
theorem aA {l:List α} (d:α) (h:j<l.length):l[j]?=some (l.getD j d):=by rw[List.getD_eq_getElem?_getD,bS h];rfl
def dl (w:Int):Bool:=decide (0<w)&&decide (w<129)
def pN (l:List Int) (i:Int):Int:=if i<0\/(l.length:Int)<=i then 0 else l.getD i.toNat 0
def bH (v:Nat) (w:Int):Bool:=decide (v%2 ^ sh w=v)
def bs (p:Prg) (act:Int) (n:Nod):Int:=
 if n.op=1 then (if n.a=0/\n.b=0/\dl n.w=true/\bH n.v n.w=true then n.w else 0)
 else if n.v≠0\/(n.op≠2/\n.b≠0) then 0
 else if n.op=2 then (if 0<=n.a/\n.a<(p.heads.length:Int) then pN (p.heads.getD n.a.toNat []) n.b else 0)
 else if n.op=3 then pN p.metas n.a
 else if n.op=4 then (if 0<=act/\act<(p.acts.length:Int) then pN (p.acts.getD act.toNat ⟨[],[]⟩).params n.a else 0)
 else if n.op=5 then (if n.a=0 then 9 else 0)
 else if n.op=6 then (if 0<=n.a/\n.a<(p.heads.length:Int) then 1 else 0)
 else 0
def dm (n:Nod) (w:Int):Int:=
 if n.op=7\/n.op=8 then (if n.a=0/\n.b=0 then w else 0)
 else if n.op=13\/n.op=14 then (if n.b=0/\0<=n.a/\n.a<=127 then w else 0)
 else if n.op=9 then (if 0<=n.b/\n.b<=n.a/\n.a<w then n.a-n.b+1 else 0)
 else 0
def gd (n:Nod) (a b:Int):Int:=
 if n.a≠0\/n.b≠0 then 0
 else if n.op=10 then a+b
 else if a≠b then 0
 else if n.op=18\/n.op=19\/n.op=20 then 1
 else if 11<=n.op/\n.op<=17 then a
 else 0
def fO (op:Int):Prop:=op=7\/op=8\/op=9\/op=13\/op=14
instance (op:Int):Decidable (fO op):=inferInstanceAs (Decidable (_\/_))
def cO (p:Prg) (act:Int) (st:List Int) (n:Nod):Option (List Int):=
 let put (w:Int) (r:List Int):Option (List Int):=if w=n.w/\dl w=true then some (w::r) else none
 if 1<=n.op/\n.op<=6 then put (bs p act n) st
 else if n.v≠0 then none
 else if fO n.op then (match st with|[]=>none|t::r=>put (dm n t) r)
 else (match st with|b::a::r=>put (gd n a b) r|_=>none)
def bI (p:Prg) (act:Int):List Int->List Nod->Option (List Int)
 |st,[]=>some st
 |st,n::c=>match cO p act st n with|none=>none|some st'=>bI p act st' c
def aL (p:Prg) (act:Int) (c:List Nod):Option Int:=
 if 65536<c.length then none else match bI p act [] c with|some [w]=>some w|_=>none
def dQ (p:Prg) (listed:List Int) (act:Int) (args:List Nat):Bool:=
 decide (0<=act/\act<(p.acts.length:Int))&&listed.contains act&&(let ps:=(p.acts.getD act.toNat ⟨[],[]⟩).params;decide (args.length=ps.length)&&(List.zip args ps).all fun x=>bH x.1 x.2)
def bK (p:Prg) (act:Int) (x:Ist):Option Int:=
 if x.k=1 then (if 0<=x.a/\x.a<(p.heads.length:Int)/\0<=x.b/\x.b<((p.heads.getD x.a.toNat []).length:Int) then some ((p.heads.getD x.a.toNat []).getD x.b.toNat 0) else none)
 else if x.k=2 then (if 0<=x.a/\x.a<(p.metas.length:Int)/\x.b=0 then some (p.metas.getD x.a.toNat 0) else none)
 else if x.k=3 then (if act<0/\0<=x.a/\x.a<(p.tabs.length:Int)/\x.b=0 then some 0 else none)
 else if x.k=6 then (if 0<=x.a/\x.a<(p.heads.length:Int)/\(x.b=0\/x.b=1) then some 0 else none)
 else if x.k=7\/x.k=5\/x.k=4\/x.k=8 then (if x.a=0/\x.b=0 then some (if x.k=7 then 1 else if x.k=5 then 9 else 0) else none)
 else none
def bX (p:Prg) (act:Int) (x:Ist) (i many:Nat):Bool:=
 match bK p act x with
 |none=>false
 |some w=>(if x.k=7\/x.k=8 then decide ((i:Int)<x.to/\x.to<=(many:Int)) else decide (x.to=0))&&(if w=0 then decide (x.e.length=0) else decide (aL p act x.e=some w))
def bA {α:Type} (f:Nat->α->Bool):Nat->List α->Bool
 |_,[]=>true
 |i,x::l=>f i x&&bA f (i+1) l
def aH (p:Prg) (act:Int) (l:List Ist):Bool:=decide (l.length<=65536)&&bA (fun i x=>bX p act x i l.length) 0 l
def dF (below:Int):List Int->List Int->Bool
 |_,[]=>true
 |aQ,x::l=>decide (0<=x/\x<below)&& !aQ.contains x&&dF below (aQ++[x]) l
def iD (x:Pt) (w:Int):Bool:=bH x.v w&&bH x.m w&&decide (x.v &&& x.m=x.v)
def cd (p:Prg) (s:Stp):Bool:=
 decide (s.takes.length<=8/\s.keys.length<=4/\ -2<=s.to/\s.to<(p.steps.length:Int))&&s.takes.all (fun h=>decide (0<=h/\h<(p.heads.length:Int)))&&
 (if s.keys.length=0 then decide (s.brs.length=0) else decide (s.to=0/\1<=s.brs.length/\s.brs.length<=16)&&bA (fun k c=>match aL p (-1) c with
  |none=>false
  |some w=>s.brs.all fun b=>decide (-2<=b.to/\b.to<(p.steps.length:Int)/\b.pats.length=s.keys.length)&&iD (b.pats.getD k ⟨0,0⟩) w) 0 s.keys)
def cw (p:Prg) (t:Tbl):Bool:=
 decide (1<=t.keys.length/\t.keys.length<=4/\t.kinds.length=t.keys.length/\1<=t.acts.length/\t.acts.length<=16)&&dF (p.acts.length:Int) [] t.acts&&
 bA (fun i c=>(aL p (-1) c).isSome&&decide (1<=t.kinds.getD i 0/\t.kinds.getD i 0<=3)) 0 t.keys&&decide ((t.kinds.filter fun k=>k=2).length<2)&&dQ p t.acts t.dact t.dargs
def fv (l:List Int):Int:=l.foldl (·+·) 0
def ge (p:Prg):Bool:=
 decide (p.heads.length<=8/\p.nh.length=p.heads.length/\p.nf.length=p.heads.length)&&bA (fun i l=>decide (1<=l.length/\l.length<=16)&&l.all dl&&decide (fv l%8=0/\fv l<=256/\(p.nf.getD i []).length=l.length)) 0 p.heads
def cS (s:Stp):List Int:=(if s.keys.length=0 then [s.to] else [])++s.brs.map (·.to)
def jh (state:Int):List Int->List Int×List Int->Option (List Int×List Int)
 |[],s=>some s
 |t::r,s=>if t=state then none else if 0<=t/\¬t∈s.1 then jh state r (s.1++[t],s.2++[t]) else jh state r s
def jH (p:Prg) (i:Int):Stp:=p.steps.getD i.toNat ⟨[],[[]],[],0⟩
def jI (p:Prg) (state:Int):List Int->List Int×List Int->Option (List Int×List Int)
 |[],s=>some s
 |i::r,s=>match jh state (cS (jH p i)) s with|none=>none|some s'=>jI p state r s'
def oJ (p:Prg) (state:Int):Nat->List Int->List Int->Bool
 |0,_,_=>false
 |_+1,_,[]=>false
 |k+1,aQ,i::now=>match jI p state (i::now) (aQ,[]) with|none=>true|some (seen',next)=>oJ p state k seen' next
def kE (p:Prg) (state:Nat):Bool:=oJ p state (p.steps.length+2) [] [(state:Int)]
theorem jJ:∀{l:List Int} {s s':List Int×List Int},jh state l s=some s'->∃d:List Int,s'.1=s.1++d/\s'.2=s.2++d/\(s.1.Nodup->s'.1.Nodup)/\(∀ t∈d,t∈l/\0<=t)
 |[],s,s',h=>by
  simp only[jh,Option.some.injEq] at h;subst h;exact ⟨[],by simp,by simp,id,fun t ht=>by simp at ht⟩
 |t::r,s,s',h=>by
  rw[jh] at h;split at h
  ·cases h
  ·split at h
   ·rename_i hc;obtain ⟨d,h1,h2,h3,h4⟩:=jJ h;refine ⟨t::d,by rw[h1];simp,by rw[h2];simp,fun hn=>h3 ?_,fun u hu=>?_⟩
    ·rw[List.nodup_append];refine ⟨hn,by simp,fun a ha b hb=>?_⟩;simp at hb;subst hb;intro e;subst e;exact hc.2 ha
    ·rcases List.mem_cons.1 hu with rfl|hu
     ·exact ⟨by simp,hc.1⟩
     ·exact ⟨List.mem_cons_of_mem _ (h4 u hu).1,(h4 u hu).2⟩
   ·obtain ⟨d,h1,h2,h3,h4⟩:=jJ h;exact ⟨d,h1,h2,h3,fun u hu=>⟨List.mem_cons_of_mem _ (h4 u hu).1,(h4 u hu).2⟩⟩
def oK (p:Prg):Prop:=∀(i:Nat) (s:Stp),p.steps[i]?=some s->∀t∈cS s,t<(p.steps.length:Int)
theorem xP {p:Prg} (h:oK p) {i:Int}:∀t∈cS (jH p i),t<(p.steps.length:Int):=by
 intro t ht;unfold jH at ht;by_cases hi:i.toNat<p.steps.length
 ·rw[List.getD_eq_getElem?_getD,bS hi] at ht;exact h _ _ (bS hi) t ht
 rw[List.getD_eq_getElem?_getD,List.getElem?_eq_none om] at ht;simp[cS] at ht
theorem jK {p:Prg} (h:oK p):∀{l:List Int} {s s':List Int×List Int},jI p state l s=some s'->∃d:List Int,s'.1=s.1++d/\s'.2=s.2++d/\(s.1.Nodup->s'.1.Nodup)/\(∀ t∈d,0<=t/\t<(p.steps.length:Int))
 |[],s,s',h2=>by
  simp only[jI,Option.some.injEq] at h2;subst h2;exact ⟨[],by simp,by simp,id,fun t ht=>by simp at ht⟩
 |i::r,s,s',h2=>by
  rw[jI] at h2;split at h2
  ·cases h2
  ·rename_i s1 hq;obtain ⟨d1,a1,a2,a3,a4⟩:=jJ hq;obtain ⟨d2,b1,b2,b3,b4⟩:=jK h h2;refine ⟨d1++d2,by rw[b1,a1];simp,by rw[b2,a2];simp,fun hn=>b3 (a3 hn),fun t ht=>?_⟩;rcases List.mem_append.1 ht with q|q
   ·exact ⟨(a4 t q).2,xP h t (a4 t q).1⟩
   ·exact b4 t q
theorem jL:∀(n:Nat) (l:List Nat),l.Nodup->(∀ t∈l,t<n)->l.length<=n
 |0,l,_,h=>by
  cases l with
  |nil=>simp
  |cons a l=>exact absurd (h a sm) om
 |n+1,l,hn,h=>by
  by_cases hm:n∈l
  ·have h1:=List.length_erase_of_mem hm;have h2:=jL n (l.erase n) (hn.erase n) (fun t ht=>by
    have h3:=h t (List.mem_of_mem_erase ht);have h4:t≠n:=fun e=>by subst e;exact hn.not_mem_erase ht
    omega)
   have h5:=List.length_pos_of_mem hm;omega
  ·have:=jL n l hn (fun t ht=>by
    have h3:=h t ht;have h4:t≠n:=fun e=>by subst e;exact hm ht
    omega)
   omega
theorem nI {l:List Int} (hn:l.Nodup) (hb:∀t∈l,0<=t/\t<(n:Int)):l.length<=n:=by
 have h1:(l.map Int.toNat).Nodup:=by
  refine List.Pairwise.map _ (fun a b hab=>?_) (List.Pairwise.and_mem.1 hn);obtain ⟨ha,hb2,hne⟩:=hab;intro e;exact hne (by have:=hb a ha;have:=hb b hb2;omega)
 have:=jL n (l.map Int.toNat) h1 (fun t ht=>by
  obtain ⟨a,ha,rfl⟩:=List.mem_map.1 ht;have:=hb a ha;omega)
 simpa using this
structure CycI (p:Prg) (state:Int) (fuel:Nat) (aQ now:List Int):Prop where
 nd:aQ.Nodup
 bd:∀t∈aQ,0<=t/\t<(p.steps.length:Int)
 nw:∀t∈now,0<=t/\t<(p.steps.length:Int)
 fu:now≠[]->p.steps.length+2<=fuel+aQ.length
 f1:1<=fuel
theorem CycI.next {p:Prg} {seen' next:List Int} (h:CycI p state fuel aQ now) (hg:oK p) (hn:now≠[]) (hv:jI p state now (aQ,[])=some (seen',next)):CycI p state (fuel-1) seen' next/\oJ p state fuel aQ now=oJ p state (fuel-1) seen' next:=by
 obtain ⟨d,h1,h2,h3,h4⟩:=jK hg hv;simp only[List.nil_append] at h1 h2;have hl:=nI h.nd h.bd;have hf:=h.fu hn;refine ⟨⟨h3 h.nd,fun t ht=>?_,fun t ht=>h4 t (by rw[<- h2];exact ht),fun hne=>?_,om⟩,?_⟩
 ·rw[h1] at ht;rcases List.mem_append.1 ht with q|q
  ·exact h.bd t q
  exact h4 t q
 ·rw[h1,List.length_append];have:0<d.length:=by rw[<- h2];exact List.length_pos_iff.2 hne
  omega
 obtain ⟨k,rfl⟩:∃k,fuel=k+1:=⟨fuel-1,om⟩;match now,hn with
 |i::r,_=>
  rw[oJ];rw[hv];rfl
theorem CycI.found {p:Prg} (h:CycI p state fuel aQ now) (hn:now≠[]) (hv:jI p state now (aQ,[])=none):oJ p state fuel aQ now=true:=by
 obtain ⟨k,rfl⟩:∃k,fuel=k+1:=⟨fuel-1,by have:=h.f1;omega⟩;match now,hn with
 |i::r,_=>rw[oJ,hv]
theorem CycI.stop {p:Prg} (h:CycI p state fuel aQ []):oJ p state fuel aQ []=false:=by
 obtain ⟨k,rfl⟩:∃k,fuel=k+1:=⟨fuel-1,by have:=h.f1;omega⟩;rfl
theorem CycI.start {p:Prg} {state:Nat} (h:state<p.steps.length):CycI p state (p.steps.length+2) [] [(state:Int)]:=
 ⟨List.nodup_nil,fun t ht=>by simp at ht,fun t ht=>by simp at ht;subst ht;omega,fun _=>by simp,om⟩
def iL (p:Prg):Bool:=
 ge p&&decide (p.metas.length<=16)&&p.metas.all dl&&decide (p.nm.length=p.metas.length/\p.na.length=p.acts.length/\p.nt.length=p.tabs.length)&&
 decide (1<=p.steps.length/\p.steps.length<=16/\p.acts.length<=16/\p.tabs.length<=8)&&dF (p.heads.length:Int) [] p.emit&&aH p (-1) p.ctl&&
 p.steps.all (cd p)&&(List.range p.steps.length).all (fun i=> !kE p i)&&
 bA (fun i a=>decide (a.params.length<=8)&&a.params.all dl&&aH p (i:Int) a.body) 0 p.acts&&p.tabs.all (cw p)
open Go.RowKit
def ai (w:World) (n:Nat) (e:Ending) (w':World):Prop:=e= .returned (aC n)/\Bl w w'
theorem xQ (a b:Int) (w:World):
 Calls Tryz.prog 135 #[.int .u64 a, .int .u64 b] w fun e w'=>e= .returned (.int .u64 (bits BinOp.or IntKind.u64 a b))/\w'=w:=by
 go_enter Tryz.func135,Tryz.ntmps135;go_wp2;go_ret;exact ⟨rfl,rfl⟩
theorem xR (a b c d:Int) (w:World):
 Calls Tryz.prog 132 #[.agg #[.int .u64 a, .int .u64 b], .agg #[.int .u64 c, .int .u64 d], .func (Fn.func 135) #[] #[]] w fun e w'=>e= .returned (.agg #[.int .u64 (bits BinOp.or IntKind.u64 a c), .int .u64 (bits BinOp.or IntKind.u64 b d)])/\Bl w w':=by
 go_enter Tryz.func132,Tryz.ntmps132;go_wp2;refine wp_region_still_tail 13 kq kq ?_;simp only[List.take_succ_cons,List.take_zero,List.drop_succ_cons,List.drop_zero];change wpStill _ _ (World.drew _) _ _ _;repeat (first|still_step|still_call (xQ _ _ _))
 refine wpStill_nil ?_;change wpList _ _ _ _ _ (World.drew _);go_wp2;exact bodyPost_ret (v:= .agg #[.int .u64 (bits BinOp.or IntKind.u64 a c), .int .u64 (bits BinOp.or IntKind.u64 b d)]) (by simp[results,Tryz.results132,go_sem]) rfl ⟨rfl,bL⟩
theorem zP (a b c d:Int) (w:World):
 Calls Tryz.prog 113 #[.agg #[.int .u64 a, .int .u64 b], .agg #[.int .u64 c, .int .u64 d]] w fun e w'=>e= .returned (.agg #[.int .u64 (bits BinOp.or IntKind.u64 a c), .int .u64 (bits BinOp.or IntKind.u64 b d)])/\Bl w w':=by
 go_enter Tryz.func113,Tryz.ntmps113;go_wp2_with (go_at_call 132;refine (xR _ _ _ _ _).mono ?_;rintro e w1 ⟨rfl,hb⟩;obtain ⟨hc,hf⟩:=bT hb;have hz:=hb.size;simp at hz);exact bodyPost_ret (v:= .agg #[.int .u64 (bits BinOp.or IntKind.u64 a c), .int .u64 (bits BinOp.or IntKind.u64 b d)]) (by simp[results,Tryz.results113,go_sem,hc,hf,hz]) rfl ⟨rfl,bL⟩
theorem nJ (a b:Nat) (w:World) (ha:a<B*B) (hb:b<B*B):Calls Tryz.prog 113 #[aC a,aC b] w (ai w (a ||| b)):=
 (zP _ _ _ _ w).mono fun e w' ⟨h1,h2⟩=>⟨by rw[h1,zJ a b ha hb],h2⟩
theorem ve (a b:Int) (w:World):
 Calls Tryz.prog 133 #[.int .u64 a, .int .u64 b] w fun e w'=>e= .returned (.int .u64 (bits BinOp.and IntKind.u64 a b))/\w'=w:=by
 go_enter Tryz.func133,Tryz.ntmps133;go_wp2;go_ret;exact ⟨rfl,rfl⟩
theorem vf (a b c d:Int) (w:World):
 Calls Tryz.prog 132 #[.agg #[.int .u64 a, .int .u64 b], .agg #[.int .u64 c, .int .u64 d], .func (Fn.func 133) #[] #[]] w fun e w'=>e= .returned (.agg #[.int .u64 (bits BinOp.and IntKind.u64 a c), .int .u64 (bits BinOp.and IntKind.u64 b d)])/\Bl w w':=by
 go_enter Tryz.func132,Tryz.ntmps132;go_wp2;refine wp_region_still_tail 13 kq kq ?_;simp only[List.take_succ_cons,List.take_zero,List.drop_succ_cons,List.drop_zero];change wpStill _ _ (World.drew _) _ _ _;repeat (first|still_step|still_call (ve _ _ _))
 refine wpStill_nil ?_;change wpList _ _ _ _ _ (World.drew _);go_wp2;exact bodyPost_ret (v:= .agg #[.int .u64 (bits BinOp.and IntKind.u64 a c), .int .u64 (bits BinOp.and IntKind.u64 b d)]) (by simp[results,Tryz.results132,go_sem]) rfl ⟨rfl,bL⟩
theorem sO (a b c d:Int) (w:World):
 Calls Tryz.prog 109 #[.agg #[.int .u64 a, .int .u64 b], .agg #[.int .u64 c, .int .u64 d]] w fun e w'=>e= .returned (.agg #[.int .u64 (bits BinOp.and IntKind.u64 a c), .int .u64 (bits BinOp.and IntKind.u64 b d)])/\Bl w w':=by
 go_enter Tryz.func109,Tryz.ntmps109;go_wp2_with (go_at_call 132;refine (vf _ _ _ _ _).mono ?_;rintro e w1 ⟨rfl,hb⟩;obtain ⟨hc,hf⟩:=bT hb;have hz:=hb.size;simp at hz);exact bodyPost_ret (v:= .agg #[.int .u64 (bits BinOp.and IntKind.u64 a c), .int .u64 (bits BinOp.and IntKind.u64 b d)]) (by simp[results,Tryz.results109,go_sem,hc,hf,hz]) rfl ⟨rfl,bL⟩
theorem lq (a b:Nat) (w:World) (ha:a<B*B) (hb:b<B*B):Calls Tryz.prog 109 #[aC a,aC b] w (ai w (a &&& b)):=
 (sO _ _ _ _ w).mono fun e w' ⟨h1,h2⟩=>⟨by rw[h1,sH a b ha hb],h2⟩
end Go.Proofs.YtjfhfaodbjecdaaGreat

/- Lemmas. -/
import Derived.Test.YtikilcbpogfgkaaGreatRows
import Derived.Lib.Hide
import Derived.Deep.LoopGhost
import Derived.Deep.RegionWith
import Derived.WalkSpells
import Derived.WalkLawsBesides
import Derived.Deep.AppendLies
import Derived.Laws.AppendOwnNone
import Derived.BigQuiet
import Derived.StillTailTactics
set_option maxHeartbeats 400000
set_option maxRecDepth 100000
namespace Go.Proofs.YtikilcbpogfgkaaGreat
open Go.RowKit
variable {P:Prop} {W w w':World} {xs:List Value} {base e size n j E c sz fuel:Nat} {α:Type} {state:Int} {now:List Int}
def Hd (p:Prop):Prop:=p
theorem Hd.o {p:Prop} (h:Hd p):p:=h
theorem br {n:Nat} {w:World}:Below n w w:=Below.refl _ _
theorem lr {n:Nat}:n<=n:=Nat.le_refl _
theorem zl {n:Nat}:0<=n:=Nat.zero_le _
theorem sm {P:Prop} (h:P:=by simp):P:=h
theorem gA_ {A:Type _} {a:Array A} {i:Nat} {v:A} (h:a[i]?=some v):∃h:i<a.size,a[i]=v:=Array.getElem?_eq_some_iff.1 h
theorem gL_ {A:Type _} {l:List A} {i:Nat} {v:A} (h:l[i]?=some v):∃h:i<l.length,l[i]=v:=List.getElem?_eq_some_iff.1 h
theorem gE_ {A:Type _} {l:List A} {i:Nat} (h:i<l.length):l[i]?=some l[i]:=List.getElem?_eq_getElem h
theorem gM_ {A:Type _} {l:List A} {i:Nat} {v:A} (h:l[i]?=some v):v∈l:=List.mem_of_getElem? h
theorem om (h : P := by omega) : P := h
theorem kq (h : P := by kernel_rfl) : P := h
theorem dq (h : P := by decide) : P := h
theorem mz (h : P := by simp[intOf];omega) : P := h
theorem nm {A : Sort _} (x : A) : ∃ z, z = x := ⟨_, rfl⟩
abbrev Bl (w W : World) : Prop := Below w.heap.size w W
@[simp] abbrev Cl (w : World) (b o : Nat) (v : Value) : Prop := w.cell? ⟨b, o, none⟩ = some v
abbrev CR (f : FuncId) (vs : Array Value) (W : World) (v : Value) : Prop := Calls Tryz.prog f vs W fun e w' => e = .returned v ∧ Below W.heap.size W w'
theorem bcell {w1:World} (hb:Bl W w1):(∀ b o,b<W.heap.size->w1.cell? ⟨b,o,none⟩=W.cell? ⟨b,o,none⟩)/\(∀ b o,b<W.heap.size->w1.frozen? ⟨b,o,none⟩=W.frozen? ⟨b,o,none⟩):=
 ⟨fun b o h=>hb.cell (p:=⟨b,o,none⟩) h,fun b o h=>hb.frozen (p:=⟨b,o,none⟩) h⟩
def IVec (w:World) (v:Value) (xs:List Int):Prop:=
 ∃pa cap,v= .slice pa xs.length cap/\xs.length<=cap/\cap<=maxLen/\
  (0<xs.length->∃b off,pa=some ⟨b,off,none⟩/\b<w.heap.size/\∀i,i<xs.length->w.cell? ⟨b,off+i,none⟩=some (.int .i64 (xs.getD i 0)))
theorem IVec.nil (w:World):IVec w (.slice none 0 0) []:=⟨none,0,rfl,Nat.le_refl _,zl,fun h=>absurd h (Nat.lt_irrefl 0)⟩
theorem IVec.shape {v:Value} {xs:List Int} (h:IVec w v xs):∃pa cap,v= .slice pa xs.length cap/\xs.length<=cap/\cap<=maxLen/\
 (0<xs.length->∃b off,pa=some ⟨b,off,none⟩/\b<w.heap.size/\∀i,i<xs.length->w.cell? ⟨b,off+i,none⟩=some (.int .i64 (xs.getD i 0))):=h
theorem cell_there {a:Addr} {v:Value} (h:w.cell? a=some v):a.block<w.heap.size/\a.spot=none:=by
 unfold World.cell? at h;split at h
 ·rename_i c t f hb;refine ⟨(gA_ hb).1,?_⟩;split at h
  ·cases h
  rename_i hs;simpa using hs
 cases h
theorem own_below {v:Value} (h:w.ownsRow base e size v n xs) (hb:Bl w w'):w'.ownsRow base e size v n xs:=by
 obtain ⟨hl,h⟩:=h;refine ⟨hl,?_⟩;rcases h with h|⟨g,cap,cur,h1,h2,h3,h4⟩
 ·exact .inl h
 have hlt:g<w.heap.size:=by
  rcases Nat.lt_or_ge g w.heap.size with h|h
  ·exact h
  rw[Array.getElem?_eq_none h] at h3;cases h3
 exact .inr ⟨g,cap,cur,h1,h2,by rw[hb.block g hlt];exact h3,h4⟩
theorem bL (h : Below n w W := by repeat (first|exact br|assumption|refine Below.drew ?_|refine blA ?_|refine blS ?_|refine blT ?_ (by assumption))) : Below n w W := h
theorem hD (h:P):Hd P:=h
theorem blA {o:Obj} (h:Below n w W) (hn:n<=W.heap.size:=by first|omega|(simp<;>omega)):Below n w (W.alloc o):=Below.alloc h hn o
theorem blS {p:Addr} {v:Value} (h:Below n w W) (hn:n<=p.block:=by first|omega|(simp<;>omega)):Below n w (W.setCell p v):=Below.setCell h hn v
theorem blT {m:Nat} {v:World} (h:Below n w v) (h2:Below m v W) (hn:n<=m:=by first|omega|(simp<;>omega)):Below n w W:=Below.trans h (Below.mono h2 hn)
open Go.RowKit
def RowAt {α:Type} (sz:Nat) (At:World->Nat->Nat->α->Prop) (w:World) (v:Value) (l:List α):Prop:=
 ∃pa cap,v= .slice pa l.length cap/\l.length<=cap/\cap<=maxLen/\(pa=none->cap=0)/\
  (0<l.length->∃b o,pa=some ⟨b,o,none⟩/\b<w.heap.size/\∀j x,l[j]?=some x->At w b (o+j*sz) x)
def KeepAt {α:Type} (At:World->Nat->Nat->α->Prop):Prop:=∀(w w':World) (b o:Nat) (x:α),Bl w w'->b<w.heap.size->At w b o x->At w' b o x
section
variable {α:Type} {sz:Nat} {At:World->Nat->Nat->α->Prop} {w w':World} {v:Value} {l:List α}
theorem RowAt.nil:RowAt sz At w (.slice none 0 0) ([]:List α):=⟨none,0,rfl,Nat.le_refl _,zl,fun _=>rfl,fun h=>absurd h (Nat.lt_irrefl 0)⟩
theorem RowAt.below (h:RowAt sz At w v l) (hk:KeepAt At) (hb:Bl w w'):RowAt sz At w' v l:=by
 obtain ⟨pa,cap,h1,h2,h3,h4,h5⟩:=h;refine ⟨pa,cap,h1,h2,h3,h4,fun h0=>?_⟩;obtain ⟨b,o,e1,e2,e4⟩:=h5 h0;exact ⟨b,o,e1,Nat.lt_of_lt_of_le e2 hb.size,fun j x hj=>hk w w' b _ x hb e2 (e4 j x hj)⟩
theorem RowAt.shape (h:RowAt sz At w v l):∃pa cap,v= .slice pa l.length cap/\l.length<=cap/\cap<=maxLen:=by
 obtain ⟨pa,cap,h1,h2,h3,-⟩:=h;exact ⟨pa,cap,h1,h2,h3⟩
theorem RowAt.at (h:RowAt sz At w v l) {x:α} (hj:l[j]?=some x):∃b o cap,v= .slice (some ⟨b,o,none⟩) l.length cap/\b<w.heap.size/\At w b (o+j*sz) x:=by
 obtain ⟨pa,cap,h1,h2,h3,h4,h5⟩:=h;have hlt:j<l.length:=(gL_ hj).1;obtain ⟨b,o,rfl,e2,e4⟩:=h5 om;exact ⟨b,o,cap,h1,e2,e4 j x hj⟩
theorem RowAt.all (h:RowAt sz At w v l):∃pa cap,v= .slice pa l.length cap/\l.length<=cap/\cap<=maxLen/\(pa=none->cap=0)/\
 (0<l.length->∃b o,pa=some ⟨b,o,none⟩/\b<w.heap.size/\∀j x,l[j]?=some x->At w b (o+j*sz) x):=h
end
def CellsAt (w:World) (b o:Nat) (cs:List Value):Prop:=∀i v,cs[i]?=some v->w.cell? ⟨b,o+i,none⟩=some v
open Go
def B:Nat:=18446744073709551616
theorem B_pow:B=2 ^ 64:=rfl
theorem B_pos:0<B:=by unfold B;omega
def numV (n:Nat):Value:= .agg #[.int .u64 ((n/B:Nat):Int), .int .u64 ((n%B:Nat):Int)]
def sh (k:Int):Nat:=(max 0 (min k 128)).toNat
theorem sh_le (k:Int):sh k<=128:=by unfold sh;omega
theorem numV_parts (n:Nat):∃h l:Nat,numV n= .agg #[.int .u64 (h:Int), .int .u64 (l:Int)]/\h=n/B/\l=n%B:=⟨_,_,rfl,rfl,rfl⟩
theorem numV_mk (h l:Nat) (hl:l<B):Value.agg #[.int .u64 (h:Int), .int .u64 (l:Int)]=numV (h*B+l):=by
 unfold numV;have e1:(h*B+l)/B=h:=by rw[Nat.add_comm,Nat.add_mul_div_right _ _ B_pos,Nat.div_eq_of_lt hl,Nat.zero_add]
 have e2:(h*B+l)%B=l:=by rw[Nat.add_comm,Nat.add_mul_mod_self_right,Nat.mod_eq_of_lt hl]
 rw[e1,e2]
theorem half_lt (h:n<B*B):n/B<B:=Nat.div_lt_of_lt_mul h
theorem low_lt (n:Nat):n%B<B:=Nat.mod_lt _ B_pos
theorem parts_eq (n:Nat):n/B*B+n%B=n:=by rw[Nat.mul_comm];exact Nat.div_add_mod n B
theorem wrap_cast (x:Nat):IntKind.u64.wrap (x:Int)=((x%B:Nat):Int):=by rw[IntKind.wrap_u64];unfold B;omega
theorem or_cast (a b:Nat) (ha:a<B) (hb:b<B):bits .or .u64 (a:Int) (b:Int)=((a ||| b:Nat):Int):=u64_or_nat a b ha hb
theorem and_cast (a b:Nat) (ha:a<B) (hb:b<B):bits .and .u64 (a:Int) (b:Int)=((a &&& b:Nat):Int):=u64_and_nat a b ha hb
theorem xor_cast (a b:Nat) (ha:a<B) (hb:b<B):bits .xor .u64 (a:Int) (b:Int)=((a ^^^ b:Nat):Int):=u64_xor_nat a b ha hb
theorem two_halves (s:Nat) (h:s<=64):2 ^ s*2 ^ (64-s)=B:=by rw[<- Nat.pow_add,B_pow];congr 1;omega
theorem split_num (h l t u:Nat) (htu:t*u=B) (ht:0<t) (_hu:0<u) (hl:l<B):
 (h*B+l)/t=(h/t)*B+((h%t)*u+l/t)/\l/t<u/\(h%t)*u+l/t<B:=by
 have hlt:l/t<u:=Nat.div_lt_of_lt_mul (by rw[htu];exact hl);refine ⟨?_,hlt,?_⟩
 ·have e:h*B+l=t*(h*u)+l:=by rw[<- htu];congr 1;rw[Nat.mul_left_comm]
  rw[e,Nat.mul_add_div ht];have e2:h*u=(h/t)*B+(h%t)*u:=by
   conv=>lhs;rw[<- Nat.div_add_mod h t]
   rw[Nat.add_mul, <-htu];congr 1;rw[Nat.mul_comm t,Nat.mul_assoc]
  rw[e2,Nat.add_assoc]
 have h1:h%t<t:=Nat.mod_lt _ ht;have h2:(h%t+1)*u<=t*u:=Nat.mul_le_mul_right u h1;rw[Nat.add_mul,Nat.one_mul,htu] at h2;omega
theorem shr_small (h l s:Nat) (_hh:h<B) (hl:l<B) (h0:s<64):
 Value.agg #[.int .u64 ((h:Int)/2 ^ s), .int .u64 (bits .or .u64 ((l:Int)/2 ^ s) (IntKind.u64.wrap ((h:Int)*2 ^ (64-s))))]=numV ((h*B+l)/2 ^ s):=by
 have htu:=two_halves s om;have ht:0<2 ^ s:=Nat.two_pow_pos s;have hu:0<2 ^ (64-s):=Nat.two_pow_pos _;obtain ⟨e1,e2,e3⟩:=split_num h l (2 ^ s) (2 ^ (64-s)) htu ht hu hl;have c1:(h:Int)/2 ^ s=((h/2 ^ s:Nat):Int):=by push_cast;rfl
 have c2:(l:Int)/2 ^ s=((l/2 ^ s:Nat):Int):=by push_cast;rfl
 have c3:(h:Int)*2 ^ (64-s)=((h*2 ^ (64-s):Nat):Int):=by push_cast;rfl
 have hm:h*2 ^ (64-s)%B=(h%2 ^ s)*2 ^ (64-s):=by rw[<- htu,Nat.mul_mod_mul_right]
 rw[c1,c2,c3,wrap_cast,hm,or_cast _ _ (Nat.lt_of_le_of_lt (Nat.div_le_self _ _) hl) (Nat.lt_of_le_of_lt (Nat.le_add_right _ _) e3),Nat.or_comm,nat_join (64-s) _ _ (by rw[Nat.mul_mod_left]) e2,numV_mk _ _ e3,e1]
theorem shr_great (h l s:Nat) (hh:h<B) (hl:l<B) (h0:64<=s):
 Value.agg #[.int .u64 0, .int .u64 ((h:Int)/2 ^ (s-64))]=numV ((h*B+l)/2 ^ s):=by
 have c1:(h:Int)/2 ^ (s-64)=((h/2 ^ (s-64):Nat):Int):=by push_cast;rfl
 have e:(h*B+l)/2 ^ s=h/2 ^ (s-64):=by
  have:2 ^ s=B*2 ^ (s-64):=by rw[B_pow, <-Nat.pow_add];congr 1;omega
  rw[this, <-Nat.div_div_eq_div_mul,Nat.add_comm,Nat.add_mul_div_right _ _ B_pos,Nat.div_eq_of_lt hl,Nat.zero_add]
 have h2:=numV_mk 0 (h/2 ^ (s-64)) (Nat.lt_of_le_of_lt (Nat.div_le_self _ _) hh);rw[c1,e];rw[Nat.zero_mul,Nat.zero_add] at h2;exact h2
theorem shl_small (h l s:Nat) (_hh:h<B) (hl:l<B) (h0:s<64):
 Value.agg #[.int .u64 (bits .or .u64 (IntKind.u64.wrap ((h:Int)*2 ^ s)) ((l:Int)/2 ^ (64-s))), .int .u64 (IntKind.u64.wrap ((l:Int)*2 ^ s))]=numV ((h*B+l)*2 ^ s%(B*B)):=by
 have htu:=two_halves s om;have ht:0<2 ^ s:=Nat.two_pow_pos s;have hu:0<2 ^ (64-s):=Nat.two_pow_pos _;have c1:(h:Int)*2 ^ s=((h*2 ^ s:Nat):Int):=by push_cast;rfl
 have c2:(l:Int)*2 ^ s=((l*2 ^ s:Nat):Int):=by push_cast;rfl
 have c3:(l:Int)/2 ^ (64-s)=((l/2 ^ (64-s):Nat):Int):=by push_cast;rfl
 have hlt:l/2 ^ (64-s)<2 ^ s:=Nat.div_lt_of_lt_mul (by rw[Nat.mul_comm,htu];exact hl);have hm:h*2 ^ s%B=(h%2 ^ (64-s))*2 ^ s:=by rw[<- htu,Nat.mul_comm (2 ^ s) (2 ^ (64-s)),Nat.mul_mod_mul_right]
 have hm2:l*2 ^ s=(l/2 ^ (64-s))*B+(l%2 ^ (64-s))*2 ^ s:=by
  conv=>lhs;rw[<- Nat.div_add_mod l (2 ^ (64-s))]
  rw[Nat.add_mul, <-htu];congr 1;rw[Nat.mul_comm (2 ^ (64-s)),Nat.mul_assoc,Nat.mul_comm (2 ^ (64-s))]
 have hx:(l%2 ^ (64-s))*2 ^ s<B:=by
  have h1:l%2 ^ (64-s)<2 ^ (64-s):=Nat.mod_lt _ hu;have h2:(l%2 ^ (64-s)+1)*2 ^ s<=2 ^ (64-s)*2 ^ s:=Nat.mul_le_mul_right _ h1;rw[Nat.add_mul,Nat.one_mul,Nat.mul_comm (2 ^ (64-s)),htu] at h2;omega
 have hm3:l*2 ^ s%B=(l%2 ^ (64-s))*2 ^ s:=by rw[hm2,Nat.add_comm,Nat.add_mul_mod_self_right,Nat.mod_eq_of_lt hx]
 have hy:(h%2 ^ (64-s))*2 ^ s+l/2 ^ (64-s)<B:=by
  have h1:h%2 ^ (64-s)<2 ^ (64-s):=Nat.mod_lt _ hu;have h2:(h%2 ^ (64-s)+1)*2 ^ s<=2 ^ (64-s)*2 ^ s:=Nat.mul_le_mul_right _ h1;rw[Nat.add_mul,Nat.one_mul,Nat.mul_comm (2 ^ (64-s)),htu] at h2;omega
 have hz:h*2 ^ s=(h/2 ^ (64-s))*B+(h%2 ^ (64-s))*2 ^ s:=by
  conv=>lhs;rw[<- Nat.div_add_mod h (2 ^ (64-s))]
  rw[Nat.add_mul, <-htu];congr 1;rw[Nat.mul_comm (2 ^ (64-s)),Nat.mul_assoc,Nat.mul_comm (2 ^ (64-s))]
 have he:(h*B+l)*2 ^ s%(B*B)=((h%2 ^ (64-s))*2 ^ s+l/2 ^ (64-s))*B+(l%2 ^ (64-s))*2 ^ s:=by
  have e1:(h*B+l)*2 ^ s=(h/2 ^ (64-s))*(B*B)+(((h%2 ^ (64-s))*2 ^ s+l/2 ^ (64-s))*B+(l%2 ^ (64-s))*2 ^ s):=by
   rw[Nat.add_mul,hm2,Nat.mul_assoc,Nat.mul_comm B, <-Nat.mul_assoc,hz];simp only[Nat.add_mul,Nat.mul_assoc,Nat.add_assoc]
  have e2:((h%2 ^ (64-s))*2 ^ s+l/2 ^ (64-s))*B+(l%2 ^ (64-s))*2 ^ s<B*B:=by
   have h2:((h%2 ^ (64-s))*2 ^ s+l/2 ^ (64-s)+1)*B<=B*B:=Nat.mul_le_mul_right _ hy;rw[Nat.add_mul _ 1,Nat.one_mul] at h2;omega
  rw[e1,Nat.add_comm,Nat.add_mul_mod_self_right,Nat.mod_eq_of_lt e2]
 rw[c1,c2,c3,wrap_cast,wrap_cast,hm,hm3,or_cast _ _ (Nat.lt_of_le_of_lt (Nat.le_add_right _ _) hy) (Nat.lt_of_le_of_lt (Nat.div_le_self _ _) hl),nat_join s _ _ (by rw[Nat.mul_mod_left]) hlt,numV_mk _ _ hx,he]
theorem shl_great (h l s:Nat) (_hh:h<B) (_hl:l<B) (h0:64<=s):
 Value.agg #[.int .u64 (IntKind.u64.wrap ((l:Int)*2 ^ (s-64))), .int .u64 0]=numV ((h*B+l)*2 ^ s%(B*B)):=by
 have c1:(l:Int)*2 ^ (s-64)=((l*2 ^ (s-64):Nat):Int):=by push_cast;rfl
 have hs:2 ^ s=2 ^ (s-64)*B:=by rw[B_pow, <-Nat.pow_add];congr 1;omega
 have e:(h*B+l)*2 ^ s%(B*B)=(l*2 ^ (s-64)%B)*B:=by
  have e0:(h*B+l)*2 ^ (s-64)%B=l*2 ^ (s-64)%B:=by
   rw[Nat.add_mul,Nat.mul_right_comm,Nat.add_comm,Nat.add_mul_mod_self_right]
  rw[hs, <-Nat.mul_assoc,Nat.mul_mod_mul_right,e0]
 have h2:=numV_mk (l*2 ^ (s-64)%B) 0 B_pos;rw[Nat.add_zero, <-e] at h2;rw[c1,wrap_cast];exact h2
theorem or_num (a b:Nat) (ha:a<B*B) (hb:b<B*B):
 Value.agg #[.int .u64 (bits .or .u64 ((a/B:Nat):Int) ((b/B:Nat):Int)), .int .u64 (bits .or .u64 ((a%B:Nat):Int) ((b%B:Nat):Int))]=numV (a ||| b):=by
 rw[or_cast _ _ (half_lt ha) (half_lt hb),or_cast _ _ (low_lt _) (low_lt _)];unfold numV;rw[B_pow,Nat.or_div_two_pow,Nat.or_mod_two_pow]
theorem and_num (a b:Nat) (ha:a<B*B) (hb:b<B*B):
 Value.agg #[.int .u64 (bits .and .u64 ((a/B:Nat):Int) ((b/B:Nat):Int)), .int .u64 (bits .and .u64 ((a%B:Nat):Int) ((b%B:Nat):Int))]=numV (a &&& b):=by
 rw[and_cast _ _ (half_lt ha) (half_lt hb),and_cast _ _ (low_lt _) (low_lt _)];unfold numV;rw[B_pow,Nat.and_div_two_pow,Nat.and_mod_two_pow]
theorem xor_num (a b:Nat) (ha:a<B*B) (hb:b<B*B):
 Value.agg #[.int .u64 (bits .xor .u64 ((a/B:Nat):Int) ((b/B:Nat):Int)), .int .u64 (bits .xor .u64 ((a%B:Nat):Int) ((b%B:Nat):Int))]=numV (a ^^^ b):=by
 rw[xor_cast _ _ (half_lt ha) (half_lt hb),xor_cast _ _ (low_lt _) (low_lt _)];unfold numV;rw[B_pow,Nat.xor_div_two_pow,Nat.xor_mod_two_pow]
open Go.RowKit
def NAt (w:World) (b o:Nat) (n:Nat):Prop:=n<B*B/\w.cell? ⟨b,o,none⟩=some (.int .u64 ((n/B:Nat):Int))/\w.cell? ⟨b,o+1,none⟩=some (.int .u64 ((n%B:Nat):Int))
theorem keepN:KeepAt NAt:=fun _w _w' b o _n hb hlt ⟨h0,h1,h2⟩=>⟨h0,(hb.cell (p:=⟨b,o,none⟩) hlt).trans h1,(hb.cell (p:=⟨b,o+1,none⟩) hlt).trans h2⟩
structure Pt where
 v:Nat
 m:Nat
def PAt (w:World) (b o:Nat) (p:Pt):Prop:=NAt w b o p.v/\NAt w b (o+2) p.m
theorem keepP:KeepAt PAt:=fun w w' b o p hb hlt ⟨h1,h2⟩=>⟨keepN w w' b o p.v hb hlt h1,keepN w w' b (o+2) p.m hb hlt h2⟩
abbrev NRow:=RowAt 2 NAt
abbrev PRow:=RowAt 4 PAt
structure Ent where
 tab:Int
 pats:List Pt
 len:Int
 prio:Int
 act:Int
 args:List Nat
def EAt (w:World) (b o:Nat) (e:Ent):Prop:=
 w.cell? ⟨b,o,none⟩=some (.int .i64 e.tab)/\(∃ v,w.cell? ⟨b,o+1,none⟩=some v/\PRow w v e.pats)/\w.cell? ⟨b,o+2,none⟩=some (.int .i64 e.len)/\w.cell? ⟨b,o+3,none⟩=some (.int .i64 e.prio)/\
 w.cell? ⟨b,o+4,none⟩=some (.int .i64 e.act)/\(∃ v,w.cell? ⟨b,o+5,none⟩=some v/\NRow w v e.args)
theorem keepE:KeepAt EAt:=fun _w _w' b o _e hb hlt ⟨h1,⟨v2,h2,k2⟩,h3,h4,h5,⟨v6,h6,k6⟩⟩=>
 ⟨(hb.cell (p:=⟨b,o,none⟩) hlt).trans h1,⟨v2,(hb.cell (p:=⟨b,o+1,none⟩) hlt).trans h2,k2.below keepP hb⟩,(hb.cell (p:=⟨b,o+2,none⟩) hlt).trans h3,(hb.cell (p:=⟨b,o+3,none⟩) hlt).trans h4,(hb.cell (p:=⟨b,o+4,none⟩) hlt).trans h5,⟨v6,(hb.cell (p:=⟨b,o+5,none⟩) hlt).trans h6,k6.below keepN hb⟩⟩
abbrev ERow:=RowAt 6 EAt
def patV (p:Pt):Value:= .agg #[.int .u64 ((p.v/B:Nat):Int), .int .u64 ((p.v%B:Nat):Int), .int .u64 ((p.m/B:Nat):Int), .int .u64 ((p.m%B:Nat):Int)]
def EntV (w:World) (v:Value) (e:Ent):Prop:=∃pv av,v= .agg #[.int .i64 e.tab,pv, .int .i64 e.len, .int .i64 e.prio, .int .i64 e.act,av]/\PRow w pv e.pats/\NRow w av e.args
theorem infoNum:(Tryz.prog.info? 82).map (fun i=>(i.zero,i.size,i.bytes))=some (some (.agg #[.int .u64 0, .int .u64 0]),2,16):=by kernel_rfl
theorem infoInt:(Tryz.prog.info? 3).map (fun i=>(i.zero,i.size,i.bytes))=some (some (.int .i64 0),1,8):=by kernel_rfl
open Go.RowKit
structure ElemOk (S E:TypeId) (z:Value) (size bytes:Nat):Prop where
 und:Tryz.prog.underlying S=some (.slice E)
 inf:(Tryz.prog.info? E).map (fun i=>(i.zero,i.size,i.bytes))=some (some z,size,bytes)
 zs:z.cells.size=size
 sz:0<size
def SrcAt (w:World) (size:Nat) (vx:Value) (m:Nat) (news:List Value):Prop:=
 news.length=m*size/\(∀ u∈news,u.oneCell'=true)/\((vx= .slice none 0 0/\m=0)\/∃ad c,vx= .slice (some ad) m c/\∀j u,news[j]?=some u->w.cell? (ad.add j)=some u)
theorem grownBy_same (w:World) (row:Option Nat):w.grownBy w row:=⟨rfl,rfl,rfl,Nat.le_refl _,fun _ _ _=>rfl⟩
theorem append_gen {S E:TypeId} {z:Value} {bytes:Nat} (H:ElemOk S E z size bytes) {ops:Array Oper} {rest:List Oper} {o:Oper} {a:Act} {Q:Exit->Act->World->Prop} (hgd:o.guard=none) (s x:Operand)
 (ho:o.op= .call { callee:= .builtin .append,args:=#[s,x],argTypes:=#[S,S] })
 (base:Nat) (v:Value) (n:Nat) (xs:List Value) (hs:a.eval s=v) (hown:w.ownsRow base E size v n xs)
 (vx:Value) (m:Nat) (news:List Value) (hx:a.eval x=vx) (hsrc:SrcAt w size vx m news) (hl:(n+m)*bytes<=140737488355328) (hm:n+m<=maxLen) (hbase:base<=w.heap.size)
 (h:∀v' w',w'.ownsRow base E size v' (n+m) (xs++news)->w.grownBy w' v.ownBlock->wpList Tryz.prog ops Q rest (a.put o.dst v') w'):wpList Tryz.prog ops Q (o::rest) a w:=by
 obtain ⟨i0,hi,hz0,hz1,hz2⟩:=info_parts H.inf;obtain ⟨h1,h2,⟨rfl,rfl⟩|⟨ad,c,rfl,h3⟩⟩:=hsrc
 ·obtain rfl:news=[]:=List.eq_nil_of_length_eq_zero om;refine wpList_append_own_none hgd s x _ ho base E i0 size H.und hi v n xs hs hown hx ?_;exact h v w (by simpa using hown) (grownBy_same _ _)
 exact wpList_append_own _ hgd s x _ ho base E i0 z size bytes H.und hi hz0 hz1 hz2 H.zs H.sz v n xs hs hown ad m c news hx h1 h3 h2 hm hl hbase fun v' w' q1 q2 _=>h v' w' q1 q2
theorem below_grown {B:Nat} {w0:World} {v:Value} (hb:Below B w0 w) (hown:w.ownsRow base e size v n xs) (hg:w.grownBy w' v.ownBlock) (hbase:B<=base) (hB:B<=w.heap.size):Below B w0 w':=by
 refine hb.grown hg hB (fun k hk=>?_);rcases hown.2 with ⟨q,-⟩|⟨g,cap,cur,q1,q2,-⟩
 ·rw[q] at hk;cases hk
 rw[q1] at hk;simp only[Value.ownBlock] at hk;cases hk;omega
theorem owns_made0 (w:World) (E:TypeId) (size:Nat):(w.alloc (.cells #[] E)).ownsRow w.heap.size E size (.slice (some ⟨w.heap.size,0,none⟩) 0 0) 0 []:=
 World.ownsRow_made w #[] 0 lr (zl) sm
theorem addr_add (b o j:Nat):(⟨b,o,none⟩:Addr).add j=⟨b,o+j,none⟩:=by
 unfold Addr.add;split
 ·subst_vars;rfl
 rfl
theorem src_one {g:Nat} {news:List Value} (hl:news.length=size) (h1:∀u∈news,u.oneCell'=true) (hc:∀j u,news[j]?=some u->w.cell? ⟨g,j,none⟩=some u):SrcAt w size (.slice (some ⟨g,0,none⟩) 1 c) 1 news:=
 ⟨om,h1, .inr ⟨_,_,rfl,fun j u hj=>by rw[addr_add,Nat.zero_add];exact hc j u hj⟩⟩
theorem flatten_at:∀{ls:List (List Value)} (_:∀c∈ls,c.length=size) {j i:Nat} {c:List Value} {u:Value},ls[j]?=some c->c[i]?=some u->ls.flatten[j*size+i]?=some u
 |[],_,j,_,_,_,h,_=>by simp at h
 |c0::ls,hs,0,i,c,u,h,hi=>by
  simp only[List.getElem?_cons_zero,Option.some.injEq] at h;subst h;have hlt:=(gL_ hi).1;rw[List.flatten_cons,Nat.zero_mul,Nat.zero_add,List.getElem?_append_left hlt];exact hi
 |c0::ls,hs,j+1,i,c,u,h,hi=>by
  have h0:=hs c0 sm;rw[List.getElem?_cons_succ] at h;have ih:=flatten_at (fun c hc=>hs c (by simp[hc])) h hi;rw[List.flatten_cons,List.getElem?_append_right (by rw[h0,Nat.succ_mul];omega),h0, <-ih];congr 1;rw[Nat.succ_mul];omega
theorem rowAt_of_owns {At:World->Nat->Nat->α->Prop} {v:Value} {l:List α} {ls:List (List Value)} (hn:n=l.length) (hlen:ls.length=l.length) (h:w.ownsRow base E size v n ls.flatten) (hsz:∀c∈ls,c.length=size)
 (hat:∀(j:Nat) (x:α) (c:List Value),l[j]?=some x->ls[j]?=some c->∀b o,b<w.heap.size->CellsAt w b o c->At w b o x):RowAt size At w v l:=by
 subst hn;obtain ⟨hl,h⟩:=h;rcases h with ⟨h1,h2⟩|⟨g,cap,cur,h1,h2,h3,h4,h5,h6,h7⟩
 ·obtain rfl:=List.length_eq_zero_iff.1 h2;rw[h1];exact RowAt.nil
 have hlt:g<w.heap.size:=(gA_ h3).1;refine ⟨some ⟨g,0,none⟩,cap,h1,h4,h5,(fun h=>by cases h),fun _=>⟨g,0,rfl,hlt,fun j x hj=>?_⟩⟩;have hjl:j<l.length:=(gL_ hj).1;obtain ⟨c,hc⟩:∃c,ls[j]?=some c:=⟨_,gE_ om⟩;refine hat j x c hj hc g _ hlt fun i u hi=>?_
 have hil:=(gL_ hi).1;have hcl:=hsz c (gM_ hc);have h8:=flatten_at hsz hc hi;rw[<- h7,List.getElem?_take_of_lt (by
  have:j*size+size<=l.length*size:=by rw[<- Nat.succ_mul];exact Nat.mul_le_mul_right _ hjl
  omega)] at h8
 simp only[World.cell?,h3,Nat.zero_add];simpa using h8
structure FlatG {α:Type} (size:Nat) (At:World->Nat->Nat->α->Prop) (enc:α->List Value):Prop where
 len:∀x,(enc x).length=size
 one:∀x,∀u∈enc x,u.oneCell'=true
 get:∀w b o x,At w b o x->CellsAt w b o (enc x)
structure Flat {α:Type} (size:Nat) (At:World->Nat->Nat->α->Prop) (enc:α->List Value):Prop extends FlatG size At enc where
 put:∀w b o x,CellsAt w b o (enc x)->At w b o x
theorem flat_len {enc:α->List Value} (h:∀x,(enc x).length=size):∀l:List α,(l.flatMap enc).length=l.length*size
 |[]=>by simp
 |x::l=>by rw[List.flatMap_cons,List.length_append,h,flat_len h l,List.length_cons,Nat.succ_mul];omega
theorem flat_at {enc:α->List Value} (h:∀x,(enc x).length=size):∀(l:List α) (j:Nat) (u:Value),(l.flatMap enc)[j]?=some u->∃k x i,l[k]?=some x/\(enc x)[i]?=some u/\j=k*size+i
 |[],j,u,hj=>by simp at hj
 |x::l,j,u,hj=>by
  rw[List.flatMap_cons] at hj;by_cases hlt:j<size
  ·rw[List.getElem?_append_left (by rw[h];exact hlt)] at hj;exact ⟨0,x,j,rfl,hj,om⟩
  ·rw[List.getElem?_append_right (by rw[h];omega),h] at hj;obtain ⟨k,y,i,h1,h2,h3⟩:=flat_at h l _ u hj;exact ⟨k+1,y,i,h1,h2,by rw[Nat.succ_mul];omega⟩
theorem RowAt.of_flatG {At:World->Nat->Nat->α->Prop} {enc:α->List Value} (hL:∀x,(enc x).length=size) {v:Value} {l:List α} (hn:n=l.length) (h:w.ownsRow base E size v n (l.flatMap enc)) (hput:∀x∈l,∀b o,CellsAt w b o (enc x)->At w b o x):RowAt size At w v l:=by
 rw[List.flatMap_def] at h;refine rowAt_of_owns hn sm h (fun c hc=>?_) fun j x c hj hc b o _ hcl=>?_
 ·obtain ⟨x,-,rfl⟩:=List.mem_map.1 hc;exact hL x
 rw[List.getElem?_map,hj] at hc;cases hc;exact hput x (gM_ hj) _ _ hcl
theorem RowAt.of_flat {At:World->Nat->Nat->α->Prop} {enc:α->List Value} (hF:Flat size At enc) {v:Value} {l:List α} (hn:n=l.length) (h:w.ownsRow base E size v n (l.flatMap enc)):RowAt size At w v l:=
 RowAt.of_flatG hF.len hn h fun x _ b o=>hF.put w b o x
theorem RowAt.src {At:World->Nat->Nat->α->Prop} {enc:α->List Value} (hF:FlatG size At enc) {v:Value} {l:List α} (h:RowAt size At w v l):SrcAt w size v l.length (l.flatMap enc):=by
 refine ⟨flat_len hF.len l,fun u hu=>?_,?_⟩
 ·obtain ⟨x,-,hx⟩:=List.mem_flatMap.1 hu;exact hF.one x u hx
 obtain ⟨pa,cap,rfl,h2,h3,h4,h5⟩:=h;cases pa with
 |none=>obtain rfl:=h4 rfl;have h0:l.length=0:=om;exact .inl ⟨by rw[h0],h0⟩
 |some ad=>
  refine .inr ⟨ad,cap,rfl,fun j u hj=>?_⟩;obtain ⟨k,x,i,e1,e2,e3⟩:=flat_at hF.len l j u hj;obtain ⟨b,o,e4,-,e6⟩:=h5 (by have:=(gL_ e1).1;omega);cases e4;have:=hF.get _ _ _ _ (e6 k x e1) i u e2;rw[addr_add,e3, <-Nat.add_assoc];exact this
theorem RowAt.hi' {At:World->Nat->Nat->α->Prop} {pa:Option Addr} {l:List α} (h:RowAt size At w (.slice pa n c) l) {k:Nat} (hk:k<=l.length):RowAt size At w (.slice pa k c) (l.take k):=by
 obtain ⟨pa',cap,e,h2,h3,h4,h5⟩:=h;cases e;refine ⟨pa,c,by rw[List.length_take,Nat.min_eq_left hk],by rw[List.length_take];omega,h3,h4,fun h0=>?_⟩;rw[List.length_take] at h0;obtain ⟨b,o,e1,e2,e3⟩:=h5 om;exact ⟨b,o,e1,e2,fun j x hj=>e3 j x (by
  have:=(gL_ hj).1;rw[List.length_take] at this;rw[List.getElem?_take_of_lt om] at hj;exact hj)⟩
def IAt (w:World) (b o:Nat) (n:Int):Prop:=w.cell? ⟨b,o,none⟩=some (.int .i64 n)
theorem keepI:KeepAt IAt:=fun _w _w' b o _n hb hlt h=>(hb.cell (p:=⟨b,o,none⟩) hlt).trans h
abbrev IRow:=RowAt 1 IAt
theorem flatI:Flat 1 IAt (fun n=>[Value.int .i64 n]) where
 len:=fun _=>rfl
 one:=fun x u hu=>by simp at hu;subst hu;rfl
 put:=fun w b o x h=>h 0 _ rfl
 get:=fun w b o x h i v hi=>by
  match i,hi with
  |0,hi=>cases hi;exact h
theorem elemInt:ElemOk 23 3 (.int .i64 0) 1 8:=⟨Tryz.underlying23,by kernel_rfl,rfl,by decide⟩
open Go.RowKit
def UAt (w:World) (b o:Nat) (k:Int):Prop:=w.cell? ⟨b,o,none⟩=some (.int .u8 k)
theorem keepU:KeepAt UAt:=fun _w _w' b o _n hb hlt h=>(hb.cell (p:=⟨b,o,none⟩) hlt).trans h
abbrev URow:=RowAt 1 UAt
theorem flatU:Flat 1 UAt (fun n=>[Value.int .u8 n]) where
 len:=fun _=>rfl
 one:=fun x u hu=>by simp at hu;subst hu;rfl
 put:=fun w b o x h=>h 0 _ rfl
 get:=fun w b o x h i v hi=>by
  match i,hi with
  |0,hi=>cases hi;exact h
theorem elemU8:ElemOk 35 5 (.int .u8 0) 1 1:=⟨Tryz.underlying35,by kernel_rfl,rfl,by decide⟩
structure PgS where
 hp:Option Addr
 hn:Nat
 hc:Nat
 mp:Option Addr
 mn:Nat
 mc:Nat
 sp:Option Addr
 sn:Nat
 sc:Nat
 ap:Option Addr
 an:Nat
 ac:Nat
 tp:Option Addr
 tn:Nat
 tc:Nat
 cp:Option Addr
 cn:Nat
 cc:Nat
 ep:Option Addr
 en:Nat
 ec:Nat
 v1:Option Addr
 n1:Nat
 c1:Nat
 v2:Option Addr
 n2:Nat
 c2:Nat
 v3:Option Addr
 n3:Nat
 c3:Nat
 v4:Option Addr
 n4:Nat
 c4:Nat
 v5:Option Addr
 n5:Nat
 c5:Nat
def PgS.cells (s:PgS):List Value:=[.slice s.hp s.hn s.hc, .slice s.mp s.mn s.mc, .slice s.sp s.sn s.sc, .slice s.ap s.an s.ac, .slice s.tp s.tn s.tc, .slice s.cp s.cn s.cc, .slice s.ep s.en s.ec, .slice s.v1 s.n1 s.c1, .slice s.v2 s.n2 s.c2, .slice s.v3 s.n3 s.c3, .slice s.v4 s.n4 s.c4, .slice s.v5 s.n5 s.c5]
@[simp] abbrev pA (s:PgS):Array Value:=#[.slice s.hp s.hn s.hc, .slice s.mp s.mn s.mc, .slice s.sp s.sn s.sc, .slice s.ap s.an s.ac, .slice s.tp s.tn s.tc, .slice s.cp s.cn s.cc, .slice s.ep s.en s.ec, .slice s.v1 s.n1 s.c1, .slice s.v2 s.n2 s.c2, .slice s.v3 s.n3 s.c3, .slice s.v4 s.n4 s.c4, .slice s.v5 s.n5 s.c5]
@[simp] abbrev zA:Array Value:=#[.int .i64 0, .slice none 0 0, .slice none 0 0, .slice none 0 0, .slice none 0 0, .bool false, .bool false, .int .i64 0, .bool false]
@[simp] abbrev zL:List Value:=[.int .i64 0, .slice none 0 0, .slice none 0 0, .slice none 0 0, .slice none 0 0, .bool false, .bool false, .int .i64 0, .bool false]
def pgV (s:PgS):Value:= .agg #[.slice s.hp s.hn s.hc, .slice s.mp s.mn s.mc, .slice s.sp s.sn s.sc, .slice s.ap s.an s.ac, .slice s.tp s.tn s.tc, .slice s.cp s.cn s.cc, .slice s.ep s.en s.ec, .slice s.v1 s.n1 s.c1, .slice s.v2 s.n2 s.c2, .slice s.v3 s.n3 s.c3, .slice s.v4 s.n4 s.c4, .slice s.v5 s.n5 s.c5]
open Go.RowKit
def SlAt {α:Type} (R:World->Value->α->Prop) (w:World) (b o:Nat) (x:α):Prop:=∃p n c,w.cell? ⟨b,o,none⟩=some (.slice p n c)/\R w (.slice p n c) x
def KeepR {α:Type} (R:World->Value->α->Prop):Prop:=∀(w w':World) (v:Value) (x:α),R w v x->Bl w w'->R w' v x
theorem RowAt.keep {At:World->Nat->Nat->α->Prop} (h:KeepAt At):KeepR (RowAt sz At):=fun _ _ _ _ h1 hb=>h1.below h hb
theorem SlAt.keep {R:World->Value->α->Prop} (h:KeepR R):KeepAt (SlAt R):=fun w w' b o x hb hlt ⟨p,n,c,h1,h2⟩=>⟨p,n,c,(hb.cell (p:=⟨b,o,none⟩) hlt).trans h1,h w w' _ x h2 hb⟩
def StAt (w:World) (b o:Nat) (s:ByteArray):Prop:=w.cell? ⟨b,o,none⟩=some (.string s)
theorem keepS:KeepAt StAt:=fun _w _w' b o _n hb hlt h=>(hb.cell (p:=⟨b,o,none⟩) hlt).trans h
abbrev StRow:=RowAt 1 StAt
abbrev StsRow:=RowAt 1 (SlAt StRow)
theorem keepSts:KeepAt (SlAt StRow):=SlAt.keep (RowAt.keep keepS)
abbrev IsRow:=RowAt 1 (SlAt IRow)
theorem keepIs:KeepAt (SlAt IRow):=SlAt.keep (RowAt.keep keepI)
structure Nod where
 op:Int
 w:Int
 a:Int
 b:Int
 v:Nat
 deriving DecidableEq
def NdAt (w:World) (b o:Nat) (n:Nod):Prop:=
 w.cell? ⟨b,o,none⟩=some (.int .u8 n.op)/\w.cell? ⟨b,o+1,none⟩=some (.int .i64 n.w)/\w.cell? ⟨b,o+2,none⟩=some (.int .i64 n.a)/\w.cell? ⟨b,o+3,none⟩=some (.int .i64 n.b)/\NAt w b (o+4) n.v
theorem keepNd:KeepAt NdAt:=fun w w' b o n hb hlt ⟨h1,h2,h3,h4,h5⟩=>
 ⟨(hb.cell (p:=⟨b,o,none⟩) hlt).trans h1,(hb.cell (p:=⟨b,o+1,none⟩) hlt).trans h2,(hb.cell (p:=⟨b,o+2,none⟩) hlt).trans h3,(hb.cell (p:=⟨b,o+3,none⟩) hlt).trans h4,keepN w w' b (o+4) n.v hb hlt h5⟩
abbrev CRow:=RowAt 6 NdAt
abbrev CsRow:=RowAt 1 (SlAt CRow)
theorem keepCs:KeepAt (SlAt CRow):=SlAt.keep (RowAt.keep keepNd)
structure Ist where
 k:Int
 a:Int
 b:Int
 e:List Nod
 to:Int
def IstAt (w:World) (b o:Nat) (i:Ist):Prop:=
 w.cell? ⟨b,o,none⟩=some (.int .u8 i.k)/\w.cell? ⟨b,o+1,none⟩=some (.int .i64 i.a)/\w.cell? ⟨b,o+2,none⟩=some (.int .i64 i.b)/\SlAt CRow w b (o+3) i.e/\w.cell? ⟨b,o+4,none⟩=some (.int .i64 i.to)
theorem keepIst:KeepAt IstAt:=fun w w' b o n hb hlt ⟨h1,h2,h3,h4,h5⟩=>
 ⟨(hb.cell (p:=⟨b,o,none⟩) hlt).trans h1,(hb.cell (p:=⟨b,o+1,none⟩) hlt).trans h2,(hb.cell (p:=⟨b,o+2,none⟩) hlt).trans h3,keepCs w w' b (o+3) n.e hb hlt h4,(hb.cell (p:=⟨b,o+4,none⟩) hlt).trans h5⟩
abbrev IstRow:=RowAt 5 IstAt
structure Brn where
 pats:List Pt
 to:Int
def BrnAt (w:World) (b o:Nat) (x:Brn):Prop:=SlAt PRow w b o x.pats/\w.cell? ⟨b,o+1,none⟩=some (.int .i64 x.to)
theorem keepBrn:KeepAt BrnAt:=fun w w' b o _n hb hlt ⟨h1,h2⟩=>⟨SlAt.keep (RowAt.keep keepP) w w' b o _ hb hlt h1,(hb.cell (p:=⟨b,o+1,none⟩) hlt).trans h2⟩
abbrev BrnRow:=RowAt 2 BrnAt
structure Stp where
 takes:List Int
 keys:List (List Nod)
 brs:List Brn
 to:Int
def StpAt (w:World) (b o:Nat) (x:Stp):Prop:=SlAt IRow w b o x.takes/\SlAt CsRow w b (o+1) x.keys/\SlAt BrnRow w b (o+2) x.brs/\w.cell? ⟨b,o+3,none⟩=some (.int .i64 x.to)
theorem keepStp:KeepAt StpAt:=fun w w' b o _n hb hlt ⟨h1,h2,h3,h4⟩=>
 ⟨keepIs w w' b o _ hb hlt h1,SlAt.keep (RowAt.keep keepCs) w w' b _ _ hb hlt h2,SlAt.keep (RowAt.keep keepBrn) w w' b _ _ hb hlt h3,(hb.cell (p:=⟨b,o+3,none⟩) hlt).trans h4⟩
abbrev StpRow:=RowAt 4 StpAt
structure Actn where
 params:List Int
 body:List Ist
def ActnAt (w:World) (b o:Nat) (x:Actn):Prop:=SlAt IRow w b o x.params/\SlAt IstRow w b (o+1) x.body
theorem keepActn:KeepAt ActnAt:=fun w w' b o _n hb hlt ⟨h1,h2⟩=>⟨keepIs w w' b o _ hb hlt h1,SlAt.keep (RowAt.keep keepIst) w w' b _ _ hb hlt h2⟩
abbrev ActnRow:=RowAt 2 ActnAt
structure Tbl where
 keys:List (List Nod)
 kinds:List Int
 acts:List Int
 dact:Int
 dargs:List Nat
def TblAt (w:World) (b o:Nat) (x:Tbl):Prop:=SlAt CsRow w b o x.keys/\SlAt URow w b (o+1) x.kinds/\SlAt IRow w b (o+2) x.acts/\w.cell? ⟨b,o+3,none⟩=some (.int .i64 x.dact)/\SlAt NRow w b (o+4) x.dargs
theorem keepTbl:KeepAt TblAt:=fun w w' b o _n hb hlt ⟨h1,h2,h3,h4,h5⟩=>
 ⟨SlAt.keep (RowAt.keep keepCs) w w' b _ _ hb hlt h1,SlAt.keep (RowAt.keep keepU) w w' b _ _ hb hlt h2,keepIs w w' b _ _ hb hlt h3,(hb.cell (p:=⟨b,o+3,none⟩) hlt).trans h4,SlAt.keep (RowAt.keep keepN) w w' b _ _ hb hlt h5⟩
abbrev TblRow:=RowAt 5 TblAt
structure Prg where
 heads:List (List Int)
 metas:List Int
 steps:List Stp
 acts:List Actn
 tabs:List Tbl
 ctl:List Ist
 emit:List Int
 nh:List ByteArray
 nf:List (List ByteArray)
 nm:List ByteArray
 na:List ByteArray
 nt:List ByteArray
structure PgOk (w:World) (s:PgS) (p:Prg):Prop where
 heads:IsRow w (.slice s.hp s.hn s.hc) p.heads
 metas:IRow w (.slice s.mp s.mn s.mc) p.metas
 steps:StpRow w (.slice s.sp s.sn s.sc) p.steps
 acts:ActnRow w (.slice s.ap s.an s.ac) p.acts
 tabs:TblRow w (.slice s.tp s.tn s.tc) p.tabs
 ctl:IstRow w (.slice s.cp s.cn s.cc) p.ctl
 emit:IRow w (.slice s.ep s.en s.ec) p.emit
 nh:StRow w (.slice s.v1 s.n1 s.c1) p.nh
 nf:StsRow w (.slice s.v2 s.n2 s.c2) p.nf
 nm:StRow w (.slice s.v3 s.n3 s.c3) p.nm
 na:StRow w (.slice s.v4 s.n4 s.c4) p.na
 nt:StRow w (.slice s.v5 s.n5 s.c5) p.nt
theorem PgOk.below {s:PgS} {p:Prg} (h:PgOk w s p) (hb:Bl w w'):PgOk w' s p:=
 ⟨h.heads.below keepIs hb,h.metas.below keepI hb,h.steps.below keepStp hb,h.acts.below keepActn hb,h.tabs.below keepTbl hb,h.ctl.below keepIst hb,h.emit.below keepI hb,h.nh.below keepS hb,h.nf.below keepSts hb,h.nm.below keepS hb,h.na.below keepS hb,h.nt.below keepS hb⟩
theorem RowAt.ln {At:World->Nat->Nat->α->Prop} {p:Option Addr} {l:List α} (h:RowAt sz At w (.slice p n c) l):n=l.length/\n<=c/\c<=maxLen/\(p=none->c=0):=by
 obtain ⟨pa,cap,e,h1,h2,h3,-⟩:=h;cases e;exact ⟨rfl,h1,h2,h3⟩
theorem RowAt.get {At:World->Nat->Nat->α->Prop} {p:Option Addr} {l:List α} (h:RowAt sz At w (.slice p n c) l) {x:α} (hj:l[j]?=some x):∃b o,p=some ⟨b,o,none⟩/\b<w.heap.size/\At w b (o+j*sz) x:=by
 obtain ⟨b,o,cap,e,h1,h2⟩:=h.at hj;cases e;exact ⟨b,o,rfl,h1,h2⟩
theorem getD_some {l:List α} {x d:α} (h:l[j]?=some x):l.getD j d=x:=by rw[List.getD_eq_getElem?_getD,h];rfl
theorem some_getD {l:List α} (d:α) (h:j<l.length):l[j]?=some (l.getD j d):=by rw[List.getD_eq_getElem?_getD,gE_ h];rfl
def okP (w:Int):Bool:=decide (0<w)&&decide (w<129)
def ofP (l:List Int) (i:Int):Int:=if i<0\/(l.length:Int)<=i then 0 else l.getD i.toNat 0
def fitsP (v:Nat) (w:Int):Bool:=decide (v%2 ^ sh w=v)
def plain0P (p:Prg) (act:Int) (n:Nod):Int:=
 if n.op=1 then (if n.a=0/\n.b=0/\okP n.w=true/\fitsP n.v n.w=true then n.w else 0)
 else if n.v≠0\/(n.op≠2/\n.b≠0) then 0
 else if n.op=2 then (if 0<=n.a/\n.a<(p.heads.length:Int) then ofP (p.heads.getD n.a.toNat []) n.b else 0)
 else if n.op=3 then ofP p.metas n.a
 else if n.op=4 then (if 0<=act/\act<(p.acts.length:Int) then ofP (p.acts.getD act.toNat ⟨[],[]⟩).params n.a else 0)
 else if n.op=5 then (if n.a=0 then 9 else 0)
 else if n.op=6 then (if 0<=n.a/\n.a<(p.heads.length:Int) then 1 else 0)
 else 0
def single0P (n:Nod) (w:Int):Int:=
 if n.op=7\/n.op=8 then (if n.a=0/\n.b=0 then w else 0)
 else if n.op=13\/n.op=14 then (if n.b=0/\0<=n.a/\n.a<=127 then w else 0)
 else if n.op=9 then (if 0<=n.b/\n.b<=n.a/\n.a<w then n.a-n.b+1 else 0)
 else 0
def pair0P (n:Nod) (a b:Int):Int:=
 if n.a≠0\/n.b≠0 then 0
 else if n.op=10 then a+b
 else if a≠b then 0
 else if n.op=18\/n.op=19\/n.op=20 then 1
 else if 11<=n.op/\n.op<=17 then a
 else 0
def isUn (op:Int):Prop:=op=7\/op=8\/op=9\/op=13\/op=14
instance (op:Int):Decidable (isUn op):=inferInstanceAs (Decidable (_\/_))
def stepW (p:Prg) (act:Int) (st:List Int) (n:Nod):Option (List Int):=
 let put (w:Int) (r:List Int):Option (List Int):=if w=n.w/\okP w=true then some (w::r) else none
 if 1<=n.op/\n.op<=6 then put (plain0P p act n) st
 else if n.v≠0 then none
 else if isUn n.op then (match st with|[]=>none|t::r=>put (single0P n t) r)
 else (match st with|b::a::r=>put (pair0P n a b) r|_=>none)
def foldW (p:Prg) (act:Int):List Int->List Nod->Option (List Int)
 |st,[]=>some st
 |st,n::c=>match stepW p act st n with|none=>none|some st'=>foldW p act st' c
def widthP (p:Prg) (act:Int) (c:List Nod):Option Int:=
 if 65536<c.length then none else match foldW p act [] c with|some [w]=>some w|_=>none
def mayRunP (p:Prg) (listed:List Int) (act:Int) (args:List Nat):Bool:=
 decide (0<=act/\act<(p.acts.length:Int))&&listed.contains act&&(let ps:=(p.acts.getD act.toNat ⟨[],[]⟩).params;decide (args.length=ps.length)&&(List.zip args ps).all fun x=>fitsP x.1 x.2)
def instW (p:Prg) (act:Int) (x:Ist):Option Int:=
 if x.k=1 then (if 0<=x.a/\x.a<(p.heads.length:Int)/\0<=x.b/\x.b<((p.heads.getD x.a.toNat []).length:Int) then some ((p.heads.getD x.a.toNat []).getD x.b.toNat 0) else none)
 else if x.k=2 then (if 0<=x.a/\x.a<(p.metas.length:Int)/\x.b=0 then some (p.metas.getD x.a.toNat 0) else none)
 else if x.k=3 then (if act<0/\0<=x.a/\x.a<(p.tabs.length:Int)/\x.b=0 then some 0 else none)
 else if x.k=6 then (if 0<=x.a/\x.a<(p.heads.length:Int)/\(x.b=0\/x.b=1) then some 0 else none)
 else if x.k=7\/x.k=5\/x.k=4\/x.k=8 then (if x.a=0/\x.b=0 then some (if x.k=7 then 1 else if x.k=5 then 9 else 0) else none)
 else none
def mayInstP (p:Prg) (act:Int) (x:Ist) (i many:Nat):Bool:=
 match instW p act x with
 |none=>false
 |some w=>(if x.k=7\/x.k=8 then decide ((i:Int)<x.to/\x.to<=(many:Int)) else decide (x.to=0))&&(if w=0 then decide (x.e.length=0) else decide (widthP p act x.e=some w))
def allIdx {α:Type} (f:Nat->α->Bool):Nat->List α->Bool
 |_,[]=>true
 |i,x::l=>f i x&&allIdx f (i+1) l
def mayInstsP (p:Prg) (act:Int) (l:List Ist):Bool:=decide (l.length<=65536)&&allIdx (fun i x=>mayInstP p act x i l.length) 0 l
def listsP (below:Int):List Int->List Int->Bool
 |_,[]=>true
 |seen,x::l=>decide (0<=x/\x<below)&& !seen.contains x&&listsP below (seen++[x]) l
def mayPatP (x:Pt) (w:Int):Bool:=fitsP x.v w&&fitsP x.m w&&decide (x.v &&& x.m=x.v)
def mayStepP (p:Prg) (s:Stp):Bool:=
 decide (s.takes.length<=8/\s.keys.length<=4/\ -2<=s.to/\s.to<(p.steps.length:Int))&&s.takes.all (fun h=>decide (0<=h/\h<(p.heads.length:Int)))&&
 (if s.keys.length=0 then decide (s.brs.length=0) else decide (s.to=0/\1<=s.brs.length/\s.brs.length<=16)&&allIdx (fun k c=>match widthP p (-1) c with
  |none=>false
  |some w=>s.brs.all fun b=>decide (-2<=b.to/\b.to<(p.steps.length:Int)/\b.pats.length=s.keys.length)&&mayPatP (b.pats.getD k ⟨0,0⟩) w) 0 s.keys)
def mayTabP (p:Prg) (t:Tbl):Bool:=
 decide (1<=t.keys.length/\t.keys.length<=4/\t.kinds.length=t.keys.length/\1<=t.acts.length/\t.acts.length<=16)&&listsP (p.acts.length:Int) [] t.acts&&
 allIdx (fun i c=>(widthP p (-1) c).isSome&&decide (1<=t.kinds.getD i 0/\t.kinds.getD i 0<=3)) 0 t.keys&&decide ((t.kinds.filter fun k=>k=2).length<2)&&mayRunP p t.acts t.dact t.dargs
def sumI (l:List Int):Int:=l.foldl (·+·) 0
def headsP (p:Prg):Bool:=
 decide (p.heads.length<=8/\p.nh.length=p.heads.length/\p.nf.length=p.heads.length)&&allIdx (fun i l=>decide (1<=l.length/\l.length<=16)&&l.all okP&&decide (sumI l%8=0/\sumI l<=256/\(p.nf.getD i []).length=l.length)) 0 p.heads
def goesP (s:Stp):List Int:=(if s.keys.length=0 then [s.to] else [])++s.brs.map (·.to)
def visT (state:Int):List Int->List Int×List Int->Option (List Int×List Int)
 |[],s=>some s
 |t::r,s=>if t=state then none else if 0<=t/\¬t∈s.1 then visT state r (s.1++[t],s.2++[t]) else visT state r s
def stepAt (p:Prg) (i:Int):Stp:=p.steps.getD i.toNat ⟨[],[[]],[],0⟩
def visN (p:Prg) (state:Int):List Int->List Int×List Int->Option (List Int×List Int)
 |[],s=>some s
 |i::r,s=>match visT state (goesP (stepAt p i)) s with|none=>none|some s'=>visN p state r s'
def cycF (p:Prg) (state:Int):Nat->List Int->List Int->Bool
 |0,_,_=>false
 |_+1,_,[]=>false
 |k+1,seen,i::now=>match visN p state (i::now) (seen,[]) with|none=>true|some (seen',next)=>cycF p state k seen' next
def cycP (p:Prg) (state:Nat):Bool:=cycF p state (p.steps.length+2) [] [(state:Int)]
theorem visT_spec:∀{l:List Int} {s s':List Int×List Int},visT state l s=some s'->∃d:List Int,s'.1=s.1++d/\s'.2=s.2++d/\(s.1.Nodup->s'.1.Nodup)/\(∀ t∈d,t∈l/\0<=t)
 |[],s,s',h=>by
  simp only[visT,Option.some.injEq] at h;subst h;exact ⟨[],by simp,by simp,id,fun t ht=>by simp at ht⟩
 |t::r,s,s',h=>by
  rw[visT] at h;split at h
  ·cases h
  ·split at h
   ·rename_i hc;obtain ⟨d,h1,h2,h3,h4⟩:=visT_spec h;refine ⟨t::d,by rw[h1];simp,by rw[h2];simp,fun hn=>h3 ?_,fun u hu=>?_⟩
    ·rw[List.nodup_append];refine ⟨hn,by simp,fun a ha b hb=>?_⟩;simp at hb;subst hb;intro e;subst e;exact hc.2 ha
    ·rcases List.mem_cons.1 hu with rfl|hu
     ·exact ⟨by simp,hc.1⟩
     ·exact ⟨List.mem_cons_of_mem _ (h4 u hu).1,(h4 u hu).2⟩
   ·obtain ⟨d,h1,h2,h3,h4⟩:=visT_spec h;exact ⟨d,h1,h2,h3,fun u hu=>⟨List.mem_cons_of_mem _ (h4 u hu).1,(h4 u hu).2⟩⟩
def GoesIn (p:Prg):Prop:=∀(i:Nat) (s:Stp),p.steps[i]?=some s->∀t∈goesP s,t<(p.steps.length:Int)
theorem goes_lt {p:Prg} (h:GoesIn p) {i:Int}:∀t∈goesP (stepAt p i),t<(p.steps.length:Int):=by
 intro t ht;unfold stepAt at ht;by_cases hi:i.toNat<p.steps.length
 ·rw[List.getD_eq_getElem?_getD,gE_ hi] at ht;exact h _ _ (gE_ hi) t ht
 rw[List.getD_eq_getElem?_getD,List.getElem?_eq_none om] at ht;simp[goesP] at ht
theorem visN_spec {p:Prg} (h:GoesIn p):∀{l:List Int} {s s':List Int×List Int},visN p state l s=some s'->∃d:List Int,s'.1=s.1++d/\s'.2=s.2++d/\(s.1.Nodup->s'.1.Nodup)/\(∀ t∈d,0<=t/\t<(p.steps.length:Int))
 |[],s,s',h2=>by
  simp only[visN,Option.some.injEq] at h2;subst h2;exact ⟨[],by simp,by simp,id,fun t ht=>by simp at ht⟩
 |i::r,s,s',h2=>by
  rw[visN] at h2;split at h2
  ·cases h2
  ·rename_i s1 hq;obtain ⟨d1,a1,a2,a3,a4⟩:=visT_spec hq;obtain ⟨d2,b1,b2,b3,b4⟩:=visN_spec h h2;refine ⟨d1++d2,by rw[b1,a1];simp,by rw[b2,a2];simp,fun hn=>b3 (a3 hn),fun t ht=>?_⟩;rcases List.mem_append.1 ht with q|q
   ·exact ⟨(a4 t q).2,goes_lt h t (a4 t q).1⟩
   ·exact b4 t q
theorem nodup_nat:∀(n:Nat) (l:List Nat),l.Nodup->(∀ t∈l,t<n)->l.length<=n
 |0,l,_,h=>by
  cases l with
  |nil=>simp
  |cons a l=>exact absurd (h a sm) om
 |n+1,l,hn,h=>by
  by_cases hm:n∈l
  ·have h1:=List.length_erase_of_mem hm;have h2:=nodup_nat n (l.erase n) (hn.erase n) (fun t ht=>by
    have h3:=h t (List.mem_of_mem_erase ht);have h4:t≠n:=fun e=>by subst e;exact hn.not_mem_erase ht
    omega)
   have h5:=List.length_pos_of_mem hm;omega
  ·have:=nodup_nat n l hn (fun t ht=>by
    have h3:=h t ht;have h4:t≠n:=fun e=>by subst e;exact hm ht
    omega)
   omega
theorem nodup_len {l:List Int} (hn:l.Nodup) (hb:∀t∈l,0<=t/\t<(n:Int)):l.length<=n:=by
 have h1:(l.map Int.toNat).Nodup:=by
  refine List.Pairwise.map _ (fun a b hab=>?_) (List.Pairwise.and_mem.1 hn);obtain ⟨ha,hb2,hne⟩:=hab;intro e;exact hne (by have:=hb a ha;have:=hb b hb2;omega)
 have:=nodup_nat n (l.map Int.toNat) h1 (fun t ht=>by
  obtain ⟨a,ha,rfl⟩:=List.mem_map.1 ht;have:=hb a ha;omega)
 simpa using this
structure CycI (p:Prg) (state:Int) (fuel:Nat) (seen now:List Int):Prop where
 nd:seen.Nodup
 bd:∀t∈seen,0<=t/\t<(p.steps.length:Int)
 nw:∀t∈now,0<=t/\t<(p.steps.length:Int)
 fu:now≠[]->p.steps.length+2<=fuel+seen.length
 f1:1<=fuel
theorem CycI.next {p:Prg} {seen seen' next:List Int} (h:CycI p state fuel seen now) (hg:GoesIn p) (hn:now≠[]) (hv:visN p state now (seen,[])=some (seen',next)):CycI p state (fuel-1) seen' next/\cycF p state fuel seen now=cycF p state (fuel-1) seen' next:=by
 obtain ⟨d,h1,h2,h3,h4⟩:=visN_spec hg hv;simp only[List.nil_append] at h1 h2;have hl:=nodup_len h.nd h.bd;have hf:=h.fu hn;refine ⟨⟨h3 h.nd,fun t ht=>?_,fun t ht=>h4 t (by rw[<- h2];exact ht),fun hne=>?_,om⟩,?_⟩
 ·rw[h1] at ht;rcases List.mem_append.1 ht with q|q
  ·exact h.bd t q
  exact h4 t q
 ·rw[h1,List.length_append];have:0<d.length:=by rw[<- h2];exact List.length_pos_iff.2 hne
  omega
 obtain ⟨k,rfl⟩:∃k,fuel=k+1:=⟨fuel-1,om⟩;match now,hn with
 |i::r,_=>
  rw[cycF];rw[hv];rfl
theorem CycI.found {p:Prg} {seen:List Int} (h:CycI p state fuel seen now) (hn:now≠[]) (hv:visN p state now (seen,[])=none):cycF p state fuel seen now=true:=by
 obtain ⟨k,rfl⟩:∃k,fuel=k+1:=⟨fuel-1,by have:=h.f1;omega⟩;match now,hn with
 |i::r,_=>rw[cycF,hv]
theorem CycI.stop {p:Prg} {seen:List Int} (h:CycI p state fuel seen []):cycF p state fuel seen []=false:=by
 obtain ⟨k,rfl⟩:∃k,fuel=k+1:=⟨fuel-1,by have:=h.f1;omega⟩;rfl
theorem CycI.start {p:Prg} {state:Nat} (h:state<p.steps.length):CycI p state (p.steps.length+2) [] [(state:Int)]:=
 ⟨List.nodup_nil,fun t ht=>by simp at ht,fun t ht=>by simp at ht;subst ht;omega,fun _=>by simp,om⟩
def mayP (p:Prg):Bool:=
 headsP p&&decide (p.metas.length<=16)&&p.metas.all okP&&decide (p.nm.length=p.metas.length/\p.na.length=p.acts.length/\p.nt.length=p.tabs.length)&&
 decide (1<=p.steps.length/\p.steps.length<=16/\p.acts.length<=16/\p.tabs.length<=8)&&listsP (p.heads.length:Int) [] p.emit&&mayInstsP p (-1) p.ctl&&
 p.steps.all (mayStepP p)&&(List.range p.steps.length).all (fun i=> !cycP p i)&&
 allIdx (fun i a=>decide (a.params.length<=8)&&a.params.all okP&&mayInstsP p (i:Int) a.body) 0 p.acts&&p.tabs.all (mayTabP p)
open Go.RowKit
def RetNum (w:World) (n:Nat) (e:Ending) (w':World):Prop:=e= .returned (numV n)/\Bl w w'
theorem or1_any (a b:Int) (w:World):
 Calls Tryz.prog 97 #[.int .u64 a, .int .u64 b] w fun e w'=>e= .returned (.int .u64 (bits BinOp.or IntKind.u64 a b))/\w'=w:=by
 go_enter Tryz.func97,Tryz.ntmps97;go_wp2;go_ret;exact ⟨rfl,rfl⟩
theorem both_or (a b c d:Int) (w:World):
 Calls Tryz.prog 96 #[.agg #[.int .u64 a, .int .u64 b], .agg #[.int .u64 c, .int .u64 d], .func (Fn.func 97) #[] #[]] w fun e w'=>e= .returned (.agg #[.int .u64 (bits BinOp.or IntKind.u64 a c), .int .u64 (bits BinOp.or IntKind.u64 b d)])/\Bl w w':=by
 go_enter Tryz.func96,Tryz.ntmps96;go_wp2;refine wp_region_still_tail 13 kq kq ?_;simp only[List.take_succ_cons,List.take_zero,List.drop_succ_cons,List.drop_zero];change wpStill _ _ (World.drew _) _ _ _;repeat (first|still_step|still_call (or1_any _ _ _))
 refine wpStill_nil ?_;change wpList _ _ _ _ _ (World.drew _);go_wp2;exact bodyPost_ret (v:= .agg #[.int .u64 (bits BinOp.or IntKind.u64 a c), .int .u64 (bits BinOp.or IntKind.u64 b d)]) (by simp[results,Tryz.results96,go_sem]) rfl ⟨rfl,bL⟩
theorem or_any (a b c d:Int) (w:World):
 Calls Tryz.prog 63 #[.agg #[.int .u64 a, .int .u64 b], .agg #[.int .u64 c, .int .u64 d]] w fun e w'=>e= .returned (.agg #[.int .u64 (bits BinOp.or IntKind.u64 a c), .int .u64 (bits BinOp.or IntKind.u64 b d)])/\Bl w w':=by
 go_enter Tryz.func63,Tryz.ntmps63;go_wp2_with (go_at_call 96;refine (both_or _ _ _ _ _).mono ?_;rintro e w1 ⟨rfl,hb⟩;obtain ⟨hc,hf⟩:=bcell hb;have hz:=hb.size;simp at hz);exact bodyPost_ret (v:= .agg #[.int .u64 (bits BinOp.or IntKind.u64 a c), .int .u64 (bits BinOp.or IntKind.u64 b d)]) (by simp[results,Tryz.results63,go_sem,hc]) rfl ⟨rfl,bL⟩
theorem numOr_any (a b:Nat) (w:World) (ha:a<B*B) (hb:b<B*B):Calls Tryz.prog 63 #[numV a,numV b] w (RetNum w (a ||| b)):=
 (or_any _ _ _ _ w).mono fun e w' ⟨h1,h2⟩=>⟨by rw[h1,or_num a b ha hb],h2⟩
theorem and1_any (a b:Int) (w:World):
 Calls Tryz.prog 120 #[.int .u64 a, .int .u64 b] w fun e w'=>e= .returned (.int .u64 (bits BinOp.and IntKind.u64 a b))/\w'=w:=by
 go_enter Tryz.func120,Tryz.ntmps120;go_wp2;go_ret;exact ⟨rfl,rfl⟩
theorem both_and (a b c d:Int) (w:World):
 Calls Tryz.prog 96 #[.agg #[.int .u64 a, .int .u64 b], .agg #[.int .u64 c, .int .u64 d], .func (Fn.func 120) #[] #[]] w fun e w'=>e= .returned (.agg #[.int .u64 (bits BinOp.and IntKind.u64 a c), .int .u64 (bits BinOp.and IntKind.u64 b d)])/\Bl w w':=by
 go_enter Tryz.func96,Tryz.ntmps96;go_wp2;refine wp_region_still_tail 13 kq kq ?_;simp only[List.take_succ_cons,List.take_zero,List.drop_succ_cons,List.drop_zero];change wpStill _ _ (World.drew _) _ _ _;repeat (first|still_step|still_call (and1_any _ _ _))
 refine wpStill_nil ?_;change wpList _ _ _ _ _ (World.drew _);go_wp2;exact bodyPost_ret (v:= .agg #[.int .u64 (bits BinOp.and IntKind.u64 a c), .int .u64 (bits BinOp.and IntKind.u64 b d)]) (by simp[results,Tryz.results96,go_sem]) rfl ⟨rfl,bL⟩
theorem and_any (a b c d:Int) (w:World):
 Calls Tryz.prog 101 #[.agg #[.int .u64 a, .int .u64 b], .agg #[.int .u64 c, .int .u64 d]] w fun e w'=>e= .returned (.agg #[.int .u64 (bits BinOp.and IntKind.u64 a c), .int .u64 (bits BinOp.and IntKind.u64 b d)])/\Bl w w':=by
 go_enter Tryz.func101,Tryz.ntmps101;go_wp2_with (go_at_call 96;refine (both_and _ _ _ _ _).mono ?_;rintro e w1 ⟨rfl,hb⟩;obtain ⟨hc,hf⟩:=bcell hb;have hz:=hb.size;simp at hz);exact bodyPost_ret (v:= .agg #[.int .u64 (bits BinOp.and IntKind.u64 a c), .int .u64 (bits BinOp.and IntKind.u64 b d)]) (by simp[results,Tryz.results101,go_sem,hc]) rfl ⟨rfl,bL⟩
theorem numAnd_any (a b:Nat) (w:World) (ha:a<B*B) (hb:b<B*B):Calls Tryz.prog 101 #[numV a,numV b] w (RetNum w (a &&& b)):=
 (and_any _ _ _ _ w).mono fun e w' ⟨h1,h2⟩=>⟨by rw[h1,and_num a b ha hb],h2⟩
end Go.Proofs.YtikilcbpogfgkaaGreat

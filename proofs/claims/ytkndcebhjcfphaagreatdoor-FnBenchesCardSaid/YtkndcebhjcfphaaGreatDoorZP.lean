import Derived.Test.YtkndcebhjcfphaaGreatDoorZ0
import Derived.Lib.ParseIntBTie
import Derived.Lib.ItoaLen
namespace Go.Proofs.YtkndcebhjcfphaaGreatDoor
open Go.RowKit Go.Proofs.Tryz
set_option maxRecDepth 100000
set_option maxHeartbeats 4000000
set_option linter.all false
abbrev Bs:=List UInt8
theorem jA (a b:Int):a<b∨b≤a:=Aa
def gT (l:Bs):Value:=.string ⟨l.toArray⟩
def Fp (c:UInt8):Bool:=decide (48≤c.toNat) && decide (c.toNat≤57)
theorem W5 {c:UInt8} (h:Fp c=true):48≤c.toNat∧c.toNat≤57:=by unfold Fp at h;simpa using h
theorem Ty {c:UInt8} (h:48≤c.toNat) (h2:c.toNat≤57):Fp c=true:=by unfold Fp;simp[h,h2]
theorem Tx {c:UInt8} (h:Fp c=false):c.toNat<48∨57<c.toNat:=by unfold Fp at h;simp at h;omega
def Pg (n:Nat) (c:UInt8):Nat:=n*10+(c.toNat-48)
def valN (l:Bs):Nat:=l.foldl Pg 0
theorem QJ (l:Bs) (c:UInt8):valN (l++ [c])=valN l*10+(c.toNat-48):=by unfold valN;rw[List.foldl_append];rfl
theorem Xm: ∀(l:Bs) (n:Nat),n≤l.foldl Pg n
 | [],_=>Cp _
 |c::r,n=>Ch (show n≤Pg n c by unfold Pg;omega) (Xm r _)
theorem He {d:Nat} (h:d<10):(UInt8.ofNat (48+d)).toNat=48+d:=by
 rw[UInt8.toNat_ofNat'];omega
theorem Vf {u:Nat} (h:u<10):Lib.decDigits u= [UInt8.ofNat (48+u)]:=Lib.decDigits_one h
theorem Ve {u:Nat} (h: ¬u<10):Lib.decDigits u=Lib.decDigits (u/10)++ [UInt8.ofNat (48+u%10)]:=by rw[Lib.decDigits,dif_neg h]
theorem II (u:Nat):valN (Lib.decDigits u)=u:=by
 induction u using Nat.strongRecOn with
 |_ u ih=>
  by_cases h:u<10
  ·rw[Vf h];show Pg 0 _=u;unfold Pg;rw[He h];omega
  ·rw[Ve h,QJ,ih (u/10) Aa,He Aa];omega
theorem J5 (u:Nat): ∀c∈Lib.decDigits u,Fp c=true:=by
 induction u using Nat.strongRecOn with
 |_ u ih=>
  intro c hc
  by_cases h:u<10
  ·rw[Vf h,DD] at hc;subst hc;exact Ty (by rw[He h];omega) (by rw[He h];omega)
  ·rw[Ve h,List.mem_append,DD] at hc;rcases hc with hc|hc
   ·exact ih (u/10) Aa c hc
   ·subst hc;exact Ty (by rw[He Aa];omega) (by rw[He Aa];omega)
theorem Ri (u:Nat):Lib.decDigits u≠ []:=by
 intro c;have:=Lib.decDigits_length u;have h2:=Lib.nDigits_pos u;rw[c] at this;simp at this;omega
theorem Hm: ∀(k u:Nat),u<10 ^ k→1≤k→Lib.nDigits u≤k
 |0,u,_,h=>by omega
 |k+1,u,h,_=>by
  by_cases h2:u<10
  ·rw[Lib.nDigits_small h2];omega
  ·rw[Lib.nDigits_big h2]
   have hk:1≤k:=by
    rcases Nat.eq_zero_or_pos k with e|e
    ·subst e;simp at h;omega
    ·exact e
   have:=Hm k (u/10) (by rw[Nat.pow_succ] at h;omega) hk
   omega
theorem FH {u:Nat}:(Lib.decDigits u).length≤12↔u<1000000000000:=by
 rw[Lib.decDigits_length]
 constructor
 ·intro h;refine CM (Lib.lt_pow_nDigits u) ?_;exact Ch (Nat.pow_le_pow_right Ah h) Ah
 ·intro h;exact Hm 12 u (CM h Ah) Ah
def valB (l:Bs):Bool:=(decide (1≤l.length) && decide (l.length≤12)) && (l.all Fp && decide (Lib.decDigits (valN l)=l))
theorem UO {u:Nat} (h:u<1000000000000):valB (Lib.decDigits u)=true:=by
 unfold valB;simp only[CD,BP,List.all_eq_true];refine⟨⟨?_,FH.2 h⟩,J5 u,by rw[II]⟩
 rw[Lib.decDigits_length];exact Lib.nDigits_pos u
theorem Xl {l:Bs} (h:valB l=true):l=Lib.decDigits (valN l)∧valN l<1000000000000:=by
 unfold valB at h;simp only[CD,BP] at h;refine⟨h.2.2.symm,?_⟩;have:=h.1.2;rw[←h.2.2] at this;have:=FH.1 this;exact this
def MX:Bs→Bool
 | []=>false
 |c::r=>if c.toNat=45 then valB r && decide (0<valN r) else valB (c::r)
def sgN:Bs→Int
 | []=>0
 |c::r=>if c.toNat=45 then-(valN r:Int) else(valN (c::r):Int)
theorem Sn {c:UInt8} {r:Bs} (h:c.toNat=45):MX (c::r)=(valB r && decide (0<valN r)):=AA h
theorem So {c:UInt8} {r:Bs} (h: ¬c.toNat=45):MX (c::r)=valB (c::r):=Ak h
theorem iI {c:UInt8} {r:Bs} (h:c.toNat=45):sgN (c::r)= -(valN r:Int):=AA h
theorem Sr {c:UInt8} {r:Bs} (h: ¬c.toNat=45):sgN (c::r)=(valN (c::r):Int):=Ak h
theorem NV {u:Nat} {c:UInt8} {r:Bs} (h:Lib.decDigits u=c::r):Fp c=true:=J5 u c (by rw[h];exact C5 ..)
theorem DZ {z:Int} (h:0≤z):Lib.itoa z=Lib.decDigits z.toNat:=by unfold Lib.itoa;rw[Ak Aa]
theorem Ez {z:Int} (h:z<0):Lib.itoa z=45::Lib.decDigits z.natAbs:=by unfold Lib.itoa;rw[AA h]
theorem cj (z:Int):Lib.itoa z≠ []:=by
 rcases jA z 0 with h|h
 ·rw[Ez h];simp
 ·rw[DZ h];exact Ri _
theorem Ss {z:Int} (h1: -1000000000000<z) (h2:z<1000000000000):MX (Lib.itoa z)=true∧sgN (Lib.itoa z)=z:=by
 rcases jA z 0 with h|h
 ·rw[Ez h];rw[Sn Ah,iI Ah,II,UO Aa];refine⟨by simp;omega,by omega⟩
 ·rw[DZ h];have hv:=UO (u:=z.toNat) Aa;have hn:=II z.toNat
  cases hd:Lib.decDigits z.toNat with
  |nil=>exact absurd hd (Ri _)
  |cons c r=>
   have:=W5 (NV hd);rw[hd] at hv hn;rw[So Aa,Sr Aa,hv,hn];exact⟨rfl,by omega⟩
theorem Xg {l:Bs} (h:MX l=true):l=Lib.itoa (sgN l)∧ -1000000000000<sgN l∧sgN l<1000000000000:=by
 cases l with
 |nil=>cases h
 |cons c r=>
  by_cases hc:c.toNat=45
  ·rw[Sn hc] at h;simp only[CD,BP] at h;obtain⟨e,hl⟩:=Xl h.1;rw[iI hc,Ez Aa];have hc':c=45:=UInt8.toNat_inj.1 (by rw[hc];rfl)
   refine⟨by rw[Int.natAbs_neg,Int.natAbs_natCast,←e,hc'],by omega,by omega⟩
  ·rw[So hc] at h;obtain⟨e,hl⟩:=Xl h;rw[Sr hc,DZ Aa,Int.toNat_natCast,←e];exact⟨rfl,by omega,by omega⟩
theorem Op: ∀(l:Bs) (acc:Nat),(∀c∈l,Fp c=true)→l.foldl Pg acc<18446744073709551616→Lib.parseUint10 acc l=.ok (l.foldl Pg acc)
 | [],acc,_,_=>rfl
 |c::r,acc,hd,hl=>by
  have h1:=W5 (hd c (C5 ..));have h2:Pg acc c≤(c::r).foldl Pg acc:=Xm r _;have e:Pg acc c=acc*10+(c.toNat-48):=rfl;rw[Lib.parseUint10,AA h1,Ak Aa,Ak Aa,←e];exact Op r _ (fun x hx=>hd x (Hz _ hx)) hl
theorem Qs {u:Nat} (h:u<18446744073709551616):Lib.parseMag (Lib.decDigits u)=.ok u:=by
 unfold Lib.parseMag;rw[Ak (Ri u),Op _ _ (J5 u) (by have:=II u;unfold valN at this;omega)]
 have:=II u;unfold valN at this;rw[this]
theorem VS {z:Int} (h1: -9223372036854775808≤z) (h2:z≤9223372036854775807):Lib.parseIntB 64 (Lib.itoa z)=.ok z:=by
 rw[Lib.parseIntB_64];rcases jA z 0 with h|h
 ·rw[Ez h];unfold Lib.atoiAll;simp only[show(45:UInt8).toNat=45 from rfl,or_true,if_true,Qs (show z.natAbs<18446744073709551616 by omega),not_true,false_and,if_false,true_and]
  rw[Ak Aa];have: -(z.natAbs:Int)=z:=Aa;rw[this]
 ·rw[DZ h];have hp:=Qs (u:=z.toNat) Aa
  cases hd:Lib.decDigits z.toNat with
  |nil=>exact absurd hd (Ri _)
  |cons c r=>
   have:=W5 (NV hd);rw[hd] at hp;unfold Lib.atoiAll;have c1: ¬(c.toNat=43∨False):=by rintro(h|h)<;>omega
   have c2: ¬c.toNat=45:=Aa;simp only[c2,not_false_eq_true,true_and,false_and,if_false];rw[Ak c1];have e:((z.toNat:Nat):Int)=z:=Aa;rw[hp];show(if 9223372036854775808≤z.toNat then Lib.NumEnd.range else Lib.NumEnd.ok ((z.toNat:Nat):Int))=_;rw[Ak Aa,e]
def rdB (l:Bs):Bool:=match Lib.parseIntB 64 l with| .ok v=>decide (Lib.itoa v=l)|_=>false
def rdN (l:Bs):Int:=match Lib.parseIntB 64 l with| .ok v=>v| .range=>Lib.intSat 64 l|_=>0
theorem Sd {z:Int} (h1: -9223372036854775808≤z) (h2:z≤9223372036854775807):rdB (Lib.itoa z)=true∧rdN (Lib.itoa z)=z:=by
 unfold rdB rdN;rw[VS h1 h2];exact⟨BC rfl,rfl⟩
theorem W9 {l:Bs} (h:rdB l=true):l=Lib.itoa (rdN l)∧ -9223372036854775808≤rdN l∧rdN l≤9223372036854775807:=by
 unfold rdB at h;unfold rdN;rcases hp:Lib.parseIntB 64 l with v|_|_
 ·rw[hp] at h;simp only[BP] at h;have hb:=Lib.parseIntB_bounds hp;have e:(2 ^ (64-1):Nat)=9223372036854775808:=Ah;rw[e] at hb;show _∧ -9223372036854775808≤v∧v≤9223372036854775807;exact⟨h.symm,by omega,by omega⟩
 ·rw[hp] at h;cases h
 ·rw[hp] at h;cases h
theorem fa (l:Bs): -9223372036854775808≤rdN l∧rdN l≤9223372036854775807:=by
 unfold rdN;have e:(2 ^ (64-1):Nat)=9223372036854775808:=Ah;rcases hp:Lib.parseIntB 64 l with v|_|_
 ·have hb:=Lib.parseIntB_bounds hp;rw[e] at hb;simp only;omega
 ·simp only;omega
 ·simp only;unfold Lib.intSat;rw[e]
  split<;>omega
theorem ZD {z:Int} {c:UInt8} (h:c∈Lib.itoa z):(48≤c.toNat∧c.toNat≤57)∨c.toNat=45:=by
 rcases jA z 0 with h0|h0
 ·rw[Ez h0,CC] at h;rcases h with rfl|h
  ·exact .inr rfl
  ·exact .inl (W5 (J5 _ c h))
 ·rw[DZ h0] at h;exact .inl (W5 (J5 _ c h))
end Go.Proofs.YtkndcebhjcfphaaGreatDoor

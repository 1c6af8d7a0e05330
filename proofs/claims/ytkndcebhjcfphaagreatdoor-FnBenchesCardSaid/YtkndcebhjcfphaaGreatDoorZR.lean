import Derived.Test.YtkndcebhjcfphaaGreatDoorZA
import Derived.Test.YtkndcebhjcfphaaGreatDoorZP
import Derived.Lib.Split
import Derived.Lib.Join
namespace Go.Proofs.YtkndcebhjcfphaaGreatDoor
open Go.RowKit Go.Proofs.Tryz
set_option maxRecDepth 100000
set_option maxHeartbeats 4000000
set_option linter.all false
def splitC (c:UInt8):Bs->List Bs
 | []=> [[]]
 |b::r=>if b=c then []::splitC c r else match splitC c r with
  | []=> [[b]]
  |h::t=>(b::h)::t
theorem CT (c:UInt8): ∀l,splitC c l≠ []
 | []=>by simp[splitC]
 |b::r=>by
  unfold splitC
  split
  ·simp
  ·split<;>simp
theorem IE (c:UInt8) (r:Bs):splitC c (c::r)= []::splitC c r:=AA rfl
theorem Gm {c b:UInt8} {r x:Bs} {t:List Bs} (h: ¬b=c) (e:splitC c r=x::t):splitC c (b::r)=(b::x)::t:=by
 show(if b=c then _ else _)=_;rw[Ak h,e]
theorem Fl {c:UInt8}: ∀ {p:Bs},c∉p->splitC c p= [p]
 | [],_=>rfl
 |b::r,h=>by
  have a: ¬b=c:=λe=>h (by rw[e];exact C5 ..)
  have d:=Fl (c:=c) (p:=r) (λm=>h (Hz _ m));exact Gm a d
theorem jx {c:UInt8}: ∀ {p:Bs} (r:Bs),c∉p->splitC c (p++c::r)=p::splitC c r
 | [],r,_=>by
  exact IE c r
 |b::p,r,h=>by
  have a: ¬b=c:=λe=>h (by rw[e];exact C5 ..)
  have d:=jx (c:=c) (p:=p) r (λm=>h (Hz _ m));exact Gm a d
theorem Zz (c:UInt8): ∀l:Bs,(Lib.index l [c]= -1∧c∉l)∨ ∃p r,l=p++c::r∧c∉p∧Lib.index l [c]=(p.length:Int)
 | []=> .inl ⟨rfl,by simp⟩
 |b::l=>by
  by_cases h:b=c
  ·subst h;refine .inr ⟨[],l,rfl,by simp,?_⟩
   unfold Lib.index;rw[AA (by simp[List.isPrefixOf])]
   rfl
  ·have f: ¬([c].isPrefixOf (b::l)=true):=by
    simp[List.isPrefixOf]
    exact λe=>h e.symm
   rcases Zz c l with⟨a,d⟩|⟨p,r,a,d,g⟩
   ·refine .inl ⟨?_,?_⟩
    ·unfold Lib.index;rw[Ak f,a]
     rfl
    ·simp only[CC,not_or];exact⟨λe=>h e.symm,d⟩
   ·refine .inr ⟨b::p,r,by rw[a];rfl,?_,?_⟩
    ·simp only[CC,not_or];exact⟨λe=>h e.symm,d⟩
    ·unfold Lib.index;rw[Ak f,g];have:((p.length:Int)== -1)=false:=W7;rw[this]
     simp
theorem Ma (c:UInt8): ∀(n:Nat) (l:Bs),l.length<n->Lib.splitK [c] 0 (Lib.count l [c]) l=splitC c l∧(splitC c l).length=Lib.count l [c]+1
 |0,_,h=>absurd h Aa
 |n+1,l,h=>by
  rcases Zz c l with⟨a,b⟩|⟨p,r,a,b,d⟩
  ·rw[Lib.count_miss a,Fl b];exact⟨rfl,rfl⟩
  ·have g:l.drop (p.length+ [c].length)=r:=by rw[a];simp
   have q:l.take p.length=p:=by rw[a];simp
   have f:=Lib.count_hit (s:=l) (sub:= [c]) (i:=p.length) Cr d;have m:splitC c l=p::splitC c r:=by rw[a];exact jx r b
   have j:=Ma c n r (by rw[a] at h;simp at h;omega)
   rw[g] at f;rw[f,m,Nat.add_comm 1];refine⟨?_,by rw[Gt,j.2]⟩
   have k: ¬((Lib.index l [c]== -1)=true):=by rw[d,beq_iff_eq];omega
   rw[Lib.splitK,Ak k,d,Int.toNat_natCast,Hb,q,g,j.1]
theorem aD (c:UInt8) (l:Bs):Lib.split l [c]=splitC c l:=(Ma c (l.length+1) l Aa).1
theorem Zf (c:UInt8) (l:Bs):Lib.count l [c]+1=(splitC c l).length:=(Ma c (l.length+1) l Aa).2.symm
theorem jy (c:UInt8): ∀l:Bs,(splitC c l).length<=l.length+1
 | []=>by simp[splitC]
 |b::r=>by
  have:=jy c r;unfold splitC
  split
  ·simp;omega
  ·split
   ·simp
   ·rename_i h
    rw[h] at this;simp at this⊢;omega
theorem DB (c:UInt8): ∀(l:Bs),∀x∈splitC c l,x.length<=l.length
 | [],x,hx=>by simp[splitC] at hx;subst hx;simp
 |b::r,x,hx=>by
  have a:=DB c r;unfold splitC at hx
  split at hx
  ·rcases CC.1 hx with rfl|hx
   ·simp
   ·have:=a x hx;simp;omega
  ·split at hx
   ·rename_i h;exact absurd h (CT c r)
   ·rename_i hh tt he
    rw[he] at a;rcases CC.1 hx with rfl|hx
    ·have:=a hh (C5 ..);simp;omega
    ·have:=a x (Hz _ hx);simp;omega
theorem Hs (c:UInt8): ∀(l:Bs),∀x∈splitC c l,c∉x
 | [],x,hx=>by simp[splitC] at hx;subst hx;simp
 |b::r,x,hx=>by
  have a:=Hs c r;unfold splitC at hx
  split at hx
  ·rcases CC.1 hx with rfl|hx
   ·simp
   ·exact a x hx
  ·rename_i hb
   split at hx
   ·rename_i h;exact absurd h (CT c r)
   ·rename_i hh tt he
    rw[he] at a;rcases CC.1 hx with rfl|hx
    ·simp only[CC,not_or];exact⟨λe=>hb e.symm,a hh (C5 ..)⟩
    ·exact a x (Hz _ hx)
theorem XO (xs:List Bs) (x:Bs) (a:Bs):Lib.join (xs++ [x]) a=if xs= [] then x else Lib.join xs a++(a++x):=by
 cases xs with
 |nil=>simp[Lib.join_one]
 |cons y r=>
  rw[Ak Cr,List.cons_append,Lib.join_cons,Lib.join_cons];unfold Lib.joinTail
  simp
def joinI (sep:Bs) (xs:List Int):Bs:=Lib.join (xs.map Lib.itoa) sep
theorem Vq (a:Bs) (xs:List Int) (x:Int):joinI a (xs++ [x])=if xs= [] then Lib.itoa x else joinI a xs++(a++Lib.itoa x):=by
 unfold joinI;rw[List.map_append,List.map_cons,List.map_nil,XO]
 simp
structure R7 where
 t:Int
 k:Int
 l:Int
 x:Int
 y:Int
 d:Int
 r:Int
deriving DecidableEq
def R7.z:R7:=⟨0,0,0,0,0,0,0⟩
def R7.ok (f:R7):Bool:=recB f.t f.k f.l f.x f.y f.d f.r
def R7.ns (f:R7):List Int:= [f.t,f.k]++(if f.k=1 then [f.l] else if f.k=2 then [f.x,f.y,f.d,f.r] else [])
def R7.tx (f:R7):Bs:=joinI [32] f.ns
def R7.ln (f:R7):Bs:=f.tx++ [32,35]++Lib.itoa (chkFold f.tx)
def R7.L (f:R7):List Int:= [f.t,f.k,f.l,f.x,f.y,f.d,f.r]
def R7.of (n:List Int):R7:=⟨n.getD 0 0,n.getD 1 0,if n.length=3 then n.getD 2 0 else 0,if n.length=6 then n.getD 2 0 else 0,if n.length=6 then n.getD 3 0 else 0,if n.length=6 then n.getD 4 0 else 0,if n.length=6 then n.getD 5 0 else 0⟩
theorem Pm {x y d r:Int} (h:Hx x y d r=true):x=0∧y=0∧d=0∧r=0:=by unfold Hx at h;simpa using h
theorem Yv {x y d r:Int} (h:DP x y d r=true):(0<=x∧x<=10000)∧(0<=y∧y<=10000)∧(-2000<=d∧d<=1000000)∧0<=r∧r<=5000:=by
 unfold DP at h;simp only[CD] at h;exact⟨Ac h.1.1.1,Ac h.1.1.2,Ac h.1.2,Ac h.2⟩
theorem R7.cases {f:R7} (h:f.ok=true):(0<=f.t∧f.t<=1000000)∧((f.k=1∧(-2000<=f.l∧f.l<=2000)∧f.x=0∧f.y=0∧f.d=0∧f.r=0)∨
  (f.k=2∧f.l=0∧(0<=f.x∧f.x<=10000)∧(0<=f.y∧f.y<=10000)∧(-2000<=f.d∧f.d<=1000000)∧0<=f.r∧f.r<=5000)∨
  (f.k=3∧f.l=0∧f.x=0∧f.y=0∧f.d=0∧f.r=0)):=by
 unfold R7.ok recB at h;rw[CD] at h;refine⟨Ac h.1,?_⟩;have a:=h.2
 split at a
 ·rw[CD] at a;exact .inl ⟨by assumption,Ac a.1,Pm a.2⟩
 ·split at a
  ·rw[CD,beq_iff_eq] at a;exact .inr (.inl ⟨by assumption,a.1,Yv a.2⟩)
  ·split at a
   ·rw[CD,beq_iff_eq] at a;exact .inr (.inr ⟨by assumption,a.1,Pm a.2⟩)
   ·cases a
theorem R7.of_ns {f:R7} (h:f.ok=true):R7.of f.ns=f∧(∀z∈f.ns,-2000<=z∧z<=1000000)∧2<=f.ns.length∧f.ns≠ []:=by
 obtain⟨c,b⟩:=R7.cases h;obtain⟨t,k,l,x,y,d,r⟩:=f;simp only at c b;rcases b with⟨rfl,g,rfl,rfl,rfl,rfl⟩|⟨rfl,rfl,g⟩|⟨rfl,rfl,rfl,rfl,rfl,rfl⟩
 ·refine⟨rfl,λz a=> ?_,by simp[R7.ns],by simp[R7.ns]⟩
  simp[R7.ns] at a
  rcases a with rfl|rfl|rfl<;>omega
 ·refine⟨rfl,λz a=> ?_,by simp[R7.ns],by simp[R7.ns]⟩
  simp[R7.ns] at a
  rcases a with rfl|rfl|rfl|rfl|rfl|rfl<;>omega
 ·refine⟨rfl,λz a=> ?_,by simp[R7.ns],by simp[R7.ns]⟩
  simp[R7.ns] at a
  rcases a with rfl|rfl<;>omega
def C7 (ws:List Bs):Bool:=ws.all MX
def Av:Bs:= [112,114,111,102,105,108,101]
def AQ:Bs:= [115,104,111,97,108,101,115,116]
def CX:Bs:= [108,111,103]
def BE:Bs:= [99,104,101,99,107]
def AM:Bs:= [115,111,117,114,99,101]
def Bo:Bs:= [109,97,114,107]
def By:Bs:= [116,114,97,99,101]
def AW:Bs:= [108,101,118,101,108]
def Ca:Bs:= [114,97,121]
def Bw:Bs:= [99,108,101,97,110]
def Ci:Bs:= [103,114,105,100]
def Bi:Bs:= [99,104,97,110,99,101]
def Ck:Bs:= [112,108,97,110]
def AX:Bs:= [115,111,117,110,100]
def Cj:Bs:= [109,101,101,116]
def arI (l:Bs):Int:=
 if l=AQ∨l=CX∨l=BE then 0
 else if l=AM∨l=Bo∨l=By then 1
 else if l=AW then 2
 else if l=Ca∨l=Bw∨l=Ci∨l=Bi∨l=Ck then 3
 else if l=AX then 5
 else if l=Cj then 6 else-1
def UP (s:Bs):List Bs:=splitC 32 s
def cmH (s:Bs):Bs:=(UP s).getD 0 []
def fw (s:Bs):Bool:=decide (cmH s=Av)
def Co (s:Bs):List Int:=if fw s=true then [] else((UP s).drop 1).map sgN
def Dm (s:Bs):Bool:=if fw s=true then decide ((UP s).length=2) && !((UP s).getD 1 []).isEmpty else C7 ((UP s).drop 1) && decide (arI (cmH s)=(((UP s).drop 1).length:Int))
theorem J1 {s:Bs} (h:cmH s=Av):Dm s=(decide ((UP s).length=2) && !((UP s).getD 1 []).isEmpty)∧Co s= []:=by
 have a:fw s=true:=BC h;unfold Dm Co;rw[AA a,AA a];exact⟨rfl,rfl⟩
theorem LF {s:Bs} (h: ¬cmH s=Av):Dm s=(C7 ((UP s).drop 1) && decide (arI (cmH s)=(((UP s).drop 1).length:Int)))∧Co s=((UP s).drop 1).map sgN:=by
 have a: ¬fw s=true:=by unfold fw;rw[BR h];decide
 unfold Dm Co;rw[Ak a,Ak a];exact⟨rfl,rfl⟩
def Xz (l:Bs):Bool:=rdB l && decide ((Lib.trimPrefix l [45]).length<=12)
theorem UN (l:Bs):Lib.trimPrefix (45::l) [45]=l:=by
 unfold Lib.trimPrefix Lib.hasPrefix
 simp
theorem UM {u:Nat}:Lib.trimPrefix (Lib.decDigits u) [45]=Lib.decDigits u:=by
 unfold Lib.trimPrefix Lib.hasPrefix;rw[Ak];intro h;rw[List.isPrefixOf_iff_prefix] at h;obtain⟨t,a⟩:=h;have:=NV (u:=u) (c:=45) (r:=t) a.symm;exact absurd this Ah
theorem fv (l:Bs):Xz l=MX l∧(Xz l=true->rdN l=sgN l):=by
 have b:Xz l=true->MX l=true∧rdN l=sgN l:=λh=>by
  unfold Xz at h;rw[CD,BP] at h;obtain⟨e,f,g⟩:=W9 h.1;have c:=h.2;generalize rdN l=z at*;subst e
  have d: -1000000000000<z∧z<1000000000000:=by
   rcases jA z 0 with hn|hp
   ·rw[Ez hn,UN,FH] at c;omega
   ·rw[DZ hp,UM,FH] at c;omega
  have:=Ss d.1 d.2;exact⟨this.1,this.2.symm⟩
 have a:MX l=true->Xz l=true:=λh=>by
  obtain⟨e,f,g⟩:=Xg h;generalize sgN l=z at*;subst e;have i:=(Sd (z:=z) Aa Aa).1;unfold Xz;rw[i,Ha,BP];rcases jA z 0 with hn|hp
  ·rw[Ez hn,UN,FH];omega
  ·rw[DZ hp,UM,FH];omega
 refine⟨?_,λh=>(b h).2⟩
 cases hb:Xz l with
 |true=>rw[(b hb).1]
 |false=>
  cases hs:MX l with
  |false=>rfl
  |true=>rw[a hs] at hb;cases hb

theorem Nn {c:UInt8}: ∀ {r x:Bs} {t:List Bs},splitC c r=x::t->(t= []∧r=x∧c∉r)∨ ∃d,r=x++c::d∧c∉x∧splitC c d=t
 | [],x,t,h=>by
  have k:([[]]:List Bs)=x::t:=h;simp only[List.cons.injEq] at k;obtain⟨rfl,rfl⟩:=k;exact .inl ⟨rfl,rfl,by simp⟩
 |b::r,x,t,h=>by
  by_cases i:b=c
  ·subst i;rw[IE] at h;simp only[List.cons.injEq] at h;obtain⟨rfl,h⟩:=h;exact .inr ⟨r,rfl,by simp,h⟩
  ·obtain⟨g,f,e⟩: ∃g f,splitC c r=g::f:=by
    rcases e:splitC c r with _|⟨g,f⟩
    ·exact absurd e (CT c r)
    ·exact⟨g,f,rfl⟩
   rw[Gm i e] at h;simp only[List.cons.injEq] at h;obtain⟨rfl,rfl⟩:=h;have a: ¬c=b:=λh=>i h.symm;rcases Nn e with⟨rfl,rfl,j⟩|⟨d,rfl,j,e2⟩
   ·exact .inl ⟨rfl,rfl,by simp[a,j]⟩
   ·exact .inr ⟨d,rfl,by simp[a,j],e2⟩
theorem WT {c:UInt8}: ∀ {p:Bs},c∉p->Lib.indexByte p c= -1
 | [],_=>rfl
 |b::p,h=>by
  have a: ¬b=c:=λe=>h (by rw[e];exact C5 ..)
  have d:=WT (c:=c) (p:=p) λm=>h (Hz _ m);unfold Lib.indexByte
  simp[a,d]
theorem ZF {c:UInt8}: ∀ {p:Bs} (r:Bs),c∉p->Lib.indexByte (p++c::r) c=(p.length:Int)
 | [],r,_=>by unfold Lib.indexByte;simp
 |b::p,r,h=>by
  have a: ¬b=c:=λe=>h (by rw[e];exact C5 ..)
  have d:=ZF (c:=c) (p:=p) r λm=>h (Hz _ m);rw[List.cons_append];unfold Lib.indexByte;rw[d]
  simp[a]
def Gh:List Bs->List Bs
 | []=> []
 | [x]=>if x= [] then [] else [x]
 |x::y::t=>(x++ [10])::Gh (y::t)
def linesL (s:Bs):List Bs:=Gh (splitC 10 s)
theorem Hl:linesL []= []:=rfl
theorem Kr {x:Bs} {t:List Bs} (h:t≠ []):Gh (x::t)=(x++ [10])::Gh t:=by
 cases t with
 |nil=>exact absurd rfl h
 |cons y t=>rfl
theorem Mr {r:Bs} (h:(10:UInt8)∉r) (a:r≠ []):linesL r= [r]:=by
 unfold linesL;rw[Fl h];exact Ak a
theorem VG {x:Bs} (r:Bs) (h:(10:UInt8)∉x):linesL (x++10::r)=(x++ [10])::linesL r:=by
 unfold linesL;rw[jx r h,Kr (CT 10 r)]
theorem Ms (r:Bs):((10:UInt8)∉r)∨ ∃x a,r=x++10::a∧(10:UInt8)∉x∧linesL r=(x++ [10])::linesL a:=by
 rcases e:splitC 10 r with _|⟨x,t⟩
 ·exact absurd e (CT 10 r)
 ·rcases Nn e with⟨_,rfl,b⟩|⟨a,rfl,b,_⟩
  ·exact .inl b
  ·exact .inr ⟨x,a,rfl,b,VG a b⟩
theorem Mt: ∀a:List Bs,(Gh a).length<=a.length
 | []=>Cp _
 | [x]=>by unfold Gh;split<;>simp
 |x::y::t=>by
  have h:=Mt (y::t);show(Gh (y::t)).length+1<=(y::t).length+1;omega
theorem JF (s:Bs):(linesL s).length<=s.length+1:=Ch (Mt _) (jy 10 s)
theorem RZ (s:Bs): ∀x∈linesL s,x.length<=s.length:=by
 have b: ∀(n:Nat) (s:Bs),s.length<=n-> ∀x∈linesL s,x.length<=s.length:=by
  intro n
  induction n with
  |zero=>
   intro s d x a;have:s= []:=List.length_eq_zero_iff.1 Aa;subst this;rw[Hl] at a
   cases a
  |succ n ih=>
   intro s d x a;rcases Ms s with h|⟨y,r',rfl,hn,e⟩
   ·by_cases c:s= []
    ·subst c;rw[Hl] at a;cases a
    ·rw[Mr h c] at a;rw[DD.1 a];exact Cp _
   ·rw[e] at a;rcases CC.1 a with rfl|a
    ·simp
    ·have f:r'.length<=n:=by simp at d;omega
     have:=ih r' f x a
     simp;omega
 exact b _ s Bk
theorem dB (x:Bs):Lib.trimSuffix (x++ [10]) [10]=x:=by
 have h:Lib.hasSuffix (x++ [10]) [10]=true:=by unfold Lib.hasSuffix;rw[List.isSuffixOf_iff_suffix];exact⟨x,rfl⟩
 unfold Lib.trimSuffix;rw[AA h]
 simp
theorem dC {x:Bs} (a:(10:UInt8)∉x):Lib.trimSuffix x [10]=x:=by
 have h: ¬Lib.hasSuffix x [10]=true:=by
  unfold Lib.hasSuffix;rw[List.isSuffixOf_iff_suffix];rintro⟨y,rfl⟩;exact a Cr
 unfold Lib.trimSuffix;rw[Ak h]
def lnL (s:Bs):List Bs:=(linesL s).map λx=>Lib.trimSuffix x [10]
def gm (s:Bs):List Bs:=if(splitC 10 s).getLastD []= [] then(splitC 10 s).dropLast else splitC 10 s
theorem fH: ∀a:List Bs,a≠ []->(∀x∈a,(10:UInt8)∉x)->(Gh a).map (λx=>Lib.trimSuffix x [10])=if a.getLastD []= [] then a.dropLast else a
 | [],h,_=>absurd rfl h
 | [x],_,h=>by
  show(if x= [] then [] else [x]).map _=if x= [] then [] else [x]
  by_cases b:x= []
  ·rw[AA b];rfl
  ·rw[Ak b]
   simp[dC (h x (C5 ..))]
 |x::y::t,_,h=>by
  have d:=fH (y::t) Cr (λz c=>h z (Hz _ c));rw[Kr Cr,List.map_cons,d,dB];have e:(x::y::t).getLastD []=(y::t).getLastD []:=by simp[List.getLastD]
  rw[e]
  split
  ·rfl
  ·rfl
theorem dQ (s:Bs):lnL s=gm s:=fH _ (CT 10 s) (Hs 10 s)
theorem WU (s:Bs):(lnL s).length=(linesL s).length:=List.length_map ..
theorem Qq {s x:Bs} (h:x∈lnL s):x.length<=s.length∧(10:UInt8)∉x:=by
 rw[dQ] at h
 have a:x∈splitC 10 s:=by
  unfold gm at h
  split at h
  ·exact List.dropLast_subset _ h
  ·exact h
 exact⟨DB 10 s x a,Hs 10 s x a⟩

import Derived.Test.YtkndcebhjcfphaaGreatDoorZAc
import Derived.Test.YtkndcebhjcfphaaGreatDoorZAh
namespace Go.Proofs.YtkndcebhjcfphaaGreatDoor
open Go.RowKit Go.Proofs.Tryz
set_option maxRecDepth 100000
set_option maxHeartbeats 4000000
set_option linter.all false
theorem OV (A:Option Addr) (n c:Nat) (xs:List Int) (w:World) (hn:n<=1048576) (hr:Rd w A (n*7) (ints xs)):
  Calls prog 169 #[.slice A n c] w λe s=> ∃h:Hd,e=.returned (.tuple (FK h.A h.n h.c (YH xs n) (gaugeC xs n)))∧h.n<=200∧h.n<=h.c∧Rd s h.A (h.n*4) (ints (UR xs n))∧Wr s w.heap.size h.A (h.n*4)∧Below w w s:=by
 go_enter func169,ntmps169
 go_wp2_with fail
 refine(P6 A n c xs _ hn hr).mono ?_;rintro e w1 ⟨⟨⟨O,r,tc⟩,⟨N,ln,lc⟩⟩,rfl,ok,R,-,-,J⟩;unfold Lv;simp only
 by_cases E:gaugeC xs n=0
 rotate_left
 ·have HV:Hid (YH xs n=0∧UR xs n= []):=by unfold Hid YH UR;rw[Ak E,Ak E];exact⟨rfl,rfl⟩
  have hcb:(gaugeC xs n==0)=false:=by rw[Ea];exact E
  have a0:(gaugeC xs n !=0)=true:=by rw[bne,hcb];rfl
  clear R ok;obtain⟨gc,T⟩: ∃x,gaugeC xs n=x:=⟨_,rfl⟩;have HG:=Ai T;rw[T] at E hcb a0⊢;clear T;go_wp2;refine AS (v:=.tuple (FK none 0 0 0 gc)) (by simp[results,results169,go_sem]) rfl ⟨⟨none,0,0⟩,by rw[HV.out.1,HG.out],AZ _,Cp _,by rw[HV.out.2];exact Rd.nil _ _,λh=>absurd h (Nat.lt_irrefl 0),?_⟩
  repeat(first|with_reducible exact J|refine Below.setCell ?_ (by simp<;>omega) _|refine Below.alloc ?_ (by have:=J.size;simp<;>omega) _)
 obtain⟨D,al,GO⟩:=Tj E;have a1:=(FU D).2;have af:=Ai (FU D).1;have aF:Hid (GY (rpT xs n) (rpS xs n)):=GO;rw[al] at R;have rT:Rd w1 O r (ints (rpT xs n)):=R.head;have rL:Rd w1 N ln (ints (rpS xs n)):=R.tail.head;have a4:r=ln:=by have a:=rT.len;have b:=rL.len;have:=GO.eq;unfold rpT rpS at*;omega
 subst a4;have HV:Hid (YH xs n=(repN (rpT xs n) (rpS xs n) xs n:Int)∧UR xs n=repL (rpT xs n) (rpS xs n) xs n):=by unfold Hid YH UR;rw[AA E,AA E];exact⟨rfl,rfl⟩
 clear R ok al GO D;generalize rpT xs n=ts at*;generalize rpS xs n=f at*;have HC:=Ai E;rw[E];clear E;have bI:w<=w1.heap.size:=J.size
 go_upto_region 2 with fail
 generalize hG:w1.alloc _=I;obtain⟨K5,b2⟩:=EX hG;clear hG;replace rT:=rT.below b2;replace rL:=rL.below b2;replace J:=An J b2;clear b2;generalize w1.heap.size=Q at*;have q5:=K5.lt
 go_wp2_with fail
 have b3:Below I I (I.alloc (.cells #[] 65)):=BU
 go_loopw [7,8,9] (λv7 v8 v9 wr=> ∃(k:Nat) (h:Hd),k<=n∧v9=.int .i64 k∧v7=.slice h.A h.n h.c∧v8=.int .i64 (repN ts f xs k:Nat)∧h.n<=k∧AR wr I.heap.size 4 h (ints (repL ts f xs k))∧Below I I wr)
  (λ_ _ v9 _=>n-(intOf v9).toNat)
 case atStart=>exact⟨0,⟨some ⟨I,0,none⟩,0,0⟩,AZ _,rfl,rfl,rfl,Cp _,AR.empty _ _ _ _,b3⟩
 case round=>
  obtain⟨k,⟨Z,y,hC⟩,hk,rfl,rfl,rfl,aT,o,z⟩:=hrel;simp only at aT;have KW:=K5.below z q5;have qw:=KW.lt
  by_cases am:k<n
  ·have bl:(k:Int)<(n:Int):=Aa;obtain⟨j,rfl,c0,c1,c2,c3,c4,c5,c6⟩:=((hr.below J).below z).seven am;have L:Hid (recB (recT xs k) (recK xs k) (recL xs k) (xs.getD (k*7+3) 0) (xs.getD (k*7+4) 0) (xs.getD (k*7+5) 0) (xs.getD (k*7+6) 0)=true):=GS af.out am;have HL:Hid (repL ts f xs (k+1)=if recK xs k=2∧GC ts f xs k=0 then repL ts f xs k++Gz ts f xs k else repL ts f xs k):=rfl;have HN:Hid (repN ts f xs (k+1)=if recK xs k=2∧ ¬GC ts f xs k=0 then repN ts f xs k+1 else repN ts f xs k):=rfl;have HD:Hid (GC ts f xs k=EP ts f (xs.getD (k*7) 0) (xs.getD (k*7+3) 0) (xs.getD (k*7+4) 0) (xs.getD (k*7+5) 0) (xs.getD (k*7+6) 0)):=rfl;have HO:Hid (Gz ts f xs k= [xs.getD (k*7+3) 0,xs.getD (k*7+4) 0,MT (xs.getD (k*7+5) 0) (xs.getD (k*7+6) 0) (lvLo ts f (xs.getD (k*7) 0)) (lvHi ts f (xs.getD (k*7) 0)),MU (xs.getD (k*7+5) 0) (xs.getD (k*7+6) 0) (lvLo ts f (xs.getD (k*7) 0)) (lvHi ts f (xs.getD (k*7) 0))]):=rfl;have M:Hid (recT xs k=xs.getD (k*7) 0∧recK xs k=xs.getD (k*7+1) 0):=⟨rfl,rfl⟩;have bk:=Sg ts f xs k;generalize xs.getD (k*7) 0=x0 at*;generalize xs.getD (k*7+1) 0=x1 at*;generalize xs.getD (k*7+2) 0=x2 at*;generalize xs.getD (k*7+3) 0=U at*;generalize xs.getD (k*7+4) 0=V at*;generalize xs.getD (k*7+5) 0=X at*;generalize xs.getD (k*7+6) 0=Y at*
   by_cases F:x1=2
   rotate_left
   ·have bq:(x1==2)=false:=by rw[Ea];exact F
    have i:Hid (repL ts f xs (k+1)=repL ts f xs k):=by show _=_;rw[HL.out,Ak (λe=>F (by rw[<-M.out.2];exact e.1))]
    have aG:Hid (repN ts f xs (k+1)=repN ts f xs k):=by show _=_;rw[HN.out,Ak (λe=>F (by rw[<-M.out.2];exact e.1))]
    generalize repN ts f xs k=rn at*
    go_wp2_with fail
    go_roundw
    case rel=>exact⟨k+1,⟨Z,y,hC⟩,by omega,by go_num,rfl,by rw[aG.out],by show y<=k+1;omega,by rw[i.out];exact o,z⟩
    case measure=>simp[intOf];omega
   subst F;have hs:Hid (DP U V X Y=true):=by have a:=L.out;rw[M.out.2] at a;exact Ut a
   have ht:=LX L.out;rw[M.out.1] at ht;have C:=λW r1 r2=>OU O N r tc lc ts f x0 U V X Y W aF.out r1 r2 ht.1 ht.2 hs.out
   obtain⟨a,b,p,q,H,aj,l,ai⟩: ∃a b p q H:Int,H6 ts f x0 U V X Y=.agg (Ziiii a b p q)∧EP ts f x0 U V X Y=H∧(H=0->Gz ts f xs k= [a,b,p,q]):=by
    by_cases K:EP ts f x0 U V X Y=0
    ·exact⟨_,_,_,_,_,Qx K,rfl,λ_=>HO.out⟩
    ·exact⟨_,_,_,_,_,Qw K,rfl,λe=>absurd e K⟩
   have B: ∀W,Rd W O r (ints ts)->Rd W N r (ints f)->Calls prog 212 #[Ziiii U V X Y,CH O r tc N r lc,ZI x0] W λe s=>e=.returned (.tuple (EJ a b p q H))∧Below W W s:=λW r1 r2=>by
    have:=C W r1 r2;rw[aj,l] at this;exact this
   have i:Hid (H=0->repL ts f xs (k+1)=repL ts f xs k++ [a,b,p,q]∧repN ts f xs (k+1)=repN ts f xs k):=λe=>⟨by rw[HL.out,AA ⟨M.out.2,by rw[HD.out,l];exact e⟩,ai e],by rw[HN.out,Ak (λe2=>e2.2 (by rw[HD.out,l];exact e))]⟩
   have t:Hid (¬H=0->repL ts f xs (k+1)=repL ts f xs k∧repN ts f xs (k+1)=repN ts f xs k+1):=λe=>⟨by rw[HL.out,Ak (λe2=>e (by rw[<-l,<-HD.out];exact e2.2))],by rw[HN.out,AA ⟨M.out.2,by rw[HD.out,l];exact e⟩]⟩
   clear HL HN HD L HO hs aj l ai C M;generalize repN ts f xs k=rn at*;have aS:y+1<=1099511627776:=Aa;have e5:=KW.cell
   go_upto_region 9 with fail
   have d:(j.add (k*7)).block<wr.heap.size:=by
    rw[Aq];exact((hr.below J).below z).lt rfl (show 0<n*7 by omega)
   have bA:Below wr wr (wr.alloc (.cells C8 65)):=BU;have hA:=B wr.drew ((rT.below z).below GJ) ((rL.below z).below GJ);have hB:=B (wr.alloc (.cells C8 65)).drew ((rT.below z).below (CO bA)) ((rL.below z).below (CO bA));have KZ:=Blk.drew (Br wr 65 C8)
   go_cut [10,11] (λa8 a9 wx=> ∃gs:Nat,a8=.pointer (some ⟨gs,0,none⟩)∧a9=.int .i64 H∧Blk wx gs 65 (Ziiii a b p q)∧Below wr wr wx)
   case first=>
    go_region_held3 (λs=>s.cell? (j.add (k*7))=ZS x0∧s.cell? ⟨(j.add (k*7)).block,(j.add (k*7)).off+3,none⟩=ZS U∧s.cell? ⟨(j.add (k*7)).block,(j.add (k*7)).off+4,none⟩=ZS V∧s.cell? ⟨(j.add (k*7)).block,(j.add (k*7)).off+5,none⟩=ZS X∧s.cell? ⟨(j.add (k*7)).block,(j.add (k*7)).off+6,none⟩=ZS Y∧(∀o,s.cell? ⟨Q,o,none⟩=((CH O r tc N r lc):Array Value)[o]?))
     (exact Cs)
     (first
      |(go_at_call 212;(with_reducible refine hA.mono ?_);rintro e u ⟨rfl,b4⟩;have g:Below wr wr u:=EE (m:=1) b4;have z0:=(JX g (p:=j.add (k*7)) d).trans c0;have z3:=Cg g c3 d;have z4:=Cg g c4 d;have z5:=Cg g c5 d;have z6:=Cg g c6 d;have zg: ∀o,u.cell? ⟨Q,o,none⟩=((CH O r tc N r lc):Array Value)[o]? :=λo=>(JX g (p:=⟨Q,o,none⟩) qw).trans (e5 o);have qu:Q<u:=CM qw g.size;have ak:(j.add (k*7)).block<u.heap.size:=CM d g.size;have KU:=Br u 65 (Ziiii a b p q);have bU:Below wr wr (u.alloc (.cells (Ziiii a b p q) 65)):=g.trans (((AP _ _).alloc Bk _).mono g.size))
      |(go_at_call 212;(with_reducible refine hB.mono ?_);rintro e u ⟨rfl,b4⟩;have g:Below wr wr u:=(CO bA).trans (b4.mono bA.size);have z0:=(JX g (p:=j.add (k*7)) d).trans c0;have z3:=Cg g c3 d;have z4:=Cg g c4 d;have z5:=Cg g c5 d;have z6:=Cg g c6 d;have zg: ∀o,u.cell? ⟨Q,o,none⟩=((CH O r tc N r lc):Array Value)[o]? :=λo=>(JX g (p:=⟨Q,o,none⟩) qw).trans (e5 o);have qu:Q<u:=CM qw g.size;have ak:(j.add (k*7)).block<u.heap.size:=CM d g.size;have KU:=KZ.below b4 KZ.lt;have fU:=KU.frozen;have cU:=KU.cell;have bJ:=KU.lt))
    all_goals
     go_wp2_with fail
     go_meet
     first
      |exact⟨u.heap.size,rfl,rfl,KU,bU⟩
      |exact⟨wr.heap.size,rfl,rfl,(((KU.set_ 0 _).set_ 1 _).set_ 2 _).set_ 3 _,(((g.setCell (p:=⟨wr,0,none⟩) Bk _).setCell (p:=⟨wr,1,none⟩) Bk _).setCell (p:=⟨wr,2,none⟩) Bk _).setCell (p:=⟨wr,3,none⟩) Bk _⟩
   case rest=>
    obtain⟨gs,rfl,rfl,KS,bw⟩:=hcut;obtain⟨w5,rfl⟩: ∃x:World,x=wc:=⟨_,rfl⟩;have oD:=o.below bw;have db:=An z bw;clear KW qw o z bw bA hA hB KZ d c0 c1 c2 c3 c4 c5 c6 e5 B;have eS:=KS.cell
    by_cases K:H=0
    ·subst K;have i:=Ai (i.out rfl);clear t;have bz:Below w5 w5 (w5.alloc (.cells (Ziiii a b p q) 65)):=BU;have oz:=oD.below bz;have RE:=Iy w5 a b p q 65;have dz:=An db bz;have ah:=dz.size;have ao: ∀b,(⟨Z,y,hC⟩:Hd).row=some b->I<=b:=λb e=>(oD.rowlt b e).1
     go_wp2_with (at_builtin;refine Aj rfl _ _ 171 rfl 65 4 32 underlying171 DS Ah I.heap.size ⟨Z,y,hC⟩ _ rfl oz _ 1 1 (ints [a,b,p,q]) rfl RE (Ao _) aS Ah ah ?_;intro G wg S HG gg aU)
     have an:G.n<=k+1:=by rw[S];show y+1<=k+1;omega
     have aH:=Ai an;have aE:=Ai S;clear S an aU
     go_roundw
     case rel=>exact⟨k+1,G,by omega,by go_num,by first|rfl|rw[aE.out],by rw[i.out.2],aH.out,by rw[i.out.1,js];exact HG,dz.grown gg ah (λb e=>ao b e)⟩
     case measure=>simp[intOf];omega
    ·have bn:(H==0)=false:=by rw[Ea];exact K
     have t:=Ai (t.out K);clear i K;have u1:=Bg ((rn:Int)+1)
     go_wp2_with fail
     go_roundw
     case rel=>exact⟨k+1,⟨Z,y,hC⟩,by omega,by go_num,rfl,by rw[t.out.2];go_num,by show y<=k+1;omega,by rw[t.out.1];exact oD,db⟩
     case measure=>simp[intOf];omega
  ·obtain rfl:n=k:=Aa;have aV:Below w w wr:=An J z;generalize repN ts f xs n=rn at*;go_wp2;refine AS (v:=.tuple (FK Z y hC rn 0)) (by simp[results,results169,go_sem]) rfl ⟨⟨Z,y,hC⟩,by rw[HV.out.1,HC.out],by show y<=200;omega,o.nc,by rw[HV.out.2];exact o.rd,(o.mono Aa).wr,aV⟩
theorem N7 (A:Option Addr) (n c:Nat) (xs:List Int) (w:World) (hn:n<=1048576) (aK:n<=c) (hr:Rd w A (n*7) (ints xs)):
  Calls prog 185 #[.slice A n c] w λe w'=> ∃h:Hd,e=.returned (.tuple (FK h.A h.n h.c (YH xs n) (gaugeC xs n)))∧h.n<=200∧h.n<=h.c∧Rd w' h.A (h.n*4) (ints (UR xs n))∧Wr w' w.heap.size h.A (h.n*4)∧Below w w w':=by
 go_enter func185,ntmps185
 go_wp2_with fail
 refine(PK A n c xs _ hn aK hr).mono ?_;rintro e w1 ⟨⟨⟨TA,N,tc⟩,⟨LA,ln,lc⟩⟩,rfl,ok,R,-,-,J⟩;unfold Lv;simp only
 by_cases r:gaugeC xs n=0
 rotate_left
 ·have HV:Hid (YH xs n=0∧UR xs n= []):=by unfold Hid YH UR;rw[Ak r,Ak r];exact⟨rfl,rfl⟩
  have hcb:(gaugeC xs n==0)=false:=by rw[Ea];exact r
  have aI:(gaugeC xs n !=0)=true:=by rw[bne,hcb];rfl
  clear R ok;obtain⟨gc,M⟩: ∃x,gaugeC xs n=x:=⟨_,rfl⟩;have HG:=Ai M;rw[M] at r hcb aI⊢;clear M;go_wp2;refine AS (v:=.tuple (FK none 0 0 0 gc)) (by simp[results,results185,go_sem]) rfl ⟨⟨none,0,0⟩,by rw[HV.out.1,HG.out],AZ _,Cp _,by rw[HV.out.2];exact Rd.nil _ _,λh=>absurd h (Nat.lt_irrefl 0),?_⟩
  repeat(first|with_reducible exact J|refine Below.setCell ?_ (by simp<;>omega) _|refine Below.alloc ?_ (by have:=J.size;simp<;>omega) _)
 obtain⟨m,aa,GO⟩:=Tj r;have aJ:=(FU m).2;have U:=Ai (FU m).1;have ay:Hid (GY (rpT xs n) (rpS xs n)):=GO;rw[aa] at R;have rT:Rd w1 TA N (ints (rpT xs n)):=R.head;have rL:Rd w1 LA ln (ints (rpS xs n)):=R.tail.head;have aM:N=ln:=by have a:=rT.len;have b:=rL.len;have:=GO.eq;unfold rpT rpS at*;omega
 subst aM;have HV:Hid (YH xs n=(repN (rpT xs n) (rpS xs n) xs n:Int)∧UR xs n=repL (rpT xs n) (rpS xs n) xs n):=by unfold Hid YH UR;rw[AA r,AA r];exact⟨rfl,rfl⟩
 clear R ok aa GO m;generalize rpT xs n=ts at*;generalize rpS xs n=d at*;have HC:=Ai r;rw[r];clear r;have br:w<=w1.heap.size:=J.size
 go_upto_region 2 with fail
 generalize X:w1.alloc _=w2;obtain⟨K5,b2⟩:=EX X;clear X;replace rT:=rT.below b2;replace rL:=rL.below b2;replace J:=An J b2;clear b2;generalize w1.heap.size=g5 at*;have q5:=K5.lt
 go_wp2_with fail
 go_loopw [7,8,23] (λv7 v8 v9 wr=> ∃(k:Nat) (h:Hd),k<=n∧v9=.int .i64 k∧v7=.slice h.A h.n h.c∧v8=.int .i64 (repN ts d xs k:Nat)∧h.n<=k∧AR wr w2.heap.size 4 h (ints (repL ts d xs k))∧Below w2 w2 wr)
  (λ_ _ v9 _=>n-(intOf v9).toNat)
 case atStart=>exact⟨0,⟨none,0,0⟩,AZ _,rfl,rfl,rfl,Cp _,AR.nil _ _ _,AP _ _⟩
 case round=>
  obtain⟨k,⟨Q,j,S⟩,hk,rfl,rfl,rfl,aF,o,L⟩:=hrel;simp only at aF;have KW:=K5.below L q5;have qw:=KW.lt
  by_cases ab:k<n
  ·have a1:(k:Int)<(n:Int):=Aa;obtain⟨ad,rfl,c0,c1,c2,c3,c4,c5,c6⟩:=((hr.below J).below L).seven ab;have H:Hid (recB (recT xs k) (recK xs k) (recL xs k) (xs.getD (k*7+3) 0) (xs.getD (k*7+4) 0) (xs.getD (k*7+5) 0) (xs.getD (k*7+6) 0)=true):=GS U.out ab;have HL:Hid (repL ts d xs (k+1)=if recK xs k=2∧GC ts d xs k=0 then repL ts d xs k++Gz ts d xs k else repL ts d xs k):=rfl;have HN:Hid (repN ts d xs (k+1)=if recK xs k=2∧ ¬GC ts d xs k=0 then repN ts d xs k+1 else repN ts d xs k):=rfl;have T:Hid (GC ts d xs k=EP ts d (xs.getD (k*7) 0) (xs.getD (k*7+3) 0) (xs.getD (k*7+4) 0) (xs.getD (k*7+5) 0) (xs.getD (k*7+6) 0)):=rfl;have HO:Hid (Gz ts d xs k= [xs.getD (k*7+3) 0,xs.getD (k*7+4) 0,MT (xs.getD (k*7+5) 0) (xs.getD (k*7+6) 0) (lvLo ts d (xs.getD (k*7) 0)) (lvHi ts d (xs.getD (k*7) 0)),MU (xs.getD (k*7+5) 0) (xs.getD (k*7+6) 0) (lvLo ts d (xs.getD (k*7) 0)) (lvHi ts d (xs.getD (k*7) 0))]):=rfl;have I:Hid (recT xs k=xs.getD (k*7) 0∧recK xs k=xs.getD (k*7+1) 0):=⟨rfl,rfl⟩;have a0:=Sg ts d xs k;generalize xs.getD (k*7) 0=O at*;generalize xs.getD (k*7+1) 0=x1 at*;generalize xs.getD (k*7+2) 0=x2 at*;generalize xs.getD (k*7+3) 0=C at*;generalize xs.getD (k*7+4) 0=D at*;generalize xs.getD (k*7+5) 0=E at*;generalize xs.getD (k*7+6) 0=F at*
   by_cases t:x1=2
   rotate_left
   ·have a5:(x1==2)=false:=by rw[Ea];exact t
    have f:Hid (repL ts d xs (k+1)=repL ts d xs k):=by show _=_;rw[HL.out,Ak (λe=>t (by rw[<-I.out.2];exact e.1))]
    have az:Hid (repN ts d xs (k+1)=repN ts d xs k):=by show _=_;rw[HN.out,Ak (λe=>t (by rw[<-I.out.2];exact e.1))]
    generalize repN ts d xs k=rn at*
    go_wp2_with fail
    go_roundw
    case rel=>exact⟨k+1,⟨Q,j,S⟩,by omega,by go_num,rfl,by rw[az.out],by show j<=k+1;omega,by rw[f.out];exact o.below BU,L.alloc L.size _⟩
    case measure=>simp[intOf];omega
   subst t;have hs:Hid (DP C D E F=true):=by have a:=H.out;rw[I.out.2] at a;exact Ut a
   have ht:=LX H.out;rw[I.out.1] at ht;have l:=λW r1 r2=>N5 TA LA N tc lc ts d O C D E F W ay.out r1 r2 ht.1 ht.2 hs.out
   obtain⟨a,b,p,q,B,Z,g,Y⟩: ∃a b p q B:Int,H6 ts d O C D E F=.agg (Ziiii a b p q)∧EP ts d O C D E F=B∧(B=0->Gz ts d xs k= [a,b,p,q]):=by
    by_cases u:EP ts d O C D E F=0
    ·exact⟨_,_,_,_,_,Qx u,rfl,λ_=>HO.out⟩
    ·exact⟨_,_,_,_,_,Qw u,rfl,λe=>absurd e u⟩
   have y: ∀W,Rd W TA N (ints ts)->Rd W LA N (ints d)->Calls prog 230 #[Ziiii C D E F,CH TA N tc LA N lc,ZI O] W λe w'=>e=.returned (.tuple (EJ a b p q B))∧Below W W w':=λW r1 r2=>by
    have:=l W r1 r2;rw[Z,g] at this;exact this
   have f:Hid (B=0->repL ts d xs (k+1)=repL ts d xs k++ [a,b,p,q]∧repN ts d xs (k+1)=repN ts d xs k):=λe=>⟨by rw[HL.out,AA ⟨I.out.2,by rw[T.out,g];exact e⟩,Y e],by rw[HN.out,Ak (λe2=>e2.2 (by rw[T.out,g];exact e))]⟩
   have i:Hid (¬B=0->repL ts d xs (k+1)=repL ts d xs k∧repN ts d xs (k+1)=repN ts d xs k+1):=λe=>⟨by rw[HL.out,Ak (λe2=>e (by rw[<-g,<-T.out];exact e2.2))],by rw[HN.out,AA ⟨I.out.2,by rw[T.out,g];exact e⟩]⟩
   clear HL HN T H HO hs Z g Y l I;generalize repN ts d xs k=rn at*;have aE:j+1<=1099511627776:=Aa
   go_upto_region 9 with fail
   have KB:=Br wr 67 (AD O 2 x2 C D E F);have bB:Below wr wr (wr.alloc (.cells (AD O 2 x2 C D E F) 67)):=BU;have D5:=KW.below bB qw;have z:=o.below bB;have s:=An L bB;clear bB c0 c1 c2 c3 c4 c5 c6 KW qw o L;generalize wr.alloc _=w3 at KB D5 z s⊢;have eB:=KB.cell;have e5:=D5.cell
   go_wp2_with fail
   refine(y _ (rT.below s) (rL.below s)).mono ?_;rintro e w4 ⟨rfl,b4⟩;replace z:=z.below b4;replace s:=An s b4;clear b4 y e5 eB D5 KB
   go_upto_region 11 with fail
   generalize X:w4.alloc _=w5;obtain⟨KS,b5⟩:=EX X;clear X;replace z:=z.below b5;replace s:=An s b5;generalize w4.heap.size=gs at KS⊢;have eS:=KS.cell
   by_cases u:B=0
   ·subst u;have f:=Ai (f.out rfl);clear i;have bz:Below w5 w5 (w5.alloc (.cells (Ziiii a b p q) 65)):=BU;have oz:=z.below bz;have RE:=Iy w5 a b p q 65;have dz:=An s bz;have V:=dz.size;have ae: ∀b,(⟨Q,j,S⟩:Hd).row=some b->w2<=b:=λb e=>(z.rowlt b e).1
    go_wp2_with (at_builtin;refine Aj rfl _ _ 171 rfl 65 4 32 underlying171 DS Ah w2.heap.size ⟨Q,j,S⟩ _ rfl oz _ 1 1 (ints [a,b,p,q]) rfl RE (Ao _) aE Ah V ?_;intro G wg K HG gg aG)
    have ac:G.n<=k+1:=by rw[K];show j+1<=k+1;omega
    have aA:=Ai ac;have ax:=Ai K;clear K ac aG
    go_roundw
    case rel=>exact⟨k+1,G,by omega,by go_num,by first|rfl|rw[ax.out],by rw[f.out.2],aA.out,by rw[f.out.1,js];exact HG,dz.grown gg V (λb e=>ae b e)⟩
    case measure=>simp[intOf];omega
   ·have a3:(B==0)=false:=by rw[Ea];exact u
    have i:=Ai (i.out u);clear f u;have u1:=Bg ((rn:Int)+1)
    go_wp2_with fail
    go_roundw
    case rel=>exact⟨k+1,⟨Q,j,S⟩,by omega,by go_num,rfl,by rw[i.out.2];go_num,by show j<=k+1;omega,by rw[i.out.1];exact z,s⟩
    case measure=>simp[intOf];omega
  ·obtain rfl:n=k:=Aa;have aH:Below w w wr:=An J L;generalize repN ts d xs n=rn at*;go_wp2;refine AS (v:=.tuple (FK Q j S rn 0)) (by simp[results,results185,go_sem]) rfl ⟨⟨Q,j,S⟩,by rw[HV.out.1,HC.out],by show j<=200;omega,o.nc,by rw[HV.out.2];exact o.rd,(o.mono Aa).wr,aH⟩
def V7 (xs:List Int):List Int:=UR xs (xs.length/7)

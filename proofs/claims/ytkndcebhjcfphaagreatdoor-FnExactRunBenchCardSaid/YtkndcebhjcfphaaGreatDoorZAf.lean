import Derived.Test.YtkndcebhjcfphaaGreatDoorZAa
import Derived.Test.YtkndcebhjcfphaaGreatDoorZM
import Derived.Test.YtkndcebhjcfphaaGreatDoorZU
import Derived.Lib.SmallJoins
namespace Go.Proofs.YtkndcebhjcfphaaGreatDoor
open Go.RowKit Go.Proofs.Tryz
set_option maxRecDepth 100000
set_option maxHeartbeats 4000000
set_option linter.all false
structure Dq (w:World):Prop where
 tab:CK w
 syn: ∃tp p,w.var? prog "strconv.ErrSyntax" =some #[.iface tp p]
 rng: ∃tp p,w.var? prog "strconv.ErrRange" =some #[.iface tp p]
 mx: ∃m,w.cell? ⟨0,0,none⟩=ZS m
 pos:0<w.heap.size
theorem Dq.below {w w':World} (h:Dq w) (b:Below w w w'):Dq w':=by
 obtain⟨h1,⟨t2,p2,h2⟩,⟨t3,p3,h3⟩,⟨m,h4⟩,h5⟩:=h;exact⟨h1.below b,⟨t2,p2,Ph b h2⟩,⟨t3,p3,Ph b h3⟩,⟨m,(b.cell (p:=⟨0,0,none⟩) h5).trans h4⟩,CM h5 b.size⟩
theorem c7 (w:World) (ws:List Bs) (e:TypeId) (n:Nat) (hn:ws.length=n):Rd (w.alloc (.cells (strs ws).toArray e)) (some ⟨w,0,none⟩) n (strs ws):=by
 subst hn;exact(Br w e (strs ws).toArray).rd (by unfold strs;simp) (fun i _=>by simp)
theorem QF (s:Bs) (c:UInt8) (w:World) (hs:s.length≤1048576) (T:Dq w):
  Calls prog 90 #[.string ⟨s.toArray⟩,.string ⟨#[c]⟩] w fun e w'=>e=.returned (.slice (some ⟨w,0,none⟩) (splitC c s).length (splitC c s).length)∧Rd w' (some ⟨w,0,none⟩) (splitC c s).length (strs (splitC c s))∧Below w w w':=by
 obtain⟨m,hm⟩:=T.mx;have hc:Lib.countB ⟨s.toArray⟩ ⟨[c].toArray⟩+1=(splitC c s).length:=Zf c s
 have hd:(Lib.splitB ⟨[c].toArray⟩ 0 (Lib.countB ⟨s.toArray⟩ ⟨[c].toArray⟩) ⟨s.toArray⟩).map (·.data.toList)=splitC c s:=by
  rw[Lib.splitB_data];exact aD c s
 have hv:(Lib.splitB ⟨[c].toArray⟩ 0 (Lib.countB ⟨s.toArray⟩ ⟨[c].toArray⟩) ⟨s.toArray⟩).map Value.string=strs (splitC c s):=by
  rw[←hd];unfold strs;rw[List.map_map];exact List.map_congr_left fun x _=>AN Value.string (Sa x).symm
 have h:=P9 ⟨s.toArray⟩ ⟨[c].toArray⟩ m w (by rw[Bj];omega) hm (Cp 1)
 rw[hc,hv] at h;refine h.mono ?_;rintro e w' ⟨rfl,rfl⟩;exact⟨rfl,c7 w _ _ _ rfl,(AP _ _).alloc Bk _⟩
theorem FX (s:Bs) (w:World) (hs:s.length≤1048576) (T:Dq w):
  Calls prog 118 #[.string ⟨s.toArray⟩] w fun e w'=> ∃m:Int,e=.returned (.tuple (Ly m (rdB s)))∧(rdB s=true→m=rdN s)∧Below w w w':=by
 have hz:=Bj s;have hbd:=fa s;rcases hp:Lib.parseIntB 64 s with v|_|_
 ·have hv:rdN s=v:=by unfold rdN;rw[hp]
  rw[hv] at hbd;have HB:Hid (rdB s=decide (Lib.itoa v=s)):=by unfold Hid rdB;rw[hp]
  have HV:=Ai hv;have hc:=FG ⟨s.toArray⟩ (by rw[hz];omega) v hp w
  clear hv hp
  by_cases hE:Lib.itoa v=s
  ·have HT:Hid (rdB s=true):=by unfold Hid;rw[HB.out,BC hE]
   go_enter func118,ntmps118
   go_wp2_with fail
   refine hc.mono ?_;rintro e w1 ⟨rfl,hw⟩
   have b1:Below w w w1:=by
    rcases hw with rfl|⟨t,rfl⟩
    ·exact AP _ _
    ·exact Joins.below_bytesWorld _ _ _ _ Bk
   clear hw
   go_wp2_with fail
   refine(BY v _ hbd.1 hbd.2 (T.below b1).tab).mono ?_;rintro e w2 ⟨rfl,b2⟩;rw[hE];go_wp2;refine AS (v:=.tuple (Ly v true)) (by simp[results,results118,go_sem]) rfl ?_
   rw[HT.out];exact⟨v,rfl,(fun _=>HV.out.symm),(An b1 b2)⟩
  ·have HT:Hid (rdB s=false):=by unfold Hid;rw[HB.out,BR hE]
   go_enter func118,ntmps118
   go_wp2_with fail
   refine hc.mono ?_;rintro e w1 ⟨rfl,hw⟩
   have b1:Below w w w1:=by
    rcases hw with rfl|⟨t,rfl⟩
    ·exact AP _ _
    ·exact Joins.below_bytesWorld _ _ _ _ Bk
   clear hw
   go_wp2_with fail
   refine(BY v _ hbd.1 hbd.2 (T.below b1).tab).mono ?_;rintro e w2 ⟨rfl,b2⟩;go_wp2;refine AS (v:=.tuple (Ly v false)) (by simp[results,results118,go_sem,hE]) rfl ?_
   rw[HT.out];exact⟨v,rfl,(fun h=>by cases h),(An b1 b2)⟩
 ·have HT:Hid (rdB s=false):=by unfold Hid rdB;rw[hp]
  obtain⟨tp,p,hvar⟩:=T.syn;have hc:=El ⟨s.toArray⟩ (by rw[hz];omega) hp tp p w hvar
  clear hp
  go_enter func118,ntmps118
  go_wp2_with fail
  refine hc.mono ?_;rintro e w1 ⟨N,rfl,-,-,b1⟩;go_wp2;refine AS (v:=.tuple #[ZI 0,.bool false]) (by simp[results,results118,go_sem]) rfl ?_
  rw[HT.out];exact⟨0,rfl,(fun h=>by cases h),b1⟩
 ·have HT:Hid (rdB s=false):=by unfold Hid rdB;rw[hp]
  obtain⟨tp,p,hvar⟩:=T.rng;have hc:=Es ⟨s.toArray⟩ (by rw[hz];omega) hp tp p w hvar
  clear hp;generalize Lib.intSat 64 (ByteArray.data ⟨s.toArray⟩).toList=v at hc
  go_enter func118,ntmps118
  go_wp2_with fail
  refine hc.mono ?_;rintro e w1 ⟨N,rfl,-,-,b1⟩;go_wp2;refine AS (v:=.tuple (Ly v false)) (by simp[results,results118,go_sem]) rfl ?_
  rw[HT.out];exact⟨v,rfl,(fun h=>by cases h),b1⟩
theorem SL {l:Bs} (h0: ¬l= [115,104,111,97,108,101,115,116]) (h1: ¬l= [108,111,103]) (h2: ¬l= [99,104,101,99,107]) (h3: ¬l= [115,111,117,114,99,101]) (h4: ¬l= [109,97,114,107]) (h5: ¬l= [116,114,97,99,101]) (h6: ¬l= [108,101,118,101,108]) (h7: ¬l= [114,97,121]) (h8: ¬l= [99,108,101,97,110]) (h9: ¬l= [103,114,105,100]) (h10: ¬l= [99,104,97,110,99,101]) (h11: ¬l= [112,108,97,110]) (h12: ¬l= [115,111,117,110,100]) (h13: ¬l= [109,101,101,116]):arI l= -1:=by
 simp[arI,AQ,CX,BE,AM,Bo,By,AW,Ca,Bw,Ci,Bi,Ck,AX,Cj,h0,h1,h2,h3,h4,h5,h6,h7,h8,h9,h10,h11,h12,h13]
theorem Xt (l:Bs) (w:World):
  (YC 92 #[.string ⟨l.toArray⟩] w (ZI (arI l)):Prop):=by
 by_cases h0:l= [115,104,111,97,108,101,115,116]
 ·have HA:Hid (arI [115,104,111,97,108,101,115,116]=0):=BM;subst h0
  go_enter func92,ntmps92
  go_wp2_with fail
  go_ret;rw[HA.out];exact⟨rfl,rfl⟩
 by_cases h1:l= [108,111,103]
 ·have HA:Hid (arI [108,111,103]=0):=BM;subst h1;clear h0
  go_enter func92,ntmps92
  go_wp2_with fail
  go_ret;rw[HA.out];exact⟨rfl,rfl⟩
 by_cases h2:l= [99,104,101,99,107]
 ·have HA:Hid (arI [99,104,101,99,107]=0):=BM;subst h2;clear h0 h1
  go_enter func92,ntmps92
  go_wp2_with fail
  go_ret;rw[HA.out];exact⟨rfl,rfl⟩
 by_cases h3:l= [115,111,117,114,99,101]
 ·have HA:Hid (arI [115,111,117,114,99,101]=1):=BM;subst h3;clear h0 h1 h2
  go_enter func92,ntmps92
  go_wp2_with fail
  go_ret;rw[HA.out];exact⟨rfl,rfl⟩
 by_cases h4:l= [109,97,114,107]
 ·have HA:Hid (arI [109,97,114,107]=1):=BM;subst h4;clear h0 h1 h2 h3
  go_enter func92,ntmps92
  go_wp2_with fail
  go_ret;rw[HA.out];exact⟨rfl,rfl⟩
 by_cases h5:l= [116,114,97,99,101]
 ·have HA:Hid (arI [116,114,97,99,101]=1):=BM;subst h5;clear h0 h1 h2 h3 h4
  go_enter func92,ntmps92
  go_wp2_with fail
  go_ret;rw[HA.out];exact⟨rfl,rfl⟩
 by_cases h6:l= [108,101,118,101,108]
 ·have HA:Hid (arI [108,101,118,101,108]=2):=BM;subst h6;clear h0 h1 h2 h3 h4 h5
  go_enter func92,ntmps92
  go_wp2_with fail
  go_ret;rw[HA.out];exact⟨rfl,rfl⟩
 by_cases h7:l= [114,97,121]
 ·have HA:Hid (arI [114,97,121]=3):=BM;subst h7;clear h0 h1 h2 h3 h4 h5 h6
  go_enter func92,ntmps92
  go_wp2_with fail
  go_ret;rw[HA.out];exact⟨rfl,rfl⟩
 by_cases h8:l= [99,108,101,97,110]
 ·have HA:Hid (arI [99,108,101,97,110]=3):=BM;subst h8;clear h0 h1 h2 h3 h4 h5 h6 h7
  go_enter func92,ntmps92
  go_wp2_with fail
  go_ret;rw[HA.out];exact⟨rfl,rfl⟩
 by_cases h9:l= [103,114,105,100]
 ·have HA:Hid (arI [103,114,105,100]=3):=BM;subst h9;clear h0 h1 h2 h3 h4 h5 h6 h7 h8
  go_enter func92,ntmps92
  go_wp2_with fail
  go_ret;rw[HA.out];exact⟨rfl,rfl⟩
 by_cases h10:l= [99,104,97,110,99,101]
 ·have HA:Hid (arI [99,104,97,110,99,101]=3):=BM;subst h10;clear h0 h1 h2 h3 h4 h5 h6 h7 h8 h9
  go_enter func92,ntmps92
  go_wp2_with fail
  go_ret;rw[HA.out];exact⟨rfl,rfl⟩
 by_cases h11:l= [112,108,97,110]
 ·have HA:Hid (arI [112,108,97,110]=3):=BM;subst h11;clear h0 h1 h2 h3 h4 h5 h6 h7 h8 h9 h10
  go_enter func92,ntmps92
  go_wp2_with fail
  go_ret;rw[HA.out];exact⟨rfl,rfl⟩
 by_cases h12:l= [115,111,117,110,100]
 ·have HA:Hid (arI [115,111,117,110,100]=5):=BM;subst h12;clear h0 h1 h2 h3 h4 h5 h6 h7 h8 h9 h10 h11
  go_enter func92,ntmps92
  go_wp2_with fail
  go_ret;rw[HA.out];exact⟨rfl,rfl⟩
 by_cases h13:l= [109,101,101,116]
 ·have HA:Hid (arI [109,101,101,116]=6):=BM;subst h13;clear h0 h1 h2 h3 h4 h5 h6 h7 h8 h9 h10 h11 h12
  go_enter func92,ntmps92
  go_wp2_with fail
  go_ret;rw[HA.out];exact⟨rfl,rfl⟩
 have HA:=Ai (SL h0 h1 h2 h3 h4 h5 h6 h7 h8 h9 h10 h11 h12 h13);have e0:(l== [115,104,111,97,108,101,115,116])=false:=by simpa using h0
 have e1:(l== [108,111,103])=false:=by simpa using h1
 have e2:(l== [99,104,101,99,107])=false:=by simpa using h2
 have e3:(l== [115,111,117,114,99,101])=false:=by simpa using h3
 have e4:(l== [109,97,114,107])=false:=by simpa using h4
 have e5:(l== [116,114,97,99,101])=false:=by simpa using h5
 have e6:(l== [108,101,118,101,108])=false:=by simpa using h6
 have e7:(l== [114,97,121])=false:=by simpa using h7
 have e8:(l== [99,108,101,97,110])=false:=by simpa using h8
 have e9:(l== [103,114,105,100])=false:=by simpa using h9
 have e10:(l== [99,104,97,110,99,101])=false:=by simpa using h10
 have e11:(l== [112,108,97,110])=false:=by simpa using h11
 have e12:(l== [115,111,117,110,100])=false:=by simpa using h12
 have e13:(l== [109,101,101,116])=false:=by simpa using h13
 go_enter func92,ntmps92
 go_wp2_with fail
 go_ret;rw[HA.out];exact⟨rfl,rfl⟩
theorem RH (l:Bs) (w:World):
  (YC 94 #[.string ⟨l.toArray⟩] w (ZI (arI l)):Prop):=by
 by_cases h0:l= [115,104,111,97,108,101,115,116]
 ·have HA:Hid (arI [115,104,111,97,108,101,115,116]=0):=BM;subst h0
  go_enter func94,ntmps94
  go_wp2_with fail
  go_ret;rw[HA.out];exact⟨rfl,rfl⟩
 by_cases h1:l= [108,111,103]
 ·have HA:Hid (arI [108,111,103]=0):=BM;subst h1;clear h0
  go_enter func94,ntmps94
  go_wp2_with fail
  go_ret;rw[HA.out];exact⟨rfl,rfl⟩
 by_cases h2:l= [99,104,101,99,107]
 ·have HA:Hid (arI [99,104,101,99,107]=0):=BM;subst h2;clear h0 h1
  go_enter func94,ntmps94
  go_wp2_with fail
  go_ret;rw[HA.out];exact⟨rfl,rfl⟩
 by_cases h3:l= [115,111,117,114,99,101]
 ·have HA:Hid (arI [115,111,117,114,99,101]=1):=BM;subst h3;clear h0 h1 h2
  go_enter func94,ntmps94
  go_wp2_with fail
  go_ret;rw[HA.out];exact⟨rfl,rfl⟩
 by_cases h4:l= [109,97,114,107]
 ·have HA:Hid (arI [109,97,114,107]=1):=BM;subst h4;clear h0 h1 h2 h3
  go_enter func94,ntmps94
  go_wp2_with fail
  go_ret;rw[HA.out];exact⟨rfl,rfl⟩
 by_cases h5:l= [116,114,97,99,101]
 ·have HA:Hid (arI [116,114,97,99,101]=1):=BM;subst h5;clear h0 h1 h2 h3 h4
  go_enter func94,ntmps94
  go_wp2_with fail
  go_ret;rw[HA.out];exact⟨rfl,rfl⟩
 by_cases h6:l= [108,101,118,101,108]
 ·have HA:Hid (arI [108,101,118,101,108]=2):=BM;subst h6;clear h0 h1 h2 h3 h4 h5
  go_enter func94,ntmps94
  go_wp2_with fail
  go_ret;rw[HA.out];exact⟨rfl,rfl⟩
 by_cases h7:l= [114,97,121]
 ·have HA:Hid (arI [114,97,121]=3):=BM;subst h7;clear h0 h1 h2 h3 h4 h5 h6
  go_enter func94,ntmps94
  go_wp2_with fail
  go_ret;rw[HA.out];exact⟨rfl,rfl⟩
 by_cases h8:l= [99,108,101,97,110]
 ·have HA:Hid (arI [99,108,101,97,110]=3):=BM;subst h8;clear h0 h1 h2 h3 h4 h5 h6 h7
  go_enter func94,ntmps94
  go_wp2_with fail
  go_ret;rw[HA.out];exact⟨rfl,rfl⟩
 by_cases h9:l= [103,114,105,100]
 ·have HA:Hid (arI [103,114,105,100]=3):=BM;subst h9;clear h0 h1 h2 h3 h4 h5 h6 h7 h8
  go_enter func94,ntmps94
  go_wp2_with fail
  go_ret;rw[HA.out];exact⟨rfl,rfl⟩
 by_cases h10:l= [99,104,97,110,99,101]
 ·have HA:Hid (arI [99,104,97,110,99,101]=3):=BM;subst h10;clear h0 h1 h2 h3 h4 h5 h6 h7 h8 h9
  go_enter func94,ntmps94
  go_wp2_with fail
  go_ret;rw[HA.out];exact⟨rfl,rfl⟩
 by_cases h11:l= [112,108,97,110]
 ·have HA:Hid (arI [112,108,97,110]=3):=BM;subst h11;clear h0 h1 h2 h3 h4 h5 h6 h7 h8 h9 h10
  go_enter func94,ntmps94
  go_wp2_with fail
  go_ret;rw[HA.out];exact⟨rfl,rfl⟩
 by_cases h12:l= [115,111,117,110,100]
 ·have HA:Hid (arI [115,111,117,110,100]=5):=BM;subst h12;clear h0 h1 h2 h3 h4 h5 h6 h7 h8 h9 h10 h11
  go_enter func94,ntmps94
  go_wp2_with fail
  go_ret;rw[HA.out];exact⟨rfl,rfl⟩
 by_cases h13:l= [109,101,101,116]
 ·have HA:Hid (arI [109,101,101,116]=6):=BM;subst h13;clear h0 h1 h2 h3 h4 h5 h6 h7 h8 h9 h10 h11 h12
  go_enter func94,ntmps94
  go_wp2_with fail
  go_ret;rw[HA.out];exact⟨rfl,rfl⟩
 have HA:=Ai (SL h0 h1 h2 h3 h4 h5 h6 h7 h8 h9 h10 h11 h12 h13);have e0:(l== [115,104,111,97,108,101,115,116])=false:=by simpa using h0
 have e1:(l== [108,111,103])=false:=by simpa using h1
 have e2:(l== [99,104,101,99,107])=false:=by simpa using h2
 have e3:(l== [115,111,117,114,99,101])=false:=by simpa using h3
 have e4:(l== [109,97,114,107])=false:=by simpa using h4
 have e5:(l== [116,114,97,99,101])=false:=by simpa using h5
 have e6:(l== [108,101,118,101,108])=false:=by simpa using h6
 have e7:(l== [114,97,121])=false:=by simpa using h7
 have e8:(l== [99,108,101,97,110])=false:=by simpa using h8
 have e9:(l== [103,114,105,100])=false:=by simpa using h9
 have e10:(l== [99,104,97,110,99,101])=false:=by simpa using h10
 have e11:(l== [112,108,97,110])=false:=by simpa using h11
 have e12:(l== [115,111,117,110,100])=false:=by simpa using h12
 have e13:(l== [109,101,101,116])=false:=by simpa using h13
 go_enter func94,ntmps94
 go_wp2_with fail
 go_ret;rw[HA.out];exact⟨rfl,rfl⟩
theorem MG (s:Bs) (w:World) (hs:s.length≤1048576) (T:Dq w):
  Calls prog 91 #[.string ⟨s.toArray⟩] w fun e w'=> ∃m:Int,e=.returned (.tuple (Ly m (Xz s)))∧(Xz s=true→m=rdN s)∧Below w w w':=by
 have hv:=FX s w hs T;have ht:=JM ⟨s.toArray⟩ ⟨#[45]⟩;have hd:(⟨s.toArray⟩:ByteArray).data.toList=s:=Lp s;rw[hd] at ht;have ht': ∀w,Calls prog 119 #[.string ⟨s.toArray⟩,.string ⟨#[45]⟩] w fun e w'=>e=.returned (.string ⟨(Lib.trimPrefix s [45]).toArray⟩)∧w'=w:=ht;clear ht hd;have HB:Hid (Xz s=(rdB s && decide ((Lib.trimPrefix s [45]).length≤12))):=rfl;generalize Lib.trimPrefix s [45]=t at*;have hz:=Bj t;rcases BA (rdB s) with hb|hb
 ·rw[hb] at hv
  by_cases h12:(t.length:Int)≤12
  ·have HT:Hid (Xz s=true):=by unfold Hid;rw[HB.out,hb,BC Aa];rfl
   clear hb
   go_enter func91,ntmps91
   go_wp2_with fail
   refine hv.mono ?_;rintro e w1 ⟨m,rfl,hm,b1⟩;obtain rfl:m=rdN s:=hm (by trivial)
   clear hm;obtain⟨m,hmm⟩: ∃m,rdN s=m:=⟨_,rfl⟩;rw[hmm];have HM:=Ai hmm;clear hmm
   go_wp2_with fail
   refine(ht' _).mono ?_;rintro e w2 ⟨rfl,rfl⟩;go_wp2;refine AS (v:=.tuple (Ly m true)) (by simp[results,results91,go_sem]) rfl ?_
   rw[HT.out];exact⟨m,rfl,(fun _=>HM.out.symm),b1⟩
  ·have HT:Hid (Xz s=false):=by unfold Hid;rw[HB.out,hb,BR Aa];rfl
   clear hb
   go_enter func91,ntmps91
   go_wp2_with fail
   refine hv.mono ?_;rintro e w1 ⟨m,rfl,hm,b1⟩;obtain rfl:m=rdN s:=hm (by trivial)
   clear hm;obtain⟨m,hmm⟩: ∃m,rdN s=m:=⟨_,rfl⟩;rw[hmm];clear hmm
   go_wp2_with fail
   refine(ht' _).mono ?_;rintro e w2 ⟨rfl,rfl⟩;go_wp2;refine AS (v:=.tuple (Ly m false)) (by simp[results,results91,go_sem]<;>omega) rfl ?_
   rw[HT.out];exact⟨m,rfl,(fun h=>by cases h),b1⟩
 ·have HT:Hid (Xz s=false):=by unfold Hid;rw[HB.out,hb];rfl
  rw[hb] at hv;clear hb
  go_enter func91,ntmps91
  go_wp2_with fail
  refine hv.mono ?_;rintro e w1 ⟨m,rfl,hm,b1⟩;go_wp2;refine AS (v:=.tuple (Ly m false)) (by simp[results,results91,go_sem]) rfl ?_
  rw[HT.out];exact⟨m,rfl,(fun h=>by cases h),b1⟩
theorem NF (s:Bs) (w:World) (hs:s.length≤1048576) (T:Dq w):
  Calls prog 91 #[.string ⟨s.toArray⟩] w fun e w'=> ∃m:Int,e=.returned (.tuple (Ly m (MX s)))∧(MX s=true→m=sgN s)∧Below w w w':=by
 refine(MG s w hs T).mono ?_;rintro e w' ⟨m,h,hm,b⟩;have k:=fv s;rw[k.1] at h;exact⟨m,h,(fun e=>by rw[←k.1] at e;rw[hm e,k.2 e]),b⟩
theorem S3 {s:Bs} {ws:List Bs} (hw:splitC 32 s=ws) (h:ws.getD 0 []= [112,114,111,102,105,108,101]):cmH s= [112,114,111,102,105,108,101]∧Dm s=(decide (ws.length=2) && !(ws.getD 1 []).isEmpty)∧Co s= []:=by
 subst hw;exact⟨h,(J1 h).1,(J1 h).2⟩
theorem Qi {s:Bs} {ws:List Bs} (hw:splitC 32 s=ws) (h: ¬ws.getD 0 []= [112,114,111,102,105,108,101]):cmH s=ws.getD 0 []∧Dm s=(C7 (ws.drop 1) && decide (arI (ws.getD 0 [])=((ws.drop 1).length:Int)))∧Co s=(ws.drop 1).map sgN:=by
 subst hw;exact⟨rfl,(LF h).1,(LF h).2⟩
def fV (s:Bs) (w:World) (e:Ending) (w':World):Prop:= ∃(u:Bs) (A:Option Addr) (n c:Nat),e=.returned (.tuple #[.string ⟨u.toArray⟩,.slice A n c,.bool (Dm s)])∧(Dm s=true→u=cmH s∧n≤c∧n=(Co s).length∧Rd w' A n (ints (Co s)))∧Below w w w'
theorem Ur {w:World} {A X:Option Addr} {n c:Nat} {us:List Value} (r:Rd w A n us) (hn:1≤n) (hc:n≤c) (hX:(if c=1 then A else A.map (fun x=>⟨x.block,x.off+1,none⟩))=X):Rd w X (n-1) (us.drop 1):=by
 subst hX;have hl:=r.1;refine⟨by simp;omega,fun hn=> ?_⟩
 obtain⟨ad,rfl,hc⟩:=r.2 Aa;refine⟨ad.add 1,by rw[Ak Aa];rfl,fun i hi=> ?_⟩
 rw[Bv,hc _ Aa,List.getElem?_drop]
def fm (s:Bs) (w:World) (e:Ending) (w':World):Prop:= ∃(u:Bs) (A:Option Addr) (n c:Nat),e=.returned (.tuple #[.string ⟨u.toArray⟩,.slice A n c,.bool (Dm s)])∧(Dm s=true→u=cmH s∧n≤c∧n=(Co s).length∧Rd w' A n (ints (Co s))∧ ∀ad,A=some ad→0<n→w≤ad.block)∧Below w w w'
theorem Iq (s:Bs) (w:World) (hs:s.length≤1048576) (T:Dq w):
  Calls prog 57 #[.string ⟨s.toArray⟩] w (fm s w):=by
 have hsp:=QF s 32 w hs T;have hlen:=D8 32 s;have hpc:=DB 32 s;have hne:=CT 32 s;obtain⟨ws,hw⟩: ∃ws,splitC 32 s=ws:=⟨_,rfl⟩;have HCP:=Ai (@S3 s ws hw);have HCO:=Ai (@Qi s ws hw);rw[hw] at hsp hlen hpc hne;clear hw;obtain⟨n,hn⟩: ∃n,ws.length=n:=⟨_,rfl⟩
 have hn1:1≤n:=by
  rcases ws with _|⟨a,r⟩
  ·exact absurd rfl hne
  ·rw[←hn];simp
 rw[hn] at hsp hlen;have HP:=Ai hpc;have HN:=Ai hn;clear hpc hn hne;have hn1I:(0:Int)<(n:Int):=Aa
 go_enter func57,ntmps57
 go_wp2_with fail
 refine hsp.mono ?_;rintro e w1 ⟨rfl,hr,b1⟩;have T1:=T.below b1;have hb1s:=b1.size;clear hsp;obtain⟨g0,hg⟩: ∃g,w.heap.size=g:=⟨_,rfl⟩;rw[hg] at hr b1 hb1s⊢;have HG:=Ai hg;clear hg;obtain⟨ad0,hA0,hx0⟩:=hr.str (k:=0) Aa
 cases hA0
 rw[CE] at hx0
 by_cases hp:ws.getD 0 []= [112,114,111,102,105,108,101]
 ·have HR:=Ai (HCP.out hp);clear HCP HCO;rw[hp] at hx0;clear hp
  by_cases h2:n=2
  ·subst h2;obtain⟨ad1,hA1,hx1⟩:=hr.str (k:=1) Aa
   cases hA1
   rw[CE] at hx1
   by_cases hE:ws.getD 1 []= []
   ·have HB:Hid (Dm s=false):=by unfold Hid;rw[HR.out.2.1,hE];simp
    rw[hE] at hx1;clear hE
    go_wp2_with fail
    go_quiet (fail)
    go_wp2;refine AS (v:=.tuple #[.string ⟨#[112,114,111,102,105,108,101]⟩,.slice none 0 0,.bool false]) (by simp[results,results57,go_sem]) rfl ?_
    exact⟨[112,114,111,102,105,108,101],none,0,0,by rw[HB.out],(fun h=>by rw[HB.out] at h;cases h),by rw[HG.out];exact Ba b1 _⟩
   ·have HB:Hid (Dm s=true):=by unfold Hid;rw[HR.out.2.1,HN.out];simpa using hE
    have hE2:(ws.getD 1 []).isEmpty=false:=by simpa using hE
    generalize ws.getD 1 []=x at*
    go_wp2_with fail
    go_quiet (fail)
    go_wp2;refine AS (v:=.tuple #[.string ⟨#[112,114,111,102,105,108,101]⟩,.slice none 0 0,.bool true]) (by simp[results,results57,go_sem]) rfl ?_
    exact⟨[112,114,111,102,105,108,101],none,0,0,by rw[HB.out],(fun _=>⟨HR.out.1.symm,Cp _,by rw[HR.out.2.2];rfl,by rw[HR.out.2.2];exact Rd.nil _ _,(fun _ e=>by cases e)⟩),by rw[HG.out];exact Ba b1 _⟩
  ·have HB:Hid (Dm s=false):=by unfold Hid;rw[HR.out.2.1,HN.out,BR h2];rfl
   have h2I: ¬(n:Int)=2:=Aa;have h2b:((n:Int)==2)=false:=by rw[Ea];exact h2I
   go_wp2_with fail
   go_quiet (fail)
   go_wp2;refine AS (v:=.tuple #[.string ⟨#[112,114,111,102,105,108,101]⟩,.slice none 0 0,.bool false]) (by simp[results,results57,go_sem]) rfl ?_
   exact⟨[112,114,111,102,105,108,101],none,0,0,by rw[HB.out],(fun h=>by rw[HB.out] at h;cases h),by rw[HG.out];exact Ba b1 _⟩
 have HR:=Ai (HCO.out hp);have hpB:(ws.getD 0 []== [112,114,111,102,105,108,101])=false:=by simpa using hp
 clear HCP HCO;obtain⟨X,hX⟩: ∃X,(if n=1 then some (⟨g0,0,none⟩:Addr) else(some (⟨g0,0,none⟩:Addr)).map (fun x=>⟨x.block,x.off+1,none⟩))=X:=⟨_,rfl⟩;have hr1:=Ur hr hn1 Bk hX;simp only[Option.map] at hX;have HP1:Hid (∀x∈ws.drop 1,x.length≤s.length):=fun x hx=>HP.out x (List.mem_of_mem_drop hx);have hds:(strs ws).drop 1=strs (ws.drop 1):=by unfold strs;rw[List.map_drop]
 rw[hds] at hr1;have HN1:Hid ((ws.drop 1).length=n-1):=by unfold Hid;rw[JW,HN.out]
 have hgl:g0<w1:=hr.lt rfl Aa;clear hds HP HN hr;generalize ws.drop 1=ts at*;generalize ws.getD 0 []=hdw at*;have hi1:(1:Int)≤(n:Int):=Aa;have hnI:((n-1:Nat):Int)=(n:Int)-1:=Aa
 go_wp2_with fail
 go_loopw [6,32] (fun v i wr=> ∃k:Nat,k≤n-1∧i=.int .i64 k∧C7 (ts.take k)=true∧wr.ownsRow w1.heap.size 2 1 v k (ints ((ts.take k).map sgN))∧Below w1 w1 wr) (fun _ i _=>n-(intOf i).toNat)
 case atStart=>exact⟨0,AZ _,rfl,rfl,World.ownsRow_nil _ _ _ _,AP _ _⟩
 case round=>
  obtain⟨k,hk,rfl,ha,hown,b⟩:=hrel;have hbs:=b.size
  by_cases hlt:k<n-1
  ·have hk0:(0:Int)≤(k:Int):=Aa;obtain⟨ad,rfl,hx⟩:=(hr1.below b).str hlt;have hkl:k<ts.length:=by have:=HN1.out;omega
   have hge:ts.getD k []=ts[k]:=by rw[DE,Db hkl];rfl
   have hm:=HP1.out (ts.getD k []) (by rw[hge];exact EH hkl)
   have HA:Hid (C7 (ts.take (k+1))=MX (ts.getD k [])):=by
    unfold Hid C7 at*;rw[List.take_succ_eq_append_getElem hkl,List.all_append,ha,hge]
    simp
   have HM:Hid ((ts.take (k+1)).map sgN=(ts.take k).map sgN++ [sgN (ts.getD k [])]):=by
    unfold Hid;rw[List.take_succ_eq_append_getElem hkl,List.map_append,hge]
    rfl
   have HF:Hid (MX (ts.getD k [])=false→C7 ts=false):=fun h=>by
    unfold C7;rw[JV];intro c;have:=List.all_eq_true.1 c _ (EH hkl);rw[←hge,h] at this
    cases this
   clear hge ha;generalize ts.getD k []=x at*;have hv:=NF x wr Aa (T1.below b)
   go_wp2_with fail
   refine hv.mono ?_;rintro e w2 ⟨m,rfl,hmm,b2⟩;have b3:=b.trans (b2.mono hbs);have hbs2:=b3.size;have hown1:=Ef hown b2;clear hown;rcases BA (MX x) with hb|hb
   ·have hm3:=hmm hb;have HA2:Hid (C7 (ts.take (k+1))=true):=by unfold Hid;rw[HA.out,hb]
    rw[hb];clear hmm hb hv
    go_wp2_with (at_builtin;refine Et rfl _ _ rfl w1.heap.size _ k ((ts.take k).map sgN) rfl rfl hown1 Aa hbs2 ?_;intro v' w' hown' hbel' _ _)
    go_roundw
    case rel=>exact⟨k+1,by omega,by go_num,HA2.out,by rw[HM.out];exact hown',b3.trans hbel'⟩
    case measure=>simp[intOf];omega
   ·have HF2:=Ai (HF.out hb);have HB:Hid (Dm s=false):=by unfold Hid;rw[HR.out.2.1,HF2.out];rfl
    rw[hb];clear hmm hb hv;go_wp2;refine AS (v:=.tuple #[.string ⟨#[]⟩,.slice none 0 0,.bool false]) (by simp[results,results57,go_sem]) rfl ?_
    exact⟨[],none,0,0,by rw[HB.out],(fun h=>by rw[HB.out] at h;cases h),by rw[HG.out];exact b1.trans (b3.mono hb1s)⟩
  ·obtain rfl:k=n-1:=Aa;have ht:ts.take (n-1)=ts:=ED (by have:=HN1.out;omega)
   rw[ht] at ha hown;obtain⟨B,d,rfl,hrd,hwr,hd,-⟩:=Gy hown;have hx1:=(b.cell (p:=⟨g0,0,none⟩) hgl).trans hx0;have HAR:=fun W=>Xt hdw W;have HQ:Hid (Dm s=decide (arI hdw=((n-1:Nat):Int))):=by unfold Hid;rw[HR.out.2.1,ha,HN1.out];rfl
   have HK:Hid ((ts.map sgN).length=n-1):=by unfold Hid;rw[List.length_map,HN1.out]
   have b4:=b1.trans (b.mono hb1s);generalize arI hdw=q at*
   by_cases hq:q=((n-1:Nat):Int)
   ·subst hq;have HB:Hid (Dm s=true):=by unfold Hid;rw[HQ.out];simp
    go_wp2_with fail
    go_quiet ((go_at_call 92;exact Calls.quiet_of_same (HAR _)))
    go_wp2;refine AS (v:=.tuple #[.string ⟨hdw.toArray⟩,.slice B (n-1) d,.bool true]) (by simp[results,results57,go_sem]) rfl ?_
    exact⟨hdw,B,n-1,d,by rw[HB.out],(fun _=>⟨HR.out.1.symm,hd,by rw[HR.out.2.2,HK.out],by rw[HR.out.2.2];exact Rd.drewN hrd _,(fun ad e h0=>by have:=hwr.base e h0;have:=HG.out;omega)⟩),by rw[HG.out];exact Ba b4 _⟩
   ·have HB:Hid (Dm s=false):=by unfold Hid;rw[HQ.out,BR hq]
    have hq2: ¬((n-1:Nat):Int)=q:=fun h=>hq h.symm;have hq4: ¬(n:Int)-1=q:=fun h=>hq2 Aa
    go_wp2_with fail
    go_quiet ((go_at_call 92;exact Calls.quiet_of_same (HAR _)))
    go_wp2;refine AS (v:=.tuple #[.string ⟨hdw.toArray⟩,.slice B (n-1) d,.bool false]) (by simp[results,results57,go_sem]<;>omega) rfl ?_
    exact⟨hdw,B,n-1,d,by rw[HB.out],(fun h=>by rw[HB.out] at h;cases h),by rw[HG.out];exact Ba b4 _⟩
theorem ID (s:Bs) (w:World) (hs:s.length≤1048576):
  Calls prog 60 #[.string ⟨s.toArray⟩,.int .u8 32] w fun e w'=> ∃B d,e=.returned (.slice B (splitC 32 s).length d)∧Rd w' B (splitC 32 s).length (strs (splitC 32 s))∧(splitC 32 s).length≤d∧Below w w w':=Fz ⟨s.toArray⟩ 32 w (by rw[Bj];exact hs)
theorem YR (a:Addr):a.add 0=a:=by
 obtain⟨b,o,p⟩:=a;unfold Addr.add
 split<;>simp_all
theorem Jp (s:Bs) (w:World) (hs:s.length≤1048576):
  Calls prog 58 #[.string ⟨s.toArray⟩] w (fV s w):=by
 have hsp:=ID s w hs;have hlen:=D8 32 s;have hpc:=DB 32 s;have hne:=CT 32 s;obtain⟨ws,hw⟩: ∃ws,splitC 32 s=ws:=⟨_,rfl⟩;have HCP:=Ai (@S3 s ws hw);have HCO:=Ai (@Qi s ws hw);rw[hw] at hsp hlen hpc hne;clear hw;obtain⟨n,hn⟩: ∃n,ws.length=n:=⟨_,rfl⟩
 have hn1:1≤n:=by
  rcases ws with _|⟨a,r⟩
  ·exact absurd rfl hne
  ·rw[←hn];simp
 rw[hn] at hsp hlen;have HP:=Ai hpc;have HN:=Ai hn;clear hpc hn hne;have hn1I:(0:Int)<(n:Int):=Aa
 go_enter func58,ntmps58
 go_wp2_with fail
 refine hsp.mono ?_;rintro e w1 ⟨B,d,rfl,hr,hnd,b1⟩;have hb1s:=b1.size;clear hsp;obtain⟨ad0,rfl,hx0⟩:=hr.str (k:=0) Aa;rw[YR] at hx0
 by_cases hp:ws.getD 0 []= [112,114,111,102,105,108,101]
 ·have HR:=Ai (HCP.out hp);clear HCP HCO;rw[hp] at hx0;clear hp
  by_cases h2:n=2
  ·subst h2;obtain⟨ad1,hA1,hx1⟩:=hr.str (k:=1) Aa
   cases hA1
   rw[show ad0.add 1=⟨ad0.block,ad0.off+1,none⟩ by simp[Addr.add]] at hx1
   by_cases hE:ws.getD 1 []= []
   ·have HB:Hid (Dm s=false):=by unfold Hid;rw[HR.out.2.1,hE];simp
    rw[hE] at hx1;clear hE
    go_wp2_with fail
    go_quiet (fail)
    go_wp2;refine AS (v:=.tuple #[.string ⟨#[112,114,111,102,105,108,101]⟩,.slice none 0 0,.bool false]) (by simp[results,results58,go_sem]) rfl ?_
    exact⟨[112,114,111,102,105,108,101],none,0,0,by rw[HB.out],(fun h=>by rw[HB.out] at h;cases h),Ba b1 _⟩
   ·have HB:Hid (Dm s=true):=by unfold Hid;rw[HR.out.2.1,HN.out];simpa using hE
    have hE2:(ws.getD 1 []).isEmpty=false:=by simpa using hE
    generalize ws.getD 1 []=x at*
    go_wp2_with fail
    go_quiet (fail)
    go_wp2;refine AS (v:=.tuple #[.string ⟨#[112,114,111,102,105,108,101]⟩,.slice none 0 0,.bool true]) (by simp[results,results58,go_sem]) rfl ?_
    exact⟨[112,114,111,102,105,108,101],none,0,0,by rw[HB.out],(fun _=>⟨HR.out.1.symm,Cp _,by rw[HR.out.2.2];rfl,by rw[HR.out.2.2];exact Rd.nil _ _⟩),Ba b1 _⟩
  ·have HB:Hid (Dm s=false):=by unfold Hid;rw[HR.out.2.1,HN.out,BR h2];rfl
   have h2I: ¬(n:Int)=2:=Aa;have h2b:((n:Int)==2)=false:=by rw[Ea];exact h2I
   go_wp2_with fail
   go_quiet (fail)
   go_wp2;refine AS (v:=.tuple #[.string ⟨#[112,114,111,102,105,108,101]⟩,.slice none 0 0,.bool false]) (by simp[results,results58,go_sem]) rfl ?_
   exact⟨[112,114,111,102,105,108,101],none,0,0,by rw[HB.out],(fun h=>by rw[HB.out] at h;cases h),Ba b1 _⟩
 have HR:=Ai (HCO.out hp);have hpB:(ws.getD 0 []== [112,114,111,102,105,108,101])=false:=by simpa using hp
 clear HCP HCO;obtain⟨X,hX⟩: ∃X,(if d=1 then some ad0 else(some ad0).map (fun x=>⟨x.block,x.off+1,none⟩))=X:=⟨_,rfl⟩;have hr1:=Ur hr hn1 hnd hX;simp only[Option.map] at hX;have HP1:Hid (∀x∈ws.drop 1,x.length≤1048576):=fun x hx=>Ch (HP.out x (List.mem_of_mem_drop hx)) hs;have hds:(strs ws).drop 1=strs (ws.drop 1):=by unfold strs;rw[List.map_drop]
 rw[hds] at hr1;have HN1:Hid ((ws.drop 1).length=n-1):=by unfold Hid;rw[JW,HN.out]
 have hi1:(1:Int)≤(n:Int):=Aa;clear hds HP HN;generalize ws.drop 1=ts at*;generalize ws.getD 0 []=hdw at*;have HNU:=Ai (Of X (n-1) (d-1) ts w1 Aa hr1 HP1.out)
 go_wp2_with fail
 refine HNU.out.mono ?_;rintro e w2 ⟨hcase,b2⟩;have b4:=b1.trans (b2.mono hb1s);have hx1:=(b2.cell (hr.lt rfl Aa)).trans hx0;rcases hcase with⟨ha,B2,d2,rfl,hrd,hd2⟩|⟨ha,rfl⟩
 case inr=>
  have HB:Hid (Dm s=false):=by unfold Hid;rw[HR.out.2.1,ha];rfl
  go_wp2_with fail
  go_quiet (fail)
  go_wp2;refine AS (v:=.tuple #[.string ⟨hdw.toArray⟩,.slice none 0 0,.bool false]) (by simp[results,results58,go_sem]) rfl ?_
  exact⟨hdw,none,0,0,by rw[HB.out],(fun h=>by rw[HB.out] at h;cases h),Ba b4 _⟩
 have HAR:=fun W=>RH hdw W;have HQ:Hid (Dm s=decide (arI hdw=((n-1:Nat):Int))):=by unfold Hid;rw[HR.out.2.1,ha,HN1.out];rfl
 have HK:Hid ((ts.map sgN).length=n-1):=by unfold Hid;rw[List.length_map,HN1.out]
 generalize arI hdw=q at*
 by_cases hq:q=((n-1:Nat):Int)
 ·subst hq;have HB:Hid (Dm s=true):=by unfold Hid;rw[HQ.out];simp
  go_wp2_with fail
  go_quiet ((go_at_call 94;exact Calls.quiet_of_same (HAR _)))
  go_wp2;refine AS (v:=.tuple #[.string ⟨hdw.toArray⟩,.slice B2 (n-1) d2,.bool true]) (by simp[results,results58,go_sem]) rfl ?_
  exact⟨hdw,B2,n-1,d2,by rw[HB.out],(fun _=>⟨HR.out.1.symm,hd2,by rw[HR.out.2.2,HK.out],by rw[HR.out.2.2];exact Rd.drewN hrd _⟩),Ba b4 _⟩
 ·have HB:Hid (Dm s=false):=by unfold Hid;rw[HQ.out,BR hq]
  have hq3:(q==((n-1:Nat):Int))=false:=by rw[Ea];exact hq
  go_wp2_with fail
  go_quiet ((go_at_call 94;exact Calls.quiet_of_same (HAR _)))
  go_wp2;refine AS (v:=.tuple #[.string ⟨hdw.toArray⟩,.slice B2 (n-1) d2,.bool false]) (by simp[results,results58,go_sem]<;>omega) rfl ?_
  exact⟨hdw,B2,n-1,d2,by rw[HB.out],(fun h=>by rw[HB.out] at h;cases h),Ba b4 _⟩
end Go.Proofs.YtkndcebhjcfphaaGreatDoor

import Derived.Test.YtkndcebhjcfphaaGreatDoorZAe
import Derived.Test.YtkndcebhjcfphaaGreatDoorZO
import Derived.Test.YtkndcebhjcfphaaGreatDoorZW
import Derived.Lib.SmallJoins
namespace Go.Proofs.YtkndcebhjcfphaaGreatDoor
open Go.RowKit Go.Proofs.Tryz
set_option maxRecDepth 100000
set_option maxHeartbeats 4000000
set_option linter.all false
structure Dq (w:World):Prop where
 tab:CK w
 syn: ∃tp p,w.var? prog "strconv.ErrSyntax" =some #[.iface tp p]
 rng: ∃tp p,w.var? prog "strconv.ErrRange" =some #[.iface tp p]
 mx: ∃m,w.cell? ⟨0,0,none⟩=ZS m
 pos:0<w.heap.size
theorem Dq.below {w w':World} (h:Dq w) (b:Below w w w'):Dq w':=by
 obtain⟨c,⟨t2,i,d⟩,⟨t3,j,f⟩,⟨m,g⟩,a⟩:=h;exact⟨c.below b,⟨t2,i,Ph b d⟩,⟨t3,j,Ph b f⟩,⟨m,(b.cell (p:=⟨0,0,none⟩) a).trans g⟩,CM a b.size⟩
theorem c7 (w:World) (ws:List Bs) (e:TypeId) (n:Nat) (a:ws.length=n):Rd (w.alloc (.cells (BO ws).toArray e)) (some ⟨w,0,none⟩) n (BO ws):=by
 subst a;exact(Br w e (BO ws).toArray).rd (by unfold BO;simp) (λi _=>by simp)
theorem QF (s:Bs) (c:UInt8) (w:World) (hs:s.length<=1048576) (T:Dq w):
  Calls prog 90 #[.string ⟨s.toArray⟩,.string ⟨#[c]⟩] w λe a=>e=.returned (.slice (some ⟨w,0,none⟩) (splitC c s).length (splitC c s).length)∧Rd a (some ⟨w,0,none⟩) (splitC c s).length (BO (splitC c s))∧Below w w a:=by
 obtain⟨m,f⟩:=T.mx;have b:Lib.countB ⟨s.toArray⟩ ⟨[c].toArray⟩+1=(splitC c s).length:=Zf c s
 have d:(Lib.splitB ⟨[c].toArray⟩ 0 (Lib.countB ⟨s.toArray⟩ ⟨[c].toArray⟩) ⟨s.toArray⟩).map (·.data.toList)=splitC c s:=by
  rw[Lib.splitB_data];exact aD c s
 have hv:(Lib.splitB ⟨[c].toArray⟩ 0 (Lib.countB ⟨s.toArray⟩ ⟨[c].toArray⟩) ⟨s.toArray⟩).map Value.string=BO (splitC c s):=by
  rw[<-d];unfold BO;rw[List.map_map];exact List.map_congr_left λx _=>AN Value.string (Sa x).symm
 have h:=P9 ⟨s.toArray⟩ ⟨[c].toArray⟩ m w (by rw[Bj];omega) f (Cp 1)
 rw[b,hv] at h;refine h.mono ?_;rintro e a ⟨rfl,rfl⟩;exact⟨rfl,c7 w _ _ _ rfl,(AP _ _).alloc Bk _⟩
theorem FX (s:Bs) (w:World) (hs:s.length<=1048576) (T:Dq w):
  Calls prog 118 #[.string ⟨s.toArray⟩] w λe q=> ∃m:Int,e=.returned (.tuple (Ly m (rdB s)))∧(rdB s=true->m=rdN s)∧Below w w q:=by
 have k:=Bj s;have a:=fa s;rcases hp:Lib.parseIntB 64 s with v|_|_
 ·have hv:rdN s=v:=by unfold rdN;rw[hp]
  rw[hv] at a;have n:Hid (rdB s=decide (Lib.itoa v=s)):=by unfold Hid rdB;rw[hp]
  have HV:=Ai hv;have f:=FG ⟨s.toArray⟩ (by rw[k];omega) v hp w
  clear hv hp
  by_cases i:Lib.itoa v=s
  ·have d:Hid (rdB s=true):=by unfold Hid;rw[n.out,BC i]
   go_enter func118,ntmps118
   go_wp2_with fail
   refine f.mono ?_;rintro e g ⟨rfl,hw⟩
   have c:Below w w g:=by
    rcases hw with rfl|⟨t,rfl⟩
    ·exact AP _ _
    ·exact Joins.below_bytesWorld _ _ _ _ Bk
   clear hw
   go_wp2_with fail
   refine(BY v _ a.1 a.2 (T.below c).tab).mono ?_;rintro e r ⟨rfl,j⟩;rw[i];go_wp2;refine AS (v:=.tuple (Ly v true)) (by simp[results,results118,go_sem]) rfl ?_
   rw[d.out];exact⟨v,rfl,(λ_=>HV.out.symm),(An c j)⟩
  ·have d:Hid (rdB s=false):=by unfold Hid;rw[n.out,BR i]
   go_enter func118,ntmps118
   go_wp2_with fail
   refine f.mono ?_;rintro e g ⟨rfl,hw⟩
   have c:Below w w g:=by
    rcases hw with rfl|⟨t,rfl⟩
    ·exact AP _ _
    ·exact Joins.below_bytesWorld _ _ _ _ Bk
   clear hw
   go_wp2_with fail
   refine(BY v _ a.1 a.2 (T.below c).tab).mono ?_;rintro e r ⟨rfl,j⟩;go_wp2;refine AS (v:=.tuple (Ly v false)) (by simp[results,results118,go_sem,i]) rfl ?_
   rw[d.out];exact⟨v,rfl,(λh=>by cases h),(An c j)⟩
 ·have d:Hid (rdB s=false):=by unfold Hid rdB;rw[hp]
  obtain⟨l,p,b⟩:=T.syn;have f:=El ⟨s.toArray⟩ (by rw[k];omega) hp l p w b
  clear hp
  go_enter func118,ntmps118
  go_wp2_with fail
  refine f.mono ?_;rintro e g ⟨N,rfl,-,-,c⟩;go_wp2;refine AS (v:=.tuple #[ZI 0,.bool false]) (by simp[results,results118,go_sem]) rfl ?_
  rw[d.out];exact⟨0,rfl,(λh=>by cases h),c⟩
 ·have d:Hid (rdB s=false):=by unfold Hid rdB;rw[hp]
  obtain⟨l,p,b⟩:=T.rng;have f:=Es ⟨s.toArray⟩ (by rw[k];omega) hp l p w b
  clear hp;generalize Lib.intSat 64 (ByteArray.data ⟨s.toArray⟩).toList=v at f
  go_enter func118,ntmps118
  go_wp2_with fail
  refine f.mono ?_;rintro e g ⟨N,rfl,-,-,c⟩;go_wp2;refine AS (v:=.tuple (Ly v false)) (by simp[results,results118,go_sem]) rfl ?_
  rw[d.out];exact⟨v,rfl,(λh=>by cases h),c⟩
theorem SL {l:Bs} (f: ¬l= [115,104,111,97,108,101,115,116]) (g: ¬l= [108,111,103]) (i: ¬l= [99,104,101,99,107]) (j: ¬l= [115,111,117,114,99,101]) (k: ¬l= [109,97,114,107]) (m: ¬l= [116,114,97,99,101]) (n: ¬l= [108,101,118,101,108]) (p: ¬l= [114,97,121]) (q: ¬l= [99,108,101,97,110]) (r: ¬l= [103,114,105,100]) (a: ¬l= [99,104,97,110,99,101]) (b: ¬l= [112,108,97,110]) (c: ¬l= [115,111,117,110,100]) (d: ¬l= [109,101,101,116]):arI l= -1:=by
 simp[arI,AQ,CX,BE,AM,Bo,By,AW,Ca,Bw,Ci,Bi,Ck,AX,Cj,f,g,i,j,k,m,n,p,q,r,a,b,c,d]
theorem Xt (l:Bs) (w:World):
  (YC 92 #[.string ⟨l.toArray⟩] w (ZI (arI l)):Prop):=by
 by_cases b:l= [115,104,111,97,108,101,115,116]
 ·have a:Hid (arI [115,104,111,97,108,101,115,116]=0):=BM;subst b
  go_enter func92,ntmps92
  go_wp2_with fail
  go_ret;rw[a.out];exact⟨rfl,rfl⟩
 by_cases c:l= [108,111,103]
 ·have a:Hid (arI [108,111,103]=0):=BM;subst c;clear b
  go_enter func92,ntmps92
  go_wp2_with fail
  go_ret;rw[a.out];exact⟨rfl,rfl⟩
 by_cases d:l= [99,104,101,99,107]
 ·have a:Hid (arI [99,104,101,99,107]=0):=BM;subst d;clear b c
  go_enter func92,ntmps92
  go_wp2_with fail
  go_ret;rw[a.out];exact⟨rfl,rfl⟩
 by_cases g:l= [115,111,117,114,99,101]
 ·have a:Hid (arI [115,111,117,114,99,101]=1):=BM;subst g;clear b c d
  go_enter func92,ntmps92
  go_wp2_with fail
  go_ret;rw[a.out];exact⟨rfl,rfl⟩
 by_cases i:l= [109,97,114,107]
 ·have a:Hid (arI [109,97,114,107]=1):=BM;subst i;clear b c d g
  go_enter func92,ntmps92
  go_wp2_with fail
  go_ret;rw[a.out];exact⟨rfl,rfl⟩
 by_cases k:l= [116,114,97,99,101]
 ·have a:Hid (arI [116,114,97,99,101]=1):=BM;subst k;clear b c d g i
  go_enter func92,ntmps92
  go_wp2_with fail
  go_ret;rw[a.out];exact⟨rfl,rfl⟩
 by_cases m:l= [108,101,118,101,108]
 ·have a:Hid (arI [108,101,118,101,108]=2):=BM;subst m;clear b c d g i k
  go_enter func92,ntmps92
  go_wp2_with fail
  go_ret;rw[a.out];exact⟨rfl,rfl⟩
 by_cases p:l= [114,97,121]
 ·have a:Hid (arI [114,97,121]=3):=BM;subst p;clear b c d g i k m
  go_enter func92,ntmps92
  go_wp2_with fail
  go_ret;rw[a.out];exact⟨rfl,rfl⟩
 by_cases q:l= [99,108,101,97,110]
 ·have a:Hid (arI [99,108,101,97,110]=3):=BM;subst q;clear b c d g i k m p
  go_enter func92,ntmps92
  go_wp2_with fail
  go_ret;rw[a.out];exact⟨rfl,rfl⟩
 by_cases s:l= [103,114,105,100]
 ·have a:Hid (arI [103,114,105,100]=3):=BM;subst s;clear b c d g i k m p q
  go_enter func92,ntmps92
  go_wp2_with fail
  go_ret;rw[a.out];exact⟨rfl,rfl⟩
 by_cases f:l= [99,104,97,110,99,101]
 ·have a:Hid (arI [99,104,97,110,99,101]=3):=BM;subst f;clear b c d g i k m p q s
  go_enter func92,ntmps92
  go_wp2_with fail
  go_ret;rw[a.out];exact⟨rfl,rfl⟩
 by_cases j:l= [112,108,97,110]
 ·have a:Hid (arI [112,108,97,110]=3):=BM;subst j;clear b c d g i k m p q s f
  go_enter func92,ntmps92
  go_wp2_with fail
  go_ret;rw[a.out];exact⟨rfl,rfl⟩
 by_cases n:l= [115,111,117,110,100]
 ·have a:Hid (arI [115,111,117,110,100]=5):=BM;subst n;clear b c d g i k m p q s f j
  go_enter func92,ntmps92
  go_wp2_with fail
  go_ret;rw[a.out];exact⟨rfl,rfl⟩
 by_cases r:l= [109,101,101,116]
 ·have a:Hid (arI [109,101,101,116]=6):=BM;subst r;clear b c d g i k m p q s f j n
  go_enter func92,ntmps92
  go_wp2_with fail
  go_ret;rw[a.out];exact⟨rfl,rfl⟩
 have a:=Ai (SL b c d g i k m p q s f j n r);have y:(l== [115,104,111,97,108,101,115,116])=false:=by simpa using b
 have e1:(l== [108,111,103])=false:=by simpa using c
 have e2:(l== [99,104,101,99,107])=false:=by simpa using d
 have z:(l== [115,111,117,114,99,101])=false:=by simpa using g
 have A:(l== [109,97,114,107])=false:=by simpa using i
 have B:(l== [116,114,97,99,101])=false:=by simpa using k
 have C:(l== [108,101,118,101,108])=false:=by simpa using m
 have D:(l== [114,97,121])=false:=by simpa using p
 have E:(l== [99,108,101,97,110])=false:=by simpa using q
 have F:(l== [103,114,105,100])=false:=by simpa using s
 have t:(l== [99,104,97,110,99,101])=false:=by simpa using f
 have u:(l== [112,108,97,110])=false:=by simpa using j
 have v:(l== [115,111,117,110,100])=false:=by simpa using n
 have x:(l== [109,101,101,116])=false:=by simpa using r
 go_enter func92,ntmps92
 go_wp2_with fail
 go_ret;rw[a.out];exact⟨rfl,rfl⟩
theorem RH (l:Bs) (w:World):
  (YC 94 #[.string ⟨l.toArray⟩] w (ZI (arI l)):Prop):=by
 by_cases b:l= [115,104,111,97,108,101,115,116]
 ·have a:Hid (arI [115,104,111,97,108,101,115,116]=0):=BM;subst b
  go_enter func94,ntmps94
  go_wp2_with fail
  go_ret;rw[a.out];exact⟨rfl,rfl⟩
 by_cases c:l= [108,111,103]
 ·have a:Hid (arI [108,111,103]=0):=BM;subst c;clear b
  go_enter func94,ntmps94
  go_wp2_with fail
  go_ret;rw[a.out];exact⟨rfl,rfl⟩
 by_cases d:l= [99,104,101,99,107]
 ·have a:Hid (arI [99,104,101,99,107]=0):=BM;subst d;clear b c
  go_enter func94,ntmps94
  go_wp2_with fail
  go_ret;rw[a.out];exact⟨rfl,rfl⟩
 by_cases g:l= [115,111,117,114,99,101]
 ·have a:Hid (arI [115,111,117,114,99,101]=1):=BM;subst g;clear b c d
  go_enter func94,ntmps94
  go_wp2_with fail
  go_ret;rw[a.out];exact⟨rfl,rfl⟩
 by_cases i:l= [109,97,114,107]
 ·have a:Hid (arI [109,97,114,107]=1):=BM;subst i;clear b c d g
  go_enter func94,ntmps94
  go_wp2_with fail
  go_ret;rw[a.out];exact⟨rfl,rfl⟩
 by_cases k:l= [116,114,97,99,101]
 ·have a:Hid (arI [116,114,97,99,101]=1):=BM;subst k;clear b c d g i
  go_enter func94,ntmps94
  go_wp2_with fail
  go_ret;rw[a.out];exact⟨rfl,rfl⟩
 by_cases m:l= [108,101,118,101,108]
 ·have a:Hid (arI [108,101,118,101,108]=2):=BM;subst m;clear b c d g i k
  go_enter func94,ntmps94
  go_wp2_with fail
  go_ret;rw[a.out];exact⟨rfl,rfl⟩
 by_cases p:l= [114,97,121]
 ·have a:Hid (arI [114,97,121]=3):=BM;subst p;clear b c d g i k m
  go_enter func94,ntmps94
  go_wp2_with fail
  go_ret;rw[a.out];exact⟨rfl,rfl⟩
 by_cases q:l= [99,108,101,97,110]
 ·have a:Hid (arI [99,108,101,97,110]=3):=BM;subst q;clear b c d g i k m p
  go_enter func94,ntmps94
  go_wp2_with fail
  go_ret;rw[a.out];exact⟨rfl,rfl⟩
 by_cases s:l= [103,114,105,100]
 ·have a:Hid (arI [103,114,105,100]=3):=BM;subst s;clear b c d g i k m p q
  go_enter func94,ntmps94
  go_wp2_with fail
  go_ret;rw[a.out];exact⟨rfl,rfl⟩
 by_cases f:l= [99,104,97,110,99,101]
 ·have a:Hid (arI [99,104,97,110,99,101]=3):=BM;subst f;clear b c d g i k m p q s
  go_enter func94,ntmps94
  go_wp2_with fail
  go_ret;rw[a.out];exact⟨rfl,rfl⟩
 by_cases j:l= [112,108,97,110]
 ·have a:Hid (arI [112,108,97,110]=3):=BM;subst j;clear b c d g i k m p q s f
  go_enter func94,ntmps94
  go_wp2_with fail
  go_ret;rw[a.out];exact⟨rfl,rfl⟩
 by_cases n:l= [115,111,117,110,100]
 ·have a:Hid (arI [115,111,117,110,100]=5):=BM;subst n;clear b c d g i k m p q s f j
  go_enter func94,ntmps94
  go_wp2_with fail
  go_ret;rw[a.out];exact⟨rfl,rfl⟩
 by_cases r:l= [109,101,101,116]
 ·have a:Hid (arI [109,101,101,116]=6):=BM;subst r;clear b c d g i k m p q s f j n
  go_enter func94,ntmps94
  go_wp2_with fail
  go_ret;rw[a.out];exact⟨rfl,rfl⟩
 have a:=Ai (SL b c d g i k m p q s f j n r);have y:(l== [115,104,111,97,108,101,115,116])=false:=by simpa using b
 have e1:(l== [108,111,103])=false:=by simpa using c
 have e2:(l== [99,104,101,99,107])=false:=by simpa using d
 have z:(l== [115,111,117,114,99,101])=false:=by simpa using g
 have A:(l== [109,97,114,107])=false:=by simpa using i
 have B:(l== [116,114,97,99,101])=false:=by simpa using k
 have C:(l== [108,101,118,101,108])=false:=by simpa using m
 have D:(l== [114,97,121])=false:=by simpa using p
 have E:(l== [99,108,101,97,110])=false:=by simpa using q
 have F:(l== [103,114,105,100])=false:=by simpa using s
 have t:(l== [99,104,97,110,99,101])=false:=by simpa using f
 have u:(l== [112,108,97,110])=false:=by simpa using j
 have v:(l== [115,111,117,110,100])=false:=by simpa using n
 have x:(l== [109,101,101,116])=false:=by simpa using r
 go_enter func94,ntmps94
 go_wp2_with fail
 go_ret;rw[a.out];exact⟨rfl,rfl⟩
theorem MG (s:Bs) (w:World) (hs:s.length<=1048576) (T:Dq w):
  Calls prog 91 #[.string ⟨s.toArray⟩] w λe j=> ∃m:Int,e=.returned (.tuple (Ly m (Xz s)))∧(Xz s=true->m=rdN s)∧Below w w j:=by
 have hv:=FX s w hs T;have i:=JM ⟨s.toArray⟩ ⟨#[45]⟩;have k:(⟨s.toArray⟩:ByteArray).data.toList=s:=Lp s;rw[k] at i;have f: ∀w,Calls prog 119 #[.string ⟨s.toArray⟩,.string ⟨#[45]⟩] w λe j=>e=.returned (.string ⟨(Lib.trimPrefix s [45]).toArray⟩)∧j=w:=i;clear i k;have g:Hid (Xz s=(rdB s && decide ((Lib.trimPrefix s [45]).length<=12))):=rfl;generalize Lib.trimPrefix s [45]=t at*;have r:=Bj t;rcases jt (rdB s) with hb|hb
 ·rw[hb] at hv
  by_cases p:(t.length:Int)<=12
  ·have c:Hid (Xz s=true):=by unfold Hid;rw[g.out,hb,BC Aa];rfl
   clear hb
   go_enter func91,ntmps91
   go_wp2_with fail
   refine hv.mono ?_;rintro e l ⟨m,rfl,b,d⟩;obtain rfl:m=rdN s:=b (by trivial)
   clear b;obtain⟨m,a⟩: ∃m,rdN s=m:=⟨_,rfl⟩;rw[a];have n:=Ai a;clear a
   go_wp2_with fail
   refine(f _).mono ?_;rintro e q ⟨rfl,rfl⟩;go_wp2;refine AS (v:=.tuple (Ly m true)) (by simp[results,results91,go_sem]) rfl ?_
   rw[c.out];exact⟨m,rfl,(λ_=>n.out.symm),d⟩
  ·have c:Hid (Xz s=false):=by unfold Hid;rw[g.out,hb,BR Aa];rfl
   clear hb
   go_enter func91,ntmps91
   go_wp2_with fail
   refine hv.mono ?_;rintro e l ⟨m,rfl,b,d⟩;obtain rfl:m=rdN s:=b (by trivial)
   clear b;obtain⟨m,a⟩: ∃m,rdN s=m:=⟨_,rfl⟩;rw[a];clear a
   go_wp2_with fail
   refine(f _).mono ?_;rintro e q ⟨rfl,rfl⟩;go_wp2;refine AS (v:=.tuple (Ly m false)) (by simp[results,results91,go_sem]<;>omega) rfl ?_
   rw[c.out];exact⟨m,rfl,(λh=>by cases h),d⟩
 ·have c:Hid (Xz s=false):=by unfold Hid;rw[g.out,hb];rfl
  rw[hb] at hv;clear hb
  go_enter func91,ntmps91
  go_wp2_with fail
  refine hv.mono ?_;rintro e l ⟨m,rfl,b,d⟩;go_wp2;refine AS (v:=.tuple (Ly m false)) (by simp[results,results91,go_sem]) rfl ?_
  rw[c.out];exact⟨m,rfl,(λh=>by cases h),d⟩
theorem NF (s:Bs) (w:World) (hs:s.length<=1048576) (T:Dq w):
  Calls prog 91 #[.string ⟨s.toArray⟩] w λe a=> ∃m:Int,e=.returned (.tuple (Ly m (MX s)))∧(MX s=true->m=sgN s)∧Below w w a:=by
 refine(MG s w hs T).mono ?_;rintro e a ⟨m,h,c,b⟩;have k:=fv s;rw[k.1] at h;exact⟨m,h,(λe=>by rw[<-k.1] at e;rw[c e,k.2 e]),b⟩
theorem iM {s:Bs} {ws:List Bs} (hw:splitC 32 s=ws) (h:ws.getD 0 []= [112,114,111,102,105,108,101]):cmH s= [112,114,111,102,105,108,101]∧Dm s=(decide (ws.length=2) && !(ws.getD 1 []).isEmpty)∧Co s= []:=by
 subst hw;exact⟨h,(J1 h).1,(J1 h).2⟩
theorem Qi {s:Bs} {ws:List Bs} (hw:splitC 32 s=ws) (h: ¬ws.getD 0 []= [112,114,111,102,105,108,101]):cmH s=ws.getD 0 []∧Dm s=(C7 (ws.drop 1) && decide (arI (ws.getD 0 [])=((ws.drop 1).length:Int)))∧Co s=(ws.drop 1).map sgN:=by
 subst hw;exact⟨rfl,(LF h).1,(LF h).2⟩
def fV (s:Bs) (w:World) (e:Ending) (w':World):Prop:= ∃(u:Bs) (A:Option Addr) (n c:Nat),e=.returned (.tuple #[.string ⟨u.toArray⟩,.slice A n c,.bool (Dm s)])∧(Dm s=true->u=cmH s∧n<=c∧n=(Co s).length∧Rd w' A n (ints (Co s)))∧Below w w w'
theorem Ur {w:World} {A X:Option Addr} {n c:Nat} {us:List Value} (r:Rd w A n us) (f:1<=n) (a:n<=c) (d:(if c=1 then A else A.map (λx=>⟨x.block,x.off+1,none⟩))=X):Rd w X (n-1) (us.drop 1):=by
 subst d;have g:=r.1;refine⟨by simp;omega,λf=> ?_⟩
 obtain⟨b,rfl,a⟩:=r.2 Aa;refine⟨b.add 1,by rw[Ak Aa];rfl,λi hi=> ?_⟩
 rw[Bv,a _ Aa,List.getElem?_drop]
def fm (s:Bs) (w:World) (e:Ending) (w':World):Prop:= ∃(u:Bs) (A:Option Addr) (n c:Nat),e=.returned (.tuple #[.string ⟨u.toArray⟩,.slice A n c,.bool (Dm s)])∧(Dm s=true->u=cmH s∧n<=c∧n=(Co s).length∧Rd w' A n (ints (Co s))∧ ∀ad,A=some ad->0<n->w<=ad.block)∧Below w w w'
theorem Iq (s:Bs) (w:World) (hs:s.length<=1048576) (T:Dq w):
  Calls prog 57 #[.string ⟨s.toArray⟩] w (fm s w):=by
 have D:=QF s 32 w hs T;have F:=jy 32 s;have O:=DB 32 s;have L:=CT 32 s;obtain⟨f,hw⟩: ∃f,splitC 32 s=f:=⟨_,rfl⟩;have H:=Ai (@iM s f hw);have G:=Ai (@Qi s f hw);rw[hw] at D F O L;clear hw;obtain⟨n,hn⟩: ∃n,f.length=n:=⟨_,rfl⟩
 have av:1<=n:=by
  rcases f with _|⟨a,r⟩
  ·exact absurd rfl L
  ·rw[<-hn];simp
 rw[hn] at D F;have HP:=Ai O;have HN:=Ai hn;clear O hn L;have aG:(0:Int)<(n:Int):=Aa
 go_enter func57,ntmps57
 go_wp2_with fail
 refine D.mono ?_;rintro e w1 ⟨rfl,S,E⟩;have T1:=T.below E;have y:=E.size;clear D;obtain⟨g0,hg⟩: ∃g,w.heap.size=g:=⟨_,rfl⟩;rw[hg] at S E y⊢;have I:=Ai hg;clear hg;obtain⟨aO,an,Q⟩:=S.str (k:=0) Aa
 cases an
 rw[CE] at Q
 by_cases hp:f.getD 0 []= [112,114,111,102,105,108,101]
 ·have u:=Ai (H.out hp);clear H G;rw[hp] at Q;clear hp
  by_cases h2:n=2
  ·subst h2;obtain⟨aP,ao,R⟩:=S.str (k:=1) Aa
   cases ao
   rw[CE] at R
   by_cases V:f.getD 1 []= []
   ·have j:Hid (Dm s=false):=by unfold Hid;rw[u.out.2.1,V];simp
    rw[V] at R;clear V
    go_wp2_with fail
    go_quiet (fail)
    go_wp2;refine AS (v:=.tuple #[.string ⟨#[112,114,111,102,105,108,101]⟩,.slice none 0 0,.bool false]) (by simp[results,results57,go_sem]) rfl ?_
    exact⟨[112,114,111,102,105,108,101],none,0,0,by rw[j.out],(λh=>by rw[j.out] at h;cases h),by rw[I.out];exact Ba E _⟩
   ·have j:Hid (Dm s=true):=by unfold Hid;rw[u.out.2.1,HN.out];simpa using V
    have aS:(f.getD 1 []).isEmpty=false:=by simpa using V
    generalize f.getD 1 []=x at*
    go_wp2_with fail
    go_quiet (fail)
    go_wp2;refine AS (v:=.tuple #[.string ⟨#[112,114,111,102,105,108,101]⟩,.slice none 0 0,.bool true]) (by simp[results,results57,go_sem]) rfl ?_
    exact⟨[112,114,111,102,105,108,101],none,0,0,by rw[j.out],(λ_=>⟨u.out.1.symm,Cp _,by rw[u.out.2.2];rfl,by rw[u.out.2.2];exact Rd.nil _ _,(λ_ e=>by cases e)⟩),by rw[I.out];exact Ba E _⟩
  ·have j:Hid (Dm s=false):=by unfold Hid;rw[u.out.2.1,HN.out,BR h2];rfl
   have am: ¬(n:Int)=2:=Aa;have aR:((n:Int)==2)=false:=by rw[Ea];exact am
   go_wp2_with fail
   go_quiet (fail)
   go_wp2;refine AS (v:=.tuple #[.string ⟨#[112,114,111,102,105,108,101]⟩,.slice none 0 0,.bool false]) (by simp[results,results57,go_sem]) rfl ?_
   exact⟨[112,114,111,102,105,108,101],none,0,0,by rw[j.out],(λh=>by rw[j.out] at h;cases h),by rw[I.out];exact Ba E _⟩
 have u:=Ai (G.out hp);have a2:(f.getD 0 []== [112,114,111,102,105,108,101])=false:=by simpa using hp
 clear H G;obtain⟨X,hX⟩: ∃X,(if n=1 then some (⟨g0,0,none⟩:Addr) else(some (⟨g0,0,none⟩:Addr)).map (λx=>⟨x.block,x.off+1,none⟩))=X:=⟨_,rfl⟩;have ab:=Ur S av Bk hX;simp only[Option.map] at hX;have ak:Hid (∀x∈f.drop 1,x.length<=s.length):=λx hx=>HP.out x (List.mem_of_mem_drop hx);have Z:(BO f).drop 1=BO (f.drop 1):=by unfold BO;rw[List.map_drop]
 rw[Z] at ab;have C:Hid ((f.drop 1).length=n-1):=by unfold Hid;rw[JW,HN.out]
 have ar:g0<w1:=S.lt rfl Aa;clear Z HP HN S;generalize f.drop 1=ts at*;generalize f.getD 0 []=l at*;have aU:(1:Int)<=(n:Int):=Aa;have a1:((n-1:Nat):Int)=(n:Int)-1:=Aa
 go_wp2_with fail
 go_loopw [6,32] (λv i wr=> ∃k:Nat,k<=n-1∧i=.int .i64 k∧C7 (ts.take k)=true∧wr.ownsRow w1.heap.size 2 1 v k (ints ((ts.take k).map sgN))∧Below w1 w1 wr) (λ_ i _=>n-(intOf i).toNat)
 case atStart=>exact⟨0,AZ _,rfl,rfl,World.ownsRow_nil _ _ _ _,AP _ _⟩
 case round=>
  obtain⟨k,hk,rfl,ha,t,b⟩:=hrel;have ap:=b.size
  by_cases au:k<n-1
  ·have aV:(0:Int)<=(k:Int):=Aa;obtain⟨ad,rfl,hx⟩:=(ab.below b).str au;have A:k<ts.length:=by have:=C.out;omega
   have z:ts.getD k []=ts[k]:=by rw[DE,Db A];rfl
   have hm:=ak.out (ts.getD k []) (by rw[z];exact EH A)
   have HA:Hid (C7 (ts.take (k+1))=MX (ts.getD k [])):=by
    unfold Hid C7 at*;rw[List.take_succ_eq_append_getElem A,List.all_append,ha,z]
    simp
   have HM:Hid ((ts.take (k+1)).map sgN=(ts.take k).map sgN++ [sgN (ts.getD k [])]):=by
    unfold Hid;rw[List.take_succ_eq_append_getElem A,List.map_append,z]
    rfl
   have HF:Hid (MX (ts.getD k [])=false->C7 ts=false):=λh=>by
    unfold C7;rw[JV];intro c;have:=List.all_eq_true.1 c _ (EH A);rw[<-z,h] at this
    cases this
   clear z ha;generalize ts.getD k []=x at*;have hv:=NF x wr Aa (T1.below b)
   go_wp2_with fail
   refine hv.mono ?_;rintro e w2 ⟨m,rfl,K,b2⟩;have b3:=b.trans (b2.mono ap);have Y:=b3.size;have N:=Ef t b2;clear t;rcases jt (MX x) with hb|hb
   ·have a0:=K hb;have ai:Hid (C7 (ts.take (k+1))=true):=by unfold Hid;rw[HA.out,hb]
    rw[hb];clear K hb hv
    go_wp2_with (at_builtin;refine Et rfl _ _ rfl w1.heap.size _ k ((ts.take k).map sgN) rfl rfl N Aa Y ?_;intro v' w' M J _ _)
    go_roundw
    case rel=>exact⟨k+1,by omega,by go_num,ai.out,by rw[HM.out];exact M,b3.trans J⟩
    case measure=>simp[intOf];omega
   ·have aj:=Ai (HF.out hb);have j:Hid (Dm s=false):=by unfold Hid;rw[u.out.2.1,aj.out];rfl
    rw[hb];clear K hb hv;go_wp2;refine AS (v:=.tuple #[.string ⟨#[]⟩,.slice none 0 0,.bool false]) (by simp[results,results57,go_sem]) rfl ?_
    exact⟨[],none,0,0,by rw[j.out],(λh=>by rw[j.out] at h;cases h),by rw[I.out];exact E.trans (b3.mono y)⟩
  ·obtain rfl:k=n-1:=Aa;have ht:ts.take (n-1)=ts:=ED (by have:=C.out;omega)
   rw[ht] at ha t;obtain⟨B,d,rfl,ay,az,hd,-⟩:=Gy t;have R:=(b.cell (p:=⟨g0,0,none⟩) ar).trans Q;have U:=λW=>Xt l W;have HQ:Hid (Dm s=decide (arI l=((n-1:Nat):Int))):=by unfold Hid;rw[u.out.2.1,ha,C.out];rfl
   have HK:Hid ((ts.map sgN).length=n-1):=by unfold Hid;rw[List.length_map,C.out]
   have b4:=E.trans (b.mono y);generalize arI l=q at*
   by_cases hq:q=((n-1:Nat):Int)
   ·subst hq;have j:Hid (Dm s=true):=by unfold Hid;rw[HQ.out];simp
    go_wp2_with fail
    go_quiet ((go_at_call 92;exact Calls.quiet_of_same (U _)))
    go_wp2;refine AS (v:=.tuple #[.string ⟨l.toArray⟩,.slice B (n-1) d,.bool true]) (by simp[results,results57,go_sem]) rfl ?_
    exact⟨l,B,n-1,d,by rw[j.out],(λ_=>⟨u.out.1.symm,hd,by rw[u.out.2.2,HK.out],by rw[u.out.2.2];exact Rd.drewN ay _,(λad e h0=>by have:=az.base e h0;have:=I.out;omega)⟩),by rw[I.out];exact Ba b4 _⟩
   ·have j:Hid (Dm s=false):=by unfold Hid;rw[HQ.out,BR hq]
    have ax: ¬((n-1:Nat):Int)=q:=λh=>hq h.symm;have a3: ¬(n:Int)-1=q:=λh=>ax Aa
    go_wp2_with fail
    go_quiet ((go_at_call 92;exact Calls.quiet_of_same (U _)))
    go_wp2;refine AS (v:=.tuple #[.string ⟨l.toArray⟩,.slice B (n-1) d,.bool false]) (by simp[results,results57,go_sem]<;>omega) rfl ?_
    exact⟨l,B,n-1,d,by rw[j.out],(λh=>by rw[j.out] at h;cases h),by rw[I.out];exact Ba b4 _⟩
theorem ID (s:Bs) (w:World) (hs:s.length<=1048576):
  Calls prog 60 #[.string ⟨s.toArray⟩,.int .u8 32] w λe a=> ∃B d,e=.returned (.slice B (splitC 32 s).length d)∧Rd a B (splitC 32 s).length (BO (splitC 32 s))∧(splitC 32 s).length<=d∧Below w w a:=Fz ⟨s.toArray⟩ 32 w (by rw[Bj];exact hs)
theorem YR (a:Addr):a.add 0=a:=by
 obtain⟨b,o,p⟩:=a;unfold Addr.add
 split<;>simp_all
theorem Jp (s:Bs) (w:World) (hs:s.length<=1048576):
  Calls prog 58 #[.string ⟨s.toArray⟩] w (fV s w):=by
 have j:=ID s w hs;have l:=jy 32 s;have y:=DB 32 s;have u:=CT 32 s;obtain⟨c,hw⟩: ∃c,splitC 32 s=c:=⟨_,rfl⟩;have p:=Ai (@iM s c hw);have m:=Ai (@Qi s c hw);rw[hw] at j l y u;clear hw;obtain⟨n,N⟩: ∃n,c.length=n:=⟨_,rfl⟩
 have Y:1<=n:=by
  rcases c with _|⟨a,r⟩
  ·exact absurd rfl u
  ·rw[<-N];simp
 rw[N] at j l;have HP:=Ai y;have L:=Ai N;clear y N u;have ah:(0:Int)<(n:Int):=Aa
 go_enter func58,ntmps58
 go_wp2_with fail
 refine j.mono ?_;rintro e w1 ⟨B,d,rfl,O,Z,E⟩;have G:=E.size;clear j;obtain⟨i,rfl,z⟩:=O.str (k:=0) Aa;rw[YR] at z
 by_cases I:c.getD 0 []= [112,114,111,102,105,108,101]
 ·have g:=Ai (p.out I);clear p m;rw[I] at z;clear I
  by_cases h2:n=2
  ·subst h2;obtain⟨aj,U,A⟩:=O.str (k:=1) Aa
   cases U
   rw[show i.add 1=⟨i.block,i.off+1,none⟩ by simp[Addr.add]] at A
   by_cases F:c.getD 1 []= []
   ·have f:Hid (Dm s=false):=by unfold Hid;rw[g.out.2.1,F];simp
    rw[F] at A;clear F
    go_wp2_with fail
    go_quiet (fail)
    go_wp2;refine AS (v:=.tuple #[.string ⟨#[112,114,111,102,105,108,101]⟩,.slice none 0 0,.bool false]) (by simp[results,results58,go_sem]) rfl ?_
    exact⟨[112,114,111,102,105,108,101],none,0,0,by rw[f.out],(λh=>by rw[f.out] at h;cases h),Ba E _⟩
   ·have f:Hid (Dm s=true):=by unfold Hid;rw[g.out.2.1,L.out];simpa using F
    have al:(c.getD 1 []).isEmpty=false:=by simpa using F
    generalize c.getD 1 []=x at*
    go_wp2_with fail
    go_quiet (fail)
    go_wp2;refine AS (v:=.tuple #[.string ⟨#[112,114,111,102,105,108,101]⟩,.slice none 0 0,.bool true]) (by simp[results,results58,go_sem]) rfl ?_
    exact⟨[112,114,111,102,105,108,101],none,0,0,by rw[f.out],(λ_=>⟨g.out.1.symm,Cp _,by rw[g.out.2.2];rfl,by rw[g.out.2.2];exact Rd.nil _ _⟩),Ba E _⟩
  ·have f:Hid (Dm s=false):=by unfold Hid;rw[g.out.2.1,L.out,BR h2];rfl
   have T: ¬(n:Int)=2:=Aa;have ak:((n:Int)==2)=false:=by rw[Ea];exact T
   go_wp2_with fail
   go_quiet (fail)
   go_wp2;refine AS (v:=.tuple #[.string ⟨#[112,114,111,102,105,108,101]⟩,.slice none 0 0,.bool false]) (by simp[results,results58,go_sem]) rfl ?_
   exact⟨[112,114,111,102,105,108,101],none,0,0,by rw[f.out],(λh=>by rw[f.out] at h;cases h),Ba E _⟩
 have g:=Ai (m.out I);have an:(c.getD 0 []== [112,114,111,102,105,108,101])=false:=by simpa using I
 clear p m;obtain⟨X,hX⟩: ∃X,(if d=1 then some i else(some i).map (λx=>⟨x.block,x.off+1,none⟩))=X:=⟨_,rfl⟩;have J:=Ur O Y Z hX;simp only[Option.map] at hX;have R:Hid (∀x∈c.drop 1,x.length<=1048576):=λx hx=>Ch (HP.out x (List.mem_of_mem_drop hx)) hs;have H:(BO c).drop 1=BO (c.drop 1):=by unfold BO;rw[List.map_drop]
 rw[H] at J;have D:Hid ((c.drop 1).length=n-1):=by unfold Hid;rw[JW,L.out]
 have am:(1:Int)<=(n:Int):=Aa;clear H HP L;generalize c.drop 1=ts at*;generalize c.getD 0 []=b at*;have Q:=Ai (Of X (n-1) (d-1) ts w1 Aa J R.out)
 go_wp2_with fail
 refine Q.out.mono ?_;rintro e w2 ⟨t,b2⟩;have S:=E.trans (b2.mono G);have A:=(b2.cell (O.lt rfl Aa)).trans z;rcases t with⟨V,K,M,rfl,ab,hd2⟩|⟨V,rfl⟩
 case inr=>
  have f:Hid (Dm s=false):=by unfold Hid;rw[g.out.2.1,V];rfl
  go_wp2_with fail
  go_quiet (fail)
  go_wp2;refine AS (v:=.tuple #[.string ⟨b.toArray⟩,.slice none 0 0,.bool false]) (by simp[results,results58,go_sem]) rfl ?_
  exact⟨b,none,0,0,by rw[f.out],(λh=>by rw[f.out] at h;cases h),Ba S _⟩
 have C:=λW=>RH b W;have HQ:Hid (Dm s=decide (arI b=((n-1:Nat):Int))):=by unfold Hid;rw[g.out.2.1,V,D.out];rfl
 have HK:Hid ((ts.map sgN).length=n-1):=by unfold Hid;rw[List.length_map,D.out]
 generalize arI b=q at*
 by_cases hq:q=((n-1:Nat):Int)
 ·subst hq;have f:Hid (Dm s=true):=by unfold Hid;rw[HQ.out];simp
  go_wp2_with fail
  go_quiet ((go_at_call 94;exact Calls.quiet_of_same (C _)))
  go_wp2;refine AS (v:=.tuple #[.string ⟨b.toArray⟩,.slice K (n-1) M,.bool true]) (by simp[results,results58,go_sem]) rfl ?_
  exact⟨b,K,n-1,M,by rw[f.out],(λ_=>⟨g.out.1.symm,hd2,by rw[g.out.2.2,HK.out],by rw[g.out.2.2];exact Rd.drewN ab _⟩),Ba S _⟩
 ·have f:Hid (Dm s=false):=by unfold Hid;rw[HQ.out,BR hq]
  have ao:(q==((n-1:Nat):Int))=false:=by rw[Ea];exact hq
  go_wp2_with fail
  go_quiet ((go_at_call 94;exact Calls.quiet_of_same (C _)))
  go_wp2;refine AS (v:=.tuple #[.string ⟨b.toArray⟩,.slice K (n-1) M,.bool false]) (by simp[results,results58,go_sem]<;>omega) rfl ?_
  exact⟨b,K,n-1,M,by rw[f.out],(λh=>by rw[f.out] at h;cases h),Ba S _⟩

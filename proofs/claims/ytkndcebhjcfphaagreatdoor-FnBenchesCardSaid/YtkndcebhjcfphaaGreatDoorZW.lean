import Derived.Test.YtkndcebhjcfphaaGreatDoorZF
import Derived.Test.YtkndcebhjcfphaaGreatDoorZR
import Derived.Test.YtkndcebhjcfphaaGreatDoorZV
namespace Go.Proofs.YtkndcebhjcfphaaGreatDoor
open Go.RowKit Go.Proofs.Tryz
set_option maxRecDepth 100000
set_option maxHeartbeats 4000000
set_option linter.all false
theorem Lp (l:Bs):(⟨l.toArray⟩:ByteArray).data.toList=l:=rfl
theorem Bj (l:Bs):(⟨l.toArray⟩:ByteArray).size=l.length:=by simp[ByteArray.size]
theorem AY (x y:Bs):((⟨x.toArray⟩:ByteArray)++⟨y.toArray⟩)=⟨(x++y).toArray⟩:=ByteArray.mk_append_mk x y
theorem Sa (s:ByteArray):(⟨s.data.toList.toArray⟩:ByteArray)=s:=Lib.mk_data s
theorem U1 (w:World) (os:Array Obj):Below w w (Sort.grow w os):=
 ⟨rfl,rfl,rfl,by simp[Sort.grow],λk a=>by simp[Sort.grow,Array.getElem?_append_left a]⟩
theorem Ph {w w':World} {n:String} {cs:Array Value} (b:Below w w w') (h:w.var? prog n=some cs):w'.var? prog n=some cs:=by
 unfold World.var? at*
 cases hg:Program.globalNamed prog n with
 |none=>rw[hg] at h;cases h
 |some g=>
  rw[hg] at h;simp only[Option.bind_some] at h⊢
  have a:g<w:=by
   rcases Nat.lt_or_ge g w.heap.size with hlt|hge
   ·exact hlt
   ·rw[Array.getElem?_eq_none hge] at h;cases h
  rw[b.block g a];exact h
def CK (w:World):Prop:=Lib.TabIs prog w "internal/strconv.uint64pow10" .u64 Lib.pow10Tab
theorem CK.below {w w':World} (h:CK w) (b:Below w w w'):CK w':=Ph b h
theorem BY (n:Int) (w:World) (a: -9223372036854775808<=n) (b:n<=9223372036854775807) (T:CK w):
  (BT 134 #[ZI n] w (.string ⟨(Lib.itoa n).toArray⟩):Prop):=by
 go_enter func134,ntmps134
 go_wp2_with fail
 refine(IF n a b _ T).mono ?_;rintro e d ⟨rfl,k,c,rfl⟩;go_wp2;go_ret;exact⟨rfl,EE (U1 (w.drewN k) c)⟩
def bV (u:Nat):UInt8:=UInt8.ofNat (48+u)
theorem Rg {u g:Nat} {W:World} (h:u<10) (a:W.cell? ⟨g,0,none⟩=some (.int .u8 (48+(u:Int)))):(convert 40 9 (.slice (some ⟨g,0,none⟩) 1 1)).run prog W=.ok (.string ⟨#[bV u]⟩) W:=
 run_convert_bytes_back (P:=prog) _ _ _ 5 ⟨g,0,none⟩ 1 [bV u] underlying40 underlying5 underlying9 (λj b=>by
  obtain rfl:j=0:=by simpa using b
  rw[CE,a];have:((bV u).toNat:Int)=48+(u:Int):=by unfold bV;rw[He h];omega
  show _=some (Value.int .u8 ((bV u).toNat:Int));rw[this])
theorem NS {u:Nat} (h:u<10) (W:World):(convert 40 9 (.slice (some ⟨W,0,none⟩) 1 1)).run prog (W.alloc (.cells #[.int .u8 (48+(u:Int))] 5))=.ok (.string ⟨#[bV u]⟩) (W.alloc (.cells #[.int .u8 (48+(u:Int))] 5)):=
 Rg h ((Br W 5 #[.int .u8 (48+(u:Int))]).cell 0)
theorem WM {u:Nat} (h:u<10):Lib.decDigits u= [bV u]:=Vf h
theorem bS {u:Nat} (h: ¬u<10):Lib.decDigits u=Lib.decDigits (u/10)++ [bV (u%10)]:=Ve h
theorem Vs (k:Nat): ∀(n:Nat) (w:World),n<=k->n<=9223372036854775807->
  (BT 88 #[ZI n] w (.string ⟨(Lib.decDigits n).toArray⟩):Prop):=by
 induction k with
 |zero=>
  intro n w l H;have a:n<10:=Aa;have z:(n:Int)<10:=Aa;have C:=Bg (48+(n:Int));have D:IntKind.u8.wrap (48+(n:Int))=48+(n:Int):=by rw[IntKind.wrap_u8];omega
  have A:=NS a;have f:=Ai (WM a);clear l
  go_enter func88,ntmps88
  go_wp2_with fail
  go_ret;exact⟨by rw[f.out];rfl,Ax⟩
 |succ k ih=>
  intro n w l H
  by_cases a:n<10
  ·have z:(n:Int)<10:=Aa;have C:=Bg (48+(n:Int));have D:IntKind.u8.wrap (48+(n:Int))=48+(n:Int):=by rw[IntKind.wrap_u8];omega
   have A:=NS a;have f:=Ai (WM a);clear l ih
   go_enter func88,ntmps88
   go_wp2_with fail
   go_ret;exact⟨by rw[f.out];rfl,Ax⟩
  ·have z: ¬(n:Int)<10:=Aa;have y:(0:Int)<=(n:Int):=Aa;have f:=Ai (bS a);have x:=λW=>ih (n/10) W Aa Aa;obtain⟨q,v⟩: ∃q:Nat,n/10=q:=⟨_,rfl⟩;obtain⟨r,B⟩: ∃r:Nat,n%10=r:=⟨_,rfl⟩;have d:r<10:=Aa;have e1:(n:Int)/10=(q:Int):=Aa;have e2:(n:Int)%10=(r:Int):=Aa;have A:=NS d;have L:=Bg (q:Int);have I:(n:Int).tmod 10=(r:Int):=by rw[Int.tmod_eq_emod_of_nonneg y];omega
   have J:(n:Int).tdiv 10=(q:Int):=by rw[Int.tdiv_eq_ediv_of_nonneg y];omega
   have C:=Bg (48+(r:Int));have D:IntKind.u8.wrap (48+(r:Int))=48+(r:Int):=by rw[IntKind.wrap_u8];omega
   have i:=f.out;rw[v,B] at i;rw[v] at x;have f:=Ai i;have F:=Rg (W:=(w.alloc (.cells #[.int .u8 (48+(r:Int))] 5)).drew) (g:=w) d ((Br w 5 #[.int .u8 (48+(r:Int))]).cell 0)
   have E: ∀c,Below (w.alloc (.cells #[.int .u8 (48+(r:Int))] 5)).drew.heap.size (w.alloc (.cells #[.int .u8 (48+(r:Int))] 5)).drew c->(convert 40 9 (.slice (some ⟨w,0,none⟩) 1 1)).run prog c=.ok (.string ⟨#[bV r]⟩) c:=λc b=>
    Rg d ((b.cell (p:=⟨w,0,none⟩) (by simp[World.drew])).trans ((Br w 5 #[.int .u8 (48+(r:Int))]).cell 0))
   have s: ∀c,Below w.drew.heap.size w.drew c->Below w w c:=λc b=>EE (m:=1) b;have t: ∀c,Below (w.alloc (.cells #[.int .u8 (48+(r:Int))] 5)).drew.heap.size (w.alloc (.cells #[.int .u8 (48+(r:Int))] 5)).drew c->Below w w c:=λc b=>(show Below w w (w.alloc (.cells #[.int .u8 (48+(r:Int))] 5)).drew from Ax).trans (b.mono (by simp[World.drew]))
   have G:(Lib.decDigits q).length<=20:=by rw[Lib.decDigits_length];exact Hm 20 q Aa Ah
   clear l ih i v B a
   go_enter func88,ntmps88
   go_wp2_with fail
   go_region_with (first|(go_at_call 88;(with_reducible refine(x _).mono ?_);rintro e c ⟨rfl,u⟩;(try (have hc2:=E _ u));(first|(have j:=s _ u)|(have j:=t _ u))))
   all_goals
    have K:=j.size
    go_wp2_with fail
    go_ret;exact⟨by rw[f.out,<-AY];rfl,Ax⟩
theorem Ct (n:Nat) (w:World) (a:n<=9223372036854775807):
  Calls prog 88 #[ZI n] w λe b=>e=.returned (.string ⟨(Lib.decDigits n).toArray⟩)∧Below w w b:=Vs n n w Bk a
theorem Ek (n:Int) (w:World) (g: -9223372036854775808<n) (i:n<=9223372036854775807):
  (BT 89 #[ZI n] w (.string ⟨(Lib.itoa n).toArray⟩):Prop):=by
 by_cases d:n<0
 ·obtain⟨m,k⟩: ∃m:Nat,-n=(m:Int):=⟨n.natAbs,by omega⟩
  have a:m<=9223372036854775807:=Aa
  have c:Hid (Lib.itoa n=45::Lib.decDigits m):=by
   unfold Hid;rw[Ez d];have:n.natAbs=m:=Aa;rw[this]
  have j:(Lib.decDigits m).length<=20:=by rw[Lib.decDigits_length];exact Hm 20 m Aa Ah
  have l:=Bg (-n)
  go_enter func89,ntmps89
  go_wp2_with fail
  refine(Ct m _ a).mono ?_;rintro e f ⟨rfl,b⟩
  go_wp2_with fail
  go_ret;exact⟨by rw[c.out];exact AN Ending.returned (AN Value.string (AY [45] (Lib.decDigits m))),b⟩
 ·obtain⟨m,rfl⟩: ∃m:Nat,n=(m:Int):=⟨n.toNat,by omega⟩
  have a:m<=9223372036854775807:=Aa
  have c:Hid (Lib.itoa (m:Int)=Lib.decDigits m):=by
   unfold Hid;rw[DZ Aa,Int.toNat_natCast]
  go_enter func89,ntmps89
  go_wp2_with fail
  refine(Ct m _ a).mono ?_;rintro e f ⟨rfl,b⟩
  go_wp2_with fail
  go_ret;exact⟨by rw[c.out];rfl,b⟩
theorem Bm (n:Int) (a: -9223372036854775808<=n) (b:n<=9223372036854775807):(Lib.itoa n).length<=21:=Lib.itoa_length_le n a b
theorem IR (a:Bs): ∀(b:List Int),(∀x∈b,-9223372036854775808<=x∧x<=9223372036854775807)->(joinI a b).length<=b.length*(a.length+21)
 | [],_=>by simp[joinI,Lib.join_nil]
 |x::r,h=>by
  have c:=h x (C5 ..);have g:=Bm x c.1 c.2
  cases r with
  |nil=>
   unfold joinI;rw[List.map_cons,List.map_nil,Lib.join_one]
   simp;omega
  |cons y r=>
   have f:=IR a (y::r) (λz d=>h z (Hz _ d))
   have e:joinI a (x::y::r)=Lib.itoa x++(a++joinI a (y::r)):=by
    unfold joinI;simp only[List.map_cons];rw[Lib.join_cons,Lib.join_cons];unfold Lib.joinTail
    simp
   rw[e];simp only[Dy,Gt] at f⊢;rw[Nat.add_mul (r.length+1) 1,Nat.one_mul];omega
theorem EC (A:Option Addr) (n c:Nat) (xs:List Int) (a:Bs) (w:World) (U:n<=1048576) (hs:a.length<=100) (H:Rd w A n (ints xs)) (G: ∀x∈xs,-9223372036854775808<x∧x<=9223372036854775807):
  (BT 127 #[.slice A n c,.string ⟨a.toArray⟩] w (.string ⟨(joinI a xs).toArray⟩):Prop):=by
 have E:=Ai H.len;have D:=Ai G;clear G
 go_enter func127,ntmps127
 go_wp2_with fail
 go_loopw [5,6] (λs i wr=> ∃k:Nat,k<=n∧i=.int .i64 k∧s=.string ⟨(joinI a (xs.take k)).toArray⟩∧Below w w wr) (λ_ i _=>n-(intOf i).toNat)
 case atStart=>exact⟨0,AZ _,rfl,rfl,AP _ _⟩
 case round=>
  obtain⟨k,T,rfl,rfl,b⟩:=hrel
  by_cases z:k<n
  ·have j:k<xs.length:=by have:=E.out;omega
   have N:=D.out (xs.getD k 0) (by rw[CJ j];exact EH j)
   obtain⟨Q,rfl,B⟩:=(H.below b).int z;have q:Hid (xs.take (k+1)=xs.take k++ [xs.getD k 0]):=by unfold Hid;rw[List.take_succ_eq_append_getElem j,CJ j]
   have p:Hid (joinI a (xs.take (k+1))=if xs.take k= [] then Lib.itoa (xs.getD k 0) else joinI a (xs.take k)++(a++Lib.itoa (xs.getD k 0))):=by unfold Hid;rw[q.out,Vq]
   have y:(joinI a (xs.take k)).length<=1048576*121:=by
    have d:=IR a (xs.take k) (λx B=>by have:=D.out x (List.mem_of_mem_take B);omega)
    have K:(xs.take k).length<=1048576:=by rw[Ju];omega
    have R:=Nat.mul_le_mul K (show a.length+21<=121 by omega)
    omega
   have L:=Bm (xs.getD k 0) Aa Aa;have r:=Bj (joinI a (xs.take k));have I:=Bj a;have g:Hid (k=0->xs.take k= []):=λh=>by rw[h];rfl
   have m:Hid (k≠0->xs.take k≠ []):=λh e=>by have d:=AN List.length e;rw[Ju,List.length_nil] at d;omega
   generalize xs.getD k 0=x at*;have f:Hid (xs.take k= []->joinI a (xs.take k)= []):=λh=>by rw[h];rfl
   obtain⟨J,F⟩: ∃J,joinI a (xs.take k)=J:=⟨_,rfl⟩;rw[F] at y r p f⊢;clear F
   by_cases v:k=0
   ·have l:Hid (joinI a (xs.take (k+1))=Lib.itoa x):=by have d:=p.out;rw[AA (g.out v)] at d;exact d
    have C:=b.size;subst v;obtain rfl:J= []:=by have d:=g.out rfl;exact f.out d
    rw[Gu] at B;clear p g m q f
    go_wp2_with fail
    refine(Ek x _ Aa Aa).mono ?_;rintro e O ⟨rfl,t⟩;have u:=b.trans (t.mono C)
    go_wp2_with fail
    go_roundw
    case rel=>exact⟨0+1,by omega,by go_num,by rw[l.out];exact AN Value.string (AY [] (Lib.itoa x)),u⟩
    case measure=>simp[intOf];omega
   ·have l:Hid (joinI a (xs.take (k+1))=J++(a++Lib.itoa x)):=by have d:=p.out;rw[Ak (m.out v)] at d;exact d
    have M:(0:Int)<(k:Int):=Aa;have C:=b.size;have S:=AY J a;clear p g m q f
    go_wp2_with fail
    refine(Ek x _ Aa Aa).mono ?_;rintro e O ⟨rfl,t⟩;have u:=b.trans (t.mono C)
    go_wp2_with fail
    go_roundw
    case rel=>exact⟨k+1,by omega,by go_num,by rw[l.out,<-List.append_assoc,<-AY (J++a) (Lib.itoa x)],u⟩
    case measure=>simp[intOf];omega
  ·obtain rfl:k=n:=Aa;have q:Hid (xs.take k=xs):=ED (by have:=E.out;omega)
   go_wp2_with fail
   go_ret;exact⟨by rw[q.out];rfl,b⟩
theorem UG:(prog.info? 9).map (λi=>(i.zero,i.size,i.bytes))=some (some (.string ⟨#[]⟩),1,16):=We51ceQ
theorem Sj (n:Nat) (g:n<=2097152) (w:World):
  (Instr.makeSlice 22 (ZI n) (ZI n)).run prog w=.ok (.slice (some ⟨w,0,none⟩) n n) (w.alloc (.cells (madeCells #[.string ⟨#[]⟩] n) 9)):=by
 obtain⟨f,a,b,c,d⟩:=info_parts UG;have h:=GE (P:=prog) 22 9 f _ underlying22 a b .i64 .i64 n n Bk (by rw[d];omega) Aa w
 rw[c,Nat.mul_one] at h;exact h
theorem XM (g n:Nat) (xs:List Bs) (a:Bs) (w:World) (m:xs.length=n) (p:n<=1048576) (i: ∀j,j<n->w.cell? ⟨g,j,none⟩=some (.string ⟨(xs.getD j []).toArray⟩)) (hg:g<w) (b:(Lib.join xs a).length<=140737488355328):
  (BT 197 #[.slice (some ⟨g,0,none⟩) n n,.string ⟨a.toArray⟩] w (.string ⟨(Lib.join xs a).toArray⟩):Prop):=by
 subst m
 have c:(xs.map λl=>(⟨l.toArray⟩:ByteArray)).map (·.data.toList)=xs:=by
  rw[List.map_map]
  conv=>rhs;rw[<-List.map_id xs]
  exact List.map_congr_left λx _=>rfl
 have h:=Lq g 0 xs.length (xs.map λl=>(⟨l.toArray⟩:ByteArray)) ⟨a.toArray⟩ w (λj x d=>by
   rw[List.getElem?_map,Option.map_eq_some_iff] at d;obtain⟨y,f,rfl⟩:=d;have k:j<xs.length:=(List.getElem?_eq_some_iff.1 f).1;rw[Nat.zero_add,i j k,DE,f]
   rfl) hg (by rw[List.length_map];omega) (by rw[List.length_map];exact Cp _) (by rw[c];exact b)
 rw[c,List.length_map] at h;exact h
theorem FN (A:Option Addr) (n c:Nat) (xs:List Int) (a:Bs) (w:World) (R:n<=1048576) (hs:a.length<=100) (M:Rd w A n (ints xs)) (L: ∀x∈xs,-9223372036854775808<x∧x<=9223372036854775807) (T:CK w):
  (BT 148 #[.slice A n c,.string ⟨a.toArray⟩] w (.string ⟨(joinI a xs).toArray⟩):Prop):=by
 have p:=Ai M.len;have I:=Ai L;have D:=Sj n Aa;clear L
 go_enter func148,ntmps148
 go_wp2_with fail
 have H:=Br w 9 (madeCells #[.string ⟨#[]⟩] n);have K:Below w w (w.alloc (.cells (madeCells #[.string ⟨#[]⟩] n) 9)):=BU;clear D
 go_loopw [13] (λi wr=> ∃(k:Nat) (r:Array Value),k<=n∧i=.int .i64 k∧Blk wr w.heap.size 9 r∧r.size=n∧(∀j,j<k->r[j]? =some (.string ⟨(Lib.itoa (xs.getD j 0)).toArray⟩))∧Below w w wr) (λi _=>n-(intOf i).toNat)
 case atStart=>exact⟨0,_,AZ _,rfl,H,FV _ _,λj s=>absurd s Aa,K⟩
 case round=>
  clear H K;obtain⟨k,r,hk,rfl,B,l,f,b⟩:=hrel;have u:=Ai l;have J:=Ai f;clear l f
  by_cases C:k<n
  ·have m:k<xs.length:=by have:=p.out;omega
   have F:=I.out (xs.getD k 0) (by rw[CJ m];exact EH m)
   obtain⟨V,rfl,E⟩:=(M.below b).int C;obtain⟨x,g⟩: ∃x,xs.getD k 0=x:=⟨_,rfl⟩;rw[g] at F E;have O:=Ai g;clear g;have S:=b.size;have y:=B.lt
   go_wp2_with fail
   refine(BY x _ Aa Aa (T.below b)).mono ?_;rintro e G ⟨rfl,q⟩;have t:=B.below q y;have Q:=b.trans (q.mono S);obtain⟨U,Y⟩: ∃v,G.cell? ⟨w,k,none⟩=some v:=⟨_,by rw[t.cell];exact Array.getElem?_eq_getElem (by have:=u.out;omega)⟩
   have Z:G.frozen? ⟨w,k,none⟩=false:=t.frozen k;go_wp2
   go_roundw
   case rel=>
    refine⟨k+1,_,by omega,by go_num,t.set_ k _,by have:=u.out;simpa using this,?_,Q.setCell Cr _⟩
    intro j s;have:=u.out
    by_cases e:j=k
    ·subst e;rw[Array.getElem?_setIfInBounds_self_of_lt Aa,O.out]
    ·rw[Array.getElem?_setIfInBounds_ne Aa];exact J.out j Aa
   case measure=>simp[intOf];omega
  ·obtain rfl:k=n:=Aa
   have d:(joinI a xs).length<=140737488355328:=by
    have W:=IR a xs (λx E=>by have:=I.out x E;omega)
    have X:=Nat.mul_le_mul (show xs.length<=1048576 by have:=p.out;omega) (show a.length+21<=121 by omega)
    omega
   have N:=Ai d;clear d;have y:=B.lt
   go_wp2_with fail
   refine(XM w.heap.size k (xs.map Lib.itoa) a _ (by rw[List.length_map];exact p.out) R (λj s=> ?_) y N.out).mono ?_
   ·rw[B.cell,J.out j s];have z:j<xs.length:=by have:=p.out;omega
    simp[DE,Db z]
   rintro e G ⟨rfl,q⟩;go_wp2;go_ret;exact⟨rfl,(An b q)⟩
def BO (ws:List Bs):List Value:=ws.map λx=>Value.string ⟨x.toArray⟩
theorem O9 (a b:List Bs):BO (a++b)=BO a++BO b:=List.map_append
theorem Rd.str {w:World} {A:Option Addr} {n k:Nat} {ws:List Bs} (r:Rd w A n (BO ws)) (d:k<n): ∃a,A=some a∧w.cell? (a.add k)=some (.string ⟨(ws.getD k []).toArray⟩):=by
 obtain⟨a,rfl,c⟩:=r.2 Aa;refine⟨a,rfl,?_⟩;have b:k<ws.length:=by have:=r.1;unfold BO at this;simp at this;omega
 rw[c k d];unfold BO;rw[List.getElem?_map,Db b,DE,Db b]
 rfl
theorem Rd.strl {w:World} {A:Option Addr} {n:Nat} {ws:List Bs} (r:Rd w A n (BO ws)):ws.length=n:=by have:=r.1;unfold BO at this;simpa using this
theorem Wl:(prog.info? 9).map (λi=>(i.zero.map (·.cells.size),i.size,i.bytes))=some (some 1,1,16):=We51ceQ
theorem Eu {f:Array Oper} {c:List Oper} {o:Oper} {a:Act} {Q:Exit->Act->World->Prop} {w:World} {s:ByteArray} {e:TypeId} (l:o.guard=none) (m x:Operand)
  (ho:o.op=.call {callee:=.builtin .append,args:= #[m,x],argTypes:= #[22,22]})
  (base:Nat) (v:Value) (n:Nat) (ws:List Bs) (p:Bs) (hs:a.eval m=v) (B:a.eval x=.slice (some ⟨w,0,none⟩) 1 1)
  (b:w.ownsRow base 9 1 v n (BO ws)) (A:s=⟨p.toArray⟩) (z:n+1<=1099511627776) (d:base<=w)
  (h: ∀j g,g.ownsRow base 9 1 j (n+1) (BO (ws++ [p]))->Below base w g->wpList prog f Q c (a.put o.dst j) g):
  wpList prog f Q (o::c) a (w.alloc (.cells #[.string s] e)):=by
 subst A;refine JR l m x _ ho 9 1 16 underlying22 Wl Ah base v n (BO ws) hs (b.alloc _) (some ⟨w,0,none⟩) 1 1 [.string ⟨p.toArray⟩] B ?_ ?_ z Ah Bq ?_
 ·exact(Br w e #[.string ⟨p.toArray⟩]).rd rfl (λi hi=>by obtain rfl:i=0:=Aa;rfl)
 ·intro u q;rw[DD] at q;subst q
  rfl
 ·intro j g r t C;refine h j g (by rw[O9];exact r) (((AP _ _).alloc d _).trans ((AP _ _).grown t Bq (λk y=>(b.lt k y).1)))
theorem IM (s:ByteArray) (f k:Nat):s.extract f k=⟨((s.data.toList.drop f).take (k-f)).toArray⟩:=by
 have h:(s.extract f k).data=s.data.extract f k:=ByteArray.data_extract;refine ByteArray.ext ?_;rw[h];refine Array.ext' ?_;rw[Array.toList_extract]
def SF (c:UInt8) (l:Bs) (k f:Nat) (ws:List Bs):Prop:=(k<=l.length∧f<=k∧splitC c l=ws++splitC c (l.drop f)∧c∉(l.drop f).take (k-f))∨(k=l.length+1∧splitC c l=ws)
theorem SF.start (c:UInt8) (l:Bs):SF c l 0 0 []:=.inl ⟨AZ _,Cp _,rfl,by simp⟩
theorem SF.last {c:UInt8} {l:Bs} {f:Nat} {ws:List Bs} (h:SF c l l.length f ws):splitC c l=ws++ [(l.drop f).take (l.length-f)]:=by
 rcases h with⟨_,d,b,a⟩|⟨h,_⟩
 ·have e:(l.drop f).take (l.length-f)=l.drop f:=ED (by rw[JW];exact Cp _)
  rw[e] at a⊢;rw[b,Fl a]
 ·omega
theorem SF.hit {c:UInt8} {l:Bs} {k f:Nat} {ws:List Bs} (h:SF c l k f ws) (g:k<l.length) (d:l[k]=c):SF c l (k+1) (k+1) (ws++ [(l.drop f).take (k-f)]):=by
 rcases h with⟨_,i,a,b⟩|⟨h,_⟩
 ·refine .inl ⟨by omega,Cp _,?_,by simp⟩
  have e:l.drop f=(l.drop f).take (k-f)++c::l.drop (k+1):=by
   conv=>lhs;rw[<-List.take_append_drop (k-f) (l.drop f)]
   rw[List.drop_drop,show f+(k-f)=k by omega,List.drop_eq_getElem_cons g,d]
  rw[a,List.append_assoc]
  conv=>lhs;rw[e]
  rw[jx _ b]
  rfl
 ·omega
theorem SF.miss {c:UInt8} {l:Bs} {k f:Nat} {ws:List Bs} (h:SF c l k f ws) (j:k<l.length) (g: ¬l[k]=c):SF c l (k+1) f ws:=by
 rcases h with⟨_,i,b,d⟩|⟨h,_⟩
 ·refine .inl ⟨by omega,by omega,b,?_⟩
  have a:k-f<(l.drop f).length:=by rw[JW];omega
  rw[show k+1-f=k-f+1 by omega,List.take_succ_eq_append_getElem a,List.mem_append,DD]
  rintro(h|h)
  ·exact d h
  ·rw[List.getElem_drop] at h;have e:f+(k-f)=k:=Aa;simp only[e] at h;exact g h.symm
 ·omega
theorem SF.len {c:UInt8} {l:Bs} {k f:Nat} {ws:List Bs} (h:SF c l k f ws):k<=l.length+1∧(k<=l.length->f<=k):=by
 rcases h with⟨b,a,_⟩|⟨h,_⟩
 ·exact⟨by omega,λ_=>a⟩
 ·exact⟨by omega,λc=>by omega⟩
theorem Fz (s:ByteArray) (c:UInt8) (w:World) (hs:s.size<=1048576):
  Calls prog 60 #[.string s,.int .u8 (c.toNat:Int)] w λe t=> ∃B d,e=.returned (.slice B (splitC c s.data.toList).length d)∧Rd t B (splitC c s.data.toList).length (BO (splitC c s.data.toList))∧(splitC c s.data.toList).length<=d∧Below w w t:=by
 have M:s.data.toList.length=s.size:=Cr
 go_enter func60,ntmps60
 go_wp2_with fail
 go_loopw [5,6,7] (λv f i wr=> ∃(k q:Nat) (l:List Bs),k<=s.size+1∧i=.int .i64 k∧f=.int .i64 q∧SF c s.data.toList k q l∧l.length<=k∧wr.ownsRow w.heap.size 9 1 v l.length (BO l)∧Below w w wr) (λ_ _ i _=>s.size+1-(intOf i).toNat)
 case atStart=>exact⟨0,0,[],by omega,rfl,rfl,SF.start c _,Cp _,FI w _,(AP _ _).alloc Bk _⟩
 case round=>
  obtain⟨k,q,l,T,rfl,rfl,y,R,j,b⟩:=hrel;have z:=y.len;have r:=Ai y;clear y;have p:=b.size
  by_cases N:k<=s.size
  ·have Q:=z.2 Aa;have H:=IM s q k
   by_cases L:k=s.size
   ·subst L
    have n:Hid (SF c s.data.toList (s.size+1) (s.size+1) (l++ [(s.data.toList.drop q).take (s.size-q)])):=by
     have:=r.out;rw[<-M] at this⊢;exact .inr ⟨rfl,this.last⟩
    go_wp2_with (at_builtin;refine Eu rfl _ _ rfl w.heap.size _ l.length l ((s.data.toList.drop q).take (s.size-q)) rfl rfl j rfl Aa p ?_;intro S t g a)
    go_roundw
    case rel=>exact⟨s.size+1,s.size+1,_,Cp _,by go_num,by go_num,n.out,by simp;omega,by simpa using g,b.trans a⟩
    case measure=>simp[intOf]
   ·have O:k<s.size:=Aa;have E:(k:Int)<(s.size:Int):=Aa;have F: ¬(k:Int)=(s.size:Int):=Aa;have m:s.data.toList[k]'Aa=s[k]:=rfl;have u:Hid (s[k]=c->SF c s.data.toList (k+1) (k+1) (l++ [(s.data.toList.drop q).take (k-q)])):=λh=>r.out.hit Aa (by rw[m];exact h)
    have x:Hid (¬s[k]=c->SF c s.data.toList (k+1) q l):=λh=>r.out.miss Aa (by rw[m];exact h)
    by_cases A:s[k]=c
    ·have n:=Ai (u.out A);clear u x m
     go_wp2_with (at_builtin;refine Eu rfl _ _ rfl w.heap.size _ l.length l ((s.data.toList.drop q).take (k-q)) rfl rfl j rfl Aa p ?_;intro S t g a)
     go_roundw
     case rel=>exact⟨k+1,k+1,_,by omega,by go_num,by go_num,n.out,by simp;omega,by simpa using g,b.trans a⟩
     case measure=>simp[intOf];omega
    ·have n:=Ai (x.out A);have J: ¬s[k].toNat=c.toNat:=λh=>A (UInt8.toNat_inj.1 h);have C: ¬(s[k].toNat:Int)=(c.toNat:Int):=Aa;have I:((s[k].toNat:Int)==(c.toNat:Int))=false:=by rw[Ea];exact C
     clear u x m H
     go_wp2_with fail
     go_roundw
     case rel=>exact⟨k+1,q,l,by omega,by go_num,rfl,n.out,by omega,j,b⟩
     case measure=>simp[intOf];omega
  ·obtain rfl:k=s.size+1:=Aa
   have G:splitC c s.data.toList=l:=by
    rcases r.out with⟨h,_⟩|⟨_,h⟩
    ·omega
    ·exact h
   obtain⟨B,d,rfl,D,-,K,-⟩:=Gy j
   go_wp2_with fail
   go_ret;rw[G];exact⟨B,d,rfl,D,K,b⟩
theorem XJ {c:UInt8} (h: ¬Fp c=true):(c.toNat:Int)<48∨ ¬(c.toNat:Int)<48∧57<(c.toNat:Int):=by
 have:=Tx (JV.2 h);omega
theorem Xk {l:Bs} (h:l.length<1∨12<l.length):valB l=false:=by
 rw[JV];intro c;unfold valB at c;simp only[CD,BP] at c;omega
theorem dD {l:Bs} {k:Nat} (a:k<l.length) (h: ¬Fp l[k]=true):valB l=false:=by
 rw[JV];intro c;unfold valB at c;simp only[CD,BP,List.all_eq_true] at c;exact h (c.2.1 _ (EH a))
theorem aP {l:Bs} (a:1<=l.length) (b:l.length<=12) (c:l.all Fp=true):valB l=decide (Lib.decDigits (valN l)=l):=by
 unfold valB;rw[BC a,BC b,c]
 simp
theorem Hh (s:ByteArray) (w:World) (hs:s.size<=1048576):
  Calls prog 160 #[.string s] w λe I=> ∃m:Int,e=.returned (.tuple (Ly m (valB s.data.toList)))∧(valB s.data.toList=true->m=(valN s.data.toList:Int))∧(0<=m∧m<=1000000000000)∧Below w w I:=by
 have R:s.data.toList.length=s.size:=Cr
 by_cases M:(s.size:Int)<1
 ·have HV:=Ai (Xk (l:=s.data.toList) (.inl Aa))
  go_enter func160,ntmps160
  go_wp2;refine AS (v:=.tuple #[ZI 0,.bool false]) (by simp[results,results160,go_sem]) rfl ?_
  rw[HV.out];exact⟨0,rfl,(λh=>by cases h),by omega,AP _ _⟩
 by_cases N:(12:Int)<(s.size:Int)
 ·have HV:=Ai (Xk (l:=s.data.toList) (.inr Aa))
  go_enter func160,ntmps160
  go_wp2;refine AS (v:=.tuple #[ZI 0,.bool false]) (by simp[results,results160,go_sem]) rfl ?_
  rw[HV.out];exact⟨0,rfl,(λh=>by cases h),by omega,AP _ _⟩
 go_enter func160,ntmps160
 go_wp2
 go_loop [4,5] (λn i=> ∃k:Nat,k<=s.size∧i=.int .i64 k∧n=.int .i64 (valN (s.data.toList.take k):Int)∧(s.data.toList.take k).all Fp=true∧valN (s.data.toList.take k)<10 ^ k) (λ_ i=>s.size-(intOf i).toNat)
 case atStart=>exact⟨0,AZ _,rfl,rfl,rfl,by simp[valN]⟩
 case round=>
  obtain⟨k,Q,rfl,rfl,g,x⟩:=hrel;have b:10 ^ k<=10 ^ 12:=Nat.pow_le_pow_right Ah Aa;have d:valN (s.data.toList.take k)<=1000000000000:=Aa
  by_cases j:k<s.size
  ·have z:(k:Int)<(s.size:Int):=Aa;have O:s[k].toNat<256:=s[k].toNat_lt
   by_cases a:Fp s[k]=true
   ·obtain⟨K,L⟩:=W5 a;have G: ¬(s[k].toNat:Int)<48:=Aa;have H: ¬(57:Int)<(s[k].toNat:Int):=Aa
    have y:Hid (valN (s.data.toList.take (k+1))=valN (s.data.toList.take k)*10+(s[k].toNat-48)):=by
     rw[Em s k j];exact QJ _ _
    have C:Hid ((s.data.toList.take (k+1)).all Fp=true):=by
     unfold Hid;rw[Em s k j,List.all_append,g]
     simp[a]
    have E:Hid (valN (s.data.toList.take (k+1))<10 ^ (k+1)):=by
     unfold Hid;rw[y.out,Nat.pow_succ];omega
    clear a g x b;generalize valN (s.data.toList.take k)=c at*;have S:IntKind.u8.wrap ((s[k].toNat:Int)-48)=(s[k].toNat:Int)-48:=IntWalk.u8_in _ Aa;have T:=Bg (10*(c:Int));have U:=Bg (10*(c:Int)+((s[k].toNat:Int)-48));have V:=Bg ((s[k].toNat:Int)-48);go_wp2
    go_round
    case rel=>exact⟨k+1,by omega,by go_num,by rw[y.out];exact AN (Value.int .i64) Aa,C.out,E.out⟩
    case measure=>simp[intOf];omega
   ·have HV:=Ai (dD (l:=s.data.toList) (k:=k) Aa a);clear g x b d;generalize valN (s.data.toList.take k)=c at*;rcases XJ a with hx|⟨hx,hy⟩
    all_goals
     clear a;go_wp2;refine AS (v:=.tuple #[ZI 0,.bool false]) (by simp[results,results160,go_sem]) rfl ?_
     rw[HV.out];exact⟨0,rfl,(λh=>by cases h),by omega,AP _ _⟩
  ·obtain rfl:k=s.size:=Aa;have A:s.data.toList.take s.size=s.data.toList:=ED Aa;rw[A] at g d⊢;have HV:=Ai (aP Aa Aa g);have D:=Ai (Sa s);clear g x b A;generalize B:valN s.data.toList=u at*;have F:=Ai B;clear B
   by_cases f:Lib.decDigits u=s.data.toList
   ·have r:(⟨(Lib.decDigits u).toArray⟩:ByteArray)=s:=by rw[f,D.out]
    have p:Hid (valB s.data.toList=true):=by unfold Hid;rw[HV.out,BC f]
    clear f
    go_wp2_with fail
    refine(Ct u _ Aa).mono ?_;rintro e J ⟨rfl,q⟩;rw[r];go_wp2;refine AS (v:=.tuple (Ly u true)) (by simp[results,results160,go_sem]) rfl ?_
    rw[p.out];exact⟨u,rfl,(λ_=>by rw[F.out]),by omega,q⟩
   ·have t: ¬Lib.decDigits u=s.toList:=by rw[ByteArray.toList_eq];exact f
    have p:Hid (valB s.data.toList=false):=by unfold Hid;rw[HV.out,BR f]
    clear f
    go_wp2_with fail
    refine(Ct u _ Aa).mono ?_;rintro e J ⟨rfl,q⟩;go_wp2;refine AS (v:=.tuple (Ly u false)) (by simp[results,results160,go_sem,t]) rfl ?_
    rw[p.out];exact⟨u,rfl,(λh=>by cases h),by omega,q⟩
theorem Jn (s:ByteArray) (w:World) (hs:s.size<=1048576):
  Calls prog 120 #[.string s] w λe C=> ∃m:Int,e=.returned (.tuple (Ly m (MX s.data.toList)))∧(MX s.data.toList=true->m=sgN s.data.toList)∧Below w w C:=by
 have i:s.data.toList.length=s.size:=Cr
 by_cases E:(0:Int)<(s.size:Int)
 case neg=>
  have n:s.data.toList= []:=Pt Aa;have hv:=Hh s w hs;rw[n] at hv⊢
  go_enter func120,ntmps120
  go_wp2_with fail
  refine hv.mono ?_;rintro e z ⟨m,rfl,g,-,f⟩;go_wp2;refine AS (v:=.tuple (Ly m false)) (by simp[results,results120,go_sem];rfl) rfl ?_
  exact⟨m,rfl,(λh=>by cases h),f⟩
 have D:0<s.size:=Aa
 obtain⟨c,r,b⟩: ∃c r,s.data.toList=c::r:=by
  rcases h:s.data.toList with _|⟨c,r⟩
  ·rw[h] at i;simp at i;omega
  ·exact⟨c,r,rfl⟩
 have hc0:s[0]=c:=by
  show s.data.toList[0]'Aa=c
  simp[b]
 by_cases a:c.toNat=45
 ·have j:=Ai (Sn (r:=r) a);have q:=Ai (iI (r:=r) a)
  have F:s.extract 1 s.size=⟨r.toArray⟩:=by
   rw[IM,b];have:r.length=s.size-1:=by rw[b] at i;simp at i;omega
   rw[List.drop_one,List.tail_cons,ED Aa]
  have x:=Bj r;have A:r.length<=1048576:=by rw[b] at i;simp at i;omega
  have hv:=Hh ⟨r.toArray⟩ w (by rw[x];exact A)
  rw[Lp] at hv;rw[b];have k:s[0].toNat=45:=by rw[hc0];exact a
  clear b hc0 a
  go_enter func120,ntmps120
  go_wp2_with fail
  refine hv.mono ?_;rintro e z ⟨m,rfl,g,u,f⟩;have H:=Bg (-m);rcases jt (valB r) with hb|hb
  ·have t:=g hb;subst t
   by_cases G:(0:Int)<(valN r:Int)
   ·have d:Hid (MX (c::r)=true):=by unfold Hid;rw[j.out,hb,BC Aa];rfl
    have p:0<valN r:=Aa;rw[hb];clear g hb;go_wp2;refine AS (v:=.tuple (Ly (-(valN r:Int)) true)) (by simp[results,results120,go_sem]) rfl ?_
    rw[d.out];exact⟨-(valN r:Int),rfl,(λ_=>by rw[q.out]),f⟩
   ·have d:Hid (MX (c::r)=false):=by unfold Hid;rw[j.out,hb,BR Aa];rfl
    have p:valN r=0:=Aa;rw[hb];clear g hb;go_wp2;refine AS (v:=.tuple (Ly (-(valN r:Int)) false)) (by simp[results,results120,go_sem,p]) rfl ?_
    rw[d.out];exact⟨-(valN r:Int),rfl,(λh=>by cases h),f⟩
  ·have d:Hid (MX (c::r)=false):=by unfold Hid;rw[j.out,hb];rfl
   rw[hb];clear g hb;go_wp2;refine AS (v:=.tuple (Ly (-m) false)) (by simp[results,results120,go_sem]) rfl ?_
   rw[d.out];exact⟨-m,rfl,(λh=>by cases h),f⟩
 ·have j:=Ai (So (r:=r) a);have q:=Ai (Sr (r:=r) a);have hv:=Hh s w hs;rw[b] at hv⊢;rw[j.out,q.out];generalize valB (c::r)=B at*;have k: ¬s[0].toNat=45:=by rw[hc0];exact a
  have l: ¬(s[0].toNat:Int)=45:=Aa;have y:((s[0].toNat:Int)==45)=false:=by rw[Ea];exact l
  clear b hc0 a
  go_enter func120,ntmps120
  go_wp2_with fail
  refine hv.mono ?_;rintro e z ⟨m,rfl,g,u,f⟩;go_wp2;refine AS (v:=.tuple (Ly m B)) (by simp[results,results120,go_sem]) rfl ?_
  exact⟨m,rfl,g,f⟩
theorem Of (A:Option Addr) (n c:Nat) (ws:List Bs) (w:World) (V:n<=1048576) (I:Rd w A n (BO ws)) (hw: ∀x∈ws,x.length<=1048576):
  Calls prog 93 #[.slice A n c] w λe F=>((C7 ws=true∧ ∃B d,e=.returned (.tuple #[.slice B n d,.bool true])∧Rd F B n (ints (ws.map sgN))∧n<=d)∨(C7 ws=false∧e=.returned (.tuple #[.slice none 0 0,.bool false])))∧Below w w F:=by
 have U:=I.strl
 go_enter func93,ntmps93
 go_wp2_with fail
 go_loopw [4,5] (λv i wr=> ∃k:Nat,k<=n∧i=.int .i64 k∧C7 (ws.take k)=true∧wr.ownsRow w.heap.size 2 1 v k (ints ((ws.take k).map sgN))∧Below w w wr) (λ_ i _=>n-(intOf i).toNat)
 case atStart=>exact⟨0,AZ _,rfl,rfl,FI w _,(AP _ _).alloc Bk _⟩
 case round=>
  obtain⟨k,T,rfl,s,a,b⟩:=hrel;have z:=b.size
  by_cases C:k<n
  ·have H:(k:Int)<(n:Int):=Aa;have N:(0:Int)<=(k:Int):=Aa;obtain⟨S,rfl,W⟩:=(I.below b).str C;have g:k<ws.length:=Aa;have f:ws.getD k []=ws[k]:=by rw[DE,Db g];rfl
   have O:=hw (ws.getD k []) (by rw[f];exact EH g)
   have J:Hid (C7 (ws.take (k+1))=MX (ws.getD k [])):=by
    unfold Hid C7 at*;rw[List.take_succ_eq_append_getElem g,List.all_append,s,f]
    simp
   have L:Hid ((ws.take (k+1)).map sgN=(ws.take k).map sgN++ [sgN (ws.getD k [])]):=by
    unfold Hid;rw[List.take_succ_eq_append_getElem g,List.map_append,f]
    rfl
   have K:Hid (MX (ws.getD k [])=false->C7 ws=false):=λh=>by
    unfold C7;rw[JV];intro c;have:=List.all_eq_true.1 c _ (EH g);rw[<-f,h] at this
    cases this
   clear f s;generalize ws.getD k []=x at*;have E:=Bj x;have hv:=Jn ⟨x.toArray⟩ wr (by rw[E];exact O)
   rw[Lp] at hv
   go_wp2_with fail
   refine hv.mono ?_;rintro e Y ⟨m,rfl,l,G⟩;have y:=b.trans (G.mono z);have r:=y.size;have q:=Ef a G;clear a;rcases jt (MX x) with hb|hb
   ·have Q:=l hb;have t:Hid (C7 (ws.take (k+1))=true):=by unfold Hid;rw[J.out,hb]
    rw[hb];clear l hb hv
    go_wp2_with (at_builtin;refine Et rfl _ _ rfl w.heap.size _ k ((ws.take k).map sgN) rfl rfl q Aa r ?_;intro X F p j _ _)
    go_roundw
    case rel=>exact⟨k+1,by omega,by go_num,t.out,by rw[L.out];exact p,y.trans j⟩
    case measure=>simp[intOf];omega
   ·have u:=Ai (K.out hb);rw[hb];clear l hb hv;go_wp2;refine AS (v:=.tuple #[.slice none 0 0,.bool false]) (by simp[results,results93,go_sem]) rfl ?_
    exact⟨.inr ⟨u.out,rfl⟩,y⟩
  ·obtain rfl:k=n:=Aa;have R:ws.take k=ws:=ED Aa;rw[R] at s a;obtain⟨B,d,rfl,D,-,M,-⟩:=Gy a;go_wp2;refine AS (v:=.tuple #[.slice B k d,.bool true]) (by simp[results,results93,go_sem]) rfl ?_
   exact⟨.inl ⟨s,B,d,rfl,D,M⟩,b⟩
theorem Ky (w:World) (a b:Int) (e:TypeId):(w.alloc (.cells (Zii a b) e)).ownsRow w.heap.size e 1 (.slice (some ⟨w,0,none⟩) 2 2) 2 (ints [a,b]):=
 ⟨rfl,.inr ⟨w.heap.size,2,(Zii a b),rfl,Cp _,heap_alloc_new w _,Cp _,by unfold maxLen;omega,rfl,rfl⟩⟩
theorem Qf {w:World} {g:Nat} {t:TypeId} {cs:Array Value} (h:Blk w g t cs):Blk w.drew g t cs:=h
theorem W8 (w:World) (xs:List Int) (e:TypeId) (n:Nat) (a:xs.length=n):Rd (w.alloc (.cells (ints xs).toArray e)) (some ⟨w,0,none⟩) n (ints xs):=by
 subst a;refine⟨by simp[ints],λ_=>⟨_,rfl,λi hi=> ?_⟩⟩
 rw[CE,(Br w e (ints xs).toArray).cell]
 simp
theorem JP {f:R7} (h:f.ok=true):f.tx.length<=200:=by
 have a:=R7.of_ns h;have b:=IR [32] f.ns (λx c=>by have:=a.2.1 x c;omega)
 have d:f.ns.length<=6:=by
  unfold R7.ns
  split
  ·simp
  ·split<;>simp
 unfold R7.tx;simp at b⊢;omega
theorem VH {f:R7} (h:f.ok=true):f.ln.length<=300:=by
 have a:=JP h;have b:=CV f.tx;have c:=Bm (chkFold f.tx) Aa Aa;unfold R7.ln
 simp
 omega
def R7.V (f:R7):Value:=.agg (AD f.t f.k f.l f.x f.y f.d f.r)
theorem Oz (f:R7) (w:World) (u:f.ok=true) (T:CK w):
  (BT 198 #[f.V] w (.string ⟨f.ln.toArray⟩):Prop):=by
 obtain⟨-,hc⟩:=R7.cases u;obtain⟨t,k,l,x,y,d,r⟩:=f;unfold R7.V;simp only at hc⊢;have hk:k=1∨k=2∨k=3:=Aa;clear hc;rcases hk with rfl|rfl|rfl
 ·have j:Hid ((⟨t,1,l,x,y,d,r⟩:R7).tx=joinI [32] [t,1,l]):=rfl;have m:=Ai (JP u);have g:Hid ((⟨t,1,l,x,y,d,r⟩:R7).ln=(⟨t,1,l,x,y,d,r⟩:R7).tx++ [32,35]++Lib.itoa (chkFold (⟨t,1,l,x,y,d,r⟩:R7).tx)):=rfl
  have c:Hid (∀z∈ [t,1,l],-9223372036854775808<z∧z<=9223372036854775807):=λz S=>by
   have:=(R7.of_ns u).2.1 z S;omega
  generalize(⟨t,1,l,x,y,d,r⟩:R7).ln=Z at*;generalize(⟨t,1,l,x,y,d,r⟩:R7).tx=a at*;clear u
  go_enter func198,ntmps198
  go_upto_region 1 with fail
  generalize E:w.alloc _=b;obtain⟨v,A⟩:=EX E;clear E;have c0:=v.cell;have g0:=v.lt;have H:=A.size;have I:Below w w (b.alloc (.cells (Zii t 1) 2)):=A.alloc H _;have Y:=λ(z:Array Value)=>Qf (Blk.new2 b (.cells #[.int .i64 t,.int .i64 1] 2) (.cells #[.int .i64 l] 2) 2 (#[.int .i64 t,.int .i64 1,.int .i64 l]++z));have X:=λ(z:Array Value)=>(show Below w w (((b.alloc (.cells #[.int .i64 t,.int .i64 1] 2)).alloc (.cells #[.int .i64 l] 2)).alloc (.cells (#[.int .i64 t,.int .i64 1,.int .i64 l]++z) 2)).drew from Ax);clear I
  go_wp2_with fail
  generalize(Question.appendCap 3 2 2).cut (b.tape b.drawn (Question.appendCap 3 2 2))=U;generalize Builtin.zeroCells #[Value.int .i64 0] (U-3)=zz
  have s:=Blk.rd (n:=3) (us:=ints [t,1,l]) (Y zz) rfl (λi hi=>by
   rw[Array.getElem?_append_left (show i<(#[Value.int .i64 t,ZI 1,ZI l]:Array Value).size from hi)]
   match i,hi with
   |0,_=>rfl
   |1,_=>rfl
   |2,_=>rfl)
  have C:=X zz;clear Y X;refine(FN _ 3 _ [t,1,l] [32] _ Aa Ah s c.out (T.below C)).mono ?_;rw[<-j.out];rintro e w2 ⟨rfl,J⟩;have D:=An C J;have R:=m.out;have N:=CV a;have p:=Bj a
  go_wp2_with fail
  refine(Dn ⟨a.toArray⟩ _ (by rw[p];unfold maxLen;omega)).mono ?_
  rintro e w3 ⟨rfl,rfl⟩
  go_wp2_with fail
  refine(BY (chkFold a) _ Aa Aa (T.below D)).mono ?_;rintro e w4 ⟨rfl,K⟩;have L:=An D K;have M:=AY a [32,35];have O:=Bm (chkFold a) Aa Aa
  go_wp2_with fail
  go_ret;exact⟨by rw[g.out,<-AY,<-AY];first|rfl|(rw[M]),L⟩
 ·have j:Hid ((⟨t,2,l,x,y,d,r⟩:R7).tx=joinI [32] [t,2,x,y,d,r]):=rfl;have m:=Ai (JP u);have g:Hid ((⟨t,2,l,x,y,d,r⟩:R7).ln=(⟨t,2,l,x,y,d,r⟩:R7).tx++ [32,35]++Lib.itoa (chkFold (⟨t,2,l,x,y,d,r⟩:R7).tx)):=rfl
  have c:Hid (∀z∈ [t,2,x,y,d,r],-9223372036854775808<z∧z<=9223372036854775807):=λz S=>by
   have:=(R7.of_ns u).2.1 z S;omega
  generalize(⟨t,2,l,x,y,d,r⟩:R7).ln=Z at*;generalize(⟨t,2,l,x,y,d,r⟩:R7).tx=a at*;clear u
  go_enter func198,ntmps198
  go_upto_region 1 with fail
  generalize E:w.alloc _=b;obtain⟨v,A⟩:=EX E;clear E;have c0:=v.cell;have g0:=v.lt;have H:=A.size;have q:=Ky b t 2 2;have I:Below w w (b.alloc (.cells (Zii t 2) 2)):=A.alloc H _;have W:b<=(b.alloc (.cells (Zii t 2) 2)).heap.size:=Cr
  have Q:Rd ((b.alloc (.cells (Zii t 2) 2)).alloc (.cells (Ziiii x y d r) 2)) (some ⟨b+1,0,none⟩) 4 (ints [x,y,d,r]):=by
   have h:=W8 (b.alloc (.cells (Zii t 2) 2)) [x,y,d,r] 2 4 rfl;rw[Ab] at h;exact h
  go_wp2_with (at_builtin;refine DC rfl _ _ rfl b.heap.size _ 2 [t,2] [x,y,d,r] _ 4 4 rfl rfl (q.alloc _) Q Aa Bq ?_;intro v1 w1 G F _ _)
  obtain⟨B,U,rfl,s,-,-,-⟩:=Gy G;have C:=I.trans ((((AP _ _).alloc W _).trans F).mono H)
  go_wp2_with fail
  refine(FN _ 6 _ [t,2,x,y,d,r] [32] _ Aa Ah s c.out (T.below C)).mono ?_;rw[<-j.out];rintro e w2 ⟨rfl,J⟩;have D:=An C J;have R:=m.out;have N:=CV a;have p:=Bj a
  go_wp2_with fail
  refine(Dn ⟨a.toArray⟩ _ (by rw[p];unfold maxLen;omega)).mono ?_
  rintro e w3 ⟨rfl,rfl⟩
  go_wp2_with fail
  refine(BY (chkFold a) _ Aa Aa (T.below D)).mono ?_;rintro e w4 ⟨rfl,K⟩;have L:=An D K;have M:=AY a [32,35];have O:=Bm (chkFold a) Aa Aa
  go_wp2_with fail
  go_ret;exact⟨by rw[g.out,<-AY,<-AY];first|rfl|(rw[M]),L⟩
 ·have j:Hid ((⟨t,3,l,x,y,d,r⟩:R7).tx=joinI [32] [t,3]):=rfl;have m:=Ai (JP u);have g:Hid ((⟨t,3,l,x,y,d,r⟩:R7).ln=(⟨t,3,l,x,y,d,r⟩:R7).tx++ [32,35]++Lib.itoa (chkFold (⟨t,3,l,x,y,d,r⟩:R7).tx)):=rfl
  have c:Hid (∀z∈ [t,3],-9223372036854775808<z∧z<=9223372036854775807):=λz S=>by
   have:=(R7.of_ns u).2.1 z S;omega
  generalize(⟨t,3,l,x,y,d,r⟩:R7).ln=Z at*;generalize(⟨t,3,l,x,y,d,r⟩:R7).tx=a at*;clear u
  go_enter func198,ntmps198
  go_upto_region 1 with fail
  generalize E:w.alloc _=b;obtain⟨v,A⟩:=EX E;clear E;have c0:=v.cell;have g0:=v.lt;have H:=A.size;have q:=Ky b t 3 2;have I:Below w w (b.alloc (.cells (Zii t 3) 2)):=A.alloc H _;obtain⟨B,U,hv,s,-,-,-⟩:=Gy q;injection hv with hv1 hv2 hv3;subst hv1 hv3;have C:=I
  go_wp2_with fail
  refine(FN _ 2 _ [t,3] [32] _ Aa Ah s c.out (T.below C)).mono ?_;rw[<-j.out];rintro e w2 ⟨rfl,J⟩;have D:=An C J;have R:=m.out;have N:=CV a;have p:=Bj a
  go_wp2_with fail
  refine(Dn ⟨a.toArray⟩ _ (by rw[p];unfold maxLen;omega)).mono ?_
  rintro e w3 ⟨rfl,rfl⟩
  go_wp2_with fail
  refine(BY (chkFold a) _ Aa Aa (T.below D)).mono ?_;rintro e w4 ⟨rfl,K⟩;have L:=An D K;have M:=AY a [32,35];have O:=Bm (chkFold a) Aa Aa
  go_wp2_with fail
  go_ret;exact⟨by rw[g.out,<-AY,<-AY];first|rfl|(rw[M]),L⟩
theorem JL (f:R7) (w:World) (E:f.ok=true):
  (BT 168 #[f.V] w (.string ⟨f.ln.toArray⟩):Prop):=by
 obtain⟨-,hc⟩:=R7.cases E;obtain⟨t,k,l,x,y,d,r⟩:=f;unfold R7.V;simp only at hc⊢;have hk:k=1∨k=2∨k=3:=Aa;have J:Hid (recB t k l x y d r=true):=E;clear hc;have D:=Br w 67 (AD t k l x y d r);have ba:Below w w (w.alloc (.cells (AD t k l x y d r) 67)):=BU
 go_enter func168,ntmps168
 go_wp2_with fail
 refine(Dt t k l x y d r _).mono ?_;rw[J.out];rintro e p ⟨rfl,Y⟩;have H:=An ba Y;have D:=D.below Y D.lt;clear ba Y J;rcases hk with rfl|rfl|rfl
 ·have s:Hid ((⟨t,1,l,x,y,d,r⟩:R7).tx=joinI [32] [t,1,l]):=rfl;have u:=Ai (JP E);have g:Hid ((⟨t,1,l,x,y,d,r⟩:R7).ln=(⟨t,1,l,x,y,d,r⟩:R7).tx++ [32,35]++Lib.itoa (chkFold (⟨t,1,l,x,y,d,r⟩:R7).tx)):=rfl
  have q:Hid (∀z∈ [t,1,l],-9223372036854775808<z∧z<=9223372036854775807):=λz X=>by
   have:=(R7.of_ns E).2.1 z X;omega
  generalize(⟨t,1,l,x,y,d,r⟩:R7).tx=b at*;have c0:=D.cell;have g0:=D.lt;have I:=H.size;have K:Below w w (p.alloc (.cells (Zii t 1) 2)):=H.alloc I _;have KZ:=λ(z:Array Value)=>Qf (Blk.new2 p (.cells #[.int .i64 t,.int .i64 1] 2) (.cells #[.int .i64 l] 2) 2 (#[.int .i64 t,.int .i64 1,.int .i64 l]++z));have BZ:=λ(z:Array Value)=>(show Below w w (((p.alloc (.cells #[.int .i64 t,.int .i64 1] 2)).alloc (.cells #[.int .i64 l] 2)).alloc (.cells (#[.int .i64 t,.int .i64 1,.int .i64 l]++z) 2)).drew from Ax);clear K
  go_wp2_with fail
  generalize(Question.appendCap 3 2 2).cut (p.tape p.drawn (Question.appendCap 3 2 2))=Z;generalize Builtin.zeroCells #[Value.int .i64 0] (Z-3)=zz
  have C:=Blk.rd (n:=3) (us:=ints [t,1,l]) (KZ zz) rfl (λi hi=>by
   rw[Array.getElem?_append_left (show i<(#[Value.int .i64 t,ZI 1,ZI l]:Array Value).size from hi)]
   match i,hi with
   |0,_=>rfl
   |1,_=>rfl
   |2,_=>rfl)
  have L:=BZ zz;clear KZ BZ;refine(EC _ 3 _ [t,1,l] [32] _ Aa Ah C q.out).mono ?_;rw[<-s.out];rintro e w2 ⟨rfl,M⟩;have N:=An L M;have W:=u.out;have j:=CV b;have v:=Bj b
  go_wp2_with fail
  refine(Do ⟨b.toArray⟩ _ (by rw[v];unfold maxLen;omega)).mono ?_
  rintro e w3 ⟨rfl,rfl⟩;have a:Hid (Lib.itoa (chkFold b)=Lib.decDigits (chkFold b).toNat):=DZ j.1;obtain⟨m,T⟩: ∃m:Nat,chkFold b=(m:Int):=⟨(chkFold b).toNat,by omega⟩
  rw[T] at g a j⊢;have c:=a.out;rw[Int.toNat_natCast] at c;have a:=Ai c;clear c
  go_wp2_with fail
  refine(Ct m _ Aa).mono ?_;rw[<-a.out];rintro e w4 ⟨rfl,O⟩;have Q:=An N O;have R:=AY b [32,35];have S:=Bm (m:Int) Aa Aa
  go_wp2_with fail
  go_ret;exact⟨by rw[g.out,<-AY,<-AY];first|rfl|(rw[R]),Q⟩
 ·have s:Hid ((⟨t,2,l,x,y,d,r⟩:R7).tx=joinI [32] [t,2,x,y,d,r]):=rfl;have u:=Ai (JP E);have g:Hid ((⟨t,2,l,x,y,d,r⟩:R7).ln=(⟨t,2,l,x,y,d,r⟩:R7).tx++ [32,35]++Lib.itoa (chkFold (⟨t,2,l,x,y,d,r⟩:R7).tx)):=rfl
  have q:Hid (∀z∈ [t,2,x,y,d,r],-9223372036854775808<z∧z<=9223372036854775807):=λz X=>by
   have:=(R7.of_ns E).2.1 z X;omega
  generalize(⟨t,2,l,x,y,d,r⟩:R7).tx=b at*;have c0:=D.cell;have g0:=D.lt;have I:=H.size;have A:=Ky p t 2 2;have K:Below w w (p.alloc (.cells (Zii t 2) 2)):=H.alloc I _;have aa:p<=(p.alloc (.cells (Zii t 2) 2)).heap.size:=Cr
  have U:Rd ((p.alloc (.cells (Zii t 2) 2)).alloc (.cells (Ziiii x y d r) 2)) (some ⟨p+1,0,none⟩) 4 (ints [x,y,d,r]):=by
   have h:=W8 (p.alloc (.cells (Zii t 2) 2)) [x,y,d,r] 2 4 rfl;rw[Ab] at h;exact h
  go_wp2_with (at_builtin;refine DC rfl _ _ rfl p.heap.size _ 2 [t,2] [x,y,d,r] _ 4 4 rfl rfl (A.alloc _) U Aa Bq ?_;intro v1 w1 G F _ _)
  obtain⟨B,Z,rfl,C,-,-,-⟩:=Gy G;have L:=K.trans ((((AP _ _).alloc aa _).trans F).mono I)
  go_wp2_with fail
  refine(EC _ 6 _ [t,2,x,y,d,r] [32] _ Aa Ah C q.out).mono ?_;rw[<-s.out];rintro e w2 ⟨rfl,M⟩;have N:=An L M;have W:=u.out;have j:=CV b;have v:=Bj b
  go_wp2_with fail
  refine(Do ⟨b.toArray⟩ _ (by rw[v];unfold maxLen;omega)).mono ?_
  rintro e w3 ⟨rfl,rfl⟩;have a:Hid (Lib.itoa (chkFold b)=Lib.decDigits (chkFold b).toNat):=DZ j.1;obtain⟨m,T⟩: ∃m:Nat,chkFold b=(m:Int):=⟨(chkFold b).toNat,by omega⟩
  rw[T] at g a j⊢;have c:=a.out;rw[Int.toNat_natCast] at c;have a:=Ai c;clear c
  go_wp2_with fail
  refine(Ct m _ Aa).mono ?_;rw[<-a.out];rintro e w4 ⟨rfl,O⟩;have Q:=An N O;have R:=AY b [32,35];have S:=Bm (m:Int) Aa Aa
  go_wp2_with fail
  go_ret;exact⟨by rw[g.out,<-AY,<-AY];first|rfl|(rw[R]),Q⟩
 ·have s:Hid ((⟨t,3,l,x,y,d,r⟩:R7).tx=joinI [32] [t,3]):=rfl;have u:=Ai (JP E);have g:Hid ((⟨t,3,l,x,y,d,r⟩:R7).ln=(⟨t,3,l,x,y,d,r⟩:R7).tx++ [32,35]++Lib.itoa (chkFold (⟨t,3,l,x,y,d,r⟩:R7).tx)):=rfl
  have q:Hid (∀z∈ [t,3],-9223372036854775808<z∧z<=9223372036854775807):=λz X=>by
   have:=(R7.of_ns E).2.1 z X;omega
  generalize(⟨t,3,l,x,y,d,r⟩:R7).tx=b at*;have c0:=D.cell;have g0:=D.lt;have I:=H.size;have A:=Ky p t 3 2;have K:Below w w (p.alloc (.cells (Zii t 3) 2)):=H.alloc I _;obtain⟨B,Z,hv,C,-,-,-⟩:=Gy A;injection hv with hv1 hv2 hv3;subst hv1 hv3;have L:=K
  go_wp2_with fail
  refine(EC _ 2 _ [t,3] [32] _ Aa Ah C q.out).mono ?_;rw[<-s.out];rintro e w2 ⟨rfl,M⟩;have N:=An L M;have W:=u.out;have j:=CV b;have v:=Bj b
  go_wp2_with fail
  refine(Do ⟨b.toArray⟩ _ (by rw[v];unfold maxLen;omega)).mono ?_
  rintro e w3 ⟨rfl,rfl⟩;have a:Hid (Lib.itoa (chkFold b)=Lib.decDigits (chkFold b).toNat):=DZ j.1;obtain⟨m,T⟩: ∃m:Nat,chkFold b=(m:Int):=⟨(chkFold b).toNat,by omega⟩
  rw[T] at g a j⊢;have c:=a.out;rw[Int.toNat_natCast] at c;have a:=Ai c;clear c
  go_wp2_with fail
  refine(Ct m _ Aa).mono ?_;rw[<-a.out];rintro e w4 ⟨rfl,O⟩;have Q:=An N O;have R:=AY b [32,35];have S:=Bm (m:Int) Aa Aa
  go_wp2_with fail
  go_ret;exact⟨by rw[g.out,<-AY,<-AY];first|rfl|(rw[R]),Q⟩
theorem Lk (f:R7) (w:World) (b:f.ok=false):
  (BT 168 #[f.V] w (.string ⟨#[]⟩):Prop):=by
 obtain⟨t,k,l,x,y,d,r⟩:=f;unfold R7.V;simp only;have a:Hid (recB t k l x y d r=false):=b;clear b
 go_enter func168,ntmps168
 go_wp2_with fail
 refine(Dt t k l x y d r _).mono ?_;rw[a.out];rintro e i ⟨rfl,g⟩;have c:=(show Below w w _ from Ax).trans (g.mono C9);go_wp2;go_ret;exact⟨rfl,c⟩
def R7.t0 (f:R7):Bs:=if f.ok=true then f.ln else []
theorem JK (f:R7) (w:World):
  (BT 168 #[f.V] w (.string ⟨f.t0.toArray⟩):Prop):=by
 unfold R7.t0;rcases jt f.ok with h|h
 ·rw[AA h];exact JL f w h
 ·rw[h,Ak Ah];exact Lk f w h
def WZ (xs:List Int) (k:Nat):R7:=⟨xs.getD (k*7) 0,xs.getD (k*7+1) 0,xs.getD (k*7+2) 0,xs.getD (k*7+3) 0,xs.getD (k*7+4) 0,xs.getD (k*7+5) 0,xs.getD (k*7+6) 0⟩
theorem eW (xs:List Int) (k:Nat):(WZ xs k).ok=FY xs k:=rfl
def lgT (xs:List Int) (n:Nat):Bs:=(List.range n).flatMap λk=>(WZ xs k).ln++ [10]
theorem Ol (xs:List Int) (n:Nat):lgT xs (n+1)=lgT xs n++((WZ xs n).ln++ [10]):=by unfold lgT;rw[I6,List.flatMap_append];simp
theorem Kq {xs:List Int} {n:Nat} (h:CP xs n=true): ∀k,k<=n->(lgT xs k).length<=k*301
 |0,_=>AZ _
 |k+1,hk=>by
  have a:=Kq h k Aa;have b:=VH (f:=WZ xs k) (by rw[eW];exact GS h Aa)
  rw[Ol,Dy,Dy];simp only[Gt,List.length_nil];omega
def fE (xs:List Int) (n:Nat):Int:=if FT xs n=true then 0 else 1
def fF (xs:List Int) (n:Nat):Bs:=if FT xs n=true then lgT xs n else []
theorem Vz {xs:List Int} {n:Nat} (h:FT xs n=true):fE xs n=0∧fF xs n=lgT xs n:=by unfold fE fF;simp[h]
theorem fG {xs:List Int} {n:Nat} (h:FT xs n=false):fE xs n=1∧fF xs n= []:=by unfold fE fF;simp[h]
theorem X0 {xs:List Int} {n:Nat} (h:FT xs n=true):CP xs n=true∧n<=200:=by
 unfold FT at h;rw[CD,BP] at h;exact⟨h.1,by omega⟩
def WB (l:Bs):List Value:=l.map λb=>Value.int .u8 (b.toNat:Int)
theorem WC (a b:Bs):WB (a++b)=WB a++WB b:=List.map_append
theorem WD (l:Bs):Lib.strCells ⟨l.toArray⟩=WB l:=rfl
theorem Xj: ∃i,prog.info? 5=some i∧i.zero=some (.int .u8 0)∧i.size=1∧i.bytes=1:=by
 have h:(prog.info? 5).map (λi=>(i.zero,i.size,i.bytes))=some (some (.int .u8 0),1,1):=We51ceQ;rcases h2:prog.info? 5 with _|i
 ·rw[h2] at h;cases h
 ·rw[h2] at h;simp only[Option.map_some,Gs,Prod.mk.injEq] at h;exact⟨i,rfl,h.1,h.2.1,h.2.2⟩
theorem Qa {j:Array Oper} {g:List Oper} {o:Oper} {a:Act} {Q:Exit->Act->World->Prop} {w:World} (q:o.guard=none) (t x:Operand)
  (ho:o.op=.call {callee:=.builtin .append,args:= #[t,x],argTypes:= #[40,9]})
  (base:Nat) (v:Value) (n:Nat) (l s:Bs) (hs:a.eval t=v) (f:w.ownsRow base 5 1 v n (WB l)) (hv:v≠ .slice none 0 0) (D:a.eval x=.string ⟨s.toArray⟩)
  (F:n+s.length<=1099511627776) (d:base<=w)
  (h: ∀m p,p.ownsRow base 5 1 m (n+s.length) (WB (l++s))->m≠ .slice none 0 0->Below base w p->wpList prog j Q g (a.put o.dst m) p):wpList prog j Q (o::g) a w:=by
 obtain⟨i,u,y,z,A⟩:=Xj;have E:=Bj s;refine Lib.wpList_append_own_string w q t x _ _ ho base 5 i underlying40 underlying9 u y z A v n (WB l) hs f ⟨s.toArray⟩ D G9 Aa d ?_;intro m p b B r;rw[E] at b;rw[WD,<-WC] at b;exact h m p b (λc=>hv (r.1 c).1) ((AP _ _).grown B d (λk C=>(f.lt k C).1))
theorem Ui {w:World} {base n:Nat} {v:Value} {l:Bs} (h:w.ownsRow base 5 1 v n (WB l)) (hv:v≠ .slice none 0 0) (i:l.length=n):
  ∃g c,v=.slice (some ⟨g,0,none⟩) n c∧(convert 40 9 v).run prog w=.ok (.string ⟨l.toArray⟩) w:=by
 obtain⟨B,c,rfl,k,-,q,-⟩:=Gy h;subst i;rcases h.2 with⟨e,_⟩|⟨g,d,f,e,_⟩
 ·exact absurd e hv
 ·simp only[Value.slice.injEq] at e;obtain⟨rfl,-,rfl⟩:=e;refine⟨g,_,rfl,run_convert_bytes_back (P:=prog) w _ _ 5 ⟨g,0,none⟩ _ l underlying40 underlying5 underlying9 λj b=> ?_⟩;obtain⟨p,a,m⟩:=k.2 Aa;injection a with a;subst a;rw[m j b];unfold WB;rw[List.getElem?_map,Db b]
  rfl
theorem Uf (A:Option Addr) (n c:Nat) (xs:List Int) (w:World) (hn:n<=200) (g:CP xs n=true) (H:Rd w A (n*7) (ints xs)) (T:CK w):
  (BT 151 #[.slice A n c] w (.string ⟨(lgT xs n).toArray⟩):Prop):=by
 have p:=Ai g;clear g
 go_enter func151,ntmps151
 go_wp2_with fail
 go_loopw [3,8] (λs i wr=> ∃k:Nat,k<=n∧i=.int .i64 k∧s=.string ⟨(lgT xs k).toArray⟩∧Below w w wr) (λ_ i _=>n-(intOf i).toNat)
 case atStart=>exact⟨0,AZ _,rfl,rfl,AP _ _⟩
 case round=>
  obtain⟨k,C,rfl,rfl,b⟩:=hrel
  by_cases f:k<n
  ·have r:(k:Int)<(n:Int):=Aa;have D:(0:Int)<=(k:Int):=Aa;obtain⟨Q,rfl,R,U,X,Y,Z,h5,h6⟩:=(H.below b).seven f;have d:(WZ xs k).ok=true:=GS p.out f;have j:=λ(W:World) (T:CK W)=>Oz (WZ xs k) W d T;have y:=Ai (Ol xs k);have E:=VH d;have F:=Kq p.out k C;have x:=b.size;unfold R7.V at j;generalize l:(WZ xs k).ln=a at*;unfold WZ at j;simp only at j;clear d l;generalize xs.getD (k*7) 0=I at*;generalize xs.getD (k*7+1) 0=J at*;generalize xs.getD (k*7+2) 0=K at*;generalize xs.getD (k*7+3) 0=L at*;generalize xs.getD (k*7+4) 0=M at*;generalize xs.getD (k*7+5) 0=N at*;generalize xs.getD (k*7+6) 0=O at*;generalize lgT xs k=S at*;have t:=Bj a;have u:=Bj S;have hA:((⟨a.toArray⟩:ByteArray)++⟨#[10]⟩)=⟨(a++ [10]).toArray⟩:=AY a [10];have v:=Bj (a++ [10]);have G:(a++ [10]).length<=301:=by rw[Dy];simp only[Gt,List.length_nil];omega
   have q:Below wr wr (wr.alloc (.cells (AD I J K L M N O) 67)):=BU;have m:=T.below (b.trans (q.mono x))
   go_wp2_with fail
   refine(j _ m).mono ?_;rintro e w1 ⟨rfl,z⟩;have B:=b.trans ((An q z).mono x)
   go_wp2_with fail
   go_roundw
   case rel=>exact⟨k+1,by omega,by go_num,by rw[y.out];exact AN Value.string (AY S (a++ [10])),B⟩
   case measure=>simp[intOf];omega
  ·obtain rfl:k=n:=Aa
   go_wp2_with fail
   go_ret;exact⟨rfl,b⟩
theorem M3 (A:Option Addr) (n c:Nat) (xs:List Int) (w:World) (hn:n<=1048576) (B:Rd w A (n*7) (ints xs)):
  (BT 130 #[.slice A n c] w (.tuple #[.string ⟨(fF xs n).toArray⟩,ZI (fE xs n)]):Prop):=by
 go_enter func130,ntmps130
 go_wp2_with fail
 refine(Oi A n c xs _ Aa B).mono ?_;rintro e z ⟨rfl,C⟩;rcases jt (FT xs n) with o0|o0
 case inr=>
  have r:=Ai (fG o0);rw[o0];clear o0;go_wp2;refine AS (v:=.tuple #[.string ⟨#[]⟩,ZI 1]) (by simp[results,results130,go_sem]) rfl ?_
  rw[r.out.1,r.out.2];exact⟨rfl,C⟩
 have r:=Ai (Vz o0);obtain⟨y,Y⟩:=X0 o0;have G:=Ai y;rw[o0];clear o0 y;replace B:=B.below C
 go_wp2_with fail
 go_loopw [4,5] (λv i wr=> ∃k j:Nat,k<=n∧i=.int .i64 k∧(lgT xs k).length=j∧wr.ownsRow z.heap.size 5 1 v j (WB (lgT xs k))∧v≠ .slice none 0 0∧Below z z wr) (λ_ i _=>n-(intOf i).toNat)
 case atStart=>exact⟨0,0,AZ _,rfl,rfl,FI z _,(λh=>by cases h),(AP _ _).alloc Bk _⟩
 case round=>
  obtain⟨k,j,Q,rfl,O,a,u,b⟩:=hrel
  by_cases t:k<n
  ·have K:(k:Int)<(n:Int):=Aa;have R:(0:Int)<=(k:Int):=Aa;obtain⟨ad,rfl,h0,h1,h2,h3,h4,h5,h6⟩:=(B.below b).seven t;have l:(WZ xs k).ok=true:=GS G.out t;have q:=λW=>JK (WZ xs k) W;have H:=Ai (Ol xs k);have T:=VH l;have U:=Kq G.out k Q;have Z:=b.size;have s:(WZ xs k).t0=(WZ xs k).ln:=AA l;rw[s] at q;unfold R7.V at q;generalize D:(WZ xs k).ln=d at*;unfold WZ at q;simp only at q;clear l D s;generalize xs.getD (k*7) 0=x0 at*;generalize xs.getD (k*7+1) 0=x1 at*;generalize xs.getD (k*7+2) 0=x2 at*;generalize xs.getD (k*7+3) 0=x3 at*;generalize xs.getD (k*7+4) 0=x4 at*;generalize xs.getD (k*7+5) 0=x5 at*;generalize xs.getD (k*7+6) 0=x6 at*;generalize lgT xs k=S at*;have L:=Bj d;have M:((⟨d.toArray⟩:ByteArray)++⟨#[10]⟩)=⟨(d++ [10]).toArray⟩:=AY d [10];have X:(d++ [10]).length<=301:=by rw[Dy];simp only[Gt,List.length_nil];omega
   have E:(S++(d++ [10])).length=j+(d++ [10]).length:=by rw[Dy];omega
   go_wp2_with fail
   refine(q _).mono ?_;rintro e w2 ⟨rfl,I⟩;have p:=Ef a I;have J:=b.trans (I.mono Z);have F:=J.size;clear a
   go_wp2_with (at_builtin;refine Qa rfl _ _ rfl z.heap.size _ j S (d++ [10]) rfl p u (by rw[<-M];rfl) Aa F ?_;intro v' w' m x f)
   go_roundw
   case rel=>exact⟨k+1,j+(d++ [10]).length,by omega,by go_num,by rw[H.out];exact E,by rw[H.out];exact m,x,J.trans f⟩
   case measure=>simp[intOf];omega
  ·obtain rfl:k=n:=Aa;obtain⟨g,cp,rfl,N⟩:=Ui a u O
   go_wp2_with fail
   refine AS (v:=.tuple #[.string ⟨(lgT xs k).toArray⟩,ZI 0]) (by simp[results,results130,go_sem]) rfl ?_
   rw[r.out.1,r.out.2];exact⟨rfl,(An C b)⟩
theorem Ki (A:Option Addr) (n c:Nat) (ws:List Bs) (w:World) (W:n<=1048576) (J:Rd w A n (BO ws)) (hw: ∀x∈ws,x.length<=1048576):
  Calls prog 93 #[.slice A n c] w λe t=>((C7 ws=true∧ ∃B d,e=.returned (.tuple #[.slice B n d,.bool true])∧Rd t B n (ints (ws.map sgN))∧n<=d∧Wr t w.heap.size B n)∨(C7 ws=false∧e=.returned (.tuple #[.slice none 0 0,.bool false])))∧Below w w t:=by
 have V:=J.strl
 go_enter func93,ntmps93
 go_wp2_with fail
 go_loopw [4,5] (λv i wr=> ∃k:Nat,k<=n∧i=.int .i64 k∧C7 (ws.take k)=true∧wr.ownsRow w.heap.size 2 1 v k (ints ((ws.take k).map sgN))∧Below w w wr) (λ_ i _=>n-(intOf i).toNat)
 case atStart=>exact⟨0,AZ _,rfl,rfl,FI w _,(AP _ _).alloc Bk _⟩
 case round=>
  obtain⟨k,U,rfl,s,a,b⟩:=hrel;have C:=b.size
  by_cases D:k<n
  ·have I:(k:Int)<(n:Int):=Aa;have O:(0:Int)<=(k:Int):=Aa;obtain⟨T,rfl,X⟩:=(J.below b).str D;have g:k<ws.length:=Aa;have f:ws.getD k []=ws[k]:=by rw[DE,Db g];rfl
   have Q:=hw (ws.getD k []) (by rw[f];exact EH g)
   have K:Hid (C7 (ws.take (k+1))=MX (ws.getD k [])):=by
    unfold Hid C7 at*;rw[List.take_succ_eq_append_getElem g,List.all_append,s,f]
    simp
   have M:Hid ((ws.take (k+1)).map sgN=(ws.take k).map sgN++ [sgN (ws.getD k [])]):=by
    unfold Hid;rw[List.take_succ_eq_append_getElem g,List.map_append,f]
    rfl
   have L:Hid (MX (ws.getD k [])=false->C7 ws=false):=λh=>by
    unfold C7;rw[JV];intro c;have:=List.all_eq_true.1 c _ (EH g);rw[<-f,h] at this
    cases this
   clear f s;generalize ws.getD k []=x at*;have F:=Bj x;have hv:=Jn ⟨x.toArray⟩ wr (by rw[F];exact Q)
   rw[Lp] at hv
   go_wp2_with fail
   refine hv.mono ?_;rintro e Z ⟨m,rfl,l,H⟩;have z:=b.trans (H.mono C);have r:=z.size;have q:=Ef a H;clear a;rcases jt (MX x) with hb|hb
   ·have R:=l hb;have u:Hid (C7 (ws.take (k+1))=true):=by unfold Hid;rw[K.out,hb]
    rw[hb];clear l hb hv
    go_wp2_with (at_builtin;refine Et rfl _ _ rfl w.heap.size _ k ((ws.take k).map sgN) rfl rfl q Aa r ?_;intro Y t p j _ _)
    go_roundw
    case rel=>exact⟨k+1,by omega,by go_num,u.out,by rw[M.out];exact p,z.trans j⟩
    case measure=>simp[intOf];omega
   ·have y:=Ai (L.out hb);rw[hb];clear l hb hv;go_wp2;refine AS (v:=.tuple #[.slice none 0 0,.bool false]) (by simp[results,results93,go_sem]) rfl ?_
    exact⟨.inr ⟨y.out,rfl⟩,z⟩
  ·obtain rfl:k=n:=Aa;have S:ws.take k=ws:=ED Aa;rw[S] at s a;obtain⟨B,d,rfl,E,G,N,-⟩:=Gy a;go_wp2;refine AS (v:=.tuple #[.slice B k d,.bool true]) (by simp[results,results93,go_sem]) rfl ?_
   exact⟨.inl ⟨s,B,d,rfl,E,N,G⟩,b⟩

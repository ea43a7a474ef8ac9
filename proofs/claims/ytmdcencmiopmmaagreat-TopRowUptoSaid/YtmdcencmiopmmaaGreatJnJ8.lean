/- joined, no condition of its own. -/
import Derived.Test.YtmdcencmiopmmaaGreatJnT
import Derived.Test.YtmdcencmiopmmaaGreatJnJ1
import Derived.Test.YtmdcencmiopmmaaGreatJnJ7
set_option linter.unusedVariables false
set_option linter.unusedSimpArgs false
set_option maxRecDepth 100000
set_option maxHeartbeats 12000000
namespace Go.Proofs.YtmdcencmiopmmaaGreat
open Go.RowKit
def uk(l:List Int)(k key count arg:Int)(op:Bool):Int:=if JH l k key count=0 then EL (Ye l k.toNat key (max 1 count) arg op)else 0
def NK(l:List Int)(k key count arg:Int)(op:Bool):Bool:=if JH l k key count=0 then WR (Ye l k.toNat key (max 1 count) arg op)else false
def zx(l:List Int)(k key count arg:Int)(op:Bool):Int:=if JH l k key count=0 then Sm (Ye l k.toNat key (max 1 count) arg op)else JH l k key count
def jh(A:Int)(B:Bool)(E:Int)(w:World)(e:Ending)(w':World):Prop:=e=.returned (.tuple #[.int .i64 A,.bool B,.int .i64 E])/\Below w.heap.size w w'
theorem Bb(a:Option Addr)(n c:Nat)(l:List Int)(k key count arg:Int)(op:Bool)(w:World)(hn:l.length=n)(hn2:n<=9223372036854775807)(hk:yM k)(E:Int)(hE:JH l k key count=E)(h0:E≠0):
  Calls Tryz.prog 270 #[.slice a n c,.int .i64 k,MI key count arg,.bool op] w (jh 0 false E w):=by
 have HE:=Zy hE;have HN:=Zy hn;have h0':(E !=0)=true:=Q7;clear hE hn h0;unfold MI;have hB:=Za.new w #[.int .i64 key,.int .i64 count,.int .i64 arg] 312;obtain⟨c0,c1,c2,-,-,-⟩:=hB.three;have hacc:=ZT w (.cells #[.int .i64 key,.int .i64 count,.int .i64 arg] 312);go_enter Tryz.func270,Tryz.ntmps270
 go_wp2_with ((go_at_call 287);refine(U5 a n c l k key count arg _ HN.out hn2 hk).mono ?_;rintro e w2 ⟨rfl,hb2⟩;rw[HE.out])
 go_ret3
 exact⟨rfl,ZE hacc QJ hb2⟩
theorem ve(a:Option Addr)(n c:Nat)(l:List Int)(k:Nat)(key arg:Int)(op:Bool)(w:World)(hl:Ints w a l)(hn:l.length=n)(hn2:n<=4096)(hk1:k<=n)(hk2:k<n\/n=0)(hK:Kq key=true)(hE:JH l k key 0=0)
  (r:Option (Int×Bool)) (hr:Ye l k key ((1:Nat):Int) arg op=r):
  Calls Tryz.prog 270 #[.slice a n c,.int .i64 (k:Int),MI key 0 arg,.bool op] w (jh (EL r) (WR r) (Sm r) w):=by
 have hm0:1<=1:=ZB _;have hm1:1<=999:=QQ;have HE:=Zy hE;have HN:=Zy hn;have HK:=Zy hK;have HR:=Zy hr;have FR:=Zy hk2;clear hE hn hK hr hk2;unfold MI;have hB:=Za.new w #[.int .i64 key,.int .i64 0,.int .i64 arg] 312;obtain⟨c0,c1,c2,-,-,-⟩:=hB.three;have hacc:=ZT w (.cells #[.int .i64 key,.int .i64 0,.int .i64 arg] 312);have hsz:w.heap.size+1<=(w.alloc (.cells #[.int .i64 key,.int .i64 0,.int .i64 arg] 312)).heap.size:=QJ;cases hF:zO key
 all_goals
  have HF:=Zy hF;clear hF;go_enter Tryz.func270,Tryz.ntmps270
  go_wp2_with (first|((go_at_call 287);refine(U5 a n c l k key 0 arg _ HN.out QQ ⟨QQ,QQ⟩).mono ?_;rintro e w2 ⟨rfl,hb2⟩;rw[HE.out];have hB2:=hB.below hb2 hB.lt;obtain⟨d0,d1,d2,-,-,-⟩:=hB2.three;have Z4:=ZE hacc QQ hb2;have hlt2:=hB2.lt;have hI2:=hl.below Z4)|((go_at_call 288);refine(Kw _ _).mono ?_;rintro e w3 ⟨rfl,rfl⟩;rw[HK.out,HF.out]))
  have hkk:=FR.out;clear hkk;have Vy:=(Z4.alloc QQ (.cells #[.slice a n c,.int .i64 (k:Int),.int .i64 1,.bool op] 359)).alloc QY (.cells #[.int .i64 0,.bool false] 361);have Bw:=Za.new (w2.alloc (.cells #[.slice a n c,.int .i64 (k:Int),.int .i64 1,.bool op] 359)) #[.int .i64 0,.bool false] 361;rw[Zv]at Bw;have gL:=hl.below Vy
 ·go_wp2_with ((go_at_call 290);refine(xU a n c l k 1 op _ gL HN.out hn2 hk1 FR.out hm0 hm1 key arg HK.out HF.out).mono ?_;rintro e w5 ⟨rfl,hb5⟩;rw[HR.out];have Sw:=Bw.below hb5 Bw.lt;obtain⟨s0,s1,s2,s3⟩:=Sw.two;have Y7:=ZE Vy QY hb5)
  exact QDz
 ·go_wp2_with ((go_at_call 289);refine(xV a n c l k 1 op _ gL HN.out hn2 hk1 FR.out hm0 hm1 key arg HF.out).mono ?_;rintro e w5 ⟨rfl,hb5⟩;rw[HR.out];have Sw:=Bw.below hb5 Bw.lt;obtain⟨s0,s1,s2,s3⟩:=Sw.two;have Y7:=ZE Vy QY hb5)
  exact QDz
theorem Ba(a:Option Addr)(n c:Nat)(l:List Int)(k:Nat)(key arg:Int)(op:Bool)(w:World)(hl:Ints w a l)(hn:l.length=n)(hn2:n<=4096)(hk1:k<=n)(hk2:k<n\/n=0)(hK:Kq key=true)(hE:JH l k key 1=0)
  (r:Option (Int×Bool)) (hr:Ye l k key ((1:Nat):Int) arg op=r):
  Calls Tryz.prog 270 #[.slice a n c,.int .i64 (k:Int),MI key 1 arg,.bool op] w (jh (EL r) (WR r) (Sm r) w):=by
 have hm0:1<=1:=ZB _;have hm1:1<=999:=QQ;have HE:=Zy hE;have HN:=Zy hn;have HK:=Zy hK;have HR:=Zy hr;have FR:=Zy hk2;clear hE hn hK hr hk2;unfold MI;have hB:=Za.new w #[.int .i64 key,.int .i64 1,.int .i64 arg] 312;obtain⟨c0,c1,c2,-,-,-⟩:=hB.three;have hacc:=ZT w (.cells #[.int .i64 key,.int .i64 1,.int .i64 arg] 312);have hsz:w.heap.size+1<=(w.alloc (.cells #[.int .i64 key,.int .i64 1,.int .i64 arg] 312)).heap.size:=QJ;cases hF:zO key
 all_goals
  have HF:=Zy hF;clear hF;go_enter Tryz.func270,Tryz.ntmps270
  go_wp2_with (first|((go_at_call 287);refine(U5 a n c l k key 1 arg _ HN.out QQ ⟨QQ,QQ⟩).mono ?_;rintro e w2 ⟨rfl,hb2⟩;rw[HE.out];have hB2:=hB.below hb2 hB.lt;obtain⟨d0,d1,d2,-,-,-⟩:=hB2.three;have Z4:=ZE hacc QQ hb2;have hlt2:=hB2.lt;have hI2:=hl.below Z4)|((go_at_call 288);refine(Kw _ _).mono ?_;rintro e w3 ⟨rfl,rfl⟩;rw[HK.out,HF.out]))
  have hkk:=FR.out;clear hkk;have Vy:=(Z4.alloc QQ (.cells #[.slice a n c,.int .i64 (k:Int),.int .i64 1,.bool op] 359)).alloc QY (.cells #[.int .i64 0,.bool false] 361);have Bw:=Za.new (w2.alloc (.cells #[.slice a n c,.int .i64 (k:Int),.int .i64 1,.bool op] 359)) #[.int .i64 0,.bool false] 361;rw[Zv]at Bw;have gL:=hl.below Vy
 ·go_wp2_with ((go_at_call 290);refine(xU a n c l k 1 op _ gL HN.out hn2 hk1 FR.out hm0 hm1 key arg HK.out HF.out).mono ?_;rintro e w5 ⟨rfl,hb5⟩;rw[HR.out];have Sw:=Bw.below hb5 Bw.lt;obtain⟨s0,s1,s2,s3⟩:=Sw.two;have Y7:=ZE Vy QY hb5)
  exact QDz
 ·go_wp2_with ((go_at_call 289);refine(xV a n c l k 1 op _ gL HN.out hn2 hk1 FR.out hm0 hm1 key arg HF.out).mono ?_;rintro e w5 ⟨rfl,hb5⟩;rw[HR.out];have Sw:=Bw.below hb5 Bw.lt;obtain⟨s0,s1,s2,s3⟩:=Sw.two;have Y7:=ZE Vy QY hb5)
  exact QDz
theorem BS(a:Option Addr)(n c:Nat)(l:List Int)(k m:Nat)(key arg:Int)(op:Bool)(w:World)(hl:Ints w a l)(hn:l.length=n)(hn2:n<=4096)(hk1:k<=n)(hk2:k<n\/n=0)(hm2:2<=m)(hm1:m<=999)(hK:Kq key=true)(hE:JH l k key (m:Int)=0)
  (r:Option (Int×Bool)) (hr:Ye l k key (m:Int) arg op=r):
  Calls Tryz.prog 270 #[.slice a n c,.int .i64 (k:Int),MI key (m:Int) arg,.bool op] w (jh (EL r) (WR r) (Sm r) w):=by
 have hm0:1<=m:=QQ;have HE:=Zy hE;have HN:=Zy hn;have HK:=Zy hK;have HR:=Zy hr;have FR:=Zy hk2;clear hE hn hK hr hk2;unfold MI;have hB:=Za.new w #[.int .i64 key,.int .i64 (m:Int),.int .i64 arg] 312;obtain⟨c0,c1,c2,-,-,-⟩:=hB.three;have hacc:=ZT w (.cells #[.int .i64 key,.int .i64 (m:Int),.int .i64 arg] 312);have hsz:w.heap.size+1<=(w.alloc (.cells #[.int .i64 key,.int .i64 (m:Int),.int .i64 arg] 312)).heap.size:=QJ;cases hF:zO key
 all_goals
  have HF:=Zy hF;clear hF;go_enter Tryz.func270,Tryz.ntmps270
  go_wp2_with (first|((go_at_call 287);refine(U5 a n c l k key (m:Int) arg _ HN.out QQ ⟨QQ,QQ⟩).mono ?_;rintro e w2 ⟨rfl,hb2⟩;rw[HE.out];have hB2:=hB.below hb2 hB.lt;obtain⟨d0,d1,d2,-,-,-⟩:=hB2.three;have Z4:=ZE hacc QQ hb2;have hlt2:=hB2.lt;have hI2:=hl.below Z4)|((go_at_call 288);refine(Kw _ _).mono ?_;rintro e w3 ⟨rfl,rfl⟩;rw[HK.out,HF.out]))
  have hkk:=FR.out;clear hkk;have Vy:=(Z4.alloc QQ (.cells #[.slice a n c,.int .i64 (k:Int),.int .i64 (m:Int),.bool op] 359)).alloc QY (.cells #[.int .i64 0,.bool false] 361);have Bw:=Za.new (w2.alloc (.cells #[.slice a n c,.int .i64 (k:Int),.int .i64 (m:Int),.bool op] 359)) #[.int .i64 0,.bool false] 361;rw[Zv]at Bw;have gL:=hl.below Vy
 ·go_wp2_with ((go_at_call 290);refine(xU a n c l k m op _ gL HN.out hn2 hk1 FR.out hm0 hm1 key arg HK.out HF.out).mono ?_;rintro e w5 ⟨rfl,hb5⟩;rw[HR.out];have Sw:=Bw.below hb5 Bw.lt;obtain⟨s0,s1,s2,s3⟩:=Sw.two;have Y7:=ZE Vy QY hb5)
  exact QDz
 ·go_wp2_with ((go_at_call 289);refine(xV a n c l k m op _ gL HN.out hn2 hk1 FR.out hm0 hm1 key arg HF.out).mono ?_;rintro e w5 ⟨rfl,hb5⟩;rw[HR.out];have Sw:=Bw.below hb5 Bw.lt;obtain⟨s0,s1,s2,s3⟩:=Sw.two;have Y7:=ZE Vy QY hb5)
  exact QDz
theorem yQ{l:List Int}{k key count:Int}(h:JH l k key count=0):l.length<=4096/\0<=k/\(k<l.length\/k=0)/\0<=count/\count<=999/\Kq key=true:=by
 unfold JH at h;split at h
 ·simp at h
 ·split at h
  ·simp at h
  ·split at h
   ·exact⟨QQ,QQ,QQ,QQ,QQ,QH⟩
   ·simp at h
theorem WW(a:Option Addr)(n c:Nat)(l:List Int)(k key count arg:Int)(op:Bool)(w:World)(hl:Ints w a l)(hn:l.length=n)(hn2:n<=9223372036854775807)(hk:yM k):
  Calls Tryz.prog 270 #[.slice a n c,.int .i64 k,MI key count arg,.bool op] w (jh (uk l k key count arg op) (NK l k key count arg op) (zx l k key count arg op) w):=by
 by_cases hE:JH l k key count=0
 ·obtain⟨h1,h2,h3,h4,h5,h6⟩:=yQ hE
  rw[uk,NK,zx,if_pos hE,if_pos hE,if_pos hE];obtain⟨k,rfl⟩:=Z9 h2;obtain⟨m,rfl⟩:=Z9 h4;rw[Xq];rcases(show m=0\/m=1\/2<=m from QQ)with rfl|rfl|hm
  ·exact ve a n c l k key arg op w hl hn QQ QQ QQ h6 hE _ rfl
  ·exact Ba a n c l k key arg op w hl hn QQ QQ QQ h6 hE _ rfl
  ·rw[show max 1 (m:Int)=(m:Int)from QQ]
   exact BS a n c l k m key arg op w hl hn QQ QQ QQ hm QQ h6 hE _ rfl
 ·rw[uk,NK,zx,if_neg hE,if_neg hE,if_neg hE]
  exact Bb a n c l k key count arg op w hn hn2 hk _ rfl hE
def Pb(l:List Int)(k key count arg:Int):Int:=if zx l k key count arg true=0 then min k (uk l k key count arg true)else 0
def au(l:List Int)(k key count arg:Int):Int:=if zx l k key count arg true=0 then max k (uk l k key count arg true)+(if NK l k key count arg true then 1 else 0)else 0
def NR(F T E:Int)(w:World)(e:Ending)(w':World):Prop:=e=.returned (.tuple #[.int .i64 F,.int .i64 T,.int .i64 E])/\Below w.heap.size w w'
theorem EI(a:Option Addr)(n c:Nat)(l:List Int)(k key count arg:Int)(w:World)(hl:Ints w a l)(hn:l.length=n)(hn2:n<=9223372036854775807)(hk:yM k)(hA:yM (uk l k key count arg true+1))(hk3:zx l k key count arg true=0->k<=4096):
  Calls Tryz.prog 271 #[.slice a n c,.int .i64 k,MI key count arg] w (NR (Pb l k key count arg) (au l k key count arg) (zx l k key count arg true) w):=by
 have hF:Pb l k key count arg=if zx l k key count arg true=0 then min k (uk l k key count arg true)else 0:=rfl
 have hT:au l k key count arg=if zx l k key count arg true=0 then max k (uk l k key count arg true)+(if NK l k key count arg true then 1 else 0)else 0:=rfl
 obtain⟨A,hA2⟩:∃A,uk l k key count arg true=A:=⟨_,rfl⟩;obtain⟨B,hB2⟩:∃B,NK l k key count arg true=B:=⟨_,rfl⟩;obtain⟨E,hE2⟩:∃E,zx l k key count arg true=E:=⟨_,rfl⟩;rw[hA2,hB2,hE2]at hT;rw[hA2,hE2]at hF;rw[hE2]at hk3 ⊢;rw[hA2]at hA;obtain⟨a1,a2⟩:=hA;obtain⟨k1,k2⟩:=hk;have HA:=Zy hA2;have HB:=Zy hB2;have HE:=Zy hE2;have HN:=Zy hn;clear hA2 hB2 hE2 hn;unfold MI;have hB:=Za.new w #[.int .i64 key,.int .i64 count,.int .i64 arg] 312;obtain⟨c0,c1,c2,-,-,-⟩:=hB.three;have hacc:=ZT w (.cells #[.int .i64 key,.int .i64 count,.int .i64 arg] 312);have hI:=hl.below hacc;by_cases h0:E=0
 ·rw[if_pos h0]at hF hT
  have hk4:=hk3 h0;subst h0;rcases(show k<=A\/A<k from QQ)with h1|h1
  ·rw[show min k A=k from QQ]at hF
   rw[show max k A=A from QQ]at hT;exact QDb
  ·rw[show min k A=A from QQ]at hF
   rw[show max k A=k from QQ]at hT;exact QDb
 ·rw[if_neg h0]at hF hT
  have HF:=Zy hF;have HT:=Zy hT;have h0':(E !=0)=true:=Q7;clear hF hT h0 hk3;go_enter Tryz.func271,Tryz.ntmps271
  go_wp2_with ((go_at_call 270);refine(WW a n c l k key count arg true _ hI HN.out hn2 ⟨k1,k2⟩).mono ?_;rintro e w2 ⟨rfl,hb2⟩;rw[HA.out,HB.out,HE.out])
  go_ret3
  rw[HF.out,HT.out];exact⟨rfl,ZE hacc QJ hb2⟩
def lnE(n:Nat)(k:Int):Int:=if 200<n then 2 else if k<0\/(0<k/\(n:Int)<=k)then 1 else 0
theorem Nz(a:Option Addr)(n c:Nat)(k:Int)(w:World):
  Calls Tryz.prog 228 #[.agg #[.slice a n c,.int .i64 k]] w fun e w'=>e=.returned (.int .i64 (lnE n k))/\Below w.heap.size w w':=by
 have hA:=Za.new w #[.slice a n c,.int .i64 k] 30;have hacc:=ZT w (.cells #[.slice a n c,.int .i64 k] 30);have HE:=Zy (show lnE n k=if 200<n then 2 else if k<0\/(0<k/\(n:Int)<=k)then 1 else 0 from rfl);go_enter Tryz.func228,Tryz.ntmps228
 go_upto_region 1 with fail
 generalize w.alloc (.cells #[.slice a n c,.int .i64 k] 30)=w1 at *;obtain⟨c0,c1,-,-⟩:=hA.two;by_cases h1:200<n
 ·have i1:(200:Int)<(n:Int):=by omega
  go_wp2;go_ret;refine⟨?_,hacc⟩;rw[HE.out,if_pos h1];rfl
 ·have i1:¬(200:Int)<(n:Int):=by omega
  by_cases h2:k<0
  ·go_wp2
   go_ret;refine⟨?_,hacc⟩;rw[HE.out,if_neg h1,if_pos (.inl h2)];rfl
  ·by_cases hn:n=0
   ·subst hn
    have i2:0<=k:=QQ;by_cases h3:0<k
    ·go_wp2
     go_ret;refine⟨?_,hacc⟩;rw[HE.out,if_neg QQ,if_pos QQ];rfl
    ·go_wp2
     go_ret;refine⟨?_,hacc⟩;rw[HE.out,if_neg QQ,if_neg QQ];rfl
   ·have i2:0<=k:=by omega
    have iw:IntKind.i64.wrap ((n:Int)-1)=(n:Int)-1:=QAz;obtain⟨m,rfl⟩:∃m,n=m+1:=⟨n-1,QQ⟩;by_cases h3:((m:Int))<k
    ·have i3:(((m+1:Nat):Int)-1)<k:=by omega
     have i4:(0:Int)<=((m+1:Nat):Int)-1:=QQ;go_wp2
     all_goals
      go_ret;refine⟨?_,hacc⟩;rw[HE.out,if_neg h1,if_pos QQ];first|rfl|skip
    ·have i3:¬(((m+1:Nat):Int)-1)<k:=by omega
     have i4:(0:Int)<=((m+1:Nat):Int)-1:=QQ;go_wp2
     all_goals
      go_ret;refine⟨?_,hacc⟩;rw[HE.out,if_neg h1,if_neg QQ];first|rfl|skip
def Fp(k n:Int):Int:=max 0 (min k (n-1))
theorem Wi(k n:Int)(w:World)(h0: -4096<=k)(h1:k<=4096)(h2:0<=n)(h3:n<=4096):
  Calls Tryz.prog 275 #[.int .i64 k,.int .i64 n] w fun e w'=>e=.returned (.int .i64 (Fp k n))/\w=w':=by
 by_cases a:k<n-1
 ·by_cases b:0<k
  ·go_enter Tryz.func275,Tryz.ntmps275
   exact QEB
  ·go_enter Tryz.func275,Tryz.ntmps275
   exact QEB
 ·by_cases b:0<n-1
  ·go_enter Tryz.func275,Tryz.ntmps275
   exact QEB
  ·go_enter Tryz.func275,Tryz.ntmps275
   exact QEB
def qD(c:Int):Int:=if 97<=c/\c<=122 then c-32 else if 65<=c/\c<=90 then c+32 else c
theorem QYe:∀c:Fin 58,bits BinOp.xor IntKind.i64 ((c.val+65:Nat):Int) 32=qD ((c.val+65:Nat):Int)\/(26<=c.val/\c.val<32):=QAI
theorem IP(c:Int)(w:World):
  Calls Tryz.prog 274 #[.int .i64 c] w fun e w'=>e=.returned (.int .i64 (qD c))/\w=w':=by
 have HT:=Zy (show qD c=if 97<=c/\c<=122 then c-32 else if 65<=c/\c<=90 then c+32 else c from rfl);by_cases h:(97<=c/\c<=122)\/(65<=c/\c<=90)
 ·have hx:bits BinOp.xor IntKind.i64 c 32=qD c:=by
   have:=QYe ⟨(c-65).toNat,QQ⟩;have e:((((c-65).toNat+65:Nat)):Int)=c:=QQ;simp only[e]at this;rcases this with h1|h1
   ·exact h1
   ·omega
  have HX:=Zy hx;clear hx;go_enter Tryz.func274,Tryz.ntmps274
  go_wp2
  all_goals
   first
    | (exfalso;omega)
    | (go_ret;refine⟨XA ?_,rfl⟩;exact HX.out)
 ·go_enter Tryz.func274,Tryz.ntmps274
  go_wp2
  all_goals
   first
    | (exfalso;omega)
    | (go_ret;refine⟨XA ?_,rfl⟩;rw[HT.out,if_neg QQ,if_neg QQ])
def bt(s:ByteArray)(j:Nat):Int:=((s.data.toList.getD j 0).toNat:Int)
theorem Uc(s:ByteArray)(j:Nat):0<=bt s j/\bt s j<=255:=by
 unfold bt;have:=(s.data.toList.getD j 0).toNat_lt;omega
theorem Ih(w:World)(e:TypeId)(s:ByteArray):Below w.heap.size w (Lib.bytesWorld w e s):=
 ⟨rfl,rfl,rfl,by rw[Lib.bytesWorld_size];omega,fun k hk=>Lib.bytesWorld_at_old w e s k hk⟩
def EP(c:Int):Bool:=decide ((97<=c/\c<=122)\/(65<=c/\c<=90))
theorem qN(c:Int)(w:World):Calls Tryz.prog 45 #[.int .i64 c] w fun e w'=>e=.returned (.bool (EP c))/\w=w':=by
 go_enter Tryz.func45,Tryz.ntmps45
 go_wp2
 all_goals
  go_ret;exact⟨Yu (by rw[Bool.eq_iff_iff];simp[EP];omega),rfl⟩
def bV(c:Int):Bool:=decide (c=100\/c=99\/c=121)
theorem Vo(c:Int)(w:World):Calls Tryz.prog 46 #[.int .i64 c] w fun e w'=>e=.returned (.bool (bV c))/\w=w':=by
 go_enter Tryz.func46,Tryz.ntmps46
 go_wp2
 all_goals
  go_ret;exact⟨Yu (by rw[Bool.eq_iff_iff];simp[bV, *]),rfl⟩
def gP(n key:Int):Bool:=decide ((49<=key/\key<=57)\/(key=48/\0<n))
def moB(key:Int):Bool:=decide (key=104\/key=108\/key=48\/key=94\/key=36\/key=124\/key=119\/key=87\/key=98\/key=66\/key=101\/key=69\/key=37\/key=59\/key=44)
def zP(key:Int):Bool:=decide (key=102\/key=70\/key=116\/key=84)
def Bi(key:Int):Bool:=decide (key=105\/key=97)
def sD(key:Int):Bool:=decide (key=119\/key=87\/key=40\/key=41\/key=91\/key=93\/key=123\/key=125\/key=34\/key=39\/key=96)
def plB(key:Int):Bool:=decide (key=73\/key=65\/key=115\/key=83\/key=67\/key=68\/key=120\/key=88\/key=112\/key=80\/key=89\/key=126\/key=117\/key=85\/key=46\/key=106\/key=107\/key=71\/key=47\/key=63\/key=110\/key=78\/key=82)
def R4(f o s:Int):Bool:=decide (0<=f/\f<=999/\0<=s/\s<=999/\(o≠0\/s=0))
def P8(r o:Int):Bool:=(decide (r=0) || EP r)&&(decide (o=0) || bV o)
def TA(r o wt:Int):Bool:=decide (wt=0) || zP wt || decide (wt=114/\o=0) || decide (wt=34/\o=0/\r=0) || (Bi wt&&decide (o≠0))
def JG(f r o s wt:Int):Int:=if(R4 f o s&&P8 r o&&TA r o wt)=true then 0 else 1
theorem Za.five{w:World}{B:Nat}{u0 u1 u2 u3 u4:Value}{e:TypeId}(h:Za w B #[u0,u1,u2,u3,u4] e):
  w.cell? ⟨B,0,none⟩=some u0/\w.cell? ⟨B,1,none⟩=some u1/\w.cell? ⟨B,2,none⟩=some u2/\w.cell? ⟨B,3,none⟩=some u3/\w.cell? ⟨B,4,none⟩=some u4:=⟨h.cell 0,h.cell 1,h.cell 2,h.cell 3,h.cell 4⟩
theorem Za.Z6{w:World}{B:Nat}{u0 u1 u2 u3 u4:Value}{e:TypeId}(h:Za w B #[u0,u1,u2,u3,u4] e):
  w.frozen? ⟨B,0,none⟩=false/\w.frozen? ⟨B,1,none⟩=false/\w.frozen? ⟨B,2,none⟩=false/\w.frozen? ⟨B,3,none⟩=false/\w.frozen? ⟨B,4,none⟩=false:=⟨h.free 0,h.free 1,h.free 2,h.free 3,h.free 4⟩
theorem zOf(a b:Int):∃z,(a==b)=z:=⟨_,rfl⟩
theorem YV(f r o s wt:Int)(w:World):
  Calls Tryz.prog 17 #[.agg #[.int .i64 f,.int .i64 r,.int .i64 o,.int .i64 s,.int .i64 wt]] w fun e w'=>e=.returned (.int .i64 (JG f r o s wt))/\Below w.heap.size w w':=by
 have hA:=Za.new w #[.int .i64 f,.int .i64 r,.int .i64 o,.int .i64 s,.int .i64 wt] 32;have hacc:=ZT w (.cells #[.int .i64 f,.int .i64 r,.int .i64 o,.int .i64 s,.int .i64 wt] 32);obtain⟨b1,hb1⟩:∃b1,R4 f o s=b1:=⟨_,rfl⟩;obtain⟨b2,hb2⟩:∃b2,P8 r o=b2:=⟨_,rfl⟩;have HE:=Zy (show JG f r o s wt=if(b1&&b2&&TA r o wt)=true then 0 else 1 by unfold JG;rw[hb1,hb2]);have HB1:=Zy hb1;have HB2:=Zy hb2;clear hb1 hb2;go_enter Tryz.func17,Tryz.ntmps17
 go_upto_region 1 with fail
 generalize w.alloc (.cells #[.int .i64 f,.int .i64 r,.int .i64 o,.int .i64 s,.int .i64 wt] 32)=w1 at *;obtain⟨c0,c1,c2,c3,c4⟩:=hA.five
 go_cut [30] (fun v wx=>v=.bool (!b1)/\w1=wx)
 case first=>
  obtain⟨zo,ho⟩:=zOf o 0;rcases zo with _|_
  all_goals
   go_wp2
   all_goals
    go_meet;refine⟨YA Value.bool ?_,rfl⟩;rw[<-HB1.out];simp at ho;rw[Bool.eq_iff_iff];simp[R4];omega
 obtain⟨rfl,rfl⟩:=hcut;rcases b1 with _|_
 ·go_wp2
  go_ret;exact⟨XA (by rw[HE.out];rfl),hacc⟩
 go_upto_region 3 with fail
 go_cut [50] (fun v wx=>v=.bool (!b2)/\w1=wx)
 case first=>
  obtain⟨zo,ho⟩:=zOf o 0;obtain⟨zr,hr⟩:=zOf r 0;have ho2:(o !=0)=!zo:=by rw[bne,ho]
  have hr2:(r !=0)=!zr:=by rw[bne,hr]
  rcases zo with _|_<;>rcases zr with _|_
  all_goals
   go_wp2_with (first|(go_at_call 45;refine(qN _ _).mono ?_;rintro e w' ⟨rfl,rfl⟩)|(go_at_call 46;refine(Vo _ _).mono ?_;rintro e w' ⟨rfl,rfl⟩))
   all_goals
    go_meet;refine⟨YA Value.bool ?_,rfl⟩;rw[<-HB2.out];simp at ho hr;simp[P8, *]
 obtain⟨rfl,rfl⟩:=hcut;rcases b2 with _|_
 ·go_wp2
  go_ret;exact⟨XA (by rw[HE.out];rfl),hacc⟩
 go_wp2
 all_goals
  go_ret;refine⟨XA ?_,hacc⟩
  go_light
  rw[HE.out];simp only[beq_iff_eq,XZ,bne_iff_ne,bne_eq_false_iff_eq,ne_eq]at *;simp[TA,zP,Bi];omega
def UI(f r o s key:Int):Int:=
 if gP (if o≠0 then s else f) key=true then 1 else if bV key=true then 3 else if moB key=true then 5 else if zP key=true then 4
 else if Bi key=true then(if o≠0 then 8 else 6)else if o≠0 then 0
 else if key=34 then(if r≠0 then 0 else 2)else if key=114 then 7 else if plB key=true then 6 else 0
def WE(f s:Int):Int:=if f=0 then s else if s=0 then f else min 999 (f*s)
def Wm(n key:Int):Int:=min 999 (10*n+key-48)
structure TK where
 q0:Int
 q1:Int
 q2:Int
 q3:Int
 q4:Int
 c0:Int
 c1:Int
 c2:Int
 c3:Int
 c4:Int
 how:Int
deriving DecidableEq
def TK.wrong:TK:=⟨0,0,0,0,0,0,0,0,0,0,3⟩
def TK.done(f r o s verb arg:Int):TK:=⟨0,0,0,0,0,WE f s,r,o,verb,arg,2⟩
def TK.more(f r o s wt:Int):TK:=⟨f,r,o,s,wt,0,0,0,0,0,1⟩
def Wo(f r o s wt key:Int):TK:=
 if wt=34 then(if EP key=true then TK.more f key o s 0 else TK.wrong)
 else if Bi wt=true then(if sD key=true then TK.done f r o s wt key else TK.wrong)
 else TK.done f r o s wt key
def Ui(f r o s wt key:Int):TK:=
 if key<32\/key=127 then TK.wrong
 else if wt≠0 then Wo f r o s wt key
 else if UI f r o s key=1 then(if o≠0 then TK.more f r o (Wm s key) 0 else TK.more (Wm f key) r o s 0)
 else if UI f r o s key=2\/UI f r o s key=4\/UI f r o s key=7\/UI f r o s key=8 then TK.more f r o s key
 else if UI f r o s key=3 then(if o=0 then TK.more f r key s 0 else if o≠key then TK.wrong else TK.done f r o s key 0)
 else if UI f r o s key=5\/UI f r o s key=6 then TK.done f r o s key 0
 else TK.wrong
def TK.q(t:TK):Value:=.agg #[.int .i64 t.q0,.int .i64 t.q1,.int .i64 t.q2,.int .i64 t.q3,.int .i64 t.q4]
def TK.c(t:TK):Value:=.agg #[.int .i64 t.c0,.int .i64 t.c1,.int .i64 t.c2,.int .i64 t.c3,.int .i64 t.c4]
def XB(t:TK)(er:Int)(w:World)(e:Ending)(w':World):Prop:=e=.returned (.tuple #[t.q,t.c,.int .i64 t.how,.int .i64 er])/\Below w.heap.size w w'
theorem J2{f r o s wt:Int}(h:JG f r o s wt=0):0<=f/\f<=999/\0<=s/\s<=999/\(o=0\/o=100\/o=99\/o=121):=by
 unfold JG at h;split at h
 ·rename_i h'
  simp[R4,P8,bV]at h';omega
 ·simp at h
theorem bB{f s:Int}(h1:0<=f)(h2:f<=999)(h3:0<=s)(h4:s<=999):0<=f*s/\f*s<=998001:=by
 constructor
 ·exact Int.mul_nonneg h1 h3
 ·have:f*s<=999*999:=Int.mul_le_mul h2 h4 h3 QQ
  omega
theorem MN(f r o s wt:Int)(w:World)(h1:0<=f)(h2:f<=999)(h3:0<=s)(h4:s<=999):
  Calls Tryz.prog 201 #[.agg #[.int .i64 f,.int .i64 r,.int .i64 o,.int .i64 s,.int .i64 wt]] w fun e w'=>e=.returned (.int .i64 (WE f s))/\Below w.heap.size w w':=by
 have hA:=Za.new w #[.int .i64 f,.int .i64 r,.int .i64 o,.int .i64 s,.int .i64 wt] 32;have hacc:=ZT w (.cells #[.int .i64 f,.int .i64 r,.int .i64 o,.int .i64 s,.int .i64 wt] 32);obtain⟨m1,m2⟩:=bB h1 h2 h3 h4;obtain⟨c0,c1,c2,c3,c4⟩:=hA.five;by_cases hf:f=0
 ·have HF:=Zy (show WE f s=s by simp[WE,hf])
  have g1:(f==0)=true:=QBJ;clear hf;exact QFc
 ·have g1:(f==0)=false:=by simpa using hf
  by_cases hs:s=0
  ·have HF:=Zy (show WE f s=f by simp[WE,hf,hs])
   have g2:(s==0)=true:=by simpa using hs
   clear hf hs;exact QFc
  ·have HF:=Zy (show WE f s=min 999 (f*s) by simp[WE,hf,hs])
   have g2:(s==0)=false:=by simpa using hs
   clear hf hs;go_enter Tryz.func201,Tryz.ntmps201
   go_wp2
   all_goals
    go_ret;refine⟨XA ?_,hacc⟩;rw[HF.out];omega
theorem yY(n key:Int)(w:World)(h1:0<=n)(h2:n<=999)(h3:48<=key)(h4:key<=57):
  Calls Tryz.prog 139 #[.int .i64 n,.int .i64 key] w fun e w'=>e=.returned (.int .i64 (Wm n key))/\w=w':=by
 go_enter Tryz.func139,Tryz.ntmps139
 go_wp2
 all_goals
  go_ret;refine⟨XA ?_,rfl⟩;unfold Wm;omega
def rU(a b c d g:Int)(w:World)(e:Ending)(w':World):Prop:=e=.returned (.agg #[.int .i64 a,.int .i64 b,.int .i64 c,.int .i64 d,.int .i64 g])/\Below w.heap.size w w'
theorem Za.vY{w:World}{B:Nat}{u0 u1 u2 u3 u4:Value}{e:TypeId}(h:Za w B #[u0,u1,u2,u3,u4] e)(x0 x1 x2 x3 x4:Value):
  Za (((((w.setCell ⟨B,0,none⟩ x0).setCell ⟨B,1,none⟩ x1).setCell ⟨B,2,none⟩ x2).setCell ⟨B,3,none⟩ x3).setCell ⟨B,4,none⟩ x4) B #[x0,x1,x2,x3,x4] e:=
 ((((h.set 0 x0).set 1 x1).set 2 x2).set 3 x3).set 4 x4
theorem JQ{N B:Nat}{a w:World}(h:Below N a w)(hB:N<=B){x0 x1 x2 x3 x4:Value}:
  Below N a (((((w.setCell ⟨B,0,none⟩ x0).setCell ⟨B,1,none⟩ x1).setCell ⟨B,2,none⟩ x2).setCell ⟨B,3,none⟩ x3).setCell ⟨B,4,none⟩ x4):=
 ((((h.setCell (p:=⟨B,0,none⟩) hB _).setCell (p:=⟨B,1,none⟩) hB _).setCell (p:=⟨B,2,none⟩) hB _).setCell (p:=⟨B,3,none⟩) hB _).setCell (p:=⟨B,4,none⟩) hB _
theorem FB{w w':World}(h:Below w.drew.heap.size w.drew w'):Below w.heap.size w w':=⟨h.os,h.tape,h.output,h.size,h.block⟩
theorem UZ(f r o s wt verb arg:Int)(w:World)(h1:0<=f)(h2:f<=999)(h3:0<=s)(h4:s<=999):
  Calls Tryz.prog 140 #[.agg #[.int .i64 f,.int .i64 r,.int .i64 o,.int .i64 s,.int .i64 wt],.int .i64 verb,.int .i64 arg] w (rU (WE f s) r o verb arg w):=by
 have hA:=(Za.new w #[.int .i64 f,.int .i64 r,.int .i64 o,.int .i64 s,.int .i64 wt] 32).alloc (.cells #[.int .i64 0,.int .i64 0,.int .i64 0,.int .i64 0,.int .i64 0] 87);have hB:=Za.new (w.alloc (.cells #[.int .i64 f,.int .i64 r,.int .i64 o,.int .i64 s,.int .i64 wt] 32)) #[.int .i64 0,.int .i64 0,.int .i64 0,.int .i64 0,.int .i64 0] 87;rw[Zv]at hB;have hacc:=Zn w (.cells #[.int .i64 f,.int .i64 r,.int .i64 o,.int .i64 s,.int .i64 wt] 32) (.cells #[.int .i64 0,.int .i64 0,.int .i64 0,.int .i64 0,.int .i64 0] 87);go_enter Tryz.func140,Tryz.ntmps140
 go_upto_region 1 with fail
 generalize(w.alloc (.cells #[.int .i64 f,.int .i64 r,.int .i64 o,.int .i64 s,.int .i64 wt] 32)).alloc (.cells #[.int .i64 0,.int .i64 0,.int .i64 0,.int .i64 0,.int .i64 0] 87)=w1 at *;obtain⟨c0,c1,c2,c3,c4⟩:=hA.five;obtain⟨d0,d1,d2,d3,d4⟩:=hB.five;obtain⟨e0,e1,e2,e3,e4⟩:=hB.Z6
 go_region_law ((go_simp;go_at_call 201;refine(MN _ _ _ _ _ _ h1 h2 h3 h4).mono ?_;rintro e w9 ⟨rfl,hb⟩;have Wq:=hA.drew.below hb hA.lt;have U0:=hB.drew.below hb hB.lt;obtain⟨k0,k1,k2,k3,k4⟩:=Wq.five;obtain⟨l0,l1,l2,l3,l4⟩:=U0.five;obtain⟨m0,m1,m2,m3,m4⟩:=U0.Z6))
 all_goals
  have dD:=ZE hacc hacc.size (FB hb);obtain⟨y0,y1,y2,y3,y4⟩:=(U0.vY (.int .i64 (WE f s)) (.int .i64 r) (.int .i64 o) (.int .i64 verb) (.int .i64 arg)).five;go_simp;go_wp2;exact ZC (v:=.agg #[.int .i64 (WE f s),.int .i64 r,.int .i64 o,.int .i64 verb,.int .i64 arg]) (by simp[results,Tryz.results140,go_sem,y0,y1,y2,y3,y4]) rfl ⟨rfl,JQ dD QQ⟩
structure C5 where
 a:Int
 b:Int
 c:Int
 d:Int
 e:Int
def C5.cells(s:C5):List Value:=[.int .i64 s.a,.int .i64 s.b,.int .i64 s.c,.int .i64 s.d,.int .i64 s.e]
def C5.v(s:C5):Value:=.agg #[.int .i64 s.a,.int .i64 s.b,.int .i64 s.c,.int .i64 s.d,.int .i64 s.e]
end Go.Proofs.YtmdcencmiopmmaaGreat

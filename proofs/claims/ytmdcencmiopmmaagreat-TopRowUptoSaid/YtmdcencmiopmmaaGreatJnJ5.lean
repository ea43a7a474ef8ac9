/- joined, no condition of its own. -/
import Derived.Test.YtmdcencmiopmmaaGreatJnT
import Derived.Test.YtmdcencmiopmmaaGreatJnJ1
import Derived.Test.YtmdcencmiopmmaaGreatJnJ4
set_option linter.unusedVariables false
set_option linter.unusedSimpArgs false
set_option maxRecDepth 100000
set_option maxHeartbeats 12000000
namespace Go.Proofs.YtmdcencmiopmmaaGreat
open Go.RowKit
def zO(key:Int):Bool:=[102,70,116,84].contains key
theorem Hw(key:Int):key=104\/key=108\/key=48\/key=94\/key=36\/key=124\/key=119\/key=87\/key=98\/key=66\/key=101\/key=69\/key=37\/key=102\/key=70\/key=116\/key=84\/Kq key=false:=by
 cases h:Kq key
 ·simp
 ·simp[Kq]at h
  omega
theorem bM{key:Int}(h:Kq key=false):(key==104)=false/\(key==108)=false/\(key==48)=false/\(key==94)=false/\(key==36)=false/\(key==124)=false/\(key==119)=false/\(key==87)=false/\(key==98)=false/\(key==66)=false/\(key==101)=false/\(key==69)=false/\(key==37)=false/\(key==102)=false/\(key==70)=false/\(key==116)=false/\(key==84)=false:=by
 simp[Kq]at h;simp;omega
theorem Ri{key:Int}(h:Kq key=false):zO key=false:=by
 simp[Kq]at h;simp[zO];omega
theorem Kw(key:Int)(w:World):
  Calls Tryz.prog 288 #[.int .i64 key] w fun e w'=>e=.returned (.tuple #[.bool (Kq key),.bool (zO key)])/\w=w':=by
 rcases Hw key with rfl|rfl|rfl|rfl|rfl|rfl|rfl|rfl|rfl|rfl|rfl|rfl|rfl|rfl|rfl|rfl|rfl|h
 case inr.inr.inr.inr.inr.inr.inr.inr.inr.inr.inr.inr.inr.inr.inr.inr.inr=>
  obtain⟨h1,h2,h3,h4,h5,h6,h7,h8,h9,h10,h11,h12,TQ,h14,h15,h16,h17⟩:=bM h;have HF:=Zy (Ri h);have HK:=Zy h;clear h;go_enter Tryz.func288,Tryz.ntmps288
  go_wp2;go_ret2
  exact⟨by rw[HF.out,HK.out];rfl,rfl⟩
 all_goals
  go_enter Tryz.func288,Tryz.ntmps288
  go_wp2;go_ret2
  exact⟨rfl,rfl⟩
def MI(key count arg:Int):Value:=.agg #[.int .i64 key,.int .i64 count,.int .i64 arg]
theorem ML(l:List Int)(k key count:Int):(4096<l.length/\JH l k key count=2)\/(l.length<=4096/\((k<0\/(0<=k/\max 0 ((l.length:Int)-1)<k))\/(0<=k/\k<=max 0 ((l.length:Int)-1)/\(count<0\/999<count)))/\JH l k key count=1)
  \/(l.length<=4096/\0<=k/\k<=max 0 ((l.length:Int)-1)/\0<=count/\count<=999/\JH l k key count=if Kq key then 0 else 9):=by
 unfold JH;by_cases h1:4096<l.length
 ·left;rw[if_pos h1];exact⟨h1,rfl⟩
 ·rw[if_neg h1]
  right
  by_cases h2:k<0\/(0<k/\(l.length:Int)<=k)\/count<0\/999<count
  ·left;rw[if_pos h2];exact⟨QQ,QQ,rfl⟩
  ·right;rw[if_neg h2];exact⟨QQ,QQ,QQ,QQ,QQ,rfl⟩
theorem U5(a:Option Addr)(n c:Nat)(l:List Int)(k key count arg:Int)(w:World)(hn:l.length=n)(hn2:n<=9223372036854775807)(hk:yM k):
  Calls Tryz.prog 287 #[.slice a n c,.int .i64 k,MI key count arg] w fun e w'=>e=.returned (.int .i64 (JH l k key count))/\Below w.heap.size w w':=by
 unfold MI;obtain⟨hk1,hk2⟩:=hk;have hB:=Za.new w #[.int .i64 key,.int .i64 count,.int .i64 arg] 312;obtain⟨c0,c1,c2,-,-,-⟩:=hB.three;have hacc:=ZT w (.cells #[.int .i64 key,.int .i64 count,.int .i64 arg] 312);rcases ML l k key count with⟨h1,h2⟩|⟨h1,h2,h3⟩|⟨h1,h2,h3,h4,h5,h6⟩
 ·rw[h2]
  rw[hn]at h1;clear h2 hn;go_enter Tryz.func287,Tryz.ntmps287
  go_wp2;exact QFe
 ·rw[h3]
  rw[hn]at h1 h2;clear h3 hn;rcases h2 with(h|⟨h,h'⟩)|⟨h,h',h''|h''⟩
  all_goals
   go_enter Tryz.func287,Tryz.ntmps287
   go_wp2
   all_goals
    exact QFe
 ·rw[h6]
  rw[hn]at h1 h3;clear h6 hn;cases hK:Kq key
  ·have HK:=Zy hK;clear hK
   exact QEP
  ·have HK:=Zy hK;clear hK
   exact QEP
def KX(a:Option Addr)(n c:Nat)(k:Nat)(m:Int)(op:Bool):Value:=.agg #[.slice a n c,.int .i64 (k:Int),.int .i64 m,.bool op]
theorem Za.four{w:World}{B:Nat}{u0 u1 u2 u3:Value}{e:TypeId}(h:Za w B #[u0,u1,u2,u3] e):w.cell? ⟨B,0,none⟩=some u0/\w.cell? ⟨B,1,none⟩=some u1/\w.cell? ⟨B,2,none⟩=some u2/\w.cell? ⟨B,3,none⟩=some u3:=⟨h.cell 0,h.cell 1,h.cell 2,h.cell 3⟩
def rY(v:Int)(w:World)(e:Ending)(w':World):Prop:=e=.returned (.int .i64 v)/\Below w.heap.size w w'
theorem GQ(a:Option Addr)(n c:Nat)(l:List Int)(big:Bool)(k:Int)(w:World)(hl:Ints w a l)(hn:l.length=n)(hn2:n<=4096)(hk0:0<=k)(hk1:k<=n):
  Calls Tryz.prog 307 #[.slice a n c,.int .i64 k,.bool big] w fun e w'=>e=.returned (.tuple #[.int .i64 (JP l big k),.int .i64 0])/\Below w.heap.size w w':=
 (Du a n c l big k w hl hn hn2 hk0 hk1).mono fun e w' ⟨r,h1,h2,h3⟩=>by
  obtain rfl:=P7 hk0 QQ h2 (Cm l big k hk0 QQ);exact⟨h1,h3⟩
theorem GX(a:Option Addr)(n c:Nat)(l:List Int)(big:Bool)(k:Int)(w:World)(hl:Ints w a l)(hn:l.length=n)(hn2:n<=4096)(hk0:0<=k)(hk1:k<=n):
  Calls Tryz.prog 199 #[.slice a n c,.int .i64 k,.bool big] w fun e w'=>e=.returned (.tuple #[.int .i64 (Km l big k),.int .i64 0])/\Below w.heap.size w w':=
 (xG a n c l big k w hl hn hn2 hk0 hk1).mono fun e w' ⟨r,h1,h2,h3⟩=>by
  obtain rfl:=Dq hk0 QQ h2 (Wu l big k hk0);exact⟨h1,h3⟩
theorem Lc(a:Option Addr)(n c:Nat)(l:List Int)(big:Bool)(k:Int)(w:World)(hl:Ints w a l)(hn:l.length=n)(hn2:n<=4096)(hk0:0<=k)(hk1:k<=n):
  Calls Tryz.prog 308 #[.slice a n c,.int .i64 k,.bool big] w fun e w'=>e=.returned (.tuple #[.int .i64 (VE l big k),.int .i64 0])/\Below w.heap.size w w':=
 (GZ a n c l big k w hl hn hn2 hk0 hk1).mono fun e w' ⟨r,h1,h2,h3⟩=>by
  obtain rfl:=eZ hk0 QQ h2 (yu l big k hk0);exact⟨h1,h3⟩
theorem Jm(a:Option Addr)(n c:Nat)(l:List Int)(k:Nat)(m:Nat)(op big:Bool)(w:World)(hl:Ints w a l)(hn:l.length=n)(hn2:n<=4096)(hk:k<=n)(hm:m<=1000):
  Calls Tryz.prog 300 #[KX a n c k (m:Int) op,.func (.func 307) #[] #[],.bool big] w (rY (YO (JP l big) m k) w):=by
 unfold KX;have HB:=Zy (fun j=>KE (f:=JP l big) (lo:=0) (hi:=(n:Int)) (fun x h0 h1=>by rw[<-hn];exact xw l big x h0 QQ) (k:=(k:Int)) QQ QQ j);have HN:=Zy hn;clear hn;have hB:=Za.new w #[.slice a n c,.int .i64 (k:Int),.int .i64 (m:Int),.bool op] 359;obtain⟨c0,c1,c2,c3⟩:=hB.four;have hacc:=ZT w (.cells #[.slice a n c,.int .i64 (k:Int),.int .i64 (m:Int),.bool op] 359);have hsz:w.heap.size<(w.alloc (.cells #[.slice a n c,.int .i64 (k:Int),.int .i64 (m:Int),.bool op] 359)).heap.size:=QJ;go_enter Tryz.func300,Tryz.ntmps300
 go_upto_region 1 with fail
 change Code.wp _ _ _ _ (w.alloc (.cells #[.slice a n c,.int .i64 (k:Int),.int .i64 (m:Int),.bool op] 359));generalize(w.alloc (.cells #[.slice a n c,.int .i64 (k:Int),.int .i64 (m:Int),.bool op] 359))=w1 at *;go_wp2
 go_loopw [7,12] (fun v i wr=>∃j:Nat,i=.int .i64 (j:Int)/\j<=m/\v=.int .i64 (YO (JP l big) j (k:Int))/\Za wr w.heap.size #[.slice a n c,.int .i64 (k:Int),.int .i64 (m:Int),.bool op] 359/\Below w.heap.size w wr) (fun _ i _=>m-(intOf i).toNat)
 case atStart=>exact⟨0,rfl,QQ,rfl,hB,hacc⟩
 case round=>
  obtain⟨j,rfl,hj,rfl,hB2,hbel⟩:=hrel;obtain⟨d0,d1,d2,d3⟩:=hB2.four;obtain⟨g0,g1⟩:=HB.out j;by_cases hlt:j<m
  ·clear c0 c1 c2 c3
   go_wp2_with fail
   refine(GQ a n c l big _ _ (hl.below hbel) HN.out hn2 g0 g1).mono ?_;exact QDa
  ·obtain rfl:j=m:=by omega
   exact QFU
theorem qZ(a:Option Addr)(n c:Nat)(l:List Int)(k:Nat)(m:Nat)(op big:Bool)(w:World)(hl:Ints w a l)(hn:l.length=n)(hn2:n<=4096)(hk:k<=n)(hm:m<=1000):
  Calls Tryz.prog 300 #[KX a n c k (m:Int) op,.func (.func 199) #[] #[],.bool big] w (rY (YO (Km l big) m k) w):=by
 unfold KX;have HB:=Zy (fun j=>KE (f:=Km l big) (lo:=0) (hi:=(n:Int)) (fun x h0 h1=>by rw[<-hn];exact Ii l big x h0 QQ) (k:=(k:Int)) QQ QQ j);have HN:=Zy hn;clear hn;have hB:=Za.new w #[.slice a n c,.int .i64 (k:Int),.int .i64 (m:Int),.bool op] 359;obtain⟨c0,c1,c2,c3⟩:=hB.four;have hacc:=ZT w (.cells #[.slice a n c,.int .i64 (k:Int),.int .i64 (m:Int),.bool op] 359);have hsz:w.heap.size<(w.alloc (.cells #[.slice a n c,.int .i64 (k:Int),.int .i64 (m:Int),.bool op] 359)).heap.size:=QJ;go_enter Tryz.func300,Tryz.ntmps300
 go_upto_region 1 with fail
 change Code.wp _ _ _ _ (w.alloc (.cells #[.slice a n c,.int .i64 (k:Int),.int .i64 (m:Int),.bool op] 359));generalize(w.alloc (.cells #[.slice a n c,.int .i64 (k:Int),.int .i64 (m:Int),.bool op] 359))=w1 at *;go_wp2
 go_loopw [7,12] (fun v i wr=>∃j:Nat,i=.int .i64 (j:Int)/\j<=m/\v=.int .i64 (YO (Km l big) j (k:Int))/\Za wr w.heap.size #[.slice a n c,.int .i64 (k:Int),.int .i64 (m:Int),.bool op] 359/\Below w.heap.size w wr) (fun _ i _=>m-(intOf i).toNat)
 case atStart=>exact⟨0,rfl,QQ,rfl,hB,hacc⟩
 case round=>
  obtain⟨j,rfl,hj,rfl,hB2,hbel⟩:=hrel;obtain⟨d0,d1,d2,d3⟩:=hB2.four;obtain⟨g0,g1⟩:=HB.out j;by_cases hlt:j<m
  ·clear c0 c1 c2 c3
   go_wp2_with fail
   refine(GX a n c l big _ _ (hl.below hbel) HN.out hn2 g0 g1).mono ?_;exact QDa
  ·obtain rfl:j=m:=by omega
   exact QFU
theorem Vj(a:Option Addr)(n c:Nat)(l:List Int)(k:Nat)(m:Nat)(op big:Bool)(w:World)(hl:Ints w a l)(hn:l.length=n)(hn2:n<=4096)(hk:k<=n)(hm:m<=1000):
  Calls Tryz.prog 300 #[KX a n c k (m:Int) op,.func (.func 308) #[] #[],.bool big] w (rY (YO (VE l big) m k) w):=by
 unfold KX;have HB:=Zy (fun j=>KE (f:=VE l big) (lo:=0) (hi:=(n:Int)) (fun x h0 h1=>by rw[<-hn];exact Fz l big x h0 QQ) (k:=(k:Int)) QQ QQ j);have HN:=Zy hn;clear hn;have hB:=Za.new w #[.slice a n c,.int .i64 (k:Int),.int .i64 (m:Int),.bool op] 359;obtain⟨c0,c1,c2,c3⟩:=hB.four;have hacc:=ZT w (.cells #[.slice a n c,.int .i64 (k:Int),.int .i64 (m:Int),.bool op] 359);have hsz:w.heap.size<(w.alloc (.cells #[.slice a n c,.int .i64 (k:Int),.int .i64 (m:Int),.bool op] 359)).heap.size:=QJ;go_enter Tryz.func300,Tryz.ntmps300
 go_upto_region 1 with fail
 change Code.wp _ _ _ _ (w.alloc (.cells #[.slice a n c,.int .i64 (k:Int),.int .i64 (m:Int),.bool op] 359));generalize(w.alloc (.cells #[.slice a n c,.int .i64 (k:Int),.int .i64 (m:Int),.bool op] 359))=w1 at *;go_wp2
 go_loopw [7,12] (fun v i wr=>∃j:Nat,i=.int .i64 (j:Int)/\j<=m/\v=.int .i64 (YO (VE l big) j (k:Int))/\Za wr w.heap.size #[.slice a n c,.int .i64 (k:Int),.int .i64 (m:Int),.bool op] 359/\Below w.heap.size w wr) (fun _ i _=>m-(intOf i).toNat)
 case atStart=>exact⟨0,rfl,QQ,rfl,hB,hacc⟩
 case round=>
  obtain⟨j,rfl,hj,rfl,hB2,hbel⟩:=hrel;obtain⟨d0,d1,d2,d3⟩:=hB2.four;obtain⟨g0,g1⟩:=HB.out j;by_cases hlt:j<m
  ·clear c0 c1 c2 c3
   go_wp2_with fail
   refine(Lc a n c l big _ _ (hl.below hbel) HN.out hn2 g0 g1).mono ?_;exact QDa
  ·obtain rfl:j=m:=by omega
   exact QFU
def EL(r:Option (Int×Bool)):Int:=match r with|some x=>x.1|none=>0
def WR(r:Option (Int×Bool)):Bool:=match r with|some x=>x.2|none=>false
def Sm(r:Option (Int×Bool)):Int:=match r with|some x=>0|none=>5
def YF(r:Option (Int×Bool))(w:World)(e:Ending)(w':World):Prop:=e=.returned (.tuple #[.agg #[.int .i64 (EL r),.bool (WR r)],.int .i64 (Sm r)])/\Below w.heap.size w w'
def Ul(n k:Nat)(m:Int)(op:Bool):Option (Int×Bool):=if(if op then(n:Int)else n-1)<=k then none else some (min (if op then(n:Int)else n-1) (k+m),false)
theorem NY(a:Option Addr)(n c:Nat)(k:Nat)(m:Int)(op:Bool)(w:World)(hn2:n<=4096)(hk:k<=n)(hm:1<=m)(hm2:m<=999):
  Calls Tryz.prog 298 #[KX a n c k m op] w (YF (Ul n k m op) w):=by
 unfold KX;have hB:=(Za.new w #[.slice a n c,.int .i64 (k:Int),.int .i64 m,.bool op] 359).alloc (.cells #[.int .i64 0,.bool false] 361);obtain⟨c0,c1,c2,c3⟩:=hB.four;have hP:=Za.new (w.alloc (.cells #[.slice a n c,.int .i64 (k:Int),.int .i64 m,.bool op] 359)) #[.int .i64 0,.bool false] 361;rw[Zv]at hP;have hacc:=Zn w (.cells #[.slice a n c,.int .i64 (k:Int),.int .i64 m,.bool op] 359) (.cells #[.int .i64 0,.bool false] 361);cases op
 ·by_cases hf:(n:Int)-1<=k
  ·have HR:=Zy (show Ul n k m false=none by rw[Ul,if_pos QBJ])
   exact QGC
  ·have HR:=Zy (show Ul n k m false=some (min ((n:Int)-1) (k+m),false) by rw[Ul,if_neg QBJ];rfl)
   rcases(show(n:Int)-1<=k+m\/k+m<(n:Int)-1 from QQ)with h1|h1
   ·have HM:=Zy (show min ((n:Int)-1) (k+m)=(n:Int)-1 from QQ)
    go_enter Tryz.func298,Tryz.ntmps298
    go_wp2;rw[HR.out,HM.out];have hG:=(hP.set 0 (.int .i64 ((n:Int)-1))).set 1 (.bool false);obtain⟨q0,q1,-,-⟩:=Za.two hG;refine ZC (v:=.tuple #[.agg #[.int .i64 ((n:Int)-1),.bool false],.int .i64 0]) Ql rfl ⟨rfl,?_⟩;exact QCo
   ·have HM:=Zy (show min ((n:Int)-1) (k+m)=k+m from QQ)
    exact QGB
 ·by_cases hf:(n:Int)<=k
  ·have HR:=Zy (show Ul n k m true=none by rw[Ul,if_pos QBJ])
   exact QGC
  ·have HR:=Zy (show Ul n k m true=some (min ((n:Int)) (k+m),false) by rw[Ul,if_neg QBJ];rfl)
   rcases(show(n:Int)<=k+m\/k+m<(n:Int) from QQ)with h1|h1
   ·have HM:=Zy (show min ((n:Int)) (k+m)=(n:Int) from QQ)
    go_enter Tryz.func298,Tryz.ntmps298
    go_wp2;rw[HR.out,HM.out];have hG:=(hP.set 0 (.int .i64 ((n:Int)))).set 1 (.bool false);obtain⟨q0,q1,-,-⟩:=Za.two hG;refine ZC (v:=.tuple #[.agg #[.int .i64 ((n:Int)),.bool false],.int .i64 0]) Ql rfl ⟨rfl,?_⟩;exact QCo
   ·have HM:=Zy (show min ((n:Int)) (k+m)=k+m from QQ)
    exact QGB
theorem NJ(a:Option Addr)(n c:Nat)(l:List Int)(k:Nat)(m:Int)(op:Bool)(w:World)(hl:Ints w a l)(hn:l.length=n)(hn2:n<=4096):
  Calls Tryz.prog 299 #[KX a n c k m op] w (rY (Kz l) w):=by
 unfold KX;have HN:=Zy hn;clear hn;have hB:=Za.new w #[.slice a n c,.int .i64 (k:Int),.int .i64 m,.bool op] 359;obtain⟨c0,c1,c2,c3⟩:=hB.four;have hacc:=ZT w (.cells #[.slice a n c,.int .i64 (k:Int),.int .i64 m,.bool op] 359);have hI:=hl.below hacc;go_enter Tryz.func299,Tryz.ntmps299
 go_wp2
 go_loop [8] (fun i=>∃j:Nat,i=.int .i64 (j:Int)/\j<=n/\∀t,t<j->Xt (ix l t) true=0) (fun i=>n-(intOf i).toNat)
 case atStart=>exact⟨0,rfl,QQ,fun t h=>QQ⟩
 case round=>
  obtain⟨j,rfl,hj,hno⟩:=hrel;have HO:=Zy hno;clear hno;by_cases hlt:j<n
  ·obtain⟨b1,o1,rfl,hc⟩:=hI.at (k:=j) Qx
   have e1:=hc j Qx;have hkr:=kQ (ix l j) true;clear hc hl hI;by_cases hz:Xt (ix l j) true=0
   ·have hz':(Xt (ix l j) true !=0)=false:=by simpa using hz
    have HZ:=Zy hz;clear hz;go_wp2_with ((go_at_call 246);refine(Jq _ _ _).mono ?_;rintro e w' ⟨rfl,rfl⟩)
    go_round
    case rel=>exact⟨j+1,Qk,QQ,fun t h=>by
     rcases XK.1 h with h|rfl
     ·exact HO.out t h
     ·exact HZ.out⟩
    case measure=>simp[intOf];omega
   ·have hz':(Xt (ix l j) true !=0)=true:=by simpa using hz
    have HF:=Zy (show Kz l=(j:Int) by
     unfold Kz;split
     ·rename_i r h
      obtain⟨h1,h2,h3,h4⟩:=Yh h;simp at h3;rcases XC r j with h|h|h
      ·exact absurd (HO.out r h) h3
      ·rw[h]
      ·have:=h4 j QQ h;simp at this;exact absurd this hz
     ·rename_i h
      have:=VI h j QQ QB;simp at this;exact absurd this hz)
    clear hz;go_wp2_with ((go_at_call 246);refine(Jq _ _ _).mono ?_;rintro e w' ⟨rfl,rfl⟩)
    go_ret;exact⟨by rw[HF.out];rfl,hacc⟩
  ·obtain rfl:j=n:=by omega
   have HF:=Zy (show Kz l=max 0 ((j:Int)-1) by
     unfold Kz;split
     ·rename_i r h
      obtain⟨h1,h2,h3,h4⟩:=Yh h;simp at h3;exact absurd (HO.out r (by rw[HN.out]at h2;omega)) h3
     ·rw[HN.out])
   clear hI hl;rcases(show j=0\/0<j from QQ)with h0|h0
   ·subst h0
    go_wp2;go_ret;exact⟨by rw[HF.out];rfl,hacc⟩
   ·have HM:=Zy (show max 0 ((j:Int)-1)=(j:Int)-1 from QQ)
    have h1:0<=(j:Int)-1:=QQ;go_wp2
    all_goals
     go_ret;exact⟨XA (by rw[HF.out];omega),hacc⟩
def Uj(l:List Int)(k:Nat)(m:Nat)(op big:Bool):Option (Int×Bool):=
 if op then some (YO (JP l big) m k,false)else if min (YO (JP l big) m k) ((l.length:Int)-1)=k then none else some (min (YO (JP l big) m k) ((l.length:Int)-1),false)
def Wx(l:List Int)(k:Nat)(m:Nat)(op big:Bool):Option (Int×Bool):=
 if op=false/\YO (VE l big) m k=k then none else some (YO (VE l big) m k,true)
theorem O5{l:List Int}{k m:Nat}{big:Bool}:Uj l k m true big=some (YO (JP l big) m k,false):=if_pos rfl
theorem Cy{l:List Int}{k m:Nat}{big:Bool}{t:Int}(h:min (YO (JP l big) m k) ((l.length:Int)-1)=t):Uj l k m false big=if t=k then none else some (t,false):=by subst h;exact if_neg QJ
theorem AO(a:Option Addr)(n c:Nat)(l:List Int)(k m:Nat)(op big:Bool)(w:World)(hl:Ints w a l)(hn:l.length=n)(hn2:n<=4096)(hk:k<=n)(h0:1<=n)(hm:m<=1000):
  Calls Tryz.prog 301 #[KX a n c k (m:Int) op,.bool big] w (YF (Uj l k m op big) w):=by
 unfold KX;have HB:=Zy (KE (f:=JP l big) (lo:=0) (hi:=(n:Int)) (fun x h0 h1=>by rw[<-hn];exact xw l big x h0 QQ) (k:=(k:Int)) QQ QQ m);have HN:=Zy hn;clear hn;have hB:=(Za.new w #[.slice a n c,.int .i64 (k:Int),.int .i64 (m:Int),.bool op] 359).alloc (.cells #[.int .i64 0,.bool false] 361);obtain⟨c0,c1,c2,c3⟩:=hB.four;have hP:=Za.new (w.alloc (.cells #[.slice a n c,.int .i64 (k:Int),.int .i64 (m:Int),.bool op] 359)) #[.int .i64 0,.bool false] 361;rw[Zv]at hP;have hacc:=Zn w (.cells #[.slice a n c,.int .i64 (k:Int),.int .i64 (m:Int),.bool op] 359) (.cells #[.int .i64 0,.bool false] 361);have hI:=hl.below hacc;cases op
 ·have hb:=HB.out
  obtain⟨t,ht⟩:∃t,YO (JP l big) m k=t:=⟨_,rfl⟩;rw[ht]at hb;obtain⟨b1,b2⟩:=hb;have HT:=Zy ht;clear ht;rcases(show t<=(n:Int)-1\/(n:Int)-1<t from QQ)with h1|h1
  ·have HW:=Zy (Cy (l:=l) (k:=k) (m:=m) (big:=big) (t:=t) (by rw[HT.out,HN.out];omega))
   by_cases hk2:t=(k:Int)
   ·have HR:=Zy (show Uj l k m false big=none by rw[HW.out,if_pos hk2])
    have hb':((t:Int)==(k:Int))=true:=QAl;exact QGj
   ·have HR:=Zy (show Uj l k m false big=some (t,false) by rw[HW.out,if_neg hk2])
    have hb':((t:Int)==(k:Int))=false:=QAl;clear hk2;go_enter Tryz.func301,Tryz.ntmps301
    go_wp2_with ((go_at_call 300);refine(Jm a n c l k m _ big _ hI HN.out hn2 hk hm).mono ?_;rintro e w2 ⟨rfl,hb2⟩;rw[HT.out];have hB2:=hB.below hb2 hB.lt;obtain⟨d0,d1,d2,d3⟩:=hB2.four;have hP2:=hP.below hb2 hP.lt;obtain⟨s0,s1,s2,s3⟩:=hP2.two;have Z4:=ZE hacc QY hb2)
    rw[HR.out];have hG:=(hP2.set 0 (.int .i64 (t))).set 1 (.bool false);obtain⟨q0,q1,-,-⟩:=Za.two hG;refine ZC (v:=.tuple #[.agg #[.int .i64 (t),.bool false],.int .i64 0]) ZK rfl ⟨rfl,?_⟩;exact QCe
  ·have HW:=Zy (Cy (l:=l) (k:=k) (m:=m) (big:=big) (t:=(n:Int)-1) (by rw[HT.out,HN.out];omega))
   by_cases hk2:(n:Int)-1=(k:Int)
   ·have HR:=Zy (show Uj l k m false big=none by rw[HW.out,if_pos hk2])
    have hb':(((n:Int)-1:Int)==(k:Int))=true:=QAl;exact QGj
   ·have HR:=Zy (show Uj l k m false big=some ((n:Int)-1,false) by rw[HW.out,if_neg hk2])
    have hb':(((n:Int)-1:Int)==(k:Int))=false:=QAl;clear hk2;go_enter Tryz.func301,Tryz.ntmps301
    go_wp2_with ((go_at_call 300);refine(Jm a n c l k m _ big _ hI HN.out hn2 hk hm).mono ?_;rintro e w2 ⟨rfl,hb2⟩;rw[HT.out];have hB2:=hB.below hb2 hB.lt;obtain⟨d0,d1,d2,d3⟩:=hB2.four;have hP2:=hP.below hb2 hP.lt;obtain⟨s0,s1,s2,s3⟩:=hP2.two;have Z4:=ZE hacc QY hb2)
    rw[HR.out];have hG:=(hP2.set 0 (.int .i64 ((n:Int)-1))).set 1 (.bool false);obtain⟨q0,q1,-,-⟩:=Za.two hG;refine ZC (v:=.tuple #[.agg #[.int .i64 ((n:Int)-1),.bool false],.int .i64 0]) ZK rfl ⟨rfl,?_⟩;exact QCe
 ·have HR:=Zy (O5 (l:=l) (k:=k) (m:=m) (big:=big))
  go_enter Tryz.func301,Tryz.ntmps301
  go_wp2_with ((go_at_call 300);refine(Jm a n c l k m _ big _ hI HN.out hn2 hk hm).mono ?_;rintro e w2 ⟨rfl,hb2⟩;have hB2:=hB.below hb2 hB.lt;obtain⟨d0,d1,d2,d3⟩:=hB2.four;have hP2:=hP.below hb2 hP.lt;obtain⟨s0,s1,s2,s3⟩:=hP2.two;have Z4:=ZE hacc QY hb2)
  rw[HR.out];have hG:=(hP2.set 0 (.int .i64 (YO (JP l big) m k))).set 1 (.bool false);obtain⟨q0,q1,-,-⟩:=Za.two hG;refine ZC (v:=.tuple #[.agg #[.int .i64 (YO (JP l big) m k),.bool false],.int .i64 0]) ZK rfl ⟨rfl,?_⟩;exact QCe
theorem DX(a:Option Addr)(n c:Nat)(l:List Int)(k m:Nat)(op big:Bool)(w:World)(hl:Ints w a l)(hn:l.length=n)(hn2:n<=4096)(hk:k<=n)(h0:1<=n)(hm:m<=1000):
  Calls Tryz.prog 302 #[KX a n c k (m:Int) op,.bool big] w (YF (Wx l k m op big) w):=by
 unfold KX;have HB:=Zy (KE (f:=VE l big) (lo:=0) (hi:=(n:Int)) (fun x h0 h1=>by rw[<-hn];exact Fz l big x h0 QQ) (k:=(k:Int)) QQ QQ m);have HN:=Zy hn;clear hn;have hB:=(Za.new w #[.slice a n c,.int .i64 (k:Int),.int .i64 (m:Int),.bool op] 359).alloc (.cells #[.int .i64 0,.bool false] 361);obtain⟨c0,c1,c2,c3⟩:=hB.four;have hP:=Za.new (w.alloc (.cells #[.slice a n c,.int .i64 (k:Int),.int .i64 (m:Int),.bool op] 359)) #[.int .i64 0,.bool false] 361;rw[Zv]at hP;have hacc:=Zn w (.cells #[.slice a n c,.int .i64 (k:Int),.int .i64 (m:Int),.bool op] 359) (.cells #[.int .i64 0,.bool false] 361);have hI:=hl.below hacc;obtain⟨t,ht⟩:∃t,YO (VE l big) m k=t:=⟨_,rfl⟩;have HT:=Zy ht;clear ht;cases op
 ·by_cases hk2:t=(k:Int)
  ·have HR:=Zy (show Wx l k m false big=none by rw[Wx,HT.out,if_pos ⟨rfl,hk2⟩])
   have hb':(t==(k:Int))=true:=QAl;clear hk2;go_enter Tryz.func302,Tryz.ntmps302
   go_wp2_with ((go_at_call 300);refine(Vj a n c l k m _ big _ hI HN.out hn2 hk hm).mono ?_;rintro e w2 ⟨rfl,hb2⟩;rw[HT.out];have hB2:=hB.below hb2 hB.lt;obtain⟨d0,d1,d2,d3⟩:=hB2.four;have hP2:=hP.below hb2 hP.lt;obtain⟨s0,s1,s2,s3⟩:=hP2.two;have Z4:=ZE hacc QY hb2)
   rw[HR.out];have hG:=(hP2.set 0 (.int .i64 (0))).set 1 (.bool false);obtain⟨q0,q1,-,-⟩:=Za.two hG;refine ZC (v:=.tuple #[.agg #[.int .i64 (0),.bool false],.int .i64 5]) QAM rfl ⟨rfl,?_⟩;exact QCe
  ·have HR:=Zy (show Wx l k m false big=some (t,true) by rw[Wx,HT.out,if_neg (fun h=>hk2 h.2)])
   have hb':(t==(k:Int))=false:=QAl;clear hk2;exact QGk
 ·have HR:=Zy (show Wx l k m true big=some (t,true) by rw[Wx,HT.out,if_neg (fun h=>by cases h.1)])
  exact QGk
end Go.Proofs.YtmdcencmiopmmaaGreat
namespace Go.Proofs.YtmdcencmiopmmaaGreat
open Go.RowKit Go.Maps
theorem jq{ops:Array Oper}{rest:List Oper}{o:Oper}{a:Act}{Q:Exit->Act->World->Prop}{w:World}(hg:o.guard=none)(m x:Operand)
  (hop:o.op=Op.lookup 377 m x false) {b n:Nat} {f:Int->Value} (hmap:VA w b n f) {k:Int} (hk:yM k) {v:Value} (hv:f k=v) (hm:a.eval m=.map (some b)) (hx:a.eval x=.int .i64 k)
  (hK:wpList Tryz.prog ops Q rest (a.put o.dst v) w):wpList Tryz.prog ops Q (o::rest) a w:=by
 subst hv;refine wpList_plain hg fun K' hK'=>?_
 have hrun:=hmap.lookup (iJ w) hk;unfold Oper.wp;simp[execOp,hop,hm,hx,hrun,Result.andThen];exact hK' _ _ hK
theorem Gu{ops:Array Oper}{rest:List Oper}{o:Oper}{a:Act}{Q:Exit->Act->World->Prop}{w:World}(hg:o.guard=none)(m x v:Operand)
  (hop:o.op=Op.mapUpdate 377 m x v) {b n:Nat} {f:Int->Value} (hmap:VA w b n f) (hn:n<=1000000000) {k:Int} (hk:yM k) {val:Value}
  (hm:a.eval m=.map (some b)) (hx:a.eval x=.int .i64 k) (hv:a.eval v=val)
  (hK:∀w',VA w' b (n+1) (fun y=>if y=k then val else f y)->w.grownBy w' (some b)->wpList Tryz.prog ops Q rest (a.put o.dst undef) w'):wpList Tryz.prog ops Q (o::rest) a w:=by
 refine wpList_plain hg fun K' hK'=>?_
 obtain⟨w',hrun,r1,r2⟩:=hmap.update hn hk val;unfold Oper.wp;simp[execOp,hop,hm,hx,hv,hrun,Result.andThen];exact hK' _ _ (hK w' r1 r2)
theorem QXC{ops:Array Oper}{rest:List Oper}{o:Oper}{a:Act}{Q:Exit->Act->World->Prop}{w:World}(hgd:o.guard=none)(s x:Operand)
  (ho:o.op=.call {callee:=.builtin .append,args:=#[s,x],argTypes:=#[26,26]})
  (base:Nat) (v:Value) (xs:List Int) (y:Int) (ad:Addr) (hs:a.eval s=v) (hx:a.eval x=.slice (some ad) 1 1)
  (hown:Own 3 base w v xs) (hc:w.cell? ad=some (.int .i64 y)) (hl:xs.length<17592186044416) (hbase:base<=w.heap.size)
  (h:∀v' w',Own 3 base w' v' (xs++[y])->w.grownBy w' v.ownBlock->(v'.ownBlock=v.ownBlock\/v'.ownBlock=some w.heap.size)->wpList Tryz.prog ops Q rest (a.put o.dst v') w'):
  wpList Tryz.prog ops Q (o::rest) a w:=by
 obtain⟨i0,hi,hz0,hz1,hz2⟩:=Xf JI;refine wpList_append_own_at w hgd s x 26 ho base 3 i0 (.int .i64 0) 1 8 Tryz.underlying26 hi hz0 hz1 hz2 rfl QZ v xs.length _ hs hown ad 1 1 [.int .i64 y] hx rfl ?_ ?_ ?_ ?_ hbase ?_
 ·intro j u hj
  match j with
  | 0=>simp at hj;subst hj;simpa[Addr.add]using hc
  | j+1=>simp at hj
 ·intro u hu;simp at hu;subst hu;rfl
 ·unfold maxLen;omega
 ·omega
 ·intro v' w' h1 h2 h3 h4
  refine h v' w' ?_ h2 h4;unfold Own;simpa using h1
theorem dR(w:World)(a:Addr)(u:Value):w.grownBy (w.setCell a u) (some a.block):=
 ⟨rfl,rfl,rfl,QJ,fun k _ hk=>heap_setCell_other w a k u (fun e=>hk (by rw[e]))⟩
structure PW (w wr:World) (f:Int->Value) (out:List Int) (Jo:Int->List Int) (mm:Nat):Prop where
 row:Za wr w.heap.size (out.map (Value.int .i64)).toArray 3
 map:VA wr (w.heap.size+1) mm f
 own:∀o s,Xi o s->Own 3 (w.heap.size+2) wr (f o) (Jo o)
 sep:∀o s o' s',Xi o s->Xi o' s'->o≠o'->Sep (f o) (f o')
 YX:Below w.heap.size w wr
theorem PW.set{w wr:World}{f:Int->Value}{out:List Int}{Jo:Int->List Int}{mm:Nat}(h:PW w wr f out Jo mm)(i:Nat)(x:Int):
  PW w (wr.setCell ⟨w.heap.size,i,none⟩ (.int .i64 x)) f (out.set i x) Jo mm:=
 ⟨EZ h.row i x,h.map.kept (dR _ _ _) QJ,fun o s hk=>(h.own o s hk).setCell (by show w.heap.size<_;omega) _,h.sep,h.YX.setCell (p:=⟨w.heap.size,i,none⟩) (ZB _) _⟩
theorem PW.alloc{w wr:World}{f:Int->Value}{out:List Int}{Jo:Int->List Int}{mm:Nat}(h:PW w wr f out Jo mm)(ob:Obj):PW w (wr.alloc ob) f out Jo mm:=
 ⟨h.row.alloc ob,h.map.alloc ob,fun o s hk=>(h.own o s hk).alloc ob,h.sep,h.YX.alloc h.YX.size ob⟩
theorem PW.mapOf{w w1 w2:World}{f:Int->Value}{out:List Int}{Jo:Int->List Int}{mm:Nat}(h:PW w w1 f out Jo mm){o s:Int}(hk:Xi o s)(hg:w1.grownBy w2 (f o).ownBlock):VA w2 (w.heap.size+1) mm f:=
 h.map.kept hg ((h.own o s hk).ne QQ)
theorem Own.xK{e:TypeId}{base:Nat}{w w':World}{v:Value}{xs:List Int}{b:Nat}(h:Own e base w v xs)(hg:w.grownBy w' (some b))(hb:b<base):Own e base w' v xs:=by
 refine World.ownsRow.kept h hg ?_;rcases hv:v.ownBlock with _|j
 ·exact .inl rfl
 ·exact .inr (fun e=>by have:=h.row j hv;simp at e;omega)
theorem PW.push{w w1 w2 w3:World}{f:Int->Value}{out:List Int}{Jo:Int->List Int}{mm:Nat}(h:PW w w1 f out Jo mm){o s:Int}(hk:Xi o s){v':Value}{ys:List Int}
  (h1:Own 3 (w.heap.size+2) w2 v' ys) (hg:w1.grownBy w2 (f o).ownBlock) (hat:v'.ownBlock=(f o).ownBlock\/v'.ownBlock=some w1.heap.size)
  (hm:VA w3 (w.heap.size+1) (mm+1) (fun y=>if y=o then v' else f y)) (hg2:w2.grownBy w3 (some (w.heap.size+1))):
  PW w w3 (fun y=>if y=o then v' else f y) out (fun y=>if y=o then ys else Jo y) (mm+1):=by
 have si:∀o' s',Xi o' s'->o'≠o->Sep (f o') v':=fun o' s' hk' hne=>by
  rcases hat with e|e
  ·have:=h.sep o' s' o s hk' hk hne;unfold Sep at *;rw[e];exact this
  ·rcases hv:(f o').ownBlock with _|j
   ·exact .inl hv
   ·refine .inr ?_
    rw[hv,e];have:=(XH (h.own o' s' hk') j hv).2;simp;omega
 have hrow:=(h.own o s hk).row;refine⟨?_,hm,fun o' s' hk'=>?_,fun o1 s1 o2 s2 hk1 hk2 hne=>?_,?_⟩
 ·exact(h.row.grown hg ((h.own o s hk).ne QQ)).grown hg2 QJ
 ·by_cases e:o'=o
  ·subst e;rw[if_pos rfl];show Own _ _ _ _ (if o'=o' then ys else Jo o');rw[if_pos rfl];exact h1.xK hg2 QQ
  ·rw[if_neg e];show Own _ _ _ _ (if o'=o then ys else Jo o');rw[if_neg e]
   exact((h.own o' s' hk').grown hg (h.sep o' s' o s hk' hk e)).xK hg2 QQ
 ·by_cases e1:o1=o
  ·by_cases e2:o2=o
   ·exact absurd (e1.trans e2.symm) hne
   ·rw[if_pos e1,if_neg e2];exact(si o2 s2 hk2 e2).symm
  ·by_cases e2:o2=o
   ·rw[if_neg e1,if_pos e2];exact si o1 s1 hk1 e1
   ·rw[if_neg e1,if_neg e2];exact h.sep o1 s1 o2 s2 hk1 hk2 hne
 ·have hb1:Below w.heap.size w w2:=h.YX.grown hg h.YX.size (fun j hj=>by have:=hrow j hj;omega)
  exact hb1.grown hg2 hb1.size (fun j hj=>by simp at hj;omega)
theorem PW.pop{w w1 w3:World}{f:Int->Value}{out:List Int}{Jo:Int->List Int}{mm:Nat}(h:PW w w1 f out Jo mm){o s:Int}(hk:Xi o s){v':Value}{ys:List Int}
  (h1:Own 3 (w.heap.size+2) w1 v' ys) (hat:v'.ownBlock=(f o).ownBlock)
  (hm:VA w3 (w.heap.size+1) (mm+1) (fun y=>if y=o then v' else f y)) (hg2:w1.grownBy w3 (some (w.heap.size+1))):
  PW w w3 (fun y=>if y=o then v' else f y) out (fun y=>if y=o then ys else Jo y) (mm+1):=
 h.push hk h1 ⟨rfl,rfl,rfl,ZB _,fun _ _ _=>rfl⟩ (.inl hat) hm hg2
end Go.Proofs.YtmdcencmiopmmaaGreat

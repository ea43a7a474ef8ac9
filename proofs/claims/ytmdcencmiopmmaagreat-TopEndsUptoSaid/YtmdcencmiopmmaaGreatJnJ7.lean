/- joined, no condition of its own. -/
import Derived.Test.YtmdcencmiopmmaaGreatJnT
import Derived.Test.YtmdcencmiopmmaaGreatJnJ6
set_option linter.unusedVariables false
set_option linter.unusedSimpArgs false
set_option maxRecDepth 100000
set_option maxHeartbeats 12000000
namespace Go.Proofs.YtmdcencmiopmmaaGreat
open Go.RowKit
theorem lL(a:Option Addr)(n c:Nat)(l:List Int)(k m:Nat)(op:Bool)(w:World)(hl:Ints w a l)(hn:l.length=n)(hn2:n<=4096)(hk:k<=n)(hk2:k<n\/n=0)(hm0:1<=m)(hm:m<=999)(arg:Int):
  Calls Tryz.prog 290 #[KX a n c k (m:Int) op,.int .i64 104] w (YF (Ye l k 104 (m:Int) arg op) w):=by
 unfold KX;have hB:=(Za.new w #[.slice a n c,.int .i64 (k:Int),.int .i64 (m:Int),.bool op] 359).alloc (.cells #[.int .i64 0,.bool false] 361);obtain⟨c0,c1,c2,c3⟩:=hB.four;have hP:=Za.new (w.alloc (.cells #[.slice a n c,.int .i64 (k:Int),.int .i64 (m:Int),.bool op] 359)) #[.int .i64 0,.bool false] 361;rw[Zv]at hP;have hacc:=Zn w (.cells #[.slice a n c,.int .i64 (k:Int),.int .i64 (m:Int),.bool op] 359) (.cells #[.int .i64 0,.bool false] 361);have hI:=hl.below hacc;have HN:=Zy hn;clear hn;by_cases h0:k=0
 ·subst h0
  have HR:=Zy (show Ye l 0 104 (m:Int) arg op=none by simp[Ye]);exact QCb
 ·have h0':((k:Int)==0)=false:=by simp;omega
  rcases(show m<k\/k<=m from QQ)with h1|h1
  ·have h2:0<(k:Int)-(m:Int):=by omega
   have HM:=Zy (show max 0 ((k:Int)-m)=(k:Int)-m from QQ);have HR:=Zy (show Ye l k 104 (m:Int) arg op=some (max 0 ((k:Int)-m),false) by simp[Ye,h0]);clear h0;go_enter Tryz.func290,Tryz.ntmps290
   go_wp2;rw[HR.out,HM.out];have hG:=(hP.set 0 (.int .i64 ((k:Int)-m))).set 1 (.bool false);obtain⟨q0,q1,-,-⟩:=Za.two hG;refine ZC (v:=.tuple #[.agg #[.int .i64 ((k:Int)-m),.bool false],.int .i64 0]) QK rfl ⟨rfl,?_⟩;exact QCo
  ·have h2:(k:Int)-(m:Int)<=0:=by omega
   have HM:=Zy (show max 0 ((k:Int)-m)=0 from QQ);have HR:=Zy (show Ye l k 104 (m:Int) arg op=some (max 0 ((k:Int)-m),false) by simp[Ye,h0]);clear h0;go_enter Tryz.func290,Tryz.ntmps290
   go_wp2;rw[HR.out,HM.out];exact QGG
theorem lH(a:Option Addr)(n c:Nat)(l:List Int)(k m:Nat)(op:Bool)(w:World)(hl:Ints w a l)(hn:l.length=n)(hn2:n<=4096)(hk:k<=n)(hk2:k<n\/n=0)(hm0:1<=m)(hm:m<=999)(arg:Int):
  Calls Tryz.prog 290 #[KX a n c k (m:Int) op,.int .i64 108] w (YF (Ye l k 108 (m:Int) arg op) w):=by
 unfold KX;have hB:=(Za.new w #[.slice a n c,.int .i64 (k:Int),.int .i64 (m:Int),.bool op] 359).alloc (.cells #[.int .i64 0,.bool false] 361);obtain⟨c0,c1,c2,c3⟩:=hB.four;have hP:=Za.new (w.alloc (.cells #[.slice a n c,.int .i64 (k:Int),.int .i64 (m:Int),.bool op] 359)) #[.int .i64 0,.bool false] 361;rw[Zv]at hP;have hacc:=Zn w (.cells #[.slice a n c,.int .i64 (k:Int),.int .i64 (m:Int),.bool op] 359) (.cells #[.int .i64 0,.bool false] 361);have hI:=hl.below hacc;have HN:=Zy hn;have HR:=Zy (show Ye l k 108 (m:Int) arg op=Ul n k m op by unfold Ye Ul;rw[if_neg QZ,if_pos rfl,hn]);clear hn;obtain⟨r,hr⟩:∃r,Ul n k (m:Int) op=r:=⟨_,rfl⟩;have HR2:=Zy hr;clear hr;go_enter Tryz.func290,Tryz.ntmps290
 go_wp2_with ((go_at_call 298);refine(NY a n c k m op _ hn2 hk QQ QQ).mono ?_;rintro e w2 ⟨rfl,hb2⟩;rw[HR2.out];have hB2:=hB.below hb2 hB.lt;obtain⟨d0,d1,d2,d3⟩:=hB2.four;have hP2:=hP.below hb2 hP.lt;obtain⟨s0,s1,s2,s3⟩:=hP2.two;have Z4:=ZE hacc QY hb2)
 exact QGV
theorem mQ(a:Option Addr)(n c:Nat)(l:List Int)(k m:Nat)(op:Bool)(w:World)(hl:Ints w a l)(hn:l.length=n)(hn2:n<=4096)(hk:k<=n)(hk2:k<n\/n=0)(hm0:1<=m)(hm:m<=999)(arg:Int):
  Calls Tryz.prog 290 #[KX a n c k (m:Int) op,.int .i64 48] w (YF (Ye l k 48 (m:Int) arg op) w):=by
 unfold KX;have hB:=(Za.new w #[.slice a n c,.int .i64 (k:Int),.int .i64 (m:Int),.bool op] 359).alloc (.cells #[.int .i64 0,.bool false] 361);obtain⟨c0,c1,c2,c3⟩:=hB.four;have hP:=Za.new (w.alloc (.cells #[.slice a n c,.int .i64 (k:Int),.int .i64 (m:Int),.bool op] 359)) #[.int .i64 0,.bool false] 361;rw[Zv]at hP;have hacc:=Zn w (.cells #[.slice a n c,.int .i64 (k:Int),.int .i64 (m:Int),.bool op] 359) (.cells #[.int .i64 0,.bool false] 361);have hI:=hl.below hacc;have HN:=Zy hn;clear hn;have HR:=Zy (show Ye l k 48 (m:Int) arg op=some (0,false) by simp[Ye]);go_enter Tryz.func290,Tryz.ntmps290
 go_wp2;rw[HR.out];exact QGG
theorem G7(a:Option Addr)(n c:Nat)(l:List Int)(k m:Nat)(op:Bool)(w:World)(hl:Ints w a l)(hn:l.length=n)(hn2:n<=4096)(hk:k<=n)(hk2:k<n\/n=0)(hm0:1<=m)(hm:m<=999)(arg:Int):
  Calls Tryz.prog 290 #[KX a n c k (m:Int) op,.int .i64 94] w (YF (Ye l k 94 (m:Int) arg op) w):=by
 unfold KX;have hB:=(Za.new w #[.slice a n c,.int .i64 (k:Int),.int .i64 (m:Int),.bool op] 359).alloc (.cells #[.int .i64 0,.bool false] 361);obtain⟨c0,c1,c2,c3⟩:=hB.four;have hP:=Za.new (w.alloc (.cells #[.slice a n c,.int .i64 (k:Int),.int .i64 (m:Int),.bool op] 359)) #[.int .i64 0,.bool false] 361;rw[Zv]at hP;have hacc:=Zn w (.cells #[.slice a n c,.int .i64 (k:Int),.int .i64 (m:Int),.bool op] 359) (.cells #[.int .i64 0,.bool false] 361);have hI:=hl.below hacc;have HN:=Zy hn;have HN:=Zy hn;clear hn;obtain⟨t,ht⟩:∃t,Kz l=t:=⟨_,rfl⟩;have HT:=Zy ht;clear ht;have HR:=Zy (show Ye l k 94 (m:Int) arg op=some (Kz l,false) by simp[Ye]);go_enter Tryz.func290,Tryz.ntmps290
 go_wp2_with ((go_at_call 299);refine(NJ a n c l k m op _ hI HN.out hn2).mono ?_;rintro e w2 ⟨rfl,hb2⟩;rw[HT.out];have hB2:=hB.below hb2 hB.lt;obtain⟨d0,d1,d2,d3⟩:=hB2.four;have hP2:=hP.below hb2 hP.lt;obtain⟨s0,s1,s2,s3⟩:=hP2.two;have Z4:=ZE hacc QY hb2)
 exact QGv
theorem lM(a:Option Addr)(n c:Nat)(l:List Int)(k m:Nat)(op:Bool)(w:World)(hl:Ints w a l)(hn:l.length=n)(hn2:n<=4096)(hk:k<=n)(hk2:k<n\/n=0)(hm0:1<=m)(hm:m<=999)(arg:Int):
  Calls Tryz.prog 290 #[KX a n c k (m:Int) op,.int .i64 98] w (YF (Ye l k 98 (m:Int) arg op) w):=by
 unfold KX;have hB:=(Za.new w #[.slice a n c,.int .i64 (k:Int),.int .i64 (m:Int),.bool op] 359).alloc (.cells #[.int .i64 0,.bool false] 361);obtain⟨c0,c1,c2,c3⟩:=hB.four;have hP:=Za.new (w.alloc (.cells #[.slice a n c,.int .i64 (k:Int),.int .i64 (m:Int),.bool op] 359)) #[.int .i64 0,.bool false] 361;rw[Zv]at hP;have hacc:=Zn w (.cells #[.slice a n c,.int .i64 (k:Int),.int .i64 (m:Int),.bool op] 359) (.cells #[.int .i64 0,.bool false] 361);have hI:=hl.below hacc;have HN:=Zy hn;clear hn;by_cases h0:k=0
 ·subst h0
  have HR:=Zy (show Ye l 0 98 (m:Int) arg op=none by simp[Ye]);exact QCb
 ·have h0':((k:Int)==0)=false:=by simp;omega
  obtain⟨t,ht⟩:∃t,YO (Km l false) m k=t:=⟨_,rfl⟩;have HT:=Zy ht;clear ht;have HR:=Zy (show Ye l k 98 (m:Int) arg op=some (YO (Km l false) m k,false) by simp[Ye,h0]);clear h0;go_enter Tryz.func290,Tryz.ntmps290
  go_wp2_with ((go_at_call 300);refine(qZ a n c l k m op false _ hI HN.out hn2 hk QQ).mono ?_;rintro e w2 ⟨rfl,hb2⟩;rw[HT.out];have hB2:=hB.below hb2 hB.lt;obtain⟨d0,d1,d2,d3⟩:=hB2.four;have hP2:=hP.below hb2 hP.lt;obtain⟨s0,s1,s2,s3⟩:=hP2.two;have Z4:=ZE hacc QY hb2)
  exact QGv
theorem lh(a:Option Addr)(n c:Nat)(l:List Int)(k m:Nat)(op:Bool)(w:World)(hl:Ints w a l)(hn:l.length=n)(hn2:n<=4096)(hk:k<=n)(hk2:k<n\/n=0)(hm0:1<=m)(hm:m<=999)(arg:Int):
  Calls Tryz.prog 290 #[KX a n c k (m:Int) op,.int .i64 66] w (YF (Ye l k 66 (m:Int) arg op) w):=by
 unfold KX;have hB:=(Za.new w #[.slice a n c,.int .i64 (k:Int),.int .i64 (m:Int),.bool op] 359).alloc (.cells #[.int .i64 0,.bool false] 361);obtain⟨c0,c1,c2,c3⟩:=hB.four;have hP:=Za.new (w.alloc (.cells #[.slice a n c,.int .i64 (k:Int),.int .i64 (m:Int),.bool op] 359)) #[.int .i64 0,.bool false] 361;rw[Zv]at hP;have hacc:=Zn w (.cells #[.slice a n c,.int .i64 (k:Int),.int .i64 (m:Int),.bool op] 359) (.cells #[.int .i64 0,.bool false] 361);have hI:=hl.below hacc;have HN:=Zy hn;clear hn;by_cases h0:k=0
 ·subst h0
  have HR:=Zy (show Ye l 0 66 (m:Int) arg op=none by simp[Ye]);exact QCb
 ·have h0':((k:Int)==0)=false:=by simp;omega
  obtain⟨t,ht⟩:∃t,YO (Km l true) m k=t:=⟨_,rfl⟩;have HT:=Zy ht;clear ht;have HR:=Zy (show Ye l k 66 (m:Int) arg op=some (YO (Km l true) m k,false) by simp[Ye,h0]);clear h0;go_enter Tryz.func290,Tryz.ntmps290
  go_wp2_with ((go_at_call 300);refine(qZ a n c l k m op true _ hI HN.out hn2 hk QQ).mono ?_;rintro e w2 ⟨rfl,hb2⟩;rw[HT.out];have hB2:=hB.below hb2 hB.lt;obtain⟨d0,d1,d2,d3⟩:=hB2.four;have hP2:=hP.below hb2 hP.lt;obtain⟨s0,s1,s2,s3⟩:=hP2.two;have Z4:=ZE hacc QY hb2)
  exact QGv
theorem Ey(a:Option Addr)(n c:Nat)(l:List Int)(k m:Nat)(op:Bool)(w:World)(hl:Ints w a l)(hn:l.length=n)(hn2:n<=4096)(hk:k<=n)(hk2:k<n\/n=0)(hm0:1<=m)(hm:m<=999)(arg:Int)(h0:n=0)(hl0:l.length=0):
  Calls Tryz.prog 290 #[KX a n c k (m:Int) op,.int .i64 36] w (YF (Ye l k 36 (m:Int) arg op) w):=by
 subst h0;unfold KX;have hB:=(Za.new w #[.slice a 0 c,.int .i64 (k:Int),.int .i64 (m:Int),.bool op] 359).alloc (.cells #[.int .i64 0,.bool false] 361);obtain⟨c0,c1,c2,c3⟩:=hB.four;have hP:=Za.new (w.alloc (.cells #[.slice a 0 c,.int .i64 (k:Int),.int .i64 (m:Int),.bool op] 359)) #[.int .i64 0,.bool false] 361;rw[Zv]at hP;have hacc:=Zn w (.cells #[.slice a 0 c,.int .i64 (k:Int),.int .i64 (m:Int),.bool op] 359) (.cells #[.int .i64 0,.bool false] 361);have hI:=hl.below hacc;have HN:=Zy hn;clear hn HN;have HR:=Zy (show Ye l k 36 (m:Int) arg op=none from QAn);clear hl0;exact QCb
theorem BH(a:Option Addr)(n c:Nat)(l:List Int)(k m:Nat)(op:Bool)(w:World)(hl:Ints w a l)(hn:l.length=n)(hn2:n<=4096)(hk:k<=n)(hk2:k<n\/n=0)(hm0:1<=m)(hm:m<=999)(arg:Int)(h0:n=0)(hl0:l.length=0):
  Calls Tryz.prog 290 #[KX a n c k (m:Int) op,.int .i64 124] w (YF (Ye l k 124 (m:Int) arg op) w):=by
 subst h0;unfold KX;have hB:=(Za.new w #[.slice a 0 c,.int .i64 (k:Int),.int .i64 (m:Int),.bool op] 359).alloc (.cells #[.int .i64 0,.bool false] 361);obtain⟨c0,c1,c2,c3⟩:=hB.four;have hP:=Za.new (w.alloc (.cells #[.slice a 0 c,.int .i64 (k:Int),.int .i64 (m:Int),.bool op] 359)) #[.int .i64 0,.bool false] 361;rw[Zv]at hP;have hacc:=Zn w (.cells #[.slice a 0 c,.int .i64 (k:Int),.int .i64 (m:Int),.bool op] 359) (.cells #[.int .i64 0,.bool false] 361);have hI:=hl.below hacc;have HN:=Zy hn;clear hn HN;have HR:=Zy (show Ye l k 124 (m:Int) arg op=none from QAn);clear hl0;exact QCb
theorem BI(a:Option Addr)(n c:Nat)(l:List Int)(k m:Nat)(op:Bool)(w:World)(hl:Ints w a l)(hn:l.length=n)(hn2:n<=4096)(hk:k<=n)(hk2:k<n\/n=0)(hm0:1<=m)(hm:m<=999)(arg:Int)(h0:n=0)(hl0:l.length=0):
  Calls Tryz.prog 290 #[KX a n c k (m:Int) op,.int .i64 119] w (YF (Ye l k 119 (m:Int) arg op) w):=by
 subst h0;unfold KX;have hB:=(Za.new w #[.slice a 0 c,.int .i64 (k:Int),.int .i64 (m:Int),.bool op] 359).alloc (.cells #[.int .i64 0,.bool false] 361);obtain⟨c0,c1,c2,c3⟩:=hB.four;have hP:=Za.new (w.alloc (.cells #[.slice a 0 c,.int .i64 (k:Int),.int .i64 (m:Int),.bool op] 359)) #[.int .i64 0,.bool false] 361;rw[Zv]at hP;have hacc:=Zn w (.cells #[.slice a 0 c,.int .i64 (k:Int),.int .i64 (m:Int),.bool op] 359) (.cells #[.int .i64 0,.bool false] 361);have hI:=hl.below hacc;have HN:=Zy hn;clear hn HN;have HR:=Zy (show Ye l k 119 (m:Int) arg op=none from QAn);clear hl0;exact QCb
theorem EW(a:Option Addr)(n c:Nat)(l:List Int)(k m:Nat)(op:Bool)(w:World)(hl:Ints w a l)(hn:l.length=n)(hn2:n<=4096)(hk:k<=n)(hk2:k<n\/n=0)(hm0:1<=m)(hm:m<=999)(arg:Int)(h0:n=0)(hl0:l.length=0):
  Calls Tryz.prog 290 #[KX a n c k (m:Int) op,.int .i64 87] w (YF (Ye l k 87 (m:Int) arg op) w):=by
 subst h0;unfold KX;have hB:=(Za.new w #[.slice a 0 c,.int .i64 (k:Int),.int .i64 (m:Int),.bool op] 359).alloc (.cells #[.int .i64 0,.bool false] 361);obtain⟨c0,c1,c2,c3⟩:=hB.four;have hP:=Za.new (w.alloc (.cells #[.slice a 0 c,.int .i64 (k:Int),.int .i64 (m:Int),.bool op] 359)) #[.int .i64 0,.bool false] 361;rw[Zv]at hP;have hacc:=Zn w (.cells #[.slice a 0 c,.int .i64 (k:Int),.int .i64 (m:Int),.bool op] 359) (.cells #[.int .i64 0,.bool false] 361);have hI:=hl.below hacc;have HN:=Zy hn;clear hn HN;have HR:=Zy (show Ye l k 87 (m:Int) arg op=none from QAn);clear hl0;exact QCb
theorem BL(a:Option Addr)(n c:Nat)(l:List Int)(k m:Nat)(op:Bool)(w:World)(hl:Ints w a l)(hn:l.length=n)(hn2:n<=4096)(hk:k<=n)(hk2:k<n\/n=0)(hm0:1<=m)(hm:m<=999)(arg:Int)(h0:n=0)(hl0:l.length=0):
  Calls Tryz.prog 290 #[KX a n c k (m:Int) op,.int .i64 101] w (YF (Ye l k 101 (m:Int) arg op) w):=by
 subst h0;unfold KX;have hB:=(Za.new w #[.slice a 0 c,.int .i64 (k:Int),.int .i64 (m:Int),.bool op] 359).alloc (.cells #[.int .i64 0,.bool false] 361);obtain⟨c0,c1,c2,c3⟩:=hB.four;have hP:=Za.new (w.alloc (.cells #[.slice a 0 c,.int .i64 (k:Int),.int .i64 (m:Int),.bool op] 359)) #[.int .i64 0,.bool false] 361;rw[Zv]at hP;have hacc:=Zn w (.cells #[.slice a 0 c,.int .i64 (k:Int),.int .i64 (m:Int),.bool op] 359) (.cells #[.int .i64 0,.bool false] 361);have hI:=hl.below hacc;have HN:=Zy hn;clear hn HN;have HR:=Zy (show Ye l k 101 (m:Int) arg op=none from QAn);clear hl0;exact QCb
theorem Ez(a:Option Addr)(n c:Nat)(l:List Int)(k m:Nat)(op:Bool)(w:World)(hl:Ints w a l)(hn:l.length=n)(hn2:n<=4096)(hk:k<=n)(hk2:k<n\/n=0)(hm0:1<=m)(hm:m<=999)(arg:Int)(h0:n=0)(hl0:l.length=0):
  Calls Tryz.prog 290 #[KX a n c k (m:Int) op,.int .i64 69] w (YF (Ye l k 69 (m:Int) arg op) w):=by
 subst h0;unfold KX;have hB:=(Za.new w #[.slice a 0 c,.int .i64 (k:Int),.int .i64 (m:Int),.bool op] 359).alloc (.cells #[.int .i64 0,.bool false] 361);obtain⟨c0,c1,c2,c3⟩:=hB.four;have hP:=Za.new (w.alloc (.cells #[.slice a 0 c,.int .i64 (k:Int),.int .i64 (m:Int),.bool op] 359)) #[.int .i64 0,.bool false] 361;rw[Zv]at hP;have hacc:=Zn w (.cells #[.slice a 0 c,.int .i64 (k:Int),.int .i64 (m:Int),.bool op] 359) (.cells #[.int .i64 0,.bool false] 361);have hI:=hl.below hacc;have HN:=Zy hn;clear hn HN;have HR:=Zy (show Ye l k 69 (m:Int) arg op=none from QAn);clear hl0;exact QCb
theorem Ex(a:Option Addr)(n c:Nat)(l:List Int)(k m:Nat)(op:Bool)(w:World)(hl:Ints w a l)(hn:l.length=n)(hn2:n<=4096)(hk:k<=n)(hk2:k<n\/n=0)(hm0:1<=m)(hm:m<=999)(arg:Int)(h0:n=0)(hl0:l.length=0):
  Calls Tryz.prog 290 #[KX a n c k (m:Int) op,.int .i64 37] w (YF (Ye l k 37 (m:Int) arg op) w):=by
 subst h0;unfold KX;have hB:=(Za.new w #[.slice a 0 c,.int .i64 (k:Int),.int .i64 (m:Int),.bool op] 359).alloc (.cells #[.int .i64 0,.bool false] 361);obtain⟨c0,c1,c2,c3⟩:=hB.four;have hP:=Za.new (w.alloc (.cells #[.slice a 0 c,.int .i64 (k:Int),.int .i64 (m:Int),.bool op] 359)) #[.int .i64 0,.bool false] 361;rw[Zv]at hP;have hacc:=Zn w (.cells #[.slice a 0 c,.int .i64 (k:Int),.int .i64 (m:Int),.bool op] 359) (.cells #[.int .i64 0,.bool false] 361);have hI:=hl.below hacc;have HN:=Zy hn;clear hn HN;have HR:=Zy (show Ye l k 37 (m:Int) arg op=none from QAn);clear hl0;exact QCb
theorem aR(a:Option Addr)(n c:Nat)(l:List Int)(k m:Nat)(op:Bool)(w:World)(hl:Ints w a l)(hn:l.length=n)(hn2:n<=4096)(hk:k<=n)(hk2:k<n\/n=0)(hm0:1<=m)(hm:m<=999)(arg:Int)(h0:1<=n)(hl0:l.length≠0):
  Calls Tryz.prog 290 #[KX a n c k (m:Int) op,.int .i64 36] w (YF (Ye l k 36 (m:Int) arg op) w):=by
 unfold KX;have hB:=(Za.new w #[.slice a n c,.int .i64 (k:Int),.int .i64 (m:Int),.bool op] 359).alloc (.cells #[.int .i64 0,.bool false] 361);obtain⟨c0,c1,c2,c3⟩:=hB.four;have hP:=Za.new (w.alloc (.cells #[.slice a n c,.int .i64 (k:Int),.int .i64 (m:Int),.bool op] 359)) #[.int .i64 0,.bool false] 361;rw[Zv]at hP;have hacc:=Zn w (.cells #[.slice a n c,.int .i64 (k:Int),.int .i64 (m:Int),.bool op] 359) (.cells #[.int .i64 0,.bool false] 361);have hI:=hl.below hacc;have HN:=Zy hn;have h0':((n:Int)==0)=false:=QY;have hln:((l.length:Nat):Int)=(n:Int):=QQ;have HR:=Zy (show Ye l k 36 (m:Int) arg op=some ((n:Int)-1,true) by simp[Ye,hl0,hln]);clear hn hln hl0;go_enter Tryz.func290,Tryz.ntmps290
 go_wp2;rw[HR.out];have hG:=(hP.set 0 (.int .i64 ((n:Int)-1))).set 1 (.bool true);obtain⟨q0,q1,-,-⟩:=Za.two hG;refine ZC (v:=.tuple #[.agg #[.int .i64 ((n:Int)-1),.bool true],.int .i64 0]) QK rfl ⟨rfl,?_⟩;exact QCo
theorem Pe(a:Option Addr)(n c:Nat)(l:List Int)(k m:Nat)(op:Bool)(w:World)(hl:Ints w a l)(hn:l.length=n)(hn2:n<=4096)(hk:k<=n)(hk2:k<n\/n=0)(hm0:1<=m)(hm:m<=999)(arg:Int)(h0:1<=n)(hl0:l.length≠0):
  Calls Tryz.prog 290 #[KX a n c k (m:Int) op,.int .i64 124] w (YF (Ye l k 124 (m:Int) arg op) w):=by
 unfold KX;have hB:=(Za.new w #[.slice a n c,.int .i64 (k:Int),.int .i64 (m:Int),.bool op] 359).alloc (.cells #[.int .i64 0,.bool false] 361);obtain⟨c0,c1,c2,c3⟩:=hB.four;have hP:=Za.new (w.alloc (.cells #[.slice a n c,.int .i64 (k:Int),.int .i64 (m:Int),.bool op] 359)) #[.int .i64 0,.bool false] 361;rw[Zv]at hP;have hacc:=Zn w (.cells #[.slice a n c,.int .i64 (k:Int),.int .i64 (m:Int),.bool op] 359) (.cells #[.int .i64 0,.bool false] 361);have hI:=hl.below hacc;have HN:=Zy hn;have h0':((n:Int)==0)=false:=QY;have hln:((l.length:Nat):Int)=(n:Int):=QQ;rcases(show m<=n\/n<m from QQ)with h1|h1
 ·have HM:=Zy (show min (m:Int) (n:Int)-1=(m:Int)-1 from QQ)
  have HR:=Zy (show Ye l k 124 (m:Int) arg op=some (min (m:Int) (n:Int)-1,false) by simp[Ye,hl0,hln]);clear hn hln hl0;go_enter Tryz.func290,Tryz.ntmps290
  go_wp2;rw[HR.out,HM.out];have hG:=(hP.set 0 (.int .i64 ((m:Int)-1))).set 1 (.bool false);obtain⟨q0,q1,-,-⟩:=Za.two hG;refine ZC (v:=.tuple #[.agg #[.int .i64 ((m:Int)-1),.bool false],.int .i64 0]) QK rfl ⟨rfl,?_⟩;exact QCo
 ·have HM:=Zy (show min (m:Int) (n:Int)-1=(n:Int)-1 from QQ)
  have HR:=Zy (show Ye l k 124 (m:Int) arg op=some (min (m:Int) (n:Int)-1,false) by simp[Ye,hl0,hln]);clear hn hln hl0;go_enter Tryz.func290,Tryz.ntmps290
  go_wp2;rw[HR.out,HM.out];have hG:=(hP.set 0 (.int .i64 ((n:Int)-1))).set 1 (.bool false);obtain⟨q0,q1,-,-⟩:=Za.two hG;refine ZC (v:=.tuple #[.agg #[.int .i64 ((n:Int)-1),.bool false],.int .i64 0]) QK rfl ⟨rfl,?_⟩;exact QCo
theorem Pf(a:Option Addr)(n c:Nat)(l:List Int)(k m:Nat)(op:Bool)(w:World)(hl:Ints w a l)(hn:l.length=n)(hn2:n<=4096)(hk:k<=n)(hk2:k<n\/n=0)(hm0:1<=m)(hm:m<=999)(arg:Int)(h0:1<=n)(hl0:l.length≠0):
  Calls Tryz.prog 290 #[KX a n c k (m:Int) op,.int .i64 119] w (YF (Ye l k 119 (m:Int) arg op) w):=by
 unfold KX;have hB:=(Za.new w #[.slice a n c,.int .i64 (k:Int),.int .i64 (m:Int),.bool op] 359).alloc (.cells #[.int .i64 0,.bool false] 361);obtain⟨c0,c1,c2,c3⟩:=hB.four;have hP:=Za.new (w.alloc (.cells #[.slice a n c,.int .i64 (k:Int),.int .i64 (m:Int),.bool op] 359)) #[.int .i64 0,.bool false] 361;rw[Zv]at hP;have hacc:=Zn w (.cells #[.slice a n c,.int .i64 (k:Int),.int .i64 (m:Int),.bool op] 359) (.cells #[.int .i64 0,.bool false] 361);have hI:=hl.below hacc;have HN:=Zy hn;have h0':((n:Int)==0)=false:=QY;have HR:=Zy (show Ye l k 119 (m:Int) arg op=Uj l k m op false by
  unfold Ye Uj;simp only[Xq];rw[if_neg QZ,if_neg QZ,if_neg QZ,if_neg QZ,if_neg QZ,if_neg QZ,if_neg QZ,if_neg hl0,if_neg QZ,if_neg QZ];first|(rw[if_pos QZ];rfl)|(rw[if_neg QZ,if_pos QZ];rfl))
 clear hn hl0;obtain⟨r,hr⟩:∃r,Uj l k m op false=r:=⟨_,rfl⟩;have HR2:=Zy hr;clear hr;go_enter Tryz.func290,Tryz.ntmps290
 go_wp2_with ((go_at_call 301);refine(AO a n c l k m op false _ hI HN.out hn2 hk h0 QQ).mono ?_;rintro e w2 ⟨rfl,hb2⟩;rw[HR2.out];have hB2:=hB.below hb2 hB.lt;obtain⟨d0,d1,d2,d3⟩:=hB2.four;have hP2:=hP.below hb2 hP.lt;obtain⟨s0,s1,s2,s3⟩:=hP2.two;have Z4:=ZE hacc QY hb2)
 exact QGV
theorem aM(a:Option Addr)(n c:Nat)(l:List Int)(k m:Nat)(op:Bool)(w:World)(hl:Ints w a l)(hn:l.length=n)(hn2:n<=4096)(hk:k<=n)(hk2:k<n\/n=0)(hm0:1<=m)(hm:m<=999)(arg:Int)(h0:1<=n)(hl0:l.length≠0):
  Calls Tryz.prog 290 #[KX a n c k (m:Int) op,.int .i64 87] w (YF (Ye l k 87 (m:Int) arg op) w):=by
 unfold KX;have hB:=(Za.new w #[.slice a n c,.int .i64 (k:Int),.int .i64 (m:Int),.bool op] 359).alloc (.cells #[.int .i64 0,.bool false] 361);obtain⟨c0,c1,c2,c3⟩:=hB.four;have hP:=Za.new (w.alloc (.cells #[.slice a n c,.int .i64 (k:Int),.int .i64 (m:Int),.bool op] 359)) #[.int .i64 0,.bool false] 361;rw[Zv]at hP;have hacc:=Zn w (.cells #[.slice a n c,.int .i64 (k:Int),.int .i64 (m:Int),.bool op] 359) (.cells #[.int .i64 0,.bool false] 361);have hI:=hl.below hacc;have HN:=Zy hn;have h0':((n:Int)==0)=false:=QY;have HR:=Zy (show Ye l k 87 (m:Int) arg op=Uj l k m op true by
  unfold Ye Uj;simp only[Xq];rw[if_neg QZ,if_neg QZ,if_neg QZ,if_neg QZ,if_neg QZ,if_neg QZ,if_neg QZ,if_neg hl0,if_neg QZ,if_neg QZ];first|(rw[if_pos QZ];rfl)|(rw[if_neg QZ,if_pos QZ];rfl))
 clear hn hl0;obtain⟨r,hr⟩:∃r,Uj l k m op true=r:=⟨_,rfl⟩;have HR2:=Zy hr;clear hr;go_enter Tryz.func290,Tryz.ntmps290
 go_wp2_with ((go_at_call 301);refine(AO a n c l k m op true _ hI HN.out hn2 hk h0 QQ).mono ?_;rintro e w2 ⟨rfl,hb2⟩;rw[HR2.out];have hB2:=hB.below hb2 hB.lt;obtain⟨d0,d1,d2,d3⟩:=hB2.four;have hP2:=hP.below hb2 hP.lt;obtain⟨s0,s1,s2,s3⟩:=hP2.two;have Z4:=ZE hacc QY hb2)
 exact QGV
theorem Pg(a:Option Addr)(n c:Nat)(l:List Int)(k m:Nat)(op:Bool)(w:World)(hl:Ints w a l)(hn:l.length=n)(hn2:n<=4096)(hk:k<=n)(hk2:k<n\/n=0)(hm0:1<=m)(hm:m<=999)(arg:Int)(h0:1<=n)(hl0:l.length≠0):
  Calls Tryz.prog 290 #[KX a n c k (m:Int) op,.int .i64 101] w (YF (Ye l k 101 (m:Int) arg op) w):=by
 unfold KX;have hB:=(Za.new w #[.slice a n c,.int .i64 (k:Int),.int .i64 (m:Int),.bool op] 359).alloc (.cells #[.int .i64 0,.bool false] 361);obtain⟨c0,c1,c2,c3⟩:=hB.four;have hP:=Za.new (w.alloc (.cells #[.slice a n c,.int .i64 (k:Int),.int .i64 (m:Int),.bool op] 359)) #[.int .i64 0,.bool false] 361;rw[Zv]at hP;have hacc:=Zn w (.cells #[.slice a n c,.int .i64 (k:Int),.int .i64 (m:Int),.bool op] 359) (.cells #[.int .i64 0,.bool false] 361);have hI:=hl.below hacc;have HN:=Zy hn;have h0':((n:Int)==0)=false:=QY;have HR:=Zy (show Ye l k 101 (m:Int) arg op=Wx l k m op false by
  unfold Ye Wx;simp only[Xq];rw[if_neg QZ,if_neg QZ,if_neg QZ,if_neg QZ,if_neg QZ,if_neg QZ,if_neg QZ,if_neg hl0,if_neg QZ,if_neg QZ];first|(rw[if_pos QZ];rfl)|(rw[if_neg QZ,if_pos QZ];rfl))
 clear hn hl0;obtain⟨r,hr⟩:∃r,Wx l k m op false=r:=⟨_,rfl⟩;have HR2:=Zy hr;clear hr;go_enter Tryz.func290,Tryz.ntmps290
 go_wp2_with ((go_at_call 302);refine(DX a n c l k m op false _ hI HN.out hn2 hk h0 QQ).mono ?_;rintro e w2 ⟨rfl,hb2⟩;rw[HR2.out];have hB2:=hB.below hb2 hB.lt;obtain⟨d0,d1,d2,d3⟩:=hB2.four;have hP2:=hP.below hb2 hP.lt;obtain⟨s0,s1,s2,s3⟩:=hP2.two;have Z4:=ZE hacc QY hb2)
 exact QGV
theorem aN(a:Option Addr)(n c:Nat)(l:List Int)(k m:Nat)(op:Bool)(w:World)(hl:Ints w a l)(hn:l.length=n)(hn2:n<=4096)(hk:k<=n)(hk2:k<n\/n=0)(hm0:1<=m)(hm:m<=999)(arg:Int)(h0:1<=n)(hl0:l.length≠0):
  Calls Tryz.prog 290 #[KX a n c k (m:Int) op,.int .i64 69] w (YF (Ye l k 69 (m:Int) arg op) w):=by
 unfold KX;have hB:=(Za.new w #[.slice a n c,.int .i64 (k:Int),.int .i64 (m:Int),.bool op] 359).alloc (.cells #[.int .i64 0,.bool false] 361);obtain⟨c0,c1,c2,c3⟩:=hB.four;have hP:=Za.new (w.alloc (.cells #[.slice a n c,.int .i64 (k:Int),.int .i64 (m:Int),.bool op] 359)) #[.int .i64 0,.bool false] 361;rw[Zv]at hP;have hacc:=Zn w (.cells #[.slice a n c,.int .i64 (k:Int),.int .i64 (m:Int),.bool op] 359) (.cells #[.int .i64 0,.bool false] 361);have hI:=hl.below hacc;have HN:=Zy hn;have h0':((n:Int)==0)=false:=QY;have HR:=Zy (show Ye l k 69 (m:Int) arg op=Wx l k m op true by
  unfold Ye Wx;simp only[Xq];rw[if_neg QZ,if_neg QZ,if_neg QZ,if_neg QZ,if_neg QZ,if_neg QZ,if_neg QZ,if_neg hl0,if_neg QZ,if_neg QZ];first|(rw[if_pos QZ];rfl)|(rw[if_neg QZ,if_pos QZ];rfl))
 clear hn hl0;obtain⟨r,hr⟩:∃r,Wx l k m op true=r:=⟨_,rfl⟩;have HR2:=Zy hr;clear hr;go_enter Tryz.func290,Tryz.ntmps290
 go_wp2_with ((go_at_call 302);refine(DX a n c l k m op true _ hI HN.out hn2 hk h0 QQ).mono ?_;rintro e w2 ⟨rfl,hb2⟩;rw[HR2.out];have hB2:=hB.below hb2 hB.lt;obtain⟨d0,d1,d2,d3⟩:=hB2.four;have hP2:=hP.below hb2 hP.lt;obtain⟨s0,s1,s2,s3⟩:=hP2.two;have Z4:=ZE hacc QY hb2)
 exact QGV
theorem aO(a:Option Addr)(n c:Nat)(l:List Int)(k m:Nat)(op:Bool)(w:World)(hl:Ints w a l)(hn:l.length=n)(hn2:n<=4096)(hk:k<=n)(hk2:k<n\/n=0)(hm0:1<=m)(hm:m<=999)(arg:Int)(h0:1<=n)(hl0:l.length≠0):
  Calls Tryz.prog 290 #[KX a n c k (m:Int) op,.int .i64 37] w (YF (Ye l k 37 (m:Int) arg op) w):=by
 unfold KX;have hB:=(Za.new w #[.slice a n c,.int .i64 (k:Int),.int .i64 (m:Int),.bool op] 359).alloc (.cells #[.int .i64 0,.bool false] 361);obtain⟨c0,c1,c2,c3⟩:=hB.four;have hP:=Za.new (w.alloc (.cells #[.slice a n c,.int .i64 (k:Int),.int .i64 (m:Int),.bool op] 359)) #[.int .i64 0,.bool false] 361;rw[Zv]at hP;have hacc:=Zn w (.cells #[.slice a n c,.int .i64 (k:Int),.int .i64 (m:Int),.bool op] 359) (.cells #[.int .i64 0,.bool false] 361);have hI:=hl.below hacc;have HN:=Zy hn;have h0':((n:Int)==0)=false:=QY;have HR:=Zy (show Ye l k 37 (m:Int) arg op=zL l k by
  unfold Ye zL;rw[if_neg QZ,if_neg QZ,if_neg QZ,if_neg QZ,if_neg QZ,if_neg QZ,if_neg QZ,if_neg hl0,if_neg QZ,if_neg QZ,if_neg QZ,if_neg QZ])
 clear hn hl0;obtain⟨r,hr⟩:∃r,zL l k=r:=⟨_,rfl⟩;have HR2:=Zy hr;clear hr;go_enter Tryz.func290,Tryz.ntmps290
 go_wp2_with ((go_at_call 303);refine(FV a n c l k m op _ hI HN.out hn2 hk).mono ?_;rintro e w2 ⟨rfl,hb2⟩;rw[HR2.out];have hB2:=hB.below hb2 hB.lt;obtain⟨d0,d1,d2,d3⟩:=hB2.four;have hP2:=hP.below hb2 hP.lt;obtain⟨s0,s1,s2,s3⟩:=hP2.two;have Z4:=ZE hacc QY hb2)
 exact QGV
theorem Rf(a:Option Addr)(n c:Nat)(l:List Int)(k m:Nat)(op:Bool)(w:World)(hl:Ints w a l)(hn:l.length=n)(hn2:n<=4096)(hk:k<=n)(hk2:k<n\/n=0)(hm0:1<=m)(hm:m<=999)(arg:Int):
  Calls Tryz.prog 289 #[KX a n c k (m:Int) op,.int .i64 102,.int .i64 arg] w (YF (Ye l k 102 (m:Int) arg op) w):=by
 unfold KX;have hB:=(Za.new w #[.slice a n c,.int .i64 (k:Int),.int .i64 (m:Int),.bool op] 359).alloc (.cells #[.int .i64 0,.bool false] 361);obtain⟨c0,c1,c2,c3⟩:=hB.four;have hP:=Za.new (w.alloc (.cells #[.slice a n c,.int .i64 (k:Int),.int .i64 (m:Int),.bool op] 359)) #[.int .i64 0,.bool false] 361;rw[Zv]at hP;have hacc:=Zn w (.cells #[.slice a n c,.int .i64 (k:Int),.int .i64 (m:Int),.bool op] 359) (.cells #[.int .i64 0,.bool false] 361);have hI:=hl.below hacc;have HN:=Zy hn;have HB:=Zy (show∀x,(JX l k arg)[m-1]? =some x->0<=x/\x<=n from fun x hx=>by
  have hx:=Xo hx;have:=vF _ _ _ _ x hx;omega)
 obtain⟨r,hr⟩:∃r,(JX l k arg)[m-1]? =r:=⟨_,rfl⟩;have HR2:=Zy hr;have HR:=Zy (show Ye l k 102 (m:Int) arg op=(match(JX l k arg)[m-1]? with|some x=>some (x,true)|none=>none) by simp[Ye];cases (JX l k arg)[m-1]?<;>rfl);rw[HR2.out]at HR;have hbx:=HB.out;rw[hr]at hbx;clear hn hr HB;rcases r with _|x
 ·have HR3:=Zy (show Ye l k 102 (m:Int) arg op=none from HR.out)
  exact QGP
 ·have HR3:=Zy (show Ye l k 102 (m:Int) arg op=some (x,true)from HR.out)
  obtain⟨x1,x2⟩:=hbx x rfl;clear hbx;go_enter Tryz.func289,Tryz.ntmps289
  go_wp2_with ((go_at_call 297);refine(U6 a n c l k m op arg _ hI HN.out hn2 hk hm0 QQ).mono ?_;rintro e w2 ⟨rfl,hb2⟩;rw[HR2.out];have hB2:=hB.below hb2 hB.lt;obtain⟨d0,d1,d2,d3⟩:=hB2.four;have hP2:=hP.below hb2 hP.lt;obtain⟨s0,s1,s2,s3⟩:=hP2.two;have Z4:=ZE hacc QY hb2;have z1:oK (some x)=x:=rfl;have z2:oJ (some x)=0:=rfl)
  rw[HR3.out];have hG:=(hP2.set 0 (.int .i64 (x))).set 1 (.bool true);obtain⟨q0,q1,-,-⟩:=Za.two hG;refine ZC (v:=.tuple #[.agg #[.int .i64 (x),.bool true],.int .i64 0]) QP rfl ⟨rfl,?_⟩;exact QCe
theorem Re(a:Option Addr)(n c:Nat)(l:List Int)(k m:Nat)(op:Bool)(w:World)(hl:Ints w a l)(hn:l.length=n)(hn2:n<=4096)(hk:k<=n)(hk2:k<n\/n=0)(hm0:1<=m)(hm:m<=999)(arg:Int):
  Calls Tryz.prog 289 #[KX a n c k (m:Int) op,.int .i64 116,.int .i64 arg] w (YF (Ye l k 116 (m:Int) arg op) w):=by
 unfold KX;have hB:=(Za.new w #[.slice a n c,.int .i64 (k:Int),.int .i64 (m:Int),.bool op] 359).alloc (.cells #[.int .i64 0,.bool false] 361);obtain⟨c0,c1,c2,c3⟩:=hB.four;have hP:=Za.new (w.alloc (.cells #[.slice a n c,.int .i64 (k:Int),.int .i64 (m:Int),.bool op] 359)) #[.int .i64 0,.bool false] 361;rw[Zv]at hP;have hacc:=Zn w (.cells #[.slice a n c,.int .i64 (k:Int),.int .i64 (m:Int),.bool op] 359) (.cells #[.int .i64 0,.bool false] 361);have hI:=hl.below hacc;have HN:=Zy hn;have HB:=Zy (show∀x,(JX l k arg)[m-1]? =some x->0<=x/\x<=n from fun x hx=>by
  have hx:=Xo hx;have:=vF _ _ _ _ x hx;omega)
 obtain⟨r,hr⟩:∃r,(JX l k arg)[m-1]? =r:=⟨_,rfl⟩;have HR2:=Zy hr;have HR:=Zy (show Ye l k 116 (m:Int) arg op=(match(JX l k arg)[m-1]? with|some x=>some (x-1,true)|none=>none) by simp[Ye];cases (JX l k arg)[m-1]?<;>rfl);rw[HR2.out]at HR;have hbx:=HB.out;rw[hr]at hbx;clear hn hr HB;rcases r with _|x
 ·have HR3:=Zy (show Ye l k 116 (m:Int) arg op=none from HR.out)
  exact QGP
 ·have HR3:=Zy (show Ye l k 116 (m:Int) arg op=some (x-1,true)from HR.out)
  obtain⟨x1,x2⟩:=hbx x rfl;clear hbx;go_enter Tryz.func289,Tryz.ntmps289
  go_wp2_with ((go_at_call 297);refine(U6 a n c l k m op arg _ hI HN.out hn2 hk hm0 QQ).mono ?_;rintro e w2 ⟨rfl,hb2⟩;rw[HR2.out];have hB2:=hB.below hb2 hB.lt;obtain⟨d0,d1,d2,d3⟩:=hB2.four;have hP2:=hP.below hb2 hP.lt;obtain⟨s0,s1,s2,s3⟩:=hP2.two;have Z4:=ZE hacc QY hb2;have z1:oK (some x)=x:=rfl;have z2:oJ (some x)=0:=rfl)
  rw[HR3.out];have hG:=(hP2.set 0 (.int .i64 (x-1))).set 1 (.bool true);obtain⟨q0,q1,-,-⟩:=Za.two hG;refine ZC (v:=.tuple #[.agg #[.int .i64 (x-1),.bool true],.int .i64 0]) QP rfl ⟨rfl,?_⟩;exact QCe
theorem dn(a:Option Addr)(n c:Nat)(l:List Int)(k m:Nat)(op:Bool)(w:World)(hl:Ints w a l)(hn:l.length=n)(hn2:n<=4096)(hk:k<=n)(hk2:k<n\/n=0)(hm0:1<=m)(hm:m<=999)(arg:Int):
  Calls Tryz.prog 289 #[KX a n c k (m:Int) op,.int .i64 70,.int .i64 arg] w (YF (Ye l k 70 (m:Int) arg op) w):=by
 unfold KX;have hB:=(Za.new w #[.slice a n c,.int .i64 (k:Int),.int .i64 (m:Int),.bool op] 359).alloc (.cells #[.int .i64 0,.bool false] 361);obtain⟨c0,c1,c2,c3⟩:=hB.four;have hP:=Za.new (w.alloc (.cells #[.slice a n c,.int .i64 (k:Int),.int .i64 (m:Int),.bool op] 359)) #[.int .i64 0,.bool false] 361;rw[Zv]at hP;have hacc:=Zn w (.cells #[.slice a n c,.int .i64 (k:Int),.int .i64 (m:Int),.bool op] 359) (.cells #[.int .i64 0,.bool false] 361);have hI:=hl.below hacc;have HN:=Zy hn;have HB:=Zy (show∀x,(Jz l k arg)[m-1]? =some x->0<=x/\x<=n from fun x hx=>by
  have hx:=Xo hx;have:=Eu _ _ _ x hx;omega)
 obtain⟨r,hr⟩:∃r,(Jz l k arg)[m-1]? =r:=⟨_,rfl⟩;have HR2:=Zy hr;have HR:=Zy (show Ye l k 70 (m:Int) arg op=(match(Jz l k arg)[m-1]? with|some x=>some (x,false)|none=>none) by simp[Ye];cases (Jz l k arg)[m-1]?<;>rfl);rw[HR2.out]at HR;have hbx:=HB.out;rw[hr]at hbx;clear hn hr HB;rcases r with _|x
 ·have HR3:=Zy (show Ye l k 70 (m:Int) arg op=none from HR.out)
  exact QGR
 ·have HR3:=Zy (show Ye l k 70 (m:Int) arg op=some (x,false)from HR.out)
  obtain⟨x1,x2⟩:=hbx x rfl;clear hbx;go_enter Tryz.func289,Tryz.ntmps289
  go_wp2_with ((go_at_call 297);refine(UJ a n c l k m op arg _ hI HN.out hn2 hk hm0 QQ).mono ?_;rintro e w2 ⟨rfl,hb2⟩;rw[HR2.out];have hB2:=hB.below hb2 hB.lt;obtain⟨d0,d1,d2,d3⟩:=hB2.four;have hP2:=hP.below hb2 hP.lt;obtain⟨s0,s1,s2,s3⟩:=hP2.two;have Z4:=ZE hacc QY hb2;have z1:oK (some x)=x:=rfl;have z2:oJ (some x)=0:=rfl)
  rw[HR3.out];have hG:=(hP2.set 0 (.int .i64 (x))).set 1 (.bool false);obtain⟨q0,q1,-,-⟩:=Za.two hG;refine ZC (v:=.tuple #[.agg #[.int .i64 (x),.bool false],.int .i64 0]) QP rfl ⟨rfl,?_⟩;exact QCe
theorem dm(a:Option Addr)(n c:Nat)(l:List Int)(k m:Nat)(op:Bool)(w:World)(hl:Ints w a l)(hn:l.length=n)(hn2:n<=4096)(hk:k<=n)(hk2:k<n\/n=0)(hm0:1<=m)(hm:m<=999)(arg:Int):
  Calls Tryz.prog 289 #[KX a n c k (m:Int) op,.int .i64 84,.int .i64 arg] w (YF (Ye l k 84 (m:Int) arg op) w):=by
 unfold KX;have hB:=(Za.new w #[.slice a n c,.int .i64 (k:Int),.int .i64 (m:Int),.bool op] 359).alloc (.cells #[.int .i64 0,.bool false] 361);obtain⟨c0,c1,c2,c3⟩:=hB.four;have hP:=Za.new (w.alloc (.cells #[.slice a n c,.int .i64 (k:Int),.int .i64 (m:Int),.bool op] 359)) #[.int .i64 0,.bool false] 361;rw[Zv]at hP;have hacc:=Zn w (.cells #[.slice a n c,.int .i64 (k:Int),.int .i64 (m:Int),.bool op] 359) (.cells #[.int .i64 0,.bool false] 361);have hI:=hl.below hacc;have HN:=Zy hn;have HB:=Zy (show∀x,(Jz l k arg)[m-1]? =some x->0<=x/\x<=n from fun x hx=>by
  have hx:=Xo hx;have:=Eu _ _ _ x hx;omega)
 obtain⟨r,hr⟩:∃r,(Jz l k arg)[m-1]? =r:=⟨_,rfl⟩;have HR2:=Zy hr;have HR:=Zy (show Ye l k 84 (m:Int) arg op=(match(Jz l k arg)[m-1]? with|some x=>some (x+1,false)|none=>none) by simp[Ye];cases (Jz l k arg)[m-1]?<;>rfl);rw[HR2.out]at HR;have hbx:=HB.out;rw[hr]at hbx;clear hn hr HB;rcases r with _|x
 ·have HR3:=Zy (show Ye l k 84 (m:Int) arg op=none from HR.out)
  exact QGR
 ·have HR3:=Zy (show Ye l k 84 (m:Int) arg op=some (x+1,false)from HR.out)
  obtain⟨x1,x2⟩:=hbx x rfl;clear hbx;go_enter Tryz.func289,Tryz.ntmps289
  go_wp2_with ((go_at_call 297);refine(UJ a n c l k m op arg _ hI HN.out hn2 hk hm0 QQ).mono ?_;rintro e w2 ⟨rfl,hb2⟩;rw[HR2.out];have hB2:=hB.below hb2 hB.lt;obtain⟨d0,d1,d2,d3⟩:=hB2.four;have hP2:=hP.below hb2 hP.lt;obtain⟨s0,s1,s2,s3⟩:=hP2.two;have Z4:=ZE hacc QY hb2;have z1:oK (some x)=x:=rfl;have z2:oJ (some x)=0:=rfl)
  rw[HR3.out];have hG:=(hP2.set 0 (.int .i64 (x+1))).set 1 (.bool false);obtain⟨q0,q1,-,-⟩:=Za.two hG;refine ZC (v:=.tuple #[.agg #[.int .i64 (x+1),.bool false],.int .i64 0]) QP rfl ⟨rfl,?_⟩;exact QCe
theorem xU(a:Option Addr)(n c:Nat)(l:List Int)(k m:Nat)(op:Bool)(w:World)(hl:Ints w a l)(hn:l.length=n)(hn2:n<=4096)(hk:k<=n)(hk2:k<n\/n=0)(hm0:1<=m)(hm:m<=999)(key arg:Int)(hK:Kq key=true)(hF:zO key=false):
  Calls Tryz.prog 290 #[KX a n c k (m:Int) op,.int .i64 key] w (YF (Ye l k key (m:Int) arg op) w):=by
 have hn':n=0\/1<=n:=QQ;rcases Hw key with rfl|rfl|rfl|rfl|rfl|rfl|rfl|rfl|rfl|rfl|rfl|rfl|rfl|rfl|rfl|rfl|rfl|h
 ·exact lL a n c l k m op w hl hn hn2 hk hk2 hm0 hm arg
 ·exact lH a n c l k m op w hl hn hn2 hk hk2 hm0 hm arg
 ·exact mQ a n c l k m op w hl hn hn2 hk hk2 hm0 hm arg
 ·exact G7 a n c l k m op w hl hn hn2 hk hk2 hm0 hm arg
 ·rcases hn' with h0|h0
  ·exact Ey a n c l k m op w hl hn hn2 hk hk2 hm0 hm arg h0 QQ
  ·exact aR a n c l k m op w hl hn hn2 hk hk2 hm0 hm arg h0 QQ
 ·rcases hn' with h0|h0
  ·exact BH a n c l k m op w hl hn hn2 hk hk2 hm0 hm arg h0 QQ
  ·exact Pe a n c l k m op w hl hn hn2 hk hk2 hm0 hm arg h0 QQ
 ·rcases hn' with h0|h0
  ·exact BI a n c l k m op w hl hn hn2 hk hk2 hm0 hm arg h0 QQ
  ·exact Pf a n c l k m op w hl hn hn2 hk hk2 hm0 hm arg h0 QQ
 ·rcases hn' with h0|h0
  ·exact EW a n c l k m op w hl hn hn2 hk hk2 hm0 hm arg h0 QQ
  ·exact aM a n c l k m op w hl hn hn2 hk hk2 hm0 hm arg h0 QQ
 ·exact lM a n c l k m op w hl hn hn2 hk hk2 hm0 hm arg
 ·exact lh a n c l k m op w hl hn hn2 hk hk2 hm0 hm arg
 ·rcases hn' with h0|h0
  ·exact BL a n c l k m op w hl hn hn2 hk hk2 hm0 hm arg h0 QQ
  ·exact Pg a n c l k m op w hl hn hn2 hk hk2 hm0 hm arg h0 QQ
 ·rcases hn' with h0|h0
  ·exact Ez a n c l k m op w hl hn hn2 hk hk2 hm0 hm arg h0 QQ
  ·exact aN a n c l k m op w hl hn hn2 hk hk2 hm0 hm arg h0 QQ
 ·rcases hn' with h0|h0
  ·exact Ex a n c l k m op w hl hn hn2 hk hk2 hm0 hm arg h0 QQ
  ·exact aO a n c l k m op w hl hn hn2 hk hk2 hm0 hm arg h0 QQ
 all_goals first|(simp[zO]at hF;done)|(rw[hK]at h;cases h)
theorem xV(a:Option Addr)(n c:Nat)(l:List Int)(k m:Nat)(op:Bool)(w:World)(hl:Ints w a l)(hn:l.length=n)(hn2:n<=4096)(hk:k<=n)(hk2:k<n\/n=0)(hm0:1<=m)(hm:m<=999)(key arg:Int)(hF:zO key=true):
  Calls Tryz.prog 289 #[KX a n c k (m:Int) op,.int .i64 key,.int .i64 arg] w (YF (Ye l k key (m:Int) arg op) w):=by
 rcases(show key=102\/key=70\/key=116\/key=84 by simp[zO]at hF;omega)with rfl|rfl|rfl|rfl
 ·exact Rf a n c l k m op w hl hn hn2 hk hk2 hm0 hm arg
 ·exact dn a n c l k m op w hl hn hn2 hk hk2 hm0 hm arg
 ·exact Re a n c l k m op w hl hn hn2 hk hk2 hm0 hm arg
 ·exact dm a n c l k m op w hl hn hn2 hk hk2 hm0 hm arg
end Go.Proofs.YtmdcencmiopmmaaGreat

/- joined, no condition of its own. -/
import Derived.Test.YtmdnepkekekncaaGreatJfJ6
set_option linter.unusedVariables false
set_option linter.unusedSimpArgs false
set_option maxRecDepth 100000
set_option maxHeartbeats 12000000
namespace Go.Proofs.YtmdnepkekekncaaGreat
open Go.RowKit
theorem sJ(a:Option Addr)(n c:Nat)(l:List Int)(k m:Nat)(op:Bool)(w:World)(hl:Ints w a l)(hn:l.length=n)(hn2:n<=4096)(hk:k<=n)(hk2:k<n\/n=0)(hm0:1<=m)(hm:m<=999)(arg:Int):
  Calls Tryz.prog 176 #[KJ a n c k (m:Int) op,.int .i64 104] w (YL (Ym l k 104 (m:Int) arg op) w):=by
 unfold KJ;have hB:=(Za.new w #[.slice a n c,.int .i64 (k:Int),.int .i64 (m:Int),.bool op] 260).alloc (.cells #[.int .i64 0,.bool false] 262);obtain⟨c0,c1,c2,c3⟩:=hB.four;have hP:=Za.new (w.alloc (.cells #[.slice a n c,.int .i64 (k:Int),.int .i64 (m:Int),.bool op] 260)) #[.int .i64 0,.bool false] 262;rw[Zu]at hP;have hacc:=Zo w (.cells #[.slice a n c,.int .i64 (k:Int),.int .i64 (m:Int),.bool op] 260) (.cells #[.int .i64 0,.bool false] 262);have hI:=hl.below hacc;have HN:=Zy hn;clear hn;by_cases h0:k=0
 ·subst h0
  have HR:=Zy (show Ym l 0 104 (m:Int) arg op=none by simp[Ym]);exact QF3
 ·have h0':((k:Int)==0)=false:=by simp;omega
  rcases(show m<k\/k<=m from QQ)with h1|h1
  ·have h2:0<(k:Int)-(m:Int):=by omega
   have HM:=Zy (show max 0 ((k:Int)-m)=(k:Int)-m from QQ);have HR:=Zy (show Ym l k 104 (m:Int) arg op=some (max 0 ((k:Int)-m),false) by simp[Ym,h0]);clear h0;go_enter Tryz.func176,Tryz.ntmps176
   go_wp2;rw[HR.out,HM.out];have hG:=(hP.set 0 (.int .i64 ((k:Int)-m))).set 1 (.bool false);obtain⟨q0,q1,-,-⟩:=Za.two hG;refine ZC (v:=.tuple #[.agg #[.int .i64 ((k:Int)-m),.bool false],.int .i64 0]) QK rfl ⟨rfl,?_⟩;exact QGY
  ·have h2:(k:Int)-(m:Int)<=0:=by omega
   have HM:=Zy (show max 0 ((k:Int)-m)=0 from QQ);have HR:=Zy (show Ym l k 104 (m:Int) arg op=some (max 0 ((k:Int)-m),false) by simp[Ym,h0]);clear h0;go_enter Tryz.func176,Tryz.ntmps176
   go_wp2;rw[HR.out,HM.out];exact QL6
theorem sQ(a:Option Addr)(n c:Nat)(l:List Int)(k m:Nat)(op:Bool)(w:World)(hl:Ints w a l)(hn:l.length=n)(hn2:n<=4096)(hk:k<=n)(hk2:k<n\/n=0)(hm0:1<=m)(hm:m<=999)(arg:Int):
  Calls Tryz.prog 176 #[KJ a n c k (m:Int) op,.int .i64 108] w (YL (Ym l k 108 (m:Int) arg op) w):=by
 unfold KJ;have hB:=(Za.new w #[.slice a n c,.int .i64 (k:Int),.int .i64 (m:Int),.bool op] 260).alloc (.cells #[.int .i64 0,.bool false] 262);obtain⟨c0,c1,c2,c3⟩:=hB.four;have hP:=Za.new (w.alloc (.cells #[.slice a n c,.int .i64 (k:Int),.int .i64 (m:Int),.bool op] 260)) #[.int .i64 0,.bool false] 262;rw[Zu]at hP;have hacc:=Zo w (.cells #[.slice a n c,.int .i64 (k:Int),.int .i64 (m:Int),.bool op] 260) (.cells #[.int .i64 0,.bool false] 262);have hI:=hl.below hacc;have HN:=Zy hn;have HR:=Zy (show Ym l k 108 (m:Int) arg op=Un n k m op by unfold Ym Un;rw[if_neg QZ,if_pos rfl,hn]);clear hn;obtain⟨r,hr⟩:∃r,Un n k (m:Int) op=r:=⟨_,rfl⟩;have HR2:=Zy hr;clear hr;go_enter Tryz.func176,Tryz.ntmps176
 go_wp2_with ((go_at_call 183);refine(OL a n c k m op _ hn2 hk QQ QQ).mono ?_;rintro e w2 ⟨rfl,hb2⟩;rw[HR2.out];have hB2:=hB.below hb2 hB.lt;obtain⟨d0,d1,d2,d3⟩:=hB2.four;have hP2:=hP.below hb2 hP.lt;obtain⟨s0,s1,s2,s3⟩:=hP2.two;have Z0:=ZE hacc QY hb2)
 exact QLe
theorem sF(a:Option Addr)(n c:Nat)(l:List Int)(k m:Nat)(op:Bool)(w:World)(hl:Ints w a l)(hn:l.length=n)(hn2:n<=4096)(hk:k<=n)(hk2:k<n\/n=0)(hm0:1<=m)(hm:m<=999)(arg:Int):
  Calls Tryz.prog 176 #[KJ a n c k (m:Int) op,.int .i64 48] w (YL (Ym l k 48 (m:Int) arg op) w):=by
 unfold KJ;have hB:=(Za.new w #[.slice a n c,.int .i64 (k:Int),.int .i64 (m:Int),.bool op] 260).alloc (.cells #[.int .i64 0,.bool false] 262);obtain⟨c0,c1,c2,c3⟩:=hB.four;have hP:=Za.new (w.alloc (.cells #[.slice a n c,.int .i64 (k:Int),.int .i64 (m:Int),.bool op] 260)) #[.int .i64 0,.bool false] 262;rw[Zu]at hP;have hacc:=Zo w (.cells #[.slice a n c,.int .i64 (k:Int),.int .i64 (m:Int),.bool op] 260) (.cells #[.int .i64 0,.bool false] 262);have hI:=hl.below hacc;have HN:=Zy hn;clear hn;have HR:=Zy (show Ym l k 48 (m:Int) arg op=some (0,false) by simp[Ym]);go_enter Tryz.func176,Tryz.ntmps176
 go_wp2;rw[HR.out];exact QL6
theorem LQ(a:Option Addr)(n c:Nat)(l:List Int)(k m:Nat)(op:Bool)(w:World)(hl:Ints w a l)(hn:l.length=n)(hn2:n<=4096)(hk:k<=n)(hk2:k<n\/n=0)(hm0:1<=m)(hm:m<=999)(arg:Int):
  Calls Tryz.prog 176 #[KJ a n c k (m:Int) op,.int .i64 94] w (YL (Ym l k 94 (m:Int) arg op) w):=by
 unfold KJ;have hB:=(Za.new w #[.slice a n c,.int .i64 (k:Int),.int .i64 (m:Int),.bool op] 260).alloc (.cells #[.int .i64 0,.bool false] 262);obtain⟨c0,c1,c2,c3⟩:=hB.four;have hP:=Za.new (w.alloc (.cells #[.slice a n c,.int .i64 (k:Int),.int .i64 (m:Int),.bool op] 260)) #[.int .i64 0,.bool false] 262;rw[Zu]at hP;have hacc:=Zo w (.cells #[.slice a n c,.int .i64 (k:Int),.int .i64 (m:Int),.bool op] 260) (.cells #[.int .i64 0,.bool false] 262);have hI:=hl.below hacc;have HN:=Zy hn;have HN:=Zy hn;clear hn;obtain⟨t,ht⟩:∃t,Ku l=t:=⟨_,rfl⟩;have HT:=Zy ht;clear ht;have HR:=Zy (show Ym l k 94 (m:Int) arg op=some (Ku l,false) by simp[Ym]);go_enter Tryz.func176,Tryz.ntmps176
 go_wp2_with ((go_at_call 184);refine(OM a n c l k m op _ hI HN.out hn2).mono ?_;rintro e w2 ⟨rfl,hb2⟩;rw[HT.out];have hB2:=hB.below hb2 hB.lt;obtain⟨d0,d1,d2,d3⟩:=hB2.four;have hP2:=hP.below hb2 hP.lt;obtain⟨s0,s1,s2,s3⟩:=hP2.two;have Z0:=ZE hacc QY hb2)
 exact QLr
theorem sK(a:Option Addr)(n c:Nat)(l:List Int)(k m:Nat)(op:Bool)(w:World)(hl:Ints w a l)(hn:l.length=n)(hn2:n<=4096)(hk:k<=n)(hk2:k<n\/n=0)(hm0:1<=m)(hm:m<=999)(arg:Int):
  Calls Tryz.prog 176 #[KJ a n c k (m:Int) op,.int .i64 98] w (YL (Ym l k 98 (m:Int) arg op) w):=by
 unfold KJ;have hB:=(Za.new w #[.slice a n c,.int .i64 (k:Int),.int .i64 (m:Int),.bool op] 260).alloc (.cells #[.int .i64 0,.bool false] 262);obtain⟨c0,c1,c2,c3⟩:=hB.four;have hP:=Za.new (w.alloc (.cells #[.slice a n c,.int .i64 (k:Int),.int .i64 (m:Int),.bool op] 260)) #[.int .i64 0,.bool false] 262;rw[Zu]at hP;have hacc:=Zo w (.cells #[.slice a n c,.int .i64 (k:Int),.int .i64 (m:Int),.bool op] 260) (.cells #[.int .i64 0,.bool false] 262);have hI:=hl.below hacc;have HN:=Zy hn;clear hn;by_cases h0:k=0
 ·subst h0
  have HR:=Zy (show Ym l 0 98 (m:Int) arg op=none by simp[Ym]);exact QF3
 ·have h0':((k:Int)==0)=false:=by simp;omega
  obtain⟨t,ht⟩:∃t,Yb (Kl l false) m k=t:=⟨_,rfl⟩;have HT:=Zy ht;clear ht;have HR:=Zy (show Ym l k 98 (m:Int) arg op=some (Yb (Kl l false) m k,false) by simp[Ym,h0]);clear h0;go_enter Tryz.func176,Tryz.ntmps176
  go_wp2_with ((go_at_call 185);refine(qG a n c l k m op false _ hI HN.out hn2 hk QQ).mono ?_;rintro e w2 ⟨rfl,hb2⟩;rw[HT.out];have hB2:=hB.below hb2 hB.lt;obtain⟨d0,d1,d2,d3⟩:=hB2.four;have hP2:=hP.below hb2 hP.lt;obtain⟨s0,s1,s2,s3⟩:=hP2.two;have Z0:=ZE hacc QY hb2)
  exact QLr
theorem su(a:Option Addr)(n c:Nat)(l:List Int)(k m:Nat)(op:Bool)(w:World)(hl:Ints w a l)(hn:l.length=n)(hn2:n<=4096)(hk:k<=n)(hk2:k<n\/n=0)(hm0:1<=m)(hm:m<=999)(arg:Int):
  Calls Tryz.prog 176 #[KJ a n c k (m:Int) op,.int .i64 66] w (YL (Ym l k 66 (m:Int) arg op) w):=by
 unfold KJ;have hB:=(Za.new w #[.slice a n c,.int .i64 (k:Int),.int .i64 (m:Int),.bool op] 260).alloc (.cells #[.int .i64 0,.bool false] 262);obtain⟨c0,c1,c2,c3⟩:=hB.four;have hP:=Za.new (w.alloc (.cells #[.slice a n c,.int .i64 (k:Int),.int .i64 (m:Int),.bool op] 260)) #[.int .i64 0,.bool false] 262;rw[Zu]at hP;have hacc:=Zo w (.cells #[.slice a n c,.int .i64 (k:Int),.int .i64 (m:Int),.bool op] 260) (.cells #[.int .i64 0,.bool false] 262);have hI:=hl.below hacc;have HN:=Zy hn;clear hn;by_cases h0:k=0
 ·subst h0
  have HR:=Zy (show Ym l 0 66 (m:Int) arg op=none by simp[Ym]);exact QF3
 ·have h0':((k:Int)==0)=false:=by simp;omega
  obtain⟨t,ht⟩:∃t,Yb (Kl l true) m k=t:=⟨_,rfl⟩;have HT:=Zy ht;clear ht;have HR:=Zy (show Ym l k 66 (m:Int) arg op=some (Yb (Kl l true) m k,false) by simp[Ym,h0]);clear h0;go_enter Tryz.func176,Tryz.ntmps176
  go_wp2_with ((go_at_call 185);refine(qG a n c l k m op true _ hI HN.out hn2 hk QQ).mono ?_;rintro e w2 ⟨rfl,hb2⟩;rw[HT.out];have hB2:=hB.below hb2 hB.lt;obtain⟨d0,d1,d2,d3⟩:=hB2.four;have hP2:=hP.below hb2 hP.lt;obtain⟨s0,s1,s2,s3⟩:=hP2.two;have Z0:=ZE hacc QY hb2)
  exact QLr
theorem FH(a:Option Addr)(n c:Nat)(l:List Int)(k m:Nat)(op:Bool)(w:World)(hl:Ints w a l)(hn:l.length=n)(hn2:n<=4096)(hk:k<=n)(hk2:k<n\/n=0)(hm0:1<=m)(hm:m<=999)(arg:Int)(h0:n=0)(hl0:l.length=0):
  Calls Tryz.prog 176 #[KJ a n c k (m:Int) op,.int .i64 36] w (YL (Ym l k 36 (m:Int) arg op) w):=by
 subst h0;unfold KJ;have hB:=(Za.new w #[.slice a 0 c,.int .i64 (k:Int),.int .i64 (m:Int),.bool op] 260).alloc (.cells #[.int .i64 0,.bool false] 262);obtain⟨c0,c1,c2,c3⟩:=hB.four;have hP:=Za.new (w.alloc (.cells #[.slice a 0 c,.int .i64 (k:Int),.int .i64 (m:Int),.bool op] 260)) #[.int .i64 0,.bool false] 262;rw[Zu]at hP;have hacc:=Zo w (.cells #[.slice a 0 c,.int .i64 (k:Int),.int .i64 (m:Int),.bool op] 260) (.cells #[.int .i64 0,.bool false] 262);have hI:=hl.below hacc;have HN:=Zy hn;clear hn HN;have HR:=Zy (show Ym l k 36 (m:Int) arg op=none from QD7);clear hl0;exact QF3
theorem Ch(a:Option Addr)(n c:Nat)(l:List Int)(k m:Nat)(op:Bool)(w:World)(hl:Ints w a l)(hn:l.length=n)(hn2:n<=4096)(hk:k<=n)(hk2:k<n\/n=0)(hm0:1<=m)(hm:m<=999)(arg:Int)(h0:n=0)(hl0:l.length=0):
  Calls Tryz.prog 176 #[KJ a n c k (m:Int) op,.int .i64 124] w (YL (Ym l k 124 (m:Int) arg op) w):=by
 subst h0;unfold KJ;have hB:=(Za.new w #[.slice a 0 c,.int .i64 (k:Int),.int .i64 (m:Int),.bool op] 260).alloc (.cells #[.int .i64 0,.bool false] 262);obtain⟨c0,c1,c2,c3⟩:=hB.four;have hP:=Za.new (w.alloc (.cells #[.slice a 0 c,.int .i64 (k:Int),.int .i64 (m:Int),.bool op] 260)) #[.int .i64 0,.bool false] 262;rw[Zu]at hP;have hacc:=Zo w (.cells #[.slice a 0 c,.int .i64 (k:Int),.int .i64 (m:Int),.bool op] 260) (.cells #[.int .i64 0,.bool false] 262);have hI:=hl.below hacc;have HN:=Zy hn;clear hn HN;have HR:=Zy (show Ym l k 124 (m:Int) arg op=none from QD7);clear hl0;exact QF3
theorem Ci(a:Option Addr)(n c:Nat)(l:List Int)(k m:Nat)(op:Bool)(w:World)(hl:Ints w a l)(hn:l.length=n)(hn2:n<=4096)(hk:k<=n)(hk2:k<n\/n=0)(hm0:1<=m)(hm:m<=999)(arg:Int)(h0:n=0)(hl0:l.length=0):
  Calls Tryz.prog 176 #[KJ a n c k (m:Int) op,.int .i64 119] w (YL (Ym l k 119 (m:Int) arg op) w):=by
 subst h0;unfold KJ;have hB:=(Za.new w #[.slice a 0 c,.int .i64 (k:Int),.int .i64 (m:Int),.bool op] 260).alloc (.cells #[.int .i64 0,.bool false] 262);obtain⟨c0,c1,c2,c3⟩:=hB.four;have hP:=Za.new (w.alloc (.cells #[.slice a 0 c,.int .i64 (k:Int),.int .i64 (m:Int),.bool op] 260)) #[.int .i64 0,.bool false] 262;rw[Zu]at hP;have hacc:=Zo w (.cells #[.slice a 0 c,.int .i64 (k:Int),.int .i64 (m:Int),.bool op] 260) (.cells #[.int .i64 0,.bool false] 262);have hI:=hl.below hacc;have HN:=Zy hn;clear hn HN;have HR:=Zy (show Ym l k 119 (m:Int) arg op=none from QD7);clear hl0;exact QF3
theorem FD(a:Option Addr)(n c:Nat)(l:List Int)(k m:Nat)(op:Bool)(w:World)(hl:Ints w a l)(hn:l.length=n)(hn2:n<=4096)(hk:k<=n)(hk2:k<n\/n=0)(hm0:1<=m)(hm:m<=999)(arg:Int)(h0:n=0)(hl0:l.length=0):
  Calls Tryz.prog 176 #[KJ a n c k (m:Int) op,.int .i64 87] w (YL (Ym l k 87 (m:Int) arg op) w):=by
 subst h0;unfold KJ;have hB:=(Za.new w #[.slice a 0 c,.int .i64 (k:Int),.int .i64 (m:Int),.bool op] 260).alloc (.cells #[.int .i64 0,.bool false] 262);obtain⟨c0,c1,c2,c3⟩:=hB.four;have hP:=Za.new (w.alloc (.cells #[.slice a 0 c,.int .i64 (k:Int),.int .i64 (m:Int),.bool op] 260)) #[.int .i64 0,.bool false] 262;rw[Zu]at hP;have hacc:=Zo w (.cells #[.slice a 0 c,.int .i64 (k:Int),.int .i64 (m:Int),.bool op] 260) (.cells #[.int .i64 0,.bool false] 262);have hI:=hl.below hacc;have HN:=Zy hn;clear hn HN;have HR:=Zy (show Ym l k 87 (m:Int) arg op=none from QD7);clear hl0;exact QF3
theorem Cm(a:Option Addr)(n c:Nat)(l:List Int)(k m:Nat)(op:Bool)(w:World)(hl:Ints w a l)(hn:l.length=n)(hn2:n<=4096)(hk:k<=n)(hk2:k<n\/n=0)(hm0:1<=m)(hm:m<=999)(arg:Int)(h0:n=0)(hl0:l.length=0):
  Calls Tryz.prog 176 #[KJ a n c k (m:Int) op,.int .i64 101] w (YL (Ym l k 101 (m:Int) arg op) w):=by
 subst h0;unfold KJ;have hB:=(Za.new w #[.slice a 0 c,.int .i64 (k:Int),.int .i64 (m:Int),.bool op] 260).alloc (.cells #[.int .i64 0,.bool false] 262);obtain⟨c0,c1,c2,c3⟩:=hB.four;have hP:=Za.new (w.alloc (.cells #[.slice a 0 c,.int .i64 (k:Int),.int .i64 (m:Int),.bool op] 260)) #[.int .i64 0,.bool false] 262;rw[Zu]at hP;have hacc:=Zo w (.cells #[.slice a 0 c,.int .i64 (k:Int),.int .i64 (m:Int),.bool op] 260) (.cells #[.int .i64 0,.bool false] 262);have hI:=hl.below hacc;have HN:=Zy hn;clear hn HN;have HR:=Zy (show Ym l k 101 (m:Int) arg op=none from QD7);clear hl0;exact QF3
theorem FE(a:Option Addr)(n c:Nat)(l:List Int)(k m:Nat)(op:Bool)(w:World)(hl:Ints w a l)(hn:l.length=n)(hn2:n<=4096)(hk:k<=n)(hk2:k<n\/n=0)(hm0:1<=m)(hm:m<=999)(arg:Int)(h0:n=0)(hl0:l.length=0):
  Calls Tryz.prog 176 #[KJ a n c k (m:Int) op,.int .i64 69] w (YL (Ym l k 69 (m:Int) arg op) w):=by
 subst h0;unfold KJ;have hB:=(Za.new w #[.slice a 0 c,.int .i64 (k:Int),.int .i64 (m:Int),.bool op] 260).alloc (.cells #[.int .i64 0,.bool false] 262);obtain⟨c0,c1,c2,c3⟩:=hB.four;have hP:=Za.new (w.alloc (.cells #[.slice a 0 c,.int .i64 (k:Int),.int .i64 (m:Int),.bool op] 260)) #[.int .i64 0,.bool false] 262;rw[Zu]at hP;have hacc:=Zo w (.cells #[.slice a 0 c,.int .i64 (k:Int),.int .i64 (m:Int),.bool op] 260) (.cells #[.int .i64 0,.bool false] 262);have hI:=hl.below hacc;have HN:=Zy hn;clear hn HN;have HR:=Zy (show Ym l k 69 (m:Int) arg op=none from QD7);clear hl0;exact QF3
theorem FF(a:Option Addr)(n c:Nat)(l:List Int)(k m:Nat)(op:Bool)(w:World)(hl:Ints w a l)(hn:l.length=n)(hn2:n<=4096)(hk:k<=n)(hk2:k<n\/n=0)(hm0:1<=m)(hm:m<=999)(arg:Int)(h0:n=0)(hl0:l.length=0):
  Calls Tryz.prog 176 #[KJ a n c k (m:Int) op,.int .i64 37] w (YL (Ym l k 37 (m:Int) arg op) w):=by
 subst h0;unfold KJ;have hB:=(Za.new w #[.slice a 0 c,.int .i64 (k:Int),.int .i64 (m:Int),.bool op] 260).alloc (.cells #[.int .i64 0,.bool false] 262);obtain⟨c0,c1,c2,c3⟩:=hB.four;have hP:=Za.new (w.alloc (.cells #[.slice a 0 c,.int .i64 (k:Int),.int .i64 (m:Int),.bool op] 260)) #[.int .i64 0,.bool false] 262;rw[Zu]at hP;have hacc:=Zo w (.cells #[.slice a 0 c,.int .i64 (k:Int),.int .i64 (m:Int),.bool op] 260) (.cells #[.int .i64 0,.bool false] 262);have hI:=hl.below hacc;have HN:=Zy hn;clear hn HN;have HR:=Zy (show Ym l k 37 (m:Int) arg op=none from QD7);clear hl0;exact QF3
theorem fe(a:Option Addr)(n c:Nat)(l:List Int)(k m:Nat)(op:Bool)(w:World)(hl:Ints w a l)(hn:l.length=n)(hn2:n<=4096)(hk:k<=n)(hk2:k<n\/n=0)(hm0:1<=m)(hm:m<=999)(arg:Int)(h0:1<=n)(hl0:l.length≠0):
  Calls Tryz.prog 176 #[KJ a n c k (m:Int) op,.int .i64 36] w (YL (Ym l k 36 (m:Int) arg op) w):=by
 unfold KJ;have hB:=(Za.new w #[.slice a n c,.int .i64 (k:Int),.int .i64 (m:Int),.bool op] 260).alloc (.cells #[.int .i64 0,.bool false] 262);obtain⟨c0,c1,c2,c3⟩:=hB.four;have hP:=Za.new (w.alloc (.cells #[.slice a n c,.int .i64 (k:Int),.int .i64 (m:Int),.bool op] 260)) #[.int .i64 0,.bool false] 262;rw[Zu]at hP;have hacc:=Zo w (.cells #[.slice a n c,.int .i64 (k:Int),.int .i64 (m:Int),.bool op] 260) (.cells #[.int .i64 0,.bool false] 262);have hI:=hl.below hacc;have HN:=Zy hn;have h0':((n:Int)==0)=false:=QY;have hln:((l.length:Nat):Int)=(n:Int):=QQ;have HR:=Zy (show Ym l k 36 (m:Int) arg op=some ((n:Int)-1,true) by simp[Ym,hl0,hln]);clear hn hln hl0;go_enter Tryz.func176,Tryz.ntmps176
 go_wp2;rw[HR.out];have hG:=(hP.set 0 (.int .i64 ((n:Int)-1))).set 1 (.bool true);obtain⟨q0,q1,-,-⟩:=Za.two hG;refine ZC (v:=.tuple #[.agg #[.int .i64 ((n:Int)-1),.bool true],.int .i64 0]) QK rfl ⟨rfl,?_⟩;exact QGY
theorem TV(a:Option Addr)(n c:Nat)(l:List Int)(k m:Nat)(op:Bool)(w:World)(hl:Ints w a l)(hn:l.length=n)(hn2:n<=4096)(hk:k<=n)(hk2:k<n\/n=0)(hm0:1<=m)(hm:m<=999)(arg:Int)(h0:1<=n)(hl0:l.length≠0):
  Calls Tryz.prog 176 #[KJ a n c k (m:Int) op,.int .i64 124] w (YL (Ym l k 124 (m:Int) arg op) w):=by
 unfold KJ;have hB:=(Za.new w #[.slice a n c,.int .i64 (k:Int),.int .i64 (m:Int),.bool op] 260).alloc (.cells #[.int .i64 0,.bool false] 262);obtain⟨c0,c1,c2,c3⟩:=hB.four;have hP:=Za.new (w.alloc (.cells #[.slice a n c,.int .i64 (k:Int),.int .i64 (m:Int),.bool op] 260)) #[.int .i64 0,.bool false] 262;rw[Zu]at hP;have hacc:=Zo w (.cells #[.slice a n c,.int .i64 (k:Int),.int .i64 (m:Int),.bool op] 260) (.cells #[.int .i64 0,.bool false] 262);have hI:=hl.below hacc;have HN:=Zy hn;have h0':((n:Int)==0)=false:=QY;have hln:((l.length:Nat):Int)=(n:Int):=QQ;rcases(show m<=n\/n<m from QQ)with h1|h1
 ·have HM:=Zy (show min (m:Int) (n:Int)-1=(m:Int)-1 from QQ)
  have HR:=Zy (show Ym l k 124 (m:Int) arg op=some (min (m:Int) (n:Int)-1,false) by simp[Ym,hl0,hln]);clear hn hln hl0;go_enter Tryz.func176,Tryz.ntmps176
  go_wp2;rw[HR.out,HM.out];have hG:=(hP.set 0 (.int .i64 ((m:Int)-1))).set 1 (.bool false);obtain⟨q0,q1,-,-⟩:=Za.two hG;refine ZC (v:=.tuple #[.agg #[.int .i64 ((m:Int)-1),.bool false],.int .i64 0]) QK rfl ⟨rfl,?_⟩;exact QGY
 ·have HM:=Zy (show min (m:Int) (n:Int)-1=(n:Int)-1 from QQ)
  have HR:=Zy (show Ym l k 124 (m:Int) arg op=some (min (m:Int) (n:Int)-1,false) by simp[Ym,hl0,hln]);clear hn hln hl0;go_enter Tryz.func176,Tryz.ntmps176
  go_wp2;rw[HR.out,HM.out];have hG:=(hP.set 0 (.int .i64 ((n:Int)-1))).set 1 (.bool false);obtain⟨q0,q1,-,-⟩:=Za.two hG;refine ZC (v:=.tuple #[.agg #[.int .i64 ((n:Int)-1),.bool false],.int .i64 0]) QK rfl ⟨rfl,?_⟩;exact QGY
theorem TW(a:Option Addr)(n c:Nat)(l:List Int)(k m:Nat)(op:Bool)(w:World)(hl:Ints w a l)(hn:l.length=n)(hn2:n<=4096)(hk:k<=n)(hk2:k<n\/n=0)(hm0:1<=m)(hm:m<=999)(arg:Int)(h0:1<=n)(hl0:l.length≠0):
  Calls Tryz.prog 176 #[KJ a n c k (m:Int) op,.int .i64 119] w (YL (Ym l k 119 (m:Int) arg op) w):=by
 unfold KJ;have hB:=(Za.new w #[.slice a n c,.int .i64 (k:Int),.int .i64 (m:Int),.bool op] 260).alloc (.cells #[.int .i64 0,.bool false] 262);obtain⟨c0,c1,c2,c3⟩:=hB.four;have hP:=Za.new (w.alloc (.cells #[.slice a n c,.int .i64 (k:Int),.int .i64 (m:Int),.bool op] 260)) #[.int .i64 0,.bool false] 262;rw[Zu]at hP;have hacc:=Zo w (.cells #[.slice a n c,.int .i64 (k:Int),.int .i64 (m:Int),.bool op] 260) (.cells #[.int .i64 0,.bool false] 262);have hI:=hl.below hacc;have HN:=Zy hn;have h0':((n:Int)==0)=false:=QY;have HR:=Zy (show Ym l k 119 (m:Int) arg op=Uj l k m op false by
  unfold Ym Uj;simp only[XK];rw[if_neg QZ,if_neg QZ,if_neg QZ,if_neg QZ,if_neg QZ,if_neg QZ,if_neg QZ,if_neg hl0,if_neg QZ,if_neg QZ];first|(rw[if_pos QZ];rfl)|(rw[if_neg QZ,if_pos QZ];rfl))
 clear hn hl0;obtain⟨r,hr⟩:∃r,Uj l k m op false=r:=⟨_,rfl⟩;have HR2:=Zy hr;clear hr;go_enter Tryz.func176,Tryz.ntmps176
 go_wp2_with ((go_at_call 186);refine(Bd a n c l k m op false _ hI HN.out hn2 hk h0 QQ).mono ?_;rintro e w2 ⟨rfl,hb2⟩;rw[HR2.out];have hB2:=hB.below hb2 hB.lt;obtain⟨d0,d1,d2,d3⟩:=hB2.four;have hP2:=hP.below hb2 hP.lt;obtain⟨s0,s1,s2,s3⟩:=hP2.two;have Z0:=ZE hacc QY hb2)
 exact QLe
theorem fO(a:Option Addr)(n c:Nat)(l:List Int)(k m:Nat)(op:Bool)(w:World)(hl:Ints w a l)(hn:l.length=n)(hn2:n<=4096)(hk:k<=n)(hk2:k<n\/n=0)(hm0:1<=m)(hm:m<=999)(arg:Int)(h0:1<=n)(hl0:l.length≠0):
  Calls Tryz.prog 176 #[KJ a n c k (m:Int) op,.int .i64 87] w (YL (Ym l k 87 (m:Int) arg op) w):=by
 unfold KJ;have hB:=(Za.new w #[.slice a n c,.int .i64 (k:Int),.int .i64 (m:Int),.bool op] 260).alloc (.cells #[.int .i64 0,.bool false] 262);obtain⟨c0,c1,c2,c3⟩:=hB.four;have hP:=Za.new (w.alloc (.cells #[.slice a n c,.int .i64 (k:Int),.int .i64 (m:Int),.bool op] 260)) #[.int .i64 0,.bool false] 262;rw[Zu]at hP;have hacc:=Zo w (.cells #[.slice a n c,.int .i64 (k:Int),.int .i64 (m:Int),.bool op] 260) (.cells #[.int .i64 0,.bool false] 262);have hI:=hl.below hacc;have HN:=Zy hn;have h0':((n:Int)==0)=false:=QY;have HR:=Zy (show Ym l k 87 (m:Int) arg op=Uj l k m op true by
  unfold Ym Uj;simp only[XK];rw[if_neg QZ,if_neg QZ,if_neg QZ,if_neg QZ,if_neg QZ,if_neg QZ,if_neg QZ,if_neg hl0,if_neg QZ,if_neg QZ];first|(rw[if_pos QZ];rfl)|(rw[if_neg QZ,if_pos QZ];rfl))
 clear hn hl0;obtain⟨r,hr⟩:∃r,Uj l k m op true=r:=⟨_,rfl⟩;have HR2:=Zy hr;clear hr;go_enter Tryz.func176,Tryz.ntmps176
 go_wp2_with ((go_at_call 186);refine(Bd a n c l k m op true _ hI HN.out hn2 hk h0 QQ).mono ?_;rintro e w2 ⟨rfl,hb2⟩;rw[HR2.out];have hB2:=hB.below hb2 hB.lt;obtain⟨d0,d1,d2,d3⟩:=hB2.four;have hP2:=hP.below hb2 hP.lt;obtain⟨s0,s1,s2,s3⟩:=hP2.two;have Z0:=ZE hacc QY hb2)
 exact QLe
theorem Tq(a:Option Addr)(n c:Nat)(l:List Int)(k m:Nat)(op:Bool)(w:World)(hl:Ints w a l)(hn:l.length=n)(hn2:n<=4096)(hk:k<=n)(hk2:k<n\/n=0)(hm0:1<=m)(hm:m<=999)(arg:Int)(h0:1<=n)(hl0:l.length≠0):
  Calls Tryz.prog 176 #[KJ a n c k (m:Int) op,.int .i64 101] w (YL (Ym l k 101 (m:Int) arg op) w):=by
 unfold KJ;have hB:=(Za.new w #[.slice a n c,.int .i64 (k:Int),.int .i64 (m:Int),.bool op] 260).alloc (.cells #[.int .i64 0,.bool false] 262);obtain⟨c0,c1,c2,c3⟩:=hB.four;have hP:=Za.new (w.alloc (.cells #[.slice a n c,.int .i64 (k:Int),.int .i64 (m:Int),.bool op] 260)) #[.int .i64 0,.bool false] 262;rw[Zu]at hP;have hacc:=Zo w (.cells #[.slice a n c,.int .i64 (k:Int),.int .i64 (m:Int),.bool op] 260) (.cells #[.int .i64 0,.bool false] 262);have hI:=hl.below hacc;have HN:=Zy hn;have h0':((n:Int)==0)=false:=QY;have HR:=Zy (show Ym l k 101 (m:Int) arg op=WO l k m op false by
  unfold Ym WO;simp only[XK];rw[if_neg QZ,if_neg QZ,if_neg QZ,if_neg QZ,if_neg QZ,if_neg QZ,if_neg QZ,if_neg hl0,if_neg QZ,if_neg QZ];first|(rw[if_pos QZ];rfl)|(rw[if_neg QZ,if_pos QZ];rfl))
 clear hn hl0;obtain⟨r,hr⟩:∃r,WO l k m op false=r:=⟨_,rfl⟩;have HR2:=Zy hr;clear hr;go_enter Tryz.func176,Tryz.ntmps176
 go_wp2_with ((go_at_call 187);refine(EA a n c l k m op false _ hI HN.out hn2 hk h0 QQ).mono ?_;rintro e w2 ⟨rfl,hb2⟩;rw[HR2.out];have hB2:=hB.below hb2 hB.lt;obtain⟨d0,d1,d2,d3⟩:=hB2.four;have hP2:=hP.below hb2 hP.lt;obtain⟨s0,s1,s2,s3⟩:=hP2.two;have Z0:=ZE hacc QY hb2)
 exact QLe
theorem fP(a:Option Addr)(n c:Nat)(l:List Int)(k m:Nat)(op:Bool)(w:World)(hl:Ints w a l)(hn:l.length=n)(hn2:n<=4096)(hk:k<=n)(hk2:k<n\/n=0)(hm0:1<=m)(hm:m<=999)(arg:Int)(h0:1<=n)(hl0:l.length≠0):
  Calls Tryz.prog 176 #[KJ a n c k (m:Int) op,.int .i64 69] w (YL (Ym l k 69 (m:Int) arg op) w):=by
 unfold KJ;have hB:=(Za.new w #[.slice a n c,.int .i64 (k:Int),.int .i64 (m:Int),.bool op] 260).alloc (.cells #[.int .i64 0,.bool false] 262);obtain⟨c0,c1,c2,c3⟩:=hB.four;have hP:=Za.new (w.alloc (.cells #[.slice a n c,.int .i64 (k:Int),.int .i64 (m:Int),.bool op] 260)) #[.int .i64 0,.bool false] 262;rw[Zu]at hP;have hacc:=Zo w (.cells #[.slice a n c,.int .i64 (k:Int),.int .i64 (m:Int),.bool op] 260) (.cells #[.int .i64 0,.bool false] 262);have hI:=hl.below hacc;have HN:=Zy hn;have h0':((n:Int)==0)=false:=QY;have HR:=Zy (show Ym l k 69 (m:Int) arg op=WO l k m op true by
  unfold Ym WO;simp only[XK];rw[if_neg QZ,if_neg QZ,if_neg QZ,if_neg QZ,if_neg QZ,if_neg QZ,if_neg QZ,if_neg hl0,if_neg QZ,if_neg QZ];first|(rw[if_pos QZ];rfl)|(rw[if_neg QZ,if_pos QZ];rfl))
 clear hn hl0;obtain⟨r,hr⟩:∃r,WO l k m op true=r:=⟨_,rfl⟩;have HR2:=Zy hr;clear hr;go_enter Tryz.func176,Tryz.ntmps176
 go_wp2_with ((go_at_call 187);refine(EA a n c l k m op true _ hI HN.out hn2 hk h0 QQ).mono ?_;rintro e w2 ⟨rfl,hb2⟩;rw[HR2.out];have hB2:=hB.below hb2 hB.lt;obtain⟨d0,d1,d2,d3⟩:=hB2.four;have hP2:=hP.below hb2 hP.lt;obtain⟨s0,s1,s2,s3⟩:=hP2.two;have Z0:=ZE hacc QY hb2)
 exact QLe
theorem fT(a:Option Addr)(n c:Nat)(l:List Int)(k m:Nat)(op:Bool)(w:World)(hl:Ints w a l)(hn:l.length=n)(hn2:n<=4096)(hk:k<=n)(hk2:k<n\/n=0)(hm0:1<=m)(hm:m<=999)(arg:Int)(h0:1<=n)(hl0:l.length≠0):
  Calls Tryz.prog 176 #[KJ a n c k (m:Int) op,.int .i64 37] w (YL (Ym l k 37 (m:Int) arg op) w):=by
 unfold KJ;have hB:=(Za.new w #[.slice a n c,.int .i64 (k:Int),.int .i64 (m:Int),.bool op] 260).alloc (.cells #[.int .i64 0,.bool false] 262);obtain⟨c0,c1,c2,c3⟩:=hB.four;have hP:=Za.new (w.alloc (.cells #[.slice a n c,.int .i64 (k:Int),.int .i64 (m:Int),.bool op] 260)) #[.int .i64 0,.bool false] 262;rw[Zu]at hP;have hacc:=Zo w (.cells #[.slice a n c,.int .i64 (k:Int),.int .i64 (m:Int),.bool op] 260) (.cells #[.int .i64 0,.bool false] 262);have hI:=hl.below hacc;have HN:=Zy hn;have h0':((n:Int)==0)=false:=QY;have HR:=Zy (show Ym l k 37 (m:Int) arg op=xz l k by
  unfold Ym xz;rw[if_neg QZ,if_neg QZ,if_neg QZ,if_neg QZ,if_neg QZ,if_neg QZ,if_neg QZ,if_neg hl0,if_neg QZ,if_neg QZ,if_neg QZ,if_neg QZ])
 clear hn hl0;obtain⟨r,hr⟩:∃r,xz l k=r:=⟨_,rfl⟩;have HR2:=Zy hr;clear hr;go_enter Tryz.func176,Tryz.ntmps176
 go_wp2_with ((go_at_call 188);refine(Gc a n c l k m op _ hI HN.out hn2 hk).mono ?_;rintro e w2 ⟨rfl,hb2⟩;rw[HR2.out];have hB2:=hB.below hb2 hB.lt;obtain⟨d0,d1,d2,d3⟩:=hB2.four;have hP2:=hP.below hb2 hP.lt;obtain⟨s0,s1,s2,s3⟩:=hP2.two;have Z0:=ZE hacc QY hb2)
 exact QLe
theorem aW(a:Option Addr)(n c:Nat)(l:List Int)(k m:Nat)(op:Bool)(w:World)(hl:Ints w a l)(hn:l.length=n)(hn2:n<=4096)(hk:k<=n)(hk2:k<n\/n=0)(hm0:1<=m)(hm:m<=999)(arg:Int):
  Calls Tryz.prog 175 #[KJ a n c k (m:Int) op,.int .i64 102,.int .i64 arg] w (YL (Ym l k 102 (m:Int) arg op) w):=by
 unfold KJ;have hB:=(Za.new w #[.slice a n c,.int .i64 (k:Int),.int .i64 (m:Int),.bool op] 260).alloc (.cells #[.int .i64 0,.bool false] 262);obtain⟨c0,c1,c2,c3⟩:=hB.four;have hP:=Za.new (w.alloc (.cells #[.slice a n c,.int .i64 (k:Int),.int .i64 (m:Int),.bool op] 260)) #[.int .i64 0,.bool false] 262;rw[Zu]at hP;have hacc:=Zo w (.cells #[.slice a n c,.int .i64 (k:Int),.int .i64 (m:Int),.bool op] 260) (.cells #[.int .i64 0,.bool false] 262);have hI:=hl.below hacc;have HN:=Zy hn;have HB:=Zy (show∀x,(JY l k arg)[m-1]? =some x->0<=x/\x<=n from fun x hx=>by
  have hx:=X4 hx;have:=Am _ _ _ _ x hx;omega)
 obtain⟨r,hr⟩:∃r,(JY l k arg)[m-1]? =r:=⟨_,rfl⟩;have HR2:=Zy hr;have HR:=Zy (show Ym l k 102 (m:Int) arg op=(match(JY l k arg)[m-1]? with|some x=>some (x,true)|none=>none) by simp[Ym];cases (JY l k arg)[m-1]?<;>rfl);rw[HR2.out]at HR;have hbx:=HB.out;rw[hr]at hbx;clear hn hr HB;rcases r with _|x
 ·have HR3:=Zy (show Ym l k 102 (m:Int) arg op=none from HR.out)
  exact QMK
 ·have HR3:=Zy (show Ym l k 102 (m:Int) arg op=some (x,true)from HR.out)
  obtain⟨x1,x2⟩:=hbx x rfl;clear hbx;go_enter Tryz.func175,Tryz.ntmps175
  go_wp2_with ((go_at_call 182);refine(VK a n c l k m op arg _ hI HN.out hn2 hk hm0 QQ).mono ?_;rintro e w2 ⟨rfl,hb2⟩;rw[HR2.out];have hB2:=hB.below hb2 hB.lt;obtain⟨d0,d1,d2,d3⟩:=hB2.four;have hP2:=hP.below hb2 hP.lt;obtain⟨s0,s1,s2,s3⟩:=hP2.two;have Z0:=ZE hacc QY hb2;have z1:fiA (some x)=x:=rfl;have z2:fiE (some x)=0:=rfl)
  rw[HR3.out];have hG:=(hP2.set 0 (.int .i64 (x))).set 1 (.bool true);obtain⟨q0,q1,-,-⟩:=Za.two hG;refine ZC (v:=.tuple #[.agg #[.int .i64 (x),.bool true],.int .i64 0]) QP rfl ⟨rfl,?_⟩;exact QF6
theorem aV(a:Option Addr)(n c:Nat)(l:List Int)(k m:Nat)(op:Bool)(w:World)(hl:Ints w a l)(hn:l.length=n)(hn2:n<=4096)(hk:k<=n)(hk2:k<n\/n=0)(hm0:1<=m)(hm:m<=999)(arg:Int):
  Calls Tryz.prog 175 #[KJ a n c k (m:Int) op,.int .i64 116,.int .i64 arg] w (YL (Ym l k 116 (m:Int) arg op) w):=by
 unfold KJ;have hB:=(Za.new w #[.slice a n c,.int .i64 (k:Int),.int .i64 (m:Int),.bool op] 260).alloc (.cells #[.int .i64 0,.bool false] 262);obtain⟨c0,c1,c2,c3⟩:=hB.four;have hP:=Za.new (w.alloc (.cells #[.slice a n c,.int .i64 (k:Int),.int .i64 (m:Int),.bool op] 260)) #[.int .i64 0,.bool false] 262;rw[Zu]at hP;have hacc:=Zo w (.cells #[.slice a n c,.int .i64 (k:Int),.int .i64 (m:Int),.bool op] 260) (.cells #[.int .i64 0,.bool false] 262);have hI:=hl.below hacc;have HN:=Zy hn;have HB:=Zy (show∀x,(JY l k arg)[m-1]? =some x->0<=x/\x<=n from fun x hx=>by
  have hx:=X4 hx;have:=Am _ _ _ _ x hx;omega)
 obtain⟨r,hr⟩:∃r,(JY l k arg)[m-1]? =r:=⟨_,rfl⟩;have HR2:=Zy hr;have HR:=Zy (show Ym l k 116 (m:Int) arg op=(match(JY l k arg)[m-1]? with|some x=>some (x-1,true)|none=>none) by simp[Ym];cases (JY l k arg)[m-1]?<;>rfl);rw[HR2.out]at HR;have hbx:=HB.out;rw[hr]at hbx;clear hn hr HB;rcases r with _|x
 ·have HR3:=Zy (show Ym l k 116 (m:Int) arg op=none from HR.out)
  exact QMK
 ·have HR3:=Zy (show Ym l k 116 (m:Int) arg op=some (x-1,true)from HR.out)
  obtain⟨x1,x2⟩:=hbx x rfl;clear hbx;go_enter Tryz.func175,Tryz.ntmps175
  go_wp2_with ((go_at_call 182);refine(VK a n c l k m op arg _ hI HN.out hn2 hk hm0 QQ).mono ?_;rintro e w2 ⟨rfl,hb2⟩;rw[HR2.out];have hB2:=hB.below hb2 hB.lt;obtain⟨d0,d1,d2,d3⟩:=hB2.four;have hP2:=hP.below hb2 hP.lt;obtain⟨s0,s1,s2,s3⟩:=hP2.two;have Z0:=ZE hacc QY hb2;have z1:fiA (some x)=x:=rfl;have z2:fiE (some x)=0:=rfl)
  rw[HR3.out];have hG:=(hP2.set 0 (.int .i64 (x-1))).set 1 (.bool true);obtain⟨q0,q1,-,-⟩:=Za.two hG;refine ZC (v:=.tuple #[.agg #[.int .i64 (x-1),.bool true],.int .i64 0]) QP rfl ⟨rfl,?_⟩;exact QF6
theorem lg(a:Option Addr)(n c:Nat)(l:List Int)(k m:Nat)(op:Bool)(w:World)(hl:Ints w a l)(hn:l.length=n)(hn2:n<=4096)(hk:k<=n)(hk2:k<n\/n=0)(hm0:1<=m)(hm:m<=999)(arg:Int):
  Calls Tryz.prog 175 #[KJ a n c k (m:Int) op,.int .i64 70,.int .i64 arg] w (YL (Ym l k 70 (m:Int) arg op) w):=by
 unfold KJ;have hB:=(Za.new w #[.slice a n c,.int .i64 (k:Int),.int .i64 (m:Int),.bool op] 260).alloc (.cells #[.int .i64 0,.bool false] 262);obtain⟨c0,c1,c2,c3⟩:=hB.four;have hP:=Za.new (w.alloc (.cells #[.slice a n c,.int .i64 (k:Int),.int .i64 (m:Int),.bool op] 260)) #[.int .i64 0,.bool false] 262;rw[Zu]at hP;have hacc:=Zo w (.cells #[.slice a n c,.int .i64 (k:Int),.int .i64 (m:Int),.bool op] 260) (.cells #[.int .i64 0,.bool false] 262);have hI:=hl.below hacc;have HN:=Zy hn;have HB:=Zy (show∀x,(Jk l k arg)[m-1]? =some x->0<=x/\x<=n from fun x hx=>by
  have hx:=X4 hx;have:=FL _ _ _ x hx;omega)
 obtain⟨r,hr⟩:∃r,(Jk l k arg)[m-1]? =r:=⟨_,rfl⟩;have HR2:=Zy hr;have HR:=Zy (show Ym l k 70 (m:Int) arg op=(match(Jk l k arg)[m-1]? with|some x=>some (x,false)|none=>none) by simp[Ym];cases (Jk l k arg)[m-1]?<;>rfl);rw[HR2.out]at HR;have hbx:=HB.out;rw[hr]at hbx;clear hn hr HB;rcases r with _|x
 ·have HR3:=Zy (show Ym l k 70 (m:Int) arg op=none from HR.out)
  exact QMU
 ·have HR3:=Zy (show Ym l k 70 (m:Int) arg op=some (x,false)from HR.out)
  obtain⟨x1,x2⟩:=hbx x rfl;clear hbx;go_enter Tryz.func175,Tryz.ntmps175
  go_wp2_with ((go_at_call 182);refine(UJ a n c l k m op arg _ hI HN.out hn2 hk hm0 QQ).mono ?_;rintro e w2 ⟨rfl,hb2⟩;rw[HR2.out];have hB2:=hB.below hb2 hB.lt;obtain⟨d0,d1,d2,d3⟩:=hB2.four;have hP2:=hP.below hb2 hP.lt;obtain⟨s0,s1,s2,s3⟩:=hP2.two;have Z0:=ZE hacc QY hb2;have z1:fiA (some x)=x:=rfl;have z2:fiE (some x)=0:=rfl)
  rw[HR3.out];have hG:=(hP2.set 0 (.int .i64 (x))).set 1 (.bool false);obtain⟨q0,q1,-,-⟩:=Za.two hG;refine ZC (v:=.tuple #[.agg #[.int .i64 (x),.bool false],.int .i64 0]) QP rfl ⟨rfl,?_⟩;exact QF6
theorem lT(a:Option Addr)(n c:Nat)(l:List Int)(k m:Nat)(op:Bool)(w:World)(hl:Ints w a l)(hn:l.length=n)(hn2:n<=4096)(hk:k<=n)(hk2:k<n\/n=0)(hm0:1<=m)(hm:m<=999)(arg:Int):
  Calls Tryz.prog 175 #[KJ a n c k (m:Int) op,.int .i64 84,.int .i64 arg] w (YL (Ym l k 84 (m:Int) arg op) w):=by
 unfold KJ;have hB:=(Za.new w #[.slice a n c,.int .i64 (k:Int),.int .i64 (m:Int),.bool op] 260).alloc (.cells #[.int .i64 0,.bool false] 262);obtain⟨c0,c1,c2,c3⟩:=hB.four;have hP:=Za.new (w.alloc (.cells #[.slice a n c,.int .i64 (k:Int),.int .i64 (m:Int),.bool op] 260)) #[.int .i64 0,.bool false] 262;rw[Zu]at hP;have hacc:=Zo w (.cells #[.slice a n c,.int .i64 (k:Int),.int .i64 (m:Int),.bool op] 260) (.cells #[.int .i64 0,.bool false] 262);have hI:=hl.below hacc;have HN:=Zy hn;have HB:=Zy (show∀x,(Jk l k arg)[m-1]? =some x->0<=x/\x<=n from fun x hx=>by
  have hx:=X4 hx;have:=FL _ _ _ x hx;omega)
 obtain⟨r,hr⟩:∃r,(Jk l k arg)[m-1]? =r:=⟨_,rfl⟩;have HR2:=Zy hr;have HR:=Zy (show Ym l k 84 (m:Int) arg op=(match(Jk l k arg)[m-1]? with|some x=>some (x+1,false)|none=>none) by simp[Ym];cases (Jk l k arg)[m-1]?<;>rfl);rw[HR2.out]at HR;have hbx:=HB.out;rw[hr]at hbx;clear hn hr HB;rcases r with _|x
 ·have HR3:=Zy (show Ym l k 84 (m:Int) arg op=none from HR.out)
  exact QMU
 ·have HR3:=Zy (show Ym l k 84 (m:Int) arg op=some (x+1,false)from HR.out)
  obtain⟨x1,x2⟩:=hbx x rfl;clear hbx;go_enter Tryz.func175,Tryz.ntmps175
  go_wp2_with ((go_at_call 182);refine(UJ a n c l k m op arg _ hI HN.out hn2 hk hm0 QQ).mono ?_;rintro e w2 ⟨rfl,hb2⟩;rw[HR2.out];have hB2:=hB.below hb2 hB.lt;obtain⟨d0,d1,d2,d3⟩:=hB2.four;have hP2:=hP.below hb2 hP.lt;obtain⟨s0,s1,s2,s3⟩:=hP2.two;have Z0:=ZE hacc QY hb2;have z1:fiA (some x)=x:=rfl;have z2:fiE (some x)=0:=rfl)
  rw[HR3.out];have hG:=(hP2.set 0 (.int .i64 (x+1))).set 1 (.bool false);obtain⟨q0,q1,-,-⟩:=Za.two hG;refine ZC (v:=.tuple #[.agg #[.int .i64 (x+1),.bool false],.int .i64 0]) QP rfl ⟨rfl,?_⟩;exact QF6
theorem xw(a:Option Addr)(n c:Nat)(l:List Int)(k m:Nat)(op:Bool)(w:World)(hl:Ints w a l)(hn:l.length=n)(hn2:n<=4096)(hk:k<=n)(hk2:k<n\/n=0)(hm0:1<=m)(hm:m<=999)(key arg:Int)(hK:Kj key=true)(hF:xu key=false):
  Calls Tryz.prog 176 #[KJ a n c k (m:Int) op,.int .i64 key] w (YL (Ym l k key (m:Int) arg op) w):=by
 have hn':n=0\/1<=n:=QQ;rcases La key with rfl|rfl|rfl|rfl|rfl|rfl|rfl|rfl|rfl|rfl|rfl|rfl|rfl|rfl|rfl|rfl|rfl|h
 ·exact sJ a n c l k m op w hl hn hn2 hk hk2 hm0 hm arg
 ·exact sQ a n c l k m op w hl hn hn2 hk hk2 hm0 hm arg
 ·exact sF a n c l k m op w hl hn hn2 hk hk2 hm0 hm arg
 ·exact LQ a n c l k m op w hl hn hn2 hk hk2 hm0 hm arg
 ·rcases hn' with h0|h0
  ·exact FH a n c l k m op w hl hn hn2 hk hk2 hm0 hm arg h0 QQ
  ·exact fe a n c l k m op w hl hn hn2 hk hk2 hm0 hm arg h0 QQ
 ·rcases hn' with h0|h0
  ·exact Ch a n c l k m op w hl hn hn2 hk hk2 hm0 hm arg h0 QQ
  ·exact TV a n c l k m op w hl hn hn2 hk hk2 hm0 hm arg h0 QQ
 ·rcases hn' with h0|h0
  ·exact Ci a n c l k m op w hl hn hn2 hk hk2 hm0 hm arg h0 QQ
  ·exact TW a n c l k m op w hl hn hn2 hk hk2 hm0 hm arg h0 QQ
 ·rcases hn' with h0|h0
  ·exact FD a n c l k m op w hl hn hn2 hk hk2 hm0 hm arg h0 QQ
  ·exact fO a n c l k m op w hl hn hn2 hk hk2 hm0 hm arg h0 QQ
 ·exact sK a n c l k m op w hl hn hn2 hk hk2 hm0 hm arg
 ·exact su a n c l k m op w hl hn hn2 hk hk2 hm0 hm arg
 ·rcases hn' with h0|h0
  ·exact Cm a n c l k m op w hl hn hn2 hk hk2 hm0 hm arg h0 QQ
  ·exact Tq a n c l k m op w hl hn hn2 hk hk2 hm0 hm arg h0 QQ
 ·rcases hn' with h0|h0
  ·exact FE a n c l k m op w hl hn hn2 hk hk2 hm0 hm arg h0 QQ
  ·exact fP a n c l k m op w hl hn hn2 hk hk2 hm0 hm arg h0 QQ
 ·rcases hn' with h0|h0
  ·exact FF a n c l k m op w hl hn hn2 hk hk2 hm0 hm arg h0 QQ
  ·exact fT a n c l k m op w hl hn hn2 hk hk2 hm0 hm arg h0 QQ
 all_goals first|(simp[xu]at hF;done)|(rw[hK]at h;cases h)
theorem yQ(a:Option Addr)(n c:Nat)(l:List Int)(k m:Nat)(op:Bool)(w:World)(hl:Ints w a l)(hn:l.length=n)(hn2:n<=4096)(hk:k<=n)(hk2:k<n\/n=0)(hm0:1<=m)(hm:m<=999)(key arg:Int)(hF:xu key=true):
  Calls Tryz.prog 175 #[KJ a n c k (m:Int) op,.int .i64 key,.int .i64 arg] w (YL (Ym l k key (m:Int) arg op) w):=by
 rcases(show key=102\/key=70\/key=116\/key=84 by simp[xu]at hF;omega)with rfl|rfl|rfl|rfl
 ·exact aW a n c l k m op w hl hn hn2 hk hk2 hm0 hm arg
 ·exact lg a n c l k m op w hl hn hn2 hk hk2 hm0 hm arg
 ·exact aV a n c l k m op w hl hn hn2 hk hk2 hm0 hm arg
 ·exact lT a n c l k m op w hl hn hn2 hk hk2 hm0 hm arg
end Go.Proofs.YtmdnepkekekncaaGreat

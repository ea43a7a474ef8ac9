/- LiftTopBounds: joined, no condition of its own. -/
import Derived.Test.YtmdcencmiopmmaaGreatTbJoinT
import Derived.Test.YtmdcencmiopmmaaGreatTbJoinJ6
set_option linter.unusedVariables false
set_option linter.unusedSimpArgs false
set_option maxRecDepth 100000
set_option maxHeartbeats 12000000
namespace Go.Proofs.YtmdcencmiopmmaaGreat
open Go.RowKit
theorem dE(a:Option Addr)(n c:Nat)(l:List Int)(k m:Nat)(op:Bool)(w:World)(hl:Ints w a l)(hn:l.length=n)(hn2:n<=4096)(hk:k<=n)(hk2:k<n\/n=0)(hm0:1<=m)(hm:m<=999)(arg:Int):
  Calls Tryz.prog 290 #[Yf a n c k (m:Int) op,.int .i64 104] w (XJ (XG l k 104 (m:Int) arg op) w):=by
 unfold Yf;have hB:=(QD.new w #[.slice a n c,.int .i64 (k:Int),.int .i64 (m:Int),.bool op] 359).alloc (.cells #[.int .i64 0,.bool false] 361);obtain⟨c0,c1,c2,c3⟩:=hB.four;have hP:=QD.new (w.alloc (.cells #[.slice a n c,.int .i64 (k:Int),.int .i64 (m:Int),.bool op] 359)) #[.int .i64 0,.bool false] 361;rw[QJ]at hP;have hacc:=QS w (.cells #[.slice a n c,.int .i64 (k:Int),.int .i64 (m:Int),.bool op] 359) (.cells #[.int .i64 0,.bool false] 361);have hI:=hl.below hacc;have HN:=QQ hn;clear hn;by_cases h0:k=0
 ·subst h0
  have HR:=QQ (show XG l 0 104 (m:Int) arg op=none by simp[XG]);exact Qkj
 ·have h0':((k:Int)==0)=false:=by simp;omega
  rcases(show m<k\/k<=m by omega)with h1|h1
  ·have h2:0<(k:Int)-(m:Int):=by omega
   have HM:=QQ (show max 0 ((k:Int)-m)=(k:Int)-m by omega);have HR:=QQ (show XG l k 104 (m:Int) arg op=some (max 0 ((k:Int)-m),false) by simp[XG,h0]);clear h0;go_enter Tryz.func290,Tryz.ntmps290
   go_wp2;rw[HR.out,HM.out];have hG:=(hP.set 0 (.int .i64 ((k:Int)-m))).set 1 (.bool false);obtain⟨q0,q1,-,-⟩:=QD.two hG;refine QV (v:=.tuple #[.agg #[.int .i64 ((k:Int)-m),.bool false],.int .i64 0]) (by simp[results,Tryz.results290,go_sem,q0,q1]) rfl ⟨rfl,?_⟩;exact QkN
  ·have h2:(k:Int)-(m:Int)<=0:=by omega
   have HM:=QQ (show max 0 ((k:Int)-m)=0 by omega);have HR:=QQ (show XG l k 104 (m:Int) arg op=some (max 0 ((k:Int)-m),false) by simp[XG,h0]);clear h0;go_enter Tryz.func290,Tryz.ntmps290
   go_wp2;rw[HR.out,HM.out];exact QBJ
theorem dC(a:Option Addr)(n c:Nat)(l:List Int)(k m:Nat)(op:Bool)(w:World)(hl:Ints w a l)(hn:l.length=n)(hn2:n<=4096)(hk:k<=n)(hk2:k<n\/n=0)(hm0:1<=m)(hm:m<=999)(arg:Int):
  Calls Tryz.prog 290 #[Yf a n c k (m:Int) op,.int .i64 108] w (XJ (XG l k 108 (m:Int) arg op) w):=by
 unfold Yf;have hB:=(QD.new w #[.slice a n c,.int .i64 (k:Int),.int .i64 (m:Int),.bool op] 359).alloc (.cells #[.int .i64 0,.bool false] 361);obtain⟨c0,c1,c2,c3⟩:=hB.four;have hP:=QD.new (w.alloc (.cells #[.slice a n c,.int .i64 (k:Int),.int .i64 (m:Int),.bool op] 359)) #[.int .i64 0,.bool false] 361;rw[QJ]at hP;have hacc:=QS w (.cells #[.slice a n c,.int .i64 (k:Int),.int .i64 (m:Int),.bool op] 359) (.cells #[.int .i64 0,.bool false] 361);have hI:=hl.below hacc;have HN:=QQ hn;have HR:=QQ (show XG l k 108 (m:Int) arg op=KW n k m op by unfold XG KW;rw[if_neg (by decide),if_pos rfl,hn]);clear hn;obtain⟨r,hr⟩:∃r,KW n k (m:Int) op=r:=⟨_,rfl⟩;have HR2:=QQ hr;clear hr;go_enter Tryz.func290,Tryz.ntmps290
 go_wp2_with ((go_at_call 298);refine(Ij a n c k m op _ hn2 hk (by omega) (by omega)).mono ?_;rintro e w2 ⟨rfl,hb2⟩;rw[HR2.out];have hB2:=hB.below hb2 hB.lt;obtain⟨d0,d1,d2,d3⟩:=hB2.four;have hP2:=hP.below hb2 hP.lt;obtain⟨s0,s1,s2,s3⟩:=hP2.two;have Qc:=QW hacc (by simp;omega) hb2)
 exact QAp
theorem dO(a:Option Addr)(n c:Nat)(l:List Int)(k m:Nat)(op:Bool)(w:World)(hl:Ints w a l)(hn:l.length=n)(hn2:n<=4096)(hk:k<=n)(hk2:k<n\/n=0)(hm0:1<=m)(hm:m<=999)(arg:Int):
  Calls Tryz.prog 290 #[Yf a n c k (m:Int) op,.int .i64 48] w (XJ (XG l k 48 (m:Int) arg op) w):=by
 unfold Yf;have hB:=(QD.new w #[.slice a n c,.int .i64 (k:Int),.int .i64 (m:Int),.bool op] 359).alloc (.cells #[.int .i64 0,.bool false] 361);obtain⟨c0,c1,c2,c3⟩:=hB.four;have hP:=QD.new (w.alloc (.cells #[.slice a n c,.int .i64 (k:Int),.int .i64 (m:Int),.bool op] 359)) #[.int .i64 0,.bool false] 361;rw[QJ]at hP;have hacc:=QS w (.cells #[.slice a n c,.int .i64 (k:Int),.int .i64 (m:Int),.bool op] 359) (.cells #[.int .i64 0,.bool false] 361);have hI:=hl.below hacc;have HN:=QQ hn;clear hn;have HR:=QQ (show XG l k 48 (m:Int) arg op=some (0,false) by simp[XG]);go_enter Tryz.func290,Tryz.ntmps290
 go_wp2;rw[HR.out];exact QBJ
theorem EF(a:Option Addr)(n c:Nat)(l:List Int)(k m:Nat)(op:Bool)(w:World)(hl:Ints w a l)(hn:l.length=n)(hn2:n<=4096)(hk:k<=n)(hk2:k<n\/n=0)(hm0:1<=m)(hm:m<=999)(arg:Int):
  Calls Tryz.prog 290 #[Yf a n c k (m:Int) op,.int .i64 94] w (XJ (XG l k 94 (m:Int) arg op) w):=by
 unfold Yf;have hB:=(QD.new w #[.slice a n c,.int .i64 (k:Int),.int .i64 (m:Int),.bool op] 359).alloc (.cells #[.int .i64 0,.bool false] 361);obtain⟨c0,c1,c2,c3⟩:=hB.four;have hP:=QD.new (w.alloc (.cells #[.slice a n c,.int .i64 (k:Int),.int .i64 (m:Int),.bool op] 359)) #[.int .i64 0,.bool false] 361;rw[QJ]at hP;have hacc:=QS w (.cells #[.slice a n c,.int .i64 (k:Int),.int .i64 (m:Int),.bool op] 359) (.cells #[.int .i64 0,.bool false] 361);have hI:=hl.below hacc;have HN:=QQ hn;have HN:=QQ hn;clear hn;obtain⟨t,ht⟩:∃t,Yo l=t:=⟨_,rfl⟩;have HT:=QQ ht;clear ht;have HR:=QQ (show XG l k 94 (m:Int) arg op=some (Yo l,false) by simp[XG]);go_enter Tryz.func290,Tryz.ntmps290
 go_wp2_with ((go_at_call 299);refine(Ik a n c l k m op _ hI HN.out hn2).mono ?_;rintro e w2 ⟨rfl,hb2⟩;rw[HT.out];have hB2:=hB.below hb2 hB.lt;obtain⟨d0,d1,d2,d3⟩:=hB2.four;have hP2:=hP.below hb2 hP.lt;obtain⟨s0,s1,s2,s3⟩:=hP2.two;have Qc:=QW hacc (by simp;omega) hb2)
 exact QA8
theorem dF(a:Option Addr)(n c:Nat)(l:List Int)(k m:Nat)(op:Bool)(w:World)(hl:Ints w a l)(hn:l.length=n)(hn2:n<=4096)(hk:k<=n)(hk2:k<n\/n=0)(hm0:1<=m)(hm:m<=999)(arg:Int):
  Calls Tryz.prog 290 #[Yf a n c k (m:Int) op,.int .i64 98] w (XJ (XG l k 98 (m:Int) arg op) w):=by
 unfold Yf;have hB:=(QD.new w #[.slice a n c,.int .i64 (k:Int),.int .i64 (m:Int),.bool op] 359).alloc (.cells #[.int .i64 0,.bool false] 361);obtain⟨c0,c1,c2,c3⟩:=hB.four;have hP:=QD.new (w.alloc (.cells #[.slice a n c,.int .i64 (k:Int),.int .i64 (m:Int),.bool op] 359)) #[.int .i64 0,.bool false] 361;rw[QJ]at hP;have hacc:=QS w (.cells #[.slice a n c,.int .i64 (k:Int),.int .i64 (m:Int),.bool op] 359) (.cells #[.int .i64 0,.bool false] 361);have hI:=hl.below hacc;have HN:=QQ hn;clear hn;by_cases h0:k=0
 ·subst h0
  have HR:=QQ (show XG l 0 98 (m:Int) arg op=none by simp[XG]);exact Qkj
 ·have h0':((k:Int)==0)=false:=by simp;omega
  obtain⟨t,ht⟩:∃t,Xk (Jy l false) m k=t:=⟨_,rfl⟩;have HT:=QQ ht;clear ht;have HR:=QQ (show XG l k 98 (m:Int) arg op=some (Xk (Jy l false) m k,false) by simp[XG,h0]);clear h0;go_enter Tryz.func290,Tryz.ntmps290
  go_wp2_with ((go_at_call 300);refine(Vj a n c l k m op false _ hI HN.out hn2 hk (by omega)).mono ?_;rintro e w2 ⟨rfl,hb2⟩;rw[HT.out];have hB2:=hB.below hb2 hB.lt;obtain⟨d0,d1,d2,d3⟩:=hB2.four;have hP2:=hP.below hb2 hP.lt;obtain⟨s0,s1,s2,s3⟩:=hP2.two;have Qc:=QW hacc (by simp;omega) hb2)
  exact QA8
theorem dM(a:Option Addr)(n c:Nat)(l:List Int)(k m:Nat)(op:Bool)(w:World)(hl:Ints w a l)(hn:l.length=n)(hn2:n<=4096)(hk:k<=n)(hk2:k<n\/n=0)(hm0:1<=m)(hm:m<=999)(arg:Int):
  Calls Tryz.prog 290 #[Yf a n c k (m:Int) op,.int .i64 66] w (XJ (XG l k 66 (m:Int) arg op) w):=by
 unfold Yf;have hB:=(QD.new w #[.slice a n c,.int .i64 (k:Int),.int .i64 (m:Int),.bool op] 359).alloc (.cells #[.int .i64 0,.bool false] 361);obtain⟨c0,c1,c2,c3⟩:=hB.four;have hP:=QD.new (w.alloc (.cells #[.slice a n c,.int .i64 (k:Int),.int .i64 (m:Int),.bool op] 359)) #[.int .i64 0,.bool false] 361;rw[QJ]at hP;have hacc:=QS w (.cells #[.slice a n c,.int .i64 (k:Int),.int .i64 (m:Int),.bool op] 359) (.cells #[.int .i64 0,.bool false] 361);have hI:=hl.below hacc;have HN:=QQ hn;clear hn;by_cases h0:k=0
 ·subst h0
  have HR:=QQ (show XG l 0 66 (m:Int) arg op=none by simp[XG]);exact Qkj
 ·have h0':((k:Int)==0)=false:=by simp;omega
  obtain⟨t,ht⟩:∃t,Xk (Jy l true) m k=t:=⟨_,rfl⟩;have HT:=QQ ht;clear ht;have HR:=QQ (show XG l k 66 (m:Int) arg op=some (Xk (Jy l true) m k,false) by simp[XG,h0]);clear h0;go_enter Tryz.func290,Tryz.ntmps290
  go_wp2_with ((go_at_call 300);refine(Vj a n c l k m op true _ hI HN.out hn2 hk (by omega)).mono ?_;rintro e w2 ⟨rfl,hb2⟩;rw[HT.out];have hB2:=hB.below hb2 hB.lt;obtain⟨d0,d1,d2,d3⟩:=hB2.four;have hP2:=hP.below hb2 hP.lt;obtain⟨s0,s1,s2,s3⟩:=hP2.two;have Qc:=QW hacc (by simp;omega) hb2)
  exact QA8
theorem Bd(a:Option Addr)(n c:Nat)(l:List Int)(k m:Nat)(op:Bool)(w:World)(hl:Ints w a l)(hn:l.length=n)(hn2:n<=4096)(hk:k<=n)(hk2:k<n\/n=0)(hm0:1<=m)(hm:m<=999)(arg:Int)(h0:n=0)(hl0:l.length=0):
  Calls Tryz.prog 290 #[Yf a n c k (m:Int) op,.int .i64 36] w (XJ (XG l k 36 (m:Int) arg op) w):=by
 subst h0;unfold Yf;have hB:=(QD.new w #[.slice a 0 c,.int .i64 (k:Int),.int .i64 (m:Int),.bool op] 359).alloc (.cells #[.int .i64 0,.bool false] 361);obtain⟨c0,c1,c2,c3⟩:=hB.four;have hP:=QD.new (w.alloc (.cells #[.slice a 0 c,.int .i64 (k:Int),.int .i64 (m:Int),.bool op] 359)) #[.int .i64 0,.bool false] 361;rw[QJ]at hP;have hacc:=QS w (.cells #[.slice a 0 c,.int .i64 (k:Int),.int .i64 (m:Int),.bool op] 359) (.cells #[.int .i64 0,.bool false] 361);have hI:=hl.below hacc;have HN:=QQ hn;clear hn HN;have HR:=QQ (show XG l k 36 (m:Int) arg op=none by simp[XG,hl0]);clear hl0;exact Qkj
theorem uN(a:Option Addr)(n c:Nat)(l:List Int)(k m:Nat)(op:Bool)(w:World)(hl:Ints w a l)(hn:l.length=n)(hn2:n<=4096)(hk:k<=n)(hk2:k<n\/n=0)(hm0:1<=m)(hm:m<=999)(arg:Int)(h0:n=0)(hl0:l.length=0):
  Calls Tryz.prog 290 #[Yf a n c k (m:Int) op,.int .i64 124] w (XJ (XG l k 124 (m:Int) arg op) w):=by
 subst h0;unfold Yf;have hB:=(QD.new w #[.slice a 0 c,.int .i64 (k:Int),.int .i64 (m:Int),.bool op] 359).alloc (.cells #[.int .i64 0,.bool false] 361);obtain⟨c0,c1,c2,c3⟩:=hB.four;have hP:=QD.new (w.alloc (.cells #[.slice a 0 c,.int .i64 (k:Int),.int .i64 (m:Int),.bool op] 359)) #[.int .i64 0,.bool false] 361;rw[QJ]at hP;have hacc:=QS w (.cells #[.slice a 0 c,.int .i64 (k:Int),.int .i64 (m:Int),.bool op] 359) (.cells #[.int .i64 0,.bool false] 361);have hI:=hl.below hacc;have HN:=QQ hn;clear hn HN;have HR:=QQ (show XG l k 124 (m:Int) arg op=none by simp[XG,hl0]);clear hl0;exact Qkj
theorem uO(a:Option Addr)(n c:Nat)(l:List Int)(k m:Nat)(op:Bool)(w:World)(hl:Ints w a l)(hn:l.length=n)(hn2:n<=4096)(hk:k<=n)(hk2:k<n\/n=0)(hm0:1<=m)(hm:m<=999)(arg:Int)(h0:n=0)(hl0:l.length=0):
  Calls Tryz.prog 290 #[Yf a n c k (m:Int) op,.int .i64 119] w (XJ (XG l k 119 (m:Int) arg op) w):=by
 subst h0;unfold Yf;have hB:=(QD.new w #[.slice a 0 c,.int .i64 (k:Int),.int .i64 (m:Int),.bool op] 359).alloc (.cells #[.int .i64 0,.bool false] 361);obtain⟨c0,c1,c2,c3⟩:=hB.four;have hP:=QD.new (w.alloc (.cells #[.slice a 0 c,.int .i64 (k:Int),.int .i64 (m:Int),.bool op] 359)) #[.int .i64 0,.bool false] 361;rw[QJ]at hP;have hacc:=QS w (.cells #[.slice a 0 c,.int .i64 (k:Int),.int .i64 (m:Int),.bool op] 359) (.cells #[.int .i64 0,.bool false] 361);have hI:=hl.below hacc;have HN:=QQ hn;clear hn HN;have HR:=QQ (show XG l k 119 (m:Int) arg op=none by simp[XG,hl0]);clear hl0;exact Qkj
theorem Ba(a:Option Addr)(n c:Nat)(l:List Int)(k m:Nat)(op:Bool)(w:World)(hl:Ints w a l)(hn:l.length=n)(hn2:n<=4096)(hk:k<=n)(hk2:k<n\/n=0)(hm0:1<=m)(hm:m<=999)(arg:Int)(h0:n=0)(hl0:l.length=0):
  Calls Tryz.prog 290 #[Yf a n c k (m:Int) op,.int .i64 87] w (XJ (XG l k 87 (m:Int) arg op) w):=by
 subst h0;unfold Yf;have hB:=(QD.new w #[.slice a 0 c,.int .i64 (k:Int),.int .i64 (m:Int),.bool op] 359).alloc (.cells #[.int .i64 0,.bool false] 361);obtain⟨c0,c1,c2,c3⟩:=hB.four;have hP:=QD.new (w.alloc (.cells #[.slice a 0 c,.int .i64 (k:Int),.int .i64 (m:Int),.bool op] 359)) #[.int .i64 0,.bool false] 361;rw[QJ]at hP;have hacc:=QS w (.cells #[.slice a 0 c,.int .i64 (k:Int),.int .i64 (m:Int),.bool op] 359) (.cells #[.int .i64 0,.bool false] 361);have hI:=hl.below hacc;have HN:=QQ hn;clear hn HN;have HR:=QQ (show XG l k 87 (m:Int) arg op=none by simp[XG,hl0]);clear hl0;exact Qkj
theorem uP(a:Option Addr)(n c:Nat)(l:List Int)(k m:Nat)(op:Bool)(w:World)(hl:Ints w a l)(hn:l.length=n)(hn2:n<=4096)(hk:k<=n)(hk2:k<n\/n=0)(hm0:1<=m)(hm:m<=999)(arg:Int)(h0:n=0)(hl0:l.length=0):
  Calls Tryz.prog 290 #[Yf a n c k (m:Int) op,.int .i64 101] w (XJ (XG l k 101 (m:Int) arg op) w):=by
 subst h0;unfold Yf;have hB:=(QD.new w #[.slice a 0 c,.int .i64 (k:Int),.int .i64 (m:Int),.bool op] 359).alloc (.cells #[.int .i64 0,.bool false] 361);obtain⟨c0,c1,c2,c3⟩:=hB.four;have hP:=QD.new (w.alloc (.cells #[.slice a 0 c,.int .i64 (k:Int),.int .i64 (m:Int),.bool op] 359)) #[.int .i64 0,.bool false] 361;rw[QJ]at hP;have hacc:=QS w (.cells #[.slice a 0 c,.int .i64 (k:Int),.int .i64 (m:Int),.bool op] 359) (.cells #[.int .i64 0,.bool false] 361);have hI:=hl.below hacc;have HN:=QQ hn;clear hn HN;have HR:=QQ (show XG l k 101 (m:Int) arg op=none by simp[XG,hl0]);clear hl0;exact Qkj
theorem Bb(a:Option Addr)(n c:Nat)(l:List Int)(k m:Nat)(op:Bool)(w:World)(hl:Ints w a l)(hn:l.length=n)(hn2:n<=4096)(hk:k<=n)(hk2:k<n\/n=0)(hm0:1<=m)(hm:m<=999)(arg:Int)(h0:n=0)(hl0:l.length=0):
  Calls Tryz.prog 290 #[Yf a n c k (m:Int) op,.int .i64 69] w (XJ (XG l k 69 (m:Int) arg op) w):=by
 subst h0;unfold Yf;have hB:=(QD.new w #[.slice a 0 c,.int .i64 (k:Int),.int .i64 (m:Int),.bool op] 359).alloc (.cells #[.int .i64 0,.bool false] 361);obtain⟨c0,c1,c2,c3⟩:=hB.four;have hP:=QD.new (w.alloc (.cells #[.slice a 0 c,.int .i64 (k:Int),.int .i64 (m:Int),.bool op] 359)) #[.int .i64 0,.bool false] 361;rw[QJ]at hP;have hacc:=QS w (.cells #[.slice a 0 c,.int .i64 (k:Int),.int .i64 (m:Int),.bool op] 359) (.cells #[.int .i64 0,.bool false] 361);have hI:=hl.below hacc;have HN:=QQ hn;clear hn HN;have HR:=QQ (show XG l k 69 (m:Int) arg op=none by simp[XG,hl0]);clear hl0;exact Qkj
theorem Bc(a:Option Addr)(n c:Nat)(l:List Int)(k m:Nat)(op:Bool)(w:World)(hl:Ints w a l)(hn:l.length=n)(hn2:n<=4096)(hk:k<=n)(hk2:k<n\/n=0)(hm0:1<=m)(hm:m<=999)(arg:Int)(h0:n=0)(hl0:l.length=0):
  Calls Tryz.prog 290 #[Yf a n c k (m:Int) op,.int .i64 37] w (XJ (XG l k 37 (m:Int) arg op) w):=by
 subst h0;unfold Yf;have hB:=(QD.new w #[.slice a 0 c,.int .i64 (k:Int),.int .i64 (m:Int),.bool op] 359).alloc (.cells #[.int .i64 0,.bool false] 361);obtain⟨c0,c1,c2,c3⟩:=hB.four;have hP:=QD.new (w.alloc (.cells #[.slice a 0 c,.int .i64 (k:Int),.int .i64 (m:Int),.bool op] 359)) #[.int .i64 0,.bool false] 361;rw[QJ]at hP;have hacc:=QS w (.cells #[.slice a 0 c,.int .i64 (k:Int),.int .i64 (m:Int),.bool op] 359) (.cells #[.int .i64 0,.bool false] 361);have hI:=hl.below hacc;have HN:=QQ hn;clear hn HN;have HR:=QQ (show XG l k 37 (m:Int) arg op=none by simp[XG,hl0]);clear hl0;exact Qkj
theorem Re(a:Option Addr)(n c:Nat)(l:List Int)(k m:Nat)(op:Bool)(w:World)(hl:Ints w a l)(hn:l.length=n)(hn2:n<=4096)(hk:k<=n)(hk2:k<n\/n=0)(hm0:1<=m)(hm:m<=999)(arg:Int)(h0:1<=n)(hl0:l.length≠0):
  Calls Tryz.prog 290 #[Yf a n c k (m:Int) op,.int .i64 36] w (XJ (XG l k 36 (m:Int) arg op) w):=by
 unfold Yf;have hB:=(QD.new w #[.slice a n c,.int .i64 (k:Int),.int .i64 (m:Int),.bool op] 359).alloc (.cells #[.int .i64 0,.bool false] 361);obtain⟨c0,c1,c2,c3⟩:=hB.four;have hP:=QD.new (w.alloc (.cells #[.slice a n c,.int .i64 (k:Int),.int .i64 (m:Int),.bool op] 359)) #[.int .i64 0,.bool false] 361;rw[QJ]at hP;have hacc:=QS w (.cells #[.slice a n c,.int .i64 (k:Int),.int .i64 (m:Int),.bool op] 359) (.cells #[.int .i64 0,.bool false] 361);have hI:=hl.below hacc;have HN:=QQ hn;have h0':((n:Int)==0)=false:=by simp;omega
 have hln:((l.length:Nat):Int)=(n:Int):=by omega
 have HR:=QQ (show XG l k 36 (m:Int) arg op=some ((n:Int)-1,true) by simp[XG,hl0,hln]);clear hn hln hl0;go_enter Tryz.func290,Tryz.ntmps290
 go_wp2;rw[HR.out];have hG:=(hP.set 0 (.int .i64 ((n:Int)-1))).set 1 (.bool true);obtain⟨q0,q1,-,-⟩:=QD.two hG;refine QV (v:=.tuple #[.agg #[.int .i64 ((n:Int)-1),.bool true],.int .i64 0]) (by simp[results,Tryz.results290,go_sem,q0,q1]) rfl ⟨rfl,?_⟩;exact QkN
theorem Nq(a:Option Addr)(n c:Nat)(l:List Int)(k m:Nat)(op:Bool)(w:World)(hl:Ints w a l)(hn:l.length=n)(hn2:n<=4096)(hk:k<=n)(hk2:k<n\/n=0)(hm0:1<=m)(hm:m<=999)(arg:Int)(h0:1<=n)(hl0:l.length≠0):
  Calls Tryz.prog 290 #[Yf a n c k (m:Int) op,.int .i64 124] w (XJ (XG l k 124 (m:Int) arg op) w):=by
 unfold Yf;have hB:=(QD.new w #[.slice a n c,.int .i64 (k:Int),.int .i64 (m:Int),.bool op] 359).alloc (.cells #[.int .i64 0,.bool false] 361);obtain⟨c0,c1,c2,c3⟩:=hB.four;have hP:=QD.new (w.alloc (.cells #[.slice a n c,.int .i64 (k:Int),.int .i64 (m:Int),.bool op] 359)) #[.int .i64 0,.bool false] 361;rw[QJ]at hP;have hacc:=QS w (.cells #[.slice a n c,.int .i64 (k:Int),.int .i64 (m:Int),.bool op] 359) (.cells #[.int .i64 0,.bool false] 361);have hI:=hl.below hacc;have HN:=QQ hn;have h0':((n:Int)==0)=false:=by simp;omega
 have hln:((l.length:Nat):Int)=(n:Int):=by omega
 rcases(show m<=n\/n<m by omega)with h1|h1
 ·have HM:=QQ (show min (m:Int) (n:Int)-1=(m:Int)-1 by omega)
  have HR:=QQ (show XG l k 124 (m:Int) arg op=some (min (m:Int) (n:Int)-1,false) by simp[XG,hl0,hln]);clear hn hln hl0;go_enter Tryz.func290,Tryz.ntmps290
  go_wp2;rw[HR.out,HM.out];have hG:=(hP.set 0 (.int .i64 ((m:Int)-1))).set 1 (.bool false);obtain⟨q0,q1,-,-⟩:=QD.two hG;refine QV (v:=.tuple #[.agg #[.int .i64 ((m:Int)-1),.bool false],.int .i64 0]) (by simp[results,Tryz.results290,go_sem,q0,q1]) rfl ⟨rfl,?_⟩;exact QkN
 ·have HM:=QQ (show min (m:Int) (n:Int)-1=(n:Int)-1 by omega)
  have HR:=QQ (show XG l k 124 (m:Int) arg op=some (min (m:Int) (n:Int)-1,false) by simp[XG,hl0,hln]);clear hn hln hl0;go_enter Tryz.func290,Tryz.ntmps290
  go_wp2;rw[HR.out,HM.out];have hG:=(hP.set 0 (.int .i64 ((n:Int)-1))).set 1 (.bool false);obtain⟨q0,q1,-,-⟩:=QD.two hG;refine QV (v:=.tuple #[.agg #[.int .i64 ((n:Int)-1),.bool false],.int .i64 0]) (by simp[results,Tryz.results290,go_sem,q0,q1]) rfl ⟨rfl,?_⟩;exact QkN
theorem Nz(a:Option Addr)(n c:Nat)(l:List Int)(k m:Nat)(op:Bool)(w:World)(hl:Ints w a l)(hn:l.length=n)(hn2:n<=4096)(hk:k<=n)(hk2:k<n\/n=0)(hm0:1<=m)(hm:m<=999)(arg:Int)(h0:1<=n)(hl0:l.length≠0):
  Calls Tryz.prog 290 #[Yf a n c k (m:Int) op,.int .i64 119] w (XJ (XG l k 119 (m:Int) arg op) w):=by
 unfold Yf;have hB:=(QD.new w #[.slice a n c,.int .i64 (k:Int),.int .i64 (m:Int),.bool op] 359).alloc (.cells #[.int .i64 0,.bool false] 361);obtain⟨c0,c1,c2,c3⟩:=hB.four;have hP:=QD.new (w.alloc (.cells #[.slice a n c,.int .i64 (k:Int),.int .i64 (m:Int),.bool op] 359)) #[.int .i64 0,.bool false] 361;rw[QJ]at hP;have hacc:=QS w (.cells #[.slice a n c,.int .i64 (k:Int),.int .i64 (m:Int),.bool op] 359) (.cells #[.int .i64 0,.bool false] 361);have hI:=hl.below hacc;have HN:=QQ hn;have h0':((n:Int)==0)=false:=by simp;omega
 have HR:=QQ (show XG l k 119 (m:Int) arg op=Jd l k m op false by
  unfold XG Jd;simp only[Qs];rw[if_neg (by decide),if_neg (by decide),if_neg (by decide),if_neg (by decide),if_neg (by decide),if_neg (by decide),if_neg (by decide),if_neg hl0,if_neg (by decide),if_neg (by decide)];first|(rw[if_pos (by decide)];rfl)|(rw[if_neg (by decide),if_pos (by decide)];rfl))
 clear hn hl0;obtain⟨r,hr⟩:∃r,Jd l k m op false=r:=⟨_,rfl⟩;have HR2:=QQ hr;clear hr;go_enter Tryz.func290,Tryz.ntmps290
 go_wp2_with ((go_at_call 301);refine(kH a n c l k m op false _ hI HN.out hn2 hk h0 (by omega)).mono ?_;rintro e w2 ⟨rfl,hb2⟩;rw[HR2.out];have hB2:=hB.below hb2 hB.lt;obtain⟨d0,d1,d2,d3⟩:=hB2.four;have hP2:=hP.below hb2 hP.lt;obtain⟨s0,s1,s2,s3⟩:=hP2.two;have Qc:=QW hacc (by simp;omega) hb2)
 exact QAp
theorem Ra(a:Option Addr)(n c:Nat)(l:List Int)(k m:Nat)(op:Bool)(w:World)(hl:Ints w a l)(hn:l.length=n)(hn2:n<=4096)(hk:k<=n)(hk2:k<n\/n=0)(hm0:1<=m)(hm:m<=999)(arg:Int)(h0:1<=n)(hl0:l.length≠0):
  Calls Tryz.prog 290 #[Yf a n c k (m:Int) op,.int .i64 87] w (XJ (XG l k 87 (m:Int) arg op) w):=by
 unfold Yf;have hB:=(QD.new w #[.slice a n c,.int .i64 (k:Int),.int .i64 (m:Int),.bool op] 359).alloc (.cells #[.int .i64 0,.bool false] 361);obtain⟨c0,c1,c2,c3⟩:=hB.four;have hP:=QD.new (w.alloc (.cells #[.slice a n c,.int .i64 (k:Int),.int .i64 (m:Int),.bool op] 359)) #[.int .i64 0,.bool false] 361;rw[QJ]at hP;have hacc:=QS w (.cells #[.slice a n c,.int .i64 (k:Int),.int .i64 (m:Int),.bool op] 359) (.cells #[.int .i64 0,.bool false] 361);have hI:=hl.below hacc;have HN:=QQ hn;have h0':((n:Int)==0)=false:=by simp;omega
 have HR:=QQ (show XG l k 87 (m:Int) arg op=Jd l k m op true by
  unfold XG Jd;simp only[Qs];rw[if_neg (by decide),if_neg (by decide),if_neg (by decide),if_neg (by decide),if_neg (by decide),if_neg (by decide),if_neg (by decide),if_neg hl0,if_neg (by decide),if_neg (by decide)];first|(rw[if_pos (by decide)];rfl)|(rw[if_neg (by decide),if_pos (by decide)];rfl))
 clear hn hl0;obtain⟨r,hr⟩:∃r,Jd l k m op true=r:=⟨_,rfl⟩;have HR2:=QQ hr;clear hr;go_enter Tryz.func290,Tryz.ntmps290
 go_wp2_with ((go_at_call 301);refine(kH a n c l k m op true _ hI HN.out hn2 hk h0 (by omega)).mono ?_;rintro e w2 ⟨rfl,hb2⟩;rw[HR2.out];have hB2:=hB.below hb2 hB.lt;obtain⟨d0,d1,d2,d3⟩:=hB2.four;have hP2:=hP.below hb2 hP.lt;obtain⟨s0,s1,s2,s3⟩:=hP2.two;have Qc:=QW hacc (by simp;omega) hb2)
 exact QAp
theorem Ny(a:Option Addr)(n c:Nat)(l:List Int)(k m:Nat)(op:Bool)(w:World)(hl:Ints w a l)(hn:l.length=n)(hn2:n<=4096)(hk:k<=n)(hk2:k<n\/n=0)(hm0:1<=m)(hm:m<=999)(arg:Int)(h0:1<=n)(hl0:l.length≠0):
  Calls Tryz.prog 290 #[Yf a n c k (m:Int) op,.int .i64 101] w (XJ (XG l k 101 (m:Int) arg op) w):=by
 unfold Yf;have hB:=(QD.new w #[.slice a n c,.int .i64 (k:Int),.int .i64 (m:Int),.bool op] 359).alloc (.cells #[.int .i64 0,.bool false] 361);obtain⟨c0,c1,c2,c3⟩:=hB.four;have hP:=QD.new (w.alloc (.cells #[.slice a n c,.int .i64 (k:Int),.int .i64 (m:Int),.bool op] 359)) #[.int .i64 0,.bool false] 361;rw[QJ]at hP;have hacc:=QS w (.cells #[.slice a n c,.int .i64 (k:Int),.int .i64 (m:Int),.bool op] 359) (.cells #[.int .i64 0,.bool false] 361);have hI:=hl.below hacc;have HN:=QQ hn;have h0':((n:Int)==0)=false:=by simp;omega
 have HR:=QQ (show XG l k 101 (m:Int) arg op=Uf l k m op false by
  unfold XG Uf;simp only[Qs];rw[if_neg (by decide),if_neg (by decide),if_neg (by decide),if_neg (by decide),if_neg (by decide),if_neg (by decide),if_neg (by decide),if_neg hl0,if_neg (by decide),if_neg (by decide)];first|(rw[if_pos (by decide)];rfl)|(rw[if_neg (by decide),if_pos (by decide)];rfl))
 clear hn hl0;obtain⟨r,hr⟩:∃r,Uf l k m op false=r:=⟨_,rfl⟩;have HR2:=QQ hr;clear hr;go_enter Tryz.func290,Tryz.ntmps290
 go_wp2_with ((go_at_call 302);refine(AO a n c l k m op false _ hI HN.out hn2 hk h0 (by omega)).mono ?_;rintro e w2 ⟨rfl,hb2⟩;rw[HR2.out];have hB2:=hB.below hb2 hB.lt;obtain⟨d0,d1,d2,d3⟩:=hB2.four;have hP2:=hP.below hb2 hP.lt;obtain⟨s0,s1,s2,s3⟩:=hP2.two;have Qc:=QW hacc (by simp;omega) hb2)
 exact QAp
theorem Rb(a:Option Addr)(n c:Nat)(l:List Int)(k m:Nat)(op:Bool)(w:World)(hl:Ints w a l)(hn:l.length=n)(hn2:n<=4096)(hk:k<=n)(hk2:k<n\/n=0)(hm0:1<=m)(hm:m<=999)(arg:Int)(h0:1<=n)(hl0:l.length≠0):
  Calls Tryz.prog 290 #[Yf a n c k (m:Int) op,.int .i64 69] w (XJ (XG l k 69 (m:Int) arg op) w):=by
 unfold Yf;have hB:=(QD.new w #[.slice a n c,.int .i64 (k:Int),.int .i64 (m:Int),.bool op] 359).alloc (.cells #[.int .i64 0,.bool false] 361);obtain⟨c0,c1,c2,c3⟩:=hB.four;have hP:=QD.new (w.alloc (.cells #[.slice a n c,.int .i64 (k:Int),.int .i64 (m:Int),.bool op] 359)) #[.int .i64 0,.bool false] 361;rw[QJ]at hP;have hacc:=QS w (.cells #[.slice a n c,.int .i64 (k:Int),.int .i64 (m:Int),.bool op] 359) (.cells #[.int .i64 0,.bool false] 361);have hI:=hl.below hacc;have HN:=QQ hn;have h0':((n:Int)==0)=false:=by simp;omega
 have HR:=QQ (show XG l k 69 (m:Int) arg op=Uf l k m op true by
  unfold XG Uf;simp only[Qs];rw[if_neg (by decide),if_neg (by decide),if_neg (by decide),if_neg (by decide),if_neg (by decide),if_neg (by decide),if_neg (by decide),if_neg hl0,if_neg (by decide),if_neg (by decide)];first|(rw[if_pos (by decide)];rfl)|(rw[if_neg (by decide),if_pos (by decide)];rfl))
 clear hn hl0;obtain⟨r,hr⟩:∃r,Uf l k m op true=r:=⟨_,rfl⟩;have HR2:=QQ hr;clear hr;go_enter Tryz.func290,Tryz.ntmps290
 go_wp2_with ((go_at_call 302);refine(AO a n c l k m op true _ hI HN.out hn2 hk h0 (by omega)).mono ?_;rintro e w2 ⟨rfl,hb2⟩;rw[HR2.out];have hB2:=hB.below hb2 hB.lt;obtain⟨d0,d1,d2,d3⟩:=hB2.four;have hP2:=hP.below hb2 hP.lt;obtain⟨s0,s1,s2,s3⟩:=hP2.two;have Qc:=QW hacc (by simp;omega) hb2)
 exact QAp
theorem Rc(a:Option Addr)(n c:Nat)(l:List Int)(k m:Nat)(op:Bool)(w:World)(hl:Ints w a l)(hn:l.length=n)(hn2:n<=4096)(hk:k<=n)(hk2:k<n\/n=0)(hm0:1<=m)(hm:m<=999)(arg:Int)(h0:1<=n)(hl0:l.length≠0):
  Calls Tryz.prog 290 #[Yf a n c k (m:Int) op,.int .i64 37] w (XJ (XG l k 37 (m:Int) arg op) w):=by
 unfold Yf;have hB:=(QD.new w #[.slice a n c,.int .i64 (k:Int),.int .i64 (m:Int),.bool op] 359).alloc (.cells #[.int .i64 0,.bool false] 361);obtain⟨c0,c1,c2,c3⟩:=hB.four;have hP:=QD.new (w.alloc (.cells #[.slice a n c,.int .i64 (k:Int),.int .i64 (m:Int),.bool op] 359)) #[.int .i64 0,.bool false] 361;rw[QJ]at hP;have hacc:=QS w (.cells #[.slice a n c,.int .i64 (k:Int),.int .i64 (m:Int),.bool op] 359) (.cells #[.int .i64 0,.bool false] 361);have hI:=hl.below hacc;have HN:=QQ hn;have h0':((n:Int)==0)=false:=by simp;omega
 have HR:=QQ (show XG l k 37 (m:Int) arg op=WE l k by
  unfold XG WE;rw[if_neg (by decide),if_neg (by decide),if_neg (by decide),if_neg (by decide),if_neg (by decide),if_neg (by decide),if_neg (by decide),if_neg hl0,if_neg (by decide),if_neg (by decide),if_neg (by decide),if_neg (by decide)])
 clear hn hl0;obtain⟨r,hr⟩:∃r,WE l k=r:=⟨_,rfl⟩;have HR2:=QQ hr;clear hr;go_enter Tryz.func290,Tryz.ntmps290
 go_wp2_with ((go_at_call 303);refine(Cr a n c l k m op _ hI HN.out hn2 hk).mono ?_;rintro e w2 ⟨rfl,hb2⟩;rw[HR2.out];have hB2:=hB.below hb2 hB.lt;obtain⟨d0,d1,d2,d3⟩:=hB2.four;have hP2:=hP.below hb2 hP.lt;obtain⟨s0,s1,s2,s3⟩:=hP2.two;have Qc:=QW hacc (by simp;omega) hb2)
 exact QAp
theorem OU(a:Option Addr)(n c:Nat)(l:List Int)(k m:Nat)(op:Bool)(w:World)(hl:Ints w a l)(hn:l.length=n)(hn2:n<=4096)(hk:k<=n)(hk2:k<n\/n=0)(hm0:1<=m)(hm:m<=999)(arg:Int):
  Calls Tryz.prog 289 #[Yf a n c k (m:Int) op,.int .i64 102,.int .i64 arg] w (XJ (XG l k 102 (m:Int) arg op) w):=by
 unfold Yf;have hB:=(QD.new w #[.slice a n c,.int .i64 (k:Int),.int .i64 (m:Int),.bool op] 359).alloc (.cells #[.int .i64 0,.bool false] 361);obtain⟨c0,c1,c2,c3⟩:=hB.four;have hP:=QD.new (w.alloc (.cells #[.slice a n c,.int .i64 (k:Int),.int .i64 (m:Int),.bool op] 359)) #[.int .i64 0,.bool false] 361;rw[QJ]at hP;have hacc:=QS w (.cells #[.slice a n c,.int .i64 (k:Int),.int .i64 (m:Int),.bool op] 359) (.cells #[.int .i64 0,.bool false] 361);have hI:=hl.below hacc;have HN:=QQ hn;have HB:=QQ (show∀x,(Xo l k arg)[m-1]? =some x->0<=x/\x<=n from fun x hx=>by
  have hx:=ZN hx;have:=jT _ _ _ _ x hx;omega)
 obtain⟨r,hr⟩:∃r,(Xo l k arg)[m-1]? =r:=⟨_,rfl⟩;have HR2:=QQ hr;have HR:=QQ (show XG l k 102 (m:Int) arg op=(match(Xo l k arg)[m-1]? with|some x=>some (x,true)|none=>none) by simp[XG];cases (Xo l k arg)[m-1]?<;>rfl);rw[HR2.out]at HR;have hbx:=HB.out;rw[hr]at hbx;clear hn hr HB;rcases r with _|x
 ·have HR3:=QQ (show XG l k 102 (m:Int) arg op=none from HR.out)
  exact QBy
 ·have HR3:=QQ (show XG l k 102 (m:Int) arg op=some (x,true)from HR.out)
  obtain⟨x1,x2⟩:=hbx x rfl;clear hbx;go_enter Tryz.func289,Tryz.ntmps289
  go_wp2_with ((go_at_call 297);refine(KG a n c l k m op arg _ hI HN.out hn2 hk hm0 (by omega)).mono ?_;rintro e w2 ⟨rfl,hb2⟩;rw[HR2.out];have hB2:=hB.below hb2 hB.lt;obtain⟨d0,d1,d2,d3⟩:=hB2.four;have hP2:=hP.below hb2 hP.lt;obtain⟨s0,s1,s2,s3⟩:=hP2.two;have Qc:=QW hacc (by simp;omega) hb2;have z1:gJ (some x)=x:=rfl;have z2:gY (some x)=0:=rfl)
  rw[HR3.out];have hG:=(hP2.set 0 (.int .i64 (x))).set 1 (.bool true);obtain⟨q0,q1,-,-⟩:=QD.two hG;refine QV (v:=.tuple #[.agg #[.int .i64 (x),.bool true],.int .i64 0]) (by simp[results,Tryz.results289,go_sem,q0,q1]) rfl ⟨rfl,?_⟩;exact QkC
theorem OJ(a:Option Addr)(n c:Nat)(l:List Int)(k m:Nat)(op:Bool)(w:World)(hl:Ints w a l)(hn:l.length=n)(hn2:n<=4096)(hk:k<=n)(hk2:k<n\/n=0)(hm0:1<=m)(hm:m<=999)(arg:Int):
  Calls Tryz.prog 289 #[Yf a n c k (m:Int) op,.int .i64 116,.int .i64 arg] w (XJ (XG l k 116 (m:Int) arg op) w):=by
 unfold Yf;have hB:=(QD.new w #[.slice a n c,.int .i64 (k:Int),.int .i64 (m:Int),.bool op] 359).alloc (.cells #[.int .i64 0,.bool false] 361);obtain⟨c0,c1,c2,c3⟩:=hB.four;have hP:=QD.new (w.alloc (.cells #[.slice a n c,.int .i64 (k:Int),.int .i64 (m:Int),.bool op] 359)) #[.int .i64 0,.bool false] 361;rw[QJ]at hP;have hacc:=QS w (.cells #[.slice a n c,.int .i64 (k:Int),.int .i64 (m:Int),.bool op] 359) (.cells #[.int .i64 0,.bool false] 361);have hI:=hl.below hacc;have HN:=QQ hn;have HB:=QQ (show∀x,(Xo l k arg)[m-1]? =some x->0<=x/\x<=n from fun x hx=>by
  have hx:=ZN hx;have:=jT _ _ _ _ x hx;omega)
 obtain⟨r,hr⟩:∃r,(Xo l k arg)[m-1]? =r:=⟨_,rfl⟩;have HR2:=QQ hr;have HR:=QQ (show XG l k 116 (m:Int) arg op=(match(Xo l k arg)[m-1]? with|some x=>some (x-1,true)|none=>none) by simp[XG];cases (Xo l k arg)[m-1]?<;>rfl);rw[HR2.out]at HR;have hbx:=HB.out;rw[hr]at hbx;clear hn hr HB;rcases r with _|x
 ·have HR3:=QQ (show XG l k 116 (m:Int) arg op=none from HR.out)
  exact QBy
 ·have HR3:=QQ (show XG l k 116 (m:Int) arg op=some (x-1,true)from HR.out)
  obtain⟨x1,x2⟩:=hbx x rfl;clear hbx;go_enter Tryz.func289,Tryz.ntmps289
  go_wp2_with ((go_at_call 297);refine(KG a n c l k m op arg _ hI HN.out hn2 hk hm0 (by omega)).mono ?_;rintro e w2 ⟨rfl,hb2⟩;rw[HR2.out];have hB2:=hB.below hb2 hB.lt;obtain⟨d0,d1,d2,d3⟩:=hB2.four;have hP2:=hP.below hb2 hP.lt;obtain⟨s0,s1,s2,s3⟩:=hP2.two;have Qc:=QW hacc (by simp;omega) hb2;have z1:gJ (some x)=x:=rfl;have z2:gY (some x)=0:=rfl)
  rw[HR3.out];have hG:=(hP2.set 0 (.int .i64 (x-1))).set 1 (.bool true);obtain⟨q0,q1,-,-⟩:=QD.two hG;refine QV (v:=.tuple #[.agg #[.int .i64 (x-1),.bool true],.int .i64 0]) (by simp[results,Tryz.results289,go_sem,q0,q1]) rfl ⟨rfl,?_⟩;exact QkC
theorem TG(a:Option Addr)(n c:Nat)(l:List Int)(k m:Nat)(op:Bool)(w:World)(hl:Ints w a l)(hn:l.length=n)(hn2:n<=4096)(hk:k<=n)(hk2:k<n\/n=0)(hm0:1<=m)(hm:m<=999)(arg:Int):
  Calls Tryz.prog 289 #[Yf a n c k (m:Int) op,.int .i64 70,.int .i64 arg] w (XJ (XG l k 70 (m:Int) arg op) w):=by
 unfold Yf;have hB:=(QD.new w #[.slice a n c,.int .i64 (k:Int),.int .i64 (m:Int),.bool op] 359).alloc (.cells #[.int .i64 0,.bool false] 361);obtain⟨c0,c1,c2,c3⟩:=hB.four;have hP:=QD.new (w.alloc (.cells #[.slice a n c,.int .i64 (k:Int),.int .i64 (m:Int),.bool op] 359)) #[.int .i64 0,.bool false] 361;rw[QJ]at hP;have hacc:=QS w (.cells #[.slice a n c,.int .i64 (k:Int),.int .i64 (m:Int),.bool op] 359) (.cells #[.int .i64 0,.bool false] 361);have hI:=hl.below hacc;have HN:=QQ hn;have HB:=QQ (show∀x,(X6 l k arg)[m-1]? =some x->0<=x/\x<=n from fun x hx=>by
  have hx:=ZN hx;have:=Bf _ _ _ x hx;omega)
 obtain⟨r,hr⟩:∃r,(X6 l k arg)[m-1]? =r:=⟨_,rfl⟩;have HR2:=QQ hr;have HR:=QQ (show XG l k 70 (m:Int) arg op=(match(X6 l k arg)[m-1]? with|some x=>some (x,false)|none=>none) by simp[XG];cases (X6 l k arg)[m-1]?<;>rfl);rw[HR2.out]at HR;have hbx:=HB.out;rw[hr]at hbx;clear hn hr HB;rcases r with _|x
 ·have HR3:=QQ (show XG l k 70 (m:Int) arg op=none from HR.out)
  exact QBj
 ·have HR3:=QQ (show XG l k 70 (m:Int) arg op=some (x,false)from HR.out)
  obtain⟨x1,x2⟩:=hbx x rfl;clear hbx;go_enter Tryz.func289,Tryz.ntmps289
  go_wp2_with ((go_at_call 297);refine(JN a n c l k m op arg _ hI HN.out hn2 hk hm0 (by omega)).mono ?_;rintro e w2 ⟨rfl,hb2⟩;rw[HR2.out];have hB2:=hB.below hb2 hB.lt;obtain⟨d0,d1,d2,d3⟩:=hB2.four;have hP2:=hP.below hb2 hP.lt;obtain⟨s0,s1,s2,s3⟩:=hP2.two;have Qc:=QW hacc (by simp;omega) hb2;have z1:gJ (some x)=x:=rfl;have z2:gY (some x)=0:=rfl)
  rw[HR3.out];have hG:=(hP2.set 0 (.int .i64 (x))).set 1 (.bool false);obtain⟨q0,q1,-,-⟩:=QD.two hG;refine QV (v:=.tuple #[.agg #[.int .i64 (x),.bool false],.int .i64 0]) (by simp[results,Tryz.results289,go_sem,q0,q1]) rfl ⟨rfl,?_⟩;exact QkC
theorem TF(a:Option Addr)(n c:Nat)(l:List Int)(k m:Nat)(op:Bool)(w:World)(hl:Ints w a l)(hn:l.length=n)(hn2:n<=4096)(hk:k<=n)(hk2:k<n\/n=0)(hm0:1<=m)(hm:m<=999)(arg:Int):
  Calls Tryz.prog 289 #[Yf a n c k (m:Int) op,.int .i64 84,.int .i64 arg] w (XJ (XG l k 84 (m:Int) arg op) w):=by
 unfold Yf;have hB:=(QD.new w #[.slice a n c,.int .i64 (k:Int),.int .i64 (m:Int),.bool op] 359).alloc (.cells #[.int .i64 0,.bool false] 361);obtain⟨c0,c1,c2,c3⟩:=hB.four;have hP:=QD.new (w.alloc (.cells #[.slice a n c,.int .i64 (k:Int),.int .i64 (m:Int),.bool op] 359)) #[.int .i64 0,.bool false] 361;rw[QJ]at hP;have hacc:=QS w (.cells #[.slice a n c,.int .i64 (k:Int),.int .i64 (m:Int),.bool op] 359) (.cells #[.int .i64 0,.bool false] 361);have hI:=hl.below hacc;have HN:=QQ hn;have HB:=QQ (show∀x,(X6 l k arg)[m-1]? =some x->0<=x/\x<=n from fun x hx=>by
  have hx:=ZN hx;have:=Bf _ _ _ x hx;omega)
 obtain⟨r,hr⟩:∃r,(X6 l k arg)[m-1]? =r:=⟨_,rfl⟩;have HR2:=QQ hr;have HR:=QQ (show XG l k 84 (m:Int) arg op=(match(X6 l k arg)[m-1]? with|some x=>some (x+1,false)|none=>none) by simp[XG];cases (X6 l k arg)[m-1]?<;>rfl);rw[HR2.out]at HR;have hbx:=HB.out;rw[hr]at hbx;clear hn hr HB;rcases r with _|x
 ·have HR3:=QQ (show XG l k 84 (m:Int) arg op=none from HR.out)
  exact QBj
 ·have HR3:=QQ (show XG l k 84 (m:Int) arg op=some (x+1,false)from HR.out)
  obtain⟨x1,x2⟩:=hbx x rfl;clear hbx;go_enter Tryz.func289,Tryz.ntmps289
  go_wp2_with ((go_at_call 297);refine(JN a n c l k m op arg _ hI HN.out hn2 hk hm0 (by omega)).mono ?_;rintro e w2 ⟨rfl,hb2⟩;rw[HR2.out];have hB2:=hB.below hb2 hB.lt;obtain⟨d0,d1,d2,d3⟩:=hB2.four;have hP2:=hP.below hb2 hP.lt;obtain⟨s0,s1,s2,s3⟩:=hP2.two;have Qc:=QW hacc (by simp;omega) hb2;have z1:gJ (some x)=x:=rfl;have z2:gY (some x)=0:=rfl)
  rw[HR3.out];have hG:=(hP2.set 0 (.int .i64 (x+1))).set 1 (.bool false);obtain⟨q0,q1,-,-⟩:=QD.two hG;refine QV (v:=.tuple #[.agg #[.int .i64 (x+1),.bool false],.int .i64 0]) (by simp[results,Tryz.results289,go_sem,q0,q1]) rfl ⟨rfl,?_⟩;exact QkC
theorem Wt(a:Option Addr)(n c:Nat)(l:List Int)(k m:Nat)(op:Bool)(w:World)(hl:Ints w a l)(hn:l.length=n)(hn2:n<=4096)(hk:k<=n)(hk2:k<n\/n=0)(hm0:1<=m)(hm:m<=999)(key arg:Int)(hK:Yn key=true)(hF:WI key=false):
  Calls Tryz.prog 290 #[Yf a n c k (m:Int) op,.int .i64 key] w (XJ (XG l k key (m:Int) arg op) w):=by
 have hn':n=0\/1<=n:=by omega
 rcases Eg key with rfl|rfl|rfl|rfl|rfl|rfl|rfl|rfl|rfl|rfl|rfl|rfl|rfl|rfl|rfl|rfl|rfl|h
 ·exact dE a n c l k m op w hl hn hn2 hk hk2 hm0 hm arg
 ·exact dC a n c l k m op w hl hn hn2 hk hk2 hm0 hm arg
 ·exact dO a n c l k m op w hl hn hn2 hk hk2 hm0 hm arg
 ·exact EF a n c l k m op w hl hn hn2 hk hk2 hm0 hm arg
 ·rcases hn' with h0|h0
  ·exact Bd a n c l k m op w hl hn hn2 hk hk2 hm0 hm arg h0 (by omega)
  ·exact Re a n c l k m op w hl hn hn2 hk hk2 hm0 hm arg h0 (by omega)
 ·rcases hn' with h0|h0
  ·exact uN a n c l k m op w hl hn hn2 hk hk2 hm0 hm arg h0 (by omega)
  ·exact Nq a n c l k m op w hl hn hn2 hk hk2 hm0 hm arg h0 (by omega)
 ·rcases hn' with h0|h0
  ·exact uO a n c l k m op w hl hn hn2 hk hk2 hm0 hm arg h0 (by omega)
  ·exact Nz a n c l k m op w hl hn hn2 hk hk2 hm0 hm arg h0 (by omega)
 ·rcases hn' with h0|h0
  ·exact Ba a n c l k m op w hl hn hn2 hk hk2 hm0 hm arg h0 (by omega)
  ·exact Ra a n c l k m op w hl hn hn2 hk hk2 hm0 hm arg h0 (by omega)
 ·exact dF a n c l k m op w hl hn hn2 hk hk2 hm0 hm arg
 ·exact dM a n c l k m op w hl hn hn2 hk hk2 hm0 hm arg
 ·rcases hn' with h0|h0
  ·exact uP a n c l k m op w hl hn hn2 hk hk2 hm0 hm arg h0 (by omega)
  ·exact Ny a n c l k m op w hl hn hn2 hk hk2 hm0 hm arg h0 (by omega)
 ·rcases hn' with h0|h0
  ·exact Bb a n c l k m op w hl hn hn2 hk hk2 hm0 hm arg h0 (by omega)
  ·exact Rb a n c l k m op w hl hn hn2 hk hk2 hm0 hm arg h0 (by omega)
 ·rcases hn' with h0|h0
  ·exact Bc a n c l k m op w hl hn hn2 hk hk2 hm0 hm arg h0 (by omega)
  ·exact Rc a n c l k m op w hl hn hn2 hk hk2 hm0 hm arg h0 (by omega)
 all_goals first|(simp[WI]at hF;done)|(rw[hK]at h;cases h)
theorem W9(a:Option Addr)(n c:Nat)(l:List Int)(k m:Nat)(op:Bool)(w:World)(hl:Ints w a l)(hn:l.length=n)(hn2:n<=4096)(hk:k<=n)(hk2:k<n\/n=0)(hm0:1<=m)(hm:m<=999)(key arg:Int)(hF:WI key=true):
  Calls Tryz.prog 289 #[Yf a n c k (m:Int) op,.int .i64 key,.int .i64 arg] w (XJ (XG l k key (m:Int) arg op) w):=by
 rcases(show key=102\/key=70\/key=116\/key=84 by simp[WI]at hF;omega)with rfl|rfl|rfl|rfl
 ·exact OU a n c l k m op w hl hn hn2 hk hk2 hm0 hm arg
 ·exact TG a n c l k m op w hl hn hn2 hk hk2 hm0 hm arg
 ·exact OJ a n c l k m op w hl hn hn2 hk hk2 hm0 hm arg
 ·exact TF a n c l k m op w hl hn hn2 hk hk2 hm0 hm arg
end Go.Proofs.YtmdcencmiopmmaaGreat

/- joined, no condition of its own. -/
import Derived.Test.YtmdnepkekekncaaGreatJfJ11
set_option linter.unusedVariables false
set_option linter.unusedSimpArgs false
set_option maxRecDepth 100000
set_option maxHeartbeats 12000000
namespace Go.Proofs.YtmdnepkekekncaaGreat
open Go.RowKit
def jv(P:Int->Int->Int->Prop)(w:World)(e:Ending)(w':World):Prop:=
 ∃a b er:Int,e=.returned (.tuple #[.agg #[.int .i64 a,.int .i64 b],.int .i64 er])/\P a b er/\Below w.heap.size w w'
theorem M8(a:Option Addr)(n c:Nat)(l:List Int)(big around:Bool)(k:Nat)(w:World)(ha:Ints w a l)(hn:l.length=n)(h2:n<=4096)(hk:k<n\/n=0):
  Calls Tryz.prog 170 #[.slice a n c,.int .i64 (k:Int),.bool around,.bool big] w (jv (Hy l around k big) w):=by
 by_cases h0:n=0
 ·subst h0
  refine(yT c k a around big w).mono ?_;rintro e w' ⟨rfl,hb⟩;exact⟨0,0,6,rfl,.inl ⟨hn,rfl,rfl,rfl⟩,hb⟩
 ·have hkn:k<n:=by omega
  have fin:∀e w',kN l big around k w e w'->jv (Hy l around k big) w e w':=by
   rintro e w' ⟨f,t,rfl,hW,_,hb⟩;exact⟨f,t,0,rfl,.inr ⟨QQ,rfl,f,t,rfl,rfl,hW⟩,hb⟩
  rcases around with _|_
  ·exact(uH a n c l big k w ha hn h2 hkn).mono fin
  ·exact(xY a n c l big k w ha hn h2 hkn).mono fin
theorem I9(a:Option Addr)(n c:Nat)(l:List Int)(k:Nat)(around:Bool)(q:Int)(w:World)(ha:Ints w a l)(hn:l.length=n)(h2:n<=4096)(hk:k<=4096):
  Calls Tryz.prog 172 #[.slice a n c,.int .i64 (k:Int),.bool around,.int .i64 q] w (jv (zm l k around q) w):=by
 refine(Cs a n c l k around q w ha hn h2 hk).mono ?_;rintro e w' ⟨⟨i,h1,h2,h3,rfl⟩|⟨h1,rfl⟩,hb⟩
 ·exact⟨_,_,0,rfl,.inl ⟨i,h1,h2,h3,rfl,rfl,rfl⟩,hb⟩
 ·exact⟨0,0,6,rfl,.inr ⟨h1,rfl,rfl,rfl⟩,hb⟩
theorem DD(a:Option Addr)(n c:Nat)(l:List Int)(k:Nat)(around:Bool)(o:Int)(w:World)(ha:Ints w a l)(hn:l.length=n)(h2:n<=4096)(hk:k<=4096):
  Calls Tryz.prog 171 #[.slice a n c,.int .i64 (k:Int),.bool around,.int .i64 o] w (jv (Vv l (Jr l n n).out k around o) w):=by
 refine(uI a n c l _ rfl k around o w ha hn h2 hk).mono ?_;rintro e w' ⟨⟨i,h0,h1,h2,h3,rfl⟩|⟨h1,rfl⟩,hb⟩
 ·exact⟨_,_,0,rfl,.inl ⟨i,h0,h1,h2,h3,rfl,rfl,rfl⟩,hb⟩
 ·exact⟨0,0,6,rfl,.inr ⟨h1,rfl,rfl,rfl⟩,hb⟩
theorem uK(a:Option Addr)(n c:Nat)(l:List Int)(k:Nat)(big around:Bool)(key:Int)(hkey:key=if big=true then 87 else 119)(w:World)(ha:Ints w a l)(hn:l.length=n)(h2:n<=4096)(hk:k<n\/k=0/\n=0):
  Calls Tryz.prog 156 #[.slice a n c,.int .i64 (k:Int),.bool around,.int .i64 key] w (Hz (Hy l around k big) w):=by
 have HN:=Zy hn;clear hn;have hA:=Za.new w #[.int .i64 0,.int .i64 0] 254;have hb:=ZR w (.cells #[.int .i64 0,.int .i64 0] 254);have HK:=Zy hk;have hm:¬max 0 ((n:Int)-1)<(k:Int):=QQ;have hm0:¬(k:Int)<0:=QQ;clear hk;rcases(by omega:(n:Int)<=1\/(1:Int)<(n:Int))with hq|hq<;>rcases big with _|_
 all_goals
  simp at hkey;subst hkey;go_enter Tryz.func156,Tryz.ntmps156
  go_wp2_with fail
  refine(M8 a n c l _ around k _ (ha.below hb) HN.out h2 (by have:=HK.out;omega)).mono ?_;exact QGN
theorem LA(a:Option Addr)(n c:Nat)(l:List Int)(k:Nat)(around:Bool)(key o:Int)(hkey:JZ key=o)(h0:o≠0)(w:World)(ha:Ints w a l)(hn:l.length=n)(h2:n<=4096)(hk:k<n\/k=0/\n=0):
  Calls Tryz.prog 156 #[.slice a n c,.int .i64 (k:Int),.bool around,.int .i64 key] w (Hz (Vv l (Jr l n n).out k around o) w):=by
 have HN:=Zy hn;clear hn;have hA:=Za.new w #[.int .i64 0,.int .i64 0] 254;have hb:=ZR w (.cells #[.int .i64 0,.int .i64 0] 254);have HK:=Zy hk;have hm:¬max 0 ((n:Int)-1)<(k:Int):=QQ;have hm0:¬(k:Int)<0:=QQ;clear hk;have hkw:key=40\/key=91\/key=123\/key=41\/key=93\/key=125:=by
  rcases zT key with h|h|h|h|h|h|⟨h1,h3,h4,h5,h6,h7⟩
  case inr.inr.inr.inr.inr.inr=>exact absurd (by rw[<-hkey];simp[JZ,h1,h3,h4,h5,h6,h7]) h0
  all_goals simp[h]
 rcases(by omega:(n:Int)<=1\/(1:Int)<(n:Int))with hq|hq<;>rcases hkw with h|h|h|h|h|h
 all_goals
  subst h;simp[JZ]at hkey;subst hkey;clear h0;go_enter Tryz.func156,Tryz.ntmps156
  go_wp2_with fail
  refine(DD a n c l k around _ _ (ha.below hb) HN.out h2 (by have:=HK.out;omega)).mono ?_;exact QGN
theorem Lv(a:Option Addr)(n c:Nat)(l:List Int)(k:Nat)(around:Bool)(key:Int)(hkey:key=34\/key=39\/key=96)(w:World)(ha:Ints w a l)(hn:l.length=n)(h2:n<=4096)(hk:k<n\/k=0/\n=0):
  Calls Tryz.prog 156 #[.slice a n c,.int .i64 (k:Int),.bool around,.int .i64 key] w (Hz (zm l k around key) w):=by
 have HN:=Zy hn;clear hn;have hA:=Za.new w #[.int .i64 0,.int .i64 0] 254;have hb:=ZR w (.cells #[.int .i64 0,.int .i64 0] 254);have HK:=Zy hk;have hm:¬max 0 ((n:Int)-1)<(k:Int):=QQ;have hm0:¬(k:Int)<0:=QQ;clear hk;rcases(by omega:(n:Int)<=1\/(1:Int)<(n:Int))with hq|hq<;>rcases hkey with h|h|h
 all_goals
  subst h;go_enter Tryz.func156,Tryz.ntmps156
  go_wp2_with fail
  refine(I9 a n c l k around _ _ (ha.below hb) HN.out h2 (by have:=HK.out;omega)).mono ?_;exact QGN
theorem Ct(a:Option Addr)(n c:Nat)(k:Nat)(around:Bool)(key:Int)(hw:key≠119)(hW:key≠87)(hq1:key≠34)(hq2:key≠39)(hq3:key≠96)(h0:JZ key=0)(w:World)(h2:n<=4096)(hk:k<n\/k=0/\n=0):
  Calls Tryz.prog 156 #[.slice a n c,.int .i64 (k:Int),.bool around,.int .i64 key] w (Hz (fun x y z=>x=0/\y=0/\z=9) w):=by
 have hA:=Za.new w #[.int .i64 0,.int .i64 0] 254;have hb:=ZR w (.cells #[.int .i64 0,.int .i64 0] 254);have hm:¬max 0 ((n:Int)-1)<(k:Int):=QQ;have hm0:¬(k:Int)<0:=QQ;clear hk;obtain⟨y0,y1,-,-⟩:=hA.two;rcases zT key with h|h|h|h|h|h|⟨h1,h3,h4,h5,h6,h7⟩
 case inr.inr.inr.inr.inr.inr=>
  clear h0 hA;have b1:(key==119)=false:=by simpa using hw
  have b2:(key==87)=false:=by simpa using hW
  have b3:(key==34)=false:=by simpa using hq1
  have b4:(key==39)=false:=by simpa using hq2
  have b5:(key==96)=false:=by simpa using hq3
  have b6:(key==40)=false:=QEX;have b7:(key==91)=false:=QEQ;have b8:(key==123)=false:=QEa;have b9:(key==41)=false:=by simpa using h5
  have b10:(key==93)=false:=by simpa using h6
  have b11:(key==125)=false:=by simpa using h7
  clear hw hW hq1 hq2 hq3 h1 h3 h4 h5 h6 h7;go_enter Tryz.func156,Tryz.ntmps156
  go_wp2
  all_goals
   go_quiet (fail)
   go_wp2;go_ret3
   exact⟨0,0,9,rfl,⟨rfl,rfl,rfl⟩,below_drewN hb _⟩
 all_goals
  subst h;simp[JZ]at h0
theorem qZ(a:Option Addr)(n c:Nat)(l:List Int)(k:Nat)(around:Bool)(key:Int)(w:World)(ha:Ints w a l)(hn:l.length=n)(h2:n<=4096)(hk:k<n\/k=0/\n=0):
  Calls Tryz.prog 156 #[.slice a n c,.int .i64 (k:Int),.bool around,.int .i64 key] w (Hz (DN l (Jr l n n).out around k key) w):=by
 have fin:∀(P Q:Int->Int->Int->Prop),(∀x y z,P x y z->Q x y z)->∀e w',Hz P w e w'->Hz Q w e w':=by
  rintro P Q hPQ e w' ⟨x,y,z,he,hP,hb⟩;exact⟨x,y,z,he,hPQ x y z hP,hb⟩
 by_cases h1:key=119
 ·exact(uK a n c l k false around key QEX w ha hn h2 hk).mono (fin _ _ fun x y z h=>by unfold DN;rw[if_pos h1];exact h)
 ·by_cases h3:key=87
  ·exact(uK a n c l k true around key QEQ w ha hn h2 hk).mono (fin _ _ fun x y z h=>by unfold DN;rw[if_neg h1,if_pos h3];exact h)
  ·by_cases h4:key=34\/key=39\/key=96
   ·exact(Lv a n c l k around key h4 w ha hn h2 hk).mono (fin _ _ fun x y z h=>by unfold DN;rw[if_neg h1,if_neg h3,if_pos h4];exact h)
   ·by_cases h5:JZ key=0
    ·exact(Ct a n c k around key h1 h3 (fun h=>h4 (.inl h)) (fun h=>h4 (.inr (.inl h))) (fun h=>h4 (.inr (.inr h))) h5 w h2 hk).mono (fin _ _ fun x y z h=>by unfold DN;rw[if_neg h1,if_neg h3,if_neg h4,if_pos h5];exact h)
    ·exact(LA a n c l k around key _ rfl h5 w ha hn h2 hk).mono (fin _ _ fun x y z h=>by unfold DN;rw[if_neg h1,if_neg h3,if_neg h4,if_neg h5];exact h)
end Go.Proofs.YtmdnepkekekncaaGreat
